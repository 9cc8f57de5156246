/-
  No cell of these rows narrows 'for every input' (looked for: loops, veiled, ifaces, maps, wideKeys, modest, calm, conditions, laid).
  DERIVED. THE GIVEN ROWS OF THIS SEAT. 9 by the template 'for every input the law returns true; each argument reads behind the call as it read before'; 0 by the template 'total and deterministic' (their statements: YtclkoehdmpcggaaTotals.lean).
  GIVEN WITH THE SEED: the statements are not yours to turn. If you find one false, say at which input.
  Laid BY PROGRAM, IN A SANDBOX (cutbox-rows.mjs): the forced cells as the released guide's own fill.sh prints them over the translation 38635543db0a1736… (all of the seat's roots in one cut). By AI agents, Wed Nov 11 2026. No macro, syntax, notation, axiom, sorry.
-/
import Derived.Test.YtclkoehdmpcggaaChecked
import GoSem.Claim
import GoSem.ClaimJoined
import GoSem.ClaimMapViews
import Derived.JoinedTies
import Derived.KernelRfl
namespace Go.Proofs.Ytclkoehdmpcggaa
/- THE CELL 'sum', in the pinned program and in every row, IS THE sha256 OF THE DUMP (.gsa) THAT YtclkoehdmpcggaaProg.lean LOADS. Nothing in Lean hashes anything: it is a label: what it is worth is what the hold of that sum in a sandbox is worth. -/
noncomputable def Try.pinned : Pinned := { name := "ytclkoehdmpcggaa", sum := "38635543db0a1736719d305a3d9a0eeeb8a89cdc65229535405f5aa4bf067e1c", checked := Try.checked }
namespace Rows
def none {H : Type} : Left H := { results := [], args := [] }

/-- 'laws.FnExactBossFall': WHATEVER THE INPUT: true; the input reads as it did. -/
def fnExactBossFallSpec : ChangeSpec := { name := "fnExactBossFall", fn := fun _ => fun
  | [d1, d2, d3] => { results := [.lit (.bool true)], args := [d1, d2, d3] }
  | _ => none }
def fnExactBossFallRow : OpenClaim := { program := "ytclkoehdmpcggaa", sum := "38635543db0a1736719d305a3d9a0eeeb8a89cdc65229535405f5aa4bf067e1c", func := "loop.example/kilncrew/laws.FnExactBossFall", spec := "fnExactBossFall", apart := false }
def FnExactBossFallSaid : Prop := fnExactBossFallRow.holds Try.pinned (OpenSpec.ofChange fnExactBossFallSpec)

/-- ITS FALSE NEIGHBOUR: 'it returns false'. Refute it at one input. -/
def fnExactBossFallWrong : ChangeSpec := { name := "fnExactBossFall", fn := fun _ => fun
  | [d1, d2, d3] => { results := [.lit (.bool false)], args := [d1, d2, d3] }
  | _ => none }
def FnExactBossFallWrongFalsely : Prop := fnExactBossFallRow.holds Try.pinned (OpenSpec.ofChange fnExactBossFallWrong)

/-- 'laws.FnExactBossRise': WHATEVER THE INPUT: true; the input reads as it did. -/
def fnExactBossRiseSpec : ChangeSpec := { name := "fnExactBossRise", fn := fun _ => fun
  | [d1, d2] => { results := [.lit (.bool true)], args := [d1, d2] }
  | _ => none }
def fnExactBossRiseRow : OpenClaim := { program := "ytclkoehdmpcggaa", sum := "38635543db0a1736719d305a3d9a0eeeb8a89cdc65229535405f5aa4bf067e1c", func := "loop.example/kilncrew/laws.FnExactBossRise", spec := "fnExactBossRise", apart := false }
def FnExactBossRiseSaid : Prop := fnExactBossRiseRow.holds Try.pinned (OpenSpec.ofChange fnExactBossRiseSpec)

/-- ITS FALSE NEIGHBOUR: 'it returns false'. Refute it at one input. -/
def fnExactBossRiseWrong : ChangeSpec := { name := "fnExactBossRise", fn := fun _ => fun
  | [d1, d2] => { results := [.lit (.bool false)], args := [d1, d2] }
  | _ => none }
def FnExactBossRiseWrongFalsely : Prop := fnExactBossRiseRow.holds Try.pinned (OpenSpec.ofChange fnExactBossRiseWrong)

/-- 'laws.FnExactNewWorld': WHATEVER THE INPUT: true; the input reads as it did. -/
def fnExactNewWorldSpec : ChangeSpec := { name := "fnExactNewWorld", fn := fun _ => fun
  | [d1, d2, d3] => { results := [.lit (.bool true)], args := [d1, d2, d3] }
  | _ => none }
def fnExactNewWorldRow : OpenClaim := { program := "ytclkoehdmpcggaa", sum := "38635543db0a1736719d305a3d9a0eeeb8a89cdc65229535405f5aa4bf067e1c", func := "loop.example/kilncrew/laws.FnExactNewWorld", spec := "fnExactNewWorld", apart := false }
def FnExactNewWorldSaid : Prop := fnExactNewWorldRow.holds Try.pinned (OpenSpec.ofChange fnExactNewWorldSpec)

/-- ITS FALSE NEIGHBOUR: 'it returns false'. Refute it at one input. -/
def fnExactNewWorldWrong : ChangeSpec := { name := "fnExactNewWorld", fn := fun _ => fun
  | [d1, d2, d3] => { results := [.lit (.bool false)], args := [d1, d2, d3] }
  | _ => none }
def FnExactNewWorldWrongFalsely : Prop := fnExactNewWorldRow.holds Try.pinned (OpenSpec.ofChange fnExactNewWorldWrong)

/-- 'laws.FnExactValidWorld': WHATEVER THE INPUT: true; the input reads as it did. -/
def fnExactValidWorldSpec : ChangeSpec := { name := "fnExactValidWorld", fn := fun _ => fun
  | [d] => { results := [.lit (.bool true)], args := [d] }
  | _ => none }
def fnExactValidWorldRow : OpenClaim := { program := "ytclkoehdmpcggaa", sum := "38635543db0a1736719d305a3d9a0eeeb8a89cdc65229535405f5aa4bf067e1c", func := "loop.example/kilncrew/laws.FnExactValidWorld", spec := "fnExactValidWorld", apart := false }
def FnExactValidWorldSaid : Prop := fnExactValidWorldRow.holds Try.pinned (OpenSpec.ofChange fnExactValidWorldSpec)

/-- ITS FALSE NEIGHBOUR: 'it returns false'. Refute it at one input. -/
def fnExactValidWorldWrong : ChangeSpec := { name := "fnExactValidWorld", fn := fun _ => fun
  | [d] => { results := [.lit (.bool false)], args := [d] }
  | _ => none }
def FnExactValidWorldWrongFalsely : Prop := fnExactValidWorldRow.holds Try.pinned (OpenSpec.ofChange fnExactValidWorldWrong)

/-- 'laws.FnExactFinished': WHATEVER THE INPUT: true; the input reads as it did. -/
def fnExactFinishedSpec : ChangeSpec := { name := "fnExactFinished", fn := fun _ => fun
  | [d] => { results := [.lit (.bool true)], args := [d] }
  | _ => none }
def fnExactFinishedRow : OpenClaim := { program := "ytclkoehdmpcggaa", sum := "38635543db0a1736719d305a3d9a0eeeb8a89cdc65229535405f5aa4bf067e1c", func := "loop.example/kilncrew/laws.FnExactFinished", spec := "fnExactFinished", apart := false }
def FnExactFinishedSaid : Prop := fnExactFinishedRow.holds Try.pinned (OpenSpec.ofChange fnExactFinishedSpec)

/-- ITS FALSE NEIGHBOUR: 'it returns false'. Refute it at one input. -/
def fnExactFinishedWrong : ChangeSpec := { name := "fnExactFinished", fn := fun _ => fun
  | [d] => { results := [.lit (.bool false)], args := [d] }
  | _ => none }
def FnExactFinishedWrongFalsely : Prop := fnExactFinishedRow.holds Try.pinned (OpenSpec.ofChange fnExactFinishedWrong)

/-- 'laws.FnExactWrong': WHATEVER THE INPUT: true; the input reads as it did. -/
def fnExactWrongSpec : ChangeSpec := { name := "fnExactWrong", fn := fun _ => fun
  | [d] => { results := [.lit (.bool true)], args := [d] }
  | _ => none }
def fnExactWrongRow : OpenClaim := { program := "ytclkoehdmpcggaa", sum := "38635543db0a1736719d305a3d9a0eeeb8a89cdc65229535405f5aa4bf067e1c", func := "loop.example/kilncrew/laws.FnExactWrong", spec := "fnExactWrong", apart := false }
def FnExactWrongSaid : Prop := fnExactWrongRow.holds Try.pinned (OpenSpec.ofChange fnExactWrongSpec)

/-- ITS FALSE NEIGHBOUR: 'it returns false'. Refute it at one input. -/
def fnExactWrongWrong : ChangeSpec := { name := "fnExactWrong", fn := fun _ => fun
  | [d] => { results := [.lit (.bool false)], args := [d] }
  | _ => none }
def FnExactWrongWrongFalsely : Prop := fnExactWrongRow.holds Try.pinned (OpenSpec.ofChange fnExactWrongWrong)

/-- 'laws.FnExactBossTick': WHATEVER THE INPUT: true; the input reads as it did. -/
def fnExactBossTickSpec : ChangeSpec := { name := "fnExactBossTick", fn := fun _ => fun
  | [d1, d2] => { results := [.lit (.bool true)], args := [d1, d2] }
  | _ => none }
def fnExactBossTickRow : OpenClaim := { program := "ytclkoehdmpcggaa", sum := "38635543db0a1736719d305a3d9a0eeeb8a89cdc65229535405f5aa4bf067e1c", func := "loop.example/kilncrew/laws.FnExactBossTick", spec := "fnExactBossTick", apart := false }
def FnExactBossTickSaid : Prop := fnExactBossTickRow.holds Try.pinned (OpenSpec.ofChange fnExactBossTickSpec)

/-- ITS FALSE NEIGHBOUR: 'it returns false'. Refute it at one input. -/
def fnExactBossTickWrong : ChangeSpec := { name := "fnExactBossTick", fn := fun _ => fun
  | [d1, d2] => { results := [.lit (.bool false)], args := [d1, d2] }
  | _ => none }
def FnExactBossTickWrongFalsely : Prop := fnExactBossTickRow.holds Try.pinned (OpenSpec.ofChange fnExactBossTickWrong)

/-- 'laws.FnEntries': WHATEVER THE INPUT: true; the input reads as it did. -/
def fnEntriesSpec : ChangeSpec := { name := "fnEntries", fn := fun _ => fun
  | [d] => { results := [.lit (.bool true)], args := [d] }
  | _ => none }
def fnEntriesRow : OpenClaim := { program := "ytclkoehdmpcggaa", sum := "38635543db0a1736719d305a3d9a0eeeb8a89cdc65229535405f5aa4bf067e1c", func := "loop.example/kilncrew/laws.FnEntries", spec := "fnEntries", recurses := true, apart := false }
def FnEntriesSaid : Prop := fnEntriesRow.holds Try.pinned (OpenSpec.ofChange fnEntriesSpec)

/-- ITS FALSE NEIGHBOUR: 'it returns false'. Refute it at one input. -/
def fnEntriesWrong : ChangeSpec := { name := "fnEntries", fn := fun _ => fun
  | [d] => { results := [.lit (.bool false)], args := [d] }
  | _ => none }
def FnEntriesWrongFalsely : Prop := fnEntriesRow.holds Try.pinned (OpenSpec.ofChange fnEntriesWrong)

/-- 'laws.FnWorker': WHATEVER THE INPUT: true; the input reads as it did. -/
def fnWorkerSpec : ChangeSpec := { name := "fnWorker", fn := fun _ => fun
  | [d] => { results := [.lit (.bool true)], args := [d] }
  | _ => none }
def fnWorkerRow : OpenClaim := { program := "ytclkoehdmpcggaa", sum := "38635543db0a1736719d305a3d9a0eeeb8a89cdc65229535405f5aa4bf067e1c", func := "loop.example/kilncrew/laws.FnWorker", spec := "fnWorker", recurses := true, apart := false }
def FnWorkerSaid : Prop := fnWorkerRow.holds Try.pinned (OpenSpec.ofChange fnWorkerSpec)

/-- ITS FALSE NEIGHBOUR: 'it returns false'. Refute it at one input. -/
def fnWorkerWrong : ChangeSpec := { name := "fnWorker", fn := fun _ => fun
  | [d] => { results := [.lit (.bool false)], args := [d] }
  | _ => none }
def FnWorkerWrongFalsely : Prop := fnWorkerRow.holds Try.pinned (OpenSpec.ofChange fnWorkerWrong)

/- THE SECOND FORM. 'bulk': how many values and letters a reading holds, each counted each time it is reached (what is shared counts as often as it is met; a slice's spare places count too). A statement '..UptoSaid' is the law's where the arguments, and the package variables that the reading takes, are together of bulk at most 1048576: NARROWER than '..Said'. Prove '..Said' where nothing that the law and all that it calls make is longer than what came in: it says more and counts as full. Else prove '..UptoSaid'. A law counts once. -/
mutual
def uptoBulk {H : Type} : DataW H → Nat
  | .lit (.string bytes) => bytes.length + 1
  | .lit _ => 1
  | .nil => 1
  | .ptr d => uptoBulk d + 1
  | .slice elems spare => uptoBulkAll elems + uptoBulkAll spare + 1
  | .agg parts => uptoBulkAll parts + 1
  | .iface _ d => uptoBulk d + 1
  | .map entries => uptoBulkEntries entries + 1
  | .held _ => 1
def uptoBulkAll {H : Type} : List (DataW H) → Nat
  | [] => 0
  | d :: r => uptoBulk d + uptoBulkAll r
def uptoBulkEntries {H : Type} : List (Lit × DataW H) → Nat
  | [] => 0
  | x :: r => uptoBulkEntry x + uptoBulkEntries r
def uptoBulkEntry {H : Type} : Lit × DataW H → Nat
  | (.string bytes, d) => bytes.length + uptoBulk d + 1
  | (_, d) => uptoBulk d + 1
 end
def uptoSmall : (H : Type) → List (DataW H) → Bool := fun _ ds => decide (uptoBulkAll ds ≤ 1048576)
def OpenSpec.upto (s : _root_.Go.ChangeSpec) : _root_.Go.OpenSpec := { _root_.Go.OpenSpec.ofChange s with cond := some uptoSmall }

/-- 'laws.FnExactBossFall', WHERE WHAT IT READS IS OF BULK AT MOST 1048576: true; the input reads as it did. -/
def fnExactBossFallUptoRow : OpenClaim := { program := "ytclkoehdmpcggaa", sum := "38635543db0a1736719d305a3d9a0eeeb8a89cdc65229535405f5aa4bf067e1c", func := "loop.example/kilncrew/laws.FnExactBossFall", spec := "fnExactBossFall", apart := false, narrowed := true }
def FnExactBossFallUptoSaid : Prop := fnExactBossFallUptoRow.holds Try.pinned (OpenSpec.upto fnExactBossFallSpec)

/-- 'laws.FnExactBossRise', WHERE WHAT IT READS IS OF BULK AT MOST 1048576: true; the input reads as it did. -/
def fnExactBossRiseUptoRow : OpenClaim := { program := "ytclkoehdmpcggaa", sum := "38635543db0a1736719d305a3d9a0eeeb8a89cdc65229535405f5aa4bf067e1c", func := "loop.example/kilncrew/laws.FnExactBossRise", spec := "fnExactBossRise", apart := false, narrowed := true }
def FnExactBossRiseUptoSaid : Prop := fnExactBossRiseUptoRow.holds Try.pinned (OpenSpec.upto fnExactBossRiseSpec)

/-- 'laws.FnExactNewWorld', WHERE WHAT IT READS IS OF BULK AT MOST 1048576: true; the input reads as it did. -/
def fnExactNewWorldUptoRow : OpenClaim := { program := "ytclkoehdmpcggaa", sum := "38635543db0a1736719d305a3d9a0eeeb8a89cdc65229535405f5aa4bf067e1c", func := "loop.example/kilncrew/laws.FnExactNewWorld", spec := "fnExactNewWorld", apart := false, narrowed := true }
def FnExactNewWorldUptoSaid : Prop := fnExactNewWorldUptoRow.holds Try.pinned (OpenSpec.upto fnExactNewWorldSpec)

/-- 'laws.FnExactValidWorld', WHERE WHAT IT READS IS OF BULK AT MOST 1048576: true; the input reads as it did. -/
def fnExactValidWorldUptoRow : OpenClaim := { program := "ytclkoehdmpcggaa", sum := "38635543db0a1736719d305a3d9a0eeeb8a89cdc65229535405f5aa4bf067e1c", func := "loop.example/kilncrew/laws.FnExactValidWorld", spec := "fnExactValidWorld", apart := false, narrowed := true }
def FnExactValidWorldUptoSaid : Prop := fnExactValidWorldUptoRow.holds Try.pinned (OpenSpec.upto fnExactValidWorldSpec)

/-- 'laws.FnExactFinished', WHERE WHAT IT READS IS OF BULK AT MOST 1048576: true; the input reads as it did. -/
def fnExactFinishedUptoRow : OpenClaim := { program := "ytclkoehdmpcggaa", sum := "38635543db0a1736719d305a3d9a0eeeb8a89cdc65229535405f5aa4bf067e1c", func := "loop.example/kilncrew/laws.FnExactFinished", spec := "fnExactFinished", apart := false, narrowed := true }
def FnExactFinishedUptoSaid : Prop := fnExactFinishedUptoRow.holds Try.pinned (OpenSpec.upto fnExactFinishedSpec)

/-- 'laws.FnExactWrong', WHERE WHAT IT READS IS OF BULK AT MOST 1048576: true; the input reads as it did. -/
def fnExactWrongUptoRow : OpenClaim := { program := "ytclkoehdmpcggaa", sum := "38635543db0a1736719d305a3d9a0eeeb8a89cdc65229535405f5aa4bf067e1c", func := "loop.example/kilncrew/laws.FnExactWrong", spec := "fnExactWrong", apart := false, narrowed := true }
def FnExactWrongUptoSaid : Prop := fnExactWrongUptoRow.holds Try.pinned (OpenSpec.upto fnExactWrongSpec)

/-- 'laws.FnExactBossTick', WHERE WHAT IT READS IS OF BULK AT MOST 1048576: true; the input reads as it did. -/
def fnExactBossTickUptoRow : OpenClaim := { program := "ytclkoehdmpcggaa", sum := "38635543db0a1736719d305a3d9a0eeeb8a89cdc65229535405f5aa4bf067e1c", func := "loop.example/kilncrew/laws.FnExactBossTick", spec := "fnExactBossTick", apart := false, narrowed := true }
def FnExactBossTickUptoSaid : Prop := fnExactBossTickUptoRow.holds Try.pinned (OpenSpec.upto fnExactBossTickSpec)

/-- 'laws.FnEntries', WHERE WHAT IT READS IS OF BULK AT MOST 1048576: true; the input reads as it did. -/
def fnEntriesUptoRow : OpenClaim := { program := "ytclkoehdmpcggaa", sum := "38635543db0a1736719d305a3d9a0eeeb8a89cdc65229535405f5aa4bf067e1c", func := "loop.example/kilncrew/laws.FnEntries", spec := "fnEntries", recurses := true, apart := false, narrowed := true }
def FnEntriesUptoSaid : Prop := fnEntriesUptoRow.holds Try.pinned (OpenSpec.upto fnEntriesSpec)

/-- 'laws.FnWorker', WHERE WHAT IT READS IS OF BULK AT MOST 1048576: true; the input reads as it did. -/
def fnWorkerUptoRow : OpenClaim := { program := "ytclkoehdmpcggaa", sum := "38635543db0a1736719d305a3d9a0eeeb8a89cdc65229535405f5aa4bf067e1c", func := "loop.example/kilncrew/laws.FnWorker", spec := "fnWorker", recurses := true, apart := false, narrowed := true }
def FnWorkerUptoSaid : Prop := fnWorkerUptoRow.holds Try.pinned (OpenSpec.upto fnWorkerSpec)

end Rows
end Go.Proofs.Ytclkoehdmpcggaa

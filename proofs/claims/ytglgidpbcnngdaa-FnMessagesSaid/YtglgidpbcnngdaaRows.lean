/-
  No cell of these rows narrows 'for every input' (looked for: loops, veiled, ifaces, maps, wideKeys, modest, calm, conditions, laid).
  DERIVED. THE GIVEN ROWS OF THIS SEAT. 12 by the template 'for every input the law returns true; each argument reads behind the call as it read before'; 0 by the template 'total and deterministic' (their statements: YtglgidpbcnngdaaTotals.lean).
  GIVEN WITH THE SEED: the statements are not yours to turn. If you find one false, say at which input.
  Laid BY PROGRAM, IN A SANDBOX (cutbox-rows.mjs): the forced cells as the released guide's own fill.sh prints them over the translation e34e743dbbe1e8e8… (all of the seat's roots in one cut). By AI agents, Wed Nov 11 2026. No macro, syntax, notation, axiom, sorry.
-/
import Derived.Test.YtglgidpbcnngdaaChecked
import GoSem.Claim
import GoSem.ClaimJoined
import GoSem.ClaimMapViews
import Derived.JoinedTies
import Derived.KernelRfl
namespace Go.Proofs.Ytglgidpbcnngdaa
/- THE CELL 'sum', in the pinned program and in every row, IS THE sha256 OF THE DUMP (.gsa) THAT YtglgidpbcnngdaaProg.lean LOADS. Nothing in Lean hashes anything: it is a label: what it is worth is what the hold of that sum in a sandbox is worth. -/
noncomputable def Try.pinned : Pinned := { name := "ytglgidpbcnngdaa", sum := "e34e743dbbe1e8e881a30763039df3cbdbea2892a6f36f1b2db1fd65f4303109", checked := Try.checked }
namespace Rows
def none {H : Type} : Left H := { results := [], args := [] }

/-- 'laws.FnExactFormMessage': WHATEVER THE INPUT: true; the input reads as it did. -/
def fnExactFormMessageSpec : ChangeSpec := { name := "fnExactFormMessage", fn := fun _ => fun
  | [d1, d2] => { results := [.lit (.bool true)], args := [d1, d2] }
  | _ => none }
def fnExactFormMessageRow : OpenClaim := { program := "ytglgidpbcnngdaa", sum := "e34e743dbbe1e8e881a30763039df3cbdbea2892a6f36f1b2db1fd65f4303109", func := "loop.example/kilncrew/laws.FnExactFormMessage", spec := "fnExactFormMessage", apart := false }
def FnExactFormMessageSaid : Prop := fnExactFormMessageRow.holds Try.pinned (OpenSpec.ofChange fnExactFormMessageSpec)

/-- ITS FALSE NEIGHBOUR: 'it returns false'. Refute it at one input. -/
def fnExactFormMessageWrong : ChangeSpec := { name := "fnExactFormMessage", fn := fun _ => fun
  | [d1, d2] => { results := [.lit (.bool false)], args := [d1, d2] }
  | _ => none }
def FnExactFormMessageWrongFalsely : Prop := fnExactFormMessageRow.holds Try.pinned (OpenSpec.ofChange fnExactFormMessageWrong)

/-- 'laws.FnPlan': WHATEVER THE INPUT: true; the input reads as it did. -/
def fnPlanSpec : ChangeSpec := { name := "fnPlan", fn := fun _ => fun
  | [d] => { results := [.lit (.bool true)], args := [d] }
  | _ => none }
def fnPlanRow : OpenClaim := { program := "ytglgidpbcnngdaa", sum := "e34e743dbbe1e8e881a30763039df3cbdbea2892a6f36f1b2db1fd65f4303109", func := "loop.example/kilncrew/laws.FnPlan", spec := "fnPlan", recurses := true, apart := false }
def FnPlanSaid : Prop := fnPlanRow.holds Try.pinned (OpenSpec.ofChange fnPlanSpec)

/-- ITS FALSE NEIGHBOUR: 'it returns false'. Refute it at one input. -/
def fnPlanWrong : ChangeSpec := { name := "fnPlan", fn := fun _ => fun
  | [d] => { results := [.lit (.bool false)], args := [d] }
  | _ => none }
def FnPlanWrongFalsely : Prop := fnPlanRow.holds Try.pinned (OpenSpec.ofChange fnPlanWrong)

/-- 'laws.FnExactReadMessage': WHATEVER THE INPUT: true; the input reads as it did. -/
def fnExactReadMessageSpec : ChangeSpec := { name := "fnExactReadMessage", fn := fun _ => fun
  | [d1, d2] => { results := [.lit (.bool true)], args := [d1, d2] }
  | _ => none }
def fnExactReadMessageRow : OpenClaim := { program := "ytglgidpbcnngdaa", sum := "e34e743dbbe1e8e881a30763039df3cbdbea2892a6f36f1b2db1fd65f4303109", func := "loop.example/kilncrew/laws.FnExactReadMessage", spec := "fnExactReadMessage", apart := false }
def FnExactReadMessageSaid : Prop := fnExactReadMessageRow.holds Try.pinned (OpenSpec.ofChange fnExactReadMessageSpec)

/-- ITS FALSE NEIGHBOUR: 'it returns false'. Refute it at one input. -/
def fnExactReadMessageWrong : ChangeSpec := { name := "fnExactReadMessage", fn := fun _ => fun
  | [d1, d2] => { results := [.lit (.bool false)], args := [d1, d2] }
  | _ => none }
def FnExactReadMessageWrongFalsely : Prop := fnExactReadMessageRow.holds Try.pinned (OpenSpec.ofChange fnExactReadMessageWrong)

/-- 'laws.FnExactTruth': WHATEVER THE INPUT: true; the input reads as it did. -/
def fnExactTruthSpec : ChangeSpec := { name := "fnExactTruth", fn := fun _ => fun
  | [d] => { results := [.lit (.bool true)], args := [d] }
  | _ => none }
def fnExactTruthRow : OpenClaim := { program := "ytglgidpbcnngdaa", sum := "e34e743dbbe1e8e881a30763039df3cbdbea2892a6f36f1b2db1fd65f4303109", func := "loop.example/kilncrew/laws.FnExactTruth", spec := "fnExactTruth", apart := false }
def FnExactTruthSaid : Prop := fnExactTruthRow.holds Try.pinned (OpenSpec.ofChange fnExactTruthSpec)

/-- ITS FALSE NEIGHBOUR: 'it returns false'. Refute it at one input. -/
def fnExactTruthWrong : ChangeSpec := { name := "fnExactTruth", fn := fun _ => fun
  | [d] => { results := [.lit (.bool false)], args := [d] }
  | _ => none }
def FnExactTruthWrongFalsely : Prop := fnExactTruthRow.holds Try.pinned (OpenSpec.ofChange fnExactTruthWrong)

/-- 'laws.FnMessages': WHATEVER THE INPUT: true; the input reads as it did. -/
def fnMessagesSpec : ChangeSpec := { name := "fnMessages", fn := fun _ => fun
  | [d] => { results := [.lit (.bool true)], args := [d] }
  | _ => none }
def fnMessagesRow : OpenClaim := { program := "ytglgidpbcnngdaa", sum := "e34e743dbbe1e8e881a30763039df3cbdbea2892a6f36f1b2db1fd65f4303109", func := "loop.example/kilncrew/laws.FnMessages", spec := "fnMessages", recurses := true, apart := false }
def FnMessagesSaid : Prop := fnMessagesRow.holds Try.pinned (OpenSpec.ofChange fnMessagesSpec)

/-- ITS FALSE NEIGHBOUR: 'it returns false'. Refute it at one input. -/
def fnMessagesWrong : ChangeSpec := { name := "fnMessages", fn := fun _ => fun
  | [d] => { results := [.lit (.bool false)], args := [d] }
  | _ => none }
def FnMessagesWrongFalsely : Prop := fnMessagesRow.holds Try.pinned (OpenSpec.ofChange fnMessagesWrong)

/-- 'laws.FnExactReplay': WHATEVER THE INPUT: true; the input reads as it did. -/
def fnExactReplaySpec : ChangeSpec := { name := "fnExactReplay", fn := fun _ => fun
  | [d1, d2] => { results := [.lit (.bool true)], args := [d1, d2] }
  | _ => none }
def fnExactReplayRow : OpenClaim := { program := "ytglgidpbcnngdaa", sum := "e34e743dbbe1e8e881a30763039df3cbdbea2892a6f36f1b2db1fd65f4303109", func := "loop.example/kilncrew/laws.FnExactReplay", spec := "fnExactReplay", apart := false }
def FnExactReplaySaid : Prop := fnExactReplayRow.holds Try.pinned (OpenSpec.ofChange fnExactReplaySpec)

/-- ITS FALSE NEIGHBOUR: 'it returns false'. Refute it at one input. -/
def fnExactReplayWrong : ChangeSpec := { name := "fnExactReplay", fn := fun _ => fun
  | [d1, d2] => { results := [.lit (.bool false)], args := [d1, d2] }
  | _ => none }
def FnExactReplayWrongFalsely : Prop := fnExactReplayRow.holds Try.pinned (OpenSpec.ofChange fnExactReplayWrong)

/-- 'laws.FnExactPost': WHATEVER THE INPUT: true; the input reads as it did. -/
def fnExactPostSpec : ChangeSpec := { name := "fnExactPost", fn := fun _ => fun
  | [d1, d2, d3] => { results := [.lit (.bool true)], args := [d1, d2, d3] }
  | _ => none }
def fnExactPostRow : OpenClaim := { program := "ytglgidpbcnngdaa", sum := "e34e743dbbe1e8e881a30763039df3cbdbea2892a6f36f1b2db1fd65f4303109", func := "loop.example/kilncrew/laws.FnExactPost", spec := "fnExactPost", apart := false }
def FnExactPostSaid : Prop := fnExactPostRow.holds Try.pinned (OpenSpec.ofChange fnExactPostSpec)

/-- ITS FALSE NEIGHBOUR: 'it returns false'. Refute it at one input. -/
def fnExactPostWrong : ChangeSpec := { name := "fnExactPost", fn := fun _ => fun
  | [d1, d2, d3] => { results := [.lit (.bool false)], args := [d1, d2, d3] }
  | _ => none }
def FnExactPostWrongFalsely : Prop := fnExactPostRow.holds Try.pinned (OpenSpec.ofChange fnExactPostWrong)

/-- 'laws.FnEntries': WHATEVER THE INPUT: true; the input reads as it did. -/
def fnEntriesSpec : ChangeSpec := { name := "fnEntries", fn := fun _ => fun
  | [d] => { results := [.lit (.bool true)], args := [d] }
  | _ => none }
def fnEntriesRow : OpenClaim := { program := "ytglgidpbcnngdaa", sum := "e34e743dbbe1e8e881a30763039df3cbdbea2892a6f36f1b2db1fd65f4303109", func := "loop.example/kilncrew/laws.FnEntries", spec := "fnEntries", recurses := true, apart := false }
def FnEntriesSaid : Prop := fnEntriesRow.holds Try.pinned (OpenSpec.ofChange fnEntriesSpec)

/-- ITS FALSE NEIGHBOUR: 'it returns false'. Refute it at one input. -/
def fnEntriesWrong : ChangeSpec := { name := "fnEntries", fn := fun _ => fun
  | [d] => { results := [.lit (.bool false)], args := [d] }
  | _ => none }
def FnEntriesWrongFalsely : Prop := fnEntriesRow.holds Try.pinned (OpenSpec.ofChange fnEntriesWrong)

/-- 'laws.FnWorker': WHATEVER THE INPUT: true; the input reads as it did. -/
def fnWorkerSpec : ChangeSpec := { name := "fnWorker", fn := fun _ => fun
  | [d] => { results := [.lit (.bool true)], args := [d] }
  | _ => none }
def fnWorkerRow : OpenClaim := { program := "ytglgidpbcnngdaa", sum := "e34e743dbbe1e8e881a30763039df3cbdbea2892a6f36f1b2db1fd65f4303109", func := "loop.example/kilncrew/laws.FnWorker", spec := "fnWorker", recurses := true, apart := false }
def FnWorkerSaid : Prop := fnWorkerRow.holds Try.pinned (OpenSpec.ofChange fnWorkerSpec)

/-- ITS FALSE NEIGHBOUR: 'it returns false'. Refute it at one input. -/
def fnWorkerWrong : ChangeSpec := { name := "fnWorker", fn := fun _ => fun
  | [d] => { results := [.lit (.bool false)], args := [d] }
  | _ => none }
def FnWorkerWrongFalsely : Prop := fnWorkerRow.holds Try.pinned (OpenSpec.ofChange fnWorkerWrong)

/-- 'laws.FnExactWorkerTick': WHATEVER THE INPUT: true; the input reads as it did. -/
def fnExactWorkerTickSpec : ChangeSpec := { name := "fnExactWorkerTick", fn := fun _ => fun
  | [d1, d2] => { results := [.lit (.bool true)], args := [d1, d2] }
  | _ => none }
def fnExactWorkerTickRow : OpenClaim := { program := "ytglgidpbcnngdaa", sum := "e34e743dbbe1e8e881a30763039df3cbdbea2892a6f36f1b2db1fd65f4303109", func := "loop.example/kilncrew/laws.FnExactWorkerTick", spec := "fnExactWorkerTick", apart := false }
def FnExactWorkerTickSaid : Prop := fnExactWorkerTickRow.holds Try.pinned (OpenSpec.ofChange fnExactWorkerTickSpec)

/-- ITS FALSE NEIGHBOUR: 'it returns false'. Refute it at one input. -/
def fnExactWorkerTickWrong : ChangeSpec := { name := "fnExactWorkerTick", fn := fun _ => fun
  | [d1, d2] => { results := [.lit (.bool false)], args := [d1, d2] }
  | _ => none }
def FnExactWorkerTickWrongFalsely : Prop := fnExactWorkerTickRow.holds Try.pinned (OpenSpec.ofChange fnExactWorkerTickWrong)

/-- 'laws.FnExactWorkerTake': WHATEVER THE INPUT: true; the input reads as it did. -/
def fnExactWorkerTakeSpec : ChangeSpec := { name := "fnExactWorkerTake", fn := fun _ => fun
  | [d1, d2, d3] => { results := [.lit (.bool true)], args := [d1, d2, d3] }
  | _ => none }
def fnExactWorkerTakeRow : OpenClaim := { program := "ytglgidpbcnngdaa", sum := "e34e743dbbe1e8e881a30763039df3cbdbea2892a6f36f1b2db1fd65f4303109", func := "loop.example/kilncrew/laws.FnExactWorkerTake", spec := "fnExactWorkerTake", apart := false }
def FnExactWorkerTakeSaid : Prop := fnExactWorkerTakeRow.holds Try.pinned (OpenSpec.ofChange fnExactWorkerTakeSpec)

/-- ITS FALSE NEIGHBOUR: 'it returns false'. Refute it at one input. -/
def fnExactWorkerTakeWrong : ChangeSpec := { name := "fnExactWorkerTake", fn := fun _ => fun
  | [d1, d2, d3] => { results := [.lit (.bool false)], args := [d1, d2, d3] }
  | _ => none }
def FnExactWorkerTakeWrongFalsely : Prop := fnExactWorkerTakeRow.holds Try.pinned (OpenSpec.ofChange fnExactWorkerTakeWrong)

/-- 'laws.FnExactValidBoss': WHATEVER THE INPUT: true; the input reads as it did. -/
def fnExactValidBossSpec : ChangeSpec := { name := "fnExactValidBoss", fn := fun _ => fun
  | [d1, d2] => { results := [.lit (.bool true)], args := [d1, d2] }
  | _ => none }
def fnExactValidBossRow : OpenClaim := { program := "ytglgidpbcnngdaa", sum := "e34e743dbbe1e8e881a30763039df3cbdbea2892a6f36f1b2db1fd65f4303109", func := "loop.example/kilncrew/laws.FnExactValidBoss", spec := "fnExactValidBoss", apart := false }
def FnExactValidBossSaid : Prop := fnExactValidBossRow.holds Try.pinned (OpenSpec.ofChange fnExactValidBossSpec)

/-- ITS FALSE NEIGHBOUR: 'it returns false'. Refute it at one input. -/
def fnExactValidBossWrong : ChangeSpec := { name := "fnExactValidBoss", fn := fun _ => fun
  | [d1, d2] => { results := [.lit (.bool false)], args := [d1, d2] }
  | _ => none }
def FnExactValidBossWrongFalsely : Prop := fnExactValidBossRow.holds Try.pinned (OpenSpec.ofChange fnExactValidBossWrong)

/- THE SECOND FORM. 'bulk': how many values and letters a reading holds, each counted each time it is reached (what is shared counts as often as it is met; a slice's spare places count too). A statement '..UptoSaid' is the law's where the arguments, and the package variables that the reading takes, are together of bulk at most 1048576: NARROWER than '..Said'. Prove '..Said' where nothing that the law and all that it calls make is longer than what came in: it says more and counts as full. Else prove '..UptoSaid'. A law counts once. -/
mutual
def uptoBulk {H : Type} : DataW H → Nat
  | .lit (.string bytes) => bytes.length + 1
  | .lit _ => 1
  | .nil => 1
  | .ptr d => uptoBulk d + 1
  | .slice elems spare => uptoBulkAll elems + uptoBulkAll spare + 1
  | .agg parts => uptoBulkAll parts + 1
  | .iface _ d => uptoBulk d + 1
  | .map entries => uptoBulkEntries entries + 1
  | .held _ => 1
def uptoBulkAll {H : Type} : List (DataW H) → Nat
  | [] => 0
  | d :: r => uptoBulk d + uptoBulkAll r
def uptoBulkEntries {H : Type} : List (Lit × DataW H) → Nat
  | [] => 0
  | x :: r => uptoBulkEntry x + uptoBulkEntries r
def uptoBulkEntry {H : Type} : Lit × DataW H → Nat
  | (.string bytes, d) => bytes.length + uptoBulk d + 1
  | (_, d) => uptoBulk d + 1
 end
def uptoSmall : (H : Type) → List (DataW H) → Bool := fun _ ds => decide (uptoBulkAll ds ≤ 1048576)
def OpenSpec.upto (s : _root_.Go.ChangeSpec) : _root_.Go.OpenSpec := { _root_.Go.OpenSpec.ofChange s with cond := some uptoSmall }

/-- 'laws.FnExactFormMessage', WHERE WHAT IT READS IS OF BULK AT MOST 1048576: true; the input reads as it did. -/
def fnExactFormMessageUptoRow : OpenClaim := { program := "ytglgidpbcnngdaa", sum := "e34e743dbbe1e8e881a30763039df3cbdbea2892a6f36f1b2db1fd65f4303109", func := "loop.example/kilncrew/laws.FnExactFormMessage", spec := "fnExactFormMessage", apart := false, narrowed := true }
def FnExactFormMessageUptoSaid : Prop := fnExactFormMessageUptoRow.holds Try.pinned (OpenSpec.upto fnExactFormMessageSpec)

/-- 'laws.FnPlan', WHERE WHAT IT READS IS OF BULK AT MOST 1048576: true; the input reads as it did. -/
def fnPlanUptoRow : OpenClaim := { program := "ytglgidpbcnngdaa", sum := "e34e743dbbe1e8e881a30763039df3cbdbea2892a6f36f1b2db1fd65f4303109", func := "loop.example/kilncrew/laws.FnPlan", spec := "fnPlan", recurses := true, apart := false, narrowed := true }
def FnPlanUptoSaid : Prop := fnPlanUptoRow.holds Try.pinned (OpenSpec.upto fnPlanSpec)

/-- 'laws.FnExactReadMessage', WHERE WHAT IT READS IS OF BULK AT MOST 1048576: true; the input reads as it did. -/
def fnExactReadMessageUptoRow : OpenClaim := { program := "ytglgidpbcnngdaa", sum := "e34e743dbbe1e8e881a30763039df3cbdbea2892a6f36f1b2db1fd65f4303109", func := "loop.example/kilncrew/laws.FnExactReadMessage", spec := "fnExactReadMessage", apart := false, narrowed := true }
def FnExactReadMessageUptoSaid : Prop := fnExactReadMessageUptoRow.holds Try.pinned (OpenSpec.upto fnExactReadMessageSpec)

/-- 'laws.FnExactTruth', WHERE WHAT IT READS IS OF BULK AT MOST 1048576: true; the input reads as it did. -/
def fnExactTruthUptoRow : OpenClaim := { program := "ytglgidpbcnngdaa", sum := "e34e743dbbe1e8e881a30763039df3cbdbea2892a6f36f1b2db1fd65f4303109", func := "loop.example/kilncrew/laws.FnExactTruth", spec := "fnExactTruth", apart := false, narrowed := true }
def FnExactTruthUptoSaid : Prop := fnExactTruthUptoRow.holds Try.pinned (OpenSpec.upto fnExactTruthSpec)

/-- 'laws.FnMessages', WHERE WHAT IT READS IS OF BULK AT MOST 1048576: true; the input reads as it did. -/
def fnMessagesUptoRow : OpenClaim := { program := "ytglgidpbcnngdaa", sum := "e34e743dbbe1e8e881a30763039df3cbdbea2892a6f36f1b2db1fd65f4303109", func := "loop.example/kilncrew/laws.FnMessages", spec := "fnMessages", recurses := true, apart := false, narrowed := true }
def FnMessagesUptoSaid : Prop := fnMessagesUptoRow.holds Try.pinned (OpenSpec.upto fnMessagesSpec)

/-- 'laws.FnExactReplay', WHERE WHAT IT READS IS OF BULK AT MOST 1048576: true; the input reads as it did. -/
def fnExactReplayUptoRow : OpenClaim := { program := "ytglgidpbcnngdaa", sum := "e34e743dbbe1e8e881a30763039df3cbdbea2892a6f36f1b2db1fd65f4303109", func := "loop.example/kilncrew/laws.FnExactReplay", spec := "fnExactReplay", apart := false, narrowed := true }
def FnExactReplayUptoSaid : Prop := fnExactReplayUptoRow.holds Try.pinned (OpenSpec.upto fnExactReplaySpec)

/-- 'laws.FnExactPost', WHERE WHAT IT READS IS OF BULK AT MOST 1048576: true; the input reads as it did. -/
def fnExactPostUptoRow : OpenClaim := { program := "ytglgidpbcnngdaa", sum := "e34e743dbbe1e8e881a30763039df3cbdbea2892a6f36f1b2db1fd65f4303109", func := "loop.example/kilncrew/laws.FnExactPost", spec := "fnExactPost", apart := false, narrowed := true }
def FnExactPostUptoSaid : Prop := fnExactPostUptoRow.holds Try.pinned (OpenSpec.upto fnExactPostSpec)

/-- 'laws.FnEntries', WHERE WHAT IT READS IS OF BULK AT MOST 1048576: true; the input reads as it did. -/
def fnEntriesUptoRow : OpenClaim := { program := "ytglgidpbcnngdaa", sum := "e34e743dbbe1e8e881a30763039df3cbdbea2892a6f36f1b2db1fd65f4303109", func := "loop.example/kilncrew/laws.FnEntries", spec := "fnEntries", recurses := true, apart := false, narrowed := true }
def FnEntriesUptoSaid : Prop := fnEntriesUptoRow.holds Try.pinned (OpenSpec.upto fnEntriesSpec)

/-- 'laws.FnWorker', WHERE WHAT IT READS IS OF BULK AT MOST 1048576: true; the input reads as it did. -/
def fnWorkerUptoRow : OpenClaim := { program := "ytglgidpbcnngdaa", sum := "e34e743dbbe1e8e881a30763039df3cbdbea2892a6f36f1b2db1fd65f4303109", func := "loop.example/kilncrew/laws.FnWorker", spec := "fnWorker", recurses := true, apart := false, narrowed := true }
def FnWorkerUptoSaid : Prop := fnWorkerUptoRow.holds Try.pinned (OpenSpec.upto fnWorkerSpec)

/-- 'laws.FnExactWorkerTick', WHERE WHAT IT READS IS OF BULK AT MOST 1048576: true; the input reads as it did. -/
def fnExactWorkerTickUptoRow : OpenClaim := { program := "ytglgidpbcnngdaa", sum := "e34e743dbbe1e8e881a30763039df3cbdbea2892a6f36f1b2db1fd65f4303109", func := "loop.example/kilncrew/laws.FnExactWorkerTick", spec := "fnExactWorkerTick", apart := false, narrowed := true }
def FnExactWorkerTickUptoSaid : Prop := fnExactWorkerTickUptoRow.holds Try.pinned (OpenSpec.upto fnExactWorkerTickSpec)

/-- 'laws.FnExactWorkerTake', WHERE WHAT IT READS IS OF BULK AT MOST 1048576: true; the input reads as it did. -/
def fnExactWorkerTakeUptoRow : OpenClaim := { program := "ytglgidpbcnngdaa", sum := "e34e743dbbe1e8e881a30763039df3cbdbea2892a6f36f1b2db1fd65f4303109", func := "loop.example/kilncrew/laws.FnExactWorkerTake", spec := "fnExactWorkerTake", apart := false, narrowed := true }
def FnExactWorkerTakeUptoSaid : Prop := fnExactWorkerTakeUptoRow.holds Try.pinned (OpenSpec.upto fnExactWorkerTakeSpec)

/-- 'laws.FnExactValidBoss', WHERE WHAT IT READS IS OF BULK AT MOST 1048576: true; the input reads as it did. -/
def fnExactValidBossUptoRow : OpenClaim := { program := "ytglgidpbcnngdaa", sum := "e34e743dbbe1e8e881a30763039df3cbdbea2892a6f36f1b2db1fd65f4303109", func := "loop.example/kilncrew/laws.FnExactValidBoss", spec := "fnExactValidBoss", apart := false, narrowed := true }
def FnExactValidBossUptoSaid : Prop := fnExactValidBossUptoRow.holds Try.pinned (OpenSpec.upto fnExactValidBossSpec)

end Rows
end Go.Proofs.Ytglgidpbcnngdaa

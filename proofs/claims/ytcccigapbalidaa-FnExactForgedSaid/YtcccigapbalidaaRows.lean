/-
  No cell of these rows narrows 'for every input' (looked for: loops, veiled, ifaces, maps, wideKeys, modest, calm, conditions, laid).
  DERIVED. THE GIVEN ROWS OF THIS SEAT. 12 by the template 'for every input the law returns true; each argument reads behind the call as it read before'; 0 by the template 'total and deterministic' (their statements: YtcccigapbalidaaTotals.lean).
  GIVEN WITH THE SEED: the statements are not yours to turn. If you find one false, say at which input.
  Laid BY PROGRAM, IN A SANDBOX (cutbox-rows.mjs): the forced cells as the released guide's own fill.sh prints them over the translation 020592143d48a4e2… (all of the seat's roots in one cut). By AI agents, Wed Nov 11 2026. No macro, syntax, notation, axiom, sorry.
-/
import Derived.Test.YtcccigapbalidaaChecked
import GoSem.Claim
import GoSem.ClaimJoined
import GoSem.ClaimMapViews
import Derived.JoinedTies
import Derived.KernelRfl
namespace Go.Proofs.Ytcccigapbalidaa
/- THE CELL 'sum', in the pinned program and in every row, IS THE sha256 OF THE DUMP (.gsa) THAT YtcccigapbalidaaProg.lean LOADS. Nothing in Lean hashes anything: it is a label: what it is worth is what the hold of that sum in a sandbox is worth. -/
noncomputable def Try.pinned : Pinned := { name := "ytcccigapbalidaa", sum := "020592143d48a4e2588f7e6c5b523e40750688fcd0de6b3e72a6617fbc29db64", checked := Try.checked }
namespace Rows
def none {H : Type} : Left H := { results := [], args := [] }

/-- 'laws.FnExactConstants': WHATEVER THE INPUT: true; the input reads as it did. -/
def fnExactConstantsSpec : ChangeSpec := { name := "fnExactConstants", fn := fun _ => fun
  | [] => { results := [.lit (.bool true)], args := [] }
  | _ => none }
def fnExactConstantsRow : OpenClaim := { program := "ytcccigapbalidaa", sum := "020592143d48a4e2588f7e6c5b523e40750688fcd0de6b3e72a6617fbc29db64", func := "loop.example/kilncrew/laws.FnExactConstants", spec := "fnExactConstants", apart := false }
def FnExactConstantsSaid : Prop := fnExactConstantsRow.holds Try.pinned (OpenSpec.ofChange fnExactConstantsSpec)

/-- ITS FALSE NEIGHBOUR: 'it returns false'. Refute it at one input. -/
def fnExactConstantsWrong : ChangeSpec := { name := "fnExactConstants", fn := fun _ => fun
  | [] => { results := [.lit (.bool false)], args := [] }
  | _ => none }
def FnExactConstantsWrongFalsely : Prop := fnExactConstantsRow.holds Try.pinned (OpenSpec.ofChange fnExactConstantsWrong)

/-- 'laws.FnExactFormEntry': WHATEVER THE INPUT: true; the input reads as it did. -/
def fnExactFormEntrySpec : ChangeSpec := { name := "fnExactFormEntry", fn := fun _ => fun
  | [d] => { results := [.lit (.bool true)], args := [d] }
  | _ => none }
def fnExactFormEntryRow : OpenClaim := { program := "ytcccigapbalidaa", sum := "020592143d48a4e2588f7e6c5b523e40750688fcd0de6b3e72a6617fbc29db64", func := "loop.example/kilncrew/laws.FnExactFormEntry", spec := "fnExactFormEntry", apart := false }
def FnExactFormEntrySaid : Prop := fnExactFormEntryRow.holds Try.pinned (OpenSpec.ofChange fnExactFormEntrySpec)

/-- ITS FALSE NEIGHBOUR: 'it returns false'. Refute it at one input. -/
def fnExactFormEntryWrong : ChangeSpec := { name := "fnExactFormEntry", fn := fun _ => fun
  | [d] => { results := [.lit (.bool false)], args := [d] }
  | _ => none }
def FnExactFormEntryWrongFalsely : Prop := fnExactFormEntryRow.holds Try.pinned (OpenSpec.ofChange fnExactFormEntryWrong)

/-- 'laws.FnExactReadEntry': WHATEVER THE INPUT: true; the input reads as it did. -/
def fnExactReadEntrySpec : ChangeSpec := { name := "fnExactReadEntry", fn := fun _ => fun
  | [d] => { results := [.lit (.bool true)], args := [d] }
  | _ => none }
def fnExactReadEntryRow : OpenClaim := { program := "ytcccigapbalidaa", sum := "020592143d48a4e2588f7e6c5b523e40750688fcd0de6b3e72a6617fbc29db64", func := "loop.example/kilncrew/laws.FnExactReadEntry", spec := "fnExactReadEntry", apart := false }
def FnExactReadEntrySaid : Prop := fnExactReadEntryRow.holds Try.pinned (OpenSpec.ofChange fnExactReadEntrySpec)

/-- ITS FALSE NEIGHBOUR: 'it returns false'. Refute it at one input. -/
def fnExactReadEntryWrong : ChangeSpec := { name := "fnExactReadEntry", fn := fun _ => fun
  | [d] => { results := [.lit (.bool false)], args := [d] }
  | _ => none }
def FnExactReadEntryWrongFalsely : Prop := fnExactReadEntryRow.holds Try.pinned (OpenSpec.ofChange fnExactReadEntryWrong)

/-- 'laws.FnExactValue': WHATEVER THE INPUT: true; the input reads as it did. -/
def fnExactValueSpec : ChangeSpec := { name := "fnExactValue", fn := fun _ => fun
  | [d1, d2] => { results := [.lit (.bool true)], args := [d1, d2] }
  | _ => none }
def fnExactValueRow : OpenClaim := { program := "ytcccigapbalidaa", sum := "020592143d48a4e2588f7e6c5b523e40750688fcd0de6b3e72a6617fbc29db64", func := "loop.example/kilncrew/laws.FnExactValue", spec := "fnExactValue", apart := false }
def FnExactValueSaid : Prop := fnExactValueRow.holds Try.pinned (OpenSpec.ofChange fnExactValueSpec)

/-- ITS FALSE NEIGHBOUR: 'it returns false'. Refute it at one input. -/
def fnExactValueWrong : ChangeSpec := { name := "fnExactValue", fn := fun _ => fun
  | [d1, d2] => { results := [.lit (.bool false)], args := [d1, d2] }
  | _ => none }
def FnExactValueWrongFalsely : Prop := fnExactValueRow.holds Try.pinned (OpenSpec.ofChange fnExactValueWrong)

/-- 'laws.FnExactLose': WHATEVER THE INPUT: true; the input reads as it did. -/
def fnExactLoseSpec : ChangeSpec := { name := "fnExactLose", fn := fun _ => fun
  | [d1, d2] => { results := [.lit (.bool true)], args := [d1, d2] }
  | _ => none }
def fnExactLoseRow : OpenClaim := { program := "ytcccigapbalidaa", sum := "020592143d48a4e2588f7e6c5b523e40750688fcd0de6b3e72a6617fbc29db64", func := "loop.example/kilncrew/laws.FnExactLose", spec := "fnExactLose", apart := false }
def FnExactLoseSaid : Prop := fnExactLoseRow.holds Try.pinned (OpenSpec.ofChange fnExactLoseSpec)

/-- ITS FALSE NEIGHBOUR: 'it returns false'. Refute it at one input. -/
def fnExactLoseWrong : ChangeSpec := { name := "fnExactLose", fn := fun _ => fun
  | [d1, d2] => { results := [.lit (.bool false)], args := [d1, d2] }
  | _ => none }
def FnExactLoseWrongFalsely : Prop := fnExactLoseRow.holds Try.pinned (OpenSpec.ofChange fnExactLoseWrong)

/-- 'laws.FnExactDouble': WHATEVER THE INPUT: true; the input reads as it did. -/
def fnExactDoubleSpec : ChangeSpec := { name := "fnExactDouble", fn := fun _ => fun
  | [d1, d2] => { results := [.lit (.bool true)], args := [d1, d2] }
  | _ => none }
def fnExactDoubleRow : OpenClaim := { program := "ytcccigapbalidaa", sum := "020592143d48a4e2588f7e6c5b523e40750688fcd0de6b3e72a6617fbc29db64", func := "loop.example/kilncrew/laws.FnExactDouble", spec := "fnExactDouble", apart := false }
def FnExactDoubleSaid : Prop := fnExactDoubleRow.holds Try.pinned (OpenSpec.ofChange fnExactDoubleSpec)

/-- ITS FALSE NEIGHBOUR: 'it returns false'. Refute it at one input. -/
def fnExactDoubleWrong : ChangeSpec := { name := "fnExactDouble", fn := fun _ => fun
  | [d1, d2] => { results := [.lit (.bool false)], args := [d1, d2] }
  | _ => none }
def FnExactDoubleWrongFalsely : Prop := fnExactDoubleRow.holds Try.pinned (OpenSpec.ofChange fnExactDoubleWrong)

/-- 'laws.FnExactBend': WHATEVER THE INPUT: true; the input reads as it did. -/
def fnExactBendSpec : ChangeSpec := { name := "fnExactBend", fn := fun _ => fun
  | [d1, d2, d3, d4] => { results := [.lit (.bool true)], args := [d1, d2, d3, d4] }
  | _ => none }
def fnExactBendRow : OpenClaim := { program := "ytcccigapbalidaa", sum := "020592143d48a4e2588f7e6c5b523e40750688fcd0de6b3e72a6617fbc29db64", func := "loop.example/kilncrew/laws.FnExactBend", spec := "fnExactBend", apart := false }
def FnExactBendSaid : Prop := fnExactBendRow.holds Try.pinned (OpenSpec.ofChange fnExactBendSpec)

/-- ITS FALSE NEIGHBOUR: 'it returns false'. Refute it at one input. -/
def fnExactBendWrong : ChangeSpec := { name := "fnExactBend", fn := fun _ => fun
  | [d1, d2, d3, d4] => { results := [.lit (.bool false)], args := [d1, d2, d3, d4] }
  | _ => none }
def FnExactBendWrongFalsely : Prop := fnExactBendRow.holds Try.pinned (OpenSpec.ofChange fnExactBendWrong)

/-- 'laws.FnExactValidWorker': WHATEVER THE INPUT: true; the input reads as it did. -/
def fnExactValidWorkerSpec : ChangeSpec := { name := "fnExactValidWorker", fn := fun _ => fun
  | [d] => { results := [.lit (.bool true)], args := [d] }
  | _ => none }
def fnExactValidWorkerRow : OpenClaim := { program := "ytcccigapbalidaa", sum := "020592143d48a4e2588f7e6c5b523e40750688fcd0de6b3e72a6617fbc29db64", func := "loop.example/kilncrew/laws.FnExactValidWorker", spec := "fnExactValidWorker", apart := false }
def FnExactValidWorkerSaid : Prop := fnExactValidWorkerRow.holds Try.pinned (OpenSpec.ofChange fnExactValidWorkerSpec)

/-- ITS FALSE NEIGHBOUR: 'it returns false'. Refute it at one input. -/
def fnExactValidWorkerWrong : ChangeSpec := { name := "fnExactValidWorker", fn := fun _ => fun
  | [d] => { results := [.lit (.bool false)], args := [d] }
  | _ => none }
def FnExactValidWorkerWrongFalsely : Prop := fnExactValidWorkerRow.holds Try.pinned (OpenSpec.ofChange fnExactValidWorkerWrong)

/-- 'laws.FnExactCheckPlan': WHATEVER THE INPUT: true; the input reads as it did. -/
def fnExactCheckPlanSpec : ChangeSpec := { name := "fnExactCheckPlan", fn := fun _ => fun
  | [d] => { results := [.lit (.bool true)], args := [d] }
  | _ => none }
def fnExactCheckPlanRow : OpenClaim := { program := "ytcccigapbalidaa", sum := "020592143d48a4e2588f7e6c5b523e40750688fcd0de6b3e72a6617fbc29db64", func := "loop.example/kilncrew/laws.FnExactCheckPlan", spec := "fnExactCheckPlan", apart := false }
def FnExactCheckPlanSaid : Prop := fnExactCheckPlanRow.holds Try.pinned (OpenSpec.ofChange fnExactCheckPlanSpec)

/-- ITS FALSE NEIGHBOUR: 'it returns false'. Refute it at one input. -/
def fnExactCheckPlanWrong : ChangeSpec := { name := "fnExactCheckPlan", fn := fun _ => fun
  | [d] => { results := [.lit (.bool false)], args := [d] }
  | _ => none }
def FnExactCheckPlanWrongFalsely : Prop := fnExactCheckPlanRow.holds Try.pinned (OpenSpec.ofChange fnExactCheckPlanWrong)

/-- 'laws.FnExactForged': WHATEVER THE INPUT: true; the input reads as it did. -/
def fnExactForgedSpec : ChangeSpec := { name := "fnExactForged", fn := fun _ => fun
  | [d1, d2] => { results := [.lit (.bool true)], args := [d1, d2] }
  | _ => none }
def fnExactForgedRow : OpenClaim := { program := "ytcccigapbalidaa", sum := "020592143d48a4e2588f7e6c5b523e40750688fcd0de6b3e72a6617fbc29db64", func := "loop.example/kilncrew/laws.FnExactForged", spec := "fnExactForged", apart := false }
def FnExactForgedSaid : Prop := fnExactForgedRow.holds Try.pinned (OpenSpec.ofChange fnExactForgedSpec)

/-- ITS FALSE NEIGHBOUR: 'it returns false'. Refute it at one input. -/
def fnExactForgedWrong : ChangeSpec := { name := "fnExactForged", fn := fun _ => fun
  | [d1, d2] => { results := [.lit (.bool false)], args := [d1, d2] }
  | _ => none }
def FnExactForgedWrongFalsely : Prop := fnExactForgedRow.holds Try.pinned (OpenSpec.ofChange fnExactForgedWrong)

/-- 'laws.FnExactWorkerFall': WHATEVER THE INPUT: true; the input reads as it did. -/
def fnExactWorkerFallSpec : ChangeSpec := { name := "fnExactWorkerFall", fn := fun _ => fun
  | [d] => { results := [.lit (.bool true)], args := [d] }
  | _ => none }
def fnExactWorkerFallRow : OpenClaim := { program := "ytcccigapbalidaa", sum := "020592143d48a4e2588f7e6c5b523e40750688fcd0de6b3e72a6617fbc29db64", func := "loop.example/kilncrew/laws.FnExactWorkerFall", spec := "fnExactWorkerFall", apart := false }
def FnExactWorkerFallSaid : Prop := fnExactWorkerFallRow.holds Try.pinned (OpenSpec.ofChange fnExactWorkerFallSpec)

/-- ITS FALSE NEIGHBOUR: 'it returns false'. Refute it at one input. -/
def fnExactWorkerFallWrong : ChangeSpec := { name := "fnExactWorkerFall", fn := fun _ => fun
  | [d] => { results := [.lit (.bool false)], args := [d] }
  | _ => none }
def FnExactWorkerFallWrongFalsely : Prop := fnExactWorkerFallRow.holds Try.pinned (OpenSpec.ofChange fnExactWorkerFallWrong)

/-- 'laws.FnExactWorkerRise': WHATEVER THE INPUT: true; the input reads as it did. -/
def fnExactWorkerRiseSpec : ChangeSpec := { name := "fnExactWorkerRise", fn := fun _ => fun
  | [d] => { results := [.lit (.bool true)], args := [d] }
  | _ => none }
def fnExactWorkerRiseRow : OpenClaim := { program := "ytcccigapbalidaa", sum := "020592143d48a4e2588f7e6c5b523e40750688fcd0de6b3e72a6617fbc29db64", func := "loop.example/kilncrew/laws.FnExactWorkerRise", spec := "fnExactWorkerRise", apart := false }
def FnExactWorkerRiseSaid : Prop := fnExactWorkerRiseRow.holds Try.pinned (OpenSpec.ofChange fnExactWorkerRiseSpec)

/-- ITS FALSE NEIGHBOUR: 'it returns false'. Refute it at one input. -/
def fnExactWorkerRiseWrong : ChangeSpec := { name := "fnExactWorkerRise", fn := fun _ => fun
  | [d] => { results := [.lit (.bool false)], args := [d] }
  | _ => none }
def FnExactWorkerRiseWrongFalsely : Prop := fnExactWorkerRiseRow.holds Try.pinned (OpenSpec.ofChange fnExactWorkerRiseWrong)

/- THE SECOND FORM. 'bulk': how many values and letters a reading holds, each counted each time it is reached (what is shared counts as often as it is met; a slice's spare places count too). A statement '..UptoSaid' is the law's where the arguments, and the package variables that the reading takes, are together of bulk at most 1048576: NARROWER than '..Said'. Prove '..Said' where nothing that the law and all that it calls make is longer than what came in: it says more and counts as full. Else prove '..UptoSaid'. A law counts once. -/
mutual
def uptoBulk {H : Type} : DataW H → Nat
  | .lit (.string bytes) => bytes.length + 1
  | .lit _ => 1
  | .nil => 1
  | .ptr d => uptoBulk d + 1
  | .slice elems spare => uptoBulkAll elems + uptoBulkAll spare + 1
  | .agg parts => uptoBulkAll parts + 1
  | .iface _ d => uptoBulk d + 1
  | .map entries => uptoBulkEntries entries + 1
  | .held _ => 1
def uptoBulkAll {H : Type} : List (DataW H) → Nat
  | [] => 0
  | d :: r => uptoBulk d + uptoBulkAll r
def uptoBulkEntries {H : Type} : List (Lit × DataW H) → Nat
  | [] => 0
  | x :: r => uptoBulkEntry x + uptoBulkEntries r
def uptoBulkEntry {H : Type} : Lit × DataW H → Nat
  | (.string bytes, d) => bytes.length + uptoBulk d + 1
  | (_, d) => uptoBulk d + 1
 end
def uptoSmall : (H : Type) → List (DataW H) → Bool := fun _ ds => decide (uptoBulkAll ds ≤ 1048576)
def OpenSpec.upto (s : _root_.Go.ChangeSpec) : _root_.Go.OpenSpec := { _root_.Go.OpenSpec.ofChange s with cond := some uptoSmall }

/-- 'laws.FnExactConstants', WHERE WHAT IT READS IS OF BULK AT MOST 1048576: true; the input reads as it did. -/
def fnExactConstantsUptoRow : OpenClaim := { program := "ytcccigapbalidaa", sum := "020592143d48a4e2588f7e6c5b523e40750688fcd0de6b3e72a6617fbc29db64", func := "loop.example/kilncrew/laws.FnExactConstants", spec := "fnExactConstants", apart := false, narrowed := true }
def FnExactConstantsUptoSaid : Prop := fnExactConstantsUptoRow.holds Try.pinned (OpenSpec.upto fnExactConstantsSpec)

/-- 'laws.FnExactFormEntry', WHERE WHAT IT READS IS OF BULK AT MOST 1048576: true; the input reads as it did. -/
def fnExactFormEntryUptoRow : OpenClaim := { program := "ytcccigapbalidaa", sum := "020592143d48a4e2588f7e6c5b523e40750688fcd0de6b3e72a6617fbc29db64", func := "loop.example/kilncrew/laws.FnExactFormEntry", spec := "fnExactFormEntry", apart := false, narrowed := true }
def FnExactFormEntryUptoSaid : Prop := fnExactFormEntryUptoRow.holds Try.pinned (OpenSpec.upto fnExactFormEntrySpec)

/-- 'laws.FnExactReadEntry', WHERE WHAT IT READS IS OF BULK AT MOST 1048576: true; the input reads as it did. -/
def fnExactReadEntryUptoRow : OpenClaim := { program := "ytcccigapbalidaa", sum := "020592143d48a4e2588f7e6c5b523e40750688fcd0de6b3e72a6617fbc29db64", func := "loop.example/kilncrew/laws.FnExactReadEntry", spec := "fnExactReadEntry", apart := false, narrowed := true }
def FnExactReadEntryUptoSaid : Prop := fnExactReadEntryUptoRow.holds Try.pinned (OpenSpec.upto fnExactReadEntrySpec)

/-- 'laws.FnExactValue', WHERE WHAT IT READS IS OF BULK AT MOST 1048576: true; the input reads as it did. -/
def fnExactValueUptoRow : OpenClaim := { program := "ytcccigapbalidaa", sum := "020592143d48a4e2588f7e6c5b523e40750688fcd0de6b3e72a6617fbc29db64", func := "loop.example/kilncrew/laws.FnExactValue", spec := "fnExactValue", apart := false, narrowed := true }
def FnExactValueUptoSaid : Prop := fnExactValueUptoRow.holds Try.pinned (OpenSpec.upto fnExactValueSpec)

/-- 'laws.FnExactLose', WHERE WHAT IT READS IS OF BULK AT MOST 1048576: true; the input reads as it did. -/
def fnExactLoseUptoRow : OpenClaim := { program := "ytcccigapbalidaa", sum := "020592143d48a4e2588f7e6c5b523e40750688fcd0de6b3e72a6617fbc29db64", func := "loop.example/kilncrew/laws.FnExactLose", spec := "fnExactLose", apart := false, narrowed := true }
def FnExactLoseUptoSaid : Prop := fnExactLoseUptoRow.holds Try.pinned (OpenSpec.upto fnExactLoseSpec)

/-- 'laws.FnExactDouble', WHERE WHAT IT READS IS OF BULK AT MOST 1048576: true; the input reads as it did. -/
def fnExactDoubleUptoRow : OpenClaim := { program := "ytcccigapbalidaa", sum := "020592143d48a4e2588f7e6c5b523e40750688fcd0de6b3e72a6617fbc29db64", func := "loop.example/kilncrew/laws.FnExactDouble", spec := "fnExactDouble", apart := false, narrowed := true }
def FnExactDoubleUptoSaid : Prop := fnExactDoubleUptoRow.holds Try.pinned (OpenSpec.upto fnExactDoubleSpec)

/-- 'laws.FnExactBend', WHERE WHAT IT READS IS OF BULK AT MOST 1048576: true; the input reads as it did. -/
def fnExactBendUptoRow : OpenClaim := { program := "ytcccigapbalidaa", sum := "020592143d48a4e2588f7e6c5b523e40750688fcd0de6b3e72a6617fbc29db64", func := "loop.example/kilncrew/laws.FnExactBend", spec := "fnExactBend", apart := false, narrowed := true }
def FnExactBendUptoSaid : Prop := fnExactBendUptoRow.holds Try.pinned (OpenSpec.upto fnExactBendSpec)

/-- 'laws.FnExactValidWorker', WHERE WHAT IT READS IS OF BULK AT MOST 1048576: true; the input reads as it did. -/
def fnExactValidWorkerUptoRow : OpenClaim := { program := "ytcccigapbalidaa", sum := "020592143d48a4e2588f7e6c5b523e40750688fcd0de6b3e72a6617fbc29db64", func := "loop.example/kilncrew/laws.FnExactValidWorker", spec := "fnExactValidWorker", apart := false, narrowed := true }
def FnExactValidWorkerUptoSaid : Prop := fnExactValidWorkerUptoRow.holds Try.pinned (OpenSpec.upto fnExactValidWorkerSpec)

/-- 'laws.FnExactCheckPlan', WHERE WHAT IT READS IS OF BULK AT MOST 1048576: true; the input reads as it did. -/
def fnExactCheckPlanUptoRow : OpenClaim := { program := "ytcccigapbalidaa", sum := "020592143d48a4e2588f7e6c5b523e40750688fcd0de6b3e72a6617fbc29db64", func := "loop.example/kilncrew/laws.FnExactCheckPlan", spec := "fnExactCheckPlan", apart := false, narrowed := true }
def FnExactCheckPlanUptoSaid : Prop := fnExactCheckPlanUptoRow.holds Try.pinned (OpenSpec.upto fnExactCheckPlanSpec)

/-- 'laws.FnExactForged', WHERE WHAT IT READS IS OF BULK AT MOST 1048576: true; the input reads as it did. -/
def fnExactForgedUptoRow : OpenClaim := { program := "ytcccigapbalidaa", sum := "020592143d48a4e2588f7e6c5b523e40750688fcd0de6b3e72a6617fbc29db64", func := "loop.example/kilncrew/laws.FnExactForged", spec := "fnExactForged", apart := false, narrowed := true }
def FnExactForgedUptoSaid : Prop := fnExactForgedUptoRow.holds Try.pinned (OpenSpec.upto fnExactForgedSpec)

/-- 'laws.FnExactWorkerFall', WHERE WHAT IT READS IS OF BULK AT MOST 1048576: true; the input reads as it did. -/
def fnExactWorkerFallUptoRow : OpenClaim := { program := "ytcccigapbalidaa", sum := "020592143d48a4e2588f7e6c5b523e40750688fcd0de6b3e72a6617fbc29db64", func := "loop.example/kilncrew/laws.FnExactWorkerFall", spec := "fnExactWorkerFall", apart := false, narrowed := true }
def FnExactWorkerFallUptoSaid : Prop := fnExactWorkerFallUptoRow.holds Try.pinned (OpenSpec.upto fnExactWorkerFallSpec)

/-- 'laws.FnExactWorkerRise', WHERE WHAT IT READS IS OF BULK AT MOST 1048576: true; the input reads as it did. -/
def fnExactWorkerRiseUptoRow : OpenClaim := { program := "ytcccigapbalidaa", sum := "020592143d48a4e2588f7e6c5b523e40750688fcd0de6b3e72a6617fbc29db64", func := "loop.example/kilncrew/laws.FnExactWorkerRise", spec := "fnExactWorkerRise", apart := false, narrowed := true }
def FnExactWorkerRiseUptoSaid : Prop := fnExactWorkerRiseUptoRow.holds Try.pinned (OpenSpec.upto fnExactWorkerRiseSpec)

end Rows
end Go.Proofs.Ytcccigapbalidaa

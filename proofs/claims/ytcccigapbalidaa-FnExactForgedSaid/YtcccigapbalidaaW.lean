/- Contracts of functions of the program: what each call answers. -/
import Derived.Test.YtcccigapbalidaaV
set_option linter.unusedVariables false
set_option linter.unusedSimpArgs false
set_option maxHeartbeats 4000000
set_option maxRecDepth 20000
open Go Go.Tm Go.Proofs
namespace Go.K
theorem c_spec_l2Ok (m : Message) (hl : m.inputs.length ≤ 9223372036854775806) : F n_spec_l2Ok [.val (messageR m)] (.b (decide (msgOk m))) [[]] := by
  refine i_spec_l2Ok ?_
  conv => whnf
  refine g 0 1 [] ?_
  conv => whnf
  refine ⟨⟨⟨I, I, I, I, I, I, I, I, I⟩, I, I⟩, ?_⟩
  refine W.sq ?_
  by_cases h1 : (1 : Int) ≤ Message.kind m ∧ Message.kind m ≤ (5 : Int)
  refine g 13 15 [.call (V.b (decide ((1 : Int) ≤ Message.kind m ∧ Message.kind m ≤ (5 : Int)))) ([[], [], []]), .b (false), .b (false), .b (false), .call (V.b (decide ((1 : Int) ≤ Message.epoch m ∧ Message.epoch m ≤ (300 : Int)))) ([[], [], []]), .b (false), .b (false)] ?_
  conv => whnf
  refine ⟨⟨I, I, ⟨⟨I, I, I, I⟩, I, ⟨⟨I, I⟩, ⟨I, I⟩, ⟨I, I⟩, I⟩, ⟨I, I⟩, Go.K.c_spec_l2In _ _ _⟩, I, I, ⟨notF (by omega), I⟩, ⟨notF (by omega), I⟩, ⟨notF (by omega), ⟨I, I, I, I⟩, I, ⟨⟨I, I⟩, ⟨I, I⟩, ⟨I, I⟩, I⟩, ⟨I, I⟩, Go.K.c_spec_l2In _ _ _⟩, ⟨notF (by omega), I⟩, notF (by omega), I⟩, ?_⟩
  refine W.cn ?_
  conv => whnf
  refine ⟨fun h2 => ?_, fun h2 => ?_⟩
  replace h2 := ndt h2
  refine g 8 9 [] ?_
  conv => whnf
  refine ⟨⟨I, I⟩, ?_⟩
  refine W.ret ?_
  refine EndsW.rt ?_
  conv => whnf
  refine ⟨⟨I, I, I⟩, ?_, rfl⟩
  rotate_left 1
  replace h2 := ndf h2
  refine W.skip ?_
  refine g 20 25 [.call (V.tup [V.b (decide ((1 : Int) ≤ Message.kind m ∧ Message.kind m ≤ (4 : Int))), V.b (decide (Message.kind m = (1 : Int) ∨ Message.kind m = (3 : Int))), V.b (decide (Message.kind m = (3 : Int))), V.b (decide (Message.kind m = (1 : Int))), V.b (decide (Message.kind m = (1 : Int) ∨ Message.kind m = (4 : Int)))]) ([[]])] ?_
  conv => whnf
  refine ⟨⟨I, I, ⟨⟨I, I⟩, I, ⟨⟨I, I⟩, I⟩, ⟨I, I⟩, Go.K.c_spec_l2Uses _⟩, I, I, I, I, I, I, I, I, I, I, I, I⟩, ?_⟩
  refine W.sq ?_
  by_cases h3 : Message.kind m = (1 : Int) ∨ Message.kind m = (4 : Int)
  by_cases h4 : Message.frm m = (0 : Int)
  by_cases h5 : (1 : Int) ≤ Message.to m ∧ Message.to m ≤ (8 : Int)
  refine g 29 53 [.b (true), .b (true), .b (true), .b (true), .b (false), .b (false), .b (false), .call (V.b (decide ((1 : Int) ≤ Message.to m ∧ Message.to m ≤ (8 : Int)))) ([[], [], []]), .b (false), .b (true), .b (false), .b (true), .b (false), .b (false), .b (false), .b (false), .b (false), .b (false), .b (false), .b (false), .b (false), .b (false), .b (false), .b (false), .b (false), .b (false), .b (false)] ?_
  conv => whnf
  refine ⟨⟨I, I, ⟨decide_eq_true (by omega), I⟩, ⟨decide_eq_true (by omega), I⟩, ⟨decide_eq_true (by omega), I⟩, ⟨decide_eq_true (by omega), I⟩, ⟨notF (by omega), I⟩, ⟨notF (by omega), I⟩, ⟨notF (by omega), ⟨I, I, I, I⟩, I, ⟨⟨I, I⟩, ⟨I, I⟩, ⟨I, I⟩, I⟩, ⟨I, I⟩, Go.K.c_spec_l2In _ _ _⟩, ⟨notF (by omega), I⟩, ⟨decide_eq_true (by omega), notF (by omega)⟩, decide_eq_true (by omega), I, ⟨notF (by omega), I⟩, ⟨notF (by omega), I⟩, ⟨notF (by omega), I⟩, notF (by omega), notF (by omega), notF (by omega), notF (by omega), I, I, I, I, notF (by omega), ⟨notF (by omega), notF (by omega)⟩, notF (by omega), I⟩, ?_⟩
  refine W.cn ?_
  conv => whnf
  refine ⟨noT (rfl), fun _ => ?_⟩
  refine W.skip ?_
  refine W.sq ?_
  by_cases h6 : (1 : Int) ≤ Message.lease m ∧ Message.lease m ≤ (300000000 : Int)
  by_cases h7 : Message.kind m = (1 : Int) ∨ Message.kind m = (3 : Int)
  by_cases h8 : (0 : Int) ≤ Message.task m ∧ Message.task m ≤ (39 : Int)
  refine g 11 87 [.b (true), .b (true), .b (true), .call (V.b (decide ((1 : Int) ≤ Message.lease m ∧ Message.lease m ≤ (300000000 : Int)))) ([[]]), .b (true), .b (true), .b (false), .b (false), .b (false), .b (false), .b (false), .b (false), .b (false), .b (false), .b (false), .b (false), .b (false), .b (true), .b (true), .b (true), .call (V.b (decide ((0 : Int) ≤ Message.task m ∧ Message.task m ≤ (39 : Int)))) ([[], [], []]), .b (true), .b (false), .b (true), .b (false), .b (false), .b (false), .b (false), .b (false), .b (false), .b (false), .b (false), .b (false), .b (false)] ?_
  conv => whnf
  refine ⟨⟨I, I, ⟨decide_eq_true (by omega), I⟩, ⟨decide_eq_true (by omega), I⟩, ⟨decide_eq_true (by omega), ⟨I, I⟩, I, ⟨⟨I, I⟩, I⟩, ⟨I, I⟩, Go.K.c_spec_l2LeaseOk _⟩, ⟨decide_eq_true (by omega), I⟩, decide_eq_true (by omega), I, ⟨notF (by omega), I⟩, ⟨notF (by omega), I⟩, ⟨notF (by omega), I⟩, notF (by omega), notF (by omega), notF (by omega), ⟨notF (by omega), notF (by omega)⟩, notF (by omega), I, ⟨rfl, I⟩, ⟨rfl, I⟩, ⟨decide_eq_true (by omega), I⟩, ⟨decide_eq_true (by omega), I⟩, ⟨decide_eq_true (by omega), ⟨I, I, I, I⟩, I, ⟨⟨I, I⟩, ⟨I, I⟩, ⟨I, I⟩, I⟩, ⟨I, I⟩, Go.K.c_spec_l2In _ _ _⟩, ⟨decide_eq_true (by omega), I⟩, ⟨rfl, decide_eq_true (by omega)⟩, rfl, I, ⟨notF (by omega), I⟩, ⟨notF (by omega), I⟩, ⟨notF (by omega), I⟩, notF (by omega), notF (by omega), notF (by omega), ⟨notF (by omega), notF (by omega)⟩, notF (by omega), I⟩, ?_⟩
  refine W.cn ?_
  conv => whnf
  refine ⟨noT (rfl), fun _ => ?_⟩
  refine W.skip ?_
  refine W.sq ?_
  refine g 10 103 [.b (false), .b (false), .b (false), .b (false), .b (false), .b (false), .b (false), .b (false), .b (true), .b (true), .b (true), .b (false), .b (true), .b (false)] ?_
  conv => whnf
  refine ⟨⟨I, I, decide_eq_false (by omega), decide_eq_false (by omega), decide_eq_false (by omega), decide_eq_false (by omega), decide_eq_false (by omega), I, ⟨rfl, I⟩, ⟨rfl, I⟩, ⟨rfl, I⟩, ⟨notT (by omega), I⟩, ⟨notT (by omega), I⟩, ⟨notT (by omega), I⟩, ⟨rfl, notT (by omega)⟩, rfl, I⟩, ?_⟩
  refine W.cn ?_
  conv => whnf
  refine ⟨fun h9 => ?_, fun h9 => ?_⟩
  replace h9 := ndt h9
  refine g 7 9 [] ?_
  conv => whnf
  refine ⟨⟨I, I⟩, ?_⟩
  refine W.ret ?_
  refine EndsW.rt ?_
  conv => whnf
  refine ⟨⟨I, I, I⟩, ?_, rfl⟩
  rotate_left 1
  replace h9 := ndf h9
  refine W.skip ?_
  by_cases h10 : eights (Message.inputs m)
  refine g 5 120 [.b (true), .b (true), .b (true), .call (V.b (decide (eights (Message.inputs m)))) ([[]]), .b (true), .b (true), .b (true), .b (true), .b (false), .b (false), .b (false), .b (false), .b (true), .b (true)] ?_
  conv => whnf
  refine ⟨⟨I, I, ⟨decide_eq_true (by omega), I⟩, ⟨decide_eq_true (by omega), I⟩, ⟨decide_eq_true (by omega), ⟨I, I⟩, I, ⟨⟨I, I⟩, I⟩, ⟨I, I⟩, Go.K.c_spec_l2InputsOk _ (by omega)⟩, decide_eq_true (by omega), I, decide_eq_true (by omega), decide_eq_true (by omega), decide_eq_true (by omega), I, I, I, I, decide_eq_true (by omega), decide_eq_true (by omega), I, I⟩, ?_⟩
  refine W.ret ?_
  refine EndsW.rt ?_
  conv => whnf
  refine ⟨⟨I, I, I⟩, ?_, rfl⟩
  rotate_left 1
  refine g 5 120 [.b (true), .b (true), .b (true), .call (V.b (decide (eights (Message.inputs m)))) ([[]]), .b (true), .b (false), .b (false), .b (false), .b (false), .b (false), .b (false), .b (false), .b (false), .b (false), .b (false)] ?_
  conv => whnf
  refine ⟨⟨I, I, ⟨decide_eq_true (by omega), I⟩, ⟨decide_eq_true (by omega), I⟩, ⟨decide_eq_true (by omega), ⟨I, I⟩, I, ⟨⟨I, I⟩, I⟩, ⟨I, I⟩, Go.K.c_spec_l2InputsOk _ (by omega)⟩, decide_eq_true (by omega), I, ⟨decide_eq_false (by omega), I⟩, ⟨decide_eq_false (by omega), I⟩, ⟨decide_eq_false (by omega), I⟩, notF (by omega), notF (by omega), notF (by omega), notF (by omega), ⟨decide_eq_false (by omega), notF (by omega)⟩, decide_eq_false (by omega), I, I⟩, ?_⟩
  refine W.ret ?_
  refine EndsW.rt ?_
  conv => whnf
  refine ⟨⟨I, I, I⟩, ?_, rfl⟩
  rotate_left 1
  refine g 11 87 [.b (true), .b (true), .b (true), .call (V.b (decide ((1 : Int) ≤ Message.lease m ∧ Message.lease m ≤ (300000000 : Int)))) ([[]]), .b (true), .b (true), .b (false), .b (false), .b (false), .b (false), .b (false), .b (false), .b (false), .b (false), .b (false), .b (false), .b (false), .b (true), .b (true), .b (true), .call (V.b (decide ((0 : Int) ≤ Message.task m ∧ Message.task m ≤ (39 : Int)))) ([[], [], []]), .b (true), .b (false), .b (true), .b (false), .b (true), .b (true), .b (true), .b (false), .b (false), .b (false), .b (true), .b (true)] ?_
  conv => whnf
  refine ⟨⟨I, I, ⟨decide_eq_true (by omega), I⟩, ⟨decide_eq_true (by omega), I⟩, ⟨decide_eq_true (by omega), ⟨I, I⟩, I, ⟨⟨I, I⟩, I⟩, ⟨I, I⟩, Go.K.c_spec_l2LeaseOk _⟩, ⟨decide_eq_true (by omega), I⟩, decide_eq_true (by omega), I, ⟨notF (by omega), I⟩, ⟨notF (by omega), I⟩, ⟨notF (by omega), I⟩, notF (by omega), notF (by omega), notF (by omega), ⟨notF (by omega), notF (by omega)⟩, notF (by omega), I, ⟨rfl, I⟩, ⟨rfl, I⟩, ⟨decide_eq_true (by omega), I⟩, ⟨decide_eq_true (by omega), I⟩, ⟨decide_eq_true (by omega), ⟨I, I, I, I⟩, I, ⟨⟨I, I⟩, ⟨I, I⟩, ⟨I, I⟩, I⟩, ⟨I, I⟩, Go.K.c_spec_l2In _ _ _⟩, ⟨decide_eq_true (by omega), I⟩, ⟨rfl, decide_eq_true (by omega)⟩, rfl, I, notT (by omega), notT (by omega), notT (by omega), I, I, I, notT (by omega), notT (by omega), I⟩, ?_⟩
  refine W.cn ?_
  conv => whnf
  refine ⟨fun _ => ?_, noF (rfl)⟩
  refine g 3 4 [] ?_
  conv => whnf
  refine ⟨⟨I, I⟩, ?_⟩
  refine W.ret ?_
  refine EndsW.rt ?_
  conv => whnf
  refine ⟨⟨I, I, I⟩, ?_, rfl⟩
  rotate_left 1
  refine g 11 87 [.b (true), .b (true), .b (true), .call (V.b (decide ((1 : Int) ≤ Message.lease m ∧ Message.lease m ≤ (300000000 : Int)))) ([[]]), .b (true), .b (true), .b (false), .b (false), .b (false), .b (false), .b (false), .b (false), .b (false), .b (false), .b (false), .b (false), .b (false), .b (false), .b (false), .b (false), .b (false), .b (false), .b (false), .b (false), .b (false), .b (false), .b (false), .b (true), .b (true), .b (true), .b (false), .b (true), .b (false)] ?_
  conv => whnf
  refine ⟨⟨I, I, ⟨decide_eq_true (by omega), I⟩, ⟨decide_eq_true (by omega), I⟩, ⟨decide_eq_true (by omega), ⟨I, I⟩, I, ⟨⟨I, I⟩, I⟩, ⟨I, I⟩, Go.K.c_spec_l2LeaseOk _⟩, ⟨decide_eq_true (by omega), I⟩, decide_eq_true (by omega), I, ⟨notF (by omega), I⟩, ⟨notF (by omega), I⟩, ⟨notF (by omega), I⟩, notF (by omega), notF (by omega), notF (by omega), ⟨notF (by omega), notF (by omega)⟩, notF (by omega), I, ⟨rfl, I⟩, ⟨rfl, I⟩, decide_eq_false (by omega), decide_eq_false (by omega), decide_eq_false (by omega), decide_eq_false (by omega), ⟨rfl, decide_eq_false (by omega)⟩, rfl, I, ⟨rfl, I⟩, ⟨rfl, I⟩, ⟨rfl, I⟩, ⟨notT (by omega), I⟩, ⟨notT (by omega), I⟩, ⟨notT (by omega), I⟩, ⟨rfl, notT (by omega)⟩, rfl, I⟩, ?_⟩
  refine W.cn ?_
  conv => whnf
  refine ⟨fun h8 => ?_, fun h8 => ?_⟩
  replace h8 := ndt h8
  refine g 3 4 [] ?_
  conv => whnf
  refine ⟨⟨I, I⟩, ?_⟩
  refine W.ret ?_
  refine EndsW.rt ?_
  conv => whnf
  refine ⟨⟨I, I, I⟩, ?_, rfl⟩
  rotate_left 1
  replace h8 := ndf h8
  refine W.skip ?_
  refine W.sq ?_
  refine g 10 103 [.b (false), .b (false), .b (false), .b (false), .b (false), .b (false), .b (false), .b (false), .b (true), .b (true), .b (true), .b (false), .b (true), .b (false)] ?_
  conv => whnf
  refine ⟨⟨I, I, decide_eq_false (by omega), decide_eq_false (by omega), decide_eq_false (by omega), decide_eq_false (by omega), decide_eq_false (by omega), I, ⟨rfl, I⟩, ⟨rfl, I⟩, ⟨rfl, I⟩, ⟨notT (by omega), I⟩, ⟨notT (by omega), I⟩, ⟨notT (by omega), I⟩, ⟨rfl, notT (by omega)⟩, rfl, I⟩, ?_⟩
  refine W.cn ?_
  conv => whnf
  refine ⟨fun h9 => ?_, fun h9 => ?_⟩
  replace h9 := ndt h9
  refine g 7 9 [] ?_
  conv => whnf
  refine ⟨⟨I, I⟩, ?_⟩
  refine W.ret ?_
  refine EndsW.rt ?_
  conv => whnf
  refine ⟨⟨I, I, I⟩, ?_, rfl⟩
  rotate_left 1
  replace h9 := ndf h9
  refine W.skip ?_
  refine g 5 120 [.b (false), .b (false), .b (false), .b (false), .b (false), .b (false), .b (false), .b (true), .b (true), .b (true), .b (true), .b (false), .b (true), .b (false)] ?_
  conv => whnf
  refine ⟨⟨I, I, decide_eq_false (by omega), decide_eq_false (by omega), decide_eq_false (by omega), decide_eq_false (by omega), I, ⟨rfl, I⟩, ⟨rfl, I⟩, ⟨rfl, I⟩, ⟨notT (by omega), I⟩, ⟨notT (by omega), I⟩, ⟨notT (by omega), I⟩, ⟨notT (by omega), I⟩, ⟨rfl, notT (by omega)⟩, rfl, I, I⟩, ?_⟩
  refine W.ret ?_
  refine EndsW.rt ?_
  conv => whnf
  refine ⟨⟨I, I, I⟩, ?_, rfl⟩
  rotate_left 1
  refine g 11 87 [.b (true), .b (true), .b (true), .call (V.b (decide ((1 : Int) ≤ Message.lease m ∧ Message.lease m ≤ (300000000 : Int)))) ([[]]), .b (true), .b (true), .b (true), .b (true), .b (true), .b (false), .b (false), .b (false), .b (true), .b (true), .b (true), .b (true), .b (false), .b (false), .b (false), .b (false), .b (true), .b (true), .b (true), .b (true), .b (true), .b (false), .b (false), .b (false), .b (true), .b (true)] ?_
  conv => whnf
  refine ⟨⟨I, I, ⟨decide_eq_true (by omega), I⟩, ⟨decide_eq_true (by omega), I⟩, ⟨decide_eq_true (by omega), ⟨I, I⟩, I, ⟨⟨I, I⟩, I⟩, ⟨I, I⟩, Go.K.c_spec_l2LeaseOk _⟩, ⟨decide_eq_true (by omega), I⟩, decide_eq_true (by omega), I, notT (by omega), notT (by omega), notT (by omega), I, I, I, notT (by omega), notT (by omega), I, rfl, rfl, I, I, I, I, rfl, rfl, I, rfl, rfl, rfl, I, I, I, rfl, rfl, I⟩, ?_⟩
  refine W.cn ?_
  conv => whnf
  refine ⟨fun _ => ?_, noF (rfl)⟩
  refine g 3 4 [] ?_
  conv => whnf
  refine ⟨⟨I, I⟩, ?_⟩
  refine W.ret ?_
  refine EndsW.rt ?_
  conv => whnf
  refine ⟨⟨I, I, I⟩, ?_, rfl⟩
  rotate_left 1
  refine g 29 53 [.b (true), .b (true), .b (true), .b (true), .b (false), .b (false), .b (false), .call (V.b (decide ((1 : Int) ≤ Message.to m ∧ Message.to m ≤ (8 : Int)))) ([[], [], []]), .b (false), .b (true), .b (false), .b (true), .b (true), .b (true), .b (true), .b (false), .b (false), .b (false), .b (false), .b (false), .b (false), .b (false), .b (false), .b (false), .b (true), .b (true)] ?_
  conv => whnf
  refine ⟨⟨I, I, ⟨decide_eq_true (by omega), I⟩, ⟨decide_eq_true (by omega), I⟩, ⟨decide_eq_true (by omega), I⟩, ⟨decide_eq_true (by omega), I⟩, ⟨notF (by omega), I⟩, ⟨notF (by omega), I⟩, ⟨notF (by omega), ⟨I, I, I, I⟩, I, ⟨⟨I, I⟩, ⟨I, I⟩, ⟨I, I⟩, I⟩, ⟨I, I⟩, Go.K.c_spec_l2In _ _ _⟩, ⟨notF (by omega), I⟩, ⟨decide_eq_true (by omega), notF (by omega)⟩, decide_eq_true (by omega), I, notT (by omega), notT (by omega), notT (by omega), I, I, I, I, I, I, I, I, I, notT (by omega), notT (by omega), I⟩, ?_⟩
  refine W.cn ?_
  conv => whnf
  refine ⟨fun _ => ?_, noF (rfl)⟩
  refine g 11 16 [] ?_
  conv => whnf
  refine ⟨⟨I, I⟩, ?_⟩
  refine W.ret ?_
  refine EndsW.rt ?_
  conv => whnf
  refine ⟨⟨I, I, I⟩, ?_, rfl⟩
  rotate_left 1
  refine g 29 53 [.b (true), .b (true), .b (true), .b (true), .b (true), .b (true), .b (true), .b (true), .b (true), .b (true), .b (true), .b (true), .b (true), .b (true), .b (false), .b (false), .b (false), .b (false), .b (false), .b (false), .b (false), .b (false), .b (false), .b (true), .b (true)] ?_
  conv => whnf
  refine ⟨⟨I, I, ⟨decide_eq_true (by omega), I⟩, ⟨decide_eq_true (by omega), I⟩, ⟨decide_eq_true (by omega), I⟩, ⟨decide_eq_true (by omega), I⟩, notT (by omega), notT (by omega), notT (by omega), notT (by omega), ⟨decide_eq_true (by omega), notT (by omega)⟩, decide_eq_true (by omega), I, rfl, rfl, rfl, I, I, I, I, I, I, I, I, I, rfl, rfl, I⟩, ?_⟩
  refine W.cn ?_
  conv => whnf
  refine ⟨fun _ => ?_, noF (rfl)⟩
  refine g 11 16 [] ?_
  conv => whnf
  refine ⟨⟨I, I⟩, ?_⟩
  refine W.ret ?_
  refine EndsW.rt ?_
  conv => whnf
  refine ⟨⟨I, I, I⟩, ?_, rfl⟩
  rotate_left 1
  by_cases h4 : Message.to m = (0 : Int)
  refine g 29 53 [.b (false), .b (false), .b (false), .b (false), .b (false), .b (false), .b (false), .b (false), .b (false), .b (false), .b (false), .b (false), .b (false), .b (true), .b (true), .b (true), .b (true), .b (false), .b (false), .b (false), .call (V.b (decide ((1 : Int) ≤ Message.frm m ∧ Message.frm m ≤ (8 : Int)))) ([[], [], []]), .b (false), .b (true), .b (false), .b (false), .b (true), .b (false)] ?_
  conv => whnf
  refine ⟨⟨I, I, decide_eq_false (by omega), decide_eq_false (by omega), decide_eq_false (by omega), decide_eq_false (by omega), I, I, I, I, decide_eq_false (by omega), decide_eq_false (by omega), I, ⟨rfl, I⟩, ⟨rfl, I⟩, ⟨rfl, I⟩, ⟨notT (by omega), I⟩, ⟨notT (by omega), I⟩, ⟨notT (by omega), I⟩, ⟨notT (by omega), I⟩, ⟨notF (by omega), I⟩, ⟨notF (by omega), I⟩, ⟨notF (by omega), ⟨I, I, I, I⟩, I, ⟨⟨I, I⟩, ⟨I, I⟩, ⟨I, I⟩, I⟩, ⟨I, I⟩, Go.K.c_spec_l2In _ _ _⟩, ⟨notF (by omega), I⟩, ⟨notT (by omega), notF (by omega)⟩, ⟨rfl, notT (by omega)⟩, rfl, I⟩, ?_⟩
  refine W.cn ?_
  conv => whnf
  refine ⟨fun h5 => ?_, fun h5 => ?_⟩
  replace h5 := ndt h5
  refine g 11 16 [] ?_
  conv => whnf
  refine ⟨⟨I, I⟩, ?_⟩
  refine W.ret ?_
  refine EndsW.rt ?_
  conv => whnf
  refine ⟨⟨I, I, I⟩, ?_, rfl⟩
  rotate_left 1
  replace h5 := ndf h5
  refine W.skip ?_
  refine W.sq ?_
  by_cases h6 : (1 : Int) ≤ Message.kind m ∧ Message.kind m ≤ (4 : Int)
  by_cases h7 : (1 : Int) ≤ Message.lease m ∧ Message.lease m ≤ (300000000 : Int)
  by_cases h8 : Message.kind m = (1 : Int) ∨ Message.kind m = (3 : Int)
  by_cases h9 : (0 : Int) ≤ Message.task m ∧ Message.task m ≤ (39 : Int)
  refine g 11 87 [.b (true), .b (true), .b (true), .call (V.b (decide ((1 : Int) ≤ Message.lease m ∧ Message.lease m ≤ (300000000 : Int)))) ([[]]), .b (true), .b (true), .b (false), .b (false), .b (false), .b (false), .b (false), .b (false), .b (false), .b (false), .b (false), .b (false), .b (false), .b (true), .b (true), .b (true), .call (V.b (decide ((0 : Int) ≤ Message.task m ∧ Message.task m ≤ (39 : Int)))) ([[], [], []]), .b (true), .b (false), .b (true), .b (false), .b (false), .b (false), .b (false), .b (false), .b (false), .b (false), .b (false), .b (false), .b (false)] ?_
  conv => whnf
  refine ⟨⟨I, I, ⟨decide_eq_true (by omega), I⟩, ⟨decide_eq_true (by omega), I⟩, ⟨decide_eq_true (by omega), ⟨I, I⟩, I, ⟨⟨I, I⟩, I⟩, ⟨I, I⟩, Go.K.c_spec_l2LeaseOk _⟩, ⟨decide_eq_true (by omega), I⟩, decide_eq_true (by omega), I, ⟨notF (by omega), I⟩, ⟨notF (by omega), I⟩, ⟨notF (by omega), I⟩, notF (by omega), notF (by omega), notF (by omega), ⟨notF (by omega), notF (by omega)⟩, notF (by omega), I, ⟨rfl, I⟩, ⟨rfl, I⟩, ⟨decide_eq_true (by omega), I⟩, ⟨decide_eq_true (by omega), I⟩, ⟨decide_eq_true (by omega), ⟨I, I, I, I⟩, I, ⟨⟨I, I⟩, ⟨I, I⟩, ⟨I, I⟩, I⟩, ⟨I, I⟩, Go.K.c_spec_l2In _ _ _⟩, ⟨decide_eq_true (by omega), I⟩, ⟨rfl, decide_eq_true (by omega)⟩, rfl, I, ⟨notF (by omega), I⟩, ⟨notF (by omega), I⟩, ⟨notF (by omega), I⟩, notF (by omega), notF (by omega), notF (by omega), ⟨notF (by omega), notF (by omega)⟩, notF (by omega), I⟩, ?_⟩
  refine W.cn ?_
  conv => whnf
  refine ⟨noT (rfl), fun _ => ?_⟩
  refine W.skip ?_
  refine W.sq ?_
  by_cases h10 : (↑(ByteArray.size (Message.text m)) : Int) = (8 : Int)
  refine g 10 103 [.b (true), .b (true), .b (true), .b (true), .b (true), .b (false), .b (false), .b (false), .b (false), .b (false), .b (false), .b (false), .b (false), .b (false)] ?_
  conv => whnf
  refine ⟨⟨I, I, ⟨decide_eq_true (by omega), I⟩, ⟨decide_eq_true (by omega), I⟩, ⟨decide_eq_true (by omega), I⟩, ⟨decide_eq_true (by omega), I⟩, decide_eq_true (by omega), I, ⟨notF (by omega), I⟩, ⟨notF (by omega), I⟩, ⟨notF (by omega), I⟩, notF (by omega), notF (by omega), notF (by omega), ⟨notF (by omega), notF (by omega)⟩, notF (by omega), I⟩, ?_⟩
  refine W.cn ?_
  conv => whnf
  refine ⟨noT (rfl), fun _ => ?_⟩
  refine W.skip ?_
  refine g 5 120 [.b (false), .b (false), .b (false), .b (false), .b (false), .b (false), .b (false), .b (true), .b (true), .b (true), .b (true), .b (false), .b (true), .b (false)] ?_
  conv => whnf
  refine ⟨⟨I, I, decide_eq_false (by omega), decide_eq_false (by omega), decide_eq_false (by omega), decide_eq_false (by omega), I, ⟨rfl, I⟩, ⟨rfl, I⟩, ⟨rfl, I⟩, ⟨notT (by omega), I⟩, ⟨notT (by omega), I⟩, ⟨notT (by omega), I⟩, ⟨notT (by omega), I⟩, ⟨rfl, notT (by omega)⟩, rfl, I, I⟩, ?_⟩
  refine W.ret ?_
  refine EndsW.rt ?_
  conv => whnf
  refine ⟨⟨I, I, I⟩, ?_, rfl⟩
  rotate_left 1
  refine g 10 103 [.b (true), .b (true), .b (true), .b (true), .b (true), .b (true), .b (true), .b (true), .b (false), .b (false), .b (false), .b (true), .b (true)] ?_
  conv => whnf
  refine ⟨⟨I, I, ⟨decide_eq_true (by omega), I⟩, ⟨decide_eq_true (by omega), I⟩, ⟨decide_eq_true (by omega), I⟩, ⟨decide_eq_true (by omega), I⟩, decide_eq_true (by omega), I, notT (by omega), notT (by omega), notT (by omega), I, I, I, notT (by omega), notT (by omega), I⟩, ?_⟩
  refine W.cn ?_
  conv => whnf
  refine ⟨fun _ => ?_, noF (rfl)⟩
  refine g 7 9 [] ?_
  conv => whnf
  refine ⟨⟨I, I⟩, ?_⟩
  refine W.ret ?_
  refine EndsW.rt ?_
  conv => whnf
  refine ⟨⟨I, I, I⟩, ?_, rfl⟩
  rotate_left 1
  refine g 11 87 [.b (true), .b (true), .b (true), .call (V.b (decide ((1 : Int) ≤ Message.lease m ∧ Message.lease m ≤ (300000000 : Int)))) ([[]]), .b (true), .b (true), .b (false), .b (false), .b (false), .b (false), .b (false), .b (false), .b (false), .b (false), .b (false), .b (false), .b (false), .b (true), .b (true), .b (true), .call (V.b (decide ((0 : Int) ≤ Message.task m ∧ Message.task m ≤ (39 : Int)))) ([[], [], []]), .b (true), .b (false), .b (true), .b (false), .b (true), .b (true), .b (true), .b (false), .b (false), .b (false), .b (true), .b (true)] ?_
  conv => whnf
  refine ⟨⟨I, I, ⟨decide_eq_true (by omega), I⟩, ⟨decide_eq_true (by omega), I⟩, ⟨decide_eq_true (by omega), ⟨I, I⟩, I, ⟨⟨I, I⟩, I⟩, ⟨I, I⟩, Go.K.c_spec_l2LeaseOk _⟩, ⟨decide_eq_true (by omega), I⟩, decide_eq_true (by omega), I, ⟨notF (by omega), I⟩, ⟨notF (by omega), I⟩, ⟨notF (by omega), I⟩, notF (by omega), notF (by omega), notF (by omega), ⟨notF (by omega), notF (by omega)⟩, notF (by omega), I, ⟨rfl, I⟩, ⟨rfl, I⟩, ⟨decide_eq_true (by omega), I⟩, ⟨decide_eq_true (by omega), I⟩, ⟨decide_eq_true (by omega), ⟨I, I, I, I⟩, I, ⟨⟨I, I⟩, ⟨I, I⟩, ⟨I, I⟩, I⟩, ⟨I, I⟩, Go.K.c_spec_l2In _ _ _⟩, ⟨decide_eq_true (by omega), I⟩, ⟨rfl, decide_eq_true (by omega)⟩, rfl, I, notT (by omega), notT (by omega), notT (by omega), I, I, I, notT (by omega), notT (by omega), I⟩, ?_⟩
  refine W.cn ?_
  conv => whnf
  refine ⟨fun _ => ?_, noF (rfl)⟩
  refine g 3 4 [] ?_
  conv => whnf
  refine ⟨⟨I, I⟩, ?_⟩
  refine W.ret ?_
  refine EndsW.rt ?_
  conv => whnf
  refine ⟨⟨I, I, I⟩, ?_, rfl⟩
  rotate_left 1
  refine g 11 87 [.b (true), .b (true), .b (true), .call (V.b (decide ((1 : Int) ≤ Message.lease m ∧ Message.lease m ≤ (300000000 : Int)))) ([[]]), .b (true), .b (true), .b (false), .b (false), .b (false), .b (false), .b (false), .b (false), .b (false), .b (false), .b (false), .b (false), .b (false), .b (false), .b (false), .b (false), .b (false), .b (false), .b (false), .b (false), .b (false), .b (false), .b (false), .b (true), .b (true), .b (true), .b (false), .b (true), .b (false)] ?_
  conv => whnf
  refine ⟨⟨I, I, ⟨decide_eq_true (by omega), I⟩, ⟨decide_eq_true (by omega), I⟩, ⟨decide_eq_true (by omega), ⟨I, I⟩, I, ⟨⟨I, I⟩, I⟩, ⟨I, I⟩, Go.K.c_spec_l2LeaseOk _⟩, ⟨decide_eq_true (by omega), I⟩, decide_eq_true (by omega), I, ⟨notF (by omega), I⟩, ⟨notF (by omega), I⟩, ⟨notF (by omega), I⟩, notF (by omega), notF (by omega), notF (by omega), ⟨notF (by omega), notF (by omega)⟩, notF (by omega), I, ⟨rfl, I⟩, ⟨rfl, I⟩, decide_eq_false (by omega), decide_eq_false (by omega), decide_eq_false (by omega), decide_eq_false (by omega), ⟨rfl, decide_eq_false (by omega)⟩, rfl, I, ⟨rfl, I⟩, ⟨rfl, I⟩, ⟨rfl, I⟩, ⟨notT (by omega), I⟩, ⟨notT (by omega), I⟩, ⟨notT (by omega), I⟩, ⟨rfl, notT (by omega)⟩, rfl, I⟩, ?_⟩
  refine W.cn ?_
  conv => whnf
  refine ⟨fun h9 => ?_, fun h9 => ?_⟩
  replace h9 := ndt h9
  refine g 3 4 [] ?_
  conv => whnf
  refine ⟨⟨I, I⟩, ?_⟩
  refine W.ret ?_
  refine EndsW.rt ?_
  conv => whnf
  refine ⟨⟨I, I, I⟩, ?_, rfl⟩
  rotate_left 1
  replace h9 := ndf h9
  refine W.skip ?_
  refine W.sq ?_
  refine g 10 103 [.b (false), .b (false), .b (false), .b (false), .b (false), .b (false), .b (false), .b (false), .b (true), .b (true), .b (true), .b (false), .b (true), .b (false)] ?_
  conv => whnf
  refine ⟨⟨I, I, decide_eq_false (by omega), decide_eq_false (by omega), decide_eq_false (by omega), decide_eq_false (by omega), decide_eq_false (by omega), I, ⟨rfl, I⟩, ⟨rfl, I⟩, ⟨rfl, I⟩, ⟨notT (by omega), I⟩, ⟨notT (by omega), I⟩, ⟨notT (by omega), I⟩, ⟨rfl, notT (by omega)⟩, rfl, I⟩, ?_⟩
  refine W.cn ?_
  conv => whnf
  refine ⟨fun h10 => ?_, fun h10 => ?_⟩
  replace h10 := ndt h10
  refine g 7 9 [] ?_
  conv => whnf
  refine ⟨⟨I, I⟩, ?_⟩
  refine W.ret ?_
  refine EndsW.rt ?_
  conv => whnf
  refine ⟨⟨I, I, I⟩, ?_, rfl⟩
  rotate_left 1
  replace h10 := ndf h10
  refine W.skip ?_
  refine g 5 120 [.b (false), .b (false), .b (false), .b (false), .b (false), .b (false), .b (false), .b (true), .b (true), .b (true), .b (true), .b (false), .b (true), .b (false)] ?_
  conv => whnf
  refine ⟨⟨I, I, decide_eq_false (by omega), decide_eq_false (by omega), decide_eq_false (by omega), decide_eq_false (by omega), I, ⟨rfl, I⟩, ⟨rfl, I⟩, ⟨rfl, I⟩, ⟨notT (by omega), I⟩, ⟨notT (by omega), I⟩, ⟨notT (by omega), I⟩, ⟨notT (by omega), I⟩, ⟨rfl, notT (by omega)⟩, rfl, I, I⟩, ?_⟩
  refine W.ret ?_
  refine EndsW.rt ?_
  conv => whnf
  refine ⟨⟨I, I, I⟩, ?_, rfl⟩
  rotate_left 1
  refine g 11 87 [.b (true), .b (true), .b (true), .call (V.b (decide ((1 : Int) ≤ Message.lease m ∧ Message.lease m ≤ (300000000 : Int)))) ([[]]), .b (true), .b (true), .b (true), .b (true), .b (true), .b (false), .b (false), .b (false), .b (true), .b (true), .b (true), .b (true), .b (false), .b (false), .b (false), .b (false), .b (true), .b (true), .b (true), .b (true), .b (true), .b (false), .b (false), .b (false), .b (true), .b (true)] ?_
  conv => whnf
  refine ⟨⟨I, I, ⟨decide_eq_true (by omega), I⟩, ⟨decide_eq_true (by omega), I⟩, ⟨decide_eq_true (by omega), ⟨I, I⟩, I, ⟨⟨I, I⟩, I⟩, ⟨I, I⟩, Go.K.c_spec_l2LeaseOk _⟩, ⟨decide_eq_true (by omega), I⟩, decide_eq_true (by omega), I, notT (by omega), notT (by omega), notT (by omega), I, I, I, notT (by omega), notT (by omega), I, rfl, rfl, I, I, I, I, rfl, rfl, I, rfl, rfl, rfl, I, I, I, rfl, rfl, I⟩, ?_⟩
  refine W.cn ?_
  conv => whnf
  refine ⟨fun _ => ?_, noF (rfl)⟩
  refine g 3 4 [] ?_
  conv => whnf
  refine ⟨⟨I, I⟩, ?_⟩
  refine W.ret ?_
  refine EndsW.rt ?_
  conv => whnf
  refine ⟨⟨I, I, I⟩, ?_, rfl⟩
  rotate_left 1
  by_cases h7 : Message.lease m = (0 : Int)
  refine g 11 87 [.b (false), .b (false), .b (false), .b (false), .b (false), .b (false), .b (false), .b (false), .b (true), .b (true), .b (true), .b (false), .b (true), .b (false), .b (false), .b (false), .b (false), .b (false), .b (false), .b (false), .b (false), .b (false), .b (false), .b (false), .b (false), .b (false), .b (true), .b (true), .b (true), .b (false), .b (true), .b (false)] ?_
  conv => whnf
  refine ⟨⟨I, I, decide_eq_false (by omega), decide_eq_false (by omega), decide_eq_false (by omega), decide_eq_false (by omega), decide_eq_false (by omega), I, ⟨rfl, I⟩, ⟨rfl, I⟩, ⟨rfl, I⟩, ⟨notT (by omega), I⟩, ⟨notT (by omega), I⟩, ⟨notT (by omega), I⟩, ⟨rfl, notT (by omega)⟩, rfl, I, ⟨notF (by omega), I⟩, ⟨notF (by omega), I⟩, decide_eq_false (by omega), decide_eq_false (by omega), decide_eq_false (by omega), decide_eq_false (by omega), ⟨notF (by omega), decide_eq_false (by omega)⟩, notF (by omega), I, ⟨rfl, I⟩, ⟨rfl, I⟩, ⟨rfl, I⟩, ⟨notT (by omega), I⟩, ⟨notT (by omega), I⟩, ⟨notT (by omega), I⟩, ⟨rfl, notT (by omega)⟩, rfl, I⟩, ?_⟩
  refine W.cn ?_
  conv => whnf
  refine ⟨fun h8 => ?_, fun h8 => ?_⟩
  replace h8 := ndt h8
  refine g 3 4 [] ?_
  conv => whnf
  refine ⟨⟨I, I⟩, ?_⟩
  refine W.ret ?_
  refine EndsW.rt ?_
  conv => whnf
  refine ⟨⟨I, I, I⟩, ?_, rfl⟩
  rotate_left 1
  replace h8 := ndf h8
  refine W.skip ?_
  refine W.sq ?_
  refine g 10 103 [.b (false), .b (false), .b (false), .b (false), .b (false), .b (false), .b (false), .b (false), .b (true), .b (true), .b (true), .b (false), .b (true), .b (false)] ?_
  conv => whnf
  refine ⟨⟨I, I, decide_eq_false (by omega), decide_eq_false (by omega), decide_eq_false (by omega), decide_eq_false (by omega), decide_eq_false (by omega), I, ⟨rfl, I⟩, ⟨rfl, I⟩, ⟨rfl, I⟩, ⟨notT (by omega), I⟩, ⟨notT (by omega), I⟩, ⟨notT (by omega), I⟩, ⟨rfl, notT (by omega)⟩, rfl, I⟩, ?_⟩
  refine W.cn ?_
  conv => whnf
  refine ⟨fun h9 => ?_, fun h9 => ?_⟩
  replace h9 := ndt h9
  refine g 7 9 [] ?_
  conv => whnf
  refine ⟨⟨I, I⟩, ?_⟩
  refine W.ret ?_
  refine EndsW.rt ?_
  conv => whnf
  refine ⟨⟨I, I, I⟩, ?_, rfl⟩
  rotate_left 1
  replace h9 := ndf h9
  refine W.skip ?_
  refine g 5 120 [.b (false), .b (false), .b (false), .b (false), .b (false), .b (false), .b (false), .b (true), .b (true), .b (true), .b (true), .b (false), .b (true), .b (false)] ?_
  conv => whnf
  refine ⟨⟨I, I, decide_eq_false (by omega), decide_eq_false (by omega), decide_eq_false (by omega), decide_eq_false (by omega), I, ⟨rfl, I⟩, ⟨rfl, I⟩, ⟨rfl, I⟩, ⟨notT (by omega), I⟩, ⟨notT (by omega), I⟩, ⟨notT (by omega), I⟩, ⟨notT (by omega), I⟩, ⟨rfl, notT (by omega)⟩, rfl, I, I⟩, ?_⟩
  refine W.ret ?_
  refine EndsW.rt ?_
  conv => whnf
  refine ⟨⟨I, I, I⟩, ?_, rfl⟩
  rotate_left 1
  refine g 11 87 [.b (false), .b (false), .b (false), .b (false), .b (false), .b (false), .b (false), .b (false), .b (true), .b (true), .b (true), .b (false), .b (true), .b (false), .b (true), .b (true), .b (false), .b (false), .b (false), .b (false), .b (true), .b (true), .b (true), .b (true), .b (true), .b (false), .b (false), .b (false), .b (true), .b (true)] ?_
  conv => whnf
  refine ⟨⟨I, I, decide_eq_false (by omega), decide_eq_false (by omega), decide_eq_false (by omega), decide_eq_false (by omega), decide_eq_false (by omega), I, ⟨rfl, I⟩, ⟨rfl, I⟩, ⟨rfl, I⟩, ⟨notT (by omega), I⟩, ⟨notT (by omega), I⟩, ⟨notT (by omega), I⟩, ⟨rfl, notT (by omega)⟩, rfl, I, notT (by omega), notT (by omega), I, I, I, I, notT (by omega), notT (by omega), I, rfl, rfl, rfl, I, I, I, rfl, rfl, I⟩, ?_⟩
  refine W.cn ?_
  conv => whnf
  refine ⟨fun _ => ?_, noF (rfl)⟩
  refine g 3 4 [] ?_
  conv => whnf
  refine ⟨⟨I, I⟩, ?_⟩
  refine W.ret ?_
  refine EndsW.rt ?_
  conv => whnf
  refine ⟨⟨I, I, I⟩, ?_, rfl⟩
  rotate_left 1
  refine g 29 53 [.b (false), .b (false), .b (false), .b (false), .b (false), .b (false), .b (false), .b (false), .b (false), .b (false), .b (false), .b (false), .b (false), .b (true), .b (true), .b (true), .b (true), .b (true), .b (true), .b (true), .b (true), .b (true), .b (true), .b (false), .b (true), .b (false)] ?_
  conv => whnf
  refine ⟨⟨I, I, decide_eq_false (by omega), decide_eq_false (by omega), decide_eq_false (by omega), decide_eq_false (by omega), I, I, I, I, decide_eq_false (by omega), decide_eq_false (by omega), I, ⟨rfl, I⟩, ⟨rfl, I⟩, ⟨rfl, I⟩, ⟨notT (by omega), I⟩, ⟨notT (by omega), I⟩, ⟨notT (by omega), I⟩, ⟨notT (by omega), I⟩, notT (by omega), notT (by omega), notT (by omega), notT (by omega), ⟨notT (by omega), notT (by omega)⟩, ⟨rfl, notT (by omega)⟩, rfl, I⟩, ?_⟩
  refine W.cn ?_
  conv => whnf
  refine ⟨fun _ => ?_, noF (rfl)⟩
  refine g 11 16 [] ?_
  conv => whnf
  refine ⟨⟨I, I⟩, ?_⟩
  refine W.ret ?_
  refine EndsW.rt ?_
  conv => whnf
  refine ⟨⟨I, I, I⟩, ?_, rfl⟩
  rotate_left 1
  refine g 13 15 [.call (V.b (decide ((1 : Int) ≤ Message.kind m ∧ Message.kind m ≤ (5 : Int)))) ([[], [], []]), .b (true), .b (true), .b (true), .b (true), .b (true)] ?_
  conv => whnf
  refine ⟨⟨I, I, ⟨⟨I, I, I, I⟩, I, ⟨⟨I, I⟩, ⟨I, I⟩, ⟨I, I⟩, I⟩, ⟨I, I⟩, Go.K.c_spec_l2In _ _ _⟩, I, I, notT (by omega), notT (by omega), notT (by omega), notT (by omega), notT (by omega), I⟩, ?_⟩
  refine W.cn ?_
  conv => whnf
  refine ⟨fun _ => ?_, noF (rfl)⟩
  refine g 8 9 [] ?_
  conv => whnf
  refine ⟨⟨I, I⟩, ?_⟩
  refine W.ret ?_
  refine EndsW.rt ?_
  conv => whnf
  refine ⟨⟨I, I, I⟩, ?_, rfl⟩
  rotate_left 1
  all_goals (try simp only [List.length_map, decide_eq_true_eq, Bool.not_eq_true, Bool.not_eq_true', decide_eq_false_iff_not] at *)
  all_goals first
    | exact vbf (by unfold msgOk; grind)
    | exact vbt (by unfold msgOk; grind)
    | exact vbd (by unfold msgOk; grind)
end Go.K

/- Contracts of functions of the program: what each call answers. -/
import Derived.Test.YtglgidpbcnngdaaPartd
section
set_option linter.unusedVariables false
set_option linter.unusedSimpArgs false
set_option maxHeartbeats 4000000
set_option maxRecDepth 20000
open Go Go.Tm Go.Proofs
namespace Go.K
theorem c_spec_l2Ok (m : Message) (hl : m.inputs.length ≤ 9223372036854775806) : F n_spec_l2Ok [.val (messageR m)] (.b (decide (msgOk m))) [[]] := by
  refine i_spec_l2Ok ?_
  conv => whnf
  refine g 0 1 [] ?_
  conv => whnf
  refine ⟨⟨⟨I, I, I, I, I, I, I, I, I⟩, I, I⟩, ?_⟩
  refine W.sq ?_
  by_cases h1 : (1 : Int) ≤ Message.kind m ∧ Message.kind m ≤ (5 : Int)
  refine g 13 15 [.call (V.b (decide ((1 : Int) ≤ Message.kind m ∧ Message.kind m ≤ (5 : Int)))) ([[], [], []]), .b (false), .b (false), .b (false), .call (V.b (decide ((1 : Int) ≤ Message.epoch m ∧ Message.epoch m ≤ (300 : Int)))) ([[], [], []]), .b (false), .b (false)] ?_
  conv => whnf
  refine ⟨⟨I, I, ⟨⟨I, I, I, I⟩, I, ⟨⟨I, I⟩, ⟨I, I⟩, ⟨I, I⟩, I⟩, ⟨I, I⟩, Go.K.c_spec_l2In _ _ _⟩, I, I, ⟨notF (by omega), I⟩, ⟨notF (by omega), I⟩, ⟨notF (by omega), ⟨I, I, I, I⟩, I, ⟨⟨I, I⟩, ⟨I, I⟩, ⟨I, I⟩, I⟩, ⟨I, I⟩, Go.K.c_spec_l2In _ _ _⟩, ⟨notF (by omega), I⟩, notF (by omega), I⟩, ?_⟩
  refine W.cn ?_
  conv => whnf
  refine ⟨fun h2 => ?_, fun h2 => ?_⟩
  replace h2 := ndt h2
  refine g 8 9 [] ?_
  conv => whnf
  refine ⟨⟨I, I⟩, ?_⟩
  refine W.ret ?_
  refine EndsW.rt ?_
  conv => whnf
  refine ⟨⟨I, I, I⟩, ?_, rfl⟩
  rotate_left 1
  replace h2 := ndf h2
  refine W.skip ?_
  refine g 20 25 [.call (V.tup [V.b (decide ((1 : Int) ≤ Message.kind m ∧ Message.kind m ≤ (4 : Int))), V.b (decide (Message.kind m = (1 : Int) ∨ Message.kind m = (3 : Int))), V.b (decide (Message.kind m = (3 : Int))), V.b (decide (Message.kind m = (1 : Int))), V.b (decide (Message.kind m = (1 : Int) ∨ Message.kind m = (4 : Int)))]) ([[]])] ?_
  conv => whnf
  refine ⟨⟨I, I, ⟨⟨I, I⟩, I, ⟨⟨I, I⟩, I⟩, ⟨I, I⟩, Go.K.c_spec_l2Uses _⟩, I, I, I, I, I, I, I, I, I, I, I, I⟩, ?_⟩
  refine W.sq ?_
  by_cases h3 : Message.kind m = (1 : Int) ∨ Message.kind m = (4 : Int)
  by_cases h4 : Message.frm m = (0 : Int)
  by_cases h5 : (1 : Int) ≤ Message.to m ∧ Message.to m ≤ (8 : Int)
  refine g 29 53 [.b (true), .b (true), .b (true), .b (true), .b (false), .b (false), .b (false), .call (V.b (decide ((1 : Int) ≤ Message.to m ∧ Message.to m ≤ (8 : Int)))) ([[], [], []]), .b (false), .b (true), .b (false), .b (true), .b (false), .b (false), .b (false), .b (false), .b (false), .b (false), .b (false), .b (false), .b (false), .b (false), .b (false), .b (false), .b (false), .b (false), .b (false)] ?_
  conv => whnf
  refine ⟨⟨I, I, ⟨decide_eq_true (by omega), I⟩, ⟨decide_eq_true (by omega), I⟩, ⟨decide_eq_true (by omega), I⟩, ⟨decide_eq_true (by omega), I⟩, ⟨notF (by omega), I⟩, ⟨notF (by omega), I⟩, ⟨notF (by omega), ⟨I, I, I, I⟩, I, ⟨⟨I, I⟩, ⟨I, I⟩, ⟨I, I⟩, I⟩, ⟨I, I⟩, Go.K.c_spec_l2In _ _ _⟩, ⟨notF (by omega), I⟩, ⟨decide_eq_true (by omega), notF (by omega)⟩, decide_eq_true (by omega), I, ⟨notF (by omega), I⟩, ⟨notF (by omega), I⟩, ⟨notF (by omega), I⟩, notF (by omega), notF (by omega), notF (by omega), notF (by omega), I, I, I, I, notF (by omega), ⟨notF (by omega), notF (by omega)⟩, notF (by omega), I⟩, ?_⟩
  refine W.cn ?_
  conv => whnf
  refine ⟨noT (rfl), fun _ => ?_⟩
  refine W.skip ?_
  refine W.sq ?_
  by_cases h6 : (1 : Int) ≤ Message.lease m ∧ Message.lease m ≤ (300000000 : Int)
  by_cases h7 : Message.kind m = (1 : Int) ∨ Message.kind m = (3 : Int)
  by_cases h8 : (0 : Int) ≤ Message.task m ∧ Message.task m ≤ (39 : Int)
  refine g 11 87 [.b (true), .b (true), .b (true), .call (V.b (decide ((1 : Int) ≤ Message.lease m ∧ Message.lease m ≤ (300000000 : Int)))) ([[]]), .b (true), .b (true), .b (false), .b (false), .b (false), .b (false), .b (false), .b (false), .b (false), .b (false), .b (false), .b (false), .b (false), .b (true), .b (true), .b (true), .call (V.b (decide ((0 : Int) ≤ Message.task m ∧ Message.task m ≤ (39 : Int)))) ([[], [], []]), .b (true), .b (false), .b (true), .b (false), .b (false), .b (false), .b (false), .b (false), .b (false), .b (false), .b (false), .b (false), .b (false)] ?_
  conv => whnf
  refine ⟨⟨I, I, ⟨decide_eq_true (by omega), I⟩, ⟨decide_eq_true (by omega), I⟩, ⟨decide_eq_true (by omega), ⟨I, I⟩, I, ⟨⟨I, I⟩, I⟩, ⟨I, I⟩, Go.K.c_spec_l2LeaseOk _⟩, ⟨decide_eq_true (by omega), I⟩, decide_eq_true (by omega), I, ⟨notF (by omega), I⟩, ⟨notF (by omega), I⟩, ⟨notF (by omega), I⟩, notF (by omega), notF (by omega), notF (by omega), ⟨notF (by omega), notF (by omega)⟩, notF (by omega), I, ⟨rfl, I⟩, ⟨rfl, I⟩, ⟨decide_eq_true (by omega), I⟩, ⟨decide_eq_true (by omega), I⟩, ⟨decide_eq_true (by omega), ⟨I, I, I, I⟩, I, ⟨⟨I, I⟩, ⟨I, I⟩, ⟨I, I⟩, I⟩, ⟨I, I⟩, Go.K.c_spec_l2In _ _ _⟩, ⟨decide_eq_true (by omega), I⟩, ⟨rfl, decide_eq_true (by omega)⟩, rfl, I, ⟨notF (by omega), I⟩, ⟨notF (by omega), I⟩, ⟨notF (by omega), I⟩, notF (by omega), notF (by omega), notF (by omega), ⟨notF (by omega), notF (by omega)⟩, notF (by omega), I⟩, ?_⟩
  refine W.cn ?_
  conv => whnf
  refine ⟨noT (rfl), fun _ => ?_⟩
  refine W.skip ?_
  refine W.sq ?_
  refine g 10 103 [.b (false), .b (false), .b (false), .b (false), .b (false), .b (false), .b (false), .b (false), .b (true), .b (true), .b (true), .b (false), .b (true), .b (false)] ?_
  conv => whnf
  refine ⟨⟨I, I, decide_eq_false (by omega), decide_eq_false (by omega), decide_eq_false (by omega), decide_eq_false (by omega), decide_eq_false (by omega), I, ⟨rfl, I⟩, ⟨rfl, I⟩, ⟨rfl, I⟩, ⟨notT (by omega), I⟩, ⟨notT (by omega), I⟩, ⟨notT (by omega), I⟩, ⟨rfl, notT (by omega)⟩, rfl, I⟩, ?_⟩
  refine W.cn ?_
  conv => whnf
  refine ⟨fun h9 => ?_, fun h9 => ?_⟩
  replace h9 := ndt h9
  refine g 7 9 [] ?_
  conv => whnf
  refine ⟨⟨I, I⟩, ?_⟩
  refine W.ret ?_
  refine EndsW.rt ?_
  conv => whnf
  refine ⟨⟨I, I, I⟩, ?_, rfl⟩
  rotate_left 1
  replace h9 := ndf h9
  refine W.skip ?_
  by_cases h10 : eights (Message.inputs m)
  refine g 5 120 [.b (true), .b (true), .b (true), .call (V.b (decide (eights (Message.inputs m)))) ([[]]), .b (true), .b (true), .b (true), .b (true), .b (false), .b (false), .b (false), .b (false), .b (true), .b (true)] ?_
  conv => whnf
  refine ⟨⟨I, I, ⟨decide_eq_true (by omega), I⟩, ⟨decide_eq_true (by omega), I⟩, ⟨decide_eq_true (by omega), ⟨I, I⟩, I, ⟨⟨I, I⟩, I⟩, ⟨I, I⟩, Go.K.c_spec_l2InputsOk _ (by omega)⟩, decide_eq_true (by omega), I, decide_eq_true (by omega), decide_eq_true (by omega), decide_eq_true (by omega), I, I, I, I, decide_eq_true (by omega), decide_eq_true (by omega), I, I⟩, ?_⟩
  refine W.ret ?_
  refine EndsW.rt ?_
  conv => whnf
  refine ⟨⟨I, I, I⟩, ?_, rfl⟩
  rotate_left 1
  refine g 5 120 [.b (true), .b (true), .b (true), .call (V.b (decide (eights (Message.inputs m)))) ([[]]), .b (true), .b (false), .b (false), .b (false), .b (false), .b (false), .b (false), .b (false), .b (false), .b (false), .b (false)] ?_
  conv => whnf
  refine ⟨⟨I, I, ⟨decide_eq_true (by omega), I⟩, ⟨decide_eq_true (by omega), I⟩, ⟨decide_eq_true (by omega), ⟨I, I⟩, I, ⟨⟨I, I⟩, I⟩, ⟨I, I⟩, Go.K.c_spec_l2InputsOk _ (by omega)⟩, decide_eq_true (by omega), I, ⟨decide_eq_false (by omega), I⟩, ⟨decide_eq_false (by omega), I⟩, ⟨decide_eq_false (by omega), I⟩, notF (by omega), notF (by omega), notF (by omega), notF (by omega), ⟨decide_eq_false (by omega), notF (by omega)⟩, decide_eq_false (by omega), I, I⟩, ?_⟩
  refine W.ret ?_
  refine EndsW.rt ?_
  conv => whnf
  refine ⟨⟨I, I, I⟩, ?_, rfl⟩
  rotate_left 1
  refine g 11 87 [.b (true), .b (true), .b (true), .call (V.b (decide ((1 : Int) ≤ Message.lease m ∧ Message.lease m ≤ (300000000 : Int)))) ([[]]), .b (true), .b (true), .b (false), .b (false), .b (false), .b (false), .b (false), .b (false), .b (false), .b (false), .b (false), .b (false), .b (false), .b (true), .b (true), .b (true), .call (V.b (decide ((0 : Int) ≤ Message.task m ∧ Message.task m ≤ (39 : Int)))) ([[], [], []]), .b (true), .b (false), .b (true), .b (false), .b (true), .b (true), .b (true), .b (false), .b (false), .b (false), .b (true), .b (true)] ?_
  conv => whnf
  refine ⟨⟨I, I, ⟨decide_eq_true (by omega), I⟩, ⟨decide_eq_true (by omega), I⟩, ⟨decide_eq_true (by omega), ⟨I, I⟩, I, ⟨⟨I, I⟩, I⟩, ⟨I, I⟩, Go.K.c_spec_l2LeaseOk _⟩, ⟨decide_eq_true (by omega), I⟩, decide_eq_true (by omega), I, ⟨notF (by omega), I⟩, ⟨notF (by omega), I⟩, ⟨notF (by omega), I⟩, notF (by omega), notF (by omega), notF (by omega), ⟨notF (by omega), notF (by omega)⟩, notF (by omega), I, ⟨rfl, I⟩, ⟨rfl, I⟩, ⟨decide_eq_true (by omega), I⟩, ⟨decide_eq_true (by omega), I⟩, ⟨decide_eq_true (by omega), ⟨I, I, I, I⟩, I, ⟨⟨I, I⟩, ⟨I, I⟩, ⟨I, I⟩, I⟩, ⟨I, I⟩, Go.K.c_spec_l2In _ _ _⟩, ⟨decide_eq_true (by omega), I⟩, ⟨rfl, decide_eq_true (by omega)⟩, rfl, I, notT (by omega), notT (by omega), notT (by omega), I, I, I, notT (by omega), notT (by omega), I⟩, ?_⟩
  refine W.cn ?_
  conv => whnf
  refine ⟨fun _ => ?_, noF (rfl)⟩
  refine g 3 4 [] ?_
  conv => whnf
  refine ⟨⟨I, I⟩, ?_⟩
  refine W.ret ?_
  refine EndsW.rt ?_
  conv => whnf
  refine ⟨⟨I, I, I⟩, ?_, rfl⟩
  rotate_left 1
  refine g 11 87 [.b (true), .b (true), .b (true), .call (V.b (decide ((1 : Int) ≤ Message.lease m ∧ Message.lease m ≤ (300000000 : Int)))) ([[]]), .b (true), .b (true), .b (false), .b (false), .b (false), .b (false), .b (false), .b (false), .b (false), .b (false), .b (false), .b (false), .b (false), .b (false), .b (false), .b (false), .b (false), .b (false), .b (false), .b (false), .b (false), .b (false), .b (false), .b (true), .b (true), .b (true), .b (false), .b (true), .b (false)] ?_
  conv => whnf
  refine ⟨⟨I, I, ⟨decide_eq_true (by omega), I⟩, ⟨decide_eq_true (by omega), I⟩, ⟨decide_eq_true (by omega), ⟨I, I⟩, I, ⟨⟨I, I⟩, I⟩, ⟨I, I⟩, Go.K.c_spec_l2LeaseOk _⟩, ⟨decide_eq_true (by omega), I⟩, decide_eq_true (by omega), I, ⟨notF (by omega), I⟩, ⟨notF (by omega), I⟩, ⟨notF (by omega), I⟩, notF (by omega), notF (by omega), notF (by omega), ⟨notF (by omega), notF (by omega)⟩, notF (by omega), I, ⟨rfl, I⟩, ⟨rfl, I⟩, decide_eq_false (by omega), decide_eq_false (by omega), decide_eq_false (by omega), decide_eq_false (by omega), ⟨rfl, decide_eq_false (by omega)⟩, rfl, I, ⟨rfl, I⟩, ⟨rfl, I⟩, ⟨rfl, I⟩, ⟨notT (by omega), I⟩, ⟨notT (by omega), I⟩, ⟨notT (by omega), I⟩, ⟨rfl, notT (by omega)⟩, rfl, I⟩, ?_⟩
  refine W.cn ?_
  conv => whnf
  refine ⟨fun h8 => ?_, fun h8 => ?_⟩
  replace h8 := ndt h8
  refine g 3 4 [] ?_
  conv => whnf
  refine ⟨⟨I, I⟩, ?_⟩
  refine W.ret ?_
  refine EndsW.rt ?_
  conv => whnf
  refine ⟨⟨I, I, I⟩, ?_, rfl⟩
  rotate_left 1
  replace h8 := ndf h8
  refine W.skip ?_
  refine W.sq ?_
  refine g 10 103 [.b (false), .b (false), .b (false), .b (false), .b (false), .b (false), .b (false), .b (false), .b (true), .b (true), .b (true), .b (false), .b (true), .b (false)] ?_
  conv => whnf
  refine ⟨⟨I, I, decide_eq_false (by omega), decide_eq_false (by omega), decide_eq_false (by omega), decide_eq_false (by omega), decide_eq_false (by omega), I, ⟨rfl, I⟩, ⟨rfl, I⟩, ⟨rfl, I⟩, ⟨notT (by omega), I⟩, ⟨notT (by omega), I⟩, ⟨notT (by omega), I⟩, ⟨rfl, notT (by omega)⟩, rfl, I⟩, ?_⟩
  refine W.cn ?_
  conv => whnf
  refine ⟨fun h9 => ?_, fun h9 => ?_⟩
  replace h9 := ndt h9
  refine g 7 9 [] ?_
  conv => whnf
  refine ⟨⟨I, I⟩, ?_⟩
  refine W.ret ?_
  refine EndsW.rt ?_
  conv => whnf
  refine ⟨⟨I, I, I⟩, ?_, rfl⟩
  rotate_left 1
  replace h9 := ndf h9
  refine W.skip ?_
  refine g 5 120 [.b (false), .b (false), .b (false), .b (false), .b (false), .b (false), .b (false), .b (true), .b (true), .b (true), .b (true), .b (false), .b (true), .b (false)] ?_
  conv => whnf
  refine ⟨⟨I, I, decide_eq_false (by omega), decide_eq_false (by omega), decide_eq_false (by omega), decide_eq_false (by omega), I, ⟨rfl, I⟩, ⟨rfl, I⟩, ⟨rfl, I⟩, ⟨notT (by omega), I⟩, ⟨notT (by omega), I⟩, ⟨notT (by omega), I⟩, ⟨notT (by omega), I⟩, ⟨rfl, notT (by omega)⟩, rfl, I, I⟩, ?_⟩
  refine W.ret ?_
  refine EndsW.rt ?_
  conv => whnf
  refine ⟨⟨I, I, I⟩, ?_, rfl⟩
  rotate_left 1
  refine g 11 87 [.b (true), .b (true), .b (true), .call (V.b (decide ((1 : Int) ≤ Message.lease m ∧ Message.lease m ≤ (300000000 : Int)))) ([[]]), .b (true), .b (true), .b (true), .b (true), .b (true), .b (false), .b (false), .b (false), .b (true), .b (true), .b (true), .b (true), .b (false), .b (false), .b (false), .b (false), .b (true), .b (true), .b (true), .b (true), .b (true), .b (false), .b (false), .b (false), .b (true), .b (true)] ?_
  conv => whnf
  refine ⟨⟨I, I, ⟨decide_eq_true (by omega), I⟩, ⟨decide_eq_true (by omega), I⟩, ⟨decide_eq_true (by omega), ⟨I, I⟩, I, ⟨⟨I, I⟩, I⟩, ⟨I, I⟩, Go.K.c_spec_l2LeaseOk _⟩, ⟨decide_eq_true (by omega), I⟩, decide_eq_true (by omega), I, notT (by omega), notT (by omega), notT (by omega), I, I, I, notT (by omega), notT (by omega), I, rfl, rfl, I, I, I, I, rfl, rfl, I, rfl, rfl, rfl, I, I, I, rfl, rfl, I⟩, ?_⟩
  refine W.cn ?_
  conv => whnf
  refine ⟨fun _ => ?_, noF (rfl)⟩
  refine g 3 4 [] ?_
  conv => whnf
  refine ⟨⟨I, I⟩, ?_⟩
  refine W.ret ?_
  refine EndsW.rt ?_
  conv => whnf
  refine ⟨⟨I, I, I⟩, ?_, rfl⟩
  rotate_left 1
  refine g 29 53 [.b (true), .b (true), .b (true), .b (true), .b (false), .b (false), .b (false), .call (V.b (decide ((1 : Int) ≤ Message.to m ∧ Message.to m ≤ (8 : Int)))) ([[], [], []]), .b (false), .b (true), .b (false), .b (true), .b (true), .b (true), .b (true), .b (false), .b (false), .b (false), .b (false), .b (false), .b (false), .b (false), .b (false), .b (false), .b (true), .b (true)] ?_
  conv => whnf
  refine ⟨⟨I, I, ⟨decide_eq_true (by omega), I⟩, ⟨decide_eq_true (by omega), I⟩, ⟨decide_eq_true (by omega), I⟩, ⟨decide_eq_true (by omega), I⟩, ⟨notF (by omega), I⟩, ⟨notF (by omega), I⟩, ⟨notF (by omega), ⟨I, I, I, I⟩, I, ⟨⟨I, I⟩, ⟨I, I⟩, ⟨I, I⟩, I⟩, ⟨I, I⟩, Go.K.c_spec_l2In _ _ _⟩, ⟨notF (by omega), I⟩, ⟨decide_eq_true (by omega), notF (by omega)⟩, decide_eq_true (by omega), I, notT (by omega), notT (by omega), notT (by omega), I, I, I, I, I, I, I, I, I, notT (by omega), notT (by omega), I⟩, ?_⟩
  refine W.cn ?_
  conv => whnf
  refine ⟨fun _ => ?_, noF (rfl)⟩
  refine g 11 16 [] ?_
  conv => whnf
  refine ⟨⟨I, I⟩, ?_⟩
  refine W.ret ?_
  refine EndsW.rt ?_
  conv => whnf
  refine ⟨⟨I, I, I⟩, ?_, rfl⟩
  rotate_left 1
  refine g 29 53 [.b (true), .b (true), .b (true), .b (true), .b (true), .b (true), .b (true), .b (true), .b (true), .b (true), .b (true), .b (true), .b (true), .b (true), .b (false), .b (false), .b (false), .b (false), .b (false), .b (false), .b (false), .b (false), .b (false), .b (true), .b (true)] ?_
  conv => whnf
  refine ⟨⟨I, I, ⟨decide_eq_true (by omega), I⟩, ⟨decide_eq_true (by omega), I⟩, ⟨decide_eq_true (by omega), I⟩, ⟨decide_eq_true (by omega), I⟩, notT (by omega), notT (by omega), notT (by omega), notT (by omega), ⟨decide_eq_true (by omega), notT (by omega)⟩, decide_eq_true (by omega), I, rfl, rfl, rfl, I, I, I, I, I, I, I, I, I, rfl, rfl, I⟩, ?_⟩
  refine W.cn ?_
  conv => whnf
  refine ⟨fun _ => ?_, noF (rfl)⟩
  refine g 11 16 [] ?_
  conv => whnf
  refine ⟨⟨I, I⟩, ?_⟩
  refine W.ret ?_
  refine EndsW.rt ?_
  conv => whnf
  refine ⟨⟨I, I, I⟩, ?_, rfl⟩
  rotate_left 1
  by_cases h4 : Message.to m = (0 : Int)
  refine g 29 53 [.b (false), .b (false), .b (false), .b (false), .b (false), .b (false), .b (false), .b (false), .b (false), .b (false), .b (false), .b (false), .b (false), .b (true), .b (true), .b (true), .b (true), .b (false), .b (false), .b (false), .call (V.b (decide ((1 : Int) ≤ Message.frm m ∧ Message.frm m ≤ (8 : Int)))) ([[], [], []]), .b (false), .b (true), .b (false), .b (false), .b (true), .b (false)] ?_
  conv => whnf
  refine ⟨⟨I, I, decide_eq_false (by omega), decide_eq_false (by omega), decide_eq_false (by omega), decide_eq_false (by omega), I, I, I, I, decide_eq_false (by omega), decide_eq_false (by omega), I, ⟨rfl, I⟩, ⟨rfl, I⟩, ⟨rfl, I⟩, ⟨notT (by omega), I⟩, ⟨notT (by omega), I⟩, ⟨notT (by omega), I⟩, ⟨notT (by omega), I⟩, ⟨notF (by omega), I⟩, ⟨notF (by omega), I⟩, ⟨notF (by omega), ⟨I, I, I, I⟩, I, ⟨⟨I, I⟩, ⟨I, I⟩, ⟨I, I⟩, I⟩, ⟨I, I⟩, Go.K.c_spec_l2In _ _ _⟩, ⟨notF (by omega), I⟩, ⟨notT (by omega), notF (by omega)⟩, ⟨rfl, notT (by omega)⟩, rfl, I⟩, ?_⟩
  refine W.cn ?_
  conv => whnf
  refine ⟨fun h5 => ?_, fun h5 => ?_⟩
  replace h5 := ndt h5
  refine g 11 16 [] ?_
  conv => whnf
  refine ⟨⟨I, I⟩, ?_⟩
  refine W.ret ?_
  refine EndsW.rt ?_
  conv => whnf
  refine ⟨⟨I, I, I⟩, ?_, rfl⟩
  rotate_left 1
  replace h5 := ndf h5
  refine W.skip ?_
  refine W.sq ?_
  by_cases h6 : (1 : Int) ≤ Message.kind m ∧ Message.kind m ≤ (4 : Int)
  by_cases h7 : (1 : Int) ≤ Message.lease m ∧ Message.lease m ≤ (300000000 : Int)
  by_cases h8 : Message.kind m = (1 : Int) ∨ Message.kind m = (3 : Int)
  by_cases h9 : (0 : Int) ≤ Message.task m ∧ Message.task m ≤ (39 : Int)
  refine g 11 87 [.b (true), .b (true), .b (true), .call (V.b (decide ((1 : Int) ≤ Message.lease m ∧ Message.lease m ≤ (300000000 : Int)))) ([[]]), .b (true), .b (true), .b (false), .b (false), .b (false), .b (false), .b (false), .b (false), .b (false), .b (false), .b (false), .b (false), .b (false), .b (true), .b (true), .b (true), .call (V.b (decide ((0 : Int) ≤ Message.task m ∧ Message.task m ≤ (39 : Int)))) ([[], [], []]), .b (true), .b (false), .b (true), .b (false), .b (false), .b (false), .b (false), .b (false), .b (false), .b (false), .b (false), .b (false), .b (false)] ?_
  conv => whnf
  refine ⟨⟨I, I, ⟨decide_eq_true (by omega), I⟩, ⟨decide_eq_true (by omega), I⟩, ⟨decide_eq_true (by omega), ⟨I, I⟩, I, ⟨⟨I, I⟩, I⟩, ⟨I, I⟩, Go.K.c_spec_l2LeaseOk _⟩, ⟨decide_eq_true (by omega), I⟩, decide_eq_true (by omega), I, ⟨notF (by omega), I⟩, ⟨notF (by omega), I⟩, ⟨notF (by omega), I⟩, notF (by omega), notF (by omega), notF (by omega), ⟨notF (by omega), notF (by omega)⟩, notF (by omega), I, ⟨rfl, I⟩, ⟨rfl, I⟩, ⟨decide_eq_true (by omega), I⟩, ⟨decide_eq_true (by omega), I⟩, ⟨decide_eq_true (by omega), ⟨I, I, I, I⟩, I, ⟨⟨I, I⟩, ⟨I, I⟩, ⟨I, I⟩, I⟩, ⟨I, I⟩, Go.K.c_spec_l2In _ _ _⟩, ⟨decide_eq_true (by omega), I⟩, ⟨rfl, decide_eq_true (by omega)⟩, rfl, I, ⟨notF (by omega), I⟩, ⟨notF (by omega), I⟩, ⟨notF (by omega), I⟩, notF (by omega), notF (by omega), notF (by omega), ⟨notF (by omega), notF (by omega)⟩, notF (by omega), I⟩, ?_⟩
  refine W.cn ?_
  conv => whnf
  refine ⟨noT (rfl), fun _ => ?_⟩
  refine W.skip ?_
  refine W.sq ?_
  by_cases h10 : (↑(ByteArray.size (Message.text m)) : Int) = (8 : Int)
  refine g 10 103 [.b (true), .b (true), .b (true), .b (true), .b (true), .b (false), .b (false), .b (false), .b (false), .b (false), .b (false), .b (false), .b (false), .b (false)] ?_
  conv => whnf
  refine ⟨⟨I, I, ⟨decide_eq_true (by omega), I⟩, ⟨decide_eq_true (by omega), I⟩, ⟨decide_eq_true (by omega), I⟩, ⟨decide_eq_true (by omega), I⟩, decide_eq_true (by omega), I, ⟨notF (by omega), I⟩, ⟨notF (by omega), I⟩, ⟨notF (by omega), I⟩, notF (by omega), notF (by omega), notF (by omega), ⟨notF (by omega), notF (by omega)⟩, notF (by omega), I⟩, ?_⟩
  refine W.cn ?_
  conv => whnf
  refine ⟨noT (rfl), fun _ => ?_⟩
  refine W.skip ?_
  refine g 5 120 [.b (false), .b (false), .b (false), .b (false), .b (false), .b (false), .b (false), .b (true), .b (true), .b (true), .b (true), .b (false), .b (true), .b (false)] ?_
  conv => whnf
  refine ⟨⟨I, I, decide_eq_false (by omega), decide_eq_false (by omega), decide_eq_false (by omega), decide_eq_false (by omega), I, ⟨rfl, I⟩, ⟨rfl, I⟩, ⟨rfl, I⟩, ⟨notT (by omega), I⟩, ⟨notT (by omega), I⟩, ⟨notT (by omega), I⟩, ⟨notT (by omega), I⟩, ⟨rfl, notT (by omega)⟩, rfl, I, I⟩, ?_⟩
  refine W.ret ?_
  refine EndsW.rt ?_
  conv => whnf
  refine ⟨⟨I, I, I⟩, ?_, rfl⟩
  rotate_left 1
  refine g 10 103 [.b (true), .b (true), .b (true), .b (true), .b (true), .b (true), .b (true), .b (true), .b (false), .b (false), .b (false), .b (true), .b (true)] ?_
  conv => whnf
  refine ⟨⟨I, I, ⟨decide_eq_true (by omega), I⟩, ⟨decide_eq_true (by omega), I⟩, ⟨decide_eq_true (by omega), I⟩, ⟨decide_eq_true (by omega), I⟩, decide_eq_true (by omega), I, notT (by omega), notT (by omega), notT (by omega), I, I, I, notT (by omega), notT (by omega), I⟩, ?_⟩
  refine W.cn ?_
  conv => whnf
  refine ⟨fun _ => ?_, noF (rfl)⟩
  refine g 7 9 [] ?_
  conv => whnf
  refine ⟨⟨I, I⟩, ?_⟩
  refine W.ret ?_
  refine EndsW.rt ?_
  conv => whnf
  refine ⟨⟨I, I, I⟩, ?_, rfl⟩
  rotate_left 1
  refine g 11 87 [.b (true), .b (true), .b (true), .call (V.b (decide ((1 : Int) ≤ Message.lease m ∧ Message.lease m ≤ (300000000 : Int)))) ([[]]), .b (true), .b (true), .b (false), .b (false), .b (false), .b (false), .b (false), .b (false), .b (false), .b (false), .b (false), .b (false), .b (false), .b (true), .b (true), .b (true), .call (V.b (decide ((0 : Int) ≤ Message.task m ∧ Message.task m ≤ (39 : Int)))) ([[], [], []]), .b (true), .b (false), .b (true), .b (false), .b (true), .b (true), .b (true), .b (false), .b (false), .b (false), .b (true), .b (true)] ?_
  conv => whnf
  refine ⟨⟨I, I, ⟨decide_eq_true (by omega), I⟩, ⟨decide_eq_true (by omega), I⟩, ⟨decide_eq_true (by omega), ⟨I, I⟩, I, ⟨⟨I, I⟩, I⟩, ⟨I, I⟩, Go.K.c_spec_l2LeaseOk _⟩, ⟨decide_eq_true (by omega), I⟩, decide_eq_true (by omega), I, ⟨notF (by omega), I⟩, ⟨notF (by omega), I⟩, ⟨notF (by omega), I⟩, notF (by omega), notF (by omega), notF (by omega), ⟨notF (by omega), notF (by omega)⟩, notF (by omega), I, ⟨rfl, I⟩, ⟨rfl, I⟩, ⟨decide_eq_true (by omega), I⟩, ⟨decide_eq_true (by omega), I⟩, ⟨decide_eq_true (by omega), ⟨I, I, I, I⟩, I, ⟨⟨I, I⟩, ⟨I, I⟩, ⟨I, I⟩, I⟩, ⟨I, I⟩, Go.K.c_spec_l2In _ _ _⟩, ⟨decide_eq_true (by omega), I⟩, ⟨rfl, decide_eq_true (by omega)⟩, rfl, I, notT (by omega), notT (by omega), notT (by omega), I, I, I, notT (by omega), notT (by omega), I⟩, ?_⟩
  refine W.cn ?_
  conv => whnf
  refine ⟨fun _ => ?_, noF (rfl)⟩
  refine g 3 4 [] ?_
  conv => whnf
  refine ⟨⟨I, I⟩, ?_⟩
  refine W.ret ?_
  refine EndsW.rt ?_
  conv => whnf
  refine ⟨⟨I, I, I⟩, ?_, rfl⟩
  rotate_left 1
  refine g 11 87 [.b (true), .b (true), .b (true), .call (V.b (decide ((1 : Int) ≤ Message.lease m ∧ Message.lease m ≤ (300000000 : Int)))) ([[]]), .b (true), .b (true), .b (false), .b (false), .b (false), .b (false), .b (false), .b (false), .b (false), .b (false), .b (false), .b (false), .b (false), .b (false), .b (false), .b (false), .b (false), .b (false), .b (false), .b (false), .b (false), .b (false), .b (false), .b (true), .b (true), .b (true), .b (false), .b (true), .b (false)] ?_
  conv => whnf
  refine ⟨⟨I, I, ⟨decide_eq_true (by omega), I⟩, ⟨decide_eq_true (by omega), I⟩, ⟨decide_eq_true (by omega), ⟨I, I⟩, I, ⟨⟨I, I⟩, I⟩, ⟨I, I⟩, Go.K.c_spec_l2LeaseOk _⟩, ⟨decide_eq_true (by omega), I⟩, decide_eq_true (by omega), I, ⟨notF (by omega), I⟩, ⟨notF (by omega), I⟩, ⟨notF (by omega), I⟩, notF (by omega), notF (by omega), notF (by omega), ⟨notF (by omega), notF (by omega)⟩, notF (by omega), I, ⟨rfl, I⟩, ⟨rfl, I⟩, decide_eq_false (by omega), decide_eq_false (by omega), decide_eq_false (by omega), decide_eq_false (by omega), ⟨rfl, decide_eq_false (by omega)⟩, rfl, I, ⟨rfl, I⟩, ⟨rfl, I⟩, ⟨rfl, I⟩, ⟨notT (by omega), I⟩, ⟨notT (by omega), I⟩, ⟨notT (by omega), I⟩, ⟨rfl, notT (by omega)⟩, rfl, I⟩, ?_⟩
  refine W.cn ?_
  conv => whnf
  refine ⟨fun h9 => ?_, fun h9 => ?_⟩
  replace h9 := ndt h9
  refine g 3 4 [] ?_
  conv => whnf
  refine ⟨⟨I, I⟩, ?_⟩
  refine W.ret ?_
  refine EndsW.rt ?_
  conv => whnf
  refine ⟨⟨I, I, I⟩, ?_, rfl⟩
  rotate_left 1
  replace h9 := ndf h9
  refine W.skip ?_
  refine W.sq ?_
  refine g 10 103 [.b (false), .b (false), .b (false), .b (false), .b (false), .b (false), .b (false), .b (false), .b (true), .b (true), .b (true), .b (false), .b (true), .b (false)] ?_
  conv => whnf
  refine ⟨⟨I, I, decide_eq_false (by omega), decide_eq_false (by omega), decide_eq_false (by omega), decide_eq_false (by omega), decide_eq_false (by omega), I, ⟨rfl, I⟩, ⟨rfl, I⟩, ⟨rfl, I⟩, ⟨notT (by omega), I⟩, ⟨notT (by omega), I⟩, ⟨notT (by omega), I⟩, ⟨rfl, notT (by omega)⟩, rfl, I⟩, ?_⟩
  refine W.cn ?_
  conv => whnf
  refine ⟨fun h10 => ?_, fun h10 => ?_⟩
  replace h10 := ndt h10
  refine g 7 9 [] ?_
  conv => whnf
  refine ⟨⟨I, I⟩, ?_⟩
  refine W.ret ?_
  refine EndsW.rt ?_
  conv => whnf
  refine ⟨⟨I, I, I⟩, ?_, rfl⟩
  rotate_left 1
  replace h10 := ndf h10
  refine W.skip ?_
  refine g 5 120 [.b (false), .b (false), .b (false), .b (false), .b (false), .b (false), .b (false), .b (true), .b (true), .b (true), .b (true), .b (false), .b (true), .b (false)] ?_
  conv => whnf
  refine ⟨⟨I, I, decide_eq_false (by omega), decide_eq_false (by omega), decide_eq_false (by omega), decide_eq_false (by omega), I, ⟨rfl, I⟩, ⟨rfl, I⟩, ⟨rfl, I⟩, ⟨notT (by omega), I⟩, ⟨notT (by omega), I⟩, ⟨notT (by omega), I⟩, ⟨notT (by omega), I⟩, ⟨rfl, notT (by omega)⟩, rfl, I, I⟩, ?_⟩
  refine W.ret ?_
  refine EndsW.rt ?_
  conv => whnf
  refine ⟨⟨I, I, I⟩, ?_, rfl⟩
  rotate_left 1
  refine g 11 87 [.b (true), .b (true), .b (true), .call (V.b (decide ((1 : Int) ≤ Message.lease m ∧ Message.lease m ≤ (300000000 : Int)))) ([[]]), .b (true), .b (true), .b (true), .b (true), .b (true), .b (false), .b (false), .b (false), .b (true), .b (true), .b (true), .b (true), .b (false), .b (false), .b (false), .b (false), .b (true), .b (true), .b (true), .b (true), .b (true), .b (false), .b (false), .b (false), .b (true), .b (true)] ?_
  conv => whnf
  refine ⟨⟨I, I, ⟨decide_eq_true (by omega), I⟩, ⟨decide_eq_true (by omega), I⟩, ⟨decide_eq_true (by omega), ⟨I, I⟩, I, ⟨⟨I, I⟩, I⟩, ⟨I, I⟩, Go.K.c_spec_l2LeaseOk _⟩, ⟨decide_eq_true (by omega), I⟩, decide_eq_true (by omega), I, notT (by omega), notT (by omega), notT (by omega), I, I, I, notT (by omega), notT (by omega), I, rfl, rfl, I, I, I, I, rfl, rfl, I, rfl, rfl, rfl, I, I, I, rfl, rfl, I⟩, ?_⟩
  refine W.cn ?_
  conv => whnf
  refine ⟨fun _ => ?_, noF (rfl)⟩
  refine g 3 4 [] ?_
  conv => whnf
  refine ⟨⟨I, I⟩, ?_⟩
  refine W.ret ?_
  refine EndsW.rt ?_
  conv => whnf
  refine ⟨⟨I, I, I⟩, ?_, rfl⟩
  rotate_left 1
  by_cases h7 : Message.lease m = (0 : Int)
  refine g 11 87 [.b (false), .b (false), .b (false), .b (false), .b (false), .b (false), .b (false), .b (false), .b (true), .b (true), .b (true), .b (false), .b (true), .b (false), .b (false), .b (false), .b (false), .b (false), .b (false), .b (false), .b (false), .b (false), .b (false), .b (false), .b (false), .b (false), .b (true), .b (true), .b (true), .b (false), .b (true), .b (false)] ?_
  conv => whnf
  refine ⟨⟨I, I, decide_eq_false (by omega), decide_eq_false (by omega), decide_eq_false (by omega), decide_eq_false (by omega), decide_eq_false (by omega), I, ⟨rfl, I⟩, ⟨rfl, I⟩, ⟨rfl, I⟩, ⟨notT (by omega), I⟩, ⟨notT (by omega), I⟩, ⟨notT (by omega), I⟩, ⟨rfl, notT (by omega)⟩, rfl, I, ⟨notF (by omega), I⟩, ⟨notF (by omega), I⟩, decide_eq_false (by omega), decide_eq_false (by omega), decide_eq_false (by omega), decide_eq_false (by omega), ⟨notF (by omega), decide_eq_false (by omega)⟩, notF (by omega), I, ⟨rfl, I⟩, ⟨rfl, I⟩, ⟨rfl, I⟩, ⟨notT (by omega), I⟩, ⟨notT (by omega), I⟩, ⟨notT (by omega), I⟩, ⟨rfl, notT (by omega)⟩, rfl, I⟩, ?_⟩
  refine W.cn ?_
  conv => whnf
  refine ⟨fun h8 => ?_, fun h8 => ?_⟩
  replace h8 := ndt h8
  refine g 3 4 [] ?_
  conv => whnf
  refine ⟨⟨I, I⟩, ?_⟩
  refine W.ret ?_
  refine EndsW.rt ?_
  conv => whnf
  refine ⟨⟨I, I, I⟩, ?_, rfl⟩
  rotate_left 1
  replace h8 := ndf h8
  refine W.skip ?_
  refine W.sq ?_
  refine g 10 103 [.b (false), .b (false), .b (false), .b (false), .b (false), .b (false), .b (false), .b (false), .b (true), .b (true), .b (true), .b (false), .b (true), .b (false)] ?_
  conv => whnf
  refine ⟨⟨I, I, decide_eq_false (by omega), decide_eq_false (by omega), decide_eq_false (by omega), decide_eq_false (by omega), decide_eq_false (by omega), I, ⟨rfl, I⟩, ⟨rfl, I⟩, ⟨rfl, I⟩, ⟨notT (by omega), I⟩, ⟨notT (by omega), I⟩, ⟨notT (by omega), I⟩, ⟨rfl, notT (by omega)⟩, rfl, I⟩, ?_⟩
  refine W.cn ?_
  conv => whnf
  refine ⟨fun h9 => ?_, fun h9 => ?_⟩
  replace h9 := ndt h9
  refine g 7 9 [] ?_
  conv => whnf
  refine ⟨⟨I, I⟩, ?_⟩
  refine W.ret ?_
  refine EndsW.rt ?_
  conv => whnf
  refine ⟨⟨I, I, I⟩, ?_, rfl⟩
  rotate_left 1
  replace h9 := ndf h9
  refine W.skip ?_
  refine g 5 120 [.b (false), .b (false), .b (false), .b (false), .b (false), .b (false), .b (false), .b (true), .b (true), .b (true), .b (true), .b (false), .b (true), .b (false)] ?_
  conv => whnf
  refine ⟨⟨I, I, decide_eq_false (by omega), decide_eq_false (by omega), decide_eq_false (by omega), decide_eq_false (by omega), I, ⟨rfl, I⟩, ⟨rfl, I⟩, ⟨rfl, I⟩, ⟨notT (by omega), I⟩, ⟨notT (by omega), I⟩, ⟨notT (by omega), I⟩, ⟨notT (by omega), I⟩, ⟨rfl, notT (by omega)⟩, rfl, I, I⟩, ?_⟩
  refine W.ret ?_
  refine EndsW.rt ?_
  conv => whnf
  refine ⟨⟨I, I, I⟩, ?_, rfl⟩
  rotate_left 1
  refine g 11 87 [.b (false), .b (false), .b (false), .b (false), .b (false), .b (false), .b (false), .b (false), .b (true), .b (true), .b (true), .b (false), .b (true), .b (false), .b (true), .b (true), .b (false), .b (false), .b (false), .b (false), .b (true), .b (true), .b (true), .b (true), .b (true), .b (false), .b (false), .b (false), .b (true), .b (true)] ?_
  conv => whnf
  refine ⟨⟨I, I, decide_eq_false (by omega), decide_eq_false (by omega), decide_eq_false (by omega), decide_eq_false (by omega), decide_eq_false (by omega), I, ⟨rfl, I⟩, ⟨rfl, I⟩, ⟨rfl, I⟩, ⟨notT (by omega), I⟩, ⟨notT (by omega), I⟩, ⟨notT (by omega), I⟩, ⟨rfl, notT (by omega)⟩, rfl, I, notT (by omega), notT (by omega), I, I, I, I, notT (by omega), notT (by omega), I, rfl, rfl, rfl, I, I, I, rfl, rfl, I⟩, ?_⟩
  refine W.cn ?_
  conv => whnf
  refine ⟨fun _ => ?_, noF (rfl)⟩
  refine g 3 4 [] ?_
  conv => whnf
  refine ⟨⟨I, I⟩, ?_⟩
  refine W.ret ?_
  refine EndsW.rt ?_
  conv => whnf
  refine ⟨⟨I, I, I⟩, ?_, rfl⟩
  rotate_left 1
  refine g 29 53 [.b (false), .b (false), .b (false), .b (false), .b (false), .b (false), .b (false), .b (false), .b (false), .b (false), .b (false), .b (false), .b (false), .b (true), .b (true), .b (true), .b (true), .b (true), .b (true), .b (true), .b (true), .b (true), .b (true), .b (false), .b (true), .b (false)] ?_
  conv => whnf
  refine ⟨⟨I, I, decide_eq_false (by omega), decide_eq_false (by omega), decide_eq_false (by omega), decide_eq_false (by omega), I, I, I, I, decide_eq_false (by omega), decide_eq_false (by omega), I, ⟨rfl, I⟩, ⟨rfl, I⟩, ⟨rfl, I⟩, ⟨notT (by omega), I⟩, ⟨notT (by omega), I⟩, ⟨notT (by omega), I⟩, ⟨notT (by omega), I⟩, notT (by omega), notT (by omega), notT (by omega), notT (by omega), ⟨notT (by omega), notT (by omega)⟩, ⟨rfl, notT (by omega)⟩, rfl, I⟩, ?_⟩
  refine W.cn ?_
  conv => whnf
  refine ⟨fun _ => ?_, noF (rfl)⟩
  refine g 11 16 [] ?_
  conv => whnf
  refine ⟨⟨I, I⟩, ?_⟩
  refine W.ret ?_
  refine EndsW.rt ?_
  conv => whnf
  refine ⟨⟨I, I, I⟩, ?_, rfl⟩
  rotate_left 1
  refine g 13 15 [.call (V.b (decide ((1 : Int) ≤ Message.kind m ∧ Message.kind m ≤ (5 : Int)))) ([[], [], []]), .b (true), .b (true), .b (true), .b (true), .b (true)] ?_
  conv => whnf
  refine ⟨⟨I, I, ⟨⟨I, I, I, I⟩, I, ⟨⟨I, I⟩, ⟨I, I⟩, ⟨I, I⟩, I⟩, ⟨I, I⟩, Go.K.c_spec_l2In _ _ _⟩, I, I, notT (by omega), notT (by omega), notT (by omega), notT (by omega), notT (by omega), I⟩, ?_⟩
  refine W.cn ?_
  conv => whnf
  refine ⟨fun _ => ?_, noF (rfl)⟩
  refine g 8 9 [] ?_
  conv => whnf
  refine ⟨⟨I, I⟩, ?_⟩
  refine W.ret ?_
  refine EndsW.rt ?_
  conv => whnf
  refine ⟨⟨I, I, I⟩, ?_, rfl⟩
  rotate_left 1
  all_goals (try simp only [List.length_map, decide_eq_true_eq, Bool.not_eq_true, Bool.not_eq_true', decide_eq_false_iff_not] at *)
  all_goals first
    | exact vbf (by unfold msgOk; grind)
    | exact vbt (by unfold msgOk; grind)
    | exact vbd (by unfold msgOk; grind)
end Go.K

end

section
set_option linter.unusedVariables false
set_option linter.unusedSimpArgs false
set_option maxHeartbeats 4000000
set_option maxRecDepth 20000
open Go Go.Tm Go.Proofs
namespace Go.K
theorem ok_inputs {m : Message} (h : msgOk m) : m.inputs.length ≤ 8 ∧ (∀ s ∈ m.inputs, s.size = 8) ∧ m.text.size ≤ 8 := by
  have he : emp.size = 0 := rfl
  obtain ⟨_, h | h | h | h | h⟩ := h
  · obtain ⟨_, _, _, _, _, h1, h2, h3⟩ := h
    exact ⟨h3, h2, by rw [h1]; omega⟩
  all_goals
    obtain ⟨_, _, _, _, _, h1, h2⟩ := h
    have : m.inputs = [] := List.eq_nil_of_length_eq_zero (by omega)
    rw [this]
    refine ⟨by simp, (fun s hs => nomatch hs), ?_⟩
    first
      | (rw [h1]; omega)
      | omega
theorem ok_ranges {m : Message} (h : msgOk m) : (1 ≤ m.kind ∧ m.kind ≤ 5) ∧ (0 ≤ m.frm ∧ m.frm ≤ 8) ∧ (0 ≤ m.to ∧ m.to ≤ 8) ∧ (1 ≤ m.epoch ∧ m.epoch ≤ 300) ∧ (0 ≤ m.lease ∧ m.lease ≤ 300000000) ∧ (0 ≤ m.task ∧ m.task ≤ 39) := by
  obtain ⟨h0, h | h | h | h | h⟩ := h
  all_goals
    obtain ⟨h1, h2, h3, h4, h5, _⟩ := h
    refine ⟨?_, ?_, ?_, h0, ?_, ?_⟩ <;> omega
end Go.K

end

section
set_option linter.unusedVariables false
set_option linter.unusedSimpArgs false
set_option maxHeartbeats 4000000
set_option maxRecDepth 20000
open Go Go.Tm Go.Proofs
namespace Go.K
attribute [local irreducible] ByteArray.extract
end Go.K

end

section
set_option linter.unusedVariables false
set_option linter.unusedSimpArgs false
set_option maxHeartbeats 4000000
set_option maxRecDepth 20000
open Go Go.Tm Go.Proofs
namespace Go.K
attribute [local irreducible] ByteArray.extract
end Go.K

end

section
set_option linter.unusedVariables false
set_option linter.unusedSimpArgs false
set_option maxHeartbeats 4000000
set_option maxRecDepth 20000
open Go Go.Tm Go.Proofs
namespace Go.K
attribute [local irreducible] ByteArray.extract
end Go.K

end

section
set_option linter.unusedVariables false
set_option linter.unusedSimpArgs false
set_option maxHeartbeats 4000000
set_option maxRecDepth 20000
open Go Go.Tm Go.Proofs
namespace Go.K
theorem c_laws_szMessage (x : Message) (left : Int) (hw : messageWf x) (h : left ≤ 1048576) (h0 : 0 ≤ left) : F n_laws_szMessage [.val (messageR x), .val (.i left)] (.i (if left - messageSz x < 0 then -1 else left - messageSz x)) [[], []] := by
  have hn0 := totS_nn x.inputs
  obtain ⟨hw0, hw1, hw2⟩ := hw
  have hz : messageSz x = (x.text.size : Int) + ((x.inputs.length : Int) + totS x.inputs) := rfl
  refine i_laws_szMessage ?_
  conv => whnf
  refine g 0 1 [] ?_
  conv => whnf
  refine ⟨⟨⟨I, I, I, I, I, I, I, I, I⟩, I, I⟩, ?_⟩
  refine g 5 10 [.i (left - (↑(ByteArray.size (Message.text x)) : Int))] ?_
  conv => whnf
  refine ⟨⟨I, I, I, I, w64 (by omega) (by omega), I, I⟩, ?_⟩
  refine W.sq ?_
  refine g 10 11 [] ?_
  conv => whnf
  refine ⟨⟨I, I, I⟩, ?_⟩
  refine W.cn ?_
  conv => whnf
  refine ⟨fun h1 => ?_, fun h1 => ?_⟩
  replace h1 := dt h1
  refine g 11 12 [] ?_
  conv => whnf
  refine ⟨⟨I, I⟩, ?_⟩
  refine W.ret ?_
  refine EndsW.rt ?_
  conv => whnf
  refine ⟨⟨I, I, I⟩, ?_, rfl⟩
  exact vi (by omega)
  replace h1 := df h1
  refine W.skip ?_
  refine g 11 16 [.call (V.i (if left - (↑(ByteArray.size (Message.text x)) : Int) - (↑(List.length (Message.inputs x)) : Int) - totS (Message.inputs x) < (0 : Int) then (-1 : Int) else left - (↑(ByteArray.size (Message.text x)) : Int) - (↑(List.length (Message.inputs x)) : Int) - totS (Message.inputs x))) ([[], []])] ?_
  conv => whnf
  refine ⟨⟨I, I, I, ⟨⟨I, I, I⟩, I, ⟨⟨I, I⟩, ⟨I, I⟩, I⟩, ⟨I, I⟩, Go.K.c_laws_szStringS _ _ (by omega) (by omega) (by omega) (by omega)⟩, I, I⟩, ?_⟩
  refine W.sq ?_
  refine g 2 3 [] ?_
  conv => whnf
  refine ⟨⟨I, I, I⟩, ?_⟩
  refine W.cn ?_
  conv => whnf
  refine ⟨fun h2 => ?_, fun h2 => ?_⟩
  replace h2 := dt h2
  refine g 16 18 [] ?_
  conv => whnf
  refine ⟨⟨I, I⟩, ?_⟩
  refine W.ret ?_
  refine EndsW.rt ?_
  conv => whnf
  refine ⟨⟨I, I, I⟩, ?_, rfl⟩
  exact vi (by omega)
  replace h2 := df h2
  refine W.skip ?_
  refine g 16 19 [] ?_
  conv => whnf
  refine ⟨⟨I, I, I⟩, ?_⟩
  refine W.ret ?_
  refine EndsW.rt ?_
  conv => whnf
  refine ⟨⟨I, I, I⟩, ?_, rfl⟩
  exact vi (by omega)
theorem c_laws_toMessage (x : Message) (h : messageSz x ≤ 1048576) : F n_laws_toMessage [.val (messageR x)] (messageO x) [[]] := by
  have hn0 := totS_nn x.inputs
  have hz : messageSz x = (x.text.size : Int) + ((x.inputs.length : Int) + totS x.inputs) := rfl
  refine i_laws_toMessage ?_
  conv => whnf
  refine g 0 1 [] ?_
  conv => whnf
  refine ⟨⟨⟨I, I, I, I, I, I, I, I, I⟩, I, I⟩, ?_⟩
  refine g 0 0 [] ?_
  conv => whnf
  refine ⟨⟨I, I⟩, ?_⟩
  refine g 4 7 [] ?_
  conv => whnf
  refine ⟨⟨I, I, I, ⟨I, I⟩, I⟩, ?_⟩
  refine g 7 10 [] ?_
  conv => whnf
  refine ⟨⟨I, I, I, ⟨I, I⟩, I⟩, ?_⟩
  refine g 10 13 [] ?_
  conv => whnf
  refine ⟨⟨I, I, I, ⟨I, I⟩, I⟩, ?_⟩
  refine g 13 16 [] ?_
  conv => whnf
  refine ⟨⟨I, I, I, ⟨I, I⟩, I⟩, ?_⟩
  refine g 16 19 [] ?_
  conv => whnf
  refine ⟨⟨I, I, I, ⟨I, I⟩, I⟩, ?_⟩
  refine g 19 22 [] ?_
  conv => whnf
  refine ⟨⟨I, I, I, ⟨I, I⟩, I⟩, ?_⟩
  refine g 22 25 [] ?_
  conv => whnf
  refine ⟨⟨I, I, I, ⟨I, I⟩, I⟩, ?_⟩
  refine g 25 27 [.call (V.own [false] (List.map strT (Message.inputs x))) ([[]])] ?_
  conv => whnf
  refine ⟨⟨I, I, ⟨⟨I, I⟩, I, ⟨⟨I, I⟩, I⟩, ⟨I, I⟩, Go.K.c_laws_toStringS _ (by omega)⟩, I, ⟨I, I⟩, I⟩, ?_⟩
  refine g 28 30 [] ?_
  conv => whnf
  refine ⟨⟨I, ⟨I, I, I, I, I, I, I, I, I⟩, I⟩, ?_⟩
  refine W.ret ?_
  refine EndsW.rt ?_
  conv => whnf
  refine ⟨⟨I, I, I, I, I, I, I, I, I, I⟩, ?_, rfl⟩
  rfl
def messageLen (a : Message) : Prop := a.inputs.length ≤ 9223372036854775806
theorem messageLen_of {a : Message} (h : messageSz a ≤ 1048576) : messageLen a := by
  have := totS_nn a.inputs
  simp only [messageSz] at h
  simp only [messageLen]
  exact by omega
theorem c_laws_eqMessage (a b : Message) (hl : messageLen a) : F n_laws_eqMessage [.val (messageR a), .val (messageR b)] (.b (decide (a = b))) [[], []] := by
  obtain ⟨a_kind, a_frm, a_to, a_epoch, a_lease, a_task, a_text, a_inputs⟩ := a
  obtain ⟨b_kind, b_frm, b_to, b_epoch, b_lease, b_task, b_text, b_inputs⟩ := b
  simp only [messageLen] at hl
  refine i_laws_eqMessage ?_
  conv => whnf
  refine g 0 2 [] ?_
  conv => whnf
  refine ⟨⟨⟨I, I, I, I, I, I, I, I, I⟩, ⟨I, I, I, I, I, I, I, I, I⟩, I, I⟩, ?_⟩
  refine W.sq ?_
  refine g 5 9 [] ?_
  conv => whnf
  refine ⟨⟨I, I, I, I, I, I⟩, ?_⟩
  refine W.cn ?_
  conv => whnf
  refine ⟨fun h1 => ?_, fun h1 => ?_⟩
  replace h1 := ndt h1
  refine g 9 10 [] ?_
  conv => whnf
  refine ⟨⟨I, I⟩, ?_⟩
  refine W.ret ?_
  refine EndsW.rt ?_
  conv => whnf
  refine ⟨⟨I, I, I⟩, ?_, rfl⟩
  rotate_left 1
  replace h1 := ndf h1
  refine W.skip ?_
  refine W.sq ?_
  refine g 9 14 [] ?_
  conv => whnf
  refine ⟨⟨I, I, I, I, I, I⟩, ?_⟩
  refine W.cn ?_
  conv => whnf
  refine ⟨fun h2 => ?_, fun h2 => ?_⟩
  replace h2 := ndt h2
  refine g 14 15 [] ?_
  conv => whnf
  refine ⟨⟨I, I⟩, ?_⟩
  refine W.ret ?_
  refine EndsW.rt ?_
  conv => whnf
  refine ⟨⟨I, I, I⟩, ?_, rfl⟩
  rotate_left 1
  replace h2 := ndf h2
  refine W.skip ?_
  refine W.sq ?_
  refine g 14 19 [] ?_
  conv => whnf
  refine ⟨⟨I, I, I, I, I, I⟩, ?_⟩
  refine W.cn ?_
  conv => whnf
  refine ⟨fun h3 => ?_, fun h3 => ?_⟩
  replace h3 := ndt h3
  refine g 19 20 [] ?_
  conv => whnf
  refine ⟨⟨I, I⟩, ?_⟩
  refine W.ret ?_
  refine EndsW.rt ?_
  conv => whnf
  refine ⟨⟨I, I, I⟩, ?_, rfl⟩
  rotate_left 1
  replace h3 := ndf h3
  refine W.skip ?_
  refine W.sq ?_
  refine g 19 24 [] ?_
  conv => whnf
  refine ⟨⟨I, I, I, I, I, I⟩, ?_⟩
  refine W.cn ?_
  conv => whnf
  refine ⟨fun h4 => ?_, fun h4 => ?_⟩
  replace h4 := ndt h4
  refine g 24 25 [] ?_
  conv => whnf
  refine ⟨⟨I, I⟩, ?_⟩
  refine W.ret ?_
  refine EndsW.rt ?_
  conv => whnf
  refine ⟨⟨I, I, I⟩, ?_, rfl⟩
  rotate_left 1
  replace h4 := ndf h4
  refine W.skip ?_
  refine W.sq ?_
  refine g 24 29 [] ?_
  conv => whnf
  refine ⟨⟨I, I, I, I, I, I⟩, ?_⟩
  refine W.cn ?_
  conv => whnf
  refine ⟨fun h5 => ?_, fun h5 => ?_⟩
  replace h5 := ndt h5
  refine g 29 30 [] ?_
  conv => whnf
  refine ⟨⟨I, I⟩, ?_⟩
  refine W.ret ?_
  refine EndsW.rt ?_
  conv => whnf
  refine ⟨⟨I, I, I⟩, ?_, rfl⟩
  rotate_left 1
  replace h5 := ndf h5
  refine W.skip ?_
  refine W.sq ?_
  refine g 29 34 [] ?_
  conv => whnf
  refine ⟨⟨I, I, I, I, I, I⟩, ?_⟩
  refine W.cn ?_
  conv => whnf
  refine ⟨fun h6 => ?_, fun h6 => ?_⟩
  replace h6 := ndt h6
  refine g 34 35 [] ?_
  conv => whnf
  refine ⟨⟨I, I⟩, ?_⟩
  refine W.ret ?_
  refine EndsW.rt ?_
  conv => whnf
  refine ⟨⟨I, I, I⟩, ?_, rfl⟩
  rotate_left 1
  replace h6 := ndf h6
  refine W.skip ?_
  refine W.sq ?_
  refine g 34 39 [] ?_
  conv => whnf
  refine ⟨⟨I, I, I, I, I, I⟩, ?_⟩
  refine W.cn ?_
  conv => whnf
  refine ⟨fun h7 => ?_, fun h7 => ?_⟩
  replace h7 := ndt h7
  refine g 39 40 [] ?_
  conv => whnf
  refine ⟨⟨I, I⟩, ?_⟩
  refine W.ret ?_
  refine EndsW.rt ?_
  conv => whnf
  refine ⟨⟨I, I, I⟩, ?_, rfl⟩
  rotate_left 1
  replace h7 := ndf h7
  refine W.skip ?_
  refine W.sq ?_
  refine g 39 45 [.call (V.b (decide (a_inputs = b_inputs))) ([[], []])] ?_
  conv => whnf
  refine ⟨⟨I, I, I, I, ⟨⟨I, I, I⟩, I, ⟨⟨I, I⟩, ⟨I, I⟩, I⟩, ⟨I, I⟩, Go.K.c_laws_eqStringS _ _ (by omega)⟩, I, I⟩, ?_⟩
  refine W.cn ?_
  conv => whnf
  refine ⟨fun h8 => ?_, fun h8 => ?_⟩
  replace h8 := ndt h8
  refine g 2 4 [] ?_
  conv => whnf
  refine ⟨⟨I, I⟩, ?_⟩
  refine W.ret ?_
  refine EndsW.rt ?_
  conv => whnf
  refine ⟨⟨I, I, I⟩, ?_, rfl⟩
  rotate_left 1
  replace h8 := ndf h8
  refine W.skip ?_
  refine g 2 4 [] ?_
  conv => whnf
  refine ⟨⟨I, I⟩, ?_⟩
  refine W.ret ?_
  refine EndsW.rt ?_
  conv => whnf
  refine ⟨⟨I, I, I⟩, ?_, rfl⟩
  rotate_left 1
  all_goals (first | exact vbt (by simp_all; done) | exact vbf (by simp_all; done))
def messageTop (k : Int) (x : Message) : Message := ⟨x.kind, x.frm, x.to, x.epoch, x.lease, x.task, x.text, mkL (fun k _ => markT k) (fun _ => 1) (k) x.inputs⟩
def messageTopC (x : Message) : Int := x.inputs.length
theorem c_laws_markMessage (x : Message) (k : Int) (hl : x.inputs.length ≤ 9223372036854775806) (h0 : 0 ≤ k) (hk : k + messageTopC x ≤ 1099511627776) : F n_laws_markMessage [.bor (messageO x), .val (.i k)] (.i (k + messageTopC x)) [cellsOf (messageO (messageTop k x)), []] := by
  have hz : messageTopC x = _ := rfl
  simp only [messageTopC] at hz
  refine i_laws_markMessage ?_
  conv => whnf
  refine g 0 1 [] ?_
  conv => whnf
  refine ⟨⟨⟨I, I, I, I, I, I, I, I⟩, I, I⟩, ?_⟩
  refine g 5 9 [.call (V.i (k + (↑(List.length (Message.inputs x)) : Int))) ([[V.own [false] (List.map strT (mkL (fun k x => markT k) (fun x => (1 : Int)) k (Message.inputs x)))], []])] ?_
  conv => whnf
  refine ⟨⟨I, I, I, ⟨⟨⟨I, I⟩, I, I⟩, I, ⟨I, ⟨I, I⟩, I⟩, ⟨I, I⟩, Go.K.c_laws_markStringS _ _ (by assumption) (by assumption) (by assumption)⟩, I, I⟩, ?_⟩
  refine g 1 3 [] ?_
  conv => whnf
  refine ⟨⟨I, I, I⟩, ?_⟩
  refine W.ret ?_
  refine EndsW.rt ?_
  conv => whnf
  refine ⟨⟨I, I, I⟩, ?_, rfl⟩
  rfl
theorem wf_Message {n : Nat} {x : List T} (h : wfT E (n + 3) ty_laws_Message x) : ∃ v : Message, x = messageT v ∧ messageWf v := by
  obtain ⟨y0, z0, e0, ⟨kind, rfl, _, _⟩, y1, z1, e1, ⟨frm, rfl, _, _⟩, y2, z2, e2, ⟨to, rfl, _, _⟩, y3, z3, e3, ⟨epoch, rfl, _, _⟩, y4, z4, e4, ⟨lease, rfl, _, _⟩, y5, z5, e5, ⟨task, rfl, _, _⟩, y6, z6, e6, ⟨text, rfl, htext⟩, y7, z7, e7, ⟨linputs, rfl, hinputs, ginputs⟩, e8⟩ := h
  subst e8
  subst e7
  subst e6
  subst e5
  subst e4
  subst e3
  subst e2
  subst e1
  obtain ⟨inputs, rfl, winputs⟩ := wf_strs ginputs
  subst e0
  exact ⟨⟨kind, frm, to, epoch, lease, task, text, inputs⟩, rfl, ⟨htext, by rw [List.length_map] at hinputs; exact hinputs, winputs⟩⟩
end Go.K

end

section
set_option linter.unusedVariables false
set_option linter.unusedSimpArgs false
set_option maxHeartbeats 4000000
set_option maxRecDepth 20000
open Go Go.Tm Go.Proofs
namespace Go.K
def messageC (x : Message) : Int := 7 + (x.inputs.length : Int)
theorem messageC_eq (x : Message) : messageC x = 7 + (x.inputs.length : Int) := rfl
theorem messageC_nn (x : Message) : 0 ≤ messageC x := by
  simp only [messageC]; omega
def messageMk (k : Int) (x : Message) : Message := ⟨k, k + 1, k + 1 + 1, k + 1 + 1 + 1, k + 1 + 1 + 1 + 1, k + 1 + 1 + 1 + 1 + 1, markT (k + 1 + 1 + 1 + 1 + 1 + 1), mkL (fun k _ => markT k) (fun _ => 1) (k + 1 + 1 + 1 + 1 + 1 + 1 + 1) x.inputs⟩
theorem c_laws_eqMessageS (xs ys : List Message) (hl : xs.length ≤ 9223372036854775806) (hs : ∀ y ∈ xs, messageLen y) : F n_laws_eqMessageS [.val (.t (.slc messageK (xs.map messageT))), .val (.t (.slc messageK (ys.map messageT)))] (.b (decide (xs = ys))) [[], []] := by
  refine i_laws_eqMessageS ?_
  conv => whnf
  refine g 0 0 [] ?_
  conv => whnf
  refine ⟨⟨I, I⟩, ?_⟩
  refine W.sq ?_
  refine g 6 10 [] ?_
  conv => whnf
  refine ⟨⟨I, I, I, I, I, I⟩, ?_⟩
  refine W.cn ?_
  conv => whnf
  refine ⟨fun h1 => ?_, fun h1 => ?_⟩
  replace h1 := ndt h1
  simp only [List.length_map] at h1
  refine g 10 11 [] ?_
  conv => whnf
  refine ⟨⟨I, I⟩, ?_⟩
  refine W.ret ?_
  refine EndsW.rt ?_
  conv => whnf
  refine ⟨⟨I, I, I⟩, ?_, rfl⟩
  rotate_left 1
  replace h1 := ndf h1
  simp only [List.length_map] at h1
  refine W.skip ?_
  refine W.sq ?_
  refine g 10 11 [] ?_
  conv => whnf
  refine ⟨⟨I, I⟩, ?_⟩
  refine W.blk ?_
  rotate_left 1
  · exact vbf (fun e => h1 (by rw [e]))
  refine W.lp (fun s (n : Nat) => ⟨[(0, s.s 0), (1, s.s 1), (5, .i n)], [], []⟩) (fun (n : Nat) => n ≤ xs.length ∧ xs.take n = ys.take n) (fun (n : Nat) => xs.length - n) (0) [] [] ⟨rfl, ⟨rfl, rfl, rfl, I⟩, I, I⟩ (by simp) ?_
  rintro n ⟨hn, hc⟩
  conv => whnf
  refine W.sq ?_
  refine g 11 14 [] ?_
  conv => whnf
  refine ⟨⟨I, I, I, I, I⟩, ?_⟩
  refine W.cn ?_
  conv => whnf
  refine ⟨fun h2 => ?_, fun h2 => ?_⟩
  replace h2 := dt h2
  simp only [List.length_map] at h2
  refine W.skip ?_
  refine W.sq ?_
  refine W.blk ?_
  obtain ⟨y1, hy1⟩ := some_at (xs := xs) (n := n) (by omega)
  have hm1 := hs y1 (List.mem_of_getElem? hy1)
  obtain ⟨y2, hy2⟩ := some_at (xs := ys) (n := n) (by omega)
  refine gd 14 26 [[], [], [.x (messageT y1)], [], [], [], [.x (messageT y2)], [], [.call (V.b (decide (y1 = y2))) ([[], []])], []] ?_
  conv => whnf
  refine ⟨⟨I, I, ⟨(by omega), ixl (by assumption)⟩, I, I, I, ⟨(by omega), ixl (by assumption)⟩, I, ⟨⟨I, I, I⟩, I, ⟨⟨I, I, I, I, I, I, I, I, I⟩, ⟨I, I, I, I, I, I, I, I, I⟩, I⟩, ⟨I, I⟩, Go.K.c_laws_eqMessage _ _ (by omega)⟩, I, I⟩, by kernel_rfl, ?_⟩
  refine W.cn ?_
  conv => whnf
  refine ⟨fun h3 => ?_, fun h3 => ?_⟩
  replace h3 := ndt h3
  refine g 26 27 [] ?_
  conv => whnf
  refine ⟨⟨I, I⟩, ?_⟩
  refine W.ret ?_
  refine EndsW.rt ?_
  conv => whnf
  refine ⟨⟨I, I, I⟩, ?_, rfl⟩
  rotate_left 1
  replace h3 := ndf h3
  refine W.skip ?_
  refine rg [.i ((↑n : Int) + (1 : Int))] ?_
  conv => whnf
  refine ⟨⟨I, w64 (by omega) (by omega), I, I⟩, ?_⟩
  rotate_left 1
  replace h2 := df h2
  simp only [List.length_map] at h2
  refine W.exit ?_
  refine g 0 2 [] ?_
  conv => whnf
  refine ⟨⟨I, I⟩, ?_⟩
  refine W.ret ?_
  refine EndsW.rt ?_
  conv => whnf
  refine ⟨⟨I, I, I⟩, ?_, rfl⟩
  rotate_left 1
  · exact vbf (fun e => by subst e; rw [hy1] at hy2; cases hy2; exact h3 rfl)
  · refine ⟨n + 1, [], [], ⟨rfl, ⟨rfl, rfl, rfl, I⟩, I, I⟩, ?_, ?_⟩
    rotate_left 1
    (dsimp only; omega)
    dsimp only
    exact ⟨by omega, take_eq hc hy1 (by rw [hy2]; exact congrArg some (Eq.symm h3))⟩
  · exact vbt (by rw [take_all (by omega), take_all (by omega)] at hc; exact hc)
theorem c_laws_markMessageS (xs : List Message) (k : Int) (hl : xs.length ≤ 9223372036854775806) (h0 : 0 ≤ k) (hk : k + sumI messageC xs ≤ 1099511627776) : F n_laws_markMessageS [.bor (.own messageK (xs.map messageT)), .val (.i k)] (.i (k + sumI messageC xs)) [[.own messageK ((mkL messageMk messageC k xs).map messageT)], []] := by
  refine i_laws_markMessageS ?_
  conv => whnf
  refine g 0 0 [] ?_
  conv => whnf
  refine ⟨⟨I, I⟩, ?_⟩
  refine W.sq ?_
  refine g 0 0 [] ?_
  conv => whnf
  refine ⟨⟨I, I⟩, ?_⟩
  refine W.blk ?_
  refine W.lp (fun s (n : Nat) => ⟨[(0, s.s 0), (1, .i (k + sumI messageC (xs.take n))), (4, s.s 4), (5, .i n)], [(70, [.own messageK ((mkN messageMk messageC k xs n).map messageT)])], []⟩) (fun (n : Nat) => n ≤ xs.length) (fun (n : Nat) => xs.length - n) (0) [some 70] [] ⟨rfl, ⟨rfl, (congrArg (fun z => V.t (T.v (Value.int _ z))) (by simp [sumI])), rfl, rfl, I⟩, ⟨⟨rfl, ⟨rfl, I⟩⟩, I⟩, I⟩ (by omega) ?_
  intro n hn
  have hx := mkN_len messageMk messageC k xs n
  have hq := sum_nn messageC_nn (xs.take n)
  have hle := sum_le messageC_nn xs (n + 1)
  have hle0 := sum_le messageC_nn xs n
  conv => whnf
  refine W.sq ?_
  refine g 6 9 [] ?_
  conv => whnf
  refine ⟨⟨I, I, I, I, I⟩, ?_⟩
  refine W.cn ?_
  conv => whnf
  refine ⟨fun h1 => ?_, fun h1 => ?_⟩
  replace h1 := dt h1
  simp only [List.length_map] at h1
  refine W.skip ?_
  refine W.sq ?_
  refine W.blk ?_
  obtain ⟨y1, hy1⟩ := some_at (xs := xs) (n := n) (by omega)
  have hk1 := sum_take (f := messageC) hy1
  have hk2 := messageC_nn y1
  have hk3 := messageC_eq y1
  refine g 9 17 [.n (n), .x (messageT y1)] ?_
  conv => whnf
  refine ⟨⟨I, I, I, ⟨rfl, (by simp only [List.length_map, List.length_append, List.length_set, List.length_replicate, List.length_cons, List.length_nil, List.length_take, List.length_drop, fill_len, fillI_len, List.length_range, bytesT_len]; omega)⟩, I, ⟨⟨I, I⟩, mkN_getm (by assumption)⟩, I⟩, ?_⟩
  refine g 17 19 [.i (k + sumI messageC (List.take n xs) + (1 : Int))] ?_
  conv => whnf
  refine ⟨⟨I, w64 (by omega) (by omega), I, I⟩, ?_⟩
  refine g 19 24 [.n (n), .x (patch (messageT y1) ((0 : Nat) + (0 : Nat)) [T.v (Value.int IntKind.i64 (k + sumI messageC (List.take n xs)))])] ?_
  conv => whnf
  refine ⟨⟨I, I, I, ⟨rfl, (by simp only [List.length_map, List.length_append, List.length_set, List.length_replicate, List.length_cons, List.length_nil, List.length_take, List.length_drop, fill_len, fillI_len, List.length_range, bytesT_len]; omega)⟩, I, ⟨⟨I, I⟩, getset (by simp only [List.length_map, List.length_append, List.length_set, List.length_replicate, List.length_cons, List.length_nil, List.length_take, List.length_drop, fill_len, fillI_len, List.length_range, bytesT_len]; omega)⟩, I⟩, ?_⟩
  rw [List.set_set]
  refine g 24 26 [.i (k + sumI messageC (List.take n xs) + (1 : Int) + (1 : Int))] ?_
  conv => whnf
  refine ⟨⟨I, w64 (by omega) (by omega), I, I⟩, ?_⟩
  refine g 26 31 [.n (n), .x (patch (patch (messageT y1) ((0 : Nat) + (0 : Nat)) [T.v (Value.int IntKind.i64 (k + sumI messageC (List.take n xs)))]) ((0 : Nat) + (1 : Nat)) [T.v (Value.int IntKind.i64 (k + sumI messageC (List.take n xs) + (1 : Int)))])] ?_
  conv => whnf
  refine ⟨⟨I, I, I, ⟨rfl, (by simp only [List.length_map, List.length_append, List.length_set, List.length_replicate, List.length_cons, List.length_nil, List.length_take, List.length_drop, fill_len, fillI_len, List.length_range, bytesT_len]; omega)⟩, I, ⟨⟨I, I⟩, getset (by simp only [List.length_map, List.length_append, List.length_set, List.length_replicate, List.length_cons, List.length_nil, List.length_take, List.length_drop, fill_len, fillI_len, List.length_range, bytesT_len]; omega)⟩, I⟩, ?_⟩
  rw [List.set_set]
  refine g 31 33 [.i (k + sumI messageC (List.take n xs) + (1 : Int) + (1 : Int) + (1 : Int))] ?_
  conv => whnf
  refine ⟨⟨I, w64 (by omega) (by omega), I, I⟩, ?_⟩
  refine g 33 38 [.n (n), .x (patch (patch (patch (messageT y1) ((0 : Nat) + (0 : Nat)) [T.v (Value.int IntKind.i64 (k + sumI messageC (List.take n xs)))]) ((0 : Nat) + (1 : Nat)) [T.v (Value.int IntKind.i64 (k + sumI messageC (List.take n xs) + (1 : Int)))]) ((0 : Nat) + (2 : Nat)) [T.v (Value.int IntKind.i64 (k + sumI messageC (List.take n xs) + (1 : Int) + (1 : Int)))])] ?_
  conv => whnf
  refine ⟨⟨I, I, I, ⟨rfl, (by simp only [List.length_map, List.length_append, List.length_set, List.length_replicate, List.length_cons, List.length_nil, List.length_take, List.length_drop, fill_len, fillI_len, List.length_range, bytesT_len]; omega)⟩, I, ⟨⟨I, I⟩, getset (by simp only [List.length_map, List.length_append, List.length_set, List.length_replicate, List.length_cons, List.length_nil, List.length_take, List.length_drop, fill_len, fillI_len, List.length_range, bytesT_len]; omega)⟩, I⟩, ?_⟩
  rw [List.set_set]
  refine g 38 40 [.i (k + sumI messageC (List.take n xs) + (1 : Int) + (1 : Int) + (1 : Int) + (1 : Int))] ?_
  conv => whnf
  refine ⟨⟨I, w64 (by omega) (by omega), I, I⟩, ?_⟩
  refine g 40 45 [.n (n), .x (patch (patch (patch (patch (messageT y1) ((0 : Nat) + (0 : Nat)) [T.v (Value.int IntKind.i64 (k + sumI messageC (List.take n xs)))]) ((0 : Nat) + (1 : Nat)) [T.v (Value.int IntKind.i64 (k + sumI messageC (List.take n xs) + (1 : Int)))]) ((0 : Nat) + (2 : Nat)) [T.v (Value.int IntKind.i64 (k + sumI messageC (List.take n xs) + (1 : Int) + (1 : Int)))]) ((0 : Nat) + (3 : Nat)) [T.v (Value.int IntKind.i64 (k + sumI messageC (List.take n xs) + (1 : Int) + (1 : Int) + (1 : Int)))])] ?_
  conv => whnf
  refine ⟨⟨I, I, I, ⟨rfl, (by simp only [List.length_map, List.length_append, List.length_set, List.length_replicate, List.length_cons, List.length_nil, List.length_take, List.length_drop, fill_len, fillI_len, List.length_range, bytesT_len]; omega)⟩, I, ⟨⟨I, I⟩, getset (by simp only [List.length_map, List.length_append, List.length_set, List.length_replicate, List.length_cons, List.length_nil, List.length_take, List.length_drop, fill_len, fillI_len, List.length_range, bytesT_len]; omega)⟩, I⟩, ?_⟩
  rw [List.set_set]
  refine g 45 47 [.i (k + sumI messageC (List.take n xs) + (1 : Int) + (1 : Int) + (1 : Int) + (1 : Int) + (1 : Int))] ?_
  conv => whnf
  refine ⟨⟨I, w64 (by omega) (by omega), I, I⟩, ?_⟩
  refine g 47 52 [.n (n), .x (patch (patch (patch (patch (patch (messageT y1) ((0 : Nat) + (0 : Nat)) [T.v (Value.int IntKind.i64 (k + sumI messageC (List.take n xs)))]) ((0 : Nat) + (1 : Nat)) [T.v (Value.int IntKind.i64 (k + sumI messageC (List.take n xs) + (1 : Int)))]) ((0 : Nat) + (2 : Nat)) [T.v (Value.int IntKind.i64 (k + sumI messageC (List.take n xs) + (1 : Int) + (1 : Int)))]) ((0 : Nat) + (3 : Nat)) [T.v (Value.int IntKind.i64 (k + sumI messageC (List.take n xs) + (1 : Int) + (1 : Int) + (1 : Int)))]) ((0 : Nat) + (4 : Nat)) [T.v (Value.int IntKind.i64 (k + sumI messageC (List.take n xs) + (1 : Int) + (1 : Int) + (1 : Int) + (1 : Int)))])] ?_
  conv => whnf
  refine ⟨⟨I, I, I, ⟨rfl, (by simp only [List.length_map, List.length_append, List.length_set, List.length_replicate, List.length_cons, List.length_nil, List.length_take, List.length_drop, fill_len, fillI_len, List.length_range, bytesT_len]; omega)⟩, I, ⟨⟨I, I⟩, getset (by simp only [List.length_map, List.length_append, List.length_set, List.length_replicate, List.length_cons, List.length_nil, List.length_take, List.length_drop, fill_len, fillI_len, List.length_range, bytesT_len]; omega)⟩, I⟩, ?_⟩
  rw [List.set_set]
  refine g 52 54 [.i (k + sumI messageC (List.take n xs) + (1 : Int) + (1 : Int) + (1 : Int) + (1 : Int) + (1 : Int) + (1 : Int))] ?_
  conv => whnf
  refine ⟨⟨I, w64 (by omega) (by omega), I, I⟩, ?_⟩
  refine g 54 60 [.call (V.s (markT (k + sumI messageC (List.take n xs) + (1 : Int) + (1 : Int) + (1 : Int) + (1 : Int) + (1 : Int) + (1 : Int)))) ([[]]), .n (n), .x (patch (patch (patch (patch (patch (patch (messageT y1) ((0 : Nat) + (0 : Nat)) [T.v (Value.int IntKind.i64 (k + sumI messageC (List.take n xs)))]) ((0 : Nat) + (1 : Nat)) [T.v (Value.int IntKind.i64 (k + sumI messageC (List.take n xs) + (1 : Int)))]) ((0 : Nat) + (2 : Nat)) [T.v (Value.int IntKind.i64 (k + sumI messageC (List.take n xs) + (1 : Int) + (1 : Int)))]) ((0 : Nat) + (3 : Nat)) [T.v (Value.int IntKind.i64 (k + sumI messageC (List.take n xs) + (1 : Int) + (1 : Int) + (1 : Int)))]) ((0 : Nat) + (4 : Nat)) [T.v (Value.int IntKind.i64 (k + sumI messageC (List.take n xs) + (1 : Int) + (1 : Int) + (1 : Int) + (1 : Int)))]) ((0 : Nat) + (5 : Nat)) [T.v (Value.int IntKind.i64 (k + sumI messageC (List.take n xs) + (1 : Int) + (1 : Int) + (1 : Int) + (1 : Int) + (1 : Int)))])] ?_
  conv => whnf
  refine ⟨⟨I, I, I, ⟨⟨I, I⟩, I, ⟨⟨I, I⟩, I⟩, ⟨I, I⟩, Go.K.c_laws_markText _ (by omega)⟩, ⟨rfl, (by simp only [List.length_map, List.length_append, List.length_set, List.length_replicate, List.length_cons, List.length_nil, List.length_take, List.length_drop, fill_len, fillI_len, List.length_range, bytesT_len]; omega)⟩, I, ⟨⟨I, I⟩, getset (by simp only [List.length_map, List.length_append, List.length_set, List.length_replicate, List.length_cons, List.length_nil, List.length_take, List.length_drop, fill_len, fillI_len, List.length_range, bytesT_len]; omega)⟩, I⟩, ?_⟩
  rw [List.set_set]
  refine g 60 62 [.i (k + sumI messageC (List.take n xs) + (1 : Int) + (1 : Int) + (1 : Int) + (1 : Int) + (1 : Int) + (1 : Int) + (1 : Int))] ?_
  conv => whnf
  refine ⟨⟨I, w64 (by omega) (by omega), I, I⟩, ?_⟩
  refine rg [.n (n), .x (patch (patch (patch (patch (patch (patch (patch (messageT y1) ((0 : Nat) + (0 : Nat)) [T.v (Value.int IntKind.i64 (k + sumI messageC (List.take n xs)))]) ((0 : Nat) + (1 : Nat)) [T.v (Value.int IntKind.i64 (k + sumI messageC (List.take n xs) + (1 : Int)))]) ((0 : Nat) + (2 : Nat)) [T.v (Value.int IntKind.i64 (k + sumI messageC (List.take n xs) + (1 : Int) + (1 : Int)))]) ((0 : Nat) + (3 : Nat)) [T.v (Value.int IntKind.i64 (k + sumI messageC (List.take n xs) + (1 : Int) + (1 : Int) + (1 : Int)))]) ((0 : Nat) + (4 : Nat)) [T.v (Value.int IntKind.i64 (k + sumI messageC (List.take n xs) + (1 : Int) + (1 : Int) + (1 : Int) + (1 : Int)))]) ((0 : Nat) + (5 : Nat)) [T.v (Value.int IntKind.i64 (k + sumI messageC (List.take n xs) + (1 : Int) + (1 : Int) + (1 : Int) + (1 : Int) + (1 : Int)))]) ((0 : Nat) + (6 : Nat)) [T.v (Value.string (markT (k + sumI messageC (List.take n xs) + (1 : Int) + (1 : Int) + (1 : Int) + (1 : Int) + (1 : Int) + (1 : Int))))]), .x (patch (patch (patch (patch (patch (patch (patch (messageT y1) ((0 : Nat) + (0 : Nat)) [T.v (Value.int IntKind.i64 (k + sumI messageC (List.take n xs)))]) ((0 : Nat) + (1 : Nat)) [T.v (Value.int IntKind.i64 (k + sumI messageC (List.take n xs) + (1 : Int)))]) ((0 : Nat) + (2 : Nat)) [T.v (Value.int IntKind.i64 (k + sumI messageC (List.take n xs) + (1 : Int) + (1 : Int)))]) ((0 : Nat) + (3 : Nat)) [T.v (Value.int IntKind.i64 (k + sumI messageC (List.take n xs) + (1 : Int) + (1 : Int) + (1 : Int)))]) ((0 : Nat) + (4 : Nat)) [T.v (Value.int IntKind.i64 (k + sumI messageC (List.take n xs) + (1 : Int) + (1 : Int) + (1 : Int) + (1 : Int)))]) ((0 : Nat) + (5 : Nat)) [T.v (Value.int IntKind.i64 (k + sumI messageC (List.take n xs) + (1 : Int) + (1 : Int) + (1 : Int) + (1 : Int) + (1 : Int)))]) ((0 : Nat) + (6 : Nat)) [T.v (Value.string (markT (k + sumI messageC (List.take n xs) + (1 : Int) + (1 : Int) + (1 : Int) + (1 : Int) + (1 : Int) + (1 : Int))))]), .call (V.i (k + sumI messageC (List.take n xs) + (1 : Int) + (1 : Int) + (1 : Int) + (1 : Int) + (1 : Int) + (1 : Int) + (1 : Int) + (↑(List.length (Message.inputs y1)) : Int))) ([[V.own [false] (List.map strT (mkL (fun k x => markT k) (fun x => (1 : Int)) (k + sumI messageC (List.take n xs) + (1 : Int) + (1 : Int) + (1 : Int) + (1 : Int) + (1 : Int) + (1 : Int) + (1 : Int)) (Message.inputs y1)))], []]), .x ([T.v (Value.int IntKind.i64 (k + sumI messageC (List.take n xs))), T.v (Value.int IntKind.i64 (k + sumI messageC (List.take n xs) + (1 : Int))), T.v (Value.int IntKind.i64 (k + sumI messageC (List.take n xs) + (1 : Int) + (1 : Int))), T.v (Value.int IntKind.i64 (k + sumI messageC (List.take n xs) + (1 : Int) + (1 : Int) + (1 : Int))), T.v (Value.int IntKind.i64 (k + sumI messageC (List.take n xs) + (1 : Int) + (1 : Int) + (1 : Int) + (1 : Int))), T.v (Value.int IntKind.i64 (k + sumI messageC (List.take n xs) + (1 : Int) + (1 : Int) + (1 : Int) + (1 : Int) + (1 : Int))), T.v (Value.string (markT (k + sumI messageC (List.take n xs) + (1 : Int) + (1 : Int) + (1 : Int) + (1 : Int) + (1 : Int) + (1 : Int)))), T.hole])] ?_
  conv => whnf
  refine ⟨⟨I, I, ⟨rfl, (by simp only [List.length_map, List.length_append, List.length_set, List.length_replicate, List.length_cons, List.length_nil, List.length_take, List.length_drop, fill_len, fillI_len, List.length_range, bytesT_len]; omega)⟩, I, getset (by simp only [List.length_map, List.length_append, List.length_set, List.length_replicate, List.length_cons, List.length_nil, List.length_take, List.length_drop, fill_len, fillI_len, List.length_range, bytesT_len]; omega), I, ⟨⟨⟨getset (by simp only [List.length_map, List.length_append, List.length_set, List.length_replicate, List.length_cons, List.length_nil, List.length_take, List.length_drop, fill_len, fillI_len, List.length_range, bytesT_len]; omega), I⟩, I, I⟩, I, ⟨I, ⟨I, I⟩, I⟩, ⟨⟨getset (by simp only [List.length_map, List.length_append, List.length_set, List.length_replicate, List.length_cons, List.length_nil, List.length_take, List.length_drop, fill_len, fillI_len, List.length_range, bytesT_len]; omega), I⟩, I⟩, Go.K.c_laws_markStringS _ _ (by omega) (by omega) (by omega)⟩, I, I⟩, ?_⟩
  rw [List.set_set]
  rw [List.set_set]
  refine rg [.i ((↑n : Int) + (1 : Int))] ?_
  conv => whnf
  refine ⟨⟨I, w64 (by omega) (by omega), I, I⟩, ?_⟩
  rotate_left 1
  replace h1 := df h1
  simp only [List.length_map] at h1
  refine W.exit ?_
  refine g 5 70 [] ?_
  conv => whnf
  refine ⟨⟨I, I, I⟩, ?_⟩
  refine W.ret ?_
  refine EndsW.rt ?_
  conv => whnf
  refine ⟨⟨I, I, I⟩, ?_, ?_⟩
  rotate_left 1
  rotate_left 1
  · refine ⟨n + 1, [some 70], [], ⟨rfl, ⟨rfl, (congrArg (fun z => V.t (T.v (Value.int _ z))) (by rw [sum_take (by assumption)]; omega)), rfl, rfl, I⟩, ⟨⟨rfl, ⟨(congrArg (V.own _) (mkN_setm (f := messageMk) (c := messageC) (by assumption))), I⟩⟩, I⟩, I⟩, ?_, ?_⟩
    rotate_left 1
    (dsimp only; omega)
    dsimp only
    omega
  · rw [take_all (by omega)]
  · rw [mkN_all messageMk messageC k xs (n := n) (by omega)]
end Go.K

end

section
set_option linter.unusedVariables false
set_option linter.unusedSimpArgs false
set_option maxHeartbeats 4000000
set_option maxRecDepth 20000
open Go Go.Tm Go.Proofs Classical
namespace Go.K
def plainB (s : ByteArray) : Prop := (∀ (n : Nat) (c : UInt8), s[n]? = some c → 33 ≤ c.toNat ∧ c.toNat ≤ 126) ∧ 1 ≤ s.size ∧ s.size ≤ 30
theorem plain_no {s : ByteArray} {n : Nat} {c : UInt8} (h : s[n]? = some c) (hc : ¬ (33 ≤ (c.toNat : Int) ∧ (c.toNat : Int) ≤ 126)) : ¬ plainB s := fun e => hc (by have := e.1 n c h; omega)
theorem plain_step {s : ByteArray} {n : Nat} {c : UInt8} (hn : ∀ (m : Nat) (c : UInt8), m < n → s[m]? = some c → 33 ≤ c.toNat ∧ c.toNat ≤ 126) (h : s[n]? = some c) (hc : 33 ≤ (c.toNat : Int) ∧ (c.toNat : Int) ≤ 126) : ∀ (m : Nat) (c : UInt8), m < n + 1 → s[m]? = some c → 33 ≤ c.toNat ∧ c.toNat ≤ 126 := fun m d hm hd => by
  by_cases e : m = n
  · subst e; rw [h] at hd; cases hd; omega
  · exact hn m d (by omega) hd
theorem ba_some {s : ByteArray} {n : Nat} {c : UInt8} (h : s[n]? = some c) : n < s.size := by
  by_cases hn : n < s.size
  · exact hn
  · rw [getElem?_neg s n hn] at h; cases h
theorem c_impl_plain (s : ByteArray) (hs : s.size ≤ 9223372036854775807) : F n_impl_plain [.val (.s s)] (.b (decide (plainB s))) [[]] := by
  refine i_impl_plain ?_
  conv => whnf
  refine g 0 0 [] ?_
  conv => whnf
  refine ⟨⟨I, I⟩, ?_⟩
  refine W.sq ?_
  refine g 0 0 [] ?_
  conv => whnf
  refine ⟨⟨I, I⟩, ?_⟩
  refine W.blk ?_
  refine W.lp (fun s (n : Nat) => ⟨[(0, s.s 0), (3, .i n)], [], []⟩) (fun (n : Nat) => n ≤ s.size ∧ ∀ (m : Nat) (c : UInt8), m < n → s[m]? = some c → 33 ≤ c.toNat ∧ c.toNat ≤ 126) (fun (n : Nat) => s.size - n) (0) [] [] ⟨rfl, ⟨rfl, rfl, I⟩, I, I⟩ (by simp) ?_
  rintro n ⟨hn, hc⟩
  conv => whnf
  refine W.sq ?_
  refine g 5 7 [] ?_
  conv => whnf
  refine ⟨⟨I, I, I, I, I⟩, ?_⟩
  refine W.cn ?_
  conv => whnf
  refine ⟨fun h1 => ?_, fun h1 => ?_⟩
  replace h1 := dt h1
  refine W.skip ?_
  refine W.sq ?_
  refine W.blk ?_
  obtain ⟨y1, hy1, hb1⟩ := byte_at (s := s) (n := n) (by omega)
  by_cases h2 : (↑(UInt8.toNat y1) : Int) < (33 : Int)
  refine g 7 19 [.i ((↑(UInt8.toNat y1) : Int)), .b (true), .b (true), .b (true), .b (true), .b (true)] ?_
  conv => whnf
  refine ⟨⟨I, I, ⟨(by omega), ixb (by assumption)⟩, I, I, decide_eq_true (by omega), decide_eq_true (by omega), decide_eq_true (by omega), decide_eq_true (by omega), decide_eq_true (by omega), I⟩, ?_⟩
  refine W.cn ?_
  conv => whnf
  refine ⟨fun _ => ?_, noF (rfl)⟩
  refine g 19 20 [] ?_
  conv => whnf
  refine ⟨⟨I, I⟩, ?_⟩
  refine W.ret ?_
  refine EndsW.rt ?_
  conv => whnf
  refine ⟨⟨I, I, I⟩, ?_, rfl⟩
  rotate_left 1
  refine g 7 19 [.i ((↑(UInt8.toNat y1) : Int)), .b (false), .b (false), .b (false), .i ((↑(UInt8.toNat y1) : Int)), .b (false), .b (false)] ?_
  conv => whnf
  refine ⟨⟨I, I, ⟨(by omega), ixb (by assumption)⟩, I, I, ⟨decide_eq_false (by omega), I⟩, ⟨decide_eq_false (by omega), I⟩, ⟨decide_eq_false (by omega), (by omega), ixb (by assumption)⟩, ⟨decide_eq_false (by omega), I⟩, decide_eq_false (by omega), I⟩, ?_⟩
  refine W.cn ?_
  conv => whnf
  refine ⟨fun h3 => ?_, fun h3 => ?_⟩
  replace h3 := dt h3
  refine g 19 20 [] ?_
  conv => whnf
  refine ⟨⟨I, I⟩, ?_⟩
  refine W.ret ?_
  refine EndsW.rt ?_
  conv => whnf
  refine ⟨⟨I, I, I⟩, ?_, rfl⟩
  rotate_left 1
  replace h3 := df h3
  refine W.skip ?_
  refine rg [.i ((↑n : Int) + (1 : Int))] ?_
  conv => whnf
  refine ⟨⟨I, w64 (by omega) (by omega), I, I⟩, ?_⟩
  rotate_left 1
  replace h1 := df h1
  refine W.exit ?_
  by_cases h2 : (1 : Int) ≤ (↑(ByteArray.size s) : Int)
  refine g 7 28 [.b (true), .b (true), .b (true), .b (true)] ?_
  conv => whnf
  refine ⟨⟨I, I, I, I, ⟨decide_eq_true (by omega), I⟩, ⟨decide_eq_true (by omega), I⟩, ⟨decide_eq_true (by omega), I⟩, decide_eq_true (by omega), I, I⟩, ?_⟩
  refine W.ret ?_
  refine EndsW.rt ?_
  conv => whnf
  refine ⟨⟨I, I, I⟩, ?_, rfl⟩
  rotate_left 1
  refine g 7 28 [.b (false), .b (false), .b (false), .b (false)] ?_
  conv => whnf
  refine ⟨⟨I, I, I, I, decide_eq_false (by omega), decide_eq_false (by omega), decide_eq_false (by omega), decide_eq_false (by omega), I, I⟩, ?_⟩
  refine W.ret ?_
  refine EndsW.rt ?_
  conv => whnf
  refine ⟨⟨I, I, I⟩, ?_, rfl⟩
  rotate_left 1
  · exact vbf (plain_no hy1 (by omega))
  · exact vbf (plain_no hy1 (by omega))
  · refine ⟨n + 1, [], [], ⟨rfl, ⟨rfl, rfl, I⟩, I, I⟩, ?_, ?_⟩
    rotate_left 1
    (dsimp only; omega)
    dsimp only
    exact ⟨by omega, plain_step hc hy1 (by omega)⟩
  · exact vbd ⟨fun e => ⟨fun m c h => hc m c (by have := ba_some h; omega) h, by omega, by omega⟩, fun e => by have := e.2; omega⟩
  · exact vbf (fun e => by have := e.2; omega)
theorem c_spec_l1NameOk (s : ByteArray) (hs : s.size ≤ 9223372036854775807) : F n_spec_l1NameOk [.val (.s s)] (.b (decide (plainB s))) [[]] := by
  refine i_spec_l1NameOk ?_
  conv => whnf
  refine g 0 0 [] ?_
  conv => whnf
  refine ⟨⟨I, I⟩, ?_⟩
  refine W.sq ?_
  refine g 0 0 [] ?_
  conv => whnf
  refine ⟨⟨I, I⟩, ?_⟩
  refine W.blk ?_
  refine W.lp (fun s (n : Nat) => ⟨[(0, s.s 0), (3, .i n)], [], []⟩) (fun (n : Nat) => n ≤ s.size ∧ ∀ (m : Nat) (c : UInt8), m < n → s[m]? = some c → 33 ≤ c.toNat ∧ c.toNat ≤ 126) (fun (n : Nat) => s.size - n) (0) [] [] ⟨rfl, ⟨rfl, rfl, I⟩, I, I⟩ (by simp) ?_
  rintro n ⟨hn, hc⟩
  conv => whnf
  refine W.sq ?_
  refine g 5 7 [] ?_
  conv => whnf
  refine ⟨⟨I, I, I, I, I⟩, ?_⟩
  refine W.cn ?_
  conv => whnf
  refine ⟨fun h1 => ?_, fun h1 => ?_⟩
  replace h1 := dt h1
  refine W.skip ?_
  refine W.sq ?_
  refine W.blk ?_
  obtain ⟨y1, hy1, hb1⟩ := byte_at (s := s) (n := n) (by omega)
  by_cases h2 : (↑(UInt8.toNat y1) : Int) < (33 : Int)
  refine g 7 19 [.i ((↑(UInt8.toNat y1) : Int)), .b (true), .b (true), .b (true), .b (true), .b (true)] ?_
  conv => whnf
  refine ⟨⟨I, I, ⟨(by omega), ixb (by assumption)⟩, I, I, decide_eq_true (by omega), decide_eq_true (by omega), decide_eq_true (by omega), decide_eq_true (by omega), decide_eq_true (by omega), I⟩, ?_⟩
  refine W.cn ?_
  conv => whnf
  refine ⟨fun _ => ?_, noF (rfl)⟩
  refine g 19 20 [] ?_
  conv => whnf
  refine ⟨⟨I, I⟩, ?_⟩
  refine W.ret ?_
  refine EndsW.rt ?_
  conv => whnf
  refine ⟨⟨I, I, I⟩, ?_, rfl⟩
  rotate_left 1
  refine g 7 19 [.i ((↑(UInt8.toNat y1) : Int)), .b (false), .b (false), .b (false), .i ((↑(UInt8.toNat y1) : Int)), .b (false), .b (false)] ?_
  conv => whnf
  refine ⟨⟨I, I, ⟨(by omega), ixb (by assumption)⟩, I, I, ⟨decide_eq_false (by omega), I⟩, ⟨decide_eq_false (by omega), I⟩, ⟨decide_eq_false (by omega), (by omega), ixb (by assumption)⟩, ⟨decide_eq_false (by omega), I⟩, decide_eq_false (by omega), I⟩, ?_⟩
  refine W.cn ?_
  conv => whnf
  refine ⟨fun h3 => ?_, fun h3 => ?_⟩
  replace h3 := dt h3
  refine g 19 20 [] ?_
  conv => whnf
  refine ⟨⟨I, I⟩, ?_⟩
  refine W.ret ?_
  refine EndsW.rt ?_
  conv => whnf
  refine ⟨⟨I, I, I⟩, ?_, rfl⟩
  rotate_left 1
  replace h3 := df h3
  refine W.skip ?_
  refine rg [.i ((↑n : Int) + (1 : Int))] ?_
  conv => whnf
  refine ⟨⟨I, w64 (by omega) (by omega), I, I⟩, ?_⟩
  rotate_left 1
  replace h1 := df h1
  refine W.exit ?_
  by_cases h2 : (1 : Int) ≤ (↑(ByteArray.size s) : Int)
  refine g 7 28 [.b (true), .b (true), .b (true), .b (true)] ?_
  conv => whnf
  refine ⟨⟨I, I, I, I, ⟨decide_eq_true (by omega), I⟩, ⟨decide_eq_true (by omega), I⟩, ⟨decide_eq_true (by omega), I⟩, decide_eq_true (by omega), I, I⟩, ?_⟩
  refine W.ret ?_
  refine EndsW.rt ?_
  conv => whnf
  refine ⟨⟨I, I, I⟩, ?_, rfl⟩
  rotate_left 1
  refine g 7 28 [.b (false), .b (false), .b (false), .b (false)] ?_
  conv => whnf
  refine ⟨⟨I, I, I, I, decide_eq_false (by omega), decide_eq_false (by omega), decide_eq_false (by omega), decide_eq_false (by omega), I, I⟩, ?_⟩
  refine W.ret ?_
  refine EndsW.rt ?_
  conv => whnf
  refine ⟨⟨I, I, I⟩, ?_, rfl⟩
  rotate_left 1
  · exact vbf (plain_no hy1 (by omega))
  · exact vbf (plain_no hy1 (by omega))
  · refine ⟨n + 1, [], [], ⟨rfl, ⟨rfl, rfl, I⟩, I, I⟩, ?_, ?_⟩
    rotate_left 1
    (dsimp only; omega)
    dsimp only
    exact ⟨by omega, plain_step hc hy1 (by omega)⟩
  · exact vbd ⟨fun e => ⟨fun m c h => hc m c (by have := ba_some h; omega) h, by omega, by omega⟩, fun e => by have := e.2; omega⟩
  · exact vbf (fun e => by have := e.2; omega)
end Go.K

end

section
set_option linter.unusedVariables false
set_option linter.unusedSimpArgs false
set_option maxHeartbeats 4000000
set_option maxRecDepth 20000
open Go Go.Tm Go.Proofs Classical
namespace Go.K
def namesTo (xs : List Task) (n : Nat) : Prop := ∀ (m : Nat) (t : Task), m < n → xs[m]? = some t → plainB t.name ∧ t.name ∉ (xs.take m).map Task.name
def namesOk (xs : List Task) : Prop := namesTo xs xs.length
def costsOk (xs : List Task) : Prop := ∀ t ∈ xs, 1 ≤ t.cost ∧ t.cost ≤ 20
def incr (last hi : Int) : List Int → Prop
  | [] => True
  | d :: ds => (last < d ∧ d < hi) ∧ incr d hi ds
def depOk (hi : Int) (d : List Int) : Prop := d.length ≤ 8 ∧ incr (-1) hi d
def depsTo (xs : List Task) (n : Nat) : Prop := ∀ (m : Nat) (t : Task), m < n → xs[m]? = some t → depOk m t.deps
def depsOk (xs : List Task) : Prop := depsTo xs xs.length
noncomputable def checkPlan (xs : List Task) : Int :=
  if ¬ (1 ≤ xs.length ∧ xs.length ≤ 40) then 1 else if ¬ namesOk xs then 2 else if ¬ costsOk xs then 3 else if ¬ depsOk xs then 4 else 0
theorem chk1 {xs : List Task} (h : ¬ (1 ≤ xs.length ∧ xs.length ≤ 40)) : checkPlan xs = 1 := by unfold checkPlan; rw [if_pos h]
theorem chk2 {xs : List Task} (h : 1 ≤ xs.length ∧ xs.length ≤ 40) (h2 : ¬ namesOk xs) : checkPlan xs = 2 := by unfold checkPlan; rw [if_neg (not_not_intro h), if_pos h2]
theorem chk3 {xs : List Task} (h : 1 ≤ xs.length ∧ xs.length ≤ 40) (h2 : namesOk xs) (h3 : ¬ costsOk xs) : checkPlan xs = 3 := by unfold checkPlan; rw [if_neg (not_not_intro h), if_neg (not_not_intro h2), if_pos h3]
theorem chk4 {xs : List Task} (h : 1 ≤ xs.length ∧ xs.length ≤ 40) (h2 : namesOk xs) (h3 : costsOk xs) (h4 : ¬ depsOk xs) : checkPlan xs = 4 := by unfold checkPlan; rw [if_neg (not_not_intro h), if_neg (not_not_intro h2), if_neg (not_not_intro h3), if_pos h4]
theorem chk0 {xs : List Task} (h : 1 ≤ xs.length ∧ xs.length ≤ 40) (h2 : namesOk xs) (h3 : costsOk xs) (h4 : depsOk xs) : checkPlan xs = 0 := by unfold checkPlan; rw [if_neg (not_not_intro h), if_neg (not_not_intro h2), if_neg (not_not_intro h3), if_neg (not_not_intro h4)]
theorem names_no {xs : List Task} {n : Nat} {t : Task} (ht : xs[n]? = some t) (h : ¬ (plainB t.name ∧ t.name ∉ (xs.take n).map Task.name)) : ¬ namesOk xs := fun e => h (e n t (List.getElem?_eq_some_iff.1 ht).1 ht)
theorem to_step {P : Nat → Task → Prop} {xs : List Task} {n : Nat} {t : Task} (h : ∀ (m : Nat) (t : Task), m < n → xs[m]? = some t → P m t) (ht : xs[n]? = some t) (hp : P n t) : ∀ (m : Nat) (t : Task), m < n + 1 → xs[m]? = some t → P m t := fun m d hm hd => by
  by_cases e : m = n
  · subst e; rw [ht] at hd; cases hd; exact hp
  · exact h m d (by omega) hd
theorem to_all {P : Nat → Task → Prop} {xs : List Task} {n : Nat} (h : ∀ (m : Nat) (t : Task), m < n → xs[m]? = some t → P m t) (hn : xs.length ≤ n) : ∀ (m : Nat) (t : Task), m < xs.length → xs[m]? = some t → P m t := fun m t hm ht => h m t (by omega) ht
theorem costs_no {xs : List Task} {n : Nat} {t : Task} (ht : xs[n]? = some t) (h : ¬ (1 ≤ t.cost ∧ t.cost ≤ 20)) : ¬ costsOk xs := fun e => h (e t (List.mem_of_getElem? ht))
theorem deps_no {xs : List Task} {n : Nat} {t : Task} (ht : xs[n]? = some t) (h : ¬ depOk n t.deps) : ¬ depsOk xs := fun e => h (e n t (List.getElem?_eq_some_iff.1 ht).1 ht)
/-- Where a list of numbers stands: what is left must go on from the last one. -/
def incrAt (hi : Int) (d : List Int) (k : Nat) (last : Int) : Prop := incr (-1) hi d ↔ incr last hi (d.drop k)
theorem drop_at {α : Type} {d : List α} {k : Nat} {y : α} (h : d[k]? = some y) : d.drop k = y :: d.drop (k + 1) := by
  have hk := (List.getElem?_eq_some_iff.1 h)
  rw [List.drop_eq_getElem_cons hk.1, hk.2]
theorem incr_step {hi : Int} {d : List Int} {k : Nat} {last y : Int} (h : incrAt hi d k last) (hy : d[k]? = some y) (h1 : last < y ∧ y < hi) : incrAt hi d (k + 1) y := by
  unfold incrAt at *; rw [h, drop_at hy, incr]; exact ⟨fun e => e.2, fun e => ⟨h1, e⟩⟩
theorem incr_no {hi : Int} {d : List Int} {k : Nat} {last y : Int} (h : incrAt hi d k last) (hy : d[k]? = some y) (h1 : ¬ (last < y ∧ y < hi)) : ¬ incr (-1) hi d := by
  unfold incrAt at *; rw [h, drop_at hy, incr]; exact fun e => h1 e.1
theorem incr_end {hi : Int} {d : List Int} {k : Nat} {last : Int} (h : incrAt hi d k last) (hk : d.length ≤ k) : incr (-1) hi d := by
  unfold incrAt at *; rw [h, List.drop_eq_nil_of_le hk]; trivial
theorem c_impl_CheckPlan (p : Plan) (hp : planWf p) : F n_impl_CheckPlan [.val (planR p)] (.i (checkPlan p.tasks)) [[]] := by
  have hl : p.tasks.length ≤ 9223372036854775807 := hp.1
  have hw : ∀ y ∈ p.tasks, y.name.size ≤ 9223372036854775807 ∧ y.deps.length ≤ 9223372036854775807 := hp.2
  refine i_impl_CheckPlan ?_
  conv => whnf
  refine g 0 1 [] ?_
  conv => whnf
  refine ⟨⟨⟨I, I⟩, I, I⟩, ?_⟩
  refine g 14 17 [] ?_
  conv => whnf
  refine ⟨⟨I, I, I, I, I⟩, ?_⟩
  refine W.sq ?_
  by_cases h1 : (↑(List.length (List.map taskT (Plan.tasks p))) : Int) = (0 : Int)
  simp only [List.length_map] at h1
  refine g 17 22 [.b (true), .b (true), .b (true)] ?_
  conv => whnf
  refine ⟨⟨I, I, I, (by simp [*]), (by simp [*]), (by simp [*]), I⟩, ?_⟩
  refine W.cn ?_
  conv => whnf
  refine ⟨fun _ => ?_, noF (rfl)⟩
  refine g 22 23 [] ?_
  conv => whnf
  refine ⟨⟨I, I⟩, ?_⟩
  refine W.ret ?_
  refine EndsW.rt ?_
  conv => whnf
  refine ⟨⟨I, I, I⟩, ?_, rfl⟩
  rotate_left 1
  simp only [List.length_map] at h1
  refine g 17 22 [.b (false), .b (false), .b (false)] ?_
  conv => whnf
  refine ⟨⟨I, I, I, ⟨(by simp_all), I⟩, ⟨(by simp_all), I⟩, (by simp_all), I⟩, ?_⟩
  refine W.cn ?_
  conv => whnf
  refine ⟨fun h2 => ?_, fun h2 => ?_⟩
  replace h2 := dt h2
  simp only [List.length_map] at h2
  refine g 22 23 [] ?_
  conv => whnf
  refine ⟨⟨I, I⟩, ?_⟩
  refine W.ret ?_
  refine EndsW.rt ?_
  conv => whnf
  refine ⟨⟨I, I, I⟩, ?_, rfl⟩
  rotate_left 1
  replace h2 := df h2
  simp only [List.length_map] at h2
  refine W.skip ?_
  refine g 22 24 [] ?_
  conv => whnf
  refine ⟨⟨I, I, I⟩, ?_⟩
  refine W.sq ?_
  refine g 24 25 [] ?_
  conv => whnf
  refine ⟨⟨I, I, I, I, I⟩, ?_⟩
  refine W.blk ?_
  rotate_left 1
  · exact vi (chk1 (by omega)).symm
  · exact vi (chk1 (by omega)).symm
  have hlen : 1 ≤ p.tasks.length ∧ p.tasks.length ≤ 40 := by omega
  refine W.lp (fun s (n : Nat) => ⟨[(1, s.s 1), (3, s.s 3), (4, s.s 4), (25, s.s 25), (26, s.s 26), (27, .i n)], [(1, [s.c 1 0])], [(23, (p.tasks.take n).map fun t => Value.string t.name)]⟩) (fun (n : Nat) => n ≤ p.tasks.length ∧ namesTo p.tasks n) (fun (n : Nat) => p.tasks.length - n) (0) [some 1] [23] ⟨rfl, ⟨rfl, rfl, rfl, rfl, rfl, rfl, I⟩, ⟨⟨rfl, ⟨rfl, I⟩⟩, I⟩, ⟨rfl, I⟩⟩ ?_ ?_
  · exact ⟨Nat.zero_le _, fun m t hm => by omega⟩
  rintro n ⟨hn, hc⟩
  conv => whnf
  refine g 0 0 [] ?_
  conv => whnf
  refine ⟨⟨I, I⟩, ?_⟩
  refine W.sq ?_
  refine W.cn ?_
  conv => whnf
  refine ⟨fun h3 => ?_, fun h3 => ?_⟩
  replace h3 := dt h3
  simp only [List.length_map] at h3
  refine W.skip ?_
  refine W.sq ?_
  refine W.blk ?_
  obtain ⟨y1, hy1⟩ := some_at (xs := Plan.tasks p) (n := n) (by omega)
  have hm1 := hw y1 (List.mem_of_getElem? hy1)
  refine g 28 31 [.x (taskT y1)] ?_
  conv => whnf
  refine ⟨⟨⟨(by omega), ixl (by assumption)⟩, I, I, ⟨I, I, I, I⟩, I⟩, ?_⟩
  refine W.sq ?_
  by_cases h4 : plainB (Task.name y1)
  refine g 31 40 [.call (V.b (decide (plainB (Task.name y1)))) ([[]]), .b (false), .b (false), .b (false), .b (false), .b (decide (Task.name y1 ∈ List.map Task.name (List.take n (Plan.tasks p)))), .b (false)] ?_
  conv => whnf
  refine ⟨⟨I, I, ⟨⟨I, I⟩, I, ⟨⟨I, I⟩, I⟩, ⟨I, I⟩, Go.K.c_impl_plain _ (by omega)⟩, I, I, ⟨notF (by omega), I⟩, ⟨notF (by omega), I⟩, ⟨notF (by omega), I⟩, ⟨notF (by omega), mem_strs, kin_strs⟩, notF (by omega), I⟩, ?_⟩
  refine W.cn ?_
  conv => whnf
  refine ⟨fun h5 => ?_, fun h5 => ?_⟩
  replace h5 := dt h5
  refine g 40 41 [] ?_
  conv => whnf
  refine ⟨⟨I, I⟩, ?_⟩
  refine W.ret ?_
  refine EndsW.rt ?_
  conv => whnf
  refine ⟨⟨I, I, I⟩, ?_, rfl⟩
  rotate_left 1
  replace h5 := df h5
  refine W.skip ?_
  refine rg [] ?_
  conv => whnf
  refine ⟨⟨I, I, I, kin_strs, I⟩, ?_⟩
  refine rg [.i ((↑n : Int) + (1 : Int))] ?_
  conv => whnf
  refine ⟨⟨w64 (by omega) (by omega), I, I⟩, ?_⟩
  rotate_left 1
  refine g 31 40 [.call (V.b (decide (plainB (Task.name y1)))) ([[]]), .b (true), .b (true), .b (true), .b (true), .b (true)] ?_
  conv => whnf
  refine ⟨⟨I, I, ⟨⟨I, I⟩, I, ⟨⟨I, I⟩, I⟩, ⟨I, I⟩, Go.K.c_impl_plain _ (by omega)⟩, I, I, notT (by omega), notT (by omega), notT (by omega), notT (by omega), notT (by omega), I⟩, ?_⟩
  refine W.cn ?_
  conv => whnf
  refine ⟨fun _ => ?_, noF (rfl)⟩
  refine g 40 41 [] ?_
  conv => whnf
  refine ⟨⟨I, I⟩, ?_⟩
  refine W.ret ?_
  refine EndsW.rt ?_
  conv => whnf
  refine ⟨⟨I, I, I⟩, ?_, rfl⟩
  rotate_left 1
  replace h3 := df h3
  simp only [List.length_map] at h3
  refine W.exit ?_
  refine W.sq ?_
  refine g 4 46 [] ?_
  conv => whnf
  refine ⟨⟨I, I, I, I, I⟩, ?_⟩
  refine W.blk ?_
  rotate_left 1
  · exact vi (chk2 hlen (names_no hy1 (by grind))).symm
  · refine ⟨n + 1, [some 1], [23], ⟨rfl, ⟨rfl, rfl, rfl, rfl, rfl, rfl, I⟩, ⟨⟨rfl, ⟨rfl, I⟩⟩, I⟩, ⟨(congrArg some (snoc_mapf (by assumption))), I⟩⟩, ?_, ?_⟩
    rotate_left 1
    (dsimp only; omega)
    dsimp only
    exact ⟨by omega, to_step hc hy1 (by grind)⟩
  · exact vi (chk2 hlen (names_no hy1 (by grind))).symm
  have hnames : namesOk p.tasks := to_all hc (by omega)
  refine W.lp (fun s (n : Nat) => ⟨[(1, s.s 1), (3, s.s 3), (46, s.s 46), (47, s.s 47), (48, .i n)], [(1, [s.c 1 0])], []⟩) (fun (n : Nat) => n ≤ p.tasks.length ∧ ∀ t ∈ p.tasks.take n, 1 ≤ t.cost ∧ t.cost ≤ 20) (fun (n : Nat) => p.tasks.length - n) (0) [some 1] [] ⟨rfl, ⟨rfl, rfl, rfl, rfl, rfl, I⟩, ⟨⟨rfl, ⟨rfl, I⟩⟩, I⟩, I⟩ (by simp) ?_
  rintro n2 ⟨hn2, hc2⟩
  conv => whnf
  refine g 0 0 [] ?_
  conv => whnf
  refine ⟨⟨I, I⟩, ?_⟩
  refine W.sq ?_
  refine W.cn ?_
  conv => whnf
  refine ⟨fun h4 => ?_, fun h4 => ?_⟩
  replace h4 := dt h4
  simp only [List.length_map] at h4
  refine W.skip ?_
  refine W.sq ?_
  refine W.blk ?_
  obtain ⟨y1, hy1⟩ := some_at (xs := Plan.tasks p) (n := n2) (by omega)
  have hm1 := hw y1 (List.mem_of_getElem? hy1)
  refine g 49 52 [.x (taskT y1)] ?_
  conv => whnf
  refine ⟨⟨⟨(by omega), ixl (by assumption)⟩, I, I, ⟨I, I, I, I⟩, I⟩, ?_⟩
  by_cases h5 : Task.cost y1 < (1 : Int)
  refine g 52 59 [.b (true), .b (true), .b (true), .b (true)] ?_
  conv => whnf
  refine ⟨⟨I, I, I, I, decide_eq_true (by omega), decide_eq_true (by omega), decide_eq_true (by omega), decide_eq_true (by omega), I⟩, ?_⟩
  refine W.cn ?_
  conv => whnf
  refine ⟨fun _ => ?_, noF (rfl)⟩
  refine g 8 9 [] ?_
  conv => whnf
  refine ⟨⟨I, I⟩, ?_⟩
  refine W.ret ?_
  refine EndsW.rt ?_
  conv => whnf
  refine ⟨⟨I, I, I⟩, ?_, rfl⟩
  rotate_left 1
  refine g 52 59 [.b (false), .b (false), .b (false), .b (false)] ?_
  conv => whnf
  refine ⟨⟨I, I, I, I, ⟨decide_eq_false (by omega), I⟩, ⟨decide_eq_false (by omega), I⟩, ⟨decide_eq_false (by omega), I⟩, decide_eq_false (by omega), I⟩, ?_⟩
  refine W.cn ?_
  conv => whnf
  refine ⟨fun h6 => ?_, fun h6 => ?_⟩
  replace h6 := dt h6
  refine g 8 9 [] ?_
  conv => whnf
  refine ⟨⟨I, I⟩, ?_⟩
  refine W.ret ?_
  refine EndsW.rt ?_
  conv => whnf
  refine ⟨⟨I, I, I⟩, ?_, rfl⟩
  rotate_left 1
  replace h6 := df h6
  refine W.skip ?_
  refine rg [.i ((↑n2 : Int) + (1 : Int))] ?_
  conv => whnf
  refine ⟨⟨w64 (by omega) (by omega), I, I⟩, ?_⟩
  rotate_left 1
  replace h4 := df h4
  simp only [List.length_map] at h4
  refine W.exit ?_
  refine W.sq ?_
  refine g 46 62 [] ?_
  conv => whnf
  refine ⟨⟨I, I, I, I, I⟩, ?_⟩
  refine W.blk ?_
  rotate_left 1
  · exact vi (chk3 hlen hnames (costs_no (by assumption) (by omega))).symm
  · exact vi (chk3 hlen hnames (costs_no (by assumption) (by omega))).symm
  · refine ⟨n2 + 1, [some 1], [], ⟨rfl, ⟨rfl, rfl, rfl, rfl, rfl, I⟩, ⟨⟨rfl, ⟨rfl, I⟩⟩, I⟩, I⟩, ?_, ?_⟩
    rotate_left 1
    (dsimp only; omega)
    dsimp only
    exact ⟨by omega, all_take hc2 (by assumption) (by omega)⟩
  have hcosts : costsOk p.tasks := all_done hc2 (by omega)
  refine W.lp (fun s (n : Nat) => ⟨[(3, s.s 3), (62, s.s 62), (63, s.s 63), (64, .i n)], [], []⟩) (fun (n : Nat) => n ≤ p.tasks.length ∧ depsTo p.tasks n) (fun (n : Nat) => p.tasks.length - n) (0) [] [] ⟨rfl, ⟨rfl, rfl, rfl, rfl, I⟩, I, I⟩ ?_ ?_
  · exact ⟨Nat.zero_le _, fun m t hm => by omega⟩
  rintro n3 ⟨hn3, hc3⟩
  conv => whnf
  refine g 0 0 [] ?_
  conv => whnf
  refine ⟨⟨I, I⟩, ?_⟩
  refine W.sq ?_
  refine W.cn ?_
  conv => whnf
  refine ⟨fun h5 => ?_, fun h5 => ?_⟩
  replace h5 := dt h5
  simp only [List.length_map] at h5
  refine W.skip ?_
  refine W.sq ?_
  refine W.blk ?_
  obtain ⟨y1, hy1⟩ := some_at (xs := Plan.tasks p) (n := n3) (by omega)
  have hm1 := hw y1 (List.mem_of_getElem? hy1)
  refine g 65 69 [.x (taskT y1)] ?_
  conv => whnf
  refine ⟨⟨I, ⟨(by omega), ixl (by assumption)⟩, I, I, I, ⟨I, I, I, I⟩, I⟩, ?_⟩
  refine W.sq ?_
  refine g 69 72 [] ?_
  conv => whnf
  refine ⟨⟨I, I, I, I, I⟩, ?_⟩
  refine W.cn ?_
  conv => whnf
  refine ⟨fun h6 => ?_, fun h6 => ?_⟩
  replace h6 := dt h6
  simp only [List.length_map] at h6
  refine g 72 73 [] ?_
  conv => whnf
  refine ⟨⟨I, I⟩, ?_⟩
  refine W.ret ?_
  refine EndsW.rt ?_
  conv => whnf
  refine ⟨⟨I, I, I⟩, ?_, rfl⟩
  rotate_left 1
  replace h6 := df h6
  simp only [List.length_map] at h6
  refine W.skip ?_
  refine g 72 73 [] ?_
  conv => whnf
  refine ⟨⟨I, I⟩, ?_⟩
  refine g 10 11 [] ?_
  conv => whnf
  refine ⟨⟨I, I, I, I, I⟩, ?_⟩
  refine W.blk ?_
  rotate_left 1
  replace h5 := df h5
  simp only [List.length_map] at h5
  refine W.exit ?_
  refine g 62 66 [] ?_
  conv => whnf
  refine ⟨⟨I, I⟩, ?_⟩
  refine W.ret ?_
  refine EndsW.rt ?_
  conv => whnf
  refine ⟨⟨I, I, I⟩, ?_, rfl⟩
  rotate_left 1
  · exact vi (chk4 hlen hnames hcosts (deps_no (by assumption) (fun e => by have := e.1; omega))).symm
  · skip
    refine W.lp (fun s (x : Nat × Int) => match x with | (k, last) => ⟨[(3, s.s 3), (9, s.s 9), (11, .i last), (62, s.s 62), (63, s.s 63), (64, s.s 64), (74, s.s 74), (75, s.s 75), (76, .i k)], [], []⟩) (fun (x : Nat × Int) => match x with | (k, last) => k ≤ y1.deps.length ∧ incrAt n3 y1.deps k last) (fun (x : Nat × Int) => match x with | (k, last) => y1.deps.length - k) ((0, -1)) [] [] ⟨rfl, ⟨rfl, rfl, rfl, rfl, rfl, rfl, rfl, rfl, rfl, I⟩, I, I⟩ ?_ ?_
    · exact ⟨Nat.zero_le _, Iff.rfl⟩
    rintro ⟨k, last⟩ ⟨hk, hi⟩
    conv => whnf
    refine g 0 0 [] ?_
    conv => whnf
    refine ⟨⟨I, I⟩, ?_⟩
    refine W.sq ?_
    refine W.cn ?_
    conv => whnf
    refine ⟨fun h7 => ?_, fun h7 => ?_⟩
    replace h7 := dt h7
    simp only [List.length_map] at h7
    refine W.skip ?_
    refine W.sq ?_
    refine W.blk ?_
    obtain ⟨y2, hy2⟩ := some_at (xs := Task.deps y1) (n := k) (by omega)
    refine g 77 80 [.x (intT y2)] ?_
    conv => whnf
    refine ⟨⟨⟨(by omega), ixl (by assumption)⟩, I, I, I⟩, ?_⟩
    refine W.sq ?_
    by_cases h8 : y2 ≤ last
    refine g 80 87 [.b (true), .b (true), .b (true), .b (true)] ?_
    conv => whnf
    refine ⟨⟨I, I, I, I, decide_eq_true (by omega), decide_eq_true (by omega), decide_eq_true (by omega), decide_eq_true (by omega), I⟩, ?_⟩
    refine W.cn ?_
    conv => whnf
    refine ⟨fun _ => ?_, noF (rfl)⟩
    refine g 87 88 [] ?_
    conv => whnf
    refine ⟨⟨I, I⟩, ?_⟩
    refine W.ret ?_
    refine EndsW.rt ?_
    conv => whnf
    refine ⟨⟨I, I, I⟩, ?_, rfl⟩
    rotate_left 1
    refine g 80 87 [.b (false), .b (false), .b (false), .b (false)] ?_
    conv => whnf
    refine ⟨⟨I, I, I, I, ⟨decide_eq_false (by omega), I⟩, ⟨decide_eq_false (by omega), I⟩, ⟨decide_eq_false (by omega), I⟩, decide_eq_false (by omega), I⟩, ?_⟩
    refine W.cn ?_
    conv => whnf
    refine ⟨fun h9 => ?_, fun h9 => ?_⟩
    replace h9 := dt h9
    refine g 87 88 [] ?_
    conv => whnf
    refine ⟨⟨I, I⟩, ?_⟩
    refine W.ret ?_
    refine EndsW.rt ?_
    conv => whnf
    refine ⟨⟨I, I, I⟩, ?_, rfl⟩
    rotate_left 1
    replace h9 := df h9
    refine W.skip ?_
    refine rg [] ?_
    conv => whnf
    refine ⟨⟨I, I, I⟩, ?_⟩
    refine rg [.i ((↑k : Int) + (1 : Int))] ?_
    conv => whnf
    refine ⟨⟨w64 (by omega) (by omega), I, I⟩, ?_⟩
    rotate_left 1
    replace h7 := df h7
    simp only [List.length_map] at h7
    refine W.exit ?_
    refine rg [.i ((↑n3 : Int) + (1 : Int))] ?_
    conv => whnf
    refine ⟨⟨w64 (by omega) (by omega), I, I⟩, ?_⟩
    rotate_left 1
    · exact vi (chk4 hlen hnames hcosts (deps_no hy1 (fun e => incr_no hi (by assumption) (by omega) e.2))).symm
    · exact vi (chk4 hlen hnames hcosts (deps_no hy1 (fun e => incr_no hi (by assumption) (by omega) e.2))).symm
    · refine ⟨(k + 1, y2), [], [], ⟨rfl, ⟨rfl, rfl, rfl, rfl, rfl, rfl, rfl, rfl, rfl, I⟩, I, I⟩, ?_, ?_⟩
      rotate_left 1
      (dsimp only; omega)
      dsimp only
      exact ⟨by omega, incr_step hi (by assumption) (by omega)⟩
    · refine ⟨n3 + 1, [], [], ⟨rfl, ⟨rfl, rfl, rfl, rfl, I⟩, I, I⟩, ?_, ?_⟩
      rotate_left 1
      (dsimp only; omega)
      dsimp only
      exact ⟨by omega, to_step hc3 hy1 ⟨by omega, incr_end hi (by omega)⟩⟩
  exact vi (chk0 hlen hnames hcosts (to_all hc3 (by omega))).symm
end Go.K

end

section
set_option linter.unusedVariables false
set_option linter.unusedSimpArgs false
set_option maxHeartbeats 4000000
set_option maxRecDepth 20000
open Go Go.Tm Go.Proofs Classical
namespace Go.K
theorem mem_take_map {xs : List Task} {n k : Nat} {a : Task} (h : xs[k]? = some a) (hk : k < n) : a.name ∈ (xs.take n).map Task.name := by
  refine List.mem_map.2 ⟨a, ?_, rfl⟩
  refine List.mem_of_getElem? (i := k) ?_
  rw [List.getElem?_take, if_pos hk]; exact h
theorem nmem_take {xs : List Task} {n k : Nat} {s : ByteArray} {a : Task} (h : s ∉ (xs.take k).map Task.name) (ha : xs[k]? = some a) (hne : a.name ≠ s) : s ∉ (xs.take (k + 1)).map Task.name := by
  rw [List.take_add_one, ha]; simp only [List.map_append, List.mem_append, not_or]
  exact ⟨h, by simpa using fun e => hne e.symm⟩
theorem last_at {d : List Int} {k : Nat} {l y : Int} (h : d[k - 1]? = some l) (hy : d[((k : Int) - 1).toNat]? = some y) : y = l := by
  have e : ((k : Int) - 1).toNat = k - 1 := by omega
  rw [e, h] at hy; cases hy; rfl
theorem c_spec_CheckPlan (p : Plan) (hp : planWf p) : F n_spec_CheckPlan [.val (planR p)] (.i (checkPlan p.tasks)) [[]] := by
  have hl : p.tasks.length ≤ 9223372036854775807 := hp.1
  have hw : ∀ y ∈ p.tasks, y.name.size ≤ 9223372036854775807 ∧ y.deps.length ≤ 9223372036854775807 := hp.2
  refine i_spec_CheckPlan ?_
  conv => whnf
  refine g 0 1 [] ?_
  conv => whnf
  refine ⟨⟨⟨I, I⟩, I, I⟩, ?_⟩
  refine g 10 13 [] ?_
  conv => whnf
  refine ⟨⟨I, I, I, I, I⟩, ?_⟩
  refine W.sq ?_
  by_cases h1 : (↑(List.length (List.map taskT (Plan.tasks p))) : Int) < (1 : Int)
  simp only [List.length_map] at h1
  refine g 14 16 [.b (true), .b (true), .b (true)] ?_
  conv => whnf
  refine ⟨⟨I, I, I, (by simp [*]), (by simp [*]), (by simp [*]), I⟩, ?_⟩
  refine W.cn ?_
  conv => whnf
  refine ⟨fun _ => ?_, noF (rfl)⟩
  refine g 17 19 [] ?_
  conv => whnf
  refine ⟨⟨I, I⟩, ?_⟩
  refine W.ret ?_
  refine EndsW.rt ?_
  conv => whnf
  refine ⟨⟨I, I, I⟩, ?_, rfl⟩
  rotate_left 1
  simp only [List.length_map] at h1
  refine g 14 16 [.b (false), .b (false), .b (false)] ?_
  conv => whnf
  refine ⟨⟨I, I, I, ⟨(by simp [*]), I⟩, ⟨(by simp [*]), I⟩, (by simp [*]), I⟩, ?_⟩
  refine W.cn ?_
  conv => whnf
  refine ⟨fun h2 => ?_, fun h2 => ?_⟩
  replace h2 := dt h2
  simp only [List.length_map] at h2
  refine g 17 19 [] ?_
  conv => whnf
  refine ⟨⟨I, I⟩, ?_⟩
  refine W.ret ?_
  refine EndsW.rt ?_
  conv => whnf
  refine ⟨⟨I, I, I⟩, ?_, rfl⟩
  rotate_left 1
  replace h2 := df h2
  simp only [List.length_map] at h2
  refine W.skip ?_
  refine W.sq ?_
  refine g 17 19 [] ?_
  conv => whnf
  refine ⟨⟨I, I⟩, ?_⟩
  refine W.blk ?_
  rotate_left 1
  · exact vi (chk1 (by omega)).symm
  · exact vi (chk1 (by omega)).symm
  have hlen : 1 ≤ p.tasks.length ∧ p.tasks.length ≤ 40 := by omega
  refine W.lp (fun s (n : Nat) => ⟨[(1, s.s 1), (3, s.s 3), (4, .i n), (13, s.s 13), (16, s.s 16)], [(1, [s.c 1 0])], []⟩) (fun (n : Nat) => n ≤ p.tasks.length ∧ namesTo p.tasks n) (fun (n : Nat) => p.tasks.length - n) (0) [some 1] [] ⟨rfl, ⟨rfl, rfl, rfl, rfl, rfl, I⟩, ⟨⟨rfl, ⟨rfl, I⟩⟩, I⟩, I⟩ ?_ ?_
  · exact ⟨Nat.zero_le _, fun m t hm => by omega⟩
  rintro n ⟨hn, hc⟩
  conv => whnf
  refine W.sq ?_
  refine g 19 21 [] ?_
  conv => whnf
  refine ⟨⟨I, I, I, I⟩, ?_⟩
  refine W.cn ?_
  conv => whnf
  refine ⟨fun h3 => ?_, fun h3 => ?_⟩
  replace h3 := dt h3
  simp only [List.length_map] at h3
  refine W.skip ?_
  refine W.sq ?_
  refine W.blk ?_
  refine W.sq ?_
  obtain ⟨y1, hy1⟩ := some_at (xs := Plan.tasks p) (n := n) (by omega)
  have hm1 := hw y1 (List.mem_of_getElem? hy1)
  refine g 21 31 [.x (taskT y1), .call (V.b (decide (plainB (Task.name y1)))) ([[]])] ?_
  conv => whnf
  refine ⟨⟨I, I, I, ⟨(by omega), ixl (by assumption)⟩, I, I, ⟨⟨I, I⟩, I, ⟨⟨I, I⟩, I⟩, ⟨I, I⟩, Go.K.c_spec_l1NameOk _ (by omega)⟩, I, I⟩, ?_⟩
  refine W.cn ?_
  conv => whnf
  refine ⟨fun h4 => ?_, fun h4 => ?_⟩
  replace h4 := ndt h4
  refine g 31 32 [] ?_
  conv => whnf
  refine ⟨⟨I, I⟩, ?_⟩
  refine W.ret ?_
  refine EndsW.rt ?_
  conv => whnf
  refine ⟨⟨I, I, I⟩, ?_, rfl⟩
  rotate_left 1
  replace h4 := ndf h4
  refine W.skip ?_
  refine g 31 32 [] ?_
  conv => whnf
  refine ⟨⟨I, I⟩, ?_⟩
  refine W.blk ?_
  rotate_left 1
  replace h3 := df h3
  simp only [List.length_map] at h3
  refine W.exit ?_
  refine W.sq ?_
  refine g 4 5 [] ?_
  conv => whnf
  refine ⟨⟨I, I⟩, ?_⟩
  refine W.blk ?_
  rotate_left 1
  · exact vi (chk2 hlen (names_no hy1 (fun e => absurd e.1 (by assumption)))).symm
  · refine W.lp (fun s (k : Nat) => ⟨[(1, s.s 1), (3, s.s 3), (4, s.s 4), (5, .i k), (13, s.s 13), (16, s.s 16)], [(1, [s.c 1 0])], []⟩) (fun (k : Nat) => k ≤ n ∧ y1.name ∉ (p.tasks.take k).map Task.name) (fun (k : Nat) => n - k) (0) [some 1] [] ⟨rfl, ⟨rfl, rfl, rfl, rfl, rfl, rfl, I⟩, ⟨⟨rfl, ⟨rfl, I⟩⟩, I⟩, I⟩ (by simp) ?_
    rintro k ⟨hk, hm⟩
    conv => whnf
    refine W.sq ?_
    refine g 32 34 [] ?_
    conv => whnf
    refine ⟨⟨I, I, I, I⟩, ?_⟩
    refine W.cn ?_
    conv => whnf
    refine ⟨fun h5 => ?_, fun h5 => ?_⟩
    replace h5 := dt h5
    refine W.skip ?_
    refine W.sq ?_
    refine W.blk ?_
    obtain ⟨y2, hy2⟩ := some_at (xs := Plan.tasks p) (n := k) (by omega)
    have hm2 := hw y2 (List.mem_of_getElem? hy2)
    refine gd 34 49 [[], [], [], [.x (taskT y2)], [], [], [], [], [], [.x (taskT y1)], [], [], []] ?_
    conv => whnf
    refine ⟨⟨I, I, I, ⟨(by omega), ixl (by assumption)⟩, I, I, I, I, I, ⟨(by omega), ixl (by assumption)⟩, I, I, I, I⟩, by kernel_rfl, ?_⟩
    refine W.cn ?_
    conv => whnf
    refine ⟨fun h6 => ?_, fun h6 => ?_⟩
    replace h6 := dt h6
    refine g 49 50 [] ?_
    conv => whnf
    refine ⟨⟨I, I⟩, ?_⟩
    refine W.ret ?_
    refine EndsW.rt ?_
    conv => whnf
    refine ⟨⟨I, I, I⟩, ?_, rfl⟩
    rotate_left 1
    replace h6 := df h6
    refine W.skip ?_
    refine rg [.i ((↑k : Int) + (1 : Int))] ?_
    conv => whnf
    refine ⟨⟨I, w64 (by omega) (by omega), I, I⟩, ?_⟩
    rotate_left 1
    replace h5 := df h5
    refine W.exit ?_
    refine rg [.i ((↑n : Int) + (1 : Int))] ?_
    conv => whnf
    refine ⟨⟨I, w64 (by omega) (by omega), I, I⟩, ?_⟩
    rotate_left 1
    · exact vi (chk2 hlen (names_no hy1 (fun e => e.2 (by rw [← (show y2.name = y1.name by assumption)]; exact mem_take_map hy2 (by omega))))).symm
    · refine ⟨k + 1, [some 1], [], ⟨rfl, ⟨rfl, rfl, rfl, rfl, rfl, rfl, I⟩, ⟨⟨rfl, ⟨rfl, I⟩⟩, I⟩, I⟩, ?_, ?_⟩
      rotate_left 1
      (dsimp only; omega)
      dsimp only
      exact ⟨by omega, nmem_take (n := n) hm hy2 (by assumption)⟩
    · refine ⟨n + 1, [some 1], [], ⟨rfl, ⟨rfl, rfl, rfl, rfl, rfl, I⟩, ⟨⟨rfl, ⟨rfl, I⟩⟩, I⟩, I⟩, ?_, ?_⟩
      rotate_left 1
      (dsimp only; omega)
      dsimp only
      exact ⟨by omega, to_step hc hy1 ⟨by assumption, by rwa [show k = n by omega] at hm⟩⟩
  have hnames : namesOk p.tasks := to_all hc (by omega)
  refine W.lp (fun s (n : Nat) => ⟨[(1, s.s 1), (3, s.s 3), (6, .i n), (13, s.s 13), (16, s.s 16)], [(1, [s.c 1 0])], []⟩) (fun (n : Nat) => n ≤ p.tasks.length ∧ ∀ t ∈ p.tasks.take n, 1 ≤ t.cost ∧ t.cost ≤ 20) (fun (n : Nat) => p.tasks.length - n) (0) [some 1] [] ⟨rfl, ⟨rfl, rfl, rfl, rfl, rfl, I⟩, ⟨⟨rfl, ⟨rfl, I⟩⟩, I⟩, I⟩ (by simp) ?_
  rintro n2 ⟨hn2, hc2⟩
  conv => whnf
  refine W.sq ?_
  refine g 50 52 [] ?_
  conv => whnf
  refine ⟨⟨I, I, I, I⟩, ?_⟩
  refine W.cn ?_
  conv => whnf
  refine ⟨fun h4 => ?_, fun h4 => ?_⟩
  replace h4 := dt h4
  simp only [List.length_map] at h4
  refine W.skip ?_
  refine W.sq ?_
  refine W.blk ?_
  obtain ⟨y1, hy1⟩ := some_at (xs := Plan.tasks p) (n := n2) (by omega)
  have hm1 := hw y1 (List.mem_of_getElem? hy1)
  by_cases h5 : Task.cost y1 < (1 : Int)
  refine g 52 70 [.x (taskT y1), .b (true), .b (true), .b (true), .b (true), .b (true), .b (true), .b (true), .b (true)] ?_
  conv => whnf
  refine ⟨⟨I, I, I, ⟨(by omega), ixl (by assumption)⟩, I, I, I, I, decide_eq_true (by omega), decide_eq_true (by omega), decide_eq_true (by omega), decide_eq_true (by omega), decide_eq_true (by omega), decide_eq_true (by omega), decide_eq_true (by omega), decide_eq_true (by omega), I⟩, ?_⟩
  refine W.cn ?_
  conv => whnf
  refine ⟨fun _ => ?_, noF (rfl)⟩
  refine g 70 71 [] ?_
  conv => whnf
  refine ⟨⟨I, I⟩, ?_⟩
  refine W.ret ?_
  refine EndsW.rt ?_
  conv => whnf
  refine ⟨⟨I, I, I⟩, ?_, rfl⟩
  rotate_left 1
  refine g 52 70 [.x (taskT y1), .b (false), .b (false), .b (false), .b (false), .x (taskT y1), .b (false), .b (false), .b (false), .b (false)] ?_
  conv => whnf
  refine ⟨⟨I, I, I, ⟨(by omega), ixl (by assumption)⟩, I, I, I, I, ⟨decide_eq_false (by omega), I⟩, ⟨decide_eq_false (by omega), I⟩, ⟨decide_eq_false (by omega), I⟩, ⟨decide_eq_false (by omega), (by omega), ixl (by assumption)⟩, ⟨decide_eq_false (by omega), I⟩, ⟨decide_eq_false (by omega), I⟩, ⟨decide_eq_false (by omega), I⟩, decide_eq_false (by omega), I⟩, ?_⟩
  refine W.cn ?_
  conv => whnf
  refine ⟨fun h6 => ?_, fun h6 => ?_⟩
  replace h6 := dt h6
  refine g 70 71 [] ?_
  conv => whnf
  refine ⟨⟨I, I⟩, ?_⟩
  refine W.ret ?_
  refine EndsW.rt ?_
  conv => whnf
  refine ⟨⟨I, I, I⟩, ?_, rfl⟩
  rotate_left 1
  replace h6 := df h6
  refine W.skip ?_
  refine rg [.i ((↑n2 : Int) + (1 : Int))] ?_
  conv => whnf
  refine ⟨⟨I, w64 (by omega) (by omega), I, I⟩, ?_⟩
  rotate_left 1
  replace h4 := df h4
  simp only [List.length_map] at h4
  refine W.exit ?_
  refine W.sq ?_
  refine g 6 7 [] ?_
  conv => whnf
  refine ⟨⟨I, I⟩, ?_⟩
  refine W.blk ?_
  rotate_left 1
  · exact vi (chk3 hlen hnames (costs_no (by assumption) (by omega))).symm
  · exact vi (chk3 hlen hnames (costs_no (by assumption) (by omega))).symm
  · refine ⟨n2 + 1, [some 1], [], ⟨rfl, ⟨rfl, rfl, rfl, rfl, rfl, I⟩, ⟨⟨rfl, ⟨rfl, I⟩⟩, I⟩, I⟩, ?_, ?_⟩
    rotate_left 1
    (dsimp only; omega)
    dsimp only
    exact ⟨by omega, all_take hc2 (by assumption) (by omega)⟩
  have hcosts : costsOk p.tasks := all_done hc2 (by omega)
  refine W.lp (fun s (n : Nat) => ⟨[(1, s.s 1), (3, s.s 3), (7, .i n), (13, s.s 13), (16, s.s 16)], [(1, [s.c 1 0])], []⟩) (fun (n : Nat) => n ≤ p.tasks.length ∧ depsTo p.tasks n) (fun (n : Nat) => p.tasks.length - n) (0) [some 1] [] ⟨rfl, ⟨rfl, rfl, rfl, rfl, rfl, I⟩, ⟨⟨rfl, ⟨rfl, I⟩⟩, I⟩, I⟩ ?_ ?_
  · exact ⟨Nat.zero_le _, fun m t hm => by omega⟩
  rintro n3 ⟨hn3, hc3⟩
  conv => whnf
  refine W.sq ?_
  refine g 71 73 [] ?_
  conv => whnf
  refine ⟨⟨I, I, I, I⟩, ?_⟩
  refine W.cn ?_
  conv => whnf
  refine ⟨fun h5 => ?_, fun h5 => ?_⟩
  replace h5 := dt h5
  simp only [List.length_map] at h5
  refine W.skip ?_
  refine W.sq ?_
  refine W.blk ?_
  obtain ⟨y1, hy1⟩ := some_at (xs := Plan.tasks p) (n := n3) (by omega)
  have hm1 := hw y1 (List.mem_of_getElem? hy1)
  refine g 73 82 [.x (taskT y1)] ?_
  conv => whnf
  refine ⟨⟨I, I, I, ⟨(by omega), ixl (by assumption)⟩, I, I, I, I⟩, ?_⟩
  refine W.sq ?_
  refine g 82 84 [] ?_
  conv => whnf
  refine ⟨⟨I, I, I, I⟩, ?_⟩
  refine W.cn ?_
  conv => whnf
  refine ⟨fun h6 => ?_, fun h6 => ?_⟩
  replace h6 := dt h6
  simp only [List.length_map] at h6
  refine g 84 85 [] ?_
  conv => whnf
  refine ⟨⟨I, I⟩, ?_⟩
  refine W.ret ?_
  refine EndsW.rt ?_
  conv => whnf
  refine ⟨⟨I, I, I⟩, ?_, rfl⟩
  rotate_left 1
  replace h6 := df h6
  simp only [List.length_map] at h6
  refine W.skip ?_
  refine g 84 85 [] ?_
  conv => whnf
  refine ⟨⟨I, I⟩, ?_⟩
  refine W.blk ?_
  rotate_left 1
  replace h5 := df h5
  simp only [List.length_map] at h5
  refine W.exit ?_
  refine g 7 74 [] ?_
  conv => whnf
  refine ⟨⟨I, I⟩, ?_⟩
  refine W.ret ?_
  refine EndsW.rt ?_
  conv => whnf
  refine ⟨⟨I, I, I⟩, ?_, rfl⟩
  rotate_left 1
  · exact vi (chk4 hlen hnames hcosts (deps_no (by assumption) (fun e => by have := e.1; omega))).symm
  · refine W.lp (fun s (x : Nat × Int) => match x with | (k, last) => ⟨[(1, s.s 1), (3, s.s 3), (7, s.s 7), (8, s.s 8), (9, .i k), (13, s.s 13), (16, s.s 16)], [(1, [s.c 1 0])], []⟩) (fun (x : Nat × Int) => match x with | (k, last) => k ≤ y1.deps.length ∧ incrAt n3 y1.deps k last ∧ -1 ≤ last ∧ (k = 0 → last = -1) ∧ (0 < k → y1.deps[k - 1]? = some last)) (fun (x : Nat × Int) => match x with | (k, last) => y1.deps.length - k) ((0, -1)) [some 1] [] ⟨rfl, ⟨rfl, rfl, rfl, rfl, rfl, rfl, rfl, I⟩, ⟨⟨rfl, ⟨rfl, I⟩⟩, I⟩, I⟩ ?_ ?_
    · exact ⟨Nat.zero_le _, Iff.rfl, by omega, fun _ => rfl, fun h => by omega⟩
    rintro ⟨k, last⟩ ⟨hk, hi, hlo, hz, hs⟩
    conv => whnf
    refine W.sq ?_
    refine g 85 88 [] ?_
    conv => whnf
    refine ⟨⟨I, I, I, I, I⟩, ?_⟩
    refine W.cn ?_
    conv => whnf
    refine ⟨fun h7 => ?_, fun h7 => ?_⟩
    replace h7 := dt h7
    simp only [List.length_map] at h7
    refine W.skip ?_
    refine W.sq ?_
    refine W.blk ?_
    obtain ⟨y2, hy2⟩ := some_at (xs := Task.deps y1) (n := k) (by omega)
    by_cases h8 : y2 < (0 : Int)
    refine gd 88 119 [[], [], [.x (intT y2)], [], [], [], [.b (true)], [.b (true)], [.b (true)], [.b (true)], [.b (true)], [.b (true)], [.b (true)], [], [.b (true)], [.b (true)], [.b (true)], [.b (false)], [.b (false)], [.b (false)], [.b (false)], [.b (false)], [.b (false)], [.b (false)], [.b (false)], [.b (false)], [.b (false)], [.b (true)], [.b (true)]] ?_
    conv => whnf
    refine ⟨⟨I, I, ⟨(by omega), ixl (by assumption)⟩, I, I, I, decide_eq_true (by omega), decide_eq_true (by omega), decide_eq_true (by omega), decide_eq_true (by omega), decide_eq_true (by omega), decide_eq_true (by omega), decide_eq_true (by omega), I, rfl, rfl, rfl, I, I, I, I, I, I, I, I, I, I, rfl, rfl, I⟩, by kernel_rfl, ?_⟩
    refine W.cn ?_
    conv => whnf
    refine ⟨fun _ => ?_, noF (rfl)⟩
    refine g 119 120 [] ?_
    conv => whnf
    refine ⟨⟨I, I⟩, ?_⟩
    refine W.ret ?_
    refine EndsW.rt ?_
    conv => whnf
    refine ⟨⟨I, I, I⟩, ?_, rfl⟩
    rotate_left 1
    by_cases h9 : (↑n3 : Int) ≤ y2
    refine gd 88 119 [[], [], [.x (intT y2)], [], [], [], [.b (false)], [.b (false)], [.b (false), .x (intT y2)], [.b (false)], [.b (false)], [.b (false)], [.b (false)], [], [.b (true)], [.b (true)], [.b (true)], [.b (false)], [.b (false)], [.b (false)], [.b (false)], [.b (false)], [.b (false)], [.b (false)], [.b (false)], [.b (false)], [.b (false)], [.b (true)], [.b (true)]] ?_
    conv => whnf
    refine ⟨⟨I, I, ⟨(by omega), ixl (by assumption)⟩, I, I, I, ⟨decide_eq_false (by omega), I⟩, ⟨decide_eq_false (by omega), I⟩, ⟨decide_eq_false (by omega), (by omega), ixl (by assumption)⟩, ⟨decide_eq_false (by omega), I⟩, ⟨decide_eq_false (by omega), I⟩, ⟨decide_eq_false (by omega), I⟩, decide_eq_false (by omega), I, decide_eq_true (by omega), decide_eq_true (by omega), decide_eq_true (by omega), I, I, I, I, I, I, I, I, I, I, decide_eq_true (by omega), decide_eq_true (by omega), I⟩, by kernel_rfl, ?_⟩
    refine W.cn ?_
    conv => whnf
    refine ⟨fun _ => ?_, noF (rfl)⟩
    refine g 119 120 [] ?_
    conv => whnf
    refine ⟨⟨I, I⟩, ?_⟩
    refine W.ret ?_
    refine EndsW.rt ?_
    conv => whnf
    refine ⟨⟨I, I, I⟩, ?_, rfl⟩
    rotate_left 1
    by_cases h10 : (0 : Int) < (↑k : Int)
    obtain ⟨y3, hy3⟩ := some_at (xs := Task.deps y1) (n := Int.toNat ((↑k : Int) - (1 : Int))) (by omega)
    refine gd 88 119 [[], [], [.x (intT y2)], [], [], [], [.b (false)], [.b (false)], [.b (false), .x (intT y2)], [.b (false)], [.b (false)], [.b (false)], [.b (false)], [], [.b (false)], [.b (false)], [.b (false)], [.b (true)], [.b (true)], [.b (true), .i ((↑k : Int) - (1 : Int))], [.b (true), .x (intT y3)], [.b (true)], [.b (true)], [.b (true)], [.b (true), .x (intT y2)], [.b (true)], [.b (true)], [.b (false), .b (true)], [.b (false)]] ?_
    conv => whnf
    refine ⟨⟨I, I, ⟨(by omega), ixl (by assumption)⟩, I, I, I, ⟨decide_eq_false (by omega), I⟩, ⟨decide_eq_false (by omega), I⟩, ⟨decide_eq_false (by omega), (by omega), ixl (by assumption)⟩, ⟨decide_eq_false (by omega), I⟩, ⟨decide_eq_false (by omega), I⟩, ⟨decide_eq_false (by omega), I⟩, decide_eq_false (by omega), I, ⟨decide_eq_false (by omega), I⟩, ⟨decide_eq_false (by omega), I⟩, ⟨decide_eq_false (by omega), I⟩, ⟨decide_eq_true (by omega), I⟩, ⟨decide_eq_true (by omega), I⟩, ⟨decide_eq_true (by omega), w64 (by omega) (by omega)⟩, ⟨decide_eq_true (by omega), (by omega), ixl (by assumption)⟩, ⟨decide_eq_true (by omega), I⟩, ⟨decide_eq_true (by omega), I⟩, ⟨decide_eq_true (by omega), I⟩, ⟨decide_eq_true (by omega), (by omega), ixl (by assumption)⟩, ⟨decide_eq_true (by omega), I⟩, ⟨decide_eq_true (by omega), I⟩, ⟨decide_eq_false (by omega), decide_eq_true (by omega)⟩, decide_eq_false (by omega), I⟩, by kernel_rfl, ?_⟩
    refine W.cn ?_
    conv => whnf
    refine ⟨fun h11 => ?_, fun h11 => ?_⟩
    replace h11 := dt h11
    refine g 119 120 [] ?_
    conv => whnf
    refine ⟨⟨I, I⟩, ?_⟩
    refine W.ret ?_
    refine EndsW.rt ?_
    conv => whnf
    refine ⟨⟨I, I, I⟩, ?_, rfl⟩
    rotate_left 1
    replace h11 := df h11
    refine W.skip ?_
    refine rg [.i ((↑k : Int) + (1 : Int))] ?_
    conv => whnf
    refine ⟨⟨I, w64 (by omega) (by omega), I, I⟩, ?_⟩
    rotate_left 1
    refine gd 88 119 [[], [], [.x (intT y2)], [], [], [], [.b (false)], [.b (false)], [.b (false), .x (intT y2)], [.b (false)], [.b (false)], [.b (false)], [.b (false)], [], [.b (false)], [.b (false)], [.b (false)], [.b (false)], [.b (false)], [.b (false)], [.b (false)], [.b (false)], [.b (false)], [.b (false)], [.b (false)], [.b (false)], [.b (false)], [.b (false), .b (false)], [.b (false)]] ?_
    conv => whnf
    refine ⟨⟨I, I, ⟨(by omega), ixl (by assumption)⟩, I, I, I, ⟨decide_eq_false (by omega), I⟩, ⟨decide_eq_false (by omega), I⟩, ⟨decide_eq_false (by omega), (by omega), ixl (by assumption)⟩, ⟨decide_eq_false (by omega), I⟩, ⟨decide_eq_false (by omega), I⟩, ⟨decide_eq_false (by omega), I⟩, decide_eq_false (by omega), I, ⟨decide_eq_false (by omega), I⟩, ⟨decide_eq_false (by omega), I⟩, ⟨decide_eq_false (by omega), I⟩, decide_eq_false (by omega), decide_eq_false (by omega), decide_eq_false (by omega), decide_eq_false (by omega), decide_eq_false (by omega), decide_eq_false (by omega), decide_eq_false (by omega), decide_eq_false (by omega), decide_eq_false (by omega), decide_eq_false (by omega), ⟨decide_eq_false (by omega), decide_eq_false (by omega)⟩, decide_eq_false (by omega), I⟩, by kernel_rfl, ?_⟩
    refine W.cn ?_
    conv => whnf
    refine ⟨noT (rfl), fun _ => ?_⟩
    refine W.skip ?_
    refine rg [.i ((↑k : Int) + (1 : Int))] ?_
    conv => whnf
    refine ⟨⟨I, w64 (by omega) (by omega), I, I⟩, ?_⟩
    rotate_left 1
    replace h7 := df h7
    simp only [List.length_map] at h7
    refine W.exit ?_
    refine rg [.i ((↑n3 : Int) + (1 : Int))] ?_
    conv => whnf
    refine ⟨⟨I, w64 (by omega) (by omega), I, I⟩, ?_⟩
    rotate_left 1
    · exact vi (chk4 hlen hnames hcosts (deps_no hy1 (fun e => incr_no hi hy2 (by omega) e.2))).symm
    · exact vi (chk4 hlen hnames hcosts (deps_no hy1 (fun e => incr_no hi hy2 (by omega) e.2))).symm
    · have hl3 := last_at (hs (by omega)) hy3
      exact vi (chk4 hlen hnames hcosts (deps_no hy1 (fun e => incr_no hi hy2 (by omega) e.2))).symm
    · have hl3 := last_at (hs (by omega)) hy3
      refine ⟨(k + 1, y2), [some 1], [], ⟨rfl, ⟨rfl, rfl, rfl, rfl, rfl, rfl, rfl, I⟩, ⟨⟨rfl, ⟨rfl, I⟩⟩, I⟩, I⟩, ?_, ?_⟩
      rotate_left 1
      (dsimp only; omega)
      dsimp only
      exact ⟨by omega, incr_step hi hy2 (by omega), by omega, fun e => by omega, fun _ => hy2⟩
    · have hl3 := hz (by omega)
      refine ⟨(k + 1, y2), [some 1], [], ⟨rfl, ⟨rfl, rfl, rfl, rfl, rfl, rfl, rfl, I⟩, ⟨⟨rfl, ⟨rfl, I⟩⟩, I⟩, I⟩, ?_, ?_⟩
      rotate_left 1
      (dsimp only; omega)
      dsimp only
      exact ⟨by omega, incr_step hi hy2 (by omega), by omega, fun e => by omega, fun _ => hy2⟩
    · refine ⟨n3 + 1, [some 1], [], ⟨rfl, ⟨rfl, rfl, rfl, rfl, rfl, I⟩, ⟨⟨rfl, ⟨rfl, I⟩⟩, I⟩, I⟩, ?_, ?_⟩
      rotate_left 1
      (dsimp only; omega)
      dsimp only
      exact ⟨by omega, to_step hc3 hy1 ⟨by omega, incr_end hi (by omega)⟩⟩
  exact vi (chk0 hlen hnames hcosts (to_all hc3 (by omega))).symm
end Go.K

end

section
set_option linter.unusedVariables false
set_option linter.unusedSimpArgs false
set_option maxHeartbeats 4000000
set_option maxRecDepth 20000
open Go Go.Tm Go.Proofs
namespace Go.K
theorem wf_Task {n : Nat} {x : List T} (h : wfT E (n + 3) ty_laws_Task x) : ∃ v : Task, x = taskT v ∧ taskWf v := by
  obtain ⟨y0, z0, e0, ⟨name, rfl, hname⟩, y1, z1, e1, ⟨cost, rfl, _, _⟩, y2, z2, e2, ⟨ldeps, rfl, hdeps, gdeps⟩, e3⟩ := h
  subst e3
  subst e2
  subst e1
  obtain ⟨deps, rfl, _⟩ := map_of (f := intT) (p := fun _ => True) (xs := ldeps) fun y hy => by obtain ⟨m, hm, _⟩ := gdeps y hy; exact ⟨m, hm, trivial⟩
  subst e0
  exact ⟨⟨name, cost, deps⟩, rfl, ⟨hname, by rw [List.length_map] at hdeps; exact hdeps⟩⟩
theorem wf_Plan {n : Nat} {x : List T} (h : wfT E (n + 5) ty_laws_Plan x) : ∃ v : Plan, x = planT v ∧ planWf v := by
  obtain ⟨y0, z0, e0, ⟨ltasks, rfl, htasks, gtasks⟩, e1⟩ := h
  subst e1
  obtain ⟨tasks, rfl, wtasks⟩ := map_of (f := taskT) (p := taskWf) (xs := ltasks) fun y hy => wf_Task (gtasks y hy)
  subst e0
  exact ⟨⟨tasks⟩, rfl, ⟨by rw [List.length_map] at htasks; exact htasks, wtasks⟩⟩
theorem wf_Worker {n : Nat} {x : List T} (h : wfT E (n + 3) ty_laws_Worker x) : ∃ v : Worker, x = workerT v ∧ workerWf v := by
  obtain ⟨y0, z0, e0, ⟨number, rfl, _, _⟩, y1, z1, e1, ⟨epoch, rfl, _, _⟩, y2, z2, e2, ⟨up, rfl⟩, y3, z3, e3, ⟨state, rfl, _, _⟩, y4, z4, e4, ⟨lease, rfl, _, _⟩, y5, z5, e5, ⟨task, rfl, _, _⟩, y6, z6, e6, ⟨cost, rfl, _, _⟩, y7, z7, e7, ⟨left, rfl, _, _⟩, y8, z8, e8, ⟨linputs, rfl, hinputs, ginputs⟩, y9, z9, e9, ⟨text, rfl, htext⟩, y10, z10, e10, ⟨since, rfl, _, _⟩, e11⟩ := h
  subst e11
  subst e10
  subst e9
  subst e8
  subst e7
  subst e6
  subst e5
  subst e4
  subst e3
  subst e2
  subst e1
  obtain ⟨inputs, rfl, winputs⟩ := wf_strs ginputs
  subst e0
  exact ⟨⟨number, epoch, up, state, lease, task, cost, left, inputs, text, since⟩, rfl, ⟨by rw [List.length_map] at hinputs; exact hinputs, winputs, htext⟩⟩
end Go.K

end

section
set_option linter.unusedVariables false
set_option linter.unusedSimpArgs false
open Go Go.Tm Go.Proofs
namespace Go.K
structure Tale where
  epoch : Int
  results : List ByteArray
end Go.K

end

section
set_option linter.unusedVariables false
set_option linter.unusedSimpArgs false
set_option maxHeartbeats 4000000
set_option maxRecDepth 20000
open Go Go.Tm Go.Proofs
namespace Go.K
theorem incr_range {hi : Int} : ∀ {last : Int} {ds : List Int}, incr last hi ds → ∀ d ∈ ds, last < d ∧ d < hi
  | _, [], _, d, h => by cases h
  | last, x :: ds, h, d, hd => by
    rw [incr] at h
    rcases List.mem_cons.1 hd with e | hd
    · subst e; exact h.1
    · have := incr_range h.2 d hd; omega
theorem chk_inv {ts : List Task} (h : checkPlan ts = 0) : (1 ≤ ts.length ∧ ts.length ≤ 40) ∧ namesOk ts ∧ costsOk ts ∧ depsOk ts := by
  by_cases h1 : 1 ≤ ts.length ∧ ts.length ≤ 40
  · by_cases h2 : namesOk ts
    · by_cases h3 : costsOk ts
      · by_cases h4 : depsOk ts
        · exact ⟨h1, h2, h3, h4⟩
        · rw [chk4 h1 h2 h3 h4] at h; cases h
      · rw [chk3 h1 h2 h3] at h; cases h
    · rw [chk2 h1 h2] at h; cases h
  · rw [chk1 h1] at h; cases h
theorem chk_task {ts : List Task} (h : checkPlan ts = 0) {n : Nat} {t : Task} (ht : ts[n]? = some t) : (1 ≤ t.name.size ∧ t.name.size ≤ 30) ∧ (1 ≤ t.cost ∧ t.cost ≤ 20) ∧ t.deps.length ≤ 8 ∧ ∀ d ∈ t.deps, 0 ≤ d ∧ d < n := by
  obtain ⟨h1, h2, h3, h4⟩ := chk_inv h
  have hn := (List.getElem?_eq_some_iff.1 ht).1
  refine ⟨(h2 n t hn ht).1.2, h3 t (List.mem_of_getElem? ht), (h4 n t hn ht).1, fun d hd => ?_⟩
  have := incr_range (h4 n t hn ht).2 d hd
  omega

end Go.K

end

section
set_option linter.unusedVariables false
set_option linter.unusedSimpArgs false
set_option maxHeartbeats 4000000
set_option maxRecDepth 20000
open Go Go.Tm Go.Proofs
namespace Go.K
structure Acted where
  worker : Worker
  out : List Message
  deriving DecidableEq
abbrev actedR (x : Acted) : V := .agg [.t (.i x.worker.number), .t (.i x.worker.epoch), .t (.b x.worker.up), .t (.i x.worker.state), .t (.i x.worker.lease), .t (.i x.worker.task), .t (.i x.worker.cost), .t (.i x.worker.left), .t (.slc [false] (x.worker.inputs.map strT)), .t (.s x.worker.text), .t (.i x.worker.since), .t (.slc messageK (x.out.map messageT))]
abbrev actedO (x : Acted) : V := .agg [.t (.i x.worker.number), .t (.i x.worker.epoch), .t (.b x.worker.up), .t (.i x.worker.state), .t (.i x.worker.lease), .t (.i x.worker.task), .t (.i x.worker.cost), .t (.i x.worker.left), .own [false] (x.worker.inputs.map strT), .t (.s x.worker.text), .t (.i x.worker.since), .own messageK (x.out.map messageT)]
abbrev noActed : Acted := ⟨⟨0, 0, false, 0, 0, 0, 0, 0, [], emp, 0⟩, []⟩
end Go.K

end

section
set_option linter.unusedVariables false
set_option linter.unusedSimpArgs false
set_option maxHeartbeats 4000000
set_option maxRecDepth 20000
open Go Go.Tm Go.Proofs
namespace Go.K
theorem c_laws_heldMessageS (xs : List Message) (k : Int) (hl : xs.length ≤ 9223372036854775806) (h0 : 0 ≤ k) (hk : k + sumI messageC xs ≤ 1099511627776) : F n_laws_heldMessageS [.val (.t (.slc messageK ((mkL messageMk messageC k xs).map messageT))), .val (.i k)] (.i (k + sumI messageC xs)) [[], []] := by
  have hx := mkL_len messageMk messageC k xs
  refine i_laws_heldMessageS ?_
  conv => whnf
  refine g 0 0 [] ?_
  conv => whnf
  refine ⟨⟨I, I⟩, ?_⟩
  refine W.sq ?_
  refine g 0 0 [] ?_
  conv => whnf
  refine ⟨⟨I, I⟩, ?_⟩
  refine W.blk ?_
  refine W.lp (fun s (n : Nat) => ⟨[(0, s.s 0), (1, .i (k + sumI messageC (xs.take n))), (5, .i n)], [], []⟩) (fun (n : Nat) => n ≤ xs.length) (fun (n : Nat) => xs.length - n) (0) [] [] ⟨rfl, ⟨rfl, (congrArg (fun z => V.t (T.v (Value.int _ z))) (by simp [sumI])), rfl, I⟩, I, I⟩ (by omega) ?_
  intro n hn
  have hq := sum_nn messageC_nn (xs.take n)
  have hle := sum_le messageC_nn xs (n + 1)
  have hle0 := sum_le messageC_nn xs n
  conv => whnf
  refine W.sq ?_
  refine g 6 9 [] ?_
  conv => whnf
  refine ⟨⟨I, I, I, I, I⟩, ?_⟩
  refine W.cn ?_
  conv => whnf
  refine ⟨fun h1 => ?_, fun h1 => ?_⟩
  replace h1 := dt h1
  simp only [List.length_map] at h1
  refine W.skip ?_
  refine W.sq ?_
  refine W.blk ?_
  refine W.sq ?_
  obtain ⟨y1, hy1⟩ := some_at (xs := xs) (n := n) (by omega)
  have hk1 := sum_take (f := messageC) hy1
  have hk2 := messageC_nn y1
  have hk3 := messageC_eq y1
  have hk4 := mkL_get (f := messageMk) (c := messageC) (k := k) hy1
  refine g 9 18 [.x (messageT (messageMk (k + sumI messageC (List.take n xs)) y1))] ?_
  conv => whnf
  refine ⟨⟨I, I, ⟨(by omega), ixl (by assumption)⟩, I, I, I, I, I⟩, ?_⟩
  refine W.cn ?_
  conv => whnf
  refine ⟨noT (notF rfl), fun _ => ?_⟩
  refine W.skip ?_
  refine g 18 21 [.i (k + sumI messageC (List.take n xs) + (1 : Int))] ?_
  conv => whnf
  refine ⟨⟨I, w64 (by omega) (by omega), I, I⟩, ?_⟩
  refine W.sq ?_
  refine g 21 27 [.x (messageT (messageMk (k + sumI messageC (List.take n xs)) y1))] ?_
  conv => whnf
  refine ⟨⟨I, I, ⟨(by omega), ixl (by assumption)⟩, I, I, I, I, I⟩, ?_⟩
  refine W.cn ?_
  conv => whnf
  refine ⟨noT (notF rfl), fun _ => ?_⟩
  refine W.skip ?_
  refine g 27 30 [.i (k + sumI messageC (List.take n xs) + (1 : Int) + (1 : Int))] ?_
  conv => whnf
  refine ⟨⟨I, w64 (by omega) (by omega), I, I⟩, ?_⟩
  refine W.sq ?_
  refine g 30 36 [.x (messageT (messageMk (k + sumI messageC (List.take n xs)) y1))] ?_
  conv => whnf
  refine ⟨⟨I, I, ⟨(by omega), ixl (by assumption)⟩, I, I, I, I, I⟩, ?_⟩
  refine W.cn ?_
  conv => whnf
  refine ⟨noT (notF rfl), fun _ => ?_⟩
  refine W.skip ?_
  refine g 36 39 [.i (k + sumI messageC (List.take n xs) + (1 : Int) + (1 : Int) + (1 : Int))] ?_
  conv => whnf
  refine ⟨⟨I, w64 (by omega) (by omega), I, I⟩, ?_⟩
  refine W.sq ?_
  refine g 39 45 [.x (messageT (messageMk (k + sumI messageC (List.take n xs)) y1))] ?_
  conv => whnf
  refine ⟨⟨I, I, ⟨(by omega), ixl (by assumption)⟩, I, I, I, I, I⟩, ?_⟩
  refine W.cn ?_
  conv => whnf
  refine ⟨noT (notF rfl), fun _ => ?_⟩
  refine W.skip ?_
  refine g 45 48 [.i (k + sumI messageC (List.take n xs) + (1 : Int) + (1 : Int) + (1 : Int) + (1 : Int))] ?_
  conv => whnf
  refine ⟨⟨I, w64 (by omega) (by omega), I, I⟩, ?_⟩
  refine W.sq ?_
  refine g 48 54 [.x (messageT (messageMk (k + sumI messageC (List.take n xs)) y1))] ?_
  conv => whnf
  refine ⟨⟨I, I, ⟨(by omega), ixl (by assumption)⟩, I, I, I, I, I⟩, ?_⟩
  refine W.cn ?_
  conv => whnf
  refine ⟨noT (notF rfl), fun _ => ?_⟩
  refine W.skip ?_
  refine g 54 57 [.i (k + sumI messageC (List.take n xs) + (1 : Int) + (1 : Int) + (1 : Int) + (1 : Int) + (1 : Int))] ?_
  conv => whnf
  refine ⟨⟨I, w64 (by omega) (by omega), I, I⟩, ?_⟩
  refine W.sq ?_
  refine g 57 63 [.x (messageT (messageMk (k + sumI messageC (List.take n xs)) y1))] ?_
  conv => whnf
  refine ⟨⟨I, I, ⟨(by omega), ixl (by assumption)⟩, I, I, I, I, I⟩, ?_⟩
  refine W.cn ?_
  conv => whnf
  refine ⟨noT (notF rfl), fun _ => ?_⟩
  refine W.skip ?_
  refine g 63 66 [.i (k + sumI messageC (List.take n xs) + (1 : Int) + (1 : Int) + (1 : Int) + (1 : Int) + (1 : Int) + (1 : Int))] ?_
  conv => whnf
  refine ⟨⟨I, w64 (by omega) (by omega), I, I⟩, ?_⟩
  refine W.sq ?_
  refine gd 66 73 [[], [], [.x (messageT (messageMk (k + sumI messageC (List.take n xs)) y1))], [], [], [], [.call (V.s (markT (k + sumI messageC (List.take n xs) + (1 : Int) + (1 : Int) + (1 : Int) + (1 : Int) + (1 : Int) + (1 : Int)))) ([[]])], []] ?_
  conv => whnf
  refine ⟨⟨I, I, ⟨(by omega), ixl (by assumption)⟩, I, I, I, ⟨⟨I, I⟩, I, ⟨⟨I, I⟩, I⟩, ⟨I, I⟩, Go.K.c_laws_markText _ (by omega)⟩, I, I⟩, by kernel_rfl, ?_⟩
  refine W.cn ?_
  conv => whnf
  refine ⟨noT (notF rfl), fun _ => ?_⟩
  refine W.skip ?_
  refine g 73 76 [.i (k + sumI messageC (List.take n xs) + (1 : Int) + (1 : Int) + (1 : Int) + (1 : Int) + (1 : Int) + (1 : Int) + (1 : Int))] ?_
  conv => whnf
  refine ⟨⟨I, w64 (by omega) (by omega), I, I⟩, ?_⟩
  refine g 76 83 [.x (messageT (messageMk (k + sumI messageC (List.take n xs)) y1)), .call (V.i (k + sumI messageC (List.take n xs) + (1 : Int) + (1 : Int) + (1 : Int) + (1 : Int) + (1 : Int) + (1 : Int) + (1 : Int) + (↑(List.length (Message.inputs y1)) : Int))) ([[], []])] ?_
  conv => whnf
  refine ⟨⟨I, I, ⟨(by omega), ixl (by assumption)⟩, I, I, I, ⟨⟨I, I, I⟩, I, ⟨⟨I, I⟩, ⟨I, I⟩, I⟩, ⟨I, I⟩, Go.K.c_laws_heldStringS _ _ (by omega) (by omega) (by omega)⟩, I, I⟩, ?_⟩
  refine g 83 84 [] ?_
  conv => whnf
  refine ⟨⟨I, I, I⟩, ?_⟩
  refine W.cn ?_
  conv => whnf
  refine ⟨noT (decide_eq_false (by omega)), fun _ => ?_⟩
  refine W.skip ?_
  refine rg [.i ((↑n : Int) + (1 : Int))] ?_
  conv => whnf
  refine ⟨⟨I, w64 (by omega) (by omega), I, I⟩, ?_⟩
  rotate_left 1
  replace h1 := df h1
  simp only [List.length_map] at h1
  refine W.exit ?_
  refine g 5 86 [] ?_
  conv => whnf
  refine ⟨⟨I, I, I⟩, ?_⟩
  refine W.ret ?_
  refine EndsW.rt ?_
  conv => whnf
  refine ⟨⟨I, I, I⟩, ?_, rfl⟩
  rotate_left 1
  · refine ⟨n + 1, [], [], ⟨rfl, ⟨rfl, (congrArg (fun z => V.t (T.v (Value.int _ z))) (by rw [sum_take (by assumption)]; omega)), rfl, I⟩, I, I⟩, ?_, ?_⟩
    rotate_left 1
    (dsimp only; omega)
    dsimp only
    omega
  · rw [take_all (by omega)]
def actedLen (a : Acted) : Prop := a.worker.inputs.length ≤ 9223372036854775806 ∧ a.out.length ≤ 9223372036854775806 ∧ (∀ y ∈ a.out, messageLen y)
theorem c_laws_eqActed (a b : Acted) (hl : actedLen a) : F n_laws_eqActed [.val (actedR a), .val (actedR b)] (.b (decide (a = b))) [[], []] := by
  obtain ⟨a_worker, a_out⟩ := a
  obtain ⟨b_worker, b_out⟩ := b
  simp only [actedLen] at hl
  obtain ⟨hl0, hl1, hl2⟩ := hl
  refine i_laws_eqActed ?_
  conv => whnf
  refine g 0 2 [] ?_
  conv => whnf
  refine ⟨⟨⟨I, I, I, I, I, I, I, I, I, I, I, I, I⟩, ⟨I, I, I, I, I, I, I, I, I, I, I, I, I⟩, I, I⟩, ?_⟩
  refine W.sq ?_
  refine g 5 10 [.call (V.b (decide (a_worker = b_worker))) ([[], []])] ?_
  conv => whnf
  refine ⟨⟨I, I, I, I, ⟨⟨I, I, I⟩, I, ⟨⟨I, I, I, I, I, I, I, I, I, I, I, I⟩, ⟨I, I, I, I, I, I, I, I, I, I, I, I⟩, I⟩, ⟨I, I⟩, Go.K.c_laws_eqWorker _ _ (by assumption)⟩, I, I⟩, ?_⟩
  refine W.cn ?_
  conv => whnf
  refine ⟨fun h1 => ?_, fun h1 => ?_⟩
  replace h1 := ndt h1
  refine g 10 11 [] ?_
  conv => whnf
  refine ⟨⟨I, I⟩, ?_⟩
  refine W.ret ?_
  refine EndsW.rt ?_
  conv => whnf
  refine ⟨⟨I, I, I⟩, ?_, rfl⟩
  rotate_left 1
  replace h1 := ndf h1
  refine W.skip ?_
  refine W.sq ?_
  refine g 10 16 [.call (V.b (decide (a_out = b_out))) ([[], []])] ?_
  conv => whnf
  refine ⟨⟨I, I, I, I, ⟨⟨I, I, I⟩, I, ⟨⟨I, I⟩, ⟨I, I⟩, I⟩, ⟨I, I⟩, Go.K.c_laws_eqMessageS _ _ (by omega) (by omega)⟩, I, I⟩, ?_⟩
  refine W.cn ?_
  conv => whnf
  refine ⟨fun h2 => ?_, fun h2 => ?_⟩
  replace h2 := ndt h2
  refine g 2 4 [] ?_
  conv => whnf
  refine ⟨⟨I, I⟩, ?_⟩
  refine W.ret ?_
  refine EndsW.rt ?_
  conv => whnf
  refine ⟨⟨I, I, I⟩, ?_, rfl⟩
  rotate_left 1
  replace h2 := ndf h2
  refine W.skip ?_
  refine g 2 4 [] ?_
  conv => whnf
  refine ⟨⟨I, I⟩, ?_⟩
  refine W.ret ?_
  refine EndsW.rt ?_
  conv => whnf
  refine ⟨⟨I, I, I⟩, ?_, rfl⟩
  rotate_left 1
  all_goals (first | exact vbt (by simp_all; done) | exact vbf (by simp_all; done))
def actedTop (k : Int) (x : Acted) : Acted := ⟨workerTop (k) x.worker, mkL messageMk messageC (k + workerTopC x.worker) x.out⟩
def actedTopC (x : Acted) : Int := workerTopC x.worker + sumI messageC x.out
theorem c_laws_markActed (x : Acted) (k : Int) (hl : x.worker.inputs.length ≤ 9223372036854775806 ∧ x.out.length ≤ 9223372036854775806) (h0 : 0 ≤ k) (hk : k + actedTopC x ≤ 1099511627776) : F n_laws_markActed [.bor (actedO x), .val (.i k)] (.i (k + actedTopC x)) [cellsOf (actedO (actedTop k x)), []] := by
  obtain ⟨hl0, hl1⟩ := hl
  have hn0 := workerTopC_nn x.worker
  have hn1 := sum_nn messageC_nn x.out
  have hz : actedTopC x = workerTopC x.worker + sumI messageC x.out := rfl
  refine i_laws_markActed ?_
  conv => whnf
  refine g 0 1 [] ?_
  conv => whnf
  refine ⟨⟨⟨I, I, I, I, I, I, I, I, I, I, I⟩, I, I⟩, ?_⟩
  refine g 5 9 [.call (V.i (k + workerTopC (Acted.worker x))) ([cellsOf (workerO (workerTop k (Acted.worker x))), []])] ?_
  conv => whnf
  refine ⟨⟨I, I, I, ⟨⟨⟨I, I, I, I, I, I, I, I, I, I, I, I⟩, I, I⟩, I, ⟨I, ⟨I, I⟩, I⟩, ⟨I, I⟩, Go.K.c_laws_markWorker _ _ (by omega) (by omega) (by omega)⟩, I, I⟩, ?_⟩
  refine g 9 13 [.call (V.i (k + workerTopC (Acted.worker x) + sumI messageC (Acted.out x))) ([[V.own messageK (List.map messageT (mkL messageMk messageC (k + workerTopC (Acted.worker x)) (Acted.out x)))], []])] ?_
  conv => whnf
  refine ⟨⟨I, I, I, ⟨⟨⟨I, I⟩, I, I⟩, I, ⟨I, ⟨I, I⟩, I⟩, ⟨I, I⟩, Go.K.c_laws_markMessageS _ _ (by omega) (by omega) (by omega)⟩, I, I⟩, ?_⟩
  refine g 1 3 [] ?_
  conv => whnf
  refine ⟨⟨I, I, I⟩, ?_⟩
  refine W.ret ?_
  refine EndsW.rt ?_
  conv => whnf
  refine ⟨⟨I, I, I⟩, ?_, rfl⟩
  exact vi (by omega)
theorem c_laws_heldActed (x : Acted) (k : Int) (hl : x.worker.inputs.length ≤ 9223372036854775806 ∧ x.out.length ≤ 9223372036854775806) (h0 : 0 ≤ k) (hk : k + actedTopC x ≤ 1099511627776) : F n_laws_heldActed [.val (actedR (actedTop k x)), .val (.i k)] (.i (k + actedTopC x)) [[], []] := by
  obtain ⟨hl0, hl1⟩ := hl
  have hn0 := workerTopC_nn x.worker
  have hn1 := sum_nn messageC_nn x.out
  have hz : actedTopC x = workerTopC x.worker + sumI messageC x.out := rfl
  refine i_laws_heldActed ?_
  conv => whnf
  refine g 0 1 [] ?_
  conv => whnf
  refine ⟨⟨⟨I, I, I, I, I, I, I, I, I, I, I, I, I⟩, I, I⟩, ?_⟩
  refine g 5 9 [.call (V.i (k + workerTopC (Acted.worker x))) ([[], []])] ?_
  conv => whnf
  refine ⟨⟨I, I, I, ⟨⟨I, I, I⟩, I, ⟨⟨I, I, I, I, I, I, I, I, I, I, I, I⟩, ⟨I, I⟩, I⟩, ⟨I, I⟩, Go.K.c_laws_heldWorker _ _ (by omega) (by omega) (by omega)⟩, I, I⟩, ?_⟩
  refine W.sq ?_
  refine g 9 10 [] ?_
  conv => whnf
  refine ⟨⟨I, I, I⟩, ?_⟩
  refine W.cn ?_
  conv => whnf
  refine ⟨noT (decide_eq_false (by omega)), fun _ => ?_⟩
  refine W.skip ?_
  refine g 10 15 [.call (V.i (k + workerTopC (Acted.worker x) + sumI messageC (Acted.out x))) ([[], []])] ?_
  conv => whnf
  refine ⟨⟨I, I, I, ⟨⟨I, I, I⟩, I, ⟨⟨I, I⟩, ⟨I, I⟩, I⟩, ⟨I, I⟩, Go.K.c_laws_heldMessageS _ _ (by omega) (by omega) (by omega)⟩, I, I⟩, ?_⟩
  refine W.sq ?_
  refine g 2 3 [] ?_
  conv => whnf
  refine ⟨⟨I, I, I⟩, ?_⟩
  refine W.cn ?_
  conv => whnf
  refine ⟨noT (decide_eq_false (by omega)), fun _ => ?_⟩
  refine W.skip ?_
  refine g 15 18 [] ?_
  conv => whnf
  refine ⟨⟨I, I, I⟩, ?_⟩
  refine W.ret ?_
  refine EndsW.rt ?_
  conv => whnf
  refine ⟨⟨I, I, I⟩, ?_, rfl⟩
  exact vi (by omega)
end Go.K

end

section
set_option linter.unusedVariables false
set_option linter.unusedSimpArgs false
set_option maxHeartbeats 4000000
set_option maxRecDepth 20000
open Go Go.Tm Go.Proofs
namespace Go.K
theorem c_laws_markIntS (xs : List Int) (k : Int) (hl : xs.length ≤ 9223372036854775806) (h0 : 0 ≤ k) (hk : k + xs.length ≤ 1099511627776) : F n_laws_markIntS [.bor (.own [false] (xs.map intT)), .val (.i k)] (.i (k + xs.length)) [[.own [false] ((mkL (fun k _ => k) (fun _ => 1) k xs).map intT)], []] := by
  refine i_laws_markIntS ?_
  conv => whnf
  refine g 0 0 [] ?_
  conv => whnf
  refine ⟨⟨I, I⟩, ?_⟩
  refine W.sq ?_
  refine g 0 0 [] ?_
  conv => whnf
  refine ⟨⟨I, I⟩, ?_⟩
  refine W.blk ?_
  refine W.lp (fun s (n : Nat) => ⟨[(0, s.s 0), (1, .i (k + n)), (4, s.s 4), (5, .i n)], [(19, [.own [false] ((mkN (fun k _ => k) (fun _ => 1) k xs n).map intT)])], []⟩) (fun (n : Nat) => n ≤ xs.length) (fun (n : Nat) => xs.length - n) (0) [some 19] [] ⟨rfl, ⟨rfl, (congrArg (fun z => V.t (T.v (Value.int _ z))) (by simp [sumI])), rfl, rfl, I⟩, ⟨⟨rfl, ⟨rfl, I⟩⟩, I⟩, I⟩ (by omega) ?_
  intro n hn
  have hx := mkN_len (fun k _ => k) (fun _ => 1) k xs n
  have hs1 : ∀ x, xs[n]? = some x → ((mkN (fun k _ => k) (fun _ => 1) k xs n).map intT).set n (intT (k + n)) = (mkN (fun k _ => k) (fun _ => 1) k xs (n + 1)).map intT := fun x hx => by
    have := mkN_setm (f := (fun k _ => k)) (c := (fun _ => 1)) (g := intT) (k := k) hx
    rw [sum_one, List.length_take, Nat.min_eq_left hn] at this; exact this
  conv => whnf
  refine W.sq ?_
  refine g 6 9 [] ?_
  conv => whnf
  refine ⟨⟨I, I, I, I, I⟩, ?_⟩
  refine W.cn ?_
  conv => whnf
  refine ⟨fun h1 => ?_, fun h1 => ?_⟩
  replace h1 := dt h1
  simp only [List.length_map] at h1
  refine W.skip ?_
  refine W.sq ?_
  refine W.blk ?_
  obtain ⟨y1, hy1⟩ := some_at (xs := xs) (n := n) (by omega)
  refine g 9 16 [.n (n), .x (intT y1)] ?_
  conv => whnf
  refine ⟨⟨I, I, I, ⟨rfl, (by simp only [List.length_map, List.length_append, List.length_set, List.length_replicate, List.length_cons, List.length_nil, List.length_take, List.length_drop, fill_len, fillI_len, List.length_range, bytesT_len]; omega)⟩, ⟨⟨I, I⟩, mkN_getm (by assumption)⟩, I⟩, ?_⟩
  refine rg [.i (k + (↑n : Int) + (1 : Int))] ?_
  conv => whnf
  refine ⟨⟨I, w64 (by omega) (by omega), I, I⟩, ?_⟩
  refine rg [.i ((↑n : Int) + (1 : Int))] ?_
  conv => whnf
  refine ⟨⟨I, w64 (by omega) (by omega), I, I⟩, ?_⟩
  rotate_left 1
  replace h1 := df h1
  simp only [List.length_map] at h1
  refine W.exit ?_
  refine g 5 19 [] ?_
  conv => whnf
  refine ⟨⟨I, I, I⟩, ?_⟩
  refine W.ret ?_
  refine EndsW.rt ?_
  conv => whnf
  refine ⟨⟨I, I, I⟩, ?_, ?_⟩
  exact vi (by omega)
  rotate_left 1
  · refine ⟨n + 1, [some 19], [], ⟨rfl, ⟨rfl, (congrArg (fun z => V.t (T.v (Value.int _ z))) (by omega)), rfl, rfl, I⟩, ⟨⟨rfl, ⟨(congrArg (V.own _) (hs1 _ (by assumption))), I⟩⟩, I⟩, I⟩, ?_, ?_⟩
    rotate_left 1
    (dsimp only; omega)
    dsimp only
    omega
  · have e := mkN_all (fun k _ => k) (fun _ => 1) k xs (n := n) (by omega)
    rw [show n = xs.length by omega] at e ⊢
    rw [e]
def taskC (x : Task) : Int := 2 + (x.deps.length : Int)
theorem taskC_eq (x : Task) : taskC x = 2 + (x.deps.length : Int) := rfl
theorem taskC_nn (x : Task) : 0 ≤ taskC x := by
  simp only [taskC]; omega
def taskMk (k : Int) (x : Task) : Task := ⟨markT (k), k + 1, mkL (fun k _ => k) (fun _ => 1) (k + 1 + 1) x.deps⟩
theorem c_laws_markTaskS (xs : List Task) (k : Int) (hl : xs.length ≤ 9223372036854775806) (h0 : 0 ≤ k) (hk : k + sumI taskC xs ≤ 1099511627776) : F n_laws_markTaskS [.bor (.own taskK (xs.map taskT)), .val (.i k)] (.i (k + sumI taskC xs)) [[.own taskK ((mkL taskMk taskC k xs).map taskT)], []] := by
  refine i_laws_markTaskS ?_
  conv => whnf
  refine g 0 0 [] ?_
  conv => whnf
  refine ⟨⟨I, I⟩, ?_⟩
  refine W.sq ?_
  refine g 0 0 [] ?_
  conv => whnf
  refine ⟨⟨I, I⟩, ?_⟩
  refine W.blk ?_
  refine W.lp (fun s (n : Nat) => ⟨[(0, s.s 0), (1, .i (k + sumI taskC (xs.take n))), (4, s.s 4), (5, .i n)], [(35, [.own taskK ((mkN taskMk taskC k xs n).map taskT)])], []⟩) (fun (n : Nat) => n ≤ xs.length) (fun (n : Nat) => xs.length - n) (0) [some 35] [] ⟨rfl, ⟨rfl, (congrArg (fun z => V.t (T.v (Value.int _ z))) (by simp [sumI])), rfl, rfl, I⟩, ⟨⟨rfl, ⟨rfl, I⟩⟩, I⟩, I⟩ (by omega) ?_
  intro n hn
  have hx := mkN_len taskMk taskC k xs n
  have hq := sum_nn taskC_nn (xs.take n)
  have hle := sum_le taskC_nn xs (n + 1)
  have hle0 := sum_le taskC_nn xs n
  conv => whnf
  refine W.sq ?_
  refine g 6 9 [] ?_
  conv => whnf
  refine ⟨⟨I, I, I, I, I⟩, ?_⟩
  refine W.cn ?_
  conv => whnf
  refine ⟨fun h1 => ?_, fun h1 => ?_⟩
  replace h1 := dt h1
  simp only [List.length_map] at h1
  refine W.skip ?_
  refine W.sq ?_
  refine W.blk ?_
  obtain ⟨y1, hy1⟩ := some_at (xs := xs) (n := n) (by omega)
  have hk1 := sum_take (f := taskC) hy1
  have hk2 := taskC_nn y1
  have hk3 := taskC_eq y1
  refine g 9 18 [.call (V.s (markT (k + sumI taskC (List.take n xs)))) ([[]]), .n (n), .x (taskT y1)] ?_
  conv => whnf
  refine ⟨⟨I, I, I, ⟨⟨I, I⟩, I, ⟨⟨I, I⟩, I⟩, ⟨I, I⟩, Go.K.c_laws_markText _ (by omega)⟩, ⟨rfl, (by simp only [List.length_map, List.length_append, List.length_set, List.length_replicate, List.length_cons, List.length_nil, List.length_take, List.length_drop, fill_len, fillI_len, List.length_range, bytesT_len]; omega)⟩, I, ⟨⟨I, I⟩, mkN_getm (by assumption)⟩, I⟩, ?_⟩
  refine g 18 20 [.i (k + sumI taskC (List.take n xs) + (1 : Int))] ?_
  conv => whnf
  refine ⟨⟨I, w64 (by omega) (by omega), I, I⟩, ?_⟩
  refine g 20 25 [.n (n), .x (patch (taskT y1) ((0 : Nat) + (0 : Nat)) [T.v (Value.string (markT (k + sumI taskC (List.take n xs))))])] ?_
  conv => whnf
  refine ⟨⟨I, I, I, ⟨rfl, (by simp only [List.length_map, List.length_append, List.length_set, List.length_replicate, List.length_cons, List.length_nil, List.length_take, List.length_drop, fill_len, fillI_len, List.length_range, bytesT_len]; omega)⟩, I, ⟨⟨I, I⟩, getset (by simp only [List.length_map, List.length_append, List.length_set, List.length_replicate, List.length_cons, List.length_nil, List.length_take, List.length_drop, fill_len, fillI_len, List.length_range, bytesT_len]; omega)⟩, I⟩, ?_⟩
  refine g 25 27 [.i (k + sumI taskC (List.take n xs) + (1 : Int) + (1 : Int))] ?_
  conv => whnf
  refine ⟨⟨I, w64 (by omega) (by omega), I, I⟩, ?_⟩
  refine rg [.n (n), .x (patch (patch (taskT y1) ((0 : Nat) + (0 : Nat)) [T.v (Value.string (markT (k + sumI taskC (List.take n xs))))]) ((0 : Nat) + (1 : Nat)) [T.v (Value.int IntKind.i64 (k + sumI taskC (List.take n xs) + (1 : Int)))]), .x (patch (patch (taskT y1) ((0 : Nat) + (0 : Nat)) [T.v (Value.string (markT (k + sumI taskC (List.take n xs))))]) ((0 : Nat) + (1 : Nat)) [T.v (Value.int IntKind.i64 (k + sumI taskC (List.take n xs) + (1 : Int)))]), .call (V.i (k + sumI taskC (List.take n xs) + (1 : Int) + (1 : Int) + (↑(List.length (Task.deps y1)) : Int))) ([[V.own [false] (List.map intT (mkL (fun k x => k) (fun x => (1 : Int)) (k + sumI taskC (List.take n xs) + (1 : Int) + (1 : Int)) (Task.deps y1)))], []]), .x ([T.v (Value.string (markT (k + sumI taskC (List.take n xs)))), T.v (Value.int IntKind.i64 (k + sumI taskC (List.take n xs) + (1 : Int))), T.hole])] ?_
  conv => whnf
  refine ⟨⟨I, I, ⟨rfl, (by simp only [List.length_map, List.length_append, List.length_set, List.length_replicate, List.length_cons, List.length_nil, List.length_take, List.length_drop, fill_len, fillI_len, List.length_range, bytesT_len]; omega)⟩, I, getset (by simp only [List.length_map, List.length_append, List.length_set, List.length_replicate, List.length_cons, List.length_nil, List.length_take, List.length_drop, fill_len, fillI_len, List.length_range, bytesT_len]; omega), I, ⟨⟨⟨getset (by simp only [List.length_map, List.length_append, List.length_set, List.length_replicate, List.length_cons, List.length_nil, List.length_take, List.length_drop, fill_len, fillI_len, List.length_range, bytesT_len]; omega), I⟩, I, I⟩, I, ⟨I, ⟨I, I⟩, I⟩, ⟨⟨getset (by simp only [List.length_map, List.length_append, List.length_set, List.length_replicate, List.length_cons, List.length_nil, List.length_take, List.length_drop, fill_len, fillI_len, List.length_range, bytesT_len]; omega), I⟩, I⟩, Go.K.c_laws_markIntS _ _ (by omega) (by omega) (by omega)⟩, I, I⟩, ?_⟩
  refine rg [.i ((↑n : Int) + (1 : Int))] ?_
  conv => whnf
  refine ⟨⟨I, w64 (by omega) (by omega), I, I⟩, ?_⟩
  rotate_left 1
  replace h1 := df h1
  simp only [List.length_map] at h1
  refine W.exit ?_
  refine g 5 35 [] ?_
  conv => whnf
  refine ⟨⟨I, I, I⟩, ?_⟩
  refine W.ret ?_
  refine EndsW.rt ?_
  conv => whnf
  refine ⟨⟨I, I, I⟩, ?_, ?_⟩
  rotate_left 1
  rotate_left 1
  · refine ⟨n + 1, [some 35], [], ⟨rfl, ⟨rfl, (congrArg (fun z => V.t (T.v (Value.int _ z))) (by rw [sum_take (by assumption)]; omega)), rfl, rfl, I⟩, ⟨⟨rfl, ⟨(congrArg (V.own _) (by simp only [List.set_set]; exact mkN_setm (f := taskMk) (c := taskC) (by assumption))), I⟩⟩, I⟩, I⟩, ?_, ?_⟩
    rotate_left 1
    (dsimp only; omega)
    dsimp only
    omega
  · rw [take_all (by omega)]
  · rw [mkN_all taskMk taskC k xs (n := n) (by omega)]
def planTop (k : Int) (x : Plan) : Plan := ⟨mkL taskMk taskC (k) x.tasks⟩
def planTopC (x : Plan) : Int := sumI taskC x.tasks
theorem planTopC_nn (x : Plan) : 0 ≤ planTopC x := by
  have := sum_nn taskC_nn x.tasks
  simp only [planTopC]; omega
theorem c_laws_markPlan (x : Plan) (k : Int) (hl : x.tasks.length ≤ 9223372036854775806) (h0 : 0 ≤ k) (hk : k + planTopC x ≤ 1099511627776) : F n_laws_markPlan [.bor (planO x), .val (.i k)] (.i (k + planTopC x)) [cellsOf (planO (planTop k x)), []] := by
  have hn0 := sum_nn taskC_nn x.tasks
  have hz : planTopC x = _ := rfl
  simp only [planTopC] at hz
  refine i_laws_markPlan ?_
  conv => whnf
  refine g 0 1 [] ?_
  conv => whnf
  refine ⟨⟨I, I, I⟩, ?_⟩
  refine g 5 9 [.call (V.i (k + sumI taskC (Plan.tasks x))) ([[V.own taskK (List.map taskT (mkL taskMk taskC k (Plan.tasks x)))], []])] ?_
  conv => whnf
  refine ⟨⟨I, I, I, ⟨⟨⟨I, I⟩, I, I⟩, I, ⟨I, ⟨I, I⟩, I⟩, ⟨I, I⟩, Go.K.c_laws_markTaskS _ _ (by assumption) (by assumption) (by assumption)⟩, I, I⟩, ?_⟩
  refine g 1 3 [] ?_
  conv => whnf
  refine ⟨⟨I, I, I⟩, ?_⟩
  refine W.ret ?_
  refine EndsW.rt ?_
  conv => whnf
  refine ⟨⟨I, I, I⟩, ?_, rfl⟩
  rfl
end Go.K

end

section
set_option linter.unusedVariables false
set_option linter.unusedSimpArgs false
set_option maxHeartbeats 4000000
set_option maxRecDepth 20000
open Go Go.Tm Go.Proofs
namespace Go.K
theorem planC_le {p : Plan} (h : planSz p ≤ 1048576) : p.tasks.length ≤ 1048576 ∧ planTopC p ≤ 4194304 := by
  have hn := sum_nn taskSz_nn p.tasks
  have e : planSz p = p.tasks.length + sumI taskSz p.tasks := rfl
  refine ⟨by omega, ?_⟩
  have : ∀ xs : List Task, sumI taskC xs ≤ 2 * xs.length + sumI taskSz xs := by
    intro xs
    induction xs with
    | nil => simp [sumI]
    | cons x xs ih =>
      have := taskC_eq x
      have e : taskSz x = x.name.size + x.deps.length := rfl
      simp only [sumI, List.length_cons]; omega
  have := this p.tasks
  unfold planTopC; omega
end Go.K

end

section
set_option linter.unusedVariables false
set_option linter.unusedSimpArgs false
set_option maxHeartbeats 4000000
set_option maxRecDepth 20000
open Go Go.Tm Go.Proofs
namespace Go.K
def takesOffer (w : Worker) (ts : List Task) (m : Message) : Prop := m.kind = 1 ∧ (∃ t, ts[m.task.toNat]? = some t ∧ m.inputs.length = t.deps.length) ∧ (w.state = 0 ∨ w.lease < m.lease)
def takesThanks (w : Worker) (m : Message) : Prop := m.kind = 4 ∧ w.state = 2 ∧ w.lease = m.lease
def forMe (w : Worker) (m : Message) : Prop := w.up = true ∧ msgOk m ∧ m.to = w.number
def costOf (ts : List Task) (k : Int) : Int := ((ts[k.toNat]?).map Task.cost).getD 0
open Classical in
noncomputable def takeW (w : Worker) (ts : List Task) (m : Message) : Worker :=
  if forMe w m then
    if takesOffer w ts m then ⟨w.number, w.epoch, true, 1, m.lease, m.task, costOf ts m.task, costOf ts m.task, m.inputs, emp, 0⟩
    else if takesThanks w m then ⟨w.number, w.epoch, w.up, 0, 0, 0, 0, 0, [], emp, 3⟩ else w
  else w
abbrev workerH (x : Worker) : V := .agg [.t (.i x.number), .t (.i x.epoch), .t (.b x.up), .t (.i x.state), .t (.i x.lease), .t (.i x.task), .t (.i x.cost), .t (.i x.left), .t .hole, .t (.s x.text), .t (.i x.since)]
theorem c_spec_l3Free_h (w : Worker) (s : Int) : F n_spec_l3Free [.val (workerH w), .val (.i s)] (workerO ⟨w.number, w.epoch, w.up, 0, 0, 0, 0, 0, [], emp, s⟩) [[], []] := by
  refine i_spec_l3Free ?_
  conv => whnf
  refine g 0 0 [] ?_
  conv => whnf
  refine ⟨⟨⟨I, I, I, I, I, I, I, I, I, I, I, I⟩, I, I⟩, ?_⟩
  refine g 5 13 [] ?_
  conv => whnf
  refine ⟨⟨I, I, I, I, I, I, I, I, ⟨I, I, I, I, I, I, I, I, I, I, I, I⟩, I⟩, ?_⟩
  refine W.ret ?_
  refine EndsW.rt ?_
  conv => whnf
  refine ⟨⟨I, I, I, I, I, I, I, I, I, I, I, I, I⟩, ?_, rfl⟩
  rfl
theorem take_no {w : Worker} {ts : List Task} {m : Message} (h : ¬ forMe w m) : takeW w ts m = w := if_neg h
theorem take_offer {w : Worker} {ts : List Task} {m : Message} (h : forMe w m) (h1 : takesOffer w ts m) : takeW w ts m = ⟨w.number, w.epoch, true, 1, m.lease, m.task, costOf ts m.task, costOf ts m.task, m.inputs, emp, 0⟩ := by rw [takeW, if_pos h, if_pos h1]
theorem take_offer2 {w : Worker} {ts : List Task} {m : Message} (h : forMe w m) (h1 : takesOffer w ts m) : takeW w ts m = ⟨w.number, w.epoch, w.up, 1, m.lease, m.task, costOf ts m.task, costOf ts m.task, m.inputs, emp, 0⟩ := by rw [take_offer h h1, h.1]
theorem take_thanks {w : Worker} {ts : List Task} {m : Message} (h : forMe w m) (h1 : takesThanks w m) : takeW w ts m = ⟨w.number, w.epoch, w.up, 0, 0, 0, 0, 0, [], emp, 3⟩ := by
  rw [takeW, if_pos h, if_neg (fun q => by have := q.1; have := h1.1; omega), if_pos h1]
theorem take_same {w : Worker} {ts : List Task} {m : Message} (h1 : ¬ takesOffer w ts m) (h2 : ¬ takesThanks w m) : takeW w ts m = w := by
  by_cases h : forMe w m
  · rw [takeW, if_pos h, if_neg h1, if_neg h2]
  · exact take_no h
theorem cost_in {ts : List Task} {k : Int} {t : Task} (h : ts[k.toNat]? = some t) : costOf ts k = t.cost := by unfold costOf; rw [h]; rfl
noncomputable def wTake (w : Worker) (p : Plan) (m : Message) : Acted := if workerOk w ∧ checkPlan p.tasks = 0 then ⟨takeW w p.tasks m, []⟩ else noActed
theorem wtake_no {w : Worker} {p : Plan} {m : Message} (h : ¬ (workerOk w ∧ checkPlan p.tasks = 0)) : wTake w p m = noActed := if_neg h
theorem wtake_ok {w : Worker} {p : Plan} {m : Message} (h : workerOk w) (h2 : checkPlan p.tasks = 0) : wTake w p m = ⟨takeW w p.tasks m, []⟩ := if_pos ⟨h, h2⟩
theorem c_impl_Worker_take (w : Worker) (p : Plan) (m : Message) (h : workerOk w) (hc : checkPlan p.tasks = 0) (hm : m.inputs.length ≤ 9223372036854775806) : F n_impl_Worker_take [.val (workerO w), .val (planR p), .val (messageR m)] (workerO (takeW w p.tasks m)) [[], [], []] := by
  have cm := c_impl_Message_valid m hm
  by_cases hup : w.up = true
  · by_cases hok : msgOk m
    · rw [decide_eq_true hok] at cm
      have hi := (ok_inputs hok).1
      obtain ⟨_, _, _, _, ⟨r1, r2⟩, ⟨r3, r4⟩⟩ := ok_ranges hok
      by_cases hto : m.to = w.number
      · have hf : forMe w m := ⟨hup, hok, hto⟩
        by_cases hk : m.kind = 1
        · have nt : ¬ takesThanks w m := fun q => by have := q.1; omega
          by_cases ht : m.task < p.tasks.length
          · obtain ⟨t, ht2⟩ := some_at (xs := p.tasks) (n := m.task.toNat) (by omega)
            obtain ⟨_, _, g3, _⟩ := chk_task hc ht2
            by_cases hd : m.inputs.length = t.deps.length
            · by_cases hs : w.state = 0
              · have ho : takesOffer w p.tasks m := ⟨hk, ⟨t, ht2, hd⟩, .inl hs⟩
                refine i_impl_Worker_take ?_
                conv => whnf
                refine g 0 0 [] ?_
                conv => whnf
                refine ⟨⟨⟨I, I, I, I, I, I, I, I, I, I, I, I⟩, ⟨I, I⟩, ⟨I, I, I, I, I, I, I, I, I⟩, I, I⟩, ?_⟩
                refine W.sq ?_
                refine g 9 22 [.b (false), .b (false), .call (V.b true) ([[]]), .b (false), .b (false), .b (false), .b (false), .b (false), .b (false), .b (false), .b (false)] ?_
                conv => whnf
                refine ⟨⟨I, I, I, I, ⟨nbF (by assumption), I⟩, ⟨nbF (by assumption), ⟨I, I⟩, I, ⟨⟨I, I, I, I, I, I, I, I, I⟩, I⟩, ⟨I, I⟩, (by assumption)⟩, ⟨nbF (by assumption), I⟩, nbF (by assumption), I, ⟨rfl, I⟩, ⟨rfl, I⟩, ⟨rfl, I⟩, ⟨rfl, I⟩, ⟨rfl, I⟩, rfl, I⟩, ?_⟩
                refine W.cn ?_
                conv => whnf
                refine ⟨noT (notF (by omega)), fun _ => ?_⟩
                refine W.skip ?_
                refine W.sq ?_
                refine g 22 25 [] ?_
                conv => whnf
                refine ⟨⟨I, I, I⟩, ?_⟩
                refine W.blk ?_
                refine g 27 28 [] ?_
                conv => whnf
                refine ⟨⟨I, I, I⟩, ?_⟩
                refine W.cn ?_
                conv => whnf
                refine ⟨fun _ => ?_, noF (decide_eq_true (by omega))⟩
                refine W.sq ?_
                refine gd 25 47 [[], [], [], [], [], [], [], [.b (false)], [.b (false)], [.b (false)], [.b (false)], [.b (false)], [.b (false)], [.b (false)], [.b (false), .x (taskT t)], [.b (false)], [.b (false)], [.b (false)], [.b (false)], [.b (false)]] ?_
                conv => whnf
                refine ⟨⟨I, I, I, I, I, I, I, ⟨(by simp [*]), I⟩, ⟨(by simp [*]), I⟩, ⟨(by simp [*]), I⟩, ⟨(by simp [*]), I⟩, ⟨(by simp [*]), I⟩, ⟨(by simp [*]), I⟩, ⟨(by simp [*]), I⟩, ⟨(by simp [*]), (by assumption), ixl (by assumption)⟩, ⟨(by simp [*]), I⟩, ⟨(by simp [*]), I⟩, ⟨(by simp [*]), I⟩, ⟨(by simp [*]), I⟩, (by simp [*]), I⟩, by kernel_rfl, ?_⟩
                refine W.cn ?_
                conv => whnf
                refine ⟨noT (by simp [*]), fun _ => ?_⟩
                refine W.skip ?_
                refine g 47 58 [.b (true), .b (true), .b (true), .b (true), .b (true), .b (true)] ?_
                conv => whnf
                refine ⟨⟨I, I, I, I, decide_eq_true (by omega), decide_eq_true (by omega), decide_eq_true (by omega), decide_eq_true (by omega), decide_eq_true (by omega), decide_eq_true (by omega), I⟩, ?_⟩
                refine W.cn ?_
                conv => whnf
                refine ⟨fun _ => ?_, noF (rfl)⟩
                refine g 58 66 [.x (taskT t)] ?_
                conv => whnf
                refine ⟨⟨I, I, I, I, ⟨(by assumption), ixl (by assumption)⟩, I, I, I, I⟩, ?_⟩
                refine gd 7 80 [[], [], [], [], [], [], [], [], [], [], [], [], [.call (V.own [false] (List.map strT (Message.inputs m))) ([[]])], [], []] ?_
                conv => whnf
                refine ⟨⟨I, I, I, I, I, I, I, I, I, I, I, I, ⟨⟨I, I⟩, I, ⟨⟨I, I⟩, I⟩, ⟨I, I⟩, Go.K.c_impl_clone _ (by omega)⟩, I, ⟨I, I, I, I, I, I, I, I, I, I, I, I⟩, I⟩, by kernel_rfl, ?_⟩
                refine W.ret ?_
                refine EndsW.rt ?_
                conv => whnf
                refine ⟨⟨I, I, I, I, I, I, I, I, I, I, I, I, I⟩, ?_, rfl⟩
                rw [take_offer hf ho, cost_in ht2]
                all_goals rfl
              · by_cases hl : w.lease < m.lease
                · have ho : takesOffer w p.tasks m := ⟨hk, ⟨t, ht2, hd⟩, .inr hl⟩
                  refine i_impl_Worker_take ?_
                  conv => whnf
                  refine g 0 0 [] ?_
                  conv => whnf
                  refine ⟨⟨⟨I, I, I, I, I, I, I, I, I, I, I, I⟩, ⟨I, I⟩, ⟨I, I, I, I, I, I, I, I, I⟩, I, I⟩, ?_⟩
                  refine W.sq ?_
                  refine g 9 22 [.b (false), .b (false), .call (V.b true) ([[]]), .b (false), .b (false), .b (false), .b (false), .b (false), .b (false), .b (false), .b (false)] ?_
                  conv => whnf
                  refine ⟨⟨I, I, I, I, ⟨nbF (by assumption), I⟩, ⟨nbF (by assumption), ⟨I, I⟩, I, ⟨⟨I, I, I, I, I, I, I, I, I⟩, I⟩, ⟨I, I⟩, (by assumption)⟩, ⟨nbF (by assumption), I⟩, nbF (by assumption), I, ⟨rfl, I⟩, ⟨rfl, I⟩, ⟨rfl, I⟩, ⟨rfl, I⟩, ⟨rfl, I⟩, rfl, I⟩, ?_⟩
                  refine W.cn ?_
                  conv => whnf
                  refine ⟨noT (notF (by omega)), fun _ => ?_⟩
                  refine W.skip ?_
                  refine W.sq ?_
                  refine g 22 25 [] ?_
                  conv => whnf
                  refine ⟨⟨I, I, I⟩, ?_⟩
                  refine W.blk ?_
                  refine g 27 28 [] ?_
                  conv => whnf
                  refine ⟨⟨I, I, I⟩, ?_⟩
                  refine W.cn ?_
                  conv => whnf
                  refine ⟨fun _ => ?_, noF (decide_eq_true (by omega))⟩
                  refine W.sq ?_
                  refine gd 25 47 [[], [], [], [], [], [], [], [.b (false)], [.b (false)], [.b (false)], [.b (false)], [.b (false)], [.b (false)], [.b (false)], [.b (false), .x (taskT t)], [.b (false)], [.b (false)], [.b (false)], [.b (false)], [.b (false)]] ?_
                  conv => whnf
                  refine ⟨⟨I, I, I, I, I, I, I, ⟨(by simp [*]), I⟩, ⟨(by simp [*]), I⟩, ⟨(by simp [*]), I⟩, ⟨(by simp [*]), I⟩, ⟨(by simp [*]), I⟩, ⟨(by simp [*]), I⟩, ⟨(by simp [*]), I⟩, ⟨(by simp [*]), (by assumption), ixl (by assumption)⟩, ⟨(by simp [*]), I⟩, ⟨(by simp [*]), I⟩, ⟨(by simp [*]), I⟩, ⟨(by simp [*]), I⟩, (by simp [*]), I⟩, by kernel_rfl, ?_⟩
                  refine W.cn ?_
                  conv => whnf
                  refine ⟨noT (by simp [*]), fun _ => ?_⟩
                  refine W.skip ?_
                  refine g 47 58 [.b (false), .b (false), .b (false), .b (false), .b (false), .b (false)] ?_
                  conv => whnf
                  refine ⟨⟨I, I, I, I, ⟨decide_eq_false (by omega), I⟩, ⟨decide_eq_false (by omega), I⟩, ⟨decide_eq_false (by omega), I⟩, ⟨decide_eq_false (by omega), I⟩, ⟨decide_eq_false (by omega), I⟩, decide_eq_false (by omega), I⟩, ?_⟩
                  refine W.cn ?_
                  conv => whnf
                  refine ⟨fun _ => ?_, noF (decide_eq_true (by omega))⟩
                  refine g 58 66 [.x (taskT t)] ?_
                  conv => whnf
                  refine ⟨⟨I, I, I, I, ⟨(by assumption), ixl (by assumption)⟩, I, I, I, I⟩, ?_⟩
                  refine gd 7 80 [[], [], [], [], [], [], [], [], [], [], [], [], [.call (V.own [false] (List.map strT (Message.inputs m))) ([[]])], [], []] ?_
                  conv => whnf
                  refine ⟨⟨I, I, I, I, I, I, I, I, I, I, I, I, ⟨⟨I, I⟩, I, ⟨⟨I, I⟩, I⟩, ⟨I, I⟩, Go.K.c_impl_clone _ (by omega)⟩, I, ⟨I, I, I, I, I, I, I, I, I, I, I, I⟩, I⟩, by kernel_rfl, ?_⟩
                  refine W.ret ?_
                  refine EndsW.rt ?_
                  conv => whnf
                  refine ⟨⟨I, I, I, I, I, I, I, I, I, I, I, I, I⟩, ?_, rfl⟩
                  rw [take_offer hf ho, cost_in ht2]
                  all_goals rfl
                · have no : ¬ takesOffer w p.tasks m := fun q => by have := q.2.2; omega
                  refine i_impl_Worker_take ?_
                  conv => whnf
                  refine g 0 0 [] ?_
                  conv => whnf
                  refine ⟨⟨⟨I, I, I, I, I, I, I, I, I, I, I, I⟩, ⟨I, I⟩, ⟨I, I, I, I, I, I, I, I, I⟩, I, I⟩, ?_⟩
                  refine W.sq ?_
                  refine g 9 22 [.b (false), .b (false), .call (V.b true) ([[]]), .b (false), .b (false), .b (false), .b (false), .b (false), .b (false), .b (false), .b (false)] ?_
                  conv => whnf
                  refine ⟨⟨I, I, I, I, ⟨nbF (by assumption), I⟩, ⟨nbF (by assumption), ⟨I, I⟩, I, ⟨⟨I, I, I, I, I, I, I, I, I⟩, I⟩, ⟨I, I⟩, (by assumption)⟩, ⟨nbF (by assumption), I⟩, nbF (by assumption), I, ⟨rfl, I⟩, ⟨rfl, I⟩, ⟨rfl, I⟩, ⟨rfl, I⟩, ⟨rfl, I⟩, rfl, I⟩, ?_⟩
                  refine W.cn ?_
                  conv => whnf
                  refine ⟨noT (notF (by omega)), fun _ => ?_⟩
                  refine W.skip ?_
                  refine W.sq ?_
                  refine g 22 25 [] ?_
                  conv => whnf
                  refine ⟨⟨I, I, I⟩, ?_⟩
                  refine W.blk ?_
                  refine g 27 28 [] ?_
                  conv => whnf
                  refine ⟨⟨I, I, I⟩, ?_⟩
                  refine W.cn ?_
                  conv => whnf
                  refine ⟨fun _ => ?_, noF (decide_eq_true (by omega))⟩
                  refine W.sq ?_
                  refine gd 25 47 [[], [], [], [], [], [], [], [.b (false)], [.b (false)], [.b (false)], [.b (false)], [.b (false)], [.b (false)], [.b (false)], [.b (false), .x (taskT t)], [.b (false)], [.b (false)], [.b (false)], [.b (false)], [.b (false)]] ?_
                  conv => whnf
                  refine ⟨⟨I, I, I, I, I, I, I, ⟨(by simp [*]), I⟩, ⟨(by simp [*]), I⟩, ⟨(by simp [*]), I⟩, ⟨(by simp [*]), I⟩, ⟨(by simp [*]), I⟩, ⟨(by simp [*]), I⟩, ⟨(by simp [*]), I⟩, ⟨(by simp [*]), (by assumption), ixl (by assumption)⟩, ⟨(by simp [*]), I⟩, ⟨(by simp [*]), I⟩, ⟨(by simp [*]), I⟩, ⟨(by simp [*]), I⟩, (by simp [*]), I⟩, by kernel_rfl, ?_⟩
                  refine W.cn ?_
                  conv => whnf
                  refine ⟨noT (by simp [*]), fun _ => ?_⟩
                  refine W.skip ?_
                  refine g 47 58 [.b (false), .b (false), .b (false), .b (false), .b (false), .b (false)] ?_
                  conv => whnf
                  refine ⟨⟨I, I, I, I, ⟨decide_eq_false (by omega), I⟩, ⟨decide_eq_false (by omega), I⟩, ⟨decide_eq_false (by omega), I⟩, ⟨decide_eq_false (by omega), I⟩, ⟨decide_eq_false (by omega), I⟩, decide_eq_false (by omega), I⟩, ?_⟩
                  refine W.cn ?_
                  conv => whnf
                  refine ⟨noT (decide_eq_false (by omega)), fun _ => ?_⟩
                  refine W.skip ?_
                  refine g 0 6 [] ?_
                  conv => whnf
                  refine ⟨⟨I, ⟨I, I, I, I, I, I, I, I, I, I, I, I⟩, I⟩, ?_⟩
                  refine W.ret ?_
                  refine EndsW.rt ?_
                  conv => whnf
                  refine ⟨⟨I, I, I, I, I, I, I, I, I, I, I, I, I⟩, ?_, rfl⟩
                  rw [take_same no nt]; all_goals rfl
            · have no : ¬ takesOffer w p.tasks m := fun q => by obtain ⟨t2, h2, h3⟩ := q.2.1; rw [ht2] at h2; cases h2; exact hd h3
              refine i_impl_Worker_take ?_
              conv => whnf
              refine g 0 0 [] ?_
              conv => whnf
              refine ⟨⟨⟨I, I, I, I, I, I, I, I, I, I, I, I⟩, ⟨I, I⟩, ⟨I, I, I, I, I, I, I, I, I⟩, I, I⟩, ?_⟩
              refine W.sq ?_
              refine g 9 22 [.b (false), .b (false), .call (V.b true) ([[]]), .b (false), .b (false), .b (false), .b (false), .b (false), .b (false), .b (false), .b (false)] ?_
              conv => whnf
              refine ⟨⟨I, I, I, I, ⟨nbF (by assumption), I⟩, ⟨nbF (by assumption), ⟨I, I⟩, I, ⟨⟨I, I, I, I, I, I, I, I, I⟩, I⟩, ⟨I, I⟩, (by assumption)⟩, ⟨nbF (by assumption), I⟩, nbF (by assumption), I, ⟨rfl, I⟩, ⟨rfl, I⟩, ⟨rfl, I⟩, ⟨rfl, I⟩, ⟨rfl, I⟩, rfl, I⟩, ?_⟩
              refine W.cn ?_
              conv => whnf
              refine ⟨noT (notF (by omega)), fun _ => ?_⟩
              refine W.skip ?_
              refine W.sq ?_
              refine g 22 25 [] ?_
              conv => whnf
              refine ⟨⟨I, I, I⟩, ?_⟩
              refine W.blk ?_
              refine g 27 28 [] ?_
              conv => whnf
              refine ⟨⟨I, I, I⟩, ?_⟩
              refine W.cn ?_
              conv => whnf
              refine ⟨fun _ => ?_, noF (decide_eq_true (by omega))⟩
              refine W.sq ?_
              refine gd 25 47 [[], [], [], [], [], [], [], [.b (false)], [.b (false)], [.b (false)], [.b (false)], [.b (false)], [.b (false)], [.b (false)], [.b (false), .x (taskT t)], [.b (false)], [.b (false)], [.b (false)], [.b (false)], [.b (false)]] ?_
              conv => whnf
              refine ⟨⟨I, I, I, I, I, I, I, ⟨(by simp [*]), I⟩, ⟨(by simp [*]), I⟩, ⟨(by simp [*]), I⟩, ⟨(by simp [*]), I⟩, ⟨(by simp [*]), I⟩, ⟨(by simp [*]), I⟩, ⟨(by simp [*]), I⟩, ⟨(by simp [*]), (by assumption), ixl (by assumption)⟩, ⟨(by simp [*]), I⟩, ⟨(by simp [*]), I⟩, ⟨(by simp [*]), I⟩, ⟨(by simp [*]), I⟩, (by simp [*]), I⟩, by kernel_rfl, ?_⟩
              refine W.cn ?_
              conv => whnf
              refine ⟨fun h1 => ?_, fun h1 => ?_⟩
              replace h1 := ndt h1
              simp only [List.length_map] at h1
              refine g 47 49 [] ?_
              conv => whnf
              refine ⟨⟨I, ⟨I, I, I, I, I, I, I, I, I, I, I, I⟩, I⟩, ?_⟩
              refine W.ret ?_
              refine EndsW.rt ?_
              conv => whnf
              refine ⟨⟨I, I, I, I, I, I, I, I, I, I, I, I, I⟩, ?_, rfl⟩
              rotate_left 1
              replace h1 := ndf h1
              simp only [List.length_map] at h1
              omega
              rw [take_same no nt]; all_goals rfl
          · have no : ¬ takesOffer w p.tasks m := fun q => by obtain ⟨t2, h2, h3⟩ := q.2.1; have := (List.getElem?_eq_some_iff.1 h2).1; omega
            refine i_impl_Worker_take ?_
            conv => whnf
            refine g 0 0 [] ?_
            conv => whnf
            refine ⟨⟨⟨I, I, I, I, I, I, I, I, I, I, I, I⟩, ⟨I, I⟩, ⟨I, I, I, I, I, I, I, I, I⟩, I, I⟩, ?_⟩
            refine W.sq ?_
            refine g 9 22 [.b (false), .b (false), .call (V.b true) ([[]]), .b (false), .b (false), .b (false), .b (false), .b (false), .b (false), .b (false), .b (false)] ?_
            conv => whnf
            refine ⟨⟨I, I, I, I, ⟨nbF (by assumption), I⟩, ⟨nbF (by assumption), ⟨I, I⟩, I, ⟨⟨I, I, I, I, I, I, I, I, I⟩, I⟩, ⟨I, I⟩, (by assumption)⟩, ⟨nbF (by assumption), I⟩, nbF (by assumption), I, ⟨rfl, I⟩, ⟨rfl, I⟩, ⟨rfl, I⟩, ⟨rfl, I⟩, ⟨rfl, I⟩, rfl, I⟩, ?_⟩
            refine W.cn ?_
            conv => whnf
            refine ⟨noT (notF (by omega)), fun _ => ?_⟩
            refine W.skip ?_
            refine W.sq ?_
            refine g 22 25 [] ?_
            conv => whnf
            refine ⟨⟨I, I, I⟩, ?_⟩
            refine W.blk ?_
            refine g 27 28 [] ?_
            conv => whnf
            refine ⟨⟨I, I, I⟩, ?_⟩
            refine W.cn ?_
            conv => whnf
            refine ⟨fun _ => ?_, noF (decide_eq_true (by omega))⟩
            refine W.sq ?_
            refine gd 25 47 [[], [], [], [], [], [], [], [.b (true)], [.b (true)], [.b (true)], [.b (true)], [.b (true)], [.b (true)], [.b (true)], [.b (true)], [.b (true)], [.b (true)], [.b (true)], [.b (true)], [.b (true)]] ?_
            conv => whnf
            refine ⟨⟨I, I, I, I, I, I, I, (by simp_all), (by simp_all), (by simp_all), (by simp_all), (by simp_all), (by simp_all), (by simp_all), (by simp_all), (by simp_all), (by simp_all), (by simp_all), (by simp_all), (by simp_all), I⟩, by kernel_rfl, ?_⟩
            refine W.cn ?_
            conv => whnf
            refine ⟨fun _ => ?_, noF (rfl)⟩
            refine g 47 49 [] ?_
            conv => whnf
            refine ⟨⟨I, ⟨I, I, I, I, I, I, I, I, I, I, I, I⟩, I⟩, ?_⟩
            refine W.ret ?_
            refine EndsW.rt ?_
            conv => whnf
            refine ⟨⟨I, I, I, I, I, I, I, I, I, I, I, I, I⟩, ?_, rfl⟩
            rw [take_same no nt]; all_goals rfl
        · have no : ¬ takesOffer w p.tasks m := fun q => hk q.1
          by_cases hk4 : m.kind = 4
          · by_cases hs : w.state = 2
            · by_cases hl : w.lease = m.lease
              · have yt : takesThanks w m := ⟨hk4, hs, hl⟩
                refine i_impl_Worker_take ?_
                conv => whnf
                refine g 0 0 [] ?_
                conv => whnf
                refine ⟨⟨⟨I, I, I, I, I, I, I, I, I, I, I, I⟩, ⟨I, I⟩, ⟨I, I, I, I, I, I, I, I, I⟩, I, I⟩, ?_⟩
                refine W.sq ?_
                refine g 9 22 [.b (false), .b (false), .call (V.b true) ([[]]), .b (false), .b (false), .b (false), .b (false), .b (false), .b (false), .b (false), .b (false)] ?_
                conv => whnf
                refine ⟨⟨I, I, I, I, ⟨nbF (by assumption), I⟩, ⟨nbF (by assumption), ⟨I, I⟩, I, ⟨⟨I, I, I, I, I, I, I, I, I⟩, I⟩, ⟨I, I⟩, (by assumption)⟩, ⟨nbF (by assumption), I⟩, nbF (by assumption), I, ⟨rfl, I⟩, ⟨rfl, I⟩, ⟨rfl, I⟩, ⟨rfl, I⟩, ⟨rfl, I⟩, rfl, I⟩, ?_⟩
                refine W.cn ?_
                conv => whnf
                refine ⟨noT (notF (by omega)), fun _ => ?_⟩
                refine W.skip ?_
                refine W.sq ?_
                refine g 22 25 [] ?_
                conv => whnf
                refine ⟨⟨I, I, I⟩, ?_⟩
                refine W.blk ?_
                refine g 27 28 [] ?_
                conv => whnf
                refine ⟨⟨I, I, I⟩, ?_⟩
                refine W.cn ?_
                conv => whnf
                refine ⟨noT (decide_eq_false (by omega)), fun _ => ?_⟩
                refine g 0 3 [] ?_
                conv => whnf
                refine ⟨⟨I, I, I⟩, ?_⟩
                refine W.cn ?_
                conv => whnf
                refine ⟨fun _ => ?_, noF (decide_eq_true (by omega))⟩
                refine g 8 91 [.b (true), .b (true), .b (true), .b (true), .b (true), .b (true)] ?_
                conv => whnf
                refine ⟨⟨I, I, I, I, ⟨decide_eq_true (by omega), I⟩, ⟨decide_eq_true (by omega), I⟩, ⟨decide_eq_true (by omega), I⟩, ⟨decide_eq_true (by omega), I⟩, ⟨decide_eq_true (by omega), I⟩, decide_eq_true (by omega), I⟩, ?_⟩
                refine W.cn ?_
                conv => whnf
                refine ⟨fun _ => ?_, noF (decide_eq_true (by omega))⟩
                refine g 4 6 [.call (workerO { number := Worker.number w, epoch := Worker.epoch w, up := Worker.up w, state := (0 : Int), lease := (0 : Int), task := (0 : Int), cost := (0 : Int), left := (0 : Int), inputs := [], text := emp, since := (3 : Int) : Worker }) ([[], []])] ?_
                conv => whnf
                refine ⟨⟨I, ⟨⟨I, I, I⟩, I, ⟨⟨I, I, I, I, I, I, I, I, I, I, I, I⟩, ⟨I, I⟩, I⟩, ⟨I, I⟩, Go.K.c_impl_Worker_freed _ _⟩, ⟨I, I, I, I, I, I, I, I, I, I, I, I⟩, I⟩, ?_⟩
                refine W.ret ?_
                refine EndsW.rt ?_
                conv => whnf
                refine ⟨⟨I, I, I, I, I, I, I, I, I, I, I, I, I⟩, ?_, rfl⟩
                rw [take_thanks hf yt]
                all_goals rfl
              · have nt : ¬ takesThanks w m := fun q => hl q.2.2
                refine i_impl_Worker_take ?_
                conv => whnf
                refine g 0 0 [] ?_
                conv => whnf
                refine ⟨⟨⟨I, I, I, I, I, I, I, I, I, I, I, I⟩, ⟨I, I⟩, ⟨I, I, I, I, I, I, I, I, I⟩, I, I⟩, ?_⟩
                refine W.sq ?_
                refine g 9 22 [.b (false), .b (false), .call (V.b true) ([[]]), .b (false), .b (false), .b (false), .b (false), .b (false), .b (false), .b (false), .b (false)] ?_
                conv => whnf
                refine ⟨⟨I, I, I, I, ⟨nbF (by assumption), I⟩, ⟨nbF (by assumption), ⟨I, I⟩, I, ⟨⟨I, I, I, I, I, I, I, I, I⟩, I⟩, ⟨I, I⟩, (by assumption)⟩, ⟨nbF (by assumption), I⟩, nbF (by assumption), I, ⟨rfl, I⟩, ⟨rfl, I⟩, ⟨rfl, I⟩, ⟨rfl, I⟩, ⟨rfl, I⟩, rfl, I⟩, ?_⟩
                refine W.cn ?_
                conv => whnf
                refine ⟨noT (notF (by omega)), fun _ => ?_⟩
                refine W.skip ?_
                refine W.sq ?_
                refine g 22 25 [] ?_
                conv => whnf
                refine ⟨⟨I, I, I⟩, ?_⟩
                refine W.blk ?_
                refine g 27 28 [] ?_
                conv => whnf
                refine ⟨⟨I, I, I⟩, ?_⟩
                refine W.cn ?_
                conv => whnf
                refine ⟨noT (decide_eq_false (by omega)), fun _ => ?_⟩
                refine g 0 3 [] ?_
                conv => whnf
                refine ⟨⟨I, I, I⟩, ?_⟩
                refine W.cn ?_
                conv => whnf
                refine ⟨fun _ => ?_, noF (decide_eq_true (by omega))⟩
                refine g 8 91 [.b (true), .b (true), .b (true), .b (true), .b (true), .b (true)] ?_
                conv => whnf
                refine ⟨⟨I, I, I, I, ⟨decide_eq_true (by omega), I⟩, ⟨decide_eq_true (by omega), I⟩, ⟨decide_eq_true (by omega), I⟩, ⟨decide_eq_true (by omega), I⟩, ⟨decide_eq_true (by omega), I⟩, decide_eq_true (by omega), I⟩, ?_⟩
                refine W.cn ?_
                conv => whnf
                refine ⟨noT (decide_eq_false (by omega)), fun _ => ?_⟩
                refine W.skip ?_
                refine g 3 6 [] ?_
                conv => whnf
                refine ⟨⟨I, ⟨I, I, I, I, I, I, I, I, I, I, I, I⟩, I⟩, ?_⟩
                refine W.ret ?_
                refine EndsW.rt ?_
                conv => whnf
                refine ⟨⟨I, I, I, I, I, I, I, I, I, I, I, I, I⟩, ?_, rfl⟩
                rw [take_same no nt]; all_goals rfl
            · have nt : ¬ takesThanks w m := fun q => hs q.2.1
              refine i_impl_Worker_take ?_
              conv => whnf
              refine g 0 0 [] ?_
              conv => whnf
              refine ⟨⟨⟨I, I, I, I, I, I, I, I, I, I, I, I⟩, ⟨I, I⟩, ⟨I, I, I, I, I, I, I, I, I⟩, I, I⟩, ?_⟩
              refine W.sq ?_
              refine g 9 22 [.b (false), .b (false), .call (V.b true) ([[]]), .b (false), .b (false), .b (false), .b (false), .b (false), .b (false), .b (false), .b (false)] ?_
              conv => whnf
              refine ⟨⟨I, I, I, I, ⟨nbF (by assumption), I⟩, ⟨nbF (by assumption), ⟨I, I⟩, I, ⟨⟨I, I, I, I, I, I, I, I, I⟩, I⟩, ⟨I, I⟩, (by assumption)⟩, ⟨nbF (by assumption), I⟩, nbF (by assumption), I, ⟨rfl, I⟩, ⟨rfl, I⟩, ⟨rfl, I⟩, ⟨rfl, I⟩, ⟨rfl, I⟩, rfl, I⟩, ?_⟩
              refine W.cn ?_
              conv => whnf
              refine ⟨noT (notF (by omega)), fun _ => ?_⟩
              refine W.skip ?_
              refine W.sq ?_
              refine g 22 25 [] ?_
              conv => whnf
              refine ⟨⟨I, I, I⟩, ?_⟩
              refine W.blk ?_
              refine g 27 28 [] ?_
              conv => whnf
              refine ⟨⟨I, I, I⟩, ?_⟩
              refine W.cn ?_
              conv => whnf
              refine ⟨noT (decide_eq_false (by omega)), fun _ => ?_⟩
              refine g 0 3 [] ?_
              conv => whnf
              refine ⟨⟨I, I, I⟩, ?_⟩
              refine W.cn ?_
              conv => whnf
              refine ⟨fun _ => ?_, noF (decide_eq_true (by omega))⟩
              refine g 8 91 [.b (false), .b (false), .b (false), .b (false), .b (false), .b (false)] ?_
              conv => whnf
              refine ⟨⟨I, I, I, I, decide_eq_false (by omega), decide_eq_false (by omega), decide_eq_false (by omega), decide_eq_false (by omega), decide_eq_false (by omega), decide_eq_false (by omega), I⟩, ?_⟩
              refine W.cn ?_
              conv => whnf
              refine ⟨noT (rfl), fun _ => ?_⟩
              refine W.skip ?_
              refine g 3 6 [] ?_
              conv => whnf
              refine ⟨⟨I, ⟨I, I, I, I, I, I, I, I, I, I, I, I⟩, I⟩, ?_⟩
              refine W.ret ?_
              refine EndsW.rt ?_
              conv => whnf
              refine ⟨⟨I, I, I, I, I, I, I, I, I, I, I, I, I⟩, ?_, rfl⟩
              rw [take_same no nt]; all_goals rfl
          · have nt : ¬ takesThanks w m := fun q => hk4 q.1
            refine i_impl_Worker_take ?_
            conv => whnf
            refine g 0 0 [] ?_
            conv => whnf
            refine ⟨⟨⟨I, I, I, I, I, I, I, I, I, I, I, I⟩, ⟨I, I⟩, ⟨I, I, I, I, I, I, I, I, I⟩, I, I⟩, ?_⟩
            refine W.sq ?_
            refine g 9 22 [.b (false), .b (false), .call (V.b true) ([[]]), .b (false), .b (false), .b (false), .b (false), .b (false), .b (false), .b (false), .b (false)] ?_
            conv => whnf
            refine ⟨⟨I, I, I, I, ⟨nbF (by assumption), I⟩, ⟨nbF (by assumption), ⟨I, I⟩, I, ⟨⟨I, I, I, I, I, I, I, I, I⟩, I⟩, ⟨I, I⟩, (by assumption)⟩, ⟨nbF (by assumption), I⟩, nbF (by assumption), I, ⟨rfl, I⟩, ⟨rfl, I⟩, ⟨rfl, I⟩, ⟨rfl, I⟩, ⟨rfl, I⟩, rfl, I⟩, ?_⟩
            refine W.cn ?_
            conv => whnf
            refine ⟨noT (notF (by omega)), fun _ => ?_⟩
            refine W.skip ?_
            refine W.sq ?_
            refine g 22 25 [] ?_
            conv => whnf
            refine ⟨⟨I, I, I⟩, ?_⟩
            refine W.blk ?_
            refine g 27 28 [] ?_
            conv => whnf
            refine ⟨⟨I, I, I⟩, ?_⟩
            refine W.cn ?_
            conv => whnf
            refine ⟨noT (decide_eq_false (by omega)), fun _ => ?_⟩
            refine g 0 3 [] ?_
            conv => whnf
            refine ⟨⟨I, I, I⟩, ?_⟩
            refine W.cn ?_
            conv => whnf
            refine ⟨noT (decide_eq_false (by omega)), fun _ => ?_⟩
            refine W.skip ?_
            refine g 8 95 [] ?_
            conv => whnf
            refine ⟨⟨I, ⟨I, I, I, I, I, I, I, I, I, I, I, I⟩, I⟩, ?_⟩
            refine W.ret ?_
            refine EndsW.rt ?_
            conv => whnf
            refine ⟨⟨I, I, I, I, I, I, I, I, I, I, I, I, I⟩, ?_, rfl⟩
            rw [take_same no nt]; all_goals rfl
      · have nf : ¬ forMe w m := fun q => hto q.2.2
        refine i_impl_Worker_take ?_
        conv => whnf
        refine g 0 0 [] ?_
        conv => whnf
        refine ⟨⟨⟨I, I, I, I, I, I, I, I, I, I, I, I⟩, ⟨I, I⟩, ⟨I, I, I, I, I, I, I, I, I⟩, I, I⟩, ?_⟩
        refine W.sq ?_
        refine g 9 22 [.b (false), .b (false), .call (V.b true) ([[]]), .b (false), .b (false), .b (false), .b (false), .b (false), .b (false), .b (false), .b (false)] ?_
        conv => whnf
        refine ⟨⟨I, I, I, I, ⟨nbF (by assumption), I⟩, ⟨nbF (by assumption), ⟨I, I⟩, I, ⟨⟨I, I, I, I, I, I, I, I, I⟩, I⟩, ⟨I, I⟩, (by assumption)⟩, ⟨nbF (by assumption), I⟩, nbF (by assumption), I, ⟨rfl, I⟩, ⟨rfl, I⟩, ⟨rfl, I⟩, ⟨rfl, I⟩, ⟨rfl, I⟩, rfl, I⟩, ?_⟩
        refine W.cn ?_
        conv => whnf
        refine ⟨fun _ => ?_, noF (notT (by omega))⟩
        refine g 22 24 [] ?_
        conv => whnf
        refine ⟨⟨I, ⟨I, I, I, I, I, I, I, I, I, I, I, I⟩, I⟩, ?_⟩
        refine W.ret ?_
        refine EndsW.rt ?_
        conv => whnf
        refine ⟨⟨I, I, I, I, I, I, I, I, I, I, I, I, I⟩, ?_, rfl⟩
        rw [take_no nf]; all_goals rfl
    · rw [decide_eq_false hok] at cm
      have nf : ¬ forMe w m := fun q => hok q.2.1
      refine i_impl_Worker_take ?_
      conv => whnf
      refine g 0 0 [] ?_
      conv => whnf
      refine ⟨⟨⟨I, I, I, I, I, I, I, I, I, I, I, I⟩, ⟨I, I⟩, ⟨I, I, I, I, I, I, I, I, I⟩, I, I⟩, ?_⟩
      refine W.sq ?_
      refine g 9 22 [.b (false), .b (false), .call (V.b false) ([[]]), .b (false), .b (false), .b (true), .b (true), .b (true), .b (true), .b (true), .b (true)] ?_
      conv => whnf
      refine ⟨⟨I, I, I, I, ⟨nbF (by assumption), I⟩, ⟨nbF (by assumption), ⟨I, I⟩, I, ⟨⟨I, I, I, I, I, I, I, I, I⟩, I⟩, ⟨I, I⟩, (by assumption)⟩, ⟨nbF (by assumption), I⟩, nbF (by assumption), I, rfl, rfl, rfl, rfl, rfl, rfl, I⟩, ?_⟩
      refine W.cn ?_
      conv => whnf
      refine ⟨fun _ => ?_, noF (rfl)⟩
      refine g 22 24 [] ?_
      conv => whnf
      refine ⟨⟨I, ⟨I, I, I, I, I, I, I, I, I, I, I, I⟩, I⟩, ?_⟩
      refine W.ret ?_
      refine EndsW.rt ?_
      conv => whnf
      refine ⟨⟨I, I, I, I, I, I, I, I, I, I, I, I, I⟩, ?_, rfl⟩
      rw [take_no nf]; all_goals rfl
  · have nf : ¬ forMe w m := fun q => hup q.1
    refine i_impl_Worker_take ?_
    conv => whnf
    refine g 0 0 [] ?_
    conv => whnf
    refine ⟨⟨⟨I, I, I, I, I, I, I, I, I, I, I, I⟩, ⟨I, I⟩, ⟨I, I, I, I, I, I, I, I, I⟩, I, I⟩, ?_⟩
    refine W.sq ?_
    refine g 9 22 [.b (true), .b (true), .b (true), .b (true), .b (true), .b (true), .b (true), .b (true), .b (true), .b (true)] ?_
    conv => whnf
    refine ⟨⟨I, I, I, I, (by simp [*]), (by simp [*]), (by simp [*]), (by simp [*]), I, rfl, rfl, rfl, rfl, rfl, rfl, I⟩, ?_⟩
    refine W.cn ?_
    conv => whnf
    refine ⟨fun _ => ?_, noF (rfl)⟩
    refine g 22 24 [] ?_
    conv => whnf
    refine ⟨⟨I, ⟨I, I, I, I, I, I, I, I, I, I, I, I⟩, I⟩, ?_⟩
    refine W.ret ?_
    refine EndsW.rt ?_
    conv => whnf
    refine ⟨⟨I, I, I, I, I, I, I, I, I, I, I, I, I⟩, ?_, rfl⟩
    rw [take_no nf]; all_goals rfl
theorem c_impl_WorkerTake (w : Worker) (p : Plan) (m : Message) (hp : planWf p) (hll : w.inputs.length ≤ 1048576) (hm : m.inputs.length ≤ 9223372036854775806) : F n_impl_WorkerTake [.val (workerR w), .val (planR p), .val (messageR m)] (actedO (wTake w p m)) [[], [], []] := by
  have cp := c_impl_CheckPlan p hp
  by_cases h : workerOk w
  · by_cases hc : checkPlan p.tasks = 0
    · rw [hc] at cp
      have ct := c_impl_Worker_take w p m h hc hm
      rw [wtake_ok h hc]
      refine i_impl_WorkerTake ?_
      conv => whnf
      refine g 1 3 [] ?_
      conv => whnf
      refine ⟨⟨⟨I, I, I, I, I, I, I, I, I, I, I, I⟩, ⟨I, I⟩, ⟨I, I, I, I, I, I, I, I, I⟩, I, I⟩, ?_⟩
      refine W.sq ?_
      refine g 7 14 [.call (V.b (decide (workerOk w))) ([[]]), .b (false), .b (false), .call (V.i (0 : Int)) ([[]]), .b (false), .b (false)] ?_
      conv => whnf
      refine ⟨⟨I, ⟨⟨I, I⟩, I, ⟨⟨I, I, I, I, I, I, I, I, I, I, I, I⟩, I⟩, ⟨I, I⟩, Go.K.c_impl_ValidWorker _ (by omega)⟩, I, I, ⟨notF (by omega), I⟩, ⟨notF (by omega), ⟨I, I⟩, I, ⟨⟨I, I⟩, I⟩, ⟨I, I⟩, (by assumption)⟩, ⟨notF (by omega), I⟩, notF (by omega), I⟩, ?_⟩
      refine W.cn ?_
      conv => whnf
      refine ⟨noT (rfl), fun _ => ?_⟩
      refine W.skip ?_
      refine gd 14 22 [[], [.call (workerO w) ([[]])], [], [], [.call (workerO (takeW w (Plan.tasks p) m)) ([[], [], []])], [], []] ?_
      conv => whnf
      refine ⟨⟨I, ⟨⟨I, I⟩, I, ⟨⟨I, I, I, I, I, I, I, I, I, I, I, I⟩, I⟩, ⟨I, I⟩, Go.K.c_impl_Worker_twin _ (by omega)⟩, I, I, ⟨⟨⟨I, I, I, I, I, I, I, I, I, I, I, I⟩, I, I, I⟩, I, ⟨I, ⟨I, I⟩, ⟨I, I, I, I, I, I, I, I, I⟩, I⟩, ⟨I, I⟩, (by assumption)⟩, I, ⟨I, I, I, I, I, I, I, I, I, I, I, I, I⟩, I⟩, by kernel_rfl, ?_⟩
      refine W.ret ?_
      refine EndsW.rt ?_
      conv => whnf
      refine ⟨⟨I, I, I, I, I, I, I, I, I, I, I, I, I, I⟩, ?_, rfl⟩
      rfl
    · rw [wtake_no (fun q => hc q.2)]
      refine i_impl_WorkerTake ?_
      conv => whnf
      refine g 1 3 [] ?_
      conv => whnf
      refine ⟨⟨⟨I, I, I, I, I, I, I, I, I, I, I, I⟩, ⟨I, I⟩, ⟨I, I, I, I, I, I, I, I, I⟩, I, I⟩, ?_⟩
      refine W.sq ?_
      refine g 7 14 [.call (V.b (decide (workerOk w))) ([[]]), .b (false), .b (false), .call (V.i (checkPlan (Plan.tasks p))) ([[]]), .b (false), .b (false)] ?_
      conv => whnf
      refine ⟨⟨I, ⟨⟨I, I⟩, I, ⟨⟨I, I, I, I, I, I, I, I, I, I, I, I⟩, I⟩, ⟨I, I⟩, Go.K.c_impl_ValidWorker _ (by omega)⟩, I, I, ⟨notF (by omega), I⟩, ⟨notF (by omega), ⟨I, I⟩, I, ⟨⟨I, I⟩, I⟩, ⟨I, I⟩, (by assumption)⟩, ⟨notF (by omega), I⟩, notF (by omega), I⟩, ?_⟩
      refine W.cn ?_
      conv => whnf
      refine ⟨fun _ => ?_, noF (notT (by omega))⟩
      refine g 14 16 [] ?_
      conv => whnf
      refine ⟨⟨I, ⟨I, I, I, I, I, I, I, I, I, I, I, I, I⟩, I⟩, ?_⟩
      refine W.ret ?_
      refine EndsW.rt ?_
      conv => whnf
      refine ⟨⟨I, I, I, I, I, I, I, I, I, I, I, I, I, I⟩, ?_, rfl⟩
      rfl
  · rw [wtake_no (fun q => h q.1)]
    refine i_impl_WorkerTake ?_
    conv => whnf
    refine g 1 3 [] ?_
    conv => whnf
    refine ⟨⟨⟨I, I, I, I, I, I, I, I, I, I, I, I⟩, ⟨I, I⟩, ⟨I, I, I, I, I, I, I, I, I⟩, I, I⟩, ?_⟩
    refine W.sq ?_
    refine g 7 14 [.call (V.b (decide (workerOk w))) ([[]]), .b (true), .b (true), .b (true), .b (true)] ?_
    conv => whnf
    refine ⟨⟨I, ⟨⟨I, I⟩, I, ⟨⟨I, I, I, I, I, I, I, I, I, I, I, I⟩, I⟩, ⟨I, I⟩, Go.K.c_impl_ValidWorker _ (by omega)⟩, I, I, notT (by omega), notT (by omega), notT (by omega), notT (by omega), I⟩, ?_⟩
    refine W.cn ?_
    conv => whnf
    refine ⟨fun _ => ?_, noF (rfl)⟩
    refine g 14 16 [] ?_
    conv => whnf
    refine ⟨⟨I, ⟨I, I, I, I, I, I, I, I, I, I, I, I, I⟩, I⟩, ?_⟩
    refine W.ret ?_
    refine EndsW.rt ?_
    conv => whnf
    refine ⟨⟨I, I, I, I, I, I, I, I, I, I, I, I, I, I⟩, ?_, rfl⟩
    rfl
theorem c_spec_WorkerTake (w : Worker) (p : Plan) (m : Message) (hp : planWf p) (hll : w.inputs.length ≤ 1048576) (hm : m.inputs.length ≤ 9223372036854775806) : F n_spec_WorkerTake [.val (workerR w), .val (planR p), .val (messageR m)] (actedO (wTake w p m)) [[], [], []] := by
  have cp := c_spec_CheckPlan p hp
  by_cases h : workerOk w
  · by_cases hc : checkPlan p.tasks = 0
    · rw [hc] at cp
      have cm := c_spec_l2Ok m hm
      have cf3 := c_spec_l3Free_h w 3
      have cf0 := c_spec_l3Free_h w 0
      by_cases hup : w.up = true
      · by_cases hok : msgOk m
        · rw [decide_eq_true hok] at cm
          have hi := (ok_inputs hok).1
          obtain ⟨_, _, _, _, ⟨r1, r2⟩, ⟨r3, r4⟩⟩ := ok_ranges hok
          by_cases hto : m.to = w.number
          · have hf : forMe w m := ⟨hup, hok, hto⟩
            by_cases hk : m.kind = 1
            · have nt : ¬ takesThanks w m := fun q => by have := q.1; omega
              by_cases ht : m.task < p.tasks.length
              · obtain ⟨t, ht2⟩ := some_at (xs := p.tasks) (n := m.task.toNat) (by omega)
                obtain ⟨_, _, g3, _⟩ := chk_task hc ht2
                by_cases hd : m.inputs.length = t.deps.length
                · by_cases hs : w.state = 0
                  · have ho : takesOffer w p.tasks m := ⟨hk, ⟨t, ht2, hd⟩, .inl hs⟩
                    refine i_spec_WorkerTake ?_
                    conv => whnf
                    refine g 1 3 [] ?_
                    conv => whnf
                    refine ⟨⟨⟨I, I, I, I, I, I, I, I, I, I, I, I⟩, ⟨I, I⟩, ⟨I, I, I, I, I, I, I, I, I⟩, I, I⟩, ?_⟩
                    refine W.sq ?_
                    refine g 12 17 [.call (V.b (decide (workerOk w))) ([[]]), .b (false), .b (false), .call (V.i (0 : Int)) ([[]]), .b (false), .b (false)] ?_
                    conv => whnf
                    refine ⟨⟨I, ⟨⟨I, I⟩, I, ⟨⟨I, I, I, I, I, I, I, I, I, I, I, I⟩, I⟩, ⟨I, I⟩, Go.K.c_spec_ValidWorker _ (by omega)⟩, I, I, ⟨notF (by omega), I⟩, ⟨notF (by omega), ⟨I, I⟩, I, ⟨⟨I, I⟩, I⟩, ⟨I, I⟩, (by assumption)⟩, ⟨notF (by omega), I⟩, notF (by omega), I⟩, ?_⟩
                    refine W.cn ?_
                    conv => whnf
                    refine ⟨noT (rfl), fun _ => ?_⟩
                    refine W.skip ?_
                    refine g 17 21 [.call (workerO w) ([[]])] ?_
                    conv => whnf
                    refine ⟨⟨I, ⟨⟨I, I⟩, I, ⟨⟨I, I, I, I, I, I, I, I, I, I, I, I⟩, I⟩, ⟨I, I⟩, Go.K.c_spec_l3Copy _ (by omega)⟩, I, ⟨I, I, I, I, I, I, I, I, I, I, I, I⟩, I⟩, ?_⟩
                    refine g 21 23 [] ?_
                    conv => whnf
                    refine ⟨⟨I, I, I, ⟨I, I, I, I, I, I, I, I, I, I, I, I, I⟩, I⟩, ?_⟩
                    refine W.sq ?_
                    refine g 23 37 [.b (false), .b (false), .call (V.b true) ([[]]), .b (false), .b (false), .b (false), .b (false), .b (false), .b (false), .b (false), .b (false)] ?_
                    conv => whnf
                    refine ⟨⟨I, I, I, I, ⟨nbF (by assumption), I⟩, ⟨nbF (by assumption), ⟨I, I⟩, I, ⟨⟨I, I, I, I, I, I, I, I, I⟩, I⟩, ⟨I, I⟩, (by assumption)⟩, ⟨nbF (by assumption), I⟩, nbF (by assumption), I, ⟨rfl, I⟩, ⟨rfl, I⟩, ⟨rfl, I⟩, ⟨rfl, I⟩, ⟨rfl, I⟩, rfl, I⟩, ?_⟩
                    refine W.cn ?_
                    conv => whnf
                    refine ⟨noT (notF (by omega)), fun _ => ?_⟩
                    refine W.skip ?_
                    refine W.sq ?_
                    refine g 37 53 [.b (false), .b (false), .b (false), .b (false), .b (false), .b (false), .b (false), .b (false), .b (false), .b (false)] ?_
                    conv => whnf
                    refine ⟨⟨I, I, I, I, decide_eq_false (by omega), decide_eq_false (by omega), decide_eq_false (by omega), decide_eq_false (by omega), I, rfl, rfl, rfl, rfl, rfl, rfl, I⟩, ?_⟩
                    refine W.cn ?_
                    conv => whnf
                    refine ⟨noT (rfl), fun _ => ?_⟩
                    refine W.skip ?_
                    refine W.sq ?_
                    refine gd 10 81 [[], [], [], [], [.b (false)], [.b (false)], [.b (false)], [.b (false)], [.b (false)], [.b (false)], [.b (false)], [], [.b (false)], [.b (false)], [.b (false)], [.b (false)], [.b (false)], [.b (false)], [.b (false)], [.b (false), .x (taskT t)], [.b (false)], [.b (false)], [.b (false)], [.b (false)], [.b (false)]] ?_
                    conv => whnf
                    refine ⟨⟨I, I, I, I, ⟨notF (by omega), I⟩, ⟨notF (by omega), I⟩, ⟨notF (by omega), I⟩, ⟨notF (by omega), I⟩, ⟨notF (by omega), I⟩, ⟨notF (by omega), I⟩, notF (by omega), I, ⟨(by simp [*]), I⟩, ⟨(by simp [*]), I⟩, ⟨(by simp [*]), I⟩, ⟨(by simp [*]), I⟩, ⟨(by simp [*]), I⟩, ⟨(by simp [*]), I⟩, ⟨(by simp [*]), I⟩, ⟨(by simp [*]), (by assumption), ixl (by assumption)⟩, ⟨(by simp [*]), I⟩, ⟨(by simp [*]), I⟩, ⟨(by simp [*]), I⟩, ⟨(by simp [*]), I⟩, (by simp [*]), I⟩, by kernel_rfl, ?_⟩
                    refine W.cn ?_
                    conv => whnf
                    refine ⟨noT (by simp [*]), fun _ => ?_⟩
                    refine W.skip ?_
                    refine W.sq ?_
                    refine g 81 92 [.b (false), .b (false), .b (false), .b (false), .b (false), .b (false)] ?_
                    conv => whnf
                    refine ⟨⟨I, I, I, I, notF (by omega), notF (by omega), notF (by omega), notF (by omega), notF (by omega), notF (by omega), I⟩, ?_⟩
                    refine W.cn ?_
                    conv => whnf
                    refine ⟨noT (rfl), fun _ => ?_⟩
                    refine W.skip ?_
                    refine g 92 96 [.call (workerO { number := Worker.number w, epoch := Worker.epoch w, up := Worker.up w, state := (0 : Int), lease := (0 : Int), task := (0 : Int), cost := (0 : Int), left := (0 : Int), inputs := [], text := emp, since := (0 : Int) : Worker }) ([[], []])] ?_
                    conv => whnf
                    refine ⟨⟨I, ⟨⟨I, I, I⟩, I, ⟨⟨I, I, I, I, I, I, I, I, I, I, I, I⟩, ⟨I, I⟩, I⟩, ⟨I, I⟩, (by assumption)⟩, I, ⟨I, I, I, I, I, I, I, I, I, I, I, I⟩, I⟩, ?_⟩
                    refine g 7 9 [] ?_
                    conv => whnf
                    refine ⟨⟨I, ⟨I, I⟩, I⟩, ?_⟩
                    refine g 98 100 [] ?_
                    conv => whnf
                    refine ⟨⟨I, I, I, ⟨I, I⟩, I⟩, ?_⟩
                    refine g 100 103 [] ?_
                    conv => whnf
                    refine ⟨⟨I, I, I, ⟨I, I⟩, I⟩, ?_⟩
                    refine g 103 111 [.x (taskT t)] ?_
                    conv => whnf
                    refine ⟨⟨I, I, I, I, ⟨(by assumption), ixl (by assumption)⟩, I, I, I, ⟨I, I⟩, I⟩, ?_⟩
                    refine g 111 114 [] ?_
                    conv => whnf
                    refine ⟨⟨I, I, I, ⟨I, I⟩, I⟩, ?_⟩
                    refine g 114 119 [] ?_
                    conv => whnf
                    refine ⟨⟨I, I, I, ⟨I, I, (by simp only [List.length_map, List.length_append, List.length_set, List.length_replicate, List.length_cons, List.length_nil, List.length_take, List.length_drop, fill_len, fillI_len, List.length_range, bytesT_len]; omega)⟩, I, ⟨I, I⟩, I⟩, ?_⟩
                    refine g 0 6 [] ?_
                    conv => whnf
                    refine ⟨⟨I, I, ⟨I, I, I, I, I, I, I, I, I, I, I, I, I⟩, I⟩, ?_⟩
                    refine W.ret ?_
                    refine EndsW.rt ?_
                    conv => whnf
                    refine ⟨⟨I, I, I, I, I, I, I, I, I, I, I, I, I, I⟩, ?_, rfl⟩
                    rw [wtake_ok h hc, take_offer2 hf ho, cost_in ht2]
                    all_goals rfl
                  · by_cases hl : w.lease < m.lease
                    · have ho : takesOffer w p.tasks m := ⟨hk, ⟨t, ht2, hd⟩, .inr hl⟩
                      refine i_spec_WorkerTake ?_
                      conv => whnf
                      refine g 1 3 [] ?_
                      conv => whnf
                      refine ⟨⟨⟨I, I, I, I, I, I, I, I, I, I, I, I⟩, ⟨I, I⟩, ⟨I, I, I, I, I, I, I, I, I⟩, I, I⟩, ?_⟩
                      refine W.sq ?_
                      refine g 12 17 [.call (V.b (decide (workerOk w))) ([[]]), .b (false), .b (false), .call (V.i (0 : Int)) ([[]]), .b (false), .b (false)] ?_
                      conv => whnf
                      refine ⟨⟨I, ⟨⟨I, I⟩, I, ⟨⟨I, I, I, I, I, I, I, I, I, I, I, I⟩, I⟩, ⟨I, I⟩, Go.K.c_spec_ValidWorker _ (by omega)⟩, I, I, ⟨notF (by omega), I⟩, ⟨notF (by omega), ⟨I, I⟩, I, ⟨⟨I, I⟩, I⟩, ⟨I, I⟩, (by assumption)⟩, ⟨notF (by omega), I⟩, notF (by omega), I⟩, ?_⟩
                      refine W.cn ?_
                      conv => whnf
                      refine ⟨noT (rfl), fun _ => ?_⟩
                      refine W.skip ?_
                      refine g 17 21 [.call (workerO w) ([[]])] ?_
                      conv => whnf
                      refine ⟨⟨I, ⟨⟨I, I⟩, I, ⟨⟨I, I, I, I, I, I, I, I, I, I, I, I⟩, I⟩, ⟨I, I⟩, Go.K.c_spec_l3Copy _ (by omega)⟩, I, ⟨I, I, I, I, I, I, I, I, I, I, I, I⟩, I⟩, ?_⟩
                      refine g 21 23 [] ?_
                      conv => whnf
                      refine ⟨⟨I, I, I, ⟨I, I, I, I, I, I, I, I, I, I, I, I, I⟩, I⟩, ?_⟩
                      refine W.sq ?_
                      refine g 23 37 [.b (false), .b (false), .call (V.b true) ([[]]), .b (false), .b (false), .b (false), .b (false), .b (false), .b (false), .b (false), .b (false)] ?_
                      conv => whnf
                      refine ⟨⟨I, I, I, I, ⟨nbF (by assumption), I⟩, ⟨nbF (by assumption), ⟨I, I⟩, I, ⟨⟨I, I, I, I, I, I, I, I, I⟩, I⟩, ⟨I, I⟩, (by assumption)⟩, ⟨nbF (by assumption), I⟩, nbF (by assumption), I, ⟨rfl, I⟩, ⟨rfl, I⟩, ⟨rfl, I⟩, ⟨rfl, I⟩, ⟨rfl, I⟩, rfl, I⟩, ?_⟩
                      refine W.cn ?_
                      conv => whnf
                      refine ⟨noT (notF (by omega)), fun _ => ?_⟩
                      refine W.skip ?_
                      refine W.sq ?_
                      refine g 37 53 [.b (false), .b (false), .b (false), .b (false), .b (false), .b (false), .b (false), .b (false), .b (false), .b (false)] ?_
                      conv => whnf
                      refine ⟨⟨I, I, I, I, decide_eq_false (by omega), decide_eq_false (by omega), decide_eq_false (by omega), decide_eq_false (by omega), I, rfl, rfl, rfl, rfl, rfl, rfl, I⟩, ?_⟩
                      refine W.cn ?_
                      conv => whnf
                      refine ⟨noT (rfl), fun _ => ?_⟩
                      refine W.skip ?_
                      refine W.sq ?_
                      refine gd 10 81 [[], [], [], [], [.b (false)], [.b (false)], [.b (false)], [.b (false)], [.b (false)], [.b (false)], [.b (false)], [], [.b (false)], [.b (false)], [.b (false)], [.b (false)], [.b (false)], [.b (false)], [.b (false)], [.b (false), .x (taskT t)], [.b (false)], [.b (false)], [.b (false)], [.b (false)], [.b (false)]] ?_
                      conv => whnf
                      refine ⟨⟨I, I, I, I, ⟨notF (by omega), I⟩, ⟨notF (by omega), I⟩, ⟨notF (by omega), I⟩, ⟨notF (by omega), I⟩, ⟨notF (by omega), I⟩, ⟨notF (by omega), I⟩, notF (by omega), I, ⟨(by simp [*]), I⟩, ⟨(by simp [*]), I⟩, ⟨(by simp [*]), I⟩, ⟨(by simp [*]), I⟩, ⟨(by simp [*]), I⟩, ⟨(by simp [*]), I⟩, ⟨(by simp [*]), I⟩, ⟨(by simp [*]), (by assumption), ixl (by assumption)⟩, ⟨(by simp [*]), I⟩, ⟨(by simp [*]), I⟩, ⟨(by simp [*]), I⟩, ⟨(by simp [*]), I⟩, (by simp [*]), I⟩, by kernel_rfl, ?_⟩
                      refine W.cn ?_
                      conv => whnf
                      refine ⟨noT (by simp [*]), fun _ => ?_⟩
                      refine W.skip ?_
                      refine W.sq ?_
                      refine g 81 92 [.b (true), .b (true), .b (true), .b (true), .b (true), .b (true)] ?_
                      conv => whnf
                      refine ⟨⟨I, I, I, I, ⟨notT (by omega), I⟩, ⟨notT (by omega), I⟩, ⟨notT (by omega), I⟩, ⟨notT (by omega), I⟩, ⟨notT (by omega), I⟩, notT (by omega), I⟩, ?_⟩
                      refine W.cn ?_
                      conv => whnf
                      refine ⟨noT (decide_eq_false (by omega)), fun _ => ?_⟩
                      refine W.skip ?_
                      refine g 92 96 [.call (workerO { number := Worker.number w, epoch := Worker.epoch w, up := Worker.up w, state := (0 : Int), lease := (0 : Int), task := (0 : Int), cost := (0 : Int), left := (0 : Int), inputs := [], text := emp, since := (0 : Int) : Worker }) ([[], []])] ?_
                      conv => whnf
                      refine ⟨⟨I, ⟨⟨I, I, I⟩, I, ⟨⟨I, I, I, I, I, I, I, I, I, I, I, I⟩, ⟨I, I⟩, I⟩, ⟨I, I⟩, (by assumption)⟩, I, ⟨I, I, I, I, I, I, I, I, I, I, I, I⟩, I⟩, ?_⟩
                      refine g 7 9 [] ?_
                      conv => whnf
                      refine ⟨⟨I, ⟨I, I⟩, I⟩, ?_⟩
                      refine g 98 100 [] ?_
                      conv => whnf
                      refine ⟨⟨I, I, I, ⟨I, I⟩, I⟩, ?_⟩
                      refine g 100 103 [] ?_
                      conv => whnf
                      refine ⟨⟨I, I, I, ⟨I, I⟩, I⟩, ?_⟩
                      refine g 103 111 [.x (taskT t)] ?_
                      conv => whnf
                      refine ⟨⟨I, I, I, I, ⟨(by assumption), ixl (by assumption)⟩, I, I, I, ⟨I, I⟩, I⟩, ?_⟩
                      refine g 111 114 [] ?_
                      conv => whnf
                      refine ⟨⟨I, I, I, ⟨I, I⟩, I⟩, ?_⟩
                      refine g 114 119 [] ?_
                      conv => whnf
                      refine ⟨⟨I, I, I, ⟨I, I, (by simp only [List.length_map, List.length_append, List.length_set, List.length_replicate, List.length_cons, List.length_nil, List.length_take, List.length_drop, fill_len, fillI_len, List.length_range, bytesT_len]; omega)⟩, I, ⟨I, I⟩, I⟩, ?_⟩
                      refine g 0 6 [] ?_
                      conv => whnf
                      refine ⟨⟨I, I, ⟨I, I, I, I, I, I, I, I, I, I, I, I, I⟩, I⟩, ?_⟩
                      refine W.ret ?_
                      refine EndsW.rt ?_
                      conv => whnf
                      refine ⟨⟨I, I, I, I, I, I, I, I, I, I, I, I, I, I⟩, ?_, rfl⟩
                      rw [wtake_ok h hc, take_offer2 hf ho, cost_in ht2]
                      all_goals rfl
                    · have no : ¬ takesOffer w p.tasks m := fun q => by have := q.2.2; omega
                      refine i_spec_WorkerTake ?_
                      conv => whnf
                      refine g 1 3 [] ?_
                      conv => whnf
                      refine ⟨⟨⟨I, I, I, I, I, I, I, I, I, I, I, I⟩, ⟨I, I⟩, ⟨I, I, I, I, I, I, I, I, I⟩, I, I⟩, ?_⟩
                      refine W.sq ?_
                      refine g 12 17 [.call (V.b (decide (workerOk w))) ([[]]), .b (false), .b (false), .call (V.i (0 : Int)) ([[]]), .b (false), .b (false)] ?_
                      conv => whnf
                      refine ⟨⟨I, ⟨⟨I, I⟩, I, ⟨⟨I, I, I, I, I, I, I, I, I, I, I, I⟩, I⟩, ⟨I, I⟩, Go.K.c_spec_ValidWorker _ (by omega)⟩, I, I, ⟨notF (by omega), I⟩, ⟨notF (by omega), ⟨I, I⟩, I, ⟨⟨I, I⟩, I⟩, ⟨I, I⟩, (by assumption)⟩, ⟨notF (by omega), I⟩, notF (by omega), I⟩, ?_⟩
                      refine W.cn ?_
                      conv => whnf
                      refine ⟨noT (rfl), fun _ => ?_⟩
                      refine W.skip ?_
                      refine g 17 21 [.call (workerO w) ([[]])] ?_
                      conv => whnf
                      refine ⟨⟨I, ⟨⟨I, I⟩, I, ⟨⟨I, I, I, I, I, I, I, I, I, I, I, I⟩, I⟩, ⟨I, I⟩, Go.K.c_spec_l3Copy _ (by omega)⟩, I, ⟨I, I, I, I, I, I, I, I, I, I, I, I⟩, I⟩, ?_⟩
                      refine g 21 23 [] ?_
                      conv => whnf
                      refine ⟨⟨I, I, I, ⟨I, I, I, I, I, I, I, I, I, I, I, I, I⟩, I⟩, ?_⟩
                      refine W.sq ?_
                      refine g 23 37 [.b (false), .b (false), .call (V.b true) ([[]]), .b (false), .b (false), .b (false), .b (false), .b (false), .b (false), .b (false), .b (false)] ?_
                      conv => whnf
                      refine ⟨⟨I, I, I, I, ⟨nbF (by assumption), I⟩, ⟨nbF (by assumption), ⟨I, I⟩, I, ⟨⟨I, I, I, I, I, I, I, I, I⟩, I⟩, ⟨I, I⟩, (by assumption)⟩, ⟨nbF (by assumption), I⟩, nbF (by assumption), I, ⟨rfl, I⟩, ⟨rfl, I⟩, ⟨rfl, I⟩, ⟨rfl, I⟩, ⟨rfl, I⟩, rfl, I⟩, ?_⟩
                      refine W.cn ?_
                      conv => whnf
                      refine ⟨noT (notF (by omega)), fun _ => ?_⟩
                      refine W.skip ?_
                      refine W.sq ?_
                      refine g 37 53 [.b (false), .b (false), .b (false), .b (false), .b (false), .b (false), .b (false), .b (false), .b (false), .b (false)] ?_
                      conv => whnf
                      refine ⟨⟨I, I, I, I, decide_eq_false (by omega), decide_eq_false (by omega), decide_eq_false (by omega), decide_eq_false (by omega), I, rfl, rfl, rfl, rfl, rfl, rfl, I⟩, ?_⟩
                      refine W.cn ?_
                      conv => whnf
                      refine ⟨noT (rfl), fun _ => ?_⟩
                      refine W.skip ?_
                      refine W.sq ?_
                      refine gd 10 81 [[], [], [], [], [.b (false)], [.b (false)], [.b (false)], [.b (false)], [.b (false)], [.b (false)], [.b (false)], [], [.b (false)], [.b (false)], [.b (false)], [.b (false)], [.b (false)], [.b (false)], [.b (false)], [.b (false), .x (taskT t)], [.b (false)], [.b (false)], [.b (false)], [.b (false)], [.b (false)]] ?_
                      conv => whnf
                      refine ⟨⟨I, I, I, I, ⟨notF (by omega), I⟩, ⟨notF (by omega), I⟩, ⟨notF (by omega), I⟩, ⟨notF (by omega), I⟩, ⟨notF (by omega), I⟩, ⟨notF (by omega), I⟩, notF (by omega), I, ⟨(by simp [*]), I⟩, ⟨(by simp [*]), I⟩, ⟨(by simp [*]), I⟩, ⟨(by simp [*]), I⟩, ⟨(by simp [*]), I⟩, ⟨(by simp [*]), I⟩, ⟨(by simp [*]), I⟩, ⟨(by simp [*]), (by assumption), ixl (by assumption)⟩, ⟨(by simp [*]), I⟩, ⟨(by simp [*]), I⟩, ⟨(by simp [*]), I⟩, ⟨(by simp [*]), I⟩, (by simp [*]), I⟩, by kernel_rfl, ?_⟩
                      refine W.cn ?_
                      conv => whnf
                      refine ⟨noT (by simp [*]), fun _ => ?_⟩
                      refine W.skip ?_
                      refine W.sq ?_
                      refine g 81 92 [.b (true), .b (true), .b (true), .b (true), .b (true), .b (true)] ?_
                      conv => whnf
                      refine ⟨⟨I, I, I, I, ⟨notT (by omega), I⟩, ⟨notT (by omega), I⟩, ⟨notT (by omega), I⟩, ⟨notT (by omega), I⟩, ⟨notT (by omega), I⟩, notT (by omega), I⟩, ?_⟩
                      refine W.cn ?_
                      conv => whnf
                      refine ⟨fun _ => ?_, noF (decide_eq_true (by omega))⟩
                      refine g 8 94 [] ?_
                      conv => whnf
                      refine ⟨⟨I, ⟨I, I, I, I, I, I, I, I, I, I, I, I, I⟩, I⟩, ?_⟩
                      refine W.ret ?_
                      refine EndsW.rt ?_
                      conv => whnf
                      refine ⟨⟨I, I, I, I, I, I, I, I, I, I, I, I, I, I⟩, ?_, rfl⟩
                      rw [wtake_ok h hc, take_same no nt]; all_goals rfl
                · have no : ¬ takesOffer w p.tasks m := fun q => by obtain ⟨t2, h2, h3⟩ := q.2.1; rw [ht2] at h2; cases h2; exact hd h3
                  refine i_spec_WorkerTake ?_
                  conv => whnf
                  refine g 1 3 [] ?_
                  conv => whnf
                  refine ⟨⟨⟨I, I, I, I, I, I, I, I, I, I, I, I⟩, ⟨I, I⟩, ⟨I, I, I, I, I, I, I, I, I⟩, I, I⟩, ?_⟩
                  refine W.sq ?_
                  refine g 12 17 [.call (V.b (decide (workerOk w))) ([[]]), .b (false), .b (false), .call (V.i (0 : Int)) ([[]]), .b (false), .b (false)] ?_
                  conv => whnf
                  refine ⟨⟨I, ⟨⟨I, I⟩, I, ⟨⟨I, I, I, I, I, I, I, I, I, I, I, I⟩, I⟩, ⟨I, I⟩, Go.K.c_spec_ValidWorker _ (by omega)⟩, I, I, ⟨notF (by omega), I⟩, ⟨notF (by omega), ⟨I, I⟩, I, ⟨⟨I, I⟩, I⟩, ⟨I, I⟩, (by assumption)⟩, ⟨notF (by omega), I⟩, notF (by omega), I⟩, ?_⟩
                  refine W.cn ?_
                  conv => whnf
                  refine ⟨noT (rfl), fun _ => ?_⟩
                  refine W.skip ?_
                  refine g 17 21 [.call (workerO w) ([[]])] ?_
                  conv => whnf
                  refine ⟨⟨I, ⟨⟨I, I⟩, I, ⟨⟨I, I, I, I, I, I, I, I, I, I, I, I⟩, I⟩, ⟨I, I⟩, Go.K.c_spec_l3Copy _ (by omega)⟩, I, ⟨I, I, I, I, I, I, I, I, I, I, I, I⟩, I⟩, ?_⟩
                  refine g 21 23 [] ?_
                  conv => whnf
                  refine ⟨⟨I, I, I, ⟨I, I, I, I, I, I, I, I, I, I, I, I, I⟩, I⟩, ?_⟩
                  refine W.sq ?_
                  refine g 23 37 [.b (false), .b (false), .call (V.b true) ([[]]), .b (false), .b (false), .b (false), .b (false), .b (false), .b (false), .b (false), .b (false)] ?_
                  conv => whnf
                  refine ⟨⟨I, I, I, I, ⟨nbF (by assumption), I⟩, ⟨nbF (by assumption), ⟨I, I⟩, I, ⟨⟨I, I, I, I, I, I, I, I, I⟩, I⟩, ⟨I, I⟩, (by assumption)⟩, ⟨nbF (by assumption), I⟩, nbF (by assumption), I, ⟨rfl, I⟩, ⟨rfl, I⟩, ⟨rfl, I⟩, ⟨rfl, I⟩, ⟨rfl, I⟩, rfl, I⟩, ?_⟩
                  refine W.cn ?_
                  conv => whnf
                  refine ⟨noT (notF (by omega)), fun _ => ?_⟩
                  refine W.skip ?_
                  refine W.sq ?_
                  refine g 37 53 [.b (false), .b (false), .b (false), .b (false), .b (false), .b (false), .b (false), .b (false), .b (false), .b (false)] ?_
                  conv => whnf
                  refine ⟨⟨I, I, I, I, decide_eq_false (by omega), decide_eq_false (by omega), decide_eq_false (by omega), decide_eq_false (by omega), I, rfl, rfl, rfl, rfl, rfl, rfl, I⟩, ?_⟩
                  refine W.cn ?_
                  conv => whnf
                  refine ⟨noT (rfl), fun _ => ?_⟩
                  refine W.skip ?_
                  refine W.sq ?_
                  refine gd 10 81 [[], [], [], [], [.b (false)], [.b (false)], [.b (false)], [.b (false)], [.b (false)], [.b (false)], [.b (false)], [], [.b (false)], [.b (false)], [.b (false)], [.b (false)], [.b (false)], [.b (false)], [.b (false)], [.b (false), .x (taskT t)], [.b (false)], [.b (false)], [.b (false)], [.b (false)], [.b (false)]] ?_
                  conv => whnf
                  refine ⟨⟨I, I, I, I, ⟨notF (by omega), I⟩, ⟨notF (by omega), I⟩, ⟨notF (by omega), I⟩, ⟨notF (by omega), I⟩, ⟨notF (by omega), I⟩, ⟨notF (by omega), I⟩, notF (by omega), I, ⟨(by simp [*]), I⟩, ⟨(by simp [*]), I⟩, ⟨(by simp [*]), I⟩, ⟨(by simp [*]), I⟩, ⟨(by simp [*]), I⟩, ⟨(by simp [*]), I⟩, ⟨(by simp [*]), I⟩, ⟨(by simp [*]), (by assumption), ixl (by assumption)⟩, ⟨(by simp [*]), I⟩, ⟨(by simp [*]), I⟩, ⟨(by simp [*]), I⟩, ⟨(by simp [*]), I⟩, (by simp [*]), I⟩, by kernel_rfl, ?_⟩
                  refine W.cn ?_
                  conv => whnf
                  refine ⟨fun h1 => ?_, fun h1 => ?_⟩
                  replace h1 := ndt h1
                  simp only [List.length_map] at h1
                  refine g 81 83 [] ?_
                  conv => whnf
                  refine ⟨⟨I, ⟨I, I, I, I, I, I, I, I, I, I, I, I, I⟩, I⟩, ?_⟩
                  refine W.ret ?_
                  refine EndsW.rt ?_
                  conv => whnf
                  refine ⟨⟨I, I, I, I, I, I, I, I, I, I, I, I, I, I⟩, ?_, rfl⟩
                  rotate_left 1
                  replace h1 := ndf h1
                  simp only [List.length_map] at h1
                  omega
                  rw [wtake_ok h hc, take_same no nt]; all_goals rfl
              · have no : ¬ takesOffer w p.tasks m := fun q => by obtain ⟨t2, h2, h3⟩ := q.2.1; have := (List.getElem?_eq_some_iff.1 h2).1; omega
                refine i_spec_WorkerTake ?_
                conv => whnf
                refine g 1 3 [] ?_
                conv => whnf
                refine ⟨⟨⟨I, I, I, I, I, I, I, I, I, I, I, I⟩, ⟨I, I⟩, ⟨I, I, I, I, I, I, I, I, I⟩, I, I⟩, ?_⟩
                refine W.sq ?_
                refine g 12 17 [.call (V.b (decide (workerOk w))) ([[]]), .b (false), .b (false), .call (V.i (0 : Int)) ([[]]), .b (false), .b (false)] ?_
                conv => whnf
                refine ⟨⟨I, ⟨⟨I, I⟩, I, ⟨⟨I, I, I, I, I, I, I, I, I, I, I, I⟩, I⟩, ⟨I, I⟩, Go.K.c_spec_ValidWorker _ (by omega)⟩, I, I, ⟨notF (by omega), I⟩, ⟨notF (by omega), ⟨I, I⟩, I, ⟨⟨I, I⟩, I⟩, ⟨I, I⟩, (by assumption)⟩, ⟨notF (by omega), I⟩, notF (by omega), I⟩, ?_⟩
                refine W.cn ?_
                conv => whnf
                refine ⟨noT (rfl), fun _ => ?_⟩
                refine W.skip ?_
                refine g 17 21 [.call (workerO w) ([[]])] ?_
                conv => whnf
                refine ⟨⟨I, ⟨⟨I, I⟩, I, ⟨⟨I, I, I, I, I, I, I, I, I, I, I, I⟩, I⟩, ⟨I, I⟩, Go.K.c_spec_l3Copy _ (by omega)⟩, I, ⟨I, I, I, I, I, I, I, I, I, I, I, I⟩, I⟩, ?_⟩
                refine g 21 23 [] ?_
                conv => whnf
                refine ⟨⟨I, I, I, ⟨I, I, I, I, I, I, I, I, I, I, I, I, I⟩, I⟩, ?_⟩
                refine W.sq ?_
                refine g 23 37 [.b (false), .b (false), .call (V.b true) ([[]]), .b (false), .b (false), .b (false), .b (false), .b (false), .b (false), .b (false), .b (false)] ?_
                conv => whnf
                refine ⟨⟨I, I, I, I, ⟨nbF (by assumption), I⟩, ⟨nbF (by assumption), ⟨I, I⟩, I, ⟨⟨I, I, I, I, I, I, I, I, I⟩, I⟩, ⟨I, I⟩, (by assumption)⟩, ⟨nbF (by assumption), I⟩, nbF (by assumption), I, ⟨rfl, I⟩, ⟨rfl, I⟩, ⟨rfl, I⟩, ⟨rfl, I⟩, ⟨rfl, I⟩, rfl, I⟩, ?_⟩
                refine W.cn ?_
                conv => whnf
                refine ⟨noT (notF (by omega)), fun _ => ?_⟩
                refine W.skip ?_
                refine W.sq ?_
                refine g 37 53 [.b (false), .b (false), .b (false), .b (false), .b (false), .b (false), .b (false), .b (false), .b (false), .b (false)] ?_
                conv => whnf
                refine ⟨⟨I, I, I, I, decide_eq_false (by omega), decide_eq_false (by omega), decide_eq_false (by omega), decide_eq_false (by omega), I, rfl, rfl, rfl, rfl, rfl, rfl, I⟩, ?_⟩
                refine W.cn ?_
                conv => whnf
                refine ⟨noT (rfl), fun _ => ?_⟩
                refine W.skip ?_
                refine W.sq ?_
                refine gd 10 81 [[], [], [], [], [.b (false)], [.b (false)], [.b (false)], [.b (false)], [.b (false)], [.b (false)], [.b (false)], [], [.b (true)], [.b (true)], [.b (true)], [.b (true)], [.b (true)], [.b (true)], [.b (true)], [.b (true)], [.b (true)], [.b (true)], [.b (true)], [.b (true)], [.b (true)]] ?_
                conv => whnf
                refine ⟨⟨I, I, I, I, ⟨notF (by omega), I⟩, ⟨notF (by omega), I⟩, ⟨notF (by omega), I⟩, ⟨notF (by omega), I⟩, ⟨notF (by omega), I⟩, ⟨notF (by omega), I⟩, notF (by omega), I, (by simp_all), (by simp_all), (by simp_all), (by simp_all), (by simp_all), (by simp_all), (by simp_all), (by simp_all), (by simp_all), (by simp_all), (by simp_all), (by simp_all), (by simp_all), I⟩, by kernel_rfl, ?_⟩
                refine W.cn ?_
                conv => whnf
                refine ⟨fun _ => ?_, noF (rfl)⟩
                refine g 81 83 [] ?_
                conv => whnf
                refine ⟨⟨I, ⟨I, I, I, I, I, I, I, I, I, I, I, I, I⟩, I⟩, ?_⟩
                refine W.ret ?_
                refine EndsW.rt ?_
                conv => whnf
                refine ⟨⟨I, I, I, I, I, I, I, I, I, I, I, I, I, I⟩, ?_, rfl⟩
                rw [wtake_ok h hc, take_same no nt]; all_goals rfl
            · have no : ¬ takesOffer w p.tasks m := fun q => hk q.1
              by_cases hk4 : m.kind = 4
              · by_cases hs : w.state = 2
                · by_cases hl : w.lease = m.lease
                  · have yt : takesThanks w m := ⟨hk4, hs, hl⟩
                    refine i_spec_WorkerTake ?_
                    conv => whnf
                    refine g 1 3 [] ?_
                    conv => whnf
                    refine ⟨⟨⟨I, I, I, I, I, I, I, I, I, I, I, I⟩, ⟨I, I⟩, ⟨I, I, I, I, I, I, I, I, I⟩, I, I⟩, ?_⟩
                    refine W.sq ?_
                    refine g 12 17 [.call (V.b (decide (workerOk w))) ([[]]), .b (false), .b (false), .call (V.i (0 : Int)) ([[]]), .b (false), .b (false)] ?_
                    conv => whnf
                    refine ⟨⟨I, ⟨⟨I, I⟩, I, ⟨⟨I, I, I, I, I, I, I, I, I, I, I, I⟩, I⟩, ⟨I, I⟩, Go.K.c_spec_ValidWorker _ (by omega)⟩, I, I, ⟨notF (by omega), I⟩, ⟨notF (by omega), ⟨I, I⟩, I, ⟨⟨I, I⟩, I⟩, ⟨I, I⟩, (by assumption)⟩, ⟨notF (by omega), I⟩, notF (by omega), I⟩, ?_⟩
                    refine W.cn ?_
                    conv => whnf
                    refine ⟨noT (rfl), fun _ => ?_⟩
                    refine W.skip ?_
                    refine g 17 21 [.call (workerO w) ([[]])] ?_
                    conv => whnf
                    refine ⟨⟨I, ⟨⟨I, I⟩, I, ⟨⟨I, I, I, I, I, I, I, I, I, I, I, I⟩, I⟩, ⟨I, I⟩, Go.K.c_spec_l3Copy _ (by omega)⟩, I, ⟨I, I, I, I, I, I, I, I, I, I, I, I⟩, I⟩, ?_⟩
                    refine g 21 23 [] ?_
                    conv => whnf
                    refine ⟨⟨I, I, I, ⟨I, I, I, I, I, I, I, I, I, I, I, I, I⟩, I⟩, ?_⟩
                    refine W.sq ?_
                    refine g 23 37 [.b (false), .b (false), .call (V.b true) ([[]]), .b (false), .b (false), .b (false), .b (false), .b (false), .b (false), .b (false), .b (false)] ?_
                    conv => whnf
                    refine ⟨⟨I, I, I, I, ⟨nbF (by assumption), I⟩, ⟨nbF (by assumption), ⟨I, I⟩, I, ⟨⟨I, I, I, I, I, I, I, I, I⟩, I⟩, ⟨I, I⟩, (by assumption)⟩, ⟨nbF (by assumption), I⟩, nbF (by assumption), I, ⟨rfl, I⟩, ⟨rfl, I⟩, ⟨rfl, I⟩, ⟨rfl, I⟩, ⟨rfl, I⟩, rfl, I⟩, ?_⟩
                    refine W.cn ?_
                    conv => whnf
                    refine ⟨noT (notF (by omega)), fun _ => ?_⟩
                    refine W.skip ?_
                    refine W.sq ?_
                    refine g 37 53 [.b (true), .b (true), .b (true), .b (true), .b (true), .b (true), .b (true), .b (true), .b (true), .b (true)] ?_
                    conv => whnf
                    refine ⟨⟨I, I, I, I, ⟨decide_eq_true (by omega), I⟩, ⟨decide_eq_true (by omega), I⟩, ⟨decide_eq_true (by omega), I⟩, decide_eq_true (by omega), I, ⟨decide_eq_true (by omega), I⟩, ⟨decide_eq_true (by omega), I⟩, ⟨decide_eq_true (by omega), I⟩, ⟨decide_eq_true (by omega), I⟩, ⟨decide_eq_true (by omega), I⟩, decide_eq_true (by omega), I⟩, ?_⟩
                    refine W.cn ?_
                    conv => whnf
                    refine ⟨fun _ => ?_, noF (decide_eq_true (by omega))⟩
                    refine g 53 57 [.call (workerO { number := Worker.number w, epoch := Worker.epoch w, up := Worker.up w, state := (0 : Int), lease := (0 : Int), task := (0 : Int), cost := (0 : Int), left := (0 : Int), inputs := [], text := emp, since := (3 : Int) : Worker }) ([[], []])] ?_
                    conv => whnf
                    refine ⟨⟨I, ⟨⟨I, I, I⟩, I, ⟨⟨I, I, I, I, I, I, I, I, I, I, I, I⟩, ⟨I, I⟩, I⟩, ⟨I, I⟩, (by assumption)⟩, I, ⟨I, I, I, I, I, I, I, I, I, I, I, I, I⟩, I⟩, ?_⟩
                    refine W.ret ?_
                    refine EndsW.rt ?_
                    conv => whnf
                    refine ⟨⟨I, I, I, I, I, I, I, I, I, I, I, I, I, I⟩, ?_, rfl⟩
                    rw [wtake_ok h hc, take_thanks hf yt]
                    all_goals rfl
                  · have nt : ¬ takesThanks w m := fun q => hl q.2.2
                    refine i_spec_WorkerTake ?_
                    conv => whnf
                    refine g 1 3 [] ?_
                    conv => whnf
                    refine ⟨⟨⟨I, I, I, I, I, I, I, I, I, I, I, I⟩, ⟨I, I⟩, ⟨I, I, I, I, I, I, I, I, I⟩, I, I⟩, ?_⟩
                    refine W.sq ?_
                    refine g 12 17 [.call (V.b (decide (workerOk w))) ([[]]), .b (false), .b (false), .call (V.i (0 : Int)) ([[]]), .b (false), .b (false)] ?_
                    conv => whnf
                    refine ⟨⟨I, ⟨⟨I, I⟩, I, ⟨⟨I, I, I, I, I, I, I, I, I, I, I, I⟩, I⟩, ⟨I, I⟩, Go.K.c_spec_ValidWorker _ (by omega)⟩, I, I, ⟨notF (by omega), I⟩, ⟨notF (by omega), ⟨I, I⟩, I, ⟨⟨I, I⟩, I⟩, ⟨I, I⟩, (by assumption)⟩, ⟨notF (by omega), I⟩, notF (by omega), I⟩, ?_⟩
                    refine W.cn ?_
                    conv => whnf
                    refine ⟨noT (rfl), fun _ => ?_⟩
                    refine W.skip ?_
                    refine g 17 21 [.call (workerO w) ([[]])] ?_
                    conv => whnf
                    refine ⟨⟨I, ⟨⟨I, I⟩, I, ⟨⟨I, I, I, I, I, I, I, I, I, I, I, I⟩, I⟩, ⟨I, I⟩, Go.K.c_spec_l3Copy _ (by omega)⟩, I, ⟨I, I, I, I, I, I, I, I, I, I, I, I⟩, I⟩, ?_⟩
                    refine g 21 23 [] ?_
                    conv => whnf
                    refine ⟨⟨I, I, I, ⟨I, I, I, I, I, I, I, I, I, I, I, I, I⟩, I⟩, ?_⟩
                    refine W.sq ?_
                    refine g 23 37 [.b (false), .b (false), .call (V.b true) ([[]]), .b (false), .b (false), .b (false), .b (false), .b (false), .b (false), .b (false), .b (false)] ?_
                    conv => whnf
                    refine ⟨⟨I, I, I, I, ⟨nbF (by assumption), I⟩, ⟨nbF (by assumption), ⟨I, I⟩, I, ⟨⟨I, I, I, I, I, I, I, I, I⟩, I⟩, ⟨I, I⟩, (by assumption)⟩, ⟨nbF (by assumption), I⟩, nbF (by assumption), I, ⟨rfl, I⟩, ⟨rfl, I⟩, ⟨rfl, I⟩, ⟨rfl, I⟩, ⟨rfl, I⟩, rfl, I⟩, ?_⟩
                    refine W.cn ?_
                    conv => whnf
                    refine ⟨noT (notF (by omega)), fun _ => ?_⟩
                    refine W.skip ?_
                    refine W.sq ?_
                    refine g 37 53 [.b (true), .b (true), .b (true), .b (true), .b (true), .b (true), .b (true), .b (true), .b (true), .b (true)] ?_
                    conv => whnf
                    refine ⟨⟨I, I, I, I, ⟨decide_eq_true (by omega), I⟩, ⟨decide_eq_true (by omega), I⟩, ⟨decide_eq_true (by omega), I⟩, decide_eq_true (by omega), I, ⟨decide_eq_true (by omega), I⟩, ⟨decide_eq_true (by omega), I⟩, ⟨decide_eq_true (by omega), I⟩, ⟨decide_eq_true (by omega), I⟩, ⟨decide_eq_true (by omega), I⟩, decide_eq_true (by omega), I⟩, ?_⟩
                    refine W.cn ?_
                    conv => whnf
                    refine ⟨noT (decide_eq_false (by omega)), fun _ => ?_⟩
                    refine W.skip ?_
                    refine W.sq ?_
                    refine gd 10 81 [[], [], [], [], [.b (true)], [.b (true)], [.b (true)], [.b (true)], [.b (true)], [.b (true)], [.b (true)], [], [.b (true)], [.b (true)], [.b (true)], [.b (true)], [.b (true)], [.b (true)], [.b (true)], [.b (true)], [.b (true)], [.b (true)], [.b (true)], [.b (true)], [.b (true)]] ?_
                    conv => whnf
                    refine ⟨⟨I, I, I, I, notT (by omega), notT (by omega), notT (by omega), notT (by omega), notT (by omega), notT (by omega), notT (by omega), I, rfl, rfl, rfl, rfl, rfl, rfl, rfl, rfl, rfl, rfl, rfl, rfl, rfl, I⟩, by kernel_rfl, ?_⟩
                    refine W.cn ?_
                    conv => whnf
                    refine ⟨fun _ => ?_, noF (rfl)⟩
                    refine g 81 83 [] ?_
                    conv => whnf
                    refine ⟨⟨I, ⟨I, I, I, I, I, I, I, I, I, I, I, I, I⟩, I⟩, ?_⟩
                    refine W.ret ?_
                    refine EndsW.rt ?_
                    conv => whnf
                    refine ⟨⟨I, I, I, I, I, I, I, I, I, I, I, I, I, I⟩, ?_, rfl⟩
                    rw [wtake_ok h hc, take_same no nt]; all_goals rfl
                · have nt : ¬ takesThanks w m := fun q => hs q.2.1
                  refine i_spec_WorkerTake ?_
                  conv => whnf
                  refine g 1 3 [] ?_
                  conv => whnf
                  refine ⟨⟨⟨I, I, I, I, I, I, I, I, I, I, I, I⟩, ⟨I, I⟩, ⟨I, I, I, I, I, I, I, I, I⟩, I, I⟩, ?_⟩
                  refine W.sq ?_
                  refine g 12 17 [.call (V.b (decide (workerOk w))) ([[]]), .b (false), .b (false), .call (V.i (0 : Int)) ([[]]), .b (false), .b (false)] ?_
                  conv => whnf
                  refine ⟨⟨I, ⟨⟨I, I⟩, I, ⟨⟨I, I, I, I, I, I, I, I, I, I, I, I⟩, I⟩, ⟨I, I⟩, Go.K.c_spec_ValidWorker _ (by omega)⟩, I, I, ⟨notF (by omega), I⟩, ⟨notF (by omega), ⟨I, I⟩, I, ⟨⟨I, I⟩, I⟩, ⟨I, I⟩, (by assumption)⟩, ⟨notF (by omega), I⟩, notF (by omega), I⟩, ?_⟩
                  refine W.cn ?_
                  conv => whnf
                  refine ⟨noT (rfl), fun _ => ?_⟩
                  refine W.skip ?_
                  refine g 17 21 [.call (workerO w) ([[]])] ?_
                  conv => whnf
                  refine ⟨⟨I, ⟨⟨I, I⟩, I, ⟨⟨I, I, I, I, I, I, I, I, I, I, I, I⟩, I⟩, ⟨I, I⟩, Go.K.c_spec_l3Copy _ (by omega)⟩, I, ⟨I, I, I, I, I, I, I, I, I, I, I, I⟩, I⟩, ?_⟩
                  refine g 21 23 [] ?_
                  conv => whnf
                  refine ⟨⟨I, I, I, ⟨I, I, I, I, I, I, I, I, I, I, I, I, I⟩, I⟩, ?_⟩
                  refine W.sq ?_
                  refine g 23 37 [.b (false), .b (false), .call (V.b true) ([[]]), .b (false), .b (false), .b (false), .b (false), .b (false), .b (false), .b (false), .b (false)] ?_
                  conv => whnf
                  refine ⟨⟨I, I, I, I, ⟨nbF (by assumption), I⟩, ⟨nbF (by assumption), ⟨I, I⟩, I, ⟨⟨I, I, I, I, I, I, I, I, I⟩, I⟩, ⟨I, I⟩, (by assumption)⟩, ⟨nbF (by assumption), I⟩, nbF (by assumption), I, ⟨rfl, I⟩, ⟨rfl, I⟩, ⟨rfl, I⟩, ⟨rfl, I⟩, ⟨rfl, I⟩, rfl, I⟩, ?_⟩
                  refine W.cn ?_
                  conv => whnf
                  refine ⟨noT (notF (by omega)), fun _ => ?_⟩
                  refine W.skip ?_
                  refine W.sq ?_
                  refine g 37 53 [.b (true), .b (true), .b (true), .b (true), .b (false), .b (false), .b (false), .b (false), .b (false), .b (false)] ?_
                  conv => whnf
                  refine ⟨⟨I, I, I, I, ⟨decide_eq_true (by omega), I⟩, ⟨decide_eq_true (by omega), I⟩, ⟨decide_eq_true (by omega), I⟩, decide_eq_true (by omega), I, decide_eq_false (by omega), decide_eq_false (by omega), decide_eq_false (by omega), decide_eq_false (by omega), decide_eq_false (by omega), decide_eq_false (by omega), I⟩, ?_⟩
                  refine W.cn ?_
                  conv => whnf
                  refine ⟨noT (rfl), fun _ => ?_⟩
                  refine W.skip ?_
                  refine W.sq ?_
                  refine gd 10 81 [[], [], [], [], [.b (true)], [.b (true)], [.b (true)], [.b (true)], [.b (true)], [.b (true)], [.b (true)], [], [.b (true)], [.b (true)], [.b (true)], [.b (true)], [.b (true)], [.b (true)], [.b (true)], [.b (true)], [.b (true)], [.b (true)], [.b (true)], [.b (true)], [.b (true)]] ?_
                  conv => whnf
                  refine ⟨⟨I, I, I, I, notT (by omega), notT (by omega), notT (by omega), notT (by omega), notT (by omega), notT (by omega), notT (by omega), I, rfl, rfl, rfl, rfl, rfl, rfl, rfl, rfl, rfl, rfl, rfl, rfl, rfl, I⟩, by kernel_rfl, ?_⟩
                  refine W.cn ?_
                  conv => whnf
                  refine ⟨fun _ => ?_, noF (rfl)⟩
                  refine g 81 83 [] ?_
                  conv => whnf
                  refine ⟨⟨I, ⟨I, I, I, I, I, I, I, I, I, I, I, I, I⟩, I⟩, ?_⟩
                  refine W.ret ?_
                  refine EndsW.rt ?_
                  conv => whnf
                  refine ⟨⟨I, I, I, I, I, I, I, I, I, I, I, I, I, I⟩, ?_, rfl⟩
                  rw [wtake_ok h hc, take_same no nt]; all_goals rfl
              · have nt : ¬ takesThanks w m := fun q => hk4 q.1
                refine i_spec_WorkerTake ?_
                conv => whnf
                refine g 1 3 [] ?_
                conv => whnf
                refine ⟨⟨⟨I, I, I, I, I, I, I, I, I, I, I, I⟩, ⟨I, I⟩, ⟨I, I, I, I, I, I, I, I, I⟩, I, I⟩, ?_⟩
                refine W.sq ?_
                refine g 12 17 [.call (V.b (decide (workerOk w))) ([[]]), .b (false), .b (false), .call (V.i (0 : Int)) ([[]]), .b (false), .b (false)] ?_
                conv => whnf
                refine ⟨⟨I, ⟨⟨I, I⟩, I, ⟨⟨I, I, I, I, I, I, I, I, I, I, I, I⟩, I⟩, ⟨I, I⟩, Go.K.c_spec_ValidWorker _ (by omega)⟩, I, I, ⟨notF (by omega), I⟩, ⟨notF (by omega), ⟨I, I⟩, I, ⟨⟨I, I⟩, I⟩, ⟨I, I⟩, (by assumption)⟩, ⟨notF (by omega), I⟩, notF (by omega), I⟩, ?_⟩
                refine W.cn ?_
                conv => whnf
                refine ⟨noT (rfl), fun _ => ?_⟩
                refine W.skip ?_
                refine g 17 21 [.call (workerO w) ([[]])] ?_
                conv => whnf
                refine ⟨⟨I, ⟨⟨I, I⟩, I, ⟨⟨I, I, I, I, I, I, I, I, I, I, I, I⟩, I⟩, ⟨I, I⟩, Go.K.c_spec_l3Copy _ (by omega)⟩, I, ⟨I, I, I, I, I, I, I, I, I, I, I, I⟩, I⟩, ?_⟩
                refine g 21 23 [] ?_
                conv => whnf
                refine ⟨⟨I, I, I, ⟨I, I, I, I, I, I, I, I, I, I, I, I, I⟩, I⟩, ?_⟩
                refine W.sq ?_
                refine g 23 37 [.b (false), .b (false), .call (V.b true) ([[]]), .b (false), .b (false), .b (false), .b (false), .b (false), .b (false), .b (false), .b (false)] ?_
                conv => whnf
                refine ⟨⟨I, I, I, I, ⟨nbF (by assumption), I⟩, ⟨nbF (by assumption), ⟨I, I⟩, I, ⟨⟨I, I, I, I, I, I, I, I, I⟩, I⟩, ⟨I, I⟩, (by assumption)⟩, ⟨nbF (by assumption), I⟩, nbF (by assumption), I, ⟨rfl, I⟩, ⟨rfl, I⟩, ⟨rfl, I⟩, ⟨rfl, I⟩, ⟨rfl, I⟩, rfl, I⟩, ?_⟩
                refine W.cn ?_
                conv => whnf
                refine ⟨noT (notF (by omega)), fun _ => ?_⟩
                refine W.skip ?_
                refine W.sq ?_
                refine g 37 53 [.b (false), .b (false), .b (false), .b (false), .b (false), .b (false), .b (false), .b (false), .b (false), .b (false)] ?_
                conv => whnf
                refine ⟨⟨I, I, I, I, decide_eq_false (by omega), decide_eq_false (by omega), decide_eq_false (by omega), decide_eq_false (by omega), I, rfl, rfl, rfl, rfl, rfl, rfl, I⟩, ?_⟩
                refine W.cn ?_
                conv => whnf
                refine ⟨noT (rfl), fun _ => ?_⟩
                refine W.skip ?_
                refine W.sq ?_
                refine gd 10 81 [[], [], [], [], [.b (true)], [.b (true)], [.b (true)], [.b (true)], [.b (true)], [.b (true)], [.b (true)], [], [.b (true)], [.b (true)], [.b (true)], [.b (true)], [.b (true)], [.b (true)], [.b (true)], [.b (true)], [.b (true)], [.b (true)], [.b (true)], [.b (true)], [.b (true)]] ?_
                conv => whnf
                refine ⟨⟨I, I, I, I, notT (by omega), notT (by omega), notT (by omega), notT (by omega), notT (by omega), notT (by omega), notT (by omega), I, rfl, rfl, rfl, rfl, rfl, rfl, rfl, rfl, rfl, rfl, rfl, rfl, rfl, I⟩, by kernel_rfl, ?_⟩
                refine W.cn ?_
                conv => whnf
                refine ⟨fun _ => ?_, noF (rfl)⟩
                refine g 81 83 [] ?_
                conv => whnf
                refine ⟨⟨I, ⟨I, I, I, I, I, I, I, I, I, I, I, I, I⟩, I⟩, ?_⟩
                refine W.ret ?_
                refine EndsW.rt ?_
                conv => whnf
                refine ⟨⟨I, I, I, I, I, I, I, I, I, I, I, I, I, I⟩, ?_, rfl⟩
                rw [wtake_ok h hc, take_same no nt]; all_goals rfl
          · have nf : ¬ forMe w m := fun q => hto q.2.2
            refine i_spec_WorkerTake ?_
            conv => whnf
            refine g 1 3 [] ?_
            conv => whnf
            refine ⟨⟨⟨I, I, I, I, I, I, I, I, I, I, I, I⟩, ⟨I, I⟩, ⟨I, I, I, I, I, I, I, I, I⟩, I, I⟩, ?_⟩
            refine W.sq ?_
            refine g 12 17 [.call (V.b (decide (workerOk w))) ([[]]), .b (false), .b (false), .call (V.i (0 : Int)) ([[]]), .b (false), .b (false)] ?_
            conv => whnf
            refine ⟨⟨I, ⟨⟨I, I⟩, I, ⟨⟨I, I, I, I, I, I, I, I, I, I, I, I⟩, I⟩, ⟨I, I⟩, Go.K.c_spec_ValidWorker _ (by omega)⟩, I, I, ⟨notF (by omega), I⟩, ⟨notF (by omega), ⟨I, I⟩, I, ⟨⟨I, I⟩, I⟩, ⟨I, I⟩, (by assumption)⟩, ⟨notF (by omega), I⟩, notF (by omega), I⟩, ?_⟩
            refine W.cn ?_
            conv => whnf
            refine ⟨noT (rfl), fun _ => ?_⟩
            refine W.skip ?_
            refine g 17 21 [.call (workerO w) ([[]])] ?_
            conv => whnf
            refine ⟨⟨I, ⟨⟨I, I⟩, I, ⟨⟨I, I, I, I, I, I, I, I, I, I, I, I⟩, I⟩, ⟨I, I⟩, Go.K.c_spec_l3Copy _ (by omega)⟩, I, ⟨I, I, I, I, I, I, I, I, I, I, I, I⟩, I⟩, ?_⟩
            refine g 21 23 [] ?_
            conv => whnf
            refine ⟨⟨I, I, I, ⟨I, I, I, I, I, I, I, I, I, I, I, I, I⟩, I⟩, ?_⟩
            refine W.sq ?_
            refine g 23 37 [.b (false), .b (false), .call (V.b true) ([[]]), .b (false), .b (false), .b (false), .b (false), .b (false), .b (false), .b (false), .b (false)] ?_
            conv => whnf
            refine ⟨⟨I, I, I, I, ⟨nbF (by assumption), I⟩, ⟨nbF (by assumption), ⟨I, I⟩, I, ⟨⟨I, I, I, I, I, I, I, I, I⟩, I⟩, ⟨I, I⟩, (by assumption)⟩, ⟨nbF (by assumption), I⟩, nbF (by assumption), I, ⟨rfl, I⟩, ⟨rfl, I⟩, ⟨rfl, I⟩, ⟨rfl, I⟩, ⟨rfl, I⟩, rfl, I⟩, ?_⟩
            refine W.cn ?_
            conv => whnf
            refine ⟨fun _ => ?_, noF (notT (by omega))⟩
            refine g 37 39 [] ?_
            conv => whnf
            refine ⟨⟨I, ⟨I, I, I, I, I, I, I, I, I, I, I, I, I⟩, I⟩, ?_⟩
            refine W.ret ?_
            refine EndsW.rt ?_
            conv => whnf
            refine ⟨⟨I, I, I, I, I, I, I, I, I, I, I, I, I, I⟩, ?_, rfl⟩
            rw [wtake_ok h hc, take_no nf]; all_goals rfl
        · rw [decide_eq_false hok] at cm
          have nf : ¬ forMe w m := fun q => hok q.2.1
          refine i_spec_WorkerTake ?_
          conv => whnf
          refine g 1 3 [] ?_
          conv => whnf
          refine ⟨⟨⟨I, I, I, I, I, I, I, I, I, I, I, I⟩, ⟨I, I⟩, ⟨I, I, I, I, I, I, I, I, I⟩, I, I⟩, ?_⟩
          refine W.sq ?_
          refine g 12 17 [.call (V.b (decide (workerOk w))) ([[]]), .b (false), .b (false), .call (V.i (0 : Int)) ([[]]), .b (false), .b (false)] ?_
          conv => whnf
          refine ⟨⟨I, ⟨⟨I, I⟩, I, ⟨⟨I, I, I, I, I, I, I, I, I, I, I, I⟩, I⟩, ⟨I, I⟩, Go.K.c_spec_ValidWorker _ (by omega)⟩, I, I, ⟨notF (by omega), I⟩, ⟨notF (by omega), ⟨I, I⟩, I, ⟨⟨I, I⟩, I⟩, ⟨I, I⟩, (by assumption)⟩, ⟨notF (by omega), I⟩, notF (by omega), I⟩, ?_⟩
          refine W.cn ?_
          conv => whnf
          refine ⟨noT (rfl), fun _ => ?_⟩
          refine W.skip ?_
          refine g 17 21 [.call (workerO w) ([[]])] ?_
          conv => whnf
          refine ⟨⟨I, ⟨⟨I, I⟩, I, ⟨⟨I, I, I, I, I, I, I, I, I, I, I, I⟩, I⟩, ⟨I, I⟩, Go.K.c_spec_l3Copy _ (by omega)⟩, I, ⟨I, I, I, I, I, I, I, I, I, I, I, I⟩, I⟩, ?_⟩
          refine g 21 23 [] ?_
          conv => whnf
          refine ⟨⟨I, I, I, ⟨I, I, I, I, I, I, I, I, I, I, I, I, I⟩, I⟩, ?_⟩
          refine W.sq ?_
          refine g 23 37 [.b (false), .b (false), .call (V.b false) ([[]]), .b (false), .b (false), .b (true), .b (true), .b (true), .b (true), .b (true), .b (true)] ?_
          conv => whnf
          refine ⟨⟨I, I, I, I, ⟨nbF (by assumption), I⟩, ⟨nbF (by assumption), ⟨I, I⟩, I, ⟨⟨I, I, I, I, I, I, I, I, I⟩, I⟩, ⟨I, I⟩, (by assumption)⟩, ⟨nbF (by assumption), I⟩, nbF (by assumption), I, rfl, rfl, rfl, rfl, rfl, rfl, I⟩, ?_⟩
          refine W.cn ?_
          conv => whnf
          refine ⟨fun _ => ?_, noF (rfl)⟩
          refine g 37 39 [] ?_
          conv => whnf
          refine ⟨⟨I, ⟨I, I, I, I, I, I, I, I, I, I, I, I, I⟩, I⟩, ?_⟩
          refine W.ret ?_
          refine EndsW.rt ?_
          conv => whnf
          refine ⟨⟨I, I, I, I, I, I, I, I, I, I, I, I, I, I⟩, ?_, rfl⟩
          rw [wtake_ok h hc, take_no nf]; all_goals rfl
      · have nf : ¬ forMe w m := fun q => hup q.1
        refine i_spec_WorkerTake ?_
        conv => whnf
        refine g 1 3 [] ?_
        conv => whnf
        refine ⟨⟨⟨I, I, I, I, I, I, I, I, I, I, I, I⟩, ⟨I, I⟩, ⟨I, I, I, I, I, I, I, I, I⟩, I, I⟩, ?_⟩
        refine W.sq ?_
        refine g 12 17 [.call (V.b (decide (workerOk w))) ([[]]), .b (false), .b (false), .call (V.i (0 : Int)) ([[]]), .b (false), .b (false)] ?_
        conv => whnf
        refine ⟨⟨I, ⟨⟨I, I⟩, I, ⟨⟨I, I, I, I, I, I, I, I, I, I, I, I⟩, I⟩, ⟨I, I⟩, Go.K.c_spec_ValidWorker _ (by omega)⟩, I, I, ⟨notF (by omega), I⟩, ⟨notF (by omega), ⟨I, I⟩, I, ⟨⟨I, I⟩, I⟩, ⟨I, I⟩, (by assumption)⟩, ⟨notF (by omega), I⟩, notF (by omega), I⟩, ?_⟩
        refine W.cn ?_
        conv => whnf
        refine ⟨noT (rfl), fun _ => ?_⟩
        refine W.skip ?_
        refine g 17 21 [.call (workerO w) ([[]])] ?_
        conv => whnf
        refine ⟨⟨I, ⟨⟨I, I⟩, I, ⟨⟨I, I, I, I, I, I, I, I, I, I, I, I⟩, I⟩, ⟨I, I⟩, Go.K.c_spec_l3Copy _ (by omega)⟩, I, ⟨I, I, I, I, I, I, I, I, I, I, I, I⟩, I⟩, ?_⟩
        refine g 21 23 [] ?_
        conv => whnf
        refine ⟨⟨I, I, I, ⟨I, I, I, I, I, I, I, I, I, I, I, I, I⟩, I⟩, ?_⟩
        refine W.sq ?_
        refine g 23 37 [.b (true), .b (true), .b (true), .b (true), .b (true), .b (true), .b (true), .b (true), .b (true), .b (true)] ?_
        conv => whnf
        refine ⟨⟨I, I, I, I, (by simp [*]), (by simp [*]), (by simp [*]), (by simp [*]), I, rfl, rfl, rfl, rfl, rfl, rfl, I⟩, ?_⟩
        refine W.cn ?_
        conv => whnf
        refine ⟨fun _ => ?_, noF (rfl)⟩
        refine g 37 39 [] ?_
        conv => whnf
        refine ⟨⟨I, ⟨I, I, I, I, I, I, I, I, I, I, I, I, I⟩, I⟩, ?_⟩
        refine W.ret ?_
        refine EndsW.rt ?_
        conv => whnf
        refine ⟨⟨I, I, I, I, I, I, I, I, I, I, I, I, I, I⟩, ?_, rfl⟩
        rw [wtake_ok h hc, take_no nf]; all_goals rfl
    · rw [wtake_no (fun q => hc q.2)]
      refine i_spec_WorkerTake ?_
      conv => whnf
      refine g 1 3 [] ?_
      conv => whnf
      refine ⟨⟨⟨I, I, I, I, I, I, I, I, I, I, I, I⟩, ⟨I, I⟩, ⟨I, I, I, I, I, I, I, I, I⟩, I, I⟩, ?_⟩
      refine W.sq ?_
      refine g 12 17 [.call (V.b (decide (workerOk w))) ([[]]), .b (false), .b (false), .call (V.i (checkPlan (Plan.tasks p))) ([[]]), .b (false), .b (false)] ?_
      conv => whnf
      refine ⟨⟨I, ⟨⟨I, I⟩, I, ⟨⟨I, I, I, I, I, I, I, I, I, I, I, I⟩, I⟩, ⟨I, I⟩, Go.K.c_spec_ValidWorker _ (by omega)⟩, I, I, ⟨notF (by omega), I⟩, ⟨notF (by omega), ⟨I, I⟩, I, ⟨⟨I, I⟩, I⟩, ⟨I, I⟩, (by assumption)⟩, ⟨notF (by omega), I⟩, notF (by omega), I⟩, ?_⟩
      refine W.cn ?_
      conv => whnf
      refine ⟨fun _ => ?_, noF (notT (by omega))⟩
      refine g 17 19 [] ?_
      conv => whnf
      refine ⟨⟨I, ⟨I, I, I, I, I, I, I, I, I, I, I, I, I⟩, I⟩, ?_⟩
      refine W.ret ?_
      refine EndsW.rt ?_
      conv => whnf
      refine ⟨⟨I, I, I, I, I, I, I, I, I, I, I, I, I, I⟩, ?_, rfl⟩
      rfl
  · rw [wtake_no (fun q => h q.1)]
    refine i_spec_WorkerTake ?_
    conv => whnf
    refine g 1 3 [] ?_
    conv => whnf
    refine ⟨⟨⟨I, I, I, I, I, I, I, I, I, I, I, I⟩, ⟨I, I⟩, ⟨I, I, I, I, I, I, I, I, I⟩, I, I⟩, ?_⟩
    refine W.sq ?_
    refine g 12 17 [.call (V.b (decide (workerOk w))) ([[]]), .b (true), .b (true), .b (true), .b (true)] ?_
    conv => whnf
    refine ⟨⟨I, ⟨⟨I, I⟩, I, ⟨⟨I, I, I, I, I, I, I, I, I, I, I, I⟩, I⟩, ⟨I, I⟩, Go.K.c_spec_ValidWorker _ (by omega)⟩, I, I, notT (by omega), notT (by omega), notT (by omega), notT (by omega), I⟩, ?_⟩
    refine W.cn ?_
    conv => whnf
    refine ⟨fun _ => ?_, noF (rfl)⟩
    refine g 17 19 [] ?_
    conv => whnf
    refine ⟨⟨I, ⟨I, I, I, I, I, I, I, I, I, I, I, I, I⟩, I⟩, ?_⟩
    refine W.ret ?_
    refine EndsW.rt ?_
    conv => whnf
    refine ⟨⟨I, I, I, I, I, I, I, I, I, I, I, I, I, I⟩, ?_, rfl⟩
    rfl
end Go.K

end

section
set_option linter.unusedVariables false
set_option linter.unusedSimpArgs false
set_option maxHeartbeats 4000000
set_option maxRecDepth 20000
open Go Go.Tm Go.Proofs
namespace Go.K
def smallA (n : Nat) (a : Acted) : Prop := a.worker.inputs.length ≤ n ∧ (a.out = [] ∨ ∃ m, a.out = [m] ∧ m.inputs = [])
theorem small_only {n : Nat} {w : Worker} (h : w.inputs.length ≤ n) : smallA n ⟨w, []⟩ := ⟨h, .inl rfl⟩
theorem small_bounds {n : Nat} {a : Acted} (h : smallA n a) (hn : n ≤ 1048576) : a.worker.inputs.length ≤ 1048576 ∧ a.out.length ≤ 1 ∧ actedLen a ∧ actedTopC a ≤ 1048583 ∧ 0 ≤ actedTopC a := by
  obtain ⟨h1, h2⟩ := h
  have e : actedTopC a = workerTopC a.worker + sumI messageC a.out := rfl
  have e2 : workerTopC a.worker = a.worker.inputs.length := rfl
  rcases h2 with h2 | ⟨m, h2, h3⟩
  · rw [h2] at e
    have e3 : sumI messageC ([] : List Message) = 0 := by simp [sumI]
    refine ⟨by omega, by rw [h2]; exact Nat.zero_le _, ⟨by omega, by rw [h2]; exact Nat.zero_le _, by rw [h2]; intro y hy; cases hy⟩, by omega, by omega⟩
  · rw [h2] at e
    have e3 : sumI messageC [m] = 7 := by simp [sumI, messageC_eq, h3]
    refine ⟨by omega, by rw [h2]; exact Nat.le_refl _, ⟨by omega, by rw [h2]; show 1 ≤ 9223372036854775806; omega, ?_⟩, by omega, by omega⟩
    rw [h2]; intro y hy
    rw [List.mem_singleton.1 hy]
    show m.inputs.length ≤ _
    rw [h3]; exact Nat.zero_le _
theorem take_len (w : Worker) (ts : List Task) (m : Message) (h : w.inputs.length ≤ 1048576) : (takeW w ts m).inputs.length ≤ 1048576 := by
  unfold takeW
  split
  · rename_i hf
    split
    · have := (ok_inputs hf.2.1).1; show m.inputs.length ≤ _; omega
    · split
      · exact Nat.zero_le _
      · exact h
  · exact h
theorem wtake_small (w : Worker) (p : Plan) (m : Message) (h : w.inputs.length ≤ 1048576) : smallA 1048576 (wTake w p m) := by
  unfold wTake; split
  · exact small_only (take_len w p.tasks m h)
  · exact small_only (Nat.zero_le _)
theorem l_FnExactWorkerTake (w : Worker) (hw : workerWf w) (p : Plan) (hp : planWf p) (m : Message) (hm : messageWf m) : F n_laws_FnExactWorkerTake [.val (workerR w), .val (planR p), .val (messageR m)] (.b true) [[], [], []] := by
  have c0 := c_laws_szWorker w 1048576 hw (by omega) (by omega)
  have hz : workerSz w = (w.inputs.length + totS w.inputs) + w.text.size := rfl
  have hn := totS_nn w.inputs
  by_cases hq : (1048576 : Int) - workerSz w < 0
  · rw [if_pos hq] at c0
    refine i_laws_FnExactWorkerTake ?_
    conv => whnf
    refine g 0 2 [] ?_
    conv => whnf
    refine ⟨⟨⟨I, I, I, I, I, I, I, I, I, I, I, I⟩, ⟨I, I⟩, ⟨I, I, I, I, I, I, I, I, I⟩, I, I⟩, ?_⟩
    refine g 0 0 [] ?_
    conv => whnf
    refine ⟨⟨I, I⟩, ?_⟩
    refine g 17 20 [.call (V.i (-1 : Int)) ([[], []])] ?_
    conv => whnf
    refine ⟨⟨I, I, ⟨⟨I, I, I⟩, I, ⟨⟨I, I, I, I, I, I, I, I, I, I, I, I⟩, ⟨I, I⟩, I⟩, ⟨I, I⟩, (by assumption)⟩, I, I⟩, ?_⟩
    refine W.sq ?_
    refine g 20 21 [] ?_
    conv => whnf
    refine ⟨⟨I, I, I⟩, ?_⟩
    refine W.cn ?_
    conv => whnf
    refine ⟨fun _ => ?_, noF (rfl)⟩
    refine g 21 22 [] ?_
    conv => whnf
    refine ⟨⟨I, I⟩, ?_⟩
    refine W.ret ?_
    refine EndsW.rt ?_
    conv => whnf
    refine ⟨⟨I, I, I⟩, ?_, rfl⟩
    rfl
  · rw [if_neg hq] at c0
    have c9 := c_laws_szPlan p (1048576 - workerSz w) hp (by omega) (by omega)
    have hpn := planSz_nn p
    by_cases hq2 : (1048576 : Int) - workerSz w - planSz p < 0
    · rw [if_pos hq2] at c9
      refine i_laws_FnExactWorkerTake ?_
      conv => whnf
      refine g 0 2 [] ?_
      conv => whnf
      refine ⟨⟨⟨I, I, I, I, I, I, I, I, I, I, I, I⟩, ⟨I, I⟩, ⟨I, I, I, I, I, I, I, I, I⟩, I, I⟩, ?_⟩
      refine g 0 0 [] ?_
      conv => whnf
      refine ⟨⟨I, I⟩, ?_⟩
      refine g 17 20 [.call (V.i ((1048576 : Int) - workerSz w)) ([[], []])] ?_
      conv => whnf
      refine ⟨⟨I, I, ⟨⟨I, I, I⟩, I, ⟨⟨I, I, I, I, I, I, I, I, I, I, I, I⟩, ⟨I, I⟩, I⟩, ⟨I, I⟩, (by assumption)⟩, I, I⟩, ?_⟩
      refine W.sq ?_
      refine g 20 21 [] ?_
      conv => whnf
      refine ⟨⟨I, I, I⟩, ?_⟩
      refine W.cn ?_
      conv => whnf
      refine ⟨noT (decide_eq_false (by omega)), fun _ => ?_⟩
      refine W.skip ?_
      refine g 21 25 [.call (V.i (-1 : Int)) ([[], []])] ?_
      conv => whnf
      refine ⟨⟨I, I, ⟨⟨I, I, I⟩, I, ⟨⟨I, I⟩, ⟨I, I⟩, I⟩, ⟨I, I⟩, (by assumption)⟩, I, I⟩, ?_⟩
      refine W.sq ?_
      refine g 25 26 [] ?_
      conv => whnf
      refine ⟨⟨I, I, I⟩, ?_⟩
      refine W.cn ?_
      conv => whnf
      refine ⟨fun _ => ?_, noF (rfl)⟩
      refine g 26 27 [] ?_
      conv => whnf
      refine ⟨⟨I, I⟩, ?_⟩
      refine W.ret ?_
      refine EndsW.rt ?_
      conv => whnf
      refine ⟨⟨I, I, I⟩, ?_, rfl⟩
      rfl
    · rw [if_neg hq2] at c9
      have c8 := c_laws_szMessage m (1048576 - workerSz w - planSz p) hm (by omega) (by omega)
      have hmn := messageSz_nn m
      by_cases hq3 : (1048576 : Int) - workerSz w - planSz p - messageSz m < 0
      · rw [if_pos hq3] at c8
        refine i_laws_FnExactWorkerTake ?_
        conv => whnf
        refine g 0 2 [] ?_
        conv => whnf
        refine ⟨⟨⟨I, I, I, I, I, I, I, I, I, I, I, I⟩, ⟨I, I⟩, ⟨I, I, I, I, I, I, I, I, I⟩, I, I⟩, ?_⟩
        refine g 0 0 [] ?_
        conv => whnf
        refine ⟨⟨I, I⟩, ?_⟩
        refine g 17 20 [.call (V.i ((1048576 : Int) - workerSz w)) ([[], []])] ?_
        conv => whnf
        refine ⟨⟨I, I, ⟨⟨I, I, I⟩, I, ⟨⟨I, I, I, I, I, I, I, I, I, I, I, I⟩, ⟨I, I⟩, I⟩, ⟨I, I⟩, (by assumption)⟩, I, I⟩, ?_⟩
        refine W.sq ?_
        refine g 20 21 [] ?_
        conv => whnf
        refine ⟨⟨I, I, I⟩, ?_⟩
        refine W.cn ?_
        conv => whnf
        refine ⟨noT (decide_eq_false (by omega)), fun _ => ?_⟩
        refine W.skip ?_
        refine g 21 25 [.call (V.i ((1048576 : Int) - workerSz w - planSz p)) ([[], []])] ?_
        conv => whnf
        refine ⟨⟨I, I, ⟨⟨I, I, I⟩, I, ⟨⟨I, I⟩, ⟨I, I⟩, I⟩, ⟨I, I⟩, (by assumption)⟩, I, I⟩, ?_⟩
        refine W.sq ?_
        refine g 25 26 [] ?_
        conv => whnf
        refine ⟨⟨I, I, I⟩, ?_⟩
        refine W.cn ?_
        conv => whnf
        refine ⟨noT (decide_eq_false (by omega)), fun _ => ?_⟩
        refine W.skip ?_
        refine g 26 30 [.call (V.i (-1 : Int)) ([[], []])] ?_
        conv => whnf
        refine ⟨⟨I, I, ⟨⟨I, I, I⟩, I, ⟨⟨I, I, I, I, I, I, I, I, I⟩, ⟨I, I⟩, I⟩, ⟨I, I⟩, (by assumption)⟩, I, I⟩, ?_⟩
        refine W.sq ?_
        refine g 7 31 [] ?_
        conv => whnf
        refine ⟨⟨I, I, I⟩, ?_⟩
        refine W.cn ?_
        conv => whnf
        refine ⟨fun _ => ?_, noF (rfl)⟩
        refine g 31 32 [] ?_
        conv => whnf
        refine ⟨⟨I, I⟩, ?_⟩
        refine W.ret ?_
        refine EndsW.rt ?_
        conv => whnf
        refine ⟨⟨I, I, I⟩, ?_, rfl⟩
        rfl
      · rw [if_neg hq3] at c8
        have hl2 := planLen_of (a := p) (by omega)
        obtain ⟨hl3, hl4⟩ := planC_le (p := p) (by omega)
        have hl6 := planTopC_nn p
        have hl : w.inputs.length ≤ 1048576 := by omega
        have hl7 : workerLen w := workerLen_of (a := w) (by omega)
        have hc : workerTopC w = w.inputs.length := rfl
        have hm1 : messageLen m := messageLen_of (a := m) (by omega)
        have hm2 : m.inputs.length ≤ 9223372036854775806 := hm1
        have hm3 : messageSz m = m.text.size + (m.inputs.length + totS m.inputs) := rfl
        have hm4 := totS_nn m.inputs
        have hm5 : messageTopC m = m.inputs.length := rfl
        obtain ⟨b1, b2, b3, b4, b5⟩ := small_bounds (wtake_small w p m hl) (Nat.le_refl _)
        refine i_laws_FnExactWorkerTake ?_
        conv => whnf
        refine g 0 2 [] ?_
        conv => whnf
        refine ⟨⟨⟨I, I, I, I, I, I, I, I, I, I, I, I⟩, ⟨I, I⟩, ⟨I, I, I, I, I, I, I, I, I⟩, I, I⟩, ?_⟩
        refine g 0 0 [] ?_
        conv => whnf
        refine ⟨⟨I, I⟩, ?_⟩
        refine g 17 20 [.call (V.i ((1048576 : Int) - workerSz w)) ([[], []])] ?_
        conv => whnf
        refine ⟨⟨I, I, ⟨⟨I, I, I⟩, I, ⟨⟨I, I, I, I, I, I, I, I, I, I, I, I⟩, ⟨I, I⟩, I⟩, ⟨I, I⟩, (by assumption)⟩, I, I⟩, ?_⟩
        refine W.sq ?_
        refine g 20 21 [] ?_
        conv => whnf
        refine ⟨⟨I, I, I⟩, ?_⟩
        refine W.cn ?_
        conv => whnf
        refine ⟨noT (decide_eq_false (by omega)), fun _ => ?_⟩
        refine W.skip ?_
        refine g 21 25 [.call (V.i ((1048576 : Int) - workerSz w - planSz p)) ([[], []])] ?_
        conv => whnf
        refine ⟨⟨I, I, ⟨⟨I, I, I⟩, I, ⟨⟨I, I⟩, ⟨I, I⟩, I⟩, ⟨I, I⟩, (by assumption)⟩, I, I⟩, ?_⟩
        refine W.sq ?_
        refine g 25 26 [] ?_
        conv => whnf
        refine ⟨⟨I, I, I⟩, ?_⟩
        refine W.cn ?_
        conv => whnf
        refine ⟨noT (decide_eq_false (by omega)), fun _ => ?_⟩
        refine W.skip ?_
        refine g 26 30 [.call (V.i ((1048576 : Int) - workerSz w - planSz p - messageSz m)) ([[], []])] ?_
        conv => whnf
        refine ⟨⟨I, I, ⟨⟨I, I, I⟩, I, ⟨⟨I, I, I, I, I, I, I, I, I⟩, ⟨I, I⟩, I⟩, ⟨I, I⟩, (by assumption)⟩, I, I⟩, ?_⟩
        refine W.sq ?_
        refine g 7 31 [] ?_
        conv => whnf
        refine ⟨⟨I, I, I⟩, ?_⟩
        refine W.cn ?_
        conv => whnf
        refine ⟨noT (decide_eq_false (by omega)), fun _ => ?_⟩
        refine W.skip ?_
        refine gd 31 39 [[], [.call (workerO w) ([[]])], [], [.call (planO p) ([[]])], [], [.call (messageO m) ([[]])], [.call (actedO (wTake w p m)) ([[], [], []])], [], []] ?_
        conv => whnf
        refine ⟨⟨I, ⟨⟨I, I⟩, I, ⟨⟨I, I, I, I, I, I, I, I, I, I, I, I⟩, I⟩, ⟨I, I⟩, Go.K.c_laws_toWorker _ (by omega)⟩, I, ⟨⟨I, I⟩, I, ⟨⟨I, I⟩, I⟩, ⟨I, I⟩, Go.K.c_laws_toPlan _ (by omega)⟩, I, ⟨⟨I, I⟩, I, ⟨⟨I, I, I, I, I, I, I, I, I⟩, I⟩, ⟨I, I⟩, Go.K.c_laws_toMessage _ (by omega)⟩, ⟨⟨I, I, I, I⟩, I, ⟨⟨I, I, I, I, I, I, I, I, I, I, I, I⟩, ⟨I, I⟩, ⟨I, I, I, I, I, I, I, I, I⟩, I⟩, ⟨I, I⟩, Go.K.c_spec_WorkerTake _ _ _ (by omega) (by omega) (by omega)⟩, I, ⟨I, I, I, I, I, I, I, I, I, I, I, I, I⟩, I⟩, by kernel_rfl, ?_⟩
        refine g 39 41 [.call (workerO w) ([[]])] ?_
        conv => whnf
        refine ⟨⟨I, ⟨⟨I, I⟩, I, ⟨⟨I, I, I, I, I, I, I, I, I, I, I, I⟩, I⟩, ⟨I, I⟩, Go.K.c_laws_toWorker _ (by omega)⟩, I, ⟨I, I, I, I, I, I, I, I, I, I, I, I⟩, I⟩, ?_⟩
        refine g 41 43 [.call (planO p) ([[]])] ?_
        conv => whnf
        refine ⟨⟨I, ⟨⟨I, I⟩, I, ⟨⟨I, I⟩, I⟩, ⟨I, I⟩, Go.K.c_laws_toPlan _ (by omega)⟩, I, ⟨I, I⟩, I⟩, ?_⟩
        refine g 43 45 [.call (messageO m) ([[]])] ?_
        conv => whnf
        refine ⟨⟨I, ⟨⟨I, I⟩, I, ⟨⟨I, I, I, I, I, I, I, I, I⟩, I⟩, ⟨I, I⟩, Go.K.c_laws_toMessage _ (by omega)⟩, I, ⟨I, I, I, I, I, I, I, I, I⟩, I⟩, ?_⟩
        refine g 45 49 [.call (actedO (wTake w p m)) ([[], [], []])] ?_
        conv => whnf
        refine ⟨⟨I, I, I, ⟨⟨I, I, I, I⟩, I, ⟨⟨I, I, I, I, I, I, I, I, I, I, I, I⟩, ⟨I, I⟩, ⟨I, I, I, I, I, I, I, I, I⟩, I⟩, ⟨I, I⟩, Go.K.c_impl_WorkerTake _ _ _ (by omega) (by omega) (by omega)⟩, I, ⟨I, I, I, I, I, I, I, I, I, I, I, I, I⟩, I⟩, ?_⟩
        refine W.sq ?_
        refine g 49 52 [.call (V.b (decide (wTake w p m = wTake w p m))) ([[], []])] ?_
        conv => whnf
        refine ⟨⟨I, I, ⟨⟨I, I, I⟩, I, ⟨⟨I, I, I, I, I, I, I, I, I, I, I, I, I⟩, ⟨I, I, I, I, I, I, I, I, I, I, I, I, I⟩, I⟩, ⟨I, I⟩, Go.K.c_laws_eqActed _ _ (by omega)⟩, I, I⟩, ?_⟩
        refine W.cn ?_
        conv => whnf
        refine ⟨noT (notF rfl), fun _ => ?_⟩
        refine W.skip ?_
        refine W.sq ?_
        refine gd 52 57 [[], [], [.call (workerO w) ([[]])], [.call (V.b (decide (w = w))) ([[], []])], []] ?_
        conv => whnf
        refine ⟨⟨I, I, ⟨⟨I, I⟩, I, ⟨⟨I, I, I, I, I, I, I, I, I, I, I, I⟩, I⟩, ⟨I, I⟩, Go.K.c_laws_toWorker _ (by omega)⟩, ⟨⟨I, I, I⟩, I, ⟨⟨I, I, I, I, I, I, I, I, I, I, I, I⟩, ⟨I, I, I, I, I, I, I, I, I, I, I, I⟩, I⟩, ⟨I, I⟩, Go.K.c_laws_eqWorker _ _ (by omega)⟩, I, I⟩, by kernel_rfl, ?_⟩
        refine W.cn ?_
        conv => whnf
        refine ⟨noT (notF rfl), fun _ => ?_⟩
        refine W.skip ?_
        refine W.sq ?_
        refine gd 57 62 [[], [], [.call (planO p) ([[]])], [.call (V.b (decide (p = p))) ([[], []])], []] ?_
        conv => whnf
        refine ⟨⟨I, I, ⟨⟨I, I⟩, I, ⟨⟨I, I⟩, I⟩, ⟨I, I⟩, Go.K.c_laws_toPlan _ (by omega)⟩, ⟨⟨I, I, I⟩, I, ⟨⟨I, I⟩, ⟨I, I⟩, I⟩, ⟨I, I⟩, Go.K.c_laws_eqPlan _ _ (by omega)⟩, I, I⟩, by kernel_rfl, ?_⟩
        refine W.cn ?_
        conv => whnf
        refine ⟨noT (notF rfl), fun _ => ?_⟩
        refine W.skip ?_
        refine W.sq ?_
        refine gd 62 67 [[], [], [.call (messageO m) ([[]])], [.call (V.b (decide (m = m))) ([[], []])], []] ?_
        conv => whnf
        refine ⟨⟨I, I, ⟨⟨I, I⟩, I, ⟨⟨I, I, I, I, I, I, I, I, I⟩, I⟩, ⟨I, I⟩, Go.K.c_laws_toMessage _ (by omega)⟩, ⟨⟨I, I, I⟩, I, ⟨⟨I, I, I, I, I, I, I, I, I⟩, ⟨I, I, I, I, I, I, I, I, I⟩, I⟩, ⟨I, I⟩, Go.K.c_laws_eqMessage _ _ (by omega)⟩, I, I⟩, by kernel_rfl, ?_⟩
        refine W.cn ?_
        conv => whnf
        refine ⟨noT (notF rfl), fun _ => ?_⟩
        refine W.skip ?_
        refine g 67 68 [] ?_
        conv => whnf
        refine ⟨⟨I, I⟩, ?_⟩
        refine g 68 71 [.call (V.i ((1 : Int) + workerTopC w)) ([cellsOf (workerO (workerTop (1 : Int) w)), []])] ?_
        conv => whnf
        refine ⟨⟨I, I, ⟨⟨⟨I, I, I, I, I, I, I, I, I, I, I, I⟩, I, I⟩, I, ⟨I, ⟨I, I⟩, I⟩, ⟨I, I⟩, Go.K.c_laws_markWorker _ _ (by omega) (by omega) (by omega)⟩, I, I⟩, ?_⟩
        refine g 71 74 [.call (V.i ((1 : Int) + workerTopC w + planTopC p)) ([cellsOf (planO (planTop ((1 : Int) + workerTopC w) p)), []])] ?_
        conv => whnf
        refine ⟨⟨I, I, ⟨⟨⟨I, I⟩, I, I⟩, I, ⟨I, ⟨I, I⟩, I⟩, ⟨I, I⟩, Go.K.c_laws_markPlan _ _ (by omega) (by omega) (by omega)⟩, I, I⟩, ?_⟩
        refine g 9 12 [.call (V.i ((1 : Int) + workerTopC w + planTopC p + messageTopC m)) ([cellsOf (messageO (messageTop ((1 : Int) + workerTopC w + planTopC p) m)), []])] ?_
        conv => whnf
        refine ⟨⟨I, I, ⟨⟨⟨I, I, I, I, I, I, I, I, I⟩, I, I⟩, I, ⟨I, ⟨I, I⟩, I⟩, ⟨I, I⟩, Go.K.c_laws_markMessage _ _ (by omega) (by omega) (by omega)⟩, I, I⟩, ?_⟩
        refine W.sq ?_
        refine g 13 84 [.b (false), .b (false), .b (false), .call (V.b (decide (wTake w p m = wTake w p m))) ([[], []]), .b (false), .b (false)] ?_
        conv => whnf
        refine ⟨⟨I, I, I, ⟨decide_eq_false (by omega), I⟩, ⟨decide_eq_false (by omega), I⟩, ⟨decide_eq_false (by omega), ⟨I, I, I⟩, I, ⟨⟨I, I, I, I, I, I, I, I, I, I, I, I, I⟩, ⟨I, I, I, I, I, I, I, I, I, I, I, I, I⟩, I⟩, ⟨I, I⟩, Go.K.c_laws_eqActed _ _ (by omega)⟩, ⟨decide_eq_false (by omega), I⟩, decide_eq_false (by omega), I⟩, ?_⟩
        refine W.cn ?_
        conv => whnf
        refine ⟨noT (by assumption), fun _ => ?_⟩
        refine W.skip ?_
        refine g 2 3 [] ?_
        conv => whnf
        refine ⟨⟨I, I⟩, ?_⟩
        refine g 84 88 [.call (V.i ((1 : Int) + actedTopC (wTake w p m))) ([cellsOf (actedO (actedTop (1 : Int) (wTake w p m))), []])] ?_
        conv => whnf
        refine ⟨⟨I, I, ⟨⟨⟨I, I, I, I, I, I, I, I, I, I, I, I, I⟩, I, I⟩, I, ⟨I, ⟨I, I⟩, I⟩, ⟨I, I⟩, Go.K.c_laws_markActed _ _ (by omega) (by omega) (by omega)⟩, I, I⟩, ?_⟩
        refine g 0 0 [] ?_
        conv => whnf
        refine ⟨⟨I, I⟩, ?_⟩
        refine g 88 91 [.call (V.i ((1 : Int) + actedTopC (wTake w p m))) ([[], []])] ?_
        conv => whnf
        refine ⟨⟨I, I, ⟨⟨I, I, I⟩, I, ⟨⟨I, I, I, I, I, I, I, I, I, I, I, I, I⟩, ⟨I, I⟩, I⟩, ⟨I, I⟩, Go.K.c_laws_heldActed _ _ (by omega) (by omega) (by omega)⟩, I, I⟩, ?_⟩
        refine W.sq ?_
        refine g 91 92 [] ?_
        conv => whnf
        refine ⟨⟨I, I, I⟩, ?_⟩
        refine W.cn ?_
        conv => whnf
        refine ⟨noT (decide_eq_false (by omega)), fun _ => ?_⟩
        refine W.skip ?_
        refine W.sq ?_
        refine g 92 95 [] ?_
        conv => whnf
        refine ⟨⟨I, I, I, I⟩, ?_⟩
        refine W.cn ?_
        conv => whnf
        refine ⟨noT (notF (by omega)), fun _ => ?_⟩
        refine W.skip ?_
        refine gd 95 103 [[], [.call (workerO w) ([[]])], [], [.call (planO p) ([[]])], [], [.call (messageO m) ([[]])], [.call (actedO (wTake w p m)) ([[], [], []])], [], []] ?_
        conv => whnf
        refine ⟨⟨I, ⟨⟨I, I⟩, I, ⟨⟨I, I, I, I, I, I, I, I, I, I, I, I⟩, I⟩, ⟨I, I⟩, Go.K.c_laws_toWorker _ (by omega)⟩, I, ⟨⟨I, I⟩, I, ⟨⟨I, I⟩, I⟩, ⟨I, I⟩, Go.K.c_laws_toPlan _ (by omega)⟩, I, ⟨⟨I, I⟩, I, ⟨⟨I, I, I, I, I, I, I, I, I⟩, I⟩, ⟨I, I⟩, Go.K.c_laws_toMessage _ (by omega)⟩, ⟨⟨I, I, I, I⟩, I, ⟨⟨I, I, I, I, I, I, I, I, I, I, I, I⟩, ⟨I, I⟩, ⟨I, I, I, I, I, I, I, I, I⟩, I⟩, ⟨I, I⟩, Go.K.c_impl_WorkerTake _ _ _ (by omega) (by omega) (by omega)⟩, I, ⟨I, I, I, I, I, I, I, I, I, I, I, I, I⟩, I⟩, by kernel_rfl, ?_⟩
        refine W.sq ?_
        refine g 16 106 [.call (V.b (decide (wTake w p m = wTake w p m))) ([[], []])] ?_
        conv => whnf
        refine ⟨⟨I, I, ⟨⟨I, I, I⟩, I, ⟨⟨I, I, I, I, I, I, I, I, I, I, I, I, I⟩, ⟨I, I, I, I, I, I, I, I, I, I, I, I, I⟩, I⟩, ⟨I, I⟩, Go.K.c_laws_eqActed _ _ (by omega)⟩, I, I⟩, ?_⟩
        refine W.cn ?_
        conv => whnf
        refine ⟨noT (by assumption), fun _ => ?_⟩
        refine W.skip ?_
        refine g 3 4 [] ?_
        conv => whnf
        refine ⟨⟨I, I⟩, ?_⟩
        refine g 106 110 [.call (V.i ((1 : Int) + actedTopC (wTake w p m))) ([[], []])] ?_
        conv => whnf
        refine ⟨⟨I, I, ⟨⟨I, I, I⟩, I, ⟨⟨I, I, I, I, I, I, I, I, I, I, I, I, I⟩, ⟨I, I⟩, I⟩, ⟨I, I⟩, Go.K.c_laws_heldActed _ _ (by omega) (by omega) (by omega)⟩, I, I⟩, ?_⟩
        refine W.sq ?_
        refine g 8 13 [] ?_
        conv => whnf
        refine ⟨⟨I, I, I⟩, ?_⟩
        refine W.cn ?_
        conv => whnf
        refine ⟨noT (by assumption), fun _ => ?_⟩
        refine W.skip ?_
        refine W.sq ?_
        refine g 14 114 [] ?_
        conv => whnf
        refine ⟨⟨I, I, I, I⟩, ?_⟩
        refine W.cn ?_
        conv => whnf
        refine ⟨noT (by assumption), fun _ => ?_⟩
        refine W.skip ?_
        refine g 5 6 [] ?_
        conv => whnf
        refine ⟨⟨I, I⟩, ?_⟩
        refine W.ret ?_
        refine EndsW.rt ?_
        conv => whnf
        refine ⟨⟨I, I, I⟩, ?_, rfl⟩
        rfl
end Go.K

end

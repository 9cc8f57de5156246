/- Contracts of functions of the program: what each call answers. -/
import Derived.Test.YtcccigapbalidaaN
set_option linter.unusedVariables false
set_option linter.unusedSimpArgs false
set_option maxHeartbeats 4000000
set_option maxRecDepth 20000
open Go Go.Tm Go.Proofs
namespace Go.K
structure Message where
  kind : Int
  frm : Int
  to : Int
  epoch : Int
  lease : Int
  task : Int
  text : ByteArray
  inputs : List ByteArray
  deriving DecidableEq
abbrev messageT (x : Message) : List T := [.i x.kind, .i x.frm, .i x.to, .i x.epoch, .i x.lease, .i x.task, .s x.text, .slc [false] (x.inputs.map strT)]
abbrev messageR (x : Message) : V := .agg [.t (.i x.kind), .t (.i x.frm), .t (.i x.to), .t (.i x.epoch), .t (.i x.lease), .t (.i x.task), .t (.s x.text), .t (.slc [false] (x.inputs.map strT))]
abbrev messageO (x : Message) : V := .agg [.t (.i x.kind), .t (.i x.frm), .t (.i x.to), .t (.i x.epoch), .t (.i x.lease), .t (.i x.task), .t (.s x.text), .own [false] (x.inputs.map strT)]
abbrev messageK : List Bool := [false, false, false, false, false, false, false, true]
abbrev noMessage : Message := ⟨0, 0, 0, 0, 0, 0, emp, []⟩
def messageSz (x : Message) : Int := (x.text.size : Int) + ((x.inputs.length : Int) + totS x.inputs)
theorem messageSz_nn (x : Message) : 0 ≤ messageSz x := by
  have hn0 := totS_nn x.inputs
  simp only [messageSz]; omega
def messageWf (x : Message) : Prop := x.text.size ≤ 9223372036854775807 ∧ x.inputs.length ≤ 9223372036854775807 ∧ (∀ s ∈ x.inputs, s.size ≤ 9223372036854775807)
def sumT (s : ByteArray) : ByteArray := bl (beL (fnvA h0v s) 8)
theorem sumT_size (s : ByteArray) : (sumT s).size = 8 := by unfold sumT; rw [bl_size, beL_len]
def nul : ByteArray := ⟨#[0]⟩
def sealT (body key : ByteArray) : ByteArray := sumT (key ++ nul ++ body)
theorem sealT_eq (body key : ByteArray) : bl (beL (fnvA (fnvA (fnvA h0v key) nul) body) 8) = sealT body key := by unfold sealT sumT; rw [fnvA_app, fnvA_app]
theorem fnvA_bd2 (v : Int) (s : ByteArray) (h : 0 ≤ v ∧ v ≤ 18446744073709551615) : 0 ≤ fnvA v s ∧ fnvA v s ≤ 18446744073709551615 := fold_bd _ _ h
theorem c_impl_seal (body key : ByteArray) (h1 : body.size ≤ 9223372036854775807) (h2 : key.size ≤ 9223372036854775807) : F n_impl_seal [.val (.s body), .val (.s key)] (.s (sealT body key)) [[], []] := by
  have hb := fnvA_bd2 (fnvA (fnvA h0v key) nul) body (fnvA_bd2 _ _ (fnvA_bd key))
  have e1 := fnvs_all h0v key
  have e2 := fnvs_all (fnvA h0v key) nul
  have e3 := fnvs_all (fnvA (fnvA h0v key) nul) body
  have c1 := c_impl_hash_bytes h0v key h2
  rw [e1] at c1
  have c2 := c_impl_hash_bytes (fnvA h0v key) nul (by decide)
  rw [e2] at c2
  have c3 := c_impl_hash_bytes (fnvA (fnvA h0v key) nul) body h1
  rw [e3] at c3
  have c4 := c_impl_hash_text (fnvA (fnvA (fnvA h0v key) nul) body) hb.1 hb.2
  rw [sealT_eq] at c4
  refine i_impl_seal ?_
  conv => whnf
  refine g 0 0 [] ?_
  conv => whnf
  refine ⟨⟨I, I⟩, ?_⟩
  refine g 0 0 [] ?_
  conv => whnf
  refine ⟨⟨I, ⟨I, I⟩, I⟩, ?_⟩
  refine g 6 8 [.call (V.tup []) ([[u8v (fnvA h0v key)], []])] ?_
  conv => whnf
  refine ⟨⟨I, ⟨⟨I, I, I⟩, I, ⟨I, ⟨I, I⟩, I⟩, ⟨I, I⟩, (by assumption)⟩, I⟩, ?_⟩
  refine g 1 2 [.call (V.tup []) ([[u8v (fnvA (fnvA h0v key) nul)], []])] ?_
  conv => whnf
  refine ⟨⟨⟨⟨I, I, I⟩, I, ⟨I, ⟨I, I⟩, I⟩, ⟨I, I⟩, (by assumption)⟩, I⟩, ?_⟩
  refine g 0 1 [.call (V.tup []) ([[u8v (fnvA (fnvA (fnvA h0v key) nul) body)], []])] ?_
  conv => whnf
  refine ⟨⟨I, ⟨⟨I, I, I⟩, I, ⟨I, ⟨I, I⟩, I⟩, ⟨I, I⟩, (by assumption)⟩, I⟩, ?_⟩
  refine g 10 13 [.call (V.s (sealT body key)) ([[]])] ?_
  conv => whnf
  refine ⟨⟨I, ⟨⟨I, I⟩, I, ⟨⟨I, I⟩, I⟩, ⟨I, I⟩, (by assumption)⟩, I, I⟩, ?_⟩
  refine W.ret ?_
  refine EndsW.rt ?_
  conv => whnf
  refine ⟨⟨I, I, I⟩, ?_, rfl⟩
  rfl
def leaseOk (n : Int) : Prop := 1 ≤ n ∧ n ≤ 300000000
def msgOk (m : Message) : Prop := (1 ≤ m.epoch ∧ m.epoch ≤ 300) ∧
  ((m.kind = 1 ∧ m.frm = 0 ∧ (1 ≤ m.to ∧ m.to ≤ 8) ∧ (1 ≤ m.lease ∧ m.lease ≤ 300000000) ∧ (0 ≤ m.task ∧ m.task ≤ 39) ∧ m.text = emp ∧ eights m.inputs) ∨
   (m.kind = 2 ∧ m.to = 0 ∧ (1 ≤ m.frm ∧ m.frm ≤ 8) ∧ (1 ≤ m.lease ∧ m.lease ≤ 300000000) ∧ m.task = 0 ∧ m.text = emp ∧ (m.inputs.length : Int) = 0) ∨
   (m.kind = 3 ∧ m.to = 0 ∧ (1 ≤ m.frm ∧ m.frm ≤ 8) ∧ (1 ≤ m.lease ∧ m.lease ≤ 300000000) ∧ (0 ≤ m.task ∧ m.task ≤ 39) ∧ (m.text.size : Int) = 8 ∧ (m.inputs.length : Int) = 0) ∨
   (m.kind = 4 ∧ m.frm = 0 ∧ (1 ≤ m.to ∧ m.to ≤ 8) ∧ (1 ≤ m.lease ∧ m.lease ≤ 300000000) ∧ m.task = 0 ∧ m.text = emp ∧ (m.inputs.length : Int) = 0) ∨
   (m.kind = 5 ∧ m.to = 0 ∧ (1 ≤ m.frm ∧ m.frm ≤ 8) ∧ m.lease = 0 ∧ m.task = 0 ∧ m.text = emp ∧ (m.inputs.length : Int) = 0))
instance (m : Message) : Decidable (msgOk m) := by unfold msgOk; infer_instance
theorem c_impl_Message_valid (m : Message) (hl : m.inputs.length ≤ 9223372036854775806) : F n_impl_Message_valid [.val (messageR m)] (.b (decide (msgOk m))) [[]] := by
  refine i_impl_Message_valid ?_
  conv => whnf
  refine g 0 1 [] ?_
  conv => whnf
  refine ⟨⟨⟨I, I, I, I, I, I, I, I, I⟩, I, I⟩, ?_⟩
  refine g 0 0 [] ?_
  conv => whnf
  refine ⟨⟨I, I, I, I, I, I⟩, ?_⟩
  refine W.sq ?_
  refine g 0 0 [] ?_
  conv => whnf
  refine ⟨⟨I, I, I⟩, ?_⟩
  refine W.blk ?_
  refine g 13 14 [] ?_
  conv => whnf
  refine ⟨⟨I, I, I⟩, ?_⟩
  refine W.cn ?_
  conv => whnf
  refine ⟨fun h1 => ?_, fun h1 => ?_⟩
  replace h1 := dt h1
  refine rg [] ?_
  conv => whnf
  refine ⟨⟨I, I, I, I, I⟩, ?_⟩
  refine gd 11 26 [[], [], [], [], [], []] ?_
  conv => whnf
  refine ⟨⟨I, I, I, I, I, I, I⟩, by kernel_rfl, ?_⟩
  refine W.sq ?_
  refine g 0 0 [] ?_
  conv => whnf
  refine ⟨⟨I, I⟩, ?_⟩
  refine W.cn ?_
  conv => whnf
  refine ⟨fun _ => ?_, noF (rfl)⟩
  refine rgd [[], [], [], [], [], []] ?_
  conv => whnf
  refine ⟨⟨I, I, I, I, I, I, I⟩, by kernel_rfl, ?_⟩
  refine W.sq ?_
  by_cases h2 : Message.frm m = (0 : Int)
  by_cases h3 : (1 : Int) ≤ Message.to m ∧ Message.to m ≤ (8 : Int)
  refine g 26 43 [.b (false), .b (false), .call (V.b (decide ((1 : Int) ≤ Message.to m ∧ Message.to m ≤ (8 : Int)))) ([[], [], []]), .b (false), .b (false), .b (false), .b (false), .b (false), .call (V.b (decide ((1 : Int) ≤ Message.epoch m ∧ Message.epoch m ≤ (300 : Int)))) ([[], [], []]), .b (false), .b (false)] ?_
  conv => whnf
  refine ⟨⟨I, I, I, ⟨notF (by omega), I⟩, ⟨notF (by omega), ⟨I, I, I, I⟩, I, ⟨⟨I, I⟩, ⟨I, I⟩, ⟨I, I⟩, I⟩, ⟨I, I⟩, Go.K.c_impl_within _ _ _⟩, ⟨notF (by omega), I⟩, notF (by omega), I, ⟨notF (by omega), I⟩, ⟨notF (by omega), I⟩, ⟨notF (by omega), ⟨I, I, I, I⟩, I, ⟨⟨I, I⟩, ⟨I, I⟩, ⟨I, I⟩, I⟩, ⟨I, I⟩, Go.K.c_impl_within _ _ _⟩, ⟨notF (by omega), I⟩, notF (by omega), I⟩, ?_⟩
  refine W.cn ?_
  conv => whnf
  refine ⟨fun h4 => ?_, fun h4 => ?_⟩
  replace h4 := ndt h4
  refine g 8 9 [] ?_
  conv => whnf
  refine ⟨⟨I, I⟩, ?_⟩
  refine W.ret ?_
  refine EndsW.rt ?_
  conv => whnf
  refine ⟨⟨I, I, I⟩, ?_, rfl⟩
  rotate_left 1
  replace h4 := ndf h4
  refine W.skip ?_
  refine W.sq ?_
  by_cases h5 : (1 : Int) ≤ Message.lease m ∧ Message.lease m ≤ (300000000 : Int)
  refine g 43 59 [.b (true), .b (true), .b (true), .call (V.b (decide ((1 : Int) ≤ Message.lease m ∧ Message.lease m ≤ (300000000 : Int)))) ([[], [], []]), .b (true), .b (true), .b (false), .b (false), .b (false), .b (false), .b (false), .b (false), .b (false), .b (false), .b (false)] ?_
  conv => whnf
  refine ⟨⟨I, I, ⟨rfl, I⟩, ⟨rfl, I⟩, ⟨rfl, ⟨I, I, I, I⟩, I, ⟨⟨I, I⟩, ⟨I, I⟩, ⟨I, I⟩, I⟩, ⟨I, I⟩, Go.K.c_impl_within _ _ _⟩, ⟨rfl, I⟩, rfl, I, ⟨notF (by omega), I⟩, ⟨notF (by omega), I⟩, ⟨notF (by omega), I⟩, rfl, rfl, rfl, ⟨notF (by omega), rfl⟩, notF (by omega), I⟩, ?_⟩
  refine W.cn ?_
  conv => whnf
  refine ⟨noT (rfl), fun _ => ?_⟩
  refine W.skip ?_
  refine W.sq ?_
  by_cases h6 : (0 : Int) ≤ Message.task m ∧ Message.task m ≤ (39 : Int)
  refine g 59 75 [.b (true), .b (true), .b (true), .call (V.b (decide ((0 : Int) ≤ Message.task m ∧ Message.task m ≤ (39 : Int)))) ([[], [], []]), .b (true), .b (true), .b (false), .b (false), .b (false), .b (false), .b (false), .b (false), .b (false), .b (false), .b (false)] ?_
  conv => whnf
  refine ⟨⟨I, I, ⟨rfl, I⟩, ⟨rfl, I⟩, ⟨rfl, ⟨I, I, I, I⟩, I, ⟨⟨I, I⟩, ⟨I, I⟩, ⟨I, I⟩, I⟩, ⟨I, I⟩, Go.K.c_impl_within _ _ _⟩, ⟨rfl, I⟩, rfl, I, ⟨notF (by omega), I⟩, ⟨notF (by omega), I⟩, ⟨notF (by omega), I⟩, rfl, rfl, rfl, ⟨notF (by omega), rfl⟩, notF (by omega), I⟩, ?_⟩
  refine W.cn ?_
  conv => whnf
  refine ⟨noT (rfl), fun _ => ?_⟩
  refine W.skip ?_
  refine W.sq ?_
  refine g 10 91 [.b (false), .b (false), .b (false), .b (false), .b (false), .b (false), .b (false), .b (false), .b (true), .b (true), .b (true), .b (false), .b (true), .b (false)] ?_
  conv => whnf
  refine ⟨⟨I, I, rfl, rfl, rfl, rfl, rfl, I, ⟨rfl, I⟩, ⟨rfl, I⟩, ⟨rfl, I⟩, ⟨rfl, I⟩, ⟨rfl, I⟩, ⟨rfl, I⟩, ⟨rfl, rfl⟩, rfl, I⟩, ?_⟩
  refine W.cn ?_
  conv => whnf
  refine ⟨fun h7 => ?_, fun h7 => ?_⟩
  replace h7 := ndt h7
  refine g 7 9 [] ?_
  conv => whnf
  refine ⟨⟨I, I⟩, ?_⟩
  refine W.ret ?_
  refine EndsW.rt ?_
  conv => whnf
  refine ⟨⟨I, I, I⟩, ?_, rfl⟩
  rotate_left 1
  replace h7 := ndf h7
  refine W.skip ?_
  by_cases h8 : eights (Message.inputs m)
  refine g 5 108 [.b (true), .b (true), .b (true), .call (V.b (decide (eights (Message.inputs m)))) ([[]]), .b (true), .b (true), .b (true), .b (true), .b (false), .b (false), .b (false), .b (false), .b (true), .b (true)] ?_
  conv => whnf
  refine ⟨⟨I, I, ⟨rfl, I⟩, ⟨rfl, I⟩, ⟨rfl, ⟨I, I⟩, I, ⟨⟨I, I⟩, I⟩, ⟨I, I⟩, Go.K.c_impl_eights _ (by omega)⟩, rfl, I, decide_eq_true (by omega), decide_eq_true (by omega), decide_eq_true (by omega), I, I, I, I, decide_eq_true (by omega), decide_eq_true (by omega), I, I⟩, ?_⟩
  refine W.ret ?_
  refine EndsW.rt ?_
  conv => whnf
  refine ⟨⟨I, I, I⟩, ?_, rfl⟩
  rotate_left 1
  refine g 5 108 [.b (true), .b (true), .b (true), .call (V.b (decide (eights (Message.inputs m)))) ([[]]), .b (true), .b (false), .b (false), .b (false), .b (false), .b (false), .b (false), .b (false), .b (false), .b (false), .b (false)] ?_
  conv => whnf
  refine ⟨⟨I, I, ⟨rfl, I⟩, ⟨rfl, I⟩, ⟨rfl, ⟨I, I⟩, I, ⟨⟨I, I⟩, I⟩, ⟨I, I⟩, Go.K.c_impl_eights _ (by omega)⟩, rfl, I, ⟨decide_eq_false (by omega), I⟩, ⟨decide_eq_false (by omega), I⟩, ⟨decide_eq_false (by omega), I⟩, rfl, rfl, rfl, rfl, ⟨decide_eq_false (by omega), rfl⟩, decide_eq_false (by omega), I, I⟩, ?_⟩
  refine W.ret ?_
  refine EndsW.rt ?_
  conv => whnf
  refine ⟨⟨I, I, I⟩, ?_, rfl⟩
  rotate_left 1
  refine g 59 75 [.b (true), .b (true), .b (true), .call (V.b (decide ((0 : Int) ≤ Message.task m ∧ Message.task m ≤ (39 : Int)))) ([[], [], []]), .b (true), .b (true), .b (true), .b (true), .b (true), .b (false), .b (false), .b (false), .b (true), .b (true)] ?_
  conv => whnf
  refine ⟨⟨I, I, ⟨rfl, I⟩, ⟨rfl, I⟩, ⟨rfl, ⟨I, I, I, I⟩, I, ⟨⟨I, I⟩, ⟨I, I⟩, ⟨I, I⟩, I⟩, ⟨I, I⟩, Go.K.c_impl_within _ _ _⟩, ⟨rfl, I⟩, rfl, I, notT (by omega), notT (by omega), notT (by omega), I, I, I, notT (by omega), notT (by omega), I⟩, ?_⟩
  refine W.cn ?_
  conv => whnf
  refine ⟨fun _ => ?_, noF (rfl)⟩
  refine g 3 4 [] ?_
  conv => whnf
  refine ⟨⟨I, I⟩, ?_⟩
  refine W.ret ?_
  refine EndsW.rt ?_
  conv => whnf
  refine ⟨⟨I, I, I⟩, ?_, rfl⟩
  rotate_left 1
  refine g 43 59 [.b (true), .b (true), .b (true), .call (V.b (decide ((1 : Int) ≤ Message.lease m ∧ Message.lease m ≤ (300000000 : Int)))) ([[], [], []]), .b (true), .b (true), .b (true), .b (true), .b (true), .b (false), .b (false), .b (false), .b (true), .b (true)] ?_
  conv => whnf
  refine ⟨⟨I, I, ⟨rfl, I⟩, ⟨rfl, I⟩, ⟨rfl, ⟨I, I, I, I⟩, I, ⟨⟨I, I⟩, ⟨I, I⟩, ⟨I, I⟩, I⟩, ⟨I, I⟩, Go.K.c_impl_within _ _ _⟩, ⟨rfl, I⟩, rfl, I, notT (by omega), notT (by omega), notT (by omega), I, I, I, notT (by omega), notT (by omega), I⟩, ?_⟩
  refine W.cn ?_
  conv => whnf
  refine ⟨fun _ => ?_, noF (rfl)⟩
  refine g 3 4 [] ?_
  conv => whnf
  refine ⟨⟨I, I⟩, ?_⟩
  refine W.ret ?_
  refine EndsW.rt ?_
  conv => whnf
  refine ⟨⟨I, I, I⟩, ?_, rfl⟩
  rotate_left 1
  refine g 26 43 [.b (false), .b (false), .call (V.b (decide ((1 : Int) ≤ Message.to m ∧ Message.to m ≤ (8 : Int)))) ([[], [], []]), .b (false), .b (false), .b (true), .b (true), .b (true), .b (true), .b (true)] ?_
  conv => whnf
  refine ⟨⟨I, I, I, ⟨notF (by omega), I⟩, ⟨notF (by omega), ⟨I, I, I, I⟩, I, ⟨⟨I, I⟩, ⟨I, I⟩, ⟨I, I⟩, I⟩, ⟨I, I⟩, Go.K.c_impl_within _ _ _⟩, ⟨notF (by omega), I⟩, notF (by omega), I, notT (by omega), notT (by omega), notT (by omega), notT (by omega), notT (by omega), I⟩, ?_⟩
  refine W.cn ?_
  conv => whnf
  refine ⟨fun _ => ?_, noF (rfl)⟩
  refine g 8 9 [] ?_
  conv => whnf
  refine ⟨⟨I, I⟩, ?_⟩
  refine W.ret ?_
  refine EndsW.rt ?_
  conv => whnf
  refine ⟨⟨I, I, I⟩, ?_, rfl⟩
  rotate_left 1
  refine g 26 43 [.b (true), .b (true), .b (true), .b (true), .b (true), .b (true), .b (true), .b (true), .b (true)] ?_
  conv => whnf
  refine ⟨⟨I, I, I, notT (by omega), notT (by omega), notT (by omega), notT (by omega), I, rfl, rfl, rfl, rfl, rfl, I⟩, ?_⟩
  refine W.cn ?_
  conv => whnf
  refine ⟨fun _ => ?_, noF (rfl)⟩
  refine g 8 9 [] ?_
  conv => whnf
  refine ⟨⟨I, I⟩, ?_⟩
  refine W.ret ?_
  refine EndsW.rt ?_
  conv => whnf
  refine ⟨⟨I, I, I⟩, ?_, rfl⟩
  rotate_left 1
  replace h1 := df h1
  refine g 12 13 [] ?_
  conv => whnf
  refine ⟨⟨I, I, I⟩, ?_⟩
  refine W.cn ?_
  conv => whnf
  refine ⟨fun h2 => ?_, fun h2 => ?_⟩
  replace h2 := dt h2
  refine rg [] ?_
  conv => whnf
  refine ⟨⟨I, I⟩, ?_⟩
  refine gd 11 26 [[], [], [], [], [], []] ?_
  conv => whnf
  refine ⟨⟨I, I, I, I, I, I, I⟩, by kernel_rfl, ?_⟩
  refine W.sq ?_
  refine g 0 0 [] ?_
  conv => whnf
  refine ⟨⟨I, I⟩, ?_⟩
  refine W.cn ?_
  conv => whnf
  refine ⟨noT (rfl), fun _ => ?_⟩
  refine W.skip ?_
  refine W.sq ?_
  by_cases h3 : Message.to m = (0 : Int)
  by_cases h4 : (1 : Int) ≤ Message.frm m ∧ Message.frm m ≤ (8 : Int)
  refine g 26 43 [.b (false), .b (false), .call (V.b (decide ((1 : Int) ≤ Message.frm m ∧ Message.frm m ≤ (8 : Int)))) ([[], [], []]), .b (false), .b (false), .b (false), .b (false), .b (false), .call (V.b (decide ((1 : Int) ≤ Message.epoch m ∧ Message.epoch m ≤ (300 : Int)))) ([[], [], []]), .b (false), .b (false)] ?_
  conv => whnf
  refine ⟨⟨I, I, I, ⟨notF (by omega), I⟩, ⟨notF (by omega), ⟨I, I, I, I⟩, I, ⟨⟨I, I⟩, ⟨I, I⟩, ⟨I, I⟩, I⟩, ⟨I, I⟩, Go.K.c_impl_within _ _ _⟩, ⟨notF (by omega), I⟩, notF (by omega), I, ⟨notF (by omega), I⟩, ⟨notF (by omega), I⟩, ⟨notF (by omega), ⟨I, I, I, I⟩, I, ⟨⟨I, I⟩, ⟨I, I⟩, ⟨I, I⟩, I⟩, ⟨I, I⟩, Go.K.c_impl_within _ _ _⟩, ⟨notF (by omega), I⟩, notF (by omega), I⟩, ?_⟩
  refine W.cn ?_
  conv => whnf
  refine ⟨fun h5 => ?_, fun h5 => ?_⟩
  replace h5 := ndt h5
  refine g 8 9 [] ?_
  conv => whnf
  refine ⟨⟨I, I⟩, ?_⟩
  refine W.ret ?_
  refine EndsW.rt ?_
  conv => whnf
  refine ⟨⟨I, I, I⟩, ?_, rfl⟩
  rotate_left 1
  replace h5 := ndf h5
  refine W.skip ?_
  refine W.sq ?_
  by_cases h6 : (1 : Int) ≤ Message.lease m ∧ Message.lease m ≤ (300000000 : Int)
  refine g 43 59 [.b (true), .b (true), .b (true), .call (V.b (decide ((1 : Int) ≤ Message.lease m ∧ Message.lease m ≤ (300000000 : Int)))) ([[], [], []]), .b (true), .b (true), .b (false), .b (false), .b (false), .b (false), .b (false), .b (false), .b (false), .b (false), .b (false)] ?_
  conv => whnf
  refine ⟨⟨I, I, ⟨rfl, I⟩, ⟨rfl, I⟩, ⟨rfl, ⟨I, I, I, I⟩, I, ⟨⟨I, I⟩, ⟨I, I⟩, ⟨I, I⟩, I⟩, ⟨I, I⟩, Go.K.c_impl_within _ _ _⟩, ⟨rfl, I⟩, rfl, I, ⟨notF (by omega), I⟩, ⟨notF (by omega), I⟩, ⟨notF (by omega), I⟩, rfl, rfl, rfl, ⟨notF (by omega), rfl⟩, notF (by omega), I⟩, ?_⟩
  refine W.cn ?_
  conv => whnf
  refine ⟨noT (rfl), fun _ => ?_⟩
  refine W.skip ?_
  refine W.sq ?_
  refine g 59 75 [.b (false), .b (false), .b (false), .b (false), .b (false), .b (false), .b (false), .b (false), .b (true), .b (true), .b (true), .b (false), .b (true), .b (false)] ?_
  conv => whnf
  refine ⟨⟨I, I, rfl, rfl, rfl, rfl, rfl, I, ⟨rfl, I⟩, ⟨rfl, I⟩, ⟨rfl, I⟩, ⟨rfl, I⟩, ⟨rfl, I⟩, ⟨rfl, I⟩, ⟨rfl, rfl⟩, rfl, I⟩, ?_⟩
  refine W.cn ?_
  conv => whnf
  refine ⟨fun h7 => ?_, fun h7 => ?_⟩
  replace h7 := ndt h7
  refine g 3 4 [] ?_
  conv => whnf
  refine ⟨⟨I, I⟩, ?_⟩
  refine W.ret ?_
  refine EndsW.rt ?_
  conv => whnf
  refine ⟨⟨I, I, I⟩, ?_, rfl⟩
  rotate_left 1
  replace h7 := ndf h7
  refine W.skip ?_
  refine W.sq ?_
  refine g 10 91 [.b (false), .b (false), .b (false), .b (false), .b (false), .b (false), .b (false), .b (false), .b (true), .b (true), .b (true), .b (false), .b (true), .b (false)] ?_
  conv => whnf
  refine ⟨⟨I, I, rfl, rfl, rfl, rfl, rfl, I, ⟨rfl, I⟩, ⟨rfl, I⟩, ⟨rfl, I⟩, ⟨rfl, I⟩, ⟨rfl, I⟩, ⟨rfl, I⟩, ⟨rfl, rfl⟩, rfl, I⟩, ?_⟩
  refine W.cn ?_
  conv => whnf
  refine ⟨fun h8 => ?_, fun h8 => ?_⟩
  replace h8 := ndt h8
  refine g 7 9 [] ?_
  conv => whnf
  refine ⟨⟨I, I⟩, ?_⟩
  refine W.ret ?_
  refine EndsW.rt ?_
  conv => whnf
  refine ⟨⟨I, I, I⟩, ?_, rfl⟩
  rotate_left 1
  replace h8 := ndf h8
  refine W.skip ?_
  refine g 5 108 [.b (false), .b (false), .b (false), .b (false), .b (false), .b (false), .b (false), .b (true), .b (true), .b (true), .b (true), .b (false), .b (true), .b (false)] ?_
  conv => whnf
  refine ⟨⟨I, I, rfl, rfl, rfl, rfl, I, ⟨rfl, I⟩, ⟨rfl, I⟩, ⟨rfl, I⟩, ⟨rfl, I⟩, ⟨rfl, I⟩, ⟨rfl, I⟩, ⟨rfl, I⟩, ⟨rfl, rfl⟩, rfl, I, I⟩, ?_⟩
  refine W.ret ?_
  refine EndsW.rt ?_
  conv => whnf
  refine ⟨⟨I, I, I⟩, ?_, rfl⟩
  rotate_left 1
  refine g 43 59 [.b (true), .b (true), .b (true), .call (V.b (decide ((1 : Int) ≤ Message.lease m ∧ Message.lease m ≤ (300000000 : Int)))) ([[], [], []]), .b (true), .b (true), .b (true), .b (true), .b (true), .b (false), .b (false), .b (false), .b (true), .b (true)] ?_
  conv => whnf
  refine ⟨⟨I, I, ⟨rfl, I⟩, ⟨rfl, I⟩, ⟨rfl, ⟨I, I, I, I⟩, I, ⟨⟨I, I⟩, ⟨I, I⟩, ⟨I, I⟩, I⟩, ⟨I, I⟩, Go.K.c_impl_within _ _ _⟩, ⟨rfl, I⟩, rfl, I, notT (by omega), notT (by omega), notT (by omega), I, I, I, notT (by omega), notT (by omega), I⟩, ?_⟩
  refine W.cn ?_
  conv => whnf
  refine ⟨fun _ => ?_, noF (rfl)⟩
  refine g 3 4 [] ?_
  conv => whnf
  refine ⟨⟨I, I⟩, ?_⟩
  refine W.ret ?_
  refine EndsW.rt ?_
  conv => whnf
  refine ⟨⟨I, I, I⟩, ?_, rfl⟩
  rotate_left 1
  refine g 26 43 [.b (false), .b (false), .call (V.b (decide ((1 : Int) ≤ Message.frm m ∧ Message.frm m ≤ (8 : Int)))) ([[], [], []]), .b (false), .b (false), .b (true), .b (true), .b (true), .b (true), .b (true)] ?_
  conv => whnf
  refine ⟨⟨I, I, I, ⟨notF (by omega), I⟩, ⟨notF (by omega), ⟨I, I, I, I⟩, I, ⟨⟨I, I⟩, ⟨I, I⟩, ⟨I, I⟩, I⟩, ⟨I, I⟩, Go.K.c_impl_within _ _ _⟩, ⟨notF (by omega), I⟩, notF (by omega), I, notT (by omega), notT (by omega), notT (by omega), notT (by omega), notT (by omega), I⟩, ?_⟩
  refine W.cn ?_
  conv => whnf
  refine ⟨fun _ => ?_, noF (rfl)⟩
  refine g 8 9 [] ?_
  conv => whnf
  refine ⟨⟨I, I⟩, ?_⟩
  refine W.ret ?_
  refine EndsW.rt ?_
  conv => whnf
  refine ⟨⟨I, I, I⟩, ?_, rfl⟩
  rotate_left 1
  refine g 26 43 [.b (true), .b (true), .b (true), .b (true), .b (true), .b (true), .b (true), .b (true), .b (true)] ?_
  conv => whnf
  refine ⟨⟨I, I, I, notT (by omega), notT (by omega), notT (by omega), notT (by omega), I, rfl, rfl, rfl, rfl, rfl, I⟩, ?_⟩
  refine W.cn ?_
  conv => whnf
  refine ⟨fun _ => ?_, noF (rfl)⟩
  refine g 8 9 [] ?_
  conv => whnf
  refine ⟨⟨I, I⟩, ?_⟩
  refine W.ret ?_
  refine EndsW.rt ?_
  conv => whnf
  refine ⟨⟨I, I, I⟩, ?_, rfl⟩
  rotate_left 1
  replace h2 := df h2
  refine g 14 16 [] ?_
  conv => whnf
  refine ⟨⟨I, I, I⟩, ?_⟩
  refine W.cn ?_
  conv => whnf
  refine ⟨fun h3 => ?_, fun h3 => ?_⟩
  replace h3 := dt h3
  refine rg [] ?_
  conv => whnf
  refine ⟨⟨I, I, I, I⟩, ?_⟩
  refine gd 11 26 [[], [], [], [], [], []] ?_
  conv => whnf
  refine ⟨⟨I, I, I, I, I, I, I⟩, by kernel_rfl, ?_⟩
  refine W.sq ?_
  refine g 0 0 [] ?_
  conv => whnf
  refine ⟨⟨I, I⟩, ?_⟩
  refine W.cn ?_
  conv => whnf
  refine ⟨noT (rfl), fun _ => ?_⟩
  refine W.skip ?_
  refine W.sq ?_
  by_cases h4 : Message.to m = (0 : Int)
  by_cases h5 : (1 : Int) ≤ Message.frm m ∧ Message.frm m ≤ (8 : Int)
  refine g 26 43 [.b (false), .b (false), .call (V.b (decide ((1 : Int) ≤ Message.frm m ∧ Message.frm m ≤ (8 : Int)))) ([[], [], []]), .b (false), .b (false), .b (false), .b (false), .b (false), .call (V.b (decide ((1 : Int) ≤ Message.epoch m ∧ Message.epoch m ≤ (300 : Int)))) ([[], [], []]), .b (false), .b (false)] ?_
  conv => whnf
  refine ⟨⟨I, I, I, ⟨notF (by omega), I⟩, ⟨notF (by omega), ⟨I, I, I, I⟩, I, ⟨⟨I, I⟩, ⟨I, I⟩, ⟨I, I⟩, I⟩, ⟨I, I⟩, Go.K.c_impl_within _ _ _⟩, ⟨notF (by omega), I⟩, notF (by omega), I, ⟨notF (by omega), I⟩, ⟨notF (by omega), I⟩, ⟨notF (by omega), ⟨I, I, I, I⟩, I, ⟨⟨I, I⟩, ⟨I, I⟩, ⟨I, I⟩, I⟩, ⟨I, I⟩, Go.K.c_impl_within _ _ _⟩, ⟨notF (by omega), I⟩, notF (by omega), I⟩, ?_⟩
  refine W.cn ?_
  conv => whnf
  refine ⟨fun h6 => ?_, fun h6 => ?_⟩
  replace h6 := ndt h6
  refine g 8 9 [] ?_
  conv => whnf
  refine ⟨⟨I, I⟩, ?_⟩
  refine W.ret ?_
  refine EndsW.rt ?_
  conv => whnf
  refine ⟨⟨I, I, I⟩, ?_, rfl⟩
  rotate_left 1
  replace h6 := ndf h6
  refine W.skip ?_
  refine W.sq ?_
  by_cases h7 : (1 : Int) ≤ Message.lease m ∧ Message.lease m ≤ (300000000 : Int)
  refine g 43 59 [.b (true), .b (true), .b (true), .call (V.b (decide ((1 : Int) ≤ Message.lease m ∧ Message.lease m ≤ (300000000 : Int)))) ([[], [], []]), .b (true), .b (true), .b (false), .b (false), .b (false), .b (false), .b (false), .b (false), .b (false), .b (false), .b (false)] ?_
  conv => whnf
  refine ⟨⟨I, I, ⟨rfl, I⟩, ⟨rfl, I⟩, ⟨rfl, ⟨I, I, I, I⟩, I, ⟨⟨I, I⟩, ⟨I, I⟩, ⟨I, I⟩, I⟩, ⟨I, I⟩, Go.K.c_impl_within _ _ _⟩, ⟨rfl, I⟩, rfl, I, ⟨notF (by omega), I⟩, ⟨notF (by omega), I⟩, ⟨notF (by omega), I⟩, rfl, rfl, rfl, ⟨notF (by omega), rfl⟩, notF (by omega), I⟩, ?_⟩
  refine W.cn ?_
  conv => whnf
  refine ⟨noT (rfl), fun _ => ?_⟩
  refine W.skip ?_
  refine W.sq ?_
  by_cases h8 : (0 : Int) ≤ Message.task m ∧ Message.task m ≤ (39 : Int)
  refine g 59 75 [.b (true), .b (true), .b (true), .call (V.b (decide ((0 : Int) ≤ Message.task m ∧ Message.task m ≤ (39 : Int)))) ([[], [], []]), .b (true), .b (true), .b (false), .b (false), .b (false), .b (false), .b (false), .b (false), .b (false), .b (false), .b (false)] ?_
  conv => whnf
  refine ⟨⟨I, I, ⟨rfl, I⟩, ⟨rfl, I⟩, ⟨rfl, ⟨I, I, I, I⟩, I, ⟨⟨I, I⟩, ⟨I, I⟩, ⟨I, I⟩, I⟩, ⟨I, I⟩, Go.K.c_impl_within _ _ _⟩, ⟨rfl, I⟩, rfl, I, ⟨notF (by omega), I⟩, ⟨notF (by omega), I⟩, ⟨notF (by omega), I⟩, rfl, rfl, rfl, ⟨notF (by omega), rfl⟩, notF (by omega), I⟩, ?_⟩
  refine W.cn ?_
  conv => whnf
  refine ⟨noT (rfl), fun _ => ?_⟩
  refine W.skip ?_
  refine W.sq ?_
  by_cases h9 : (↑(ByteArray.size (Message.text m)) : Int) = (8 : Int)
  refine g 10 91 [.b (true), .b (true), .b (true), .b (true), .b (true), .b (false), .b (false), .b (false), .b (false), .b (false), .b (false), .b (false), .b (false), .b (false)] ?_
  conv => whnf
  refine ⟨⟨I, I, ⟨rfl, I⟩, ⟨rfl, I⟩, ⟨rfl, I⟩, ⟨rfl, I⟩, rfl, I, ⟨notF (by omega), I⟩, ⟨notF (by omega), I⟩, ⟨notF (by omega), I⟩, rfl, rfl, rfl, ⟨notF (by omega), rfl⟩, notF (by omega), I⟩, ?_⟩
  refine W.cn ?_
  conv => whnf
  refine ⟨noT (rfl), fun _ => ?_⟩
  refine W.skip ?_
  refine g 5 108 [.b (false), .b (false), .b (false), .b (false), .b (false), .b (false), .b (false), .b (true), .b (true), .b (true), .b (true), .b (false), .b (true), .b (false)] ?_
  conv => whnf
  refine ⟨⟨I, I, rfl, rfl, rfl, rfl, I, ⟨rfl, I⟩, ⟨rfl, I⟩, ⟨rfl, I⟩, ⟨rfl, I⟩, ⟨rfl, I⟩, ⟨rfl, I⟩, ⟨rfl, I⟩, ⟨rfl, rfl⟩, rfl, I, I⟩, ?_⟩
  refine W.ret ?_
  refine EndsW.rt ?_
  conv => whnf
  refine ⟨⟨I, I, I⟩, ?_, rfl⟩
  rotate_left 1
  refine g 10 91 [.b (true), .b (true), .b (true), .b (true), .b (true), .b (true), .b (true), .b (true), .b (false), .b (false), .b (false), .b (true), .b (true)] ?_
  conv => whnf
  refine ⟨⟨I, I, ⟨rfl, I⟩, ⟨rfl, I⟩, ⟨rfl, I⟩, ⟨rfl, I⟩, rfl, I, notT (by omega), notT (by omega), notT (by omega), I, I, I, notT (by omega), notT (by omega), I⟩, ?_⟩
  refine W.cn ?_
  conv => whnf
  refine ⟨fun _ => ?_, noF (rfl)⟩
  refine g 7 9 [] ?_
  conv => whnf
  refine ⟨⟨I, I⟩, ?_⟩
  refine W.ret ?_
  refine EndsW.rt ?_
  conv => whnf
  refine ⟨⟨I, I, I⟩, ?_, rfl⟩
  rotate_left 1
  refine g 59 75 [.b (true), .b (true), .b (true), .call (V.b (decide ((0 : Int) ≤ Message.task m ∧ Message.task m ≤ (39 : Int)))) ([[], [], []]), .b (true), .b (true), .b (true), .b (true), .b (true), .b (false), .b (false), .b (false), .b (true), .b (true)] ?_
  conv => whnf
  refine ⟨⟨I, I, ⟨rfl, I⟩, ⟨rfl, I⟩, ⟨rfl, ⟨I, I, I, I⟩, I, ⟨⟨I, I⟩, ⟨I, I⟩, ⟨I, I⟩, I⟩, ⟨I, I⟩, Go.K.c_impl_within _ _ _⟩, ⟨rfl, I⟩, rfl, I, notT (by omega), notT (by omega), notT (by omega), I, I, I, notT (by omega), notT (by omega), I⟩, ?_⟩
  refine W.cn ?_
  conv => whnf
  refine ⟨fun _ => ?_, noF (rfl)⟩
  refine g 3 4 [] ?_
  conv => whnf
  refine ⟨⟨I, I⟩, ?_⟩
  refine W.ret ?_
  refine EndsW.rt ?_
  conv => whnf
  refine ⟨⟨I, I, I⟩, ?_, rfl⟩
  rotate_left 1
  refine g 43 59 [.b (true), .b (true), .b (true), .call (V.b (decide ((1 : Int) ≤ Message.lease m ∧ Message.lease m ≤ (300000000 : Int)))) ([[], [], []]), .b (true), .b (true), .b (true), .b (true), .b (true), .b (false), .b (false), .b (false), .b (true), .b (true)] ?_
  conv => whnf
  refine ⟨⟨I, I, ⟨rfl, I⟩, ⟨rfl, I⟩, ⟨rfl, ⟨I, I, I, I⟩, I, ⟨⟨I, I⟩, ⟨I, I⟩, ⟨I, I⟩, I⟩, ⟨I, I⟩, Go.K.c_impl_within _ _ _⟩, ⟨rfl, I⟩, rfl, I, notT (by omega), notT (by omega), notT (by omega), I, I, I, notT (by omega), notT (by omega), I⟩, ?_⟩
  refine W.cn ?_
  conv => whnf
  refine ⟨fun _ => ?_, noF (rfl)⟩
  refine g 3 4 [] ?_
  conv => whnf
  refine ⟨⟨I, I⟩, ?_⟩
  refine W.ret ?_
  refine EndsW.rt ?_
  conv => whnf
  refine ⟨⟨I, I, I⟩, ?_, rfl⟩
  rotate_left 1
  refine g 26 43 [.b (false), .b (false), .call (V.b (decide ((1 : Int) ≤ Message.frm m ∧ Message.frm m ≤ (8 : Int)))) ([[], [], []]), .b (false), .b (false), .b (true), .b (true), .b (true), .b (true), .b (true)] ?_
  conv => whnf
  refine ⟨⟨I, I, I, ⟨notF (by omega), I⟩, ⟨notF (by omega), ⟨I, I, I, I⟩, I, ⟨⟨I, I⟩, ⟨I, I⟩, ⟨I, I⟩, I⟩, ⟨I, I⟩, Go.K.c_impl_within _ _ _⟩, ⟨notF (by omega), I⟩, notF (by omega), I, notT (by omega), notT (by omega), notT (by omega), notT (by omega), notT (by omega), I⟩, ?_⟩
  refine W.cn ?_
  conv => whnf
  refine ⟨fun _ => ?_, noF (rfl)⟩
  refine g 8 9 [] ?_
  conv => whnf
  refine ⟨⟨I, I⟩, ?_⟩
  refine W.ret ?_
  refine EndsW.rt ?_
  conv => whnf
  refine ⟨⟨I, I, I⟩, ?_, rfl⟩
  rotate_left 1
  refine g 26 43 [.b (true), .b (true), .b (true), .b (true), .b (true), .b (true), .b (true), .b (true), .b (true)] ?_
  conv => whnf
  refine ⟨⟨I, I, I, notT (by omega), notT (by omega), notT (by omega), notT (by omega), I, rfl, rfl, rfl, rfl, rfl, I⟩, ?_⟩
  refine W.cn ?_
  conv => whnf
  refine ⟨fun _ => ?_, noF (rfl)⟩
  refine g 8 9 [] ?_
  conv => whnf
  refine ⟨⟨I, I⟩, ?_⟩
  refine W.ret ?_
  refine EndsW.rt ?_
  conv => whnf
  refine ⟨⟨I, I, I⟩, ?_, rfl⟩
  rotate_left 1
  replace h3 := df h3
  refine g 16 18 [] ?_
  conv => whnf
  refine ⟨⟨I, I, I⟩, ?_⟩
  refine W.cn ?_
  conv => whnf
  refine ⟨fun h4 => ?_, fun h4 => ?_⟩
  replace h4 := dt h4
  refine rg [] ?_
  conv => whnf
  refine ⟨⟨I, I, I⟩, ?_⟩
  refine gd 11 26 [[], [], [], [], [], []] ?_
  conv => whnf
  refine ⟨⟨I, I, I, I, I, I, I⟩, by kernel_rfl, ?_⟩
  refine W.sq ?_
  refine g 0 0 [] ?_
  conv => whnf
  refine ⟨⟨I, I⟩, ?_⟩
  refine W.cn ?_
  conv => whnf
  refine ⟨fun _ => ?_, noF (rfl)⟩
  refine rgd [[], [], [], [], [], []] ?_
  conv => whnf
  refine ⟨⟨I, I, I, I, I, I, I⟩, by kernel_rfl, ?_⟩
  refine W.sq ?_
  by_cases h5 : Message.frm m = (0 : Int)
  by_cases h6 : (1 : Int) ≤ Message.to m ∧ Message.to m ≤ (8 : Int)
  refine g 26 43 [.b (false), .b (false), .call (V.b (decide ((1 : Int) ≤ Message.to m ∧ Message.to m ≤ (8 : Int)))) ([[], [], []]), .b (false), .b (false), .b (false), .b (false), .b (false), .call (V.b (decide ((1 : Int) ≤ Message.epoch m ∧ Message.epoch m ≤ (300 : Int)))) ([[], [], []]), .b (false), .b (false)] ?_
  conv => whnf
  refine ⟨⟨I, I, I, ⟨notF (by omega), I⟩, ⟨notF (by omega), ⟨I, I, I, I⟩, I, ⟨⟨I, I⟩, ⟨I, I⟩, ⟨I, I⟩, I⟩, ⟨I, I⟩, Go.K.c_impl_within _ _ _⟩, ⟨notF (by omega), I⟩, notF (by omega), I, ⟨notF (by omega), I⟩, ⟨notF (by omega), I⟩, ⟨notF (by omega), ⟨I, I, I, I⟩, I, ⟨⟨I, I⟩, ⟨I, I⟩, ⟨I, I⟩, I⟩, ⟨I, I⟩, Go.K.c_impl_within _ _ _⟩, ⟨notF (by omega), I⟩, notF (by omega), I⟩, ?_⟩
  refine W.cn ?_
  conv => whnf
  refine ⟨fun h7 => ?_, fun h7 => ?_⟩
  replace h7 := ndt h7
  refine g 8 9 [] ?_
  conv => whnf
  refine ⟨⟨I, I⟩, ?_⟩
  refine W.ret ?_
  refine EndsW.rt ?_
  conv => whnf
  refine ⟨⟨I, I, I⟩, ?_, rfl⟩
  rotate_left 1
  replace h7 := ndf h7
  refine W.skip ?_
  refine W.sq ?_
  by_cases h8 : (1 : Int) ≤ Message.lease m ∧ Message.lease m ≤ (300000000 : Int)
  refine g 43 59 [.b (true), .b (true), .b (true), .call (V.b (decide ((1 : Int) ≤ Message.lease m ∧ Message.lease m ≤ (300000000 : Int)))) ([[], [], []]), .b (true), .b (true), .b (false), .b (false), .b (false), .b (false), .b (false), .b (false), .b (false), .b (false), .b (false)] ?_
  conv => whnf
  refine ⟨⟨I, I, ⟨rfl, I⟩, ⟨rfl, I⟩, ⟨rfl, ⟨I, I, I, I⟩, I, ⟨⟨I, I⟩, ⟨I, I⟩, ⟨I, I⟩, I⟩, ⟨I, I⟩, Go.K.c_impl_within _ _ _⟩, ⟨rfl, I⟩, rfl, I, ⟨notF (by omega), I⟩, ⟨notF (by omega), I⟩, ⟨notF (by omega), I⟩, rfl, rfl, rfl, ⟨notF (by omega), rfl⟩, notF (by omega), I⟩, ?_⟩
  refine W.cn ?_
  conv => whnf
  refine ⟨noT (rfl), fun _ => ?_⟩
  refine W.skip ?_
  refine W.sq ?_
  refine g 59 75 [.b (false), .b (false), .b (false), .b (false), .b (false), .b (false), .b (false), .b (false), .b (true), .b (true), .b (true), .b (false), .b (true), .b (false)] ?_
  conv => whnf
  refine ⟨⟨I, I, rfl, rfl, rfl, rfl, rfl, I, ⟨rfl, I⟩, ⟨rfl, I⟩, ⟨rfl, I⟩, ⟨rfl, I⟩, ⟨rfl, I⟩, ⟨rfl, I⟩, ⟨rfl, rfl⟩, rfl, I⟩, ?_⟩
  refine W.cn ?_
  conv => whnf
  refine ⟨fun h9 => ?_, fun h9 => ?_⟩
  replace h9 := ndt h9
  refine g 3 4 [] ?_
  conv => whnf
  refine ⟨⟨I, I⟩, ?_⟩
  refine W.ret ?_
  refine EndsW.rt ?_
  conv => whnf
  refine ⟨⟨I, I, I⟩, ?_, rfl⟩
  rotate_left 1
  replace h9 := ndf h9
  refine W.skip ?_
  refine W.sq ?_
  refine g 10 91 [.b (false), .b (false), .b (false), .b (false), .b (false), .b (false), .b (false), .b (false), .b (true), .b (true), .b (true), .b (false), .b (true), .b (false)] ?_
  conv => whnf
  refine ⟨⟨I, I, rfl, rfl, rfl, rfl, rfl, I, ⟨rfl, I⟩, ⟨rfl, I⟩, ⟨rfl, I⟩, ⟨rfl, I⟩, ⟨rfl, I⟩, ⟨rfl, I⟩, ⟨rfl, rfl⟩, rfl, I⟩, ?_⟩
  refine W.cn ?_
  conv => whnf
  refine ⟨fun h10 => ?_, fun h10 => ?_⟩
  replace h10 := ndt h10
  refine g 7 9 [] ?_
  conv => whnf
  refine ⟨⟨I, I⟩, ?_⟩
  refine W.ret ?_
  refine EndsW.rt ?_
  conv => whnf
  refine ⟨⟨I, I, I⟩, ?_, rfl⟩
  rotate_left 1
  replace h10 := ndf h10
  refine W.skip ?_
  refine g 5 108 [.b (false), .b (false), .b (false), .b (false), .b (false), .b (false), .b (false), .b (true), .b (true), .b (true), .b (true), .b (false), .b (true), .b (false)] ?_
  conv => whnf
  refine ⟨⟨I, I, rfl, rfl, rfl, rfl, I, ⟨rfl, I⟩, ⟨rfl, I⟩, ⟨rfl, I⟩, ⟨rfl, I⟩, ⟨rfl, I⟩, ⟨rfl, I⟩, ⟨rfl, I⟩, ⟨rfl, rfl⟩, rfl, I, I⟩, ?_⟩
  refine W.ret ?_
  refine EndsW.rt ?_
  conv => whnf
  refine ⟨⟨I, I, I⟩, ?_, rfl⟩
  rotate_left 1
  refine g 43 59 [.b (true), .b (true), .b (true), .call (V.b (decide ((1 : Int) ≤ Message.lease m ∧ Message.lease m ≤ (300000000 : Int)))) ([[], [], []]), .b (true), .b (true), .b (true), .b (true), .b (true), .b (false), .b (false), .b (false), .b (true), .b (true)] ?_
  conv => whnf
  refine ⟨⟨I, I, ⟨rfl, I⟩, ⟨rfl, I⟩, ⟨rfl, ⟨I, I, I, I⟩, I, ⟨⟨I, I⟩, ⟨I, I⟩, ⟨I, I⟩, I⟩, ⟨I, I⟩, Go.K.c_impl_within _ _ _⟩, ⟨rfl, I⟩, rfl, I, notT (by omega), notT (by omega), notT (by omega), I, I, I, notT (by omega), notT (by omega), I⟩, ?_⟩
  refine W.cn ?_
  conv => whnf
  refine ⟨fun _ => ?_, noF (rfl)⟩
  refine g 3 4 [] ?_
  conv => whnf
  refine ⟨⟨I, I⟩, ?_⟩
  refine W.ret ?_
  refine EndsW.rt ?_
  conv => whnf
  refine ⟨⟨I, I, I⟩, ?_, rfl⟩
  rotate_left 1
  refine g 26 43 [.b (false), .b (false), .call (V.b (decide ((1 : Int) ≤ Message.to m ∧ Message.to m ≤ (8 : Int)))) ([[], [], []]), .b (false), .b (false), .b (true), .b (true), .b (true), .b (true), .b (true)] ?_
  conv => whnf
  refine ⟨⟨I, I, I, ⟨notF (by omega), I⟩, ⟨notF (by omega), ⟨I, I, I, I⟩, I, ⟨⟨I, I⟩, ⟨I, I⟩, ⟨I, I⟩, I⟩, ⟨I, I⟩, Go.K.c_impl_within _ _ _⟩, ⟨notF (by omega), I⟩, notF (by omega), I, notT (by omega), notT (by omega), notT (by omega), notT (by omega), notT (by omega), I⟩, ?_⟩
  refine W.cn ?_
  conv => whnf
  refine ⟨fun _ => ?_, noF (rfl)⟩
  refine g 8 9 [] ?_
  conv => whnf
  refine ⟨⟨I, I⟩, ?_⟩
  refine W.ret ?_
  refine EndsW.rt ?_
  conv => whnf
  refine ⟨⟨I, I, I⟩, ?_, rfl⟩
  rotate_left 1
  refine g 26 43 [.b (true), .b (true), .b (true), .b (true), .b (true), .b (true), .b (true), .b (true), .b (true)] ?_
  conv => whnf
  refine ⟨⟨I, I, I, notT (by omega), notT (by omega), notT (by omega), notT (by omega), I, rfl, rfl, rfl, rfl, rfl, I⟩, ?_⟩
  refine W.cn ?_
  conv => whnf
  refine ⟨fun _ => ?_, noF (rfl)⟩
  refine g 8 9 [] ?_
  conv => whnf
  refine ⟨⟨I, I⟩, ?_⟩
  refine W.ret ?_
  refine EndsW.rt ?_
  conv => whnf
  refine ⟨⟨I, I, I⟩, ?_, rfl⟩
  rotate_left 1
  replace h4 := df h4
  refine g 11 20 [] ?_
  conv => whnf
  refine ⟨⟨I, I, I⟩, ?_⟩
  refine W.cn ?_
  conv => whnf
  refine ⟨fun h5 => ?_, fun h5 => ?_⟩
  replace h5 := dt h5
  refine W.skip ?_
  refine gd 20 26 [[], [], [], [], [], []] ?_
  conv => whnf
  refine ⟨⟨I, I, I, I, I, I, I⟩, by kernel_rfl, ?_⟩
  refine W.sq ?_
  refine g 0 0 [] ?_
  conv => whnf
  refine ⟨⟨I, I⟩, ?_⟩
  refine W.cn ?_
  conv => whnf
  refine ⟨noT (rfl), fun _ => ?_⟩
  refine W.skip ?_
  refine W.sq ?_
  by_cases h6 : Message.to m = (0 : Int)
  by_cases h7 : (1 : Int) ≤ Message.frm m ∧ Message.frm m ≤ (8 : Int)
  refine g 26 43 [.b (false), .b (false), .call (V.b (decide ((1 : Int) ≤ Message.frm m ∧ Message.frm m ≤ (8 : Int)))) ([[], [], []]), .b (false), .b (false), .b (false), .b (false), .b (false), .call (V.b (decide ((1 : Int) ≤ Message.epoch m ∧ Message.epoch m ≤ (300 : Int)))) ([[], [], []]), .b (false), .b (false)] ?_
  conv => whnf
  refine ⟨⟨I, I, I, ⟨notF (by omega), I⟩, ⟨notF (by omega), ⟨I, I, I, I⟩, I, ⟨⟨I, I⟩, ⟨I, I⟩, ⟨I, I⟩, I⟩, ⟨I, I⟩, Go.K.c_impl_within _ _ _⟩, ⟨notF (by omega), I⟩, notF (by omega), I, ⟨notF (by omega), I⟩, ⟨notF (by omega), I⟩, ⟨notF (by omega), ⟨I, I, I, I⟩, I, ⟨⟨I, I⟩, ⟨I, I⟩, ⟨I, I⟩, I⟩, ⟨I, I⟩, Go.K.c_impl_within _ _ _⟩, ⟨notF (by omega), I⟩, notF (by omega), I⟩, ?_⟩
  refine W.cn ?_
  conv => whnf
  refine ⟨fun h8 => ?_, fun h8 => ?_⟩
  replace h8 := ndt h8
  refine g 8 9 [] ?_
  conv => whnf
  refine ⟨⟨I, I⟩, ?_⟩
  refine W.ret ?_
  refine EndsW.rt ?_
  conv => whnf
  refine ⟨⟨I, I, I⟩, ?_, rfl⟩
  rotate_left 1
  replace h8 := ndf h8
  refine W.skip ?_
  refine W.sq ?_
  refine g 43 59 [.b (false), .b (false), .b (false), .b (false), .b (false), .b (false), .b (false), .b (false), .b (true), .b (true), .b (true), .b (false), .b (true), .b (false)] ?_
  conv => whnf
  refine ⟨⟨I, I, rfl, rfl, rfl, rfl, rfl, I, ⟨rfl, I⟩, ⟨rfl, I⟩, ⟨rfl, I⟩, ⟨rfl, I⟩, ⟨rfl, I⟩, ⟨rfl, I⟩, ⟨rfl, rfl⟩, rfl, I⟩, ?_⟩
  refine W.cn ?_
  conv => whnf
  refine ⟨fun h9 => ?_, fun h9 => ?_⟩
  replace h9 := ndt h9
  refine g 3 4 [] ?_
  conv => whnf
  refine ⟨⟨I, I⟩, ?_⟩
  refine W.ret ?_
  refine EndsW.rt ?_
  conv => whnf
  refine ⟨⟨I, I, I⟩, ?_, rfl⟩
  rotate_left 1
  replace h9 := ndf h9
  refine W.skip ?_
  refine W.sq ?_
  refine g 59 75 [.b (false), .b (false), .b (false), .b (false), .b (false), .b (false), .b (false), .b (false), .b (true), .b (true), .b (true), .b (false), .b (true), .b (false)] ?_
  conv => whnf
  refine ⟨⟨I, I, rfl, rfl, rfl, rfl, rfl, I, ⟨rfl, I⟩, ⟨rfl, I⟩, ⟨rfl, I⟩, ⟨rfl, I⟩, ⟨rfl, I⟩, ⟨rfl, I⟩, ⟨rfl, rfl⟩, rfl, I⟩, ?_⟩
  refine W.cn ?_
  conv => whnf
  refine ⟨fun h10 => ?_, fun h10 => ?_⟩
  replace h10 := ndt h10
  refine g 3 4 [] ?_
  conv => whnf
  refine ⟨⟨I, I⟩, ?_⟩
  refine W.ret ?_
  refine EndsW.rt ?_
  conv => whnf
  refine ⟨⟨I, I, I⟩, ?_, rfl⟩
  rotate_left 1
  replace h10 := ndf h10
  refine W.skip ?_
  refine W.sq ?_
  refine g 10 91 [.b (false), .b (false), .b (false), .b (false), .b (false), .b (false), .b (false), .b (false), .b (true), .b (true), .b (true), .b (false), .b (true), .b (false)] ?_
  conv => whnf
  refine ⟨⟨I, I, rfl, rfl, rfl, rfl, rfl, I, ⟨rfl, I⟩, ⟨rfl, I⟩, ⟨rfl, I⟩, ⟨rfl, I⟩, ⟨rfl, I⟩, ⟨rfl, I⟩, ⟨rfl, rfl⟩, rfl, I⟩, ?_⟩
  refine W.cn ?_
  conv => whnf
  refine ⟨fun h11 => ?_, fun h11 => ?_⟩
  replace h11 := ndt h11
  refine g 7 9 [] ?_
  conv => whnf
  refine ⟨⟨I, I⟩, ?_⟩
  refine W.ret ?_
  refine EndsW.rt ?_
  conv => whnf
  refine ⟨⟨I, I, I⟩, ?_, rfl⟩
  rotate_left 1
  replace h11 := ndf h11
  refine W.skip ?_
  refine g 5 108 [.b (false), .b (false), .b (false), .b (false), .b (false), .b (false), .b (false), .b (true), .b (true), .b (true), .b (true), .b (false), .b (true), .b (false)] ?_
  conv => whnf
  refine ⟨⟨I, I, rfl, rfl, rfl, rfl, I, ⟨rfl, I⟩, ⟨rfl, I⟩, ⟨rfl, I⟩, ⟨rfl, I⟩, ⟨rfl, I⟩, ⟨rfl, I⟩, ⟨rfl, I⟩, ⟨rfl, rfl⟩, rfl, I, I⟩, ?_⟩
  refine W.ret ?_
  refine EndsW.rt ?_
  conv => whnf
  refine ⟨⟨I, I, I⟩, ?_, rfl⟩
  rotate_left 1
  refine g 26 43 [.b (false), .b (false), .call (V.b (decide ((1 : Int) ≤ Message.frm m ∧ Message.frm m ≤ (8 : Int)))) ([[], [], []]), .b (false), .b (false), .b (true), .b (true), .b (true), .b (true), .b (true)] ?_
  conv => whnf
  refine ⟨⟨I, I, I, ⟨notF (by omega), I⟩, ⟨notF (by omega), ⟨I, I, I, I⟩, I, ⟨⟨I, I⟩, ⟨I, I⟩, ⟨I, I⟩, I⟩, ⟨I, I⟩, Go.K.c_impl_within _ _ _⟩, ⟨notF (by omega), I⟩, notF (by omega), I, notT (by omega), notT (by omega), notT (by omega), notT (by omega), notT (by omega), I⟩, ?_⟩
  refine W.cn ?_
  conv => whnf
  refine ⟨fun _ => ?_, noF (rfl)⟩
  refine g 8 9 [] ?_
  conv => whnf
  refine ⟨⟨I, I⟩, ?_⟩
  refine W.ret ?_
  refine EndsW.rt ?_
  conv => whnf
  refine ⟨⟨I, I, I⟩, ?_, rfl⟩
  rotate_left 1
  refine g 26 43 [.b (true), .b (true), .b (true), .b (true), .b (true), .b (true), .b (true), .b (true), .b (true)] ?_
  conv => whnf
  refine ⟨⟨I, I, I, notT (by omega), notT (by omega), notT (by omega), notT (by omega), I, rfl, rfl, rfl, rfl, rfl, I⟩, ?_⟩
  refine W.cn ?_
  conv => whnf
  refine ⟨fun _ => ?_, noF (rfl)⟩
  refine g 8 9 [] ?_
  conv => whnf
  refine ⟨⟨I, I⟩, ?_⟩
  refine W.ret ?_
  refine EndsW.rt ?_
  conv => whnf
  refine ⟨⟨I, I, I⟩, ?_, rfl⟩
  rotate_left 1
  replace h5 := df h5
  refine g 20 22 [] ?_
  conv => whnf
  refine ⟨⟨I, I⟩, ?_⟩
  refine W.ret ?_
  refine EndsW.rt ?_
  conv => whnf
  refine ⟨⟨I, I, I⟩, ?_, rfl⟩
  rotate_left 1
  all_goals (try simp only [List.length_map, decide_eq_true_eq, Bool.not_eq_true, Bool.not_eq_true', decide_eq_false_iff_not] at *)
  all_goals first
    | exact vbf (by unfold msgOk; grind)
    | exact vbt (by unfold msgOk; grind)
    | exact vbd (by unfold msgOk; grind)
theorem tup5 {a b c d e a' b' c' d' e' : Bool} (h1 : a = a') (h2 : b = b') (h3 : c = c') (h4 : d = d') (h5 : e = e') : V.tup [V.t (T.v (Value.bool a)), V.t (T.v (Value.bool b)), V.t (T.v (Value.bool c)), V.t (T.v (Value.bool d)), V.t (T.v (Value.bool e))] = V.tup [.b a', .b b', .b c', .b d', .b e'] := by subst h1; subst h2; subst h3; subst h4; subst h5; rfl
theorem c_spec_l2Uses (k : Int) : F n_spec_l2Uses [.val (.i k)] (.tup [.b (decide (1 ≤ k ∧ k ≤ 4)), .b (decide (k = 1 ∨ k = 3)), .b (decide (k = 3)), .b (decide (k = 1)), .b (decide (k = 1 ∨ k = 4))]) [[]] := by
  refine i_spec_l2Uses ?_
  conv => whnf
  refine g 0 0 [] ?_
  conv => whnf
  refine ⟨⟨I, I, I, I, I, I⟩, ?_⟩
  refine W.sq ?_
  refine g 0 1 [] ?_
  conv => whnf
  refine ⟨⟨I, I⟩, ?_⟩
  refine W.blk ?_
  refine g 9 10 [] ?_
  conv => whnf
  refine ⟨⟨I, I, I⟩, ?_⟩
  refine W.cn ?_
  conv => whnf
  refine ⟨fun h1 => ?_, fun h1 => ?_⟩
  replace h1 := dt h1
  refine g 7 9 [] ?_
  conv => whnf
  refine ⟨⟨I, I, I, I, I, I⟩, ?_⟩
  refine W.ret ?_
  refine EndsW.rt ?_
  conv => whnf
  refine ⟨⟨I, ⟨I, I⟩, I, ⟨I, I⟩, I, ⟨I, I⟩, I, ⟨I, I⟩, I, ⟨I, I⟩, I⟩, ?_, rfl⟩
  rotate_left 1
  replace h1 := df h1
  refine g 8 9 [] ?_
  conv => whnf
  refine ⟨⟨I, I, I⟩, ?_⟩
  refine W.cn ?_
  conv => whnf
  refine ⟨fun h2 => ?_, fun h2 => ?_⟩
  replace h2 := dt h2
  refine g 7 12 [] ?_
  conv => whnf
  refine ⟨⟨I, I, I, I, I, I⟩, ?_⟩
  refine W.ret ?_
  refine EndsW.rt ?_
  conv => whnf
  refine ⟨⟨I, ⟨I, I⟩, I, ⟨I, I⟩, I, ⟨I, I⟩, I, ⟨I, I⟩, I, ⟨I, I⟩, I⟩, ?_, rfl⟩
  rotate_left 1
  replace h2 := df h2
  refine g 10 12 [] ?_
  conv => whnf
  refine ⟨⟨I, I, I⟩, ?_⟩
  refine W.cn ?_
  conv => whnf
  refine ⟨fun h3 => ?_, fun h3 => ?_⟩
  replace h3 := dt h3
  refine g 7 14 [] ?_
  conv => whnf
  refine ⟨⟨I, I, I, I, I, I⟩, ?_⟩
  refine W.ret ?_
  refine EndsW.rt ?_
  conv => whnf
  refine ⟨⟨I, ⟨I, I⟩, I, ⟨I, I⟩, I, ⟨I, I⟩, I, ⟨I, I⟩, I, ⟨I, I⟩, I⟩, ?_, rfl⟩
  rotate_left 1
  replace h3 := df h3
  refine g 7 14 [] ?_
  conv => whnf
  refine ⟨⟨I, I, I⟩, ?_⟩
  refine W.cn ?_
  conv => whnf
  refine ⟨fun h4 => ?_, fun h4 => ?_⟩
  replace h4 := dt h4
  refine g 14 16 [] ?_
  conv => whnf
  refine ⟨⟨I, I, I, I, I, I⟩, ?_⟩
  refine W.ret ?_
  refine EndsW.rt ?_
  conv => whnf
  refine ⟨⟨I, ⟨I, I⟩, I, ⟨I, I⟩, I, ⟨I, I⟩, I, ⟨I, I⟩, I, ⟨I, I⟩, I⟩, ?_, rfl⟩
  rotate_left 1
  replace h4 := df h4
  refine W.skip ?_
  refine g 14 16 [] ?_
  conv => whnf
  refine ⟨⟨I, I, I, I, I, I⟩, ?_⟩
  refine W.ret ?_
  refine EndsW.rt ?_
  conv => whnf
  refine ⟨⟨I, ⟨I, I⟩, I, ⟨I, I⟩, I, ⟨I, I⟩, I, ⟨I, I⟩, I, ⟨I, I⟩, I⟩, ?_, rfl⟩
  rotate_left 1
  all_goals exact tup5 (by grind) (by grind) (by grind) (by grind) (by grind)
end Go.K

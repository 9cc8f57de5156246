/- Contracts of functions of the program: what each call answers. -/
import Derived.Test.YtcccigapbalidaaA
set_option linter.unusedVariables false
set_option linter.unusedSimpArgs false
set_option maxHeartbeats 4000000
set_option maxRecDepth 20000
open Go Go.Tm Go.Proofs
namespace Go.K
def Entry.ok (e : Entry) : Prop := (1 ≤ e.epoch ∧ e.epoch ≤ 300) ∧ (0 ≤ e.task ∧ e.task ≤ 39) ∧ ((e.kind = 1 ∧ e.task = 0 ∧ e.text = ⟨#[]⟩) ∨ (e.kind = 2 ∧ (e.text.size : Int) = 8))
instance (e : Entry) : Decidable e.ok := by unfold Entry.ok; infer_instance
theorem c_impl_Entry_valid (k ep ta : Int) (tx : ByteArray) : F n_impl_Entry_valid [.val (entryV k ep ta tx)] (.b (decide (Entry.ok ⟨k, ep, ta, tx⟩))) [[]] := by
  refine i_impl_Entry_valid ?_
  conv => whnf
  refine g 0 1 [] ?_
  conv => whnf
  refine ⟨⟨⟨I, I, I, I, I⟩, I, I⟩, ?_⟩
  refine W.sq ?_
  by_cases h1 : (1 : Int) ≤ ep ∧ ep ≤ (300 : Int)
  refine g 5 12 [.call (V.b (decide ((1 : Int) ≤ ep ∧ ep ≤ (300 : Int)))) ([[], [], []]), .b (false), .b (false), .b (false), .call (V.b (decide ((0 : Int) ≤ ta ∧ ta ≤ (39 : Int)))) ([[], [], []]), .b (false), .b (false)] ?_
  conv => whnf
  refine ⟨⟨I, I, ⟨⟨I, I, I, I⟩, I, ⟨⟨I, I⟩, ⟨I, I⟩, ⟨I, I⟩, I⟩, ⟨I, I⟩, Go.K.c_impl_within _ _ _⟩, I, I, ⟨notF (by omega), I⟩, ⟨notF (by omega), I⟩, ⟨notF (by omega), ⟨I, I, I, I⟩, I, ⟨⟨I, I⟩, ⟨I, I⟩, ⟨I, I⟩, I⟩, ⟨I, I⟩, Go.K.c_impl_within _ _ _⟩, ⟨notF (by omega), I⟩, notF (by omega), I⟩, ?_⟩
  refine W.cn ?_
  conv => whnf
  refine ⟨fun h2 => ?_, fun h2 => ?_⟩
  replace h2 := ndt h2
  refine g 12 13 [] ?_
  conv => whnf
  refine ⟨⟨I, I⟩, ?_⟩
  refine W.ret ?_
  refine EndsW.rt ?_
  conv => whnf
  refine ⟨⟨I, I, I⟩, ?_, rfl⟩
  rotate_left 1
  replace h2 := ndf h2
  refine W.skip ?_
  refine W.sq ?_
  refine g 12 14 [] ?_
  conv => whnf
  refine ⟨⟨I, I, I⟩, ?_⟩
  refine W.blk ?_
  refine g 16 17 [] ?_
  conv => whnf
  refine ⟨⟨I, I, I⟩, ?_⟩
  refine W.cn ?_
  conv => whnf
  refine ⟨fun h3 => ?_, fun h3 => ?_⟩
  replace h3 := dt h3
  by_cases h4 : ta = (0 : Int)
  refine g 14 25 [.b (true), .b (true), .b (true), .b (true)] ?_
  conv => whnf
  refine ⟨⟨I, I, I, I, ⟨decide_eq_true (by omega), I⟩, ⟨decide_eq_true (by omega), I⟩, ⟨decide_eq_true (by omega), I⟩, decide_eq_true (by omega), I, I⟩, ?_⟩
  refine W.ret ?_
  refine EndsW.rt ?_
  conv => whnf
  refine ⟨⟨I, I, I⟩, ?_, rfl⟩
  rotate_left 1
  refine g 14 25 [.b (false), .b (false), .b (false), .b (false)] ?_
  conv => whnf
  refine ⟨⟨I, I, I, I, decide_eq_false (by omega), decide_eq_false (by omega), decide_eq_false (by omega), decide_eq_false (by omega), I, I⟩, ?_⟩
  refine W.ret ?_
  refine EndsW.rt ?_
  conv => whnf
  refine ⟨⟨I, I, I⟩, ?_, rfl⟩
  rotate_left 1
  replace h3 := df h3
  refine g 14 16 [] ?_
  conv => whnf
  refine ⟨⟨I, I, I⟩, ?_⟩
  refine W.cn ?_
  conv => whnf
  refine ⟨fun h4 => ?_, fun h4 => ?_⟩
  replace h4 := dt h4
  refine g 25 31 [] ?_
  conv => whnf
  refine ⟨⟨I, I, I, I, I, I⟩, ?_⟩
  refine W.ret ?_
  refine EndsW.rt ?_
  conv => whnf
  refine ⟨⟨I, I, I⟩, ?_, rfl⟩
  rotate_left 1
  replace h4 := df h4
  refine W.skip ?_
  refine g 25 27 [] ?_
  conv => whnf
  refine ⟨⟨I, I⟩, ?_⟩
  refine W.ret ?_
  refine EndsW.rt ?_
  conv => whnf
  refine ⟨⟨I, I, I⟩, ?_, rfl⟩
  rotate_left 1
  refine g 5 12 [.call (V.b (decide ((1 : Int) ≤ ep ∧ ep ≤ (300 : Int)))) ([[], [], []]), .b (true), .b (true), .b (true), .b (true), .b (true)] ?_
  conv => whnf
  refine ⟨⟨I, I, ⟨⟨I, I, I, I⟩, I, ⟨⟨I, I⟩, ⟨I, I⟩, ⟨I, I⟩, I⟩, ⟨I, I⟩, Go.K.c_impl_within _ _ _⟩, I, I, notT (by omega), notT (by omega), notT (by omega), notT (by omega), notT (by omega), I⟩, ?_⟩
  refine W.cn ?_
  conv => whnf
  refine ⟨fun _ => ?_, noF (rfl)⟩
  refine g 12 13 [] ?_
  conv => whnf
  refine ⟨⟨I, I⟩, ?_⟩
  refine W.ret ?_
  refine EndsW.rt ?_
  conv => whnf
  refine ⟨⟨I, I, I⟩, ?_, rfl⟩
  rotate_left 1
  all_goals (first | exact vbt (by unfold Entry.ok; simp_all; done) | exact vbf (by unfold Entry.ok; simp_all; omega) | exact vbf (by unfold Entry.ok; simp_all) | exact vbd (by unfold Entry.ok; simp_all; done) | exact vbd (by unfold Entry.ok; simp_all; omega))
theorem c_spec_l4Ok (k ep ta : Int) (tx : ByteArray) : F n_spec_l4Ok [.val (entryV k ep ta tx)] (.b (decide (Entry.ok ⟨k, ep, ta, tx⟩))) [[]] := by
  refine i_spec_l4Ok ?_
  conv => whnf
  refine g 0 1 [] ?_
  conv => whnf
  refine ⟨⟨⟨I, I, I, I, I⟩, I, I⟩, ?_⟩
  refine W.sq ?_
  by_cases h1 : (1 : Int) ≤ ep ∧ ep ≤ (300 : Int)
  refine g 5 12 [.call (V.b (decide ((1 : Int) ≤ ep ∧ ep ≤ (300 : Int)))) ([[], [], []]), .b (false), .b (false), .b (false), .call (V.b (decide ((0 : Int) ≤ ta ∧ ta ≤ (39 : Int)))) ([[], [], []]), .b (false), .b (false)] ?_
  conv => whnf
  refine ⟨⟨I, I, ⟨⟨I, I, I, I⟩, I, ⟨⟨I, I⟩, ⟨I, I⟩, ⟨I, I⟩, I⟩, ⟨I, I⟩, Go.K.c_spec_l2In _ _ _⟩, I, I, ⟨notF (by omega), I⟩, ⟨notF (by omega), I⟩, ⟨notF (by omega), ⟨I, I, I, I⟩, I, ⟨⟨I, I⟩, ⟨I, I⟩, ⟨I, I⟩, I⟩, ⟨I, I⟩, Go.K.c_spec_l2In _ _ _⟩, ⟨notF (by omega), I⟩, notF (by omega), I⟩, ?_⟩
  refine W.cn ?_
  conv => whnf
  refine ⟨fun h2 => ?_, fun h2 => ?_⟩
  replace h2 := ndt h2
  refine g 12 13 [] ?_
  conv => whnf
  refine ⟨⟨I, I⟩, ?_⟩
  refine W.ret ?_
  refine EndsW.rt ?_
  conv => whnf
  refine ⟨⟨I, I, I⟩, ?_, rfl⟩
  rotate_left 1
  replace h2 := ndf h2
  refine W.skip ?_
  refine W.sq ?_
  refine g 12 15 [] ?_
  conv => whnf
  refine ⟨⟨I, I, I, I⟩, ?_⟩
  refine W.cn ?_
  conv => whnf
  refine ⟨fun h3 => ?_, fun h3 => ?_⟩
  replace h3 := dt h3
  by_cases h4 : ta = (0 : Int)
  refine g 15 24 [.b (true), .b (true), .b (true), .b (true)] ?_
  conv => whnf
  refine ⟨⟨I, I, I, I, ⟨decide_eq_true (by omega), I⟩, ⟨decide_eq_true (by omega), I⟩, ⟨decide_eq_true (by omega), I⟩, decide_eq_true (by omega), I, I⟩, ?_⟩
  refine W.ret ?_
  refine EndsW.rt ?_
  conv => whnf
  refine ⟨⟨I, I, I⟩, ?_, rfl⟩
  rotate_left 1
  refine g 15 24 [.b (false), .b (false), .b (false), .b (false)] ?_
  conv => whnf
  refine ⟨⟨I, I, I, I, decide_eq_false (by omega), decide_eq_false (by omega), decide_eq_false (by omega), decide_eq_false (by omega), I, I⟩, ?_⟩
  refine W.ret ?_
  refine EndsW.rt ?_
  conv => whnf
  refine ⟨⟨I, I, I⟩, ?_, rfl⟩
  rotate_left 1
  replace h3 := df h3
  refine W.skip ?_
  by_cases h4 : k = (2 : Int)
  refine g 15 33 [.b (true), .b (true), .b (true), .b (true), .b (true)] ?_
  conv => whnf
  refine ⟨⟨I, I, I, I, ⟨decide_eq_true (by omega), I⟩, ⟨decide_eq_true (by omega), I⟩, ⟨decide_eq_true (by omega), I⟩, ⟨decide_eq_true (by omega), I⟩, decide_eq_true (by omega), I, I⟩, ?_⟩
  refine W.ret ?_
  refine EndsW.rt ?_
  conv => whnf
  refine ⟨⟨I, I, I⟩, ?_, rfl⟩
  rotate_left 1
  refine g 15 33 [.b (false), .b (false), .b (false), .b (false), .b (false)] ?_
  conv => whnf
  refine ⟨⟨I, I, I, I, decide_eq_false (by omega), decide_eq_false (by omega), decide_eq_false (by omega), decide_eq_false (by omega), decide_eq_false (by omega), I, I⟩, ?_⟩
  refine W.ret ?_
  refine EndsW.rt ?_
  conv => whnf
  refine ⟨⟨I, I, I⟩, ?_, rfl⟩
  rotate_left 1
  refine g 5 12 [.call (V.b (decide ((1 : Int) ≤ ep ∧ ep ≤ (300 : Int)))) ([[], [], []]), .b (true), .b (true), .b (true), .b (true), .b (true)] ?_
  conv => whnf
  refine ⟨⟨I, I, ⟨⟨I, I, I, I⟩, I, ⟨⟨I, I⟩, ⟨I, I⟩, ⟨I, I⟩, I⟩, ⟨I, I⟩, Go.K.c_spec_l2In _ _ _⟩, I, I, notT (by omega), notT (by omega), notT (by omega), notT (by omega), notT (by omega), I⟩, ?_⟩
  refine W.cn ?_
  conv => whnf
  refine ⟨fun _ => ?_, noF (rfl)⟩
  refine g 12 13 [] ?_
  conv => whnf
  refine ⟨⟨I, I⟩, ?_⟩
  refine W.ret ?_
  refine EndsW.rt ?_
  conv => whnf
  refine ⟨⟨I, I, I⟩, ?_, rfl⟩
  rotate_left 1
  all_goals (first | exact vbt (by unfold Entry.ok; simp_all; done) | exact vbf (by unfold Entry.ok; simp_all; omega) | exact vbf (by unfold Entry.ok; simp_all) | exact vbd (by unfold Entry.ok; simp_all; done) | exact vbd (by unfold Entry.ok; simp_all; omega))
abbrev emp : ByteArray := ⟨#[]⟩
def bl (l : List Int) : ByteArray := ⟨(l.map fun n => UInt8.ofNat n.toNat).toArray⟩
/-- What the program writes. -/
def formI (e : Entry) : ByteArray := if e.ok then bl [IntKind.u8.wrap e.kind, IntKind.u8.wrap (e.epoch.fdiv 256), IntKind.u8.wrap e.epoch, IntKind.u8.wrap e.task] ++ e.text else emp
theorem c_impl_FormEntry (k ep ta : Int) (tx : ByteArray) (ht : tx.size ≤ 281474976710656) : F n_impl_FormEntry [.val (entryV k ep ta tx)] (.s (formI ⟨k, ep, ta, tx⟩)) [[]] := by
  refine i_impl_FormEntry ?_
  conv => whnf
  refine g 0 0 [] ?_
  conv => whnf
  refine ⟨⟨⟨I, I, I, I, I⟩, I, I⟩, ?_⟩
  refine W.sq ?_
  refine g 4 5 [.call (V.b (decide (Entry.ok { kind := k, epoch := ep, task := ta, text := tx : Entry }))) ([[]])] ?_
  conv => whnf
  refine ⟨⟨I, ⟨⟨I, I⟩, I, ⟨⟨I, I, I, I, I⟩, I⟩, ⟨I, I⟩, Go.K.c_impl_Entry_valid _ _ _ _⟩, I, I⟩, ?_⟩
  refine W.cn ?_
  conv => whnf
  refine ⟨fun h1 => ?_, fun h1 => ?_⟩
  replace h1 := ndt h1
  refine g 5 6 [] ?_
  conv => whnf
  refine ⟨⟨I, I⟩, ?_⟩
  refine W.ret ?_
  refine EndsW.rt ?_
  conv => whnf
  refine ⟨⟨I, I, I⟩, ?_, rfl⟩
  rotate_left 1
  replace h1 := ndf h1
  refine W.skip ?_
  refine g 10 24 [.i (IntKind.wrap IntKind.u8 k), .i (Int.fdiv ep ((2 : Int) ^ min (Int.toNat (8 : Int)) (IntKind.bits IntKind.i64))), .i (IntKind.wrap IntKind.u8 (Int.fdiv ep ((2 : Int) ^ min (Int.toNat (8 : Int)) (IntKind.bits IntKind.i64)))), .i (IntKind.wrap IntKind.u8 ep), .i (IntKind.wrap IntKind.u8 ta), .s ({ data := List.toArray (bytesOf [[T.v (Value.int IntKind.u8 (IntKind.wrap IntKind.u8 k))], [T.v (Value.int IntKind.u8 (IntKind.wrap IntKind.u8 (Int.fdiv ep ((2 : Int) ^ min (Int.toNat (8 : Int)) (IntKind.bits IntKind.i64)))))], [T.v (Value.int IntKind.u8 (IntKind.wrap IntKind.u8 ep))], [T.v (Value.int IntKind.u8 (IntKind.wrap IntKind.u8 ta))]]) : ByteArray }), .s ({ data := List.toArray (bytesOf [[T.v (Value.int IntKind.u8 (IntKind.wrap IntKind.u8 k))], [T.v (Value.int IntKind.u8 (IntKind.wrap IntKind.u8 (Int.fdiv ep ((2 : Int) ^ min (Int.toNat (8 : Int)) (IntKind.bits IntKind.i64)))))], [T.v (Value.int IntKind.u8 (IntKind.wrap IntKind.u8 ep))], [T.v (Value.int IntKind.u8 (IntKind.wrap IntKind.u8 ta))]]) : ByteArray } ++ tx)] ?_
  conv => whnf
  refine ⟨⟨I, I, rfl, I, I, ⟨(by omega), rfl⟩, rfl, I, I, rfl, I, I, rfl, ⟨⟨I, I⟩, ⟨I, I⟩, ⟨I, I⟩, ⟨I, I⟩, I⟩, ⟨I, (by repeat (first | exact allU8_nil | refine allU8_cons ?_)), rfl⟩, I, I, ⟨rfl, (by simp only [bsz, ByteArray.size_append, List.length_map, List.length_append, List.length_set, List.length_replicate, List.length_cons, List.length_nil, List.length_take, List.length_drop, fill_len, fillI_len, List.length_range, bytesT_len]; omega)⟩, I, I⟩, ?_⟩
  refine W.ret ?_
  refine EndsW.rt ?_
  conv => whnf
  refine ⟨⟨I, I, I⟩, ?_, rfl⟩
  rotate_left 1
  · refine vs ?_
    simp only [formI, h1, if_false]
  · refine vs ?_
    simp only [formI, h1, if_true]; rfl
/-- What the reference writes. -/
def formS (e : Entry) : ByteArray := if e.ok then bl [IntKind.u8.wrap e.kind, IntKind.u8.wrap (IntKind.i64.wrap (e.epoch.tdiv 256)), IntKind.u8.wrap (e.epoch.tmod 256), IntKind.u8.wrap e.task] ++ e.text else emp
theorem c_spec_FormEntry (k ep ta : Int) (tx : ByteArray) (ht : tx.size ≤ 281474976710656) : F n_spec_FormEntry [.val (entryV k ep ta tx)] (.s (formS ⟨k, ep, ta, tx⟩)) [[]] := by
  refine i_spec_FormEntry ?_
  conv => whnf
  refine g 0 0 [] ?_
  conv => whnf
  refine ⟨⟨⟨I, I, I, I, I⟩, I, I⟩, ?_⟩
  refine W.sq ?_
  refine g 4 5 [.call (V.b (decide (Entry.ok { kind := k, epoch := ep, task := ta, text := tx : Entry }))) ([[]])] ?_
  conv => whnf
  refine ⟨⟨I, ⟨⟨I, I⟩, I, ⟨⟨I, I, I, I, I⟩, I⟩, ⟨I, I⟩, Go.K.c_spec_l4Ok _ _ _ _⟩, I, I⟩, ?_⟩
  refine W.cn ?_
  conv => whnf
  refine ⟨fun h1 => ?_, fun h1 => ?_⟩
  replace h1 := ndt h1
  refine g 5 6 [] ?_
  conv => whnf
  refine ⟨⟨I, I⟩, ?_⟩
  refine W.ret ?_
  refine EndsW.rt ?_
  conv => whnf
  refine ⟨⟨I, I, I⟩, ?_, rfl⟩
  rotate_left 1
  replace h1 := ndf h1
  refine W.skip ?_
  refine g 10 25 [.i (IntKind.wrap IntKind.u8 k), .i (IntKind.wrap IntKind.i64 (Int.tdiv ep (256 : Int))), .i (IntKind.wrap IntKind.u8 (IntKind.wrap IntKind.i64 (Int.tdiv ep (256 : Int)))), .i (Int.tmod ep (256 : Int)), .i (IntKind.wrap IntKind.u8 (Int.tmod ep (256 : Int))), .i (IntKind.wrap IntKind.u8 ta), .s ({ data := List.toArray (bytesOf [[T.v (Value.int IntKind.u8 (IntKind.wrap IntKind.u8 k))], [T.v (Value.int IntKind.u8 (IntKind.wrap IntKind.u8 (IntKind.wrap IntKind.i64 (Int.tdiv ep (256 : Int)))))], [T.v (Value.int IntKind.u8 (IntKind.wrap IntKind.u8 (Int.tmod ep (256 : Int))))], [T.v (Value.int IntKind.u8 (IntKind.wrap IntKind.u8 ta))]]) : ByteArray }), .s ({ data := List.toArray (bytesOf [[T.v (Value.int IntKind.u8 (IntKind.wrap IntKind.u8 k))], [T.v (Value.int IntKind.u8 (IntKind.wrap IntKind.u8 (IntKind.wrap IntKind.i64 (Int.tdiv ep (256 : Int)))))], [T.v (Value.int IntKind.u8 (IntKind.wrap IntKind.u8 (Int.tmod ep (256 : Int))))], [T.v (Value.int IntKind.u8 (IntKind.wrap IntKind.u8 ta))]]) : ByteArray } ++ tx)] ?_
  conv => whnf
  refine ⟨⟨I, I, rfl, I, I, ⟨(by omega), rfl⟩, rfl, I, I, ⟨(by omega), rfl⟩, rfl, I, I, rfl, ⟨⟨I, I⟩, ⟨I, I⟩, ⟨I, I⟩, ⟨I, I⟩, I⟩, ⟨I, (by repeat (first | exact allU8_nil | refine allU8_cons ?_)), rfl⟩, I, I, ⟨rfl, (by simp only [bsz, ByteArray.size_append, List.length_map, List.length_append, List.length_set, List.length_replicate, List.length_cons, List.length_nil, List.length_take, List.length_drop, fill_len, fillI_len, List.length_range, bytesT_len]; omega)⟩, I, I⟩, ?_⟩
  refine W.ret ?_
  refine EndsW.rt ?_
  conv => whnf
  refine ⟨⟨I, I, I⟩, ?_, rfl⟩
  rotate_left 1
  · refine vs ?_
    simp only [formS, h1, if_false]
  · refine vs ?_
    simp only [formS, h1, if_true]; rfl
def byt (s : ByteArray) (i : Nat) : Int := ((s[i]?).map (fun b => (b.toNat : Int))).getD 0
def or64 (x y : Int) : Int := IntKind.i64.wrap ↑(BitVec.ofInt IntKind.i64.bits x ||| BitVec.ofInt IntKind.i64.bits y).toNat
def rdI (s : ByteArray) : Entry := ⟨byt s 0, or64 (IntKind.i64.wrap (byt s 1 * 256)) (byt s 2), byt s 3, s.extract 4 s.size⟩
def rdS (s : ByteArray) : Entry := ⟨byt s 0, byt s 1 * 256 + byt s 2, byt s 3, s.extract 4 s.size⟩
abbrev noE : Entry := ⟨0, 0, 0, emp⟩
abbrev tupE (o : Option Entry) : V := match o with | some e => .tup [e.v, .b true] | none => .tup [noE.v, .b false]
def readI (s : ByteArray) : Option Entry := if (s.size : Int) < 4 ∨ 12 < (s.size : Int) then none else if (rdI s).ok then some (rdI s) else none
def readS (s : ByteArray) : Option Entry := if (s.size : Int) < 4 then none else if formS (rdS s) = s then some (rdS s) else none
theorem byt_at {s : ByteArray} {i : Nat} {c : UInt8} (h : s[i]? = some c) : byt s i = (c.toNat : Int) := by simp [byt, h]
theorem c_impl_ReadEntry (s : ByteArray) (ht : s.size ≤ 281474976710656) : F n_impl_ReadEntry [.val (.s s)] (tupE (readI s)) [[]] := by
  refine i_impl_ReadEntry ?_
  conv => whnf
  refine g 0 0 [] ?_
  conv => whnf
  refine ⟨⟨I, I, I⟩, ?_⟩
  refine W.sq ?_
  by_cases h1 : (↑(ByteArray.size s) : Int) < (4 : Int)
  refine g 5 12 [.b (true), .b (true), .b (true), .b (true)] ?_
  conv => whnf
  refine ⟨⟨I, I, I, I, decide_eq_true (by omega), decide_eq_true (by omega), decide_eq_true (by omega), decide_eq_true (by omega), I⟩, ?_⟩
  refine W.cn ?_
  conv => whnf
  refine ⟨fun _ => ?_, noF (rfl)⟩
  refine g 12 14 [] ?_
  conv => whnf
  refine ⟨⟨I, ⟨I, I, I, I, I⟩, I, I⟩, ?_⟩
  refine W.ret ?_
  refine EndsW.rt ?_
  conv => whnf
  refine ⟨⟨I, ⟨I, I, I, I, I⟩, I, ⟨I, I⟩, I⟩, ?_, rfl⟩
  rotate_left 1
  refine g 5 12 [.b (false), .b (false), .b (false), .b (false)] ?_
  conv => whnf
  refine ⟨⟨I, I, I, I, ⟨decide_eq_false (by omega), I⟩, ⟨decide_eq_false (by omega), I⟩, ⟨decide_eq_false (by omega), I⟩, decide_eq_false (by omega), I⟩, ?_⟩
  refine W.cn ?_
  conv => whnf
  refine ⟨fun h2 => ?_, fun h2 => ?_⟩
  replace h2 := dt h2
  refine g 12 14 [] ?_
  conv => whnf
  refine ⟨⟨I, ⟨I, I, I, I, I⟩, I, I⟩, ?_⟩
  refine W.ret ?_
  refine EndsW.rt ?_
  conv => whnf
  refine ⟨⟨I, ⟨I, I, I, I, I⟩, I, ⟨I, I⟩, I⟩, ?_, rfl⟩
  rotate_left 1
  replace h2 := df h2
  refine W.skip ?_
  obtain ⟨y1, hy1, hb1⟩ := byte_at (s := s) (n := (0 : Nat)) (by omega)
  obtain ⟨y2, hy2, hb2⟩ := byte_at (s := s) (n := (1 : Nat)) (by omega)
  obtain ⟨y3, hy3, hb3⟩ := byte_at (s := s) (n := (2 : Nat)) (by omega)
  obtain ⟨y4, hy4, hb4⟩ := byte_at (s := s) (n := (3 : Nat)) (by omega)
  refine gd 12 27 [[], [.i ((↑(UInt8.toNat y1) : Int))], [.i ((↑(UInt8.toNat y1) : Int))], [], [.i ((↑(UInt8.toNat y2) : Int))], [.i ((↑(UInt8.toNat y2) : Int))], [.i (IntKind.wrap IntKind.i64 ((↑(UInt8.toNat y2) : Int) * (2 : Int) ^ min (Int.toNat (8 : Int)) (IntKind.bits IntKind.i64)))], [], [.i ((↑(UInt8.toNat y3) : Int))], [.i ((↑(UInt8.toNat y3) : Int))], [.i (IntKind.wrap IntKind.i64 (↑(BitVec.toNat (BitVec.ofInt (IntKind.bits IntKind.i64) (IntKind.wrap IntKind.i64 ((↑(UInt8.toNat y2) : Int) * (2 : Int) ^ min (Int.toNat (8 : Int)) (IntKind.bits IntKind.i64))) ||| BitVec.ofInt (IntKind.bits IntKind.i64) (↑(UInt8.toNat y3) : Int))) : Int))], [], [.i ((↑(UInt8.toNat y4) : Int))], [.i ((↑(UInt8.toNat y4) : Int))], [], [.n ((4 : Nat)), .s (ByteArray.extract s (4 : Nat) (ByteArray.size s))], [], [], []] ?_
  conv => whnf
  refine ⟨⟨I, ⟨(by omega), ixb (by assumption)⟩, w8 _, I, ⟨(by omega), ixb (by assumption)⟩, w8 _, ⟨(by omega), rfl⟩, I, ⟨(by omega), ixb (by assumption)⟩, w8 _, rfl, I, ⟨(by omega), ixb (by assumption)⟩, w8 _, I, ⟨I, rfl, (by omega), (by omega), rfl⟩, I, I, ⟨I, I, I, I, I⟩, I⟩, by kernel_rfl, ?_⟩
  refine W.sq ?_
  refine g 28 33 [.call (V.b (decide (Entry.ok { kind := (↑(UInt8.toNat y1) : Int), epoch := IntKind.wrap IntKind.i64 (↑(BitVec.toNat (BitVec.ofInt (IntKind.bits IntKind.i64) (IntKind.wrap IntKind.i64 ((↑(UInt8.toNat y2) : Int) * (2 : Int) ^ min (Int.toNat (8 : Int)) (IntKind.bits IntKind.i64))) ||| BitVec.ofInt (IntKind.bits IntKind.i64) (↑(UInt8.toNat y3) : Int))) : Int), task := (↑(UInt8.toNat y4) : Int), text := ByteArray.extract s (4 : Nat) (ByteArray.size s) : Entry }))) ([[]])] ?_
  conv => whnf
  refine ⟨⟨I, ⟨⟨I, I⟩, I, ⟨⟨I, I, I, I, I⟩, I⟩, ⟨I, I⟩, Go.K.c_impl_Entry_valid _ _ _ _⟩, I, I⟩, ?_⟩
  refine W.cn ?_
  conv => whnf
  refine ⟨fun h3 => ?_, fun h3 => ?_⟩
  replace h3 := ndt h3
  refine g 33 35 [] ?_
  conv => whnf
  refine ⟨⟨I, ⟨I, I, I, I, I⟩, I, I⟩, ?_⟩
  refine W.ret ?_
  refine EndsW.rt ?_
  conv => whnf
  refine ⟨⟨I, ⟨I, I, I, I, I⟩, I, ⟨I, I⟩, I⟩, ?_, rfl⟩
  rotate_left 1
  replace h3 := ndf h3
  refine W.skip ?_
  refine g 33 36 [] ?_
  conv => whnf
  refine ⟨⟨I, ⟨I, I, I, I, I⟩, I, I⟩, ?_⟩
  refine W.ret ?_
  refine EndsW.rt ?_
  conv => whnf
  refine ⟨⟨I, ⟨I, I, I, I, I⟩, I, ⟨I, I⟩, I⟩, ?_, rfl⟩
  rotate_left 1
  · exact congrArg tupE (show none = readI s by unfold readI; rw [if_pos (by omega)])
  · exact congrArg tupE (show none = readI s by unfold readI; rw [if_pos (by omega)])
  · have e : rdI s = ⟨y1.toNat, or64 (IntKind.i64.wrap ((y2.toNat : Int) * 256)) y3.toNat, y4.toNat, s.extract 4 s.size⟩ := by simp only [rdI, byt_at hy1, byt_at hy2, byt_at hy3, byt_at hy4]
    exact congrArg tupE (show none = readI s by unfold readI; rw [if_neg (by omega), e]; exact (if_neg h3).symm)
  · have e : rdI s = ⟨y1.toNat, or64 (IntKind.i64.wrap ((y2.toNat : Int) * 256)) y3.toNat, y4.toNat, s.extract 4 s.size⟩ := by simp only [rdI, byt_at hy1, byt_at hy2, byt_at hy3, byt_at hy4]
    exact congrArg tupE (show some _ = readI s by unfold readI; rw [if_neg (by omega), e]; exact (if_pos h3).symm)
theorem c_spec_ReadEntry (s : ByteArray) (ht : s.size ≤ 281474976710656) : F n_spec_ReadEntry [.val (.s s)] (tupE (readS s)) [[]] := by
  refine i_spec_ReadEntry ?_
  conv => whnf
  refine g 0 0 [] ?_
  conv => whnf
  refine ⟨⟨I, I, I⟩, ?_⟩
  refine W.sq ?_
  refine g 5 7 [] ?_
  conv => whnf
  refine ⟨⟨I, I, I, I⟩, ?_⟩
  refine W.cn ?_
  conv => whnf
  refine ⟨fun h1 => ?_, fun h1 => ?_⟩
  replace h1 := dt h1
  refine g 7 9 [] ?_
  conv => whnf
  refine ⟨⟨I, ⟨I, I, I, I, I⟩, I, I⟩, ?_⟩
  refine W.ret ?_
  refine EndsW.rt ?_
  conv => whnf
  refine ⟨⟨I, ⟨I, I, I, I, I⟩, I, ⟨I, I⟩, I⟩, ?_, rfl⟩
  rotate_left 1
  replace h1 := df h1
  refine W.skip ?_
  obtain ⟨y1, hy1, hb1⟩ := byte_at (s := s) (n := (0 : Nat)) (by omega)
  obtain ⟨y2, hy2, hb2⟩ := byte_at (s := s) (n := (1 : Nat)) (by omega)
  obtain ⟨y3, hy3, hb3⟩ := byte_at (s := s) (n := (2 : Nat)) (by omega)
  obtain ⟨y4, hy4, hb4⟩ := byte_at (s := s) (n := (3 : Nat)) (by omega)
  refine gd 7 26 [[], [.i ((↑(UInt8.toNat y1) : Int))], [.i ((↑(UInt8.toNat y1) : Int))], [], [.i ((↑(UInt8.toNat y2) : Int))], [.i ((↑(UInt8.toNat y2) : Int))], [.i ((↑(UInt8.toNat y2) : Int) * (256 : Int))], [], [.i ((↑(UInt8.toNat y3) : Int))], [.i ((↑(UInt8.toNat y3) : Int))], [.i ((↑(UInt8.toNat y2) : Int) * (256 : Int) + (↑(UInt8.toNat y3) : Int))], [], [.i ((↑(UInt8.toNat y4) : Int))], [.i ((↑(UInt8.toNat y4) : Int))], [], [.n ((4 : Nat)), .s (ByteArray.extract s (4 : Nat) (ByteArray.size s))], [], [], []] ?_
  conv => whnf
  refine ⟨⟨I, ⟨(by omega), ixb (by assumption)⟩, w8 _, I, ⟨(by omega), ixb (by assumption)⟩, w8 _, w64 (by omega) (by omega), I, ⟨(by omega), ixb (by assumption)⟩, w8 _, w64 (by omega) (by omega), I, ⟨(by omega), ixb (by assumption)⟩, w8 _, I, ⟨I, rfl, (by omega), (by omega), rfl⟩, I, I, ⟨I, I, I, I, I⟩, I⟩, by kernel_rfl, ?_⟩
  refine W.sq ?_
  refine g 0 1 [.call (V.s (formS { kind := (↑(UInt8.toNat y1) : Int), epoch := (↑(UInt8.toNat y2) : Int) * (256 : Int) + (↑(UInt8.toNat y3) : Int), task := (↑(UInt8.toNat y4) : Int), text := ByteArray.extract s (4 : Nat) (ByteArray.size s) : Entry })) ([[]])] ?_
  conv => whnf
  refine ⟨⟨I, ⟨⟨I, I⟩, I, ⟨⟨I, I, I, I, I⟩, I⟩, ⟨I, I⟩, Go.K.c_spec_FormEntry _ _ _ _ (by simp only [ByteArray.size_extract]; omega)⟩, I, I, I⟩, ?_⟩
  refine W.cn ?_
  conv => whnf
  refine ⟨fun h2 => ?_, fun h2 => ?_⟩
  replace h2 := ndt h2
  refine g 28 31 [] ?_
  conv => whnf
  refine ⟨⟨I, ⟨I, I, I, I, I⟩, I, I⟩, ?_⟩
  refine W.ret ?_
  refine EndsW.rt ?_
  conv => whnf
  refine ⟨⟨I, ⟨I, I, I, I, I⟩, I, ⟨I, I⟩, I⟩, ?_, rfl⟩
  rotate_left 1
  replace h2 := ndf h2
  refine W.skip ?_
  refine g 28 32 [] ?_
  conv => whnf
  refine ⟨⟨I, ⟨I, I, I, I, I⟩, I, I⟩, ?_⟩
  refine W.ret ?_
  refine EndsW.rt ?_
  conv => whnf
  refine ⟨⟨I, ⟨I, I, I, I, I⟩, I, ⟨I, I⟩, I⟩, ?_, rfl⟩
  rotate_left 1
  · exact congrArg tupE (show none = readS s by unfold readS; rw [if_pos (by omega)])
  · have e : rdS s = ⟨y1.toNat, (y2.toNat : Int) * 256 + y3.toNat, y4.toNat, s.extract 4 s.size⟩ := by simp only [rdS, byt_at hy1, byt_at hy2, byt_at hy3, byt_at hy4]
    exact congrArg tupE (show none = readS s by unfold readS; rw [if_neg (by omega), e]; exact (if_neg h2).symm)
  · have e : rdS s = ⟨y1.toNat, (y2.toNat : Int) * 256 + y3.toNat, y4.toNat, s.extract 4 s.size⟩ := by simp only [rdS, byt_at hy1, byt_at hy2, byt_at hy3, byt_at hy4]
    exact congrArg tupE (show some _ = readS s by unfold readS; rw [if_neg (by omega), e]; exact (if_pos h2).symm)
theorem c_laws_eqEntry (k ep ta : Int) (tx : ByteArray) (k' ep' ta' : Int) (tx' : ByteArray) : F n_laws_eqEntry [.val (entryV k ep ta tx), .val (entryV k' ep' ta' tx')] (.b (decide ((⟨k, ep, ta, tx⟩ : Entry) = ⟨k', ep', ta', tx'⟩))) [[], []] := by
  refine i_laws_eqEntry ?_
  conv => whnf
  refine g 0 2 [] ?_
  conv => whnf
  refine ⟨⟨⟨I, I, I, I, I⟩, ⟨I, I, I, I, I⟩, I, I⟩, ?_⟩
  refine W.sq ?_
  refine g 5 9 [] ?_
  conv => whnf
  refine ⟨⟨I, I, I, I, I, I⟩, ?_⟩
  refine W.cn ?_
  conv => whnf
  refine ⟨fun h1 => ?_, fun h1 => ?_⟩
  replace h1 := ndt h1
  refine g 9 10 [] ?_
  conv => whnf
  refine ⟨⟨I, I⟩, ?_⟩
  refine W.ret ?_
  refine EndsW.rt ?_
  conv => whnf
  refine ⟨⟨I, I, I⟩, ?_, rfl⟩
  rotate_left 1
  replace h1 := ndf h1
  refine W.skip ?_
  refine W.sq ?_
  refine g 9 14 [] ?_
  conv => whnf
  refine ⟨⟨I, I, I, I, I, I⟩, ?_⟩
  refine W.cn ?_
  conv => whnf
  refine ⟨fun h2 => ?_, fun h2 => ?_⟩
  replace h2 := ndt h2
  refine g 14 15 [] ?_
  conv => whnf
  refine ⟨⟨I, I⟩, ?_⟩
  refine W.ret ?_
  refine EndsW.rt ?_
  conv => whnf
  refine ⟨⟨I, I, I⟩, ?_, rfl⟩
  rotate_left 1
  replace h2 := ndf h2
  refine W.skip ?_
  refine W.sq ?_
  refine g 14 19 [] ?_
  conv => whnf
  refine ⟨⟨I, I, I, I, I, I⟩, ?_⟩
  refine W.cn ?_
  conv => whnf
  refine ⟨fun h3 => ?_, fun h3 => ?_⟩
  replace h3 := ndt h3
  refine g 19 20 [] ?_
  conv => whnf
  refine ⟨⟨I, I⟩, ?_⟩
  refine W.ret ?_
  refine EndsW.rt ?_
  conv => whnf
  refine ⟨⟨I, I, I⟩, ?_, rfl⟩
  rotate_left 1
  replace h3 := ndf h3
  refine W.skip ?_
  refine W.sq ?_
  refine g 19 24 [] ?_
  conv => whnf
  refine ⟨⟨I, I, I, I, I, I⟩, ?_⟩
  refine W.cn ?_
  conv => whnf
  refine ⟨fun h4 => ?_, fun h4 => ?_⟩
  replace h4 := ndt h4
  refine g 2 4 [] ?_
  conv => whnf
  refine ⟨⟨I, I⟩, ?_⟩
  refine W.ret ?_
  refine EndsW.rt ?_
  conv => whnf
  refine ⟨⟨I, I, I⟩, ?_, rfl⟩
  rotate_left 1
  replace h4 := ndf h4
  refine W.skip ?_
  refine g 2 4 [] ?_
  conv => whnf
  refine ⟨⟨I, I⟩, ?_⟩
  refine W.ret ?_
  refine EndsW.rt ?_
  conv => whnf
  refine ⟨⟨I, I, I⟩, ?_, rfl⟩
  rotate_left 1
  all_goals (first | exact vbf (by simp_all; done) | exact vbt (by simp_all; done))
end Go.K

/- Contracts of functions of the program: what each call answers. -/
import Derived.Test.YtcccigapbalidaaI
set_option linter.unusedVariables false
set_option linter.unusedSimpArgs false
set_option maxHeartbeats 4000000
set_option maxRecDepth 20000
open Go Go.Tm Go.Proofs
namespace Go.K
def xorB (c : UInt8) (ma : Int) : Int := IntKind.u8.wrap (BitVec.ofInt IntKind.u8.bits (c.toNat : Int) ^^^ BitVec.ofInt IntKind.u8.bits (IntKind.u8.wrap (ma.tmod 256))).toNat
def bendT (t : ByteArray) (q : Nat) (c : UInt8) (ma : Int) : ByteArray := ⟨(bytesOf ((bytesT t).set q [.v (.int .u8 (xorB c ma))])).toArray⟩
def bendP (p : Parcel) (pl ma : Int) : Parcel := match p.text[pl.toNat]? with
  | some c => ⟨p.kind, p.frm, bendT p.text pl.toNat c ma⟩
  | none => p
def bend (xs : List Parcel) (k pl ma : Int) : List Parcel :=
  if (xs.length ≤ 2000 ∧ 0 ≤ k ∧ k < xs.length) ∧ 0 ≤ ma ∧ 0 ≤ pl then match xs[k.toNat]? with
    | some p => xs.set k.toNat (bendP p pl ma)
    | none => xs
  else xs
theorem bend_no {xs : List Parcel} {k pl ma : Int} (h : ¬((xs.length ≤ 2000 ∧ 0 ≤ k ∧ k < xs.length) ∧ 0 ≤ ma ∧ 0 ≤ pl)) : bend xs k pl ma = xs := if_neg h
theorem ba_none {s : ByteArray} {n : Nat} (h : s.size ≤ n) : s[n]? = none := getElem?_neg s n (by omega)
theorem bend_out {xs : List Parcel} {m q : Nat} {ma : Int} {y : Parcel} (hy : xs[m]? = some y) (h : y.text.size ≤ q) : bend xs m q ma = xs := by
  unfold bend
  split
  · rw [show ((m : Int)).toNat = m from rfl, hy]
    simp only [bendP, show ((q : Int)).toNat = q from rfl, ba_none h]
    apply List.ext_getElem?
    intro i
    rw [List.getElem?_set]
    split
    · next e => subst e; split
                · exact hy.symm
                · next h2 => rw [List.getElem?_eq_none (by omega)]
    · rfl
  · rfl
theorem bend_yes {xs : List Parcel} {m q : Nat} {ma : Int} {y : Parcel} {c : UInt8} (h : (xs.length ≤ 2000 ∧ 0 ≤ (m : Int) ∧ (m : Int) < xs.length) ∧ 0 ≤ ma ∧ 0 ≤ (q : Int)) (hy : xs[m]? = some y) (hc : y.text[q]? = some c) :
    (xs.map parT).set m [T.v (.int .i64 y.kind), T.v (.string y.frm), T.v (.string (bendT y.text q c ma))] = (bend xs m q ma).map parT := by
  unfold bend
  rw [if_pos h, show ((m : Int)).toNat = m from rfl, hy]
  simp only [bendP, show ((q : Int)).toNat = q from rfl, hc]
  rw [List.map_set]
theorem c_spec_Bend (xs : List Parcel) (k pl ma : Int) (hl : xs.length ≤ 1048576) (hs : ∀ p ∈ xs, p.text.size ≤ 1048576) : Tm.Fn Try.prog n_spec_Bend [.val (.t (pars xs)), .val (.i k), .val (.i pl), .val (.i ma)] (.own pkd ((bend xs k pl ma).map parT)) [[], [], [], []] := by
  by_cases h0 : 0 ≤ k
  · obtain ⟨m, rfl⟩ := Int.eq_ofNat_of_zero_le h0
    by_cases h8 : 0 ≤ pl
    · obtain ⟨q, rfl⟩ := Int.eq_ofNat_of_zero_le h8
      refine i_spec_Bend (by simp) (by simp [Clo, aCells, cellsOf, closedCell]) rfl ?_
      refine Run.seqk ?_
      refine Run.reg C_ok [] ?_
      conv => whnf
      refine ⟨⟨I, I⟩, ?_⟩
      refine Run.seqk ?_
      refine Run.reg C_ok [.call (V.own pkd (List.map parT xs)) ([[]])] ?_
      conv => whnf
      refine ⟨⟨I, ⟨⟨I, I⟩, I, ⟨⟨I, I⟩, I⟩, ⟨I, I⟩, ⟨Go.K.e_spec_l6Copy, Go.K.c_spec_l6Copy _ (by omega)⟩⟩, I, I⟩, ?_⟩
      refine Run.seqk ?_
      refine Run.seqk ?_
      by_cases h1 : List.length xs ≤ (2000 : Nat) ∧ (0 : Int) ≤ (↑m : Int) ∧ (↑m : Int) < (↑(List.length xs) : Int)
      by_cases h2 : ma < (0 : Int)
      refine Run.reg C_ok [.call (V.b (decide (List.length xs ≤ (2000 : Nat) ∧ (0 : Int) ≤ (↑m : Int) ∧ (↑m : Int) < (↑(List.length xs) : Int)))) ([[], []]), .b (false), .b (false), .b (false), .b (true), .b (true), .b (true), .b (true), .b (true), .b (true), .b (true), .b (true), .b (true), .b (true), .b (true), .b (true)] ?_
      conv => whnf
      refine ⟨⟨I, I, ⟨⟨I, I, I⟩, I, ⟨⟨I, I⟩, ⟨I, I⟩, I⟩, ⟨I, I⟩, ⟨Go.K.e_spec_l6There, Go.K.c_spec_l6There _ _ (by omega)⟩⟩, I, I, ⟨notF (by omega), I⟩, ⟨notF (by omega), I⟩, notF (by omega), I, decide_eq_true (by omega), decide_eq_true (by omega), decide_eq_true (by omega), I, rfl, rfl, rfl, rfl, rfl, rfl, rfl, rfl, rfl, I⟩, ?_⟩
      refine Run.cnd ?_
      conv => whnf
      refine ⟨fun _ => ?_, noF (rfl)⟩
      refine Run.seqk ?_
      refine Run.reg C_ok [] ?_
      conv => whnf
      refine ⟨⟨I, I, I⟩, ?_⟩
      refine Run.ret ?_
      refine Ends.rt [] ?_
      conv => whnf
      refine ⟨⟨I, I, I⟩, ?_, rfl⟩
      show V.own [false, false, false] (List.map parT xs) = _
      rotate_left 1
      obtain ⟨y1, hy1⟩ := some_at (xs := xs) (n := m) (by omega)
      have hm1 := hs y1 (List.mem_of_getElem? hy1)
      refine Run.reg C_ok [.call (V.b (decide (List.length xs ≤ (2000 : Nat) ∧ (0 : Int) ≤ (↑m : Int) ∧ (↑m : Int) < (↑(List.length xs) : Int)))) ([[], []]), .b (false), .b (false), .b (false), .b (false), .b (false), .b (false), .b (false), .b (false), .b (false), .b (false), .x (parT y1), .b (false), .b (false), .b (false), .b (false), .b (false)] ?_
      conv => whnf
      refine ⟨⟨I, I, ⟨⟨I, I, I⟩, I, ⟨⟨I, I⟩, ⟨I, I⟩, I⟩, ⟨I, I⟩, ⟨Go.K.e_spec_l6There, Go.K.c_spec_l6There _ _ (by omega)⟩⟩, I, I, ⟨notF (by omega), I⟩, ⟨notF (by omega), I⟩, notF (by omega), I, ⟨decide_eq_false (by omega), I⟩, ⟨decide_eq_false (by omega), I⟩, decide_eq_false (by omega), I, ⟨rfl, I⟩, ⟨rfl, I⟩, ⟨rfl, I⟩, ⟨rfl, (by assumption), ixl (by assumption)⟩, ⟨rfl, I⟩, ⟨rfl, I⟩, ⟨rfl, I⟩, ⟨rfl, I⟩, rfl, I⟩, ?_⟩
      refine Run.cnd ?_
      conv => whnf
      refine ⟨fun h3 => ?_, fun h3 => ?_⟩
      replace h3 := dt h3
      refine Run.seqk ?_
      refine Run.reg C_ok [] ?_
      conv => whnf
      refine ⟨⟨I, I, I⟩, ?_⟩
      refine Run.ret ?_
      refine Ends.rt [] ?_
      conv => whnf
      refine ⟨⟨I, I, I⟩, ?_, rfl⟩
      show V.own [false, false, false] (List.map parT xs) = _
      rotate_left 1
      replace h3 := df h3
      refine Run.skip ?_
      refine Run.seqk ?_
      refine Run.reg C_ok [.x (parT y1)] ?_
      conv => whnf
      refine ⟨⟨I, I, ⟨(by assumption), ixl (by assumption)⟩, I, I, (by omega), I, I⟩, ?_⟩
      refine Run.seqk ?_
      obtain ⟨y2, hy2, hb1⟩ := byte_at (s := Parcel.text y1) (n := q) (by omega)
      refine Run.reg C_ok [.n (q), .x ([T.v (Value.int IntKind.u8 (↑(UInt8.toNat y2) : Int))]), .i (Int.tmod ma (256 : Int)), .i (IntKind.wrap IntKind.u8 (Int.tmod ma (256 : Int))), .i (IntKind.wrap IntKind.u8 (↑(BitVec.toNat (BitVec.ofInt (IntKind.bits IntKind.u8) (↑(UInt8.toNat y2) : Int) ^^^ BitVec.ofInt (IntKind.bits IntKind.u8) (IntKind.wrap IntKind.u8 (Int.tmod ma (256 : Int))))) : Int)), .n (q), .x ([T.v (Value.int IntKind.u8 (↑(UInt8.toNat y2) : Int))])] ?_
      conv => whnf
      refine ⟨⟨I, I, I, I, ⟨rfl, (by simp only [List.length_map, List.length_append, List.length_set, List.length_replicate, List.length_cons, List.length_nil, List.length_take, List.length_drop, fill_len, fillI_len, List.length_range, bytesT_len]; omega)⟩, (bytesT_get (by assumption)), I, ⟨(by omega), rfl⟩, rfl, rfl, ⟨rfl, (by simp only [List.length_map, List.length_append, List.length_set, List.length_replicate, List.length_cons, List.length_nil, List.length_take, List.length_drop, fill_len, fillI_len, List.length_range, bytesT_len]; omega)⟩, ⟨⟨I, I⟩, (bytesT_get (by assumption))⟩, I⟩, ?_⟩
      refine Run.seqk ?_
      refine Run.reg C_ok [.s ({ data := List.toArray (bytesOf (Prod.snd ([false], List.set (bytesT (Parcel.text y1)) q (patch [T.v (Value.int IntKind.u8 (↑(UInt8.toNat y2) : Int))] (0 : Nat) [T.v (Value.int IntKind.u8 (IntKind.wrap IntKind.u8 (↑(BitVec.toNat (BitVec.ofInt (IntKind.bits IntKind.u8) (↑(UInt8.toNat y2) : Int) ^^^ BitVec.ofInt (IntKind.bits IntKind.u8) (IntKind.wrap IntKind.u8 (Int.tmod ma (256 : Int))))) : Int)))])))) : ByteArray }), .n (m), .x (parT y1)] ?_
      conv => whnf
      refine ⟨⟨I, I, I, ⟨I, allU8_set (allU8_bytesT _), rfl⟩, ⟨rfl, (by simp only [List.length_map, List.length_append, List.length_set, List.length_replicate, List.length_cons, List.length_nil, List.length_take, List.length_drop, fill_len, fillI_len, List.length_range, bytesT_len]; omega)⟩, I, ⟨⟨I, I⟩, ixl (by assumption)⟩, I⟩, ?_⟩
      refine Run.seqk ?_
      refine Run.reg C_ok [] ?_
      conv => whnf
      refine ⟨⟨I, I, I⟩, ?_⟩
      refine Run.ret ?_
      refine Ends.rt [] ?_
      conv => whnf
      refine ⟨⟨I, I, I⟩, ?_, rfl⟩
      show V.own [false, false, false] (List.set (List.map parT xs) m (patch (parT y1) (2 : Nat) [T.v (Value.string { data := List.toArray (bytesOf (List.set (bytesT (Parcel.text y1)) q (patch [T.v (Value.int IntKind.u8 (↑(UInt8.toNat y2) : Int))] (0 : Nat) [T.v (Value.int IntKind.u8 (IntKind.wrap IntKind.u8 (↑(BitVec.toNat (BitVec.ofInt (IntKind.bits IntKind.u8) (↑(UInt8.toNat y2) : Int) ^^^ BitVec.ofInt (IntKind.bits IntKind.u8) (IntKind.wrap IntKind.u8 (Int.tmod ma (256 : Int))))) : Int)))]))) : ByteArray })])) = _
      rotate_left 1
      refine Run.reg C_ok [.call (V.b (decide (List.length xs ≤ (2000 : Nat) ∧ (0 : Int) ≤ (↑m : Int) ∧ (↑m : Int) < (↑(List.length xs) : Int)))) ([[], []]), .b (true), .b (true), .b (true), .b (true), .b (true), .b (true), .b (true), .b (true), .b (true), .b (true), .b (true), .b (true), .b (true), .b (true), .b (true)] ?_
      conv => whnf
      refine ⟨⟨I, I, ⟨⟨I, I, I⟩, I, ⟨⟨I, I⟩, ⟨I, I⟩, I⟩, ⟨I, I⟩, ⟨Go.K.e_spec_l6There, Go.K.c_spec_l6There _ _ (by omega)⟩⟩, I, I, notT (by omega), notT (by omega), notT (by omega), I, rfl, rfl, rfl, I, rfl, rfl, rfl, rfl, rfl, rfl, rfl, rfl, rfl, I⟩, ?_⟩
      refine Run.cnd ?_
      conv => whnf
      refine ⟨fun _ => ?_, noF (rfl)⟩
      refine Run.seqk ?_
      refine Run.reg C_ok [] ?_
      conv => whnf
      refine ⟨⟨I, I, I⟩, ?_⟩
      refine Run.ret ?_
      refine Ends.rt [] ?_
      conv => whnf
      refine ⟨⟨I, I, I⟩, ?_, rfl⟩
      show V.own [false, false, false] (List.map parT xs) = _
      rotate_left 1
      all_goals (first | rw [bend_no (by omega)] | rw [bend_out (by assumption) (by omega)] | exact congrArg (V.own pkd) (bend_yes (by omega) (by assumption) (by assumption)) | skip)
    · refine i_spec_Bend (by simp) (by simp [Clo, aCells, cellsOf, closedCell]) rfl ?_
      refine Run.seqk ?_
      refine Run.reg C_ok [] ?_
      conv => whnf
      refine ⟨⟨I, I⟩, ?_⟩
      refine Run.seqk ?_
      refine Run.reg C_ok [.call (V.own pkd (List.map parT xs)) ([[]])] ?_
      conv => whnf
      refine ⟨⟨I, ⟨⟨I, I⟩, I, ⟨⟨I, I⟩, I⟩, ⟨I, I⟩, ⟨Go.K.e_spec_l6Copy, Go.K.c_spec_l6Copy _ (by omega)⟩⟩, I, I⟩, ?_⟩
      refine Run.seqk ?_
      refine Run.seqk ?_
      by_cases h1 : List.length xs ≤ (2000 : Nat) ∧ (0 : Int) ≤ (↑m : Int) ∧ (↑m : Int) < (↑(List.length xs) : Int)
      by_cases h2 : ma < (0 : Int)
      refine Run.reg C_ok [.call (V.b (decide (List.length xs ≤ (2000 : Nat) ∧ (0 : Int) ≤ (↑m : Int) ∧ (↑m : Int) < (↑(List.length xs) : Int)))) ([[], []]), .b (false), .b (false), .b (false), .b (true), .b (true), .b (true), .b (true), .b (true), .b (true), .b (true), .b (true), .b (true), .b (true), .b (true), .b (true)] ?_
      conv => whnf
      refine ⟨⟨I, I, ⟨⟨I, I, I⟩, I, ⟨⟨I, I⟩, ⟨I, I⟩, I⟩, ⟨I, I⟩, ⟨Go.K.e_spec_l6There, Go.K.c_spec_l6There _ _ (by omega)⟩⟩, I, I, ⟨notF (by omega), I⟩, ⟨notF (by omega), I⟩, notF (by omega), I, decide_eq_true (by omega), decide_eq_true (by omega), decide_eq_true (by omega), I, rfl, rfl, rfl, rfl, rfl, rfl, rfl, rfl, rfl, I⟩, ?_⟩
      refine Run.cnd ?_
      conv => whnf
      refine ⟨fun _ => ?_, noF (rfl)⟩
      refine Run.seqk ?_
      refine Run.reg C_ok [] ?_
      conv => whnf
      refine ⟨⟨I, I, I⟩, ?_⟩
      refine Run.ret ?_
      refine Ends.rt [] ?_
      conv => whnf
      refine ⟨⟨I, I, I⟩, ?_, rfl⟩
      show V.own [false, false, false] (List.map parT xs) = _
      rotate_left 1
      refine Run.reg C_ok [.call (V.b (decide (List.length xs ≤ (2000 : Nat) ∧ (0 : Int) ≤ (↑m : Int) ∧ (↑m : Int) < (↑(List.length xs) : Int)))) ([[], []]), .b (false), .b (false), .b (false), .b (false), .b (false), .b (false), .b (true), .b (true), .b (true), .b (true), .b (true), .b (true), .b (true), .b (true), .b (true)] ?_
      conv => whnf
      refine ⟨⟨I, I, ⟨⟨I, I, I⟩, I, ⟨⟨I, I⟩, ⟨I, I⟩, I⟩, ⟨I, I⟩, ⟨Go.K.e_spec_l6There, Go.K.c_spec_l6There _ _ (by omega)⟩⟩, I, I, ⟨notF (by omega), I⟩, ⟨notF (by omega), I⟩, notF (by omega), I, ⟨decide_eq_false (by omega), I⟩, ⟨decide_eq_false (by omega), I⟩, decide_eq_false (by omega), I, decide_eq_true (by omega), decide_eq_true (by omega), decide_eq_true (by omega), decide_eq_true (by omega), decide_eq_true (by omega), decide_eq_true (by omega), decide_eq_true (by omega), decide_eq_true (by omega), decide_eq_true (by omega), I⟩, ?_⟩
      refine Run.cnd ?_
      conv => whnf
      refine ⟨fun _ => ?_, noF (rfl)⟩
      refine Run.seqk ?_
      refine Run.reg C_ok [] ?_
      conv => whnf
      refine ⟨⟨I, I, I⟩, ?_⟩
      refine Run.ret ?_
      refine Ends.rt [] ?_
      conv => whnf
      refine ⟨⟨I, I, I⟩, ?_, rfl⟩
      show V.own [false, false, false] (List.map parT xs) = _
      rotate_left 1
      refine Run.reg C_ok [.call (V.b (decide (List.length xs ≤ (2000 : Nat) ∧ (0 : Int) ≤ (↑m : Int) ∧ (↑m : Int) < (↑(List.length xs) : Int)))) ([[], []]), .b (true), .b (true), .b (true), .b (true), .b (true), .b (true), .b (true), .b (true), .b (true), .b (true), .b (true), .b (true), .b (true), .b (true), .b (true)] ?_
      conv => whnf
      refine ⟨⟨I, I, ⟨⟨I, I, I⟩, I, ⟨⟨I, I⟩, ⟨I, I⟩, I⟩, ⟨I, I⟩, ⟨Go.K.e_spec_l6There, Go.K.c_spec_l6There _ _ (by omega)⟩⟩, I, I, notT (by omega), notT (by omega), notT (by omega), I, rfl, rfl, rfl, I, rfl, rfl, rfl, rfl, rfl, rfl, rfl, rfl, rfl, I⟩, ?_⟩
      refine Run.cnd ?_
      conv => whnf
      refine ⟨fun _ => ?_, noF (rfl)⟩
      refine Run.seqk ?_
      refine Run.reg C_ok [] ?_
      conv => whnf
      refine ⟨⟨I, I, I⟩, ?_⟩
      refine Run.ret ?_
      refine Ends.rt [] ?_
      conv => whnf
      refine ⟨⟨I, I, I⟩, ?_, rfl⟩
      show V.own [false, false, false] (List.map parT xs) = _
      rotate_left 1
      all_goals rw [bend_no (by omega)]
  · refine i_spec_Bend (by simp) (by simp [Clo, aCells, cellsOf, closedCell]) rfl ?_
    refine Run.seqk ?_
    refine Run.reg C_ok [] ?_
    conv => whnf
    refine ⟨⟨I, I⟩, ?_⟩
    refine Run.seqk ?_
    refine Run.reg C_ok [.call (V.own pkd (List.map parT xs)) ([[]])] ?_
    conv => whnf
    refine ⟨⟨I, ⟨⟨I, I⟩, I, ⟨⟨I, I⟩, I⟩, ⟨I, I⟩, ⟨Go.K.e_spec_l6Copy, Go.K.c_spec_l6Copy _ (by omega)⟩⟩, I, I⟩, ?_⟩
    refine Run.seqk ?_
    refine Run.seqk ?_
    refine Run.reg C_ok [.call (V.b (decide (List.length xs ≤ (2000 : Nat) ∧ (0 : Int) ≤ k ∧ k < (↑(List.length xs) : Int)))) ([[], []]), .b (true), .b (true), .b (true), .b (true), .b (true), .b (true), .b (true), .b (true), .b (true), .b (true), .b (true), .b (true), .b (true), .b (true), .b (true)] ?_
    conv => whnf
    refine ⟨⟨I, I, ⟨⟨I, I, I⟩, I, ⟨⟨I, I⟩, ⟨I, I⟩, I⟩, ⟨I, I⟩, ⟨Go.K.e_spec_l6There, Go.K.c_spec_l6There _ _ (by omega)⟩⟩, I, I, notT (by omega), notT (by omega), notT (by omega), I, rfl, rfl, rfl, I, rfl, rfl, rfl, rfl, rfl, rfl, rfl, rfl, rfl, I⟩, ?_⟩
    refine Run.cnd ?_
    conv => whnf
    refine ⟨fun _ => ?_, noF (rfl)⟩
    refine Run.seqk ?_
    refine Run.reg C_ok [] ?_
    conv => whnf
    refine ⟨⟨I, I, I⟩, ?_⟩
    refine Run.ret ?_
    refine Ends.rt [] ?_
    conv => whnf
    refine ⟨⟨I, I, I⟩, ?_, rfl⟩
    show V.own [false, false, false] (List.map parT xs) = _
    all_goals rw [bend_no (by omega)]
theorem c_impl_Bend (xs : List Parcel) (k pl ma : Int) (hl : xs.length ≤ 1048576) (hs : ∀ p ∈ xs, p.text.size ≤ 1048576) : Tm.Fn Try.prog n_impl_Bend [.val (.t (pars xs)), .val (.i k), .val (.i pl), .val (.i ma)] (.own pkd ((bend xs k pl ma).map parT)) [[], [], [], []] := by
  by_cases h0 : 0 ≤ k
  · obtain ⟨m, rfl⟩ := Int.eq_ofNat_of_zero_le h0
    by_cases h8 : 0 ≤ pl
    · obtain ⟨q, rfl⟩ := Int.eq_ofNat_of_zero_le h8
      refine i_impl_Bend (by simp) (by simp [Clo, aCells, cellsOf, closedCell]) rfl ?_
      refine Run.seqk ?_
      refine Run.reg C_ok [] ?_
      conv => whnf
      refine ⟨⟨I, I⟩, ?_⟩
      refine Run.seqk ?_
      refine Run.reg C_ok [.call (V.own pkd (List.map parT xs)) ([[]])] ?_
      conv => whnf
      refine ⟨⟨I, ⟨⟨I, I⟩, I, ⟨⟨I, I⟩, I⟩, ⟨I, I⟩, ⟨Go.K.e_impl_copied, Go.K.c_impl_copied _ (by omega)⟩⟩, I, I⟩, ?_⟩
      refine Run.seqk ?_
      refine Run.seqk ?_
      by_cases h1 : List.length xs ≤ (2000 : Nat) ∧ (0 : Int) ≤ (↑m : Int) ∧ (↑m : Int) < (↑(List.length xs) : Int)
      obtain ⟨y1, hy1⟩ := some_at (xs := xs) (n := m) (by omega)
      have hm1 := hs y1 (List.mem_of_getElem? hy1)
      by_cases h2 : (0 : Int) ≤ (↑q : Int) ∧ (↑q : Int) ≤ (↑(ByteArray.size (Parcel.text y1)) : Int) - (1 : Int)
      refine Run.reg C_ok [.call (V.b (decide (List.length xs ≤ (2000 : Nat) ∧ (0 : Int) ≤ (↑m : Int) ∧ (↑m : Int) < (↑(List.length xs) : Int)))) ([[], []]), .b (true), .b (true), .b (true), .b (true), .n (m), .b (true), .b (true), .x (parT y1), .b (true), .b (true), .i ((↑(ByteArray.size (Parcel.text y1)) : Int) - (1 : Int)), .b (true), .call (V.b (decide ((0 : Int) ≤ (↑q : Int) ∧ (↑q : Int) ≤ (↑(ByteArray.size (Parcel.text y1)) : Int) - (1 : Int)))) ([[], [], []]), .b (true), .b (true), .b (true), .b (true)] ?_
      conv => whnf
      refine ⟨⟨I, I, ⟨⟨I, I, I⟩, I, ⟨⟨I, I⟩, ⟨I, I⟩, I⟩, ⟨I, I⟩, ⟨Go.K.e_impl_there, Go.K.c_impl_there _ _ (by omega)⟩⟩, I, ⟨decide_eq_true (by omega), I⟩, ⟨decide_eq_true (by omega), I⟩, ⟨decide_eq_true (by omega), I⟩, ⟨decide_eq_true (by omega), rfl, (by simp only [List.length_map, List.length_append, List.length_set, List.length_replicate, List.length_cons, List.length_nil, List.length_take, List.length_drop, fill_len, fillI_len, List.length_range, bytesT_len]; omega)⟩, ⟨decide_eq_true (by omega), I⟩, ⟨decide_eq_true (by omega), ixl (by assumption)⟩, ⟨decide_eq_true (by omega), I⟩, ⟨decide_eq_true (by omega), w64 (by omega) (by omega)⟩, ⟨decide_eq_true (by omega), ⟨I, I, I, I⟩, I, ⟨⟨I, I⟩, ⟨I, I⟩, ⟨I, I⟩, I⟩, ⟨I, I⟩, ⟨Go.K.e_impl_within, Go.K.c_impl_within _ _ _⟩⟩, decide_eq_true (by omega), I, ⟨decide_eq_true (by omega), I⟩, ⟨decide_eq_true (by omega), I⟩, decide_eq_true (by omega), I⟩, ?_⟩
      refine Run.cnd ?_
      conv => whnf
      refine ⟨fun h3 => ?_, fun h3 => ?_⟩
      replace h3 := dt h3
      refine Run.seqk ?_
      refine Run.reg C_ok [.n (m), .x (parT y1)] ?_
      conv => whnf
      refine ⟨⟨I, I, ⟨rfl, (by simp only [List.length_map, List.length_append, List.length_set, List.length_replicate, List.length_cons, List.length_nil, List.length_take, List.length_drop, fill_len, fillI_len, List.length_range, bytesT_len]; omega)⟩, I, ixl (by assumption), (by omega), I, I⟩, ?_⟩
      refine Run.seqk ?_
      obtain ⟨y2, hy2, hb1⟩ := byte_at (s := Parcel.text y1) (n := q) (by omega)
      refine Run.reg C_ok [.n (q), .x ([T.v (Value.int IntKind.u8 (↑(UInt8.toNat y2) : Int))]), .i (Int.tmod ma (256 : Int)), .i (IntKind.wrap IntKind.u8 (Int.tmod ma (256 : Int))), .i (IntKind.wrap IntKind.u8 (↑(BitVec.toNat (BitVec.ofInt (IntKind.bits IntKind.u8) (↑(UInt8.toNat y2) : Int) ^^^ BitVec.ofInt (IntKind.bits IntKind.u8) (IntKind.wrap IntKind.u8 (Int.tmod ma (256 : Int))))) : Int)), .n (q), .x ([T.v (Value.int IntKind.u8 (↑(UInt8.toNat y2) : Int))])] ?_
      conv => whnf
      refine ⟨⟨I, I, ⟨rfl, (by simp only [List.length_map, List.length_append, List.length_set, List.length_replicate, List.length_cons, List.length_nil, List.length_take, List.length_drop, fill_len, fillI_len, List.length_range, bytesT_len]; omega)⟩, (bytesT_get (by assumption)), I, ⟨(by omega), rfl⟩, rfl, rfl, ⟨rfl, (by simp only [List.length_map, List.length_append, List.length_set, List.length_replicate, List.length_cons, List.length_nil, List.length_take, List.length_drop, fill_len, fillI_len, List.length_range, bytesT_len]; omega)⟩, ⟨⟨I, I⟩, (bytesT_get (by assumption))⟩, I⟩, ?_⟩
      refine Run.reg C_ok [.s ({ data := List.toArray (bytesOf (Prod.snd ([false], List.set (bytesT (Parcel.text y1)) q (patch [T.v (Value.int IntKind.u8 (↑(UInt8.toNat y2) : Int))] (0 : Nat) [T.v (Value.int IntKind.u8 (IntKind.wrap IntKind.u8 (↑(BitVec.toNat (BitVec.ofInt (IntKind.bits IntKind.u8) (↑(UInt8.toNat y2) : Int) ^^^ BitVec.ofInt (IntKind.bits IntKind.u8) (IntKind.wrap IntKind.u8 (Int.tmod ma (256 : Int))))) : Int)))])))) : ByteArray }), .n (m), .x (parT y1)] ?_
      conv => whnf
      refine ⟨⟨I, I, I, ⟨I, allU8_set (allU8_bytesT _), rfl⟩, ⟨rfl, (by simp only [List.length_map, List.length_append, List.length_set, List.length_replicate, List.length_cons, List.length_nil, List.length_take, List.length_drop, fill_len, fillI_len, List.length_range, bytesT_len]; omega)⟩, I, ⟨⟨I, I⟩, ixl (by assumption)⟩, I⟩, ?_⟩
      refine Run.seqk ?_
      refine Run.reg C_ok [] ?_
      conv => whnf
      refine ⟨⟨I, I, I⟩, ?_⟩
      refine Run.ret ?_
      refine Ends.rt [] ?_
      conv => whnf
      refine ⟨⟨I, I, I⟩, ?_, rfl⟩
      show V.own [false, false, false] (List.set (List.map parT xs) m (patch (parT y1) (2 : Nat) [T.v (Value.string { data := List.toArray (bytesOf (List.set (bytesT (Parcel.text y1)) q (patch [T.v (Value.int IntKind.u8 (↑(UInt8.toNat y2) : Int))] (0 : Nat) [T.v (Value.int IntKind.u8 (IntKind.wrap IntKind.u8 (↑(BitVec.toNat (BitVec.ofInt (IntKind.bits IntKind.u8) (↑(UInt8.toNat y2) : Int) ^^^ BitVec.ofInt (IntKind.bits IntKind.u8) (IntKind.wrap IntKind.u8 (Int.tmod ma (256 : Int))))) : Int)))]))) : ByteArray })])) = _
      rotate_left 1
      replace h3 := df h3
      refine Run.skip ?_
      refine Run.seqk ?_
      refine Run.reg C_ok [] ?_
      conv => whnf
      refine ⟨⟨I, I, I⟩, ?_⟩
      refine Run.ret ?_
      refine Ends.rt [] ?_
      conv => whnf
      refine ⟨⟨I, I, I⟩, ?_, rfl⟩
      show V.own [false, false, false] (List.map parT xs) = _
      rotate_left 1
      refine Run.reg C_ok [.call (V.b (decide (List.length xs ≤ (2000 : Nat) ∧ (0 : Int) ≤ (↑m : Int) ∧ (↑m : Int) < (↑(List.length xs) : Int)))) ([[], []]), .b (true), .b (true), .b (true), .b (true), .n (m), .b (true), .b (true), .x (parT y1), .b (true), .b (true), .i ((↑(ByteArray.size (Parcel.text y1)) : Int) - (1 : Int)), .b (true), .call (V.b (decide ((0 : Int) ≤ (↑q : Int) ∧ (↑q : Int) ≤ (↑(ByteArray.size (Parcel.text y1)) : Int) - (1 : Int)))) ([[], [], []]), .b (true), .b (false), .b (false), .b (false)] ?_
      conv => whnf
      refine ⟨⟨I, I, ⟨⟨I, I, I⟩, I, ⟨⟨I, I⟩, ⟨I, I⟩, I⟩, ⟨I, I⟩, ⟨Go.K.e_impl_there, Go.K.c_impl_there _ _ (by omega)⟩⟩, I, ⟨decide_eq_true (by omega), I⟩, ⟨decide_eq_true (by omega), I⟩, ⟨decide_eq_true (by omega), I⟩, ⟨decide_eq_true (by omega), rfl, (by simp only [List.length_map, List.length_append, List.length_set, List.length_replicate, List.length_cons, List.length_nil, List.length_take, List.length_drop, fill_len, fillI_len, List.length_range, bytesT_len]; omega)⟩, ⟨decide_eq_true (by omega), I⟩, ⟨decide_eq_true (by omega), ixl (by assumption)⟩, ⟨decide_eq_true (by omega), I⟩, ⟨decide_eq_true (by omega), w64 (by omega) (by omega)⟩, ⟨decide_eq_true (by omega), ⟨I, I, I, I⟩, I, ⟨⟨I, I⟩, ⟨I, I⟩, ⟨I, I⟩, I⟩, ⟨I, I⟩, ⟨Go.K.e_impl_within, Go.K.c_impl_within _ _ _⟩⟩, decide_eq_true (by omega), I, decide_eq_false (by omega), decide_eq_false (by omega), decide_eq_false (by omega), I⟩, ?_⟩
      refine Run.cnd ?_
      conv => whnf
      refine ⟨noT (rfl), fun _ => ?_⟩
      refine Run.skip ?_
      refine Run.seqk ?_
      refine Run.reg C_ok [] ?_
      conv => whnf
      refine ⟨⟨I, I, I⟩, ?_⟩
      refine Run.ret ?_
      refine Ends.rt [] ?_
      conv => whnf
      refine ⟨⟨I, I, I⟩, ?_, rfl⟩
      show V.own [false, false, false] (List.map parT xs) = _
      rotate_left 1
      refine Run.reg C_ok [.call (V.b (decide (List.length xs ≤ (2000 : Nat) ∧ (0 : Int) ≤ (↑m : Int) ∧ (↑m : Int) < (↑(List.length xs) : Int)))) ([[], []]), .b (false), .b (false), .b (false), .b (false), .b (false), .b (false), .b (false), .b (false), .b (false), .b (false), .b (false), .b (false), .b (false)] ?_
      conv => whnf
      refine ⟨⟨I, I, ⟨⟨I, I, I⟩, I, ⟨⟨I, I⟩, ⟨I, I⟩, I⟩, ⟨I, I⟩, ⟨Go.K.e_impl_there, Go.K.c_impl_there _ _ (by omega)⟩⟩, I, decide_eq_false (by omega), decide_eq_false (by omega), decide_eq_false (by omega), decide_eq_false (by omega), decide_eq_false (by omega), decide_eq_false (by omega), decide_eq_false (by omega), decide_eq_false (by omega), decide_eq_false (by omega), decide_eq_false (by omega), I, rfl, rfl, rfl, I⟩, ?_⟩
      refine Run.cnd ?_
      conv => whnf
      refine ⟨noT (rfl), fun _ => ?_⟩
      refine Run.skip ?_
      refine Run.seqk ?_
      refine Run.reg C_ok [] ?_
      conv => whnf
      refine ⟨⟨I, I, I⟩, ?_⟩
      refine Run.ret ?_
      refine Ends.rt [] ?_
      conv => whnf
      refine ⟨⟨I, I, I⟩, ?_, rfl⟩
      show V.own [false, false, false] (List.map parT xs) = _
      rotate_left 1
      all_goals (first | rw [bend_no (by omega)] | rw [bend_out (by assumption) (by omega)] | exact congrArg (V.own pkd) (bend_yes (by omega) (by assumption) (by assumption)) | skip)
    · refine i_impl_Bend (by simp) (by simp [Clo, aCells, cellsOf, closedCell]) rfl ?_
      refine Run.seqk ?_
      refine Run.reg C_ok [] ?_
      conv => whnf
      refine ⟨⟨I, I⟩, ?_⟩
      refine Run.seqk ?_
      refine Run.reg C_ok [.call (V.own pkd (List.map parT xs)) ([[]])] ?_
      conv => whnf
      refine ⟨⟨I, ⟨⟨I, I⟩, I, ⟨⟨I, I⟩, I⟩, ⟨I, I⟩, ⟨Go.K.e_impl_copied, Go.K.c_impl_copied _ (by omega)⟩⟩, I, I⟩, ?_⟩
      refine Run.seqk ?_
      refine Run.seqk ?_
      by_cases h1 : List.length xs ≤ (2000 : Nat) ∧ (0 : Int) ≤ (↑m : Int) ∧ (↑m : Int) < (↑(List.length xs) : Int)
      obtain ⟨y1, hy1⟩ := some_at (xs := xs) (n := m) (by omega)
      have hm1 := hs y1 (List.mem_of_getElem? hy1)
      refine Run.reg C_ok [.call (V.b (decide (List.length xs ≤ (2000 : Nat) ∧ (0 : Int) ≤ (↑m : Int) ∧ (↑m : Int) < (↑(List.length xs) : Int)))) ([[], []]), .b (true), .b (true), .b (true), .b (true), .n (m), .b (true), .b (true), .x (parT y1), .b (true), .b (true), .i ((↑(ByteArray.size (Parcel.text y1)) : Int) - (1 : Int)), .b (true), .call (V.b (decide ((0 : Int) ≤ pl ∧ pl ≤ (↑(ByteArray.size (Parcel.text y1)) : Int) - (1 : Int)))) ([[], [], []]), .b (true), .b (false), .b (false), .b (false)] ?_
      conv => whnf
      refine ⟨⟨I, I, ⟨⟨I, I, I⟩, I, ⟨⟨I, I⟩, ⟨I, I⟩, I⟩, ⟨I, I⟩, ⟨Go.K.e_impl_there, Go.K.c_impl_there _ _ (by omega)⟩⟩, I, ⟨decide_eq_true (by omega), I⟩, ⟨decide_eq_true (by omega), I⟩, ⟨decide_eq_true (by omega), I⟩, ⟨decide_eq_true (by omega), rfl, (by simp only [List.length_map, List.length_append, List.length_set, List.length_replicate, List.length_cons, List.length_nil, List.length_take, List.length_drop, fill_len, fillI_len, List.length_range, bytesT_len]; omega)⟩, ⟨decide_eq_true (by omega), I⟩, ⟨decide_eq_true (by omega), ixl (by assumption)⟩, ⟨decide_eq_true (by omega), I⟩, ⟨decide_eq_true (by omega), w64 (by omega) (by omega)⟩, ⟨decide_eq_true (by omega), ⟨I, I, I, I⟩, I, ⟨⟨I, I⟩, ⟨I, I⟩, ⟨I, I⟩, I⟩, ⟨I, I⟩, ⟨Go.K.e_impl_within, Go.K.c_impl_within _ _ _⟩⟩, decide_eq_true (by omega), I, decide_eq_false (by omega), decide_eq_false (by omega), decide_eq_false (by omega), I⟩, ?_⟩
      refine Run.cnd ?_
      conv => whnf
      refine ⟨noT (rfl), fun _ => ?_⟩
      refine Run.skip ?_
      refine Run.seqk ?_
      refine Run.reg C_ok [] ?_
      conv => whnf
      refine ⟨⟨I, I, I⟩, ?_⟩
      refine Run.ret ?_
      refine Ends.rt [] ?_
      conv => whnf
      refine ⟨⟨I, I, I⟩, ?_, rfl⟩
      show V.own [false, false, false] (List.map parT xs) = _
      rotate_left 1
      refine Run.reg C_ok [.call (V.b (decide (List.length xs ≤ (2000 : Nat) ∧ (0 : Int) ≤ (↑m : Int) ∧ (↑m : Int) < (↑(List.length xs) : Int)))) ([[], []]), .b (false), .b (false), .b (false), .b (false), .b (false), .b (false), .b (false), .b (false), .b (false), .b (false), .b (false), .b (false), .b (false)] ?_
      conv => whnf
      refine ⟨⟨I, I, ⟨⟨I, I, I⟩, I, ⟨⟨I, I⟩, ⟨I, I⟩, I⟩, ⟨I, I⟩, ⟨Go.K.e_impl_there, Go.K.c_impl_there _ _ (by omega)⟩⟩, I, decide_eq_false (by omega), decide_eq_false (by omega), decide_eq_false (by omega), decide_eq_false (by omega), decide_eq_false (by omega), decide_eq_false (by omega), decide_eq_false (by omega), decide_eq_false (by omega), decide_eq_false (by omega), decide_eq_false (by omega), I, rfl, rfl, rfl, I⟩, ?_⟩
      refine Run.cnd ?_
      conv => whnf
      refine ⟨noT (rfl), fun _ => ?_⟩
      refine Run.skip ?_
      refine Run.seqk ?_
      refine Run.reg C_ok [] ?_
      conv => whnf
      refine ⟨⟨I, I, I⟩, ?_⟩
      refine Run.ret ?_
      refine Ends.rt [] ?_
      conv => whnf
      refine ⟨⟨I, I, I⟩, ?_, rfl⟩
      show V.own [false, false, false] (List.map parT xs) = _
      rotate_left 1
      all_goals rw [bend_no (by omega)]
  · refine i_impl_Bend (by simp) (by simp [Clo, aCells, cellsOf, closedCell]) rfl ?_
    refine Run.seqk ?_
    refine Run.reg C_ok [] ?_
    conv => whnf
    refine ⟨⟨I, I⟩, ?_⟩
    refine Run.seqk ?_
    refine Run.reg C_ok [.call (V.own pkd (List.map parT xs)) ([[]])] ?_
    conv => whnf
    refine ⟨⟨I, ⟨⟨I, I⟩, I, ⟨⟨I, I⟩, I⟩, ⟨I, I⟩, ⟨Go.K.e_impl_copied, Go.K.c_impl_copied _ (by omega)⟩⟩, I, I⟩, ?_⟩
    refine Run.seqk ?_
    refine Run.seqk ?_
    refine Run.reg C_ok [.call (V.b (decide (List.length xs ≤ (2000 : Nat) ∧ (0 : Int) ≤ k ∧ k < (↑(List.length xs) : Int)))) ([[], []]), .b (false), .b (false), .b (false), .b (false), .b (false), .b (false), .b (false), .b (false), .b (false), .b (false), .b (false), .b (false), .b (false)] ?_
    conv => whnf
    refine ⟨⟨I, I, ⟨⟨I, I, I⟩, I, ⟨⟨I, I⟩, ⟨I, I⟩, I⟩, ⟨I, I⟩, ⟨Go.K.e_impl_there, Go.K.c_impl_there _ _ (by omega)⟩⟩, I, decide_eq_false (by omega), decide_eq_false (by omega), decide_eq_false (by omega), decide_eq_false (by omega), decide_eq_false (by omega), decide_eq_false (by omega), decide_eq_false (by omega), decide_eq_false (by omega), decide_eq_false (by omega), decide_eq_false (by omega), I, rfl, rfl, rfl, I⟩, ?_⟩
    refine Run.cnd ?_
    conv => whnf
    refine ⟨noT (rfl), fun _ => ?_⟩
    refine Run.skip ?_
    refine Run.seqk ?_
    refine Run.reg C_ok [] ?_
    conv => whnf
    refine ⟨⟨I, I, I⟩, ?_⟩
    refine Run.ret ?_
    refine Ends.rt [] ?_
    conv => whnf
    refine ⟨⟨I, I, I⟩, ?_, rfl⟩
    show V.own [false, false, false] (List.map parT xs) = _
    all_goals rw [bend_no (by omega)]
theorem bend_len (xs : List Parcel) (k pl ma : Int) : (bend xs k pl ma).length = xs.length := by
  unfold bend; split
  · split
    · rw [List.length_set]
    · rfl
  · rfl
theorem totP_mem : ∀ {l : List Parcel} {p : Parcel}, p ∈ l → (p.text.size : Int) ≤ totP l
  | x :: l, p, h => by
    rcases List.mem_cons.1 h with rfl | h
    · have := totP_nn l; simp only [totP]; omega
    · have := totP_mem h; simp only [totP]; omega
theorem c_laws_FnExactBend (xs : List Parcel) (k pl ma : Int) (h2 : xs.length ≤ 9223372036854775807) (h3 : ∀ p ∈ xs, p.frm.size ≤ 9223372036854775807 ∧ p.text.size ≤ 9223372036854775807) : Tm.Fn Try.prog n_laws_FnExactBend [.val (.t (pars xs)), .val (.i k), .val (.i pl), .val (.i ma)] (.b true) [[], [], [], []] := by
  have c0 := c_laws_szParcelS xs 1048576 h2 h3 (by omega) (by omega)
  by_cases hq : (1048576 : Int) - xs.length - totP xs < 0
  · rw [if_pos hq] at c0
    refine i_laws_FnExactBend (by simp) (by simp [Clo, aCells, cellsOf, closedCell]) rfl ?_
    refine Run.seqk ?_
    refine Run.reg C_ok [] ?_
    conv => whnf
    refine ⟨⟨I, I⟩, ?_⟩
    refine Run.seqk ?_
    refine Run.reg C_ok [] ?_
    conv => whnf
    refine ⟨⟨I, I⟩, ?_⟩
    refine Run.seqk ?_
    refine Run.reg C_ok [.call (V.i (-1 : Int)) ([[], []])] ?_
    conv => whnf
    refine ⟨⟨I, I, ⟨⟨I, I, I⟩, I, ⟨⟨I, I⟩, ⟨I, I⟩, I⟩, ⟨I, I⟩, ⟨Go.K.e_laws_szParcelS, by assumption⟩⟩, I, I⟩, ?_⟩
    refine Run.seqk ?_
    refine Run.seqk ?_
    refine Run.reg C_ok [] ?_
    conv => whnf
    refine ⟨⟨I, I, I⟩, ?_⟩
    refine Run.cnd ?_
    conv => whnf
    refine ⟨fun _ => ?_, noF (rfl)⟩
    refine Run.seqk ?_
    refine Run.reg C_ok [] ?_
    conv => whnf
    refine ⟨⟨I, I⟩, ?_⟩
    refine Run.ret ?_
    refine Ends.rt [] ?_
    conv => whnf
    refine ⟨⟨I, I, I⟩, ?_, rfl⟩
    show V.t (T.v (Value.bool true)) = _
    rfl
  · rw [if_neg hq] at c0
    have hnn := totP_nn xs
    have hll := bend_len xs k pl ma
    have hs : ∀ p ∈ xs, p.text.size ≤ 1048576 := fun p h => by have := totP_mem h; omega
    refine i_laws_FnExactBend (by simp) (by simp [Clo, aCells, cellsOf, closedCell]) rfl ?_
    refine Run.seqk ?_
    refine Run.reg C_ok [] ?_
    conv => whnf
    refine ⟨⟨I, I⟩, ?_⟩
    refine Run.seqk ?_
    refine Run.reg C_ok [] ?_
    conv => whnf
    refine ⟨⟨I, I⟩, ?_⟩
    refine Run.seqk ?_
    refine Run.reg C_ok [.call (V.i ((1048576 : Int) - (↑(List.length xs) : Int) - totP xs)) ([[], []])] ?_
    conv => whnf
    refine ⟨⟨I, I, ⟨⟨I, I, I⟩, I, ⟨⟨I, I⟩, ⟨I, I⟩, I⟩, ⟨I, I⟩, ⟨Go.K.e_laws_szParcelS, by assumption⟩⟩, I, I⟩, ?_⟩
    refine Run.seqk ?_
    refine Run.seqk ?_
    refine Run.reg C_ok [] ?_
    conv => whnf
    refine ⟨⟨I, I, I⟩, ?_⟩
    refine Run.cnd ?_
    conv => whnf
    refine ⟨noT (decide_eq_false (by omega)), fun _ => ?_⟩
    refine Run.skip ?_
    refine Run.seqk ?_
    refine Run.reg C_ok [.call (V.own pkd (List.map parT xs)) ([[]]), .call (V.own pkd (List.map parT (bend xs k pl ma))) ([[], [], [], []])] ?_
    conv => whnf
    refine ⟨⟨I, ⟨⟨I, I⟩, I, ⟨⟨I, I⟩, I⟩, ⟨I, I⟩, ⟨Go.K.e_laws_toParcelS, Go.K.c_laws_toParcelS _ (by omega)⟩⟩, I, I, I, ⟨⟨I, I, I, I, I⟩, I, ⟨⟨I, I⟩, ⟨I, I⟩, ⟨I, I⟩, ⟨I, I⟩, I⟩, ⟨I, I⟩, ⟨Go.K.e_spec_Bend, Go.K.c_spec_Bend _ _ _ _ (by omega) (by omega)⟩⟩, I, I⟩, ?_⟩
    refine Run.seqk ?_
    refine Run.reg C_ok [.call (V.own pkd (List.map parT xs)) ([[]])] ?_
    conv => whnf
    refine ⟨⟨I, ⟨⟨I, I⟩, I, ⟨⟨I, I⟩, I⟩, ⟨I, I⟩, ⟨Go.K.e_laws_toParcelS, Go.K.c_laws_toParcelS _ (by omega)⟩⟩, I, I⟩, ?_⟩
    refine Run.seqk ?_
    refine Run.reg C_ok [.call (V.own pkd (List.map parT (bend xs k pl ma))) ([[], [], [], []])] ?_
    conv => whnf
    refine ⟨⟨I, I, I, I, ⟨⟨I, I, I, I, I⟩, I, ⟨⟨I, I⟩, ⟨I, I⟩, ⟨I, I⟩, ⟨I, I⟩, I⟩, ⟨I, I⟩, ⟨Go.K.e_impl_Bend, Go.K.c_impl_Bend _ _ _ _ (by omega) (by omega)⟩⟩, I, I⟩, ?_⟩
    refine Run.seqk ?_
    refine Run.seqk ?_
    refine Run.reg C_ok [.call (V.b (decide (bend xs k pl ma = bend xs k pl ma))) ([[], []])] ?_
    conv => whnf
    refine ⟨⟨I, I, ⟨⟨I, I, I⟩, I, ⟨⟨I, I⟩, ⟨I, I⟩, I⟩, ⟨I, I⟩, ⟨Go.K.e_laws_eqParcelS, Go.K.c_laws_eqParcelS _ _ (by omega)⟩⟩, I, I⟩, ?_⟩
    refine Run.cnd ?_
    conv => whnf
    refine ⟨noT (notF rfl), fun _ => ?_⟩
    refine Run.skip ?_
    refine Run.seqk ?_
    refine Run.seqk ?_
    refine Run.reg C_ok [.call (V.own pkd (List.map parT xs)) ([[]]), .call (V.b (decide (xs = xs))) ([[], []])] ?_
    conv => whnf
    refine ⟨⟨I, I, ⟨⟨I, I⟩, I, ⟨⟨I, I⟩, I⟩, ⟨I, I⟩, ⟨Go.K.e_laws_toParcelS, Go.K.c_laws_toParcelS _ (by omega)⟩⟩, ⟨⟨I, I, I⟩, I, ⟨⟨I, I⟩, ⟨I, I⟩, I⟩, ⟨I, I⟩, ⟨Go.K.e_laws_eqParcelS, Go.K.c_laws_eqParcelS _ _ (by omega)⟩⟩, I, I⟩, ?_⟩
    refine Run.cnd ?_
    conv => whnf
    refine ⟨noT (notF rfl), fun _ => ?_⟩
    refine Run.skip ?_
    refine Run.seqk ?_
    refine Run.reg C_ok [] ?_
    conv => whnf
    refine ⟨⟨I, I⟩, ?_⟩
    refine Run.seqk ?_
    refine Run.reg C_ok [.call (V.i ((1 : Int) + (3 : Int) * (↑(List.length xs) : Int))) ([[V.own pkd (List.map (mkPT (1 : Int)) (List.range (List.length xs)))], []])] ?_
    conv => whnf
    refine ⟨⟨I, I, ⟨⟨⟨I, I⟩, I, I⟩, I, ⟨I, ⟨I, I⟩, I⟩, ⟨I, I⟩, ⟨Go.K.e_laws_markParcelS, Go.K.c_laws_markParcelS _ _ (by omega) (by omega)⟩⟩, I, I⟩, ?_⟩
    refine Run.seqk ?_
    refine Run.seqk ?_
    refine Run.reg C_ok [.b (false), .b (false), .b (false), .call (V.b (decide (bend xs k pl ma = bend xs k pl ma))) ([[], []]), .b (false), .b (false)] ?_
    conv => whnf
    refine ⟨⟨I, I, I, ⟨rfl, I⟩, ⟨rfl, I⟩, ⟨rfl, ⟨I, I, I⟩, I, ⟨⟨I, I⟩, ⟨I, I⟩, I⟩, ⟨I, I⟩, ⟨Go.K.e_laws_eqParcelS, Go.K.c_laws_eqParcelS _ _ (by omega)⟩⟩, ⟨rfl, I⟩, rfl, I⟩, ?_⟩
    refine Run.cnd ?_
    conv => whnf
    refine ⟨noT (by assumption), fun _ => ?_⟩
    refine Run.skip ?_
    refine Run.seqk ?_
    refine Run.reg C_ok [] ?_
    conv => whnf
    refine ⟨⟨I, I⟩, ?_⟩
    refine Run.seqk ?_
    refine Run.reg C_ok [.call (V.i ((1 : Int) + (3 : Int) * (↑(List.length (bend xs k pl ma)) : Int))) ([[V.own pkd (List.map (mkPT (1 : Int)) (List.range (List.length (bend xs k pl ma))))], []])] ?_
    conv => whnf
    refine ⟨⟨I, I, ⟨⟨⟨I, I⟩, I, I⟩, I, ⟨I, ⟨I, I⟩, I⟩, ⟨I, I⟩, ⟨Go.K.e_laws_markParcelS, Go.K.c_laws_markParcelS _ _ (by omega) (by omega)⟩⟩, I, I⟩, ?_⟩
    refine Run.seqk ?_
    refine Run.reg C_ok [] ?_
    conv => whnf
    refine ⟨⟨I, I⟩, ?_⟩
    refine Run.seqk ?_
    refine Run.reg C_ok [.call (V.i ((1 : Int) + (3 : Int) * (↑(List.length (bend xs k pl ma)) : Int))) ([[], []])] ?_
    conv => whnf
    refine ⟨⟨I, I, ⟨⟨I, I, I⟩, I, ⟨⟨I, I⟩, ⟨I, I⟩, I⟩, ⟨I, I⟩, ⟨Go.K.e_laws_heldParcelS, Go.K.c_laws_heldParcelS _ _ (by omega) (by omega)⟩⟩, I, I⟩, ?_⟩
    refine Run.seqk ?_
    refine Run.seqk ?_
    refine Run.reg C_ok [] ?_
    conv => whnf
    refine ⟨⟨I, I, I⟩, ?_⟩
    refine Run.cnd ?_
    conv => whnf
    refine ⟨noT (rfl), fun _ => ?_⟩
    refine Run.skip ?_
    refine Run.seqk ?_
    refine Run.seqk ?_
    refine Run.reg C_ok [] ?_
    conv => whnf
    refine ⟨⟨I, I, I, I⟩, ?_⟩
    refine Run.cnd ?_
    conv => whnf
    refine ⟨noT (notF (by omega)), fun _ => ?_⟩
    refine Run.skip ?_
    refine Run.seqk ?_
    refine Run.reg C_ok [.call (V.own pkd (List.map parT xs)) ([[]]), .call (V.own pkd (List.map parT (bend xs k pl ma))) ([[], [], [], []])] ?_
    conv => whnf
    refine ⟨⟨I, ⟨⟨I, I⟩, I, ⟨⟨I, I⟩, I⟩, ⟨I, I⟩, ⟨Go.K.e_laws_toParcelS, Go.K.c_laws_toParcelS _ (by omega)⟩⟩, I, I, I, ⟨⟨I, I, I, I, I⟩, I, ⟨⟨I, I⟩, ⟨I, I⟩, ⟨I, I⟩, ⟨I, I⟩, I⟩, ⟨I, I⟩, ⟨Go.K.e_impl_Bend, Go.K.c_impl_Bend _ _ _ _ (by omega) (by omega)⟩⟩, I, I⟩, ?_⟩
    refine Run.seqk ?_
    refine Run.seqk ?_
    refine Run.reg C_ok [.call (V.b (decide (bend xs k pl ma = bend xs k pl ma))) ([[], []])] ?_
    conv => whnf
    refine ⟨⟨I, I, ⟨⟨I, I, I⟩, I, ⟨⟨I, I⟩, ⟨I, I⟩, I⟩, ⟨I, I⟩, ⟨Go.K.e_laws_eqParcelS, Go.K.c_laws_eqParcelS _ _ (by omega)⟩⟩, I, I⟩, ?_⟩
    refine Run.cnd ?_
    conv => whnf
    refine ⟨noT (by assumption), fun _ => ?_⟩
    refine Run.skip ?_
    refine Run.seqk ?_
    refine Run.reg C_ok [] ?_
    conv => whnf
    refine ⟨⟨I, I⟩, ?_⟩
    refine Run.seqk ?_
    refine Run.reg C_ok [.call (V.i ((1 : Int) + (3 : Int) * (↑(List.length (bend xs k pl ma)) : Int))) ([[], []])] ?_
    conv => whnf
    refine ⟨⟨I, I, ⟨⟨I, I, I⟩, I, ⟨⟨I, I⟩, ⟨I, I⟩, I⟩, ⟨I, I⟩, ⟨Go.K.e_laws_heldParcelS, Go.K.c_laws_heldParcelS _ _ (by omega) (by omega)⟩⟩, I, I⟩, ?_⟩
    refine Run.seqk ?_
    refine Run.seqk ?_
    refine Run.reg C_ok [] ?_
    conv => whnf
    refine ⟨⟨I, I, I⟩, ?_⟩
    refine Run.cnd ?_
    conv => whnf
    refine ⟨noT (rfl), fun _ => ?_⟩
    refine Run.skip ?_
    refine Run.seqk ?_
    refine Run.seqk ?_
    refine Run.reg C_ok [] ?_
    conv => whnf
    refine ⟨⟨I, I, I, I⟩, ?_⟩
    refine Run.cnd ?_
    conv => whnf
    refine ⟨noT (by assumption), fun _ => ?_⟩
    refine Run.skip ?_
    refine Run.seqk ?_
    refine Run.reg C_ok [] ?_
    conv => whnf
    refine ⟨⟨I, I⟩, ?_⟩
    refine Run.ret ?_
    refine Ends.rt [] ?_
    conv => whnf
    refine ⟨⟨I, I, I⟩, ?_, rfl⟩
    show V.t (T.v (Value.bool true)) = _
    rfl
theorem law_Bend : ∀ xs, WfAll E 8 Try.f9.params.toList xs → Tm.Fn Try.prog 9 (tvs E Try.f9.params.toList xs) (.b true) [[], [], [], []] := by
  intro xs h
  rw [show Try.f9.params.toList = [40, 3, 3, 3] from rfl] at h ⊢
  cases h with
  | cons h r =>
    cases r with
    | cons h2 r =>
      cases r with
      | cons h3 r =>
        cases r with
        | cons h4 r =>
          cases r
          obtain ⟨ys, rfl, hl, hy⟩ := h
          obtain ⟨k, rfl, _⟩ := h2
          obtain ⟨pl, rfl, _⟩ := h3
          obtain ⟨ma, rfl, _⟩ := h4
          obtain ⟨zs, rfl, hz⟩ := wf_pars hy
          exact c_laws_FnExactBend zs k pl ma (by rw [List.length_map] at hl; exact hl) hz
end Go.K

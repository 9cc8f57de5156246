/- Contracts of functions of the program: what each call answers. -/
import Derived.Test.YtcccigapbalidaaI
set_option linter.unusedVariables false
set_option linter.unusedSimpArgs false
set_option maxHeartbeats 4000000
set_option maxRecDepth 20000
open Go Go.Tm Go.Proofs
namespace Go.K
def dblP (xs : List Parcel) (k : Int) : List Parcel := if xs.length ≤ 2000 ∧ 0 ≤ k ∧ k < xs.length ∧ xs.length < 2000 then xs ++ (xs[k.toNat]?).toList else xs
theorem dbl_no {xs : List Parcel} {k : Int} (h : ¬(xs.length ≤ 2000 ∧ 0 ≤ k ∧ k < xs.length ∧ xs.length < 2000)) : dblP xs k = xs := if_neg h
theorem dbl_yes {xs : List Parcel} {m : Nat} {y : Parcel} (h : xs.length ≤ 2000 ∧ 0 ≤ (m : Int) ∧ (m : Int) < xs.length ∧ xs.length < 2000) (hy : xs[m]? = some y) : xs.map parT ++ [parT y] = (dblP xs m).map parT := by
  unfold dblP
  rw [if_pos h, show ((m : Int)).toNat = m from rfl, hy, List.map_append]; rfl
theorem c_spec_Double (xs : List Parcel) (k : Int) (hl : xs.length ≤ 1048576) : Tm.Fn Try.prog n_spec_Double [.val (.t (pars xs)), .val (.i k)] (.own pkd ((dblP xs k).map parT)) [[], []] := by
  by_cases h0 : 0 ≤ k
  · obtain ⟨m, rfl⟩ := Int.eq_ofNat_of_zero_le h0
    refine i_spec_Double (by simp) (by simp [Clo, aCells, cellsOf, closedCell]) rfl ?_
    refine Run.seqk ?_
    refine Run.reg C_ok [] ?_
    conv => whnf
    refine ⟨⟨I, I⟩, ?_⟩
    refine Run.seqk ?_
    refine Run.reg C_ok [.call (V.own pkd (List.map parT xs)) ([[]])] ?_
    conv => whnf
    refine ⟨⟨I, ⟨⟨I, I⟩, I, ⟨⟨I, I⟩, I⟩, ⟨I, I⟩, ⟨Go.K.e_spec_l6Copy, Go.K.c_spec_l6Copy _ (by omega)⟩⟩, I, I⟩, ?_⟩
    refine Run.seqk ?_
    refine Run.seqk ?_
    by_cases h1 : List.length xs ≤ (2000 : Nat) ∧ (0 : Int) ≤ (↑m : Int) ∧ (↑m : Int) < (↑(List.length xs) : Int)
    refine Run.reg C_ok [.call (V.b (decide (List.length xs ≤ (2000 : Nat) ∧ (0 : Int) ≤ (↑m : Int) ∧ (↑m : Int) < (↑(List.length xs) : Int)))) ([[], []]), .b (true), .b (true), .b (true), .b (true)] ?_
    conv => whnf
    refine ⟨⟨I, I, ⟨⟨I, I, I⟩, I, ⟨⟨I, I⟩, ⟨I, I⟩, I⟩, ⟨I, I⟩, ⟨Go.K.e_spec_l6There, Go.K.c_spec_l6There _ _ (by omega)⟩⟩, I, ⟨decide_eq_true (by omega), I⟩, ⟨decide_eq_true (by omega), I⟩, ⟨decide_eq_true (by omega), I⟩, decide_eq_true (by omega), I⟩, ?_⟩
    refine Run.cnd ?_
    conv => whnf
    refine ⟨fun h2 => ?_, fun h2 => ?_⟩
    replace h2 := dt h2
    simp only [List.length_map] at h2
    obtain ⟨y1, hy1⟩ := some_at (xs := xs) (n := m) (by omega)
    refine Run.reg C_ok [.x (parT y1)] ?_
    conv => whnf
    refine ⟨⟨I, I, I, ⟨(by assumption), ixl (by assumption)⟩, I, ⟨⟨I, I, I, I⟩, I⟩, ⟨I, I, (by simp only [List.length_map, List.length_append, List.length_set, List.length_replicate, List.length_cons, List.length_nil, List.length_take, List.length_drop, fill_len, fillI_len, List.length_range, bytesT_len]; omega)⟩, I, I⟩, ?_⟩
    refine Run.seqk ?_
    refine Run.reg C_ok [] ?_
    conv => whnf
    refine ⟨⟨I, I, I⟩, ?_⟩
    refine Run.ret ?_
    refine Ends.rt [] ?_
    conv => whnf
    refine ⟨⟨I, I, I⟩, ?_, rfl⟩
    show V.own [false, false, false] (List.map parT xs ++ [[T.v (Value.int IntKind.i64 (Parcel.kind y1)), T.v (Value.string (Parcel.frm y1)), T.v (Value.string (Parcel.text y1))]]) = _
    rotate_left 1
    replace h2 := df h2
    simp only [List.length_map] at h2
    refine Run.skip ?_
    refine Run.seqk ?_
    refine Run.reg C_ok [] ?_
    conv => whnf
    refine ⟨⟨I, I, I⟩, ?_⟩
    refine Run.ret ?_
    refine Ends.rt [] ?_
    conv => whnf
    refine ⟨⟨I, I, I⟩, ?_, rfl⟩
    show V.own [false, false, false] (List.map parT xs) = _
    rotate_left 1
    refine Run.reg C_ok [.call (V.b (decide (List.length xs ≤ (2000 : Nat) ∧ (0 : Int) ≤ (↑m : Int) ∧ (↑m : Int) < (↑(List.length xs) : Int)))) ([[], []]), .b (false), .b (false), .b (false), .b (false)] ?_
    conv => whnf
    refine ⟨⟨I, I, ⟨⟨I, I, I⟩, I, ⟨⟨I, I⟩, ⟨I, I⟩, I⟩, ⟨I, I⟩, ⟨Go.K.e_spec_l6There, Go.K.c_spec_l6There _ _ (by omega)⟩⟩, I, decide_eq_false (by omega), decide_eq_false (by omega), decide_eq_false (by omega), decide_eq_false (by omega), I⟩, ?_⟩
    refine Run.cnd ?_
    conv => whnf
    refine ⟨noT (rfl), fun _ => ?_⟩
    refine Run.skip ?_
    refine Run.seqk ?_
    refine Run.reg C_ok [] ?_
    conv => whnf
    refine ⟨⟨I, I, I⟩, ?_⟩
    refine Run.ret ?_
    refine Ends.rt [] ?_
    conv => whnf
    refine ⟨⟨I, I, I⟩, ?_, rfl⟩
    show V.own [false, false, false] (List.map parT xs) = _
    rotate_left 1
    · exact congrArg (V.own pkd) (dbl_yes ⟨h1.1, h1.2.1, h1.2.2, by omega⟩ hy1)
    · rw [dbl_no (by omega)]
    · rw [dbl_no (by omega)]
  · refine i_spec_Double (by simp) (by simp [Clo, aCells, cellsOf, closedCell]) rfl ?_
    refine Run.seqk ?_
    refine Run.reg C_ok [] ?_
    conv => whnf
    refine ⟨⟨I, I⟩, ?_⟩
    refine Run.seqk ?_
    refine Run.reg C_ok [.call (V.own pkd (List.map parT xs)) ([[]])] ?_
    conv => whnf
    refine ⟨⟨I, ⟨⟨I, I⟩, I, ⟨⟨I, I⟩, I⟩, ⟨I, I⟩, ⟨Go.K.e_spec_l6Copy, Go.K.c_spec_l6Copy _ (by omega)⟩⟩, I, I⟩, ?_⟩
    refine Run.seqk ?_
    refine Run.seqk ?_
    refine Run.reg C_ok [.call (V.b (decide (List.length xs ≤ (2000 : Nat) ∧ (0 : Int) ≤ k ∧ k < (↑(List.length xs) : Int)))) ([[], []]), .b (false), .b (false), .b (false), .b (false)] ?_
    conv => whnf
    refine ⟨⟨I, I, ⟨⟨I, I, I⟩, I, ⟨⟨I, I⟩, ⟨I, I⟩, I⟩, ⟨I, I⟩, ⟨Go.K.e_spec_l6There, Go.K.c_spec_l6There _ _ (by omega)⟩⟩, I, decide_eq_false (by omega), decide_eq_false (by omega), decide_eq_false (by omega), decide_eq_false (by omega), I⟩, ?_⟩
    refine Run.cnd ?_
    conv => whnf
    refine ⟨noT (rfl), fun _ => ?_⟩
    refine Run.skip ?_
    refine Run.seqk ?_
    refine Run.reg C_ok [] ?_
    conv => whnf
    refine ⟨⟨I, I, I⟩, ?_⟩
    refine Run.ret ?_
    refine Ends.rt [] ?_
    conv => whnf
    refine ⟨⟨I, I, I⟩, ?_, rfl⟩
    show V.own [false, false, false] (List.map parT xs) = _
    rw [dbl_no (by omega)]
theorem c_impl_Double (xs : List Parcel) (k : Int) (hl : xs.length ≤ 1048576) : Tm.Fn Try.prog n_impl_Double [.val (.t (pars xs)), .val (.i k)] (.own pkd ((dblP xs k).map parT)) [[], []] := by
  by_cases h0 : 0 ≤ k
  · obtain ⟨m, rfl⟩ := Int.eq_ofNat_of_zero_le h0
    refine i_impl_Double (by simp) (by simp [Clo, aCells, cellsOf, closedCell]) rfl ?_
    refine Run.seqk ?_
    refine Run.reg C_ok [] ?_
    conv => whnf
    refine ⟨⟨I, I⟩, ?_⟩
    refine Run.seqk ?_
    refine Run.reg C_ok [.call (V.own pkd (List.map parT xs)) ([[]])] ?_
    conv => whnf
    refine ⟨⟨I, ⟨⟨I, I⟩, I, ⟨⟨I, I⟩, I⟩, ⟨I, I⟩, ⟨Go.K.e_impl_copied, Go.K.c_impl_copied _ (by omega)⟩⟩, I, I⟩, ?_⟩
    refine Run.seqk ?_
    refine Run.seqk ?_
    by_cases h1 : List.length xs ≤ (2000 : Nat) ∧ (0 : Int) ≤ (↑m : Int) ∧ (↑m : Int) < (↑(List.length xs) : Int)
    refine Run.reg C_ok [.call (V.b (decide (List.length xs ≤ (2000 : Nat) ∧ (0 : Int) ≤ (↑m : Int) ∧ (↑m : Int) < (↑(List.length xs) : Int)))) ([[], []]), .b (true), .b (true), .b (true), .b (true)] ?_
    conv => whnf
    refine ⟨⟨I, I, ⟨⟨I, I, I⟩, I, ⟨⟨I, I⟩, ⟨I, I⟩, I⟩, ⟨I, I⟩, ⟨Go.K.e_impl_there, Go.K.c_impl_there _ _ (by omega)⟩⟩, I, ⟨decide_eq_true (by omega), I⟩, ⟨decide_eq_true (by omega), I⟩, ⟨decide_eq_true (by omega), I⟩, decide_eq_true (by omega), I⟩, ?_⟩
    refine Run.cnd ?_
    conv => whnf
    refine ⟨fun h2 => ?_, fun h2 => ?_⟩
    replace h2 := dt h2
    simp only [List.length_map] at h2
    obtain ⟨y1, hy1⟩ := some_at (xs := xs) (n := m) (by omega)
    refine Run.reg C_ok [.x (parT y1)] ?_
    conv => whnf
    refine ⟨⟨I, I, I, ⟨(by assumption), ixl (by assumption)⟩, I, ⟨⟨I, I, I, I⟩, I⟩, ⟨I, I, (by simp only [List.length_map, List.length_append, List.length_set, List.length_replicate, List.length_cons, List.length_nil, List.length_take, List.length_drop, fill_len, fillI_len, List.length_range, bytesT_len]; omega)⟩, I, I⟩, ?_⟩
    refine Run.seqk ?_
    refine Run.reg C_ok [] ?_
    conv => whnf
    refine ⟨⟨I, I, I⟩, ?_⟩
    refine Run.ret ?_
    refine Ends.rt [] ?_
    conv => whnf
    refine ⟨⟨I, I, I⟩, ?_, rfl⟩
    show V.own [false, false, false] (List.map parT xs ++ [[T.v (Value.int IntKind.i64 (Parcel.kind y1)), T.v (Value.string (Parcel.frm y1)), T.v (Value.string (Parcel.text y1))]]) = _
    rotate_left 1
    replace h2 := df h2
    simp only [List.length_map] at h2
    refine Run.skip ?_
    refine Run.seqk ?_
    refine Run.reg C_ok [] ?_
    conv => whnf
    refine ⟨⟨I, I, I⟩, ?_⟩
    refine Run.ret ?_
    refine Ends.rt [] ?_
    conv => whnf
    refine ⟨⟨I, I, I⟩, ?_, rfl⟩
    show V.own [false, false, false] (List.map parT xs) = _
    rotate_left 1
    refine Run.reg C_ok [.call (V.b (decide (List.length xs ≤ (2000 : Nat) ∧ (0 : Int) ≤ (↑m : Int) ∧ (↑m : Int) < (↑(List.length xs) : Int)))) ([[], []]), .b (false), .b (false), .b (false), .b (false)] ?_
    conv => whnf
    refine ⟨⟨I, I, ⟨⟨I, I, I⟩, I, ⟨⟨I, I⟩, ⟨I, I⟩, I⟩, ⟨I, I⟩, ⟨Go.K.e_impl_there, Go.K.c_impl_there _ _ (by omega)⟩⟩, I, decide_eq_false (by omega), decide_eq_false (by omega), decide_eq_false (by omega), decide_eq_false (by omega), I⟩, ?_⟩
    refine Run.cnd ?_
    conv => whnf
    refine ⟨noT (rfl), fun _ => ?_⟩
    refine Run.skip ?_
    refine Run.seqk ?_
    refine Run.reg C_ok [] ?_
    conv => whnf
    refine ⟨⟨I, I, I⟩, ?_⟩
    refine Run.ret ?_
    refine Ends.rt [] ?_
    conv => whnf
    refine ⟨⟨I, I, I⟩, ?_, rfl⟩
    show V.own [false, false, false] (List.map parT xs) = _
    rotate_left 1
    · exact congrArg (V.own pkd) (dbl_yes ⟨h1.1, h1.2.1, h1.2.2, by omega⟩ hy1)
    · rw [dbl_no (by omega)]
    · rw [dbl_no (by omega)]
  · refine i_impl_Double (by simp) (by simp [Clo, aCells, cellsOf, closedCell]) rfl ?_
    refine Run.seqk ?_
    refine Run.reg C_ok [] ?_
    conv => whnf
    refine ⟨⟨I, I⟩, ?_⟩
    refine Run.seqk ?_
    refine Run.reg C_ok [.call (V.own pkd (List.map parT xs)) ([[]])] ?_
    conv => whnf
    refine ⟨⟨I, ⟨⟨I, I⟩, I, ⟨⟨I, I⟩, I⟩, ⟨I, I⟩, ⟨Go.K.e_impl_copied, Go.K.c_impl_copied _ (by omega)⟩⟩, I, I⟩, ?_⟩
    refine Run.seqk ?_
    refine Run.seqk ?_
    refine Run.reg C_ok [.call (V.b (decide (List.length xs ≤ (2000 : Nat) ∧ (0 : Int) ≤ k ∧ k < (↑(List.length xs) : Int)))) ([[], []]), .b (false), .b (false), .b (false), .b (false)] ?_
    conv => whnf
    refine ⟨⟨I, I, ⟨⟨I, I, I⟩, I, ⟨⟨I, I⟩, ⟨I, I⟩, I⟩, ⟨I, I⟩, ⟨Go.K.e_impl_there, Go.K.c_impl_there _ _ (by omega)⟩⟩, I, decide_eq_false (by omega), decide_eq_false (by omega), decide_eq_false (by omega), decide_eq_false (by omega), I⟩, ?_⟩
    refine Run.cnd ?_
    conv => whnf
    refine ⟨noT (rfl), fun _ => ?_⟩
    refine Run.skip ?_
    refine Run.seqk ?_
    refine Run.reg C_ok [] ?_
    conv => whnf
    refine ⟨⟨I, I, I⟩, ?_⟩
    refine Run.ret ?_
    refine Ends.rt [] ?_
    conv => whnf
    refine ⟨⟨I, I, I⟩, ?_, rfl⟩
    show V.own [false, false, false] (List.map parT xs) = _
    rw [dbl_no (by omega)]
theorem dbl_len (xs : List Parcel) (k : Int) (h : xs.length ≤ 1048576) : (dblP xs k).length ≤ 1048576 := by
  unfold dblP; split
  · next hh =>
    have : (xs[k.toNat]?).toList.length ≤ 1 := by cases xs[k.toNat]? <;> simp
    simp only [List.length_append]; omega
  · exact h
theorem c_laws_FnExactDouble (xs : List Parcel) (k : Int) (h2 : xs.length ≤ 9223372036854775807) (h3 : ∀ p ∈ xs, p.frm.size ≤ 9223372036854775807 ∧ p.text.size ≤ 9223372036854775807) : Tm.Fn Try.prog n_laws_FnExactDouble [.val (.t (pars xs)), .val (.i k)] (.b true) [[], []] := by
  have c0 := c_laws_szParcelS xs 1048576 h2 h3 (by omega) (by omega)
  by_cases hq : (1048576 : Int) - xs.length - totP xs < 0
  · rw [if_pos hq] at c0
    refine i_laws_FnExactDouble (by simp) (by simp [Clo, aCells, cellsOf, closedCell]) rfl ?_
    refine Run.seqk ?_
    refine Run.reg C_ok [] ?_
    conv => whnf
    refine ⟨⟨I, I⟩, ?_⟩
    refine Run.seqk ?_
    refine Run.reg C_ok [] ?_
    conv => whnf
    refine ⟨⟨I, I⟩, ?_⟩
    refine Run.seqk ?_
    refine Run.reg C_ok [.call (V.i (-1 : Int)) ([[], []])] ?_
    conv => whnf
    refine ⟨⟨I, I, ⟨⟨I, I, I⟩, I, ⟨⟨I, I⟩, ⟨I, I⟩, I⟩, ⟨I, I⟩, ⟨Go.K.e_laws_szParcelS, by assumption⟩⟩, I, I⟩, ?_⟩
    refine Run.seqk ?_
    refine Run.seqk ?_
    refine Run.reg C_ok [] ?_
    conv => whnf
    refine ⟨⟨I, I, I⟩, ?_⟩
    refine Run.cnd ?_
    conv => whnf
    refine ⟨fun _ => ?_, noF (rfl)⟩
    refine Run.seqk ?_
    refine Run.reg C_ok [] ?_
    conv => whnf
    refine ⟨⟨I, I⟩, ?_⟩
    refine Run.ret ?_
    refine Ends.rt [] ?_
    conv => whnf
    refine ⟨⟨I, I, I⟩, ?_, rfl⟩
    show V.t (T.v (Value.bool true)) = _
    rfl
  · rw [if_neg hq] at c0
    have hnn := totP_nn xs
    have hll := dbl_len xs k (by omega)
    refine i_laws_FnExactDouble (by simp) (by simp [Clo, aCells, cellsOf, closedCell]) rfl ?_
    refine Run.seqk ?_
    refine Run.reg C_ok [] ?_
    conv => whnf
    refine ⟨⟨I, I⟩, ?_⟩
    refine Run.seqk ?_
    refine Run.reg C_ok [] ?_
    conv => whnf
    refine ⟨⟨I, I⟩, ?_⟩
    refine Run.seqk ?_
    refine Run.reg C_ok [.call (V.i ((1048576 : Int) - (↑(List.length xs) : Int) - totP xs)) ([[], []])] ?_
    conv => whnf
    refine ⟨⟨I, I, ⟨⟨I, I, I⟩, I, ⟨⟨I, I⟩, ⟨I, I⟩, I⟩, ⟨I, I⟩, ⟨Go.K.e_laws_szParcelS, by assumption⟩⟩, I, I⟩, ?_⟩
    refine Run.seqk ?_
    refine Run.seqk ?_
    refine Run.reg C_ok [] ?_
    conv => whnf
    refine ⟨⟨I, I, I⟩, ?_⟩
    refine Run.cnd ?_
    conv => whnf
    refine ⟨noT (decide_eq_false (by omega)), fun _ => ?_⟩
    refine Run.skip ?_
    refine Run.seqk ?_
    refine Run.reg C_ok [.call (V.own pkd (List.map parT xs)) ([[]]), .call (V.own pkd (List.map parT (dblP xs k))) ([[], []])] ?_
    conv => whnf
    refine ⟨⟨I, ⟨⟨I, I⟩, I, ⟨⟨I, I⟩, I⟩, ⟨I, I⟩, ⟨Go.K.e_laws_toParcelS, Go.K.c_laws_toParcelS _ (by omega)⟩⟩, I, ⟨⟨I, I, I⟩, I, ⟨⟨I, I⟩, ⟨I, I⟩, I⟩, ⟨I, I⟩, ⟨Go.K.e_spec_Double, Go.K.c_spec_Double _ _ (by omega)⟩⟩, I, I⟩, ?_⟩
    refine Run.seqk ?_
    refine Run.reg C_ok [.call (V.own pkd (List.map parT xs)) ([[]])] ?_
    conv => whnf
    refine ⟨⟨I, ⟨⟨I, I⟩, I, ⟨⟨I, I⟩, I⟩, ⟨I, I⟩, ⟨Go.K.e_laws_toParcelS, Go.K.c_laws_toParcelS _ (by omega)⟩⟩, I, I⟩, ?_⟩
    refine Run.seqk ?_
    refine Run.reg C_ok [.call (V.own pkd (List.map parT (dblP xs k))) ([[], []])] ?_
    conv => whnf
    refine ⟨⟨I, I, ⟨⟨I, I, I⟩, I, ⟨⟨I, I⟩, ⟨I, I⟩, I⟩, ⟨I, I⟩, ⟨Go.K.e_impl_Double, Go.K.c_impl_Double _ _ (by omega)⟩⟩, I, I⟩, ?_⟩
    refine Run.seqk ?_
    refine Run.seqk ?_
    refine Run.reg C_ok [.call (V.b (decide (dblP xs k = dblP xs k))) ([[], []])] ?_
    conv => whnf
    refine ⟨⟨I, I, ⟨⟨I, I, I⟩, I, ⟨⟨I, I⟩, ⟨I, I⟩, I⟩, ⟨I, I⟩, ⟨Go.K.e_laws_eqParcelS, Go.K.c_laws_eqParcelS _ _ (by omega)⟩⟩, I, I⟩, ?_⟩
    refine Run.cnd ?_
    conv => whnf
    refine ⟨noT (notF rfl), fun _ => ?_⟩
    refine Run.skip ?_
    refine Run.seqk ?_
    refine Run.seqk ?_
    refine Run.reg C_ok [.call (V.own pkd (List.map parT xs)) ([[]]), .call (V.b (decide (xs = xs))) ([[], []])] ?_
    conv => whnf
    refine ⟨⟨I, I, ⟨⟨I, I⟩, I, ⟨⟨I, I⟩, I⟩, ⟨I, I⟩, ⟨Go.K.e_laws_toParcelS, Go.K.c_laws_toParcelS _ (by omega)⟩⟩, ⟨⟨I, I, I⟩, I, ⟨⟨I, I⟩, ⟨I, I⟩, I⟩, ⟨I, I⟩, ⟨Go.K.e_laws_eqParcelS, Go.K.c_laws_eqParcelS _ _ (by omega)⟩⟩, I, I⟩, ?_⟩
    refine Run.cnd ?_
    conv => whnf
    refine ⟨noT (notF rfl), fun _ => ?_⟩
    refine Run.skip ?_
    refine Run.seqk ?_
    refine Run.reg C_ok [] ?_
    conv => whnf
    refine ⟨⟨I, I⟩, ?_⟩
    refine Run.seqk ?_
    refine Run.reg C_ok [.call (V.i ((1 : Int) + (3 : Int) * (↑(List.length xs) : Int))) ([[V.own pkd (List.map (mkPT (1 : Int)) (List.range (List.length xs)))], []])] ?_
    conv => whnf
    refine ⟨⟨I, I, ⟨⟨⟨I, I⟩, I, I⟩, I, ⟨I, ⟨I, I⟩, I⟩, ⟨I, I⟩, ⟨Go.K.e_laws_markParcelS, Go.K.c_laws_markParcelS _ _ (by omega) (by omega)⟩⟩, I, I⟩, ?_⟩
    refine Run.seqk ?_
    refine Run.seqk ?_
    refine Run.reg C_ok [.b (false), .b (false), .b (false), .call (V.b (decide (dblP xs k = dblP xs k))) ([[], []]), .b (false), .b (false)] ?_
    conv => whnf
    refine ⟨⟨I, I, I, ⟨rfl, I⟩, ⟨rfl, I⟩, ⟨rfl, ⟨I, I, I⟩, I, ⟨⟨I, I⟩, ⟨I, I⟩, I⟩, ⟨I, I⟩, ⟨Go.K.e_laws_eqParcelS, Go.K.c_laws_eqParcelS _ _ (by omega)⟩⟩, ⟨rfl, I⟩, rfl, I⟩, ?_⟩
    refine Run.cnd ?_
    conv => whnf
    refine ⟨noT (by assumption), fun _ => ?_⟩
    refine Run.skip ?_
    refine Run.seqk ?_
    refine Run.reg C_ok [] ?_
    conv => whnf
    refine ⟨⟨I, I⟩, ?_⟩
    refine Run.seqk ?_
    refine Run.reg C_ok [.call (V.i ((1 : Int) + (3 : Int) * (↑(List.length (dblP xs k)) : Int))) ([[V.own pkd (List.map (mkPT (1 : Int)) (List.range (List.length (dblP xs k))))], []])] ?_
    conv => whnf
    refine ⟨⟨I, I, ⟨⟨⟨I, I⟩, I, I⟩, I, ⟨I, ⟨I, I⟩, I⟩, ⟨I, I⟩, ⟨Go.K.e_laws_markParcelS, Go.K.c_laws_markParcelS _ _ (by omega) (by omega)⟩⟩, I, I⟩, ?_⟩
    refine Run.seqk ?_
    refine Run.reg C_ok [] ?_
    conv => whnf
    refine ⟨⟨I, I⟩, ?_⟩
    refine Run.seqk ?_
    refine Run.reg C_ok [.call (V.i ((1 : Int) + (3 : Int) * (↑(List.length (dblP xs k)) : Int))) ([[], []])] ?_
    conv => whnf
    refine ⟨⟨I, I, ⟨⟨I, I, I⟩, I, ⟨⟨I, I⟩, ⟨I, I⟩, I⟩, ⟨I, I⟩, ⟨Go.K.e_laws_heldParcelS, Go.K.c_laws_heldParcelS _ _ (by omega) (by omega)⟩⟩, I, I⟩, ?_⟩
    refine Run.seqk ?_
    refine Run.seqk ?_
    refine Run.reg C_ok [] ?_
    conv => whnf
    refine ⟨⟨I, I, I⟩, ?_⟩
    refine Run.cnd ?_
    conv => whnf
    refine ⟨noT (rfl), fun _ => ?_⟩
    refine Run.skip ?_
    refine Run.seqk ?_
    refine Run.seqk ?_
    refine Run.reg C_ok [] ?_
    conv => whnf
    refine ⟨⟨I, I, I, I⟩, ?_⟩
    refine Run.cnd ?_
    conv => whnf
    refine ⟨noT (notF (by omega)), fun _ => ?_⟩
    refine Run.skip ?_
    refine Run.seqk ?_
    refine Run.reg C_ok [.call (V.own pkd (List.map parT xs)) ([[]]), .call (V.own pkd (List.map parT (dblP xs k))) ([[], []])] ?_
    conv => whnf
    refine ⟨⟨I, ⟨⟨I, I⟩, I, ⟨⟨I, I⟩, I⟩, ⟨I, I⟩, ⟨Go.K.e_laws_toParcelS, Go.K.c_laws_toParcelS _ (by omega)⟩⟩, I, ⟨⟨I, I, I⟩, I, ⟨⟨I, I⟩, ⟨I, I⟩, I⟩, ⟨I, I⟩, ⟨Go.K.e_impl_Double, Go.K.c_impl_Double _ _ (by omega)⟩⟩, I, I⟩, ?_⟩
    refine Run.seqk ?_
    refine Run.seqk ?_
    refine Run.reg C_ok [.call (V.b (decide (dblP xs k = dblP xs k))) ([[], []])] ?_
    conv => whnf
    refine ⟨⟨I, I, ⟨⟨I, I, I⟩, I, ⟨⟨I, I⟩, ⟨I, I⟩, I⟩, ⟨I, I⟩, ⟨Go.K.e_laws_eqParcelS, Go.K.c_laws_eqParcelS _ _ (by omega)⟩⟩, I, I⟩, ?_⟩
    refine Run.cnd ?_
    conv => whnf
    refine ⟨noT (by assumption), fun _ => ?_⟩
    refine Run.skip ?_
    refine Run.seqk ?_
    refine Run.reg C_ok [] ?_
    conv => whnf
    refine ⟨⟨I, I⟩, ?_⟩
    refine Run.seqk ?_
    refine Run.reg C_ok [.call (V.i ((1 : Int) + (3 : Int) * (↑(List.length (dblP xs k)) : Int))) ([[], []])] ?_
    conv => whnf
    refine ⟨⟨I, I, ⟨⟨I, I, I⟩, I, ⟨⟨I, I⟩, ⟨I, I⟩, I⟩, ⟨I, I⟩, ⟨Go.K.e_laws_heldParcelS, Go.K.c_laws_heldParcelS _ _ (by omega) (by omega)⟩⟩, I, I⟩, ?_⟩
    refine Run.seqk ?_
    refine Run.seqk ?_
    refine Run.reg C_ok [] ?_
    conv => whnf
    refine ⟨⟨I, I, I⟩, ?_⟩
    refine Run.cnd ?_
    conv => whnf
    refine ⟨noT (rfl), fun _ => ?_⟩
    refine Run.skip ?_
    refine Run.seqk ?_
    refine Run.seqk ?_
    refine Run.reg C_ok [] ?_
    conv => whnf
    refine ⟨⟨I, I, I, I⟩, ?_⟩
    refine Run.cnd ?_
    conv => whnf
    refine ⟨noT (by assumption), fun _ => ?_⟩
    refine Run.skip ?_
    refine Run.seqk ?_
    refine Run.reg C_ok [] ?_
    conv => whnf
    refine ⟨⟨I, I⟩, ?_⟩
    refine Run.ret ?_
    refine Ends.rt [] ?_
    conv => whnf
    refine ⟨⟨I, I, I⟩, ?_, rfl⟩
    show V.t (T.v (Value.bool true)) = _
    rfl
theorem law_Double : ∀ xs, WfAll E 8 Try.f8.params.toList xs → Tm.Fn Try.prog 8 (tvs E Try.f8.params.toList xs) (.b true) [[], []] := by
  intro xs h
  rw [show Try.f8.params.toList = [40, 3] from rfl] at h ⊢
  cases h with
  | cons h r =>
    cases r with
    | cons h2 r =>
      cases r
      obtain ⟨ys, rfl, hl, hy⟩ := h
      obtain ⟨k, rfl, _⟩ := h2
      obtain ⟨zs, rfl, hz⟩ := wf_pars hy
      exact c_laws_FnExactDouble zs k (by rw [List.length_map] at hl; exact hl) hz
end Go.K

/- Contracts of functions of the program: what each call answers. -/
import Derived.Test.YtcccigapbalidaaH
set_option linter.unusedVariables false
set_option linter.unusedSimpArgs false
set_option maxHeartbeats 4000000
set_option maxRecDepth 20000
open Go Go.Tm Go.Proofs
namespace Go.K
theorem lose_len (xs : List Parcel) (k : Int) : (loseP xs k).length ≤ xs.length := by
  unfold loseP; split
  · simp only [List.length_append, List.length_take, List.length_drop]; omega
  · exact Nat.le_refl _
theorem c_laws_FnExactLose (xs : List Parcel) (k : Int) (h2 : xs.length ≤ 9223372036854775807) (h3 : ∀ p ∈ xs, p.frm.size ≤ 9223372036854775807 ∧ p.text.size ≤ 9223372036854775807) : Tm.Fn Try.prog n_laws_FnExactLose [.val (.t (pars xs)), .val (.i k)] (.b true) [[], []] := by
  have c0 := c_laws_szParcelS xs 1048576 h2 h3 (by omega) (by omega)
  by_cases hq : (1048576 : Int) - xs.length - totP xs < 0
  · rw [if_pos hq] at c0
    refine i_laws_FnExactLose (by simp) (by simp [Clo, aCells, cellsOf, closedCell]) rfl ?_
    refine Run.seqk ?_
    refine Run.reg C_ok [] ?_
    conv => whnf
    refine ⟨⟨I, I⟩, ?_⟩
    refine Run.seqk ?_
    refine Run.reg C_ok [] ?_
    conv => whnf
    refine ⟨⟨I, I⟩, ?_⟩
    refine Run.seqk ?_
    refine Run.reg C_ok [.call (V.i (-1 : Int)) ([[], []])] ?_
    conv => whnf
    refine ⟨⟨I, I, ⟨⟨I, I, I⟩, I, ⟨⟨I, I⟩, ⟨I, I⟩, I⟩, ⟨I, I⟩, ⟨Go.K.e_laws_szParcelS, by assumption⟩⟩, I, I⟩, ?_⟩
    refine Run.seqk ?_
    refine Run.seqk ?_
    refine Run.reg C_ok [] ?_
    conv => whnf
    refine ⟨⟨I, I, I⟩, ?_⟩
    refine Run.cnd ?_
    conv => whnf
    refine ⟨fun _ => ?_, noF (rfl)⟩
    refine Run.seqk ?_
    refine Run.reg C_ok [] ?_
    conv => whnf
    refine ⟨⟨I, I⟩, ?_⟩
    refine Run.ret ?_
    refine Ends.rt [] ?_
    conv => whnf
    refine ⟨⟨I, I, I⟩, ?_, rfl⟩
    show V.t (T.v (Value.bool true)) = _
    rfl
  · rw [if_neg hq] at c0
    have hnn := totP_nn xs
    have hll := lose_len xs k
    refine i_laws_FnExactLose (by simp) (by simp [Clo, aCells, cellsOf, closedCell]) rfl ?_
    refine Run.seqk ?_
    refine Run.reg C_ok [] ?_
    conv => whnf
    refine ⟨⟨I, I⟩, ?_⟩
    refine Run.seqk ?_
    refine Run.reg C_ok [] ?_
    conv => whnf
    refine ⟨⟨I, I⟩, ?_⟩
    refine Run.seqk ?_
    refine Run.reg C_ok [.call (V.i ((1048576 : Int) - (↑(List.length xs) : Int) - totP xs)) ([[], []])] ?_
    conv => whnf
    refine ⟨⟨I, I, ⟨⟨I, I, I⟩, I, ⟨⟨I, I⟩, ⟨I, I⟩, I⟩, ⟨I, I⟩, ⟨Go.K.e_laws_szParcelS, by assumption⟩⟩, I, I⟩, ?_⟩
    refine Run.seqk ?_
    refine Run.seqk ?_
    refine Run.reg C_ok [] ?_
    conv => whnf
    refine ⟨⟨I, I, I⟩, ?_⟩
    refine Run.cnd ?_
    conv => whnf
    refine ⟨noT (decide_eq_false (by omega)), fun _ => ?_⟩
    refine Run.skip ?_
    refine Run.seqk ?_
    refine Run.reg C_ok [.call (V.own pkd (List.map parT xs)) ([[]]), .call (V.own pkd (List.map parT (loseP xs k))) ([[], []])] ?_
    conv => whnf
    refine ⟨⟨I, ⟨⟨I, I⟩, I, ⟨⟨I, I⟩, I⟩, ⟨I, I⟩, ⟨Go.K.e_laws_toParcelS, Go.K.c_laws_toParcelS _ (by omega)⟩⟩, I, ⟨⟨I, I, I⟩, I, ⟨⟨I, I⟩, ⟨I, I⟩, I⟩, ⟨I, I⟩, ⟨Go.K.e_spec_Lose, Go.K.c_spec_Lose _ _ (by omega)⟩⟩, I, I⟩, ?_⟩
    refine Run.seqk ?_
    refine Run.reg C_ok [.call (V.own pkd (List.map parT xs)) ([[]])] ?_
    conv => whnf
    refine ⟨⟨I, ⟨⟨I, I⟩, I, ⟨⟨I, I⟩, I⟩, ⟨I, I⟩, ⟨Go.K.e_laws_toParcelS, Go.K.c_laws_toParcelS _ (by omega)⟩⟩, I, I⟩, ?_⟩
    refine Run.seqk ?_
    refine Run.reg C_ok [.call (V.own pkd (List.map parT (loseP xs k))) ([[], []])] ?_
    conv => whnf
    refine ⟨⟨I, I, ⟨⟨I, I, I⟩, I, ⟨⟨I, I⟩, ⟨I, I⟩, I⟩, ⟨I, I⟩, ⟨Go.K.e_impl_Lose, Go.K.c_impl_Lose _ _ (by omega)⟩⟩, I, I⟩, ?_⟩
    refine Run.seqk ?_
    refine Run.seqk ?_
    refine Run.reg C_ok [.call (V.b (decide (loseP xs k = loseP xs k))) ([[], []])] ?_
    conv => whnf
    refine ⟨⟨I, I, ⟨⟨I, I, I⟩, I, ⟨⟨I, I⟩, ⟨I, I⟩, I⟩, ⟨I, I⟩, ⟨Go.K.e_laws_eqParcelS, Go.K.c_laws_eqParcelS _ _ (by omega)⟩⟩, I, I⟩, ?_⟩
    refine Run.cnd ?_
    conv => whnf
    refine ⟨noT (notF rfl), fun _ => ?_⟩
    refine Run.skip ?_
    refine Run.seqk ?_
    refine Run.seqk ?_
    refine Run.reg C_ok [.call (V.own pkd (List.map parT xs)) ([[]]), .call (V.b (decide (xs = xs))) ([[], []])] ?_
    conv => whnf
    refine ⟨⟨I, I, ⟨⟨I, I⟩, I, ⟨⟨I, I⟩, I⟩, ⟨I, I⟩, ⟨Go.K.e_laws_toParcelS, Go.K.c_laws_toParcelS _ (by omega)⟩⟩, ⟨⟨I, I, I⟩, I, ⟨⟨I, I⟩, ⟨I, I⟩, I⟩, ⟨I, I⟩, ⟨Go.K.e_laws_eqParcelS, Go.K.c_laws_eqParcelS _ _ (by omega)⟩⟩, I, I⟩, ?_⟩
    refine Run.cnd ?_
    conv => whnf
    refine ⟨noT (notF rfl), fun _ => ?_⟩
    refine Run.skip ?_
    refine Run.seqk ?_
    refine Run.reg C_ok [] ?_
    conv => whnf
    refine ⟨⟨I, I⟩, ?_⟩
    refine Run.seqk ?_
    refine Run.reg C_ok [.call (V.i ((1 : Int) + (3 : Int) * (↑(List.length xs) : Int))) ([[V.own pkd (List.map (mkPT (1 : Int)) (List.range (List.length xs)))], []])] ?_
    conv => whnf
    refine ⟨⟨I, I, ⟨⟨⟨I, I⟩, I, I⟩, I, ⟨I, ⟨I, I⟩, I⟩, ⟨I, I⟩, ⟨Go.K.e_laws_markParcelS, Go.K.c_laws_markParcelS _ _ (by omega) (by omega)⟩⟩, I, I⟩, ?_⟩
    refine Run.seqk ?_
    refine Run.seqk ?_
    refine Run.reg C_ok [.b (false), .b (false), .b (false), .call (V.b (decide (loseP xs k = loseP xs k))) ([[], []]), .b (false), .b (false)] ?_
    conv => whnf
    refine ⟨⟨I, I, I, ⟨rfl, I⟩, ⟨rfl, I⟩, ⟨rfl, ⟨I, I, I⟩, I, ⟨⟨I, I⟩, ⟨I, I⟩, I⟩, ⟨I, I⟩, ⟨Go.K.e_laws_eqParcelS, Go.K.c_laws_eqParcelS _ _ (by omega)⟩⟩, ⟨rfl, I⟩, rfl, I⟩, ?_⟩
    refine Run.cnd ?_
    conv => whnf
    refine ⟨noT (by assumption), fun _ => ?_⟩
    refine Run.skip ?_
    refine Run.seqk ?_
    refine Run.reg C_ok [] ?_
    conv => whnf
    refine ⟨⟨I, I⟩, ?_⟩
    refine Run.seqk ?_
    refine Run.reg C_ok [.call (V.i ((1 : Int) + (3 : Int) * (↑(List.length (loseP xs k)) : Int))) ([[V.own pkd (List.map (mkPT (1 : Int)) (List.range (List.length (loseP xs k))))], []])] ?_
    conv => whnf
    refine ⟨⟨I, I, ⟨⟨⟨I, I⟩, I, I⟩, I, ⟨I, ⟨I, I⟩, I⟩, ⟨I, I⟩, ⟨Go.K.e_laws_markParcelS, Go.K.c_laws_markParcelS _ _ (by omega) (by omega)⟩⟩, I, I⟩, ?_⟩
    refine Run.seqk ?_
    refine Run.reg C_ok [] ?_
    conv => whnf
    refine ⟨⟨I, I⟩, ?_⟩
    refine Run.seqk ?_
    refine Run.reg C_ok [.call (V.i ((1 : Int) + (3 : Int) * (↑(List.length (loseP xs k)) : Int))) ([[], []])] ?_
    conv => whnf
    refine ⟨⟨I, I, ⟨⟨I, I, I⟩, I, ⟨⟨I, I⟩, ⟨I, I⟩, I⟩, ⟨I, I⟩, ⟨Go.K.e_laws_heldParcelS, Go.K.c_laws_heldParcelS _ _ (by omega) (by omega)⟩⟩, I, I⟩, ?_⟩
    refine Run.seqk ?_
    refine Run.seqk ?_
    refine Run.reg C_ok [] ?_
    conv => whnf
    refine ⟨⟨I, I, I⟩, ?_⟩
    refine Run.cnd ?_
    conv => whnf
    refine ⟨noT (rfl), fun _ => ?_⟩
    refine Run.skip ?_
    refine Run.seqk ?_
    refine Run.seqk ?_
    refine Run.reg C_ok [] ?_
    conv => whnf
    refine ⟨⟨I, I, I, I⟩, ?_⟩
    refine Run.cnd ?_
    conv => whnf
    refine ⟨noT (notF (by omega)), fun _ => ?_⟩
    refine Run.skip ?_
    refine Run.seqk ?_
    refine Run.reg C_ok [.call (V.own pkd (List.map parT xs)) ([[]]), .call (V.own pkd (List.map parT (loseP xs k))) ([[], []])] ?_
    conv => whnf
    refine ⟨⟨I, ⟨⟨I, I⟩, I, ⟨⟨I, I⟩, I⟩, ⟨I, I⟩, ⟨Go.K.e_laws_toParcelS, Go.K.c_laws_toParcelS _ (by omega)⟩⟩, I, ⟨⟨I, I, I⟩, I, ⟨⟨I, I⟩, ⟨I, I⟩, I⟩, ⟨I, I⟩, ⟨Go.K.e_impl_Lose, Go.K.c_impl_Lose _ _ (by omega)⟩⟩, I, I⟩, ?_⟩
    refine Run.seqk ?_
    refine Run.seqk ?_
    refine Run.reg C_ok [.call (V.b (decide (loseP xs k = loseP xs k))) ([[], []])] ?_
    conv => whnf
    refine ⟨⟨I, I, ⟨⟨I, I, I⟩, I, ⟨⟨I, I⟩, ⟨I, I⟩, I⟩, ⟨I, I⟩, ⟨Go.K.e_laws_eqParcelS, Go.K.c_laws_eqParcelS _ _ (by omega)⟩⟩, I, I⟩, ?_⟩
    refine Run.cnd ?_
    conv => whnf
    refine ⟨noT (by assumption), fun _ => ?_⟩
    refine Run.skip ?_
    refine Run.seqk ?_
    refine Run.reg C_ok [] ?_
    conv => whnf
    refine ⟨⟨I, I⟩, ?_⟩
    refine Run.seqk ?_
    refine Run.reg C_ok [.call (V.i ((1 : Int) + (3 : Int) * (↑(List.length (loseP xs k)) : Int))) ([[], []])] ?_
    conv => whnf
    refine ⟨⟨I, I, ⟨⟨I, I, I⟩, I, ⟨⟨I, I⟩, ⟨I, I⟩, I⟩, ⟨I, I⟩, ⟨Go.K.e_laws_heldParcelS, Go.K.c_laws_heldParcelS _ _ (by omega) (by omega)⟩⟩, I, I⟩, ?_⟩
    refine Run.seqk ?_
    refine Run.seqk ?_
    refine Run.reg C_ok [] ?_
    conv => whnf
    refine ⟨⟨I, I, I⟩, ?_⟩
    refine Run.cnd ?_
    conv => whnf
    refine ⟨noT (rfl), fun _ => ?_⟩
    refine Run.skip ?_
    refine Run.seqk ?_
    refine Run.seqk ?_
    refine Run.reg C_ok [] ?_
    conv => whnf
    refine ⟨⟨I, I, I, I⟩, ?_⟩
    refine Run.cnd ?_
    conv => whnf
    refine ⟨noT (by assumption), fun _ => ?_⟩
    refine Run.skip ?_
    refine Run.seqk ?_
    refine Run.reg C_ok [] ?_
    conv => whnf
    refine ⟨⟨I, I⟩, ?_⟩
    refine Run.ret ?_
    refine Ends.rt [] ?_
    conv => whnf
    refine ⟨⟨I, I, I⟩, ?_, rfl⟩
    show V.t (T.v (Value.bool true)) = _
    rfl
abbrev parOk (p : Parcel) : Prop := p.frm.size ≤ 9223372036854775807 ∧ p.text.size ≤ 9223372036854775807
theorem wf_pars {n : Nat} {xs : List (List T)} (h : ∀ y ∈ xs, wfT E (n + 2) 70 y) : ∃ ys : List Parcel, xs = ys.map parT ∧ ∀ p ∈ ys, parOk p := map_of (p := parOk) fun y hy => by
  obtain ⟨y1, z1, e1, ⟨k, rfl, _⟩, y2, z2, e2, ⟨a, rfl, ha⟩, y3, z3, e3, ⟨b, rfl, hb⟩, e4⟩ := h y hy
  subst e4; subst e3; subst e2; subst e1
  exact ⟨⟨k, a, b⟩, rfl, ha, hb⟩
theorem law_Lose : ∀ xs, WfAll E 8 Try.f7.params.toList xs → Tm.Fn Try.prog 7 (tvs E Try.f7.params.toList xs) (.b true) [[], []] := by
  intro xs h
  rw [show Try.f7.params.toList = [40, 3] from rfl] at h ⊢
  cases h with
  | cons h r =>
    cases r with
    | cons h2 r =>
      cases r
      obtain ⟨ys, rfl, hl, hy⟩ := h
      obtain ⟨k, rfl, _⟩ := h2
      obtain ⟨zs, rfl, hz⟩ := wf_pars hy
      exact c_laws_FnExactLose zs k (by rw [List.length_map] at hl; exact hl) hz
end Go.K

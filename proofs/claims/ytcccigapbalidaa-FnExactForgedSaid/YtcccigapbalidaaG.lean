/- Contracts of functions of the program: what each call answers. -/
import Derived.Test.YtcccigapbalidaaF
set_option linter.unusedVariables false
set_option linter.unusedSimpArgs false
set_option maxHeartbeats 4000000
set_option maxRecDepth 20000
open Go Go.Tm Go.Proofs
namespace Go.K
theorem totS_mem : ∀ {l : List ByteArray} {s : ByteArray}, s ∈ l → (s.size : Int) ≤ totS l
  | x :: l, s, h => by
    rcases List.mem_cons.1 h with rfl | h
    · have := totS_nn l; simp only [totS]; omega
    · have := totS_mem h; simp only [totS]; omega
theorem c_laws_FnExactValue (nm : ByteArray) (xs : List ByteArray) (h1 : nm.size ≤ 9223372036854775807) (h2 : xs.length ≤ 9223372036854775807) (h3 : ∀ s ∈ xs, s.size ≤ 9223372036854775807) : F n_laws_FnExactValue [.val (.s nm), .val (.t (strs xs))] (.b true) [[], []] := by
  have c0 := c_laws_szStringS xs 1048576 h2 h3 (by omega) (by omega)
  by_cases hn : (nm.size : Int) ≤ 1048576
  · by_cases hq : (1048576 : Int) - xs.length - totS xs < 0
    · rw [if_pos hq] at c0
      refine i_laws_FnExactValue ?_
      conv => whnf
      refine g 0 0 [] ?_
      conv => whnf
      refine ⟨⟨I, I⟩, ?_⟩
      refine W.sq ?_
      refine g 9 11 [] ?_
      conv => whnf
      refine ⟨⟨I, I, I, I⟩, ?_⟩
      refine W.cn ?_
      conv => whnf
      refine ⟨noT (decide_eq_false (by omega)), fun _ => ?_⟩
      refine W.skip ?_
      refine g 11 12 [] ?_
      conv => whnf
      refine ⟨⟨I, I⟩, ?_⟩
      refine g 12 15 [.call (V.i (-1 : Int)) ([[], []])] ?_
      conv => whnf
      refine ⟨⟨I, I, ⟨⟨I, I, I⟩, I, ⟨⟨I, I⟩, ⟨I, I⟩, I⟩, ⟨I, I⟩, (by assumption)⟩, I, I⟩, ?_⟩
      refine W.sq ?_
      refine g 5 16 [] ?_
      conv => whnf
      refine ⟨⟨I, I, I⟩, ?_⟩
      refine W.cn ?_
      conv => whnf
      refine ⟨fun _ => ?_, noF (rfl)⟩
      refine g 16 17 [] ?_
      conv => whnf
      refine ⟨⟨I, I⟩, ?_⟩
      refine W.ret ?_
      refine EndsW.rt ?_
      conv => whnf
      refine ⟨⟨I, I, I⟩, ?_, rfl⟩
      rfl
    · rw [if_neg hq] at c0
      have hnn := totS_nn xs
      have hs : ∀ s ∈ xs, s.size ≤ 1048576 := fun s h => by have := totS_mem h; omega
      refine i_laws_FnExactValue ?_
      conv => whnf
      refine g 0 0 [] ?_
      conv => whnf
      refine ⟨⟨I, I⟩, ?_⟩
      refine W.sq ?_
      refine g 9 11 [] ?_
      conv => whnf
      refine ⟨⟨I, I, I, I⟩, ?_⟩
      refine W.cn ?_
      conv => whnf
      refine ⟨noT (decide_eq_false (by omega)), fun _ => ?_⟩
      refine W.skip ?_
      refine g 11 12 [] ?_
      conv => whnf
      refine ⟨⟨I, I⟩, ?_⟩
      refine g 12 15 [.call (V.i ((1048576 : Int) - (↑(List.length xs) : Int) - totS xs)) ([[], []])] ?_
      conv => whnf
      refine ⟨⟨I, I, ⟨⟨I, I, I⟩, I, ⟨⟨I, I⟩, ⟨I, I⟩, I⟩, ⟨I, I⟩, (by assumption)⟩, I, I⟩, ?_⟩
      refine W.sq ?_
      refine g 5 16 [] ?_
      conv => whnf
      refine ⟨⟨I, I, I⟩, ?_⟩
      refine W.cn ?_
      conv => whnf
      refine ⟨noT (decide_eq_false (by omega)), fun _ => ?_⟩
      refine W.skip ?_
      refine g 16 21 [.call (V.own [false] (List.map strT xs)) ([[]]), .call (V.s (valueV nm xs)) ([[], []])] ?_
      conv => whnf
      refine ⟨⟨I, I, ⟨⟨I, I⟩, I, ⟨⟨I, I⟩, I⟩, ⟨I, I⟩, Go.K.c_laws_toStringS _ (by omega)⟩, ⟨⟨I, I, I⟩, I, ⟨⟨I, I⟩, ⟨I, I⟩, I⟩, ⟨I, I⟩, Go.K.c_spec_Value _ _ (by omega) (by omega) (by omega) (by omega)⟩, I, I⟩, ?_⟩
      refine g 21 23 [.call (V.own [false] (List.map strT xs)) ([[]])] ?_
      conv => whnf
      refine ⟨⟨I, ⟨⟨I, I⟩, I, ⟨⟨I, I⟩, I⟩, ⟨I, I⟩, Go.K.c_laws_toStringS _ (by omega)⟩, I, I⟩, ?_⟩
      refine g 23 26 [.call (V.s (valueV nm xs)) ([[], []])] ?_
      conv => whnf
      refine ⟨⟨I, I, ⟨⟨I, I, I⟩, I, ⟨⟨I, I⟩, ⟨I, I⟩, I⟩, ⟨I, I⟩, Go.K.c_impl_Value _ _ (by omega) (by omega) (by omega)⟩, I, I⟩, ?_⟩
      refine W.sq ?_
      refine g 8 28 [] ?_
      conv => whnf
      refine ⟨⟨I, I, I, I⟩, ?_⟩
      refine W.cn ?_
      conv => whnf
      refine ⟨noT (notF rfl), fun _ => ?_⟩
      refine W.skip ?_
      refine W.sq ?_
      refine g 6 33 [.call (V.own [false] (List.map strT xs)) ([[]]), .call (V.b (decide (xs = xs))) ([[], []])] ?_
      conv => whnf
      refine ⟨⟨I, I, ⟨⟨I, I⟩, I, ⟨⟨I, I⟩, I⟩, ⟨I, I⟩, Go.K.c_laws_toStringS _ (by omega)⟩, ⟨⟨I, I, I⟩, I, ⟨⟨I, I⟩, ⟨I, I⟩, I⟩, ⟨I, I⟩, Go.K.c_laws_eqStringS _ _ (by omega)⟩, I, I⟩, ?_⟩
      refine W.cn ?_
      conv => whnf
      refine ⟨noT (notF rfl), fun _ => ?_⟩
      refine W.skip ?_
      refine g 0 2 [] ?_
      conv => whnf
      refine ⟨⟨I, I⟩, ?_⟩
      refine W.ret ?_
      refine EndsW.rt ?_
      conv => whnf
      refine ⟨⟨I, I, I⟩, ?_, rfl⟩
      rfl
  ·    refine i_laws_FnExactValue ?_
       conv => whnf
       refine g 0 0 [] ?_
       conv => whnf
       refine ⟨⟨I, I⟩, ?_⟩
       refine W.sq ?_
       refine g 9 11 [] ?_
       conv => whnf
       refine ⟨⟨I, I, I, I⟩, ?_⟩
       refine W.cn ?_
       conv => whnf
       refine ⟨fun _ => ?_, noF (decide_eq_true (by omega))⟩
       refine g 11 12 [] ?_
       conv => whnf
       refine ⟨⟨I, I⟩, ?_⟩
       refine W.ret ?_
       refine EndsW.rt ?_
       conv => whnf
       refine ⟨⟨I, I, I⟩, ?_, rfl⟩
       rfl
theorem map_of {α β : Type} {f : α → β} {p : α → Prop} : ∀ {xs : List β}, (∀ y ∈ xs, ∃ s, y = f s ∧ p s) → ∃ ys : List α, xs = ys.map f ∧ ∀ s ∈ ys, p s
  | [], _ => ⟨[], rfl, fun _ h => by cases h⟩
  | y :: xs, h => by
    obtain ⟨s, rfl, hp⟩ := h y (.head _)
    obtain ⟨ys, rfl, hq⟩ := map_of fun z hz => h z (.tail _ hz)
    exact ⟨s :: ys, rfl, fun z hz => by rcases List.mem_cons.1 hz with rfl | hz; exact hp; exact hq z hz⟩
theorem wf_strs {n : Nat} {xs : List (List T)} (h : ∀ y ∈ xs, wfT E (n + 1) 9 y) : ∃ ys : List ByteArray, xs = ys.map strT ∧ ∀ s ∈ ys, s.size ≤ 9223372036854775807 := map_of (p := fun s : ByteArray => s.size ≤ 9223372036854775807) fun y hy => h y hy
theorem law_Value : ∀ xs, WfAll E 8 Try.f6.params.toList xs → Tm.Fn Try.prog 6 (tvs E Try.f6.params.toList xs) (.b true) [[], []] := by
  intro xs h
  rw [show Try.f6.params.toList = [9, 34] from rfl] at h ⊢
  cases h with
  | cons h r =>
    cases r with
    | cons h2 r =>
      cases r
      obtain ⟨s, rfl, hs⟩ := h
      obtain ⟨ys, rfl, hl, hy⟩ := h2
      obtain ⟨zs, rfl, hz⟩ := wf_strs hy
      exact (c_laws_FnExactValue s zs hs (by rw [List.length_map] at hl; exact hl) hz).2
end Go.K

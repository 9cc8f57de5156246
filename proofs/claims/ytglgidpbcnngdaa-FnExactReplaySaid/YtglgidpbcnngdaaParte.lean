/- Contracts of functions of the program: what each call answers. -/
import Derived.Test.YtglgidpbcnngdaaPartd
set_option linter.unusedVariables false
set_option linter.unusedSimpArgs false
set_option maxHeartbeats 4000000
set_option maxRecDepth 20000
open Go Go.Tm Go.Proofs
namespace Go.K
theorem replayP_len (p : Plan) (xs : List ByteArray) : (replayP p xs).results.length ≤ 40 := by
  unfold replayP
  by_cases h : checkPlan p.tasks = 0 ∧ xs.length ≤ 310
  · rw [if_pos h]
    cases hr : runR p.tasks (some (tale0 p.tasks)) xs with
    | none => exact Nat.zero_le _
    | some t =>
      have := runR_len p.tasks xs _ _ hr
      rw [tale0, List.length_replicate] at this
      have := (chk_inv h.1).1.2
      show t.results.length ≤ 40
      omega
  · rw [if_neg h]; exact Nat.zero_le _
theorem l_FnExactReplay (p : Plan) (hw : planWf p) (xs : List ByteArray) (h2 : xs.length ≤ 9223372036854775807) (h3 : ∀ s ∈ xs, s.size ≤ 9223372036854775807) : F n_laws_FnExactReplay [.val (planR p), .val (.t (strs xs))] (.b true) [[], []] := by
  have c0 := c_laws_szPlan p 1048576 hw (by omega) (by omega)
  have hpn := planSz_nn p
  have htn := totS_nn xs
  by_cases hq : (1048576 : Int) - planSz p < 0
  · rw [if_pos hq] at c0
    refine i_laws_FnExactReplay ?_
    conv => whnf
    refine g 0 1 [] ?_
    conv => whnf
    refine ⟨⟨⟨I, I⟩, I, I⟩, ?_⟩
    refine g 0 0 [] ?_
    conv => whnf
    refine ⟨⟨I, I⟩, ?_⟩
    refine g 14 17 [.call (V.i (-1 : Int)) ([[], []])] ?_
    conv => whnf
    refine ⟨⟨I, I, ⟨⟨I, I, I⟩, I, ⟨⟨I, I⟩, ⟨I, I⟩, I⟩, ⟨I, I⟩, (by assumption)⟩, I, I⟩, ?_⟩
    refine W.sq ?_
    refine g 17 18 [] ?_
    conv => whnf
    refine ⟨⟨I, I, I⟩, ?_⟩
    refine W.cn ?_
    conv => whnf
    refine ⟨fun _ => ?_, noF (rfl)⟩
    refine g 18 19 [] ?_
    conv => whnf
    refine ⟨⟨I, I⟩, ?_⟩
    refine W.ret ?_
    refine EndsW.rt ?_
    conv => whnf
    refine ⟨⟨I, I, I⟩, ?_, rfl⟩
    rfl
  · rw [if_neg hq] at c0
    have c9 := c_laws_szStringS xs (1048576 - planSz p) h2 h3 (by omega) (by omega)
    by_cases hq2 : (1048576 : Int) - planSz p - xs.length - totS xs < 0
    · rw [if_pos hq2] at c9
      refine i_laws_FnExactReplay ?_
      conv => whnf
      refine g 0 1 [] ?_
      conv => whnf
      refine ⟨⟨⟨I, I⟩, I, I⟩, ?_⟩
      refine g 0 0 [] ?_
      conv => whnf
      refine ⟨⟨I, I⟩, ?_⟩
      refine g 14 17 [.call (V.i ((1048576 : Int) - planSz p)) ([[], []])] ?_
      conv => whnf
      refine ⟨⟨I, I, ⟨⟨I, I, I⟩, I, ⟨⟨I, I⟩, ⟨I, I⟩, I⟩, ⟨I, I⟩, (by assumption)⟩, I, I⟩, ?_⟩
      refine W.sq ?_
      refine g 17 18 [] ?_
      conv => whnf
      refine ⟨⟨I, I, I⟩, ?_⟩
      refine W.cn ?_
      conv => whnf
      refine ⟨noT (decide_eq_false (by omega)), fun _ => ?_⟩
      refine W.skip ?_
      refine g 18 22 [.call (V.i (-1 : Int)) ([[], []])] ?_
      conv => whnf
      refine ⟨⟨I, I, ⟨⟨I, I, I⟩, I, ⟨⟨I, I⟩, ⟨I, I⟩, I⟩, ⟨I, I⟩, (by assumption)⟩, I, I⟩, ?_⟩
      refine W.sq ?_
      refine g 5 23 [] ?_
      conv => whnf
      refine ⟨⟨I, I, I⟩, ?_⟩
      refine W.cn ?_
      conv => whnf
      refine ⟨fun _ => ?_, noF (rfl)⟩
      refine g 23 24 [] ?_
      conv => whnf
      refine ⟨⟨I, I⟩, ?_⟩
      refine W.ret ?_
      refine EndsW.rt ?_
      conv => whnf
      refine ⟨⟨I, I, I⟩, ?_, rfl⟩
      rfl
    · rw [if_neg hq2] at c9
      have hl2 := planLen_of (a := p) (by omega)
      obtain ⟨hl3, hl4⟩ := planC_le (p := p) (by omega)
      have hl5 := replayP_len p xs
      have hl6 := planTopC_nn p
      have hl7 : storyTopC (replayP p xs) = (replayP p xs).results.length := rfl
      have hl8 : storyLen (replayP p xs) := by unfold storyLen; omega
      have hs : ∀ s ∈ xs, s.size ≤ 281474976710656 := fun s h => by have := totS_mem h; omega
      refine i_laws_FnExactReplay ?_
      conv => whnf
      refine g 0 1 [] ?_
      conv => whnf
      refine ⟨⟨⟨I, I⟩, I, I⟩, ?_⟩
      refine g 0 0 [] ?_
      conv => whnf
      refine ⟨⟨I, I⟩, ?_⟩
      refine g 14 17 [.call (V.i ((1048576 : Int) - planSz p)) ([[], []])] ?_
      conv => whnf
      refine ⟨⟨I, I, ⟨⟨I, I, I⟩, I, ⟨⟨I, I⟩, ⟨I, I⟩, I⟩, ⟨I, I⟩, (by assumption)⟩, I, I⟩, ?_⟩
      refine W.sq ?_
      refine g 17 18 [] ?_
      conv => whnf
      refine ⟨⟨I, I, I⟩, ?_⟩
      refine W.cn ?_
      conv => whnf
      refine ⟨noT (decide_eq_false (by omega)), fun _ => ?_⟩
      refine W.skip ?_
      refine g 18 22 [.call (V.i ((1048576 : Int) - planSz p - (↑(List.length xs) : Int) - totS xs)) ([[], []])] ?_
      conv => whnf
      refine ⟨⟨I, I, ⟨⟨I, I, I⟩, I, ⟨⟨I, I⟩, ⟨I, I⟩, I⟩, ⟨I, I⟩, (by assumption)⟩, I, I⟩, ?_⟩
      refine W.sq ?_
      refine g 5 23 [] ?_
      conv => whnf
      refine ⟨⟨I, I, I⟩, ?_⟩
      refine W.cn ?_
      conv => whnf
      refine ⟨noT (decide_eq_false (by omega)), fun _ => ?_⟩
      refine W.skip ?_
      refine g 23 29 [.call (planO p) ([[]]), .call (V.own [false] (List.map strT xs)) ([[]]), .call (storyO (replayP p xs)) ([[], []])] ?_
      conv => whnf
      refine ⟨⟨I, ⟨⟨I, I⟩, I, ⟨⟨I, I⟩, I⟩, ⟨I, I⟩, Go.K.c_laws_toPlan _ (by omega)⟩, I, ⟨⟨I, I⟩, I, ⟨⟨I, I⟩, I⟩, ⟨I, I⟩, Go.K.c_laws_toStringS _ (by omega)⟩, ⟨⟨I, I, I⟩, I, ⟨⟨I, I⟩, ⟨I, I⟩, I⟩, ⟨I, I⟩, Go.K.c_spec_Replay _ _ (by omega) (by omega) (by omega)⟩, I, ⟨I, I, I, I⟩, I⟩, ?_⟩
      refine g 29 31 [.call (planO p) ([[]])] ?_
      conv => whnf
      refine ⟨⟨I, ⟨⟨I, I⟩, I, ⟨⟨I, I⟩, I⟩, ⟨I, I⟩, Go.K.c_laws_toPlan _ (by omega)⟩, I, ⟨I, I⟩, I⟩, ?_⟩
      refine g 31 33 [.call (V.own [false] (List.map strT xs)) ([[]])] ?_
      conv => whnf
      refine ⟨⟨I, ⟨⟨I, I⟩, I, ⟨⟨I, I⟩, I⟩, ⟨I, I⟩, Go.K.c_laws_toStringS _ (by omega)⟩, I, I⟩, ?_⟩
      refine g 33 36 [.call (storyO (replayP p xs)) ([[], []])] ?_
      conv => whnf
      refine ⟨⟨I, I, ⟨⟨I, I, I⟩, I, ⟨⟨I, I⟩, ⟨I, I⟩, I⟩, ⟨I, I⟩, Go.K.c_impl_Replay _ _ (by omega) (by omega) (by omega)⟩, I, ⟨I, I, I, I⟩, I⟩, ?_⟩
      refine W.sq ?_
      refine g 36 39 [.call (V.b (decide (replayP p xs = replayP p xs))) ([[], []])] ?_
      conv => whnf
      refine ⟨⟨I, I, ⟨⟨I, I, I⟩, I, ⟨⟨I, I, I, I⟩, ⟨I, I, I, I⟩, I⟩, ⟨I, I⟩, Go.K.c_laws_eqStory _ _ (by omega)⟩, I, I⟩, ?_⟩
      refine W.cn ?_
      conv => whnf
      refine ⟨noT (notF rfl), fun _ => ?_⟩
      refine W.skip ?_
      refine W.sq ?_
      refine gd 39 44 [[], [], [.call (planO p) ([[]])], [.call (V.b (decide (p = p))) ([[], []])], []] ?_
      conv => whnf
      refine ⟨⟨I, I, ⟨⟨I, I⟩, I, ⟨⟨I, I⟩, I⟩, ⟨I, I⟩, Go.K.c_laws_toPlan _ (by omega)⟩, ⟨⟨I, I, I⟩, I, ⟨⟨I, I⟩, ⟨I, I⟩, I⟩, ⟨I, I⟩, Go.K.c_laws_eqPlan _ _ (by omega)⟩, I, I⟩, by kernel_rfl, ?_⟩
      refine W.cn ?_
      conv => whnf
      refine ⟨noT (notF rfl), fun _ => ?_⟩
      refine W.skip ?_
      refine W.sq ?_
      refine g 44 49 [.call (V.own [false] (List.map strT xs)) ([[]]), .call (V.b (decide (xs = xs))) ([[], []])] ?_
      conv => whnf
      refine ⟨⟨I, I, ⟨⟨I, I⟩, I, ⟨⟨I, I⟩, I⟩, ⟨I, I⟩, Go.K.c_laws_toStringS _ (by omega)⟩, ⟨⟨I, I, I⟩, I, ⟨⟨I, I⟩, ⟨I, I⟩, I⟩, ⟨I, I⟩, Go.K.c_laws_eqStringS _ _ (by omega)⟩, I, I⟩, ?_⟩
      refine W.cn ?_
      conv => whnf
      refine ⟨noT (notF rfl), fun _ => ?_⟩
      refine W.skip ?_
      refine g 49 50 [] ?_
      conv => whnf
      refine ⟨⟨I, I⟩, ?_⟩
      refine g 50 53 [.call (V.i ((1 : Int) + planTopC p)) ([cellsOf (planO (planTop (1 : Int) p)), []])] ?_
      conv => whnf
      refine ⟨⟨I, I, ⟨⟨⟨I, I⟩, I, I⟩, I, ⟨I, ⟨I, I⟩, I⟩, ⟨I, I⟩, Go.K.c_laws_markPlan _ _ (by omega) (by omega) (by omega)⟩, I, I⟩, ?_⟩
      refine g 53 56 [.call (V.i ((1 : Int) + planTopC p + (↑(List.length xs) : Int))) ([[V.own [false] (List.map strT (mkL (fun k x => markT k) (fun x => (1 : Int)) ((1 : Int) + planTopC p) xs))], []])] ?_
      conv => whnf
      refine ⟨⟨I, I, ⟨⟨⟨I, I⟩, I, I⟩, I, ⟨I, ⟨I, I⟩, I⟩, ⟨I, I⟩, Go.K.c_laws_markStringS _ _ (by omega) (by omega) (by omega)⟩, I, I⟩, ?_⟩
      refine W.sq ?_
      refine g 10 63 [.b (false), .b (false), .b (false), .call (V.b (decide (replayP p xs = replayP p xs))) ([[], []]), .b (false), .b (false)] ?_
      conv => whnf
      refine ⟨⟨I, I, I, ⟨decide_eq_false (by omega), I⟩, ⟨decide_eq_false (by omega), I⟩, ⟨decide_eq_false (by omega), ⟨I, I, I⟩, I, ⟨⟨I, I, I, I⟩, ⟨I, I, I, I⟩, I⟩, ⟨I, I⟩, Go.K.c_laws_eqStory _ _ (by omega)⟩, ⟨decide_eq_false (by omega), I⟩, decide_eq_false (by omega), I⟩, ?_⟩
      refine W.cn ?_
      conv => whnf
      refine ⟨noT (by assumption), fun _ => ?_⟩
      refine W.skip ?_
      refine g 7 9 [] ?_
      conv => whnf
      refine ⟨⟨I, I⟩, ?_⟩
      refine g 63 67 [.call (V.i ((1 : Int) + storyTopC (replayP p xs))) ([cellsOf (storyO (storyTop (1 : Int) (replayP p xs))), []])] ?_
      conv => whnf
      refine ⟨⟨I, I, ⟨⟨⟨I, I, I, I⟩, I, I⟩, I, ⟨I, ⟨I, I⟩, I⟩, ⟨I, I⟩, Go.K.c_laws_markStory _ _ (by omega) (by omega) (by omega)⟩, I, I⟩, ?_⟩
      refine g 0 0 [] ?_
      conv => whnf
      refine ⟨⟨I, I⟩, ?_⟩
      refine g 67 70 [.call (V.i ((1 : Int) + storyTopC (replayP p xs))) ([[], []])] ?_
      conv => whnf
      refine ⟨⟨I, I, ⟨⟨I, I, I⟩, I, ⟨⟨I, I, I, I⟩, ⟨I, I⟩, I⟩, ⟨I, I⟩, Go.K.c_laws_heldStory _ _ (by omega) (by omega) (by omega)⟩, I, I⟩, ?_⟩
      refine W.sq ?_
      refine g 70 71 [] ?_
      conv => whnf
      refine ⟨⟨I, I, I⟩, ?_⟩
      refine W.cn ?_
      conv => whnf
      refine ⟨noT (rfl), fun _ => ?_⟩
      refine W.skip ?_
      refine W.sq ?_
      refine g 71 74 [] ?_
      conv => whnf
      refine ⟨⟨I, I, I, I⟩, ?_⟩
      refine W.cn ?_
      conv => whnf
      refine ⟨noT (notF (by omega)), fun _ => ?_⟩
      refine W.skip ?_
      refine g 74 80 [.call (planO p) ([[]]), .call (V.own [false] (List.map strT xs)) ([[]]), .call (storyO (replayP p xs)) ([[], []])] ?_
      conv => whnf
      refine ⟨⟨I, ⟨⟨I, I⟩, I, ⟨⟨I, I⟩, I⟩, ⟨I, I⟩, Go.K.c_laws_toPlan _ (by omega)⟩, I, ⟨⟨I, I⟩, I, ⟨⟨I, I⟩, I⟩, ⟨I, I⟩, Go.K.c_laws_toStringS _ (by omega)⟩, ⟨⟨I, I, I⟩, I, ⟨⟨I, I⟩, ⟨I, I⟩, I⟩, ⟨I, I⟩, Go.K.c_impl_Replay _ _ (by omega) (by omega) (by omega)⟩, I, ⟨I, I, I, I⟩, I⟩, ?_⟩
      refine W.sq ?_
      refine g 13 83 [.call (V.b (decide (replayP p xs = replayP p xs))) ([[], []])] ?_
      conv => whnf
      refine ⟨⟨I, I, ⟨⟨I, I, I⟩, I, ⟨⟨I, I, I, I⟩, ⟨I, I, I, I⟩, I⟩, ⟨I, I⟩, Go.K.c_laws_eqStory _ _ (by omega)⟩, I, I⟩, ?_⟩
      refine W.cn ?_
      conv => whnf
      refine ⟨noT (by assumption), fun _ => ?_⟩
      refine W.skip ?_
      refine g 1 3 [] ?_
      conv => whnf
      refine ⟨⟨I, I⟩, ?_⟩
      refine g 83 87 [.call (V.i ((1 : Int) + storyTopC (replayP p xs))) ([[], []])] ?_
      conv => whnf
      refine ⟨⟨I, I, ⟨⟨I, I, I⟩, I, ⟨⟨I, I, I, I⟩, ⟨I, I⟩, I⟩, ⟨I, I⟩, Go.K.c_laws_heldStory _ _ (by omega) (by omega) (by omega)⟩, I, I⟩, ?_⟩
      refine W.sq ?_
      refine g 6 10 [] ?_
      conv => whnf
      refine ⟨⟨I, I, I⟩, ?_⟩
      refine W.cn ?_
      conv => whnf
      refine ⟨noT (rfl), fun _ => ?_⟩
      refine W.skip ?_
      refine W.sq ?_
      refine g 11 91 [] ?_
      conv => whnf
      refine ⟨⟨I, I, I, I⟩, ?_⟩
      refine W.cn ?_
      conv => whnf
      refine ⟨noT (by assumption), fun _ => ?_⟩
      refine W.skip ?_
      refine g 91 92 [] ?_
      conv => whnf
      refine ⟨⟨I, I⟩, ?_⟩
      refine W.ret ?_
      refine EndsW.rt ?_
      conv => whnf
      refine ⟨⟨I, I, I⟩, ?_, rfl⟩
      rfl
end Go.K


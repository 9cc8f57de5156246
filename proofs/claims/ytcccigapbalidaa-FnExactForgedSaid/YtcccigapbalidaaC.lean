/- Contracts of functions of the program: what each call answers. -/
import Derived.Test.YtcccigapbalidaaB
set_option linter.unusedVariables false
set_option linter.unusedSimpArgs false
set_option maxHeartbeats 4000000
set_option maxRecDepth 20000
open Go Go.Tm Go.Proofs
namespace Go.K
theorem u8_id {x : Int} (h1 : 0 ≤ x) (h2 : x ≤ 255) : IntKind.u8.wrap x = x := wu8 h1 h2
theorem form_eq (e : Entry) : formI e = formS e := by
  unfold formI formS
  by_cases h : e.ok
  · simp only [h, if_true]
    obtain ⟨⟨h1, h2⟩, _⟩ := h
    have e1 : e.epoch.fdiv 256 = e.epoch / 256 := Int.fdiv_eq_ediv_of_nonneg _ (by omega)
    have e2 : e.epoch.tdiv 256 = e.epoch / 256 := Int.tdiv_eq_ediv_of_nonneg (by omega)
    have e3 : e.epoch.tmod 256 = e.epoch % 256 := Int.tmod_eq_emod_of_nonneg (by omega)
    have e4 : IntKind.u8.wrap e.epoch = e.epoch % 256 := by simp [IntKind.wrap, IntKind.bits, IntKind.signed]
    rw [e1, e2, e3, w64 (by omega) (by omega), e4, wu8 (z := e.epoch % 256) (by omega) (by omega)]
  · simp only [h, if_false]
theorem c_laws_FnExactFormEntry (k ep ta : Int) (tx : ByteArray) (ht : tx.size ≤ 9223372036854775807) : F n_laws_FnExactFormEntry [.val (entryV k ep ta tx)] (.b true) [[]] := by
  have hf := form_eq ⟨k, ep, ta, tx⟩
  refine i_laws_FnExactFormEntry ?_
  conv => whnf
  refine g 0 1 [] ?_
  conv => whnf
  refine ⟨⟨⟨I, I, I, I, I⟩, I, I⟩, ?_⟩
  refine g 0 0 [] ?_
  conv => whnf
  refine ⟨⟨I, I⟩, ?_⟩
  refine g 6 9 [.call (V.i (if (1048576 : Int) < (↑(ByteArray.size tx) : Int) then (-1 : Int) else (1048576 : Int) - (↑(ByteArray.size tx) : Int))) ([[], []])] ?_
  conv => whnf
  refine ⟨⟨I, I, ⟨⟨I, I, I⟩, I, ⟨⟨I, I, I, I, I⟩, ⟨I, I⟩, I⟩, ⟨I, I⟩, Go.K.c_laws_szEntry _ _ _ _ _ (by omega) (by omega) (by omega)⟩, I, I⟩, ?_⟩
  refine W.sq ?_
  refine g 3 10 [] ?_
  conv => whnf
  refine ⟨⟨I, I, I⟩, ?_⟩
  refine W.cn ?_
  conv => whnf
  refine ⟨fun h1 => ?_, fun h1 => ?_⟩
  replace h1 := dt h1
  refine g 10 11 [] ?_
  conv => whnf
  refine ⟨⟨I, I⟩, ?_⟩
  refine W.ret ?_
  refine EndsW.rt ?_
  conv => whnf
  refine ⟨⟨I, I, I⟩, ?_, rfl⟩
  rfl
  replace h1 := df h1
  refine W.skip ?_
  refine g 10 14 [.call (entryV k ep ta tx) ([[]]), .call (V.s (formS { kind := k, epoch := ep, task := ta, text := tx : Entry })) ([[]])] ?_
  conv => whnf
  refine ⟨⟨I, ⟨⟨I, I⟩, I, ⟨⟨I, I, I, I, I⟩, I⟩, ⟨I, I⟩, Go.K.c_laws_toEntry _ _ _ _⟩, ⟨⟨I, I⟩, I, ⟨⟨I, I, I, I, I⟩, I⟩, ⟨I, I⟩, Go.K.c_spec_FormEntry _ _ _ _ (by omega)⟩, I, I⟩, ?_⟩
  refine g 14 17 [.call (entryV k ep ta tx) ([[]]), .call (V.s (formI { kind := k, epoch := ep, task := ta, text := tx : Entry })) ([[]])] ?_
  conv => whnf
  refine ⟨⟨I, ⟨⟨I, I⟩, I, ⟨⟨I, I, I, I, I⟩, I⟩, ⟨I, I⟩, Go.K.c_laws_toEntry _ _ _ _⟩, ⟨⟨I, I⟩, I, ⟨⟨I, I, I, I, I⟩, I⟩, ⟨I, I⟩, Go.K.c_impl_FormEntry _ _ _ _ (by omega)⟩, I, I⟩, ?_⟩
  refine W.sq ?_
  refine g 5 19 [] ?_
  conv => whnf
  refine ⟨⟨I, I, I, I⟩, ?_⟩
  refine W.cn ?_
  conv => whnf
  refine ⟨noT (notF (by omega)), fun _ => ?_⟩
  refine W.skip ?_
  refine g 1 2 [] ?_
  conv => whnf
  refine ⟨⟨I, I⟩, ?_⟩
  refine W.ret ?_
  refine EndsW.rt ?_
  conv => whnf
  refine ⟨⟨I, I, I⟩, ?_, rfl⟩
  rfl
end Go.K
namespace Go.K
theorem law_FormEntry : ∀ xs, WfAll E 8 Try.f4.params.toList xs → Tm.Fn Try.prog 4 (tvs E Try.f4.params.toList xs) (.b true) [[]] := by
  intro xs h
  rw [show Try.f4.params.toList = [24] from rfl] at h ⊢
  cases h with
  | cons h r =>
    cases r
    obtain ⟨_, _, rfl, ⟨k, rfl, _, _⟩, _, _, rfl, ⟨ep, rfl, _⟩, _, _, rfl, ⟨ta, rfl, _⟩, _, _, rfl, ⟨tx, rfl, hs⟩, rfl⟩ := h
    exact (c_laws_FnExactFormEntry k ep ta tx hs).2
end Go.K

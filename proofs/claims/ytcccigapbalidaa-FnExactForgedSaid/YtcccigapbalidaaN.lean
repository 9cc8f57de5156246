/- Contracts of functions of the program: what each call answers. -/
import Derived.Test.YtcccigapbalidaaM
set_option linter.unusedVariables false
set_option linter.unusedSimpArgs false
set_option maxHeartbeats 4000000
set_option maxRecDepth 20000
open Go Go.Tm Go.Proofs
namespace Go.K
def eights (xs : List ByteArray) : Prop := (∀ s ∈ xs, s.size = 8) ∧ xs.length ≤ 8
instance (xs : List ByteArray) : Decidable (eights xs) := by unfold eights; infer_instance
theorem eights_no {xs : List ByteArray} {n : Nat} {y : ByteArray} (hy : xs[n]? = some y) (h : ¬ (y.size : Int) = 8) : ¬ eights xs := fun e => h (by have := e.1 y (List.mem_of_getElem? hy); omega)
theorem all_take {α : Type} {p : α → Prop} {xs : List α} {n : Nat} {y : α} (h : ∀ s ∈ xs.take n, p s) (hy : xs[n]? = some y) (hp : p y) : ∀ s ∈ xs.take (n + 1), p s := fun s hs => by
  rw [List.take_add_one, hy] at hs
  rcases List.mem_append.1 hs with hs | hs
  · exact h s hs
  · simp at hs; subst hs; exact hp
theorem all_done {α : Type} {p : α → Prop} {xs : List α} {n : Nat} (h : ∀ s ∈ xs.take n, p s) (hn : xs.length ≤ n) : ∀ s ∈ xs, p s := by rwa [take_all hn] at h
theorem c_impl_eights (xs : List ByteArray) (hl : xs.length ≤ 9223372036854775806) : F n_impl_eights [.val (.t (strs xs))] (.b (decide (eights xs))) [[]] := by
  refine i_impl_eights ?_
  conv => whnf
  refine g 0 0 [] ?_
  conv => whnf
  refine ⟨⟨I, I⟩, ?_⟩
  refine W.sq ?_
  refine g 0 0 [] ?_
  conv => whnf
  refine ⟨⟨I, I, I, I⟩, ?_⟩
  refine W.blk ?_
  refine W.lp (fun s (n : Nat) => ⟨[(0, s.s 0), (5, s.s 5), (6, s.s 6), (7, .i n)], [], []⟩) (fun (n : Nat) => n ≤ xs.length ∧ ∀ s ∈ xs.take n, s.size = 8) (fun (n : Nat) => xs.length - n) (0) [] [] ⟨rfl, ⟨rfl, rfl, rfl, rfl, I⟩, I, I⟩ (by simp) ?_
  rintro n ⟨hn, hc⟩
  conv => whnf
  refine g 0 0 [] ?_
  conv => whnf
  refine ⟨⟨I, I⟩, ?_⟩
  refine W.sq ?_
  refine W.cn ?_
  conv => whnf
  refine ⟨fun h1 => ?_, fun h1 => ?_⟩
  replace h1 := dt h1
  simp only [List.length_map] at h1
  refine W.skip ?_
  refine W.sq ?_
  refine W.blk ?_
  obtain ⟨y1, hy1⟩ := some_at (xs := xs) (n := n) (by omega)
  refine g 8 11 [.x (strT y1)] ?_
  conv => whnf
  refine ⟨⟨⟨(by omega), ixl (by assumption)⟩, I, I, I⟩, ?_⟩
  refine g 11 13 [] ?_
  conv => whnf
  refine ⟨⟨I, I, I, I⟩, ?_⟩
  refine W.cn ?_
  conv => whnf
  refine ⟨fun h2 => ?_, fun h2 => ?_⟩
  replace h2 := ndt h2
  refine g 13 14 [] ?_
  conv => whnf
  refine ⟨⟨I, I⟩, ?_⟩
  refine W.ret ?_
  refine EndsW.rt ?_
  conv => whnf
  refine ⟨⟨I, I, I⟩, ?_, rfl⟩
  rotate_left 1
  replace h2 := ndf h2
  refine W.skip ?_
  refine rg [.i ((↑n : Int) + (1 : Int))] ?_
  conv => whnf
  refine ⟨⟨w64 (by omega) (by omega), I, I⟩, ?_⟩
  rotate_left 1
  replace h1 := df h1
  simp only [List.length_map] at h1
  refine W.exit ?_
  refine g 5 18 [] ?_
  conv => whnf
  refine ⟨⟨I, I, I, I, I⟩, ?_⟩
  refine W.ret ?_
  refine EndsW.rt ?_
  conv => whnf
  refine ⟨⟨I, I, I⟩, ?_, rfl⟩
  rotate_left 1
  · exact vbf (eights_no hy1 (by assumption))
  · refine ⟨n + 1, [], [], ⟨rfl, ⟨rfl, rfl, rfl, rfl, I⟩, I, I⟩, ?_, ?_⟩
    rotate_left 1
    (dsimp only; omega)
    dsimp only
    exact ⟨by omega, all_take hc hy1 (by omega)⟩
  · exact vbd ⟨fun e => ⟨all_done hc (by omega), by simp only [List.length_map] at e; omega⟩, fun e => by have := e.2; simp only [List.length_map]; omega⟩
theorem c_spec_l2InputsOk (xs : List ByteArray) (hl : xs.length ≤ 9223372036854775806) : F n_spec_l2InputsOk [.val (.t (strs xs))] (.b (decide (eights xs))) [[]] := by
  refine i_spec_l2InputsOk ?_
  conv => whnf
  refine g 0 0 [] ?_
  conv => whnf
  refine ⟨⟨I, I⟩, ?_⟩
  refine W.sq ?_
  refine g 0 0 [] ?_
  conv => whnf
  refine ⟨⟨I, I⟩, ?_⟩
  refine W.blk ?_
  refine W.lp (fun s (n : Nat) => ⟨[(0, s.s 0), (3, .i n)], [], []⟩) (fun (n : Nat) => n ≤ xs.length ∧ ∀ s ∈ xs.take n, s.size = 8) (fun (n : Nat) => xs.length - n) (0) [] [] ⟨rfl, ⟨rfl, rfl, I⟩, I, I⟩ (by simp) ?_
  rintro n ⟨hn, hc⟩
  conv => whnf
  refine W.sq ?_
  refine g 5 7 [] ?_
  conv => whnf
  refine ⟨⟨I, I, I, I, I⟩, ?_⟩
  refine W.cn ?_
  conv => whnf
  refine ⟨fun h1 => ?_, fun h1 => ?_⟩
  replace h1 := dt h1
  simp only [List.length_map] at h1
  refine W.skip ?_
  refine W.sq ?_
  refine W.blk ?_
  obtain ⟨y1, hy1⟩ := some_at (xs := xs) (n := n) (by omega)
  refine g 7 15 [.x (strT y1)] ?_
  conv => whnf
  refine ⟨⟨I, I, ⟨(by omega), ixl (by assumption)⟩, I, I, I, I⟩, ?_⟩
  refine W.cn ?_
  conv => whnf
  refine ⟨fun h2 => ?_, fun h2 => ?_⟩
  replace h2 := ndt h2
  refine g 15 16 [] ?_
  conv => whnf
  refine ⟨⟨I, I⟩, ?_⟩
  refine W.ret ?_
  refine EndsW.rt ?_
  conv => whnf
  refine ⟨⟨I, I, I⟩, ?_, rfl⟩
  rotate_left 1
  replace h2 := ndf h2
  refine W.skip ?_
  refine rg [.i ((↑n : Int) + (1 : Int))] ?_
  conv => whnf
  refine ⟨⟨I, w64 (by omega) (by omega), I, I⟩, ?_⟩
  rotate_left 1
  replace h1 := df h1
  simp only [List.length_map] at h1
  refine W.exit ?_
  refine g 7 19 [] ?_
  conv => whnf
  refine ⟨⟨I, I, I, I, I⟩, ?_⟩
  refine W.ret ?_
  refine EndsW.rt ?_
  conv => whnf
  refine ⟨⟨I, I, I⟩, ?_, rfl⟩
  rotate_left 1
  · exact vbf (eights_no hy1 (by assumption))
  · refine ⟨n + 1, [], [], ⟨rfl, ⟨rfl, rfl, I⟩, I, I⟩, ?_, ?_⟩
    rotate_left 1
    (dsimp only; omega)
    dsimp only
    exact ⟨by omega, all_take hc hy1 (by omega)⟩
  · exact vbd ⟨fun e => ⟨all_done hc (by omega), by simp only [List.length_map] at e; omega⟩, fun e => by have := e.2; simp only [List.length_map]; omega⟩
theorem c_spec_l2LeaseOk (n : Int) : F n_spec_l2LeaseOk [.val (.i n)] (.b (decide (1 ≤ n ∧ n ≤ 300000000))) [[]] := by
  refine i_spec_l2LeaseOk ?_
  conv => whnf
  refine g 0 0 [] ?_
  conv => whnf
  refine ⟨⟨I, I⟩, ?_⟩
  refine g 0 1 [.call (V.b (decide ((1 : Int) ≤ n ∧ n ≤ (300000000 : Int)))) ([[], [], []])] ?_
  conv => whnf
  refine ⟨⟨I, ⟨⟨I, I, I, I⟩, I, ⟨⟨I, I⟩, ⟨I, I⟩, ⟨I, I⟩, I⟩, ⟨I, I⟩, Go.K.c_spec_l2In _ _ _⟩, I, I⟩, ?_⟩
  refine W.ret ?_
  refine EndsW.rt ?_
  conv => whnf
  refine ⟨⟨I, I, I⟩, ?_, rfl⟩
  rfl
end Go.K

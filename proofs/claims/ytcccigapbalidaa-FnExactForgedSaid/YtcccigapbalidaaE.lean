/- Contracts of functions of the program: what each call answers. -/
import Derived.Test.YtcccigapbalidaaD
set_option linter.unusedVariables false
set_option linter.unusedSimpArgs false
set_option maxHeartbeats 4000000
set_option maxRecDepth 20000
open Go Go.Tm Go.Proofs
namespace Go.K
abbrev strT (s : ByteArray) : List T := [.s s]
abbrev strs (xs : List ByteArray) : T := .slc [false] (xs.map strT)
theorem c_laws_szStringS (xs : List ByteArray) (left : Int) (hl : xs.length ≤ 9223372036854775807) (hs : ∀ s ∈ xs, s.size ≤ 9223372036854775807) (h : left ≤ 1048576) (h0 : 0 ≤ left) :
    F n_laws_szStringS [.val (.t (strs xs)), .val (.i left)] (.i (if left - xs.length - totS xs < 0 then -1 else left - xs.length - totS xs)) [[], []] := by
  have hnn := totS_nn xs
  refine i_laws_szStringS ?_
  conv => whnf
  refine g 0 0 [] ?_
  conv => whnf
  refine ⟨⟨I, I⟩, ?_⟩
  refine g 6 10 [.i (left - (↑(List.length (List.map strT xs)) : Int))] ?_
  conv => whnf
  refine ⟨⟨I, I, I, w64 (by simp only [List.length_map, List.length_append, List.length_set, List.length_replicate, List.length_cons, List.length_nil, List.length_take, List.length_drop, fill_len, fillI_len, List.length_range, bytesT_len]; omega) (by simp only [List.length_map, List.length_append, List.length_set, List.length_replicate, List.length_cons, List.length_nil, List.length_take, List.length_drop, fill_len, fillI_len, List.length_range, bytesT_len]; omega), I, I⟩, ?_⟩
  refine W.sq ?_
  refine g 10 11 [] ?_
  conv => whnf
  refine ⟨⟨I, I, I⟩, ?_⟩
  refine W.cn ?_
  conv => whnf
  refine ⟨fun h1 => ?_, fun h1 => ?_⟩
  replace h1 := dt h1
  simp only [List.length_map] at h1
  refine g 11 12 [] ?_
  conv => whnf
  refine ⟨⟨I, I⟩, ?_⟩
  refine W.ret ?_
  refine EndsW.rt ?_
  conv => whnf
  refine ⟨⟨I, I, I⟩, ?_, rfl⟩
  exact vi (by omega)
  replace h1 := df h1
  simp only [List.length_map] at h1
  refine W.skip ?_
  refine W.sq ?_
  refine g 11 12 [] ?_
  conv => whnf
  refine ⟨⟨I, I⟩, ?_⟩
  refine W.blk ?_
  refine W.lp (fun s (n : Nat) => ⟨[(0, s.s 0), (1, .i (left - xs.length - totS (xs.take n))), (5, .i n)], [], []⟩) (fun (n : Nat) => n ≤ xs.length ∧ 0 ≤ left - xs.length - totS (xs.take n)) (fun (n : Nat) => xs.length - n) (0) [] [] ⟨rfl, ⟨rfl, (congrArg (fun z => V.t (T.v (Value.int _ z))) (by simp [totS])), rfl, I⟩, I, I⟩ ?_ ?_
  · simp [totS]; omega
  rintro n ⟨hn, hc⟩
  have hq := totS_nn (xs.take n)
  have hle := totS_le xs (n + 1)
  conv => whnf
  refine W.sq ?_
  refine g 12 15 [] ?_
  conv => whnf
  refine ⟨⟨I, I, I, I, I⟩, ?_⟩
  refine W.cn ?_
  conv => whnf
  refine ⟨fun h2 => ?_, fun h2 => ?_⟩
  replace h2 := dt h2
  simp only [List.length_map] at h2
  refine W.skip ?_
  refine W.sq ?_
  refine W.blk ?_
  obtain ⟨y1, hy1⟩ := some_at (xs := xs) (n := n) (by omega)
  have hm1 := hs y1 (List.mem_of_getElem? hy1)
  have hk1 := totS_take hy1
  refine g 15 25 [.x (strT y1), .i (left - (↑(List.length xs) : Int) - totS (List.take n xs) - (↑(ByteArray.size y1) : Int))] ?_
  conv => whnf
  refine ⟨⟨I, I, I, ⟨(by omega), ixl (by assumption)⟩, I, I, w64 (by omega) (by omega), I, I⟩, ?_⟩
  refine g 25 26 [] ?_
  conv => whnf
  refine ⟨⟨I, I, I⟩, ?_⟩
  refine W.cn ?_
  conv => whnf
  refine ⟨fun h3 => ?_, fun h3 => ?_⟩
  replace h3 := dt h3
  refine g 26 27 [] ?_
  conv => whnf
  refine ⟨⟨I, I⟩, ?_⟩
  refine W.ret ?_
  refine EndsW.rt ?_
  conv => whnf
  refine ⟨⟨I, I, I⟩, ?_, rfl⟩
  exact vi (by omega)
  replace h3 := df h3
  refine W.skip ?_
  refine rg [.i ((↑n : Int) + (1 : Int))] ?_
  conv => whnf
  refine ⟨⟨I, w64 (by omega) (by omega), I, I⟩, ?_⟩
  rotate_left 1
  replace h2 := df h2
  simp only [List.length_map] at h2
  refine W.exit ?_
  refine g 5 28 [] ?_
  conv => whnf
  refine ⟨⟨I, I, I⟩, ?_⟩
  refine W.ret ?_
  refine EndsW.rt ?_
  conv => whnf
  refine ⟨⟨I, I, I⟩, ?_, rfl⟩
  rotate_left 1
  · refine ⟨n + 1, [], [], ⟨rfl, ⟨rfl, (congrArg (fun z => V.t (T.v (Value.int _ z))) (by rw [totS_take (by assumption)]; omega)), rfl, I⟩, I, I⟩, ?_, ?_⟩
    rotate_left 1
    (dsimp only; omega)
    dsimp only
    omega
  · have e : xs.take n = xs := List.take_of_length_le (by omega)
    rw [e] at hc ⊢
    exact vi (by split <;> omega)
theorem c_laws_toStringS (xs : List ByteArray) (hl : xs.length ≤ 1048576) : F n_laws_toStringS [.val (.t (strs xs))] (.own [false] (xs.map strT)) [[]] := by
  refine i_laws_toStringS ?_
  conv => whnf
  refine g 0 0 [] ?_
  conv => whnf
  refine ⟨⟨I, I⟩, ?_⟩
  refine g 5 8 [.n (List.length (List.map strT xs))] ?_
  conv => whnf
  refine ⟨⟨I, I, ⟨rfl, rfl, (by simp only [List.length_map, List.length_append, List.length_set, List.length_replicate, List.length_cons, List.length_nil, List.length_take, List.length_drop, fill_len, fillI_len, List.length_range, bytesT_len]; omega)⟩, I, I⟩, ?_⟩
  refine W.sq ?_
  refine g 0 0 [] ?_
  conv => whnf
  refine ⟨⟨I, I⟩, ?_⟩
  refine W.blk ?_
  refine W.lp (fun s (n : Nat) => ⟨[(0, s.s 0), (2, s.s 2), (3, s.s 3), (4, .i n)], [(7, [.own [false] (fill strT (strT emp) xs n)])], []⟩) (fun (n : Nat) => n ≤ xs.length) (fun (n : Nat) => xs.length - n) (0) [some 7] [] ⟨rfl, ⟨rfl, rfl, rfl, rfl, I⟩, ⟨⟨rfl, ⟨(congrArg (V.own _) (fill_zero' (by simp) rfl)), I⟩⟩, I⟩, I⟩ (by omega) ?_
  intro n hn
  conv => whnf
  refine W.sq ?_
  refine g 8 11 [] ?_
  conv => whnf
  refine ⟨⟨I, I, I, I, I⟩, ?_⟩
  refine W.cn ?_
  conv => whnf
  refine ⟨fun h1 => ?_, fun h1 => ?_⟩
  replace h1 := dt h1
  simp only [List.length_map] at h1
  refine W.skip ?_
  refine W.sq ?_
  refine W.blk ?_
  obtain ⟨y1, hy1⟩ := some_at (xs := xs) (n := n) (by omega)
  refine rg [.x (strT y1), .n (n), .x (strT emp)] ?_
  conv => whnf
  refine ⟨⟨I, I, I, I, ⟨(by omega), ixl (by assumption)⟩, I, ⟨rfl, (by simp only [List.length_map, List.length_append, List.length_set, List.length_replicate, List.length_cons, List.length_nil, List.length_take, List.length_drop, fill_len, fillI_len, List.length_range, bytesT_len]; omega)⟩, ⟨⟨I, I⟩, fill_get (by omega)⟩, I⟩, ?_⟩
  refine rg [.i ((↑n : Int) + (1 : Int))] ?_
  conv => whnf
  refine ⟨⟨I, w64 (by omega) (by omega), I, I⟩, ?_⟩
  rotate_left 1
  replace h1 := df h1
  simp only [List.length_map] at h1
  refine W.exit ?_
  refine g 3 22 [] ?_
  conv => whnf
  refine ⟨⟨I, I, I⟩, ?_⟩
  refine W.ret ?_
  refine EndsW.rt ?_
  conv => whnf
  refine ⟨⟨I, I, I⟩, ?_, rfl⟩
  rotate_left 1
  · refine ⟨n + 1, [some 7], [], ⟨rfl, ⟨rfl, rfl, rfl, rfl, I⟩, ⟨⟨rfl, ⟨(congrArg (V.own _) (fill_set (by assumption))), I⟩⟩, I⟩, I⟩, ?_, ?_⟩
    rotate_left 1
    (dsimp only; omega)
    dsimp only
    omega
  · have e : fill strT (strT emp) xs n = xs.map strT := fill_all _ _ _ (by omega)
    rw [← e]
theorem c_laws_eqStringS (xs ys : List ByteArray) (hl : xs.length ≤ 9223372036854775806) : F n_laws_eqStringS [.val (.t (strs xs)), .val (.t (strs ys))] (.b (decide (xs = ys))) [[], []] := by
  refine i_laws_eqStringS ?_
  conv => whnf
  refine g 0 0 [] ?_
  conv => whnf
  refine ⟨⟨I, I⟩, ?_⟩
  refine W.sq ?_
  refine g 6 10 [] ?_
  conv => whnf
  refine ⟨⟨I, I, I, I, I, I⟩, ?_⟩
  refine W.cn ?_
  conv => whnf
  refine ⟨fun h1 => ?_, fun h1 => ?_⟩
  replace h1 := ndt h1
  simp only [List.length_map] at h1
  refine g 10 11 [] ?_
  conv => whnf
  refine ⟨⟨I, I⟩, ?_⟩
  refine W.ret ?_
  refine EndsW.rt ?_
  conv => whnf
  refine ⟨⟨I, I, I⟩, ?_, rfl⟩
  rotate_left 1
  replace h1 := ndf h1
  simp only [List.length_map] at h1
  refine W.skip ?_
  refine W.sq ?_
  refine g 10 11 [] ?_
  conv => whnf
  refine ⟨⟨I, I⟩, ?_⟩
  refine W.blk ?_
  rotate_left 1
  · exact vbf (fun e => h1 (by rw [e]))
  refine W.lp (fun s (n : Nat) => ⟨[(0, s.s 0), (1, s.s 1), (5, .i n)], [], []⟩) (fun (n : Nat) => n ≤ xs.length ∧ xs.take n = ys.take n) (fun (n : Nat) => xs.length - n) (0) [] [] ⟨rfl, ⟨rfl, rfl, rfl, I⟩, I, I⟩ (by simp) ?_
  rintro n ⟨hn, hc⟩
  conv => whnf
  refine W.sq ?_
  refine g 11 14 [] ?_
  conv => whnf
  refine ⟨⟨I, I, I, I, I⟩, ?_⟩
  refine W.cn ?_
  conv => whnf
  refine ⟨fun h2 => ?_, fun h2 => ?_⟩
  replace h2 := dt h2
  simp only [List.length_map] at h2
  refine W.skip ?_
  refine W.sq ?_
  refine W.blk ?_
  obtain ⟨y1, hy1⟩ := some_at (xs := xs) (n := n) (by omega)
  obtain ⟨y2, hy2⟩ := some_at (xs := ys) (n := n) (by omega)
  refine gd 14 25 [[], [], [.x (strT y1)], [], [], [], [.x (strT y2)], [], []] ?_
  conv => whnf
  refine ⟨⟨I, I, ⟨(by omega), ixl (by assumption)⟩, I, I, I, ⟨(by omega), ixl (by assumption)⟩, I, I, I⟩, by kernel_rfl, ?_⟩
  refine W.cn ?_
  conv => whnf
  refine ⟨fun h3 => ?_, fun h3 => ?_⟩
  replace h3 := ndt h3
  refine g 25 26 [] ?_
  conv => whnf
  refine ⟨⟨I, I⟩, ?_⟩
  refine W.ret ?_
  refine EndsW.rt ?_
  conv => whnf
  refine ⟨⟨I, I, I⟩, ?_, rfl⟩
  rotate_left 1
  replace h3 := ndf h3
  refine W.skip ?_
  refine rg [.i ((↑n : Int) + (1 : Int))] ?_
  conv => whnf
  refine ⟨⟨I, w64 (by omega) (by omega), I, I⟩, ?_⟩
  rotate_left 1
  replace h2 := df h2
  simp only [List.length_map] at h2
  refine W.exit ?_
  refine g 0 2 [] ?_
  conv => whnf
  refine ⟨⟨I, I⟩, ?_⟩
  refine W.ret ?_
  refine EndsW.rt ?_
  conv => whnf
  refine ⟨⟨I, I, I⟩, ?_, rfl⟩
  rotate_left 1
  · exact vbf (fun e => by subst e; rw [hy1] at hy2; cases hy2; exact h3 rfl)
  · refine ⟨n + 1, [], [], ⟨rfl, ⟨rfl, rfl, rfl, I⟩, I, I⟩, ?_, ?_⟩
    rotate_left 1
    (dsimp only; omega)
    dsimp only
    exact ⟨by omega, by rw [List.take_add_one, List.take_add_one, hy1, hy2, hc, h3]⟩
  · exact vbt (by rw [List.take_of_length_le (by omega), List.take_of_length_le (by omega)] at hc; exact hc)
end Go.K

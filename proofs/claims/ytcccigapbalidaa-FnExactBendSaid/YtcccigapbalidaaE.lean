/- Contracts of functions of the program: what each call answers. -/
import Derived.Test.YtcccigapbalidaaD
set_option linter.unusedVariables false
set_option linter.unusedSimpArgs false
set_option maxHeartbeats 4000000
set_option maxRecDepth 20000
open Go Go.Tm Go.Proofs
namespace Go.K
abbrev strT (s : ByteArray) : List T := [.s s]
abbrev strs (xs : List ByteArray) : T := .slc [false] (xs.map strT)
theorem c_laws_szStringS (xs : List ByteArray) (left : Int) (hl : xs.length ≤ 9223372036854775807) (hs : ∀ s ∈ xs, s.size ≤ 9223372036854775807) (h : left ≤ 1048576) (h0 : 0 ≤ left) :
    Tm.Fn Try.prog n_laws_szStringS [.val (.t (strs xs)), .val (.i left)] (.i (if left - xs.length - totS xs < 0 then -1 else left - xs.length - totS xs)) [[], []] := by
  have hnn := totS_nn xs
  refine i_laws_szStringS (by simp) (by simp [Clo, aCells, cellsOf, closedCell]) rfl ?_
  refine Run.seqk ?_
  refine Run.reg C_ok [] ?_
  conv => whnf
  refine ⟨⟨I, I⟩, ?_⟩
  refine Run.seqk ?_
  refine Run.reg C_ok [.i (left - (↑(List.length (List.map strT xs)) : Int))] ?_
  conv => whnf
  refine ⟨⟨I, I, I, w64 (by simp only [List.length_map, List.length_append, List.length_set, List.length_replicate, List.length_cons, List.length_nil, List.length_take, List.length_drop, fill_len]; omega) (by simp only [List.length_map, List.length_append, List.length_set, List.length_replicate, List.length_cons, List.length_nil, List.length_take, List.length_drop, fill_len]; omega), I, I⟩, ?_⟩
  refine Run.seqk ?_
  refine Run.seqk ?_
  refine Run.reg C_ok [] ?_
  conv => whnf
  refine ⟨⟨I, I, I⟩, ?_⟩
  refine Run.cnd ?_
  conv => whnf
  refine ⟨fun h1 => ?_, fun h1 => ?_⟩
  replace h1 := dt h1
  simp only [List.length_map] at h1
  refine Run.seqk ?_
  refine Run.reg C_ok [] ?_
  conv => whnf
  refine ⟨⟨I, I⟩, ?_⟩
  refine Run.ret ?_
  refine Ends.rt [] ?_
  conv => whnf
  refine ⟨⟨I, I, I⟩, ?_, rfl⟩
  show V.t (T.v (Value.int IntKind.i64 (-1 : Int))) = _
  exact vi (by omega)
  replace h1 := df h1
  simp only [List.length_map] at h1
  refine Run.skip ?_
  refine Run.seqk ?_
  refine Run.seqk ?_
  refine Run.reg C_ok [] ?_
  conv => whnf
  refine ⟨⟨I, I⟩, ?_⟩
  refine Run.block ?_
  refine Run.loopI (fun s (n : Nat) => ⟨[(0, s.sl 0), (1, .i (left - xs.length - totS (xs.take n))), (5, .i n)], [], []⟩) (fun (n : Nat) => n ≤ xs.length ∧ 0 ≤ left - xs.length - totS (xs.take n)) (fun (n : Nat) => xs.length - n) (0) [] [] ⟨rfl, ⟨rfl, (congrArg (fun z => V.t (T.v (Value.int _ z))) (by simp [totS])), rfl, I⟩, I, I⟩ ?_ ?_
  · simp [totS]; omega
  rintro n ⟨hn, hc⟩
  have hq := totS_nn (xs.take n)
  have hle := totS_le xs (n + 1)
  refine Run.seqk ?_
  refine Run.seqk ?_
  refine Run.reg C_ok [] ?_
  conv => whnf
  refine ⟨⟨I, I, I, I, I⟩, ?_⟩
  refine Run.cnd ?_
  conv => whnf
  refine ⟨fun h2 => ?_, fun h2 => ?_⟩
  replace h2 := dt h2
  simp only [List.length_map] at h2
  refine Run.skip ?_
  refine Run.seqk ?_
  refine Run.block ?_
  refine Run.seqk ?_
  obtain ⟨y1, hy1⟩ := some_at (xs := xs) (n := n) (by omega)
  have hm1 := hs y1 (List.mem_of_getElem? hy1)
  have hk1 := totS_take hy1
  refine Run.reg C_ok [.x (strT y1), .i (left - (↑(List.length xs) : Int) - totS (List.take n xs) - (↑(ByteArray.size y1) : Int))] ?_
  conv => whnf
  refine ⟨⟨I, I, I, ⟨(by omega), ixl (by assumption)⟩, I, I, w64 (by omega) (by omega), I, I⟩, ?_⟩
  refine Run.seqk ?_
  refine Run.reg C_ok [] ?_
  conv => whnf
  refine ⟨⟨I, I, I⟩, ?_⟩
  refine Run.cnd ?_
  conv => whnf
  refine ⟨fun h3 => ?_, fun h3 => ?_⟩
  replace h3 := dt h3
  refine Run.seqk ?_
  refine Run.reg C_ok [] ?_
  conv => whnf
  refine ⟨⟨I, I⟩, ?_⟩
  refine Run.ret ?_
  refine Ends.rt [] ?_
  conv => whnf
  refine ⟨⟨I, I, I⟩, ?_, rfl⟩
  show V.t (T.v (Value.int IntKind.i64 (-1 : Int))) = _
  exact vi (by omega)
  replace h3 := df h3
  refine Run.skip ?_
  refine Run.reg C_ok [.i ((↑n : Int) + (1 : Int))] ?_
  conv => whnf
  refine ⟨⟨I, w64 (by omega) (by omega), I, I⟩, ?_⟩
  rotate_left 1
  replace h2 := df h2
  simp only [List.length_map] at h2
  refine Run.exit ?_
  refine Run.seqk ?_
  refine Run.reg C_ok [] ?_
  conv => whnf
  refine ⟨⟨I, I, I⟩, ?_⟩
  refine Run.ret ?_
  refine Ends.rt [] ?_
  conv => whnf
  refine ⟨⟨I, I, I⟩, ?_, rfl⟩
  show V.t (T.v (Value.int IntKind.i64 (left - (↑(List.length xs) : Int) - totS (List.take n xs)))) = _
  rotate_left 1
  · refine ⟨n + 1, [], [], ⟨rfl, ⟨rfl, (congrArg (fun z => V.t (T.v (Value.int _ z))) (by rw [totS_take (by assumption)]; omega)), rfl, I⟩, I, I⟩, ?_, ?_⟩
    rotate_left 1
    (dsimp only; omega)
    dsimp only
    omega
  · have e : xs.take n = xs := List.take_of_length_le (by omega)
    rw [e] at hc ⊢
    exact vi (by split <;> omega)
theorem c_laws_toStringS (xs : List ByteArray) (hl : xs.length ≤ 1048576) : Tm.Fn Try.prog n_laws_toStringS [.val (.t (strs xs))] (.own [false] (xs.map strT)) [[]] := by
  refine i_laws_toStringS (by simp) (by simp [Clo, aCells, cellsOf, closedCell]) rfl ?_
  refine Run.seqk ?_
  refine Run.reg C_ok [] ?_
  conv => whnf
  refine ⟨⟨I, I⟩, ?_⟩
  refine Run.seqk ?_
  refine Run.reg C_ok [.n (List.length (List.map strT xs))] ?_
  conv => whnf
  refine ⟨⟨I, I, ⟨rfl, rfl, (by simp only [List.length_map, List.length_append, List.length_set, List.length_replicate, List.length_cons, List.length_nil, List.length_take, List.length_drop, fill_len]; omega)⟩, I, I⟩, ?_⟩
  refine Run.seqk ?_
  refine Run.seqk ?_
  refine Run.reg C_ok [] ?_
  conv => whnf
  refine ⟨⟨I, I⟩, ?_⟩
  refine Run.block ?_
  refine Run.loopI (fun s (n : Nat) => ⟨[(0, s.sl 0), (3, s.sl 3), (4, .i n)], [(7, [.own [false] (fill strT (strT emp) xs n)])], []⟩) (fun (n : Nat) => n ≤ xs.length) (fun (n : Nat) => xs.length - n) (0) [some 7] [] ⟨rfl, ⟨rfl, rfl, rfl, I⟩, ⟨⟨rfl, ⟨(congrArg (V.own _) (fill_zero' (by simp) rfl)), I⟩⟩, I⟩, I⟩ (by omega) ?_
  intro n hn
  refine Run.seqk ?_
  refine Run.seqk ?_
  refine Run.reg C_ok [] ?_
  conv => whnf
  refine ⟨⟨I, I, I, I, I⟩, ?_⟩
  refine Run.cnd ?_
  conv => whnf
  refine ⟨fun h1 => ?_, fun h1 => ?_⟩
  replace h1 := dt h1
  simp only [List.length_map] at h1
  refine Run.skip ?_
  refine Run.seqk ?_
  refine Run.block ?_
  obtain ⟨y1, hy1⟩ := some_at (xs := xs) (n := n) (by omega)
  refine Run.reg C_ok [.x (strT y1), .n (n), .x (strT emp)] ?_
  conv => whnf
  refine ⟨⟨I, I, I, I, ⟨(by omega), ixl (by assumption)⟩, I, ⟨rfl, (by simp only [List.length_map, List.length_append, List.length_set, List.length_replicate, List.length_cons, List.length_nil, List.length_take, List.length_drop, fill_len]; omega)⟩, ⟨⟨I, I⟩, fill_get (by omega)⟩, I⟩, ?_⟩
  refine Run.reg C_ok [.i ((↑n : Int) + (1 : Int))] ?_
  conv => whnf
  refine ⟨⟨I, w64 (by omega) (by omega), I, I⟩, ?_⟩
  rotate_left 1
  replace h1 := df h1
  simp only [List.length_map] at h1
  refine Run.exit ?_
  refine Run.seqk ?_
  refine Run.reg C_ok [] ?_
  conv => whnf
  refine ⟨⟨I, I, I⟩, ?_⟩
  refine Run.ret ?_
  refine Ends.rt [] ?_
  conv => whnf
  refine ⟨⟨I, I, I⟩, ?_, rfl⟩
  show V.own [false] (fill strT (strT emp) xs n) = _
  rotate_left 1
  · refine ⟨n + 1, [some 7], [], ⟨rfl, ⟨rfl, rfl, rfl, I⟩, ⟨⟨rfl, ⟨(congrArg (V.own _) (fill_set (by assumption))), I⟩⟩, I⟩, I⟩, ?_, ?_⟩
    rotate_left 1
    (dsimp only; omega)
    dsimp only
    omega
  · have e : fill strT (strT emp) xs n = xs.map strT := fill_all _ _ _ (by omega)
    rw [← e]
theorem c_laws_eqStringS (xs ys : List ByteArray) (hl : xs.length ≤ 9223372036854775806) : Tm.Fn Try.prog n_laws_eqStringS [.val (.t (strs xs)), .val (.t (strs ys))] (.b (decide (xs = ys))) [[], []] := by
  refine i_laws_eqStringS (by simp) (by simp [Clo, aCells, cellsOf, closedCell]) rfl ?_
  refine Run.seqk ?_
  refine Run.reg C_ok [] ?_
  conv => whnf
  refine ⟨⟨I, I⟩, ?_⟩
  refine Run.seqk ?_
  refine Run.seqk ?_
  refine Run.reg C_ok [] ?_
  conv => whnf
  refine ⟨⟨I, I, I, I, I, I⟩, ?_⟩
  refine Run.cnd ?_
  conv => whnf
  refine ⟨fun h1 => ?_, fun h1 => ?_⟩
  replace h1 := ndt h1
  simp only [List.length_map] at h1
  refine Run.seqk ?_
  refine Run.reg C_ok [] ?_
  conv => whnf
  refine ⟨⟨I, I⟩, ?_⟩
  refine Run.ret ?_
  refine Ends.rt [] ?_
  conv => whnf
  refine ⟨⟨I, I, I⟩, ?_, rfl⟩
  show V.t (T.v (Value.bool false)) = _
  rotate_left 1
  replace h1 := ndf h1
  simp only [List.length_map] at h1
  refine Run.skip ?_
  refine Run.seqk ?_
  refine Run.seqk ?_
  refine Run.reg C_ok [] ?_
  conv => whnf
  refine ⟨⟨I, I⟩, ?_⟩
  refine Run.block ?_
  rotate_left 1
  · exact vbf (fun e => h1 (by rw [e]))
  refine Run.loopI (fun s (n : Nat) => ⟨[(0, s.sl 0), (1, s.sl 1), (5, .i n)], [], []⟩) (fun (n : Nat) => n ≤ xs.length ∧ xs.take n = ys.take n) (fun (n : Nat) => xs.length - n) (0) [] [] ⟨rfl, ⟨rfl, rfl, rfl, I⟩, I, I⟩ (by simp) ?_
  rintro n ⟨hn, hc⟩
  refine Run.seqk ?_
  refine Run.seqk ?_
  refine Run.reg C_ok [] ?_
  conv => whnf
  refine ⟨⟨I, I, I, I, I⟩, ?_⟩
  refine Run.cnd ?_
  conv => whnf
  refine ⟨fun h2 => ?_, fun h2 => ?_⟩
  replace h2 := dt h2
  simp only [List.length_map] at h2
  refine Run.skip ?_
  refine Run.seqk ?_
  refine Run.block ?_
  refine Run.seqk ?_
  obtain ⟨y1, hy1⟩ := some_at (xs := xs) (n := n) (by omega)
  obtain ⟨y2, hy2⟩ := some_at (xs := ys) (n := n) (by omega)
  refine Run.regE C_ok (by kernel_rfl) [[], [], [.x (strT y1)], [], [], [], [.x (strT y2)], [], []] ?_
  conv => whnf
  refine ⟨⟨I, I, ⟨(by omega), ixl (by assumption)⟩, I, I, I, ⟨(by omega), ixl (by assumption)⟩, I, I, I⟩, by kernel_rfl, ?_⟩
  refine Run.cnd ?_
  conv => whnf
  refine ⟨fun h3 => ?_, fun h3 => ?_⟩
  replace h3 := ndt h3
  refine Run.seqk ?_
  refine Run.reg C_ok [] ?_
  conv => whnf
  refine ⟨⟨I, I⟩, ?_⟩
  refine Run.ret ?_
  refine Ends.rt [] ?_
  conv => whnf
  refine ⟨⟨I, I, I⟩, ?_, rfl⟩
  show V.t (T.v (Value.bool false)) = _
  rotate_left 1
  replace h3 := ndf h3
  refine Run.skip ?_
  refine Run.reg C_ok [.i ((↑n : Int) + (1 : Int))] ?_
  conv => whnf
  refine ⟨⟨I, w64 (by omega) (by omega), I, I⟩, ?_⟩
  rotate_left 1
  replace h2 := df h2
  simp only [List.length_map] at h2
  refine Run.exit ?_
  refine Run.seqk ?_
  refine Run.reg C_ok [] ?_
  conv => whnf
  refine ⟨⟨I, I⟩, ?_⟩
  refine Run.ret ?_
  refine Ends.rt [] ?_
  conv => whnf
  refine ⟨⟨I, I, I⟩, ?_, rfl⟩
  show V.t (T.v (Value.bool true)) = _
  rotate_left 1
  · exact vbf (fun e => by subst e; rw [hy1] at hy2; cases hy2; exact h3 rfl)
  · refine ⟨n + 1, [], [], ⟨rfl, ⟨rfl, rfl, rfl, I⟩, I, I⟩, ?_, ?_⟩
    rotate_left 1
    (dsimp only; omega)
    dsimp only
    exact ⟨by omega, by rw [List.take_add_one, List.take_add_one, hy1, hy2, hc, h3]⟩
  · exact vbt (by rw [List.take_of_length_le (by omega), List.take_of_length_le (by omega)] at hc; exact hc)
end Go.K

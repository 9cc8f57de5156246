/- Contracts of functions of the program: what each call answers. -/
import Derived.Test.YtglgidpbcnngdaaPartd
section
set_option linter.unusedVariables false
set_option linter.unusedSimpArgs false
set_option maxHeartbeats 4000000
set_option maxRecDepth 20000
open Go Go.Tm Go.Proofs
namespace Go.K
def messageC (x : Message) : Int := 7 + (x.inputs.length : Int)
theorem messageC_eq (x : Message) : messageC x = 7 + (x.inputs.length : Int) := rfl
theorem messageC_nn (x : Message) : 0 ≤ messageC x := by
  simp only [messageC]; omega
def messageMk (k : Int) (x : Message) : Message := ⟨k, k + 1, k + 1 + 1, k + 1 + 1 + 1, k + 1 + 1 + 1 + 1, k + 1 + 1 + 1 + 1 + 1, markT (k + 1 + 1 + 1 + 1 + 1 + 1), mkL (fun k _ => markT k) (fun _ => 1) (k + 1 + 1 + 1 + 1 + 1 + 1 + 1) x.inputs⟩
theorem c_laws_szMessageS (xs : List Message) (left : Int) (hl : xs.length ≤ 9223372036854775807) (hs : ∀ y ∈ xs, messageWf y) (h : left ≤ 1048576) (h0 : 0 ≤ left) : F n_laws_szMessageS [.val (.t (.slc messageK (xs.map messageT))), .val (.i left)] (.i (if left - (xs.length + sumI messageSz xs) < 0 then -1 else left - (xs.length + sumI messageSz xs))) [[], []] := by
  have hnn := sum_nn messageSz_nn xs
  refine i_laws_szMessageS ?_
  conv => whnf
  refine g 0 0 [] ?_
  conv => whnf
  refine ⟨⟨I, I⟩, ?_⟩
  refine g 6 10 [.i (left - (↑(List.length (List.map messageT xs)) : Int))] ?_
  conv => whnf
  refine ⟨⟨I, I, I, w64 (by simp only [List.length_map, List.length_append, List.length_set, List.length_replicate, List.length_cons, List.length_nil, List.length_take, List.length_drop, fill_len, fillI_len, List.length_range, bytesT_len]; omega) (by simp only [List.length_map, List.length_append, List.length_set, List.length_replicate, List.length_cons, List.length_nil, List.length_take, List.length_drop, fill_len, fillI_len, List.length_range, bytesT_len]; omega), I, I⟩, ?_⟩
  refine W.sq ?_
  refine g 10 11 [] ?_
  conv => whnf
  refine ⟨⟨I, I, I⟩, ?_⟩
  refine W.cn ?_
  conv => whnf
  refine ⟨fun h1 => ?_, fun h1 => ?_⟩
  replace h1 := dt h1
  simp only [List.length_map] at h1
  refine g 11 12 [] ?_
  conv => whnf
  refine ⟨⟨I, I⟩, ?_⟩
  refine W.ret ?_
  refine EndsW.rt ?_
  conv => whnf
  refine ⟨⟨I, I, I⟩, ?_, rfl⟩
  exact vi (by omega)
  replace h1 := df h1
  simp only [List.length_map] at h1
  refine W.skip ?_
  refine W.sq ?_
  refine g 11 12 [] ?_
  conv => whnf
  refine ⟨⟨I, I⟩, ?_⟩
  refine W.blk ?_
  refine W.lp (fun s (n : Nat) => ⟨[(0, s.s 0), (1, .i (left - xs.length - sumI messageSz (xs.take n))), (5, .i n)], [], []⟩) (fun (n : Nat) => n ≤ xs.length ∧ 0 ≤ left - xs.length - sumI messageSz (xs.take n)) (fun (n : Nat) => xs.length - n) (0) [] [] ⟨rfl, ⟨rfl, (congrArg (fun z => V.t (T.v (Value.int _ z))) (by simp [sumI])), rfl, I⟩, I, I⟩ ?_ ?_
  · simp [sumI]; omega
  rintro n ⟨hn, hc⟩
  have hq := sum_nn messageSz_nn (xs.take n)
  have hle := sum_le messageSz_nn xs (n + 1)
  conv => whnf
  refine W.sq ?_
  refine g 12 15 [] ?_
  conv => whnf
  refine ⟨⟨I, I, I, I, I⟩, ?_⟩
  refine W.cn ?_
  conv => whnf
  refine ⟨fun h2 => ?_, fun h2 => ?_⟩
  replace h2 := dt h2
  simp only [List.length_map] at h2
  refine W.skip ?_
  refine W.sq ?_
  refine W.blk ?_
  obtain ⟨y1, hy1⟩ := some_at (xs := xs) (n := n) (by omega)
  have hm1 := hs y1 (List.mem_of_getElem? hy1)
  have hk1 := sum_take (f := messageSz) hy1
  have hk2 := messageSz_nn y1
  refine g 15 24 [.x (messageT y1), .call (V.i (if left - (↑(List.length xs) : Int) - sumI messageSz (List.take n xs) - messageSz y1 < (0 : Int) then (-1 : Int) else left - (↑(List.length xs) : Int) - sumI messageSz (List.take n xs) - messageSz y1)) ([[], []])] ?_
  conv => whnf
  refine ⟨⟨I, I, ⟨(by omega), ixl (by assumption)⟩, I, I, ⟨⟨I, I, I⟩, I, ⟨⟨I, I, I, I, I, I, I, I, I⟩, ⟨I, I⟩, I⟩, ⟨I, I⟩, Go.K.c_laws_szMessage _ _ (by omega) (by omega) (by omega)⟩, I, I⟩, ?_⟩
  refine g 24 25 [] ?_
  conv => whnf
  refine ⟨⟨I, I, I⟩, ?_⟩
  refine W.cn ?_
  conv => whnf
  refine ⟨fun h3 => ?_, fun h3 => ?_⟩
  replace h3 := dt h3
  refine g 25 26 [] ?_
  conv => whnf
  refine ⟨⟨I, I⟩, ?_⟩
  refine W.ret ?_
  refine EndsW.rt ?_
  conv => whnf
  refine ⟨⟨I, I, I⟩, ?_, rfl⟩
  exact vi (by omega)
  replace h3 := df h3
  refine W.skip ?_
  refine rg [.i ((↑n : Int) + (1 : Int))] ?_
  conv => whnf
  refine ⟨⟨I, w64 (by omega) (by omega), I, I⟩, ?_⟩
  rotate_left 1
  replace h2 := df h2
  simp only [List.length_map] at h2
  refine W.exit ?_
  refine g 5 27 [] ?_
  conv => whnf
  refine ⟨⟨I, I, I⟩, ?_⟩
  refine W.ret ?_
  refine EndsW.rt ?_
  conv => whnf
  refine ⟨⟨I, I, I⟩, ?_, rfl⟩
  rotate_left 1
  · refine ⟨n + 1, [], [], ⟨rfl, ⟨rfl, (congrArg (fun z => V.t (T.v (Value.int _ z))) (by rw [sum_take (by assumption)]; omega)), rfl, I⟩, I, I⟩, ?_, ?_⟩
    rotate_left 1
    (dsimp only; omega)
    dsimp only
    omega
  · have e : xs.take n = xs := take_all (by omega)
    rw [e] at hc ⊢
    exact vi (by split <;> omega)
theorem c_laws_toMessageS (xs : List Message) (h : (xs.length : Int) + sumI messageSz xs ≤ 1048576) : F n_laws_toMessageS [.val (.t (.slc messageK (xs.map messageT)))] (.own messageK (xs.map messageT)) [[]] := by
  have hnn := sum_nn messageSz_nn xs
  refine i_laws_toMessageS ?_
  conv => whnf
  refine g 0 0 [] ?_
  conv => whnf
  refine ⟨⟨I, I⟩, ?_⟩
  refine g 5 8 [.n (List.length (List.map messageT xs))] ?_
  conv => whnf
  refine ⟨⟨I, I, ⟨rfl, rfl, (by simp only [List.length_map, List.length_append, List.length_set, List.length_replicate, List.length_cons, List.length_nil, List.length_take, List.length_drop, fill_len, fillI_len, List.length_range, bytesT_len]; omega)⟩, I, I⟩, ?_⟩
  refine W.sq ?_
  refine g 0 0 [] ?_
  conv => whnf
  refine ⟨⟨I, I⟩, ?_⟩
  refine W.blk ?_
  refine W.lp (fun s (n : Nat) => ⟨[(0, s.s 0), (2, s.s 2), (3, s.s 3), (4, .i n)], [(7, [.own messageK (fill messageT (messageT noMessage) xs n)])], []⟩) (fun (n : Nat) => n ≤ xs.length) (fun (n : Nat) => xs.length - n) (0) [some 7] [] ⟨rfl, ⟨rfl, rfl, rfl, rfl, I⟩, ⟨⟨rfl, ⟨(congrArg (V.own _) (fill_zero' (by simp) rfl)), I⟩⟩, I⟩, I⟩ (by omega) ?_
  intro n hn
  conv => whnf
  refine W.sq ?_
  refine g 8 11 [] ?_
  conv => whnf
  refine ⟨⟨I, I, I, I, I⟩, ?_⟩
  refine W.cn ?_
  conv => whnf
  refine ⟨fun h1 => ?_, fun h1 => ?_⟩
  replace h1 := dt h1
  simp only [List.length_map] at h1
  refine W.skip ?_
  refine W.sq ?_
  refine W.blk ?_
  obtain ⟨y1, hy1⟩ := some_at (xs := xs) (n := n) (by omega)
  have hk1 := sum_mem messageSz_nn (List.mem_of_getElem? hy1)
  refine rg [.x (messageT y1), .call (messageO y1) ([[]]), .n (n), .x (messageT noMessage)] ?_
  conv => whnf
  refine ⟨⟨I, I, I, I, ⟨(by omega), ixl (by assumption)⟩, I, ⟨⟨I, I⟩, I, ⟨⟨I, I, I, I, I, I, I, I, I⟩, I⟩, ⟨I, I⟩, Go.K.c_laws_toMessage _ (by omega)⟩, ⟨rfl, (by simp only [List.length_map, List.length_append, List.length_set, List.length_replicate, List.length_cons, List.length_nil, List.length_take, List.length_drop, fill_len, fillI_len, List.length_range, bytesT_len]; omega)⟩, ⟨⟨I, I, I, I, I, I, I, I, I⟩, fill_get (by omega)⟩, I⟩, ?_⟩
  refine rg [.i ((↑n : Int) + (1 : Int))] ?_
  conv => whnf
  refine ⟨⟨I, w64 (by omega) (by omega), I, I⟩, ?_⟩
  rotate_left 1
  replace h1 := df h1
  simp only [List.length_map] at h1
  refine W.exit ?_
  refine g 3 23 [] ?_
  conv => whnf
  refine ⟨⟨I, I, I⟩, ?_⟩
  refine W.ret ?_
  refine EndsW.rt ?_
  conv => whnf
  refine ⟨⟨I, I, I⟩, ?_, rfl⟩
  rotate_left 1
  · refine ⟨n + 1, [some 7], [], ⟨rfl, ⟨rfl, rfl, rfl, rfl, I⟩, ⟨⟨rfl, ⟨(congrArg (V.own _) (fill_set (by assumption))), I⟩⟩, I⟩, I⟩, ?_, ?_⟩
    rotate_left 1
    (dsimp only; omega)
    dsimp only
    omega
  · have e : fill messageT (messageT noMessage) xs n = xs.map messageT := fill_all _ _ _ (by omega)
    rw [← e]
theorem c_laws_eqMessageS (xs ys : List Message) (hl : xs.length ≤ 9223372036854775806) (hs : ∀ y ∈ xs, messageLen y) : F n_laws_eqMessageS [.val (.t (.slc messageK (xs.map messageT))), .val (.t (.slc messageK (ys.map messageT)))] (.b (decide (xs = ys))) [[], []] := by
  refine i_laws_eqMessageS ?_
  conv => whnf
  refine g 0 0 [] ?_
  conv => whnf
  refine ⟨⟨I, I⟩, ?_⟩
  refine W.sq ?_
  refine g 6 10 [] ?_
  conv => whnf
  refine ⟨⟨I, I, I, I, I, I⟩, ?_⟩
  refine W.cn ?_
  conv => whnf
  refine ⟨fun h1 => ?_, fun h1 => ?_⟩
  replace h1 := ndt h1
  simp only [List.length_map] at h1
  refine g 10 11 [] ?_
  conv => whnf
  refine ⟨⟨I, I⟩, ?_⟩
  refine W.ret ?_
  refine EndsW.rt ?_
  conv => whnf
  refine ⟨⟨I, I, I⟩, ?_, rfl⟩
  rotate_left 1
  replace h1 := ndf h1
  simp only [List.length_map] at h1
  refine W.skip ?_
  refine W.sq ?_
  refine g 10 11 [] ?_
  conv => whnf
  refine ⟨⟨I, I⟩, ?_⟩
  refine W.blk ?_
  rotate_left 1
  · exact vbf (fun e => h1 (by rw [e]))
  refine W.lp (fun s (n : Nat) => ⟨[(0, s.s 0), (1, s.s 1), (5, .i n)], [], []⟩) (fun (n : Nat) => n ≤ xs.length ∧ xs.take n = ys.take n) (fun (n : Nat) => xs.length - n) (0) [] [] ⟨rfl, ⟨rfl, rfl, rfl, I⟩, I, I⟩ (by simp) ?_
  rintro n ⟨hn, hc⟩
  conv => whnf
  refine W.sq ?_
  refine g 11 14 [] ?_
  conv => whnf
  refine ⟨⟨I, I, I, I, I⟩, ?_⟩
  refine W.cn ?_
  conv => whnf
  refine ⟨fun h2 => ?_, fun h2 => ?_⟩
  replace h2 := dt h2
  simp only [List.length_map] at h2
  refine W.skip ?_
  refine W.sq ?_
  refine W.blk ?_
  obtain ⟨y1, hy1⟩ := some_at (xs := xs) (n := n) (by omega)
  have hm1 := hs y1 (List.mem_of_getElem? hy1)
  obtain ⟨y2, hy2⟩ := some_at (xs := ys) (n := n) (by omega)
  refine gd 14 26 [[], [], [.x (messageT y1)], [], [], [], [.x (messageT y2)], [], [.call (V.b (decide (y1 = y2))) ([[], []])], []] ?_
  conv => whnf
  refine ⟨⟨I, I, ⟨(by omega), ixl (by assumption)⟩, I, I, I, ⟨(by omega), ixl (by assumption)⟩, I, ⟨⟨I, I, I⟩, I, ⟨⟨I, I, I, I, I, I, I, I, I⟩, ⟨I, I, I, I, I, I, I, I, I⟩, I⟩, ⟨I, I⟩, Go.K.c_laws_eqMessage _ _ (by omega)⟩, I, I⟩, by kernel_rfl, ?_⟩
  refine W.cn ?_
  conv => whnf
  refine ⟨fun h3 => ?_, fun h3 => ?_⟩
  replace h3 := ndt h3
  refine g 26 27 [] ?_
  conv => whnf
  refine ⟨⟨I, I⟩, ?_⟩
  refine W.ret ?_
  refine EndsW.rt ?_
  conv => whnf
  refine ⟨⟨I, I, I⟩, ?_, rfl⟩
  rotate_left 1
  replace h3 := ndf h3
  refine W.skip ?_
  refine rg [.i ((↑n : Int) + (1 : Int))] ?_
  conv => whnf
  refine ⟨⟨I, w64 (by omega) (by omega), I, I⟩, ?_⟩
  rotate_left 1
  replace h2 := df h2
  simp only [List.length_map] at h2
  refine W.exit ?_
  refine g 0 2 [] ?_
  conv => whnf
  refine ⟨⟨I, I⟩, ?_⟩
  refine W.ret ?_
  refine EndsW.rt ?_
  conv => whnf
  refine ⟨⟨I, I, I⟩, ?_, rfl⟩
  rotate_left 1
  · exact vbf (fun e => by subst e; rw [hy1] at hy2; cases hy2; exact h3 rfl)
  · refine ⟨n + 1, [], [], ⟨rfl, ⟨rfl, rfl, rfl, I⟩, I, I⟩, ?_, ?_⟩
    rotate_left 1
    (dsimp only; omega)
    dsimp only
    exact ⟨by omega, take_eq hc hy1 (by rw [hy2]; exact congrArg some (Eq.symm h3))⟩
  · exact vbt (by rw [take_all (by omega), take_all (by omega)] at hc; exact hc)
theorem c_laws_markMessageS (xs : List Message) (k : Int) (hl : xs.length ≤ 9223372036854775806) (h0 : 0 ≤ k) (hk : k + sumI messageC xs ≤ 1099511627776) : F n_laws_markMessageS [.bor (.own messageK (xs.map messageT)), .val (.i k)] (.i (k + sumI messageC xs)) [[.own messageK ((mkL messageMk messageC k xs).map messageT)], []] := by
  refine i_laws_markMessageS ?_
  conv => whnf
  refine g 0 0 [] ?_
  conv => whnf
  refine ⟨⟨I, I⟩, ?_⟩
  refine W.sq ?_
  refine g 0 0 [] ?_
  conv => whnf
  refine ⟨⟨I, I⟩, ?_⟩
  refine W.blk ?_
  refine W.lp (fun s (n : Nat) => ⟨[(0, s.s 0), (1, .i (k + sumI messageC (xs.take n))), (4, s.s 4), (5, .i n)], [(70, [.own messageK ((mkN messageMk messageC k xs n).map messageT)])], []⟩) (fun (n : Nat) => n ≤ xs.length) (fun (n : Nat) => xs.length - n) (0) [some 70] [] ⟨rfl, ⟨rfl, (congrArg (fun z => V.t (T.v (Value.int _ z))) (by simp [sumI])), rfl, rfl, I⟩, ⟨⟨rfl, ⟨rfl, I⟩⟩, I⟩, I⟩ (by omega) ?_
  intro n hn
  have hx := mkN_len messageMk messageC k xs n
  have hq := sum_nn messageC_nn (xs.take n)
  have hle := sum_le messageC_nn xs (n + 1)
  have hle0 := sum_le messageC_nn xs n
  conv => whnf
  refine W.sq ?_
  refine g 6 9 [] ?_
  conv => whnf
  refine ⟨⟨I, I, I, I, I⟩, ?_⟩
  refine W.cn ?_
  conv => whnf
  refine ⟨fun h1 => ?_, fun h1 => ?_⟩
  replace h1 := dt h1
  simp only [List.length_map] at h1
  refine W.skip ?_
  refine W.sq ?_
  refine W.blk ?_
  obtain ⟨y1, hy1⟩ := some_at (xs := xs) (n := n) (by omega)
  have hk1 := sum_take (f := messageC) hy1
  have hk2 := messageC_nn y1
  have hk3 := messageC_eq y1
  refine g 9 17 [.n (n), .x (messageT y1)] ?_
  conv => whnf
  refine ⟨⟨I, I, I, ⟨rfl, (by simp only [List.length_map, List.length_append, List.length_set, List.length_replicate, List.length_cons, List.length_nil, List.length_take, List.length_drop, fill_len, fillI_len, List.length_range, bytesT_len]; omega)⟩, I, ⟨⟨I, I⟩, mkN_getm (by assumption)⟩, I⟩, ?_⟩
  refine g 17 19 [.i (k + sumI messageC (List.take n xs) + (1 : Int))] ?_
  conv => whnf
  refine ⟨⟨I, w64 (by omega) (by omega), I, I⟩, ?_⟩
  refine g 19 24 [.n (n), .x (patch (messageT y1) ((0 : Nat) + (0 : Nat)) [T.v (Value.int IntKind.i64 (k + sumI messageC (List.take n xs)))])] ?_
  conv => whnf
  refine ⟨⟨I, I, I, ⟨rfl, (by simp only [List.length_map, List.length_append, List.length_set, List.length_replicate, List.length_cons, List.length_nil, List.length_take, List.length_drop, fill_len, fillI_len, List.length_range, bytesT_len]; omega)⟩, I, ⟨⟨I, I⟩, getset (by simp only [List.length_map, List.length_append, List.length_set, List.length_replicate, List.length_cons, List.length_nil, List.length_take, List.length_drop, fill_len, fillI_len, List.length_range, bytesT_len]; omega)⟩, I⟩, ?_⟩
  rw [List.set_set]
  refine g 24 26 [.i (k + sumI messageC (List.take n xs) + (1 : Int) + (1 : Int))] ?_
  conv => whnf
  refine ⟨⟨I, w64 (by omega) (by omega), I, I⟩, ?_⟩
  refine g 26 31 [.n (n), .x (patch (patch (messageT y1) ((0 : Nat) + (0 : Nat)) [T.v (Value.int IntKind.i64 (k + sumI messageC (List.take n xs)))]) ((0 : Nat) + (1 : Nat)) [T.v (Value.int IntKind.i64 (k + sumI messageC (List.take n xs) + (1 : Int)))])] ?_
  conv => whnf
  refine ⟨⟨I, I, I, ⟨rfl, (by simp only [List.length_map, List.length_append, List.length_set, List.length_replicate, List.length_cons, List.length_nil, List.length_take, List.length_drop, fill_len, fillI_len, List.length_range, bytesT_len]; omega)⟩, I, ⟨⟨I, I⟩, getset (by simp only [List.length_map, List.length_append, List.length_set, List.length_replicate, List.length_cons, List.length_nil, List.length_take, List.length_drop, fill_len, fillI_len, List.length_range, bytesT_len]; omega)⟩, I⟩, ?_⟩
  rw [List.set_set]
  refine g 31 33 [.i (k + sumI messageC (List.take n xs) + (1 : Int) + (1 : Int) + (1 : Int))] ?_
  conv => whnf
  refine ⟨⟨I, w64 (by omega) (by omega), I, I⟩, ?_⟩
  refine g 33 38 [.n (n), .x (patch (patch (patch (messageT y1) ((0 : Nat) + (0 : Nat)) [T.v (Value.int IntKind.i64 (k + sumI messageC (List.take n xs)))]) ((0 : Nat) + (1 : Nat)) [T.v (Value.int IntKind.i64 (k + sumI messageC (List.take n xs) + (1 : Int)))]) ((0 : Nat) + (2 : Nat)) [T.v (Value.int IntKind.i64 (k + sumI messageC (List.take n xs) + (1 : Int) + (1 : Int)))])] ?_
  conv => whnf
  refine ⟨⟨I, I, I, ⟨rfl, (by simp only [List.length_map, List.length_append, List.length_set, List.length_replicate, List.length_cons, List.length_nil, List.length_take, List.length_drop, fill_len, fillI_len, List.length_range, bytesT_len]; omega)⟩, I, ⟨⟨I, I⟩, getset (by simp only [List.length_map, List.length_append, List.length_set, List.length_replicate, List.length_cons, List.length_nil, List.length_take, List.length_drop, fill_len, fillI_len, List.length_range, bytesT_len]; omega)⟩, I⟩, ?_⟩
  rw [List.set_set]
  refine g 38 40 [.i (k + sumI messageC (List.take n xs) + (1 : Int) + (1 : Int) + (1 : Int) + (1 : Int))] ?_
  conv => whnf
  refine ⟨⟨I, w64 (by omega) (by omega), I, I⟩, ?_⟩
  refine g 40 45 [.n (n), .x (patch (patch (patch (patch (messageT y1) ((0 : Nat) + (0 : Nat)) [T.v (Value.int IntKind.i64 (k + sumI messageC (List.take n xs)))]) ((0 : Nat) + (1 : Nat)) [T.v (Value.int IntKind.i64 (k + sumI messageC (List.take n xs) + (1 : Int)))]) ((0 : Nat) + (2 : Nat)) [T.v (Value.int IntKind.i64 (k + sumI messageC (List.take n xs) + (1 : Int) + (1 : Int)))]) ((0 : Nat) + (3 : Nat)) [T.v (Value.int IntKind.i64 (k + sumI messageC (List.take n xs) + (1 : Int) + (1 : Int) + (1 : Int)))])] ?_
  conv => whnf
  refine ⟨⟨I, I, I, ⟨rfl, (by simp only [List.length_map, List.length_append, List.length_set, List.length_replicate, List.length_cons, List.length_nil, List.length_take, List.length_drop, fill_len, fillI_len, List.length_range, bytesT_len]; omega)⟩, I, ⟨⟨I, I⟩, getset (by simp only [List.length_map, List.length_append, List.length_set, List.length_replicate, List.length_cons, List.length_nil, List.length_take, List.length_drop, fill_len, fillI_len, List.length_range, bytesT_len]; omega)⟩, I⟩, ?_⟩
  rw [List.set_set]
  refine g 45 47 [.i (k + sumI messageC (List.take n xs) + (1 : Int) + (1 : Int) + (1 : Int) + (1 : Int) + (1 : Int))] ?_
  conv => whnf
  refine ⟨⟨I, w64 (by omega) (by omega), I, I⟩, ?_⟩
  refine g 47 52 [.n (n), .x (patch (patch (patch (patch (patch (messageT y1) ((0 : Nat) + (0 : Nat)) [T.v (Value.int IntKind.i64 (k + sumI messageC (List.take n xs)))]) ((0 : Nat) + (1 : Nat)) [T.v (Value.int IntKind.i64 (k + sumI messageC (List.take n xs) + (1 : Int)))]) ((0 : Nat) + (2 : Nat)) [T.v (Value.int IntKind.i64 (k + sumI messageC (List.take n xs) + (1 : Int) + (1 : Int)))]) ((0 : Nat) + (3 : Nat)) [T.v (Value.int IntKind.i64 (k + sumI messageC (List.take n xs) + (1 : Int) + (1 : Int) + (1 : Int)))]) ((0 : Nat) + (4 : Nat)) [T.v (Value.int IntKind.i64 (k + sumI messageC (List.take n xs) + (1 : Int) + (1 : Int) + (1 : Int) + (1 : Int)))])] ?_
  conv => whnf
  refine ⟨⟨I, I, I, ⟨rfl, (by simp only [List.length_map, List.length_append, List.length_set, List.length_replicate, List.length_cons, List.length_nil, List.length_take, List.length_drop, fill_len, fillI_len, List.length_range, bytesT_len]; omega)⟩, I, ⟨⟨I, I⟩, getset (by simp only [List.length_map, List.length_append, List.length_set, List.length_replicate, List.length_cons, List.length_nil, List.length_take, List.length_drop, fill_len, fillI_len, List.length_range, bytesT_len]; omega)⟩, I⟩, ?_⟩
  rw [List.set_set]
  refine g 52 54 [.i (k + sumI messageC (List.take n xs) + (1 : Int) + (1 : Int) + (1 : Int) + (1 : Int) + (1 : Int) + (1 : Int))] ?_
  conv => whnf
  refine ⟨⟨I, w64 (by omega) (by omega), I, I⟩, ?_⟩
  refine g 54 60 [.call (V.s (markT (k + sumI messageC (List.take n xs) + (1 : Int) + (1 : Int) + (1 : Int) + (1 : Int) + (1 : Int) + (1 : Int)))) ([[]]), .n (n), .x (patch (patch (patch (patch (patch (patch (messageT y1) ((0 : Nat) + (0 : Nat)) [T.v (Value.int IntKind.i64 (k + sumI messageC (List.take n xs)))]) ((0 : Nat) + (1 : Nat)) [T.v (Value.int IntKind.i64 (k + sumI messageC (List.take n xs) + (1 : Int)))]) ((0 : Nat) + (2 : Nat)) [T.v (Value.int IntKind.i64 (k + sumI messageC (List.take n xs) + (1 : Int) + (1 : Int)))]) ((0 : Nat) + (3 : Nat)) [T.v (Value.int IntKind.i64 (k + sumI messageC (List.take n xs) + (1 : Int) + (1 : Int) + (1 : Int)))]) ((0 : Nat) + (4 : Nat)) [T.v (Value.int IntKind.i64 (k + sumI messageC (List.take n xs) + (1 : Int) + (1 : Int) + (1 : Int) + (1 : Int)))]) ((0 : Nat) + (5 : Nat)) [T.v (Value.int IntKind.i64 (k + sumI messageC (List.take n xs) + (1 : Int) + (1 : Int) + (1 : Int) + (1 : Int) + (1 : Int)))])] ?_
  conv => whnf
  refine ⟨⟨I, I, I, ⟨⟨I, I⟩, I, ⟨⟨I, I⟩, I⟩, ⟨I, I⟩, Go.K.c_laws_markText _ (by omega)⟩, ⟨rfl, (by simp only [List.length_map, List.length_append, List.length_set, List.length_replicate, List.length_cons, List.length_nil, List.length_take, List.length_drop, fill_len, fillI_len, List.length_range, bytesT_len]; omega)⟩, I, ⟨⟨I, I⟩, getset (by simp only [List.length_map, List.length_append, List.length_set, List.length_replicate, List.length_cons, List.length_nil, List.length_take, List.length_drop, fill_len, fillI_len, List.length_range, bytesT_len]; omega)⟩, I⟩, ?_⟩
  rw [List.set_set]
  refine g 60 62 [.i (k + sumI messageC (List.take n xs) + (1 : Int) + (1 : Int) + (1 : Int) + (1 : Int) + (1 : Int) + (1 : Int) + (1 : Int))] ?_
  conv => whnf
  refine ⟨⟨I, w64 (by omega) (by omega), I, I⟩, ?_⟩
  refine rg [.n (n), .x (patch (patch (patch (patch (patch (patch (patch (messageT y1) ((0 : Nat) + (0 : Nat)) [T.v (Value.int IntKind.i64 (k + sumI messageC (List.take n xs)))]) ((0 : Nat) + (1 : Nat)) [T.v (Value.int IntKind.i64 (k + sumI messageC (List.take n xs) + (1 : Int)))]) ((0 : Nat) + (2 : Nat)) [T.v (Value.int IntKind.i64 (k + sumI messageC (List.take n xs) + (1 : Int) + (1 : Int)))]) ((0 : Nat) + (3 : Nat)) [T.v (Value.int IntKind.i64 (k + sumI messageC (List.take n xs) + (1 : Int) + (1 : Int) + (1 : Int)))]) ((0 : Nat) + (4 : Nat)) [T.v (Value.int IntKind.i64 (k + sumI messageC (List.take n xs) + (1 : Int) + (1 : Int) + (1 : Int) + (1 : Int)))]) ((0 : Nat) + (5 : Nat)) [T.v (Value.int IntKind.i64 (k + sumI messageC (List.take n xs) + (1 : Int) + (1 : Int) + (1 : Int) + (1 : Int) + (1 : Int)))]) ((0 : Nat) + (6 : Nat)) [T.v (Value.string (markT (k + sumI messageC (List.take n xs) + (1 : Int) + (1 : Int) + (1 : Int) + (1 : Int) + (1 : Int) + (1 : Int))))]), .x (patch (patch (patch (patch (patch (patch (patch (messageT y1) ((0 : Nat) + (0 : Nat)) [T.v (Value.int IntKind.i64 (k + sumI messageC (List.take n xs)))]) ((0 : Nat) + (1 : Nat)) [T.v (Value.int IntKind.i64 (k + sumI messageC (List.take n xs) + (1 : Int)))]) ((0 : Nat) + (2 : Nat)) [T.v (Value.int IntKind.i64 (k + sumI messageC (List.take n xs) + (1 : Int) + (1 : Int)))]) ((0 : Nat) + (3 : Nat)) [T.v (Value.int IntKind.i64 (k + sumI messageC (List.take n xs) + (1 : Int) + (1 : Int) + (1 : Int)))]) ((0 : Nat) + (4 : Nat)) [T.v (Value.int IntKind.i64 (k + sumI messageC (List.take n xs) + (1 : Int) + (1 : Int) + (1 : Int) + (1 : Int)))]) ((0 : Nat) + (5 : Nat)) [T.v (Value.int IntKind.i64 (k + sumI messageC (List.take n xs) + (1 : Int) + (1 : Int) + (1 : Int) + (1 : Int) + (1 : Int)))]) ((0 : Nat) + (6 : Nat)) [T.v (Value.string (markT (k + sumI messageC (List.take n xs) + (1 : Int) + (1 : Int) + (1 : Int) + (1 : Int) + (1 : Int) + (1 : Int))))]), .call (V.i (k + sumI messageC (List.take n xs) + (1 : Int) + (1 : Int) + (1 : Int) + (1 : Int) + (1 : Int) + (1 : Int) + (1 : Int) + (↑(List.length (Message.inputs y1)) : Int))) ([[V.own [false] (List.map strT (mkL (fun k x => markT k) (fun x => (1 : Int)) (k + sumI messageC (List.take n xs) + (1 : Int) + (1 : Int) + (1 : Int) + (1 : Int) + (1 : Int) + (1 : Int) + (1 : Int)) (Message.inputs y1)))], []]), .x ([T.v (Value.int IntKind.i64 (k + sumI messageC (List.take n xs))), T.v (Value.int IntKind.i64 (k + sumI messageC (List.take n xs) + (1 : Int))), T.v (Value.int IntKind.i64 (k + sumI messageC (List.take n xs) + (1 : Int) + (1 : Int))), T.v (Value.int IntKind.i64 (k + sumI messageC (List.take n xs) + (1 : Int) + (1 : Int) + (1 : Int))), T.v (Value.int IntKind.i64 (k + sumI messageC (List.take n xs) + (1 : Int) + (1 : Int) + (1 : Int) + (1 : Int))), T.v (Value.int IntKind.i64 (k + sumI messageC (List.take n xs) + (1 : Int) + (1 : Int) + (1 : Int) + (1 : Int) + (1 : Int))), T.v (Value.string (markT (k + sumI messageC (List.take n xs) + (1 : Int) + (1 : Int) + (1 : Int) + (1 : Int) + (1 : Int) + (1 : Int)))), T.hole])] ?_
  conv => whnf
  refine ⟨⟨I, I, ⟨rfl, (by simp only [List.length_map, List.length_append, List.length_set, List.length_replicate, List.length_cons, List.length_nil, List.length_take, List.length_drop, fill_len, fillI_len, List.length_range, bytesT_len]; omega)⟩, I, getset (by simp only [List.length_map, List.length_append, List.length_set, List.length_replicate, List.length_cons, List.length_nil, List.length_take, List.length_drop, fill_len, fillI_len, List.length_range, bytesT_len]; omega), I, ⟨⟨⟨getset (by simp only [List.length_map, List.length_append, List.length_set, List.length_replicate, List.length_cons, List.length_nil, List.length_take, List.length_drop, fill_len, fillI_len, List.length_range, bytesT_len]; omega), I⟩, I, I⟩, I, ⟨I, ⟨I, I⟩, I⟩, ⟨⟨getset (by simp only [List.length_map, List.length_append, List.length_set, List.length_replicate, List.length_cons, List.length_nil, List.length_take, List.length_drop, fill_len, fillI_len, List.length_range, bytesT_len]; omega), I⟩, I⟩, Go.K.c_laws_markStringS _ _ (by omega) (by omega) (by omega)⟩, I, I⟩, ?_⟩
  rw [List.set_set]
  rw [List.set_set]
  refine rg [.i ((↑n : Int) + (1 : Int))] ?_
  conv => whnf
  refine ⟨⟨I, w64 (by omega) (by omega), I, I⟩, ?_⟩
  rotate_left 1
  replace h1 := df h1
  simp only [List.length_map] at h1
  refine W.exit ?_
  refine g 5 70 [] ?_
  conv => whnf
  refine ⟨⟨I, I, I⟩, ?_⟩
  refine W.ret ?_
  refine EndsW.rt ?_
  conv => whnf
  refine ⟨⟨I, I, I⟩, ?_, ?_⟩
  rotate_left 1
  rotate_left 1
  · refine ⟨n + 1, [some 70], [], ⟨rfl, ⟨rfl, (congrArg (fun z => V.t (T.v (Value.int _ z))) (by rw [sum_take (by assumption)]; omega)), rfl, rfl, I⟩, ⟨⟨rfl, ⟨(congrArg (V.own _) (mkN_setm (f := messageMk) (c := messageC) (by assumption))), I⟩⟩, I⟩, I⟩, ?_, ?_⟩
    rotate_left 1
    (dsimp only; omega)
    dsimp only
    omega
  · rw [take_all (by omega)]
  · rw [mkN_all messageMk messageC k xs (n := n) (by omega)]
end Go.K

end

section
set_option linter.unusedVariables false
set_option linter.unusedSimpArgs false
set_option maxHeartbeats 4000000
set_option maxRecDepth 20000
open Go Go.Tm Go.Proofs
namespace Go.K
def parcelWf (p : Parcel) : Prop := p.frm.size ≤ 9223372036854775807 ∧ p.text.size ≤ 9223372036854775807
abbrev parcelT (p : Parcel) : List T := parT p
theorem wf_Parcel {n : Nat} {x : List T} (h : wfT E (n + 3) ty_laws_Parcel x) : ∃ v : Parcel, x = parT v ∧ parcelWf v := by
  obtain ⟨y1, z1, e1, ⟨k, rfl, _⟩, y2, z2, e2, ⟨a, rfl, ha⟩, y3, z3, e3, ⟨b, rfl, hb⟩, e4⟩ := h
  subst e4; subst e3; subst e2; subst e1
  exact ⟨⟨k, a, b⟩, rfl, ha, hb⟩
theorem msgs_in {ms : List Message} (h : (ms.length : Int) + sumI messageSz ms ≤ 1048576) : (∀ m ∈ ms, m.inputs.length ≤ 1048576) ∧ (∀ m ∈ ms, messageLen m) ∧ sumI messageC ms ≤ 8388608 := by
  have hn := sum_nn messageSz_nn ms
  have hb : ∀ m ∈ ms, m.inputs.length ≤ 1048576 := fun m hm => by
    have := sum_mem messageSz_nn hm
    have e : messageSz m = (m.text.size : Int) + ((m.inputs.length : Int) + totS m.inputs) := rfl
    have := totS_nn m.inputs
    omega
  refine ⟨hb, fun m hm => by have := hb m hm; unfold messageLen; omega, ?_⟩
  have : ∀ xs : List Message, sumI messageC xs ≤ 7 * xs.length + sumI messageSz xs := by
    intro xs
    induction xs with
    | nil => simp [sumI]
    | cons x xs ih =>
      have := messageC_eq x
      have e : messageSz x = (x.text.size : Int) + ((x.inputs.length : Int) + totS x.inputs) := rfl
      have := totS_nn x.inputs
      simp only [sumI, List.length_cons]; omega
  have := this ms
  omega
theorem l_FnExactPost (xs : List Parcel) (h2 : xs.length ≤ 9223372036854775807) (h3 : ∀ p ∈ xs, parcelWf p) (ms : List Message) (h4 : ms.length ≤ 9223372036854775807) (h5 : ∀ m ∈ ms, messageWf m) (key : ByteArray) (hk : key.size ≤ 9223372036854775807) : F n_laws_FnExactPost [.val (.t (pars xs)), .val (.t (.slc messageK (ms.map messageT))), .val (.s key)] (.b true) [[], [], []] := by
  by_cases h0 : key.size ≤ 1048576
  · have c0 := c_laws_szParcelS xs 1048576 h2 h3 (by omega) (by omega)
    have hnn := totP_nn xs
    have hmm := sum_nn messageSz_nn ms
    by_cases hq : (1048576 : Int) - xs.length - totP xs < 0
    · rw [if_pos hq] at c0
      refine i_laws_FnExactPost ?_
      conv => whnf
      refine g 0 0 [] ?_
      conv => whnf
      refine ⟨⟨I, I⟩, ?_⟩
      refine W.sq ?_
      refine g 16 18 [] ?_
      conv => whnf
      refine ⟨⟨I, I, I, I⟩, ?_⟩
      refine W.cn ?_
      conv => whnf
      refine ⟨noT (decide_eq_false (by omega)), fun _ => ?_⟩
      refine W.skip ?_
      refine g 18 19 [] ?_
      conv => whnf
      refine ⟨⟨I, I⟩, ?_⟩
      refine g 19 22 [.call (V.i (-1 : Int)) ([[], []])] ?_
      conv => whnf
      refine ⟨⟨I, I, ⟨⟨I, I, I⟩, I, ⟨⟨I, I⟩, ⟨I, I⟩, I⟩, ⟨I, I⟩, (by assumption)⟩, I, I⟩, ?_⟩
      refine W.sq ?_
      refine g 22 23 [] ?_
      conv => whnf
      refine ⟨⟨I, I, I⟩, ?_⟩
      refine W.cn ?_
      conv => whnf
      refine ⟨fun _ => ?_, noF (rfl)⟩
      refine g 23 24 [] ?_
      conv => whnf
      refine ⟨⟨I, I⟩, ?_⟩
      refine W.ret ?_
      refine EndsW.rt ?_
      conv => whnf
      refine ⟨⟨I, I, I⟩, ?_, rfl⟩
      rfl
    · rw [if_neg hq] at c0
      have c9 := c_laws_szMessageS ms (1048576 - xs.length - totP xs) h4 h5 (by omega) (by omega)
      by_cases hq2 : (1048576 : Int) - xs.length - totP xs - (ms.length + sumI messageSz ms) < 0
      · rw [if_pos hq2] at c9
        refine i_laws_FnExactPost ?_
        conv => whnf
        refine g 0 0 [] ?_
        conv => whnf
        refine ⟨⟨I, I⟩, ?_⟩
        refine W.sq ?_
        refine g 16 18 [] ?_
        conv => whnf
        refine ⟨⟨I, I, I, I⟩, ?_⟩
        refine W.cn ?_
        conv => whnf
        refine ⟨noT (decide_eq_false (by omega)), fun _ => ?_⟩
        refine W.skip ?_
        refine g 18 19 [] ?_
        conv => whnf
        refine ⟨⟨I, I⟩, ?_⟩
        refine g 19 22 [.call (V.i ((1048576 : Int) - (↑(List.length xs) : Int) - totP xs)) ([[], []])] ?_
        conv => whnf
        refine ⟨⟨I, I, ⟨⟨I, I, I⟩, I, ⟨⟨I, I⟩, ⟨I, I⟩, I⟩, ⟨I, I⟩, (by assumption)⟩, I, I⟩, ?_⟩
        refine W.sq ?_
        refine g 22 23 [] ?_
        conv => whnf
        refine ⟨⟨I, I, I⟩, ?_⟩
        refine W.cn ?_
        conv => whnf
        refine ⟨noT (decide_eq_false (by omega)), fun _ => ?_⟩
        refine W.skip ?_
        refine g 23 27 [.call (V.i (-1 : Int)) ([[], []])] ?_
        conv => whnf
        refine ⟨⟨I, I, ⟨⟨I, I, I⟩, I, ⟨⟨I, I⟩, ⟨I, I⟩, I⟩, ⟨I, I⟩, (by assumption)⟩, I, I⟩, ?_⟩
        refine W.sq ?_
        refine g 7 28 [] ?_
        conv => whnf
        refine ⟨⟨I, I, I⟩, ?_⟩
        refine W.cn ?_
        conv => whnf
        refine ⟨fun _ => ?_, noF (rfl)⟩
        refine g 28 29 [] ?_
        conv => whnf
        refine ⟨⟨I, I⟩, ?_⟩
        refine W.ret ?_
        refine EndsW.rt ?_
        conv => whnf
        refine ⟨⟨I, I, I⟩, ?_, rfl⟩
        rfl
      · rw [if_neg hq2] at c9
        obtain ⟨q1, q2, q3⟩ := msgs_in (ms := ms) (by omega)
        have q4 := sum_nn messageC_nn ms
        have q5 : (postP xs ms key).length ≤ 1048576 := postN_le ms key (by omega) _
        have q6 : xs.length ≤ 1048576 := by omega
        have q7 : ms.length ≤ 1048576 := by omega
        refine i_laws_FnExactPost ?_
        conv => whnf
        refine g 0 0 [] ?_
        conv => whnf
        refine ⟨⟨I, I⟩, ?_⟩
        refine W.sq ?_
        refine g 16 18 [] ?_
        conv => whnf
        refine ⟨⟨I, I, I, I⟩, ?_⟩
        refine W.cn ?_
        conv => whnf
        refine ⟨noT (decide_eq_false (by omega)), fun _ => ?_⟩
        refine W.skip ?_
        refine g 18 19 [] ?_
        conv => whnf
        refine ⟨⟨I, I⟩, ?_⟩
        refine g 19 22 [.call (V.i ((1048576 : Int) - (↑(List.length xs) : Int) - totP xs)) ([[], []])] ?_
        conv => whnf
        refine ⟨⟨I, I, ⟨⟨I, I, I⟩, I, ⟨⟨I, I⟩, ⟨I, I⟩, I⟩, ⟨I, I⟩, (by assumption)⟩, I, I⟩, ?_⟩
        refine W.sq ?_
        refine g 22 23 [] ?_
        conv => whnf
        refine ⟨⟨I, I, I⟩, ?_⟩
        refine W.cn ?_
        conv => whnf
        refine ⟨noT (decide_eq_false (by omega)), fun _ => ?_⟩
        refine W.skip ?_
        refine g 23 27 [.call (V.i ((1048576 : Int) - (↑(List.length xs) : Int) - totP xs - ((↑(List.length ms) : Int) + sumI messageSz ms))) ([[], []])] ?_
        conv => whnf
        refine ⟨⟨I, I, ⟨⟨I, I, I⟩, I, ⟨⟨I, I⟩, ⟨I, I⟩, I⟩, ⟨I, I⟩, (by assumption)⟩, I, I⟩, ?_⟩
        refine W.sq ?_
        refine g 7 28 [] ?_
        conv => whnf
        refine ⟨⟨I, I, I⟩, ?_⟩
        refine W.cn ?_
        conv => whnf
        refine ⟨noT (decide_eq_false (by omega)), fun _ => ?_⟩
        refine W.skip ?_
        refine g 28 35 [.call (V.own pkd (List.map parT xs)) ([[]]), .call (V.own messageK (List.map messageT ms)) ([[]]), .call (V.own pkd (List.map parT (postP xs ms key))) ([[], [], []])] ?_
        conv => whnf
        refine ⟨⟨I, ⟨⟨I, I⟩, I, ⟨⟨I, I⟩, I⟩, ⟨I, I⟩, Go.K.c_laws_toParcelS _ (by omega)⟩, I, ⟨⟨I, I⟩, I, ⟨⟨I, I⟩, I⟩, ⟨I, I⟩, Go.K.c_laws_toMessageS _ (by omega)⟩, I, ⟨⟨I, I, I, I⟩, I, ⟨⟨I, I⟩, ⟨I, I⟩, ⟨I, I⟩, I⟩, ⟨I, I⟩, Go.K.c_spec_Post _ _ _ (by omega) (by omega) (by omega)⟩, I, I⟩, ?_⟩
        refine g 35 37 [.call (V.own pkd (List.map parT xs)) ([[]])] ?_
        conv => whnf
        refine ⟨⟨I, ⟨⟨I, I⟩, I, ⟨⟨I, I⟩, I⟩, ⟨I, I⟩, Go.K.c_laws_toParcelS _ (by omega)⟩, I, I⟩, ?_⟩
        refine g 37 39 [.call (V.own messageK (List.map messageT ms)) ([[]])] ?_
        conv => whnf
        refine ⟨⟨I, ⟨⟨I, I⟩, I, ⟨⟨I, I⟩, I⟩, ⟨I, I⟩, Go.K.c_laws_toMessageS _ (by omega)⟩, I, I⟩, ?_⟩
        refine g 39 43 [.call (V.own pkd (List.map parT (postP xs ms key))) ([[], [], []])] ?_
        conv => whnf
        refine ⟨⟨I, I, I, ⟨⟨I, I, I, I⟩, I, ⟨⟨I, I⟩, ⟨I, I⟩, ⟨I, I⟩, I⟩, ⟨I, I⟩, Go.K.c_impl_Post _ _ _ (by omega) (by omega) (by omega)⟩, I, I⟩, ?_⟩
        refine W.sq ?_
        refine g 43 46 [.call (V.b (decide (postP xs ms key = postP xs ms key))) ([[], []])] ?_
        conv => whnf
        refine ⟨⟨I, I, ⟨⟨I, I, I⟩, I, ⟨⟨I, I⟩, ⟨I, I⟩, I⟩, ⟨I, I⟩, Go.K.c_laws_eqParcelS _ _ (by omega)⟩, I, I⟩, ?_⟩
        refine W.cn ?_
        conv => whnf
        refine ⟨noT (notF rfl), fun _ => ?_⟩
        refine W.skip ?_
        refine W.sq ?_
        refine g 46 51 [.call (V.own pkd (List.map parT xs)) ([[]]), .call (V.b (decide (xs = xs))) ([[], []])] ?_
        conv => whnf
        refine ⟨⟨I, I, ⟨⟨I, I⟩, I, ⟨⟨I, I⟩, I⟩, ⟨I, I⟩, Go.K.c_laws_toParcelS _ (by omega)⟩, ⟨⟨I, I, I⟩, I, ⟨⟨I, I⟩, ⟨I, I⟩, I⟩, ⟨I, I⟩, Go.K.c_laws_eqParcelS _ _ (by omega)⟩, I, I⟩, ?_⟩
        refine W.cn ?_
        conv => whnf
        refine ⟨noT (notF rfl), fun _ => ?_⟩
        refine W.skip ?_
        refine W.sq ?_
        refine g 51 56 [.call (V.own messageK (List.map messageT ms)) ([[]]), .call (V.b (decide (ms = ms))) ([[], []])] ?_
        conv => whnf
        refine ⟨⟨I, I, ⟨⟨I, I⟩, I, ⟨⟨I, I⟩, I⟩, ⟨I, I⟩, Go.K.c_laws_toMessageS _ (by omega)⟩, ⟨⟨I, I, I⟩, I, ⟨⟨I, I⟩, ⟨I, I⟩, I⟩, ⟨I, I⟩, Go.K.c_laws_eqMessageS _ _ (by omega) (by omega)⟩, I, I⟩, ?_⟩
        refine W.cn ?_
        conv => whnf
        refine ⟨noT (notF rfl), fun _ => ?_⟩
        refine W.skip ?_
        refine g 56 57 [] ?_
        conv => whnf
        refine ⟨⟨I, I⟩, ?_⟩
        refine g 57 60 [.call (V.i ((1 : Int) + (3 : Int) * (↑(List.length xs) : Int))) ([[V.own pkd (List.map (mkPT (1 : Int)) (List.range (List.length xs)))], []])] ?_
        conv => whnf
        refine ⟨⟨I, I, ⟨⟨⟨I, I⟩, I, I⟩, I, ⟨I, ⟨I, I⟩, I⟩, ⟨I, I⟩, Go.K.c_laws_markParcelS _ _ (by omega) (by omega)⟩, I, I⟩, ?_⟩
        refine g 60 63 [.call (V.i ((1 : Int) + (3 : Int) * (↑(List.length xs) : Int) + sumI messageC ms)) ([[V.own messageK (List.map messageT (mkL messageMk messageC ((1 : Int) + (3 : Int) * (↑(List.length xs) : Int)) ms))], []])] ?_
        conv => whnf
        refine ⟨⟨I, I, ⟨⟨⟨I, I⟩, I, I⟩, I, ⟨I, ⟨I, I⟩, I⟩, ⟨I, I⟩, Go.K.c_laws_markMessageS _ _ (by omega) (by omega) (by omega)⟩, I, I⟩, ?_⟩
        refine W.sq ?_
        refine g 12 70 [.b (false), .b (false), .b (false), .call (V.b (decide (postP xs ms key = postP xs ms key))) ([[], []]), .b (false), .b (false)] ?_
        conv => whnf
        refine ⟨⟨I, I, I, ⟨decide_eq_false (by omega), I⟩, ⟨decide_eq_false (by omega), I⟩, ⟨decide_eq_false (by omega), ⟨I, I, I⟩, I, ⟨⟨I, I⟩, ⟨I, I⟩, I⟩, ⟨I, I⟩, Go.K.c_laws_eqParcelS _ _ (by omega)⟩, ⟨decide_eq_false (by omega), I⟩, decide_eq_false (by omega), I⟩, ?_⟩
        refine W.cn ?_
        conv => whnf
        refine ⟨noT (by assumption), fun _ => ?_⟩
        refine W.skip ?_
        refine g 9 11 [] ?_
        conv => whnf
        refine ⟨⟨I, I⟩, ?_⟩
        refine g 70 74 [.call (V.i ((1 : Int) + (3 : Int) * (↑(List.length (postP xs ms key)) : Int))) ([[V.own pkd (List.map (mkPT (1 : Int)) (List.range (List.length (postP xs ms key))))], []])] ?_
        conv => whnf
        refine ⟨⟨I, I, ⟨⟨⟨I, I⟩, I, I⟩, I, ⟨I, ⟨I, I⟩, I⟩, ⟨I, I⟩, Go.K.c_laws_markParcelS _ _ (by omega) (by omega)⟩, I, I⟩, ?_⟩
        refine g 0 0 [] ?_
        conv => whnf
        refine ⟨⟨I, I⟩, ?_⟩
        refine g 74 77 [.call (V.i ((1 : Int) + (3 : Int) * (↑(List.length (postP xs ms key)) : Int))) ([[], []])] ?_
        conv => whnf
        refine ⟨⟨I, I, ⟨⟨I, I, I⟩, I, ⟨⟨I, I⟩, ⟨I, I⟩, I⟩, ⟨I, I⟩, Go.K.c_laws_heldParcelS _ _ (by omega) (by omega)⟩, I, I⟩, ?_⟩
        refine W.sq ?_
        refine g 77 78 [] ?_
        conv => whnf
        refine ⟨⟨I, I, I⟩, ?_⟩
        refine W.cn ?_
        conv => whnf
        refine ⟨noT (rfl), fun _ => ?_⟩
        refine W.skip ?_
        refine W.sq ?_
        refine g 78 81 [] ?_
        conv => whnf
        refine ⟨⟨I, I, I, I⟩, ?_⟩
        refine W.cn ?_
        conv => whnf
        refine ⟨noT (notF (by omega)), fun _ => ?_⟩
        refine W.skip ?_
        refine g 81 88 [.call (V.own pkd (List.map parT xs)) ([[]]), .call (V.own messageK (List.map messageT ms)) ([[]]), .call (V.own pkd (List.map parT (postP xs ms key))) ([[], [], []])] ?_
        conv => whnf
        refine ⟨⟨I, ⟨⟨I, I⟩, I, ⟨⟨I, I⟩, I⟩, ⟨I, I⟩, Go.K.c_laws_toParcelS _ (by omega)⟩, I, ⟨⟨I, I⟩, I, ⟨⟨I, I⟩, I⟩, ⟨I, I⟩, Go.K.c_laws_toMessageS _ (by omega)⟩, I, ⟨⟨I, I, I, I⟩, I, ⟨⟨I, I⟩, ⟨I, I⟩, ⟨I, I⟩, I⟩, ⟨I, I⟩, Go.K.c_impl_Post _ _ _ (by omega) (by omega) (by omega)⟩, I, I⟩, ?_⟩
        refine W.sq ?_
        refine g 15 91 [.call (V.b (decide (postP xs ms key = postP xs ms key))) ([[], []])] ?_
        conv => whnf
        refine ⟨⟨I, I, ⟨⟨I, I, I⟩, I, ⟨⟨I, I⟩, ⟨I, I⟩, I⟩, ⟨I, I⟩, Go.K.c_laws_eqParcelS _ _ (by omega)⟩, I, I⟩, ?_⟩
        refine W.cn ?_
        conv => whnf
        refine ⟨noT (by assumption), fun _ => ?_⟩
        refine W.skip ?_
        refine g 0 3 [] ?_
        conv => whnf
        refine ⟨⟨I, I⟩, ?_⟩
        refine g 91 95 [.call (V.i ((1 : Int) + (3 : Int) * (↑(List.length (postP xs ms key)) : Int))) ([[], []])] ?_
        conv => whnf
        refine ⟨⟨I, I, ⟨⟨I, I, I⟩, I, ⟨⟨I, I⟩, ⟨I, I⟩, I⟩, ⟨I, I⟩, Go.K.c_laws_heldParcelS _ _ (by omega) (by omega)⟩, I, I⟩, ?_⟩
        refine W.sq ?_
        refine g 8 12 [] ?_
        conv => whnf
        refine ⟨⟨I, I, I⟩, ?_⟩
        refine W.cn ?_
        conv => whnf
        refine ⟨noT (rfl), fun _ => ?_⟩
        refine W.skip ?_
        refine W.sq ?_
        refine g 13 99 [] ?_
        conv => whnf
        refine ⟨⟨I, I, I, I⟩, ?_⟩
        refine W.cn ?_
        conv => whnf
        refine ⟨noT (by assumption), fun _ => ?_⟩
        refine W.skip ?_
        refine g 99 100 [] ?_
        conv => whnf
        refine ⟨⟨I, I⟩, ?_⟩
        refine W.ret ?_
        refine EndsW.rt ?_
        conv => whnf
        refine ⟨⟨I, I, I⟩, ?_, rfl⟩
        rfl
  · refine i_laws_FnExactPost ?_
    conv => whnf
    refine g 0 0 [] ?_
    conv => whnf
    refine ⟨⟨I, I⟩, ?_⟩
    refine W.sq ?_
    refine g 16 18 [] ?_
    conv => whnf
    refine ⟨⟨I, I, I, I⟩, ?_⟩
    refine W.cn ?_
    conv => whnf
    refine ⟨fun _ => ?_, noF (decide_eq_true (by omega))⟩
    refine g 18 19 [] ?_
    conv => whnf
    refine ⟨⟨I, I⟩, ?_⟩
    refine W.ret ?_
    refine EndsW.rt ?_
    conv => whnf
    refine ⟨⟨I, I, I⟩, ?_, rfl⟩
    rfl
end Go.K

end

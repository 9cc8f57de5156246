/- Contracts of functions of the program: what each call answers. -/
import Derived.Test.YtclkoehdmpcggaaParte
section
set_option linter.unusedVariables false
set_option linter.unusedSimpArgs false
set_option maxHeartbeats 4000000
set_option maxRecDepth 20000
open Go Go.Tm Go.Proofs
namespace Go.K
def jobC (x : Job) : Int := 3
theorem jobC_eq (x : Job) : jobC x = 3 := rfl
theorem jobC_nn (x : Job) : 0 ≤ jobC x := by
  simp only [jobC]; omega
def jobMk (k : Int) (x : Job) : Job := ⟨k, k + 1, k + 1 + 1⟩
def seatC (x : Seat) : Int := 2
theorem seatC_eq (x : Seat) : seatC x = 2 := rfl
theorem seatC_nn (x : Seat) : 0 ≤ seatC x := by
  simp only [seatC]; omega
def seatMk (k : Int) (x : Seat) : Seat := ⟨decide (Int.tmod (k) 3 = 0), k + 1⟩
def owedC (x : Owed) : Int := 3
theorem owedC_eq (x : Owed) : owedC x = 3 := rfl
theorem owedC_nn (x : Owed) : 0 ≤ owedC x := by
  simp only [owedC]; omega
def owedMk (k : Int) (x : Owed) : Owed := ⟨k, k + 1, k + 1 + 1⟩
theorem c_laws_markJobS (xs : List Job) (k : Int) (hl : xs.length ≤ 9223372036854775806) (h0 : 0 ≤ k) (hk : k + sumI jobC xs ≤ 1099511627776) : F n_laws_markJobS [.bor (.own jobK (xs.map jobT)), .val (.i k)] (.i (k + sumI jobC xs)) [[.own jobK ((mkL jobMk jobC k xs).map jobT)], []] := by
  refine i_laws_markJobS ?_
  conv => whnf
  refine g 0 0 [] ?_
  conv => whnf
  refine ⟨⟨I, I⟩, ?_⟩
  refine W.sq ?_
  refine g 0 0 [] ?_
  conv => whnf
  refine ⟨⟨I, I⟩, ?_⟩
  refine W.blk ?_
  refine W.lp (fun s (n : Nat) => ⟨[(0, s.s 0), (1, .i (k + sumI jobC (xs.take n))), (4, s.s 4), (5, .i n)], [(34, [.own jobK ((mkN jobMk jobC k xs n).map jobT)])], []⟩) (fun (n : Nat) => n ≤ xs.length) (fun (n : Nat) => xs.length - n) (0) [some 34] [] ⟨rfl, ⟨rfl, (congrArg (fun z => V.t (T.v (Value.int _ z))) (by simp [sumI])), rfl, rfl, I⟩, ⟨⟨rfl, ⟨rfl, I⟩⟩, I⟩, I⟩ (by omega) ?_
  intro n hn
  have hx := mkN_len jobMk jobC k xs n
  have hq := sum_nn jobC_nn (xs.take n)
  have hle := sum_le jobC_nn xs (n + 1)
  have hle0 := sum_le jobC_nn xs n
  conv => whnf
  refine W.sq ?_
  refine g 6 9 [] ?_
  conv => whnf
  refine ⟨⟨I, I, I, I, I⟩, ?_⟩
  refine W.cn ?_
  conv => whnf
  refine ⟨fun h1 => ?_, fun h1 => ?_⟩
  replace h1 := dt h1
  simp only [List.length_map] at h1
  refine W.skip ?_
  refine W.sq ?_
  refine W.blk ?_
  obtain ⟨y1, hy1⟩ := some_at (xs := xs) (n := n) (by omega)
  have hk1 := sum_take (f := jobC) hy1
  have hk2 := jobC_nn y1
  have hk3 := jobC_eq y1
  refine g 9 17 [.n (n), .x (jobT y1)] ?_
  conv => whnf
  refine ⟨⟨I, I, I, ⟨rfl, (by simp only [List.length_map, List.length_append, List.length_set, List.length_replicate, List.length_cons, List.length_nil, List.length_take, List.length_drop, fill_len, fillI_len, List.length_range, bytesT_len]; omega)⟩, I, ⟨⟨I, I⟩, mkN_getm (by assumption)⟩, I⟩, ?_⟩
  refine g 17 19 [.i (k + sumI jobC (List.take n xs) + (1 : Int))] ?_
  conv => whnf
  refine ⟨⟨I, w64 (by omega) (by omega), I, I⟩, ?_⟩
  refine g 19 24 [.n (n), .x (patch (jobT y1) ((0 : Nat) + (0 : Nat)) [T.v (Value.int IntKind.i64 (k + sumI jobC (List.take n xs)))])] ?_
  conv => whnf
  refine ⟨⟨I, I, I, ⟨rfl, (by simp only [List.length_map, List.length_append, List.length_set, List.length_replicate, List.length_cons, List.length_nil, List.length_take, List.length_drop, fill_len, fillI_len, List.length_range, bytesT_len]; omega)⟩, I, ⟨⟨I, I⟩, getset (by simp only [List.length_map, List.length_append, List.length_set, List.length_replicate, List.length_cons, List.length_nil, List.length_take, List.length_drop, fill_len, fillI_len, List.length_range, bytesT_len]; omega)⟩, I⟩, ?_⟩
  rw [List.set_set]
  refine g 24 26 [.i (k + sumI jobC (List.take n xs) + (1 : Int) + (1 : Int))] ?_
  conv => whnf
  refine ⟨⟨I, w64 (by omega) (by omega), I, I⟩, ?_⟩
  refine g 26 31 [.n (n), .x (patch (patch (jobT y1) ((0 : Nat) + (0 : Nat)) [T.v (Value.int IntKind.i64 (k + sumI jobC (List.take n xs)))]) ((0 : Nat) + (1 : Nat)) [T.v (Value.int IntKind.i64 (k + sumI jobC (List.take n xs) + (1 : Int)))])] ?_
  conv => whnf
  refine ⟨⟨I, I, I, ⟨rfl, (by simp only [List.length_map, List.length_append, List.length_set, List.length_replicate, List.length_cons, List.length_nil, List.length_take, List.length_drop, fill_len, fillI_len, List.length_range, bytesT_len]; omega)⟩, I, ⟨⟨I, I⟩, getset (by simp only [List.length_map, List.length_append, List.length_set, List.length_replicate, List.length_cons, List.length_nil, List.length_take, List.length_drop, fill_len, fillI_len, List.length_range, bytesT_len]; omega)⟩, I⟩, ?_⟩
  rw [List.set_set]
  refine rg [.i (k + sumI jobC (List.take n xs) + (1 : Int) + (1 : Int) + (1 : Int))] ?_
  conv => whnf
  refine ⟨⟨I, w64 (by omega) (by omega), I, I⟩, ?_⟩
  refine rg [.i ((↑n : Int) + (1 : Int))] ?_
  conv => whnf
  refine ⟨⟨I, w64 (by omega) (by omega), I, I⟩, ?_⟩
  rotate_left 1
  replace h1 := df h1
  simp only [List.length_map] at h1
  refine W.exit ?_
  refine g 5 34 [] ?_
  conv => whnf
  refine ⟨⟨I, I, I⟩, ?_⟩
  refine W.ret ?_
  refine EndsW.rt ?_
  conv => whnf
  refine ⟨⟨I, I, I⟩, ?_, ?_⟩
  rotate_left 1
  rotate_left 1
  · refine ⟨n + 1, [some 34], [], ⟨rfl, ⟨rfl, (congrArg (fun z => V.t (T.v (Value.int _ z))) (by rw [sum_take (by assumption)]; omega)), rfl, rfl, I⟩, ⟨⟨rfl, ⟨(congrArg (V.own _) (mkN_setm (f := jobMk) (c := jobC) (by assumption))), I⟩⟩, I⟩, I⟩, ?_, ?_⟩
    rotate_left 1
    (dsimp only; omega)
    dsimp only
    omega
  · rw [take_all (by omega)]
  · rw [mkN_all jobMk jobC k xs (n := n) (by omega)]
theorem c_laws_markSeatS (xs : List Seat) (k : Int) (hl : xs.length ≤ 9223372036854775806) (h0 : 0 ≤ k) (hk : k + sumI seatC xs ≤ 1099511627776) : F n_laws_markSeatS [.bor (.own seatK (xs.map seatT)), .val (.i k)] (.i (k + sumI seatC xs)) [[.own seatK ((mkL seatMk seatC k xs).map seatT)], []] := by
  refine i_laws_markSeatS ?_
  conv => whnf
  refine g 0 0 [] ?_
  conv => whnf
  refine ⟨⟨I, I⟩, ?_⟩
  refine W.sq ?_
  refine g 0 0 [] ?_
  conv => whnf
  refine ⟨⟨I, I⟩, ?_⟩
  refine W.blk ?_
  refine W.lp (fun s (n : Nat) => ⟨[(0, s.s 0), (1, .i (k + sumI seatC (xs.take n))), (4, s.s 4), (5, .i n)], [(29, [.own seatK ((mkN seatMk seatC k xs n).map seatT)])], []⟩) (fun (n : Nat) => n ≤ xs.length) (fun (n : Nat) => xs.length - n) (0) [some 29] [] ⟨rfl, ⟨rfl, (congrArg (fun z => V.t (T.v (Value.int _ z))) (by simp [sumI])), rfl, rfl, I⟩, ⟨⟨rfl, ⟨rfl, I⟩⟩, I⟩, I⟩ (by omega) ?_
  intro n hn
  have hx := mkN_len seatMk seatC k xs n
  have hq := sum_nn seatC_nn (xs.take n)
  have hle := sum_le seatC_nn xs (n + 1)
  have hle0 := sum_le seatC_nn xs n
  conv => whnf
  refine W.sq ?_
  refine g 6 9 [] ?_
  conv => whnf
  refine ⟨⟨I, I, I, I, I⟩, ?_⟩
  refine W.cn ?_
  conv => whnf
  refine ⟨fun h1 => ?_, fun h1 => ?_⟩
  replace h1 := dt h1
  simp only [List.length_map] at h1
  refine W.skip ?_
  refine W.sq ?_
  refine W.blk ?_
  obtain ⟨y1, hy1⟩ := some_at (xs := xs) (n := n) (by omega)
  have hk1 := sum_take (f := seatC) hy1
  have hk2 := seatC_nn y1
  have hk3 := seatC_eq y1
  refine g 9 19 [.i (Int.tmod (k + sumI seatC (List.take n xs)) (3 : Int)), .n (n), .x (seatT y1)] ?_
  conv => whnf
  refine ⟨⟨I, I, I, ⟨(by omega), rfl⟩, I, ⟨rfl, (by simp only [List.length_map, List.length_append, List.length_set, List.length_replicate, List.length_cons, List.length_nil, List.length_take, List.length_drop, fill_len, fillI_len, List.length_range, bytesT_len]; omega)⟩, I, ⟨⟨I, I⟩, mkN_getm (by assumption)⟩, I⟩, ?_⟩
  refine g 19 21 [.i (k + sumI seatC (List.take n xs) + (1 : Int))] ?_
  conv => whnf
  refine ⟨⟨I, w64 (by omega) (by omega), I, I⟩, ?_⟩
  refine g 21 26 [.n (n), .x (patch (seatT y1) ((0 : Nat) + (0 : Nat)) [T.v (Value.bool (decide (Int.tmod (k + sumI seatC (List.take n xs)) (3 : Int) = (0 : Int))))])] ?_
  conv => whnf
  refine ⟨⟨I, I, I, ⟨rfl, (by simp only [List.length_map, List.length_append, List.length_set, List.length_replicate, List.length_cons, List.length_nil, List.length_take, List.length_drop, fill_len, fillI_len, List.length_range, bytesT_len]; omega)⟩, I, ⟨⟨I, I⟩, getset (by simp only [List.length_map, List.length_append, List.length_set, List.length_replicate, List.length_cons, List.length_nil, List.length_take, List.length_drop, fill_len, fillI_len, List.length_range, bytesT_len]; omega)⟩, I⟩, ?_⟩
  rw [List.set_set]
  refine rg [.i (k + sumI seatC (List.take n xs) + (1 : Int) + (1 : Int))] ?_
  conv => whnf
  refine ⟨⟨I, w64 (by omega) (by omega), I, I⟩, ?_⟩
  refine rg [.i ((↑n : Int) + (1 : Int))] ?_
  conv => whnf
  refine ⟨⟨I, w64 (by omega) (by omega), I, I⟩, ?_⟩
  rotate_left 1
  replace h1 := df h1
  simp only [List.length_map] at h1
  refine W.exit ?_
  refine g 5 29 [] ?_
  conv => whnf
  refine ⟨⟨I, I, I⟩, ?_⟩
  refine W.ret ?_
  refine EndsW.rt ?_
  conv => whnf
  refine ⟨⟨I, I, I⟩, ?_, ?_⟩
  rotate_left 1
  rotate_left 1
  · refine ⟨n + 1, [some 29], [], ⟨rfl, ⟨rfl, (congrArg (fun z => V.t (T.v (Value.int _ z))) (by rw [sum_take (by assumption)]; omega)), rfl, rfl, I⟩, ⟨⟨rfl, ⟨(congrArg (V.own _) (mkN_setm (f := seatMk) (c := seatC) (by assumption))), I⟩⟩, I⟩, I⟩, ?_, ?_⟩
    rotate_left 1
    (dsimp only; omega)
    dsimp only
    omega
  · rw [take_all (by omega)]
  · rw [mkN_all seatMk seatC k xs (n := n) (by omega)]
theorem c_laws_markOwedS (xs : List Owed) (k : Int) (hl : xs.length ≤ 9223372036854775806) (h0 : 0 ≤ k) (hk : k + sumI owedC xs ≤ 1099511627776) : F n_laws_markOwedS [.bor (.own owedK (xs.map owedT)), .val (.i k)] (.i (k + sumI owedC xs)) [[.own owedK ((mkL owedMk owedC k xs).map owedT)], []] := by
  refine i_laws_markOwedS ?_
  conv => whnf
  refine g 0 0 [] ?_
  conv => whnf
  refine ⟨⟨I, I⟩, ?_⟩
  refine W.sq ?_
  refine g 0 0 [] ?_
  conv => whnf
  refine ⟨⟨I, I⟩, ?_⟩
  refine W.blk ?_
  refine W.lp (fun s (n : Nat) => ⟨[(0, s.s 0), (1, .i (k + sumI owedC (xs.take n))), (4, s.s 4), (5, .i n)], [(34, [.own owedK ((mkN owedMk owedC k xs n).map owedT)])], []⟩) (fun (n : Nat) => n ≤ xs.length) (fun (n : Nat) => xs.length - n) (0) [some 34] [] ⟨rfl, ⟨rfl, (congrArg (fun z => V.t (T.v (Value.int _ z))) (by simp [sumI])), rfl, rfl, I⟩, ⟨⟨rfl, ⟨rfl, I⟩⟩, I⟩, I⟩ (by omega) ?_
  intro n hn
  have hx := mkN_len owedMk owedC k xs n
  have hq := sum_nn owedC_nn (xs.take n)
  have hle := sum_le owedC_nn xs (n + 1)
  have hle0 := sum_le owedC_nn xs n
  conv => whnf
  refine W.sq ?_
  refine g 6 9 [] ?_
  conv => whnf
  refine ⟨⟨I, I, I, I, I⟩, ?_⟩
  refine W.cn ?_
  conv => whnf
  refine ⟨fun h1 => ?_, fun h1 => ?_⟩
  replace h1 := dt h1
  simp only [List.length_map] at h1
  refine W.skip ?_
  refine W.sq ?_
  refine W.blk ?_
  obtain ⟨y1, hy1⟩ := some_at (xs := xs) (n := n) (by omega)
  have hk1 := sum_take (f := owedC) hy1
  have hk2 := owedC_nn y1
  have hk3 := owedC_eq y1
  refine g 9 17 [.n (n), .x (owedT y1)] ?_
  conv => whnf
  refine ⟨⟨I, I, I, ⟨rfl, (by simp only [List.length_map, List.length_append, List.length_set, List.length_replicate, List.length_cons, List.length_nil, List.length_take, List.length_drop, fill_len, fillI_len, List.length_range, bytesT_len]; omega)⟩, I, ⟨⟨I, I⟩, mkN_getm (by assumption)⟩, I⟩, ?_⟩
  refine g 17 19 [.i (k + sumI owedC (List.take n xs) + (1 : Int))] ?_
  conv => whnf
  refine ⟨⟨I, w64 (by omega) (by omega), I, I⟩, ?_⟩
  refine g 19 24 [.n (n), .x (patch (owedT y1) ((0 : Nat) + (0 : Nat)) [T.v (Value.int IntKind.i64 (k + sumI owedC (List.take n xs)))])] ?_
  conv => whnf
  refine ⟨⟨I, I, I, ⟨rfl, (by simp only [List.length_map, List.length_append, List.length_set, List.length_replicate, List.length_cons, List.length_nil, List.length_take, List.length_drop, fill_len, fillI_len, List.length_range, bytesT_len]; omega)⟩, I, ⟨⟨I, I⟩, getset (by simp only [List.length_map, List.length_append, List.length_set, List.length_replicate, List.length_cons, List.length_nil, List.length_take, List.length_drop, fill_len, fillI_len, List.length_range, bytesT_len]; omega)⟩, I⟩, ?_⟩
  rw [List.set_set]
  refine g 24 26 [.i (k + sumI owedC (List.take n xs) + (1 : Int) + (1 : Int))] ?_
  conv => whnf
  refine ⟨⟨I, w64 (by omega) (by omega), I, I⟩, ?_⟩
  refine g 26 31 [.n (n), .x (patch (patch (owedT y1) ((0 : Nat) + (0 : Nat)) [T.v (Value.int IntKind.i64 (k + sumI owedC (List.take n xs)))]) ((0 : Nat) + (1 : Nat)) [T.v (Value.int IntKind.i64 (k + sumI owedC (List.take n xs) + (1 : Int)))])] ?_
  conv => whnf
  refine ⟨⟨I, I, I, ⟨rfl, (by simp only [List.length_map, List.length_append, List.length_set, List.length_replicate, List.length_cons, List.length_nil, List.length_take, List.length_drop, fill_len, fillI_len, List.length_range, bytesT_len]; omega)⟩, I, ⟨⟨I, I⟩, getset (by simp only [List.length_map, List.length_append, List.length_set, List.length_replicate, List.length_cons, List.length_nil, List.length_take, List.length_drop, fill_len, fillI_len, List.length_range, bytesT_len]; omega)⟩, I⟩, ?_⟩
  rw [List.set_set]
  refine rg [.i (k + sumI owedC (List.take n xs) + (1 : Int) + (1 : Int) + (1 : Int))] ?_
  conv => whnf
  refine ⟨⟨I, w64 (by omega) (by omega), I, I⟩, ?_⟩
  refine rg [.i ((↑n : Int) + (1 : Int))] ?_
  conv => whnf
  refine ⟨⟨I, w64 (by omega) (by omega), I, I⟩, ?_⟩
  rotate_left 1
  replace h1 := df h1
  simp only [List.length_map] at h1
  refine W.exit ?_
  refine g 5 34 [] ?_
  conv => whnf
  refine ⟨⟨I, I, I⟩, ?_⟩
  refine W.ret ?_
  refine EndsW.rt ?_
  conv => whnf
  refine ⟨⟨I, I, I⟩, ?_, ?_⟩
  rotate_left 1
  rotate_left 1
  · refine ⟨n + 1, [some 34], [], ⟨rfl, ⟨rfl, (congrArg (fun z => V.t (T.v (Value.int _ z))) (by rw [sum_take (by assumption)]; omega)), rfl, rfl, I⟩, ⟨⟨rfl, ⟨(congrArg (V.own _) (mkN_setm (f := owedMk) (c := owedC) (by assumption))), I⟩⟩, I⟩, I⟩, ?_, ?_⟩
    rotate_left 1
    (dsimp only; omega)
    dsimp only
    omega
  · rw [take_all (by omega)]
  · rw [mkN_all owedMk owedC k xs (n := n) (by omega)]
theorem c_laws_heldJobS (xs : List Job) (k : Int) (hl : xs.length ≤ 9223372036854775806) (h0 : 0 ≤ k) (hk : k + sumI jobC xs ≤ 1099511627776) : F n_laws_heldJobS [.val (.t (.slc jobK ((mkL jobMk jobC k xs).map jobT))), .val (.i k)] (.i (k + sumI jobC xs)) [[], []] := by
  have hx := mkL_len jobMk jobC k xs
  refine i_laws_heldJobS ?_
  conv => whnf
  refine g 0 0 [] ?_
  conv => whnf
  refine ⟨⟨I, I⟩, ?_⟩
  refine W.sq ?_
  refine g 0 0 [] ?_
  conv => whnf
  refine ⟨⟨I, I⟩, ?_⟩
  refine W.blk ?_
  refine W.lp (fun s (n : Nat) => ⟨[(0, s.s 0), (1, .i (k + sumI jobC (xs.take n))), (5, .i n)], [], []⟩) (fun (n : Nat) => n ≤ xs.length) (fun (n : Nat) => xs.length - n) (0) [] [] ⟨rfl, ⟨rfl, (congrArg (fun z => V.t (T.v (Value.int _ z))) (by simp [sumI])), rfl, I⟩, I, I⟩ (by omega) ?_
  intro n hn
  have hq := sum_nn jobC_nn (xs.take n)
  have hle := sum_le jobC_nn xs (n + 1)
  have hle0 := sum_le jobC_nn xs n
  conv => whnf
  refine W.sq ?_
  refine g 6 9 [] ?_
  conv => whnf
  refine ⟨⟨I, I, I, I, I⟩, ?_⟩
  refine W.cn ?_
  conv => whnf
  refine ⟨fun h1 => ?_, fun h1 => ?_⟩
  replace h1 := dt h1
  simp only [List.length_map] at h1
  refine W.skip ?_
  refine W.sq ?_
  refine W.blk ?_
  refine W.sq ?_
  obtain ⟨y1, hy1⟩ := some_at (xs := xs) (n := n) (by omega)
  have hk1 := sum_take (f := jobC) hy1
  have hk2 := jobC_nn y1
  have hk3 := jobC_eq y1
  have hk4 := mkL_get (f := jobMk) (c := jobC) (k := k) hy1
  refine g 9 18 [.x (jobT (jobMk (k + sumI jobC (List.take n xs)) y1))] ?_
  conv => whnf
  refine ⟨⟨I, I, ⟨(by omega), ixl (by assumption)⟩, I, I, I, I, I⟩, ?_⟩
  refine W.cn ?_
  conv => whnf
  refine ⟨noT (notF rfl), fun _ => ?_⟩
  refine W.skip ?_
  refine g 18 21 [.i (k + sumI jobC (List.take n xs) + (1 : Int))] ?_
  conv => whnf
  refine ⟨⟨I, w64 (by omega) (by omega), I, I⟩, ?_⟩
  refine W.sq ?_
  refine g 21 27 [.x (jobT (jobMk (k + sumI jobC (List.take n xs)) y1))] ?_
  conv => whnf
  refine ⟨⟨I, I, ⟨(by omega), ixl (by assumption)⟩, I, I, I, I, I⟩, ?_⟩
  refine W.cn ?_
  conv => whnf
  refine ⟨noT (notF rfl), fun _ => ?_⟩
  refine W.skip ?_
  refine g 27 30 [.i (k + sumI jobC (List.take n xs) + (1 : Int) + (1 : Int))] ?_
  conv => whnf
  refine ⟨⟨I, w64 (by omega) (by omega), I, I⟩, ?_⟩
  refine W.sq ?_
  refine g 30 36 [.x (jobT (jobMk (k + sumI jobC (List.take n xs)) y1))] ?_
  conv => whnf
  refine ⟨⟨I, I, ⟨(by omega), ixl (by assumption)⟩, I, I, I, I, I⟩, ?_⟩
  refine W.cn ?_
  conv => whnf
  refine ⟨noT (notF rfl), fun _ => ?_⟩
  refine W.skip ?_
  refine rg [.i (k + sumI jobC (List.take n xs) + (1 : Int) + (1 : Int) + (1 : Int))] ?_
  conv => whnf
  refine ⟨⟨I, w64 (by omega) (by omega), I, I⟩, ?_⟩
  refine rg [.i ((↑n : Int) + (1 : Int))] ?_
  conv => whnf
  refine ⟨⟨I, w64 (by omega) (by omega), I, I⟩, ?_⟩
  rotate_left 1
  replace h1 := df h1
  simp only [List.length_map] at h1
  refine W.exit ?_
  refine g 5 40 [] ?_
  conv => whnf
  refine ⟨⟨I, I, I⟩, ?_⟩
  refine W.ret ?_
  refine EndsW.rt ?_
  conv => whnf
  refine ⟨⟨I, I, I⟩, ?_, rfl⟩
  rotate_left 1
  · refine ⟨n + 1, [], [], ⟨rfl, ⟨rfl, (congrArg (fun z => V.t (T.v (Value.int _ z))) (by rw [sum_take (by assumption)]; omega)), rfl, I⟩, I, I⟩, ?_, ?_⟩
    rotate_left 1
    (dsimp only; omega)
    dsimp only
    omega
  · rw [take_all (by omega)]
theorem c_laws_heldSeatS (xs : List Seat) (k : Int) (hl : xs.length ≤ 9223372036854775806) (h0 : 0 ≤ k) (hk : k + sumI seatC xs ≤ 1099511627776) : F n_laws_heldSeatS [.val (.t (.slc seatK ((mkL seatMk seatC k xs).map seatT))), .val (.i k)] (.i (k + sumI seatC xs)) [[], []] := by
  have hx := mkL_len seatMk seatC k xs
  refine i_laws_heldSeatS ?_
  conv => whnf
  refine g 0 0 [] ?_
  conv => whnf
  refine ⟨⟨I, I⟩, ?_⟩
  refine W.sq ?_
  refine g 0 0 [] ?_
  conv => whnf
  refine ⟨⟨I, I⟩, ?_⟩
  refine W.blk ?_
  refine W.lp (fun s (n : Nat) => ⟨[(0, s.s 0), (1, .i (k + sumI seatC (xs.take n))), (5, .i n)], [], []⟩) (fun (n : Nat) => n ≤ xs.length) (fun (n : Nat) => xs.length - n) (0) [] [] ⟨rfl, ⟨rfl, (congrArg (fun z => V.t (T.v (Value.int _ z))) (by simp [sumI])), rfl, I⟩, I, I⟩ (by omega) ?_
  intro n hn
  have hq := sum_nn seatC_nn (xs.take n)
  have hle := sum_le seatC_nn xs (n + 1)
  have hle0 := sum_le seatC_nn xs n
  conv => whnf
  refine W.sq ?_
  refine g 6 9 [] ?_
  conv => whnf
  refine ⟨⟨I, I, I, I, I⟩, ?_⟩
  refine W.cn ?_
  conv => whnf
  refine ⟨fun h1 => ?_, fun h1 => ?_⟩
  replace h1 := dt h1
  simp only [List.length_map] at h1
  refine W.skip ?_
  refine W.sq ?_
  refine W.blk ?_
  refine W.sq ?_
  obtain ⟨y1, hy1⟩ := some_at (xs := xs) (n := n) (by omega)
  have hk1 := sum_take (f := seatC) hy1
  have hk2 := seatC_nn y1
  have hk3 := seatC_eq y1
  have hk4 := mkL_get (f := seatMk) (c := seatC) (k := k) hy1
  refine g 9 20 [.x (seatT (seatMk (k + sumI seatC (List.take n xs)) y1)), .i (Int.tmod (k + sumI seatC (List.take n xs)) (3 : Int))] ?_
  conv => whnf
  refine ⟨⟨I, I, ⟨(by omega), ixl (by assumption)⟩, I, I, I, ⟨(by omega), rfl⟩, I, I, I⟩, ?_⟩
  refine W.cn ?_
  conv => whnf
  refine ⟨noT (notF rfl), fun _ => ?_⟩
  refine W.skip ?_
  refine g 20 23 [.i (k + sumI seatC (List.take n xs) + (1 : Int))] ?_
  conv => whnf
  refine ⟨⟨I, w64 (by omega) (by omega), I, I⟩, ?_⟩
  refine W.sq ?_
  refine g 23 29 [.x (seatT (seatMk (k + sumI seatC (List.take n xs)) y1))] ?_
  conv => whnf
  refine ⟨⟨I, I, ⟨(by omega), ixl (by assumption)⟩, I, I, I, I, I⟩, ?_⟩
  refine W.cn ?_
  conv => whnf
  refine ⟨noT (notF rfl), fun _ => ?_⟩
  refine W.skip ?_
  refine rg [.i (k + sumI seatC (List.take n xs) + (1 : Int) + (1 : Int))] ?_
  conv => whnf
  refine ⟨⟨I, w64 (by omega) (by omega), I, I⟩, ?_⟩
  refine rg [.i ((↑n : Int) + (1 : Int))] ?_
  conv => whnf
  refine ⟨⟨I, w64 (by omega) (by omega), I, I⟩, ?_⟩
  rotate_left 1
  replace h1 := df h1
  simp only [List.length_map] at h1
  refine W.exit ?_
  refine g 5 33 [] ?_
  conv => whnf
  refine ⟨⟨I, I, I⟩, ?_⟩
  refine W.ret ?_
  refine EndsW.rt ?_
  conv => whnf
  refine ⟨⟨I, I, I⟩, ?_, rfl⟩
  rotate_left 1
  · refine ⟨n + 1, [], [], ⟨rfl, ⟨rfl, (congrArg (fun z => V.t (T.v (Value.int _ z))) (by rw [sum_take (by assumption)]; omega)), rfl, I⟩, I, I⟩, ?_, ?_⟩
    rotate_left 1
    (dsimp only; omega)
    dsimp only
    omega
  · rw [take_all (by omega)]
theorem c_laws_heldOwedS (xs : List Owed) (k : Int) (hl : xs.length ≤ 9223372036854775806) (h0 : 0 ≤ k) (hk : k + sumI owedC xs ≤ 1099511627776) : F n_laws_heldOwedS [.val (.t (.slc owedK ((mkL owedMk owedC k xs).map owedT))), .val (.i k)] (.i (k + sumI owedC xs)) [[], []] := by
  have hx := mkL_len owedMk owedC k xs
  refine i_laws_heldOwedS ?_
  conv => whnf
  refine g 0 0 [] ?_
  conv => whnf
  refine ⟨⟨I, I⟩, ?_⟩
  refine W.sq ?_
  refine g 0 0 [] ?_
  conv => whnf
  refine ⟨⟨I, I⟩, ?_⟩
  refine W.blk ?_
  refine W.lp (fun s (n : Nat) => ⟨[(0, s.s 0), (1, .i (k + sumI owedC (xs.take n))), (5, .i n)], [], []⟩) (fun (n : Nat) => n ≤ xs.length) (fun (n : Nat) => xs.length - n) (0) [] [] ⟨rfl, ⟨rfl, (congrArg (fun z => V.t (T.v (Value.int _ z))) (by simp [sumI])), rfl, I⟩, I, I⟩ (by omega) ?_
  intro n hn
  have hq := sum_nn owedC_nn (xs.take n)
  have hle := sum_le owedC_nn xs (n + 1)
  have hle0 := sum_le owedC_nn xs n
  conv => whnf
  refine W.sq ?_
  refine g 6 9 [] ?_
  conv => whnf
  refine ⟨⟨I, I, I, I, I⟩, ?_⟩
  refine W.cn ?_
  conv => whnf
  refine ⟨fun h1 => ?_, fun h1 => ?_⟩
  replace h1 := dt h1
  simp only [List.length_map] at h1
  refine W.skip ?_
  refine W.sq ?_
  refine W.blk ?_
  refine W.sq ?_
  obtain ⟨y1, hy1⟩ := some_at (xs := xs) (n := n) (by omega)
  have hk1 := sum_take (f := owedC) hy1
  have hk2 := owedC_nn y1
  have hk3 := owedC_eq y1
  have hk4 := mkL_get (f := owedMk) (c := owedC) (k := k) hy1
  refine g 9 18 [.x (owedT (owedMk (k + sumI owedC (List.take n xs)) y1))] ?_
  conv => whnf
  refine ⟨⟨I, I, ⟨(by omega), ixl (by assumption)⟩, I, I, I, I, I⟩, ?_⟩
  refine W.cn ?_
  conv => whnf
  refine ⟨noT (notF rfl), fun _ => ?_⟩
  refine W.skip ?_
  refine g 18 21 [.i (k + sumI owedC (List.take n xs) + (1 : Int))] ?_
  conv => whnf
  refine ⟨⟨I, w64 (by omega) (by omega), I, I⟩, ?_⟩
  refine W.sq ?_
  refine g 21 27 [.x (owedT (owedMk (k + sumI owedC (List.take n xs)) y1))] ?_
  conv => whnf
  refine ⟨⟨I, I, ⟨(by omega), ixl (by assumption)⟩, I, I, I, I, I⟩, ?_⟩
  refine W.cn ?_
  conv => whnf
  refine ⟨noT (notF rfl), fun _ => ?_⟩
  refine W.skip ?_
  refine g 27 30 [.i (k + sumI owedC (List.take n xs) + (1 : Int) + (1 : Int))] ?_
  conv => whnf
  refine ⟨⟨I, w64 (by omega) (by omega), I, I⟩, ?_⟩
  refine W.sq ?_
  refine g 30 36 [.x (owedT (owedMk (k + sumI owedC (List.take n xs)) y1))] ?_
  conv => whnf
  refine ⟨⟨I, I, ⟨(by omega), ixl (by assumption)⟩, I, I, I, I, I⟩, ?_⟩
  refine W.cn ?_
  conv => whnf
  refine ⟨noT (notF rfl), fun _ => ?_⟩
  refine W.skip ?_
  refine rg [.i (k + sumI owedC (List.take n xs) + (1 : Int) + (1 : Int) + (1 : Int))] ?_
  conv => whnf
  refine ⟨⟨I, w64 (by omega) (by omega), I, I⟩, ?_⟩
  refine rg [.i ((↑n : Int) + (1 : Int))] ?_
  conv => whnf
  refine ⟨⟨I, w64 (by omega) (by omega), I, I⟩, ?_⟩
  rotate_left 1
  replace h1 := df h1
  simp only [List.length_map] at h1
  refine W.exit ?_
  refine g 5 40 [] ?_
  conv => whnf
  refine ⟨⟨I, I, I⟩, ?_⟩
  refine W.ret ?_
  refine EndsW.rt ?_
  conv => whnf
  refine ⟨⟨I, I, I⟩, ?_, rfl⟩
  rotate_left 1
  · refine ⟨n + 1, [], [], ⟨rfl, ⟨rfl, (congrArg (fun z => V.t (T.v (Value.int _ z))) (by rw [sum_take (by assumption)]; omega)), rfl, I⟩, I, I⟩, ?_, ?_⟩
    rotate_left 1
    (dsimp only; omega)
    dsimp only
    omega
  · rw [take_all (by omega)]
def logTop (k : Int) (x : Log) : Log := ⟨mkL (fun k _ => markT k) (fun _ => 1) (k) x.safe, mkL (fun k _ => markT k) (fun _ => 1) (k + x.safe.length) x.loose⟩
def logTopC (x : Log) : Int := x.safe.length + x.loose.length
theorem logTopC_nn (x : Log) : 0 ≤ logTopC x := by
  simp only [logTopC]; omega
theorem c_laws_markLog (x : Log) (k : Int) (hl : x.safe.length ≤ 9223372036854775806 ∧ x.loose.length ≤ 9223372036854775806) (h0 : 0 ≤ k) (hk : k + logTopC x ≤ 1099511627776) : F n_laws_markLog [.bor (logO x), .val (.i k)] (.i (k + logTopC x)) [cellsOf (logO (logTop k x)), []] := by
  obtain ⟨hl0, hl1⟩ := hl
  have hz : logTopC x = x.safe.length + x.loose.length := rfl
  refine i_laws_markLog ?_
  conv => whnf
  refine g 0 1 [] ?_
  conv => whnf
  refine ⟨⟨I, I, I⟩, ?_⟩
  refine g 5 9 [.call (V.i (k + (↑(List.length (Log.safe x)) : Int))) ([[V.own [false] (List.map strT (mkL (fun k x => markT k) (fun x => (1 : Int)) k (Log.safe x)))], []])] ?_
  conv => whnf
  refine ⟨⟨I, I, I, ⟨⟨⟨I, I⟩, I, I⟩, I, ⟨I, ⟨I, I⟩, I⟩, ⟨I, I⟩, Go.K.c_laws_markStringS _ _ (by omega) (by omega) (by omega)⟩, I, I⟩, ?_⟩
  refine g 9 13 [.call (V.i (k + (↑(List.length (Log.safe x)) : Int) + (↑(List.length (Log.loose x)) : Int))) ([[V.own [false] (List.map strT (mkL (fun k x => markT k) (fun x => (1 : Int)) (k + (↑(List.length (Log.safe x)) : Int)) (Log.loose x)))], []])] ?_
  conv => whnf
  refine ⟨⟨I, I, I, ⟨⟨⟨I, I⟩, I, I⟩, I, ⟨I, ⟨I, I⟩, I⟩, ⟨I, I⟩, Go.K.c_laws_markStringS _ _ (by omega) (by omega) (by omega)⟩, I, I⟩, ?_⟩
  refine g 1 3 [] ?_
  conv => whnf
  refine ⟨⟨I, I, I⟩, ?_⟩
  refine W.ret ?_
  refine EndsW.rt ?_
  conv => whnf
  refine ⟨⟨I, I, I⟩, ?_, rfl⟩
  exact vi (by omega)
theorem c_laws_heldLog (x : Log) (k : Int) (hl : x.safe.length ≤ 9223372036854775806 ∧ x.loose.length ≤ 9223372036854775806) (h0 : 0 ≤ k) (hk : k + logTopC x ≤ 1099511627776) : F n_laws_heldLog [.val (logR (logTop k x)), .val (.i k)] (.i (k + logTopC x)) [[], []] := by
  obtain ⟨hl0, hl1⟩ := hl
  have hz : logTopC x = x.safe.length + x.loose.length := rfl
  refine i_laws_heldLog ?_
  conv => whnf
  refine g 0 1 [] ?_
  conv => whnf
  refine ⟨⟨⟨I, I, I⟩, I, I⟩, ?_⟩
  refine g 5 9 [.call (V.i (k + (↑(List.length (Log.safe x)) : Int))) ([[], []])] ?_
  conv => whnf
  refine ⟨⟨I, I, I, ⟨⟨I, I, I⟩, I, ⟨⟨I, I⟩, ⟨I, I⟩, I⟩, ⟨I, I⟩, Go.K.c_laws_heldStringS _ _ (by omega) (by omega) (by omega)⟩, I, I⟩, ?_⟩
  refine W.sq ?_
  refine g 9 10 [] ?_
  conv => whnf
  refine ⟨⟨I, I, I⟩, ?_⟩
  refine W.cn ?_
  conv => whnf
  refine ⟨noT (decide_eq_false (by omega)), fun _ => ?_⟩
  refine W.skip ?_
  refine g 10 15 [.call (V.i (k + (↑(List.length (Log.safe x)) : Int) + (↑(List.length (Log.loose x)) : Int))) ([[], []])] ?_
  conv => whnf
  refine ⟨⟨I, I, I, ⟨⟨I, I, I⟩, I, ⟨⟨I, I⟩, ⟨I, I⟩, I⟩, ⟨I, I⟩, Go.K.c_laws_heldStringS _ _ (by omega) (by omega) (by omega)⟩, I, I⟩, ?_⟩
  refine W.sq ?_
  refine g 2 3 [] ?_
  conv => whnf
  refine ⟨⟨I, I, I⟩, ?_⟩
  refine W.cn ?_
  conv => whnf
  refine ⟨noT (decide_eq_false (by omega)), fun _ => ?_⟩
  refine W.skip ?_
  refine g 15 18 [] ?_
  conv => whnf
  refine ⟨⟨I, I, I⟩, ?_⟩
  refine W.ret ?_
  refine EndsW.rt ?_
  conv => whnf
  refine ⟨⟨I, I, I⟩, ?_, rfl⟩
  exact vi (by omega)
def bossTop (k : Int) (x : Boss) : Boss := ⟨x.workers, x.up, x.now, x.since, x.epoch, x.given, logTop (k) x.log, mkL (fun k _ => markT k) (fun _ => 1) (k + logTopC x.log) x.results, mkL jobMk jobC (k + logTopC x.log + x.results.length) x.jobs, mkL seatMk seatC (k + logTopC x.log + x.results.length + sumI jobC x.jobs) x.seats, mkL owedMk owedC (k + logTopC x.log + x.results.length + sumI jobC x.jobs + sumI seatC x.seats) x.owed⟩
def bossTopC (x : Boss) : Int := logTopC x.log + x.results.length + sumI jobC x.jobs + sumI seatC x.seats + sumI owedC x.owed
theorem c_laws_markBoss (x : Boss) (k : Int) (hl : x.log.safe.length ≤ 9223372036854775806 ∧ x.log.loose.length ≤ 9223372036854775806 ∧ x.results.length ≤ 9223372036854775806 ∧ x.jobs.length ≤ 9223372036854775806 ∧ x.seats.length ≤ 9223372036854775806 ∧ x.owed.length ≤ 9223372036854775806) (h0 : 0 ≤ k) (hk : k + bossTopC x ≤ 1099511627776) : F n_laws_markBoss [.bor (bossO x), .val (.i k)] (.i (k + bossTopC x)) [cellsOf (bossO (bossTop k x)), []] := by
  obtain ⟨hl0, hl1, hl2, hl3, hl4, hl5⟩ := hl
  have hn0 := logTopC_nn x.log
  have hn1 := sum_nn jobC_nn x.jobs
  have hn2 := sum_nn seatC_nn x.seats
  have hn3 := sum_nn owedC_nn x.owed
  have hz : bossTopC x = logTopC x.log + x.results.length + sumI jobC x.jobs + sumI seatC x.seats + sumI owedC x.owed := rfl
  refine i_laws_markBoss ?_
  conv => whnf
  refine g 0 1 [] ?_
  conv => whnf
  refine ⟨⟨⟨I, I, I, I, I, I, I⟩, I, I⟩, ?_⟩
  refine g 5 9 [.call (V.i (k + logTopC (Boss.log x))) ([cellsOf (logO (logTop k (Boss.log x))), []])] ?_
  conv => whnf
  refine ⟨⟨I, I, I, ⟨⟨⟨I, I, I⟩, I, I⟩, I, ⟨I, ⟨I, I⟩, I⟩, ⟨I, I⟩, Go.K.c_laws_markLog _ _ (by omega) (by omega) (by omega)⟩, I, I⟩, ?_⟩
  refine g 9 13 [.call (V.i (k + logTopC (Boss.log x) + (↑(List.length (Boss.results x)) : Int))) ([[V.own [false] (List.map strT (mkL (fun k x => markT k) (fun x => (1 : Int)) (k + logTopC (Boss.log x)) (Boss.results x)))], []])] ?_
  conv => whnf
  refine ⟨⟨I, I, I, ⟨⟨⟨I, I⟩, I, I⟩, I, ⟨I, ⟨I, I⟩, I⟩, ⟨I, I⟩, Go.K.c_laws_markStringS _ _ (by omega) (by omega) (by omega)⟩, I, I⟩, ?_⟩
  refine g 13 17 [.call (V.i (k + logTopC (Boss.log x) + (↑(List.length (Boss.results x)) : Int) + sumI jobC (Boss.jobs x))) ([[V.own jobK (List.map jobT (mkL jobMk jobC (k + logTopC (Boss.log x) + (↑(List.length (Boss.results x)) : Int)) (Boss.jobs x)))], []])] ?_
  conv => whnf
  refine ⟨⟨I, I, I, ⟨⟨⟨I, I⟩, I, I⟩, I, ⟨I, ⟨I, I⟩, I⟩, ⟨I, I⟩, Go.K.c_laws_markJobS _ _ (by omega) (by omega) (by omega)⟩, I, I⟩, ?_⟩
  refine g 17 21 [.call (V.i (k + logTopC (Boss.log x) + (↑(List.length (Boss.results x)) : Int) + sumI jobC (Boss.jobs x) + sumI seatC (Boss.seats x))) ([[V.own seatK (List.map seatT (mkL seatMk seatC (k + logTopC (Boss.log x) + (↑(List.length (Boss.results x)) : Int) + sumI jobC (Boss.jobs x)) (Boss.seats x)))], []])] ?_
  conv => whnf
  refine ⟨⟨I, I, I, ⟨⟨⟨I, I⟩, I, I⟩, I, ⟨I, ⟨I, I⟩, I⟩, ⟨I, I⟩, Go.K.c_laws_markSeatS _ _ (by omega) (by omega) (by omega)⟩, I, I⟩, ?_⟩
  refine g 21 25 [.call (V.i (k + logTopC (Boss.log x) + (↑(List.length (Boss.results x)) : Int) + sumI jobC (Boss.jobs x) + sumI seatC (Boss.seats x) + sumI owedC (Boss.owed x))) ([[V.own owedK (List.map owedT (mkL owedMk owedC (k + logTopC (Boss.log x) + (↑(List.length (Boss.results x)) : Int) + sumI jobC (Boss.jobs x) + sumI seatC (Boss.seats x)) (Boss.owed x)))], []])] ?_
  conv => whnf
  refine ⟨⟨I, I, I, ⟨⟨⟨I, I⟩, I, I⟩, I, ⟨I, ⟨I, I⟩, I⟩, ⟨I, I⟩, Go.K.c_laws_markOwedS _ _ (by omega) (by omega) (by omega)⟩, I, I⟩, ?_⟩
  refine g 1 3 [] ?_
  conv => whnf
  refine ⟨⟨I, I, I⟩, ?_⟩
  refine W.ret ?_
  refine EndsW.rt ?_
  conv => whnf
  refine ⟨⟨I, I, I⟩, ?_, rfl⟩
  exact vi (by omega)
theorem c_laws_heldBoss (x : Boss) (k : Int) (hl : x.log.safe.length ≤ 9223372036854775806 ∧ x.log.loose.length ≤ 9223372036854775806 ∧ x.results.length ≤ 9223372036854775806 ∧ x.jobs.length ≤ 9223372036854775806 ∧ x.seats.length ≤ 9223372036854775806 ∧ x.owed.length ≤ 9223372036854775806) (h0 : 0 ≤ k) (hk : k + bossTopC x ≤ 1099511627776) : F n_laws_heldBoss [.val (bossR (bossTop k x)), .val (.i k)] (.i (k + bossTopC x)) [[], []] := by
  obtain ⟨hl0, hl1, hl2, hl3, hl4, hl5⟩ := hl
  have hn0 := logTopC_nn x.log
  have hn1 := sum_nn jobC_nn x.jobs
  have hn2 := sum_nn seatC_nn x.seats
  have hn3 := sum_nn owedC_nn x.owed
  have hz : bossTopC x = logTopC x.log + x.results.length + sumI jobC x.jobs + sumI seatC x.seats + sumI owedC x.owed := rfl
  refine i_laws_heldBoss ?_
  conv => whnf
  refine g 0 1 [] ?_
  conv => whnf
  refine ⟨⟨⟨I, I, I, I, I, I, I, I, I, I, I, I, I⟩, I, I⟩, ?_⟩
  refine g 5 9 [.call (V.i (k + logTopC (Boss.log x))) ([[], []])] ?_
  conv => whnf
  refine ⟨⟨I, I, I, ⟨⟨I, I, I⟩, I, ⟨⟨I, I, I⟩, ⟨I, I⟩, I⟩, ⟨I, I⟩, Go.K.c_laws_heldLog _ _ (by omega) (by omega) (by omega)⟩, I, I⟩, ?_⟩
  refine W.sq ?_
  refine g 9 10 [] ?_
  conv => whnf
  refine ⟨⟨I, I, I⟩, ?_⟩
  refine W.cn ?_
  conv => whnf
  refine ⟨noT (decide_eq_false (by omega)), fun _ => ?_⟩
  refine W.skip ?_
  refine g 10 15 [.call (V.i (k + logTopC (Boss.log x) + (↑(List.length (Boss.results x)) : Int))) ([[], []])] ?_
  conv => whnf
  refine ⟨⟨I, I, I, ⟨⟨I, I, I⟩, I, ⟨⟨I, I⟩, ⟨I, I⟩, I⟩, ⟨I, I⟩, Go.K.c_laws_heldStringS _ _ (by omega) (by omega) (by omega)⟩, I, I⟩, ?_⟩
  refine W.sq ?_
  refine g 15 16 [] ?_
  conv => whnf
  refine ⟨⟨I, I, I⟩, ?_⟩
  refine W.cn ?_
  conv => whnf
  refine ⟨noT (decide_eq_false (by omega)), fun _ => ?_⟩
  refine W.skip ?_
  refine g 16 21 [.call (V.i (k + logTopC (Boss.log x) + (↑(List.length (Boss.results x)) : Int) + sumI jobC (Boss.jobs x))) ([[], []])] ?_
  conv => whnf
  refine ⟨⟨I, I, I, ⟨⟨I, I, I⟩, I, ⟨⟨I, I⟩, ⟨I, I⟩, I⟩, ⟨I, I⟩, Go.K.c_laws_heldJobS _ _ (by omega) (by omega) (by omega)⟩, I, I⟩, ?_⟩
  refine W.sq ?_
  refine g 21 22 [] ?_
  conv => whnf
  refine ⟨⟨I, I, I⟩, ?_⟩
  refine W.cn ?_
  conv => whnf
  refine ⟨noT (decide_eq_false (by omega)), fun _ => ?_⟩
  refine W.skip ?_
  refine g 22 27 [.call (V.i (k + logTopC (Boss.log x) + (↑(List.length (Boss.results x)) : Int) + sumI jobC (Boss.jobs x) + sumI seatC (Boss.seats x))) ([[], []])] ?_
  conv => whnf
  refine ⟨⟨I, I, I, ⟨⟨I, I, I⟩, I, ⟨⟨I, I⟩, ⟨I, I⟩, I⟩, ⟨I, I⟩, Go.K.c_laws_heldSeatS _ _ (by omega) (by omega) (by omega)⟩, I, I⟩, ?_⟩
  refine W.sq ?_
  refine g 27 28 [] ?_
  conv => whnf
  refine ⟨⟨I, I, I⟩, ?_⟩
  refine W.cn ?_
  conv => whnf
  refine ⟨noT (decide_eq_false (by omega)), fun _ => ?_⟩
  refine W.skip ?_
  refine g 28 33 [.call (V.i (k + logTopC (Boss.log x) + (↑(List.length (Boss.results x)) : Int) + sumI jobC (Boss.jobs x) + sumI seatC (Boss.seats x) + sumI owedC (Boss.owed x))) ([[], []])] ?_
  conv => whnf
  refine ⟨⟨I, I, I, ⟨⟨I, I, I⟩, I, ⟨⟨I, I⟩, ⟨I, I⟩, I⟩, ⟨I, I⟩, Go.K.c_laws_heldOwedS _ _ (by omega) (by omega) (by omega)⟩, I, I⟩, ?_⟩
  refine W.sq ?_
  refine g 2 3 [] ?_
  conv => whnf
  refine ⟨⟨I, I, I⟩, ?_⟩
  refine W.cn ?_
  conv => whnf
  refine ⟨noT (decide_eq_false (by omega)), fun _ => ?_⟩
  refine W.skip ?_
  refine g 33 36 [] ?_
  conv => whnf
  refine ⟨⟨I, I, I⟩, ?_⟩
  refine W.ret ?_
  refine EndsW.rt ?_
  conv => whnf
  refine ⟨⟨I, I, I⟩, ?_, rfl⟩
  exact vi (by omega)
end Go.K

end

section
set_option linter.unusedVariables false
set_option linter.unusedSimpArgs false
set_option maxHeartbeats 8000000
set_option maxRecDepth 20000
open Go Go.Tm Go.Proofs
namespace Go.K
theorem c_impl_Boss_twin (b : Boss) (h1 : b.log.safe.length ≤ 1048576) (h2 : b.log.loose.length ≤ 1048576) (h3 : b.results.length ≤ 1048576) (h4 : b.jobs.length ≤ 1048576) (h5 : b.seats.length ≤ 1048576) (h6 : b.owed.length ≤ 1048576) : F n_impl_Boss_twin [.val (bossR b)] (bossO b) [[]] := by
  refine i_impl_Boss_twin ?_
  conv => whnf
  refine g 0 0 [] ?_
  conv => whnf
  refine ⟨⟨⟨I, I, I, I, I, I, I, I, I, I, I, I, I⟩, I, I⟩, ?_⟩
  refine gd 3 13 [[], [], [], [.call (V.own [false] (List.map strT (Log.safe (Boss.log b)))) ([[]])], [], [], [], [.call (V.own [false] (List.map strT (Log.loose (Boss.log b)))) ([[]])], [], [], []] ?_
  conv => whnf
  refine ⟨⟨I, I, I, ⟨⟨I, I⟩, I, ⟨⟨I, I⟩, I⟩, ⟨I, I⟩, Go.K.c_impl_clone _ (by omega)⟩, I, I, I, ⟨⟨I, I⟩, I, ⟨⟨I, I⟩, I⟩, ⟨I, I⟩, Go.K.c_impl_clone _ (by omega)⟩, I, I, ⟨I, I, I⟩, I⟩, by kernel_rfl, ?_⟩
  refine g 13 17 [.call (V.own [false] (List.map strT (Boss.results b))) ([[]])] ?_
  conv => whnf
  refine ⟨⟨I, I, ⟨⟨I, I⟩, I, ⟨⟨I, I⟩, I⟩, ⟨I, I⟩, Go.K.c_impl_clone _ (by omega)⟩, I, ⟨I, I⟩, I⟩, ?_⟩
  refine g 17 22 [] ?_
  conv => whnf
  refine ⟨⟨I, I, I, ⟨I, I, (by simp only [List.length_map, List.length_append, List.length_set, List.length_replicate, List.length_cons, List.length_nil, List.length_take, List.length_drop, fill_len, fillI_len, List.length_range, bytesT_len]; omega)⟩, I, ⟨I, I⟩, I⟩, ?_⟩
  refine g 22 27 [] ?_
  conv => whnf
  refine ⟨⟨I, I, I, ⟨I, I, (by simp only [List.length_map, List.length_append, List.length_set, List.length_replicate, List.length_cons, List.length_nil, List.length_take, List.length_drop, fill_len, fillI_len, List.length_range, bytesT_len]; omega)⟩, I, ⟨I, I⟩, I⟩, ?_⟩
  refine g 27 32 [] ?_
  conv => whnf
  refine ⟨⟨I, I, I, ⟨I, I, (by simp only [List.length_map, List.length_append, List.length_set, List.length_replicate, List.length_cons, List.length_nil, List.length_take, List.length_drop, fill_len, fillI_len, List.length_range, bytesT_len]; omega)⟩, I, ⟨I, I⟩, I⟩, ?_⟩
  refine g 0 2 [] ?_
  conv => whnf
  refine ⟨⟨I, ⟨I, I, I, I, I, I, I, I, I, I, I, I, I⟩, I⟩, ?_⟩
  refine W.ret ?_
  refine EndsW.rt ?_
  conv => whnf
  refine ⟨⟨I, I, I, I, I, I, I, I, I, I, I, I, I, I⟩, ?_, rfl⟩
  rfl
theorem c_spec_l4Log (l : Log) (h1 : l.safe.length ≤ 1048576) (h2 : l.loose.length ≤ 1048576) : F n_spec_l4Log [.val (logR l)] (logO l) [[]] := by
  refine i_spec_l4Log ?_
  conv => whnf
  refine g 0 0 [] ?_
  conv => whnf
  refine ⟨⟨⟨I, I, I⟩, I, I⟩, ?_⟩
  refine gd 3 12 [[], [], [], [], [], [], [], [], [], []] ?_
  conv => whnf
  refine ⟨⟨I, I, I, ⟨I, I, (by simp only [List.length_map, List.length_append, List.length_set, List.length_replicate, List.length_cons, List.length_nil, List.length_take, List.length_drop, fill_len, fillI_len, List.length_range, bytesT_len]; omega)⟩, I, I, I, ⟨I, I, (by simp only [List.length_map, List.length_append, List.length_set, List.length_replicate, List.length_cons, List.length_nil, List.length_take, List.length_drop, fill_len, fillI_len, List.length_range, bytesT_len]; omega)⟩, I, ⟨I, I, I⟩, I⟩, by kernel_rfl, ?_⟩
  refine W.ret ?_
  refine EndsW.rt ?_
  conv => whnf
  refine ⟨⟨I, I, I, I⟩, ?_, rfl⟩
  rfl
theorem c_spec_l5Copy (b : Boss) (h1 : b.log.safe.length ≤ 1048576) (h2 : b.log.loose.length ≤ 1048576) (h3 : b.results.length ≤ 1048576) (h4 : b.jobs.length ≤ 1048576) (h5 : b.seats.length ≤ 1048576) (h6 : b.owed.length ≤ 1048576) : F n_spec_l5Copy [.val (bossR b)] (bossO b) [[]] := by
  have c1 := c_spec_l4Log b.log h1 h2
  refine i_spec_l5Copy ?_
  conv => whnf
  refine g 0 1 [] ?_
  conv => whnf
  refine ⟨⟨⟨I, I, I, I, I, I, I, I, I, I, I, I, I⟩, I, I⟩, ?_⟩
  refine g 3 7 [.call (logO (Boss.log b)) ([[]])] ?_
  conv => whnf
  refine ⟨⟨I, I, ⟨⟨I, I⟩, I, ⟨⟨I, I, I⟩, I⟩, ⟨I, I⟩, (by assumption)⟩, I, ⟨I, I, I⟩, I⟩, ?_⟩
  refine g 7 12 [] ?_
  conv => whnf
  refine ⟨⟨I, I, I, ⟨I, I, (by simp only [List.length_map, List.length_append, List.length_set, List.length_replicate, List.length_cons, List.length_nil, List.length_take, List.length_drop, fill_len, fillI_len, List.length_range, bytesT_len]; omega)⟩, I, ⟨I, I⟩, I⟩, ?_⟩
  refine g 12 17 [] ?_
  conv => whnf
  refine ⟨⟨I, I, I, ⟨I, I, (by simp only [List.length_map, List.length_append, List.length_set, List.length_replicate, List.length_cons, List.length_nil, List.length_take, List.length_drop, fill_len, fillI_len, List.length_range, bytesT_len]; omega)⟩, I, ⟨I, I⟩, I⟩, ?_⟩
  refine g 17 22 [] ?_
  conv => whnf
  refine ⟨⟨I, I, I, ⟨I, I, (by simp only [List.length_map, List.length_append, List.length_set, List.length_replicate, List.length_cons, List.length_nil, List.length_take, List.length_drop, fill_len, fillI_len, List.length_range, bytesT_len]; omega)⟩, I, ⟨I, I⟩, I⟩, ?_⟩
  refine g 22 27 [] ?_
  conv => whnf
  refine ⟨⟨I, I, I, ⟨I, I, (by simp only [List.length_map, List.length_append, List.length_set, List.length_replicate, List.length_cons, List.length_nil, List.length_take, List.length_drop, fill_len, fillI_len, List.length_range, bytesT_len]; omega)⟩, I, ⟨I, I⟩, I⟩, ?_⟩
  refine g 1 2 [] ?_
  conv => whnf
  refine ⟨⟨I, ⟨I, I, I, I, I, I, I, I, I, I, I, I, I⟩, I⟩, ?_⟩
  refine W.ret ?_
  refine EndsW.rt ?_
  conv => whnf
  refine ⟨⟨I, I, I, I, I, I, I, I, I, I, I, I, I, I⟩, ?_, rfl⟩
  rfl
def clipK (k : Int) (n : Nat) : Nat := if k < 0 then 0 else if k < n then k.toNat else n
theorem clip_neg {k : Int} {n : Nat} (h : k < 0) : clipK k n = 0 := if_pos h
theorem clip_mid {k : Int} {n : Nat} (h : 0 ≤ k) (h2 : k < n) : clipK k n = k.toNat := by rw [clipK, if_neg (by omega), if_pos h2]
theorem clip_top {k : Int} {n : Nat} (h2 : (n : Int) ≤ k) : clipK k n = n := by rw [clipK, if_neg (by omega), if_neg (by omega)]
theorem clip_le (k : Int) (n : Nat) : clipK k n ≤ n := by
  unfold clipK; split
  · omega
  · split <;> omega
theorem clip_eq (k : Int) (n : Nat) : max 0 (min k (n : Int)) = (clipK k n : Int) := by
  unfold clipK; split
  · omega
  · split <;> omega
theorem clip_w (k : Int) (n : Nat) (h : n ≤ 1048576) : IntKind.i64.wrap (max 0 (min k (n : Int))) = (clipK k n : Int) := by
  rw [clip_eq]
  have := clip_le k n
  exact w64 (by omega) (by omega)
def fallB (b : Boss) (k : Int) : Boss := if b.up = false then b else ⟨b.workers, false, b.now, 0, 0, 0, ⟨b.log.safe ++ b.log.loose.take (clipK k b.log.loose.length), []⟩, [], [], [], []⟩
theorem fall_down {b : Boss} {k : Int} (h : b.up = false) : fallB b k = b := if_pos h
theorem fall_up {b : Boss} {k : Int} (h : ¬ b.up = false) : fallB b k = ⟨b.workers, false, b.now, 0, 0, 0, ⟨b.log.safe ++ b.log.loose.take (clipK k b.log.loose.length), []⟩, [], [], [], []⟩ := if_neg h
theorem c_impl_Boss_fall (b : Boss) (k : Int) (h1 : b.log.safe.length ≤ 1048576) (h2 : b.log.loose.length ≤ 1048576) : F n_impl_Boss_fall [.ptr (cellsOf (bossO b)), .val (.i k)] (.tup []) [cellsOf (bossO (fallB b k)), []] := by
  by_cases hup : b.up = false
  · rw [fall_down hup]
    refine i_impl_Boss_fall ?_
    conv => whnf
    refine g 4 6 [] ?_
    conv => whnf
    refine ⟨⟨I, I, I, I, I⟩, ?_⟩
    refine W.cn ?_
    conv => whnf
    refine ⟨noT (by assumption), fun _ => ?_⟩
    refine W.skip ?_
    refine EndsW.nm ?_
    conv => whnf
    refine ⟨I, ?_, rfl⟩
    rfl
  · rw [fall_up hup]
    have hcl := clip_le k b.log.loose.length
    have hw : IntKind.i64.wrap (max 0 (min k ((List.map strT b.log.loose).length : Int))) = (clipK k b.log.loose.length : Int) := by rw [List.length_map]; exact clip_w _ _ h2
    refine i_impl_Boss_fall ?_
    conv => whnf
    refine g 4 6 [] ?_
    conv => whnf
    refine ⟨⟨I, I, I, I, I⟩, ?_⟩
    refine W.cn ?_
    conv => whnf
    refine ⟨fun _ => ?_, noF (by simp [*])⟩
    refine g 7 17 [.i (match false with | true => max k (↑(List.length (List.map strT (Log.loose (Boss.log b)))) : Int) | false => min k (↑(List.length (List.map strT (Log.loose (Boss.log b)))) : Int)), .i (IntKind.wrap IntKind.i64   (match true with   | true =>     max (0 : Int)       (match false with       | true => max k (↑(List.length (List.map strT (Log.loose (Boss.log b)))) : Int)       | false => min k (↑(List.length (List.map strT (Log.loose (Boss.log b)))) : Int))   | false =>     min (0 : Int)       (match false with       | true => max k (↑(List.length (List.map strT (Log.loose (Boss.log b)))) : Int)       | false => min k (↑(List.length (List.map strT (Log.loose (Boss.log b)))) : Int))))] ?_
    conv => whnf
    refine ⟨⟨I, I, I, I, I, I, I, rfl, w64 (by simp only [List.length_map, List.length_append, List.length_set, List.length_replicate, List.length_cons, List.length_nil, List.length_take, List.length_drop, fill_len, fillI_len, List.length_range, bytesT_len]; omega) (by simp only [List.length_map, List.length_append, List.length_set, List.length_replicate, List.length_cons, List.length_nil, List.length_take, List.length_drop, fill_len, fillI_len, List.length_range, bytesT_len]; omega), I, I⟩, ?_⟩
    refine rgd [[], [], [], [], [], [], [], [], [], [], [], [], [], [], [], [], [], [], [], [], [.n (clipK k (List.length (Log.loose (Boss.log b))))], [], [], [], [], []] ?_
    conv => whnf
    refine ⟨⟨I, I, I, I, I, I, I, I, I, I, I, I, I, I, I, I, I, I, I, I, ⟨I, hw, I, (by omega), (by simp only [List.length_map, List.length_append, List.length_set, List.length_replicate, List.length_cons, List.length_nil, List.length_take, List.length_drop, fill_len, fillI_len, List.length_range, bytesT_len]; omega)⟩, ⟨I, I, (by simp only [List.length_map, List.length_append, List.length_set, List.length_replicate, List.length_cons, List.length_nil, List.length_take, List.length_drop, fill_len, fillI_len, List.length_range, bytesT_len]; omega)⟩, I, I, I, ⟨I, I, I, I, I, I, I, I, I, I, I, I, I⟩, I⟩, by kernel_rfl, ?_⟩
    refine EndsW.nm ?_
    conv => whnf
    refine ⟨I, ?_, ?_⟩
    rfl
    all_goals (simp only [List.nil_append, List.drop_zero, List.length_map, ← List.map_take, ← List.map_append]; rfl)
structure BossLim (b : Boss) : Prop where
  safe : b.log.safe.length ≤ 1048576
  loose : b.log.loose.length ≤ 1048576
  all : ∀ s ∈ b.log.safe ++ b.log.loose, s.size ≤ 281474976710656
  res : b.results.length ≤ 1048576
  jobs : b.jobs.length ≤ 1048576
  seats : b.seats.length ≤ 1048576
  owed : b.owed.length ≤ 1048576
theorem boss_lim {b : Boss} (h : bossSz b ≤ 1048576) : BossLim b := by
  obtain ⟨b1, b2, b3, b4, b5, b6, b7⟩ := boss_bounds h
  exact ⟨b1, b2, b3, b4, b5, b6, b7⟩
theorem ci_valid (b : Boss) (p : Plan) (hp : planWf p) (h : BossLim b) : F n_impl_ValidBoss [.val (bossR b), .val (planR p)] (.b (decide (BossOk b p))) [[], []] := c_impl_ValidBoss b p hp h.safe h.loose h.all h.res h.jobs h.seats h.owed
theorem cs_valid (b : Boss) (p : Plan) (hp : planWf p) (h : BossLim b) : F n_spec_ValidBoss [.val (bossR b), .val (planR p)] (.b (decide (BossOk b p))) [[], []] := c_spec_ValidBoss b p hp h.safe h.loose h.all h.res h.jobs h.seats h.owed
theorem ci_twin (b : Boss) (h : BossLim b) : F n_impl_Boss_twin [.val (bossR b)] (bossO b) [[]] := c_impl_Boss_twin b h.safe h.loose h.res h.jobs h.seats h.owed
theorem cs_copy (b : Boss) (h : BossLim b) : F n_spec_l5Copy [.val (bossR b)] (bossO b) [[]] := c_spec_l5Copy b h.safe h.loose h.res h.jobs h.seats h.owed
noncomputable def bFall (b : Boss) (p : Plan) (k : Int) : Boss := if BossOk b p then fallB b k else noBoss
theorem bfall_ok {b : Boss} {p : Plan} {k : Int} (h : BossOk b p) : bFall b p k = fallB b k := if_pos h
theorem bfall_no {b : Boss} {p : Plan} {k : Int} (h : ¬ BossOk b p) : bFall b p k = noBoss := if_neg h
theorem c_impl_BossFall (b : Boss) (p : Plan) (k : Int) (hp : planWf p) (h : BossLim b) : F n_impl_BossFall [.val (bossR b), .val (planR p), .val (.i k)] (bossO (bFall b p k)) [[], [], []] := by
  have cv := ci_valid b p hp h
  by_cases hv : BossOk b p
  · rw [decide_eq_true hv] at cv
    rw [bfall_ok hv]
    have ct := ci_twin b h
    have cf := c_impl_Boss_fall b k h.safe h.loose
    refine i_impl_BossFall ?_
    conv => whnf
    refine g 0 2 [] ?_
    conv => whnf
    refine ⟨⟨⟨I, I, I, I, I, I, I, I, I, I, I, I, I⟩, ⟨I, I⟩, I, I⟩, ?_⟩
    refine W.sq ?_
    refine g 7 10 [.call (V.b true) ([[], []])] ?_
    conv => whnf
    refine ⟨⟨I, I, ⟨⟨I, I, I⟩, I, ⟨⟨I, I, I, I, I, I, I, I, I, I, I, I, I⟩, ⟨I, I⟩, I⟩, ⟨I, I⟩, (by assumption)⟩, I, I⟩, ?_⟩
    refine W.cn ?_
    conv => whnf
    refine ⟨noT (rfl), fun _ => ?_⟩
    refine W.skip ?_
    refine g 10 14 [.call (bossO b) ([[]])] ?_
    conv => whnf
    refine ⟨⟨I, ⟨⟨I, I⟩, I, ⟨⟨I, I, I, I, I, I, I, I, I, I, I, I, I⟩, I⟩, ⟨I, I⟩, (by assumption)⟩, ⟨I, I, I, I, I, I, I, I, I, I, I, I, I⟩, I⟩, ?_⟩
    refine g 14 16 [.call (V.tup []) ([cellsOf (bossO (fallB b k)), []])] ?_
    conv => whnf
    refine ⟨⟨I, ⟨⟨I, I, I⟩, I, ⟨I, ⟨I, I⟩, I⟩, ⟨I, I⟩, (by assumption)⟩, I⟩, ?_⟩
    refine g 2 5 [] ?_
    conv => whnf
    refine ⟨⟨I, ⟨I, I, I, I, I, I, I, I, I, I, I, I, I⟩, I⟩, ?_⟩
    refine W.ret ?_
    refine EndsW.rt ?_
    conv => whnf
    refine ⟨⟨I, I, I, I, I, I, I, I, I, I, I, I, I, I⟩, ?_, rfl⟩
    rfl
  · rw [decide_eq_false hv] at cv
    rw [bfall_no hv]
    refine i_impl_BossFall ?_
    conv => whnf
    refine g 0 2 [] ?_
    conv => whnf
    refine ⟨⟨⟨I, I, I, I, I, I, I, I, I, I, I, I, I⟩, ⟨I, I⟩, I, I⟩, ?_⟩
    refine W.sq ?_
    refine g 7 10 [.call (V.b false) ([[], []])] ?_
    conv => whnf
    refine ⟨⟨I, I, ⟨⟨I, I, I⟩, I, ⟨⟨I, I, I, I, I, I, I, I, I, I, I, I, I⟩, ⟨I, I⟩, I⟩, ⟨I, I⟩, (by assumption)⟩, I, I⟩, ?_⟩
    refine W.cn ?_
    conv => whnf
    refine ⟨fun _ => ?_, noF (rfl)⟩
    refine g 10 12 [] ?_
    conv => whnf
    refine ⟨⟨I, ⟨I, I, I, I, I, I, I, I, I, I, I, I, I⟩, I⟩, ?_⟩
    refine W.ret ?_
    refine EndsW.rt ?_
    conv => whnf
    refine ⟨⟨I, I, I, I, I, I, I, I, I, I, I, I, I, I⟩, ?_, rfl⟩
    rfl
theorem c_spec_BossFall (b : Boss) (p : Plan) (k : Int) (hp : planWf p) (h : BossLim b) : F n_spec_BossFall [.val (bossR b), .val (planR p), .val (.i k)] (bossO (bFall b p k)) [[], [], []] := by
  have cv := cs_valid b p hp h
  have h1 := h.safe
  have h2 := h.loose
  by_cases hv : BossOk b p
  · rw [decide_eq_true hv] at cv
    rw [bfall_ok hv]
    have ct := cs_copy b h
    by_cases hup : b.up = false
    · rw [fall_down hup]
      refine i_spec_BossFall ?_
      conv => whnf
      refine g 1 2 [] ?_
      conv => whnf
      refine ⟨⟨⟨I, I, I, I, I, I, I, I, I, I, I, I, I⟩, ⟨I, I⟩, I, I⟩, ?_⟩
      refine W.sq ?_
      refine g 7 10 [.call (V.b true) ([[], []])] ?_
      conv => whnf
      refine ⟨⟨I, I, ⟨⟨I, I, I⟩, I, ⟨⟨I, I, I, I, I, I, I, I, I, I, I, I, I⟩, ⟨I, I⟩, I⟩, ⟨I, I⟩, (by assumption)⟩, I, I⟩, ?_⟩
      refine W.cn ?_
      conv => whnf
      refine ⟨noT (rfl), fun _ => ?_⟩
      refine W.skip ?_
      refine W.sq ?_
      refine g 10 14 [] ?_
      conv => whnf
      refine ⟨⟨I, I, I, I⟩, ?_⟩
      refine W.cn ?_
      conv => whnf
      refine ⟨fun _ => ?_, noF (nbT (by assumption))⟩
      refine g 14 17 [.call (bossO b) ([[]])] ?_
      conv => whnf
      refine ⟨⟨I, ⟨⟨I, I⟩, I, ⟨⟨I, I, I, I, I, I, I, I, I, I, I, I, I⟩, I⟩, ⟨I, I⟩, (by assumption)⟩, ⟨I, I, I, I, I, I, I, I, I, I, I, I, I⟩, I⟩, ?_⟩
      refine W.ret ?_
      refine EndsW.rt ?_
      conv => whnf
      refine ⟨⟨I, I, I, I, I, I, I, I, I, I, I, I, I, I⟩, ?_, rfl⟩
      rfl
    · rw [fall_up hup]
      by_cases hk : k < 0
      · rw [clip_neg hk]
        refine i_spec_BossFall ?_
        conv => whnf
        refine g 1 2 [] ?_
        conv => whnf
        refine ⟨⟨⟨I, I, I, I, I, I, I, I, I, I, I, I, I⟩, ⟨I, I⟩, I, I⟩, ?_⟩
        refine W.sq ?_
        refine g 7 10 [.call (V.b true) ([[], []])] ?_
        conv => whnf
        refine ⟨⟨I, I, ⟨⟨I, I, I⟩, I, ⟨⟨I, I, I, I, I, I, I, I, I, I, I, I, I⟩, ⟨I, I⟩, I⟩, ⟨I, I⟩, (by assumption)⟩, I, I⟩, ?_⟩
        refine W.cn ?_
        conv => whnf
        refine ⟨noT (rfl), fun _ => ?_⟩
        refine W.skip ?_
        refine W.sq ?_
        refine g 10 14 [] ?_
        conv => whnf
        refine ⟨⟨I, I, I, I⟩, ?_⟩
        refine W.cn ?_
        conv => whnf
        refine ⟨noT (by simp [*]), fun _ => ?_⟩
        refine W.skip ?_
        refine W.sq ?_
        refine g 14 18 [] ?_
        conv => whnf
        refine ⟨⟨I, I, I⟩, ?_⟩
        refine W.cn ?_
        conv => whnf
        refine ⟨fun _ => ?_, noF (decide_eq_true (by omega))⟩
        refine rg [] ?_
        conv => whnf
        refine ⟨⟨I, I⟩, ?_⟩
        refine W.sq ?_
        refine g 18 24 [] ?_
        conv => whnf
        refine ⟨⟨I, I, I, I, I, I, I⟩, ?_⟩
        refine W.cn ?_
        conv => whnf
        refine ⟨noT (rfl), fun _ => ?_⟩
        refine W.skip ?_
        refine gd 24 40 [[], [], [], [], [], [], [], [], [], [], [], [], [], [.n ((0 : Nat))], [], [], [], []] ?_
        conv => whnf
        refine ⟨⟨I, I, I, I, I, I, I, I, ⟨I, I, (by simp only [List.length_map, List.length_append, List.length_set, List.length_replicate, List.length_cons, List.length_nil, List.length_take, List.length_drop, fill_len, fillI_len, List.length_range, bytesT_len]; omega)⟩, I, I, I, I, ⟨I, rfl, I, (by omega), (by omega)⟩, ⟨I, I, (by simp only [List.length_map, List.length_append, List.length_set, List.length_replicate, List.length_cons, List.length_nil, List.length_take, List.length_drop, fill_len, fillI_len, List.length_range, bytesT_len]; omega)⟩, I, I, ⟨I, I, I, I, I, I, I, I, I, I, I, I, I⟩, I⟩, by kernel_rfl, ?_⟩
        refine W.ret ?_
        refine EndsW.rt ?_
        conv => whnf
        refine ⟨⟨I, I, I, I, I, I, I, I, I, I, I, I, I, I⟩, ?_, rfl⟩
        all_goals (simp only [List.nil_append, List.drop_zero, List.length_map, ← List.map_take, ← List.map_append]; rfl)
      · by_cases hk2 : k < b.log.loose.length
        · rw [clip_mid (by omega) hk2]
          refine i_spec_BossFall ?_
          conv => whnf
          refine g 1 2 [] ?_
          conv => whnf
          refine ⟨⟨⟨I, I, I, I, I, I, I, I, I, I, I, I, I⟩, ⟨I, I⟩, I, I⟩, ?_⟩
          refine W.sq ?_
          refine g 7 10 [.call (V.b true) ([[], []])] ?_
          conv => whnf
          refine ⟨⟨I, I, ⟨⟨I, I, I⟩, I, ⟨⟨I, I, I, I, I, I, I, I, I, I, I, I, I⟩, ⟨I, I⟩, I⟩, ⟨I, I⟩, (by assumption)⟩, I, I⟩, ?_⟩
          refine W.cn ?_
          conv => whnf
          refine ⟨noT (rfl), fun _ => ?_⟩
          refine W.skip ?_
          refine W.sq ?_
          refine g 10 14 [] ?_
          conv => whnf
          refine ⟨⟨I, I, I, I⟩, ?_⟩
          refine W.cn ?_
          conv => whnf
          refine ⟨noT (by simp [*]), fun _ => ?_⟩
          refine W.skip ?_
          refine W.sq ?_
          refine g 14 18 [] ?_
          conv => whnf
          refine ⟨⟨I, I, I⟩, ?_⟩
          refine W.cn ?_
          conv => whnf
          refine ⟨noT (decide_eq_false (by omega)), fun _ => ?_⟩
          refine W.skip ?_
          refine W.sq ?_
          refine g 18 24 [] ?_
          conv => whnf
          refine ⟨⟨I, I, I, I, I, I, I⟩, ?_⟩
          refine W.cn ?_
          conv => whnf
          refine ⟨fun h3 => ?_, fun h3 => ?_⟩
          replace h3 := dt h3
          simp only [List.length_map] at h3
          omega
          replace h3 := df h3
          simp only [List.length_map] at h3
          refine W.skip ?_
          refine gd 24 40 [[], [], [], [], [], [], [], [], [], [], [], [], [], [.n (Int.toNat k)], [], [], [], []] ?_
          conv => whnf
          refine ⟨⟨I, I, I, I, I, I, I, I, ⟨I, I, (by simp only [List.length_map, List.length_append, List.length_set, List.length_replicate, List.length_cons, List.length_nil, List.length_take, List.length_drop, fill_len, fillI_len, List.length_range, bytesT_len]; omega)⟩, I, I, I, I, ⟨I, (by omega), I, (by omega), (by simp only [List.length_map, List.length_append, List.length_set, List.length_replicate, List.length_cons, List.length_nil, List.length_take, List.length_drop, fill_len, fillI_len, List.length_range, bytesT_len]; omega)⟩, ⟨I, I, (by simp only [List.length_map, List.length_append, List.length_set, List.length_replicate, List.length_cons, List.length_nil, List.length_take, List.length_drop, fill_len, fillI_len, List.length_range, bytesT_len]; omega)⟩, I, I, ⟨I, I, I, I, I, I, I, I, I, I, I, I, I⟩, I⟩, by kernel_rfl, ?_⟩
          refine W.ret ?_
          refine EndsW.rt ?_
          conv => whnf
          refine ⟨⟨I, I, I, I, I, I, I, I, I, I, I, I, I, I⟩, ?_, rfl⟩
          all_goals first | (exfalso; omega) | (simp only [List.nil_append, List.drop_zero, List.length_map, ← List.map_take, ← List.map_append]; rfl)
        · rw [clip_top (by omega)]
          refine i_spec_BossFall ?_
          conv => whnf
          refine g 1 2 [] ?_
          conv => whnf
          refine ⟨⟨⟨I, I, I, I, I, I, I, I, I, I, I, I, I⟩, ⟨I, I⟩, I, I⟩, ?_⟩
          refine W.sq ?_
          refine g 7 10 [.call (V.b true) ([[], []])] ?_
          conv => whnf
          refine ⟨⟨I, I, ⟨⟨I, I, I⟩, I, ⟨⟨I, I, I, I, I, I, I, I, I, I, I, I, I⟩, ⟨I, I⟩, I⟩, ⟨I, I⟩, (by assumption)⟩, I, I⟩, ?_⟩
          refine W.cn ?_
          conv => whnf
          refine ⟨noT (rfl), fun _ => ?_⟩
          refine W.skip ?_
          refine W.sq ?_
          refine g 10 14 [] ?_
          conv => whnf
          refine ⟨⟨I, I, I, I⟩, ?_⟩
          refine W.cn ?_
          conv => whnf
          refine ⟨noT (by simp [*]), fun _ => ?_⟩
          refine W.skip ?_
          refine W.sq ?_
          refine g 14 18 [] ?_
          conv => whnf
          refine ⟨⟨I, I, I⟩, ?_⟩
          refine W.cn ?_
          conv => whnf
          refine ⟨noT (decide_eq_false (by omega)), fun _ => ?_⟩
          refine W.skip ?_
          refine W.sq ?_
          refine g 18 24 [] ?_
          conv => whnf
          refine ⟨⟨I, I, I, I, I, I, I⟩, ?_⟩
          refine W.cn ?_
          conv => whnf
          refine ⟨fun h3 => ?_, fun h3 => ?_⟩
          replace h3 := dt h3
          simp only [List.length_map] at h3
          refine rg [] ?_
          conv => whnf
          refine ⟨⟨I, I, I, I, I, I⟩, ?_⟩
          refine gd 24 40 [[], [], [], [], [], [], [], [], [], [], [], [], [], [.n (List.length (List.map strT (Log.loose (Boss.log b))))], [], [], [], []] ?_
          conv => whnf
          refine ⟨⟨I, I, I, I, I, I, I, I, ⟨I, I, (by simp only [List.length_map, List.length_append, List.length_set, List.length_replicate, List.length_cons, List.length_nil, List.length_take, List.length_drop, fill_len, fillI_len, List.length_range, bytesT_len]; omega)⟩, I, I, I, I, ⟨I, rfl, I, (by omega), (by omega)⟩, ⟨I, I, (by simp only [List.length_map, List.length_append, List.length_set, List.length_replicate, List.length_cons, List.length_nil, List.length_take, List.length_drop, fill_len, fillI_len, List.length_range, bytesT_len]; omega)⟩, I, I, ⟨I, I, I, I, I, I, I, I, I, I, I, I, I⟩, I⟩, by kernel_rfl, ?_⟩
          refine W.ret ?_
          refine EndsW.rt ?_
          conv => whnf
          refine ⟨⟨I, I, I, I, I, I, I, I, I, I, I, I, I, I⟩, ?_, rfl⟩
          rotate_left 1
          replace h3 := df h3
          simp only [List.length_map] at h3
          refine W.skip ?_
          refine gd 24 40 [[], [], [], [], [], [], [], [], [], [], [], [], [], [.n (Int.toNat k)], [], [], [], []] ?_
          conv => whnf
          refine ⟨⟨I, I, I, I, I, I, I, I, ⟨I, I, (by simp only [List.length_map, List.length_append, List.length_set, List.length_replicate, List.length_cons, List.length_nil, List.length_take, List.length_drop, fill_len, fillI_len, List.length_range, bytesT_len]; omega)⟩, I, I, I, I, ⟨I, (by omega), I, (by omega), (by simp only [List.length_map, List.length_append, List.length_set, List.length_replicate, List.length_cons, List.length_nil, List.length_take, List.length_drop, fill_len, fillI_len, List.length_range, bytesT_len]; omega)⟩, ⟨I, I, (by simp only [List.length_map, List.length_append, List.length_set, List.length_replicate, List.length_cons, List.length_nil, List.length_take, List.length_drop, fill_len, fillI_len, List.length_range, bytesT_len]; omega)⟩, I, I, ⟨I, I, I, I, I, I, I, I, I, I, I, I, I⟩, I⟩, by kernel_rfl, ?_⟩
          refine W.ret ?_
          refine EndsW.rt ?_
          conv => whnf
          refine ⟨⟨I, I, I, I, I, I, I, I, I, I, I, I, I, I⟩, ?_, rfl⟩
          rotate_left 1
          · simp only [List.nil_append, List.drop_zero, List.length_map, ← List.map_take, ← List.map_append]; rfl
          · have e : k = b.log.loose.length := by omega
            subst e
            simp only [List.nil_append, List.drop_zero, List.length_map, Int.toNat_natCast, ← List.map_take, ← List.map_append]; rfl
  · rw [decide_eq_false hv] at cv
    rw [bfall_no hv]
    refine i_spec_BossFall ?_
    conv => whnf
    refine g 1 2 [] ?_
    conv => whnf
    refine ⟨⟨⟨I, I, I, I, I, I, I, I, I, I, I, I, I⟩, ⟨I, I⟩, I, I⟩, ?_⟩
    refine W.sq ?_
    refine g 7 10 [.call (V.b false) ([[], []])] ?_
    conv => whnf
    refine ⟨⟨I, I, ⟨⟨I, I, I⟩, I, ⟨⟨I, I, I, I, I, I, I, I, I, I, I, I, I⟩, ⟨I, I⟩, I⟩, ⟨I, I⟩, (by assumption)⟩, I, I⟩, ?_⟩
    refine W.cn ?_
    conv => whnf
    refine ⟨fun _ => ?_, noF (rfl)⟩
    refine g 10 12 [] ?_
    conv => whnf
    refine ⟨⟨I, ⟨I, I, I, I, I, I, I, I, I, I, I, I, I⟩, I⟩, ?_⟩
    refine W.ret ?_
    refine EndsW.rt ?_
    conv => whnf
    refine ⟨⟨I, I, I, I, I, I, I, I, I, I, I, I, I, I⟩, ?_, rfl⟩
    rfl
end Go.K

end

section
set_option linter.unusedVariables false
set_option linter.unusedSimpArgs false
set_option maxHeartbeats 8000000
set_option maxRecDepth 20000
open Go Go.Tm Go.Proofs
namespace Go.K
theorem sum_jobC : ∀ l : List Job, sumI jobC l = 3 * (l.length : Int)
  | [] => by simp [sumI]
  | x :: l => by have := sum_jobC l; simp only [sumI, jobC, List.length_cons]; omega
theorem sum_seatC : ∀ l : List Seat, sumI seatC l = 2 * (l.length : Int)
  | [] => by simp [sumI]
  | x :: l => by have := sum_seatC l; simp only [sumI, seatC, List.length_cons]; omega
theorem sum_owedC : ∀ l : List Owed, sumI owedC l = 3 * (l.length : Int)
  | [] => by simp [sumI]
  | x :: l => by have := sum_owedC l; simp only [sumI, owedC, List.length_cons]; omega
theorem bossTopC_len (x : Boss) : bossTopC x = x.log.safe.length + x.log.loose.length + x.results.length + 3 * x.jobs.length + 2 * x.seats.length + 3 * x.owed.length := by
  simp only [bossTopC, logTopC, sum_jobC, sum_seatC, sum_owedC]
structure BossSmall (b : Boss) : Prop where
  safe : b.log.safe.length ≤ 4194304
  loose : b.log.loose.length ≤ 4194304
  res : b.results.length ≤ 4194304
  jobs : b.jobs.length ≤ 4194304
  seats : b.seats.length ≤ 4194304
  owed : b.owed.length ≤ 4194304
theorem small_no : BossSmall noBoss := ⟨by decide, by decide, by decide, by decide, by decide, by decide⟩
theorem small_lim {b : Boss} (h : BossLim b) : BossSmall b := by
  obtain ⟨h1, h2, h3, h4, h5, h6, h7⟩ := h
  exact ⟨by omega, by omega, by omega, by omega, by omega, by omega⟩
theorem small_boss {b : Boss} (h : BossSmall b) : bossLen b ∧ (b.log.safe.length ≤ 9223372036854775806 ∧ b.log.loose.length ≤ 9223372036854775806 ∧ b.results.length ≤ 9223372036854775806 ∧ b.jobs.length ≤ 9223372036854775806 ∧ b.seats.length ≤ 9223372036854775806 ∧ b.owed.length ≤ 9223372036854775806) ∧ bossTopC b ≤ 100000000 ∧ 0 ≤ bossTopC b := by
  obtain ⟨h1, h2, h3, h4, h5, h6⟩ := h
  have e := bossTopC_len b
  exact ⟨⟨by omega, by omega, by omega, by omega, by omega, by omega⟩, ⟨by omega, by omega, by omega, by omega, by omega, by omega⟩, by omega, by omega⟩
theorem bfall_small {b : Boss} (p : Plan) (k : Int) (h : BossLim b) : BossSmall (bFall b p k) := by
  unfold bFall; split
  · unfold fallB; split
    · exact small_lim h
    · have h1 := h.safe
      have h2 := h.loose
      have h3 := clip_le k b.log.loose.length
      refine ⟨?_, Nat.zero_le _, Nat.zero_le _, Nat.zero_le _, Nat.zero_le _, Nat.zero_le _⟩
      simp only [List.length_append, List.length_take]; omega
  · exact small_no
theorem l_FnExactBossFall (b : Boss) (hw : bossWf b) (p : Plan) (hp : planWf p) (k : Int) : F n_laws_FnExactBossFall [.val (bossR b), .val (planR p), .val (.i k)] (.b true) [[], [], []] := by
  have c0 := c_laws_szBoss b 1048576 hw (by omega) (by omega)
  have hbn := bossSz_nn b
  by_cases hq : (1048576 : Int) - bossSz b < 0
  · rw [if_pos hq] at c0
    refine i_laws_FnExactBossFall ?_
    conv => whnf
    refine g 0 2 [] ?_
    conv => whnf
    refine ⟨⟨⟨I, I, I, I, I, I, I, I, I, I, I, I, I⟩, ⟨I, I⟩, I, I⟩, ?_⟩
    refine g 0 0 [] ?_
    conv => whnf
    refine ⟨⟨I, I⟩, ?_⟩
    refine g 16 19 [.call (V.i (-1 : Int)) ([[], []])] ?_
    conv => whnf
    refine ⟨⟨I, I, ⟨⟨I, I, I⟩, I, ⟨⟨I, I, I, I, I, I, I, I, I, I, I, I, I⟩, ⟨I, I⟩, I⟩, ⟨I, I⟩, (by assumption)⟩, I, I⟩, ?_⟩
    refine W.sq ?_
    refine g 19 20 [] ?_
    conv => whnf
    refine ⟨⟨I, I, I⟩, ?_⟩
    refine W.cn ?_
    conv => whnf
    refine ⟨fun _ => ?_, noF (rfl)⟩
    refine g 20 21 [] ?_
    conv => whnf
    refine ⟨⟨I, I⟩, ?_⟩
    refine W.ret ?_
    refine EndsW.rt ?_
    conv => whnf
    refine ⟨⟨I, I, I⟩, ?_, rfl⟩
    rfl
  · rw [if_neg hq] at c0
    have c9 := c_laws_szPlan p (1048576 - bossSz b) hp (by omega) (by omega)
    have hpn := planSz_nn p
    by_cases hq2 : (1048576 : Int) - bossSz b - planSz p < 0
    · rw [if_pos hq2] at c9
      refine i_laws_FnExactBossFall ?_
      conv => whnf
      refine g 0 2 [] ?_
      conv => whnf
      refine ⟨⟨⟨I, I, I, I, I, I, I, I, I, I, I, I, I⟩, ⟨I, I⟩, I, I⟩, ?_⟩
      refine g 0 0 [] ?_
      conv => whnf
      refine ⟨⟨I, I⟩, ?_⟩
      refine g 16 19 [.call (V.i ((1048576 : Int) - bossSz b)) ([[], []])] ?_
      conv => whnf
      refine ⟨⟨I, I, ⟨⟨I, I, I⟩, I, ⟨⟨I, I, I, I, I, I, I, I, I, I, I, I, I⟩, ⟨I, I⟩, I⟩, ⟨I, I⟩, (by assumption)⟩, I, I⟩, ?_⟩
      refine W.sq ?_
      refine g 19 20 [] ?_
      conv => whnf
      refine ⟨⟨I, I, I⟩, ?_⟩
      refine W.cn ?_
      conv => whnf
      refine ⟨noT (decide_eq_false (by omega)), fun _ => ?_⟩
      refine W.skip ?_
      refine g 20 24 [.call (V.i (-1 : Int)) ([[], []])] ?_
      conv => whnf
      refine ⟨⟨I, I, ⟨⟨I, I, I⟩, I, ⟨⟨I, I⟩, ⟨I, I⟩, I⟩, ⟨I, I⟩, (by assumption)⟩, I, I⟩, ?_⟩
      refine W.sq ?_
      refine g 7 25 [] ?_
      conv => whnf
      refine ⟨⟨I, I, I⟩, ?_⟩
      refine W.cn ?_
      conv => whnf
      refine ⟨fun _ => ?_, noF (rfl)⟩
      refine g 25 26 [] ?_
      conv => whnf
      refine ⟨⟨I, I⟩, ?_⟩
      refine W.ret ?_
      refine EndsW.rt ?_
      conv => whnf
      refine ⟨⟨I, I, I⟩, ?_, rfl⟩
      rfl
    · rw [if_neg hq2] at c9
      have hl2 := planLen_of (a := p) (by omega)
      obtain ⟨hl3, hl4⟩ := planC_le (p := p) (by omega)
      have hl6 := planTopC_nn p
      have hbl := boss_lim (b := b) (by omega)
      obtain ⟨b1, b2, b3, b4⟩ := small_boss (small_lim hbl)
      obtain ⟨r1, r2, r3, r4⟩ := small_boss (bfall_small p k hbl)
      refine i_laws_FnExactBossFall ?_
      conv => whnf
      refine g 0 2 [] ?_
      conv => whnf
      refine ⟨⟨⟨I, I, I, I, I, I, I, I, I, I, I, I, I⟩, ⟨I, I⟩, I, I⟩, ?_⟩
      refine g 0 0 [] ?_
      conv => whnf
      refine ⟨⟨I, I⟩, ?_⟩
      refine g 16 19 [.call (V.i ((1048576 : Int) - bossSz b)) ([[], []])] ?_
      conv => whnf
      refine ⟨⟨I, I, ⟨⟨I, I, I⟩, I, ⟨⟨I, I, I, I, I, I, I, I, I, I, I, I, I⟩, ⟨I, I⟩, I⟩, ⟨I, I⟩, (by assumption)⟩, I, I⟩, ?_⟩
      refine W.sq ?_
      refine g 19 20 [] ?_
      conv => whnf
      refine ⟨⟨I, I, I⟩, ?_⟩
      refine W.cn ?_
      conv => whnf
      refine ⟨noT (decide_eq_false (by omega)), fun _ => ?_⟩
      refine W.skip ?_
      refine g 20 24 [.call (V.i ((1048576 : Int) - bossSz b - planSz p)) ([[], []])] ?_
      conv => whnf
      refine ⟨⟨I, I, ⟨⟨I, I, I⟩, I, ⟨⟨I, I⟩, ⟨I, I⟩, I⟩, ⟨I, I⟩, (by assumption)⟩, I, I⟩, ?_⟩
      refine W.sq ?_
      refine g 7 25 [] ?_
      conv => whnf
      refine ⟨⟨I, I, I⟩, ?_⟩
      refine W.cn ?_
      conv => whnf
      refine ⟨noT (decide_eq_false (by omega)), fun _ => ?_⟩
      refine W.skip ?_
      refine gd 25 32 [[], [.call (bossO b) ([[]])], [], [.call (planO p) ([[]])], [], [.call (bossO (bFall b p k)) ([[], [], []])], [], []] ?_
      conv => whnf
      refine ⟨⟨I, ⟨⟨I, I⟩, I, ⟨⟨I, I, I, I, I, I, I, I, I, I, I, I, I⟩, I⟩, ⟨I, I⟩, Go.K.c_laws_toBoss _ (by omega)⟩, I, ⟨⟨I, I⟩, I, ⟨⟨I, I⟩, I⟩, ⟨I, I⟩, Go.K.c_laws_toPlan _ (by omega)⟩, I, ⟨⟨I, I, I, I⟩, I, ⟨⟨I, I, I, I, I, I, I, I, I, I, I, I, I⟩, ⟨I, I⟩, ⟨I, I⟩, I⟩, ⟨I, I⟩, Go.K.c_spec_BossFall _ _ _ (by omega) (by omega)⟩, I, ⟨I, I, I, I, I, I, I, I, I, I, I, I, I⟩, I⟩, by kernel_rfl, ?_⟩
      refine g 32 34 [.call (bossO b) ([[]])] ?_
      conv => whnf
      refine ⟨⟨I, ⟨⟨I, I⟩, I, ⟨⟨I, I, I, I, I, I, I, I, I, I, I, I, I⟩, I⟩, ⟨I, I⟩, Go.K.c_laws_toBoss _ (by omega)⟩, I, ⟨I, I, I, I, I, I, I, I, I, I, I, I, I⟩, I⟩, ?_⟩
      refine g 34 36 [.call (planO p) ([[]])] ?_
      conv => whnf
      refine ⟨⟨I, ⟨⟨I, I⟩, I, ⟨⟨I, I⟩, I⟩, ⟨I, I⟩, Go.K.c_laws_toPlan _ (by omega)⟩, I, ⟨I, I⟩, I⟩, ?_⟩
      refine g 36 40 [.call (bossO (bFall b p k)) ([[], [], []])] ?_
      conv => whnf
      refine ⟨⟨I, I, I, ⟨⟨I, I, I, I⟩, I, ⟨⟨I, I, I, I, I, I, I, I, I, I, I, I, I⟩, ⟨I, I⟩, ⟨I, I⟩, I⟩, ⟨I, I⟩, Go.K.c_impl_BossFall _ _ _ (by omega) (by omega)⟩, I, ⟨I, I, I, I, I, I, I, I, I, I, I, I, I⟩, I⟩, ?_⟩
      refine W.sq ?_
      refine g 40 43 [.call (V.b (decide (bFall b p k = bFall b p k))) ([[], []])] ?_
      conv => whnf
      refine ⟨⟨I, I, ⟨⟨I, I, I⟩, I, ⟨⟨I, I, I, I, I, I, I, I, I, I, I, I, I⟩, ⟨I, I, I, I, I, I, I, I, I, I, I, I, I⟩, I⟩, ⟨I, I⟩, Go.K.c_laws_eqBoss _ _ (by omega)⟩, I, I⟩, ?_⟩
      refine W.cn ?_
      conv => whnf
      refine ⟨noT (notF rfl), fun _ => ?_⟩
      refine W.skip ?_
      refine W.sq ?_
      refine gd 43 48 [[], [], [.call (bossO b) ([[]])], [.call (V.b (decide (b = b))) ([[], []])], []] ?_
      conv => whnf
      refine ⟨⟨I, I, ⟨⟨I, I⟩, I, ⟨⟨I, I, I, I, I, I, I, I, I, I, I, I, I⟩, I⟩, ⟨I, I⟩, Go.K.c_laws_toBoss _ (by omega)⟩, ⟨⟨I, I, I⟩, I, ⟨⟨I, I, I, I, I, I, I, I, I, I, I, I, I⟩, ⟨I, I, I, I, I, I, I, I, I, I, I, I, I⟩, I⟩, ⟨I, I⟩, Go.K.c_laws_eqBoss _ _ (by omega)⟩, I, I⟩, by kernel_rfl, ?_⟩
      refine W.cn ?_
      conv => whnf
      refine ⟨noT (notF rfl), fun _ => ?_⟩
      refine W.skip ?_
      refine W.sq ?_
      refine gd 48 53 [[], [], [.call (planO p) ([[]])], [.call (V.b (decide (p = p))) ([[], []])], []] ?_
      conv => whnf
      refine ⟨⟨I, I, ⟨⟨I, I⟩, I, ⟨⟨I, I⟩, I⟩, ⟨I, I⟩, Go.K.c_laws_toPlan _ (by omega)⟩, ⟨⟨I, I, I⟩, I, ⟨⟨I, I⟩, ⟨I, I⟩, I⟩, ⟨I, I⟩, Go.K.c_laws_eqPlan _ _ (by omega)⟩, I, I⟩, by kernel_rfl, ?_⟩
      refine W.cn ?_
      conv => whnf
      refine ⟨noT (notF rfl), fun _ => ?_⟩
      refine W.skip ?_
      refine g 53 54 [] ?_
      conv => whnf
      refine ⟨⟨I, I⟩, ?_⟩
      refine g 54 57 [.call (V.i ((1 : Int) + bossTopC b)) ([cellsOf (bossO (bossTop (1 : Int) b)), []])] ?_
      conv => whnf
      refine ⟨⟨I, I, ⟨⟨⟨I, I, I, I, I, I, I, I, I, I, I, I, I⟩, I, I⟩, I, ⟨I, ⟨I, I⟩, I⟩, ⟨I, I⟩, Go.K.c_laws_markBoss _ _ (by omega) (by omega) (by omega)⟩, I, I⟩, ?_⟩
      refine g 57 60 [.call (V.i ((1 : Int) + bossTopC b + planTopC p)) ([cellsOf (planO (planTop ((1 : Int) + bossTopC b) p)), []])] ?_
      conv => whnf
      refine ⟨⟨I, I, ⟨⟨⟨I, I⟩, I, I⟩, I, ⟨I, ⟨I, I⟩, I⟩, ⟨I, I⟩, Go.K.c_laws_markPlan _ _ (by omega) (by omega) (by omega)⟩, I, I⟩, ?_⟩
      refine W.sq ?_
      refine g 12 67 [.b (false), .b (false), .b (false), .call (V.b (decide (bFall b p k = bFall b p k))) ([[], []]), .b (false), .b (false)] ?_
      conv => whnf
      refine ⟨⟨I, I, I, ⟨decide_eq_false (by omega), I⟩, ⟨decide_eq_false (by omega), I⟩, ⟨decide_eq_false (by omega), ⟨I, I, I⟩, I, ⟨⟨I, I, I, I, I, I, I, I, I, I, I, I, I⟩, ⟨I, I, I, I, I, I, I, I, I, I, I, I, I⟩, I⟩, ⟨I, I⟩, Go.K.c_laws_eqBoss _ _ (by omega)⟩, ⟨decide_eq_false (by omega), I⟩, decide_eq_false (by omega), I⟩, ?_⟩
      refine W.cn ?_
      conv => whnf
      refine ⟨noT (by assumption), fun _ => ?_⟩
      refine W.skip ?_
      refine g 9 11 [] ?_
      conv => whnf
      refine ⟨⟨I, I⟩, ?_⟩
      refine g 67 71 [.call (V.i ((1 : Int) + bossTopC (bFall b p k))) ([cellsOf (bossO (bossTop (1 : Int) (bFall b p k))), []])] ?_
      conv => whnf
      refine ⟨⟨I, I, ⟨⟨⟨I, I, I, I, I, I, I, I, I, I, I, I, I⟩, I, I⟩, I, ⟨I, ⟨I, I⟩, I⟩, ⟨I, I⟩, Go.K.c_laws_markBoss _ _ (by omega) (by omega) (by omega)⟩, I, I⟩, ?_⟩
      refine g 0 0 [] ?_
      conv => whnf
      refine ⟨⟨I, I⟩, ?_⟩
      refine g 71 74 [.call (V.i ((1 : Int) + bossTopC (bFall b p k))) ([[], []])] ?_
      conv => whnf
      refine ⟨⟨I, I, ⟨⟨I, I, I⟩, I, ⟨⟨I, I, I, I, I, I, I, I, I, I, I, I, I⟩, ⟨I, I⟩, I⟩, ⟨I, I⟩, Go.K.c_laws_heldBoss _ _ (by omega) (by omega) (by omega)⟩, I, I⟩, ?_⟩
      refine W.sq ?_
      refine g 74 75 [] ?_
      conv => whnf
      refine ⟨⟨I, I, I⟩, ?_⟩
      refine W.cn ?_
      conv => whnf
      refine ⟨noT (decide_eq_false (by omega)), fun _ => ?_⟩
      refine W.skip ?_
      refine W.sq ?_
      refine g 75 78 [] ?_
      conv => whnf
      refine ⟨⟨I, I, I, I⟩, ?_⟩
      refine W.cn ?_
      conv => whnf
      refine ⟨noT (notF (by omega)), fun _ => ?_⟩
      refine W.skip ?_
      refine gd 78 85 [[], [.call (bossO b) ([[]])], [], [.call (planO p) ([[]])], [], [.call (bossO (bFall b p k)) ([[], [], []])], [], []] ?_
      conv => whnf
      refine ⟨⟨I, ⟨⟨I, I⟩, I, ⟨⟨I, I, I, I, I, I, I, I, I, I, I, I, I⟩, I⟩, ⟨I, I⟩, Go.K.c_laws_toBoss _ (by omega)⟩, I, ⟨⟨I, I⟩, I, ⟨⟨I, I⟩, I⟩, ⟨I, I⟩, Go.K.c_laws_toPlan _ (by omega)⟩, I, ⟨⟨I, I, I, I⟩, I, ⟨⟨I, I, I, I, I, I, I, I, I, I, I, I, I⟩, ⟨I, I⟩, ⟨I, I⟩, I⟩, ⟨I, I⟩, Go.K.c_impl_BossFall _ _ _ (by omega) (by omega)⟩, I, ⟨I, I, I, I, I, I, I, I, I, I, I, I, I⟩, I⟩, by kernel_rfl, ?_⟩
      refine W.sq ?_
      refine g 15 88 [.call (V.b (decide (bFall b p k = bFall b p k))) ([[], []])] ?_
      conv => whnf
      refine ⟨⟨I, I, ⟨⟨I, I, I⟩, I, ⟨⟨I, I, I, I, I, I, I, I, I, I, I, I, I⟩, ⟨I, I, I, I, I, I, I, I, I, I, I, I, I⟩, I⟩, ⟨I, I⟩, Go.K.c_laws_eqBoss _ _ (by omega)⟩, I, I⟩, ?_⟩
      refine W.cn ?_
      conv => whnf
      refine ⟨noT (by assumption), fun _ => ?_⟩
      refine W.skip ?_
      refine g 2 4 [] ?_
      conv => whnf
      refine ⟨⟨I, I⟩, ?_⟩
      refine g 88 92 [.call (V.i ((1 : Int) + bossTopC (bFall b p k))) ([[], []])] ?_
      conv => whnf
      refine ⟨⟨I, I, ⟨⟨I, I, I⟩, I, ⟨⟨I, I, I, I, I, I, I, I, I, I, I, I, I⟩, ⟨I, I⟩, I⟩, ⟨I, I⟩, Go.K.c_laws_heldBoss _ _ (by omega) (by omega) (by omega)⟩, I, I⟩, ?_⟩
      refine W.sq ?_
      refine g 8 12 [] ?_
      conv => whnf
      refine ⟨⟨I, I, I⟩, ?_⟩
      refine W.cn ?_
      conv => whnf
      refine ⟨noT (by assumption), fun _ => ?_⟩
      refine W.skip ?_
      refine W.sq ?_
      refine g 13 96 [] ?_
      conv => whnf
      refine ⟨⟨I, I, I, I⟩, ?_⟩
      refine W.cn ?_
      conv => whnf
      refine ⟨noT (by assumption), fun _ => ?_⟩
      refine W.skip ?_
      refine g 96 97 [] ?_
      conv => whnf
      refine ⟨⟨I, I⟩, ?_⟩
      refine W.ret ?_
      refine EndsW.rt ?_
      conv => whnf
      refine ⟨⟨I, I, I⟩, ?_, rfl⟩
      rfl
end Go.K

end

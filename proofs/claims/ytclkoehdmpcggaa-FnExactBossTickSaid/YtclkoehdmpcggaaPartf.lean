/- Contracts of functions of the program: what each call answers. -/
import Derived.Test.YtclkoehdmpcggaaParte
section
set_option linter.unusedVariables false
set_option linter.unusedSimpArgs false
set_option maxHeartbeats 4000000
set_option maxRecDepth 20000
open Go Go.Tm Go.Proofs
namespace Go.K
theorem c_laws_markIntS (xs : List Int) (k : Int) (hl : xs.length ≤ 9223372036854775806) (h0 : 0 ≤ k) (hk : k + xs.length ≤ 1099511627776) : F n_laws_markIntS [.bor (.own [false] (xs.map intT)), .val (.i k)] (.i (k + xs.length)) [[.own [false] ((mkL (fun k _ => k) (fun _ => 1) k xs).map intT)], []] := by
 refine i_laws_markIntS ?_
 conv => whnf
 refine g 0 0 [] ?_
 conv => whnf
 refine ⟨⟨I, I⟩, ?_⟩
 refine W.sq ?_
 refine g 0 0 [] ?_
 conv => whnf
 refine ⟨⟨I, I⟩, ?_⟩
 refine W.blk ?_
 refine W.lp (fun s (n : Nat) => ⟨[(0, s.s 0), (1, .i (k + n)), (4, s.s 4), (5, .i n)], [(19, [.own [false] ((mkN (fun k _ => k) (fun _ => 1) k xs n).map intT)])], []⟩) (fun (n : Nat) => n ≤ xs.length) (fun (n : Nat) => xs.length - n) (0) [some 19] [] ⟨rfl, ⟨rfl, (congrArg (fun z => V.t (T.v (Value.int _ z))) (by simp [sumI])), rfl, rfl, I⟩, ⟨⟨rfl, ⟨rfl, I⟩⟩, I⟩, I⟩ (by omega) ?_
 intro n hn
 have hx := mkN_len (fun k _ => k) (fun _ => 1) k xs n
 have hs1 : ∀ x, xs[n]? = some x → ((mkN (fun k _ => k) (fun _ => 1) k xs n).map intT).set n (intT (k + n)) = (mkN (fun k _ => k) (fun _ => 1) k xs (n + 1)).map intT := fun x hx => by
  have := mkN_setm (f := (fun k _ => k)) (c := (fun _ => 1)) (g := intT) (k := k) hx
  rw [sum_one, List.length_take, Nat.min_eq_left hn] at this; exact this
 conv => whnf
 refine W.sq ?_
 refine g 6 9 [] ?_
 conv => whnf
 refine ⟨⟨I, I, I, I, I⟩, ?_⟩
 refine W.cn ?_
 conv => whnf
 refine ⟨fun h1 => ?_, fun h1 => ?_⟩
 replace h1 := dt h1
 simp only [List.length_map] at h1
 refine W.skip ?_
 refine W.sq ?_
 refine W.blk ?_
 obtain ⟨y1, hy1⟩ := some_at (xs := xs) (n := n) (by omega)
 refine g 9 16 [.n (n), .x (intT y1)] ?_
 conv => whnf
 refine ⟨⟨I, I, I, ⟨rfl, (by simp only [lens]; omega)⟩, ⟨⟨I, I⟩, mkN_getm (by assumption)⟩, I⟩, ?_⟩
 refine rg [.i (k + (↑n : Int) + (1 : Int))] ?_
 conv => whnf
 refine ⟨⟨I, w64 (by omega) (by omega), I, I⟩, ?_⟩
 refine rg [.i ((↑n : Int) + (1 : Int))] ?_
 conv => whnf
 refine ⟨⟨I, w64 (by omega) (by omega), I, I⟩, ?_⟩
 rotate_left 1
 replace h1 := df h1
 simp only [List.length_map] at h1
 refine W.exit ?_
 refine g 5 19 [] ?_
 conv => whnf
 refine ⟨⟨I, I, I⟩, ?_⟩
 refine W.ret ?_
 refine EndsW.rt ?_
 conv => whnf
 refine ⟨⟨I, I, I⟩, ?_, ?_⟩
 exact vi (by omega)
 rotate_left 1
 ·refine ⟨n + 1, [some 19], [], ⟨rfl, ⟨rfl, (congrArg (fun z => V.t (T.v (Value.int _ z))) (by omega)), rfl, rfl, I⟩, ⟨⟨rfl, ⟨(congrArg (V.own _) (hs1 _ (by assumption))), I⟩⟩, I⟩, I⟩, ?_, ?_⟩
  rotate_left 1
  (dsimp only; omega)
  dsimp only
  omega
 ·have e := mkN_all (fun k _ => k) (fun _ => 1) k xs (n := n) (by omega)
  rw [show n = xs.length by omega] at e ⊢
  rw [e]
def taskC (x : Task) : Int := 2 + (x.deps.length : Int)
theorem taskC_eq (x : Task) : taskC x = 2 + (x.deps.length : Int) := rfl
theorem taskC_nn (x : Task) : 0 ≤ taskC x := by
 simp only [taskC]; omega
def taskMk (k : Int) (x : Task) : Task := ⟨markT (k), k + 1, mkL (fun k _ => k) (fun _ => 1) (k + 1 + 1) x.deps⟩
theorem c_laws_markTaskS (xs : List Task) (k : Int) (hl : xs.length ≤ 9223372036854775806) (h0 : 0 ≤ k) (hk : k + sumI taskC xs ≤ 1099511627776) : F n_laws_markTaskS [.bor (.own taskK (xs.map taskT)), .val (.i k)] (.i (k + sumI taskC xs)) [[.own taskK ((mkL taskMk taskC k xs).map taskT)], []] := by
 refine i_laws_markTaskS ?_
 conv => whnf
 refine g 0 0 [] ?_
 conv => whnf
 refine ⟨⟨I, I⟩, ?_⟩
 refine W.sq ?_
 refine g 0 0 [] ?_
 conv => whnf
 refine ⟨⟨I, I⟩, ?_⟩
 refine W.blk ?_
 refine W.lp (fun s (n : Nat) => ⟨[(0, s.s 0), (1, .i (k + sumI taskC (xs.take n))), (4, s.s 4), (5, .i n)], [(35, [.own taskK ((mkN taskMk taskC k xs n).map taskT)])], []⟩) (fun (n : Nat) => n ≤ xs.length) (fun (n : Nat) => xs.length - n) (0) [some 35] [] ⟨rfl, ⟨rfl, (congrArg (fun z => V.t (T.v (Value.int _ z))) (by simp [sumI])), rfl, rfl, I⟩, ⟨⟨rfl, ⟨rfl, I⟩⟩, I⟩, I⟩ (by omega) ?_
 intro n hn
 have hx := mkN_len taskMk taskC k xs n
 have hq := sum_nn taskC_nn (xs.take n)
 have hle := sum_le taskC_nn xs (n + 1)
 have hle0 := sum_le taskC_nn xs n
 conv => whnf
 refine W.sq ?_
 refine g 6 9 [] ?_
 conv => whnf
 refine ⟨⟨I, I, I, I, I⟩, ?_⟩
 refine W.cn ?_
 conv => whnf
 refine ⟨fun h1 => ?_, fun h1 => ?_⟩
 replace h1 := dt h1
 simp only [List.length_map] at h1
 refine W.skip ?_
 refine W.sq ?_
 refine W.blk ?_
 obtain ⟨y1, hy1⟩ := some_at (xs := xs) (n := n) (by omega)
 have hk1 := sum_take (f := taskC) hy1
 have hk2 := taskC_nn y1
 have hk3 := taskC_eq y1
 refine g 9 18 [.call (V.s (markT (k + sumI taskC (List.take n xs)))) ([[]]), .n (n), .x (taskT y1)] ?_
 conv => whnf
 refine ⟨⟨I, I, I, ⟨⟨I, I⟩, I, ⟨⟨I, I⟩, I⟩, ⟨I, I⟩, Go.K.c_laws_markText _ (by omega)⟩, ⟨rfl, (by simp only [lens]; omega)⟩, I, ⟨⟨I, I⟩, mkN_getm (by assumption)⟩, I⟩, ?_⟩
 refine g 18 20 [.i (k + sumI taskC (List.take n xs) + (1 : Int))] ?_
 conv => whnf
 refine ⟨⟨I, w64 (by omega) (by omega), I, I⟩, ?_⟩
 refine g 20 25 [.n (n), .x (patch (taskT y1) ((0 : Nat) + (0 : Nat)) [T.v (Value.string (markT (k + sumI taskC (List.take n xs))))])] ?_
 conv => whnf
 refine ⟨⟨I, I, I, ⟨rfl, (by simp only [lens]; omega)⟩, I, ⟨⟨I, I⟩, getset (by simp only [lens]; omega)⟩, I⟩, ?_⟩
 refine g 25 27 [.i (k + sumI taskC (List.take n xs) + (1 : Int) + (1 : Int))] ?_
 conv => whnf
 refine ⟨⟨I, w64 (by omega) (by omega), I, I⟩, ?_⟩
 refine rg [.n (n), .x (patch (patch (taskT y1) ((0 : Nat) + (0 : Nat)) [T.v (Value.string (markT (k + sumI taskC (List.take n xs))))]) ((0 : Nat) + (1 : Nat)) [T.v (Value.int IntKind.i64 (k + sumI taskC (List.take n xs) + (1 : Int)))]), .x (patch (patch (taskT y1) ((0 : Nat) + (0 : Nat)) [T.v (Value.string (markT (k + sumI taskC (List.take n xs))))]) ((0 : Nat) + (1 : Nat)) [T.v (Value.int IntKind.i64 (k + sumI taskC (List.take n xs) + (1 : Int)))]), .call (V.i (k + sumI taskC (List.take n xs) + (1 : Int) + (1 : Int) + (↑(List.length (Task.deps y1)) : Int))) ([[V.own [false] (List.map intT (mkL (fun k x => k) (fun x => (1 : Int)) (k + sumI taskC (List.take n xs) + (1 : Int) + (1 : Int)) (Task.deps y1)))], []]), .x ([T.v (Value.string (markT (k + sumI taskC (List.take n xs)))), T.v (Value.int IntKind.i64 (k + sumI taskC (List.take n xs) + (1 : Int))), T.hole])] ?_
 conv => whnf
 refine ⟨⟨I, I, ⟨rfl, (by simp only [lens]; omega)⟩, I, getset (by simp only [lens]; omega), I, ⟨⟨⟨getset (by simp only [lens]; omega), I⟩, I, I⟩, I, ⟨I, ⟨I, I⟩, I⟩, ⟨⟨getset (by simp only [lens]; omega), I⟩, I⟩, Go.K.c_laws_markIntS _ _ (by omega) (by omega) (by omega)⟩, I, I⟩, ?_⟩
 refine rg [.i ((↑n : Int) + (1 : Int))] ?_
 conv => whnf
 refine ⟨⟨I, w64 (by omega) (by omega), I, I⟩, ?_⟩
 rotate_left 1
 replace h1 := df h1
 simp only [List.length_map] at h1
 refine W.exit ?_
 refine g 5 35 [] ?_
 conv => whnf
 refine ⟨⟨I, I, I⟩, ?_⟩
 refine W.ret ?_
 refine EndsW.rt ?_
 conv => whnf
 refine ⟨⟨I, I, I⟩, ?_, ?_⟩
 rotate_left 1
 rotate_left 1
 ·refine ⟨n + 1, [some 35], [], ⟨rfl, ⟨rfl, (congrArg (fun z => V.t (T.v (Value.int _ z))) (by rw [sum_take (by assumption)]; omega)), rfl, rfl, I⟩, ⟨⟨rfl, ⟨(congrArg (V.own _) (by simp only [List.set_set]; exact mkN_setm (f := taskMk) (c := taskC) (by assumption))), I⟩⟩, I⟩, I⟩, ?_, ?_⟩
  rotate_left 1
  (dsimp only; omega)
  dsimp only
  omega
 ·rw [take_all (by omega)]
 ·rw [mkN_all taskMk taskC k xs (n := n) (by omega)]
def planTop (k : Int) (x : Plan) : Plan := ⟨mkL taskMk taskC (k) x.tasks⟩
def planTopC (x : Plan) : Int := sumI taskC x.tasks
theorem planTopC_nn (x : Plan) : 0 ≤ planTopC x := by
 have := sum_nn taskC_nn x.tasks
 simp only [planTopC]; omega
theorem c_laws_markPlan (x : Plan) (k : Int) (hl : x.tasks.length ≤ 9223372036854775806) (h0 : 0 ≤ k) (hk : k + planTopC x ≤ 1099511627776) : F n_laws_markPlan [.bor (planO x), .val (.i k)] (.i (k + planTopC x)) [cellsOf (planO (planTop k x)), []] := by
 have hn0 := sum_nn taskC_nn x.tasks
 have hz : planTopC x = _ := rfl
 simp only [planTopC] at hz
 refine i_laws_markPlan ?_
 conv => whnf
 refine g 0 1 [] ?_
 conv => whnf
 refine ⟨⟨I, I, I⟩, ?_⟩
 refine g 5 9 [.call (V.i (k + sumI taskC (Plan.tasks x))) ([[V.own taskK (List.map taskT (mkL taskMk taskC k (Plan.tasks x)))], []])] ?_
 conv => whnf
 refine ⟨⟨I, I, I, ⟨⟨⟨I, I⟩, I, I⟩, I, ⟨I, ⟨I, I⟩, I⟩, ⟨I, I⟩, Go.K.c_laws_markTaskS _ _ (by assumption) (by assumption) (by assumption)⟩, I, I⟩, ?_⟩
 refine g 1 3 [] ?_
 conv => whnf
 refine ⟨⟨I, I, I⟩, ?_⟩
 refine W.ret ?_
 refine EndsW.rt ?_
 conv => whnf
 refine ⟨⟨I, I, I⟩, ?_, rfl⟩
 rfl
end Go.K
end
section
set_option linter.unusedVariables false
set_option linter.unusedSimpArgs false
set_option maxHeartbeats 4000000
set_option maxRecDepth 20000
open Go Go.Tm Go.Proofs
namespace Go.K
theorem planC_le {p : Plan} (h : planSz p ≤ 1048576) : p.tasks.length ≤ 1048576 ∧ planTopC p ≤ 4194304 := by
 have hn := sum_nn taskSz_nn p.tasks
 have e : planSz p = p.tasks.length + sumI taskSz p.tasks := rfl
 refine ⟨by omega, ?_⟩
 have : ∀ xs : List Task, sumI taskC xs ≤ 2 * xs.length + sumI taskSz xs := by
  intro xs
  induction xs with
  | nil => simp [sumI]
  | cons x xs ih =>
    have := taskC_eq x
    have e : taskSz x = x.name.size + x.deps.length := rfl
    simp only [sumI, List.length_cons]; omega
 have := this p.tasks
 unfold planTopC; omega
end Go.K
end
section
set_option linter.unusedVariables false
set_option linter.unusedSimpArgs false
set_option maxHeartbeats 8000000
set_option maxRecDepth 20000
open Go Go.Tm Go.Proofs
namespace Go.K
theorem boss_bounds {b : Boss} (h : bossSz b ≤ 1048576) : b.log.safe.length ≤ 1048576 ∧ b.log.loose.length ≤ 1048576 ∧ (∀ s ∈ b.log.safe ++ b.log.loose, s.size ≤ 281474976710656) ∧ b.results.length ≤ 1048576 ∧ b.jobs.length ≤ 1048576 ∧ b.seats.length ≤ 1048576 ∧ b.owed.length ≤ 1048576 := by
 have h1 := totS_nn b.log.safe
 have h2 := totS_nn b.log.loose
 have h3 := totS_nn b.results
 have e : logSz b.log = (b.log.safe.length + totS b.log.safe) + (b.log.loose.length + totS b.log.loose) := rfl
 simp only [bossSz] at h
 refine ⟨by omega, by omega, fun s hs => ?_, by omega, by omega, by omega, by omega⟩
 rcases List.mem_append.1 hs with hs | hs
 ·have := totS_mem hs; omega
 ·have := totS_mem hs; omega
end Go.K
end
section
set_option linter.unusedVariables false
set_option linter.unusedSimpArgs false
set_option maxHeartbeats 4000000
set_option maxRecDepth 20000
open Go Go.Tm Go.Proofs
namespace Go.K
def jobC (x : Job) : Int := 3
theorem jobC_eq (x : Job) : jobC x = 3 := rfl
theorem jobC_nn (x : Job) : 0 ≤ jobC x := by
 simp only [jobC]; omega
def jobMk (k : Int) (x : Job) : Job := ⟨k, k + 1, k + 1 + 1⟩
def seatC (x : Seat) : Int := 2
theorem seatC_eq (x : Seat) : seatC x = 2 := rfl
theorem seatC_nn (x : Seat) : 0 ≤ seatC x := by
 simp only [seatC]; omega
def seatMk (k : Int) (x : Seat) : Seat := ⟨decide (Int.tmod (k) 3 = 0), k + 1⟩
def owedC (x : Owed) : Int := 3
theorem owedC_eq (x : Owed) : owedC x = 3 := rfl
theorem owedC_nn (x : Owed) : 0 ≤ owedC x := by
 simp only [owedC]; omega
def owedMk (k : Int) (x : Owed) : Owed := ⟨k, k + 1, k + 1 + 1⟩
theorem c_laws_markJobS (xs : List Job) (k : Int) (hl : xs.length ≤ 9223372036854775806) (h0 : 0 ≤ k) (hk : k + sumI jobC xs ≤ 1099511627776) : F n_laws_markJobS [.bor (.own jobK (xs.map jobT)), .val (.i k)] (.i (k + sumI jobC xs)) [[.own jobK ((mkL jobMk jobC k xs).map jobT)], []] := by
 refine i_laws_markJobS ?_
 conv => whnf
 refine g 0 0 [] ?_
 conv => whnf
 refine ⟨⟨I, I⟩, ?_⟩
 refine W.sq ?_
 refine g 0 0 [] ?_
 conv => whnf
 refine ⟨⟨I, I⟩, ?_⟩
 refine W.blk ?_
 refine W.lp (fun s (n : Nat) => ⟨[(0, s.s 0), (1, .i (k + sumI jobC (xs.take n))), (4, s.s 4), (5, .i n)], [(34, [.own jobK ((mkN jobMk jobC k xs n).map jobT)])], []⟩) (fun (n : Nat) => n ≤ xs.length) (fun (n : Nat) => xs.length - n) (0) [some 34] [] ⟨rfl, ⟨rfl, (congrArg (fun z => V.t (T.v (Value.int _ z))) (by simp [sumI])), rfl, rfl, I⟩, ⟨⟨rfl, ⟨rfl, I⟩⟩, I⟩, I⟩ (by omega) ?_
 intro n hn
 have hx := mkN_len jobMk jobC k xs n
 have hq := sum_nn jobC_nn (xs.take n)
 have hle := sum_le jobC_nn xs (n + 1)
 have hle0 := sum_le jobC_nn xs n
 conv => whnf
 refine W.sq ?_
 refine g 6 9 [] ?_
 conv => whnf
 refine ⟨⟨I, I, I, I, I⟩, ?_⟩
 refine W.cn ?_
 conv => whnf
 refine ⟨fun h1 => ?_, fun h1 => ?_⟩
 replace h1 := dt h1
 simp only [List.length_map] at h1
 refine W.skip ?_
 refine W.sq ?_
 refine W.blk ?_
 obtain ⟨y1, hy1⟩ := some_at (xs := xs) (n := n) (by omega)
 have hk1 := sum_take (f := jobC) hy1
 have hk2 := jobC_nn y1
 have hk3 := jobC_eq y1
 refine g 9 17 [.n (n), .x (jobT y1)] ?_
 conv => whnf
 refine ⟨⟨I, I, I, ⟨rfl, (by simp only [lens]; omega)⟩, I, ⟨⟨I, I⟩, mkN_getm (by assumption)⟩, I⟩, ?_⟩
 refine g 17 19 [.i (k + sumI jobC (List.take n xs) + (1 : Int))] ?_
 conv => whnf
 refine ⟨⟨I, w64 (by omega) (by omega), I, I⟩, ?_⟩
 refine g 19 24 [.n (n), .x (patch (jobT y1) ((0 : Nat) + (0 : Nat)) [T.v (Value.int IntKind.i64 (k + sumI jobC (List.take n xs)))])] ?_
 conv => whnf
 refine ⟨⟨I, I, I, ⟨rfl, (by simp only [lens]; omega)⟩, I, ⟨⟨I, I⟩, getset (by simp only [lens]; omega)⟩, I⟩, ?_⟩
 rw [List.set_set]
 refine g 24 26 [.i (k + sumI jobC (List.take n xs) + (1 : Int) + (1 : Int))] ?_
 conv => whnf
 refine ⟨⟨I, w64 (by omega) (by omega), I, I⟩, ?_⟩
 refine g 26 31 [.n (n), .x (patch (patch (jobT y1) ((0 : Nat) + (0 : Nat)) [T.v (Value.int IntKind.i64 (k + sumI jobC (List.take n xs)))]) ((0 : Nat) + (1 : Nat)) [T.v (Value.int IntKind.i64 (k + sumI jobC (List.take n xs) + (1 : Int)))])] ?_
 conv => whnf
 refine ⟨⟨I, I, I, ⟨rfl, (by simp only [lens]; omega)⟩, I, ⟨⟨I, I⟩, getset (by simp only [lens]; omega)⟩, I⟩, ?_⟩
 rw [List.set_set]
 refine rg [.i (k + sumI jobC (List.take n xs) + (1 : Int) + (1 : Int) + (1 : Int))] ?_
 conv => whnf
 refine ⟨⟨I, w64 (by omega) (by omega), I, I⟩, ?_⟩
 refine rg [.i ((↑n : Int) + (1 : Int))] ?_
 conv => whnf
 refine ⟨⟨I, w64 (by omega) (by omega), I, I⟩, ?_⟩
 rotate_left 1
 replace h1 := df h1
 simp only [List.length_map] at h1
 refine W.exit ?_
 refine g 5 34 [] ?_
 conv => whnf
 refine ⟨⟨I, I, I⟩, ?_⟩
 refine W.ret ?_
 refine EndsW.rt ?_
 conv => whnf
 refine ⟨⟨I, I, I⟩, ?_, ?_⟩
 rotate_left 1
 rotate_left 1
 ·refine ⟨n + 1, [some 34], [], ⟨rfl, ⟨rfl, (congrArg (fun z => V.t (T.v (Value.int _ z))) (by rw [sum_take (by assumption)]; omega)), rfl, rfl, I⟩, ⟨⟨rfl, ⟨(congrArg (V.own _) (mkN_setm (f := jobMk) (c := jobC) (by assumption))), I⟩⟩, I⟩, I⟩, ?_, ?_⟩
  rotate_left 1
  (dsimp only; omega)
  dsimp only
  omega
 ·rw [take_all (by omega)]
 ·rw [mkN_all jobMk jobC k xs (n := n) (by omega)]
theorem c_laws_markSeatS (xs : List Seat) (k : Int) (hl : xs.length ≤ 9223372036854775806) (h0 : 0 ≤ k) (hk : k + sumI seatC xs ≤ 1099511627776) : F n_laws_markSeatS [.bor (.own seatK (xs.map seatT)), .val (.i k)] (.i (k + sumI seatC xs)) [[.own seatK ((mkL seatMk seatC k xs).map seatT)], []] := by
 refine i_laws_markSeatS ?_
 conv => whnf
 refine g 0 0 [] ?_
 conv => whnf
 refine ⟨⟨I, I⟩, ?_⟩
 refine W.sq ?_
 refine g 0 0 [] ?_
 conv => whnf
 refine ⟨⟨I, I⟩, ?_⟩
 refine W.blk ?_
 refine W.lp (fun s (n : Nat) => ⟨[(0, s.s 0), (1, .i (k + sumI seatC (xs.take n))), (4, s.s 4), (5, .i n)], [(29, [.own seatK ((mkN seatMk seatC k xs n).map seatT)])], []⟩) (fun (n : Nat) => n ≤ xs.length) (fun (n : Nat) => xs.length - n) (0) [some 29] [] ⟨rfl, ⟨rfl, (congrArg (fun z => V.t (T.v (Value.int _ z))) (by simp [sumI])), rfl, rfl, I⟩, ⟨⟨rfl, ⟨rfl, I⟩⟩, I⟩, I⟩ (by omega) ?_
 intro n hn
 have hx := mkN_len seatMk seatC k xs n
 have hq := sum_nn seatC_nn (xs.take n)
 have hle := sum_le seatC_nn xs (n + 1)
 have hle0 := sum_le seatC_nn xs n
 conv => whnf
 refine W.sq ?_
 refine g 6 9 [] ?_
 conv => whnf
 refine ⟨⟨I, I, I, I, I⟩, ?_⟩
 refine W.cn ?_
 conv => whnf
 refine ⟨fun h1 => ?_, fun h1 => ?_⟩
 replace h1 := dt h1
 simp only [List.length_map] at h1
 refine W.skip ?_
 refine W.sq ?_
 refine W.blk ?_
 obtain ⟨y1, hy1⟩ := some_at (xs := xs) (n := n) (by omega)
 have hk1 := sum_take (f := seatC) hy1
 have hk2 := seatC_nn y1
 have hk3 := seatC_eq y1
 refine g 9 19 [.i (Int.tmod (k + sumI seatC (List.take n xs)) (3 : Int)), .n (n), .x (seatT y1)] ?_
 conv => whnf
 refine ⟨⟨I, I, I, ⟨(by omega), rfl⟩, I, ⟨rfl, (by simp only [lens]; omega)⟩, I, ⟨⟨I, I⟩, mkN_getm (by assumption)⟩, I⟩, ?_⟩
 refine g 19 21 [.i (k + sumI seatC (List.take n xs) + (1 : Int))] ?_
 conv => whnf
 refine ⟨⟨I, w64 (by omega) (by omega), I, I⟩, ?_⟩
 refine g 21 26 [.n (n), .x (patch (seatT y1) ((0 : Nat) + (0 : Nat)) [T.v (Value.bool (decide (Int.tmod (k + sumI seatC (List.take n xs)) (3 : Int) = (0 : Int))))])] ?_
 conv => whnf
 refine ⟨⟨I, I, I, ⟨rfl, (by simp only [lens]; omega)⟩, I, ⟨⟨I, I⟩, getset (by simp only [lens]; omega)⟩, I⟩, ?_⟩
 rw [List.set_set]
 refine rg [.i (k + sumI seatC (List.take n xs) + (1 : Int) + (1 : Int))] ?_
 conv => whnf
 refine ⟨⟨I, w64 (by omega) (by omega), I, I⟩, ?_⟩
 refine rg [.i ((↑n : Int) + (1 : Int))] ?_
 conv => whnf
 refine ⟨⟨I, w64 (by omega) (by omega), I, I⟩, ?_⟩
 rotate_left 1
 replace h1 := df h1
 simp only [List.length_map] at h1
 refine W.exit ?_
 refine g 5 29 [] ?_
 conv => whnf
 refine ⟨⟨I, I, I⟩, ?_⟩
 refine W.ret ?_
 refine EndsW.rt ?_
 conv => whnf
 refine ⟨⟨I, I, I⟩, ?_, ?_⟩
 rotate_left 1
 rotate_left 1
 ·refine ⟨n + 1, [some 29], [], ⟨rfl, ⟨rfl, (congrArg (fun z => V.t (T.v (Value.int _ z))) (by rw [sum_take (by assumption)]; omega)), rfl, rfl, I⟩, ⟨⟨rfl, ⟨(congrArg (V.own _) (mkN_setm (f := seatMk) (c := seatC) (by assumption))), I⟩⟩, I⟩, I⟩, ?_, ?_⟩
  rotate_left 1
  (dsimp only; omega)
  dsimp only
  omega
 ·rw [take_all (by omega)]
 ·rw [mkN_all seatMk seatC k xs (n := n) (by omega)]
theorem c_laws_markOwedS (xs : List Owed) (k : Int) (hl : xs.length ≤ 9223372036854775806) (h0 : 0 ≤ k) (hk : k + sumI owedC xs ≤ 1099511627776) : F n_laws_markOwedS [.bor (.own owedK (xs.map owedT)), .val (.i k)] (.i (k + sumI owedC xs)) [[.own owedK ((mkL owedMk owedC k xs).map owedT)], []] := by
 refine i_laws_markOwedS ?_
 conv => whnf
 refine g 0 0 [] ?_
 conv => whnf
 refine ⟨⟨I, I⟩, ?_⟩
 refine W.sq ?_
 refine g 0 0 [] ?_
 conv => whnf
 refine ⟨⟨I, I⟩, ?_⟩
 refine W.blk ?_
 refine W.lp (fun s (n : Nat) => ⟨[(0, s.s 0), (1, .i (k + sumI owedC (xs.take n))), (4, s.s 4), (5, .i n)], [(34, [.own owedK ((mkN owedMk owedC k xs n).map owedT)])], []⟩) (fun (n : Nat) => n ≤ xs.length) (fun (n : Nat) => xs.length - n) (0) [some 34] [] ⟨rfl, ⟨rfl, (congrArg (fun z => V.t (T.v (Value.int _ z))) (by simp [sumI])), rfl, rfl, I⟩, ⟨⟨rfl, ⟨rfl, I⟩⟩, I⟩, I⟩ (by omega) ?_
 intro n hn
 have hx := mkN_len owedMk owedC k xs n
 have hq := sum_nn owedC_nn (xs.take n)
 have hle := sum_le owedC_nn xs (n + 1)
 have hle0 := sum_le owedC_nn xs n
 conv => whnf
 refine W.sq ?_
 refine g 6 9 [] ?_
 conv => whnf
 refine ⟨⟨I, I, I, I, I⟩, ?_⟩
 refine W.cn ?_
 conv => whnf
 refine ⟨fun h1 => ?_, fun h1 => ?_⟩
 replace h1 := dt h1
 simp only [List.length_map] at h1
 refine W.skip ?_
 refine W.sq ?_
 refine W.blk ?_
 obtain ⟨y1, hy1⟩ := some_at (xs := xs) (n := n) (by omega)
 have hk1 := sum_take (f := owedC) hy1
 have hk2 := owedC_nn y1
 have hk3 := owedC_eq y1
 refine g 9 17 [.n (n), .x (owedT y1)] ?_
 conv => whnf
 refine ⟨⟨I, I, I, ⟨rfl, (by simp only [lens]; omega)⟩, I, ⟨⟨I, I⟩, mkN_getm (by assumption)⟩, I⟩, ?_⟩
 refine g 17 19 [.i (k + sumI owedC (List.take n xs) + (1 : Int))] ?_
 conv => whnf
 refine ⟨⟨I, w64 (by omega) (by omega), I, I⟩, ?_⟩
 refine g 19 24 [.n (n), .x (patch (owedT y1) ((0 : Nat) + (0 : Nat)) [T.v (Value.int IntKind.i64 (k + sumI owedC (List.take n xs)))])] ?_
 conv => whnf
 refine ⟨⟨I, I, I, ⟨rfl, (by simp only [lens]; omega)⟩, I, ⟨⟨I, I⟩, getset (by simp only [lens]; omega)⟩, I⟩, ?_⟩
 rw [List.set_set]
 refine g 24 26 [.i (k + sumI owedC (List.take n xs) + (1 : Int) + (1 : Int))] ?_
 conv => whnf
 refine ⟨⟨I, w64 (by omega) (by omega), I, I⟩, ?_⟩
 refine g 26 31 [.n (n), .x (patch (patch (owedT y1) ((0 : Nat) + (0 : Nat)) [T.v (Value.int IntKind.i64 (k + sumI owedC (List.take n xs)))]) ((0 : Nat) + (1 : Nat)) [T.v (Value.int IntKind.i64 (k + sumI owedC (List.take n xs) + (1 : Int)))])] ?_
 conv => whnf
 refine ⟨⟨I, I, I, ⟨rfl, (by simp only [lens]; omega)⟩, I, ⟨⟨I, I⟩, getset (by simp only [lens]; omega)⟩, I⟩, ?_⟩
 rw [List.set_set]
 refine rg [.i (k + sumI owedC (List.take n xs) + (1 : Int) + (1 : Int) + (1 : Int))] ?_
 conv => whnf
 refine ⟨⟨I, w64 (by omega) (by omega), I, I⟩, ?_⟩
 refine rg [.i ((↑n : Int) + (1 : Int))] ?_
 conv => whnf
 refine ⟨⟨I, w64 (by omega) (by omega), I, I⟩, ?_⟩
 rotate_left 1
 replace h1 := df h1
 simp only [List.length_map] at h1
 refine W.exit ?_
 refine g 5 34 [] ?_
 conv => whnf
 refine ⟨⟨I, I, I⟩, ?_⟩
 refine W.ret ?_
 refine EndsW.rt ?_
 conv => whnf
 refine ⟨⟨I, I, I⟩, ?_, ?_⟩
 rotate_left 1
 rotate_left 1
 ·refine ⟨n + 1, [some 34], [], ⟨rfl, ⟨rfl, (congrArg (fun z => V.t (T.v (Value.int _ z))) (by rw [sum_take (by assumption)]; omega)), rfl, rfl, I⟩, ⟨⟨rfl, ⟨(congrArg (V.own _) (mkN_setm (f := owedMk) (c := owedC) (by assumption))), I⟩⟩, I⟩, I⟩, ?_, ?_⟩
  rotate_left 1
  (dsimp only; omega)
  dsimp only
  omega
 ·rw [take_all (by omega)]
 ·rw [mkN_all owedMk owedC k xs (n := n) (by omega)]
theorem c_laws_heldJobS (xs : List Job) (k : Int) (hl : xs.length ≤ 9223372036854775806) (h0 : 0 ≤ k) (hk : k + sumI jobC xs ≤ 1099511627776) : F n_laws_heldJobS [.val (.t (.slc jobK ((mkL jobMk jobC k xs).map jobT))), .val (.i k)] (.i (k + sumI jobC xs)) [[], []] := by
 have hx := mkL_len jobMk jobC k xs
 refine i_laws_heldJobS ?_
 conv => whnf
 refine g 0 0 [] ?_
 conv => whnf
 refine ⟨⟨I, I⟩, ?_⟩
 refine W.sq ?_
 refine g 0 0 [] ?_
 conv => whnf
 refine ⟨⟨I, I⟩, ?_⟩
 refine W.blk ?_
 refine W.lp (fun s (n : Nat) => ⟨[(0, s.s 0), (1, .i (k + sumI jobC (xs.take n))), (5, .i n)], [], []⟩) (fun (n : Nat) => n ≤ xs.length) (fun (n : Nat) => xs.length - n) (0) [] [] ⟨rfl, ⟨rfl, (congrArg (fun z => V.t (T.v (Value.int _ z))) (by simp [sumI])), rfl, I⟩, I, I⟩ (by omega) ?_
 intro n hn
 have hq := sum_nn jobC_nn (xs.take n)
 have hle := sum_le jobC_nn xs (n + 1)
 have hle0 := sum_le jobC_nn xs n
 conv => whnf
 refine W.sq ?_
 refine g 6 9 [] ?_
 conv => whnf
 refine ⟨⟨I, I, I, I, I⟩, ?_⟩
 refine W.cn ?_
 conv => whnf
 refine ⟨fun h1 => ?_, fun h1 => ?_⟩
 replace h1 := dt h1
 simp only [List.length_map] at h1
 refine W.skip ?_
 refine W.sq ?_
 refine W.blk ?_
 refine W.sq ?_
 obtain ⟨y1, hy1⟩ := some_at (xs := xs) (n := n) (by omega)
 have hk1 := sum_take (f := jobC) hy1
 have hk2 := jobC_nn y1
 have hk3 := jobC_eq y1
 have hk4 := mkL_get (f := jobMk) (c := jobC) (k := k) hy1
 refine g 9 18 [.x (jobT (jobMk (k + sumI jobC (List.take n xs)) y1))] ?_
 conv => whnf
 refine ⟨⟨I, I, ⟨(by omega), ixl (by assumption)⟩, I, I, I, I, I⟩, ?_⟩
 refine W.cn ?_
 conv => whnf
 refine ⟨noT (notF rfl), fun _ => ?_⟩
 refine W.skip ?_
 refine g 18 21 [.i (k + sumI jobC (List.take n xs) + (1 : Int))] ?_
 conv => whnf
 refine ⟨⟨I, w64 (by omega) (by omega), I, I⟩, ?_⟩
 refine W.sq ?_
 refine g 21 27 [.x (jobT (jobMk (k + sumI jobC (List.take n xs)) y1))] ?_
 conv => whnf
 refine ⟨⟨I, I, ⟨(by omega), ixl (by assumption)⟩, I, I, I, I, I⟩, ?_⟩
 refine W.cn ?_
 conv => whnf
 refine ⟨noT (notF rfl), fun _ => ?_⟩
 refine W.skip ?_
 refine g 27 30 [.i (k + sumI jobC (List.take n xs) + (1 : Int) + (1 : Int))] ?_
 conv => whnf
 refine ⟨⟨I, w64 (by omega) (by omega), I, I⟩, ?_⟩
 refine W.sq ?_
 refine g 30 36 [.x (jobT (jobMk (k + sumI jobC (List.take n xs)) y1))] ?_
 conv => whnf
 refine ⟨⟨I, I, ⟨(by omega), ixl (by assumption)⟩, I, I, I, I, I⟩, ?_⟩
 refine W.cn ?_
 conv => whnf
 refine ⟨noT (notF rfl), fun _ => ?_⟩
 refine W.skip ?_
 refine rg [.i (k + sumI jobC (List.take n xs) + (1 : Int) + (1 : Int) + (1 : Int))] ?_
 conv => whnf
 refine ⟨⟨I, w64 (by omega) (by omega), I, I⟩, ?_⟩
 refine rg [.i ((↑n : Int) + (1 : Int))] ?_
 conv => whnf
 refine ⟨⟨I, w64 (by omega) (by omega), I, I⟩, ?_⟩
 rotate_left 1
 replace h1 := df h1
 simp only [List.length_map] at h1
 refine W.exit ?_
 refine g 5 40 [] ?_
 conv => whnf
 refine ⟨⟨I, I, I⟩, ?_⟩
 refine W.ret ?_
 refine EndsW.rt ?_
 conv => whnf
 refine ⟨⟨I, I, I⟩, ?_, rfl⟩
 rotate_left 1
 ·refine ⟨n + 1, [], [], ⟨rfl, ⟨rfl, (congrArg (fun z => V.t (T.v (Value.int _ z))) (by rw [sum_take (by assumption)]; omega)), rfl, I⟩, I, I⟩, ?_, ?_⟩
  rotate_left 1
  (dsimp only; omega)
  dsimp only
  omega
 ·rw [take_all (by omega)]
theorem c_laws_heldSeatS (xs : List Seat) (k : Int) (hl : xs.length ≤ 9223372036854775806) (h0 : 0 ≤ k) (hk : k + sumI seatC xs ≤ 1099511627776) : F n_laws_heldSeatS [.val (.t (.slc seatK ((mkL seatMk seatC k xs).map seatT))), .val (.i k)] (.i (k + sumI seatC xs)) [[], []] := by
 have hx := mkL_len seatMk seatC k xs
 refine i_laws_heldSeatS ?_
 conv => whnf
 refine g 0 0 [] ?_
 conv => whnf
 refine ⟨⟨I, I⟩, ?_⟩
 refine W.sq ?_
 refine g 0 0 [] ?_
 conv => whnf
 refine ⟨⟨I, I⟩, ?_⟩
 refine W.blk ?_
 refine W.lp (fun s (n : Nat) => ⟨[(0, s.s 0), (1, .i (k + sumI seatC (xs.take n))), (5, .i n)], [], []⟩) (fun (n : Nat) => n ≤ xs.length) (fun (n : Nat) => xs.length - n) (0) [] [] ⟨rfl, ⟨rfl, (congrArg (fun z => V.t (T.v (Value.int _ z))) (by simp [sumI])), rfl, I⟩, I, I⟩ (by omega) ?_
 intro n hn
 have hq := sum_nn seatC_nn (xs.take n)
 have hle := sum_le seatC_nn xs (n + 1)
 have hle0 := sum_le seatC_nn xs n
 conv => whnf
 refine W.sq ?_
 refine g 6 9 [] ?_
 conv => whnf
 refine ⟨⟨I, I, I, I, I⟩, ?_⟩
 refine W.cn ?_
 conv => whnf
 refine ⟨fun h1 => ?_, fun h1 => ?_⟩
 replace h1 := dt h1
 simp only [List.length_map] at h1
 refine W.skip ?_
 refine W.sq ?_
 refine W.blk ?_
 refine W.sq ?_
 obtain ⟨y1, hy1⟩ := some_at (xs := xs) (n := n) (by omega)
 have hk1 := sum_take (f := seatC) hy1
 have hk2 := seatC_nn y1
 have hk3 := seatC_eq y1
 have hk4 := mkL_get (f := seatMk) (c := seatC) (k := k) hy1
 refine g 9 20 [.x (seatT (seatMk (k + sumI seatC (List.take n xs)) y1)), .i (Int.tmod (k + sumI seatC (List.take n xs)) (3 : Int))] ?_
 conv => whnf
 refine ⟨⟨I, I, ⟨(by omega), ixl (by assumption)⟩, I, I, I, ⟨(by omega), rfl⟩, I, I, I⟩, ?_⟩
 refine W.cn ?_
 conv => whnf
 refine ⟨noT (notF rfl), fun _ => ?_⟩
 refine W.skip ?_
 refine g 20 23 [.i (k + sumI seatC (List.take n xs) + (1 : Int))] ?_
 conv => whnf
 refine ⟨⟨I, w64 (by omega) (by omega), I, I⟩, ?_⟩
 refine W.sq ?_
 refine g 23 29 [.x (seatT (seatMk (k + sumI seatC (List.take n xs)) y1))] ?_
 conv => whnf
 refine ⟨⟨I, I, ⟨(by omega), ixl (by assumption)⟩, I, I, I, I, I⟩, ?_⟩
 refine W.cn ?_
 conv => whnf
 refine ⟨noT (notF rfl), fun _ => ?_⟩
 refine W.skip ?_
 refine rg [.i (k + sumI seatC (List.take n xs) + (1 : Int) + (1 : Int))] ?_
 conv => whnf
 refine ⟨⟨I, w64 (by omega) (by omega), I, I⟩, ?_⟩
 refine rg [.i ((↑n : Int) + (1 : Int))] ?_
 conv => whnf
 refine ⟨⟨I, w64 (by omega) (by omega), I, I⟩, ?_⟩
 rotate_left 1
 replace h1 := df h1
 simp only [List.length_map] at h1
 refine W.exit ?_
 refine g 5 33 [] ?_
 conv => whnf
 refine ⟨⟨I, I, I⟩, ?_⟩
 refine W.ret ?_
 refine EndsW.rt ?_
 conv => whnf
 refine ⟨⟨I, I, I⟩, ?_, rfl⟩
 rotate_left 1
 ·refine ⟨n + 1, [], [], ⟨rfl, ⟨rfl, (congrArg (fun z => V.t (T.v (Value.int _ z))) (by rw [sum_take (by assumption)]; omega)), rfl, I⟩, I, I⟩, ?_, ?_⟩
  rotate_left 1
  (dsimp only; omega)
  dsimp only
  omega
 ·rw [take_all (by omega)]
theorem c_laws_heldOwedS (xs : List Owed) (k : Int) (hl : xs.length ≤ 9223372036854775806) (h0 : 0 ≤ k) (hk : k + sumI owedC xs ≤ 1099511627776) : F n_laws_heldOwedS [.val (.t (.slc owedK ((mkL owedMk owedC k xs).map owedT))), .val (.i k)] (.i (k + sumI owedC xs)) [[], []] := by
 have hx := mkL_len owedMk owedC k xs
 refine i_laws_heldOwedS ?_
 conv => whnf
 refine g 0 0 [] ?_
 conv => whnf
 refine ⟨⟨I, I⟩, ?_⟩
 refine W.sq ?_
 refine g 0 0 [] ?_
 conv => whnf
 refine ⟨⟨I, I⟩, ?_⟩
 refine W.blk ?_
 refine W.lp (fun s (n : Nat) => ⟨[(0, s.s 0), (1, .i (k + sumI owedC (xs.take n))), (5, .i n)], [], []⟩) (fun (n : Nat) => n ≤ xs.length) (fun (n : Nat) => xs.length - n) (0) [] [] ⟨rfl, ⟨rfl, (congrArg (fun z => V.t (T.v (Value.int _ z))) (by simp [sumI])), rfl, I⟩, I, I⟩ (by omega) ?_
 intro n hn
 have hq := sum_nn owedC_nn (xs.take n)
 have hle := sum_le owedC_nn xs (n + 1)
 have hle0 := sum_le owedC_nn xs n
 conv => whnf
 refine W.sq ?_
 refine g 6 9 [] ?_
 conv => whnf
 refine ⟨⟨I, I, I, I, I⟩, ?_⟩
 refine W.cn ?_
 conv => whnf
 refine ⟨fun h1 => ?_, fun h1 => ?_⟩
 replace h1 := dt h1
 simp only [List.length_map] at h1
 refine W.skip ?_
 refine W.sq ?_
 refine W.blk ?_
 refine W.sq ?_
 obtain ⟨y1, hy1⟩ := some_at (xs := xs) (n := n) (by omega)
 have hk1 := sum_take (f := owedC) hy1
 have hk2 := owedC_nn y1
 have hk3 := owedC_eq y1
 have hk4 := mkL_get (f := owedMk) (c := owedC) (k := k) hy1
 refine g 9 18 [.x (owedT (owedMk (k + sumI owedC (List.take n xs)) y1))] ?_
 conv => whnf
 refine ⟨⟨I, I, ⟨(by omega), ixl (by assumption)⟩, I, I, I, I, I⟩, ?_⟩
 refine W.cn ?_
 conv => whnf
 refine ⟨noT (notF rfl), fun _ => ?_⟩
 refine W.skip ?_
 refine g 18 21 [.i (k + sumI owedC (List.take n xs) + (1 : Int))] ?_
 conv => whnf
 refine ⟨⟨I, w64 (by omega) (by omega), I, I⟩, ?_⟩
 refine W.sq ?_
 refine g 21 27 [.x (owedT (owedMk (k + sumI owedC (List.take n xs)) y1))] ?_
 conv => whnf
 refine ⟨⟨I, I, ⟨(by omega), ixl (by assumption)⟩, I, I, I, I, I⟩, ?_⟩
 refine W.cn ?_
 conv => whnf
 refine ⟨noT (notF rfl), fun _ => ?_⟩
 refine W.skip ?_
 refine g 27 30 [.i (k + sumI owedC (List.take n xs) + (1 : Int) + (1 : Int))] ?_
 conv => whnf
 refine ⟨⟨I, w64 (by omega) (by omega), I, I⟩, ?_⟩
 refine W.sq ?_
 refine g 30 36 [.x (owedT (owedMk (k + sumI owedC (List.take n xs)) y1))] ?_
 conv => whnf
 refine ⟨⟨I, I, ⟨(by omega), ixl (by assumption)⟩, I, I, I, I, I⟩, ?_⟩
 refine W.cn ?_
 conv => whnf
 refine ⟨noT (notF rfl), fun _ => ?_⟩
 refine W.skip ?_
 refine rg [.i (k + sumI owedC (List.take n xs) + (1 : Int) + (1 : Int) + (1 : Int))] ?_
 conv => whnf
 refine ⟨⟨I, w64 (by omega) (by omega), I, I⟩, ?_⟩
 refine rg [.i ((↑n : Int) + (1 : Int))] ?_
 conv => whnf
 refine ⟨⟨I, w64 (by omega) (by omega), I, I⟩, ?_⟩
 rotate_left 1
 replace h1 := df h1
 simp only [List.length_map] at h1
 refine W.exit ?_
 refine g 5 40 [] ?_
 conv => whnf
 refine ⟨⟨I, I, I⟩, ?_⟩
 refine W.ret ?_
 refine EndsW.rt ?_
 conv => whnf
 refine ⟨⟨I, I, I⟩, ?_, rfl⟩
 rotate_left 1
 ·refine ⟨n + 1, [], [], ⟨rfl, ⟨rfl, (congrArg (fun z => V.t (T.v (Value.int _ z))) (by rw [sum_take (by assumption)]; omega)), rfl, I⟩, I, I⟩, ?_, ?_⟩
  rotate_left 1
  (dsimp only; omega)
  dsimp only
  omega
 ·rw [take_all (by omega)]
def logTop (k : Int) (x : Log) : Log := ⟨mkL (fun k _ => markT k) (fun _ => 1) (k) x.safe, mkL (fun k _ => markT k) (fun _ => 1) (k + x.safe.length) x.loose⟩
def logTopC (x : Log) : Int := x.safe.length + x.loose.length
theorem logTopC_nn (x : Log) : 0 ≤ logTopC x := by
 simp only [logTopC]; omega
theorem c_laws_markLog (x : Log) (k : Int) (hl : x.safe.length ≤ 9223372036854775806 ∧ x.loose.length ≤ 9223372036854775806) (h0 : 0 ≤ k) (hk : k + logTopC x ≤ 1099511627776) : F n_laws_markLog [.bor (logO x), .val (.i k)] (.i (k + logTopC x)) [cellsOf (logO (logTop k x)), []] := by
 obtain ⟨hl0, hl1⟩ := hl
 have hz : logTopC x = x.safe.length + x.loose.length := rfl
 refine i_laws_markLog ?_
 conv => whnf
 refine g 0 1 [] ?_
 conv => whnf
 refine ⟨⟨I, I, I⟩, ?_⟩
 refine g 5 9 [.call (V.i (k + (↑(List.length (Log.safe x)) : Int))) ([[V.own [false] (List.map strT (mkL (fun k x => markT k) (fun x => (1 : Int)) k (Log.safe x)))], []])] ?_
 conv => whnf
 refine ⟨⟨I, I, I, ⟨⟨⟨I, I⟩, I, I⟩, I, ⟨I, ⟨I, I⟩, I⟩, ⟨I, I⟩, Go.K.c_laws_markStringS _ _ (by omega) (by omega) (by omega)⟩, I, I⟩, ?_⟩
 refine g 9 13 [.call (V.i (k + (↑(List.length (Log.safe x)) : Int) + (↑(List.length (Log.loose x)) : Int))) ([[V.own [false] (List.map strT (mkL (fun k x => markT k) (fun x => (1 : Int)) (k + (↑(List.length (Log.safe x)) : Int)) (Log.loose x)))], []])] ?_
 conv => whnf
 refine ⟨⟨I, I, I, ⟨⟨⟨I, I⟩, I, I⟩, I, ⟨I, ⟨I, I⟩, I⟩, ⟨I, I⟩, Go.K.c_laws_markStringS _ _ (by omega) (by omega) (by omega)⟩, I, I⟩, ?_⟩
 refine g 1 3 [] ?_
 conv => whnf
 refine ⟨⟨I, I, I⟩, ?_⟩
 refine W.ret ?_
 refine EndsW.rt ?_
 conv => whnf
 refine ⟨⟨I, I, I⟩, ?_, rfl⟩
 exact vi (by omega)
theorem c_laws_heldLog (x : Log) (k : Int) (hl : x.safe.length ≤ 9223372036854775806 ∧ x.loose.length ≤ 9223372036854775806) (h0 : 0 ≤ k) (hk : k + logTopC x ≤ 1099511627776) : F n_laws_heldLog [.val (logR (logTop k x)), .val (.i k)] (.i (k + logTopC x)) [[], []] := by
 obtain ⟨hl0, hl1⟩ := hl
 have hz : logTopC x = x.safe.length + x.loose.length := rfl
 refine i_laws_heldLog ?_
 conv => whnf
 refine g 0 1 [] ?_
 conv => whnf
 refine ⟨⟨⟨I, I, I⟩, I, I⟩, ?_⟩
 refine g 5 9 [.call (V.i (k + (↑(List.length (Log.safe x)) : Int))) ([[], []])] ?_
 conv => whnf
 refine ⟨⟨I, I, I, ⟨⟨I, I, I⟩, I, ⟨⟨I, I⟩, ⟨I, I⟩, I⟩, ⟨I, I⟩, Go.K.c_laws_heldStringS _ _ (by omega) (by omega) (by omega)⟩, I, I⟩, ?_⟩
 refine W.sq ?_
 refine g 9 10 [] ?_
 conv => whnf
 refine ⟨⟨I, I, I⟩, ?_⟩
 refine W.cn ?_
 conv => whnf
 refine ⟨noT (dF (by omega)), fun _ => ?_⟩
 refine W.skip ?_
 refine g 10 15 [.call (V.i (k + (↑(List.length (Log.safe x)) : Int) + (↑(List.length (Log.loose x)) : Int))) ([[], []])] ?_
 conv => whnf
 refine ⟨⟨I, I, I, ⟨⟨I, I, I⟩, I, ⟨⟨I, I⟩, ⟨I, I⟩, I⟩, ⟨I, I⟩, Go.K.c_laws_heldStringS _ _ (by omega) (by omega) (by omega)⟩, I, I⟩, ?_⟩
 refine W.sq ?_
 refine g 2 3 [] ?_
 conv => whnf
 refine ⟨⟨I, I, I⟩, ?_⟩
 refine W.cn ?_
 conv => whnf
 refine ⟨noT (dF (by omega)), fun _ => ?_⟩
 refine W.skip ?_
 refine g 15 18 [] ?_
 conv => whnf
 refine ⟨⟨I, I, I⟩, ?_⟩
 refine W.ret ?_
 refine EndsW.rt ?_
 conv => whnf
 refine ⟨⟨I, I, I⟩, ?_, rfl⟩
 exact vi (by omega)
def bossTop (k : Int) (x : Boss) : Boss := ⟨x.workers, x.up, x.now, x.since, x.epoch, x.given, logTop (k) x.log, mkL (fun k _ => markT k) (fun _ => 1) (k + logTopC x.log) x.results, mkL jobMk jobC (k + logTopC x.log + x.results.length) x.jobs, mkL seatMk seatC (k + logTopC x.log + x.results.length + sumI jobC x.jobs) x.seats, mkL owedMk owedC (k + logTopC x.log + x.results.length + sumI jobC x.jobs + sumI seatC x.seats) x.owed⟩
def bossTopC (x : Boss) : Int := logTopC x.log + x.results.length + sumI jobC x.jobs + sumI seatC x.seats + sumI owedC x.owed
theorem bossTopC_nn (x : Boss) : 0 ≤ bossTopC x := by
 have := logTopC_nn x.log
 have := sum_nn jobC_nn x.jobs
 have := sum_nn seatC_nn x.seats
 have := sum_nn owedC_nn x.owed
 simp only [bossTopC]; omega
theorem c_laws_markBoss (x : Boss) (k : Int) (hl : x.log.safe.length ≤ 9223372036854775806 ∧ x.log.loose.length ≤ 9223372036854775806 ∧ x.results.length ≤ 9223372036854775806 ∧ x.jobs.length ≤ 9223372036854775806 ∧ x.seats.length ≤ 9223372036854775806 ∧ x.owed.length ≤ 9223372036854775806) (h0 : 0 ≤ k) (hk : k + bossTopC x ≤ 1099511627776) : F n_laws_markBoss [.bor (bossO x), .val (.i k)] (.i (k + bossTopC x)) [cellsOf (bossO (bossTop k x)), []] := by
 obtain ⟨hl0, hl1, hl2, hl3, hl4, hl5⟩ := hl
 have hn0 := logTopC_nn x.log
 have hn1 := sum_nn jobC_nn x.jobs
 have hn2 := sum_nn seatC_nn x.seats
 have hn3 := sum_nn owedC_nn x.owed
 have hz : bossTopC x = logTopC x.log + x.results.length + sumI jobC x.jobs + sumI seatC x.seats + sumI owedC x.owed := rfl
 refine i_laws_markBoss ?_
 conv => whnf
 refine g 0 1 [] ?_
 conv => whnf
 refine ⟨⟨⟨I, I, I, I, I, I, I⟩, I, I⟩, ?_⟩
 refine g 5 9 [.call (V.i (k + logTopC (Boss.log x))) ([cellsOf (logO (logTop k (Boss.log x))), []])] ?_
 conv => whnf
 refine ⟨⟨I, I, I, ⟨⟨⟨I, I, I⟩, I, I⟩, I, ⟨I, ⟨I, I⟩, I⟩, ⟨I, I⟩, Go.K.c_laws_markLog _ _ (by omega) (by omega) (by omega)⟩, I, I⟩, ?_⟩
 refine g 9 13 [.call (V.i (k + logTopC (Boss.log x) + (↑(List.length (Boss.results x)) : Int))) ([[V.own [false] (List.map strT (mkL (fun k x => markT k) (fun x => (1 : Int)) (k + logTopC (Boss.log x)) (Boss.results x)))], []])] ?_
 conv => whnf
 refine ⟨⟨I, I, I, ⟨⟨⟨I, I⟩, I, I⟩, I, ⟨I, ⟨I, I⟩, I⟩, ⟨I, I⟩, Go.K.c_laws_markStringS _ _ (by omega) (by omega) (by omega)⟩, I, I⟩, ?_⟩
 refine g 13 17 [.call (V.i (k + logTopC (Boss.log x) + (↑(List.length (Boss.results x)) : Int) + sumI jobC (Boss.jobs x))) ([[V.own jobK (List.map jobT (mkL jobMk jobC (k + logTopC (Boss.log x) + (↑(List.length (Boss.results x)) : Int)) (Boss.jobs x)))], []])] ?_
 conv => whnf
 refine ⟨⟨I, I, I, ⟨⟨⟨I, I⟩, I, I⟩, I, ⟨I, ⟨I, I⟩, I⟩, ⟨I, I⟩, Go.K.c_laws_markJobS _ _ (by omega) (by omega) (by omega)⟩, I, I⟩, ?_⟩
 refine g 17 21 [.call (V.i (k + logTopC (Boss.log x) + (↑(List.length (Boss.results x)) : Int) + sumI jobC (Boss.jobs x) + sumI seatC (Boss.seats x))) ([[V.own seatK (List.map seatT (mkL seatMk seatC (k + logTopC (Boss.log x) + (↑(List.length (Boss.results x)) : Int) + sumI jobC (Boss.jobs x)) (Boss.seats x)))], []])] ?_
 conv => whnf
 refine ⟨⟨I, I, I, ⟨⟨⟨I, I⟩, I, I⟩, I, ⟨I, ⟨I, I⟩, I⟩, ⟨I, I⟩, Go.K.c_laws_markSeatS _ _ (by omega) (by omega) (by omega)⟩, I, I⟩, ?_⟩
 refine g 21 25 [.call (V.i (k + logTopC (Boss.log x) + (↑(List.length (Boss.results x)) : Int) + sumI jobC (Boss.jobs x) + sumI seatC (Boss.seats x) + sumI owedC (Boss.owed x))) ([[V.own owedK (List.map owedT (mkL owedMk owedC (k + logTopC (Boss.log x) + (↑(List.length (Boss.results x)) : Int) + sumI jobC (Boss.jobs x) + sumI seatC (Boss.seats x)) (Boss.owed x)))], []])] ?_
 conv => whnf
 refine ⟨⟨I, I, I, ⟨⟨⟨I, I⟩, I, I⟩, I, ⟨I, ⟨I, I⟩, I⟩, ⟨I, I⟩, Go.K.c_laws_markOwedS _ _ (by omega) (by omega) (by omega)⟩, I, I⟩, ?_⟩
 refine g 1 3 [] ?_
 conv => whnf
 refine ⟨⟨I, I, I⟩, ?_⟩
 refine W.ret ?_
 refine EndsW.rt ?_
 conv => whnf
 refine ⟨⟨I, I, I⟩, ?_, rfl⟩
 exact vi (by omega)
theorem c_laws_heldBoss (x : Boss) (k : Int) (hl : x.log.safe.length ≤ 9223372036854775806 ∧ x.log.loose.length ≤ 9223372036854775806 ∧ x.results.length ≤ 9223372036854775806 ∧ x.jobs.length ≤ 9223372036854775806 ∧ x.seats.length ≤ 9223372036854775806 ∧ x.owed.length ≤ 9223372036854775806) (h0 : 0 ≤ k) (hk : k + bossTopC x ≤ 1099511627776) : F n_laws_heldBoss [.val (bossR (bossTop k x)), .val (.i k)] (.i (k + bossTopC x)) [[], []] := by
 obtain ⟨hl0, hl1, hl2, hl3, hl4, hl5⟩ := hl
 have hn0 := logTopC_nn x.log
 have hn1 := sum_nn jobC_nn x.jobs
 have hn2 := sum_nn seatC_nn x.seats
 have hn3 := sum_nn owedC_nn x.owed
 have hz : bossTopC x = logTopC x.log + x.results.length + sumI jobC x.jobs + sumI seatC x.seats + sumI owedC x.owed := rfl
 refine i_laws_heldBoss ?_
 conv => whnf
 refine g 0 1 [] ?_
 conv => whnf
 refine ⟨⟨⟨I, I, I, I, I, I, I, I, I, I, I, I, I⟩, I, I⟩, ?_⟩
 refine g 5 9 [.call (V.i (k + logTopC (Boss.log x))) ([[], []])] ?_
 conv => whnf
 refine ⟨⟨I, I, I, ⟨⟨I, I, I⟩, I, ⟨⟨I, I, I⟩, ⟨I, I⟩, I⟩, ⟨I, I⟩, Go.K.c_laws_heldLog _ _ (by omega) (by omega) (by omega)⟩, I, I⟩, ?_⟩
 refine W.sq ?_
 refine g 9 10 [] ?_
 conv => whnf
 refine ⟨⟨I, I, I⟩, ?_⟩
 refine W.cn ?_
 conv => whnf
 refine ⟨noT (dF (by omega)), fun _ => ?_⟩
 refine W.skip ?_
 refine g 10 15 [.call (V.i (k + logTopC (Boss.log x) + (↑(List.length (Boss.results x)) : Int))) ([[], []])] ?_
 conv => whnf
 refine ⟨⟨I, I, I, ⟨⟨I, I, I⟩, I, ⟨⟨I, I⟩, ⟨I, I⟩, I⟩, ⟨I, I⟩, Go.K.c_laws_heldStringS _ _ (by omega) (by omega) (by omega)⟩, I, I⟩, ?_⟩
 refine W.sq ?_
 refine g 15 16 [] ?_
 conv => whnf
 refine ⟨⟨I, I, I⟩, ?_⟩
 refine W.cn ?_
 conv => whnf
 refine ⟨noT (dF (by omega)), fun _ => ?_⟩
 refine W.skip ?_
 refine g 16 21 [.call (V.i (k + logTopC (Boss.log x) + (↑(List.length (Boss.results x)) : Int) + sumI jobC (Boss.jobs x))) ([[], []])] ?_
 conv => whnf
 refine ⟨⟨I, I, I, ⟨⟨I, I, I⟩, I, ⟨⟨I, I⟩, ⟨I, I⟩, I⟩, ⟨I, I⟩, Go.K.c_laws_heldJobS _ _ (by omega) (by omega) (by omega)⟩, I, I⟩, ?_⟩
 refine W.sq ?_
 refine g 21 22 [] ?_
 conv => whnf
 refine ⟨⟨I, I, I⟩, ?_⟩
 refine W.cn ?_
 conv => whnf
 refine ⟨noT (dF (by omega)), fun _ => ?_⟩
 refine W.skip ?_
 refine g 22 27 [.call (V.i (k + logTopC (Boss.log x) + (↑(List.length (Boss.results x)) : Int) + sumI jobC (Boss.jobs x) + sumI seatC (Boss.seats x))) ([[], []])] ?_
 conv => whnf
 refine ⟨⟨I, I, I, ⟨⟨I, I, I⟩, I, ⟨⟨I, I⟩, ⟨I, I⟩, I⟩, ⟨I, I⟩, Go.K.c_laws_heldSeatS _ _ (by omega) (by omega) (by omega)⟩, I, I⟩, ?_⟩
 refine W.sq ?_
 refine g 27 28 [] ?_
 conv => whnf
 refine ⟨⟨I, I, I⟩, ?_⟩
 refine W.cn ?_
 conv => whnf
 refine ⟨noT (dF (by omega)), fun _ => ?_⟩
 refine W.skip ?_
 refine g 28 33 [.call (V.i (k + logTopC (Boss.log x) + (↑(List.length (Boss.results x)) : Int) + sumI jobC (Boss.jobs x) + sumI seatC (Boss.seats x) + sumI owedC (Boss.owed x))) ([[], []])] ?_
 conv => whnf
 refine ⟨⟨I, I, I, ⟨⟨I, I, I⟩, I, ⟨⟨I, I⟩, ⟨I, I⟩, I⟩, ⟨I, I⟩, Go.K.c_laws_heldOwedS _ _ (by omega) (by omega) (by omega)⟩, I, I⟩, ?_⟩
 refine W.sq ?_
 refine g 2 3 [] ?_
 conv => whnf
 refine ⟨⟨I, I, I⟩, ?_⟩
 refine W.cn ?_
 conv => whnf
 refine ⟨noT (dF (by omega)), fun _ => ?_⟩
 refine W.skip ?_
 refine g 33 36 [] ?_
 conv => whnf
 refine ⟨⟨I, I, I⟩, ?_⟩
 refine W.ret ?_
 refine EndsW.rt ?_
 conv => whnf
 refine ⟨⟨I, I, I⟩, ?_, rfl⟩
 exact vi (by omega)
end Go.K
end
section
set_option linter.unusedVariables false
set_option linter.unusedSimpArgs false
set_option maxHeartbeats 8000000
set_option maxRecDepth 20000
open Go Go.Tm Go.Proofs
namespace Go.K
theorem c_impl_Boss_twin (b : Boss) (h1 : b.log.safe.length ≤ 1048576) (h2 : b.log.loose.length ≤ 1048576) (h3 : b.results.length ≤ 1048576) (h4 : b.jobs.length ≤ 1048576) (h5 : b.seats.length ≤ 1048576) (h6 : b.owed.length ≤ 1048576) : F n_impl_Boss_twin [.val (bossR b)] (bossO b) [[]] := by
 refine i_impl_Boss_twin ?_
 conv => whnf
 refine g 0 0 [] ?_
 conv => whnf
 refine ⟨⟨⟨I, I, I, I, I, I, I, I, I, I, I, I, I⟩, I, I⟩, ?_⟩
 refine gd 3 13 [[], [], [], [.call (V.own [false] (List.map strT (Log.safe (Boss.log b)))) ([[]])], [], [], [], [.call (V.own [false] (List.map strT (Log.loose (Boss.log b)))) ([[]])], [], [], []] ?_
 conv => whnf
 refine ⟨⟨I, I, I, ⟨⟨I, I⟩, I, ⟨⟨I, I⟩, I⟩, ⟨I, I⟩, Go.K.c_impl_clone _ (by omega)⟩, I, I, I, ⟨⟨I, I⟩, I, ⟨⟨I, I⟩, I⟩, ⟨I, I⟩, Go.K.c_impl_clone _ (by omega)⟩, I, I, ⟨I, I, I⟩, I⟩, by kernel_rfl, ?_⟩
 refine g 13 17 [.call (V.own [false] (List.map strT (Boss.results b))) ([[]])] ?_
 conv => whnf
 refine ⟨⟨I, I, ⟨⟨I, I⟩, I, ⟨⟨I, I⟩, I⟩, ⟨I, I⟩, Go.K.c_impl_clone _ (by omega)⟩, I, ⟨I, I⟩, I⟩, ?_⟩
 refine g 17 22 [] ?_
 conv => whnf
 refine ⟨⟨I, I, I, ⟨I, I, (by simp only [lens]; omega)⟩, I, ⟨I, I⟩, I⟩, ?_⟩
 refine g 22 27 [] ?_
 conv => whnf
 refine ⟨⟨I, I, I, ⟨I, I, (by simp only [lens]; omega)⟩, I, ⟨I, I⟩, I⟩, ?_⟩
 refine g 27 32 [] ?_
 conv => whnf
 refine ⟨⟨I, I, I, ⟨I, I, (by simp only [lens]; omega)⟩, I, ⟨I, I⟩, I⟩, ?_⟩
 refine g 0 2 [] ?_
 conv => whnf
 refine ⟨⟨I, ⟨I, I, I, I, I, I, I, I, I, I, I, I, I⟩, I⟩, ?_⟩
 refine W.ret ?_
 refine EndsW.rt ?_
 conv => whnf
 refine ⟨⟨I, I, I, I, I, I, I, I, I, I, I, I, I, I⟩, ?_, rfl⟩
 rfl
theorem c_spec_l4Log (l : Log) (h1 : l.safe.length ≤ 1048576) (h2 : l.loose.length ≤ 1048576) : F n_spec_l4Log [.val (logR l)] (logO l) [[]] := by
 refine i_spec_l4Log ?_
 conv => whnf
 refine g 0 0 [] ?_
 conv => whnf
 refine ⟨⟨⟨I, I, I⟩, I, I⟩, ?_⟩
 refine gd 3 12 [[], [], [], [], [], [], [], [], [], []] ?_
 conv => whnf
 refine ⟨⟨I, I, I, ⟨I, I, (by simp only [lens]; omega)⟩, I, I, I, ⟨I, I, (by simp only [lens]; omega)⟩, I, ⟨I, I, I⟩, I⟩, by kernel_rfl, ?_⟩
 refine W.ret ?_
 refine EndsW.rt ?_
 conv => whnf
 refine ⟨⟨I, I, I, I⟩, ?_, rfl⟩
 rfl
theorem c_spec_l5Copy (b : Boss) (h1 : b.log.safe.length ≤ 1048576) (h2 : b.log.loose.length ≤ 1048576) (h3 : b.results.length ≤ 1048576) (h4 : b.jobs.length ≤ 1048576) (h5 : b.seats.length ≤ 1048576) (h6 : b.owed.length ≤ 1048576) : F n_spec_l5Copy [.val (bossR b)] (bossO b) [[]] := by
 have c1 := c_spec_l4Log b.log h1 h2
 refine i_spec_l5Copy ?_
 conv => whnf
 refine g 0 1 [] ?_
 conv => whnf
 refine ⟨⟨⟨I, I, I, I, I, I, I, I, I, I, I, I, I⟩, I, I⟩, ?_⟩
 refine g 3 7 [.call (logO (Boss.log b)) ([[]])] ?_
 conv => whnf
 refine ⟨⟨I, I, ⟨⟨I, I⟩, I, ⟨⟨I, I, I⟩, I⟩, ⟨I, I⟩, (by assumption)⟩, I, ⟨I, I, I⟩, I⟩, ?_⟩
 refine g 7 12 [] ?_
 conv => whnf
 refine ⟨⟨I, I, I, ⟨I, I, (by simp only [lens]; omega)⟩, I, ⟨I, I⟩, I⟩, ?_⟩
 refine g 12 17 [] ?_
 conv => whnf
 refine ⟨⟨I, I, I, ⟨I, I, (by simp only [lens]; omega)⟩, I, ⟨I, I⟩, I⟩, ?_⟩
 refine g 17 22 [] ?_
 conv => whnf
 refine ⟨⟨I, I, I, ⟨I, I, (by simp only [lens]; omega)⟩, I, ⟨I, I⟩, I⟩, ?_⟩
 refine g 22 27 [] ?_
 conv => whnf
 refine ⟨⟨I, I, I, ⟨I, I, (by simp only [lens]; omega)⟩, I, ⟨I, I⟩, I⟩, ?_⟩
 refine g 1 2 [] ?_
 conv => whnf
 refine ⟨⟨I, ⟨I, I, I, I, I, I, I, I, I, I, I, I, I⟩, I⟩, ?_⟩
 refine W.ret ?_
 refine EndsW.rt ?_
 conv => whnf
 refine ⟨⟨I, I, I, I, I, I, I, I, I, I, I, I, I, I⟩, ?_, rfl⟩
 rfl
structure BossLim (b : Boss) : Prop where
 safe : b.log.safe.length ≤ 1048576
 loose : b.log.loose.length ≤ 1048576
 all : ∀ s ∈ b.log.safe ++ b.log.loose, s.size ≤ 281474976710656
 res : b.results.length ≤ 1048576
 jobs : b.jobs.length ≤ 1048576
 seats : b.seats.length ≤ 1048576
 owed : b.owed.length ≤ 1048576
theorem boss_lim {b : Boss} (h : bossSz b ≤ 1048576) : BossLim b := by
 obtain ⟨b1, b2, b3, b4, b5, b6, b7⟩ := boss_bounds h
 exact ⟨b1, b2, b3, b4, b5, b6, b7⟩
theorem ci_valid (b : Boss) (p : Plan) (hp : planWf p) (h : BossLim b) : F n_impl_ValidBoss [.val (bossR b), .val (planR p)] (.b (decide (BossOk b p))) [[], []] := c_impl_ValidBoss b p hp h.safe h.loose h.all h.res h.jobs h.seats h.owed
theorem cs_valid (b : Boss) (p : Plan) (hp : planWf p) (h : BossLim b) : F n_spec_ValidBoss [.val (bossR b), .val (planR p)] (.b (decide (BossOk b p))) [[], []] := c_spec_ValidBoss b p hp h.safe h.loose h.all h.res h.jobs h.seats h.owed
theorem ci_twin (b : Boss) (h : BossLim b) : F n_impl_Boss_twin [.val (bossR b)] (bossO b) [[]] := c_impl_Boss_twin b h.safe h.loose h.res h.jobs h.seats h.owed
theorem cs_copy (b : Boss) (h : BossLim b) : F n_spec_l5Copy [.val (bossR b)] (bossO b) [[]] := c_spec_l5Copy b h.safe h.loose h.res h.jobs h.seats h.owed
end Go.K
end
section
set_option linter.unusedVariables false
set_option linter.unusedSimpArgs false
set_option maxHeartbeats 8000000
set_option maxRecDepth 20000
open Go Go.Tm Go.Proofs
namespace Go.K
theorem sum_jobC : ∀ l : List Job, sumI jobC l = 3 * (l.length : Int)
 | [] => by simp [sumI]
 | x :: l => by have := sum_jobC l; simp only [sumI, jobC, List.length_cons]; omega
theorem sum_seatC : ∀ l : List Seat, sumI seatC l = 2 * (l.length : Int)
 | [] => by simp [sumI]
 | x :: l => by have := sum_seatC l; simp only [sumI, seatC, List.length_cons]; omega
theorem sum_owedC : ∀ l : List Owed, sumI owedC l = 3 * (l.length : Int)
 | [] => by simp [sumI]
 | x :: l => by have := sum_owedC l; simp only [sumI, owedC, List.length_cons]; omega
theorem bossTopC_len (x : Boss) : bossTopC x = x.log.safe.length + x.log.loose.length + x.results.length + 3 * x.jobs.length + 2 * x.seats.length + 3 * x.owed.length := by
 simp only [bossTopC, logTopC, sum_jobC, sum_seatC, sum_owedC]
structure BossSmall (b : Boss) : Prop where
 safe : b.log.safe.length ≤ 4194304
 loose : b.log.loose.length ≤ 4194304
 res : b.results.length ≤ 4194304
 jobs : b.jobs.length ≤ 4194304
 seats : b.seats.length ≤ 4194304
 owed : b.owed.length ≤ 4194304
theorem small_no : BossSmall noBoss := ⟨by decide, by decide, by decide, by decide, by decide, by decide⟩
theorem small_lim {b : Boss} (h : BossLim b) : BossSmall b := by
 obtain ⟨h1, h2, h3, h4, h5, h6, h7⟩ := h
 exact ⟨by omega, by omega, by omega, by omega, by omega, by omega⟩
theorem small_boss {b : Boss} (h : BossSmall b) : bossLen b ∧ (b.log.safe.length ≤ 9223372036854775806 ∧ b.log.loose.length ≤ 9223372036854775806 ∧ b.results.length ≤ 9223372036854775806 ∧ b.jobs.length ≤ 9223372036854775806 ∧ b.seats.length ≤ 9223372036854775806 ∧ b.owed.length ≤ 9223372036854775806) ∧ bossTopC b ≤ 100000000 ∧ 0 ≤ bossTopC b := by
 obtain ⟨h1, h2, h3, h4, h5, h6⟩ := h
 have e := bossTopC_len b
 exact ⟨⟨by omega, by omega, by omega, by omega, by omega, by omega⟩, ⟨by omega, by omega, by omega, by omega, by omega, by omega⟩, by omega, by omega⟩
end Go.K
end
section
set_option linter.unusedVariables false
set_option linter.unusedSimpArgs false
set_option maxHeartbeats 4000000
set_option maxRecDepth 20000
open Go Go.Tm Go.Proofs
namespace Go.K
structure Led where
 boss : Boss
 out : List Message
 deriving DecidableEq
abbrev ledR (x : Led) : V := .agg [.t (.i x.boss.workers), .t (.b x.boss.up), .t (.i x.boss.now), .t (.i x.boss.since), .t (.i x.boss.epoch), .t (.i x.boss.given), .t (.slc [false] (x.boss.log.safe.map strT)), .t (.slc [false] (x.boss.log.loose.map strT)), .t (.slc [false] (x.boss.results.map strT)), .t (.slc jobK (x.boss.jobs.map jobT)), .t (.slc seatK (x.boss.seats.map seatT)), .t (.slc owedK (x.boss.owed.map owedT)), .t (.slc messageK (x.out.map messageT))]
abbrev ledO (x : Led) : V := .agg [.t (.i x.boss.workers), .t (.b x.boss.up), .t (.i x.boss.now), .t (.i x.boss.since), .t (.i x.boss.epoch), .t (.i x.boss.given), .own [false] (x.boss.log.safe.map strT), .own [false] (x.boss.log.loose.map strT), .own [false] (x.boss.results.map strT), .own jobK (x.boss.jobs.map jobT), .own seatK (x.boss.seats.map seatT), .own owedK (x.boss.owed.map owedT), .own messageK (x.out.map messageT)]
abbrev noLed : Led := ⟨⟨0, false, 0, 0, 0, 0, ⟨[], []⟩, [], [], [], []⟩, []⟩
def ledLen (a : Led) : Prop := a.boss.log.safe.length ≤ 9223372036854775806 ∧ a.boss.log.loose.length ≤ 9223372036854775806 ∧ a.boss.results.length ≤ 9223372036854775806 ∧ a.boss.jobs.length ≤ 9223372036854775806 ∧ a.boss.seats.length ≤ 9223372036854775806 ∧ a.boss.owed.length ≤ 9223372036854775806 ∧ a.out.length ≤ 9223372036854775806 ∧ (∀ y ∈ a.out, messageLen y)
theorem c_laws_eqLed (a b : Led) (hl : ledLen a) : F n_laws_eqLed [.val (ledR a), .val (ledR b)] (.b (decide (a = b))) [[], []] := by
 obtain ⟨a_boss, a_out⟩ := a
 obtain ⟨b_boss, b_out⟩ := b
 simp only [ledLen] at hl
 obtain ⟨hl0, hl1, hl2, hl3, hl4, hl5, hl6, hl7⟩ := hl
 have hx0 : bossLen a_boss := ⟨hl0, hl1, hl2, hl3, hl4, hl5⟩
 refine i_laws_eqLed ?_
 conv => whnf
 refine g 0 2 [] ?_
 conv => whnf
 refine ⟨⟨⟨I, I, I, I, I, I, I, I, I, I, I, I, I, I⟩, ⟨I, I, I, I, I, I, I, I, I, I, I, I, I, I⟩, I, I⟩, ?_⟩
 refine W.sq ?_
 refine g 5 10 [.call (V.b (decide (a_boss = b_boss))) ([[], []])] ?_
 conv => whnf
 refine ⟨⟨I, I, I, I, ⟨⟨I, I, I⟩, I, ⟨⟨I, I, I, I, I, I, I, I, I, I, I, I, I⟩, ⟨I, I, I, I, I, I, I, I, I, I, I, I, I⟩, I⟩, ⟨I, I⟩, Go.K.c_laws_eqBoss _ _ (by omega)⟩, I, I⟩, ?_⟩
 refine W.cn ?_
 conv => whnf
 refine ⟨fun h1 => ?_, fun h1 => ?_⟩
 replace h1 := ndt h1
 refine g 10 11 [] ?_
 conv => whnf
 refine ⟨⟨I, I⟩, ?_⟩
 refine W.ret ?_
 refine EndsW.rt ?_
 conv => whnf
 refine ⟨⟨I, I, I⟩, ?_, rfl⟩
 rotate_left 1
 replace h1 := ndf h1
 refine W.skip ?_
 refine W.sq ?_
 refine g 10 16 [.call (V.b (decide (a_out = b_out))) ([[], []])] ?_
 conv => whnf
 refine ⟨⟨I, I, I, I, ⟨⟨I, I, I⟩, I, ⟨⟨I, I⟩, ⟨I, I⟩, I⟩, ⟨I, I⟩, Go.K.c_laws_eqMessageS _ _ (by omega) (by omega)⟩, I, I⟩, ?_⟩
 refine W.cn ?_
 conv => whnf
 refine ⟨fun h2 => ?_, fun h2 => ?_⟩
 replace h2 := ndt h2
 refine g 2 4 [] ?_
 conv => whnf
 refine ⟨⟨I, I⟩, ?_⟩
 refine W.ret ?_
 refine EndsW.rt ?_
 conv => whnf
 refine ⟨⟨I, I, I⟩, ?_, rfl⟩
 rotate_left 1
 replace h2 := ndf h2
 refine W.skip ?_
 refine g 2 4 [] ?_
 conv => whnf
 refine ⟨⟨I, I⟩, ?_⟩
 refine W.ret ?_
 refine EndsW.rt ?_
 conv => whnf
 refine ⟨⟨I, I, I⟩, ?_, rfl⟩
 rotate_left 1
 all_goals (first | exact vbt (by simp_all; done) | exact vbf (by simp_all; done))
def ledTop (k : Int) (x : Led) : Led := ⟨bossTop (k) x.boss, mkL messageMk messageC (k + bossTopC x.boss) x.out⟩
def ledTopC (x : Led) : Int := bossTopC x.boss + sumI messageC x.out
theorem c_laws_markLed (x : Led) (k : Int) (hl : x.boss.log.safe.length ≤ 9223372036854775806 ∧ x.boss.log.loose.length ≤ 9223372036854775806 ∧ x.boss.results.length ≤ 9223372036854775806 ∧ x.boss.jobs.length ≤ 9223372036854775806 ∧ x.boss.seats.length ≤ 9223372036854775806 ∧ x.boss.owed.length ≤ 9223372036854775806 ∧ x.out.length ≤ 9223372036854775806) (h0 : 0 ≤ k) (hk : k + ledTopC x ≤ 1099511627776) : F n_laws_markLed [.bor (ledO x), .val (.i k)] (.i (k + ledTopC x)) [cellsOf (ledO (ledTop k x)), []] := by
 obtain ⟨hl0, hl1, hl2, hl3, hl4, hl5, hl6⟩ := hl
 have hn0 := bossTopC_nn x.boss
 have hn1 := sum_nn messageC_nn x.out
 have hz : ledTopC x = bossTopC x.boss + sumI messageC x.out := rfl
 refine i_laws_markLed ?_
 conv => whnf
 refine g 0 1 [] ?_
 conv => whnf
 refine ⟨⟨⟨I, I, I, I, I, I, I⟩, I, I⟩, ?_⟩
 refine g 5 9 [.call (V.i (k + bossTopC (Led.boss x))) ([cellsOf (bossO (bossTop k (Led.boss x))), []])] ?_
 conv => whnf
 refine ⟨⟨I, I, I, ⟨⟨⟨I, I, I, I, I, I, I, I, I, I, I, I, I⟩, I, I⟩, I, ⟨I, ⟨I, I⟩, I⟩, ⟨I, I⟩, Go.K.c_laws_markBoss _ _ (by omega) (by omega) (by omega)⟩, I, I⟩, ?_⟩
 refine g 9 13 [.call (V.i (k + bossTopC (Led.boss x) + sumI messageC (Led.out x))) ([[V.own messageK (List.map messageT (mkL messageMk messageC (k + bossTopC (Led.boss x)) (Led.out x)))], []])] ?_
 conv => whnf
 refine ⟨⟨I, I, I, ⟨⟨⟨I, I⟩, I, I⟩, I, ⟨I, ⟨I, I⟩, I⟩, ⟨I, I⟩, Go.K.c_laws_markMessageS _ _ (by omega) (by omega) (by omega)⟩, I, I⟩, ?_⟩
 refine g 1 3 [] ?_
 conv => whnf
 refine ⟨⟨I, I, I⟩, ?_⟩
 refine W.ret ?_
 refine EndsW.rt ?_
 conv => whnf
 refine ⟨⟨I, I, I⟩, ?_, rfl⟩
 exact vi (by omega)
theorem c_laws_heldLed (x : Led) (k : Int) (hl : x.boss.log.safe.length ≤ 9223372036854775806 ∧ x.boss.log.loose.length ≤ 9223372036854775806 ∧ x.boss.results.length ≤ 9223372036854775806 ∧ x.boss.jobs.length ≤ 9223372036854775806 ∧ x.boss.seats.length ≤ 9223372036854775806 ∧ x.boss.owed.length ≤ 9223372036854775806 ∧ x.out.length ≤ 9223372036854775806) (h0 : 0 ≤ k) (hk : k + ledTopC x ≤ 1099511627776) : F n_laws_heldLed [.val (ledR (ledTop k x)), .val (.i k)] (.i (k + ledTopC x)) [[], []] := by
 obtain ⟨hl0, hl1, hl2, hl3, hl4, hl5, hl6⟩ := hl
 have hn0 := bossTopC_nn x.boss
 have hn1 := sum_nn messageC_nn x.out
 have hz : ledTopC x = bossTopC x.boss + sumI messageC x.out := rfl
 refine i_laws_heldLed ?_
 conv => whnf
 refine g 0 1 [] ?_
 conv => whnf
 refine ⟨⟨⟨I, I, I, I, I, I, I, I, I, I, I, I, I, I⟩, I, I⟩, ?_⟩
 refine g 5 9 [.call (V.i (k + bossTopC (Led.boss x))) ([[], []])] ?_
 conv => whnf
 refine ⟨⟨I, I, I, ⟨⟨I, I, I⟩, I, ⟨⟨I, I, I, I, I, I, I, I, I, I, I, I, I⟩, ⟨I, I⟩, I⟩, ⟨I, I⟩, Go.K.c_laws_heldBoss _ _ (by omega) (by omega) (by omega)⟩, I, I⟩, ?_⟩
 refine W.sq ?_
 refine g 9 10 [] ?_
 conv => whnf
 refine ⟨⟨I, I, I⟩, ?_⟩
 refine W.cn ?_
 conv => whnf
 refine ⟨noT (dF (by omega)), fun _ => ?_⟩
 refine W.skip ?_
 refine g 10 15 [.call (V.i (k + bossTopC (Led.boss x) + sumI messageC (Led.out x))) ([[], []])] ?_
 conv => whnf
 refine ⟨⟨I, I, I, ⟨⟨I, I, I⟩, I, ⟨⟨I, I⟩, ⟨I, I⟩, I⟩, ⟨I, I⟩, Go.K.c_laws_heldMessageS _ _ (by omega) (by omega) (by omega)⟩, I, I⟩, ?_⟩
 refine W.sq ?_
 refine g 2 3 [] ?_
 conv => whnf
 refine ⟨⟨I, I, I⟩, ?_⟩
 refine W.cn ?_
 conv => whnf
 refine ⟨noT (dF (by omega)), fun _ => ?_⟩
 refine W.skip ?_
 refine g 15 18 [] ?_
 conv => whnf
 refine ⟨⟨I, I, I⟩, ?_⟩
 refine W.ret ?_
 refine EndsW.rt ?_
 conv => whnf
 refine ⟨⟨I, I, I⟩, ?_, rfl⟩
 exact vi (by omega)
end Go.K
end
section
set_option linter.unusedVariables false
set_option linter.unusedSimpArgs false
set_option maxHeartbeats 8000000
set_option maxRecDepth 20000
open Go Go.Tm Go.Proofs
namespace Go.K
def mapN {α : Type} (f : α → α) (l : List α) (n : Nat) : List α := (l.take n).map f ++ l.drop n
theorem mapN_len {α : Type} (f : α → α) (l : List α) (n : Nat) : (mapN f l n).length = l.length := by simp [mapN]; omega
theorem mapN_all {α : Type} (f : α → α) (l : List α) {n : Nat} (h : l.length ≤ n) : mapN f l n = l.map f := by
 rw [mapN, List.take_of_length_le h, List.drop_of_length_le h, List.append_nil]
theorem mapN_get {α : Type} (f : α → α) {l : List α} {n : Nat} {x : α} (h : l[n]? = some x) : (mapN f l n)[n]? = some x := by
 have hl : n < l.length := (List.getElem?_eq_some_iff.1 h).1
 rw [mapN, List.getElem?_append_right (by simp; omega)]
 simp only [List.length_map, List.length_take, List.getElem?_drop]
 rw [show n + (n - min n l.length) = n by omega, h]
theorem mapN_set {α : Type} {f : α → α} {l : List α} {n : Nat} {x : α} (h : l[n]? = some x) : (mapN f l n).set n (f x) = mapN f l (n + 1) := by
 obtain ⟨hl, hx⟩ := List.getElem?_eq_some_iff.1 h
 unfold mapN
 rw [List.drop_eq_getElem_cons hl, hx, List.set_append_right _ _ (by simp; omega), List.take_add_one, h]
 simp only [List.length_map, List.length_take, Option.toList_some, List.map_append, List.map_cons, List.map_nil, List.append_assoc, List.cons_append, List.nil_append]
 rw [show n - min n l.length = 0 by omega, List.set_cons_zero]
theorem mapN_setm {α β : Type} {f : α → α} {g : α → β} {l : List α} {n : Nat} {x : α} (h : l[n]? = some x) : ((mapN f l n).map g).set n (g (f x)) = (mapN f l (n + 1)).map g := by
 rw [← List.map_set, mapN_set h]
theorem mapN_getm {α β : Type} {f : α → α} {g : α → β} {l : List α} {n : Nat} {x : α} (h : l[n]? = some x) : ((mapN f l n).map g)[n]? = some (g x) := by
 rw [List.getElem?_map, mapN_get f h]; rfl
theorem mapN_same {α : Type} {f : α → α} {l : List α} {n : Nat} {x : α} (h : l[n]? = some x) (e : f x = x) : mapN f l n = mapN f l (n + 1) := by
 rw [← mapN_set h, e]
 obtain ⟨hl, hx⟩ := List.getElem?_eq_some_iff.1 (mapN_get f h)
 have := List.set_getElem_self hl
 rw [hx] at this; exact this.symm
structure Hand where
 given : Int
 jobs : List Job
 seats : List Seat
 out : List Message
def dueJ (now : Int) (j : Job) : Job := if j.til ≤ now then noJob else j
def jobAt (js : List Job) (i : Nat) : Job := (js[i]?).getD noJob
def seatAt (ss : List Seat) (i : Nat) : Seat := (ss[i]?).getD noSeat
def freeAt (ss : List Seat) : Option Nat := ss.findIdx? Seat.free
def offerM (b : Boss) (ts : List Task) (s i : Nat) (g : Int) : Message := ⟨1, 0, (s : Int) + 1, b.epoch, (b.epoch - 1) * 1000000 + g, i, emp, pickL b.results (depsOf ts i)⟩
structure CanHand (b : Boss) (ts : List Task) (h : Hand) (i : Nat) : Prop where
 res : atS b.results i = emp
 job : (jobAt h.jobs i).lease = 0
 ready : readyB b.results (depsOf ts i)
 given : h.given < 1000000
noncomputable instance (b : Boss) (ts : List Task) (h : Hand) (i : Nat) : Decidable (CanHand b ts h i) := Classical.propDecidable _
def handTo (b : Boss) (ts : List Task) (h : Hand) (i s : Nat) : Hand := ⟨h.given + 1, h.jobs.set i ⟨(b.epoch - 1) * 1000000 + (h.given + 1), (s : Int) + 1, b.now + 12⟩, h.seats.set s ⟨false, (seatAt h.seats s).epoch⟩, h.out ++ [offerM b ts s i (h.given + 1)]⟩
noncomputable def handS (b : Boss) (ts : List Task) (i : Nat) (h : Hand) : Hand :=
 if CanHand b ts h i then (match freeAt h.seats with | none => h | some s => handTo b ts h i s) else h
noncomputable def handN (b : Boss) (ts : List Task) : Nat → Hand
 | 0 => ⟨b.given, b.jobs, b.seats, []⟩
 | n + 1 => handS b ts n (handN b ts n)
theorem hand_no {b : Boss} {ts : List Task} {n : Nat} (h : ¬ CanHand b ts (handN b ts n) n) : handN b ts (n + 1) = handN b ts n := if_neg h
theorem hand_none {b : Boss} {ts : List Task} {n : Nat} (h : freeAt (handN b ts n).seats = none) : handN b ts (n + 1) = handN b ts n := by
 rw [handN, handS, h]; simp
theorem hand_some {b : Boss} {ts : List Task} {n s : Nat} (h : CanHand b ts (handN b ts n) n) (hf : freeAt (handN b ts n).seats = some s) : handN b ts (n + 1) = handTo b ts (handN b ts n) n s := by
 rw [handN, handS, if_pos h, hf]
theorem free_some {ss : List Seat} {s : Nat} (h : freeAt ss = some s) : ∃ x, ss[s]? = some x ∧ x.free = true ∧ s < ss.length ∧ ∀ (k : Nat) (y : Seat), k < s → ss[k]? = some y → y.free = false := by
 obtain ⟨h1, h2, h3⟩ := List.findIdx?_eq_some_iff_getElem.1 h
 refine ⟨ss[s], List.getElem?_eq_getElem h1, h2, h1, fun k y hk hy => ?_⟩
 obtain ⟨h4, h5⟩ := List.getElem?_eq_some_iff.1 hy
 have := h3 k hk
 rw [h5] at this
 cases hb : y.free
 ·rfl
 ·exact absurd hb this
theorem free_none {ss : List Seat} (h : freeAt ss = none) : ∀ (k : Nat) (y : Seat), ss[k]? = some y → y.free = false := by
 intro k y hy
 have := List.findIdx?_eq_none_iff.1 h y (List.mem_of_getElem? hy)
 exact this
structure HandOk (b : Boss) (ts : List Task) (h : Hand) (n : Nat) : Prop where
 jobs : h.jobs.length = b.jobs.length
 seats : h.seats.length = b.seats.length
 out : h.out.length ≤ n
 lo : 0 ≤ h.given
 hi : h.given ≤ 1000000
 inputs : ∀ m ∈ h.out, m.inputs.length ≤ 8
theorem hand_ok {b : Boss} {ts : List Task} (hd : ∀ t ∈ ts, t.deps.length ≤ 8) (h0 : 0 ≤ b.given) (h1 : b.given ≤ 1000000) : ∀ n, HandOk b ts (handN b ts n) n
 | 0 => ⟨rfl, rfl, Nat.le_refl _, h0, h1, fun m hm => by cases hm⟩
 | n + 1 => by
   have ih := hand_ok hd h0 h1 n
   have up : HandOk b ts (handN b ts n) (n + 1) := ⟨ih.jobs, ih.seats, by have := ih.out; omega, ih.lo, ih.hi, ih.inputs⟩
   by_cases hc : CanHand b ts (handN b ts n) n
   ·cases hf : freeAt (handN b ts n).seats with
    | none => rw [hand_none hf]; exact up
    | some s =>
      rw [hand_some hc hf]
      have e1 := ih.jobs
      have e2 := ih.seats
      have e3 := ih.out
      have e4 := ih.lo
      have e5 := hc.given
      refine ⟨by simp only [handTo, List.length_set]; exact e1, by simp only [handTo, List.length_set]; exact e2, by simp only [handTo, List.length_append, List.length_singleton]; omega, by simp only [handTo]; omega, by simp only [handTo]; omega, fun m hm => ?_⟩
      rcases List.mem_append.1 hm with hm | hm
      ·exact ih.inputs m hm
      ·rw [List.mem_singleton.1 hm]
       show (pickL _ _).length ≤ 8
       rw [pickL_len, depsOf]
       cases ht : ts[n]? with
       | none => exact Nat.zero_le _
       | some t => exact hd t (List.mem_of_getElem? ht)
   ·rw [hand_no hc]; exact up
def nowB (b : Boss) : Boss := ⟨b.workers, b.up, b.now + 1, b.since, b.epoch, b.given, b.log, b.results, b.jobs, b.seats, b.owed⟩
def dueB (b : Boss) : Boss := ⟨b.workers, b.up, b.now + 1, b.since, b.epoch, b.given, b.log, b.results, b.jobs.map (dueJ (b.now + 1)), b.seats, b.owed⟩
def thanksM (ep : Int) (o : Owed) : Message := ⟨4, 0, o.worker, ep, o.lease, 0, emp, []⟩
noncomputable def endH (b : Boss) (ts : List Task) : Hand := handN (dueB b) ts ts.length
noncomputable def tickB (b : Boss) (ts : List Task) : Led :=
 if b.now = 1000000 then ⟨b, []⟩ else
 if b.up = false then ⟨nowB b, []⟩ else
 if b.since + 1 = 2 then ⟨⟨b.workers, b.up, b.now + 1, 0, b.epoch, (endH b ts).given, ⟨b.log.safe ++ b.log.loose, []⟩, b.results, (endH b ts).jobs, (endH b ts).seats, []⟩, (endH b ts).out ++ b.owed.map (thanksM b.epoch)⟩
 else ⟨⟨b.workers, b.up, b.now + 1, b.since + 1, b.epoch, (endH b ts).given, b.log, b.results, (endH b ts).jobs, (endH b ts).seats, b.owed⟩, (endH b ts).out⟩
theorem tick_max {b : Boss} {ts : List Task} (h : b.now = 1000000) : tickB b ts = ⟨b, []⟩ := if_pos h
theorem tick_no {b : Boss} {ts : List Task} (h : ¬ b.now = 1000000) (h2 : b.up = false) : tickB b ts = ⟨nowB b, []⟩ := by rw [tickB, if_neg h, if_pos h2]
theorem tick_flush {b : Boss} {ts : List Task} (h : ¬ b.now = 1000000) (h2 : ¬ b.up = false) (h3 : b.since + 1 = 2) : tickB b ts = ⟨⟨b.workers, b.up, b.now + 1, 0, b.epoch, (endH b ts).given, ⟨b.log.safe ++ b.log.loose, []⟩, b.results, (endH b ts).jobs, (endH b ts).seats, []⟩, (endH b ts).out ++ b.owed.map (thanksM b.epoch)⟩ := by rw [tickB, if_neg h, if_neg h2, if_pos h3]
theorem tick_hand {b : Boss} {ts : List Task} (h : ¬ b.now = 1000000) (h2 : ¬ b.up = false) (h3 : ¬ b.since + 1 = 2) : tickB b ts = ⟨⟨b.workers, b.up, b.now + 1, b.since + 1, b.epoch, (endH b ts).given, b.log, b.results, (endH b ts).jobs, (endH b ts).seats, b.owed⟩, (endH b ts).out⟩ := by rw [tickB, if_neg h, if_neg h2, if_neg h3]
noncomputable def bTick (b : Boss) (p : Plan) : Led := if BossOk b p then tickB b p.tasks else noLed
theorem btick_ok {b : Boss} {p : Plan} (h : BossOk b p) : bTick b p = tickB b p.tasks := if_pos h
theorem btick_no {b : Boss} {p : Plan} (h : ¬ BossOk b p) : bTick b p = noLed := if_neg h
end Go.K
end
section
set_option linter.unusedVariables false
set_option linter.unusedSimpArgs false
set_option maxHeartbeats 8000000
set_option maxRecDepth 20000
open Go Go.Tm Go.Proofs
namespace Go.K
theorem due_yes {now : Int} {js : List Job} {n : Nat} {j : Job} (h : js[n]? = some j) (hd : j.til ≤ now) : ((mapN (dueJ now) js n).map jobT).set n (jobT noJob) = (mapN (dueJ now) js (n + 1)).map jobT := by
 have := mapN_setm (f := dueJ now) (g := jobT) h
 rw [show dueJ now j = noJob from if_pos hd] at this
 exact this
theorem due_no {now : Int} {js : List Job} {n : Nat} {j : Job} (h : js[n]? = some j) (hd : ¬ j.til ≤ now) : mapN (dueJ now) js n = mapN (dueJ now) js (n + 1) := mapN_same h (if_neg hd)
theorem thanks_step {out : List Message} {ep : Int} {os : List Owed} {n : Nat} {o : Owed} (h : os[n]? = some o) : (out ++ (os.take n).map (thanksM ep)).map messageT ++ [messageT (thanksM ep o)] = (out ++ (os.take (n + 1)).map (thanksM ep)).map messageT := by
 rw [List.take_add_one, h]; simp
theorem c_impl_Boss_tick (b : Boss) (p : Plan) (hv : BossOk b p) (h : BossLim b) : F n_impl_Boss_tick [.ptr (cellsOf (bossO b)), .val (planR p)] (.own messageK ((tickB b p.tasks).out.map messageT)) [cellsOf (bossO (tickB b p.tasks).boss), []] := by
 have hnow := hv.now
 by_cases h0 : b.now = 1000000
 ·rw [tick_max h0]
  refine i_impl_Boss_tick ?_
  conv => whnf
  refine g 0 0 [] ?_
  conv => whnf
  refine ⟨⟨⟨I, I⟩, I, I⟩, ?_⟩
  refine W.sq ?_
  refine g 12 16 [] ?_
  conv => whnf
  refine ⟨⟨I, I, I, I, I, I⟩, ?_⟩
  refine W.cn ?_
  conv => whnf
  refine ⟨fun _ => ?_, noF (dT (by omega))⟩
  refine g 16 17 [] ?_
  conv => whnf
  refine ⟨⟨I, I⟩, ?_⟩
  refine W.ret ?_
  refine EndsW.rt ?_
  conv => whnf
  refine ⟨⟨I, I, I⟩, ?_, rfl⟩
  rfl
 ·by_cases hup : b.up = false
  ·rw [tick_no h0 hup]
   refine i_impl_Boss_tick ?_
   conv => whnf
   refine g 0 0 [] ?_
   conv => whnf
   refine ⟨⟨⟨I, I⟩, I, I⟩, ?_⟩
   refine W.sq ?_
   refine g 12 16 [] ?_
   conv => whnf
   refine ⟨⟨I, I, I, I, I, I⟩, ?_⟩
   refine W.cn ?_
   conv => whnf
   refine ⟨noT (dF (by omega)), fun _ => ?_⟩
   refine W.skip ?_
   refine g 20 24 [.i (Boss.now b + (1 : Int))] ?_
   conv => whnf
   refine ⟨⟨I, I, I, I, w64 (by omega) (by omega), I, I, ⟨I, I⟩, I⟩, ?_⟩
   refine W.sq ?_
   refine g 24 28 [] ?_
   conv => whnf
   refine ⟨⟨I, I, I, I, I, I⟩, ?_⟩
   refine W.cn ?_
   conv => whnf
   refine ⟨fun _ => ?_, noF (nbT (by assumption))⟩
   refine g 16 19 [] ?_
   conv => whnf
   refine ⟨⟨I, I⟩, ?_⟩
   refine W.ret ?_
   refine EndsW.rt ?_
   conv => whnf
   refine ⟨⟨I, I, I⟩, ?_, rfl⟩
   rfl
  ·have hup2 : b.up = true := by cases hb : b.up; exact absurd hb hup; rfl
   obtain ⟨u1, u2, u3, u4, u5, u6, ⟨u7, u8⟩, ⟨u9, u10⟩, u11, u12, u13, u14⟩ := hv.up hup2
   have hck := hv.plan
   have hpl := (chk_inv hck).1
   have hwk := hv.workers
   obtain ⟨he1, he2⟩ := replay_ep hv.code
   change 0 ≤ (bossS b p).epoch at he1
   change (bossS b p).epoch ≤ 300 at he2
   have l1 := h.safe
   have l2 := h.loose
   refine i_impl_Boss_tick ?_
   conv => whnf
   refine g 0 0 [] ?_
   conv => whnf
   refine ⟨⟨⟨I, I⟩, I, I⟩, ?_⟩
   refine W.sq ?_
   refine g 12 16 [] ?_
   conv => whnf
   refine ⟨⟨I, I, I, I, I, I⟩, ?_⟩
   refine W.cn ?_
   conv => whnf
   refine ⟨noT (dF (by omega)), fun _ => ?_⟩
   refine W.skip ?_
   refine g 20 24 [.i (Boss.now b + (1 : Int))] ?_
   conv => whnf
   refine ⟨⟨I, I, I, I, w64 (by omega) (by omega), I, I, ⟨I, I⟩, I⟩, ?_⟩
   refine W.sq ?_
   refine g 24 28 [] ?_
   conv => whnf
   refine ⟨⟨I, I, I, I, I, I⟩, ?_⟩
   refine W.cn ?_
   conv => whnf
   refine ⟨noT (nbF (by assumption)), fun _ => ?_⟩
   refine W.skip ?_
   refine g 16 19 [] ?_
   conv => whnf
   refine ⟨⟨I, I⟩, ?_⟩
   refine W.sq ?_
   refine g 30 33 [] ?_
   conv => whnf
   refine ⟨⟨I, I, I, I, I, I, I⟩, ?_⟩
   refine W.blk ?_
   refine W.lp (fun s (n : Nat) => ⟨[(0, s.s 0), (1, s.s 1), (3, s.s 3), (4, s.s 4), (5, s.s 5), (19, s.s 19), (29, s.s 29), (33, s.s 33), (34, .i n)], [(3, [s.c 3 0]), (246, [.t (.i b.workers), .t (.b b.up), .t (.i (b.now + 1)), .t (.i b.since), .t (.i b.epoch), .t (.i b.given), .own [false] (b.log.safe.map strT), .own [false] (b.log.loose.map strT), .own [false] (b.results.map strT), .own jobK ((mapN (dueJ (b.now + 1)) b.jobs n).map jobT), .own seatK (b.seats.map seatT), .own owedK (b.owed.map owedT)])], []⟩) (fun (n : Nat) => n ≤ b.jobs.length) (fun (n : Nat) => b.jobs.length - n) (0) [some 3, some 246] [] ⟨rfl, ⟨rfl, ⟨_, rfl, _, _, rfl, rfl, rfl⟩, rfl, rfl, rfl, rfl, rfl, rfl, rfl, I⟩, ⟨⟨rfl, ⟨rfl, I⟩⟩, ⟨⟨rfl, ⟨rfl, ⟨rfl, ⟨rfl, ⟨rfl, ⟨rfl, ⟨rfl, ⟨rfl, ⟨rfl, ⟨rfl, ⟨rfl, ⟨rfl, ⟨rfl, I⟩⟩⟩⟩⟩⟩⟩⟩⟩⟩⟩⟩⟩, I⟩⟩, I⟩ (by omega) ?_
   intro n hn
   have hx := mapN_len (dueJ (b.now + 1)) b.jobs n
   by_cases hj : n < b.jobs.length
   ·obtain ⟨j, hj1⟩ := some_at hj
    by_cases hd : j.til ≤ b.now + 1
    ·have e1 := due_yes hj1 hd
     conv => whnf
     refine g 0 0 [] ?_
     conv => whnf
     refine ⟨⟨I, I⟩, ?_⟩
     refine W.sq ?_
     refine W.cn ?_
     conv => whnf
     refine ⟨fun _ => ?_, noF (by simp_all)⟩
     refine W.skip ?_
     refine W.sq ?_
     refine W.blk ?_
     refine g 35 37 [] ?_
     conv => whnf
     refine ⟨⟨I, I, I⟩, ?_⟩
     refine gd 37 49 [[], [], [], [], [], [.n (n)], [], [.x (jobT j)], [], [], [], [], []] ?_
     conv => whnf
     refine ⟨⟨I, I, I, I, I, ⟨rfl, (by simp only [lens]; omega)⟩, I, mapN_getm (by assumption), I, I, I, I, I, I⟩, by kernel_rfl, ?_⟩
     refine W.cn ?_
     conv => whnf
     refine ⟨fun _ => ?_, noF (dT (by omega))⟩
     refine rg [.n (n), .x (jobT j)] ?_
     conv => whnf
     refine ⟨⟨I, I, I, I, I, I, ⟨rfl, (by simp only [lens]; omega)⟩, ⟨⟨I, I, I, I⟩, mapN_getm (by assumption)⟩, I⟩, ?_⟩
     refine rg [.i ((↑n : Int) + (1 : Int))] ?_
     conv => whnf
     refine ⟨⟨w64 (by omega) (by omega), I, I⟩, ?_⟩
     refine ⟨n + 1, [some 3, some 246], [], ⟨rfl, ⟨rfl, ⟨_, rfl, _, _, rfl, rfl, rfl⟩, rfl, rfl, rfl, rfl, rfl, rfl, rfl, I⟩, ⟨⟨rfl, ⟨rfl, I⟩⟩, ⟨⟨rfl, ⟨rfl, ⟨rfl, ⟨rfl, ⟨rfl, ⟨rfl, ⟨rfl, ⟨rfl, ⟨rfl, ⟨rfl, ⟨(congrArg (V.own _) (e1)), ⟨rfl, ⟨rfl, I⟩⟩⟩⟩⟩⟩⟩⟩⟩⟩⟩⟩⟩, I⟩⟩, I⟩, ?_, ?_⟩
     rotate_left 1
     (dsimp only; omega)
     dsimp only
     omega
    ·have e1 := due_no hj1 hd
     conv => whnf
     refine g 0 0 [] ?_
     conv => whnf
     refine ⟨⟨I, I⟩, ?_⟩
     refine W.sq ?_
     refine W.cn ?_
     conv => whnf
     refine ⟨fun _ => ?_, noF (by simp_all)⟩
     refine W.skip ?_
     refine W.sq ?_
     refine W.blk ?_
     refine g 35 37 [] ?_
     conv => whnf
     refine ⟨⟨I, I, I⟩, ?_⟩
     refine gd 37 49 [[], [], [], [], [], [.n (n)], [], [.x (jobT j)], [], [], [], [], []] ?_
     conv => whnf
     refine ⟨⟨I, I, I, I, I, ⟨rfl, (by simp only [lens]; omega)⟩, I, mapN_getm (by assumption), I, I, I, I, I, I⟩, by kernel_rfl, ?_⟩
     refine W.cn ?_
     conv => whnf
     refine ⟨noT (dF (by omega)), fun _ => ?_⟩
     refine W.skip ?_
     refine rg [.i ((↑n : Int) + (1 : Int))] ?_
     conv => whnf
     refine ⟨⟨w64 (by omega) (by omega), I, I⟩, ?_⟩
     refine ⟨n + 1, [some 3, some 246], [], ⟨rfl, ⟨rfl, ⟨_, rfl, _, _, rfl, rfl, rfl⟩, rfl, rfl, rfl, rfl, rfl, rfl, rfl, I⟩, ⟨⟨rfl, ⟨rfl, I⟩⟩, ⟨⟨rfl, ⟨rfl, ⟨rfl, ⟨rfl, ⟨rfl, ⟨rfl, ⟨rfl, ⟨rfl, ⟨rfl, ⟨rfl, ⟨(congrArg (V.own _) (by rw [← e1])), ⟨rfl, ⟨rfl, I⟩⟩⟩⟩⟩⟩⟩⟩⟩⟩⟩⟩⟩, I⟩⟩, I⟩, ?_, ?_⟩
     rotate_left 1
     (dsimp only; omega)
     dsimp only
     omega
   have e0 := mapN_all (dueJ (b.now + 1)) b.jobs (n := n) (by omega)
   conv => whnf
   refine g 0 0 [] ?_
   conv => whnf
   refine ⟨⟨I, I⟩, ?_⟩
   refine W.sq ?_
   refine W.cn ?_
   conv => whnf
   refine ⟨noT (by simp_all), fun _ => ?_⟩
   refine W.exit ?_
   refine W.sq ?_
   refine g 33 59 [] ?_
   conv => whnf
   refine ⟨⟨I, I, I, I, I⟩, ?_⟩
   refine W.blk ?_
   have hdl : ∀ t ∈ p.tasks, t.deps.length ≤ 8 := fun t ht => by
    obtain ⟨k, hk⟩ := List.getElem?_of_mem ht
    exact (chk_task hck hk).2.2.1
   refine W.lp (fun s (m : Nat) => ⟨[(0, s.s 0), (1, s.s 1), (3, s.s 3), (4, s.s 4), (5, .ref ⟨5, none, 0⟩), (19, s.s 19), (29, s.s 29), (59, s.s 59), (60, s.s 60), (61, .i m)], [(3, [s.c 3 0]), (5, [.own messageK ((handN (dueB b) p.tasks m).out.map messageT)]), (246, [.t (.i b.workers), .t (.b b.up), .t (.i (b.now + 1)), .t (.i b.since), .t (.i b.epoch), .t (.i (handN (dueB b) p.tasks m).given), .own [false] (b.log.safe.map strT), .own [false] (b.log.loose.map strT), .own [false] (b.results.map strT), .own jobK ((handN (dueB b) p.tasks m).jobs.map jobT), .own seatK ((handN (dueB b) p.tasks m).seats.map seatT), .own owedK (b.owed.map owedT)])], []⟩) (fun (m : Nat) => m ≤ p.tasks.length) (fun (m : Nat) => p.tasks.length - m) (0) [some 3, none, some 246] [] ⟨rfl, ⟨rfl, ⟨_, rfl, _, _, rfl, rfl, rfl⟩, rfl, rfl, ⟨rfl, rfl, rfl⟩, rfl, rfl, rfl, rfl, rfl, I⟩, ⟨⟨rfl, ⟨rfl, I⟩⟩, ⟨I, ⟨⟨rfl, ⟨rfl, ⟨rfl, ⟨rfl, ⟨rfl, ⟨rfl, ⟨rfl, ⟨rfl, ⟨rfl, ⟨rfl, ⟨(congrArg (V.own _) (by rw [e0]; rfl)), ⟨rfl, ⟨rfl, I⟩⟩⟩⟩⟩⟩⟩⟩⟩⟩⟩⟩⟩, I⟩⟩⟩, I⟩ (by omega) ?_
   intro m hm
   obtain ⟨k1, k2, k3, k4, k5, k6⟩ := hand_ok (b := dueB b) (ts := p.tasks) hdl u9 u10 m
   have k7 : (dueB b).jobs.length = b.jobs.length := by show (b.jobs.map _).length = _; rw [List.length_map]
   rw [k7] at k1
   change (handN (dueB b) p.tasks m).seats.length = b.seats.length at k2
   by_cases hm2 : m < p.tasks.length
   ·obtain ⟨t, ht0⟩ := some_at hm2
    obtain ⟨y, hy0⟩ := some_at (xs := b.results) (n := m) (by omega)
    obtain ⟨j, hj0⟩ := some_at (xs := (handN (dueB b) p.tasks m).jobs) (n := m) (by omega)
    obtain ⟨_, _, a3, a4⟩ := chk_task hck ht0
    have crd := c_impl_ready b.results t.deps (fun d hd => by have := a4 d hd; omega) (by omega)
    have cpk := c_impl_pick b.results t.deps (fun d hd => by have := a4 d hd; omega) (by omega)
    have q1 : ∀ q : CanHand (dueB b) p.tasks (handN (dueB b) p.tasks m) m, y = emp := fun q => by have := q.res; rw [show (dueB b).results = b.results from rfl, at_get hy0] at this; exact this
    have q2 : ∀ q : CanHand (dueB b) p.tasks (handN (dueB b) p.tasks m) m, j.lease = 0 := fun q => by have := q.job; rw [jobAt, hj0] at this; exact this
    have q3 : ∀ q : CanHand (dueB b) p.tasks (handN (dueB b) p.tasks m) m, readyB b.results t.deps := fun q => by have := q.ready; rw [deps_get ht0] at this; exact this
    by_cases hA : y = emp
    ·by_cases hB : j.lease = 0
     ·by_cases hF : readyB b.results t.deps
      ·rw [decide_eq_true hF] at crd
       by_cases hG : (handN (dueB b) p.tasks m).given < 1000000
       ·have hc : CanHand (dueB b) p.tasks (handN (dueB b) p.tasks m) m := ⟨by rw [show (dueB b).results = b.results from rfl, at_get hy0]; exact hA, by rw [jobAt, hj0]; exact hB, by rw [deps_get ht0]; exact hF, hG⟩
        conv => whnf
        refine g 0 0 [] ?_
        conv => whnf
        refine ⟨⟨I, I⟩, ?_⟩
        refine W.sq ?_
        refine W.cn ?_
        conv => whnf
        refine ⟨fun _ => ?_, noF (by simp [*])⟩
        refine W.skip ?_
        refine W.sq ?_
        refine W.blk ?_
        refine g 62 66 [.x (taskT t)] ?_
        conv => whnf
        refine ⟨⟨I, ⟨(by omega), ixl (by assumption)⟩, I, I, I, ⟨I, I, I, I⟩, I⟩, ?_⟩
        refine W.sq ?_
        refine gd 72 101 [[], [], [], [], [], [.n (m)], [.x (strT y)], [], [], [.b (false)], [.b (false)], [.b (false)], [.b (false)], [.b (false)], [.b (false), .n (m)], [.b (false)], [.b (false), .x (jobT j)], [.b (false)], [.b (false)], [], [.b (false)], [.b (false)], [.b (false)], [.b (false)], [.b (false)], [.b (false)], [.b (false), .call (V.b true) ([[], []])], [.b (false)], [.b (false)], [], [.b (false)], [.b (false)], [.b (false)], [.b (false)], [.b (false)], [.b (false)]] ?_
        conv => whnf
        refine ⟨⟨I, I, I, I, I, ⟨rfl, (by simp only [lens]; omega)⟩, ixl (by assumption), I, I, ⟨notF (by omega), I⟩, ⟨notF (by omega), I⟩, ⟨notF (by omega), I⟩, ⟨notF (by omega), I⟩, ⟨notF (by omega), I⟩, ⟨notF (by omega), rfl, (by simp only [lens]; omega)⟩, ⟨notF (by omega), I⟩, ⟨notF (by omega), ixl (by assumption)⟩, ⟨notF (by omega), I⟩, notF (by omega), I, ⟨notF (by omega), I⟩, ⟨notF (by omega), I⟩, ⟨notF (by omega), I⟩, ⟨notF (by omega), I⟩, ⟨notF (by omega), I⟩, ⟨notF (by omega), I⟩, ⟨notF (by omega), ⟨I, I, I⟩, I, ⟨⟨I, I⟩, ⟨I, I⟩, I⟩, ⟨I, I⟩, (by assumption)⟩, ⟨notF (by omega), I⟩, notF (by omega), I, ⟨rfl, I⟩, ⟨rfl, I⟩, ⟨rfl, I⟩, ⟨rfl, I⟩, ⟨rfl, I⟩, rfl, I⟩, by kernel_rfl, ?_⟩
        refine W.cn ?_
        conv => whnf
        refine ⟨noT (dF (by omega)), fun _ => ?_⟩
        refine W.skip ?_
        refine g 66 71 [] ?_
        conv => whnf
        refine ⟨⟨I, I, I, I, I, I, I⟩, ?_⟩
        refine W.blk ?_
        cases hf : freeAt (handN (dueB b) p.tasks m).seats with
        | none =>
          have e := hand_none (b := dueB b) (ts := p.tasks) hf
          refine W.lp (fun s (k : Nat) => ⟨[(0, s.s 0), (1, s.s 1), (3, s.s 3), (4, s.s 4), (5, .ref ⟨5, none, 0⟩), (7, s.s 7), (8, s.s 8), (19, s.s 19), (29, s.s 29), (59, s.s 59), (60, s.s 60), (61, s.s 61), (71, s.s 71), (106, s.s 106), (107, .i k)], [(246, [s.c 246 0, s.c 246 1, s.c 246 2, s.c 246 3, s.c 246 4, s.c 246 5, s.c 246 6, s.c 246 7, s.c 246 8, s.c 246 9, s.c 246 10, s.c 246 11]), (3, [s.c 3 0]), (8, [s.c 8 0, s.c 8 1, s.c 8 2]), (5, [.own messageK ((handN (dueB b) p.tasks m).out.map messageT)])], []⟩) (fun (k : Nat) => k ≤ (handN (dueB b) p.tasks m).seats.length) (fun (k : Nat) => (handN (dueB b) p.tasks m).seats.length - k) (0) [some 246, some 3, some 8, some 5] [] ⟨rfl, ⟨rfl, ⟨_, rfl, _, _, rfl, rfl, rfl⟩, rfl, rfl, rfl, rfl, rfl, rfl, rfl, rfl, rfl, rfl, rfl, rfl, rfl, I⟩, ⟨⟨rfl, ⟨rfl, ⟨rfl, ⟨rfl, ⟨rfl, ⟨rfl, ⟨rfl, ⟨rfl, ⟨rfl, ⟨rfl, ⟨rfl, ⟨rfl, ⟨rfl, I⟩⟩⟩⟩⟩⟩⟩⟩⟩⟩⟩⟩⟩, ⟨⟨rfl, ⟨rfl, I⟩⟩, ⟨⟨rfl, ⟨rfl, ⟨rfl, ⟨rfl, I⟩⟩⟩⟩, ⟨⟨rfl, ⟨rfl, I⟩⟩, I⟩⟩⟩⟩, I⟩ (by omega) ?_
          intro s hs
          by_cases hs2 : s < (handN (dueB b) p.tasks m).seats.length
          ·obtain ⟨x, hx0⟩ := some_at hs2
           have hx1 := free_none hf s x hx0
           conv => whnf
           refine g 0 0 [] ?_
           conv => whnf
           refine ⟨⟨I, I⟩, ?_⟩
           refine W.sq ?_
           refine W.cn ?_
           conv => whnf
           refine ⟨fun h1 => ?_, fun h1 => ?_⟩
           replace h1 := dt h1
           simp only [List.length_map] at h1
           refine W.skip ?_
           refine W.sq ?_
           refine W.blk ?_
           refine g 108 110 [] ?_
           conv => whnf
           refine ⟨⟨I, I, I⟩, ?_⟩
           refine W.sq ?_
           refine g 110 118 [.n (s), .x (seatT x)] ?_
           conv => whnf
           refine ⟨⟨I, I, I, I, I, ⟨rfl, (by simp only [lens]; omega)⟩, I, ixl (by assumption), I, I⟩, ?_⟩
           refine W.cn ?_
           conv => whnf
           refine ⟨fun _ => ?_, noF (nbT (by assumption))⟩
           refine W.exit ?_
           refine rg [.i ((↑s : Int) + (1 : Int))] ?_
           conv => whnf
           refine ⟨⟨w64 (by omega) (by omega), I, I⟩, ?_⟩
           rotate_left 1
           replace h1 := df h1
           simp only [List.length_map] at h1
           omega
           refine ⟨s + 1, [some 246, some 3, some 8, some 5], [], ⟨rfl, ⟨rfl, ⟨_, rfl, _, _, rfl, rfl, rfl⟩, rfl, rfl, rfl, rfl, rfl, rfl, rfl, rfl, rfl, rfl, rfl, rfl, rfl, I⟩, ⟨⟨rfl, ⟨rfl, ⟨rfl, ⟨rfl, ⟨rfl, ⟨rfl, ⟨rfl, ⟨rfl, ⟨rfl, ⟨rfl, ⟨rfl, ⟨rfl, ⟨rfl, I⟩⟩⟩⟩⟩⟩⟩⟩⟩⟩⟩⟩⟩, ⟨⟨rfl, ⟨rfl, I⟩⟩, ⟨⟨rfl, ⟨rfl, ⟨rfl, ⟨rfl, I⟩⟩⟩⟩, ⟨⟨rfl, ⟨rfl, I⟩⟩, I⟩⟩⟩⟩, I⟩, ?_, ?_⟩
           rotate_left 1
           (dsimp only; omega)
           dsimp only
           omega
          ·conv => whnf
           refine g 0 0 [] ?_
           conv => whnf
           refine ⟨⟨I, I⟩, ?_⟩
           refine W.sq ?_
           refine W.cn ?_
           conv => whnf
           refine ⟨fun h1 => ?_, fun h1 => ?_⟩
           replace h1 := dt h1
           simp only [List.length_map] at h1
           omega
           replace h1 := df h1
           simp only [List.length_map] at h1
           refine W.exit ?_
           refine rg [.i ((↑m : Int) + (1 : Int))] ?_
           conv => whnf
           refine ⟨⟨w64 (by omega) (by omega), I, I⟩, ?_⟩
           refine ⟨m + 1, [some 3, some 5, some 246], [], ⟨rfl, ⟨rfl, ⟨_, rfl, _, _, rfl, rfl, rfl⟩, rfl, rfl, rfl, rfl, rfl, rfl, rfl, rfl, I⟩, ⟨⟨rfl, ⟨rfl, I⟩⟩, ⟨⟨rfl, ⟨(congrArg (V.own _) (by rw [e])), I⟩⟩, ⟨⟨rfl, ⟨rfl, ⟨rfl, ⟨rfl, ⟨rfl, ⟨rfl, ⟨(congrArg (fun z => V.t (T.v (Value.int _ z))) (by rw [e])), ⟨rfl, ⟨rfl, ⟨rfl, ⟨(congrArg (V.own _) (by rw [e])), ⟨(congrArg (V.own _) (by rw [e])), ⟨rfl, I⟩⟩⟩⟩⟩⟩⟩⟩⟩⟩⟩⟩⟩, I⟩⟩⟩, I⟩, ?_, ?_⟩
           rotate_left 1
           (dsimp only; omega)
           dsimp only
           omega
        | some s0 =>
          obtain ⟨x, hx0, hx1, hx2, hx3⟩ := free_some hf
          have e := hand_some hc hf
          refine W.lp (fun s (k : Nat) => ⟨[(0, s.s 0), (1, s.s 1), (3, s.s 3), (4, s.s 4), (5, .ref ⟨5, none, 0⟩), (7, s.s 7), (8, s.s 8), (19, s.s 19), (29, s.s 29), (59, s.s 59), (60, s.s 60), (61, s.s 61), (71, s.s 71), (106, s.s 106), (107, .i k)], [(246, [s.c 246 0, s.c 246 1, s.c 246 2, s.c 246 3, s.c 246 4, s.c 246 5, s.c 246 6, s.c 246 7, s.c 246 8, s.c 246 9, s.c 246 10, s.c 246 11]), (3, [s.c 3 0]), (8, [s.c 8 0, s.c 8 1, s.c 8 2]), (5, [.own messageK ((handN (dueB b) p.tasks m).out.map messageT)])], []⟩) (fun (k : Nat) => k ≤ s0) (fun (k : Nat) => (handN (dueB b) p.tasks m).seats.length - k) (0) [some 246, some 3, some 8, some 5] [] ⟨rfl, ⟨rfl, ⟨_, rfl, _, _, rfl, rfl, rfl⟩, rfl, rfl, rfl, rfl, rfl, rfl, rfl, rfl, rfl, rfl, rfl, rfl, rfl, I⟩, ⟨⟨rfl, ⟨rfl, ⟨rfl, ⟨rfl, ⟨rfl, ⟨rfl, ⟨rfl, ⟨rfl, ⟨rfl, ⟨rfl, ⟨rfl, ⟨rfl, ⟨rfl, I⟩⟩⟩⟩⟩⟩⟩⟩⟩⟩⟩⟩⟩, ⟨⟨rfl, ⟨rfl, I⟩⟩, ⟨⟨rfl, ⟨rfl, ⟨rfl, ⟨rfl, I⟩⟩⟩⟩, ⟨⟨rfl, ⟨rfl, I⟩⟩, I⟩⟩⟩⟩, I⟩ (by omega) ?_
          intro s hs
          by_cases hs2 : s < s0
          ·obtain ⟨x', hx'⟩ := some_at (xs := (handN (dueB b) p.tasks m).seats) (n := s) (by omega)
           have hx4 := hx3 s x' hs2 hx'
           conv => whnf
           refine g 0 0 [] ?_
           conv => whnf
           refine ⟨⟨I, I⟩, ?_⟩
           refine W.sq ?_
           refine W.cn ?_
           conv => whnf
           refine ⟨fun h1 => ?_, fun h1 => ?_⟩
           replace h1 := dt h1
           simp only [List.length_map] at h1
           refine W.skip ?_
           refine W.sq ?_
           refine W.blk ?_
           refine g 108 110 [] ?_
           conv => whnf
           refine ⟨⟨I, I, I⟩, ?_⟩
           refine W.sq ?_
           refine g 110 118 [.n (s), .x (seatT x')] ?_
           conv => whnf
           refine ⟨⟨I, I, I, I, I, ⟨rfl, (by simp only [lens]; omega)⟩, I, ixl (by assumption), I, I⟩, ?_⟩
           refine W.cn ?_
           conv => whnf
           refine ⟨fun _ => ?_, noF (nbT (by assumption))⟩
           refine W.exit ?_
           refine rg [.i ((↑s : Int) + (1 : Int))] ?_
           conv => whnf
           refine ⟨⟨w64 (by omega) (by omega), I, I⟩, ?_⟩
           rotate_left 1
           replace h1 := df h1
           simp only [List.length_map] at h1
           omega
           refine ⟨s + 1, [some 246, some 3, some 8, some 5], [], ⟨rfl, ⟨rfl, ⟨_, rfl, _, _, rfl, rfl, rfl⟩, rfl, rfl, rfl, rfl, rfl, rfl, rfl, rfl, rfl, rfl, rfl, rfl, rfl, I⟩, ⟨⟨rfl, ⟨rfl, ⟨rfl, ⟨rfl, ⟨rfl, ⟨rfl, ⟨rfl, ⟨rfl, ⟨rfl, ⟨rfl, ⟨rfl, ⟨rfl, ⟨rfl, I⟩⟩⟩⟩⟩⟩⟩⟩⟩⟩⟩⟩⟩, ⟨⟨rfl, ⟨rfl, I⟩⟩, ⟨⟨rfl, ⟨rfl, ⟨rfl, ⟨rfl, I⟩⟩⟩⟩, ⟨⟨rfl, ⟨rfl, I⟩⟩, I⟩⟩⟩⟩, I⟩, ?_, ?_⟩
           rotate_left 1
           (dsimp only; omega)
           dsimp only
           omega
          ·obtain rfl : s = s0 := by omega
           have ej : ((handN (dueB b) p.tasks m).jobs.map jobT).set m (jobT ⟨(b.epoch - 1) * 1000000 + ((handN (dueB b) p.tasks m).given + 1), (s : Int) + 1, b.now + 1 + 12⟩) = (handN (dueB b) p.tasks (m + 1)).jobs.map jobT := by rw [e, ← List.map_set]; rfl
           have es : ((handN (dueB b) p.tasks m).seats.map seatT).set s (seatT ⟨false, x.epoch⟩) = (handN (dueB b) p.tasks (m + 1)).seats.map seatT := by rw [e, ← List.map_set, handTo, seatAt, hx0]; rfl
           have eo : (handN (dueB b) p.tasks m).out.map messageT ++ [messageT ⟨1, 0, (s : Int) + 1, b.epoch, (b.epoch - 1) * 1000000 + ((handN (dueB b) p.tasks m).given + 1), m, emp, pickL b.results t.deps⟩] = (handN (dueB b) p.tasks (m + 1)).out.map messageT := by rw [e, handTo, offerM, deps_get ht0, List.map_append]; rfl
           have eg : (handN (dueB b) p.tasks m).given + 1 = (handN (dueB b) p.tasks (m + 1)).given := by rw [e]; rfl
           conv => whnf
           refine g 0 0 [] ?_
           conv => whnf
           refine ⟨⟨I, I⟩, ?_⟩
           refine W.sq ?_
           refine W.cn ?_
           conv => whnf
           refine ⟨fun h1 => ?_, fun h1 => ?_⟩
           replace h1 := dt h1
           simp only [List.length_map] at h1
           refine W.skip ?_
           refine W.sq ?_
           refine W.blk ?_
           refine g 108 110 [] ?_
           conv => whnf
           refine ⟨⟨I, I, I⟩, ?_⟩
           refine W.sq ?_
           refine g 110 118 [.n (s), .x (seatT x)] ?_
           conv => whnf
           refine ⟨⟨I, I, I, I, I, ⟨rfl, (by simp only [lens]; omega)⟩, I, ixl (by assumption), I, I⟩, ?_⟩
           refine W.cn ?_
           conv => whnf
           refine ⟨noT (nbF (by assumption)), fun _ => ?_⟩
           refine W.skip ?_
           refine g 118 126 [.n (s), .x (seatT x)] ?_
           conv => whnf
           refine ⟨⟨I, I, I, I, I, ⟨rfl, (by simp only [lens]; omega)⟩, I, ⟨⟨I, I⟩, ixl (by assumption)⟩, I⟩, ?_⟩
           refine g 126 133 [.i (Hand.given (handN (dueB b) (Plan.tasks p) m) + (1 : Int))] ?_
           conv => whnf
           refine ⟨⟨I, I, I, I, w64 (by omega) (by omega), I, I, ⟨I, I⟩, I⟩, ?_⟩
           refine gd 133 158 [[], [], [], [], [], [], [], [], [], [.i (Boss.epoch b - (1 : Int))], [.i ((Boss.epoch b - (1 : Int)) * (1000000 : Int))], [], [], [], [], [.i ((Boss.epoch b - (1 : Int)) * (1000000 : Int) + (Hand.given (handN (dueB b) (Plan.tasks p) m) + (1 : Int)))], [], [.i ((↑s : Int) + (1 : Int))], [], [], [], [], [.i (Boss.now b + (1 : Int) + (12 : Int))], [], [.n (m)], [.x (jobT j)]] ?_
           conv => whnf
           refine ⟨⟨I, I, I, I, I, I, I, I, I, w64 (by omega) (by omega), w64 (by omega) (by omega), I, I, I, I, w64 (by omega) (by omega), I, w64 (by omega) (by omega), I, I, I, I, w64 (by omega) (by omega), I, ⟨rfl, (by simp only [lens]; omega)⟩, ⟨⟨I, I, I, I⟩, ixl (by assumption)⟩, I⟩, by kernel_rfl, ?_⟩
           refine gd 158 184 [[], [], [.i ((↑s : Int) + (1 : Int))], [], [], [], [], [], [], [], [], [], [.n (m)], [], [.x (patch (jobT j) (0 : Nat) [T.v (Value.int IntKind.i64 ((Boss.epoch b - (1 : Int)) * (1000000 : Int) + (Hand.given (handN (dueB b) (Plan.tasks p) m) + (1 : Int)))), T.v (Value.int IntKind.i64 ((↑s : Int) + (1 : Int))), T.v (Value.int IntKind.i64 (Boss.now b + (1 : Int) + (12 : Int)))])], [], [], [], [], [], [], [], [.call (V.own [false] (List.map strT (pickL (Boss.results b) (Task.deps t)))) ([[], []])], [], [], [], []] ?_
           conv => whnf
           refine ⟨⟨I, I, w64 (by omega) (by omega), I, I, I, I, I, I, I, I, I, ⟨rfl, (by simp only [lens]; omega)⟩, I, getset (by simp only [lens]; omega), I, I, I, I, I, I, I, ⟨⟨I, I, I⟩, I, ⟨⟨I, I⟩, ⟨I, I⟩, I⟩, ⟨I, I⟩, (by assumption)⟩, I, ⟨⟨I, I, I, I, I, I, I, I, I⟩, I⟩, ⟨I, I, (by simp only [lens]; omega)⟩, I, I⟩, by kernel_rfl, ?_⟩
           refine W.exit ?_
           refine rg [.i ((↑m : Int) + (1 : Int))] ?_
           conv => whnf
           refine ⟨⟨w64 (by omega) (by omega), I, I⟩, ?_⟩
           rotate_left 1
           replace h1 := df h1
           simp only [List.length_map] at h1
           omega
           refine ⟨m + 1, [some 3, some 183, some 246], [], ⟨rfl, ⟨rfl, ⟨_, rfl, _, _, rfl, rfl, rfl⟩, rfl, rfl, rfl, rfl, rfl, rfl, rfl, rfl, I⟩, ⟨⟨rfl, ⟨rfl, I⟩⟩, ⟨⟨rfl, ⟨(congrArg (V.own _) (eo)), I⟩⟩, ⟨⟨rfl, ⟨rfl, ⟨rfl, ⟨rfl, ⟨rfl, ⟨rfl, ⟨(congrArg (fun z => V.t (T.v (Value.int _ z))) (eg)), ⟨rfl, ⟨rfl, ⟨rfl, ⟨(congrArg (V.own _) (ej)), ⟨(congrArg (V.own _) (es)), ⟨rfl, I⟩⟩⟩⟩⟩⟩⟩⟩⟩⟩⟩⟩⟩, I⟩⟩⟩, I⟩, ?_, ?_⟩
           rotate_left 1
           (dsimp only; omega)
           dsimp only
           omega
       ·have e := hand_no (b := dueB b) (ts := p.tasks) (fun q => hG q.given)
        conv => whnf
        refine g 0 0 [] ?_
        conv => whnf
        refine ⟨⟨I, I⟩, ?_⟩
        refine W.sq ?_
        refine W.cn ?_
        conv => whnf
        refine ⟨fun _ => ?_, noF (by simp [*])⟩
        refine W.skip ?_
        refine W.sq ?_
        refine W.blk ?_
        refine g 62 66 [.x (taskT t)] ?_
        conv => whnf
        refine ⟨⟨I, ⟨(by omega), ixl (by assumption)⟩, I, I, I, ⟨I, I, I, I⟩, I⟩, ?_⟩
        refine W.sq ?_
        refine gd 72 101 [[], [], [], [], [], [.n (m)], [.x (strT y)], [], [], [.b (false)], [.b (false)], [.b (false)], [.b (false)], [.b (false)], [.b (false), .n (m)], [.b (false)], [.b (false), .x (jobT j)], [.b (false)], [.b (false)], [], [.b (false)], [.b (false)], [.b (false)], [.b (false)], [.b (false)], [.b (false)], [.b (false), .call (V.b true) ([[], []])], [.b (false)], [.b (false)], [], [.b (false)], [.b (false)], [.b (false)], [.b (false)], [.b (false)], [.b (false)]] ?_
        conv => whnf
        refine ⟨⟨I, I, I, I, I, ⟨rfl, (by simp only [lens]; omega)⟩, ixl (by assumption), I, I, ⟨notF (by omega), I⟩, ⟨notF (by omega), I⟩, ⟨notF (by omega), I⟩, ⟨notF (by omega), I⟩, ⟨notF (by omega), I⟩, ⟨notF (by omega), rfl, (by simp only [lens]; omega)⟩, ⟨notF (by omega), I⟩, ⟨notF (by omega), ixl (by assumption)⟩, ⟨notF (by omega), I⟩, notF (by omega), I, ⟨notF (by omega), I⟩, ⟨notF (by omega), I⟩, ⟨notF (by omega), I⟩, ⟨notF (by omega), I⟩, ⟨notF (by omega), I⟩, ⟨notF (by omega), I⟩, ⟨notF (by omega), ⟨I, I, I⟩, I, ⟨⟨I, I⟩, ⟨I, I⟩, I⟩, ⟨I, I⟩, (by assumption)⟩, ⟨notF (by omega), I⟩, notF (by omega), I, ⟨rfl, I⟩, ⟨rfl, I⟩, ⟨rfl, I⟩, ⟨rfl, I⟩, ⟨rfl, I⟩, rfl, I⟩, by kernel_rfl, ?_⟩
        refine W.cn ?_
        conv => whnf
        refine ⟨fun _ => ?_, noF (dT (by omega))⟩
        refine W.exit ?_
        refine rg [.i ((↑m : Int) + (1 : Int))] ?_
        conv => whnf
        refine ⟨⟨w64 (by omega) (by omega), I, I⟩, ?_⟩
        refine ⟨m + 1, [some 3, some 5, some 246], [], ⟨rfl, ⟨rfl, ⟨_, rfl, _, _, rfl, rfl, rfl⟩, rfl, rfl, rfl, rfl, rfl, rfl, rfl, rfl, I⟩, ⟨⟨rfl, ⟨rfl, I⟩⟩, ⟨⟨rfl, ⟨(congrArg (V.own _) (by rw [e])), I⟩⟩, ⟨⟨rfl, ⟨rfl, ⟨rfl, ⟨rfl, ⟨rfl, ⟨rfl, ⟨(congrArg (fun z => V.t (T.v (Value.int _ z))) (by rw [e])), ⟨rfl, ⟨rfl, ⟨rfl, ⟨(congrArg (V.own _) (by rw [e])), ⟨(congrArg (V.own _) (by rw [e])), ⟨rfl, I⟩⟩⟩⟩⟩⟩⟩⟩⟩⟩⟩⟩⟩, I⟩⟩⟩, I⟩, ?_, ?_⟩
        rotate_left 1
        (dsimp only; omega)
        dsimp only
        omega
      ·rw [decide_eq_false hF] at crd
       have e := hand_no (b := dueB b) (ts := p.tasks) (fun q => hF (q3 q))
       conv => whnf
       refine g 0 0 [] ?_
       conv => whnf
       refine ⟨⟨I, I⟩, ?_⟩
       refine W.sq ?_
       refine W.cn ?_
       conv => whnf
       refine ⟨fun _ => ?_, noF (by simp [*])⟩
       refine W.skip ?_
       refine W.sq ?_
       refine W.blk ?_
       refine g 62 66 [.x (taskT t)] ?_
       conv => whnf
       refine ⟨⟨I, ⟨(by omega), ixl (by assumption)⟩, I, I, I, ⟨I, I, I, I⟩, I⟩, ?_⟩
       refine W.sq ?_
       refine gd 72 101 [[], [], [], [], [], [.n (m)], [.x (strT y)], [], [], [.b (false)], [.b (false)], [.b (false)], [.b (false)], [.b (false)], [.b (false), .n (m)], [.b (false)], [.b (false), .x (jobT j)], [.b (false)], [.b (false)], [], [.b (false)], [.b (false)], [.b (false)], [.b (false)], [.b (false)], [.b (false)], [.b (false), .call (V.b false) ([[], []])], [.b (false)], [.b (false)], [], [.b (true)], [.b (true)], [.b (true)], [.b (true)], [.b (true)], [.b (true)]] ?_
       conv => whnf
       refine ⟨⟨I, I, I, I, I, ⟨rfl, (by simp only [lens]; omega)⟩, ixl (by assumption), I, I, ⟨notF (by omega), I⟩, ⟨notF (by omega), I⟩, ⟨notF (by omega), I⟩, ⟨notF (by omega), I⟩, ⟨notF (by omega), I⟩, ⟨notF (by omega), rfl, (by simp only [lens]; omega)⟩, ⟨notF (by omega), I⟩, ⟨notF (by omega), ixl (by assumption)⟩, ⟨notF (by omega), I⟩, notF (by omega), I, ⟨notF (by omega), I⟩, ⟨notF (by omega), I⟩, ⟨notF (by omega), I⟩, ⟨notF (by omega), I⟩, ⟨notF (by omega), I⟩, ⟨notF (by omega), I⟩, ⟨notF (by omega), ⟨I, I, I⟩, I, ⟨⟨I, I⟩, ⟨I, I⟩, I⟩, ⟨I, I⟩, (by assumption)⟩, ⟨notF (by omega), I⟩, notF (by omega), I, rfl, rfl, rfl, rfl, rfl, rfl, I⟩, by kernel_rfl, ?_⟩
       refine W.cn ?_
       conv => whnf
       refine ⟨fun _ => ?_, noF (rfl)⟩
       refine W.exit ?_
       refine rg [.i ((↑m : Int) + (1 : Int))] ?_
       conv => whnf
       refine ⟨⟨w64 (by omega) (by omega), I, I⟩, ?_⟩
       refine ⟨m + 1, [some 3, some 5, some 246], [], ⟨rfl, ⟨rfl, ⟨_, rfl, _, _, rfl, rfl, rfl⟩, rfl, rfl, rfl, rfl, rfl, rfl, rfl, rfl, I⟩, ⟨⟨rfl, ⟨rfl, I⟩⟩, ⟨⟨rfl, ⟨(congrArg (V.own _) (by rw [e])), I⟩⟩, ⟨⟨rfl, ⟨rfl, ⟨rfl, ⟨rfl, ⟨rfl, ⟨rfl, ⟨(congrArg (fun z => V.t (T.v (Value.int _ z))) (by rw [e])), ⟨rfl, ⟨rfl, ⟨rfl, ⟨(congrArg (V.own _) (by rw [e])), ⟨(congrArg (V.own _) (by rw [e])), ⟨rfl, I⟩⟩⟩⟩⟩⟩⟩⟩⟩⟩⟩⟩⟩, I⟩⟩⟩, I⟩, ?_, ?_⟩
       rotate_left 1
       (dsimp only; omega)
       dsimp only
       omega
     ·have e := hand_no (b := dueB b) (ts := p.tasks) (fun q => hB (q2 q))
      conv => whnf
      refine g 0 0 [] ?_
      conv => whnf
      refine ⟨⟨I, I⟩, ?_⟩
      refine W.sq ?_
      refine W.cn ?_
      conv => whnf
      refine ⟨fun _ => ?_, noF (by simp [*])⟩
      refine W.skip ?_
      refine W.sq ?_
      refine W.blk ?_
      refine g 62 66 [.x (taskT t)] ?_
      conv => whnf
      refine ⟨⟨I, ⟨(by omega), ixl (by assumption)⟩, I, I, I, ⟨I, I, I, I⟩, I⟩, ?_⟩
      refine W.sq ?_
      refine gd 72 101 [[], [], [], [], [], [.n (m)], [.x (strT y)], [], [], [.b (false)], [.b (false)], [.b (false)], [.b (false)], [.b (false)], [.b (false), .n (m)], [.b (false)], [.b (false), .x (jobT j)], [.b (false)], [.b (false)], [], [.b (true)], [.b (true)], [.b (true)], [.b (true)], [.b (true)], [.b (true)], [.b (true)], [.b (true)], [.b (true)], [], [.b (true)], [.b (true)], [.b (true)], [.b (true)], [.b (true)], [.b (true)]] ?_
      conv => whnf
      refine ⟨⟨I, I, I, I, I, ⟨rfl, (by simp only [lens]; omega)⟩, ixl (by assumption), I, I, ⟨notF (by omega), I⟩, ⟨notF (by omega), I⟩, ⟨notF (by omega), I⟩, ⟨notF (by omega), I⟩, ⟨notF (by omega), I⟩, ⟨notF (by omega), rfl, (by simp only [lens]; omega)⟩, ⟨notF (by omega), I⟩, ⟨notF (by omega), ixl (by assumption)⟩, ⟨notF (by omega), I⟩, notF (by omega), I, notT (by omega), notT (by omega), notT (by omega), notT (by omega), notT (by omega), notT (by omega), notT (by omega), notT (by omega), notT (by omega), I, rfl, rfl, rfl, rfl, rfl, rfl, I⟩, by kernel_rfl, ?_⟩
      refine W.cn ?_
      conv => whnf
      refine ⟨fun _ => ?_, noF (rfl)⟩
      refine W.exit ?_
      refine rg [.i ((↑m : Int) + (1 : Int))] ?_
      conv => whnf
      refine ⟨⟨w64 (by omega) (by omega), I, I⟩, ?_⟩
      refine ⟨m + 1, [some 3, some 5, some 246], [], ⟨rfl, ⟨rfl, ⟨_, rfl, _, _, rfl, rfl, rfl⟩, rfl, rfl, rfl, rfl, rfl, rfl, rfl, rfl, I⟩, ⟨⟨rfl, ⟨rfl, I⟩⟩, ⟨⟨rfl, ⟨(congrArg (V.own _) (by rw [e])), I⟩⟩, ⟨⟨rfl, ⟨rfl, ⟨rfl, ⟨rfl, ⟨rfl, ⟨rfl, ⟨(congrArg (fun z => V.t (T.v (Value.int _ z))) (by rw [e])), ⟨rfl, ⟨rfl, ⟨rfl, ⟨(congrArg (V.own _) (by rw [e])), ⟨(congrArg (V.own _) (by rw [e])), ⟨rfl, I⟩⟩⟩⟩⟩⟩⟩⟩⟩⟩⟩⟩⟩, I⟩⟩⟩, I⟩, ?_, ?_⟩
      rotate_left 1
      (dsimp only; omega)
      dsimp only
      omega
    ·have e := hand_no (b := dueB b) (ts := p.tasks) (fun q => hA (q1 q))
     conv => whnf
     refine g 0 0 [] ?_
     conv => whnf
     refine ⟨⟨I, I⟩, ?_⟩
     refine W.sq ?_
     refine W.cn ?_
     conv => whnf
     refine ⟨fun _ => ?_, noF (by simp [*])⟩
     refine W.skip ?_
     refine W.sq ?_
     refine W.blk ?_
     refine g 62 66 [.x (taskT t)] ?_
     conv => whnf
     refine ⟨⟨I, ⟨(by omega), ixl (by assumption)⟩, I, I, I, ⟨I, I, I, I⟩, I⟩, ?_⟩
     refine W.sq ?_
     refine gd 72 101 [[], [], [], [], [], [.n (m)], [.x (strT y)], [], [], [.b (true)], [.b (true)], [.b (true)], [.b (true)], [.b (true)], [.b (true)], [.b (true)], [.b (true)], [.b (true)], [.b (true)], [], [.b (true)], [.b (true)], [.b (true)], [.b (true)], [.b (true)], [.b (true)], [.b (true)], [.b (true)], [.b (true)], [], [.b (true)], [.b (true)], [.b (true)], [.b (true)], [.b (true)], [.b (true)]] ?_
     conv => whnf
     refine ⟨⟨I, I, I, I, I, ⟨rfl, (by simp only [lens]; omega)⟩, ixl (by assumption), I, I, notT (by omega), notT (by omega), notT (by omega), notT (by omega), notT (by omega), notT (by omega), notT (by omega), notT (by omega), notT (by omega), notT (by omega), I, rfl, rfl, rfl, rfl, rfl, rfl, rfl, rfl, rfl, I, rfl, rfl, rfl, rfl, rfl, rfl, I⟩, by kernel_rfl, ?_⟩
     refine W.cn ?_
     conv => whnf
     refine ⟨fun _ => ?_, noF (rfl)⟩
     refine W.exit ?_
     refine rg [.i ((↑m : Int) + (1 : Int))] ?_
     conv => whnf
     refine ⟨⟨w64 (by omega) (by omega), I, I⟩, ?_⟩
     refine ⟨m + 1, [some 3, some 5, some 246], [], ⟨rfl, ⟨rfl, ⟨_, rfl, _, _, rfl, rfl, rfl⟩, rfl, rfl, rfl, rfl, rfl, rfl, rfl, rfl, I⟩, ⟨⟨rfl, ⟨rfl, I⟩⟩, ⟨⟨rfl, ⟨(congrArg (V.own _) (by rw [e])), I⟩⟩, ⟨⟨rfl, ⟨rfl, ⟨rfl, ⟨rfl, ⟨rfl, ⟨rfl, ⟨(congrArg (fun z => V.t (T.v (Value.int _ z))) (by rw [e])), ⟨rfl, ⟨rfl, ⟨rfl, ⟨(congrArg (V.own _) (by rw [e])), ⟨(congrArg (V.own _) (by rw [e])), ⟨rfl, I⟩⟩⟩⟩⟩⟩⟩⟩⟩⟩⟩⟩⟩, I⟩⟩⟩, I⟩, ?_, ?_⟩
     rotate_left 1
     (dsimp only; omega)
     dsimp only
     omega
   obtain rfl : m = p.tasks.length := by omega
   by_cases hs : b.since + 1 = 2
   ·rw [tick_flush h0 hup hs]
    conv => whnf
    refine g 0 0 [] ?_
    conv => whnf
    refine ⟨⟨I, I⟩, ?_⟩
    refine W.sq ?_
    refine W.cn ?_
    conv => whnf
    refine ⟨noT (by simp [*]), fun _ => ?_⟩
    refine W.exit ?_
    refine g 19 193 [.i (Boss.since b + (1 : Int))] ?_
    conv => whnf
    refine ⟨⟨I, I, I, I, w64 (by omega) (by omega), I, I, ⟨I, I⟩, I⟩, ?_⟩
    refine W.sq ?_
    refine g 193 197 [] ?_
    conv => whnf
    refine ⟨⟨I, I, I, I, I, I⟩, ?_⟩
    refine W.cn ?_
    conv => whnf
    refine ⟨fun _ => ?_, noF (dT (by omega))⟩
    refine g 197 201 [] ?_
    conv => whnf
    refine ⟨⟨I, I, I, ⟨I, I⟩, I⟩, ?_⟩
    refine gd 201 216 [[], [], [], [], [], [], [], [], [], [], [], [], [], [], [], []] ?_
    conv => whnf
    refine ⟨⟨I, I, I, I, I, I, I, I, I, I, I, ⟨I, I, (by simp only [lens]; omega)⟩, I, I, I, ⟨I, I⟩, I⟩, by kernel_rfl, ?_⟩
    refine g 216 220 [] ?_
    conv => whnf
    refine ⟨⟨I, I, I, I, ⟨I, I⟩, I⟩, ?_⟩
    refine W.sq ?_
    refine g 220 223 [] ?_
    conv => whnf
    refine ⟨⟨I, I, I, I, I, I, I⟩, ?_⟩
    refine W.blk ?_
    refine W.lp (fun s (n : Nat) => ⟨[(0, s.s 0), (3, s.s 3), (4, s.s 4), (5, .ref ⟨5, none, 0⟩), (223, s.s 223), (224, s.s 224), (225, .i n)], [(3, [s.c 3 0]), (5, [.own messageK (((endH b p.tasks).out ++ (b.owed.take n).map (thanksM b.epoch)).map messageT)]), (246, [.t (.i b.workers), .t (.b b.up), .t (.i (b.now + 1)), .t (.i 0), .t (.i b.epoch), .t (.i (endH b p.tasks).given), .own [false] ((b.log.safe ++ b.log.loose).map strT), .own [false] [], .own [false] (b.results.map strT), .own jobK ((endH b p.tasks).jobs.map jobT), .own seatK ((endH b p.tasks).seats.map seatT), .own owedK (b.owed.map owedT)])], []⟩) (fun (n : Nat) => n ≤ b.owed.length) (fun (n : Nat) => b.owed.length - n) (0) [some 3, some 5, some 246] [] ⟨rfl, ⟨rfl, rfl, rfl, rfl, rfl, rfl, rfl, I⟩, ⟨⟨rfl, ⟨rfl, I⟩⟩, ⟨⟨rfl, ⟨(congrArg (V.own _) (by rw [List.take_zero, List.map_nil, List.append_nil]; rfl)), I⟩⟩, ⟨⟨rfl, ⟨rfl, ⟨rfl, ⟨rfl, ⟨rfl, ⟨rfl, ⟨rfl, ⟨(congrArg (V.own _) (by simp [*])), ⟨rfl, ⟨rfl, ⟨rfl, ⟨rfl, ⟨rfl, I⟩⟩⟩⟩⟩⟩⟩⟩⟩⟩⟩⟩⟩, I⟩⟩⟩, I⟩ (by omega) ?_
    intro n hn
    by_cases hn2 : n < b.owed.length
    ·obtain ⟨o, ho⟩ := some_at hn2
     have k9 : (endH b p.tasks).out.length ≤ 40 := by show (handN _ _ _).out.length ≤ 40; omega
     have eo := thanks_step (out := (endH b p.tasks).out) (ep := b.epoch) ho
     conv => whnf
     refine g 0 0 [] ?_
     conv => whnf
     refine ⟨⟨I, I⟩, ?_⟩
     refine W.sq ?_
     refine W.cn ?_
     conv => whnf
     refine ⟨fun _ => ?_, noF (by simp [*])⟩
     refine W.skip ?_
     refine W.sq ?_
     refine W.blk ?_
     refine g 226 229 [.n (n), .x (owedT o)] ?_
     conv => whnf
     refine ⟨⟨⟨rfl, (by simp only [lens]; omega)⟩, ixl (by assumption), I, ⟨I, I, I, I⟩, I⟩, ?_⟩
     refine rgd [[], [], [], [], [], [], [], [], [], [], [], [], []] ?_
     conv => whnf
     refine ⟨⟨I, I, I, I, I, I, I, I, I, I, ⟨⟨I, I, I, I, I, I, I, I, I⟩, I⟩, ⟨I, I, (by simp only [lens]; omega)⟩, I, I⟩, by kernel_rfl, ?_⟩
     refine rg [.i ((↑n : Int) + (1 : Int))] ?_
     conv => whnf
     refine ⟨⟨w64 (by omega) (by omega), I, I⟩, ?_⟩
     refine ⟨n + 1, [some 3, some 240, some 246], [], ⟨rfl, ⟨rfl, rfl, rfl, rfl, rfl, rfl, rfl, I⟩, ⟨⟨rfl, ⟨rfl, I⟩⟩, ⟨⟨rfl, ⟨(congrArg (V.own _) (eo)), I⟩⟩, ⟨⟨rfl, ⟨rfl, ⟨rfl, ⟨rfl, ⟨rfl, ⟨rfl, ⟨rfl, ⟨rfl, ⟨rfl, ⟨rfl, ⟨rfl, ⟨rfl, ⟨rfl, I⟩⟩⟩⟩⟩⟩⟩⟩⟩⟩⟩⟩⟩, I⟩⟩⟩, I⟩, ?_, ?_⟩
     rotate_left 1
     (dsimp only; omega)
     dsimp only
     omega
    ·conv => whnf
     refine g 0 0 [] ?_
     conv => whnf
     refine ⟨⟨I, I⟩, ?_⟩
     refine W.sq ?_
     refine W.cn ?_
     conv => whnf
     refine ⟨noT (by simp [*]), fun _ => ?_⟩
     refine W.exit ?_
     refine rg [] ?_
     conv => whnf
     refine ⟨⟨I, I, I, ⟨I, I⟩, I⟩, ?_⟩
     refine g 5 246 [] ?_
     conv => whnf
     refine ⟨⟨I, I, I⟩, ?_⟩
     refine W.ret ?_
     refine EndsW.rt ?_
     conv => whnf
     refine ⟨⟨I, I, I⟩, ?_, rfl⟩
     all_goals (rw [take_all (by omega)])
   ·rw [tick_hand h0 hup hs]
    conv => whnf
    refine g 0 0 [] ?_
    conv => whnf
    refine ⟨⟨I, I⟩, ?_⟩
    refine W.sq ?_
    refine W.cn ?_
    conv => whnf
    refine ⟨noT (by simp [*]), fun _ => ?_⟩
    refine W.exit ?_
    refine g 19 193 [.i (Boss.since b + (1 : Int))] ?_
    conv => whnf
    refine ⟨⟨I, I, I, I, w64 (by omega) (by omega), I, I, ⟨I, I⟩, I⟩, ?_⟩
    refine W.sq ?_
    refine g 193 197 [] ?_
    conv => whnf
    refine ⟨⟨I, I, I, I, I, I⟩, ?_⟩
    refine W.cn ?_
    conv => whnf
    refine ⟨noT (dF (by omega)), fun _ => ?_⟩
    refine W.skip ?_
    refine g 0 4 [] ?_
    conv => whnf
    refine ⟨⟨I, I, I⟩, ?_⟩
    refine W.ret ?_
    refine EndsW.rt ?_
    conv => whnf
    refine ⟨⟨I, I, I⟩, ?_, rfl⟩
    rfl
theorem c_impl_BossTick (b : Boss) (p : Plan) (hp : planWf p) (h : BossLim b) : F n_impl_BossTick [.val (bossR b), .val (planR p)] (ledO (bTick b p)) [[], []] := by
 have cv := ci_valid b p hp h
 by_cases hv : BossOk b p
 ·rw [decide_eq_true hv] at cv
  rw [btick_ok hv]
  have ct := ci_twin b h
  have cf := c_impl_Boss_tick b p hv h
  refine i_impl_BossTick ?_
  conv => whnf
  refine g 0 0 [] ?_
  conv => whnf
  refine ⟨⟨⟨I, I, I, I, I, I, I, I, I, I, I, I, I⟩, ⟨I, I⟩, I, I⟩, ?_⟩
  refine W.sq ?_
  refine g 6 9 [.call (V.b true) ([[], []])] ?_
  conv => whnf
  refine ⟨⟨I, I, ⟨⟨I, I, I⟩, I, ⟨⟨I, I, I, I, I, I, I, I, I, I, I, I, I⟩, ⟨I, I⟩, I⟩, ⟨I, I⟩, (by assumption)⟩, I, I⟩, ?_⟩
  refine W.cn ?_
  conv => whnf
  refine ⟨noT (rfl), fun _ => ?_⟩
  refine W.skip ?_
  refine g 9 13 [.call (bossO b) ([[]])] ?_
  conv => whnf
  refine ⟨⟨I, ⟨⟨I, I⟩, I, ⟨⟨I, I, I, I, I, I, I, I, I, I, I, I, I⟩, I⟩, ⟨I, I⟩, (by assumption)⟩, ⟨I, I, I, I, I, I, I, I, I, I, I, I, I⟩, I⟩, ?_⟩
  refine g 13 15 [.call (V.own messageK (List.map messageT (Led.out (tickB b (Plan.tasks p))))) ([cellsOf (bossO (Led.boss (tickB b (Plan.tasks p)))), []])] ?_
  conv => whnf
  refine ⟨⟨I, ⟨⟨I, I, I⟩, I, ⟨I, ⟨I, I⟩, I⟩, ⟨I, I⟩, (by assumption)⟩, I, I⟩, ?_⟩
  refine g 0 4 [] ?_
  conv => whnf
  refine ⟨⟨I, I, I, ⟨I, I, I, I, I, I, I, I, I, I, I, I, I, I⟩, I⟩, ?_⟩
  refine W.ret ?_
  refine EndsW.rt ?_
  conv => whnf
  refine ⟨⟨I, I, I, I, I, I, I, I, I, I, I, I, I, I, I⟩, ?_, rfl⟩
  rfl
 ·rw [decide_eq_false hv] at cv
  rw [btick_no hv]
  refine i_impl_BossTick ?_
  conv => whnf
  refine g 0 0 [] ?_
  conv => whnf
  refine ⟨⟨⟨I, I, I, I, I, I, I, I, I, I, I, I, I⟩, ⟨I, I⟩, I, I⟩, ?_⟩
  refine W.sq ?_
  refine g 6 9 [.call (V.b false) ([[], []])] ?_
  conv => whnf
  refine ⟨⟨I, I, ⟨⟨I, I, I⟩, I, ⟨⟨I, I, I, I, I, I, I, I, I, I, I, I, I⟩, ⟨I, I⟩, I⟩, ⟨I, I⟩, (by assumption)⟩, I, I⟩, ?_⟩
  refine W.cn ?_
  conv => whnf
  refine ⟨fun _ => ?_, noF (rfl)⟩
  refine g 9 11 [] ?_
  conv => whnf
  refine ⟨⟨I, ⟨I, I, I, I, I, I, I, I, I, I, I, I, I, I⟩, I⟩, ?_⟩
  refine W.ret ?_
  refine EndsW.rt ?_
  conv => whnf
  refine ⟨⟨I, I, I, I, I, I, I, I, I, I, I, I, I, I, I⟩, ?_, rfl⟩
  rfl
end Go.K
end
section
set_option linter.unusedVariables false
set_option linter.unusedSimpArgs false
set_option maxHeartbeats 8000000
set_option maxRecDepth 20000
open Go Go.Tm Go.Proofs
namespace Go.K
def atB (d : Boss) (h : Hand) : Boss := ⟨d.workers, d.up, d.now, d.since, d.epoch, h.given, d.log, d.results, h.jobs, h.seats, d.owed⟩
theorem c_l5Seat_none (b : Boss) (hl : b.seats.length ≤ 1048576) (hf : freeAt b.seats = none) : F n_spec_l5Seat [.val (bossR b)] (.i (-1)) [[]] := by
 refine i_spec_l5Seat ?_
 conv => whnf
 refine g 0 1 [] ?_
 conv => whnf
 refine ⟨⟨⟨I, I, I, I, I, I, I, I, I, I, I, I, I⟩, I, I⟩, ?_⟩
 refine W.sq ?_
 refine g 0 0 [] ?_
 conv => whnf
 refine ⟨⟨I, I⟩, ?_⟩
 refine W.blk ?_
 refine W.lp (fun s (n : Nat) => ⟨[(1, s.s 1), (3, .i n)], [(1, [s.c 1 0, s.c 1 1, s.c 1 2, s.c 1 3, s.c 1 4, s.c 1 5, s.c 1 6, s.c 1 7, s.c 1 8, s.c 1 9, s.c 1 10, s.c 1 11])], []⟩) (fun (n : Nat) => n ≤ b.seats.length) (fun (n : Nat) => b.seats.length - n) (0) [some 1] [] ⟨rfl, ⟨rfl, rfl, I⟩, ⟨⟨rfl, ⟨rfl, ⟨rfl, ⟨rfl, ⟨rfl, ⟨rfl, ⟨rfl, ⟨rfl, ⟨rfl, ⟨rfl, ⟨rfl, ⟨rfl, ⟨rfl, I⟩⟩⟩⟩⟩⟩⟩⟩⟩⟩⟩⟩⟩, I⟩, I⟩ (by omega) ?_
 intro n hn
 by_cases hn2 : n < b.seats.length
 ·obtain ⟨x, hx⟩ := some_at hn2
  have hx1 := free_none hf n x hx
  conv => whnf
  refine W.sq ?_
  refine g 4 8 [] ?_
  conv => whnf
  refine ⟨⟨I, I, I, I, I, I⟩, ?_⟩
  refine W.cn ?_
  conv => whnf
  refine ⟨fun _ => ?_, noF (by simp [*])⟩
  refine W.skip ?_
  refine W.sq ?_
  refine W.blk ?_
  refine g 8 16 [.x (seatT x)] ?_
  conv => whnf
  refine ⟨⟨I, I, I, ⟨(by omega), ixl (by assumption)⟩, I, I, I⟩, ?_⟩
  refine W.cn ?_
  conv => whnf
  refine ⟨noT (by assumption), fun _ => ?_⟩
  refine W.skip ?_
  refine rg [.i ((↑n : Int) + (1 : Int))] ?_
  conv => whnf
  refine ⟨⟨I, w64 (by omega) (by omega), I, I⟩, ?_⟩
  refine ⟨n + 1, [some 1], [], ⟨rfl, ⟨rfl, rfl, I⟩, ⟨⟨rfl, ⟨rfl, ⟨rfl, ⟨rfl, ⟨rfl, ⟨rfl, ⟨rfl, ⟨rfl, ⟨rfl, ⟨rfl, ⟨rfl, ⟨rfl, ⟨rfl, I⟩⟩⟩⟩⟩⟩⟩⟩⟩⟩⟩⟩⟩, I⟩, I⟩, ?_, ?_⟩
  rotate_left 1
  (dsimp only; omega)
  dsimp only
  omega
 ·conv => whnf
  refine W.sq ?_
  refine g 4 8 [] ?_
  conv => whnf
  refine ⟨⟨I, I, I, I, I, I⟩, ?_⟩
  refine W.cn ?_
  conv => whnf
  refine ⟨noT (by simp [*]), fun _ => ?_⟩
  refine W.exit ?_
  refine g 1 2 [] ?_
  conv => whnf
  refine ⟨⟨I, I⟩, ?_⟩
  refine W.ret ?_
  refine EndsW.rt ?_
  conv => whnf
  refine ⟨⟨I, I, I⟩, ?_, rfl⟩
  rfl
theorem c_l5Seat_some (b : Boss) {k : Nat} (hl : b.seats.length ≤ 1048576) (hf : freeAt b.seats = some k) : F n_spec_l5Seat [.val (bossR b)] (.i k) [[]] := by
 obtain ⟨x, hx0, hx1, hx2, hx3⟩ := free_some hf
 refine i_spec_l5Seat ?_
 conv => whnf
 refine g 0 1 [] ?_
 conv => whnf
 refine ⟨⟨⟨I, I, I, I, I, I, I, I, I, I, I, I, I⟩, I, I⟩, ?_⟩
 refine W.sq ?_
 refine g 0 0 [] ?_
 conv => whnf
 refine ⟨⟨I, I⟩, ?_⟩
 refine W.blk ?_
 refine W.lp (fun s (n : Nat) => ⟨[(1, s.s 1), (3, .i n)], [(1, [s.c 1 0, s.c 1 1, s.c 1 2, s.c 1 3, s.c 1 4, s.c 1 5, s.c 1 6, s.c 1 7, s.c 1 8, s.c 1 9, s.c 1 10, s.c 1 11])], []⟩) (fun (n : Nat) => n ≤ k) (fun (n : Nat) => b.seats.length - n) (0) [some 1] [] ⟨rfl, ⟨rfl, rfl, I⟩, ⟨⟨rfl, ⟨rfl, ⟨rfl, ⟨rfl, ⟨rfl, ⟨rfl, ⟨rfl, ⟨rfl, ⟨rfl, ⟨rfl, ⟨rfl, ⟨rfl, ⟨rfl, I⟩⟩⟩⟩⟩⟩⟩⟩⟩⟩⟩⟩⟩, I⟩, I⟩ (by omega) ?_
 intro n hn
 by_cases hn2 : n < k
 ·obtain ⟨y, hy⟩ := some_at (xs := b.seats) (n := n) (by omega)
  have hy1 := hx3 n y hn2 hy
  conv => whnf
  refine W.sq ?_
  refine g 4 8 [] ?_
  conv => whnf
  refine ⟨⟨I, I, I, I, I, I⟩, ?_⟩
  refine W.cn ?_
  conv => whnf
  refine ⟨fun h1 => ?_, fun h1 => ?_⟩
  replace h1 := dt h1
  simp only [List.length_map] at h1
  refine W.skip ?_
  refine W.sq ?_
  refine W.blk ?_
  refine g 8 16 [.x (seatT y)] ?_
  conv => whnf
  refine ⟨⟨I, I, I, ⟨(by omega), ixl (by assumption)⟩, I, I, I⟩, ?_⟩
  refine W.cn ?_
  conv => whnf
  refine ⟨noT (by assumption), fun _ => ?_⟩
  refine W.skip ?_
  refine rg [.i ((↑n : Int) + (1 : Int))] ?_
  conv => whnf
  refine ⟨⟨I, w64 (by omega) (by omega), I, I⟩, ?_⟩
  rotate_left 1
  replace h1 := df h1
  simp only [List.length_map] at h1
  omega
  refine ⟨n + 1, [some 1], [], ⟨rfl, ⟨rfl, rfl, I⟩, ⟨⟨rfl, ⟨rfl, ⟨rfl, ⟨rfl, ⟨rfl, ⟨rfl, ⟨rfl, ⟨rfl, ⟨rfl, ⟨rfl, ⟨rfl, ⟨rfl, ⟨rfl, I⟩⟩⟩⟩⟩⟩⟩⟩⟩⟩⟩⟩⟩, I⟩, I⟩, ?_, ?_⟩
  rotate_left 1
  (dsimp only; omega)
  dsimp only
  omega
 ·obtain rfl : n = k := by omega
  conv => whnf
  refine W.sq ?_
  refine g 4 8 [] ?_
  conv => whnf
  refine ⟨⟨I, I, I, I, I, I⟩, ?_⟩
  refine W.cn ?_
  conv => whnf
  refine ⟨fun _ => ?_, noF (by simp [*])⟩
  refine W.skip ?_
  refine W.sq ?_
  refine W.blk ?_
  refine g 8 16 [.x (seatT x)] ?_
  conv => whnf
  refine ⟨⟨I, I, I, ⟨(by omega), ixl (by assumption)⟩, I, I, I⟩, ?_⟩
  refine W.cn ?_
  conv => whnf
  refine ⟨fun _ => ?_, noF (by assumption)⟩
  refine g 16 18 [] ?_
  conv => whnf
  refine ⟨⟨I, I, I⟩, ?_⟩
  refine W.ret ?_
  refine EndsW.rt ?_
  conv => whnf
  refine ⟨⟨I, I, I⟩, ?_, rfl⟩
  rfl
structure HandIn (d : Boss) (ts : List Task) : Prop where
 chk : checkPlan ts = 0
 res : d.results.length = ts.length
 jobs : d.jobs.length = ts.length
 seats : d.seats.length ≤ 8
 ep : 1 ≤ d.epoch ∧ d.epoch ≤ 300
 given : 0 ≤ d.given ∧ d.given ≤ 1000000
 now : 0 ≤ d.now ∧ d.now ≤ 1000000
theorem c_spec_l5Hand (d : Boss) (p : Plan) (h : HandIn d p.tasks) : F n_spec_l5Hand [.val (bossO d), .val (planR p)] (ledO ⟨atB d (handN d p.tasks p.tasks.length), (handN d p.tasks p.tasks.length).out⟩) [[], []] := by
 obtain ⟨hck, u3, u4, u5, ⟨ue1, ue2⟩, ⟨u9, u10⟩, ⟨hn1, hn2⟩⟩ := h
 have hpl := (chk_inv hck).1
 have hdl : ∀ t ∈ p.tasks, t.deps.length ≤ 8 := fun t ht => by
  obtain ⟨k, hk⟩ := List.getElem?_of_mem ht
  exact (chk_task hck hk).2.2.1
 refine i_spec_l5Hand ?_
 conv => whnf
 refine g 0 0 [] ?_
 conv => whnf
 refine ⟨⟨⟨I, I, I, I, I, I, I, I, I, I, I, I, I⟩, ⟨I, I⟩, I, I⟩, ?_⟩
 refine g 11 13 [] ?_
 conv => whnf
 refine ⟨⟨I, I, I, ⟨I, I, I, I, I, I, I, I, I, I, I, I, I, I⟩, I⟩, ?_⟩
 refine W.sq ?_
 refine g 0 0 [] ?_
 conv => whnf
 refine ⟨⟨I, I⟩, ?_⟩
 refine W.blk ?_
 refine W.lp (fun s (m : Nat) => ⟨[(0, s.s 0), (1, s.s 1), (2, s.s 2), (3, s.s 3), (4, s.s 4), (5, s.s 5), (6, .i m)], [(138, [s.c 138 0, s.c 138 1, s.c 138 2, s.c 138 3, s.c 138 4, s.c 138 5, s.c 138 6, s.c 138 7, s.c 138 8, s.c 138 9, s.c 138 10, s.c 138 11]), (2, [s.c 2 0, s.c 2 1, s.c 2 2, s.c 2 3, s.c 2 4, s.c 2 5, s.c 2 6, s.c 2 7, s.c 2 8, s.c 2 9, s.c 2 10, s.c 2 11]), (3, [s.c 3 0]), (4, [s.c 4 0, s.c 4 1, s.c 4 2, s.c 4 3, s.c 4 4, s.c 4 5, s.c 4 6, s.c 4 7, s.c 4 8, s.c 4 9, s.c 4 10, s.c 4 11, s.c 4 12]), (5, [.t (.i (atB d (handN d p.tasks m)).workers), .t (.b (atB d (handN d p.tasks m)).up), .t (.i (atB d (handN d p.tasks m)).now), .t (.i (atB d (handN d p.tasks m)).since), .t (.i (atB d (handN d p.tasks m)).epoch), .t (.i (atB d (handN d p.tasks m)).given), .own [false] ((atB d (handN d p.tasks m)).log.safe.map strT), .own [false] ((atB d (handN d p.tasks m)).log.loose.map strT), .own [false] ((atB d (handN d p.tasks m)).results.map strT), .own jobK ((atB d (handN d p.tasks m)).jobs.map jobT), .own seatK ((atB d (handN d p.tasks m)).seats.map seatT), .own owedK ((atB d (handN d p.tasks m)).owed.map owedT), .own messageK ((handN d p.tasks m).out.map messageT)])], []⟩) (fun (m : Nat) => m ≤ p.tasks.length) (fun (m : Nat) => p.tasks.length - m) (0) [some 138, some 2, some 3, some 4, some 5] [] ⟨rfl, ⟨⟨_, rfl, _, _, rfl, rfl, _, _, rfl, rfl, _, _, rfl, rfl, _, _, rfl, rfl, _, _, rfl, rfl, _, _, rfl, rfl, _, _, rfl, rfl, _, _, rfl, rfl, _, _, rfl, rfl, _, _, rfl, rfl, _, _, rfl, rfl, _, _, rfl, rfl, rfl⟩, ⟨_, rfl, _, _, rfl, rfl, rfl⟩, rfl, rfl, rfl, rfl, rfl, I⟩, ⟨⟨rfl, ⟨rfl, ⟨rfl, ⟨rfl, ⟨rfl, ⟨rfl, ⟨rfl, ⟨I, ⟨I, ⟨I, ⟨I, ⟨I, ⟨I, I⟩⟩⟩⟩⟩⟩⟩⟩⟩⟩⟩⟩⟩, ⟨⟨rfl, ⟨rfl, ⟨rfl, ⟨rfl, ⟨rfl, ⟨rfl, ⟨rfl, ⟨rfl, ⟨rfl, ⟨rfl, ⟨rfl, ⟨rfl, ⟨rfl, I⟩⟩⟩⟩⟩⟩⟩⟩⟩⟩⟩⟩⟩, ⟨⟨rfl, ⟨rfl, I⟩⟩, ⟨⟨rfl, ⟨rfl, ⟨rfl, ⟨rfl, ⟨rfl, ⟨rfl, ⟨rfl, ⟨rfl, ⟨rfl, ⟨rfl, ⟨rfl, ⟨rfl, ⟨rfl, ⟨rfl, I⟩⟩⟩⟩⟩⟩⟩⟩⟩⟩⟩⟩⟩⟩, ⟨⟨rfl, ⟨rfl, ⟨rfl, ⟨rfl, ⟨rfl, ⟨rfl, ⟨rfl, ⟨rfl, ⟨rfl, ⟨rfl, ⟨rfl, ⟨rfl, ⟨rfl, ⟨rfl, I⟩⟩⟩⟩⟩⟩⟩⟩⟩⟩⟩⟩⟩⟩, I⟩⟩⟩⟩⟩, I⟩ (by omega) ?_
 intro m hm
 obtain ⟨k1, k2, k3, k4, k5, k6⟩ := hand_ok (b := d) (ts := p.tasks) hdl u9 u10 m
 generalize hX : atB d (handN d p.tasks m) = X
 have x1 : X.results = d.results := by rw [← hX]; rfl
 have x2 : X.jobs = (handN d p.tasks m).jobs := by rw [← hX]; rfl
 have x3 : X.seats = (handN d p.tasks m).seats := by rw [← hX]; rfl
 have x4 : X.given = (handN d p.tasks m).given := by rw [← hX]; rfl
 have x5 : X.epoch = d.epoch := by rw [← hX]; rfl
 have x6 : X.now = d.now := by rw [← hX]; rfl
 have y1 : X.results.length = p.tasks.length := by rw [x1]; exact u3
 have y2 : X.jobs.length = p.tasks.length := by rw [x2, k1]; exact u4
 have y3 : X.seats.length ≤ 8 := by rw [x3, k2]; exact u5
 by_cases hm2 : m < p.tasks.length
 ·obtain ⟨t, ht0⟩ := some_at hm2
  obtain ⟨y, hy0⟩ := some_at (xs := X.results) (n := m) (by omega)
  obtain ⟨j, hj0⟩ := some_at (xs := X.jobs) (n := m) (by omega)
  obtain ⟨_, _, a3, a4⟩ := chk_task hck ht0
  have crd := c_spec_l4Deps p X.results (m : Int) (by omega) (t := t) (by rw [Int.toNat_natCast]; exact ht0) (fun e he => by have := a4 e he; omega) (by omega)
  have q1 : ∀ q : CanHand d p.tasks (handN d p.tasks m) m, y = emp := fun q => by have := q.res; rw [← x1, at_get hy0] at this; exact this
  have q2 : ∀ q : CanHand d p.tasks (handN d p.tasks m) m, j.lease = 0 := fun q => by have := q.job; rw [← x2, jobAt, hj0] at this; exact this
  have q3 : ∀ q : CanHand d p.tasks (handN d p.tasks m) m, readyB X.results t.deps := fun q => by have := q.ready; rw [← x1, deps_get ht0] at this; exact this
  cases hf : freeAt X.seats with
  | none =>
    have e := hand_none (b := d) (ts := p.tasks) (n := m) (by rw [← x3]; exact hf)
    have cs := c_l5Seat_none X (by omega) hf
    conv => whnf
    refine W.sq ?_
    refine g 13 17 [] ?_
    conv => whnf
    refine ⟨⟨I, I, I, I, I, I⟩, ?_⟩
    refine W.cn ?_
    conv => whnf
    refine ⟨fun _ => ?_, noF (by simp [*])⟩
    refine W.skip ?_
    refine W.sq ?_
    refine W.blk ?_
    refine g 20 23 [.call (V.i (-1 : Int)) ([[]])] ?_
    conv => whnf
    refine ⟨⟨I, I, ⟨⟨I, I⟩, I, ⟨⟨I, I, I, I, I, I, I, I, I, I, I, I, I⟩, I⟩, ⟨I, I⟩, (by assumption)⟩, I, I⟩, ?_⟩
    refine W.sq ?_
    refine g 17 58 [.b (true), .b (true), .b (true), .b (true), .b (true), .b (true), .b (true), .b (true), .b (true), .b (true), .b (true), .b (true), .b (true), .b (true), .b (true), .b (true), .b (true), .b (true), .b (true), .b (true), .b (true), .b (true), .b (true), .b (true), .b (true), .b (true), .b (true), .b (true), .b (true), .b (true)] ?_
    conv => whnf
    refine ⟨⟨I, I, I, rfl, rfl, rfl, rfl, rfl, I, rfl, rfl, rfl, rfl, rfl, rfl, rfl, rfl, I, rfl, rfl, rfl, rfl, rfl, rfl, rfl, rfl, rfl, I, rfl, rfl, rfl, rfl, rfl, rfl, rfl, rfl, I⟩, ?_⟩
    refine W.cn ?_
    conv => whnf
    refine ⟨fun _ => ?_, noF (rfl)⟩
    refine W.exit ?_
    refine rg [.i ((↑m : Int) + (1 : Int))] ?_
    conv => whnf
    refine ⟨⟨I, w64 (by omega) (by omega), I, I⟩, ?_⟩
    refine ⟨m + 1, [some 138, some 2, some 3, some 4, some 5], [], ⟨rfl, ⟨⟨_, rfl, _, _, rfl, rfl, _, _, rfl, rfl, _, _, rfl, rfl, _, _, rfl, rfl, _, _, rfl, rfl, _, _, rfl, rfl, _, _, rfl, rfl, _, _, rfl, rfl, _, _, rfl, rfl, _, _, rfl, rfl, _, _, rfl, rfl, _, _, rfl, rfl, rfl⟩, ⟨_, rfl, _, _, rfl, rfl, rfl⟩, rfl, rfl, rfl, rfl, rfl, I⟩, ⟨⟨rfl, ⟨rfl, ⟨rfl, ⟨rfl, ⟨rfl, ⟨rfl, ⟨rfl, ⟨I, ⟨I, ⟨I, ⟨I, ⟨I, ⟨I, I⟩⟩⟩⟩⟩⟩⟩⟩⟩⟩⟩⟩⟩, ⟨⟨rfl, ⟨rfl, ⟨rfl, ⟨rfl, ⟨rfl, ⟨rfl, ⟨rfl, ⟨rfl, ⟨rfl, ⟨rfl, ⟨rfl, ⟨rfl, ⟨rfl, I⟩⟩⟩⟩⟩⟩⟩⟩⟩⟩⟩⟩⟩, ⟨⟨rfl, ⟨rfl, I⟩⟩, ⟨⟨rfl, ⟨rfl, ⟨rfl, ⟨rfl, ⟨rfl, ⟨rfl, ⟨rfl, ⟨rfl, ⟨rfl, ⟨rfl, ⟨rfl, ⟨rfl, ⟨rfl, ⟨rfl, I⟩⟩⟩⟩⟩⟩⟩⟩⟩⟩⟩⟩⟩⟩, ⟨⟨rfl, ⟨(congrArg (fun z => V.t (T.v (Value.int _ z))) (by rw [e, ← hX])), ⟨(congrArg (fun z => V.t (T.v (Value.bool z))) (by rw [e, ← hX])), ⟨(congrArg (fun z => V.t (T.v (Value.int _ z))) (by rw [e, ← hX])), ⟨(congrArg (fun z => V.t (T.v (Value.int _ z))) (by rw [e, ← hX])), ⟨(congrArg (fun z => V.t (T.v (Value.int _ z))) (by rw [e, ← hX])), ⟨(congrArg (fun z => V.t (T.v (Value.int _ z))) (by rw [e, ← hX])), ⟨(congrArg (V.own _) (by rw [e, ← hX])), ⟨(congrArg (V.own _) (by rw [e, ← hX])), ⟨(congrArg (V.own _) (by rw [e, ← hX])), ⟨(congrArg (V.own _) (by rw [e, ← hX])), ⟨(congrArg (V.own _) (by rw [e, ← hX])), ⟨(congrArg (V.own _) (by rw [e, ← hX])), ⟨(congrArg (V.own _) (by simp [*])), I⟩⟩⟩⟩⟩⟩⟩⟩⟩⟩⟩⟩⟩⟩, I⟩⟩⟩⟩⟩, I⟩, ?_, ?_⟩
    rotate_left 1
    (dsimp only; omega)
    dsimp only
    omega
  | some sx =>
    have cs := c_l5Seat_some X (by omega) hf
    obtain ⟨x, hx0, hx1, hx2, hx3⟩ := free_some hf
    by_cases hA : y = emp
    ·by_cases hB : j.lease = 0
     ·by_cases hF : readyB X.results t.deps
      ·rw [decide_eq_true hF] at crd
       by_cases hG : X.given < 1000000
       ·have hc : CanHand d p.tasks (handN d p.tasks m) m := ⟨by rw [← x1, at_get hy0]; exact hA, by rw [← x2, jobAt, hj0]; exact hB, by rw [← x1, deps_get ht0]; exact hF, by rw [← x4]; exact hG⟩
        have e := hand_some hc (by rw [← x3]; exact hf)
        have ej : (X.jobs.map jobT).set m (jobT ⟨(X.epoch - 1) * 1000000 + (X.given + 1), (sx : Int) + 1, X.now + 12⟩) = (atB d (handN d p.tasks (m + 1))).jobs.map jobT := by rw [e, ← List.map_set, x2, x4, x5, x6]; rfl
        have es : (X.seats.map seatT).set sx (seatT ⟨false, x.epoch⟩) = (atB d (handN d p.tasks (m + 1))).seats.map seatT := by
         have e9 : seatAt (handN d p.tasks m).seats sx = x := by rw [seatAt, ← x3, hx0]; rfl
         rw [e, ← List.map_set, x3, atB, handTo, e9]
        have eo : (handN d p.tasks m).out.map messageT ++ [messageT ⟨1, 0, (sx : Int) + 1, X.epoch, (X.epoch - 1) * 1000000 + (X.given + 1), m, emp, pickL X.results t.deps⟩] = (handN d p.tasks (m + 1)).out.map messageT := by rw [e, handTo, offerM, deps_get ht0, List.map_append, x1, x4, x5]; rfl
        have eg : X.given + 1 = (atB d (handN d p.tasks (m + 1))).given := by rw [e, x4]; rfl
        have e1 : X.workers = (atB d (handN d p.tasks (m + 1))).workers := by rw [← hX]; rfl
        have e2 : X.up = (atB d (handN d p.tasks (m + 1))).up := by rw [← hX]; rfl
        have e3 : X.now = (atB d (handN d p.tasks (m + 1))).now := by rw [← hX]; rfl
        have e4 : X.since = (atB d (handN d p.tasks (m + 1))).since := by rw [← hX]; rfl
        have e5 : X.epoch = (atB d (handN d p.tasks (m + 1))).epoch := by rw [← hX]; rfl
        have e6 : X.log = (atB d (handN d p.tasks (m + 1))).log := by rw [← hX]; rfl
        have e7 : X.results = (atB d (handN d p.tasks (m + 1))).results := by rw [← hX]; rfl
        have e8 : X.owed = (atB d (handN d p.tasks (m + 1))).owed := by rw [← hX]; rfl
        conv => whnf
        refine W.sq ?_
        refine g 13 17 [] ?_
        conv => whnf
        refine ⟨⟨I, I, I, I, I, I⟩, ?_⟩
        refine W.cn ?_
        conv => whnf
        refine ⟨fun _ => ?_, noF (by simp [*])⟩
        refine W.skip ?_
        refine W.sq ?_
        refine W.blk ?_
        refine g 20 23 [.call (V.i (↑sx : Int)) ([[]])] ?_
        conv => whnf
        refine ⟨⟨I, I, ⟨⟨I, I⟩, I, ⟨⟨I, I, I, I, I, I, I, I, I, I, I, I, I⟩, I⟩, ⟨I, I⟩, (by assumption)⟩, I, I⟩, ?_⟩
        refine W.sq ?_
        refine g 17 58 [.b (false), .b (false), .b (false), .b (false), .b (false), .b (false), .b (false), .b (false), .b (false), .b (false), .n (m), .b (false), .x (strT y), .b (false), .b (false), .b (false), .b (false), .b (false), .b (false), .b (false), .n (m), .b (false), .b (false), .x (jobT j), .b (false), .b (false), .b (false), .b (false), .b (false), .b (false), .b (false), .b (false), .call (V.b true) ([[], [], []]), .b (false), .b (false)] ?_
        conv => whnf
        refine ⟨⟨I, I, I, ⟨rfl, I⟩, ⟨rfl, I⟩, ⟨rfl, I⟩, ⟨rfl, I⟩, rfl, I, ⟨dF (by omega), I⟩, ⟨dF (by omega), I⟩, ⟨dF (by omega), I⟩, ⟨dF (by omega), I⟩, ⟨dF (by omega), rfl, (by simp only [lens]; omega)⟩, ⟨dF (by omega), ixl (by assumption)⟩, ⟨dF (by omega), I⟩, dF (by omega), I, ⟨notF (by omega), I⟩, ⟨notF (by omega), I⟩, ⟨notF (by omega), I⟩, ⟨notF (by omega), I⟩, ⟨notF (by omega), rfl, (by simp only [lens]; omega)⟩, ⟨notF (by omega), I⟩, ⟨notF (by omega), ixl (by assumption)⟩, ⟨notF (by omega), I⟩, notF (by omega), I, ⟨notF (by omega), I⟩, ⟨notF (by omega), I⟩, ⟨notF (by omega), I⟩, ⟨notF (by omega), I⟩, ⟨notF (by omega), I⟩, ⟨notF (by omega), ⟨I, I, I, I⟩, I, ⟨⟨I, I⟩, ⟨I, I⟩, ⟨I, I⟩, I⟩, ⟨I, I⟩, (by assumption)⟩, ⟨notF (by omega), I⟩, notF (by omega), I⟩, ?_⟩
        refine W.cn ?_
        conv => whnf
        refine ⟨noT (rfl), fun _ => ?_⟩
        refine W.skip ?_
        refine g 58 65 [.i (Boss.given X + (1 : Int))] ?_
        conv => whnf
        refine ⟨⟨I, I, I, w64 (by omega) (by omega), I, I, ⟨I, I⟩, I⟩, ?_⟩
        refine g 65 73 [.i (Boss.epoch X - (1 : Int)), .i ((Boss.epoch X - (1 : Int)) * (1000000 : Int)), .i ((Boss.epoch X - (1 : Int)) * (1000000 : Int) + (Boss.given X + (1 : Int)))] ?_
        conv => whnf
        refine ⟨⟨I, I, I, w64 (by omega) (by omega), w64 (by omega) (by omega), I, I, I, w64 (by omega) (by omega), I, I⟩, ?_⟩
        refine g 74 87 [.i ((↑sx : Int) + (1 : Int)), .i (Boss.now X + (12 : Int)), .n (m), .x (jobT j)] ?_
        conv => whnf
        refine ⟨⟨I, I, I, I, I, I, w64 (by omega) (by omega), I, I, I, w64 (by omega) (by omega), I, ⟨rfl, (by simp only [lens]; omega)⟩, ⟨⟨I, I, I, I⟩, ixl (by assumption)⟩, I⟩, ?_⟩
        refine g 87 93 [.n (sx), .x (seatT x)] ?_
        conv => whnf
        refine ⟨⟨I, I, I, I, ⟨rfl, (by simp only [lens]; omega)⟩, I, ⟨⟨I, I⟩, ixl (by assumption)⟩, I⟩, ?_⟩
        refine g 93 101 [.i ((↑sx : Int) + (1 : Int))] ?_
        conv => whnf
        refine ⟨⟨I, w64 (by omega) (by omega), I, I, I, I, I, I, I, ⟨I, I, I, I, I, I, I, I, I⟩, I⟩, ?_⟩
        refine W.sq ?_
        refine g 7 9 [] ?_
        conv => whnf
        refine ⟨⟨I, I⟩, ?_⟩
        refine W.blk ?_
        refine W.lp (fun s (k : Nat) => ⟨[(0, s.s 0), (1, s.s 1), (2, s.s 2), (3, s.s 3), (4, s.s 4), (5, s.s 5), (6, s.s 6), (9, s.s 9), (10, .i k), (73, s.s 73)], [(138, [s.c 138 0, s.c 138 1, s.c 138 2, s.c 138 3, s.c 138 4, s.c 138 5, s.c 138 6, s.c 138 7, s.c 138 8, s.c 138 9, s.c 138 10, s.c 138 11]), (2, [s.c 2 0, s.c 2 1, s.c 2 2, s.c 2 3, s.c 2 4, s.c 2 5, s.c 2 6, s.c 2 7, s.c 2 8, s.c 2 9, s.c 2 10, s.c 2 11]), (3, [s.c 3 0]), (4, [s.c 4 0, s.c 4 1, s.c 4 2, s.c 4 3, s.c 4 4, s.c 4 5, s.c 4 6, s.c 4 7, s.c 4 8, s.c 4 9, s.c 4 10, s.c 4 11, s.c 4 12]), (5, [s.c 5 0, s.c 5 1, s.c 5 2, s.c 5 3, s.c 5 4, s.c 5 5, s.c 5 6, s.c 5 7, s.c 5 8, s.c 5 9, s.c 5 10, s.c 5 11, s.c 5 12]), (9, [.t (.i 1), .t (.i 0), .t (.i ((sx : Int) + 1)), .t (.i X.epoch), .t (.i ((X.epoch - 1) * 1000000 + (X.given + 1))), .t (.i m), .t (.s emp), .own [false] ((pickL X.results (t.deps.take k)).map strT)])], []⟩) (fun (k : Nat) => k ≤ t.deps.length) (fun (k : Nat) => t.deps.length - k) (0) [some 138, some 2, some 3, some 4, some 5, some 9] [] ⟨rfl, ⟨⟨_, rfl, _, _, rfl, rfl, _, _, rfl, rfl, _, _, rfl, rfl, _, _, rfl, rfl, _, _, rfl, rfl, _, _, rfl, rfl, _, _, rfl, rfl, _, _, rfl, rfl, _, _, rfl, rfl, _, _, rfl, rfl, _, _, rfl, rfl, _, _, rfl, rfl, rfl⟩, ⟨_, rfl, _, _, rfl, rfl, rfl⟩, rfl, rfl, rfl, rfl, rfl, rfl, rfl, rfl, I⟩, ⟨⟨rfl, ⟨rfl, ⟨rfl, ⟨rfl, ⟨rfl, ⟨rfl, ⟨rfl, ⟨I, ⟨I, ⟨I, ⟨I, ⟨I, ⟨I, I⟩⟩⟩⟩⟩⟩⟩⟩⟩⟩⟩⟩⟩, ⟨⟨rfl, ⟨rfl, ⟨rfl, ⟨rfl, ⟨rfl, ⟨rfl, ⟨rfl, ⟨rfl, ⟨rfl, ⟨rfl, ⟨rfl, ⟨rfl, ⟨rfl, I⟩⟩⟩⟩⟩⟩⟩⟩⟩⟩⟩⟩⟩, ⟨⟨rfl, ⟨rfl, I⟩⟩, ⟨⟨rfl, ⟨rfl, ⟨rfl, ⟨rfl, ⟨rfl, ⟨rfl, ⟨rfl, ⟨rfl, ⟨rfl, ⟨rfl, ⟨rfl, ⟨rfl, ⟨rfl, ⟨rfl, I⟩⟩⟩⟩⟩⟩⟩⟩⟩⟩⟩⟩⟩⟩, ⟨⟨rfl, ⟨rfl, ⟨rfl, ⟨rfl, ⟨rfl, ⟨rfl, ⟨rfl, ⟨rfl, ⟨rfl, ⟨rfl, ⟨rfl, ⟨rfl, ⟨rfl, ⟨rfl, I⟩⟩⟩⟩⟩⟩⟩⟩⟩⟩⟩⟩⟩⟩, ⟨⟨rfl, ⟨rfl, ⟨rfl, ⟨rfl, ⟨rfl, ⟨rfl, ⟨rfl, ⟨rfl, ⟨rfl, I⟩⟩⟩⟩⟩⟩⟩⟩⟩, I⟩⟩⟩⟩⟩⟩, I⟩ (by omega) ?_
        intro k hk
        by_cases hk2 : k < t.deps.length
        ·obtain ⟨d0, hd0⟩ := some_at hk2
         have hdr := a4 d0 (List.mem_of_getElem? hd0)
         obtain ⟨z, hz⟩ := some_at (xs := X.results) (n := d0.toNat) (by omega)
         have ez : (pickL X.results (t.deps.take k)).map strT ++ [strT z] = (pickL X.results (t.deps.take (k + 1))).map strT := by rw [pickL_take hd0 hz, List.map_append]; rfl
         have hpk := pickL_len X.results (t.deps.take k)
         have htk : (t.deps.take k).length ≤ k := by rw [List.length_take]; omega
         conv => whnf
         refine W.sq ?_
         refine g 101 109 [.x (taskT t)] ?_
         conv => whnf
         refine ⟨⟨I, I, I, I, ⟨(by omega), ixl (by assumption)⟩, I, I, I, I, I⟩, ?_⟩
         refine W.cn ?_
         conv => whnf
         refine ⟨fun _ => ?_, noF (by simp [*])⟩
         refine W.skip ?_
         refine W.sq ?_
         refine W.blk ?_
         refine rgd [[], [], [], [], [], [], [], [], [.x (taskT t)], [], [], [], [.x (intT d0)], [], [.n (Int.toNat d0)], [.x (strT z)], [], [], [], []] ?_
         conv => whnf
         refine ⟨⟨I, I, I, I, I, I, I, I, ⟨(by omega), ixl (by assumption)⟩, I, I, I, ⟨(by omega), ixl (by assumption)⟩, I, ⟨(by omega), (by simp only [lens]; omega)⟩, ixl (by assumption), ⟨⟨I, I⟩, I⟩, ⟨I, I, (by simp only [lens]; omega)⟩, I, ⟨I, I⟩, I⟩, by kernel_rfl, ?_⟩
         refine rg [.i ((↑k : Int) + (1 : Int))] ?_
         conv => whnf
         refine ⟨⟨I, w64 (by omega) (by omega), I, I⟩, ?_⟩
         refine ⟨k + 1, [some 138, some 2, some 3, some 4, some 5, some 9], [], ⟨rfl, ⟨⟨_, rfl, _, _, rfl, rfl, _, _, rfl, rfl, _, _, rfl, rfl, _, _, rfl, rfl, _, _, rfl, rfl, _, _, rfl, rfl, _, _, rfl, rfl, _, _, rfl, rfl, _, _, rfl, rfl, _, _, rfl, rfl, _, _, rfl, rfl, _, _, rfl, rfl, rfl⟩, ⟨_, rfl, _, _, rfl, rfl, rfl⟩, rfl, rfl, rfl, rfl, rfl, rfl, rfl, rfl, I⟩, ⟨⟨rfl, ⟨rfl, ⟨rfl, ⟨rfl, ⟨rfl, ⟨rfl, ⟨rfl, ⟨I, ⟨I, ⟨I, ⟨I, ⟨I, ⟨I, I⟩⟩⟩⟩⟩⟩⟩⟩⟩⟩⟩⟩⟩, ⟨⟨rfl, ⟨rfl, ⟨rfl, ⟨rfl, ⟨rfl, ⟨rfl, ⟨rfl, ⟨rfl, ⟨rfl, ⟨rfl, ⟨rfl, ⟨rfl, ⟨rfl, I⟩⟩⟩⟩⟩⟩⟩⟩⟩⟩⟩⟩⟩, ⟨⟨rfl, ⟨rfl, I⟩⟩, ⟨⟨rfl, ⟨rfl, ⟨rfl, ⟨rfl, ⟨rfl, ⟨rfl, ⟨rfl, ⟨rfl, ⟨rfl, ⟨rfl, ⟨rfl, ⟨rfl, ⟨rfl, ⟨rfl, I⟩⟩⟩⟩⟩⟩⟩⟩⟩⟩⟩⟩⟩⟩, ⟨⟨rfl, ⟨rfl, ⟨rfl, ⟨rfl, ⟨rfl, ⟨rfl, ⟨rfl, ⟨rfl, ⟨rfl, ⟨rfl, ⟨rfl, ⟨rfl, ⟨rfl, ⟨rfl, I⟩⟩⟩⟩⟩⟩⟩⟩⟩⟩⟩⟩⟩⟩, ⟨⟨rfl, ⟨rfl, ⟨rfl, ⟨rfl, ⟨rfl, ⟨rfl, ⟨rfl, ⟨rfl, ⟨(congrArg (V.own _) (ez)), I⟩⟩⟩⟩⟩⟩⟩⟩⟩, I⟩⟩⟩⟩⟩⟩, I⟩, ?_, ?_⟩
         rotate_left 1
         (dsimp only; omega)
         dsimp only
         omega
        ·have ek : t.deps.take k = t.deps := take_all (by omega)
         rw [← ek] at eo
         conv => whnf
         refine W.sq ?_
         refine g 101 109 [.x (taskT t)] ?_
         conv => whnf
         refine ⟨⟨I, I, I, I, ⟨(by omega), ixl (by assumption)⟩, I, I, I, I, I⟩, ?_⟩
         refine W.cn ?_
         conv => whnf
         refine ⟨noT (by simp [*]), fun _ => ?_⟩
         refine W.exit ?_
         refine rg [] ?_
         conv => whnf
         refine ⟨⟨I, I, I, ⟨⟨I, I, I, I, I, I, I, I, I⟩, I⟩, ⟨I, I, (by simp only [lens]; omega)⟩, I, ⟨I, I⟩, I⟩, ?_⟩
         refine rg [.i ((↑m : Int) + (1 : Int))] ?_
         conv => whnf
         refine ⟨⟨I, w64 (by omega) (by omega), I, I⟩, ?_⟩
         refine ⟨m + 1, [some 138, some 2, some 3, some 4, some 5], [], ⟨rfl, ⟨⟨_, rfl, _, _, rfl, rfl, _, _, rfl, rfl, _, _, rfl, rfl, _, _, rfl, rfl, _, _, rfl, rfl, _, _, rfl, rfl, _, _, rfl, rfl, _, _, rfl, rfl, _, _, rfl, rfl, _, _, rfl, rfl, _, _, rfl, rfl, _, _, rfl, rfl, rfl⟩, ⟨_, rfl, _, _, rfl, rfl, rfl⟩, rfl, rfl, rfl, rfl, rfl, I⟩, ⟨⟨rfl, ⟨rfl, ⟨rfl, ⟨rfl, ⟨rfl, ⟨rfl, ⟨rfl, ⟨I, ⟨I, ⟨I, ⟨I, ⟨I, ⟨I, I⟩⟩⟩⟩⟩⟩⟩⟩⟩⟩⟩⟩⟩, ⟨⟨rfl, ⟨rfl, ⟨rfl, ⟨rfl, ⟨rfl, ⟨rfl, ⟨rfl, ⟨rfl, ⟨rfl, ⟨rfl, ⟨rfl, ⟨rfl, ⟨rfl, I⟩⟩⟩⟩⟩⟩⟩⟩⟩⟩⟩⟩⟩, ⟨⟨rfl, ⟨rfl, I⟩⟩, ⟨⟨rfl, ⟨rfl, ⟨rfl, ⟨rfl, ⟨rfl, ⟨rfl, ⟨rfl, ⟨rfl, ⟨rfl, ⟨rfl, ⟨rfl, ⟨rfl, ⟨rfl, ⟨rfl, I⟩⟩⟩⟩⟩⟩⟩⟩⟩⟩⟩⟩⟩⟩, ⟨⟨rfl, ⟨(congrArg (fun z => V.t (T.v (Value.int _ z))) (e1)), ⟨(congrArg (fun z => V.t (T.v (Value.bool z))) (e2)), ⟨(congrArg (fun z => V.t (T.v (Value.int _ z))) (e3)), ⟨(congrArg (fun z => V.t (T.v (Value.int _ z))) (e4)), ⟨(congrArg (fun z => V.t (T.v (Value.int _ z))) (e5)), ⟨(congrArg (fun z => V.t (T.v (Value.int _ z))) (eg)), ⟨(congrArg (V.own _) (by rw [e6])), ⟨(congrArg (V.own _) (by rw [e6])), ⟨(congrArg (V.own _) (by rw [e7])), ⟨(congrArg (V.own _) (ej)), ⟨(congrArg (V.own _) (es)), ⟨(congrArg (V.own _) (by rw [e8])), ⟨(congrArg (V.own _) (eo)), I⟩⟩⟩⟩⟩⟩⟩⟩⟩⟩⟩⟩⟩⟩, I⟩⟩⟩⟩⟩, I⟩, ?_, ?_⟩
         rotate_left 1
         (dsimp only; omega)
         dsimp only
         omega
       ·have e := hand_no (b := d) (ts := p.tasks) (fun q => hG (by rw [x4]; exact q.given))
        conv => whnf
        refine W.sq ?_
        refine g 13 17 [] ?_
        conv => whnf
        refine ⟨⟨I, I, I, I, I, I⟩, ?_⟩
        refine W.cn ?_
        conv => whnf
        refine ⟨fun _ => ?_, noF (by simp [*])⟩
        refine W.skip ?_
        refine W.sq ?_
        refine W.blk ?_
        refine g 20 23 [.call (V.i (↑sx : Int)) ([[]])] ?_
        conv => whnf
        refine ⟨⟨I, I, ⟨⟨I, I⟩, I, ⟨⟨I, I, I, I, I, I, I, I, I, I, I, I, I⟩, I⟩, ⟨I, I⟩, (by assumption)⟩, I, I⟩, ?_⟩
        refine W.sq ?_
        refine g 17 58 [.b (false), .b (false), .b (false), .b (false), .b (false), .b (true), .b (true), .b (true), .b (true), .b (true), .b (true), .b (true), .b (true), .b (true), .b (true), .b (true), .b (true), .b (true), .b (true), .b (true), .b (true), .b (true), .b (true), .b (true), .b (true), .b (true), .b (true), .b (true), .b (true), .b (true)] ?_
        conv => whnf
        refine ⟨⟨I, I, I, ⟨rfl, I⟩, ⟨rfl, I⟩, ⟨rfl, I⟩, ⟨rfl, I⟩, rfl, I, dT (by omega), dT (by omega), dT (by omega), dT (by omega), dT (by omega), dT (by omega), dT (by omega), dT (by omega), I, rfl, rfl, rfl, rfl, rfl, rfl, rfl, rfl, rfl, I, rfl, rfl, rfl, rfl, rfl, rfl, rfl, rfl, I⟩, ?_⟩
        refine W.cn ?_
        conv => whnf
        refine ⟨fun _ => ?_, noF (rfl)⟩
        refine W.exit ?_
        refine rg [.i ((↑m : Int) + (1 : Int))] ?_
        conv => whnf
        refine ⟨⟨I, w64 (by omega) (by omega), I, I⟩, ?_⟩
        refine ⟨m + 1, [some 138, some 2, some 3, some 4, some 5], [], ⟨rfl, ⟨⟨_, rfl, _, _, rfl, rfl, _, _, rfl, rfl, _, _, rfl, rfl, _, _, rfl, rfl, _, _, rfl, rfl, _, _, rfl, rfl, _, _, rfl, rfl, _, _, rfl, rfl, _, _, rfl, rfl, _, _, rfl, rfl, _, _, rfl, rfl, _, _, rfl, rfl, rfl⟩, ⟨_, rfl, _, _, rfl, rfl, rfl⟩, rfl, rfl, rfl, rfl, rfl, I⟩, ⟨⟨rfl, ⟨rfl, ⟨rfl, ⟨rfl, ⟨rfl, ⟨rfl, ⟨rfl, ⟨I, ⟨I, ⟨I, ⟨I, ⟨I, ⟨I, I⟩⟩⟩⟩⟩⟩⟩⟩⟩⟩⟩⟩⟩, ⟨⟨rfl, ⟨rfl, ⟨rfl, ⟨rfl, ⟨rfl, ⟨rfl, ⟨rfl, ⟨rfl, ⟨rfl, ⟨rfl, ⟨rfl, ⟨rfl, ⟨rfl, I⟩⟩⟩⟩⟩⟩⟩⟩⟩⟩⟩⟩⟩, ⟨⟨rfl, ⟨rfl, I⟩⟩, ⟨⟨rfl, ⟨rfl, ⟨rfl, ⟨rfl, ⟨rfl, ⟨rfl, ⟨rfl, ⟨rfl, ⟨rfl, ⟨rfl, ⟨rfl, ⟨rfl, ⟨rfl, ⟨rfl, I⟩⟩⟩⟩⟩⟩⟩⟩⟩⟩⟩⟩⟩⟩, ⟨⟨rfl, ⟨(congrArg (fun z => V.t (T.v (Value.int _ z))) (by rw [e, ← hX])), ⟨(congrArg (fun z => V.t (T.v (Value.bool z))) (by rw [e, ← hX])), ⟨(congrArg (fun z => V.t (T.v (Value.int _ z))) (by rw [e, ← hX])), ⟨(congrArg (fun z => V.t (T.v (Value.int _ z))) (by rw [e, ← hX])), ⟨(congrArg (fun z => V.t (T.v (Value.int _ z))) (by rw [e, ← hX])), ⟨(congrArg (fun z => V.t (T.v (Value.int _ z))) (by rw [e, ← hX])), ⟨(congrArg (V.own _) (by rw [e, ← hX])), ⟨(congrArg (V.own _) (by rw [e, ← hX])), ⟨(congrArg (V.own _) (by rw [e, ← hX])), ⟨(congrArg (V.own _) (by rw [e, ← hX])), ⟨(congrArg (V.own _) (by rw [e, ← hX])), ⟨(congrArg (V.own _) (by rw [e, ← hX])), ⟨(congrArg (V.own _) (by simp [*])), I⟩⟩⟩⟩⟩⟩⟩⟩⟩⟩⟩⟩⟩⟩, I⟩⟩⟩⟩⟩, I⟩, ?_, ?_⟩
        rotate_left 1
        (dsimp only; omega)
        dsimp only
        omega
      ·rw [decide_eq_false hF] at crd
       have e := hand_no (b := d) (ts := p.tasks) (fun q => hF (q3 q))
       conv => whnf
       refine W.sq ?_
       refine g 13 17 [] ?_
       conv => whnf
       refine ⟨⟨I, I, I, I, I, I⟩, ?_⟩
       refine W.cn ?_
       conv => whnf
       refine ⟨fun _ => ?_, noF (by simp [*])⟩
       refine W.skip ?_
       refine W.sq ?_
       refine W.blk ?_
       refine g 20 23 [.call (V.i (↑sx : Int)) ([[]])] ?_
       conv => whnf
       refine ⟨⟨I, I, ⟨⟨I, I⟩, I, ⟨⟨I, I, I, I, I, I, I, I, I, I, I, I, I⟩, I⟩, ⟨I, I⟩, (by assumption)⟩, I, I⟩, ?_⟩
       refine W.sq ?_
       by_cases h1 : (1000000 : Int) ≤ Boss.given X
       refine g 17 58 [.b (false), .b (false), .b (false), .b (false), .b (false), .b (true), .b (true), .b (true), .b (true), .b (true), .b (true), .b (true), .b (true), .b (true), .b (true), .b (true), .b (true), .b (true), .b (true), .b (true), .b (true), .b (true), .b (true), .b (true), .b (true), .b (true), .b (true), .b (true), .b (true), .b (true)] ?_
       conv => whnf
       refine ⟨⟨I, I, I, ⟨rfl, I⟩, ⟨rfl, I⟩, ⟨rfl, I⟩, ⟨rfl, I⟩, rfl, I, dT (by omega), dT (by omega), dT (by omega), dT (by omega), dT (by omega), dT (by omega), dT (by omega), dT (by omega), I, rfl, rfl, rfl, rfl, rfl, rfl, rfl, rfl, rfl, I, rfl, rfl, rfl, rfl, rfl, rfl, rfl, rfl, I⟩, ?_⟩
       refine W.cn ?_
       conv => whnf
       refine ⟨fun _ => ?_, noF (rfl)⟩
       refine W.exit ?_
       refine rg [.i ((↑m : Int) + (1 : Int))] ?_
       conv => whnf
       refine ⟨⟨I, w64 (by omega) (by omega), I, I⟩, ?_⟩
       rotate_left 1
       refine g 17 58 [.b (false), .b (false), .b (false), .b (false), .b (false), .b (false), .b (false), .b (false), .b (false), .b (false), .n (m), .b (false), .x (strT y), .b (false), .b (false), .b (false), .b (false), .b (false), .b (false), .b (false), .n (m), .b (false), .b (false), .x (jobT j), .b (false), .b (false), .b (false), .b (false), .b (false), .b (false), .b (false), .b (false), .call (V.b false) ([[], [], []]), .b (false), .b (false)] ?_
       conv => whnf
       refine ⟨⟨I, I, I, ⟨rfl, I⟩, ⟨rfl, I⟩, ⟨rfl, I⟩, ⟨rfl, I⟩, rfl, I, ⟨dF (by omega), I⟩, ⟨dF (by omega), I⟩, ⟨dF (by omega), I⟩, ⟨dF (by omega), I⟩, ⟨dF (by omega), rfl, (by simp only [lens]; omega)⟩, ⟨dF (by omega), ixl (by assumption)⟩, ⟨dF (by omega), I⟩, dF (by omega), I, ⟨notF (by omega), I⟩, ⟨notF (by omega), I⟩, ⟨notF (by omega), I⟩, ⟨notF (by omega), I⟩, ⟨notF (by omega), rfl, (by simp only [lens]; omega)⟩, ⟨notF (by omega), I⟩, ⟨notF (by omega), ixl (by assumption)⟩, ⟨notF (by omega), I⟩, notF (by omega), I, ⟨notF (by omega), I⟩, ⟨notF (by omega), I⟩, ⟨notF (by omega), I⟩, ⟨notF (by omega), I⟩, ⟨notF (by omega), I⟩, ⟨notF (by omega), ⟨I, I, I, I⟩, I, ⟨⟨I, I⟩, ⟨I, I⟩, ⟨I, I⟩, I⟩, ⟨I, I⟩, (by assumption)⟩, ⟨notF (by omega), I⟩, notF (by omega), I⟩, ?_⟩
       refine W.cn ?_
       conv => whnf
       refine ⟨fun _ => ?_, noF (rfl)⟩
       refine W.exit ?_
       refine rg [.i ((↑m : Int) + (1 : Int))] ?_
       conv => whnf
       refine ⟨⟨I, w64 (by omega) (by omega), I, I⟩, ?_⟩
       rotate_left 1
       all_goals refine ⟨m + 1, [some 138, some 2, some 3, some 4, some 5], [], ⟨rfl, ⟨⟨_, rfl, _, _, rfl, rfl, _, _, rfl, rfl, _, _, rfl, rfl, _, _, rfl, rfl, _, _, rfl, rfl, _, _, rfl, rfl, _, _, rfl, rfl, _, _, rfl, rfl, _, _, rfl, rfl, _, _, rfl, rfl, _, _, rfl, rfl, _, _, rfl, rfl, rfl⟩, ⟨_, rfl, _, _, rfl, rfl, rfl⟩, rfl, rfl, rfl, rfl, rfl, I⟩, ⟨⟨rfl, ⟨rfl, ⟨rfl, ⟨rfl, ⟨rfl, ⟨rfl, ⟨rfl, ⟨I, ⟨I, ⟨I, ⟨I, ⟨I, ⟨I, I⟩⟩⟩⟩⟩⟩⟩⟩⟩⟩⟩⟩⟩, ⟨⟨rfl, ⟨rfl, ⟨rfl, ⟨rfl, ⟨rfl, ⟨rfl, ⟨rfl, ⟨rfl, ⟨rfl, ⟨rfl, ⟨rfl, ⟨rfl, ⟨rfl, I⟩⟩⟩⟩⟩⟩⟩⟩⟩⟩⟩⟩⟩, ⟨⟨rfl, ⟨rfl, I⟩⟩, ⟨⟨rfl, ⟨rfl, ⟨rfl, ⟨rfl, ⟨rfl, ⟨rfl, ⟨rfl, ⟨rfl, ⟨rfl, ⟨rfl, ⟨rfl, ⟨rfl, ⟨rfl, ⟨rfl, I⟩⟩⟩⟩⟩⟩⟩⟩⟩⟩⟩⟩⟩⟩, ⟨⟨rfl, ⟨(congrArg (fun z => V.t (T.v (Value.int _ z))) (by rw [e, ← hX])), ⟨(congrArg (fun z => V.t (T.v (Value.bool z))) (by rw [e, ← hX])), ⟨(congrArg (fun z => V.t (T.v (Value.int _ z))) (by rw [e, ← hX])), ⟨(congrArg (fun z => V.t (T.v (Value.int _ z))) (by rw [e, ← hX])), ⟨(congrArg (fun z => V.t (T.v (Value.int _ z))) (by rw [e, ← hX])), ⟨(congrArg (fun z => V.t (T.v (Value.int _ z))) (by rw [e, ← hX])), ⟨(congrArg (V.own _) (by rw [e, ← hX])), ⟨(congrArg (V.own _) (by rw [e, ← hX])), ⟨(congrArg (V.own _) (by rw [e, ← hX])), ⟨(congrArg (V.own _) (by rw [e, ← hX])), ⟨(congrArg (V.own _) (by rw [e, ← hX])), ⟨(congrArg (V.own _) (by rw [e, ← hX])), ⟨(congrArg (V.own _) (by simp [*])), I⟩⟩⟩⟩⟩⟩⟩⟩⟩⟩⟩⟩⟩⟩, I⟩⟩⟩⟩⟩, I⟩, ?_, ?_⟩
                 rotate_left 1
                 (dsimp only; omega)
                 dsimp only
                 omega
     ·have e := hand_no (b := d) (ts := p.tasks) (fun q => hB (q2 q))
      conv => whnf
      refine W.sq ?_
      refine g 13 17 [] ?_
      conv => whnf
      refine ⟨⟨I, I, I, I, I, I⟩, ?_⟩
      refine W.cn ?_
      conv => whnf
      refine ⟨fun _ => ?_, noF (by simp [*])⟩
      refine W.skip ?_
      refine W.sq ?_
      refine W.blk ?_
      refine g 20 23 [.call (V.i (↑sx : Int)) ([[]])] ?_
      conv => whnf
      refine ⟨⟨I, I, ⟨⟨I, I⟩, I, ⟨⟨I, I, I, I, I, I, I, I, I, I, I, I, I⟩, I⟩, ⟨I, I⟩, (by assumption)⟩, I, I⟩, ?_⟩
      refine W.sq ?_
      by_cases h1 : (1000000 : Int) ≤ Boss.given X
      refine g 17 58 [.b (false), .b (false), .b (false), .b (false), .b (false), .b (true), .b (true), .b (true), .b (true), .b (true), .b (true), .b (true), .b (true), .b (true), .b (true), .b (true), .b (true), .b (true), .b (true), .b (true), .b (true), .b (true), .b (true), .b (true), .b (true), .b (true), .b (true), .b (true), .b (true), .b (true)] ?_
      conv => whnf
      refine ⟨⟨I, I, I, ⟨rfl, I⟩, ⟨rfl, I⟩, ⟨rfl, I⟩, ⟨rfl, I⟩, rfl, I, dT (by omega), dT (by omega), dT (by omega), dT (by omega), dT (by omega), dT (by omega), dT (by omega), dT (by omega), I, rfl, rfl, rfl, rfl, rfl, rfl, rfl, rfl, rfl, I, rfl, rfl, rfl, rfl, rfl, rfl, rfl, rfl, I⟩, ?_⟩
      refine W.cn ?_
      conv => whnf
      refine ⟨fun _ => ?_, noF (rfl)⟩
      refine W.exit ?_
      refine rg [.i ((↑m : Int) + (1 : Int))] ?_
      conv => whnf
      refine ⟨⟨I, w64 (by omega) (by omega), I, I⟩, ?_⟩
      rotate_left 1
      refine g 17 58 [.b (false), .b (false), .b (false), .b (false), .b (false), .b (false), .b (false), .b (false), .b (false), .b (false), .n (m), .b (false), .x (strT y), .b (false), .b (false), .b (false), .b (false), .b (false), .b (false), .b (false), .n (m), .b (false), .b (false), .x (jobT j), .b (false), .b (false), .b (true), .b (true), .b (true), .b (true), .b (true), .b (true), .b (true), .b (true)] ?_
      conv => whnf
      refine ⟨⟨I, I, I, ⟨rfl, I⟩, ⟨rfl, I⟩, ⟨rfl, I⟩, ⟨rfl, I⟩, rfl, I, ⟨dF (by omega), I⟩, ⟨dF (by omega), I⟩, ⟨dF (by omega), I⟩, ⟨dF (by omega), I⟩, ⟨dF (by omega), rfl, (by simp only [lens]; omega)⟩, ⟨dF (by omega), ixl (by assumption)⟩, ⟨dF (by omega), I⟩, dF (by omega), I, ⟨notF (by omega), I⟩, ⟨notF (by omega), I⟩, ⟨notF (by omega), I⟩, ⟨notF (by omega), I⟩, ⟨notF (by omega), rfl, (by simp only [lens]; omega)⟩, ⟨notF (by omega), I⟩, ⟨notF (by omega), ixl (by assumption)⟩, ⟨notF (by omega), I⟩, notF (by omega), I, notT (by omega), notT (by omega), notT (by omega), notT (by omega), notT (by omega), notT (by omega), notT (by omega), notT (by omega), I⟩, ?_⟩
      refine W.cn ?_
      conv => whnf
      refine ⟨fun _ => ?_, noF (rfl)⟩
      refine W.exit ?_
      refine rg [.i ((↑m : Int) + (1 : Int))] ?_
      conv => whnf
      refine ⟨⟨I, w64 (by omega) (by omega), I, I⟩, ?_⟩
      rotate_left 1
      all_goals refine ⟨m + 1, [some 138, some 2, some 3, some 4, some 5], [], ⟨rfl, ⟨⟨_, rfl, _, _, rfl, rfl, _, _, rfl, rfl, _, _, rfl, rfl, _, _, rfl, rfl, _, _, rfl, rfl, _, _, rfl, rfl, _, _, rfl, rfl, _, _, rfl, rfl, _, _, rfl, rfl, _, _, rfl, rfl, _, _, rfl, rfl, _, _, rfl, rfl, rfl⟩, ⟨_, rfl, _, _, rfl, rfl, rfl⟩, rfl, rfl, rfl, rfl, rfl, I⟩, ⟨⟨rfl, ⟨rfl, ⟨rfl, ⟨rfl, ⟨rfl, ⟨rfl, ⟨rfl, ⟨I, ⟨I, ⟨I, ⟨I, ⟨I, ⟨I, I⟩⟩⟩⟩⟩⟩⟩⟩⟩⟩⟩⟩⟩, ⟨⟨rfl, ⟨rfl, ⟨rfl, ⟨rfl, ⟨rfl, ⟨rfl, ⟨rfl, ⟨rfl, ⟨rfl, ⟨rfl, ⟨rfl, ⟨rfl, ⟨rfl, I⟩⟩⟩⟩⟩⟩⟩⟩⟩⟩⟩⟩⟩, ⟨⟨rfl, ⟨rfl, I⟩⟩, ⟨⟨rfl, ⟨rfl, ⟨rfl, ⟨rfl, ⟨rfl, ⟨rfl, ⟨rfl, ⟨rfl, ⟨rfl, ⟨rfl, ⟨rfl, ⟨rfl, ⟨rfl, ⟨rfl, I⟩⟩⟩⟩⟩⟩⟩⟩⟩⟩⟩⟩⟩⟩, ⟨⟨rfl, ⟨(congrArg (fun z => V.t (T.v (Value.int _ z))) (by rw [e, ← hX])), ⟨(congrArg (fun z => V.t (T.v (Value.bool z))) (by rw [e, ← hX])), ⟨(congrArg (fun z => V.t (T.v (Value.int _ z))) (by rw [e, ← hX])), ⟨(congrArg (fun z => V.t (T.v (Value.int _ z))) (by rw [e, ← hX])), ⟨(congrArg (fun z => V.t (T.v (Value.int _ z))) (by rw [e, ← hX])), ⟨(congrArg (fun z => V.t (T.v (Value.int _ z))) (by rw [e, ← hX])), ⟨(congrArg (V.own _) (by rw [e, ← hX])), ⟨(congrArg (V.own _) (by rw [e, ← hX])), ⟨(congrArg (V.own _) (by rw [e, ← hX])), ⟨(congrArg (V.own _) (by rw [e, ← hX])), ⟨(congrArg (V.own _) (by rw [e, ← hX])), ⟨(congrArg (V.own _) (by rw [e, ← hX])), ⟨(congrArg (V.own _) (by simp [*])), I⟩⟩⟩⟩⟩⟩⟩⟩⟩⟩⟩⟩⟩⟩, I⟩⟩⟩⟩⟩, I⟩, ?_, ?_⟩
                rotate_left 1
                (dsimp only; omega)
                dsimp only
                omega
    ·have e := hand_no (b := d) (ts := p.tasks) (fun q => hA (q1 q))
     conv => whnf
     refine W.sq ?_
     refine g 13 17 [] ?_
     conv => whnf
     refine ⟨⟨I, I, I, I, I, I⟩, ?_⟩
     refine W.cn ?_
     conv => whnf
     refine ⟨fun _ => ?_, noF (by simp [*])⟩
     refine W.skip ?_
     refine W.sq ?_
     refine W.blk ?_
     refine g 20 23 [.call (V.i (↑sx : Int)) ([[]])] ?_
     conv => whnf
     refine ⟨⟨I, I, ⟨⟨I, I⟩, I, ⟨⟨I, I, I, I, I, I, I, I, I, I, I, I, I⟩, I⟩, ⟨I, I⟩, (by assumption)⟩, I, I⟩, ?_⟩
     refine W.sq ?_
     by_cases h1 : (1000000 : Int) ≤ Boss.given X
     refine g 17 58 [.b (false), .b (false), .b (false), .b (false), .b (false), .b (true), .b (true), .b (true), .b (true), .b (true), .b (true), .b (true), .b (true), .b (true), .b (true), .b (true), .b (true), .b (true), .b (true), .b (true), .b (true), .b (true), .b (true), .b (true), .b (true), .b (true), .b (true), .b (true), .b (true), .b (true)] ?_
     conv => whnf
     refine ⟨⟨I, I, I, ⟨rfl, I⟩, ⟨rfl, I⟩, ⟨rfl, I⟩, ⟨rfl, I⟩, rfl, I, dT (by omega), dT (by omega), dT (by omega), dT (by omega), dT (by omega), dT (by omega), dT (by omega), dT (by omega), I, rfl, rfl, rfl, rfl, rfl, rfl, rfl, rfl, rfl, I, rfl, rfl, rfl, rfl, rfl, rfl, rfl, rfl, I⟩, ?_⟩
     refine W.cn ?_
     conv => whnf
     refine ⟨fun _ => ?_, noF (rfl)⟩
     refine W.exit ?_
     refine rg [.i ((↑m : Int) + (1 : Int))] ?_
     conv => whnf
     refine ⟨⟨I, w64 (by omega) (by omega), I, I⟩, ?_⟩
     rotate_left 1
     refine g 17 58 [.b (false), .b (false), .b (false), .b (false), .b (false), .b (false), .b (false), .b (false), .b (false), .b (false), .n (m), .b (false), .x (strT y), .b (false), .b (false), .b (true), .b (true), .b (true), .b (true), .b (true), .b (true), .b (true), .b (true), .b (true), .b (true), .b (true), .b (true), .b (true), .b (true), .b (true), .b (true), .b (true)] ?_
     conv => whnf
     refine ⟨⟨I, I, I, ⟨rfl, I⟩, ⟨rfl, I⟩, ⟨rfl, I⟩, ⟨rfl, I⟩, rfl, I, ⟨dF (by omega), I⟩, ⟨dF (by omega), I⟩, ⟨dF (by omega), I⟩, ⟨dF (by omega), I⟩, ⟨dF (by omega), rfl, (by simp only [lens]; omega)⟩, ⟨dF (by omega), ixl (by assumption)⟩, ⟨dF (by omega), I⟩, dF (by omega), I, notT (by omega), notT (by omega), notT (by omega), notT (by omega), notT (by omega), notT (by omega), notT (by omega), notT (by omega), notT (by omega), I, rfl, rfl, rfl, rfl, rfl, rfl, rfl, rfl, I⟩, ?_⟩
     refine W.cn ?_
     conv => whnf
     refine ⟨fun _ => ?_, noF (rfl)⟩
     refine W.exit ?_
     refine rg [.i ((↑m : Int) + (1 : Int))] ?_
     conv => whnf
     refine ⟨⟨I, w64 (by omega) (by omega), I, I⟩, ?_⟩
     rotate_left 1
     all_goals refine ⟨m + 1, [some 138, some 2, some 3, some 4, some 5], [], ⟨rfl, ⟨⟨_, rfl, _, _, rfl, rfl, _, _, rfl, rfl, _, _, rfl, rfl, _, _, rfl, rfl, _, _, rfl, rfl, _, _, rfl, rfl, _, _, rfl, rfl, _, _, rfl, rfl, _, _, rfl, rfl, _, _, rfl, rfl, _, _, rfl, rfl, _, _, rfl, rfl, rfl⟩, ⟨_, rfl, _, _, rfl, rfl, rfl⟩, rfl, rfl, rfl, rfl, rfl, I⟩, ⟨⟨rfl, ⟨rfl, ⟨rfl, ⟨rfl, ⟨rfl, ⟨rfl, ⟨rfl, ⟨I, ⟨I, ⟨I, ⟨I, ⟨I, ⟨I, I⟩⟩⟩⟩⟩⟩⟩⟩⟩⟩⟩⟩⟩, ⟨⟨rfl, ⟨rfl, ⟨rfl, ⟨rfl, ⟨rfl, ⟨rfl, ⟨rfl, ⟨rfl, ⟨rfl, ⟨rfl, ⟨rfl, ⟨rfl, ⟨rfl, I⟩⟩⟩⟩⟩⟩⟩⟩⟩⟩⟩⟩⟩, ⟨⟨rfl, ⟨rfl, I⟩⟩, ⟨⟨rfl, ⟨rfl, ⟨rfl, ⟨rfl, ⟨rfl, ⟨rfl, ⟨rfl, ⟨rfl, ⟨rfl, ⟨rfl, ⟨rfl, ⟨rfl, ⟨rfl, ⟨rfl, I⟩⟩⟩⟩⟩⟩⟩⟩⟩⟩⟩⟩⟩⟩, ⟨⟨rfl, ⟨(congrArg (fun z => V.t (T.v (Value.int _ z))) (by rw [e, ← hX])), ⟨(congrArg (fun z => V.t (T.v (Value.bool z))) (by rw [e, ← hX])), ⟨(congrArg (fun z => V.t (T.v (Value.int _ z))) (by rw [e, ← hX])), ⟨(congrArg (fun z => V.t (T.v (Value.int _ z))) (by rw [e, ← hX])), ⟨(congrArg (fun z => V.t (T.v (Value.int _ z))) (by rw [e, ← hX])), ⟨(congrArg (fun z => V.t (T.v (Value.int _ z))) (by rw [e, ← hX])), ⟨(congrArg (V.own _) (by rw [e, ← hX])), ⟨(congrArg (V.own _) (by rw [e, ← hX])), ⟨(congrArg (V.own _) (by rw [e, ← hX])), ⟨(congrArg (V.own _) (by rw [e, ← hX])), ⟨(congrArg (V.own _) (by rw [e, ← hX])), ⟨(congrArg (V.own _) (by rw [e, ← hX])), ⟨(congrArg (V.own _) (by simp [*])), I⟩⟩⟩⟩⟩⟩⟩⟩⟩⟩⟩⟩⟩⟩, I⟩⟩⟩⟩⟩, I⟩, ?_, ?_⟩
               rotate_left 1
               (dsimp only; omega)
               dsimp only
               omega
 obtain rfl : m = p.tasks.length := by omega
 subst hX
 conv => whnf
 refine W.sq ?_
 refine g 13 17 [] ?_
 conv => whnf
 refine ⟨⟨I, I, I, I, I, I⟩, ?_⟩
 refine W.cn ?_
 conv => whnf
 refine ⟨noT (by simp [*]), fun _ => ?_⟩
 refine W.exit ?_
 refine g 0 4 [] ?_
 conv => whnf
 refine ⟨⟨I, ⟨I, I, I, I, I, I, I, I, I, I, I, I, I, I⟩, I⟩, ?_⟩
 refine W.ret ?_
 refine EndsW.rt ?_
 conv => whnf
 refine ⟨⟨I, I, I, I, I, I, I, I, I, I, I, I, I, I, I⟩, ?_, rfl⟩
 rfl
end Go.K
end
section
set_option linter.unusedVariables false
set_option linter.unusedSimpArgs false
set_option maxHeartbeats 8000000
set_option maxRecDepth 20000
open Go Go.Tm Go.Proofs
namespace Go.K
theorem due_nil {b : Boss} {ts : List Task} {n : Nat} {j : Job} (h : jobsTo b ts b.jobs.length) (hj : b.jobs[n]? = some j) (hz : j.lease = 0) (now : Int) : mapN (dueJ now) b.jobs n = mapN (dueJ now) b.jobs (n + 1) := by
 refine mapN_same hj ?_
 obtain ⟨h1, h2⟩ := (h n j (List.getElem?_eq_some_iff.1 hj).1 hj).1 hz
 obtain ⟨l, w, t⟩ := j
 simp only at hz h1 h2
 subst hz h1 h2
 unfold dueJ; split <;> rfl
theorem c_spec_BossTick (b : Boss) (p : Plan) (hp : planWf p) (h : BossLim b) : F n_spec_BossTick [.val (bossR b), .val (planR p)] (ledO (bTick b p)) [[], []] := by
 have cv := cs_valid b p hp h
 by_cases hv : BossOk b p
 ·rw [decide_eq_true hv] at cv
  rw [btick_ok hv]
  have ct := cs_copy b h
  have hnow := hv.now
  by_cases h0 : b.now = 1000000
  ·rw [tick_max h0]
   refine i_spec_BossTick ?_
   conv => whnf
   refine g 1 2 [] ?_
   conv => whnf
   refine ⟨⟨⟨I, I, I, I, I, I, I, I, I, I, I, I, I⟩, ⟨I, I⟩, I, I⟩, ?_⟩
   refine W.sq ?_
   refine g 10 13 [.call (V.b true) ([[], []])] ?_
   conv => whnf
   refine ⟨⟨I, I, ⟨⟨I, I, I⟩, I, ⟨⟨I, I, I, I, I, I, I, I, I, I, I, I, I⟩, ⟨I, I⟩, I⟩, ⟨I, I⟩, (by assumption)⟩, I, I⟩, ?_⟩
   refine W.cn ?_
   conv => whnf
   refine ⟨noT (rfl), fun _ => ?_⟩
   refine W.skip ?_
   refine g 13 17 [.call (bossO b) ([[]])] ?_
   conv => whnf
   refine ⟨⟨I, ⟨⟨I, I⟩, I, ⟨⟨I, I, I, I, I, I, I, I, I, I, I, I, I⟩, I⟩, ⟨I, I⟩, (by assumption)⟩, I, ⟨I, I, I, I, I, I, I, I, I, I, I, I, I⟩, I⟩, ?_⟩
   refine W.sq ?_
   refine g 17 19 [] ?_
   conv => whnf
   refine ⟨⟨I, I, I, I⟩, ?_⟩
   refine W.cn ?_
   conv => whnf
   refine ⟨fun _ => ?_, noF (dT (by omega))⟩
   refine g 19 22 [] ?_
   conv => whnf
   refine ⟨⟨I, I, ⟨I, I, I, I, I, I, I, I, I, I, I, I, I, I⟩, I⟩, ?_⟩
   refine W.ret ?_
   refine EndsW.rt ?_
   conv => whnf
   refine ⟨⟨I, I, I, I, I, I, I, I, I, I, I, I, I, I, I⟩, ?_, rfl⟩
   rfl
  ·by_cases hup : b.up = false
   ·rw [tick_no h0 hup]
    refine i_spec_BossTick ?_
    conv => whnf
    refine g 1 2 [] ?_
    conv => whnf
    refine ⟨⟨⟨I, I, I, I, I, I, I, I, I, I, I, I, I⟩, ⟨I, I⟩, I, I⟩, ?_⟩
    refine W.sq ?_
    refine g 10 13 [.call (V.b true) ([[], []])] ?_
    conv => whnf
    refine ⟨⟨I, I, ⟨⟨I, I, I⟩, I, ⟨⟨I, I, I, I, I, I, I, I, I, I, I, I, I⟩, ⟨I, I⟩, I⟩, ⟨I, I⟩, (by assumption)⟩, I, I⟩, ?_⟩
    refine W.cn ?_
    conv => whnf
    refine ⟨noT (rfl), fun _ => ?_⟩
    refine W.skip ?_
    refine g 13 17 [.call (bossO b) ([[]])] ?_
    conv => whnf
    refine ⟨⟨I, ⟨⟨I, I⟩, I, ⟨⟨I, I, I, I, I, I, I, I, I, I, I, I, I⟩, I⟩, ⟨I, I⟩, (by assumption)⟩, I, ⟨I, I, I, I, I, I, I, I, I, I, I, I, I⟩, I⟩, ?_⟩
    refine W.sq ?_
    refine g 17 19 [] ?_
    conv => whnf
    refine ⟨⟨I, I, I, I⟩, ?_⟩
    refine W.cn ?_
    conv => whnf
    refine ⟨noT (dF (by omega)), fun _ => ?_⟩
    refine W.skip ?_
    refine g 19 26 [.i (Boss.now b + (1 : Int))] ?_
    conv => whnf
    refine ⟨⟨I, I, w64 (by omega) (by omega), I, ⟨I, I⟩, I⟩, ?_⟩
    refine W.sq ?_
    refine g 26 28 [] ?_
    conv => whnf
    refine ⟨⟨I, I, I, I⟩, ?_⟩
    refine W.cn ?_
    conv => whnf
    refine ⟨fun _ => ?_, noF (nbT (by assumption))⟩
    refine g 28 31 [] ?_
    conv => whnf
    refine ⟨⟨I, I, ⟨I, I, I, I, I, I, I, I, I, I, I, I, I, I⟩, I⟩, ?_⟩
    refine W.ret ?_
    refine EndsW.rt ?_
    conv => whnf
    refine ⟨⟨I, I, I, I, I, I, I, I, I, I, I, I, I, I, I⟩, ?_, rfl⟩
    rfl
   ·have hup2 : b.up = true := by cases hb : b.up; exact absurd hb hup; rfl
    obtain ⟨u1, u2, u3, u4, u5, u6, ⟨u7, u8⟩, ⟨u9, u10⟩, u11, u12, u13, u14⟩ := hv.up hup2
    have hck := hv.plan
    have hpl := (chk_inv hck).1
    have hwk := hv.workers
    obtain ⟨he1, he2⟩ := replay_ep hv.code
    change 0 ≤ (bossS b p).epoch at he1
    change (bossS b p).epoch ≤ 300 at he2
    have l1 := h.safe
    have l2 := h.loose
    have hin : HandIn (dueB b) p.tasks := ⟨hck, u3, by show (b.jobs.map _).length = _; rw [List.length_map]; exact u4, by show b.seats.length ≤ 8; omega, ⟨u2, by show b.epoch ≤ 300; omega⟩, ⟨u9, u10⟩, ⟨by show 0 ≤ b.now + 1; omega, by show b.now + 1 ≤ 1000000; omega⟩⟩
    have ch : F n_spec_l5Hand [.val (bossO ⟨b.workers, b.up, b.now + 1, b.since, b.epoch, b.given, b.log, b.results, mapN (dueJ (b.now + 1)) b.jobs b.jobs.length, b.seats, b.owed⟩), .val (planR p)] (ledO ⟨atB (dueB b) (endH b p.tasks), (endH b p.tasks).out⟩) [[], []] := by
     rw [mapN_all _ _ (Nat.le_refl _)]; exact c_spec_l5Hand (dueB b) p hin
    have hdl : ∀ t ∈ p.tasks, t.deps.length ≤ 8 := fun t ht => by
     obtain ⟨k, hk⟩ := List.getElem?_of_mem ht
     exact (chk_task hck hk).2.2.1
    have hho := hand_ok (b := dueB b) (ts := p.tasks) hdl u9 u10 p.tasks.length
    have k3 : (endH b p.tasks).out.length ≤ 40 := by have := hho.out; show (handN _ _ _).out.length ≤ 40; omega
    generalize hX : atB (dueB b) (endH b p.tasks) = X at ch
    have ch2 : F n_spec_l5Hand [.val (bossO ⟨b.workers, b.up, b.now + 1, b.since, b.epoch, b.given, b.log, b.results, mapN (dueJ (b.now + 1)) b.jobs b.jobs.length, b.seats, b.owed⟩), .val (planR p)] (.agg [.t (.i X.workers), .t (.b X.up), .t (.i X.now), .t (.i X.since), .t (.i X.epoch), .t (.i X.given), .own [false] (X.log.safe.map strT), .own [false] (X.log.loose.map strT), .own [false] (X.results.map strT), .own jobK (X.jobs.map jobT), .own seatK (X.seats.map seatT), .own owedK (X.owed.map owedT), .own messageK ((endH b p.tasks).out.map messageT)]) [[], []] := ch
    clear ch
    have x1 : X.since = b.since := by rw [← hX]; rfl
    have x2 : X.log = b.log := by rw [← hX]; rfl
    have x3 : X.owed = b.owed := by rw [← hX]; rfl
    have cl := c_spec_l4All X.log (by rw [x2]; exact l1) (by rw [x2]; exact l2)
    refine i_spec_BossTick ?_
    conv => whnf
    refine g 1 2 [] ?_
    conv => whnf
    refine ⟨⟨⟨I, I, I, I, I, I, I, I, I, I, I, I, I⟩, ⟨I, I⟩, I, I⟩, ?_⟩
    refine W.sq ?_
    refine g 10 13 [.call (V.b true) ([[], []])] ?_
    conv => whnf
    refine ⟨⟨I, I, ⟨⟨I, I, I⟩, I, ⟨⟨I, I, I, I, I, I, I, I, I, I, I, I, I⟩, ⟨I, I⟩, I⟩, ⟨I, I⟩, (by assumption)⟩, I, I⟩, ?_⟩
    refine W.cn ?_
    conv => whnf
    refine ⟨noT (rfl), fun _ => ?_⟩
    refine W.skip ?_
    refine g 13 17 [.call (bossO b) ([[]])] ?_
    conv => whnf
    refine ⟨⟨I, ⟨⟨I, I⟩, I, ⟨⟨I, I, I, I, I, I, I, I, I, I, I, I, I⟩, I⟩, ⟨I, I⟩, (by assumption)⟩, I, ⟨I, I, I, I, I, I, I, I, I, I, I, I, I⟩, I⟩, ?_⟩
    refine W.sq ?_
    refine g 17 19 [] ?_
    conv => whnf
    refine ⟨⟨I, I, I, I⟩, ?_⟩
    refine W.cn ?_
    conv => whnf
    refine ⟨noT (dF (by omega)), fun _ => ?_⟩
    refine W.skip ?_
    refine g 19 26 [.i (Boss.now b + (1 : Int))] ?_
    conv => whnf
    refine ⟨⟨I, I, w64 (by omega) (by omega), I, ⟨I, I⟩, I⟩, ?_⟩
    refine W.sq ?_
    refine g 26 28 [] ?_
    conv => whnf
    refine ⟨⟨I, I, I, I⟩, ?_⟩
    refine W.cn ?_
    conv => whnf
    refine ⟨noT (nbF (by assumption)), fun _ => ?_⟩
    refine W.skip ?_
    refine W.sq ?_
    refine g 28 29 [] ?_
    conv => whnf
    refine ⟨⟨I, I⟩, ?_⟩
    refine W.blk ?_
    refine W.lp (fun s (n : Nat) => ⟨[(0, s.s 0), (2, s.s 2), (3, s.s 3), (4, s.s 4), (5, s.s 5), (6, .i n)], [(2, [s.c 2 0, s.c 2 1, s.c 2 2, s.c 2 3, s.c 2 4, s.c 2 5, s.c 2 6, s.c 2 7, s.c 2 8, s.c 2 9, s.c 2 10, s.c 2 11]), (3, [s.c 3 0]), (4, [s.c 4 0, s.c 4 1, s.c 4 2, s.c 4 3, s.c 4 4, s.c 4 5, s.c 4 6, s.c 4 7, s.c 4 8, s.c 4 9, s.c 4 10, s.c 4 11, s.c 4 12]), (5, [.t (.i b.workers), .t (.b b.up), .t (.i (b.now + 1)), .t (.i b.since), .t (.i b.epoch), .t (.i b.given), .own [false] (b.log.safe.map strT), .own [false] (b.log.loose.map strT), .own [false] (b.results.map strT), .own jobK ((mapN (dueJ (b.now + 1)) b.jobs n).map jobT), .own seatK (b.seats.map seatT), .own owedK (b.owed.map owedT)])], []⟩) (fun (n : Nat) => n ≤ b.jobs.length) (fun (n : Nat) => b.jobs.length - n) (0) [some 2, some 3, some 4, some 5] [] ⟨rfl, ⟨⟨_, rfl, _, _, rfl, rfl, _, _, rfl, rfl, _, _, rfl, rfl, _, _, rfl, rfl, _, _, rfl, rfl, _, _, rfl, rfl, _, _, rfl, rfl, _, _, rfl, rfl, _, _, rfl, rfl, _, _, rfl, rfl, _, _, rfl, rfl, _, _, rfl, rfl, rfl⟩, rfl, rfl, rfl, rfl, rfl, I⟩, ⟨⟨rfl, ⟨rfl, ⟨rfl, ⟨rfl, ⟨rfl, ⟨rfl, ⟨rfl, ⟨rfl, ⟨rfl, ⟨rfl, ⟨rfl, ⟨rfl, ⟨rfl, I⟩⟩⟩⟩⟩⟩⟩⟩⟩⟩⟩⟩⟩, ⟨⟨rfl, ⟨rfl, I⟩⟩, ⟨⟨rfl, ⟨rfl, ⟨rfl, ⟨rfl, ⟨rfl, ⟨rfl, ⟨rfl, ⟨rfl, ⟨rfl, ⟨rfl, ⟨rfl, ⟨rfl, ⟨rfl, ⟨rfl, I⟩⟩⟩⟩⟩⟩⟩⟩⟩⟩⟩⟩⟩⟩, ⟨⟨rfl, ⟨rfl, ⟨rfl, ⟨rfl, ⟨rfl, ⟨rfl, ⟨rfl, ⟨rfl, ⟨rfl, ⟨rfl, ⟨rfl, ⟨rfl, ⟨rfl, I⟩⟩⟩⟩⟩⟩⟩⟩⟩⟩⟩⟩⟩, I⟩⟩⟩⟩, I⟩ (by omega) ?_
    intro n hn
    have hx := mapN_len (dueJ (b.now + 1)) b.jobs n
    by_cases hj : n < b.jobs.length
    ·obtain ⟨j, hj1⟩ := some_at hj
     by_cases hz : j.lease = 0
     ·have e1 := due_nil u12 hj1 hz (b.now + 1)
      conv => whnf
      refine W.sq ?_
      refine g 31 35 [] ?_
      conv => whnf
      refine ⟨⟨I, I, I, I, I, I⟩, ?_⟩
      refine W.cn ?_
      conv => whnf
      refine ⟨fun _ => ?_, noF (by simp_all)⟩
      refine W.skip ?_
      refine W.sq ?_
      refine W.blk ?_
      refine gd 35 55 [[], [], [], [.n (n)], [], [.x (jobT j)], [], [], [.b (false)], [.b (false)], [.b (false)], [.b (false)], [.b (false)], [.b (false)], [.b (false)], [.b (false)], [.b (false)], [.b (false)]] ?_
      conv => whnf
      refine ⟨⟨I, I, I, ⟨rfl, (by simp only [lens]; omega)⟩, I, mapN_getm (by assumption), I, I, notF (by omega), notF (by omega), notF (by omega), notF (by omega), notF (by omega), notF (by omega), notF (by omega), notF (by omega), notF (by omega), notF (by omega), I⟩, by kernel_rfl, ?_⟩
      refine W.cn ?_
      conv => whnf
      refine ⟨noT (rfl), fun _ => ?_⟩
      refine W.skip ?_
      refine rg [.i ((↑n : Int) + (1 : Int))] ?_
      conv => whnf
      refine ⟨⟨I, w64 (by omega) (by omega), I, I⟩, ?_⟩
      refine ⟨n + 1, [some 2, some 3, some 4, some 5], [], ⟨rfl, ⟨⟨_, rfl, _, _, rfl, rfl, _, _, rfl, rfl, _, _, rfl, rfl, _, _, rfl, rfl, _, _, rfl, rfl, _, _, rfl, rfl, _, _, rfl, rfl, _, _, rfl, rfl, _, _, rfl, rfl, _, _, rfl, rfl, _, _, rfl, rfl, _, _, rfl, rfl, rfl⟩, rfl, rfl, rfl, rfl, rfl, I⟩, ⟨⟨rfl, ⟨rfl, ⟨rfl, ⟨rfl, ⟨rfl, ⟨rfl, ⟨rfl, ⟨rfl, ⟨rfl, ⟨rfl, ⟨rfl, ⟨rfl, ⟨rfl, I⟩⟩⟩⟩⟩⟩⟩⟩⟩⟩⟩⟩⟩, ⟨⟨rfl, ⟨rfl, I⟩⟩, ⟨⟨rfl, ⟨rfl, ⟨rfl, ⟨rfl, ⟨rfl, ⟨rfl, ⟨rfl, ⟨rfl, ⟨rfl, ⟨rfl, ⟨rfl, ⟨rfl, ⟨rfl, ⟨rfl, I⟩⟩⟩⟩⟩⟩⟩⟩⟩⟩⟩⟩⟩⟩, ⟨⟨rfl, ⟨rfl, ⟨rfl, ⟨rfl, ⟨rfl, ⟨rfl, ⟨rfl, ⟨rfl, ⟨rfl, ⟨rfl, ⟨(congrArg (V.own _) (by rw [← e1])), ⟨rfl, ⟨rfl, I⟩⟩⟩⟩⟩⟩⟩⟩⟩⟩⟩⟩⟩, I⟩⟩⟩⟩, I⟩, ?_, ?_⟩
      rotate_left 1
      (dsimp only; omega)
      dsimp only
      omega
     ·by_cases hd : j.til ≤ b.now + 1
      ·have e1 := due_yes hj1 hd
       conv => whnf
       refine W.sq ?_
       refine g 31 35 [] ?_
       conv => whnf
       refine ⟨⟨I, I, I, I, I, I⟩, ?_⟩
       refine W.cn ?_
       conv => whnf
       refine ⟨fun _ => ?_, noF (by simp_all)⟩
       refine W.skip ?_
       refine W.sq ?_
       refine W.blk ?_
       refine gd 35 55 [[], [], [], [.n (n)], [], [.x (jobT j)], [], [], [.b (true)], [.b (true)], [.b (true)], [.b (true), .n (n)], [.b (true)], [.b (true), .x (jobT j)], [.b (true)], [.b (true)], [.b (true)], [.b (true)]] ?_
       conv => whnf
       refine ⟨⟨I, I, I, ⟨rfl, (by simp only [lens]; omega)⟩, I, mapN_getm (by assumption), I, I, ⟨notT (by omega), I⟩, ⟨notT (by omega), I⟩, ⟨notT (by omega), I⟩, ⟨notT (by omega), rfl, (by simp only [lens]; omega)⟩, ⟨notT (by omega), I⟩, ⟨notT (by omega), mapN_getm (by assumption)⟩, ⟨notT (by omega), I⟩, ⟨notT (by omega), I⟩, ⟨notT (by omega), I⟩, notT (by omega), I⟩, by kernel_rfl, ?_⟩
       refine W.cn ?_
       conv => whnf
       refine ⟨fun _ => ?_, noF (dT (by omega))⟩
       refine rg [.n (n), .x (jobT j)] ?_
       conv => whnf
       refine ⟨⟨I, I, I, I, ⟨rfl, (by simp only [lens]; omega)⟩, ⟨⟨I, I, I, I⟩, mapN_getm (by assumption)⟩, I⟩, ?_⟩
       refine rg [.i ((↑n : Int) + (1 : Int))] ?_
       conv => whnf
       refine ⟨⟨I, w64 (by omega) (by omega), I, I⟩, ?_⟩
       refine ⟨n + 1, [some 2, some 3, some 4, some 5], [], ⟨rfl, ⟨⟨_, rfl, _, _, rfl, rfl, _, _, rfl, rfl, _, _, rfl, rfl, _, _, rfl, rfl, _, _, rfl, rfl, _, _, rfl, rfl, _, _, rfl, rfl, _, _, rfl, rfl, _, _, rfl, rfl, _, _, rfl, rfl, _, _, rfl, rfl, _, _, rfl, rfl, rfl⟩, rfl, rfl, rfl, rfl, rfl, I⟩, ⟨⟨rfl, ⟨rfl, ⟨rfl, ⟨rfl, ⟨rfl, ⟨rfl, ⟨rfl, ⟨rfl, ⟨rfl, ⟨rfl, ⟨rfl, ⟨rfl, ⟨rfl, I⟩⟩⟩⟩⟩⟩⟩⟩⟩⟩⟩⟩⟩, ⟨⟨rfl, ⟨rfl, I⟩⟩, ⟨⟨rfl, ⟨rfl, ⟨rfl, ⟨rfl, ⟨rfl, ⟨rfl, ⟨rfl, ⟨rfl, ⟨rfl, ⟨rfl, ⟨rfl, ⟨rfl, ⟨rfl, ⟨rfl, I⟩⟩⟩⟩⟩⟩⟩⟩⟩⟩⟩⟩⟩⟩, ⟨⟨rfl, ⟨rfl, ⟨rfl, ⟨rfl, ⟨rfl, ⟨rfl, ⟨rfl, ⟨rfl, ⟨rfl, ⟨rfl, ⟨(congrArg (V.own _) (e1)), ⟨rfl, ⟨rfl, I⟩⟩⟩⟩⟩⟩⟩⟩⟩⟩⟩⟩⟩, I⟩⟩⟩⟩, I⟩, ?_, ?_⟩
       rotate_left 1
       (dsimp only; omega)
       dsimp only
       omega
      ·have e1 := due_no hj1 hd
       conv => whnf
       refine W.sq ?_
       refine g 31 35 [] ?_
       conv => whnf
       refine ⟨⟨I, I, I, I, I, I⟩, ?_⟩
       refine W.cn ?_
       conv => whnf
       refine ⟨fun _ => ?_, noF (by simp_all)⟩
       refine W.skip ?_
       refine W.sq ?_
       refine W.blk ?_
       refine gd 35 55 [[], [], [], [.n (n)], [], [.x (jobT j)], [], [], [.b (true)], [.b (true)], [.b (true)], [.b (true), .n (n)], [.b (true)], [.b (true), .x (jobT j)], [.b (true)], [.b (true)], [.b (true)], [.b (true)]] ?_
       conv => whnf
       refine ⟨⟨I, I, I, ⟨rfl, (by simp only [lens]; omega)⟩, I, mapN_getm (by assumption), I, I, ⟨notT (by omega), I⟩, ⟨notT (by omega), I⟩, ⟨notT (by omega), I⟩, ⟨notT (by omega), rfl, (by simp only [lens]; omega)⟩, ⟨notT (by omega), I⟩, ⟨notT (by omega), mapN_getm (by assumption)⟩, ⟨notT (by omega), I⟩, ⟨notT (by omega), I⟩, ⟨notT (by omega), I⟩, notT (by omega), I⟩, by kernel_rfl, ?_⟩
       refine W.cn ?_
       conv => whnf
       refine ⟨noT (dF (by omega)), fun _ => ?_⟩
       refine W.skip ?_
       refine rg [.i ((↑n : Int) + (1 : Int))] ?_
       conv => whnf
       refine ⟨⟨I, w64 (by omega) (by omega), I, I⟩, ?_⟩
       refine ⟨n + 1, [some 2, some 3, some 4, some 5], [], ⟨rfl, ⟨⟨_, rfl, _, _, rfl, rfl, _, _, rfl, rfl, _, _, rfl, rfl, _, _, rfl, rfl, _, _, rfl, rfl, _, _, rfl, rfl, _, _, rfl, rfl, _, _, rfl, rfl, _, _, rfl, rfl, _, _, rfl, rfl, _, _, rfl, rfl, _, _, rfl, rfl, rfl⟩, rfl, rfl, rfl, rfl, rfl, I⟩, ⟨⟨rfl, ⟨rfl, ⟨rfl, ⟨rfl, ⟨rfl, ⟨rfl, ⟨rfl, ⟨rfl, ⟨rfl, ⟨rfl, ⟨rfl, ⟨rfl, ⟨rfl, I⟩⟩⟩⟩⟩⟩⟩⟩⟩⟩⟩⟩⟩, ⟨⟨rfl, ⟨rfl, I⟩⟩, ⟨⟨rfl, ⟨rfl, ⟨rfl, ⟨rfl, ⟨rfl, ⟨rfl, ⟨rfl, ⟨rfl, ⟨rfl, ⟨rfl, ⟨rfl, ⟨rfl, ⟨rfl, ⟨rfl, I⟩⟩⟩⟩⟩⟩⟩⟩⟩⟩⟩⟩⟩⟩, ⟨⟨rfl, ⟨rfl, ⟨rfl, ⟨rfl, ⟨rfl, ⟨rfl, ⟨rfl, ⟨rfl, ⟨rfl, ⟨rfl, ⟨(congrArg (V.own _) (by rw [← e1])), ⟨rfl, ⟨rfl, I⟩⟩⟩⟩⟩⟩⟩⟩⟩⟩⟩⟩⟩, I⟩⟩⟩⟩, I⟩, ?_, ?_⟩
       rotate_left 1
       (dsimp only; omega)
       dsimp only
       omega
    obtain rfl : n = b.jobs.length := by omega
    have x4 : X.epoch = b.epoch := by rw [← hX]; rfl
    have x5 : X.owed.length ≤ 2000 := by rw [x3]; exact u11
    by_cases hs : b.since + 1 = 2
    ·rw [tick_flush h0 hup hs]
     conv => whnf
     refine W.sq ?_
     refine g 31 35 [] ?_
     conv => whnf
     refine ⟨⟨I, I, I, I, I, I⟩, ?_⟩
     refine W.cn ?_
     conv => whnf
     refine ⟨noT (by simp_all), fun _ => ?_⟩
     refine W.exit ?_
     refine g 35 64 [.call (V.agg [V.t (T.i (Boss.workers X)), V.t (T.b (Boss.up X)), V.t (T.i (Boss.now X)), V.t (T.i (Boss.since X)), V.t (T.i (Boss.epoch X)), V.t (T.i (Boss.given X)), V.own [false] (List.map strT (Log.safe (Boss.log X))), V.own [false] (List.map strT (Log.loose (Boss.log X))), V.own [false] (List.map strT (Boss.results X)), V.own jobK (List.map jobT (Boss.jobs X)), V.own seatK (List.map seatT (Boss.seats X)), V.own owedK (List.map owedT (Boss.owed X)), V.own messageK (List.map messageT (Hand.out (endH b (Plan.tasks p))))]) ([[], []])] ?_
     conv => whnf
     refine ⟨⟨I, I, ⟨⟨⟨I, I, I, I, I, I, I, I, I, I, I, I, I⟩, I, I⟩, I, ⟨I, ⟨I, I⟩, I⟩, ⟨I, I⟩, (by assumption)⟩, I, ⟨I, I, I, I, I, I, I, I, I, I, I, I, I, I⟩, I⟩, ?_⟩
     refine g 64 70 [.i (Boss.since X + (1 : Int))] ?_
     conv => whnf
     refine ⟨⟨I, I, I, w64 (by omega) (by omega), I, I, ⟨I, I⟩, I⟩, ?_⟩
     refine W.sq ?_
     refine g 70 73 [] ?_
     conv => whnf
     refine ⟨⟨I, I, I, I, I⟩, ?_⟩
     refine W.cn ?_
     conv => whnf
     refine ⟨noT (dF (by omega)), fun _ => ?_⟩
     refine W.skip ?_
     refine g 5 7 [] ?_
     conv => whnf
     refine ⟨⟨I, I, ⟨I, I⟩, I⟩, ?_⟩
     refine g 75 84 [.call (V.own [false] (List.map strT (Log.safe (Boss.log X) ++ Log.loose (Boss.log X)))) ([[]])] ?_
     conv => whnf
     refine ⟨⟨I, I, I, ⟨⟨I, I⟩, I, ⟨⟨I, I, I⟩, I⟩, ⟨I, I⟩, (by assumption)⟩, I, I, I, ⟨I, I, I⟩, I⟩, ?_⟩
     refine W.sq ?_
     refine g 0 0 [] ?_
     conv => whnf
     refine ⟨⟨I, I⟩, ?_⟩
     refine W.blk ?_
     refine W.lp (fun s (n : Nat) => ⟨[(0, s.s 0), (2, s.s 2), (3, s.s 3), (4, s.s 4), (7, s.s 7), (8, .i n), (73, s.s 73)], [(2, [s.c 2 0, s.c 2 1, s.c 2 2, s.c 2 3, s.c 2 4, s.c 2 5, s.c 2 6, s.c 2 7, s.c 2 8, s.c 2 9, s.c 2 10, s.c 2 11]), (3, [s.c 3 0]), (4, [s.c 4 0, s.c 4 1, s.c 4 2, s.c 4 3, s.c 4 4, s.c 4 5, s.c 4 6, s.c 4 7, s.c 4 8, s.c 4 9, s.c 4 10, s.c 4 11, s.c 4 12]), (7, [.t (.i X.workers), .t (.b X.up), .t (.i X.now), .t (.i 0), .t (.i X.epoch), .t (.i X.given), .own [false] ((X.log.safe ++ X.log.loose).map strT), .own [false] [], .own [false] (X.results.map strT), .own jobK (X.jobs.map jobT), .own seatK (X.seats.map seatT), .own owedK (X.owed.map owedT), .own messageK (((endH b p.tasks).out ++ (X.owed.take n).map (thanksM X.epoch)).map messageT)])], []⟩) (fun (n : Nat) => n ≤ X.owed.length) (fun (n : Nat) => X.owed.length - n) (0) [some 2, some 3, some 4, some 7] [] ⟨rfl, ⟨⟨_, rfl, _, _, rfl, rfl, _, _, rfl, rfl, _, _, rfl, rfl, _, _, rfl, rfl, _, _, rfl, rfl, _, _, rfl, rfl, _, _, rfl, rfl, _, _, rfl, rfl, _, _, rfl, rfl, _, _, rfl, rfl, _, _, rfl, rfl, _, _, rfl, rfl, rfl⟩, rfl, rfl, rfl, rfl, rfl, rfl, I⟩, ⟨⟨rfl, ⟨rfl, ⟨rfl, ⟨rfl, ⟨rfl, ⟨rfl, ⟨rfl, ⟨rfl, ⟨rfl, ⟨rfl, ⟨rfl, ⟨rfl, ⟨rfl, I⟩⟩⟩⟩⟩⟩⟩⟩⟩⟩⟩⟩⟩, ⟨⟨rfl, ⟨rfl, I⟩⟩, ⟨⟨rfl, ⟨rfl, ⟨rfl, ⟨rfl, ⟨rfl, ⟨rfl, ⟨rfl, ⟨rfl, ⟨rfl, ⟨rfl, ⟨rfl, ⟨rfl, ⟨rfl, ⟨rfl, I⟩⟩⟩⟩⟩⟩⟩⟩⟩⟩⟩⟩⟩⟩, ⟨⟨rfl, ⟨rfl, ⟨rfl, ⟨rfl, ⟨rfl, ⟨rfl, ⟨rfl, ⟨rfl, ⟨rfl, ⟨rfl, ⟨rfl, ⟨rfl, ⟨rfl, ⟨(congrArg (V.own _) (by rw [List.take_zero, List.map_nil, List.append_nil])), I⟩⟩⟩⟩⟩⟩⟩⟩⟩⟩⟩⟩⟩⟩, I⟩⟩⟩⟩, I⟩ (by omega) ?_
     intro n hn3
     by_cases hn2 : n < X.owed.length
     ·obtain ⟨o, ho⟩ := some_at hn2
      have eo := thanks_step (out := (endH b p.tasks).out) (ep := X.epoch) ho
      conv => whnf
      refine W.sq ?_
      refine g 84 89 [] ?_
      conv => whnf
      refine ⟨⟨I, I, I, I, I, I, I⟩, ?_⟩
      refine W.cn ?_
      conv => whnf
      refine ⟨fun _ => ?_, noF (by simp_all)⟩
      refine W.skip ?_
      refine W.sq ?_
      refine W.blk ?_
      refine g 89 98 [.n (n), .x (owedT o)] ?_
      conv => whnf
      refine ⟨⟨I, I, I, I, ⟨rfl, (by simp only [lens]; omega)⟩, ixl (by assumption), I, ⟨I, I, I, I⟩, I⟩, ?_⟩
      refine rg [] ?_
      conv => whnf
      refine ⟨⟨I, I, I, I, I, I, I, I, I, I, ⟨⟨I, I, I, I, I, I, I, I, I⟩, I⟩, ⟨I, I, (by simp only [lens]; omega)⟩, I, ⟨I, I⟩, I⟩, ?_⟩
      refine rg [.i ((↑n : Int) + (1 : Int))] ?_
      conv => whnf
      refine ⟨⟨I, w64 (by omega) (by omega), I, I⟩, ?_⟩
      refine ⟨n + 1, [some 2, some 3, some 4, some 7], [], ⟨rfl, ⟨⟨_, rfl, _, _, rfl, rfl, _, _, rfl, rfl, _, _, rfl, rfl, _, _, rfl, rfl, _, _, rfl, rfl, _, _, rfl, rfl, _, _, rfl, rfl, _, _, rfl, rfl, _, _, rfl, rfl, _, _, rfl, rfl, _, _, rfl, rfl, _, _, rfl, rfl, rfl⟩, rfl, rfl, rfl, rfl, rfl, rfl, I⟩, ⟨⟨rfl, ⟨rfl, ⟨rfl, ⟨rfl, ⟨rfl, ⟨rfl, ⟨rfl, ⟨rfl, ⟨rfl, ⟨rfl, ⟨rfl, ⟨rfl, ⟨rfl, I⟩⟩⟩⟩⟩⟩⟩⟩⟩⟩⟩⟩⟩, ⟨⟨rfl, ⟨rfl, I⟩⟩, ⟨⟨rfl, ⟨rfl, ⟨rfl, ⟨rfl, ⟨rfl, ⟨rfl, ⟨rfl, ⟨rfl, ⟨rfl, ⟨rfl, ⟨rfl, ⟨rfl, ⟨rfl, ⟨rfl, I⟩⟩⟩⟩⟩⟩⟩⟩⟩⟩⟩⟩⟩⟩, ⟨⟨rfl, ⟨rfl, ⟨rfl, ⟨rfl, ⟨rfl, ⟨rfl, ⟨rfl, ⟨rfl, ⟨rfl, ⟨rfl, ⟨rfl, ⟨rfl, ⟨rfl, ⟨(congrArg (V.own _) (eo)), I⟩⟩⟩⟩⟩⟩⟩⟩⟩⟩⟩⟩⟩⟩, I⟩⟩⟩⟩, I⟩, ?_, ?_⟩
      rotate_left 1
      (dsimp only; omega)
      dsimp only
      omega
     ·have et : X.owed.take n = X.owed := take_all (by omega)
      conv => whnf
      refine W.sq ?_
      refine g 84 89 [] ?_
      conv => whnf
      refine ⟨⟨I, I, I, I, I, I, I⟩, ?_⟩
      refine W.cn ?_
      conv => whnf
      refine ⟨noT (by simp_all), fun _ => ?_⟩
      refine W.exit ?_
      refine g 89 114 [] ?_
      conv => whnf
      refine ⟨⟨I, I, I, ⟨I, I⟩, I⟩, ?_⟩
      refine g 0 4 [] ?_
      conv => whnf
      refine ⟨⟨I, ⟨I, I, I, I, I, I, I, I, I, I, I, I, I, I⟩, I⟩, ?_⟩
      refine W.ret ?_
      refine EndsW.rt ?_
      conv => whnf
      refine ⟨⟨I, I, I, I, I, I, I, I, I, I, I, I, I, I, I⟩, ?_, rfl⟩
      rw [et]
      subst hX
      rfl
    ·rw [tick_hand h0 hup hs]
     conv => whnf
     refine W.sq ?_
     refine g 31 35 [] ?_
     conv => whnf
     refine ⟨⟨I, I, I, I, I, I⟩, ?_⟩
     refine W.cn ?_
     conv => whnf
     refine ⟨noT (by simp_all), fun _ => ?_⟩
     refine W.exit ?_
     refine g 35 64 [.call (V.agg [V.t (T.i (Boss.workers X)), V.t (T.b (Boss.up X)), V.t (T.i (Boss.now X)), V.t (T.i (Boss.since X)), V.t (T.i (Boss.epoch X)), V.t (T.i (Boss.given X)), V.own [false] (List.map strT (Log.safe (Boss.log X))), V.own [false] (List.map strT (Log.loose (Boss.log X))), V.own [false] (List.map strT (Boss.results X)), V.own jobK (List.map jobT (Boss.jobs X)), V.own seatK (List.map seatT (Boss.seats X)), V.own owedK (List.map owedT (Boss.owed X)), V.own messageK (List.map messageT (Hand.out (endH b (Plan.tasks p))))]) ([[], []])] ?_
     conv => whnf
     refine ⟨⟨I, I, ⟨⟨⟨I, I, I, I, I, I, I, I, I, I, I, I, I⟩, I, I⟩, I, ⟨I, ⟨I, I⟩, I⟩, ⟨I, I⟩, (by assumption)⟩, I, ⟨I, I, I, I, I, I, I, I, I, I, I, I, I, I⟩, I⟩, ?_⟩
     refine g 64 70 [.i (Boss.since X + (1 : Int))] ?_
     conv => whnf
     refine ⟨⟨I, I, I, w64 (by omega) (by omega), I, I, ⟨I, I⟩, I⟩, ?_⟩
     refine W.sq ?_
     refine g 70 73 [] ?_
     conv => whnf
     refine ⟨⟨I, I, I, I, I⟩, ?_⟩
     refine W.cn ?_
     conv => whnf
     refine ⟨fun _ => ?_, noF (dT (by omega))⟩
     refine g 5 7 [] ?_
     conv => whnf
     refine ⟨⟨I, ⟨I, I, I, I, I, I, I, I, I, I, I, I, I, I⟩, I⟩, ?_⟩
     refine W.ret ?_
     refine EndsW.rt ?_
     conv => whnf
     refine ⟨⟨I, I, I, I, I, I, I, I, I, I, I, I, I, I, I⟩, ?_, rfl⟩
     subst hX
     rfl
 ·rw [decide_eq_false hv] at cv
  rw [btick_no hv]
  refine i_spec_BossTick ?_
  conv => whnf
  refine g 1 2 [] ?_
  conv => whnf
  refine ⟨⟨⟨I, I, I, I, I, I, I, I, I, I, I, I, I⟩, ⟨I, I⟩, I, I⟩, ?_⟩
  refine W.sq ?_
  refine g 10 13 [.call (V.b false) ([[], []])] ?_
  conv => whnf
  refine ⟨⟨I, I, ⟨⟨I, I, I⟩, I, ⟨⟨I, I, I, I, I, I, I, I, I, I, I, I, I⟩, ⟨I, I⟩, I⟩, ⟨I, I⟩, (by assumption)⟩, I, I⟩, ?_⟩
  refine W.cn ?_
  conv => whnf
  refine ⟨fun _ => ?_, noF (rfl)⟩
  refine g 13 15 [] ?_
  conv => whnf
  refine ⟨⟨I, ⟨I, I, I, I, I, I, I, I, I, I, I, I, I, I⟩, I⟩, ?_⟩
  refine W.ret ?_
  refine EndsW.rt ?_
  conv => whnf
  refine ⟨⟨I, I, I, I, I, I, I, I, I, I, I, I, I, I, I⟩, ?_, rfl⟩
  rfl
end Go.K
end
section
set_option linter.unusedVariables false
set_option linter.unusedSimpArgs false
set_option maxHeartbeats 8000000
set_option maxRecDepth 20000
open Go Go.Tm Go.Proofs
namespace Go.K
theorem sum_msgC : ∀ {l : List Message}, (∀ m ∈ l, m.inputs.length ≤ 8) → sumI messageC l ≤ 15 * (l.length : Int)
 | [], _ => by simp [sumI]
 | x :: l, h => by
   have h1 := sum_msgC (l := l) fun m hm => h m (List.mem_cons_of_mem _ hm)
   have h2 := h x (List.mem_cons_self ..)
   simp only [sumI, messageC, List.length_cons]; omega
structure LedSmall (x : Led) : Prop where
 boss : BossSmall x.boss
 out : x.out.length ≤ 2097152
 inp : ∀ m ∈ x.out, m.inputs.length ≤ 8
theorem ledsmall_no : LedSmall noLed := ⟨small_no, Nat.zero_le _, fun m hm => by cases hm⟩
theorem small_led {x : Led} (h : LedSmall x) : ledLen x ∧ (x.boss.log.safe.length ≤ 9223372036854775806 ∧ x.boss.log.loose.length ≤ 9223372036854775806 ∧ x.boss.results.length ≤ 9223372036854775806 ∧ x.boss.jobs.length ≤ 9223372036854775806 ∧ x.boss.seats.length ≤ 9223372036854775806 ∧ x.boss.owed.length ≤ 9223372036854775806 ∧ x.out.length ≤ 9223372036854775806) ∧ 0 ≤ ledTopC x ∧ ledTopC x ≤ 200000000 := by
 obtain ⟨h1, h2, h3⟩ := h
 obtain ⟨⟨c1, c2, c3, c4, c5, c6⟩, _, b3, b4⟩ := small_boss h1
 have e : ledTopC x = bossTopC x.boss + sumI messageC x.out := rfl
 have h4 := sum_nn messageC_nn x.out
 have h5 := sum_msgC h3
 exact ⟨⟨c1, c2, c3, c4, c5, c6, by omega, fun y hy => by have := h3 y hy; show y.inputs.length ≤ _; omega⟩, ⟨c1, c2, c3, c4, c5, c6, by omega⟩, by omega, by omega⟩
theorem btick_small {b : Boss} (p : Plan) (h : BossLim b) : LedSmall (bTick b p) := by
 unfold bTick; split
 ·rename_i hv
  have hs := small_lim h
  unfold tickB; split
  ·exact ⟨hs, Nat.zero_le _, fun m hm => by cases hm⟩
  ·split
   ·exact ⟨⟨hs.1, hs.2, hs.3, hs.4, hs.5, hs.6⟩, Nat.zero_le _, fun m hm => by cases hm⟩
   ·rename_i hup
    have hup2 : b.up = true := by cases hb : b.up; exact absurd hb hup; rfl
    obtain ⟨u1, u2, u3, u4, u5, u6, ⟨u7, u8⟩, ⟨u9, u10⟩, u11, u12, u13, u14⟩ := hv.up hup2
    have hck := hv.plan
    have hpl := (chk_inv hck).1
    have hdl : ∀ t ∈ p.tasks, t.deps.length ≤ 8 := fun t ht => by
     obtain ⟨k, hk⟩ := List.getElem?_of_mem ht
     exact (chk_task hck hk).2.2.1
    obtain ⟨k1, k2, k3, k4, k5, k6⟩ := hand_ok (b := dueB b) (ts := p.tasks) hdl u9 u10 p.tasks.length
    have k7 : (dueB b).jobs.length = b.jobs.length := by show (b.jobs.map _).length = _; rw [List.length_map]
    have k8 : (dueB b).seats.length = b.seats.length := rfl
    have g1 := h.safe
    have g2 := h.loose
    have g3 := h.seats
    have g4 := h.res
    have j1 : (endH b p.tasks).jobs.length ≤ 4194304 := by show (handN _ _ _).jobs.length ≤ _; omega
    have j2 : (endH b p.tasks).seats.length ≤ 4194304 := by show (handN _ _ _).seats.length ≤ _; omega
    have j3 : (endH b p.tasks).out.length ≤ 40 := by show (handN _ _ _).out.length ≤ _; omega
    split
    ·refine ⟨⟨?_, Nat.zero_le _, by show b.results.length ≤ _; omega, j1, j2, Nat.zero_le _⟩, ?_, ?_⟩
     ·simp only [List.length_append]; omega
     ·simp only [List.length_append, List.length_map]; omega
     ·intro m hm
      rcases List.mem_append.1 hm with hm | hm
      ·exact k6 m hm
      ·obtain ⟨o, _, rfl⟩ := List.mem_map.1 hm
       exact Nat.zero_le _
    ·exact ⟨⟨by show b.log.safe.length ≤ _; omega, by show b.log.loose.length ≤ _; omega, by show b.results.length ≤ _; omega, j1, j2, by show b.owed.length ≤ _; omega⟩, by show (endH b p.tasks).out.length ≤ _; omega, k6⟩
 ·exact ledsmall_no
theorem l_FnExactBossTick (b : Boss) (hw : bossWf b) (p : Plan) (hp : planWf p) : F n_laws_FnExactBossTick [.val (bossR b), .val (planR p)] (.b true) [[], []] := by
 have c0 := c_laws_szBoss b 1048576 hw (by omega) (by omega)
 have hbn := bossSz_nn b
 by_cases hq : (1048576 : Int) - bossSz b < 0
 ·rw [if_pos hq] at c0
  refine i_laws_FnExactBossTick ?_
  conv => whnf
  refine g 0 2 [] ?_
  conv => whnf
  refine ⟨⟨⟨I, I, I, I, I, I, I, I, I, I, I, I, I⟩, ⟨I, I⟩, I, I⟩, ?_⟩
  refine g 0 0 [] ?_
  conv => whnf
  refine ⟨⟨I, I⟩, ?_⟩
  refine g 14 17 [.call (V.i (-1 : Int)) ([[], []])] ?_
  conv => whnf
  refine ⟨⟨I, I, ⟨⟨I, I, I⟩, I, ⟨⟨I, I, I, I, I, I, I, I, I, I, I, I, I⟩, ⟨I, I⟩, I⟩, ⟨I, I⟩, (by assumption)⟩, I, I⟩, ?_⟩
  refine W.sq ?_
  refine g 17 18 [] ?_
  conv => whnf
  refine ⟨⟨I, I, I⟩, ?_⟩
  refine W.cn ?_
  conv => whnf
  refine ⟨fun _ => ?_, noF (rfl)⟩
  refine g 18 19 [] ?_
  conv => whnf
  refine ⟨⟨I, I⟩, ?_⟩
  refine W.ret ?_
  refine EndsW.rt ?_
  conv => whnf
  refine ⟨⟨I, I, I⟩, ?_, rfl⟩
  rfl
 ·rw [if_neg hq] at c0
  have c9 := c_laws_szPlan p (1048576 - bossSz b) hp (by omega) (by omega)
  have hpn := planSz_nn p
  by_cases hq2 : (1048576 : Int) - bossSz b - planSz p < 0
  ·rw [if_pos hq2] at c9
   refine i_laws_FnExactBossTick ?_
   conv => whnf
   refine g 0 2 [] ?_
   conv => whnf
   refine ⟨⟨⟨I, I, I, I, I, I, I, I, I, I, I, I, I⟩, ⟨I, I⟩, I, I⟩, ?_⟩
   refine g 0 0 [] ?_
   conv => whnf
   refine ⟨⟨I, I⟩, ?_⟩
   refine g 14 17 [.call (V.i ((1048576 : Int) - bossSz b)) ([[], []])] ?_
   conv => whnf
   refine ⟨⟨I, I, ⟨⟨I, I, I⟩, I, ⟨⟨I, I, I, I, I, I, I, I, I, I, I, I, I⟩, ⟨I, I⟩, I⟩, ⟨I, I⟩, (by assumption)⟩, I, I⟩, ?_⟩
   refine W.sq ?_
   refine g 17 18 [] ?_
   conv => whnf
   refine ⟨⟨I, I, I⟩, ?_⟩
   refine W.cn ?_
   conv => whnf
   refine ⟨noT (dF (by omega)), fun _ => ?_⟩
   refine W.skip ?_
   refine g 18 22 [.call (V.i (-1 : Int)) ([[], []])] ?_
   conv => whnf
   refine ⟨⟨I, I, ⟨⟨I, I, I⟩, I, ⟨⟨I, I⟩, ⟨I, I⟩, I⟩, ⟨I, I⟩, (by assumption)⟩, I, I⟩, ?_⟩
   refine W.sq ?_
   refine g 5 23 [] ?_
   conv => whnf
   refine ⟨⟨I, I, I⟩, ?_⟩
   refine W.cn ?_
   conv => whnf
   refine ⟨fun _ => ?_, noF (rfl)⟩
   refine g 23 24 [] ?_
   conv => whnf
   refine ⟨⟨I, I⟩, ?_⟩
   refine W.ret ?_
   refine EndsW.rt ?_
   conv => whnf
   refine ⟨⟨I, I, I⟩, ?_, rfl⟩
   rfl
  ·rw [if_neg hq2] at c9
   have hl2 := planLen_of (a := p) (by omega)
   obtain ⟨hl3, hl4⟩ := planC_le (p := p) (by omega)
   have hl6 := planTopC_nn p
   have hbl := boss_lim (b := b) (by omega)
   obtain ⟨b1, b2, b3, b4⟩ := small_boss (small_lim hbl)
   obtain ⟨r1, r2, r3, r4⟩ := small_led (btick_small p hbl)
   refine i_laws_FnExactBossTick ?_
   conv => whnf
   refine g 0 2 [] ?_
   conv => whnf
   refine ⟨⟨⟨I, I, I, I, I, I, I, I, I, I, I, I, I⟩, ⟨I, I⟩, I, I⟩, ?_⟩
   refine g 0 0 [] ?_
   conv => whnf
   refine ⟨⟨I, I⟩, ?_⟩
   refine g 14 17 [.call (V.i ((1048576 : Int) - bossSz b)) ([[], []])] ?_
   conv => whnf
   refine ⟨⟨I, I, ⟨⟨I, I, I⟩, I, ⟨⟨I, I, I, I, I, I, I, I, I, I, I, I, I⟩, ⟨I, I⟩, I⟩, ⟨I, I⟩, (by assumption)⟩, I, I⟩, ?_⟩
   refine W.sq ?_
   refine g 17 18 [] ?_
   conv => whnf
   refine ⟨⟨I, I, I⟩, ?_⟩
   refine W.cn ?_
   conv => whnf
   refine ⟨noT (dF (by omega)), fun _ => ?_⟩
   refine W.skip ?_
   refine g 18 22 [.call (V.i ((1048576 : Int) - bossSz b - planSz p)) ([[], []])] ?_
   conv => whnf
   refine ⟨⟨I, I, ⟨⟨I, I, I⟩, I, ⟨⟨I, I⟩, ⟨I, I⟩, I⟩, ⟨I, I⟩, (by assumption)⟩, I, I⟩, ?_⟩
   refine W.sq ?_
   refine g 5 23 [] ?_
   conv => whnf
   refine ⟨⟨I, I, I⟩, ?_⟩
   refine W.cn ?_
   conv => whnf
   refine ⟨noT (dF (by omega)), fun _ => ?_⟩
   refine W.skip ?_
   refine gd 23 29 [[], [.call (bossO b) ([[]])], [], [.call (planO p) ([[]])], [.call (ledO (bTick b p)) ([[], []])], [], []] ?_
   conv => whnf
   refine ⟨⟨I, ⟨⟨I, I⟩, I, ⟨⟨I, I, I, I, I, I, I, I, I, I, I, I, I⟩, I⟩, ⟨I, I⟩, Go.K.c_laws_toBoss _ (by omega)⟩, I, ⟨⟨I, I⟩, I, ⟨⟨I, I⟩, I⟩, ⟨I, I⟩, Go.K.c_laws_toPlan _ (by omega)⟩, ⟨⟨I, I, I⟩, I, ⟨⟨I, I, I, I, I, I, I, I, I, I, I, I, I⟩, ⟨I, I⟩, I⟩, ⟨I, I⟩, Go.K.c_spec_BossTick _ _ (by omega) (by omega)⟩, I, ⟨I, I, I, I, I, I, I, I, I, I, I, I, I, I⟩, I⟩, by kernel_rfl, ?_⟩
   refine g 29 31 [.call (bossO b) ([[]])] ?_
   conv => whnf
   refine ⟨⟨I, ⟨⟨I, I⟩, I, ⟨⟨I, I, I, I, I, I, I, I, I, I, I, I, I⟩, I⟩, ⟨I, I⟩, Go.K.c_laws_toBoss _ (by omega)⟩, I, ⟨I, I, I, I, I, I, I, I, I, I, I, I, I⟩, I⟩, ?_⟩
   refine g 31 33 [.call (planO p) ([[]])] ?_
   conv => whnf
   refine ⟨⟨I, ⟨⟨I, I⟩, I, ⟨⟨I, I⟩, I⟩, ⟨I, I⟩, Go.K.c_laws_toPlan _ (by omega)⟩, I, ⟨I, I⟩, I⟩, ?_⟩
   refine g 33 36 [.call (ledO (bTick b p)) ([[], []])] ?_
   conv => whnf
   refine ⟨⟨I, I, ⟨⟨I, I, I⟩, I, ⟨⟨I, I, I, I, I, I, I, I, I, I, I, I, I⟩, ⟨I, I⟩, I⟩, ⟨I, I⟩, Go.K.c_impl_BossTick _ _ (by omega) (by omega)⟩, I, ⟨I, I, I, I, I, I, I, I, I, I, I, I, I, I⟩, I⟩, ?_⟩
   refine W.sq ?_
   refine g 36 39 [.call (V.b (decide (bTick b p = bTick b p))) ([[], []])] ?_
   conv => whnf
   refine ⟨⟨I, I, ⟨⟨I, I, I⟩, I, ⟨⟨I, I, I, I, I, I, I, I, I, I, I, I, I, I⟩, ⟨I, I, I, I, I, I, I, I, I, I, I, I, I, I⟩, I⟩, ⟨I, I⟩, Go.K.c_laws_eqLed _ _ (by omega)⟩, I, I⟩, ?_⟩
   refine W.cn ?_
   conv => whnf
   refine ⟨noT (notF rfl), fun _ => ?_⟩
   refine W.skip ?_
   refine W.sq ?_
   refine gd 39 44 [[], [], [.call (bossO b) ([[]])], [.call (V.b (decide (b = b))) ([[], []])], []] ?_
   conv => whnf
   refine ⟨⟨I, I, ⟨⟨I, I⟩, I, ⟨⟨I, I, I, I, I, I, I, I, I, I, I, I, I⟩, I⟩, ⟨I, I⟩, Go.K.c_laws_toBoss _ (by omega)⟩, ⟨⟨I, I, I⟩, I, ⟨⟨I, I, I, I, I, I, I, I, I, I, I, I, I⟩, ⟨I, I, I, I, I, I, I, I, I, I, I, I, I⟩, I⟩, ⟨I, I⟩, Go.K.c_laws_eqBoss _ _ (by omega)⟩, I, I⟩, by kernel_rfl, ?_⟩
   refine W.cn ?_
   conv => whnf
   refine ⟨noT (notF rfl), fun _ => ?_⟩
   refine W.skip ?_
   refine W.sq ?_
   refine gd 44 49 [[], [], [.call (planO p) ([[]])], [.call (V.b (decide (p = p))) ([[], []])], []] ?_
   conv => whnf
   refine ⟨⟨I, I, ⟨⟨I, I⟩, I, ⟨⟨I, I⟩, I⟩, ⟨I, I⟩, Go.K.c_laws_toPlan _ (by omega)⟩, ⟨⟨I, I, I⟩, I, ⟨⟨I, I⟩, ⟨I, I⟩, I⟩, ⟨I, I⟩, Go.K.c_laws_eqPlan _ _ (by omega)⟩, I, I⟩, by kernel_rfl, ?_⟩
   refine W.cn ?_
   conv => whnf
   refine ⟨noT (notF rfl), fun _ => ?_⟩
   refine W.skip ?_
   refine g 49 50 [] ?_
   conv => whnf
   refine ⟨⟨I, I⟩, ?_⟩
   refine g 50 53 [.call (V.i ((1 : Int) + bossTopC b)) ([cellsOf (bossO (bossTop (1 : Int) b)), []])] ?_
   conv => whnf
   refine ⟨⟨I, I, ⟨⟨⟨I, I, I, I, I, I, I, I, I, I, I, I, I⟩, I, I⟩, I, ⟨I, ⟨I, I⟩, I⟩, ⟨I, I⟩, Go.K.c_laws_markBoss _ _ (by omega) (by omega) (by omega)⟩, I, I⟩, ?_⟩
   refine g 53 56 [.call (V.i ((1 : Int) + bossTopC b + planTopC p)) ([cellsOf (planO (planTop ((1 : Int) + bossTopC b) p)), []])] ?_
   conv => whnf
   refine ⟨⟨I, I, ⟨⟨⟨I, I⟩, I, I⟩, I, ⟨I, ⟨I, I⟩, I⟩, ⟨I, I⟩, Go.K.c_laws_markPlan _ _ (by omega) (by omega) (by omega)⟩, I, I⟩, ?_⟩
   refine W.sq ?_
   refine g 10 63 [.b (false), .b (false), .b (false), .call (V.b (decide (bTick b p = bTick b p))) ([[], []]), .b (false), .b (false)] ?_
   conv => whnf
   refine ⟨⟨I, I, I, ⟨dF (by omega), I⟩, ⟨dF (by omega), I⟩, ⟨dF (by omega), ⟨I, I, I⟩, I, ⟨⟨I, I, I, I, I, I, I, I, I, I, I, I, I, I⟩, ⟨I, I, I, I, I, I, I, I, I, I, I, I, I, I⟩, I⟩, ⟨I, I⟩, Go.K.c_laws_eqLed _ _ (by omega)⟩, ⟨dF (by omega), I⟩, dF (by omega), I⟩, ?_⟩
   refine W.cn ?_
   conv => whnf
   refine ⟨noT (by assumption), fun _ => ?_⟩
   refine W.skip ?_
   refine g 7 9 [] ?_
   conv => whnf
   refine ⟨⟨I, I⟩, ?_⟩
   refine g 63 67 [.call (V.i ((1 : Int) + ledTopC (bTick b p))) ([cellsOf (ledO (ledTop (1 : Int) (bTick b p))), []])] ?_
   conv => whnf
   refine ⟨⟨I, I, ⟨⟨⟨I, I, I, I, I, I, I, I, I, I, I, I, I, I⟩, I, I⟩, I, ⟨I, ⟨I, I⟩, I⟩, ⟨I, I⟩, Go.K.c_laws_markLed _ _ (by omega) (by omega) (by omega)⟩, I, I⟩, ?_⟩
   refine g 0 0 [] ?_
   conv => whnf
   refine ⟨⟨I, I⟩, ?_⟩
   refine g 67 70 [.call (V.i ((1 : Int) + ledTopC (bTick b p))) ([[], []])] ?_
   conv => whnf
   refine ⟨⟨I, I, ⟨⟨I, I, I⟩, I, ⟨⟨I, I, I, I, I, I, I, I, I, I, I, I, I, I⟩, ⟨I, I⟩, I⟩, ⟨I, I⟩, Go.K.c_laws_heldLed _ _ (by omega) (by omega) (by omega)⟩, I, I⟩, ?_⟩
   refine W.sq ?_
   refine g 70 71 [] ?_
   conv => whnf
   refine ⟨⟨I, I, I⟩, ?_⟩
   refine W.cn ?_
   conv => whnf
   refine ⟨noT (dF (by omega)), fun _ => ?_⟩
   refine W.skip ?_
   refine W.sq ?_
   refine g 71 74 [] ?_
   conv => whnf
   refine ⟨⟨I, I, I, I⟩, ?_⟩
   refine W.cn ?_
   conv => whnf
   refine ⟨noT (notF (by omega)), fun _ => ?_⟩
   refine W.skip ?_
   refine gd 74 80 [[], [.call (bossO b) ([[]])], [], [.call (planO p) ([[]])], [.call (ledO (bTick b p)) ([[], []])], [], []] ?_
   conv => whnf
   refine ⟨⟨I, ⟨⟨I, I⟩, I, ⟨⟨I, I, I, I, I, I, I, I, I, I, I, I, I⟩, I⟩, ⟨I, I⟩, Go.K.c_laws_toBoss _ (by omega)⟩, I, ⟨⟨I, I⟩, I, ⟨⟨I, I⟩, I⟩, ⟨I, I⟩, Go.K.c_laws_toPlan _ (by omega)⟩, ⟨⟨I, I, I⟩, I, ⟨⟨I, I, I, I, I, I, I, I, I, I, I, I, I⟩, ⟨I, I⟩, I⟩, ⟨I, I⟩, Go.K.c_impl_BossTick _ _ (by omega) (by omega)⟩, I, ⟨I, I, I, I, I, I, I, I, I, I, I, I, I, I⟩, I⟩, by kernel_rfl, ?_⟩
   refine W.sq ?_
   refine g 13 83 [.call (V.b (decide (bTick b p = bTick b p))) ([[], []])] ?_
   conv => whnf
   refine ⟨⟨I, I, ⟨⟨I, I, I⟩, I, ⟨⟨I, I, I, I, I, I, I, I, I, I, I, I, I, I⟩, ⟨I, I, I, I, I, I, I, I, I, I, I, I, I, I⟩, I⟩, ⟨I, I⟩, Go.K.c_laws_eqLed _ _ (by omega)⟩, I, I⟩, ?_⟩
   refine W.cn ?_
   conv => whnf
   refine ⟨noT (by assumption), fun _ => ?_⟩
   refine W.skip ?_
   refine g 2 4 [] ?_
   conv => whnf
   refine ⟨⟨I, I⟩, ?_⟩
   refine g 83 87 [.call (V.i ((1 : Int) + ledTopC (bTick b p))) ([[], []])] ?_
   conv => whnf
   refine ⟨⟨I, I, ⟨⟨I, I, I⟩, I, ⟨⟨I, I, I, I, I, I, I, I, I, I, I, I, I, I⟩, ⟨I, I⟩, I⟩, ⟨I, I⟩, Go.K.c_laws_heldLed _ _ (by omega) (by omega) (by omega)⟩, I, I⟩, ?_⟩
   refine W.sq ?_
   refine g 6 10 [] ?_
   conv => whnf
   refine ⟨⟨I, I, I⟩, ?_⟩
   refine W.cn ?_
   conv => whnf
   refine ⟨noT (by assumption), fun _ => ?_⟩
   refine W.skip ?_
   refine W.sq ?_
   refine g 11 91 [] ?_
   conv => whnf
   refine ⟨⟨I, I, I, I⟩, ?_⟩
   refine W.cn ?_
   conv => whnf
   refine ⟨noT (by assumption), fun _ => ?_⟩
   refine W.skip ?_
   refine g 91 92 [] ?_
   conv => whnf
   refine ⟨⟨I, I⟩, ?_⟩
   refine W.ret ?_
   refine EndsW.rt ?_
   conv => whnf
   refine ⟨⟨I, I, I⟩, ?_, rfl⟩
   rfl
end Go.K
end

/- Contracts of functions of the program: what each call answers. -/
import Derived.Test.YtclkoehdmpcggaaParte
section
set_option linter.unusedVariables false
set_option linter.unusedSimpArgs false
set_option maxHeartbeats 8000000
set_option maxRecDepth 20000
open Go Go.Tm Go.Proofs
namespace Go.K
theorem once_step {b : Boss} {k : Nat} {j2 : Job} {l : Int} (hc : l ∉ (b.jobs.take k).map Job.lease) (h : b.jobs[k]? = some j2) (hn : ¬ j2.lease = l) : l ∉ (b.jobs.take (k + 1)).map Job.lease := fun e => by
 rw [List.take_add_one, h, List.map_append] at e
 rcases List.mem_append.1 e with e | e
 ·exact hc e
 ·simp at e; exact hn e.symm
theorem once_no {b : Boss} {k n : Nat} {j2 : Job} {l : Int} (hk : k < n) (h : b.jobs[k]? = some j2) (hn : j2.lease = l) : l ∈ (b.jobs.take n).map Job.lease :=
 List.mem_map.2 ⟨j2, List.mem_of_getElem? (i := k) (by rw [List.getElem?_take, if_pos hk]; exact h), hn⟩
theorem jobs_no2 {b : Boss} {ts : List Task} {n : Nat} {j : Job} (hj : b.jobs[n]? = some j) (h : ¬ jobOk b ts n j) : ¬ jobsTo b ts b.jobs.length := fun q => h (q n j (List.getElem?_eq_some_iff.1 hj).1 hj)
noncomputable instance (b : Boss) (ts : List Task) (n : Nat) : Decidable (jobsTo b ts n) := Classical.propDecidable _
theorem c_spec_l5JobsOk (b : Boss) (p : Plan) (hc0 : checkPlan p.tasks = 0) (f1 : 1 ≤ b.epoch) (f2 : b.epoch ≤ 300) (f3 : b.results.length = p.tasks.length) (f4 : b.jobs.length = p.tasks.length) (f7 : 0 ≤ b.now ∧ b.now ≤ 1000000) (f8 : 0 ≤ b.given ∧ b.given ≤ 1000000) : F n_spec_l5JobsOk [.val (bossR b), .val (planR p)] (.b (decide (jobsTo b p.tasks b.jobs.length))) [[], []] := by
 have hpl := (chk_inv hc0).1
 refine i_spec_l5JobsOk ?_
 conv => whnf
 refine g 0 2 [] ?_
 conv => whnf
 refine ⟨⟨⟨I, I, I, I, I, I, I, I, I, I, I, I, I⟩, ⟨I, I⟩, I, I⟩, ?_⟩
 refine g 11 13 [.i (Boss.epoch b - (1 : Int)), .i ((Boss.epoch b - (1 : Int)) * (1000000 : Int))] ?_
 conv => whnf
 refine ⟨⟨I, I, w64 (by omega) (by omega), w64 (by omega) (by omega), I, I⟩, ?_⟩
 refine W.sq ?_
 refine g 9 10 [] ?_
 conv => whnf
 refine ⟨⟨I, I⟩, ?_⟩
 refine W.blk ?_
 refine W.lp (fun s (n : Nat) => ⟨[(2, s.s 2), (3, s.s 3), (5, s.s 5), (6, .i n), (10, s.s 10)], [(2, [s.c 2 0, s.c 2 1, s.c 2 2, s.c 2 3, s.c 2 4, s.c 2 5, s.c 2 6, s.c 2 7, s.c 2 8, s.c 2 9, s.c 2 10, s.c 2 11]), (3, [s.c 3 0])], []⟩) (fun (n : Nat) => n ≤ b.jobs.length ∧ jobsTo b p.tasks n) (fun (n : Nat) => b.jobs.length - n) (0) [some 2, some 3] [] ⟨rfl, ⟨rfl, rfl, rfl, rfl, rfl, I⟩, ⟨⟨rfl, ⟨rfl, ⟨rfl, ⟨rfl, ⟨rfl, ⟨rfl, ⟨rfl, ⟨rfl, ⟨rfl, ⟨rfl, ⟨rfl, ⟨rfl, ⟨rfl, I⟩⟩⟩⟩⟩⟩⟩⟩⟩⟩⟩⟩⟩, ⟨⟨rfl, ⟨rfl, I⟩⟩, I⟩⟩, I⟩ ?_ ?_
 ·exact ⟨Nat.zero_le _, fun m j hm => by omega⟩
 rintro n1 ⟨hn1, hc1⟩
 by_cases hj2 : n1 < b.jobs.length
 ·obtain ⟨j, hj1⟩ := some_at hj2
  obtain ⟨y, hy0⟩ := some_at (xs := b.results) (n := n1) (by omega)
  obtain ⟨t, ht0⟩ := some_at (xs := p.tasks) (n := n1) (by omega)
  obtain ⟨_, _, a3, a4⟩ := chk_task hc0 ht0
  have crd := c_spec_l4Deps p b.results (n1 : Int) (t := t) (by omega) (by rw [Int.toNat_natCast]; exact ht0) (fun d hd => by have := a4 d hd; omega) (by omega)
  by_cases hz : j.lease = 0
  ·by_cases hz2 : j.worker = 0 ∧ j.til = 0
   ·have hjo : jobOk b p.tasks n1 j := ⟨fun _ => hz2, fun e => absurd hz e⟩
    obtain ⟨hz3, hz4⟩ := hz2
    conv => whnf
    refine W.sq ?_
    refine g 13 17 [] ?_
    conv => whnf
    refine ⟨⟨I, I, I, I, I, I⟩, ?_⟩
    refine W.cn ?_
    conv => whnf
    refine ⟨fun _ => ?_, noF (by simp_all)⟩
    refine W.skip ?_
    refine W.sq ?_
    refine W.blk ?_
    refine g 17 25 [.x (jobT j)] ?_
    conv => whnf
    refine ⟨⟨I, I, I, ⟨(by omega), ixl (by assumption)⟩, I, I, ⟨I, I, I, I⟩, I⟩, ?_⟩
    refine W.sq ?_
    refine g 25 27 [] ?_
    conv => whnf
    refine ⟨⟨I, I, I, I⟩, ?_⟩
    refine W.cn ?_
    conv => whnf
    refine ⟨fun _ => ?_, noF (dT (by omega))⟩
    refine W.sq ?_
    refine g 31 35 [.b (false), .b (false), .b (false), .b (false)] ?_
    conv => whnf
    refine ⟨⟨I, I, I, I, ⟨notF (by omega), I⟩, ⟨notF (by omega), I⟩, ⟨notF (by omega), I⟩, notF (by omega), I⟩, ?_⟩
    refine W.cn ?_
    conv => whnf
    refine ⟨noT (notF (by omega)), fun _ => ?_⟩
    refine W.skip ?_
    refine W.exit ?_
    refine rg [.i ((↑n1 : Int) + (1 : Int))] ?_
    conv => whnf
    refine ⟨⟨I, w64 (by omega) (by omega), I, I⟩, ?_⟩
    refine ⟨n1 + 1, [some 2, some 3], [], ⟨rfl, ⟨rfl, rfl, rfl, rfl, rfl, I⟩, ⟨⟨rfl, ⟨rfl, ⟨rfl, ⟨rfl, ⟨rfl, ⟨rfl, ⟨rfl, ⟨rfl, ⟨rfl, ⟨rfl, ⟨rfl, ⟨rfl, ⟨rfl, I⟩⟩⟩⟩⟩⟩⟩⟩⟩⟩⟩⟩⟩, ⟨⟨rfl, ⟨rfl, I⟩⟩, I⟩⟩, I⟩, ?_, ?_⟩
    rotate_left 1
    (dsimp only; omega)
    dsimp only
    exact ⟨by omega, jobs_step hc1 hj1 hjo⟩
   ·conv => whnf
    refine W.sq ?_
    refine g 13 17 [] ?_
    conv => whnf
    refine ⟨⟨I, I, I, I, I, I⟩, ?_⟩
    refine W.cn ?_
    conv => whnf
    refine ⟨fun _ => ?_, noF (by simp_all)⟩
    refine W.skip ?_
    refine W.sq ?_
    refine W.blk ?_
    refine g 17 25 [.x (jobT j)] ?_
    conv => whnf
    refine ⟨⟨I, I, I, ⟨(by omega), ixl (by assumption)⟩, I, I, ⟨I, I, I, I⟩, I⟩, ?_⟩
    refine W.sq ?_
    refine g 25 27 [] ?_
    conv => whnf
    refine ⟨⟨I, I, I, I⟩, ?_⟩
    refine W.cn ?_
    conv => whnf
    refine ⟨fun _ => ?_, noF (dT (by omega))⟩
    refine W.sq ?_
    by_cases h1 : Job.worker j = (0 : Int)
    refine g 31 35 [.b (false), .b (false), .b (false), .b (false)] ?_
    conv => whnf
    refine ⟨⟨I, I, I, I, ⟨notF (by omega), I⟩, ⟨notF (by omega), I⟩, ⟨notF (by omega), I⟩, notF (by omega), I⟩, ?_⟩
    refine W.cn ?_
    conv => whnf
    refine ⟨fun _ => ?_, noF (notT (by omega))⟩
    refine g 27 30 [] ?_
    conv => whnf
    refine ⟨⟨I, I⟩, ?_⟩
    refine W.ret ?_
    refine EndsW.rt ?_
    conv => whnf
    refine ⟨⟨I, I, I⟩, ?_, rfl⟩
    rotate_left 1
    refine g 31 35 [.b (true), .b (true), .b (true), .b (true)] ?_
    conv => whnf
    refine ⟨⟨I, I, I, I, notT (by omega), notT (by omega), notT (by omega), notT (by omega), I⟩, ?_⟩
    refine W.cn ?_
    conv => whnf
    refine ⟨fun _ => ?_, noF (rfl)⟩
    refine g 27 30 [] ?_
    conv => whnf
    refine ⟨⟨I, I⟩, ?_⟩
    refine W.ret ?_
    refine EndsW.rt ?_
    conv => whnf
    refine ⟨⟨I, I, I⟩, ?_, rfl⟩
    rotate_left 1
    all_goals exact vbf (jobs_no2 hj1 (fun q => by have := q.1 hz; omega))
  ·by_cases hA : (b.epoch - 1) * 1000000 + 1 ≤ j.lease ∧ j.lease ≤ (b.epoch - 1) * 1000000 + b.given
   ·by_cases hC : 1 ≤ j.worker ∧ j.worker ≤ b.workers
    ·by_cases hD : b.now + 1 ≤ j.til ∧ j.til ≤ b.now + 12
     ·by_cases hE : y = emp
      ·by_cases hF : readyB b.results t.deps
       ·rw [decide_eq_true hF] at crd
        conv => whnf
        refine W.sq ?_
        refine g 13 17 [] ?_
        conv => whnf
        refine ⟨⟨I, I, I, I, I, I⟩, ?_⟩
        refine W.cn ?_
        conv => whnf
        refine ⟨fun _ => ?_, noF (by simp_all)⟩
        refine W.skip ?_
        refine W.sq ?_
        refine W.blk ?_
        refine g 17 25 [.x (jobT j)] ?_
        conv => whnf
        refine ⟨⟨I, I, I, ⟨(by omega), ixl (by assumption)⟩, I, I, ⟨I, I, I, I⟩, I⟩, ?_⟩
        refine W.sq ?_
        refine g 25 27 [] ?_
        conv => whnf
        refine ⟨⟨I, I, I, I⟩, ?_⟩
        refine W.cn ?_
        conv => whnf
        refine ⟨noT (dF (by omega)), fun _ => ?_⟩
        refine W.skip ?_
        refine W.sq ?_
        refine g 27 81 [.i ((Boss.epoch b - (1 : Int)) * (1000000 : Int) + (1 : Int)), .i ((Boss.epoch b - (1 : Int)) * (1000000 : Int) + Boss.given b), .call (V.b (decide ((Boss.epoch b - (1 : Int)) * (1000000 : Int) + (1 : Int) ≤ Job.lease j ∧ Job.lease j ≤ (Boss.epoch b - (1 : Int)) * (1000000 : Int) + Boss.given b))) ([[], [], []]), .b (false), .b (false), .b (false), .b (false), .b (false), .call (V.b (decide ((1 : Int) ≤ Job.worker j ∧ Job.worker j ≤ Boss.workers b))) ([[], [], []]), .b (false), .b (false), .b (false), .b (false), .b (false), .b (false), .b (false), .i (Boss.now b + (1 : Int)), .b (false), .b (false), .b (false), .i (Boss.now b + (12 : Int)), .b (false), .call (V.b (decide (Boss.now b + (1 : Int) ≤ Job.til j ∧ Job.til j ≤ Boss.now b + (12 : Int)))) ([[], [], []]), .b (false), .b (false), .b (false), .b (false), .b (false), .b (false), .x (strT y), .b (false), .b (false), .b (false), .b (false), .b (false), .b (false), .b (false), .b (false), .call (V.b true) ([[], [], []]), .b (false), .b (false)] ?_
        conv => whnf
        refine ⟨⟨I, I, I, w64 (by omega) (by omega), I, I, I, w64 (by omega) (by omega), ⟨⟨I, I, I, I⟩, I, ⟨⟨I, I⟩, ⟨I, I⟩, ⟨I, I⟩, I⟩, ⟨I, I⟩, Go.K.c_spec_l2In _ _ _⟩, I, I, ⟨notF (by omega), I⟩, ⟨notF (by omega), I⟩, ⟨notF (by omega), I⟩, ⟨notF (by omega), I⟩, ⟨notF (by omega), ⟨I, I, I, I⟩, I, ⟨⟨I, I⟩, ⟨I, I⟩, ⟨I, I⟩, I⟩, ⟨I, I⟩, Go.K.c_spec_l2In _ _ _⟩, ⟨notF (by omega), I⟩, notF (by omega), I, ⟨notF (by omega), I⟩, ⟨notF (by omega), I⟩, ⟨notF (by omega), I⟩, ⟨notF (by omega), I⟩, ⟨notF (by omega), w64 (by omega) (by omega)⟩, ⟨notF (by omega), I⟩, ⟨notF (by omega), I⟩, ⟨notF (by omega), w64 (by omega) (by omega)⟩, ⟨notF (by omega), ⟨I, I, I, I⟩, I, ⟨⟨I, I⟩, ⟨I, I⟩, ⟨I, I⟩, I⟩, ⟨I, I⟩, Go.K.c_spec_l2In _ _ _⟩, ⟨notF (by omega), I⟩, notF (by omega), I, ⟨notF (by omega), I⟩, ⟨notF (by omega), I⟩, ⟨notF (by omega), I⟩, ⟨notF (by omega), (by omega), ixl (by assumption)⟩, ⟨notF (by omega), I⟩, ⟨notF (by omega), I⟩, notF (by omega), I, ⟨notF (by omega), I⟩, ⟨notF (by omega), I⟩, ⟨notF (by omega), I⟩, ⟨notF (by omega), I⟩, ⟨notF (by omega), ⟨I, I, I, I⟩, I, ⟨⟨I, I⟩, ⟨I, I⟩, ⟨I, I⟩, I⟩, ⟨I, I⟩, (by assumption)⟩, ⟨notF (by omega), I⟩, notF (by omega), I⟩, ?_⟩
        refine W.cn ?_
        conv => whnf
        refine ⟨noT (rfl), fun _ => ?_⟩
        refine W.skip ?_
        refine g 81 82 [] ?_
        conv => whnf
        refine ⟨⟨I, I⟩, ?_⟩
        refine W.blk ?_
        refine W.lp (fun s (k : Nat) => ⟨[(2, s.s 2), (3, s.s 3), (5, s.s 5), (6, s.s 6), (7, s.s 7), (8, .i k), (10, s.s 10)], [(2, [s.c 2 0, s.c 2 1, s.c 2 2, s.c 2 3, s.c 2 4, s.c 2 5, s.c 2 6, s.c 2 7, s.c 2 8, s.c 2 9, s.c 2 10, s.c 2 11]), (3, [s.c 3 0]), (7, [s.c 7 0, s.c 7 1, s.c 7 2])], []⟩) (fun (k : Nat) => k ≤ n1 ∧ j.lease ∉ (b.jobs.take k).map Job.lease) (fun (k : Nat) => n1 - k) (0) [some 2, some 3, some 7] [] ⟨rfl, ⟨rfl, rfl, rfl, rfl, rfl, rfl, rfl, I⟩, ⟨⟨rfl, ⟨rfl, ⟨rfl, ⟨rfl, ⟨rfl, ⟨rfl, ⟨rfl, ⟨rfl, ⟨rfl, ⟨rfl, ⟨rfl, ⟨rfl, ⟨rfl, I⟩⟩⟩⟩⟩⟩⟩⟩⟩⟩⟩⟩⟩, ⟨⟨rfl, ⟨rfl, I⟩⟩, ⟨⟨rfl, ⟨rfl, ⟨rfl, ⟨rfl, I⟩⟩⟩⟩, I⟩⟩⟩, I⟩ (by simp) ?_
        rintro k ⟨hk, hB⟩
        by_cases hk2 : k < n1
        ·obtain ⟨j2, hj3⟩ := some_at (xs := b.jobs) (n := k) (by omega)
         by_cases hq : j2.lease = j.lease
         ·conv => whnf
          refine W.sq ?_
          refine g 82 84 [] ?_
          conv => whnf
          refine ⟨⟨I, I, I, I⟩, ?_⟩
          refine W.cn ?_
          conv => whnf
          refine ⟨fun _ => ?_, noF (dT (by omega))⟩
          refine W.skip ?_
          refine W.sq ?_
          refine W.blk ?_
          refine gd 84 95 [[], [], [], [.x (jobT j2)], [], [], [], [], []] ?_
          conv => whnf
          refine ⟨⟨I, I, I, ⟨(by omega), ixl (by assumption)⟩, I, I, I, I, I, I⟩, by kernel_rfl, ?_⟩
          refine W.cn ?_
          conv => whnf
          refine ⟨fun _ => ?_, noF (dT (by omega))⟩
          refine g 95 96 [] ?_
          conv => whnf
          refine ⟨⟨I, I⟩, ?_⟩
          refine W.ret ?_
          refine EndsW.rt ?_
          conv => whnf
          refine ⟨⟨I, I, I⟩, ?_, rfl⟩
          exact vbf (jobs_no2 hj1 (fun q => (q.2 hz).once (once_no hk2 hj3 hq)))
         ·conv => whnf
          refine W.sq ?_
          refine g 82 84 [] ?_
          conv => whnf
          refine ⟨⟨I, I, I, I⟩, ?_⟩
          refine W.cn ?_
          conv => whnf
          refine ⟨fun _ => ?_, noF (dT (by omega))⟩
          refine W.skip ?_
          refine W.sq ?_
          refine W.blk ?_
          refine gd 84 95 [[], [], [], [.x (jobT j2)], [], [], [], [], []] ?_
          conv => whnf
          refine ⟨⟨I, I, I, ⟨(by omega), ixl (by assumption)⟩, I, I, I, I, I, I⟩, by kernel_rfl, ?_⟩
          refine W.cn ?_
          conv => whnf
          refine ⟨noT (dF (by omega)), fun _ => ?_⟩
          refine W.skip ?_
          refine rg [.i ((↑k : Int) + (1 : Int))] ?_
          conv => whnf
          refine ⟨⟨I, w64 (by omega) (by omega), I, I⟩, ?_⟩
          refine ⟨k + 1, [some 2, some 3, some 7], [], ⟨rfl, ⟨rfl, rfl, rfl, rfl, rfl, rfl, rfl, I⟩, ⟨⟨rfl, ⟨rfl, ⟨rfl, ⟨rfl, ⟨rfl, ⟨rfl, ⟨rfl, ⟨rfl, ⟨rfl, ⟨rfl, ⟨rfl, ⟨rfl, ⟨rfl, I⟩⟩⟩⟩⟩⟩⟩⟩⟩⟩⟩⟩⟩, ⟨⟨rfl, ⟨rfl, I⟩⟩, ⟨⟨rfl, ⟨rfl, ⟨rfl, ⟨rfl, I⟩⟩⟩⟩, I⟩⟩⟩, I⟩, ?_, ?_⟩
          rotate_left 1
          (dsimp only; omega)
          dsimp only
          exact ⟨by omega, once_step hB hj3 hq⟩
        ·rw [show k = n1 by omega] at hB
         conv => whnf
         refine W.sq ?_
         refine g 82 84 [] ?_
         conv => whnf
         refine ⟨⟨I, I, I, I⟩, ?_⟩
         refine W.cn ?_
         conv => whnf
         refine ⟨noT (dF (by omega)), fun _ => ?_⟩
         refine W.exit ?_
         refine rg [.i ((↑n1 : Int) + (1 : Int))] ?_
         conv => whnf
         refine ⟨⟨I, w64 (by omega) (by omega), I, I⟩, ?_⟩
         refine ⟨n1 + 1, [some 2, some 3], [], ⟨rfl, ⟨rfl, rfl, rfl, rfl, rfl, I⟩, ⟨⟨rfl, ⟨rfl, ⟨rfl, ⟨rfl, ⟨rfl, ⟨rfl, ⟨rfl, ⟨rfl, ⟨rfl, ⟨rfl, ⟨rfl, ⟨rfl, ⟨rfl, I⟩⟩⟩⟩⟩⟩⟩⟩⟩⟩⟩⟩⟩, ⟨⟨rfl, ⟨rfl, I⟩⟩, I⟩⟩, I⟩, ?_, ?_⟩
         rotate_left 1
         (dsimp only; omega)
         dsimp only
         exact ⟨by omega, jobs_step hc1 hj1 ⟨fun e => absurd e hz, fun _ => ⟨hA, hC, hD, by rw [at_get hy0]; exact hE, by rw [deps_get ht0]; exact hF, hB⟩⟩⟩
       ·rw [decide_eq_false hF] at crd
        conv => whnf
        refine W.sq ?_
        refine g 13 17 [] ?_
        conv => whnf
        refine ⟨⟨I, I, I, I, I, I⟩, ?_⟩
        refine W.cn ?_
        conv => whnf
        refine ⟨fun _ => ?_, noF (by simp_all)⟩
        refine W.skip ?_
        refine W.sq ?_
        refine W.blk ?_
        refine g 17 25 [.x (jobT j)] ?_
        conv => whnf
        refine ⟨⟨I, I, I, ⟨(by omega), ixl (by assumption)⟩, I, I, ⟨I, I, I, I⟩, I⟩, ?_⟩
        refine W.sq ?_
        refine g 25 27 [] ?_
        conv => whnf
        refine ⟨⟨I, I, I, I⟩, ?_⟩
        refine W.cn ?_
        conv => whnf
        refine ⟨noT (dF (by omega)), fun _ => ?_⟩
        refine W.skip ?_
        refine W.sq ?_
        refine g 27 81 [.i ((Boss.epoch b - (1 : Int)) * (1000000 : Int) + (1 : Int)), .i ((Boss.epoch b - (1 : Int)) * (1000000 : Int) + Boss.given b), .call (V.b (decide ((Boss.epoch b - (1 : Int)) * (1000000 : Int) + (1 : Int) ≤ Job.lease j ∧ Job.lease j ≤ (Boss.epoch b - (1 : Int)) * (1000000 : Int) + Boss.given b))) ([[], [], []]), .b (false), .b (false), .b (false), .b (false), .b (false), .call (V.b (decide ((1 : Int) ≤ Job.worker j ∧ Job.worker j ≤ Boss.workers b))) ([[], [], []]), .b (false), .b (false), .b (false), .b (false), .b (false), .b (false), .b (false), .i (Boss.now b + (1 : Int)), .b (false), .b (false), .b (false), .i (Boss.now b + (12 : Int)), .b (false), .call (V.b (decide (Boss.now b + (1 : Int) ≤ Job.til j ∧ Job.til j ≤ Boss.now b + (12 : Int)))) ([[], [], []]), .b (false), .b (false), .b (false), .b (false), .b (false), .b (false), .x (strT y), .b (false), .b (false), .b (false), .b (false), .b (false), .b (false), .b (false), .b (false), .call (V.b false) ([[], [], []]), .b (false), .b (false)] ?_
        conv => whnf
        refine ⟨⟨I, I, I, w64 (by omega) (by omega), I, I, I, w64 (by omega) (by omega), ⟨⟨I, I, I, I⟩, I, ⟨⟨I, I⟩, ⟨I, I⟩, ⟨I, I⟩, I⟩, ⟨I, I⟩, Go.K.c_spec_l2In _ _ _⟩, I, I, ⟨notF (by omega), I⟩, ⟨notF (by omega), I⟩, ⟨notF (by omega), I⟩, ⟨notF (by omega), I⟩, ⟨notF (by omega), ⟨I, I, I, I⟩, I, ⟨⟨I, I⟩, ⟨I, I⟩, ⟨I, I⟩, I⟩, ⟨I, I⟩, Go.K.c_spec_l2In _ _ _⟩, ⟨notF (by omega), I⟩, notF (by omega), I, ⟨notF (by omega), I⟩, ⟨notF (by omega), I⟩, ⟨notF (by omega), I⟩, ⟨notF (by omega), I⟩, ⟨notF (by omega), w64 (by omega) (by omega)⟩, ⟨notF (by omega), I⟩, ⟨notF (by omega), I⟩, ⟨notF (by omega), w64 (by omega) (by omega)⟩, ⟨notF (by omega), ⟨I, I, I, I⟩, I, ⟨⟨I, I⟩, ⟨I, I⟩, ⟨I, I⟩, I⟩, ⟨I, I⟩, Go.K.c_spec_l2In _ _ _⟩, ⟨notF (by omega), I⟩, notF (by omega), I, ⟨notF (by omega), I⟩, ⟨notF (by omega), I⟩, ⟨notF (by omega), I⟩, ⟨notF (by omega), (by omega), ixl (by assumption)⟩, ⟨notF (by omega), I⟩, ⟨notF (by omega), I⟩, notF (by omega), I, ⟨notF (by omega), I⟩, ⟨notF (by omega), I⟩, ⟨notF (by omega), I⟩, ⟨notF (by omega), I⟩, ⟨notF (by omega), ⟨I, I, I, I⟩, I, ⟨⟨I, I⟩, ⟨I, I⟩, ⟨I, I⟩, I⟩, ⟨I, I⟩, (by assumption)⟩, ⟨notF (by omega), I⟩, notF (by omega), I⟩, ?_⟩
        refine W.cn ?_
        conv => whnf
        refine ⟨fun _ => ?_, noF (rfl)⟩
        refine g 81 82 [] ?_
        conv => whnf
        refine ⟨⟨I, I⟩, ?_⟩
        refine W.ret ?_
        refine EndsW.rt ?_
        conv => whnf
        refine ⟨⟨I, I, I⟩, ?_, rfl⟩
        exact vbf (jobs_no2 hj1 (fun q => hF (by have := (q.2 hz).ready; rw [deps_get ht0] at this; exact this)))
      ·conv => whnf
       refine W.sq ?_
       refine g 13 17 [] ?_
       conv => whnf
       refine ⟨⟨I, I, I, I, I, I⟩, ?_⟩
       refine W.cn ?_
       conv => whnf
       refine ⟨fun _ => ?_, noF (by simp_all)⟩
       refine W.skip ?_
       refine W.sq ?_
       refine W.blk ?_
       refine g 17 25 [.x (jobT j)] ?_
       conv => whnf
       refine ⟨⟨I, I, I, ⟨(by omega), ixl (by assumption)⟩, I, I, ⟨I, I, I, I⟩, I⟩, ?_⟩
       refine W.sq ?_
       refine g 25 27 [] ?_
       conv => whnf
       refine ⟨⟨I, I, I, I⟩, ?_⟩
       refine W.cn ?_
       conv => whnf
       refine ⟨noT (dF (by omega)), fun _ => ?_⟩
       refine W.skip ?_
       refine W.sq ?_
       refine g 27 81 [.i ((Boss.epoch b - (1 : Int)) * (1000000 : Int) + (1 : Int)), .i ((Boss.epoch b - (1 : Int)) * (1000000 : Int) + Boss.given b), .call (V.b (decide ((Boss.epoch b - (1 : Int)) * (1000000 : Int) + (1 : Int) ≤ Job.lease j ∧ Job.lease j ≤ (Boss.epoch b - (1 : Int)) * (1000000 : Int) + Boss.given b))) ([[], [], []]), .b (false), .b (false), .b (false), .b (false), .b (false), .call (V.b (decide ((1 : Int) ≤ Job.worker j ∧ Job.worker j ≤ Boss.workers b))) ([[], [], []]), .b (false), .b (false), .b (false), .b (false), .b (false), .b (false), .b (false), .i (Boss.now b + (1 : Int)), .b (false), .b (false), .b (false), .i (Boss.now b + (12 : Int)), .b (false), .call (V.b (decide (Boss.now b + (1 : Int) ≤ Job.til j ∧ Job.til j ≤ Boss.now b + (12 : Int)))) ([[], [], []]), .b (false), .b (false), .b (false), .b (false), .b (false), .b (false), .x (strT y), .b (false), .b (false), .b (false), .b (true), .b (true), .b (true), .b (true), .b (true), .b (true), .b (true)] ?_
       conv => whnf
       refine ⟨⟨I, I, I, w64 (by omega) (by omega), I, I, I, w64 (by omega) (by omega), ⟨⟨I, I, I, I⟩, I, ⟨⟨I, I⟩, ⟨I, I⟩, ⟨I, I⟩, I⟩, ⟨I, I⟩, Go.K.c_spec_l2In _ _ _⟩, I, I, ⟨notF (by omega), I⟩, ⟨notF (by omega), I⟩, ⟨notF (by omega), I⟩, ⟨notF (by omega), I⟩, ⟨notF (by omega), ⟨I, I, I, I⟩, I, ⟨⟨I, I⟩, ⟨I, I⟩, ⟨I, I⟩, I⟩, ⟨I, I⟩, Go.K.c_spec_l2In _ _ _⟩, ⟨notF (by omega), I⟩, notF (by omega), I, ⟨notF (by omega), I⟩, ⟨notF (by omega), I⟩, ⟨notF (by omega), I⟩, ⟨notF (by omega), I⟩, ⟨notF (by omega), w64 (by omega) (by omega)⟩, ⟨notF (by omega), I⟩, ⟨notF (by omega), I⟩, ⟨notF (by omega), w64 (by omega) (by omega)⟩, ⟨notF (by omega), ⟨I, I, I, I⟩, I, ⟨⟨I, I⟩, ⟨I, I⟩, ⟨I, I⟩, I⟩, ⟨I, I⟩, Go.K.c_spec_l2In _ _ _⟩, ⟨notF (by omega), I⟩, notF (by omega), I, ⟨notF (by omega), I⟩, ⟨notF (by omega), I⟩, ⟨notF (by omega), I⟩, ⟨notF (by omega), (by omega), ixl (by assumption)⟩, ⟨notF (by omega), I⟩, ⟨notF (by omega), I⟩, notF (by omega), I, notT (by omega), notT (by omega), notT (by omega), notT (by omega), notT (by omega), notT (by omega), notT (by omega), I⟩, ?_⟩
       refine W.cn ?_
       conv => whnf
       refine ⟨fun _ => ?_, noF (rfl)⟩
       refine g 81 82 [] ?_
       conv => whnf
       refine ⟨⟨I, I⟩, ?_⟩
       refine W.ret ?_
       refine EndsW.rt ?_
       conv => whnf
       refine ⟨⟨I, I, I⟩, ?_, rfl⟩
       exact vbf (jobs_no2 hj1 (fun q => hE (by have := (q.2 hz).res; rw [at_get hy0] at this; exact this)))
     ·conv => whnf
      refine W.sq ?_
      refine g 13 17 [] ?_
      conv => whnf
      refine ⟨⟨I, I, I, I, I, I⟩, ?_⟩
      refine W.cn ?_
      conv => whnf
      refine ⟨fun _ => ?_, noF (by simp_all)⟩
      refine W.skip ?_
      refine W.sq ?_
      refine W.blk ?_
      refine g 17 25 [.x (jobT j)] ?_
      conv => whnf
      refine ⟨⟨I, I, I, ⟨(by omega), ixl (by assumption)⟩, I, I, ⟨I, I, I, I⟩, I⟩, ?_⟩
      refine W.sq ?_
      refine g 25 27 [] ?_
      conv => whnf
      refine ⟨⟨I, I, I, I⟩, ?_⟩
      refine W.cn ?_
      conv => whnf
      refine ⟨noT (dF (by omega)), fun _ => ?_⟩
      refine W.skip ?_
      refine W.sq ?_
      refine g 27 81 [.i ((Boss.epoch b - (1 : Int)) * (1000000 : Int) + (1 : Int)), .i ((Boss.epoch b - (1 : Int)) * (1000000 : Int) + Boss.given b), .call (V.b (decide ((Boss.epoch b - (1 : Int)) * (1000000 : Int) + (1 : Int) ≤ Job.lease j ∧ Job.lease j ≤ (Boss.epoch b - (1 : Int)) * (1000000 : Int) + Boss.given b))) ([[], [], []]), .b (false), .b (false), .b (false), .b (false), .b (false), .call (V.b (decide ((1 : Int) ≤ Job.worker j ∧ Job.worker j ≤ Boss.workers b))) ([[], [], []]), .b (false), .b (false), .b (false), .b (false), .b (false), .b (false), .b (false), .i (Boss.now b + (1 : Int)), .b (false), .b (false), .b (false), .i (Boss.now b + (12 : Int)), .b (false), .call (V.b (decide (Boss.now b + (1 : Int) ≤ Job.til j ∧ Job.til j ≤ Boss.now b + (12 : Int)))) ([[], [], []]), .b (false), .b (false), .b (true), .b (true), .b (true), .b (true), .b (true), .b (true), .b (true), .b (true), .b (true), .b (true), .b (true), .b (true), .b (true), .b (true)] ?_
      conv => whnf
      refine ⟨⟨I, I, I, w64 (by omega) (by omega), I, I, I, w64 (by omega) (by omega), ⟨⟨I, I, I, I⟩, I, ⟨⟨I, I⟩, ⟨I, I⟩, ⟨I, I⟩, I⟩, ⟨I, I⟩, Go.K.c_spec_l2In _ _ _⟩, I, I, ⟨notF (by omega), I⟩, ⟨notF (by omega), I⟩, ⟨notF (by omega), I⟩, ⟨notF (by omega), I⟩, ⟨notF (by omega), ⟨I, I, I, I⟩, I, ⟨⟨I, I⟩, ⟨I, I⟩, ⟨I, I⟩, I⟩, ⟨I, I⟩, Go.K.c_spec_l2In _ _ _⟩, ⟨notF (by omega), I⟩, notF (by omega), I, ⟨notF (by omega), I⟩, ⟨notF (by omega), I⟩, ⟨notF (by omega), I⟩, ⟨notF (by omega), I⟩, ⟨notF (by omega), w64 (by omega) (by omega)⟩, ⟨notF (by omega), I⟩, ⟨notF (by omega), I⟩, ⟨notF (by omega), w64 (by omega) (by omega)⟩, ⟨notF (by omega), ⟨I, I, I, I⟩, I, ⟨⟨I, I⟩, ⟨I, I⟩, ⟨I, I⟩, I⟩, ⟨I, I⟩, Go.K.c_spec_l2In _ _ _⟩, ⟨notF (by omega), I⟩, notF (by omega), I, notT (by omega), notT (by omega), notT (by omega), notT (by omega), notT (by omega), notT (by omega), notT (by omega), I, rfl, rfl, rfl, rfl, rfl, rfl, rfl, I⟩, ?_⟩
      refine W.cn ?_
      conv => whnf
      refine ⟨fun _ => ?_, noF (rfl)⟩
      refine g 81 82 [] ?_
      conv => whnf
      refine ⟨⟨I, I⟩, ?_⟩
      refine W.ret ?_
      refine EndsW.rt ?_
      conv => whnf
      refine ⟨⟨I, I, I⟩, ?_, rfl⟩
      exact vbf (jobs_no2 hj1 (fun q => hD (q.2 hz).til))
    ·conv => whnf
     refine W.sq ?_
     refine g 13 17 [] ?_
     conv => whnf
     refine ⟨⟨I, I, I, I, I, I⟩, ?_⟩
     refine W.cn ?_
     conv => whnf
     refine ⟨fun _ => ?_, noF (by simp_all)⟩
     refine W.skip ?_
     refine W.sq ?_
     refine W.blk ?_
     refine g 17 25 [.x (jobT j)] ?_
     conv => whnf
     refine ⟨⟨I, I, I, ⟨(by omega), ixl (by assumption)⟩, I, I, ⟨I, I, I, I⟩, I⟩, ?_⟩
     refine W.sq ?_
     refine g 25 27 [] ?_
     conv => whnf
     refine ⟨⟨I, I, I, I⟩, ?_⟩
     refine W.cn ?_
     conv => whnf
     refine ⟨noT (dF (by omega)), fun _ => ?_⟩
     refine W.skip ?_
     refine W.sq ?_
     refine g 27 81 [.i ((Boss.epoch b - (1 : Int)) * (1000000 : Int) + (1 : Int)), .i ((Boss.epoch b - (1 : Int)) * (1000000 : Int) + Boss.given b), .call (V.b (decide ((Boss.epoch b - (1 : Int)) * (1000000 : Int) + (1 : Int) ≤ Job.lease j ∧ Job.lease j ≤ (Boss.epoch b - (1 : Int)) * (1000000 : Int) + Boss.given b))) ([[], [], []]), .b (false), .b (false), .b (false), .b (false), .b (false), .call (V.b (decide ((1 : Int) ≤ Job.worker j ∧ Job.worker j ≤ Boss.workers b))) ([[], [], []]), .b (false), .b (false), .b (true), .b (true), .b (true), .b (true), .b (true), .b (true), .b (true), .b (true), .b (true), .b (true), .b (true), .b (true), .b (true), .b (true), .b (true), .b (true), .b (true), .b (true), .b (true), .b (true), .b (true), .b (true), .b (true), .b (true), .b (true)] ?_
     conv => whnf
     refine ⟨⟨I, I, I, w64 (by omega) (by omega), I, I, I, w64 (by omega) (by omega), ⟨⟨I, I, I, I⟩, I, ⟨⟨I, I⟩, ⟨I, I⟩, ⟨I, I⟩, I⟩, ⟨I, I⟩, Go.K.c_spec_l2In _ _ _⟩, I, I, ⟨notF (by omega), I⟩, ⟨notF (by omega), I⟩, ⟨notF (by omega), I⟩, ⟨notF (by omega), I⟩, ⟨notF (by omega), ⟨I, I, I, I⟩, I, ⟨⟨I, I⟩, ⟨I, I⟩, ⟨I, I⟩, I⟩, ⟨I, I⟩, Go.K.c_spec_l2In _ _ _⟩, ⟨notF (by omega), I⟩, notF (by omega), I, notT (by omega), notT (by omega), notT (by omega), notT (by omega), notT (by omega), notT (by omega), notT (by omega), notT (by omega), notT (by omega), notT (by omega), notT (by omega), I, rfl, rfl, rfl, rfl, rfl, rfl, rfl, I, rfl, rfl, rfl, rfl, rfl, rfl, rfl, I⟩, ?_⟩
     refine W.cn ?_
     conv => whnf
     refine ⟨fun _ => ?_, noF (rfl)⟩
     refine g 81 82 [] ?_
     conv => whnf
     refine ⟨⟨I, I⟩, ?_⟩
     refine W.ret ?_
     refine EndsW.rt ?_
     conv => whnf
     refine ⟨⟨I, I, I⟩, ?_, rfl⟩
     exact vbf (jobs_no2 hj1 (fun q => hC (q.2 hz).worker))
   ·conv => whnf
    refine W.sq ?_
    refine g 13 17 [] ?_
    conv => whnf
    refine ⟨⟨I, I, I, I, I, I⟩, ?_⟩
    refine W.cn ?_
    conv => whnf
    refine ⟨fun _ => ?_, noF (by simp_all)⟩
    refine W.skip ?_
    refine W.sq ?_
    refine W.blk ?_
    refine g 17 25 [.x (jobT j)] ?_
    conv => whnf
    refine ⟨⟨I, I, I, ⟨(by omega), ixl (by assumption)⟩, I, I, ⟨I, I, I, I⟩, I⟩, ?_⟩
    refine W.sq ?_
    refine g 25 27 [] ?_
    conv => whnf
    refine ⟨⟨I, I, I, I⟩, ?_⟩
    refine W.cn ?_
    conv => whnf
    refine ⟨noT (dF (by omega)), fun _ => ?_⟩
    refine W.skip ?_
    refine W.sq ?_
    refine g 27 81 [.i ((Boss.epoch b - (1 : Int)) * (1000000 : Int) + (1 : Int)), .i ((Boss.epoch b - (1 : Int)) * (1000000 : Int) + Boss.given b), .call (V.b (decide ((Boss.epoch b - (1 : Int)) * (1000000 : Int) + (1 : Int) ≤ Job.lease j ∧ Job.lease j ≤ (Boss.epoch b - (1 : Int)) * (1000000 : Int) + Boss.given b))) ([[], [], []]), .b (true), .b (true), .b (true), .b (true), .b (true), .b (true), .b (true), .b (true), .b (true), .b (true), .b (true), .b (true), .b (true), .b (true), .b (true), .b (true), .b (true), .b (true), .b (true), .b (true), .b (true), .b (true), .b (true), .b (true), .b (true), .b (true), .b (true), .b (true), .b (true), .b (true), .b (true), .b (true)] ?_
    conv => whnf
    refine ⟨⟨I, I, I, w64 (by omega) (by omega), I, I, I, w64 (by omega) (by omega), ⟨⟨I, I, I, I⟩, I, ⟨⟨I, I⟩, ⟨I, I⟩, ⟨I, I⟩, I⟩, ⟨I, I⟩, Go.K.c_spec_l2In _ _ _⟩, I, I, notT (by omega), notT (by omega), notT (by omega), notT (by omega), notT (by omega), notT (by omega), notT (by omega), I, rfl, rfl, rfl, rfl, rfl, rfl, rfl, rfl, rfl, rfl, rfl, I, rfl, rfl, rfl, rfl, rfl, rfl, rfl, I, rfl, rfl, rfl, rfl, rfl, rfl, rfl, I⟩, ?_⟩
    refine W.cn ?_
    conv => whnf
    refine ⟨fun _ => ?_, noF (rfl)⟩
    refine g 81 82 [] ?_
    conv => whnf
    refine ⟨⟨I, I⟩, ?_⟩
    refine W.ret ?_
    refine EndsW.rt ?_
    conv => whnf
    refine ⟨⟨I, I, I⟩, ?_, rfl⟩
    exact vbf (jobs_no2 hj1 (fun q => hA (q.2 hz).lease))
 have hjobs : jobsTo b p.tasks b.jobs.length := by rw [show b.jobs.length = n1 by omega]; exact hc1
 conv => whnf
 refine W.sq ?_
 refine g 13 17 [] ?_
 conv => whnf
 refine ⟨⟨I, I, I, I, I, I⟩, ?_⟩
 refine W.cn ?_
 conv => whnf
 refine ⟨noT (by simp_all), fun _ => ?_⟩
 refine W.exit ?_
 refine g 5 18 [] ?_
 conv => whnf
 refine ⟨⟨I, I⟩, ?_⟩
 refine W.ret ?_
 refine EndsW.rt ?_
 conv => whnf
 refine ⟨⟨I, I, I⟩, ?_, rfl⟩
 exact vbt (by omega)
theorem c_spec_ValidBoss (b : Boss) (p : Plan) (hp : planWf p) (hl1 : b.log.safe.length ≤ 1048576) (hl2 : b.log.loose.length ≤ 1048576) (hs : ∀ s ∈ b.log.safe ++ b.log.loose, s.size ≤ 281474976710656) (hr : b.results.length ≤ 1048576) (hj : b.jobs.length ≤ 1048576) (hse : b.seats.length ≤ 1048576) (ho : b.owed.length ≤ 1048576) : F n_spec_ValidBoss [.val (bossR b), .val (planR p)] (.b (decide (BossOk b p))) [[], []] := by
 have cp := c_spec_CheckPlan p hp
 have ce := c_spec_l4All b.log hl1 hl2
 have cr : F n_spec_Replay [.val (planR p), .val (.t (strs (b.log.safe ++ b.log.loose)))] (storyO (bossS b p)) [[], []] := c_spec_Replay p (b.log.safe ++ b.log.loose) hp hs (by rw [List.length_append]; omega)
 have h310 : (bossS b p).code = 0 → b.log.safe.length + b.log.loose.length ≤ 310 := fun q => by have := (replay_len (p := p) (xs := b.log.safe ++ b.log.loose) q).2.1; rw [List.length_append] at this; exact this
 by_cases hup : b.up = true
 rotate_left
 ·rw [Bool.not_eq_true] at hup
  refine i_spec_ValidBoss ?_
  conv => whnf
  refine g 0 2 [] ?_
  conv => whnf
  refine ⟨⟨⟨I, I, I, I, I, I, I, I, I, I, I, I, I⟩, ⟨I, I⟩, I, I⟩, ?_⟩
  refine W.sq ?_
  by_cases h1 : checkPlan (Plan.tasks p) = (0 : Int)
  by_cases h2 : (1 : Int) ≤ Boss.workers b ∧ Boss.workers b ≤ (8 : Int)
  by_cases h3 : (0 : Int) ≤ Boss.now b ∧ Boss.now b ≤ (1000000 : Int)
  refine g 21 26 [.call (V.i (checkPlan (Plan.tasks p))) ([[]]), .b (false), .b (false), .b (false), .call (V.b (decide ((1 : Int) ≤ Boss.workers b ∧ Boss.workers b ≤ (8 : Int)))) ([[], [], []]), .b (false), .b (false), .b (false), .b (false), .b (false), .call (V.b (decide ((0 : Int) ≤ Boss.now b ∧ Boss.now b ≤ (1000000 : Int)))) ([[], [], []]), .b (false), .b (false), .b (false), .b (false), .b (false), .b (false), .b (false), .b (false), .b (false), .b (false), .b (false), .i ((↑(List.length (List.map strT (Log.safe (Boss.log b)))) : Int) + (↑(List.length (List.map strT (Log.loose (Boss.log b)))) : Int)), .b (false), .b (false)] ?_
  conv => whnf
  refine ⟨⟨I, ⟨⟨I, I⟩, I, ⟨⟨I, I⟩, I⟩, ⟨I, I⟩, (by assumption)⟩, I, I, ⟨notF (by omega), I⟩, ⟨notF (by omega), I⟩, ⟨notF (by omega), ⟨I, I, I, I⟩, I, ⟨⟨I, I⟩, ⟨I, I⟩, ⟨I, I⟩, I⟩, ⟨I, I⟩, Go.K.c_spec_l2In _ _ _⟩, ⟨notF (by omega), I⟩, notF (by omega), I, ⟨notF (by omega), I⟩, ⟨notF (by omega), I⟩, ⟨notF (by omega), ⟨I, I, I, I⟩, I, ⟨⟨I, I⟩, ⟨I, I⟩, ⟨I, I⟩, I⟩, ⟨I, I⟩, Go.K.c_spec_l2In _ _ _⟩, ⟨notF (by omega), I⟩, notF (by omega), I, ⟨notF (by omega), I⟩, ⟨notF (by omega), I⟩, ⟨notF (by omega), I⟩, ⟨notF (by omega), I⟩, ⟨notF (by omega), I⟩, ⟨notF (by omega), I⟩, ⟨notF (by omega), I⟩, ⟨notF (by omega), I⟩, ⟨notF (by omega), w64 (by simp only [lens]; omega) (by simp only [lens]; omega)⟩, ⟨notF (by omega), I⟩, notF (by omega), I⟩, ?_⟩
  refine W.cn ?_
  conv => whnf
  refine ⟨fun h4 => ?_, fun h4 => ?_⟩
  replace h4 := dt h4
  simp only [List.length_map] at h4
  refine g 27 32 [] ?_
  conv => whnf
  refine ⟨⟨I, I⟩, ?_⟩
  refine W.ret ?_
  refine EndsW.rt ?_
  conv => whnf
  refine ⟨⟨I, I, I⟩, ?_, rfl⟩
  rotate_left 1
  replace h4 := df h4
  simp only [List.length_map] at h4
  refine W.skip ?_
  refine gd 27 32 [[], [], [], [.call (V.own [false] (List.map strT (Log.safe (Boss.log b) ++ Log.loose (Boss.log b)))) ([[]])], [.call (storyO (bossS b p)) ([[], []])], [], []] ?_
  conv => whnf
  refine ⟨⟨I, I, I, ⟨⟨I, I⟩, I, ⟨⟨I, I, I⟩, I⟩, ⟨I, I⟩, (by assumption)⟩, ⟨⟨I, I, I⟩, I, ⟨⟨I, I⟩, ⟨I, I⟩, I⟩, ⟨I, I⟩, (by assumption)⟩, I, ⟨I, I, I, I⟩, I⟩, by kernel_rfl, ?_⟩
  refine W.sq ?_
  refine g 39 45 [] ?_
  conv => whnf
  refine ⟨⟨I, I, I, I⟩, ?_⟩
  refine W.cn ?_
  conv => whnf
  refine ⟨fun h5 => ?_, fun h5 => ?_⟩
  replace h5 := ndt h5
  refine g 33 38 [] ?_
  conv => whnf
  refine ⟨⟨I, I⟩, ?_⟩
  refine W.ret ?_
  refine EndsW.rt ?_
  conv => whnf
  refine ⟨⟨I, I, I⟩, ?_, rfl⟩
  rotate_left 1
  replace h5 := ndf h5
  refine W.skip ?_
  refine W.sq ?_
  refine g 33 38 [] ?_
  conv => whnf
  refine ⟨⟨I, I, I, I⟩, ?_⟩
  refine W.cn ?_
  conv => whnf
  refine ⟨fun _ => ?_, noF (nbT (by assumption))⟩
  by_cases h6 : (↑(List.length (List.map strT (Log.loose (Boss.log b)))) : Int) = (0 : Int)
  simp only [List.length_map] at h6
  by_cases h7 : Boss.since b = (0 : Int)
  by_cases h8 : Boss.epoch b = (0 : Int)
  by_cases h9 : Boss.given b = (0 : Int)
  by_cases h10 : (↑(List.length (List.map strT (Boss.results b))) : Int) = (0 : Int)
  simp only [List.length_map] at h10
  by_cases h11 : (↑(List.length (List.map jobT (Boss.jobs b))) : Int) = (0 : Int)
  simp only [List.length_map] at h11
  by_cases h12 : (↑(List.length (List.map seatT (Boss.seats b))) : Int) = (0 : Int)
  simp only [List.length_map] at h12
  refine g 26 93 [.b (true), .b (true), .b (true), .b (true), .b (true), .b (true), .b (true), .b (true), .b (true), .b (true), .b (true), .b (true), .b (true), .b (true), .b (true), .b (true), .b (true), .b (true), .b (true), .b (true), .b (true), .b (true), .b (true), .b (true), .b (true), .b (true), .b (true), .b (true), .b (true), .b (true), .b (true), .b (true)] ?_
  conv => whnf
  refine ⟨⟨I, I, I, I, I, I, ⟨(by simp [*]), I⟩, ⟨(by simp [*]), I⟩, ⟨(by simp [*]), I⟩, (by simp [*]), I, ⟨dT (by omega), I⟩, ⟨dT (by omega), I⟩, ⟨dT (by omega), I⟩, dT (by omega), I, ⟨dT (by omega), I⟩, ⟨dT (by omega), I⟩, ⟨dT (by omega), I⟩, dT (by omega), I, ⟨dT (by omega), I⟩, ⟨dT (by omega), I⟩, ⟨dT (by omega), I⟩, ⟨dT (by omega), I⟩, dT (by omega), I, ⟨(by simp [*]), I⟩, ⟨(by simp [*]), I⟩, ⟨(by simp [*]), I⟩, ⟨(by simp [*]), I⟩, (by simp [*]), I, ⟨(by simp [*]), I⟩, ⟨(by simp [*]), I⟩, ⟨(by simp [*]), I⟩, ⟨(by simp [*]), I⟩, (by simp [*]), I, ⟨(by simp [*]), I⟩, ⟨(by simp [*]), I⟩, ⟨(by simp [*]), I⟩, ⟨(by simp [*]), I⟩, (by simp [*]), I, I⟩, ?_⟩
  refine W.ret ?_
  refine EndsW.rt ?_
  conv => whnf
  refine ⟨⟨I, I, I⟩, ?_, rfl⟩
  rotate_left 1
  simp only [List.length_map] at h12
  refine g 26 93 [.b (true), .b (true), .b (true), .b (true), .b (true), .b (true), .b (true), .b (true), .b (true), .b (true), .b (true), .b (true), .b (true), .b (true), .b (true), .b (true), .b (true), .b (true), .b (true), .b (true), .b (true), .b (true), .b (true), .b (true), .b (true), .b (true), .b (true), .b (false), .b (false), .b (false), .b (false), .b (false)] ?_
  conv => whnf
  refine ⟨⟨I, I, I, I, I, I, ⟨(by simp [*]), I⟩, ⟨(by simp [*]), I⟩, ⟨(by simp [*]), I⟩, (by simp [*]), I, ⟨dT (by omega), I⟩, ⟨dT (by omega), I⟩, ⟨dT (by omega), I⟩, dT (by omega), I, ⟨dT (by omega), I⟩, ⟨dT (by omega), I⟩, ⟨dT (by omega), I⟩, dT (by omega), I, ⟨dT (by omega), I⟩, ⟨dT (by omega), I⟩, ⟨dT (by omega), I⟩, ⟨dT (by omega), I⟩, dT (by omega), I, ⟨(by simp [*]), I⟩, ⟨(by simp [*]), I⟩, ⟨(by simp [*]), I⟩, ⟨(by simp [*]), I⟩, (by simp [*]), I, ⟨(by simp [*]), I⟩, ⟨(by simp [*]), I⟩, ⟨(by simp [*]), I⟩, ⟨(by simp [*]), I⟩, (by simp [*]), I, (by simp_all), (by simp_all), (by simp_all), (by simp_all), (by simp_all), I, I⟩, ?_⟩
  refine W.ret ?_
  refine EndsW.rt ?_
  conv => whnf
  refine ⟨⟨I, I, I⟩, ?_, rfl⟩
  rotate_left 1
  simp only [List.length_map] at h11
  refine g 26 93 [.b (true), .b (true), .b (true), .b (true), .b (true), .b (true), .b (true), .b (true), .b (true), .b (true), .b (true), .b (true), .b (true), .b (true), .b (true), .b (true), .b (true), .b (true), .b (true), .b (true), .b (true), .b (true), .b (false), .b (false), .b (false), .b (false), .b (false), .b (false), .b (false), .b (false), .b (false), .b (false)] ?_
  conv => whnf
  refine ⟨⟨I, I, I, I, I, I, ⟨(by simp [*]), I⟩, ⟨(by simp [*]), I⟩, ⟨(by simp [*]), I⟩, (by simp [*]), I, ⟨dT (by omega), I⟩, ⟨dT (by omega), I⟩, ⟨dT (by omega), I⟩, dT (by omega), I, ⟨dT (by omega), I⟩, ⟨dT (by omega), I⟩, ⟨dT (by omega), I⟩, dT (by omega), I, ⟨dT (by omega), I⟩, ⟨dT (by omega), I⟩, ⟨dT (by omega), I⟩, ⟨dT (by omega), I⟩, dT (by omega), I, ⟨(by simp [*]), I⟩, ⟨(by simp [*]), I⟩, ⟨(by simp [*]), I⟩, ⟨(by simp [*]), I⟩, (by simp [*]), I, (by simp_all), (by simp_all), (by simp_all), (by simp_all), (by simp_all), I, rfl, rfl, rfl, rfl, rfl, I, I⟩, ?_⟩
  refine W.ret ?_
  refine EndsW.rt ?_
  conv => whnf
  refine ⟨⟨I, I, I⟩, ?_, rfl⟩
  rotate_left 1
  simp only [List.length_map] at h10
  refine g 26 93 [.b (true), .b (true), .b (true), .b (true), .b (true), .b (true), .b (true), .b (true), .b (true), .b (true), .b (true), .b (true), .b (true), .b (true), .b (true), .b (true), .b (true), .b (false), .b (false), .b (false), .b (false), .b (false), .b (false), .b (false), .b (false), .b (false), .b (false), .b (false), .b (false), .b (false), .b (false), .b (false)] ?_
  conv => whnf
  refine ⟨⟨I, I, I, I, I, I, ⟨(by simp [*]), I⟩, ⟨(by simp [*]), I⟩, ⟨(by simp [*]), I⟩, (by simp [*]), I, ⟨dT (by omega), I⟩, ⟨dT (by omega), I⟩, ⟨dT (by omega), I⟩, dT (by omega), I, ⟨dT (by omega), I⟩, ⟨dT (by omega), I⟩, ⟨dT (by omega), I⟩, dT (by omega), I, ⟨dT (by omega), I⟩, ⟨dT (by omega), I⟩, ⟨dT (by omega), I⟩, ⟨dT (by omega), I⟩, dT (by omega), I, (by simp_all), (by simp_all), (by simp_all), (by simp_all), (by simp_all), I, rfl, rfl, rfl, rfl, rfl, I, rfl, rfl, rfl, rfl, rfl, I, I⟩, ?_⟩
  refine W.ret ?_
  refine EndsW.rt ?_
  conv => whnf
  refine ⟨⟨I, I, I⟩, ?_, rfl⟩
  rotate_left 1
  refine g 26 93 [.b (true), .b (true), .b (true), .b (true), .b (true), .b (true), .b (true), .b (true), .b (true), .b (true), .b (true), .b (true), .b (false), .b (false), .b (false), .b (false), .b (false), .b (false), .b (false), .b (false), .b (false), .b (false), .b (false), .b (false), .b (false), .b (false), .b (false), .b (false), .b (false), .b (false), .b (false), .b (false)] ?_
  conv => whnf
  refine ⟨⟨I, I, I, I, I, I, ⟨(by simp [*]), I⟩, ⟨(by simp [*]), I⟩, ⟨(by simp [*]), I⟩, (by simp [*]), I, ⟨dT (by omega), I⟩, ⟨dT (by omega), I⟩, ⟨dT (by omega), I⟩, dT (by omega), I, ⟨dT (by omega), I⟩, ⟨dT (by omega), I⟩, ⟨dT (by omega), I⟩, dT (by omega), I, dF (by omega), dF (by omega), dF (by omega), dF (by omega), dF (by omega), I, rfl, rfl, rfl, rfl, rfl, I, rfl, rfl, rfl, rfl, rfl, I, rfl, rfl, rfl, rfl, rfl, I, I⟩, ?_⟩
  refine W.ret ?_
  refine EndsW.rt ?_
  conv => whnf
  refine ⟨⟨I, I, I⟩, ?_, rfl⟩
  rotate_left 1
  refine g 26 93 [.b (true), .b (true), .b (true), .b (true), .b (true), .b (true), .b (true), .b (true), .b (false), .b (false), .b (false), .b (false), .b (false), .b (false), .b (false), .b (false), .b (false), .b (false), .b (false), .b (false), .b (false), .b (false), .b (false), .b (false), .b (false), .b (false), .b (false), .b (false), .b (false), .b (false), .b (false), .b (false)] ?_
  conv => whnf
  refine ⟨⟨I, I, I, I, I, I, ⟨(by simp [*]), I⟩, ⟨(by simp [*]), I⟩, ⟨(by simp [*]), I⟩, (by simp [*]), I, ⟨dT (by omega), I⟩, ⟨dT (by omega), I⟩, ⟨dT (by omega), I⟩, dT (by omega), I, dF (by omega), dF (by omega), dF (by omega), dF (by omega), I, rfl, rfl, rfl, rfl, rfl, I, rfl, rfl, rfl, rfl, rfl, I, rfl, rfl, rfl, rfl, rfl, I, rfl, rfl, rfl, rfl, rfl, I, I⟩, ?_⟩
  refine W.ret ?_
  refine EndsW.rt ?_
  conv => whnf
  refine ⟨⟨I, I, I⟩, ?_, rfl⟩
  rotate_left 1
  refine g 26 93 [.b (true), .b (true), .b (true), .b (true), .b (false), .b (false), .b (false), .b (false), .b (false), .b (false), .b (false), .b (false), .b (false), .b (false), .b (false), .b (false), .b (false), .b (false), .b (false), .b (false), .b (false), .b (false), .b (false), .b (false), .b (false), .b (false), .b (false), .b (false), .b (false), .b (false), .b (false), .b (false)] ?_
  conv => whnf
  refine ⟨⟨I, I, I, I, I, I, ⟨(by simp [*]), I⟩, ⟨(by simp [*]), I⟩, ⟨(by simp [*]), I⟩, (by simp [*]), I, dF (by omega), dF (by omega), dF (by omega), dF (by omega), I, rfl, rfl, rfl, rfl, I, rfl, rfl, rfl, rfl, rfl, I, rfl, rfl, rfl, rfl, rfl, I, rfl, rfl, rfl, rfl, rfl, I, rfl, rfl, rfl, rfl, rfl, I, I⟩, ?_⟩
  refine W.ret ?_
  refine EndsW.rt ?_
  conv => whnf
  refine ⟨⟨I, I, I⟩, ?_, rfl⟩
  rotate_left 1
  simp only [List.length_map] at h6
  refine g 26 93 [.b (false), .b (false), .b (false), .b (false), .b (false), .b (false), .b (false), .b (false), .b (false), .b (false), .b (false), .b (false), .b (false), .b (false), .b (false), .b (false), .b (false), .b (false), .b (false), .b (false), .b (false), .b (false), .b (false), .b (false), .b (false), .b (false), .b (false), .b (false), .b (false), .b (false), .b (false), .b (false)] ?_
  conv => whnf
  refine ⟨⟨I, I, I, I, I, I, (by simp_all), (by simp_all), (by simp_all), (by simp_all), I, rfl, rfl, rfl, rfl, I, rfl, rfl, rfl, rfl, I, rfl, rfl, rfl, rfl, rfl, I, rfl, rfl, rfl, rfl, rfl, I, rfl, rfl, rfl, rfl, rfl, I, rfl, rfl, rfl, rfl, rfl, I, I⟩, ?_⟩
  refine W.ret ?_
  refine EndsW.rt ?_
  conv => whnf
  refine ⟨⟨I, I, I⟩, ?_, rfl⟩
  rotate_left 1
  refine g 21 26 [.call (V.i (checkPlan (Plan.tasks p))) ([[]]), .b (false), .b (false), .b (false), .call (V.b (decide ((1 : Int) ≤ Boss.workers b ∧ Boss.workers b ≤ (8 : Int)))) ([[], [], []]), .b (false), .b (false), .b (false), .b (false), .b (false), .call (V.b (decide ((0 : Int) ≤ Boss.now b ∧ Boss.now b ≤ (1000000 : Int)))) ([[], [], []]), .b (false), .b (false), .b (true), .b (true), .b (true), .b (true), .b (true), .b (true), .b (true), .b (true), .b (true), .b (true), .b (true)] ?_
  conv => whnf
  refine ⟨⟨I, ⟨⟨I, I⟩, I, ⟨⟨I, I⟩, I⟩, ⟨I, I⟩, (by assumption)⟩, I, I, ⟨notF (by omega), I⟩, ⟨notF (by omega), I⟩, ⟨notF (by omega), ⟨I, I, I, I⟩, I, ⟨⟨I, I⟩, ⟨I, I⟩, ⟨I, I⟩, I⟩, ⟨I, I⟩, Go.K.c_spec_l2In _ _ _⟩, ⟨notF (by omega), I⟩, notF (by omega), I, ⟨notF (by omega), I⟩, ⟨notF (by omega), I⟩, ⟨notF (by omega), ⟨I, I, I, I⟩, I, ⟨⟨I, I⟩, ⟨I, I⟩, ⟨I, I⟩, I⟩, ⟨I, I⟩, Go.K.c_spec_l2In _ _ _⟩, ⟨notF (by omega), I⟩, notF (by omega), I, notT (by omega), notT (by omega), notT (by omega), notT (by omega), notT (by omega), notT (by omega), notT (by omega), notT (by omega), notT (by omega), notT (by omega), notT (by omega), I⟩, ?_⟩
  refine W.cn ?_
  conv => whnf
  refine ⟨fun _ => ?_, noF (rfl)⟩
  refine g 27 32 [] ?_
  conv => whnf
  refine ⟨⟨I, I⟩, ?_⟩
  refine W.ret ?_
  refine EndsW.rt ?_
  conv => whnf
  refine ⟨⟨I, I, I⟩, ?_, rfl⟩
  rotate_left 1
  refine g 21 26 [.call (V.i (checkPlan (Plan.tasks p))) ([[]]), .b (false), .b (false), .b (false), .call (V.b (decide ((1 : Int) ≤ Boss.workers b ∧ Boss.workers b ≤ (8 : Int)))) ([[], [], []]), .b (false), .b (false), .b (true), .b (true), .b (true), .b (true), .b (true), .b (true), .b (true), .b (true), .b (true), .b (true), .b (true), .b (true), .b (true), .b (true), .b (true), .b (true)] ?_
  conv => whnf
  refine ⟨⟨I, ⟨⟨I, I⟩, I, ⟨⟨I, I⟩, I⟩, ⟨I, I⟩, (by assumption)⟩, I, I, ⟨notF (by omega), I⟩, ⟨notF (by omega), I⟩, ⟨notF (by omega), ⟨I, I, I, I⟩, I, ⟨⟨I, I⟩, ⟨I, I⟩, ⟨I, I⟩, I⟩, ⟨I, I⟩, Go.K.c_spec_l2In _ _ _⟩, ⟨notF (by omega), I⟩, notF (by omega), I, notT (by omega), notT (by omega), notT (by omega), notT (by omega), notT (by omega), I, rfl, rfl, rfl, rfl, rfl, rfl, rfl, rfl, rfl, rfl, rfl, I⟩, ?_⟩
  refine W.cn ?_
  conv => whnf
  refine ⟨fun _ => ?_, noF (rfl)⟩
  refine g 27 32 [] ?_
  conv => whnf
  refine ⟨⟨I, I⟩, ?_⟩
  refine W.ret ?_
  refine EndsW.rt ?_
  conv => whnf
  refine ⟨⟨I, I, I⟩, ?_, rfl⟩
  rotate_left 1
  refine g 21 26 [.call (V.i (checkPlan (Plan.tasks p))) ([[]]), .b (true), .b (true), .b (true), .b (true), .b (true), .b (true), .b (true), .b (true), .b (true), .b (true), .b (true), .b (true), .b (true), .b (true), .b (true), .b (true), .b (true), .b (true), .b (true), .b (true), .b (true)] ?_
  conv => whnf
  refine ⟨⟨I, ⟨⟨I, I⟩, I, ⟨⟨I, I⟩, I⟩, ⟨I, I⟩, (by assumption)⟩, I, I, notT (by omega), notT (by omega), notT (by omega), notT (by omega), notT (by omega), I, rfl, rfl, rfl, rfl, rfl, I, rfl, rfl, rfl, rfl, rfl, rfl, rfl, rfl, rfl, rfl, rfl, I⟩, ?_⟩
  refine W.cn ?_
  conv => whnf
  refine ⟨fun _ => ?_, noF (rfl)⟩
  refine g 27 32 [] ?_
  conv => whnf
  refine ⟨⟨I, I⟩, ?_⟩
  refine W.ret ?_
  refine EndsW.rt ?_
  conv => whnf
  refine ⟨⟨I, I, I⟩, ?_, rfl⟩
  rotate_left 1
  all_goals first
   | exact vbf (fun q => by have e1 := q.plan; have e2 := q.workers; have e3 := q.now; have e4 := q.code; have e5 := h310 e4; omega)
   | exact vbf (no_down hup fun q => by have e1 := q.loose; have e2 := q.since; have e3 := q.epoch; have e4 := q.given; have e5 := q.res; have e6 := q.jobs; have e7 := q.seats; omega)
   | (rename_i h8
      simp only [List.length_map]
      by_cases h9 : (b.owed.length : Int) = 0
      ·rw [decide_eq_true h9]; exact vbt ⟨by omega, by omega, by omega, by omega, (fun q => by rw [hup] at q; cases q), fun _ => ⟨by omega, by omega, by omega, by omega, by omega, by omega, by omega, by omega⟩⟩
      ·rw [decide_eq_false h9]; exact vbf (no_down hup fun q => by have e8 := q.owed; omega))
   | skip
 refine i_spec_ValidBoss ?_
 conv => whnf
 refine g 0 2 [] ?_
 conv => whnf
 refine ⟨⟨⟨I, I, I, I, I, I, I, I, I, I, I, I, I⟩, ⟨I, I⟩, I, I⟩, ?_⟩
 refine W.sq ?_
 by_cases h1 : checkPlan (Plan.tasks p) = (0 : Int)
 by_cases h2 : (1 : Int) ≤ Boss.workers b ∧ Boss.workers b ≤ (8 : Int)
 by_cases h3 : (0 : Int) ≤ Boss.now b ∧ Boss.now b ≤ (1000000 : Int)
 refine g 21 26 [.call (V.i (checkPlan (Plan.tasks p))) ([[]]), .b (false), .b (false), .b (false), .call (V.b (decide ((1 : Int) ≤ Boss.workers b ∧ Boss.workers b ≤ (8 : Int)))) ([[], [], []]), .b (false), .b (false), .b (false), .b (false), .b (false), .call (V.b (decide ((0 : Int) ≤ Boss.now b ∧ Boss.now b ≤ (1000000 : Int)))) ([[], [], []]), .b (false), .b (false), .b (false), .b (false), .b (false), .b (false), .b (false), .b (false), .b (false), .b (false), .b (false), .i ((↑(List.length (List.map strT (Log.safe (Boss.log b)))) : Int) + (↑(List.length (List.map strT (Log.loose (Boss.log b)))) : Int)), .b (false), .b (false)] ?_
 conv => whnf
 refine ⟨⟨I, ⟨⟨I, I⟩, I, ⟨⟨I, I⟩, I⟩, ⟨I, I⟩, (by assumption)⟩, I, I, ⟨notF (by omega), I⟩, ⟨notF (by omega), I⟩, ⟨notF (by omega), ⟨I, I, I, I⟩, I, ⟨⟨I, I⟩, ⟨I, I⟩, ⟨I, I⟩, I⟩, ⟨I, I⟩, Go.K.c_spec_l2In _ _ _⟩, ⟨notF (by omega), I⟩, notF (by omega), I, ⟨notF (by omega), I⟩, ⟨notF (by omega), I⟩, ⟨notF (by omega), ⟨I, I, I, I⟩, I, ⟨⟨I, I⟩, ⟨I, I⟩, ⟨I, I⟩, I⟩, ⟨I, I⟩, Go.K.c_spec_l2In _ _ _⟩, ⟨notF (by omega), I⟩, notF (by omega), I, ⟨notF (by omega), I⟩, ⟨notF (by omega), I⟩, ⟨notF (by omega), I⟩, ⟨notF (by omega), I⟩, ⟨notF (by omega), I⟩, ⟨notF (by omega), I⟩, ⟨notF (by omega), I⟩, ⟨notF (by omega), I⟩, ⟨notF (by omega), w64 (by simp only [lens]; omega) (by simp only [lens]; omega)⟩, ⟨notF (by omega), I⟩, notF (by omega), I⟩, ?_⟩
 refine W.cn ?_
 conv => whnf
 refine ⟨fun h4 => ?_, fun h4 => ?_⟩
 replace h4 := dt h4
 simp only [List.length_map] at h4
 refine g 27 32 [] ?_
 conv => whnf
 refine ⟨⟨I, I⟩, ?_⟩
 refine W.ret ?_
 refine EndsW.rt ?_
 conv => whnf
 refine ⟨⟨I, I, I⟩, ?_, rfl⟩
 rotate_left 1
 replace h4 := df h4
 simp only [List.length_map] at h4
 refine W.skip ?_
 refine gd 27 32 [[], [], [], [.call (V.own [false] (List.map strT (Log.safe (Boss.log b) ++ Log.loose (Boss.log b)))) ([[]])], [.call (storyO (bossS b p)) ([[], []])], [], []] ?_
 conv => whnf
 refine ⟨⟨I, I, I, ⟨⟨I, I⟩, I, ⟨⟨I, I, I⟩, I⟩, ⟨I, I⟩, (by assumption)⟩, ⟨⟨I, I, I⟩, I, ⟨⟨I, I⟩, ⟨I, I⟩, I⟩, ⟨I, I⟩, (by assumption)⟩, I, ⟨I, I, I, I⟩, I⟩, by kernel_rfl, ?_⟩
 refine W.sq ?_
 refine g 39 45 [] ?_
 conv => whnf
 refine ⟨⟨I, I, I, I⟩, ?_⟩
 refine W.cn ?_
 conv => whnf
 refine ⟨fun h5 => ?_, fun h5 => ?_⟩
 replace h5 := ndt h5
 refine g 33 38 [] ?_
 conv => whnf
 refine ⟨⟨I, I⟩, ?_⟩
 refine W.ret ?_
 refine EndsW.rt ?_
 conv => whnf
 refine ⟨⟨I, I, I⟩, ?_, rfl⟩
 rotate_left 1
 replace h5 := ndf h5
 refine W.skip ?_
 refine W.sq ?_
 refine g 33 38 [] ?_
 conv => whnf
 refine ⟨⟨I, I, I, I⟩, ?_⟩
 refine W.cn ?_
 conv => whnf
 refine ⟨noT (nbF (by assumption)), fun _ => ?_⟩
 refine W.skip ?_
 refine W.sq ?_
 by_cases h6 : Boss.epoch b = Story.epoch (bossS b p)
 by_cases h7 : Boss.epoch b < (1 : Int)
 refine g 26 114 [.b (false), .b (false), .b (false), .b (false), .b (true), .b (true), .b (true), .b (true), .b (true), .b (true), .b (true), .b (true), .b (true), .b (true)] ?_
 conv => whnf
 refine ⟨⟨I, I, I, I, I, I, ⟨notF (by omega), I⟩, ⟨notF (by omega), I⟩, ⟨notF (by omega), I⟩, notF (by omega), I, dT (by omega), dT (by omega), dT (by omega), dT (by omega), dT (by omega), I, rfl, rfl, rfl, rfl, rfl, I⟩, ?_⟩
 refine W.cn ?_
 conv => whnf
 refine ⟨fun _ => ?_, noF (rfl)⟩
 refine g 13 20 [] ?_
 conv => whnf
 refine ⟨⟨I, I⟩, ?_⟩
 refine W.ret ?_
 refine EndsW.rt ?_
 conv => whnf
 refine ⟨⟨I, I, I⟩, ?_, rfl⟩
 rotate_left 1
 by_cases h8 : (0 : Int) ≤ Boss.since b ∧ Boss.since b ≤ (1 : Int)
 refine g 26 114 [.b (false), .b (false), .b (false), .b (false), .b (false), .b (false), .b (false), .call (V.b (decide ((0 : Int) ≤ Boss.since b ∧ Boss.since b ≤ (1 : Int)))) ([[], [], []]), .b (false), .b (false), .b (false), .b (false), .b (false), .call (V.b (decide ((0 : Int) ≤ Boss.given b ∧ Boss.given b ≤ (1000000 : Int)))) ([[], [], []]), .b (false), .b (false)] ?_
 conv => whnf
 refine ⟨⟨I, I, I, I, I, I, ⟨notF (by omega), I⟩, ⟨notF (by omega), I⟩, ⟨notF (by omega), I⟩, notF (by omega), I, ⟨dF (by omega), I⟩, ⟨dF (by omega), I⟩, ⟨dF (by omega), ⟨I, I, I, I⟩, I, ⟨⟨I, I⟩, ⟨I, I⟩, ⟨I, I⟩, I⟩, ⟨I, I⟩, Go.K.c_spec_l2In _ _ _⟩, ⟨dF (by omega), I⟩, dF (by omega), I, ⟨notF (by omega), I⟩, ⟨notF (by omega), I⟩, ⟨notF (by omega), ⟨I, I, I, I⟩, I, ⟨⟨I, I⟩, ⟨I, I⟩, ⟨I, I⟩, I⟩, ⟨I, I⟩, Go.K.c_spec_l2In _ _ _⟩, ⟨notF (by omega), I⟩, notF (by omega), I⟩, ?_⟩
 refine W.cn ?_
 conv => whnf
 refine ⟨fun h9 => ?_, fun h9 => ?_⟩
 replace h9 := ndt h9
 refine g 13 20 [] ?_
 conv => whnf
 refine ⟨⟨I, I⟩, ?_⟩
 refine W.ret ?_
 refine EndsW.rt ?_
 conv => whnf
 refine ⟨⟨I, I, I⟩, ?_, rfl⟩
 rotate_left 1
 replace h9 := ndf h9
 refine W.skip ?_
 refine g 13 20 [] ?_
 conv => whnf
 refine ⟨⟨I, I, I, I, I⟩, ?_⟩
 refine W.sq ?_
 by_cases h10 : (↑(List.length (List.map strT (Boss.results b))) : Int) = (↑(List.length (List.map taskT (Plan.tasks p))) : Int)
 simp only [List.length_map] at h10
 by_cases h11 : (↑(List.length (List.map jobT (Boss.jobs b))) : Int) = (↑(List.length (List.map taskT (Plan.tasks p))) : Int)
 simp only [List.length_map] at h11
 by_cases h12 : (↑(List.length (List.map seatT (Boss.seats b))) : Int) = Boss.workers b
 simp only [List.length_map] at h12
 refine g 114 143 [.b (false), .b (false), .b (false), .b (false), .b (false), .b (false), .b (false), .b (false), .b (false), .b (false), .b (false), .b (false), .b (false), .b (false), .b (false), .b (false), .b (false), .b (false)] ?_
 conv => whnf
 refine ⟨⟨I, I, I, I, I, I, ⟨(by simp [*]), I⟩, ⟨(by simp [*]), I⟩, ⟨(by simp [*]), I⟩, ⟨(by simp [*]), I⟩, ⟨(by simp [*]), I⟩, (by simp [*]), I, ⟨(by simp [*]), I⟩, ⟨(by simp [*]), I⟩, ⟨(by simp [*]), I⟩, ⟨(by simp [*]), I⟩, ⟨(by simp [*]), I⟩, ⟨(by simp [*]), I⟩, (by simp [*]), I, ⟨(by simp [*]), I⟩, ⟨(by simp [*]), I⟩, ⟨(by simp [*]), I⟩, ⟨(by simp [*]), I⟩, (by simp [*]), I⟩, ?_⟩
 refine W.cn ?_
 conv => whnf
 refine ⟨fun h13 => ?_, fun h13 => ?_⟩
 replace h13 := dt h13
 simp only [List.length_map] at h13
 refine g 11 12 [] ?_
 conv => whnf
 refine ⟨⟨I, I⟩, ?_⟩
 refine W.ret ?_
 refine EndsW.rt ?_
 conv => whnf
 refine ⟨⟨I, I, I⟩, ?_, rfl⟩
 rotate_left 1
 replace h13 := df h13
 simp only [List.length_map] at h13
 refine W.skip ?_
 refine W.sq ?_
 refine g 11 12 [] ?_
 conv => whnf
 refine ⟨⟨I, I⟩, ?_⟩
 refine W.blk ?_
 rotate_left 1
 simp only [List.length_map] at h12
 refine g 114 143 [.b (false), .b (false), .b (false), .b (false), .b (false), .b (false), .b (false), .b (false), .b (false), .b (false), .b (false), .b (false), .b (false), .b (true), .b (true), .b (true), .b (true), .b (true)] ?_
 conv => whnf
 refine ⟨⟨I, I, I, I, I, I, ⟨(by simp [*]), I⟩, ⟨(by simp [*]), I⟩, ⟨(by simp [*]), I⟩, ⟨(by simp [*]), I⟩, ⟨(by simp [*]), I⟩, (by simp [*]), I, ⟨(by simp [*]), I⟩, ⟨(by simp [*]), I⟩, ⟨(by simp [*]), I⟩, ⟨(by simp [*]), I⟩, ⟨(by simp [*]), I⟩, ⟨(by simp [*]), I⟩, (by simp [*]), I, (by simp [*]), (by simp [*]), (by simp [*]), (by simp [*]), (by simp [*]), I⟩, ?_⟩
 refine W.cn ?_
 conv => whnf
 refine ⟨fun _ => ?_, noF (rfl)⟩
 refine g 11 12 [] ?_
 conv => whnf
 refine ⟨⟨I, I⟩, ?_⟩
 refine W.ret ?_
 refine EndsW.rt ?_
 conv => whnf
 refine ⟨⟨I, I, I⟩, ?_, rfl⟩
 rotate_left 1
 simp only [List.length_map] at h11
 refine g 114 143 [.b (false), .b (false), .b (false), .b (false), .b (false), .b (false), .b (true), .b (true), .b (true), .b (true), .b (true), .b (true), .b (true), .b (true), .b (true), .b (true), .b (true), .b (true)] ?_
 conv => whnf
 refine ⟨⟨I, I, I, I, I, I, ⟨(by simp [*]), I⟩, ⟨(by simp [*]), I⟩, ⟨(by simp [*]), I⟩, ⟨(by simp [*]), I⟩, ⟨(by simp [*]), I⟩, (by simp [*]), I, (by simp [*]), (by simp [*]), (by simp [*]), (by simp [*]), (by simp [*]), (by simp [*]), (by simp [*]), I, rfl, rfl, rfl, rfl, rfl, I⟩, ?_⟩
 refine W.cn ?_
 conv => whnf
 refine ⟨fun _ => ?_, noF (rfl)⟩
 refine g 11 12 [] ?_
 conv => whnf
 refine ⟨⟨I, I⟩, ?_⟩
 refine W.ret ?_
 refine EndsW.rt ?_
 conv => whnf
 refine ⟨⟨I, I, I⟩, ?_, rfl⟩
 rotate_left 1
 simp only [List.length_map] at h10
 refine g 114 143 [.b (true), .b (true), .b (true), .b (true), .b (true), .b (true), .b (true), .b (true), .b (true), .b (true), .b (true), .b (true), .b (true), .b (true), .b (true), .b (true), .b (true), .b (true)] ?_
 conv => whnf
 refine ⟨⟨I, I, I, I, I, I, (by simp [*]), (by simp [*]), (by simp [*]), (by simp [*]), (by simp [*]), (by simp [*]), I, rfl, rfl, rfl, rfl, rfl, rfl, rfl, I, rfl, rfl, rfl, rfl, rfl, I⟩, ?_⟩
 refine W.cn ?_
 conv => whnf
 refine ⟨fun _ => ?_, noF (rfl)⟩
 refine g 11 12 [] ?_
 conv => whnf
 refine ⟨⟨I, I⟩, ?_⟩
 refine W.ret ?_
 refine EndsW.rt ?_
 conv => whnf
 refine ⟨⟨I, I, I⟩, ?_, rfl⟩
 rotate_left 1
 refine g 26 114 [.b (false), .b (false), .b (false), .b (false), .b (false), .b (false), .b (false), .call (V.b (decide ((0 : Int) ≤ Boss.since b ∧ Boss.since b ≤ (1 : Int)))) ([[], [], []]), .b (false), .b (false), .b (true), .b (true), .b (true), .b (true), .b (true)] ?_
 conv => whnf
 refine ⟨⟨I, I, I, I, I, I, ⟨notF (by omega), I⟩, ⟨notF (by omega), I⟩, ⟨notF (by omega), I⟩, notF (by omega), I, ⟨dF (by omega), I⟩, ⟨dF (by omega), I⟩, ⟨dF (by omega), ⟨I, I, I, I⟩, I, ⟨⟨I, I⟩, ⟨I, I⟩, ⟨I, I⟩, I⟩, ⟨I, I⟩, Go.K.c_spec_l2In _ _ _⟩, ⟨dF (by omega), I⟩, dF (by omega), I, notT (by omega), notT (by omega), notT (by omega), notT (by omega), notT (by omega), I⟩, ?_⟩
 refine W.cn ?_
 conv => whnf
 refine ⟨fun _ => ?_, noF (rfl)⟩
 refine g 13 20 [] ?_
 conv => whnf
 refine ⟨⟨I, I⟩, ?_⟩
 refine W.ret ?_
 refine EndsW.rt ?_
 conv => whnf
 refine ⟨⟨I, I, I⟩, ?_, rfl⟩
 rotate_left 1
 refine g 26 114 [.b (true), .b (true), .b (true), .b (true), .b (true), .b (true), .b (true), .b (true), .b (true), .b (true), .b (true), .b (true), .b (true), .b (true)] ?_
 conv => whnf
 refine ⟨⟨I, I, I, I, I, I, notT (by omega), notT (by omega), notT (by omega), notT (by omega), I, rfl, rfl, rfl, rfl, rfl, I, rfl, rfl, rfl, rfl, rfl, I⟩, ?_⟩
 refine W.cn ?_
 conv => whnf
 refine ⟨fun _ => ?_, noF (rfl)⟩
 refine g 13 20 [] ?_
 conv => whnf
 refine ⟨⟨I, I⟩, ?_⟩
 refine W.ret ?_
 refine EndsW.rt ?_
 conv => whnf
 refine ⟨⟨I, I, I⟩, ?_, rfl⟩
 rotate_left 1
 refine g 21 26 [.call (V.i (checkPlan (Plan.tasks p))) ([[]]), .b (false), .b (false), .b (false), .call (V.b (decide ((1 : Int) ≤ Boss.workers b ∧ Boss.workers b ≤ (8 : Int)))) ([[], [], []]), .b (false), .b (false), .b (false), .b (false), .b (false), .call (V.b (decide ((0 : Int) ≤ Boss.now b ∧ Boss.now b ≤ (1000000 : Int)))) ([[], [], []]), .b (false), .b (false), .b (true), .b (true), .b (true), .b (true), .b (true), .b (true), .b (true), .b (true), .b (true), .b (true), .b (true)] ?_
 conv => whnf
 refine ⟨⟨I, ⟨⟨I, I⟩, I, ⟨⟨I, I⟩, I⟩, ⟨I, I⟩, (by assumption)⟩, I, I, ⟨notF (by omega), I⟩, ⟨notF (by omega), I⟩, ⟨notF (by omega), ⟨I, I, I, I⟩, I, ⟨⟨I, I⟩, ⟨I, I⟩, ⟨I, I⟩, I⟩, ⟨I, I⟩, Go.K.c_spec_l2In _ _ _⟩, ⟨notF (by omega), I⟩, notF (by omega), I, ⟨notF (by omega), I⟩, ⟨notF (by omega), I⟩, ⟨notF (by omega), ⟨I, I, I, I⟩, I, ⟨⟨I, I⟩, ⟨I, I⟩, ⟨I, I⟩, I⟩, ⟨I, I⟩, Go.K.c_spec_l2In _ _ _⟩, ⟨notF (by omega), I⟩, notF (by omega), I, notT (by omega), notT (by omega), notT (by omega), notT (by omega), notT (by omega), notT (by omega), notT (by omega), notT (by omega), notT (by omega), notT (by omega), notT (by omega), I⟩, ?_⟩
 refine W.cn ?_
 conv => whnf
 refine ⟨fun _ => ?_, noF (rfl)⟩
 refine g 27 32 [] ?_
 conv => whnf
 refine ⟨⟨I, I⟩, ?_⟩
 refine W.ret ?_
 refine EndsW.rt ?_
 conv => whnf
 refine ⟨⟨I, I, I⟩, ?_, rfl⟩
 rotate_left 1
 refine g 21 26 [.call (V.i (checkPlan (Plan.tasks p))) ([[]]), .b (false), .b (false), .b (false), .call (V.b (decide ((1 : Int) ≤ Boss.workers b ∧ Boss.workers b ≤ (8 : Int)))) ([[], [], []]), .b (false), .b (false), .b (true), .b (true), .b (true), .b (true), .b (true), .b (true), .b (true), .b (true), .b (true), .b (true), .b (true), .b (true), .b (true), .b (true), .b (true), .b (true)] ?_
 conv => whnf
 refine ⟨⟨I, ⟨⟨I, I⟩, I, ⟨⟨I, I⟩, I⟩, ⟨I, I⟩, (by assumption)⟩, I, I, ⟨notF (by omega), I⟩, ⟨notF (by omega), I⟩, ⟨notF (by omega), ⟨I, I, I, I⟩, I, ⟨⟨I, I⟩, ⟨I, I⟩, ⟨I, I⟩, I⟩, ⟨I, I⟩, Go.K.c_spec_l2In _ _ _⟩, ⟨notF (by omega), I⟩, notF (by omega), I, notT (by omega), notT (by omega), notT (by omega), notT (by omega), notT (by omega), I, rfl, rfl, rfl, rfl, rfl, rfl, rfl, rfl, rfl, rfl, rfl, I⟩, ?_⟩
 refine W.cn ?_
 conv => whnf
 refine ⟨fun _ => ?_, noF (rfl)⟩
 refine g 27 32 [] ?_
 conv => whnf
 refine ⟨⟨I, I⟩, ?_⟩
 refine W.ret ?_
 refine EndsW.rt ?_
 conv => whnf
 refine ⟨⟨I, I, I⟩, ?_, rfl⟩
 rotate_left 1
 refine g 21 26 [.call (V.i (checkPlan (Plan.tasks p))) ([[]]), .b (true), .b (true), .b (true), .b (true), .b (true), .b (true), .b (true), .b (true), .b (true), .b (true), .b (true), .b (true), .b (true), .b (true), .b (true), .b (true), .b (true), .b (true), .b (true), .b (true), .b (true)] ?_
 conv => whnf
 refine ⟨⟨I, ⟨⟨I, I⟩, I, ⟨⟨I, I⟩, I⟩, ⟨I, I⟩, (by assumption)⟩, I, I, notT (by omega), notT (by omega), notT (by omega), notT (by omega), notT (by omega), I, rfl, rfl, rfl, rfl, rfl, I, rfl, rfl, rfl, rfl, rfl, rfl, rfl, rfl, rfl, rfl, rfl, I⟩, ?_⟩
 refine W.cn ?_
 conv => whnf
 refine ⟨fun _ => ?_, noF (rfl)⟩
 refine g 27 32 [] ?_
 conv => whnf
 refine ⟨⟨I, I⟩, ?_⟩
 refine W.ret ?_
 refine EndsW.rt ?_
 conv => whnf
 refine ⟨⟨I, I, I⟩, ?_, rfl⟩
 rotate_left 1
 all_goals try first
  | exact vbf (fun q => by have e1 := q.plan; have e2 := q.workers; have e3 := q.now; have e4 := q.code; have e5 := h310 e4; omega)
  | exact vbf (no_up hup fun q => by have e1 := q.epoch; have e2 := q.pos; have e3 := q.rlen; have e4 := q.jlen; have e5 := q.slen; have e6 := q.since; have e7 := q.given; have e8 := q.olen; omega)
 have hk : (bossS b p).code = 0 := by assumption
 have hc0 : checkPlan p.tasks = 0 := by assumption
 obtain ⟨_, _, hsl, _⟩ := replay_len (p := p) (xs := b.log.safe ++ b.log.loose) hk
 obtain ⟨hep1, hep2⟩ := replay_ep (p := p) (xs := b.log.safe ++ b.log.loose) hk
 change (bossS b p).results.length = _ at hsl
 change 0 ≤ (bossS b p).epoch at hep1
 change (bossS b p).epoch ≤ 300 at hep2
 have f1 : b.epoch = (bossS b p).epoch := by assumption
 have f2 : 1 ≤ b.epoch := by omega
 have f3 : b.results.length = p.tasks.length := by omega
 have f4 : b.jobs.length = p.tasks.length := by omega
 have f5 : (b.seats.length : Int) = b.workers := by omega
 have f6 : 1 ≤ b.workers ∧ b.workers ≤ 8 := by assumption
 have f7 : 0 ≤ b.now ∧ b.now ≤ 1000000 := by assumption
 have g2 : 0 ≤ b.since ∧ b.since ≤ 1 := by omega
 have g3 : 0 ≤ b.given ∧ b.given ≤ 1000000 := by omega
 have g4 : b.owed.length ≤ 2000 := by omega
 have hpl := (chk_inv hc0).1
 refine W.lp (fun s (n : Nat) => ⟨[(2, s.s 2), (3, s.s 3), (5, s.s 5), (6, s.s 6), (7, .i n), (12, s.s 12), (20, s.s 20)], [(2, [s.c 2 0, s.c 2 1, s.c 2 2, s.c 2 3, s.c 2 4, s.c 2 5, s.c 2 6, s.c 2 7, s.c 2 8, s.c 2 9, s.c 2 10, s.c 2 11]), (3, [s.c 3 0]), (5, [s.c 5 0, s.c 5 1, s.c 5 2])], []⟩) (fun (n : Nat) => n ≤ b.results.length ∧ b.results.take n = (bossS b p).results.take n) (fun (n : Nat) => b.results.length - n) (0) [some 2, some 3, some 5] [] ⟨rfl, ⟨rfl, rfl, rfl, rfl, rfl, rfl, rfl, I⟩, ⟨⟨rfl, ⟨rfl, ⟨rfl, ⟨rfl, ⟨rfl, ⟨rfl, ⟨rfl, ⟨rfl, ⟨rfl, ⟨rfl, ⟨rfl, ⟨rfl, ⟨rfl, I⟩⟩⟩⟩⟩⟩⟩⟩⟩⟩⟩⟩⟩, ⟨⟨rfl, ⟨rfl, I⟩⟩, ⟨⟨rfl, ⟨rfl, ⟨rfl, ⟨rfl, I⟩⟩⟩⟩, I⟩⟩⟩, I⟩ (by simp) ?_
 rintro n ⟨hn, hc⟩
 conv => whnf
 refine W.sq ?_
 refine g 144 146 [] ?_
 conv => whnf
 refine ⟨⟨I, I, I, I⟩, ?_⟩
 refine W.cn ?_
 conv => whnf
 refine ⟨fun h14 => ?_, fun h14 => ?_⟩
 replace h14 := dt h14
 simp only [List.length_map] at h14
 refine W.skip ?_
 refine W.sq ?_
 refine W.blk ?_
 obtain ⟨y1, hy1⟩ := some_at (xs := Boss.results b) (n := n) (by omega)
 obtain ⟨y2, hy2⟩ := some_at (xs := Story.results (bossS b p)) (n := n) (by omega)
 refine gd 146 159 [[], [], [], [.x (strT y1)], [], [], [], [], [.n (n)], [.x (strT y2)], []] ?_
 conv => whnf
 refine ⟨⟨I, I, I, ⟨(by omega), ixl (by assumption)⟩, I, I, I, I, ⟨rfl, (by simp only [lens]; omega)⟩, ixl (by assumption), I, I⟩, by kernel_rfl, ?_⟩
 refine W.cn ?_
 conv => whnf
 refine ⟨fun h15 => ?_, fun h15 => ?_⟩
 replace h15 := ndt h15
 refine g 159 160 [] ?_
 conv => whnf
 refine ⟨⟨I, I⟩, ?_⟩
 refine W.ret ?_
 refine EndsW.rt ?_
 conv => whnf
 refine ⟨⟨I, I, I⟩, ?_, rfl⟩
 rotate_left 1
 replace h15 := ndf h15
 refine W.skip ?_
 refine rg [.i ((↑n : Int) + (1 : Int))] ?_
 conv => whnf
 refine ⟨⟨I, w64 (by omega) (by omega), I, I⟩, ?_⟩
 rotate_left 1
 replace h14 := df h14
 simp only [List.length_map] at h14
 refine W.exit ?_
 refine W.sq ?_
 refine g 5 6 [] ?_
 conv => whnf
 refine ⟨⟨I, I⟩, ?_⟩
 refine W.blk ?_
 rotate_left 1
 all_goals try
  exact vbf (no_up hup fun q => by have e1 := q.res; rw [e1] at hy1; rw [hy1] at hy2; cases hy2; contradiction)
 ·refine ⟨n + 1, [some 2, some 3, some 5], [], ⟨rfl, ⟨rfl, rfl, rfl, rfl, rfl, rfl, rfl, I⟩, ⟨⟨rfl, ⟨rfl, ⟨rfl, ⟨rfl, ⟨rfl, ⟨rfl, ⟨rfl, ⟨rfl, ⟨rfl, ⟨rfl, ⟨rfl, ⟨rfl, ⟨rfl, I⟩⟩⟩⟩⟩⟩⟩⟩⟩⟩⟩⟩⟩, ⟨⟨rfl, ⟨rfl, I⟩⟩, ⟨⟨rfl, ⟨rfl, ⟨rfl, ⟨rfl, I⟩⟩⟩⟩, I⟩⟩⟩, I⟩, ?_, ?_⟩
  rotate_left 1
  (dsimp only; omega)
  dsimp only
  exact ⟨by omega, take_eq hc hy1 (by rw [hy2]; simp_all)⟩
 have g1 : b.results = (bossS b p).results := by rw [take_all (by omega), take_all (by omega)] at hc; exact hc
 refine W.lp (fun s (n : Nat) => ⟨[(2, s.s 2), (3, s.s 3), (6, s.s 6), (8, .i n), (12, s.s 12), (20, s.s 20)], [(2, [s.c 2 0, s.c 2 1, s.c 2 2, s.c 2 3, s.c 2 4, s.c 2 5, s.c 2 6, s.c 2 7, s.c 2 8, s.c 2 9, s.c 2 10, s.c 2 11]), (3, [s.c 3 0])], []⟩) (fun (n : Nat) => n ≤ b.seats.length ∧ ∀ s ∈ b.seats.take n, 0 ≤ s.epoch ∧ s.epoch ≤ 300) (fun (n : Nat) => b.seats.length - n) (0) [some 2, some 3] [] ⟨rfl, ⟨rfl, rfl, rfl, rfl, rfl, rfl, I⟩, ⟨⟨rfl, ⟨rfl, ⟨rfl, ⟨rfl, ⟨rfl, ⟨rfl, ⟨rfl, ⟨rfl, ⟨rfl, ⟨rfl, ⟨rfl, ⟨rfl, ⟨rfl, I⟩⟩⟩⟩⟩⟩⟩⟩⟩⟩⟩⟩⟩, ⟨⟨rfl, ⟨rfl, I⟩⟩, I⟩⟩, I⟩ (by simp) ?_
 rintro n2 ⟨hn2, hc2⟩
 by_cases hs2 : n2 < b.seats.length
 ·obtain ⟨s, hs1⟩ := some_at hs2
  by_cases hA : 0 ≤ s.epoch ∧ s.epoch ≤ 300
  ·conv => whnf
   refine W.sq ?_
   refine g 160 164 [] ?_
   conv => whnf
   refine ⟨⟨I, I, I, I, I, I⟩, ?_⟩
   refine W.cn ?_
   conv => whnf
   refine ⟨fun h15 => ?_, fun h15 => ?_⟩
   replace h15 := dt h15
   simp only [List.length_map] at h15
   refine W.skip ?_
   refine W.sq ?_
   refine W.blk ?_
   refine g 164 174 [.x (seatT s), .call (V.b (decide ((0 : Int) ≤ Seat.epoch s ∧ Seat.epoch s ≤ (300 : Int)))) ([[], [], []])] ?_
   conv => whnf
   refine ⟨⟨I, I, I, ⟨(by omega), ixl (by assumption)⟩, I, I, ⟨⟨I, I, I, I⟩, I, ⟨⟨I, I⟩, ⟨I, I⟩, ⟨I, I⟩, I⟩, ⟨I, I⟩, Go.K.c_spec_l2In _ _ _⟩, I, I⟩, ?_⟩
   refine W.cn ?_
   conv => whnf
   refine ⟨noT (notF (by omega)), fun _ => ?_⟩
   refine W.skip ?_
   refine rg [.i ((↑n2 : Int) + (1 : Int))] ?_
   conv => whnf
   refine ⟨⟨I, w64 (by omega) (by omega), I, I⟩, ?_⟩
   rotate_left 1
   replace h15 := df h15
   simp only [List.length_map] at h15
   omega
   refine ⟨n2 + 1, [some 2, some 3], [], ⟨rfl, ⟨rfl, rfl, rfl, rfl, rfl, rfl, I⟩, ⟨⟨rfl, ⟨rfl, ⟨rfl, ⟨rfl, ⟨rfl, ⟨rfl, ⟨rfl, ⟨rfl, ⟨rfl, ⟨rfl, ⟨rfl, ⟨rfl, ⟨rfl, I⟩⟩⟩⟩⟩⟩⟩⟩⟩⟩⟩⟩⟩, ⟨⟨rfl, ⟨rfl, I⟩⟩, I⟩⟩, I⟩, ?_, ?_⟩
   rotate_left 1
   (dsimp only; omega)
   dsimp only
   exact ⟨by omega, mem_step hc2 hs1 hA⟩
  ·conv => whnf
   refine W.sq ?_
   refine g 160 164 [] ?_
   conv => whnf
   refine ⟨⟨I, I, I, I, I, I⟩, ?_⟩
   refine W.cn ?_
   conv => whnf
   refine ⟨fun h15 => ?_, fun h15 => ?_⟩
   replace h15 := dt h15
   simp only [List.length_map] at h15
   refine W.skip ?_
   refine W.sq ?_
   refine W.blk ?_
   refine g 164 174 [.x (seatT s), .call (V.b (decide ((0 : Int) ≤ Seat.epoch s ∧ Seat.epoch s ≤ (300 : Int)))) ([[], [], []])] ?_
   conv => whnf
   refine ⟨⟨I, I, I, ⟨(by omega), ixl (by assumption)⟩, I, I, ⟨⟨I, I, I, I⟩, I, ⟨⟨I, I⟩, ⟨I, I⟩, ⟨I, I⟩, I⟩, ⟨I, I⟩, Go.K.c_spec_l2In _ _ _⟩, I, I⟩, ?_⟩
   refine W.cn ?_
   conv => whnf
   refine ⟨fun _ => ?_, noF (notT (by omega))⟩
   refine g 174 175 [] ?_
   conv => whnf
   refine ⟨⟨I, I⟩, ?_⟩
   refine W.ret ?_
   refine EndsW.rt ?_
   conv => whnf
   refine ⟨⟨I, I, I⟩, ?_, rfl⟩
   rotate_left 1
   replace h15 := df h15
   simp only [List.length_map] at h15
   omega
   exact vbf (no_up hup (seats_no hs1 hA))
 have hseats : ∀ s ∈ b.seats, 0 ≤ s.epoch ∧ s.epoch ≤ 300 := by rw [take_all (by omega)] at hc2; exact hc2
 conv => whnf
 refine W.sq ?_
 refine g 160 164 [] ?_
 conv => whnf
 refine ⟨⟨I, I, I, I, I, I⟩, ?_⟩
 refine W.cn ?_
 conv => whnf
 refine ⟨fun h15 => ?_, fun h15 => ?_⟩
 replace h15 := dt h15
 simp only [List.length_map] at h15
 omega
 replace h15 := df h15
 simp only [List.length_map] at h15
 refine W.exit ?_
 refine W.sq ?_
 refine g 8 9 [] ?_
 conv => whnf
 refine ⟨⟨I, I⟩, ?_⟩
 refine W.blk ?_
 refine W.lp (fun s (n : Nat) => ⟨[(2, s.s 2), (3, s.s 3), (6, s.s 6), (9, .i n), (12, s.s 12), (20, s.s 20)], [(2, [s.c 2 0, s.c 2 1, s.c 2 2, s.c 2 3, s.c 2 4, s.c 2 5, s.c 2 6, s.c 2 7, s.c 2 8, s.c 2 9, s.c 2 10, s.c 2 11]), (3, [s.c 3 0])], []⟩) (fun (n : Nat) => n ≤ b.owed.length ∧ ∀ o ∈ b.owed.take n, OwedOk b p.tasks o) (fun (n : Nat) => b.owed.length - n) (0) [some 2, some 3] [] ⟨rfl, ⟨rfl, rfl, rfl, rfl, rfl, rfl, I⟩, ⟨⟨rfl, ⟨rfl, ⟨rfl, ⟨rfl, ⟨rfl, ⟨rfl, ⟨rfl, ⟨rfl, ⟨rfl, ⟨rfl, ⟨rfl, ⟨rfl, ⟨rfl, I⟩⟩⟩⟩⟩⟩⟩⟩⟩⟩⟩⟩⟩, ⟨⟨rfl, ⟨rfl, I⟩⟩, I⟩⟩, I⟩ (by simp) ?_
 rintro n3 ⟨hn3, hc3⟩
 by_cases ho2 : n3 < b.owed.length
 ·obtain ⟨o, ho1⟩ := some_at ho2
  by_cases hA : 1 ≤ o.worker ∧ o.worker ≤ b.workers
  ·by_cases hB : 1 ≤ o.lease ∧ o.lease ≤ 300000000
   ·by_cases hC : 0 ≤ o.task ∧ o.task ≤ (p.tasks.length : Int) - 1
    ·obtain ⟨y, hy0⟩ := some_at (xs := b.results) (n := o.task.toNat) (by omega)
     by_cases hD : y = emp
     ·conv => whnf
      refine W.sq ?_
      refine g 175 179 [] ?_
      conv => whnf
      refine ⟨⟨I, I, I, I, I, I⟩, ?_⟩
      refine W.cn ?_
      conv => whnf
      refine ⟨fun _ => ?_, noF (by simp [*])⟩
      refine W.skip ?_
      refine W.sq ?_
      refine W.blk ?_
      refine g 179 187 [.x (owedT o)] ?_
      conv => whnf
      refine ⟨⟨I, I, I, ⟨(by omega), ixl (by assumption)⟩, I, I, ⟨I, I, I, I⟩, I⟩, ?_⟩
      refine g 187 215 [.call (V.b (decide ((1 : Int) ≤ Owed.worker o ∧ Owed.worker o ≤ Boss.workers b))) ([[], [], []]), .b (false), .b (false), .b (false), .call (V.b (decide ((1 : Int) ≤ Owed.lease o ∧ Owed.lease o ≤ (300000000 : Int)))) ([[]]), .b (false), .b (false), .b (false), .b (false), .b (false), .b (false), .i ((↑(List.length (List.map taskT (Plan.tasks p))) : Int) - (1 : Int)), .b (false), .call (V.b (decide ((0 : Int) ≤ Owed.task o ∧ Owed.task o ≤ (↑(List.length (List.map taskT (Plan.tasks p))) : Int) - (1 : Int)))) ([[], [], []]), .b (false), .b (false), .b (false), .b (false), .b (false), .b (false), .b (false), .x (strT y), .b (false), .b (false), .b (false)] ?_
      conv => whnf
      refine ⟨⟨I, I, I, I, ⟨⟨I, I, I, I⟩, I, ⟨⟨I, I⟩, ⟨I, I⟩, ⟨I, I⟩, I⟩, ⟨I, I⟩, Go.K.c_spec_l2In _ _ _⟩, I, I, ⟨notF (by omega), I⟩, ⟨notF (by omega), I⟩, ⟨notF (by omega), ⟨I, I⟩, I, ⟨⟨I, I⟩, I⟩, ⟨I, I⟩, Go.K.c_spec_l2LeaseOk _⟩, ⟨notF (by omega), I⟩, notF (by omega), I, ⟨notF (by omega), I⟩, ⟨notF (by omega), I⟩, ⟨notF (by omega), I⟩, ⟨notF (by omega), w64 (by simp only [lens]; omega) (by simp only [lens]; omega)⟩, ⟨notF (by omega), ⟨I, I, I, I⟩, I, ⟨⟨I, I⟩, ⟨I, I⟩, ⟨I, I⟩, I⟩, ⟨I, I⟩, Go.K.c_spec_l2In _ _ _⟩, ⟨notF (by omega), I⟩, notF (by omega), I, ⟨(by simp [*]), I⟩, ⟨(by simp [*]), I⟩, ⟨(by simp [*]), I⟩, ⟨(by simp [*]), I⟩, ⟨(by simp [*]), (by omega), ixl (by assumption)⟩, ⟨(by simp [*]), I⟩, ⟨(by simp [*]), I⟩, (by simp [*]), I⟩, ?_⟩
      refine W.cn ?_
      conv => whnf
      refine ⟨fun _ => ?_, noF (dT (by omega))⟩
      refine g 10 11 [] ?_
      conv => whnf
      refine ⟨⟨I, I⟩, ?_⟩
      refine W.ret ?_
      refine EndsW.rt ?_
      conv => whnf
      refine ⟨⟨I, I, I⟩, ?_, rfl⟩
      exact vbf (no_up hup (owed_no ho1 (fun q => q.res (by rw [at_get' hy0]; exact hD))))
     ·conv => whnf
      refine W.sq ?_
      refine g 175 179 [] ?_
      conv => whnf
      refine ⟨⟨I, I, I, I, I, I⟩, ?_⟩
      refine W.cn ?_
      conv => whnf
      refine ⟨fun _ => ?_, noF (by simp [*])⟩
      refine W.skip ?_
      refine W.sq ?_
      refine W.blk ?_
      refine g 179 187 [.x (owedT o)] ?_
      conv => whnf
      refine ⟨⟨I, I, I, ⟨(by omega), ixl (by assumption)⟩, I, I, ⟨I, I, I, I⟩, I⟩, ?_⟩
      refine g 187 215 [.call (V.b (decide ((1 : Int) ≤ Owed.worker o ∧ Owed.worker o ≤ Boss.workers b))) ([[], [], []]), .b (false), .b (false), .b (false), .call (V.b (decide ((1 : Int) ≤ Owed.lease o ∧ Owed.lease o ≤ (300000000 : Int)))) ([[]]), .b (false), .b (false), .b (false), .b (false), .b (false), .b (false), .i ((↑(List.length (List.map taskT (Plan.tasks p))) : Int) - (1 : Int)), .b (false), .call (V.b (decide ((0 : Int) ≤ Owed.task o ∧ Owed.task o ≤ (↑(List.length (List.map taskT (Plan.tasks p))) : Int) - (1 : Int)))) ([[], [], []]), .b (false), .b (false), .b (false), .b (false), .b (false), .b (false), .b (false), .x (strT y), .b (false), .b (false), .b (false)] ?_
      conv => whnf
      refine ⟨⟨I, I, I, I, ⟨⟨I, I, I, I⟩, I, ⟨⟨I, I⟩, ⟨I, I⟩, ⟨I, I⟩, I⟩, ⟨I, I⟩, Go.K.c_spec_l2In _ _ _⟩, I, I, ⟨notF (by omega), I⟩, ⟨notF (by omega), I⟩, ⟨notF (by omega), ⟨I, I⟩, I, ⟨⟨I, I⟩, I⟩, ⟨I, I⟩, Go.K.c_spec_l2LeaseOk _⟩, ⟨notF (by omega), I⟩, notF (by omega), I, ⟨notF (by omega), I⟩, ⟨notF (by omega), I⟩, ⟨notF (by omega), I⟩, ⟨notF (by omega), w64 (by simp only [lens]; omega) (by simp only [lens]; omega)⟩, ⟨notF (by omega), ⟨I, I, I, I⟩, I, ⟨⟨I, I⟩, ⟨I, I⟩, ⟨I, I⟩, I⟩, ⟨I, I⟩, Go.K.c_spec_l2In _ _ _⟩, ⟨notF (by omega), I⟩, notF (by omega), I, ⟨(by simp [*]), I⟩, ⟨(by simp [*]), I⟩, ⟨(by simp [*]), I⟩, ⟨(by simp [*]), I⟩, ⟨(by simp [*]), (by omega), ixl (by assumption)⟩, ⟨(by simp [*]), I⟩, ⟨(by simp [*]), I⟩, (by simp [*]), I⟩, ?_⟩
      refine W.cn ?_
      conv => whnf
      refine ⟨noT (dF (by omega)), fun _ => ?_⟩
      refine W.skip ?_
      refine rg [.i ((↑n3 : Int) + (1 : Int))] ?_
      conv => whnf
      refine ⟨⟨I, w64 (by omega) (by omega), I, I⟩, ?_⟩
      refine ⟨n3 + 1, [some 2, some 3], [], ⟨rfl, ⟨rfl, rfl, rfl, rfl, rfl, rfl, I⟩, ⟨⟨rfl, ⟨rfl, ⟨rfl, ⟨rfl, ⟨rfl, ⟨rfl, ⟨rfl, ⟨rfl, ⟨rfl, ⟨rfl, ⟨rfl, ⟨rfl, ⟨rfl, I⟩⟩⟩⟩⟩⟩⟩⟩⟩⟩⟩⟩⟩, ⟨⟨rfl, ⟨rfl, I⟩⟩, I⟩⟩, I⟩, ?_, ?_⟩
      rotate_left 1
      (dsimp only; omega)
      dsimp only
      exact ⟨by omega, mem_step hc3 ho1 ⟨hA, hB, hC, by rw [at_get' hy0]; exact hD⟩⟩
    ·conv => whnf
     refine W.sq ?_
     refine g 175 179 [] ?_
     conv => whnf
     refine ⟨⟨I, I, I, I, I, I⟩, ?_⟩
     refine W.cn ?_
     conv => whnf
     refine ⟨fun _ => ?_, noF (by simp [*])⟩
     refine W.skip ?_
     refine W.sq ?_
     refine W.blk ?_
     refine g 179 187 [.x (owedT o)] ?_
     conv => whnf
     refine ⟨⟨I, I, I, ⟨(by omega), ixl (by assumption)⟩, I, I, ⟨I, I, I, I⟩, I⟩, ?_⟩
     refine g 187 215 [.call (V.b (decide ((1 : Int) ≤ Owed.worker o ∧ Owed.worker o ≤ Boss.workers b))) ([[], [], []]), .b (false), .b (false), .b (false), .call (V.b (decide ((1 : Int) ≤ Owed.lease o ∧ Owed.lease o ≤ (300000000 : Int)))) ([[]]), .b (false), .b (false), .b (false), .b (false), .b (false), .b (false), .i ((↑(List.length (List.map taskT (Plan.tasks p))) : Int) - (1 : Int)), .b (false), .call (V.b (decide ((0 : Int) ≤ Owed.task o ∧ Owed.task o ≤ (↑(List.length (List.map taskT (Plan.tasks p))) : Int) - (1 : Int)))) ([[], [], []]), .b (false), .b (false), .b (true), .b (true), .b (true), .b (true), .b (true), .b (true), .b (true), .b (true)] ?_
     conv => whnf
     refine ⟨⟨I, I, I, I, ⟨⟨I, I, I, I⟩, I, ⟨⟨I, I⟩, ⟨I, I⟩, ⟨I, I⟩, I⟩, ⟨I, I⟩, Go.K.c_spec_l2In _ _ _⟩, I, I, ⟨notF (by omega), I⟩, ⟨notF (by omega), I⟩, ⟨notF (by omega), ⟨I, I⟩, I, ⟨⟨I, I⟩, I⟩, ⟨I, I⟩, Go.K.c_spec_l2LeaseOk _⟩, ⟨notF (by omega), I⟩, notF (by omega), I, ⟨notF (by omega), I⟩, ⟨notF (by omega), I⟩, ⟨notF (by omega), I⟩, ⟨notF (by omega), w64 (by simp only [lens]; omega) (by simp only [lens]; omega)⟩, ⟨notF (by omega), ⟨I, I, I, I⟩, I, ⟨⟨I, I⟩, ⟨I, I⟩, ⟨I, I⟩, I⟩, ⟨I, I⟩, Go.K.c_spec_l2In _ _ _⟩, ⟨notF (by omega), I⟩, notF (by omega), I, (by simp [*]), (by simp [*]), (by simp [*]), (by simp [*]), (by simp [*]), (by simp [*]), (by simp [*]), (by simp [*]), I⟩, ?_⟩
     refine W.cn ?_
     conv => whnf
     refine ⟨fun _ => ?_, noF (rfl)⟩
     refine g 10 11 [] ?_
     conv => whnf
     refine ⟨⟨I, I⟩, ?_⟩
     refine W.ret ?_
     refine EndsW.rt ?_
     conv => whnf
     refine ⟨⟨I, I, I⟩, ?_, rfl⟩
     exact vbf (no_up hup (owed_no ho1 (fun q => hC q.task)))
   ·conv => whnf
    refine W.sq ?_
    refine g 175 179 [] ?_
    conv => whnf
    refine ⟨⟨I, I, I, I, I, I⟩, ?_⟩
    refine W.cn ?_
    conv => whnf
    refine ⟨fun _ => ?_, noF (by simp [*])⟩
    refine W.skip ?_
    refine W.sq ?_
    refine W.blk ?_
    refine g 179 187 [.x (owedT o)] ?_
    conv => whnf
    refine ⟨⟨I, I, I, ⟨(by omega), ixl (by assumption)⟩, I, I, ⟨I, I, I, I⟩, I⟩, ?_⟩
    refine g 187 215 [.call (V.b (decide ((1 : Int) ≤ Owed.worker o ∧ Owed.worker o ≤ Boss.workers b))) ([[], [], []]), .b (false), .b (false), .b (false), .call (V.b (decide ((1 : Int) ≤ Owed.lease o ∧ Owed.lease o ≤ (300000000 : Int)))) ([[]]), .b (false), .b (false), .b (true), .b (true), .b (true), .b (true), .b (true), .b (true), .b (true), .b (true), .b (true), .b (true), .b (true), .b (true), .b (true), .b (true), .b (true)] ?_
    conv => whnf
    refine ⟨⟨I, I, I, I, ⟨⟨I, I, I, I⟩, I, ⟨⟨I, I⟩, ⟨I, I⟩, ⟨I, I⟩, I⟩, ⟨I, I⟩, Go.K.c_spec_l2In _ _ _⟩, I, I, ⟨notF (by omega), I⟩, ⟨notF (by omega), I⟩, ⟨notF (by omega), ⟨I, I⟩, I, ⟨⟨I, I⟩, I⟩, ⟨I, I⟩, Go.K.c_spec_l2LeaseOk _⟩, ⟨notF (by omega), I⟩, notF (by omega), I, notT (by omega), notT (by omega), notT (by omega), notT (by omega), notT (by omega), notT (by omega), notT (by omega), I, rfl, rfl, rfl, rfl, rfl, rfl, rfl, rfl, I⟩, ?_⟩
    refine W.cn ?_
    conv => whnf
    refine ⟨fun _ => ?_, noF (rfl)⟩
    refine g 10 11 [] ?_
    conv => whnf
    refine ⟨⟨I, I⟩, ?_⟩
    refine W.ret ?_
    refine EndsW.rt ?_
    conv => whnf
    refine ⟨⟨I, I, I⟩, ?_, rfl⟩
    exact vbf (no_up hup (owed_no ho1 (fun q => hB q.lease)))
  ·conv => whnf
   refine W.sq ?_
   refine g 175 179 [] ?_
   conv => whnf
   refine ⟨⟨I, I, I, I, I, I⟩, ?_⟩
   refine W.cn ?_
   conv => whnf
   refine ⟨fun _ => ?_, noF (by simp [*])⟩
   refine W.skip ?_
   refine W.sq ?_
   refine W.blk ?_
   refine g 179 187 [.x (owedT o)] ?_
   conv => whnf
   refine ⟨⟨I, I, I, ⟨(by omega), ixl (by assumption)⟩, I, I, ⟨I, I, I, I⟩, I⟩, ?_⟩
   refine g 187 215 [.call (V.b (decide ((1 : Int) ≤ Owed.worker o ∧ Owed.worker o ≤ Boss.workers b))) ([[], [], []]), .b (true), .b (true), .b (true), .b (true), .b (true), .b (true), .b (true), .b (true), .b (true), .b (true), .b (true), .b (true), .b (true), .b (true), .b (true), .b (true), .b (true), .b (true), .b (true), .b (true)] ?_
   conv => whnf
   refine ⟨⟨I, I, I, I, ⟨⟨I, I, I, I⟩, I, ⟨⟨I, I⟩, ⟨I, I⟩, ⟨I, I⟩, I⟩, ⟨I, I⟩, Go.K.c_spec_l2In _ _ _⟩, I, I, notT (by omega), notT (by omega), notT (by omega), notT (by omega), notT (by omega), I, rfl, rfl, rfl, rfl, rfl, rfl, rfl, I, rfl, rfl, rfl, rfl, rfl, rfl, rfl, rfl, I⟩, ?_⟩
   refine W.cn ?_
   conv => whnf
   refine ⟨fun _ => ?_, noF (rfl)⟩
   refine g 10 11 [] ?_
   conv => whnf
   refine ⟨⟨I, I⟩, ?_⟩
   refine W.ret ?_
   refine EndsW.rt ?_
   conv => whnf
   refine ⟨⟨I, I, I⟩, ?_, rfl⟩
   exact vbf (no_up hup (owed_no ho1 (fun q => hA q.worker)))
 have howed : ∀ o ∈ b.owed, OwedOk b p.tasks o := by rw [take_all (by omega)] at hc3; exact hc3
 have cj := c_spec_l5JobsOk b p hc0 (by omega) (by omega) f3 f4 f7 g3
 by_cases hjobs : jobsTo b p.tasks b.jobs.length
 ·rw [decide_eq_true hjobs] at cj
  conv => whnf
  refine W.sq ?_
  refine g 175 179 [] ?_
  conv => whnf
  refine ⟨⟨I, I, I, I, I, I⟩, ?_⟩
  refine W.cn ?_
  conv => whnf
  refine ⟨noT (by simp [*]), fun _ => ?_⟩
  refine W.exit ?_
  refine g 6 219 [.call (V.b true) ([[], []])] ?_
  conv => whnf
  refine ⟨⟨I, I, ⟨⟨I, I, I⟩, I, ⟨⟨I, I, I, I, I, I, I, I, I, I, I, I, I⟩, ⟨I, I⟩, I⟩, ⟨I, I⟩, (by assumption)⟩, I, I⟩, ?_⟩
  refine W.ret ?_
  refine EndsW.rt ?_
  conv => whnf
  refine ⟨⟨I, I, I⟩, ?_, rfl⟩
  exact vbt ⟨hc0, f6, f7, hk, fun _ => ⟨f1, f2, f3, f4, f5, g1, g2, g3, g4, hjobs, hseats, howed⟩, fun e => by rw [hup] at e; cases e⟩
 ·rw [decide_eq_false hjobs] at cj
  conv => whnf
  refine W.sq ?_
  refine g 175 179 [] ?_
  conv => whnf
  refine ⟨⟨I, I, I, I, I, I⟩, ?_⟩
  refine W.cn ?_
  conv => whnf
  refine ⟨noT (by simp [*]), fun _ => ?_⟩
  refine W.exit ?_
  refine g 6 219 [.call (V.b false) ([[], []])] ?_
  conv => whnf
  refine ⟨⟨I, I, ⟨⟨I, I, I⟩, I, ⟨⟨I, I, I, I, I, I, I, I, I, I, I, I, I⟩, ⟨I, I⟩, I⟩, ⟨I, I⟩, (by assumption)⟩, I, I⟩, ?_⟩
  refine W.ret ?_
  refine EndsW.rt ?_
  conv => whnf
  refine ⟨⟨I, I, I⟩, ?_, rfl⟩
  exact vbf (no_up hup fun q => hjobs q.jobs)
end Go.K
end
section
set_option linter.unusedVariables false
set_option linter.unusedSimpArgs false
set_option maxHeartbeats 4000000
set_option maxRecDepth 20000
open Go Go.Tm Go.Proofs
namespace Go.K
structure Message where
 kind : Int
 frm : Int
 to : Int
 epoch : Int
 lease : Int
 task : Int
 text : ByteArray
 inputs : List ByteArray
 deriving DecidableEq
end Go.K
end
section
set_option linter.unusedVariables false
set_option linter.unusedSimpArgs false
set_option maxHeartbeats 4000000
set_option maxRecDepth 20000
open Go Go.Tm Go.Proofs
namespace Go.K
attribute [local irreducible] ByteArray.extract
end Go.K
end
section
set_option linter.unusedVariables false
set_option linter.unusedSimpArgs false
set_option maxHeartbeats 4000000
set_option maxRecDepth 20000
open Go Go.Tm Go.Proofs
namespace Go.K
attribute [local irreducible] ByteArray.extract
end Go.K
end
section
set_option linter.unusedVariables false
set_option linter.unusedSimpArgs false
set_option maxHeartbeats 4000000
set_option maxRecDepth 20000
open Go Go.Tm Go.Proofs
namespace Go.K
attribute [local irreducible] ByteArray.extract
end Go.K
end
section
set_option linter.unusedVariables false
set_option linter.unusedSimpArgs false
set_option maxHeartbeats 4000000
set_option maxRecDepth 20000
open Go Go.Tm Go.Proofs
namespace Go.K
structure Acted where
 worker : Worker
 out : List Message
 deriving DecidableEq
end Go.K
end
section
set_option linter.unusedVariables false
set_option linter.unusedSimpArgs false
set_option maxHeartbeats 4000000
set_option maxRecDepth 20000
open Go Go.Tm Go.Proofs
namespace Go.K
theorem c_laws_szLog (x : Log) (left : Int) (hw : logWf x) (h : left ≤ 1048576) (h0 : 0 ≤ left) : F n_laws_szLog [.val (logR x), .val (.i left)] (.i (if left - logSz x < 0 then -1 else left - logSz x)) [[], []] := by
 have hn0 := totS_nn x.safe
 have hn1 := totS_nn x.loose
 obtain ⟨hw0, hw1, hw2, hw3⟩ := hw
 have hz : logSz x = ((x.safe.length : Int) + totS x.safe) + ((x.loose.length : Int) + totS x.loose) := rfl
 refine i_laws_szLog ?_
 conv => whnf
 refine g 0 1 [] ?_
 conv => whnf
 refine ⟨⟨⟨I, I, I⟩, I, I⟩, ?_⟩
 refine g 5 9 [.call (V.i (if left - (↑(List.length (Log.safe x)) : Int) - totS (Log.safe x) < (0 : Int) then (-1 : Int) else left - (↑(List.length (Log.safe x)) : Int) - totS (Log.safe x))) ([[], []])] ?_
 conv => whnf
 refine ⟨⟨I, I, I, ⟨⟨I, I, I⟩, I, ⟨⟨I, I⟩, ⟨I, I⟩, I⟩, ⟨I, I⟩, Go.K.c_laws_szStringS _ _ (by omega) (by omega) (by omega) (by omega)⟩, I, I⟩, ?_⟩
 refine W.sq ?_
 refine g 9 10 [] ?_
 conv => whnf
 refine ⟨⟨I, I, I⟩, ?_⟩
 refine W.cn ?_
 conv => whnf
 refine ⟨fun h1 => ?_, fun h1 => ?_⟩
 replace h1 := dt h1
 refine g 10 11 [] ?_
 conv => whnf
 refine ⟨⟨I, I⟩, ?_⟩
 refine W.ret ?_
 refine EndsW.rt ?_
 conv => whnf
 refine ⟨⟨I, I, I⟩, ?_, rfl⟩
 exact vi (by omega)
 replace h1 := df h1
 refine W.skip ?_
 refine g 10 15 [.call (V.i (if (if left - (↑(List.length (Log.safe x)) : Int) - totS (Log.safe x) < (0 : Int) then (-1 : Int) else left - (↑(List.length (Log.safe x)) : Int) - totS (Log.safe x)) - (↑(List.length (Log.loose x)) : Int) - totS (Log.loose x) < (0 : Int) then (-1 : Int) else (if left - (↑(List.length (Log.safe x)) : Int) - totS (Log.safe x) < (0 : Int) then (-1 : Int) else left - (↑(List.length (Log.safe x)) : Int) - totS (Log.safe x)) - (↑(List.length (Log.loose x)) : Int) - totS (Log.loose x))) ([[], []])] ?_
 conv => whnf
 refine ⟨⟨I, I, I, ⟨⟨I, I, I⟩, I, ⟨⟨I, I⟩, ⟨I, I⟩, I⟩, ⟨I, I⟩, Go.K.c_laws_szStringS _ _ (by omega) (by omega) (by omega) (by omega)⟩, I, I⟩, ?_⟩
 refine W.sq ?_
 refine g 2 3 [] ?_
 conv => whnf
 refine ⟨⟨I, I, I⟩, ?_⟩
 refine W.cn ?_
 conv => whnf
 refine ⟨fun h2 => ?_, fun h2 => ?_⟩
 replace h2 := dt h2
 refine g 15 17 [] ?_
 conv => whnf
 refine ⟨⟨I, I⟩, ?_⟩
 refine W.ret ?_
 refine EndsW.rt ?_
 conv => whnf
 refine ⟨⟨I, I, I⟩, ?_, rfl⟩
 exact vi (by omega)
 replace h2 := df h2
 refine W.skip ?_
 refine g 15 18 [] ?_
 conv => whnf
 refine ⟨⟨I, I, I⟩, ?_⟩
 refine W.ret ?_
 refine EndsW.rt ?_
 conv => whnf
 refine ⟨⟨I, I, I⟩, ?_, rfl⟩
 exact vi (by omega)
theorem c_laws_szJobS (xs : List Job) (left : Int) (hl : xs.length ≤ 9223372036854775807) (h : left ≤ 1048576) (h0 : 0 ≤ left) : F n_laws_szJobS [.val (.t (.slc jobK (xs.map jobT))), .val (.i left)] (.i (if left - xs.length < 0 then -1 else left - xs.length)) [[], []] := by
 refine i_laws_szJobS ?_
 conv => whnf
 refine g 0 0 [] ?_
 conv => whnf
 refine ⟨⟨I, I⟩, ?_⟩
 refine g 5 9 [.i (left - (↑(List.length (List.map jobT xs)) : Int))] ?_
 conv => whnf
 refine ⟨⟨I, I, I, w64 (by simp only [lens]; omega) (by simp only [lens]; omega), I, I⟩, ?_⟩
 refine W.sq ?_
 refine g 0 1 [] ?_
 conv => whnf
 refine ⟨⟨I, I, I⟩, ?_⟩
 refine W.cn ?_
 conv => whnf
 refine ⟨fun h1 => ?_, fun h1 => ?_⟩
 replace h1 := dt h1
 simp only [List.length_map] at h1
 refine g 9 11 [] ?_
 conv => whnf
 refine ⟨⟨I, I⟩, ?_⟩
 refine W.ret ?_
 refine EndsW.rt ?_
 conv => whnf
 refine ⟨⟨I, I, I⟩, ?_, rfl⟩
 exact vi (by omega)
 replace h1 := df h1
 simp only [List.length_map] at h1
 refine W.skip ?_
 refine g 9 12 [] ?_
 conv => whnf
 refine ⟨⟨I, I, I⟩, ?_⟩
 refine W.ret ?_
 refine EndsW.rt ?_
 conv => whnf
 refine ⟨⟨I, I, I⟩, ?_, rfl⟩
 (simp [*]; done)
theorem c_laws_szSeatS (xs : List Seat) (left : Int) (hl : xs.length ≤ 9223372036854775807) (h : left ≤ 1048576) (h0 : 0 ≤ left) : F n_laws_szSeatS [.val (.t (.slc seatK (xs.map seatT))), .val (.i left)] (.i (if left - xs.length < 0 then -1 else left - xs.length)) [[], []] := by
 refine i_laws_szSeatS ?_
 conv => whnf
 refine g 0 0 [] ?_
 conv => whnf
 refine ⟨⟨I, I⟩, ?_⟩
 refine g 5 9 [.i (left - (↑(List.length (List.map seatT xs)) : Int))] ?_
 conv => whnf
 refine ⟨⟨I, I, I, w64 (by simp only [lens]; omega) (by simp only [lens]; omega), I, I⟩, ?_⟩
 refine W.sq ?_
 refine g 0 1 [] ?_
 conv => whnf
 refine ⟨⟨I, I, I⟩, ?_⟩
 refine W.cn ?_
 conv => whnf
 refine ⟨fun h1 => ?_, fun h1 => ?_⟩
 replace h1 := dt h1
 simp only [List.length_map] at h1
 refine g 9 11 [] ?_
 conv => whnf
 refine ⟨⟨I, I⟩, ?_⟩
 refine W.ret ?_
 refine EndsW.rt ?_
 conv => whnf
 refine ⟨⟨I, I, I⟩, ?_, rfl⟩
 exact vi (by omega)
 replace h1 := df h1
 simp only [List.length_map] at h1
 refine W.skip ?_
 refine g 9 12 [] ?_
 conv => whnf
 refine ⟨⟨I, I, I⟩, ?_⟩
 refine W.ret ?_
 refine EndsW.rt ?_
 conv => whnf
 refine ⟨⟨I, I, I⟩, ?_, rfl⟩
 (simp [*]; done)
theorem c_laws_szOwedS (xs : List Owed) (left : Int) (hl : xs.length ≤ 9223372036854775807) (h : left ≤ 1048576) (h0 : 0 ≤ left) : F n_laws_szOwedS [.val (.t (.slc owedK (xs.map owedT))), .val (.i left)] (.i (if left - xs.length < 0 then -1 else left - xs.length)) [[], []] := by
 refine i_laws_szOwedS ?_
 conv => whnf
 refine g 0 0 [] ?_
 conv => whnf
 refine ⟨⟨I, I⟩, ?_⟩
 refine g 5 9 [.i (left - (↑(List.length (List.map owedT xs)) : Int))] ?_
 conv => whnf
 refine ⟨⟨I, I, I, w64 (by simp only [lens]; omega) (by simp only [lens]; omega), I, I⟩, ?_⟩
 refine W.sq ?_
 refine g 0 1 [] ?_
 conv => whnf
 refine ⟨⟨I, I, I⟩, ?_⟩
 refine W.cn ?_
 conv => whnf
 refine ⟨fun h1 => ?_, fun h1 => ?_⟩
 replace h1 := dt h1
 simp only [List.length_map] at h1
 refine g 9 11 [] ?_
 conv => whnf
 refine ⟨⟨I, I⟩, ?_⟩
 refine W.ret ?_
 refine EndsW.rt ?_
 conv => whnf
 refine ⟨⟨I, I, I⟩, ?_, rfl⟩
 exact vi (by omega)
 replace h1 := df h1
 simp only [List.length_map] at h1
 refine W.skip ?_
 refine g 9 12 [] ?_
 conv => whnf
 refine ⟨⟨I, I, I⟩, ?_⟩
 refine W.ret ?_
 refine EndsW.rt ?_
 conv => whnf
 refine ⟨⟨I, I, I⟩, ?_, rfl⟩
 (simp [*]; done)
theorem c_laws_szBoss (x : Boss) (left : Int) (hw : bossWf x) (h : left ≤ 1048576) (h0 : 0 ≤ left) : F n_laws_szBoss [.val (bossR x), .val (.i left)] (.i (if left - bossSz x < 0 then -1 else left - bossSz x)) [[], []] := by
 have hn0 := logSz_nn x.log
 have hn1 := totS_nn x.results
 obtain ⟨hw0, hw1, hw2, hw3, hw4, hw5⟩ := hw
 have hz : bossSz x = logSz x.log + ((x.results.length : Int) + totS x.results) + ((x.jobs.length : Int)) + ((x.seats.length : Int)) + ((x.owed.length : Int)) := rfl
 refine i_laws_szBoss ?_
 conv => whnf
 refine g 0 1 [] ?_
 conv => whnf
 refine ⟨⟨⟨I, I, I, I, I, I, I, I, I, I, I, I, I⟩, I, I⟩, ?_⟩
 refine g 5 9 [.call (V.i (if left - logSz (Boss.log x) < (0 : Int) then (-1 : Int) else left - logSz (Boss.log x))) ([[], []])] ?_
 conv => whnf
 refine ⟨⟨I, I, I, ⟨⟨I, I, I⟩, I, ⟨⟨I, I, I⟩, ⟨I, I⟩, I⟩, ⟨I, I⟩, Go.K.c_laws_szLog _ _ (by omega) (by omega) (by omega)⟩, I, I⟩, ?_⟩
 refine W.sq ?_
 refine g 9 10 [] ?_
 conv => whnf
 refine ⟨⟨I, I, I⟩, ?_⟩
 refine W.cn ?_
 conv => whnf
 refine ⟨fun h1 => ?_, fun h1 => ?_⟩
 replace h1 := dt h1
 refine g 10 11 [] ?_
 conv => whnf
 refine ⟨⟨I, I⟩, ?_⟩
 refine W.ret ?_
 refine EndsW.rt ?_
 conv => whnf
 refine ⟨⟨I, I, I⟩, ?_, rfl⟩
 exact vi (by omega)
 replace h1 := df h1
 refine W.skip ?_
 refine g 10 15 [.call (V.i (if (if left - logSz (Boss.log x) < (0 : Int) then (-1 : Int) else left - logSz (Boss.log x)) - (↑(List.length (Boss.results x)) : Int) - totS (Boss.results x) < (0 : Int) then (-1 : Int) else (if left - logSz (Boss.log x) < (0 : Int) then (-1 : Int) else left - logSz (Boss.log x)) - (↑(List.length (Boss.results x)) : Int) - totS (Boss.results x))) ([[], []])] ?_
 conv => whnf
 refine ⟨⟨I, I, I, ⟨⟨I, I, I⟩, I, ⟨⟨I, I⟩, ⟨I, I⟩, I⟩, ⟨I, I⟩, Go.K.c_laws_szStringS _ _ (by omega) (by omega) (by omega) (by omega)⟩, I, I⟩, ?_⟩
 refine W.sq ?_
 refine g 15 16 [] ?_
 conv => whnf
 refine ⟨⟨I, I, I⟩, ?_⟩
 refine W.cn ?_
 conv => whnf
 refine ⟨fun h2 => ?_, fun h2 => ?_⟩
 replace h2 := dt h2
 refine g 16 17 [] ?_
 conv => whnf
 refine ⟨⟨I, I⟩, ?_⟩
 refine W.ret ?_
 refine EndsW.rt ?_
 conv => whnf
 refine ⟨⟨I, I, I⟩, ?_, rfl⟩
 exact vi (by omega)
 replace h2 := df h2
 refine W.skip ?_
 refine g 16 21 [.call (V.i (if (if (if left - logSz (Boss.log x) < (0 : Int) then (-1 : Int) else left - logSz (Boss.log x)) - (↑(List.length (Boss.results x)) : Int) - totS (Boss.results x) < (0 : Int) then (-1 : Int) else (if left - logSz (Boss.log x) < (0 : Int) then (-1 : Int) else left - logSz (Boss.log x)) - (↑(List.length (Boss.results x)) : Int) - totS (Boss.results x)) - (↑(List.length (Boss.jobs x)) : Int) < (0 : Int) then (-1 : Int) else (if (if left - logSz (Boss.log x) < (0 : Int) then (-1 : Int) else left - logSz (Boss.log x)) - (↑(List.length (Boss.results x)) : Int) - totS (Boss.results x) < (0 : Int) then (-1 : Int) else (if left - logSz (Boss.log x) < (0 : Int) then (-1 : Int) else left - logSz (Boss.log x)) - (↑(List.length (Boss.results x)) : Int) - totS (Boss.results x)) - (↑(List.length (Boss.jobs x)) : Int))) ([[], []])] ?_
 conv => whnf
 refine ⟨⟨I, I, I, ⟨⟨I, I, I⟩, I, ⟨⟨I, I⟩, ⟨I, I⟩, I⟩, ⟨I, I⟩, Go.K.c_laws_szJobS _ _ (by omega) (by omega) (by omega)⟩, I, I⟩, ?_⟩
 refine W.sq ?_
 refine g 21 22 [] ?_
 conv => whnf
 refine ⟨⟨I, I, I⟩, ?_⟩
 refine W.cn ?_
 conv => whnf
 refine ⟨fun h3 => ?_, fun h3 => ?_⟩
 replace h3 := dt h3
 refine g 22 23 [] ?_
 conv => whnf
 refine ⟨⟨I, I⟩, ?_⟩
 refine W.ret ?_
 refine EndsW.rt ?_
 conv => whnf
 refine ⟨⟨I, I, I⟩, ?_, rfl⟩
 exact vi (by omega)
 replace h3 := df h3
 refine W.skip ?_
 refine g 22 27 [.call (V.i (if (if (if (if left - logSz (Boss.log x) < (0 : Int) then (-1 : Int) else left - logSz (Boss.log x)) - (↑(List.length (Boss.results x)) : Int) - totS (Boss.results x) < (0 : Int) then (-1 : Int) else (if left - logSz (Boss.log x) < (0 : Int) then (-1 : Int) else left - logSz (Boss.log x)) - (↑(List.length (Boss.results x)) : Int) - totS (Boss.results x)) - (↑(List.length (Boss.jobs x)) : Int) < (0 : Int) then (-1 : Int) else (if (if left - logSz (Boss.log x) < (0 : Int) then (-1 : Int) else left - logSz (Boss.log x)) - (↑(List.length (Boss.results x)) : Int) - totS (Boss.results x) < (0 : Int) then (-1 : Int) else (if left - logSz (Boss.log x) < (0 : Int) then (-1 : Int) else left - logSz (Boss.log x)) - (↑(List.length (Boss.results x)) : Int) - totS (Boss.results x)) - (↑(List.length (Boss.jobs x)) : Int)) - (↑(List.length (Boss.seats x)) : Int) < (0 : Int) then (-1 : Int) else (if (if (if left - logSz (Boss.log x) < (0 : Int) then (-1 : Int) else left - logSz (Boss.log x)) - (↑(List.length (Boss.results x)) : Int) - totS (Boss.results x) < (0 : Int) then (-1 : Int) else (if left - logSz (Boss.log x) < (0 : Int) then (-1 : Int) else left - logSz (Boss.log x)) - (↑(List.length (Boss.results x)) : Int) - totS (Boss.results x)) - (↑(List.length (Boss.jobs x)) : Int) < (0 : Int) then (-1 : Int) else (if (if left - logSz (Boss.log x) < (0 : Int) then (-1 : Int) else left - logSz (Boss.log x)) - (↑(List.length (Boss.results x)) : Int) - totS (Boss.results x) < (0 : Int) then (-1 : Int) else (if left - logSz (Boss.log x) < (0 : Int) then (-1 : Int) else left - logSz (Boss.log x)) - (↑(List.length (Boss.results x)) : Int) - totS (Boss.results x)) - (↑(List.length (Boss.jobs x)) : Int)) - (↑(List.length (Boss.seats x)) : Int))) ([[], []])] ?_
 conv => whnf
 refine ⟨⟨I, I, I, ⟨⟨I, I, I⟩, I, ⟨⟨I, I⟩, ⟨I, I⟩, I⟩, ⟨I, I⟩, Go.K.c_laws_szSeatS _ _ (by omega) (by omega) (by omega)⟩, I, I⟩, ?_⟩
 refine W.sq ?_
 refine g 27 28 [] ?_
 conv => whnf
 refine ⟨⟨I, I, I⟩, ?_⟩
 refine W.cn ?_
 conv => whnf
 refine ⟨fun h4 => ?_, fun h4 => ?_⟩
 replace h4 := dt h4
 refine g 28 29 [] ?_
 conv => whnf
 refine ⟨⟨I, I⟩, ?_⟩
 refine W.ret ?_
 refine EndsW.rt ?_
 conv => whnf
 refine ⟨⟨I, I, I⟩, ?_, rfl⟩
 exact vi (by omega)
 replace h4 := df h4
 refine W.skip ?_
 refine g 28 33 [.call (V.i (if (if (if (if (if left - logSz (Boss.log x) < (0 : Int) then (-1 : Int) else left - logSz (Boss.log x)) - (↑(List.length (Boss.results x)) : Int) - totS (Boss.results x) < (0 : Int) then (-1 : Int) else (if left - logSz (Boss.log x) < (0 : Int) then (-1 : Int) else left - logSz (Boss.log x)) - (↑(List.length (Boss.results x)) : Int) - totS (Boss.results x)) - (↑(List.length (Boss.jobs x)) : Int) < (0 : Int) then (-1 : Int) else (if (if left - logSz (Boss.log x) < (0 : Int) then (-1 : Int) else left - logSz (Boss.log x)) - (↑(List.length (Boss.results x)) : Int) - totS (Boss.results x) < (0 : Int) then (-1 : Int) else (if left - logSz (Boss.log x) < (0 : Int) then (-1 : Int) else left - logSz (Boss.log x)) - (↑(List.length (Boss.results x)) : Int) - totS (Boss.results x)) - (↑(List.length (Boss.jobs x)) : Int)) - (↑(List.length (Boss.seats x)) : Int) < (0 : Int) then (-1 : Int) else (if (if (if left - logSz (Boss.log x) < (0 : Int) then (-1 : Int) else left - logSz (Boss.log x)) - (↑(List.length (Boss.results x)) : Int) - totS (Boss.results x) < (0 : Int) then (-1 : Int) else (if left - logSz (Boss.log x) < (0 : Int) then (-1 : Int) else left - logSz (Boss.log x)) - (↑(List.length (Boss.results x)) : Int) - totS (Boss.results x)) - (↑(List.length (Boss.jobs x)) : Int) < (0 : Int) then (-1 : Int) else (if (if left - logSz (Boss.log x) < (0 : Int) then (-1 : Int) else left - logSz (Boss.log x)) - (↑(List.length (Boss.results x)) : Int) - totS (Boss.results x) < (0 : Int) then (-1 : Int) else (if left - logSz (Boss.log x) < (0 : Int) then (-1 : Int) else left - logSz (Boss.log x)) - (↑(List.length (Boss.results x)) : Int) - totS (Boss.results x)) - (↑(List.length (Boss.jobs x)) : Int)) - (↑(List.length (Boss.seats x)) : Int)) - (↑(List.length (Boss.owed x)) : Int) < (0 : Int) then (-1 : Int) else (if (if (if (if left - logSz (Boss.log x) < (0 : Int) then (-1 : Int) else left - logSz (Boss.log x)) - (↑(List.length (Boss.results x)) : Int) - totS (Boss.results x) < (0 : Int) then (-1 : Int) else (if left - logSz (Boss.log x) < (0 : Int) then (-1 : Int) else left - logSz (Boss.log x)) - (↑(List.length (Boss.results x)) : Int) - totS (Boss.results x)) - (↑(List.length (Boss.jobs x)) : Int) < (0 : Int) then (-1 : Int) else (if (if left - logSz (Boss.log x) < (0 : Int) then (-1 : Int) else left - logSz (Boss.log x)) - (↑(List.length (Boss.results x)) : Int) - totS (Boss.results x) < (0 : Int) then (-1 : Int) else (if left - logSz (Boss.log x) < (0 : Int) then (-1 : Int) else left - logSz (Boss.log x)) - (↑(List.length (Boss.results x)) : Int) - totS (Boss.results x)) - (↑(List.length (Boss.jobs x)) : Int)) - (↑(List.length (Boss.seats x)) : Int) < (0 : Int) then (-1 : Int) else (if (if (if left - logSz (Boss.log x) < (0 : Int) then (-1 : Int) else left - logSz (Boss.log x)) - (↑(List.length (Boss.results x)) : Int) - totS (Boss.results x) < (0 : Int) then (-1 : Int) else (if left - logSz (Boss.log x) < (0 : Int) then (-1 : Int) else left - logSz (Boss.log x)) - (↑(List.length (Boss.results x)) : Int) - totS (Boss.results x)) - (↑(List.length (Boss.jobs x)) : Int) < (0 : Int) then (-1 : Int) else (if (if left - logSz (Boss.log x) < (0 : Int) then (-1 : Int) else left - logSz (Boss.log x)) - (↑(List.length (Boss.results x)) : Int) - totS (Boss.results x) < (0 : Int) then (-1 : Int) else (if left - logSz (Boss.log x) < (0 : Int) then (-1 : Int) else left - logSz (Boss.log x)) - (↑(List.length (Boss.results x)) : Int) - totS (Boss.results x)) - (↑(List.length (Boss.jobs x)) : Int)) - (↑(List.length (Boss.seats x)) : Int)) - (↑(List.length (Boss.owed x)) : Int))) ([[], []])] ?_
 conv => whnf
 refine ⟨⟨I, I, I, ⟨⟨I, I, I⟩, I, ⟨⟨I, I⟩, ⟨I, I⟩, I⟩, ⟨I, I⟩, Go.K.c_laws_szOwedS _ _ (by omega) (by omega) (by omega)⟩, I, I⟩, ?_⟩
 refine W.sq ?_
 refine g 2 3 [] ?_
 conv => whnf
 refine ⟨⟨I, I, I⟩, ?_⟩
 refine W.cn ?_
 conv => whnf
 refine ⟨fun h5 => ?_, fun h5 => ?_⟩
 replace h5 := dt h5
 refine g 33 35 [] ?_
 conv => whnf
 refine ⟨⟨I, I⟩, ?_⟩
 refine W.ret ?_
 refine EndsW.rt ?_
 conv => whnf
 refine ⟨⟨I, I, I⟩, ?_, rfl⟩
 exact vi (by omega)
 replace h5 := df h5
 refine W.skip ?_
 refine g 33 36 [] ?_
 conv => whnf
 refine ⟨⟨I, I, I⟩, ?_⟩
 refine W.ret ?_
 refine EndsW.rt ?_
 conv => whnf
 refine ⟨⟨I, I, I⟩, ?_, rfl⟩
 exact vi (by omega)
theorem c_laws_toLog (x : Log) (h : logSz x ≤ 1048576) : F n_laws_toLog [.val (logR x)] (logO x) [[]] := by
 have hn0 := totS_nn x.safe
 have hn1 := totS_nn x.loose
 have hz : logSz x = ((x.safe.length : Int) + totS x.safe) + ((x.loose.length : Int) + totS x.loose) := rfl
 refine i_laws_toLog ?_
 conv => whnf
 refine g 0 1 [] ?_
 conv => whnf
 refine ⟨⟨⟨I, I, I⟩, I, I⟩, ?_⟩
 refine g 0 0 [] ?_
 conv => whnf
 refine ⟨⟨I, I⟩, ?_⟩
 refine g 4 8 [.call (V.own [false] (List.map strT (Log.safe x))) ([[]])] ?_
 conv => whnf
 refine ⟨⟨I, I, ⟨⟨I, I⟩, I, ⟨⟨I, I⟩, I⟩, ⟨I, I⟩, Go.K.c_laws_toStringS _ (by omega)⟩, I, ⟨I, I⟩, I⟩, ?_⟩
 refine g 8 12 [.call (V.own [false] (List.map strT (Log.loose x))) ([[]])] ?_
 conv => whnf
 refine ⟨⟨I, I, ⟨⟨I, I⟩, I, ⟨⟨I, I⟩, I⟩, ⟨I, I⟩, Go.K.c_laws_toStringS _ (by omega)⟩, I, ⟨I, I⟩, I⟩, ?_⟩
 refine g 3 13 [] ?_
 conv => whnf
 refine ⟨⟨I, ⟨I, I, I⟩, I⟩, ?_⟩
 refine W.ret ?_
 refine EndsW.rt ?_
 conv => whnf
 refine ⟨⟨I, I, I, I⟩, ?_, rfl⟩
 rfl
theorem c_laws_toJob (x : Job) : F n_laws_toJob [.val (jobR x)] (jobO x) [[]] := by
 refine i_laws_toJob ?_
 conv => whnf
 refine g 0 1 [] ?_
 conv => whnf
 refine ⟨⟨⟨I, I, I, I⟩, I, I⟩, ?_⟩
 refine g 0 0 [] ?_
 conv => whnf
 refine ⟨⟨I, I⟩, ?_⟩
 refine g 4 7 [] ?_
 conv => whnf
 refine ⟨⟨I, I, I, ⟨I, I⟩, I⟩, ?_⟩
 refine g 7 10 [] ?_
 conv => whnf
 refine ⟨⟨I, I, I, ⟨I, I⟩, I⟩, ?_⟩
 refine g 10 13 [] ?_
 conv => whnf
 refine ⟨⟨I, I, I, ⟨I, I⟩, I⟩, ?_⟩
 refine g 3 14 [] ?_
 conv => whnf
 refine ⟨⟨I, ⟨I, I, I, I⟩, I⟩, ?_⟩
 refine W.ret ?_
 refine EndsW.rt ?_
 conv => whnf
 refine ⟨⟨I, I, I, I, I⟩, ?_, rfl⟩
 rfl
theorem c_laws_toJobS (xs : List Job) (h : (xs.length : Int) ≤ 1048576) : F n_laws_toJobS [.val (.t (.slc jobK (xs.map jobT)))] (.own jobK (xs.map jobT)) [[]] := by
 refine i_laws_toJobS ?_
 conv => whnf
 refine g 0 0 [] ?_
 conv => whnf
 refine ⟨⟨I, I⟩, ?_⟩
 refine g 5 8 [.n (List.length (List.map jobT xs))] ?_
 conv => whnf
 refine ⟨⟨I, I, ⟨rfl, rfl, (by simp only [lens]; omega)⟩, I, I⟩, ?_⟩
 refine W.sq ?_
 refine g 0 0 [] ?_
 conv => whnf
 refine ⟨⟨I, I⟩, ?_⟩
 refine W.blk ?_
 refine W.lp (fun s (n : Nat) => ⟨[(0, s.s 0), (2, s.s 2), (3, s.s 3), (4, .i n)], [(7, [.own jobK (fill jobT (jobT noJob) xs n)])], []⟩) (fun (n : Nat) => n ≤ xs.length) (fun (n : Nat) => xs.length - n) (0) [some 7] [] ⟨rfl, ⟨rfl, rfl, rfl, rfl, I⟩, ⟨⟨rfl, ⟨(congrArg (V.own _) (fill_zero' (by simp) rfl)), I⟩⟩, I⟩, I⟩ (by omega) ?_
 intro n hn
 conv => whnf
 refine W.sq ?_
 refine g 8 11 [] ?_
 conv => whnf
 refine ⟨⟨I, I, I, I, I⟩, ?_⟩
 refine W.cn ?_
 conv => whnf
 refine ⟨fun h1 => ?_, fun h1 => ?_⟩
 replace h1 := dt h1
 simp only [List.length_map] at h1
 refine W.skip ?_
 refine W.sq ?_
 refine W.blk ?_
 obtain ⟨y1, hy1⟩ := some_at (xs := xs) (n := n) (by omega)
 refine rg [.x (jobT y1), .call (jobO y1) ([[]]), .n (n), .x (jobT noJob)] ?_
 conv => whnf
 refine ⟨⟨I, I, I, I, ⟨(by omega), ixl (by assumption)⟩, I, ⟨⟨I, I⟩, I, ⟨⟨I, I, I, I⟩, I⟩, ⟨I, I⟩, Go.K.c_laws_toJob _⟩, ⟨rfl, (by simp only [lens]; omega)⟩, ⟨⟨I, I, I, I⟩, fill_get (by omega)⟩, I⟩, ?_⟩
 refine rg [.i ((↑n : Int) + (1 : Int))] ?_
 conv => whnf
 refine ⟨⟨I, w64 (by omega) (by omega), I, I⟩, ?_⟩
 rotate_left 1
 replace h1 := df h1
 simp only [List.length_map] at h1
 refine W.exit ?_
 refine g 3 23 [] ?_
 conv => whnf
 refine ⟨⟨I, I, I⟩, ?_⟩
 refine W.ret ?_
 refine EndsW.rt ?_
 conv => whnf
 refine ⟨⟨I, I, I⟩, ?_, rfl⟩
 rotate_left 1
 ·refine ⟨n + 1, [some 7], [], ⟨rfl, ⟨rfl, rfl, rfl, rfl, I⟩, ⟨⟨rfl, ⟨(congrArg (V.own _) (fill_set (by assumption))), I⟩⟩, I⟩, I⟩, ?_, ?_⟩
  rotate_left 1
  (dsimp only; omega)
  dsimp only
  omega
 ·have e : fill jobT (jobT noJob) xs n = xs.map jobT := fill_all _ _ _ (by omega)
  rw [← e]
theorem c_laws_toSeat (x : Seat) : F n_laws_toSeat [.val (seatR x)] (seatO x) [[]] := by
 refine i_laws_toSeat ?_
 conv => whnf
 refine g 0 1 [] ?_
 conv => whnf
 refine ⟨⟨⟨I, I, I⟩, I, I⟩, ?_⟩
 refine g 0 0 [] ?_
 conv => whnf
 refine ⟨⟨I, I⟩, ?_⟩
 refine g 4 7 [] ?_
 conv => whnf
 refine ⟨⟨I, I, I, ⟨I, I⟩, I⟩, ?_⟩
 refine g 7 10 [] ?_
 conv => whnf
 refine ⟨⟨I, I, I, ⟨I, I⟩, I⟩, ?_⟩
 refine g 3 11 [] ?_
 conv => whnf
 refine ⟨⟨I, ⟨I, I, I⟩, I⟩, ?_⟩
 refine W.ret ?_
 refine EndsW.rt ?_
 conv => whnf
 refine ⟨⟨I, I, I, I⟩, ?_, rfl⟩
 rfl
theorem c_laws_toSeatS (xs : List Seat) (h : (xs.length : Int) ≤ 1048576) : F n_laws_toSeatS [.val (.t (.slc seatK (xs.map seatT)))] (.own seatK (xs.map seatT)) [[]] := by
 refine i_laws_toSeatS ?_
 conv => whnf
 refine g 0 0 [] ?_
 conv => whnf
 refine ⟨⟨I, I⟩, ?_⟩
 refine g 5 8 [.n (List.length (List.map seatT xs))] ?_
 conv => whnf
 refine ⟨⟨I, I, ⟨rfl, rfl, (by simp only [lens]; omega)⟩, I, I⟩, ?_⟩
 refine W.sq ?_
 refine g 0 0 [] ?_
 conv => whnf
 refine ⟨⟨I, I⟩, ?_⟩
 refine W.blk ?_
 refine W.lp (fun s (n : Nat) => ⟨[(0, s.s 0), (2, s.s 2), (3, s.s 3), (4, .i n)], [(7, [.own seatK (fill seatT (seatT noSeat) xs n)])], []⟩) (fun (n : Nat) => n ≤ xs.length) (fun (n : Nat) => xs.length - n) (0) [some 7] [] ⟨rfl, ⟨rfl, rfl, rfl, rfl, I⟩, ⟨⟨rfl, ⟨(congrArg (V.own _) (fill_zero' (by simp) rfl)), I⟩⟩, I⟩, I⟩ (by omega) ?_
 intro n hn
 conv => whnf
 refine W.sq ?_
 refine g 8 11 [] ?_
 conv => whnf
 refine ⟨⟨I, I, I, I, I⟩, ?_⟩
 refine W.cn ?_
 conv => whnf
 refine ⟨fun h1 => ?_, fun h1 => ?_⟩
 replace h1 := dt h1
 simp only [List.length_map] at h1
 refine W.skip ?_
 refine W.sq ?_
 refine W.blk ?_
 obtain ⟨y1, hy1⟩ := some_at (xs := xs) (n := n) (by omega)
 refine rg [.x (seatT y1), .call (seatO y1) ([[]]), .n (n), .x (seatT noSeat)] ?_
 conv => whnf
 refine ⟨⟨I, I, I, I, ⟨(by omega), ixl (by assumption)⟩, I, ⟨⟨I, I⟩, I, ⟨⟨I, I, I⟩, I⟩, ⟨I, I⟩, Go.K.c_laws_toSeat _⟩, ⟨rfl, (by simp only [lens]; omega)⟩, ⟨⟨I, I, I⟩, fill_get (by omega)⟩, I⟩, ?_⟩
 refine rg [.i ((↑n : Int) + (1 : Int))] ?_
 conv => whnf
 refine ⟨⟨I, w64 (by omega) (by omega), I, I⟩, ?_⟩
 rotate_left 1
 replace h1 := df h1
 simp only [List.length_map] at h1
 refine W.exit ?_
 refine g 3 23 [] ?_
 conv => whnf
 refine ⟨⟨I, I, I⟩, ?_⟩
 refine W.ret ?_
 refine EndsW.rt ?_
 conv => whnf
 refine ⟨⟨I, I, I⟩, ?_, rfl⟩
 rotate_left 1
 ·refine ⟨n + 1, [some 7], [], ⟨rfl, ⟨rfl, rfl, rfl, rfl, I⟩, ⟨⟨rfl, ⟨(congrArg (V.own _) (fill_set (by assumption))), I⟩⟩, I⟩, I⟩, ?_, ?_⟩
  rotate_left 1
  (dsimp only; omega)
  dsimp only
  omega
 ·have e : fill seatT (seatT noSeat) xs n = xs.map seatT := fill_all _ _ _ (by omega)
  rw [← e]
theorem c_laws_toOwed (x : Owed) : F n_laws_toOwed [.val (owedR x)] (owedO x) [[]] := by
 refine i_laws_toOwed ?_
 conv => whnf
 refine g 0 1 [] ?_
 conv => whnf
 refine ⟨⟨⟨I, I, I, I⟩, I, I⟩, ?_⟩
 refine g 0 0 [] ?_
 conv => whnf
 refine ⟨⟨I, I⟩, ?_⟩
 refine g 4 7 [] ?_
 conv => whnf
 refine ⟨⟨I, I, I, ⟨I, I⟩, I⟩, ?_⟩
 refine g 7 10 [] ?_
 conv => whnf
 refine ⟨⟨I, I, I, ⟨I, I⟩, I⟩, ?_⟩
 refine g 10 13 [] ?_
 conv => whnf
 refine ⟨⟨I, I, I, ⟨I, I⟩, I⟩, ?_⟩
 refine g 3 14 [] ?_
 conv => whnf
 refine ⟨⟨I, ⟨I, I, I, I⟩, I⟩, ?_⟩
 refine W.ret ?_
 refine EndsW.rt ?_
 conv => whnf
 refine ⟨⟨I, I, I, I, I⟩, ?_, rfl⟩
 rfl
theorem c_laws_toOwedS (xs : List Owed) (h : (xs.length : Int) ≤ 1048576) : F n_laws_toOwedS [.val (.t (.slc owedK (xs.map owedT)))] (.own owedK (xs.map owedT)) [[]] := by
 refine i_laws_toOwedS ?_
 conv => whnf
 refine g 0 0 [] ?_
 conv => whnf
 refine ⟨⟨I, I⟩, ?_⟩
 refine g 5 8 [.n (List.length (List.map owedT xs))] ?_
 conv => whnf
 refine ⟨⟨I, I, ⟨rfl, rfl, (by simp only [lens]; omega)⟩, I, I⟩, ?_⟩
 refine W.sq ?_
 refine g 0 0 [] ?_
 conv => whnf
 refine ⟨⟨I, I⟩, ?_⟩
 refine W.blk ?_
 refine W.lp (fun s (n : Nat) => ⟨[(0, s.s 0), (2, s.s 2), (3, s.s 3), (4, .i n)], [(7, [.own owedK (fill owedT (owedT noOwed) xs n)])], []⟩) (fun (n : Nat) => n ≤ xs.length) (fun (n : Nat) => xs.length - n) (0) [some 7] [] ⟨rfl, ⟨rfl, rfl, rfl, rfl, I⟩, ⟨⟨rfl, ⟨(congrArg (V.own _) (fill_zero' (by simp) rfl)), I⟩⟩, I⟩, I⟩ (by omega) ?_
 intro n hn
 conv => whnf
 refine W.sq ?_
 refine g 8 11 [] ?_
 conv => whnf
 refine ⟨⟨I, I, I, I, I⟩, ?_⟩
 refine W.cn ?_
 conv => whnf
 refine ⟨fun h1 => ?_, fun h1 => ?_⟩
 replace h1 := dt h1
 simp only [List.length_map] at h1
 refine W.skip ?_
 refine W.sq ?_
 refine W.blk ?_
 obtain ⟨y1, hy1⟩ := some_at (xs := xs) (n := n) (by omega)
 refine rg [.x (owedT y1), .call (owedO y1) ([[]]), .n (n), .x (owedT noOwed)] ?_
 conv => whnf
 refine ⟨⟨I, I, I, I, ⟨(by omega), ixl (by assumption)⟩, I, ⟨⟨I, I⟩, I, ⟨⟨I, I, I, I⟩, I⟩, ⟨I, I⟩, Go.K.c_laws_toOwed _⟩, ⟨rfl, (by simp only [lens]; omega)⟩, ⟨⟨I, I, I, I⟩, fill_get (by omega)⟩, I⟩, ?_⟩
 refine rg [.i ((↑n : Int) + (1 : Int))] ?_
 conv => whnf
 refine ⟨⟨I, w64 (by omega) (by omega), I, I⟩, ?_⟩
 rotate_left 1
 replace h1 := df h1
 simp only [List.length_map] at h1
 refine W.exit ?_
 refine g 3 23 [] ?_
 conv => whnf
 refine ⟨⟨I, I, I⟩, ?_⟩
 refine W.ret ?_
 refine EndsW.rt ?_
 conv => whnf
 refine ⟨⟨I, I, I⟩, ?_, rfl⟩
 rotate_left 1
 ·refine ⟨n + 1, [some 7], [], ⟨rfl, ⟨rfl, rfl, rfl, rfl, I⟩, ⟨⟨rfl, ⟨(congrArg (V.own _) (fill_set (by assumption))), I⟩⟩, I⟩, I⟩, ?_, ?_⟩
  rotate_left 1
  (dsimp only; omega)
  dsimp only
  omega
 ·have e : fill owedT (owedT noOwed) xs n = xs.map owedT := fill_all _ _ _ (by omega)
  rw [← e]
theorem c_laws_toBoss (x : Boss) (h : bossSz x ≤ 1048576) : F n_laws_toBoss [.val (bossR x)] (bossO x) [[]] := by
 have hn0 := logSz_nn x.log
 have hn1 := totS_nn x.results
 have hz : bossSz x = logSz x.log + ((x.results.length : Int) + totS x.results) + ((x.jobs.length : Int)) + ((x.seats.length : Int)) + ((x.owed.length : Int)) := rfl
 refine i_laws_toBoss ?_
 conv => whnf
 refine g 0 1 [] ?_
 conv => whnf
 refine ⟨⟨⟨I, I, I, I, I, I, I, I, I, I, I, I, I⟩, I, I⟩, ?_⟩
 refine g 0 0 [] ?_
 conv => whnf
 refine ⟨⟨I, I⟩, ?_⟩
 refine g 4 7 [] ?_
 conv => whnf
 refine ⟨⟨I, I, I, ⟨I, I⟩, I⟩, ?_⟩
 refine g 7 10 [] ?_
 conv => whnf
 refine ⟨⟨I, I, I, ⟨I, I⟩, I⟩, ?_⟩
 refine g 10 13 [] ?_
 conv => whnf
 refine ⟨⟨I, I, I, ⟨I, I⟩, I⟩, ?_⟩
 refine g 13 16 [] ?_
 conv => whnf
 refine ⟨⟨I, I, I, ⟨I, I⟩, I⟩, ?_⟩
 refine g 16 19 [] ?_
 conv => whnf
 refine ⟨⟨I, I, I, ⟨I, I⟩, I⟩, ?_⟩
 refine g 19 22 [] ?_
 conv => whnf
 refine ⟨⟨I, I, I, ⟨I, I⟩, I⟩, ?_⟩
 refine g 22 26 [.call (logO (Boss.log x)) ([[]])] ?_
 conv => whnf
 refine ⟨⟨I, I, ⟨⟨I, I⟩, I, ⟨⟨I, I, I⟩, I⟩, ⟨I, I⟩, Go.K.c_laws_toLog _ (by omega)⟩, I, ⟨I, I, I⟩, I⟩, ?_⟩
 refine g 26 30 [.call (V.own [false] (List.map strT (Boss.results x))) ([[]])] ?_
 conv => whnf
 refine ⟨⟨I, I, ⟨⟨I, I⟩, I, ⟨⟨I, I⟩, I⟩, ⟨I, I⟩, Go.K.c_laws_toStringS _ (by omega)⟩, I, ⟨I, I⟩, I⟩, ?_⟩
 refine g 30 34 [.call (V.own jobK (List.map jobT (Boss.jobs x))) ([[]])] ?_
 conv => whnf
 refine ⟨⟨I, I, ⟨⟨I, I⟩, I, ⟨⟨I, I⟩, I⟩, ⟨I, I⟩, Go.K.c_laws_toJobS _ (by omega)⟩, I, ⟨I, I⟩, I⟩, ?_⟩
 refine g 34 38 [.call (V.own seatK (List.map seatT (Boss.seats x))) ([[]])] ?_
 conv => whnf
 refine ⟨⟨I, I, ⟨⟨I, I⟩, I, ⟨⟨I, I⟩, I⟩, ⟨I, I⟩, Go.K.c_laws_toSeatS _ (by omega)⟩, I, ⟨I, I⟩, I⟩, ?_⟩
 refine g 38 40 [.call (V.own owedK (List.map owedT (Boss.owed x))) ([[]])] ?_
 conv => whnf
 refine ⟨⟨I, I, ⟨⟨I, I⟩, I, ⟨⟨I, I⟩, I⟩, ⟨I, I⟩, Go.K.c_laws_toOwedS _ (by omega)⟩, I, ⟨I, I⟩, I⟩, ?_⟩
 refine g 41 43 [] ?_
 conv => whnf
 refine ⟨⟨I, ⟨I, I, I, I, I, I, I, I, I, I, I, I, I⟩, I⟩, ?_⟩
 refine W.ret ?_
 refine EndsW.rt ?_
 conv => whnf
 refine ⟨⟨I, I, I, I, I, I, I, I, I, I, I, I, I, I⟩, ?_, rfl⟩
 rfl
def logLen (a : Log) : Prop := a.safe.length ≤ 9223372036854775806 ∧ a.loose.length ≤ 9223372036854775806
theorem c_laws_eqLog (a b : Log) (hl : logLen a) : F n_laws_eqLog [.val (logR a), .val (logR b)] (.b (decide (a = b))) [[], []] := by
 obtain ⟨a_safe, a_loose⟩ := a
 obtain ⟨b_safe, b_loose⟩ := b
 simp only [logLen] at hl
 obtain ⟨hl0, hl1⟩ := hl
 refine i_laws_eqLog ?_
 conv => whnf
 refine g 0 2 [] ?_
 conv => whnf
 refine ⟨⟨⟨I, I, I⟩, ⟨I, I, I⟩, I, I⟩, ?_⟩
 refine W.sq ?_
 refine g 5 10 [.call (V.b (decide (a_safe = b_safe))) ([[], []])] ?_
 conv => whnf
 refine ⟨⟨I, I, I, I, ⟨⟨I, I, I⟩, I, ⟨⟨I, I⟩, ⟨I, I⟩, I⟩, ⟨I, I⟩, Go.K.c_laws_eqStringS _ _ (by omega)⟩, I, I⟩, ?_⟩
 refine W.cn ?_
 conv => whnf
 refine ⟨fun h1 => ?_, fun h1 => ?_⟩
 replace h1 := ndt h1
 refine g 10 11 [] ?_
 conv => whnf
 refine ⟨⟨I, I⟩, ?_⟩
 refine W.ret ?_
 refine EndsW.rt ?_
 conv => whnf
 refine ⟨⟨I, I, I⟩, ?_, rfl⟩
 rotate_left 1
 replace h1 := ndf h1
 refine W.skip ?_
 refine W.sq ?_
 refine g 10 16 [.call (V.b (decide (a_loose = b_loose))) ([[], []])] ?_
 conv => whnf
 refine ⟨⟨I, I, I, I, ⟨⟨I, I, I⟩, I, ⟨⟨I, I⟩, ⟨I, I⟩, I⟩, ⟨I, I⟩, Go.K.c_laws_eqStringS _ _ (by omega)⟩, I, I⟩, ?_⟩
 refine W.cn ?_
 conv => whnf
 refine ⟨fun h2 => ?_, fun h2 => ?_⟩
 replace h2 := ndt h2
 refine g 2 4 [] ?_
 conv => whnf
 refine ⟨⟨I, I⟩, ?_⟩
 refine W.ret ?_
 refine EndsW.rt ?_
 conv => whnf
 refine ⟨⟨I, I, I⟩, ?_, rfl⟩
 rotate_left 1
 replace h2 := ndf h2
 refine W.skip ?_
 refine g 2 4 [] ?_
 conv => whnf
 refine ⟨⟨I, I⟩, ?_⟩
 refine W.ret ?_
 refine EndsW.rt ?_
 conv => whnf
 refine ⟨⟨I, I, I⟩, ?_, rfl⟩
 rotate_left 1
 all_goals (first | exact vbt (by simp_all; done) | exact vbf (by simp_all; done))
theorem c_laws_eqJob (a b : Job) : F n_laws_eqJob [.val (jobR a), .val (jobR b)] (.b (decide (a = b))) [[], []] := by
 obtain ⟨a_lease, a_worker, a_til⟩ := a
 obtain ⟨b_lease, b_worker, b_til⟩ := b
 refine i_laws_eqJob ?_
 conv => whnf
 refine g 0 2 [] ?_
 conv => whnf
 refine ⟨⟨⟨I, I, I, I⟩, ⟨I, I, I, I⟩, I, I⟩, ?_⟩
 refine W.sq ?_
 refine g 5 9 [] ?_
 conv => whnf
 refine ⟨⟨I, I, I, I, I, I⟩, ?_⟩
 refine W.cn ?_
 conv => whnf
 refine ⟨fun h1 => ?_, fun h1 => ?_⟩
 replace h1 := ndt h1
 refine g 9 10 [] ?_
 conv => whnf
 refine ⟨⟨I, I⟩, ?_⟩
 refine W.ret ?_
 refine EndsW.rt ?_
 conv => whnf
 refine ⟨⟨I, I, I⟩, ?_, rfl⟩
 rotate_left 1
 replace h1 := ndf h1
 refine W.skip ?_
 refine W.sq ?_
 refine g 9 14 [] ?_
 conv => whnf
 refine ⟨⟨I, I, I, I, I, I⟩, ?_⟩
 refine W.cn ?_
 conv => whnf
 refine ⟨fun h2 => ?_, fun h2 => ?_⟩
 replace h2 := ndt h2
 refine g 14 15 [] ?_
 conv => whnf
 refine ⟨⟨I, I⟩, ?_⟩
 refine W.ret ?_
 refine EndsW.rt ?_
 conv => whnf
 refine ⟨⟨I, I, I⟩, ?_, rfl⟩
 rotate_left 1
 replace h2 := ndf h2
 refine W.skip ?_
 refine W.sq ?_
 refine g 14 19 [] ?_
 conv => whnf
 refine ⟨⟨I, I, I, I, I, I⟩, ?_⟩
 refine W.cn ?_
 conv => whnf
 refine ⟨fun h3 => ?_, fun h3 => ?_⟩
 replace h3 := ndt h3
 refine g 2 4 [] ?_
 conv => whnf
 refine ⟨⟨I, I⟩, ?_⟩
 refine W.ret ?_
 refine EndsW.rt ?_
 conv => whnf
 refine ⟨⟨I, I, I⟩, ?_, rfl⟩
 rotate_left 1
 replace h3 := ndf h3
 refine W.skip ?_
 refine g 2 4 [] ?_
 conv => whnf
 refine ⟨⟨I, I⟩, ?_⟩
 refine W.ret ?_
 refine EndsW.rt ?_
 conv => whnf
 refine ⟨⟨I, I, I⟩, ?_, rfl⟩
 rotate_left 1
 all_goals (first | exact vbt (by simp_all; done) | exact vbf (by simp_all; done))
theorem c_laws_eqJobS (xs ys : List Job) (hl : xs.length ≤ 9223372036854775806) : F n_laws_eqJobS [.val (.t (.slc jobK (xs.map jobT))), .val (.t (.slc jobK (ys.map jobT)))] (.b (decide (xs = ys))) [[], []] := by
 refine i_laws_eqJobS ?_
 conv => whnf
 refine g 0 0 [] ?_
 conv => whnf
 refine ⟨⟨I, I⟩, ?_⟩
 refine W.sq ?_
 refine g 6 10 [] ?_
 conv => whnf
 refine ⟨⟨I, I, I, I, I, I⟩, ?_⟩
 refine W.cn ?_
 conv => whnf
 refine ⟨fun h1 => ?_, fun h1 => ?_⟩
 replace h1 := ndt h1
 simp only [List.length_map] at h1
 refine g 10 11 [] ?_
 conv => whnf
 refine ⟨⟨I, I⟩, ?_⟩
 refine W.ret ?_
 refine EndsW.rt ?_
 conv => whnf
 refine ⟨⟨I, I, I⟩, ?_, rfl⟩
 rotate_left 1
 replace h1 := ndf h1
 simp only [List.length_map] at h1
 refine W.skip ?_
 refine W.sq ?_
 refine g 10 11 [] ?_
 conv => whnf
 refine ⟨⟨I, I⟩, ?_⟩
 refine W.blk ?_
 rotate_left 1
 ·exact vbf (fun e => h1 (by rw [e]))
 refine W.lp (fun s (n : Nat) => ⟨[(0, s.s 0), (1, s.s 1), (5, .i n)], [], []⟩) (fun (n : Nat) => n ≤ xs.length ∧ xs.take n = ys.take n) (fun (n : Nat) => xs.length - n) (0) [] [] ⟨rfl, ⟨rfl, rfl, rfl, I⟩, I, I⟩ (by simp) ?_
 rintro n ⟨hn, hc⟩
 conv => whnf
 refine W.sq ?_
 refine g 11 14 [] ?_
 conv => whnf
 refine ⟨⟨I, I, I, I, I⟩, ?_⟩
 refine W.cn ?_
 conv => whnf
 refine ⟨fun h2 => ?_, fun h2 => ?_⟩
 replace h2 := dt h2
 simp only [List.length_map] at h2
 refine W.skip ?_
 refine W.sq ?_
 refine W.blk ?_
 obtain ⟨y1, hy1⟩ := some_at (xs := xs) (n := n) (by omega)
 obtain ⟨y2, hy2⟩ := some_at (xs := ys) (n := n) (by omega)
 refine gd 14 26 [[], [], [.x (jobT y1)], [], [], [], [.x (jobT y2)], [], [.call (V.b (decide (y1 = y2))) ([[], []])], []] ?_
 conv => whnf
 refine ⟨⟨I, I, ⟨(by omega), ixl (by assumption)⟩, I, I, I, ⟨(by omega), ixl (by assumption)⟩, I, ⟨⟨I, I, I⟩, I, ⟨⟨I, I, I, I⟩, ⟨I, I, I, I⟩, I⟩, ⟨I, I⟩, Go.K.c_laws_eqJob _ _⟩, I, I⟩, by kernel_rfl, ?_⟩
 refine W.cn ?_
 conv => whnf
 refine ⟨fun h3 => ?_, fun h3 => ?_⟩
 replace h3 := ndt h3
 refine g 26 27 [] ?_
 conv => whnf
 refine ⟨⟨I, I⟩, ?_⟩
 refine W.ret ?_
 refine EndsW.rt ?_
 conv => whnf
 refine ⟨⟨I, I, I⟩, ?_, rfl⟩
 rotate_left 1
 replace h3 := ndf h3
 refine W.skip ?_
 refine rg [.i ((↑n : Int) + (1 : Int))] ?_
 conv => whnf
 refine ⟨⟨I, w64 (by omega) (by omega), I, I⟩, ?_⟩
 rotate_left 1
 replace h2 := df h2
 simp only [List.length_map] at h2
 refine W.exit ?_
 refine g 0 2 [] ?_
 conv => whnf
 refine ⟨⟨I, I⟩, ?_⟩
 refine W.ret ?_
 refine EndsW.rt ?_
 conv => whnf
 refine ⟨⟨I, I, I⟩, ?_, rfl⟩
 rotate_left 1
 ·exact vbf (fun e => by subst e; rw [hy1] at hy2; cases hy2; exact h3 rfl)
 ·refine ⟨n + 1, [], [], ⟨rfl, ⟨rfl, rfl, rfl, I⟩, I, I⟩, ?_, ?_⟩
  rotate_left 1
  (dsimp only; omega)
  dsimp only
  exact ⟨by omega, take_eq hc hy1 (by rw [hy2]; exact congrArg some (Eq.symm h3))⟩
 ·exact vbt (by rw [take_all (by omega), take_all (by omega)] at hc; exact hc)
theorem c_laws_eqSeat (a b : Seat) : F n_laws_eqSeat [.val (seatR a), .val (seatR b)] (.b (decide (a = b))) [[], []] := by
 obtain ⟨a_free, a_epoch⟩ := a
 obtain ⟨b_free, b_epoch⟩ := b
 refine i_laws_eqSeat ?_
 conv => whnf
 refine g 0 2 [] ?_
 conv => whnf
 refine ⟨⟨⟨I, I, I⟩, ⟨I, I, I⟩, I, I⟩, ?_⟩
 refine W.sq ?_
 refine g 5 9 [] ?_
 conv => whnf
 refine ⟨⟨I, I, I, I, I, I⟩, ?_⟩
 refine W.cn ?_
 conv => whnf
 refine ⟨fun h1 => ?_, fun h1 => ?_⟩
 replace h1 := nbt h1
 refine g 9 10 [] ?_
 conv => whnf
 refine ⟨⟨I, I⟩, ?_⟩
 refine W.ret ?_
 refine EndsW.rt ?_
 conv => whnf
 refine ⟨⟨I, I, I⟩, ?_, rfl⟩
 rotate_left 1
 replace h1 := nbf h1
 refine W.skip ?_
 refine W.sq ?_
 refine g 9 14 [] ?_
 conv => whnf
 refine ⟨⟨I, I, I, I, I, I⟩, ?_⟩
 refine W.cn ?_
 conv => whnf
 refine ⟨fun h2 => ?_, fun h2 => ?_⟩
 replace h2 := ndt h2
 refine g 2 4 [] ?_
 conv => whnf
 refine ⟨⟨I, I⟩, ?_⟩
 refine W.ret ?_
 refine EndsW.rt ?_
 conv => whnf
 refine ⟨⟨I, I, I⟩, ?_, rfl⟩
 rotate_left 1
 replace h2 := ndf h2
 refine W.skip ?_
 refine g 2 4 [] ?_
 conv => whnf
 refine ⟨⟨I, I⟩, ?_⟩
 refine W.ret ?_
 refine EndsW.rt ?_
 conv => whnf
 refine ⟨⟨I, I, I⟩, ?_, rfl⟩
 rotate_left 1
 all_goals (first | exact vbt (by simp_all; done) | exact vbf (by simp_all; done))
theorem c_laws_eqSeatS (xs ys : List Seat) (hl : xs.length ≤ 9223372036854775806) : F n_laws_eqSeatS [.val (.t (.slc seatK (xs.map seatT))), .val (.t (.slc seatK (ys.map seatT)))] (.b (decide (xs = ys))) [[], []] := by
 refine i_laws_eqSeatS ?_
 conv => whnf
 refine g 0 0 [] ?_
 conv => whnf
 refine ⟨⟨I, I⟩, ?_⟩
 refine W.sq ?_
 refine g 6 10 [] ?_
 conv => whnf
 refine ⟨⟨I, I, I, I, I, I⟩, ?_⟩
 refine W.cn ?_
 conv => whnf
 refine ⟨fun h1 => ?_, fun h1 => ?_⟩
 replace h1 := ndt h1
 simp only [List.length_map] at h1
 refine g 10 11 [] ?_
 conv => whnf
 refine ⟨⟨I, I⟩, ?_⟩
 refine W.ret ?_
 refine EndsW.rt ?_
 conv => whnf
 refine ⟨⟨I, I, I⟩, ?_, rfl⟩
 rotate_left 1
 replace h1 := ndf h1
 simp only [List.length_map] at h1
 refine W.skip ?_
 refine W.sq ?_
 refine g 10 11 [] ?_
 conv => whnf
 refine ⟨⟨I, I⟩, ?_⟩
 refine W.blk ?_
 rotate_left 1
 ·exact vbf (fun e => h1 (by rw [e]))
 refine W.lp (fun s (n : Nat) => ⟨[(0, s.s 0), (1, s.s 1), (5, .i n)], [], []⟩) (fun (n : Nat) => n ≤ xs.length ∧ xs.take n = ys.take n) (fun (n : Nat) => xs.length - n) (0) [] [] ⟨rfl, ⟨rfl, rfl, rfl, I⟩, I, I⟩ (by simp) ?_
 rintro n ⟨hn, hc⟩
 conv => whnf
 refine W.sq ?_
 refine g 11 14 [] ?_
 conv => whnf
 refine ⟨⟨I, I, I, I, I⟩, ?_⟩
 refine W.cn ?_
 conv => whnf
 refine ⟨fun h2 => ?_, fun h2 => ?_⟩
 replace h2 := dt h2
 simp only [List.length_map] at h2
 refine W.skip ?_
 refine W.sq ?_
 refine W.blk ?_
 obtain ⟨y1, hy1⟩ := some_at (xs := xs) (n := n) (by omega)
 obtain ⟨y2, hy2⟩ := some_at (xs := ys) (n := n) (by omega)
 refine gd 14 26 [[], [], [.x (seatT y1)], [], [], [], [.x (seatT y2)], [], [.call (V.b (decide (y1 = y2))) ([[], []])], []] ?_
 conv => whnf
 refine ⟨⟨I, I, ⟨(by omega), ixl (by assumption)⟩, I, I, I, ⟨(by omega), ixl (by assumption)⟩, I, ⟨⟨I, I, I⟩, I, ⟨⟨I, I, I⟩, ⟨I, I, I⟩, I⟩, ⟨I, I⟩, Go.K.c_laws_eqSeat _ _⟩, I, I⟩, by kernel_rfl, ?_⟩
 refine W.cn ?_
 conv => whnf
 refine ⟨fun h3 => ?_, fun h3 => ?_⟩
 replace h3 := ndt h3
 refine g 26 27 [] ?_
 conv => whnf
 refine ⟨⟨I, I⟩, ?_⟩
 refine W.ret ?_
 refine EndsW.rt ?_
 conv => whnf
 refine ⟨⟨I, I, I⟩, ?_, rfl⟩
 rotate_left 1
 replace h3 := ndf h3
 refine W.skip ?_
 refine rg [.i ((↑n : Int) + (1 : Int))] ?_
 conv => whnf
 refine ⟨⟨I, w64 (by omega) (by omega), I, I⟩, ?_⟩
 rotate_left 1
 replace h2 := df h2
 simp only [List.length_map] at h2
 refine W.exit ?_
 refine g 0 2 [] ?_
 conv => whnf
 refine ⟨⟨I, I⟩, ?_⟩
 refine W.ret ?_
 refine EndsW.rt ?_
 conv => whnf
 refine ⟨⟨I, I, I⟩, ?_, rfl⟩
 rotate_left 1
 ·exact vbf (fun e => by subst e; rw [hy1] at hy2; cases hy2; exact h3 rfl)
 ·refine ⟨n + 1, [], [], ⟨rfl, ⟨rfl, rfl, rfl, I⟩, I, I⟩, ?_, ?_⟩
  rotate_left 1
  (dsimp only; omega)
  dsimp only
  exact ⟨by omega, take_eq hc hy1 (by rw [hy2]; exact congrArg some (Eq.symm h3))⟩
 ·exact vbt (by rw [take_all (by omega), take_all (by omega)] at hc; exact hc)
theorem c_laws_eqOwed (a b : Owed) : F n_laws_eqOwed [.val (owedR a), .val (owedR b)] (.b (decide (a = b))) [[], []] := by
 obtain ⟨a_worker, a_lease, a_task⟩ := a
 obtain ⟨b_worker, b_lease, b_task⟩ := b
 refine i_laws_eqOwed ?_
 conv => whnf
 refine g 0 2 [] ?_
 conv => whnf
 refine ⟨⟨⟨I, I, I, I⟩, ⟨I, I, I, I⟩, I, I⟩, ?_⟩
 refine W.sq ?_
 refine g 5 9 [] ?_
 conv => whnf
 refine ⟨⟨I, I, I, I, I, I⟩, ?_⟩
 refine W.cn ?_
 conv => whnf
 refine ⟨fun h1 => ?_, fun h1 => ?_⟩
 replace h1 := ndt h1
 refine g 9 10 [] ?_
 conv => whnf
 refine ⟨⟨I, I⟩, ?_⟩
 refine W.ret ?_
 refine EndsW.rt ?_
 conv => whnf
 refine ⟨⟨I, I, I⟩, ?_, rfl⟩
 rotate_left 1
 replace h1 := ndf h1
 refine W.skip ?_
 refine W.sq ?_
 refine g 9 14 [] ?_
 conv => whnf
 refine ⟨⟨I, I, I, I, I, I⟩, ?_⟩
 refine W.cn ?_
 conv => whnf
 refine ⟨fun h2 => ?_, fun h2 => ?_⟩
 replace h2 := ndt h2
 refine g 14 15 [] ?_
 conv => whnf
 refine ⟨⟨I, I⟩, ?_⟩
 refine W.ret ?_
 refine EndsW.rt ?_
 conv => whnf
 refine ⟨⟨I, I, I⟩, ?_, rfl⟩
 rotate_left 1
 replace h2 := ndf h2
 refine W.skip ?_
 refine W.sq ?_
 refine g 14 19 [] ?_
 conv => whnf
 refine ⟨⟨I, I, I, I, I, I⟩, ?_⟩
 refine W.cn ?_
 conv => whnf
 refine ⟨fun h3 => ?_, fun h3 => ?_⟩
 replace h3 := ndt h3
 refine g 2 4 [] ?_
 conv => whnf
 refine ⟨⟨I, I⟩, ?_⟩
 refine W.ret ?_
 refine EndsW.rt ?_
 conv => whnf
 refine ⟨⟨I, I, I⟩, ?_, rfl⟩
 rotate_left 1
 replace h3 := ndf h3
 refine W.skip ?_
 refine g 2 4 [] ?_
 conv => whnf
 refine ⟨⟨I, I⟩, ?_⟩
 refine W.ret ?_
 refine EndsW.rt ?_
 conv => whnf
 refine ⟨⟨I, I, I⟩, ?_, rfl⟩
 rotate_left 1
 all_goals (first | exact vbt (by simp_all; done) | exact vbf (by simp_all; done))
theorem c_laws_eqOwedS (xs ys : List Owed) (hl : xs.length ≤ 9223372036854775806) : F n_laws_eqOwedS [.val (.t (.slc owedK (xs.map owedT))), .val (.t (.slc owedK (ys.map owedT)))] (.b (decide (xs = ys))) [[], []] := by
 refine i_laws_eqOwedS ?_
 conv => whnf
 refine g 0 0 [] ?_
 conv => whnf
 refine ⟨⟨I, I⟩, ?_⟩
 refine W.sq ?_
 refine g 6 10 [] ?_
 conv => whnf
 refine ⟨⟨I, I, I, I, I, I⟩, ?_⟩
 refine W.cn ?_
 conv => whnf
 refine ⟨fun h1 => ?_, fun h1 => ?_⟩
 replace h1 := ndt h1
 simp only [List.length_map] at h1
 refine g 10 11 [] ?_
 conv => whnf
 refine ⟨⟨I, I⟩, ?_⟩
 refine W.ret ?_
 refine EndsW.rt ?_
 conv => whnf
 refine ⟨⟨I, I, I⟩, ?_, rfl⟩
 rotate_left 1
 replace h1 := ndf h1
 simp only [List.length_map] at h1
 refine W.skip ?_
 refine W.sq ?_
 refine g 10 11 [] ?_
 conv => whnf
 refine ⟨⟨I, I⟩, ?_⟩
 refine W.blk ?_
 rotate_left 1
 ·exact vbf (fun e => h1 (by rw [e]))
 refine W.lp (fun s (n : Nat) => ⟨[(0, s.s 0), (1, s.s 1), (5, .i n)], [], []⟩) (fun (n : Nat) => n ≤ xs.length ∧ xs.take n = ys.take n) (fun (n : Nat) => xs.length - n) (0) [] [] ⟨rfl, ⟨rfl, rfl, rfl, I⟩, I, I⟩ (by simp) ?_
 rintro n ⟨hn, hc⟩
 conv => whnf
 refine W.sq ?_
 refine g 11 14 [] ?_
 conv => whnf
 refine ⟨⟨I, I, I, I, I⟩, ?_⟩
 refine W.cn ?_
 conv => whnf
 refine ⟨fun h2 => ?_, fun h2 => ?_⟩
 replace h2 := dt h2
 simp only [List.length_map] at h2
 refine W.skip ?_
 refine W.sq ?_
 refine W.blk ?_
 obtain ⟨y1, hy1⟩ := some_at (xs := xs) (n := n) (by omega)
 obtain ⟨y2, hy2⟩ := some_at (xs := ys) (n := n) (by omega)
 refine gd 14 26 [[], [], [.x (owedT y1)], [], [], [], [.x (owedT y2)], [], [.call (V.b (decide (y1 = y2))) ([[], []])], []] ?_
 conv => whnf
 refine ⟨⟨I, I, ⟨(by omega), ixl (by assumption)⟩, I, I, I, ⟨(by omega), ixl (by assumption)⟩, I, ⟨⟨I, I, I⟩, I, ⟨⟨I, I, I, I⟩, ⟨I, I, I, I⟩, I⟩, ⟨I, I⟩, Go.K.c_laws_eqOwed _ _⟩, I, I⟩, by kernel_rfl, ?_⟩
 refine W.cn ?_
 conv => whnf
 refine ⟨fun h3 => ?_, fun h3 => ?_⟩
 replace h3 := ndt h3
 refine g 26 27 [] ?_
 conv => whnf
 refine ⟨⟨I, I⟩, ?_⟩
 refine W.ret ?_
 refine EndsW.rt ?_
 conv => whnf
 refine ⟨⟨I, I, I⟩, ?_, rfl⟩
 rotate_left 1
 replace h3 := ndf h3
 refine W.skip ?_
 refine rg [.i ((↑n : Int) + (1 : Int))] ?_
 conv => whnf
 refine ⟨⟨I, w64 (by omega) (by omega), I, I⟩, ?_⟩
 rotate_left 1
 replace h2 := df h2
 simp only [List.length_map] at h2
 refine W.exit ?_
 refine g 0 2 [] ?_
 conv => whnf
 refine ⟨⟨I, I⟩, ?_⟩
 refine W.ret ?_
 refine EndsW.rt ?_
 conv => whnf
 refine ⟨⟨I, I, I⟩, ?_, rfl⟩
 rotate_left 1
 ·exact vbf (fun e => by subst e; rw [hy1] at hy2; cases hy2; exact h3 rfl)
 ·refine ⟨n + 1, [], [], ⟨rfl, ⟨rfl, rfl, rfl, I⟩, I, I⟩, ?_, ?_⟩
  rotate_left 1
  (dsimp only; omega)
  dsimp only
  exact ⟨by omega, take_eq hc hy1 (by rw [hy2]; exact congrArg some (Eq.symm h3))⟩
 ·exact vbt (by rw [take_all (by omega), take_all (by omega)] at hc; exact hc)
def bossLen (a : Boss) : Prop := a.log.safe.length ≤ 9223372036854775806 ∧ a.log.loose.length ≤ 9223372036854775806 ∧ a.results.length ≤ 9223372036854775806 ∧ a.jobs.length ≤ 9223372036854775806 ∧ a.seats.length ≤ 9223372036854775806 ∧ a.owed.length ≤ 9223372036854775806
theorem c_laws_eqBoss (a b : Boss) (hl : bossLen a) : F n_laws_eqBoss [.val (bossR a), .val (bossR b)] (.b (decide (a = b))) [[], []] := by
 obtain ⟨a_workers, a_up, a_now, a_since, a_epoch, a_given, a_log, a_results, a_jobs, a_seats, a_owed⟩ := a
 obtain ⟨b_workers, b_up, b_now, b_since, b_epoch, b_given, b_log, b_results, b_jobs, b_seats, b_owed⟩ := b
 simp only [bossLen] at hl
 obtain ⟨hl0, hl1, hl2, hl3, hl4, hl5⟩ := hl
 have hx0 : logLen a_log := ⟨hl0, hl1⟩
 refine i_laws_eqBoss ?_
 conv => whnf
 refine g 0 2 [] ?_
 conv => whnf
 refine ⟨⟨⟨I, I, I, I, I, I, I, I, I, I, I, I, I⟩, ⟨I, I, I, I, I, I, I, I, I, I, I, I, I⟩, I, I⟩, ?_⟩
 refine W.sq ?_
 refine g 5 9 [] ?_
 conv => whnf
 refine ⟨⟨I, I, I, I, I, I⟩, ?_⟩
 refine W.cn ?_
 conv => whnf
 refine ⟨fun h1 => ?_, fun h1 => ?_⟩
 replace h1 := ndt h1
 refine g 9 10 [] ?_
 conv => whnf
 refine ⟨⟨I, I⟩, ?_⟩
 refine W.ret ?_
 refine EndsW.rt ?_
 conv => whnf
 refine ⟨⟨I, I, I⟩, ?_, rfl⟩
 rotate_left 1
 replace h1 := ndf h1
 refine W.skip ?_
 refine W.sq ?_
 refine g 9 14 [] ?_
 conv => whnf
 refine ⟨⟨I, I, I, I, I, I⟩, ?_⟩
 refine W.cn ?_
 conv => whnf
 refine ⟨fun h2 => ?_, fun h2 => ?_⟩
 replace h2 := nbt h2
 refine g 14 15 [] ?_
 conv => whnf
 refine ⟨⟨I, I⟩, ?_⟩
 refine W.ret ?_
 refine EndsW.rt ?_
 conv => whnf
 refine ⟨⟨I, I, I⟩, ?_, rfl⟩
 rotate_left 1
 replace h2 := nbf h2
 refine W.skip ?_
 refine W.sq ?_
 refine g 14 19 [] ?_
 conv => whnf
 refine ⟨⟨I, I, I, I, I, I⟩, ?_⟩
 refine W.cn ?_
 conv => whnf
 refine ⟨fun h3 => ?_, fun h3 => ?_⟩
 replace h3 := ndt h3
 refine g 19 20 [] ?_
 conv => whnf
 refine ⟨⟨I, I⟩, ?_⟩
 refine W.ret ?_
 refine EndsW.rt ?_
 conv => whnf
 refine ⟨⟨I, I, I⟩, ?_, rfl⟩
 rotate_left 1
 replace h3 := ndf h3
 refine W.skip ?_
 refine W.sq ?_
 refine g 19 24 [] ?_
 conv => whnf
 refine ⟨⟨I, I, I, I, I, I⟩, ?_⟩
 refine W.cn ?_
 conv => whnf
 refine ⟨fun h4 => ?_, fun h4 => ?_⟩
 replace h4 := ndt h4
 refine g 24 25 [] ?_
 conv => whnf
 refine ⟨⟨I, I⟩, ?_⟩
 refine W.ret ?_
 refine EndsW.rt ?_
 conv => whnf
 refine ⟨⟨I, I, I⟩, ?_, rfl⟩
 rotate_left 1
 replace h4 := ndf h4
 refine W.skip ?_
 refine W.sq ?_
 refine g 24 29 [] ?_
 conv => whnf
 refine ⟨⟨I, I, I, I, I, I⟩, ?_⟩
 refine W.cn ?_
 conv => whnf
 refine ⟨fun h5 => ?_, fun h5 => ?_⟩
 replace h5 := ndt h5
 refine g 29 30 [] ?_
 conv => whnf
 refine ⟨⟨I, I⟩, ?_⟩
 refine W.ret ?_
 refine EndsW.rt ?_
 conv => whnf
 refine ⟨⟨I, I, I⟩, ?_, rfl⟩
 rotate_left 1
 replace h5 := ndf h5
 refine W.skip ?_
 refine W.sq ?_
 refine g 29 34 [] ?_
 conv => whnf
 refine ⟨⟨I, I, I, I, I, I⟩, ?_⟩
 refine W.cn ?_
 conv => whnf
 refine ⟨fun h6 => ?_, fun h6 => ?_⟩
 replace h6 := ndt h6
 refine g 34 35 [] ?_
 conv => whnf
 refine ⟨⟨I, I⟩, ?_⟩
 refine W.ret ?_
 refine EndsW.rt ?_
 conv => whnf
 refine ⟨⟨I, I, I⟩, ?_, rfl⟩
 rotate_left 1
 replace h6 := ndf h6
 refine W.skip ?_
 refine W.sq ?_
 refine g 34 40 [.call (V.b (decide (a_log = b_log))) ([[], []])] ?_
 conv => whnf
 refine ⟨⟨I, I, I, I, ⟨⟨I, I, I⟩, I, ⟨⟨I, I, I⟩, ⟨I, I, I⟩, I⟩, ⟨I, I⟩, Go.K.c_laws_eqLog _ _ (by omega)⟩, I, I⟩, ?_⟩
 refine W.cn ?_
 conv => whnf
 refine ⟨fun h7 => ?_, fun h7 => ?_⟩
 replace h7 := ndt h7
 refine g 40 41 [] ?_
 conv => whnf
 refine ⟨⟨I, I⟩, ?_⟩
 refine W.ret ?_
 refine EndsW.rt ?_
 conv => whnf
 refine ⟨⟨I, I, I⟩, ?_, rfl⟩
 rotate_left 1
 replace h7 := ndf h7
 refine W.skip ?_
 refine W.sq ?_
 refine g 40 46 [.call (V.b (decide (a_results = b_results))) ([[], []])] ?_
 conv => whnf
 refine ⟨⟨I, I, I, I, ⟨⟨I, I, I⟩, I, ⟨⟨I, I⟩, ⟨I, I⟩, I⟩, ⟨I, I⟩, Go.K.c_laws_eqStringS _ _ (by omega)⟩, I, I⟩, ?_⟩
 refine W.cn ?_
 conv => whnf
 refine ⟨fun h8 => ?_, fun h8 => ?_⟩
 replace h8 := ndt h8
 refine g 46 47 [] ?_
 conv => whnf
 refine ⟨⟨I, I⟩, ?_⟩
 refine W.ret ?_
 refine EndsW.rt ?_
 conv => whnf
 refine ⟨⟨I, I, I⟩, ?_, rfl⟩
 rotate_left 1
 replace h8 := ndf h8
 refine W.skip ?_
 refine W.sq ?_
 refine g 46 52 [.call (V.b (decide (a_jobs = b_jobs))) ([[], []])] ?_
 conv => whnf
 refine ⟨⟨I, I, I, I, ⟨⟨I, I, I⟩, I, ⟨⟨I, I⟩, ⟨I, I⟩, I⟩, ⟨I, I⟩, Go.K.c_laws_eqJobS _ _ (by omega)⟩, I, I⟩, ?_⟩
 refine W.cn ?_
 conv => whnf
 refine ⟨fun h9 => ?_, fun h9 => ?_⟩
 replace h9 := ndt h9
 refine g 52 53 [] ?_
 conv => whnf
 refine ⟨⟨I, I⟩, ?_⟩
 refine W.ret ?_
 refine EndsW.rt ?_
 conv => whnf
 refine ⟨⟨I, I, I⟩, ?_, rfl⟩
 rotate_left 1
 replace h9 := ndf h9
 refine W.skip ?_
 refine W.sq ?_
 refine g 52 58 [.call (V.b (decide (a_seats = b_seats))) ([[], []])] ?_
 conv => whnf
 refine ⟨⟨I, I, I, I, ⟨⟨I, I, I⟩, I, ⟨⟨I, I⟩, ⟨I, I⟩, I⟩, ⟨I, I⟩, Go.K.c_laws_eqSeatS _ _ (by omega)⟩, I, I⟩, ?_⟩
 refine W.cn ?_
 conv => whnf
 refine ⟨fun h10 => ?_, fun h10 => ?_⟩
 replace h10 := ndt h10
 refine g 58 59 [] ?_
 conv => whnf
 refine ⟨⟨I, I⟩, ?_⟩
 refine W.ret ?_
 refine EndsW.rt ?_
 conv => whnf
 refine ⟨⟨I, I, I⟩, ?_, rfl⟩
 rotate_left 1
 replace h10 := ndf h10
 refine W.skip ?_
 refine W.sq ?_
 refine g 58 64 [.call (V.b (decide (a_owed = b_owed))) ([[], []])] ?_
 conv => whnf
 refine ⟨⟨I, I, I, I, ⟨⟨I, I, I⟩, I, ⟨⟨I, I⟩, ⟨I, I⟩, I⟩, ⟨I, I⟩, Go.K.c_laws_eqOwedS _ _ (by omega)⟩, I, I⟩, ?_⟩
 refine W.cn ?_
 conv => whnf
 refine ⟨fun h11 => ?_, fun h11 => ?_⟩
 replace h11 := ndt h11
 refine g 2 4 [] ?_
 conv => whnf
 refine ⟨⟨I, I⟩, ?_⟩
 refine W.ret ?_
 refine EndsW.rt ?_
 conv => whnf
 refine ⟨⟨I, I, I⟩, ?_, rfl⟩
 rotate_left 1
 replace h11 := ndf h11
 refine W.skip ?_
 refine g 2 4 [] ?_
 conv => whnf
 refine ⟨⟨I, I⟩, ?_⟩
 refine W.ret ?_
 refine EndsW.rt ?_
 conv => whnf
 refine ⟨⟨I, I, I⟩, ?_, rfl⟩
 rotate_left 1
 all_goals (first | exact vbt (by simp_all; done) | exact vbf (by simp_all; done))
theorem wf_Log {n : Nat} {x : List T} (h : wfT E (n + 3) ty_laws_Log x) : ∃ v : Log, x = logT v ∧ logWf v := by
 obtain ⟨y0, z0, e0, ⟨lsafe, rfl, hsafe, gsafe⟩, y1, z1, e1, ⟨lloose, rfl, hloose, gloose⟩, e2⟩ := h
 subst e2
 subst e1
 obtain ⟨safe, rfl, wsafe⟩ := wf_strs gsafe
 obtain ⟨loose, rfl, wloose⟩ := wf_strs gloose
 subst e0
 exact ⟨⟨safe, loose⟩, rfl, ⟨by rw [List.length_map] at hsafe; exact hsafe, wsafe, by rw [List.length_map] at hloose; exact hloose, wloose⟩⟩
theorem wf_Job {n : Nat} {x : List T} (h : wfT E (n + 2) ty_laws_Job x) : ∃ v : Job, x = jobT v ∧ jobWf v := by
 obtain ⟨y0, z0, e0, ⟨lease, rfl, _, _⟩, y1, z1, e1, ⟨worker, rfl, _, _⟩, y2, z2, e2, ⟨til, rfl, _, _⟩, e3⟩ := h
 subst e3
 subst e2
 subst e1
 subst e0
 exact ⟨⟨lease, worker, til⟩, rfl, trivial⟩
theorem wf_Seat {n : Nat} {x : List T} (h : wfT E (n + 2) ty_laws_Seat x) : ∃ v : Seat, x = seatT v ∧ seatWf v := by
 obtain ⟨y0, z0, e0, ⟨free, rfl⟩, y1, z1, e1, ⟨epoch, rfl, _, _⟩, e2⟩ := h
 subst e2
 subst e1
 subst e0
 exact ⟨⟨free, epoch⟩, rfl, trivial⟩
theorem wf_Owed {n : Nat} {x : List T} (h : wfT E (n + 2) ty_laws_Owed x) : ∃ v : Owed, x = owedT v ∧ owedWf v := by
 obtain ⟨y0, z0, e0, ⟨worker, rfl, _, _⟩, y1, z1, e1, ⟨lease, rfl, _, _⟩, y2, z2, e2, ⟨task, rfl, _, _⟩, e3⟩ := h
 subst e3
 subst e2
 subst e1
 subst e0
 exact ⟨⟨worker, lease, task⟩, rfl, trivial⟩
theorem wf_Boss {n : Nat} {x : List T} (h : wfT E (n + 4) ty_laws_Boss x) : ∃ v : Boss, x = bossT v ∧ bossWf v := by
 obtain ⟨y0, z0, e0, ⟨workers, rfl, _, _⟩, y1, z1, e1, ⟨up, rfl⟩, y2, z2, e2, ⟨now, rfl, _, _⟩, y3, z3, e3, ⟨since, rfl, _, _⟩, y4, z4, e4, ⟨epoch, rfl, _, _⟩, y5, z5, e5, ⟨given, rfl, _, _⟩, y6, z6, e6, wlog0, y7, z7, e7, ⟨lresults, rfl, hresults, gresults⟩, y8, z8, e8, ⟨ljobs, rfl, hjobs, gjobs⟩, y9, z9, e9, ⟨lseats, rfl, hseats, gseats⟩, y10, z10, e10, ⟨lowed, rfl, howed, gowed⟩, e11⟩ := h
 subst e11
 subst e10
 subst e9
 subst e8
 subst e7
 subst e6
 subst e5
 subst e4
 subst e3
 subst e2
 subst e1
 obtain ⟨log, rfl, wlog⟩ := wf_Log wlog0
 obtain ⟨results, rfl, wresults⟩ := wf_strs gresults
 obtain ⟨jobs, rfl, wjobs⟩ := map_of (f := jobT) (p := jobWf) (xs := ljobs) fun y hy => wf_Job (gjobs y hy)
 obtain ⟨seats, rfl, wseats⟩ := map_of (f := seatT) (p := seatWf) (xs := lseats) fun y hy => wf_Seat (gseats y hy)
 obtain ⟨owed, rfl, wowed⟩ := map_of (f := owedT) (p := owedWf) (xs := lowed) fun y hy => wf_Owed (gowed y hy)
 subst e0
 exact ⟨⟨workers, up, now, since, epoch, given, log, results, jobs, seats, owed⟩, rfl, ⟨wlog, by rw [List.length_map] at hresults; exact hresults, wresults, by rw [List.length_map] at hjobs; exact hjobs, by rw [List.length_map] at hseats; exact hseats, by rw [List.length_map] at howed; exact howed⟩⟩
end Go.K
end
section
set_option linter.unusedVariables false
set_option linter.unusedSimpArgs false
set_option maxHeartbeats 8000000
set_option maxRecDepth 20000
open Go Go.Tm Go.Proofs
namespace Go.K
theorem boss_bounds {b : Boss} (h : bossSz b ≤ 1048576) : b.log.safe.length ≤ 1048576 ∧ b.log.loose.length ≤ 1048576 ∧ (∀ s ∈ b.log.safe ++ b.log.loose, s.size ≤ 281474976710656) ∧ b.results.length ≤ 1048576 ∧ b.jobs.length ≤ 1048576 ∧ b.seats.length ≤ 1048576 ∧ b.owed.length ≤ 1048576 := by
 have h1 := totS_nn b.log.safe
 have h2 := totS_nn b.log.loose
 have h3 := totS_nn b.results
 have e : logSz b.log = (b.log.safe.length + totS b.log.safe) + (b.log.loose.length + totS b.log.loose) := rfl
 simp only [bossSz] at h
 refine ⟨by omega, by omega, fun s hs => ?_, by omega, by omega, by omega, by omega⟩
 rcases List.mem_append.1 hs with hs | hs
 ·have := totS_mem hs; omega
 ·have := totS_mem hs; omega
end Go.K
end
section
set_option linter.unusedVariables false
set_option linter.unusedSimpArgs false
set_option maxHeartbeats 8000000
set_option maxRecDepth 20000
open Go Go.Tm Go.Proofs
namespace Go.K
structure BossLim (b : Boss) : Prop where
 safe : b.log.safe.length ≤ 1048576
 loose : b.log.loose.length ≤ 1048576
 all : ∀ s ∈ b.log.safe ++ b.log.loose, s.size ≤ 281474976710656
 res : b.results.length ≤ 1048576
 jobs : b.jobs.length ≤ 1048576
 seats : b.seats.length ≤ 1048576
 owed : b.owed.length ≤ 1048576
theorem boss_lim {b : Boss} (h : bossSz b ≤ 1048576) : BossLim b := by
 obtain ⟨b1, b2, b3, b4, b5, b6, b7⟩ := boss_bounds h
 exact ⟨b1, b2, b3, b4, b5, b6, b7⟩
theorem ci_valid (b : Boss) (p : Plan) (hp : planWf p) (h : BossLim b) : F n_impl_ValidBoss [.val (bossR b), .val (planR p)] (.b (decide (BossOk b p))) [[], []] := c_impl_ValidBoss b p hp h.safe h.loose h.all h.res h.jobs h.seats h.owed
theorem cs_valid (b : Boss) (p : Plan) (hp : planWf p) (h : BossLim b) : F n_spec_ValidBoss [.val (bossR b), .val (planR p)] (.b (decide (BossOk b p))) [[], []] := c_spec_ValidBoss b p hp h.safe h.loose h.all h.res h.jobs h.seats h.owed
end Go.K
end
section
set_option linter.unusedVariables false
set_option linter.unusedSimpArgs false
set_option maxHeartbeats 8000000
set_option maxRecDepth 20000
open Go Go.Tm Go.Proofs
namespace Go.K
structure BossSmall (b : Boss) : Prop where
 safe : b.log.safe.length ≤ 4194304
 loose : b.log.loose.length ≤ 4194304
 res : b.results.length ≤ 4194304
 jobs : b.jobs.length ≤ 4194304
 seats : b.seats.length ≤ 4194304
 owed : b.owed.length ≤ 4194304
end Go.K
end
section
set_option linter.unusedVariables false
set_option linter.unusedSimpArgs false
set_option maxHeartbeats 4000000
set_option maxRecDepth 20000
open Go Go.Tm Go.Proofs
namespace Go.K
attribute [local irreducible] ByteArray.extract
end Go.K
end
section
set_option linter.unusedVariables false
set_option linter.unusedSimpArgs false
set_option maxHeartbeats 4000000
set_option maxRecDepth 20000
open Go Go.Tm Go.Proofs
namespace Go.K
def parcelWf (p : Parcel) : Prop := p.frm.size ≤ 9223372036854775807 ∧ p.text.size ≤ 9223372036854775807
abbrev parcelT (p : Parcel) : List T := parT p
theorem wf_Parcel {n : Nat} {x : List T} (h : wfT E (n + 3) ty_laws_Parcel x) : ∃ v : Parcel, x = parT v ∧ parcelWf v := by
 obtain ⟨y1, z1, e1, ⟨k, rfl, _⟩, y2, z2, e2, ⟨a, rfl, ha⟩, y3, z3, e3, ⟨b, rfl, hb⟩, e4⟩ := h
 subst e4; subst e3; subst e2; subst e1
 exact ⟨⟨k, a, b⟩, rfl, ha, hb⟩
end Go.K
end
section
set_option linter.unusedVariables false
set_option linter.unusedSimpArgs false
set_option maxHeartbeats 4000000
set_option maxRecDepth 20000
open Go Go.Tm Go.Proofs
namespace Go.K
abbrev parcelK : List Bool := pkd
def parcelSz (x : Parcel) : Int := (x.frm.size : Int) + (x.text.size : Int)
theorem parcelSz_nn (x : Parcel) : 0 ≤ parcelSz x := by
 simp only [parcelSz]; omega
theorem totP_sum : ∀ xs : List Parcel, totP xs = sumI parcelSz xs
 | [] => rfl
 | x :: xs => by have := totP_sum xs; simp only [totP, sumI, parcelSz] at *; omega
theorem c_laws_szWorkerS (xs : List Worker) (left : Int) (hl : xs.length ≤ 9223372036854775807) (hs : ∀ y ∈ xs, workerWf y) (h : left ≤ 1048576) (h0 : 0 ≤ left) : F n_laws_szWorkerS [.val (.t (.slc workerK (xs.map workerT))), .val (.i left)] (.i (if left - (xs.length + sumI workerSz xs) < 0 then -1 else left - (xs.length + sumI workerSz xs))) [[], []] := by
 have hnn := sum_nn workerSz_nn xs
 refine i_laws_szWorkerS ?_
 conv => whnf
 refine g 0 0 [] ?_
 conv => whnf
 refine ⟨⟨I, I⟩, ?_⟩
 refine g 6 10 [.i (left - (↑(List.length (List.map workerT xs)) : Int))] ?_
 conv => whnf
 refine ⟨⟨I, I, I, w64 (by simp only [lens]; omega) (by simp only [lens]; omega), I, I⟩, ?_⟩
 refine W.sq ?_
 refine g 10 11 [] ?_
 conv => whnf
 refine ⟨⟨I, I, I⟩, ?_⟩
 refine W.cn ?_
 conv => whnf
 refine ⟨fun h1 => ?_, fun h1 => ?_⟩
 replace h1 := dt h1
 simp only [List.length_map] at h1
 refine g 11 12 [] ?_
 conv => whnf
 refine ⟨⟨I, I⟩, ?_⟩
 refine W.ret ?_
 refine EndsW.rt ?_
 conv => whnf
 refine ⟨⟨I, I, I⟩, ?_, rfl⟩
 exact vi (by omega)
 replace h1 := df h1
 simp only [List.length_map] at h1
 refine W.skip ?_
 refine W.sq ?_
 refine g 11 12 [] ?_
 conv => whnf
 refine ⟨⟨I, I⟩, ?_⟩
 refine W.blk ?_
 refine W.lp (fun s (n : Nat) => ⟨[(0, s.s 0), (1, .i (left - xs.length - sumI workerSz (xs.take n))), (5, .i n)], [], []⟩) (fun (n : Nat) => n ≤ xs.length ∧ 0 ≤ left - xs.length - sumI workerSz (xs.take n)) (fun (n : Nat) => xs.length - n) (0) [] [] ⟨rfl, ⟨rfl, (congrArg (fun z => V.t (T.v (Value.int _ z))) (by simp [sumI])), rfl, I⟩, I, I⟩ ?_ ?_
 ·simp [sumI]; omega
 rintro n ⟨hn, hc⟩
 have hq := sum_nn workerSz_nn (xs.take n)
 have hle := sum_le workerSz_nn xs (n + 1)
 conv => whnf
 refine W.sq ?_
 refine g 12 15 [] ?_
 conv => whnf
 refine ⟨⟨I, I, I, I, I⟩, ?_⟩
 refine W.cn ?_
 conv => whnf
 refine ⟨fun h2 => ?_, fun h2 => ?_⟩
 replace h2 := dt h2
 simp only [List.length_map] at h2
 refine W.skip ?_
 refine W.sq ?_
 refine W.blk ?_
 obtain ⟨y1, hy1⟩ := some_at (xs := xs) (n := n) (by omega)
 have hm1 := hs y1 (List.mem_of_getElem? hy1)
 have hk1 := sum_take (f := workerSz) hy1
 have hk2 := workerSz_nn y1
 refine g 15 24 [.x (workerT y1), .call (V.i (if left - (↑(List.length xs) : Int) - sumI workerSz (List.take n xs) - workerSz y1 < (0 : Int) then (-1 : Int) else left - (↑(List.length xs) : Int) - sumI workerSz (List.take n xs) - workerSz y1)) ([[], []])] ?_
 conv => whnf
 refine ⟨⟨I, I, ⟨(by omega), ixl (by assumption)⟩, I, I, ⟨⟨I, I, I⟩, I, ⟨⟨I, I, I, I, I, I, I, I, I, I, I, I⟩, ⟨I, I⟩, I⟩, ⟨I, I⟩, Go.K.c_laws_szWorker _ _ (by omega) (by omega) (by omega)⟩, I, I⟩, ?_⟩
 refine g 24 25 [] ?_
 conv => whnf
 refine ⟨⟨I, I, I⟩, ?_⟩
 refine W.cn ?_
 conv => whnf
 refine ⟨fun h3 => ?_, fun h3 => ?_⟩
 replace h3 := dt h3
 refine g 25 26 [] ?_
 conv => whnf
 refine ⟨⟨I, I⟩, ?_⟩
 refine W.ret ?_
 refine EndsW.rt ?_
 conv => whnf
 refine ⟨⟨I, I, I⟩, ?_, rfl⟩
 exact vi (by omega)
 replace h3 := df h3
 refine W.skip ?_
 refine rg [.i ((↑n : Int) + (1 : Int))] ?_
 conv => whnf
 refine ⟨⟨I, w64 (by omega) (by omega), I, I⟩, ?_⟩
 rotate_left 1
 replace h2 := df h2
 simp only [List.length_map] at h2
 refine W.exit ?_
 refine g 5 27 [] ?_
 conv => whnf
 refine ⟨⟨I, I, I⟩, ?_⟩
 refine W.ret ?_
 refine EndsW.rt ?_
 conv => whnf
 refine ⟨⟨I, I, I⟩, ?_, rfl⟩
 rotate_left 1
 ·refine ⟨n + 1, [], [], ⟨rfl, ⟨rfl, (congrArg (fun z => V.t (T.v (Value.int _ z))) (by rw [sum_take (by assumption)]; omega)), rfl, I⟩, I, I⟩, ?_, ?_⟩
  rotate_left 1
  (dsimp only; omega)
  dsimp only
  omega
 ·have e : xs.take n = xs := take_all (by omega)
  rw [e] at hc ⊢
  exact vi (by split <;> omega)
theorem c_laws_toWorkerS (xs : List Worker) (h : (xs.length : Int) + sumI workerSz xs ≤ 1048576) : F n_laws_toWorkerS [.val (.t (.slc workerK (xs.map workerT)))] (.own workerK (xs.map workerT)) [[]] := by
 have hnn := sum_nn workerSz_nn xs
 refine i_laws_toWorkerS ?_
 conv => whnf
 refine g 0 0 [] ?_
 conv => whnf
 refine ⟨⟨I, I⟩, ?_⟩
 refine g 5 8 [.n (List.length (List.map workerT xs))] ?_
 conv => whnf
 refine ⟨⟨I, I, ⟨rfl, rfl, (by simp only [lens]; omega)⟩, I, I⟩, ?_⟩
 refine W.sq ?_
 refine g 0 0 [] ?_
 conv => whnf
 refine ⟨⟨I, I⟩, ?_⟩
 refine W.blk ?_
 refine W.lp (fun s (n : Nat) => ⟨[(0, s.s 0), (2, s.s 2), (3, s.s 3), (4, .i n)], [(7, [.own workerK (fill workerT (workerT noWorker) xs n)])], []⟩) (fun (n : Nat) => n ≤ xs.length) (fun (n : Nat) => xs.length - n) (0) [some 7] [] ⟨rfl, ⟨rfl, rfl, rfl, rfl, I⟩, ⟨⟨rfl, ⟨(congrArg (V.own _) (fill_zero' (by simp) rfl)), I⟩⟩, I⟩, I⟩ (by omega) ?_
 intro n hn
 conv => whnf
 refine W.sq ?_
 refine g 0 0 [] ?_
 conv => whnf
 refine ⟨⟨I, I, I, I, I⟩, ?_⟩
 refine W.cn ?_
 conv => whnf
 refine ⟨fun h1 => ?_, fun h1 => ?_⟩
 replace h1 := dt h1
 simp only [List.length_map] at h1
 refine W.skip ?_
 refine W.sq ?_
 refine W.blk ?_
 obtain ⟨y1, hy1⟩ := some_at (xs := xs) (n := n) (by omega)
 have hk1 := sum_mem workerSz_nn (List.mem_of_getElem? hy1)
 refine rg [.x (workerT y1), .call (workerO y1) ([[]]), .n (n), .x (workerT noWorker)] ?_
 conv => whnf
 refine ⟨⟨I, I, I, I, ⟨(by omega), ixl (by assumption)⟩, I, ⟨⟨I, I⟩, I, ⟨⟨I, I, I, I, I, I, I, I, I, I, I, I⟩, I⟩, ⟨I, I⟩, Go.K.c_laws_toWorker _ (by omega)⟩, ⟨rfl, (by simp only [lens]; omega)⟩, ⟨⟨I, I, I, I, I, I, I, I, I, I, I, I⟩, fill_get (by omega)⟩, I⟩, ?_⟩
 refine rg [.i ((↑n : Int) + (1 : Int))] ?_
 conv => whnf
 refine ⟨⟨I, w64 (by omega) (by omega), I, I⟩, ?_⟩
 rotate_left 1
 replace h1 := df h1
 simp only [List.length_map] at h1
 refine W.exit ?_
 refine g 3 23 [] ?_
 conv => whnf
 refine ⟨⟨I, I, I⟩, ?_⟩
 refine W.ret ?_
 refine EndsW.rt ?_
 conv => whnf
 refine ⟨⟨I, I, I⟩, ?_, rfl⟩
 rotate_left 1
 ·refine ⟨n + 1, [some 7], [], ⟨rfl, ⟨rfl, rfl, rfl, rfl, I⟩, ⟨⟨rfl, ⟨(congrArg (V.own _) (fill_set (by assumption))), I⟩⟩, I⟩, I⟩, ?_, ?_⟩
  rotate_left 1
  (dsimp only; omega)
  dsimp only
  omega
 ·have e : fill workerT (workerT noWorker) xs n = xs.map workerT := fill_all _ _ _ (by omega)
  rw [← e]
theorem c_laws_eqWorkerS (xs ys : List Worker) (hl : xs.length ≤ 9223372036854775806) (hs : ∀ y ∈ xs, workerLen y) : F n_laws_eqWorkerS [.val (.t (.slc workerK (xs.map workerT))), .val (.t (.slc workerK (ys.map workerT)))] (.b (decide (xs = ys))) [[], []] := by
 refine i_laws_eqWorkerS ?_
 conv => whnf
 refine g 0 0 [] ?_
 conv => whnf
 refine ⟨⟨I, I⟩, ?_⟩
 refine W.sq ?_
 refine g 6 10 [] ?_
 conv => whnf
 refine ⟨⟨I, I, I, I, I, I⟩, ?_⟩
 refine W.cn ?_
 conv => whnf
 refine ⟨fun h1 => ?_, fun h1 => ?_⟩
 replace h1 := ndt h1
 simp only [List.length_map] at h1
 refine g 10 11 [] ?_
 conv => whnf
 refine ⟨⟨I, I⟩, ?_⟩
 refine W.ret ?_
 refine EndsW.rt ?_
 conv => whnf
 refine ⟨⟨I, I, I⟩, ?_, rfl⟩
 rotate_left 1
 replace h1 := ndf h1
 simp only [List.length_map] at h1
 refine W.skip ?_
 refine W.sq ?_
 refine g 10 11 [] ?_
 conv => whnf
 refine ⟨⟨I, I⟩, ?_⟩
 refine W.blk ?_
 rotate_left 1
 ·exact vbf (fun e => h1 (by rw [e]))
 refine W.lp (fun s (n : Nat) => ⟨[(0, s.s 0), (1, s.s 1), (5, .i n)], [], []⟩) (fun (n : Nat) => n ≤ xs.length ∧ xs.take n = ys.take n) (fun (n : Nat) => xs.length - n) (0) [] [] ⟨rfl, ⟨rfl, rfl, rfl, I⟩, I, I⟩ (by simp) ?_
 rintro n ⟨hn, hc⟩
 conv => whnf
 refine W.sq ?_
 refine g 11 14 [] ?_
 conv => whnf
 refine ⟨⟨I, I, I, I, I⟩, ?_⟩
 refine W.cn ?_
 conv => whnf
 refine ⟨fun h2 => ?_, fun h2 => ?_⟩
 replace h2 := dt h2
 simp only [List.length_map] at h2
 refine W.skip ?_
 refine W.sq ?_
 refine W.blk ?_
 obtain ⟨y1, hy1⟩ := some_at (xs := xs) (n := n) (by omega)
 have hm1 := hs y1 (List.mem_of_getElem? hy1)
 obtain ⟨y2, hy2⟩ := some_at (xs := ys) (n := n) (by omega)
 refine gd 14 26 [[], [], [.x (workerT y1)], [], [], [], [.x (workerT y2)], [], [.call (V.b (decide (y1 = y2))) ([[], []])], []] ?_
 conv => whnf
 refine ⟨⟨I, I, ⟨(by omega), ixl (by assumption)⟩, I, I, I, ⟨(by omega), ixl (by assumption)⟩, I, ⟨⟨I, I, I⟩, I, ⟨⟨I, I, I, I, I, I, I, I, I, I, I, I⟩, ⟨I, I, I, I, I, I, I, I, I, I, I, I⟩, I⟩, ⟨I, I⟩, Go.K.c_laws_eqWorker _ _ (by omega)⟩, I, I⟩, by kernel_rfl, ?_⟩
 refine W.cn ?_
 conv => whnf
 refine ⟨fun h3 => ?_, fun h3 => ?_⟩
 replace h3 := ndt h3
 refine g 26 27 [] ?_
 conv => whnf
 refine ⟨⟨I, I⟩, ?_⟩
 refine W.ret ?_
 refine EndsW.rt ?_
 conv => whnf
 refine ⟨⟨I, I, I⟩, ?_, rfl⟩
 rotate_left 1
 replace h3 := ndf h3
 refine W.skip ?_
 refine rg [.i ((↑n : Int) + (1 : Int))] ?_
 conv => whnf
 refine ⟨⟨I, w64 (by omega) (by omega), I, I⟩, ?_⟩
 rotate_left 1
 replace h2 := df h2
 simp only [List.length_map] at h2
 refine W.exit ?_
 refine g 0 2 [] ?_
 conv => whnf
 refine ⟨⟨I, I⟩, ?_⟩
 refine W.ret ?_
 refine EndsW.rt ?_
 conv => whnf
 refine ⟨⟨I, I, I⟩, ?_, rfl⟩
 rotate_left 1
 ·exact vbf (fun e => by subst e; rw [hy1] at hy2; cases hy2; exact h3 rfl)
 ·refine ⟨n + 1, [], [], ⟨rfl, ⟨rfl, rfl, rfl, I⟩, I, I⟩, ?_, ?_⟩
  rotate_left 1
  (dsimp only; omega)
  dsimp only
  exact ⟨by omega, take_eq hc hy1 (by rw [hy2]; exact congrArg some (Eq.symm h3))⟩
 ·exact vbt (by rw [take_all (by omega), take_all (by omega)] at hc; exact hc)
end Go.K
end
section
set_option linter.unusedVariables false
set_option linter.unusedSimpArgs false
set_option maxHeartbeats 4000000
set_option maxRecDepth 20000
open Go Go.Tm Go.Proofs
namespace Go.K
structure World where
 plan : Plan
 key : ByteArray
 boss : Boss
 workers : List Worker
 flight : List Parcel
 forged : ByteArray
 deriving DecidableEq
abbrev worldT (x : World) : List T := [.slc taskK (x.plan.tasks.map taskT), .s x.key, .i x.boss.workers, .b x.boss.up, .i x.boss.now, .i x.boss.since, .i x.boss.epoch, .i x.boss.given, .slc [false] (x.boss.log.safe.map strT), .slc [false] (x.boss.log.loose.map strT), .slc [false] (x.boss.results.map strT), .slc jobK (x.boss.jobs.map jobT), .slc seatK (x.boss.seats.map seatT), .slc owedK (x.boss.owed.map owedT), .slc workerK (x.workers.map workerT), .slc parcelK (x.flight.map parcelT), .s x.forged]
abbrev worldR (x : World) : V := .agg [.t (.slc taskK (x.plan.tasks.map taskT)), .t (.s x.key), .t (.i x.boss.workers), .t (.b x.boss.up), .t (.i x.boss.now), .t (.i x.boss.since), .t (.i x.boss.epoch), .t (.i x.boss.given), .t (.slc [false] (x.boss.log.safe.map strT)), .t (.slc [false] (x.boss.log.loose.map strT)), .t (.slc [false] (x.boss.results.map strT)), .t (.slc jobK (x.boss.jobs.map jobT)), .t (.slc seatK (x.boss.seats.map seatT)), .t (.slc owedK (x.boss.owed.map owedT)), .t (.slc workerK (x.workers.map workerT)), .t (.slc parcelK (x.flight.map parcelT)), .t (.s x.forged)]
abbrev worldO (x : World) : V := .agg [.own taskK (x.plan.tasks.map taskT), .t (.s x.key), .t (.i x.boss.workers), .t (.b x.boss.up), .t (.i x.boss.now), .t (.i x.boss.since), .t (.i x.boss.epoch), .t (.i x.boss.given), .own [false] (x.boss.log.safe.map strT), .own [false] (x.boss.log.loose.map strT), .own [false] (x.boss.results.map strT), .own jobK (x.boss.jobs.map jobT), .own seatK (x.boss.seats.map seatT), .own owedK (x.boss.owed.map owedT), .own workerK (x.workers.map workerT), .own parcelK (x.flight.map parcelT), .t (.s x.forged)]
def worldSz (x : World) : Int := planSz x.plan + (x.key.size : Int) + bossSz x.boss + ((x.workers.length : Int) + sumI workerSz x.workers) + ((x.flight.length : Int) + sumI parcelSz x.flight) + (x.forged.size : Int)
theorem worldSz_nn (x : World) : 0 ≤ worldSz x := by
 have hn0 := planSz_nn x.plan
 have hn1 := bossSz_nn x.boss
 have hn2 := sum_nn workerSz_nn x.workers
 have hn3 := sum_nn parcelSz_nn x.flight
 simp only [worldSz]; omega
def worldWf (x : World) : Prop := planWf x.plan ∧ x.key.size ≤ 9223372036854775807 ∧ bossWf x.boss ∧ x.workers.length ≤ 9223372036854775807 ∧ (∀ y ∈ x.workers, workerWf y) ∧ x.flight.length ≤ 9223372036854775807 ∧ (∀ y ∈ x.flight, parcelWf y) ∧ x.forged.size ≤ 9223372036854775807
theorem c_laws_szWorld (x : World) (left : Int) (hw : worldWf x) (h : left ≤ 1048576) (h0 : 0 ≤ left) : F n_laws_szWorld [.val (worldR x), .val (.i left)] (.i (if left - worldSz x < 0 then -1 else left - worldSz x)) [[], []] := by
 have ht := totP_sum x.flight
 have hn0 := planSz_nn x.plan
 have hn1 := bossSz_nn x.boss
 have hn2 := sum_nn workerSz_nn x.workers
 have hn3 := sum_nn parcelSz_nn x.flight
 obtain ⟨hw0, hw1, hw2, hw3, hw4, hw5, hw6, hw7⟩ := hw
 have hz : worldSz x = planSz x.plan + (x.key.size : Int) + bossSz x.boss + ((x.workers.length : Int) + sumI workerSz x.workers) + ((x.flight.length : Int) + sumI parcelSz x.flight) + (x.forged.size : Int) := rfl
 refine i_laws_szWorld ?_
 conv => whnf
 refine g 0 1 [] ?_
 conv => whnf
 refine ⟨⟨⟨I, I, I, I, I, I, I, I, I, I, I, I, I, I, I, I, I, I⟩, I, I⟩, ?_⟩
 refine g 5 9 [.call (V.i (if left - planSz (World.plan x) < (0 : Int) then (-1 : Int) else left - planSz (World.plan x))) ([[], []])] ?_
 conv => whnf
 refine ⟨⟨I, I, I, ⟨⟨I, I, I⟩, I, ⟨⟨I, I⟩, ⟨I, I⟩, I⟩, ⟨I, I⟩, Go.K.c_laws_szPlan _ _ (by omega) (by omega) (by omega)⟩, I, I⟩, ?_⟩
 refine W.sq ?_
 refine g 9 10 [] ?_
 conv => whnf
 refine ⟨⟨I, I, I⟩, ?_⟩
 refine W.cn ?_
 conv => whnf
 refine ⟨fun h1 => ?_, fun h1 => ?_⟩
 replace h1 := dt h1
 refine g 10 11 [] ?_
 conv => whnf
 refine ⟨⟨I, I⟩, ?_⟩
 refine W.ret ?_
 refine EndsW.rt ?_
 conv => whnf
 refine ⟨⟨I, I, I⟩, ?_, rfl⟩
 exact vi (by omega)
 replace h1 := df h1
 refine W.skip ?_
 refine g 10 16 [.i ((if left - planSz (World.plan x) < (0 : Int) then (-1 : Int) else left - planSz (World.plan x)) - (↑(ByteArray.size (World.key x)) : Int))] ?_
 conv => whnf
 refine ⟨⟨I, I, I, I, w64 (by omega) (by omega), I, I⟩, ?_⟩
 refine W.sq ?_
 refine g 16 17 [] ?_
 conv => whnf
 refine ⟨⟨I, I, I⟩, ?_⟩
 refine W.cn ?_
 conv => whnf
 refine ⟨fun h2 => ?_, fun h2 => ?_⟩
 replace h2 := dt h2
 refine g 17 18 [] ?_
 conv => whnf
 refine ⟨⟨I, I⟩, ?_⟩
 refine W.ret ?_
 refine EndsW.rt ?_
 conv => whnf
 refine ⟨⟨I, I, I⟩, ?_, rfl⟩
 exact vi (by omega)
 replace h2 := df h2
 refine W.skip ?_
 refine g 17 22 [.call (V.i (if (if left - planSz (World.plan x) < (0 : Int) then (-1 : Int) else left - planSz (World.plan x)) - (↑(ByteArray.size (World.key x)) : Int) - bossSz (World.boss x) < (0 : Int) then (-1 : Int) else (if left - planSz (World.plan x) < (0 : Int) then (-1 : Int) else left - planSz (World.plan x)) - (↑(ByteArray.size (World.key x)) : Int) - bossSz (World.boss x))) ([[], []])] ?_
 conv => whnf
 refine ⟨⟨I, I, I, ⟨⟨I, I, I⟩, I, ⟨⟨I, I, I, I, I, I, I, I, I, I, I, I, I⟩, ⟨I, I⟩, I⟩, ⟨I, I⟩, Go.K.c_laws_szBoss _ _ (by omega) (by omega) (by omega)⟩, I, I⟩, ?_⟩
 refine W.sq ?_
 refine g 22 23 [] ?_
 conv => whnf
 refine ⟨⟨I, I, I⟩, ?_⟩
 refine W.cn ?_
 conv => whnf
 refine ⟨fun h3 => ?_, fun h3 => ?_⟩
 replace h3 := dt h3
 refine g 23 24 [] ?_
 conv => whnf
 refine ⟨⟨I, I⟩, ?_⟩
 refine W.ret ?_
 refine EndsW.rt ?_
 conv => whnf
 refine ⟨⟨I, I, I⟩, ?_, rfl⟩
 exact vi (by omega)
 replace h3 := df h3
 refine W.skip ?_
 refine g 23 28 [.call (V.i (if (if (if left - planSz (World.plan x) < (0 : Int) then (-1 : Int) else left - planSz (World.plan x)) - (↑(ByteArray.size (World.key x)) : Int) - bossSz (World.boss x) < (0 : Int) then (-1 : Int) else (if left - planSz (World.plan x) < (0 : Int) then (-1 : Int) else left - planSz (World.plan x)) - (↑(ByteArray.size (World.key x)) : Int) - bossSz (World.boss x)) - ((↑(List.length (World.workers x)) : Int) + sumI workerSz (World.workers x)) < (0 : Int) then (-1 : Int) else (if (if left - planSz (World.plan x) < (0 : Int) then (-1 : Int) else left - planSz (World.plan x)) - (↑(ByteArray.size (World.key x)) : Int) - bossSz (World.boss x) < (0 : Int) then (-1 : Int) else (if left - planSz (World.plan x) < (0 : Int) then (-1 : Int) else left - planSz (World.plan x)) - (↑(ByteArray.size (World.key x)) : Int) - bossSz (World.boss x)) - ((↑(List.length (World.workers x)) : Int) + sumI workerSz (World.workers x)))) ([[], []])] ?_
 conv => whnf
 refine ⟨⟨I, I, I, ⟨⟨I, I, I⟩, I, ⟨⟨I, I⟩, ⟨I, I⟩, I⟩, ⟨I, I⟩, Go.K.c_laws_szWorkerS _ _ (by omega) (by omega) (by omega) (by omega)⟩, I, I⟩, ?_⟩
 refine W.sq ?_
 refine g 28 29 [] ?_
 conv => whnf
 refine ⟨⟨I, I, I⟩, ?_⟩
 refine W.cn ?_
 conv => whnf
 refine ⟨fun h4 => ?_, fun h4 => ?_⟩
 replace h4 := dt h4
 refine g 29 30 [] ?_
 conv => whnf
 refine ⟨⟨I, I⟩, ?_⟩
 refine W.ret ?_
 refine EndsW.rt ?_
 conv => whnf
 refine ⟨⟨I, I, I⟩, ?_, rfl⟩
 exact vi (by omega)
 replace h4 := df h4
 refine W.skip ?_
 refine g 29 34 [.call (V.i (if (if (if (if left - planSz (World.plan x) < (0 : Int) then (-1 : Int) else left - planSz (World.plan x)) - (↑(ByteArray.size (World.key x)) : Int) - bossSz (World.boss x) < (0 : Int) then (-1 : Int) else (if left - planSz (World.plan x) < (0 : Int) then (-1 : Int) else left - planSz (World.plan x)) - (↑(ByteArray.size (World.key x)) : Int) - bossSz (World.boss x)) - ((↑(List.length (World.workers x)) : Int) + sumI workerSz (World.workers x)) < (0 : Int) then (-1 : Int) else (if (if left - planSz (World.plan x) < (0 : Int) then (-1 : Int) else left - planSz (World.plan x)) - (↑(ByteArray.size (World.key x)) : Int) - bossSz (World.boss x) < (0 : Int) then (-1 : Int) else (if left - planSz (World.plan x) < (0 : Int) then (-1 : Int) else left - planSz (World.plan x)) - (↑(ByteArray.size (World.key x)) : Int) - bossSz (World.boss x)) - ((↑(List.length (World.workers x)) : Int) + sumI workerSz (World.workers x))) - (↑(List.length (World.flight x)) : Int) - totP (World.flight x) < (0 : Int) then (-1 : Int) else (if (if (if left - planSz (World.plan x) < (0 : Int) then (-1 : Int) else left - planSz (World.plan x)) - (↑(ByteArray.size (World.key x)) : Int) - bossSz (World.boss x) < (0 : Int) then (-1 : Int) else (if left - planSz (World.plan x) < (0 : Int) then (-1 : Int) else left - planSz (World.plan x)) - (↑(ByteArray.size (World.key x)) : Int) - bossSz (World.boss x)) - ((↑(List.length (World.workers x)) : Int) + sumI workerSz (World.workers x)) < (0 : Int) then (-1 : Int) else (if (if left - planSz (World.plan x) < (0 : Int) then (-1 : Int) else left - planSz (World.plan x)) - (↑(ByteArray.size (World.key x)) : Int) - bossSz (World.boss x) < (0 : Int) then (-1 : Int) else (if left - planSz (World.plan x) < (0 : Int) then (-1 : Int) else left - planSz (World.plan x)) - (↑(ByteArray.size (World.key x)) : Int) - bossSz (World.boss x)) - ((↑(List.length (World.workers x)) : Int) + sumI workerSz (World.workers x))) - (↑(List.length (World.flight x)) : Int) - totP (World.flight x))) ([[], []])] ?_
 conv => whnf
 refine ⟨⟨I, I, I, ⟨⟨I, I, I⟩, I, ⟨⟨I, I⟩, ⟨I, I⟩, I⟩, ⟨I, I⟩, Go.K.c_laws_szParcelS _ _ (by first | omega | assumption) (by first | omega | assumption) (by first | omega | assumption) (by first | omega | assumption)⟩, I, I⟩, ?_⟩
 refine W.sq ?_
 refine g 34 35 [] ?_
 conv => whnf
 refine ⟨⟨I, I, I⟩, ?_⟩
 refine W.cn ?_
 conv => whnf
 refine ⟨fun h5 => ?_, fun h5 => ?_⟩
 replace h5 := dt h5
 refine g 35 36 [] ?_
 conv => whnf
 refine ⟨⟨I, I⟩, ?_⟩
 refine W.ret ?_
 refine EndsW.rt ?_
 conv => whnf
 refine ⟨⟨I, I, I⟩, ?_, rfl⟩
 exact vi (by omega)
 replace h5 := df h5
 refine W.skip ?_
 refine g 35 41 [.i ((if (if (if (if left - planSz (World.plan x) < (0 : Int) then (-1 : Int) else left - planSz (World.plan x)) - (↑(ByteArray.size (World.key x)) : Int) - bossSz (World.boss x) < (0 : Int) then (-1 : Int) else (if left - planSz (World.plan x) < (0 : Int) then (-1 : Int) else left - planSz (World.plan x)) - (↑(ByteArray.size (World.key x)) : Int) - bossSz (World.boss x)) - ((↑(List.length (World.workers x)) : Int) + sumI workerSz (World.workers x)) < (0 : Int) then (-1 : Int) else (if (if left - planSz (World.plan x) < (0 : Int) then (-1 : Int) else left - planSz (World.plan x)) - (↑(ByteArray.size (World.key x)) : Int) - bossSz (World.boss x) < (0 : Int) then (-1 : Int) else (if left - planSz (World.plan x) < (0 : Int) then (-1 : Int) else left - planSz (World.plan x)) - (↑(ByteArray.size (World.key x)) : Int) - bossSz (World.boss x)) - ((↑(List.length (World.workers x)) : Int) + sumI workerSz (World.workers x))) - (↑(List.length (World.flight x)) : Int) - totP (World.flight x) < (0 : Int) then (-1 : Int) else (if (if (if left - planSz (World.plan x) < (0 : Int) then (-1 : Int) else left - planSz (World.plan x)) - (↑(ByteArray.size (World.key x)) : Int) - bossSz (World.boss x) < (0 : Int) then (-1 : Int) else (if left - planSz (World.plan x) < (0 : Int) then (-1 : Int) else left - planSz (World.plan x)) - (↑(ByteArray.size (World.key x)) : Int) - bossSz (World.boss x)) - ((↑(List.length (World.workers x)) : Int) + sumI workerSz (World.workers x)) < (0 : Int) then (-1 : Int) else (if (if left - planSz (World.plan x) < (0 : Int) then (-1 : Int) else left - planSz (World.plan x)) - (↑(ByteArray.size (World.key x)) : Int) - bossSz (World.boss x) < (0 : Int) then (-1 : Int) else (if left - planSz (World.plan x) < (0 : Int) then (-1 : Int) else left - planSz (World.plan x)) - (↑(ByteArray.size (World.key x)) : Int) - bossSz (World.boss x)) - ((↑(List.length (World.workers x)) : Int) + sumI workerSz (World.workers x))) - (↑(List.length (World.flight x)) : Int) - totP (World.flight x)) - (↑(ByteArray.size (World.forged x)) : Int))] ?_
 conv => whnf
 refine ⟨⟨I, I, I, I, w64 (by omega) (by omega), I, I⟩, ?_⟩
 refine W.sq ?_
 refine g 2 3 [] ?_
 conv => whnf
 refine ⟨⟨I, I, I⟩, ?_⟩
 refine W.cn ?_
 conv => whnf
 refine ⟨fun h6 => ?_, fun h6 => ?_⟩
 replace h6 := dt h6
 refine g 41 43 [] ?_
 conv => whnf
 refine ⟨⟨I, I⟩, ?_⟩
 refine W.ret ?_
 refine EndsW.rt ?_
 conv => whnf
 refine ⟨⟨I, I, I⟩, ?_, rfl⟩
 exact vi (by omega)
 replace h6 := df h6
 refine W.skip ?_
 refine g 41 44 [] ?_
 conv => whnf
 refine ⟨⟨I, I, I⟩, ?_⟩
 refine W.ret ?_
 refine EndsW.rt ?_
 conv => whnf
 refine ⟨⟨I, I, I⟩, ?_, rfl⟩
 exact vi (by omega)
theorem c_laws_toWorld (x : World) (h : worldSz x ≤ 1048576) : F n_laws_toWorld [.val (worldR x)] (worldO x) [[]] := by
 have hn0 := planSz_nn x.plan
 have hn1 := bossSz_nn x.boss
 have hn2 := sum_nn workerSz_nn x.workers
 have hn3 := sum_nn parcelSz_nn x.flight
 have hz : worldSz x = planSz x.plan + (x.key.size : Int) + bossSz x.boss + ((x.workers.length : Int) + sumI workerSz x.workers) + ((x.flight.length : Int) + sumI parcelSz x.flight) + (x.forged.size : Int) := rfl
 refine i_laws_toWorld ?_
 conv => whnf
 refine g 0 1 [] ?_
 conv => whnf
 refine ⟨⟨⟨I, I, I, I, I, I, I, I, I, I, I, I, I, I, I, I, I, I⟩, I, I⟩, ?_⟩
 refine g 0 0 [] ?_
 conv => whnf
 refine ⟨⟨I, I⟩, ?_⟩
 refine g 4 8 [.call (planO (World.plan x)) ([[]])] ?_
 conv => whnf
 refine ⟨⟨I, I, ⟨⟨I, I⟩, I, ⟨⟨I, I⟩, I⟩, ⟨I, I⟩, Go.K.c_laws_toPlan _ (by omega)⟩, I, ⟨I, I⟩, I⟩, ?_⟩
 refine g 8 11 [] ?_
 conv => whnf
 refine ⟨⟨I, I, I, ⟨I, I⟩, I⟩, ?_⟩
 refine g 11 15 [.call (bossO (World.boss x)) ([[]])] ?_
 conv => whnf
 refine ⟨⟨I, I, ⟨⟨I, I⟩, I, ⟨⟨I, I, I, I, I, I, I, I, I, I, I, I, I⟩, I⟩, ⟨I, I⟩, Go.K.c_laws_toBoss _ (by omega)⟩, I, ⟨I, I, I, I, I, I, I, I, I, I, I, I, I⟩, I⟩, ?_⟩
 refine g 15 19 [.call (V.own workerK (List.map workerT (World.workers x))) ([[]])] ?_
 conv => whnf
 refine ⟨⟨I, I, ⟨⟨I, I⟩, I, ⟨⟨I, I⟩, I⟩, ⟨I, I⟩, Go.K.c_laws_toWorkerS _ (by omega)⟩, I, ⟨I, I⟩, I⟩, ?_⟩
 refine g 19 23 [.call (V.own pkd (List.map parT (World.flight x))) ([[]])] ?_
 conv => whnf
 refine ⟨⟨I, I, ⟨⟨I, I⟩, I, ⟨⟨I, I⟩, I⟩, ⟨I, I⟩, Go.K.c_laws_toParcelS _ (by omega)⟩, I, ⟨I, I⟩, I⟩, ?_⟩
 refine g 23 26 [] ?_
 conv => whnf
 refine ⟨⟨I, I, I, ⟨I, I⟩, I⟩, ?_⟩
 refine g 3 27 [] ?_
 conv => whnf
 refine ⟨⟨I, ⟨I, I, I, I, I, I, I, I, I, I, I, I, I, I, I, I, I, I⟩, I⟩, ?_⟩
 refine W.ret ?_
 refine EndsW.rt ?_
 conv => whnf
 refine ⟨⟨I, I, I, I, I, I, I, I, I, I, I, I, I, I, I, I, I, I, I⟩, ?_, rfl⟩
 rfl
def worldLen (a : World) : Prop := a.plan.tasks.length ≤ 9223372036854775806 ∧ (∀ y ∈ a.plan.tasks, taskLen y) ∧ a.boss.log.safe.length ≤ 9223372036854775806 ∧ a.boss.log.loose.length ≤ 9223372036854775806 ∧ a.boss.results.length ≤ 9223372036854775806 ∧ a.boss.jobs.length ≤ 9223372036854775806 ∧ a.boss.seats.length ≤ 9223372036854775806 ∧ a.boss.owed.length ≤ 9223372036854775806 ∧ a.workers.length ≤ 9223372036854775806 ∧ (∀ y ∈ a.workers, workerLen y) ∧ a.flight.length ≤ 9223372036854775806
theorem worldLen_of {a : World} (h : worldSz a ≤ 1048576) : worldLen a := by
 have := sum_nn taskSz_nn a.plan.tasks
 have := totS_nn a.boss.log.safe
 have := totS_nn a.boss.log.loose
 have := totS_nn a.boss.results
 have := sum_nn workerSz_nn a.workers
 have := sum_nn parcelSz_nn a.flight
 simp only [worldSz, planSz, bossSz, logSz] at h
 simp only [worldLen]
 exact ⟨by omega, fun y hy => taskLen_of (by have := sum_mem taskSz_nn hy; omega), by omega, by omega, by omega, by omega, by omega, by omega, by omega, fun y hy => workerLen_of (by have := sum_mem workerSz_nn hy; omega), by omega⟩
theorem c_laws_eqWorld (a b : World) (hl : worldLen a) : F n_laws_eqWorld [.val (worldR a), .val (worldR b)] (.b (decide (a = b))) [[], []] := by
 obtain ⟨a_plan, a_key, a_boss, a_workers, a_flight, a_forged⟩ := a
 obtain ⟨b_plan, b_key, b_boss, b_workers, b_flight, b_forged⟩ := b
 simp only [worldLen] at hl
 obtain ⟨hl0, hl1, hl2, hl3, hl4, hl5, hl6, hl7, hl8, hl9, hl10⟩ := hl
 have hx0 : planLen a_plan := ⟨hl0, hl1⟩
 have hx2 : bossLen a_boss := ⟨hl2, hl3, hl4, hl5, hl6, hl7⟩
 refine i_laws_eqWorld ?_
 conv => whnf
 refine g 0 2 [] ?_
 conv => whnf
 refine ⟨⟨⟨I, I, I, I, I, I, I, I, I, I, I, I, I, I, I, I, I, I⟩, ⟨I, I, I, I, I, I, I, I, I, I, I, I, I, I, I, I, I, I⟩, I, I⟩, ?_⟩
 refine W.sq ?_
 refine g 5 10 [.call (V.b (decide (a_plan = b_plan))) ([[], []])] ?_
 conv => whnf
 refine ⟨⟨I, I, I, I, ⟨⟨I, I, I⟩, I, ⟨⟨I, I⟩, ⟨I, I⟩, I⟩, ⟨I, I⟩, Go.K.c_laws_eqPlan _ _ (by omega)⟩, I, I⟩, ?_⟩
 refine W.cn ?_
 conv => whnf
 refine ⟨fun h1 => ?_, fun h1 => ?_⟩
 replace h1 := ndt h1
 refine g 10 11 [] ?_
 conv => whnf
 refine ⟨⟨I, I⟩, ?_⟩
 refine W.ret ?_
 refine EndsW.rt ?_
 conv => whnf
 refine ⟨⟨I, I, I⟩, ?_, rfl⟩
 rotate_left 1
 replace h1 := ndf h1
 refine W.skip ?_
 refine W.sq ?_
 refine g 10 15 [] ?_
 conv => whnf
 refine ⟨⟨I, I, I, I, I, I⟩, ?_⟩
 refine W.cn ?_
 conv => whnf
 refine ⟨fun h2 => ?_, fun h2 => ?_⟩
 replace h2 := ndt h2
 refine g 15 16 [] ?_
 conv => whnf
 refine ⟨⟨I, I⟩, ?_⟩
 refine W.ret ?_
 refine EndsW.rt ?_
 conv => whnf
 refine ⟨⟨I, I, I⟩, ?_, rfl⟩
 rotate_left 1
 replace h2 := ndf h2
 refine W.skip ?_
 refine W.sq ?_
 refine g 15 21 [.call (V.b (decide (a_boss = b_boss))) ([[], []])] ?_
 conv => whnf
 refine ⟨⟨I, I, I, I, ⟨⟨I, I, I⟩, I, ⟨⟨I, I, I, I, I, I, I, I, I, I, I, I, I⟩, ⟨I, I, I, I, I, I, I, I, I, I, I, I, I⟩, I⟩, ⟨I, I⟩, Go.K.c_laws_eqBoss _ _ (by omega)⟩, I, I⟩, ?_⟩
 refine W.cn ?_
 conv => whnf
 refine ⟨fun h3 => ?_, fun h3 => ?_⟩
 replace h3 := ndt h3
 refine g 21 22 [] ?_
 conv => whnf
 refine ⟨⟨I, I⟩, ?_⟩
 refine W.ret ?_
 refine EndsW.rt ?_
 conv => whnf
 refine ⟨⟨I, I, I⟩, ?_, rfl⟩
 rotate_left 1
 replace h3 := ndf h3
 refine W.skip ?_
 refine W.sq ?_
 refine g 21 27 [.call (V.b (decide (a_workers = b_workers))) ([[], []])] ?_
 conv => whnf
 refine ⟨⟨I, I, I, I, ⟨⟨I, I, I⟩, I, ⟨⟨I, I⟩, ⟨I, I⟩, I⟩, ⟨I, I⟩, Go.K.c_laws_eqWorkerS _ _ (by omega) (by omega)⟩, I, I⟩, ?_⟩
 refine W.cn ?_
 conv => whnf
 refine ⟨fun h4 => ?_, fun h4 => ?_⟩
 replace h4 := ndt h4
 refine g 27 28 [] ?_
 conv => whnf
 refine ⟨⟨I, I⟩, ?_⟩
 refine W.ret ?_
 refine EndsW.rt ?_
 conv => whnf
 refine ⟨⟨I, I, I⟩, ?_, rfl⟩
 rotate_left 1
 replace h4 := ndf h4
 refine W.skip ?_
 refine W.sq ?_
 refine g 27 33 [.call (V.b (decide (a_flight = b_flight))) ([[], []])] ?_
 conv => whnf
 refine ⟨⟨I, I, I, I, ⟨⟨I, I, I⟩, I, ⟨⟨I, I⟩, ⟨I, I⟩, I⟩, ⟨I, I⟩, Go.K.c_laws_eqParcelS _ _ (by omega)⟩, I, I⟩, ?_⟩
 refine W.cn ?_
 conv => whnf
 refine ⟨fun h5 => ?_, fun h5 => ?_⟩
 replace h5 := ndt h5
 refine g 33 34 [] ?_
 conv => whnf
 refine ⟨⟨I, I⟩, ?_⟩
 refine W.ret ?_
 refine EndsW.rt ?_
 conv => whnf
 refine ⟨⟨I, I, I⟩, ?_, rfl⟩
 rotate_left 1
 replace h5 := ndf h5
 refine W.skip ?_
 refine W.sq ?_
 refine g 33 38 [] ?_
 conv => whnf
 refine ⟨⟨I, I, I, I, I, I⟩, ?_⟩
 refine W.cn ?_
 conv => whnf
 refine ⟨fun h6 => ?_, fun h6 => ?_⟩
 replace h6 := ndt h6
 refine g 2 4 [] ?_
 conv => whnf
 refine ⟨⟨I, I⟩, ?_⟩
 refine W.ret ?_
 refine EndsW.rt ?_
 conv => whnf
 refine ⟨⟨I, I, I⟩, ?_, rfl⟩
 rotate_left 1
 replace h6 := ndf h6
 refine W.skip ?_
 refine g 2 4 [] ?_
 conv => whnf
 refine ⟨⟨I, I⟩, ?_⟩
 refine W.ret ?_
 refine EndsW.rt ?_
 conv => whnf
 refine ⟨⟨I, I, I⟩, ?_, rfl⟩
 rotate_left 1
 all_goals (first | exact vbt (by simp_all; done) | exact vbf (by simp_all; done))
theorem wf_World {n : Nat} {x : List T} (h : wfT E (n + 6) ty_laws_World x) : ∃ v : World, x = worldT v ∧ worldWf v := by
 obtain ⟨y0, z0, e0, wplan0, y1, z1, e1, ⟨key, rfl, hkey⟩, y2, z2, e2, wboss0, y3, z3, e3, ⟨lworkers, rfl, hworkers, gworkers⟩, y4, z4, e4, ⟨lflight, rfl, hflight, gflight⟩, y5, z5, e5, ⟨forged, rfl, hforged⟩, e6⟩ := h
 subst e6
 subst e5
 subst e4
 subst e3
 subst e2
 subst e1
 obtain ⟨plan, rfl, wplan⟩ := wf_Plan wplan0
 obtain ⟨boss, rfl, wboss⟩ := wf_Boss wboss0
 obtain ⟨workers, rfl, wworkers⟩ := map_of (f := workerT) (p := workerWf) (xs := lworkers) fun y hy => wf_Worker (gworkers y hy)
 obtain ⟨flight, rfl, wflight⟩ := map_of (f := parcelT) (p := parcelWf) (xs := lflight) fun y hy => wf_Parcel (gflight y hy)
 subst e0
 exact ⟨⟨plan, key, boss, workers, flight, forged⟩, rfl, ⟨wplan, hkey, wboss, by rw [List.length_map] at hworkers; exact hworkers, wworkers, by rw [List.length_map] at hflight; exact hflight, wflight, hforged⟩⟩
end Go.K
end
section
set_option linter.unusedVariables false
set_option linter.unusedSimpArgs false
set_option maxHeartbeats 4000000
set_option maxRecDepth 20000
open Go Go.Tm Go.Proofs
namespace Go.K
abbrev u8s (l : List Int) : T := .slc [false] (l.map b1T)
theorem x_spec_l1Rd_pick {xs : List A} {R : V → List (List V) → Prop} (hrun : forceH (iniH 99 xs) fun H => W Try.prog 99 (bodyOf Try.f125) H (EndsW 99 E [(4, 3, false)] xs R)) (h : (okAs xs && Nat.ble xs.length 99) = true := by rfl) : ∃ res outs, R res outs ∧ F 125 xs res outs := by obtain ⟨r, o, h1, h2⟩ := Fn.any Try.func125 rfl rfl E_ok rfl h hrun; exact ⟨r, o, h1, e_spec_l1Rd_pick, h2⟩
/-- The reader of a code: its bytes, and the place. -/
abbrev rdC (l : List Int) (pos : Int) : List V := [.t (u8s l), .t (.i pos)]
def u8ok (l : List Int) : Prop := l.length ≤ 2000 ∧ ∀ x ∈ l, 0 ≤ x ∧ x ≤ 255
theorem tmod_rng {x n : Int} (hx : 0 ≤ x) (hn : 0 < n) : 0 ≤ x.tmod n ∧ x.tmod n < n := ⟨Int.tmod_nonneg _ hx, Int.tmod_lt_of_pos _ hn⟩
theorem tdiv_rng {x n : Int} (hx : 0 ≤ x) (hn : 0 < n) : 0 ≤ x.tdiv n ∧ x.tdiv n ≤ x := by
 rw [Int.tdiv_eq_ediv_of_nonneg hx]
 exact ⟨Int.ediv_nonneg hx (by omega), Int.ediv_le_self _ hx⟩
theorem xor_rng {x y : Int} (hx : 0 ≤ x) (hx2 : x < 1099511627776) (hy : 0 ≤ y) (hy2 : y < 1099511627776) : 0 ≤ IntKind.i64.wrap ↑(BitVec.ofInt IntKind.i64.bits x ^^^ BitVec.ofInt IntKind.i64.bits y).toNat := by
 have e1 : (BitVec.ofInt IntKind.i64.bits x).toNat = x.toNat := by
  rw [BitVec.toNat_ofInt]
  show (x % ((2 ^ 64 : Nat) : Int)).toNat = _
  rw [Int.emod_eq_of_lt hx (by omega)]
 have e2 : (BitVec.ofInt IntKind.i64.bits y).toNat = y.toNat := by
  rw [BitVec.toNat_ofInt]
  show (y % ((2 ^ 64 : Nat) : Int)).toNat = _
  rw [Int.emod_eq_of_lt hy (by omega)]
 have h : x.toNat ^^^ y.toNat < 2 ^ 40 := Nat.xor_lt_two_pow (by omega) (by omega)
 rw [BitVec.toNat_xor, e1, e2]
 have : (2 : Nat) ^ 40 = 1099511627776 := by decide
 rw [w64 (by omega) (by omega)]
 omega
theorem ex_pick (l : List Int) (pos n : Int) (hl : u8ok l) (h0 : 0 ≤ pos) (h1 : pos ≤ 1048576) (hn : n ≤ 1048576) : ∃ res outs, (∃ v, res = .i v ∧ outs = [rdC l (pos + 1), []] ∧ 0 ≤ v ∧ (v < n ∨ v = 0)) ∧ F n_spec_l1Rd_pick [.ptr (rdC l pos), .val (.i n)] res outs := by
 obtain ⟨hl1, hl2⟩ := hl
 by_cases hz : l.length = 0
 ·refine x_spec_l1Rd_pick ?_
  conv => whnf
  refine g 0 0 [] ?_
  conv => whnf
  refine ⟨⟨I, I⟩, ?_⟩
  refine g 7 15 [.i (pos + (1 : Int))] ?_
  conv => whnf
  refine ⟨⟨I, I, I, I, I, w64 (by omega) (by omega), I, I, ⟨I, I⟩, I⟩, ?_⟩
  refine W.sq ?_
  by_cases h2 : n < (1 : Int)
  refine g 15 24 [.b (true), .b (true), .b (true), .b (true), .b (true), .b (true), .b (true)] ?_
  conv => whnf
  refine ⟨⟨I, I, I, dT (by omega), dT (by omega), dT (by omega), dT (by omega), dT (by omega), dT (by omega), dT (by omega), I⟩, ?_⟩
  refine W.cn ?_
  conv => whnf
  refine ⟨fun _ => ?_, noF (rfl)⟩
  refine g 24 25 [] ?_
  conv => whnf
  refine ⟨⟨I, I⟩, ?_⟩
  refine W.ret ?_
  refine EndsW.rt ?_
  conv => whnf
  refine ⟨⟨I, I, I⟩, ?_⟩
  rotate_left 1
  refine g 15 24 [.b (false), .b (false), .b (false), .b (false), .b (false), .b (false), .b (false)] ?_
  conv => whnf
  refine ⟨⟨I, I, I, ⟨dF (by omega), I⟩, ⟨dF (by omega), I⟩, ⟨dF (by omega), I⟩, ⟨dF (by omega), I⟩, ⟨dF (by omega), I⟩, ⟨dF (by omega), I⟩, dF (by omega), I⟩, ?_⟩
  refine W.cn ?_
  conv => whnf
  refine ⟨fun _ => ?_, noF (by simp [*])⟩
  refine g 24 25 [] ?_
  conv => whnf
  refine ⟨⟨I, I⟩, ?_⟩
  refine W.ret ?_
  refine EndsW.rt ?_
  conv => whnf
  refine ⟨⟨I, I, I⟩, ?_⟩
  rotate_left 1
  all_goals exact ⟨0, rfl, rfl, by omega, .inr rfl⟩
 ·have hp : (0 : Int) < ((l.map b1T).length : Int) := by rw [List.length_map]; omega
  have hlm : ((l.map b1T).length : Int) = l.length := by rw [List.length_map]
  obtain ⟨m1, m2⟩ := tmod_rng (x := pos + 1 - 1) (by omega) hp
  obtain ⟨m3, m4⟩ := tmod_rng (x := (pos + 1 - 1) * 7 + 3) (by omega) hp
  obtain ⟨m5, m6⟩ := tdiv_rng (x := pos + 1 - 1) (by omega) hp
  rw [hlm] at m1 m2 m3 m4 m5 m6
  refine x_spec_l1Rd_pick ?_
  conv => whnf
  refine g 0 0 [] ?_
  conv => whnf
  refine ⟨⟨I, I⟩, ?_⟩
  refine g 7 15 [.i (pos + (1 : Int))] ?_
  conv => whnf
  refine ⟨⟨I, I, I, I, I, w64 (by omega) (by omega), I, I, ⟨I, I⟩, I⟩, ?_⟩
  refine W.sq ?_
  by_cases h2 : n < (1 : Int)
  refine g 15 24 [.b (true), .b (true), .b (true), .b (true), .b (true), .b (true), .b (true)] ?_
  conv => whnf
  refine ⟨⟨I, I, I, dT (by omega), dT (by omega), dT (by omega), dT (by omega), dT (by omega), dT (by omega), dT (by omega), I⟩, ?_⟩
  refine W.cn ?_
  conv => whnf
  refine ⟨fun _ => ?_, noF (rfl)⟩
  refine g 24 25 [] ?_
  conv => whnf
  refine ⟨⟨I, I⟩, ?_⟩
  refine W.ret ?_
  refine EndsW.rt ?_
  conv => whnf
  refine ⟨⟨I, I, I⟩, ?_⟩
  rotate_left 1
  refine g 15 24 [.b (false), .b (false), .b (false), .b (false), .b (false), .b (false), .b (false)] ?_
  conv => whnf
  refine ⟨⟨I, I, I, ⟨dF (by omega), I⟩, ⟨dF (by omega), I⟩, ⟨dF (by omega), I⟩, ⟨dF (by omega), I⟩, ⟨dF (by omega), I⟩, ⟨dF (by omega), I⟩, dF (by omega), I⟩, ?_⟩
  refine W.cn ?_
  conv => whnf
  refine ⟨noT (dF (by omega)), fun _ => ?_⟩
  refine W.skip ?_
  refine g 24 30 [.i (pos + (1 : Int) - (1 : Int))] ?_
  conv => whnf
  refine ⟨⟨I, I, I, I, w64 (by omega) (by omega), I, I⟩, ?_⟩
  refine W.sq ?_
  refine g 30 36 [] ?_
  conv => whnf
  refine ⟨⟨I, I, I, I, I, I, I, I⟩, ?_⟩
  refine W.cn ?_
  conv => whnf
  refine ⟨fun h3 => ?_, fun h3 => ?_⟩
  replace h3 := dt h3
  simp only [List.length_map] at h3
  obtain ⟨y1, hy1⟩ := some_at (xs := l) (n := Int.toNat (pos + (1 : Int) - (1 : Int))) (by omega)
  have hm1 := hl2 y1 (List.mem_of_getElem? hy1)
  refine g 36 47 [.x (b1T y1), .i (y1), .i (Int.tmod y1 n)] ?_
  conv => whnf
  refine ⟨⟨I, I, I, I, I, ⟨(by omega), ixl (by assumption)⟩, I, w64 (by omega) (by omega), I, ⟨(by omega), rfl⟩, I, I⟩, ?_⟩
  refine W.ret ?_
  refine EndsW.rt ?_
  conv => whnf
  refine ⟨⟨I, I, I⟩, ?_⟩
  rotate_left 1
  replace h3 := df h3
  simp only [List.length_map] at h3
  refine W.skip ?_
  obtain ⟨y1, hy1⟩ := some_at (xs := l) (n := Int.toNat (Int.tmod (pos + (1 : Int) - (1 : Int)) (↑(List.length (List.map b1T l)) : Int))) (by simp only [List.length_map] at *; omega)
  have hm1 := hl2 y1 (List.mem_of_getElem? hy1)
  obtain ⟨y2, hy2⟩ := some_at (xs := l) (n := Int.toNat (Int.tmod ((pos + (1 : Int) - (1 : Int)) * (7 : Int) + (3 : Int)) (↑(List.length (List.map b1T l)) : Int))) (by simp only [List.length_map] at *; omega)
  have hm2 := hl2 y2 (List.mem_of_getElem? hy2)
  refine gd 36 92 [[], [], [], [], [], [], [], [], [], [], [.i (Int.tmod (pos + (1 : Int) - (1 : Int)) (↑(List.length (List.map b1T l)) : Int))], [.x (b1T y1)], [], [.i (y1)], [.i (y1 * (131 : Int))], [], [], [], [], [], [.i ((pos + (1 : Int) - (1 : Int)) * (7 : Int))], [.i ((pos + (1 : Int) - (1 : Int)) * (7 : Int) + (3 : Int))], [], [], [], [], [], [.i (Int.tmod ((pos + (1 : Int) - (1 : Int)) * (7 : Int) + (3 : Int)) (↑(List.length (List.map b1T l)) : Int))], [.x (b1T y2)], [], [.i (y2)], [.i (y2 * (1117 : Int))], [.i (y1 * (131 : Int) + y2 * (1117 : Int))], [], [.i ((pos + (1 : Int) - (1 : Int)) * (29 : Int))], [.i (y1 * (131 : Int) + y2 * (1117 : Int) + (pos + (1 : Int) - (1 : Int)) * (29 : Int))], [], [], [], [], [], [], [.i (Int.tdiv (pos + (1 : Int) - (1 : Int)) (↑(List.length (List.map b1T l)) : Int))], [.i (Int.tdiv (pos + (1 : Int) - (1 : Int)) (↑(List.length (List.map b1T l)) : Int) * (53 : Int))], [.i (y1 * (131 : Int) + y2 * (1117 : Int) + (pos + (1 : Int) - (1 : Int)) * (29 : Int) + Int.tdiv (pos + (1 : Int) - (1 : Int)) (↑(List.length (List.map b1T l)) : Int) * (53 : Int))], []] ?_
  conv => whnf
  refine ⟨⟨I, I, I, I, I, I, I, I, I, I, ⟨(by omega), rfl⟩, ⟨(by simp only [lens]; omega), ixl (by assumption)⟩, I, w64 (by omega) (by omega), w64 (by omega) (by omega), I, I, I, I, I, w64 (by omega) (by omega), w64 (by omega) (by omega), I, I, I, I, I, ⟨(by omega), rfl⟩, ⟨(by simp only [lens]; omega), ixl (by assumption)⟩, I, w64 (by omega) (by omega), w64 (by omega) (by omega), w64 (by omega) (by omega), I, w64 (by omega) (by omega), w64 (by omega) (by omega), I, I, I, I, I, I, ⟨(by omega), w64 (by simp only [lens]; omega) (by simp only [lens]; omega)⟩, w64 (by simp only [lens]; omega) (by simp only [lens]; omega), w64 (by simp only [lens]; omega) (by simp only [lens]; omega), I, I⟩, by kernel_rfl, ?_⟩
  refine g 92 96 [.i (IntKind.wrap IntKind.i64 (Int.tdiv (y1 * (131 : Int) + y2 * (1117 : Int) + (pos + (1 : Int) - (1 : Int)) * (29 : Int) + Int.tdiv (pos + (1 : Int) - (1 : Int)) (↑(List.length (List.map b1T l)) : Int) * (53 : Int)) (64 : Int))), .i (IntKind.wrap IntKind.i64 (↑(BitVec.toNat (BitVec.ofInt (IntKind.bits IntKind.i64) (y1 * (131 : Int) + y2 * (1117 : Int) + (pos + (1 : Int) - (1 : Int)) * (29 : Int) + Int.tdiv (pos + (1 : Int) - (1 : Int)) (↑(List.length (List.map b1T l)) : Int) * (53 : Int)) ^^^ BitVec.ofInt (IntKind.bits IntKind.i64) (IntKind.wrap IntKind.i64 (Int.tdiv (y1 * (131 : Int) + y2 * (1117 : Int) + (pos + (1 : Int) - (1 : Int)) * (29 : Int) + Int.tdiv (pos + (1 : Int) - (1 : Int)) (↑(List.length (List.map b1T l)) : Int) * (53 : Int)) (64 : Int))))) : Int))] ?_
  conv => whnf
  refine ⟨⟨I, I, ⟨(by omega), rfl⟩, rfl, I, I⟩, ?_⟩
  refine g 5 99 [.i (Int.tmod (IntKind.wrap IntKind.i64 (↑(BitVec.toNat (BitVec.ofInt (IntKind.bits IntKind.i64) (y1 * (131 : Int) + y2 * (1117 : Int) + (pos + (1 : Int) - (1 : Int)) * (29 : Int) + Int.tdiv (pos + (1 : Int) - (1 : Int)) (↑(List.length (List.map b1T l)) : Int) * (53 : Int)) ^^^ BitVec.ofInt (IntKind.bits IntKind.i64) (IntKind.wrap IntKind.i64 (Int.tdiv (y1 * (131 : Int) + y2 * (1117 : Int) + (pos + (1 : Int) - (1 : Int)) * (29 : Int) + Int.tdiv (pos + (1 : Int) - (1 : Int)) (↑(List.length (List.map b1T l)) : Int) * (53 : Int)) (64 : Int))))) : Int)) n)] ?_
  conv => whnf
  refine ⟨⟨I, I, ⟨(by omega), rfl⟩, I, I⟩, ?_⟩
  refine W.ret ?_
  refine EndsW.rt ?_
  conv => whnf
  refine ⟨⟨I, I, I⟩, ?_⟩
  rotate_left 1
  ·exact ⟨0, rfl, rfl, by omega, .inr rfl⟩
  ·obtain ⟨k1, k2⟩ := tmod_rng (x := y1) (n := n) (by omega) (by omega)
   exact ⟨_, rfl, rfl, k1, .inl k2⟩
  ·obtain ⟨q5, q6⟩ := tdiv_rng (x := pos + 1 - 1) (by omega) hp
   have hX : 0 ≤ y1 * 131 + y2 * 1117 + (pos + 1 - 1) * 29 + (pos + 1 - 1).tdiv ↑(l.map b1T).length * 53 ∧ y1 * 131 + y2 * 1117 + (pos + 1 - 1) * 29 + (pos + 1 - 1).tdiv ↑(l.map b1T).length * 53 < 1099511627776 := by omega
   obtain ⟨q7, q8⟩ := tdiv_rng (n := 64) hX.1 (by omega)
   obtain ⟨k1, k2⟩ := tmod_rng (n := n) (xor_rng hX.1 hX.2 (y := IntKind.i64.wrap ((y1 * 131 + y2 * 1117 + (pos + 1 - 1) * 29 + (pos + 1 - 1).tdiv ↑(l.map b1T).length * 53).tdiv 64)) (by rw [w64 (by omega) (by omega)]; omega) (by rw [w64 (by omega) (by omega)]; omega)) (by omega)
   exact ⟨_, rfl, rfl, k1, .inl k2⟩
theorem ex_pick' (l : List Int) (pos n : Int) (h : u8ok l ∧ 0 ≤ pos ∧ pos ≤ 1048576 ∧ n ≤ 1048576) : ∃ v, F n_spec_l1Rd_pick [.ptr (rdC l pos), .val (.i n)] (.i v) [rdC l (pos + 1), []] ∧ 0 ≤ v ∧ (v < n ∨ v = 0) := by
 obtain ⟨res, outs, ⟨v, rfl, rfl, h0⟩, hF⟩ := ex_pick l pos n h.1 h.2.1 h.2.2.1 h.2.2.2
 exact ⟨v, hF, h0⟩
open Classical in
/-- What the reader picks. -/
noncomputable def pickV (l : List Int) (pos n : Int) : Int := if h : u8ok l ∧ 0 ≤ pos ∧ pos ≤ 1048576 ∧ n ≤ 1048576 then (ex_pick' l pos n h).choose else 0
end Go.K
end
section
set_option linter.unusedVariables false
set_option linter.unusedSimpArgs false
set_option maxHeartbeats 8000000
set_option maxRecDepth 20000
open Go Go.Tm Go.Proofs
namespace Go.K
def newWk (i : Nat) : Worker := ⟨(i : Int) + 1, 1, true, 0, 0, 0, 0, 0, [], emp, 3⟩
def crew (n : Nat) : List Worker := (List.range n).map newWk
structure NewOk (p : Plan) (key : ByteArray) (w : Int) : Prop where
 plan : checkPlan p.tasks = 0
 w : 1 ≤ w ∧ w ≤ 8
 key : key.size ≤ 30
noncomputable instance (p : Plan) (key : ByteArray) (w : Int) : Decidable (NewOk p key w) := Classical.propDecidable _
end Go.K
end
section
set_option linter.unusedVariables false
set_option linter.unusedSimpArgs false
set_option maxHeartbeats 8000000
set_option maxRecDepth 20000
open Go Go.Tm Go.Proofs
namespace Go.K
structure WorkOk (i : Nat) (x : Worker) : Prop where
 ok : workerOk x
 num : x.number = (i : Int) + 1
def crewOk (ws : List Worker) (n : Nat) : Prop := ∀ (m : Nat) (x : Worker), m < n → ws[m]? = some x → WorkOk m x
theorem crewOk_zero (ws : List Worker) : crewOk ws 0 := fun m x hm => by omega
theorem crewOk_step {ws : List Worker} {n : Nat} {x : Worker} (h : crewOk ws n) (hx : ws[n]? = some x) (hw : WorkOk n x) : crewOk ws (n + 1) := fun m y hm hy => by
 by_cases e : m = n
 ·subst e; rw [hx] at hy; cases hy; exact hw
 ·exact h m y (by omega) hy
structure ParOk (x : Parcel) : Prop where
 to : 0 ≤ x.kind ∧ x.kind ≤ 8
 sent : x.frm.size ≤ 500
 bytes : x.text.size ≤ 500
structure WorldOk (w : World) : Prop where
 plan : checkPlan w.plan.tasks = 0
 key : w.key.size ≤ 30
 wl : 1 ≤ w.workers.length ∧ w.workers.length ≤ 8
 fl : w.flight.length ≤ 2000
 crew : crewOk w.workers w.workers.length
 par : ∀ x ∈ w.flight, ParOk x
 boss : BossOk w.boss w.plan
 same : w.boss.workers = w.workers.length
noncomputable instance (w : World) : Decidable (WorldOk w) := Classical.propDecidable _
structure WorldLim (w : World) : Prop where
 plan : planWf w.plan
 boss : BossLim w.boss
 key : w.key.size ≤ 9223372036854775807
 wl : w.workers.length ≤ 1048576
 wi : ∀ x ∈ w.workers, x.inputs.length ≤ 1048576
 fl : w.flight.length ≤ 1048576
 fs : ∀ x ∈ w.flight, x.frm.size ≤ 9223372036854775807 ∧ x.text.size ≤ 9223372036854775807
theorem c_impl_ValidWorld (w : World) (h : WorldLim w) : F n_impl_ValidWorld [.val (worldR w)] (.b (decide (WorldOk w))) [[]] := by
 obtain ⟨l1, l2, l3, l4, l5, l6, l7⟩ := h
 have cp := c_impl_CheckPlan w.plan l1
 have cb := ci_valid w.boss w.plan l1 l2
 refine i_impl_ValidWorld ?_
 conv => whnf
 refine g 0 1 [] ?_
 conv => whnf
 refine ⟨⟨⟨I, I, I, I, I, I, I, I, I, I, I, I, I, I, I, I, I, I⟩, I, I⟩, ?_⟩
 refine W.sq ?_
 by_cases h1 : checkPlan (Plan.tasks (World.plan w)) = (0 : Int)
 by_cases h2 : (30 : Int) < (↑(ByteArray.size (World.key w)) : Int)
 refine g 11 29 [.call (V.i (checkPlan (Plan.tasks (World.plan w)))) ([[]]), .b (false), .b (false), .b (false), .b (false), .b (false), .b (true), .b (true), .b (true), .b (true), .b (true), .b (true), .b (true), .b (true), .b (true), .b (true), .b (true)] ?_
 conv => whnf
 refine ⟨⟨I, I, ⟨⟨I, I⟩, I, ⟨⟨I, I⟩, I⟩, ⟨I, I⟩, (by assumption)⟩, I, I, ⟨notF (by omega), I⟩, ⟨notF (by omega), I⟩, ⟨notF (by omega), I⟩, ⟨notF (by omega), I⟩, notF (by omega), I, dT (by omega), dT (by omega), dT (by omega), dT (by omega), dT (by omega), dT (by omega), I, rfl, rfl, rfl, rfl, rfl, I⟩, ?_⟩
 refine W.cn ?_
 conv => whnf
 refine ⟨fun _ => ?_, noF (rfl)⟩
 refine g 7 10 [] ?_
 conv => whnf
 refine ⟨⟨I, I⟩, ?_⟩
 refine W.ret ?_
 refine EndsW.rt ?_
 conv => whnf
 refine ⟨⟨I, I, I⟩, ?_, rfl⟩
 rotate_left 1
 by_cases h3 : (1 : Int) ≤ (↑(List.length (List.map workerT (World.workers w))) : Int) ∧ (↑(List.length (List.map workerT (World.workers w))) : Int) ≤ (8 : Int)
 simp only [List.length_map] at h3
 refine g 11 29 [.call (V.i (checkPlan (Plan.tasks (World.plan w)))) ([[]]), .b (false), .b (false), .b (false), .b (false), .b (false), .b (false), .b (false), .b (false), .b (false), .call (V.b (decide ((1 : Int) ≤ (↑(List.length (List.map workerT (World.workers w))) : Int) ∧ (↑(List.length (List.map workerT (World.workers w))) : Int) ≤ (8 : Int)))) ([[], [], []]), .b (false), .b (false), .b (false), .b (false), .b (false), .b (false), .b (false)] ?_
 conv => whnf
 refine ⟨⟨I, I, ⟨⟨I, I⟩, I, ⟨⟨I, I⟩, I⟩, ⟨I, I⟩, (by assumption)⟩, I, I, ⟨notF (by omega), I⟩, ⟨notF (by omega), I⟩, ⟨notF (by omega), I⟩, ⟨notF (by omega), I⟩, notF (by omega), I, ⟨dF (by omega), I⟩, ⟨dF (by omega), I⟩, ⟨dF (by omega), I⟩, ⟨dF (by omega), ⟨I, I, I, I⟩, I, ⟨⟨I, I⟩, ⟨I, I⟩, ⟨I, I⟩, I⟩, ⟨I, I⟩, Go.K.c_impl_within _ _ _⟩, ⟨dF (by omega), I⟩, dF (by omega), I, ⟨(by simp [*]), I⟩, ⟨(by simp [*]), I⟩, ⟨(by simp [*]), I⟩, ⟨(by simp [*]), I⟩, (by simp [*]), I⟩, ?_⟩
 refine W.cn ?_
 conv => whnf
 refine ⟨fun h4 => ?_, fun h4 => ?_⟩
 replace h4 := dt h4
 simp only [List.length_map] at h4
 refine g 7 10 [] ?_
 conv => whnf
 refine ⟨⟨I, I⟩, ?_⟩
 refine W.ret ?_
 refine EndsW.rt ?_
 conv => whnf
 refine ⟨⟨I, I, I⟩, ?_, rfl⟩
 rotate_left 1
 replace h4 := df h4
 simp only [List.length_map] at h4
 refine W.skip ?_
 refine W.sq ?_
 refine g 7 10 [] ?_
 conv => whnf
 refine ⟨⟨I, I, I, I, I⟩, ?_⟩
 refine W.blk ?_
 rotate_left 1
 simp only [List.length_map] at h3
 refine g 11 29 [.call (V.i (checkPlan (Plan.tasks (World.plan w)))) ([[]]), .b (false), .b (false), .b (false), .b (false), .b (false), .b (false), .b (false), .b (false), .b (false), .call (V.b (decide ((1 : Int) ≤ (↑(List.length (List.map workerT (World.workers w))) : Int) ∧ (↑(List.length (List.map workerT (World.workers w))) : Int) ≤ (8 : Int)))) ([[], [], []]), .b (false), .b (false), .b (true), .b (true), .b (true), .b (true), .b (true)] ?_
 conv => whnf
 refine ⟨⟨I, I, ⟨⟨I, I⟩, I, ⟨⟨I, I⟩, I⟩, ⟨I, I⟩, (by assumption)⟩, I, I, ⟨notF (by omega), I⟩, ⟨notF (by omega), I⟩, ⟨notF (by omega), I⟩, ⟨notF (by omega), I⟩, notF (by omega), I, ⟨dF (by omega), I⟩, ⟨dF (by omega), I⟩, ⟨dF (by omega), I⟩, ⟨dF (by omega), ⟨I, I, I, I⟩, I, ⟨⟨I, I⟩, ⟨I, I⟩, ⟨I, I⟩, I⟩, ⟨I, I⟩, Go.K.c_impl_within _ _ _⟩, ⟨dF (by omega), I⟩, dF (by omega), I, (by simp [*]), (by simp [*]), (by simp [*]), (by simp [*]), (by simp [*]), I⟩, ?_⟩
 refine W.cn ?_
 conv => whnf
 refine ⟨fun _ => ?_, noF (rfl)⟩
 refine g 7 10 [] ?_
 conv => whnf
 refine ⟨⟨I, I⟩, ?_⟩
 refine W.ret ?_
 refine EndsW.rt ?_
 conv => whnf
 refine ⟨⟨I, I, I⟩, ?_, rfl⟩
 rotate_left 1
 refine g 11 29 [.call (V.i (checkPlan (Plan.tasks (World.plan w)))) ([[]]), .b (true), .b (true), .b (true), .b (true), .b (true), .b (true), .b (true), .b (true), .b (true), .b (true), .b (true), .b (true), .b (true), .b (true), .b (true), .b (true)] ?_
 conv => whnf
 refine ⟨⟨I, I, ⟨⟨I, I⟩, I, ⟨⟨I, I⟩, I⟩, ⟨I, I⟩, (by assumption)⟩, I, I, notT (by omega), notT (by omega), notT (by omega), notT (by omega), notT (by omega), I, rfl, rfl, rfl, rfl, rfl, rfl, I, rfl, rfl, rfl, rfl, rfl, I⟩, ?_⟩
 refine W.cn ?_
 conv => whnf
 refine ⟨fun _ => ?_, noF (rfl)⟩
 refine g 7 10 [] ?_
 conv => whnf
 refine ⟨⟨I, I⟩, ?_⟩
 refine W.ret ?_
 refine EndsW.rt ?_
 conv => whnf
 refine ⟨⟨I, I, I⟩, ?_, rfl⟩
 rotate_left 1
 all_goals try (exact vbf (fun q => by have e1 := q.plan; have e2 := q.key; have e3 := q.wl; have e4 := q.fl; omega))
 refine W.lp (fun s (n : Nat) => ⟨[(1, s.s 1), (10, s.s 10), (31, s.s 31), (32, s.s 32), (33, .i n)], [(1, [s.c 1 0, s.c 1 1, s.c 1 2, s.c 1 3, s.c 1 4, s.c 1 5, s.c 1 6, s.c 1 7, s.c 1 8, s.c 1 9, s.c 1 10, s.c 1 11, s.c 1 12, s.c 1 13, s.c 1 14, s.c 1 15, s.c 1 16])], []⟩) (fun (n : Nat) => n ≤ w.workers.length ∧ crewOk w.workers n) (fun (n : Nat) => w.workers.length - n) (0) [some 1] [] ⟨rfl, ⟨rfl, rfl, rfl, rfl, rfl, I⟩, ⟨⟨rfl, ⟨rfl, ⟨rfl, ⟨rfl, ⟨rfl, ⟨rfl, ⟨rfl, ⟨rfl, ⟨rfl, ⟨rfl, ⟨rfl, ⟨rfl, ⟨rfl, ⟨rfl, ⟨rfl, ⟨rfl, ⟨rfl, ⟨rfl, I⟩⟩⟩⟩⟩⟩⟩⟩⟩⟩⟩⟩⟩⟩⟩⟩⟩⟩, I⟩, I⟩ ?_ ?_
 ·exact ⟨Nat.zero_le _, crewOk_zero _⟩
 rintro n ⟨hn, hc⟩
 by_cases hn2 : n < w.workers.length
 ·obtain ⟨x, hx⟩ := some_at hn2
  have hxi := l5 x (List.mem_of_getElem? hx)
  have cw := c_impl_ValidWorker x (by omega)
  by_cases hk : workerOk x
  ·rw [decide_eq_true hk] at cw
   conv => whnf
   refine g 0 0 [] ?_
   conv => whnf
   refine ⟨⟨I, I⟩, ?_⟩
   refine W.sq ?_
   refine W.cn ?_
   conv => whnf
   refine ⟨fun _ => ?_, noF (by simp [*])⟩
   refine W.skip ?_
   refine W.sq ?_
   refine W.blk ?_
   refine g 34 38 [.x (workerT x)] ?_
   conv => whnf
   refine ⟨⟨I, ⟨(by omega), ixl (by assumption)⟩, I, I, I, ⟨I, I, I, I, I, I, I, I, I, I, I, I⟩, I⟩, ?_⟩
   refine g 38 47 [.call (V.b true) ([[]]), .b (false), .b (false), .b (false), .b (false), .i ((↑n : Int) + (1 : Int)), .b (false), .b (false)] ?_
   conv => whnf
   refine ⟨⟨I, ⟨⟨I, I⟩, I, ⟨⟨I, I, I, I, I, I, I, I, I, I, I, I⟩, I⟩, ⟨I, I⟩, (by assumption)⟩, I, I, ⟨rfl, I⟩, ⟨rfl, I⟩, ⟨rfl, I⟩, ⟨rfl, w64 (by omega) (by omega)⟩, ⟨rfl, I⟩, rfl, I⟩, ?_⟩
   refine W.cn ?_
   conv => whnf
   refine ⟨fun h5 => ?_, fun h5 => ?_⟩
   replace h5 := ndt h5
   refine g 3 4 [] ?_
   conv => whnf
   refine ⟨⟨I, I⟩, ?_⟩
   refine W.ret ?_
   refine EndsW.rt ?_
   conv => whnf
   refine ⟨⟨I, I, I⟩, ?_, rfl⟩
   rotate_left 1
   replace h5 := ndf h5
   refine W.skip ?_
   refine rg [.i ((↑n : Int) + (1 : Int))] ?_
   conv => whnf
   refine ⟨⟨w64 (by omega) (by omega), I, I⟩, ?_⟩
   rotate_left 1
   all_goals try (exact vbf (fun q => by have := (q.crew n x hn2 hx).num; omega))
   refine ⟨n + 1, [some 1], [], ⟨rfl, ⟨rfl, rfl, rfl, rfl, rfl, I⟩, ⟨⟨rfl, ⟨rfl, ⟨rfl, ⟨rfl, ⟨rfl, ⟨rfl, ⟨rfl, ⟨rfl, ⟨rfl, ⟨rfl, ⟨rfl, ⟨rfl, ⟨rfl, ⟨rfl, ⟨rfl, ⟨rfl, ⟨rfl, ⟨rfl, I⟩⟩⟩⟩⟩⟩⟩⟩⟩⟩⟩⟩⟩⟩⟩⟩⟩⟩, I⟩, I⟩, ?_, ?_⟩
   rotate_left 1
   (dsimp only; omega)
   dsimp only
   exact ⟨by omega, crewOk_step hc hx ⟨hk, by omega⟩⟩
  ·rw [decide_eq_false hk] at cw
   conv => whnf
   refine g 0 0 [] ?_
   conv => whnf
   refine ⟨⟨I, I⟩, ?_⟩
   refine W.sq ?_
   refine W.cn ?_
   conv => whnf
   refine ⟨fun _ => ?_, noF (by simp [*])⟩
   refine W.skip ?_
   refine W.sq ?_
   refine W.blk ?_
   refine g 34 38 [.x (workerT x)] ?_
   conv => whnf
   refine ⟨⟨I, ⟨(by omega), ixl (by assumption)⟩, I, I, I, ⟨I, I, I, I, I, I, I, I, I, I, I, I⟩, I⟩, ?_⟩
   refine g 38 47 [.call (V.b false) ([[]]), .b (true), .b (true), .b (true), .b (true), .b (true), .b (true)] ?_
   conv => whnf
   refine ⟨⟨I, ⟨⟨I, I⟩, I, ⟨⟨I, I, I, I, I, I, I, I, I, I, I, I⟩, I⟩, ⟨I, I⟩, (by assumption)⟩, I, I, rfl, rfl, rfl, rfl, rfl, rfl, I⟩, ?_⟩
   refine W.cn ?_
   conv => whnf
   refine ⟨fun _ => ?_, noF (rfl)⟩
   refine g 3 4 [] ?_
   conv => whnf
   refine ⟨⟨I, I⟩, ?_⟩
   refine W.ret ?_
   refine EndsW.rt ?_
   conv => whnf
   refine ⟨⟨I, I, I⟩, ?_, rfl⟩
   exact vbf (fun q => hk (q.crew n x hn2 hx).ok)
 obtain rfl : n = w.workers.length := by omega
 conv => whnf
 refine g 0 0 [] ?_
 conv => whnf
 refine ⟨⟨I, I⟩, ?_⟩
 refine W.sq ?_
 refine W.cn ?_
 conv => whnf
 refine ⟨noT (by simp [*]), fun _ => ?_⟩
 refine W.exit ?_
 refine W.sq ?_
 refine g 31 50 [] ?_
 conv => whnf
 refine ⟨⟨I, I, I, I, I⟩, ?_⟩
 refine W.blk ?_
 refine W.lp (fun s (n : Nat) => ⟨[(1, s.s 1), (10, s.s 10), (50, s.s 50), (51, s.s 51), (52, .i n)], [(1, [s.c 1 0, s.c 1 1, s.c 1 2, s.c 1 3, s.c 1 4, s.c 1 5, s.c 1 6, s.c 1 7, s.c 1 8, s.c 1 9, s.c 1 10, s.c 1 11, s.c 1 12, s.c 1 13, s.c 1 14, s.c 1 15, s.c 1 16])], []⟩) (fun (n : Nat) => n ≤ w.flight.length ∧ ∀ x ∈ w.flight.take n, ParOk x) (fun (n : Nat) => w.flight.length - n) (0) [some 1] [] ⟨rfl, ⟨rfl, rfl, rfl, rfl, rfl, I⟩, ⟨⟨rfl, ⟨rfl, ⟨rfl, ⟨rfl, ⟨rfl, ⟨rfl, ⟨rfl, ⟨rfl, ⟨rfl, ⟨rfl, ⟨rfl, ⟨rfl, ⟨rfl, ⟨rfl, ⟨rfl, ⟨rfl, ⟨rfl, ⟨rfl, I⟩⟩⟩⟩⟩⟩⟩⟩⟩⟩⟩⟩⟩⟩⟩⟩⟩⟩, I⟩, I⟩ (by simp) ?_
 rintro n ⟨hn3, hc3⟩
 by_cases hn4 : n < w.flight.length
 ·obtain ⟨x, hx⟩ := some_at hn4
  obtain ⟨hxs, hxb⟩ := l7 x (List.mem_of_getElem? hx)
  by_cases hA : 0 ≤ x.kind ∧ x.kind ≤ 8
  ·by_cases hB : x.frm.size ≤ 500
   ·by_cases hC : x.text.size ≤ 500
    ·conv => whnf
     refine g 0 0 [] ?_
     conv => whnf
     refine ⟨⟨I, I⟩, ?_⟩
     refine W.sq ?_
     refine W.cn ?_
     conv => whnf
     refine ⟨fun _ => ?_, noF (by simp [*])⟩
     refine W.skip ?_
     refine W.sq ?_
     refine W.blk ?_
     refine g 53 56 [.x (parcelT x)] ?_
     conv => whnf
     refine ⟨⟨⟨(by omega), ixl (by assumption)⟩, I, I, ⟨I, I, I, I⟩, I⟩, ?_⟩
     refine g 56 71 [.call (V.b (decide ((0 : Int) ≤ Parcel.kind x ∧ Parcel.kind x ≤ (8 : Int)))) ([[], [], []]), .b (false), .b (false), .b (false), .b (false), .b (false), .b (false), .b (false), .b (false), .b (false), .b (false)] ?_
     conv => whnf
     refine ⟨⟨I, I, ⟨⟨I, I, I, I⟩, I, ⟨⟨I, I⟩, ⟨I, I⟩, ⟨I, I⟩, I⟩, ⟨I, I⟩, Go.K.c_impl_within _ _ _⟩, I, I, ⟨notF (by omega), I⟩, ⟨notF (by omega), I⟩, ⟨notF (by omega), I⟩, ⟨notF (by omega), I⟩, notF (by omega), I, ⟨dF (by omega), I⟩, ⟨dF (by omega), I⟩, ⟨dF (by omega), I⟩, ⟨dF (by omega), I⟩, dF (by omega), I⟩, ?_⟩
     refine W.cn ?_
     conv => whnf
     refine ⟨noT (dF (by omega)), fun _ => ?_⟩
     refine W.skip ?_
     refine rg [.i ((↑n : Int) + (1 : Int))] ?_
     conv => whnf
     refine ⟨⟨w64 (by omega) (by omega), I, I⟩, ?_⟩
     refine ⟨n + 1, [some 1], [], ⟨rfl, ⟨rfl, rfl, rfl, rfl, rfl, I⟩, ⟨⟨rfl, ⟨rfl, ⟨rfl, ⟨rfl, ⟨rfl, ⟨rfl, ⟨rfl, ⟨rfl, ⟨rfl, ⟨rfl, ⟨rfl, ⟨rfl, ⟨rfl, ⟨rfl, ⟨rfl, ⟨rfl, ⟨rfl, ⟨rfl, I⟩⟩⟩⟩⟩⟩⟩⟩⟩⟩⟩⟩⟩⟩⟩⟩⟩⟩, I⟩, I⟩, ?_, ?_⟩
     rotate_left 1
     (dsimp only; omega)
     dsimp only
     exact ⟨by omega, mem_step hc3 hx ⟨hA, hB, hC⟩⟩
    ·conv => whnf
     refine g 0 0 [] ?_
     conv => whnf
     refine ⟨⟨I, I⟩, ?_⟩
     refine W.sq ?_
     refine W.cn ?_
     conv => whnf
     refine ⟨fun _ => ?_, noF (by simp [*])⟩
     refine W.skip ?_
     refine W.sq ?_
     refine W.blk ?_
     refine g 53 56 [.x (parcelT x)] ?_
     conv => whnf
     refine ⟨⟨⟨(by omega), ixl (by assumption)⟩, I, I, ⟨I, I, I, I⟩, I⟩, ?_⟩
     refine g 56 71 [.call (V.b (decide ((0 : Int) ≤ Parcel.kind x ∧ Parcel.kind x ≤ (8 : Int)))) ([[], [], []]), .b (false), .b (false), .b (false), .b (false), .b (false), .b (false), .b (false), .b (false), .b (false), .b (false)] ?_
     conv => whnf
     refine ⟨⟨I, I, ⟨⟨I, I, I, I⟩, I, ⟨⟨I, I⟩, ⟨I, I⟩, ⟨I, I⟩, I⟩, ⟨I, I⟩, Go.K.c_impl_within _ _ _⟩, I, I, ⟨notF (by omega), I⟩, ⟨notF (by omega), I⟩, ⟨notF (by omega), I⟩, ⟨notF (by omega), I⟩, notF (by omega), I, ⟨dF (by omega), I⟩, ⟨dF (by omega), I⟩, ⟨dF (by omega), I⟩, ⟨dF (by omega), I⟩, dF (by omega), I⟩, ?_⟩
     refine W.cn ?_
     conv => whnf
     refine ⟨fun _ => ?_, noF (dT (by omega))⟩
     refine g 6 7 [] ?_
     conv => whnf
     refine ⟨⟨I, I⟩, ?_⟩
     refine W.ret ?_
     refine EndsW.rt ?_
     conv => whnf
     refine ⟨⟨I, I, I⟩, ?_, rfl⟩
     exact vbf (fun q => hC (q.par x (List.mem_of_getElem? hx)).bytes)
   ·conv => whnf
    refine g 0 0 [] ?_
    conv => whnf
    refine ⟨⟨I, I⟩, ?_⟩
    refine W.sq ?_
    refine W.cn ?_
    conv => whnf
    refine ⟨fun _ => ?_, noF (by simp [*])⟩
    refine W.skip ?_
    refine W.sq ?_
    refine W.blk ?_
    refine g 53 56 [.x (parcelT x)] ?_
    conv => whnf
    refine ⟨⟨⟨(by omega), ixl (by assumption)⟩, I, I, ⟨I, I, I, I⟩, I⟩, ?_⟩
    refine g 56 71 [.call (V.b (decide ((0 : Int) ≤ Parcel.kind x ∧ Parcel.kind x ≤ (8 : Int)))) ([[], [], []]), .b (false), .b (false), .b (false), .b (false), .b (false), .b (true), .b (true), .b (true), .b (true), .b (true)] ?_
    conv => whnf
    refine ⟨⟨I, I, ⟨⟨I, I, I, I⟩, I, ⟨⟨I, I⟩, ⟨I, I⟩, ⟨I, I⟩, I⟩, ⟨I, I⟩, Go.K.c_impl_within _ _ _⟩, I, I, ⟨notF (by omega), I⟩, ⟨notF (by omega), I⟩, ⟨notF (by omega), I⟩, ⟨notF (by omega), I⟩, notF (by omega), I, dT (by omega), dT (by omega), dT (by omega), dT (by omega), dT (by omega), I⟩, ?_⟩
    refine W.cn ?_
    conv => whnf
    refine ⟨fun _ => ?_, noF (rfl)⟩
    refine g 6 7 [] ?_
    conv => whnf
    refine ⟨⟨I, I⟩, ?_⟩
    refine W.ret ?_
    refine EndsW.rt ?_
    conv => whnf
    refine ⟨⟨I, I, I⟩, ?_, rfl⟩
    exact vbf (fun q => hB (q.par x (List.mem_of_getElem? hx)).sent)
  ·conv => whnf
   refine g 0 0 [] ?_
   conv => whnf
   refine ⟨⟨I, I⟩, ?_⟩
   refine W.sq ?_
   refine W.cn ?_
   conv => whnf
   refine ⟨fun _ => ?_, noF (by simp [*])⟩
   refine W.skip ?_
   refine W.sq ?_
   refine W.blk ?_
   refine g 53 56 [.x (parcelT x)] ?_
   conv => whnf
   refine ⟨⟨⟨(by omega), ixl (by assumption)⟩, I, I, ⟨I, I, I, I⟩, I⟩, ?_⟩
   refine g 56 71 [.call (V.b (decide ((0 : Int) ≤ Parcel.kind x ∧ Parcel.kind x ≤ (8 : Int)))) ([[], [], []]), .b (true), .b (true), .b (true), .b (true), .b (true), .b (true), .b (true), .b (true), .b (true), .b (true)] ?_
   conv => whnf
   refine ⟨⟨I, I, ⟨⟨I, I, I, I⟩, I, ⟨⟨I, I⟩, ⟨I, I⟩, ⟨I, I⟩, I⟩, ⟨I, I⟩, Go.K.c_impl_within _ _ _⟩, I, I, notT (by omega), notT (by omega), notT (by omega), notT (by omega), notT (by omega), I, rfl, rfl, rfl, rfl, rfl, I⟩, ?_⟩
   refine W.cn ?_
   conv => whnf
   refine ⟨fun _ => ?_, noF (rfl)⟩
   refine g 6 7 [] ?_
   conv => whnf
   refine ⟨⟨I, I⟩, ?_⟩
   refine W.ret ?_
   refine EndsW.rt ?_
   conv => whnf
   refine ⟨⟨I, I, I⟩, ?_, rfl⟩
   exact vbf (fun q => hA (q.par x (List.mem_of_getElem? hx)).to)
 have hpar : ∀ x ∈ w.flight, ParOk x := by rw [take_all (by omega)] at hc3; exact hc3
 by_cases hb : BossOk w.boss w.plan
 ·rw [decide_eq_true hb] at cb
  conv => whnf
  refine g 0 0 [] ?_
  conv => whnf
  refine ⟨⟨I, I⟩, ?_⟩
  refine W.sq ?_
  refine W.cn ?_
  conv => whnf
  refine ⟨noT (by simp [*]), fun _ => ?_⟩
  refine W.exit ?_
  refine g 10 87 [.call (V.b true) ([[], []]), .b (true), .b (true), .b (true), .b (true), .b (true), .b (true), .b (true), .b (true)] ?_
  conv => whnf
  refine ⟨⟨I, I, I, I, ⟨⟨I, I, I⟩, I, ⟨⟨I, I, I, I, I, I, I, I, I, I, I, I, I⟩, ⟨I, I⟩, I⟩, ⟨I, I⟩, (by assumption)⟩, I, ⟨rfl, I⟩, ⟨rfl, I⟩, ⟨rfl, I⟩, ⟨rfl, I⟩, ⟨rfl, I⟩, ⟨rfl, I⟩, ⟨rfl, I⟩, rfl, I, I⟩, ?_⟩
  refine W.ret ?_
  refine EndsW.rt ?_
  conv => whnf
  refine ⟨⟨I, I, I⟩, ?_, rfl⟩
  by_cases hs : w.boss.workers = w.workers.length
  ·simp only [List.length_map]
   rw [decide_eq_true hs]
   exact vbt ⟨by omega, by omega, by omega, by omega, hc, hpar, hb, hs⟩
  ·simp only [List.length_map]
   rw [decide_eq_false hs]
   exact vbf (fun q => hs q.same)
 ·rw [decide_eq_false hb] at cb
  conv => whnf
  refine g 0 0 [] ?_
  conv => whnf
  refine ⟨⟨I, I⟩, ?_⟩
  refine W.sq ?_
  refine W.cn ?_
  conv => whnf
  refine ⟨noT (by simp [*]), fun _ => ?_⟩
  refine W.exit ?_
  refine g 10 87 [.call (V.b false) ([[], []]), .b (false), .b (false), .b (false), .b (false), .b (false), .b (false), .b (false), .b (false)] ?_
  conv => whnf
  refine ⟨⟨I, I, I, I, ⟨⟨I, I, I⟩, I, ⟨⟨I, I, I, I, I, I, I, I, I, I, I, I, I⟩, ⟨I, I⟩, I⟩, ⟨I, I⟩, (by assumption)⟩, I, rfl, rfl, rfl, rfl, rfl, rfl, rfl, rfl, I, I⟩, ?_⟩
  refine W.ret ?_
  refine EndsW.rt ?_
  conv => whnf
  refine ⟨⟨I, I, I⟩, ?_, rfl⟩
  exact vbf (fun q => hb q.boss)
theorem c_spec_ValidWorld (w : World) (h : WorldLim w) : F n_spec_ValidWorld [.val (worldR w)] (.b (decide (WorldOk w))) [[]] := by
 obtain ⟨l1, l2, l3, l4, l5, l6, l7⟩ := h
 have cp := c_spec_CheckPlan w.plan l1
 have cb := cs_valid w.boss w.plan l1 l2
 refine i_spec_ValidWorld ?_
 conv => whnf
 refine g 0 1 [] ?_
 conv => whnf
 refine ⟨⟨⟨I, I, I, I, I, I, I, I, I, I, I, I, I, I, I, I, I, I⟩, I, I⟩, ?_⟩
 refine W.sq ?_
 by_cases h1 : checkPlan (Plan.tasks (World.plan w)) = (0 : Int)
 by_cases h2 : (30 : Int) < (↑(ByteArray.size (World.key w)) : Int)
 refine g 11 28 [.call (V.i (checkPlan (Plan.tasks (World.plan w)))) ([[]]), .b (false), .b (false), .b (false), .b (false), .b (false), .b (true), .b (true), .b (true), .b (true), .b (true), .b (true), .b (true), .b (true), .b (true), .b (true), .b (true)] ?_
 conv => whnf
 refine ⟨⟨I, I, ⟨⟨I, I⟩, I, ⟨⟨I, I⟩, I⟩, ⟨I, I⟩, (by assumption)⟩, I, I, ⟨notF (by omega), I⟩, ⟨notF (by omega), I⟩, ⟨notF (by omega), I⟩, ⟨notF (by omega), I⟩, notF (by omega), I, dT (by omega), dT (by omega), dT (by omega), dT (by omega), dT (by omega), dT (by omega), I, rfl, rfl, rfl, rfl, rfl, I⟩, ?_⟩
 refine W.cn ?_
 conv => whnf
 refine ⟨fun _ => ?_, noF (rfl)⟩
 refine g 8 10 [] ?_
 conv => whnf
 refine ⟨⟨I, I⟩, ?_⟩
 refine W.ret ?_
 refine EndsW.rt ?_
 conv => whnf
 refine ⟨⟨I, I, I⟩, ?_, rfl⟩
 rotate_left 1
 by_cases h3 : (1 : Int) ≤ (↑(List.length (List.map workerT (World.workers w))) : Int) ∧ (↑(List.length (List.map workerT (World.workers w))) : Int) ≤ (8 : Int)
 simp only [List.length_map] at h3
 refine g 11 28 [.call (V.i (checkPlan (Plan.tasks (World.plan w)))) ([[]]), .b (false), .b (false), .b (false), .b (false), .b (false), .b (false), .b (false), .b (false), .b (false), .call (V.b (decide ((1 : Int) ≤ (↑(List.length (List.map workerT (World.workers w))) : Int) ∧ (↑(List.length (List.map workerT (World.workers w))) : Int) ≤ (8 : Int)))) ([[], [], []]), .b (false), .b (false), .b (false), .b (false), .b (false), .b (false), .b (false)] ?_
 conv => whnf
 refine ⟨⟨I, I, ⟨⟨I, I⟩, I, ⟨⟨I, I⟩, I⟩, ⟨I, I⟩, (by assumption)⟩, I, I, ⟨notF (by omega), I⟩, ⟨notF (by omega), I⟩, ⟨notF (by omega), I⟩, ⟨notF (by omega), I⟩, notF (by omega), I, ⟨dF (by omega), I⟩, ⟨dF (by omega), I⟩, ⟨dF (by omega), I⟩, ⟨dF (by omega), ⟨I, I, I, I⟩, I, ⟨⟨I, I⟩, ⟨I, I⟩, ⟨I, I⟩, I⟩, ⟨I, I⟩, Go.K.c_spec_l2In _ _ _⟩, ⟨dF (by omega), I⟩, dF (by omega), I, ⟨(by simp [*]), I⟩, ⟨(by simp [*]), I⟩, ⟨(by simp [*]), I⟩, ⟨(by simp [*]), I⟩, (by simp [*]), I⟩, ?_⟩
 refine W.cn ?_
 conv => whnf
 refine ⟨fun h4 => ?_, fun h4 => ?_⟩
 replace h4 := dt h4
 simp only [List.length_map] at h4
 refine g 8 10 [] ?_
 conv => whnf
 refine ⟨⟨I, I⟩, ?_⟩
 refine W.ret ?_
 refine EndsW.rt ?_
 conv => whnf
 refine ⟨⟨I, I, I⟩, ?_, rfl⟩
 rotate_left 1
 replace h4 := df h4
 simp only [List.length_map] at h4
 refine W.skip ?_
 refine W.sq ?_
 refine g 8 10 [] ?_
 conv => whnf
 refine ⟨⟨I, I⟩, ?_⟩
 refine W.blk ?_
 rotate_left 1
 simp only [List.length_map] at h3
 refine g 11 28 [.call (V.i (checkPlan (Plan.tasks (World.plan w)))) ([[]]), .b (false), .b (false), .b (false), .b (false), .b (false), .b (false), .b (false), .b (false), .b (false), .call (V.b (decide ((1 : Int) ≤ (↑(List.length (List.map workerT (World.workers w))) : Int) ∧ (↑(List.length (List.map workerT (World.workers w))) : Int) ≤ (8 : Int)))) ([[], [], []]), .b (false), .b (false), .b (true), .b (true), .b (true), .b (true), .b (true)] ?_
 conv => whnf
 refine ⟨⟨I, I, ⟨⟨I, I⟩, I, ⟨⟨I, I⟩, I⟩, ⟨I, I⟩, (by assumption)⟩, I, I, ⟨notF (by omega), I⟩, ⟨notF (by omega), I⟩, ⟨notF (by omega), I⟩, ⟨notF (by omega), I⟩, notF (by omega), I, ⟨dF (by omega), I⟩, ⟨dF (by omega), I⟩, ⟨dF (by omega), I⟩, ⟨dF (by omega), ⟨I, I, I, I⟩, I, ⟨⟨I, I⟩, ⟨I, I⟩, ⟨I, I⟩, I⟩, ⟨I, I⟩, Go.K.c_spec_l2In _ _ _⟩, ⟨dF (by omega), I⟩, dF (by omega), I, (by simp [*]), (by simp [*]), (by simp [*]), (by simp [*]), (by simp [*]), I⟩, ?_⟩
 refine W.cn ?_
 conv => whnf
 refine ⟨fun _ => ?_, noF (rfl)⟩
 refine g 8 10 [] ?_
 conv => whnf
 refine ⟨⟨I, I⟩, ?_⟩
 refine W.ret ?_
 refine EndsW.rt ?_
 conv => whnf
 refine ⟨⟨I, I, I⟩, ?_, rfl⟩
 rotate_left 1
 refine g 11 28 [.call (V.i (checkPlan (Plan.tasks (World.plan w)))) ([[]]), .b (true), .b (true), .b (true), .b (true), .b (true), .b (true), .b (true), .b (true), .b (true), .b (true), .b (true), .b (true), .b (true), .b (true), .b (true), .b (true)] ?_
 conv => whnf
 refine ⟨⟨I, I, ⟨⟨I, I⟩, I, ⟨⟨I, I⟩, I⟩, ⟨I, I⟩, (by assumption)⟩, I, I, notT (by omega), notT (by omega), notT (by omega), notT (by omega), notT (by omega), I, rfl, rfl, rfl, rfl, rfl, rfl, I, rfl, rfl, rfl, rfl, rfl, I⟩, ?_⟩
 refine W.cn ?_
 conv => whnf
 refine ⟨fun _ => ?_, noF (rfl)⟩
 refine g 8 10 [] ?_
 conv => whnf
 refine ⟨⟨I, I⟩, ?_⟩
 refine W.ret ?_
 refine EndsW.rt ?_
 conv => whnf
 refine ⟨⟨I, I, I⟩, ?_, rfl⟩
 rotate_left 1
 all_goals try (exact vbf (fun q => by have e1 := q.plan; have e2 := q.key; have e3 := q.wl; have e4 := q.fl; omega))
 refine W.lp (fun s (n : Nat) => ⟨[(1, s.s 1), (3, .i n), (7, s.s 7), (10, s.s 10)], [(1, [s.c 1 0, s.c 1 1, s.c 1 2, s.c 1 3, s.c 1 4, s.c 1 5, s.c 1 6, s.c 1 7, s.c 1 8, s.c 1 9, s.c 1 10, s.c 1 11, s.c 1 12, s.c 1 13, s.c 1 14, s.c 1 15, s.c 1 16])], []⟩) (fun (n : Nat) => n ≤ w.workers.length ∧ crewOk w.workers n) (fun (n : Nat) => w.workers.length - n) (0) [some 1] [] ⟨rfl, ⟨rfl, rfl, ⟨_, rfl, _, _, rfl, rfl, rfl⟩, rfl, I⟩, ⟨⟨rfl, ⟨rfl, ⟨rfl, ⟨rfl, ⟨rfl, ⟨rfl, ⟨rfl, ⟨rfl, ⟨rfl, ⟨rfl, ⟨rfl, ⟨rfl, ⟨rfl, ⟨rfl, ⟨rfl, ⟨rfl, ⟨rfl, ⟨rfl, I⟩⟩⟩⟩⟩⟩⟩⟩⟩⟩⟩⟩⟩⟩⟩⟩⟩⟩, I⟩, I⟩ ?_ ?_
 ·exact ⟨Nat.zero_le _, crewOk_zero _⟩
 rintro n ⟨hn, hc⟩
 by_cases hn2 : n < w.workers.length
 ·obtain ⟨x, hx⟩ := some_at hn2
  have hxi := l5 x (List.mem_of_getElem? hx)
  have cw := c_spec_ValidWorker x (by omega)
  by_cases hk : workerOk x
  ·rw [decide_eq_true hk] at cw
   conv => whnf
   refine W.sq ?_
   refine g 29 33 [] ?_
   conv => whnf
   refine ⟨⟨I, I, I, I, I, I⟩, ?_⟩
   refine W.cn ?_
   conv => whnf
   refine ⟨fun _ => ?_, noF (by simp [*])⟩
   refine W.skip ?_
   refine W.sq ?_
   refine W.blk ?_
   refine g 33 53 [.x (workerT x), .call (V.b true) ([[]]), .b (false), .b (false), .b (false), .b (false), .x (workerT x), .b (false), .b (false), .b (false), .b (false), .i ((↑n : Int) + (1 : Int)), .b (false), .b (false)] ?_
   conv => whnf
   refine ⟨⟨I, I, I, ⟨(by omega), ixl (by assumption)⟩, I, ⟨⟨I, I⟩, I, ⟨⟨I, I, I, I, I, I, I, I, I, I, I, I⟩, I⟩, ⟨I, I⟩, (by assumption)⟩, I, I, ⟨rfl, I⟩, ⟨rfl, I⟩, ⟨rfl, I⟩, ⟨rfl, (by omega), ixl (by assumption)⟩, ⟨rfl, I⟩, ⟨rfl, I⟩, ⟨rfl, I⟩, ⟨rfl, w64 (by omega) (by omega)⟩, ⟨rfl, I⟩, rfl, I⟩, ?_⟩
   refine W.cn ?_
   conv => whnf
   refine ⟨fun h5 => ?_, fun h5 => ?_⟩
   replace h5 := ndt h5
   refine g 53 54 [] ?_
   conv => whnf
   refine ⟨⟨I, I⟩, ?_⟩
   refine W.ret ?_
   refine EndsW.rt ?_
   conv => whnf
   refine ⟨⟨I, I, I⟩, ?_, rfl⟩
   rotate_left 1
   replace h5 := ndf h5
   refine W.skip ?_
   refine rg [.i ((↑n : Int) + (1 : Int))] ?_
   conv => whnf
   refine ⟨⟨I, w64 (by omega) (by omega), I, I⟩, ?_⟩
   rotate_left 1
   all_goals try (exact vbf (fun q => by have := (q.crew n x hn2 hx).num; omega))
   refine ⟨n + 1, [some 1], [], ⟨rfl, ⟨rfl, rfl, ⟨_, rfl, _, _, rfl, rfl, rfl⟩, rfl, I⟩, ⟨⟨rfl, ⟨rfl, ⟨rfl, ⟨rfl, ⟨rfl, ⟨rfl, ⟨rfl, ⟨rfl, ⟨rfl, ⟨rfl, ⟨rfl, ⟨rfl, ⟨rfl, ⟨rfl, ⟨rfl, ⟨rfl, ⟨rfl, ⟨rfl, I⟩⟩⟩⟩⟩⟩⟩⟩⟩⟩⟩⟩⟩⟩⟩⟩⟩⟩, I⟩, I⟩, ?_, ?_⟩
   rotate_left 1
   (dsimp only; omega)
   dsimp only
   exact ⟨by omega, crewOk_step hc hx ⟨hk, by omega⟩⟩
  ·rw [decide_eq_false hk] at cw
   conv => whnf
   refine W.sq ?_
   refine g 29 33 [] ?_
   conv => whnf
   refine ⟨⟨I, I, I, I, I, I⟩, ?_⟩
   refine W.cn ?_
   conv => whnf
   refine ⟨fun _ => ?_, noF (by simp [*])⟩
   refine W.skip ?_
   refine W.sq ?_
   refine W.blk ?_
   refine g 33 53 [.x (workerT x), .call (V.b false) ([[]]), .b (true), .b (true), .b (true), .b (true), .b (true), .b (true), .b (true), .b (true), .b (true), .b (true)] ?_
   conv => whnf
   refine ⟨⟨I, I, I, ⟨(by omega), ixl (by assumption)⟩, I, ⟨⟨I, I⟩, I, ⟨⟨I, I, I, I, I, I, I, I, I, I, I, I⟩, I⟩, ⟨I, I⟩, (by assumption)⟩, I, I, rfl, rfl, rfl, rfl, rfl, rfl, rfl, rfl, rfl, rfl, I⟩, ?_⟩
   refine W.cn ?_
   conv => whnf
   refine ⟨fun _ => ?_, noF (rfl)⟩
   refine g 53 54 [] ?_
   conv => whnf
   refine ⟨⟨I, I⟩, ?_⟩
   refine W.ret ?_
   refine EndsW.rt ?_
   conv => whnf
   refine ⟨⟨I, I, I⟩, ?_, rfl⟩
   exact vbf (fun q => hk (q.crew n x hn2 hx).ok)
 obtain rfl : n = w.workers.length := by omega
 conv => whnf
 refine W.sq ?_
 refine g 29 33 [] ?_
 conv => whnf
 refine ⟨⟨I, I, I, I, I, I⟩, ?_⟩
 refine W.cn ?_
 conv => whnf
 refine ⟨noT (by simp [*]), fun _ => ?_⟩
 refine W.exit ?_
 refine W.sq ?_
 refine g 3 4 [] ?_
 conv => whnf
 refine ⟨⟨I, I⟩, ?_⟩
 refine W.blk ?_
 refine W.lp (fun s (n : Nat) => ⟨[(1, s.s 1), (4, .i n), (7, s.s 7), (10, s.s 10)], [(1, [s.c 1 0, s.c 1 1, s.c 1 2, s.c 1 3, s.c 1 4, s.c 1 5, s.c 1 6, s.c 1 7, s.c 1 8, s.c 1 9, s.c 1 10, s.c 1 11, s.c 1 12, s.c 1 13, s.c 1 14, s.c 1 15, s.c 1 16])], []⟩) (fun (n : Nat) => n ≤ w.flight.length ∧ ∀ x ∈ w.flight.take n, ParOk x) (fun (n : Nat) => w.flight.length - n) (0) [some 1] [] ⟨rfl, ⟨rfl, rfl, ⟨_, rfl, _, _, rfl, rfl, rfl⟩, rfl, I⟩, ⟨⟨rfl, ⟨rfl, ⟨rfl, ⟨rfl, ⟨rfl, ⟨rfl, ⟨rfl, ⟨rfl, ⟨rfl, ⟨rfl, ⟨rfl, ⟨rfl, ⟨rfl, ⟨rfl, ⟨rfl, ⟨rfl, ⟨rfl, ⟨rfl, I⟩⟩⟩⟩⟩⟩⟩⟩⟩⟩⟩⟩⟩⟩⟩⟩⟩⟩, I⟩, I⟩ (by simp) ?_
 rintro n ⟨hn3, hc3⟩
 by_cases hn4 : n < w.flight.length
 ·obtain ⟨x, hx⟩ := some_at hn4
  obtain ⟨hxs, hxb⟩ := l7 x (List.mem_of_getElem? hx)
  by_cases hA : 0 ≤ x.kind ∧ x.kind ≤ 8
  ·by_cases hB : x.frm.size ≤ 500
   ·by_cases hC : x.text.size ≤ 500
    ·conv => whnf
     refine W.sq ?_
     refine g 54 58 [] ?_
     conv => whnf
     refine ⟨⟨I, I, I, I, I, I⟩, ?_⟩
     refine W.cn ?_
     conv => whnf
     refine ⟨fun _ => ?_, noF (by simp [*])⟩
     refine W.skip ?_
     refine W.sq ?_
     refine W.blk ?_
     refine g 58 66 [.x (parcelT x)] ?_
     conv => whnf
     refine ⟨⟨I, I, I, ⟨(by omega), ixl (by assumption)⟩, I, I, ⟨I, I, I, I⟩, I⟩, ?_⟩
     refine g 66 81 [.call (V.b (decide ((0 : Int) ≤ Parcel.kind x ∧ Parcel.kind x ≤ (8 : Int)))) ([[], [], []]), .b (false), .b (false), .b (false), .b (false), .b (false), .b (false), .b (false), .b (false), .b (false), .b (false)] ?_
     conv => whnf
     refine ⟨⟨I, I, ⟨⟨I, I, I, I⟩, I, ⟨⟨I, I⟩, ⟨I, I⟩, ⟨I, I⟩, I⟩, ⟨I, I⟩, Go.K.c_spec_l2In _ _ _⟩, I, I, ⟨notF (by omega), I⟩, ⟨notF (by omega), I⟩, ⟨notF (by omega), I⟩, ⟨notF (by omega), I⟩, notF (by omega), I, ⟨dF (by omega), I⟩, ⟨dF (by omega), I⟩, ⟨dF (by omega), I⟩, ⟨dF (by omega), I⟩, dF (by omega), I⟩, ?_⟩
     refine W.cn ?_
     conv => whnf
     refine ⟨noT (dF (by omega)), fun _ => ?_⟩
     refine W.skip ?_
     refine rg [.i ((↑n : Int) + (1 : Int))] ?_
     conv => whnf
     refine ⟨⟨I, w64 (by omega) (by omega), I, I⟩, ?_⟩
     refine ⟨n + 1, [some 1], [], ⟨rfl, ⟨rfl, rfl, ⟨_, rfl, _, _, rfl, rfl, rfl⟩, rfl, I⟩, ⟨⟨rfl, ⟨rfl, ⟨rfl, ⟨rfl, ⟨rfl, ⟨rfl, ⟨rfl, ⟨rfl, ⟨rfl, ⟨rfl, ⟨rfl, ⟨rfl, ⟨rfl, ⟨rfl, ⟨rfl, ⟨rfl, ⟨rfl, ⟨rfl, I⟩⟩⟩⟩⟩⟩⟩⟩⟩⟩⟩⟩⟩⟩⟩⟩⟩⟩, I⟩, I⟩, ?_, ?_⟩
     rotate_left 1
     (dsimp only; omega)
     dsimp only
     exact ⟨by omega, mem_step hc3 hx ⟨hA, hB, hC⟩⟩
    ·conv => whnf
     refine W.sq ?_
     refine g 54 58 [] ?_
     conv => whnf
     refine ⟨⟨I, I, I, I, I, I⟩, ?_⟩
     refine W.cn ?_
     conv => whnf
     refine ⟨fun _ => ?_, noF (by simp [*])⟩
     refine W.skip ?_
     refine W.sq ?_
     refine W.blk ?_
     refine g 58 66 [.x (parcelT x)] ?_
     conv => whnf
     refine ⟨⟨I, I, I, ⟨(by omega), ixl (by assumption)⟩, I, I, ⟨I, I, I, I⟩, I⟩, ?_⟩
     refine g 66 81 [.call (V.b (decide ((0 : Int) ≤ Parcel.kind x ∧ Parcel.kind x ≤ (8 : Int)))) ([[], [], []]), .b (false), .b (false), .b (false), .b (false), .b (false), .b (false), .b (false), .b (false), .b (false), .b (false)] ?_
     conv => whnf
     refine ⟨⟨I, I, ⟨⟨I, I, I, I⟩, I, ⟨⟨I, I⟩, ⟨I, I⟩, ⟨I, I⟩, I⟩, ⟨I, I⟩, Go.K.c_spec_l2In _ _ _⟩, I, I, ⟨notF (by omega), I⟩, ⟨notF (by omega), I⟩, ⟨notF (by omega), I⟩, ⟨notF (by omega), I⟩, notF (by omega), I, ⟨dF (by omega), I⟩, ⟨dF (by omega), I⟩, ⟨dF (by omega), I⟩, ⟨dF (by omega), I⟩, dF (by omega), I⟩, ?_⟩
     refine W.cn ?_
     conv => whnf
     refine ⟨fun _ => ?_, noF (dT (by omega))⟩
     refine g 5 6 [] ?_
     conv => whnf
     refine ⟨⟨I, I⟩, ?_⟩
     refine W.ret ?_
     refine EndsW.rt ?_
     conv => whnf
     refine ⟨⟨I, I, I⟩, ?_, rfl⟩
     exact vbf (fun q => hC (q.par x (List.mem_of_getElem? hx)).bytes)
   ·conv => whnf
    refine W.sq ?_
    refine g 54 58 [] ?_
    conv => whnf
    refine ⟨⟨I, I, I, I, I, I⟩, ?_⟩
    refine W.cn ?_
    conv => whnf
    refine ⟨fun _ => ?_, noF (by simp [*])⟩
    refine W.skip ?_
    refine W.sq ?_
    refine W.blk ?_
    refine g 58 66 [.x (parcelT x)] ?_
    conv => whnf
    refine ⟨⟨I, I, I, ⟨(by omega), ixl (by assumption)⟩, I, I, ⟨I, I, I, I⟩, I⟩, ?_⟩
    refine g 66 81 [.call (V.b (decide ((0 : Int) ≤ Parcel.kind x ∧ Parcel.kind x ≤ (8 : Int)))) ([[], [], []]), .b (false), .b (false), .b (false), .b (false), .b (false), .b (true), .b (true), .b (true), .b (true), .b (true)] ?_
    conv => whnf
    refine ⟨⟨I, I, ⟨⟨I, I, I, I⟩, I, ⟨⟨I, I⟩, ⟨I, I⟩, ⟨I, I⟩, I⟩, ⟨I, I⟩, Go.K.c_spec_l2In _ _ _⟩, I, I, ⟨notF (by omega), I⟩, ⟨notF (by omega), I⟩, ⟨notF (by omega), I⟩, ⟨notF (by omega), I⟩, notF (by omega), I, dT (by omega), dT (by omega), dT (by omega), dT (by omega), dT (by omega), I⟩, ?_⟩
    refine W.cn ?_
    conv => whnf
    refine ⟨fun _ => ?_, noF (rfl)⟩
    refine g 5 6 [] ?_
    conv => whnf
    refine ⟨⟨I, I⟩, ?_⟩
    refine W.ret ?_
    refine EndsW.rt ?_
    conv => whnf
    refine ⟨⟨I, I, I⟩, ?_, rfl⟩
    exact vbf (fun q => hB (q.par x (List.mem_of_getElem? hx)).sent)
  ·conv => whnf
   refine W.sq ?_
   refine g 54 58 [] ?_
   conv => whnf
   refine ⟨⟨I, I, I, I, I, I⟩, ?_⟩
   refine W.cn ?_
   conv => whnf
   refine ⟨fun _ => ?_, noF (by simp [*])⟩
   refine W.skip ?_
   refine W.sq ?_
   refine W.blk ?_
   refine g 58 66 [.x (parcelT x)] ?_
   conv => whnf
   refine ⟨⟨I, I, I, ⟨(by omega), ixl (by assumption)⟩, I, I, ⟨I, I, I, I⟩, I⟩, ?_⟩
   refine g 66 81 [.call (V.b (decide ((0 : Int) ≤ Parcel.kind x ∧ Parcel.kind x ≤ (8 : Int)))) ([[], [], []]), .b (true), .b (true), .b (true), .b (true), .b (true), .b (true), .b (true), .b (true), .b (true), .b (true)] ?_
   conv => whnf
   refine ⟨⟨I, I, ⟨⟨I, I, I, I⟩, I, ⟨⟨I, I⟩, ⟨I, I⟩, ⟨I, I⟩, I⟩, ⟨I, I⟩, Go.K.c_spec_l2In _ _ _⟩, I, I, notT (by omega), notT (by omega), notT (by omega), notT (by omega), notT (by omega), I, rfl, rfl, rfl, rfl, rfl, I⟩, ?_⟩
   refine W.cn ?_
   conv => whnf
   refine ⟨fun _ => ?_, noF (rfl)⟩
   refine g 5 6 [] ?_
   conv => whnf
   refine ⟨⟨I, I⟩, ?_⟩
   refine W.ret ?_
   refine EndsW.rt ?_
   conv => whnf
   refine ⟨⟨I, I, I⟩, ?_, rfl⟩
   exact vbf (fun q => hA (q.par x (List.mem_of_getElem? hx)).to)
 have hpar : ∀ x ∈ w.flight, ParOk x := by rw [take_all (by omega)] at hc3; exact hc3
 by_cases hs : w.boss.workers = w.workers.length
 ·by_cases hb : BossOk w.boss w.plan
  ·rw [decide_eq_true hb] at cb
   conv => whnf
   refine W.sq ?_
   refine g 54 58 [] ?_
   conv => whnf
   refine ⟨⟨I, I, I, I, I, I⟩, ?_⟩
   refine W.cn ?_
   conv => whnf
   refine ⟨noT (by simp [*]), fun _ => ?_⟩
   refine W.exit ?_
   refine g 7 96 [.b (true), .b (true), .b (true), .b (true), .b (true), .call (V.b true) ([[], []]), .b (true)] ?_
   conv => whnf
   refine ⟨⟨I, I, I, I, I, I, I, I, ⟨(by simp [*]), I⟩, ⟨(by simp [*]), I⟩, ⟨(by simp [*]), I⟩, ⟨(by simp [*]), I⟩, ⟨(by simp [*]), ⟨I, I, I⟩, I, ⟨⟨I, I, I, I, I, I, I, I, I, I, I, I, I⟩, ⟨I, I⟩, I⟩, ⟨I, I⟩, (by assumption)⟩, (by simp [*]), I, I⟩, ?_⟩
   refine W.ret ?_
   refine EndsW.rt ?_
   conv => whnf
   refine ⟨⟨I, I, I⟩, ?_, rfl⟩
   exact vbt ⟨by omega, by omega, by omega, by omega, hc, hpar, hb, hs⟩
  ·rw [decide_eq_false hb] at cb
   conv => whnf
   refine W.sq ?_
   refine g 54 58 [] ?_
   conv => whnf
   refine ⟨⟨I, I, I, I, I, I⟩, ?_⟩
   refine W.cn ?_
   conv => whnf
   refine ⟨noT (by simp [*]), fun _ => ?_⟩
   refine W.exit ?_
   refine g 7 96 [.b (true), .b (true), .b (true), .b (true), .b (true), .call (V.b false) ([[], []]), .b (true)] ?_
   conv => whnf
   refine ⟨⟨I, I, I, I, I, I, I, I, ⟨(by simp [*]), I⟩, ⟨(by simp [*]), I⟩, ⟨(by simp [*]), I⟩, ⟨(by simp [*]), I⟩, ⟨(by simp [*]), ⟨I, I, I⟩, I, ⟨⟨I, I, I, I, I, I, I, I, I, I, I, I, I⟩, ⟨I, I⟩, I⟩, ⟨I, I⟩, (by assumption)⟩, (by simp [*]), I, I⟩, ?_⟩
   refine W.ret ?_
   refine EndsW.rt ?_
   conv => whnf
   refine ⟨⟨I, I, I⟩, ?_, rfl⟩
   exact vbf (fun q => hb q.boss)
 ·conv => whnf
  refine W.sq ?_
  refine g 54 58 [] ?_
  conv => whnf
  refine ⟨⟨I, I, I, I, I, I⟩, ?_⟩
  refine W.cn ?_
  conv => whnf
  refine ⟨noT (by simp [*]), fun _ => ?_⟩
  refine W.exit ?_
  refine g 7 96 [.b (false), .b (false), .b (false), .b (false), .b (false), .b (false)] ?_
  conv => whnf
  refine ⟨⟨I, I, I, I, I, I, I, I, (by simp [*]), (by simp [*]), (by simp [*]), (by simp [*]), (by simp [*]), (by simp [*]), I, I⟩, ?_⟩
  refine W.ret ?_
  refine EndsW.rt ?_
  conv => whnf
  refine ⟨⟨I, I, I⟩, ?_, rfl⟩
  exact vbf (fun q => hs q.same)
end Go.K
end
section
set_option linter.unusedVariables false
set_option linter.unusedSimpArgs false
set_option maxHeartbeats 8000000
set_option maxRecDepth 20000
open Go Go.Tm Go.Proofs
namespace Go.K
structure FinOk (w : World) : Prop where
 ok : WorldOk w
 up : w.boss.up = true
 all : ∀ r ∈ w.boss.results, ¬ r = emp
noncomputable instance (w : World) : Decidable (FinOk w) := Classical.propDecidable _
end Go.K
end
section
set_option linter.unusedVariables false
set_option linter.unusedSimpArgs false
set_option maxHeartbeats 8000000
set_option maxRecDepth 20000
open Go Go.Tm Go.Proofs
namespace Go.K
theorem world_lim {w : World} (hw : worldWf w) (h : worldSz w ≤ 1048576) : WorldLim w := by
 obtain ⟨w0, w1, w2, w3, w4, w5, w6, w7⟩ := hw
 have e : worldSz w = planSz w.plan + (w.key.size : Int) + bossSz w.boss + ((w.workers.length : Int) + sumI workerSz w.workers) + ((w.flight.length : Int) + sumI parcelSz w.flight) + (w.forged.size : Int) := rfl
 have h1 := planSz_nn w.plan
 have h2 := bossSz_nn w.boss
 have h3 := sum_nn workerSz_nn w.workers
 have h4 := sum_nn parcelSz_nn w.flight
 refine ⟨w0, boss_lim (by omega), w1, by omega, fun x hx => ?_, by omega, w6⟩
 have h5 := sum_mem workerSz_nn hx
 have h6 : workerSz x = (x.inputs.length + totS x.inputs) + x.text.size := rfl
 have h7 := totS_nn x.inputs
 omega
end Go.K
end

/- Contracts of functions of the program: what each call answers. -/
import Derived.Test.YtclkoehdmpcggaaPartf
section
set_option linter.unusedVariables false
set_option linter.unusedSimpArgs false
set_option maxHeartbeats 8000000
set_option maxRecDepth 20000
open Go Go.Tm Go.Proofs
namespace Go.K
theorem due_nil {b : Boss} {ts : List Task} {n : Nat} {j : Job} (h : jobsTo b ts b.jobs.length) (hj : b.jobs[n]? = some j) (hz : j.lease = 0) (now : Int) : mapN (dueJ now) b.jobs n = mapN (dueJ now) b.jobs (n + 1) := by
 refine mapN_same hj ?_
 obtain ⟨h1, h2⟩ := (h n j (List.getElem?_eq_some_iff.1 hj).1 hj).1 hz
 obtain ⟨l, w, t⟩ := j
 simp only at hz h1 h2
 subst hz h1 h2
 unfold dueJ; split <;> rfl
theorem c_spec_BossTick (b : Boss) (p : Plan) (hp : planWf p) (h : BossLim b) : F n_spec_BossTick [.val (bossR b), .val (planR p)] (ledO (bTick b p)) [[], []] := by
 have cv := cs_valid b p hp h
 by_cases hv : BossOk b p
 ·rw [decide_eq_true hv] at cv
  rw [btick_ok hv]
  have ct := cs_copy b h
  have hnow := hv.now
  by_cases h0 : b.now = 1000000
  ·rw [tick_max h0]
   refine i_spec_BossTick ?_
   conv => whnf
   refine g 1 2 [] ?_
   conv => whnf
   refine ⟨⟨⟨I, I, I, I, I, I, I, I, I, I, I, I, I⟩, ⟨I, I⟩, I, I⟩, ?_⟩
   refine W.sq ?_
   refine g 10 13 [.call (V.b true) ([[], []])] ?_
   conv => whnf
   refine ⟨⟨I, I, ⟨⟨I, I, I⟩, I, ⟨⟨I, I, I, I, I, I, I, I, I, I, I, I, I⟩, ⟨I, I⟩, I⟩, ⟨I, I⟩, (by assumption)⟩, I, I⟩, ?_⟩
   refine W.cn ?_
   conv => whnf
   refine ⟨noT (rfl), fun _ => ?_⟩
   refine W.skip ?_
   refine g 13 17 [.call (bossO b) ([[]])] ?_
   conv => whnf
   refine ⟨⟨I, ⟨⟨I, I⟩, I, ⟨⟨I, I, I, I, I, I, I, I, I, I, I, I, I⟩, I⟩, ⟨I, I⟩, (by assumption)⟩, I, ⟨I, I, I, I, I, I, I, I, I, I, I, I, I⟩, I⟩, ?_⟩
   refine W.sq ?_
   refine g 17 19 [] ?_
   conv => whnf
   refine ⟨⟨I, I, I, I⟩, ?_⟩
   refine W.cn ?_
   conv => whnf
   refine ⟨fun _ => ?_, noF (decide_eq_true (by omega))⟩
   refine g 19 22 [] ?_
   conv => whnf
   refine ⟨⟨I, I, ⟨I, I, I, I, I, I, I, I, I, I, I, I, I, I⟩, I⟩, ?_⟩
   refine W.ret ?_
   refine EndsW.rt ?_
   conv => whnf
   refine ⟨⟨I, I, I, I, I, I, I, I, I, I, I, I, I, I, I⟩, ?_, rfl⟩
   rfl
  ·by_cases hup : b.up = false
   ·rw [tick_no h0 hup]
    refine i_spec_BossTick ?_
    conv => whnf
    refine g 1 2 [] ?_
    conv => whnf
    refine ⟨⟨⟨I, I, I, I, I, I, I, I, I, I, I, I, I⟩, ⟨I, I⟩, I, I⟩, ?_⟩
    refine W.sq ?_
    refine g 10 13 [.call (V.b true) ([[], []])] ?_
    conv => whnf
    refine ⟨⟨I, I, ⟨⟨I, I, I⟩, I, ⟨⟨I, I, I, I, I, I, I, I, I, I, I, I, I⟩, ⟨I, I⟩, I⟩, ⟨I, I⟩, (by assumption)⟩, I, I⟩, ?_⟩
    refine W.cn ?_
    conv => whnf
    refine ⟨noT (rfl), fun _ => ?_⟩
    refine W.skip ?_
    refine g 13 17 [.call (bossO b) ([[]])] ?_
    conv => whnf
    refine ⟨⟨I, ⟨⟨I, I⟩, I, ⟨⟨I, I, I, I, I, I, I, I, I, I, I, I, I⟩, I⟩, ⟨I, I⟩, (by assumption)⟩, I, ⟨I, I, I, I, I, I, I, I, I, I, I, I, I⟩, I⟩, ?_⟩
    refine W.sq ?_
    refine g 17 19 [] ?_
    conv => whnf
    refine ⟨⟨I, I, I, I⟩, ?_⟩
    refine W.cn ?_
    conv => whnf
    refine ⟨noT (decide_eq_false (by omega)), fun _ => ?_⟩
    refine W.skip ?_
    refine g 19 26 [.i (Boss.now b + (1 : Int))] ?_
    conv => whnf
    refine ⟨⟨I, I, w64 (by omega) (by omega), I, ⟨I, I⟩, I⟩, ?_⟩
    refine W.sq ?_
    refine g 26 28 [] ?_
    conv => whnf
    refine ⟨⟨I, I, I, I⟩, ?_⟩
    refine W.cn ?_
    conv => whnf
    refine ⟨fun _ => ?_, noF (nbT (by assumption))⟩
    refine g 28 31 [] ?_
    conv => whnf
    refine ⟨⟨I, I, ⟨I, I, I, I, I, I, I, I, I, I, I, I, I, I⟩, I⟩, ?_⟩
    refine W.ret ?_
    refine EndsW.rt ?_
    conv => whnf
    refine ⟨⟨I, I, I, I, I, I, I, I, I, I, I, I, I, I, I⟩, ?_, rfl⟩
    rfl
   ·have hup2 : b.up = true := by cases hb : b.up; exact absurd hb hup; rfl
    obtain ⟨u1, u2, u3, u4, u5, u6, ⟨u7, u8⟩, ⟨u9, u10⟩, u11, u12, u13, u14⟩ := hv.up hup2
    have hck := hv.plan
    have hpl := (chk_inv hck).1
    have hwk := hv.workers
    obtain ⟨he1, he2⟩ := replay_ep hv.code
    change 0 ≤ (bossS b p).epoch at he1
    change (bossS b p).epoch ≤ 300 at he2
    have l1 := h.safe
    have l2 := h.loose
    have hin : HandIn (dueB b) p.tasks := ⟨hck, u3, by show (b.jobs.map _).length = _; rw [List.length_map]; exact u4, by show b.seats.length ≤ 8; omega, ⟨u2, by show b.epoch ≤ 300; omega⟩, ⟨u9, u10⟩, ⟨by show 0 ≤ b.now + 1; omega, by show b.now + 1 ≤ 1000000; omega⟩⟩
    have ch : F n_spec_l5Hand [.val (bossO ⟨b.workers, b.up, b.now + 1, b.since, b.epoch, b.given, b.log, b.results, mapN (dueJ (b.now + 1)) b.jobs b.jobs.length, b.seats, b.owed⟩), .val (planR p)] (ledO ⟨atB (dueB b) (endH b p.tasks), (endH b p.tasks).out⟩) [[], []] := by
     rw [mapN_all _ _ (Nat.le_refl _)]; exact c_spec_l5Hand (dueB b) p hin
    have hdl : ∀ t ∈ p.tasks, t.deps.length ≤ 8 := fun t ht => by
     obtain ⟨k, hk⟩ := List.getElem?_of_mem ht
     exact (chk_task hck hk).2.2.1
    have hho := hand_ok (b := dueB b) (ts := p.tasks) hdl u9 u10 p.tasks.length
    have k3 : (endH b p.tasks).out.length ≤ 40 := by have := hho.out; show (handN _ _ _).out.length ≤ 40; omega
    generalize hX : atB (dueB b) (endH b p.tasks) = X at ch
    have ch2 : F n_spec_l5Hand [.val (bossO ⟨b.workers, b.up, b.now + 1, b.since, b.epoch, b.given, b.log, b.results, mapN (dueJ (b.now + 1)) b.jobs b.jobs.length, b.seats, b.owed⟩), .val (planR p)] (.agg [.t (.i X.workers), .t (.b X.up), .t (.i X.now), .t (.i X.since), .t (.i X.epoch), .t (.i X.given), .own [false] (X.log.safe.map strT), .own [false] (X.log.loose.map strT), .own [false] (X.results.map strT), .own jobK (X.jobs.map jobT), .own seatK (X.seats.map seatT), .own owedK (X.owed.map owedT), .own messageK ((endH b p.tasks).out.map messageT)]) [[], []] := ch
    clear ch
    have x1 : X.since = b.since := by rw [← hX]; rfl
    have x2 : X.log = b.log := by rw [← hX]; rfl
    have x3 : X.owed = b.owed := by rw [← hX]; rfl
    have cl := c_spec_l4All X.log (by rw [x2]; exact l1) (by rw [x2]; exact l2)
    refine i_spec_BossTick ?_
    conv => whnf
    refine g 1 2 [] ?_
    conv => whnf
    refine ⟨⟨⟨I, I, I, I, I, I, I, I, I, I, I, I, I⟩, ⟨I, I⟩, I, I⟩, ?_⟩
    refine W.sq ?_
    refine g 10 13 [.call (V.b true) ([[], []])] ?_
    conv => whnf
    refine ⟨⟨I, I, ⟨⟨I, I, I⟩, I, ⟨⟨I, I, I, I, I, I, I, I, I, I, I, I, I⟩, ⟨I, I⟩, I⟩, ⟨I, I⟩, (by assumption)⟩, I, I⟩, ?_⟩
    refine W.cn ?_
    conv => whnf
    refine ⟨noT (rfl), fun _ => ?_⟩
    refine W.skip ?_
    refine g 13 17 [.call (bossO b) ([[]])] ?_
    conv => whnf
    refine ⟨⟨I, ⟨⟨I, I⟩, I, ⟨⟨I, I, I, I, I, I, I, I, I, I, I, I, I⟩, I⟩, ⟨I, I⟩, (by assumption)⟩, I, ⟨I, I, I, I, I, I, I, I, I, I, I, I, I⟩, I⟩, ?_⟩
    refine W.sq ?_
    refine g 17 19 [] ?_
    conv => whnf
    refine ⟨⟨I, I, I, I⟩, ?_⟩
    refine W.cn ?_
    conv => whnf
    refine ⟨noT (decide_eq_false (by omega)), fun _ => ?_⟩
    refine W.skip ?_
    refine g 19 26 [.i (Boss.now b + (1 : Int))] ?_
    conv => whnf
    refine ⟨⟨I, I, w64 (by omega) (by omega), I, ⟨I, I⟩, I⟩, ?_⟩
    refine W.sq ?_
    refine g 26 28 [] ?_
    conv => whnf
    refine ⟨⟨I, I, I, I⟩, ?_⟩
    refine W.cn ?_
    conv => whnf
    refine ⟨noT (nbF (by assumption)), fun _ => ?_⟩
    refine W.skip ?_
    refine W.sq ?_
    refine g 28 29 [] ?_
    conv => whnf
    refine ⟨⟨I, I⟩, ?_⟩
    refine W.blk ?_
    refine W.lp (fun s (n : Nat) => ⟨[(0, s.s 0), (2, s.s 2), (3, s.s 3), (4, s.s 4), (5, s.s 5), (6, .i n)], [(2, [s.c 2 0, s.c 2 1, s.c 2 2, s.c 2 3, s.c 2 4, s.c 2 5, s.c 2 6, s.c 2 7, s.c 2 8, s.c 2 9, s.c 2 10, s.c 2 11]), (3, [s.c 3 0]), (4, [s.c 4 0, s.c 4 1, s.c 4 2, s.c 4 3, s.c 4 4, s.c 4 5, s.c 4 6, s.c 4 7, s.c 4 8, s.c 4 9, s.c 4 10, s.c 4 11, s.c 4 12]), (5, [.t (.i b.workers), .t (.b b.up), .t (.i (b.now + 1)), .t (.i b.since), .t (.i b.epoch), .t (.i b.given), .own [false] (b.log.safe.map strT), .own [false] (b.log.loose.map strT), .own [false] (b.results.map strT), .own jobK ((mapN (dueJ (b.now + 1)) b.jobs n).map jobT), .own seatK (b.seats.map seatT), .own owedK (b.owed.map owedT)])], []⟩) (fun (n : Nat) => n ≤ b.jobs.length) (fun (n : Nat) => b.jobs.length - n) (0) [some 2, some 3, some 4, some 5] [] ⟨rfl, ⟨⟨_, rfl, _, _, rfl, rfl, _, _, rfl, rfl, _, _, rfl, rfl, _, _, rfl, rfl, _, _, rfl, rfl, _, _, rfl, rfl, _, _, rfl, rfl, _, _, rfl, rfl, _, _, rfl, rfl, _, _, rfl, rfl, _, _, rfl, rfl, _, _, rfl, rfl, rfl⟩, rfl, rfl, rfl, rfl, rfl, I⟩, ⟨⟨rfl, ⟨rfl, ⟨rfl, ⟨rfl, ⟨rfl, ⟨rfl, ⟨rfl, ⟨rfl, ⟨rfl, ⟨rfl, ⟨rfl, ⟨rfl, ⟨rfl, I⟩⟩⟩⟩⟩⟩⟩⟩⟩⟩⟩⟩⟩, ⟨⟨rfl, ⟨rfl, I⟩⟩, ⟨⟨rfl, ⟨rfl, ⟨rfl, ⟨rfl, ⟨rfl, ⟨rfl, ⟨rfl, ⟨rfl, ⟨rfl, ⟨rfl, ⟨rfl, ⟨rfl, ⟨rfl, ⟨rfl, I⟩⟩⟩⟩⟩⟩⟩⟩⟩⟩⟩⟩⟩⟩, ⟨⟨rfl, ⟨rfl, ⟨rfl, ⟨rfl, ⟨rfl, ⟨rfl, ⟨rfl, ⟨rfl, ⟨rfl, ⟨rfl, ⟨rfl, ⟨rfl, ⟨rfl, I⟩⟩⟩⟩⟩⟩⟩⟩⟩⟩⟩⟩⟩, I⟩⟩⟩⟩, I⟩ (by omega) ?_
    intro n hn
    have hx := mapN_len (dueJ (b.now + 1)) b.jobs n
    by_cases hj : n < b.jobs.length
    ·obtain ⟨j, hj1⟩ := some_at hj
     by_cases hz : j.lease = 0
     ·have e1 := due_nil u12 hj1 hz (b.now + 1)
      conv => whnf
      refine W.sq ?_
      refine g 31 35 [] ?_
      conv => whnf
      refine ⟨⟨I, I, I, I, I, I⟩, ?_⟩
      refine W.cn ?_
      conv => whnf
      refine ⟨fun _ => ?_, noF (by simp_all)⟩
      refine W.skip ?_
      refine W.sq ?_
      refine W.blk ?_
      refine gd 35 55 [[], [], [], [.n (n)], [], [.x (jobT j)], [], [], [.b (false)], [.b (false)], [.b (false)], [.b (false)], [.b (false)], [.b (false)], [.b (false)], [.b (false)], [.b (false)], [.b (false)]] ?_
      conv => whnf
      refine ⟨⟨I, I, I, ⟨rfl, (by simp only [List.length_map, List.length_append, List.length_set, List.length_replicate, List.length_cons, List.length_nil, List.length_take, List.length_drop, fill_len, fillI_len, List.length_range, bytesT_len]; omega)⟩, I, mapN_getm (by assumption), I, I, notF (by omega), notF (by omega), notF (by omega), notF (by omega), notF (by omega), notF (by omega), notF (by omega), notF (by omega), notF (by omega), notF (by omega), I⟩, by kernel_rfl, ?_⟩
      refine W.cn ?_
      conv => whnf
      refine ⟨noT (rfl), fun _ => ?_⟩
      refine W.skip ?_
      refine rg [.i ((↑n : Int) + (1 : Int))] ?_
      conv => whnf
      refine ⟨⟨I, w64 (by omega) (by omega), I, I⟩, ?_⟩
      refine ⟨n + 1, [some 2, some 3, some 4, some 5], [], ⟨rfl, ⟨⟨_, rfl, _, _, rfl, rfl, _, _, rfl, rfl, _, _, rfl, rfl, _, _, rfl, rfl, _, _, rfl, rfl, _, _, rfl, rfl, _, _, rfl, rfl, _, _, rfl, rfl, _, _, rfl, rfl, _, _, rfl, rfl, _, _, rfl, rfl, _, _, rfl, rfl, rfl⟩, rfl, rfl, rfl, rfl, rfl, I⟩, ⟨⟨rfl, ⟨rfl, ⟨rfl, ⟨rfl, ⟨rfl, ⟨rfl, ⟨rfl, ⟨rfl, ⟨rfl, ⟨rfl, ⟨rfl, ⟨rfl, ⟨rfl, I⟩⟩⟩⟩⟩⟩⟩⟩⟩⟩⟩⟩⟩, ⟨⟨rfl, ⟨rfl, I⟩⟩, ⟨⟨rfl, ⟨rfl, ⟨rfl, ⟨rfl, ⟨rfl, ⟨rfl, ⟨rfl, ⟨rfl, ⟨rfl, ⟨rfl, ⟨rfl, ⟨rfl, ⟨rfl, ⟨rfl, I⟩⟩⟩⟩⟩⟩⟩⟩⟩⟩⟩⟩⟩⟩, ⟨⟨rfl, ⟨rfl, ⟨rfl, ⟨rfl, ⟨rfl, ⟨rfl, ⟨rfl, ⟨rfl, ⟨rfl, ⟨rfl, ⟨(congrArg (V.own _) (by rw [← e1])), ⟨rfl, ⟨rfl, I⟩⟩⟩⟩⟩⟩⟩⟩⟩⟩⟩⟩⟩, I⟩⟩⟩⟩, I⟩, ?_, ?_⟩
      rotate_left 1
      (dsimp only; omega)
      dsimp only
      omega
     ·by_cases hd : j.til ≤ b.now + 1
      ·have e1 := due_yes hj1 hd
       conv => whnf
       refine W.sq ?_
       refine g 31 35 [] ?_
       conv => whnf
       refine ⟨⟨I, I, I, I, I, I⟩, ?_⟩
       refine W.cn ?_
       conv => whnf
       refine ⟨fun _ => ?_, noF (by simp_all)⟩
       refine W.skip ?_
       refine W.sq ?_
       refine W.blk ?_
       refine gd 35 55 [[], [], [], [.n (n)], [], [.x (jobT j)], [], [], [.b (true)], [.b (true)], [.b (true)], [.b (true), .n (n)], [.b (true)], [.b (true), .x (jobT j)], [.b (true)], [.b (true)], [.b (true)], [.b (true)]] ?_
       conv => whnf
       refine ⟨⟨I, I, I, ⟨rfl, (by simp only [List.length_map, List.length_append, List.length_set, List.length_replicate, List.length_cons, List.length_nil, List.length_take, List.length_drop, fill_len, fillI_len, List.length_range, bytesT_len]; omega)⟩, I, mapN_getm (by assumption), I, I, ⟨notT (by omega), I⟩, ⟨notT (by omega), I⟩, ⟨notT (by omega), I⟩, ⟨notT (by omega), rfl, (by simp only [List.length_map, List.length_append, List.length_set, List.length_replicate, List.length_cons, List.length_nil, List.length_take, List.length_drop, fill_len, fillI_len, List.length_range, bytesT_len]; omega)⟩, ⟨notT (by omega), I⟩, ⟨notT (by omega), mapN_getm (by assumption)⟩, ⟨notT (by omega), I⟩, ⟨notT (by omega), I⟩, ⟨notT (by omega), I⟩, notT (by omega), I⟩, by kernel_rfl, ?_⟩
       refine W.cn ?_
       conv => whnf
       refine ⟨fun _ => ?_, noF (decide_eq_true (by omega))⟩
       refine rg [.n (n), .x (jobT j)] ?_
       conv => whnf
       refine ⟨⟨I, I, I, I, ⟨rfl, (by simp only [List.length_map, List.length_append, List.length_set, List.length_replicate, List.length_cons, List.length_nil, List.length_take, List.length_drop, fill_len, fillI_len, List.length_range, bytesT_len]; omega)⟩, ⟨⟨I, I, I, I⟩, mapN_getm (by assumption)⟩, I⟩, ?_⟩
       refine rg [.i ((↑n : Int) + (1 : Int))] ?_
       conv => whnf
       refine ⟨⟨I, w64 (by omega) (by omega), I, I⟩, ?_⟩
       refine ⟨n + 1, [some 2, some 3, some 4, some 5], [], ⟨rfl, ⟨⟨_, rfl, _, _, rfl, rfl, _, _, rfl, rfl, _, _, rfl, rfl, _, _, rfl, rfl, _, _, rfl, rfl, _, _, rfl, rfl, _, _, rfl, rfl, _, _, rfl, rfl, _, _, rfl, rfl, _, _, rfl, rfl, _, _, rfl, rfl, _, _, rfl, rfl, rfl⟩, rfl, rfl, rfl, rfl, rfl, I⟩, ⟨⟨rfl, ⟨rfl, ⟨rfl, ⟨rfl, ⟨rfl, ⟨rfl, ⟨rfl, ⟨rfl, ⟨rfl, ⟨rfl, ⟨rfl, ⟨rfl, ⟨rfl, I⟩⟩⟩⟩⟩⟩⟩⟩⟩⟩⟩⟩⟩, ⟨⟨rfl, ⟨rfl, I⟩⟩, ⟨⟨rfl, ⟨rfl, ⟨rfl, ⟨rfl, ⟨rfl, ⟨rfl, ⟨rfl, ⟨rfl, ⟨rfl, ⟨rfl, ⟨rfl, ⟨rfl, ⟨rfl, ⟨rfl, I⟩⟩⟩⟩⟩⟩⟩⟩⟩⟩⟩⟩⟩⟩, ⟨⟨rfl, ⟨rfl, ⟨rfl, ⟨rfl, ⟨rfl, ⟨rfl, ⟨rfl, ⟨rfl, ⟨rfl, ⟨rfl, ⟨(congrArg (V.own _) (e1)), ⟨rfl, ⟨rfl, I⟩⟩⟩⟩⟩⟩⟩⟩⟩⟩⟩⟩⟩, I⟩⟩⟩⟩, I⟩, ?_, ?_⟩
       rotate_left 1
       (dsimp only; omega)
       dsimp only
       omega
      ·have e1 := due_no hj1 hd
       conv => whnf
       refine W.sq ?_
       refine g 31 35 [] ?_
       conv => whnf
       refine ⟨⟨I, I, I, I, I, I⟩, ?_⟩
       refine W.cn ?_
       conv => whnf
       refine ⟨fun _ => ?_, noF (by simp_all)⟩
       refine W.skip ?_
       refine W.sq ?_
       refine W.blk ?_
       refine gd 35 55 [[], [], [], [.n (n)], [], [.x (jobT j)], [], [], [.b (true)], [.b (true)], [.b (true)], [.b (true), .n (n)], [.b (true)], [.b (true), .x (jobT j)], [.b (true)], [.b (true)], [.b (true)], [.b (true)]] ?_
       conv => whnf
       refine ⟨⟨I, I, I, ⟨rfl, (by simp only [List.length_map, List.length_append, List.length_set, List.length_replicate, List.length_cons, List.length_nil, List.length_take, List.length_drop, fill_len, fillI_len, List.length_range, bytesT_len]; omega)⟩, I, mapN_getm (by assumption), I, I, ⟨notT (by omega), I⟩, ⟨notT (by omega), I⟩, ⟨notT (by omega), I⟩, ⟨notT (by omega), rfl, (by simp only [List.length_map, List.length_append, List.length_set, List.length_replicate, List.length_cons, List.length_nil, List.length_take, List.length_drop, fill_len, fillI_len, List.length_range, bytesT_len]; omega)⟩, ⟨notT (by omega), I⟩, ⟨notT (by omega), mapN_getm (by assumption)⟩, ⟨notT (by omega), I⟩, ⟨notT (by omega), I⟩, ⟨notT (by omega), I⟩, notT (by omega), I⟩, by kernel_rfl, ?_⟩
       refine W.cn ?_
       conv => whnf
       refine ⟨noT (decide_eq_false (by omega)), fun _ => ?_⟩
       refine W.skip ?_
       refine rg [.i ((↑n : Int) + (1 : Int))] ?_
       conv => whnf
       refine ⟨⟨I, w64 (by omega) (by omega), I, I⟩, ?_⟩
       refine ⟨n + 1, [some 2, some 3, some 4, some 5], [], ⟨rfl, ⟨⟨_, rfl, _, _, rfl, rfl, _, _, rfl, rfl, _, _, rfl, rfl, _, _, rfl, rfl, _, _, rfl, rfl, _, _, rfl, rfl, _, _, rfl, rfl, _, _, rfl, rfl, _, _, rfl, rfl, _, _, rfl, rfl, _, _, rfl, rfl, _, _, rfl, rfl, rfl⟩, rfl, rfl, rfl, rfl, rfl, I⟩, ⟨⟨rfl, ⟨rfl, ⟨rfl, ⟨rfl, ⟨rfl, ⟨rfl, ⟨rfl, ⟨rfl, ⟨rfl, ⟨rfl, ⟨rfl, ⟨rfl, ⟨rfl, I⟩⟩⟩⟩⟩⟩⟩⟩⟩⟩⟩⟩⟩, ⟨⟨rfl, ⟨rfl, I⟩⟩, ⟨⟨rfl, ⟨rfl, ⟨rfl, ⟨rfl, ⟨rfl, ⟨rfl, ⟨rfl, ⟨rfl, ⟨rfl, ⟨rfl, ⟨rfl, ⟨rfl, ⟨rfl, ⟨rfl, I⟩⟩⟩⟩⟩⟩⟩⟩⟩⟩⟩⟩⟩⟩, ⟨⟨rfl, ⟨rfl, ⟨rfl, ⟨rfl, ⟨rfl, ⟨rfl, ⟨rfl, ⟨rfl, ⟨rfl, ⟨rfl, ⟨(congrArg (V.own _) (by rw [← e1])), ⟨rfl, ⟨rfl, I⟩⟩⟩⟩⟩⟩⟩⟩⟩⟩⟩⟩⟩, I⟩⟩⟩⟩, I⟩, ?_, ?_⟩
       rotate_left 1
       (dsimp only; omega)
       dsimp only
       omega
    obtain rfl : n = b.jobs.length := by omega
    have x4 : X.epoch = b.epoch := by rw [← hX]; rfl
    have x5 : X.owed.length ≤ 2000 := by rw [x3]; exact u11
    by_cases hs : b.since + 1 = 2
    ·rw [tick_flush h0 hup hs]
     conv => whnf
     refine W.sq ?_
     refine g 31 35 [] ?_
     conv => whnf
     refine ⟨⟨I, I, I, I, I, I⟩, ?_⟩
     refine W.cn ?_
     conv => whnf
     refine ⟨noT (by simp_all), fun _ => ?_⟩
     refine W.exit ?_
     refine g 35 64 [.call (V.agg [V.t (T.i (Boss.workers X)), V.t (T.b (Boss.up X)), V.t (T.i (Boss.now X)), V.t (T.i (Boss.since X)), V.t (T.i (Boss.epoch X)), V.t (T.i (Boss.given X)), V.own [false] (List.map strT (Log.safe (Boss.log X))), V.own [false] (List.map strT (Log.loose (Boss.log X))), V.own [false] (List.map strT (Boss.results X)), V.own jobK (List.map jobT (Boss.jobs X)), V.own seatK (List.map seatT (Boss.seats X)), V.own owedK (List.map owedT (Boss.owed X)), V.own messageK (List.map messageT (Hand.out (endH b (Plan.tasks p))))]) ([[], []])] ?_
     conv => whnf
     refine ⟨⟨I, I, ⟨⟨⟨I, I, I, I, I, I, I, I, I, I, I, I, I⟩, I, I⟩, I, ⟨I, ⟨I, I⟩, I⟩, ⟨I, I⟩, (by assumption)⟩, I, ⟨I, I, I, I, I, I, I, I, I, I, I, I, I, I⟩, I⟩, ?_⟩
     refine g 64 70 [.i (Boss.since X + (1 : Int))] ?_
     conv => whnf
     refine ⟨⟨I, I, I, w64 (by omega) (by omega), I, I, ⟨I, I⟩, I⟩, ?_⟩
     refine W.sq ?_
     refine g 70 73 [] ?_
     conv => whnf
     refine ⟨⟨I, I, I, I, I⟩, ?_⟩
     refine W.cn ?_
     conv => whnf
     refine ⟨noT (decide_eq_false (by omega)), fun _ => ?_⟩
     refine W.skip ?_
     refine g 5 7 [] ?_
     conv => whnf
     refine ⟨⟨I, I, ⟨I, I⟩, I⟩, ?_⟩
     refine g 75 84 [.call (V.own [false] (List.map strT (Log.safe (Boss.log X) ++ Log.loose (Boss.log X)))) ([[]])] ?_
     conv => whnf
     refine ⟨⟨I, I, I, ⟨⟨I, I⟩, I, ⟨⟨I, I, I⟩, I⟩, ⟨I, I⟩, (by assumption)⟩, I, I, I, ⟨I, I, I⟩, I⟩, ?_⟩
     refine W.sq ?_
     refine g 0 0 [] ?_
     conv => whnf
     refine ⟨⟨I, I⟩, ?_⟩
     refine W.blk ?_
     refine W.lp (fun s (n : Nat) => ⟨[(0, s.s 0), (2, s.s 2), (3, s.s 3), (4, s.s 4), (7, s.s 7), (8, .i n), (73, s.s 73)], [(2, [s.c 2 0, s.c 2 1, s.c 2 2, s.c 2 3, s.c 2 4, s.c 2 5, s.c 2 6, s.c 2 7, s.c 2 8, s.c 2 9, s.c 2 10, s.c 2 11]), (3, [s.c 3 0]), (4, [s.c 4 0, s.c 4 1, s.c 4 2, s.c 4 3, s.c 4 4, s.c 4 5, s.c 4 6, s.c 4 7, s.c 4 8, s.c 4 9, s.c 4 10, s.c 4 11, s.c 4 12]), (7, [.t (.i X.workers), .t (.b X.up), .t (.i X.now), .t (.i 0), .t (.i X.epoch), .t (.i X.given), .own [false] ((X.log.safe ++ X.log.loose).map strT), .own [false] [], .own [false] (X.results.map strT), .own jobK (X.jobs.map jobT), .own seatK (X.seats.map seatT), .own owedK (X.owed.map owedT), .own messageK (((endH b p.tasks).out ++ (X.owed.take n).map (thanksM X.epoch)).map messageT)])], []⟩) (fun (n : Nat) => n ≤ X.owed.length) (fun (n : Nat) => X.owed.length - n) (0) [some 2, some 3, some 4, some 7] [] ⟨rfl, ⟨⟨_, rfl, _, _, rfl, rfl, _, _, rfl, rfl, _, _, rfl, rfl, _, _, rfl, rfl, _, _, rfl, rfl, _, _, rfl, rfl, _, _, rfl, rfl, _, _, rfl, rfl, _, _, rfl, rfl, _, _, rfl, rfl, _, _, rfl, rfl, _, _, rfl, rfl, rfl⟩, rfl, rfl, rfl, rfl, rfl, rfl, I⟩, ⟨⟨rfl, ⟨rfl, ⟨rfl, ⟨rfl, ⟨rfl, ⟨rfl, ⟨rfl, ⟨rfl, ⟨rfl, ⟨rfl, ⟨rfl, ⟨rfl, ⟨rfl, I⟩⟩⟩⟩⟩⟩⟩⟩⟩⟩⟩⟩⟩, ⟨⟨rfl, ⟨rfl, I⟩⟩, ⟨⟨rfl, ⟨rfl, ⟨rfl, ⟨rfl, ⟨rfl, ⟨rfl, ⟨rfl, ⟨rfl, ⟨rfl, ⟨rfl, ⟨rfl, ⟨rfl, ⟨rfl, ⟨rfl, I⟩⟩⟩⟩⟩⟩⟩⟩⟩⟩⟩⟩⟩⟩, ⟨⟨rfl, ⟨rfl, ⟨rfl, ⟨rfl, ⟨rfl, ⟨rfl, ⟨rfl, ⟨rfl, ⟨rfl, ⟨rfl, ⟨rfl, ⟨rfl, ⟨rfl, ⟨(congrArg (V.own _) (by rw [List.take_zero, List.map_nil, List.append_nil])), I⟩⟩⟩⟩⟩⟩⟩⟩⟩⟩⟩⟩⟩⟩, I⟩⟩⟩⟩, I⟩ (by omega) ?_
     intro n hn3
     by_cases hn2 : n < X.owed.length
     ·obtain ⟨o, ho⟩ := some_at hn2
      have eo := thanks_step (out := (endH b p.tasks).out) (ep := X.epoch) ho
      conv => whnf
      refine W.sq ?_
      refine g 84 89 [] ?_
      conv => whnf
      refine ⟨⟨I, I, I, I, I, I, I⟩, ?_⟩
      refine W.cn ?_
      conv => whnf
      refine ⟨fun _ => ?_, noF (by simp_all)⟩
      refine W.skip ?_
      refine W.sq ?_
      refine W.blk ?_
      refine g 89 98 [.n (n), .x (owedT o)] ?_
      conv => whnf
      refine ⟨⟨I, I, I, I, ⟨rfl, (by simp only [List.length_map, List.length_append, List.length_set, List.length_replicate, List.length_cons, List.length_nil, List.length_take, List.length_drop, fill_len, fillI_len, List.length_range, bytesT_len]; omega)⟩, ixl (by assumption), I, ⟨I, I, I, I⟩, I⟩, ?_⟩
      refine rg [] ?_
      conv => whnf
      refine ⟨⟨I, I, I, I, I, I, I, I, I, I, ⟨⟨I, I, I, I, I, I, I, I, I⟩, I⟩, ⟨I, I, (by simp only [List.length_map, List.length_append, List.length_set, List.length_replicate, List.length_cons, List.length_nil, List.length_take, List.length_drop, fill_len, fillI_len, List.length_range, bytesT_len]; omega)⟩, I, ⟨I, I⟩, I⟩, ?_⟩
      refine rg [.i ((↑n : Int) + (1 : Int))] ?_
      conv => whnf
      refine ⟨⟨I, w64 (by omega) (by omega), I, I⟩, ?_⟩
      refine ⟨n + 1, [some 2, some 3, some 4, some 7], [], ⟨rfl, ⟨⟨_, rfl, _, _, rfl, rfl, _, _, rfl, rfl, _, _, rfl, rfl, _, _, rfl, rfl, _, _, rfl, rfl, _, _, rfl, rfl, _, _, rfl, rfl, _, _, rfl, rfl, _, _, rfl, rfl, _, _, rfl, rfl, _, _, rfl, rfl, _, _, rfl, rfl, rfl⟩, rfl, rfl, rfl, rfl, rfl, rfl, I⟩, ⟨⟨rfl, ⟨rfl, ⟨rfl, ⟨rfl, ⟨rfl, ⟨rfl, ⟨rfl, ⟨rfl, ⟨rfl, ⟨rfl, ⟨rfl, ⟨rfl, ⟨rfl, I⟩⟩⟩⟩⟩⟩⟩⟩⟩⟩⟩⟩⟩, ⟨⟨rfl, ⟨rfl, I⟩⟩, ⟨⟨rfl, ⟨rfl, ⟨rfl, ⟨rfl, ⟨rfl, ⟨rfl, ⟨rfl, ⟨rfl, ⟨rfl, ⟨rfl, ⟨rfl, ⟨rfl, ⟨rfl, ⟨rfl, I⟩⟩⟩⟩⟩⟩⟩⟩⟩⟩⟩⟩⟩⟩, ⟨⟨rfl, ⟨rfl, ⟨rfl, ⟨rfl, ⟨rfl, ⟨rfl, ⟨rfl, ⟨rfl, ⟨rfl, ⟨rfl, ⟨rfl, ⟨rfl, ⟨rfl, ⟨(congrArg (V.own _) (eo)), I⟩⟩⟩⟩⟩⟩⟩⟩⟩⟩⟩⟩⟩⟩, I⟩⟩⟩⟩, I⟩, ?_, ?_⟩
      rotate_left 1
      (dsimp only; omega)
      dsimp only
      omega
     ·have et : X.owed.take n = X.owed := take_all (by omega)
      conv => whnf
      refine W.sq ?_
      refine g 84 89 [] ?_
      conv => whnf
      refine ⟨⟨I, I, I, I, I, I, I⟩, ?_⟩
      refine W.cn ?_
      conv => whnf
      refine ⟨noT (by simp_all), fun _ => ?_⟩
      refine W.exit ?_
      refine g 89 114 [] ?_
      conv => whnf
      refine ⟨⟨I, I, I, ⟨I, I⟩, I⟩, ?_⟩
      refine g 0 4 [] ?_
      conv => whnf
      refine ⟨⟨I, ⟨I, I, I, I, I, I, I, I, I, I, I, I, I, I⟩, I⟩, ?_⟩
      refine W.ret ?_
      refine EndsW.rt ?_
      conv => whnf
      refine ⟨⟨I, I, I, I, I, I, I, I, I, I, I, I, I, I, I⟩, ?_, rfl⟩
      rw [et]
      subst hX
      rfl
    ·rw [tick_hand h0 hup hs]
     conv => whnf
     refine W.sq ?_
     refine g 31 35 [] ?_
     conv => whnf
     refine ⟨⟨I, I, I, I, I, I⟩, ?_⟩
     refine W.cn ?_
     conv => whnf
     refine ⟨noT (by simp_all), fun _ => ?_⟩
     refine W.exit ?_
     refine g 35 64 [.call (V.agg [V.t (T.i (Boss.workers X)), V.t (T.b (Boss.up X)), V.t (T.i (Boss.now X)), V.t (T.i (Boss.since X)), V.t (T.i (Boss.epoch X)), V.t (T.i (Boss.given X)), V.own [false] (List.map strT (Log.safe (Boss.log X))), V.own [false] (List.map strT (Log.loose (Boss.log X))), V.own [false] (List.map strT (Boss.results X)), V.own jobK (List.map jobT (Boss.jobs X)), V.own seatK (List.map seatT (Boss.seats X)), V.own owedK (List.map owedT (Boss.owed X)), V.own messageK (List.map messageT (Hand.out (endH b (Plan.tasks p))))]) ([[], []])] ?_
     conv => whnf
     refine ⟨⟨I, I, ⟨⟨⟨I, I, I, I, I, I, I, I, I, I, I, I, I⟩, I, I⟩, I, ⟨I, ⟨I, I⟩, I⟩, ⟨I, I⟩, (by assumption)⟩, I, ⟨I, I, I, I, I, I, I, I, I, I, I, I, I, I⟩, I⟩, ?_⟩
     refine g 64 70 [.i (Boss.since X + (1 : Int))] ?_
     conv => whnf
     refine ⟨⟨I, I, I, w64 (by omega) (by omega), I, I, ⟨I, I⟩, I⟩, ?_⟩
     refine W.sq ?_
     refine g 70 73 [] ?_
     conv => whnf
     refine ⟨⟨I, I, I, I, I⟩, ?_⟩
     refine W.cn ?_
     conv => whnf
     refine ⟨fun _ => ?_, noF (decide_eq_true (by omega))⟩
     refine g 5 7 [] ?_
     conv => whnf
     refine ⟨⟨I, ⟨I, I, I, I, I, I, I, I, I, I, I, I, I, I⟩, I⟩, ?_⟩
     refine W.ret ?_
     refine EndsW.rt ?_
     conv => whnf
     refine ⟨⟨I, I, I, I, I, I, I, I, I, I, I, I, I, I, I⟩, ?_, rfl⟩
     subst hX
     rfl
 ·rw [decide_eq_false hv] at cv
  rw [btick_no hv]
  refine i_spec_BossTick ?_
  conv => whnf
  refine g 1 2 [] ?_
  conv => whnf
  refine ⟨⟨⟨I, I, I, I, I, I, I, I, I, I, I, I, I⟩, ⟨I, I⟩, I, I⟩, ?_⟩
  refine W.sq ?_
  refine g 10 13 [.call (V.b false) ([[], []])] ?_
  conv => whnf
  refine ⟨⟨I, I, ⟨⟨I, I, I⟩, I, ⟨⟨I, I, I, I, I, I, I, I, I, I, I, I, I⟩, ⟨I, I⟩, I⟩, ⟨I, I⟩, (by assumption)⟩, I, I⟩, ?_⟩
  refine W.cn ?_
  conv => whnf
  refine ⟨fun _ => ?_, noF (rfl)⟩
  refine g 13 15 [] ?_
  conv => whnf
  refine ⟨⟨I, ⟨I, I, I, I, I, I, I, I, I, I, I, I, I, I⟩, I⟩, ?_⟩
  refine W.ret ?_
  refine EndsW.rt ?_
  conv => whnf
  refine ⟨⟨I, I, I, I, I, I, I, I, I, I, I, I, I, I, I⟩, ?_, rfl⟩
  rfl
end Go.K
end
section
set_option linter.unusedVariables false
set_option linter.unusedSimpArgs false
set_option maxHeartbeats 8000000
set_option maxRecDepth 20000
open Go Go.Tm Go.Proofs
namespace Go.K
theorem sum_msgC : ∀ {l : List Message}, (∀ m ∈ l, m.inputs.length ≤ 8) → sumI messageC l ≤ 15 * (l.length : Int)
 | [], _ => by simp [sumI]
 | x :: l, h => by
   have h1 := sum_msgC (l := l) fun m hm => h m (List.mem_cons_of_mem _ hm)
   have h2 := h x (List.mem_cons_self ..)
   simp only [sumI, messageC, List.length_cons]; omega
structure LedSmall (x : Led) : Prop where
 boss : BossSmall x.boss
 out : x.out.length ≤ 2097152
 inp : ∀ m ∈ x.out, m.inputs.length ≤ 8
theorem ledsmall_no : LedSmall noLed := ⟨small_no, Nat.zero_le _, fun m hm => by cases hm⟩
theorem small_led {x : Led} (h : LedSmall x) : ledLen x ∧ (x.boss.log.safe.length ≤ 9223372036854775806 ∧ x.boss.log.loose.length ≤ 9223372036854775806 ∧ x.boss.results.length ≤ 9223372036854775806 ∧ x.boss.jobs.length ≤ 9223372036854775806 ∧ x.boss.seats.length ≤ 9223372036854775806 ∧ x.boss.owed.length ≤ 9223372036854775806 ∧ x.out.length ≤ 9223372036854775806) ∧ 0 ≤ ledTopC x ∧ ledTopC x ≤ 200000000 := by
 obtain ⟨h1, h2, h3⟩ := h
 obtain ⟨⟨c1, c2, c3, c4, c5, c6⟩, _, b3, b4⟩ := small_boss h1
 have e : ledTopC x = bossTopC x.boss + sumI messageC x.out := rfl
 have h4 := sum_nn messageC_nn x.out
 have h5 := sum_msgC h3
 exact ⟨⟨c1, c2, c3, c4, c5, c6, by omega, fun y hy => by have := h3 y hy; show y.inputs.length ≤ _; omega⟩, ⟨c1, c2, c3, c4, c5, c6, by omega⟩, by omega, by omega⟩
theorem btick_small {b : Boss} (p : Plan) (h : BossLim b) : LedSmall (bTick b p) := by
 unfold bTick; split
 ·rename_i hv
  have hs := small_lim h
  unfold tickB; split
  ·exact ⟨hs, Nat.zero_le _, fun m hm => by cases hm⟩
  ·split
   ·exact ⟨⟨hs.1, hs.2, hs.3, hs.4, hs.5, hs.6⟩, Nat.zero_le _, fun m hm => by cases hm⟩
   ·rename_i hup
    have hup2 : b.up = true := by cases hb : b.up; exact absurd hb hup; rfl
    obtain ⟨u1, u2, u3, u4, u5, u6, ⟨u7, u8⟩, ⟨u9, u10⟩, u11, u12, u13, u14⟩ := hv.up hup2
    have hck := hv.plan
    have hpl := (chk_inv hck).1
    have hdl : ∀ t ∈ p.tasks, t.deps.length ≤ 8 := fun t ht => by
     obtain ⟨k, hk⟩ := List.getElem?_of_mem ht
     exact (chk_task hck hk).2.2.1
    obtain ⟨k1, k2, k3, k4, k5, k6⟩ := hand_ok (b := dueB b) (ts := p.tasks) hdl u9 u10 p.tasks.length
    have k7 : (dueB b).jobs.length = b.jobs.length := by show (b.jobs.map _).length = _; rw [List.length_map]
    have k8 : (dueB b).seats.length = b.seats.length := rfl
    have g1 := h.safe
    have g2 := h.loose
    have g3 := h.seats
    have g4 := h.res
    have j1 : (endH b p.tasks).jobs.length ≤ 4194304 := by show (handN _ _ _).jobs.length ≤ _; omega
    have j2 : (endH b p.tasks).seats.length ≤ 4194304 := by show (handN _ _ _).seats.length ≤ _; omega
    have j3 : (endH b p.tasks).out.length ≤ 40 := by show (handN _ _ _).out.length ≤ _; omega
    split
    ·refine ⟨⟨?_, Nat.zero_le _, by show b.results.length ≤ _; omega, j1, j2, Nat.zero_le _⟩, ?_, ?_⟩
     ·simp only [List.length_append]; omega
     ·simp only [List.length_append, List.length_map]; omega
     ·intro m hm
      rcases List.mem_append.1 hm with hm | hm
      ·exact k6 m hm
      ·obtain ⟨o, _, rfl⟩ := List.mem_map.1 hm
       exact Nat.zero_le _
    ·exact ⟨⟨by show b.log.safe.length ≤ _; omega, by show b.log.loose.length ≤ _; omega, by show b.results.length ≤ _; omega, j1, j2, by show b.owed.length ≤ _; omega⟩, by show (endH b p.tasks).out.length ≤ _; omega, k6⟩
 ·exact ledsmall_no
theorem l_FnExactBossTick (b : Boss) (hw : bossWf b) (p : Plan) (hp : planWf p) : F n_laws_FnExactBossTick [.val (bossR b), .val (planR p)] (.b true) [[], []] := by
 have c0 := c_laws_szBoss b 1048576 hw (by omega) (by omega)
 have hbn := bossSz_nn b
 by_cases hq : (1048576 : Int) - bossSz b < 0
 ·rw [if_pos hq] at c0
  refine i_laws_FnExactBossTick ?_
  conv => whnf
  refine g 0 2 [] ?_
  conv => whnf
  refine ⟨⟨⟨I, I, I, I, I, I, I, I, I, I, I, I, I⟩, ⟨I, I⟩, I, I⟩, ?_⟩
  refine g 0 0 [] ?_
  conv => whnf
  refine ⟨⟨I, I⟩, ?_⟩
  refine g 14 17 [.call (V.i (-1 : Int)) ([[], []])] ?_
  conv => whnf
  refine ⟨⟨I, I, ⟨⟨I, I, I⟩, I, ⟨⟨I, I, I, I, I, I, I, I, I, I, I, I, I⟩, ⟨I, I⟩, I⟩, ⟨I, I⟩, (by assumption)⟩, I, I⟩, ?_⟩
  refine W.sq ?_
  refine g 17 18 [] ?_
  conv => whnf
  refine ⟨⟨I, I, I⟩, ?_⟩
  refine W.cn ?_
  conv => whnf
  refine ⟨fun _ => ?_, noF (rfl)⟩
  refine g 18 19 [] ?_
  conv => whnf
  refine ⟨⟨I, I⟩, ?_⟩
  refine W.ret ?_
  refine EndsW.rt ?_
  conv => whnf
  refine ⟨⟨I, I, I⟩, ?_, rfl⟩
  rfl
 ·rw [if_neg hq] at c0
  have c9 := c_laws_szPlan p (1048576 - bossSz b) hp (by omega) (by omega)
  have hpn := planSz_nn p
  by_cases hq2 : (1048576 : Int) - bossSz b - planSz p < 0
  ·rw [if_pos hq2] at c9
   refine i_laws_FnExactBossTick ?_
   conv => whnf
   refine g 0 2 [] ?_
   conv => whnf
   refine ⟨⟨⟨I, I, I, I, I, I, I, I, I, I, I, I, I⟩, ⟨I, I⟩, I, I⟩, ?_⟩
   refine g 0 0 [] ?_
   conv => whnf
   refine ⟨⟨I, I⟩, ?_⟩
   refine g 14 17 [.call (V.i ((1048576 : Int) - bossSz b)) ([[], []])] ?_
   conv => whnf
   refine ⟨⟨I, I, ⟨⟨I, I, I⟩, I, ⟨⟨I, I, I, I, I, I, I, I, I, I, I, I, I⟩, ⟨I, I⟩, I⟩, ⟨I, I⟩, (by assumption)⟩, I, I⟩, ?_⟩
   refine W.sq ?_
   refine g 17 18 [] ?_
   conv => whnf
   refine ⟨⟨I, I, I⟩, ?_⟩
   refine W.cn ?_
   conv => whnf
   refine ⟨noT (decide_eq_false (by omega)), fun _ => ?_⟩
   refine W.skip ?_
   refine g 18 22 [.call (V.i (-1 : Int)) ([[], []])] ?_
   conv => whnf
   refine ⟨⟨I, I, ⟨⟨I, I, I⟩, I, ⟨⟨I, I⟩, ⟨I, I⟩, I⟩, ⟨I, I⟩, (by assumption)⟩, I, I⟩, ?_⟩
   refine W.sq ?_
   refine g 5 23 [] ?_
   conv => whnf
   refine ⟨⟨I, I, I⟩, ?_⟩
   refine W.cn ?_
   conv => whnf
   refine ⟨fun _ => ?_, noF (rfl)⟩
   refine g 23 24 [] ?_
   conv => whnf
   refine ⟨⟨I, I⟩, ?_⟩
   refine W.ret ?_
   refine EndsW.rt ?_
   conv => whnf
   refine ⟨⟨I, I, I⟩, ?_, rfl⟩
   rfl
  ·rw [if_neg hq2] at c9
   have hl2 := planLen_of (a := p) (by omega)
   obtain ⟨hl3, hl4⟩ := planC_le (p := p) (by omega)
   have hl6 := planTopC_nn p
   have hbl := boss_lim (b := b) (by omega)
   obtain ⟨b1, b2, b3, b4⟩ := small_boss (small_lim hbl)
   obtain ⟨r1, r2, r3, r4⟩ := small_led (btick_small p hbl)
   refine i_laws_FnExactBossTick ?_
   conv => whnf
   refine g 0 2 [] ?_
   conv => whnf
   refine ⟨⟨⟨I, I, I, I, I, I, I, I, I, I, I, I, I⟩, ⟨I, I⟩, I, I⟩, ?_⟩
   refine g 0 0 [] ?_
   conv => whnf
   refine ⟨⟨I, I⟩, ?_⟩
   refine g 14 17 [.call (V.i ((1048576 : Int) - bossSz b)) ([[], []])] ?_
   conv => whnf
   refine ⟨⟨I, I, ⟨⟨I, I, I⟩, I, ⟨⟨I, I, I, I, I, I, I, I, I, I, I, I, I⟩, ⟨I, I⟩, I⟩, ⟨I, I⟩, (by assumption)⟩, I, I⟩, ?_⟩
   refine W.sq ?_
   refine g 17 18 [] ?_
   conv => whnf
   refine ⟨⟨I, I, I⟩, ?_⟩
   refine W.cn ?_
   conv => whnf
   refine ⟨noT (decide_eq_false (by omega)), fun _ => ?_⟩
   refine W.skip ?_
   refine g 18 22 [.call (V.i ((1048576 : Int) - bossSz b - planSz p)) ([[], []])] ?_
   conv => whnf
   refine ⟨⟨I, I, ⟨⟨I, I, I⟩, I, ⟨⟨I, I⟩, ⟨I, I⟩, I⟩, ⟨I, I⟩, (by assumption)⟩, I, I⟩, ?_⟩
   refine W.sq ?_
   refine g 5 23 [] ?_
   conv => whnf
   refine ⟨⟨I, I, I⟩, ?_⟩
   refine W.cn ?_
   conv => whnf
   refine ⟨noT (decide_eq_false (by omega)), fun _ => ?_⟩
   refine W.skip ?_
   refine gd 23 29 [[], [.call (bossO b) ([[]])], [], [.call (planO p) ([[]])], [.call (ledO (bTick b p)) ([[], []])], [], []] ?_
   conv => whnf
   refine ⟨⟨I, ⟨⟨I, I⟩, I, ⟨⟨I, I, I, I, I, I, I, I, I, I, I, I, I⟩, I⟩, ⟨I, I⟩, Go.K.c_laws_toBoss _ (by omega)⟩, I, ⟨⟨I, I⟩, I, ⟨⟨I, I⟩, I⟩, ⟨I, I⟩, Go.K.c_laws_toPlan _ (by omega)⟩, ⟨⟨I, I, I⟩, I, ⟨⟨I, I, I, I, I, I, I, I, I, I, I, I, I⟩, ⟨I, I⟩, I⟩, ⟨I, I⟩, Go.K.c_spec_BossTick _ _ (by omega) (by omega)⟩, I, ⟨I, I, I, I, I, I, I, I, I, I, I, I, I, I⟩, I⟩, by kernel_rfl, ?_⟩
   refine g 29 31 [.call (bossO b) ([[]])] ?_
   conv => whnf
   refine ⟨⟨I, ⟨⟨I, I⟩, I, ⟨⟨I, I, I, I, I, I, I, I, I, I, I, I, I⟩, I⟩, ⟨I, I⟩, Go.K.c_laws_toBoss _ (by omega)⟩, I, ⟨I, I, I, I, I, I, I, I, I, I, I, I, I⟩, I⟩, ?_⟩
   refine g 31 33 [.call (planO p) ([[]])] ?_
   conv => whnf
   refine ⟨⟨I, ⟨⟨I, I⟩, I, ⟨⟨I, I⟩, I⟩, ⟨I, I⟩, Go.K.c_laws_toPlan _ (by omega)⟩, I, ⟨I, I⟩, I⟩, ?_⟩
   refine g 33 36 [.call (ledO (bTick b p)) ([[], []])] ?_
   conv => whnf
   refine ⟨⟨I, I, ⟨⟨I, I, I⟩, I, ⟨⟨I, I, I, I, I, I, I, I, I, I, I, I, I⟩, ⟨I, I⟩, I⟩, ⟨I, I⟩, Go.K.c_impl_BossTick _ _ (by omega) (by omega)⟩, I, ⟨I, I, I, I, I, I, I, I, I, I, I, I, I, I⟩, I⟩, ?_⟩
   refine W.sq ?_
   refine g 36 39 [.call (V.b (decide (bTick b p = bTick b p))) ([[], []])] ?_
   conv => whnf
   refine ⟨⟨I, I, ⟨⟨I, I, I⟩, I, ⟨⟨I, I, I, I, I, I, I, I, I, I, I, I, I, I⟩, ⟨I, I, I, I, I, I, I, I, I, I, I, I, I, I⟩, I⟩, ⟨I, I⟩, Go.K.c_laws_eqLed _ _ (by omega)⟩, I, I⟩, ?_⟩
   refine W.cn ?_
   conv => whnf
   refine ⟨noT (notF rfl), fun _ => ?_⟩
   refine W.skip ?_
   refine W.sq ?_
   refine gd 39 44 [[], [], [.call (bossO b) ([[]])], [.call (V.b (decide (b = b))) ([[], []])], []] ?_
   conv => whnf
   refine ⟨⟨I, I, ⟨⟨I, I⟩, I, ⟨⟨I, I, I, I, I, I, I, I, I, I, I, I, I⟩, I⟩, ⟨I, I⟩, Go.K.c_laws_toBoss _ (by omega)⟩, ⟨⟨I, I, I⟩, I, ⟨⟨I, I, I, I, I, I, I, I, I, I, I, I, I⟩, ⟨I, I, I, I, I, I, I, I, I, I, I, I, I⟩, I⟩, ⟨I, I⟩, Go.K.c_laws_eqBoss _ _ (by omega)⟩, I, I⟩, by kernel_rfl, ?_⟩
   refine W.cn ?_
   conv => whnf
   refine ⟨noT (notF rfl), fun _ => ?_⟩
   refine W.skip ?_
   refine W.sq ?_
   refine gd 44 49 [[], [], [.call (planO p) ([[]])], [.call (V.b (decide (p = p))) ([[], []])], []] ?_
   conv => whnf
   refine ⟨⟨I, I, ⟨⟨I, I⟩, I, ⟨⟨I, I⟩, I⟩, ⟨I, I⟩, Go.K.c_laws_toPlan _ (by omega)⟩, ⟨⟨I, I, I⟩, I, ⟨⟨I, I⟩, ⟨I, I⟩, I⟩, ⟨I, I⟩, Go.K.c_laws_eqPlan _ _ (by omega)⟩, I, I⟩, by kernel_rfl, ?_⟩
   refine W.cn ?_
   conv => whnf
   refine ⟨noT (notF rfl), fun _ => ?_⟩
   refine W.skip ?_
   refine g 49 50 [] ?_
   conv => whnf
   refine ⟨⟨I, I⟩, ?_⟩
   refine g 50 53 [.call (V.i ((1 : Int) + bossTopC b)) ([cellsOf (bossO (bossTop (1 : Int) b)), []])] ?_
   conv => whnf
   refine ⟨⟨I, I, ⟨⟨⟨I, I, I, I, I, I, I, I, I, I, I, I, I⟩, I, I⟩, I, ⟨I, ⟨I, I⟩, I⟩, ⟨I, I⟩, Go.K.c_laws_markBoss _ _ (by omega) (by omega) (by omega)⟩, I, I⟩, ?_⟩
   refine g 53 56 [.call (V.i ((1 : Int) + bossTopC b + planTopC p)) ([cellsOf (planO (planTop ((1 : Int) + bossTopC b) p)), []])] ?_
   conv => whnf
   refine ⟨⟨I, I, ⟨⟨⟨I, I⟩, I, I⟩, I, ⟨I, ⟨I, I⟩, I⟩, ⟨I, I⟩, Go.K.c_laws_markPlan _ _ (by omega) (by omega) (by omega)⟩, I, I⟩, ?_⟩
   refine W.sq ?_
   refine g 10 63 [.b (false), .b (false), .b (false), .call (V.b (decide (bTick b p = bTick b p))) ([[], []]), .b (false), .b (false)] ?_
   conv => whnf
   refine ⟨⟨I, I, I, ⟨decide_eq_false (by omega), I⟩, ⟨decide_eq_false (by omega), I⟩, ⟨decide_eq_false (by omega), ⟨I, I, I⟩, I, ⟨⟨I, I, I, I, I, I, I, I, I, I, I, I, I, I⟩, ⟨I, I, I, I, I, I, I, I, I, I, I, I, I, I⟩, I⟩, ⟨I, I⟩, Go.K.c_laws_eqLed _ _ (by omega)⟩, ⟨decide_eq_false (by omega), I⟩, decide_eq_false (by omega), I⟩, ?_⟩
   refine W.cn ?_
   conv => whnf
   refine ⟨noT (by assumption), fun _ => ?_⟩
   refine W.skip ?_
   refine g 7 9 [] ?_
   conv => whnf
   refine ⟨⟨I, I⟩, ?_⟩
   refine g 63 67 [.call (V.i ((1 : Int) + ledTopC (bTick b p))) ([cellsOf (ledO (ledTop (1 : Int) (bTick b p))), []])] ?_
   conv => whnf
   refine ⟨⟨I, I, ⟨⟨⟨I, I, I, I, I, I, I, I, I, I, I, I, I, I⟩, I, I⟩, I, ⟨I, ⟨I, I⟩, I⟩, ⟨I, I⟩, Go.K.c_laws_markLed _ _ (by omega) (by omega) (by omega)⟩, I, I⟩, ?_⟩
   refine g 0 0 [] ?_
   conv => whnf
   refine ⟨⟨I, I⟩, ?_⟩
   refine g 67 70 [.call (V.i ((1 : Int) + ledTopC (bTick b p))) ([[], []])] ?_
   conv => whnf
   refine ⟨⟨I, I, ⟨⟨I, I, I⟩, I, ⟨⟨I, I, I, I, I, I, I, I, I, I, I, I, I, I⟩, ⟨I, I⟩, I⟩, ⟨I, I⟩, Go.K.c_laws_heldLed _ _ (by omega) (by omega) (by omega)⟩, I, I⟩, ?_⟩
   refine W.sq ?_
   refine g 70 71 [] ?_
   conv => whnf
   refine ⟨⟨I, I, I⟩, ?_⟩
   refine W.cn ?_
   conv => whnf
   refine ⟨noT (decide_eq_false (by omega)), fun _ => ?_⟩
   refine W.skip ?_
   refine W.sq ?_
   refine g 71 74 [] ?_
   conv => whnf
   refine ⟨⟨I, I, I, I⟩, ?_⟩
   refine W.cn ?_
   conv => whnf
   refine ⟨noT (notF (by omega)), fun _ => ?_⟩
   refine W.skip ?_
   refine gd 74 80 [[], [.call (bossO b) ([[]])], [], [.call (planO p) ([[]])], [.call (ledO (bTick b p)) ([[], []])], [], []] ?_
   conv => whnf
   refine ⟨⟨I, ⟨⟨I, I⟩, I, ⟨⟨I, I, I, I, I, I, I, I, I, I, I, I, I⟩, I⟩, ⟨I, I⟩, Go.K.c_laws_toBoss _ (by omega)⟩, I, ⟨⟨I, I⟩, I, ⟨⟨I, I⟩, I⟩, ⟨I, I⟩, Go.K.c_laws_toPlan _ (by omega)⟩, ⟨⟨I, I, I⟩, I, ⟨⟨I, I, I, I, I, I, I, I, I, I, I, I, I⟩, ⟨I, I⟩, I⟩, ⟨I, I⟩, Go.K.c_impl_BossTick _ _ (by omega) (by omega)⟩, I, ⟨I, I, I, I, I, I, I, I, I, I, I, I, I, I⟩, I⟩, by kernel_rfl, ?_⟩
   refine W.sq ?_
   refine g 13 83 [.call (V.b (decide (bTick b p = bTick b p))) ([[], []])] ?_
   conv => whnf
   refine ⟨⟨I, I, ⟨⟨I, I, I⟩, I, ⟨⟨I, I, I, I, I, I, I, I, I, I, I, I, I, I⟩, ⟨I, I, I, I, I, I, I, I, I, I, I, I, I, I⟩, I⟩, ⟨I, I⟩, Go.K.c_laws_eqLed _ _ (by omega)⟩, I, I⟩, ?_⟩
   refine W.cn ?_
   conv => whnf
   refine ⟨noT (by assumption), fun _ => ?_⟩
   refine W.skip ?_
   refine g 2 4 [] ?_
   conv => whnf
   refine ⟨⟨I, I⟩, ?_⟩
   refine g 83 87 [.call (V.i ((1 : Int) + ledTopC (bTick b p))) ([[], []])] ?_
   conv => whnf
   refine ⟨⟨I, I, ⟨⟨I, I, I⟩, I, ⟨⟨I, I, I, I, I, I, I, I, I, I, I, I, I, I⟩, ⟨I, I⟩, I⟩, ⟨I, I⟩, Go.K.c_laws_heldLed _ _ (by omega) (by omega) (by omega)⟩, I, I⟩, ?_⟩
   refine W.sq ?_
   refine g 6 10 [] ?_
   conv => whnf
   refine ⟨⟨I, I, I⟩, ?_⟩
   refine W.cn ?_
   conv => whnf
   refine ⟨noT (by assumption), fun _ => ?_⟩
   refine W.skip ?_
   refine W.sq ?_
   refine g 11 91 [] ?_
   conv => whnf
   refine ⟨⟨I, I, I, I⟩, ?_⟩
   refine W.cn ?_
   conv => whnf
   refine ⟨noT (by assumption), fun _ => ?_⟩
   refine W.skip ?_
   refine g 91 92 [] ?_
   conv => whnf
   refine ⟨⟨I, I⟩, ?_⟩
   refine W.ret ?_
   refine EndsW.rt ?_
   conv => whnf
   refine ⟨⟨I, I, I⟩, ?_, rfl⟩
   rfl
end Go.K
end

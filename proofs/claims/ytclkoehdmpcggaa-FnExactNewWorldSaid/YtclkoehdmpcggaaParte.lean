/- Contracts of functions of the program: what each call answers. -/
import Derived.Test.YtclkoehdmpcggaaPartd
section
set_option linter.unusedVariables false
set_option linter.unusedSimpArgs false
set_option maxHeartbeats 4000000
set_option maxRecDepth 20000
open Go Go.Tm Go.Proofs
namespace Go.K
structure Story where
  code : Int
  epoch : Int
  results : List ByteArray
  deriving DecidableEq
abbrev storyO (x : Story) : V := .agg [.t (.i x.code), .t (.i x.epoch), .own [false] (x.results.map strT)]
noncomputable def taleAt (ts : List Task) (xs : List ByteArray) (n : Nat) : Tale := (runR ts (some (tale0 ts)) (xs.take n)).getD (tale0 ts)
def taleOk (ts : List Task) (xs : List ByteArray) (n : Nat) : Prop := runR ts (some (tale0 ts)) (xs.take n) = some (taleAt ts xs n)
theorem taleAt_zero (ts : List Task) (xs : List ByteArray) : taleAt ts xs 0 = tale0 ts := by unfold taleAt; rw [List.take_zero, runR_nil]; rfl
theorem taleOk_zero (ts : List Task) (xs : List ByteArray) : taleOk ts xs 0 := by unfold taleOk; rw [taleAt_zero, List.take_zero, runR_nil]
theorem tale_step {ts : List Task} {xs : List ByteArray} {n : Nat} {s : ByteArray} {t : Tale} (h : taleOk ts xs n) (hs : xs[n]? = some s) (hst : stepR ts (taleAt ts xs n) s = some t) : taleOk ts xs (n + 1) ∧ taleAt ts xs (n + 1) = t := by
  have e := runR_take h hs
  rw [hst] at e
  have e2 : taleAt ts xs (n + 1) = t := by unfold taleAt; rw [e]; rfl
  exact ⟨by unfold taleOk; rw [e, e2], e2⟩
theorem tale_len {ts : List Task} {xs : List ByteArray} {n : Nat} (h : taleOk ts xs n) : (taleAt ts xs n).results.length = ts.length := by
  rw [runR_len ts _ _ _ h, tale0, List.length_replicate]
noncomputable def replayP (p : Plan) (xs : List ByteArray) : Story :=
  if checkPlan p.tasks = 0 ∧ xs.length ≤ 310 then
    match runR p.tasks (some (tale0 p.tasks)) xs with
    | none => ⟨2, 0, []⟩
    | some t => ⟨0, t.epoch, t.results⟩
  else ⟨1, 0, []⟩
theorem replay_bad {p : Plan} {xs : List ByteArray} (h : ¬ (checkPlan p.tasks = 0 ∧ xs.length ≤ 310)) : replayP p xs = ⟨1, 0, []⟩ := if_neg h
theorem replay_no {p : Plan} {xs : List ByteArray} {n : Nat} {s : ByteArray} (h : checkPlan p.tasks = 0) (hl : xs.length ≤ 310) (hc : taleOk p.tasks xs n) (hs : xs[n]? = some s) (hst : stepR p.tasks (taleAt p.tasks xs n) s = none) : replayP p xs = ⟨2, 0, []⟩ := by
  rw [replayP, if_pos ⟨h, hl⟩, runR_bad hc hs hst]
theorem replay_yes {p : Plan} {xs : List ByteArray} {n : Nat} (h : checkPlan p.tasks = 0) (hl : xs.length ≤ 310) (hc : taleOk p.tasks xs n) (hn : xs.length ≤ n) : replayP p xs = ⟨0, (taleAt p.tasks xs n).epoch, (taleAt p.tasks xs n).results⟩ := by
  rw [replayP, if_pos ⟨h, hl⟩, runR_all hc hn]
theorem step_none {ts : List Task} {t : Tale} {s : ByteArray} (h : readS s = none) : stepR ts t s = none := by unfold stepR; rw [h]
theorem step_ep {ts : List Task} {t : Tale} {s : ByteArray} {e : Entry} (h : readS s = some e) (hk : e.kind = 1) (he : e.epoch = t.epoch + 1) : stepR ts t s = some ⟨e.epoch, t.results⟩ := by
  unfold stepR; rw [h]; simp only [if_pos hk, if_pos he]
theorem step_ep_no {ts : List Task} {t : Tale} {s : ByteArray} {e : Entry} (h : readS s = some e) (hk : e.kind = 1) (he : ¬ e.epoch = t.epoch + 1) : stepR ts t s = none := by
  unfold stepR; rw [h]; simp only [if_pos hk, if_neg he]
theorem step_res {ts : List Task} {t : Tale} {s : ByteArray} {e : Entry} {k : Task} {y : ByteArray} (h : readS s = some e) (hk : ¬ e.kind = 1) (he : e.epoch = t.epoch) (ht : e.task < ts.length) (hy : t.results[e.task.toNat]? = some y) (hy2 : y = emp) (hkk : ts[e.task.toNat]? = some k) (hr : readyB t.results k.deps) : stepR ts t s = some ⟨t.epoch, t.results.set e.task.toNat e.text⟩ := by
  unfold stepR; rw [h]; simp only [if_neg hk]
  rw [if_pos ⟨he, ht, by rw [hy]; exact hy2, by rw [hkk]; exact hr⟩]
theorem step_no1 {ts : List Task} {t : Tale} {s : ByteArray} {e : Entry} (h : readS s = some e) (hk : ¬ e.kind = 1) (hn : ¬ (e.epoch = t.epoch ∧ e.task < ts.length)) : stepR ts t s = none := by
  unfold stepR; rw [h]; simp only [if_neg hk]
  rw [if_neg fun q => hn ⟨q.1, q.2.1⟩]
theorem step_no2 {ts : List Task} {t : Tale} {s : ByteArray} {e : Entry} {y : ByteArray} (h : readS s = some e) (hk : ¬ e.kind = 1) (hy : t.results[e.task.toNat]? = some y) (hn : ¬ y = emp) : stepR ts t s = none := by
  unfold stepR; rw [h]; simp only [if_neg hk]
  rw [if_neg fun q => hn (by have := q.2.2.1; rw [hy] at this; exact this)]
theorem step_no3 {ts : List Task} {t : Tale} {s : ByteArray} {e : Entry} {k : Task} (h : readS s = some e) (hk : ¬ e.kind = 1) (hkk : ts[e.task.toNat]? = some k) (hn : ¬ readyB t.results k.deps) : stepR ts t s = none := by
  unfold stepR; rw [h]; simp only [if_neg hk]
  rw [if_neg fun q => hn (by have := q.2.2.2; rw [hkk] at this; exact this)]
theorem readS_rng {s : ByteArray} {e : Entry} (h : readS s = some e) : e.ok := by
  unfold readS at h
  split at h
  · cases h
  · split at h
    · rename_i h1 h2
      cases h
      unfold formS at h2
      split at h2
      · assumption
      · rw [← h2] at h1; exact absurd (by decide : ((emp.size : Nat) : Int) < 4) h1
    · cases h
theorem c_spec_l4Deps (p : Plan) (rs : List ByteArray) (k : Int) {t : Task} (h0 : 0 ≤ k) (ht : p.tasks[k.toNat]? = some t) (hd : ∀ d ∈ t.deps, 0 ≤ d ∧ d < rs.length) (hl : t.deps.length ≤ 1048576) : F n_spec_l4Deps [.val (planR p), .val (.t (strs rs)), .val (.i k)] (.b (decide (readyB rs t.deps))) [[], [], []] := by
  have hk := (List.getElem?_eq_some_iff.1 ht).1
  refine i_spec_l4Deps ?_
  conv => whnf
  refine g 0 1 [] ?_
  conv => whnf
  refine ⟨⟨⟨I, I⟩, I, I⟩, ?_⟩
  refine g 9 15 [.x (taskT t)] ?_
  conv => whnf
  refine ⟨⟨I, I, I, ⟨(by assumption), ixl (by assumption)⟩, I, I, I, I⟩, ?_⟩
  refine W.sq ?_
  refine g 2 4 [] ?_
  conv => whnf
  refine ⟨⟨I, I⟩, ?_⟩
  refine W.blk ?_
  refine W.lp (fun s (n : Nat) => ⟨[(1, s.s 1), (7, s.s 7), (8, .i n)], [], []⟩) (fun (n : Nat) => n ≤ t.deps.length ∧ readyB rs (t.deps.take n)) (fun (n : Nat) => t.deps.length - n) (0) [] [] ⟨rfl, ⟨rfl, rfl, rfl, I⟩, I, I⟩ ?_ ?_
  · exact ⟨Nat.zero_le _, by unfold readyB; simp⟩
  rintro n ⟨hn, hc⟩
  conv => whnf
  refine W.sq ?_
  refine g 15 18 [] ?_
  conv => whnf
  refine ⟨⟨I, I, I, I, I⟩, ?_⟩
  refine W.cn ?_
  conv => whnf
  refine ⟨fun h1 => ?_, fun h1 => ?_⟩
  replace h1 := dt h1
  simp only [List.length_map] at h1
  refine W.skip ?_
  refine W.sq ?_
  refine W.blk ?_
  obtain ⟨y1, hy1⟩ := some_at (xs := Task.deps t) (n := n) (by omega)
  have hm1 := hd y1 (List.mem_of_getElem? hy1)
  obtain ⟨y2, hy2⟩ := some_at (xs := rs) (n := Int.toNat y1) (by omega)
  refine g 18 28 [.x (intT y1), .x (strT y2)] ?_
  conv => whnf
  refine ⟨⟨I, I, I, ⟨(by omega), ixl (by assumption)⟩, I, ⟨(by omega), ixl (by assumption)⟩, I, I, I⟩, ?_⟩
  refine W.cn ?_
  conv => whnf
  refine ⟨fun h2 => ?_, fun h2 => ?_⟩
  replace h2 := dt h2
  refine g 28 29 [] ?_
  conv => whnf
  refine ⟨⟨I, I⟩, ?_⟩
  refine W.ret ?_
  refine EndsW.rt ?_
  conv => whnf
  refine ⟨⟨I, I, I⟩, ?_, rfl⟩
  rotate_left 1
  replace h2 := df h2
  refine W.skip ?_
  refine rg [.i ((↑n : Int) + (1 : Int))] ?_
  conv => whnf
  refine ⟨⟨I, w64 (by omega) (by omega), I, I⟩, ?_⟩
  rotate_left 1
  replace h1 := df h1
  simp only [List.length_map] at h1
  refine W.exit ?_
  refine g 7 19 [] ?_
  conv => whnf
  refine ⟨⟨I, I⟩, ?_⟩
  refine W.ret ?_
  refine EndsW.rt ?_
  conv => whnf
  refine ⟨⟨I, I, I⟩, ?_, rfl⟩
  rotate_left 1
  · exact vbf (ready_no (by assumption) (by assumption) (by assumption))
  · refine ⟨n + 1, [], [], ⟨rfl, ⟨rfl, rfl, rfl, I⟩, I, I⟩, ?_, ?_⟩
    rotate_left 1
    (dsimp only; omega)
    dsimp only
    exact ⟨by omega, ready_step hc (by assumption) (by assumption) (by assumption)⟩
  · exact vbt (by rw [List.take_of_length_le (by omega)] at hc; exact hc)

theorem tale_rng {ts : List Task} {e : Entry} (h : e.ok) : 0 ≤ e.task ∧ e.task ≤ 39 ∧ 1 ≤ e.epoch ∧ e.epoch ≤ 300 := ⟨h.2.1.1, h.2.1.2, h.1.1, h.1.2⟩
theorem tale_replicate (ts : List Task) (xs : List ByteArray) : List.replicate ts.length (strT emp) = (taleAt ts xs 0).results.map strT := by rw [taleAt_zero, tale0, List.map_replicate]
theorem c_impl_Replay (p : Plan) (xs : List ByteArray) (hp : planWf p) (hx : ∀ s ∈ xs, s.size ≤ 281474976710656) (hl : xs.length ≤ 9223372036854775806) : F n_impl_Replay [.val (planR p), .val (.t (strs xs))] (storyO (replayP p xs)) [[], []] := by
  have c1 := c_impl_CheckPlan p hp
  by_cases h : checkPlan p.tasks = 0
  · obtain ⟨⟨hl1, hl2⟩, _⟩ := chk_inv h
    rw [h] at c1
    by_cases hl3 : xs.length ≤ 310
    · refine i_impl_Replay ?_
      conv => whnf
      refine g 0 0 [] ?_
      conv => whnf
      refine ⟨⟨⟨I, I⟩, I, I⟩, ?_⟩
      refine W.sq ?_
      refine g 13 18 [.call (V.i (0 : Int)) ([[]]), .b (false), .b (false), .b (false), .b (false)] ?_
      conv => whnf
      refine ⟨⟨I, ⟨⟨I, I⟩, I, ⟨⟨I, I⟩, I⟩, ⟨I, I⟩, (by assumption)⟩, I, I, ⟨rfl, I⟩, ⟨rfl, I⟩, ⟨rfl, I⟩, rfl, I⟩, ?_⟩
      refine W.cn ?_
      conv => whnf
      refine ⟨fun h1 => ?_, fun h1 => ?_⟩
      replace h1 := dt h1
      simp only [List.length_map] at h1
      omega
      replace h1 := df h1
      simp only [List.length_map] at h1
      refine W.skip ?_
      refine gd 21 24 [[], [], [], [.n (List.length (List.map taskT (Plan.tasks p)))], [], []] ?_
      conv => whnf
      refine ⟨⟨I, I, I, ⟨rfl, rfl, (by simp only [List.length_map, List.length_append, List.length_set, List.length_replicate, List.length_cons, List.length_nil, List.length_take, List.length_drop, fill_len, fillI_len, List.length_range, bytesT_len]; omega)⟩, I, I, I⟩, by kernel_rfl, ?_⟩
      refine W.sq ?_
      refine g 11 12 [] ?_
      conv => whnf
      refine ⟨⟨I, I, I, I⟩, ?_⟩
      refine W.blk ?_
      refine W.lp (fun s (n : Nat) => ⟨[(0, s.s 0), (1, s.s 1), (2, s.s 2), (4, s.s 4), (5, .i (taleAt p.tasks xs n).epoch), (6, .ref ⟨23, none, 0⟩), (12, s.s 12), (20, s.s 20), (24, s.s 24), (25, s.s 25), (26, .i n)], [(2, [s.c 2 0]), (4, [s.c 4 0, s.c 4 1, s.c 4 2]), (23, [.own [false] ((taleAt p.tasks xs n).results.map strT)])], []⟩) (fun (n : Nat) => n ≤ xs.length ∧ taleOk p.tasks xs n ∧ 0 ≤ (taleAt p.tasks xs n).epoch ∧ (taleAt p.tasks xs n).epoch ≤ 300) (fun (n : Nat) => xs.length - n) (0) [some 2, some 4, some 23] [] ⟨rfl, ⟨⟨_, rfl, _, _, rfl, rfl, rfl⟩, rfl, rfl, rfl, rfl, rfl, rfl, rfl, rfl, rfl, rfl, I⟩, ⟨⟨rfl, ⟨rfl, I⟩⟩, ⟨⟨rfl, ⟨rfl, ⟨rfl, ⟨rfl, I⟩⟩⟩⟩, ⟨⟨rfl, ⟨(congrArg (V.own _) (by rw [List.length_map]; exact tale_replicate _ _)), I⟩⟩, I⟩⟩⟩, I⟩ ?_ ?_
      · rw [taleAt_zero]; exact ⟨Nat.zero_le _, taleOk_zero _ _, Int.le_refl _, by show (0 : Int) ≤ 300; omega⟩
      rintro n ⟨hn, hc, he0, he1⟩
      have hrl := tale_len hc
      by_cases hn2 : n < xs.length
      · obtain ⟨s0, hs⟩ := some_at hn2
        have hss := hx s0 (List.mem_of_getElem? hs)
        have cr := c_impl_ReadEntry s0 hss
        rw [read_eq] at cr
        cases hr : readS s0 with
        | none =>
          rw [hr] at cr
          conv => whnf
          refine g 0 0 [] ?_
          conv => whnf
          refine ⟨⟨I, I⟩, ?_⟩
          refine W.sq ?_
          refine W.cn ?_
          conv => whnf
          refine ⟨fun _ => ?_, noF (by simp [*])⟩
          refine W.skip ?_
          refine W.sq ?_
          refine W.blk ?_
          refine g 27 30 [.x (strT s0)] ?_
          conv => whnf
          refine ⟨⟨⟨(by omega), ixl (by assumption)⟩, I, I, I⟩, ?_⟩
          refine g 30 35 [.call (tupE none) ([[]])] ?_
          conv => whnf
          refine ⟨⟨I, ⟨⟨I, I⟩, I, ⟨⟨I, I⟩, I⟩, ⟨I, I⟩, (by assumption)⟩, I, I, I, I, ⟨I, I, I, I, I⟩, I, I⟩, ?_⟩
          refine W.sq ?_
          refine g 8 9 [] ?_
          conv => whnf
          refine ⟨⟨I, I, I⟩, ?_⟩
          refine W.cn ?_
          conv => whnf
          refine ⟨fun _ => ?_, noF (rfl)⟩
          refine g 35 38 [] ?_
          conv => whnf
          refine ⟨⟨I, ⟨I, I, I, I⟩, I⟩, ?_⟩
          refine W.ret ?_
          refine EndsW.rt ?_
          conv => whnf
          refine ⟨⟨I, I, I, I, I⟩, ?_, rfl⟩
          rw [replay_no h hl3 hc hs (step_none hr)]; rfl
        | some e =>
          rw [hr] at cr
          obtain ⟨r1, r2, r3, r4⟩ := tale_rng (ts := p.tasks) (readS_rng hr)
          by_cases hk : e.kind = 1
          · by_cases he : e.epoch = (taleAt p.tasks xs n).epoch + 1
            · obtain ⟨hc2, e1⟩ := tale_step hc hs (step_ep hr hk he)
              conv => whnf
              refine g 0 0 [] ?_
              conv => whnf
              refine ⟨⟨I, I⟩, ?_⟩
              refine W.sq ?_
              refine W.cn ?_
              conv => whnf
              refine ⟨fun _ => ?_, noF (by simp [*])⟩
              refine W.skip ?_
              refine W.sq ?_
              refine W.blk ?_
              refine g 27 30 [.x (strT s0)] ?_
              conv => whnf
              refine ⟨⟨⟨(by omega), ixl (by assumption)⟩, I, I, I⟩, ?_⟩
              refine g 30 35 [.call (tupE (some e)) ([[]])] ?_
              conv => whnf
              refine ⟨⟨I, ⟨⟨I, I⟩, I, ⟨⟨I, I⟩, I⟩, ⟨I, I⟩, (by assumption)⟩, I, I, I, I, ⟨I, I, I, I, I⟩, I, I⟩, ?_⟩
              refine W.sq ?_
              refine g 8 9 [] ?_
              conv => whnf
              refine ⟨⟨I, I, I⟩, ?_⟩
              refine W.cn ?_
              conv => whnf
              refine ⟨noT (rfl), fun _ => ?_⟩
              refine W.skip ?_
              refine W.sq ?_
              refine g 35 40 [] ?_
              conv => whnf
              refine ⟨⟨I, I, I, I⟩, ?_⟩
              refine W.cn ?_
              conv => whnf
              refine ⟨fun _ => ?_, noF (decide_eq_true (by omega))⟩
              refine W.sq ?_
              refine g 40 45 [.i (Tale.epoch (taleAt (Plan.tasks p) xs n) + (1 : Int))] ?_
              conv => whnf
              refine ⟨⟨I, I, I, w64 (by omega) (by omega), I, I⟩, ?_⟩
              refine W.cn ?_
              conv => whnf
              refine ⟨noT (notF (by omega)), fun _ => ?_⟩
              refine W.skip ?_
              refine g 45 49 [] ?_
              conv => whnf
              refine ⟨⟨I, I, I, I⟩, ?_⟩
              refine W.exit ?_
              refine rg [.i ((↑n : Int) + (1 : Int))] ?_
              conv => whnf
              refine ⟨⟨w64 (by omega) (by omega), I, I⟩, ?_⟩
              refine ⟨n + 1, [some 2, some 4, some 23], [], ⟨rfl, ⟨⟨_, rfl, _, _, rfl, rfl, rfl⟩, rfl, rfl, rfl, (congrArg (fun z => V.t (T.v (Value.int _ z))) (by rw [e1])), rfl, rfl, rfl, rfl, rfl, rfl, I⟩, ⟨⟨rfl, ⟨rfl, I⟩⟩, ⟨⟨rfl, ⟨rfl, ⟨rfl, ⟨rfl, I⟩⟩⟩⟩, ⟨⟨rfl, ⟨(congrArg (V.own _) (by rw [e1])), I⟩⟩, I⟩⟩⟩, I⟩, ?_, ?_⟩
              rotate_left 1
              (dsimp only; omega)
              dsimp only
              exact ⟨by omega, hc2, by rw [e1]; dsimp only; omega, by rw [e1]; dsimp only; omega⟩
            · conv => whnf
              refine g 0 0 [] ?_
              conv => whnf
              refine ⟨⟨I, I⟩, ?_⟩
              refine W.sq ?_
              refine W.cn ?_
              conv => whnf
              refine ⟨fun _ => ?_, noF (by simp [*])⟩
              refine W.skip ?_
              refine W.sq ?_
              refine W.blk ?_
              refine g 27 30 [.x (strT s0)] ?_
              conv => whnf
              refine ⟨⟨⟨(by omega), ixl (by assumption)⟩, I, I, I⟩, ?_⟩
              refine g 30 35 [.call (tupE (some e)) ([[]])] ?_
              conv => whnf
              refine ⟨⟨I, ⟨⟨I, I⟩, I, ⟨⟨I, I⟩, I⟩, ⟨I, I⟩, (by assumption)⟩, I, I, I, I, ⟨I, I, I, I, I⟩, I, I⟩, ?_⟩
              refine W.sq ?_
              refine g 8 9 [] ?_
              conv => whnf
              refine ⟨⟨I, I, I⟩, ?_⟩
              refine W.cn ?_
              conv => whnf
              refine ⟨noT (rfl), fun _ => ?_⟩
              refine W.skip ?_
              refine W.sq ?_
              refine g 35 40 [] ?_
              conv => whnf
              refine ⟨⟨I, I, I, I⟩, ?_⟩
              refine W.cn ?_
              conv => whnf
              refine ⟨fun _ => ?_, noF (decide_eq_true (by omega))⟩
              refine W.sq ?_
              refine g 40 45 [.i (Tale.epoch (taleAt (Plan.tasks p) xs n) + (1 : Int))] ?_
              conv => whnf
              refine ⟨⟨I, I, I, w64 (by omega) (by omega), I, I⟩, ?_⟩
              refine W.cn ?_
              conv => whnf
              refine ⟨fun _ => ?_, noF (notT (by omega))⟩
              refine g 45 47 [] ?_
              conv => whnf
              refine ⟨⟨I, ⟨I, I, I, I⟩, I⟩, ?_⟩
              refine W.ret ?_
              refine EndsW.rt ?_
              conv => whnf
              refine ⟨⟨I, I, I, I, I⟩, ?_, rfl⟩
              rw [replay_no h hl3 hc hs (step_ep_no hr hk he)]; rfl
          · by_cases heq : e.epoch = (taleAt p.tasks xs n).epoch
            · by_cases hlt : e.task < p.tasks.length
              · obtain ⟨t, ht⟩ := some_at (xs := p.tasks) (n := e.task.toNat) (by omega)
                obtain ⟨y, hy⟩ := some_at (xs := (taleAt p.tasks xs n).results) (n := e.task.toNat) (by omega)
                by_cases hye : y = emp
                · obtain ⟨_, _, a3, a4⟩ := chk_task h ht
                  have cd := c_impl_ready (taleAt p.tasks xs n).results t.deps (fun d hd => by have := a4 d hd; omega) (by omega)
                  by_cases hrd : readyB (taleAt p.tasks xs n).results t.deps
                  · rw [decide_eq_true hrd] at cd
                    obtain ⟨hc2, e1⟩ := tale_step hc hs (step_res hr hk heq hlt hy hye ht hrd)
                    conv => whnf
                    refine g 0 0 [] ?_
                    conv => whnf
                    refine ⟨⟨I, I⟩, ?_⟩
                    refine W.sq ?_
                    refine W.cn ?_
                    conv => whnf
                    refine ⟨fun _ => ?_, noF (by simp [*])⟩
                    refine W.skip ?_
                    refine W.sq ?_
                    refine W.blk ?_
                    refine g 27 30 [.x (strT s0)] ?_
                    conv => whnf
                    refine ⟨⟨⟨(by omega), ixl (by assumption)⟩, I, I, I⟩, ?_⟩
                    refine g 30 35 [.call (tupE (some e)) ([[]])] ?_
                    conv => whnf
                    refine ⟨⟨I, ⟨⟨I, I⟩, I, ⟨⟨I, I⟩, I⟩, ⟨I, I⟩, (by assumption)⟩, I, I, I, I, ⟨I, I, I, I, I⟩, I, I⟩, ?_⟩
                    refine W.sq ?_
                    refine g 8 9 [] ?_
                    conv => whnf
                    refine ⟨⟨I, I, I⟩, ?_⟩
                    refine W.cn ?_
                    conv => whnf
                    refine ⟨noT (rfl), fun _ => ?_⟩
                    refine W.skip ?_
                    refine W.sq ?_
                    refine g 35 40 [] ?_
                    conv => whnf
                    refine ⟨⟨I, I, I, I⟩, ?_⟩
                    refine W.cn ?_
                    conv => whnf
                    refine ⟨noT (decide_eq_false (by omega)), fun _ => ?_⟩
                    refine W.skip ?_
                    refine W.sq ?_
                    refine g 63 80 [.b (false), .b (false), .b (false), .b (false), .b (false), .b (false), .b (false), .b (false), .b (false), .b (false), .b (false), .n (Int.toNat (Entry.task e)), .b (false), .x (strT y), .b (false), .b (false), .b (false), .b (false), .b (false), .b (false), .b (false), .b (false), .x (taskT t), .b (false), .b (false), .b (false), .call (V.b true) ([[], []]), .b (false), .b (false)] ?_
                    conv => whnf
                    refine ⟨⟨I, I, I, I, I, ⟨notF (by omega), I⟩, ⟨notF (by omega), I⟩, ⟨notF (by omega), I⟩, ⟨notF (by omega), I⟩, ⟨notF (by omega), I⟩, ⟨notF (by omega), I⟩, notF (by omega), I, ⟨(by simp [*]), I⟩, ⟨(by simp [*]), I⟩, ⟨(by simp [*]), I⟩, ⟨(by simp [*]), (by omega), (by simp only [List.length_map, List.length_append, List.length_set, List.length_replicate, List.length_cons, List.length_nil, List.length_take, List.length_drop, fill_len, fillI_len, List.length_range, bytesT_len]; omega)⟩, ⟨(by simp [*]), ixl (by assumption)⟩, ⟨(by simp [*]), I⟩, (by simp [*]), I, ⟨notF (by omega), I⟩, ⟨notF (by omega), I⟩, ⟨notF (by omega), I⟩, ⟨notF (by omega), I⟩, ⟨notF (by omega), I⟩, ⟨notF (by omega), (by assumption), ixl (by assumption)⟩, ⟨notF (by omega), I⟩, ⟨notF (by omega), I⟩, ⟨notF (by omega), ⟨I, I, I⟩, I, ⟨⟨I, I⟩, ⟨I, I⟩, I⟩, ⟨I, I⟩, (by assumption)⟩, ⟨notF (by omega), I⟩, notF (by omega), I⟩, ?_⟩
                    refine W.cn ?_
                    conv => whnf
                    refine ⟨noT (rfl), fun _ => ?_⟩
                    refine W.skip ?_
                    refine rg [.n (Int.toNat (Entry.task e)), .x (strT y)] ?_
                    conv => whnf
                    refine ⟨⟨I, I, I, I, I, ⟨(by omega), (by simp only [List.length_map, List.length_append, List.length_set, List.length_replicate, List.length_cons, List.length_nil, List.length_take, List.length_drop, fill_len, fillI_len, List.length_range, bytesT_len]; omega)⟩, ⟨⟨I, I⟩, ixl (by assumption)⟩, I⟩, ?_⟩
                    refine rg [.i ((↑n : Int) + (1 : Int))] ?_
                    conv => whnf
                    refine ⟨⟨w64 (by omega) (by omega), I, I⟩, ?_⟩
                    refine ⟨n + 1, [some 2, some 4, some 23], [], ⟨rfl, ⟨⟨_, rfl, _, _, rfl, rfl, rfl⟩, rfl, rfl, rfl, (congrArg (fun z => V.t (T.v (Value.int _ z))) (by rw [e1])), rfl, rfl, rfl, rfl, rfl, rfl, I⟩, ⟨⟨rfl, ⟨rfl, I⟩⟩, ⟨⟨rfl, ⟨rfl, ⟨rfl, ⟨rfl, I⟩⟩⟩⟩, ⟨⟨rfl, ⟨(congrArg (V.own _) (by rw [e1, List.map_set]; rfl)), I⟩⟩, I⟩⟩⟩, I⟩, ?_, ?_⟩
                    rotate_left 1
                    (dsimp only; omega)
                    dsimp only
                    exact ⟨by omega, hc2, by rw [e1]; dsimp only; omega, by rw [e1]; dsimp only; omega⟩
                  · rw [decide_eq_false hrd] at cd
                    conv => whnf
                    refine g 0 0 [] ?_
                    conv => whnf
                    refine ⟨⟨I, I⟩, ?_⟩
                    refine W.sq ?_
                    refine W.cn ?_
                    conv => whnf
                    refine ⟨fun _ => ?_, noF (by simp [*])⟩
                    refine W.skip ?_
                    refine W.sq ?_
                    refine W.blk ?_
                    refine g 27 30 [.x (strT s0)] ?_
                    conv => whnf
                    refine ⟨⟨⟨(by omega), ixl (by assumption)⟩, I, I, I⟩, ?_⟩
                    refine g 30 35 [.call (tupE (some e)) ([[]])] ?_
                    conv => whnf
                    refine ⟨⟨I, ⟨⟨I, I⟩, I, ⟨⟨I, I⟩, I⟩, ⟨I, I⟩, (by assumption)⟩, I, I, I, I, ⟨I, I, I, I, I⟩, I, I⟩, ?_⟩
                    refine W.sq ?_
                    refine g 8 9 [] ?_
                    conv => whnf
                    refine ⟨⟨I, I, I⟩, ?_⟩
                    refine W.cn ?_
                    conv => whnf
                    refine ⟨noT (rfl), fun _ => ?_⟩
                    refine W.skip ?_
                    refine W.sq ?_
                    refine g 35 40 [] ?_
                    conv => whnf
                    refine ⟨⟨I, I, I, I⟩, ?_⟩
                    refine W.cn ?_
                    conv => whnf
                    refine ⟨noT (decide_eq_false (by omega)), fun _ => ?_⟩
                    refine W.skip ?_
                    refine W.sq ?_
                    refine g 63 80 [.b (false), .b (false), .b (false), .b (false), .b (false), .b (false), .b (false), .b (false), .b (false), .b (false), .b (false), .n (Int.toNat (Entry.task e)), .b (false), .x (strT y), .b (false), .b (false), .b (false), .b (false), .b (false), .b (false), .b (false), .b (false), .x (taskT t), .b (false), .b (false), .b (false), .call (V.b false) ([[], []]), .b (false), .b (false)] ?_
                    conv => whnf
                    refine ⟨⟨I, I, I, I, I, ⟨notF (by omega), I⟩, ⟨notF (by omega), I⟩, ⟨notF (by omega), I⟩, ⟨notF (by omega), I⟩, ⟨notF (by omega), I⟩, ⟨notF (by omega), I⟩, notF (by omega), I, ⟨(by simp [*]), I⟩, ⟨(by simp [*]), I⟩, ⟨(by simp [*]), I⟩, ⟨(by simp [*]), (by omega), (by simp only [List.length_map, List.length_append, List.length_set, List.length_replicate, List.length_cons, List.length_nil, List.length_take, List.length_drop, fill_len, fillI_len, List.length_range, bytesT_len]; omega)⟩, ⟨(by simp [*]), ixl (by assumption)⟩, ⟨(by simp [*]), I⟩, (by simp [*]), I, ⟨notF (by omega), I⟩, ⟨notF (by omega), I⟩, ⟨notF (by omega), I⟩, ⟨notF (by omega), I⟩, ⟨notF (by omega), I⟩, ⟨notF (by omega), (by assumption), ixl (by assumption)⟩, ⟨notF (by omega), I⟩, ⟨notF (by omega), I⟩, ⟨notF (by omega), ⟨I, I, I⟩, I, ⟨⟨I, I⟩, ⟨I, I⟩, I⟩, ⟨I, I⟩, (by assumption)⟩, ⟨notF (by omega), I⟩, notF (by omega), I⟩, ?_⟩
                    refine W.cn ?_
                    conv => whnf
                    refine ⟨fun _ => ?_, noF (rfl)⟩
                    refine g 40 62 [] ?_
                    conv => whnf
                    refine ⟨⟨I, ⟨I, I, I, I⟩, I⟩, ?_⟩
                    refine W.ret ?_
                    refine EndsW.rt ?_
                    conv => whnf
                    refine ⟨⟨I, I, I, I, I⟩, ?_, rfl⟩
                    rw [replay_no h hl3 hc hs (step_no3 hr hk ht hrd)]; rfl
                · conv => whnf
                  refine g 0 0 [] ?_
                  conv => whnf
                  refine ⟨⟨I, I⟩, ?_⟩
                  refine W.sq ?_
                  refine W.cn ?_
                  conv => whnf
                  refine ⟨fun _ => ?_, noF (by simp [*])⟩
                  refine W.skip ?_
                  refine W.sq ?_
                  refine W.blk ?_
                  refine g 27 30 [.x (strT s0)] ?_
                  conv => whnf
                  refine ⟨⟨⟨(by omega), ixl (by assumption)⟩, I, I, I⟩, ?_⟩
                  refine g 30 35 [.call (tupE (some e)) ([[]])] ?_
                  conv => whnf
                  refine ⟨⟨I, ⟨⟨I, I⟩, I, ⟨⟨I, I⟩, I⟩, ⟨I, I⟩, (by assumption)⟩, I, I, I, I, ⟨I, I, I, I, I⟩, I, I⟩, ?_⟩
                  refine W.sq ?_
                  refine g 8 9 [] ?_
                  conv => whnf
                  refine ⟨⟨I, I, I⟩, ?_⟩
                  refine W.cn ?_
                  conv => whnf
                  refine ⟨noT (rfl), fun _ => ?_⟩
                  refine W.skip ?_
                  refine W.sq ?_
                  refine g 35 40 [] ?_
                  conv => whnf
                  refine ⟨⟨I, I, I, I⟩, ?_⟩
                  refine W.cn ?_
                  conv => whnf
                  refine ⟨noT (decide_eq_false (by omega)), fun _ => ?_⟩
                  refine W.skip ?_
                  refine W.sq ?_
                  refine g 63 80 [.b (false), .b (false), .b (false), .b (false), .b (false), .b (false), .b (false), .b (false), .b (false), .b (false), .b (false), .n (Int.toNat (Entry.task e)), .b (false), .x (strT y), .b (false), .b (false), .b (true), .b (true), .b (true), .b (true), .b (true), .b (true), .b (true), .b (true), .b (true), .b (true), .b (true)] ?_
                  conv => whnf
                  refine ⟨⟨I, I, I, I, I, ⟨notF (by omega), I⟩, ⟨notF (by omega), I⟩, ⟨notF (by omega), I⟩, ⟨notF (by omega), I⟩, ⟨notF (by omega), I⟩, ⟨notF (by omega), I⟩, notF (by omega), I, ⟨(by simp [*]), I⟩, ⟨(by simp [*]), I⟩, ⟨(by simp [*]), I⟩, ⟨(by simp [*]), (by omega), (by simp only [List.length_map, List.length_append, List.length_set, List.length_replicate, List.length_cons, List.length_nil, List.length_take, List.length_drop, fill_len, fillI_len, List.length_range, bytesT_len]; omega)⟩, ⟨(by simp [*]), ixl (by assumption)⟩, ⟨(by simp [*]), I⟩, (by simp [*]), I, notT (by omega), notT (by omega), notT (by omega), notT (by omega), notT (by omega), notT (by omega), notT (by omega), notT (by omega), notT (by omega), notT (by omega), notT (by omega), I⟩, ?_⟩
                  refine W.cn ?_
                  conv => whnf
                  refine ⟨fun _ => ?_, noF (rfl)⟩
                  refine g 40 62 [] ?_
                  conv => whnf
                  refine ⟨⟨I, ⟨I, I, I, I⟩, I⟩, ?_⟩
                  refine W.ret ?_
                  refine EndsW.rt ?_
                  conv => whnf
                  refine ⟨⟨I, I, I, I, I⟩, ?_, rfl⟩
                  rw [replay_no h hl3 hc hs (step_no2 hr hk hy hye)]; rfl
              · conv => whnf
                refine g 0 0 [] ?_
                conv => whnf
                refine ⟨⟨I, I⟩, ?_⟩
                refine W.sq ?_
                refine W.cn ?_
                conv => whnf
                refine ⟨fun _ => ?_, noF (by simp [*])⟩
                refine W.skip ?_
                refine W.sq ?_
                refine W.blk ?_
                refine g 27 30 [.x (strT s0)] ?_
                conv => whnf
                refine ⟨⟨⟨(by omega), ixl (by assumption)⟩, I, I, I⟩, ?_⟩
                refine g 30 35 [.call (tupE (some e)) ([[]])] ?_
                conv => whnf
                refine ⟨⟨I, ⟨⟨I, I⟩, I, ⟨⟨I, I⟩, I⟩, ⟨I, I⟩, (by assumption)⟩, I, I, I, I, ⟨I, I, I, I, I⟩, I, I⟩, ?_⟩
                refine W.sq ?_
                refine g 8 9 [] ?_
                conv => whnf
                refine ⟨⟨I, I, I⟩, ?_⟩
                refine W.cn ?_
                conv => whnf
                refine ⟨noT (rfl), fun _ => ?_⟩
                refine W.skip ?_
                refine W.sq ?_
                refine g 35 40 [] ?_
                conv => whnf
                refine ⟨⟨I, I, I, I⟩, ?_⟩
                refine W.cn ?_
                conv => whnf
                refine ⟨noT (decide_eq_false (by omega)), fun _ => ?_⟩
                refine W.skip ?_
                refine W.sq ?_
                refine g 63 80 [.b (false), .b (false), .b (false), .b (false), .b (false), .b (false), .b (false), .b (true), .b (true), .b (true), .b (true), .b (true), .b (true), .b (true), .b (true), .b (true), .b (true), .b (true), .b (true), .b (true), .b (true), .b (true), .b (true), .b (true), .b (true)] ?_
                conv => whnf
                refine ⟨⟨I, I, I, I, I, ⟨notF (by omega), I⟩, ⟨notF (by omega), I⟩, ⟨notF (by omega), I⟩, ⟨notF (by omega), I⟩, ⟨notF (by omega), I⟩, ⟨notF (by omega), I⟩, notF (by omega), I, (by simp_all), (by simp_all), (by simp_all), (by simp_all), (by simp_all), (by simp_all), (by simp_all), I, rfl, rfl, rfl, rfl, rfl, rfl, rfl, rfl, rfl, rfl, rfl, I⟩, ?_⟩
                refine W.cn ?_
                conv => whnf
                refine ⟨fun _ => ?_, noF (rfl)⟩
                refine g 40 62 [] ?_
                conv => whnf
                refine ⟨⟨I, ⟨I, I, I, I⟩, I⟩, ?_⟩
                refine W.ret ?_
                refine EndsW.rt ?_
                conv => whnf
                refine ⟨⟨I, I, I, I, I⟩, ?_, rfl⟩
                rw [replay_no h hl3 hc hs (step_no1 hr hk (fun q => hlt q.2))]; rfl
            · conv => whnf
              refine g 0 0 [] ?_
              conv => whnf
              refine ⟨⟨I, I⟩, ?_⟩
              refine W.sq ?_
              refine W.cn ?_
              conv => whnf
              refine ⟨fun _ => ?_, noF (by simp [*])⟩
              refine W.skip ?_
              refine W.sq ?_
              refine W.blk ?_
              refine g 27 30 [.x (strT s0)] ?_
              conv => whnf
              refine ⟨⟨⟨(by omega), ixl (by assumption)⟩, I, I, I⟩, ?_⟩
              refine g 30 35 [.call (tupE (some e)) ([[]])] ?_
              conv => whnf
              refine ⟨⟨I, ⟨⟨I, I⟩, I, ⟨⟨I, I⟩, I⟩, ⟨I, I⟩, (by assumption)⟩, I, I, I, I, ⟨I, I, I, I, I⟩, I, I⟩, ?_⟩
              refine W.sq ?_
              refine g 8 9 [] ?_
              conv => whnf
              refine ⟨⟨I, I, I⟩, ?_⟩
              refine W.cn ?_
              conv => whnf
              refine ⟨noT (rfl), fun _ => ?_⟩
              refine W.skip ?_
              refine W.sq ?_
              refine g 35 40 [] ?_
              conv => whnf
              refine ⟨⟨I, I, I, I⟩, ?_⟩
              refine W.cn ?_
              conv => whnf
              refine ⟨noT (decide_eq_false (by omega)), fun _ => ?_⟩
              refine W.skip ?_
              refine W.sq ?_
              refine g 63 80 [.b (true), .b (true), .b (true), .b (true), .b (true), .b (true), .b (true), .b (true), .b (true), .b (true), .b (true), .b (true), .b (true), .b (true), .b (true), .b (true), .b (true), .b (true), .b (true), .b (true), .b (true), .b (true), .b (true), .b (true), .b (true)] ?_
              conv => whnf
              refine ⟨⟨I, I, I, I, I, notT (by omega), notT (by omega), notT (by omega), notT (by omega), notT (by omega), notT (by omega), notT (by omega), I, rfl, rfl, rfl, rfl, rfl, rfl, rfl, I, rfl, rfl, rfl, rfl, rfl, rfl, rfl, rfl, rfl, rfl, rfl, I⟩, ?_⟩
              refine W.cn ?_
              conv => whnf
              refine ⟨fun _ => ?_, noF (rfl)⟩
              refine g 40 62 [] ?_
              conv => whnf
              refine ⟨⟨I, ⟨I, I, I, I⟩, I⟩, ?_⟩
              refine W.ret ?_
              refine EndsW.rt ?_
              conv => whnf
              refine ⟨⟨I, I, I, I, I⟩, ?_, rfl⟩
              rw [replay_no h hl3 hc hs (step_no1 hr hk (fun q => heq q.1))]; rfl
      · conv => whnf
        refine g 0 0 [] ?_
        conv => whnf
        refine ⟨⟨I, I⟩, ?_⟩
        refine W.sq ?_
        refine W.cn ?_
        conv => whnf
        refine ⟨noT (by simp [*]), fun _ => ?_⟩
        refine W.exit ?_
        refine g 5 92 [] ?_
        conv => whnf
        refine ⟨⟨I, I, I, ⟨I, I, I, I⟩, I⟩, ?_⟩
        refine W.ret ?_
        refine EndsW.rt ?_
        conv => whnf
        refine ⟨⟨I, I, I, I, I⟩, ?_, rfl⟩
        rw [replay_yes h hl3 hc (by omega)]
    · refine i_impl_Replay ?_
      conv => whnf
      refine g 0 0 [] ?_
      conv => whnf
      refine ⟨⟨⟨I, I⟩, I, I⟩, ?_⟩
      refine W.sq ?_
      refine g 13 18 [.call (V.i (0 : Int)) ([[]]), .b (false), .b (false), .b (false), .b (false)] ?_
      conv => whnf
      refine ⟨⟨I, ⟨⟨I, I⟩, I, ⟨⟨I, I⟩, I⟩, ⟨I, I⟩, (by assumption)⟩, I, I, ⟨rfl, I⟩, ⟨rfl, I⟩, ⟨rfl, I⟩, rfl, I⟩, ?_⟩
      refine W.cn ?_
      conv => whnf
      refine ⟨fun h1 => ?_, fun h1 => ?_⟩
      replace h1 := dt h1
      simp only [List.length_map] at h1
      refine g 18 20 [] ?_
      conv => whnf
      refine ⟨⟨I, ⟨I, I, I, I⟩, I⟩, ?_⟩
      refine W.ret ?_
      refine EndsW.rt ?_
      conv => whnf
      refine ⟨⟨I, I, I, I, I⟩, ?_, rfl⟩
      rotate_left 1
      replace h1 := df h1
      simp only [List.length_map] at h1
      omega
      rw [replay_bad (fun q => hl3 q.2)]; rfl
  · refine i_impl_Replay ?_
    conv => whnf
    refine g 0 0 [] ?_
    conv => whnf
    refine ⟨⟨⟨I, I⟩, I, I⟩, ?_⟩
    refine W.sq ?_
    refine g 13 18 [.call (V.i (checkPlan (Plan.tasks p))) ([[]]), .b (true), .b (true), .b (true), .b (true)] ?_
    conv => whnf
    refine ⟨⟨I, ⟨⟨I, I⟩, I, ⟨⟨I, I⟩, I⟩, ⟨I, I⟩, (by assumption)⟩, I, I, notT (by omega), notT (by omega), notT (by omega), notT (by omega), I⟩, ?_⟩
    refine W.cn ?_
    conv => whnf
    refine ⟨fun _ => ?_, noF (rfl)⟩
    refine g 18 20 [] ?_
    conv => whnf
    refine ⟨⟨I, ⟨I, I, I, I⟩, I⟩, ?_⟩
    refine W.ret ?_
    refine EndsW.rt ?_
    conv => whnf
    refine ⟨⟨I, I, I, I, I⟩, ?_, rfl⟩
    rw [replay_bad (fun q => h q.1)]; rfl
theorem c_spec_Replay (p : Plan) (xs : List ByteArray) (hp : planWf p) (hx : ∀ s ∈ xs, s.size ≤ 281474976710656) (hl : xs.length ≤ 9223372036854775806) : F n_spec_Replay [.val (planR p), .val (.t (strs xs))] (storyO (replayP p xs)) [[], []] := by
  have c1 := c_spec_CheckPlan p hp
  by_cases h : checkPlan p.tasks = 0
  · obtain ⟨⟨hl1, hl2⟩, _⟩ := chk_inv h
    rw [h] at c1
    by_cases hl3 : xs.length ≤ 310
    · refine i_spec_Replay ?_
      conv => whnf
      refine g 0 0 [] ?_
      conv => whnf
      refine ⟨⟨⟨I, I⟩, I, I⟩, ?_⟩
      refine W.sq ?_
      refine g 10 13 [.call (V.i (0 : Int)) ([[]]), .b (false), .b (false), .b (false), .b (false)] ?_
      conv => whnf
      refine ⟨⟨I, ⟨⟨I, I⟩, I, ⟨⟨I, I⟩, I⟩, ⟨I, I⟩, (by assumption)⟩, I, I, ⟨rfl, I⟩, ⟨rfl, I⟩, ⟨rfl, I⟩, rfl, I⟩, ?_⟩
      refine W.cn ?_
      conv => whnf
      refine ⟨fun h1 => ?_, fun h1 => ?_⟩
      replace h1 := dt h1
      simp only [List.length_map] at h1
      omega
      replace h1 := df h1
      simp only [List.length_map] at h1
      refine W.skip ?_
      refine g 14 20 [] ?_
      conv => whnf
      refine ⟨⟨I, I, ⟨I, I, I, I⟩, I⟩, ?_⟩
      refine W.sq ?_
      refine g 0 0 [] ?_
      conv => whnf
      refine ⟨⟨I, I⟩, ?_⟩
      refine W.blk ?_
      refine W.lp (fun s (n : Nat) => ⟨[(0, s.s 0), (1, s.s 1), (2, s.s 2), (4, s.s 4), (5, s.s 5), (6, .i n), (13, s.s 13)], [(2, [s.c 2 0]), (4, [s.c 4 0, s.c 4 1, s.c 4 2]), (5, [.t (.i 0), .t (.i 0), .own [false] ((List.replicate n emp).map strT)])], []⟩) (fun (n : Nat) => n ≤ p.tasks.length) (fun (n : Nat) => p.tasks.length - n) (0) [some 2, some 4, some 5] [] ⟨rfl, ⟨⟨_, rfl, _, _, rfl, rfl, rfl⟩, rfl, rfl, rfl, rfl, rfl, rfl, I⟩, ⟨⟨rfl, ⟨rfl, I⟩⟩, ⟨⟨rfl, ⟨rfl, ⟨rfl, ⟨rfl, I⟩⟩⟩⟩, ⟨⟨rfl, ⟨rfl, ⟨rfl, ⟨rfl, I⟩⟩⟩⟩, I⟩⟩⟩, I⟩ (by omega) ?_
      intro n hn
      conv => whnf
      refine W.sq ?_
      refine g 20 22 [] ?_
      conv => whnf
      refine ⟨⟨I, I, I, I, I, I⟩, ?_⟩
      refine W.cn ?_
      conv => whnf
      refine ⟨fun h2 => ?_, fun h2 => ?_⟩
      replace h2 := dt h2
      simp only [List.length_map] at h2
      refine W.skip ?_
      refine W.sq ?_
      refine W.blk ?_
      refine rg [] ?_
      conv => whnf
      refine ⟨⟨I, I, ⟨⟨I, I⟩, I⟩, ⟨I, I, (by simp only [List.length_map, List.length_append, List.length_set, List.length_replicate, List.length_cons, List.length_nil, List.length_take, List.length_drop, fill_len, fillI_len, List.length_range, bytesT_len]; omega)⟩, I, ⟨I, I⟩, I⟩, ?_⟩
      refine rg [.i ((↑n : Int) + (1 : Int))] ?_
      conv => whnf
      refine ⟨⟨I, w64 (by omega) (by omega), I, I⟩, ?_⟩
      rotate_left 1
      replace h2 := df h2
      simp only [List.length_map] at h2
      refine W.exit ?_
      refine W.sq ?_
      refine g 23 25 [] ?_
      conv => whnf
      refine ⟨⟨I, I⟩, ?_⟩
      refine W.blk ?_
      rotate_left 1
      · refine ⟨n + 1, [some 2, some 4, some 5], [], ⟨rfl, ⟨⟨_, rfl, _, _, rfl, rfl, rfl⟩, rfl, rfl, rfl, rfl, rfl, rfl, I⟩, ⟨⟨rfl, ⟨rfl, I⟩⟩, ⟨⟨rfl, ⟨rfl, ⟨rfl, ⟨rfl, I⟩⟩⟩⟩, ⟨⟨rfl, ⟨rfl, ⟨rfl, ⟨(congrArg (V.own _) (by rw [List.replicate_succ', List.map_append]; rfl)), I⟩⟩⟩⟩, I⟩⟩⟩, I⟩, ?_, ?_⟩
        rotate_left 1
        (dsimp only; omega)
        dsimp only
        omega
      rw [show n = p.tasks.length by omega]
      refine W.lp (fun s (n : Nat) => ⟨[(0, s.s 0), (1, s.s 1), (2, s.s 2), (4, s.s 4), (5, s.s 5), (7, .i n), (13, s.s 13), (22, s.s 22)], [(2, [s.c 2 0]), (4, [s.c 4 0, s.c 4 1, s.c 4 2]), (5, [.t (.i 0), .t (.i (taleAt p.tasks xs n).epoch), .own [false] ((taleAt p.tasks xs n).results.map strT)])], []⟩) (fun (n : Nat) => n ≤ xs.length ∧ taleOk p.tasks xs n ∧ 0 ≤ (taleAt p.tasks xs n).epoch ∧ (taleAt p.tasks xs n).epoch ≤ 300) (fun (n : Nat) => xs.length - n) (0) [some 2, some 4, some 5] [] ⟨rfl, ⟨⟨_, rfl, _, _, rfl, rfl, rfl⟩, rfl, rfl, rfl, rfl, rfl, rfl, rfl, I⟩, ⟨⟨rfl, ⟨rfl, I⟩⟩, ⟨⟨rfl, ⟨rfl, ⟨rfl, ⟨rfl, I⟩⟩⟩⟩, ⟨⟨rfl, ⟨rfl, ⟨rfl, ⟨rfl, I⟩⟩⟩⟩, I⟩⟩⟩, I⟩ ?_ ?_
      · rw [taleAt_zero]; exact ⟨Nat.zero_le _, taleOk_zero _ _, Int.le_refl _, by show (0 : Int) ≤ 300; omega⟩
      rintro n ⟨hn, hc, he0, he1⟩
      have hrl := tale_len hc
      by_cases hn2 : n < xs.length
      · obtain ⟨s0, hs⟩ := some_at hn2
        have hss := hx s0 (List.mem_of_getElem? hs)
        have cr := c_spec_ReadEntry s0 hss
        cases hr : readS s0 with
        | none =>
          rw [hr] at cr
          conv => whnf
          refine W.sq ?_
          refine g 32 35 [] ?_
          conv => whnf
          refine ⟨⟨I, I, I, I, I⟩, ?_⟩
          refine W.cn ?_
          conv => whnf
          refine ⟨fun _ => ?_, noF (by simp [*])⟩
          refine W.skip ?_
          refine W.sq ?_
          refine W.blk ?_
          refine g 35 46 [.x (strT s0), .call (tupE none) ([[]])] ?_
          conv => whnf
          refine ⟨⟨I, I, ⟨(by omega), ixl (by assumption)⟩, I, ⟨⟨I, I⟩, I, ⟨⟨I, I⟩, I⟩, ⟨I, I⟩, (by assumption)⟩, I, I, I, I, ⟨I, I, I, I, I⟩, I, I⟩, ?_⟩
          refine W.sq ?_
          refine g 9 10 [] ?_
          conv => whnf
          refine ⟨⟨I, I, I⟩, ?_⟩
          refine W.cn ?_
          conv => whnf
          refine ⟨fun _ => ?_, noF (rfl)⟩
          refine g 46 49 [] ?_
          conv => whnf
          refine ⟨⟨I, ⟨I, I, I, I⟩, I⟩, ?_⟩
          refine W.ret ?_
          refine EndsW.rt ?_
          conv => whnf
          refine ⟨⟨I, I, I, I, I⟩, ?_, rfl⟩
          rw [replay_no h hl3 hc hs (step_none hr)]; rfl
        | some e =>
          rw [hr] at cr
          obtain ⟨r1, r2, r3, r4⟩ := tale_rng (ts := p.tasks) (readS_rng hr)
          by_cases hk : e.kind = 1
          · by_cases he : e.epoch = (taleAt p.tasks xs n).epoch + 1
            · obtain ⟨hc2, e1⟩ := tale_step hc hs (step_ep hr hk he)
              conv => whnf
              refine W.sq ?_
              refine g 32 35 [] ?_
              conv => whnf
              refine ⟨⟨I, I, I, I, I⟩, ?_⟩
              refine W.cn ?_
              conv => whnf
              refine ⟨fun _ => ?_, noF (by simp [*])⟩
              refine W.skip ?_
              refine W.sq ?_
              refine W.blk ?_
              refine g 35 46 [.x (strT s0), .call (tupE (some e)) ([[]])] ?_
              conv => whnf
              refine ⟨⟨I, I, ⟨(by omega), ixl (by assumption)⟩, I, ⟨⟨I, I⟩, I, ⟨⟨I, I⟩, I⟩, ⟨I, I⟩, (by assumption)⟩, I, I, I, I, ⟨I, I, I, I, I⟩, I, I⟩, ?_⟩
              refine W.sq ?_
              refine g 9 10 [] ?_
              conv => whnf
              refine ⟨⟨I, I, I⟩, ?_⟩
              refine W.cn ?_
              conv => whnf
              refine ⟨noT (rfl), fun _ => ?_⟩
              refine W.skip ?_
              refine W.sq ?_
              refine g 46 51 [] ?_
              conv => whnf
              refine ⟨⟨I, I, I, I⟩, ?_⟩
              refine W.cn ?_
              conv => whnf
              refine ⟨fun _ => ?_, noF (decide_eq_true (by omega))⟩
              refine W.sq ?_
              refine g 51 57 [.i (Tale.epoch (taleAt (Plan.tasks p) xs n) + (1 : Int))] ?_
              conv => whnf
              refine ⟨⟨I, I, I, I, w64 (by omega) (by omega), I, I⟩, ?_⟩
              refine W.cn ?_
              conv => whnf
              refine ⟨noT (notF (by omega)), fun _ => ?_⟩
              refine W.skip ?_
              refine g 57 62 [] ?_
              conv => whnf
              refine ⟨⟨I, I, I, ⟨I, I⟩, I⟩, ?_⟩
              refine W.exit ?_
              refine rg [.i ((↑n : Int) + (1 : Int))] ?_
              conv => whnf
              refine ⟨⟨I, w64 (by omega) (by omega), I, I⟩, ?_⟩
              refine ⟨n + 1, [some 2, some 4, some 5], [], ⟨rfl, ⟨⟨_, rfl, _, _, rfl, rfl, rfl⟩, rfl, rfl, rfl, rfl, rfl, rfl, rfl, I⟩, ⟨⟨rfl, ⟨rfl, I⟩⟩, ⟨⟨rfl, ⟨rfl, ⟨rfl, ⟨rfl, I⟩⟩⟩⟩, ⟨⟨rfl, ⟨rfl, ⟨(congrArg (fun z => V.t (T.v (Value.int _ z))) (by rw [e1])), ⟨(congrArg (V.own _) (by rw [e1])), I⟩⟩⟩⟩, I⟩⟩⟩, I⟩, ?_, ?_⟩
              rotate_left 1
              (dsimp only; omega)
              dsimp only
              exact ⟨by omega, hc2, by rw [e1]; dsimp only; omega, by rw [e1]; dsimp only; omega⟩
            · conv => whnf
              refine W.sq ?_
              refine g 32 35 [] ?_
              conv => whnf
              refine ⟨⟨I, I, I, I, I⟩, ?_⟩
              refine W.cn ?_
              conv => whnf
              refine ⟨fun _ => ?_, noF (by simp [*])⟩
              refine W.skip ?_
              refine W.sq ?_
              refine W.blk ?_
              refine g 35 46 [.x (strT s0), .call (tupE (some e)) ([[]])] ?_
              conv => whnf
              refine ⟨⟨I, I, ⟨(by omega), ixl (by assumption)⟩, I, ⟨⟨I, I⟩, I, ⟨⟨I, I⟩, I⟩, ⟨I, I⟩, (by assumption)⟩, I, I, I, I, ⟨I, I, I, I, I⟩, I, I⟩, ?_⟩
              refine W.sq ?_
              refine g 9 10 [] ?_
              conv => whnf
              refine ⟨⟨I, I, I⟩, ?_⟩
              refine W.cn ?_
              conv => whnf
              refine ⟨noT (rfl), fun _ => ?_⟩
              refine W.skip ?_
              refine W.sq ?_
              refine g 46 51 [] ?_
              conv => whnf
              refine ⟨⟨I, I, I, I⟩, ?_⟩
              refine W.cn ?_
              conv => whnf
              refine ⟨fun _ => ?_, noF (decide_eq_true (by omega))⟩
              refine W.sq ?_
              refine g 51 57 [.i (Tale.epoch (taleAt (Plan.tasks p) xs n) + (1 : Int))] ?_
              conv => whnf
              refine ⟨⟨I, I, I, I, w64 (by omega) (by omega), I, I⟩, ?_⟩
              refine W.cn ?_
              conv => whnf
              refine ⟨fun _ => ?_, noF (notT (by omega))⟩
              refine g 57 59 [] ?_
              conv => whnf
              refine ⟨⟨I, ⟨I, I, I, I⟩, I⟩, ?_⟩
              refine W.ret ?_
              refine EndsW.rt ?_
              conv => whnf
              refine ⟨⟨I, I, I, I, I⟩, ?_, rfl⟩
              rw [replay_no h hl3 hc hs (step_ep_no hr hk he)]; rfl
          · by_cases heq : e.epoch = (taleAt p.tasks xs n).epoch
            · by_cases hlt : e.task < p.tasks.length
              · obtain ⟨t, ht⟩ := some_at (xs := p.tasks) (n := e.task.toNat) (by omega)
                obtain ⟨y, hy⟩ := some_at (xs := (taleAt p.tasks xs n).results) (n := e.task.toNat) (by omega)
                by_cases hye : y = emp
                · obtain ⟨_, _, a3, a4⟩ := chk_task h ht
                  have cd := c_spec_l4Deps p (taleAt p.tasks xs n).results e.task r1 ht (fun d hd => by have := a4 d hd; omega) (by omega)
                  by_cases hrd : readyB (taleAt p.tasks xs n).results t.deps
                  · rw [decide_eq_true hrd] at cd
                    obtain ⟨hc2, e1⟩ := tale_step hc hs (step_res hr hk heq hlt hy hye ht hrd)
                    conv => whnf
                    refine W.sq ?_
                    refine g 32 35 [] ?_
                    conv => whnf
                    refine ⟨⟨I, I, I, I, I⟩, ?_⟩
                    refine W.cn ?_
                    conv => whnf
                    refine ⟨fun _ => ?_, noF (by simp [*])⟩
                    refine W.skip ?_
                    refine W.sq ?_
                    refine W.blk ?_
                    refine g 35 46 [.x (strT s0), .call (tupE (some e)) ([[]])] ?_
                    conv => whnf
                    refine ⟨⟨I, I, ⟨(by omega), ixl (by assumption)⟩, I, ⟨⟨I, I⟩, I, ⟨⟨I, I⟩, I⟩, ⟨I, I⟩, (by assumption)⟩, I, I, I, I, ⟨I, I, I, I, I⟩, I, I⟩, ?_⟩
                    refine W.sq ?_
                    refine g 9 10 [] ?_
                    conv => whnf
                    refine ⟨⟨I, I, I⟩, ?_⟩
                    refine W.cn ?_
                    conv => whnf
                    refine ⟨noT (rfl), fun _ => ?_⟩
                    refine W.skip ?_
                    refine W.sq ?_
                    refine g 46 51 [] ?_
                    conv => whnf
                    refine ⟨⟨I, I, I, I⟩, ?_⟩
                    refine W.cn ?_
                    conv => whnf
                    refine ⟨noT (decide_eq_false (by omega)), fun _ => ?_⟩
                    refine W.skip ?_
                    refine W.sq ?_
                    refine g 63 92 [.b (false), .b (false), .b (false), .b (false), .b (false), .b (false), .b (false), .b (false), .b (false), .b (false), .b (false), .b (false), .n (Int.toNat (Entry.task e)), .b (false), .x (strT y), .b (false), .b (false), .b (false), .b (false), .b (false), .b (false), .b (false), .b (false), .call (V.b true) ([[], [], []]), .b (false), .b (false)] ?_
                    conv => whnf
                    refine ⟨⟨I, I, I, I, I, I, ⟨notF (by omega), I⟩, ⟨notF (by omega), I⟩, ⟨notF (by omega), I⟩, ⟨notF (by omega), I⟩, ⟨notF (by omega), I⟩, ⟨notF (by omega), I⟩, notF (by omega), I, ⟨(by simp [*]), I⟩, ⟨(by simp [*]), I⟩, ⟨(by simp [*]), I⟩, ⟨(by simp [*]), I⟩, ⟨(by simp [*]), (by omega), (by simp only [List.length_map, List.length_append, List.length_set, List.length_replicate, List.length_cons, List.length_nil, List.length_take, List.length_drop, fill_len, fillI_len, List.length_range, bytesT_len]; omega)⟩, ⟨(by simp [*]), ixl (by assumption)⟩, ⟨(by simp [*]), I⟩, (by simp [*]), I, ⟨notF (by omega), I⟩, ⟨notF (by omega), I⟩, ⟨notF (by omega), I⟩, ⟨notF (by omega), I⟩, ⟨notF (by omega), I⟩, ⟨notF (by omega), ⟨I, I, I, I⟩, I, ⟨⟨I, I⟩, ⟨I, I⟩, ⟨I, I⟩, I⟩, ⟨I, I⟩, (by assumption)⟩, ⟨notF (by omega), I⟩, notF (by omega), I⟩, ?_⟩
                    refine W.cn ?_
                    conv => whnf
                    refine ⟨noT (rfl), fun _ => ?_⟩
                    refine W.skip ?_
                    refine rg [.n (Int.toNat (Entry.task e)), .x (strT y)] ?_
                    conv => whnf
                    refine ⟨⟨I, I, I, I, I, I, ⟨(by omega), (by simp only [List.length_map, List.length_append, List.length_set, List.length_replicate, List.length_cons, List.length_nil, List.length_take, List.length_drop, fill_len, fillI_len, List.length_range, bytesT_len]; omega)⟩, ⟨⟨I, I⟩, ixl (by assumption)⟩, I⟩, ?_⟩
                    refine rg [.i ((↑n : Int) + (1 : Int))] ?_
                    conv => whnf
                    refine ⟨⟨I, w64 (by omega) (by omega), I, I⟩, ?_⟩
                    refine ⟨n + 1, [some 2, some 4, some 5], [], ⟨rfl, ⟨⟨_, rfl, _, _, rfl, rfl, rfl⟩, rfl, rfl, rfl, rfl, rfl, rfl, rfl, I⟩, ⟨⟨rfl, ⟨rfl, I⟩⟩, ⟨⟨rfl, ⟨rfl, ⟨rfl, ⟨rfl, I⟩⟩⟩⟩, ⟨⟨rfl, ⟨rfl, ⟨(congrArg (fun z => V.t (T.v (Value.int _ z))) (by rw [e1])), ⟨(congrArg (V.own _) (by rw [e1, List.map_set]; rfl)), I⟩⟩⟩⟩, I⟩⟩⟩, I⟩, ?_, ?_⟩
                    rotate_left 1
                    (dsimp only; omega)
                    dsimp only
                    exact ⟨by omega, hc2, by rw [e1]; dsimp only; omega, by rw [e1]; dsimp only; omega⟩
                  · rw [decide_eq_false hrd] at cd
                    conv => whnf
                    refine W.sq ?_
                    refine g 32 35 [] ?_
                    conv => whnf
                    refine ⟨⟨I, I, I, I, I⟩, ?_⟩
                    refine W.cn ?_
                    conv => whnf
                    refine ⟨fun _ => ?_, noF (by simp [*])⟩
                    refine W.skip ?_
                    refine W.sq ?_
                    refine W.blk ?_
                    refine g 35 46 [.x (strT s0), .call (tupE (some e)) ([[]])] ?_
                    conv => whnf
                    refine ⟨⟨I, I, ⟨(by omega), ixl (by assumption)⟩, I, ⟨⟨I, I⟩, I, ⟨⟨I, I⟩, I⟩, ⟨I, I⟩, (by assumption)⟩, I, I, I, I, ⟨I, I, I, I, I⟩, I, I⟩, ?_⟩
                    refine W.sq ?_
                    refine g 9 10 [] ?_
                    conv => whnf
                    refine ⟨⟨I, I, I⟩, ?_⟩
                    refine W.cn ?_
                    conv => whnf
                    refine ⟨noT (rfl), fun _ => ?_⟩
                    refine W.skip ?_
                    refine W.sq ?_
                    refine g 46 51 [] ?_
                    conv => whnf
                    refine ⟨⟨I, I, I, I⟩, ?_⟩
                    refine W.cn ?_
                    conv => whnf
                    refine ⟨noT (decide_eq_false (by omega)), fun _ => ?_⟩
                    refine W.skip ?_
                    refine W.sq ?_
                    refine g 63 92 [.b (false), .b (false), .b (false), .b (false), .b (false), .b (false), .b (false), .b (false), .b (false), .b (false), .b (false), .b (false), .n (Int.toNat (Entry.task e)), .b (false), .x (strT y), .b (false), .b (false), .b (false), .b (false), .b (false), .b (false), .b (false), .b (false), .call (V.b false) ([[], [], []]), .b (false), .b (false)] ?_
                    conv => whnf
                    refine ⟨⟨I, I, I, I, I, I, ⟨notF (by omega), I⟩, ⟨notF (by omega), I⟩, ⟨notF (by omega), I⟩, ⟨notF (by omega), I⟩, ⟨notF (by omega), I⟩, ⟨notF (by omega), I⟩, notF (by omega), I, ⟨(by simp [*]), I⟩, ⟨(by simp [*]), I⟩, ⟨(by simp [*]), I⟩, ⟨(by simp [*]), I⟩, ⟨(by simp [*]), (by omega), (by simp only [List.length_map, List.length_append, List.length_set, List.length_replicate, List.length_cons, List.length_nil, List.length_take, List.length_drop, fill_len, fillI_len, List.length_range, bytesT_len]; omega)⟩, ⟨(by simp [*]), ixl (by assumption)⟩, ⟨(by simp [*]), I⟩, (by simp [*]), I, ⟨notF (by omega), I⟩, ⟨notF (by omega), I⟩, ⟨notF (by omega), I⟩, ⟨notF (by omega), I⟩, ⟨notF (by omega), I⟩, ⟨notF (by omega), ⟨I, I, I, I⟩, I, ⟨⟨I, I⟩, ⟨I, I⟩, ⟨I, I⟩, I⟩, ⟨I, I⟩, (by assumption)⟩, ⟨notF (by omega), I⟩, notF (by omega), I⟩, ?_⟩
                    refine W.cn ?_
                    conv => whnf
                    refine ⟨fun _ => ?_, noF (rfl)⟩
                    refine g 92 94 [] ?_
                    conv => whnf
                    refine ⟨⟨I, ⟨I, I, I, I⟩, I⟩, ?_⟩
                    refine W.ret ?_
                    refine EndsW.rt ?_
                    conv => whnf
                    refine ⟨⟨I, I, I, I, I⟩, ?_, rfl⟩
                    rw [replay_no h hl3 hc hs (step_no3 hr hk ht hrd)]; rfl
                · conv => whnf
                  refine W.sq ?_
                  refine g 32 35 [] ?_
                  conv => whnf
                  refine ⟨⟨I, I, I, I, I⟩, ?_⟩
                  refine W.cn ?_
                  conv => whnf
                  refine ⟨fun _ => ?_, noF (by simp [*])⟩
                  refine W.skip ?_
                  refine W.sq ?_
                  refine W.blk ?_
                  refine g 35 46 [.x (strT s0), .call (tupE (some e)) ([[]])] ?_
                  conv => whnf
                  refine ⟨⟨I, I, ⟨(by omega), ixl (by assumption)⟩, I, ⟨⟨I, I⟩, I, ⟨⟨I, I⟩, I⟩, ⟨I, I⟩, (by assumption)⟩, I, I, I, I, ⟨I, I, I, I, I⟩, I, I⟩, ?_⟩
                  refine W.sq ?_
                  refine g 9 10 [] ?_
                  conv => whnf
                  refine ⟨⟨I, I, I⟩, ?_⟩
                  refine W.cn ?_
                  conv => whnf
                  refine ⟨noT (rfl), fun _ => ?_⟩
                  refine W.skip ?_
                  refine W.sq ?_
                  refine g 46 51 [] ?_
                  conv => whnf
                  refine ⟨⟨I, I, I, I⟩, ?_⟩
                  refine W.cn ?_
                  conv => whnf
                  refine ⟨noT (decide_eq_false (by omega)), fun _ => ?_⟩
                  refine W.skip ?_
                  refine W.sq ?_
                  refine g 63 92 [.b (false), .b (false), .b (false), .b (false), .b (false), .b (false), .b (false), .b (false), .b (false), .b (false), .b (false), .b (false), .n (Int.toNat (Entry.task e)), .b (false), .x (strT y), .b (false), .b (false), .b (true), .b (true), .b (true), .b (true), .b (true), .b (true), .b (true), .b (true)] ?_
                  conv => whnf
                  refine ⟨⟨I, I, I, I, I, I, ⟨notF (by omega), I⟩, ⟨notF (by omega), I⟩, ⟨notF (by omega), I⟩, ⟨notF (by omega), I⟩, ⟨notF (by omega), I⟩, ⟨notF (by omega), I⟩, notF (by omega), I, ⟨(by simp [*]), I⟩, ⟨(by simp [*]), I⟩, ⟨(by simp [*]), I⟩, ⟨(by simp [*]), I⟩, ⟨(by simp [*]), (by omega), (by simp only [List.length_map, List.length_append, List.length_set, List.length_replicate, List.length_cons, List.length_nil, List.length_take, List.length_drop, fill_len, fillI_len, List.length_range, bytesT_len]; omega)⟩, ⟨(by simp [*]), ixl (by assumption)⟩, ⟨(by simp [*]), I⟩, (by simp [*]), I, notT (by omega), notT (by omega), notT (by omega), notT (by omega), notT (by omega), notT (by omega), notT (by omega), notT (by omega), I⟩, ?_⟩
                  refine W.cn ?_
                  conv => whnf
                  refine ⟨fun _ => ?_, noF (rfl)⟩
                  refine g 92 94 [] ?_
                  conv => whnf
                  refine ⟨⟨I, ⟨I, I, I, I⟩, I⟩, ?_⟩
                  refine W.ret ?_
                  refine EndsW.rt ?_
                  conv => whnf
                  refine ⟨⟨I, I, I, I, I⟩, ?_, rfl⟩
                  rw [replay_no h hl3 hc hs (step_no2 hr hk hy hye)]; rfl
              · conv => whnf
                refine W.sq ?_
                refine g 32 35 [] ?_
                conv => whnf
                refine ⟨⟨I, I, I, I, I⟩, ?_⟩
                refine W.cn ?_
                conv => whnf
                refine ⟨fun _ => ?_, noF (by simp [*])⟩
                refine W.skip ?_
                refine W.sq ?_
                refine W.blk ?_
                refine g 35 46 [.x (strT s0), .call (tupE (some e)) ([[]])] ?_
                conv => whnf
                refine ⟨⟨I, I, ⟨(by omega), ixl (by assumption)⟩, I, ⟨⟨I, I⟩, I, ⟨⟨I, I⟩, I⟩, ⟨I, I⟩, (by assumption)⟩, I, I, I, I, ⟨I, I, I, I, I⟩, I, I⟩, ?_⟩
                refine W.sq ?_
                refine g 9 10 [] ?_
                conv => whnf
                refine ⟨⟨I, I, I⟩, ?_⟩
                refine W.cn ?_
                conv => whnf
                refine ⟨noT (rfl), fun _ => ?_⟩
                refine W.skip ?_
                refine W.sq ?_
                refine g 46 51 [] ?_
                conv => whnf
                refine ⟨⟨I, I, I, I⟩, ?_⟩
                refine W.cn ?_
                conv => whnf
                refine ⟨noT (decide_eq_false (by omega)), fun _ => ?_⟩
                refine W.skip ?_
                refine W.sq ?_
                refine g 63 92 [.b (false), .b (false), .b (false), .b (false), .b (false), .b (false), .b (false), .b (true), .b (true), .b (true), .b (true), .b (true), .b (true), .b (true), .b (true), .b (true), .b (true), .b (true), .b (true), .b (true), .b (true), .b (true), .b (true)] ?_
                conv => whnf
                refine ⟨⟨I, I, I, I, I, I, ⟨notF (by omega), I⟩, ⟨notF (by omega), I⟩, ⟨notF (by omega), I⟩, ⟨notF (by omega), I⟩, ⟨notF (by omega), I⟩, ⟨notF (by omega), I⟩, notF (by omega), I, (by simp_all), (by simp_all), (by simp_all), (by simp_all), (by simp_all), (by simp_all), (by simp_all), (by simp_all), I, rfl, rfl, rfl, rfl, rfl, rfl, rfl, rfl, I⟩, ?_⟩
                refine W.cn ?_
                conv => whnf
                refine ⟨fun _ => ?_, noF (rfl)⟩
                refine g 92 94 [] ?_
                conv => whnf
                refine ⟨⟨I, ⟨I, I, I, I⟩, I⟩, ?_⟩
                refine W.ret ?_
                refine EndsW.rt ?_
                conv => whnf
                refine ⟨⟨I, I, I, I, I⟩, ?_, rfl⟩
                rw [replay_no h hl3 hc hs (step_no1 hr hk (fun q => hlt q.2))]; rfl
            · conv => whnf
              refine W.sq ?_
              refine g 32 35 [] ?_
              conv => whnf
              refine ⟨⟨I, I, I, I, I⟩, ?_⟩
              refine W.cn ?_
              conv => whnf
              refine ⟨fun _ => ?_, noF (by simp [*])⟩
              refine W.skip ?_
              refine W.sq ?_
              refine W.blk ?_
              refine g 35 46 [.x (strT s0), .call (tupE (some e)) ([[]])] ?_
              conv => whnf
              refine ⟨⟨I, I, ⟨(by omega), ixl (by assumption)⟩, I, ⟨⟨I, I⟩, I, ⟨⟨I, I⟩, I⟩, ⟨I, I⟩, (by assumption)⟩, I, I, I, I, ⟨I, I, I, I, I⟩, I, I⟩, ?_⟩
              refine W.sq ?_
              refine g 9 10 [] ?_
              conv => whnf
              refine ⟨⟨I, I, I⟩, ?_⟩
              refine W.cn ?_
              conv => whnf
              refine ⟨noT (rfl), fun _ => ?_⟩
              refine W.skip ?_
              refine W.sq ?_
              refine g 46 51 [] ?_
              conv => whnf
              refine ⟨⟨I, I, I, I⟩, ?_⟩
              refine W.cn ?_
              conv => whnf
              refine ⟨noT (decide_eq_false (by omega)), fun _ => ?_⟩
              refine W.skip ?_
              refine W.sq ?_
              refine g 63 92 [.b (true), .b (true), .b (true), .b (true), .b (true), .b (true), .b (true), .b (true), .b (true), .b (true), .b (true), .b (true), .b (true), .b (true), .b (true), .b (true), .b (true), .b (true), .b (true), .b (true), .b (true), .b (true), .b (true)] ?_
              conv => whnf
              refine ⟨⟨I, I, I, I, I, I, notT (by omega), notT (by omega), notT (by omega), notT (by omega), notT (by omega), notT (by omega), notT (by omega), I, rfl, rfl, rfl, rfl, rfl, rfl, rfl, rfl, I, rfl, rfl, rfl, rfl, rfl, rfl, rfl, rfl, I⟩, ?_⟩
              refine W.cn ?_
              conv => whnf
              refine ⟨fun _ => ?_, noF (rfl)⟩
              refine g 92 94 [] ?_
              conv => whnf
              refine ⟨⟨I, ⟨I, I, I, I⟩, I⟩, ?_⟩
              refine W.ret ?_
              refine EndsW.rt ?_
              conv => whnf
              refine ⟨⟨I, I, I, I, I⟩, ?_, rfl⟩
              rw [replay_no h hl3 hc hs (step_no1 hr hk (fun q => heq q.1))]; rfl
      · conv => whnf
        refine W.sq ?_
        refine g 32 35 [] ?_
        conv => whnf
        refine ⟨⟨I, I, I, I, I⟩, ?_⟩
        refine W.cn ?_
        conv => whnf
        refine ⟨noT (by simp [*]), fun _ => ?_⟩
        refine W.exit ?_
        refine g 5 102 [] ?_
        conv => whnf
        refine ⟨⟨I, ⟨I, I, I, I⟩, I⟩, ?_⟩
        refine W.ret ?_
        refine EndsW.rt ?_
        conv => whnf
        refine ⟨⟨I, I, I, I, I⟩, ?_, rfl⟩
        rw [replay_yes h hl3 hc (by omega)]
    · refine i_spec_Replay ?_
      conv => whnf
      refine g 0 0 [] ?_
      conv => whnf
      refine ⟨⟨⟨I, I⟩, I, I⟩, ?_⟩
      refine W.sq ?_
      refine g 10 13 [.call (V.i (0 : Int)) ([[]]), .b (false), .b (false), .b (false), .b (false)] ?_
      conv => whnf
      refine ⟨⟨I, ⟨⟨I, I⟩, I, ⟨⟨I, I⟩, I⟩, ⟨I, I⟩, (by assumption)⟩, I, I, ⟨rfl, I⟩, ⟨rfl, I⟩, ⟨rfl, I⟩, rfl, I⟩, ?_⟩
      refine W.cn ?_
      conv => whnf
      refine ⟨fun h1 => ?_, fun h1 => ?_⟩
      replace h1 := dt h1
      simp only [List.length_map] at h1
      refine g 14 19 [] ?_
      conv => whnf
      refine ⟨⟨I, ⟨I, I, I, I⟩, I⟩, ?_⟩
      refine W.ret ?_
      refine EndsW.rt ?_
      conv => whnf
      refine ⟨⟨I, I, I, I, I⟩, ?_, rfl⟩
      rotate_left 1
      replace h1 := df h1
      simp only [List.length_map] at h1
      omega
      rw [replay_bad (fun q => hl3 q.2)]; rfl
  · refine i_spec_Replay ?_
    conv => whnf
    refine g 0 0 [] ?_
    conv => whnf
    refine ⟨⟨⟨I, I⟩, I, I⟩, ?_⟩
    refine W.sq ?_
    refine g 10 13 [.call (V.i (checkPlan (Plan.tasks p))) ([[]]), .b (true), .b (true), .b (true), .b (true)] ?_
    conv => whnf
    refine ⟨⟨I, ⟨⟨I, I⟩, I, ⟨⟨I, I⟩, I⟩, ⟨I, I⟩, (by assumption)⟩, I, I, notT (by omega), notT (by omega), notT (by omega), notT (by omega), I⟩, ?_⟩
    refine W.cn ?_
    conv => whnf
    refine ⟨fun _ => ?_, noF (rfl)⟩
    refine g 14 19 [] ?_
    conv => whnf
    refine ⟨⟨I, ⟨I, I, I, I⟩, I⟩, ?_⟩
    refine W.ret ?_
    refine EndsW.rt ?_
    conv => whnf
    refine ⟨⟨I, I, I, I, I⟩, ?_, rfl⟩
    rw [replay_bad (fun q => h q.1)]; rfl
end Go.K

end

section
set_option linter.unusedVariables false
set_option linter.unusedSimpArgs false
set_option maxHeartbeats 4000000
set_option maxRecDepth 20000
open Go Go.Tm Go.Proofs
namespace Go.K
def workHeld (w : Worker) : Prop := (1 ≤ w.lease ∧ w.lease ≤ 300000000) ∧ (0 ≤ w.task ∧ w.task ≤ 39)
def workFreeOk (w : Worker) : Prop := w.state = 0 ∧ w.lease = 0 ∧ w.task = 0 ∧ w.cost = 0 ∧ w.left = 0 ∧ (w.inputs.length : Int) = 0 ∧ w.text = emp
def workBusyOk (w : Worker) : Prop := w.state = 1 ∧ workHeld w ∧ (1 ≤ w.cost ∧ w.cost ≤ 20) ∧ (1 ≤ w.left ∧ w.left ≤ w.cost) ∧ eights w.inputs ∧ w.text = emp
def workToldOk (w : Worker) : Prop := w.state = 2 ∧ workHeld w ∧ w.cost = 0 ∧ w.left = 0 ∧ (w.inputs.length : Int) = 0 ∧ (w.text.size : Int) = 8
def workerOk (w : Worker) : Prop := (1 ≤ w.number ∧ w.number ≤ 8) ∧ (1 ≤ w.epoch ∧ w.epoch ≤ 300) ∧ (0 ≤ w.since ∧ w.since ≤ 1000000) ∧ (w.up = true ∨ (w.state = 0 ∧ w.since = 0)) ∧ (workFreeOk w ∨ workBusyOk w ∨ workToldOk w)
instance (w : Worker) : Decidable (workerOk w) := by unfold workerOk workFreeOk workBusyOk workToldOk workHeld; infer_instance
end Go.K

end

section
set_option linter.unusedVariables false
set_option linter.unusedSimpArgs false
set_option maxHeartbeats 4000000
set_option maxRecDepth 20000
open Go Go.Tm Go.Proofs
namespace Go.K
structure Log where
  safe : List ByteArray
  loose : List ByteArray
  deriving DecidableEq
abbrev logR (x : Log) : V := .agg [.t (.slc [false] (x.safe.map strT)), .t (.slc [false] (x.loose.map strT))]
abbrev logO (x : Log) : V := .agg [.own [false] (x.safe.map strT), .own [false] (x.loose.map strT)]
structure Job where
  lease : Int
  worker : Int
  til : Int
  deriving DecidableEq
abbrev jobT (x : Job) : List T := [.i x.lease, .i x.worker, .i x.til]
abbrev jobR (x : Job) : V := .agg [.t (.i x.lease), .t (.i x.worker), .t (.i x.til)]
abbrev jobK : List Bool := [false, false, false]
abbrev noJob : Job := ⟨0, 0, 0⟩
structure Seat where
  free : Bool
  epoch : Int
  deriving DecidableEq
abbrev seatT (x : Seat) : List T := [.b x.free, .i x.epoch]
abbrev seatR (x : Seat) : V := .agg [.t (.b x.free), .t (.i x.epoch)]
abbrev seatK : List Bool := [false, false]
abbrev noSeat : Seat := ⟨false, 0⟩
structure Owed where
  worker : Int
  lease : Int
  task : Int
  deriving DecidableEq
abbrev owedT (x : Owed) : List T := [.i x.worker, .i x.lease, .i x.task]
abbrev owedR (x : Owed) : V := .agg [.t (.i x.worker), .t (.i x.lease), .t (.i x.task)]
abbrev owedK : List Bool := [false, false, false]
structure Boss where
  workers : Int
  up : Bool
  now : Int
  since : Int
  epoch : Int
  given : Int
  log : Log
  results : List ByteArray
  jobs : List Job
  seats : List Seat
  owed : List Owed
  deriving DecidableEq
abbrev bossR (x : Boss) : V := .agg [.t (.i x.workers), .t (.b x.up), .t (.i x.now), .t (.i x.since), .t (.i x.epoch), .t (.i x.given), .t (.slc [false] (x.log.safe.map strT)), .t (.slc [false] (x.log.loose.map strT)), .t (.slc [false] (x.results.map strT)), .t (.slc jobK (x.jobs.map jobT)), .t (.slc seatK (x.seats.map seatT)), .t (.slc owedK (x.owed.map owedT))]
abbrev bossO (x : Boss) : V := .agg [.t (.i x.workers), .t (.b x.up), .t (.i x.now), .t (.i x.since), .t (.i x.epoch), .t (.i x.given), .own [false] (x.log.safe.map strT), .own [false] (x.log.loose.map strT), .own [false] (x.results.map strT), .own jobK (x.jobs.map jobT), .own seatK (x.seats.map seatT), .own owedK (x.owed.map owedT)]
abbrev noBoss : Boss := ⟨0, false, 0, 0, 0, 0, ⟨[], []⟩, [], [], [], []⟩
def atS (rs : List ByteArray) (k : Int) : ByteArray := (rs[k.toNat]?).getD emp
def depsOf (ts : List Task) (n : Nat) : List Int := ((ts[n]?).map Task.deps).getD []
structure JobOk (b : Boss) (ts : List Task) (i : Nat) (j : Job) : Prop where
  lease : (b.epoch - 1) * 1000000 + 1 ≤ j.lease ∧ j.lease ≤ (b.epoch - 1) * 1000000 + b.given
  worker : 1 ≤ j.worker ∧ j.worker ≤ b.workers
  til : b.now + 1 ≤ j.til ∧ j.til ≤ b.now + 12
  res : atS b.results (i : Int) = emp
  ready : readyB b.results (depsOf ts i)
  once : j.lease ∉ (b.jobs.take i).map Job.lease
def jobOk (b : Boss) (ts : List Task) (i : Nat) (j : Job) : Prop := (j.lease = 0 → j.worker = 0 ∧ j.til = 0) ∧ (¬ j.lease = 0 → JobOk b ts i j)
def jobsTo (b : Boss) (ts : List Task) (n : Nat) : Prop := ∀ (m : Nat) (j : Job), m < n → b.jobs[m]? = some j → jobOk b ts m j
structure OwedOk (b : Boss) (ts : List Task) (o : Owed) : Prop where
  worker : 1 ≤ o.worker ∧ o.worker ≤ b.workers
  lease : 1 ≤ o.lease ∧ o.lease ≤ 300000000
  task : 0 ≤ o.task ∧ o.task ≤ (ts.length : Int) - 1
  res : ¬ atS b.results o.task = emp
structure UpOk (b : Boss) (ts : List Task) (st : Story) : Prop where
  epoch : b.epoch = st.epoch
  pos : 1 ≤ b.epoch
  rlen : b.results.length = ts.length
  jlen : b.jobs.length = ts.length
  slen : (b.seats.length : Int) = b.workers
  res : b.results = st.results
  since : 0 ≤ b.since ∧ b.since ≤ 1
  given : 0 ≤ b.given ∧ b.given ≤ 1000000
  olen : b.owed.length ≤ 2000
  jobs : jobsTo b ts b.jobs.length
  seats : ∀ s ∈ b.seats, 0 ≤ s.epoch ∧ s.epoch ≤ 300
  owed : ∀ o ∈ b.owed, OwedOk b ts o
structure DownOk (b : Boss) : Prop where
  loose : b.log.loose.length = 0
  since : b.since = 0
  epoch : b.epoch = 0
  given : b.given = 0
  res : b.results.length = 0
  jobs : b.jobs.length = 0
  seats : b.seats.length = 0
  owed : b.owed.length = 0
noncomputable def bossS (b : Boss) (p : Plan) : Story := replayP p (b.log.safe ++ b.log.loose)
structure BossOk (b : Boss) (p : Plan) : Prop where
  plan : checkPlan p.tasks = 0
  workers : 1 ≤ b.workers ∧ b.workers ≤ 8
  now : 0 ≤ b.now ∧ b.now ≤ 1000000
  code : (bossS b p).code = 0
  up : b.up = true → UpOk b p.tasks (bossS b p)
  down : b.up = false → DownOk b
noncomputable instance (b : Boss) (p : Plan) : Decidable (BossOk b p) := Classical.propDecidable _
theorem replay_len {p : Plan} {xs : List ByteArray} (h : (replayP p xs).code = 0) : checkPlan p.tasks = 0 ∧ xs.length ≤ 310 ∧ (replayP p xs).results.length = p.tasks.length ∧ ∃ t, runR p.tasks (some (tale0 p.tasks)) xs = some t ∧ replayP p xs = ⟨0, t.epoch, t.results⟩ := by
  unfold replayP at h ⊢
  by_cases hq : checkPlan p.tasks = 0 ∧ xs.length ≤ 310
  · rw [if_pos hq] at h ⊢
    cases hr : runR p.tasks (some (tale0 p.tasks)) xs with
    | none => rw [hr] at h; cases h
    | some t =>
      refine ⟨hq.1, hq.2, ?_, t, rfl, rfl⟩
      have := runR_len p.tasks xs _ _ hr
      rw [tale0, List.length_replicate] at this
      exact this
  · rw [if_neg hq] at h; cases h
theorem stepR_ep {ts : List Task} {t t' : Tale} {s : ByteArray} (h : stepR ts t s = some t') (h0 : 0 ≤ t.epoch ∧ t.epoch ≤ 300) : 0 ≤ t'.epoch ∧ t'.epoch ≤ 300 := by
  unfold stepR at h
  split at h
  · cases h
  · rename_i e he
    have hr := readS_rng he
    split at h
    · split at h
      · cases h; have := hr.1; exact ⟨by dsimp only; omega, this.2⟩
      · cases h
    · split at h
      · cases h; exact h0
      · cases h
theorem runR_ep {ts : List Task} : ∀ {l : List ByteArray} {t t' : Tale}, runR ts (some t) l = some t' → 0 ≤ t.epoch ∧ t.epoch ≤ 300 → 0 ≤ t'.epoch ∧ t'.epoch ≤ 300
  | [], t, t', h, h0 => by rw [runR_nil] at h; cases h; exact h0
  | s :: l, t, t', h, h0 => by
    rw [runR_cons] at h
    cases hs : stepR ts t s with
    | none => rw [hs, runR_none] at h; cases h
    | some u => rw [hs] at h; exact runR_ep h (stepR_ep hs h0)
theorem replay_ep {p : Plan} {xs : List ByteArray} (h : (replayP p xs).code = 0) : 0 ≤ (replayP p xs).epoch ∧ (replayP p xs).epoch ≤ 300 := by
  obtain ⟨_, _, _, t, h1, h2⟩ := replay_len h
  rw [h2]
  exact runR_ep h1 ⟨Int.le_refl _, by show (0 : Int) ≤ 300; omega⟩
end Go.K

end

section
set_option linter.unusedVariables false
set_option linter.unusedSimpArgs false
set_option maxHeartbeats 8000000
set_option maxRecDepth 20000
open Go Go.Tm Go.Proofs
namespace Go.K
noncomputable instance (b : Boss) (ts : List Task) (n : Nat) : Decidable (jobsTo b ts n) := Classical.propDecidable _
end Go.K

end

section
set_option linter.unusedVariables false
set_option linter.unusedSimpArgs false
set_option maxHeartbeats 4000000
set_option maxRecDepth 20000
open Go Go.Tm Go.Proofs
namespace Go.K
structure Message where
  kind : Int
  frm : Int
  to : Int
  epoch : Int
  lease : Int
  task : Int
  text : ByteArray
  inputs : List ByteArray
  deriving DecidableEq
end Go.K

end

section
set_option linter.unusedVariables false
set_option linter.unusedSimpArgs false
set_option maxHeartbeats 4000000
set_option maxRecDepth 20000
open Go Go.Tm Go.Proofs
namespace Go.K
attribute [local irreducible] ByteArray.extract
end Go.K

end

section
set_option linter.unusedVariables false
set_option linter.unusedSimpArgs false
set_option maxHeartbeats 4000000
set_option maxRecDepth 20000
open Go Go.Tm Go.Proofs
namespace Go.K
attribute [local irreducible] ByteArray.extract
end Go.K

end

section
set_option linter.unusedVariables false
set_option linter.unusedSimpArgs false
set_option maxHeartbeats 4000000
set_option maxRecDepth 20000
open Go Go.Tm Go.Proofs
namespace Go.K
attribute [local irreducible] ByteArray.extract
end Go.K

end

section
set_option linter.unusedVariables false
set_option linter.unusedSimpArgs false
set_option maxHeartbeats 4000000
set_option maxRecDepth 20000
open Go Go.Tm Go.Proofs
namespace Go.K
structure Acted where
  worker : Worker
  out : List Message
  deriving DecidableEq
end Go.K

end

section
set_option linter.unusedVariables false
set_option linter.unusedSimpArgs false
set_option maxHeartbeats 4000000
set_option maxRecDepth 20000
open Go Go.Tm Go.Proofs
namespace Go.K
def logLen (a : Log) : Prop := a.safe.length ≤ 9223372036854775806 ∧ a.loose.length ≤ 9223372036854775806
theorem c_laws_eqLog (a b : Log) (hl : logLen a) : F n_laws_eqLog [.val (logR a), .val (logR b)] (.b (decide (a = b))) [[], []] := by
  obtain ⟨a_safe, a_loose⟩ := a
  obtain ⟨b_safe, b_loose⟩ := b
  simp only [logLen] at hl
  obtain ⟨hl0, hl1⟩ := hl
  refine i_laws_eqLog ?_
  conv => whnf
  refine g 0 2 [] ?_
  conv => whnf
  refine ⟨⟨⟨I, I, I⟩, ⟨I, I, I⟩, I, I⟩, ?_⟩
  refine W.sq ?_
  refine g 5 10 [.call (V.b (decide (a_safe = b_safe))) ([[], []])] ?_
  conv => whnf
  refine ⟨⟨I, I, I, I, ⟨⟨I, I, I⟩, I, ⟨⟨I, I⟩, ⟨I, I⟩, I⟩, ⟨I, I⟩, Go.K.c_laws_eqStringS _ _ (by omega)⟩, I, I⟩, ?_⟩
  refine W.cn ?_
  conv => whnf
  refine ⟨fun h1 => ?_, fun h1 => ?_⟩
  replace h1 := ndt h1
  refine g 10 11 [] ?_
  conv => whnf
  refine ⟨⟨I, I⟩, ?_⟩
  refine W.ret ?_
  refine EndsW.rt ?_
  conv => whnf
  refine ⟨⟨I, I, I⟩, ?_, rfl⟩
  rotate_left 1
  replace h1 := ndf h1
  refine W.skip ?_
  refine W.sq ?_
  refine g 10 16 [.call (V.b (decide (a_loose = b_loose))) ([[], []])] ?_
  conv => whnf
  refine ⟨⟨I, I, I, I, ⟨⟨I, I, I⟩, I, ⟨⟨I, I⟩, ⟨I, I⟩, I⟩, ⟨I, I⟩, Go.K.c_laws_eqStringS _ _ (by omega)⟩, I, I⟩, ?_⟩
  refine W.cn ?_
  conv => whnf
  refine ⟨fun h2 => ?_, fun h2 => ?_⟩
  replace h2 := ndt h2
  refine g 2 4 [] ?_
  conv => whnf
  refine ⟨⟨I, I⟩, ?_⟩
  refine W.ret ?_
  refine EndsW.rt ?_
  conv => whnf
  refine ⟨⟨I, I, I⟩, ?_, rfl⟩
  rotate_left 1
  replace h2 := ndf h2
  refine W.skip ?_
  refine g 2 4 [] ?_
  conv => whnf
  refine ⟨⟨I, I⟩, ?_⟩
  refine W.ret ?_
  refine EndsW.rt ?_
  conv => whnf
  refine ⟨⟨I, I, I⟩, ?_, rfl⟩
  rotate_left 1
  all_goals (first | exact vbt (by simp_all; done) | exact vbf (by simp_all; done))
theorem c_laws_eqJob (a b : Job) : F n_laws_eqJob [.val (jobR a), .val (jobR b)] (.b (decide (a = b))) [[], []] := by
  obtain ⟨a_lease, a_worker, a_til⟩ := a
  obtain ⟨b_lease, b_worker, b_til⟩ := b
  refine i_laws_eqJob ?_
  conv => whnf
  refine g 0 2 [] ?_
  conv => whnf
  refine ⟨⟨⟨I, I, I, I⟩, ⟨I, I, I, I⟩, I, I⟩, ?_⟩
  refine W.sq ?_
  refine g 5 9 [] ?_
  conv => whnf
  refine ⟨⟨I, I, I, I, I, I⟩, ?_⟩
  refine W.cn ?_
  conv => whnf
  refine ⟨fun h1 => ?_, fun h1 => ?_⟩
  replace h1 := ndt h1
  refine g 9 10 [] ?_
  conv => whnf
  refine ⟨⟨I, I⟩, ?_⟩
  refine W.ret ?_
  refine EndsW.rt ?_
  conv => whnf
  refine ⟨⟨I, I, I⟩, ?_, rfl⟩
  rotate_left 1
  replace h1 := ndf h1
  refine W.skip ?_
  refine W.sq ?_
  refine g 9 14 [] ?_
  conv => whnf
  refine ⟨⟨I, I, I, I, I, I⟩, ?_⟩
  refine W.cn ?_
  conv => whnf
  refine ⟨fun h2 => ?_, fun h2 => ?_⟩
  replace h2 := ndt h2
  refine g 14 15 [] ?_
  conv => whnf
  refine ⟨⟨I, I⟩, ?_⟩
  refine W.ret ?_
  refine EndsW.rt ?_
  conv => whnf
  refine ⟨⟨I, I, I⟩, ?_, rfl⟩
  rotate_left 1
  replace h2 := ndf h2
  refine W.skip ?_
  refine W.sq ?_
  refine g 14 19 [] ?_
  conv => whnf
  refine ⟨⟨I, I, I, I, I, I⟩, ?_⟩
  refine W.cn ?_
  conv => whnf
  refine ⟨fun h3 => ?_, fun h3 => ?_⟩
  replace h3 := ndt h3
  refine g 2 4 [] ?_
  conv => whnf
  refine ⟨⟨I, I⟩, ?_⟩
  refine W.ret ?_
  refine EndsW.rt ?_
  conv => whnf
  refine ⟨⟨I, I, I⟩, ?_, rfl⟩
  rotate_left 1
  replace h3 := ndf h3
  refine W.skip ?_
  refine g 2 4 [] ?_
  conv => whnf
  refine ⟨⟨I, I⟩, ?_⟩
  refine W.ret ?_
  refine EndsW.rt ?_
  conv => whnf
  refine ⟨⟨I, I, I⟩, ?_, rfl⟩
  rotate_left 1
  all_goals (first | exact vbt (by simp_all; done) | exact vbf (by simp_all; done))
theorem c_laws_eqJobS (xs ys : List Job) (hl : xs.length ≤ 9223372036854775806) : F n_laws_eqJobS [.val (.t (.slc jobK (xs.map jobT))), .val (.t (.slc jobK (ys.map jobT)))] (.b (decide (xs = ys))) [[], []] := by
  refine i_laws_eqJobS ?_
  conv => whnf
  refine g 0 0 [] ?_
  conv => whnf
  refine ⟨⟨I, I⟩, ?_⟩
  refine W.sq ?_
  refine g 6 10 [] ?_
  conv => whnf
  refine ⟨⟨I, I, I, I, I, I⟩, ?_⟩
  refine W.cn ?_
  conv => whnf
  refine ⟨fun h1 => ?_, fun h1 => ?_⟩
  replace h1 := ndt h1
  simp only [List.length_map] at h1
  refine g 10 11 [] ?_
  conv => whnf
  refine ⟨⟨I, I⟩, ?_⟩
  refine W.ret ?_
  refine EndsW.rt ?_
  conv => whnf
  refine ⟨⟨I, I, I⟩, ?_, rfl⟩
  rotate_left 1
  replace h1 := ndf h1
  simp only [List.length_map] at h1
  refine W.skip ?_
  refine W.sq ?_
  refine g 10 11 [] ?_
  conv => whnf
  refine ⟨⟨I, I⟩, ?_⟩
  refine W.blk ?_
  rotate_left 1
  · exact vbf (fun e => h1 (by rw [e]))
  refine W.lp (fun s (n : Nat) => ⟨[(0, s.s 0), (1, s.s 1), (5, .i n)], [], []⟩) (fun (n : Nat) => n ≤ xs.length ∧ xs.take n = ys.take n) (fun (n : Nat) => xs.length - n) (0) [] [] ⟨rfl, ⟨rfl, rfl, rfl, I⟩, I, I⟩ (by simp) ?_
  rintro n ⟨hn, hc⟩
  conv => whnf
  refine W.sq ?_
  refine g 11 14 [] ?_
  conv => whnf
  refine ⟨⟨I, I, I, I, I⟩, ?_⟩
  refine W.cn ?_
  conv => whnf
  refine ⟨fun h2 => ?_, fun h2 => ?_⟩
  replace h2 := dt h2
  simp only [List.length_map] at h2
  refine W.skip ?_
  refine W.sq ?_
  refine W.blk ?_
  obtain ⟨y1, hy1⟩ := some_at (xs := xs) (n := n) (by omega)
  obtain ⟨y2, hy2⟩ := some_at (xs := ys) (n := n) (by omega)
  refine gd 14 26 [[], [], [.x (jobT y1)], [], [], [], [.x (jobT y2)], [], [.call (V.b (decide (y1 = y2))) ([[], []])], []] ?_
  conv => whnf
  refine ⟨⟨I, I, ⟨(by omega), ixl (by assumption)⟩, I, I, I, ⟨(by omega), ixl (by assumption)⟩, I, ⟨⟨I, I, I⟩, I, ⟨⟨I, I, I, I⟩, ⟨I, I, I, I⟩, I⟩, ⟨I, I⟩, Go.K.c_laws_eqJob _ _⟩, I, I⟩, by kernel_rfl, ?_⟩
  refine W.cn ?_
  conv => whnf
  refine ⟨fun h3 => ?_, fun h3 => ?_⟩
  replace h3 := ndt h3
  refine g 26 27 [] ?_
  conv => whnf
  refine ⟨⟨I, I⟩, ?_⟩
  refine W.ret ?_
  refine EndsW.rt ?_
  conv => whnf
  refine ⟨⟨I, I, I⟩, ?_, rfl⟩
  rotate_left 1
  replace h3 := ndf h3
  refine W.skip ?_
  refine rg [.i ((↑n : Int) + (1 : Int))] ?_
  conv => whnf
  refine ⟨⟨I, w64 (by omega) (by omega), I, I⟩, ?_⟩
  rotate_left 1
  replace h2 := df h2
  simp only [List.length_map] at h2
  refine W.exit ?_
  refine g 0 2 [] ?_
  conv => whnf
  refine ⟨⟨I, I⟩, ?_⟩
  refine W.ret ?_
  refine EndsW.rt ?_
  conv => whnf
  refine ⟨⟨I, I, I⟩, ?_, rfl⟩
  rotate_left 1
  · exact vbf (fun e => by subst e; rw [hy1] at hy2; cases hy2; exact h3 rfl)
  · refine ⟨n + 1, [], [], ⟨rfl, ⟨rfl, rfl, rfl, I⟩, I, I⟩, ?_, ?_⟩
    rotate_left 1
    (dsimp only; omega)
    dsimp only
    exact ⟨by omega, take_eq hc hy1 (by rw [hy2]; exact congrArg some (Eq.symm h3))⟩
  · exact vbt (by rw [take_all (by omega), take_all (by omega)] at hc; exact hc)
theorem c_laws_eqSeat (a b : Seat) : F n_laws_eqSeat [.val (seatR a), .val (seatR b)] (.b (decide (a = b))) [[], []] := by
  obtain ⟨a_free, a_epoch⟩ := a
  obtain ⟨b_free, b_epoch⟩ := b
  refine i_laws_eqSeat ?_
  conv => whnf
  refine g 0 2 [] ?_
  conv => whnf
  refine ⟨⟨⟨I, I, I⟩, ⟨I, I, I⟩, I, I⟩, ?_⟩
  refine W.sq ?_
  refine g 5 9 [] ?_
  conv => whnf
  refine ⟨⟨I, I, I, I, I, I⟩, ?_⟩
  refine W.cn ?_
  conv => whnf
  refine ⟨fun h1 => ?_, fun h1 => ?_⟩
  replace h1 := nbt h1
  refine g 9 10 [] ?_
  conv => whnf
  refine ⟨⟨I, I⟩, ?_⟩
  refine W.ret ?_
  refine EndsW.rt ?_
  conv => whnf
  refine ⟨⟨I, I, I⟩, ?_, rfl⟩
  rotate_left 1
  replace h1 := nbf h1
  refine W.skip ?_
  refine W.sq ?_
  refine g 9 14 [] ?_
  conv => whnf
  refine ⟨⟨I, I, I, I, I, I⟩, ?_⟩
  refine W.cn ?_
  conv => whnf
  refine ⟨fun h2 => ?_, fun h2 => ?_⟩
  replace h2 := ndt h2
  refine g 2 4 [] ?_
  conv => whnf
  refine ⟨⟨I, I⟩, ?_⟩
  refine W.ret ?_
  refine EndsW.rt ?_
  conv => whnf
  refine ⟨⟨I, I, I⟩, ?_, rfl⟩
  rotate_left 1
  replace h2 := ndf h2
  refine W.skip ?_
  refine g 2 4 [] ?_
  conv => whnf
  refine ⟨⟨I, I⟩, ?_⟩
  refine W.ret ?_
  refine EndsW.rt ?_
  conv => whnf
  refine ⟨⟨I, I, I⟩, ?_, rfl⟩
  rotate_left 1
  all_goals (first | exact vbt (by simp_all; done) | exact vbf (by simp_all; done))
theorem c_laws_eqSeatS (xs ys : List Seat) (hl : xs.length ≤ 9223372036854775806) : F n_laws_eqSeatS [.val (.t (.slc seatK (xs.map seatT))), .val (.t (.slc seatK (ys.map seatT)))] (.b (decide (xs = ys))) [[], []] := by
  refine i_laws_eqSeatS ?_
  conv => whnf
  refine g 0 0 [] ?_
  conv => whnf
  refine ⟨⟨I, I⟩, ?_⟩
  refine W.sq ?_
  refine g 6 10 [] ?_
  conv => whnf
  refine ⟨⟨I, I, I, I, I, I⟩, ?_⟩
  refine W.cn ?_
  conv => whnf
  refine ⟨fun h1 => ?_, fun h1 => ?_⟩
  replace h1 := ndt h1
  simp only [List.length_map] at h1
  refine g 10 11 [] ?_
  conv => whnf
  refine ⟨⟨I, I⟩, ?_⟩
  refine W.ret ?_
  refine EndsW.rt ?_
  conv => whnf
  refine ⟨⟨I, I, I⟩, ?_, rfl⟩
  rotate_left 1
  replace h1 := ndf h1
  simp only [List.length_map] at h1
  refine W.skip ?_
  refine W.sq ?_
  refine g 10 11 [] ?_
  conv => whnf
  refine ⟨⟨I, I⟩, ?_⟩
  refine W.blk ?_
  rotate_left 1
  · exact vbf (fun e => h1 (by rw [e]))
  refine W.lp (fun s (n : Nat) => ⟨[(0, s.s 0), (1, s.s 1), (5, .i n)], [], []⟩) (fun (n : Nat) => n ≤ xs.length ∧ xs.take n = ys.take n) (fun (n : Nat) => xs.length - n) (0) [] [] ⟨rfl, ⟨rfl, rfl, rfl, I⟩, I, I⟩ (by simp) ?_
  rintro n ⟨hn, hc⟩
  conv => whnf
  refine W.sq ?_
  refine g 11 14 [] ?_
  conv => whnf
  refine ⟨⟨I, I, I, I, I⟩, ?_⟩
  refine W.cn ?_
  conv => whnf
  refine ⟨fun h2 => ?_, fun h2 => ?_⟩
  replace h2 := dt h2
  simp only [List.length_map] at h2
  refine W.skip ?_
  refine W.sq ?_
  refine W.blk ?_
  obtain ⟨y1, hy1⟩ := some_at (xs := xs) (n := n) (by omega)
  obtain ⟨y2, hy2⟩ := some_at (xs := ys) (n := n) (by omega)
  refine gd 14 26 [[], [], [.x (seatT y1)], [], [], [], [.x (seatT y2)], [], [.call (V.b (decide (y1 = y2))) ([[], []])], []] ?_
  conv => whnf
  refine ⟨⟨I, I, ⟨(by omega), ixl (by assumption)⟩, I, I, I, ⟨(by omega), ixl (by assumption)⟩, I, ⟨⟨I, I, I⟩, I, ⟨⟨I, I, I⟩, ⟨I, I, I⟩, I⟩, ⟨I, I⟩, Go.K.c_laws_eqSeat _ _⟩, I, I⟩, by kernel_rfl, ?_⟩
  refine W.cn ?_
  conv => whnf
  refine ⟨fun h3 => ?_, fun h3 => ?_⟩
  replace h3 := ndt h3
  refine g 26 27 [] ?_
  conv => whnf
  refine ⟨⟨I, I⟩, ?_⟩
  refine W.ret ?_
  refine EndsW.rt ?_
  conv => whnf
  refine ⟨⟨I, I, I⟩, ?_, rfl⟩
  rotate_left 1
  replace h3 := ndf h3
  refine W.skip ?_
  refine rg [.i ((↑n : Int) + (1 : Int))] ?_
  conv => whnf
  refine ⟨⟨I, w64 (by omega) (by omega), I, I⟩, ?_⟩
  rotate_left 1
  replace h2 := df h2
  simp only [List.length_map] at h2
  refine W.exit ?_
  refine g 0 2 [] ?_
  conv => whnf
  refine ⟨⟨I, I⟩, ?_⟩
  refine W.ret ?_
  refine EndsW.rt ?_
  conv => whnf
  refine ⟨⟨I, I, I⟩, ?_, rfl⟩
  rotate_left 1
  · exact vbf (fun e => by subst e; rw [hy1] at hy2; cases hy2; exact h3 rfl)
  · refine ⟨n + 1, [], [], ⟨rfl, ⟨rfl, rfl, rfl, I⟩, I, I⟩, ?_, ?_⟩
    rotate_left 1
    (dsimp only; omega)
    dsimp only
    exact ⟨by omega, take_eq hc hy1 (by rw [hy2]; exact congrArg some (Eq.symm h3))⟩
  · exact vbt (by rw [take_all (by omega), take_all (by omega)] at hc; exact hc)
theorem c_laws_eqOwed (a b : Owed) : F n_laws_eqOwed [.val (owedR a), .val (owedR b)] (.b (decide (a = b))) [[], []] := by
  obtain ⟨a_worker, a_lease, a_task⟩ := a
  obtain ⟨b_worker, b_lease, b_task⟩ := b
  refine i_laws_eqOwed ?_
  conv => whnf
  refine g 0 2 [] ?_
  conv => whnf
  refine ⟨⟨⟨I, I, I, I⟩, ⟨I, I, I, I⟩, I, I⟩, ?_⟩
  refine W.sq ?_
  refine g 5 9 [] ?_
  conv => whnf
  refine ⟨⟨I, I, I, I, I, I⟩, ?_⟩
  refine W.cn ?_
  conv => whnf
  refine ⟨fun h1 => ?_, fun h1 => ?_⟩
  replace h1 := ndt h1
  refine g 9 10 [] ?_
  conv => whnf
  refine ⟨⟨I, I⟩, ?_⟩
  refine W.ret ?_
  refine EndsW.rt ?_
  conv => whnf
  refine ⟨⟨I, I, I⟩, ?_, rfl⟩
  rotate_left 1
  replace h1 := ndf h1
  refine W.skip ?_
  refine W.sq ?_
  refine g 9 14 [] ?_
  conv => whnf
  refine ⟨⟨I, I, I, I, I, I⟩, ?_⟩
  refine W.cn ?_
  conv => whnf
  refine ⟨fun h2 => ?_, fun h2 => ?_⟩
  replace h2 := ndt h2
  refine g 14 15 [] ?_
  conv => whnf
  refine ⟨⟨I, I⟩, ?_⟩
  refine W.ret ?_
  refine EndsW.rt ?_
  conv => whnf
  refine ⟨⟨I, I, I⟩, ?_, rfl⟩
  rotate_left 1
  replace h2 := ndf h2
  refine W.skip ?_
  refine W.sq ?_
  refine g 14 19 [] ?_
  conv => whnf
  refine ⟨⟨I, I, I, I, I, I⟩, ?_⟩
  refine W.cn ?_
  conv => whnf
  refine ⟨fun h3 => ?_, fun h3 => ?_⟩
  replace h3 := ndt h3
  refine g 2 4 [] ?_
  conv => whnf
  refine ⟨⟨I, I⟩, ?_⟩
  refine W.ret ?_
  refine EndsW.rt ?_
  conv => whnf
  refine ⟨⟨I, I, I⟩, ?_, rfl⟩
  rotate_left 1
  replace h3 := ndf h3
  refine W.skip ?_
  refine g 2 4 [] ?_
  conv => whnf
  refine ⟨⟨I, I⟩, ?_⟩
  refine W.ret ?_
  refine EndsW.rt ?_
  conv => whnf
  refine ⟨⟨I, I, I⟩, ?_, rfl⟩
  rotate_left 1
  all_goals (first | exact vbt (by simp_all; done) | exact vbf (by simp_all; done))
theorem c_laws_eqOwedS (xs ys : List Owed) (hl : xs.length ≤ 9223372036854775806) : F n_laws_eqOwedS [.val (.t (.slc owedK (xs.map owedT))), .val (.t (.slc owedK (ys.map owedT)))] (.b (decide (xs = ys))) [[], []] := by
  refine i_laws_eqOwedS ?_
  conv => whnf
  refine g 0 0 [] ?_
  conv => whnf
  refine ⟨⟨I, I⟩, ?_⟩
  refine W.sq ?_
  refine g 6 10 [] ?_
  conv => whnf
  refine ⟨⟨I, I, I, I, I, I⟩, ?_⟩
  refine W.cn ?_
  conv => whnf
  refine ⟨fun h1 => ?_, fun h1 => ?_⟩
  replace h1 := ndt h1
  simp only [List.length_map] at h1
  refine g 10 11 [] ?_
  conv => whnf
  refine ⟨⟨I, I⟩, ?_⟩
  refine W.ret ?_
  refine EndsW.rt ?_
  conv => whnf
  refine ⟨⟨I, I, I⟩, ?_, rfl⟩
  rotate_left 1
  replace h1 := ndf h1
  simp only [List.length_map] at h1
  refine W.skip ?_
  refine W.sq ?_
  refine g 10 11 [] ?_
  conv => whnf
  refine ⟨⟨I, I⟩, ?_⟩
  refine W.blk ?_
  rotate_left 1
  · exact vbf (fun e => h1 (by rw [e]))
  refine W.lp (fun s (n : Nat) => ⟨[(0, s.s 0), (1, s.s 1), (5, .i n)], [], []⟩) (fun (n : Nat) => n ≤ xs.length ∧ xs.take n = ys.take n) (fun (n : Nat) => xs.length - n) (0) [] [] ⟨rfl, ⟨rfl, rfl, rfl, I⟩, I, I⟩ (by simp) ?_
  rintro n ⟨hn, hc⟩
  conv => whnf
  refine W.sq ?_
  refine g 11 14 [] ?_
  conv => whnf
  refine ⟨⟨I, I, I, I, I⟩, ?_⟩
  refine W.cn ?_
  conv => whnf
  refine ⟨fun h2 => ?_, fun h2 => ?_⟩
  replace h2 := dt h2
  simp only [List.length_map] at h2
  refine W.skip ?_
  refine W.sq ?_
  refine W.blk ?_
  obtain ⟨y1, hy1⟩ := some_at (xs := xs) (n := n) (by omega)
  obtain ⟨y2, hy2⟩ := some_at (xs := ys) (n := n) (by omega)
  refine gd 14 26 [[], [], [.x (owedT y1)], [], [], [], [.x (owedT y2)], [], [.call (V.b (decide (y1 = y2))) ([[], []])], []] ?_
  conv => whnf
  refine ⟨⟨I, I, ⟨(by omega), ixl (by assumption)⟩, I, I, I, ⟨(by omega), ixl (by assumption)⟩, I, ⟨⟨I, I, I⟩, I, ⟨⟨I, I, I, I⟩, ⟨I, I, I, I⟩, I⟩, ⟨I, I⟩, Go.K.c_laws_eqOwed _ _⟩, I, I⟩, by kernel_rfl, ?_⟩
  refine W.cn ?_
  conv => whnf
  refine ⟨fun h3 => ?_, fun h3 => ?_⟩
  replace h3 := ndt h3
  refine g 26 27 [] ?_
  conv => whnf
  refine ⟨⟨I, I⟩, ?_⟩
  refine W.ret ?_
  refine EndsW.rt ?_
  conv => whnf
  refine ⟨⟨I, I, I⟩, ?_, rfl⟩
  rotate_left 1
  replace h3 := ndf h3
  refine W.skip ?_
  refine rg [.i ((↑n : Int) + (1 : Int))] ?_
  conv => whnf
  refine ⟨⟨I, w64 (by omega) (by omega), I, I⟩, ?_⟩
  rotate_left 1
  replace h2 := df h2
  simp only [List.length_map] at h2
  refine W.exit ?_
  refine g 0 2 [] ?_
  conv => whnf
  refine ⟨⟨I, I⟩, ?_⟩
  refine W.ret ?_
  refine EndsW.rt ?_
  conv => whnf
  refine ⟨⟨I, I, I⟩, ?_, rfl⟩
  rotate_left 1
  · exact vbf (fun e => by subst e; rw [hy1] at hy2; cases hy2; exact h3 rfl)
  · refine ⟨n + 1, [], [], ⟨rfl, ⟨rfl, rfl, rfl, I⟩, I, I⟩, ?_, ?_⟩
    rotate_left 1
    (dsimp only; omega)
    dsimp only
    exact ⟨by omega, take_eq hc hy1 (by rw [hy2]; exact congrArg some (Eq.symm h3))⟩
  · exact vbt (by rw [take_all (by omega), take_all (by omega)] at hc; exact hc)
def bossLen (a : Boss) : Prop := a.log.safe.length ≤ 9223372036854775806 ∧ a.log.loose.length ≤ 9223372036854775806 ∧ a.results.length ≤ 9223372036854775806 ∧ a.jobs.length ≤ 9223372036854775806 ∧ a.seats.length ≤ 9223372036854775806 ∧ a.owed.length ≤ 9223372036854775806
theorem c_laws_eqBoss (a b : Boss) (hl : bossLen a) : F n_laws_eqBoss [.val (bossR a), .val (bossR b)] (.b (decide (a = b))) [[], []] := by
  obtain ⟨a_workers, a_up, a_now, a_since, a_epoch, a_given, a_log, a_results, a_jobs, a_seats, a_owed⟩ := a
  obtain ⟨b_workers, b_up, b_now, b_since, b_epoch, b_given, b_log, b_results, b_jobs, b_seats, b_owed⟩ := b
  simp only [bossLen] at hl
  obtain ⟨hl0, hl1, hl2, hl3, hl4, hl5⟩ := hl
  have hx0 : logLen a_log := ⟨hl0, hl1⟩
  refine i_laws_eqBoss ?_
  conv => whnf
  refine g 0 2 [] ?_
  conv => whnf
  refine ⟨⟨⟨I, I, I, I, I, I, I, I, I, I, I, I, I⟩, ⟨I, I, I, I, I, I, I, I, I, I, I, I, I⟩, I, I⟩, ?_⟩
  refine W.sq ?_
  refine g 5 9 [] ?_
  conv => whnf
  refine ⟨⟨I, I, I, I, I, I⟩, ?_⟩
  refine W.cn ?_
  conv => whnf
  refine ⟨fun h1 => ?_, fun h1 => ?_⟩
  replace h1 := ndt h1
  refine g 9 10 [] ?_
  conv => whnf
  refine ⟨⟨I, I⟩, ?_⟩
  refine W.ret ?_
  refine EndsW.rt ?_
  conv => whnf
  refine ⟨⟨I, I, I⟩, ?_, rfl⟩
  rotate_left 1
  replace h1 := ndf h1
  refine W.skip ?_
  refine W.sq ?_
  refine g 9 14 [] ?_
  conv => whnf
  refine ⟨⟨I, I, I, I, I, I⟩, ?_⟩
  refine W.cn ?_
  conv => whnf
  refine ⟨fun h2 => ?_, fun h2 => ?_⟩
  replace h2 := nbt h2
  refine g 14 15 [] ?_
  conv => whnf
  refine ⟨⟨I, I⟩, ?_⟩
  refine W.ret ?_
  refine EndsW.rt ?_
  conv => whnf
  refine ⟨⟨I, I, I⟩, ?_, rfl⟩
  rotate_left 1
  replace h2 := nbf h2
  refine W.skip ?_
  refine W.sq ?_
  refine g 14 19 [] ?_
  conv => whnf
  refine ⟨⟨I, I, I, I, I, I⟩, ?_⟩
  refine W.cn ?_
  conv => whnf
  refine ⟨fun h3 => ?_, fun h3 => ?_⟩
  replace h3 := ndt h3
  refine g 19 20 [] ?_
  conv => whnf
  refine ⟨⟨I, I⟩, ?_⟩
  refine W.ret ?_
  refine EndsW.rt ?_
  conv => whnf
  refine ⟨⟨I, I, I⟩, ?_, rfl⟩
  rotate_left 1
  replace h3 := ndf h3
  refine W.skip ?_
  refine W.sq ?_
  refine g 19 24 [] ?_
  conv => whnf
  refine ⟨⟨I, I, I, I, I, I⟩, ?_⟩
  refine W.cn ?_
  conv => whnf
  refine ⟨fun h4 => ?_, fun h4 => ?_⟩
  replace h4 := ndt h4
  refine g 24 25 [] ?_
  conv => whnf
  refine ⟨⟨I, I⟩, ?_⟩
  refine W.ret ?_
  refine EndsW.rt ?_
  conv => whnf
  refine ⟨⟨I, I, I⟩, ?_, rfl⟩
  rotate_left 1
  replace h4 := ndf h4
  refine W.skip ?_
  refine W.sq ?_
  refine g 24 29 [] ?_
  conv => whnf
  refine ⟨⟨I, I, I, I, I, I⟩, ?_⟩
  refine W.cn ?_
  conv => whnf
  refine ⟨fun h5 => ?_, fun h5 => ?_⟩
  replace h5 := ndt h5
  refine g 29 30 [] ?_
  conv => whnf
  refine ⟨⟨I, I⟩, ?_⟩
  refine W.ret ?_
  refine EndsW.rt ?_
  conv => whnf
  refine ⟨⟨I, I, I⟩, ?_, rfl⟩
  rotate_left 1
  replace h5 := ndf h5
  refine W.skip ?_
  refine W.sq ?_
  refine g 29 34 [] ?_
  conv => whnf
  refine ⟨⟨I, I, I, I, I, I⟩, ?_⟩
  refine W.cn ?_
  conv => whnf
  refine ⟨fun h6 => ?_, fun h6 => ?_⟩
  replace h6 := ndt h6
  refine g 34 35 [] ?_
  conv => whnf
  refine ⟨⟨I, I⟩, ?_⟩
  refine W.ret ?_
  refine EndsW.rt ?_
  conv => whnf
  refine ⟨⟨I, I, I⟩, ?_, rfl⟩
  rotate_left 1
  replace h6 := ndf h6
  refine W.skip ?_
  refine W.sq ?_
  refine g 34 40 [.call (V.b (decide (a_log = b_log))) ([[], []])] ?_
  conv => whnf
  refine ⟨⟨I, I, I, I, ⟨⟨I, I, I⟩, I, ⟨⟨I, I, I⟩, ⟨I, I, I⟩, I⟩, ⟨I, I⟩, Go.K.c_laws_eqLog _ _ (by omega)⟩, I, I⟩, ?_⟩
  refine W.cn ?_
  conv => whnf
  refine ⟨fun h7 => ?_, fun h7 => ?_⟩
  replace h7 := ndt h7
  refine g 40 41 [] ?_
  conv => whnf
  refine ⟨⟨I, I⟩, ?_⟩
  refine W.ret ?_
  refine EndsW.rt ?_
  conv => whnf
  refine ⟨⟨I, I, I⟩, ?_, rfl⟩
  rotate_left 1
  replace h7 := ndf h7
  refine W.skip ?_
  refine W.sq ?_
  refine g 40 46 [.call (V.b (decide (a_results = b_results))) ([[], []])] ?_
  conv => whnf
  refine ⟨⟨I, I, I, I, ⟨⟨I, I, I⟩, I, ⟨⟨I, I⟩, ⟨I, I⟩, I⟩, ⟨I, I⟩, Go.K.c_laws_eqStringS _ _ (by omega)⟩, I, I⟩, ?_⟩
  refine W.cn ?_
  conv => whnf
  refine ⟨fun h8 => ?_, fun h8 => ?_⟩
  replace h8 := ndt h8
  refine g 46 47 [] ?_
  conv => whnf
  refine ⟨⟨I, I⟩, ?_⟩
  refine W.ret ?_
  refine EndsW.rt ?_
  conv => whnf
  refine ⟨⟨I, I, I⟩, ?_, rfl⟩
  rotate_left 1
  replace h8 := ndf h8
  refine W.skip ?_
  refine W.sq ?_
  refine g 46 52 [.call (V.b (decide (a_jobs = b_jobs))) ([[], []])] ?_
  conv => whnf
  refine ⟨⟨I, I, I, I, ⟨⟨I, I, I⟩, I, ⟨⟨I, I⟩, ⟨I, I⟩, I⟩, ⟨I, I⟩, Go.K.c_laws_eqJobS _ _ (by omega)⟩, I, I⟩, ?_⟩
  refine W.cn ?_
  conv => whnf
  refine ⟨fun h9 => ?_, fun h9 => ?_⟩
  replace h9 := ndt h9
  refine g 52 53 [] ?_
  conv => whnf
  refine ⟨⟨I, I⟩, ?_⟩
  refine W.ret ?_
  refine EndsW.rt ?_
  conv => whnf
  refine ⟨⟨I, I, I⟩, ?_, rfl⟩
  rotate_left 1
  replace h9 := ndf h9
  refine W.skip ?_
  refine W.sq ?_
  refine g 52 58 [.call (V.b (decide (a_seats = b_seats))) ([[], []])] ?_
  conv => whnf
  refine ⟨⟨I, I, I, I, ⟨⟨I, I, I⟩, I, ⟨⟨I, I⟩, ⟨I, I⟩, I⟩, ⟨I, I⟩, Go.K.c_laws_eqSeatS _ _ (by omega)⟩, I, I⟩, ?_⟩
  refine W.cn ?_
  conv => whnf
  refine ⟨fun h10 => ?_, fun h10 => ?_⟩
  replace h10 := ndt h10
  refine g 58 59 [] ?_
  conv => whnf
  refine ⟨⟨I, I⟩, ?_⟩
  refine W.ret ?_
  refine EndsW.rt ?_
  conv => whnf
  refine ⟨⟨I, I, I⟩, ?_, rfl⟩
  rotate_left 1
  replace h10 := ndf h10
  refine W.skip ?_
  refine W.sq ?_
  refine g 58 64 [.call (V.b (decide (a_owed = b_owed))) ([[], []])] ?_
  conv => whnf
  refine ⟨⟨I, I, I, I, ⟨⟨I, I, I⟩, I, ⟨⟨I, I⟩, ⟨I, I⟩, I⟩, ⟨I, I⟩, Go.K.c_laws_eqOwedS _ _ (by omega)⟩, I, I⟩, ?_⟩
  refine W.cn ?_
  conv => whnf
  refine ⟨fun h11 => ?_, fun h11 => ?_⟩
  replace h11 := ndt h11
  refine g 2 4 [] ?_
  conv => whnf
  refine ⟨⟨I, I⟩, ?_⟩
  refine W.ret ?_
  refine EndsW.rt ?_
  conv => whnf
  refine ⟨⟨I, I, I⟩, ?_, rfl⟩
  rotate_left 1
  replace h11 := ndf h11
  refine W.skip ?_
  refine g 2 4 [] ?_
  conv => whnf
  refine ⟨⟨I, I⟩, ?_⟩
  refine W.ret ?_
  refine EndsW.rt ?_
  conv => whnf
  refine ⟨⟨I, I, I⟩, ?_, rfl⟩
  rotate_left 1
  all_goals (first | exact vbt (by simp_all; done) | exact vbf (by simp_all; done))
end Go.K

end

section
set_option linter.unusedVariables false
set_option linter.unusedSimpArgs false
set_option maxHeartbeats 4000000
set_option maxRecDepth 20000
open Go Go.Tm Go.Proofs
namespace Go.K
theorem c_laws_markIntS (xs : List Int) (k : Int) (hl : xs.length ≤ 9223372036854775806) (h0 : 0 ≤ k) (hk : k + xs.length ≤ 1099511627776) : F n_laws_markIntS [.bor (.own [false] (xs.map intT)), .val (.i k)] (.i (k + xs.length)) [[.own [false] ((mkL (fun k _ => k) (fun _ => 1) k xs).map intT)], []] := by
  refine i_laws_markIntS ?_
  conv => whnf
  refine g 0 0 [] ?_
  conv => whnf
  refine ⟨⟨I, I⟩, ?_⟩
  refine W.sq ?_
  refine g 0 0 [] ?_
  conv => whnf
  refine ⟨⟨I, I⟩, ?_⟩
  refine W.blk ?_
  refine W.lp (fun s (n : Nat) => ⟨[(0, s.s 0), (1, .i (k + n)), (4, s.s 4), (5, .i n)], [(19, [.own [false] ((mkN (fun k _ => k) (fun _ => 1) k xs n).map intT)])], []⟩) (fun (n : Nat) => n ≤ xs.length) (fun (n : Nat) => xs.length - n) (0) [some 19] [] ⟨rfl, ⟨rfl, (congrArg (fun z => V.t (T.v (Value.int _ z))) (by simp [sumI])), rfl, rfl, I⟩, ⟨⟨rfl, ⟨rfl, I⟩⟩, I⟩, I⟩ (by omega) ?_
  intro n hn
  have hx := mkN_len (fun k _ => k) (fun _ => 1) k xs n
  have hs1 : ∀ x, xs[n]? = some x → ((mkN (fun k _ => k) (fun _ => 1) k xs n).map intT).set n (intT (k + n)) = (mkN (fun k _ => k) (fun _ => 1) k xs (n + 1)).map intT := fun x hx => by
    have := mkN_setm (f := (fun k _ => k)) (c := (fun _ => 1)) (g := intT) (k := k) hx
    rw [sum_one, List.length_take, Nat.min_eq_left hn] at this; exact this
  conv => whnf
  refine W.sq ?_
  refine g 6 9 [] ?_
  conv => whnf
  refine ⟨⟨I, I, I, I, I⟩, ?_⟩
  refine W.cn ?_
  conv => whnf
  refine ⟨fun h1 => ?_, fun h1 => ?_⟩
  replace h1 := dt h1
  simp only [List.length_map] at h1
  refine W.skip ?_
  refine W.sq ?_
  refine W.blk ?_
  obtain ⟨y1, hy1⟩ := some_at (xs := xs) (n := n) (by omega)
  refine g 9 16 [.n (n), .x (intT y1)] ?_
  conv => whnf
  refine ⟨⟨I, I, I, ⟨rfl, (by simp only [List.length_map, List.length_append, List.length_set, List.length_replicate, List.length_cons, List.length_nil, List.length_take, List.length_drop, fill_len, fillI_len, List.length_range, bytesT_len]; omega)⟩, ⟨⟨I, I⟩, mkN_getm (by assumption)⟩, I⟩, ?_⟩
  refine rg [.i (k + (↑n : Int) + (1 : Int))] ?_
  conv => whnf
  refine ⟨⟨I, w64 (by omega) (by omega), I, I⟩, ?_⟩
  refine rg [.i ((↑n : Int) + (1 : Int))] ?_
  conv => whnf
  refine ⟨⟨I, w64 (by omega) (by omega), I, I⟩, ?_⟩
  rotate_left 1
  replace h1 := df h1
  simp only [List.length_map] at h1
  refine W.exit ?_
  refine g 5 19 [] ?_
  conv => whnf
  refine ⟨⟨I, I, I⟩, ?_⟩
  refine W.ret ?_
  refine EndsW.rt ?_
  conv => whnf
  refine ⟨⟨I, I, I⟩, ?_, ?_⟩
  exact vi (by omega)
  rotate_left 1
  · refine ⟨n + 1, [some 19], [], ⟨rfl, ⟨rfl, (congrArg (fun z => V.t (T.v (Value.int _ z))) (by omega)), rfl, rfl, I⟩, ⟨⟨rfl, ⟨(congrArg (V.own _) (hs1 _ (by assumption))), I⟩⟩, I⟩, I⟩, ?_, ?_⟩
    rotate_left 1
    (dsimp only; omega)
    dsimp only
    omega
  · have e := mkN_all (fun k _ => k) (fun _ => 1) k xs (n := n) (by omega)
    rw [show n = xs.length by omega] at e ⊢
    rw [e]
def taskC (x : Task) : Int := 2 + (x.deps.length : Int)
theorem taskC_eq (x : Task) : taskC x = 2 + (x.deps.length : Int) := rfl
theorem taskC_nn (x : Task) : 0 ≤ taskC x := by
  simp only [taskC]; omega
def taskMk (k : Int) (x : Task) : Task := ⟨markT (k), k + 1, mkL (fun k _ => k) (fun _ => 1) (k + 1 + 1) x.deps⟩
theorem c_laws_markTaskS (xs : List Task) (k : Int) (hl : xs.length ≤ 9223372036854775806) (h0 : 0 ≤ k) (hk : k + sumI taskC xs ≤ 1099511627776) : F n_laws_markTaskS [.bor (.own taskK (xs.map taskT)), .val (.i k)] (.i (k + sumI taskC xs)) [[.own taskK ((mkL taskMk taskC k xs).map taskT)], []] := by
  refine i_laws_markTaskS ?_
  conv => whnf
  refine g 0 0 [] ?_
  conv => whnf
  refine ⟨⟨I, I⟩, ?_⟩
  refine W.sq ?_
  refine g 0 0 [] ?_
  conv => whnf
  refine ⟨⟨I, I⟩, ?_⟩
  refine W.blk ?_
  refine W.lp (fun s (n : Nat) => ⟨[(0, s.s 0), (1, .i (k + sumI taskC (xs.take n))), (4, s.s 4), (5, .i n)], [(35, [.own taskK ((mkN taskMk taskC k xs n).map taskT)])], []⟩) (fun (n : Nat) => n ≤ xs.length) (fun (n : Nat) => xs.length - n) (0) [some 35] [] ⟨rfl, ⟨rfl, (congrArg (fun z => V.t (T.v (Value.int _ z))) (by simp [sumI])), rfl, rfl, I⟩, ⟨⟨rfl, ⟨rfl, I⟩⟩, I⟩, I⟩ (by omega) ?_
  intro n hn
  have hx := mkN_len taskMk taskC k xs n
  have hq := sum_nn taskC_nn (xs.take n)
  have hle := sum_le taskC_nn xs (n + 1)
  have hle0 := sum_le taskC_nn xs n
  conv => whnf
  refine W.sq ?_
  refine g 6 9 [] ?_
  conv => whnf
  refine ⟨⟨I, I, I, I, I⟩, ?_⟩
  refine W.cn ?_
  conv => whnf
  refine ⟨fun h1 => ?_, fun h1 => ?_⟩
  replace h1 := dt h1
  simp only [List.length_map] at h1
  refine W.skip ?_
  refine W.sq ?_
  refine W.blk ?_
  obtain ⟨y1, hy1⟩ := some_at (xs := xs) (n := n) (by omega)
  have hk1 := sum_take (f := taskC) hy1
  have hk2 := taskC_nn y1
  have hk3 := taskC_eq y1
  refine g 9 18 [.call (V.s (markT (k + sumI taskC (List.take n xs)))) ([[]]), .n (n), .x (taskT y1)] ?_
  conv => whnf
  refine ⟨⟨I, I, I, ⟨⟨I, I⟩, I, ⟨⟨I, I⟩, I⟩, ⟨I, I⟩, Go.K.c_laws_markText _ (by omega)⟩, ⟨rfl, (by simp only [List.length_map, List.length_append, List.length_set, List.length_replicate, List.length_cons, List.length_nil, List.length_take, List.length_drop, fill_len, fillI_len, List.length_range, bytesT_len]; omega)⟩, I, ⟨⟨I, I⟩, mkN_getm (by assumption)⟩, I⟩, ?_⟩
  refine g 18 20 [.i (k + sumI taskC (List.take n xs) + (1 : Int))] ?_
  conv => whnf
  refine ⟨⟨I, w64 (by omega) (by omega), I, I⟩, ?_⟩
  refine g 20 25 [.n (n), .x (patch (taskT y1) ((0 : Nat) + (0 : Nat)) [T.v (Value.string (markT (k + sumI taskC (List.take n xs))))])] ?_
  conv => whnf
  refine ⟨⟨I, I, I, ⟨rfl, (by simp only [List.length_map, List.length_append, List.length_set, List.length_replicate, List.length_cons, List.length_nil, List.length_take, List.length_drop, fill_len, fillI_len, List.length_range, bytesT_len]; omega)⟩, I, ⟨⟨I, I⟩, getset (by simp only [List.length_map, List.length_append, List.length_set, List.length_replicate, List.length_cons, List.length_nil, List.length_take, List.length_drop, fill_len, fillI_len, List.length_range, bytesT_len]; omega)⟩, I⟩, ?_⟩
  refine g 25 27 [.i (k + sumI taskC (List.take n xs) + (1 : Int) + (1 : Int))] ?_
  conv => whnf
  refine ⟨⟨I, w64 (by omega) (by omega), I, I⟩, ?_⟩
  refine rg [.n (n), .x (patch (patch (taskT y1) ((0 : Nat) + (0 : Nat)) [T.v (Value.string (markT (k + sumI taskC (List.take n xs))))]) ((0 : Nat) + (1 : Nat)) [T.v (Value.int IntKind.i64 (k + sumI taskC (List.take n xs) + (1 : Int)))]), .x (patch (patch (taskT y1) ((0 : Nat) + (0 : Nat)) [T.v (Value.string (markT (k + sumI taskC (List.take n xs))))]) ((0 : Nat) + (1 : Nat)) [T.v (Value.int IntKind.i64 (k + sumI taskC (List.take n xs) + (1 : Int)))]), .call (V.i (k + sumI taskC (List.take n xs) + (1 : Int) + (1 : Int) + (↑(List.length (Task.deps y1)) : Int))) ([[V.own [false] (List.map intT (mkL (fun k x => k) (fun x => (1 : Int)) (k + sumI taskC (List.take n xs) + (1 : Int) + (1 : Int)) (Task.deps y1)))], []]), .x ([T.v (Value.string (markT (k + sumI taskC (List.take n xs)))), T.v (Value.int IntKind.i64 (k + sumI taskC (List.take n xs) + (1 : Int))), T.hole])] ?_
  conv => whnf
  refine ⟨⟨I, I, ⟨rfl, (by simp only [List.length_map, List.length_append, List.length_set, List.length_replicate, List.length_cons, List.length_nil, List.length_take, List.length_drop, fill_len, fillI_len, List.length_range, bytesT_len]; omega)⟩, I, getset (by simp only [List.length_map, List.length_append, List.length_set, List.length_replicate, List.length_cons, List.length_nil, List.length_take, List.length_drop, fill_len, fillI_len, List.length_range, bytesT_len]; omega), I, ⟨⟨⟨getset (by simp only [List.length_map, List.length_append, List.length_set, List.length_replicate, List.length_cons, List.length_nil, List.length_take, List.length_drop, fill_len, fillI_len, List.length_range, bytesT_len]; omega), I⟩, I, I⟩, I, ⟨I, ⟨I, I⟩, I⟩, ⟨⟨getset (by simp only [List.length_map, List.length_append, List.length_set, List.length_replicate, List.length_cons, List.length_nil, List.length_take, List.length_drop, fill_len, fillI_len, List.length_range, bytesT_len]; omega), I⟩, I⟩, Go.K.c_laws_markIntS _ _ (by omega) (by omega) (by omega)⟩, I, I⟩, ?_⟩
  refine rg [.i ((↑n : Int) + (1 : Int))] ?_
  conv => whnf
  refine ⟨⟨I, w64 (by omega) (by omega), I, I⟩, ?_⟩
  rotate_left 1
  replace h1 := df h1
  simp only [List.length_map] at h1
  refine W.exit ?_
  refine g 5 35 [] ?_
  conv => whnf
  refine ⟨⟨I, I, I⟩, ?_⟩
  refine W.ret ?_
  refine EndsW.rt ?_
  conv => whnf
  refine ⟨⟨I, I, I⟩, ?_, ?_⟩
  rotate_left 1
  rotate_left 1
  · refine ⟨n + 1, [some 35], [], ⟨rfl, ⟨rfl, (congrArg (fun z => V.t (T.v (Value.int _ z))) (by rw [sum_take (by assumption)]; omega)), rfl, rfl, I⟩, ⟨⟨rfl, ⟨(congrArg (V.own _) (by simp only [List.set_set]; exact mkN_setm (f := taskMk) (c := taskC) (by assumption))), I⟩⟩, I⟩, I⟩, ?_, ?_⟩
    rotate_left 1
    (dsimp only; omega)
    dsimp only
    omega
  · rw [take_all (by omega)]
  · rw [mkN_all taskMk taskC k xs (n := n) (by omega)]
def planTop (k : Int) (x : Plan) : Plan := ⟨mkL taskMk taskC (k) x.tasks⟩
def planTopC (x : Plan) : Int := sumI taskC x.tasks
theorem planTopC_nn (x : Plan) : 0 ≤ planTopC x := by
  have := sum_nn taskC_nn x.tasks
  simp only [planTopC]; omega
theorem c_laws_markPlan (x : Plan) (k : Int) (hl : x.tasks.length ≤ 9223372036854775806) (h0 : 0 ≤ k) (hk : k + planTopC x ≤ 1099511627776) : F n_laws_markPlan [.bor (planO x), .val (.i k)] (.i (k + planTopC x)) [cellsOf (planO (planTop k x)), []] := by
  have hn0 := sum_nn taskC_nn x.tasks
  have hz : planTopC x = _ := rfl
  simp only [planTopC] at hz
  refine i_laws_markPlan ?_
  conv => whnf
  refine g 0 1 [] ?_
  conv => whnf
  refine ⟨⟨I, I, I⟩, ?_⟩
  refine g 5 9 [.call (V.i (k + sumI taskC (Plan.tasks x))) ([[V.own taskK (List.map taskT (mkL taskMk taskC k (Plan.tasks x)))], []])] ?_
  conv => whnf
  refine ⟨⟨I, I, I, ⟨⟨⟨I, I⟩, I, I⟩, I, ⟨I, ⟨I, I⟩, I⟩, ⟨I, I⟩, Go.K.c_laws_markTaskS _ _ (by assumption) (by assumption) (by assumption)⟩, I, I⟩, ?_⟩
  refine g 1 3 [] ?_
  conv => whnf
  refine ⟨⟨I, I, I⟩, ?_⟩
  refine W.ret ?_
  refine EndsW.rt ?_
  conv => whnf
  refine ⟨⟨I, I, I⟩, ?_, rfl⟩
  rfl
end Go.K

end

section
set_option linter.unusedVariables false
set_option linter.unusedSimpArgs false
set_option maxHeartbeats 4000000
set_option maxRecDepth 20000
open Go Go.Tm Go.Proofs
namespace Go.K
theorem planC_le {p : Plan} (h : planSz p ≤ 1048576) : p.tasks.length ≤ 1048576 ∧ planTopC p ≤ 4194304 := by
  have hn := sum_nn taskSz_nn p.tasks
  have e : planSz p = p.tasks.length + sumI taskSz p.tasks := rfl
  refine ⟨by omega, ?_⟩
  have : ∀ xs : List Task, sumI taskC xs ≤ 2 * xs.length + sumI taskSz xs := by
    intro xs
    induction xs with
    | nil => simp [sumI]
    | cons x xs ih =>
      have := taskC_eq x
      have e : taskSz x = x.name.size + x.deps.length := rfl
      simp only [sumI, List.length_cons]; omega
  have := this p.tasks
  unfold planTopC; omega
end Go.K

end

section
set_option linter.unusedVariables false
set_option linter.unusedSimpArgs false
set_option maxHeartbeats 4000000
set_option maxRecDepth 20000
open Go Go.Tm Go.Proofs
namespace Go.K
def jobC (x : Job) : Int := 3
theorem jobC_eq (x : Job) : jobC x = 3 := rfl
theorem jobC_nn (x : Job) : 0 ≤ jobC x := by
  simp only [jobC]; omega
def jobMk (k : Int) (x : Job) : Job := ⟨k, k + 1, k + 1 + 1⟩
def seatC (x : Seat) : Int := 2
theorem seatC_eq (x : Seat) : seatC x = 2 := rfl
theorem seatC_nn (x : Seat) : 0 ≤ seatC x := by
  simp only [seatC]; omega
def seatMk (k : Int) (x : Seat) : Seat := ⟨decide (Int.tmod (k) 3 = 0), k + 1⟩
def owedC (x : Owed) : Int := 3
theorem owedC_eq (x : Owed) : owedC x = 3 := rfl
theorem owedC_nn (x : Owed) : 0 ≤ owedC x := by
  simp only [owedC]; omega
def owedMk (k : Int) (x : Owed) : Owed := ⟨k, k + 1, k + 1 + 1⟩
theorem c_laws_markJobS (xs : List Job) (k : Int) (hl : xs.length ≤ 9223372036854775806) (h0 : 0 ≤ k) (hk : k + sumI jobC xs ≤ 1099511627776) : F n_laws_markJobS [.bor (.own jobK (xs.map jobT)), .val (.i k)] (.i (k + sumI jobC xs)) [[.own jobK ((mkL jobMk jobC k xs).map jobT)], []] := by
  refine i_laws_markJobS ?_
  conv => whnf
  refine g 0 0 [] ?_
  conv => whnf
  refine ⟨⟨I, I⟩, ?_⟩
  refine W.sq ?_
  refine g 0 0 [] ?_
  conv => whnf
  refine ⟨⟨I, I⟩, ?_⟩
  refine W.blk ?_
  refine W.lp (fun s (n : Nat) => ⟨[(0, s.s 0), (1, .i (k + sumI jobC (xs.take n))), (4, s.s 4), (5, .i n)], [(34, [.own jobK ((mkN jobMk jobC k xs n).map jobT)])], []⟩) (fun (n : Nat) => n ≤ xs.length) (fun (n : Nat) => xs.length - n) (0) [some 34] [] ⟨rfl, ⟨rfl, (congrArg (fun z => V.t (T.v (Value.int _ z))) (by simp [sumI])), rfl, rfl, I⟩, ⟨⟨rfl, ⟨rfl, I⟩⟩, I⟩, I⟩ (by omega) ?_
  intro n hn
  have hx := mkN_len jobMk jobC k xs n
  have hq := sum_nn jobC_nn (xs.take n)
  have hle := sum_le jobC_nn xs (n + 1)
  have hle0 := sum_le jobC_nn xs n
  conv => whnf
  refine W.sq ?_
  refine g 6 9 [] ?_
  conv => whnf
  refine ⟨⟨I, I, I, I, I⟩, ?_⟩
  refine W.cn ?_
  conv => whnf
  refine ⟨fun h1 => ?_, fun h1 => ?_⟩
  replace h1 := dt h1
  simp only [List.length_map] at h1
  refine W.skip ?_
  refine W.sq ?_
  refine W.blk ?_
  obtain ⟨y1, hy1⟩ := some_at (xs := xs) (n := n) (by omega)
  have hk1 := sum_take (f := jobC) hy1
  have hk2 := jobC_nn y1
  have hk3 := jobC_eq y1
  refine g 9 17 [.n (n), .x (jobT y1)] ?_
  conv => whnf
  refine ⟨⟨I, I, I, ⟨rfl, (by simp only [List.length_map, List.length_append, List.length_set, List.length_replicate, List.length_cons, List.length_nil, List.length_take, List.length_drop, fill_len, fillI_len, List.length_range, bytesT_len]; omega)⟩, I, ⟨⟨I, I⟩, mkN_getm (by assumption)⟩, I⟩, ?_⟩
  refine g 17 19 [.i (k + sumI jobC (List.take n xs) + (1 : Int))] ?_
  conv => whnf
  refine ⟨⟨I, w64 (by omega) (by omega), I, I⟩, ?_⟩
  refine g 19 24 [.n (n), .x (patch (jobT y1) ((0 : Nat) + (0 : Nat)) [T.v (Value.int IntKind.i64 (k + sumI jobC (List.take n xs)))])] ?_
  conv => whnf
  refine ⟨⟨I, I, I, ⟨rfl, (by simp only [List.length_map, List.length_append, List.length_set, List.length_replicate, List.length_cons, List.length_nil, List.length_take, List.length_drop, fill_len, fillI_len, List.length_range, bytesT_len]; omega)⟩, I, ⟨⟨I, I⟩, getset (by simp only [List.length_map, List.length_append, List.length_set, List.length_replicate, List.length_cons, List.length_nil, List.length_take, List.length_drop, fill_len, fillI_len, List.length_range, bytesT_len]; omega)⟩, I⟩, ?_⟩
  rw [List.set_set]
  refine g 24 26 [.i (k + sumI jobC (List.take n xs) + (1 : Int) + (1 : Int))] ?_
  conv => whnf
  refine ⟨⟨I, w64 (by omega) (by omega), I, I⟩, ?_⟩
  refine g 26 31 [.n (n), .x (patch (patch (jobT y1) ((0 : Nat) + (0 : Nat)) [T.v (Value.int IntKind.i64 (k + sumI jobC (List.take n xs)))]) ((0 : Nat) + (1 : Nat)) [T.v (Value.int IntKind.i64 (k + sumI jobC (List.take n xs) + (1 : Int)))])] ?_
  conv => whnf
  refine ⟨⟨I, I, I, ⟨rfl, (by simp only [List.length_map, List.length_append, List.length_set, List.length_replicate, List.length_cons, List.length_nil, List.length_take, List.length_drop, fill_len, fillI_len, List.length_range, bytesT_len]; omega)⟩, I, ⟨⟨I, I⟩, getset (by simp only [List.length_map, List.length_append, List.length_set, List.length_replicate, List.length_cons, List.length_nil, List.length_take, List.length_drop, fill_len, fillI_len, List.length_range, bytesT_len]; omega)⟩, I⟩, ?_⟩
  rw [List.set_set]
  refine rg [.i (k + sumI jobC (List.take n xs) + (1 : Int) + (1 : Int) + (1 : Int))] ?_
  conv => whnf
  refine ⟨⟨I, w64 (by omega) (by omega), I, I⟩, ?_⟩
  refine rg [.i ((↑n : Int) + (1 : Int))] ?_
  conv => whnf
  refine ⟨⟨I, w64 (by omega) (by omega), I, I⟩, ?_⟩
  rotate_left 1
  replace h1 := df h1
  simp only [List.length_map] at h1
  refine W.exit ?_
  refine g 5 34 [] ?_
  conv => whnf
  refine ⟨⟨I, I, I⟩, ?_⟩
  refine W.ret ?_
  refine EndsW.rt ?_
  conv => whnf
  refine ⟨⟨I, I, I⟩, ?_, ?_⟩
  rotate_left 1
  rotate_left 1
  · refine ⟨n + 1, [some 34], [], ⟨rfl, ⟨rfl, (congrArg (fun z => V.t (T.v (Value.int _ z))) (by rw [sum_take (by assumption)]; omega)), rfl, rfl, I⟩, ⟨⟨rfl, ⟨(congrArg (V.own _) (mkN_setm (f := jobMk) (c := jobC) (by assumption))), I⟩⟩, I⟩, I⟩, ?_, ?_⟩
    rotate_left 1
    (dsimp only; omega)
    dsimp only
    omega
  · rw [take_all (by omega)]
  · rw [mkN_all jobMk jobC k xs (n := n) (by omega)]
theorem c_laws_markSeatS (xs : List Seat) (k : Int) (hl : xs.length ≤ 9223372036854775806) (h0 : 0 ≤ k) (hk : k + sumI seatC xs ≤ 1099511627776) : F n_laws_markSeatS [.bor (.own seatK (xs.map seatT)), .val (.i k)] (.i (k + sumI seatC xs)) [[.own seatK ((mkL seatMk seatC k xs).map seatT)], []] := by
  refine i_laws_markSeatS ?_
  conv => whnf
  refine g 0 0 [] ?_
  conv => whnf
  refine ⟨⟨I, I⟩, ?_⟩
  refine W.sq ?_
  refine g 0 0 [] ?_
  conv => whnf
  refine ⟨⟨I, I⟩, ?_⟩
  refine W.blk ?_
  refine W.lp (fun s (n : Nat) => ⟨[(0, s.s 0), (1, .i (k + sumI seatC (xs.take n))), (4, s.s 4), (5, .i n)], [(29, [.own seatK ((mkN seatMk seatC k xs n).map seatT)])], []⟩) (fun (n : Nat) => n ≤ xs.length) (fun (n : Nat) => xs.length - n) (0) [some 29] [] ⟨rfl, ⟨rfl, (congrArg (fun z => V.t (T.v (Value.int _ z))) (by simp [sumI])), rfl, rfl, I⟩, ⟨⟨rfl, ⟨rfl, I⟩⟩, I⟩, I⟩ (by omega) ?_
  intro n hn
  have hx := mkN_len seatMk seatC k xs n
  have hq := sum_nn seatC_nn (xs.take n)
  have hle := sum_le seatC_nn xs (n + 1)
  have hle0 := sum_le seatC_nn xs n
  conv => whnf
  refine W.sq ?_
  refine g 6 9 [] ?_
  conv => whnf
  refine ⟨⟨I, I, I, I, I⟩, ?_⟩
  refine W.cn ?_
  conv => whnf
  refine ⟨fun h1 => ?_, fun h1 => ?_⟩
  replace h1 := dt h1
  simp only [List.length_map] at h1
  refine W.skip ?_
  refine W.sq ?_
  refine W.blk ?_
  obtain ⟨y1, hy1⟩ := some_at (xs := xs) (n := n) (by omega)
  have hk1 := sum_take (f := seatC) hy1
  have hk2 := seatC_nn y1
  have hk3 := seatC_eq y1
  refine g 9 19 [.i (Int.tmod (k + sumI seatC (List.take n xs)) (3 : Int)), .n (n), .x (seatT y1)] ?_
  conv => whnf
  refine ⟨⟨I, I, I, ⟨(by omega), rfl⟩, I, ⟨rfl, (by simp only [List.length_map, List.length_append, List.length_set, List.length_replicate, List.length_cons, List.length_nil, List.length_take, List.length_drop, fill_len, fillI_len, List.length_range, bytesT_len]; omega)⟩, I, ⟨⟨I, I⟩, mkN_getm (by assumption)⟩, I⟩, ?_⟩
  refine g 19 21 [.i (k + sumI seatC (List.take n xs) + (1 : Int))] ?_
  conv => whnf
  refine ⟨⟨I, w64 (by omega) (by omega), I, I⟩, ?_⟩
  refine g 21 26 [.n (n), .x (patch (seatT y1) ((0 : Nat) + (0 : Nat)) [T.v (Value.bool (decide (Int.tmod (k + sumI seatC (List.take n xs)) (3 : Int) = (0 : Int))))])] ?_
  conv => whnf
  refine ⟨⟨I, I, I, ⟨rfl, (by simp only [List.length_map, List.length_append, List.length_set, List.length_replicate, List.length_cons, List.length_nil, List.length_take, List.length_drop, fill_len, fillI_len, List.length_range, bytesT_len]; omega)⟩, I, ⟨⟨I, I⟩, getset (by simp only [List.length_map, List.length_append, List.length_set, List.length_replicate, List.length_cons, List.length_nil, List.length_take, List.length_drop, fill_len, fillI_len, List.length_range, bytesT_len]; omega)⟩, I⟩, ?_⟩
  rw [List.set_set]
  refine rg [.i (k + sumI seatC (List.take n xs) + (1 : Int) + (1 : Int))] ?_
  conv => whnf
  refine ⟨⟨I, w64 (by omega) (by omega), I, I⟩, ?_⟩
  refine rg [.i ((↑n : Int) + (1 : Int))] ?_
  conv => whnf
  refine ⟨⟨I, w64 (by omega) (by omega), I, I⟩, ?_⟩
  rotate_left 1
  replace h1 := df h1
  simp only [List.length_map] at h1
  refine W.exit ?_
  refine g 5 29 [] ?_
  conv => whnf
  refine ⟨⟨I, I, I⟩, ?_⟩
  refine W.ret ?_
  refine EndsW.rt ?_
  conv => whnf
  refine ⟨⟨I, I, I⟩, ?_, ?_⟩
  rotate_left 1
  rotate_left 1
  · refine ⟨n + 1, [some 29], [], ⟨rfl, ⟨rfl, (congrArg (fun z => V.t (T.v (Value.int _ z))) (by rw [sum_take (by assumption)]; omega)), rfl, rfl, I⟩, ⟨⟨rfl, ⟨(congrArg (V.own _) (mkN_setm (f := seatMk) (c := seatC) (by assumption))), I⟩⟩, I⟩, I⟩, ?_, ?_⟩
    rotate_left 1
    (dsimp only; omega)
    dsimp only
    omega
  · rw [take_all (by omega)]
  · rw [mkN_all seatMk seatC k xs (n := n) (by omega)]
theorem c_laws_markOwedS (xs : List Owed) (k : Int) (hl : xs.length ≤ 9223372036854775806) (h0 : 0 ≤ k) (hk : k + sumI owedC xs ≤ 1099511627776) : F n_laws_markOwedS [.bor (.own owedK (xs.map owedT)), .val (.i k)] (.i (k + sumI owedC xs)) [[.own owedK ((mkL owedMk owedC k xs).map owedT)], []] := by
  refine i_laws_markOwedS ?_
  conv => whnf
  refine g 0 0 [] ?_
  conv => whnf
  refine ⟨⟨I, I⟩, ?_⟩
  refine W.sq ?_
  refine g 0 0 [] ?_
  conv => whnf
  refine ⟨⟨I, I⟩, ?_⟩
  refine W.blk ?_
  refine W.lp (fun s (n : Nat) => ⟨[(0, s.s 0), (1, .i (k + sumI owedC (xs.take n))), (4, s.s 4), (5, .i n)], [(34, [.own owedK ((mkN owedMk owedC k xs n).map owedT)])], []⟩) (fun (n : Nat) => n ≤ xs.length) (fun (n : Nat) => xs.length - n) (0) [some 34] [] ⟨rfl, ⟨rfl, (congrArg (fun z => V.t (T.v (Value.int _ z))) (by simp [sumI])), rfl, rfl, I⟩, ⟨⟨rfl, ⟨rfl, I⟩⟩, I⟩, I⟩ (by omega) ?_
  intro n hn
  have hx := mkN_len owedMk owedC k xs n
  have hq := sum_nn owedC_nn (xs.take n)
  have hle := sum_le owedC_nn xs (n + 1)
  have hle0 := sum_le owedC_nn xs n
  conv => whnf
  refine W.sq ?_
  refine g 6 9 [] ?_
  conv => whnf
  refine ⟨⟨I, I, I, I, I⟩, ?_⟩
  refine W.cn ?_
  conv => whnf
  refine ⟨fun h1 => ?_, fun h1 => ?_⟩
  replace h1 := dt h1
  simp only [List.length_map] at h1
  refine W.skip ?_
  refine W.sq ?_
  refine W.blk ?_
  obtain ⟨y1, hy1⟩ := some_at (xs := xs) (n := n) (by omega)
  have hk1 := sum_take (f := owedC) hy1
  have hk2 := owedC_nn y1
  have hk3 := owedC_eq y1
  refine g 9 17 [.n (n), .x (owedT y1)] ?_
  conv => whnf
  refine ⟨⟨I, I, I, ⟨rfl, (by simp only [List.length_map, List.length_append, List.length_set, List.length_replicate, List.length_cons, List.length_nil, List.length_take, List.length_drop, fill_len, fillI_len, List.length_range, bytesT_len]; omega)⟩, I, ⟨⟨I, I⟩, mkN_getm (by assumption)⟩, I⟩, ?_⟩
  refine g 17 19 [.i (k + sumI owedC (List.take n xs) + (1 : Int))] ?_
  conv => whnf
  refine ⟨⟨I, w64 (by omega) (by omega), I, I⟩, ?_⟩
  refine g 19 24 [.n (n), .x (patch (owedT y1) ((0 : Nat) + (0 : Nat)) [T.v (Value.int IntKind.i64 (k + sumI owedC (List.take n xs)))])] ?_
  conv => whnf
  refine ⟨⟨I, I, I, ⟨rfl, (by simp only [List.length_map, List.length_append, List.length_set, List.length_replicate, List.length_cons, List.length_nil, List.length_take, List.length_drop, fill_len, fillI_len, List.length_range, bytesT_len]; omega)⟩, I, ⟨⟨I, I⟩, getset (by simp only [List.length_map, List.length_append, List.length_set, List.length_replicate, List.length_cons, List.length_nil, List.length_take, List.length_drop, fill_len, fillI_len, List.length_range, bytesT_len]; omega)⟩, I⟩, ?_⟩
  rw [List.set_set]
  refine g 24 26 [.i (k + sumI owedC (List.take n xs) + (1 : Int) + (1 : Int))] ?_
  conv => whnf
  refine ⟨⟨I, w64 (by omega) (by omega), I, I⟩, ?_⟩
  refine g 26 31 [.n (n), .x (patch (patch (owedT y1) ((0 : Nat) + (0 : Nat)) [T.v (Value.int IntKind.i64 (k + sumI owedC (List.take n xs)))]) ((0 : Nat) + (1 : Nat)) [T.v (Value.int IntKind.i64 (k + sumI owedC (List.take n xs) + (1 : Int)))])] ?_
  conv => whnf
  refine ⟨⟨I, I, I, ⟨rfl, (by simp only [List.length_map, List.length_append, List.length_set, List.length_replicate, List.length_cons, List.length_nil, List.length_take, List.length_drop, fill_len, fillI_len, List.length_range, bytesT_len]; omega)⟩, I, ⟨⟨I, I⟩, getset (by simp only [List.length_map, List.length_append, List.length_set, List.length_replicate, List.length_cons, List.length_nil, List.length_take, List.length_drop, fill_len, fillI_len, List.length_range, bytesT_len]; omega)⟩, I⟩, ?_⟩
  rw [List.set_set]
  refine rg [.i (k + sumI owedC (List.take n xs) + (1 : Int) + (1 : Int) + (1 : Int))] ?_
  conv => whnf
  refine ⟨⟨I, w64 (by omega) (by omega), I, I⟩, ?_⟩
  refine rg [.i ((↑n : Int) + (1 : Int))] ?_
  conv => whnf
  refine ⟨⟨I, w64 (by omega) (by omega), I, I⟩, ?_⟩
  rotate_left 1
  replace h1 := df h1
  simp only [List.length_map] at h1
  refine W.exit ?_
  refine g 5 34 [] ?_
  conv => whnf
  refine ⟨⟨I, I, I⟩, ?_⟩
  refine W.ret ?_
  refine EndsW.rt ?_
  conv => whnf
  refine ⟨⟨I, I, I⟩, ?_, ?_⟩
  rotate_left 1
  rotate_left 1
  · refine ⟨n + 1, [some 34], [], ⟨rfl, ⟨rfl, (congrArg (fun z => V.t (T.v (Value.int _ z))) (by rw [sum_take (by assumption)]; omega)), rfl, rfl, I⟩, ⟨⟨rfl, ⟨(congrArg (V.own _) (mkN_setm (f := owedMk) (c := owedC) (by assumption))), I⟩⟩, I⟩, I⟩, ?_, ?_⟩
    rotate_left 1
    (dsimp only; omega)
    dsimp only
    omega
  · rw [take_all (by omega)]
  · rw [mkN_all owedMk owedC k xs (n := n) (by omega)]
theorem c_laws_heldJobS (xs : List Job) (k : Int) (hl : xs.length ≤ 9223372036854775806) (h0 : 0 ≤ k) (hk : k + sumI jobC xs ≤ 1099511627776) : F n_laws_heldJobS [.val (.t (.slc jobK ((mkL jobMk jobC k xs).map jobT))), .val (.i k)] (.i (k + sumI jobC xs)) [[], []] := by
  have hx := mkL_len jobMk jobC k xs
  refine i_laws_heldJobS ?_
  conv => whnf
  refine g 0 0 [] ?_
  conv => whnf
  refine ⟨⟨I, I⟩, ?_⟩
  refine W.sq ?_
  refine g 0 0 [] ?_
  conv => whnf
  refine ⟨⟨I, I⟩, ?_⟩
  refine W.blk ?_
  refine W.lp (fun s (n : Nat) => ⟨[(0, s.s 0), (1, .i (k + sumI jobC (xs.take n))), (5, .i n)], [], []⟩) (fun (n : Nat) => n ≤ xs.length) (fun (n : Nat) => xs.length - n) (0) [] [] ⟨rfl, ⟨rfl, (congrArg (fun z => V.t (T.v (Value.int _ z))) (by simp [sumI])), rfl, I⟩, I, I⟩ (by omega) ?_
  intro n hn
  have hq := sum_nn jobC_nn (xs.take n)
  have hle := sum_le jobC_nn xs (n + 1)
  have hle0 := sum_le jobC_nn xs n
  conv => whnf
  refine W.sq ?_
  refine g 6 9 [] ?_
  conv => whnf
  refine ⟨⟨I, I, I, I, I⟩, ?_⟩
  refine W.cn ?_
  conv => whnf
  refine ⟨fun h1 => ?_, fun h1 => ?_⟩
  replace h1 := dt h1
  simp only [List.length_map] at h1
  refine W.skip ?_
  refine W.sq ?_
  refine W.blk ?_
  refine W.sq ?_
  obtain ⟨y1, hy1⟩ := some_at (xs := xs) (n := n) (by omega)
  have hk1 := sum_take (f := jobC) hy1
  have hk2 := jobC_nn y1
  have hk3 := jobC_eq y1
  have hk4 := mkL_get (f := jobMk) (c := jobC) (k := k) hy1
  refine g 9 18 [.x (jobT (jobMk (k + sumI jobC (List.take n xs)) y1))] ?_
  conv => whnf
  refine ⟨⟨I, I, ⟨(by omega), ixl (by assumption)⟩, I, I, I, I, I⟩, ?_⟩
  refine W.cn ?_
  conv => whnf
  refine ⟨noT (notF rfl), fun _ => ?_⟩
  refine W.skip ?_
  refine g 18 21 [.i (k + sumI jobC (List.take n xs) + (1 : Int))] ?_
  conv => whnf
  refine ⟨⟨I, w64 (by omega) (by omega), I, I⟩, ?_⟩
  refine W.sq ?_
  refine g 21 27 [.x (jobT (jobMk (k + sumI jobC (List.take n xs)) y1))] ?_
  conv => whnf
  refine ⟨⟨I, I, ⟨(by omega), ixl (by assumption)⟩, I, I, I, I, I⟩, ?_⟩
  refine W.cn ?_
  conv => whnf
  refine ⟨noT (notF rfl), fun _ => ?_⟩
  refine W.skip ?_
  refine g 27 30 [.i (k + sumI jobC (List.take n xs) + (1 : Int) + (1 : Int))] ?_
  conv => whnf
  refine ⟨⟨I, w64 (by omega) (by omega), I, I⟩, ?_⟩
  refine W.sq ?_
  refine g 30 36 [.x (jobT (jobMk (k + sumI jobC (List.take n xs)) y1))] ?_
  conv => whnf
  refine ⟨⟨I, I, ⟨(by omega), ixl (by assumption)⟩, I, I, I, I, I⟩, ?_⟩
  refine W.cn ?_
  conv => whnf
  refine ⟨noT (notF rfl), fun _ => ?_⟩
  refine W.skip ?_
  refine rg [.i (k + sumI jobC (List.take n xs) + (1 : Int) + (1 : Int) + (1 : Int))] ?_
  conv => whnf
  refine ⟨⟨I, w64 (by omega) (by omega), I, I⟩, ?_⟩
  refine rg [.i ((↑n : Int) + (1 : Int))] ?_
  conv => whnf
  refine ⟨⟨I, w64 (by omega) (by omega), I, I⟩, ?_⟩
  rotate_left 1
  replace h1 := df h1
  simp only [List.length_map] at h1
  refine W.exit ?_
  refine g 5 40 [] ?_
  conv => whnf
  refine ⟨⟨I, I, I⟩, ?_⟩
  refine W.ret ?_
  refine EndsW.rt ?_
  conv => whnf
  refine ⟨⟨I, I, I⟩, ?_, rfl⟩
  rotate_left 1
  · refine ⟨n + 1, [], [], ⟨rfl, ⟨rfl, (congrArg (fun z => V.t (T.v (Value.int _ z))) (by rw [sum_take (by assumption)]; omega)), rfl, I⟩, I, I⟩, ?_, ?_⟩
    rotate_left 1
    (dsimp only; omega)
    dsimp only
    omega
  · rw [take_all (by omega)]
theorem c_laws_heldSeatS (xs : List Seat) (k : Int) (hl : xs.length ≤ 9223372036854775806) (h0 : 0 ≤ k) (hk : k + sumI seatC xs ≤ 1099511627776) : F n_laws_heldSeatS [.val (.t (.slc seatK ((mkL seatMk seatC k xs).map seatT))), .val (.i k)] (.i (k + sumI seatC xs)) [[], []] := by
  have hx := mkL_len seatMk seatC k xs
  refine i_laws_heldSeatS ?_
  conv => whnf
  refine g 0 0 [] ?_
  conv => whnf
  refine ⟨⟨I, I⟩, ?_⟩
  refine W.sq ?_
  refine g 0 0 [] ?_
  conv => whnf
  refine ⟨⟨I, I⟩, ?_⟩
  refine W.blk ?_
  refine W.lp (fun s (n : Nat) => ⟨[(0, s.s 0), (1, .i (k + sumI seatC (xs.take n))), (5, .i n)], [], []⟩) (fun (n : Nat) => n ≤ xs.length) (fun (n : Nat) => xs.length - n) (0) [] [] ⟨rfl, ⟨rfl, (congrArg (fun z => V.t (T.v (Value.int _ z))) (by simp [sumI])), rfl, I⟩, I, I⟩ (by omega) ?_
  intro n hn
  have hq := sum_nn seatC_nn (xs.take n)
  have hle := sum_le seatC_nn xs (n + 1)
  have hle0 := sum_le seatC_nn xs n
  conv => whnf
  refine W.sq ?_
  refine g 6 9 [] ?_
  conv => whnf
  refine ⟨⟨I, I, I, I, I⟩, ?_⟩
  refine W.cn ?_
  conv => whnf
  refine ⟨fun h1 => ?_, fun h1 => ?_⟩
  replace h1 := dt h1
  simp only [List.length_map] at h1
  refine W.skip ?_
  refine W.sq ?_
  refine W.blk ?_
  refine W.sq ?_
  obtain ⟨y1, hy1⟩ := some_at (xs := xs) (n := n) (by omega)
  have hk1 := sum_take (f := seatC) hy1
  have hk2 := seatC_nn y1
  have hk3 := seatC_eq y1
  have hk4 := mkL_get (f := seatMk) (c := seatC) (k := k) hy1
  refine g 9 20 [.x (seatT (seatMk (k + sumI seatC (List.take n xs)) y1)), .i (Int.tmod (k + sumI seatC (List.take n xs)) (3 : Int))] ?_
  conv => whnf
  refine ⟨⟨I, I, ⟨(by omega), ixl (by assumption)⟩, I, I, I, ⟨(by omega), rfl⟩, I, I, I⟩, ?_⟩
  refine W.cn ?_
  conv => whnf
  refine ⟨noT (notF rfl), fun _ => ?_⟩
  refine W.skip ?_
  refine g 20 23 [.i (k + sumI seatC (List.take n xs) + (1 : Int))] ?_
  conv => whnf
  refine ⟨⟨I, w64 (by omega) (by omega), I, I⟩, ?_⟩
  refine W.sq ?_
  refine g 23 29 [.x (seatT (seatMk (k + sumI seatC (List.take n xs)) y1))] ?_
  conv => whnf
  refine ⟨⟨I, I, ⟨(by omega), ixl (by assumption)⟩, I, I, I, I, I⟩, ?_⟩
  refine W.cn ?_
  conv => whnf
  refine ⟨noT (notF rfl), fun _ => ?_⟩
  refine W.skip ?_
  refine rg [.i (k + sumI seatC (List.take n xs) + (1 : Int) + (1 : Int))] ?_
  conv => whnf
  refine ⟨⟨I, w64 (by omega) (by omega), I, I⟩, ?_⟩
  refine rg [.i ((↑n : Int) + (1 : Int))] ?_
  conv => whnf
  refine ⟨⟨I, w64 (by omega) (by omega), I, I⟩, ?_⟩
  rotate_left 1
  replace h1 := df h1
  simp only [List.length_map] at h1
  refine W.exit ?_
  refine g 5 33 [] ?_
  conv => whnf
  refine ⟨⟨I, I, I⟩, ?_⟩
  refine W.ret ?_
  refine EndsW.rt ?_
  conv => whnf
  refine ⟨⟨I, I, I⟩, ?_, rfl⟩
  rotate_left 1
  · refine ⟨n + 1, [], [], ⟨rfl, ⟨rfl, (congrArg (fun z => V.t (T.v (Value.int _ z))) (by rw [sum_take (by assumption)]; omega)), rfl, I⟩, I, I⟩, ?_, ?_⟩
    rotate_left 1
    (dsimp only; omega)
    dsimp only
    omega
  · rw [take_all (by omega)]
theorem c_laws_heldOwedS (xs : List Owed) (k : Int) (hl : xs.length ≤ 9223372036854775806) (h0 : 0 ≤ k) (hk : k + sumI owedC xs ≤ 1099511627776) : F n_laws_heldOwedS [.val (.t (.slc owedK ((mkL owedMk owedC k xs).map owedT))), .val (.i k)] (.i (k + sumI owedC xs)) [[], []] := by
  have hx := mkL_len owedMk owedC k xs
  refine i_laws_heldOwedS ?_
  conv => whnf
  refine g 0 0 [] ?_
  conv => whnf
  refine ⟨⟨I, I⟩, ?_⟩
  refine W.sq ?_
  refine g 0 0 [] ?_
  conv => whnf
  refine ⟨⟨I, I⟩, ?_⟩
  refine W.blk ?_
  refine W.lp (fun s (n : Nat) => ⟨[(0, s.s 0), (1, .i (k + sumI owedC (xs.take n))), (5, .i n)], [], []⟩) (fun (n : Nat) => n ≤ xs.length) (fun (n : Nat) => xs.length - n) (0) [] [] ⟨rfl, ⟨rfl, (congrArg (fun z => V.t (T.v (Value.int _ z))) (by simp [sumI])), rfl, I⟩, I, I⟩ (by omega) ?_
  intro n hn
  have hq := sum_nn owedC_nn (xs.take n)
  have hle := sum_le owedC_nn xs (n + 1)
  have hle0 := sum_le owedC_nn xs n
  conv => whnf
  refine W.sq ?_
  refine g 6 9 [] ?_
  conv => whnf
  refine ⟨⟨I, I, I, I, I⟩, ?_⟩
  refine W.cn ?_
  conv => whnf
  refine ⟨fun h1 => ?_, fun h1 => ?_⟩
  replace h1 := dt h1
  simp only [List.length_map] at h1
  refine W.skip ?_
  refine W.sq ?_
  refine W.blk ?_
  refine W.sq ?_
  obtain ⟨y1, hy1⟩ := some_at (xs := xs) (n := n) (by omega)
  have hk1 := sum_take (f := owedC) hy1
  have hk2 := owedC_nn y1
  have hk3 := owedC_eq y1
  have hk4 := mkL_get (f := owedMk) (c := owedC) (k := k) hy1
  refine g 9 18 [.x (owedT (owedMk (k + sumI owedC (List.take n xs)) y1))] ?_
  conv => whnf
  refine ⟨⟨I, I, ⟨(by omega), ixl (by assumption)⟩, I, I, I, I, I⟩, ?_⟩
  refine W.cn ?_
  conv => whnf
  refine ⟨noT (notF rfl), fun _ => ?_⟩
  refine W.skip ?_
  refine g 18 21 [.i (k + sumI owedC (List.take n xs) + (1 : Int))] ?_
  conv => whnf
  refine ⟨⟨I, w64 (by omega) (by omega), I, I⟩, ?_⟩
  refine W.sq ?_
  refine g 21 27 [.x (owedT (owedMk (k + sumI owedC (List.take n xs)) y1))] ?_
  conv => whnf
  refine ⟨⟨I, I, ⟨(by omega), ixl (by assumption)⟩, I, I, I, I, I⟩, ?_⟩
  refine W.cn ?_
  conv => whnf
  refine ⟨noT (notF rfl), fun _ => ?_⟩
  refine W.skip ?_
  refine g 27 30 [.i (k + sumI owedC (List.take n xs) + (1 : Int) + (1 : Int))] ?_
  conv => whnf
  refine ⟨⟨I, w64 (by omega) (by omega), I, I⟩, ?_⟩
  refine W.sq ?_
  refine g 30 36 [.x (owedT (owedMk (k + sumI owedC (List.take n xs)) y1))] ?_
  conv => whnf
  refine ⟨⟨I, I, ⟨(by omega), ixl (by assumption)⟩, I, I, I, I, I⟩, ?_⟩
  refine W.cn ?_
  conv => whnf
  refine ⟨noT (notF rfl), fun _ => ?_⟩
  refine W.skip ?_
  refine rg [.i (k + sumI owedC (List.take n xs) + (1 : Int) + (1 : Int) + (1 : Int))] ?_
  conv => whnf
  refine ⟨⟨I, w64 (by omega) (by omega), I, I⟩, ?_⟩
  refine rg [.i ((↑n : Int) + (1 : Int))] ?_
  conv => whnf
  refine ⟨⟨I, w64 (by omega) (by omega), I, I⟩, ?_⟩
  rotate_left 1
  replace h1 := df h1
  simp only [List.length_map] at h1
  refine W.exit ?_
  refine g 5 40 [] ?_
  conv => whnf
  refine ⟨⟨I, I, I⟩, ?_⟩
  refine W.ret ?_
  refine EndsW.rt ?_
  conv => whnf
  refine ⟨⟨I, I, I⟩, ?_, rfl⟩
  rotate_left 1
  · refine ⟨n + 1, [], [], ⟨rfl, ⟨rfl, (congrArg (fun z => V.t (T.v (Value.int _ z))) (by rw [sum_take (by assumption)]; omega)), rfl, I⟩, I, I⟩, ?_, ?_⟩
    rotate_left 1
    (dsimp only; omega)
    dsimp only
    omega
  · rw [take_all (by omega)]
def logTop (k : Int) (x : Log) : Log := ⟨mkL (fun k _ => markT k) (fun _ => 1) (k) x.safe, mkL (fun k _ => markT k) (fun _ => 1) (k + x.safe.length) x.loose⟩
def logTopC (x : Log) : Int := x.safe.length + x.loose.length
theorem logTopC_nn (x : Log) : 0 ≤ logTopC x := by
  simp only [logTopC]; omega
theorem c_laws_markLog (x : Log) (k : Int) (hl : x.safe.length ≤ 9223372036854775806 ∧ x.loose.length ≤ 9223372036854775806) (h0 : 0 ≤ k) (hk : k + logTopC x ≤ 1099511627776) : F n_laws_markLog [.bor (logO x), .val (.i k)] (.i (k + logTopC x)) [cellsOf (logO (logTop k x)), []] := by
  obtain ⟨hl0, hl1⟩ := hl
  have hz : logTopC x = x.safe.length + x.loose.length := rfl
  refine i_laws_markLog ?_
  conv => whnf
  refine g 0 1 [] ?_
  conv => whnf
  refine ⟨⟨I, I, I⟩, ?_⟩
  refine g 5 9 [.call (V.i (k + (↑(List.length (Log.safe x)) : Int))) ([[V.own [false] (List.map strT (mkL (fun k x => markT k) (fun x => (1 : Int)) k (Log.safe x)))], []])] ?_
  conv => whnf
  refine ⟨⟨I, I, I, ⟨⟨⟨I, I⟩, I, I⟩, I, ⟨I, ⟨I, I⟩, I⟩, ⟨I, I⟩, Go.K.c_laws_markStringS _ _ (by omega) (by omega) (by omega)⟩, I, I⟩, ?_⟩
  refine g 9 13 [.call (V.i (k + (↑(List.length (Log.safe x)) : Int) + (↑(List.length (Log.loose x)) : Int))) ([[V.own [false] (List.map strT (mkL (fun k x => markT k) (fun x => (1 : Int)) (k + (↑(List.length (Log.safe x)) : Int)) (Log.loose x)))], []])] ?_
  conv => whnf
  refine ⟨⟨I, I, I, ⟨⟨⟨I, I⟩, I, I⟩, I, ⟨I, ⟨I, I⟩, I⟩, ⟨I, I⟩, Go.K.c_laws_markStringS _ _ (by omega) (by omega) (by omega)⟩, I, I⟩, ?_⟩
  refine g 1 3 [] ?_
  conv => whnf
  refine ⟨⟨I, I, I⟩, ?_⟩
  refine W.ret ?_
  refine EndsW.rt ?_
  conv => whnf
  refine ⟨⟨I, I, I⟩, ?_, rfl⟩
  exact vi (by omega)
theorem c_laws_heldLog (x : Log) (k : Int) (hl : x.safe.length ≤ 9223372036854775806 ∧ x.loose.length ≤ 9223372036854775806) (h0 : 0 ≤ k) (hk : k + logTopC x ≤ 1099511627776) : F n_laws_heldLog [.val (logR (logTop k x)), .val (.i k)] (.i (k + logTopC x)) [[], []] := by
  obtain ⟨hl0, hl1⟩ := hl
  have hz : logTopC x = x.safe.length + x.loose.length := rfl
  refine i_laws_heldLog ?_
  conv => whnf
  refine g 0 1 [] ?_
  conv => whnf
  refine ⟨⟨⟨I, I, I⟩, I, I⟩, ?_⟩
  refine g 5 9 [.call (V.i (k + (↑(List.length (Log.safe x)) : Int))) ([[], []])] ?_
  conv => whnf
  refine ⟨⟨I, I, I, ⟨⟨I, I, I⟩, I, ⟨⟨I, I⟩, ⟨I, I⟩, I⟩, ⟨I, I⟩, Go.K.c_laws_heldStringS _ _ (by omega) (by omega) (by omega)⟩, I, I⟩, ?_⟩
  refine W.sq ?_
  refine g 9 10 [] ?_
  conv => whnf
  refine ⟨⟨I, I, I⟩, ?_⟩
  refine W.cn ?_
  conv => whnf
  refine ⟨noT (decide_eq_false (by omega)), fun _ => ?_⟩
  refine W.skip ?_
  refine g 10 15 [.call (V.i (k + (↑(List.length (Log.safe x)) : Int) + (↑(List.length (Log.loose x)) : Int))) ([[], []])] ?_
  conv => whnf
  refine ⟨⟨I, I, I, ⟨⟨I, I, I⟩, I, ⟨⟨I, I⟩, ⟨I, I⟩, I⟩, ⟨I, I⟩, Go.K.c_laws_heldStringS _ _ (by omega) (by omega) (by omega)⟩, I, I⟩, ?_⟩
  refine W.sq ?_
  refine g 2 3 [] ?_
  conv => whnf
  refine ⟨⟨I, I, I⟩, ?_⟩
  refine W.cn ?_
  conv => whnf
  refine ⟨noT (decide_eq_false (by omega)), fun _ => ?_⟩
  refine W.skip ?_
  refine g 15 18 [] ?_
  conv => whnf
  refine ⟨⟨I, I, I⟩, ?_⟩
  refine W.ret ?_
  refine EndsW.rt ?_
  conv => whnf
  refine ⟨⟨I, I, I⟩, ?_, rfl⟩
  exact vi (by omega)
def bossTop (k : Int) (x : Boss) : Boss := ⟨x.workers, x.up, x.now, x.since, x.epoch, x.given, logTop (k) x.log, mkL (fun k _ => markT k) (fun _ => 1) (k + logTopC x.log) x.results, mkL jobMk jobC (k + logTopC x.log + x.results.length) x.jobs, mkL seatMk seatC (k + logTopC x.log + x.results.length + sumI jobC x.jobs) x.seats, mkL owedMk owedC (k + logTopC x.log + x.results.length + sumI jobC x.jobs + sumI seatC x.seats) x.owed⟩
def bossTopC (x : Boss) : Int := logTopC x.log + x.results.length + sumI jobC x.jobs + sumI seatC x.seats + sumI owedC x.owed
theorem bossTopC_nn (x : Boss) : 0 ≤ bossTopC x := by
  have := logTopC_nn x.log
  have := sum_nn jobC_nn x.jobs
  have := sum_nn seatC_nn x.seats
  have := sum_nn owedC_nn x.owed
  simp only [bossTopC]; omega
theorem c_laws_markBoss (x : Boss) (k : Int) (hl : x.log.safe.length ≤ 9223372036854775806 ∧ x.log.loose.length ≤ 9223372036854775806 ∧ x.results.length ≤ 9223372036854775806 ∧ x.jobs.length ≤ 9223372036854775806 ∧ x.seats.length ≤ 9223372036854775806 ∧ x.owed.length ≤ 9223372036854775806) (h0 : 0 ≤ k) (hk : k + bossTopC x ≤ 1099511627776) : F n_laws_markBoss [.bor (bossO x), .val (.i k)] (.i (k + bossTopC x)) [cellsOf (bossO (bossTop k x)), []] := by
  obtain ⟨hl0, hl1, hl2, hl3, hl4, hl5⟩ := hl
  have hn0 := logTopC_nn x.log
  have hn1 := sum_nn jobC_nn x.jobs
  have hn2 := sum_nn seatC_nn x.seats
  have hn3 := sum_nn owedC_nn x.owed
  have hz : bossTopC x = logTopC x.log + x.results.length + sumI jobC x.jobs + sumI seatC x.seats + sumI owedC x.owed := rfl
  refine i_laws_markBoss ?_
  conv => whnf
  refine g 0 1 [] ?_
  conv => whnf
  refine ⟨⟨⟨I, I, I, I, I, I, I⟩, I, I⟩, ?_⟩
  refine g 5 9 [.call (V.i (k + logTopC (Boss.log x))) ([cellsOf (logO (logTop k (Boss.log x))), []])] ?_
  conv => whnf
  refine ⟨⟨I, I, I, ⟨⟨⟨I, I, I⟩, I, I⟩, I, ⟨I, ⟨I, I⟩, I⟩, ⟨I, I⟩, Go.K.c_laws_markLog _ _ (by omega) (by omega) (by omega)⟩, I, I⟩, ?_⟩
  refine g 9 13 [.call (V.i (k + logTopC (Boss.log x) + (↑(List.length (Boss.results x)) : Int))) ([[V.own [false] (List.map strT (mkL (fun k x => markT k) (fun x => (1 : Int)) (k + logTopC (Boss.log x)) (Boss.results x)))], []])] ?_
  conv => whnf
  refine ⟨⟨I, I, I, ⟨⟨⟨I, I⟩, I, I⟩, I, ⟨I, ⟨I, I⟩, I⟩, ⟨I, I⟩, Go.K.c_laws_markStringS _ _ (by omega) (by omega) (by omega)⟩, I, I⟩, ?_⟩
  refine g 13 17 [.call (V.i (k + logTopC (Boss.log x) + (↑(List.length (Boss.results x)) : Int) + sumI jobC (Boss.jobs x))) ([[V.own jobK (List.map jobT (mkL jobMk jobC (k + logTopC (Boss.log x) + (↑(List.length (Boss.results x)) : Int)) (Boss.jobs x)))], []])] ?_
  conv => whnf
  refine ⟨⟨I, I, I, ⟨⟨⟨I, I⟩, I, I⟩, I, ⟨I, ⟨I, I⟩, I⟩, ⟨I, I⟩, Go.K.c_laws_markJobS _ _ (by omega) (by omega) (by omega)⟩, I, I⟩, ?_⟩
  refine g 17 21 [.call (V.i (k + logTopC (Boss.log x) + (↑(List.length (Boss.results x)) : Int) + sumI jobC (Boss.jobs x) + sumI seatC (Boss.seats x))) ([[V.own seatK (List.map seatT (mkL seatMk seatC (k + logTopC (Boss.log x) + (↑(List.length (Boss.results x)) : Int) + sumI jobC (Boss.jobs x)) (Boss.seats x)))], []])] ?_
  conv => whnf
  refine ⟨⟨I, I, I, ⟨⟨⟨I, I⟩, I, I⟩, I, ⟨I, ⟨I, I⟩, I⟩, ⟨I, I⟩, Go.K.c_laws_markSeatS _ _ (by omega) (by omega) (by omega)⟩, I, I⟩, ?_⟩
  refine g 21 25 [.call (V.i (k + logTopC (Boss.log x) + (↑(List.length (Boss.results x)) : Int) + sumI jobC (Boss.jobs x) + sumI seatC (Boss.seats x) + sumI owedC (Boss.owed x))) ([[V.own owedK (List.map owedT (mkL owedMk owedC (k + logTopC (Boss.log x) + (↑(List.length (Boss.results x)) : Int) + sumI jobC (Boss.jobs x) + sumI seatC (Boss.seats x)) (Boss.owed x)))], []])] ?_
  conv => whnf
  refine ⟨⟨I, I, I, ⟨⟨⟨I, I⟩, I, I⟩, I, ⟨I, ⟨I, I⟩, I⟩, ⟨I, I⟩, Go.K.c_laws_markOwedS _ _ (by omega) (by omega) (by omega)⟩, I, I⟩, ?_⟩
  refine g 1 3 [] ?_
  conv => whnf
  refine ⟨⟨I, I, I⟩, ?_⟩
  refine W.ret ?_
  refine EndsW.rt ?_
  conv => whnf
  refine ⟨⟨I, I, I⟩, ?_, rfl⟩
  exact vi (by omega)
theorem c_laws_heldBoss (x : Boss) (k : Int) (hl : x.log.safe.length ≤ 9223372036854775806 ∧ x.log.loose.length ≤ 9223372036854775806 ∧ x.results.length ≤ 9223372036854775806 ∧ x.jobs.length ≤ 9223372036854775806 ∧ x.seats.length ≤ 9223372036854775806 ∧ x.owed.length ≤ 9223372036854775806) (h0 : 0 ≤ k) (hk : k + bossTopC x ≤ 1099511627776) : F n_laws_heldBoss [.val (bossR (bossTop k x)), .val (.i k)] (.i (k + bossTopC x)) [[], []] := by
  obtain ⟨hl0, hl1, hl2, hl3, hl4, hl5⟩ := hl
  have hn0 := logTopC_nn x.log
  have hn1 := sum_nn jobC_nn x.jobs
  have hn2 := sum_nn seatC_nn x.seats
  have hn3 := sum_nn owedC_nn x.owed
  have hz : bossTopC x = logTopC x.log + x.results.length + sumI jobC x.jobs + sumI seatC x.seats + sumI owedC x.owed := rfl
  refine i_laws_heldBoss ?_
  conv => whnf
  refine g 0 1 [] ?_
  conv => whnf
  refine ⟨⟨⟨I, I, I, I, I, I, I, I, I, I, I, I, I⟩, I, I⟩, ?_⟩
  refine g 5 9 [.call (V.i (k + logTopC (Boss.log x))) ([[], []])] ?_
  conv => whnf
  refine ⟨⟨I, I, I, ⟨⟨I, I, I⟩, I, ⟨⟨I, I, I⟩, ⟨I, I⟩, I⟩, ⟨I, I⟩, Go.K.c_laws_heldLog _ _ (by omega) (by omega) (by omega)⟩, I, I⟩, ?_⟩
  refine W.sq ?_
  refine g 9 10 [] ?_
  conv => whnf
  refine ⟨⟨I, I, I⟩, ?_⟩
  refine W.cn ?_
  conv => whnf
  refine ⟨noT (decide_eq_false (by omega)), fun _ => ?_⟩
  refine W.skip ?_
  refine g 10 15 [.call (V.i (k + logTopC (Boss.log x) + (↑(List.length (Boss.results x)) : Int))) ([[], []])] ?_
  conv => whnf
  refine ⟨⟨I, I, I, ⟨⟨I, I, I⟩, I, ⟨⟨I, I⟩, ⟨I, I⟩, I⟩, ⟨I, I⟩, Go.K.c_laws_heldStringS _ _ (by omega) (by omega) (by omega)⟩, I, I⟩, ?_⟩
  refine W.sq ?_
  refine g 15 16 [] ?_
  conv => whnf
  refine ⟨⟨I, I, I⟩, ?_⟩
  refine W.cn ?_
  conv => whnf
  refine ⟨noT (decide_eq_false (by omega)), fun _ => ?_⟩
  refine W.skip ?_
  refine g 16 21 [.call (V.i (k + logTopC (Boss.log x) + (↑(List.length (Boss.results x)) : Int) + sumI jobC (Boss.jobs x))) ([[], []])] ?_
  conv => whnf
  refine ⟨⟨I, I, I, ⟨⟨I, I, I⟩, I, ⟨⟨I, I⟩, ⟨I, I⟩, I⟩, ⟨I, I⟩, Go.K.c_laws_heldJobS _ _ (by omega) (by omega) (by omega)⟩, I, I⟩, ?_⟩
  refine W.sq ?_
  refine g 21 22 [] ?_
  conv => whnf
  refine ⟨⟨I, I, I⟩, ?_⟩
  refine W.cn ?_
  conv => whnf
  refine ⟨noT (decide_eq_false (by omega)), fun _ => ?_⟩
  refine W.skip ?_
  refine g 22 27 [.call (V.i (k + logTopC (Boss.log x) + (↑(List.length (Boss.results x)) : Int) + sumI jobC (Boss.jobs x) + sumI seatC (Boss.seats x))) ([[], []])] ?_
  conv => whnf
  refine ⟨⟨I, I, I, ⟨⟨I, I, I⟩, I, ⟨⟨I, I⟩, ⟨I, I⟩, I⟩, ⟨I, I⟩, Go.K.c_laws_heldSeatS _ _ (by omega) (by omega) (by omega)⟩, I, I⟩, ?_⟩
  refine W.sq ?_
  refine g 27 28 [] ?_
  conv => whnf
  refine ⟨⟨I, I, I⟩, ?_⟩
  refine W.cn ?_
  conv => whnf
  refine ⟨noT (decide_eq_false (by omega)), fun _ => ?_⟩
  refine W.skip ?_
  refine g 28 33 [.call (V.i (k + logTopC (Boss.log x) + (↑(List.length (Boss.results x)) : Int) + sumI jobC (Boss.jobs x) + sumI seatC (Boss.seats x) + sumI owedC (Boss.owed x))) ([[], []])] ?_
  conv => whnf
  refine ⟨⟨I, I, I, ⟨⟨I, I, I⟩, I, ⟨⟨I, I⟩, ⟨I, I⟩, I⟩, ⟨I, I⟩, Go.K.c_laws_heldOwedS _ _ (by omega) (by omega) (by omega)⟩, I, I⟩, ?_⟩
  refine W.sq ?_
  refine g 2 3 [] ?_
  conv => whnf
  refine ⟨⟨I, I, I⟩, ?_⟩
  refine W.cn ?_
  conv => whnf
  refine ⟨noT (decide_eq_false (by omega)), fun _ => ?_⟩
  refine W.skip ?_
  refine g 33 36 [] ?_
  conv => whnf
  refine ⟨⟨I, I, I⟩, ?_⟩
  refine W.ret ?_
  refine EndsW.rt ?_
  conv => whnf
  refine ⟨⟨I, I, I⟩, ?_, rfl⟩
  exact vi (by omega)
end Go.K

end

section
set_option linter.unusedVariables false
set_option linter.unusedSimpArgs false
set_option maxHeartbeats 8000000
set_option maxRecDepth 20000
open Go Go.Tm Go.Proofs
namespace Go.K
theorem c_spec_l4Log (l : Log) (h1 : l.safe.length ≤ 1048576) (h2 : l.loose.length ≤ 1048576) : F n_spec_l4Log [.val (logR l)] (logO l) [[]] := by
  refine i_spec_l4Log ?_
  conv => whnf
  refine g 0 0 [] ?_
  conv => whnf
  refine ⟨⟨⟨I, I, I⟩, I, I⟩, ?_⟩
  refine gd 3 12 [[], [], [], [], [], [], [], [], [], []] ?_
  conv => whnf
  refine ⟨⟨I, I, I, ⟨I, I, (by simp only [List.length_map, List.length_append, List.length_set, List.length_replicate, List.length_cons, List.length_nil, List.length_take, List.length_drop, fill_len, fillI_len, List.length_range, bytesT_len]; omega)⟩, I, I, I, ⟨I, I, (by simp only [List.length_map, List.length_append, List.length_set, List.length_replicate, List.length_cons, List.length_nil, List.length_take, List.length_drop, fill_len, fillI_len, List.length_range, bytesT_len]; omega)⟩, I, ⟨I, I, I⟩, I⟩, by kernel_rfl, ?_⟩
  refine W.ret ?_
  refine EndsW.rt ?_
  conv => whnf
  refine ⟨⟨I, I, I, I⟩, ?_, rfl⟩
  rfl
theorem c_spec_l5Copy (b : Boss) (h1 : b.log.safe.length ≤ 1048576) (h2 : b.log.loose.length ≤ 1048576) (h3 : b.results.length ≤ 1048576) (h4 : b.jobs.length ≤ 1048576) (h5 : b.seats.length ≤ 1048576) (h6 : b.owed.length ≤ 1048576) : F n_spec_l5Copy [.val (bossR b)] (bossO b) [[]] := by
  have c1 := c_spec_l4Log b.log h1 h2
  refine i_spec_l5Copy ?_
  conv => whnf
  refine g 0 1 [] ?_
  conv => whnf
  refine ⟨⟨⟨I, I, I, I, I, I, I, I, I, I, I, I, I⟩, I, I⟩, ?_⟩
  refine g 3 7 [.call (logO (Boss.log b)) ([[]])] ?_
  conv => whnf
  refine ⟨⟨I, I, ⟨⟨I, I⟩, I, ⟨⟨I, I, I⟩, I⟩, ⟨I, I⟩, (by assumption)⟩, I, ⟨I, I, I⟩, I⟩, ?_⟩
  refine g 7 12 [] ?_
  conv => whnf
  refine ⟨⟨I, I, I, ⟨I, I, (by simp only [List.length_map, List.length_append, List.length_set, List.length_replicate, List.length_cons, List.length_nil, List.length_take, List.length_drop, fill_len, fillI_len, List.length_range, bytesT_len]; omega)⟩, I, ⟨I, I⟩, I⟩, ?_⟩
  refine g 12 17 [] ?_
  conv => whnf
  refine ⟨⟨I, I, I, ⟨I, I, (by simp only [List.length_map, List.length_append, List.length_set, List.length_replicate, List.length_cons, List.length_nil, List.length_take, List.length_drop, fill_len, fillI_len, List.length_range, bytesT_len]; omega)⟩, I, ⟨I, I⟩, I⟩, ?_⟩
  refine g 17 22 [] ?_
  conv => whnf
  refine ⟨⟨I, I, I, ⟨I, I, (by simp only [List.length_map, List.length_append, List.length_set, List.length_replicate, List.length_cons, List.length_nil, List.length_take, List.length_drop, fill_len, fillI_len, List.length_range, bytesT_len]; omega)⟩, I, ⟨I, I⟩, I⟩, ?_⟩
  refine g 22 27 [] ?_
  conv => whnf
  refine ⟨⟨I, I, I, ⟨I, I, (by simp only [List.length_map, List.length_append, List.length_set, List.length_replicate, List.length_cons, List.length_nil, List.length_take, List.length_drop, fill_len, fillI_len, List.length_range, bytesT_len]; omega)⟩, I, ⟨I, I⟩, I⟩, ?_⟩
  refine g 1 2 [] ?_
  conv => whnf
  refine ⟨⟨I, ⟨I, I, I, I, I, I, I, I, I, I, I, I, I⟩, I⟩, ?_⟩
  refine W.ret ?_
  refine EndsW.rt ?_
  conv => whnf
  refine ⟨⟨I, I, I, I, I, I, I, I, I, I, I, I, I, I⟩, ?_, rfl⟩
  rfl
structure BossLim (b : Boss) : Prop where
  safe : b.log.safe.length ≤ 1048576
  loose : b.log.loose.length ≤ 1048576
  all : ∀ s ∈ b.log.safe ++ b.log.loose, s.size ≤ 281474976710656
  res : b.results.length ≤ 1048576
  jobs : b.jobs.length ≤ 1048576
  seats : b.seats.length ≤ 1048576
  owed : b.owed.length ≤ 1048576
end Go.K

end

section
set_option linter.unusedVariables false
set_option linter.unusedSimpArgs false
set_option maxHeartbeats 8000000
set_option maxRecDepth 20000
open Go Go.Tm Go.Proofs
namespace Go.K
abbrev downB (w now : Int) (safe : List ByteArray) : Boss := ⟨w, false, now, 0, 0, 0, ⟨safe, []⟩, [], [], [], []⟩
def epE (n : Int) : Entry := ⟨1, n, 0, emp⟩
def upB (w now : Int) (safe : List ByteArray) (p : Plan) (st : Story) : Boss := ⟨w, true, now, 0, st.epoch + 1, 0, ⟨safe ++ [formS (epE (st.epoch + 1))], []⟩, st.results, List.replicate p.tasks.length noJob, List.replicate w.toNat noSeat, []⟩
def riseOk (b : Boss) (p : Plan) : Prop := b.up = false ∧ b.log.safe.length < 310 ∧ (replayP p b.log.safe).epoch < 300
noncomputable instance (b : Boss) (p : Plan) : Decidable (riseOk b p) := Classical.propDecidable _
noncomputable def riseB (b : Boss) (p : Plan) : Boss := if riseOk b p then upB b.workers b.now b.log.safe p (replayP p b.log.safe) else b
theorem rsb_no {b : Boss} {p : Plan} (h : ¬ riseOk b p) : riseB b p = b := if_neg h
theorem rsb_ok {b : Boss} {p : Plan} (h : riseOk b p) : riseB b p = upB b.workers b.now b.log.safe p (replayP p b.log.safe) := if_pos h
theorem rep_job (n : Nat) : (List.replicate n noJob).map jobT = List.replicate n (jobT noJob) := List.map_replicate
theorem rep_seat (n : Nat) : (List.replicate n noSeat).map seatT = List.replicate n (seatT noSeat) := List.map_replicate
theorem rep_stepJ (n : Nat) : (List.replicate n noJob).map jobT ++ [jobT noJob] = (List.replicate (n + 1) noJob).map jobT := by simp [List.replicate_succ']
theorem rep_stepS (n : Nat) : (List.replicate n noSeat).map seatT ++ [seatT noSeat] = (List.replicate (n + 1) noSeat).map seatT := by simp [List.replicate_succ']
theorem up_cells (w now : Int) (safe : List ByteArray) (p : Plan) (st : Story) : bossO (upB w now safe p st) = .agg [.t (.i w), .t (.b true), .t (.i now), .t (.i 0), .t (.i (st.epoch + 1)), .t (.i 0), .own [false] (safe.map strT ++ [strT (formS ⟨1, st.epoch + 1, 0, emp⟩)]), .own [false] [], .own [false] (st.results.map strT), .own jobK ((List.replicate p.tasks.length noJob).map jobT), .own seatK ((List.replicate w.toNat noSeat).map seatT), .own owedK []] := by
  simp only [bossO, upB, List.map_append]; rfl
theorem c_rise_down (w now : Int) (safe : List ByteArray) (p : Plan) (hp : planWf p) (hw : 1 ≤ w ∧ w ≤ 8) (hs : ∀ s ∈ safe, s.size ≤ 281474976710656) (hc : (replayP p safe).code = 0) : F n_impl_Boss_rise [.ptr [.t (.i w), .t (.b false), .t (.i now), .t (.i 0), .t (.i 0), .t (.i 0), .own [false] (safe.map strT), .own [false] [], .own [false] [], .own jobK [], .own seatK [], .own owedK []], .val (planR p)] (.tup []) [cellsOf (bossO (riseB (downB w now safe) p)), []] := by
  obtain ⟨hck, hl, _, _⟩ := replay_len hc
  obtain ⟨he1, he2⟩ := replay_ep hc
  have hpl := (chk_inv hck).1
  have cr := c_impl_Replay p safe hp hs (by omega)
  by_cases hl2 : safe.length < 310
  · by_cases he : (replayP p safe).epoch < 300
    · rw [rsb_ok ⟨rfl, hl2, he⟩]
      have cf := c_impl_FormEntry 1 ((replayP p safe).epoch + 1) 0 emp (by decide)
      rw [form_eq] at cf
      rw [up_cells]
      refine i_impl_Boss_rise ?_
      conv => whnf
      refine g 0 0 [] ?_
      conv => whnf
      refine ⟨⟨⟨I, I⟩, I⟩, ?_⟩
      refine W.sq ?_
      refine g 5 17 [.b (false), .b (false), .b (false), .b (false), .b (false), .b (false), .b (false), .b (false)] ?_
      conv => whnf
      refine ⟨⟨I, I, I, I, I, ⟨rfl, I⟩, ⟨rfl, I⟩, ⟨rfl, I⟩, ⟨rfl, I⟩, ⟨rfl, I⟩, ⟨rfl, I⟩, ⟨rfl, I⟩, rfl, I⟩, ?_⟩
      refine W.cn ?_
      conv => whnf
      refine ⟨fun h1 => ?_, fun h1 => ?_⟩
      replace h1 := dt h1
      simp only [List.length_map] at h1
      omega
      replace h1 := df h1
      simp only [List.length_map] at h1
      refine W.skip ?_
      refine gd 17 25 [[], [], [], [], [], [], [.call (storyO (replayP p safe)) ([[], []])], [], []] ?_
      conv => whnf
      refine ⟨⟨I, I, I, I, I, I, ⟨⟨I, I, I⟩, I, ⟨⟨I, I⟩, ⟨I, I⟩, I⟩, ⟨I, I⟩, (by assumption)⟩, I, ⟨I, I, I, I⟩, I⟩, by kernel_rfl, ?_⟩
      refine W.sq ?_
      refine g 25 27 [] ?_
      conv => whnf
      refine ⟨⟨I, I, I, I⟩, ?_⟩
      refine W.cn ?_
      conv => whnf
      refine ⟨noT (decide_eq_false (by omega)), fun _ => ?_⟩
      refine W.skip ?_
      refine gd 4 42 [[], [], [], [], [], [.i (Story.epoch (replayP p safe) + (1 : Int))], [], [], [], [], [], [], [], [], [], [], []] ?_
      conv => whnf
      refine ⟨⟨I, I, I, I, I, w64 (by omega) (by omega), I, I, I, I, ⟨I, I⟩, I, I, ⟨I, I⟩, I, I, ⟨I, I⟩, I⟩, by kernel_rfl, ?_⟩
      refine gd 42 59 [[], [], [], [], [], [], [], [], [], [], [], [.call (V.s (formS { kind := (1 : Int), epoch := Story.epoch (replayP p safe) + (1 : Int), task := (0 : Int), text := emp : Entry })) ([[]])], [], [], [], [], [], []] ?_
      conv => whnf
      refine ⟨⟨I, I, I, I, I, I, I, I, I, I, I, ⟨⟨I, I⟩, I, ⟨⟨I, I, I, I, I⟩, I⟩, ⟨I, I⟩, (by assumption)⟩, ⟨⟨I, I⟩, I⟩, ⟨I, I, (by simp only [List.length_map, List.length_append, List.length_set, List.length_replicate, List.length_cons, List.length_nil, List.length_take, List.length_drop, fill_len, fillI_len, List.length_range, bytesT_len]; omega)⟩, I, I, I, ⟨I, I⟩, I⟩, by kernel_rfl, ?_⟩
      refine rgd [[], [], [], [], [], [.n (List.length (List.map taskT (Plan.tasks p)))], [], [], [], [], [.n (Int.toNat w)], [], [], [], [], [], []] ?_
      conv => whnf
      refine ⟨⟨I, I, I, I, I, ⟨rfl, rfl, (by simp only [List.length_map, List.length_append, List.length_set, List.length_replicate, List.length_cons, List.length_nil, List.length_take, List.length_drop, fill_len, fillI_len, List.length_range, bytesT_len]; omega)⟩, I, I, I, I, ⟨(by omega), (by omega), (by simp only [List.length_map, List.length_append, List.length_set, List.length_replicate, List.length_cons, List.length_nil, List.length_take, List.length_drop, fill_len, fillI_len, List.length_range, bytesT_len]; omega)⟩, I, I, ⟨I, I⟩, I, I, ⟨I, I⟩, I⟩, by kernel_rfl, ?_⟩
      refine EndsW.nm ?_
      conv => whnf
      refine ⟨I, ?_, ?_⟩
      rfl
      simp only [List.length_map, rep_job, rep_seat]
      rfl
    · rw [rsb_no (fun q => he q.2.2)]
      refine i_impl_Boss_rise ?_
      conv => whnf
      refine g 0 0 [] ?_
      conv => whnf
      refine ⟨⟨⟨I, I⟩, I⟩, ?_⟩
      refine W.sq ?_
      refine g 5 17 [.b (false), .b (false), .b (false), .b (false), .b (false), .b (false), .b (false), .b (false)] ?_
      conv => whnf
      refine ⟨⟨I, I, I, I, I, ⟨rfl, I⟩, ⟨rfl, I⟩, ⟨rfl, I⟩, ⟨rfl, I⟩, ⟨rfl, I⟩, ⟨rfl, I⟩, ⟨rfl, I⟩, rfl, I⟩, ?_⟩
      refine W.cn ?_
      conv => whnf
      refine ⟨fun h1 => ?_, fun h1 => ?_⟩
      replace h1 := dt h1
      simp only [List.length_map] at h1
      omega
      replace h1 := df h1
      simp only [List.length_map] at h1
      refine W.skip ?_
      refine gd 17 25 [[], [], [], [], [], [], [.call (storyO (replayP p safe)) ([[], []])], [], []] ?_
      conv => whnf
      refine ⟨⟨I, I, I, I, I, I, ⟨⟨I, I, I⟩, I, ⟨⟨I, I⟩, ⟨I, I⟩, I⟩, ⟨I, I⟩, (by assumption)⟩, I, ⟨I, I, I, I⟩, I⟩, by kernel_rfl, ?_⟩
      refine W.sq ?_
      refine g 25 27 [] ?_
      conv => whnf
      refine ⟨⟨I, I, I, I⟩, ?_⟩
      refine W.cn ?_
      conv => whnf
      refine ⟨fun _ => ?_, noF (decide_eq_true (by omega))⟩
      refine W.ret ?_
      refine EndsW.rt ?_
      conv => whnf
      refine ⟨I, ?_, rfl⟩
      rfl
  · rw [rsb_no (fun q => hl2 q.2.1)]
    refine i_impl_Boss_rise ?_
    conv => whnf
    refine g 0 0 [] ?_
    conv => whnf
    refine ⟨⟨⟨I, I⟩, I⟩, ?_⟩
    refine W.sq ?_
    refine g 5 17 [.b (false), .b (false), .b (false), .b (false), .b (false), .b (false), .b (false), .b (false)] ?_
    conv => whnf
    refine ⟨⟨I, I, I, I, I, ⟨rfl, I⟩, ⟨rfl, I⟩, ⟨rfl, I⟩, ⟨rfl, I⟩, ⟨rfl, I⟩, ⟨rfl, I⟩, ⟨rfl, I⟩, rfl, I⟩, ?_⟩
    refine W.cn ?_
    conv => whnf
    refine ⟨fun h1 => ?_, fun h1 => ?_⟩
    replace h1 := dt h1
    simp only [List.length_map] at h1
    refine W.ret ?_
    refine EndsW.rt ?_
    conv => whnf
    refine ⟨I, ?_, rfl⟩
    rfl
    replace h1 := df h1
    simp only [List.length_map] at h1
    omega
theorem c_l5Rise_down (w now : Int) (safe : List ByteArray) (p : Plan) (hp : planWf p) (hw : 1 ≤ w ∧ w ≤ 8) (hs : ∀ s ∈ safe, s.size ≤ 281474976710656) (hc : (replayP p safe).code = 0) : F n_spec_l5Rise [.val (.agg [.t (.i w), .t (.b false), .t (.i now), .t (.i 0), .t (.i 0), .t (.i 0), .t (.slc [false] (safe.map strT)), .t (.slc [false] []), .t (.slc [false] []), .t (.slc jobK []), .t (.slc seatK []), .t (.slc owedK [])]), .val (planR p)] (bossO (riseB (downB w now safe) p)) [[], []] := by
  obtain ⟨hck, hl, _, _⟩ := replay_len hc
  obtain ⟨he1, he2⟩ := replay_ep hc
  have hpl := (chk_inv hck).1
  have cr := c_spec_Replay p safe hp hs (by omega)
  have cc := c_spec_l5Copy (downB w now safe) (by show safe.length ≤ 1048576; omega) (Nat.zero_le _) (Nat.zero_le _) (Nat.zero_le _) (Nat.zero_le _) (Nat.zero_le _)
  by_cases hl2 : safe.length < 310
  · by_cases he : (replayP p safe).epoch < 300
    · rw [rsb_ok ⟨rfl, hl2, he⟩]
      have cf := c_spec_FormEntry 1 ((replayP p safe).epoch + 1) 0 emp (by decide)
      refine i_spec_l5Rise ?_
      conv => whnf
      refine g 0 0 [] ?_
      conv => whnf
      refine ⟨⟨⟨I, I, I, I, I, I, I, I, I, I, I, I, I⟩, ⟨I, I⟩, I, I⟩, ?_⟩
      refine g 10 14 [.call (storyO (replayP p safe)) ([[], []])] ?_
      conv => whnf
      refine ⟨⟨I, I, I, I, ⟨⟨I, I, I⟩, I, ⟨⟨I, I⟩, ⟨I, I⟩, I⟩, ⟨I, I⟩, (by assumption)⟩, I, ⟨I, I, I, I⟩, I⟩, ?_⟩
      refine W.sq ?_
      by_cases h1 : (310 : Int) ≤ (↑(List.length (List.map strT safe)) : Int)
      simp only [List.length_map] at h1
      omega
      simp only [List.length_map] at h1
      refine g 9 27 [.b (false), .b (false), .b (false), .b (false), .b (false), .b (false), .b (false), .b (false), .b (false), .b (false)] ?_
      conv => whnf
      refine ⟨⟨I, I, I, ⟨rfl, I⟩, ⟨rfl, I⟩, ⟨rfl, I⟩, ⟨rfl, I⟩, ⟨rfl, I⟩, rfl, I, ⟨(by simp [*]), I⟩, ⟨(by simp [*]), I⟩, ⟨(by simp [*]), I⟩, (by simp [*]), I⟩, ?_⟩
      refine W.cn ?_
      conv => whnf
      refine ⟨noT (decide_eq_false (by omega)), fun _ => ?_⟩
      refine W.skip ?_
      refine g 27 40 [.i (Story.epoch (replayP p safe) + (1 : Int))] ?_
      conv => whnf
      refine ⟨⟨I, I, I, I, I, I, w64 (by omega) (by omega), I, I, I, I, ⟨I, I, I, I, I, I, I, I, I, I, I, I, I⟩, I⟩, ?_⟩
      refine gd 41 53 [[], [], [], [], [], [], [], [], [.call (V.s (formS { kind := (1 : Int), epoch := Story.epoch (replayP p safe) + (1 : Int), task := (0 : Int), text := emp : Entry })) ([[]])], [], [], [], [], []] ?_
      conv => whnf
      refine ⟨⟨I, I, I, I, ⟨I, I, (by simp only [List.length_map, List.length_append, List.length_set, List.length_replicate, List.length_cons, List.length_nil, List.length_take, List.length_drop, fill_len, fillI_len, List.length_range, bytesT_len]; omega)⟩, I, I, I, ⟨⟨I, I⟩, I, ⟨⟨I, I, I, I, I⟩, I⟩, ⟨I, I⟩, (by assumption)⟩, ⟨⟨I, I⟩, I⟩, ⟨I, I, (by simp only [List.length_map, List.length_append, List.length_set, List.length_replicate, List.length_cons, List.length_nil, List.length_take, List.length_drop, fill_len, fillI_len, List.length_range, bytesT_len]; omega)⟩, I, I, ⟨I, I⟩, I⟩, by kernel_rfl, ?_⟩
      refine W.sq ?_
      refine g 1 2 [] ?_
      conv => whnf
      refine ⟨⟨I, I⟩, ?_⟩
      refine W.blk ?_
      refine W.lp (fun s (n : Nat) => ⟨[(0, s.s 0), (2, s.s 2), (3, s.s 3), (4, s.s 4), (6, s.s 6), (7, .i n), (40, s.s 40)], [(2, [s.c 2 0, s.c 2 1, s.c 2 2, s.c 2 3, s.c 2 4, s.c 2 5, s.c 2 6, s.c 2 7, s.c 2 8, s.c 2 9, s.c 2 10, s.c 2 11]), (3, [s.c 3 0]), (4, [s.c 4 0, s.c 4 1, s.c 4 2, s.c 4 3, s.c 4 4, s.c 4 5, s.c 4 6, s.c 4 7, s.c 4 8, s.c 4 9, s.c 4 10, s.c 4 11]), (40, [s.c 40 0]), (6, [.t (.i w), .t (.b true), .t (.i now), .t (.i 0), .t (.i ((replayP p safe).epoch + 1)), .t (.i 0), .own [false] (safe.map strT ++ [strT (formS ⟨1, (replayP p safe).epoch + 1, 0, emp⟩)]), .own [false] [], .own [false] ((replayP p safe).results.map strT), .own jobK ((List.replicate n noJob).map jobT), .own seatK ((List.replicate 0 noSeat).map seatT), .own owedK []])], []⟩) (fun (n : Nat) => n ≤ p.tasks.length) (fun (n : Nat) => p.tasks.length - n) (0) [some 2, some 3, some 4, some 40, some 6] [] ⟨rfl, ⟨⟨_, rfl, _, _, rfl, rfl, _, _, rfl, rfl, _, _, rfl, rfl, _, _, rfl, rfl, _, _, rfl, rfl, _, _, rfl, rfl, _, _, rfl, rfl, _, _, rfl, rfl, _, _, rfl, rfl, _, _, rfl, rfl, _, _, rfl, rfl, _, _, rfl, rfl, rfl⟩, rfl, rfl, rfl, rfl, rfl, rfl, I⟩, ⟨⟨rfl, ⟨rfl, ⟨rfl, ⟨rfl, ⟨rfl, ⟨rfl, ⟨rfl, ⟨rfl, ⟨rfl, ⟨rfl, ⟨rfl, ⟨rfl, ⟨rfl, I⟩⟩⟩⟩⟩⟩⟩⟩⟩⟩⟩⟩⟩, ⟨⟨rfl, ⟨rfl, I⟩⟩, ⟨⟨rfl, ⟨rfl, ⟨rfl, ⟨rfl, ⟨rfl, ⟨rfl, ⟨rfl, ⟨rfl, ⟨rfl, ⟨rfl, ⟨rfl, ⟨rfl, ⟨rfl, I⟩⟩⟩⟩⟩⟩⟩⟩⟩⟩⟩⟩⟩, ⟨⟨rfl, ⟨I, I⟩⟩, ⟨⟨rfl, ⟨rfl, ⟨rfl, ⟨rfl, ⟨rfl, ⟨rfl, ⟨rfl, ⟨rfl, ⟨rfl, ⟨rfl, ⟨rfl, ⟨rfl, ⟨rfl, I⟩⟩⟩⟩⟩⟩⟩⟩⟩⟩⟩⟩⟩, I⟩⟩⟩⟩⟩, I⟩ (by omega) ?_
      intro n hn
      conv => whnf
      refine W.sq ?_
      refine g 53 57 [] ?_
      conv => whnf
      refine ⟨⟨I, I, I, I, I, I⟩, ?_⟩
      refine W.cn ?_
      conv => whnf
      refine ⟨fun h2 => ?_, fun h2 => ?_⟩
      replace h2 := dt h2
      simp only [List.length_map] at h2
      refine W.skip ?_
      refine W.sq ?_
      refine W.blk ?_
      refine rg [] ?_
      conv => whnf
      refine ⟨⟨I, I, I, ⟨⟨I, I, I, I⟩, I⟩, ⟨I, I, (by simp only [List.length_map, List.length_append, List.length_set, List.length_replicate, List.length_cons, List.length_nil, List.length_take, List.length_drop, fill_len, fillI_len, List.length_range, bytesT_len]; omega)⟩, I, ⟨I, I⟩, I⟩, ?_⟩
      refine rg [.i ((↑n : Int) + (1 : Int))] ?_
      conv => whnf
      refine ⟨⟨I, w64 (by omega) (by omega), I, I⟩, ?_⟩
      rotate_left 1
      replace h2 := df h2
      simp only [List.length_map] at h2
      refine W.exit ?_
      refine W.sq ?_
      refine g 3 4 [] ?_
      conv => whnf
      refine ⟨⟨I, I⟩, ?_⟩
      refine W.blk ?_
      rotate_left 1
      · refine ⟨n + 1, [some 2, some 3, some 4, some 40, some 6], [], ⟨rfl, ⟨⟨_, rfl, _, _, rfl, rfl, _, _, rfl, rfl, _, _, rfl, rfl, _, _, rfl, rfl, _, _, rfl, rfl, _, _, rfl, rfl, _, _, rfl, rfl, _, _, rfl, rfl, _, _, rfl, rfl, _, _, rfl, rfl, _, _, rfl, rfl, _, _, rfl, rfl, rfl⟩, rfl, rfl, rfl, rfl, rfl, rfl, I⟩, ⟨⟨rfl, ⟨rfl, ⟨rfl, ⟨rfl, ⟨rfl, ⟨rfl, ⟨rfl, ⟨rfl, ⟨rfl, ⟨rfl, ⟨rfl, ⟨rfl, ⟨rfl, I⟩⟩⟩⟩⟩⟩⟩⟩⟩⟩⟩⟩⟩, ⟨⟨rfl, ⟨rfl, I⟩⟩, ⟨⟨rfl, ⟨rfl, ⟨rfl, ⟨rfl, ⟨rfl, ⟨rfl, ⟨rfl, ⟨rfl, ⟨rfl, ⟨rfl, ⟨rfl, ⟨rfl, ⟨rfl, I⟩⟩⟩⟩⟩⟩⟩⟩⟩⟩⟩⟩⟩, ⟨⟨rfl, ⟨I, I⟩⟩, ⟨⟨rfl, ⟨rfl, ⟨rfl, ⟨rfl, ⟨rfl, ⟨rfl, ⟨rfl, ⟨rfl, ⟨rfl, ⟨rfl, ⟨(congrArg (V.own _) (rep_stepJ n)), ⟨rfl, ⟨rfl, I⟩⟩⟩⟩⟩⟩⟩⟩⟩⟩⟩⟩⟩, I⟩⟩⟩⟩⟩, I⟩, ?_, ?_⟩
        rotate_left 1
        (dsimp only; omega)
        dsimp only
        omega
      obtain rfl : n = p.tasks.length := by omega
      refine W.lp (fun s (n : Nat) => ⟨[(0, s.s 0), (2, s.s 2), (4, s.s 4), (6, s.s 6), (8, .i n), (40, s.s 40)], [(2, [s.c 2 0, s.c 2 1, s.c 2 2, s.c 2 3, s.c 2 4, s.c 2 5, s.c 2 6, s.c 2 7, s.c 2 8, s.c 2 9, s.c 2 10, s.c 2 11]), (4, [s.c 4 0, s.c 4 1, s.c 4 2, s.c 4 3, s.c 4 4, s.c 4 5, s.c 4 6, s.c 4 7, s.c 4 8, s.c 4 9, s.c 4 10, s.c 4 11]), (40, [s.c 40 0]), (6, [.t (.i w), .t (.b true), .t (.i now), .t (.i 0), .t (.i ((replayP p safe).epoch + 1)), .t (.i 0), .own [false] (safe.map strT ++ [strT (formS ⟨1, (replayP p safe).epoch + 1, 0, emp⟩)]), .own [false] [], .own [false] ((replayP p safe).results.map strT), .own jobK ((List.replicate p.tasks.length noJob).map jobT), .own seatK ((List.replicate n noSeat).map seatT), .own owedK []])], []⟩) (fun (n : Nat) => n ≤ w.toNat) (fun (n : Nat) => w.toNat - n) (0) [some 2, some 4, some 40, some 6] [] ⟨rfl, ⟨⟨_, rfl, _, _, rfl, rfl, _, _, rfl, rfl, _, _, rfl, rfl, _, _, rfl, rfl, _, _, rfl, rfl, _, _, rfl, rfl, _, _, rfl, rfl, _, _, rfl, rfl, _, _, rfl, rfl, _, _, rfl, rfl, _, _, rfl, rfl, _, _, rfl, rfl, rfl⟩, rfl, rfl, rfl, rfl, rfl, I⟩, ⟨⟨rfl, ⟨rfl, ⟨rfl, ⟨rfl, ⟨rfl, ⟨rfl, ⟨rfl, ⟨rfl, ⟨rfl, ⟨rfl, ⟨rfl, ⟨rfl, ⟨rfl, I⟩⟩⟩⟩⟩⟩⟩⟩⟩⟩⟩⟩⟩, ⟨⟨rfl, ⟨rfl, ⟨rfl, ⟨rfl, ⟨rfl, ⟨rfl, ⟨rfl, ⟨rfl, ⟨rfl, ⟨rfl, ⟨rfl, ⟨rfl, ⟨rfl, I⟩⟩⟩⟩⟩⟩⟩⟩⟩⟩⟩⟩⟩, ⟨⟨rfl, ⟨I, I⟩⟩, ⟨⟨rfl, ⟨rfl, ⟨rfl, ⟨rfl, ⟨rfl, ⟨rfl, ⟨rfl, ⟨rfl, ⟨rfl, ⟨rfl, ⟨rfl, ⟨rfl, ⟨rfl, I⟩⟩⟩⟩⟩⟩⟩⟩⟩⟩⟩⟩⟩, I⟩⟩⟩⟩, I⟩ (by omega) ?_
      intro n hn
      conv => whnf
      refine W.sq ?_
      refine g 66 69 [] ?_
      conv => whnf
      refine ⟨⟨I, I, I, I, I⟩, ?_⟩
      refine W.cn ?_
      conv => whnf
      refine ⟨fun h3 => ?_, fun h3 => ?_⟩
      replace h3 := dt h3
      refine W.skip ?_
      refine W.sq ?_
      refine W.blk ?_
      refine rg [] ?_
      conv => whnf
      refine ⟨⟨I, I, I, ⟨⟨I, I, I⟩, I⟩, ⟨I, I, (by simp only [List.length_map, List.length_append, List.length_set, List.length_replicate, List.length_cons, List.length_nil, List.length_take, List.length_drop, fill_len, fillI_len, List.length_range, bytesT_len]; omega)⟩, I, ⟨I, I⟩, I⟩, ?_⟩
      refine rg [.i ((↑n : Int) + (1 : Int))] ?_
      conv => whnf
      refine ⟨⟨I, w64 (by omega) (by omega), I, I⟩, ?_⟩
      rotate_left 1
      replace h3 := df h3
      refine W.exit ?_
      refine g 0 3 [] ?_
      conv => whnf
      refine ⟨⟨I, ⟨I, I, I, I, I, I, I, I, I, I, I, I, I⟩, I⟩, ?_⟩
      refine W.ret ?_
      refine EndsW.rt ?_
      conv => whnf
      refine ⟨⟨I, I, I, I, I, I, I, I, I, I, I, I, I, I⟩, ?_, rfl⟩
      rotate_left 1
      · refine ⟨n + 1, [some 2, some 4, some 40, some 6], [], ⟨rfl, ⟨⟨_, rfl, _, _, rfl, rfl, _, _, rfl, rfl, _, _, rfl, rfl, _, _, rfl, rfl, _, _, rfl, rfl, _, _, rfl, rfl, _, _, rfl, rfl, _, _, rfl, rfl, _, _, rfl, rfl, _, _, rfl, rfl, _, _, rfl, rfl, _, _, rfl, rfl, rfl⟩, rfl, rfl, rfl, rfl, rfl, I⟩, ⟨⟨rfl, ⟨rfl, ⟨rfl, ⟨rfl, ⟨rfl, ⟨rfl, ⟨rfl, ⟨rfl, ⟨rfl, ⟨rfl, ⟨rfl, ⟨rfl, ⟨rfl, I⟩⟩⟩⟩⟩⟩⟩⟩⟩⟩⟩⟩⟩, ⟨⟨rfl, ⟨rfl, ⟨rfl, ⟨rfl, ⟨rfl, ⟨rfl, ⟨rfl, ⟨rfl, ⟨rfl, ⟨rfl, ⟨rfl, ⟨rfl, ⟨rfl, I⟩⟩⟩⟩⟩⟩⟩⟩⟩⟩⟩⟩⟩, ⟨⟨rfl, ⟨I, I⟩⟩, ⟨⟨rfl, ⟨rfl, ⟨rfl, ⟨rfl, ⟨rfl, ⟨rfl, ⟨rfl, ⟨rfl, ⟨rfl, ⟨rfl, ⟨rfl, ⟨(congrArg (V.own _) (rep_stepS n)), ⟨rfl, I⟩⟩⟩⟩⟩⟩⟩⟩⟩⟩⟩⟩⟩, I⟩⟩⟩⟩, I⟩, ?_, ?_⟩
        rotate_left 1
        (dsimp only; omega)
        dsimp only
        omega
      obtain rfl : n = w.toNat := by omega
      exact (up_cells w now safe p (replayP p safe)).symm
    · rw [rsb_no (fun q => he q.2.2)]
      refine i_spec_l5Rise ?_
      conv => whnf
      refine g 0 0 [] ?_
      conv => whnf
      refine ⟨⟨⟨I, I, I, I, I, I, I, I, I, I, I, I, I⟩, ⟨I, I⟩, I, I⟩, ?_⟩
      refine g 10 14 [.call (storyO (replayP p safe)) ([[], []])] ?_
      conv => whnf
      refine ⟨⟨I, I, I, I, ⟨⟨I, I, I⟩, I, ⟨⟨I, I⟩, ⟨I, I⟩, I⟩, ⟨I, I⟩, (by assumption)⟩, I, ⟨I, I, I, I⟩, I⟩, ?_⟩
      refine W.sq ?_
      by_cases h1 : (310 : Int) ≤ (↑(List.length (List.map strT safe)) : Int)
      simp only [List.length_map] at h1
      omega
      simp only [List.length_map] at h1
      refine g 9 27 [.b (false), .b (false), .b (false), .b (false), .b (false), .b (false), .b (false), .b (false), .b (false), .b (false)] ?_
      conv => whnf
      refine ⟨⟨I, I, I, ⟨rfl, I⟩, ⟨rfl, I⟩, ⟨rfl, I⟩, ⟨rfl, I⟩, ⟨rfl, I⟩, rfl, I, ⟨(by simp [*]), I⟩, ⟨(by simp [*]), I⟩, ⟨(by simp [*]), I⟩, (by simp [*]), I⟩, ?_⟩
      refine W.cn ?_
      conv => whnf
      refine ⟨fun _ => ?_, noF (decide_eq_true (by omega))⟩
      refine g 27 30 [.call (bossO (downB w now safe)) ([[]])] ?_
      conv => whnf
      refine ⟨⟨I, ⟨⟨I, I⟩, I, ⟨⟨I, I, I, I, I, I, I, I, I, I, I, I, I⟩, I⟩, ⟨I, I⟩, (by assumption)⟩, ⟨I, I, I, I, I, I, I, I, I, I, I, I, I⟩, I⟩, ?_⟩
      refine W.ret ?_
      refine EndsW.rt ?_
      conv => whnf
      refine ⟨⟨I, I, I, I, I, I, I, I, I, I, I, I, I, I⟩, ?_, rfl⟩
      rfl
  · rw [rsb_no (fun q => hl2 q.2.1)]
    refine i_spec_l5Rise ?_
    conv => whnf
    refine g 0 0 [] ?_
    conv => whnf
    refine ⟨⟨⟨I, I, I, I, I, I, I, I, I, I, I, I, I⟩, ⟨I, I⟩, I, I⟩, ?_⟩
    refine g 10 14 [.call (storyO (replayP p safe)) ([[], []])] ?_
    conv => whnf
    refine ⟨⟨I, I, I, I, ⟨⟨I, I, I⟩, I, ⟨⟨I, I⟩, ⟨I, I⟩, I⟩, ⟨I, I⟩, (by assumption)⟩, I, ⟨I, I, I, I⟩, I⟩, ?_⟩
    refine W.sq ?_
    by_cases h1 : (310 : Int) ≤ (↑(List.length (List.map strT safe)) : Int)
    simp only [List.length_map] at h1
    refine g 9 27 [.b (false), .b (false), .b (false), .b (false), .b (false), .b (false), .b (true), .b (true), .b (true), .b (true)] ?_
    conv => whnf
    refine ⟨⟨I, I, I, ⟨rfl, I⟩, ⟨rfl, I⟩, ⟨rfl, I⟩, ⟨rfl, I⟩, ⟨rfl, I⟩, rfl, I, (by simp [*]), (by simp [*]), (by simp [*]), (by simp [*]), I⟩, ?_⟩
    refine W.cn ?_
    conv => whnf
    refine ⟨fun _ => ?_, noF (rfl)⟩
    refine g 27 30 [.call (bossO (downB w now safe)) ([[]])] ?_
    conv => whnf
    refine ⟨⟨I, ⟨⟨I, I⟩, I, ⟨⟨I, I, I, I, I, I, I, I, I, I, I, I, I⟩, I⟩, ⟨I, I⟩, (by assumption)⟩, ⟨I, I, I, I, I, I, I, I, I, I, I, I, I⟩, I⟩, ?_⟩
    refine W.ret ?_
    refine EndsW.rt ?_
    conv => whnf
    refine ⟨⟨I, I, I, I, I, I, I, I, I, I, I, I, I, I⟩, ?_, rfl⟩
    rfl
    simp only [List.length_map] at h1
    omega
end Go.K

end

section
set_option linter.unusedVariables false
set_option linter.unusedSimpArgs false
set_option maxHeartbeats 4000000
set_option maxRecDepth 20000
open Go Go.Tm Go.Proofs
namespace Go.K
theorem replayP_len (p : Plan) (xs : List ByteArray) : (replayP p xs).results.length ≤ 40 := by
  unfold replayP
  by_cases h : checkPlan p.tasks = 0 ∧ xs.length ≤ 310
  · rw [if_pos h]
    cases hr : runR p.tasks (some (tale0 p.tasks)) xs with
    | none => exact Nat.zero_le _
    | some t =>
      have := runR_len p.tasks xs _ _ hr
      rw [tale0, List.length_replicate] at this
      have := (chk_inv h.1).1.2
      show t.results.length ≤ 40
      omega
  · rw [if_neg h]; exact Nat.zero_le _
end Go.K

end

section
set_option linter.unusedVariables false
set_option linter.unusedSimpArgs false
set_option maxHeartbeats 8000000
set_option maxRecDepth 20000
open Go Go.Tm Go.Proofs
namespace Go.K
theorem sum_jobC : ∀ l : List Job, sumI jobC l = 3 * (l.length : Int)
  | [] => by simp [sumI]
  | x :: l => by have := sum_jobC l; simp only [sumI, jobC, List.length_cons]; omega
theorem sum_seatC : ∀ l : List Seat, sumI seatC l = 2 * (l.length : Int)
  | [] => by simp [sumI]
  | x :: l => by have := sum_seatC l; simp only [sumI, seatC, List.length_cons]; omega
theorem sum_owedC : ∀ l : List Owed, sumI owedC l = 3 * (l.length : Int)
  | [] => by simp [sumI]
  | x :: l => by have := sum_owedC l; simp only [sumI, owedC, List.length_cons]; omega
theorem bossTopC_len (x : Boss) : bossTopC x = x.log.safe.length + x.log.loose.length + x.results.length + 3 * x.jobs.length + 2 * x.seats.length + 3 * x.owed.length := by
  simp only [bossTopC, logTopC, sum_jobC, sum_seatC, sum_owedC]
structure BossSmall (b : Boss) : Prop where
  safe : b.log.safe.length ≤ 4194304
  loose : b.log.loose.length ≤ 4194304
  res : b.results.length ≤ 4194304
  jobs : b.jobs.length ≤ 4194304
  seats : b.seats.length ≤ 4194304
  owed : b.owed.length ≤ 4194304
theorem small_no : BossSmall noBoss := ⟨by decide, by decide, by decide, by decide, by decide, by decide⟩
theorem small_boss {b : Boss} (h : BossSmall b) : bossLen b ∧ (b.log.safe.length ≤ 9223372036854775806 ∧ b.log.loose.length ≤ 9223372036854775806 ∧ b.results.length ≤ 9223372036854775806 ∧ b.jobs.length ≤ 9223372036854775806 ∧ b.seats.length ≤ 9223372036854775806 ∧ b.owed.length ≤ 9223372036854775806) ∧ bossTopC b ≤ 100000000 ∧ 0 ≤ bossTopC b := by
  obtain ⟨h1, h2, h3, h4, h5, h6⟩ := h
  have e := bossTopC_len b
  exact ⟨⟨by omega, by omega, by omega, by omega, by omega, by omega⟩, ⟨by omega, by omega, by omega, by omega, by omega, by omega⟩, by omega, by omega⟩
end Go.K

end

section
set_option linter.unusedVariables false
set_option linter.unusedSimpArgs false
set_option maxHeartbeats 4000000
set_option maxRecDepth 20000
open Go Go.Tm Go.Proofs
namespace Go.K
attribute [local irreducible] ByteArray.extract
end Go.K

end

section
set_option linter.unusedVariables false
set_option linter.unusedSimpArgs false
set_option maxHeartbeats 4000000
set_option maxRecDepth 20000
open Go Go.Tm Go.Proofs
namespace Go.K
abbrev parcelT (p : Parcel) : List T := parT p
end Go.K

end

section
set_option linter.unusedVariables false
set_option linter.unusedSimpArgs false
set_option maxHeartbeats 4000000
set_option maxRecDepth 20000
open Go Go.Tm Go.Proofs
namespace Go.K
abbrev parcelK : List Bool := pkd
theorem c_laws_heldIntS (xs : List Int) (k : Int) (hl : xs.length ≤ 9223372036854775806) (h0 : 0 ≤ k) (hk : k + xs.length ≤ 1099511627776) : F n_laws_heldIntS [.val (.t (.slc [false] ((mkL (fun k _ => k) (fun _ => 1) k xs).map intT))), .val (.i k)] (.i (k + xs.length)) [[], []] := by
  have hx := mkL_len (fun k _ => k) (fun _ => 1) k xs
  refine i_laws_heldIntS ?_
  conv => whnf
  refine g 0 0 [] ?_
  conv => whnf
  refine ⟨⟨I, I⟩, ?_⟩
  refine W.sq ?_
  refine g 0 0 [] ?_
  conv => whnf
  refine ⟨⟨I, I⟩, ?_⟩
  refine W.blk ?_
  refine W.lp (fun s (n : Nat) => ⟨[(0, s.s 0), (1, .i (k + n)), (5, .i n)], [], []⟩) (fun (n : Nat) => n ≤ xs.length) (fun (n : Nat) => xs.length - n) (0) [] [] ⟨rfl, ⟨rfl, (congrArg (fun z => V.t (T.v (Value.int _ z))) (by simp [sumI])), rfl, I⟩, I, I⟩ (by omega) ?_
  intro n hn
  have hs1 : ∀ x, xs[n]? = some x → (mkL (fun k _ => k) (fun _ => 1) k xs)[n]? = some (k + n) := fun x hx => by
    have := mkL_get (f := (fun k _ => k)) (c := (fun _ => 1)) (k := k) hx
    rw [sum_one, List.length_take, Nat.min_eq_left hn] at this; exact this
  conv => whnf
  refine W.sq ?_
  refine g 6 9 [] ?_
  conv => whnf
  refine ⟨⟨I, I, I, I, I⟩, ?_⟩
  refine W.cn ?_
  conv => whnf
  refine ⟨fun h1 => ?_, fun h1 => ?_⟩
  replace h1 := dt h1
  simp only [List.length_map] at h1
  refine W.skip ?_
  refine W.sq ?_
  refine W.blk ?_
  refine W.sq ?_
  obtain ⟨y1, hy1⟩ := some_at (xs := xs) (n := n) (by omega)
  have hk1 := hs1 _ hy1
  refine g 9 17 [.x (intT (k + (↑n : Int)))] ?_
  conv => whnf
  refine ⟨⟨I, I, ⟨(by omega), ixl (by assumption)⟩, I, I, I, I⟩, ?_⟩
  refine W.cn ?_
  conv => whnf
  refine ⟨noT (notF (by omega)), fun _ => ?_⟩
  refine W.skip ?_
  refine rg [.i (k + (↑n : Int) + (1 : Int))] ?_
  conv => whnf
  refine ⟨⟨I, w64 (by omega) (by omega), I, I⟩, ?_⟩
  refine rg [.i ((↑n : Int) + (1 : Int))] ?_
  conv => whnf
  refine ⟨⟨I, w64 (by omega) (by omega), I, I⟩, ?_⟩
  rotate_left 1
  replace h1 := df h1
  simp only [List.length_map] at h1
  refine W.exit ?_
  refine g 5 21 [] ?_
  conv => whnf
  refine ⟨⟨I, I, I⟩, ?_⟩
  refine W.ret ?_
  refine EndsW.rt ?_
  conv => whnf
  refine ⟨⟨I, I, I⟩, ?_, rfl⟩
  exact vi (by omega)
  refine ⟨n + 1, [], [], ⟨rfl, ⟨rfl, (congrArg (fun z => V.t (T.v (Value.int _ z))) (by omega)), rfl, I⟩, I, I⟩, ?_, ?_⟩
  rotate_left 1
  (dsimp only; omega)
  dsimp only
  omega
theorem c_laws_heldTaskS (xs : List Task) (k : Int) (hl : xs.length ≤ 9223372036854775806) (h0 : 0 ≤ k) (hk : k + sumI taskC xs ≤ 1099511627776) : F n_laws_heldTaskS [.val (.t (.slc taskK ((mkL taskMk taskC k xs).map taskT))), .val (.i k)] (.i (k + sumI taskC xs)) [[], []] := by
  have hx := mkL_len taskMk taskC k xs
  refine i_laws_heldTaskS ?_
  conv => whnf
  refine g 0 0 [] ?_
  conv => whnf
  refine ⟨⟨I, I⟩, ?_⟩
  refine W.sq ?_
  refine g 0 0 [] ?_
  conv => whnf
  refine ⟨⟨I, I⟩, ?_⟩
  refine W.blk ?_
  refine W.lp (fun s (n : Nat) => ⟨[(0, s.s 0), (1, .i (k + sumI taskC (xs.take n))), (5, .i n)], [], []⟩) (fun (n : Nat) => n ≤ xs.length) (fun (n : Nat) => xs.length - n) (0) [] [] ⟨rfl, ⟨rfl, (congrArg (fun z => V.t (T.v (Value.int _ z))) (by simp [sumI])), rfl, I⟩, I, I⟩ (by omega) ?_
  intro n hn
  have hq := sum_nn taskC_nn (xs.take n)
  have hle := sum_le taskC_nn xs (n + 1)
  have hle0 := sum_le taskC_nn xs n
  conv => whnf
  refine W.sq ?_
  refine g 6 9 [] ?_
  conv => whnf
  refine ⟨⟨I, I, I, I, I⟩, ?_⟩
  refine W.cn ?_
  conv => whnf
  refine ⟨fun h1 => ?_, fun h1 => ?_⟩
  replace h1 := dt h1
  simp only [List.length_map] at h1
  refine W.skip ?_
  refine W.sq ?_
  refine W.blk ?_
  refine W.sq ?_
  obtain ⟨y1, hy1⟩ := some_at (xs := xs) (n := n) (by omega)
  have hk1 := sum_take (f := taskC) hy1
  have hk2 := taskC_nn y1
  have hk3 := taskC_eq y1
  have hk4 := mkL_get (f := taskMk) (c := taskC) (k := k) hy1
  refine gd 9 19 [[], [], [.x (taskT (taskMk (k + sumI taskC (List.take n xs)) y1))], [], [], [], [.call (V.s (markT (k + sumI taskC (List.take n xs)))) ([[]])], []] ?_
  conv => whnf
  refine ⟨⟨I, I, ⟨(by omega), ixl (by assumption)⟩, I, I, I, ⟨⟨I, I⟩, I, ⟨⟨I, I⟩, I⟩, ⟨I, I⟩, Go.K.c_laws_markText _ (by omega)⟩, I, I⟩, by kernel_rfl, ?_⟩
  refine W.cn ?_
  conv => whnf
  refine ⟨noT (notF rfl), fun _ => ?_⟩
  refine W.skip ?_
  refine g 19 22 [.i (k + sumI taskC (List.take n xs) + (1 : Int))] ?_
  conv => whnf
  refine ⟨⟨I, w64 (by omega) (by omega), I, I⟩, ?_⟩
  refine W.sq ?_
  refine g 22 28 [.x (taskT (taskMk (k + sumI taskC (List.take n xs)) y1))] ?_
  conv => whnf
  refine ⟨⟨I, I, ⟨(by omega), ixl (by assumption)⟩, I, I, I, I, I⟩, ?_⟩
  refine W.cn ?_
  conv => whnf
  refine ⟨noT (notF rfl), fun _ => ?_⟩
  refine W.skip ?_
  refine g 28 31 [.i (k + sumI taskC (List.take n xs) + (1 : Int) + (1 : Int))] ?_
  conv => whnf
  refine ⟨⟨I, w64 (by omega) (by omega), I, I⟩, ?_⟩
  refine g 31 38 [.x (taskT (taskMk (k + sumI taskC (List.take n xs)) y1)), .call (V.i (k + sumI taskC (List.take n xs) + (1 : Int) + (1 : Int) + (↑(List.length (Task.deps y1)) : Int))) ([[], []])] ?_
  conv => whnf
  refine ⟨⟨I, I, ⟨(by omega), ixl (by assumption)⟩, I, I, I, ⟨⟨I, I, I⟩, I, ⟨⟨I, I⟩, ⟨I, I⟩, I⟩, ⟨I, I⟩, Go.K.c_laws_heldIntS _ _ (by omega) (by omega) (by omega)⟩, I, I⟩, ?_⟩
  refine g 38 39 [] ?_
  conv => whnf
  refine ⟨⟨I, I, I⟩, ?_⟩
  refine W.cn ?_
  conv => whnf
  refine ⟨noT (decide_eq_false (by omega)), fun _ => ?_⟩
  refine W.skip ?_
  refine rg [.i ((↑n : Int) + (1 : Int))] ?_
  conv => whnf
  refine ⟨⟨I, w64 (by omega) (by omega), I, I⟩, ?_⟩
  rotate_left 1
  replace h1 := df h1
  simp only [List.length_map] at h1
  refine W.exit ?_
  refine g 5 41 [] ?_
  conv => whnf
  refine ⟨⟨I, I, I⟩, ?_⟩
  refine W.ret ?_
  refine EndsW.rt ?_
  conv => whnf
  refine ⟨⟨I, I, I⟩, ?_, rfl⟩
  rotate_left 1
  · refine ⟨n + 1, [], [], ⟨rfl, ⟨rfl, (congrArg (fun z => V.t (T.v (Value.int _ z))) (by rw [sum_take (by assumption)]; omega)), rfl, I⟩, I, I⟩, ?_, ?_⟩
    rotate_left 1
    (dsimp only; omega)
    dsimp only
    omega
  · rw [take_all (by omega)]
theorem c_laws_heldPlan (x : Plan) (k : Int) (hl : x.tasks.length ≤ 9223372036854775806) (h0 : 0 ≤ k) (hk : k + planTopC x ≤ 1099511627776) : F n_laws_heldPlan [.val (planR (planTop k x)), .val (.i k)] (.i (k + planTopC x)) [[], []] := by
  have hn0 := sum_nn taskC_nn x.tasks
  have hz : planTopC x = sumI taskC x.tasks := rfl
  refine i_laws_heldPlan ?_
  conv => whnf
  refine g 0 1 [] ?_
  conv => whnf
  refine ⟨⟨⟨I, I⟩, I, I⟩, ?_⟩
  refine g 5 9 [.call (V.i (k + sumI taskC (Plan.tasks x))) ([[], []])] ?_
  conv => whnf
  refine ⟨⟨I, I, I, ⟨⟨I, I, I⟩, I, ⟨⟨I, I⟩, ⟨I, I⟩, I⟩, ⟨I, I⟩, Go.K.c_laws_heldTaskS _ _ (by omega) (by omega) (by omega)⟩, I, I⟩, ?_⟩
  refine W.sq ?_
  refine g 2 3 [] ?_
  conv => whnf
  refine ⟨⟨I, I, I⟩, ?_⟩
  refine W.cn ?_
  conv => whnf
  refine ⟨noT (decide_eq_false (by omega)), fun _ => ?_⟩
  refine W.skip ?_
  refine g 9 12 [] ?_
  conv => whnf
  refine ⟨⟨I, I, I⟩, ?_⟩
  refine W.ret ?_
  refine EndsW.rt ?_
  conv => whnf
  refine ⟨⟨I, I, I⟩, ?_, rfl⟩
  rfl
def workerC (x : Worker) : Int := 10 + (x.inputs.length : Int)
theorem workerC_eq (x : Worker) : workerC x = 10 + (x.inputs.length : Int) := rfl
theorem workerC_nn (x : Worker) : 0 ≤ workerC x := by
  simp only [workerC]; omega
def workerMk (k : Int) (x : Worker) : Worker := ⟨k, k + 1, decide (Int.tmod (k + 1 + 1) 3 = 0), k + 1 + 1 + 1, k + 1 + 1 + 1 + 1, k + 1 + 1 + 1 + 1 + 1, k + 1 + 1 + 1 + 1 + 1 + 1, k + 1 + 1 + 1 + 1 + 1 + 1 + 1, mkL (fun k _ => markT k) (fun _ => 1) (k + 1 + 1 + 1 + 1 + 1 + 1 + 1 + 1) x.inputs, markT (k + 1 + 1 + 1 + 1 + 1 + 1 + 1 + 1 + x.inputs.length), k + 1 + 1 + 1 + 1 + 1 + 1 + 1 + 1 + x.inputs.length + 1⟩
def parcelC (x : Parcel) : Int := 3
theorem parcelC_eq (x : Parcel) : parcelC x = 3 := rfl
theorem parcelC_nn (x : Parcel) : 0 ≤ parcelC x := by
  simp only [parcelC]; omega
def parcelMk (k : Int) (x : Parcel) : Parcel := ⟨k, markT (k + 1), markT (k + 1 + 1)⟩
theorem c_laws_eqWorkerS (xs ys : List Worker) (hl : xs.length ≤ 9223372036854775806) (hs : ∀ y ∈ xs, workerLen y) : F n_laws_eqWorkerS [.val (.t (.slc workerK (xs.map workerT))), .val (.t (.slc workerK (ys.map workerT)))] (.b (decide (xs = ys))) [[], []] := by
  refine i_laws_eqWorkerS ?_
  conv => whnf
  refine g 0 0 [] ?_
  conv => whnf
  refine ⟨⟨I, I⟩, ?_⟩
  refine W.sq ?_
  refine g 6 10 [] ?_
  conv => whnf
  refine ⟨⟨I, I, I, I, I, I⟩, ?_⟩
  refine W.cn ?_
  conv => whnf
  refine ⟨fun h1 => ?_, fun h1 => ?_⟩
  replace h1 := ndt h1
  simp only [List.length_map] at h1
  refine g 10 11 [] ?_
  conv => whnf
  refine ⟨⟨I, I⟩, ?_⟩
  refine W.ret ?_
  refine EndsW.rt ?_
  conv => whnf
  refine ⟨⟨I, I, I⟩, ?_, rfl⟩
  rotate_left 1
  replace h1 := ndf h1
  simp only [List.length_map] at h1
  refine W.skip ?_
  refine W.sq ?_
  refine g 10 11 [] ?_
  conv => whnf
  refine ⟨⟨I, I⟩, ?_⟩
  refine W.blk ?_
  rotate_left 1
  · exact vbf (fun e => h1 (by rw [e]))
  refine W.lp (fun s (n : Nat) => ⟨[(0, s.s 0), (1, s.s 1), (5, .i n)], [], []⟩) (fun (n : Nat) => n ≤ xs.length ∧ xs.take n = ys.take n) (fun (n : Nat) => xs.length - n) (0) [] [] ⟨rfl, ⟨rfl, rfl, rfl, I⟩, I, I⟩ (by simp) ?_
  rintro n ⟨hn, hc⟩
  conv => whnf
  refine W.sq ?_
  refine g 11 14 [] ?_
  conv => whnf
  refine ⟨⟨I, I, I, I, I⟩, ?_⟩
  refine W.cn ?_
  conv => whnf
  refine ⟨fun h2 => ?_, fun h2 => ?_⟩
  replace h2 := dt h2
  simp only [List.length_map] at h2
  refine W.skip ?_
  refine W.sq ?_
  refine W.blk ?_
  obtain ⟨y1, hy1⟩ := some_at (xs := xs) (n := n) (by omega)
  have hm1 := hs y1 (List.mem_of_getElem? hy1)
  obtain ⟨y2, hy2⟩ := some_at (xs := ys) (n := n) (by omega)
  refine gd 14 26 [[], [], [.x (workerT y1)], [], [], [], [.x (workerT y2)], [], [.call (V.b (decide (y1 = y2))) ([[], []])], []] ?_
  conv => whnf
  refine ⟨⟨I, I, ⟨(by omega), ixl (by assumption)⟩, I, I, I, ⟨(by omega), ixl (by assumption)⟩, I, ⟨⟨I, I, I⟩, I, ⟨⟨I, I, I, I, I, I, I, I, I, I, I, I⟩, ⟨I, I, I, I, I, I, I, I, I, I, I, I⟩, I⟩, ⟨I, I⟩, Go.K.c_laws_eqWorker _ _ (by omega)⟩, I, I⟩, by kernel_rfl, ?_⟩
  refine W.cn ?_
  conv => whnf
  refine ⟨fun h3 => ?_, fun h3 => ?_⟩
  replace h3 := ndt h3
  refine g 26 27 [] ?_
  conv => whnf
  refine ⟨⟨I, I⟩, ?_⟩
  refine W.ret ?_
  refine EndsW.rt ?_
  conv => whnf
  refine ⟨⟨I, I, I⟩, ?_, rfl⟩
  rotate_left 1
  replace h3 := ndf h3
  refine W.skip ?_
  refine rg [.i ((↑n : Int) + (1 : Int))] ?_
  conv => whnf
  refine ⟨⟨I, w64 (by omega) (by omega), I, I⟩, ?_⟩
  rotate_left 1
  replace h2 := df h2
  simp only [List.length_map] at h2
  refine W.exit ?_
  refine g 0 2 [] ?_
  conv => whnf
  refine ⟨⟨I, I⟩, ?_⟩
  refine W.ret ?_
  refine EndsW.rt ?_
  conv => whnf
  refine ⟨⟨I, I, I⟩, ?_, rfl⟩
  rotate_left 1
  · exact vbf (fun e => by subst e; rw [hy1] at hy2; cases hy2; exact h3 rfl)
  · refine ⟨n + 1, [], [], ⟨rfl, ⟨rfl, rfl, rfl, I⟩, I, I⟩, ?_, ?_⟩
    rotate_left 1
    (dsimp only; omega)
    dsimp only
    exact ⟨by omega, take_eq hc hy1 (by rw [hy2]; exact congrArg some (Eq.symm h3))⟩
  · exact vbt (by rw [take_all (by omega), take_all (by omega)] at hc; exact hc)
theorem c_laws_markWorkerS (xs : List Worker) (k : Int) (hl : xs.length ≤ 9223372036854775806) (h0 : 0 ≤ k) (hk : k + sumI workerC xs ≤ 1099511627776) : F n_laws_markWorkerS [.bor (.own workerK (xs.map workerT)), .val (.i k)] (.i (k + sumI workerC xs)) [[.own workerK ((mkL workerMk workerC k xs).map workerT)], []] := by
  refine i_laws_markWorkerS ?_
  conv => whnf
  refine g 0 0 [] ?_
  conv => whnf
  refine ⟨⟨I, I⟩, ?_⟩
  refine W.sq ?_
  refine g 0 0 [] ?_
  conv => whnf
  refine ⟨⟨I, I⟩, ?_⟩
  refine W.blk ?_
  refine W.lp (fun s (n : Nat) => ⟨[(0, s.s 0), (1, .i (k + sumI workerC (xs.take n))), (4, s.s 4), (5, .i n)], [(93, [.own workerK ((mkN workerMk workerC k xs n).map workerT)])], []⟩) (fun (n : Nat) => n ≤ xs.length) (fun (n : Nat) => xs.length - n) (0) [some 93] [] ⟨rfl, ⟨rfl, (congrArg (fun z => V.t (T.v (Value.int _ z))) (by simp [sumI])), rfl, rfl, I⟩, ⟨⟨rfl, ⟨rfl, I⟩⟩, I⟩, I⟩ (by omega) ?_
  intro n hn
  have hx := mkN_len workerMk workerC k xs n
  have hq := sum_nn workerC_nn (xs.take n)
  have hle := sum_le workerC_nn xs (n + 1)
  have hle0 := sum_le workerC_nn xs n
  conv => whnf
  refine W.sq ?_
  refine g 6 9 [] ?_
  conv => whnf
  refine ⟨⟨I, I, I, I, I⟩, ?_⟩
  refine W.cn ?_
  conv => whnf
  refine ⟨fun h1 => ?_, fun h1 => ?_⟩
  replace h1 := dt h1
  simp only [List.length_map] at h1
  refine W.skip ?_
  refine W.sq ?_
  refine W.blk ?_
  obtain ⟨y1, hy1⟩ := some_at (xs := xs) (n := n) (by omega)
  have hk1 := sum_take (f := workerC) hy1
  have hk2 := workerC_nn y1
  have hk3 := workerC_eq y1
  refine g 9 17 [.n (n), .x (workerT y1)] ?_
  conv => whnf
  refine ⟨⟨I, I, I, ⟨rfl, (by simp only [List.length_map, List.length_append, List.length_set, List.length_replicate, List.length_cons, List.length_nil, List.length_take, List.length_drop, fill_len, fillI_len, List.length_range, bytesT_len]; omega)⟩, I, ⟨⟨I, I⟩, mkN_getm (by assumption)⟩, I⟩, ?_⟩
  refine g 17 19 [.i (k + sumI workerC (List.take n xs) + (1 : Int))] ?_
  conv => whnf
  refine ⟨⟨I, w64 (by omega) (by omega), I, I⟩, ?_⟩
  refine g 19 24 [.n (n), .x (patch (workerT y1) ((0 : Nat) + (0 : Nat)) [T.v (Value.int IntKind.i64 (k + sumI workerC (List.take n xs)))])] ?_
  conv => whnf
  refine ⟨⟨I, I, I, ⟨rfl, (by simp only [List.length_map, List.length_append, List.length_set, List.length_replicate, List.length_cons, List.length_nil, List.length_take, List.length_drop, fill_len, fillI_len, List.length_range, bytesT_len]; omega)⟩, I, ⟨⟨I, I⟩, getset (by simp only [List.length_map, List.length_append, List.length_set, List.length_replicate, List.length_cons, List.length_nil, List.length_take, List.length_drop, fill_len, fillI_len, List.length_range, bytesT_len]; omega)⟩, I⟩, ?_⟩
  rw [List.set_set]
  refine g 24 26 [.i (k + sumI workerC (List.take n xs) + (1 : Int) + (1 : Int))] ?_
  conv => whnf
  refine ⟨⟨I, w64 (by omega) (by omega), I, I⟩, ?_⟩
  refine g 26 33 [.i (Int.tmod (k + sumI workerC (List.take n xs) + (1 : Int) + (1 : Int)) (3 : Int)), .n (n), .x (patch (patch (workerT y1) ((0 : Nat) + (0 : Nat)) [T.v (Value.int IntKind.i64 (k + sumI workerC (List.take n xs)))]) ((0 : Nat) + (1 : Nat)) [T.v (Value.int IntKind.i64 (k + sumI workerC (List.take n xs) + (1 : Int)))])] ?_
  conv => whnf
  refine ⟨⟨I, I, I, ⟨(by omega), rfl⟩, I, ⟨rfl, (by simp only [List.length_map, List.length_append, List.length_set, List.length_replicate, List.length_cons, List.length_nil, List.length_take, List.length_drop, fill_len, fillI_len, List.length_range, bytesT_len]; omega)⟩, I, ⟨⟨I, I⟩, getset (by simp only [List.length_map, List.length_append, List.length_set, List.length_replicate, List.length_cons, List.length_nil, List.length_take, List.length_drop, fill_len, fillI_len, List.length_range, bytesT_len]; omega)⟩, I⟩, ?_⟩
  rw [List.set_set]
  refine g 33 35 [.i (k + sumI workerC (List.take n xs) + (1 : Int) + (1 : Int) + (1 : Int))] ?_
  conv => whnf
  refine ⟨⟨I, w64 (by omega) (by omega), I, I⟩, ?_⟩
  refine g 35 40 [.n (n), .x (patch (patch (patch (workerT y1) ((0 : Nat) + (0 : Nat)) [T.v (Value.int IntKind.i64 (k + sumI workerC (List.take n xs)))]) ((0 : Nat) + (1 : Nat)) [T.v (Value.int IntKind.i64 (k + sumI workerC (List.take n xs) + (1 : Int)))]) ((0 : Nat) + (2 : Nat)) [T.v (Value.bool (decide (Int.tmod (k + sumI workerC (List.take n xs) + (1 : Int) + (1 : Int)) (3 : Int) = (0 : Int))))])] ?_
  conv => whnf
  refine ⟨⟨I, I, I, ⟨rfl, (by simp only [List.length_map, List.length_append, List.length_set, List.length_replicate, List.length_cons, List.length_nil, List.length_take, List.length_drop, fill_len, fillI_len, List.length_range, bytesT_len]; omega)⟩, I, ⟨⟨I, I⟩, getset (by simp only [List.length_map, List.length_append, List.length_set, List.length_replicate, List.length_cons, List.length_nil, List.length_take, List.length_drop, fill_len, fillI_len, List.length_range, bytesT_len]; omega)⟩, I⟩, ?_⟩
  rw [List.set_set]
  refine g 40 42 [.i (k + sumI workerC (List.take n xs) + (1 : Int) + (1 : Int) + (1 : Int) + (1 : Int))] ?_
  conv => whnf
  refine ⟨⟨I, w64 (by omega) (by omega), I, I⟩, ?_⟩
  refine g 42 47 [.n (n), .x (patch (patch (patch (patch (workerT y1) ((0 : Nat) + (0 : Nat)) [T.v (Value.int IntKind.i64 (k + sumI workerC (List.take n xs)))]) ((0 : Nat) + (1 : Nat)) [T.v (Value.int IntKind.i64 (k + sumI workerC (List.take n xs) + (1 : Int)))]) ((0 : Nat) + (2 : Nat)) [T.v (Value.bool (decide (Int.tmod (k + sumI workerC (List.take n xs) + (1 : Int) + (1 : Int)) (3 : Int) = (0 : Int))))]) ((0 : Nat) + (3 : Nat)) [T.v (Value.int IntKind.i64 (k + sumI workerC (List.take n xs) + (1 : Int) + (1 : Int) + (1 : Int)))])] ?_
  conv => whnf
  refine ⟨⟨I, I, I, ⟨rfl, (by simp only [List.length_map, List.length_append, List.length_set, List.length_replicate, List.length_cons, List.length_nil, List.length_take, List.length_drop, fill_len, fillI_len, List.length_range, bytesT_len]; omega)⟩, I, ⟨⟨I, I⟩, getset (by simp only [List.length_map, List.length_append, List.length_set, List.length_replicate, List.length_cons, List.length_nil, List.length_take, List.length_drop, fill_len, fillI_len, List.length_range, bytesT_len]; omega)⟩, I⟩, ?_⟩
  rw [List.set_set]
  refine g 47 49 [.i (k + sumI workerC (List.take n xs) + (1 : Int) + (1 : Int) + (1 : Int) + (1 : Int) + (1 : Int))] ?_
  conv => whnf
  refine ⟨⟨I, w64 (by omega) (by omega), I, I⟩, ?_⟩
  refine g 49 54 [.n (n), .x (patch (patch (patch (patch (patch (workerT y1) ((0 : Nat) + (0 : Nat)) [T.v (Value.int IntKind.i64 (k + sumI workerC (List.take n xs)))]) ((0 : Nat) + (1 : Nat)) [T.v (Value.int IntKind.i64 (k + sumI workerC (List.take n xs) + (1 : Int)))]) ((0 : Nat) + (2 : Nat)) [T.v (Value.bool (decide (Int.tmod (k + sumI workerC (List.take n xs) + (1 : Int) + (1 : Int)) (3 : Int) = (0 : Int))))]) ((0 : Nat) + (3 : Nat)) [T.v (Value.int IntKind.i64 (k + sumI workerC (List.take n xs) + (1 : Int) + (1 : Int) + (1 : Int)))]) ((0 : Nat) + (4 : Nat)) [T.v (Value.int IntKind.i64 (k + sumI workerC (List.take n xs) + (1 : Int) + (1 : Int) + (1 : Int) + (1 : Int)))])] ?_
  conv => whnf
  refine ⟨⟨I, I, I, ⟨rfl, (by simp only [List.length_map, List.length_append, List.length_set, List.length_replicate, List.length_cons, List.length_nil, List.length_take, List.length_drop, fill_len, fillI_len, List.length_range, bytesT_len]; omega)⟩, I, ⟨⟨I, I⟩, getset (by simp only [List.length_map, List.length_append, List.length_set, List.length_replicate, List.length_cons, List.length_nil, List.length_take, List.length_drop, fill_len, fillI_len, List.length_range, bytesT_len]; omega)⟩, I⟩, ?_⟩
  rw [List.set_set]
  refine g 54 56 [.i (k + sumI workerC (List.take n xs) + (1 : Int) + (1 : Int) + (1 : Int) + (1 : Int) + (1 : Int) + (1 : Int))] ?_
  conv => whnf
  refine ⟨⟨I, w64 (by omega) (by omega), I, I⟩, ?_⟩
  refine g 56 61 [.n (n), .x (patch (patch (patch (patch (patch (patch (workerT y1) ((0 : Nat) + (0 : Nat)) [T.v (Value.int IntKind.i64 (k + sumI workerC (List.take n xs)))]) ((0 : Nat) + (1 : Nat)) [T.v (Value.int IntKind.i64 (k + sumI workerC (List.take n xs) + (1 : Int)))]) ((0 : Nat) + (2 : Nat)) [T.v (Value.bool (decide (Int.tmod (k + sumI workerC (List.take n xs) + (1 : Int) + (1 : Int)) (3 : Int) = (0 : Int))))]) ((0 : Nat) + (3 : Nat)) [T.v (Value.int IntKind.i64 (k + sumI workerC (List.take n xs) + (1 : Int) + (1 : Int) + (1 : Int)))]) ((0 : Nat) + (4 : Nat)) [T.v (Value.int IntKind.i64 (k + sumI workerC (List.take n xs) + (1 : Int) + (1 : Int) + (1 : Int) + (1 : Int)))]) ((0 : Nat) + (5 : Nat)) [T.v (Value.int IntKind.i64 (k + sumI workerC (List.take n xs) + (1 : Int) + (1 : Int) + (1 : Int) + (1 : Int) + (1 : Int)))])] ?_
  conv => whnf
  refine ⟨⟨I, I, I, ⟨rfl, (by simp only [List.length_map, List.length_append, List.length_set, List.length_replicate, List.length_cons, List.length_nil, List.length_take, List.length_drop, fill_len, fillI_len, List.length_range, bytesT_len]; omega)⟩, I, ⟨⟨I, I⟩, getset (by simp only [List.length_map, List.length_append, List.length_set, List.length_replicate, List.length_cons, List.length_nil, List.length_take, List.length_drop, fill_len, fillI_len, List.length_range, bytesT_len]; omega)⟩, I⟩, ?_⟩
  rw [List.set_set]
  refine g 61 63 [.i (k + sumI workerC (List.take n xs) + (1 : Int) + (1 : Int) + (1 : Int) + (1 : Int) + (1 : Int) + (1 : Int) + (1 : Int))] ?_
  conv => whnf
  refine ⟨⟨I, w64 (by omega) (by omega), I, I⟩, ?_⟩
  refine g 63 68 [.n (n), .x (patch (patch (patch (patch (patch (patch (patch (workerT y1) ((0 : Nat) + (0 : Nat)) [T.v (Value.int IntKind.i64 (k + sumI workerC (List.take n xs)))]) ((0 : Nat) + (1 : Nat)) [T.v (Value.int IntKind.i64 (k + sumI workerC (List.take n xs) + (1 : Int)))]) ((0 : Nat) + (2 : Nat)) [T.v (Value.bool (decide (Int.tmod (k + sumI workerC (List.take n xs) + (1 : Int) + (1 : Int)) (3 : Int) = (0 : Int))))]) ((0 : Nat) + (3 : Nat)) [T.v (Value.int IntKind.i64 (k + sumI workerC (List.take n xs) + (1 : Int) + (1 : Int) + (1 : Int)))]) ((0 : Nat) + (4 : Nat)) [T.v (Value.int IntKind.i64 (k + sumI workerC (List.take n xs) + (1 : Int) + (1 : Int) + (1 : Int) + (1 : Int)))]) ((0 : Nat) + (5 : Nat)) [T.v (Value.int IntKind.i64 (k + sumI workerC (List.take n xs) + (1 : Int) + (1 : Int) + (1 : Int) + (1 : Int) + (1 : Int)))]) ((0 : Nat) + (6 : Nat)) [T.v (Value.int IntKind.i64 (k + sumI workerC (List.take n xs) + (1 : Int) + (1 : Int) + (1 : Int) + (1 : Int) + (1 : Int) + (1 : Int)))])] ?_
  conv => whnf
  refine ⟨⟨I, I, I, ⟨rfl, (by simp only [List.length_map, List.length_append, List.length_set, List.length_replicate, List.length_cons, List.length_nil, List.length_take, List.length_drop, fill_len, fillI_len, List.length_range, bytesT_len]; omega)⟩, I, ⟨⟨I, I⟩, getset (by simp only [List.length_map, List.length_append, List.length_set, List.length_replicate, List.length_cons, List.length_nil, List.length_take, List.length_drop, fill_len, fillI_len, List.length_range, bytesT_len]; omega)⟩, I⟩, ?_⟩
  rw [List.set_set]
  refine g 68 70 [.i (k + sumI workerC (List.take n xs) + (1 : Int) + (1 : Int) + (1 : Int) + (1 : Int) + (1 : Int) + (1 : Int) + (1 : Int) + (1 : Int))] ?_
  conv => whnf
  refine ⟨⟨I, w64 (by omega) (by omega), I, I⟩, ?_⟩
  refine g 70 77 [.n (n), .x (patch (patch (patch (patch (patch (patch (patch (patch (workerT y1) ((0 : Nat) + (0 : Nat)) [T.v (Value.int IntKind.i64 (k + sumI workerC (List.take n xs)))]) ((0 : Nat) + (1 : Nat)) [T.v (Value.int IntKind.i64 (k + sumI workerC (List.take n xs) + (1 : Int)))]) ((0 : Nat) + (2 : Nat)) [T.v (Value.bool (decide (Int.tmod (k + sumI workerC (List.take n xs) + (1 : Int) + (1 : Int)) (3 : Int) = (0 : Int))))]) ((0 : Nat) + (3 : Nat)) [T.v (Value.int IntKind.i64 (k + sumI workerC (List.take n xs) + (1 : Int) + (1 : Int) + (1 : Int)))]) ((0 : Nat) + (4 : Nat)) [T.v (Value.int IntKind.i64 (k + sumI workerC (List.take n xs) + (1 : Int) + (1 : Int) + (1 : Int) + (1 : Int)))]) ((0 : Nat) + (5 : Nat)) [T.v (Value.int IntKind.i64 (k + sumI workerC (List.take n xs) + (1 : Int) + (1 : Int) + (1 : Int) + (1 : Int) + (1 : Int)))]) ((0 : Nat) + (6 : Nat)) [T.v (Value.int IntKind.i64 (k + sumI workerC (List.take n xs) + (1 : Int) + (1 : Int) + (1 : Int) + (1 : Int) + (1 : Int) + (1 : Int)))]) ((0 : Nat) + (7 : Nat)) [T.v (Value.int IntKind.i64 (k + sumI workerC (List.take n xs) + (1 : Int) + (1 : Int) + (1 : Int) + (1 : Int) + (1 : Int) + (1 : Int) + (1 : Int)))]), .x (patch (patch (patch (patch (patch (patch (patch (patch (workerT y1) ((0 : Nat) + (0 : Nat)) [T.v (Value.int IntKind.i64 (k + sumI workerC (List.take n xs)))]) ((0 : Nat) + (1 : Nat)) [T.v (Value.int IntKind.i64 (k + sumI workerC (List.take n xs) + (1 : Int)))]) ((0 : Nat) + (2 : Nat)) [T.v (Value.bool (decide (Int.tmod (k + sumI workerC (List.take n xs) + (1 : Int) + (1 : Int)) (3 : Int) = (0 : Int))))]) ((0 : Nat) + (3 : Nat)) [T.v (Value.int IntKind.i64 (k + sumI workerC (List.take n xs) + (1 : Int) + (1 : Int) + (1 : Int)))]) ((0 : Nat) + (4 : Nat)) [T.v (Value.int IntKind.i64 (k + sumI workerC (List.take n xs) + (1 : Int) + (1 : Int) + (1 : Int) + (1 : Int)))]) ((0 : Nat) + (5 : Nat)) [T.v (Value.int IntKind.i64 (k + sumI workerC (List.take n xs) + (1 : Int) + (1 : Int) + (1 : Int) + (1 : Int) + (1 : Int)))]) ((0 : Nat) + (6 : Nat)) [T.v (Value.int IntKind.i64 (k + sumI workerC (List.take n xs) + (1 : Int) + (1 : Int) + (1 : Int) + (1 : Int) + (1 : Int) + (1 : Int)))]) ((0 : Nat) + (7 : Nat)) [T.v (Value.int IntKind.i64 (k + sumI workerC (List.take n xs) + (1 : Int) + (1 : Int) + (1 : Int) + (1 : Int) + (1 : Int) + (1 : Int) + (1 : Int)))]), .call (V.i (k + sumI workerC (List.take n xs) + (1 : Int) + (1 : Int) + (1 : Int) + (1 : Int) + (1 : Int) + (1 : Int) + (1 : Int) + (1 : Int) + (↑(List.length (Worker.inputs y1)) : Int))) ([[V.own [false] (List.map strT (mkL (fun k x => markT k) (fun x => (1 : Int)) (k + sumI workerC (List.take n xs) + (1 : Int) + (1 : Int) + (1 : Int) + (1 : Int) + (1 : Int) + (1 : Int) + (1 : Int) + (1 : Int)) (Worker.inputs y1)))], []]), .x ([T.v (Value.int IntKind.i64 (k + sumI workerC (List.take n xs))), T.v (Value.int IntKind.i64 (k + sumI workerC (List.take n xs) + (1 : Int))), T.v (Value.bool (decide (Int.tmod (k + sumI workerC (List.take n xs) + (1 : Int) + (1 : Int)) (3 : Int) = (0 : Int)))), T.v (Value.int IntKind.i64 (k + sumI workerC (List.take n xs) + (1 : Int) + (1 : Int) + (1 : Int))), T.v (Value.int IntKind.i64 (k + sumI workerC (List.take n xs) + (1 : Int) + (1 : Int) + (1 : Int) + (1 : Int))), T.v (Value.int IntKind.i64 (k + sumI workerC (List.take n xs) + (1 : Int) + (1 : Int) + (1 : Int) + (1 : Int) + (1 : Int))), T.v (Value.int IntKind.i64 (k + sumI workerC (List.take n xs) + (1 : Int) + (1 : Int) + (1 : Int) + (1 : Int) + (1 : Int) + (1 : Int))), T.v (Value.int IntKind.i64 (k + sumI workerC (List.take n xs) + (1 : Int) + (1 : Int) + (1 : Int) + (1 : Int) + (1 : Int) + (1 : Int) + (1 : Int))), T.hole, T.v (Value.string (Worker.text y1)), T.v (Value.int IntKind.i64 (Worker.since y1))])] ?_
  conv => whnf
  refine ⟨⟨I, I, ⟨rfl, (by simp only [List.length_map, List.length_append, List.length_set, List.length_replicate, List.length_cons, List.length_nil, List.length_take, List.length_drop, fill_len, fillI_len, List.length_range, bytesT_len]; omega)⟩, I, getset (by simp only [List.length_map, List.length_append, List.length_set, List.length_replicate, List.length_cons, List.length_nil, List.length_take, List.length_drop, fill_len, fillI_len, List.length_range, bytesT_len]; omega), I, ⟨⟨⟨getset (by simp only [List.length_map, List.length_append, List.length_set, List.length_replicate, List.length_cons, List.length_nil, List.length_take, List.length_drop, fill_len, fillI_len, List.length_range, bytesT_len]; omega), I⟩, I, I⟩, I, ⟨I, ⟨I, I⟩, I⟩, ⟨⟨getset (by simp only [List.length_map, List.length_append, List.length_set, List.length_replicate, List.length_cons, List.length_nil, List.length_take, List.length_drop, fill_len, fillI_len, List.length_range, bytesT_len]; omega), I⟩, I⟩, Go.K.c_laws_markStringS _ _ (by omega) (by omega) (by omega)⟩, I, I⟩, ?_⟩
  rw [List.set_set]
  rw [List.set_set]
  refine g 77 83 [.call (V.s (markT (k + sumI workerC (List.take n xs) + (1 : Int) + (1 : Int) + (1 : Int) + (1 : Int) + (1 : Int) + (1 : Int) + (1 : Int) + (1 : Int) + (↑(List.length (Worker.inputs y1)) : Int)))) ([[]]), .n (n), .x (List.set [T.v (Value.int IntKind.i64 (k + sumI workerC (List.take n xs))), T.v (Value.int IntKind.i64 (k + sumI workerC (List.take n xs) + (1 : Int))), T.v (Value.bool (decide (Int.tmod (k + sumI workerC (List.take n xs) + (1 : Int) + (1 : Int)) (3 : Int) = (0 : Int)))), T.v (Value.int IntKind.i64 (k + sumI workerC (List.take n xs) + (1 : Int) + (1 : Int) + (1 : Int))), T.v (Value.int IntKind.i64 (k + sumI workerC (List.take n xs) + (1 : Int) + (1 : Int) + (1 : Int) + (1 : Int))), T.v (Value.int IntKind.i64 (k + sumI workerC (List.take n xs) + (1 : Int) + (1 : Int) + (1 : Int) + (1 : Int) + (1 : Int))), T.v (Value.int IntKind.i64 (k + sumI workerC (List.take n xs) + (1 : Int) + (1 : Int) + (1 : Int) + (1 : Int) + (1 : Int) + (1 : Int))), T.v (Value.int IntKind.i64 (k + sumI workerC (List.take n xs) + (1 : Int) + (1 : Int) + (1 : Int) + (1 : Int) + (1 : Int) + (1 : Int) + (1 : Int))), T.hole, T.v (Value.string (Worker.text y1)), T.v (Value.int IntKind.i64 (Worker.since y1))] ((0 : Nat) + (8 : Nat)) (T.slc [false] (List.map strT (mkL (fun k x => markT k) (fun x => (1 : Int)) (k + sumI workerC (List.take n xs) + (1 : Int) + (1 : Int) + (1 : Int) + (1 : Int) + (1 : Int) + (1 : Int) + (1 : Int) + (1 : Int)) (Worker.inputs y1)))))] ?_
  conv => whnf
  refine ⟨⟨I, I, I, ⟨⟨I, I⟩, I, ⟨⟨I, I⟩, I⟩, ⟨I, I⟩, Go.K.c_laws_markText _ (by omega)⟩, ⟨rfl, (by simp only [List.length_map, List.length_append, List.length_set, List.length_replicate, List.length_cons, List.length_nil, List.length_take, List.length_drop, fill_len, fillI_len, List.length_range, bytesT_len]; omega)⟩, I, ⟨⟨I, I⟩, getset (by simp only [List.length_map, List.length_append, List.length_set, List.length_replicate, List.length_cons, List.length_nil, List.length_take, List.length_drop, fill_len, fillI_len, List.length_range, bytesT_len]; omega)⟩, I⟩, ?_⟩
  rw [List.set_set]
  refine g 83 85 [.i (k + sumI workerC (List.take n xs) + (1 : Int) + (1 : Int) + (1 : Int) + (1 : Int) + (1 : Int) + (1 : Int) + (1 : Int) + (1 : Int) + (↑(List.length (Worker.inputs y1)) : Int) + (1 : Int))] ?_
  conv => whnf
  refine ⟨⟨I, w64 (by omega) (by omega), I, I⟩, ?_⟩
  refine g 85 90 [.n (n), .x (patch (List.set [T.v (Value.int IntKind.i64 (k + sumI workerC (List.take n xs))), T.v (Value.int IntKind.i64 (k + sumI workerC (List.take n xs) + (1 : Int))), T.v (Value.bool (decide (Int.tmod (k + sumI workerC (List.take n xs) + (1 : Int) + (1 : Int)) (3 : Int) = (0 : Int)))), T.v (Value.int IntKind.i64 (k + sumI workerC (List.take n xs) + (1 : Int) + (1 : Int) + (1 : Int))), T.v (Value.int IntKind.i64 (k + sumI workerC (List.take n xs) + (1 : Int) + (1 : Int) + (1 : Int) + (1 : Int))), T.v (Value.int IntKind.i64 (k + sumI workerC (List.take n xs) + (1 : Int) + (1 : Int) + (1 : Int) + (1 : Int) + (1 : Int))), T.v (Value.int IntKind.i64 (k + sumI workerC (List.take n xs) + (1 : Int) + (1 : Int) + (1 : Int) + (1 : Int) + (1 : Int) + (1 : Int))), T.v (Value.int IntKind.i64 (k + sumI workerC (List.take n xs) + (1 : Int) + (1 : Int) + (1 : Int) + (1 : Int) + (1 : Int) + (1 : Int) + (1 : Int))), T.hole, T.v (Value.string (Worker.text y1)), T.v (Value.int IntKind.i64 (Worker.since y1))] ((0 : Nat) + (8 : Nat)) (T.slc [false] (List.map strT (mkL (fun k x => markT k) (fun x => (1 : Int)) (k + sumI workerC (List.take n xs) + (1 : Int) + (1 : Int) + (1 : Int) + (1 : Int) + (1 : Int) + (1 : Int) + (1 : Int) + (1 : Int)) (Worker.inputs y1))))) ((0 : Nat) + (9 : Nat)) [T.v (Value.string (markT (k + sumI workerC (List.take n xs) + (1 : Int) + (1 : Int) + (1 : Int) + (1 : Int) + (1 : Int) + (1 : Int) + (1 : Int) + (1 : Int) + (↑(List.length (Worker.inputs y1)) : Int))))])] ?_
  conv => whnf
  refine ⟨⟨I, I, I, ⟨rfl, (by simp only [List.length_map, List.length_append, List.length_set, List.length_replicate, List.length_cons, List.length_nil, List.length_take, List.length_drop, fill_len, fillI_len, List.length_range, bytesT_len]; omega)⟩, I, ⟨⟨I, I⟩, getset (by simp only [List.length_map, List.length_append, List.length_set, List.length_replicate, List.length_cons, List.length_nil, List.length_take, List.length_drop, fill_len, fillI_len, List.length_range, bytesT_len]; omega)⟩, I⟩, ?_⟩
  rw [List.set_set]
  refine rg [.i (k + sumI workerC (List.take n xs) + (1 : Int) + (1 : Int) + (1 : Int) + (1 : Int) + (1 : Int) + (1 : Int) + (1 : Int) + (1 : Int) + (↑(List.length (Worker.inputs y1)) : Int) + (1 : Int) + (1 : Int))] ?_
  conv => whnf
  refine ⟨⟨I, w64 (by omega) (by omega), I, I⟩, ?_⟩
  refine rg [.i ((↑n : Int) + (1 : Int))] ?_
  conv => whnf
  refine ⟨⟨I, w64 (by omega) (by omega), I, I⟩, ?_⟩
  rotate_left 1
  replace h1 := df h1
  simp only [List.length_map] at h1
  refine W.exit ?_
  refine g 5 93 [] ?_
  conv => whnf
  refine ⟨⟨I, I, I⟩, ?_⟩
  refine W.ret ?_
  refine EndsW.rt ?_
  conv => whnf
  refine ⟨⟨I, I, I⟩, ?_, ?_⟩
  rotate_left 1
  rotate_left 1
  · refine ⟨n + 1, [some 93], [], ⟨rfl, ⟨rfl, (congrArg (fun z => V.t (T.v (Value.int _ z))) (by rw [sum_take (by assumption)]; omega)), rfl, rfl, I⟩, ⟨⟨rfl, ⟨(congrArg (V.own _) (mkN_setm (f := workerMk) (c := workerC) (by assumption))), I⟩⟩, I⟩, I⟩, ?_, ?_⟩
    rotate_left 1
    (dsimp only; omega)
    dsimp only
    omega
  · rw [take_all (by omega)]
  · rw [mkN_all workerMk workerC k xs (n := n) (by omega)]
theorem cw_markParcelS (xs : List Parcel) (k : Int) (hl : xs.length ≤ 9223372036854775806) (h0 : 0 ≤ k) (hk : k + sumI parcelC xs ≤ 1099511627776) : F n_laws_markParcelS [.bor (.own parcelK (xs.map parcelT)), .val (.i k)] (.i (k + sumI parcelC xs)) [[.own parcelK ((mkL parcelMk parcelC k xs).map parcelT)], []] := by
  refine i_laws_markParcelS ?_
  conv => whnf
  refine g 0 0 [] ?_
  conv => whnf
  refine ⟨⟨I, I⟩, ?_⟩
  refine W.sq ?_
  refine g 0 0 [] ?_
  conv => whnf
  refine ⟨⟨I, I⟩, ?_⟩
  refine W.blk ?_
  refine W.lp (fun s (n : Nat) => ⟨[(0, s.s 0), (1, .i (k + sumI parcelC (xs.take n))), (4, s.s 4), (5, .i n)], [(36, [.own parcelK ((mkN parcelMk parcelC k xs n).map parcelT)])], []⟩) (fun (n : Nat) => n ≤ xs.length) (fun (n : Nat) => xs.length - n) (0) [some 36] [] ⟨rfl, ⟨rfl, (congrArg (fun z => V.t (T.v (Value.int _ z))) (by simp [sumI])), rfl, rfl, I⟩, ⟨⟨rfl, ⟨rfl, I⟩⟩, I⟩, I⟩ (by omega) ?_
  intro n hn
  have hx := mkN_len parcelMk parcelC k xs n
  have hq := sum_nn parcelC_nn (xs.take n)
  have hle := sum_le parcelC_nn xs (n + 1)
  have hle0 := sum_le parcelC_nn xs n
  conv => whnf
  refine W.sq ?_
  refine g 6 9 [] ?_
  conv => whnf
  refine ⟨⟨I, I, I, I, I⟩, ?_⟩
  refine W.cn ?_
  conv => whnf
  refine ⟨fun h1 => ?_, fun h1 => ?_⟩
  replace h1 := dt h1
  simp only [List.length_map] at h1
  refine W.skip ?_
  refine W.sq ?_
  refine W.blk ?_
  obtain ⟨y1, hy1⟩ := some_at (xs := xs) (n := n) (by omega)
  have hk1 := sum_take (f := parcelC) hy1
  have hk2 := parcelC_nn y1
  have hk3 := parcelC_eq y1
  refine g 9 17 [.n (n), .x (parcelT y1)] ?_
  conv => whnf
  refine ⟨⟨I, I, I, ⟨rfl, (by simp only [List.length_map, List.length_append, List.length_set, List.length_replicate, List.length_cons, List.length_nil, List.length_take, List.length_drop, fill_len, fillI_len, List.length_range, bytesT_len]; omega)⟩, I, ⟨⟨I, I⟩, mkN_getm (by assumption)⟩, I⟩, ?_⟩
  refine g 17 19 [.i (k + sumI parcelC (List.take n xs) + (1 : Int))] ?_
  conv => whnf
  refine ⟨⟨I, w64 (by omega) (by omega), I, I⟩, ?_⟩
  refine g 19 25 [.call (V.s (markT (k + sumI parcelC (List.take n xs) + (1 : Int)))) ([[]]), .n (n), .x (patch (parcelT y1) ((0 : Nat) + (0 : Nat)) [T.v (Value.int IntKind.i64 (k + sumI parcelC (List.take n xs)))])] ?_
  conv => whnf
  refine ⟨⟨I, I, I, ⟨⟨I, I⟩, I, ⟨⟨I, I⟩, I⟩, ⟨I, I⟩, Go.K.c_laws_markText _ (by omega)⟩, ⟨rfl, (by simp only [List.length_map, List.length_append, List.length_set, List.length_replicate, List.length_cons, List.length_nil, List.length_take, List.length_drop, fill_len, fillI_len, List.length_range, bytesT_len]; omega)⟩, I, ⟨⟨I, I⟩, getset (by simp only [List.length_map, List.length_append, List.length_set, List.length_replicate, List.length_cons, List.length_nil, List.length_take, List.length_drop, fill_len, fillI_len, List.length_range, bytesT_len]; omega)⟩, I⟩, ?_⟩
  rw [List.set_set]
  refine g 25 27 [.i (k + sumI parcelC (List.take n xs) + (1 : Int) + (1 : Int))] ?_
  conv => whnf
  refine ⟨⟨I, w64 (by omega) (by omega), I, I⟩, ?_⟩
  refine g 27 33 [.call (V.s (markT (k + sumI parcelC (List.take n xs) + (1 : Int) + (1 : Int)))) ([[]]), .n (n), .x (patch (patch (parcelT y1) ((0 : Nat) + (0 : Nat)) [T.v (Value.int IntKind.i64 (k + sumI parcelC (List.take n xs)))]) ((0 : Nat) + (1 : Nat)) [T.v (Value.string (markT (k + sumI parcelC (List.take n xs) + (1 : Int))))])] ?_
  conv => whnf
  refine ⟨⟨I, I, I, ⟨⟨I, I⟩, I, ⟨⟨I, I⟩, I⟩, ⟨I, I⟩, Go.K.c_laws_markText _ (by omega)⟩, ⟨rfl, (by simp only [List.length_map, List.length_append, List.length_set, List.length_replicate, List.length_cons, List.length_nil, List.length_take, List.length_drop, fill_len, fillI_len, List.length_range, bytesT_len]; omega)⟩, I, ⟨⟨I, I⟩, getset (by simp only [List.length_map, List.length_append, List.length_set, List.length_replicate, List.length_cons, List.length_nil, List.length_take, List.length_drop, fill_len, fillI_len, List.length_range, bytesT_len]; omega)⟩, I⟩, ?_⟩
  rw [List.set_set]
  refine rg [.i (k + sumI parcelC (List.take n xs) + (1 : Int) + (1 : Int) + (1 : Int))] ?_
  conv => whnf
  refine ⟨⟨I, w64 (by omega) (by omega), I, I⟩, ?_⟩
  refine rg [.i ((↑n : Int) + (1 : Int))] ?_
  conv => whnf
  refine ⟨⟨I, w64 (by omega) (by omega), I, I⟩, ?_⟩
  rotate_left 1
  replace h1 := df h1
  simp only [List.length_map] at h1
  refine W.exit ?_
  refine g 5 36 [] ?_
  conv => whnf
  refine ⟨⟨I, I, I⟩, ?_⟩
  refine W.ret ?_
  refine EndsW.rt ?_
  conv => whnf
  refine ⟨⟨I, I, I⟩, ?_, ?_⟩
  rotate_left 1
  rotate_left 1
  · refine ⟨n + 1, [some 36], [], ⟨rfl, ⟨rfl, (congrArg (fun z => V.t (T.v (Value.int _ z))) (by rw [sum_take (by assumption)]; omega)), rfl, rfl, I⟩, ⟨⟨rfl, ⟨(congrArg (V.own _) (mkN_setm (f := parcelMk) (c := parcelC) (by assumption))), I⟩⟩, I⟩, I⟩, ?_, ?_⟩
    rotate_left 1
    (dsimp only; omega)
    dsimp only
    omega
  · rw [take_all (by omega)]
  · rw [mkN_all parcelMk parcelC k xs (n := n) (by omega)]
theorem c_laws_heldWorkerS (xs : List Worker) (k : Int) (hl : xs.length ≤ 9223372036854775806) (h0 : 0 ≤ k) (hk : k + sumI workerC xs ≤ 1099511627776) : F n_laws_heldWorkerS [.val (.t (.slc workerK ((mkL workerMk workerC k xs).map workerT))), .val (.i k)] (.i (k + sumI workerC xs)) [[], []] := by
  have hx := mkL_len workerMk workerC k xs
  refine i_laws_heldWorkerS ?_
  conv => whnf
  refine g 0 0 [] ?_
  conv => whnf
  refine ⟨⟨I, I⟩, ?_⟩
  refine W.sq ?_
  refine g 0 0 [] ?_
  conv => whnf
  refine ⟨⟨I, I⟩, ?_⟩
  refine W.blk ?_
  refine W.lp (fun s (n : Nat) => ⟨[(0, s.s 0), (1, .i (k + sumI workerC (xs.take n))), (5, .i n)], [], []⟩) (fun (n : Nat) => n ≤ xs.length) (fun (n : Nat) => xs.length - n) (0) [] [] ⟨rfl, ⟨rfl, (congrArg (fun z => V.t (T.v (Value.int _ z))) (by simp [sumI])), rfl, I⟩, I, I⟩ (by omega) ?_
  intro n hn
  have hq := sum_nn workerC_nn (xs.take n)
  have hle := sum_le workerC_nn xs (n + 1)
  have hle0 := sum_le workerC_nn xs n
  conv => whnf
  refine W.sq ?_
  refine g 6 9 [] ?_
  conv => whnf
  refine ⟨⟨I, I, I, I, I⟩, ?_⟩
  refine W.cn ?_
  conv => whnf
  refine ⟨fun h1 => ?_, fun h1 => ?_⟩
  replace h1 := dt h1
  simp only [List.length_map] at h1
  refine W.skip ?_
  refine W.sq ?_
  refine W.blk ?_
  refine W.sq ?_
  obtain ⟨y1, hy1⟩ := some_at (xs := xs) (n := n) (by omega)
  have hk1 := sum_take (f := workerC) hy1
  have hk2 := workerC_nn y1
  have hk3 := workerC_eq y1
  have hk4 := mkL_get (f := workerMk) (c := workerC) (k := k) hy1
  refine g 9 18 [.x (workerT (workerMk (k + sumI workerC (List.take n xs)) y1))] ?_
  conv => whnf
  refine ⟨⟨I, I, ⟨(by omega), ixl (by assumption)⟩, I, I, I, I, I⟩, ?_⟩
  refine W.cn ?_
  conv => whnf
  refine ⟨noT (notF rfl), fun _ => ?_⟩
  refine W.skip ?_
  refine g 18 21 [.i (k + sumI workerC (List.take n xs) + (1 : Int))] ?_
  conv => whnf
  refine ⟨⟨I, w64 (by omega) (by omega), I, I⟩, ?_⟩
  refine W.sq ?_
  refine g 21 27 [.x (workerT (workerMk (k + sumI workerC (List.take n xs)) y1))] ?_
  conv => whnf
  refine ⟨⟨I, I, ⟨(by omega), ixl (by assumption)⟩, I, I, I, I, I⟩, ?_⟩
  refine W.cn ?_
  conv => whnf
  refine ⟨noT (notF rfl), fun _ => ?_⟩
  refine W.skip ?_
  refine g 27 30 [.i (k + sumI workerC (List.take n xs) + (1 : Int) + (1 : Int))] ?_
  conv => whnf
  refine ⟨⟨I, w64 (by omega) (by omega), I, I⟩, ?_⟩
  refine W.sq ?_
  refine g 30 38 [.x (workerT (workerMk (k + sumI workerC (List.take n xs)) y1)), .i (Int.tmod (k + sumI workerC (List.take n xs) + (1 : Int) + (1 : Int)) (3 : Int))] ?_
  conv => whnf
  refine ⟨⟨I, I, ⟨(by omega), ixl (by assumption)⟩, I, I, I, ⟨(by omega), rfl⟩, I, I, I⟩, ?_⟩
  refine W.cn ?_
  conv => whnf
  refine ⟨noT (notF rfl), fun _ => ?_⟩
  refine W.skip ?_
  refine g 38 41 [.i (k + sumI workerC (List.take n xs) + (1 : Int) + (1 : Int) + (1 : Int))] ?_
  conv => whnf
  refine ⟨⟨I, w64 (by omega) (by omega), I, I⟩, ?_⟩
  refine W.sq ?_
  refine g 41 47 [.x (workerT (workerMk (k + sumI workerC (List.take n xs)) y1))] ?_
  conv => whnf
  refine ⟨⟨I, I, ⟨(by omega), ixl (by assumption)⟩, I, I, I, I, I⟩, ?_⟩
  refine W.cn ?_
  conv => whnf
  refine ⟨noT (notF rfl), fun _ => ?_⟩
  refine W.skip ?_
  refine g 47 50 [.i (k + sumI workerC (List.take n xs) + (1 : Int) + (1 : Int) + (1 : Int) + (1 : Int))] ?_
  conv => whnf
  refine ⟨⟨I, w64 (by omega) (by omega), I, I⟩, ?_⟩
  refine W.sq ?_
  refine g 50 56 [.x (workerT (workerMk (k + sumI workerC (List.take n xs)) y1))] ?_
  conv => whnf
  refine ⟨⟨I, I, ⟨(by omega), ixl (by assumption)⟩, I, I, I, I, I⟩, ?_⟩
  refine W.cn ?_
  conv => whnf
  refine ⟨noT (notF rfl), fun _ => ?_⟩
  refine W.skip ?_
  refine g 56 59 [.i (k + sumI workerC (List.take n xs) + (1 : Int) + (1 : Int) + (1 : Int) + (1 : Int) + (1 : Int))] ?_
  conv => whnf
  refine ⟨⟨I, w64 (by omega) (by omega), I, I⟩, ?_⟩
  refine W.sq ?_
  refine g 59 65 [.x (workerT (workerMk (k + sumI workerC (List.take n xs)) y1))] ?_
  conv => whnf
  refine ⟨⟨I, I, ⟨(by omega), ixl (by assumption)⟩, I, I, I, I, I⟩, ?_⟩
  refine W.cn ?_
  conv => whnf
  refine ⟨noT (notF rfl), fun _ => ?_⟩
  refine W.skip ?_
  refine g 65 68 [.i (k + sumI workerC (List.take n xs) + (1 : Int) + (1 : Int) + (1 : Int) + (1 : Int) + (1 : Int) + (1 : Int))] ?_
  conv => whnf
  refine ⟨⟨I, w64 (by omega) (by omega), I, I⟩, ?_⟩
  refine W.sq ?_
  refine g 68 74 [.x (workerT (workerMk (k + sumI workerC (List.take n xs)) y1))] ?_
  conv => whnf
  refine ⟨⟨I, I, ⟨(by omega), ixl (by assumption)⟩, I, I, I, I, I⟩, ?_⟩
  refine W.cn ?_
  conv => whnf
  refine ⟨noT (notF rfl), fun _ => ?_⟩
  refine W.skip ?_
  refine g 74 77 [.i (k + sumI workerC (List.take n xs) + (1 : Int) + (1 : Int) + (1 : Int) + (1 : Int) + (1 : Int) + (1 : Int) + (1 : Int))] ?_
  conv => whnf
  refine ⟨⟨I, w64 (by omega) (by omega), I, I⟩, ?_⟩
  refine W.sq ?_
  refine g 77 83 [.x (workerT (workerMk (k + sumI workerC (List.take n xs)) y1))] ?_
  conv => whnf
  refine ⟨⟨I, I, ⟨(by omega), ixl (by assumption)⟩, I, I, I, I, I⟩, ?_⟩
  refine W.cn ?_
  conv => whnf
  refine ⟨noT (notF rfl), fun _ => ?_⟩
  refine W.skip ?_
  refine g 83 86 [.i (k + sumI workerC (List.take n xs) + (1 : Int) + (1 : Int) + (1 : Int) + (1 : Int) + (1 : Int) + (1 : Int) + (1 : Int) + (1 : Int))] ?_
  conv => whnf
  refine ⟨⟨I, w64 (by omega) (by omega), I, I⟩, ?_⟩
  refine g 86 93 [.x (workerT (workerMk (k + sumI workerC (List.take n xs)) y1)), .call (V.i (k + sumI workerC (List.take n xs) + (1 : Int) + (1 : Int) + (1 : Int) + (1 : Int) + (1 : Int) + (1 : Int) + (1 : Int) + (1 : Int) + (↑(List.length (Worker.inputs y1)) : Int))) ([[], []])] ?_
  conv => whnf
  refine ⟨⟨I, I, ⟨(by omega), ixl (by assumption)⟩, I, I, I, ⟨⟨I, I, I⟩, I, ⟨⟨I, I⟩, ⟨I, I⟩, I⟩, ⟨I, I⟩, Go.K.c_laws_heldStringS _ _ (by omega) (by omega) (by omega)⟩, I, I⟩, ?_⟩
  refine W.sq ?_
  refine g 93 94 [] ?_
  conv => whnf
  refine ⟨⟨I, I, I⟩, ?_⟩
  refine W.cn ?_
  conv => whnf
  refine ⟨noT (decide_eq_false (by omega)), fun _ => ?_⟩
  refine W.skip ?_
  refine W.sq ?_
  refine gd 94 102 [[], [], [.x (workerT (workerMk (k + sumI workerC (List.take n xs)) y1))], [], [], [], [.call (V.s (markT (k + sumI workerC (List.take n xs) + (1 : Int) + (1 : Int) + (1 : Int) + (1 : Int) + (1 : Int) + (1 : Int) + (1 : Int) + (1 : Int) + (↑(List.length (Worker.inputs y1)) : Int)))) ([[]])], []] ?_
  conv => whnf
  refine ⟨⟨I, I, ⟨(by omega), ixl (by assumption)⟩, I, I, I, ⟨⟨I, I⟩, I, ⟨⟨I, I⟩, I⟩, ⟨I, I⟩, Go.K.c_laws_markText _ (by omega)⟩, I, I⟩, by kernel_rfl, ?_⟩
  refine W.cn ?_
  conv => whnf
  refine ⟨noT (notF rfl), fun _ => ?_⟩
  refine W.skip ?_
  refine g 102 105 [.i (k + sumI workerC (List.take n xs) + (1 : Int) + (1 : Int) + (1 : Int) + (1 : Int) + (1 : Int) + (1 : Int) + (1 : Int) + (1 : Int) + (↑(List.length (Worker.inputs y1)) : Int) + (1 : Int))] ?_
  conv => whnf
  refine ⟨⟨I, w64 (by omega) (by omega), I, I⟩, ?_⟩
  refine W.sq ?_
  refine g 105 111 [.x (workerT (workerMk (k + sumI workerC (List.take n xs)) y1))] ?_
  conv => whnf
  refine ⟨⟨I, I, ⟨(by omega), ixl (by assumption)⟩, I, I, I, I, I⟩, ?_⟩
  refine W.cn ?_
  conv => whnf
  refine ⟨noT (notF rfl), fun _ => ?_⟩
  refine W.skip ?_
  refine rg [.i (k + sumI workerC (List.take n xs) + (1 : Int) + (1 : Int) + (1 : Int) + (1 : Int) + (1 : Int) + (1 : Int) + (1 : Int) + (1 : Int) + (↑(List.length (Worker.inputs y1)) : Int) + (1 : Int) + (1 : Int))] ?_
  conv => whnf
  refine ⟨⟨I, w64 (by omega) (by omega), I, I⟩, ?_⟩
  refine rg [.i ((↑n : Int) + (1 : Int))] ?_
  conv => whnf
  refine ⟨⟨I, w64 (by omega) (by omega), I, I⟩, ?_⟩
  rotate_left 1
  replace h1 := df h1
  simp only [List.length_map] at h1
  refine W.exit ?_
  refine g 5 115 [] ?_
  conv => whnf
  refine ⟨⟨I, I, I⟩, ?_⟩
  refine W.ret ?_
  refine EndsW.rt ?_
  conv => whnf
  refine ⟨⟨I, I, I⟩, ?_, rfl⟩
  rotate_left 1
  · refine ⟨n + 1, [], [], ⟨rfl, ⟨rfl, (congrArg (fun z => V.t (T.v (Value.int _ z))) (by rw [sum_take (by assumption)]; omega)), rfl, I⟩, I, I⟩, ?_, ?_⟩
    rotate_left 1
    (dsimp only; omega)
    dsimp only
    omega
  · rw [take_all (by omega)]
theorem cw_heldParcelS (xs : List Parcel) (k : Int) (hl : xs.length ≤ 9223372036854775806) (h0 : 0 ≤ k) (hk : k + sumI parcelC xs ≤ 1099511627776) : F n_laws_heldParcelS [.val (.t (.slc parcelK ((mkL parcelMk parcelC k xs).map parcelT))), .val (.i k)] (.i (k + sumI parcelC xs)) [[], []] := by
  have hx := mkL_len parcelMk parcelC k xs
  refine i_laws_heldParcelS ?_
  conv => whnf
  refine g 0 0 [] ?_
  conv => whnf
  refine ⟨⟨I, I⟩, ?_⟩
  refine W.sq ?_
  refine g 0 0 [] ?_
  conv => whnf
  refine ⟨⟨I, I⟩, ?_⟩
  refine W.blk ?_
  refine W.lp (fun s (n : Nat) => ⟨[(0, s.s 0), (1, .i (k + sumI parcelC (xs.take n))), (5, .i n)], [], []⟩) (fun (n : Nat) => n ≤ xs.length) (fun (n : Nat) => xs.length - n) (0) [] [] ⟨rfl, ⟨rfl, (congrArg (fun z => V.t (T.v (Value.int _ z))) (by simp [sumI])), rfl, I⟩, I, I⟩ (by omega) ?_
  intro n hn
  have hq := sum_nn parcelC_nn (xs.take n)
  have hle := sum_le parcelC_nn xs (n + 1)
  have hle0 := sum_le parcelC_nn xs n
  conv => whnf
  refine W.sq ?_
  refine g 6 9 [] ?_
  conv => whnf
  refine ⟨⟨I, I, I, I, I⟩, ?_⟩
  refine W.cn ?_
  conv => whnf
  refine ⟨fun h1 => ?_, fun h1 => ?_⟩
  replace h1 := dt h1
  simp only [List.length_map] at h1
  refine W.skip ?_
  refine W.sq ?_
  refine W.blk ?_
  refine W.sq ?_
  obtain ⟨y1, hy1⟩ := some_at (xs := xs) (n := n) (by omega)
  have hk1 := sum_take (f := parcelC) hy1
  have hk2 := parcelC_nn y1
  have hk3 := parcelC_eq y1
  have hk4 := mkL_get (f := parcelMk) (c := parcelC) (k := k) hy1
  refine g 9 18 [.x (parcelT (parcelMk (k + sumI parcelC (List.take n xs)) y1))] ?_
  conv => whnf
  refine ⟨⟨I, I, ⟨(by omega), ixl (by assumption)⟩, I, I, I, I, I⟩, ?_⟩
  refine W.cn ?_
  conv => whnf
  refine ⟨noT (notF rfl), fun _ => ?_⟩
  refine W.skip ?_
  refine g 18 21 [.i (k + sumI parcelC (List.take n xs) + (1 : Int))] ?_
  conv => whnf
  refine ⟨⟨I, w64 (by omega) (by omega), I, I⟩, ?_⟩
  refine W.sq ?_
  refine gd 21 28 [[], [], [.x (parcelT (parcelMk (k + sumI parcelC (List.take n xs)) y1))], [], [], [], [.call (V.s (markT (k + sumI parcelC (List.take n xs) + (1 : Int)))) ([[]])], []] ?_
  conv => whnf
  refine ⟨⟨I, I, ⟨(by omega), ixl (by assumption)⟩, I, I, I, ⟨⟨I, I⟩, I, ⟨⟨I, I⟩, I⟩, ⟨I, I⟩, Go.K.c_laws_markText _ (by omega)⟩, I, I⟩, by kernel_rfl, ?_⟩
  refine W.cn ?_
  conv => whnf
  refine ⟨noT (notF rfl), fun _ => ?_⟩
  refine W.skip ?_
  refine g 28 31 [.i (k + sumI parcelC (List.take n xs) + (1 : Int) + (1 : Int))] ?_
  conv => whnf
  refine ⟨⟨I, w64 (by omega) (by omega), I, I⟩, ?_⟩
  refine W.sq ?_
  refine gd 31 38 [[], [], [.x (parcelT (parcelMk (k + sumI parcelC (List.take n xs)) y1))], [], [], [], [.call (V.s (markT (k + sumI parcelC (List.take n xs) + (1 : Int) + (1 : Int)))) ([[]])], []] ?_
  conv => whnf
  refine ⟨⟨I, I, ⟨(by omega), ixl (by assumption)⟩, I, I, I, ⟨⟨I, I⟩, I, ⟨⟨I, I⟩, I⟩, ⟨I, I⟩, Go.K.c_laws_markText _ (by omega)⟩, I, I⟩, by kernel_rfl, ?_⟩
  refine W.cn ?_
  conv => whnf
  refine ⟨noT (notF rfl), fun _ => ?_⟩
  refine W.skip ?_
  refine rg [.i (k + sumI parcelC (List.take n xs) + (1 : Int) + (1 : Int) + (1 : Int))] ?_
  conv => whnf
  refine ⟨⟨I, w64 (by omega) (by omega), I, I⟩, ?_⟩
  refine rg [.i ((↑n : Int) + (1 : Int))] ?_
  conv => whnf
  refine ⟨⟨I, w64 (by omega) (by omega), I, I⟩, ?_⟩
  rotate_left 1
  replace h1 := df h1
  simp only [List.length_map] at h1
  refine W.exit ?_
  refine g 5 42 [] ?_
  conv => whnf
  refine ⟨⟨I, I, I⟩, ?_⟩
  refine W.ret ?_
  refine EndsW.rt ?_
  conv => whnf
  refine ⟨⟨I, I, I⟩, ?_, rfl⟩
  rotate_left 1
  · refine ⟨n + 1, [], [], ⟨rfl, ⟨rfl, (congrArg (fun z => V.t (T.v (Value.int _ z))) (by rw [sum_take (by assumption)]; omega)), rfl, I⟩, I, I⟩, ?_, ?_⟩
    rotate_left 1
    (dsimp only; omega)
    dsimp only
    omega
  · rw [take_all (by omega)]
end Go.K

end

section
set_option linter.unusedVariables false
set_option linter.unusedSimpArgs false
set_option maxHeartbeats 4000000
set_option maxRecDepth 20000
open Go Go.Tm Go.Proofs
namespace Go.K
structure World where
  plan : Plan
  key : ByteArray
  boss : Boss
  workers : List Worker
  flight : List Parcel
  forged : ByteArray
  deriving DecidableEq
abbrev worldR (x : World) : V := .agg [.t (.slc taskK (x.plan.tasks.map taskT)), .t (.s x.key), .t (.i x.boss.workers), .t (.b x.boss.up), .t (.i x.boss.now), .t (.i x.boss.since), .t (.i x.boss.epoch), .t (.i x.boss.given), .t (.slc [false] (x.boss.log.safe.map strT)), .t (.slc [false] (x.boss.log.loose.map strT)), .t (.slc [false] (x.boss.results.map strT)), .t (.slc jobK (x.boss.jobs.map jobT)), .t (.slc seatK (x.boss.seats.map seatT)), .t (.slc owedK (x.boss.owed.map owedT)), .t (.slc workerK (x.workers.map workerT)), .t (.slc parcelK (x.flight.map parcelT)), .t (.s x.forged)]
abbrev worldO (x : World) : V := .agg [.own taskK (x.plan.tasks.map taskT), .t (.s x.key), .t (.i x.boss.workers), .t (.b x.boss.up), .t (.i x.boss.now), .t (.i x.boss.since), .t (.i x.boss.epoch), .t (.i x.boss.given), .own [false] (x.boss.log.safe.map strT), .own [false] (x.boss.log.loose.map strT), .own [false] (x.boss.results.map strT), .own jobK (x.boss.jobs.map jobT), .own seatK (x.boss.seats.map seatT), .own owedK (x.boss.owed.map owedT), .own workerK (x.workers.map workerT), .own parcelK (x.flight.map parcelT), .t (.s x.forged)]
abbrev noWorld : World := ⟨⟨[]⟩, emp, ⟨0, false, 0, 0, 0, 0, ⟨[], []⟩, [], [], [], []⟩, [], [], emp⟩
def worldLen (a : World) : Prop := a.plan.tasks.length ≤ 9223372036854775806 ∧ (∀ y ∈ a.plan.tasks, taskLen y) ∧ a.boss.log.safe.length ≤ 9223372036854775806 ∧ a.boss.log.loose.length ≤ 9223372036854775806 ∧ a.boss.results.length ≤ 9223372036854775806 ∧ a.boss.jobs.length ≤ 9223372036854775806 ∧ a.boss.seats.length ≤ 9223372036854775806 ∧ a.boss.owed.length ≤ 9223372036854775806 ∧ a.workers.length ≤ 9223372036854775806 ∧ (∀ y ∈ a.workers, workerLen y) ∧ a.flight.length ≤ 9223372036854775806
theorem c_laws_eqWorld (a b : World) (hl : worldLen a) : F n_laws_eqWorld [.val (worldR a), .val (worldR b)] (.b (decide (a = b))) [[], []] := by
  obtain ⟨a_plan, a_key, a_boss, a_workers, a_flight, a_forged⟩ := a
  obtain ⟨b_plan, b_key, b_boss, b_workers, b_flight, b_forged⟩ := b
  simp only [worldLen] at hl
  obtain ⟨hl0, hl1, hl2, hl3, hl4, hl5, hl6, hl7, hl8, hl9, hl10⟩ := hl
  have hx0 : planLen a_plan := ⟨hl0, hl1⟩
  have hx2 : bossLen a_boss := ⟨hl2, hl3, hl4, hl5, hl6, hl7⟩
  refine i_laws_eqWorld ?_
  conv => whnf
  refine g 0 2 [] ?_
  conv => whnf
  refine ⟨⟨⟨I, I, I, I, I, I, I, I, I, I, I, I, I, I, I, I, I, I⟩, ⟨I, I, I, I, I, I, I, I, I, I, I, I, I, I, I, I, I, I⟩, I, I⟩, ?_⟩
  refine W.sq ?_
  refine g 5 10 [.call (V.b (decide (a_plan = b_plan))) ([[], []])] ?_
  conv => whnf
  refine ⟨⟨I, I, I, I, ⟨⟨I, I, I⟩, I, ⟨⟨I, I⟩, ⟨I, I⟩, I⟩, ⟨I, I⟩, Go.K.c_laws_eqPlan _ _ (by omega)⟩, I, I⟩, ?_⟩
  refine W.cn ?_
  conv => whnf
  refine ⟨fun h1 => ?_, fun h1 => ?_⟩
  replace h1 := ndt h1
  refine g 10 11 [] ?_
  conv => whnf
  refine ⟨⟨I, I⟩, ?_⟩
  refine W.ret ?_
  refine EndsW.rt ?_
  conv => whnf
  refine ⟨⟨I, I, I⟩, ?_, rfl⟩
  rotate_left 1
  replace h1 := ndf h1
  refine W.skip ?_
  refine W.sq ?_
  refine g 10 15 [] ?_
  conv => whnf
  refine ⟨⟨I, I, I, I, I, I⟩, ?_⟩
  refine W.cn ?_
  conv => whnf
  refine ⟨fun h2 => ?_, fun h2 => ?_⟩
  replace h2 := ndt h2
  refine g 15 16 [] ?_
  conv => whnf
  refine ⟨⟨I, I⟩, ?_⟩
  refine W.ret ?_
  refine EndsW.rt ?_
  conv => whnf
  refine ⟨⟨I, I, I⟩, ?_, rfl⟩
  rotate_left 1
  replace h2 := ndf h2
  refine W.skip ?_
  refine W.sq ?_
  refine g 15 21 [.call (V.b (decide (a_boss = b_boss))) ([[], []])] ?_
  conv => whnf
  refine ⟨⟨I, I, I, I, ⟨⟨I, I, I⟩, I, ⟨⟨I, I, I, I, I, I, I, I, I, I, I, I, I⟩, ⟨I, I, I, I, I, I, I, I, I, I, I, I, I⟩, I⟩, ⟨I, I⟩, Go.K.c_laws_eqBoss _ _ (by omega)⟩, I, I⟩, ?_⟩
  refine W.cn ?_
  conv => whnf
  refine ⟨fun h3 => ?_, fun h3 => ?_⟩
  replace h3 := ndt h3
  refine g 21 22 [] ?_
  conv => whnf
  refine ⟨⟨I, I⟩, ?_⟩
  refine W.ret ?_
  refine EndsW.rt ?_
  conv => whnf
  refine ⟨⟨I, I, I⟩, ?_, rfl⟩
  rotate_left 1
  replace h3 := ndf h3
  refine W.skip ?_
  refine W.sq ?_
  refine g 21 27 [.call (V.b (decide (a_workers = b_workers))) ([[], []])] ?_
  conv => whnf
  refine ⟨⟨I, I, I, I, ⟨⟨I, I, I⟩, I, ⟨⟨I, I⟩, ⟨I, I⟩, I⟩, ⟨I, I⟩, Go.K.c_laws_eqWorkerS _ _ (by omega) (by omega)⟩, I, I⟩, ?_⟩
  refine W.cn ?_
  conv => whnf
  refine ⟨fun h4 => ?_, fun h4 => ?_⟩
  replace h4 := ndt h4
  refine g 27 28 [] ?_
  conv => whnf
  refine ⟨⟨I, I⟩, ?_⟩
  refine W.ret ?_
  refine EndsW.rt ?_
  conv => whnf
  refine ⟨⟨I, I, I⟩, ?_, rfl⟩
  rotate_left 1
  replace h4 := ndf h4
  refine W.skip ?_
  refine W.sq ?_
  refine g 27 33 [.call (V.b (decide (a_flight = b_flight))) ([[], []])] ?_
  conv => whnf
  refine ⟨⟨I, I, I, I, ⟨⟨I, I, I⟩, I, ⟨⟨I, I⟩, ⟨I, I⟩, I⟩, ⟨I, I⟩, Go.K.c_laws_eqParcelS _ _ (by omega)⟩, I, I⟩, ?_⟩
  refine W.cn ?_
  conv => whnf
  refine ⟨fun h5 => ?_, fun h5 => ?_⟩
  replace h5 := ndt h5
  refine g 33 34 [] ?_
  conv => whnf
  refine ⟨⟨I, I⟩, ?_⟩
  refine W.ret ?_
  refine EndsW.rt ?_
  conv => whnf
  refine ⟨⟨I, I, I⟩, ?_, rfl⟩
  rotate_left 1
  replace h5 := ndf h5
  refine W.skip ?_
  refine W.sq ?_
  refine g 33 38 [] ?_
  conv => whnf
  refine ⟨⟨I, I, I, I, I, I⟩, ?_⟩
  refine W.cn ?_
  conv => whnf
  refine ⟨fun h6 => ?_, fun h6 => ?_⟩
  replace h6 := ndt h6
  refine g 2 4 [] ?_
  conv => whnf
  refine ⟨⟨I, I⟩, ?_⟩
  refine W.ret ?_
  refine EndsW.rt ?_
  conv => whnf
  refine ⟨⟨I, I, I⟩, ?_, rfl⟩
  rotate_left 1
  replace h6 := ndf h6
  refine W.skip ?_
  refine g 2 4 [] ?_
  conv => whnf
  refine ⟨⟨I, I⟩, ?_⟩
  refine W.ret ?_
  refine EndsW.rt ?_
  conv => whnf
  refine ⟨⟨I, I, I⟩, ?_, rfl⟩
  rotate_left 1
  all_goals (first | exact vbt (by simp_all; done) | exact vbf (by simp_all; done))
def worldTop (k : Int) (x : World) : World := ⟨planTop (k) x.plan, x.key, bossTop (k + planTopC x.plan) x.boss, mkL workerMk workerC (k + planTopC x.plan + bossTopC x.boss) x.workers, mkL parcelMk parcelC (k + planTopC x.plan + bossTopC x.boss + sumI workerC x.workers) x.flight, x.forged⟩
def worldTopC (x : World) : Int := planTopC x.plan + bossTopC x.boss + sumI workerC x.workers + sumI parcelC x.flight
theorem c_laws_markWorld (x : World) (k : Int) (hl : x.plan.tasks.length ≤ 9223372036854775806 ∧ x.boss.log.safe.length ≤ 9223372036854775806 ∧ x.boss.log.loose.length ≤ 9223372036854775806 ∧ x.boss.results.length ≤ 9223372036854775806 ∧ x.boss.jobs.length ≤ 9223372036854775806 ∧ x.boss.seats.length ≤ 9223372036854775806 ∧ x.boss.owed.length ≤ 9223372036854775806 ∧ x.workers.length ≤ 9223372036854775806 ∧ x.flight.length ≤ 9223372036854775806) (h0 : 0 ≤ k) (hk : k + worldTopC x ≤ 1099511627776) : F n_laws_markWorld [.bor (worldO x), .val (.i k)] (.i (k + worldTopC x)) [cellsOf (worldO (worldTop k x)), []] := by
  obtain ⟨hl0, hl1, hl2, hl3, hl4, hl5, hl6, hl7, hl8⟩ := hl
  have hn0 := planTopC_nn x.plan
  have hn1 := bossTopC_nn x.boss
  have hn2 := sum_nn workerC_nn x.workers
  have hn3 := sum_nn parcelC_nn x.flight
  have hz : worldTopC x = planTopC x.plan + bossTopC x.boss + sumI workerC x.workers + sumI parcelC x.flight := rfl
  refine i_laws_markWorld ?_
  conv => whnf
  refine g 0 1 [] ?_
  conv => whnf
  refine ⟨⟨⟨I, I, I, I, I, I, I, I, I⟩, I, I⟩, ?_⟩
  refine g 5 9 [.call (V.i (k + planTopC (World.plan x))) ([cellsOf (planO (planTop k (World.plan x))), []])] ?_
  conv => whnf
  refine ⟨⟨I, I, I, ⟨⟨⟨I, I⟩, I, I⟩, I, ⟨I, ⟨I, I⟩, I⟩, ⟨I, I⟩, Go.K.c_laws_markPlan _ _ (by omega) (by omega) (by omega)⟩, I, I⟩, ?_⟩
  refine g 9 13 [.call (V.i (k + planTopC (World.plan x) + bossTopC (World.boss x))) ([cellsOf (bossO (bossTop (k + planTopC (World.plan x)) (World.boss x))), []])] ?_
  conv => whnf
  refine ⟨⟨I, I, I, ⟨⟨⟨I, I, I, I, I, I, I, I, I, I, I, I, I⟩, I, I⟩, I, ⟨I, ⟨I, I⟩, I⟩, ⟨I, I⟩, Go.K.c_laws_markBoss _ _ (by omega) (by omega) (by omega)⟩, I, I⟩, ?_⟩
  refine g 13 17 [.call (V.i (k + planTopC (World.plan x) + bossTopC (World.boss x) + sumI workerC (World.workers x))) ([[V.own workerK (List.map workerT (mkL workerMk workerC (k + planTopC (World.plan x) + bossTopC (World.boss x)) (World.workers x)))], []])] ?_
  conv => whnf
  refine ⟨⟨I, I, I, ⟨⟨⟨I, I⟩, I, I⟩, I, ⟨I, ⟨I, I⟩, I⟩, ⟨I, I⟩, Go.K.c_laws_markWorkerS _ _ (by omega) (by omega) (by omega)⟩, I, I⟩, ?_⟩
  refine g 17 21 [.call (V.i (k + planTopC (World.plan x) + bossTopC (World.boss x) + sumI workerC (World.workers x) + sumI parcelC (World.flight x))) ([[V.own parcelK (List.map parcelT (mkL parcelMk parcelC (k + planTopC (World.plan x) + bossTopC (World.boss x) + sumI workerC (World.workers x)) (World.flight x)))], []])] ?_
  conv => whnf
  refine ⟨⟨I, I, I, ⟨⟨⟨I, I⟩, I, I⟩, I, ⟨I, ⟨I, I⟩, I⟩, ⟨I, I⟩, Go.K.cw_markParcelS _ _ (by omega) (by omega) (by omega)⟩, I, I⟩, ?_⟩
  refine g 1 3 [] ?_
  conv => whnf
  refine ⟨⟨I, I, I⟩, ?_⟩
  refine W.ret ?_
  refine EndsW.rt ?_
  conv => whnf
  refine ⟨⟨I, I, I⟩, ?_, rfl⟩
  exact vi (by omega)
theorem c_laws_heldWorld (x : World) (k : Int) (hl : x.plan.tasks.length ≤ 9223372036854775806 ∧ x.boss.log.safe.length ≤ 9223372036854775806 ∧ x.boss.log.loose.length ≤ 9223372036854775806 ∧ x.boss.results.length ≤ 9223372036854775806 ∧ x.boss.jobs.length ≤ 9223372036854775806 ∧ x.boss.seats.length ≤ 9223372036854775806 ∧ x.boss.owed.length ≤ 9223372036854775806 ∧ x.workers.length ≤ 9223372036854775806 ∧ x.flight.length ≤ 9223372036854775806) (h0 : 0 ≤ k) (hk : k + worldTopC x ≤ 1099511627776) : F n_laws_heldWorld [.val (worldR (worldTop k x)), .val (.i k)] (.i (k + worldTopC x)) [[], []] := by
  obtain ⟨hl0, hl1, hl2, hl3, hl4, hl5, hl6, hl7, hl8⟩ := hl
  have hn0 := planTopC_nn x.plan
  have hn1 := bossTopC_nn x.boss
  have hn2 := sum_nn workerC_nn x.workers
  have hn3 := sum_nn parcelC_nn x.flight
  have hz : worldTopC x = planTopC x.plan + bossTopC x.boss + sumI workerC x.workers + sumI parcelC x.flight := rfl
  refine i_laws_heldWorld ?_
  conv => whnf
  refine g 0 1 [] ?_
  conv => whnf
  refine ⟨⟨⟨I, I, I, I, I, I, I, I, I, I, I, I, I, I, I, I, I, I⟩, I, I⟩, ?_⟩
  refine g 5 9 [.call (V.i (k + planTopC (World.plan x))) ([[], []])] ?_
  conv => whnf
  refine ⟨⟨I, I, I, ⟨⟨I, I, I⟩, I, ⟨⟨I, I⟩, ⟨I, I⟩, I⟩, ⟨I, I⟩, Go.K.c_laws_heldPlan _ _ (by omega) (by omega) (by omega)⟩, I, I⟩, ?_⟩
  refine W.sq ?_
  refine g 9 10 [] ?_
  conv => whnf
  refine ⟨⟨I, I, I⟩, ?_⟩
  refine W.cn ?_
  conv => whnf
  refine ⟨noT (decide_eq_false (by omega)), fun _ => ?_⟩
  refine W.skip ?_
  refine g 10 15 [.call (V.i (k + planTopC (World.plan x) + bossTopC (World.boss x))) ([[], []])] ?_
  conv => whnf
  refine ⟨⟨I, I, I, ⟨⟨I, I, I⟩, I, ⟨⟨I, I, I, I, I, I, I, I, I, I, I, I, I⟩, ⟨I, I⟩, I⟩, ⟨I, I⟩, Go.K.c_laws_heldBoss _ _ (by omega) (by omega) (by omega)⟩, I, I⟩, ?_⟩
  refine W.sq ?_
  refine g 15 16 [] ?_
  conv => whnf
  refine ⟨⟨I, I, I⟩, ?_⟩
  refine W.cn ?_
  conv => whnf
  refine ⟨noT (decide_eq_false (by omega)), fun _ => ?_⟩
  refine W.skip ?_
  refine g 16 21 [.call (V.i (k + planTopC (World.plan x) + bossTopC (World.boss x) + sumI workerC (World.workers x))) ([[], []])] ?_
  conv => whnf
  refine ⟨⟨I, I, I, ⟨⟨I, I, I⟩, I, ⟨⟨I, I⟩, ⟨I, I⟩, I⟩, ⟨I, I⟩, Go.K.c_laws_heldWorkerS _ _ (by omega) (by omega) (by omega)⟩, I, I⟩, ?_⟩
  refine W.sq ?_
  refine g 21 22 [] ?_
  conv => whnf
  refine ⟨⟨I, I, I⟩, ?_⟩
  refine W.cn ?_
  conv => whnf
  refine ⟨noT (decide_eq_false (by omega)), fun _ => ?_⟩
  refine W.skip ?_
  refine g 22 27 [.call (V.i (k + planTopC (World.plan x) + bossTopC (World.boss x) + sumI workerC (World.workers x) + sumI parcelC (World.flight x))) ([[], []])] ?_
  conv => whnf
  refine ⟨⟨I, I, I, ⟨⟨I, I, I⟩, I, ⟨⟨I, I⟩, ⟨I, I⟩, I⟩, ⟨I, I⟩, Go.K.cw_heldParcelS _ _ (by omega) (by omega) (by omega)⟩, I, I⟩, ?_⟩
  refine W.sq ?_
  refine g 2 3 [] ?_
  conv => whnf
  refine ⟨⟨I, I, I⟩, ?_⟩
  refine W.cn ?_
  conv => whnf
  refine ⟨noT (decide_eq_false (by omega)), fun _ => ?_⟩
  refine W.skip ?_
  refine g 27 30 [] ?_
  conv => whnf
  refine ⟨⟨I, I, I⟩, ?_⟩
  refine W.ret ?_
  refine EndsW.rt ?_
  conv => whnf
  refine ⟨⟨I, I, I⟩, ?_, rfl⟩
  exact vi (by omega)
end Go.K

end

section
set_option linter.unusedVariables false
set_option linter.unusedSimpArgs false
set_option maxHeartbeats 4000000
set_option maxRecDepth 20000
open Go Go.Tm Go.Proofs
namespace Go.K
abbrev u8s (l : List Int) : T := .slc [false] (l.map b1T)
theorem x_spec_l1Rd_pick {xs : List A} {R : V → List (List V) → Prop} (hrun : forceH (iniH 99 xs) fun H => W Try.prog 99 (bodyOf Try.f125) H (EndsW 99 E [(4, 3, false)] xs R)) (h : (okAs xs && Nat.ble xs.length 99) = true := by rfl) : ∃ res outs, R res outs ∧ F 125 xs res outs := by obtain ⟨r, o, h1, h2⟩ := Fn.any Try.func125 rfl rfl E_ok rfl h hrun; exact ⟨r, o, h1, e_spec_l1Rd_pick, h2⟩
/-- The reader of a code: its bytes, and the place. -/
abbrev rdC (l : List Int) (pos : Int) : List V := [.t (u8s l), .t (.i pos)]
def u8ok (l : List Int) : Prop := l.length ≤ 2000 ∧ ∀ x ∈ l, 0 ≤ x ∧ x ≤ 255
theorem tmod_rng {x n : Int} (hx : 0 ≤ x) (hn : 0 < n) : 0 ≤ x.tmod n ∧ x.tmod n < n := ⟨Int.tmod_nonneg _ hx, Int.tmod_lt_of_pos _ hn⟩
theorem tdiv_rng {x n : Int} (hx : 0 ≤ x) (hn : 0 < n) : 0 ≤ x.tdiv n ∧ x.tdiv n ≤ x := by
  rw [Int.tdiv_eq_ediv_of_nonneg hx]
  exact ⟨Int.ediv_nonneg hx (by omega), Int.ediv_le_self _ hx⟩
theorem xor_rng {x y : Int} (hx : 0 ≤ x) (hx2 : x < 1099511627776) (hy : 0 ≤ y) (hy2 : y < 1099511627776) : 0 ≤ IntKind.i64.wrap ↑(BitVec.ofInt IntKind.i64.bits x ^^^ BitVec.ofInt IntKind.i64.bits y).toNat := by
  have e1 : (BitVec.ofInt IntKind.i64.bits x).toNat = x.toNat := by
    rw [BitVec.toNat_ofInt]
    show (x % ((2 ^ 64 : Nat) : Int)).toNat = _
    rw [Int.emod_eq_of_lt hx (by omega)]
  have e2 : (BitVec.ofInt IntKind.i64.bits y).toNat = y.toNat := by
    rw [BitVec.toNat_ofInt]
    show (y % ((2 ^ 64 : Nat) : Int)).toNat = _
    rw [Int.emod_eq_of_lt hy (by omega)]
  have h : x.toNat ^^^ y.toNat < 2 ^ 40 := Nat.xor_lt_two_pow (by omega) (by omega)
  rw [BitVec.toNat_xor, e1, e2]
  have : (2 : Nat) ^ 40 = 1099511627776 := by decide
  rw [w64 (by omega) (by omega)]
  omega
theorem ex_pick (l : List Int) (pos n : Int) (hl : u8ok l) (h0 : 0 ≤ pos) (h1 : pos ≤ 1048576) (hn : n ≤ 1048576) : ∃ res outs, (∃ v, res = .i v ∧ outs = [rdC l (pos + 1), []] ∧ 0 ≤ v ∧ (v < n ∨ v = 0)) ∧ F n_spec_l1Rd_pick [.ptr (rdC l pos), .val (.i n)] res outs := by
  obtain ⟨hl1, hl2⟩ := hl
  by_cases hz : l.length = 0
  · refine x_spec_l1Rd_pick ?_
    conv => whnf
    refine g 0 0 [] ?_
    conv => whnf
    refine ⟨⟨I, I⟩, ?_⟩
    refine g 7 15 [.i (pos + (1 : Int))] ?_
    conv => whnf
    refine ⟨⟨I, I, I, I, I, w64 (by omega) (by omega), I, I, ⟨I, I⟩, I⟩, ?_⟩
    refine W.sq ?_
    by_cases h2 : n < (1 : Int)
    refine g 15 24 [.b (true), .b (true), .b (true), .b (true), .b (true), .b (true), .b (true)] ?_
    conv => whnf
    refine ⟨⟨I, I, I, decide_eq_true (by omega), decide_eq_true (by omega), decide_eq_true (by omega), decide_eq_true (by omega), decide_eq_true (by omega), decide_eq_true (by omega), decide_eq_true (by omega), I⟩, ?_⟩
    refine W.cn ?_
    conv => whnf
    refine ⟨fun _ => ?_, noF (rfl)⟩
    refine g 24 25 [] ?_
    conv => whnf
    refine ⟨⟨I, I⟩, ?_⟩
    refine W.ret ?_
    refine EndsW.rt ?_
    conv => whnf
    refine ⟨⟨I, I, I⟩, ?_⟩
    rotate_left 1
    refine g 15 24 [.b (false), .b (false), .b (false), .b (false), .b (false), .b (false), .b (false)] ?_
    conv => whnf
    refine ⟨⟨I, I, I, ⟨decide_eq_false (by omega), I⟩, ⟨decide_eq_false (by omega), I⟩, ⟨decide_eq_false (by omega), I⟩, ⟨decide_eq_false (by omega), I⟩, ⟨decide_eq_false (by omega), I⟩, ⟨decide_eq_false (by omega), I⟩, decide_eq_false (by omega), I⟩, ?_⟩
    refine W.cn ?_
    conv => whnf
    refine ⟨fun _ => ?_, noF (by simp [*])⟩
    refine g 24 25 [] ?_
    conv => whnf
    refine ⟨⟨I, I⟩, ?_⟩
    refine W.ret ?_
    refine EndsW.rt ?_
    conv => whnf
    refine ⟨⟨I, I, I⟩, ?_⟩
    rotate_left 1
    all_goals exact ⟨0, rfl, rfl, by omega, .inr rfl⟩
  · have hp : (0 : Int) < ((l.map b1T).length : Int) := by rw [List.length_map]; omega
    have hlm : ((l.map b1T).length : Int) = l.length := by rw [List.length_map]
    obtain ⟨m1, m2⟩ := tmod_rng (x := pos + 1 - 1) (by omega) hp
    obtain ⟨m3, m4⟩ := tmod_rng (x := (pos + 1 - 1) * 7 + 3) (by omega) hp
    obtain ⟨m5, m6⟩ := tdiv_rng (x := pos + 1 - 1) (by omega) hp
    rw [hlm] at m1 m2 m3 m4 m5 m6
    refine x_spec_l1Rd_pick ?_
    conv => whnf
    refine g 0 0 [] ?_
    conv => whnf
    refine ⟨⟨I, I⟩, ?_⟩
    refine g 7 15 [.i (pos + (1 : Int))] ?_
    conv => whnf
    refine ⟨⟨I, I, I, I, I, w64 (by omega) (by omega), I, I, ⟨I, I⟩, I⟩, ?_⟩
    refine W.sq ?_
    by_cases h2 : n < (1 : Int)
    refine g 15 24 [.b (true), .b (true), .b (true), .b (true), .b (true), .b (true), .b (true)] ?_
    conv => whnf
    refine ⟨⟨I, I, I, decide_eq_true (by omega), decide_eq_true (by omega), decide_eq_true (by omega), decide_eq_true (by omega), decide_eq_true (by omega), decide_eq_true (by omega), decide_eq_true (by omega), I⟩, ?_⟩
    refine W.cn ?_
    conv => whnf
    refine ⟨fun _ => ?_, noF (rfl)⟩
    refine g 24 25 [] ?_
    conv => whnf
    refine ⟨⟨I, I⟩, ?_⟩
    refine W.ret ?_
    refine EndsW.rt ?_
    conv => whnf
    refine ⟨⟨I, I, I⟩, ?_⟩
    rotate_left 1
    refine g 15 24 [.b (false), .b (false), .b (false), .b (false), .b (false), .b (false), .b (false)] ?_
    conv => whnf
    refine ⟨⟨I, I, I, ⟨decide_eq_false (by omega), I⟩, ⟨decide_eq_false (by omega), I⟩, ⟨decide_eq_false (by omega), I⟩, ⟨decide_eq_false (by omega), I⟩, ⟨decide_eq_false (by omega), I⟩, ⟨decide_eq_false (by omega), I⟩, decide_eq_false (by omega), I⟩, ?_⟩
    refine W.cn ?_
    conv => whnf
    refine ⟨noT (decide_eq_false (by omega)), fun _ => ?_⟩
    refine W.skip ?_
    refine g 24 30 [.i (pos + (1 : Int) - (1 : Int))] ?_
    conv => whnf
    refine ⟨⟨I, I, I, I, w64 (by omega) (by omega), I, I⟩, ?_⟩
    refine W.sq ?_
    refine g 30 36 [] ?_
    conv => whnf
    refine ⟨⟨I, I, I, I, I, I, I, I⟩, ?_⟩
    refine W.cn ?_
    conv => whnf
    refine ⟨fun h3 => ?_, fun h3 => ?_⟩
    replace h3 := dt h3
    simp only [List.length_map] at h3
    obtain ⟨y1, hy1⟩ := some_at (xs := l) (n := Int.toNat (pos + (1 : Int) - (1 : Int))) (by omega)
    have hm1 := hl2 y1 (List.mem_of_getElem? hy1)
    refine g 36 47 [.x (b1T y1), .i (y1), .i (Int.tmod y1 n)] ?_
    conv => whnf
    refine ⟨⟨I, I, I, I, I, ⟨(by omega), ixl (by assumption)⟩, I, w64 (by omega) (by omega), I, ⟨(by omega), rfl⟩, I, I⟩, ?_⟩
    refine W.ret ?_
    refine EndsW.rt ?_
    conv => whnf
    refine ⟨⟨I, I, I⟩, ?_⟩
    rotate_left 1
    replace h3 := df h3
    simp only [List.length_map] at h3
    refine W.skip ?_
    obtain ⟨y1, hy1⟩ := some_at (xs := l) (n := Int.toNat (Int.tmod (pos + (1 : Int) - (1 : Int)) (↑(List.length (List.map b1T l)) : Int))) (by simp only [List.length_map] at *; omega)
    have hm1 := hl2 y1 (List.mem_of_getElem? hy1)
    obtain ⟨y2, hy2⟩ := some_at (xs := l) (n := Int.toNat (Int.tmod ((pos + (1 : Int) - (1 : Int)) * (7 : Int) + (3 : Int)) (↑(List.length (List.map b1T l)) : Int))) (by simp only [List.length_map] at *; omega)
    have hm2 := hl2 y2 (List.mem_of_getElem? hy2)
    refine gd 36 92 [[], [], [], [], [], [], [], [], [], [], [.i (Int.tmod (pos + (1 : Int) - (1 : Int)) (↑(List.length (List.map b1T l)) : Int))], [.x (b1T y1)], [], [.i (y1)], [.i (y1 * (131 : Int))], [], [], [], [], [], [.i ((pos + (1 : Int) - (1 : Int)) * (7 : Int))], [.i ((pos + (1 : Int) - (1 : Int)) * (7 : Int) + (3 : Int))], [], [], [], [], [], [.i (Int.tmod ((pos + (1 : Int) - (1 : Int)) * (7 : Int) + (3 : Int)) (↑(List.length (List.map b1T l)) : Int))], [.x (b1T y2)], [], [.i (y2)], [.i (y2 * (1117 : Int))], [.i (y1 * (131 : Int) + y2 * (1117 : Int))], [], [.i ((pos + (1 : Int) - (1 : Int)) * (29 : Int))], [.i (y1 * (131 : Int) + y2 * (1117 : Int) + (pos + (1 : Int) - (1 : Int)) * (29 : Int))], [], [], [], [], [], [], [.i (Int.tdiv (pos + (1 : Int) - (1 : Int)) (↑(List.length (List.map b1T l)) : Int))], [.i (Int.tdiv (pos + (1 : Int) - (1 : Int)) (↑(List.length (List.map b1T l)) : Int) * (53 : Int))], [.i (y1 * (131 : Int) + y2 * (1117 : Int) + (pos + (1 : Int) - (1 : Int)) * (29 : Int) + Int.tdiv (pos + (1 : Int) - (1 : Int)) (↑(List.length (List.map b1T l)) : Int) * (53 : Int))], []] ?_
    conv => whnf
    refine ⟨⟨I, I, I, I, I, I, I, I, I, I, ⟨(by omega), rfl⟩, ⟨(by simp only [List.length_map, List.length_append, List.length_set, List.length_replicate, List.length_cons, List.length_nil, List.length_take, List.length_drop, fill_len, fillI_len, List.length_range, bytesT_len]; omega), ixl (by assumption)⟩, I, w64 (by omega) (by omega), w64 (by omega) (by omega), I, I, I, I, I, w64 (by omega) (by omega), w64 (by omega) (by omega), I, I, I, I, I, ⟨(by omega), rfl⟩, ⟨(by simp only [List.length_map, List.length_append, List.length_set, List.length_replicate, List.length_cons, List.length_nil, List.length_take, List.length_drop, fill_len, fillI_len, List.length_range, bytesT_len]; omega), ixl (by assumption)⟩, I, w64 (by omega) (by omega), w64 (by omega) (by omega), w64 (by omega) (by omega), I, w64 (by omega) (by omega), w64 (by omega) (by omega), I, I, I, I, I, I, ⟨(by omega), w64 (by simp only [List.length_map, List.length_append, List.length_set, List.length_replicate, List.length_cons, List.length_nil, List.length_take, List.length_drop, fill_len, fillI_len, List.length_range, bytesT_len]; omega) (by simp only [List.length_map, List.length_append, List.length_set, List.length_replicate, List.length_cons, List.length_nil, List.length_take, List.length_drop, fill_len, fillI_len, List.length_range, bytesT_len]; omega)⟩, w64 (by simp only [List.length_map, List.length_append, List.length_set, List.length_replicate, List.length_cons, List.length_nil, List.length_take, List.length_drop, fill_len, fillI_len, List.length_range, bytesT_len]; omega) (by simp only [List.length_map, List.length_append, List.length_set, List.length_replicate, List.length_cons, List.length_nil, List.length_take, List.length_drop, fill_len, fillI_len, List.length_range, bytesT_len]; omega), w64 (by simp only [List.length_map, List.length_append, List.length_set, List.length_replicate, List.length_cons, List.length_nil, List.length_take, List.length_drop, fill_len, fillI_len, List.length_range, bytesT_len]; omega) (by simp only [List.length_map, List.length_append, List.length_set, List.length_replicate, List.length_cons, List.length_nil, List.length_take, List.length_drop, fill_len, fillI_len, List.length_range, bytesT_len]; omega), I, I⟩, by kernel_rfl, ?_⟩
    refine g 92 96 [.i (IntKind.wrap IntKind.i64 (Int.tdiv (y1 * (131 : Int) + y2 * (1117 : Int) + (pos + (1 : Int) - (1 : Int)) * (29 : Int) + Int.tdiv (pos + (1 : Int) - (1 : Int)) (↑(List.length (List.map b1T l)) : Int) * (53 : Int)) (64 : Int))), .i (IntKind.wrap IntKind.i64 (↑(BitVec.toNat (BitVec.ofInt (IntKind.bits IntKind.i64) (y1 * (131 : Int) + y2 * (1117 : Int) + (pos + (1 : Int) - (1 : Int)) * (29 : Int) + Int.tdiv (pos + (1 : Int) - (1 : Int)) (↑(List.length (List.map b1T l)) : Int) * (53 : Int)) ^^^ BitVec.ofInt (IntKind.bits IntKind.i64) (IntKind.wrap IntKind.i64 (Int.tdiv (y1 * (131 : Int) + y2 * (1117 : Int) + (pos + (1 : Int) - (1 : Int)) * (29 : Int) + Int.tdiv (pos + (1 : Int) - (1 : Int)) (↑(List.length (List.map b1T l)) : Int) * (53 : Int)) (64 : Int))))) : Int))] ?_
    conv => whnf
    refine ⟨⟨I, I, ⟨(by omega), rfl⟩, rfl, I, I⟩, ?_⟩
    refine g 5 99 [.i (Int.tmod (IntKind.wrap IntKind.i64 (↑(BitVec.toNat (BitVec.ofInt (IntKind.bits IntKind.i64) (y1 * (131 : Int) + y2 * (1117 : Int) + (pos + (1 : Int) - (1 : Int)) * (29 : Int) + Int.tdiv (pos + (1 : Int) - (1 : Int)) (↑(List.length (List.map b1T l)) : Int) * (53 : Int)) ^^^ BitVec.ofInt (IntKind.bits IntKind.i64) (IntKind.wrap IntKind.i64 (Int.tdiv (y1 * (131 : Int) + y2 * (1117 : Int) + (pos + (1 : Int) - (1 : Int)) * (29 : Int) + Int.tdiv (pos + (1 : Int) - (1 : Int)) (↑(List.length (List.map b1T l)) : Int) * (53 : Int)) (64 : Int))))) : Int)) n)] ?_
    conv => whnf
    refine ⟨⟨I, I, ⟨(by omega), rfl⟩, I, I⟩, ?_⟩
    refine W.ret ?_
    refine EndsW.rt ?_
    conv => whnf
    refine ⟨⟨I, I, I⟩, ?_⟩
    rotate_left 1
    · exact ⟨0, rfl, rfl, by omega, .inr rfl⟩
    · obtain ⟨k1, k2⟩ := tmod_rng (x := y1) (n := n) (by omega) (by omega)
      exact ⟨_, rfl, rfl, k1, .inl k2⟩
    · obtain ⟨q5, q6⟩ := tdiv_rng (x := pos + 1 - 1) (by omega) hp
      have hX : 0 ≤ y1 * 131 + y2 * 1117 + (pos + 1 - 1) * 29 + (pos + 1 - 1).tdiv ↑(l.map b1T).length * 53 ∧ y1 * 131 + y2 * 1117 + (pos + 1 - 1) * 29 + (pos + 1 - 1).tdiv ↑(l.map b1T).length * 53 < 1099511627776 := by omega
      obtain ⟨q7, q8⟩ := tdiv_rng (n := 64) hX.1 (by omega)
      obtain ⟨k1, k2⟩ := tmod_rng (n := n) (xor_rng hX.1 hX.2 (y := IntKind.i64.wrap ((y1 * 131 + y2 * 1117 + (pos + 1 - 1) * 29 + (pos + 1 - 1).tdiv ↑(l.map b1T).length * 53).tdiv 64)) (by rw [w64 (by omega) (by omega)]; omega) (by rw [w64 (by omega) (by omega)]; omega)) (by omega)
      exact ⟨_, rfl, rfl, k1, .inl k2⟩
theorem ex_pick' (l : List Int) (pos n : Int) (h : u8ok l ∧ 0 ≤ pos ∧ pos ≤ 1048576 ∧ n ≤ 1048576) : ∃ v, F n_spec_l1Rd_pick [.ptr (rdC l pos), .val (.i n)] (.i v) [rdC l (pos + 1), []] ∧ 0 ≤ v ∧ (v < n ∨ v = 0) := by
  obtain ⟨res, outs, ⟨v, rfl, rfl, h0⟩, hF⟩ := ex_pick l pos n h.1 h.2.1 h.2.2.1 h.2.2.2
  exact ⟨v, hF, h0⟩
open Classical in
/-- What the reader picks. -/
noncomputable def pickV (l : List Int) (pos n : Int) : Int := if h : u8ok l ∧ 0 ≤ pos ∧ pos ≤ 1048576 ∧ n ≤ 1048576 then (ex_pick' l pos n h).choose else 0
end Go.K

end

section
set_option linter.unusedVariables false
set_option linter.unusedSimpArgs false
set_option maxHeartbeats 4000000
set_option maxRecDepth 20000
open Go Go.Tm Go.Proofs
namespace Go.K
def planSmall (p : Plan) : Prop := p.tasks.length ≤ 64 ∧ ∀ t ∈ p.tasks, t.name.size ≤ 64 ∧ t.deps.length ≤ 64
theorem c_spec_l1Plan (p : Plan) (h : planSmall p) : F n_spec_l1Plan [.val (planR p)] (planO p) [[]] := by
  obtain ⟨hp1, hp2⟩ := h
  refine i_spec_l1Plan ?_
  conv => whnf
  refine g 0 0 [] ?_
  conv => whnf
  refine ⟨⟨⟨I, I⟩, I, I⟩, ?_⟩
  refine g 6 7 [] ?_
  conv => whnf
  refine ⟨⟨I, I, ⟨I, I⟩, I⟩, ?_⟩
  refine W.sq ?_
  refine g 0 0 [] ?_
  conv => whnf
  refine ⟨⟨I, I⟩, ?_⟩
  refine W.blk ?_
  refine W.lp (fun s (n : Nat) => ⟨[(0, s.s 0), (1, s.s 1), (2, s.s 2), (3, s.s 3), (4, .i n)], [(1, [s.c 1 0]), (2, [s.c 2 0]), (34, [s.c 34 0]), (3, [.own taskK ((p.tasks.take n).map taskT)])], []⟩) (fun (n : Nat) => n ≤ p.tasks.length) (fun (n : Nat) => p.tasks.length - n) (0) [some 1, some 2, some 34, some 3] [] ⟨rfl, ⟨⟨_, rfl, _, _, rfl, rfl, rfl⟩, rfl, rfl, rfl, rfl, I⟩, ⟨⟨rfl, ⟨rfl, I⟩⟩, ⟨⟨rfl, ⟨rfl, I⟩⟩, ⟨⟨rfl, ⟨rfl, I⟩⟩, ⟨⟨rfl, ⟨rfl, I⟩⟩, I⟩⟩⟩⟩, I⟩ (by omega) ?_
  intro n hn
  conv => whnf
  refine W.sq ?_
  refine g 7 11 [] ?_
  conv => whnf
  refine ⟨⟨I, I, I, I, I, I⟩, ?_⟩
  refine W.cn ?_
  conv => whnf
  refine ⟨fun h1 => ?_, fun h1 => ?_⟩
  replace h1 := dt h1
  simp only [List.length_map] at h1
  refine W.skip ?_
  refine W.sq ?_
  refine W.blk ?_
  obtain ⟨y1, hy1⟩ := some_at (xs := Plan.tasks p) (n := n) (by omega)
  have hm1 := hp2 y1 (List.mem_of_getElem? hy1)
  refine g 11 19 [.x (taskT y1)] ?_
  conv => whnf
  refine ⟨⟨I, I, I, ⟨(by omega), ixl (by assumption)⟩, I, I, ⟨I, I, I, I⟩, I⟩, ?_⟩
  refine rgd [[], [], [], [], [], [], [], [], [], [], [], [], [], [], []] ?_
  conv => whnf
  refine ⟨⟨I, I, I, I, I, I, I, I, I, ⟨I, I, (by simp only [List.length_map, List.length_append, List.length_set, List.length_replicate, List.length_cons, List.length_nil, List.length_take, List.length_drop, fill_len, fillI_len, List.length_range, bytesT_len]; omega)⟩, I, ⟨⟨I, I, I, I⟩, I⟩, ⟨I, I, (by simp only [List.length_map, List.length_append, List.length_set, List.length_replicate, List.length_cons, List.length_nil, List.length_take, List.length_drop, fill_len, fillI_len, List.length_range, bytesT_len]; omega)⟩, I, ⟨I, I⟩, I⟩, by kernel_rfl, ?_⟩
  refine rg [.i ((↑n : Int) + (1 : Int))] ?_
  conv => whnf
  refine ⟨⟨I, w64 (by omega) (by omega), I, I⟩, ?_⟩
  rotate_left 1
  replace h1 := df h1
  simp only [List.length_map] at h1
  refine W.exit ?_
  refine g 3 34 [] ?_
  conv => whnf
  refine ⟨⟨I, ⟨I, I⟩, I⟩, ?_⟩
  refine W.ret ?_
  refine EndsW.rt ?_
  conv => whnf
  refine ⟨⟨I, I, I⟩, ?_, rfl⟩
  rotate_left 1
  · refine ⟨n + 1, [some 1, some 2, some 34, some 3], [], ⟨rfl, ⟨⟨_, rfl, _, _, rfl, rfl, rfl⟩, rfl, rfl, rfl, rfl, I⟩, ⟨⟨rfl, ⟨rfl, I⟩⟩, ⟨⟨rfl, ⟨rfl, I⟩⟩, ⟨⟨rfl, ⟨rfl, I⟩⟩, ⟨⟨rfl, ⟨(congrArg (V.own _) (snoc_take (by assumption))), I⟩⟩, I⟩⟩⟩⟩, I⟩, ?_, ?_⟩
    rotate_left 1
    (dsimp only; omega)
    dsimp only
    omega
  · rw [take_all (by omega)]
end Go.K

end

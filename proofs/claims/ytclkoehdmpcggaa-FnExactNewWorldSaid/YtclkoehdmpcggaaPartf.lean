/- Contracts of functions of the program: what each call answers. -/
import Derived.Test.YtclkoehdmpcggaaParte
section
set_option linter.unusedVariables false
set_option linter.unusedSimpArgs false
set_option maxHeartbeats 8000000
set_option maxRecDepth 20000
open Go Go.Tm Go.Proofs
namespace Go.K
theorem small_chk {p : Plan} (h : checkPlan p.tasks = 0) : planSmall p := by
  have h1 := (chk_inv h).1
  refine ⟨by omega, fun t ht => ?_⟩
  obtain ⟨n, hn⟩ := List.getElem?_of_mem ht
  have h2 := (chk_task h hn).2.2.1
  have h3 := (chk_task h hn).1
  exact ⟨by omega, by omega⟩
theorem c_impl_Plan_twin (p : Plan) (h : planSmall p) : F n_impl_Plan_twin [.val (planR p)] (planO p) [[]] := by
  obtain ⟨hp1, hp2⟩ := h
  refine i_impl_Plan_twin ?_
  conv => whnf
  refine g 0 0 [] ?_
  conv => whnf
  refine ⟨⟨⟨I, I⟩, I, I⟩, ?_⟩
  refine g 0 0 [] ?_
  conv => whnf
  refine ⟨⟨I, I⟩, ?_⟩
  refine W.sq ?_
  refine g 1 2 [] ?_
  conv => whnf
  refine ⟨⟨I, I, I, I, I⟩, ?_⟩
  refine W.blk ?_
  refine W.lp (fun s (n : Nat) => ⟨[(0, s.s 0), (2, s.s 2), (3, s.s 3), (7, s.s 7), (8, s.s 8), (9, .i n)], [(2, [s.c 2 0]), (3, [.own taskK ((p.tasks.take n).map taskT)])], []⟩) (fun (n : Nat) => n ≤ p.tasks.length) (fun (n : Nat) => p.tasks.length - n) (0) [some 2, some 3] [] ⟨rfl, ⟨⟨_, rfl, _, _, rfl, rfl, rfl⟩, rfl, rfl, rfl, rfl, rfl, I⟩, ⟨⟨rfl, ⟨rfl, I⟩⟩, ⟨⟨rfl, ⟨rfl, I⟩⟩, I⟩⟩, I⟩ (by omega) ?_
  intro n hn
  conv => whnf
  refine g 0 0 [] ?_
  conv => whnf
  refine ⟨⟨I, I⟩, ?_⟩
  refine W.sq ?_
  refine W.cn ?_
  conv => whnf
  refine ⟨fun h1 => ?_, fun h1 => ?_⟩
  replace h1 := dt h1
  simp only [List.length_map] at h1
  refine W.skip ?_
  refine W.sq ?_
  refine W.blk ?_
  obtain ⟨y1, hy1⟩ := some_at (xs := Plan.tasks p) (n := n) (by omega)
  have hm1 := hp2 y1 (List.mem_of_getElem? hy1)
  refine g 10 13 [.x (taskT y1)] ?_
  conv => whnf
  refine ⟨⟨⟨(by omega), ixl (by assumption)⟩, I, I, ⟨I, I, I, I⟩, I⟩, ?_⟩
  refine g 13 18 [] ?_
  conv => whnf
  refine ⟨⟨I, I, I, ⟨I, I, (by simp only [List.length_map, List.length_append, List.length_set, List.length_replicate, List.length_cons, List.length_nil, List.length_take, List.length_drop, fill_len, fillI_len, List.length_range, bytesT_len]; omega)⟩, I, ⟨I, I⟩, I⟩, ?_⟩
  refine rg [] ?_
  conv => whnf
  refine ⟨⟨I, I, I, ⟨⟨I, I, I, I⟩, I⟩, ⟨I, I, (by simp only [List.length_map, List.length_append, List.length_set, List.length_replicate, List.length_cons, List.length_nil, List.length_take, List.length_drop, fill_len, fillI_len, List.length_range, bytesT_len]; omega)⟩, I, ⟨I, I⟩, I⟩, ?_⟩
  refine rg [.i ((↑n : Int) + (1 : Int))] ?_
  conv => whnf
  refine ⟨⟨w64 (by omega) (by omega), I, I⟩, ?_⟩
  rotate_left 1
  replace h1 := df h1
  simp only [List.length_map] at h1
  refine W.exit ?_
  refine g 3 26 [] ?_
  conv => whnf
  refine ⟨⟨I, ⟨I, I⟩, I⟩, ?_⟩
  refine W.ret ?_
  refine EndsW.rt ?_
  conv => whnf
  refine ⟨⟨I, I, I⟩, ?_, rfl⟩
  rotate_left 1
  · refine ⟨n + 1, [some 2, some 3], [], ⟨rfl, ⟨⟨_, rfl, _, _, rfl, rfl, rfl⟩, rfl, rfl, rfl, rfl, rfl, I⟩, ⟨⟨rfl, ⟨rfl, I⟩⟩, ⟨⟨rfl, ⟨(congrArg (V.own _) (snoc_take (by assumption))), I⟩⟩, I⟩⟩, I⟩, ?_, ?_⟩
    rotate_left 1
    (dsimp only; omega)
    dsimp only
    omega
  · rw [take_all (by omega)]
def newWk (i : Nat) : Worker := ⟨(i : Int) + 1, 1, true, 0, 0, 0, 0, 0, [], emp, 3⟩
def crew (n : Nat) : List Worker := (List.range n).map newWk
theorem crew_step (n : Nat) : crew n ++ [newWk n] = crew (n + 1) := by simp [crew, List.range_succ]
theorem crew_stepm (n : Nat) : (crew n).map workerT ++ [workerT (newWk n)] = (crew (n + 1)).map workerT := by rw [← crew_step, List.map_append]; rfl
theorem crew_len (n : Nat) : (crew n).length = n := by simp [crew]
structure NewOk (p : Plan) (key : ByteArray) (w : Int) : Prop where
  plan : checkPlan p.tasks = 0
  w : 1 ≤ w ∧ w ≤ 8
  key : key.size ≤ 30
noncomputable instance (p : Plan) (key : ByteArray) (w : Int) : Decidable (NewOk p key w) := Classical.propDecidable _
noncomputable def newW (p : Plan) (key : ByteArray) (w : Int) : World := if NewOk p key w then ⟨p, key, riseB (downB w 0 []) p, crew w.toNat, [], emp⟩ else noWorld
theorem new_ok {p : Plan} {key : ByteArray} {w : Int} (h : NewOk p key w) : newW p key w = ⟨p, key, riseB (downB w 0 []) p, crew w.toNat, [], emp⟩ := if_pos h
theorem new_no {p : Plan} {key : ByteArray} {w : Int} (h : ¬ NewOk p key w) : newW p key w = noWorld := if_neg h
theorem replay_nil {p : Plan} (h : checkPlan p.tasks = 0) : (replayP p []).code = 0 := by
  rw [replayP, if_pos ⟨h, by decide⟩, runR_nil]
theorem c_impl_NewWorld (p : Plan) (key : ByteArray) (w : Int) (hp : planWf p) (hk : key.size ≤ 9223372036854775807) : F n_impl_NewWorld [.val (planR p), .val (.s key), .val (.i w)] (worldO (newW p key w)) [[], [], []] := by
  have cp := c_impl_CheckPlan p hp
  by_cases h : NewOk p key w
  · rw [new_ok h]
    obtain ⟨h1, h2, h3⟩ := h
    rw [h1] at cp
    have hs := small_chk h1
    have cr := c_rise_down w 0 [] p hp h2 (fun s hs => by cases hs) (replay_nil h1)
    refine i_impl_NewWorld ?_
    conv => whnf
    refine g 0 0 [] ?_
    conv => whnf
    refine ⟨⟨⟨I, I⟩, I, I⟩, ?_⟩
    refine W.sq ?_
    refine g 11 21 [.call (V.i (0 : Int)) ([[]]), .b (false), .b (false), .call (V.b (decide ((1 : Int) ≤ w ∧ w ≤ (8 : Int)))) ([[], [], []]), .b (false), .b (false), .b (false), .b (false), .b (false), .b (false)] ?_
    conv => whnf
    refine ⟨⟨I, ⟨⟨I, I⟩, I, ⟨⟨I, I⟩, I⟩, ⟨I, I⟩, (by assumption)⟩, I, I, ⟨rfl, I⟩, ⟨rfl, ⟨I, I, I, I⟩, I, ⟨⟨I, I⟩, ⟨I, I⟩, ⟨I, I⟩, I⟩, ⟨I, I⟩, Go.K.c_impl_within _ _ _⟩, ⟨rfl, I⟩, rfl, I, ⟨notF (by omega), I⟩, ⟨notF (by omega), I⟩, ⟨notF (by omega), I⟩, notF (by omega), I⟩, ?_⟩
    refine W.cn ?_
    conv => whnf
    refine ⟨noT (decide_eq_false (by omega)), fun _ => ?_⟩
    refine W.skip ?_
    refine g 21 29 [.call (planO p) ([[]])] ?_
    conv => whnf
    refine ⟨⟨I, ⟨⟨I, I⟩, I, ⟨⟨I, I⟩, I⟩, ⟨I, I⟩, Go.K.c_impl_Plan_twin _ (by omega)⟩, I, I, I, I, I, ⟨I, I, I, I, I, I, I, I, I, I, I, I, I, I, I, I, I, I⟩, I⟩, ?_⟩
    refine g 29 33 [.call (V.tup []) ([cellsOf (bossO (riseB (downB w (0 : Int) []) p)), []])] ?_
    conv => whnf
    refine ⟨⟨I, I, I, ⟨⟨I, I, I⟩, I, ⟨I, ⟨I, I⟩, I⟩, ⟨I, I⟩, (by assumption)⟩, I⟩, ?_⟩
    refine W.sq ?_
    refine g 3 4 [] ?_
    conv => whnf
    refine ⟨⟨I, I⟩, ?_⟩
    refine W.blk ?_
    refine W.lp (fun s (n : Nat) => ⟨[(0, s.s 0), (1, s.s 1), (2, s.s 2), (6, s.s 6), (7, s.s 7), (8, .i (n + 1)), (10, s.s 10)], [(6, [s.c 6 0, s.c 6 1, s.c 6 2, s.c 6 3, s.c 6 4, s.c 6 5, s.c 6 6, s.c 6 7, s.c 6 8, s.c 6 9, s.c 6 10, s.c 6 11, s.c 6 12, s.c 6 13, s.c 6 14, s.c 6 15, s.c 6 16]), (7, [.own taskK (p.tasks.map taskT), .t (.s key), .t (.i (riseB (downB w 0 []) p).workers), .t (.b (riseB (downB w 0 []) p).up), .t (.i (riseB (downB w 0 []) p).now), .t (.i (riseB (downB w 0 []) p).since), .t (.i (riseB (downB w 0 []) p).epoch), .t (.i (riseB (downB w 0 []) p).given), .own [false] ((riseB (downB w 0 []) p).log.safe.map strT), .own [false] ((riseB (downB w 0 []) p).log.loose.map strT), .own [false] ((riseB (downB w 0 []) p).results.map strT), .own jobK ((riseB (downB w 0 []) p).jobs.map jobT), .own seatK ((riseB (downB w 0 []) p).seats.map seatT), .own owedK ((riseB (downB w 0 []) p).owed.map owedT), .own workerK ((crew n).map workerT), .own pkd [], .t (.s emp)])], []⟩) (fun (n : Nat) => n ≤ w.toNat) (fun (n : Nat) => w.toNat - n) (0) [some 6, some 7] [] ⟨rfl, ⟨⟨_, rfl, _, _, rfl, rfl, rfl⟩, rfl, rfl, rfl, rfl, rfl, rfl, I⟩, ⟨⟨rfl, ⟨rfl, ⟨rfl, ⟨rfl, ⟨rfl, ⟨rfl, ⟨rfl, ⟨rfl, ⟨rfl, ⟨rfl, ⟨rfl, ⟨rfl, ⟨rfl, ⟨rfl, ⟨rfl, ⟨rfl, ⟨rfl, ⟨rfl, I⟩⟩⟩⟩⟩⟩⟩⟩⟩⟩⟩⟩⟩⟩⟩⟩⟩⟩, ⟨⟨rfl, ⟨rfl, ⟨rfl, ⟨rfl, ⟨rfl, ⟨rfl, ⟨rfl, ⟨rfl, ⟨rfl, ⟨rfl, ⟨rfl, ⟨rfl, ⟨rfl, ⟨rfl, ⟨rfl, ⟨rfl, ⟨rfl, ⟨rfl, I⟩⟩⟩⟩⟩⟩⟩⟩⟩⟩⟩⟩⟩⟩⟩⟩⟩⟩, I⟩⟩, I⟩ (by omega) ?_
    intro n hn
    have e := crew_stepm n
    have hcl := crew_len n
    conv => whnf
    refine W.sq ?_
    refine g 33 35 [] ?_
    conv => whnf
    refine ⟨⟨I, I, I, I⟩, ?_⟩
    refine W.cn ?_
    conv => whnf
    refine ⟨fun h4 => ?_, fun h4 => ?_⟩
    replace h4 := dt h4
    refine W.skip ?_
    refine W.sq ?_
    refine W.blk ?_
    refine rg [] ?_
    conv => whnf
    refine ⟨⟨I, I, I, I, ⟨⟨I, I, I, I, I, I, I, I, I, I, I, I⟩, I⟩, ⟨I, I, (by simp only [List.length_map, List.length_append, List.length_set, List.length_replicate, List.length_cons, List.length_nil, List.length_take, List.length_drop, fill_len, fillI_len, List.length_range, bytesT_len]; omega)⟩, I, ⟨I, I⟩, I⟩, ?_⟩
    refine rg [.i ((↑n : Int) + (1 : Int) + (1 : Int))] ?_
    conv => whnf
    refine ⟨⟨I, w64 (by omega) (by omega), I, I⟩, ?_⟩
    rotate_left 1
    replace h4 := df h4
    refine W.exit ?_
    refine g 7 46 [] ?_
    conv => whnf
    refine ⟨⟨I, ⟨I, I, I, I, I, I, I, I, I, I, I, I, I, I, I, I, I, I⟩, I⟩, ?_⟩
    refine W.ret ?_
    refine EndsW.rt ?_
    conv => whnf
    refine ⟨⟨I, I, I, I, I, I, I, I, I, I, I, I, I, I, I, I, I, I, I⟩, ?_, rfl⟩
    rotate_left 1
    · refine ⟨n + 1, [some 6, some 7], [], ⟨rfl, ⟨⟨_, rfl, _, _, rfl, rfl, rfl⟩, rfl, rfl, rfl, rfl, rfl, rfl, I⟩, ⟨⟨rfl, ⟨rfl, ⟨rfl, ⟨rfl, ⟨rfl, ⟨rfl, ⟨rfl, ⟨rfl, ⟨rfl, ⟨rfl, ⟨rfl, ⟨rfl, ⟨rfl, ⟨rfl, ⟨rfl, ⟨rfl, ⟨rfl, ⟨rfl, I⟩⟩⟩⟩⟩⟩⟩⟩⟩⟩⟩⟩⟩⟩⟩⟩⟩⟩, ⟨⟨rfl, ⟨rfl, ⟨rfl, ⟨rfl, ⟨rfl, ⟨rfl, ⟨rfl, ⟨rfl, ⟨rfl, ⟨rfl, ⟨rfl, ⟨rfl, ⟨rfl, ⟨rfl, ⟨rfl, ⟨(congrArg (V.own _) (e)), ⟨rfl, ⟨rfl, I⟩⟩⟩⟩⟩⟩⟩⟩⟩⟩⟩⟩⟩⟩⟩⟩⟩⟩, I⟩⟩, I⟩, ?_, ?_⟩
      rotate_left 1
      (dsimp only; omega)
      dsimp only
      omega
    · obtain rfl : n = w.toNat := by omega
      rfl
  · rw [new_no h]
    by_cases h1 : checkPlan p.tasks = 0
    · by_cases h2 : 1 ≤ w ∧ w ≤ 8
      · have h3 : ¬ key.size ≤ 30 := fun q => h ⟨h1, h2, q⟩
        refine i_impl_NewWorld ?_
        conv => whnf
        refine g 0 0 [] ?_
        conv => whnf
        refine ⟨⟨⟨I, I⟩, I, I⟩, ?_⟩
        refine W.sq ?_
        refine g 11 21 [.call (V.i (checkPlan (Plan.tasks p))) ([[]]), .b (false), .b (false), .call (V.b (decide ((1 : Int) ≤ w ∧ w ≤ (8 : Int)))) ([[], [], []]), .b (false), .b (false), .b (false), .b (false), .b (false), .b (false)] ?_
        conv => whnf
        refine ⟨⟨I, ⟨⟨I, I⟩, I, ⟨⟨I, I⟩, I⟩, ⟨I, I⟩, (by assumption)⟩, I, I, ⟨notF (by omega), I⟩, ⟨notF (by omega), ⟨I, I, I, I⟩, I, ⟨⟨I, I⟩, ⟨I, I⟩, ⟨I, I⟩, I⟩, ⟨I, I⟩, Go.K.c_impl_within _ _ _⟩, ⟨notF (by omega), I⟩, notF (by omega), I, ⟨notF (by omega), I⟩, ⟨notF (by omega), I⟩, ⟨notF (by omega), I⟩, notF (by omega), I⟩, ?_⟩
        refine W.cn ?_
        conv => whnf
        refine ⟨fun _ => ?_, noF (decide_eq_true (by omega))⟩
        refine g 21 23 [] ?_
        conv => whnf
        refine ⟨⟨I, ⟨I, I, I, I, I, I, I, I, I, I, I, I, I, I, I, I, I, I⟩, I⟩, ?_⟩
        refine W.ret ?_
        refine EndsW.rt ?_
        conv => whnf
        refine ⟨⟨I, I, I, I, I, I, I, I, I, I, I, I, I, I, I, I, I, I, I⟩, ?_, rfl⟩
        rfl
      · refine i_impl_NewWorld ?_
        conv => whnf
        refine g 0 0 [] ?_
        conv => whnf
        refine ⟨⟨⟨I, I⟩, I, I⟩, ?_⟩
        refine W.sq ?_
        refine g 11 21 [.call (V.i (checkPlan (Plan.tasks p))) ([[]]), .b (false), .b (false), .call (V.b (decide ((1 : Int) ≤ w ∧ w ≤ (8 : Int)))) ([[], [], []]), .b (false), .b (false), .b (true), .b (true), .b (true), .b (true)] ?_
        conv => whnf
        refine ⟨⟨I, ⟨⟨I, I⟩, I, ⟨⟨I, I⟩, I⟩, ⟨I, I⟩, (by assumption)⟩, I, I, ⟨notF (by omega), I⟩, ⟨notF (by omega), ⟨I, I, I, I⟩, I, ⟨⟨I, I⟩, ⟨I, I⟩, ⟨I, I⟩, I⟩, ⟨I, I⟩, Go.K.c_impl_within _ _ _⟩, ⟨notF (by omega), I⟩, notF (by omega), I, notT (by omega), notT (by omega), notT (by omega), notT (by omega), I⟩, ?_⟩
        refine W.cn ?_
        conv => whnf
        refine ⟨fun _ => ?_, noF (rfl)⟩
        refine g 21 23 [] ?_
        conv => whnf
        refine ⟨⟨I, ⟨I, I, I, I, I, I, I, I, I, I, I, I, I, I, I, I, I, I⟩, I⟩, ?_⟩
        refine W.ret ?_
        refine EndsW.rt ?_
        conv => whnf
        refine ⟨⟨I, I, I, I, I, I, I, I, I, I, I, I, I, I, I, I, I, I, I⟩, ?_, rfl⟩
        rfl
    · refine i_impl_NewWorld ?_
      conv => whnf
      refine g 0 0 [] ?_
      conv => whnf
      refine ⟨⟨⟨I, I⟩, I, I⟩, ?_⟩
      refine W.sq ?_
      refine g 11 21 [.call (V.i (checkPlan (Plan.tasks p))) ([[]]), .b (true), .b (true), .b (true), .b (true), .b (true), .b (true), .b (true), .b (true)] ?_
      conv => whnf
      refine ⟨⟨I, ⟨⟨I, I⟩, I, ⟨⟨I, I⟩, I⟩, ⟨I, I⟩, (by assumption)⟩, I, I, notT (by omega), notT (by omega), notT (by omega), notT (by omega), I, rfl, rfl, rfl, rfl, I⟩, ?_⟩
      refine W.cn ?_
      conv => whnf
      refine ⟨fun _ => ?_, noF (rfl)⟩
      refine g 21 23 [] ?_
      conv => whnf
      refine ⟨⟨I, ⟨I, I, I, I, I, I, I, I, I, I, I, I, I, I, I, I, I, I⟩, I⟩, ?_⟩
      refine W.ret ?_
      refine EndsW.rt ?_
      conv => whnf
      refine ⟨⟨I, I, I, I, I, I, I, I, I, I, I, I, I, I, I, I, I, I, I⟩, ?_, rfl⟩
      rfl
theorem c_spec_NewWorld (p : Plan) (key : ByteArray) (w : Int) (hp : planWf p) (hk : key.size ≤ 9223372036854775807) : F n_spec_NewWorld [.val (planR p), .val (.s key), .val (.i w)] (worldO (newW p key w)) [[], [], []] := by
  have cp := c_spec_CheckPlan p hp
  by_cases h : NewOk p key w
  · rw [new_ok h]
    obtain ⟨h1, h2, h3⟩ := h
    rw [h1] at cp
    have hs := small_chk h1
    have cr := c_l5Rise_down w 0 [] p hp h2 (fun s hs => by cases hs) (replay_nil h1)
    refine i_spec_NewWorld ?_
    conv => whnf
    refine g 0 0 [] ?_
    conv => whnf
    refine ⟨⟨⟨I, I⟩, I, I⟩, ?_⟩
    refine W.sq ?_
    refine g 11 21 [.call (V.i (0 : Int)) ([[]]), .b (false), .b (false), .call (V.b (decide ((1 : Int) ≤ w ∧ w ≤ (8 : Int)))) ([[], [], []]), .b (false), .b (false), .b (false), .b (false), .b (false), .b (false)] ?_
    conv => whnf
    refine ⟨⟨I, ⟨⟨I, I⟩, I, ⟨⟨I, I⟩, I⟩, ⟨I, I⟩, (by assumption)⟩, I, I, ⟨rfl, I⟩, ⟨rfl, ⟨I, I, I, I⟩, I, ⟨⟨I, I⟩, ⟨I, I⟩, ⟨I, I⟩, I⟩, ⟨I, I⟩, Go.K.c_spec_l2In _ _ _⟩, ⟨rfl, I⟩, rfl, I, ⟨notF (by omega), I⟩, ⟨notF (by omega), I⟩, ⟨notF (by omega), I⟩, notF (by omega), I⟩, ?_⟩
    refine W.cn ?_
    conv => whnf
    refine ⟨noT (decide_eq_false (by omega)), fun _ => ?_⟩
    refine W.skip ?_
    refine g 21 27 [.call (planO p) ([[]])] ?_
    conv => whnf
    refine ⟨⟨I, ⟨⟨I, I⟩, I, ⟨⟨I, I⟩, I⟩, ⟨I, I⟩, Go.K.c_spec_l1Plan _ (by omega)⟩, I, I, I, ⟨I, I, I, I, I, I, I, I, I, I, I, I, I, I, I, I, I, I⟩, I⟩, ?_⟩
    refine g 27 32 [.call (bossO (riseB (downB w (0 : Int) []) p)) ([[], []])] ?_
    conv => whnf
    refine ⟨⟨I, I, I, ⟨⟨I, I, I⟩, I, ⟨⟨I, I, I, I, I, I, I, I, I, I, I, I, I⟩, ⟨I, I⟩, I⟩, ⟨I, I⟩, (by assumption)⟩, I, ⟨I, I, I, I, I, I, I, I, I, I, I, I, I⟩, I⟩, ?_⟩
    refine W.sq ?_
    refine g 3 4 [] ?_
    conv => whnf
    refine ⟨⟨I, I⟩, ?_⟩
    refine W.blk ?_
    refine W.lp (fun s (n : Nat) => ⟨[(0, s.s 0), (1, s.s 1), (2, s.s 2), (6, s.s 6), (7, s.s 7), (8, .i (n + 1)), (10, s.s 10)], [(6, [s.c 6 0, s.c 6 1, s.c 6 2, s.c 6 3, s.c 6 4, s.c 6 5, s.c 6 6, s.c 6 7, s.c 6 8, s.c 6 9, s.c 6 10, s.c 6 11, s.c 6 12, s.c 6 13, s.c 6 14, s.c 6 15, s.c 6 16]), (7, [.own taskK (p.tasks.map taskT), .t (.s key), .t (.i (riseB (downB w 0 []) p).workers), .t (.b (riseB (downB w 0 []) p).up), .t (.i (riseB (downB w 0 []) p).now), .t (.i (riseB (downB w 0 []) p).since), .t (.i (riseB (downB w 0 []) p).epoch), .t (.i (riseB (downB w 0 []) p).given), .own [false] ((riseB (downB w 0 []) p).log.safe.map strT), .own [false] ((riseB (downB w 0 []) p).log.loose.map strT), .own [false] ((riseB (downB w 0 []) p).results.map strT), .own jobK ((riseB (downB w 0 []) p).jobs.map jobT), .own seatK ((riseB (downB w 0 []) p).seats.map seatT), .own owedK ((riseB (downB w 0 []) p).owed.map owedT), .own workerK ((crew n).map workerT), .own pkd [], .t (.s emp)])], []⟩) (fun (n : Nat) => n ≤ w.toNat) (fun (n : Nat) => w.toNat - n) (0) [some 6, some 7] [] ⟨rfl, ⟨⟨_, rfl, _, _, rfl, rfl, rfl⟩, rfl, rfl, rfl, rfl, rfl, rfl, I⟩, ⟨⟨rfl, ⟨rfl, ⟨rfl, ⟨rfl, ⟨rfl, ⟨rfl, ⟨rfl, ⟨rfl, ⟨rfl, ⟨rfl, ⟨rfl, ⟨rfl, ⟨rfl, ⟨rfl, ⟨rfl, ⟨rfl, ⟨rfl, ⟨rfl, I⟩⟩⟩⟩⟩⟩⟩⟩⟩⟩⟩⟩⟩⟩⟩⟩⟩⟩, ⟨⟨rfl, ⟨rfl, ⟨rfl, ⟨rfl, ⟨rfl, ⟨rfl, ⟨rfl, ⟨rfl, ⟨rfl, ⟨rfl, ⟨rfl, ⟨rfl, ⟨rfl, ⟨rfl, ⟨rfl, ⟨rfl, ⟨rfl, ⟨rfl, I⟩⟩⟩⟩⟩⟩⟩⟩⟩⟩⟩⟩⟩⟩⟩⟩⟩⟩, I⟩⟩, I⟩ (by omega) ?_
    intro n hn
    have e := crew_stepm n
    have hcl := crew_len n
    conv => whnf
    refine W.sq ?_
    refine g 32 34 [] ?_
    conv => whnf
    refine ⟨⟨I, I, I, I⟩, ?_⟩
    refine W.cn ?_
    conv => whnf
    refine ⟨fun h4 => ?_, fun h4 => ?_⟩
    replace h4 := dt h4
    refine W.skip ?_
    refine W.sq ?_
    refine W.blk ?_
    refine rg [] ?_
    conv => whnf
    refine ⟨⟨I, I, I, I, ⟨⟨I, I, I, I, I, I, I, I, I, I, I, I⟩, I⟩, ⟨I, I, (by simp only [List.length_map, List.length_append, List.length_set, List.length_replicate, List.length_cons, List.length_nil, List.length_take, List.length_drop, fill_len, fillI_len, List.length_range, bytesT_len]; omega)⟩, I, ⟨I, I⟩, I⟩, ?_⟩
    refine rg [.i ((↑n : Int) + (1 : Int) + (1 : Int))] ?_
    conv => whnf
    refine ⟨⟨I, w64 (by omega) (by omega), I, I⟩, ?_⟩
    rotate_left 1
    replace h4 := df h4
    refine W.exit ?_
    refine g 7 45 [] ?_
    conv => whnf
    refine ⟨⟨I, ⟨I, I, I, I, I, I, I, I, I, I, I, I, I, I, I, I, I, I⟩, I⟩, ?_⟩
    refine W.ret ?_
    refine EndsW.rt ?_
    conv => whnf
    refine ⟨⟨I, I, I, I, I, I, I, I, I, I, I, I, I, I, I, I, I, I, I⟩, ?_, rfl⟩
    rotate_left 1
    · refine ⟨n + 1, [some 6, some 7], [], ⟨rfl, ⟨⟨_, rfl, _, _, rfl, rfl, rfl⟩, rfl, rfl, rfl, rfl, rfl, rfl, I⟩, ⟨⟨rfl, ⟨rfl, ⟨rfl, ⟨rfl, ⟨rfl, ⟨rfl, ⟨rfl, ⟨rfl, ⟨rfl, ⟨rfl, ⟨rfl, ⟨rfl, ⟨rfl, ⟨rfl, ⟨rfl, ⟨rfl, ⟨rfl, ⟨rfl, I⟩⟩⟩⟩⟩⟩⟩⟩⟩⟩⟩⟩⟩⟩⟩⟩⟩⟩, ⟨⟨rfl, ⟨rfl, ⟨rfl, ⟨rfl, ⟨rfl, ⟨rfl, ⟨rfl, ⟨rfl, ⟨rfl, ⟨rfl, ⟨rfl, ⟨rfl, ⟨rfl, ⟨rfl, ⟨rfl, ⟨(congrArg (V.own _) (e)), ⟨rfl, ⟨rfl, I⟩⟩⟩⟩⟩⟩⟩⟩⟩⟩⟩⟩⟩⟩⟩⟩⟩⟩, I⟩⟩, I⟩, ?_, ?_⟩
      rotate_left 1
      (dsimp only; omega)
      dsimp only
      omega
    · obtain rfl : n = w.toNat := by omega
      rfl
  · rw [new_no h]
    by_cases h1 : checkPlan p.tasks = 0
    · by_cases h2 : 1 ≤ w ∧ w ≤ 8
      · have h3 : ¬ key.size ≤ 30 := fun q => h ⟨h1, h2, q⟩
        refine i_spec_NewWorld ?_
        conv => whnf
        refine g 0 0 [] ?_
        conv => whnf
        refine ⟨⟨⟨I, I⟩, I, I⟩, ?_⟩
        refine W.sq ?_
        refine g 11 21 [.call (V.i (checkPlan (Plan.tasks p))) ([[]]), .b (false), .b (false), .call (V.b (decide ((1 : Int) ≤ w ∧ w ≤ (8 : Int)))) ([[], [], []]), .b (false), .b (false), .b (false), .b (false), .b (false), .b (false)] ?_
        conv => whnf
        refine ⟨⟨I, ⟨⟨I, I⟩, I, ⟨⟨I, I⟩, I⟩, ⟨I, I⟩, (by assumption)⟩, I, I, ⟨notF (by omega), I⟩, ⟨notF (by omega), ⟨I, I, I, I⟩, I, ⟨⟨I, I⟩, ⟨I, I⟩, ⟨I, I⟩, I⟩, ⟨I, I⟩, Go.K.c_spec_l2In _ _ _⟩, ⟨notF (by omega), I⟩, notF (by omega), I, ⟨notF (by omega), I⟩, ⟨notF (by omega), I⟩, ⟨notF (by omega), I⟩, notF (by omega), I⟩, ?_⟩
        refine W.cn ?_
        conv => whnf
        refine ⟨fun _ => ?_, noF (decide_eq_true (by omega))⟩
        refine g 21 23 [] ?_
        conv => whnf
        refine ⟨⟨I, ⟨I, I, I, I, I, I, I, I, I, I, I, I, I, I, I, I, I, I⟩, I⟩, ?_⟩
        refine W.ret ?_
        refine EndsW.rt ?_
        conv => whnf
        refine ⟨⟨I, I, I, I, I, I, I, I, I, I, I, I, I, I, I, I, I, I, I⟩, ?_, rfl⟩
        rfl
      · refine i_spec_NewWorld ?_
        conv => whnf
        refine g 0 0 [] ?_
        conv => whnf
        refine ⟨⟨⟨I, I⟩, I, I⟩, ?_⟩
        refine W.sq ?_
        refine g 11 21 [.call (V.i (checkPlan (Plan.tasks p))) ([[]]), .b (false), .b (false), .call (V.b (decide ((1 : Int) ≤ w ∧ w ≤ (8 : Int)))) ([[], [], []]), .b (false), .b (false), .b (true), .b (true), .b (true), .b (true)] ?_
        conv => whnf
        refine ⟨⟨I, ⟨⟨I, I⟩, I, ⟨⟨I, I⟩, I⟩, ⟨I, I⟩, (by assumption)⟩, I, I, ⟨notF (by omega), I⟩, ⟨notF (by omega), ⟨I, I, I, I⟩, I, ⟨⟨I, I⟩, ⟨I, I⟩, ⟨I, I⟩, I⟩, ⟨I, I⟩, Go.K.c_spec_l2In _ _ _⟩, ⟨notF (by omega), I⟩, notF (by omega), I, notT (by omega), notT (by omega), notT (by omega), notT (by omega), I⟩, ?_⟩
        refine W.cn ?_
        conv => whnf
        refine ⟨fun _ => ?_, noF (rfl)⟩
        refine g 21 23 [] ?_
        conv => whnf
        refine ⟨⟨I, ⟨I, I, I, I, I, I, I, I, I, I, I, I, I, I, I, I, I, I⟩, I⟩, ?_⟩
        refine W.ret ?_
        refine EndsW.rt ?_
        conv => whnf
        refine ⟨⟨I, I, I, I, I, I, I, I, I, I, I, I, I, I, I, I, I, I, I⟩, ?_, rfl⟩
        rfl
    · refine i_spec_NewWorld ?_
      conv => whnf
      refine g 0 0 [] ?_
      conv => whnf
      refine ⟨⟨⟨I, I⟩, I, I⟩, ?_⟩
      refine W.sq ?_
      refine g 11 21 [.call (V.i (checkPlan (Plan.tasks p))) ([[]]), .b (true), .b (true), .b (true), .b (true), .b (true), .b (true), .b (true), .b (true)] ?_
      conv => whnf
      refine ⟨⟨I, ⟨⟨I, I⟩, I, ⟨⟨I, I⟩, I⟩, ⟨I, I⟩, (by assumption)⟩, I, I, notT (by omega), notT (by omega), notT (by omega), notT (by omega), I, rfl, rfl, rfl, rfl, I⟩, ?_⟩
      refine W.cn ?_
      conv => whnf
      refine ⟨fun _ => ?_, noF (rfl)⟩
      refine g 21 23 [] ?_
      conv => whnf
      refine ⟨⟨I, ⟨I, I, I, I, I, I, I, I, I, I, I, I, I, I, I, I, I, I⟩, I⟩, ?_⟩
      refine W.ret ?_
      refine EndsW.rt ?_
      conv => whnf
      refine ⟨⟨I, I, I, I, I, I, I, I, I, I, I, I, I, I, I, I, I, I, I⟩, ?_, rfl⟩
      rfl
end Go.K

end

section
set_option linter.unusedVariables false
set_option linter.unusedSimpArgs false
set_option maxHeartbeats 8000000
set_option maxRecDepth 20000
open Go Go.Tm Go.Proofs
namespace Go.K
structure WorkOk (i : Nat) (x : Worker) : Prop where
  ok : workerOk x
  num : x.number = (i : Int) + 1
def crewOk (ws : List Worker) (n : Nat) : Prop := ∀ (m : Nat) (x : Worker), m < n → ws[m]? = some x → WorkOk m x
structure ParOk (x : Parcel) : Prop where
  to : 0 ≤ x.kind ∧ x.kind ≤ 8
  sent : x.frm.size ≤ 500
  bytes : x.text.size ≤ 500
structure WorldOk (w : World) : Prop where
  plan : checkPlan w.plan.tasks = 0
  key : w.key.size ≤ 30
  wl : 1 ≤ w.workers.length ∧ w.workers.length ≤ 8
  fl : w.flight.length ≤ 2000
  crew : crewOk w.workers w.workers.length
  par : ∀ x ∈ w.flight, ParOk x
  boss : BossOk w.boss w.plan
  same : w.boss.workers = w.workers.length
noncomputable instance (w : World) : Decidable (WorldOk w) := Classical.propDecidable _
structure WorldLim (w : World) : Prop where
  plan : planWf w.plan
  boss : BossLim w.boss
  key : w.key.size ≤ 9223372036854775807
  wl : w.workers.length ≤ 1048576
  wi : ∀ x ∈ w.workers, x.inputs.length ≤ 1048576
  fl : w.flight.length ≤ 1048576
  fs : ∀ x ∈ w.flight, x.frm.size ≤ 9223372036854775807 ∧ x.text.size ≤ 9223372036854775807
end Go.K

end

section
set_option linter.unusedVariables false
set_option linter.unusedSimpArgs false
set_option maxHeartbeats 8000000
set_option maxRecDepth 20000
open Go Go.Tm Go.Proofs
namespace Go.K
structure FinOk (w : World) : Prop where
  ok : WorldOk w
  up : w.boss.up = true
  all : ∀ r ∈ w.boss.results, ¬ r = emp
noncomputable instance (w : World) : Decidable (FinOk w) := Classical.propDecidable _
end Go.K

end

section
set_option linter.unusedVariables false
set_option linter.unusedSimpArgs false
set_option maxHeartbeats 8000000
set_option maxRecDepth 20000
open Go Go.Tm Go.Proofs
namespace Go.K
theorem sum_crewC : ∀ n : Nat, sumI workerC (crew n) = 10 * (n : Int)
  | 0 => rfl
  | n + 1 => by
    have e : sumI workerC [newWk n] = 10 := rfl
    have := sum_crewC n
    rw [← crew_step, sum_append]; omega
theorem crew_inp {n : Nat} {x : Worker} (h : x ∈ crew n) : x.inputs = [] := by
  obtain ⟨i, _, rfl⟩ := List.mem_map.1 h; rfl
theorem newW_bounds {p : Plan} {key : ByteArray} {w : Int} (hp : planLen p) (h1 : planTopC p ≤ 4194304) (h2 : 0 ≤ planTopC p) : worldLen (newW p key w) ∧ ((newW p key w).plan.tasks.length ≤ 9223372036854775806 ∧ (newW p key w).boss.log.safe.length ≤ 9223372036854775806 ∧ (newW p key w).boss.log.loose.length ≤ 9223372036854775806 ∧ (newW p key w).boss.results.length ≤ 9223372036854775806 ∧ (newW p key w).boss.jobs.length ≤ 9223372036854775806 ∧ (newW p key w).boss.seats.length ≤ 9223372036854775806 ∧ (newW p key w).boss.owed.length ≤ 9223372036854775806 ∧ (newW p key w).workers.length ≤ 9223372036854775806 ∧ (newW p key w).flight.length ≤ 9223372036854775806) ∧ 0 ≤ worldTopC (newW p key w) ∧ worldTopC (newW p key w) ≤ 200000000 := by
  have key2 : ∀ x : World, planLen x.plan → planTopC x.plan ≤ 4194304 → 0 ≤ planTopC x.plan → BossSmall x.boss → x.workers.length ≤ 8 → (∀ y ∈ x.workers, workerLen y) → 0 ≤ sumI workerC x.workers → sumI workerC x.workers ≤ 80 → x.flight = [] → worldLen x ∧ (x.plan.tasks.length ≤ 9223372036854775806 ∧ x.boss.log.safe.length ≤ 9223372036854775806 ∧ x.boss.log.loose.length ≤ 9223372036854775806 ∧ x.boss.results.length ≤ 9223372036854775806 ∧ x.boss.jobs.length ≤ 9223372036854775806 ∧ x.boss.seats.length ≤ 9223372036854775806 ∧ x.boss.owed.length ≤ 9223372036854775806 ∧ x.workers.length ≤ 9223372036854775806 ∧ x.flight.length ≤ 9223372036854775806) ∧ 0 ≤ worldTopC x ∧ worldTopC x ≤ 200000000 := by
    intro x a1 a2 a3 a4 a5 a6 a7 a8 a9
    obtain ⟨⟨c1, c2, c3, c4, c5, c6⟩, _, b3, b4⟩ := small_boss a4
    have e : worldTopC x = planTopC x.plan + bossTopC x.boss + sumI workerC x.workers + sumI parcelC x.flight := rfl
    rw [a9, show sumI parcelC [] = 0 from rfl] at e
    have hf : x.flight.length ≤ 9223372036854775806 := by rw [a9]; exact Nat.zero_le _
    exact ⟨⟨a1.1, a1.2, c1, c2, c3, c4, c5, c6, by omega, a6, hf⟩, ⟨a1.1, c1, c2, c3, c4, c5, c6, by omega, hf⟩, by omega, by omega⟩
  by_cases h : NewOk p key w
  · rw [new_ok h]
    obtain ⟨g1, g2, g3⟩ := h
    refine key2 _ hp h1 h2 ?_ ?_ ?_ ?_ ?_ rfl
    · have h3 := (chk_inv g1).1
      have h4 := replayP_len p []
      show BossSmall (riseB (downB w 0 []) p)
      unfold riseB; split
      · refine ⟨?_, Nat.zero_le _, ?_, ?_, ?_, Nat.zero_le _⟩
        · simp only [upB, List.length_append, List.length_singleton, List.length_nil]; omega
        · simp only [upB]; omega
        · simp only [upB, List.length_replicate]; omega
        · simp only [upB, List.length_replicate]; omega
      · exact ⟨Nat.zero_le _, Nat.zero_le _, Nat.zero_le _, Nat.zero_le _, Nat.zero_le _, Nat.zero_le _⟩
    · show (crew _).length ≤ 8; rw [crew_len]; omega
    · intro y hy
      show y.inputs.length ≤ _
      rw [crew_inp hy]; exact Nat.zero_le _
    · show 0 ≤ sumI workerC (crew _); rw [sum_crewC]; omega
    · show sumI workerC (crew _) ≤ 80; rw [sum_crewC]; omega
  · rw [new_no h]
    refine key2 _ ⟨Nat.zero_le _, fun y hy => by cases hy⟩ (by decide) (by decide) small_no (Nat.zero_le _) (fun y hy => by cases hy) (by decide) (by decide) rfl
theorem l_FnExactNewWorld (p : Plan) (hp : planWf p) (key : ByteArray) (hk : key.size ≤ 9223372036854775807) (w : Int) : F n_laws_FnExactNewWorld [.val (planR p), .val (.s key), .val (.i w)] (.b true) [[], [], []] := by
  have c9 := c_laws_szPlan p 1048576 hp (by omega) (by omega)
  have hpn := planSz_nn p
  by_cases hk2 : key.size ≤ 1048576
  · by_cases hq2 : (1048576 : Int) - planSz p < 0
    · rw [if_pos hq2] at c9
      refine i_laws_FnExactNewWorld ?_
      conv => whnf
      refine g 0 1 [] ?_
      conv => whnf
      refine ⟨⟨⟨I, I⟩, I, I⟩, ?_⟩
      refine W.sq ?_
      refine g 15 17 [] ?_
      conv => whnf
      refine ⟨⟨I, I, I, I⟩, ?_⟩
      refine W.cn ?_
      conv => whnf
      refine ⟨noT (decide_eq_false (by omega)), fun _ => ?_⟩
      refine W.skip ?_
      refine g 17 18 [] ?_
      conv => whnf
      refine ⟨⟨I, I⟩, ?_⟩
      refine g 18 21 [.call (V.i (-1 : Int)) ([[], []])] ?_
      conv => whnf
      refine ⟨⟨I, I, ⟨⟨I, I, I⟩, I, ⟨⟨I, I⟩, ⟨I, I⟩, I⟩, ⟨I, I⟩, (by assumption)⟩, I, I⟩, ?_⟩
      refine W.sq ?_
      refine g 7 22 [] ?_
      conv => whnf
      refine ⟨⟨I, I, I⟩, ?_⟩
      refine W.cn ?_
      conv => whnf
      refine ⟨fun _ => ?_, noF (rfl)⟩
      refine g 22 23 [] ?_
      conv => whnf
      refine ⟨⟨I, I⟩, ?_⟩
      refine W.ret ?_
      refine EndsW.rt ?_
      conv => whnf
      refine ⟨⟨I, I, I⟩, ?_, rfl⟩
      rfl
    · rw [if_neg hq2] at c9
      have hl2 := planLen_of (a := p) (by omega)
      obtain ⟨hl3, hl4⟩ := planC_le (p := p) (by omega)
      have hl6 := planTopC_nn p
      obtain ⟨r1, r2, r3, r4⟩ := newW_bounds (p := p) (key := key) (w := w) hl2 hl4 hl6
      refine i_laws_FnExactNewWorld ?_
      conv => whnf
      refine g 0 1 [] ?_
      conv => whnf
      refine ⟨⟨⟨I, I⟩, I, I⟩, ?_⟩
      refine W.sq ?_
      refine g 15 17 [] ?_
      conv => whnf
      refine ⟨⟨I, I, I, I⟩, ?_⟩
      refine W.cn ?_
      conv => whnf
      refine ⟨noT (decide_eq_false (by omega)), fun _ => ?_⟩
      refine W.skip ?_
      refine g 17 18 [] ?_
      conv => whnf
      refine ⟨⟨I, I⟩, ?_⟩
      refine g 18 21 [.call (V.i ((1048576 : Int) - planSz p)) ([[], []])] ?_
      conv => whnf
      refine ⟨⟨I, I, ⟨⟨I, I, I⟩, I, ⟨⟨I, I⟩, ⟨I, I⟩, I⟩, ⟨I, I⟩, (by assumption)⟩, I, I⟩, ?_⟩
      refine W.sq ?_
      refine g 7 22 [] ?_
      conv => whnf
      refine ⟨⟨I, I, I⟩, ?_⟩
      refine W.cn ?_
      conv => whnf
      refine ⟨noT (decide_eq_false (by omega)), fun _ => ?_⟩
      refine W.skip ?_
      refine g 22 28 [.call (planO p) ([[]]), .call (worldO (newW p key w)) ([[], [], []])] ?_
      conv => whnf
      refine ⟨⟨I, ⟨⟨I, I⟩, I, ⟨⟨I, I⟩, I⟩, ⟨I, I⟩, Go.K.c_laws_toPlan _ (by omega)⟩, I, I, ⟨⟨I, I, I, I⟩, I, ⟨⟨I, I⟩, ⟨I, I⟩, ⟨I, I⟩, I⟩, ⟨I, I⟩, Go.K.c_spec_NewWorld _ _ _ (by omega) (by omega)⟩, I, ⟨I, I, I, I, I, I, I, I, I, I, I, I, I, I, I, I, I, I⟩, I⟩, ?_⟩
      refine g 28 30 [.call (planO p) ([[]])] ?_
      conv => whnf
      refine ⟨⟨I, ⟨⟨I, I⟩, I, ⟨⟨I, I⟩, I⟩, ⟨I, I⟩, Go.K.c_laws_toPlan _ (by omega)⟩, I, ⟨I, I⟩, I⟩, ?_⟩
      refine g 30 34 [.call (worldO (newW p key w)) ([[], [], []])] ?_
      conv => whnf
      refine ⟨⟨I, I, I, ⟨⟨I, I, I, I⟩, I, ⟨⟨I, I⟩, ⟨I, I⟩, ⟨I, I⟩, I⟩, ⟨I, I⟩, Go.K.c_impl_NewWorld _ _ _ (by omega) (by omega)⟩, I, ⟨I, I, I, I, I, I, I, I, I, I, I, I, I, I, I, I, I, I⟩, I⟩, ?_⟩
      refine W.sq ?_
      refine g 34 37 [.call (V.b (decide (newW p key w = newW p key w))) ([[], []])] ?_
      conv => whnf
      refine ⟨⟨I, I, ⟨⟨I, I, I⟩, I, ⟨⟨I, I, I, I, I, I, I, I, I, I, I, I, I, I, I, I, I, I⟩, ⟨I, I, I, I, I, I, I, I, I, I, I, I, I, I, I, I, I, I⟩, I⟩, ⟨I, I⟩, Go.K.c_laws_eqWorld _ _ (by omega)⟩, I, I⟩, ?_⟩
      refine W.cn ?_
      conv => whnf
      refine ⟨noT (notF rfl), fun _ => ?_⟩
      refine W.skip ?_
      refine W.sq ?_
      refine gd 37 42 [[], [], [.call (planO p) ([[]])], [.call (V.b (decide (p = p))) ([[], []])], []] ?_
      conv => whnf
      refine ⟨⟨I, I, ⟨⟨I, I⟩, I, ⟨⟨I, I⟩, I⟩, ⟨I, I⟩, Go.K.c_laws_toPlan _ (by omega)⟩, ⟨⟨I, I, I⟩, I, ⟨⟨I, I⟩, ⟨I, I⟩, I⟩, ⟨I, I⟩, Go.K.c_laws_eqPlan _ _ (by omega)⟩, I, I⟩, by kernel_rfl, ?_⟩
      refine W.cn ?_
      conv => whnf
      refine ⟨noT (notF rfl), fun _ => ?_⟩
      refine W.skip ?_
      refine g 42 43 [] ?_
      conv => whnf
      refine ⟨⟨I, I⟩, ?_⟩
      refine g 43 46 [.call (V.i ((1 : Int) + planTopC p)) ([cellsOf (planO (planTop (1 : Int) p)), []])] ?_
      conv => whnf
      refine ⟨⟨I, I, ⟨⟨⟨I, I⟩, I, I⟩, I, ⟨I, ⟨I, I⟩, I⟩, ⟨I, I⟩, Go.K.c_laws_markPlan _ _ (by omega) (by omega) (by omega)⟩, I, I⟩, ?_⟩
      refine W.sq ?_
      refine g 11 53 [.b (false), .b (false), .b (false), .call (V.b (decide (newW p key w = newW p key w))) ([[], []]), .b (false), .b (false)] ?_
      conv => whnf
      refine ⟨⟨I, I, I, ⟨decide_eq_false (by omega), I⟩, ⟨decide_eq_false (by omega), I⟩, ⟨decide_eq_false (by omega), ⟨I, I, I⟩, I, ⟨⟨I, I, I, I, I, I, I, I, I, I, I, I, I, I, I, I, I, I⟩, ⟨I, I, I, I, I, I, I, I, I, I, I, I, I, I, I, I, I, I⟩, I⟩, ⟨I, I⟩, Go.K.c_laws_eqWorld _ _ (by omega)⟩, ⟨decide_eq_false (by omega), I⟩, decide_eq_false (by omega), I⟩, ?_⟩
      refine W.cn ?_
      conv => whnf
      refine ⟨noT (by assumption), fun _ => ?_⟩
      refine W.skip ?_
      refine g 9 10 [] ?_
      conv => whnf
      refine ⟨⟨I, I⟩, ?_⟩
      refine g 53 57 [.call (V.i ((1 : Int) + worldTopC (newW p key w))) ([cellsOf (worldO (worldTop (1 : Int) (newW p key w))), []])] ?_
      conv => whnf
      refine ⟨⟨I, I, ⟨⟨⟨I, I, I, I, I, I, I, I, I, I, I, I, I, I, I, I, I, I⟩, I, I⟩, I, ⟨I, ⟨I, I⟩, I⟩, ⟨I, I⟩, Go.K.c_laws_markWorld _ _ (by omega) (by omega) (by omega)⟩, I, I⟩, ?_⟩
      refine g 0 0 [] ?_
      conv => whnf
      refine ⟨⟨I, I⟩, ?_⟩
      refine g 57 60 [.call (V.i ((1 : Int) + worldTopC (newW p key w))) ([[], []])] ?_
      conv => whnf
      refine ⟨⟨I, I, ⟨⟨I, I, I⟩, I, ⟨⟨I, I, I, I, I, I, I, I, I, I, I, I, I, I, I, I, I, I⟩, ⟨I, I⟩, I⟩, ⟨I, I⟩, Go.K.c_laws_heldWorld _ _ (by omega) (by omega) (by omega)⟩, I, I⟩, ?_⟩
      refine W.sq ?_
      refine g 60 61 [] ?_
      conv => whnf
      refine ⟨⟨I, I, I⟩, ?_⟩
      refine W.cn ?_
      conv => whnf
      refine ⟨noT (decide_eq_false (by omega)), fun _ => ?_⟩
      refine W.skip ?_
      refine W.sq ?_
      refine g 61 64 [] ?_
      conv => whnf
      refine ⟨⟨I, I, I, I⟩, ?_⟩
      refine W.cn ?_
      conv => whnf
      refine ⟨noT (notF (by omega)), fun _ => ?_⟩
      refine W.skip ?_
      refine g 64 70 [.call (planO p) ([[]]), .call (worldO (newW p key w)) ([[], [], []])] ?_
      conv => whnf
      refine ⟨⟨I, ⟨⟨I, I⟩, I, ⟨⟨I, I⟩, I⟩, ⟨I, I⟩, Go.K.c_laws_toPlan _ (by omega)⟩, I, I, ⟨⟨I, I, I, I⟩, I, ⟨⟨I, I⟩, ⟨I, I⟩, ⟨I, I⟩, I⟩, ⟨I, I⟩, Go.K.c_impl_NewWorld _ _ _ (by omega) (by omega)⟩, I, ⟨I, I, I, I, I, I, I, I, I, I, I, I, I, I, I, I, I, I⟩, I⟩, ?_⟩
      refine W.sq ?_
      refine g 14 73 [.call (V.b (decide (newW p key w = newW p key w))) ([[], []])] ?_
      conv => whnf
      refine ⟨⟨I, I, ⟨⟨I, I, I⟩, I, ⟨⟨I, I, I, I, I, I, I, I, I, I, I, I, I, I, I, I, I, I⟩, ⟨I, I, I, I, I, I, I, I, I, I, I, I, I, I, I, I, I, I⟩, I⟩, ⟨I, I⟩, Go.K.c_laws_eqWorld _ _ (by omega)⟩, I, I⟩, ?_⟩
      refine W.cn ?_
      conv => whnf
      refine ⟨noT (by assumption), fun _ => ?_⟩
      refine W.skip ?_
      refine g 1 4 [] ?_
      conv => whnf
      refine ⟨⟨I, I⟩, ?_⟩
      refine g 73 77 [.call (V.i ((1 : Int) + worldTopC (newW p key w))) ([[], []])] ?_
      conv => whnf
      refine ⟨⟨I, I, ⟨⟨I, I, I⟩, I, ⟨⟨I, I, I, I, I, I, I, I, I, I, I, I, I, I, I, I, I, I⟩, ⟨I, I⟩, I⟩, ⟨I, I⟩, Go.K.c_laws_heldWorld _ _ (by omega) (by omega) (by omega)⟩, I, I⟩, ?_⟩
      refine W.sq ?_
      refine g 8 11 [] ?_
      conv => whnf
      refine ⟨⟨I, I, I⟩, ?_⟩
      refine W.cn ?_
      conv => whnf
      refine ⟨noT (by assumption), fun _ => ?_⟩
      refine W.skip ?_
      refine W.sq ?_
      refine g 12 81 [] ?_
      conv => whnf
      refine ⟨⟨I, I, I, I⟩, ?_⟩
      refine W.cn ?_
      conv => whnf
      refine ⟨noT (by assumption), fun _ => ?_⟩
      refine W.skip ?_
      refine g 81 82 [] ?_
      conv => whnf
      refine ⟨⟨I, I⟩, ?_⟩
      refine W.ret ?_
      refine EndsW.rt ?_
      conv => whnf
      refine ⟨⟨I, I, I⟩, ?_, rfl⟩
      rfl
  · refine i_laws_FnExactNewWorld ?_
    conv => whnf
    refine g 0 1 [] ?_
    conv => whnf
    refine ⟨⟨⟨I, I⟩, I, I⟩, ?_⟩
    refine W.sq ?_
    refine g 15 17 [] ?_
    conv => whnf
    refine ⟨⟨I, I, I, I⟩, ?_⟩
    refine W.cn ?_
    conv => whnf
    refine ⟨fun _ => ?_, noF (decide_eq_true (by omega))⟩
    refine g 17 18 [] ?_
    conv => whnf
    refine ⟨⟨I, I⟩, ?_⟩
    refine W.ret ?_
    refine EndsW.rt ?_
    conv => whnf
    refine ⟨⟨I, I, I⟩, ?_, rfl⟩
    rfl
end Go.K

end

/- Contracts of functions of the program: what each call answers. -/
import Derived.Test.YtcccigapbalidaaR
set_option linter.unusedVariables false
set_option linter.unusedSimpArgs false
set_option maxHeartbeats 4000000
set_option maxRecDepth 20000
open Go Go.Tm Go.Proofs Classical
namespace Go.K
def namesTo (xs : List Task) (n : Nat) : Prop := ∀ (m : Nat) (t : Task), m < n → xs[m]? = some t → plainB t.name ∧ t.name ∉ (xs.take m).map Task.name
def namesOk (xs : List Task) : Prop := namesTo xs xs.length
def costsOk (xs : List Task) : Prop := ∀ t ∈ xs, 1 ≤ t.cost ∧ t.cost ≤ 20
def incr (last hi : Int) : List Int → Prop
  | [] => True
  | d :: ds => (last < d ∧ d < hi) ∧ incr d hi ds
def depOk (hi : Int) (d : List Int) : Prop := d.length ≤ 8 ∧ incr (-1) hi d
def depsTo (xs : List Task) (n : Nat) : Prop := ∀ (m : Nat) (t : Task), m < n → xs[m]? = some t → depOk m t.deps
def depsOk (xs : List Task) : Prop := depsTo xs xs.length
noncomputable def checkPlan (xs : List Task) : Int :=
  if ¬ (1 ≤ xs.length ∧ xs.length ≤ 40) then 1 else if ¬ namesOk xs then 2 else if ¬ costsOk xs then 3 else if ¬ depsOk xs then 4 else 0
theorem chk1 {xs : List Task} (h : ¬ (1 ≤ xs.length ∧ xs.length ≤ 40)) : checkPlan xs = 1 := by unfold checkPlan; rw [if_pos h]
theorem chk2 {xs : List Task} (h : 1 ≤ xs.length ∧ xs.length ≤ 40) (h2 : ¬ namesOk xs) : checkPlan xs = 2 := by unfold checkPlan; rw [if_neg (not_not_intro h), if_pos h2]
theorem chk3 {xs : List Task} (h : 1 ≤ xs.length ∧ xs.length ≤ 40) (h2 : namesOk xs) (h3 : ¬ costsOk xs) : checkPlan xs = 3 := by unfold checkPlan; rw [if_neg (not_not_intro h), if_neg (not_not_intro h2), if_pos h3]
theorem chk4 {xs : List Task} (h : 1 ≤ xs.length ∧ xs.length ≤ 40) (h2 : namesOk xs) (h3 : costsOk xs) (h4 : ¬ depsOk xs) : checkPlan xs = 4 := by unfold checkPlan; rw [if_neg (not_not_intro h), if_neg (not_not_intro h2), if_neg (not_not_intro h3), if_pos h4]
theorem chk0 {xs : List Task} (h : 1 ≤ xs.length ∧ xs.length ≤ 40) (h2 : namesOk xs) (h3 : costsOk xs) (h4 : depsOk xs) : checkPlan xs = 0 := by unfold checkPlan; rw [if_neg (not_not_intro h), if_neg (not_not_intro h2), if_neg (not_not_intro h3), if_neg (not_not_intro h4)]
theorem names_no {xs : List Task} {n : Nat} {t : Task} (ht : xs[n]? = some t) (h : ¬ (plainB t.name ∧ t.name ∉ (xs.take n).map Task.name)) : ¬ namesOk xs := fun e => h (e n t (List.getElem?_eq_some_iff.1 ht).1 ht)
theorem to_step {P : Nat → Task → Prop} {xs : List Task} {n : Nat} {t : Task} (h : ∀ (m : Nat) (t : Task), m < n → xs[m]? = some t → P m t) (ht : xs[n]? = some t) (hp : P n t) : ∀ (m : Nat) (t : Task), m < n + 1 → xs[m]? = some t → P m t := fun m d hm hd => by
  by_cases e : m = n
  · subst e; rw [ht] at hd; cases hd; exact hp
  · exact h m d (by omega) hd
theorem to_all {P : Nat → Task → Prop} {xs : List Task} {n : Nat} (h : ∀ (m : Nat) (t : Task), m < n → xs[m]? = some t → P m t) (hn : xs.length ≤ n) : ∀ (m : Nat) (t : Task), m < xs.length → xs[m]? = some t → P m t := fun m t hm ht => h m t (by omega) ht
theorem costs_no {xs : List Task} {n : Nat} {t : Task} (ht : xs[n]? = some t) (h : ¬ (1 ≤ t.cost ∧ t.cost ≤ 20)) : ¬ costsOk xs := fun e => h (e t (List.mem_of_getElem? ht))
theorem deps_no {xs : List Task} {n : Nat} {t : Task} (ht : xs[n]? = some t) (h : ¬ depOk n t.deps) : ¬ depsOk xs := fun e => h (e n t (List.getElem?_eq_some_iff.1 ht).1 ht)
/-- Where a list of numbers stands: what is left must go on from the last one. -/
def incrAt (hi : Int) (d : List Int) (k : Nat) (last : Int) : Prop := incr (-1) hi d ↔ incr last hi (d.drop k)
theorem drop_at {α : Type} {d : List α} {k : Nat} {y : α} (h : d[k]? = some y) : d.drop k = y :: d.drop (k + 1) := by
  have hk := (List.getElem?_eq_some_iff.1 h)
  rw [List.drop_eq_getElem_cons hk.1, hk.2]
theorem incr_step {hi : Int} {d : List Int} {k : Nat} {last y : Int} (h : incrAt hi d k last) (hy : d[k]? = some y) (h1 : last < y ∧ y < hi) : incrAt hi d (k + 1) y := by
  unfold incrAt at *; rw [h, drop_at hy, incr]; exact ⟨fun e => e.2, fun e => ⟨h1, e⟩⟩
theorem incr_no {hi : Int} {d : List Int} {k : Nat} {last y : Int} (h : incrAt hi d k last) (hy : d[k]? = some y) (h1 : ¬ (last < y ∧ y < hi)) : ¬ incr (-1) hi d := by
  unfold incrAt at *; rw [h, drop_at hy, incr]; exact fun e => h1 e.1
theorem incr_end {hi : Int} {d : List Int} {k : Nat} {last : Int} (h : incrAt hi d k last) (hk : d.length ≤ k) : incr (-1) hi d := by
  unfold incrAt at *; rw [h, List.drop_eq_nil_of_le hk]; trivial
theorem c_impl_CheckPlan (p : Plan) (hp : planWf p) : F n_impl_CheckPlan [.val (planR p)] (.i (checkPlan p.tasks)) [[]] := by
  have hl : p.tasks.length ≤ 9223372036854775807 := hp.1
  have hw : ∀ y ∈ p.tasks, y.name.size ≤ 9223372036854775807 ∧ y.deps.length ≤ 9223372036854775807 := hp.2
  refine i_impl_CheckPlan ?_
  conv => whnf
  refine g 0 1 [] ?_
  conv => whnf
  refine ⟨⟨⟨I, I⟩, I, I⟩, ?_⟩
  refine g 14 17 [] ?_
  conv => whnf
  refine ⟨⟨I, I, I, I, I⟩, ?_⟩
  refine W.sq ?_
  by_cases h1 : (↑(List.length (List.map taskT (Plan.tasks p))) : Int) = (0 : Int)
  simp only [List.length_map] at h1
  refine g 17 22 [.b (true), .b (true), .b (true)] ?_
  conv => whnf
  refine ⟨⟨I, I, I, (by simp [*]), (by simp [*]), (by simp [*]), I⟩, ?_⟩
  refine W.cn ?_
  conv => whnf
  refine ⟨fun _ => ?_, noF (rfl)⟩
  refine g 22 23 [] ?_
  conv => whnf
  refine ⟨⟨I, I⟩, ?_⟩
  refine W.ret ?_
  refine EndsW.rt ?_
  conv => whnf
  refine ⟨⟨I, I, I⟩, ?_, rfl⟩
  rotate_left 1
  simp only [List.length_map] at h1
  refine g 17 22 [.b (false), .b (false), .b (false)] ?_
  conv => whnf
  refine ⟨⟨I, I, I, ⟨(by simp_all), I⟩, ⟨(by simp_all), I⟩, (by simp_all), I⟩, ?_⟩
  refine W.cn ?_
  conv => whnf
  refine ⟨fun h2 => ?_, fun h2 => ?_⟩
  replace h2 := dt h2
  simp only [List.length_map] at h2
  refine g 22 23 [] ?_
  conv => whnf
  refine ⟨⟨I, I⟩, ?_⟩
  refine W.ret ?_
  refine EndsW.rt ?_
  conv => whnf
  refine ⟨⟨I, I, I⟩, ?_, rfl⟩
  rotate_left 1
  replace h2 := df h2
  simp only [List.length_map] at h2
  refine W.skip ?_
  refine g 22 24 [] ?_
  conv => whnf
  refine ⟨⟨I, I, I⟩, ?_⟩
  refine W.sq ?_
  refine g 24 25 [] ?_
  conv => whnf
  refine ⟨⟨I, I, I, I, I⟩, ?_⟩
  refine W.blk ?_
  rotate_left 1
  · exact vi (chk1 (by omega)).symm
  · exact vi (chk1 (by omega)).symm
  have hlen : 1 ≤ p.tasks.length ∧ p.tasks.length ≤ 40 := by omega
  refine W.lp (fun s (n : Nat) => ⟨[(1, s.s 1), (3, s.s 3), (4, s.s 4), (25, s.s 25), (26, s.s 26), (27, .i n)], [(1, [s.c 1 0])], [(23, (p.tasks.take n).map fun t => Value.string t.name)]⟩) (fun (n : Nat) => n ≤ p.tasks.length ∧ namesTo p.tasks n) (fun (n : Nat) => p.tasks.length - n) (0) [some 1] [23] ⟨rfl, ⟨rfl, rfl, rfl, rfl, rfl, rfl, I⟩, ⟨⟨rfl, ⟨rfl, I⟩⟩, I⟩, ⟨rfl, I⟩⟩ ?_ ?_
  · exact ⟨Nat.zero_le _, fun m t hm => by omega⟩
  rintro n ⟨hn, hc⟩
  conv => whnf
  refine g 0 0 [] ?_
  conv => whnf
  refine ⟨⟨I, I⟩, ?_⟩
  refine W.sq ?_
  refine W.cn ?_
  conv => whnf
  refine ⟨fun h3 => ?_, fun h3 => ?_⟩
  replace h3 := dt h3
  simp only [List.length_map] at h3
  refine W.skip ?_
  refine W.sq ?_
  refine W.blk ?_
  obtain ⟨y1, hy1⟩ := some_at (xs := Plan.tasks p) (n := n) (by omega)
  have hm1 := hw y1 (List.mem_of_getElem? hy1)
  refine g 28 31 [.x (taskT y1)] ?_
  conv => whnf
  refine ⟨⟨⟨(by omega), ixl (by assumption)⟩, I, I, ⟨I, I, I, I⟩, I⟩, ?_⟩
  refine W.sq ?_
  by_cases h4 : plainB (Task.name y1)
  refine g 31 40 [.call (V.b (decide (plainB (Task.name y1)))) ([[]]), .b (false), .b (false), .b (false), .b (false), .b (decide (Task.name y1 ∈ List.map Task.name (List.take n (Plan.tasks p)))), .b (false)] ?_
  conv => whnf
  refine ⟨⟨I, I, ⟨⟨I, I⟩, I, ⟨⟨I, I⟩, I⟩, ⟨I, I⟩, Go.K.c_impl_plain _ (by omega)⟩, I, I, ⟨notF (by omega), I⟩, ⟨notF (by omega), I⟩, ⟨notF (by omega), I⟩, ⟨notF (by omega), mem_strs, kin_strs⟩, notF (by omega), I⟩, ?_⟩
  refine W.cn ?_
  conv => whnf
  refine ⟨fun h5 => ?_, fun h5 => ?_⟩
  replace h5 := dt h5
  refine g 40 41 [] ?_
  conv => whnf
  refine ⟨⟨I, I⟩, ?_⟩
  refine W.ret ?_
  refine EndsW.rt ?_
  conv => whnf
  refine ⟨⟨I, I, I⟩, ?_, rfl⟩
  rotate_left 1
  replace h5 := df h5
  refine W.skip ?_
  refine rg [] ?_
  conv => whnf
  refine ⟨⟨I, I, I, kin_strs, I⟩, ?_⟩
  refine rg [.i ((↑n : Int) + (1 : Int))] ?_
  conv => whnf
  refine ⟨⟨w64 (by omega) (by omega), I, I⟩, ?_⟩
  rotate_left 1
  refine g 31 40 [.call (V.b (decide (plainB (Task.name y1)))) ([[]]), .b (true), .b (true), .b (true), .b (true), .b (true)] ?_
  conv => whnf
  refine ⟨⟨I, I, ⟨⟨I, I⟩, I, ⟨⟨I, I⟩, I⟩, ⟨I, I⟩, Go.K.c_impl_plain _ (by omega)⟩, I, I, notT (by omega), notT (by omega), notT (by omega), notT (by omega), notT (by omega), I⟩, ?_⟩
  refine W.cn ?_
  conv => whnf
  refine ⟨fun _ => ?_, noF (rfl)⟩
  refine g 40 41 [] ?_
  conv => whnf
  refine ⟨⟨I, I⟩, ?_⟩
  refine W.ret ?_
  refine EndsW.rt ?_
  conv => whnf
  refine ⟨⟨I, I, I⟩, ?_, rfl⟩
  rotate_left 1
  replace h3 := df h3
  simp only [List.length_map] at h3
  refine W.exit ?_
  refine W.sq ?_
  refine g 4 46 [] ?_
  conv => whnf
  refine ⟨⟨I, I, I, I, I⟩, ?_⟩
  refine W.blk ?_
  rotate_left 1
  · exact vi (chk2 hlen (names_no hy1 (by grind))).symm
  · refine ⟨n + 1, [some 1], [23], ⟨rfl, ⟨rfl, rfl, rfl, rfl, rfl, rfl, I⟩, ⟨⟨rfl, ⟨rfl, I⟩⟩, I⟩, ⟨(congrArg some (snoc_mapf (by assumption))), I⟩⟩, ?_, ?_⟩
    rotate_left 1
    (dsimp only; omega)
    dsimp only
    exact ⟨by omega, to_step hc hy1 (by grind)⟩
  · exact vi (chk2 hlen (names_no hy1 (by grind))).symm
  have hnames : namesOk p.tasks := to_all hc (by omega)
  refine W.lp (fun s (n : Nat) => ⟨[(1, s.s 1), (3, s.s 3), (46, s.s 46), (47, s.s 47), (48, .i n)], [(1, [s.c 1 0])], []⟩) (fun (n : Nat) => n ≤ p.tasks.length ∧ ∀ t ∈ p.tasks.take n, 1 ≤ t.cost ∧ t.cost ≤ 20) (fun (n : Nat) => p.tasks.length - n) (0) [some 1] [] ⟨rfl, ⟨rfl, rfl, rfl, rfl, rfl, I⟩, ⟨⟨rfl, ⟨rfl, I⟩⟩, I⟩, I⟩ (by simp) ?_
  rintro n2 ⟨hn2, hc2⟩
  conv => whnf
  refine g 0 0 [] ?_
  conv => whnf
  refine ⟨⟨I, I⟩, ?_⟩
  refine W.sq ?_
  refine W.cn ?_
  conv => whnf
  refine ⟨fun h4 => ?_, fun h4 => ?_⟩
  replace h4 := dt h4
  simp only [List.length_map] at h4
  refine W.skip ?_
  refine W.sq ?_
  refine W.blk ?_
  obtain ⟨y1, hy1⟩ := some_at (xs := Plan.tasks p) (n := n2) (by omega)
  have hm1 := hw y1 (List.mem_of_getElem? hy1)
  refine g 49 52 [.x (taskT y1)] ?_
  conv => whnf
  refine ⟨⟨⟨(by omega), ixl (by assumption)⟩, I, I, ⟨I, I, I, I⟩, I⟩, ?_⟩
  by_cases h5 : Task.cost y1 < (1 : Int)
  refine g 52 59 [.b (true), .b (true), .b (true), .b (true)] ?_
  conv => whnf
  refine ⟨⟨I, I, I, I, decide_eq_true (by omega), decide_eq_true (by omega), decide_eq_true (by omega), decide_eq_true (by omega), I⟩, ?_⟩
  refine W.cn ?_
  conv => whnf
  refine ⟨fun _ => ?_, noF (rfl)⟩
  refine g 8 9 [] ?_
  conv => whnf
  refine ⟨⟨I, I⟩, ?_⟩
  refine W.ret ?_
  refine EndsW.rt ?_
  conv => whnf
  refine ⟨⟨I, I, I⟩, ?_, rfl⟩
  rotate_left 1
  refine g 52 59 [.b (false), .b (false), .b (false), .b (false)] ?_
  conv => whnf
  refine ⟨⟨I, I, I, I, ⟨decide_eq_false (by omega), I⟩, ⟨decide_eq_false (by omega), I⟩, ⟨decide_eq_false (by omega), I⟩, decide_eq_false (by omega), I⟩, ?_⟩
  refine W.cn ?_
  conv => whnf
  refine ⟨fun h6 => ?_, fun h6 => ?_⟩
  replace h6 := dt h6
  refine g 8 9 [] ?_
  conv => whnf
  refine ⟨⟨I, I⟩, ?_⟩
  refine W.ret ?_
  refine EndsW.rt ?_
  conv => whnf
  refine ⟨⟨I, I, I⟩, ?_, rfl⟩
  rotate_left 1
  replace h6 := df h6
  refine W.skip ?_
  refine rg [.i ((↑n2 : Int) + (1 : Int))] ?_
  conv => whnf
  refine ⟨⟨w64 (by omega) (by omega), I, I⟩, ?_⟩
  rotate_left 1
  replace h4 := df h4
  simp only [List.length_map] at h4
  refine W.exit ?_
  refine W.sq ?_
  refine g 46 62 [] ?_
  conv => whnf
  refine ⟨⟨I, I, I, I, I⟩, ?_⟩
  refine W.blk ?_
  rotate_left 1
  · exact vi (chk3 hlen hnames (costs_no (by assumption) (by omega))).symm
  · exact vi (chk3 hlen hnames (costs_no (by assumption) (by omega))).symm
  · refine ⟨n2 + 1, [some 1], [], ⟨rfl, ⟨rfl, rfl, rfl, rfl, rfl, I⟩, ⟨⟨rfl, ⟨rfl, I⟩⟩, I⟩, I⟩, ?_, ?_⟩
    rotate_left 1
    (dsimp only; omega)
    dsimp only
    exact ⟨by omega, all_take hc2 (by assumption) (by omega)⟩
  have hcosts : costsOk p.tasks := all_done hc2 (by omega)
  refine W.lp (fun s (n : Nat) => ⟨[(3, s.s 3), (62, s.s 62), (63, s.s 63), (64, .i n)], [], []⟩) (fun (n : Nat) => n ≤ p.tasks.length ∧ depsTo p.tasks n) (fun (n : Nat) => p.tasks.length - n) (0) [] [] ⟨rfl, ⟨rfl, rfl, rfl, rfl, I⟩, I, I⟩ ?_ ?_
  · exact ⟨Nat.zero_le _, fun m t hm => by omega⟩
  rintro n3 ⟨hn3, hc3⟩
  conv => whnf
  refine g 0 0 [] ?_
  conv => whnf
  refine ⟨⟨I, I⟩, ?_⟩
  refine W.sq ?_
  refine W.cn ?_
  conv => whnf
  refine ⟨fun h5 => ?_, fun h5 => ?_⟩
  replace h5 := dt h5
  simp only [List.length_map] at h5
  refine W.skip ?_
  refine W.sq ?_
  refine W.blk ?_
  obtain ⟨y1, hy1⟩ := some_at (xs := Plan.tasks p) (n := n3) (by omega)
  have hm1 := hw y1 (List.mem_of_getElem? hy1)
  refine g 65 69 [.x (taskT y1)] ?_
  conv => whnf
  refine ⟨⟨I, ⟨(by omega), ixl (by assumption)⟩, I, I, I, ⟨I, I, I, I⟩, I⟩, ?_⟩
  refine W.sq ?_
  refine g 69 72 [] ?_
  conv => whnf
  refine ⟨⟨I, I, I, I, I⟩, ?_⟩
  refine W.cn ?_
  conv => whnf
  refine ⟨fun h6 => ?_, fun h6 => ?_⟩
  replace h6 := dt h6
  simp only [List.length_map] at h6
  refine g 72 73 [] ?_
  conv => whnf
  refine ⟨⟨I, I⟩, ?_⟩
  refine W.ret ?_
  refine EndsW.rt ?_
  conv => whnf
  refine ⟨⟨I, I, I⟩, ?_, rfl⟩
  rotate_left 1
  replace h6 := df h6
  simp only [List.length_map] at h6
  refine W.skip ?_
  refine g 72 73 [] ?_
  conv => whnf
  refine ⟨⟨I, I⟩, ?_⟩
  refine g 10 11 [] ?_
  conv => whnf
  refine ⟨⟨I, I, I, I, I⟩, ?_⟩
  refine W.blk ?_
  rotate_left 1
  replace h5 := df h5
  simp only [List.length_map] at h5
  refine W.exit ?_
  refine g 62 66 [] ?_
  conv => whnf
  refine ⟨⟨I, I⟩, ?_⟩
  refine W.ret ?_
  refine EndsW.rt ?_
  conv => whnf
  refine ⟨⟨I, I, I⟩, ?_, rfl⟩
  rotate_left 1
  · exact vi (chk4 hlen hnames hcosts (deps_no (by assumption) (fun e => by have := e.1; omega))).symm
  · skip
    refine W.lp (fun s (x : Nat × Int) => match x with | (k, last) => ⟨[(3, s.s 3), (9, s.s 9), (11, .i last), (62, s.s 62), (63, s.s 63), (64, s.s 64), (74, s.s 74), (75, s.s 75), (76, .i k)], [], []⟩) (fun (x : Nat × Int) => match x with | (k, last) => k ≤ y1.deps.length ∧ incrAt n3 y1.deps k last) (fun (x : Nat × Int) => match x with | (k, last) => y1.deps.length - k) ((0, -1)) [] [] ⟨rfl, ⟨rfl, rfl, rfl, rfl, rfl, rfl, rfl, rfl, rfl, I⟩, I, I⟩ ?_ ?_
    · exact ⟨Nat.zero_le _, Iff.rfl⟩
    rintro ⟨k, last⟩ ⟨hk, hi⟩
    conv => whnf
    refine g 0 0 [] ?_
    conv => whnf
    refine ⟨⟨I, I⟩, ?_⟩
    refine W.sq ?_
    refine W.cn ?_
    conv => whnf
    refine ⟨fun h7 => ?_, fun h7 => ?_⟩
    replace h7 := dt h7
    simp only [List.length_map] at h7
    refine W.skip ?_
    refine W.sq ?_
    refine W.blk ?_
    obtain ⟨y2, hy2⟩ := some_at (xs := Task.deps y1) (n := k) (by omega)
    refine g 77 80 [.x (intT y2)] ?_
    conv => whnf
    refine ⟨⟨⟨(by omega), ixl (by assumption)⟩, I, I, I⟩, ?_⟩
    refine W.sq ?_
    by_cases h8 : y2 ≤ last
    refine g 80 87 [.b (true), .b (true), .b (true), .b (true)] ?_
    conv => whnf
    refine ⟨⟨I, I, I, I, decide_eq_true (by omega), decide_eq_true (by omega), decide_eq_true (by omega), decide_eq_true (by omega), I⟩, ?_⟩
    refine W.cn ?_
    conv => whnf
    refine ⟨fun _ => ?_, noF (rfl)⟩
    refine g 87 88 [] ?_
    conv => whnf
    refine ⟨⟨I, I⟩, ?_⟩
    refine W.ret ?_
    refine EndsW.rt ?_
    conv => whnf
    refine ⟨⟨I, I, I⟩, ?_, rfl⟩
    rotate_left 1
    refine g 80 87 [.b (false), .b (false), .b (false), .b (false)] ?_
    conv => whnf
    refine ⟨⟨I, I, I, I, ⟨decide_eq_false (by omega), I⟩, ⟨decide_eq_false (by omega), I⟩, ⟨decide_eq_false (by omega), I⟩, decide_eq_false (by omega), I⟩, ?_⟩
    refine W.cn ?_
    conv => whnf
    refine ⟨fun h9 => ?_, fun h9 => ?_⟩
    replace h9 := dt h9
    refine g 87 88 [] ?_
    conv => whnf
    refine ⟨⟨I, I⟩, ?_⟩
    refine W.ret ?_
    refine EndsW.rt ?_
    conv => whnf
    refine ⟨⟨I, I, I⟩, ?_, rfl⟩
    rotate_left 1
    replace h9 := df h9
    refine W.skip ?_
    refine rg [] ?_
    conv => whnf
    refine ⟨⟨I, I, I⟩, ?_⟩
    refine rg [.i ((↑k : Int) + (1 : Int))] ?_
    conv => whnf
    refine ⟨⟨w64 (by omega) (by omega), I, I⟩, ?_⟩
    rotate_left 1
    replace h7 := df h7
    simp only [List.length_map] at h7
    refine W.exit ?_
    refine rg [.i ((↑n3 : Int) + (1 : Int))] ?_
    conv => whnf
    refine ⟨⟨w64 (by omega) (by omega), I, I⟩, ?_⟩
    rotate_left 1
    · exact vi (chk4 hlen hnames hcosts (deps_no hy1 (fun e => incr_no hi (by assumption) (by omega) e.2))).symm
    · exact vi (chk4 hlen hnames hcosts (deps_no hy1 (fun e => incr_no hi (by assumption) (by omega) e.2))).symm
    · refine ⟨(k + 1, y2), [], [], ⟨rfl, ⟨rfl, rfl, rfl, rfl, rfl, rfl, rfl, rfl, rfl, I⟩, I, I⟩, ?_, ?_⟩
      rotate_left 1
      (dsimp only; omega)
      dsimp only
      exact ⟨by omega, incr_step hi (by assumption) (by omega)⟩
    · refine ⟨n3 + 1, [], [], ⟨rfl, ⟨rfl, rfl, rfl, rfl, I⟩, I, I⟩, ?_, ?_⟩
      rotate_left 1
      (dsimp only; omega)
      dsimp only
      exact ⟨by omega, to_step hc3 hy1 ⟨by omega, incr_end hi (by omega)⟩⟩
  exact vi (chk0 hlen hnames hcosts (to_all hc3 (by omega))).symm
end Go.K

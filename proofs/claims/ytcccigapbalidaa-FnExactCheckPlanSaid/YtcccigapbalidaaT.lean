/- Contracts of functions of the program: what each call answers. -/
import Derived.Test.YtcccigapbalidaaS
set_option linter.unusedVariables false
set_option linter.unusedSimpArgs false
set_option maxHeartbeats 4000000
set_option maxRecDepth 20000
open Go Go.Tm Go.Proofs Classical
namespace Go.K
theorem mem_take_map {xs : List Task} {n k : Nat} {a : Task} (h : xs[k]? = some a) (hk : k < n) : a.name ∈ (xs.take n).map Task.name := by
  refine List.mem_map.2 ⟨a, ?_, rfl⟩
  refine List.mem_of_getElem? (i := k) ?_
  rw [List.getElem?_take, if_pos hk]; exact h
theorem nmem_take {xs : List Task} {n k : Nat} {s : ByteArray} {a : Task} (h : s ∉ (xs.take k).map Task.name) (ha : xs[k]? = some a) (hne : a.name ≠ s) : s ∉ (xs.take (k + 1)).map Task.name := by
  rw [List.take_add_one, ha]; simp only [List.map_append, List.mem_append, not_or]
  exact ⟨h, by simpa using fun e => hne e.symm⟩
theorem last_at {d : List Int} {k : Nat} {l y : Int} (h : d[k - 1]? = some l) (hy : d[((k : Int) - 1).toNat]? = some y) : y = l := by
  have e : ((k : Int) - 1).toNat = k - 1 := by omega
  rw [e, h] at hy; cases hy; rfl
theorem c_spec_CheckPlan (p : Plan) (hp : planWf p) : F n_spec_CheckPlan [.val (planR p)] (.i (checkPlan p.tasks)) [[]] := by
  have hl : p.tasks.length ≤ 9223372036854775807 := hp.1
  have hw : ∀ y ∈ p.tasks, y.name.size ≤ 9223372036854775807 ∧ y.deps.length ≤ 9223372036854775807 := hp.2
  refine i_spec_CheckPlan ?_
  conv => whnf
  refine g 0 1 [] ?_
  conv => whnf
  refine ⟨⟨⟨I, I⟩, I, I⟩, ?_⟩
  refine g 10 13 [] ?_
  conv => whnf
  refine ⟨⟨I, I, I, I, I⟩, ?_⟩
  refine W.sq ?_
  by_cases h1 : (↑(List.length (List.map taskT (Plan.tasks p))) : Int) < (1 : Int)
  simp only [List.length_map] at h1
  refine g 14 16 [.b (true), .b (true), .b (true)] ?_
  conv => whnf
  refine ⟨⟨I, I, I, (by simp [*]), (by simp [*]), (by simp [*]), I⟩, ?_⟩
  refine W.cn ?_
  conv => whnf
  refine ⟨fun _ => ?_, noF (rfl)⟩
  refine g 17 19 [] ?_
  conv => whnf
  refine ⟨⟨I, I⟩, ?_⟩
  refine W.ret ?_
  refine EndsW.rt ?_
  conv => whnf
  refine ⟨⟨I, I, I⟩, ?_, rfl⟩
  rotate_left 1
  simp only [List.length_map] at h1
  refine g 14 16 [.b (false), .b (false), .b (false)] ?_
  conv => whnf
  refine ⟨⟨I, I, I, ⟨(by simp [*]), I⟩, ⟨(by simp [*]), I⟩, (by simp [*]), I⟩, ?_⟩
  refine W.cn ?_
  conv => whnf
  refine ⟨fun h2 => ?_, fun h2 => ?_⟩
  replace h2 := dt h2
  simp only [List.length_map] at h2
  refine g 17 19 [] ?_
  conv => whnf
  refine ⟨⟨I, I⟩, ?_⟩
  refine W.ret ?_
  refine EndsW.rt ?_
  conv => whnf
  refine ⟨⟨I, I, I⟩, ?_, rfl⟩
  rotate_left 1
  replace h2 := df h2
  simp only [List.length_map] at h2
  refine W.skip ?_
  refine W.sq ?_
  refine g 17 19 [] ?_
  conv => whnf
  refine ⟨⟨I, I⟩, ?_⟩
  refine W.blk ?_
  rotate_left 1
  · exact vi (chk1 (by omega)).symm
  · exact vi (chk1 (by omega)).symm
  have hlen : 1 ≤ p.tasks.length ∧ p.tasks.length ≤ 40 := by omega
  refine W.lp (fun s (n : Nat) => ⟨[(1, s.s 1), (3, s.s 3), (4, .i n), (13, s.s 13), (16, s.s 16)], [(1, [s.c 1 0])], []⟩) (fun (n : Nat) => n ≤ p.tasks.length ∧ namesTo p.tasks n) (fun (n : Nat) => p.tasks.length - n) (0) [some 1] [] ⟨rfl, ⟨rfl, rfl, rfl, rfl, rfl, I⟩, ⟨⟨rfl, ⟨rfl, I⟩⟩, I⟩, I⟩ ?_ ?_
  · exact ⟨Nat.zero_le _, fun m t hm => by omega⟩
  rintro n ⟨hn, hc⟩
  conv => whnf
  refine W.sq ?_
  refine g 19 21 [] ?_
  conv => whnf
  refine ⟨⟨I, I, I, I⟩, ?_⟩
  refine W.cn ?_
  conv => whnf
  refine ⟨fun h3 => ?_, fun h3 => ?_⟩
  replace h3 := dt h3
  simp only [List.length_map] at h3
  refine W.skip ?_
  refine W.sq ?_
  refine W.blk ?_
  refine W.sq ?_
  obtain ⟨y1, hy1⟩ := some_at (xs := Plan.tasks p) (n := n) (by omega)
  have hm1 := hw y1 (List.mem_of_getElem? hy1)
  refine g 21 31 [.x (taskT y1), .call (V.b (decide (plainB (Task.name y1)))) ([[]])] ?_
  conv => whnf
  refine ⟨⟨I, I, I, ⟨(by omega), ixl (by assumption)⟩, I, I, ⟨⟨I, I⟩, I, ⟨⟨I, I⟩, I⟩, ⟨I, I⟩, Go.K.c_spec_l1NameOk _ (by omega)⟩, I, I⟩, ?_⟩
  refine W.cn ?_
  conv => whnf
  refine ⟨fun h4 => ?_, fun h4 => ?_⟩
  replace h4 := ndt h4
  refine g 31 32 [] ?_
  conv => whnf
  refine ⟨⟨I, I⟩, ?_⟩
  refine W.ret ?_
  refine EndsW.rt ?_
  conv => whnf
  refine ⟨⟨I, I, I⟩, ?_, rfl⟩
  rotate_left 1
  replace h4 := ndf h4
  refine W.skip ?_
  refine g 31 32 [] ?_
  conv => whnf
  refine ⟨⟨I, I⟩, ?_⟩
  refine W.blk ?_
  rotate_left 1
  replace h3 := df h3
  simp only [List.length_map] at h3
  refine W.exit ?_
  refine W.sq ?_
  refine g 4 5 [] ?_
  conv => whnf
  refine ⟨⟨I, I⟩, ?_⟩
  refine W.blk ?_
  rotate_left 1
  · exact vi (chk2 hlen (names_no hy1 (fun e => absurd e.1 (by assumption)))).symm
  · refine W.lp (fun s (k : Nat) => ⟨[(1, s.s 1), (3, s.s 3), (4, s.s 4), (5, .i k), (13, s.s 13), (16, s.s 16)], [(1, [s.c 1 0])], []⟩) (fun (k : Nat) => k ≤ n ∧ y1.name ∉ (p.tasks.take k).map Task.name) (fun (k : Nat) => n - k) (0) [some 1] [] ⟨rfl, ⟨rfl, rfl, rfl, rfl, rfl, rfl, I⟩, ⟨⟨rfl, ⟨rfl, I⟩⟩, I⟩, I⟩ (by simp) ?_
    rintro k ⟨hk, hm⟩
    conv => whnf
    refine W.sq ?_
    refine g 32 34 [] ?_
    conv => whnf
    refine ⟨⟨I, I, I, I⟩, ?_⟩
    refine W.cn ?_
    conv => whnf
    refine ⟨fun h5 => ?_, fun h5 => ?_⟩
    replace h5 := dt h5
    refine W.skip ?_
    refine W.sq ?_
    refine W.blk ?_
    obtain ⟨y2, hy2⟩ := some_at (xs := Plan.tasks p) (n := k) (by omega)
    have hm2 := hw y2 (List.mem_of_getElem? hy2)
    refine gd 34 49 [[], [], [], [.x (taskT y2)], [], [], [], [], [], [.x (taskT y1)], [], [], []] ?_
    conv => whnf
    refine ⟨⟨I, I, I, ⟨(by omega), ixl (by assumption)⟩, I, I, I, I, I, ⟨(by omega), ixl (by assumption)⟩, I, I, I, I⟩, by kernel_rfl, ?_⟩
    refine W.cn ?_
    conv => whnf
    refine ⟨fun h6 => ?_, fun h6 => ?_⟩
    replace h6 := dt h6
    refine g 49 50 [] ?_
    conv => whnf
    refine ⟨⟨I, I⟩, ?_⟩
    refine W.ret ?_
    refine EndsW.rt ?_
    conv => whnf
    refine ⟨⟨I, I, I⟩, ?_, rfl⟩
    rotate_left 1
    replace h6 := df h6
    refine W.skip ?_
    refine rg [.i ((↑k : Int) + (1 : Int))] ?_
    conv => whnf
    refine ⟨⟨I, w64 (by omega) (by omega), I, I⟩, ?_⟩
    rotate_left 1
    replace h5 := df h5
    refine W.exit ?_
    refine rg [.i ((↑n : Int) + (1 : Int))] ?_
    conv => whnf
    refine ⟨⟨I, w64 (by omega) (by omega), I, I⟩, ?_⟩
    rotate_left 1
    · exact vi (chk2 hlen (names_no hy1 (fun e => e.2 (by rw [← (show y2.name = y1.name by assumption)]; exact mem_take_map hy2 (by omega))))).symm
    · refine ⟨k + 1, [some 1], [], ⟨rfl, ⟨rfl, rfl, rfl, rfl, rfl, rfl, I⟩, ⟨⟨rfl, ⟨rfl, I⟩⟩, I⟩, I⟩, ?_, ?_⟩
      rotate_left 1
      (dsimp only; omega)
      dsimp only
      exact ⟨by omega, nmem_take (n := n) hm hy2 (by assumption)⟩
    · refine ⟨n + 1, [some 1], [], ⟨rfl, ⟨rfl, rfl, rfl, rfl, rfl, I⟩, ⟨⟨rfl, ⟨rfl, I⟩⟩, I⟩, I⟩, ?_, ?_⟩
      rotate_left 1
      (dsimp only; omega)
      dsimp only
      exact ⟨by omega, to_step hc hy1 ⟨by assumption, by rwa [show k = n by omega] at hm⟩⟩
  have hnames : namesOk p.tasks := to_all hc (by omega)
  refine W.lp (fun s (n : Nat) => ⟨[(1, s.s 1), (3, s.s 3), (6, .i n), (13, s.s 13), (16, s.s 16)], [(1, [s.c 1 0])], []⟩) (fun (n : Nat) => n ≤ p.tasks.length ∧ ∀ t ∈ p.tasks.take n, 1 ≤ t.cost ∧ t.cost ≤ 20) (fun (n : Nat) => p.tasks.length - n) (0) [some 1] [] ⟨rfl, ⟨rfl, rfl, rfl, rfl, rfl, I⟩, ⟨⟨rfl, ⟨rfl, I⟩⟩, I⟩, I⟩ (by simp) ?_
  rintro n2 ⟨hn2, hc2⟩
  conv => whnf
  refine W.sq ?_
  refine g 50 52 [] ?_
  conv => whnf
  refine ⟨⟨I, I, I, I⟩, ?_⟩
  refine W.cn ?_
  conv => whnf
  refine ⟨fun h4 => ?_, fun h4 => ?_⟩
  replace h4 := dt h4
  simp only [List.length_map] at h4
  refine W.skip ?_
  refine W.sq ?_
  refine W.blk ?_
  obtain ⟨y1, hy1⟩ := some_at (xs := Plan.tasks p) (n := n2) (by omega)
  have hm1 := hw y1 (List.mem_of_getElem? hy1)
  by_cases h5 : Task.cost y1 < (1 : Int)
  refine g 52 70 [.x (taskT y1), .b (true), .b (true), .b (true), .b (true), .b (true), .b (true), .b (true), .b (true)] ?_
  conv => whnf
  refine ⟨⟨I, I, I, ⟨(by omega), ixl (by assumption)⟩, I, I, I, I, decide_eq_true (by omega), decide_eq_true (by omega), decide_eq_true (by omega), decide_eq_true (by omega), decide_eq_true (by omega), decide_eq_true (by omega), decide_eq_true (by omega), decide_eq_true (by omega), I⟩, ?_⟩
  refine W.cn ?_
  conv => whnf
  refine ⟨fun _ => ?_, noF (rfl)⟩
  refine g 70 71 [] ?_
  conv => whnf
  refine ⟨⟨I, I⟩, ?_⟩
  refine W.ret ?_
  refine EndsW.rt ?_
  conv => whnf
  refine ⟨⟨I, I, I⟩, ?_, rfl⟩
  rotate_left 1
  refine g 52 70 [.x (taskT y1), .b (false), .b (false), .b (false), .b (false), .x (taskT y1), .b (false), .b (false), .b (false), .b (false)] ?_
  conv => whnf
  refine ⟨⟨I, I, I, ⟨(by omega), ixl (by assumption)⟩, I, I, I, I, ⟨decide_eq_false (by omega), I⟩, ⟨decide_eq_false (by omega), I⟩, ⟨decide_eq_false (by omega), I⟩, ⟨decide_eq_false (by omega), (by omega), ixl (by assumption)⟩, ⟨decide_eq_false (by omega), I⟩, ⟨decide_eq_false (by omega), I⟩, ⟨decide_eq_false (by omega), I⟩, decide_eq_false (by omega), I⟩, ?_⟩
  refine W.cn ?_
  conv => whnf
  refine ⟨fun h6 => ?_, fun h6 => ?_⟩
  replace h6 := dt h6
  refine g 70 71 [] ?_
  conv => whnf
  refine ⟨⟨I, I⟩, ?_⟩
  refine W.ret ?_
  refine EndsW.rt ?_
  conv => whnf
  refine ⟨⟨I, I, I⟩, ?_, rfl⟩
  rotate_left 1
  replace h6 := df h6
  refine W.skip ?_
  refine rg [.i ((↑n2 : Int) + (1 : Int))] ?_
  conv => whnf
  refine ⟨⟨I, w64 (by omega) (by omega), I, I⟩, ?_⟩
  rotate_left 1
  replace h4 := df h4
  simp only [List.length_map] at h4
  refine W.exit ?_
  refine W.sq ?_
  refine g 6 7 [] ?_
  conv => whnf
  refine ⟨⟨I, I⟩, ?_⟩
  refine W.blk ?_
  rotate_left 1
  · exact vi (chk3 hlen hnames (costs_no (by assumption) (by omega))).symm
  · exact vi (chk3 hlen hnames (costs_no (by assumption) (by omega))).symm
  · refine ⟨n2 + 1, [some 1], [], ⟨rfl, ⟨rfl, rfl, rfl, rfl, rfl, I⟩, ⟨⟨rfl, ⟨rfl, I⟩⟩, I⟩, I⟩, ?_, ?_⟩
    rotate_left 1
    (dsimp only; omega)
    dsimp only
    exact ⟨by omega, all_take hc2 (by assumption) (by omega)⟩
  have hcosts : costsOk p.tasks := all_done hc2 (by omega)
  refine W.lp (fun s (n : Nat) => ⟨[(1, s.s 1), (3, s.s 3), (7, .i n), (13, s.s 13), (16, s.s 16)], [(1, [s.c 1 0])], []⟩) (fun (n : Nat) => n ≤ p.tasks.length ∧ depsTo p.tasks n) (fun (n : Nat) => p.tasks.length - n) (0) [some 1] [] ⟨rfl, ⟨rfl, rfl, rfl, rfl, rfl, I⟩, ⟨⟨rfl, ⟨rfl, I⟩⟩, I⟩, I⟩ ?_ ?_
  · exact ⟨Nat.zero_le _, fun m t hm => by omega⟩
  rintro n3 ⟨hn3, hc3⟩
  conv => whnf
  refine W.sq ?_
  refine g 71 73 [] ?_
  conv => whnf
  refine ⟨⟨I, I, I, I⟩, ?_⟩
  refine W.cn ?_
  conv => whnf
  refine ⟨fun h5 => ?_, fun h5 => ?_⟩
  replace h5 := dt h5
  simp only [List.length_map] at h5
  refine W.skip ?_
  refine W.sq ?_
  refine W.blk ?_
  obtain ⟨y1, hy1⟩ := some_at (xs := Plan.tasks p) (n := n3) (by omega)
  have hm1 := hw y1 (List.mem_of_getElem? hy1)
  refine g 73 82 [.x (taskT y1)] ?_
  conv => whnf
  refine ⟨⟨I, I, I, ⟨(by omega), ixl (by assumption)⟩, I, I, I, I⟩, ?_⟩
  refine W.sq ?_
  refine g 82 84 [] ?_
  conv => whnf
  refine ⟨⟨I, I, I, I⟩, ?_⟩
  refine W.cn ?_
  conv => whnf
  refine ⟨fun h6 => ?_, fun h6 => ?_⟩
  replace h6 := dt h6
  simp only [List.length_map] at h6
  refine g 84 85 [] ?_
  conv => whnf
  refine ⟨⟨I, I⟩, ?_⟩
  refine W.ret ?_
  refine EndsW.rt ?_
  conv => whnf
  refine ⟨⟨I, I, I⟩, ?_, rfl⟩
  rotate_left 1
  replace h6 := df h6
  simp only [List.length_map] at h6
  refine W.skip ?_
  refine g 84 85 [] ?_
  conv => whnf
  refine ⟨⟨I, I⟩, ?_⟩
  refine W.blk ?_
  rotate_left 1
  replace h5 := df h5
  simp only [List.length_map] at h5
  refine W.exit ?_
  refine g 7 74 [] ?_
  conv => whnf
  refine ⟨⟨I, I⟩, ?_⟩
  refine W.ret ?_
  refine EndsW.rt ?_
  conv => whnf
  refine ⟨⟨I, I, I⟩, ?_, rfl⟩
  rotate_left 1
  · exact vi (chk4 hlen hnames hcosts (deps_no (by assumption) (fun e => by have := e.1; omega))).symm
  · refine W.lp (fun s (x : Nat × Int) => match x with | (k, last) => ⟨[(1, s.s 1), (3, s.s 3), (7, s.s 7), (8, s.s 8), (9, .i k), (13, s.s 13), (16, s.s 16)], [(1, [s.c 1 0])], []⟩) (fun (x : Nat × Int) => match x with | (k, last) => k ≤ y1.deps.length ∧ incrAt n3 y1.deps k last ∧ -1 ≤ last ∧ (k = 0 → last = -1) ∧ (0 < k → y1.deps[k - 1]? = some last)) (fun (x : Nat × Int) => match x with | (k, last) => y1.deps.length - k) ((0, -1)) [some 1] [] ⟨rfl, ⟨rfl, rfl, rfl, rfl, rfl, rfl, rfl, I⟩, ⟨⟨rfl, ⟨rfl, I⟩⟩, I⟩, I⟩ ?_ ?_
    · exact ⟨Nat.zero_le _, Iff.rfl, by omega, fun _ => rfl, fun h => by omega⟩
    rintro ⟨k, last⟩ ⟨hk, hi, hlo, hz, hs⟩
    conv => whnf
    refine W.sq ?_
    refine g 85 88 [] ?_
    conv => whnf
    refine ⟨⟨I, I, I, I, I⟩, ?_⟩
    refine W.cn ?_
    conv => whnf
    refine ⟨fun h7 => ?_, fun h7 => ?_⟩
    replace h7 := dt h7
    simp only [List.length_map] at h7
    refine W.skip ?_
    refine W.sq ?_
    refine W.blk ?_
    obtain ⟨y2, hy2⟩ := some_at (xs := Task.deps y1) (n := k) (by omega)
    by_cases h8 : y2 < (0 : Int)
    refine gd 88 119 [[], [], [.x (intT y2)], [], [], [], [.b (true)], [.b (true)], [.b (true)], [.b (true)], [.b (true)], [.b (true)], [.b (true)], [], [.b (true)], [.b (true)], [.b (true)], [.b (false)], [.b (false)], [.b (false)], [.b (false)], [.b (false)], [.b (false)], [.b (false)], [.b (false)], [.b (false)], [.b (false)], [.b (true)], [.b (true)]] ?_
    conv => whnf
    refine ⟨⟨I, I, ⟨(by omega), ixl (by assumption)⟩, I, I, I, decide_eq_true (by omega), decide_eq_true (by omega), decide_eq_true (by omega), decide_eq_true (by omega), decide_eq_true (by omega), decide_eq_true (by omega), decide_eq_true (by omega), I, rfl, rfl, rfl, I, I, I, I, I, I, I, I, I, I, rfl, rfl, I⟩, by kernel_rfl, ?_⟩
    refine W.cn ?_
    conv => whnf
    refine ⟨fun _ => ?_, noF (rfl)⟩
    refine g 119 120 [] ?_
    conv => whnf
    refine ⟨⟨I, I⟩, ?_⟩
    refine W.ret ?_
    refine EndsW.rt ?_
    conv => whnf
    refine ⟨⟨I, I, I⟩, ?_, rfl⟩
    rotate_left 1
    by_cases h9 : (↑n3 : Int) ≤ y2
    refine gd 88 119 [[], [], [.x (intT y2)], [], [], [], [.b (false)], [.b (false)], [.b (false), .x (intT y2)], [.b (false)], [.b (false)], [.b (false)], [.b (false)], [], [.b (true)], [.b (true)], [.b (true)], [.b (false)], [.b (false)], [.b (false)], [.b (false)], [.b (false)], [.b (false)], [.b (false)], [.b (false)], [.b (false)], [.b (false)], [.b (true)], [.b (true)]] ?_
    conv => whnf
    refine ⟨⟨I, I, ⟨(by omega), ixl (by assumption)⟩, I, I, I, ⟨decide_eq_false (by omega), I⟩, ⟨decide_eq_false (by omega), I⟩, ⟨decide_eq_false (by omega), (by omega), ixl (by assumption)⟩, ⟨decide_eq_false (by omega), I⟩, ⟨decide_eq_false (by omega), I⟩, ⟨decide_eq_false (by omega), I⟩, decide_eq_false (by omega), I, decide_eq_true (by omega), decide_eq_true (by omega), decide_eq_true (by omega), I, I, I, I, I, I, I, I, I, I, decide_eq_true (by omega), decide_eq_true (by omega), I⟩, by kernel_rfl, ?_⟩
    refine W.cn ?_
    conv => whnf
    refine ⟨fun _ => ?_, noF (rfl)⟩
    refine g 119 120 [] ?_
    conv => whnf
    refine ⟨⟨I, I⟩, ?_⟩
    refine W.ret ?_
    refine EndsW.rt ?_
    conv => whnf
    refine ⟨⟨I, I, I⟩, ?_, rfl⟩
    rotate_left 1
    by_cases h10 : (0 : Int) < (↑k : Int)
    obtain ⟨y3, hy3⟩ := some_at (xs := Task.deps y1) (n := Int.toNat ((↑k : Int) - (1 : Int))) (by omega)
    refine gd 88 119 [[], [], [.x (intT y2)], [], [], [], [.b (false)], [.b (false)], [.b (false), .x (intT y2)], [.b (false)], [.b (false)], [.b (false)], [.b (false)], [], [.b (false)], [.b (false)], [.b (false)], [.b (true)], [.b (true)], [.b (true), .i ((↑k : Int) - (1 : Int))], [.b (true), .x (intT y3)], [.b (true)], [.b (true)], [.b (true)], [.b (true), .x (intT y2)], [.b (true)], [.b (true)], [.b (false), .b (true)], [.b (false)]] ?_
    conv => whnf
    refine ⟨⟨I, I, ⟨(by omega), ixl (by assumption)⟩, I, I, I, ⟨decide_eq_false (by omega), I⟩, ⟨decide_eq_false (by omega), I⟩, ⟨decide_eq_false (by omega), (by omega), ixl (by assumption)⟩, ⟨decide_eq_false (by omega), I⟩, ⟨decide_eq_false (by omega), I⟩, ⟨decide_eq_false (by omega), I⟩, decide_eq_false (by omega), I, ⟨decide_eq_false (by omega), I⟩, ⟨decide_eq_false (by omega), I⟩, ⟨decide_eq_false (by omega), I⟩, ⟨decide_eq_true (by omega), I⟩, ⟨decide_eq_true (by omega), I⟩, ⟨decide_eq_true (by omega), w64 (by omega) (by omega)⟩, ⟨decide_eq_true (by omega), (by omega), ixl (by assumption)⟩, ⟨decide_eq_true (by omega), I⟩, ⟨decide_eq_true (by omega), I⟩, ⟨decide_eq_true (by omega), I⟩, ⟨decide_eq_true (by omega), (by omega), ixl (by assumption)⟩, ⟨decide_eq_true (by omega), I⟩, ⟨decide_eq_true (by omega), I⟩, ⟨decide_eq_false (by omega), decide_eq_true (by omega)⟩, decide_eq_false (by omega), I⟩, by kernel_rfl, ?_⟩
    refine W.cn ?_
    conv => whnf
    refine ⟨fun h11 => ?_, fun h11 => ?_⟩
    replace h11 := dt h11
    refine g 119 120 [] ?_
    conv => whnf
    refine ⟨⟨I, I⟩, ?_⟩
    refine W.ret ?_
    refine EndsW.rt ?_
    conv => whnf
    refine ⟨⟨I, I, I⟩, ?_, rfl⟩
    rotate_left 1
    replace h11 := df h11
    refine W.skip ?_
    refine rg [.i ((↑k : Int) + (1 : Int))] ?_
    conv => whnf
    refine ⟨⟨I, w64 (by omega) (by omega), I, I⟩, ?_⟩
    rotate_left 1
    refine gd 88 119 [[], [], [.x (intT y2)], [], [], [], [.b (false)], [.b (false)], [.b (false), .x (intT y2)], [.b (false)], [.b (false)], [.b (false)], [.b (false)], [], [.b (false)], [.b (false)], [.b (false)], [.b (false)], [.b (false)], [.b (false)], [.b (false)], [.b (false)], [.b (false)], [.b (false)], [.b (false)], [.b (false)], [.b (false)], [.b (false), .b (false)], [.b (false)]] ?_
    conv => whnf
    refine ⟨⟨I, I, ⟨(by omega), ixl (by assumption)⟩, I, I, I, ⟨decide_eq_false (by omega), I⟩, ⟨decide_eq_false (by omega), I⟩, ⟨decide_eq_false (by omega), (by omega), ixl (by assumption)⟩, ⟨decide_eq_false (by omega), I⟩, ⟨decide_eq_false (by omega), I⟩, ⟨decide_eq_false (by omega), I⟩, decide_eq_false (by omega), I, ⟨decide_eq_false (by omega), I⟩, ⟨decide_eq_false (by omega), I⟩, ⟨decide_eq_false (by omega), I⟩, decide_eq_false (by omega), decide_eq_false (by omega), decide_eq_false (by omega), decide_eq_false (by omega), decide_eq_false (by omega), decide_eq_false (by omega), decide_eq_false (by omega), decide_eq_false (by omega), decide_eq_false (by omega), decide_eq_false (by omega), ⟨decide_eq_false (by omega), decide_eq_false (by omega)⟩, decide_eq_false (by omega), I⟩, by kernel_rfl, ?_⟩
    refine W.cn ?_
    conv => whnf
    refine ⟨noT (rfl), fun _ => ?_⟩
    refine W.skip ?_
    refine rg [.i ((↑k : Int) + (1 : Int))] ?_
    conv => whnf
    refine ⟨⟨I, w64 (by omega) (by omega), I, I⟩, ?_⟩
    rotate_left 1
    replace h7 := df h7
    simp only [List.length_map] at h7
    refine W.exit ?_
    refine rg [.i ((↑n3 : Int) + (1 : Int))] ?_
    conv => whnf
    refine ⟨⟨I, w64 (by omega) (by omega), I, I⟩, ?_⟩
    rotate_left 1
    · exact vi (chk4 hlen hnames hcosts (deps_no hy1 (fun e => incr_no hi hy2 (by omega) e.2))).symm
    · exact vi (chk4 hlen hnames hcosts (deps_no hy1 (fun e => incr_no hi hy2 (by omega) e.2))).symm
    · have hl3 := last_at (hs (by omega)) hy3
      exact vi (chk4 hlen hnames hcosts (deps_no hy1 (fun e => incr_no hi hy2 (by omega) e.2))).symm
    · have hl3 := last_at (hs (by omega)) hy3
      refine ⟨(k + 1, y2), [some 1], [], ⟨rfl, ⟨rfl, rfl, rfl, rfl, rfl, rfl, rfl, I⟩, ⟨⟨rfl, ⟨rfl, I⟩⟩, I⟩, I⟩, ?_, ?_⟩
      rotate_left 1
      (dsimp only; omega)
      dsimp only
      exact ⟨by omega, incr_step hi hy2 (by omega), by omega, fun e => by omega, fun _ => hy2⟩
    · have hl3 := hz (by omega)
      refine ⟨(k + 1, y2), [some 1], [], ⟨rfl, ⟨rfl, rfl, rfl, rfl, rfl, rfl, rfl, I⟩, ⟨⟨rfl, ⟨rfl, I⟩⟩, I⟩, I⟩, ?_, ?_⟩
      rotate_left 1
      (dsimp only; omega)
      dsimp only
      exact ⟨by omega, incr_step hi hy2 (by omega), by omega, fun e => by omega, fun _ => hy2⟩
    · refine ⟨n3 + 1, [some 1], [], ⟨rfl, ⟨rfl, rfl, rfl, rfl, rfl, I⟩, ⟨⟨rfl, ⟨rfl, I⟩⟩, I⟩, I⟩, ?_, ?_⟩
      rotate_left 1
      (dsimp only; omega)
      dsimp only
      exact ⟨by omega, to_step hc3 hy1 ⟨by omega, incr_end hi (by omega)⟩⟩
  exact vi (chk0 hlen hnames hcosts (to_all hc3 (by omega))).symm
end Go.K

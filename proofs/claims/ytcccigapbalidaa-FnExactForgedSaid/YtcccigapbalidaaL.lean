/- Contracts of functions of the program: what each call answers. -/
import Derived.Test.YtcccigapbalidaaH
set_option linter.unusedVariables false
set_option linter.unusedSimpArgs false
set_option maxHeartbeats 4000000
set_option maxRecDepth 20000
open Go Go.Tm Go.Proofs
namespace Go.K
abbrev intT (n : Int) : List T := [.i n]
structure Task where
  name : ByteArray
  cost : Int
  deps : List Int
  deriving DecidableEq
abbrev taskT (x : Task) : List T := [.s x.name, .i x.cost, .slc [false] (x.deps.map intT)]
abbrev taskR (x : Task) : V := .agg [.t (.s x.name), .t (.i x.cost), .t (.slc [false] (x.deps.map intT))]
abbrev taskO (x : Task) : V := .agg [.t (.s x.name), .t (.i x.cost), .own [false] (x.deps.map intT)]
abbrev taskK : List Bool := [false, false, true]
abbrev noTask : Task := ⟨emp, 0, []⟩
def taskSz (x : Task) : Int := (x.name.size : Int) + ((x.deps.length : Int))
theorem taskSz_nn (x : Task) : 0 ≤ taskSz x := by
  simp only [taskSz]; omega
def taskWf (x : Task) : Prop := x.name.size ≤ 9223372036854775807 ∧ x.deps.length ≤ 9223372036854775807
structure Worker where
  number : Int
  epoch : Int
  up : Bool
  state : Int
  lease : Int
  task : Int
  cost : Int
  left : Int
  inputs : List ByteArray
  text : ByteArray
  since : Int
  deriving DecidableEq
abbrev workerT (x : Worker) : List T := [.i x.number, .i x.epoch, .b x.up, .i x.state, .i x.lease, .i x.task, .i x.cost, .i x.left, .slc [false] (x.inputs.map strT), .s x.text, .i x.since]
abbrev workerR (x : Worker) : V := .agg [.t (.i x.number), .t (.i x.epoch), .t (.b x.up), .t (.i x.state), .t (.i x.lease), .t (.i x.task), .t (.i x.cost), .t (.i x.left), .t (.slc [false] (x.inputs.map strT)), .t (.s x.text), .t (.i x.since)]
abbrev workerO (x : Worker) : V := .agg [.t (.i x.number), .t (.i x.epoch), .t (.b x.up), .t (.i x.state), .t (.i x.lease), .t (.i x.task), .t (.i x.cost), .t (.i x.left), .own [false] (x.inputs.map strT), .t (.s x.text), .t (.i x.since)]
abbrev workerK : List Bool := [false, false, false, false, false, false, false, false, true, false, false]
abbrev noWorker : Worker := ⟨0, 0, false, 0, 0, 0, 0, 0, [], emp, 0⟩
def workerSz (x : Worker) : Int := ((x.inputs.length : Int) + totS x.inputs) + (x.text.size : Int)
theorem workerSz_nn (x : Worker) : 0 ≤ workerSz x := by
  have hn0 := totS_nn x.inputs
  simp only [workerSz]; omega
def workerWf (x : Worker) : Prop := x.inputs.length ≤ 9223372036854775807 ∧ (∀ s ∈ x.inputs, s.size ≤ 9223372036854775807) ∧ x.text.size ≤ 9223372036854775807
structure Plan where
  tasks : List Task
  deriving DecidableEq
abbrev planT (x : Plan) : List T := [.slc taskK (x.tasks.map taskT)]
abbrev planR (x : Plan) : V := .agg [.t (.slc taskK (x.tasks.map taskT))]
abbrev planO (x : Plan) : V := .agg [.own taskK (x.tasks.map taskT)]
abbrev planK : List Bool := [true]
abbrev noPlan : Plan := ⟨[]⟩
def planSz (x : Plan) : Int := ((x.tasks.length : Int) + sumI taskSz x.tasks)
theorem planSz_nn (x : Plan) : 0 ≤ planSz x := by
  have hn0 := sum_nn taskSz_nn x.tasks
  simp only [planSz]; omega
def planWf (x : Plan) : Prop := x.tasks.length ≤ 9223372036854775807 ∧ (∀ y ∈ x.tasks, taskWf y)
theorem c_laws_szIntS (xs : List Int) (left : Int) (hl : xs.length ≤ 9223372036854775807) (h : left ≤ 1048576) (h0 : 0 ≤ left) : F n_laws_szIntS [.val (.t (.slc [false] (xs.map intT))), .val (.i left)] (.i (if left - xs.length < 0 then -1 else left - xs.length)) [[], []] := by
  refine i_laws_szIntS ?_
  conv => whnf
  refine g 0 0 [] ?_
  conv => whnf
  refine ⟨⟨I, I⟩, ?_⟩
  refine g 5 9 [.i (left - (↑(List.length (List.map intT xs)) : Int))] ?_
  conv => whnf
  refine ⟨⟨I, I, I, w64 (by simp only [List.length_map, List.length_append, List.length_set, List.length_replicate, List.length_cons, List.length_nil, List.length_take, List.length_drop, fill_len, fillI_len, List.length_range, bytesT_len]; omega) (by simp only [List.length_map, List.length_append, List.length_set, List.length_replicate, List.length_cons, List.length_nil, List.length_take, List.length_drop, fill_len, fillI_len, List.length_range, bytesT_len]; omega), I, I⟩, ?_⟩
  refine W.sq ?_
  refine g 0 1 [] ?_
  conv => whnf
  refine ⟨⟨I, I, I⟩, ?_⟩
  refine W.cn ?_
  conv => whnf
  refine ⟨fun h1 => ?_, fun h1 => ?_⟩
  replace h1 := dt h1
  simp only [List.length_map] at h1
  refine g 9 11 [] ?_
  conv => whnf
  refine ⟨⟨I, I⟩, ?_⟩
  refine W.ret ?_
  refine EndsW.rt ?_
  conv => whnf
  refine ⟨⟨I, I, I⟩, ?_, rfl⟩
  exact vi (by omega)
  replace h1 := df h1
  simp only [List.length_map] at h1
  refine W.skip ?_
  refine g 9 12 [] ?_
  conv => whnf
  refine ⟨⟨I, I, I⟩, ?_⟩
  refine W.ret ?_
  refine EndsW.rt ?_
  conv => whnf
  refine ⟨⟨I, I, I⟩, ?_, rfl⟩
  (simp [*]; done)
theorem c_laws_toIntS (xs : List Int) (h : (xs.length : Int) ≤ 1048576) : F n_laws_toIntS [.val (.t (.slc [false] (xs.map intT)))] (.own [false] (xs.map intT)) [[]] := by
  refine i_laws_toIntS ?_
  conv => whnf
  refine g 0 0 [] ?_
  conv => whnf
  refine ⟨⟨I, I⟩, ?_⟩
  refine g 5 8 [.n (List.length (List.map intT xs))] ?_
  conv => whnf
  refine ⟨⟨I, I, ⟨rfl, rfl, (by simp only [List.length_map, List.length_append, List.length_set, List.length_replicate, List.length_cons, List.length_nil, List.length_take, List.length_drop, fill_len, fillI_len, List.length_range, bytesT_len]; omega)⟩, I, I⟩, ?_⟩
  refine W.sq ?_
  refine g 0 0 [] ?_
  conv => whnf
  refine ⟨⟨I, I⟩, ?_⟩
  refine W.blk ?_
  refine W.lp (fun s (n : Nat) => ⟨[(0, s.s 0), (2, s.s 2), (3, s.s 3), (4, .i n)], [(7, [.own [false] (fill intT (intT 0) xs n)])], []⟩) (fun (n : Nat) => n ≤ xs.length) (fun (n : Nat) => xs.length - n) (0) [some 7] [] ⟨rfl, ⟨rfl, rfl, rfl, rfl, I⟩, ⟨⟨rfl, ⟨(congrArg (V.own _) (fill_zero' (by simp) rfl)), I⟩⟩, I⟩, I⟩ (by omega) ?_
  intro n hn
  conv => whnf
  refine W.sq ?_
  refine g 8 11 [] ?_
  conv => whnf
  refine ⟨⟨I, I, I, I, I⟩, ?_⟩
  refine W.cn ?_
  conv => whnf
  refine ⟨fun h1 => ?_, fun h1 => ?_⟩
  replace h1 := dt h1
  simp only [List.length_map] at h1
  refine W.skip ?_
  refine W.sq ?_
  refine W.blk ?_
  obtain ⟨y1, hy1⟩ := some_at (xs := xs) (n := n) (by omega)
  refine rg [.x (intT y1), .n (n), .x (intT (0 : Int))] ?_
  conv => whnf
  refine ⟨⟨I, I, I, I, ⟨(by omega), ixl (by assumption)⟩, I, ⟨rfl, (by simp only [List.length_map, List.length_append, List.length_set, List.length_replicate, List.length_cons, List.length_nil, List.length_take, List.length_drop, fill_len, fillI_len, List.length_range, bytesT_len]; omega)⟩, ⟨⟨I, I⟩, fill_get (by omega)⟩, I⟩, ?_⟩
  refine rg [.i ((↑n : Int) + (1 : Int))] ?_
  conv => whnf
  refine ⟨⟨I, w64 (by omega) (by omega), I, I⟩, ?_⟩
  rotate_left 1
  replace h1 := df h1
  simp only [List.length_map] at h1
  refine W.exit ?_
  refine g 3 22 [] ?_
  conv => whnf
  refine ⟨⟨I, I, I⟩, ?_⟩
  refine W.ret ?_
  refine EndsW.rt ?_
  conv => whnf
  refine ⟨⟨I, I, I⟩, ?_, rfl⟩
  rotate_left 1
  · refine ⟨n + 1, [some 7], [], ⟨rfl, ⟨rfl, rfl, rfl, rfl, I⟩, ⟨⟨rfl, ⟨(congrArg (V.own _) (fill_set (by assumption))), I⟩⟩, I⟩, I⟩, ?_, ?_⟩
    rotate_left 1
    (dsimp only; omega)
    dsimp only
    omega
  · have e : fill intT (intT 0) xs n = xs.map intT := fill_all _ _ _ (by omega)
    rw [← e]
theorem c_laws_eqIntS (xs ys : List Int) (hl : xs.length ≤ 9223372036854775806) : F n_laws_eqIntS [.val (.t (.slc [false] (xs.map intT))), .val (.t (.slc [false] (ys.map intT)))] (.b (decide (xs = ys))) [[], []] := by
  refine i_laws_eqIntS ?_
  conv => whnf
  refine g 0 0 [] ?_
  conv => whnf
  refine ⟨⟨I, I⟩, ?_⟩
  refine W.sq ?_
  refine g 6 10 [] ?_
  conv => whnf
  refine ⟨⟨I, I, I, I, I, I⟩, ?_⟩
  refine W.cn ?_
  conv => whnf
  refine ⟨fun h1 => ?_, fun h1 => ?_⟩
  replace h1 := ndt h1
  simp only [List.length_map] at h1
  refine g 10 11 [] ?_
  conv => whnf
  refine ⟨⟨I, I⟩, ?_⟩
  refine W.ret ?_
  refine EndsW.rt ?_
  conv => whnf
  refine ⟨⟨I, I, I⟩, ?_, rfl⟩
  rotate_left 1
  replace h1 := ndf h1
  simp only [List.length_map] at h1
  refine W.skip ?_
  refine W.sq ?_
  refine g 10 11 [] ?_
  conv => whnf
  refine ⟨⟨I, I⟩, ?_⟩
  refine W.blk ?_
  rotate_left 1
  · exact vbf (fun e => h1 (by rw [e]))
  refine W.lp (fun s (n : Nat) => ⟨[(0, s.s 0), (1, s.s 1), (5, .i n)], [], []⟩) (fun (n : Nat) => n ≤ xs.length ∧ xs.take n = ys.take n) (fun (n : Nat) => xs.length - n) (0) [] [] ⟨rfl, ⟨rfl, rfl, rfl, I⟩, I, I⟩ (by simp) ?_
  rintro n ⟨hn, hc⟩
  conv => whnf
  refine W.sq ?_
  refine g 11 14 [] ?_
  conv => whnf
  refine ⟨⟨I, I, I, I, I⟩, ?_⟩
  refine W.cn ?_
  conv => whnf
  refine ⟨fun h2 => ?_, fun h2 => ?_⟩
  replace h2 := dt h2
  simp only [List.length_map] at h2
  refine W.skip ?_
  refine W.sq ?_
  refine W.blk ?_
  obtain ⟨y1, hy1⟩ := some_at (xs := xs) (n := n) (by omega)
  obtain ⟨y2, hy2⟩ := some_at (xs := ys) (n := n) (by omega)
  refine gd 14 25 [[], [], [.x (intT y1)], [], [], [], [.x (intT y2)], [], []] ?_
  conv => whnf
  refine ⟨⟨I, I, ⟨(by omega), ixl (by assumption)⟩, I, I, I, ⟨(by omega), ixl (by assumption)⟩, I, I, I⟩, by kernel_rfl, ?_⟩
  refine W.cn ?_
  conv => whnf
  refine ⟨fun h3 => ?_, fun h3 => ?_⟩
  replace h3 := ndt h3
  refine g 25 26 [] ?_
  conv => whnf
  refine ⟨⟨I, I⟩, ?_⟩
  refine W.ret ?_
  refine EndsW.rt ?_
  conv => whnf
  refine ⟨⟨I, I, I⟩, ?_, rfl⟩
  rotate_left 1
  replace h3 := ndf h3
  refine W.skip ?_
  refine rg [.i ((↑n : Int) + (1 : Int))] ?_
  conv => whnf
  refine ⟨⟨I, w64 (by omega) (by omega), I, I⟩, ?_⟩
  rotate_left 1
  replace h2 := df h2
  simp only [List.length_map] at h2
  refine W.exit ?_
  refine g 0 2 [] ?_
  conv => whnf
  refine ⟨⟨I, I⟩, ?_⟩
  refine W.ret ?_
  refine EndsW.rt ?_
  conv => whnf
  refine ⟨⟨I, I, I⟩, ?_, rfl⟩
  rotate_left 1
  · exact vbf (fun e => by subst e; rw [hy1] at hy2; cases hy2; exact h3 rfl)
  · refine ⟨n + 1, [], [], ⟨rfl, ⟨rfl, rfl, rfl, I⟩, I, I⟩, ?_, ?_⟩
    rotate_left 1
    (dsimp only; omega)
    dsimp only
    exact ⟨by omega, take_eq hc hy1 (by rw [hy2]; exact congrArg some (Eq.symm h3))⟩
  · exact vbt (by rw [take_all (by omega), take_all (by omega)] at hc; exact hc)
theorem c_laws_szTask (x : Task) (left : Int) (hw : taskWf x) (h : left ≤ 1048576) (h0 : 0 ≤ left) : F n_laws_szTask [.val (taskR x), .val (.i left)] (.i (if left - taskSz x < 0 then -1 else left - taskSz x)) [[], []] := by
  obtain ⟨hw0, hw1⟩ := hw
  have hz : taskSz x = (x.name.size : Int) + ((x.deps.length : Int)) := rfl
  refine i_laws_szTask ?_
  conv => whnf
  refine g 0 1 [] ?_
  conv => whnf
  refine ⟨⟨⟨I, I, I, I⟩, I, I⟩, ?_⟩
  refine g 5 10 [.i (left - (↑(ByteArray.size (Task.name x)) : Int))] ?_
  conv => whnf
  refine ⟨⟨I, I, I, I, w64 (by omega) (by omega), I, I⟩, ?_⟩
  refine W.sq ?_
  refine g 10 11 [] ?_
  conv => whnf
  refine ⟨⟨I, I, I⟩, ?_⟩
  refine W.cn ?_
  conv => whnf
  refine ⟨fun h1 => ?_, fun h1 => ?_⟩
  replace h1 := dt h1
  refine g 11 12 [] ?_
  conv => whnf
  refine ⟨⟨I, I⟩, ?_⟩
  refine W.ret ?_
  refine EndsW.rt ?_
  conv => whnf
  refine ⟨⟨I, I, I⟩, ?_, rfl⟩
  exact vi (by omega)
  replace h1 := df h1
  refine W.skip ?_
  refine g 11 16 [.call (V.i (if left - (↑(ByteArray.size (Task.name x)) : Int) - (↑(List.length (Task.deps x)) : Int) < (0 : Int) then (-1 : Int) else left - (↑(ByteArray.size (Task.name x)) : Int) - (↑(List.length (Task.deps x)) : Int))) ([[], []])] ?_
  conv => whnf
  refine ⟨⟨I, I, I, ⟨⟨I, I, I⟩, I, ⟨⟨I, I⟩, ⟨I, I⟩, I⟩, ⟨I, I⟩, Go.K.c_laws_szIntS _ _ (by omega) (by omega) (by omega)⟩, I, I⟩, ?_⟩
  refine W.sq ?_
  refine g 2 3 [] ?_
  conv => whnf
  refine ⟨⟨I, I, I⟩, ?_⟩
  refine W.cn ?_
  conv => whnf
  refine ⟨fun h2 => ?_, fun h2 => ?_⟩
  replace h2 := dt h2
  refine g 16 18 [] ?_
  conv => whnf
  refine ⟨⟨I, I⟩, ?_⟩
  refine W.ret ?_
  refine EndsW.rt ?_
  conv => whnf
  refine ⟨⟨I, I, I⟩, ?_, rfl⟩
  exact vi (by omega)
  replace h2 := df h2
  refine W.skip ?_
  refine g 16 19 [] ?_
  conv => whnf
  refine ⟨⟨I, I, I⟩, ?_⟩
  refine W.ret ?_
  refine EndsW.rt ?_
  conv => whnf
  refine ⟨⟨I, I, I⟩, ?_, rfl⟩
  exact vi (by omega)
theorem c_laws_toTask (x : Task) (h : taskSz x ≤ 1048576) : F n_laws_toTask [.val (taskR x)] (taskO x) [[]] := by
  have hz : taskSz x = (x.name.size : Int) + ((x.deps.length : Int)) := rfl
  refine i_laws_toTask ?_
  conv => whnf
  refine g 0 1 [] ?_
  conv => whnf
  refine ⟨⟨⟨I, I, I, I⟩, I, I⟩, ?_⟩
  refine g 0 0 [] ?_
  conv => whnf
  refine ⟨⟨I, I⟩, ?_⟩
  refine g 4 7 [] ?_
  conv => whnf
  refine ⟨⟨I, I, I, ⟨I, I⟩, I⟩, ?_⟩
  refine g 7 10 [] ?_
  conv => whnf
  refine ⟨⟨I, I, I, ⟨I, I⟩, I⟩, ?_⟩
  refine g 10 14 [.call (V.own [false] (List.map intT (Task.deps x))) ([[]])] ?_
  conv => whnf
  refine ⟨⟨I, I, ⟨⟨I, I⟩, I, ⟨⟨I, I⟩, I⟩, ⟨I, I⟩, Go.K.c_laws_toIntS _ (by omega)⟩, I, ⟨I, I⟩, I⟩, ?_⟩
  refine g 3 15 [] ?_
  conv => whnf
  refine ⟨⟨I, ⟨I, I, I, I⟩, I⟩, ?_⟩
  refine W.ret ?_
  refine EndsW.rt ?_
  conv => whnf
  refine ⟨⟨I, I, I, I, I⟩, ?_, rfl⟩
  rfl
def taskLen (a : Task) : Prop := a.deps.length ≤ 9223372036854775806
theorem taskLen_of {a : Task} (h : taskSz a ≤ 1048576) : taskLen a := by
  simp only [taskSz] at h
  simp only [taskLen]
  exact by omega
theorem c_laws_eqTask (a b : Task) (hl : taskLen a) : F n_laws_eqTask [.val (taskR a), .val (taskR b)] (.b (decide (a = b))) [[], []] := by
  obtain ⟨a_name, a_cost, a_deps⟩ := a
  obtain ⟨b_name, b_cost, b_deps⟩ := b
  simp only [taskLen] at hl
  refine i_laws_eqTask ?_
  conv => whnf
  refine g 0 2 [] ?_
  conv => whnf
  refine ⟨⟨⟨I, I, I, I⟩, ⟨I, I, I, I⟩, I, I⟩, ?_⟩
  refine W.sq ?_
  refine g 5 9 [] ?_
  conv => whnf
  refine ⟨⟨I, I, I, I, I, I⟩, ?_⟩
  refine W.cn ?_
  conv => whnf
  refine ⟨fun h1 => ?_, fun h1 => ?_⟩
  replace h1 := ndt h1
  refine g 9 10 [] ?_
  conv => whnf
  refine ⟨⟨I, I⟩, ?_⟩
  refine W.ret ?_
  refine EndsW.rt ?_
  conv => whnf
  refine ⟨⟨I, I, I⟩, ?_, rfl⟩
  rotate_left 1
  replace h1 := ndf h1
  refine W.skip ?_
  refine W.sq ?_
  refine g 9 14 [] ?_
  conv => whnf
  refine ⟨⟨I, I, I, I, I, I⟩, ?_⟩
  refine W.cn ?_
  conv => whnf
  refine ⟨fun h2 => ?_, fun h2 => ?_⟩
  replace h2 := ndt h2
  refine g 14 15 [] ?_
  conv => whnf
  refine ⟨⟨I, I⟩, ?_⟩
  refine W.ret ?_
  refine EndsW.rt ?_
  conv => whnf
  refine ⟨⟨I, I, I⟩, ?_, rfl⟩
  rotate_left 1
  replace h2 := ndf h2
  refine W.skip ?_
  refine W.sq ?_
  refine g 14 20 [.call (V.b (decide (a_deps = b_deps))) ([[], []])] ?_
  conv => whnf
  refine ⟨⟨I, I, I, I, ⟨⟨I, I, I⟩, I, ⟨⟨I, I⟩, ⟨I, I⟩, I⟩, ⟨I, I⟩, Go.K.c_laws_eqIntS _ _ (by omega)⟩, I, I⟩, ?_⟩
  refine W.cn ?_
  conv => whnf
  refine ⟨fun h3 => ?_, fun h3 => ?_⟩
  replace h3 := ndt h3
  refine g 2 4 [] ?_
  conv => whnf
  refine ⟨⟨I, I⟩, ?_⟩
  refine W.ret ?_
  refine EndsW.rt ?_
  conv => whnf
  refine ⟨⟨I, I, I⟩, ?_, rfl⟩
  rotate_left 1
  replace h3 := ndf h3
  refine W.skip ?_
  refine g 2 4 [] ?_
  conv => whnf
  refine ⟨⟨I, I⟩, ?_⟩
  refine W.ret ?_
  refine EndsW.rt ?_
  conv => whnf
  refine ⟨⟨I, I, I⟩, ?_, rfl⟩
  rotate_left 1
  all_goals (first | exact vbt (by simp_all; done) | exact vbf (by simp_all; done))
theorem c_laws_szTaskS (xs : List Task) (left : Int) (hl : xs.length ≤ 9223372036854775807) (hs : ∀ y ∈ xs, taskWf y) (h : left ≤ 1048576) (h0 : 0 ≤ left) : F n_laws_szTaskS [.val (.t (.slc taskK (xs.map taskT))), .val (.i left)] (.i (if left - (xs.length + sumI taskSz xs) < 0 then -1 else left - (xs.length + sumI taskSz xs))) [[], []] := by
  have hnn := sum_nn taskSz_nn xs
  refine i_laws_szTaskS ?_
  conv => whnf
  refine g 0 0 [] ?_
  conv => whnf
  refine ⟨⟨I, I⟩, ?_⟩
  refine g 6 10 [.i (left - (↑(List.length (List.map taskT xs)) : Int))] ?_
  conv => whnf
  refine ⟨⟨I, I, I, w64 (by simp only [List.length_map, List.length_append, List.length_set, List.length_replicate, List.length_cons, List.length_nil, List.length_take, List.length_drop, fill_len, fillI_len, List.length_range, bytesT_len]; omega) (by simp only [List.length_map, List.length_append, List.length_set, List.length_replicate, List.length_cons, List.length_nil, List.length_take, List.length_drop, fill_len, fillI_len, List.length_range, bytesT_len]; omega), I, I⟩, ?_⟩
  refine W.sq ?_
  refine g 10 11 [] ?_
  conv => whnf
  refine ⟨⟨I, I, I⟩, ?_⟩
  refine W.cn ?_
  conv => whnf
  refine ⟨fun h1 => ?_, fun h1 => ?_⟩
  replace h1 := dt h1
  simp only [List.length_map] at h1
  refine g 11 12 [] ?_
  conv => whnf
  refine ⟨⟨I, I⟩, ?_⟩
  refine W.ret ?_
  refine EndsW.rt ?_
  conv => whnf
  refine ⟨⟨I, I, I⟩, ?_, rfl⟩
  exact vi (by omega)
  replace h1 := df h1
  simp only [List.length_map] at h1
  refine W.skip ?_
  refine W.sq ?_
  refine g 11 12 [] ?_
  conv => whnf
  refine ⟨⟨I, I⟩, ?_⟩
  refine W.blk ?_
  refine W.lp (fun s (n : Nat) => ⟨[(0, s.s 0), (1, .i (left - xs.length - sumI taskSz (xs.take n))), (5, .i n)], [], []⟩) (fun (n : Nat) => n ≤ xs.length ∧ 0 ≤ left - xs.length - sumI taskSz (xs.take n)) (fun (n : Nat) => xs.length - n) (0) [] [] ⟨rfl, ⟨rfl, (congrArg (fun z => V.t (T.v (Value.int _ z))) (by simp [sumI])), rfl, I⟩, I, I⟩ ?_ ?_
  · simp [sumI]; omega
  rintro n ⟨hn, hc⟩
  have hq := sum_nn taskSz_nn (xs.take n)
  have hle := sum_le taskSz_nn xs (n + 1)
  conv => whnf
  refine W.sq ?_
  refine g 12 15 [] ?_
  conv => whnf
  refine ⟨⟨I, I, I, I, I⟩, ?_⟩
  refine W.cn ?_
  conv => whnf
  refine ⟨fun h2 => ?_, fun h2 => ?_⟩
  replace h2 := dt h2
  simp only [List.length_map] at h2
  refine W.skip ?_
  refine W.sq ?_
  refine W.blk ?_
  obtain ⟨y1, hy1⟩ := some_at (xs := xs) (n := n) (by omega)
  have hm1 := hs y1 (List.mem_of_getElem? hy1)
  have hk1 := sum_take (f := taskSz) hy1
  have hk2 := taskSz_nn y1
  refine g 15 24 [.x (taskT y1), .call (V.i (if left - (↑(List.length xs) : Int) - sumI taskSz (List.take n xs) - taskSz y1 < (0 : Int) then (-1 : Int) else left - (↑(List.length xs) : Int) - sumI taskSz (List.take n xs) - taskSz y1)) ([[], []])] ?_
  conv => whnf
  refine ⟨⟨I, I, ⟨(by omega), ixl (by assumption)⟩, I, I, ⟨⟨I, I, I⟩, I, ⟨⟨I, I, I, I⟩, ⟨I, I⟩, I⟩, ⟨I, I⟩, Go.K.c_laws_szTask _ _ (by omega) (by omega) (by omega)⟩, I, I⟩, ?_⟩
  refine g 24 25 [] ?_
  conv => whnf
  refine ⟨⟨I, I, I⟩, ?_⟩
  refine W.cn ?_
  conv => whnf
  refine ⟨fun h3 => ?_, fun h3 => ?_⟩
  replace h3 := dt h3
  refine g 25 26 [] ?_
  conv => whnf
  refine ⟨⟨I, I⟩, ?_⟩
  refine W.ret ?_
  refine EndsW.rt ?_
  conv => whnf
  refine ⟨⟨I, I, I⟩, ?_, rfl⟩
  exact vi (by omega)
  replace h3 := df h3
  refine W.skip ?_
  refine rg [.i ((↑n : Int) + (1 : Int))] ?_
  conv => whnf
  refine ⟨⟨I, w64 (by omega) (by omega), I, I⟩, ?_⟩
  rotate_left 1
  replace h2 := df h2
  simp only [List.length_map] at h2
  refine W.exit ?_
  refine g 5 27 [] ?_
  conv => whnf
  refine ⟨⟨I, I, I⟩, ?_⟩
  refine W.ret ?_
  refine EndsW.rt ?_
  conv => whnf
  refine ⟨⟨I, I, I⟩, ?_, rfl⟩
  rotate_left 1
  · refine ⟨n + 1, [], [], ⟨rfl, ⟨rfl, (congrArg (fun z => V.t (T.v (Value.int _ z))) (by rw [sum_take (by assumption)]; omega)), rfl, I⟩, I, I⟩, ?_, ?_⟩
    rotate_left 1
    (dsimp only; omega)
    dsimp only
    omega
  · have e : xs.take n = xs := take_all (by omega)
    rw [e] at hc ⊢
    exact vi (by split <;> omega)
theorem c_laws_toTaskS (xs : List Task) (h : (xs.length : Int) + sumI taskSz xs ≤ 1048576) : F n_laws_toTaskS [.val (.t (.slc taskK (xs.map taskT)))] (.own taskK (xs.map taskT)) [[]] := by
  have hnn := sum_nn taskSz_nn xs
  refine i_laws_toTaskS ?_
  conv => whnf
  refine g 0 0 [] ?_
  conv => whnf
  refine ⟨⟨I, I⟩, ?_⟩
  refine g 5 8 [.n (List.length (List.map taskT xs))] ?_
  conv => whnf
  refine ⟨⟨I, I, ⟨rfl, rfl, (by simp only [List.length_map, List.length_append, List.length_set, List.length_replicate, List.length_cons, List.length_nil, List.length_take, List.length_drop, fill_len, fillI_len, List.length_range, bytesT_len]; omega)⟩, I, I⟩, ?_⟩
  refine W.sq ?_
  refine g 0 0 [] ?_
  conv => whnf
  refine ⟨⟨I, I⟩, ?_⟩
  refine W.blk ?_
  refine W.lp (fun s (n : Nat) => ⟨[(0, s.s 0), (2, s.s 2), (3, s.s 3), (4, .i n)], [(7, [.own taskK (fill taskT (taskT noTask) xs n)])], []⟩) (fun (n : Nat) => n ≤ xs.length) (fun (n : Nat) => xs.length - n) (0) [some 7] [] ⟨rfl, ⟨rfl, rfl, rfl, rfl, I⟩, ⟨⟨rfl, ⟨(congrArg (V.own _) (fill_zero' (by simp) rfl)), I⟩⟩, I⟩, I⟩ (by omega) ?_
  intro n hn
  conv => whnf
  refine W.sq ?_
  refine g 8 11 [] ?_
  conv => whnf
  refine ⟨⟨I, I, I, I, I⟩, ?_⟩
  refine W.cn ?_
  conv => whnf
  refine ⟨fun h1 => ?_, fun h1 => ?_⟩
  replace h1 := dt h1
  simp only [List.length_map] at h1
  refine W.skip ?_
  refine W.sq ?_
  refine W.blk ?_
  obtain ⟨y1, hy1⟩ := some_at (xs := xs) (n := n) (by omega)
  have hk1 := sum_mem taskSz_nn (List.mem_of_getElem? hy1)
  refine rg [.x (taskT y1), .call (taskO y1) ([[]]), .n (n), .x (taskT noTask)] ?_
  conv => whnf
  refine ⟨⟨I, I, I, I, ⟨(by omega), ixl (by assumption)⟩, I, ⟨⟨I, I⟩, I, ⟨⟨I, I, I, I⟩, I⟩, ⟨I, I⟩, Go.K.c_laws_toTask _ (by omega)⟩, ⟨rfl, (by simp only [List.length_map, List.length_append, List.length_set, List.length_replicate, List.length_cons, List.length_nil, List.length_take, List.length_drop, fill_len, fillI_len, List.length_range, bytesT_len]; omega)⟩, ⟨⟨I, I, I, I⟩, fill_get (by omega)⟩, I⟩, ?_⟩
  refine rg [.i ((↑n : Int) + (1 : Int))] ?_
  conv => whnf
  refine ⟨⟨I, w64 (by omega) (by omega), I, I⟩, ?_⟩
  rotate_left 1
  replace h1 := df h1
  simp only [List.length_map] at h1
  refine W.exit ?_
  refine g 3 23 [] ?_
  conv => whnf
  refine ⟨⟨I, I, I⟩, ?_⟩
  refine W.ret ?_
  refine EndsW.rt ?_
  conv => whnf
  refine ⟨⟨I, I, I⟩, ?_, rfl⟩
  rotate_left 1
  · refine ⟨n + 1, [some 7], [], ⟨rfl, ⟨rfl, rfl, rfl, rfl, I⟩, ⟨⟨rfl, ⟨(congrArg (V.own _) (fill_set (by assumption))), I⟩⟩, I⟩, I⟩, ?_, ?_⟩
    rotate_left 1
    (dsimp only; omega)
    dsimp only
    omega
  · have e : fill taskT (taskT noTask) xs n = xs.map taskT := fill_all _ _ _ (by omega)
    rw [← e]
theorem c_laws_eqTaskS (xs ys : List Task) (hl : xs.length ≤ 9223372036854775806) (hs : ∀ y ∈ xs, taskLen y) : F n_laws_eqTaskS [.val (.t (.slc taskK (xs.map taskT))), .val (.t (.slc taskK (ys.map taskT)))] (.b (decide (xs = ys))) [[], []] := by
  refine i_laws_eqTaskS ?_
  conv => whnf
  refine g 0 0 [] ?_
  conv => whnf
  refine ⟨⟨I, I⟩, ?_⟩
  refine W.sq ?_
  refine g 6 10 [] ?_
  conv => whnf
  refine ⟨⟨I, I, I, I, I, I⟩, ?_⟩
  refine W.cn ?_
  conv => whnf
  refine ⟨fun h1 => ?_, fun h1 => ?_⟩
  replace h1 := ndt h1
  simp only [List.length_map] at h1
  refine g 10 11 [] ?_
  conv => whnf
  refine ⟨⟨I, I⟩, ?_⟩
  refine W.ret ?_
  refine EndsW.rt ?_
  conv => whnf
  refine ⟨⟨I, I, I⟩, ?_, rfl⟩
  rotate_left 1
  replace h1 := ndf h1
  simp only [List.length_map] at h1
  refine W.skip ?_
  refine W.sq ?_
  refine g 10 11 [] ?_
  conv => whnf
  refine ⟨⟨I, I⟩, ?_⟩
  refine W.blk ?_
  rotate_left 1
  · exact vbf (fun e => h1 (by rw [e]))
  refine W.lp (fun s (n : Nat) => ⟨[(0, s.s 0), (1, s.s 1), (5, .i n)], [], []⟩) (fun (n : Nat) => n ≤ xs.length ∧ xs.take n = ys.take n) (fun (n : Nat) => xs.length - n) (0) [] [] ⟨rfl, ⟨rfl, rfl, rfl, I⟩, I, I⟩ (by simp) ?_
  rintro n ⟨hn, hc⟩
  conv => whnf
  refine W.sq ?_
  refine g 11 14 [] ?_
  conv => whnf
  refine ⟨⟨I, I, I, I, I⟩, ?_⟩
  refine W.cn ?_
  conv => whnf
  refine ⟨fun h2 => ?_, fun h2 => ?_⟩
  replace h2 := dt h2
  simp only [List.length_map] at h2
  refine W.skip ?_
  refine W.sq ?_
  refine W.blk ?_
  obtain ⟨y1, hy1⟩ := some_at (xs := xs) (n := n) (by omega)
  have hm1 := hs y1 (List.mem_of_getElem? hy1)
  obtain ⟨y2, hy2⟩ := some_at (xs := ys) (n := n) (by omega)
  refine gd 14 26 [[], [], [.x (taskT y1)], [], [], [], [.x (taskT y2)], [], [.call (V.b (decide (y1 = y2))) ([[], []])], []] ?_
  conv => whnf
  refine ⟨⟨I, I, ⟨(by omega), ixl (by assumption)⟩, I, I, I, ⟨(by omega), ixl (by assumption)⟩, I, ⟨⟨I, I, I⟩, I, ⟨⟨I, I, I, I⟩, ⟨I, I, I, I⟩, I⟩, ⟨I, I⟩, Go.K.c_laws_eqTask _ _ (by omega)⟩, I, I⟩, by kernel_rfl, ?_⟩
  refine W.cn ?_
  conv => whnf
  refine ⟨fun h3 => ?_, fun h3 => ?_⟩
  replace h3 := ndt h3
  refine g 26 27 [] ?_
  conv => whnf
  refine ⟨⟨I, I⟩, ?_⟩
  refine W.ret ?_
  refine EndsW.rt ?_
  conv => whnf
  refine ⟨⟨I, I, I⟩, ?_, rfl⟩
  rotate_left 1
  replace h3 := ndf h3
  refine W.skip ?_
  refine rg [.i ((↑n : Int) + (1 : Int))] ?_
  conv => whnf
  refine ⟨⟨I, w64 (by omega) (by omega), I, I⟩, ?_⟩
  rotate_left 1
  replace h2 := df h2
  simp only [List.length_map] at h2
  refine W.exit ?_
  refine g 0 2 [] ?_
  conv => whnf
  refine ⟨⟨I, I⟩, ?_⟩
  refine W.ret ?_
  refine EndsW.rt ?_
  conv => whnf
  refine ⟨⟨I, I, I⟩, ?_, rfl⟩
  rotate_left 1
  · exact vbf (fun e => by subst e; rw [hy1] at hy2; cases hy2; exact h3 rfl)
  · refine ⟨n + 1, [], [], ⟨rfl, ⟨rfl, rfl, rfl, I⟩, I, I⟩, ?_, ?_⟩
    rotate_left 1
    (dsimp only; omega)
    dsimp only
    exact ⟨by omega, take_eq hc hy1 (by rw [hy2]; exact congrArg some (Eq.symm h3))⟩
  · exact vbt (by rw [take_all (by omega), take_all (by omega)] at hc; exact hc)
theorem c_laws_szPlan (x : Plan) (left : Int) (hw : planWf x) (h : left ≤ 1048576) (h0 : 0 ≤ left) : F n_laws_szPlan [.val (planR x), .val (.i left)] (.i (if left - planSz x < 0 then -1 else left - planSz x)) [[], []] := by
  have hn0 := sum_nn taskSz_nn x.tasks
  obtain ⟨hw0, hw1⟩ := hw
  have hz : planSz x = ((x.tasks.length : Int) + sumI taskSz x.tasks) := rfl
  refine i_laws_szPlan ?_
  conv => whnf
  refine g 0 1 [] ?_
  conv => whnf
  refine ⟨⟨⟨I, I⟩, I, I⟩, ?_⟩
  refine g 5 9 [.call (V.i (if left - ((↑(List.length (Plan.tasks x)) : Int) + sumI taskSz (Plan.tasks x)) < (0 : Int) then (-1 : Int) else left - ((↑(List.length (Plan.tasks x)) : Int) + sumI taskSz (Plan.tasks x)))) ([[], []])] ?_
  conv => whnf
  refine ⟨⟨I, I, I, ⟨⟨I, I, I⟩, I, ⟨⟨I, I⟩, ⟨I, I⟩, I⟩, ⟨I, I⟩, Go.K.c_laws_szTaskS _ _ (by omega) (by omega) (by omega) (by omega)⟩, I, I⟩, ?_⟩
  refine W.sq ?_
  refine g 2 3 [] ?_
  conv => whnf
  refine ⟨⟨I, I, I⟩, ?_⟩
  refine W.cn ?_
  conv => whnf
  refine ⟨fun h1 => ?_, fun h1 => ?_⟩
  replace h1 := dt h1
  refine g 9 11 [] ?_
  conv => whnf
  refine ⟨⟨I, I⟩, ?_⟩
  refine W.ret ?_
  refine EndsW.rt ?_
  conv => whnf
  refine ⟨⟨I, I, I⟩, ?_, rfl⟩
  exact vi (by omega)
  replace h1 := df h1
  refine W.skip ?_
  refine g 9 12 [] ?_
  conv => whnf
  refine ⟨⟨I, I, I⟩, ?_⟩
  refine W.ret ?_
  refine EndsW.rt ?_
  conv => whnf
  refine ⟨⟨I, I, I⟩, ?_, rfl⟩
  rfl
theorem c_laws_toPlan (x : Plan) (h : planSz x ≤ 1048576) : F n_laws_toPlan [.val (planR x)] (planO x) [[]] := by
  have hn0 := sum_nn taskSz_nn x.tasks
  have hz : planSz x = ((x.tasks.length : Int) + sumI taskSz x.tasks) := rfl
  refine i_laws_toPlan ?_
  conv => whnf
  refine g 0 1 [] ?_
  conv => whnf
  refine ⟨⟨⟨I, I⟩, I, I⟩, ?_⟩
  refine g 0 0 [] ?_
  conv => whnf
  refine ⟨⟨I, I⟩, ?_⟩
  refine g 4 8 [.call (V.own taskK (List.map taskT (Plan.tasks x))) ([[]])] ?_
  conv => whnf
  refine ⟨⟨I, I, ⟨⟨I, I⟩, I, ⟨⟨I, I⟩, I⟩, ⟨I, I⟩, Go.K.c_laws_toTaskS _ (by omega)⟩, I, ⟨I, I⟩, I⟩, ?_⟩
  refine g 3 9 [] ?_
  conv => whnf
  refine ⟨⟨I, ⟨I, I⟩, I⟩, ?_⟩
  refine W.ret ?_
  refine EndsW.rt ?_
  conv => whnf
  refine ⟨⟨I, I, I⟩, ?_, rfl⟩
  rfl
def planLen (a : Plan) : Prop := a.tasks.length ≤ 9223372036854775806 ∧ (∀ y ∈ a.tasks, taskLen y)
theorem planLen_of {a : Plan} (h : planSz a ≤ 1048576) : planLen a := by
  have := sum_nn taskSz_nn a.tasks
  simp only [planSz] at h
  simp only [planLen]
  exact ⟨by omega, fun y hy => taskLen_of (by have := sum_mem taskSz_nn hy; omega)⟩
theorem c_laws_eqPlan (a b : Plan) (hl : planLen a) : F n_laws_eqPlan [.val (planR a), .val (planR b)] (.b (decide (a = b))) [[], []] := by
  obtain ⟨a_tasks⟩ := a
  obtain ⟨b_tasks⟩ := b
  simp only [planLen] at hl
  obtain ⟨hl0, hl1⟩ := hl
  refine i_laws_eqPlan ?_
  conv => whnf
  refine g 0 2 [] ?_
  conv => whnf
  refine ⟨⟨⟨I, I⟩, ⟨I, I⟩, I, I⟩, ?_⟩
  refine W.sq ?_
  refine g 5 10 [.call (V.b (decide (a_tasks = b_tasks))) ([[], []])] ?_
  conv => whnf
  refine ⟨⟨I, I, I, I, ⟨⟨I, I, I⟩, I, ⟨⟨I, I⟩, ⟨I, I⟩, I⟩, ⟨I, I⟩, Go.K.c_laws_eqTaskS _ _ (by omega) (by omega)⟩, I, I⟩, ?_⟩
  refine W.cn ?_
  conv => whnf
  refine ⟨fun h1 => ?_, fun h1 => ?_⟩
  replace h1 := ndt h1
  refine g 2 4 [] ?_
  conv => whnf
  refine ⟨⟨I, I⟩, ?_⟩
  refine W.ret ?_
  refine EndsW.rt ?_
  conv => whnf
  refine ⟨⟨I, I, I⟩, ?_, rfl⟩
  rotate_left 1
  replace h1 := ndf h1
  refine W.skip ?_
  refine g 2 4 [] ?_
  conv => whnf
  refine ⟨⟨I, I⟩, ?_⟩
  refine W.ret ?_
  refine EndsW.rt ?_
  conv => whnf
  refine ⟨⟨I, I, I⟩, ?_, rfl⟩
  rotate_left 1
  all_goals (first | exact vbt (by simp_all; done) | exact vbf (by simp_all; done))
end Go.K

/- Contracts of functions of the program: what each call answers. -/
import Derived.Test.YtcccigapbalidaaO
set_option linter.unusedVariables false
set_option linter.unusedSimpArgs false
set_option maxHeartbeats 4000000
set_option maxRecDepth 20000
open Go Go.Tm Go.Proofs
namespace Go.K
theorem c_spec_l3Free (w : Worker) (s : Int) : F n_spec_l3Free [.val (workerR w), .val (.i s)] (workerO ⟨w.number, w.epoch, w.up, 0, 0, 0, 0, 0, [], emp, s⟩) [[], []] := by
  refine i_spec_l3Free ?_
  conv => whnf
  refine g 0 0 [] ?_
  conv => whnf
  refine ⟨⟨⟨I, I, I, I, I, I, I, I, I, I, I, I⟩, I, I⟩, ?_⟩
  refine g 5 13 [] ?_
  conv => whnf
  refine ⟨⟨I, I, I, I, I, I, I, I, ⟨I, I, I, I, I, I, I, I, I, I, I, I⟩, I⟩, ?_⟩
  refine W.ret ?_
  refine EndsW.rt ?_
  conv => whnf
  refine ⟨⟨I, I, I, I, I, I, I, I, I, I, I, I, I⟩, ?_, rfl⟩
  rfl
theorem c_impl_Worker_freed (w : Worker) (s : Int) : F n_impl_Worker_freed [.val (workerR w), .val (.i s)] (workerO ⟨w.number, w.epoch, w.up, 0, 0, 0, 0, 0, [], emp, s⟩) [[], []] := by
  refine i_impl_Worker_freed ?_
  conv => whnf
  refine g 0 0 [] ?_
  conv => whnf
  refine ⟨⟨⟨I, I, I, I, I, I, I, I, I, I, I, I⟩, I, I⟩, ?_⟩
  refine g 5 13 [] ?_
  conv => whnf
  refine ⟨⟨I, I, I, I, I, I, I, I, ⟨I, I, I, I, I, I, I, I, I, I, I, I⟩, I⟩, ?_⟩
  refine W.ret ?_
  refine EndsW.rt ?_
  conv => whnf
  refine ⟨⟨I, I, I, I, I, I, I, I, I, I, I, I, I⟩, ?_, rfl⟩
  rfl
theorem c_impl_clone (xs : List ByteArray) (hl : xs.length ≤ 1048576) : F n_impl_clone [.val (.t (strs xs))] (.own [false] (xs.map strT)) [[]] := by
  refine i_impl_clone ?_
  conv => whnf
  refine g 0 0 [] ?_
  conv => whnf
  refine ⟨⟨I, I⟩, ?_⟩
  refine g 3 6 [] ?_
  conv => whnf
  refine ⟨⟨I, I, ⟨I, I, (by simp only [List.length_map, List.length_append, List.length_set, List.length_replicate, List.length_cons, List.length_nil, List.length_take, List.length_drop, fill_len, fillI_len, List.length_range, bytesT_len]; omega)⟩, I, I⟩, ?_⟩
  refine W.ret ?_
  refine EndsW.rt ?_
  conv => whnf
  refine ⟨⟨I, I, I⟩, ?_, rfl⟩
  rfl
theorem c_spec_l3Copy (w : Worker) (hl : w.inputs.length ≤ 1048576) : F n_spec_l3Copy [.val (workerR w)] (workerO w) [[]] := by
  refine i_spec_l3Copy ?_
  conv => whnf
  refine g 0 1 [] ?_
  conv => whnf
  refine ⟨⟨⟨I, I, I, I, I, I, I, I, I, I, I, I⟩, I, I⟩, ?_⟩
  refine g 3 8 [] ?_
  conv => whnf
  refine ⟨⟨I, I, I, ⟨I, I, (by simp only [List.length_map, List.length_append, List.length_set, List.length_replicate, List.length_cons, List.length_nil, List.length_take, List.length_drop, fill_len, fillI_len, List.length_range, bytesT_len]; omega)⟩, I, ⟨I, I⟩, I⟩, ?_⟩
  refine g 1 2 [] ?_
  conv => whnf
  refine ⟨⟨I, ⟨I, I, I, I, I, I, I, I, I, I, I, I⟩, I⟩, ?_⟩
  refine W.ret ?_
  refine EndsW.rt ?_
  conv => whnf
  refine ⟨⟨I, I, I, I, I, I, I, I, I, I, I, I, I⟩, ?_, rfl⟩
  rfl
theorem c_impl_Worker_twin (w : Worker) (hl : w.inputs.length ≤ 1048576) : F n_impl_Worker_twin [.val (workerR w)] (workerO w) [[]] := by
  refine i_impl_Worker_twin ?_
  conv => whnf
  refine g 0 1 [] ?_
  conv => whnf
  refine ⟨⟨⟨I, I, I, I, I, I, I, I, I, I, I, I⟩, I, I⟩, ?_⟩
  refine g 3 7 [.call (V.own [false] (List.map strT (Worker.inputs w))) ([[]])] ?_
  conv => whnf
  refine ⟨⟨I, I, ⟨⟨I, I⟩, I, ⟨⟨I, I⟩, I⟩, ⟨I, I⟩, Go.K.c_impl_clone _ (by omega)⟩, I, ⟨I, I⟩, I⟩, ?_⟩
  refine g 1 2 [] ?_
  conv => whnf
  refine ⟨⟨I, ⟨I, I, I, I, I, I, I, I, I, I, I, I⟩, I⟩, ?_⟩
  refine W.ret ?_
  refine EndsW.rt ?_
  conv => whnf
  refine ⟨⟨I, I, I, I, I, I, I, I, I, I, I, I, I⟩, ?_, rfl⟩
  rfl
def wFall (w : Worker) : Worker := if workerOk w then ⟨w.number, w.epoch, false, 0, 0, 0, 0, 0, [], emp, 0⟩ else noWorker
def wRise (w : Worker) : Worker := if workerOk w then (if w.up = true ∨ 300 ≤ w.epoch then w else ⟨w.number, w.epoch + 1, true, 0, 0, 0, 0, 0, [], emp, 3⟩) else noWorker
theorem fall_no {w : Worker} (h : ¬ workerOk w) : wFall w = noWorker := if_neg h
theorem fall_ok {w : Worker} (h : workerOk w) : wFall w = ⟨w.number, w.epoch, false, 0, 0, 0, 0, 0, [], emp, 0⟩ := if_pos h
theorem c_impl_WorkerFall (w : Worker) (hl : w.inputs.length ≤ 1048576) : F n_impl_WorkerFall [.val (workerR w)] (workerO (wFall w)) [[]] := by
  refine i_impl_WorkerFall ?_
  conv => whnf
  refine g 0 1 [] ?_
  conv => whnf
  refine ⟨⟨⟨I, I, I, I, I, I, I, I, I, I, I, I⟩, I, I⟩, ?_⟩
  refine W.sq ?_
  refine g 3 5 [.call (V.b (decide (workerOk w))) ([[]])] ?_
  conv => whnf
  refine ⟨⟨I, ⟨⟨I, I⟩, I, ⟨⟨I, I, I, I, I, I, I, I, I, I, I, I⟩, I⟩, ⟨I, I⟩, Go.K.c_impl_ValidWorker _ (by omega)⟩, I, I⟩, ?_⟩
  refine W.cn ?_
  conv => whnf
  refine ⟨fun h1 => ?_, fun h1 => ?_⟩
  replace h1 := ndt h1
  refine g 5 7 [] ?_
  conv => whnf
  refine ⟨⟨I, ⟨I, I, I, I, I, I, I, I, I, I, I, I⟩, I⟩, ?_⟩
  refine W.ret ?_
  refine EndsW.rt ?_
  conv => whnf
  refine ⟨⟨I, I, I, I, I, I, I, I, I, I, I, I, I⟩, ?_, rfl⟩
  rotate_left 1
  replace h1 := ndf h1
  refine W.skip ?_
  refine g 5 9 [.call (workerO { number := Worker.number w, epoch := Worker.epoch w, up := Worker.up w, state := (0 : Int), lease := (0 : Int), task := (0 : Int), cost := (0 : Int), left := (0 : Int), inputs := [], text := emp, since := (0 : Int) : Worker }) ([[], []])] ?_
  conv => whnf
  refine ⟨⟨I, ⟨⟨I, I, I⟩, I, ⟨⟨I, I, I, I, I, I, I, I, I, I, I, I⟩, ⟨I, I⟩, I⟩, ⟨I, I⟩, Go.K.c_impl_Worker_freed _ _⟩, ⟨I, I, I, I, I, I, I, I, I, I, I, I⟩, I⟩, ?_⟩
  refine g 9 10 [] ?_
  conv => whnf
  refine ⟨⟨I, ⟨I, I⟩, I⟩, ?_⟩
  refine g 1 2 [] ?_
  conv => whnf
  refine ⟨⟨I, ⟨I, I, I, I, I, I, I, I, I, I, I, I⟩, I⟩, ?_⟩
  refine W.ret ?_
  refine EndsW.rt ?_
  conv => whnf
  refine ⟨⟨I, I, I, I, I, I, I, I, I, I, I, I, I⟩, ?_, rfl⟩
  rotate_left 1
  · exact congrArg workerO (Eq.symm (fall_no h1))
  · exact congrArg workerO (Eq.symm (fall_ok h1))
theorem c_spec_WorkerFall (w : Worker) (hl : w.inputs.length ≤ 1048576) : F n_spec_WorkerFall [.val (workerR w)] (workerO (wFall w)) [[]] := by
  refine i_spec_WorkerFall ?_
  conv => whnf
  refine g 0 1 [] ?_
  conv => whnf
  refine ⟨⟨⟨I, I, I, I, I, I, I, I, I, I, I, I⟩, I, I⟩, ?_⟩
  refine W.sq ?_
  refine g 4 6 [.call (V.b (decide (workerOk w))) ([[]])] ?_
  conv => whnf
  refine ⟨⟨I, ⟨⟨I, I⟩, I, ⟨⟨I, I, I, I, I, I, I, I, I, I, I, I⟩, I⟩, ⟨I, I⟩, Go.K.c_spec_ValidWorker _ (by omega)⟩, I, I⟩, ?_⟩
  refine W.cn ?_
  conv => whnf
  refine ⟨fun h1 => ?_, fun h1 => ?_⟩
  replace h1 := ndt h1
  refine g 6 8 [] ?_
  conv => whnf
  refine ⟨⟨I, ⟨I, I, I, I, I, I, I, I, I, I, I, I⟩, I⟩, ?_⟩
  refine W.ret ?_
  refine EndsW.rt ?_
  conv => whnf
  refine ⟨⟨I, I, I, I, I, I, I, I, I, I, I, I, I⟩, ?_, rfl⟩
  rotate_left 1
  replace h1 := ndf h1
  refine W.skip ?_
  refine g 6 10 [.call (workerO { number := Worker.number w, epoch := Worker.epoch w, up := Worker.up w, state := (0 : Int), lease := (0 : Int), task := (0 : Int), cost := (0 : Int), left := (0 : Int), inputs := [], text := emp, since := (0 : Int) : Worker }) ([[], []])] ?_
  conv => whnf
  refine ⟨⟨I, ⟨⟨I, I, I⟩, I, ⟨⟨I, I, I, I, I, I, I, I, I, I, I, I⟩, ⟨I, I⟩, I⟩, ⟨I, I⟩, Go.K.c_spec_l3Free _ _⟩, I, ⟨I, I, I, I, I, I, I, I, I, I, I, I⟩, I⟩, ?_⟩
  refine g 1 2 [] ?_
  conv => whnf
  refine ⟨⟨I, ⟨I, I⟩, I⟩, ?_⟩
  refine g 3 12 [] ?_
  conv => whnf
  refine ⟨⟨I, ⟨I, I, I, I, I, I, I, I, I, I, I, I⟩, I⟩, ?_⟩
  refine W.ret ?_
  refine EndsW.rt ?_
  conv => whnf
  refine ⟨⟨I, I, I, I, I, I, I, I, I, I, I, I, I⟩, ?_, rfl⟩
  rotate_left 1
  · exact congrArg workerO (Eq.symm (fall_no h1))
  · exact congrArg workerO (Eq.symm (fall_ok h1))
theorem ok_epoch {w : Worker} (h : workerOk w) : 1 ≤ w.epoch ∧ w.epoch ≤ 300 := h.2.1
theorem rise_no {w : Worker} (h : ¬ workerOk w) : wRise w = noWorker := if_neg h
theorem rise_same {w : Worker} (h : workerOk w) (h1 : w.up = true ∨ 300 ≤ w.epoch) : wRise w = w := by rw [wRise, if_pos h, if_pos h1]
theorem rise_up {w : Worker} (h : workerOk w) (h1 : ¬ (w.up = true ∨ 300 ≤ w.epoch)) : wRise w = ⟨w.number, w.epoch + 1, true, 0, 0, 0, 0, 0, [], emp, 3⟩ := by rw [wRise, if_pos h, if_neg h1]
theorem c_impl_WorkerRise (w : Worker) (hl : w.inputs.length ≤ 1048576) : F n_impl_WorkerRise [.val (workerR w)] (workerO (wRise w)) [[]] := by
  by_cases h : workerOk w
  · have he := ok_epoch h
    refine i_impl_WorkerRise ?_
    conv => whnf
    refine g 0 0 [] ?_
    conv => whnf
    refine ⟨⟨⟨I, I, I, I, I, I, I, I, I, I, I, I⟩, I, I⟩, ?_⟩
    refine W.sq ?_
    refine g 3 5 [.call (V.b (decide (workerOk w))) ([[]])] ?_
    conv => whnf
    refine ⟨⟨I, ⟨⟨I, I⟩, I, ⟨⟨I, I, I, I, I, I, I, I, I, I, I, I⟩, I⟩, ⟨I, I⟩, Go.K.c_impl_ValidWorker _ (by omega)⟩, I, I⟩, ?_⟩
    refine W.cn ?_
    conv => whnf
    refine ⟨noT (notF (by omega)), fun _ => ?_⟩
    refine W.skip ?_
    refine W.sq ?_
    by_cases h1 : Worker.up w = true
    refine g 5 10 [.b (true), .b (true), .b (true), .b (true)] ?_
    conv => whnf
    refine ⟨⟨I, I, I, (by assumption), (by assumption), (by assumption), (by assumption), I⟩, ?_⟩
    refine W.cn ?_
    conv => whnf
    refine ⟨fun _ => ?_, noF (rfl)⟩
    refine g 11 16 [.call (workerO w) ([[]])] ?_
    conv => whnf
    refine ⟨⟨I, ⟨⟨I, I⟩, I, ⟨⟨I, I, I, I, I, I, I, I, I, I, I, I⟩, I⟩, ⟨I, I⟩, Go.K.c_impl_Worker_twin _ (by omega)⟩, ⟨I, I, I, I, I, I, I, I, I, I, I, I⟩, I⟩, ?_⟩
    refine W.ret ?_
    refine EndsW.rt ?_
    conv => whnf
    refine ⟨⟨I, I, I, I, I, I, I, I, I, I, I, I, I⟩, ?_, rfl⟩
    rotate_left 1
    replace h1 := Bool.eq_false_iff.2 h1
    refine g 5 10 [.b (false), .b (false), .b (false), .b (false)] ?_
    conv => whnf
    refine ⟨⟨I, I, I, ⟨(by assumption), I⟩, ⟨(by assumption), I⟩, ⟨(by assumption), I⟩, (by assumption), I⟩, ?_⟩
    refine W.cn ?_
    conv => whnf
    refine ⟨fun h2 => ?_, fun h2 => ?_⟩
    replace h2 := dt h2
    refine g 11 16 [.call (workerO w) ([[]])] ?_
    conv => whnf
    refine ⟨⟨I, ⟨⟨I, I⟩, I, ⟨⟨I, I, I, I, I, I, I, I, I, I, I, I⟩, I⟩, ⟨I, I⟩, Go.K.c_impl_Worker_twin _ (by omega)⟩, ⟨I, I, I, I, I, I, I, I, I, I, I, I⟩, I⟩, ?_⟩
    refine W.ret ?_
    refine EndsW.rt ?_
    conv => whnf
    refine ⟨⟨I, I, I, I, I, I, I, I, I, I, I, I, I⟩, ?_, rfl⟩
    rotate_left 1
    replace h2 := df h2
    refine W.skip ?_
    refine g 10 22 [.i (Worker.epoch w + (1 : Int))] ?_
    conv => whnf
    refine ⟨⟨I, I, I, I, w64 (by omega) (by omega), I, ⟨I, I, I, I, I, I, I, I, I, I, I, I⟩, I⟩, ?_⟩
    refine W.ret ?_
    refine EndsW.rt ?_
    conv => whnf
    refine ⟨⟨I, I, I, I, I, I, I, I, I, I, I, I, I⟩, ?_, rfl⟩
    rotate_left 1
    · rw [rise_same h (by grind)]
    · rw [rise_same h (by grind)]
    · exact congrArg workerO (Eq.symm (rise_up h (by grind)))
  · refine i_impl_WorkerRise ?_
    conv => whnf
    refine g 0 0 [] ?_
    conv => whnf
    refine ⟨⟨⟨I, I, I, I, I, I, I, I, I, I, I, I⟩, I, I⟩, ?_⟩
    refine W.sq ?_
    refine g 3 5 [.call (V.b (decide (workerOk w))) ([[]])] ?_
    conv => whnf
    refine ⟨⟨I, ⟨⟨I, I⟩, I, ⟨⟨I, I, I, I, I, I, I, I, I, I, I, I⟩, I⟩, ⟨I, I⟩, Go.K.c_impl_ValidWorker _ (by omega)⟩, I, I⟩, ?_⟩
    refine W.cn ?_
    conv => whnf
    refine ⟨fun _ => ?_, noF (notT (by omega))⟩
    refine g 5 7 [] ?_
    conv => whnf
    refine ⟨⟨I, ⟨I, I, I, I, I, I, I, I, I, I, I, I⟩, I⟩, ?_⟩
    refine W.ret ?_
    refine EndsW.rt ?_
    conv => whnf
    refine ⟨⟨I, I, I, I, I, I, I, I, I, I, I, I, I⟩, ?_, rfl⟩
    exact congrArg workerO (Eq.symm (rise_no h))
theorem c_spec_WorkerRise (w : Worker) (hl : w.inputs.length ≤ 1048576) : F n_spec_WorkerRise [.val (workerR w)] (workerO (wRise w)) [[]] := by
  by_cases h : workerOk w
  · have he := ok_epoch h
    refine i_spec_WorkerRise ?_
    conv => whnf
    refine g 0 1 [] ?_
    conv => whnf
    refine ⟨⟨⟨I, I, I, I, I, I, I, I, I, I, I, I⟩, I, I⟩, ?_⟩
    refine W.sq ?_
    refine g 4 6 [.call (V.b (decide (workerOk w))) ([[]])] ?_
    conv => whnf
    refine ⟨⟨I, ⟨⟨I, I⟩, I, ⟨⟨I, I, I, I, I, I, I, I, I, I, I, I⟩, I⟩, ⟨I, I⟩, Go.K.c_spec_ValidWorker _ (by omega)⟩, I, I⟩, ?_⟩
    refine W.cn ?_
    conv => whnf
    refine ⟨noT (notF (by omega)), fun _ => ?_⟩
    refine W.skip ?_
    refine W.sq ?_
    by_cases h1 : Worker.up w = true
    refine g 6 14 [.b (true), .b (true), .b (true), .b (true)] ?_
    conv => whnf
    refine ⟨⟨I, I, I, (by assumption), (by assumption), (by assumption), (by assumption), I⟩, ?_⟩
    refine W.cn ?_
    conv => whnf
    refine ⟨fun _ => ?_, noF (rfl)⟩
    refine g 14 17 [.call (workerO w) ([[]])] ?_
    conv => whnf
    refine ⟨⟨I, ⟨⟨I, I⟩, I, ⟨⟨I, I, I, I, I, I, I, I, I, I, I, I⟩, I⟩, ⟨I, I⟩, Go.K.c_spec_l3Copy _ (by omega)⟩, ⟨I, I, I, I, I, I, I, I, I, I, I, I⟩, I⟩, ?_⟩
    refine W.ret ?_
    refine EndsW.rt ?_
    conv => whnf
    refine ⟨⟨I, I, I, I, I, I, I, I, I, I, I, I, I⟩, ?_, rfl⟩
    rotate_left 1
    replace h1 := Bool.eq_false_iff.2 h1
    refine g 6 14 [.b (false), .b (false), .b (false), .b (false)] ?_
    conv => whnf
    refine ⟨⟨I, I, I, ⟨(by assumption), I⟩, ⟨(by assumption), I⟩, ⟨(by assumption), I⟩, (by assumption), I⟩, ?_⟩
    refine W.cn ?_
    conv => whnf
    refine ⟨fun h2 => ?_, fun h2 => ?_⟩
    replace h2 := dt h2
    refine g 14 17 [.call (workerO w) ([[]])] ?_
    conv => whnf
    refine ⟨⟨I, ⟨⟨I, I⟩, I, ⟨⟨I, I, I, I, I, I, I, I, I, I, I, I⟩, I⟩, ⟨I, I⟩, Go.K.c_spec_l3Copy _ (by omega)⟩, ⟨I, I, I, I, I, I, I, I, I, I, I, I⟩, I⟩, ?_⟩
    refine W.ret ?_
    refine EndsW.rt ?_
    conv => whnf
    refine ⟨⟨I, I, I, I, I, I, I, I, I, I, I, I, I⟩, ?_, rfl⟩
    rotate_left 1
    replace h2 := df h2
    refine W.skip ?_
    refine g 14 19 [.call (workerO { number := Worker.number w, epoch := Worker.epoch w, up := Worker.up w, state := (0 : Int), lease := (0 : Int), task := (0 : Int), cost := (0 : Int), left := (0 : Int), inputs := [], text := emp, since := (3 : Int) : Worker }) ([[], []])] ?_
    conv => whnf
    refine ⟨⟨I, ⟨⟨I, I, I⟩, I, ⟨⟨I, I, I, I, I, I, I, I, I, I, I, I⟩, ⟨I, I⟩, I⟩, ⟨I, I⟩, Go.K.c_spec_l3Free _ _⟩, I, ⟨I, I, I, I, I, I, I, I, I, I, I, I⟩, I⟩, ?_⟩
    refine g 19 20 [] ?_
    conv => whnf
    refine ⟨⟨I, ⟨I, I⟩, I⟩, ?_⟩
    refine g 20 24 [.i (Worker.epoch w + (1 : Int))] ?_
    conv => whnf
    refine ⟨⟨I, I, w64 (by omega) (by omega), I, ⟨I, I⟩, I⟩, ?_⟩
    refine g 3 25 [] ?_
    conv => whnf
    refine ⟨⟨I, ⟨I, I, I, I, I, I, I, I, I, I, I, I⟩, I⟩, ?_⟩
    refine W.ret ?_
    refine EndsW.rt ?_
    conv => whnf
    refine ⟨⟨I, I, I, I, I, I, I, I, I, I, I, I, I⟩, ?_, rfl⟩
    rotate_left 1
    · rw [rise_same h (by grind)]
    · rw [rise_same h (by grind)]
    · exact congrArg workerO (Eq.symm (rise_up h (by grind)))
  · refine i_spec_WorkerRise ?_
    conv => whnf
    refine g 0 1 [] ?_
    conv => whnf
    refine ⟨⟨⟨I, I, I, I, I, I, I, I, I, I, I, I⟩, I, I⟩, ?_⟩
    refine W.sq ?_
    refine g 4 6 [.call (V.b (decide (workerOk w))) ([[]])] ?_
    conv => whnf
    refine ⟨⟨I, ⟨⟨I, I⟩, I, ⟨⟨I, I, I, I, I, I, I, I, I, I, I, I⟩, I⟩, ⟨I, I⟩, Go.K.c_spec_ValidWorker _ (by omega)⟩, I, I⟩, ?_⟩
    refine W.cn ?_
    conv => whnf
    refine ⟨fun _ => ?_, noF (notT (by omega))⟩
    refine g 6 8 [] ?_
    conv => whnf
    refine ⟨⟨I, ⟨I, I, I, I, I, I, I, I, I, I, I, I⟩, I⟩, ?_⟩
    refine W.ret ?_
    refine EndsW.rt ?_
    conv => whnf
    refine ⟨⟨I, I, I, I, I, I, I, I, I, I, I, I, I⟩, ?_, rfl⟩
    exact congrArg workerO (Eq.symm (rise_no h))
end Go.K

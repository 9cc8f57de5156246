/- Contracts of functions of the program: what each call answers. -/
import Derived.Test.YtcccigapbalidaaP
import Derived.Test.YtcccigapbalidaaWf1
set_option linter.unusedVariables false
set_option linter.unusedSimpArgs false
set_option maxHeartbeats 4000000
set_option maxRecDepth 20000
open Go Go.Tm Go.Proofs
namespace Go.K
theorem l_FnExactValidWorker (w : Worker) (hw : workerWf w) : F n_laws_FnExactValidWorker [.val (workerR w)] (.b true) [[]] := by
  have c0 := c_laws_szWorker w 1048576 hw (by omega) (by omega)
  by_cases hq : (1048576 : Int) - workerSz w < 0
  · rw [if_pos hq] at c0
    refine i_laws_FnExactValidWorker ?_
    conv => whnf
    refine g 0 1 [] ?_
    conv => whnf
    refine ⟨⟨⟨I, I, I, I, I, I, I, I, I, I, I, I⟩, I, I⟩, ?_⟩
    refine g 0 0 [] ?_
    conv => whnf
    refine ⟨⟨I, I⟩, ?_⟩
    refine g 7 10 [.call (V.i (-1 : Int)) ([[], []])] ?_
    conv => whnf
    refine ⟨⟨I, I, ⟨⟨I, I, I⟩, I, ⟨⟨I, I, I, I, I, I, I, I, I, I, I, I⟩, ⟨I, I⟩, I⟩, ⟨I, I⟩, (by assumption)⟩, I, I⟩, ?_⟩
    refine W.sq ?_
    refine g 3 11 [] ?_
    conv => whnf
    refine ⟨⟨I, I, I⟩, ?_⟩
    refine W.cn ?_
    conv => whnf
    refine ⟨fun _ => ?_, noF (rfl)⟩
    refine g 11 12 [] ?_
    conv => whnf
    refine ⟨⟨I, I⟩, ?_⟩
    refine W.ret ?_
    refine EndsW.rt ?_
    conv => whnf
    refine ⟨⟨I, I, I⟩, ?_, rfl⟩
    rfl
  · rw [if_neg hq] at c0
    have hl : w.inputs.length ≤ 9223372036854775806 := workerLen_of (a := w) (by omega)
    have hl2 := workerLen_of (a := w) (by omega)
    refine i_laws_FnExactValidWorker ?_
    conv => whnf
    refine g 0 1 [] ?_
    conv => whnf
    refine ⟨⟨⟨I, I, I, I, I, I, I, I, I, I, I, I⟩, I, I⟩, ?_⟩
    refine g 0 0 [] ?_
    conv => whnf
    refine ⟨⟨I, I⟩, ?_⟩
    refine g 7 10 [.call (V.i ((1048576 : Int) - workerSz w)) ([[], []])] ?_
    conv => whnf
    refine ⟨⟨I, I, ⟨⟨I, I, I⟩, I, ⟨⟨I, I, I, I, I, I, I, I, I, I, I, I⟩, ⟨I, I⟩, I⟩, ⟨I, I⟩, (by assumption)⟩, I, I⟩, ?_⟩
    refine W.sq ?_
    refine g 3 11 [] ?_
    conv => whnf
    refine ⟨⟨I, I, I⟩, ?_⟩
    refine W.cn ?_
    conv => whnf
    refine ⟨noT (decide_eq_false (by omega)), fun _ => ?_⟩
    refine W.skip ?_
    refine g 11 15 [.call (workerO w) ([[]]), .call (V.b (decide (workerOk w))) ([[]])] ?_
    conv => whnf
    refine ⟨⟨I, ⟨⟨I, I⟩, I, ⟨⟨I, I, I, I, I, I, I, I, I, I, I, I⟩, I⟩, ⟨I, I⟩, Go.K.c_laws_toWorker _ (by omega)⟩, ⟨⟨I, I⟩, I, ⟨⟨I, I, I, I, I, I, I, I, I, I, I, I⟩, I⟩, ⟨I, I⟩, Go.K.c_spec_ValidWorker _ (by omega)⟩, I, I⟩, ?_⟩
    refine g 15 17 [.call (workerO w) ([[]])] ?_
    conv => whnf
    refine ⟨⟨I, ⟨⟨I, I⟩, I, ⟨⟨I, I, I, I, I, I, I, I, I, I, I, I⟩, I⟩, ⟨I, I⟩, Go.K.c_laws_toWorker _ (by omega)⟩, I, ⟨I, I, I, I, I, I, I, I, I, I, I, I⟩, I⟩, ?_⟩
    refine g 17 19 [.call (V.b (decide (workerOk w))) ([[]])] ?_
    conv => whnf
    refine ⟨⟨I, ⟨⟨I, I⟩, I, ⟨⟨I, I, I, I, I, I, I, I, I, I, I, I⟩, I⟩, ⟨I, I⟩, Go.K.c_impl_ValidWorker _ (by omega)⟩, I, I⟩, ?_⟩
    refine W.sq ?_
    refine g 6 21 [] ?_
    conv => whnf
    refine ⟨⟨I, I, I, I⟩, ?_⟩
    refine W.cn ?_
    conv => whnf
    refine ⟨noT (notF rfl), fun _ => ?_⟩
    refine W.skip ?_
    refine W.sq ?_
    refine gd 5 26 [[], [], [.call (workerO w) ([[]])], [.call (V.b (decide (w = w))) ([[], []])], []] ?_
    conv => whnf
    refine ⟨⟨I, I, ⟨⟨I, I⟩, I, ⟨⟨I, I, I, I, I, I, I, I, I, I, I, I⟩, I⟩, ⟨I, I⟩, Go.K.c_laws_toWorker _ (by omega)⟩, ⟨⟨I, I, I⟩, I, ⟨⟨I, I, I, I, I, I, I, I, I, I, I, I⟩, ⟨I, I, I, I, I, I, I, I, I, I, I, I⟩, I⟩, ⟨I, I⟩, Go.K.c_laws_eqWorker _ _ (by omega)⟩, I, I⟩, by kernel_rfl, ?_⟩
    refine W.cn ?_
    conv => whnf
    refine ⟨noT (notF rfl), fun _ => ?_⟩
    refine W.skip ?_
    refine g 1 2 [] ?_
    conv => whnf
    refine ⟨⟨I, I⟩, ?_⟩
    refine W.ret ?_
    refine EndsW.rt ?_
    conv => whnf
    refine ⟨⟨I, I, I⟩, ?_, rfl⟩
    rfl
theorem fall_len {w : Worker} : (wFall w).inputs.length = 0 := by unfold wFall; split <;> rfl
theorem rise_len (w : Worker) : (wRise w).inputs.length ≤ w.inputs.length := by
  unfold wRise; split
  · split
    · exact Nat.le_refl _
    · exact Nat.zero_le _
  · exact Nat.zero_le _
theorem l_FnExactWorkerFall (w : Worker) (hw : workerWf w) : F n_laws_FnExactWorkerFall [.val (workerR w)] (.b true) [[]] := by
  have c0 := c_laws_szWorker w 1048576 hw (by omega) (by omega)
  by_cases hq : (1048576 : Int) - workerSz w < 0
  · rw [if_pos hq] at c0
    refine i_laws_FnExactWorkerFall ?_
    conv => whnf
    refine g 0 1 [] ?_
    conv => whnf
    refine ⟨⟨⟨I, I, I, I, I, I, I, I, I, I, I, I⟩, I, I⟩, ?_⟩
    refine g 0 0 [] ?_
    conv => whnf
    refine ⟨⟨I, I⟩, ?_⟩
    refine g 11 14 [.call (V.i (-1 : Int)) ([[], []])] ?_
    conv => whnf
    refine ⟨⟨I, I, ⟨⟨I, I, I⟩, I, ⟨⟨I, I, I, I, I, I, I, I, I, I, I, I⟩, ⟨I, I⟩, I⟩, ⟨I, I⟩, (by assumption)⟩, I, I⟩, ?_⟩
    refine W.sq ?_
    refine g 3 15 [] ?_
    conv => whnf
    refine ⟨⟨I, I, I⟩, ?_⟩
    refine W.cn ?_
    conv => whnf
    refine ⟨fun _ => ?_, noF (rfl)⟩
    refine g 15 16 [] ?_
    conv => whnf
    refine ⟨⟨I, I⟩, ?_⟩
    refine W.ret ?_
    refine EndsW.rt ?_
    conv => whnf
    refine ⟨⟨I, I, I⟩, ?_, rfl⟩
    rfl
  · rw [if_neg hq] at c0
    have hz : workerSz w = (w.inputs.length + totS w.inputs) + w.text.size := rfl
    have hn := totS_nn w.inputs
    have hl : w.inputs.length ≤ 1048576 := by omega
    have hl2 : workerLen w := workerLen_of (a := w) (by omega)
    have hf := fall_len (w := w)
    have hl3 : workerLen (wFall w) := by unfold workerLen; omega
    have hc : workerTopC w = w.inputs.length := rfl
    have hc2 : workerTopC (wFall w) = (wFall w).inputs.length := rfl
    refine i_laws_FnExactWorkerFall ?_
    conv => whnf
    refine g 0 1 [] ?_
    conv => whnf
    refine ⟨⟨⟨I, I, I, I, I, I, I, I, I, I, I, I⟩, I, I⟩, ?_⟩
    refine g 0 0 [] ?_
    conv => whnf
    refine ⟨⟨I, I⟩, ?_⟩
    refine g 11 14 [.call (V.i ((1048576 : Int) - workerSz w)) ([[], []])] ?_
    conv => whnf
    refine ⟨⟨I, I, ⟨⟨I, I, I⟩, I, ⟨⟨I, I, I, I, I, I, I, I, I, I, I, I⟩, ⟨I, I⟩, I⟩, ⟨I, I⟩, (by assumption)⟩, I, I⟩, ?_⟩
    refine W.sq ?_
    refine g 3 15 [] ?_
    conv => whnf
    refine ⟨⟨I, I, I⟩, ?_⟩
    refine W.cn ?_
    conv => whnf
    refine ⟨noT (decide_eq_false (by omega)), fun _ => ?_⟩
    refine W.skip ?_
    refine g 15 19 [.call (workerO w) ([[]]), .call (workerO (wFall w)) ([[]])] ?_
    conv => whnf
    refine ⟨⟨I, ⟨⟨I, I⟩, I, ⟨⟨I, I, I, I, I, I, I, I, I, I, I, I⟩, I⟩, ⟨I, I⟩, Go.K.c_laws_toWorker _ (by omega)⟩, ⟨⟨I, I⟩, I, ⟨⟨I, I, I, I, I, I, I, I, I, I, I, I⟩, I⟩, ⟨I, I⟩, Go.K.c_spec_WorkerFall _ (by omega)⟩, I, ⟨I, I, I, I, I, I, I, I, I, I, I, I⟩, I⟩, ?_⟩
    refine g 19 21 [.call (workerO w) ([[]])] ?_
    conv => whnf
    refine ⟨⟨I, ⟨⟨I, I⟩, I, ⟨⟨I, I, I, I, I, I, I, I, I, I, I, I⟩, I⟩, ⟨I, I⟩, Go.K.c_laws_toWorker _ (by omega)⟩, I, ⟨I, I, I, I, I, I, I, I, I, I, I, I⟩, I⟩, ?_⟩
    refine g 21 23 [.call (workerO (wFall w)) ([[]])] ?_
    conv => whnf
    refine ⟨⟨I, ⟨⟨I, I⟩, I, ⟨⟨I, I, I, I, I, I, I, I, I, I, I, I⟩, I⟩, ⟨I, I⟩, Go.K.c_impl_WorkerFall _ (by omega)⟩, I, ⟨I, I, I, I, I, I, I, I, I, I, I, I⟩, I⟩, ?_⟩
    refine W.sq ?_
    refine g 23 26 [.call (V.b (decide (wFall w = wFall w))) ([[], []])] ?_
    conv => whnf
    refine ⟨⟨I, I, ⟨⟨I, I, I⟩, I, ⟨⟨I, I, I, I, I, I, I, I, I, I, I, I⟩, ⟨I, I, I, I, I, I, I, I, I, I, I, I⟩, I⟩, ⟨I, I⟩, Go.K.c_laws_eqWorker _ _ (by omega)⟩, I, I⟩, ?_⟩
    refine W.cn ?_
    conv => whnf
    refine ⟨noT (notF rfl), fun _ => ?_⟩
    refine W.skip ?_
    refine W.sq ?_
    refine gd 26 31 [[], [], [.call (workerO w) ([[]])], [.call (V.b (decide (w = w))) ([[], []])], []] ?_
    conv => whnf
    refine ⟨⟨I, I, ⟨⟨I, I⟩, I, ⟨⟨I, I, I, I, I, I, I, I, I, I, I, I⟩, I⟩, ⟨I, I⟩, Go.K.c_laws_toWorker _ (by omega)⟩, ⟨⟨I, I, I⟩, I, ⟨⟨I, I, I, I, I, I, I, I, I, I, I, I⟩, ⟨I, I, I, I, I, I, I, I, I, I, I, I⟩, I⟩, ⟨I, I⟩, Go.K.c_laws_eqWorker _ _ (by omega)⟩, I, I⟩, by kernel_rfl, ?_⟩
    refine W.cn ?_
    conv => whnf
    refine ⟨noT (notF rfl), fun _ => ?_⟩
    refine W.skip ?_
    refine g 31 32 [] ?_
    conv => whnf
    refine ⟨⟨I, I⟩, ?_⟩
    refine g 32 35 [.call (V.i ((1 : Int) + workerTopC w)) ([cellsOf (workerO (workerTop (1 : Int) w)), []])] ?_
    conv => whnf
    refine ⟨⟨I, I, ⟨⟨⟨I, I, I, I, I, I, I, I, I, I, I, I⟩, I, I⟩, I, ⟨I, ⟨I, I⟩, I⟩, ⟨I, I⟩, Go.K.c_laws_markWorker _ _ (by omega) (by omega) (by omega)⟩, I, I⟩, ?_⟩
    refine W.sq ?_
    refine g 7 42 [.b (false), .b (false), .b (false), .call (V.b (decide (wFall w = wFall w))) ([[], []]), .b (false), .b (false)] ?_
    conv => whnf
    refine ⟨⟨I, I, I, ⟨rfl, I⟩, ⟨rfl, I⟩, ⟨rfl, ⟨I, I, I⟩, I, ⟨⟨I, I, I, I, I, I, I, I, I, I, I, I⟩, ⟨I, I, I, I, I, I, I, I, I, I, I, I⟩, I⟩, ⟨I, I⟩, Go.K.c_laws_eqWorker _ _ (by omega)⟩, ⟨rfl, I⟩, rfl, I⟩, ?_⟩
    refine W.cn ?_
    conv => whnf
    refine ⟨noT (by assumption), fun _ => ?_⟩
    refine W.skip ?_
    refine g 5 6 [] ?_
    conv => whnf
    refine ⟨⟨I, I⟩, ?_⟩
    refine g 42 46 [.call (V.i ((1 : Int) + workerTopC (wFall w))) ([cellsOf (workerO (workerTop (1 : Int) (wFall w))), []])] ?_
    conv => whnf
    refine ⟨⟨I, I, ⟨⟨⟨I, I, I, I, I, I, I, I, I, I, I, I⟩, I, I⟩, I, ⟨I, ⟨I, I⟩, I⟩, ⟨I, I⟩, Go.K.c_laws_markWorker _ _ (by omega) (by omega) (by omega)⟩, I, I⟩, ?_⟩
    refine g 0 0 [] ?_
    conv => whnf
    refine ⟨⟨I, I⟩, ?_⟩
    refine g 46 49 [.call (V.i ((1 : Int) + workerTopC (wFall w))) ([[], []])] ?_
    conv => whnf
    refine ⟨⟨I, I, ⟨⟨I, I, I⟩, I, ⟨⟨I, I, I, I, I, I, I, I, I, I, I, I⟩, ⟨I, I⟩, I⟩, ⟨I, I⟩, Go.K.c_laws_heldWorker _ _ (by omega) (by omega) (by omega)⟩, I, I⟩, ?_⟩
    refine W.sq ?_
    refine g 49 50 [] ?_
    conv => whnf
    refine ⟨⟨I, I, I⟩, ?_⟩
    refine W.cn ?_
    conv => whnf
    refine ⟨noT (rfl), fun _ => ?_⟩
    refine W.skip ?_
    refine W.sq ?_
    refine g 50 53 [] ?_
    conv => whnf
    refine ⟨⟨I, I, I, I⟩, ?_⟩
    refine W.cn ?_
    conv => whnf
    refine ⟨noT (notF (by omega)), fun _ => ?_⟩
    refine W.skip ?_
    refine g 53 57 [.call (workerO w) ([[]]), .call (workerO (wFall w)) ([[]])] ?_
    conv => whnf
    refine ⟨⟨I, ⟨⟨I, I⟩, I, ⟨⟨I, I, I, I, I, I, I, I, I, I, I, I⟩, I⟩, ⟨I, I⟩, Go.K.c_laws_toWorker _ (by omega)⟩, ⟨⟨I, I⟩, I, ⟨⟨I, I, I, I, I, I, I, I, I, I, I, I⟩, I⟩, ⟨I, I⟩, Go.K.c_impl_WorkerFall _ (by omega)⟩, I, ⟨I, I, I, I, I, I, I, I, I, I, I, I⟩, I⟩, ?_⟩
    refine W.sq ?_
    refine g 10 60 [.call (V.b (decide (wFall w = wFall w))) ([[], []])] ?_
    conv => whnf
    refine ⟨⟨I, I, ⟨⟨I, I, I⟩, I, ⟨⟨I, I, I, I, I, I, I, I, I, I, I, I⟩, ⟨I, I, I, I, I, I, I, I, I, I, I, I⟩, I⟩, ⟨I, I⟩, Go.K.c_laws_eqWorker _ _ (by omega)⟩, I, I⟩, ?_⟩
    refine W.cn ?_
    conv => whnf
    refine ⟨noT (by assumption), fun _ => ?_⟩
    refine W.skip ?_
    refine g 1 2 [] ?_
    conv => whnf
    refine ⟨⟨I, I⟩, ?_⟩
    refine g 60 64 [.call (V.i ((1 : Int) + workerTopC (wFall w))) ([[], []])] ?_
    conv => whnf
    refine ⟨⟨I, I, ⟨⟨I, I, I⟩, I, ⟨⟨I, I, I, I, I, I, I, I, I, I, I, I⟩, ⟨I, I⟩, I⟩, ⟨I, I⟩, Go.K.c_laws_heldWorker _ _ (by omega) (by omega) (by omega)⟩, I, I⟩, ?_⟩
    refine W.sq ?_
    refine g 6 7 [] ?_
    conv => whnf
    refine ⟨⟨I, I, I⟩, ?_⟩
    refine W.cn ?_
    conv => whnf
    refine ⟨noT (rfl), fun _ => ?_⟩
    refine W.skip ?_
    refine W.sq ?_
    refine g 8 68 [] ?_
    conv => whnf
    refine ⟨⟨I, I, I, I⟩, ?_⟩
    refine W.cn ?_
    conv => whnf
    refine ⟨noT (by assumption), fun _ => ?_⟩
    refine W.skip ?_
    refine g 68 69 [] ?_
    conv => whnf
    refine ⟨⟨I, I⟩, ?_⟩
    refine W.ret ?_
    refine EndsW.rt ?_
    conv => whnf
    refine ⟨⟨I, I, I⟩, ?_, rfl⟩
    rfl
theorem l_FnExactWorkerRise (w : Worker) (hw : workerWf w) : F n_laws_FnExactWorkerRise [.val (workerR w)] (.b true) [[]] := by
  have c0 := c_laws_szWorker w 1048576 hw (by omega) (by omega)
  by_cases hq : (1048576 : Int) - workerSz w < 0
  · rw [if_pos hq] at c0
    refine i_laws_FnExactWorkerRise ?_
    conv => whnf
    refine g 0 1 [] ?_
    conv => whnf
    refine ⟨⟨⟨I, I, I, I, I, I, I, I, I, I, I, I⟩, I, I⟩, ?_⟩
    refine g 0 0 [] ?_
    conv => whnf
    refine ⟨⟨I, I⟩, ?_⟩
    refine g 11 14 [.call (V.i (-1 : Int)) ([[], []])] ?_
    conv => whnf
    refine ⟨⟨I, I, ⟨⟨I, I, I⟩, I, ⟨⟨I, I, I, I, I, I, I, I, I, I, I, I⟩, ⟨I, I⟩, I⟩, ⟨I, I⟩, (by assumption)⟩, I, I⟩, ?_⟩
    refine W.sq ?_
    refine g 3 15 [] ?_
    conv => whnf
    refine ⟨⟨I, I, I⟩, ?_⟩
    refine W.cn ?_
    conv => whnf
    refine ⟨fun _ => ?_, noF (rfl)⟩
    refine g 15 16 [] ?_
    conv => whnf
    refine ⟨⟨I, I⟩, ?_⟩
    refine W.ret ?_
    refine EndsW.rt ?_
    conv => whnf
    refine ⟨⟨I, I, I⟩, ?_, rfl⟩
    rfl
  · rw [if_neg hq] at c0
    have hz : workerSz w = (w.inputs.length + totS w.inputs) + w.text.size := rfl
    have hn := totS_nn w.inputs
    have hl : w.inputs.length ≤ 1048576 := by omega
    have hl2 : workerLen w := workerLen_of (a := w) (by omega)
    have hf := rise_len w
    have hl3 : workerLen (wRise w) := by unfold workerLen; omega
    have hc : workerTopC w = w.inputs.length := rfl
    have hc2 : workerTopC (wRise w) = (wRise w).inputs.length := rfl
    refine i_laws_FnExactWorkerRise ?_
    conv => whnf
    refine g 0 1 [] ?_
    conv => whnf
    refine ⟨⟨⟨I, I, I, I, I, I, I, I, I, I, I, I⟩, I, I⟩, ?_⟩
    refine g 0 0 [] ?_
    conv => whnf
    refine ⟨⟨I, I⟩, ?_⟩
    refine g 11 14 [.call (V.i ((1048576 : Int) - workerSz w)) ([[], []])] ?_
    conv => whnf
    refine ⟨⟨I, I, ⟨⟨I, I, I⟩, I, ⟨⟨I, I, I, I, I, I, I, I, I, I, I, I⟩, ⟨I, I⟩, I⟩, ⟨I, I⟩, (by assumption)⟩, I, I⟩, ?_⟩
    refine W.sq ?_
    refine g 3 15 [] ?_
    conv => whnf
    refine ⟨⟨I, I, I⟩, ?_⟩
    refine W.cn ?_
    conv => whnf
    refine ⟨noT (decide_eq_false (by omega)), fun _ => ?_⟩
    refine W.skip ?_
    refine g 15 19 [.call (workerO w) ([[]]), .call (workerO (wRise w)) ([[]])] ?_
    conv => whnf
    refine ⟨⟨I, ⟨⟨I, I⟩, I, ⟨⟨I, I, I, I, I, I, I, I, I, I, I, I⟩, I⟩, ⟨I, I⟩, Go.K.c_laws_toWorker _ (by omega)⟩, ⟨⟨I, I⟩, I, ⟨⟨I, I, I, I, I, I, I, I, I, I, I, I⟩, I⟩, ⟨I, I⟩, Go.K.c_spec_WorkerRise _ (by omega)⟩, I, ⟨I, I, I, I, I, I, I, I, I, I, I, I⟩, I⟩, ?_⟩
    refine g 19 21 [.call (workerO w) ([[]])] ?_
    conv => whnf
    refine ⟨⟨I, ⟨⟨I, I⟩, I, ⟨⟨I, I, I, I, I, I, I, I, I, I, I, I⟩, I⟩, ⟨I, I⟩, Go.K.c_laws_toWorker _ (by omega)⟩, I, ⟨I, I, I, I, I, I, I, I, I, I, I, I⟩, I⟩, ?_⟩
    refine g 21 23 [.call (workerO (wRise w)) ([[]])] ?_
    conv => whnf
    refine ⟨⟨I, ⟨⟨I, I⟩, I, ⟨⟨I, I, I, I, I, I, I, I, I, I, I, I⟩, I⟩, ⟨I, I⟩, Go.K.c_impl_WorkerRise _ (by omega)⟩, I, ⟨I, I, I, I, I, I, I, I, I, I, I, I⟩, I⟩, ?_⟩
    refine W.sq ?_
    refine g 23 26 [.call (V.b (decide (wRise w = wRise w))) ([[], []])] ?_
    conv => whnf
    refine ⟨⟨I, I, ⟨⟨I, I, I⟩, I, ⟨⟨I, I, I, I, I, I, I, I, I, I, I, I⟩, ⟨I, I, I, I, I, I, I, I, I, I, I, I⟩, I⟩, ⟨I, I⟩, Go.K.c_laws_eqWorker _ _ (by omega)⟩, I, I⟩, ?_⟩
    refine W.cn ?_
    conv => whnf
    refine ⟨noT (notF rfl), fun _ => ?_⟩
    refine W.skip ?_
    refine W.sq ?_
    refine gd 26 31 [[], [], [.call (workerO w) ([[]])], [.call (V.b (decide (w = w))) ([[], []])], []] ?_
    conv => whnf
    refine ⟨⟨I, I, ⟨⟨I, I⟩, I, ⟨⟨I, I, I, I, I, I, I, I, I, I, I, I⟩, I⟩, ⟨I, I⟩, Go.K.c_laws_toWorker _ (by omega)⟩, ⟨⟨I, I, I⟩, I, ⟨⟨I, I, I, I, I, I, I, I, I, I, I, I⟩, ⟨I, I, I, I, I, I, I, I, I, I, I, I⟩, I⟩, ⟨I, I⟩, Go.K.c_laws_eqWorker _ _ (by omega)⟩, I, I⟩, by kernel_rfl, ?_⟩
    refine W.cn ?_
    conv => whnf
    refine ⟨noT (notF rfl), fun _ => ?_⟩
    refine W.skip ?_
    refine g 31 32 [] ?_
    conv => whnf
    refine ⟨⟨I, I⟩, ?_⟩
    refine g 32 35 [.call (V.i ((1 : Int) + workerTopC w)) ([cellsOf (workerO (workerTop (1 : Int) w)), []])] ?_
    conv => whnf
    refine ⟨⟨I, I, ⟨⟨⟨I, I, I, I, I, I, I, I, I, I, I, I⟩, I, I⟩, I, ⟨I, ⟨I, I⟩, I⟩, ⟨I, I⟩, Go.K.c_laws_markWorker _ _ (by omega) (by omega) (by omega)⟩, I, I⟩, ?_⟩
    refine W.sq ?_
    refine g 7 42 [.b (false), .b (false), .b (false), .call (V.b (decide (wRise w = wRise w))) ([[], []]), .b (false), .b (false)] ?_
    conv => whnf
    refine ⟨⟨I, I, I, ⟨rfl, I⟩, ⟨rfl, I⟩, ⟨rfl, ⟨I, I, I⟩, I, ⟨⟨I, I, I, I, I, I, I, I, I, I, I, I⟩, ⟨I, I, I, I, I, I, I, I, I, I, I, I⟩, I⟩, ⟨I, I⟩, Go.K.c_laws_eqWorker _ _ (by omega)⟩, ⟨rfl, I⟩, rfl, I⟩, ?_⟩
    refine W.cn ?_
    conv => whnf
    refine ⟨noT (by assumption), fun _ => ?_⟩
    refine W.skip ?_
    refine g 5 6 [] ?_
    conv => whnf
    refine ⟨⟨I, I⟩, ?_⟩
    refine g 42 46 [.call (V.i ((1 : Int) + workerTopC (wRise w))) ([cellsOf (workerO (workerTop (1 : Int) (wRise w))), []])] ?_
    conv => whnf
    refine ⟨⟨I, I, ⟨⟨⟨I, I, I, I, I, I, I, I, I, I, I, I⟩, I, I⟩, I, ⟨I, ⟨I, I⟩, I⟩, ⟨I, I⟩, Go.K.c_laws_markWorker _ _ (by omega) (by omega) (by omega)⟩, I, I⟩, ?_⟩
    refine g 0 0 [] ?_
    conv => whnf
    refine ⟨⟨I, I⟩, ?_⟩
    refine g 46 49 [.call (V.i ((1 : Int) + workerTopC (wRise w))) ([[], []])] ?_
    conv => whnf
    refine ⟨⟨I, I, ⟨⟨I, I, I⟩, I, ⟨⟨I, I, I, I, I, I, I, I, I, I, I, I⟩, ⟨I, I⟩, I⟩, ⟨I, I⟩, Go.K.c_laws_heldWorker _ _ (by omega) (by omega) (by omega)⟩, I, I⟩, ?_⟩
    refine W.sq ?_
    refine g 49 50 [] ?_
    conv => whnf
    refine ⟨⟨I, I, I⟩, ?_⟩
    refine W.cn ?_
    conv => whnf
    refine ⟨noT (rfl), fun _ => ?_⟩
    refine W.skip ?_
    refine W.sq ?_
    refine g 50 53 [] ?_
    conv => whnf
    refine ⟨⟨I, I, I, I⟩, ?_⟩
    refine W.cn ?_
    conv => whnf
    refine ⟨noT (notF (by omega)), fun _ => ?_⟩
    refine W.skip ?_
    refine g 53 57 [.call (workerO w) ([[]]), .call (workerO (wRise w)) ([[]])] ?_
    conv => whnf
    refine ⟨⟨I, ⟨⟨I, I⟩, I, ⟨⟨I, I, I, I, I, I, I, I, I, I, I, I⟩, I⟩, ⟨I, I⟩, Go.K.c_laws_toWorker _ (by omega)⟩, ⟨⟨I, I⟩, I, ⟨⟨I, I, I, I, I, I, I, I, I, I, I, I⟩, I⟩, ⟨I, I⟩, Go.K.c_impl_WorkerRise _ (by omega)⟩, I, ⟨I, I, I, I, I, I, I, I, I, I, I, I⟩, I⟩, ?_⟩
    refine W.sq ?_
    refine g 10 60 [.call (V.b (decide (wRise w = wRise w))) ([[], []])] ?_
    conv => whnf
    refine ⟨⟨I, I, ⟨⟨I, I, I⟩, I, ⟨⟨I, I, I, I, I, I, I, I, I, I, I, I⟩, ⟨I, I, I, I, I, I, I, I, I, I, I, I⟩, I⟩, ⟨I, I⟩, Go.K.c_laws_eqWorker _ _ (by omega)⟩, I, I⟩, ?_⟩
    refine W.cn ?_
    conv => whnf
    refine ⟨noT (by assumption), fun _ => ?_⟩
    refine W.skip ?_
    refine g 1 2 [] ?_
    conv => whnf
    refine ⟨⟨I, I⟩, ?_⟩
    refine g 60 64 [.call (V.i ((1 : Int) + workerTopC (wRise w))) ([[], []])] ?_
    conv => whnf
    refine ⟨⟨I, I, ⟨⟨I, I, I⟩, I, ⟨⟨I, I, I, I, I, I, I, I, I, I, I, I⟩, ⟨I, I⟩, I⟩, ⟨I, I⟩, Go.K.c_laws_heldWorker _ _ (by omega) (by omega) (by omega)⟩, I, I⟩, ?_⟩
    refine W.sq ?_
    refine g 6 7 [] ?_
    conv => whnf
    refine ⟨⟨I, I, I⟩, ?_⟩
    refine W.cn ?_
    conv => whnf
    refine ⟨noT (rfl), fun _ => ?_⟩
    refine W.skip ?_
    refine W.sq ?_
    refine g 8 68 [] ?_
    conv => whnf
    refine ⟨⟨I, I, I, I⟩, ?_⟩
    refine W.cn ?_
    conv => whnf
    refine ⟨noT (by assumption), fun _ => ?_⟩
    refine W.skip ?_
    refine g 68 69 [] ?_
    conv => whnf
    refine ⟨⟨I, I⟩, ?_⟩
    refine W.ret ?_
    refine EndsW.rt ?_
    conv => whnf
    refine ⟨⟨I, I, I⟩, ?_, rfl⟩
    rfl
end Go.K

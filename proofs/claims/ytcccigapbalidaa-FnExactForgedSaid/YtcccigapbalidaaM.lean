/- Contracts of functions of the program: what each call answers. -/
import Derived.Test.YtcccigapbalidaaL
set_option linter.unusedVariables false
set_option linter.unusedSimpArgs false
set_option maxHeartbeats 4000000
set_option maxRecDepth 20000
open Go Go.Tm Go.Proofs
namespace Go.K
theorem c_laws_szWorker (x : Worker) (left : Int) (hw : workerWf x) (h : left ≤ 1048576) (h0 : 0 ≤ left) : F n_laws_szWorker [.val (workerR x), .val (.i left)] (.i (if left - workerSz x < 0 then -1 else left - workerSz x)) [[], []] := by
  have hn0 := totS_nn x.inputs
  obtain ⟨hw0, hw1, hw2⟩ := hw
  have hz : workerSz x = ((x.inputs.length : Int) + totS x.inputs) + (x.text.size : Int) := rfl
  refine i_laws_szWorker ?_
  conv => whnf
  refine g 0 1 [] ?_
  conv => whnf
  refine ⟨⟨⟨I, I, I, I, I, I, I, I, I, I, I, I⟩, I, I⟩, ?_⟩
  refine g 5 9 [.call (V.i (if left - (↑(List.length (Worker.inputs x)) : Int) - totS (Worker.inputs x) < (0 : Int) then (-1 : Int) else left - (↑(List.length (Worker.inputs x)) : Int) - totS (Worker.inputs x))) ([[], []])] ?_
  conv => whnf
  refine ⟨⟨I, I, I, ⟨⟨I, I, I⟩, I, ⟨⟨I, I⟩, ⟨I, I⟩, I⟩, ⟨I, I⟩, Go.K.c_laws_szStringS _ _ (by omega) (by omega) (by omega) (by omega)⟩, I, I⟩, ?_⟩
  refine W.sq ?_
  refine g 9 10 [] ?_
  conv => whnf
  refine ⟨⟨I, I, I⟩, ?_⟩
  refine W.cn ?_
  conv => whnf
  refine ⟨fun h1 => ?_, fun h1 => ?_⟩
  replace h1 := dt h1
  refine g 10 11 [] ?_
  conv => whnf
  refine ⟨⟨I, I⟩, ?_⟩
  refine W.ret ?_
  refine EndsW.rt ?_
  conv => whnf
  refine ⟨⟨I, I, I⟩, ?_, rfl⟩
  exact vi (by omega)
  replace h1 := df h1
  refine W.skip ?_
  refine g 10 16 [.i ((if left - (↑(List.length (Worker.inputs x)) : Int) - totS (Worker.inputs x) < (0 : Int) then (-1 : Int) else left - (↑(List.length (Worker.inputs x)) : Int) - totS (Worker.inputs x)) - (↑(ByteArray.size (Worker.text x)) : Int))] ?_
  conv => whnf
  refine ⟨⟨I, I, I, I, w64 (by omega) (by omega), I, I⟩, ?_⟩
  refine W.sq ?_
  refine g 2 3 [] ?_
  conv => whnf
  refine ⟨⟨I, I, I⟩, ?_⟩
  refine W.cn ?_
  conv => whnf
  refine ⟨fun h2 => ?_, fun h2 => ?_⟩
  replace h2 := dt h2
  refine g 16 18 [] ?_
  conv => whnf
  refine ⟨⟨I, I⟩, ?_⟩
  refine W.ret ?_
  refine EndsW.rt ?_
  conv => whnf
  refine ⟨⟨I, I, I⟩, ?_, rfl⟩
  exact vi (by omega)
  replace h2 := df h2
  refine W.skip ?_
  refine g 16 19 [] ?_
  conv => whnf
  refine ⟨⟨I, I, I⟩, ?_⟩
  refine W.ret ?_
  refine EndsW.rt ?_
  conv => whnf
  refine ⟨⟨I, I, I⟩, ?_, rfl⟩
  exact vi (by omega)
theorem c_laws_toWorker (x : Worker) (h : workerSz x ≤ 1048576) : F n_laws_toWorker [.val (workerR x)] (workerO x) [[]] := by
  have hn0 := totS_nn x.inputs
  have hz : workerSz x = ((x.inputs.length : Int) + totS x.inputs) + (x.text.size : Int) := rfl
  refine i_laws_toWorker ?_
  conv => whnf
  refine g 0 1 [] ?_
  conv => whnf
  refine ⟨⟨⟨I, I, I, I, I, I, I, I, I, I, I, I⟩, I, I⟩, ?_⟩
  refine g 0 0 [] ?_
  conv => whnf
  refine ⟨⟨I, I⟩, ?_⟩
  refine g 4 7 [] ?_
  conv => whnf
  refine ⟨⟨I, I, I, ⟨I, I⟩, I⟩, ?_⟩
  refine g 7 10 [] ?_
  conv => whnf
  refine ⟨⟨I, I, I, ⟨I, I⟩, I⟩, ?_⟩
  refine g 10 13 [] ?_
  conv => whnf
  refine ⟨⟨I, I, I, ⟨I, I⟩, I⟩, ?_⟩
  refine g 13 16 [] ?_
  conv => whnf
  refine ⟨⟨I, I, I, ⟨I, I⟩, I⟩, ?_⟩
  refine g 16 19 [] ?_
  conv => whnf
  refine ⟨⟨I, I, I, ⟨I, I⟩, I⟩, ?_⟩
  refine g 19 22 [] ?_
  conv => whnf
  refine ⟨⟨I, I, I, ⟨I, I⟩, I⟩, ?_⟩
  refine g 22 25 [] ?_
  conv => whnf
  refine ⟨⟨I, I, I, ⟨I, I⟩, I⟩, ?_⟩
  refine g 25 28 [] ?_
  conv => whnf
  refine ⟨⟨I, I, I, ⟨I, I⟩, I⟩, ?_⟩
  refine g 28 32 [.call (V.own [false] (List.map strT (Worker.inputs x))) ([[]])] ?_
  conv => whnf
  refine ⟨⟨I, I, ⟨⟨I, I⟩, I, ⟨⟨I, I⟩, I⟩, ⟨I, I⟩, Go.K.c_laws_toStringS _ (by omega)⟩, I, ⟨I, I⟩, I⟩, ?_⟩
  refine g 32 35 [] ?_
  conv => whnf
  refine ⟨⟨I, I, I, ⟨I, I⟩, I⟩, ?_⟩
  refine g 35 38 [] ?_
  conv => whnf
  refine ⟨⟨I, I, I, ⟨I, I⟩, I⟩, ?_⟩
  refine g 3 39 [] ?_
  conv => whnf
  refine ⟨⟨I, ⟨I, I, I, I, I, I, I, I, I, I, I, I⟩, I⟩, ?_⟩
  refine W.ret ?_
  refine EndsW.rt ?_
  conv => whnf
  refine ⟨⟨I, I, I, I, I, I, I, I, I, I, I, I, I⟩, ?_, rfl⟩
  rfl
def workerLen (a : Worker) : Prop := a.inputs.length ≤ 9223372036854775806
theorem workerLen_of {a : Worker} (h : workerSz a ≤ 1048576) : workerLen a := by
  have := totS_nn a.inputs
  simp only [workerSz] at h
  simp only [workerLen]
  exact by omega
theorem c_laws_eqWorker (a b : Worker) (hl : workerLen a) : F n_laws_eqWorker [.val (workerR a), .val (workerR b)] (.b (decide (a = b))) [[], []] := by
  obtain ⟨a_number, a_epoch, a_up, a_state, a_lease, a_task, a_cost, a_left, a_inputs, a_text, a_since⟩ := a
  obtain ⟨b_number, b_epoch, b_up, b_state, b_lease, b_task, b_cost, b_left, b_inputs, b_text, b_since⟩ := b
  simp only [workerLen] at hl
  refine i_laws_eqWorker ?_
  conv => whnf
  refine g 0 2 [] ?_
  conv => whnf
  refine ⟨⟨⟨I, I, I, I, I, I, I, I, I, I, I, I⟩, ⟨I, I, I, I, I, I, I, I, I, I, I, I⟩, I, I⟩, ?_⟩
  refine W.sq ?_
  refine g 5 9 [] ?_
  conv => whnf
  refine ⟨⟨I, I, I, I, I, I⟩, ?_⟩
  refine W.cn ?_
  conv => whnf
  refine ⟨fun h1 => ?_, fun h1 => ?_⟩
  replace h1 := ndt h1
  refine g 9 10 [] ?_
  conv => whnf
  refine ⟨⟨I, I⟩, ?_⟩
  refine W.ret ?_
  refine EndsW.rt ?_
  conv => whnf
  refine ⟨⟨I, I, I⟩, ?_, rfl⟩
  rotate_left 1
  replace h1 := ndf h1
  refine W.skip ?_
  refine W.sq ?_
  refine g 9 14 [] ?_
  conv => whnf
  refine ⟨⟨I, I, I, I, I, I⟩, ?_⟩
  refine W.cn ?_
  conv => whnf
  refine ⟨fun h2 => ?_, fun h2 => ?_⟩
  replace h2 := ndt h2
  refine g 14 15 [] ?_
  conv => whnf
  refine ⟨⟨I, I⟩, ?_⟩
  refine W.ret ?_
  refine EndsW.rt ?_
  conv => whnf
  refine ⟨⟨I, I, I⟩, ?_, rfl⟩
  rotate_left 1
  replace h2 := ndf h2
  refine W.skip ?_
  refine W.sq ?_
  refine g 14 19 [] ?_
  conv => whnf
  refine ⟨⟨I, I, I, I, I, I⟩, ?_⟩
  refine W.cn ?_
  conv => whnf
  refine ⟨fun h3 => ?_, fun h3 => ?_⟩
  replace h3 := nbt h3
  refine g 19 20 [] ?_
  conv => whnf
  refine ⟨⟨I, I⟩, ?_⟩
  refine W.ret ?_
  refine EndsW.rt ?_
  conv => whnf
  refine ⟨⟨I, I, I⟩, ?_, rfl⟩
  rotate_left 1
  replace h3 := nbf h3
  refine W.skip ?_
  refine W.sq ?_
  refine g 19 24 [] ?_
  conv => whnf
  refine ⟨⟨I, I, I, I, I, I⟩, ?_⟩
  refine W.cn ?_
  conv => whnf
  refine ⟨fun h4 => ?_, fun h4 => ?_⟩
  replace h4 := ndt h4
  refine g 24 25 [] ?_
  conv => whnf
  refine ⟨⟨I, I⟩, ?_⟩
  refine W.ret ?_
  refine EndsW.rt ?_
  conv => whnf
  refine ⟨⟨I, I, I⟩, ?_, rfl⟩
  rotate_left 1
  replace h4 := ndf h4
  refine W.skip ?_
  refine W.sq ?_
  refine g 24 29 [] ?_
  conv => whnf
  refine ⟨⟨I, I, I, I, I, I⟩, ?_⟩
  refine W.cn ?_
  conv => whnf
  refine ⟨fun h5 => ?_, fun h5 => ?_⟩
  replace h5 := ndt h5
  refine g 29 30 [] ?_
  conv => whnf
  refine ⟨⟨I, I⟩, ?_⟩
  refine W.ret ?_
  refine EndsW.rt ?_
  conv => whnf
  refine ⟨⟨I, I, I⟩, ?_, rfl⟩
  rotate_left 1
  replace h5 := ndf h5
  refine W.skip ?_
  refine W.sq ?_
  refine g 29 34 [] ?_
  conv => whnf
  refine ⟨⟨I, I, I, I, I, I⟩, ?_⟩
  refine W.cn ?_
  conv => whnf
  refine ⟨fun h6 => ?_, fun h6 => ?_⟩
  replace h6 := ndt h6
  refine g 34 35 [] ?_
  conv => whnf
  refine ⟨⟨I, I⟩, ?_⟩
  refine W.ret ?_
  refine EndsW.rt ?_
  conv => whnf
  refine ⟨⟨I, I, I⟩, ?_, rfl⟩
  rotate_left 1
  replace h6 := ndf h6
  refine W.skip ?_
  refine W.sq ?_
  refine g 34 39 [] ?_
  conv => whnf
  refine ⟨⟨I, I, I, I, I, I⟩, ?_⟩
  refine W.cn ?_
  conv => whnf
  refine ⟨fun h7 => ?_, fun h7 => ?_⟩
  replace h7 := ndt h7
  refine g 39 40 [] ?_
  conv => whnf
  refine ⟨⟨I, I⟩, ?_⟩
  refine W.ret ?_
  refine EndsW.rt ?_
  conv => whnf
  refine ⟨⟨I, I, I⟩, ?_, rfl⟩
  rotate_left 1
  replace h7 := ndf h7
  refine W.skip ?_
  refine W.sq ?_
  refine g 39 44 [] ?_
  conv => whnf
  refine ⟨⟨I, I, I, I, I, I⟩, ?_⟩
  refine W.cn ?_
  conv => whnf
  refine ⟨fun h8 => ?_, fun h8 => ?_⟩
  replace h8 := ndt h8
  refine g 44 45 [] ?_
  conv => whnf
  refine ⟨⟨I, I⟩, ?_⟩
  refine W.ret ?_
  refine EndsW.rt ?_
  conv => whnf
  refine ⟨⟨I, I, I⟩, ?_, rfl⟩
  rotate_left 1
  replace h8 := ndf h8
  refine W.skip ?_
  refine W.sq ?_
  refine g 44 50 [.call (V.b (decide (a_inputs = b_inputs))) ([[], []])] ?_
  conv => whnf
  refine ⟨⟨I, I, I, I, ⟨⟨I, I, I⟩, I, ⟨⟨I, I⟩, ⟨I, I⟩, I⟩, ⟨I, I⟩, Go.K.c_laws_eqStringS _ _ (by omega)⟩, I, I⟩, ?_⟩
  refine W.cn ?_
  conv => whnf
  refine ⟨fun h9 => ?_, fun h9 => ?_⟩
  replace h9 := ndt h9
  refine g 50 51 [] ?_
  conv => whnf
  refine ⟨⟨I, I⟩, ?_⟩
  refine W.ret ?_
  refine EndsW.rt ?_
  conv => whnf
  refine ⟨⟨I, I, I⟩, ?_, rfl⟩
  rotate_left 1
  replace h9 := ndf h9
  refine W.skip ?_
  refine W.sq ?_
  refine g 50 55 [] ?_
  conv => whnf
  refine ⟨⟨I, I, I, I, I, I⟩, ?_⟩
  refine W.cn ?_
  conv => whnf
  refine ⟨fun h10 => ?_, fun h10 => ?_⟩
  replace h10 := ndt h10
  refine g 55 56 [] ?_
  conv => whnf
  refine ⟨⟨I, I⟩, ?_⟩
  refine W.ret ?_
  refine EndsW.rt ?_
  conv => whnf
  refine ⟨⟨I, I, I⟩, ?_, rfl⟩
  rotate_left 1
  replace h10 := ndf h10
  refine W.skip ?_
  refine W.sq ?_
  refine g 55 60 [] ?_
  conv => whnf
  refine ⟨⟨I, I, I, I, I, I⟩, ?_⟩
  refine W.cn ?_
  conv => whnf
  refine ⟨fun h11 => ?_, fun h11 => ?_⟩
  replace h11 := ndt h11
  refine g 2 4 [] ?_
  conv => whnf
  refine ⟨⟨I, I⟩, ?_⟩
  refine W.ret ?_
  refine EndsW.rt ?_
  conv => whnf
  refine ⟨⟨I, I, I⟩, ?_, rfl⟩
  rotate_left 1
  replace h11 := ndf h11
  refine W.skip ?_
  refine g 2 4 [] ?_
  conv => whnf
  refine ⟨⟨I, I⟩, ?_⟩
  refine W.ret ?_
  refine EndsW.rt ?_
  conv => whnf
  refine ⟨⟨I, I, I⟩, ?_, rfl⟩
  rotate_left 1
  all_goals (first | exact vbt (by simp_all; done) | exact vbf (by simp_all; done))
theorem c_laws_markStringS (xs : List ByteArray) (k : Int) (hl : xs.length ≤ 9223372036854775806) (h0 : 0 ≤ k) (hk : k + xs.length ≤ 1099511627776) : F n_laws_markStringS [.bor (.own [false] (xs.map strT)), .val (.i k)] (.i (k + xs.length)) [[.own [false] ((mkL (fun k _ => markT k) (fun _ => 1) k xs).map strT)], []] := by
  refine i_laws_markStringS ?_
  conv => whnf
  refine g 0 0 [] ?_
  conv => whnf
  refine ⟨⟨I, I⟩, ?_⟩
  refine W.sq ?_
  refine g 0 0 [] ?_
  conv => whnf
  refine ⟨⟨I, I⟩, ?_⟩
  refine W.blk ?_
  refine W.lp (fun s (n : Nat) => ⟨[(0, s.s 0), (1, .i (k + n)), (4, s.s 4), (5, .i n)], [(20, [.own [false] ((mkN (fun k _ => markT k) (fun _ => 1) k xs n).map strT)])], []⟩) (fun (n : Nat) => n ≤ xs.length) (fun (n : Nat) => xs.length - n) (0) [some 20] [] ⟨rfl, ⟨rfl, (congrArg (fun z => V.t (T.v (Value.int _ z))) (by simp [sumI])), rfl, rfl, I⟩, ⟨⟨rfl, ⟨rfl, I⟩⟩, I⟩, I⟩ (by omega) ?_
  intro n hn
  have hx := mkN_len (fun k _ => markT k) (fun _ => 1) k xs n
  have hs1 : ∀ x, xs[n]? = some x → ((mkN (fun k _ => markT k) (fun _ => 1) k xs n).map strT).set n (strT (markT (k + n))) = (mkN (fun k _ => markT k) (fun _ => 1) k xs (n + 1)).map strT := fun x hx => by
    have := mkN_setm (f := (fun k _ => markT k)) (c := (fun _ => 1)) (g := strT) (k := k) hx
    rw [sum_one, List.length_take, Nat.min_eq_left hn] at this; exact this
  conv => whnf
  refine W.sq ?_
  refine g 6 9 [] ?_
  conv => whnf
  refine ⟨⟨I, I, I, I, I⟩, ?_⟩
  refine W.cn ?_
  conv => whnf
  refine ⟨fun h1 => ?_, fun h1 => ?_⟩
  replace h1 := dt h1
  simp only [List.length_map] at h1
  refine W.skip ?_
  refine W.sq ?_
  refine W.blk ?_
  obtain ⟨y1, hy1⟩ := some_at (xs := xs) (n := n) (by omega)
  refine g 9 17 [.call (V.s (markT (k + (↑n : Int)))) ([[]]), .n (n), .x (strT y1)] ?_
  conv => whnf
  refine ⟨⟨I, I, I, ⟨⟨I, I⟩, I, ⟨⟨I, I⟩, I⟩, ⟨I, I⟩, Go.K.c_laws_markText _ (by omega)⟩, ⟨rfl, (by simp only [List.length_map, List.length_append, List.length_set, List.length_replicate, List.length_cons, List.length_nil, List.length_take, List.length_drop, fill_len, fillI_len, List.length_range, bytesT_len]; omega)⟩, ⟨⟨I, I⟩, mkN_getm (by assumption)⟩, I⟩, ?_⟩
  refine rg [.i (k + (↑n : Int) + (1 : Int))] ?_
  conv => whnf
  refine ⟨⟨I, w64 (by omega) (by omega), I, I⟩, ?_⟩
  refine rg [.i ((↑n : Int) + (1 : Int))] ?_
  conv => whnf
  refine ⟨⟨I, w64 (by omega) (by omega), I, I⟩, ?_⟩
  rotate_left 1
  replace h1 := df h1
  simp only [List.length_map] at h1
  refine W.exit ?_
  refine g 5 20 [] ?_
  conv => whnf
  refine ⟨⟨I, I, I⟩, ?_⟩
  refine W.ret ?_
  refine EndsW.rt ?_
  conv => whnf
  refine ⟨⟨I, I, I⟩, ?_, ?_⟩
  exact vi (by omega)
  rotate_left 1
  · refine ⟨n + 1, [some 20], [], ⟨rfl, ⟨rfl, (congrArg (fun z => V.t (T.v (Value.int _ z))) (by omega)), rfl, rfl, I⟩, ⟨⟨rfl, ⟨(congrArg (V.own _) (hs1 _ (by assumption))), I⟩⟩, I⟩, I⟩, ?_, ?_⟩
    rotate_left 1
    (dsimp only; omega)
    dsimp only
    omega
  · have e := mkN_all (fun k _ => markT k) (fun _ => 1) k xs (n := n) (by omega)
    rw [show n = xs.length by omega] at e ⊢
    rw [e]
theorem c_laws_heldStringS (xs : List ByteArray) (k : Int) (hl : xs.length ≤ 9223372036854775806) (h0 : 0 ≤ k) (hk : k + xs.length ≤ 1099511627776) : F n_laws_heldStringS [.val (.t (.slc [false] ((mkL (fun k _ => markT k) (fun _ => 1) k xs).map strT))), .val (.i k)] (.i (k + xs.length)) [[], []] := by
  have hx := mkL_len (fun k _ => markT k) (fun _ => 1) k xs
  refine i_laws_heldStringS ?_
  conv => whnf
  refine g 0 0 [] ?_
  conv => whnf
  refine ⟨⟨I, I⟩, ?_⟩
  refine W.sq ?_
  refine g 0 0 [] ?_
  conv => whnf
  refine ⟨⟨I, I⟩, ?_⟩
  refine W.blk ?_
  refine W.lp (fun s (n : Nat) => ⟨[(0, s.s 0), (1, .i (k + n)), (5, .i n)], [], []⟩) (fun (n : Nat) => n ≤ xs.length) (fun (n : Nat) => xs.length - n) (0) [] [] ⟨rfl, ⟨rfl, (congrArg (fun z => V.t (T.v (Value.int _ z))) (by simp [sumI])), rfl, I⟩, I, I⟩ (by omega) ?_
  intro n hn
  have hs1 : ∀ x, xs[n]? = some x → (mkL (fun k _ => markT k) (fun _ => 1) k xs)[n]? = some (markT (k + n)) := fun x hx => by
    have := mkL_get (f := (fun k _ => markT k)) (c := (fun _ => 1)) (k := k) hx
    rw [sum_one, List.length_take, Nat.min_eq_left hn] at this; exact this
  conv => whnf
  refine W.sq ?_
  refine g 6 9 [] ?_
  conv => whnf
  refine ⟨⟨I, I, I, I, I⟩, ?_⟩
  refine W.cn ?_
  conv => whnf
  refine ⟨fun h1 => ?_, fun h1 => ?_⟩
  replace h1 := dt h1
  simp only [List.length_map] at h1
  refine W.skip ?_
  refine W.sq ?_
  refine W.blk ?_
  refine W.sq ?_
  obtain ⟨y1, hy1⟩ := some_at (xs := xs) (n := n) (by omega)
  have hk1 := hs1 _ hy1
  refine gd 9 18 [[], [], [.x (strT (markT (k + (↑n : Int))))], [], [], [.call (V.s (markT (k + (↑n : Int)))) ([[]])], []] ?_
  conv => whnf
  refine ⟨⟨I, I, ⟨(by omega), ixl (by assumption)⟩, I, I, ⟨⟨I, I⟩, I, ⟨⟨I, I⟩, I⟩, ⟨I, I⟩, Go.K.c_laws_markText _ (by omega)⟩, I, I⟩, by kernel_rfl, ?_⟩
  refine W.cn ?_
  conv => whnf
  refine ⟨noT (notF rfl), fun _ => ?_⟩
  refine W.skip ?_
  refine rg [.i (k + (↑n : Int) + (1 : Int))] ?_
  conv => whnf
  refine ⟨⟨I, w64 (by omega) (by omega), I, I⟩, ?_⟩
  refine rg [.i ((↑n : Int) + (1 : Int))] ?_
  conv => whnf
  refine ⟨⟨I, w64 (by omega) (by omega), I, I⟩, ?_⟩
  rotate_left 1
  replace h1 := df h1
  simp only [List.length_map] at h1
  refine W.exit ?_
  refine g 5 22 [] ?_
  conv => whnf
  refine ⟨⟨I, I, I⟩, ?_⟩
  refine W.ret ?_
  refine EndsW.rt ?_
  conv => whnf
  refine ⟨⟨I, I, I⟩, ?_, rfl⟩
  exact vi (by omega)
  refine ⟨n + 1, [], [], ⟨rfl, ⟨rfl, (congrArg (fun z => V.t (T.v (Value.int _ z))) (by omega)), rfl, I⟩, I, I⟩, ?_, ?_⟩
  rotate_left 1
  (dsimp only; omega)
  dsimp only
  omega
def workerTop (k : Int) (x : Worker) : Worker := ⟨x.number, x.epoch, x.up, x.state, x.lease, x.task, x.cost, x.left, mkL (fun k _ => markT k) (fun _ => 1) (k) x.inputs, x.text, x.since⟩
def workerTopC (x : Worker) : Int := x.inputs.length
theorem workerTopC_nn (x : Worker) : 0 ≤ workerTopC x := by
  simp only [workerTopC]; omega
theorem c_laws_markWorker (x : Worker) (k : Int) (hl : x.inputs.length ≤ 9223372036854775806) (h0 : 0 ≤ k) (hk : k + workerTopC x ≤ 1099511627776) : F n_laws_markWorker [.bor (workerO x), .val (.i k)] (.i (k + workerTopC x)) [cellsOf (workerO (workerTop k x)), []] := by
  have hz : workerTopC x = _ := rfl
  simp only [workerTopC] at hz
  refine i_laws_markWorker ?_
  conv => whnf
  refine g 0 1 [] ?_
  conv => whnf
  refine ⟨⟨⟨I, I, I, I, I, I, I, I, I, I, I⟩, I, I⟩, ?_⟩
  refine g 5 9 [.call (V.i (k + (↑(List.length (Worker.inputs x)) : Int))) ([[V.own [false] (List.map strT (mkL (fun k x => markT k) (fun x => (1 : Int)) k (Worker.inputs x)))], []])] ?_
  conv => whnf
  refine ⟨⟨I, I, I, ⟨⟨⟨I, I⟩, I, I⟩, I, ⟨I, ⟨I, I⟩, I⟩, ⟨I, I⟩, Go.K.c_laws_markStringS _ _ (by assumption) (by assumption) (by assumption)⟩, I, I⟩, ?_⟩
  refine g 1 3 [] ?_
  conv => whnf
  refine ⟨⟨I, I, I⟩, ?_⟩
  refine W.ret ?_
  refine EndsW.rt ?_
  conv => whnf
  refine ⟨⟨I, I, I⟩, ?_, rfl⟩
  rfl
theorem c_laws_heldWorker (x : Worker) (k : Int) (hl : x.inputs.length ≤ 9223372036854775806) (h0 : 0 ≤ k) (hk : k + workerTopC x ≤ 1099511627776) : F n_laws_heldWorker [.val (workerR (workerTop k x)), .val (.i k)] (.i (k + workerTopC x)) [[], []] := by
  have hz : workerTopC x = _ := rfl
  simp only [workerTopC] at hz
  refine i_laws_heldWorker ?_
  conv => whnf
  refine g 0 1 [] ?_
  conv => whnf
  refine ⟨⟨⟨I, I, I, I, I, I, I, I, I, I, I, I⟩, I, I⟩, ?_⟩
  refine g 5 9 [.call (V.i (k + (↑(List.length (Worker.inputs x)) : Int))) ([[], []])] ?_
  conv => whnf
  refine ⟨⟨I, I, I, ⟨⟨I, I, I⟩, I, ⟨⟨I, I⟩, ⟨I, I⟩, I⟩, ⟨I, I⟩, Go.K.c_laws_heldStringS _ _ (by assumption) (by assumption) (by assumption)⟩, I, I⟩, ?_⟩
  refine W.sq ?_
  refine g 2 3 [] ?_
  conv => whnf
  refine ⟨⟨I, I, I⟩, ?_⟩
  refine W.cn ?_
  conv => whnf
  refine ⟨noT (decide_eq_false (by omega)), fun _ => ?_⟩
  refine W.skip ?_
  refine g 9 12 [] ?_
  conv => whnf
  refine ⟨⟨I, I, I⟩, ?_⟩
  refine W.ret ?_
  refine EndsW.rt ?_
  conv => whnf
  refine ⟨⟨I, I, I⟩, ?_, rfl⟩
  rfl
end Go.K

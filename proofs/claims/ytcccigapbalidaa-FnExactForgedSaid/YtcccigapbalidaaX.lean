/- Contracts of functions of the program: what each call answers. -/
import Derived.Test.YtcccigapbalidaaW
set_option linter.unusedVariables false
set_option linter.unusedSimpArgs false
set_option maxHeartbeats 4000000
set_option maxRecDepth 20000
open Go Go.Tm Go.Proofs
namespace Go.K
def hdrM (m : Message) : List Int := [m.kind, m.frm, m.to, m.epoch / 256, m.epoch % 256, m.lease / 16777216, m.lease / 65536 % 256, m.lease / 256 % 256, m.lease % 256, m.task, m.inputs.length]
def catS : List ByteArray → ByteArray
  | [] => emp
  | x :: l => x ++ catS l
theorem emp_l (s : ByteArray) : emp ++ s = s := by apply ByteArray.ext; simp [emp]
theorem emp_r (s : ByteArray) : s ++ emp = s := by apply ByteArray.ext; simp [emp]
theorem catS_app : ∀ a b, catS (a ++ b) = catS a ++ catS b
  | [], b => by simp only [List.nil_append, catS, emp_l]
  | x :: a, b => by simp only [List.cons_append, catS, catS_app a b, ByteArray.append_assoc]
theorem catS_take {xs : List ByteArray} {n : Nat} {x : ByteArray} (h : xs[n]? = some x) : catS (xs.take (n + 1)) = catS (xs.take n) ++ x := by
  rw [List.take_add_one, h, catS_app]; simp only [Option.toList, catS, emp_r]
theorem catS_size : ∀ xs, ((catS xs).size : Int) = totS xs
  | [] => rfl
  | x :: l => by simp only [catS, ByteArray.size_append, totS]; have := catS_size l; omega
def bodyM (m : Message) : ByteArray := bl (hdrM m) ++ m.text ++ catS m.inputs
theorem bytesT_bl {l : List Int} (h : ∀ n ∈ l, 0 ≤ n ∧ n ≤ 255) : bytesT (bl l) = l.map b1T := by
  unfold bytesT bl b1T
  simp only [List.map_map]
  apply List.map_congr_left
  intro n hn
  obtain ⟨h1, h2⟩ := h n hn
  simp only [Function.comp]
  congr 4
  simp; omega
theorem ok_inputs {m : Message} (h : msgOk m) : m.inputs.length ≤ 8 ∧ (∀ s ∈ m.inputs, s.size = 8) ∧ m.text.size ≤ 8 := by
  have he : emp.size = 0 := rfl
  obtain ⟨_, h | h | h | h | h⟩ := h
  · obtain ⟨_, _, _, _, _, h1, h2, h3⟩ := h
    exact ⟨h3, h2, by rw [h1]; omega⟩
  all_goals
    obtain ⟨_, _, _, _, _, h1, h2⟩ := h
    have : m.inputs = [] := List.eq_nil_of_length_eq_zero (by omega)
    rw [this]
    refine ⟨by simp, (fun s hs => nomatch hs), ?_⟩
    first
      | (rw [h1]; omega)
      | omega
theorem ok_ranges {m : Message} (h : msgOk m) : (1 ≤ m.kind ∧ m.kind ≤ 5) ∧ (0 ≤ m.frm ∧ m.frm ≤ 8) ∧ (0 ≤ m.to ∧ m.to ≤ 8) ∧ (1 ≤ m.epoch ∧ m.epoch ≤ 300) ∧ (0 ≤ m.lease ∧ m.lease ≤ 300000000) ∧ (0 ≤ m.task ∧ m.task ≤ 39) := by
  obtain ⟨h0, h | h | h | h | h⟩ := h
  all_goals
    obtain ⟨h1, h2, h3, h4, h5, _⟩ := h
    refine ⟨?_, ?_, ?_, h0, ?_, ?_⟩ <;> omega
theorem hdr_range {m : Message} (h : msgOk m) : ∀ n ∈ hdrM m, 0 ≤ n ∧ n ≤ 255 := by
  obtain ⟨h1, h2, h3, h4, h5, h6⟩ := ok_ranges h
  have h7 := (ok_inputs h).1
  intro n hn
  simp only [hdrM, List.mem_cons, List.not_mem_nil, or_false] at hn
  rcases hn with rfl | rfl | rfl | rfl | rfl | rfl | rfl | rfl | rfl | rfl | rfl <;> omega
def bodyN (m : Message) (n : Nat) : ByteArray := bl (hdrM m) ++ m.text ++ catS (m.inputs.take n)
theorem bodyN_zero (m : Message) : bodyN m 0 = bl (hdrM m) ++ m.text := by unfold bodyN; rw [List.take_zero, catS, emp_r]
theorem bodyN_succ {m : Message} {n : Nat} {x : ByteArray} (h : m.inputs[n]? = some x) : bytesT (bodyN m n) ++ bytesT x = bytesT (bodyN m (n + 1)) := by
  unfold bodyN; rw [catS_take h, ← bytesT_app]; simp only [ByteArray.append_assoc]
theorem bodyN_all (m : Message) : bodyN m m.inputs.length = bodyM m := by unfold bodyN bodyM; rw [List.take_length]
theorem bodyN_size {m : Message} (h : msgOk m) (n : Nat) (hn : n ≤ m.inputs.length) : (bodyN m n).size = 11 + m.text.size + 8 * n := by
  obtain ⟨h7, h8, h9⟩ := ok_inputs h
  induction n with
  | zero => rw [bodyN_zero, ByteArray.size_append, bl_size]; rfl
  | succ k ih =>
    have hk : k < m.inputs.length := by omega
    have := congrArg List.length (bodyN_succ (List.getElem?_eq_getElem hk))
    rw [List.length_append, bytesT_len, bytesT_len, bytesT_len, ih (by omega), h8 _ (List.getElem_mem hk)] at this
    omega
theorem body_start {m : Message} (h : msgOk m) : [m.kind, m.frm, m.to, IntKind.u8.wrap (IntKind.i64.wrap (m.epoch.tdiv 256)), IntKind.u8.wrap (m.epoch.tmod 256), IntKind.u8.wrap (IntKind.i64.wrap (m.lease.tdiv 16777216)), IntKind.u8.wrap ((IntKind.i64.wrap (m.lease.tdiv 65536)).tmod 256), IntKind.u8.wrap ((IntKind.i64.wrap (m.lease.tdiv 256)).tmod 256), IntKind.u8.wrap (m.lease.tmod 256), m.task, IntKind.u8.wrap ((m.inputs.map strT).length : Int)].map b1T ++ bytesT m.text = bytesT (bodyN m 0) := by
  obtain ⟨h1, h2, h3, h4, h5, h6⟩ := ok_ranges h
  have h7 := (ok_inputs h).1
  rw [bodyN_zero, bytesT_app, bytesT_bl (hdr_range h)]
  unfold hdrM
  rw [List.length_map, Int.tdiv_eq_ediv_of_nonneg (by omega), Int.tdiv_eq_ediv_of_nonneg (by omega), Int.tdiv_eq_ediv_of_nonneg (by omega), Int.tdiv_eq_ediv_of_nonneg (by omega), w64 (z := m.lease / 65536) (by omega) (by omega), w64 (z := m.lease / 256) (by omega) (by omega), w64 (z := m.lease / 16777216) (by omega) (by omega), w64 (z := m.epoch / 256) (by omega) (by omega), Int.tmod_eq_emod_of_nonneg (by omega), Int.tmod_eq_emod_of_nonneg (by omega), Int.tmod_eq_emod_of_nonneg (by omega), Int.tmod_eq_emod_of_nonneg (by omega), wu8 (by omega) (by omega), wu8 (by omega) (by omega), wu8 (by omega) (by omega), wu8 (by omega) (by omega), wu8 (by omega) (by omega), wu8 (by omega) (by omega), wu8 (by omega) (by omega)]
theorem c_spec_l2Body (m : Message) (h : msgOk m) : F n_spec_l2Body [.val (messageR m)] (.s (bodyM m)) [[]] := by
  obtain ⟨h1, h2, h3, h4, h5, h6⟩ := ok_ranges h
  obtain ⟨h7, h8, h9⟩ := ok_inputs h
  refine i_spec_l2Body ?_
  conv => whnf
  refine g 0 0 [] ?_
  conv => whnf
  refine ⟨⟨⟨I, I, I, I, I, I, I, I, I⟩, I, I⟩, ?_⟩
  refine g 0 0 [] ?_
  conv => whnf
  refine ⟨⟨I, I, I, I⟩, ?_⟩
  refine g 10 47 [.i (Message.kind m), .i (Message.frm m), .i (Message.to m), .i (IntKind.wrap IntKind.i64 (Int.tdiv (Message.epoch m) (256 : Int))), .i (IntKind.wrap IntKind.u8 (IntKind.wrap IntKind.i64 (Int.tdiv (Message.epoch m) (256 : Int)))), .i (Int.tmod (Message.epoch m) (256 : Int)), .i (IntKind.wrap IntKind.u8 (Int.tmod (Message.epoch m) (256 : Int))), .i (IntKind.wrap IntKind.i64 (Int.tdiv (Message.lease m) (16777216 : Int))), .i (IntKind.wrap IntKind.u8 (IntKind.wrap IntKind.i64 (Int.tdiv (Message.lease m) (16777216 : Int)))), .i (IntKind.wrap IntKind.i64 (Int.tdiv (Message.lease m) (65536 : Int))), .i (Int.tmod (IntKind.wrap IntKind.i64 (Int.tdiv (Message.lease m) (65536 : Int))) (256 : Int)), .i (IntKind.wrap IntKind.u8 (Int.tmod (IntKind.wrap IntKind.i64 (Int.tdiv (Message.lease m) (65536 : Int))) (256 : Int))), .i (IntKind.wrap IntKind.i64 (Int.tdiv (Message.lease m) (256 : Int))), .i (Int.tmod (IntKind.wrap IntKind.i64 (Int.tdiv (Message.lease m) (256 : Int))) (256 : Int)), .i (IntKind.wrap IntKind.u8 (Int.tmod (IntKind.wrap IntKind.i64 (Int.tdiv (Message.lease m) (256 : Int))) (256 : Int))), .i (Int.tmod (Message.lease m) (256 : Int)), .i (IntKind.wrap IntKind.u8 (Int.tmod (Message.lease m) (256 : Int))), .i (Message.task m), .i (IntKind.wrap IntKind.u8 (↑(List.length (List.map strT (Message.inputs m))) : Int))] ?_
  conv => whnf
  refine ⟨⟨I, I, wu8 (by omega) (by omega), I, I, wu8 (by omega) (by omega), I, I, wu8 (by omega) (by omega), I, I, ⟨(by omega), rfl⟩, rfl, I, I, ⟨(by omega), rfl⟩, rfl, I, ⟨(by omega), rfl⟩, rfl, I, ⟨(by omega), rfl⟩, ⟨(by omega), rfl⟩, rfl, I, ⟨(by omega), rfl⟩, ⟨(by omega), rfl⟩, rfl, I, ⟨(by omega), rfl⟩, rfl, I, I, wu8 (by omega) (by omega), I, I, I, rfl, ⟨⟨I, I⟩, ⟨I, I⟩, ⟨I, I⟩, ⟨I, I⟩, ⟨I, I⟩, ⟨I, I⟩, ⟨I, I⟩, ⟨I, I⟩, ⟨I, I⟩, ⟨I, I⟩, ⟨I, I⟩, I⟩, I, I⟩, ?_⟩
  refine g 47 51 [] ?_
  conv => whnf
  refine ⟨⟨I, I, I, ⟨I, I, (by simp only [List.length_map, List.length_append, List.length_set, List.length_replicate, List.length_cons, List.length_nil, List.length_take, List.length_drop, fill_len, fillI_len, List.length_range, bytesT_len]; omega)⟩, I, I⟩, ?_⟩
  refine W.sq ?_
  refine g 6 9 [] ?_
  conv => whnf
  refine ⟨⟨I, I⟩, ?_⟩
  refine W.blk ?_
  refine W.lp (fun s (n : Nat) => ⟨[(1, s.s 1), (2, s.s 2), (4, .ref ⟨4, none, 0⟩), (5, .i n), (9, s.s 9)], [(1, [s.c 1 0, s.c 1 1, s.c 1 2, s.c 1 3, s.c 1 4, s.c 1 5, s.c 1 6, s.c 1 7]), (4, [.own [false] (bytesT (bodyN m n))])], []⟩) (fun (n : Nat) => n ≤ m.inputs.length) (fun (n : Nat) => m.inputs.length - n) (0) [some 1, some 50] [] ⟨rfl, ⟨rfl, rfl, rfl, rfl, rfl, I⟩, ⟨⟨rfl, ⟨rfl, ⟨rfl, ⟨rfl, ⟨rfl, ⟨rfl, ⟨rfl, ⟨rfl, ⟨rfl, I⟩⟩⟩⟩⟩⟩⟩⟩⟩, ⟨⟨rfl, ⟨(congrArg (V.own _) (body_start h)), I⟩⟩, I⟩⟩, I⟩ (by omega) ?_
  intro n hn
  have hc := bodyN_size h n hn
  have hb := bytesT_len (bodyN m n)
  conv => whnf
  refine W.sq ?_
  refine g 51 55 [] ?_
  conv => whnf
  refine ⟨⟨I, I, I, I, I, I⟩, ?_⟩
  refine W.cn ?_
  conv => whnf
  refine ⟨fun h10 => ?_, fun h10 => ?_⟩
  replace h10 := dt h10
  simp only [List.length_map] at h10
  refine W.skip ?_
  refine W.sq ?_
  refine W.blk ?_
  obtain ⟨y1, hy1⟩ := some_at (xs := Message.inputs m) (n := n) (by omega)
  have hm1 := h8 y1 (List.mem_of_getElem? hy1)
  refine rg [.x (strT y1)] ?_
  conv => whnf
  refine ⟨⟨I, I, I, I, ⟨(by omega), ixl (by assumption)⟩, I, ⟨I, I, (by simp only [List.length_map, List.length_append, List.length_set, List.length_replicate, List.length_cons, List.length_nil, List.length_take, List.length_drop, fill_len, fillI_len, List.length_range, bytesT_len]; omega)⟩, I, I⟩, ?_⟩
  refine rg [.i ((↑n : Int) + (1 : Int))] ?_
  conv => whnf
  refine ⟨⟨I, w64 (by omega) (by omega), I, I⟩, ?_⟩
  rotate_left 1
  replace h10 := df h10
  simp only [List.length_map] at h10
  refine W.exit ?_
  refine g 55 67 [.s (bodyN m n)] ?_
  conv => whnf
  refine ⟨⟨I, ⟨I, allU8_bytesT _, (bytesOf_bytesT _).symm⟩, I, I⟩, ?_⟩
  refine W.ret ?_
  refine EndsW.rt ?_
  conv => whnf
  refine ⟨⟨I, I, I⟩, ?_, rfl⟩
  rotate_left 1
  · refine ⟨n + 1, [some 1, some 64], [], ⟨rfl, ⟨rfl, rfl, rfl, rfl, rfl, I⟩, ⟨⟨rfl, ⟨rfl, ⟨rfl, ⟨rfl, ⟨rfl, ⟨rfl, ⟨rfl, ⟨rfl, ⟨rfl, I⟩⟩⟩⟩⟩⟩⟩⟩⟩, ⟨⟨rfl, ⟨(congrArg (V.own _) (bodyN_succ (by assumption))), I⟩⟩, I⟩⟩, I⟩, ?_, ?_⟩
    rotate_left 1
    (dsimp only; omega)
    dsimp only
    omega
  · exact vs (by rw [show n = m.inputs.length from by omega, bodyN_all])
end Go.K

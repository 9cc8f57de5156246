/- Contracts of functions of the program: what each call answers. -/
import Derived.Test.YtcccigapbalidaaX
set_option linter.unusedVariables false
set_option linter.unusedSimpArgs false
set_option maxHeartbeats 4000000
set_option maxRecDepth 20000
open Go Go.Tm Go.Proofs
namespace Go.K
attribute [local irreducible] ByteArray.extract
def formM (m : Message) (key : ByteArray) : ByteArray := if msgOk m ∧ key.size ≤ 30 then sealT (bodyM m) key ++ bodyM m else emp
theorem bodyM_size {m : Message} (h : msgOk m) : (bodyM m).size = 11 + m.text.size + 8 * m.inputs.length := by
  rw [← bodyN_all, bodyN_size h _ (Nat.le_refl _)]
theorem c_spec_FormMessage (m : Message) (key : ByteArray) (hl : m.inputs.length ≤ 9223372036854775806) : F n_spec_FormMessage [.val (messageR m), .val (.s key)] (.s (formM m key)) [[], []] := by
  have c1 := c_spec_l2Ok m hl
  have c2 := c_spec_l2Body m
  by_cases h : msgOk m
  · have hb := bodyM_size h
    obtain ⟨h7, h8, h9⟩ := ok_inputs h
    rw [show decide (msgOk m) = true from decide_eq_true h] at c1
    have c3 := c2 h
    clear c2
    by_cases hk : key.size ≤ 30
    · have c4 := c_spec_l1Sum (key ++ nul ++ bodyM m) (by rw [ByteArray.size_append, ByteArray.size_append]; have : nul.size = 1 := rfl; omega)
      rw [fnvs_all, show bl (beL (fnvA h0v (key ++ nul ++ bodyM m)) 8) = sealT (bodyM m) key from rfl] at c4
      have hn : nul.size = 1 := rfl
      have h2 : (sealT (bodyM m) key).size = 8 := sumT_size _
      refine i_spec_FormMessage ?_
      conv => whnf
      refine g 0 1 [] ?_
      conv => whnf
      refine ⟨⟨⟨I, I, I, I, I, I, I, I, I⟩, I, I⟩, ?_⟩
      refine W.sq ?_
      refine g 6 9 [.call (V.b true) ([[]]), .b (false), .b (false), .b (false), .b (false)] ?_
      conv => whnf
      refine ⟨⟨I, ⟨⟨I, I⟩, I, ⟨⟨I, I, I, I, I, I, I, I, I⟩, I⟩, ⟨I, I⟩, (by assumption)⟩, I, I, ⟨rfl, I⟩, ⟨rfl, I⟩, ⟨rfl, I⟩, rfl, I⟩, ?_⟩
      refine W.cn ?_
      conv => whnf
      refine ⟨noT (decide_eq_false (by omega)), fun _ => ?_⟩
      refine W.skip ?_
      refine g 10 16 [.call (V.s (bodyM m)) ([[]])] ?_
      conv => whnf
      refine ⟨⟨I, ⟨⟨I, I⟩, I, ⟨⟨I, I, I, I, I, I, I, I, I⟩, I⟩, ⟨I, I⟩, (by assumption)⟩, I, I⟩, ?_⟩
      refine g 16 23 [.s (key ++ { data := #[(0 : UInt8)] : ByteArray }), .s (key ++ { data := #[(0 : UInt8)] : ByteArray } ++ bodyM m), .call (V.s (sealT (bodyM m) key)) ([[]]), .s (sealT (bodyM m) key ++ bodyM m)] ?_
      conv => whnf
      refine ⟨⟨I, ⟨rfl, (by simp only [bsz, bsa, ByteArray.size_append, List.size_toArray, List.length_map, List.length_append, List.length_set, List.length_replicate, List.length_cons, List.length_nil, List.length_take, List.length_drop, fill_len, fillI_len, List.length_range, bytesT_len]; omega)⟩, I, ⟨rfl, (by simp only [bsz, bsa, ByteArray.size_append, List.size_toArray, List.length_map, List.length_append, List.length_set, List.length_replicate, List.length_cons, List.length_nil, List.length_take, List.length_drop, fill_len, fillI_len, List.length_range, bytesT_len]; omega)⟩, ⟨⟨I, I⟩, I, ⟨⟨I, I⟩, I⟩, ⟨I, I⟩, (by assumption)⟩, I, ⟨rfl, (by omega)⟩, I, I⟩, ?_⟩
      refine W.ret ?_
      refine EndsW.rt ?_
      conv => whnf
      refine ⟨⟨I, I, I⟩, ?_, rfl⟩
      exact vs (if_pos ⟨h, hk⟩).symm
    · refine i_spec_FormMessage ?_
      conv => whnf
      refine g 0 1 [] ?_
      conv => whnf
      refine ⟨⟨⟨I, I, I, I, I, I, I, I, I⟩, I, I⟩, ?_⟩
      refine W.sq ?_
      refine g 6 9 [.call (V.b true) ([[]]), .b (false), .b (false), .b (false), .b (false)] ?_
      conv => whnf
      refine ⟨⟨I, ⟨⟨I, I⟩, I, ⟨⟨I, I, I, I, I, I, I, I, I⟩, I⟩, ⟨I, I⟩, (by assumption)⟩, I, I, ⟨rfl, I⟩, ⟨rfl, I⟩, ⟨rfl, I⟩, rfl, I⟩, ?_⟩
      refine W.cn ?_
      conv => whnf
      refine ⟨fun _ => ?_, noF (decide_eq_true (by omega))⟩
      refine g 10 14 [] ?_
      conv => whnf
      refine ⟨⟨I, I⟩, ?_⟩
      refine W.ret ?_
      refine EndsW.rt ?_
      conv => whnf
      refine ⟨⟨I, I, I⟩, ?_, rfl⟩
      exact vs (if_neg (fun h => hk h.2)).symm
  · rw [show decide (msgOk m) = false from decide_eq_false h] at c1
    clear c2
    refine i_spec_FormMessage ?_
    conv => whnf
    refine g 0 1 [] ?_
    conv => whnf
    refine ⟨⟨⟨I, I, I, I, I, I, I, I, I⟩, I, I⟩, ?_⟩
    refine W.sq ?_
    refine g 6 9 [.call (V.b false) ([[]]), .b (true), .b (true), .b (true), .b (true)] ?_
    conv => whnf
    refine ⟨⟨I, ⟨⟨I, I⟩, I, ⟨⟨I, I, I, I, I, I, I, I, I⟩, I⟩, ⟨I, I⟩, (by assumption)⟩, I, I, rfl, rfl, rfl, rfl, I⟩, ?_⟩
    refine W.cn ?_
    conv => whnf
    refine ⟨fun _ => ?_, noF (rfl)⟩
    refine g 10 14 [] ?_
    conv => whnf
    refine ⟨⟨I, I⟩, ?_⟩
    refine W.ret ?_
    refine EndsW.rt ?_
    conv => whnf
    refine ⟨⟨I, I, I⟩, ?_, rfl⟩
    exact vs (if_neg (fun x => h x.1)).symm
def chunks (r : ByteArray) (n : Nat) : List ByteArray := (List.range n).map fun k => r.extract (8 * k) (8 * k + 8)
def rdM (b : ByteArray) : Message :=
  ⟨byt b 0, byt b 1, byt b 2, byt b 3 * 256 + byt b 4, byt b 5 * 16777216 + byt b 6 * 65536 + byt b 7 * 256 + byt b 8, byt b 9, if byt b 0 = 3 then b.extract 11 b.size else emp, if byt b 0 = 3 then [] else chunks (b.extract 11 b.size) ((b.size - 11) / 8)⟩
def readM (s key : ByteArray) : Option Message := if s.size < 19 ∨ formM (rdM (s.extract 8 s.size)) key ≠ s then none else some (rdM (s.extract 8 s.size))
def tupM : Option Message → V
  | none => .tup [messageO noMessage, .b false]
  | some m => .tup [messageO m, .b true]
theorem chunks_succ (r : ByteArray) (n : Nat) : chunks r (n + 1) = chunks r n ++ [r.extract (8 * n) (8 * n + 8)] := by
  unfold chunks; rw [List.range_succ, List.map_append]; rfl
def rdF (b : ByteArray) (t : ByteArray) (l : List ByteArray) : Message :=
  ⟨byt b 0, byt b 1, byt b 2, byt b 3 * 256 + byt b 4, byt b 5 * 16777216 + byt b 6 * 65536 + byt b 7 * 256 + byt b 8, byt b 9, t, l⟩
theorem readM_short {s key : ByteArray} (h : s.size < 19) : readM s key = none := if_pos (Or.inl h)
theorem readM_no {s key : ByteArray} {m : Message} (h : rdM (s.extract 8 s.size) = m) (h2 : ¬ formM m key = s) : readM s key = none := if_pos (Or.inr (by rw [h]; exact h2))
theorem readM_yes {s key : ByteArray} {m : Message} (h0 : ¬ s.size < 19) (h : rdM (s.extract 8 s.size) = m) (h2 : formM m key = s) : readM s key = some m := by
  unfold readM; rw [h, if_neg]; rintro (h | h); exact h0 h; exact h h2
def restM (s : ByteArray) : ByteArray := (s.extract 8 s.size).extract 11 (s.extract 8 s.size).size
def restN (s : ByteArray) (n : Nat) : ByteArray := (restM s).extract (8 * n) (restM s).size
theorem restN_zero (s : ByteArray) : restM s = restN s 0 := by unfold restN; rw [Nat.mul_zero, ByteArray.extract_zero_size]
theorem restN_size {s : ByteArray} {n : Nat} (hz : (restM s).size = s.size - 19) (h : 8 * n ≤ s.size - 19) : (restN s n).size = s.size - 19 - 8 * n := by
  unfold restN; rw [ByteArray.size_extract]; omega
theorem restN_head {s : ByteArray} {n : Nat} (h : 8 * n + 8 ≤ (restM s).size) : (restN s n).extract 0 8 = (restM s).extract (8 * n) (8 * n + 8) := by
  unfold restN; rw [ByteArray.extract_extract, Nat.min_eq_left (by omega), Nat.add_zero]
theorem restN_succ (s : ByteArray) (n : Nat) (h : 8 * n + 8 ≤ (restM s).size) : (restN s n).extract 8 (restN s n).size = restN s (n + 1) := by
  have : (restN s n).size = (restM s).size - 8 * n := by unfold restN; rw [ByteArray.size_extract]; omega
  rw [this]
  unfold restN; rw [ByteArray.extract_extract, show 8 * n + 8 = 8 * (n + 1) by omega, show min (8 * n + ((restM s).size - 8 * n)) (restM s).size = (restM s).size by omega]
theorem chunks_len (r : ByteArray) (n : Nat) : (chunks r n).length = n := by unfold chunks; rw [List.length_map, List.length_range]
theorem chunks_more {s : ByteArray} {n : Nat} (h : 8 * n + 8 ≤ (restM s).size) : (chunks (restM s) n).map strT ++ [strT ((restN s n).extract 0 8)] = (chunks (restM s) (n + 1)).map strT := by
  rw [chunks_succ, List.map_append, restN_head h]; rfl
theorem c_spec_ReadMessage (tx key : ByteArray) (ht : tx.size ≤ 68719476736) : F n_spec_ReadMessage [.val (.s tx), .val (.s key)] (tupM (readM tx key)) [[], []] := by
  by_cases h0 : tx.size < 19
  · refine i_spec_ReadMessage ?_
    conv => whnf
    refine g 0 0 [] ?_
    conv => whnf
    refine ⟨⟨I, I, I⟩, ?_⟩
    refine W.sq ?_
    refine g 9 11 [] ?_
    conv => whnf
    refine ⟨⟨I, I, I, I⟩, ?_⟩
    refine W.cn ?_
    conv => whnf
    refine ⟨fun _ => ?_, noF (decide_eq_true (by omega))⟩
    refine g 11 13 [] ?_
    conv => whnf
    refine ⟨⟨I, ⟨I, I, I, I, I, I, I, I, I⟩, I, I⟩, ?_⟩
    refine W.ret ?_
    refine EndsW.rt ?_
    conv => whnf
    refine ⟨⟨I, ⟨I, I, I, I, I, I, I, I, I⟩, I, ⟨I, I⟩, I⟩, ?_, rfl⟩
    exact congrArg tupM (readM_short h0).symm
  have hx : (tx.extract 8 tx.size).size = tx.size - 8 := by rw [ByteArray.size_extract]; omega
  obtain ⟨y1, hy1, hb1⟩ := byte_at (s := tx.extract 8 tx.size) (n := 0) (by omega)
  obtain ⟨y2, hy2, hb2⟩ := byte_at (s := tx.extract 8 tx.size) (n := 1) (by omega)
  obtain ⟨y3, hy3, hb3⟩ := byte_at (s := tx.extract 8 tx.size) (n := 2) (by omega)
  obtain ⟨y4, hy4, hb4⟩ := byte_at (s := tx.extract 8 tx.size) (n := 3) (by omega)
  obtain ⟨y5, hy5, hb5⟩ := byte_at (s := tx.extract 8 tx.size) (n := 4) (by omega)
  obtain ⟨y6, hy6, hb6⟩ := byte_at (s := tx.extract 8 tx.size) (n := 5) (by omega)
  obtain ⟨y7, hy7, hb7⟩ := byte_at (s := tx.extract 8 tx.size) (n := 6) (by omega)
  obtain ⟨y8, hy8, hb8⟩ := byte_at (s := tx.extract 8 tx.size) (n := 7) (by omega)
  obtain ⟨y9, hy9, hb9⟩ := byte_at (s := tx.extract 8 tx.size) (n := 8) (by omega)
  obtain ⟨y10, hy10, hb10⟩ := byte_at (s := tx.extract 8 tx.size) (n := 9) (by omega)
  have e : ∀ t l, rdF (tx.extract 8 tx.size) t l = ⟨y1.toNat, y2.toNat, y3.toNat, (y4.toNat : Int) * 256 + y5.toNat, (y6.toNat : Int) * 16777216 + (y7.toNat : Int) * 65536 + (y8.toNat : Int) * 256 + y9.toNat, y10.toNat, t, l⟩ := by
    intro t l; simp only [rdF, byt_at hy1, byt_at hy2, byt_at hy3, byt_at hy4, byt_at hy5, byt_at hy6, byt_at hy7, byt_at hy8, byt_at hy9, byt_at hy10]
  by_cases h3 : (y1.toNat : Int) = 3
  · have e1 : rdM (tx.extract 8 tx.size) = ⟨y1.toNat, y2.toNat, y3.toNat, (y4.toNat : Int) * 256 + y5.toNat, (y6.toNat : Int) * 16777216 + (y7.toNat : Int) * 65536 + (y8.toNat : Int) * 256 + y9.toNat, y10.toNat, (tx.extract 8 tx.size).extract 11 (tx.extract 8 tx.size).size, []⟩ := by
      rw [← e]; unfold rdM rdF; rw [byt_at hy1, if_pos h3, if_pos h3]
    have c1 := c_spec_FormMessage (rdM (tx.extract 8 tx.size)) key (by rw [e1]; simp)
    rw [e1] at c1
    refine i_spec_ReadMessage ?_
    conv => whnf
    refine g 0 0 [] ?_
    conv => whnf
    refine ⟨⟨I, I, I⟩, ?_⟩
    refine W.sq ?_
    refine g 9 11 [] ?_
    conv => whnf
    refine ⟨⟨I, I, I, I⟩, ?_⟩
    refine W.cn ?_
    conv => whnf
    refine ⟨noT (decide_eq_false (by omega)), fun _ => ?_⟩
    refine W.skip ?_
    refine g 11 15 [.n ((8 : Nat)), .s (ByteArray.extract tx (8 : Nat) (ByteArray.size tx))] ?_
    conv => whnf
    refine ⟨⟨I, ⟨I, rfl, (by omega), (by omega), rfl⟩, I, I⟩, ?_⟩
    refine gd 15 36 [[], [.i ((↑(UInt8.toNat y1) : Int))], [.i ((↑(UInt8.toNat y1) : Int))], [], [.i ((↑(UInt8.toNat y2) : Int))], [.i ((↑(UInt8.toNat y2) : Int))], [], [.i ((↑(UInt8.toNat y3) : Int))], [.i ((↑(UInt8.toNat y3) : Int))], [], [.i ((↑(UInt8.toNat y4) : Int))], [.i ((↑(UInt8.toNat y4) : Int))], [.i ((↑(UInt8.toNat y4) : Int) * (256 : Int))], [], [.i ((↑(UInt8.toNat y5) : Int))], [.i ((↑(UInt8.toNat y5) : Int))], [.i ((↑(UInt8.toNat y4) : Int) * (256 : Int) + (↑(UInt8.toNat y5) : Int))], [], [.i ((↑(UInt8.toNat y10) : Int))], [.i ((↑(UInt8.toNat y10) : Int))], [], [], []] ?_
    conv => whnf
    refine ⟨⟨I, ⟨(by omega), ixb hy1⟩, w8 _, I, ⟨(by omega), ixb hy2⟩, w8 _, I, ⟨(by omega), ixb hy3⟩, w8 _, I, ⟨(by omega), ixb hy4⟩, w8 _, w64 (by omega) (by omega), I, ⟨(by omega), ixb hy5⟩, w8 _, w64 (by omega) (by omega), I, ⟨(by omega), ixb hy10⟩, w8 _, I, I, ⟨I, I, I, I, I, I, I, I, I⟩, I⟩, by kernel_rfl, ?_⟩
    refine gd 36 55 [[], [.i ((↑(UInt8.toNat y6) : Int))], [.i ((↑(UInt8.toNat y6) : Int))], [.i ((↑(UInt8.toNat y6) : Int) * (16777216 : Int))], [], [.i ((↑(UInt8.toNat y7) : Int))], [.i ((↑(UInt8.toNat y7) : Int))], [.i ((↑(UInt8.toNat y7) : Int) * (65536 : Int))], [.i ((↑(UInt8.toNat y6) : Int) * (16777216 : Int) + (↑(UInt8.toNat y7) : Int) * (65536 : Int))], [], [.i ((↑(UInt8.toNat y8) : Int))], [.i ((↑(UInt8.toNat y8) : Int))], [.i ((↑(UInt8.toNat y8) : Int) * (256 : Int))], [.i ((↑(UInt8.toNat y6) : Int) * (16777216 : Int) + (↑(UInt8.toNat y7) : Int) * (65536 : Int) + (↑(UInt8.toNat y8) : Int) * (256 : Int))], [], [.i ((↑(UInt8.toNat y9) : Int))], [.i ((↑(UInt8.toNat y9) : Int))], [.i ((↑(UInt8.toNat y6) : Int) * (16777216 : Int) + (↑(UInt8.toNat y7) : Int) * (65536 : Int) + (↑(UInt8.toNat y8) : Int) * (256 : Int) + (↑(UInt8.toNat y9) : Int))], [], []] ?_
    conv => whnf
    refine ⟨⟨I, ⟨(by omega), ixb hy6⟩, w8 _, w64 (by omega) (by omega), I, ⟨(by omega), ixb hy7⟩, w8 _, w64 (by omega) (by omega), w64 (by omega) (by omega), I, ⟨(by omega), ixb hy8⟩, w8 _, w64 (by omega) (by omega), w64 (by omega) (by omega), I, ⟨(by omega), ixb hy9⟩, w8 _, w64 (by omega) (by omega), I, ⟨I, I⟩, I⟩, by kernel_rfl, ?_⟩
    refine g 55 57 [.n ((11 : Nat)), .s (ByteArray.extract (ByteArray.extract tx (8 : Nat) (ByteArray.size tx)) (11 : Nat) (ByteArray.size (ByteArray.extract tx (8 : Nat) (ByteArray.size tx))))] ?_
    conv => whnf
    refine ⟨⟨I, ⟨I, rfl, (by omega), (by omega), rfl⟩, I, I⟩, ?_⟩
    refine W.sq ?_
    refine g 57 59 [] ?_
    conv => whnf
    refine ⟨⟨I, I, I, I⟩, ?_⟩
    refine W.cn ?_
    conv => whnf
    refine ⟨fun _ => ?_, noF (decide_eq_true (by omega))⟩
    refine rg [] ?_
    conv => whnf
    refine ⟨⟨I, I, ⟨I, I⟩, I⟩, ?_⟩
    refine W.sq ?_
    refine g 8 78 [.call (V.s (formM { kind := (↑(UInt8.toNat y1) : Int), frm := (↑(UInt8.toNat y2) : Int), to := (↑(UInt8.toNat y3) : Int), epoch := (↑(UInt8.toNat y4) : Int) * (256 : Int) + (↑(UInt8.toNat y5) : Int), lease := (↑(UInt8.toNat y6) : Int) * (16777216 : Int) + (↑(UInt8.toNat y7) : Int) * (65536 : Int) + (↑(UInt8.toNat y8) : Int) * (256 : Int) + (↑(UInt8.toNat y9) : Int), task := (↑(UInt8.toNat y10) : Int), text := ByteArray.extract (ByteArray.extract tx (8 : Nat) (ByteArray.size tx)) (11 : Nat) (ByteArray.size (ByteArray.extract tx (8 : Nat) (ByteArray.size tx))), inputs := [] : Message } key)) ([[], []])] ?_
    conv => whnf
    refine ⟨⟨I, I, ⟨⟨I, I, I⟩, I, ⟨⟨I, I, I, I, I, I, I, I, I⟩, ⟨I, I⟩, I⟩, ⟨I, I⟩, (by assumption)⟩, I, I, I⟩, ?_⟩
    refine W.cn ?_
    conv => whnf
    refine ⟨fun h1 => ?_, fun h1 => ?_⟩
    replace h1 := ndt h1
    refine g 0 2 [] ?_
    conv => whnf
    refine ⟨⟨I, ⟨I, I, I, I, I, I, I, I, I⟩, I, I⟩, ?_⟩
    refine W.ret ?_
    refine EndsW.rt ?_
    conv => whnf
    refine ⟨⟨I, ⟨I, I, I, I, I, I, I, I, I⟩, I, ⟨I, I⟩, I⟩, ?_, rfl⟩
    rotate_left 1
    replace h1 := ndf h1
    refine W.skip ?_
    refine g 6 81 [] ?_
    conv => whnf
    refine ⟨⟨I, ⟨I, I, I, I, I, I, I, I, I⟩, I, I⟩, ?_⟩
    refine W.ret ?_
    refine EndsW.rt ?_
    conv => whnf
    refine ⟨⟨I, ⟨I, I, I, I, I, I, I, I, I⟩, I, ⟨I, I⟩, I⟩, ?_, rfl⟩
    rotate_left 1
    · exact congrArg tupM (readM_no e1 (by assumption)).symm
    · exact congrArg tupM (readM_yes h0 e1 (by assumption)).symm
  · have e1 : ∀ n, n = (tx.size - 19) / 8 → rdM (tx.extract 8 tx.size) = ⟨y1.toNat, y2.toNat, y3.toNat, (y4.toNat : Int) * 256 + y5.toNat, (y6.toNat : Int) * 16777216 + (y7.toNat : Int) * 65536 + (y8.toNat : Int) * 256 + y9.toNat, y10.toNat, emp, chunks (restM tx) n⟩ := by
      intro n hn; rw [← e]; unfold rdM rdF; rw [byt_at hy1, if_neg h3, if_neg h3, hn, hx, restM, hx, show tx.size - 8 - 11 = tx.size - 19 by omega]
    have hz : (restM tx).size = tx.size - 19 := by unfold restM; rw [ByteArray.size_extract, hx]; omega
    refine i_spec_ReadMessage ?_
    conv => whnf
    refine g 0 0 [] ?_
    conv => whnf
    refine ⟨⟨I, I, I⟩, ?_⟩
    refine W.sq ?_
    refine g 9 11 [] ?_
    conv => whnf
    refine ⟨⟨I, I, I, I⟩, ?_⟩
    refine W.cn ?_
    conv => whnf
    refine ⟨noT (decide_eq_false (by omega)), fun _ => ?_⟩
    refine W.skip ?_
    refine g 11 15 [.n ((8 : Nat)), .s (ByteArray.extract tx (8 : Nat) (ByteArray.size tx))] ?_
    conv => whnf
    refine ⟨⟨I, ⟨I, rfl, (by omega), (by omega), rfl⟩, I, I⟩, ?_⟩
    refine gd 15 36 [[], [.i ((↑(UInt8.toNat y1) : Int))], [.i ((↑(UInt8.toNat y1) : Int))], [], [.i ((↑(UInt8.toNat y2) : Int))], [.i ((↑(UInt8.toNat y2) : Int))], [], [.i ((↑(UInt8.toNat y3) : Int))], [.i ((↑(UInt8.toNat y3) : Int))], [], [.i ((↑(UInt8.toNat y4) : Int))], [.i ((↑(UInt8.toNat y4) : Int))], [.i ((↑(UInt8.toNat y4) : Int) * (256 : Int))], [], [.i ((↑(UInt8.toNat y5) : Int))], [.i ((↑(UInt8.toNat y5) : Int))], [.i ((↑(UInt8.toNat y4) : Int) * (256 : Int) + (↑(UInt8.toNat y5) : Int))], [], [.i ((↑(UInt8.toNat y10) : Int))], [.i ((↑(UInt8.toNat y10) : Int))], [], [], []] ?_
    conv => whnf
    refine ⟨⟨I, ⟨(by omega), ixb hy1⟩, w8 _, I, ⟨(by omega), ixb hy2⟩, w8 _, I, ⟨(by omega), ixb hy3⟩, w8 _, I, ⟨(by omega), ixb hy4⟩, w8 _, w64 (by omega) (by omega), I, ⟨(by omega), ixb hy5⟩, w8 _, w64 (by omega) (by omega), I, ⟨(by omega), ixb hy10⟩, w8 _, I, I, ⟨I, I, I, I, I, I, I, I, I⟩, I⟩, by kernel_rfl, ?_⟩
    refine gd 36 55 [[], [.i ((↑(UInt8.toNat y6) : Int))], [.i ((↑(UInt8.toNat y6) : Int))], [.i ((↑(UInt8.toNat y6) : Int) * (16777216 : Int))], [], [.i ((↑(UInt8.toNat y7) : Int))], [.i ((↑(UInt8.toNat y7) : Int))], [.i ((↑(UInt8.toNat y7) : Int) * (65536 : Int))], [.i ((↑(UInt8.toNat y6) : Int) * (16777216 : Int) + (↑(UInt8.toNat y7) : Int) * (65536 : Int))], [], [.i ((↑(UInt8.toNat y8) : Int))], [.i ((↑(UInt8.toNat y8) : Int))], [.i ((↑(UInt8.toNat y8) : Int) * (256 : Int))], [.i ((↑(UInt8.toNat y6) : Int) * (16777216 : Int) + (↑(UInt8.toNat y7) : Int) * (65536 : Int) + (↑(UInt8.toNat y8) : Int) * (256 : Int))], [], [.i ((↑(UInt8.toNat y9) : Int))], [.i ((↑(UInt8.toNat y9) : Int))], [.i ((↑(UInt8.toNat y6) : Int) * (16777216 : Int) + (↑(UInt8.toNat y7) : Int) * (65536 : Int) + (↑(UInt8.toNat y8) : Int) * (256 : Int) + (↑(UInt8.toNat y9) : Int))], [], []] ?_
    conv => whnf
    refine ⟨⟨I, ⟨(by omega), ixb hy6⟩, w8 _, w64 (by omega) (by omega), I, ⟨(by omega), ixb hy7⟩, w8 _, w64 (by omega) (by omega), w64 (by omega) (by omega), I, ⟨(by omega), ixb hy8⟩, w8 _, w64 (by omega) (by omega), w64 (by omega) (by omega), I, ⟨(by omega), ixb hy9⟩, w8 _, w64 (by omega) (by omega), I, ⟨I, I⟩, I⟩, by kernel_rfl, ?_⟩
    refine g 55 57 [.n ((11 : Nat)), .s (ByteArray.extract (ByteArray.extract tx (8 : Nat) (ByteArray.size tx)) (11 : Nat) (ByteArray.size (ByteArray.extract tx (8 : Nat) (ByteArray.size tx))))] ?_
    conv => whnf
    refine ⟨⟨I, ⟨I, rfl, (by omega), (by omega), rfl⟩, I, I⟩, ?_⟩
    refine W.sq ?_
    refine g 57 59 [] ?_
    conv => whnf
    refine ⟨⟨I, I, I, I⟩, ?_⟩
    refine W.cn ?_
    conv => whnf
    refine ⟨noT (decide_eq_false (by omega)), fun _ => ?_⟩
    refine W.blk ?_
    refine W.lp (fun s (n : Nat) => ⟨[(0, s.s 0), (1, s.s 1), (4, s.s 4), (5, s.s 5), (7, s.s 7), (8, .s (restN tx n))], [(4, [s.c 4 0, s.c 4 1, s.c 4 2, s.c 4 3, s.c 4 4, s.c 4 5, s.c 4 6, s.c 4 7]), (7, [.t (.i y1.toNat), .t (.i y2.toNat), .t (.i y3.toNat), .t (.i ((y4.toNat : Int) * 256 + y5.toNat)), .t (.i ((y6.toNat : Int) * 16777216 + (y7.toNat : Int) * 65536 + (y8.toNat : Int) * 256 + y9.toNat)), .t (.i y10.toNat), .t (.s emp), .own [false] ((chunks (restM tx) n).map strT)])], []⟩) (fun (n : Nat) => 8 * n ≤ tx.size - 19) (fun (n : Nat) => tx.size - 8 * n) (0) [some 4, some 7] [] ⟨rfl, ⟨rfl, rfl, rfl, rfl, rfl, (congrArg (fun z => V.t (T.v (Value.string z))) (restN_zero tx)), I⟩, ⟨⟨rfl, ⟨rfl, ⟨rfl, ⟨rfl, ⟨rfl, ⟨rfl, ⟨rfl, ⟨rfl, ⟨rfl, I⟩⟩⟩⟩⟩⟩⟩⟩⟩, ⟨⟨rfl, ⟨rfl, ⟨rfl, ⟨rfl, ⟨rfl, ⟨rfl, ⟨rfl, ⟨rfl, ⟨rfl, I⟩⟩⟩⟩⟩⟩⟩⟩⟩, I⟩⟩, I⟩ (by omega) ?_
    intro n hn
    have hs := restN_size (s := tx) (n := n) hz hn
    have c1 := fun n => c_spec_FormMessage ⟨y1.toNat, y2.toNat, y3.toNat, (y4.toNat : Int) * 256 + y5.toNat, (y6.toNat : Int) * 16777216 + (y7.toNat : Int) * 65536 + (y8.toNat : Int) * 256 + y9.toNat, y10.toNat, emp, chunks (restM tx) n⟩ key
    have c2 := c1 n (by simp only [chunks, List.length_map, List.length_range]; omega)
    clear c1
    have hcl := chunks_len (restM tx) n
    conv => whnf
    refine W.sq ?_
    refine g 62 64 [] ?_
    conv => whnf
    refine ⟨⟨I, I, I, I⟩, ?_⟩
    refine W.cn ?_
    conv => whnf
    refine ⟨fun h1 => ?_, fun h1 => ?_⟩
    replace h1 := dt h1
    refine W.skip ?_
    refine W.blk ?_
    refine gd 64 72 [[], [], [], [.n ((8 : Nat)), .s (ByteArray.extract (restN tx n) (0 : Nat) (8 : Nat))], [], [], [], []] ?_
    conv => whnf
    refine ⟨⟨I, I, I, ⟨rfl, I, (by omega), (by omega), rfl⟩, ⟨⟨I, I⟩, I⟩, ⟨I, I, (by simp only [List.length_map, List.length_append, List.length_set, List.length_replicate, List.length_cons, List.length_nil, List.length_take, List.length_drop, fill_len, fillI_len, List.length_range, bytesT_len]; omega)⟩, I, ⟨I, I⟩, I⟩, by kernel_rfl, ?_⟩
    refine rg [.n ((8 : Nat)), .s (ByteArray.extract (restN tx n) (8 : Nat) (ByteArray.size (restN tx n)))] ?_
    conv => whnf
    refine ⟨⟨I, ⟨I, rfl, (by omega), (by omega), rfl⟩, I, I⟩, ?_⟩
    rotate_left 1
    replace h1 := df h1
    refine W.exit ?_
    refine W.sq ?_
    refine g 8 78 [.call (V.s (formM { kind := (↑(UInt8.toNat y1) : Int), frm := (↑(UInt8.toNat y2) : Int), to := (↑(UInt8.toNat y3) : Int), epoch := (↑(UInt8.toNat y4) : Int) * (256 : Int) + (↑(UInt8.toNat y5) : Int), lease := (↑(UInt8.toNat y6) : Int) * (16777216 : Int) + (↑(UInt8.toNat y7) : Int) * (65536 : Int) + (↑(UInt8.toNat y8) : Int) * (256 : Int) + (↑(UInt8.toNat y9) : Int), task := (↑(UInt8.toNat y10) : Int), text := emp, inputs := chunks (restM tx) n : Message } key)) ([[], []])] ?_
    conv => whnf
    refine ⟨⟨I, I, ⟨⟨I, I, I⟩, I, ⟨⟨I, I, I, I, I, I, I, I, I⟩, ⟨I, I⟩, I⟩, ⟨I, I⟩, (by assumption)⟩, I, I, I⟩, ?_⟩
    refine W.cn ?_
    conv => whnf
    refine ⟨fun h2 => ?_, fun h2 => ?_⟩
    replace h2 := ndt h2
    refine g 0 2 [] ?_
    conv => whnf
    refine ⟨⟨I, ⟨I, I, I, I, I, I, I, I, I⟩, I, I⟩, ?_⟩
    refine W.ret ?_
    refine EndsW.rt ?_
    conv => whnf
    refine ⟨⟨I, ⟨I, I, I, I, I, I, I, I, I⟩, I, ⟨I, I⟩, I⟩, ?_, rfl⟩
    rotate_left 1
    replace h2 := ndf h2
    refine W.skip ?_
    refine g 7 81 [] ?_
    conv => whnf
    refine ⟨⟨I, ⟨I, I, I, I, I, I, I, I, I⟩, I, I⟩, ?_⟩
    refine W.ret ?_
    refine EndsW.rt ?_
    conv => whnf
    refine ⟨⟨I, ⟨I, I, I, I, I, I, I, I, I⟩, I, ⟨I, I⟩, I⟩, ?_, rfl⟩
    rotate_left 1
    · refine ⟨n + 1, [some 4, some 7], [], ⟨rfl, ⟨rfl, rfl, rfl, rfl, rfl, (congrArg (fun z => V.t (T.v (Value.string z))) (restN_succ tx n (by omega))), I⟩, ⟨⟨rfl, ⟨rfl, ⟨rfl, ⟨rfl, ⟨rfl, ⟨rfl, ⟨rfl, ⟨rfl, ⟨rfl, I⟩⟩⟩⟩⟩⟩⟩⟩⟩, ⟨⟨rfl, ⟨rfl, ⟨rfl, ⟨rfl, ⟨rfl, ⟨rfl, ⟨rfl, ⟨rfl, ⟨(congrArg (V.own _) (chunks_more (by omega))), I⟩⟩⟩⟩⟩⟩⟩⟩⟩, I⟩⟩, I⟩, ?_, ?_⟩
      rotate_left 1
      (dsimp only; omega)
      dsimp only
      omega
    · exact congrArg tupM (readM_no (e1 n (by omega)) (by assumption)).symm
    · exact congrArg tupM (readM_yes h0 (e1 n (by omega)) (by assumption)).symm
end Go.K

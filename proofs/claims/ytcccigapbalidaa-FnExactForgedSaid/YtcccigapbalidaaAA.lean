/- Contracts of functions of the program: what each call answers. -/
import Derived.Test.YtcccigapbalidaaZ
set_option linter.unusedVariables false
set_option linter.unusedSimpArgs false
set_option maxHeartbeats 4000000
set_option maxRecDepth 20000
open Go Go.Tm Go.Proofs
namespace Go.K
attribute [local irreducible] ByteArray.extract
def restK (q : ByteArray) (n : Nat) : ByteArray := q.extract (8 * n) q.size
theorem restK_zero (q : ByteArray) : q = restK q 0 := by unfold restK; rw [Nat.mul_zero, ByteArray.extract_zero_size]
theorem restK_size (q : ByteArray) (n : Nat) : (restK q n).size = q.size - 8 * n := by unfold restK; rw [ByteArray.size_extract]; omega
theorem restK_head {q : ByteArray} {n : Nat} (h : 8 * n + 8 ≤ q.size) : (restK q n).extract 0 8 = q.extract (8 * n) (8 * n + 8) := by
  unfold restK; rw [ByteArray.extract_extract, Nat.min_eq_left (by omega), Nat.add_zero]
theorem restK_succ (q : ByteArray) (n : Nat) (h : 8 * n + 8 ≤ q.size) : (restK q n).extract 8 (restK q n).size = restK q (n + 1) := by
  rw [restK_size]
  unfold restK; rw [ByteArray.extract_extract, show 8 * n + 8 = 8 * (n + 1) by omega, show min (8 * n + (q.size - 8 * n)) q.size = q.size by omega]
theorem chunkK {q : ByteArray} {n : Nat} (h : 8 * n + 8 ≤ q.size) : (chunks q n).map strT ++ [strT ((restK q n).extract 0 8)] = (chunks q (n + 1)).map strT := by
  rw [chunks_succ, List.map_append, restK_head h]; rfl
theorem restK_nil {q : ByteArray} {n : Nat} (h : ¬ 8 * n < q.size) : restK q n = ⟨#[]⟩ := ByteArray.size_eq_zero_iff.1 (by rw [restK_size]; omega)
theorem restK_more {q : ByteArray} {n : Nat} (h : 8 * n < q.size) : ¬ restK q n = ⟨#[]⟩ := by
  intro e
  have := congrArg ByteArray.size e
  rw [restK_size] at this
  have h0 : (ByteArray.mk #[]).size = 0 := rfl
  omega
def restQ (tx : ByteArray) : ByteArray := (restM tx).extract 8 (restM tx).size
theorem readM_bad {tx key : ByteArray} (h0 : ¬ tx.size < 19) (h : ¬ (msgOk (rdM (tx.extract 8 tx.size)) ∧ bodyM (rdM (tx.extract 8 tx.size)) = tx.extract 8 tx.size)) : readM tx key = none :=
  if_pos (Or.inr (fun e => h ⟨((form_iff h0).1 e).1, ((form_iff h0).1 e).2.2.1⟩))
theorem readM_good {tx key : ByteArray} {m : Message} (h0 : ¬ tx.size < 19) (hk : key.size ≤ 30) (hs : tx.extract 0 8 = sealT (tx.extract 8 tx.size) key) (e : rdM (tx.extract 8 tx.size) = m) (h1 : msgOk m) (h2 : bodyM (rdM (tx.extract 8 tx.size)) = tx.extract 8 tx.size) : readM tx key = some m :=
  readM_yes h0 e ((form_iff h0).2 ⟨h1, hk, e ▸ h2, hs⟩)
theorem c_impl_ReadMessage (tx key : ByteArray) (ht : tx.size ≤ 68719476736) : F n_impl_ReadMessage [.val (.s tx), .val (.s key)] (tupM (readM tx key)) [[], []] := by
  by_cases h0 : tx.size < 19
  · by_cases hk : key.size ≤ 30
    · refine i_impl_ReadMessage ?_
      conv => whnf
      refine g 0 0 [] ?_
      conv => whnf
      refine ⟨⟨I, I, I⟩, ?_⟩
      refine W.sq ?_
      refine gd 9 25 [[], [], [], [], [.b (false)], [.b (false)], [.b (false)], [.b (false)], [], [.b (true)], [.b (true)], [.b (true)], [.b (true)], [.b (true)], [.b (true)], [.b (true)], [.b (true)]] ?_
      conv => whnf
      refine ⟨⟨I, I, I, I, ⟨decide_eq_false (by omega), I⟩, ⟨decide_eq_false (by omega), I⟩, ⟨decide_eq_false (by omega), I⟩, decide_eq_false (by omega), I, decide_eq_true (by omega), decide_eq_true (by omega), decide_eq_true (by omega), decide_eq_true (by omega), decide_eq_true (by omega), decide_eq_true (by omega), decide_eq_true (by omega), decide_eq_true (by omega), I⟩, by kernel_rfl, ?_⟩
      refine W.cn ?_
      conv => whnf
      refine ⟨fun _ => ?_, noF (rfl)⟩
      refine g 25 27 [] ?_
      conv => whnf
      refine ⟨⟨I, ⟨I, I, I, I, I, I, I, I, I⟩, I, I⟩, ?_⟩
      refine W.ret ?_
      refine EndsW.rt ?_
      conv => whnf
      refine ⟨⟨I, ⟨I, I, I, I, I, I, I, I, I⟩, I, ⟨I, I⟩, I⟩, ?_, rfl⟩
      exact congrArg tupM (readM_short h0).symm
    · refine i_impl_ReadMessage ?_
      conv => whnf
      refine g 0 0 [] ?_
      conv => whnf
      refine ⟨⟨I, I, I⟩, ?_⟩
      refine W.sq ?_
      refine gd 9 25 [[], [], [], [], [.b (true)], [.b (true)], [.b (true)], [.b (true)], [], [.b (true)], [.b (true)], [.b (true)], [.b (true)], [.b (true)], [.b (true)], [.b (true)], [.b (true)]] ?_
      conv => whnf
      refine ⟨⟨I, I, I, I, decide_eq_true (by omega), decide_eq_true (by omega), decide_eq_true (by omega), decide_eq_true (by omega), I, rfl, rfl, rfl, rfl, rfl, rfl, rfl, rfl, I⟩, by kernel_rfl, ?_⟩
      refine W.cn ?_
      conv => whnf
      refine ⟨fun _ => ?_, noF (rfl)⟩
      refine g 25 27 [] ?_
      conv => whnf
      refine ⟨⟨I, ⟨I, I, I, I, I, I, I, I, I⟩, I, I⟩, ?_⟩
      refine W.ret ?_
      refine EndsW.rt ?_
      conv => whnf
      refine ⟨⟨I, ⟨I, I, I, I, I, I, I, I, I⟩, I, ⟨I, I⟩, I⟩, ?_, rfl⟩
      exact congrArg tupM (readM_short h0).symm
  by_cases hk : ¬ key.size ≤ 30
  · have e : readM tx key = none := if_pos (Or.inr (fun h => hk ((form_iff h0).1 h).2.1))
    refine i_impl_ReadMessage ?_
    conv => whnf
    refine g 0 0 [] ?_
    conv => whnf
    refine ⟨⟨I, I, I⟩, ?_⟩
    refine W.sq ?_
    refine gd 9 25 [[], [], [], [], [.b (true)], [.b (true)], [.b (true)], [.b (true)], [], [.b (true)], [.b (true)], [.b (true)], [.b (true)], [.b (true)], [.b (true)], [.b (true)], [.b (true)]] ?_
    conv => whnf
    refine ⟨⟨I, I, I, I, decide_eq_true (by omega), decide_eq_true (by omega), decide_eq_true (by omega), decide_eq_true (by omega), I, rfl, rfl, rfl, rfl, rfl, rfl, rfl, rfl, I⟩, by kernel_rfl, ?_⟩
    refine W.cn ?_
    conv => whnf
    refine ⟨fun _ => ?_, noF (rfl)⟩
    refine g 25 27 [] ?_
    conv => whnf
    refine ⟨⟨I, ⟨I, I, I, I, I, I, I, I, I⟩, I, I⟩, ?_⟩
    refine W.ret ?_
    refine EndsW.rt ?_
    conv => whnf
    refine ⟨⟨I, ⟨I, I, I, I, I, I, I, I, I⟩, I, ⟨I, I⟩, I⟩, ?_, rfl⟩
    exact congrArg tupM e.symm
  have hx : (tx.extract 8 tx.size).size = tx.size - 8 := by rw [ByteArray.size_extract]; omega
  have c1 := c_impl_seal (tx.extract 8 tx.size) key (by omega) (by omega)
  by_cases hs : ¬ tx.extract 0 8 = sealT (tx.extract 8 tx.size) key
  · have e : readM tx key = none := if_pos (Or.inr (fun h => hs ((form_iff h0).1 h).2.2.2))
    refine i_impl_ReadMessage ?_
    conv => whnf
    refine g 0 0 [] ?_
    conv => whnf
    refine ⟨⟨I, I, I⟩, ?_⟩
    refine W.sq ?_
    refine gd 9 25 [[], [], [], [], [.b (false)], [.b (false)], [.b (false)], [.b (false)], [], [.b (false)], [.b (false), .n ((8 : Nat)), .s (ByteArray.extract tx (0 : Nat) (8 : Nat))], [.b (false)], [.b (false), .n ((8 : Nat)), .s (ByteArray.extract tx (8 : Nat) (ByteArray.size tx))], [.b (false)], [.b (false), .call (V.s (sealT (ByteArray.extract tx (8 : Nat) (ByteArray.size tx)) key)) ([[], []])], [.b (false)], [.b (false)]] ?_
    conv => whnf
    refine ⟨⟨I, I, I, I, ⟨decide_eq_false (by omega), I⟩, ⟨decide_eq_false (by omega), I⟩, ⟨decide_eq_false (by omega), I⟩, decide_eq_false (by omega), I, ⟨decide_eq_false (by omega), I⟩, ⟨decide_eq_false (by omega), rfl, I, (by omega), (by omega), rfl⟩, ⟨decide_eq_false (by omega), I⟩, ⟨decide_eq_false (by omega), I, rfl, (by omega), (by omega), rfl⟩, ⟨decide_eq_false (by omega), I⟩, ⟨decide_eq_false (by omega), ⟨I, I, I⟩, I, ⟨⟨I, I⟩, ⟨I, I⟩, I⟩, ⟨I, I⟩, (by assumption)⟩, ⟨decide_eq_false (by omega), I⟩, decide_eq_false (by omega), I⟩, by kernel_rfl, ?_⟩
    refine W.cn ?_
    conv => whnf
    refine ⟨fun _ => ?_, noF (notT (by omega))⟩
    refine g 25 27 [] ?_
    conv => whnf
    refine ⟨⟨I, ⟨I, I, I, I, I, I, I, I, I⟩, I, I⟩, ?_⟩
    refine W.ret ?_
    refine EndsW.rt ?_
    conv => whnf
    refine ⟨⟨I, ⟨I, I, I, I, I, I, I, I, I⟩, I, ⟨I, I⟩, I⟩, ?_, rfl⟩
    exact congrArg tupM e.symm
  obtain ⟨y1, hy1, hb1⟩ := byte_at (s := tx.extract 8 tx.size) (n := 0) (by omega)
  obtain ⟨y2, hy2, hb2⟩ := byte_at (s := tx.extract 8 tx.size) (n := 1) (by omega)
  obtain ⟨y3, hy3, hb3⟩ := byte_at (s := tx.extract 8 tx.size) (n := 2) (by omega)
  obtain ⟨y4, hy4, hb4⟩ := byte_at (s := tx.extract 8 tx.size) (n := 3) (by omega)
  obtain ⟨y5, hy5, hb5⟩ := byte_at (s := tx.extract 8 tx.size) (n := 4) (by omega)
  obtain ⟨y6, hy6, hb6⟩ := byte_at (s := tx.extract 8 tx.size) (n := 5) (by omega)
  obtain ⟨y7, hy7, hb7⟩ := byte_at (s := tx.extract 8 tx.size) (n := 6) (by omega)
  obtain ⟨y8, hy8, hb8⟩ := byte_at (s := tx.extract 8 tx.size) (n := 7) (by omega)
  obtain ⟨y9, hy9, hb9⟩ := byte_at (s := tx.extract 8 tx.size) (n := 8) (by omega)
  obtain ⟨y10, hy10, hb10⟩ := byte_at (s := tx.extract 8 tx.size) (n := 9) (by omega)
  obtain ⟨y11, hy11, hb11⟩ := byte_at (s := tx.extract 8 tx.size) (n := 10) (by omega)
  have f1 := or_epoch y4.toNat y5.toNat hb4 hb5
  have f2 := or_lease y6.toNat y7.toNat y8.toNat y9.toNat hb6 hb7 hb8 hb9
  have hz : (restM tx).size = tx.size - 19 := by unfold restM; rw [ByteArray.size_extract, hx]; omega
  have e : ∀ t l, rdF (tx.extract 8 tx.size) t l = ⟨y1.toNat, y2.toNat, y3.toNat, (y4.toNat : Int) * 256 + y5.toNat, (y6.toNat : Int) * 16777216 + (y7.toNat : Int) * 65536 + (y8.toNat : Int) * 256 + y9.toNat, y10.toNat, t, l⟩ := by
    intro t l; simp only [rdF, byt_at hy1, byt_at hy2, byt_at hy3, byt_at hy4, byt_at hy5, byt_at hy6, byt_at hy7, byt_at hy8, byt_at hy9, byt_at hy10]
  have hb := byt_at hy11
  have hbi := @body_iff (tx.extract 8 tx.size) (by omega)
  rw [hb, rd_inputs_len, byt_at hy1, hx] at hbi
  by_cases h3 : (y1.toNat : Int) = 3
  · have e1 : rdM (tx.extract 8 tx.size) = ⟨y1.toNat, y2.toNat, y3.toNat, (y4.toNat : Int) * 256 + y5.toNat, (y6.toNat : Int) * 16777216 + (y7.toNat : Int) * 65536 + (y8.toNat : Int) * 256 + y9.toNat, y10.toNat, restM tx, []⟩ := by
      rw [← e]; unfold rdM rdF; rw [byt_at hy1, if_pos h3, if_pos h3]; rfl
    rw [if_pos h3] at hbi
    have ho : msgOk (rdM (tx.extract 8 tx.size)) → (restM tx).size = 8 := by
      rw [e1]; unfold msgOk; dsimp only; omega
    have hq : 8 ≤ (restM tx).size → (restQ tx).size = (restM tx).size - 8 := by intro h; unfold restQ; rw [ByteArray.size_extract]; omega
    refine i_impl_ReadMessage ?_
    conv => whnf
    refine g 0 0 [] ?_
    conv => whnf
    refine ⟨⟨I, I, I⟩, ?_⟩
    refine W.sq ?_
    refine gd 9 25 [[], [], [], [], [.b (false)], [.b (false)], [.b (false)], [.b (false)], [], [.b (false)], [.b (false), .n ((8 : Nat)), .s (ByteArray.extract tx (0 : Nat) (8 : Nat))], [.b (false)], [.b (false), .n ((8 : Nat)), .s (ByteArray.extract tx (8 : Nat) (ByteArray.size tx))], [.b (false)], [.b (false), .call (V.s (sealT (ByteArray.extract tx (8 : Nat) (ByteArray.size tx)) key)) ([[], []])], [.b (false)], [.b (false)]] ?_
    conv => whnf
    refine ⟨⟨I, I, I, I, ⟨decide_eq_false (by omega), I⟩, ⟨decide_eq_false (by omega), I⟩, ⟨decide_eq_false (by omega), I⟩, decide_eq_false (by omega), I, ⟨decide_eq_false (by omega), I⟩, ⟨decide_eq_false (by omega), rfl, I, (by omega), (by omega), rfl⟩, ⟨decide_eq_false (by omega), I⟩, ⟨decide_eq_false (by omega), I, rfl, (by omega), (by omega), rfl⟩, ⟨decide_eq_false (by omega), I⟩, ⟨decide_eq_false (by omega), ⟨I, I, I⟩, I, ⟨⟨I, I⟩, ⟨I, I⟩, I⟩, ⟨I, I⟩, (by assumption)⟩, ⟨decide_eq_false (by omega), I⟩, decide_eq_false (by omega), I⟩, by kernel_rfl, ?_⟩
    refine W.cn ?_
    conv => whnf
    refine ⟨noT (by simp_all), fun _ => ?_⟩
    refine W.skip ?_
    refine g 25 29 [.n ((8 : Nat)), .s (ByteArray.extract tx (8 : Nat) (ByteArray.size tx))] ?_
    conv => whnf
    refine ⟨⟨I, ⟨I, rfl, (by omega), (by omega), rfl⟩, I, I⟩, ?_⟩
    refine gd 29 68 [[], [.i ((↑(UInt8.toNat y1) : Int))], [.i ((↑(UInt8.toNat y1) : Int))], [], [.i ((↑(UInt8.toNat y2) : Int))], [.i ((↑(UInt8.toNat y2) : Int))], [], [.i ((↑(UInt8.toNat y3) : Int))], [.i ((↑(UInt8.toNat y3) : Int))], [], [.i ((↑(UInt8.toNat y4) : Int))], [.i ((↑(UInt8.toNat y4) : Int))], [.i (IntKind.wrap IntKind.i64 ((↑(UInt8.toNat y4) : Int) * (2 : Int) ^ min (Int.toNat (8 : Int)) (IntKind.bits IntKind.i64)))], [], [.i ((↑(UInt8.toNat y5) : Int))], [.i ((↑(UInt8.toNat y5) : Int))], [.i (IntKind.wrap IntKind.i64 (↑(BitVec.toNat (BitVec.ofInt (IntKind.bits IntKind.i64) (IntKind.wrap IntKind.i64 ((↑(UInt8.toNat y4) : Int) * (2 : Int) ^ min (Int.toNat (8 : Int)) (IntKind.bits IntKind.i64))) ||| BitVec.ofInt (IntKind.bits IntKind.i64) (↑(UInt8.toNat y5) : Int))) : Int))], [], [.i ((↑(UInt8.toNat y6) : Int))], [.i ((↑(UInt8.toNat y6) : Int))], [.i (IntKind.wrap IntKind.i64 ((↑(UInt8.toNat y6) : Int) * (2 : Int) ^ min (Int.toNat (24 : Int)) (IntKind.bits IntKind.i64)))], [], [.i ((↑(UInt8.toNat y7) : Int))], [.i ((↑(UInt8.toNat y7) : Int))], [.i (IntKind.wrap IntKind.i64 ((↑(UInt8.toNat y7) : Int) * (2 : Int) ^ min (Int.toNat (16 : Int)) (IntKind.bits IntKind.i64)))], [.i (IntKind.wrap IntKind.i64 (↑(BitVec.toNat (BitVec.ofInt (IntKind.bits IntKind.i64) (IntKind.wrap IntKind.i64 ((↑(UInt8.toNat y6) : Int) * (2 : Int) ^ min (Int.toNat (24 : Int)) (IntKind.bits IntKind.i64))) ||| BitVec.ofInt (IntKind.bits IntKind.i64) (IntKind.wrap IntKind.i64 ((↑(UInt8.toNat y7) : Int) * (2 : Int) ^ min (Int.toNat (16 : Int)) (IntKind.bits IntKind.i64))))) : Int))], [], [.i ((↑(UInt8.toNat y8) : Int))], [.i ((↑(UInt8.toNat y8) : Int))], [.i (IntKind.wrap IntKind.i64 ((↑(UInt8.toNat y8) : Int) * (2 : Int) ^ min (Int.toNat (8 : Int)) (IntKind.bits IntKind.i64)))], [.i (IntKind.wrap IntKind.i64 (↑(BitVec.toNat (BitVec.ofInt (IntKind.bits IntKind.i64) (IntKind.wrap IntKind.i64 (↑(BitVec.toNat (BitVec.ofInt (IntKind.bits IntKind.i64) (IntKind.wrap IntKind.i64 ((↑(UInt8.toNat y6) : Int) * (2 : Int) ^ min (Int.toNat (24 : Int)) (IntKind.bits IntKind.i64))) ||| BitVec.ofInt (IntKind.bits IntKind.i64) (IntKind.wrap IntKind.i64 ((↑(UInt8.toNat y7) : Int) * (2 : Int) ^ min (Int.toNat (16 : Int)) (IntKind.bits IntKind.i64))))) : Int)) ||| BitVec.ofInt (IntKind.bits IntKind.i64) (IntKind.wrap IntKind.i64 ((↑(UInt8.toNat y8) : Int) * (2 : Int) ^ min (Int.toNat (8 : Int)) (IntKind.bits IntKind.i64))))) : Int))], [], [.i ((↑(UInt8.toNat y9) : Int))], [.i ((↑(UInt8.toNat y9) : Int))], [.i (IntKind.wrap IntKind.i64 (↑(BitVec.toNat (BitVec.ofInt (IntKind.bits IntKind.i64) (IntKind.wrap IntKind.i64 (↑(BitVec.toNat (BitVec.ofInt (IntKind.bits IntKind.i64) (IntKind.wrap IntKind.i64 (↑(BitVec.toNat (BitVec.ofInt (IntKind.bits IntKind.i64) (IntKind.wrap IntKind.i64 ((↑(UInt8.toNat y6) : Int) * (2 : Int) ^ min (Int.toNat (24 : Int)) (IntKind.bits IntKind.i64))) ||| BitVec.ofInt (IntKind.bits IntKind.i64) (IntKind.wrap IntKind.i64 ((↑(UInt8.toNat y7) : Int) * (2 : Int) ^ min (Int.toNat (16 : Int)) (IntKind.bits IntKind.i64))))) : Int)) ||| BitVec.ofInt (IntKind.bits IntKind.i64) (IntKind.wrap IntKind.i64 ((↑(UInt8.toNat y8) : Int) * (2 : Int) ^ min (Int.toNat (8 : Int)) (IntKind.bits IntKind.i64))))) : Int)) ||| BitVec.ofInt (IntKind.bits IntKind.i64) (↑(UInt8.toNat y9) : Int))) : Int))], [], [.i ((↑(UInt8.toNat y10) : Int))], [.i ((↑(UInt8.toNat y10) : Int))], [], [], []] ?_
    conv => whnf
    refine ⟨⟨I, ⟨(by omega), ixb hy1⟩, w8 _, I, ⟨(by omega), ixb hy2⟩, w8 _, I, ⟨(by omega), ixb hy3⟩, w8 _, I, ⟨(by omega), ixb hy4⟩, w8 _, ⟨(by omega), rfl⟩, I, ⟨(by omega), ixb hy5⟩, w8 _, rfl, I, ⟨(by omega), ixb hy6⟩, w8 _, ⟨(by omega), rfl⟩, I, ⟨(by omega), ixb hy7⟩, w8 _, ⟨(by omega), rfl⟩, rfl, I, ⟨(by omega), ixb hy8⟩, w8 _, ⟨(by omega), rfl⟩, rfl, I, ⟨(by omega), ixb hy9⟩, w8 _, rfl, I, ⟨(by omega), ixb hy10⟩, w8 _, I, I, ⟨I, I, I, I, I, I, I, I, I⟩, I⟩, by kernel_rfl, ?_⟩
    refine g 68 71 [.i ((↑(UInt8.toNat y11) : Int)), .i ((↑(UInt8.toNat y11) : Int))] ?_
    conv => whnf
    refine ⟨⟨I, ⟨(by omega), ixb hy11⟩, w8 _, I, I⟩, ?_⟩
    refine g 71 73 [.n ((11 : Nat)), .s (ByteArray.extract (ByteArray.extract tx (8 : Nat) (ByteArray.size tx)) (11 : Nat) (ByteArray.size (ByteArray.extract tx (8 : Nat) (ByteArray.size tx))))] ?_
    conv => whnf
    refine ⟨⟨I, ⟨I, rfl, (by omega), (by omega), rfl⟩, I, I⟩, ?_⟩
    refine W.sq ?_
    refine g 73 75 [] ?_
    conv => whnf
    refine ⟨⟨I, I, I, I⟩, ?_⟩
    refine W.cn ?_
    conv => whnf
    refine ⟨fun _ => ?_, noF (decide_eq_true (by omega))⟩
    refine W.sq ?_
    refine g 75 78 [] ?_
    conv => whnf
    refine ⟨⟨I, I, I, I⟩, ?_⟩
    refine W.cn ?_
    conv => whnf
    refine ⟨fun h1 => ?_, fun h1 => ?_⟩
    replace h1 := dt h1
    refine g 78 80 [] ?_
    conv => whnf
    refine ⟨⟨I, ⟨I, I, I, I, I, I, I, I, I⟩, I, I⟩, ?_⟩
    refine W.ret ?_
    refine EndsW.rt ?_
    conv => whnf
    refine ⟨⟨I, ⟨I, I, I, I, I, I, I, I, I⟩, I, ⟨I, I⟩, I⟩, ?_, rfl⟩
    rotate_left 1
    replace h1 := df h1
    refine W.skip ?_
    refine rgd [[], [.n ((8 : Nat)), .s (ByteArray.extract (ByteArray.extract (ByteArray.extract tx (8 : Nat) (ByteArray.size tx)) (11 : Nat) (ByteArray.size (ByteArray.extract tx (8 : Nat) (ByteArray.size tx)))) (0 : Nat) (8 : Nat))], [], [.n ((8 : Nat)), .s (ByteArray.extract (ByteArray.extract (ByteArray.extract tx (8 : Nat) (ByteArray.size tx)) (11 : Nat) (ByteArray.size (ByteArray.extract tx (8 : Nat) (ByteArray.size tx)))) (8 : Nat) (ByteArray.size (ByteArray.extract (ByteArray.extract tx (8 : Nat) (ByteArray.size tx)) (11 : Nat) (ByteArray.size (ByteArray.extract tx (8 : Nat) (ByteArray.size tx))))))], [], [], []] ?_
    conv => whnf
    refine ⟨⟨I, ⟨rfl, I, (by omega), (by omega), rfl⟩, I, ⟨I, rfl, (by omega), (by omega), rfl⟩, I, ⟨I, I⟩, I, I⟩, by kernel_rfl, ?_⟩
    refine W.sq ?_
    refine g 8 89 [.i ((8 : Int) * (↑(UInt8.toNat y11) : Int))] ?_
    conv => whnf
    refine ⟨⟨I, I, I, w64 (by omega) (by omega), I, I⟩, ?_⟩
    refine W.cn ?_
    conv => whnf
    refine ⟨fun h2 => ?_, fun h2 => ?_⟩
    replace h2 := ndt h2
    refine g 89 91 [] ?_
    conv => whnf
    refine ⟨⟨I, ⟨I, I, I, I, I, I, I, I, I⟩, I, I⟩, ?_⟩
    refine W.ret ?_
    refine EndsW.rt ?_
    conv => whnf
    refine ⟨⟨I, ⟨I, I, I, I, I, I, I, I, I⟩, I, ⟨I, I⟩, I⟩, ?_, rfl⟩
    rotate_left 1
    replace h2 := ndf h2
    refine W.skip ?_
    refine W.sq ?_
    refine W.blk ?_
    rotate_left 1
    · replace h1 : ((restM tx).size : Int) < 8 := h1
      exact congrArg tupM (readM_bad h0 (fun h => by have := ho h.1; omega)).symm
    · replace h1 : ¬ ((restM tx).size : Int) < 8 := h1
      replace h2 : ¬ ((restQ tx).size : Int) = 8 * (y11.toNat : Int) := h2
      exact congrArg tupM (readM_bad h0 (fun h => by have := ho h.1; have := ((hbi h.1).1 h.2).1; omega)).symm
    · replace h1 : ¬ ((restM tx).size : Int) < 8 := h1
      replace h2 : ((restQ tx).size : Int) = 8 * (y11.toNat : Int) := h2
      refine W.lp (fun s (n : Nat) => ⟨[(0, s.s 0), (4, s.s 4), (5, s.s 5), (6, .s (restK (restQ tx) n)), (7, s.s 7)], [(4, [s.c 4 0, s.c 4 1, s.c 4 2, s.c 4 3, s.c 4 4, s.c 4 5, s.c 4 6, s.c 4 7]), (7, [.t (.i y1.toNat), .t (.i y2.toNat), .t (.i y3.toNat), .t (.i ((y4.toNat : Int) * 256 + y5.toNat)), .t (.i ((y6.toNat : Int) * 16777216 + (y7.toNat : Int) * 65536 + (y8.toNat : Int) * 256 + y9.toNat)), .t (.i y10.toNat), .t (.s ((restM tx).extract 0 8)), .own [false] ((chunks (restQ tx) n).map strT)])], []⟩) (fun (n : Nat) => 8 * n ≤ (restQ tx).size) (fun (n : Nat) => (restQ tx).size - 8 * n) (0) [some 4, some 7] [] ⟨rfl, ⟨rfl, rfl, rfl, (congrArg (fun z => V.t (T.v (Value.string z))) (restK_zero (restQ tx))), rfl, I⟩, ⟨⟨rfl, ⟨rfl, ⟨rfl, ⟨rfl, ⟨rfl, ⟨rfl, ⟨rfl, ⟨rfl, ⟨rfl, I⟩⟩⟩⟩⟩⟩⟩⟩⟩, ⟨⟨rfl, ⟨rfl, ⟨rfl, ⟨rfl, ⟨(congrArg (fun z => V.t (T.v (Value.int _ z))) (f1)), ⟨(congrArg (fun z => V.t (T.v (Value.int _ z))) (f2)), ⟨rfl, ⟨rfl, ⟨rfl, I⟩⟩⟩⟩⟩⟩⟩⟩⟩, I⟩⟩, I⟩ (by omega) ?_
      intro n hn
      have hrz := restK_size (restQ tx) n
      have hcl := chunks_len (restQ tx) n
      have c2 := c_impl_Message_valid ⟨y1.toNat, y2.toNat, y3.toNat, (y4.toNat : Int) * 256 + y5.toNat, (y6.toNat : Int) * 16777216 + (y7.toNat : Int) * 65536 + (y8.toNat : Int) * 256 + y9.toNat, y10.toNat, (restM tx).extract 0 8, chunks (restQ tx) n⟩ (by rw [show (Message.inputs ⟨y1.toNat, y2.toNat, y3.toNat, (y4.toNat : Int) * 256 + y5.toNat, (y6.toNat : Int) * 16777216 + (y7.toNat : Int) * 65536 + (y8.toNat : Int) * 256 + y9.toNat, y10.toNat, (restM tx).extract 0 8, chunks (restQ tx) n⟩) = chunks (restQ tx) n from rfl, hcl]; omega)
      by_cases hn8 : 8 * n < (restQ tx).size
      · have hne := restK_more hn8
        conv => whnf
        refine W.sq ?_
        refine g 91 92 [] ?_
        conv => whnf
        refine ⟨⟨I, I, I⟩, ?_⟩
        refine W.cn ?_
        conv => whnf
        refine ⟨fun _ => ?_, noF (notT (by omega))⟩
        refine W.skip ?_
        refine W.sq ?_
        refine W.blk ?_
        refine rgd [[], [], [], [.n ((8 : Nat)), .s (ByteArray.extract (restK (restQ tx) n) (0 : Nat) (8 : Nat))], [], [], [], []] ?_
        conv => whnf
        refine ⟨⟨I, I, I, ⟨rfl, I, (by omega), (by omega), rfl⟩, ⟨⟨I, I⟩, I⟩, ⟨I, I, (by simp only [List.length_map, List.length_append, List.length_set, List.length_replicate, List.length_cons, List.length_nil, List.length_take, List.length_drop, fill_len, fillI_len, List.length_range, bytesT_len]; omega)⟩, I, ⟨I, I⟩, I⟩, by kernel_rfl, ?_⟩
        refine rg [.n ((8 : Nat)), .s (ByteArray.extract (restK (restQ tx) n) (8 : Nat) (ByteArray.size (restK (restQ tx) n)))] ?_
        conv => whnf
        refine ⟨⟨I, ⟨I, rfl, (by omega), (by omega), rfl⟩, I, I⟩, ?_⟩
        · refine ⟨n + 1, [some 4, some 7], [], ⟨rfl, ⟨rfl, rfl, rfl, (congrArg (fun z => V.t (T.v (Value.string z))) (restK_succ (restQ tx) n (by omega))), rfl, I⟩, ⟨⟨rfl, ⟨rfl, ⟨rfl, ⟨rfl, ⟨rfl, ⟨rfl, ⟨rfl, ⟨rfl, ⟨rfl, I⟩⟩⟩⟩⟩⟩⟩⟩⟩, ⟨⟨rfl, ⟨rfl, ⟨rfl, ⟨rfl, ⟨rfl, ⟨rfl, ⟨rfl, ⟨rfl, ⟨(congrArg (V.own _) (chunkK (by omega))), I⟩⟩⟩⟩⟩⟩⟩⟩⟩, I⟩⟩, I⟩, ?_, ?_⟩
          rotate_left 1
          (dsimp only; omega)
          dsimp only
          omega
      · have heq := restK_nil hn8
        have em : n = 0 → (restM tx).size = 8 → rdM (tx.extract 8 tx.size) = ⟨y1.toNat, y2.toNat, y3.toNat, (y4.toNat : Int) * 256 + y5.toNat, (y6.toNat : Int) * 16777216 + (y7.toNat : Int) * 65536 + (y8.toNat : Int) * 256 + y9.toNat, y10.toNat, (restM tx).extract 0 8, chunks (restQ tx) n⟩ := by
          intro hn0 h8
          rw [e1, hn0, show chunks (restQ tx) 0 = [] from rfl]
          rw [show (restM tx).extract 0 8 = restM tx by rw [← h8, ByteArray.extract_zero_size]]
        conv => whnf
        refine W.sq ?_
        refine g 91 92 [] ?_
        conv => whnf
        refine ⟨⟨I, I, I⟩, ?_⟩
        refine W.cn ?_
        conv => whnf
        refine ⟨noT (notF (by omega)), fun _ => ?_⟩
        refine W.exit ?_
        refine W.sq ?_
        refine g 92 104 [.call (V.b (decide (msgOk { kind := (↑(UInt8.toNat y1) : Int), frm := (↑(UInt8.toNat y2) : Int), to := (↑(UInt8.toNat y3) : Int), epoch := (↑(UInt8.toNat y4) : Int) * (256 : Int) + (↑(UInt8.toNat y5) : Int), lease := (↑(UInt8.toNat y6) : Int) * (16777216 : Int) + (↑(UInt8.toNat y7) : Int) * (65536 : Int) + (↑(UInt8.toNat y8) : Int) * (256 : Int) + (↑(UInt8.toNat y9) : Int), task := (↑(UInt8.toNat y10) : Int), text := ByteArray.extract (restM tx) (0 : Nat) (8 : Nat), inputs := chunks (restQ tx) n : Message }))) ([[]])] ?_
        conv => whnf
        refine ⟨⟨I, ⟨⟨I, I⟩, I, ⟨⟨I, I, I, I, I, I, I, I, I⟩, I⟩, ⟨I, I⟩, (by assumption)⟩, I, I⟩, ?_⟩
        refine W.cn ?_
        conv => whnf
        refine ⟨fun h4 => ?_, fun h4 => ?_⟩
        replace h4 := ndt h4
        refine g 104 106 [] ?_
        conv => whnf
        refine ⟨⟨I, ⟨I, I, I, I, I, I, I, I, I⟩, I, I⟩, ?_⟩
        refine W.ret ?_
        refine EndsW.rt ?_
        conv => whnf
        refine ⟨⟨I, ⟨I, I, I, I, I, I, I, I, I⟩, I, ⟨I, I⟩, I⟩, ?_, rfl⟩
        rotate_left 1
        replace h4 := ndf h4
        refine W.skip ?_
        refine g 6 107 [] ?_
        conv => whnf
        refine ⟨⟨I, ⟨I, I, I, I, I, I, I, I, I⟩, I, I⟩, ?_⟩
        refine W.ret ?_
        refine EndsW.rt ?_
        conv => whnf
        refine ⟨⟨I, ⟨I, I, I, I, I, I, I, I, I⟩, I, ⟨I, I⟩, I⟩, ?_, rfl⟩
        rotate_left 1
        · exact congrArg tupM (readM_bad h0 (fun h => by
            have h4 := ho h.1
            have h5 := ((hbi h.1).1 h.2).1
            rw [em (by omega) h4] at h
            exact absurd h.1 (by assumption))).symm
        · have hok : msgOk ⟨y1.toNat, y2.toNat, y3.toNat, (y4.toNat : Int) * 256 + y5.toNat, (y6.toNat : Int) * 16777216 + (y7.toNat : Int) * 65536 + (y8.toNat : Int) * 256 + y9.toNat, y10.toNat, (restM tx).extract 0 8, chunks (restQ tx) n⟩ := by assumption
          have hn0 : n = 0 := by
            have : (chunks (restQ tx) n).length = 0 := by
              unfold msgOk at hok; dsimp only at hok; omega
            omega
          have h8 : (restM tx).size = 8 := by omega
          exact congrArg tupM (readM_good h0 (by omega) (Decidable.not_not.1 hs) (em hn0 h8) hok ((hbi (by rw [em hn0 h8]; exact hok)).2 ⟨by omega, fun h => absurd h3 h⟩)).symm
  · rw [if_neg h3] at hbi
    have e1 : ∀ n, n = (tx.size - 19) / 8 → rdM (tx.extract 8 tx.size) = ⟨y1.toNat, y2.toNat, y3.toNat, (y4.toNat : Int) * 256 + y5.toNat, (y6.toNat : Int) * 16777216 + (y7.toNat : Int) * 65536 + (y8.toNat : Int) * 256 + y9.toNat, y10.toNat, emp, chunks (restM tx) n⟩ := by
      intro n hn; rw [← e]; unfold rdM rdF; rw [byt_at hy1, if_neg h3, if_neg h3, hn, hx, restM, hx, show tx.size - 8 - 11 = tx.size - 19 by omega]
    refine i_impl_ReadMessage ?_
    conv => whnf
    refine g 0 0 [] ?_
    conv => whnf
    refine ⟨⟨I, I, I⟩, ?_⟩
    refine W.sq ?_
    refine gd 9 25 [[], [], [], [], [.b (false)], [.b (false)], [.b (false)], [.b (false)], [], [.b (false)], [.b (false), .n ((8 : Nat)), .s (ByteArray.extract tx (0 : Nat) (8 : Nat))], [.b (false)], [.b (false), .n ((8 : Nat)), .s (ByteArray.extract tx (8 : Nat) (ByteArray.size tx))], [.b (false)], [.b (false), .call (V.s (sealT (ByteArray.extract tx (8 : Nat) (ByteArray.size tx)) key)) ([[], []])], [.b (false)], [.b (false)]] ?_
    conv => whnf
    refine ⟨⟨I, I, I, I, ⟨decide_eq_false (by omega), I⟩, ⟨decide_eq_false (by omega), I⟩, ⟨decide_eq_false (by omega), I⟩, decide_eq_false (by omega), I, ⟨decide_eq_false (by omega), I⟩, ⟨decide_eq_false (by omega), rfl, I, (by omega), (by omega), rfl⟩, ⟨decide_eq_false (by omega), I⟩, ⟨decide_eq_false (by omega), I, rfl, (by omega), (by omega), rfl⟩, ⟨decide_eq_false (by omega), I⟩, ⟨decide_eq_false (by omega), ⟨I, I, I⟩, I, ⟨⟨I, I⟩, ⟨I, I⟩, I⟩, ⟨I, I⟩, (by assumption)⟩, ⟨decide_eq_false (by omega), I⟩, decide_eq_false (by omega), I⟩, by kernel_rfl, ?_⟩
    refine W.cn ?_
    conv => whnf
    refine ⟨noT (by simp_all), fun _ => ?_⟩
    refine W.skip ?_
    refine g 25 29 [.n ((8 : Nat)), .s (ByteArray.extract tx (8 : Nat) (ByteArray.size tx))] ?_
    conv => whnf
    refine ⟨⟨I, ⟨I, rfl, (by omega), (by omega), rfl⟩, I, I⟩, ?_⟩
    refine gd 29 68 [[], [.i ((↑(UInt8.toNat y1) : Int))], [.i ((↑(UInt8.toNat y1) : Int))], [], [.i ((↑(UInt8.toNat y2) : Int))], [.i ((↑(UInt8.toNat y2) : Int))], [], [.i ((↑(UInt8.toNat y3) : Int))], [.i ((↑(UInt8.toNat y3) : Int))], [], [.i ((↑(UInt8.toNat y4) : Int))], [.i ((↑(UInt8.toNat y4) : Int))], [.i (IntKind.wrap IntKind.i64 ((↑(UInt8.toNat y4) : Int) * (2 : Int) ^ min (Int.toNat (8 : Int)) (IntKind.bits IntKind.i64)))], [], [.i ((↑(UInt8.toNat y5) : Int))], [.i ((↑(UInt8.toNat y5) : Int))], [.i (IntKind.wrap IntKind.i64 (↑(BitVec.toNat (BitVec.ofInt (IntKind.bits IntKind.i64) (IntKind.wrap IntKind.i64 ((↑(UInt8.toNat y4) : Int) * (2 : Int) ^ min (Int.toNat (8 : Int)) (IntKind.bits IntKind.i64))) ||| BitVec.ofInt (IntKind.bits IntKind.i64) (↑(UInt8.toNat y5) : Int))) : Int))], [], [.i ((↑(UInt8.toNat y6) : Int))], [.i ((↑(UInt8.toNat y6) : Int))], [.i (IntKind.wrap IntKind.i64 ((↑(UInt8.toNat y6) : Int) * (2 : Int) ^ min (Int.toNat (24 : Int)) (IntKind.bits IntKind.i64)))], [], [.i ((↑(UInt8.toNat y7) : Int))], [.i ((↑(UInt8.toNat y7) : Int))], [.i (IntKind.wrap IntKind.i64 ((↑(UInt8.toNat y7) : Int) * (2 : Int) ^ min (Int.toNat (16 : Int)) (IntKind.bits IntKind.i64)))], [.i (IntKind.wrap IntKind.i64 (↑(BitVec.toNat (BitVec.ofInt (IntKind.bits IntKind.i64) (IntKind.wrap IntKind.i64 ((↑(UInt8.toNat y6) : Int) * (2 : Int) ^ min (Int.toNat (24 : Int)) (IntKind.bits IntKind.i64))) ||| BitVec.ofInt (IntKind.bits IntKind.i64) (IntKind.wrap IntKind.i64 ((↑(UInt8.toNat y7) : Int) * (2 : Int) ^ min (Int.toNat (16 : Int)) (IntKind.bits IntKind.i64))))) : Int))], [], [.i ((↑(UInt8.toNat y8) : Int))], [.i ((↑(UInt8.toNat y8) : Int))], [.i (IntKind.wrap IntKind.i64 ((↑(UInt8.toNat y8) : Int) * (2 : Int) ^ min (Int.toNat (8 : Int)) (IntKind.bits IntKind.i64)))], [.i (IntKind.wrap IntKind.i64 (↑(BitVec.toNat (BitVec.ofInt (IntKind.bits IntKind.i64) (IntKind.wrap IntKind.i64 (↑(BitVec.toNat (BitVec.ofInt (IntKind.bits IntKind.i64) (IntKind.wrap IntKind.i64 ((↑(UInt8.toNat y6) : Int) * (2 : Int) ^ min (Int.toNat (24 : Int)) (IntKind.bits IntKind.i64))) ||| BitVec.ofInt (IntKind.bits IntKind.i64) (IntKind.wrap IntKind.i64 ((↑(UInt8.toNat y7) : Int) * (2 : Int) ^ min (Int.toNat (16 : Int)) (IntKind.bits IntKind.i64))))) : Int)) ||| BitVec.ofInt (IntKind.bits IntKind.i64) (IntKind.wrap IntKind.i64 ((↑(UInt8.toNat y8) : Int) * (2 : Int) ^ min (Int.toNat (8 : Int)) (IntKind.bits IntKind.i64))))) : Int))], [], [.i ((↑(UInt8.toNat y9) : Int))], [.i ((↑(UInt8.toNat y9) : Int))], [.i (IntKind.wrap IntKind.i64 (↑(BitVec.toNat (BitVec.ofInt (IntKind.bits IntKind.i64) (IntKind.wrap IntKind.i64 (↑(BitVec.toNat (BitVec.ofInt (IntKind.bits IntKind.i64) (IntKind.wrap IntKind.i64 (↑(BitVec.toNat (BitVec.ofInt (IntKind.bits IntKind.i64) (IntKind.wrap IntKind.i64 ((↑(UInt8.toNat y6) : Int) * (2 : Int) ^ min (Int.toNat (24 : Int)) (IntKind.bits IntKind.i64))) ||| BitVec.ofInt (IntKind.bits IntKind.i64) (IntKind.wrap IntKind.i64 ((↑(UInt8.toNat y7) : Int) * (2 : Int) ^ min (Int.toNat (16 : Int)) (IntKind.bits IntKind.i64))))) : Int)) ||| BitVec.ofInt (IntKind.bits IntKind.i64) (IntKind.wrap IntKind.i64 ((↑(UInt8.toNat y8) : Int) * (2 : Int) ^ min (Int.toNat (8 : Int)) (IntKind.bits IntKind.i64))))) : Int)) ||| BitVec.ofInt (IntKind.bits IntKind.i64) (↑(UInt8.toNat y9) : Int))) : Int))], [], [.i ((↑(UInt8.toNat y10) : Int))], [.i ((↑(UInt8.toNat y10) : Int))], [], [], []] ?_
    conv => whnf
    refine ⟨⟨I, ⟨(by omega), ixb hy1⟩, w8 _, I, ⟨(by omega), ixb hy2⟩, w8 _, I, ⟨(by omega), ixb hy3⟩, w8 _, I, ⟨(by omega), ixb hy4⟩, w8 _, ⟨(by omega), rfl⟩, I, ⟨(by omega), ixb hy5⟩, w8 _, rfl, I, ⟨(by omega), ixb hy6⟩, w8 _, ⟨(by omega), rfl⟩, I, ⟨(by omega), ixb hy7⟩, w8 _, ⟨(by omega), rfl⟩, rfl, I, ⟨(by omega), ixb hy8⟩, w8 _, ⟨(by omega), rfl⟩, rfl, I, ⟨(by omega), ixb hy9⟩, w8 _, rfl, I, ⟨(by omega), ixb hy10⟩, w8 _, I, I, ⟨I, I, I, I, I, I, I, I, I⟩, I⟩, by kernel_rfl, ?_⟩
    refine g 68 71 [.i ((↑(UInt8.toNat y11) : Int)), .i ((↑(UInt8.toNat y11) : Int))] ?_
    conv => whnf
    refine ⟨⟨I, ⟨(by omega), ixb hy11⟩, w8 _, I, I⟩, ?_⟩
    refine g 71 73 [.n ((11 : Nat)), .s (ByteArray.extract (ByteArray.extract tx (8 : Nat) (ByteArray.size tx)) (11 : Nat) (ByteArray.size (ByteArray.extract tx (8 : Nat) (ByteArray.size tx))))] ?_
    conv => whnf
    refine ⟨⟨I, ⟨I, rfl, (by omega), (by omega), rfl⟩, I, I⟩, ?_⟩
    refine W.sq ?_
    refine g 73 75 [] ?_
    conv => whnf
    refine ⟨⟨I, I, I, I⟩, ?_⟩
    refine W.cn ?_
    conv => whnf
    refine ⟨noT (decide_eq_false (by omega)), fun _ => ?_⟩
    refine W.skip ?_
    refine W.sq ?_
    refine g 8 89 [.i ((8 : Int) * (↑(UInt8.toNat y11) : Int))] ?_
    conv => whnf
    refine ⟨⟨I, I, I, w64 (by omega) (by omega), I, I⟩, ?_⟩
    refine W.cn ?_
    conv => whnf
    refine ⟨fun h1 => ?_, fun h1 => ?_⟩
    replace h1 := ndt h1
    refine g 89 91 [] ?_
    conv => whnf
    refine ⟨⟨I, ⟨I, I, I, I, I, I, I, I, I⟩, I, I⟩, ?_⟩
    refine W.ret ?_
    refine EndsW.rt ?_
    conv => whnf
    refine ⟨⟨I, ⟨I, I, I, I, I, I, I, I, I⟩, I, ⟨I, I⟩, I⟩, ?_, rfl⟩
    rotate_left 1
    replace h1 := ndf h1
    refine W.skip ?_
    refine W.sq ?_
    refine W.blk ?_
    rotate_left 1
    · replace h1 : ¬ ((restM tx).size : Int) = 8 * (y11.toNat : Int) := h1
      exact congrArg tupM (readM_bad h0 (fun h => by have h5 := (hbi h.1).1 h.2; have := h5.2 h3; omega)).symm
    · replace h1 : ((restM tx).size : Int) = 8 * (y11.toNat : Int) := h1
      refine W.lp (fun s (n : Nat) => ⟨[(0, s.s 0), (4, s.s 4), (5, s.s 5), (6, .s (restK (restM tx) n)), (7, s.s 7)], [(4, [s.c 4 0, s.c 4 1, s.c 4 2, s.c 4 3, s.c 4 4, s.c 4 5, s.c 4 6, s.c 4 7]), (7, [.t (.i y1.toNat), .t (.i y2.toNat), .t (.i y3.toNat), .t (.i ((y4.toNat : Int) * 256 + y5.toNat)), .t (.i ((y6.toNat : Int) * 16777216 + (y7.toNat : Int) * 65536 + (y8.toNat : Int) * 256 + y9.toNat)), .t (.i y10.toNat), .t (.s emp), .own [false] ((chunks (restM tx) n).map strT)])], []⟩) (fun (n : Nat) => 8 * n ≤ (restM tx).size) (fun (n : Nat) => (restM tx).size - 8 * n) (0) [some 4, some 7] [] ⟨rfl, ⟨rfl, rfl, rfl, (congrArg (fun z => V.t (T.v (Value.string z))) (restK_zero (restM tx))), rfl, I⟩, ⟨⟨rfl, ⟨rfl, ⟨rfl, ⟨rfl, ⟨rfl, ⟨rfl, ⟨rfl, ⟨rfl, ⟨rfl, I⟩⟩⟩⟩⟩⟩⟩⟩⟩, ⟨⟨rfl, ⟨rfl, ⟨rfl, ⟨rfl, ⟨(congrArg (fun z => V.t (T.v (Value.int _ z))) (f1)), ⟨(congrArg (fun z => V.t (T.v (Value.int _ z))) (f2)), ⟨rfl, ⟨rfl, ⟨rfl, I⟩⟩⟩⟩⟩⟩⟩⟩⟩, I⟩⟩, I⟩ (by omega) ?_
      intro n hn
      have hrz := restK_size (restM tx) n
      have hcl := chunks_len (restM tx) n
      have c2 := c_impl_Message_valid ⟨y1.toNat, y2.toNat, y3.toNat, (y4.toNat : Int) * 256 + y5.toNat, (y6.toNat : Int) * 16777216 + (y7.toNat : Int) * 65536 + (y8.toNat : Int) * 256 + y9.toNat, y10.toNat, emp, chunks (restM tx) n⟩ (by rw [show (Message.inputs ⟨y1.toNat, y2.toNat, y3.toNat, (y4.toNat : Int) * 256 + y5.toNat, (y6.toNat : Int) * 16777216 + (y7.toNat : Int) * 65536 + (y8.toNat : Int) * 256 + y9.toNat, y10.toNat, emp, chunks (restM tx) n⟩) = chunks (restM tx) n from rfl, hcl]; omega)
      by_cases hn8 : 8 * n < (restM tx).size
      · have hne := restK_more hn8
        conv => whnf
        refine W.sq ?_
        refine g 91 92 [] ?_
        conv => whnf
        refine ⟨⟨I, I, I⟩, ?_⟩
        refine W.cn ?_
        conv => whnf
        refine ⟨fun _ => ?_, noF (notT (by omega))⟩
        refine W.skip ?_
        refine W.sq ?_
        refine W.blk ?_
        refine rgd [[], [], [], [.n ((8 : Nat)), .s (ByteArray.extract (restK (restM tx) n) (0 : Nat) (8 : Nat))], [], [], [], []] ?_
        conv => whnf
        refine ⟨⟨I, I, I, ⟨rfl, I, (by omega), (by omega), rfl⟩, ⟨⟨I, I⟩, I⟩, ⟨I, I, (by simp only [List.length_map, List.length_append, List.length_set, List.length_replicate, List.length_cons, List.length_nil, List.length_take, List.length_drop, fill_len, fillI_len, List.length_range, bytesT_len]; omega)⟩, I, ⟨I, I⟩, I⟩, by kernel_rfl, ?_⟩
        refine rg [.n ((8 : Nat)), .s (ByteArray.extract (restK (restM tx) n) (8 : Nat) (ByteArray.size (restK (restM tx) n)))] ?_
        conv => whnf
        refine ⟨⟨I, ⟨I, rfl, (by omega), (by omega), rfl⟩, I, I⟩, ?_⟩
        · refine ⟨n + 1, [some 4, some 7], [], ⟨rfl, ⟨rfl, rfl, rfl, (congrArg (fun z => V.t (T.v (Value.string z))) (restK_succ (restM tx) n (by omega))), rfl, I⟩, ⟨⟨rfl, ⟨rfl, ⟨rfl, ⟨rfl, ⟨rfl, ⟨rfl, ⟨rfl, ⟨rfl, ⟨rfl, I⟩⟩⟩⟩⟩⟩⟩⟩⟩, ⟨⟨rfl, ⟨rfl, ⟨rfl, ⟨rfl, ⟨rfl, ⟨rfl, ⟨rfl, ⟨rfl, ⟨(congrArg (V.own _) (chunkK (by omega))), I⟩⟩⟩⟩⟩⟩⟩⟩⟩, I⟩⟩, I⟩, ?_, ?_⟩
          rotate_left 1
          (dsimp only; omega)
          dsimp only
          omega
      · have heq := restK_nil hn8
        have em := e1 n (by omega)
        conv => whnf
        refine W.sq ?_
        refine g 91 92 [] ?_
        conv => whnf
        refine ⟨⟨I, I, I⟩, ?_⟩
        refine W.cn ?_
        conv => whnf
        refine ⟨noT (notF (by omega)), fun _ => ?_⟩
        refine W.exit ?_
        refine W.sq ?_
        refine g 92 104 [.call (V.b (decide (msgOk { kind := (↑(UInt8.toNat y1) : Int), frm := (↑(UInt8.toNat y2) : Int), to := (↑(UInt8.toNat y3) : Int), epoch := (↑(UInt8.toNat y4) : Int) * (256 : Int) + (↑(UInt8.toNat y5) : Int), lease := (↑(UInt8.toNat y6) : Int) * (16777216 : Int) + (↑(UInt8.toNat y7) : Int) * (65536 : Int) + (↑(UInt8.toNat y8) : Int) * (256 : Int) + (↑(UInt8.toNat y9) : Int), task := (↑(UInt8.toNat y10) : Int), text := emp, inputs := chunks (restM tx) n : Message }))) ([[]])] ?_
        conv => whnf
        refine ⟨⟨I, ⟨⟨I, I⟩, I, ⟨⟨I, I, I, I, I, I, I, I, I⟩, I⟩, ⟨I, I⟩, (by assumption)⟩, I, I⟩, ?_⟩
        refine W.cn ?_
        conv => whnf
        refine ⟨fun h2 => ?_, fun h2 => ?_⟩
        replace h2 := ndt h2
        refine g 104 106 [] ?_
        conv => whnf
        refine ⟨⟨I, ⟨I, I, I, I, I, I, I, I, I⟩, I, I⟩, ?_⟩
        refine W.ret ?_
        refine EndsW.rt ?_
        conv => whnf
        refine ⟨⟨I, ⟨I, I, I, I, I, I, I, I, I⟩, I, ⟨I, I⟩, I⟩, ?_, rfl⟩
        rotate_left 1
        replace h2 := ndf h2
        refine W.skip ?_
        refine g 6 107 [] ?_
        conv => whnf
        refine ⟨⟨I, ⟨I, I, I, I, I, I, I, I, I⟩, I, I⟩, ?_⟩
        refine W.ret ?_
        refine EndsW.rt ?_
        conv => whnf
        refine ⟨⟨I, ⟨I, I, I, I, I, I, I, I, I⟩, I, ⟨I, I⟩, I⟩, ?_, rfl⟩
        rotate_left 1
        · exact congrArg tupM (readM_bad h0 (fun h => by rw [em] at h; exact absurd h.1 (by assumption))).symm
        · have hok : msgOk ⟨y1.toNat, y2.toNat, y3.toNat, (y4.toNat : Int) * 256 + y5.toNat, (y6.toNat : Int) * 16777216 + (y7.toNat : Int) * 65536 + (y8.toNat : Int) * 256 + y9.toNat, y10.toNat, emp, chunks (restM tx) n⟩ := by assumption
          exact congrArg tupM (readM_good h0 (by omega) (Decidable.not_not.1 hs) em hok ((hbi (by rw [em]; exact hok)).2 ⟨by omega, fun h => by omega⟩)).symm
end Go.K

/- Contracts of functions of the program: what each call answers. -/
import Derived.Test.YtcccigapbalidaaY
import Derived.Test.YtcccigapbalidaaD
set_option linter.unusedVariables false
set_option linter.unusedSimpArgs false
set_option maxHeartbeats 4000000
set_option maxRecDepth 20000
open Go Go.Tm Go.Proofs
namespace Go.K
attribute [local irreducible] ByteArray.extract
theorem or64_add (a i y : Nat) (hy : y < 2 ^ i) (h : a * 2 ^ i + y < 9223372036854775808) : or64 ((a * 2 ^ i : Nat) : Int) (y : Int) = ((a * 2 ^ i + y : Nat) : Int) := by
  unfold or64
  have e : ((BitVec.ofInt IntKind.i64.bits ((a * 2 ^ i : Nat) : Int)) ||| BitVec.ofInt IntKind.i64.bits (y : Int)).toNat = a * 2 ^ i + y := by
    rw [BitVec.ofInt_natCast, BitVec.ofInt_natCast]
    have hb64 : IntKind.i64.bits = 64 := rfl
    rw [BitVec.toNat_or, BitVec.toNat_ofNat, BitVec.toNat_ofNat, hb64, Nat.mod_eq_of_lt (by omega), Nat.mod_eq_of_lt (by omega)]
    have := Nat.two_pow_add_eq_or_of_lt (i := i) (b := y) hy a
    rw [Nat.mul_comm] at this
    exact this.symm
  rw [e]
  rw [w64 (by omega) (by omega)]
theorem or_epoch (a b : Nat) (ha : a < 256) (hb : b < 256) : or64 (IntKind.i64.wrap ((a : Int) * 256)) b = (a : Int) * 256 + b := or_bytes a b ha hb
theorem or_lease (a b c d : Nat) (ha : a < 256) (hb : b < 256) (hc : c < 256) (hd : d < 256) : or64 (or64 (or64 (IntKind.i64.wrap ((a : Int) * 16777216)) (IntKind.i64.wrap ((b : Int) * 65536))) (IntKind.i64.wrap ((c : Int) * 256))) d = (a : Int) * 16777216 + (b : Int) * 65536 + (c : Int) * 256 + d := by
  rw [w64 (by omega) (by omega), w64 (by omega) (by omega), w64 (by omega) (by omega)]
  have f1 : ((a * 16777216 : Nat) : Int) = (a : Int) * 16777216 := by rw [Int.natCast_mul]; rfl
  have f2 : ((b * 65536 : Nat) : Int) = (b : Int) * 65536 := by rw [Int.natCast_mul]; rfl
  have f3 : a * 16777216 + b * 65536 = (a * 256 + b) * 65536 := by rw [Nat.add_mul, Nat.mul_assoc]
  have f4 : ((c * 256 : Nat) : Int) = (c : Int) * 256 := by rw [Int.natCast_mul]; rfl
  have f5 : (a * 256 + b) * 65536 + c * 256 = ((a * 256 + b) * 256 + c) * 256 := by rw [Nat.add_mul ((a * 256 + b) * 256) c 256, Nat.mul_assoc (a * 256 + b) 256 256]
  have f6 : ((((a * 256 + b) * 256 + c) * 256 + d : Nat) : Int) = (a : Int) * 16777216 + (b : Int) * 65536 + (c : Int) * 256 + d := by omega
  have e1 := or64_add a 24 (b * 65536) (by omega) (by omega)
  have e2 := or64_add (a * 256 + b) 16 (c * 256) (by omega) (by clear e1; omega)
  have e3 := or64_add ((a * 256 + b) * 256 + c) 8 d (by clear e1 e2; omega) (by clear e1 e2; omega)
  simp only [Nat.reducePow] at e1 e2 e3
  rw [f1, f2] at e1
  rw [e1]
  rw [f4] at e2
  rw [f3, e2]
  rw [f5, e3, f6]
theorem form_iff {m : Message} {s key : ByteArray} (h : ¬ s.size < 19) : formM m key = s ↔ msgOk m ∧ key.size ≤ 30 ∧ bodyM m = s.extract 8 s.size ∧ s.extract 0 8 = sealT (s.extract 8 s.size) key := by
  unfold formM
  constructor
  · intro e
    by_cases hc : msgOk m ∧ key.size ≤ 30
    · rw [if_pos hc] at e
      have h8 : (sealT (bodyM m) key).size = 8 := sumT_size _
      have hb : s.extract 8 s.size = bodyM m := by
        rw [← e, ByteArray.size_append, h8, ByteArray.extract_append_eq_right h8.symm (by omega)]
      have hs : s.extract 0 8 = sealT (bodyM m) key := by
        rw [← e, ByteArray.extract_append_eq_left h8.symm]
      exact ⟨hc.1, hc.2, hb.symm, by rw [hs, hb]⟩
    · rw [if_neg hc] at e
      rw [← e] at h
      exact absurd (show emp.size < 19 by decide) h
  · rintro ⟨h1, h2, h3, h4⟩
    rw [if_pos ⟨h1, h2⟩, h3, ← h4, ByteArray.extract_append_extract, Nat.min_eq_left (by omega), Nat.max_eq_right (by omega), ByteArray.extract_zero_size]
theorem catS_chunks (r : ByteArray) : ∀ n, 8 * n ≤ r.size → catS (chunks r n) = r.extract 0 (8 * n)
  | 0, _ => by
    have : (r.extract 0 (8 * 0)).size = 0 := by rw [ByteArray.size_extract]; omega
    rw [show chunks r 0 = [] from rfl, catS]; exact (ByteArray.size_eq_zero_iff.1 this).symm
  | n + 1, h => by
    rw [chunks_succ, catS_app, catS_chunks r n (by omega), catS, catS, emp_r, ByteArray.extract_append_extract, Nat.min_eq_left (by omega), Nat.max_eq_right (by omega)]
    rfl
theorem split11 (s : ByteArray) (h : 11 ≤ s.size) : bl [byt s 0, byt s 1, byt s 2, byt s 3, byt s 4, byt s 5, byt s 6, byt s 7, byt s 8, byt s 9, byt s 10] ++ s.extract 11 s.size = s := by
  obtain ⟨⟨l⟩⟩ := s
  match l, h with
  | a :: b :: c :: d :: e :: f :: g :: i :: j :: k :: q :: r, _ =>
    rw [bytA (c := a) rfl, bytA (c := b) rfl, bytA (c := c) rfl, bytA (c := d) rfl, bytA (c := e) rfl, bytA (c := f) rfl, bytA (c := g) rfl, bytA (c := i) rfl, bytA (c := j) rfl, bytA (c := k) rfl, bytA (c := q) rfl]
    apply ByteArray.ext
    rw [ByteArray.data_append, ByteArray.data_extract]
    apply Array.ext'
    simp [bl, ByteArray.size]
theorem bl_ten {a0 a1 a2 a3 a4 a5 a6 a7 a8 a9 a10 : Int} {r : ByteArray} (h : 0 ≤ a10 ∧ a10 ≤ 255) : byt (bl [a0, a1, a2, a3, a4, a5, a6, a7, a8, a9, a10] ++ r) 10 = a10 := by
  obtain ⟨⟨l⟩⟩ := r
  have e : bl [a0, a1, a2, a3, a4, a5, a6, a7, a8, a9, a10] ++ ⟨⟨l⟩⟩ = ⟨⟨(bl [a0, a1, a2, a3, a4, a5, a6, a7, a8, a9, a10]).data.toList ++ l⟩⟩ := by
    apply ByteArray.ext
    rw [ByteArray.data_append]
    apply Array.ext'
    simp
  rw [e, bytA (c := UInt8.ofNat a10.toNat) rfl]
  simp; omega
theorem rd_inputs_len (b : ByteArray) : (rdM b).inputs.length = if byt b 0 = 3 then 0 else (b.size - 11) / 8 := by
  unfold rdM; dsimp only; split <;> simp [chunks]
theorem body_iff {b : ByteArray} (h : 11 ≤ b.size) (hok : msgOk (rdM b)) : bodyM (rdM b) = b ↔ byt b 10 = (rdM b).inputs.length ∧ (byt b 0 ≠ 3 → b.size - 11 = 8 * ((b.size - 11) / 8)) := by
  have hx : (b.extract 11 b.size).size = b.size - 11 := by rw [ByteArray.size_extract]; omega
  have hh : hdrM (rdM b) = [byt b 0, byt b 1, byt b 2, byt b 3, byt b 4, byt b 5, byt b 6, byt b 7, byt b 8, byt b 9, ((rdM b).inputs.length : Int)] := by
    obtain ⟨a3, e3, l3⟩ := byt_range b 3
    obtain ⟨a4, e4, l4⟩ := byt_range b 4
    obtain ⟨a5, e5, l5⟩ := byt_range b 5
    obtain ⟨a6, e6, l6⟩ := byt_range b 6
    obtain ⟨a7, e7, l7⟩ := byt_range b 7
    obtain ⟨a8, e8, l8⟩ := byt_range b 8
    have f1 : (rdM b).epoch = byt b 3 * 256 + byt b 4 := rfl
    have f2 : (rdM b).lease = byt b 5 * 16777216 + byt b 6 * 65536 + byt b 7 * 256 + byt b 8 := rfl
    unfold hdrM
    rw [f1, f2, show (rdM b).kind = byt b 0 from rfl, show (rdM b).frm = byt b 1 from rfl, show (rdM b).to = byt b 2 from rfl, show (rdM b).task = byt b 9 from rfl]
    rw [e3, e4, e5, e6, e7, e8]
    congr 3
    congr 1; omega
    congr 1; omega
    congr 1; omega
    congr 1; omega
    congr 1; omega
    congr 1; omega
  have hsp := split11 b h
  have htl : byt b 0 = 3 ∨ b.size - 11 = 8 * ((b.size - 11) / 8) → (rdM b).text ++ catS (rdM b).inputs = b.extract 11 b.size := by
    intro h3
    unfold rdM; dsimp only
    by_cases hk : byt b 0 = 3
    · rw [if_pos hk, if_pos hk, catS, emp_r]
    · have h3 := h3.resolve_left hk
      rw [if_neg hk, if_neg hk, emp_l, catS_chunks _ _ (by omega), ← h3, ← hx, ByteArray.extract_zero_size]
  have hbody : bodyM (rdM b) = bl (hdrM (rdM b)) ++ ((rdM b).text ++ catS (rdM b).inputs) := by unfold bodyM; rw [ByteArray.append_assoc]
  constructor
  · intro e
    have hn : (rdM b).inputs.length ≤ 8 := (ok_inputs hok).1
    constructor
    · have h1 := congrArg (fun x => byt x 10) e
      rw [← h1, hbody, hh]
      exact bl_ten (by omega)
    · intro hk
      have h2 := congrArg ByteArray.size e
      rw [bodyM_size hok, rd_inputs_len, if_neg hk] at h2
      have ht : (rdM b).text = emp := if_neg hk
      rw [ht] at h2
      have h0 : emp.size = 0 := rfl
      omega
  · rintro ⟨h1, h2⟩
    rw [hbody, htl (by by_cases hk : byt b 0 = 3; exact Or.inl hk; exact Or.inr (h2 hk)), hh, ← h1]
    exact hsp
end Go.K

/- Contracts of functions of the program: what each call answers. -/
import Derived.Test.YtcccigapbalidaaC
set_option linter.unusedVariables false
set_option linter.unusedSimpArgs false
set_option maxHeartbeats 4000000
set_option maxRecDepth 20000
open Go Go.Tm Go.Proofs
namespace Go.K
theorem bytA {l : List UInt8} {i : Nat} {c : UInt8} (h : l[i]? = some c) : byt ⟨⟨l⟩⟩ i = (c.toNat : Int) := by
  have : (ByteArray.mk ⟨l⟩)[i]? = l[i]? := by
    show (if h : i < (ByteArray.mk ⟨l⟩).size then some ((ByteArray.mk ⟨l⟩)[i]) else none) = _
    have hsz : (ByteArray.mk ⟨l⟩).size = l.length := rfl
    by_cases hi : i < l.length
    · rw [dif_pos (by rw [hsz]; exact hi), List.getElem?_eq_getElem hi]; rfl
    · rw [dif_neg (by rw [hsz]; exact hi), List.getElem?_eq_none (by omega)]
  exact byt_at (by rw [this]; exact h)
theorem ofNat_toNat (a : UInt8) : UInt8.ofNat (((a.toNat : Int)).toNat) = a := by simp
theorem split4 (s : ByteArray) (h : 4 ≤ s.size) : bl [byt s 0, byt s 1, byt s 2, byt s 3] ++ s.extract 4 s.size = s := by
  obtain ⟨⟨l⟩⟩ := s
  match l, h with
  | a :: b :: c :: d :: r, _ =>
    rw [bytA (c := a) rfl, bytA (c := b) rfl, bytA (c := c) rfl, bytA (c := d) rfl]
    apply ByteArray.ext
    rw [ByteArray.data_append, ByteArray.data_extract]
    apply Array.ext'
    simp [bl, ByteArray.size]
theorem or_bytes (a b : Nat) (ha : a < 256) (hb : b < 256) : or64 (IntKind.i64.wrap ((a : Int) * 256)) b = (a : Int) * 256 + b := by
  rw [w64 (by omega) (by omega)]
  unfold or64
  have e : ((BitVec.ofInt IntKind.i64.bits ((a : Int) * 256)) ||| BitVec.ofInt IntKind.i64.bits (b : Int)).toNat = a * 256 + b := by
    have h1 : BitVec.ofInt IntKind.i64.bits ((a : Int) * 256) = BitVec.ofNat IntKind.i64.bits (a * 256) := by
      rw [show ((a : Int) * 256) = ((a * 256 : Nat) : Int) by simp]; exact BitVec.ofInt_natCast ..
    have h2 : BitVec.ofInt IntKind.i64.bits (b : Int) = BitVec.ofNat IntKind.i64.bits b := BitVec.ofInt_natCast ..
    have hb64 : IntKind.i64.bits = 64 := rfl
    rw [h1, h2, BitVec.toNat_or, BitVec.toNat_ofNat, BitVec.toNat_ofNat, hb64, Nat.mod_eq_of_lt (by omega), Nat.mod_eq_of_lt (by omega)]
    have := Nat.two_pow_add_eq_or_of_lt (i := 8) (b := b) (by omega) a
    rw [Nat.mul_comm] at this
    simpa using this.symm
  rw [e]
  rw [w64 (by omega) (by omega)]; simp
theorem byt_range (s : ByteArray) (i : Nat) : ∃ n : Nat, byt s i = n ∧ n < 256 := by
  unfold byt
  cases h : s[i]? with
  | none => exact ⟨0, rfl, by omega⟩
  | some c => exact ⟨c.toNat, rfl, UInt8.toNat_lt _⟩
theorem rd_eq (s : ByteArray) : rdI s = rdS s := by
  unfold rdI rdS
  obtain ⟨a, ha, ha'⟩ := byt_range s 1
  obtain ⟨b, hb, hb'⟩ := byt_range s 2
  rw [ha, hb, or_bytes a b ha' hb']
theorem read_eq (s : ByteArray) : readI s = readS s := by
  unfold readI readS
  rw [rd_eq]
  by_cases h4 : (s.size : Int) < 4
  · rw [if_pos (by omega), if_pos h4]
  · rw [if_neg h4]
    have hx : (s.extract 4 s.size).size = s.size - 4 := by rw [ByteArray.size_extract]; omega
    by_cases hok : (rdS s).ok
    · have hform : formS (rdS s) = s := by
        unfold formS
        rw [if_pos hok]
        obtain ⟨⟨h1, h2⟩, ⟨h3, h4'⟩, h5⟩ := hok
        obtain ⟨a, ha, ha'⟩ := byt_range s 1
        obtain ⟨b, hb, hb'⟩ := byt_range s 2
        have hk : IntKind.u8.wrap (rdS s).kind = byt s 0 := by
          obtain ⟨c, hc, hc'⟩ := byt_range s 0
          show IntKind.u8.wrap (byt s 0) = _
          rw [wu8 (by omega) (by omega)]
        have ht : IntKind.u8.wrap (rdS s).task = byt s 3 := by
          obtain ⟨c, hc, hc'⟩ := byt_range s 3
          show IntKind.u8.wrap (byt s 3) = _
          rw [wu8 (by omega) (by omega)]
        have he : (rdS s).epoch = (a : Int) * 256 + b := by show byt s 1 * 256 + byt s 2 = _; rw [ha, hb]
        have e1 : IntKind.u8.wrap (IntKind.i64.wrap ((rdS s).epoch.tdiv 256)) = byt s 1 := by
          rw [he, Int.tdiv_eq_ediv_of_nonneg (by omega), w64 (by omega) (by omega), wu8 (by omega) (by omega), ha]; omega
        have e2 : IntKind.u8.wrap ((rdS s).epoch.tmod 256) = byt s 2 := by
          rw [he, Int.tmod_eq_emod_of_nonneg (by omega), wu8 (by omega) (by omega), hb]; omega
        rw [hk, ht, e1, e2]
        exact split4 s (by omega)
      have hsz : ¬ ((s.size : Int) < 4 ∨ 12 < (s.size : Int)) := by
        obtain ⟨_, _, h5⟩ := hok
        have hr : (rdS s).text = s.extract 4 s.size := rfl
        rcases h5 with ⟨_, _, h6⟩ | ⟨_, h6⟩
        · rw [hr] at h6
          have := congrArg ByteArray.size h6
          rw [hx] at this
          have h0 : (ByteArray.mk #[]).size = 0 := rfl
          omega
        · rw [hr, hx] at h6; omega
      rw [if_neg hsz, if_pos hok, if_pos hform]
    · have hform : formS (rdS s) ≠ s := by
        unfold formS
        rw [if_neg hok]
        intro e
        have := congrArg ByteArray.size e
        have h0 : emp.size = 0 := rfl
        omega
      rw [if_neg hform, if_neg hok]
      simp
theorem c_laws_FnExactReadEntry (s : ByteArray) (ht : s.size ≤ 9223372036854775807) : F n_laws_FnExactReadEntry [.val (.s s)] (.b true) [[]] := by
  by_cases hsz : s.size ≤ 1048576
  · have c1 := c_spec_ReadEntry s (by omega)
    have c2 := c_impl_ReadEntry s (by omega)
    rw [read_eq] at c2
    cases hs : readS s with
    | none =>
      rw [hs] at c1 c2
      refine i_laws_FnExactReadEntry ?_
      conv => whnf
      refine g 0 0 [] ?_
      conv => whnf
      refine ⟨⟨I, I⟩, ?_⟩
      refine W.sq ?_
      refine g 7 9 [] ?_
      conv => whnf
      refine ⟨⟨I, I, I, I⟩, ?_⟩
      refine W.cn ?_
      conv => whnf
      refine ⟨noT (decide_eq_false (by omega)), fun _ => ?_⟩
      refine W.skip ?_
      refine g 9 15 [.call (tupE none) ([[]])] ?_
      conv => whnf
      refine ⟨⟨I, ⟨⟨I, I⟩, I, ⟨⟨I, I⟩, I⟩, ⟨I, I⟩, (by assumption)⟩, I, I, I, I, ⟨I, I, I, I, I⟩, I, I⟩, ?_⟩
      refine g 15 20 [.call (tupE none) ([[]])] ?_
      conv => whnf
      refine ⟨⟨I, ⟨⟨I, I⟩, I, ⟨⟨I, I⟩, I⟩, ⟨I, I⟩, (by assumption)⟩, I, I, I, I, ⟨I, I, I, I, I⟩, I, I⟩, ?_⟩
      refine W.sq ?_
      refine g 5 28 [.call (V.b (decide ({ kind := (0 : Int), epoch := (0 : Int), task := (0 : Int), text := emp : Entry } = { kind := (0 : Int), epoch := (0 : Int), task := (0 : Int), text := emp : Entry }))) ([[], []]), .b (false), .b (false), .b (false), .b (false)] ?_
      conv => whnf
      refine ⟨⟨I, I, ⟨⟨I, I, I⟩, I, ⟨⟨I, I, I, I, I⟩, ⟨I, I, I, I, I⟩, I⟩, ⟨I, I⟩, Go.K.c_laws_eqEntry _ _ _ _ _ _ _ _⟩, I, I, ⟨rfl, I⟩, ⟨rfl, I⟩, ⟨rfl, I⟩, rfl, I⟩, ?_⟩
      refine W.cn ?_
      conv => whnf
      refine ⟨noT (rfl), fun _ => ?_⟩
      refine W.skip ?_
      refine g 0 1 [] ?_
      conv => whnf
      refine ⟨⟨I, I⟩, ?_⟩
      refine W.ret ?_
      refine EndsW.rt ?_
      conv => whnf
      refine ⟨⟨I, I, I⟩, ?_, rfl⟩
      rfl
    | some e =>
      obtain ⟨k, ep, ta, tx⟩ := e
      rw [hs] at c1 c2
      refine i_laws_FnExactReadEntry ?_
      conv => whnf
      refine g 0 0 [] ?_
      conv => whnf
      refine ⟨⟨I, I⟩, ?_⟩
      refine W.sq ?_
      refine g 7 9 [] ?_
      conv => whnf
      refine ⟨⟨I, I, I, I⟩, ?_⟩
      refine W.cn ?_
      conv => whnf
      refine ⟨noT (decide_eq_false (by omega)), fun _ => ?_⟩
      refine W.skip ?_
      refine g 9 15 [.call (tupE (some { kind := k, epoch := ep, task := ta, text := tx : Entry })) ([[]])] ?_
      conv => whnf
      refine ⟨⟨I, ⟨⟨I, I⟩, I, ⟨⟨I, I⟩, I⟩, ⟨I, I⟩, (by assumption)⟩, I, I, I, I, ⟨I, I, I, I, I⟩, I, I⟩, ?_⟩
      refine g 15 20 [.call (tupE (some { kind := k, epoch := ep, task := ta, text := tx : Entry })) ([[]])] ?_
      conv => whnf
      refine ⟨⟨I, ⟨⟨I, I⟩, I, ⟨⟨I, I⟩, I⟩, ⟨I, I⟩, (by assumption)⟩, I, I, I, I, ⟨I, I, I, I, I⟩, I, I⟩, ?_⟩
      refine W.sq ?_
      refine g 5 28 [.call (V.b (decide ({ kind := k, epoch := ep, task := ta, text := tx : Entry } = { kind := k, epoch := ep, task := ta, text := tx : Entry }))) ([[], []]), .b (false), .b (false), .b (false), .b (false)] ?_
      conv => whnf
      refine ⟨⟨I, I, ⟨⟨I, I, I⟩, I, ⟨⟨I, I, I, I, I⟩, ⟨I, I, I, I, I⟩, I⟩, ⟨I, I⟩, Go.K.c_laws_eqEntry _ _ _ _ _ _ _ _⟩, I, I, ⟨notF rfl, I⟩, ⟨notF rfl, I⟩, ⟨notF rfl, I⟩, notF rfl, I⟩, ?_⟩
      refine W.cn ?_
      conv => whnf
      refine ⟨noT (rfl), fun _ => ?_⟩
      refine W.skip ?_
      refine g 0 1 [] ?_
      conv => whnf
      refine ⟨⟨I, I⟩, ?_⟩
      refine W.ret ?_
      refine EndsW.rt ?_
      conv => whnf
      refine ⟨⟨I, I, I⟩, ?_, rfl⟩
      rfl
  ·    refine i_laws_FnExactReadEntry ?_
       conv => whnf
       refine g 0 0 [] ?_
       conv => whnf
       refine ⟨⟨I, I⟩, ?_⟩
       refine W.sq ?_
       refine g 7 9 [] ?_
       conv => whnf
       refine ⟨⟨I, I, I, I⟩, ?_⟩
       refine W.cn ?_
       conv => whnf
       refine ⟨fun _ => ?_, noF (decide_eq_true (by omega))⟩
       refine g 9 10 [] ?_
       conv => whnf
       refine ⟨⟨I, I⟩, ?_⟩
       refine W.ret ?_
       refine EndsW.rt ?_
       conv => whnf
       refine ⟨⟨I, I, I⟩, ?_, rfl⟩
       rfl
theorem law_ReadEntry : ∀ xs, WfAll E 8 Try.f5.params.toList xs → Tm.Fn Try.prog 5 (tvs E Try.f5.params.toList xs) (.b true) [[]] := by
  intro xs h
  rw [show Try.f5.params.toList = [9] from rfl] at h ⊢
  cases h with
  | cons h r =>
    cases r
    obtain ⟨s, rfl, hs⟩ := h
    exact (c_laws_FnExactReadEntry s hs).2
end Go.K

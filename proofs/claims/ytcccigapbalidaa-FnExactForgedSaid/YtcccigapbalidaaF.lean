/- Contracts of functions of the program: what each call answers. -/
import Derived.Test.YtcccigapbalidaaE
set_option linter.unusedVariables false
set_option linter.unusedSimpArgs false
set_option maxHeartbeats 4000000
set_option maxRecDepth 20000
open Go Go.Tm Go.Proofs
namespace Go.K
abbrev u8v (n : Int) : V := .t (.v (.int .u64 n))
def fnv (v : Int) (c : UInt8) : Int := IntKind.u64.wrap (IntKind.u64.wrap (BitVec.ofInt IntKind.u64.bits v ^^^ BitVec.ofInt IntKind.u64.bits (c.toNat : Int)).toNat * 1099511628211)
def fnvs (v : Int) (s : ByteArray) (n : Nat) : Int := (s.data.toList.take n).foldl fnv v
theorem ba_get {s : ByteArray} {n : Nat} {c : UInt8} (h : s[n]? = some c) : s.data.toList[n]? = some c := by
  by_cases hn : n < s.size
  · rw [getElem?_pos s n hn] at h
    have hd : n < s.data.toList.length := by simpa using hn
    rw [List.getElem?_eq_getElem hd]
    rw [← h]; simp; rfl
  · rw [getElem?_neg s n hn] at h; cases h
theorem fnvs_succ {v : Int} {s : ByteArray} {n : Nat} {c : UInt8} (h : s[n]? = some c) : fnvs v s (n + 1) = fnv (fnvs v s n) c := by
  unfold fnvs
  rw [List.take_add_one, ba_get h, List.foldl_append]; rfl
theorem fnv_bd (v : Int) (c : UInt8) : 0 ≤ fnv v c ∧ fnv v c ≤ 18446744073709551615 := u64_bd _
theorem fold_bd : ∀ (l : List UInt8) (v : Int), 0 ≤ v ∧ v ≤ 18446744073709551615 → 0 ≤ l.foldl fnv v ∧ l.foldl fnv v ≤ 18446744073709551615
  | [], _, h => h
  | c :: l, v, _ => fold_bd l (fnv v c) (fnv_bd v c)
theorem c_impl_hash_bytes (v : Int) (tx : ByteArray) (hs : tx.size ≤ 9223372036854775807) : F n_impl_hash_bytes [.ptr [u8v v], .val (.s tx)] (.tup []) [[u8v (fnvs v tx tx.size)], []] := by
  refine i_impl_hash_bytes ?_
  conv => whnf
  refine g 0 0 [] ?_
  conv => whnf
  refine ⟨⟨I, I⟩, ?_⟩
  refine W.blk ?_
  refine W.lp (fun s (n : Nat) => ⟨[(0, s.s 0), (1, s.s 1), (4, .i n)], [(22, [u8v (fnvs v tx n)])], []⟩) (fun (n : Nat) => n ≤ tx.size) (fun (n : Nat) => tx.size - n) (0) [some 22] [] ⟨rfl, ⟨rfl, rfl, rfl, I⟩, ⟨⟨rfl, ⟨rfl, I⟩⟩, I⟩, I⟩ (by omega) ?_
  intro n hn
  conv => whnf
  refine W.sq ?_
  refine g 5 8 [] ?_
  conv => whnf
  refine ⟨⟨I, I, I, I, I⟩, ?_⟩
  refine W.cn ?_
  conv => whnf
  refine ⟨fun h1 => ?_, fun h1 => ?_⟩
  replace h1 := dt h1
  refine W.skip ?_
  refine W.sq ?_
  refine W.blk ?_
  obtain ⟨y1, hy1, hb1⟩ := byte_at (s := tx) (n := n) (by omega)
  refine rgd [[], [], [], [], [], [], [.i ((↑(UInt8.toNat y1) : Int))], [.i ((↑(UInt8.toNat y1) : Int))], [.i (IntKind.wrap IntKind.u64 (↑(BitVec.toNat (BitVec.ofInt (IntKind.bits IntKind.u64) (fnvs v tx n) ^^^ BitVec.ofInt (IntKind.bits IntKind.u64) (↑(UInt8.toNat y1) : Int))) : Int))], [.i (IntKind.wrap IntKind.u64 (IntKind.wrap IntKind.u64 (↑(BitVec.toNat (BitVec.ofInt (IntKind.bits IntKind.u64) (fnvs v tx n) ^^^ BitVec.ofInt (IntKind.bits IntKind.u64) (↑(UInt8.toNat y1) : Int))) : Int) * (1099511628211 : Int)))], [], []] ?_
  conv => whnf
  refine ⟨⟨I, I, I, I, I, I, ⟨(by omega), ixb (by assumption)⟩, w8u _, rfl, rfl, I, ⟨I, I⟩, I⟩, by kernel_rfl, ?_⟩
  refine rg [.i ((↑n : Int) + (1 : Int))] ?_
  conv => whnf
  refine ⟨⟨I, w64 (by omega) (by omega), I, I⟩, ?_⟩
  rotate_left 1
  replace h1 := df h1
  refine W.exit ?_
  refine EndsW.nm ?_
  conv => whnf
  refine ⟨I, ?_, ?_⟩
  rfl
  rotate_left 1
  · refine ⟨n + 1, [some 22], [], ⟨rfl, ⟨rfl, rfl, rfl, I⟩, ⟨⟨rfl, ⟨(congrArg (fun z => V.t (T.v (Value.int _ z))) (fnvs_succ (by assumption)).symm), I⟩⟩, I⟩, I⟩, ?_, ?_⟩
    rotate_left 1
    (dsimp only; omega)
    dsimp only
    omega
  · rw [show n = tx.size from by omega]
/-- The bytes of a number, the greatest first. -/
def beL (v : Int) : Nat → List Int
  | 0 => []
  | n + 1 => (v / 256 ^ n % 256) :: beL v n
abbrev b1T (n : Int) : List T := [.v (.int .u8 n)]
theorem beL_len (v : Int) : ∀ n, (beL v n).length = n
  | 0 => rfl
  | n + 1 => by simp [beL, beL_len v n]
theorem beL_get (v : Int) : ∀ n i, i < n → (beL v n)[i]? = some (v / 256 ^ (n - 1 - i) % 256)
  | 0, _, h => by omega
  | n + 1, 0, _ => by simp [beL]
  | n + 1, i + 1, h => by
    simp only [beL, List.getElem?_cons_succ]
    rw [beL_get v n i (by omega)]
    congr 3
    congr 1
    omega
theorem text_set {v : Int} {n : Nat} (h0 : 0 ≤ v) (hn : n < 8) : (fill b1T (b1T 0) (beL v 8) n).set n (b1T (IntKind.u8.wrap (v.fdiv (2 ^ min (56 - 8 * (n : Int)).toNat IntKind.u64.bits)))) = fill b1T (b1T 0) (beL v 8) (n + 1) := by
  have e : IntKind.u8.wrap (v.fdiv (2 ^ min (56 - 8 * (n : Int)).toNat IntKind.u64.bits)) = v / 256 ^ (8 - 1 - n) % 256 := by
    rw [Int.fdiv_eq_ediv_of_nonneg _ (by exact Int.le_of_lt (Int.pow_pos (by decide)))]
    have : n = 0 ∨ n = 1 ∨ n = 2 ∨ n = 3 ∨ n = 4 ∨ n = 5 ∨ n = 6 ∨ n = 7 := by omega
    rcases this with rfl | rfl | rfl | rfl | rfl | rfl | rfl | rfl <;> simp [IntKind.wrap, IntKind.bits, IntKind.signed]
  rw [e]
  exact fill_set (beL_get v 8 n hn)
theorem bytes_b1 (l : List Int) : (⟨(bytesOf (l.map b1T)).toArray⟩ : ByteArray) = bl l := by
  simp [bytesOf, bl, b1T, Function.comp_def]
theorem c_impl_hash_text (v : Int) (h0 : 0 ≤ v) (h1 : v ≤ 18446744073709551615) : F n_impl_hash_text [.val (u8v v)] (.s (bl (beL v 8))) [[]] := by
  have hx := beL_len v 8
  refine i_impl_hash_text ?_
  conv => whnf
  refine g 0 0 [] ?_
  conv => whnf
  refine ⟨⟨I, I⟩, ?_⟩
  refine g 5 6 [.n ((8 : Nat))] ?_
  conv => whnf
  refine ⟨⟨⟨rfl, rfl, (by simp only [List.length_map, List.length_append, List.length_set, List.length_replicate, List.length_cons, List.length_nil, List.length_take, List.length_drop, fill_len, fillI_len, List.length_range, bytesT_len]; omega)⟩, I, I⟩, ?_⟩
  refine W.sq ?_
  refine g 6 7 [] ?_
  conv => whnf
  refine ⟨⟨I, I, I, I⟩, ?_⟩
  refine W.blk ?_
  refine W.lp (fun s (n : Nat) => ⟨[(0, s.s 0), (2, s.s 2), (3, s.s 3), (7, s.s 7), (8, .i n)], [(5, [.own [false] (fill b1T (b1T 0) (beL v 8) n)])], []⟩) (fun (n : Nat) => n ≤ 8) (fun (n : Nat) => 8 - n) (0) [some 5] [] ⟨rfl, ⟨rfl, rfl, rfl, rfl, rfl, I⟩, ⟨⟨rfl, ⟨rfl, I⟩⟩, I⟩, I⟩ (by omega) ?_
  intro n hn
  conv => whnf
  refine g 0 0 [] ?_
  conv => whnf
  refine ⟨⟨I, I⟩, ?_⟩
  refine W.sq ?_
  refine W.cn ?_
  conv => whnf
  refine ⟨fun h2 => ?_, fun h2 => ?_⟩
  replace h2 := dt h2
  simp only [List.length_map] at h2
  simp only [List.length_map, List.length_append, List.length_set, List.length_replicate, List.length_cons, List.length_nil, List.length_take, List.length_drop, fill_len, fillI_len, List.length_range, bytesT_len] at h2
  refine W.skip ?_
  refine W.sq ?_
  refine W.blk ?_
  refine g 10 11 [] ?_
  conv => whnf
  refine ⟨⟨I, I, I⟩, ?_⟩
  refine rg [.i ((8 : Int) * (↑n : Int)), .i ((56 : Int) - (8 : Int) * (↑n : Int)), .i (Int.fdiv v ((2 : Int) ^ min (Int.toNat ((56 : Int) - (8 : Int) * (↑n : Int))) (IntKind.bits IntKind.u64))), .i (IntKind.wrap IntKind.u8 (Int.fdiv v ((2 : Int) ^ min (Int.toNat ((56 : Int) - (8 : Int) * (↑n : Int))) (IntKind.bits IntKind.u64)))), .n (n), .x (b1T (0 : Int))] ?_
  conv => whnf
  refine ⟨⟨I, I, I, I, w64 (by omega) (by omega), w64 (by omega) (by omega), ⟨(by omega), rfl⟩, rfl, ⟨rfl, (by simp only [List.length_map, List.length_append, List.length_set, List.length_replicate, List.length_cons, List.length_nil, List.length_take, List.length_drop, fill_len, fillI_len, List.length_range, bytesT_len]; omega)⟩, ⟨⟨I, I⟩, fill_get (by omega)⟩, I⟩, ?_⟩
  refine rg [.i ((↑n : Int) + (1 : Int))] ?_
  conv => whnf
  refine ⟨⟨w64 (by omega) (by omega), I, I⟩, ?_⟩
  rotate_left 1
  replace h2 := df h2
  simp only [List.length_map] at h2
  simp only [List.length_map, List.length_append, List.length_set, List.length_replicate, List.length_cons, List.length_nil, List.length_take, List.length_drop, fill_len, fillI_len, List.length_range, bytesT_len] at h2
  refine W.exit ?_
  refine g 3 9 [.s ({ data := List.toArray (bytesOf (fill b1T (b1T (0 : Int)) (beL v (8 : Nat)) n)) : ByteArray })] ?_
  conv => whnf
  refine ⟨⟨I, ⟨I, allU8_fill, rfl⟩, I, I⟩, ?_⟩
  refine W.ret ?_
  refine EndsW.rt ?_
  conv => whnf
  refine ⟨⟨I, I, I⟩, ?_, rfl⟩
  rotate_left 1
  · refine ⟨n + 1, [some 5], [], ⟨rfl, ⟨rfl, rfl, rfl, rfl, rfl, I⟩, ⟨⟨rfl, ⟨(congrArg (V.own _) (text_set h0 (by omega))), I⟩⟩, I⟩, I⟩, ?_, ?_⟩
    rotate_left 1
    (dsimp only; omega)
    dsimp only
    omega
  · rw [fill_all _ _ _ (by omega)]
    exact vs (bytes_b1 _)
theorem sum_step {v : Int} {n : Nat} (h0 : 0 ≤ v) : [b1T (IntKind.u8.wrap ((v / 256 ^ n).tmod 256))] ++ (beL v n).map b1T = (beL v (n + 1)).map b1T := by
  have h1 : 0 ≤ v / 256 ^ n := Int.ediv_nonneg h0 (Int.le_of_lt (Int.pow_pos (by decide)))
  rw [Int.tmod_eq_emod_of_nonneg h1]
  have h2 : IntKind.u8.wrap (v / 256 ^ n % 256) = v / 256 ^ n % 256 := wu8 (by omega) (by omega)
  rw [h2]; rfl
theorem sum_div {v : Int} {n : Nat} (h0 : 0 ≤ v) (h2 : v ≤ 18446744073709551615) : IntKind.u64.wrap ((v / 256 ^ n).tdiv 256) = v / 256 ^ (n + 1) := by
  have h1 : 0 ≤ v / 256 ^ n := Int.ediv_nonneg h0 (Int.le_of_lt (Int.pow_pos (by decide)))
  have h3 : v / 256 ^ n ≤ v := Int.ediv_le_self _ h0
  rw [Int.tdiv_eq_ediv_of_nonneg h1, wu64 (by omega) (by omega), Int.ediv_ediv_of_nonneg (Int.le_of_lt (Int.pow_pos (by decide))), Int.pow_succ]
def h0v : Int := 14695981039346656037
theorem c_spec_l1Sum (tx : ByteArray) (ht : tx.size ≤ 9223372036854775807) : F n_spec_l1Sum [.val (.s tx)] (.s (bl (beL (fnvs h0v tx tx.size) 8))) [[]] := by
  refine i_spec_l1Sum ?_
  conv => whnf
  refine g 0 0 [] ?_
  conv => whnf
  refine ⟨⟨I, I⟩, ?_⟩
  refine g 0 0 [] ?_
  conv => whnf
  refine ⟨⟨I, I⟩, ?_⟩
  refine W.sq ?_
  refine g 0 0 [] ?_
  conv => whnf
  refine ⟨⟨I, I⟩, ?_⟩
  refine W.blk ?_
  refine W.lp (fun s (n : Nat) => ⟨[(0, s.s 0), (2, s.s 2), (3, u8v (fnvs h0v tx n)), (4, .i n)], [], []⟩) (fun (n : Nat) => n ≤ tx.size) (fun (n : Nat) => tx.size - n) (0) [] [] ⟨rfl, ⟨rfl, rfl, rfl, rfl, I⟩, I, I⟩ (by omega) ?_
  intro n hn
  conv => whnf
  refine W.sq ?_
  refine g 7 9 [] ?_
  conv => whnf
  refine ⟨⟨I, I, I, I, I⟩, ?_⟩
  refine W.cn ?_
  conv => whnf
  refine ⟨fun h1 => ?_, fun h1 => ?_⟩
  replace h1 := dt h1
  refine W.skip ?_
  refine W.sq ?_
  refine W.blk ?_
  obtain ⟨y1, hy1, hb1⟩ := byte_at (s := tx) (n := n) (by omega)
  refine rg [.i ((↑(UInt8.toNat y1) : Int)), .i ((↑(UInt8.toNat y1) : Int)), .i (IntKind.wrap IntKind.u64 (↑(BitVec.toNat (BitVec.ofInt (IntKind.bits IntKind.u64) (fnvs h0v tx n) ^^^ BitVec.ofInt (IntKind.bits IntKind.u64) (↑(UInt8.toNat y1) : Int))) : Int)), .i (IntKind.wrap IntKind.u64 (IntKind.wrap IntKind.u64 (↑(BitVec.toNat (BitVec.ofInt (IntKind.bits IntKind.u64) (fnvs h0v tx n) ^^^ BitVec.ofInt (IntKind.bits IntKind.u64) (↑(UInt8.toNat y1) : Int))) : Int) * (1099511628211 : Int)))] ?_
  conv => whnf
  refine ⟨⟨I, I, I, ⟨(by omega), ixb (by assumption)⟩, w8u _, rfl, rfl, I, I⟩, ?_⟩
  refine rg [.i ((↑n : Int) + (1 : Int))] ?_
  conv => whnf
  refine ⟨⟨I, w64 (by omega) (by omega), I, I⟩, ?_⟩
  rotate_left 1
  replace h1 := df h1
  refine W.exit ?_
  refine g 10 21 [] ?_
  conv => whnf
  refine ⟨⟨I, I, I⟩, ?_⟩
  refine W.sq ?_
  refine g 4 5 [] ?_
  conv => whnf
  refine ⟨⟨I, I⟩, ?_⟩
  refine W.blk ?_
  rotate_left 1
  · refine ⟨n + 1, [], [], ⟨rfl, ⟨rfl, rfl, (congrArg (fun z => V.t (T.v (Value.int _ z))) (fnvs_succ (by assumption)).symm), rfl, I⟩, I, I⟩, ?_, ?_⟩
    rotate_left 1
    (dsimp only; omega)
    dsimp only
    omega
  have e : n = tx.size := by omega
  subst e
  have hb : 0 ≤ fnvs h0v tx tx.size ∧ fnvs h0v tx tx.size ≤ 18446744073709551615 := fold_bd _ _ (by unfold h0v; omega)
  generalize fnvs h0v tx tx.size = v at hb ⊢
  obtain ⟨hb0, hb1⟩ := hb
  refine W.lp (fun s (n : Nat) => ⟨[(0, s.s 0), (2, s.s 2), (3, u8v (v / 256 ^ n)), (5, .ref ⟨5, none, 0⟩), (6, .i n), (9, s.s 9)], [(5, [.own [false] ((beL v n).map b1T)])], []⟩) (fun (n : Nat) => n ≤ 8) (fun (n : Nat) => 8 - n) (0) [some 20] [] ⟨rfl, ⟨rfl, rfl, (congrArg (fun z => V.t (T.v (Value.int _ z))) (by omega)), rfl, rfl, rfl, I⟩, ⟨⟨rfl, ⟨rfl, I⟩⟩, I⟩, I⟩ (by omega) ?_
  intro n hn2
  have hx := beL_len v n
  conv => whnf
  refine W.sq ?_
  refine g 21 22 [] ?_
  conv => whnf
  refine ⟨⟨I, I, I⟩, ?_⟩
  refine W.cn ?_
  conv => whnf
  refine ⟨fun h2 => ?_, fun h2 => ?_⟩
  replace h2 := dt h2
  refine W.skip ?_
  refine W.sq ?_
  refine W.blk ?_
  refine g 22 31 [.i (Int.tmod (v / (256 : Int) ^ n) (256 : Int)), .i (IntKind.wrap IntKind.u8 (Int.tmod (v / (256 : Int) ^ n) (256 : Int)))] ?_
  conv => whnf
  refine ⟨⟨I, ⟨(by omega), rfl⟩, rfl, ⟨⟨I, I⟩, I⟩, I, ⟨I, I, (by simp only [List.length_map, List.length_append, List.length_set, List.length_replicate, List.length_cons, List.length_nil, List.length_take, List.length_drop, fill_len, fillI_len, List.length_range, bytesT_len]; omega)⟩, I, I⟩, ?_⟩
  refine rg [.i (IntKind.wrap IntKind.u64 (Int.tdiv (v / (256 : Int) ^ n) (256 : Int)))] ?_
  conv => whnf
  refine ⟨⟨I, ⟨(by omega), rfl⟩, I, I⟩, ?_⟩
  refine rg [.i ((↑n : Int) + (1 : Int))] ?_
  conv => whnf
  refine ⟨⟨I, w64 (by omega) (by omega), I, I⟩, ?_⟩
  rotate_left 1
  replace h2 := df h2
  refine W.exit ?_
  refine g 3 7 [.s ({ data := List.toArray (bytesOf (List.map b1T (beL v n))) : ByteArray })] ?_
  conv => whnf
  refine ⟨⟨I, ⟨I, allU8_map, rfl⟩, I, I⟩, ?_⟩
  refine W.ret ?_
  refine EndsW.rt ?_
  conv => whnf
  refine ⟨⟨I, I, I⟩, ?_, rfl⟩
  rotate_left 1
  · refine ⟨n + 1, [some 30], [], ⟨rfl, ⟨rfl, rfl, (congrArg (fun z => V.t (T.v (Value.int _ z))) (sum_div hb0 hb1)), rfl, rfl, rfl, I⟩, ⟨⟨rfl, ⟨(congrArg (V.own _) (sum_step hb0)), I⟩⟩, I⟩, I⟩, ?_, ?_⟩
    rotate_left 1
    (dsimp only; omega)
    dsimp only
    omega
  · rw [show n = 8 from by omega]
    exact vs (bytes_b1 _)
/-- The name and the inputs, each behind a null byte. -/
def catV (nm : ByteArray) (xs : List ByteArray) (n : Nat) : ByteArray := (xs.take n).foldl (fun a s => a ++ (⟨#[0]⟩ ++ s)) nm
theorem catV_succ {nm : ByteArray} {xs : List ByteArray} {n : Nat} {x : ByteArray} (h : xs[n]? = some x) : catV nm xs (n + 1) = catV nm xs n ++ (⟨#[0]⟩ ++ x) := by
  unfold catV; rw [List.take_add_one, h, List.foldl_append]; rfl
theorem fold_size : ∀ (l : List ByteArray) (nm : ByteArray), ((l.foldl (fun a s => a ++ (⟨#[0]⟩ ++ s)) nm).size : Int) = nm.size + totS l + l.length
  | [], nm => by simp [totS]
  | s :: l, nm => by
    rw [List.foldl_cons, fold_size l]
    have : (⟨#[0]⟩ : ByteArray).size = 1 := rfl
    simp only [ByteArray.size_append, totS, List.length_cons, this]; omega
theorem catV_size (nm : ByteArray) (xs : List ByteArray) (n : Nat) (h : n ≤ xs.length) : ((catV nm xs n).size : Int) = nm.size + totS (xs.take n) + n := by
  unfold catV; rw [fold_size, List.length_take, Nat.min_eq_left h]
theorem cat_step {nm : ByteArray} {xs : List ByteArray} {n : Nat} {x : ByteArray} (h : xs[n]? = some x) : bytesT (catV nm xs n) ++ [[.v (.int .u8 0)]] ++ bytesT x = bytesT (catV nm xs (n + 1)) := by
  rw [catV_succ h, bytesT_app, bytesT_app, List.append_assoc]; rfl
def fnvA (v : Int) (s : ByteArray) : Int := s.data.toList.foldl fnv v
theorem fnvs_all (v : Int) (s : ByteArray) : fnvs v s s.size = fnvA v s := by
  unfold fnvs fnvA; rw [List.take_of_length_le (by simp)]
theorem fnvA_app (v : Int) (a b : ByteArray) : fnvA v (a ++ b) = fnvA (fnvA v a) b := by
  simp [fnvA, ByteArray.data_append, List.foldl_append]
theorem fnvA_bd (s : ByteArray) : 0 ≤ fnvA h0v s ∧ fnvA h0v s ≤ 18446744073709551615 := fold_bd _ _ (by unfold h0v; omega)
def valueV (nm : ByteArray) (xs : List ByteArray) : ByteArray := bl (beL (fnvA h0v (catV nm xs xs.length)) 8)
theorem c_spec_Value (nm : ByteArray) (xs : List ByteArray) (hn : nm.size ≤ 1048576) (hl : xs.length ≤ 1048576) (ht : totS xs ≤ 1048576) (hs : ∀ s ∈ xs, s.size ≤ 1048576) : F n_spec_Value [.val (.s nm), .val (.t (strs xs))] (.s (valueV nm xs)) [[], []] := by
  refine i_spec_Value ?_
  conv => whnf
  refine g 0 0 [] ?_
  conv => whnf
  refine ⟨⟨I, I⟩, ?_⟩
  refine g 7 9 [] ?_
  conv => whnf
  refine ⟨⟨I, (by omega), I, I⟩, ?_⟩
  refine W.sq ?_
  refine g 0 0 [] ?_
  conv => whnf
  refine ⟨⟨I, I⟩, ?_⟩
  refine W.blk ?_
  refine W.lp (fun s (n : Nat) => ⟨[(0, s.s 0), (1, s.s 1), (4, s.s 4), (5, .ref ⟨5, none, 0⟩), (6, .i n)], [(5, [.own [false] (bytesT (catV nm xs n))])], []⟩) (fun (n : Nat) => n ≤ xs.length) (fun (n : Nat) => xs.length - n) (0) [some 8] [] ⟨rfl, ⟨rfl, rfl, rfl, rfl, rfl, I⟩, ⟨⟨rfl, ⟨rfl, I⟩⟩, I⟩, I⟩ (by omega) ?_
  intro n hn
  have hc := catV_size nm xs n (by omega)
  have hb := bytesT_len (catV nm xs n)
  have hle := totS_le xs n
  conv => whnf
  refine W.sq ?_
  refine g 10 12 [] ?_
  conv => whnf
  refine ⟨⟨I, I, I, I, I⟩, ?_⟩
  refine W.cn ?_
  conv => whnf
  refine ⟨fun h1 => ?_, fun h1 => ?_⟩
  replace h1 := dt h1
  simp only [List.length_map] at h1
  refine W.skip ?_
  refine W.sq ?_
  refine W.blk ?_
  obtain ⟨y1, hy1⟩ := some_at (xs := xs) (n := n) (by omega)
  have hm1 := hs y1 (List.mem_of_getElem? hy1)
  refine rgd [[], [], [], [], [], [.x (strT y1)], [], [], []] ?_
  conv => whnf
  refine ⟨⟨I, ⟨⟨I, I⟩, I⟩, ⟨I, I, (by simp only [List.length_map, List.length_append, List.length_set, List.length_replicate, List.length_cons, List.length_nil, List.length_take, List.length_drop, fill_len, fillI_len, List.length_range, bytesT_len]; omega)⟩, I, I, ⟨(by omega), ixl (by assumption)⟩, I, ⟨I, I, (by simp only [List.length_map, List.length_append, List.length_set, List.length_replicate, List.length_cons, List.length_nil, List.length_take, List.length_drop, fill_len, fillI_len, List.length_range, bytesT_len]; omega)⟩, I, I⟩, by kernel_rfl, ?_⟩
  refine rg [.i ((↑n : Int) + (1 : Int))] ?_
  conv => whnf
  refine ⟨⟨I, w64 (by omega) (by omega), I, I⟩, ?_⟩
  rotate_left 1
  replace h1 := df h1
  simp only [List.length_map] at h1
  refine W.exit ?_
  refine g 12 26 [.s (catV nm xs n), .call (V.s (bl (beL (fnvs h0v (catV nm xs n) (ByteArray.size (catV nm xs n))) (8 : Nat)))) ([[]])] ?_
  conv => whnf
  refine ⟨⟨I, ⟨I, allU8_bytesT _, (bytesOf_bytesT _).symm⟩, ⟨⟨I, I⟩, I, ⟨⟨I, I⟩, I⟩, ⟨I, I⟩, Go.K.c_spec_l1Sum _ (by omega)⟩, I, I⟩, ?_⟩
  refine W.ret ?_
  refine EndsW.rt ?_
  conv => whnf
  refine ⟨⟨I, I, I⟩, ?_, rfl⟩
  rotate_left 1
  · refine ⟨n + 1, [some 22], [], ⟨rfl, ⟨rfl, rfl, rfl, rfl, rfl, I⟩, ⟨⟨rfl, ⟨(congrArg (V.own _) (cat_step (by assumption))), I⟩⟩, I⟩, I⟩, ?_, ?_⟩
    rotate_left 1
    (dsimp only; omega)
    dsimp only
    omega
  · exact vs (by rw [fnvs_all, show n = xs.length from by omega]; rfl)
theorem val_step {nm : ByteArray} {xs : List ByteArray} {n : Nat} {x : ByteArray} (h : xs[n]? = some x) : fnvs (fnvs (fnvA h0v (catV nm xs n)) ⟨#[0]⟩ (⟨#[0]⟩ : ByteArray).size) x x.size = fnvA h0v (catV nm xs (n + 1)) := by
  rw [fnvs_all, fnvs_all, catV_succ h, fnvA_app, fnvA_app]
theorem c_impl_Value (nm : ByteArray) (xs : List ByteArray) (hn : nm.size ≤ 1048576) (hl : xs.length ≤ 1048576) (hs : ∀ s ∈ xs, s.size ≤ 1048576) : F n_impl_Value [.val (.s nm), .val (.t (strs xs))] (.s (valueV nm xs)) [[], []] := by
  refine i_impl_Value ?_
  conv => whnf
  refine g 0 0 [] ?_
  conv => whnf
  refine ⟨⟨I, I⟩, ?_⟩
  refine g 0 0 [] ?_
  conv => whnf
  refine ⟨⟨I, ⟨I, I⟩, I⟩, ?_⟩
  refine g 0 1 [.call (V.tup []) ([[u8v (fnvs (14695981039346656037 : Int) nm (ByteArray.size nm))], []])] ?_
  conv => whnf
  refine ⟨⟨I, ⟨⟨I, I, I⟩, I, ⟨I, ⟨I, I⟩, I⟩, ⟨I, I⟩, Go.K.c_impl_hash_bytes _ _ (by omega)⟩, I⟩, ?_⟩
  refine W.sq ?_
  refine g 1 2 [] ?_
  conv => whnf
  refine ⟨⟨I, I, I, I⟩, ?_⟩
  refine W.blk ?_
  refine W.lp (fun s (n : Nat) => ⟨[(4, s.s 4), (5, s.s 5), (10, s.s 10), (11, s.s 11), (12, .i n)], [(5, [u8v (fnvA h0v (catV nm xs n))])], []⟩) (fun (n : Nat) => n ≤ xs.length) (fun (n : Nat) => xs.length - n) (0) [some 5] [] ⟨rfl, ⟨rfl, rfl, rfl, rfl, rfl, I⟩, ⟨⟨rfl, ⟨(congrArg (fun z => V.t (T.v (Value.int _ z))) (fnvs_all _ _)), I⟩⟩, I⟩, I⟩ (by omega) ?_
  intro n hn
  have hb := fnvA_bd (catV nm xs n)
  conv => whnf
  refine g 0 0 [] ?_
  conv => whnf
  refine ⟨⟨I, I⟩, ?_⟩
  refine W.sq ?_
  refine W.cn ?_
  conv => whnf
  refine ⟨fun h1 => ?_, fun h1 => ?_⟩
  replace h1 := dt h1
  simp only [List.length_map] at h1
  refine W.skip ?_
  refine W.sq ?_
  refine W.blk ?_
  obtain ⟨y1, hy1⟩ := some_at (xs := xs) (n := n) (by omega)
  have hm1 := hs y1 (List.mem_of_getElem? hy1)
  refine g 13 16 [.x (strT y1)] ?_
  conv => whnf
  refine ⟨⟨⟨(by omega), ixl (by assumption)⟩, I, I, I⟩, ?_⟩
  refine g 16 17 [.call (V.tup []) ([[u8v (fnvs (fnvA h0v (catV nm xs n)) { data := #[(0 : UInt8)] : ByteArray } (ByteArray.size { data := #[(0 : UInt8)] : ByteArray }))], []])] ?_
  conv => whnf
  refine ⟨⟨⟨⟨I, I, I⟩, I, ⟨I, ⟨I, I⟩, I⟩, ⟨I, I⟩, Go.K.c_impl_hash_bytes _ _ (by decide)⟩, I⟩, ?_⟩
  refine rg [.call (V.tup []) ([[u8v (fnvs (fnvs (fnvA h0v (catV nm xs n)) { data := #[(0 : UInt8)] : ByteArray } (ByteArray.size { data := #[(0 : UInt8)] : ByteArray })) y1 (ByteArray.size y1))], []])] ?_
  conv => whnf
  refine ⟨⟨I, ⟨⟨I, I, I⟩, I, ⟨I, ⟨I, I⟩, I⟩, ⟨I, I⟩, Go.K.c_impl_hash_bytes _ _ (by omega)⟩, I⟩, ?_⟩
  refine rg [.i ((↑n : Int) + (1 : Int))] ?_
  conv => whnf
  refine ⟨⟨w64 (by omega) (by omega), I, I⟩, ?_⟩
  rotate_left 1
  replace h1 := df h1
  simp only [List.length_map] at h1
  refine W.exit ?_
  refine g 5 22 [.call (V.s (bl (beL (fnvA h0v (catV nm xs n)) (8 : Nat)))) ([[]])] ?_
  conv => whnf
  refine ⟨⟨I, ⟨⟨I, I⟩, I, ⟨⟨I, I⟩, I⟩, ⟨I, I⟩, Go.K.c_impl_hash_text _ (by omega) (by omega)⟩, I, I⟩, ?_⟩
  refine W.ret ?_
  refine EndsW.rt ?_
  conv => whnf
  refine ⟨⟨I, I, I⟩, ?_, rfl⟩
  rotate_left 1
  · refine ⟨n + 1, [some 5], [], ⟨rfl, ⟨rfl, rfl, rfl, rfl, rfl, I⟩, ⟨⟨rfl, ⟨(congrArg (fun z => V.t (T.v (Value.int _ z))) (val_step (by assumption))), I⟩⟩, I⟩, I⟩, ?_, ?_⟩
    rotate_left 1
    (dsimp only; omega)
    dsimp only
    omega
  · exact vs (by rw [show n = xs.length from by omega]; rfl)

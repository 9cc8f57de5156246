/- Contracts of functions of the program: what each call answers. -/
import Derived.Test.YtglgidpbcnngdaaPartd
section
set_option linter.unusedVariables false
set_option linter.unusedSimpArgs false
set_option maxHeartbeats 4000000
set_option maxRecDepth 20000
open Go Go.Tm Go.Proofs
namespace Go.K
def msgSmall (m : Message) : Prop := m.inputs.length ≤ 64 ∧ m.text.size ≤ 64 ∧ ∀ s ∈ m.inputs, s.size ≤ 64
theorem one_str {xs : List ByteArray} {x : ByteArray} : xs.map strT ++ [strT x] = (xs ++ [x]).map strT := by rw [List.map_append]; rfl
theorem app_str {xs : List ByteArray} {x : ByteArray} {n : Nat} (h : ∀ s ∈ xs, s.size ≤ n) (hx : x.size ≤ n) : ∀ s ∈ xs ++ [x], s.size ≤ n := fun s hs => by
  rcases List.mem_append.1 hs with hs | hs
  · exact h s hs
  · rw [List.mem_singleton.1 hs]; exact hx
theorem app_eq {xs : List ByteArray} {x : ByteArray} {n : Nat} (h : ∀ s ∈ xs, s.size = n) (hx : x.size = n) : ∀ s ∈ xs ++ [x], s.size = n := fun s hs => by
  rcases List.mem_append.1 hs with hs | hs
  · exact h s hs
  · rw [List.mem_singleton.1 hs]; exact hx
abbrev MsgR (l : List Int) (pos : Int) (o : List (List V)) : V → List (List V) → Prop := fun res outs => ∃ m pos2, res = messageO m ∧ outs = rdC l pos2 :: o ∧ msgSmall m ∧ pos ≤ pos2 ∧ pos2 ≤ pos + 40
abbrev MsgR2 (l : List Int) (pos : Int) (o : List (List V)) : V → List (List V) → Prop := fun res outs => ∃ m pos2, res = messageO m ∧ outs = rdC l pos2 :: o ∧ (msgSmall m ∧ msgOk m) ∧ pos ≤ pos2 ∧ pos2 ≤ pos + 40
theorem ex_MDraw (l : List Int) (pos : Int) (hl : u8ok l) (h0 : 0 ≤ pos) (h1 : pos ≤ 1000000) : ∃ res outs, MsgR2 l pos [] res outs ∧ F n_spec_l2Draw [.ptr (rdC l pos)] res outs := by
  have p0 := pick_rng l pos 5
  have p1 := pick_rng l (pos + 1) 3
  have p2 := pick_rng l (pos + 1 + 1) 3
  have p3 := pick_rng l (pos + 1 + 1 + 1) 7
  have p4 := pick_rng l (pos + 1 + 1 + 1 + 1) 6
  have p5 := pick_rng l (pos + 1 + 1 + 1 + 1 + 1) 3
  obtain ⟨x, hx1, hx2⟩ := pick_int [1, 2, 3, 256, 1000000, 1000001, 300000000] (pickV l (pos + 1 + 1 + 1) 7) p3.1 (by show _ < (7 : Int); omega)
  have hx3 : ([[T.i 1], [T.i 2], [T.i 3], [T.i 256], [T.i 1000000], [T.i 1000001], [T.i 300000000]] : List (List T))[(pickV l (pos + 1 + 1 + 1) 7).toNat]? = some [T.i x] := hx2
  have e0 : emp.size = 0 := rfl
  have hxb : 1 ≤ x ∧ x ≤ 300000000 := by
    simp only [List.mem_cons, List.not_mem_nil, or_false] at hx1
    omega
  have e0i : (([] : List ByteArray).length : Int) = 0 := rfl
  have cu := c_spec_l2Uses (1 + pickV l pos 5)
  have sm0 : ∀ t : ByteArray, t.size ≤ 64 → ∀ a b c d e f : Int, msgSmall ⟨a, b, c, d, e, f, t, []⟩ := fun t ht a b c d e f => ⟨Nat.zero_le _, ht, fun s hs => by cases hs⟩
  by_cases k0 : pickV l pos 5 = 0
  · refine x_spec_l2Draw ?_
    conv => whnf
    refine g 0 0 [] ?_
    conv => whnf
    refine ⟨⟨I, I⟩, ?_⟩
    refine g 11 18 [.call (V.i (pickV l pos (5 : Int))) ([rdC l (pos + (1 : Int)), []]), .i ((1 : Int) + pickV l pos (5 : Int)), .call (V.i (pickV l (pos + (1 : Int)) (3 : Int))) ([rdC l (pos + (1 : Int) + (1 : Int)), []]), .i ((1 : Int) + pickV l (pos + (1 : Int)) (3 : Int))] ?_
    conv => whnf
    refine ⟨⟨I, ⟨⟨I, I, I⟩, I, ⟨I, ⟨I, I⟩, I⟩, ⟨I, I⟩, Go.K.c_spec_l1Rd_pick _ _ _ (by omega) (by omega) (by omega) (by omega)⟩, w64 (by omega) (by omega), I, ⟨⟨I, I, I⟩, I, ⟨I, ⟨I, I⟩, I⟩, ⟨I, I⟩, Go.K.c_spec_l1Rd_pick _ _ _ (by omega) (by omega) (by omega) (by omega)⟩, w64 (by omega) (by omega), I, I, ⟨I, I, I, I, I, I, I, I, I⟩, I⟩, ?_⟩
    refine g 18 27 [.call (V.tup [V.b (decide ((1 : Int) ≤ (1 : Int) + pickV l pos (5 : Int) ∧ (1 : Int) + pickV l pos (5 : Int) ≤ (4 : Int))), V.b (decide ((1 : Int) + pickV l pos (5 : Int) = (1 : Int) ∨ (1 : Int) + pickV l pos (5 : Int) = (3 : Int))), V.b (decide ((1 : Int) + pickV l pos (5 : Int) = (3 : Int))), V.b (decide ((1 : Int) + pickV l pos (5 : Int) = (1 : Int))), V.b (decide ((1 : Int) + pickV l pos (5 : Int) = (1 : Int) ∨ (1 : Int) + pickV l pos (5 : Int) = (4 : Int)))]) ([[]])] ?_
    conv => whnf
    refine ⟨⟨I, I, ⟨⟨I, I⟩, I, ⟨⟨I, I⟩, I⟩, ⟨I, I⟩, (by assumption)⟩, I, I, I, I, I, I, I, I, I, I, I, I⟩, ?_⟩
    refine g 28 30 [.call (V.i (pickV l (pos + (1 : Int) + (1 : Int)) (3 : Int))) ([rdC l (pos + (1 : Int) + (1 : Int) + (1 : Int)), []]), .i ((1 : Int) + pickV l (pos + (1 : Int) + (1 : Int)) (3 : Int))] ?_
    conv => whnf
    refine ⟨⟨I, ⟨⟨I, I, I⟩, I, ⟨I, ⟨I, I⟩, I⟩, ⟨I, I⟩, Go.K.c_spec_l1Rd_pick _ _ _ (by omega) (by omega) (by omega) (by omega)⟩, w64 (by omega) (by omega), I, I⟩, ?_⟩
    refine W.sq ?_
    refine g 8 9 [] ?_
    conv => whnf
    refine ⟨⟨I, I⟩, ?_⟩
    refine W.cn ?_
    conv => whnf
    refine ⟨fun _ => ?_, noF (decide_eq_true (by omega))⟩
    refine rg [] ?_
    conv => whnf
    refine ⟨⟨I, I, ⟨I, I⟩, I⟩, ?_⟩
    refine W.sq ?_
    refine g 30 33 [] ?_
    conv => whnf
    refine ⟨⟨I, I⟩, ?_⟩
    refine W.cn ?_
    conv => whnf
    refine ⟨fun _ => ?_, noF (decide_eq_true (by omega))⟩
    refine rg [.call (V.i (pickV l (pos + (1 : Int) + (1 : Int) + (1 : Int)) (7 : Int))) ([rdC l (pos + (1 : Int) + (1 : Int) + (1 : Int) + (1 : Int)), []]), .n (Int.toNat (pickV l (pos + (1 : Int) + (1 : Int) + (1 : Int)) (7 : Int))), .x ([T.i x])] ?_
    conv => whnf
    refine ⟨⟨⟨⟨I, I⟩, ⟨I, I⟩, ⟨I, I⟩, ⟨I, I⟩, ⟨I, I⟩, ⟨I, I⟩, ⟨I, I⟩, I⟩, I, ⟨⟨I, I, I⟩, I, ⟨I, ⟨I, I⟩, I⟩, ⟨I, I⟩, Go.K.c_spec_l1Rd_pick _ _ _ (by omega) (by omega) (by omega) (by omega)⟩, ⟨(by omega), (by simp only [List.length_map, List.length_append, List.length_set, List.length_replicate, List.length_cons, List.length_nil, List.length_take, List.length_drop, fill_len, fillI_len, List.length_range, bytesT_len]; omega)⟩, (by assumption), I, ⟨I, I⟩, I⟩, ?_⟩
    refine W.sq ?_
    refine g 35 42 [] ?_
    conv => whnf
    refine ⟨⟨I, I⟩, ?_⟩
    refine W.cn ?_
    conv => whnf
    refine ⟨fun _ => ?_, noF (decide_eq_true (by omega))⟩
    refine rg [.call (V.i (pickV l (pos + (1 : Int) + (1 : Int) + (1 : Int) + (1 : Int)) (6 : Int))) ([rdC l (pos + (1 : Int) + (1 : Int) + (1 : Int) + (1 : Int) + (1 : Int)), []])] ?_
    conv => whnf
    refine ⟨⟨I, ⟨⟨I, I, I⟩, I, ⟨I, ⟨I, I⟩, I⟩, ⟨I, I⟩, Go.K.c_spec_l1Rd_pick _ _ _ (by omega) (by omega) (by omega) (by omega)⟩, I, ⟨I, I⟩, I⟩, ?_⟩
    refine W.sq ?_
    refine g 42 46 [] ?_
    conv => whnf
    refine ⟨⟨I, I⟩, ?_⟩
    refine W.cn ?_
    conv => whnf
    refine ⟨noT (decide_eq_false (by omega)), fun _ => ?_⟩
    refine W.skip ?_
    refine W.sq ?_
    refine g 4 10 [] ?_
    conv => whnf
    refine ⟨⟨I, I⟩, ?_⟩
    refine W.cn ?_
    conv => whnf
    refine ⟨fun _ => ?_, noF (decide_eq_true (by omega))⟩
    refine g 46 53 [.call (V.i (pickV l (pos + (1 : Int) + (1 : Int) + (1 : Int) + (1 : Int) + (1 : Int)) (3 : Int))) ([rdC l (pos + (1 : Int) + (1 : Int) + (1 : Int) + (1 : Int) + (1 : Int) + (1 : Int)), []])] ?_
    conv => whnf
    refine ⟨⟨I, ⟨⟨I, I, I⟩, I, ⟨I, ⟨I, I⟩, I⟩, ⟨I, I⟩, Go.K.c_spec_l1Rd_pick _ _ _ (by omega) (by omega) (by omega) (by omega)⟩, I, I⟩, ?_⟩
    refine W.blk ?_
    refine W.lp (fun s (x2 : List ByteArray × Int × Int) => ⟨[(0, s.s 0), (2, s.s 2), (3, s.s 3), (10, .i x2.2.1), (27, s.s 27)], [(2, [s.c 2 0, s.c 2 1, s.c 2 2, s.c 2 3, s.c 2 4, s.c 2 5, s.c 2 6, s.c 2 7]), (65, [.t (u8s l), .t (.i x2.2.2)]), (3, [.t (.i (1 + pickV l pos 5)), .t (.i 0), .t (.i (1 + pickV l (pos + 1 + 1) 3)), .t (.i (1 + pickV l (pos + 1) 3)), .t (.i x), .t (.i (pickV l (pos + 1 + 1 + 1 + 1) 6)), .t (.s emp), .own [false] (x2.1.map strT)])], []⟩) (fun (x2 : List ByteArray × Int × Int) => 0 ≤ x2.2.1 ∧ x2.1.length + x2.2.1 ≤ 3 ∧ (∀ s ∈ x2.1, s.size = 8) ∧ pos + 6 ≤ x2.2.2 ∧ x2.2.2 ≤ pos + 6 + x2.1.length) (fun (x2 : List ByteArray × Int × Int) => x2.2.1.toNat) (([], pickV l (pos + 1 + 1 + 1 + 1 + 1) 3, pos + 6)) [some 2, some 65, some 3] [] ⟨rfl, ⟨rfl, rfl, rfl, rfl, rfl, I⟩, ⟨⟨rfl, ⟨rfl, ⟨rfl, ⟨rfl, ⟨rfl, ⟨rfl, ⟨rfl, ⟨rfl, ⟨rfl, I⟩⟩⟩⟩⟩⟩⟩⟩⟩, ⟨⟨rfl, ⟨rfl, ⟨(congrArg (fun z => V.t (T.v (Value.int _ z))) (by show pos + 1 + 1 + 1 + 1 + 1 + 1 = pos + 6; omega)), I⟩⟩⟩, ⟨⟨rfl, ⟨rfl, ⟨rfl, ⟨rfl, ⟨rfl, ⟨rfl, ⟨rfl, ⟨rfl, ⟨rfl, I⟩⟩⟩⟩⟩⟩⟩⟩⟩, I⟩⟩⟩, I⟩ ?_ ?_
    · exact ⟨p5.1, by show ((0 : Nat) : Int) + pickV l (pos + 1 + 1 + 1 + 1 + 1) 3 ≤ 3; omega, (fun s hs => by cases hs), Int.le_refl _, by show pos + 6 ≤ pos + 6 + ((0 : Nat) : Int); omega⟩
    rintro ⟨ts, c, q⟩ ⟨i1, i2, i3, i4, i5⟩
    dsimp only at i1 i2 i3 i4 i5
    by_cases hc : 0 < c
    · conv => whnf
      refine W.sq ?_
      refine g 53 54 [] ?_
      conv => whnf
      refine ⟨⟨I, I, I⟩, ?_⟩
      refine W.cn ?_
      conv => whnf
      refine ⟨fun _ => ?_, noF (decide_eq_true (by omega))⟩
      refine W.skip ?_
      refine W.sq ?_
      refine W.blk ?_
      refine rgd [[], [], [], [.call (V.s (sumT (decS (pickV l q (50 : Int))))) ([rdC l (q + (1 : Int))])], [], [], [], []] ?_
      conv => whnf
      refine ⟨⟨I, I, I, ⟨⟨I, I⟩, I, ⟨I, I⟩, ⟨I, I⟩, Go.K.c_spec_l1Bytes _ _ (by first | omega | decide | assumption | (simp only [ByteArray.size_extract, List.length_map]; omega) | simp [*]) (by first | omega | decide | assumption | (simp only [ByteArray.size_extract, List.length_map]; omega) | simp [*]) (by first | omega | decide | assumption | (simp only [ByteArray.size_extract, List.length_map]; omega) | simp [*])⟩, ⟨⟨I, I⟩, I⟩, ⟨I, I, (by simp only [List.length_map, List.length_append, List.length_set, List.length_replicate, List.length_cons, List.length_nil, List.length_take, List.length_drop, fill_len, fillI_len, List.length_range, bytesT_len]; omega)⟩, I, ⟨I, I⟩, I⟩, by kernel_rfl, ?_⟩
      refine rg [.i (Prod.fst (Prod.snd (ts, c, q)) - (1 : Int))] ?_
      conv => whnf
      refine ⟨⟨I, w64 (by simp only [List.length_map, List.length_append, List.length_set, List.length_replicate, List.length_cons, List.length_nil, List.length_take, List.length_drop, fill_len, fillI_len, List.length_range, bytesT_len]; omega) (by simp only [List.length_map, List.length_append, List.length_set, List.length_replicate, List.length_cons, List.length_nil, List.length_take, List.length_drop, fill_len, fillI_len, List.length_range, bytesT_len]; omega), I, I⟩, ?_⟩
      refine ⟨(ts ++ [sumT (decS (pickV l q 50))], c - 1, q + 1), [some 2, some 65, some 3], [], ⟨rfl, ⟨rfl, rfl, rfl, rfl, rfl, I⟩, ⟨⟨rfl, ⟨rfl, ⟨rfl, ⟨rfl, ⟨rfl, ⟨rfl, ⟨rfl, ⟨rfl, ⟨rfl, I⟩⟩⟩⟩⟩⟩⟩⟩⟩, ⟨⟨rfl, ⟨rfl, ⟨rfl, I⟩⟩⟩, ⟨⟨rfl, ⟨rfl, ⟨rfl, ⟨rfl, ⟨rfl, ⟨rfl, ⟨rfl, ⟨rfl, ⟨(congrArg (V.own _) (one_str)), I⟩⟩⟩⟩⟩⟩⟩⟩⟩, I⟩⟩⟩, I⟩, ?_, ?_⟩
      rotate_left 1
      (dsimp only; omega)
      dsimp only
      exact ⟨by omega, by rw [len_one]; omega, app_eq i3 (sumT_size _), by omega, by rw [len_one]; omega⟩
    · conv => whnf
      refine W.sq ?_
      refine g 53 54 [] ?_
      conv => whnf
      refine ⟨⟨I, I, I⟩, ?_⟩
      refine W.cn ?_
      conv => whnf
      refine ⟨noT (decide_eq_false (by omega)), fun _ => ?_⟩
      refine W.exit ?_
      refine g 3 11 [] ?_
      conv => whnf
      refine ⟨⟨I, ⟨I, I, I, I, I, I, I, I, I⟩, I⟩, ?_⟩
      refine W.ret ?_
      refine EndsW.rt ?_
      conv => whnf
      refine ⟨⟨I, I, I, I, I, I, I, I, I, I⟩, ?_⟩
      refine ⟨⟨1 + pickV l pos 5, 0, 1 + pickV l (pos + 1 + 1) 3, 1 + pickV l (pos + 1) 3, x, pickV l (pos + 1 + 1 + 1 + 1) 6, emp, ts⟩, q, rfl, rfl, ⟨⟨by dsimp only; omega, Nat.zero_le 64, fun s hs => by have := i3 s hs; omega⟩, ?_⟩, by omega, by omega⟩
      exact ⟨⟨by dsimp only; omega, by dsimp only; omega⟩, .inl ⟨by dsimp only; omega, rfl, ⟨by dsimp only; omega, by dsimp only; omega⟩, hxb, ⟨by dsimp only; omega, by dsimp only; omega⟩, rfl, ⟨i3, by dsimp only; omega⟩⟩⟩
  · by_cases k1 : pickV l pos 5 = 1
    · refine x_spec_l2Draw ?_
      conv => whnf
      refine g 0 0 [] ?_
      conv => whnf
      refine ⟨⟨I, I⟩, ?_⟩
      refine g 11 18 [.call (V.i (pickV l pos (5 : Int))) ([rdC l (pos + (1 : Int)), []]), .i ((1 : Int) + pickV l pos (5 : Int)), .call (V.i (pickV l (pos + (1 : Int)) (3 : Int))) ([rdC l (pos + (1 : Int) + (1 : Int)), []]), .i ((1 : Int) + pickV l (pos + (1 : Int)) (3 : Int))] ?_
      conv => whnf
      refine ⟨⟨I, ⟨⟨I, I, I⟩, I, ⟨I, ⟨I, I⟩, I⟩, ⟨I, I⟩, Go.K.c_spec_l1Rd_pick _ _ _ (by omega) (by omega) (by omega) (by omega)⟩, w64 (by omega) (by omega), I, ⟨⟨I, I, I⟩, I, ⟨I, ⟨I, I⟩, I⟩, ⟨I, I⟩, Go.K.c_spec_l1Rd_pick _ _ _ (by omega) (by omega) (by omega) (by omega)⟩, w64 (by omega) (by omega), I, I, ⟨I, I, I, I, I, I, I, I, I⟩, I⟩, ?_⟩
      refine g 18 27 [.call (V.tup [V.b (decide ((1 : Int) ≤ (1 : Int) + pickV l pos (5 : Int) ∧ (1 : Int) + pickV l pos (5 : Int) ≤ (4 : Int))), V.b (decide ((1 : Int) + pickV l pos (5 : Int) = (1 : Int) ∨ (1 : Int) + pickV l pos (5 : Int) = (3 : Int))), V.b (decide ((1 : Int) + pickV l pos (5 : Int) = (3 : Int))), V.b (decide ((1 : Int) + pickV l pos (5 : Int) = (1 : Int))), V.b (decide ((1 : Int) + pickV l pos (5 : Int) = (1 : Int) ∨ (1 : Int) + pickV l pos (5 : Int) = (4 : Int)))]) ([[]])] ?_
      conv => whnf
      refine ⟨⟨I, I, ⟨⟨I, I⟩, I, ⟨⟨I, I⟩, I⟩, ⟨I, I⟩, (by assumption)⟩, I, I, I, I, I, I, I, I, I, I, I, I⟩, ?_⟩
      refine g 28 30 [.call (V.i (pickV l (pos + (1 : Int) + (1 : Int)) (3 : Int))) ([rdC l (pos + (1 : Int) + (1 : Int) + (1 : Int)), []]), .i ((1 : Int) + pickV l (pos + (1 : Int) + (1 : Int)) (3 : Int))] ?_
      conv => whnf
      refine ⟨⟨I, ⟨⟨I, I, I⟩, I, ⟨I, ⟨I, I⟩, I⟩, ⟨I, I⟩, Go.K.c_spec_l1Rd_pick _ _ _ (by omega) (by omega) (by omega) (by omega)⟩, w64 (by omega) (by omega), I, I⟩, ?_⟩
      refine W.sq ?_
      refine g 8 9 [] ?_
      conv => whnf
      refine ⟨⟨I, I⟩, ?_⟩
      refine W.cn ?_
      conv => whnf
      refine ⟨noT (decide_eq_false (by omega)), fun _ => ?_⟩
      refine rg [] ?_
      conv => whnf
      refine ⟨⟨I, I, ⟨I, I⟩, I⟩, ?_⟩
      refine W.sq ?_
      refine g 30 35 [] ?_
      conv => whnf
      refine ⟨⟨I, I⟩, ?_⟩
      refine W.cn ?_
      conv => whnf
      refine ⟨fun _ => ?_, noF (decide_eq_true (by omega))⟩
      refine rg [.call (V.i (pickV l (pos + (1 : Int) + (1 : Int) + (1 : Int)) (7 : Int))) ([rdC l (pos + (1 : Int) + (1 : Int) + (1 : Int) + (1 : Int)), []]), .n (Int.toNat (pickV l (pos + (1 : Int) + (1 : Int) + (1 : Int)) (7 : Int))), .x ([T.i x])] ?_
      conv => whnf
      refine ⟨⟨⟨⟨I, I⟩, ⟨I, I⟩, ⟨I, I⟩, ⟨I, I⟩, ⟨I, I⟩, ⟨I, I⟩, ⟨I, I⟩, I⟩, I, ⟨⟨I, I, I⟩, I, ⟨I, ⟨I, I⟩, I⟩, ⟨I, I⟩, Go.K.c_spec_l1Rd_pick _ _ _ (by omega) (by omega) (by omega) (by omega)⟩, ⟨(by omega), (by simp only [List.length_map, List.length_append, List.length_set, List.length_replicate, List.length_cons, List.length_nil, List.length_take, List.length_drop, fill_len, fillI_len, List.length_range, bytesT_len]; omega)⟩, (by assumption), I, ⟨I, I⟩, I⟩, ?_⟩
      refine W.sq ?_
      refine g 35 42 [] ?_
      conv => whnf
      refine ⟨⟨I, I⟩, ?_⟩
      refine W.cn ?_
      conv => whnf
      refine ⟨noT (decide_eq_false (by omega)), fun _ => ?_⟩
      refine W.skip ?_
      refine W.sq ?_
      refine g 4 7 [] ?_
      conv => whnf
      refine ⟨⟨I, I⟩, ?_⟩
      refine W.cn ?_
      conv => whnf
      refine ⟨noT (decide_eq_false (by omega)), fun _ => ?_⟩
      refine W.skip ?_
      refine W.sq ?_
      refine g 7 10 [] ?_
      conv => whnf
      refine ⟨⟨I, I⟩, ?_⟩
      refine W.cn ?_
      conv => whnf
      refine ⟨noT (decide_eq_false (by omega)), fun _ => ?_⟩
      refine W.skip ?_
      refine g 42 65 [] ?_
      conv => whnf
      refine ⟨⟨I, ⟨I, I, I, I, I, I, I, I, I⟩, I⟩, ?_⟩
      refine W.ret ?_
      refine EndsW.rt ?_
      conv => whnf
      refine ⟨⟨I, I, I, I, I, I, I, I, I, I⟩, ?_⟩
      exact ⟨⟨1 + pickV l pos 5, 1 + pickV l (pos + 1 + 1) 3, 0, 1 + pickV l (pos + 1) 3, x, 0, emp, []⟩, _, rfl, rfl, ⟨sm0 emp (Nat.zero_le 64) _ _ _ _ _ _, ⟨⟨by dsimp only; omega, by dsimp only; omega⟩, .inr (.inl ⟨by dsimp only; omega, rfl, ⟨by dsimp only; omega, by dsimp only; omega⟩, hxb, rfl, rfl, rfl⟩)⟩⟩, by omega, by omega⟩
    · by_cases k2 : pickV l pos 5 = 2
      · refine x_spec_l2Draw ?_
        conv => whnf
        refine g 0 0 [] ?_
        conv => whnf
        refine ⟨⟨I, I⟩, ?_⟩
        refine g 11 18 [.call (V.i (pickV l pos (5 : Int))) ([rdC l (pos + (1 : Int)), []]), .i ((1 : Int) + pickV l pos (5 : Int)), .call (V.i (pickV l (pos + (1 : Int)) (3 : Int))) ([rdC l (pos + (1 : Int) + (1 : Int)), []]), .i ((1 : Int) + pickV l (pos + (1 : Int)) (3 : Int))] ?_
        conv => whnf
        refine ⟨⟨I, ⟨⟨I, I, I⟩, I, ⟨I, ⟨I, I⟩, I⟩, ⟨I, I⟩, Go.K.c_spec_l1Rd_pick _ _ _ (by omega) (by omega) (by omega) (by omega)⟩, w64 (by omega) (by omega), I, ⟨⟨I, I, I⟩, I, ⟨I, ⟨I, I⟩, I⟩, ⟨I, I⟩, Go.K.c_spec_l1Rd_pick _ _ _ (by omega) (by omega) (by omega) (by omega)⟩, w64 (by omega) (by omega), I, I, ⟨I, I, I, I, I, I, I, I, I⟩, I⟩, ?_⟩
        refine g 18 27 [.call (V.tup [V.b (decide ((1 : Int) ≤ (1 : Int) + pickV l pos (5 : Int) ∧ (1 : Int) + pickV l pos (5 : Int) ≤ (4 : Int))), V.b (decide ((1 : Int) + pickV l pos (5 : Int) = (1 : Int) ∨ (1 : Int) + pickV l pos (5 : Int) = (3 : Int))), V.b (decide ((1 : Int) + pickV l pos (5 : Int) = (3 : Int))), V.b (decide ((1 : Int) + pickV l pos (5 : Int) = (1 : Int))), V.b (decide ((1 : Int) + pickV l pos (5 : Int) = (1 : Int) ∨ (1 : Int) + pickV l pos (5 : Int) = (4 : Int)))]) ([[]])] ?_
        conv => whnf
        refine ⟨⟨I, I, ⟨⟨I, I⟩, I, ⟨⟨I, I⟩, I⟩, ⟨I, I⟩, (by assumption)⟩, I, I, I, I, I, I, I, I, I, I, I, I⟩, ?_⟩
        refine g 28 30 [.call (V.i (pickV l (pos + (1 : Int) + (1 : Int)) (3 : Int))) ([rdC l (pos + (1 : Int) + (1 : Int) + (1 : Int)), []]), .i ((1 : Int) + pickV l (pos + (1 : Int) + (1 : Int)) (3 : Int))] ?_
        conv => whnf
        refine ⟨⟨I, ⟨⟨I, I, I⟩, I, ⟨I, ⟨I, I⟩, I⟩, ⟨I, I⟩, Go.K.c_spec_l1Rd_pick _ _ _ (by omega) (by omega) (by omega) (by omega)⟩, w64 (by omega) (by omega), I, I⟩, ?_⟩
        refine W.sq ?_
        refine g 8 9 [] ?_
        conv => whnf
        refine ⟨⟨I, I⟩, ?_⟩
        refine W.cn ?_
        conv => whnf
        refine ⟨noT (decide_eq_false (by omega)), fun _ => ?_⟩
        refine rg [] ?_
        conv => whnf
        refine ⟨⟨I, I, ⟨I, I⟩, I⟩, ?_⟩
        refine W.sq ?_
        refine g 30 35 [] ?_
        conv => whnf
        refine ⟨⟨I, I⟩, ?_⟩
        refine W.cn ?_
        conv => whnf
        refine ⟨fun _ => ?_, noF (decide_eq_true (by omega))⟩
        refine rg [.call (V.i (pickV l (pos + (1 : Int) + (1 : Int) + (1 : Int)) (7 : Int))) ([rdC l (pos + (1 : Int) + (1 : Int) + (1 : Int) + (1 : Int)), []]), .n (Int.toNat (pickV l (pos + (1 : Int) + (1 : Int) + (1 : Int)) (7 : Int))), .x ([T.i x])] ?_
        conv => whnf
        refine ⟨⟨⟨⟨I, I⟩, ⟨I, I⟩, ⟨I, I⟩, ⟨I, I⟩, ⟨I, I⟩, ⟨I, I⟩, ⟨I, I⟩, I⟩, I, ⟨⟨I, I, I⟩, I, ⟨I, ⟨I, I⟩, I⟩, ⟨I, I⟩, Go.K.c_spec_l1Rd_pick _ _ _ (by omega) (by omega) (by omega) (by omega)⟩, ⟨(by omega), (by simp only [List.length_map, List.length_append, List.length_set, List.length_replicate, List.length_cons, List.length_nil, List.length_take, List.length_drop, fill_len, fillI_len, List.length_range, bytesT_len]; omega)⟩, (by assumption), I, ⟨I, I⟩, I⟩, ?_⟩
        refine W.sq ?_
        refine g 35 42 [] ?_
        conv => whnf
        refine ⟨⟨I, I⟩, ?_⟩
        refine W.cn ?_
        conv => whnf
        refine ⟨fun _ => ?_, noF (decide_eq_true (by omega))⟩
        refine rg [.call (V.i (pickV l (pos + (1 : Int) + (1 : Int) + (1 : Int) + (1 : Int)) (6 : Int))) ([rdC l (pos + (1 : Int) + (1 : Int) + (1 : Int) + (1 : Int) + (1 : Int)), []])] ?_
        conv => whnf
        refine ⟨⟨I, ⟨⟨I, I, I⟩, I, ⟨I, ⟨I, I⟩, I⟩, ⟨I, I⟩, Go.K.c_spec_l1Rd_pick _ _ _ (by omega) (by omega) (by omega) (by omega)⟩, I, ⟨I, I⟩, I⟩, ?_⟩
        refine W.sq ?_
        refine g 42 46 [] ?_
        conv => whnf
        refine ⟨⟨I, I⟩, ?_⟩
        refine W.cn ?_
        conv => whnf
        refine ⟨fun _ => ?_, noF (decide_eq_true (by omega))⟩
        refine rg [.call (V.s (sumT (decS (pickV l (pos + (1 : Int) + (1 : Int) + (1 : Int) + (1 : Int) + (1 : Int)) (50 : Int))))) ([rdC l (pos + (1 : Int) + (1 : Int) + (1 : Int) + (1 : Int) + (1 : Int) + (1 : Int))])] ?_
        conv => whnf
        refine ⟨⟨I, ⟨⟨I, I⟩, I, ⟨I, I⟩, ⟨I, I⟩, Go.K.c_spec_l1Bytes _ _ (by omega) (by omega) (by omega)⟩, I, ⟨I, I⟩, I⟩, ?_⟩
        refine W.sq ?_
        refine g 4 10 [] ?_
        conv => whnf
        refine ⟨⟨I, I⟩, ?_⟩
        refine W.cn ?_
        conv => whnf
        refine ⟨noT (decide_eq_false (by omega)), fun _ => ?_⟩
        refine W.skip ?_
        refine g 46 65 [] ?_
        conv => whnf
        refine ⟨⟨I, ⟨I, I, I, I, I, I, I, I, I⟩, I⟩, ?_⟩
        refine W.ret ?_
        refine EndsW.rt ?_
        conv => whnf
        refine ⟨⟨I, I, I, I, I, I, I, I, I, I⟩, ?_⟩
        exact ⟨⟨1 + pickV l pos 5, 1 + pickV l (pos + 1 + 1) 3, 0, 1 + pickV l (pos + 1) 3, x, pickV l (pos + 1 + 1 + 1 + 1) 6, sumT (decS (pickV l (pos + 1 + 1 + 1 + 1 + 1) 50)), []⟩, _, rfl, rfl, ⟨sm0 _ (by rw [sumT_size]; omega) _ _ _ _ _ _, ⟨⟨by dsimp only; omega, by dsimp only; omega⟩, .inr (.inr (.inl ⟨by dsimp only; omega, rfl, ⟨by dsimp only; omega, by dsimp only; omega⟩, hxb, ⟨by dsimp only; omega, by dsimp only; omega⟩, by dsimp only; rw [sumT_size]; rfl, rfl⟩))⟩⟩, by omega, by omega⟩
      · by_cases k3 : pickV l pos 5 = 3
        · refine x_spec_l2Draw ?_
          conv => whnf
          refine g 0 0 [] ?_
          conv => whnf
          refine ⟨⟨I, I⟩, ?_⟩
          refine g 11 18 [.call (V.i (pickV l pos (5 : Int))) ([rdC l (pos + (1 : Int)), []]), .i ((1 : Int) + pickV l pos (5 : Int)), .call (V.i (pickV l (pos + (1 : Int)) (3 : Int))) ([rdC l (pos + (1 : Int) + (1 : Int)), []]), .i ((1 : Int) + pickV l (pos + (1 : Int)) (3 : Int))] ?_
          conv => whnf
          refine ⟨⟨I, ⟨⟨I, I, I⟩, I, ⟨I, ⟨I, I⟩, I⟩, ⟨I, I⟩, Go.K.c_spec_l1Rd_pick _ _ _ (by omega) (by omega) (by omega) (by omega)⟩, w64 (by omega) (by omega), I, ⟨⟨I, I, I⟩, I, ⟨I, ⟨I, I⟩, I⟩, ⟨I, I⟩, Go.K.c_spec_l1Rd_pick _ _ _ (by omega) (by omega) (by omega) (by omega)⟩, w64 (by omega) (by omega), I, I, ⟨I, I, I, I, I, I, I, I, I⟩, I⟩, ?_⟩
          refine g 18 27 [.call (V.tup [V.b (decide ((1 : Int) ≤ (1 : Int) + pickV l pos (5 : Int) ∧ (1 : Int) + pickV l pos (5 : Int) ≤ (4 : Int))), V.b (decide ((1 : Int) + pickV l pos (5 : Int) = (1 : Int) ∨ (1 : Int) + pickV l pos (5 : Int) = (3 : Int))), V.b (decide ((1 : Int) + pickV l pos (5 : Int) = (3 : Int))), V.b (decide ((1 : Int) + pickV l pos (5 : Int) = (1 : Int))), V.b (decide ((1 : Int) + pickV l pos (5 : Int) = (1 : Int) ∨ (1 : Int) + pickV l pos (5 : Int) = (4 : Int)))]) ([[]])] ?_
          conv => whnf
          refine ⟨⟨I, I, ⟨⟨I, I⟩, I, ⟨⟨I, I⟩, I⟩, ⟨I, I⟩, (by assumption)⟩, I, I, I, I, I, I, I, I, I, I, I, I⟩, ?_⟩
          refine g 28 30 [.call (V.i (pickV l (pos + (1 : Int) + (1 : Int)) (3 : Int))) ([rdC l (pos + (1 : Int) + (1 : Int) + (1 : Int)), []]), .i ((1 : Int) + pickV l (pos + (1 : Int) + (1 : Int)) (3 : Int))] ?_
          conv => whnf
          refine ⟨⟨I, ⟨⟨I, I, I⟩, I, ⟨I, ⟨I, I⟩, I⟩, ⟨I, I⟩, Go.K.c_spec_l1Rd_pick _ _ _ (by omega) (by omega) (by omega) (by omega)⟩, w64 (by omega) (by omega), I, I⟩, ?_⟩
          refine W.sq ?_
          refine g 8 9 [] ?_
          conv => whnf
          refine ⟨⟨I, I⟩, ?_⟩
          refine W.cn ?_
          conv => whnf
          refine ⟨fun _ => ?_, noF (decide_eq_true (by omega))⟩
          refine rg [] ?_
          conv => whnf
          refine ⟨⟨I, I, ⟨I, I⟩, I⟩, ?_⟩
          refine W.sq ?_
          refine g 30 33 [] ?_
          conv => whnf
          refine ⟨⟨I, I⟩, ?_⟩
          refine W.cn ?_
          conv => whnf
          refine ⟨fun _ => ?_, noF (decide_eq_true (by omega))⟩
          refine rg [.call (V.i (pickV l (pos + (1 : Int) + (1 : Int) + (1 : Int)) (7 : Int))) ([rdC l (pos + (1 : Int) + (1 : Int) + (1 : Int) + (1 : Int)), []]), .n (Int.toNat (pickV l (pos + (1 : Int) + (1 : Int) + (1 : Int)) (7 : Int))), .x ([T.i x])] ?_
          conv => whnf
          refine ⟨⟨⟨⟨I, I⟩, ⟨I, I⟩, ⟨I, I⟩, ⟨I, I⟩, ⟨I, I⟩, ⟨I, I⟩, ⟨I, I⟩, I⟩, I, ⟨⟨I, I, I⟩, I, ⟨I, ⟨I, I⟩, I⟩, ⟨I, I⟩, Go.K.c_spec_l1Rd_pick _ _ _ (by omega) (by omega) (by omega) (by omega)⟩, ⟨(by omega), (by simp only [List.length_map, List.length_append, List.length_set, List.length_replicate, List.length_cons, List.length_nil, List.length_take, List.length_drop, fill_len, fillI_len, List.length_range, bytesT_len]; omega)⟩, (by assumption), I, ⟨I, I⟩, I⟩, ?_⟩
          refine W.sq ?_
          refine g 35 42 [] ?_
          conv => whnf
          refine ⟨⟨I, I⟩, ?_⟩
          refine W.cn ?_
          conv => whnf
          refine ⟨noT (decide_eq_false (by omega)), fun _ => ?_⟩
          refine W.skip ?_
          refine W.sq ?_
          refine g 4 7 [] ?_
          conv => whnf
          refine ⟨⟨I, I⟩, ?_⟩
          refine W.cn ?_
          conv => whnf
          refine ⟨noT (decide_eq_false (by omega)), fun _ => ?_⟩
          refine W.skip ?_
          refine W.sq ?_
          refine g 7 10 [] ?_
          conv => whnf
          refine ⟨⟨I, I⟩, ?_⟩
          refine W.cn ?_
          conv => whnf
          refine ⟨noT (decide_eq_false (by omega)), fun _ => ?_⟩
          refine W.skip ?_
          refine g 42 65 [] ?_
          conv => whnf
          refine ⟨⟨I, ⟨I, I, I, I, I, I, I, I, I⟩, I⟩, ?_⟩
          refine W.ret ?_
          refine EndsW.rt ?_
          conv => whnf
          refine ⟨⟨I, I, I, I, I, I, I, I, I, I⟩, ?_⟩
          exact ⟨⟨1 + pickV l pos 5, 0, 1 + pickV l (pos + 1 + 1) 3, 1 + pickV l (pos + 1) 3, x, 0, emp, []⟩, _, rfl, rfl, ⟨sm0 emp (Nat.zero_le 64) _ _ _ _ _ _, ⟨⟨by dsimp only; omega, by dsimp only; omega⟩, .inr (.inr (.inr (.inl ⟨by dsimp only; omega, rfl, ⟨by dsimp only; omega, by dsimp only; omega⟩, hxb, rfl, rfl, rfl⟩)))⟩⟩, by omega, by omega⟩
        · refine x_spec_l2Draw ?_
          conv => whnf
          refine g 0 0 [] ?_
          conv => whnf
          refine ⟨⟨I, I⟩, ?_⟩
          refine g 11 18 [.call (V.i (pickV l pos (5 : Int))) ([rdC l (pos + (1 : Int)), []]), .i ((1 : Int) + pickV l pos (5 : Int)), .call (V.i (pickV l (pos + (1 : Int)) (3 : Int))) ([rdC l (pos + (1 : Int) + (1 : Int)), []]), .i ((1 : Int) + pickV l (pos + (1 : Int)) (3 : Int))] ?_
          conv => whnf
          refine ⟨⟨I, ⟨⟨I, I, I⟩, I, ⟨I, ⟨I, I⟩, I⟩, ⟨I, I⟩, Go.K.c_spec_l1Rd_pick _ _ _ (by omega) (by omega) (by omega) (by omega)⟩, w64 (by omega) (by omega), I, ⟨⟨I, I, I⟩, I, ⟨I, ⟨I, I⟩, I⟩, ⟨I, I⟩, Go.K.c_spec_l1Rd_pick _ _ _ (by omega) (by omega) (by omega) (by omega)⟩, w64 (by omega) (by omega), I, I, ⟨I, I, I, I, I, I, I, I, I⟩, I⟩, ?_⟩
          refine g 18 27 [.call (V.tup [V.b (decide ((1 : Int) ≤ (1 : Int) + pickV l pos (5 : Int) ∧ (1 : Int) + pickV l pos (5 : Int) ≤ (4 : Int))), V.b (decide ((1 : Int) + pickV l pos (5 : Int) = (1 : Int) ∨ (1 : Int) + pickV l pos (5 : Int) = (3 : Int))), V.b (decide ((1 : Int) + pickV l pos (5 : Int) = (3 : Int))), V.b (decide ((1 : Int) + pickV l pos (5 : Int) = (1 : Int))), V.b (decide ((1 : Int) + pickV l pos (5 : Int) = (1 : Int) ∨ (1 : Int) + pickV l pos (5 : Int) = (4 : Int)))]) ([[]])] ?_
          conv => whnf
          refine ⟨⟨I, I, ⟨⟨I, I⟩, I, ⟨⟨I, I⟩, I⟩, ⟨I, I⟩, (by assumption)⟩, I, I, I, I, I, I, I, I, I, I, I, I⟩, ?_⟩
          refine g 28 30 [.call (V.i (pickV l (pos + (1 : Int) + (1 : Int)) (3 : Int))) ([rdC l (pos + (1 : Int) + (1 : Int) + (1 : Int)), []]), .i ((1 : Int) + pickV l (pos + (1 : Int) + (1 : Int)) (3 : Int))] ?_
          conv => whnf
          refine ⟨⟨I, ⟨⟨I, I, I⟩, I, ⟨I, ⟨I, I⟩, I⟩, ⟨I, I⟩, Go.K.c_spec_l1Rd_pick _ _ _ (by omega) (by omega) (by omega) (by omega)⟩, w64 (by omega) (by omega), I, I⟩, ?_⟩
          refine W.sq ?_
          refine g 8 9 [] ?_
          conv => whnf
          refine ⟨⟨I, I⟩, ?_⟩
          refine W.cn ?_
          conv => whnf
          refine ⟨noT (decide_eq_false (by omega)), fun _ => ?_⟩
          refine rg [] ?_
          conv => whnf
          refine ⟨⟨I, I, ⟨I, I⟩, I⟩, ?_⟩
          refine W.sq ?_
          refine g 30 35 [] ?_
          conv => whnf
          refine ⟨⟨I, I⟩, ?_⟩
          refine W.cn ?_
          conv => whnf
          refine ⟨noT (decide_eq_false (by omega)), fun _ => ?_⟩
          refine W.skip ?_
          refine W.sq ?_
          refine g 4 6 [] ?_
          conv => whnf
          refine ⟨⟨I, I⟩, ?_⟩
          refine W.cn ?_
          conv => whnf
          refine ⟨noT (decide_eq_false (by omega)), fun _ => ?_⟩
          refine W.skip ?_
          refine W.sq ?_
          refine g 35 43 [] ?_
          conv => whnf
          refine ⟨⟨I, I⟩, ?_⟩
          refine W.cn ?_
          conv => whnf
          refine ⟨noT (decide_eq_false (by omega)), fun _ => ?_⟩
          refine W.skip ?_
          refine W.sq ?_
          refine g 6 10 [] ?_
          conv => whnf
          refine ⟨⟨I, I⟩, ?_⟩
          refine W.cn ?_
          conv => whnf
          refine ⟨noT (decide_eq_false (by omega)), fun _ => ?_⟩
          refine W.skip ?_
          refine g 46 65 [] ?_
          conv => whnf
          refine ⟨⟨I, ⟨I, I, I, I, I, I, I, I, I⟩, I⟩, ?_⟩
          refine W.ret ?_
          refine EndsW.rt ?_
          conv => whnf
          refine ⟨⟨I, I, I, I, I, I, I, I, I, I⟩, ?_⟩
          exact ⟨⟨1 + pickV l pos 5, 1 + pickV l (pos + 1 + 1) 3, 0, 1 + pickV l (pos + 1) 3, 0, 0, emp, []⟩, _, rfl, rfl, ⟨sm0 emp (Nat.zero_le 64) _ _ _ _ _ _, ⟨⟨by dsimp only; omega, by dsimp only; omega⟩, .inr (.inr (.inr (.inr ⟨by dsimp only; omega, rfl, ⟨by dsimp only; omega, by dsimp only; omega⟩, rfl, rfl, rfl, rfl⟩)))⟩⟩, by omega, by omega⟩
theorem ex_MDraw' (l : List Int) (pos : Int) (h : u8ok l ∧ 0 ≤ pos ∧ pos ≤ 1000000) : ∃ x : Message × Int, F n_spec_l2Draw [.ptr (rdC l pos)] (messageO x.1) [rdC l x.2] ∧ (msgSmall x.1 ∧ msgOk x.1) ∧ pos ≤ x.2 ∧ x.2 ≤ pos + 40 := by
  obtain ⟨res, outs, ⟨q, pos2, rfl, rfl, h1, h2, h3⟩, hF⟩ := ex_MDraw l pos h.1 h.2.1 h.2.2
  exact ⟨(q, pos2), hF, h1, h2, h3⟩
open Classical in
noncomputable def mdrawP (l : List Int) (pos : Int) : Message × Int := if h : u8ok l ∧ 0 ≤ pos ∧ pos ≤ 1000000 then (ex_MDraw' l pos h).choose else (⟨5, 1, 0, 1, 0, 0, emp, []⟩, pos)
theorem c_spec_l2Draw (l : List Int) (pos : Int) (hl : u8ok l) (h0 : 0 ≤ pos) (h1 : pos ≤ 1000000) : F n_spec_l2Draw [.ptr (rdC l pos)] (messageO (mdrawP l pos).1) [rdC l (mdrawP l pos).2] := by
  have h : u8ok l ∧ 0 ≤ pos ∧ pos ≤ 1000000 := ⟨hl, h0, h1⟩
  rw [mdrawP, dif_pos h]
  exact (ex_MDraw' l pos h).choose_spec.1
theorem mdraw_ok (l : List Int) (pos : Int) : (msgSmall (mdrawP l pos).1 ∧ msgOk (mdrawP l pos).1) ∧ pos ≤ (mdrawP l pos).2 ∧ (mdrawP l pos).2 ≤ pos + 40 := by
  unfold mdrawP
  split
  · rename_i h; exact (ex_MDraw' l pos h).choose_spec.2
  · exact ⟨⟨⟨Nat.zero_le _, Nat.zero_le 64, fun s hs => by cases hs⟩, ⟨⟨by dsimp only; omega, by dsimp only; omega⟩, .inr (.inr (.inr (.inr ⟨rfl, rfl, ⟨by dsimp only; omega, by dsimp only; omega⟩, rfl, rfl, rfl, rfl⟩)))⟩⟩, Int.le_refl _, by dsimp only; omega⟩
end Go.K

end

section
set_option linter.unusedVariables false
set_option linter.unusedSimpArgs false
set_option maxHeartbeats 4000000
set_option maxRecDepth 20000
open Go Go.Tm Go.Proofs
namespace Go.K
theorem ex_MSpoil (l : List Int) (pos : Int) (m : Message) (hm : msgSmall m) (hl : u8ok l) (h0 : 0 ≤ pos) (h1 : pos ≤ 1000000) : ∃ res outs, MsgR l pos [[]] res outs ∧ F n_spec_l2Spoil [.ptr (rdC l pos), .val (messageO m)] res outs := by
  obtain ⟨m1, m2, m3⟩ := hm
  have p0 := pick_rng l pos 8
  have p8 := pick_rng l (pos + 1) 8
  have p11 := pick_rng l (pos + 1) 11
  have p4 := pick_rng l (pos + 1) 4
  have p3 := pick_rng l (pos + 1 + 1) 3
  have p10 := pick_rng l (pos + 1) 10
  obtain ⟨xe, hxe1, hxe2⟩ := pick_int [0, -1, 300, 301] (pickV l (pos + 1) 4) p4.1 (by show _ < (4 : Int); omega)
  have hxe3 : ([[T.i 0], [T.i (-1)], [T.i 300], [T.i 301]] : List (List T))[(pickV l (pos + 1) 4).toNat]? = some [T.i xe] := hxe2
  obtain ⟨xl, hxl1, hxl2⟩ := pick_int [0, -1, 300000001, 5] (pickV l (pos + 1) 4) p4.1 (by show _ < (4 : Int); omega)
  have hxl3 : ([[T.i 0], [T.i (-1)], [T.i 300000001], [T.i 5]] : List (List T))[(pickV l (pos + 1) 4).toNat]? = some [T.i xl] := hxl2
  obtain ⟨xt, hxt1, hxt2⟩ := pick_int [-1, 39, 40, 256] (pickV l (pos + 1) 4) p4.1 (by show _ < (4 : Int); omega)
  have hxt3 : ([[T.i (-1)], [T.i 39], [T.i 40], [T.i 256]] : List (List T))[(pickV l (pos + 1) 4).toNat]? = some [T.i xt] := hxt2
  obtain ⟨xs, hxs1, hxs2⟩ := pick_str [⟨#[]⟩, ⟨#[115, 104, 111, 114, 116]⟩, sumT (decS (pickV l (pos + 1) 50))] (pickV l (pos + 1 + 1) 3) p3.1 (by show _ < (3 : Int); omega)
  have hxs3 : ([[T.s ⟨#[]⟩], [T.s ⟨#[115, 104, 111, 114, 116]⟩], [T.s (sumT (decS (pickV l (pos + 1) 50)))]] : List (List T))[(pickV l (pos + 1 + 1) 3).toNat]? = some [T.s xs] := hxs2
  have hxs : xs.size ≤ 64 := by
    have e1 : (⟨#[]⟩ : ByteArray).size = 0 := rfl
    have e2 : (⟨#[115, 104, 111, 114, 116]⟩ : ByteArray).size = 5 := rfl
    have e3 := sumT_size (decS (pickV l (pos + 1) 50))
    simp only [List.mem_cons, List.not_mem_nil, or_false] at hxs1
    rcases hxs1 with rfl | rfl | rfl <;> omega
  by_cases k0 : pickV l pos 8 = 0
  · refine x_spec_l2Spoil ?_
    conv => whnf
    refine g 0 0 [] ?_
    conv => whnf
    refine ⟨⟨⟨I, I, I, I, I, I, I, I, I⟩, I, I⟩, ?_⟩
    refine g 6 11 [] ?_
    conv => whnf
    refine ⟨⟨I, I, I, ⟨I, I, (by simp only [List.length_map, List.length_append, List.length_set, List.length_replicate, List.length_cons, List.length_nil, List.length_take, List.length_drop, fill_len, fillI_len, List.length_range, bytesT_len]; omega)⟩, I, ⟨I, I⟩, I⟩, ?_⟩
    refine W.sq ?_
    refine g 11 12 [.call (V.i (pickV l pos (8 : Int))) ([rdC l (pos + (1 : Int)), []])] ?_
    conv => whnf
    refine ⟨⟨I, ⟨⟨I, I, I⟩, I, ⟨I, ⟨I, I⟩, I⟩, ⟨I, I⟩, Go.K.c_spec_l1Rd_pick _ _ _ (by omega) (by omega) (by omega) (by omega)⟩, I⟩, ?_⟩
    refine W.blk ?_
    refine g 35 36 [] ?_
    conv => whnf
    refine ⟨⟨I, I, I⟩, ?_⟩
    refine W.cn ?_
    conv => whnf
    refine ⟨fun _ => ?_, noF (decide_eq_true (by omega))⟩
    refine rg [.call (V.i (pickV l (pos + (1 : Int)) (8 : Int))) ([rdC l (pos + (1 : Int) + (1 : Int)), []]), .i (pickV l (pos + (1 : Int)) (8 : Int) - (1 : Int))] ?_
    conv => whnf
    refine ⟨⟨I, ⟨⟨I, I, I⟩, I, ⟨I, ⟨I, I⟩, I⟩, ⟨I, I⟩, Go.K.c_spec_l1Rd_pick _ _ _ (by omega) (by omega) (by omega) (by omega)⟩, w64 (by omega) (by omega), I, ⟨I, I⟩, I⟩, ?_⟩
    refine g 12 87 [] ?_
    conv => whnf
    refine ⟨⟨I, ⟨I, I, I, I, I, I, I, I, I⟩, I⟩, ?_⟩
    refine W.ret ?_
    refine EndsW.rt ?_
    conv => whnf
    refine ⟨⟨I, I, I, I, I, I, I, I, I, I⟩, ?_⟩
    exact ⟨⟨_, m.frm, m.to, m.epoch, m.lease, m.task, m.text, m.inputs⟩, _, rfl, rfl, ⟨m1, m2, m3⟩, by omega, by omega⟩
  · by_cases k1 : pickV l pos 8 = 1
    · refine x_spec_l2Spoil ?_
      conv => whnf
      refine g 0 0 [] ?_
      conv => whnf
      refine ⟨⟨⟨I, I, I, I, I, I, I, I, I⟩, I, I⟩, ?_⟩
      refine g 6 11 [] ?_
      conv => whnf
      refine ⟨⟨I, I, I, ⟨I, I, (by simp only [List.length_map, List.length_append, List.length_set, List.length_replicate, List.length_cons, List.length_nil, List.length_take, List.length_drop, fill_len, fillI_len, List.length_range, bytesT_len]; omega)⟩, I, ⟨I, I⟩, I⟩, ?_⟩
      refine W.sq ?_
      refine g 11 12 [.call (V.i (pickV l pos (8 : Int))) ([rdC l (pos + (1 : Int)), []])] ?_
      conv => whnf
      refine ⟨⟨I, ⟨⟨I, I, I⟩, I, ⟨I, ⟨I, I⟩, I⟩, ⟨I, I⟩, Go.K.c_spec_l1Rd_pick _ _ _ (by omega) (by omega) (by omega) (by omega)⟩, I⟩, ?_⟩
      refine W.blk ?_
      refine g 35 36 [] ?_
      conv => whnf
      refine ⟨⟨I, I, I⟩, ?_⟩
      refine W.cn ?_
      conv => whnf
      refine ⟨noT (decide_eq_false (by omega)), fun _ => ?_⟩
      refine g 34 35 [] ?_
      conv => whnf
      refine ⟨⟨I, I, I⟩, ?_⟩
      refine W.cn ?_
      conv => whnf
      refine ⟨fun _ => ?_, noF (decide_eq_true (by omega))⟩
      refine rg [.call (V.i (pickV l (pos + (1 : Int)) (11 : Int))) ([rdC l (pos + (1 : Int) + (1 : Int)), []]), .i (pickV l (pos + (1 : Int)) (11 : Int) - (1 : Int))] ?_
      conv => whnf
      refine ⟨⟨I, ⟨⟨I, I, I⟩, I, ⟨I, ⟨I, I⟩, I⟩, ⟨I, I⟩, Go.K.c_spec_l1Rd_pick _ _ _ (by omega) (by omega) (by omega) (by omega)⟩, w64 (by omega) (by omega), I, ⟨I, I⟩, I⟩, ?_⟩
      refine g 12 87 [] ?_
      conv => whnf
      refine ⟨⟨I, ⟨I, I, I, I, I, I, I, I, I⟩, I⟩, ?_⟩
      refine W.ret ?_
      refine EndsW.rt ?_
      conv => whnf
      refine ⟨⟨I, I, I, I, I, I, I, I, I, I⟩, ?_⟩
      exact ⟨⟨m.kind, pickV l (pos + 1) 11 - 1, m.to, m.epoch, m.lease, m.task, m.text, m.inputs⟩, _, rfl, rfl, ⟨m1, m2, m3⟩, by omega, by omega⟩
    · by_cases k2 : pickV l pos 8 = 2
      · refine x_spec_l2Spoil ?_
        conv => whnf
        refine g 0 0 [] ?_
        conv => whnf
        refine ⟨⟨⟨I, I, I, I, I, I, I, I, I⟩, I, I⟩, ?_⟩
        refine g 6 11 [] ?_
        conv => whnf
        refine ⟨⟨I, I, I, ⟨I, I, (by simp only [List.length_map, List.length_append, List.length_set, List.length_replicate, List.length_cons, List.length_nil, List.length_take, List.length_drop, fill_len, fillI_len, List.length_range, bytesT_len]; omega)⟩, I, ⟨I, I⟩, I⟩, ?_⟩
        refine W.sq ?_
        refine g 11 12 [.call (V.i (pickV l pos (8 : Int))) ([rdC l (pos + (1 : Int)), []])] ?_
        conv => whnf
        refine ⟨⟨I, ⟨⟨I, I, I⟩, I, ⟨I, ⟨I, I⟩, I⟩, ⟨I, I⟩, Go.K.c_spec_l1Rd_pick _ _ _ (by omega) (by omega) (by omega) (by omega)⟩, I⟩, ?_⟩
        refine W.blk ?_
        refine g 35 36 [] ?_
        conv => whnf
        refine ⟨⟨I, I, I⟩, ?_⟩
        refine W.cn ?_
        conv => whnf
        refine ⟨noT (decide_eq_false (by omega)), fun _ => ?_⟩
        refine g 34 35 [] ?_
        conv => whnf
        refine ⟨⟨I, I, I⟩, ?_⟩
        refine W.cn ?_
        conv => whnf
        refine ⟨noT (decide_eq_false (by omega)), fun _ => ?_⟩
        refine g 40 42 [] ?_
        conv => whnf
        refine ⟨⟨I, I, I⟩, ?_⟩
        refine W.cn ?_
        conv => whnf
        refine ⟨fun _ => ?_, noF (decide_eq_true (by omega))⟩
        refine rg [.call (V.i (pickV l (pos + (1 : Int)) (11 : Int))) ([rdC l (pos + (1 : Int) + (1 : Int)), []]), .i (pickV l (pos + (1 : Int)) (11 : Int) - (1 : Int))] ?_
        conv => whnf
        refine ⟨⟨I, ⟨⟨I, I, I⟩, I, ⟨I, ⟨I, I⟩, I⟩, ⟨I, I⟩, Go.K.c_spec_l1Rd_pick _ _ _ (by omega) (by omega) (by omega) (by omega)⟩, w64 (by omega) (by omega), I, ⟨I, I⟩, I⟩, ?_⟩
        refine g 12 87 [] ?_
        conv => whnf
        refine ⟨⟨I, ⟨I, I, I, I, I, I, I, I, I⟩, I⟩, ?_⟩
        refine W.ret ?_
        refine EndsW.rt ?_
        conv => whnf
        refine ⟨⟨I, I, I, I, I, I, I, I, I, I⟩, ?_⟩
        exact ⟨⟨m.kind, m.frm, pickV l (pos + 1) 11 - 1, m.epoch, m.lease, m.task, m.text, m.inputs⟩, _, rfl, rfl, ⟨m1, m2, m3⟩, by omega, by omega⟩
      · by_cases k3 : pickV l pos 8 = 3
        · refine x_spec_l2Spoil ?_
          conv => whnf
          refine g 0 0 [] ?_
          conv => whnf
          refine ⟨⟨⟨I, I, I, I, I, I, I, I, I⟩, I, I⟩, ?_⟩
          refine g 6 11 [] ?_
          conv => whnf
          refine ⟨⟨I, I, I, ⟨I, I, (by simp only [List.length_map, List.length_append, List.length_set, List.length_replicate, List.length_cons, List.length_nil, List.length_take, List.length_drop, fill_len, fillI_len, List.length_range, bytesT_len]; omega)⟩, I, ⟨I, I⟩, I⟩, ?_⟩
          refine W.sq ?_
          refine g 11 12 [.call (V.i (pickV l pos (8 : Int))) ([rdC l (pos + (1 : Int)), []])] ?_
          conv => whnf
          refine ⟨⟨I, ⟨⟨I, I, I⟩, I, ⟨I, ⟨I, I⟩, I⟩, ⟨I, I⟩, Go.K.c_spec_l1Rd_pick _ _ _ (by omega) (by omega) (by omega) (by omega)⟩, I⟩, ?_⟩
          refine W.blk ?_
          refine g 35 36 [] ?_
          conv => whnf
          refine ⟨⟨I, I, I⟩, ?_⟩
          refine W.cn ?_
          conv => whnf
          refine ⟨noT (decide_eq_false (by omega)), fun _ => ?_⟩
          refine g 34 35 [] ?_
          conv => whnf
          refine ⟨⟨I, I, I⟩, ?_⟩
          refine W.cn ?_
          conv => whnf
          refine ⟨noT (decide_eq_false (by omega)), fun _ => ?_⟩
          refine g 40 42 [] ?_
          conv => whnf
          refine ⟨⟨I, I, I⟩, ?_⟩
          refine W.cn ?_
          conv => whnf
          refine ⟨noT (decide_eq_false (by omega)), fun _ => ?_⟩
          refine g 46 48 [] ?_
          conv => whnf
          refine ⟨⟨I, I, I⟩, ?_⟩
          refine W.cn ?_
          conv => whnf
          refine ⟨fun _ => ?_, noF (decide_eq_true (by omega))⟩
          refine rg [.call (V.i (pickV l (pos + (1 : Int)) (4 : Int))) ([rdC l (pos + (1 : Int) + (1 : Int)), []]), .n (Int.toNat (pickV l (pos + (1 : Int)) (4 : Int))), .x ([T.i xe])] ?_
          conv => whnf
          refine ⟨⟨⟨⟨I, I⟩, ⟨I, I⟩, ⟨I, I⟩, ⟨I, I⟩, I⟩, I, ⟨⟨I, I, I⟩, I, ⟨I, ⟨I, I⟩, I⟩, ⟨I, I⟩, Go.K.c_spec_l1Rd_pick _ _ _ (by omega) (by omega) (by omega) (by omega)⟩, ⟨(by omega), (by simp only [List.length_map, List.length_append, List.length_set, List.length_replicate, List.length_cons, List.length_nil, List.length_take, List.length_drop, fill_len, fillI_len, List.length_range, bytesT_len]; omega)⟩, (by assumption), I, ⟨I, I⟩, I⟩, ?_⟩
          refine g 12 87 [] ?_
          conv => whnf
          refine ⟨⟨I, ⟨I, I, I, I, I, I, I, I, I⟩, I⟩, ?_⟩
          refine W.ret ?_
          refine EndsW.rt ?_
          conv => whnf
          refine ⟨⟨I, I, I, I, I, I, I, I, I, I⟩, ?_⟩
          exact ⟨⟨m.kind, m.frm, m.to, xe, m.lease, m.task, m.text, m.inputs⟩, _, rfl, rfl, ⟨m1, m2, m3⟩, by omega, by omega⟩
        · by_cases k4 : pickV l pos 8 = 4
          · refine x_spec_l2Spoil ?_
            conv => whnf
            refine g 0 0 [] ?_
            conv => whnf
            refine ⟨⟨⟨I, I, I, I, I, I, I, I, I⟩, I, I⟩, ?_⟩
            refine g 6 11 [] ?_
            conv => whnf
            refine ⟨⟨I, I, I, ⟨I, I, (by simp only [List.length_map, List.length_append, List.length_set, List.length_replicate, List.length_cons, List.length_nil, List.length_take, List.length_drop, fill_len, fillI_len, List.length_range, bytesT_len]; omega)⟩, I, ⟨I, I⟩, I⟩, ?_⟩
            refine W.sq ?_
            refine g 11 12 [.call (V.i (pickV l pos (8 : Int))) ([rdC l (pos + (1 : Int)), []])] ?_
            conv => whnf
            refine ⟨⟨I, ⟨⟨I, I, I⟩, I, ⟨I, ⟨I, I⟩, I⟩, ⟨I, I⟩, Go.K.c_spec_l1Rd_pick _ _ _ (by omega) (by omega) (by omega) (by omega)⟩, I⟩, ?_⟩
            refine W.blk ?_
            refine g 35 36 [] ?_
            conv => whnf
            refine ⟨⟨I, I, I⟩, ?_⟩
            refine W.cn ?_
            conv => whnf
            refine ⟨noT (decide_eq_false (by omega)), fun _ => ?_⟩
            refine g 34 35 [] ?_
            conv => whnf
            refine ⟨⟨I, I, I⟩, ?_⟩
            refine W.cn ?_
            conv => whnf
            refine ⟨noT (decide_eq_false (by omega)), fun _ => ?_⟩
            refine g 40 42 [] ?_
            conv => whnf
            refine ⟨⟨I, I, I⟩, ?_⟩
            refine W.cn ?_
            conv => whnf
            refine ⟨noT (decide_eq_false (by omega)), fun _ => ?_⟩
            refine g 46 48 [] ?_
            conv => whnf
            refine ⟨⟨I, I, I⟩, ?_⟩
            refine W.cn ?_
            conv => whnf
            refine ⟨noT (decide_eq_false (by omega)), fun _ => ?_⟩
            refine g 52 54 [] ?_
            conv => whnf
            refine ⟨⟨I, I, I⟩, ?_⟩
            refine W.cn ?_
            conv => whnf
            refine ⟨fun _ => ?_, noF (decide_eq_true (by omega))⟩
            refine rg [.call (V.i (pickV l (pos + (1 : Int)) (4 : Int))) ([rdC l (pos + (1 : Int) + (1 : Int)), []]), .n (Int.toNat (pickV l (pos + (1 : Int)) (4 : Int))), .x ([T.i xl])] ?_
            conv => whnf
            refine ⟨⟨⟨⟨I, I⟩, ⟨I, I⟩, ⟨I, I⟩, ⟨I, I⟩, I⟩, I, ⟨⟨I, I, I⟩, I, ⟨I, ⟨I, I⟩, I⟩, ⟨I, I⟩, Go.K.c_spec_l1Rd_pick _ _ _ (by omega) (by omega) (by omega) (by omega)⟩, ⟨(by omega), (by simp only [List.length_map, List.length_append, List.length_set, List.length_replicate, List.length_cons, List.length_nil, List.length_take, List.length_drop, fill_len, fillI_len, List.length_range, bytesT_len]; omega)⟩, (by assumption), I, ⟨I, I⟩, I⟩, ?_⟩
            refine g 12 87 [] ?_
            conv => whnf
            refine ⟨⟨I, ⟨I, I, I, I, I, I, I, I, I⟩, I⟩, ?_⟩
            refine W.ret ?_
            refine EndsW.rt ?_
            conv => whnf
            refine ⟨⟨I, I, I, I, I, I, I, I, I, I⟩, ?_⟩
            exact ⟨⟨m.kind, m.frm, m.to, m.epoch, xl, m.task, m.text, m.inputs⟩, _, rfl, rfl, ⟨m1, m2, m3⟩, by omega, by omega⟩
          · by_cases k5 : pickV l pos 8 = 5
            · refine x_spec_l2Spoil ?_
              conv => whnf
              refine g 0 0 [] ?_
              conv => whnf
              refine ⟨⟨⟨I, I, I, I, I, I, I, I, I⟩, I, I⟩, ?_⟩
              refine g 6 11 [] ?_
              conv => whnf
              refine ⟨⟨I, I, I, ⟨I, I, (by simp only [List.length_map, List.length_append, List.length_set, List.length_replicate, List.length_cons, List.length_nil, List.length_take, List.length_drop, fill_len, fillI_len, List.length_range, bytesT_len]; omega)⟩, I, ⟨I, I⟩, I⟩, ?_⟩
              refine W.sq ?_
              refine g 11 12 [.call (V.i (pickV l pos (8 : Int))) ([rdC l (pos + (1 : Int)), []])] ?_
              conv => whnf
              refine ⟨⟨I, ⟨⟨I, I, I⟩, I, ⟨I, ⟨I, I⟩, I⟩, ⟨I, I⟩, Go.K.c_spec_l1Rd_pick _ _ _ (by omega) (by omega) (by omega) (by omega)⟩, I⟩, ?_⟩
              refine W.blk ?_
              refine g 35 36 [] ?_
              conv => whnf
              refine ⟨⟨I, I, I⟩, ?_⟩
              refine W.cn ?_
              conv => whnf
              refine ⟨noT (decide_eq_false (by omega)), fun _ => ?_⟩
              refine g 34 35 [] ?_
              conv => whnf
              refine ⟨⟨I, I, I⟩, ?_⟩
              refine W.cn ?_
              conv => whnf
              refine ⟨noT (decide_eq_false (by omega)), fun _ => ?_⟩
              refine g 40 42 [] ?_
              conv => whnf
              refine ⟨⟨I, I, I⟩, ?_⟩
              refine W.cn ?_
              conv => whnf
              refine ⟨noT (decide_eq_false (by omega)), fun _ => ?_⟩
              refine g 46 48 [] ?_
              conv => whnf
              refine ⟨⟨I, I, I⟩, ?_⟩
              refine W.cn ?_
              conv => whnf
              refine ⟨noT (decide_eq_false (by omega)), fun _ => ?_⟩
              refine g 52 54 [] ?_
              conv => whnf
              refine ⟨⟨I, I, I⟩, ?_⟩
              refine W.cn ?_
              conv => whnf
              refine ⟨noT (decide_eq_false (by omega)), fun _ => ?_⟩
              refine g 60 62 [] ?_
              conv => whnf
              refine ⟨⟨I, I, I⟩, ?_⟩
              refine W.cn ?_
              conv => whnf
              refine ⟨fun _ => ?_, noF (decide_eq_true (by omega))⟩
              refine rg [.call (V.i (pickV l (pos + (1 : Int)) (4 : Int))) ([rdC l (pos + (1 : Int) + (1 : Int)), []]), .n (Int.toNat (pickV l (pos + (1 : Int)) (4 : Int))), .x ([T.i xt])] ?_
              conv => whnf
              refine ⟨⟨⟨⟨I, I⟩, ⟨I, I⟩, ⟨I, I⟩, ⟨I, I⟩, I⟩, I, ⟨⟨I, I, I⟩, I, ⟨I, ⟨I, I⟩, I⟩, ⟨I, I⟩, Go.K.c_spec_l1Rd_pick _ _ _ (by omega) (by omega) (by omega) (by omega)⟩, ⟨(by omega), (by simp only [List.length_map, List.length_append, List.length_set, List.length_replicate, List.length_cons, List.length_nil, List.length_take, List.length_drop, fill_len, fillI_len, List.length_range, bytesT_len]; omega)⟩, (by assumption), I, ⟨I, I⟩, I⟩, ?_⟩
              refine g 12 87 [] ?_
              conv => whnf
              refine ⟨⟨I, ⟨I, I, I, I, I, I, I, I, I⟩, I⟩, ?_⟩
              refine W.ret ?_
              refine EndsW.rt ?_
              conv => whnf
              refine ⟨⟨I, I, I, I, I, I, I, I, I, I⟩, ?_⟩
              exact ⟨⟨m.kind, m.frm, m.to, m.epoch, m.lease, xt, m.text, m.inputs⟩, _, rfl, rfl, ⟨m1, m2, m3⟩, by omega, by omega⟩
            · by_cases k6 : pickV l pos 8 = 6
              · refine x_spec_l2Spoil ?_
                conv => whnf
                refine g 0 0 [] ?_
                conv => whnf
                refine ⟨⟨⟨I, I, I, I, I, I, I, I, I⟩, I, I⟩, ?_⟩
                refine g 6 11 [] ?_
                conv => whnf
                refine ⟨⟨I, I, I, ⟨I, I, (by simp only [List.length_map, List.length_append, List.length_set, List.length_replicate, List.length_cons, List.length_nil, List.length_take, List.length_drop, fill_len, fillI_len, List.length_range, bytesT_len]; omega)⟩, I, ⟨I, I⟩, I⟩, ?_⟩
                refine W.sq ?_
                refine g 11 12 [.call (V.i (pickV l pos (8 : Int))) ([rdC l (pos + (1 : Int)), []])] ?_
                conv => whnf
                refine ⟨⟨I, ⟨⟨I, I, I⟩, I, ⟨I, ⟨I, I⟩, I⟩, ⟨I, I⟩, Go.K.c_spec_l1Rd_pick _ _ _ (by omega) (by omega) (by omega) (by omega)⟩, I⟩, ?_⟩
                refine W.blk ?_
                refine g 35 36 [] ?_
                conv => whnf
                refine ⟨⟨I, I, I⟩, ?_⟩
                refine W.cn ?_
                conv => whnf
                refine ⟨noT (decide_eq_false (by omega)), fun _ => ?_⟩
                refine g 34 35 [] ?_
                conv => whnf
                refine ⟨⟨I, I, I⟩, ?_⟩
                refine W.cn ?_
                conv => whnf
                refine ⟨noT (decide_eq_false (by omega)), fun _ => ?_⟩
                refine g 40 42 [] ?_
                conv => whnf
                refine ⟨⟨I, I, I⟩, ?_⟩
                refine W.cn ?_
                conv => whnf
                refine ⟨noT (decide_eq_false (by omega)), fun _ => ?_⟩
                refine g 46 48 [] ?_
                conv => whnf
                refine ⟨⟨I, I, I⟩, ?_⟩
                refine W.cn ?_
                conv => whnf
                refine ⟨noT (decide_eq_false (by omega)), fun _ => ?_⟩
                refine g 52 54 [] ?_
                conv => whnf
                refine ⟨⟨I, I, I⟩, ?_⟩
                refine W.cn ?_
                conv => whnf
                refine ⟨noT (decide_eq_false (by omega)), fun _ => ?_⟩
                refine g 60 62 [] ?_
                conv => whnf
                refine ⟨⟨I, I, I⟩, ?_⟩
                refine W.cn ?_
                conv => whnf
                refine ⟨noT (decide_eq_false (by omega)), fun _ => ?_⟩
                refine g 12 70 [] ?_
                conv => whnf
                refine ⟨⟨I, I, I⟩, ?_⟩
                refine W.cn ?_
                conv => whnf
                refine ⟨fun _ => ?_, noF (decide_eq_true (by omega))⟩
                refine rg [.call (V.s (sumT (decS (pickV l (pos + (1 : Int)) (50 : Int))))) ([rdC l (pos + (1 : Int) + (1 : Int))]), .call (V.i (pickV l (pos + (1 : Int) + (1 : Int)) (3 : Int))) ([rdC l (pos + (1 : Int) + (1 : Int) + (1 : Int)), []]), .n (Int.toNat (pickV l (pos + (1 : Int) + (1 : Int)) (3 : Int))), .x ([T.s xs])] ?_
                conv => whnf
                refine ⟨⟨I, ⟨⟨I, I⟩, I, ⟨I, I⟩, ⟨I, I⟩, Go.K.c_spec_l1Bytes _ _ (by omega) (by omega) (by omega)⟩, ⟨⟨I, I⟩, ⟨I, I⟩, ⟨I, I⟩, I⟩, I, ⟨⟨I, I, I⟩, I, ⟨I, ⟨I, I⟩, I⟩, ⟨I, I⟩, Go.K.c_spec_l1Rd_pick _ _ _ (by omega) (by omega) (by omega) (by omega)⟩, ⟨(by omega), (by simp only [List.length_map, List.length_append, List.length_set, List.length_replicate, List.length_cons, List.length_nil, List.length_take, List.length_drop, fill_len, fillI_len, List.length_range, bytesT_len]; omega)⟩, (by assumption), I, ⟨I, I⟩, I⟩, ?_⟩
                refine g 76 87 [] ?_
                conv => whnf
                refine ⟨⟨I, ⟨I, I, I, I, I, I, I, I, I⟩, I⟩, ?_⟩
                refine W.ret ?_
                refine EndsW.rt ?_
                conv => whnf
                refine ⟨⟨I, I, I, I, I, I, I, I, I, I⟩, ?_⟩
                exact ⟨⟨m.kind, m.frm, m.to, m.epoch, m.lease, m.task, xs, m.inputs⟩, _, rfl, rfl, ⟨m1, hxs, m3⟩, by omega, by omega⟩
              · refine x_spec_l2Spoil ?_
                conv => whnf
                refine g 0 0 [] ?_
                conv => whnf
                refine ⟨⟨⟨I, I, I, I, I, I, I, I, I⟩, I, I⟩, ?_⟩
                refine g 6 11 [] ?_
                conv => whnf
                refine ⟨⟨I, I, I, ⟨I, I, (by simp only [List.length_map, List.length_append, List.length_set, List.length_replicate, List.length_cons, List.length_nil, List.length_take, List.length_drop, fill_len, fillI_len, List.length_range, bytesT_len]; omega)⟩, I, ⟨I, I⟩, I⟩, ?_⟩
                refine W.sq ?_
                refine g 11 12 [.call (V.i (pickV l pos (8 : Int))) ([rdC l (pos + (1 : Int)), []])] ?_
                conv => whnf
                refine ⟨⟨I, ⟨⟨I, I, I⟩, I, ⟨I, ⟨I, I⟩, I⟩, ⟨I, I⟩, Go.K.c_spec_l1Rd_pick _ _ _ (by omega) (by omega) (by omega) (by omega)⟩, I⟩, ?_⟩
                refine W.blk ?_
                refine g 35 36 [] ?_
                conv => whnf
                refine ⟨⟨I, I, I⟩, ?_⟩
                refine W.cn ?_
                conv => whnf
                refine ⟨noT (decide_eq_false (by omega)), fun _ => ?_⟩
                refine g 34 35 [] ?_
                conv => whnf
                refine ⟨⟨I, I, I⟩, ?_⟩
                refine W.cn ?_
                conv => whnf
                refine ⟨noT (decide_eq_false (by omega)), fun _ => ?_⟩
                refine g 40 42 [] ?_
                conv => whnf
                refine ⟨⟨I, I, I⟩, ?_⟩
                refine W.cn ?_
                conv => whnf
                refine ⟨noT (decide_eq_false (by omega)), fun _ => ?_⟩
                refine g 46 48 [] ?_
                conv => whnf
                refine ⟨⟨I, I, I⟩, ?_⟩
                refine W.cn ?_
                conv => whnf
                refine ⟨noT (decide_eq_false (by omega)), fun _ => ?_⟩
                refine g 52 54 [] ?_
                conv => whnf
                refine ⟨⟨I, I, I⟩, ?_⟩
                refine W.cn ?_
                conv => whnf
                refine ⟨noT (decide_eq_false (by omega)), fun _ => ?_⟩
                refine g 60 62 [] ?_
                conv => whnf
                refine ⟨⟨I, I, I⟩, ?_⟩
                refine W.cn ?_
                conv => whnf
                refine ⟨noT (decide_eq_false (by omega)), fun _ => ?_⟩
                refine g 12 70 [] ?_
                conv => whnf
                refine ⟨⟨I, I, I⟩, ?_⟩
                refine W.cn ?_
                conv => whnf
                refine ⟨noT (decide_eq_false (by omega)), fun _ => ?_⟩
                refine g 13 78 [.call (V.i (pickV l (pos + (1 : Int)) (10 : Int))) ([rdC l (pos + (1 : Int) + (1 : Int)), []]), .i ((1 : Int) + pickV l (pos + (1 : Int)) (10 : Int))] ?_
                conv => whnf
                refine ⟨⟨I, ⟨⟨I, I, I⟩, I, ⟨I, ⟨I, I⟩, I⟩, ⟨I, I⟩, Go.K.c_spec_l1Rd_pick _ _ _ (by omega) (by omega) (by omega) (by omega)⟩, w64 (by omega) (by omega), I, I⟩, ?_⟩
                refine W.sq ?_
                refine W.blk ?_
                refine W.lp (fun s (x2 : List ByteArray × Int) => ⟨[(0, s.s 0), (3, s.s 3), (4, s.s 4), (5, s.s 5)], [(4, [s.c 4 0, s.c 4 1, s.c 4 2, s.c 4 3, s.c 4 4, s.c 4 5, s.c 4 6, s.c 4 7]), (87, [.t (u8s l), .t (.i x2.2)]), (3, [.t (.i m.kind), .t (.i m.frm), .t (.i m.to), .t (.i m.epoch), .t (.i m.lease), .t (.i m.task), .t (.s m.text), .own [false] (x2.1.map strT)])], []⟩) (fun (x2 : List ByteArray × Int) => x2.1.length ≤ 64 ∧ (∀ s ∈ x2.1, s.size ≤ 64) ∧ pos + 2 ≤ x2.2 ∧ x2.2 ≤ pos + 2 + x2.1.length ∧ (x2.2 = pos + 2 ∨ x2.1.length ≤ 10)) (fun (x2 : List ByteArray × Int) => 64 - x2.1.length) ((m.inputs, pos + 2)) [some 4, some 87, some 3] [] ⟨rfl, ⟨rfl, rfl, rfl, rfl, I⟩, ⟨⟨rfl, ⟨rfl, ⟨rfl, ⟨rfl, ⟨rfl, ⟨rfl, ⟨rfl, ⟨rfl, ⟨rfl, I⟩⟩⟩⟩⟩⟩⟩⟩⟩, ⟨⟨rfl, ⟨rfl, ⟨(congrArg (fun z => V.t (T.v (Value.int _ z))) (by show pos + 1 + 1 = pos + 2; omega)), I⟩⟩⟩, ⟨⟨rfl, ⟨rfl, ⟨rfl, ⟨rfl, ⟨rfl, ⟨rfl, ⟨rfl, ⟨rfl, ⟨rfl, I⟩⟩⟩⟩⟩⟩⟩⟩⟩, I⟩⟩⟩, I⟩ ?_ ?_
                · exact ⟨m1, m3, Int.le_refl _, by show pos + 2 ≤ pos + 2 + (m.inputs.length : Int); omega, .inl rfl⟩
                rintro ⟨ts, q⟩ ⟨i1, i2, i3, i4, i5⟩
                dsimp only at i1 i2 i3 i4 i5
                have r3 := pick_rng l q 3
                by_cases hlt : (ts.length : Int) < 1 + pickV l (pos + 1) 10
                · conv => whnf
                  refine W.sq ?_
                  refine g 16 20 [] ?_
                  conv => whnf
                  refine ⟨⟨I, I, I, I, I, I⟩, ?_⟩
                  refine W.cn ?_
                  conv => whnf
                  refine ⟨fun _ => ?_, noF (by simp [*])⟩
                  refine W.skip ?_
                  refine W.blk ?_
                  refine rgd [[], [], [], [.call (V.s (sumT (decS (pickV l q (50 : Int))))) ([rdC l (q + (1 : Int))])], [], [], [], []] ?_
                  conv => whnf
                  refine ⟨⟨I, I, I, ⟨⟨I, I⟩, I, ⟨I, I⟩, ⟨I, I⟩, Go.K.c_spec_l1Bytes _ _ (by omega) (by omega) (by omega)⟩, ⟨⟨I, I⟩, I⟩, ⟨I, I, (by simp only [List.length_map, List.length_append, List.length_set, List.length_replicate, List.length_cons, List.length_nil, List.length_take, List.length_drop, fill_len, fillI_len, List.length_range, bytesT_len]; omega)⟩, I, ⟨I, I⟩, I⟩, by kernel_rfl, ?_⟩
                  refine ⟨(ts ++ [sumT (decS (pickV l q 50))], q + 1), [some 4, some 87, some 3], [], ⟨rfl, ⟨rfl, rfl, rfl, rfl, I⟩, ⟨⟨rfl, ⟨rfl, ⟨rfl, ⟨rfl, ⟨rfl, ⟨rfl, ⟨rfl, ⟨rfl, ⟨rfl, I⟩⟩⟩⟩⟩⟩⟩⟩⟩, ⟨⟨rfl, ⟨rfl, ⟨rfl, I⟩⟩⟩, ⟨⟨rfl, ⟨rfl, ⟨rfl, ⟨rfl, ⟨rfl, ⟨rfl, ⟨rfl, ⟨rfl, ⟨(congrArg (V.own _) (one_str)), I⟩⟩⟩⟩⟩⟩⟩⟩⟩, I⟩⟩⟩, I⟩, ?_, ?_⟩
                  rotate_left 1
                  rotate_right 1
                  dsimp only
                  · exact ⟨by rw [len_one]; omega, app_str i2 (by rw [sumT_size]; omega), by omega, by rw [len_one]; omega, .inr (by rw [len_one]; omega)⟩
                  · show 64 - (ts ++ [_]).length < 64 - ts.length
                    rw [len_one]; omega
                · obtain ⟨t0, ht0⟩ := some_at (xs := ts) (n := 0) (by omega)
                  by_cases h3 : pickV l q 3 = 0
                  · conv => whnf
                    refine W.sq ?_
                    refine g 16 20 [] ?_
                    conv => whnf
                    refine ⟨⟨I, I, I, I, I, I⟩, ?_⟩
                    refine W.cn ?_
                    conv => whnf
                    refine ⟨noT (by simp [*]), fun _ => ?_⟩
                    refine W.exit ?_
                    refine g 5 30 [.call (V.i (pickV l q (3 : Int))) ([rdC l (q + (1 : Int)), []])] ?_
                    conv => whnf
                    refine ⟨⟨I, ⟨⟨I, I, I⟩, I, ⟨I, ⟨I, I⟩, I⟩, ⟨I, I⟩, Go.K.c_spec_l1Rd_pick _ _ _ (by omega) (by omega) (by omega) (by omega)⟩, I, I⟩, ?_⟩
                    refine W.cn ?_
                    conv => whnf
                    refine ⟨fun _ => ?_, noF (decide_eq_true (by omega))⟩
                    refine rg [.n ((0 : Nat)), .x (strT t0)] ?_
                    conv => whnf
                    refine ⟨⟨I, I, ⟨rfl, (by simp only [List.length_map, List.length_append, List.length_set, List.length_replicate, List.length_cons, List.length_nil, List.length_take, List.length_drop, fill_len, fillI_len, List.length_range, bytesT_len]; omega)⟩, ⟨⟨I, I⟩, ixl (by assumption)⟩, I⟩, ?_⟩
                    refine g 30 87 [] ?_
                    conv => whnf
                    refine ⟨⟨I, ⟨I, I, I, I, I, I, I, I, I⟩, I⟩, ?_⟩
                    refine W.ret ?_
                    refine EndsW.rt ?_
                    conv => whnf
                    refine ⟨⟨I, I, I, I, I, I, I, I, I, I⟩, ?_⟩
                    refine ⟨⟨m.kind, m.frm, m.to, m.epoch, m.lease, m.task, m.text, ts.set 0 ⟨#[120]⟩⟩, q + 1, ?_, rfl, ⟨by dsimp only; rw [List.length_set]; exact i1, m2, fun s hs => ?_⟩, by omega, by omega⟩
                    · have e : (ts.map strT).set 0 (strT ⟨#[120]⟩) = (ts.set 0 ⟨#[120]⟩).map strT := by rw [List.map_set]
                      exact congrArg (fun z => V.agg [V.i m.kind, V.i m.frm, V.i m.to, V.i m.epoch, V.i m.lease, V.i m.task, V.s m.text, V.own [false] z]) e
                    · rcases List.mem_or_eq_of_mem_set hs with hs | rfl
                      · exact i2 s hs
                      · show 1 ≤ 64; omega
                  · conv => whnf
                    refine W.sq ?_
                    refine g 16 20 [] ?_
                    conv => whnf
                    refine ⟨⟨I, I, I, I, I, I⟩, ?_⟩
                    refine W.cn ?_
                    conv => whnf
                    refine ⟨noT (by simp [*]), fun _ => ?_⟩
                    refine W.exit ?_
                    refine g 5 30 [.call (V.i (pickV l q (3 : Int))) ([rdC l (q + (1 : Int)), []])] ?_
                    conv => whnf
                    refine ⟨⟨I, ⟨⟨I, I, I⟩, I, ⟨I, ⟨I, I⟩, I⟩, ⟨I, I⟩, Go.K.c_spec_l1Rd_pick _ _ _ (by omega) (by omega) (by omega) (by omega)⟩, I, I⟩, ?_⟩
                    refine W.cn ?_
                    conv => whnf
                    refine ⟨noT (decide_eq_false (by omega)), fun _ => ?_⟩
                    refine W.skip ?_
                    refine g 0 4 [] ?_
                    conv => whnf
                    refine ⟨⟨I, ⟨I, I, I, I, I, I, I, I, I⟩, I⟩, ?_⟩
                    refine W.ret ?_
                    refine EndsW.rt ?_
                    conv => whnf
                    refine ⟨⟨I, I, I, I, I, I, I, I, I, I⟩, ?_⟩
                    exact ⟨⟨m.kind, m.frm, m.to, m.epoch, m.lease, m.task, m.text, ts⟩, q + 1, rfl, rfl, ⟨i1, m2, i2⟩, by omega, by omega⟩
theorem ex_MSpoil' (l : List Int) (pos : Int) (m : Message) (h : msgSmall m ∧ u8ok l ∧ 0 ≤ pos ∧ pos ≤ 1000000) : ∃ x : Message × Int, F n_spec_l2Spoil [.ptr (rdC l pos), .val (messageO m)] (messageO x.1) [rdC l x.2, []] ∧ msgSmall x.1 ∧ pos ≤ x.2 ∧ x.2 ≤ pos + 40 := by
  obtain ⟨res, outs, ⟨q, pos2, rfl, rfl, h1, h2, h3⟩, hF⟩ := ex_MSpoil l pos m h.1 h.2.1 h.2.2.1 h.2.2.2
  exact ⟨(q, pos2), hF, h1, h2, h3⟩
open Classical in
noncomputable def mspoilP (l : List Int) (pos : Int) (m : Message) : Message × Int := if h : msgSmall m ∧ u8ok l ∧ 0 ≤ pos ∧ pos ≤ 1000000 then (ex_MSpoil' l pos m h).choose else (noMessage, pos)
theorem c_spec_l2Spoil (l : List Int) (pos : Int) (m : Message) (hm : msgSmall m) (hl : u8ok l) (h0 : 0 ≤ pos) (h1 : pos ≤ 1000000) : F n_spec_l2Spoil [.ptr (rdC l pos), .val (messageO m)] (messageO (mspoilP l pos m).1) [rdC l (mspoilP l pos m).2, []] := by
  have h : msgSmall m ∧ u8ok l ∧ 0 ≤ pos ∧ pos ≤ 1000000 := ⟨hm, hl, h0, h1⟩
  rw [mspoilP, dif_pos h]
  exact (ex_MSpoil' l pos m h).choose_spec.1
theorem mspoil_ok (l : List Int) (pos : Int) (m : Message) : msgSmall (mspoilP l pos m).1 ∧ pos ≤ (mspoilP l pos m).2 ∧ (mspoilP l pos m).2 ≤ pos + 40 := by
  unfold mspoilP
  split
  · rename_i h; exact (ex_MSpoil' l pos m h).choose_spec.2
  · exact ⟨⟨Nat.zero_le _, Nat.zero_le 64, fun s hs => by cases hs⟩, Int.le_refl _, by dsimp only; omega⟩
end Go.K

end

section
set_option linter.unusedVariables false
set_option linter.unusedSimpArgs false
set_option maxHeartbeats 4000000
set_option maxRecDepth 20000
open Go Go.Tm Go.Proofs
namespace Go.K
attribute [local irreducible] ByteArray.extract
theorem ext_size {s : ByteArray} {a b : Nat} (h : b ≤ s.size) : (s.extract a b).size ≤ b - a := by rw [ByteArray.size_extract]; omega
theorem ex_Bend (l : List Int) (pos : Int) (s : ByteArray) (hs : s.size ≤ 1000000) (hl : u8ok l) (h0 : 0 ≤ pos) (h1 : pos ≤ 1000000) : ∃ res outs, (∃ t pos2, res = .s t ∧ outs = [rdC l pos2, []] ∧ t.size ≤ s.size + 8 ∧ pos ≤ pos2 ∧ pos2 ≤ pos + 3) ∧ F n_spec_l1Bend [.ptr (rdC l pos), .val (.s s)] res outs := by
  have r0 := pick_rng l pos ((s.size : Int) + 1)
  have r1 := pick_rng l (pos + 1) 4
  have r2 := pick_rng l (pos + 1 + 1) 6
  have r3 := pick_rng l (pos + 1 + 1) 256
  obtain ⟨i, hi⟩ := Int.eq_ofNat_of_zero_le r0.1
  have ck : F n_spec_l1Rd_pick [.ptr (rdC l pos), .val (.i ((s.size : Int) + 1))] (.i (i : Int)) [rdC l (pos + 1), []] := by
    have := c_spec_l1Rd_pick l pos ((s.size : Int) + 1) hl h0 (by omega) (by omega)
    rw [hi] at this; exact this
  have hil : i ≤ s.size := by omega
  obtain ⟨x, hx1, hx2⟩ := pick_str [⟨#[32]⟩, ⟨#[10]⟩, ⟨#[0]⟩, ⟨#[48]⟩, ⟨#[120]⟩, ⟨#[49, 50, 51, 52, 53, 54, 55, 56]⟩] (pickV l (pos + 1 + 1) 6) r2.1 (by show _ < (6 : Int); omega)
  have hx3 : ([[T.s ⟨#[32]⟩], [T.s ⟨#[10]⟩], [T.s ⟨#[0]⟩], [T.s ⟨#[48]⟩], [T.s ⟨#[120]⟩], [T.s ⟨#[49, 50, 51, 52, 53, 54, 55, 56]⟩]] : List (List T))[(pickV l (pos + 1 + 1) 6).toNat]? = some [T.s x] := hx2
  have hxs : x.size ≤ 8 := by
    have e1 : (⟨#[32]⟩ : ByteArray).size = 1 := rfl
    have e2 : (⟨#[10]⟩ : ByteArray).size = 1 := rfl
    have e3 : (⟨#[0]⟩ : ByteArray).size = 1 := rfl
    have e4 : (⟨#[48]⟩ : ByteArray).size = 1 := rfl
    have e5 : (⟨#[120]⟩ : ByteArray).size = 1 := rfl
    have e6 : (⟨#[49, 50, 51, 52, 53, 54, 55, 56]⟩ : ByteArray).size = 8 := rfl
    simp only [List.mem_cons, List.not_mem_nil, or_false] at hx1
    rcases hx1 with rfl | rfl | rfl | rfl | rfl | rfl <;> omega
  have q1 := ext_size (s := s) (a := 0) hil
  have q2 := ext_size (s := s) (a := i) (b := s.size) (Nat.le_refl _)
  have q3 := ext_size (s := s) (a := ((i : Int) + 1).toNat) (b := s.size) (Nat.le_refl _)
  have q5 : (⟨(bytesOf [[T.v (Value.int IntKind.u8 (pickV l (pos + 1 + 1) 256))]]).toArray⟩ : ByteArray).size = 1 := by
    have e : (⟨(bytesOf [[T.v (Value.int IntKind.u8 (pickV l (pos + 1 + 1) 256))]]).toArray⟩ : ByteArray) = bl [pickV l (pos + 1 + 1) 256] := bytes_b1 [pickV l (pos + 1 + 1) 256]
    rw [e, bl_size]; rfl
  have q6 : (s.extract 0 i ++ (⟨(bytesOf [[T.v (Value.int IntKind.u8 (pickV l (pos + 1 + 1) 256))]]).toArray⟩ : ByteArray)).size ≤ i + 1 := by rw [ByteArray.size_append, q5]; omega
  by_cases k0 : pickV l (pos + 1) 4 = 0
  · refine x_spec_l1Bend ?_
    conv => whnf
    refine g 0 0 [] ?_
    conv => whnf
    refine ⟨⟨I, I⟩, ?_⟩
    refine g 6 9 [.i ((↑(ByteArray.size s) : Int) + (1 : Int)), .call (V.i (↑i : Int)) ([rdC l (pos + (1 : Int)), []])] ?_
    conv => whnf
    refine ⟨⟨I, I, I, w64 (by omega) (by omega), ⟨⟨I, I, I⟩, I, ⟨I, ⟨I, I⟩, I⟩, ⟨I, I⟩, (by assumption)⟩, I, I⟩, ?_⟩
    refine W.sq ?_
    refine g 10 12 [.call (V.i (pickV l (pos + (1 : Int)) (4 : Int))) ([rdC l (pos + (1 : Int) + (1 : Int)), []])] ?_
    conv => whnf
    refine ⟨⟨I, ⟨⟨I, I, I⟩, I, ⟨I, ⟨I, I⟩, I⟩, ⟨I, I⟩, Go.K.c_spec_l1Rd_pick _ _ _ (by omega) (by omega) (by omega) (by omega)⟩, I⟩, ?_⟩
    refine W.blk ?_
    refine g 14 15 [] ?_
    conv => whnf
    refine ⟨⟨I, I, I⟩, ?_⟩
    refine W.cn ?_
    conv => whnf
    refine ⟨fun _ => ?_, noF (decide_eq_true (by omega))⟩
    refine g 12 18 [.n (i), .s (ByteArray.extract s (0 : Nat) i)] ?_
    conv => whnf
    refine ⟨⟨I, I, ⟨rfl, I, (by omega), (by assumption), rfl⟩, I, I⟩, ?_⟩
    refine W.ret ?_
    refine EndsW.rt ?_
    conv => whnf
    refine ⟨⟨I, I, I⟩, ?_⟩
    exact ⟨s.extract 0 i, _, rfl, rfl, by omega, by omega, by omega⟩
  · by_cases k1 : pickV l (pos + 1) 4 = 1
    · refine x_spec_l1Bend ?_
      conv => whnf
      refine g 0 0 [] ?_
      conv => whnf
      refine ⟨⟨I, I⟩, ?_⟩
      refine g 6 9 [.i ((↑(ByteArray.size s) : Int) + (1 : Int)), .call (V.i (↑i : Int)) ([rdC l (pos + (1 : Int)), []])] ?_
      conv => whnf
      refine ⟨⟨I, I, I, w64 (by omega) (by omega), ⟨⟨I, I, I⟩, I, ⟨I, ⟨I, I⟩, I⟩, ⟨I, I⟩, (by assumption)⟩, I, I⟩, ?_⟩
      refine W.sq ?_
      refine g 10 12 [.call (V.i (pickV l (pos + (1 : Int)) (4 : Int))) ([rdC l (pos + (1 : Int) + (1 : Int)), []])] ?_
      conv => whnf
      refine ⟨⟨I, ⟨⟨I, I, I⟩, I, ⟨I, ⟨I, I⟩, I⟩, ⟨I, I⟩, Go.K.c_spec_l1Rd_pick _ _ _ (by omega) (by omega) (by omega) (by omega)⟩, I⟩, ?_⟩
      refine W.blk ?_
      refine g 14 15 [] ?_
      conv => whnf
      refine ⟨⟨I, I, I⟩, ?_⟩
      refine W.cn ?_
      conv => whnf
      refine ⟨noT (decide_eq_false (by omega)), fun _ => ?_⟩
      refine g 13 14 [] ?_
      conv => whnf
      refine ⟨⟨I, I, I⟩, ?_⟩
      refine W.cn ?_
      conv => whnf
      refine ⟨fun _ => ?_, noF (decide_eq_true (by omega))⟩
      refine gd 12 33 [[], [], [.n (i), .s (ByteArray.extract s (0 : Nat) i)], [], [], [.call (V.i (pickV l (pos + (1 : Int) + (1 : Int)) (6 : Int))) ([rdC l (pos + (1 : Int) + (1 : Int) + (1 : Int)), []])], [.n (Int.toNat (pickV l (pos + (1 : Int) + (1 : Int)) (6 : Int)))], [.x ([T.s x])], [.s (ByteArray.extract s (0 : Nat) i ++ x)], [], [], [.n (i), .s (ByteArray.extract s i (ByteArray.size s))], [.s (ByteArray.extract s (0 : Nat) i ++ x ++ ByteArray.extract s i (ByteArray.size s))], []] ?_
      conv => whnf
      refine ⟨⟨I, I, ⟨rfl, I, (by omega), (by assumption), rfl⟩, ⟨⟨I, I⟩, ⟨I, I⟩, ⟨I, I⟩, ⟨I, I⟩, ⟨I, I⟩, ⟨I, I⟩, I⟩, I, ⟨⟨I, I, I⟩, I, ⟨I, ⟨I, I⟩, I⟩, ⟨I, I⟩, Go.K.c_spec_l1Rd_pick _ _ _ (by omega) (by omega) (by omega) (by omega)⟩, ⟨(by omega), (by simp only [List.length_map, List.length_append, List.length_set, List.length_replicate, List.length_cons, List.length_nil, List.length_take, List.length_drop, fill_len, fillI_len, List.length_range, bytesT_len]; omega)⟩, (by assumption), ⟨rfl, (by omega)⟩, I, I, ⟨I, rfl, (by assumption), (by omega), rfl⟩, ⟨rfl, (by simp only [bsz, ByteArray.size_append, List.length_map, List.length_append, List.length_set, List.length_replicate, List.length_cons, List.length_nil, List.length_take, List.length_drop, fill_len, fillI_len, List.length_range, bytesT_len]; omega)⟩, I, I⟩, by kernel_rfl, ?_⟩
      refine W.ret ?_
      refine EndsW.rt ?_
      conv => whnf
      refine ⟨⟨I, I, I⟩, ?_⟩
      exact ⟨s.extract 0 i ++ x ++ s.extract i s.size, _, rfl, rfl, by rw [ByteArray.size_append, ByteArray.size_append]; omega, by omega, by omega⟩
    · by_cases hlt : i < s.size
      · by_cases k2 : pickV l (pos + 1) 4 = 2
        · refine x_spec_l1Bend ?_
          conv => whnf
          refine g 0 0 [] ?_
          conv => whnf
          refine ⟨⟨I, I⟩, ?_⟩
          refine g 6 9 [.i ((↑(ByteArray.size s) : Int) + (1 : Int)), .call (V.i (↑i : Int)) ([rdC l (pos + (1 : Int)), []])] ?_
          conv => whnf
          refine ⟨⟨I, I, I, w64 (by omega) (by omega), ⟨⟨I, I, I⟩, I, ⟨I, ⟨I, I⟩, I⟩, ⟨I, I⟩, (by assumption)⟩, I, I⟩, ?_⟩
          refine W.sq ?_
          refine g 10 12 [.call (V.i (pickV l (pos + (1 : Int)) (4 : Int))) ([rdC l (pos + (1 : Int) + (1 : Int)), []])] ?_
          conv => whnf
          refine ⟨⟨I, ⟨⟨I, I, I⟩, I, ⟨I, ⟨I, I⟩, I⟩, ⟨I, I⟩, Go.K.c_spec_l1Rd_pick _ _ _ (by omega) (by omega) (by omega) (by omega)⟩, I⟩, ?_⟩
          refine W.blk ?_
          refine g 14 15 [] ?_
          conv => whnf
          refine ⟨⟨I, I, I⟩, ?_⟩
          refine W.cn ?_
          conv => whnf
          refine ⟨noT (decide_eq_false (by omega)), fun _ => ?_⟩
          refine g 13 14 [] ?_
          conv => whnf
          refine ⟨⟨I, I, I⟩, ?_⟩
          refine W.cn ?_
          conv => whnf
          refine ⟨noT (decide_eq_false (by omega)), fun _ => ?_⟩
          refine g 12 20 [] ?_
          conv => whnf
          refine ⟨⟨I, I, I⟩, ?_⟩
          refine W.cn ?_
          conv => whnf
          refine ⟨fun _ => ?_, noF (decide_eq_true (by omega))⟩
          refine g 33 38 [] ?_
          conv => whnf
          refine ⟨⟨I, I, I, I, I⟩, ?_⟩
          refine W.cn ?_
          conv => whnf
          refine ⟨fun _ => ?_, noF (decide_eq_true (by omega))⟩
          refine gd 38 47 [[], [], [.n (i), .s (ByteArray.extract s (0 : Nat) i)], [], [], [.i ((↑i : Int) + (1 : Int))], [.n (Int.toNat ((↑i : Int) + (1 : Int))), .s (ByteArray.extract s (Int.toNat ((↑i : Int) + (1 : Int))) (ByteArray.size s))], [.s (ByteArray.extract s (0 : Nat) i ++ ByteArray.extract s (Int.toNat ((↑i : Int) + (1 : Int))) (ByteArray.size s))], []] ?_
          conv => whnf
          refine ⟨⟨I, I, ⟨rfl, I, (by omega), (by assumption), rfl⟩, I, I, w64 (by omega) (by omega), ⟨I, (by omega), (by assumption), (by omega), rfl⟩, ⟨rfl, (by omega)⟩, I, I⟩, by kernel_rfl, ?_⟩
          refine W.ret ?_
          refine EndsW.rt ?_
          conv => whnf
          refine ⟨⟨I, I, I⟩, ?_⟩
          exact ⟨s.extract 0 i ++ s.extract ((i : Int) + 1).toNat s.size, _, rfl, rfl, by rw [ByteArray.size_append]; omega, by omega, by omega⟩
        · refine x_spec_l1Bend ?_
          conv => whnf
          refine g 0 0 [] ?_
          conv => whnf
          refine ⟨⟨I, I⟩, ?_⟩
          refine g 6 9 [.i ((↑(ByteArray.size s) : Int) + (1 : Int)), .call (V.i (↑i : Int)) ([rdC l (pos + (1 : Int)), []])] ?_
          conv => whnf
          refine ⟨⟨I, I, I, w64 (by omega) (by omega), ⟨⟨I, I, I⟩, I, ⟨I, ⟨I, I⟩, I⟩, ⟨I, I⟩, (by assumption)⟩, I, I⟩, ?_⟩
          refine W.sq ?_
          refine g 10 12 [.call (V.i (pickV l (pos + (1 : Int)) (4 : Int))) ([rdC l (pos + (1 : Int) + (1 : Int)), []])] ?_
          conv => whnf
          refine ⟨⟨I, ⟨⟨I, I, I⟩, I, ⟨I, ⟨I, I⟩, I⟩, ⟨I, I⟩, Go.K.c_spec_l1Rd_pick _ _ _ (by omega) (by omega) (by omega) (by omega)⟩, I⟩, ?_⟩
          refine W.blk ?_
          refine g 14 15 [] ?_
          conv => whnf
          refine ⟨⟨I, I, I⟩, ?_⟩
          refine W.cn ?_
          conv => whnf
          refine ⟨noT (decide_eq_false (by omega)), fun _ => ?_⟩
          refine g 13 14 [] ?_
          conv => whnf
          refine ⟨⟨I, I, I⟩, ?_⟩
          refine W.cn ?_
          conv => whnf
          refine ⟨noT (decide_eq_false (by omega)), fun _ => ?_⟩
          refine g 12 20 [] ?_
          conv => whnf
          refine ⟨⟨I, I, I⟩, ?_⟩
          refine W.cn ?_
          conv => whnf
          refine ⟨noT (decide_eq_false (by omega)), fun _ => ?_⟩
          refine W.skip ?_
          refine W.sq ?_
          refine g 33 50 [] ?_
          conv => whnf
          refine ⟨⟨I, I, I, I, I⟩, ?_⟩
          refine W.cn ?_
          conv => whnf
          refine ⟨fun _ => ?_, noF (decide_eq_true (by omega))⟩
          refine gd 50 65 [[], [], [.n (i), .s (ByteArray.extract s (0 : Nat) i)], [], [.call (V.i (pickV l (pos + (1 : Int) + (1 : Int)) (256 : Int))) ([rdC l (pos + (1 : Int) + (1 : Int) + (1 : Int)), []])], [.i (pickV l (pos + (1 : Int) + (1 : Int)) (256 : Int))], [], [.s ({ data := List.toArray (bytesOf [[T.v (Value.int IntKind.u8 (pickV l (pos + (1 : Int) + (1 : Int)) (256 : Int)))]]) : ByteArray })], [.s (ByteArray.extract s (0 : Nat) i ++ { data := List.toArray (bytesOf [[T.v (Value.int IntKind.u8 (pickV l (pos + (1 : Int) + (1 : Int)) (256 : Int)))]]) : ByteArray })], [], [], [.i ((↑i : Int) + (1 : Int))], [.n (Int.toNat ((↑i : Int) + (1 : Int))), .s (ByteArray.extract s (Int.toNat ((↑i : Int) + (1 : Int))) (ByteArray.size s))], [.s (ByteArray.extract s (0 : Nat) i ++ { data := List.toArray (bytesOf [[T.v (Value.int IntKind.u8 (pickV l (pos + (1 : Int) + (1 : Int)) (256 : Int)))]]) : ByteArray } ++ ByteArray.extract s (Int.toNat ((↑i : Int) + (1 : Int))) (ByteArray.size s))], []] ?_
          conv => whnf
          refine ⟨⟨I, I, ⟨rfl, I, (by omega), (by assumption), rfl⟩, I, ⟨⟨I, I, I⟩, I, ⟨I, ⟨I, I⟩, I⟩, ⟨I, I⟩, Go.K.c_spec_l1Rd_pick _ _ _ (by omega) (by omega) (by omega) (by omega)⟩, wu8 (by omega) (by omega), ⟨⟨I, I⟩, I⟩, ⟨I, (by repeat (first | exact allU8_nil | refine allU8_cons ?_)), rfl⟩, ⟨rfl, (by omega)⟩, I, I, w64 (by omega) (by omega), ⟨I, (by omega), (by assumption), (by omega), rfl⟩, ⟨rfl, (by omega)⟩, I, I⟩, by kernel_rfl, ?_⟩
          refine W.ret ?_
          refine EndsW.rt ?_
          conv => whnf
          refine ⟨⟨I, I, I⟩, ?_⟩
          exact ⟨s.extract 0 i ++ bl [pickV l (pos + 1 + 1) 256] ++ s.extract ((i : Int) + 1).toNat s.size, _, congrArg (fun z => V.s (s.extract 0 i ++ z ++ s.extract ((i : Int) + 1).toNat s.size)) (bytes_b1 [pickV l (pos + 1 + 1) 256]), rfl, by rw [ByteArray.size_append, ByteArray.size_append, bl_size]; show _ + 1 + _ ≤ _; omega, by omega, by omega⟩
      · by_cases k2 : pickV l (pos + 1) 4 = 2
        · refine x_spec_l1Bend ?_
          conv => whnf
          refine g 0 0 [] ?_
          conv => whnf
          refine ⟨⟨I, I⟩, ?_⟩
          refine g 6 9 [.i ((↑(ByteArray.size s) : Int) + (1 : Int)), .call (V.i (↑i : Int)) ([rdC l (pos + (1 : Int)), []])] ?_
          conv => whnf
          refine ⟨⟨I, I, I, w64 (by omega) (by omega), ⟨⟨I, I, I⟩, I, ⟨I, ⟨I, I⟩, I⟩, ⟨I, I⟩, (by assumption)⟩, I, I⟩, ?_⟩
          refine W.sq ?_
          refine g 10 12 [.call (V.i (pickV l (pos + (1 : Int)) (4 : Int))) ([rdC l (pos + (1 : Int) + (1 : Int)), []])] ?_
          conv => whnf
          refine ⟨⟨I, ⟨⟨I, I, I⟩, I, ⟨I, ⟨I, I⟩, I⟩, ⟨I, I⟩, Go.K.c_spec_l1Rd_pick _ _ _ (by omega) (by omega) (by omega) (by omega)⟩, I⟩, ?_⟩
          refine W.blk ?_
          refine g 14 15 [] ?_
          conv => whnf
          refine ⟨⟨I, I, I⟩, ?_⟩
          refine W.cn ?_
          conv => whnf
          refine ⟨noT (decide_eq_false (by omega)), fun _ => ?_⟩
          refine g 13 14 [] ?_
          conv => whnf
          refine ⟨⟨I, I, I⟩, ?_⟩
          refine W.cn ?_
          conv => whnf
          refine ⟨noT (decide_eq_false (by omega)), fun _ => ?_⟩
          refine g 12 20 [] ?_
          conv => whnf
          refine ⟨⟨I, I, I⟩, ?_⟩
          refine W.cn ?_
          conv => whnf
          refine ⟨fun _ => ?_, noF (decide_eq_true (by omega))⟩
          refine g 33 38 [] ?_
          conv => whnf
          refine ⟨⟨I, I, I, I, I⟩, ?_⟩
          refine W.cn ?_
          conv => whnf
          refine ⟨noT (decide_eq_false (by omega)), fun _ => ?_⟩
          refine W.skip ?_
          refine W.sq ?_
          refine g 38 50 [] ?_
          conv => whnf
          refine ⟨⟨I, I, I, I, I⟩, ?_⟩
          refine W.cn ?_
          conv => whnf
          refine ⟨noT (by assumption), fun _ => ?_⟩
          refine W.skip ?_
          refine g 0 2 [] ?_
          conv => whnf
          refine ⟨⟨I, I, I⟩, ?_⟩
          refine W.ret ?_
          refine EndsW.rt ?_
          conv => whnf
          refine ⟨⟨I, I, I⟩, ?_⟩
          exact ⟨s, _, rfl, rfl, by omega, by omega, by omega⟩
        · refine x_spec_l1Bend ?_
          conv => whnf
          refine g 0 0 [] ?_
          conv => whnf
          refine ⟨⟨I, I⟩, ?_⟩
          refine g 6 9 [.i ((↑(ByteArray.size s) : Int) + (1 : Int)), .call (V.i (↑i : Int)) ([rdC l (pos + (1 : Int)), []])] ?_
          conv => whnf
          refine ⟨⟨I, I, I, w64 (by omega) (by omega), ⟨⟨I, I, I⟩, I, ⟨I, ⟨I, I⟩, I⟩, ⟨I, I⟩, (by assumption)⟩, I, I⟩, ?_⟩
          refine W.sq ?_
          refine g 10 12 [.call (V.i (pickV l (pos + (1 : Int)) (4 : Int))) ([rdC l (pos + (1 : Int) + (1 : Int)), []])] ?_
          conv => whnf
          refine ⟨⟨I, ⟨⟨I, I, I⟩, I, ⟨I, ⟨I, I⟩, I⟩, ⟨I, I⟩, Go.K.c_spec_l1Rd_pick _ _ _ (by omega) (by omega) (by omega) (by omega)⟩, I⟩, ?_⟩
          refine W.blk ?_
          refine g 14 15 [] ?_
          conv => whnf
          refine ⟨⟨I, I, I⟩, ?_⟩
          refine W.cn ?_
          conv => whnf
          refine ⟨noT (decide_eq_false (by omega)), fun _ => ?_⟩
          refine g 13 14 [] ?_
          conv => whnf
          refine ⟨⟨I, I, I⟩, ?_⟩
          refine W.cn ?_
          conv => whnf
          refine ⟨noT (decide_eq_false (by omega)), fun _ => ?_⟩
          refine g 12 20 [] ?_
          conv => whnf
          refine ⟨⟨I, I, I⟩, ?_⟩
          refine W.cn ?_
          conv => whnf
          refine ⟨noT (decide_eq_false (by omega)), fun _ => ?_⟩
          refine W.skip ?_
          refine W.sq ?_
          refine g 33 50 [] ?_
          conv => whnf
          refine ⟨⟨I, I, I, I, I⟩, ?_⟩
          refine W.cn ?_
          conv => whnf
          refine ⟨noT (decide_eq_false (by omega)), fun _ => ?_⟩
          refine W.skip ?_
          refine g 0 2 [] ?_
          conv => whnf
          refine ⟨⟨I, I, I⟩, ?_⟩
          refine W.ret ?_
          refine EndsW.rt ?_
          conv => whnf
          refine ⟨⟨I, I, I⟩, ?_⟩
          exact ⟨s, _, rfl, rfl, by omega, by omega, by omega⟩
theorem ex_Bend' (l : List Int) (pos : Int) (s : ByteArray) (h : s.size ≤ 1000000 ∧ u8ok l ∧ 0 ≤ pos ∧ pos ≤ 1000000) : ∃ x : ByteArray × Int, F n_spec_l1Bend [.ptr (rdC l pos), .val (.s s)] (.s x.1) [rdC l x.2, []] ∧ x.1.size ≤ s.size + 8 ∧ pos ≤ x.2 ∧ x.2 ≤ pos + 3 := by
  obtain ⟨res, outs, ⟨q, pos2, rfl, rfl, h1, h2, h3⟩, hF⟩ := ex_Bend l pos s h.1 h.2.1 h.2.2.1 h.2.2.2
  exact ⟨(q, pos2), hF, h1, h2, h3⟩
open Classical in
noncomputable def bendP (l : List Int) (pos : Int) (s : ByteArray) : ByteArray × Int := if h : s.size ≤ 1000000 ∧ u8ok l ∧ 0 ≤ pos ∧ pos ≤ 1000000 then (ex_Bend' l pos s h).choose else (s, pos)
theorem c_spec_l1Bend (l : List Int) (pos : Int) (s : ByteArray) (hs : s.size ≤ 1000000) (hl : u8ok l) (h0 : 0 ≤ pos) (h1 : pos ≤ 1000000) : F n_spec_l1Bend [.ptr (rdC l pos), .val (.s s)] (.s (bendP l pos s).1) [rdC l (bendP l pos s).2, []] := by
  have h : s.size ≤ 1000000 ∧ u8ok l ∧ 0 ≤ pos ∧ pos ≤ 1000000 := ⟨hs, hl, h0, h1⟩
  rw [bendP, dif_pos h]
  exact (ex_Bend' l pos s h).choose_spec.1
theorem bend_ok (l : List Int) (pos : Int) (s : ByteArray) : (bendP l pos s).1.size ≤ s.size + 8 ∧ pos ≤ (bendP l pos s).2 ∧ (bendP l pos s).2 ≤ pos + 3 := by
  unfold bendP
  split
  · rename_i h; exact (ex_Bend' l pos s h).choose_spec.2
  · exact ⟨by dsimp only; omega, Int.le_refl _, by dsimp only; omega⟩
end Go.K

end

section
set_option linter.unusedVariables false
set_option linter.unusedSimpArgs false
set_option maxHeartbeats 4000000
set_option maxRecDepth 20000
open Go Go.Tm Go.Proofs
namespace Go.K
theorem u8_take {l : List Int} (h8 : ∀ x ∈ l, 0 ≤ x ∧ x ≤ 255) : u8ok (l.take 2000) := ⟨by rw [List.length_take]; omega, fun x hx => h8 x (List.mem_of_mem_take hx)⟩
theorem ex_DrawFM (l : List Int) (hlen : l.length ≤ 1048576) (h8 : ∀ x ∈ l, 0 ≤ x ∧ x ≤ 255) : ∃ res outs, (∃ m key, res = .tup [messageO m, .s key] ∧ outs = [[]] ∧ msgSmall m ∧ key.size ≤ 4096) ∧ F n_spec_DrawFormMessage [.val (.t (u8s l))] res outs := by
  have hu := u8_take h8
  obtain ⟨⟨d1, d1b⟩, d2, d3⟩ := mdraw_ok (l.take 2000) 0
  have p3 := pick_rng (l.take 2000) (mdrawP (l.take 2000) 0).2 3
  obtain ⟨s1, s2, s3⟩ := mspoil_ok (l.take 2000) ((mdrawP (l.take 2000) 0).2 + 1) (mdrawP (l.take 2000) 0).1
  by_cases h3 : pickV (l.take 2000) (mdrawP (l.take 2000) 0).2 3 = 0
  · skip
    have p2 := pick_rng (l.take 2000) ((mspoilP (l.take 2000) ((mdrawP (l.take 2000) 0).2 + 1) (mdrawP (l.take 2000) 0).1).2) 2
    have p4 := pick_rng (l.take 2000) ((mspoilP (l.take 2000) ((mdrawP (l.take 2000) 0).2 + 1) (mdrawP (l.take 2000) 0).1).2 + 1) 4
    have hm := many_size ⟨#[107]⟩ (30 + pickV (l.take 2000) ((mspoilP (l.take 2000) ((mdrawP (l.take 2000) 0).2 + 1) (mdrawP (l.take 2000) 0).1).2) 2)
    obtain ⟨x, hx1, hx2⟩ := pick_str [⟨#[107]⟩, ⟨#[]⟩, ⟨#[111, 116, 104, 101, 114]⟩, manyS ⟨#[107]⟩ (30 + pickV (l.take 2000) ((mspoilP (l.take 2000) ((mdrawP (l.take 2000) 0).2 + 1) (mdrawP (l.take 2000) 0).1).2) 2)] (pickV (l.take 2000) ((mspoilP (l.take 2000) ((mdrawP (l.take 2000) 0).2 + 1) (mdrawP (l.take 2000) 0).1).2 + 1) 4) p4.1 (by show _ < (4 : Int); omega)
    have hx3 : ([[T.s ⟨#[107]⟩], [T.s ⟨#[]⟩], [T.s ⟨#[111, 116, 104, 101, 114]⟩], [T.s (manyS ⟨#[107]⟩ (30 + pickV (l.take 2000) ((mspoilP (l.take 2000) ((mdrawP (l.take 2000) 0).2 + 1) (mdrawP (l.take 2000) 0).1).2) 2))]] : List (List T))[(pickV (l.take 2000) ((mspoilP (l.take 2000) ((mdrawP (l.take 2000) 0).2 + 1) (mdrawP (l.take 2000) 0).1).2 + 1) 4).toNat]? = some [T.s x] := hx2
    have hxs : x.size ≤ 4096 := by
      have e1 : (⟨#[107]⟩ : ByteArray).size = 1 := rfl
      have e2 : (⟨#[]⟩ : ByteArray).size = 0 := rfl
      have e3 : (⟨#[111, 116, 104, 101, 114]⟩ : ByteArray).size = 5 := rfl
      simp only [List.mem_cons, List.not_mem_nil, or_false] at hx1
      rcases hx1 with rfl | rfl | rfl | rfl <;> omega
    refine x_spec_DrawFormMessage ?_
    conv => whnf
    refine g 0 0 [] ?_
    conv => whnf
    refine ⟨⟨I, I, I⟩, ?_⟩
    refine g 6 8 [.call (V.tup [V.tup (rdC (List.take (2000 : Nat) l) (0 : Int))]) ([[]])] ?_
    conv => whnf
    refine ⟨⟨I, ⟨⟨I, I⟩, I, ⟨⟨I, I⟩, I⟩, ⟨I, I⟩, Go.K.c_spec_l1Open _ (by omega)⟩, I, I⟩, ?_⟩
    refine g 8 9 [.call (messageO (Prod.fst (mdrawP (List.take (2000 : Nat) l) (0 : Int)))) ([rdC (List.take (2000 : Nat) l) (Prod.snd (mdrawP (List.take (2000 : Nat) l) (0 : Int)))])] ?_
    conv => whnf
    refine ⟨⟨I, ⟨⟨I, I⟩, I, ⟨I, I⟩, ⟨I, I⟩, Go.K.c_spec_l2Draw _ _ (by omega) (by omega) (by omega)⟩, I, ⟨I, I, I, I, I, I, I, I, I⟩, I⟩, ?_⟩
    refine W.sq ?_
    refine g 10 12 [.call (V.i (pickV (List.take (2000 : Nat) l) (Prod.snd (mdrawP (List.take (2000 : Nat) l) (0 : Int))) (3 : Int))) ([rdC (List.take (2000 : Nat) l) (Prod.snd (mdrawP (List.take (2000 : Nat) l) (0 : Int)) + (1 : Int)), []])] ?_
    conv => whnf
    refine ⟨⟨I, ⟨⟨I, I, I⟩, I, ⟨I, ⟨I, I⟩, I⟩, ⟨I, I⟩, Go.K.c_spec_l1Rd_pick _ _ _ (by omega) (by omega) (by omega) (by omega)⟩, I, I⟩, ?_⟩
    refine W.cn ?_
    conv => whnf
    refine ⟨fun _ => ?_, noF (decide_eq_true (by omega))⟩
    refine rg [.call (messageO (Prod.fst (mspoilP (List.take (2000 : Nat) l) (Prod.snd (mdrawP (List.take (2000 : Nat) l) (0 : Int)) + (1 : Int)) (Prod.fst (mdrawP (List.take (2000 : Nat) l) (0 : Int)))))) ([rdC (List.take (2000 : Nat) l) (Prod.snd (mspoilP (List.take (2000 : Nat) l) (Prod.snd (mdrawP (List.take (2000 : Nat) l) (0 : Int)) + (1 : Int)) (Prod.fst (mdrawP (List.take (2000 : Nat) l) (0 : Int))))), []])] ?_
    conv => whnf
    refine ⟨⟨I, I, ⟨⟨I, ⟨I, I, I, I, I, I, I, I, I⟩, I⟩, I, ⟨I, I, I⟩, ⟨I, I⟩, Go.K.c_spec_l2Spoil _ _ _ (by omega) (by omega) (by omega) (by omega)⟩, ⟨I, I, I, I, I, I, I, I, I⟩, I⟩, ?_⟩
    refine gd 12 26 [[], [], [.call (V.i (pickV (List.take (2000 : Nat) l) (Prod.snd (mspoilP (List.take (2000 : Nat) l) (Prod.snd (mdrawP (List.take (2000 : Nat) l) (0 : Int)) + (1 : Int)) (Prod.fst (mdrawP (List.take (2000 : Nat) l) (0 : Int))))) (2 : Int))) ([rdC (List.take (2000 : Nat) l) (Prod.snd (mspoilP (List.take (2000 : Nat) l) (Prod.snd (mdrawP (List.take (2000 : Nat) l) (0 : Int)) + (1 : Int)) (Prod.fst (mdrawP (List.take (2000 : Nat) l) (0 : Int)))) + (1 : Int)), []])], [.i ((30 : Int) + pickV (List.take (2000 : Nat) l) (Prod.snd (mspoilP (List.take (2000 : Nat) l) (Prod.snd (mdrawP (List.take (2000 : Nat) l) (0 : Int)) + (1 : Int)) (Prod.fst (mdrawP (List.take (2000 : Nat) l) (0 : Int))))) (2 : Int))], [.call (V.s (manyS { data := #[(107 : UInt8)] : ByteArray } ((30 : Int) + pickV (List.take (2000 : Nat) l) (Prod.snd (mspoilP (List.take (2000 : Nat) l) (Prod.snd (mdrawP (List.take (2000 : Nat) l) (0 : Int)) + (1 : Int)) (Prod.fst (mdrawP (List.take (2000 : Nat) l) (0 : Int))))) (2 : Int)))) ([[], []])], [], [], [.call (V.i (pickV (List.take (2000 : Nat) l) (Prod.snd (mspoilP (List.take (2000 : Nat) l) (Prod.snd (mdrawP (List.take (2000 : Nat) l) (0 : Int)) + (1 : Int)) (Prod.fst (mdrawP (List.take (2000 : Nat) l) (0 : Int)))) + (1 : Int)) (4 : Int))) ([rdC (List.take (2000 : Nat) l) (Prod.snd (mspoilP (List.take (2000 : Nat) l) (Prod.snd (mdrawP (List.take (2000 : Nat) l) (0 : Int)) + (1 : Int)) (Prod.fst (mdrawP (List.take (2000 : Nat) l) (0 : Int)))) + (1 : Int) + (1 : Int)), []])], [.n (Int.toNat (pickV (List.take (2000 : Nat) l) (Prod.snd (mspoilP (List.take (2000 : Nat) l) (Prod.snd (mdrawP (List.take (2000 : Nat) l) (0 : Int)) + (1 : Int)) (Prod.fst (mdrawP (List.take (2000 : Nat) l) (0 : Int)))) + (1 : Int)) (4 : Int)))], [.x ([T.s x])], [], []] ?_
    conv => whnf
    refine ⟨⟨I, I, ⟨⟨I, I, I⟩, I, ⟨I, ⟨I, I⟩, I⟩, ⟨I, I⟩, Go.K.c_spec_l1Rd_pick _ _ _ (by omega) (by omega) (by omega) (by omega)⟩, w64 (by omega) (by omega), ⟨⟨I, I, I⟩, I, ⟨⟨I, I⟩, ⟨I, I⟩, I⟩, ⟨I, I⟩, Go.K.c_spec_l1Many _ _ (by first | omega | decide | assumption | (simp only [ByteArray.size_extract, List.length_map]; omega) | simp [*]) (by first | omega | decide | assumption | (simp only [ByteArray.size_extract, List.length_map]; omega) | simp [*]) (by first | omega | decide | assumption | (simp only [ByteArray.size_extract, List.length_map]; omega) | simp [*])⟩, ⟨⟨I, I⟩, ⟨I, I⟩, ⟨I, I⟩, ⟨I, I⟩, I⟩, I, ⟨⟨I, I, I⟩, I, ⟨I, ⟨I, I⟩, I⟩, ⟨I, I⟩, Go.K.c_spec_l1Rd_pick _ _ _ (by omega) (by omega) (by omega) (by omega)⟩, ⟨(by omega), (by simp only [List.length_map, List.length_append, List.length_set, List.length_replicate, List.length_cons, List.length_nil, List.length_take, List.length_drop, fill_len, fillI_len, List.length_range, bytesT_len]; omega)⟩, (by assumption), ⟨I, I, I, I, I, I, I, I, I⟩, I, I⟩, by kernel_rfl, ?_⟩
    refine W.ret ?_
    refine EndsW.rt ?_
    conv => whnf
    refine ⟨⟨I, ⟨I, I, I, I, I, I, I, I, I⟩, I, ⟨I, I⟩, I⟩, ?_⟩
    exact ⟨(mspoilP (l.take 2000) ((mdrawP (l.take 2000) 0).2 + 1) (mdrawP (l.take 2000) 0).1).1, x, rfl, rfl, s1, hxs⟩
  · skip
    have p2 := pick_rng (l.take 2000) ((mdrawP (l.take 2000) 0).2 + 1) 2
    have p4 := pick_rng (l.take 2000) ((mdrawP (l.take 2000) 0).2 + 1 + 1) 4
    have hm := many_size ⟨#[107]⟩ (30 + pickV (l.take 2000) ((mdrawP (l.take 2000) 0).2 + 1) 2)
    obtain ⟨x, hx1, hx2⟩ := pick_str [⟨#[107]⟩, ⟨#[]⟩, ⟨#[111, 116, 104, 101, 114]⟩, manyS ⟨#[107]⟩ (30 + pickV (l.take 2000) ((mdrawP (l.take 2000) 0).2 + 1) 2)] (pickV (l.take 2000) ((mdrawP (l.take 2000) 0).2 + 1 + 1) 4) p4.1 (by show _ < (4 : Int); omega)
    have hx3 : ([[T.s ⟨#[107]⟩], [T.s ⟨#[]⟩], [T.s ⟨#[111, 116, 104, 101, 114]⟩], [T.s (manyS ⟨#[107]⟩ (30 + pickV (l.take 2000) ((mdrawP (l.take 2000) 0).2 + 1) 2))]] : List (List T))[(pickV (l.take 2000) ((mdrawP (l.take 2000) 0).2 + 1 + 1) 4).toNat]? = some [T.s x] := hx2
    have hxs : x.size ≤ 4096 := by
      have e1 : (⟨#[107]⟩ : ByteArray).size = 1 := rfl
      have e2 : (⟨#[]⟩ : ByteArray).size = 0 := rfl
      have e3 : (⟨#[111, 116, 104, 101, 114]⟩ : ByteArray).size = 5 := rfl
      simp only [List.mem_cons, List.not_mem_nil, or_false] at hx1
      rcases hx1 with rfl | rfl | rfl | rfl <;> omega
    refine x_spec_DrawFormMessage ?_
    conv => whnf
    refine g 0 0 [] ?_
    conv => whnf
    refine ⟨⟨I, I, I⟩, ?_⟩
    refine g 6 8 [.call (V.tup [V.tup (rdC (List.take (2000 : Nat) l) (0 : Int))]) ([[]])] ?_
    conv => whnf
    refine ⟨⟨I, ⟨⟨I, I⟩, I, ⟨⟨I, I⟩, I⟩, ⟨I, I⟩, Go.K.c_spec_l1Open _ (by omega)⟩, I, I⟩, ?_⟩
    refine g 8 9 [.call (messageO (Prod.fst (mdrawP (List.take (2000 : Nat) l) (0 : Int)))) ([rdC (List.take (2000 : Nat) l) (Prod.snd (mdrawP (List.take (2000 : Nat) l) (0 : Int)))])] ?_
    conv => whnf
    refine ⟨⟨I, ⟨⟨I, I⟩, I, ⟨I, I⟩, ⟨I, I⟩, Go.K.c_spec_l2Draw _ _ (by omega) (by omega) (by omega)⟩, I, ⟨I, I, I, I, I, I, I, I, I⟩, I⟩, ?_⟩
    refine W.sq ?_
    refine g 10 12 [.call (V.i (pickV (List.take (2000 : Nat) l) (Prod.snd (mdrawP (List.take (2000 : Nat) l) (0 : Int))) (3 : Int))) ([rdC (List.take (2000 : Nat) l) (Prod.snd (mdrawP (List.take (2000 : Nat) l) (0 : Int)) + (1 : Int)), []])] ?_
    conv => whnf
    refine ⟨⟨I, ⟨⟨I, I, I⟩, I, ⟨I, ⟨I, I⟩, I⟩, ⟨I, I⟩, Go.K.c_spec_l1Rd_pick _ _ _ (by omega) (by omega) (by omega) (by omega)⟩, I, I⟩, ?_⟩
    refine W.cn ?_
    conv => whnf
    refine ⟨noT (decide_eq_false (by omega)), fun _ => ?_⟩
    refine W.skip ?_
    refine gd 12 26 [[], [], [.call (V.i (pickV (List.take (2000 : Nat) l) (Prod.snd (mdrawP (List.take (2000 : Nat) l) (0 : Int)) + (1 : Int)) (2 : Int))) ([rdC (List.take (2000 : Nat) l) (Prod.snd (mdrawP (List.take (2000 : Nat) l) (0 : Int)) + (1 : Int) + (1 : Int)), []])], [.i ((30 : Int) + pickV (List.take (2000 : Nat) l) (Prod.snd (mdrawP (List.take (2000 : Nat) l) (0 : Int)) + (1 : Int)) (2 : Int))], [.call (V.s (manyS { data := #[(107 : UInt8)] : ByteArray } ((30 : Int) + pickV (List.take (2000 : Nat) l) (Prod.snd (mdrawP (List.take (2000 : Nat) l) (0 : Int)) + (1 : Int)) (2 : Int)))) ([[], []])], [], [], [.call (V.i (pickV (List.take (2000 : Nat) l) (Prod.snd (mdrawP (List.take (2000 : Nat) l) (0 : Int)) + (1 : Int) + (1 : Int)) (4 : Int))) ([rdC (List.take (2000 : Nat) l) (Prod.snd (mdrawP (List.take (2000 : Nat) l) (0 : Int)) + (1 : Int) + (1 : Int) + (1 : Int)), []])], [.n (Int.toNat (pickV (List.take (2000 : Nat) l) (Prod.snd (mdrawP (List.take (2000 : Nat) l) (0 : Int)) + (1 : Int) + (1 : Int)) (4 : Int)))], [.x ([T.s x])], [], []] ?_
    conv => whnf
    refine ⟨⟨I, I, ⟨⟨I, I, I⟩, I, ⟨I, ⟨I, I⟩, I⟩, ⟨I, I⟩, Go.K.c_spec_l1Rd_pick _ _ _ (by omega) (by omega) (by omega) (by omega)⟩, w64 (by omega) (by omega), ⟨⟨I, I, I⟩, I, ⟨⟨I, I⟩, ⟨I, I⟩, I⟩, ⟨I, I⟩, Go.K.c_spec_l1Many _ _ (by first | omega | decide | assumption | (simp only [ByteArray.size_extract, List.length_map]; omega) | simp [*]) (by first | omega | decide | assumption | (simp only [ByteArray.size_extract, List.length_map]; omega) | simp [*]) (by first | omega | decide | assumption | (simp only [ByteArray.size_extract, List.length_map]; omega) | simp [*])⟩, ⟨⟨I, I⟩, ⟨I, I⟩, ⟨I, I⟩, ⟨I, I⟩, I⟩, I, ⟨⟨I, I, I⟩, I, ⟨I, ⟨I, I⟩, I⟩, ⟨I, I⟩, Go.K.c_spec_l1Rd_pick _ _ _ (by omega) (by omega) (by omega) (by omega)⟩, ⟨(by omega), (by simp only [List.length_map, List.length_append, List.length_set, List.length_replicate, List.length_cons, List.length_nil, List.length_take, List.length_drop, fill_len, fillI_len, List.length_range, bytesT_len]; omega)⟩, (by assumption), ⟨I, I, I, I, I, I, I, I, I⟩, I, I⟩, by kernel_rfl, ?_⟩
    refine W.ret ?_
    refine EndsW.rt ?_
    conv => whnf
    refine ⟨⟨I, ⟨I, I, I, I, I, I, I, I, I⟩, I, ⟨I, I⟩, I⟩, ?_⟩
    exact ⟨(mdrawP (l.take 2000) 0).1, x, rfl, rfl, d1, hxs⟩
theorem ex_DrawFM' (l : List Int) (h : l.length ≤ 1048576 ∧ ∀ x ∈ l, 0 ≤ x ∧ x ≤ 255) : ∃ x : Message × ByteArray, F n_spec_DrawFormMessage [.val (.t (u8s l))] (.tup [messageO x.1, .s x.2]) [[]] ∧ msgSmall x.1 ∧ x.2.size ≤ 4096 := by
  obtain ⟨res, outs, ⟨m, k, rfl, rfl, h1, h2⟩, hF⟩ := ex_DrawFM l h.1 h.2
  exact ⟨(m, k), hF, h1, h2⟩
open Classical in
/-- The message and the key that are drawn. -/
noncomputable def drawFM (l : List Int) : Message × ByteArray := if h : l.length ≤ 1048576 ∧ ∀ x ∈ l, 0 ≤ x ∧ x ≤ 255 then (ex_DrawFM' l h).choose else (⟨5, 1, 0, 1, 0, 0, emp, []⟩, emp)
theorem c_spec_DrawFormMessage (l : List Int) (hlen : l.length ≤ 1048576) (h8 : ∀ x ∈ l, 0 ≤ x ∧ x ≤ 255) : F n_spec_DrawFormMessage [.val (.t (u8s l))] (.tup [messageO (drawFM l).1, .s (drawFM l).2]) [[]] := by
  rw [drawFM, dif_pos ⟨hlen, h8⟩]
  exact (ex_DrawFM' l ⟨hlen, h8⟩).choose_spec.1
theorem drawFM_ok (l : List Int) : msgSmall (drawFM l).1 ∧ (drawFM l).2.size ≤ 4096 := by
  unfold drawFM
  split
  · rename_i h; exact (ex_DrawFM' l h).choose_spec.2
  · exact ⟨⟨Nat.zero_le _, Nat.zero_le 64, fun s hs => by cases hs⟩, Nat.zero_le 4096⟩
end Go.K

end

section
set_option linter.unusedVariables false
set_option linter.unusedSimpArgs false
set_option maxHeartbeats 4000000
set_option maxRecDepth 20000
open Go Go.Tm Go.Proofs
namespace Go.K
attribute [local irreducible] ByteArray.extract
theorem sealT8 (b k : ByteArray) : (sealT b k).size = 8 := by unfold sealT; exact sumT_size _
theorem form_small {m : Message} (h : msgSmall m) (key : ByteArray) : (formM m key).size ≤ 1000 := by
  unfold formM
  split
  · rename_i hk
    rw [ByteArray.size_append, sealT8, bodyM_size hk.1]
    have := h.1; have := h.2.1; omega
  · exact Nat.zero_le 1000
theorem body_small {m : Message} (h : msgSmall m) (hok : msgOk m) : (bodyM m).size ≤ 1000 := by
  rw [bodyM_size hok]; have := h.1; have := h.2.1; omega
theorem ex_DrawRM (l : List Int) (hlen : l.length ≤ 1048576) (h8 : ∀ x ∈ l, 0 ≤ x ∧ x ≤ 255) : ∃ res outs, (∃ s key, res = .tup [.s s, .s key] ∧ outs = [[]] ∧ s.size ≤ 100000 ∧ key.size ≤ 4096) ∧ F n_spec_DrawReadMessage [.val (.t (u8s l))] res outs := by
  have hu := u8_take h8
  have hD := c_spec_DrawFormMessage l hlen h8
  obtain ⟨m1, m2⟩ := drawFM_ok l
  revert hD m1 m2
  generalize (drawFM l).1 = m
  generalize (drawFM l).2 = key
  intro hD m1 m2
  have cf := c_spec_FormMessage m key (by have := m1.1; omega)
  have hf := form_small m1 key
  have p0 := pick_rng (l.take 2000) 0 3
  obtain ⟨a1, a2, a3⟩ := bend_ok (l.take 2000) (0 + 1) (formM m key)
  by_cases h3 : pickV (l.take 2000) 0 3 = 0
  · skip
    have p8 := pick_rng (l.take 2000) ((bendP (l.take 2000) (0 + 1) (formM m key)).2) 8
    obtain ⟨⟨b1, b2⟩, b3, b4⟩ := mdraw_ok (l.take 2000) ((bendP (l.take 2000) (0 + 1) (formM m key)).2 + 1)
    have hb := body_small b1 b2
    obtain ⟨c1, c2, c3⟩ := bend_ok (l.take 2000) (mdrawP (l.take 2000) ((bendP (l.take 2000) (0 + 1) (formM m key)).2 + 1)).2 (bodyM (mdrawP (l.take 2000) ((bendP (l.take 2000) (0 + 1) (formM m key)).2 + 1)).1)
    have cb := c_spec_l2Body (mdrawP (l.take 2000) ((bendP (l.take 2000) (0 + 1) (formM m key)).2 + 1)).1 b2
    by_cases h8 : pickV (l.take 2000) ((bendP (l.take 2000) (0 + 1) (formM m key)).2) 8 = 0
    · have p12 := pick_rng (l.take 2000) ((bendP (l.take 2000) (mdrawP (l.take 2000) ((bendP (l.take 2000) (0 + 1) (formM m key)).2 + 1)).2 (bodyM (mdrawP (l.take 2000) ((bendP (l.take 2000) (0 + 1) (formM m key)).2 + 1)).1)).2) 12
      have e0 : (⟨#[0]⟩ : ByteArray).size = 1 := rfl
      have z1 : (key ++ (⟨#[0]⟩ : ByteArray)).size ≤ 4097 := by rw [ByteArray.size_append]; omega
      have z2 : (key ++ (⟨#[0]⟩ : ByteArray) ++ (bendP (l.take 2000) (mdrawP (l.take 2000) ((bendP (l.take 2000) (0 + 1) (formM m key)).2 + 1)).2 (bodyM (mdrawP (l.take 2000) ((bendP (l.take 2000) (0 + 1) (formM m key)).2 + 1)).1)).1).size ≤ 6000 := by rw [ByteArray.size_append]; omega
      have cs := c_spec_l1Sum (key ++ (⟨#[0]⟩ : ByteArray) ++ (bendP (l.take 2000) (mdrawP (l.take 2000) ((bendP (l.take 2000) (0 + 1) (formM m key)).2 + 1)).2 (bodyM (mdrawP (l.take 2000) ((bendP (l.take 2000) (0 + 1) (formM m key)).2 + 1)).1)).1) (by omega)
      rw [fnvs_all] at cs
      have z3 : (bl (beL (fnvA h0v (key ++ (⟨#[0]⟩ : ByteArray) ++ (bendP (l.take 2000) (mdrawP (l.take 2000) ((bendP (l.take 2000) (0 + 1) (formM m key)).2 + 1)).2 (bodyM (mdrawP (l.take 2000) ((bendP (l.take 2000) (0 + 1) (formM m key)).2 + 1)).1)).1)) 8)).size = 8 := by rw [bl_size, beL_len]
      refine x_spec_DrawReadMessage ?_
      conv => whnf
      refine g 0 0 [] ?_
      conv => whnf
      refine ⟨⟨I, I, I⟩, ?_⟩
      refine g 10 11 [.call (V.tup [V.tup (rdC (List.take (2000 : Nat) l) (0 : Int))]) ([[]])] ?_
      conv => whnf
      refine ⟨⟨I, ⟨⟨I, I⟩, I, ⟨⟨I, I⟩, I⟩, ⟨I, I⟩, Go.K.c_spec_l1Open _ (by omega)⟩, I, I⟩, ?_⟩
      refine g 11 16 [.call (V.tup [messageO m, V.s key]) ([[]])] ?_
      conv => whnf
      refine ⟨⟨I, ⟨⟨I, I⟩, I, ⟨⟨I, I⟩, I⟩, ⟨I, I⟩, (by assumption)⟩, I, I, I, I, ⟨I, I, I, I, I, I, I, I, I⟩, I, I⟩, ?_⟩
      refine g 16 19 [.call (V.s (formM m key)) ([[], []])] ?_
      conv => whnf
      refine ⟨⟨I, I, ⟨⟨I, I, I⟩, I, ⟨⟨I, I, I, I, I, I, I, I, I⟩, ⟨I, I⟩, I⟩, ⟨I, I⟩, (by assumption)⟩, I, I⟩, ?_⟩
      refine W.sq ?_
      refine g 19 21 [.call (V.i (pickV (List.take (2000 : Nat) l) (0 : Int) (3 : Int))) ([rdC (List.take (2000 : Nat) l) ((0 : Int) + (1 : Int)), []])] ?_
      conv => whnf
      refine ⟨⟨I, ⟨⟨I, I, I⟩, I, ⟨I, ⟨I, I⟩, I⟩, ⟨I, I⟩, Go.K.c_spec_l1Rd_pick _ _ _ (by omega) (by omega) (by omega) (by omega)⟩, I, I⟩, ?_⟩
      refine W.cn ?_
      conv => whnf
      refine ⟨fun _ => ?_, noF (decide_eq_true (by omega))⟩
      refine rg [.call (V.s (Prod.fst (bendP (List.take (2000 : Nat) l) ((0 : Int) + (1 : Int)) (formM m key)))) ([rdC (List.take (2000 : Nat) l) (Prod.snd (bendP (List.take (2000 : Nat) l) ((0 : Int) + (1 : Int)) (formM m key))), []])] ?_
      conv => whnf
      refine ⟨⟨I, I, ⟨⟨I, I, I⟩, I, ⟨I, ⟨I, I⟩, I⟩, ⟨I, I⟩, Go.K.c_spec_l1Bend _ _ _ (by omega) (by omega) (by omega) (by omega)⟩, I, I⟩, ?_⟩
      refine W.sq ?_
      refine g 21 27 [.call (V.i (pickV (List.take (2000 : Nat) l) (Prod.snd (bendP (List.take (2000 : Nat) l) ((0 : Int) + (1 : Int)) (formM m key))) (8 : Int))) ([rdC (List.take (2000 : Nat) l) (Prod.snd (bendP (List.take (2000 : Nat) l) ((0 : Int) + (1 : Int)) (formM m key)) + (1 : Int)), []])] ?_
      conv => whnf
      refine ⟨⟨I, ⟨⟨I, I, I⟩, I, ⟨I, ⟨I, I⟩, I⟩, ⟨I, I⟩, Go.K.c_spec_l1Rd_pick _ _ _ (by omega) (by omega) (by omega) (by omega)⟩, I, I⟩, ?_⟩
      refine W.cn ?_
      conv => whnf
      refine ⟨fun _ => ?_, noF (decide_eq_true (by omega))⟩
      refine g 27 33 [.call (messageO (Prod.fst (mdrawP (List.take (2000 : Nat) l) (Prod.snd (bendP (List.take (2000 : Nat) l) ((0 : Int) + (1 : Int)) (formM m key)) + (1 : Int))))) ([rdC (List.take (2000 : Nat) l) (Prod.snd (mdrawP (List.take (2000 : Nat) l) (Prod.snd (bendP (List.take (2000 : Nat) l) ((0 : Int) + (1 : Int)) (formM m key)) + (1 : Int))))]), .call (V.s (bodyM (Prod.fst (mdrawP (List.take (2000 : Nat) l) (Prod.snd (bendP (List.take (2000 : Nat) l) ((0 : Int) + (1 : Int)) (formM m key)) + (1 : Int)))))) ([[]]), .call (V.s (Prod.fst (bendP (List.take (2000 : Nat) l) (Prod.snd (mdrawP (List.take (2000 : Nat) l) (Prod.snd (bendP (List.take (2000 : Nat) l) ((0 : Int) + (1 : Int)) (formM m key)) + (1 : Int)))) (bodyM (Prod.fst (mdrawP (List.take (2000 : Nat) l) (Prod.snd (bendP (List.take (2000 : Nat) l) ((0 : Int) + (1 : Int)) (formM m key)) + (1 : Int)))))))) ([rdC (List.take (2000 : Nat) l) (Prod.snd (bendP (List.take (2000 : Nat) l) (Prod.snd (mdrawP (List.take (2000 : Nat) l) (Prod.snd (bendP (List.take (2000 : Nat) l) ((0 : Int) + (1 : Int)) (formM m key)) + (1 : Int)))) (bodyM (Prod.fst (mdrawP (List.take (2000 : Nat) l) (Prod.snd (bendP (List.take (2000 : Nat) l) ((0 : Int) + (1 : Int)) (formM m key)) + (1 : Int))))))), []])] ?_
      conv => whnf
      refine ⟨⟨I, I, ⟨⟨I, I⟩, I, ⟨I, I⟩, ⟨I, I⟩, Go.K.c_spec_l2Draw _ _ (by omega) (by omega) (by omega)⟩, ⟨⟨I, I⟩, I, ⟨⟨I, I, I, I, I, I, I, I, I⟩, I⟩, ⟨I, I⟩, (by assumption)⟩, ⟨⟨I, I, I⟩, I, ⟨I, ⟨I, I⟩, I⟩, ⟨I, I⟩, Go.K.c_spec_l1Bend _ _ _ (by omega) (by omega) (by omega) (by omega)⟩, I, I⟩, ?_⟩
      refine rg [.s (key ++ { data := #[(0 : UInt8)] : ByteArray }), .s (key ++ { data := #[(0 : UInt8)] : ByteArray } ++ Prod.fst (bendP (List.take (2000 : Nat) l) (Prod.snd (mdrawP (List.take (2000 : Nat) l) (Prod.snd (bendP (List.take (2000 : Nat) l) ((0 : Int) + (1 : Int)) (formM m key)) + (1 : Int)))) (bodyM (Prod.fst (mdrawP (List.take (2000 : Nat) l) (Prod.snd (bendP (List.take (2000 : Nat) l) ((0 : Int) + (1 : Int)) (formM m key)) + (1 : Int))))))), .call (V.s (bl (beL (fnvA h0v (key ++ { data := #[(0 : UInt8)] : ByteArray } ++ Prod.fst (bendP (List.take (2000 : Nat) l) (Prod.snd (mdrawP (List.take (2000 : Nat) l) (Prod.snd (bendP (List.take (2000 : Nat) l) ((0 : Int) + (1 : Int)) (formM m key)) + (1 : Int)))) (bodyM (Prod.fst (mdrawP (List.take (2000 : Nat) l) (Prod.snd (bendP (List.take (2000 : Nat) l) ((0 : Int) + (1 : Int)) (formM m key)) + (1 : Int)))))))) (8 : Nat)))) ([[]]), .s (bl (beL (fnvA h0v (key ++ { data := #[(0 : UInt8)] : ByteArray } ++ Prod.fst (bendP (List.take (2000 : Nat) l) (Prod.snd (mdrawP (List.take (2000 : Nat) l) (Prod.snd (bendP (List.take (2000 : Nat) l) ((0 : Int) + (1 : Int)) (formM m key)) + (1 : Int)))) (bodyM (Prod.fst (mdrawP (List.take (2000 : Nat) l) (Prod.snd (bendP (List.take (2000 : Nat) l) ((0 : Int) + (1 : Int)) (formM m key)) + (1 : Int)))))))) (8 : Nat)) ++ Prod.fst (bendP (List.take (2000 : Nat) l) (Prod.snd (mdrawP (List.take (2000 : Nat) l) (Prod.snd (bendP (List.take (2000 : Nat) l) ((0 : Int) + (1 : Int)) (formM m key)) + (1 : Int)))) (bodyM (Prod.fst (mdrawP (List.take (2000 : Nat) l) (Prod.snd (bendP (List.take (2000 : Nat) l) ((0 : Int) + (1 : Int)) (formM m key)) + (1 : Int)))))))] ?_
      conv => whnf
      refine ⟨⟨I, ⟨rfl, (by omega)⟩, I, ⟨rfl, (by omega)⟩, ⟨⟨I, I⟩, I, ⟨⟨I, I⟩, I⟩, ⟨I, I⟩, (by assumption)⟩, I, ⟨rfl, (by omega)⟩, I, I⟩, ?_⟩
      refine W.sq ?_
      refine g 33 42 [.call (V.i (pickV (List.take (2000 : Nat) l) (Prod.snd (bendP (List.take (2000 : Nat) l) (Prod.snd (mdrawP (List.take (2000 : Nat) l) (Prod.snd (bendP (List.take (2000 : Nat) l) ((0 : Int) + (1 : Int)) (formM m key)) + (1 : Int)))) (bodyM (Prod.fst (mdrawP (List.take (2000 : Nat) l) (Prod.snd (bendP (List.take (2000 : Nat) l) ((0 : Int) + (1 : Int)) (formM m key)) + (1 : Int))))))) (12 : Int))) ([rdC (List.take (2000 : Nat) l) (Prod.snd (bendP (List.take (2000 : Nat) l) (Prod.snd (mdrawP (List.take (2000 : Nat) l) (Prod.snd (bendP (List.take (2000 : Nat) l) ((0 : Int) + (1 : Int)) (formM m key)) + (1 : Int)))) (bodyM (Prod.fst (mdrawP (List.take (2000 : Nat) l) (Prod.snd (bendP (List.take (2000 : Nat) l) ((0 : Int) + (1 : Int)) (formM m key)) + (1 : Int)))))) + (1 : Int)), []])] ?_
      conv => whnf
      refine ⟨⟨I, ⟨⟨I, I, I⟩, I, ⟨I, ⟨I, I⟩, I⟩, ⟨I, I⟩, Go.K.c_spec_l1Rd_pick _ _ _ (by omega) (by omega) (by omega) (by omega)⟩, I, I⟩, ?_⟩
      refine W.cn ?_
      conv => whnf
      refine ⟨fun h1 => ?_, fun h1 => ?_⟩
      replace h1 := dt h1
      refine rg [] ?_
      conv => whnf
      refine ⟨⟨I, I⟩, ?_⟩
      refine g 4 9 [] ?_
      conv => whnf
      refine ⟨⟨I, I, I, I, I⟩, ?_⟩
      refine W.ret ?_
      refine EndsW.rt ?_
      conv => whnf
      refine ⟨⟨I, ⟨I, I⟩, I, ⟨I, I⟩, I⟩, ?_⟩
      rotate_left 1
      replace h1 := df h1
      refine W.skip ?_
      refine g 4 9 [] ?_
      conv => whnf
      refine ⟨⟨I, I, I, I, I⟩, ?_⟩
      refine W.ret ?_
      refine EndsW.rt ?_
      conv => whnf
      refine ⟨⟨I, ⟨I, I⟩, I, ⟨I, I⟩, I⟩, ?_⟩
      rotate_left 1
      · exact ⟨_, _, rfl, rfl, by rw [ByteArray.size_append, z3]; omega, by show 5 ≤ 4096; omega⟩
      · exact ⟨_, _, rfl, rfl, by rw [ByteArray.size_append, z3]; omega, m2⟩
    · have p12 := pick_rng (l.take 2000) ((bendP (l.take 2000) (0 + 1) (formM m key)).2 + 1) 12
      refine x_spec_DrawReadMessage ?_
      conv => whnf
      refine g 0 0 [] ?_
      conv => whnf
      refine ⟨⟨I, I, I⟩, ?_⟩
      refine g 10 11 [.call (V.tup [V.tup (rdC (List.take (2000 : Nat) l) (0 : Int))]) ([[]])] ?_
      conv => whnf
      refine ⟨⟨I, ⟨⟨I, I⟩, I, ⟨⟨I, I⟩, I⟩, ⟨I, I⟩, Go.K.c_spec_l1Open _ (by omega)⟩, I, I⟩, ?_⟩
      refine g 11 16 [.call (V.tup [messageO m, V.s key]) ([[]])] ?_
      conv => whnf
      refine ⟨⟨I, ⟨⟨I, I⟩, I, ⟨⟨I, I⟩, I⟩, ⟨I, I⟩, (by assumption)⟩, I, I, I, I, ⟨I, I, I, I, I, I, I, I, I⟩, I, I⟩, ?_⟩
      refine g 16 19 [.call (V.s (formM m key)) ([[], []])] ?_
      conv => whnf
      refine ⟨⟨I, I, ⟨⟨I, I, I⟩, I, ⟨⟨I, I, I, I, I, I, I, I, I⟩, ⟨I, I⟩, I⟩, ⟨I, I⟩, (by assumption)⟩, I, I⟩, ?_⟩
      refine W.sq ?_
      refine g 19 21 [.call (V.i (pickV (List.take (2000 : Nat) l) (0 : Int) (3 : Int))) ([rdC (List.take (2000 : Nat) l) ((0 : Int) + (1 : Int)), []])] ?_
      conv => whnf
      refine ⟨⟨I, ⟨⟨I, I, I⟩, I, ⟨I, ⟨I, I⟩, I⟩, ⟨I, I⟩, Go.K.c_spec_l1Rd_pick _ _ _ (by omega) (by omega) (by omega) (by omega)⟩, I, I⟩, ?_⟩
      refine W.cn ?_
      conv => whnf
      refine ⟨fun _ => ?_, noF (decide_eq_true (by omega))⟩
      refine rg [.call (V.s (Prod.fst (bendP (List.take (2000 : Nat) l) ((0 : Int) + (1 : Int)) (formM m key)))) ([rdC (List.take (2000 : Nat) l) (Prod.snd (bendP (List.take (2000 : Nat) l) ((0 : Int) + (1 : Int)) (formM m key))), []])] ?_
      conv => whnf
      refine ⟨⟨I, I, ⟨⟨I, I, I⟩, I, ⟨I, ⟨I, I⟩, I⟩, ⟨I, I⟩, Go.K.c_spec_l1Bend _ _ _ (by omega) (by omega) (by omega) (by omega)⟩, I, I⟩, ?_⟩
      refine W.sq ?_
      refine g 21 27 [.call (V.i (pickV (List.take (2000 : Nat) l) (Prod.snd (bendP (List.take (2000 : Nat) l) ((0 : Int) + (1 : Int)) (formM m key))) (8 : Int))) ([rdC (List.take (2000 : Nat) l) (Prod.snd (bendP (List.take (2000 : Nat) l) ((0 : Int) + (1 : Int)) (formM m key)) + (1 : Int)), []])] ?_
      conv => whnf
      refine ⟨⟨I, ⟨⟨I, I, I⟩, I, ⟨I, ⟨I, I⟩, I⟩, ⟨I, I⟩, Go.K.c_spec_l1Rd_pick _ _ _ (by omega) (by omega) (by omega) (by omega)⟩, I, I⟩, ?_⟩
      refine W.cn ?_
      conv => whnf
      refine ⟨noT (decide_eq_false (by omega)), fun _ => ?_⟩
      refine W.skip ?_
      refine W.sq ?_
      refine g 27 42 [.call (V.i (pickV (List.take (2000 : Nat) l) (Prod.snd (bendP (List.take (2000 : Nat) l) ((0 : Int) + (1 : Int)) (formM m key)) + (1 : Int)) (12 : Int))) ([rdC (List.take (2000 : Nat) l) (Prod.snd (bendP (List.take (2000 : Nat) l) ((0 : Int) + (1 : Int)) (formM m key)) + (1 : Int) + (1 : Int)), []])] ?_
      conv => whnf
      refine ⟨⟨I, ⟨⟨I, I, I⟩, I, ⟨I, ⟨I, I⟩, I⟩, ⟨I, I⟩, Go.K.c_spec_l1Rd_pick _ _ _ (by omega) (by omega) (by omega) (by omega)⟩, I, I⟩, ?_⟩
      refine W.cn ?_
      conv => whnf
      refine ⟨fun h1 => ?_, fun h1 => ?_⟩
      replace h1 := dt h1
      refine rg [] ?_
      conv => whnf
      refine ⟨⟨I, I⟩, ?_⟩
      refine g 4 8 [] ?_
      conv => whnf
      refine ⟨⟨I, I, I, I, I⟩, ?_⟩
      refine W.ret ?_
      refine EndsW.rt ?_
      conv => whnf
      refine ⟨⟨I, ⟨I, I⟩, I, ⟨I, I⟩, I⟩, ?_⟩
      rotate_left 1
      replace h1 := df h1
      refine W.skip ?_
      refine g 4 8 [] ?_
      conv => whnf
      refine ⟨⟨I, I, I, I, I⟩, ?_⟩
      refine W.ret ?_
      refine EndsW.rt ?_
      conv => whnf
      refine ⟨⟨I, ⟨I, I⟩, I, ⟨I, I⟩, I⟩, ?_⟩
      rotate_left 1
      · exact ⟨(bendP (l.take 2000) (0 + 1) (formM m key)).1, _, rfl, rfl, by omega, by show 5 ≤ 4096; omega⟩
      · exact ⟨(bendP (l.take 2000) (0 + 1) (formM m key)).1, key, rfl, rfl, by omega, m2⟩
  · skip
    have p8 := pick_rng (l.take 2000) (0 + 1) 8
    obtain ⟨⟨b1, b2⟩, b3, b4⟩ := mdraw_ok (l.take 2000) (0 + 1 + 1)
    have hb := body_small b1 b2
    obtain ⟨c1, c2, c3⟩ := bend_ok (l.take 2000) (mdrawP (l.take 2000) (0 + 1 + 1)).2 (bodyM (mdrawP (l.take 2000) (0 + 1 + 1)).1)
    have cb := c_spec_l2Body (mdrawP (l.take 2000) (0 + 1 + 1)).1 b2
    by_cases h8 : pickV (l.take 2000) (0 + 1) 8 = 0
    · have p12 := pick_rng (l.take 2000) ((bendP (l.take 2000) (mdrawP (l.take 2000) (0 + 1 + 1)).2 (bodyM (mdrawP (l.take 2000) (0 + 1 + 1)).1)).2) 12
      have e0 : (⟨#[0]⟩ : ByteArray).size = 1 := rfl
      have z1 : (key ++ (⟨#[0]⟩ : ByteArray)).size ≤ 4097 := by rw [ByteArray.size_append]; omega
      have z2 : (key ++ (⟨#[0]⟩ : ByteArray) ++ (bendP (l.take 2000) (mdrawP (l.take 2000) (0 + 1 + 1)).2 (bodyM (mdrawP (l.take 2000) (0 + 1 + 1)).1)).1).size ≤ 6000 := by rw [ByteArray.size_append]; omega
      have cs := c_spec_l1Sum (key ++ (⟨#[0]⟩ : ByteArray) ++ (bendP (l.take 2000) (mdrawP (l.take 2000) (0 + 1 + 1)).2 (bodyM (mdrawP (l.take 2000) (0 + 1 + 1)).1)).1) (by omega)
      rw [fnvs_all] at cs
      have z3 : (bl (beL (fnvA h0v (key ++ (⟨#[0]⟩ : ByteArray) ++ (bendP (l.take 2000) (mdrawP (l.take 2000) (0 + 1 + 1)).2 (bodyM (mdrawP (l.take 2000) (0 + 1 + 1)).1)).1)) 8)).size = 8 := by rw [bl_size, beL_len]
      refine x_spec_DrawReadMessage ?_
      conv => whnf
      refine g 0 0 [] ?_
      conv => whnf
      refine ⟨⟨I, I, I⟩, ?_⟩
      refine g 10 11 [.call (V.tup [V.tup (rdC (List.take (2000 : Nat) l) (0 : Int))]) ([[]])] ?_
      conv => whnf
      refine ⟨⟨I, ⟨⟨I, I⟩, I, ⟨⟨I, I⟩, I⟩, ⟨I, I⟩, Go.K.c_spec_l1Open _ (by omega)⟩, I, I⟩, ?_⟩
      refine g 11 16 [.call (V.tup [messageO m, V.s key]) ([[]])] ?_
      conv => whnf
      refine ⟨⟨I, ⟨⟨I, I⟩, I, ⟨⟨I, I⟩, I⟩, ⟨I, I⟩, (by assumption)⟩, I, I, I, I, ⟨I, I, I, I, I, I, I, I, I⟩, I, I⟩, ?_⟩
      refine g 16 19 [.call (V.s (formM m key)) ([[], []])] ?_
      conv => whnf
      refine ⟨⟨I, I, ⟨⟨I, I, I⟩, I, ⟨⟨I, I, I, I, I, I, I, I, I⟩, ⟨I, I⟩, I⟩, ⟨I, I⟩, (by assumption)⟩, I, I⟩, ?_⟩
      refine W.sq ?_
      refine g 19 21 [.call (V.i (pickV (List.take (2000 : Nat) l) (0 : Int) (3 : Int))) ([rdC (List.take (2000 : Nat) l) ((0 : Int) + (1 : Int)), []])] ?_
      conv => whnf
      refine ⟨⟨I, ⟨⟨I, I, I⟩, I, ⟨I, ⟨I, I⟩, I⟩, ⟨I, I⟩, Go.K.c_spec_l1Rd_pick _ _ _ (by omega) (by omega) (by omega) (by omega)⟩, I, I⟩, ?_⟩
      refine W.cn ?_
      conv => whnf
      refine ⟨noT (decide_eq_false (by omega)), fun _ => ?_⟩
      refine W.skip ?_
      refine W.sq ?_
      refine g 21 27 [.call (V.i (pickV (List.take (2000 : Nat) l) ((0 : Int) + (1 : Int)) (8 : Int))) ([rdC (List.take (2000 : Nat) l) ((0 : Int) + (1 : Int) + (1 : Int)), []])] ?_
      conv => whnf
      refine ⟨⟨I, ⟨⟨I, I, I⟩, I, ⟨I, ⟨I, I⟩, I⟩, ⟨I, I⟩, Go.K.c_spec_l1Rd_pick _ _ _ (by omega) (by omega) (by omega) (by omega)⟩, I, I⟩, ?_⟩
      refine W.cn ?_
      conv => whnf
      refine ⟨fun _ => ?_, noF (decide_eq_true (by omega))⟩
      refine g 27 33 [.call (messageO (Prod.fst (mdrawP (List.take (2000 : Nat) l) ((0 : Int) + (1 : Int) + (1 : Int))))) ([rdC (List.take (2000 : Nat) l) (Prod.snd (mdrawP (List.take (2000 : Nat) l) ((0 : Int) + (1 : Int) + (1 : Int))))]), .call (V.s (bodyM (Prod.fst (mdrawP (List.take (2000 : Nat) l) ((0 : Int) + (1 : Int) + (1 : Int)))))) ([[]]), .call (V.s (Prod.fst (bendP (List.take (2000 : Nat) l) (Prod.snd (mdrawP (List.take (2000 : Nat) l) ((0 : Int) + (1 : Int) + (1 : Int)))) (bodyM (Prod.fst (mdrawP (List.take (2000 : Nat) l) ((0 : Int) + (1 : Int) + (1 : Int)))))))) ([rdC (List.take (2000 : Nat) l) (Prod.snd (bendP (List.take (2000 : Nat) l) (Prod.snd (mdrawP (List.take (2000 : Nat) l) ((0 : Int) + (1 : Int) + (1 : Int)))) (bodyM (Prod.fst (mdrawP (List.take (2000 : Nat) l) ((0 : Int) + (1 : Int) + (1 : Int))))))), []])] ?_
      conv => whnf
      refine ⟨⟨I, I, ⟨⟨I, I⟩, I, ⟨I, I⟩, ⟨I, I⟩, Go.K.c_spec_l2Draw _ _ (by omega) (by omega) (by omega)⟩, ⟨⟨I, I⟩, I, ⟨⟨I, I, I, I, I, I, I, I, I⟩, I⟩, ⟨I, I⟩, (by assumption)⟩, ⟨⟨I, I, I⟩, I, ⟨I, ⟨I, I⟩, I⟩, ⟨I, I⟩, Go.K.c_spec_l1Bend _ _ _ (by omega) (by omega) (by omega) (by omega)⟩, I, I⟩, ?_⟩
      refine rg [.s (key ++ { data := #[(0 : UInt8)] : ByteArray }), .s (key ++ { data := #[(0 : UInt8)] : ByteArray } ++ Prod.fst (bendP (List.take (2000 : Nat) l) (Prod.snd (mdrawP (List.take (2000 : Nat) l) ((0 : Int) + (1 : Int) + (1 : Int)))) (bodyM (Prod.fst (mdrawP (List.take (2000 : Nat) l) ((0 : Int) + (1 : Int) + (1 : Int))))))), .call (V.s (bl (beL (fnvA h0v (key ++ { data := #[(0 : UInt8)] : ByteArray } ++ Prod.fst (bendP (List.take (2000 : Nat) l) (Prod.snd (mdrawP (List.take (2000 : Nat) l) ((0 : Int) + (1 : Int) + (1 : Int)))) (bodyM (Prod.fst (mdrawP (List.take (2000 : Nat) l) ((0 : Int) + (1 : Int) + (1 : Int)))))))) (8 : Nat)))) ([[]]), .s (bl (beL (fnvA h0v (key ++ { data := #[(0 : UInt8)] : ByteArray } ++ Prod.fst (bendP (List.take (2000 : Nat) l) (Prod.snd (mdrawP (List.take (2000 : Nat) l) ((0 : Int) + (1 : Int) + (1 : Int)))) (bodyM (Prod.fst (mdrawP (List.take (2000 : Nat) l) ((0 : Int) + (1 : Int) + (1 : Int)))))))) (8 : Nat)) ++ Prod.fst (bendP (List.take (2000 : Nat) l) (Prod.snd (mdrawP (List.take (2000 : Nat) l) ((0 : Int) + (1 : Int) + (1 : Int)))) (bodyM (Prod.fst (mdrawP (List.take (2000 : Nat) l) ((0 : Int) + (1 : Int) + (1 : Int)))))))] ?_
      conv => whnf
      refine ⟨⟨I, ⟨rfl, (by omega)⟩, I, ⟨rfl, (by omega)⟩, ⟨⟨I, I⟩, I, ⟨⟨I, I⟩, I⟩, ⟨I, I⟩, (by assumption)⟩, I, ⟨rfl, (by omega)⟩, I, I⟩, ?_⟩
      refine W.sq ?_
      refine g 33 42 [.call (V.i (pickV (List.take (2000 : Nat) l) (Prod.snd (bendP (List.take (2000 : Nat) l) (Prod.snd (mdrawP (List.take (2000 : Nat) l) ((0 : Int) + (1 : Int) + (1 : Int)))) (bodyM (Prod.fst (mdrawP (List.take (2000 : Nat) l) ((0 : Int) + (1 : Int) + (1 : Int))))))) (12 : Int))) ([rdC (List.take (2000 : Nat) l) (Prod.snd (bendP (List.take (2000 : Nat) l) (Prod.snd (mdrawP (List.take (2000 : Nat) l) ((0 : Int) + (1 : Int) + (1 : Int)))) (bodyM (Prod.fst (mdrawP (List.take (2000 : Nat) l) ((0 : Int) + (1 : Int) + (1 : Int)))))) + (1 : Int)), []])] ?_
      conv => whnf
      refine ⟨⟨I, ⟨⟨I, I, I⟩, I, ⟨I, ⟨I, I⟩, I⟩, ⟨I, I⟩, Go.K.c_spec_l1Rd_pick _ _ _ (by omega) (by omega) (by omega) (by omega)⟩, I, I⟩, ?_⟩
      refine W.cn ?_
      conv => whnf
      refine ⟨fun h1 => ?_, fun h1 => ?_⟩
      replace h1 := dt h1
      refine rg [] ?_
      conv => whnf
      refine ⟨⟨I, I⟩, ?_⟩
      refine g 4 9 [] ?_
      conv => whnf
      refine ⟨⟨I, I, I, I, I⟩, ?_⟩
      refine W.ret ?_
      refine EndsW.rt ?_
      conv => whnf
      refine ⟨⟨I, ⟨I, I⟩, I, ⟨I, I⟩, I⟩, ?_⟩
      rotate_left 1
      replace h1 := df h1
      refine W.skip ?_
      refine g 4 9 [] ?_
      conv => whnf
      refine ⟨⟨I, I, I, I, I⟩, ?_⟩
      refine W.ret ?_
      refine EndsW.rt ?_
      conv => whnf
      refine ⟨⟨I, ⟨I, I⟩, I, ⟨I, I⟩, I⟩, ?_⟩
      rotate_left 1
      · exact ⟨_, _, rfl, rfl, by rw [ByteArray.size_append, z3]; omega, by show 5 ≤ 4096; omega⟩
      · exact ⟨_, _, rfl, rfl, by rw [ByteArray.size_append, z3]; omega, m2⟩
    · have p12 := pick_rng (l.take 2000) (0 + 1 + 1) 12
      refine x_spec_DrawReadMessage ?_
      conv => whnf
      refine g 0 0 [] ?_
      conv => whnf
      refine ⟨⟨I, I, I⟩, ?_⟩
      refine g 10 11 [.call (V.tup [V.tup (rdC (List.take (2000 : Nat) l) (0 : Int))]) ([[]])] ?_
      conv => whnf
      refine ⟨⟨I, ⟨⟨I, I⟩, I, ⟨⟨I, I⟩, I⟩, ⟨I, I⟩, Go.K.c_spec_l1Open _ (by omega)⟩, I, I⟩, ?_⟩
      refine g 11 16 [.call (V.tup [messageO m, V.s key]) ([[]])] ?_
      conv => whnf
      refine ⟨⟨I, ⟨⟨I, I⟩, I, ⟨⟨I, I⟩, I⟩, ⟨I, I⟩, (by assumption)⟩, I, I, I, I, ⟨I, I, I, I, I, I, I, I, I⟩, I, I⟩, ?_⟩
      refine g 16 19 [.call (V.s (formM m key)) ([[], []])] ?_
      conv => whnf
      refine ⟨⟨I, I, ⟨⟨I, I, I⟩, I, ⟨⟨I, I, I, I, I, I, I, I, I⟩, ⟨I, I⟩, I⟩, ⟨I, I⟩, (by assumption)⟩, I, I⟩, ?_⟩
      refine W.sq ?_
      refine g 19 21 [.call (V.i (pickV (List.take (2000 : Nat) l) (0 : Int) (3 : Int))) ([rdC (List.take (2000 : Nat) l) ((0 : Int) + (1 : Int)), []])] ?_
      conv => whnf
      refine ⟨⟨I, ⟨⟨I, I, I⟩, I, ⟨I, ⟨I, I⟩, I⟩, ⟨I, I⟩, Go.K.c_spec_l1Rd_pick _ _ _ (by omega) (by omega) (by omega) (by omega)⟩, I, I⟩, ?_⟩
      refine W.cn ?_
      conv => whnf
      refine ⟨noT (decide_eq_false (by omega)), fun _ => ?_⟩
      refine W.skip ?_
      refine W.sq ?_
      refine g 21 27 [.call (V.i (pickV (List.take (2000 : Nat) l) ((0 : Int) + (1 : Int)) (8 : Int))) ([rdC (List.take (2000 : Nat) l) ((0 : Int) + (1 : Int) + (1 : Int)), []])] ?_
      conv => whnf
      refine ⟨⟨I, ⟨⟨I, I, I⟩, I, ⟨I, ⟨I, I⟩, I⟩, ⟨I, I⟩, Go.K.c_spec_l1Rd_pick _ _ _ (by omega) (by omega) (by omega) (by omega)⟩, I, I⟩, ?_⟩
      refine W.cn ?_
      conv => whnf
      refine ⟨noT (decide_eq_false (by omega)), fun _ => ?_⟩
      refine W.skip ?_
      refine W.sq ?_
      refine g 27 42 [.call (V.i (pickV (List.take (2000 : Nat) l) ((0 : Int) + (1 : Int) + (1 : Int)) (12 : Int))) ([rdC (List.take (2000 : Nat) l) ((0 : Int) + (1 : Int) + (1 : Int) + (1 : Int)), []])] ?_
      conv => whnf
      refine ⟨⟨I, ⟨⟨I, I, I⟩, I, ⟨I, ⟨I, I⟩, I⟩, ⟨I, I⟩, Go.K.c_spec_l1Rd_pick _ _ _ (by omega) (by omega) (by omega) (by omega)⟩, I, I⟩, ?_⟩
      refine W.cn ?_
      conv => whnf
      refine ⟨fun h1 => ?_, fun h1 => ?_⟩
      replace h1 := dt h1
      refine rg [] ?_
      conv => whnf
      refine ⟨⟨I, I⟩, ?_⟩
      refine g 4 8 [] ?_
      conv => whnf
      refine ⟨⟨I, I, I, I, I⟩, ?_⟩
      refine W.ret ?_
      refine EndsW.rt ?_
      conv => whnf
      refine ⟨⟨I, ⟨I, I⟩, I, ⟨I, I⟩, I⟩, ?_⟩
      rotate_left 1
      replace h1 := df h1
      refine W.skip ?_
      refine g 4 8 [] ?_
      conv => whnf
      refine ⟨⟨I, I, I, I, I⟩, ?_⟩
      refine W.ret ?_
      refine EndsW.rt ?_
      conv => whnf
      refine ⟨⟨I, ⟨I, I⟩, I, ⟨I, I⟩, I⟩, ?_⟩
      rotate_left 1
      · exact ⟨(formM m key), _, rfl, rfl, by omega, by show 5 ≤ 4096; omega⟩
      · exact ⟨(formM m key), key, rfl, rfl, by omega, m2⟩
end Go.K

end

section
set_option linter.unusedVariables false
set_option linter.unusedSimpArgs false
open Go Go.Tm Go.Proofs
namespace Go.K
theorem byt_bl {hs : List Int} {r : ByteArray} {k : Nat} {x : Int} (hk : hs[k]? = some x) (hx : 0 ≤ x ∧ x ≤ 255) : byt (bl hs ++ r) k = x := by
  obtain ⟨⟨l⟩⟩ := r
  have e : bl hs ++ ⟨⟨l⟩⟩ = ⟨⟨(hs.map fun n => UInt8.ofNat n.toNat) ++ l⟩⟩ := by
    apply ByteArray.ext
    rw [ByteArray.data_append]
    apply Array.ext'
    simp [bl]
  have h1 : ((hs.map fun n => UInt8.ofNat n.toNat) ++ l)[k]? = some (UInt8.ofNat x.toNat) := by
    rw [List.getElem?_append_left (by rw [List.length_map]; exact (List.getElem?_eq_some_iff.1 hk).1), List.getElem?_map, hk]; rfl
  rw [e, bytA h1]
  simp; omega
theorem ext_tail (a r : ByteArray) : (a ++ r).extract a.size (a ++ r).size = r := by
  have e : a.extract a.size (a.size + r.size) = emp := ByteArray.size_eq_zero_iff.1 (by rw [ByteArray.size_extract]; omega)
  rw [ByteArray.size_append, ByteArray.extract_append, e, emp_l]
  simp
theorem chunk_catS : ∀ (xs : List ByteArray), (∀ s ∈ xs, s.size = 8) → ∀ (p : ByteArray) (k : Nat), p.size = 8 * k → (List.range xs.length).map (fun j => (p ++ catS xs).extract (8 * (j + k)) (8 * (j + k) + 8)) = xs
  | [], _, p, k, hp => rfl
  | x :: xs, h, p, k, hp => by
    have hx := h x (List.mem_cons_self ..)
    rw [List.length_cons, List.range_succ_eq_map, List.map_cons, List.map_map]
    have ih := chunk_catS xs (fun s hs => h s (List.mem_cons_of_mem _ hs)) (p ++ x) (k + 1) (by rw [ByteArray.size_append]; omega)
    congr 1
    · rw [catS, Nat.zero_add, ← ByteArray.append_assoc]
      rw [show 8 * k = p.size by omega, show p.size + 8 = (p ++ x).size by rw [ByteArray.size_append]; omega]
      have e0 : (catS xs).extract (p.size - (p ++ x).size) ((p ++ x).size - (p ++ x).size) = emp := ByteArray.size_eq_zero_iff.1 (by rw [ByteArray.size_extract]; omega)
      rw [ByteArray.extract_append, e0, emp_r]
      exact ext_tail p x
    · conv => rhs; rw [← ih]
      refine List.map_congr_left fun j _ => ?_
      show (p ++ catS (x :: xs)).extract (8 * (j + 1 + k)) (8 * (j + 1 + k) + 8) = _
      rw [catS, ← ByteArray.append_assoc, show j + 1 + k = j + (k + 1) by omega]
theorem chunks_catS {xs : List ByteArray} (h : ∀ s ∈ xs, s.size = 8) : chunks (catS xs) xs.length = xs := by
  have := chunk_catS xs h emp 0 rfl
  rw [emp_l] at this
  exact this
theorem catS_size8 {xs : List ByteArray} (h : ∀ s ∈ xs, s.size = 8) : (catS xs).size = 8 * xs.length := by
  induction xs with
  | nil => rfl
  | cons x xs ih =>
    have := h x (List.mem_cons_self ..)
    rw [catS, ByteArray.size_append, ih fun s hs => h s (List.mem_cons_of_mem _ hs), List.length_cons]; omega
theorem rd_body {m : Message} (h : msgOk m) : rdM (bodyM m) = m := by
  obtain ⟨h1, h2, h3, h4, h5, h6⟩ := ok_ranges h
  obtain ⟨h7, h8, h9⟩ := ok_inputs h
  have hb : bodyM m = bl (hdrM m) ++ (m.text ++ catS m.inputs) := by unfold bodyM; rw [ByteArray.append_assoc]
  have hl : (bl (hdrM m)).size = 11 := by rw [bl_size]; rfl
  have hx : (bodyM m).extract 11 (bodyM m).size = m.text ++ catS m.inputs := by rw [hb, ← hl]; exact ext_tail _ _
  have hs : (bodyM m).size - 11 = m.text.size + 8 * m.inputs.length := by rw [hb, ByteArray.size_append, hl, ByteArray.size_append, catS_size8 h8]; omega
  have b : ∀ (k : Nat) (x : Int), (hdrM m)[k]? = some x → 0 ≤ x ∧ x ≤ 255 → byt (bodyM m) k = x := fun k x hk hx => by rw [hb]; exact byt_bl hk hx
  have k0 := b 0 m.kind rfl ⟨by omega, by omega⟩
  have k1 := b 1 m.frm rfl ⟨by omega, by omega⟩
  have k2 := b 2 m.to rfl ⟨by omega, by omega⟩
  have k3 := b 3 (m.epoch / 256) rfl ⟨by omega, by omega⟩
  have k4 := b 4 (m.epoch % 256) rfl ⟨by omega, by omega⟩
  have k5 := b 5 (m.lease / 16777216) rfl ⟨by omega, by omega⟩
  have k6 := b 6 (m.lease / 65536 % 256) rfl ⟨by omega, by omega⟩
  have k7 := b 7 (m.lease / 256 % 256) rfl ⟨by omega, by omega⟩
  have k8 := b 8 (m.lease % 256) rfl ⟨by omega, by omega⟩
  have k9 := b 9 m.task rfl ⟨by omega, by omega⟩
  have e1 : m.epoch / 256 * 256 + m.epoch % 256 = m.epoch := by omega
  have e2 : m.lease / 16777216 * 16777216 + m.lease / 65536 % 256 * 65536 + m.lease / 256 % 256 * 256 + m.lease % 256 = m.lease := by omega
  by_cases h3k : m.kind = 3
  · have hi : m.inputs = [] := by
      rcases h.2 with q | q | q | q | q
      · have := q.1; omega
      · have := q.1; omega
      · exact List.eq_nil_of_length_eq_zero (by have := q.2.2.2.2.2.2; omega)
      · have := q.1; omega
      · have := q.1; omega
    unfold rdM
    rw [k0, k1, k2, k3, k4, k5, k6, k7, k8, k9, e1, e2, if_pos h3k, if_pos h3k, hx, hi, catS, emp_r]
    obtain ⟨a1, a2, a3, a4, a5, a6, a7, a8⟩ := m
    dsimp only at hi
    rw [hi]
  · have ht : m.text = emp := by
      rcases h.2 with q | q | q | q | q
      · exact q.2.2.2.2.2.1
      · exact q.2.2.2.2.2.1
      · exact absurd q.1 h3k
      · exact q.2.2.2.2.2.1
      · exact q.2.2.2.2.2.1
    have hn : ((bodyM m).size - 11) / 8 = m.inputs.length := by
      rw [hs, ht]
      have : emp.size = 0 := rfl
      omega
    unfold rdM
    rw [k0, k1, k2, k3, k4, k5, k6, k7, k8, k9, e1, e2, if_neg h3k, if_neg h3k, hx, hn, ht, emp_l, chunks_catS h8]
    obtain ⟨a1, a2, a3, a4, a5, a6, a7, a8⟩ := m
    dsimp only at ht
    rw [ht]
/-- What is written is read back. -/
theorem read_form {m : Message} {key : ByteArray} (h : msgOk m) (hk : key.size ≤ 30) : readM (formM m key) key = some m := by
  have e : formM m key = sealT (bodyM m) key ++ bodyM m := if_pos ⟨h, hk⟩
  have e8 := sealT8 (bodyM m) key
  have hx : (formM m key).extract 8 (formM m key).size = bodyM m := by rw [e, ← e8]; exact ext_tail _ _
  have hb := bodyM_size h
  refine readM_yes ?_ (by rw [hx]; exact rd_body h) rfl
  rw [e, ByteArray.size_append, e8, hb]; omega
end Go.K

end

section
set_option linter.unusedVariables false
set_option linter.unusedSimpArgs false
set_option maxHeartbeats 4000000
set_option maxRecDepth 20000
open Go Go.Tm Go.Proofs
namespace Go.K
theorem wf_u8s {n : Nat} {t : TypeId} {zc : List V} {b : Nat} (ht : E.ty t = some ⟨.int .u8, zc, b⟩) {xs : List (List T)} (h : ∀ y ∈ xs, wfT E (n + 1) t y) : ∃ l : List Int, xs = l.map b1T ∧ ∀ x ∈ l, 0 ≤ x ∧ x ≤ 255 :=
  map_of (f := b1T) (p := fun x => 0 ≤ x ∧ x ≤ 255) fun y hy => by
    have h1 := h y hy
    simp only [wfT, ht] at h1
    obtain ⟨m, hm, h2, h3⟩ := h1
    exact ⟨m, hm, h2, h3⟩
end Go.K

end

section
set_option linter.unusedVariables false
set_option linter.unusedSimpArgs false
set_option maxHeartbeats 4000000
set_option maxRecDepth 20000
open Go Go.Tm Go.Proofs
namespace Go.K
attribute [local irreducible] ByteArray.extract
theorem readM_ok {s key : ByteArray} {m : Message} (h : readM s key = some m) : msgOk m := by
  unfold readM at h
  by_cases h0 : s.size < 19
  · rw [if_pos (Or.inl h0)] at h; cases h
  · by_cases h1 : formM (rdM (s.extract 8 s.size)) key = s
    · rw [if_neg (by rintro (h | h); exact h0 h; exact h h1)] at h
      cases h
      exact ((form_iff h0).1 h1).1
    · rw [if_pos (Or.inr h1)] at h; cases h
end Go.K

end

section
set_option linter.unusedVariables false
set_option linter.unusedSimpArgs false
set_option maxHeartbeats 4000000
set_option maxRecDepth 20000
open Go Go.Tm Go.Proofs
namespace Go.K
attribute [local irreducible] ByteArray.extract
theorem c_laws_wList (xs ys : List ByteArray) (hl : xs.length ≤ 9223372036854775806) : F n_laws_wList [.val (.t (strs xs)), .val (.t (strs ys))] (.b (decide (xs = ys))) [[], []] := by
  refine i_laws_wList ?_
  conv => whnf
  refine g 0 0 [] ?_
  conv => whnf
  refine ⟨⟨I, I⟩, ?_⟩
  refine W.sq ?_
  refine g 6 10 [] ?_
  conv => whnf
  refine ⟨⟨I, I, I, I, I, I⟩, ?_⟩
  refine W.cn ?_
  conv => whnf
  refine ⟨fun h1 => ?_, fun h1 => ?_⟩
  replace h1 := ndt h1
  simp only [List.length_map] at h1
  refine g 10 11 [] ?_
  conv => whnf
  refine ⟨⟨I, I⟩, ?_⟩
  refine W.ret ?_
  refine EndsW.rt ?_
  conv => whnf
  refine ⟨⟨I, I, I⟩, ?_, rfl⟩
  rotate_left 1
  replace h1 := ndf h1
  simp only [List.length_map] at h1
  refine W.skip ?_
  refine W.sq ?_
  refine g 10 11 [] ?_
  conv => whnf
  refine ⟨⟨I, I⟩, ?_⟩
  refine W.blk ?_
  rotate_left 1
  · exact vbf (fun e => h1 (by rw [e]))
  refine W.lp (fun s (n : Nat) => ⟨[(0, s.s 0), (1, s.s 1), (5, .i n)], [], []⟩) (fun (n : Nat) => n ≤ xs.length ∧ xs.take n = ys.take n) (fun (n : Nat) => xs.length - n) (0) [] [] ⟨rfl, ⟨rfl, rfl, rfl, I⟩, I, I⟩ (by simp) ?_
  rintro n ⟨hn, hc⟩
  conv => whnf
  refine W.sq ?_
  refine g 11 14 [] ?_
  conv => whnf
  refine ⟨⟨I, I, I, I, I⟩, ?_⟩
  refine W.cn ?_
  conv => whnf
  refine ⟨fun h2 => ?_, fun h2 => ?_⟩
  replace h2 := dt h2
  simp only [List.length_map] at h2
  refine W.skip ?_
  refine W.sq ?_
  refine W.blk ?_
  obtain ⟨y1, hy1⟩ := some_at (xs := xs) (n := n) (by omega)
  obtain ⟨y2, hy2⟩ := some_at (xs := ys) (n := n) (by omega)
  refine gd 14 25 [[], [], [.x (strT y1)], [], [], [], [.x (strT y2)], [], []] ?_
  conv => whnf
  refine ⟨⟨I, I, ⟨(by omega), ixl (by assumption)⟩, I, I, I, ⟨(by omega), ixl (by assumption)⟩, I, I, I⟩, by kernel_rfl, ?_⟩
  refine W.cn ?_
  conv => whnf
  refine ⟨fun h3 => ?_, fun h3 => ?_⟩
  replace h3 := ndt h3
  refine g 25 26 [] ?_
  conv => whnf
  refine ⟨⟨I, I⟩, ?_⟩
  refine W.ret ?_
  refine EndsW.rt ?_
  conv => whnf
  refine ⟨⟨I, I, I⟩, ?_, rfl⟩
  rotate_left 1
  replace h3 := ndf h3
  refine W.skip ?_
  refine rg [.i ((↑n : Int) + (1 : Int))] ?_
  conv => whnf
  refine ⟨⟨I, w64 (by omega) (by omega), I, I⟩, ?_⟩
  rotate_left 1
  replace h2 := df h2
  simp only [List.length_map] at h2
  refine W.exit ?_
  refine g 0 2 [] ?_
  conv => whnf
  refine ⟨⟨I, I⟩, ?_⟩
  refine W.ret ?_
  refine EndsW.rt ?_
  conv => whnf
  refine ⟨⟨I, I, I⟩, ?_, rfl⟩
  rotate_left 1
  · exact vbf (fun e => by subst e; rw [hy1] at hy2; cases hy2; exact h3 rfl)
  · refine ⟨n + 1, [], [], ⟨rfl, ⟨rfl, rfl, rfl, I⟩, I, I⟩, ?_, ?_⟩
    rotate_left 1
    (dsimp only; omega)
    dsimp only
    exact ⟨by omega, take_eq hc hy1 (by rw [hy2]; exact congrArg some (Eq.symm h3))⟩
  · exact vbt (by rw [take_all (by omega), take_all (by omega)] at hc; exact hc)
theorem c_laws_wMessage (a : Message) (hl : a.inputs.length ≤ 9223372036854775806) : F n_laws_wMessage [.val (messageR a), .val (messageR a)] (.b true) [[], []] := by
  have c := c_laws_wList a.inputs a.inputs hl
  rw [decide_eq_true rfl] at c
  refine i_laws_wMessage ?_
  conv => whnf
  refine g 0 2 [] ?_
  conv => whnf
  refine ⟨⟨⟨I, I, I, I, I, I, I, I, I⟩, ⟨I, I, I, I, I, I, I, I, I⟩, I, I⟩, ?_⟩
  refine g 5 59 [.b (true), .b (true), .b (true), .b (true), .b (true), .b (true), .b (true), .b (true), .b (true), .b (true), .b (true), .b (true), .b (true), .b (true), .b (true), .b (true), .b (true), .b (true), .b (true), .b (true), .b (true), .b (true), .b (true), .b (true), .b (true), .b (true), .b (true), .b (true), .b (true), .b (true), .b (true), .b (true), .b (true), .b (true), .b (true), .b (true), .b (true), .b (true), .b (true), .b (true), .b (true), .call (V.b true) ([[], []]), .b (true)] ?_
  conv => whnf
  refine ⟨⟨I, I, I, I, I, I, ⟨decide_eq_true (by omega), I⟩, ⟨decide_eq_true (by omega), I⟩, ⟨decide_eq_true (by omega), I⟩, ⟨decide_eq_true (by omega), I⟩, ⟨decide_eq_true (by omega), I⟩, decide_eq_true (by omega), I, ⟨decide_eq_true (by omega), I⟩, ⟨decide_eq_true (by omega), I⟩, ⟨decide_eq_true (by omega), I⟩, ⟨decide_eq_true (by omega), I⟩, ⟨decide_eq_true (by omega), I⟩, decide_eq_true (by omega), I, ⟨decide_eq_true (by omega), I⟩, ⟨decide_eq_true (by omega), I⟩, ⟨decide_eq_true (by omega), I⟩, ⟨decide_eq_true (by omega), I⟩, ⟨decide_eq_true (by omega), I⟩, decide_eq_true (by omega), I, ⟨decide_eq_true (by omega), I⟩, ⟨decide_eq_true (by omega), I⟩, ⟨decide_eq_true (by omega), I⟩, ⟨decide_eq_true (by omega), I⟩, ⟨decide_eq_true (by omega), I⟩, decide_eq_true (by omega), I, ⟨decide_eq_true (by omega), I⟩, ⟨decide_eq_true (by omega), I⟩, ⟨decide_eq_true (by omega), I⟩, ⟨decide_eq_true (by omega), I⟩, ⟨decide_eq_true (by omega), I⟩, decide_eq_true (by omega), I, ⟨decide_eq_true (by omega), I⟩, ⟨decide_eq_true (by omega), I⟩, ⟨decide_eq_true (by omega), I⟩, ⟨decide_eq_true (by omega), I⟩, ⟨decide_eq_true (by omega), I⟩, decide_eq_true (by omega), I, ⟨decide_eq_true rfl, I⟩, ⟨decide_eq_true rfl, I⟩, ⟨decide_eq_true rfl, I⟩, ⟨decide_eq_true rfl, I⟩, ⟨decide_eq_true rfl, ⟨I, I, I⟩, I, ⟨⟨I, I⟩, ⟨I, I⟩, I⟩, ⟨I, I⟩, (by assumption)⟩, decide_eq_true rfl, I, I⟩, ?_⟩
  refine W.ret ?_
  refine EndsW.rt ?_
  conv => whnf
  refine ⟨⟨I, I, I⟩, ?_, rfl⟩
  rfl
theorem readM_form {t k : ByteArray} {x : Message} (h : readM t k = some x) : formM x k = t := by
  unfold readM at h
  by_cases h0 : t.size < 19 ∨ formM (rdM (t.extract 8 t.size)) k ≠ t
  · rw [if_pos h0] at h; cases h
  · rw [if_neg h0] at h
    cases h
    by_cases e : formM (rdM (t.extract 8 t.size)) k = t
    · exact e
    · exact absurd (Or.inr e) h0
theorem l_FnMessages (l : List Int) (hlen : l.length ≤ 9223372036854775807) (h8 : ∀ x ∈ l, 0 ≤ x ∧ x ≤ 255) : F n_laws_FnMessages [.val (.t (u8s l))] (.b true) [[]] := by
  by_cases h : l.length ≤ 1048576
  · have hD := c_spec_DrawFormMessage l h h8
    obtain ⟨m1, m2⟩ := drawFM_ok l
    revert hD m1 m2
    generalize (drawFM l).1 = m
    generalize (drawFM l).2 = key
    intro hD m1 m2
    obtain ⟨res, outs, ⟨t, k, rfl, rfl, t1, t2⟩, hR⟩ := ex_DrawRM l h h8
    have f1 := c_impl_FormMessage m key (by have := m1.1; omega)
    have f2 := c_spec_FormMessage m key (by have := m1.1; omega)
    have hf := form_small m1 key
    have g1 := c_impl_ReadMessage t k (by omega)
    have g2 := c_spec_ReadMessage t k (by omega)
    by_cases hs : formM m key = emp
    · rw [hs] at f1 f2
      cases hr : readM t k with
      | none =>
        rw [hr] at g1 g2
        refine i_laws_FnMessages ?_
        conv => whnf
        refine g 0 0 [] ?_
        conv => whnf
        refine ⟨⟨I, I⟩, ?_⟩
        refine W.sq ?_
        refine g 18 20 [] ?_
        conv => whnf
        refine ⟨⟨I, I, I, I⟩, ?_⟩
        refine W.cn ?_
        conv => whnf
        refine ⟨fun h1 => ?_, fun h1 => ?_⟩
        replace h1 := dt h1
        simp only [List.length_map] at h1
        omega
        replace h1 := df h1
        simp only [List.length_map] at h1
        refine W.skip ?_
        refine g 20 26 [.call (V.tup [messageO m, V.s key]) ([[]])] ?_
        conv => whnf
        refine ⟨⟨I, ⟨⟨I, I⟩, I, ⟨⟨I, I⟩, I⟩, ⟨I, I⟩, (by assumption)⟩, I, I, I, I, ⟨I, I, I, I, I, I, I, I, I⟩, I, I⟩, ?_⟩
        refine g 26 29 [.call (V.s emp) ([[], []])] ?_
        conv => whnf
        refine ⟨⟨I, I, ⟨⟨I, I, I⟩, I, ⟨⟨I, I, I, I, I, I, I, I, I⟩, ⟨I, I⟩, I⟩, ⟨I, I⟩, (by assumption)⟩, I, I⟩, ?_⟩
        refine W.sq ?_
        refine g 29 33 [.call (V.s emp) ([[], []])] ?_
        conv => whnf
        refine ⟨⟨I, I, I, ⟨⟨I, I, I⟩, I, ⟨⟨I, I, I, I, I, I, I, I, I⟩, ⟨I, I⟩, I⟩, ⟨I, I⟩, (by assumption)⟩, I, I⟩, ?_⟩
        refine W.cn ?_
        conv => whnf
        refine ⟨noT (rfl), fun _ => ?_⟩
        refine W.skip ?_
        refine W.sq ?_
        refine g 33 35 [] ?_
        conv => whnf
        refine ⟨⟨I, I, I⟩, ?_⟩
        refine W.cn ?_
        conv => whnf
        refine ⟨noT (rfl), fun _ => ?_⟩
        refine W.skip ?_
        refine g 35 78 [.call (V.tup [V.s t, V.s k]) ([[]])] ?_
        conv => whnf
        refine ⟨⟨I, ⟨⟨I, I⟩, I, ⟨⟨I, I⟩, I⟩, ⟨I, I⟩, (by assumption)⟩, I, I, I, I, I, I⟩, ?_⟩
        refine g 78 84 [.call (tupM none) ([[], []])] ?_
        conv => whnf
        refine ⟨⟨I, I, ⟨⟨I, I, I⟩, I, ⟨⟨I, I⟩, ⟨I, I⟩, I⟩, ⟨I, I⟩, (by assumption)⟩, I, I, I, I, ⟨I, I, I, I, I, I, I, I, I⟩, I, I⟩, ?_⟩
        refine g 84 90 [.call (tupM none) ([[], []])] ?_
        conv => whnf
        refine ⟨⟨I, I, ⟨⟨I, I, I⟩, I, ⟨⟨I, I⟩, ⟨I, I⟩, I⟩, ⟨I, I⟩, (by assumption)⟩, I, I, I, I, ⟨I, I, I, I, I, I, I, I, I⟩, I, I⟩, ?_⟩
        refine g 5 104 [.b (true), .b (true), .b (true), .b (true), .b (true), .b (true), .b (true), .b (true), .b (true), .b (true), .b (true)] ?_
        conv => whnf
        refine ⟨⟨I, I, I, I, ⟨rfl, I⟩, ⟨rfl, I⟩, ⟨rfl, I⟩, rfl, rfl, rfl, rfl, rfl, ⟨rfl, rfl⟩, rfl, I, I⟩, ?_⟩
        refine W.ret ?_
        refine EndsW.rt ?_
        conv => whnf
        refine ⟨⟨I, I, I⟩, ?_, rfl⟩
        rfl
      | some x =>
        rw [hr] at g1 g2
        have f3 := c_impl_FormMessage x k (by have := (ok_inputs (readM_ok hr)).1; omega)
        rw [readM_form hr] at f3
        refine i_laws_FnMessages ?_
        conv => whnf
        refine g 0 0 [] ?_
        conv => whnf
        refine ⟨⟨I, I⟩, ?_⟩
        refine W.sq ?_
        refine g 18 20 [] ?_
        conv => whnf
        refine ⟨⟨I, I, I, I⟩, ?_⟩
        refine W.cn ?_
        conv => whnf
        refine ⟨fun h1 => ?_, fun h1 => ?_⟩
        replace h1 := dt h1
        simp only [List.length_map] at h1
        omega
        replace h1 := df h1
        simp only [List.length_map] at h1
        refine W.skip ?_
        refine g 20 26 [.call (V.tup [messageO m, V.s key]) ([[]])] ?_
        conv => whnf
        refine ⟨⟨I, ⟨⟨I, I⟩, I, ⟨⟨I, I⟩, I⟩, ⟨I, I⟩, (by assumption)⟩, I, I, I, I, ⟨I, I, I, I, I, I, I, I, I⟩, I, I⟩, ?_⟩
        refine g 26 29 [.call (V.s emp) ([[], []])] ?_
        conv => whnf
        refine ⟨⟨I, I, ⟨⟨I, I, I⟩, I, ⟨⟨I, I, I, I, I, I, I, I, I⟩, ⟨I, I⟩, I⟩, ⟨I, I⟩, (by assumption)⟩, I, I⟩, ?_⟩
        refine W.sq ?_
        refine g 29 33 [.call (V.s emp) ([[], []])] ?_
        conv => whnf
        refine ⟨⟨I, I, I, ⟨⟨I, I, I⟩, I, ⟨⟨I, I, I, I, I, I, I, I, I⟩, ⟨I, I⟩, I⟩, ⟨I, I⟩, (by assumption)⟩, I, I⟩, ?_⟩
        refine W.cn ?_
        conv => whnf
        refine ⟨noT (rfl), fun _ => ?_⟩
        refine W.skip ?_
        refine W.sq ?_
        refine g 33 35 [] ?_
        conv => whnf
        refine ⟨⟨I, I, I⟩, ?_⟩
        refine W.cn ?_
        conv => whnf
        refine ⟨noT (rfl), fun _ => ?_⟩
        refine W.skip ?_
        refine g 35 78 [.call (V.tup [V.s t, V.s k]) ([[]])] ?_
        conv => whnf
        refine ⟨⟨I, ⟨⟨I, I⟩, I, ⟨⟨I, I⟩, I⟩, ⟨I, I⟩, (by assumption)⟩, I, I, I, I, I, I⟩, ?_⟩
        refine g 78 84 [.call (tupM (some x)) ([[], []])] ?_
        conv => whnf
        refine ⟨⟨I, I, ⟨⟨I, I, I⟩, I, ⟨⟨I, I⟩, ⟨I, I⟩, I⟩, ⟨I, I⟩, (by assumption)⟩, I, I, I, I, ⟨I, I, I, I, I, I, I, I, I⟩, I, I⟩, ?_⟩
        refine g 84 90 [.call (tupM (some x)) ([[], []])] ?_
        conv => whnf
        refine ⟨⟨I, I, ⟨⟨I, I, I⟩, I, ⟨⟨I, I⟩, ⟨I, I⟩, I⟩, ⟨I, I⟩, (by assumption)⟩, I, I, I, I, ⟨I, I, I, I, I, I, I, I, I⟩, I, I⟩, ?_⟩
        refine g 5 104 [.b (true), .b (true), .b (true), .b (false), .b (false), .b (false), .call (V.s t) ([[], []]), .b (false), .b (false), .b (true), .b (false), .b (true)] ?_
        conv => whnf
        refine ⟨⟨I, I, I, I, ⟨rfl, I⟩, ⟨rfl, I⟩, ⟨rfl, I⟩, ⟨rfl, I⟩, ⟨rfl, I⟩, ⟨rfl, ⟨I, I, I⟩, I, ⟨⟨I, I, I, I, I, I, I, I, I⟩, ⟨I, I⟩, I⟩, ⟨I, I⟩, (by assumption)⟩, ⟨rfl, I⟩, ⟨rfl, I⟩, ⟨rfl, rfl⟩, rfl, I, I⟩, ?_⟩
        refine W.ret ?_
        refine EndsW.rt ?_
        conv => whnf
        refine ⟨⟨I, I, I⟩, ?_, rfl⟩
        (simp [*]; done)
    · have hk : msgOk m ∧ key.size ≤ 30 := by
        by_cases hq : msgOk m ∧ key.size ≤ 30
        · exact hq
        · exact absurd (if_neg hq) hs
      have hz : (⟨#[122]⟩ : ByteArray).size = 1 := rfl
      have q1 := c_impl_ReadMessage (formM m key) key (by omega)
      rw [read_form hk.1 hk.2] at q1
      have w1 := c_laws_wMessage m (by have := m1.1; omega)
      have q2 := c_impl_ReadMessage (formM m key) (key ++ ⟨#[122]⟩) (by omega)
      have q3 := c_spec_ReadMessage (formM m key) (key ++ ⟨#[122]⟩) (by omega)
      cases hr2 : readM (formM m key) (key ++ ⟨#[122]⟩) with
      | none =>
        rw [hr2] at q2 q3
        have w2 := c_laws_wMessage noMessage (Nat.zero_le _)
        cases hr : readM t k with
        | none =>
          rw [hr] at g1 g2
          refine i_laws_FnMessages ?_
          conv => whnf
          refine g 0 0 [] ?_
          conv => whnf
          refine ⟨⟨I, I⟩, ?_⟩
          refine W.sq ?_
          refine g 18 20 [] ?_
          conv => whnf
          refine ⟨⟨I, I, I, I⟩, ?_⟩
          refine W.cn ?_
          conv => whnf
          refine ⟨fun h1 => ?_, fun h1 => ?_⟩
          replace h1 := dt h1
          simp only [List.length_map] at h1
          omega
          replace h1 := df h1
          simp only [List.length_map] at h1
          refine W.skip ?_
          refine g 20 26 [.call (V.tup [messageO m, V.s key]) ([[]])] ?_
          conv => whnf
          refine ⟨⟨I, ⟨⟨I, I⟩, I, ⟨⟨I, I⟩, I⟩, ⟨I, I⟩, (by assumption)⟩, I, I, I, I, ⟨I, I, I, I, I, I, I, I, I⟩, I, I⟩, ?_⟩
          refine g 26 29 [.call (V.s (formM m key)) ([[], []])] ?_
          conv => whnf
          refine ⟨⟨I, I, ⟨⟨I, I, I⟩, I, ⟨⟨I, I, I, I, I, I, I, I, I⟩, ⟨I, I⟩, I⟩, ⟨I, I⟩, (by assumption)⟩, I, I⟩, ?_⟩
          refine W.sq ?_
          refine g 29 33 [.call (V.s (formM m key)) ([[], []])] ?_
          conv => whnf
          refine ⟨⟨I, I, I, ⟨⟨I, I, I⟩, I, ⟨⟨I, I, I, I, I, I, I, I, I⟩, ⟨I, I⟩, I⟩, ⟨I, I⟩, (by assumption)⟩, I, I⟩, ?_⟩
          refine W.cn ?_
          conv => whnf
          refine ⟨noT (notF rfl), fun _ => ?_⟩
          refine W.skip ?_
          refine W.sq ?_
          refine g 33 35 [] ?_
          conv => whnf
          refine ⟨⟨I, I, I⟩, ?_⟩
          refine W.cn ?_
          conv => whnf
          refine ⟨fun _ => ?_, noF (notT (by omega))⟩
          refine g 35 42 [.call (tupM (some m)) ([[], []])] ?_
          conv => whnf
          refine ⟨⟨I, I, ⟨⟨I, I, I⟩, I, ⟨⟨I, I⟩, ⟨I, I⟩, I⟩, ⟨I, I⟩, (by assumption)⟩, I, I, I, I, ⟨I, I, I, I, I, I, I, I, I⟩, I, I⟩, ?_⟩
          refine W.sq ?_
          refine g 7 49 [.b (false), .b (false), .b (false), .call (V.b true) ([[], []]), .b (false), .b (false)] ?_
          conv => whnf
          refine ⟨⟨I, I, I, ⟨rfl, I⟩, ⟨rfl, I⟩, ⟨rfl, ⟨I, I, I⟩, I, ⟨⟨I, I, I, I, I, I, I, I, I⟩, ⟨I, I, I, I, I, I, I, I, I⟩, I⟩, ⟨I, I⟩, (by assumption)⟩, ⟨rfl, I⟩, rfl, I⟩, ?_⟩
          refine W.cn ?_
          conv => whnf
          refine ⟨noT (rfl), fun _ => ?_⟩
          refine W.skip ?_
          refine g 49 57 [.s (key ++ { data := #[(122 : UInt8)] : ByteArray }), .call (tupM none) ([[], []])] ?_
          conv => whnf
          refine ⟨⟨I, I, ⟨rfl, (by omega)⟩, ⟨⟨I, I, I⟩, I, ⟨⟨I, I⟩, ⟨I, I⟩, I⟩, ⟨I, I⟩, (by assumption)⟩, I, I, I, I, ⟨I, I, I, I, I, I, I, I, I⟩, I, I⟩, ?_⟩
          refine g 57 64 [.s (key ++ { data := #[(122 : UInt8)] : ByteArray }), .call (tupM none) ([[], []])] ?_
          conv => whnf
          refine ⟨⟨I, I, ⟨rfl, (by omega)⟩, ⟨⟨I, I, I⟩, I, ⟨⟨I, I⟩, ⟨I, I⟩, I⟩, ⟨I, I⟩, (by assumption)⟩, I, I, I, I, ⟨I, I, I, I, I, I, I, I, I⟩, I, I⟩, ?_⟩
          refine g 8 72 [.b (false), .b (false), .b (false), .call (V.b true) ([[], []]), .b (false), .b (false)] ?_
          conv => whnf
          refine ⟨⟨I, I, I, I, ⟨rfl, I⟩, ⟨rfl, I⟩, ⟨rfl, ⟨I, I, I⟩, I, ⟨⟨I, I, I, I, I, I, I, I, I⟩, ⟨I, I, I, I, I, I, I, I, I⟩, I⟩, ⟨I, I⟩, (by assumption)⟩, ⟨rfl, I⟩, rfl, I⟩, ?_⟩
          refine W.cn ?_
          conv => whnf
          refine ⟨noT (rfl), fun _ => ?_⟩
          refine W.skip ?_
          refine g 72 78 [.call (V.tup [V.s t, V.s k]) ([[]])] ?_
          conv => whnf
          refine ⟨⟨I, ⟨⟨I, I⟩, I, ⟨⟨I, I⟩, I⟩, ⟨I, I⟩, (by assumption)⟩, I, I, I, I, I, I⟩, ?_⟩
          refine g 78 84 [.call (tupM none) ([[], []])] ?_
          conv => whnf
          refine ⟨⟨I, I, ⟨⟨I, I, I⟩, I, ⟨⟨I, I⟩, ⟨I, I⟩, I⟩, ⟨I, I⟩, (by assumption)⟩, I, I, I, I, ⟨I, I, I, I, I, I, I, I, I⟩, I, I⟩, ?_⟩
          refine g 84 90 [.call (tupM none) ([[], []])] ?_
          conv => whnf
          refine ⟨⟨I, I, ⟨⟨I, I, I⟩, I, ⟨⟨I, I⟩, ⟨I, I⟩, I⟩, ⟨I, I⟩, (by assumption)⟩, I, I, I, I, ⟨I, I, I, I, I, I, I, I, I⟩, I, I⟩, ?_⟩
          refine g 5 104 [.b (true), .b (true), .b (true), .b (true), .b (true), .b (true), .b (true), .b (true), .b (true), .b (true), .b (true)] ?_
          conv => whnf
          refine ⟨⟨I, I, I, I, ⟨rfl, I⟩, ⟨rfl, I⟩, ⟨rfl, I⟩, rfl, rfl, rfl, rfl, rfl, ⟨rfl, rfl⟩, rfl, I, I⟩, ?_⟩
          refine W.ret ?_
          refine EndsW.rt ?_
          conv => whnf
          refine ⟨⟨I, I, I⟩, ?_, rfl⟩
          rfl
        | some x =>
          rw [hr] at g1 g2
          have f3 := c_impl_FormMessage x k (by have := (ok_inputs (readM_ok hr)).1; omega)
          rw [readM_form hr] at f3
          refine i_laws_FnMessages ?_
          conv => whnf
          refine g 0 0 [] ?_
          conv => whnf
          refine ⟨⟨I, I⟩, ?_⟩
          refine W.sq ?_
          refine g 18 20 [] ?_
          conv => whnf
          refine ⟨⟨I, I, I, I⟩, ?_⟩
          refine W.cn ?_
          conv => whnf
          refine ⟨fun h1 => ?_, fun h1 => ?_⟩
          replace h1 := dt h1
          simp only [List.length_map] at h1
          omega
          replace h1 := df h1
          simp only [List.length_map] at h1
          refine W.skip ?_
          refine g 20 26 [.call (V.tup [messageO m, V.s key]) ([[]])] ?_
          conv => whnf
          refine ⟨⟨I, ⟨⟨I, I⟩, I, ⟨⟨I, I⟩, I⟩, ⟨I, I⟩, (by assumption)⟩, I, I, I, I, ⟨I, I, I, I, I, I, I, I, I⟩, I, I⟩, ?_⟩
          refine g 26 29 [.call (V.s (formM m key)) ([[], []])] ?_
          conv => whnf
          refine ⟨⟨I, I, ⟨⟨I, I, I⟩, I, ⟨⟨I, I, I, I, I, I, I, I, I⟩, ⟨I, I⟩, I⟩, ⟨I, I⟩, (by assumption)⟩, I, I⟩, ?_⟩
          refine W.sq ?_
          refine g 29 33 [.call (V.s (formM m key)) ([[], []])] ?_
          conv => whnf
          refine ⟨⟨I, I, I, ⟨⟨I, I, I⟩, I, ⟨⟨I, I, I, I, I, I, I, I, I⟩, ⟨I, I⟩, I⟩, ⟨I, I⟩, (by assumption)⟩, I, I⟩, ?_⟩
          refine W.cn ?_
          conv => whnf
          refine ⟨noT (notF rfl), fun _ => ?_⟩
          refine W.skip ?_
          refine W.sq ?_
          refine g 33 35 [] ?_
          conv => whnf
          refine ⟨⟨I, I, I⟩, ?_⟩
          refine W.cn ?_
          conv => whnf
          refine ⟨fun _ => ?_, noF (notT (by omega))⟩
          refine g 35 42 [.call (tupM (some m)) ([[], []])] ?_
          conv => whnf
          refine ⟨⟨I, I, ⟨⟨I, I, I⟩, I, ⟨⟨I, I⟩, ⟨I, I⟩, I⟩, ⟨I, I⟩, (by assumption)⟩, I, I, I, I, ⟨I, I, I, I, I, I, I, I, I⟩, I, I⟩, ?_⟩
          refine W.sq ?_
          refine g 7 49 [.b (false), .b (false), .b (false), .call (V.b true) ([[], []]), .b (false), .b (false)] ?_
          conv => whnf
          refine ⟨⟨I, I, I, ⟨rfl, I⟩, ⟨rfl, I⟩, ⟨rfl, ⟨I, I, I⟩, I, ⟨⟨I, I, I, I, I, I, I, I, I⟩, ⟨I, I, I, I, I, I, I, I, I⟩, I⟩, ⟨I, I⟩, (by assumption)⟩, ⟨rfl, I⟩, rfl, I⟩, ?_⟩
          refine W.cn ?_
          conv => whnf
          refine ⟨noT (rfl), fun _ => ?_⟩
          refine W.skip ?_
          refine g 49 57 [.s (key ++ { data := #[(122 : UInt8)] : ByteArray }), .call (tupM none) ([[], []])] ?_
          conv => whnf
          refine ⟨⟨I, I, ⟨rfl, (by omega)⟩, ⟨⟨I, I, I⟩, I, ⟨⟨I, I⟩, ⟨I, I⟩, I⟩, ⟨I, I⟩, (by assumption)⟩, I, I, I, I, ⟨I, I, I, I, I, I, I, I, I⟩, I, I⟩, ?_⟩
          refine g 57 64 [.s (key ++ { data := #[(122 : UInt8)] : ByteArray }), .call (tupM none) ([[], []])] ?_
          conv => whnf
          refine ⟨⟨I, I, ⟨rfl, (by omega)⟩, ⟨⟨I, I, I⟩, I, ⟨⟨I, I⟩, ⟨I, I⟩, I⟩, ⟨I, I⟩, (by assumption)⟩, I, I, I, I, ⟨I, I, I, I, I, I, I, I, I⟩, I, I⟩, ?_⟩
          refine g 8 72 [.b (false), .b (false), .b (false), .call (V.b true) ([[], []]), .b (false), .b (false)] ?_
          conv => whnf
          refine ⟨⟨I, I, I, I, ⟨rfl, I⟩, ⟨rfl, I⟩, ⟨rfl, ⟨I, I, I⟩, I, ⟨⟨I, I, I, I, I, I, I, I, I⟩, ⟨I, I, I, I, I, I, I, I, I⟩, I⟩, ⟨I, I⟩, (by assumption)⟩, ⟨rfl, I⟩, rfl, I⟩, ?_⟩
          refine W.cn ?_
          conv => whnf
          refine ⟨noT (rfl), fun _ => ?_⟩
          refine W.skip ?_
          refine g 72 78 [.call (V.tup [V.s t, V.s k]) ([[]])] ?_
          conv => whnf
          refine ⟨⟨I, ⟨⟨I, I⟩, I, ⟨⟨I, I⟩, I⟩, ⟨I, I⟩, (by assumption)⟩, I, I, I, I, I, I⟩, ?_⟩
          refine g 78 84 [.call (tupM (some x)) ([[], []])] ?_
          conv => whnf
          refine ⟨⟨I, I, ⟨⟨I, I, I⟩, I, ⟨⟨I, I⟩, ⟨I, I⟩, I⟩, ⟨I, I⟩, (by assumption)⟩, I, I, I, I, ⟨I, I, I, I, I, I, I, I, I⟩, I, I⟩, ?_⟩
          refine g 84 90 [.call (tupM (some x)) ([[], []])] ?_
          conv => whnf
          refine ⟨⟨I, I, ⟨⟨I, I, I⟩, I, ⟨⟨I, I⟩, ⟨I, I⟩, I⟩, ⟨I, I⟩, (by assumption)⟩, I, I, I, I, ⟨I, I, I, I, I, I, I, I, I⟩, I, I⟩, ?_⟩
          refine g 5 104 [.b (true), .b (true), .b (true), .b (false), .b (false), .b (false), .call (V.s t) ([[], []]), .b (false), .b (false), .b (true), .b (false), .b (true)] ?_
          conv => whnf
          refine ⟨⟨I, I, I, I, ⟨rfl, I⟩, ⟨rfl, I⟩, ⟨rfl, I⟩, ⟨rfl, I⟩, ⟨rfl, I⟩, ⟨rfl, ⟨I, I, I⟩, I, ⟨⟨I, I, I, I, I, I, I, I, I⟩, ⟨I, I⟩, I⟩, ⟨I, I⟩, (by assumption)⟩, ⟨rfl, I⟩, ⟨rfl, I⟩, ⟨rfl, rfl⟩, rfl, I, I⟩, ?_⟩
          refine W.ret ?_
          refine EndsW.rt ?_
          conv => whnf
          refine ⟨⟨I, I, I⟩, ?_, rfl⟩
          (simp [*]; done)
      | some y =>
        rw [hr2] at q2 q3
        have w2 := c_laws_wMessage y (by have := (ok_inputs (readM_ok hr2)).1; omega)
        cases hr : readM t k with
        | none =>
          rw [hr] at g1 g2
          refine i_laws_FnMessages ?_
          conv => whnf
          refine g 0 0 [] ?_
          conv => whnf
          refine ⟨⟨I, I⟩, ?_⟩
          refine W.sq ?_
          refine g 18 20 [] ?_
          conv => whnf
          refine ⟨⟨I, I, I, I⟩, ?_⟩
          refine W.cn ?_
          conv => whnf
          refine ⟨fun h1 => ?_, fun h1 => ?_⟩
          replace h1 := dt h1
          simp only [List.length_map] at h1
          omega
          replace h1 := df h1
          simp only [List.length_map] at h1
          refine W.skip ?_
          refine g 20 26 [.call (V.tup [messageO m, V.s key]) ([[]])] ?_
          conv => whnf
          refine ⟨⟨I, ⟨⟨I, I⟩, I, ⟨⟨I, I⟩, I⟩, ⟨I, I⟩, (by assumption)⟩, I, I, I, I, ⟨I, I, I, I, I, I, I, I, I⟩, I, I⟩, ?_⟩
          refine g 26 29 [.call (V.s (formM m key)) ([[], []])] ?_
          conv => whnf
          refine ⟨⟨I, I, ⟨⟨I, I, I⟩, I, ⟨⟨I, I, I, I, I, I, I, I, I⟩, ⟨I, I⟩, I⟩, ⟨I, I⟩, (by assumption)⟩, I, I⟩, ?_⟩
          refine W.sq ?_
          refine g 29 33 [.call (V.s (formM m key)) ([[], []])] ?_
          conv => whnf
          refine ⟨⟨I, I, I, ⟨⟨I, I, I⟩, I, ⟨⟨I, I, I, I, I, I, I, I, I⟩, ⟨I, I⟩, I⟩, ⟨I, I⟩, (by assumption)⟩, I, I⟩, ?_⟩
          refine W.cn ?_
          conv => whnf
          refine ⟨noT (notF rfl), fun _ => ?_⟩
          refine W.skip ?_
          refine W.sq ?_
          refine g 33 35 [] ?_
          conv => whnf
          refine ⟨⟨I, I, I⟩, ?_⟩
          refine W.cn ?_
          conv => whnf
          refine ⟨fun _ => ?_, noF (notT (by omega))⟩
          refine g 35 42 [.call (tupM (some m)) ([[], []])] ?_
          conv => whnf
          refine ⟨⟨I, I, ⟨⟨I, I, I⟩, I, ⟨⟨I, I⟩, ⟨I, I⟩, I⟩, ⟨I, I⟩, (by assumption)⟩, I, I, I, I, ⟨I, I, I, I, I, I, I, I, I⟩, I, I⟩, ?_⟩
          refine W.sq ?_
          refine g 7 49 [.b (false), .b (false), .b (false), .call (V.b true) ([[], []]), .b (false), .b (false)] ?_
          conv => whnf
          refine ⟨⟨I, I, I, ⟨rfl, I⟩, ⟨rfl, I⟩, ⟨rfl, ⟨I, I, I⟩, I, ⟨⟨I, I, I, I, I, I, I, I, I⟩, ⟨I, I, I, I, I, I, I, I, I⟩, I⟩, ⟨I, I⟩, (by assumption)⟩, ⟨rfl, I⟩, rfl, I⟩, ?_⟩
          refine W.cn ?_
          conv => whnf
          refine ⟨noT (rfl), fun _ => ?_⟩
          refine W.skip ?_
          refine g 49 57 [.s (key ++ { data := #[(122 : UInt8)] : ByteArray }), .call (tupM (some y)) ([[], []])] ?_
          conv => whnf
          refine ⟨⟨I, I, ⟨rfl, (by omega)⟩, ⟨⟨I, I, I⟩, I, ⟨⟨I, I⟩, ⟨I, I⟩, I⟩, ⟨I, I⟩, (by assumption)⟩, I, I, I, I, ⟨I, I, I, I, I, I, I, I, I⟩, I, I⟩, ?_⟩
          refine g 57 64 [.s (key ++ { data := #[(122 : UInt8)] : ByteArray }), .call (tupM (some y)) ([[], []])] ?_
          conv => whnf
          refine ⟨⟨I, I, ⟨rfl, (by omega)⟩, ⟨⟨I, I, I⟩, I, ⟨⟨I, I⟩, ⟨I, I⟩, I⟩, ⟨I, I⟩, (by assumption)⟩, I, I, I, I, ⟨I, I, I, I, I, I, I, I, I⟩, I, I⟩, ?_⟩
          refine g 8 72 [.b (false), .b (false), .b (false), .call (V.b true) ([[], []]), .b (false), .b (false)] ?_
          conv => whnf
          refine ⟨⟨I, I, I, I, ⟨rfl, I⟩, ⟨rfl, I⟩, ⟨rfl, ⟨I, I, I⟩, I, ⟨⟨I, I, I, I, I, I, I, I, I⟩, ⟨I, I, I, I, I, I, I, I, I⟩, I⟩, ⟨I, I⟩, (by assumption)⟩, ⟨rfl, I⟩, rfl, I⟩, ?_⟩
          refine W.cn ?_
          conv => whnf
          refine ⟨noT (rfl), fun _ => ?_⟩
          refine W.skip ?_
          refine g 72 78 [.call (V.tup [V.s t, V.s k]) ([[]])] ?_
          conv => whnf
          refine ⟨⟨I, ⟨⟨I, I⟩, I, ⟨⟨I, I⟩, I⟩, ⟨I, I⟩, (by assumption)⟩, I, I, I, I, I, I⟩, ?_⟩
          refine g 78 84 [.call (tupM none) ([[], []])] ?_
          conv => whnf
          refine ⟨⟨I, I, ⟨⟨I, I, I⟩, I, ⟨⟨I, I⟩, ⟨I, I⟩, I⟩, ⟨I, I⟩, (by assumption)⟩, I, I, I, I, ⟨I, I, I, I, I, I, I, I, I⟩, I, I⟩, ?_⟩
          refine g 84 90 [.call (tupM none) ([[], []])] ?_
          conv => whnf
          refine ⟨⟨I, I, ⟨⟨I, I, I⟩, I, ⟨⟨I, I⟩, ⟨I, I⟩, I⟩, ⟨I, I⟩, (by assumption)⟩, I, I, I, I, ⟨I, I, I, I, I, I, I, I, I⟩, I, I⟩, ?_⟩
          refine g 5 104 [.b (true), .b (true), .b (true), .b (true), .b (true), .b (true), .b (true), .b (true), .b (true), .b (true), .b (true)] ?_
          conv => whnf
          refine ⟨⟨I, I, I, I, ⟨rfl, I⟩, ⟨rfl, I⟩, ⟨rfl, I⟩, rfl, rfl, rfl, rfl, rfl, ⟨rfl, rfl⟩, rfl, I, I⟩, ?_⟩
          refine W.ret ?_
          refine EndsW.rt ?_
          conv => whnf
          refine ⟨⟨I, I, I⟩, ?_, rfl⟩
          rfl
        | some x =>
          rw [hr] at g1 g2
          have f3 := c_impl_FormMessage x k (by have := (ok_inputs (readM_ok hr)).1; omega)
          rw [readM_form hr] at f3
          refine i_laws_FnMessages ?_
          conv => whnf
          refine g 0 0 [] ?_
          conv => whnf
          refine ⟨⟨I, I⟩, ?_⟩
          refine W.sq ?_
          refine g 18 20 [] ?_
          conv => whnf
          refine ⟨⟨I, I, I, I⟩, ?_⟩
          refine W.cn ?_
          conv => whnf
          refine ⟨fun h1 => ?_, fun h1 => ?_⟩
          replace h1 := dt h1
          simp only [List.length_map] at h1
          omega
          replace h1 := df h1
          simp only [List.length_map] at h1
          refine W.skip ?_
          refine g 20 26 [.call (V.tup [messageO m, V.s key]) ([[]])] ?_
          conv => whnf
          refine ⟨⟨I, ⟨⟨I, I⟩, I, ⟨⟨I, I⟩, I⟩, ⟨I, I⟩, (by assumption)⟩, I, I, I, I, ⟨I, I, I, I, I, I, I, I, I⟩, I, I⟩, ?_⟩
          refine g 26 29 [.call (V.s (formM m key)) ([[], []])] ?_
          conv => whnf
          refine ⟨⟨I, I, ⟨⟨I, I, I⟩, I, ⟨⟨I, I, I, I, I, I, I, I, I⟩, ⟨I, I⟩, I⟩, ⟨I, I⟩, (by assumption)⟩, I, I⟩, ?_⟩
          refine W.sq ?_
          refine g 29 33 [.call (V.s (formM m key)) ([[], []])] ?_
          conv => whnf
          refine ⟨⟨I, I, I, ⟨⟨I, I, I⟩, I, ⟨⟨I, I, I, I, I, I, I, I, I⟩, ⟨I, I⟩, I⟩, ⟨I, I⟩, (by assumption)⟩, I, I⟩, ?_⟩
          refine W.cn ?_
          conv => whnf
          refine ⟨noT (notF rfl), fun _ => ?_⟩
          refine W.skip ?_
          refine W.sq ?_
          refine g 33 35 [] ?_
          conv => whnf
          refine ⟨⟨I, I, I⟩, ?_⟩
          refine W.cn ?_
          conv => whnf
          refine ⟨fun _ => ?_, noF (notT (by omega))⟩
          refine g 35 42 [.call (tupM (some m)) ([[], []])] ?_
          conv => whnf
          refine ⟨⟨I, I, ⟨⟨I, I, I⟩, I, ⟨⟨I, I⟩, ⟨I, I⟩, I⟩, ⟨I, I⟩, (by assumption)⟩, I, I, I, I, ⟨I, I, I, I, I, I, I, I, I⟩, I, I⟩, ?_⟩
          refine W.sq ?_
          refine g 7 49 [.b (false), .b (false), .b (false), .call (V.b true) ([[], []]), .b (false), .b (false)] ?_
          conv => whnf
          refine ⟨⟨I, I, I, ⟨rfl, I⟩, ⟨rfl, I⟩, ⟨rfl, ⟨I, I, I⟩, I, ⟨⟨I, I, I, I, I, I, I, I, I⟩, ⟨I, I, I, I, I, I, I, I, I⟩, I⟩, ⟨I, I⟩, (by assumption)⟩, ⟨rfl, I⟩, rfl, I⟩, ?_⟩
          refine W.cn ?_
          conv => whnf
          refine ⟨noT (rfl), fun _ => ?_⟩
          refine W.skip ?_
          refine g 49 57 [.s (key ++ { data := #[(122 : UInt8)] : ByteArray }), .call (tupM (some y)) ([[], []])] ?_
          conv => whnf
          refine ⟨⟨I, I, ⟨rfl, (by omega)⟩, ⟨⟨I, I, I⟩, I, ⟨⟨I, I⟩, ⟨I, I⟩, I⟩, ⟨I, I⟩, (by assumption)⟩, I, I, I, I, ⟨I, I, I, I, I, I, I, I, I⟩, I, I⟩, ?_⟩
          refine g 57 64 [.s (key ++ { data := #[(122 : UInt8)] : ByteArray }), .call (tupM (some y)) ([[], []])] ?_
          conv => whnf
          refine ⟨⟨I, I, ⟨rfl, (by omega)⟩, ⟨⟨I, I, I⟩, I, ⟨⟨I, I⟩, ⟨I, I⟩, I⟩, ⟨I, I⟩, (by assumption)⟩, I, I, I, I, ⟨I, I, I, I, I, I, I, I, I⟩, I, I⟩, ?_⟩
          refine g 8 72 [.b (false), .b (false), .b (false), .call (V.b true) ([[], []]), .b (false), .b (false)] ?_
          conv => whnf
          refine ⟨⟨I, I, I, I, ⟨rfl, I⟩, ⟨rfl, I⟩, ⟨rfl, ⟨I, I, I⟩, I, ⟨⟨I, I, I, I, I, I, I, I, I⟩, ⟨I, I, I, I, I, I, I, I, I⟩, I⟩, ⟨I, I⟩, (by assumption)⟩, ⟨rfl, I⟩, rfl, I⟩, ?_⟩
          refine W.cn ?_
          conv => whnf
          refine ⟨noT (rfl), fun _ => ?_⟩
          refine W.skip ?_
          refine g 72 78 [.call (V.tup [V.s t, V.s k]) ([[]])] ?_
          conv => whnf
          refine ⟨⟨I, ⟨⟨I, I⟩, I, ⟨⟨I, I⟩, I⟩, ⟨I, I⟩, (by assumption)⟩, I, I, I, I, I, I⟩, ?_⟩
          refine g 78 84 [.call (tupM (some x)) ([[], []])] ?_
          conv => whnf
          refine ⟨⟨I, I, ⟨⟨I, I, I⟩, I, ⟨⟨I, I⟩, ⟨I, I⟩, I⟩, ⟨I, I⟩, (by assumption)⟩, I, I, I, I, ⟨I, I, I, I, I, I, I, I, I⟩, I, I⟩, ?_⟩
          refine g 84 90 [.call (tupM (some x)) ([[], []])] ?_
          conv => whnf
          refine ⟨⟨I, I, ⟨⟨I, I, I⟩, I, ⟨⟨I, I⟩, ⟨I, I⟩, I⟩, ⟨I, I⟩, (by assumption)⟩, I, I, I, I, ⟨I, I, I, I, I, I, I, I, I⟩, I, I⟩, ?_⟩
          refine g 5 104 [.b (true), .b (true), .b (true), .b (false), .b (false), .b (false), .call (V.s t) ([[], []]), .b (false), .b (false), .b (true), .b (false), .b (true)] ?_
          conv => whnf
          refine ⟨⟨I, I, I, I, ⟨rfl, I⟩, ⟨rfl, I⟩, ⟨rfl, I⟩, ⟨rfl, I⟩, ⟨rfl, I⟩, ⟨rfl, ⟨I, I, I⟩, I, ⟨⟨I, I, I, I, I, I, I, I, I⟩, ⟨I, I⟩, I⟩, ⟨I, I⟩, (by assumption)⟩, ⟨rfl, I⟩, ⟨rfl, I⟩, ⟨rfl, rfl⟩, rfl, I, I⟩, ?_⟩
          refine W.ret ?_
          refine EndsW.rt ?_
          conv => whnf
          refine ⟨⟨I, I, I⟩, ?_, rfl⟩
          (simp [*]; done)
  · refine i_laws_FnMessages ?_
    conv => whnf
    refine g 0 0 [] ?_
    conv => whnf
    refine ⟨⟨I, I⟩, ?_⟩
    refine W.sq ?_
    refine g 18 20 [] ?_
    conv => whnf
    refine ⟨⟨I, I, I, I⟩, ?_⟩
    refine W.cn ?_
    conv => whnf
    refine ⟨fun h1 => ?_, fun h1 => ?_⟩
    replace h1 := dt h1
    simp only [List.length_map] at h1
    refine g 20 21 [] ?_
    conv => whnf
    refine ⟨⟨I, I⟩, ?_⟩
    refine W.ret ?_
    refine EndsW.rt ?_
    conv => whnf
    refine ⟨⟨I, I, I⟩, ?_, rfl⟩
    rfl
    replace h1 := df h1
    simp only [List.length_map] at h1
    omega
end Go.K

end

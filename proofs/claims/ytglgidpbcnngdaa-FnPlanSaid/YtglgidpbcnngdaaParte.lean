/- Contracts of functions of the program: what each call answers. -/
import Derived.Test.YtglgidpbcnngdaaPartd
section
set_option linter.unusedVariables false
set_option linter.unusedSimpArgs false
set_option maxHeartbeats 4000000
set_option maxRecDepth 20000
open Go Go.Tm Go.Proofs
namespace Go.K
def taskMid (t : Task) : Prop := t.name.size ≤ 8192 ∧ t.deps.length ≤ 128
def planMid (p : Plan) : Prop := p.tasks.length ≤ 64 ∧ ∀ t ∈ p.tasks, taskMid t
theorem small_mid {p : Plan} (h : planSmall p) : planMid p := ⟨h.1, fun t ht => ⟨by have := (h.2 t ht).1; omega, by have := (h.2 t ht).2; omega⟩⟩
theorem mid_wf {p : Plan} (h : planMid p) : planWf p := ⟨by have := h.1; omega, fun t ht => ⟨by have := (h.2 t ht).1; omega, by have := (h.2 t ht).2; omega⟩⟩
theorem mid_set {p : Plan} (h : planSmall p) {n : Nat} {t : Task} (ht : taskMid t) : planMid ⟨p.tasks.set n t⟩ := by
  refine ⟨by dsimp only; rw [List.length_set]; exact h.1, fun y hy => ?_⟩
  rcases List.mem_or_eq_of_mem_set hy with hy | rfl
  · exact (small_mid h).2 y hy
  · exact ht
theorem mid_set' {ts : List Task} (h1 : ts.length ≤ 64) (h2 : ∀ t ∈ ts, taskMid t) {n : Nat} {t : Task} (ht : taskMid t) : planMid ⟨ts.set n t⟩ := by
  refine ⟨by dsimp only; rw [List.length_set]; exact h1, fun y hy => ?_⟩
  rcases List.mem_or_eq_of_mem_set hy with hy | rfl
  · exact h2 y hy
  · exact ht
theorem new_mid (c : ByteArray) (hc : c.size = 1) (i : Int) : taskMid ⟨c ++ decS i, 1, []⟩ := by
  have := decS_size i
  exact ⟨by dsimp only; rw [ByteArray.size_append]; omega, Nat.zero_le _⟩
theorem app_mid {ts : List Task} {x : Task} (h : ∀ t ∈ ts, taskMid t) (hx : taskMid x) : ∀ t ∈ ts ++ [x], taskMid t := fun t ht => by
  rcases List.mem_append.1 ht with ht | ht
  · exact h t ht
  · rw [List.mem_singleton.1 ht]; exact hx
theorem len_one {α : Type} (xs : List α) (x : α) : (xs ++ [x]).length = xs.length + 1 := by simp
theorem map_set_task {ts : List Task} {n : Nat} {t : Task} : (ts.map taskT).set n (taskT t) = (ts.set n t).map taskT := by rw [List.map_set]
theorem app_one {xs : List Int} {x : Int} : (xs ++ [x]).map intT = xs.map intT ++ [intT x] := by rw [List.map_append]; rfl
theorem pick_str (xs : List ByteArray) (k : Int) (h0 : 0 ≤ k) (h1 : k < xs.length) : ∃ x, x ∈ xs ∧ (xs.map strT)[k.toNat]? = some (strT x) := by
  obtain ⟨x, hx⟩ := some_at (xs := xs) (n := k.toNat) (by omega)
  exact ⟨x, List.mem_of_getElem? hx, by rw [List.getElem?_map, hx]; rfl⟩
theorem pick_int (xs : List Int) (k : Int) (h0 : 0 ≤ k) (h1 : k < xs.length) : ∃ x, x ∈ xs ∧ (xs.map intT)[k.toNat]? = some (intT x) := by
  obtain ⟨x, hx⟩ := some_at (xs := xs) (n := k.toNat) (by omega)
  exact ⟨x, List.mem_of_getElem? hx, by rw [List.getElem?_map, hx]; rfl⟩
abbrev SpoilOk (l : List Int) (pos : Int) : V → List (List V) → Prop := fun res outs => ∃ p pos2, res = planO p ∧ outs = [rdC l pos2, []] ∧ planMid p ∧ pos ≤ pos2 ∧ pos2 ≤ pos + 100
theorem ex_Spoil (l : List Int) (pos : Int) (p : Plan) (hp : planSmall p) (hl : u8ok l) (h0 : 0 ≤ pos) (h1 : pos ≤ 1000000) : ∃ res outs, SpoilOk l pos res outs ∧ F n_spec_l1Spoil [.ptr (rdC l pos), .val (planO p)] res outs := by
  have hpp := hp
  obtain ⟨hp1, hp2⟩ := hpp
  have cpl := c_spec_l1Plan p hp
  have r0 := pick_rng l pos p.tasks.length
  have r1 := pick_rng l (pos + 1) 7
  by_cases hz : p.tasks.length = 0
  · refine x_spec_l1Spoil ?_
    conv => whnf
    refine g 0 0 [] ?_
    conv => whnf
    refine ⟨⟨⟨I, I⟩, I, I⟩, ?_⟩
    refine g 9 11 [.call (planO p) ([[]])] ?_
    conv => whnf
    refine ⟨⟨I, ⟨⟨I, I⟩, I, ⟨⟨I, I⟩, I⟩, ⟨I, I⟩, (by assumption)⟩, I, ⟨I, I⟩, I⟩, ?_⟩
    refine g 11 16 [.call (V.i (pickV l pos (↑(List.length (List.map taskT (Plan.tasks p))) : Int))) ([rdC l (pos + (1 : Int)), []])] ?_
    conv => whnf
    refine ⟨⟨I, I, I, I, ⟨⟨I, I, I⟩, I, ⟨I, ⟨I, I⟩, I⟩, ⟨I, I⟩, Go.K.c_spec_l1Rd_pick _ _ _ (by first | omega | decide | assumption | (simp only [ByteArray.size_extract, List.length_map]; omega) | simp [*]) (by first | omega | decide | assumption | (simp only [ByteArray.size_extract, List.length_map]; omega) | simp [*]) (by first | omega | decide | assumption | (simp only [ByteArray.size_extract, List.length_map]; omega) | simp [*]) (by first | omega | decide | assumption | (simp only [ByteArray.size_extract, List.length_map]; omega) | simp [*])⟩, I, I⟩, ?_⟩
    refine W.sq ?_
    refine g 16 19 [] ?_
    conv => whnf
    refine ⟨⟨I, I, I, I, I⟩, ?_⟩
    refine W.cn ?_
    conv => whnf
    refine ⟨fun _ => ?_, noF (by simp [*])⟩
    refine g 19 21 [] ?_
    conv => whnf
    refine ⟨⟨I, ⟨I, I⟩, I⟩, ?_⟩
    refine W.ret ?_
    refine EndsW.rt ?_
    conv => whnf
    refine ⟨⟨I, I, I⟩, ?_⟩
    exact ⟨p, _, rfl, rfl, small_mid hp, by omega, by omega⟩
  · obtain ⟨kk, hkk⟩ := Int.eq_ofNat_of_zero_le r0.1
    obtain ⟨t, ht⟩ := some_at (xs := p.tasks) (n := kk) (by omega)
    have ck : F n_spec_l1Rd_pick [.ptr (rdC l pos), .val (.i ((p.tasks.map taskT).length : Int))] (.i (kk : Int)) [rdC l (pos + 1), []] := by
      have := c_spec_l1Rd_pick l pos p.tasks.length hl h0 (by omega) (by omega)
      rw [hkk] at this
      rw [List.length_map]; exact this
    have hkl : kk < p.tasks.length := by omega
    have hts := hp2 t (List.mem_of_getElem? ht)
    obtain ⟨t0, ht0⟩ := some_at (xs := p.tasks) (n := 0) (by omega)
    have hts0 := hp2 t0 (List.mem_of_getElem? ht0)
    by_cases c0 : pickV l (pos + 1) 7 = 0
    · have r2 := pick_rng l (pos + 1 + 1) 5
      have m1 := many_size ⟨#[110]⟩ 30
      have m2 := many_size ⟨#[110]⟩ 31
      obtain ⟨x, hx1, hx2⟩ := pick_str [⟨#[]⟩, ⟨#[97, 32, 98]⟩, t0.name, manyS ⟨#[110]⟩ 30, manyS ⟨#[110]⟩ 31] (pickV l (pos + 1 + 1) 5) r2.1 (by show _ < (5 : Int); omega)
      have hx3 : ([[T.s ⟨#[]⟩], [T.s ⟨#[97, 32, 98]⟩], [T.s t0.name], [T.s (manyS ⟨#[110]⟩ 30)], [T.s (manyS ⟨#[110]⟩ 31)]] : List (List T))[(pickV l (pos + 1 + 1) 5).toNat]? = some [T.s x] := hx2
      refine x_spec_l1Spoil ?_
      conv => whnf
      refine g 0 0 [] ?_
      conv => whnf
      refine ⟨⟨⟨I, I⟩, I, I⟩, ?_⟩
      refine g 9 11 [.call (planO p) ([[]])] ?_
      conv => whnf
      refine ⟨⟨I, ⟨⟨I, I⟩, I, ⟨⟨I, I⟩, I⟩, ⟨I, I⟩, (by assumption)⟩, I, ⟨I, I⟩, I⟩, ?_⟩
      refine g 11 16 [.call (V.i (↑kk : Int)) ([rdC l (pos + (1 : Int)), []])] ?_
      conv => whnf
      refine ⟨⟨I, I, I, I, ⟨⟨I, I, I⟩, I, ⟨I, ⟨I, I⟩, I⟩, ⟨I, I⟩, (by assumption)⟩, I, I⟩, ?_⟩
      refine W.sq ?_
      refine g 16 19 [] ?_
      conv => whnf
      refine ⟨⟨I, I, I, I, I⟩, ?_⟩
      refine W.cn ?_
      conv => whnf
      refine ⟨noT (by simp [*]), fun _ => ?_⟩
      refine W.skip ?_
      refine W.sq ?_
      refine g 19 22 [.call (V.i (pickV l (pos + (1 : Int)) (7 : Int))) ([rdC l (pos + (1 : Int) + (1 : Int)), []])] ?_
      conv => whnf
      refine ⟨⟨I, ⟨⟨I, I, I⟩, I, ⟨I, ⟨I, I⟩, I⟩, ⟨I, I⟩, Go.K.c_spec_l1Rd_pick _ _ _ (by omega) (by omega) (by omega) (by omega)⟩, I⟩, ?_⟩
      refine W.blk ?_
      refine g 36 37 [] ?_
      conv => whnf
      refine ⟨⟨I, I, I⟩, ?_⟩
      refine W.cn ?_
      conv => whnf
      refine ⟨fun _ => ?_, noF (decide_eq_true (by omega))⟩
      refine rgd [[], [], [], [], [], [.n ((0 : Nat))], [], [.x (taskT t0)], [.call (V.s (manyS { data := #[(110 : UInt8)] : ByteArray } (30 : Int))) ([[], []])], [.call (V.s (manyS { data := #[(110 : UInt8)] : ByteArray } (31 : Int))) ([[], []])], [], [], [.call (V.i (pickV l (pos + (1 : Int) + (1 : Int)) (5 : Int))) ([rdC l (pos + (1 : Int) + (1 : Int) + (1 : Int)), []])], [.n (Int.toNat (pickV l (pos + (1 : Int) + (1 : Int)) (5 : Int)))], [.x ([T.s x])], [.n (kk)], [], [.x (taskT t)]] ?_
      conv => whnf
      refine ⟨⟨I, I, I, I, I, ⟨rfl, (by simp only [List.length_map, List.length_append, List.length_set, List.length_replicate, List.length_cons, List.length_nil, List.length_take, List.length_drop, fill_len, fillI_len, List.length_range, bytesT_len]; omega)⟩, I, ixl (by assumption), ⟨⟨I, I, I⟩, I, ⟨⟨I, I⟩, ⟨I, I⟩, I⟩, ⟨I, I⟩, Go.K.c_spec_l1Many _ _ (by decide) (by decide) (by decide)⟩, ⟨⟨I, I, I⟩, I, ⟨⟨I, I⟩, ⟨I, I⟩, I⟩, ⟨I, I⟩, Go.K.c_spec_l1Many _ _ (by decide) (by decide) (by decide)⟩, ⟨⟨I, I⟩, ⟨I, I⟩, ⟨I, I⟩, ⟨I, I⟩, ⟨I, I⟩, I⟩, I, ⟨⟨I, I, I⟩, I, ⟨I, ⟨I, I⟩, I⟩, ⟨I, I⟩, Go.K.c_spec_l1Rd_pick _ _ _ (by omega) (by omega) (by omega) (by omega)⟩, ⟨(by omega), (by simp only [List.length_map, List.length_append, List.length_set, List.length_replicate, List.length_cons, List.length_nil, List.length_take, List.length_drop, fill_len, fillI_len, List.length_range, bytesT_len]; omega)⟩, (by assumption), ⟨rfl, (by simp only [List.length_map, List.length_append, List.length_set, List.length_replicate, List.length_cons, List.length_nil, List.length_take, List.length_drop, fill_len, fillI_len, List.length_range, bytesT_len]; omega)⟩, I, ⟨⟨I, I⟩, ixl (by assumption)⟩, I⟩, by kernel_rfl, ?_⟩
      refine g 5 140 [] ?_
      conv => whnf
      refine ⟨⟨I, ⟨I, I⟩, I⟩, ?_⟩
      refine W.ret ?_
      refine EndsW.rt ?_
      conv => whnf
      refine ⟨⟨I, I, I⟩, ?_⟩
      have hxs : x.size ≤ 8192 := by
        have e1 : (⟨#[]⟩ : ByteArray).size = 0 := rfl
        have e2 : (⟨#[97, 32, 98]⟩ : ByteArray).size = 3 := rfl
        simp only [List.mem_cons, List.not_mem_nil, or_false] at hx1
        rcases hx1 with rfl | rfl | rfl | rfl | rfl <;> omega
      exact ⟨⟨p.tasks.set kk ⟨x, t.cost, t.deps⟩⟩, _, congrArg (fun z => V.agg [V.own taskK z]) (map_set_task (t := ⟨x, t.cost, t.deps⟩)), rfl, mid_set hp ⟨hxs, by dsimp only; omega⟩, by omega, by omega⟩
    · by_cases c1 : pickV l (pos + 1) 7 = 1
      · have r2 := pick_rng l (pos + 1 + 1) 4
        obtain ⟨x, hx1, hx2⟩ := pick_int [0, -1, 20, 21] (pickV l (pos + 1 + 1) 4) r2.1 (by show _ < (4 : Int); omega)
        have hx3 : ([[T.i 0], [T.i (-1)], [T.i 20], [T.i 21]] : List (List T))[(pickV l (pos + 1 + 1) 4).toNat]? = some [T.i x] := hx2
        refine x_spec_l1Spoil ?_
        conv => whnf
        refine g 0 0 [] ?_
        conv => whnf
        refine ⟨⟨⟨I, I⟩, I, I⟩, ?_⟩
        refine g 9 11 [.call (planO p) ([[]])] ?_
        conv => whnf
        refine ⟨⟨I, ⟨⟨I, I⟩, I, ⟨⟨I, I⟩, I⟩, ⟨I, I⟩, (by assumption)⟩, I, ⟨I, I⟩, I⟩, ?_⟩
        refine g 11 16 [.call (V.i (↑kk : Int)) ([rdC l (pos + (1 : Int)), []])] ?_
        conv => whnf
        refine ⟨⟨I, I, I, I, ⟨⟨I, I, I⟩, I, ⟨I, ⟨I, I⟩, I⟩, ⟨I, I⟩, (by assumption)⟩, I, I⟩, ?_⟩
        refine W.sq ?_
        refine g 16 19 [] ?_
        conv => whnf
        refine ⟨⟨I, I, I, I, I⟩, ?_⟩
        refine W.cn ?_
        conv => whnf
        refine ⟨noT (by simp [*]), fun _ => ?_⟩
        refine W.skip ?_
        refine W.sq ?_
        refine g 19 22 [.call (V.i (pickV l (pos + (1 : Int)) (7 : Int))) ([rdC l (pos + (1 : Int) + (1 : Int)), []])] ?_
        conv => whnf
        refine ⟨⟨I, ⟨⟨I, I, I⟩, I, ⟨I, ⟨I, I⟩, I⟩, ⟨I, I⟩, Go.K.c_spec_l1Rd_pick _ _ _ (by omega) (by omega) (by omega) (by omega)⟩, I⟩, ?_⟩
        refine W.blk ?_
        refine g 36 37 [] ?_
        conv => whnf
        refine ⟨⟨I, I, I⟩, ?_⟩
        refine W.cn ?_
        conv => whnf
        refine ⟨noT (decide_eq_false (by omega)), fun _ => ?_⟩
        refine g 35 36 [] ?_
        conv => whnf
        refine ⟨⟨I, I, I⟩, ?_⟩
        refine W.cn ?_
        conv => whnf
        refine ⟨fun _ => ?_, noF (decide_eq_true (by omega))⟩
        refine rgd [[], [], [], [], [], [.call (V.i (pickV l (pos + (1 : Int) + (1 : Int)) (4 : Int))) ([rdC l (pos + (1 : Int) + (1 : Int) + (1 : Int)), []])], [.n (Int.toNat (pickV l (pos + (1 : Int) + (1 : Int)) (4 : Int)))], [.x ([T.i x])], [.n (kk)], [], [.x (taskT t)]] ?_
        conv => whnf
        refine ⟨⟨I, I, I, ⟨⟨I, I⟩, ⟨I, I⟩, ⟨I, I⟩, ⟨I, I⟩, I⟩, I, ⟨⟨I, I, I⟩, I, ⟨I, ⟨I, I⟩, I⟩, ⟨I, I⟩, Go.K.c_spec_l1Rd_pick _ _ _ (by omega) (by omega) (by omega) (by omega)⟩, ⟨(by omega), (by simp only [List.length_map, List.length_append, List.length_set, List.length_replicate, List.length_cons, List.length_nil, List.length_take, List.length_drop, fill_len, fillI_len, List.length_range, bytesT_len]; omega)⟩, (by assumption), ⟨rfl, (by simp only [List.length_map, List.length_append, List.length_set, List.length_replicate, List.length_cons, List.length_nil, List.length_take, List.length_drop, fill_len, fillI_len, List.length_range, bytesT_len]; omega)⟩, I, ⟨⟨I, I⟩, ixl (by assumption)⟩, I⟩, by kernel_rfl, ?_⟩
        refine g 5 140 [] ?_
        conv => whnf
        refine ⟨⟨I, ⟨I, I⟩, I⟩, ?_⟩
        refine W.ret ?_
        refine EndsW.rt ?_
        conv => whnf
        refine ⟨⟨I, I, I⟩, ?_⟩
        exact ⟨⟨p.tasks.set kk ⟨t.name, x, t.deps⟩⟩, _, congrArg (fun z => V.agg [V.own taskK z]) (map_set_task (t := ⟨t.name, x, t.deps⟩)), rfl, mid_set hp ⟨by dsimp only; omega, by dsimp only; omega⟩, by omega, by omega⟩
      · by_cases c2 : pickV l (pos + 1) 7 = 2
        · have r2 := pick_rng l (pos + 1 + 1) 4
          obtain ⟨x, hx1, hx2⟩ := pick_int [(kk : Int), -1, 0, (kk : Int) + 1] (pickV l (pos + 1 + 1) 4) r2.1 (by show _ < (4 : Int); omega)
          have hx3 : ([[T.i (kk : Int)], [T.i (-1)], [T.i 0], [T.i ((kk : Int) + 1)]] : List (List T))[(pickV l (pos + 1 + 1) 4).toNat]? = some [T.i x] := hx2
          refine x_spec_l1Spoil ?_
          conv => whnf
          refine g 0 0 [] ?_
          conv => whnf
          refine ⟨⟨⟨I, I⟩, I, I⟩, ?_⟩
          refine g 9 11 [.call (planO p) ([[]])] ?_
          conv => whnf
          refine ⟨⟨I, ⟨⟨I, I⟩, I, ⟨⟨I, I⟩, I⟩, ⟨I, I⟩, (by assumption)⟩, I, ⟨I, I⟩, I⟩, ?_⟩
          refine g 11 16 [.call (V.i (↑kk : Int)) ([rdC l (pos + (1 : Int)), []])] ?_
          conv => whnf
          refine ⟨⟨I, I, I, I, ⟨⟨I, I, I⟩, I, ⟨I, ⟨I, I⟩, I⟩, ⟨I, I⟩, (by assumption)⟩, I, I⟩, ?_⟩
          refine W.sq ?_
          refine g 16 19 [] ?_
          conv => whnf
          refine ⟨⟨I, I, I, I, I⟩, ?_⟩
          refine W.cn ?_
          conv => whnf
          refine ⟨noT (by simp [*]), fun _ => ?_⟩
          refine W.skip ?_
          refine W.sq ?_
          refine g 19 22 [.call (V.i (pickV l (pos + (1 : Int)) (7 : Int))) ([rdC l (pos + (1 : Int) + (1 : Int)), []])] ?_
          conv => whnf
          refine ⟨⟨I, ⟨⟨I, I, I⟩, I, ⟨I, ⟨I, I⟩, I⟩, ⟨I, I⟩, Go.K.c_spec_l1Rd_pick _ _ _ (by omega) (by omega) (by omega) (by omega)⟩, I⟩, ?_⟩
          refine W.blk ?_
          refine g 36 37 [] ?_
          conv => whnf
          refine ⟨⟨I, I, I⟩, ?_⟩
          refine W.cn ?_
          conv => whnf
          refine ⟨noT (decide_eq_false (by omega)), fun _ => ?_⟩
          refine g 35 36 [] ?_
          conv => whnf
          refine ⟨⟨I, I, I⟩, ?_⟩
          refine W.cn ?_
          conv => whnf
          refine ⟨noT (decide_eq_false (by omega)), fun _ => ?_⟩
          refine g 54 56 [] ?_
          conv => whnf
          refine ⟨⟨I, I, I⟩, ?_⟩
          refine W.cn ?_
          conv => whnf
          refine ⟨fun _ => ?_, noF (decide_eq_true (by omega))⟩
          refine rgd [[], [], [], [], [], [], [.n (kk)], [], [.x (taskT t)], [], [], [.i ((↑kk : Int) + (1 : Int))], [], [], [.call (V.i (pickV l (pos + (1 : Int) + (1 : Int)) (4 : Int))) ([rdC l (pos + (1 : Int) + (1 : Int) + (1 : Int)), []])], [.n (Int.toNat (pickV l (pos + (1 : Int) + (1 : Int)) (4 : Int)))], [.x ([T.i x])], [], [.x (taskT t)], [.n (kk)], [], [.x (List.set (taskT t) ((0 : Nat) + (2 : Nat)) T.hole)]] ?_
          conv => whnf
          refine ⟨⟨I, I, I, I, I, I, ⟨rfl, (by simp only [List.length_map, List.length_append, List.length_set, List.length_replicate, List.length_cons, List.length_nil, List.length_take, List.length_drop, fill_len, fillI_len, List.length_range, bytesT_len]; omega)⟩, I, ixl (by assumption), I, I, w64 (by omega) (by omega), ⟨⟨I, I⟩, ⟨I, I⟩, ⟨I, I⟩, ⟨I, I⟩, I⟩, I, ⟨⟨I, I, I⟩, I, ⟨I, ⟨I, I⟩, I⟩, ⟨I, I⟩, Go.K.c_spec_l1Rd_pick _ _ _ (by omega) (by omega) (by omega) (by omega)⟩, ⟨(by omega), (by simp only [List.length_map, List.length_append, List.length_set, List.length_replicate, List.length_cons, List.length_nil, List.length_take, List.length_drop, fill_len, fillI_len, List.length_range, bytesT_len]; omega)⟩, (by assumption), ⟨⟨I, I⟩, I⟩, ⟨I, ixl (by assumption), (by simp only [List.length_map, List.length_append, List.length_set, List.length_replicate, List.length_cons, List.length_nil, List.length_take, List.length_drop, fill_len, fillI_len, List.length_range, bytesT_len]; omega)⟩, ⟨rfl, (by simp only [List.length_map, List.length_append, List.length_set, List.length_replicate, List.length_cons, List.length_nil, List.length_take, List.length_drop, fill_len, fillI_len, List.length_range, bytesT_len]; omega)⟩, I, ⟨⟨I, I⟩, getset (by simp only [List.length_map, List.length_append, List.length_set, List.length_replicate, List.length_cons, List.length_nil, List.length_take, List.length_drop, fill_len, fillI_len, List.length_range, bytesT_len]; omega)⟩, I⟩, by kernel_rfl, ?_⟩
          rw [List.set_set]
          refine g 5 140 [] ?_
          conv => whnf
          refine ⟨⟨I, ⟨I, I⟩, I⟩, ?_⟩
          refine W.ret ?_
          refine EndsW.rt ?_
          conv => whnf
          refine ⟨⟨I, I, I⟩, ?_⟩
          exact ⟨⟨p.tasks.set kk ⟨t.name, t.cost, t.deps ++ [x]⟩⟩, _, congrArg (fun z => V.agg [V.own taskK z]) ((congrArg ((p.tasks.map taskT).set kk) (show _ = taskT ⟨t.name, t.cost, t.deps ++ [x]⟩ by show [T.s t.name, T.i t.cost, T.slc [false] (t.deps.map intT ++ [intT x])] = _; rw [← app_one])).trans map_set_task), rfl, mid_set hp ⟨by dsimp only; omega, by dsimp only; rw [List.length_append]; simp; omega⟩, by omega, by omega⟩
        · by_cases c3 : pickV l (pos + 1) 7 = 3
          · refine x_spec_l1Spoil ?_
            conv => whnf
            refine g 0 0 [] ?_
            conv => whnf
            refine ⟨⟨⟨I, I⟩, I, I⟩, ?_⟩
            refine g 9 11 [.call (planO p) ([[]])] ?_
            conv => whnf
            refine ⟨⟨I, ⟨⟨I, I⟩, I, ⟨⟨I, I⟩, I⟩, ⟨I, I⟩, (by assumption)⟩, I, ⟨I, I⟩, I⟩, ?_⟩
            refine g 11 16 [.call (V.i (↑kk : Int)) ([rdC l (pos + (1 : Int)), []])] ?_
            conv => whnf
            refine ⟨⟨I, I, I, I, ⟨⟨I, I, I⟩, I, ⟨I, ⟨I, I⟩, I⟩, ⟨I, I⟩, (by assumption)⟩, I, I⟩, ?_⟩
            refine W.sq ?_
            refine g 16 19 [] ?_
            conv => whnf
            refine ⟨⟨I, I, I, I, I⟩, ?_⟩
            refine W.cn ?_
            conv => whnf
            refine ⟨noT (by simp [*]), fun _ => ?_⟩
            refine W.skip ?_
            refine W.sq ?_
            refine g 19 22 [.call (V.i (pickV l (pos + (1 : Int)) (7 : Int))) ([rdC l (pos + (1 : Int) + (1 : Int)), []])] ?_
            conv => whnf
            refine ⟨⟨I, ⟨⟨I, I, I⟩, I, ⟨I, ⟨I, I⟩, I⟩, ⟨I, I⟩, Go.K.c_spec_l1Rd_pick _ _ _ (by omega) (by omega) (by omega) (by omega)⟩, I⟩, ?_⟩
            refine W.blk ?_
            refine g 36 37 [] ?_
            conv => whnf
            refine ⟨⟨I, I, I⟩, ?_⟩
            refine W.cn ?_
            conv => whnf
            refine ⟨noT (decide_eq_false (by omega)), fun _ => ?_⟩
            refine g 35 36 [] ?_
            conv => whnf
            refine ⟨⟨I, I, I⟩, ?_⟩
            refine W.cn ?_
            conv => whnf
            refine ⟨noT (decide_eq_false (by omega)), fun _ => ?_⟩
            refine g 54 56 [] ?_
            conv => whnf
            refine ⟨⟨I, I, I⟩, ?_⟩
            refine W.cn ?_
            conv => whnf
            refine ⟨noT (decide_eq_false (by omega)), fun _ => ?_⟩
            refine g 66 68 [] ?_
            conv => whnf
            refine ⟨⟨I, I, I⟩, ?_⟩
            refine W.cn ?_
            conv => whnf
            refine ⟨fun _ => ?_, noF (decide_eq_true (by omega))⟩
            refine rg [] ?_
            conv => whnf
            refine ⟨⟨I, I, ⟨I, I⟩, I⟩, ?_⟩
            refine g 5 140 [] ?_
            conv => whnf
            refine ⟨⟨I, ⟨I, I⟩, I⟩, ?_⟩
            refine W.ret ?_
            refine EndsW.rt ?_
            conv => whnf
            refine ⟨⟨I, I, I⟩, ?_⟩
            exact ⟨⟨[]⟩, _, rfl, rfl, ⟨Nat.zero_le _, fun t ht => by cases ht⟩, by omega, by omega⟩
          · by_cases c4 : pickV l (pos + 1) 7 = 4
            · refine x_spec_l1Spoil ?_
              conv => whnf
              refine g 0 0 [] ?_
              conv => whnf
              refine ⟨⟨⟨I, I⟩, I, I⟩, ?_⟩
              refine g 9 11 [.call (planO p) ([[]])] ?_
              conv => whnf
              refine ⟨⟨I, ⟨⟨I, I⟩, I, ⟨⟨I, I⟩, I⟩, ⟨I, I⟩, (by assumption)⟩, I, ⟨I, I⟩, I⟩, ?_⟩
              refine g 11 16 [.call (V.i (↑kk : Int)) ([rdC l (pos + (1 : Int)), []])] ?_
              conv => whnf
              refine ⟨⟨I, I, I, I, ⟨⟨I, I, I⟩, I, ⟨I, ⟨I, I⟩, I⟩, ⟨I, I⟩, (by assumption)⟩, I, I⟩, ?_⟩
              refine W.sq ?_
              refine g 16 19 [] ?_
              conv => whnf
              refine ⟨⟨I, I, I, I, I⟩, ?_⟩
              refine W.cn ?_
              conv => whnf
              refine ⟨noT (by simp [*]), fun _ => ?_⟩
              refine W.skip ?_
              refine W.sq ?_
              refine g 19 22 [.call (V.i (pickV l (pos + (1 : Int)) (7 : Int))) ([rdC l (pos + (1 : Int) + (1 : Int)), []])] ?_
              conv => whnf
              refine ⟨⟨I, ⟨⟨I, I, I⟩, I, ⟨I, ⟨I, I⟩, I⟩, ⟨I, I⟩, Go.K.c_spec_l1Rd_pick _ _ _ (by omega) (by omega) (by omega) (by omega)⟩, I⟩, ?_⟩
              refine W.blk ?_
              refine g 36 37 [] ?_
              conv => whnf
              refine ⟨⟨I, I, I⟩, ?_⟩
              refine W.cn ?_
              conv => whnf
              refine ⟨noT (decide_eq_false (by omega)), fun _ => ?_⟩
              refine g 35 36 [] ?_
              conv => whnf
              refine ⟨⟨I, I, I⟩, ?_⟩
              refine W.cn ?_
              conv => whnf
              refine ⟨noT (decide_eq_false (by omega)), fun _ => ?_⟩
              refine g 54 56 [] ?_
              conv => whnf
              refine ⟨⟨I, I, I⟩, ?_⟩
              refine W.cn ?_
              conv => whnf
              refine ⟨noT (decide_eq_false (by omega)), fun _ => ?_⟩
              refine g 66 68 [] ?_
              conv => whnf
              refine ⟨⟨I, I, I⟩, ?_⟩
              refine W.cn ?_
              conv => whnf
              refine ⟨noT (decide_eq_false (by omega)), fun _ => ?_⟩
              refine g 89 91 [] ?_
              conv => whnf
              refine ⟨⟨I, I, I⟩, ?_⟩
              refine W.cn ?_
              conv => whnf
              refine ⟨fun _ => ?_, noF (decide_eq_true (by omega))⟩
              refine g 22 95 [] ?_
              conv => whnf
              refine ⟨⟨I, I⟩, ?_⟩
              refine W.blk ?_
              refine W.lp (fun s (x : Nat × List Task × Int) => ⟨[(0, s.s 0), (1, s.s 1), (4, s.s 4), (5, s.s 5), (7, .i x.1)], [(141, [s.c 141 0]), (4, [s.c 4 0]), (140, [.t (u8s l), .t (.i x.2.2)]), (5, [.own taskK (x.2.1.map taskT)])], []⟩) (fun (x : Nat × List Task × Int) => x.1 ≤ 41 ∧ x.1 ≤ x.2.1.length ∧ (x.2.1.length ≤ 41 ∨ x.2.1.length ≤ 64 ∧ x.1 = 0) ∧ (∀ t ∈ x.2.1, taskMid t) ∧ pos + 2 ≤ x.2.2 ∧ x.2.2 ≤ pos + 2 + x.1) (fun (x : Nat × List Task × Int) => 64 - x.2.1.length) ((0, p.tasks, pos + 2)) [some 141, some 4, some 140, some 5] [] ⟨rfl, ⟨rfl, ⟨_, rfl, _, _, rfl, rfl, rfl⟩, rfl, rfl, rfl, I⟩, ⟨⟨rfl, ⟨I, I⟩⟩, ⟨⟨rfl, ⟨rfl, I⟩⟩, ⟨⟨rfl, ⟨rfl, ⟨(congrArg (fun z => V.t (T.v (Value.int _ z))) (by show pos + 1 + 1 = pos + 2; omega)), I⟩⟩⟩, ⟨⟨rfl, ⟨rfl, I⟩⟩, I⟩⟩⟩⟩, I⟩ ?_ ?_
              · exact ⟨Nat.zero_le _, Nat.zero_le _, .inr ⟨hp1, rfl⟩, (small_mid hp).2, Int.le_refl _, by show pos + 2 ≤ pos + 2 + ((0 : Nat) : Int); omega⟩
              rintro ⟨i, ts, q⟩ ⟨i1, i2, i3, i4, i5, i6⟩
              dsimp only at i1 i2 i3 i4 i5 i6
              have r3 := pick_rng l q 2
              by_cases hlt : (ts.length : Int) < 40 + pickV l q 2
              · have cd := c_spec_l1Dec i (by omega) (by omega)
                have hds := decS_size i
                conv => whnf
                refine W.sq ?_
                refine gd 95 101 [[], [], [], [], [.call (V.i (pickV l q (2 : Int))) ([rdC l (q + (1 : Int)), []])], [.i ((40 : Int) + pickV l q (2 : Int))], []] ?_
                conv => whnf
                refine ⟨⟨I, I, I, I, ⟨⟨I, I, I⟩, I, ⟨I, ⟨I, I⟩, I⟩, ⟨I, I⟩, Go.K.c_spec_l1Rd_pick _ _ _ (by first | omega | decide | assumption | (simp only [ByteArray.size_extract, List.length_map]; omega) | simp [*]) (by first | omega | decide | assumption | (simp only [ByteArray.size_extract, List.length_map]; omega) | simp [*]) (by first | omega | decide | assumption | (simp only [ByteArray.size_extract, List.length_map]; omega) | simp [*]) (by first | omega | decide | assumption | (simp only [ByteArray.size_extract, List.length_map]; omega) | simp [*])⟩, w64 (by omega) (by omega), I, I⟩, by kernel_rfl, ?_⟩
                refine W.cn ?_
                conv => whnf
                refine ⟨fun _ => ?_, noF (by simp [*])⟩
                refine W.skip ?_
                refine W.sq ?_
                refine W.blk ?_
                refine rgd [[], [], [], [.call (V.s (decS (↑i : Int))) ([[]])], [.s ({ data := #[(120 : UInt8)] : ByteArray } ++ decS (↑i : Int))], [], [], [], [], []] ?_
                conv => whnf
                refine ⟨⟨I, I, I, ⟨⟨I, I⟩, I, ⟨⟨I, I⟩, I⟩, ⟨I, I⟩, (by assumption)⟩, ⟨rfl, (by simp only [bsz, bsa, ByteArray.size_append, List.size_toArray, List.length_map, List.length_append, List.length_set, List.length_replicate, List.length_cons, List.length_nil, List.length_take, List.length_drop, fill_len, fillI_len, List.length_range, bytesT_len]; omega)⟩, I, ⟨⟨I, I, I, I⟩, I⟩, ⟨I, I, (by simp only [List.length_map, List.length_append, List.length_set, List.length_replicate, List.length_cons, List.length_nil, List.length_take, List.length_drop, fill_len, fillI_len, List.length_range, bytesT_len]; omega)⟩, I, ⟨I, I⟩, I⟩, by kernel_rfl, ?_⟩
                refine rg [.i ((↑(Prod.fst (i, ts, q)) : Int) + (1 : Int))] ?_
                conv => whnf
                refine ⟨⟨I, w64 (by omega) (by omega), I, I⟩, ?_⟩
                refine ⟨(i + 1, ts ++ [(⟨(⟨#[120]⟩ : ByteArray) ++ decS i, 1, []⟩ : Task)], q + 1), [some 141, some 4, some 140, some 5], [], ⟨rfl, ⟨rfl, ⟨_, rfl, _, _, rfl, rfl, rfl⟩, rfl, rfl, rfl, I⟩, ⟨⟨rfl, ⟨I, I⟩⟩, ⟨⟨rfl, ⟨rfl, I⟩⟩, ⟨⟨rfl, ⟨rfl, ⟨rfl, I⟩⟩⟩, ⟨⟨rfl, ⟨(congrArg (V.own _) (by rw [List.map_append]; rfl)), I⟩⟩, I⟩⟩⟩⟩, I⟩, ?_, ?_⟩
                rotate_left 1
                rotate_right 1
                dsimp only
                · refine ⟨by omega, by rw [len_one]; omega, .inl (by rw [len_one]; omega), app_mid i4 (new_mid _ rfl i), by omega, by omega⟩
                · show 64 - (ts ++ [_]).length < 64 - ts.length
                  rw [len_one]; omega
              · conv => whnf
                refine W.sq ?_
                refine gd 95 101 [[], [], [], [], [.call (V.i (pickV l q (2 : Int))) ([rdC l (q + (1 : Int)), []])], [.i ((40 : Int) + pickV l q (2 : Int))], []] ?_
                conv => whnf
                refine ⟨⟨I, I, I, I, ⟨⟨I, I, I⟩, I, ⟨I, ⟨I, I⟩, I⟩, ⟨I, I⟩, Go.K.c_spec_l1Rd_pick _ _ _ (by first | omega | decide | assumption | (simp only [ByteArray.size_extract, List.length_map]; omega) | simp [*]) (by first | omega | decide | assumption | (simp only [ByteArray.size_extract, List.length_map]; omega) | simp [*]) (by first | omega | decide | assumption | (simp only [ByteArray.size_extract, List.length_map]; omega) | simp [*]) (by first | omega | decide | assumption | (simp only [ByteArray.size_extract, List.length_map]; omega) | simp [*])⟩, w64 (by omega) (by omega), I, I⟩, by kernel_rfl, ?_⟩
                refine W.cn ?_
                conv => whnf
                refine ⟨noT (by simp [*]), fun _ => ?_⟩
                refine W.exit ?_
                refine g 5 140 [] ?_
                conv => whnf
                refine ⟨⟨I, ⟨I, I⟩, I⟩, ?_⟩
                refine W.ret ?_
                refine EndsW.rt ?_
                conv => whnf
                refine ⟨⟨I, I, I⟩, ?_⟩
                exact ⟨⟨ts⟩, _, rfl, rfl, ⟨by dsimp only; omega, i4⟩, by omega, by omega⟩
            · by_cases c5 : pickV l (pos + 1) 7 = 5
              · refine x_spec_l1Spoil ?_
                conv => whnf
                refine g 0 0 [] ?_
                conv => whnf
                refine ⟨⟨⟨I, I⟩, I, I⟩, ?_⟩
                refine g 9 11 [.call (planO p) ([[]])] ?_
                conv => whnf
                refine ⟨⟨I, ⟨⟨I, I⟩, I, ⟨⟨I, I⟩, I⟩, ⟨I, I⟩, (by assumption)⟩, I, ⟨I, I⟩, I⟩, ?_⟩
                refine g 11 16 [.call (V.i (↑kk : Int)) ([rdC l (pos + (1 : Int)), []])] ?_
                conv => whnf
                refine ⟨⟨I, I, I, I, ⟨⟨I, I, I⟩, I, ⟨I, ⟨I, I⟩, I⟩, ⟨I, I⟩, (by assumption)⟩, I, I⟩, ?_⟩
                refine W.sq ?_
                refine g 16 19 [] ?_
                conv => whnf
                refine ⟨⟨I, I, I, I, I⟩, ?_⟩
                refine W.cn ?_
                conv => whnf
                refine ⟨noT (by simp [*]), fun _ => ?_⟩
                refine W.skip ?_
                refine W.sq ?_
                refine g 19 22 [.call (V.i (pickV l (pos + (1 : Int)) (7 : Int))) ([rdC l (pos + (1 : Int) + (1 : Int)), []])] ?_
                conv => whnf
                refine ⟨⟨I, ⟨⟨I, I, I⟩, I, ⟨I, ⟨I, I⟩, I⟩, ⟨I, I⟩, Go.K.c_spec_l1Rd_pick _ _ _ (by omega) (by omega) (by omega) (by omega)⟩, I⟩, ?_⟩
                refine W.blk ?_
                refine g 36 37 [] ?_
                conv => whnf
                refine ⟨⟨I, I, I⟩, ?_⟩
                refine W.cn ?_
                conv => whnf
                refine ⟨noT (decide_eq_false (by omega)), fun _ => ?_⟩
                refine g 35 36 [] ?_
                conv => whnf
                refine ⟨⟨I, I, I⟩, ?_⟩
                refine W.cn ?_
                conv => whnf
                refine ⟨noT (decide_eq_false (by omega)), fun _ => ?_⟩
                refine g 54 56 [] ?_
                conv => whnf
                refine ⟨⟨I, I, I⟩, ?_⟩
                refine W.cn ?_
                conv => whnf
                refine ⟨noT (decide_eq_false (by omega)), fun _ => ?_⟩
                refine g 66 68 [] ?_
                conv => whnf
                refine ⟨⟨I, I, I⟩, ?_⟩
                refine W.cn ?_
                conv => whnf
                refine ⟨noT (decide_eq_false (by omega)), fun _ => ?_⟩
                refine g 89 91 [] ?_
                conv => whnf
                refine ⟨⟨I, I, I⟩, ?_⟩
                refine W.cn ?_
                conv => whnf
                refine ⟨noT (decide_eq_false (by omega)), fun _ => ?_⟩
                refine g 22 95 [] ?_
                conv => whnf
                refine ⟨⟨I, I, I⟩, ?_⟩
                refine W.cn ?_
                conv => whnf
                refine ⟨fun _ => ?_, noF (decide_eq_true (by omega))⟩
                refine W.sq ?_
                refine g 113 115 [] ?_
                conv => whnf
                refine ⟨⟨I, I⟩, ?_⟩
                refine W.blk ?_
                refine W.lp (fun s (x : Nat × List Task) => ⟨[(0, s.s 0), (1, s.s 1), (3, s.s 3), (4, s.s 4), (5, s.s 5), (6, s.s 6), (8, .i x.1)], [(140, [s.c 140 0, s.c 140 1]), (141, [s.c 141 0]), (3, [s.c 3 0]), (4, [s.c 4 0]), (5, [.own taskK (x.2.map taskT)])], []⟩) (fun (x : Nat × List Task) => x.1 ≤ 12 ∧ x.1 ≤ x.2.length ∧ x.2.length ≤ 64 ∧ (∀ t ∈ x.2, taskMid t)) (fun (x : Nat × List Task) => 64 - x.2.length) ((0, p.tasks)) [some 140, some 141, some 3, some 4, some 5] [] ⟨rfl, ⟨rfl, ⟨_, rfl, _, _, rfl, rfl, rfl⟩, rfl, rfl, rfl, rfl, rfl, I⟩, ⟨⟨rfl, ⟨rfl, ⟨rfl, I⟩⟩⟩, ⟨⟨rfl, ⟨I, I⟩⟩, ⟨⟨rfl, ⟨rfl, I⟩⟩, ⟨⟨rfl, ⟨rfl, I⟩⟩, ⟨⟨rfl, ⟨rfl, I⟩⟩, I⟩⟩⟩⟩⟩, I⟩ ?_ ?_
                · exact ⟨Nat.zero_le _, Nat.zero_le _, hp1, (small_mid hp).2⟩
                rintro ⟨i, ts⟩ ⟨i1, i2, i3, i4⟩
                dsimp only at i1 i2 i3 i4
                by_cases hlt : ts.length < 12
                · have cd := c_spec_l1Dec i (by omega) (by omega)
                  have hds := decS_size i
                  conv => whnf
                  refine W.sq ?_
                  refine g 115 118 [] ?_
                  conv => whnf
                  refine ⟨⟨I, I, I, I, I⟩, ?_⟩
                  refine W.cn ?_
                  conv => whnf
                  refine ⟨fun h2 => ?_, fun h2 => ?_⟩
                  replace h2 := dt h2
                  simp only [List.length_map] at h2
                  refine W.skip ?_
                  refine W.sq ?_
                  refine W.blk ?_
                  refine rgd [[], [], [], [.call (V.s (decS (↑i : Int))) ([[]])], [.s ({ data := #[(121 : UInt8)] : ByteArray } ++ decS (↑i : Int))], [], [], [], [], []] ?_
                  conv => whnf
                  refine ⟨⟨I, I, I, ⟨⟨I, I⟩, I, ⟨⟨I, I⟩, I⟩, ⟨I, I⟩, (by assumption)⟩, ⟨rfl, (by simp only [bsz, bsa, ByteArray.size_append, List.size_toArray, List.length_map, List.length_append, List.length_set, List.length_replicate, List.length_cons, List.length_nil, List.length_take, List.length_drop, fill_len, fillI_len, List.length_range, bytesT_len]; omega)⟩, I, ⟨⟨I, I, I, I⟩, I⟩, ⟨I, I, (by simp only [List.length_map, List.length_append, List.length_set, List.length_replicate, List.length_cons, List.length_nil, List.length_take, List.length_drop, fill_len, fillI_len, List.length_range, bytesT_len]; omega)⟩, I, ⟨I, I⟩, I⟩, by kernel_rfl, ?_⟩
                  refine rg [.i ((↑(Prod.fst (i, ts)) : Int) + (1 : Int))] ?_
                  conv => whnf
                  refine ⟨⟨I, w64 (by omega) (by omega), I, I⟩, ?_⟩
                  rotate_left 1
                  replace h2 := df h2
                  simp only [List.length_map] at h2
                  omega
                  refine ⟨(i + 1, ts ++ [(⟨(⟨#[121]⟩ : ByteArray) ++ decS i, 1, []⟩ : Task)]), [some 140, some 141, some 3, some 4, some 5], [], ⟨rfl, ⟨rfl, ⟨_, rfl, _, _, rfl, rfl, rfl⟩, rfl, rfl, rfl, rfl, rfl, I⟩, ⟨⟨rfl, ⟨rfl, ⟨rfl, I⟩⟩⟩, ⟨⟨rfl, ⟨I, I⟩⟩, ⟨⟨rfl, ⟨rfl, I⟩⟩, ⟨⟨rfl, ⟨rfl, I⟩⟩, ⟨⟨rfl, ⟨(congrArg (V.own _) (by rw [List.map_append]; rfl)), I⟩⟩, I⟩⟩⟩⟩⟩, I⟩, ?_, ?_⟩
                  rotate_left 1
                  rotate_right 1
                  dsimp only
                  · refine ⟨by omega, by rw [len_one]; omega, by rw [len_one]; omega, app_mid i4 (new_mid _ rfl i)⟩
                  · show 64 - (ts ++ [_]).length < 64 - ts.length
                    rw [len_one]; omega
                · obtain ⟨t11, ht11⟩ := some_at (xs := ts) (n := 11) (by omega)
                  have r3 := pick_rng l (pos + 1 + 1) 2
                  conv => whnf
                  refine W.sq ?_
                  refine g 115 118 [] ?_
                  conv => whnf
                  refine ⟨⟨I, I, I, I, I⟩, ?_⟩
                  refine W.cn ?_
                  conv => whnf
                  refine ⟨fun h2 => ?_, fun h2 => ?_⟩
                  replace h2 := dt h2
                  simp only [List.length_map] at h2
                  omega
                  replace h2 := df h2
                  simp only [List.length_map] at h2
                  refine W.exit ?_
                  refine rgd [[], [], [], [], [.call (V.i (pickV l (pos + (1 : Int) + (1 : Int)) (2 : Int))) ([rdC l (pos + (1 : Int) + (1 : Int) + (1 : Int)), []])], [.i ((8 : Int) + pickV l (pos + (1 : Int) + (1 : Int)) (2 : Int))], [.n (Int.toNat ((8 : Int) + pickV l (pos + (1 : Int) + (1 : Int)) (2 : Int)))], [.n ((11 : Nat))], [], [.x (taskT t11)]] ?_
                  conv => whnf
                  refine ⟨⟨I, I, ⟨⟨I, I⟩, ⟨I, I⟩, ⟨I, I⟩, ⟨I, I⟩, ⟨I, I⟩, ⟨I, I⟩, ⟨I, I⟩, ⟨I, I⟩, ⟨I, I⟩, I⟩, I, ⟨⟨I, I, I⟩, I, ⟨I, ⟨I, I⟩, I⟩, ⟨I, I⟩, Go.K.c_spec_l1Rd_pick _ _ _ (by omega) (by omega) (by omega) (by omega)⟩, w64 (by omega) (by omega), ⟨I, (by omega), I, (by omega), (by simp only [List.length_map, List.length_append, List.length_set, List.length_replicate, List.length_cons, List.length_nil, List.length_take, List.length_drop, fill_len, fillI_len, List.length_range, bytesT_len]; omega)⟩, ⟨rfl, (by simp only [List.length_map, List.length_append, List.length_set, List.length_replicate, List.length_cons, List.length_nil, List.length_take, List.length_drop, fill_len, fillI_len, List.length_range, bytesT_len]; omega)⟩, I, ⟨⟨I, I⟩, ixl (by assumption)⟩, I⟩, by kernel_rfl, ?_⟩
                  refine g 5 140 [] ?_
                  conv => whnf
                  refine ⟨⟨I, ⟨I, I⟩, I⟩, ?_⟩
                  refine W.ret ?_
                  refine EndsW.rt ?_
                  conv => whnf
                  refine ⟨⟨I, I, I⟩, ?_⟩
                  have hm11 := i4 t11 (List.mem_of_getElem? ht11)
                  exact ⟨⟨ts.set 11 ⟨t11.name, t11.cost, ([0, 1, 2, 3, 4, 5, 6, 7, 8] : List Int).take (8 + pickV l (pos + 1 + 1) 2).toNat⟩⟩, _, congrArg (fun z => V.agg [V.own taskK z]) ((congrArg ((ts.map taskT).set 11) (show _ = taskT ⟨t11.name, t11.cost, ([0, 1, 2, 3, 4, 5, 6, 7, 8] : List Int).take (8 + pickV l (pos + 1 + 1) 2).toNat⟩ by show [T.s t11.name, T.i t11.cost, T.slc [false] _] = [T.s t11.name, T.i t11.cost, T.slc [false] _]; rw [List.drop_zero, List.map_take]; rfl)).trans map_set_task), rfl, mid_set' i3 i4 ⟨hm11.1, by dsimp only; rw [List.length_take]; show min _ 9 ≤ 128; omega⟩, by omega, by omega⟩
              · refine x_spec_l1Spoil ?_
                conv => whnf
                refine g 0 0 [] ?_
                conv => whnf
                refine ⟨⟨⟨I, I⟩, I, I⟩, ?_⟩
                refine g 9 11 [.call (planO p) ([[]])] ?_
                conv => whnf
                refine ⟨⟨I, ⟨⟨I, I⟩, I, ⟨⟨I, I⟩, I⟩, ⟨I, I⟩, (by assumption)⟩, I, ⟨I, I⟩, I⟩, ?_⟩
                refine g 11 16 [.call (V.i (↑kk : Int)) ([rdC l (pos + (1 : Int)), []])] ?_
                conv => whnf
                refine ⟨⟨I, I, I, I, ⟨⟨I, I, I⟩, I, ⟨I, ⟨I, I⟩, I⟩, ⟨I, I⟩, (by assumption)⟩, I, I⟩, ?_⟩
                refine W.sq ?_
                refine g 16 19 [] ?_
                conv => whnf
                refine ⟨⟨I, I, I, I, I⟩, ?_⟩
                refine W.cn ?_
                conv => whnf
                refine ⟨noT (by simp [*]), fun _ => ?_⟩
                refine W.skip ?_
                refine W.sq ?_
                refine g 19 22 [.call (V.i (pickV l (pos + (1 : Int)) (7 : Int))) ([rdC l (pos + (1 : Int) + (1 : Int)), []])] ?_
                conv => whnf
                refine ⟨⟨I, ⟨⟨I, I, I⟩, I, ⟨I, ⟨I, I⟩, I⟩, ⟨I, I⟩, Go.K.c_spec_l1Rd_pick _ _ _ (by omega) (by omega) (by omega) (by omega)⟩, I⟩, ?_⟩
                refine W.blk ?_
                refine g 36 37 [] ?_
                conv => whnf
                refine ⟨⟨I, I, I⟩, ?_⟩
                refine W.cn ?_
                conv => whnf
                refine ⟨noT (decide_eq_false (by omega)), fun _ => ?_⟩
                refine g 35 36 [] ?_
                conv => whnf
                refine ⟨⟨I, I, I⟩, ?_⟩
                refine W.cn ?_
                conv => whnf
                refine ⟨noT (decide_eq_false (by omega)), fun _ => ?_⟩
                refine g 54 56 [] ?_
                conv => whnf
                refine ⟨⟨I, I, I⟩, ?_⟩
                refine W.cn ?_
                conv => whnf
                refine ⟨noT (decide_eq_false (by omega)), fun _ => ?_⟩
                refine g 66 68 [] ?_
                conv => whnf
                refine ⟨⟨I, I, I⟩, ?_⟩
                refine W.cn ?_
                conv => whnf
                refine ⟨noT (decide_eq_false (by omega)), fun _ => ?_⟩
                refine g 89 91 [] ?_
                conv => whnf
                refine ⟨⟨I, I, I⟩, ?_⟩
                refine W.cn ?_
                conv => whnf
                refine ⟨noT (decide_eq_false (by omega)), fun _ => ?_⟩
                refine g 22 95 [] ?_
                conv => whnf
                refine ⟨⟨I, I, I⟩, ?_⟩
                refine W.cn ?_
                conv => whnf
                refine ⟨noT (decide_eq_false (by omega)), fun _ => ?_⟩
                refine rgd [[], [], [], [], [], [], [.n (kk)], [], [.x (taskT t)], [.s (Task.name t ++ { data := #[(122 : UInt8)] : ByteArray })], [.n (kk)], [], [.x (taskT t)]] ?_
                conv => whnf
                refine ⟨⟨I, I, I, I, I, I, ⟨rfl, (by simp only [List.length_map, List.length_append, List.length_set, List.length_replicate, List.length_cons, List.length_nil, List.length_take, List.length_drop, fill_len, fillI_len, List.length_range, bytesT_len]; omega)⟩, I, ixl (by assumption), ⟨rfl, (by simp only [bsz, bsa, ByteArray.size_append, List.size_toArray, List.length_map, List.length_append, List.length_set, List.length_replicate, List.length_cons, List.length_nil, List.length_take, List.length_drop, fill_len, fillI_len, List.length_range, bytesT_len]; omega)⟩, ⟨rfl, (by simp only [List.length_map, List.length_append, List.length_set, List.length_replicate, List.length_cons, List.length_nil, List.length_take, List.length_drop, fill_len, fillI_len, List.length_range, bytesT_len]; omega)⟩, I, ⟨⟨I, I⟩, ixl (by assumption)⟩, I⟩, by kernel_rfl, ?_⟩
                refine g 5 34 [] ?_
                conv => whnf
                refine ⟨⟨I, ⟨I, I⟩, I⟩, ?_⟩
                refine W.ret ?_
                refine EndsW.rt ?_
                conv => whnf
                refine ⟨⟨I, I, I⟩, ?_⟩
                have e1 : (⟨#[122]⟩ : ByteArray).size = 1 := rfl
                exact ⟨⟨p.tasks.set kk ⟨t.name ++ ⟨#[122]⟩, t.cost, t.deps⟩⟩, _, congrArg (fun z => V.agg [V.own taskK z]) (map_set_task (t := ⟨t.name ++ ⟨#[122]⟩, t.cost, t.deps⟩)), rfl, mid_set hp ⟨by dsimp only; rw [ByteArray.size_append]; omega, by dsimp only; omega⟩, by omega, by omega⟩
theorem ex_Spoil' (l : List Int) (pos : Int) (p : Plan) (h : planSmall p ∧ u8ok l ∧ 0 ≤ pos ∧ pos ≤ 1000000) : ∃ x : Plan × Int, F n_spec_l1Spoil [.ptr (rdC l pos), .val (planO p)] (planO x.1) [rdC l x.2, []] ∧ planMid x.1 ∧ pos ≤ x.2 ∧ x.2 ≤ pos + 100 := by
  obtain ⟨res, outs, ⟨q, pos2, rfl, rfl, h1, h2, h3⟩, hF⟩ := ex_Spoil l pos p h.1 h.2.1 h.2.2.1 h.2.2.2
  exact ⟨(q, pos2), hF, h1, h2, h3⟩
open Classical in
noncomputable def spoilP (l : List Int) (pos : Int) (p : Plan) : Plan × Int := if h : planSmall p ∧ u8ok l ∧ 0 ≤ pos ∧ pos ≤ 1000000 then (ex_Spoil' l pos p h).choose else (⟨[]⟩, pos)
theorem c_spec_l1Spoil (l : List Int) (pos : Int) (p : Plan) (hp : planSmall p) (hl : u8ok l) (h0 : 0 ≤ pos) (h1 : pos ≤ 1000000) : F n_spec_l1Spoil [.ptr (rdC l pos), .val (planO p)] (planO (spoilP l pos p).1) [rdC l (spoilP l pos p).2, []] := by
  have h : planSmall p ∧ u8ok l ∧ 0 ≤ pos ∧ pos ≤ 1000000 := ⟨hp, hl, h0, h1⟩
  rw [spoilP, dif_pos h]
  exact (ex_Spoil' l pos p h).choose_spec.1
theorem spoil_ok (l : List Int) (pos : Int) (p : Plan) : planMid (spoilP l pos p).1 ∧ pos ≤ (spoilP l pos p).2 ∧ (spoilP l pos p).2 ≤ pos + 100 := by
  unfold spoilP
  split
  · rename_i h; exact (ex_Spoil' l pos p h).choose_spec.2
  · exact ⟨⟨Nat.zero_le _, fun t ht => by cases ht⟩, Int.le_refl _, by dsimp only; omega⟩
end Go.K

end

section
set_option linter.unusedVariables false
set_option linter.unusedSimpArgs false
set_option maxHeartbeats 4000000
set_option maxRecDepth 20000
open Go Go.Tm Go.Proofs
namespace Go.K
theorem wf_u8s {n : Nat} {t : TypeId} {zc : List V} {b : Nat} (ht : E.ty t = some ⟨.int .u8, zc, b⟩) {xs : List (List T)} (h : ∀ y ∈ xs, wfT E (n + 1) t y) : ∃ l : List Int, xs = l.map b1T ∧ ∀ x ∈ l, 0 ≤ x ∧ x ≤ 255 :=
  map_of (f := b1T) (p := fun x => 0 ≤ x ∧ x ≤ 255) fun y hy => by
    have h1 := h y hy
    simp only [wfT, ht] at h1
    obtain ⟨m, hm, h2, h3⟩ := h1
    exact ⟨m, hm, h2, h3⟩
theorem truthN_pre {ts : List Task} {n k : Nat} (hk : k < n) : ∀ m, n ≤ m → m ≤ ts.length → (truthN ts m)[k]? = (truthN ts n)[k]?
  | 0, h1, _ => by omega
  | m + 1, h1, h2 => by
    by_cases e : n = m + 1
    · rw [e]
    · rw [truthN_succ (List.getElem?_eq_getElem (by omega)), List.getElem?_append_left (by rw [truthN_len ts m (by omega)]; omega)]
      exact truthN_pre hk m (by omega) (by omega)
theorem pickL_congr {a b : List ByteArray} {ds : List Int} (h : ∀ d ∈ ds, a[d.toNat]? = b[d.toNat]?) : pickL a ds = pickL b ds := by
  unfold pickL
  exact List.map_congr_left fun d hd => by rw [h d hd]
theorem truth_at {p : Plan} {n : Nat} {t : Task} (hc : checkPlan p.tasks = 0) (ht : p.tasks[n]? = some t) : (truthP p)[n]? = some (valueV t.name (pickL (truthP p) t.deps)) := by
  have hn := (List.getElem?_eq_some_iff.1 ht).1
  obtain ⟨_, _, _, a4⟩ := chk_task hc ht
  have e : truthP p = truthN p.tasks p.tasks.length := if_pos hc
  rw [e, truthN_pre (n := n + 1) (by omega) _ (by omega) (Nat.le_refl _), truthN_succ ht, List.getElem?_append_right (by rw [truthN_len _ _ (by omega)]; omega), truthN_len _ _ (by omega)]
  simp only [Nat.sub_self, List.getElem?_cons_zero]
  congr 2
  refine pickL_congr fun d hd => ?_
  have := a4 d hd
  exact (truthN_pre (by omega) _ (by omega) (Nat.le_refl _)).symm
theorem ex_DrawCP (l : List Int) (hlen : l.length ≤ 1048576) (h8 : ∀ x ∈ l, 0 ≤ x ∧ x ≤ 255) : ∃ res outs, (∃ p, res = planO p ∧ outs = [[]] ∧ planMid p) ∧ F n_spec_DrawCheckPlan [.val (.t (u8s l))] res outs := by
  have hu : u8ok (l.take 2000) := ⟨by rw [List.length_take]; omega, fun x hx => h8 x (List.mem_of_mem_take hx)⟩
  obtain ⟨d1, d2, d3, d4⟩ := draw_ok (l.take 2000) 0
  have hr := pick_rng (l.take 2000) (drawP (l.take 2000) 0).2 2
  have hsp := spoil_ok (l.take 2000) ((drawP (l.take 2000) 0).2 + 1) (drawP (l.take 2000) 0).1
  refine x_spec_DrawCheckPlan ?_
  conv => whnf
  refine g 0 0 [] ?_
  conv => whnf
  refine ⟨⟨I, I⟩, ?_⟩
  refine g 5 7 [.call (V.tup [V.tup (rdC (List.take (2000 : Nat) l) (0 : Int))]) ([[]])] ?_
  conv => whnf
  refine ⟨⟨I, ⟨⟨I, I⟩, I, ⟨⟨I, I⟩, I⟩, ⟨I, I⟩, Go.K.c_spec_l1Open _ (by omega)⟩, I, I⟩, ?_⟩
  refine g 7 9 [.call (planO (Prod.fst (drawP (List.take (2000 : Nat) l) (0 : Int)))) ([rdC (List.take (2000 : Nat) l) (Prod.snd (drawP (List.take (2000 : Nat) l) (0 : Int)))])] ?_
  conv => whnf
  refine ⟨⟨I, ⟨⟨I, I⟩, I, ⟨I, I⟩, ⟨I, I⟩, Go.K.c_spec_l1Draw _ _ (by omega) (by omega) (by omega)⟩, I, ⟨I, I⟩, I⟩, ?_⟩
  refine W.sq ?_
  refine g 9 11 [.call (V.i (pickV (List.take (2000 : Nat) l) (Prod.snd (drawP (List.take (2000 : Nat) l) (0 : Int))) (2 : Int))) ([rdC (List.take (2000 : Nat) l) (Prod.snd (drawP (List.take (2000 : Nat) l) (0 : Int)) + (1 : Int)), []])] ?_
  conv => whnf
  refine ⟨⟨I, ⟨⟨I, I, I⟩, I, ⟨I, ⟨I, I⟩, I⟩, ⟨I, I⟩, Go.K.c_spec_l1Rd_pick _ _ _ (by omega) (by omega) (by omega) (by omega)⟩, I, I⟩, ?_⟩
  refine W.cn ?_
  conv => whnf
  refine ⟨fun h1 => ?_, fun h1 => ?_⟩
  replace h1 := dt h1
  refine g 11 15 [.call (planO (Prod.fst (spoilP (List.take (2000 : Nat) l) (Prod.snd (drawP (List.take (2000 : Nat) l) (0 : Int)) + (1 : Int)) (Prod.fst (drawP (List.take (2000 : Nat) l) (0 : Int)))))) ([rdC (List.take (2000 : Nat) l) (Prod.snd (spoilP (List.take (2000 : Nat) l) (Prod.snd (drawP (List.take (2000 : Nat) l) (0 : Int)) + (1 : Int)) (Prod.fst (drawP (List.take (2000 : Nat) l) (0 : Int))))), []])] ?_
  conv => whnf
  refine ⟨⟨I, I, ⟨⟨I, ⟨I, I⟩, I⟩, I, ⟨I, I, I⟩, ⟨I, I⟩, Go.K.c_spec_l1Spoil _ _ _ (by omega) (by omega) (by omega) (by omega)⟩, ⟨I, I⟩, I⟩, ?_⟩
  refine W.ret ?_
  refine EndsW.rt ?_
  conv => whnf
  refine ⟨⟨I, I, I⟩, ?_⟩
  rotate_left 1
  replace h1 := df h1
  refine W.skip ?_
  refine g 3 16 [] ?_
  conv => whnf
  refine ⟨⟨I, ⟨I, I⟩, I⟩, ?_⟩
  refine W.ret ?_
  refine EndsW.rt ?_
  conv => whnf
  refine ⟨⟨I, I, I⟩, ?_⟩
  rotate_left 1
  · exact ⟨_, rfl, rfl, hsp.1⟩
  · exact ⟨_, rfl, rfl, small_mid d1⟩
theorem l_FnPlan (l : List Int) (hlen : l.length ≤ 9223372036854775807) (h8 : ∀ x ∈ l, 0 ≤ x ∧ x ≤ 255) : F n_laws_FnPlan [.val (.t (u8s l))] (.b true) [[]] := by
  by_cases h : l.length ≤ 1048576
  · obtain ⟨res, outs, ⟨p, rfl, rfl, hm⟩, hD⟩ := ex_DrawCP l h h8
    have wf := mid_wf hm
    have c1 := c_impl_Truth p wf
    have c2 := c_impl_CheckPlan p wf
    have c3 := c_spec_CheckPlan p wf
    by_cases hc : checkPlan p.tasks = 0
    · rw [hc] at c2 c3
      have e : truthP p = truthN p.tasks p.tasks.length := if_pos hc
      have hlT : (truthP p).length = p.tasks.length := by rw [e, truthN_len _ _ (Nat.le_refl _)]
      have hmT : ∀ s ∈ truthP p, s.size = 8 := by rw [e]; exact truthN_mem _ _ (Nat.le_refl _)
      have hpl := (chk_inv hc).1
      refine i_laws_FnPlan ?_
      conv => whnf
      refine g 0 0 [] ?_
      conv => whnf
      refine ⟨⟨I, I⟩, ?_⟩
      refine W.sq ?_
      refine g 8 10 [] ?_
      conv => whnf
      refine ⟨⟨I, I, I, I⟩, ?_⟩
      refine W.cn ?_
      conv => whnf
      refine ⟨fun h1 => ?_, fun h1 => ?_⟩
      replace h1 := dt h1
      simp only [List.length_map] at h1
      omega
      replace h1 := df h1
      simp only [List.length_map] at h1
      refine W.skip ?_
      refine g 10 13 [.call (planO p) ([[]])] ?_
      conv => whnf
      refine ⟨⟨I, ⟨⟨I, I⟩, I, ⟨⟨I, I⟩, I⟩, ⟨I, I⟩, (by assumption)⟩, I, ⟨I, I⟩, I⟩, ?_⟩
      refine g 14 15 [.call (V.own [false] (List.map strT (truthP p))) ([[]])] ?_
      conv => whnf
      refine ⟨⟨I, ⟨⟨I, I⟩, I, ⟨⟨I, I⟩, I⟩, ⟨I, I⟩, (by assumption)⟩, I, I⟩, ?_⟩
      refine W.sq ?_
      refine gd 15 19 [[], [.call (V.i (0 : Int)) ([[]])], [], [.call (V.i (0 : Int)) ([[]])], []] ?_
      conv => whnf
      refine ⟨⟨I, ⟨⟨I, I⟩, I, ⟨⟨I, I⟩, I⟩, ⟨I, I⟩, (by assumption)⟩, I, ⟨⟨I, I⟩, I, ⟨⟨I, I⟩, I⟩, ⟨I, I⟩, (by assumption)⟩, I, I⟩, by kernel_rfl, ?_⟩
      refine W.cn ?_
      conv => whnf
      refine ⟨noT (rfl), fun _ => ?_⟩
      refine W.skip ?_
      refine W.sq ?_
      refine g 19 22 [.call (V.i (0 : Int)) ([[]])] ?_
      conv => whnf
      refine ⟨⟨I, ⟨⟨I, I⟩, I, ⟨⟨I, I⟩, I⟩, ⟨I, I⟩, (by assumption)⟩, I, I⟩, ?_⟩
      refine W.cn ?_
      conv => whnf
      refine ⟨noT (rfl), fun _ => ?_⟩
      refine W.skip ?_
      refine W.sq ?_
      refine g 22 31 [] ?_
      conv => whnf
      refine ⟨⟨I, I, I, I, I, I, I⟩, ?_⟩
      refine W.cn ?_
      conv => whnf
      refine ⟨noT (by simp_all), fun _ => ?_⟩
      refine W.skip ?_
      refine W.sq ?_
      refine g 31 32 [] ?_
      conv => whnf
      refine ⟨⟨I, I⟩, ?_⟩
      refine W.blk ?_
      refine W.frz 3 0 ?_
      conv => whnf
      refine W.lp (fun s (n : Nat) => ⟨[(0, s.s 0), (3, s.s 3), (4, s.s 4), (5, .i n), (13, s.s 13)], [(3, [s.c 3 0]), (14, [s.c 14 0])], []⟩) (fun (n : Nat) => n ≤ p.tasks.length) (fun (n : Nat) => p.tasks.length - n) (0) [some 3, some 14] [] ⟨rfl, ⟨rfl, rfl, rfl, rfl, ⟨_, rfl, _, _, rfl, rfl, rfl⟩, I⟩, ⟨⟨rfl, ⟨rfl, I⟩⟩, ⟨⟨rfl, ⟨rfl, I⟩⟩, I⟩⟩, I⟩ (by omega) ?_
      intro n hn
      by_cases hn2 : n < p.tasks.length
      · obtain ⟨t, ht⟩ := some_at hn2
        have hat := truth_at hc ht
        obtain ⟨⟨a1, a2⟩, _, a3, a4⟩ := chk_task hc ht
        have hps := pickL_size (all := truthP p) hmT (ds := t.deps)
        have htot := totS_le8 hps
        have hpl2 := pickL_len (truthP p) t.deps
        have cv := c_spec_Value t.name (pickL (truthP p) t.deps) (by omega) (by omega) (by omega) (fun s hs => by have := hps s hs; omega)
        have ci := c_impl_Value t.name (pickL (truthP p) t.deps) (by omega) (by omega) (fun s hs => by have := hps s hs; omega)
        conv => whnf
        refine W.sq ?_
        refine g 32 35 [] ?_
        conv => whnf
        refine ⟨⟨I, I, I, I, I⟩, ?_⟩
        refine W.cn ?_
        conv => whnf
        refine ⟨fun _ => ?_, noF (by simp_all)⟩
        refine W.skip ?_
        refine W.sq ?_
        refine W.blk ?_
        refine g 35 39 [] ?_
        conv => whnf
        refine ⟨⟨I, I, I⟩, ?_⟩
        refine W.sq ?_
        refine g 0 0 [] ?_
        conv => whnf
        refine ⟨⟨I, I⟩, ?_⟩
        refine W.blk ?_
        refine W.lp (fun s (k : Nat) => ⟨[(0, s.s 0), (3, s.s 3), (4, s.s 4), (5, s.s 5), (6, .ref ⟨38, none, 0⟩), (7, .i k), (13, s.s 13)], [(3, [s.c 3 0]), (14, [s.c 14 0]), (38, [.own [false] ((pickL (truthP p) (t.deps.take k)).map strT)])], []⟩) (fun (k : Nat) => k ≤ t.deps.length) (fun (k : Nat) => t.deps.length - k) (0) [some 3, some 14, some 38] [] ⟨rfl, ⟨rfl, rfl, rfl, rfl, rfl, rfl, ⟨_, rfl, _, _, rfl, rfl, rfl⟩, I⟩, ⟨⟨rfl, ⟨rfl, I⟩⟩, ⟨⟨rfl, ⟨rfl, I⟩⟩, ⟨⟨rfl, ⟨rfl, I⟩⟩, I⟩⟩⟩, I⟩ (by omega) ?_
        intro k hk
        have hxk := pickL_len (truthP p) (t.deps.take k)
        rw [List.length_take, Nat.min_eq_left hk] at hxk
        by_cases hk2 : k < t.deps.length
        · obtain ⟨d, hd⟩ := some_at hk2
          have hd2 := a4 d (List.mem_of_getElem? hd)
          obtain ⟨y, hy⟩ := some_at (xs := truthP p) (n := d.toNat) (by omega)
          conv => whnf
          refine W.sq ?_
          refine g 39 47 [.x (taskT t)] ?_
          conv => whnf
          refine ⟨⟨I, I, I, I, ⟨(by omega), ixl (by assumption)⟩, I, I, I, I, I⟩, ?_⟩
          refine W.cn ?_
          conv => whnf
          refine ⟨fun _ => ?_, noF (by simp [*])⟩
          refine W.skip ?_
          refine W.sq ?_
          refine W.blk ?_
          refine rg [.x (taskT t), .x (intT d), .n (Int.toNat d), .x (strT y)] ?_
          conv => whnf
          refine ⟨⟨I, I, I, I, I, ⟨(by omega), ixl (by assumption)⟩, I, I, I, ⟨(by omega), ixl (by assumption)⟩, I, ⟨(by omega), (by simp only [List.length_map, List.length_append, List.length_set, List.length_replicate, List.length_cons, List.length_nil, List.length_take, List.length_drop, fill_len, fillI_len, List.length_range, bytesT_len]; omega)⟩, ixl (by assumption), ⟨⟨I, I⟩, I⟩, ⟨I, I, (by simp only [List.length_map, List.length_append, List.length_set, List.length_replicate, List.length_cons, List.length_nil, List.length_take, List.length_drop, fill_len, fillI_len, List.length_range, bytesT_len]; omega)⟩, I, I⟩, ?_⟩
          refine rg [.i ((↑k : Int) + (1 : Int))] ?_
          conv => whnf
          refine ⟨⟨I, w64 (by omega) (by omega), I, I⟩, ?_⟩
          refine ⟨k + 1, [some 3, some 14, some 64], [], ⟨rfl, ⟨rfl, rfl, rfl, rfl, rfl, rfl, ⟨_, rfl, _, _, rfl, rfl, rfl⟩, I⟩, ⟨⟨rfl, ⟨rfl, I⟩⟩, ⟨⟨rfl, ⟨rfl, I⟩⟩, ⟨⟨rfl, ⟨(congrArg (V.own _) (pick_step hd hy)), I⟩⟩, I⟩⟩⟩, I⟩, ?_, ?_⟩
          rotate_left 1
          (dsimp only; omega)
          dsimp only
          omega
        · have hke : t.deps.take k = t.deps := List.take_of_length_le (by omega)
          rw [hke]
          conv => whnf
          refine W.sq ?_
          refine g 39 47 [.x (taskT t)] ?_
          conv => whnf
          refine ⟨⟨I, I, I, I, ⟨(by omega), ixl (by assumption)⟩, I, I, I, I, I⟩, ?_⟩
          refine W.cn ?_
          conv => whnf
          refine ⟨noT (by simp [*]), fun _ => ?_⟩
          refine W.exit ?_
          refine gd 47 92 [[], [], [], [.x (taskT t)], [], [], [], [.call (V.s (valueV (Task.name t) (pickL (truthP p) (Task.deps t)))) ([[], []])], [], [], [.n (n)], [.x (strT (valueV (Task.name t) (pickL (truthP p) (Task.deps t))))], [], [], [.b (false)], [.b (false)], [.b (false)], [.b (false), .x (taskT t)], [.b (false)], [.b (false)], [.b (false)], [.b (false), .call (V.s (valueV (Task.name t) (pickL (truthP p) (Task.deps t)))) ([[], []])], [.b (false)], [.b (false)], [.b (false), .n (n)], [.b (false), .x (strT (valueV (Task.name t) (pickL (truthP p) (Task.deps t))))], [.b (false)], [.b (false)]] ?_
          conv => whnf
          refine ⟨⟨I, I, I, ⟨(by omega), ixl (by assumption)⟩, I, I, I, ⟨⟨I, I, I⟩, I, ⟨⟨I, I⟩, ⟨I, I⟩, I⟩, ⟨I, I⟩, (by assumption)⟩, I, I, ⟨rfl, (by simp only [List.length_map, List.length_append, List.length_set, List.length_replicate, List.length_cons, List.length_nil, List.length_take, List.length_drop, fill_len, fillI_len, List.length_range, bytesT_len]; omega)⟩, ixl (by assumption), I, I, ⟨notF rfl, I⟩, ⟨notF rfl, I⟩, ⟨notF rfl, I⟩, ⟨notF rfl, (by omega), ixl (by assumption)⟩, ⟨notF rfl, I⟩, ⟨notF rfl, I⟩, ⟨notF rfl, I⟩, ⟨notF rfl, ⟨I, I, I⟩, I, ⟨⟨I, I⟩, ⟨I, I⟩, I⟩, ⟨I, I⟩, (by assumption)⟩, ⟨notF rfl, I⟩, ⟨notF rfl, I⟩, ⟨notF rfl, rfl, (by simp only [List.length_map, List.length_append, List.length_set, List.length_replicate, List.length_cons, List.length_nil, List.length_take, List.length_drop, fill_len, fillI_len, List.length_range, bytesT_len]; omega)⟩, ⟨notF rfl, ixl (by assumption)⟩, ⟨notF rfl, I⟩, notF rfl, I⟩, by kernel_rfl, ?_⟩
          refine W.cn ?_
          conv => whnf
          refine ⟨noT (notF rfl), fun _ => ?_⟩
          refine W.skip ?_
          refine rg [.i ((↑n : Int) + (1 : Int))] ?_
          conv => whnf
          refine ⟨⟨I, w64 (by omega) (by omega), I, I⟩, ?_⟩
          refine ⟨n + 1, [some 3, some 14], [], ⟨rfl, ⟨rfl, rfl, rfl, rfl, ⟨_, rfl, _, _, rfl, rfl, rfl⟩, I⟩, ⟨⟨rfl, ⟨rfl, I⟩⟩, ⟨⟨rfl, ⟨rfl, I⟩⟩, I⟩⟩, I⟩, ?_, ?_⟩
          rotate_left 1
          (dsimp only; omega)
          dsimp only
          omega
      · conv => whnf
        refine W.sq ?_
        refine g 32 35 [] ?_
        conv => whnf
        refine ⟨⟨I, I, I, I, I⟩, ?_⟩
        refine W.cn ?_
        conv => whnf
        refine ⟨noT (by simp_all), fun _ => ?_⟩
        refine W.exit ?_
        refine g 5 36 [] ?_
        conv => whnf
        refine ⟨⟨I, I⟩, ?_⟩
        refine W.ret ?_
        refine EndsW.rt ?_
        conv => whnf
        refine ⟨⟨I, I, I⟩, ?_, rfl⟩
        rfl
    · have e : truthP p = [] := if_neg hc
      rw [e] at c1
      refine i_laws_FnPlan ?_
      conv => whnf
      refine g 0 0 [] ?_
      conv => whnf
      refine ⟨⟨I, I⟩, ?_⟩
      refine W.sq ?_
      refine g 8 10 [] ?_
      conv => whnf
      refine ⟨⟨I, I, I, I⟩, ?_⟩
      refine W.cn ?_
      conv => whnf
      refine ⟨fun h1 => ?_, fun h1 => ?_⟩
      replace h1 := dt h1
      simp only [List.length_map] at h1
      omega
      replace h1 := df h1
      simp only [List.length_map] at h1
      refine W.skip ?_
      refine g 10 13 [.call (planO p) ([[]])] ?_
      conv => whnf
      refine ⟨⟨I, ⟨⟨I, I⟩, I, ⟨⟨I, I⟩, I⟩, ⟨I, I⟩, (by assumption)⟩, I, ⟨I, I⟩, I⟩, ?_⟩
      refine g 14 15 [.call (V.own [false] (List.map strT [])) ([[]])] ?_
      conv => whnf
      refine ⟨⟨I, ⟨⟨I, I⟩, I, ⟨⟨I, I⟩, I⟩, ⟨I, I⟩, (by assumption)⟩, I, I⟩, ?_⟩
      refine W.sq ?_
      refine gd 15 19 [[], [.call (V.i (checkPlan (Plan.tasks p))) ([[]])], [], [.call (V.i (checkPlan (Plan.tasks p))) ([[]])], []] ?_
      conv => whnf
      refine ⟨⟨I, ⟨⟨I, I⟩, I, ⟨⟨I, I⟩, I⟩, ⟨I, I⟩, (by assumption)⟩, I, ⟨⟨I, I⟩, I, ⟨⟨I, I⟩, I⟩, ⟨I, I⟩, (by assumption)⟩, I, I⟩, by kernel_rfl, ?_⟩
      refine W.cn ?_
      conv => whnf
      refine ⟨noT (notF (by omega)), fun _ => ?_⟩
      refine W.skip ?_
      refine W.sq ?_
      refine g 19 22 [.call (V.i (checkPlan (Plan.tasks p))) ([[]])] ?_
      conv => whnf
      refine ⟨⟨I, ⟨⟨I, I⟩, I, ⟨⟨I, I⟩, I⟩, ⟨I, I⟩, (by assumption)⟩, I, I⟩, ?_⟩
      refine W.cn ?_
      conv => whnf
      refine ⟨fun _ => ?_, noF (notT (by omega))⟩
      refine g 22 26 [] ?_
      conv => whnf
      refine ⟨⟨I, I, I, I, I⟩, ?_⟩
      refine W.ret ?_
      refine EndsW.rt ?_
      conv => whnf
      refine ⟨⟨I, I, I⟩, ?_, rfl⟩
      rfl
  · refine i_laws_FnPlan ?_
    conv => whnf
    refine g 0 0 [] ?_
    conv => whnf
    refine ⟨⟨I, I⟩, ?_⟩
    refine W.sq ?_
    refine g 8 10 [] ?_
    conv => whnf
    refine ⟨⟨I, I, I, I⟩, ?_⟩
    refine W.cn ?_
    conv => whnf
    refine ⟨fun h1 => ?_, fun h1 => ?_⟩
    replace h1 := dt h1
    simp only [List.length_map] at h1
    refine g 10 11 [] ?_
    conv => whnf
    refine ⟨⟨I, I⟩, ?_⟩
    refine W.ret ?_
    refine EndsW.rt ?_
    conv => whnf
    refine ⟨⟨I, I, I⟩, ?_, rfl⟩
    rfl
    replace h1 := df h1
    simp only [List.length_map] at h1
    omega
end Go.K

end

/- Contracts of functions of the program: what each call answers. -/
import Derived.Test.YtclkoehdmpcggaaPartf
set_option linter.unusedVariables false
set_option linter.unusedSimpArgs false
set_option maxHeartbeats 8000000
set_option maxRecDepth 20000
open Go Go.Tm Go.Proofs
namespace Go.K
structure Inv (L : Nat) (t : Tale) (ys : List ByteArray) : Prop where
 len : t.results.length = L
 fwd : ∀ s ∈ ys, ∃ e, readS s = some e ∧ (¬ e.kind = 1 → e.kind = 2 ∧ 0 ≤ e.task ∧ e.task < L ∧ atS t.results e.task = e.text ∧ ¬ e.text = emp)
 back : ∀ i : Nat, ¬ atS t.results (i : Int) = emp → ∃ s ∈ ys, ∃ e, readS s = some e ∧ ¬ e.kind = 1 ∧ e.task = (i : Int) ∧ e.text = atS t.results (i : Int)
theorem at_set_eq {rs : List ByteArray} {k : Int} {v : ByteArray} (h0 : 0 ≤ k) (h : k < rs.length) : atS (rs.set k.toNat v) k = v := by
 unfold atS; rw [List.getElem?_set_self (by omega)]; rfl
theorem at_set_ne {rs : List ByteArray} {k j : Int} {v : ByteArray} (h0 : 0 ≤ k) (hj : 0 ≤ j) (h : ¬ j = k) : atS (rs.set k.toNat v) j = atS rs j := by
 unfold atS; rw [List.getElem?_set_ne (by omega)]
theorem inv_step {ts : List Task} {t u : Tale} {s : ByteArray} {ys : List ByteArray} (hi : Inv ts.length t ys) (h : stepR ts t s = some u) : Inv ts.length u (ys ++ [s]) := by
 obtain ⟨i1, i2, i3⟩ := hi
 unfold stepR at h
 cases he : readS s with
 | none => rw [he] at h; cases h
 | some e =>
   rw [he] at h
   have hok := readS_rng he
   obtain ⟨o1, o2, o3⟩ := hok
   simp only at h
   by_cases hk : e.kind = 1
   ·rw [if_pos hk] at h
    split at h
    ·cases h
     refine ⟨i1, fun s' hs' => ?_, fun i hi => ?_⟩
     ·rcases List.mem_append.1 hs' with hs' | hs'
      ·exact i2 s' hs'
      ·rw [List.mem_singleton.1 hs']; exact ⟨e, he, fun q => absurd hk q⟩
     ·obtain ⟨s', hs', q⟩ := i3 i hi
      exact ⟨s', List.mem_append_left _ hs', q⟩
    ·cases h
   ·rw [if_neg hk] at h
    split at h
    ·rename_i hc
     cases h
     obtain ⟨_, c2, c3, _⟩ := hc
     have hlt : e.task < (t.results.length : Int) := by omega
     have h8 : e.kind = 2 ∧ (e.text.size : Int) = 8 := by
      rcases o3 with q | q
      ·exact absurd q.1 hk
      ·exact q
     have hne : ¬ e.text = emp := fun q => by have := h8.2; rw [q] at this; cases this
     have c4 : atS t.results e.task = emp := c3
     refine ⟨by rw [List.length_set]; exact i1, fun s' hs' => ?_, fun i hi => ?_⟩
     ·rcases List.mem_append.1 hs' with hs' | hs'
      ·obtain ⟨e', h1, h2⟩ := i2 s' hs'
       refine ⟨e', h1, fun q => ?_⟩
       obtain ⟨g0, g1, g2, g3, g4⟩ := h2 q
       have hd : ¬ e'.task = e.task := fun w => by rw [w, c4] at g3; exact g4 g3.symm
       exact ⟨g0, g1, g2, by rw [at_set_ne o2.1 g1 hd]; exact g3, g4⟩
      ·rw [List.mem_singleton.1 hs']
       exact ⟨e, he, fun _ => ⟨h8.1, o2.1, c2, at_set_eq o2.1 hlt, hne⟩⟩
     ·by_cases hd : (i : Int) = e.task
      ·refine ⟨s, List.mem_append_right _ (List.mem_singleton.2 rfl), e, he, hk, hd.symm, ?_⟩
       rw [hd, at_set_eq o2.1 hlt]
      ·rw [at_set_ne o2.1 (by omega) hd] at hi ⊢
       obtain ⟨s', hs', q⟩ := i3 i hi
       exact ⟨s', List.mem_append_left _ hs', q⟩
    ·cases h
theorem inv_run {ts : List Task} : ∀ {l : List ByteArray} {t u : Tale} {ys : List ByteArray}, Inv ts.length t ys → runR ts (some t) l = some u → Inv ts.length u (ys ++ l)
 | [], t, u, ys, hi, h => by rw [runR_nil] at h; cases h; rw [List.append_nil]; exact hi
 | s :: l, t, u, ys, hi, h => by
   rw [runR_cons] at h
   cases hs : stepR ts t s with
   | none => rw [hs, runR_none] at h; cases h
   | some v =>
     rw [hs] at h
     have := inv_run (inv_step hi hs) h
     rw [List.append_assoc] at this; exact this
theorem at_rep (n : Nat) (k : Int) : atS (List.replicate n emp) k = emp := by
 unfold atS; rw [List.getElem?_replicate]; split <;> rfl
theorem inv_zero (ts : List Task) : Inv ts.length (tale0 ts) [] := ⟨by rw [tale0, List.length_replicate], fun s hs => (by cases hs), fun i hi => absurd (at_rep _ _) hi⟩
theorem story_inv {p : Plan} {xs : List ByteArray} (h : (replayP p xs).code = 0) : Inv p.tasks.length ⟨(replayP p xs).epoch, (replayP p xs).results⟩ xs := by
 obtain ⟨_, _, _, t, h1, h2⟩ := replay_len h
 have := inv_run (inv_zero p.tasks) h1
 rw [h2]; exact this
def badAt (rs ts : List ByteArray) (i : Nat) : Prop := ¬ atS rs (i : Int) = emp ∧ ¬ atS rs (i : Int) = atS ts (i : Int)
noncomputable instance (rs ts : List ByteArray) (i : Nat) : Decidable (badAt rs ts i) := Classical.propDecidable _
noncomputable def wrongI (rs ts : List ByteArray) : Int := match (List.range ts.length).find? (fun i => decide (badAt rs ts i)) with | some i => (i : Int) | none => -1
theorem wrong_at {rs ts : List ByteArray} {n : Nat} (hn : n < ts.length) (hb : badAt rs ts n) (hl : ∀ k, k < n → ¬ badAt rs ts k) : wrongI rs ts = n := by
 have : (List.range ts.length).find? (fun i => decide (badAt rs ts i)) = some n := by
  rw [List.find?_range_eq_some]
  exact ⟨by simpa using hb, List.mem_range.2 hn, fun j hj => by have := hl j hj; simpa using this⟩
 rw [wrongI, this]
theorem wrong_none {rs ts : List ByteArray} (hl : ∀ k, k < ts.length → ¬ badAt rs ts k) : wrongI rs ts = -1 := by
 have : (List.range ts.length).find? (fun i => decide (badAt rs ts i)) = none := by
  rw [List.find?_range_eq_none]
  intro j hj; have := hl j hj; simpa using this
 rw [wrongI, this]
theorem bad_step {rs ts : List ByteArray} {n : Nat} (h : ∀ k, k < n → ¬ badAt rs ts k) (hn : ¬ badAt rs ts n) : ∀ k, k < n + 1 → ¬ badAt rs ts k := fun k hk => by
 by_cases e : k = n
 ·subst e; exact hn
 ·exact h k (by omega)
noncomputable def wWrong (w : World) : Int := if WorldOk w then wrongI (bossS w.boss w.plan).results (truthP w.plan) else -1
theorem wwrong_ok {w : World} (h : WorldOk w) : wWrong w = wrongI (bossS w.boss w.plan).results (truthP w.plan) := if_pos h
theorem wwrong_no {w : World} (h : ¬ WorldOk w) : wWrong w = -1 := if_neg h
theorem truth_len {p : Plan} (h : checkPlan p.tasks = 0) : (truthP p).length = p.tasks.length := by
 rw [truthP, if_pos h]
 have key : ∀ (l : List Task) (acc : List ByteArray), (l.foldl (fun acc t => acc ++ [valueV t.name (pickL acc t.deps)]) acc).length = acc.length + l.length := by
  intro l
  induction l with
  | nil => intro acc; simp
  | cons x l ih => intro acc; rw [List.foldl_cons, ih]; simp; omega
 rw [truthN, key, List.length_nil, List.length_take]; omega
theorem c_spec_Wrong (w : World) (h : WorldLim w) : F n_spec_Wrong [.val (worldR w)] (.i (wWrong w)) [[]] := by
 have cv := c_spec_ValidWorld w h
 by_cases hv : WorldOk w
 ·rw [decide_eq_true hv] at cv
  rw [wwrong_ok hv]
  have ct := c_spec_Truth w.plan h.plan
  have hc := hv.boss.code
  obtain ⟨hck, hl, hrl, _⟩ := replay_len (p := w.plan) (xs := w.boss.log.safe ++ w.boss.log.loose) hc
  change (bossS w.boss w.plan).results.length = _ at hrl
  have ca := c_spec_l4All w.boss.log h.boss.safe h.boss.loose
  have cr : F n_spec_Replay [.val (planR w.plan), .val (.t (strs (w.boss.log.safe ++ w.boss.log.loose)))] (storyO (bossS w.boss w.plan)) [[], []] := c_spec_Replay w.plan (w.boss.log.safe ++ w.boss.log.loose) h.plan h.boss.all (by omega)
  have htl := truth_len hck
  have hpl := (chk_inv hck).1
  generalize hT : truthP w.plan = T at ct htl ⊢
  generalize hS : bossS w.boss w.plan = S at cr hrl ⊢
  refine i_spec_Wrong ?_
  conv => whnf
  refine g 0 1 [] ?_
  conv => whnf
  refine ⟨⟨⟨I, I, I, I, I, I, I, I, I, I, I, I, I, I, I, I, I, I⟩, I, I⟩, ?_⟩
  refine W.sq ?_
  refine g 6 8 [.call (V.b true) ([[]])] ?_
  conv => whnf
  refine ⟨⟨I, ⟨⟨I, I⟩, I, ⟨⟨I, I, I, I, I, I, I, I, I, I, I, I, I, I, I, I, I, I⟩, I⟩, ⟨I, I⟩, (by assumption)⟩, I, I⟩, ?_⟩
  refine W.cn ?_
  conv => whnf
  refine ⟨noT (rfl), fun _ => ?_⟩
  refine W.skip ?_
  refine g 8 12 [.call (V.own [false] (List.map strT T)) ([[]])] ?_
  conv => whnf
  refine ⟨⟨I, I, ⟨⟨I, I⟩, I, ⟨⟨I, I⟩, I⟩, ⟨I, I⟩, (by assumption)⟩, I, I⟩, ?_⟩
  refine gd 12 20 [[], [], [], [], [], [.call (V.own [false] (List.map strT (Log.safe (Boss.log (World.boss w)) ++ Log.loose (Boss.log (World.boss w))))) ([[]])], [.call (storyO S) ([[], []])], [], []] ?_
  conv => whnf
  refine ⟨⟨I, I, I, I, I, ⟨⟨I, I⟩, I, ⟨⟨I, I, I⟩, I⟩, ⟨I, I⟩, (by assumption)⟩, ⟨⟨I, I, I⟩, I, ⟨⟨I, I⟩, ⟨I, I⟩, I⟩, ⟨I, I⟩, (by assumption)⟩, I, I, I⟩, by kernel_rfl, ?_⟩
  refine W.sq ?_
  refine g 1 2 [] ?_
  conv => whnf
  refine ⟨⟨I, I⟩, ?_⟩
  refine W.blk ?_
  refine W.lp (fun s (n : Nat) => ⟨[(3, s.s 3), (4, s.s 4), (5, .i n)], [(11, [s.c 11 0]), (18, [s.c 18 0, s.c 18 1, s.c 18 2])], []⟩) (fun (n : Nat) => n ≤ T.length ∧ ∀ k, k < n → ¬ badAt S.results T k) (fun (n : Nat) => T.length - n) (0) [some 11, some 18] [] ⟨rfl, ⟨rfl, rfl, rfl, I⟩, ⟨⟨rfl, ⟨rfl, I⟩⟩, ⟨⟨rfl, ⟨rfl, ⟨rfl, ⟨rfl, I⟩⟩⟩⟩, I⟩⟩, I⟩ (by simp) ?_
  rintro n ⟨hn, hb⟩
  by_cases hn2 : n < T.length
  ·obtain ⟨y, hy⟩ := some_at hn2
   obtain ⟨r, hr⟩ := some_at (xs := S.results) (n := n) (by omega)
   have e1 := at_get hr
   have e2 := at_get hy
   by_cases hA : r = emp
   ·conv => whnf
    refine W.sq ?_
    refine g 20 23 [] ?_
    conv => whnf
    refine ⟨⟨I, I, I, I, I⟩, ?_⟩
    refine W.cn ?_
    conv => whnf
    refine ⟨fun _ => ?_, noF (by simp_all)⟩
    refine W.skip ?_
    refine W.sq ?_
    refine W.blk ?_
    refine gd 23 41 [[], [], [.n (n)], [.x (strT r)], [], [], [.b (false)], [.b (false)], [.b (false)], [.b (false)], [.b (false)], [.b (false)], [.b (false)], [.b (false)], [.b (false)], [.b (false)]] ?_
    conv => whnf
    refine ⟨⟨I, I, ⟨rfl, (by simp only [lens]; omega)⟩, ixl (by assumption), I, I, notF (by omega), notF (by omega), notF (by omega), notF (by omega), notF (by omega), notF (by omega), notF (by omega), notF (by omega), notF (by omega), notF (by omega), I⟩, by kernel_rfl, ?_⟩
    refine W.cn ?_
    conv => whnf
    refine ⟨noT (rfl), fun _ => ?_⟩
    refine W.skip ?_
    refine rg [.i ((↑n : Int) + (1 : Int))] ?_
    conv => whnf
    refine ⟨⟨I, w64 (by omega) (by omega), I, I⟩, ?_⟩
    refine ⟨n + 1, [some 11, some 18], [], ⟨rfl, ⟨rfl, rfl, rfl, I⟩, ⟨⟨rfl, ⟨rfl, I⟩⟩, ⟨⟨rfl, ⟨rfl, ⟨rfl, ⟨rfl, I⟩⟩⟩⟩, I⟩⟩, I⟩, ?_, ?_⟩
    rotate_left 1
    (dsimp only; omega)
    dsimp only
    exact ⟨by omega, bad_step hb fun q => q.1 (by rw [e1]; exact hA)⟩
   ·by_cases hB : r = y
    ·conv => whnf
     refine W.sq ?_
     refine g 20 23 [] ?_
     conv => whnf
     refine ⟨⟨I, I, I, I, I⟩, ?_⟩
     refine W.cn ?_
     conv => whnf
     refine ⟨fun _ => ?_, noF (by simp_all)⟩
     refine W.skip ?_
     refine W.sq ?_
     refine W.blk ?_
     refine gd 23 41 [[], [], [.n (n)], [.x (strT r)], [], [], [.b (true)], [.b (true)], [.b (true), .n (n)], [.b (true), .x (strT r)], [.b (true)], [.b (true)], [.b (true), .n (n)], [.b (true), .x (strT y)], [.b (true)], [.b (true)]] ?_
     conv => whnf
     refine ⟨⟨I, I, ⟨rfl, (by simp only [lens]; omega)⟩, ixl (by assumption), I, I, ⟨notT (by omega), I⟩, ⟨notT (by omega), I⟩, ⟨notT (by omega), rfl, (by simp only [lens]; omega)⟩, ⟨notT (by omega), ixl (by assumption)⟩, ⟨notT (by omega), I⟩, ⟨notT (by omega), I⟩, ⟨notT (by omega), rfl, (by simp only [lens]; omega)⟩, ⟨notT (by omega), ixl (by assumption)⟩, ⟨notT (by omega), I⟩, notT (by omega), I⟩, by kernel_rfl, ?_⟩
     refine W.cn ?_
     conv => whnf
     refine ⟨noT (notF (by omega)), fun _ => ?_⟩
     refine W.skip ?_
     refine rg [.i ((↑n : Int) + (1 : Int))] ?_
     conv => whnf
     refine ⟨⟨I, w64 (by omega) (by omega), I, I⟩, ?_⟩
     refine ⟨n + 1, [some 11, some 18], [], ⟨rfl, ⟨rfl, rfl, rfl, I⟩, ⟨⟨rfl, ⟨rfl, I⟩⟩, ⟨⟨rfl, ⟨rfl, ⟨rfl, ⟨rfl, I⟩⟩⟩⟩, I⟩⟩, I⟩, ?_, ?_⟩
     rotate_left 1
     (dsimp only; omega)
     dsimp only
     exact ⟨by omega, bad_step hb fun q => q.2 (by rw [e1, e2]; exact hB)⟩
    ·conv => whnf
     refine W.sq ?_
     refine g 20 23 [] ?_
     conv => whnf
     refine ⟨⟨I, I, I, I, I⟩, ?_⟩
     refine W.cn ?_
     conv => whnf
     refine ⟨fun _ => ?_, noF (by simp_all)⟩
     refine W.skip ?_
     refine W.sq ?_
     refine W.blk ?_
     refine gd 23 41 [[], [], [.n (n)], [.x (strT r)], [], [], [.b (true)], [.b (true)], [.b (true), .n (n)], [.b (true), .x (strT r)], [.b (true)], [.b (true)], [.b (true), .n (n)], [.b (true), .x (strT y)], [.b (true)], [.b (true)]] ?_
     conv => whnf
     refine ⟨⟨I, I, ⟨rfl, (by simp only [lens]; omega)⟩, ixl (by assumption), I, I, ⟨notT (by omega), I⟩, ⟨notT (by omega), I⟩, ⟨notT (by omega), rfl, (by simp only [lens]; omega)⟩, ⟨notT (by omega), ixl (by assumption)⟩, ⟨notT (by omega), I⟩, ⟨notT (by omega), I⟩, ⟨notT (by omega), rfl, (by simp only [lens]; omega)⟩, ⟨notT (by omega), ixl (by assumption)⟩, ⟨notT (by omega), I⟩, notT (by omega), I⟩, by kernel_rfl, ?_⟩
     refine W.cn ?_
     conv => whnf
     refine ⟨fun _ => ?_, noF (notT (by omega))⟩
     refine g 41 43 [] ?_
     conv => whnf
     refine ⟨⟨I, I, I⟩, ?_⟩
     refine W.ret ?_
     refine EndsW.rt ?_
     conv => whnf
     refine ⟨⟨I, I, I⟩, ?_, rfl⟩
     rw [wrong_at hn2 ⟨by rw [e1]; exact hA, by rw [e1, e2]; exact hB⟩ hb]
  ·conv => whnf
   refine W.sq ?_
   refine g 20 23 [] ?_
   conv => whnf
   refine ⟨⟨I, I, I, I, I⟩, ?_⟩
   refine W.cn ?_
   conv => whnf
   refine ⟨noT (by simp_all), fun _ => ?_⟩
   refine W.exit ?_
   refine g 4 24 [] ?_
   conv => whnf
   refine ⟨⟨I, I⟩, ?_⟩
   refine W.ret ?_
   refine EndsW.rt ?_
   conv => whnf
   refine ⟨⟨I, I, I⟩, ?_, rfl⟩
   rw [wrong_none (fun k hk => hb k (by omega))]
 ·rw [decide_eq_false hv] at cv
  rw [wwrong_no hv]
  refine i_spec_Wrong ?_
  conv => whnf
  refine g 0 1 [] ?_
  conv => whnf
  refine ⟨⟨⟨I, I, I, I, I, I, I, I, I, I, I, I, I, I, I, I, I, I⟩, I, I⟩, ?_⟩
  refine W.sq ?_
  refine g 6 8 [.call (V.b false) ([[]])] ?_
  conv => whnf
  refine ⟨⟨I, ⟨⟨I, I⟩, I, ⟨⟨I, I, I, I, I, I, I, I, I, I, I, I, I, I, I, I, I, I⟩, I⟩, ⟨I, I⟩, (by assumption)⟩, I, I⟩, ?_⟩
  refine W.cn ?_
  conv => whnf
  refine ⟨fun _ => ?_, noF (rfl)⟩
  refine g 8 9 [] ?_
  conv => whnf
  refine ⟨⟨I, I⟩, ?_⟩
  refine W.ret ?_
  refine EndsW.rt ?_
  conv => whnf
  refine ⟨⟨I, I, I⟩, ?_, rfl⟩
  rfl
abbrev bolT (x : Bool) : List T := [.b x]
open Classical in
noncomputable def flags (L : Nat) (P : Nat → Prop) : List Bool := (List.range L).map (fun i => decide (P i))
theorem flags_len (L : Nat) (P : Nat → Prop) : (flags L P).length = L := by simp [flags]
open Classical in
theorem flags_get {L n : Nat} {P : Nat → Prop} (hn : n < L) : (flags L P)[n]? = some (decide (P n)) := by
 simp [flags, hn]
theorem flags_same {L : Nat} {P Q : Nat → Prop} (h : ∀ i, i < L → (P i ↔ Q i)) : flags L P = flags L Q := by
 unfold flags
 refine List.map_congr_left fun i hi => ?_
 have := h i (List.mem_range.1 hi)
 simp [this]
theorem flags_set {L n : Nat} {P Q : Nat → Prop} {v : Bool} (hn : n < L) (h1 : v = true ↔ Q n) (h2 : ∀ i, ¬ i = n → (P i ↔ Q i)) : ((flags L P).map bolT).set n (bolT v) = (flags L Q).map bolT := by
 rw [← List.map_set]
 congr 1
 apply List.ext_getElem?
 intro i
 by_cases hi : i < L
 ·rw [flags_get hi]
  by_cases e : i = n
  ·subst e
   rw [List.getElem?_set_self (by rw [flags_len]; exact hi)]
   congr 1
   by_cases hq : Q i
   ·rw [h1.2 hq]; simp [hq]
   ·cases v
    ·simp [hq]
    ·exact absurd (h1.1 rfl) hq
  ·rw [List.getElem?_set_ne (fun q => e q.symm), flags_get hi]
   simp [h2 i e]
 ·rw [List.getElem?_eq_none (by rw [List.length_set, flags_len]; omega), List.getElem?_eq_none (by rw [flags_len]; omega)]
theorem flags_zero (L : Nat) (rs ts : List ByteArray) : List.replicate L (bolT false) = (flags L (fun i => i < 0 ∧ badAt rs ts i)).map bolT := by
 have : flags L (fun i => i < 0 ∧ badAt rs ts i) = List.replicate L false := by
  rw [flags, List.eq_replicate_iff]
  exact ⟨by simp, fun b hb => by obtain ⟨i, _, rfl⟩ := List.mem_map.1 hb; simp⟩
 rw [this, List.map_replicate]
def told (xs ts : List ByteArray) (n i : Nat) : Prop := ∃ (m : Nat) (s : ByteArray) (e : Entry), m < n ∧ xs[m]? = some s ∧ readS s = some e ∧ ¬ e.kind = 1 ∧ e.task = (i : Int) ∧ ¬ e.text = atS ts (i : Int)
theorem told_zero (xs ts : List ByteArray) (i : Nat) : ¬ told xs ts 0 i := fun ⟨m, _, _, h, _⟩ => by omega
theorem told_mono {xs ts : List ByteArray} {n i : Nat} (h : told xs ts n i) : told xs ts (n + 1) i := by
 obtain ⟨m, s, e, h1, h2⟩ := h
 exact ⟨m, s, e, by omega, h2⟩
theorem told_step {xs ts : List ByteArray} {n i : Nat} {s : ByteArray} {e : Entry} (hs : xs[n]? = some s) (he : readS s = some e) (h : told xs ts (n + 1) i) : told xs ts n i ∨ (¬ e.kind = 1 ∧ e.task = (i : Int) ∧ ¬ e.text = atS ts (i : Int)) := by
 obtain ⟨m, s', e', h1, h2, h3, h4⟩ := h
 by_cases hm : m = n
 ·subst hm; rw [hs] at h2; cases h2; rw [he] at h3; cases h3; exact .inr h4
 ·exact .inl ⟨m, s', e', by omega, h2, h3, h4⟩
theorem told_all {b : Boss} {p : Plan} (hv : BossOk b p) (ts : List ByteArray) (i : Nat) : (badAt b.results ts i ∨ told (b.log.safe ++ b.log.loose) ts (b.log.safe ++ b.log.loose).length i) ↔ badAt (bossS b p).results ts i := by
 have hi := story_inv (p := p) (xs := b.log.safe ++ b.log.loose) hv.code
 constructor
 ·intro h
  rcases h with h | ⟨m, s, e, h1, h2, h3, h4, h5, h6⟩
  ·by_cases hup : b.up = true
   ·rw [← (hv.up hup).res]; exact h
   ·have hr := List.eq_nil_of_length_eq_zero (hv.down (by cases hb : b.up; rfl; exact absurd hb hup)).res
    rw [hr] at h
    exact absurd rfl h.1
  ·obtain ⟨e', g1, g2⟩ := hi.fwd s (List.mem_of_getElem? h2)
   rw [h3] at g1; cases g1
   obtain ⟨g3, g4, g5, g6, g7⟩ := g2 h4
   rw [h5] at g6
   change atS (bossS b p).results (i : Int) = e.text at g6
   exact ⟨by rw [g6]; exact g7, by rw [g6]; exact h6⟩
 ·intro h
  obtain ⟨s, hs, e, g1, g2, g3, g4⟩ := hi.back i h.1
  obtain ⟨m, hm⟩ := List.getElem?_of_mem hs
  refine .inr ⟨m, s, e, (List.getElem?_eq_some_iff.1 hm).1, hm, g1, g2, g3, ?_⟩
  rw [g4]; exact h.2
theorem c_impl_Wrong (w : World) (h : WorldLim w) : F n_impl_Wrong [.val (worldR w)] (.i (wWrong w)) [[]] := by
 have cv := c_impl_ValidWorld w h
 by_cases hv : WorldOk w
 ·rw [decide_eq_true hv] at cv
  rw [wwrong_ok hv]
  have ct := c_impl_Truth w.plan h.plan
  have hc := hv.boss.code
  obtain ⟨hck, hl, hrl, _⟩ := replay_len (p := w.plan) (xs := w.boss.log.safe ++ w.boss.log.loose) hc
  have hin := story_inv (p := w.plan) (xs := w.boss.log.safe ++ w.boss.log.loose) hc
  have hta := told_all hv.boss (truthP w.plan)
  change (bossS w.boss w.plan).results.length = _ at hrl
  have ce := c_impl_Boss_entries w.boss h.boss.safe h.boss.loose
  have htl := truth_len hck
  have hpl := (chk_inv hck).1
  have hbl : w.boss.results.length ≤ w.plan.tasks.length := by
   by_cases hup : w.boss.up = true
   ·rw [(hv.boss.up hup).rlen]; exact Nat.le_refl _
   ·rw [(hv.boss.down (by cases hb : w.boss.up; rfl; exact absurd hb hup)).res]; exact Nat.zero_le _
  have hss := h.boss.all
  generalize hT : truthP w.plan = T at ct htl hta ⊢
  generalize hS : bossS w.boss w.plan = S at hrl hta ⊢
  generalize hX : w.boss.log.safe ++ w.boss.log.loose = xs at ce hl hin hta hss
  refine i_impl_Wrong ?_
  conv => whnf
  refine g 0 1 [] ?_
  conv => whnf
  refine ⟨⟨⟨I, I, I, I, I, I, I, I, I, I, I, I, I, I, I, I, I, I⟩, I, I⟩, ?_⟩
  refine W.sq ?_
  refine g 13 15 [.call (V.b true) ([[]])] ?_
  conv => whnf
  refine ⟨⟨I, ⟨⟨I, I⟩, I, ⟨⟨I, I, I, I, I, I, I, I, I, I, I, I, I, I, I, I, I, I⟩, I⟩, ⟨I, I⟩, (by assumption)⟩, I, I⟩, ?_⟩
  refine W.cn ?_
  conv => whnf
  refine ⟨noT (rfl), fun _ => ?_⟩
  refine W.skip ?_
  refine g 15 19 [.call (V.own [false] (List.map strT T)) ([[]])] ?_
  conv => whnf
  refine ⟨⟨I, I, ⟨⟨I, I⟩, I, ⟨⟨I, I⟩, I⟩, ⟨I, I⟩, (by assumption)⟩, I, I⟩, ?_⟩
  refine g 19 22 [.n (List.length (List.map strT T))] ?_
  conv => whnf
  refine ⟨⟨I, I, ⟨rfl, rfl, (by simp only [lens]; omega)⟩, I, I⟩, ?_⟩
  refine W.sq ?_
  refine g 22 24 [] ?_
  conv => whnf
  refine ⟨⟨I, I, I, I, I, I⟩, ?_⟩
  refine W.blk ?_
  refine W.lp (fun s (n : Nat) => ⟨[(1, s.s 1), (2, s.s 2), (3, s.s 3), (4, s.s 4), (24, s.s 24), (25, s.s 25), (26, .i n)], [(1, [s.c 1 0, s.c 1 1, s.c 1 2, s.c 1 3, s.c 1 4, s.c 1 5, s.c 1 6, s.c 1 7, s.c 1 8, s.c 1 9, s.c 1 10, s.c 1 11, s.c 1 12, s.c 1 13, s.c 1 14, s.c 1 15, s.c 1 16]), (18, [s.c 18 0]), (21, [.own [false] ((flags T.length (fun i => i < n ∧ badAt w.boss.results T i)).map bolT)])], []⟩) (fun (n : Nat) => n ≤ w.boss.results.length) (fun (n : Nat) => w.boss.results.length - n) (0) [some 1, some 18, some 21] [] ⟨rfl, ⟨rfl, rfl, rfl, rfl, rfl, rfl, rfl, I⟩, ⟨⟨rfl, ⟨rfl, ⟨rfl, ⟨rfl, ⟨rfl, ⟨rfl, ⟨rfl, ⟨rfl, ⟨rfl, ⟨rfl, ⟨rfl, ⟨rfl, ⟨rfl, ⟨rfl, ⟨rfl, ⟨rfl, ⟨rfl, ⟨rfl, I⟩⟩⟩⟩⟩⟩⟩⟩⟩⟩⟩⟩⟩⟩⟩⟩⟩⟩, ⟨⟨rfl, ⟨rfl, I⟩⟩, ⟨⟨rfl, ⟨(congrArg (V.own _) (by rw [List.length_map]; exact flags_zero _ _ _)), I⟩⟩, I⟩⟩⟩, I⟩ (by omega) ?_
  intro n hn
  have hfl := flags_len T.length (fun i => i < n ∧ badAt w.boss.results T i)
  by_cases hn2 : n < w.boss.results.length
  ·obtain ⟨r, hr⟩ := some_at hn2
   obtain ⟨y, hy⟩ := some_at (xs := T) (n := n) (by omega)
   have e1 := at_get hr
   have e2 := at_get hy
   have ho : ∀ i, ¬ i = n → ((i < n ∧ badAt w.boss.results T i) ↔ (i < n + 1 ∧ badAt w.boss.results T i)) := fun i hi => ⟨fun q => ⟨by omega, q.2⟩, fun q => ⟨by omega, q.2⟩⟩
   obtain ⟨b0, hfg⟩ : ∃ b0, (flags T.length (fun i => i < n ∧ badAt w.boss.results T i))[n]? = some b0 := ⟨_, flags_get (by omega)⟩
   by_cases hA : r = emp
   ·have e := flags_set (L := T.length) (n := n) (P := fun i => i < n ∧ badAt w.boss.results T i) (Q := fun i => i < n + 1 ∧ badAt w.boss.results T i) (v := false) (by omega) ⟨(fun q => by cases q), fun q => absurd (by rw [e1]; exact hA) q.2.1⟩ ho
    conv => whnf
    refine g 0 0 [] ?_
    conv => whnf
    refine ⟨⟨I, I⟩, ?_⟩
    refine W.sq ?_
    refine W.cn ?_
    conv => whnf
    refine ⟨fun _ => ?_, noF (by simp [*])⟩
    refine W.skip ?_
    refine W.sq ?_
    refine W.blk ?_
    refine g 27 31 [.x (strT r)] ?_
    conv => whnf
    refine ⟨⟨I, ⟨(by omega), ixl (by assumption)⟩, I, I, I, I⟩, ?_⟩
    refine rg [.b (false), .b (false), .b (false), .b (false), .b (false), .b (false), .b (false), .n (n), .x (bolT b0)] ?_
    conv => whnf
    refine ⟨⟨I, I, I, I, I, notF (by omega), notF (by omega), notF (by omega), notF (by omega), notF (by omega), notF (by omega), notF (by omega), ⟨rfl, (by simp only [lens]; omega)⟩, ⟨⟨I, I⟩, ixl (by assumption)⟩, I⟩, ?_⟩
    refine rg [.i ((↑n : Int) + (1 : Int))] ?_
    conv => whnf
    refine ⟨⟨w64 (by omega) (by omega), I, I⟩, ?_⟩
    refine ⟨n + 1, [some 1, some 18, some 21], [], ⟨rfl, ⟨rfl, rfl, rfl, rfl, rfl, rfl, rfl, I⟩, ⟨⟨rfl, ⟨rfl, ⟨rfl, ⟨rfl, ⟨rfl, ⟨rfl, ⟨rfl, ⟨rfl, ⟨rfl, ⟨rfl, ⟨rfl, ⟨rfl, ⟨rfl, ⟨rfl, ⟨rfl, ⟨rfl, ⟨rfl, ⟨rfl, I⟩⟩⟩⟩⟩⟩⟩⟩⟩⟩⟩⟩⟩⟩⟩⟩⟩⟩, ⟨⟨rfl, ⟨rfl, I⟩⟩, ⟨⟨rfl, ⟨(congrArg (V.own _) (e)), I⟩⟩, I⟩⟩⟩, I⟩, ?_, ?_⟩
    rotate_left 1
    (dsimp only; omega)
    dsimp only
    omega
   ·by_cases hB : r = y
    ·have e0 := flags_set (L := T.length) (n := n) (P := fun i => i < n ∧ badAt w.boss.results T i) (Q := fun i => i < n + 1 ∧ badAt w.boss.results T i) (v := false) (by omega) ⟨(fun q => by cases q), fun q => absurd (by rw [e1, e2]; exact hB) q.2.2⟩ ho
     have e : ∀ inst : Decidable (r = y), ((flags T.length (fun i => i < n ∧ badAt w.boss.results T i)).map bolT).set n (bolT (!(@decide (r = y) inst))) = (flags T.length (fun i => i < n + 1 ∧ badAt w.boss.results T i)).map bolT := fun inst => by
      rw [decide_eq_true hB]; exact e0
     conv => whnf
     refine g 0 0 [] ?_
     conv => whnf
     refine ⟨⟨I, I⟩, ?_⟩
     refine W.sq ?_
     refine W.cn ?_
     conv => whnf
     refine ⟨fun _ => ?_, noF (by simp [*])⟩
     refine W.skip ?_
     refine W.sq ?_
     refine W.blk ?_
     refine g 27 31 [.x (strT r)] ?_
     conv => whnf
     refine ⟨⟨I, ⟨(by omega), ixl (by assumption)⟩, I, I, I, I⟩, ?_⟩
     refine rg [.b (true), .b (true), .b (true), .b (true), .n (n), .b (true), .x (strT y), .b (true), .b (true), .n (n), .x (bolT b0)] ?_
     conv => whnf
     refine ⟨⟨I, I, I, I, I, ⟨notT (by omega), I⟩, ⟨notT (by omega), I⟩, ⟨notT (by omega), I⟩, ⟨notT (by omega), rfl, (by simp only [lens]; omega)⟩, ⟨notT (by omega), ixl (by assumption)⟩, ⟨notT (by omega), I⟩, notT (by omega), ⟨rfl, (by simp only [lens]; omega)⟩, ⟨⟨I, I⟩, ixl (by assumption)⟩, I⟩, ?_⟩
     refine rg [.i ((↑n : Int) + (1 : Int))] ?_
     conv => whnf
     refine ⟨⟨w64 (by omega) (by omega), I, I⟩, ?_⟩
     refine ⟨n + 1, [some 1, some 18, some 21], [], ⟨rfl, ⟨rfl, rfl, rfl, rfl, rfl, rfl, rfl, I⟩, ⟨⟨rfl, ⟨rfl, ⟨rfl, ⟨rfl, ⟨rfl, ⟨rfl, ⟨rfl, ⟨rfl, ⟨rfl, ⟨rfl, ⟨rfl, ⟨rfl, ⟨rfl, ⟨rfl, ⟨rfl, ⟨rfl, ⟨rfl, ⟨rfl, I⟩⟩⟩⟩⟩⟩⟩⟩⟩⟩⟩⟩⟩⟩⟩⟩⟩⟩, ⟨⟨rfl, ⟨rfl, I⟩⟩, ⟨⟨rfl, ⟨(congrArg (V.own _) (e _)), I⟩⟩, I⟩⟩⟩, I⟩, ?_, ?_⟩
     rotate_left 1
     (dsimp only; omega)
     dsimp only
     omega
    ·have e0 := flags_set (L := T.length) (n := n) (P := fun i => i < n ∧ badAt w.boss.results T i) (Q := fun i => i < n + 1 ∧ badAt w.boss.results T i) (v := true) (by omega) ⟨fun _ => ⟨by omega, by rw [e1]; exact hA, by rw [e1, e2]; exact hB⟩, fun _ => rfl⟩ ho
     have e : ∀ inst : Decidable (r = y), ((flags T.length (fun i => i < n ∧ badAt w.boss.results T i)).map bolT).set n (bolT (!(@decide (r = y) inst))) = (flags T.length (fun i => i < n + 1 ∧ badAt w.boss.results T i)).map bolT := fun inst => by
      rw [decide_eq_false hB]; exact e0
     conv => whnf
     refine g 0 0 [] ?_
     conv => whnf
     refine ⟨⟨I, I⟩, ?_⟩
     refine W.sq ?_
     refine W.cn ?_
     conv => whnf
     refine ⟨fun _ => ?_, noF (by simp [*])⟩
     refine W.skip ?_
     refine W.sq ?_
     refine W.blk ?_
     refine g 27 31 [.x (strT r)] ?_
     conv => whnf
     refine ⟨⟨I, ⟨(by omega), ixl (by assumption)⟩, I, I, I, I⟩, ?_⟩
     refine rg [.b (true), .b (true), .b (true), .b (true), .n (n), .b (true), .x (strT y), .b (true), .b (true), .n (n), .x (bolT b0)] ?_
     conv => whnf
     refine ⟨⟨I, I, I, I, I, ⟨notT (by omega), I⟩, ⟨notT (by omega), I⟩, ⟨notT (by omega), I⟩, ⟨notT (by omega), rfl, (by simp only [lens]; omega)⟩, ⟨notT (by omega), ixl (by assumption)⟩, ⟨notT (by omega), I⟩, notT (by omega), ⟨rfl, (by simp only [lens]; omega)⟩, ⟨⟨I, I⟩, ixl (by assumption)⟩, I⟩, ?_⟩
     refine rg [.i ((↑n : Int) + (1 : Int))] ?_
     conv => whnf
     refine ⟨⟨w64 (by omega) (by omega), I, I⟩, ?_⟩
     refine ⟨n + 1, [some 1, some 18, some 21], [], ⟨rfl, ⟨rfl, rfl, rfl, rfl, rfl, rfl, rfl, I⟩, ⟨⟨rfl, ⟨rfl, ⟨rfl, ⟨rfl, ⟨rfl, ⟨rfl, ⟨rfl, ⟨rfl, ⟨rfl, ⟨rfl, ⟨rfl, ⟨rfl, ⟨rfl, ⟨rfl, ⟨rfl, ⟨rfl, ⟨rfl, ⟨rfl, I⟩⟩⟩⟩⟩⟩⟩⟩⟩⟩⟩⟩⟩⟩⟩⟩⟩⟩, ⟨⟨rfl, ⟨rfl, I⟩⟩, ⟨⟨rfl, ⟨(congrArg (V.own _) (e _)), I⟩⟩, I⟩⟩⟩, I⟩, ?_, ?_⟩
     rotate_left 1
     (dsimp only; omega)
     dsimp only
     omega
  have e0 : flags T.length (fun i => i < n ∧ badAt w.boss.results T i) = flags T.length (fun i => badAt w.boss.results T i ∨ told xs T 0 i) := flags_same fun i hi => by
   constructor
   ·intro q; exact .inl q.2
   ·intro q
    rcases q with q | q
    ·refine ⟨?_, q⟩
     by_cases hin3 : i < n
     ·exact hin3
     ·refine absurd ?_ q.1
      unfold atS
      rw [List.getElem?_eq_none (by rw [Int.toNat_natCast]; omega)]; rfl
    ·exact absurd q (told_zero _ _ _)
  conv => whnf
  refine g 0 0 [] ?_
  conv => whnf
  refine ⟨⟨I, I⟩, ?_⟩
  refine W.sq ?_
  refine W.cn ?_
  conv => whnf
  refine ⟨noT (by simp [*]), fun _ => ?_⟩
  refine W.exit ?_
  refine W.sq ?_
  refine g 24 47 [.call (V.own [false] (List.map strT xs)) ([[]])] ?_
  conv => whnf
  refine ⟨⟨I, I, ⟨⟨I, I⟩, I, ⟨⟨I, I, I, I, I, I, I, I, I, I, I, I, I⟩, I⟩, ⟨I, I⟩, (by assumption)⟩, I, I, I⟩, ?_⟩
  refine W.blk ?_
  refine W.lp (fun s (n : Nat) => ⟨[(1, s.s 1), (2, s.s 2), (3, s.s 3), (4, s.s 4), (47, s.s 47), (48, s.s 48), (49, .i n)], [(1, [s.c 1 0, s.c 1 1, s.c 1 2, s.c 1 3, s.c 1 4, s.c 1 5, s.c 1 6, s.c 1 7, s.c 1 8, s.c 1 9, s.c 1 10, s.c 1 11, s.c 1 12, s.c 1 13, s.c 1 14, s.c 1 15, s.c 1 16]), (18, [s.c 18 0]), (47, [s.c 47 0]), (21, [.own [false] ((flags T.length (fun i => badAt w.boss.results T i ∨ told xs T n i)).map bolT)])], []⟩) (fun (n : Nat) => n ≤ xs.length) (fun (n : Nat) => xs.length - n) (0) [some 1, some 18, some 47, some 21] [] ⟨rfl, ⟨rfl, rfl, rfl, rfl, rfl, rfl, rfl, I⟩, ⟨⟨rfl, ⟨rfl, ⟨rfl, ⟨rfl, ⟨rfl, ⟨rfl, ⟨rfl, ⟨rfl, ⟨rfl, ⟨rfl, ⟨rfl, ⟨rfl, ⟨rfl, ⟨rfl, ⟨rfl, ⟨rfl, ⟨rfl, ⟨rfl, I⟩⟩⟩⟩⟩⟩⟩⟩⟩⟩⟩⟩⟩⟩⟩⟩⟩⟩, ⟨⟨rfl, ⟨rfl, I⟩⟩, ⟨⟨rfl, ⟨rfl, I⟩⟩, ⟨⟨rfl, ⟨(congrArg (V.own _) (by rw [e0])), I⟩⟩, I⟩⟩⟩⟩, I⟩ (by omega) ?_
  intro n hn3
  have hfl := flags_len T.length (fun i => badAt w.boss.results T i ∨ told xs T n i)
  by_cases hn4 : n < xs.length
  ·obtain ⟨s0, hs0⟩ := some_at hn4
   obtain ⟨e, he, hf⟩ := hin.fwd s0 (List.mem_of_getElem? hs0)
   have hre := c_impl_ReadEntry s0 (hss s0 (List.mem_of_getElem? hs0))
   rw [read_eq, he] at hre
   obtain ⟨ek, ee, et, ex⟩ := e
   simp only at hf
   change F n_impl_ReadEntry [.val (.s s0)] (.tup [entryV ek ee et ex, .b true]) [[]] at hre
   have no : (∀ i : Nat, i < T.length → ¬ (¬ ek = 1 ∧ et = (i : Int) ∧ ¬ ex = atS T (i : Int))) → flags T.length (fun i => badAt w.boss.results T i ∨ told xs T n i) = flags T.length (fun i => badAt w.boss.results T i ∨ told xs T (n + 1) i) := fun hno => flags_same fun i hi => by
    constructor
    ·intro q; exact q.imp id told_mono
    ·intro q
     rcases q with q | q
     ·exact .inl q
     ·rcases told_step hs0 he q with q | q
      ·exact .inr q
      ·exact absurd q (hno i hi)
   by_cases hk : ek = 1
   ·have e9 := no (fun i _ q => q.1 hk)
    conv => whnf
    refine g 0 0 [] ?_
    conv => whnf
    refine ⟨⟨I, I⟩, ?_⟩
    refine W.sq ?_
    refine W.cn ?_
    conv => whnf
    refine ⟨fun _ => ?_, noF (by simp [*])⟩
    refine W.skip ?_
    refine W.sq ?_
    refine W.blk ?_
    refine g 50 53 [.n (n), .x (strT s0)] ?_
    conv => whnf
    refine ⟨⟨⟨rfl, (by simp only [lens]; omega)⟩, ixl (by assumption), I, I⟩, ?_⟩
    refine g 53 58 [.call (V.tup [entryV ek ee et ex, V.b true]) ([[]])] ?_
    conv => whnf
    refine ⟨⟨I, ⟨⟨I, I⟩, I, ⟨⟨I, I⟩, I⟩, ⟨I, I⟩, (by assumption)⟩, I, I, I, I, ⟨I, I, I, I, I⟩, I, I⟩, ?_⟩
    refine gd 58 73 [[], [], [.b (true)], [.b (true)], [.b (true)], [.b (true)], [], [.b (false)], [.b (false)], [.b (false)], [.b (false)], [.b (false)], [.b (false)], [.b (false)], [.b (false)], [.b (false)]] ?_
    conv => whnf
    refine ⟨⟨I, I, ⟨rfl, I⟩, ⟨rfl, I⟩, ⟨rfl, I⟩, rfl, I, dF (by omega), dF (by omega), dF (by omega), dF (by omega), dF (by omega), dF (by omega), dF (by omega), dF (by omega), dF (by omega), I⟩, by kernel_rfl, ?_⟩
    refine W.cn ?_
    conv => whnf
    refine ⟨noT (rfl), fun _ => ?_⟩
    refine W.skip ?_
    refine rg [.i ((↑n : Int) + (1 : Int))] ?_
    conv => whnf
    refine ⟨⟨w64 (by omega) (by omega), I, I⟩, ?_⟩
    refine ⟨n + 1, [some 1, some 18, some 47, some 21], [], ⟨rfl, ⟨rfl, rfl, rfl, rfl, rfl, rfl, rfl, I⟩, ⟨⟨rfl, ⟨rfl, ⟨rfl, ⟨rfl, ⟨rfl, ⟨rfl, ⟨rfl, ⟨rfl, ⟨rfl, ⟨rfl, ⟨rfl, ⟨rfl, ⟨rfl, ⟨rfl, ⟨rfl, ⟨rfl, ⟨rfl, ⟨rfl, I⟩⟩⟩⟩⟩⟩⟩⟩⟩⟩⟩⟩⟩⟩⟩⟩⟩⟩, ⟨⟨rfl, ⟨rfl, I⟩⟩, ⟨⟨rfl, ⟨rfl, I⟩⟩, ⟨⟨rfl, ⟨(congrArg (V.own _) (by rw [e9])), I⟩⟩, I⟩⟩⟩⟩, I⟩, ?_, ?_⟩
    rotate_left 1
    (dsimp only; omega)
    dsimp only
    omega
   ·obtain ⟨g0, g1, g2, g3, g4⟩ := hf hk
    obtain ⟨y, hy⟩ := some_at (xs := T) (n := et.toNat) (by omega)
    have e2 := at_get' hy
    obtain ⟨b0, hfg⟩ : ∃ b0, (flags T.length (fun i => badAt w.boss.results T i ∨ told xs T n i))[et.toNat]? = some b0 := ⟨_, flags_get (by omega)⟩
    by_cases hB : ex = y
    ·have e9 := no (fun i _ q => q.2.2 (by rw [← q.2.1, e2]; exact hB))
     conv => whnf
     refine g 0 0 [] ?_
     conv => whnf
     refine ⟨⟨I, I⟩, ?_⟩
     refine W.sq ?_
     refine W.cn ?_
     conv => whnf
     refine ⟨fun _ => ?_, noF (by simp [*])⟩
     refine W.skip ?_
     refine W.sq ?_
     refine W.blk ?_
     refine g 50 53 [.n (n), .x (strT s0)] ?_
     conv => whnf
     refine ⟨⟨⟨rfl, (by simp only [lens]; omega)⟩, ixl (by assumption), I, I⟩, ?_⟩
     refine g 53 58 [.call (V.tup [entryV ek ee et ex, V.b true]) ([[]])] ?_
     conv => whnf
     refine ⟨⟨I, ⟨⟨I, I⟩, I, ⟨⟨I, I⟩, I⟩, ⟨I, I⟩, (by assumption)⟩, I, I, I, I, ⟨I, I, I, I, I⟩, I, I⟩, ?_⟩
     refine gd 58 73 [[], [], [.b (true)], [.b (true)], [.b (true)], [.b (true)], [], [.b (true)], [.b (true)], [.b (true)], [.b (true)], [.b (true)], [.b (true), .n (Int.toNat et)], [.b (true), .x (strT y)], [.b (true)], [.b (true)]] ?_
     conv => whnf
     refine ⟨⟨I, I, ⟨rfl, I⟩, ⟨rfl, I⟩, ⟨rfl, I⟩, rfl, I, ⟨dT (by omega), I⟩, ⟨dT (by omega), I⟩, ⟨dT (by omega), I⟩, ⟨dT (by omega), I⟩, ⟨dT (by omega), I⟩, ⟨dT (by omega), (by omega), (by simp only [lens]; omega)⟩, ⟨dT (by omega), ixl (by assumption)⟩, ⟨dT (by omega), I⟩, dT (by omega), I⟩, by kernel_rfl, ?_⟩
     refine W.cn ?_
     conv => whnf
     refine ⟨noT (notF (by omega)), fun _ => ?_⟩
     refine W.skip ?_
     refine rg [.i ((↑n : Int) + (1 : Int))] ?_
     conv => whnf
     refine ⟨⟨w64 (by omega) (by omega), I, I⟩, ?_⟩
     refine ⟨n + 1, [some 1, some 18, some 47, some 21], [], ⟨rfl, ⟨rfl, rfl, rfl, rfl, rfl, rfl, rfl, I⟩, ⟨⟨rfl, ⟨rfl, ⟨rfl, ⟨rfl, ⟨rfl, ⟨rfl, ⟨rfl, ⟨rfl, ⟨rfl, ⟨rfl, ⟨rfl, ⟨rfl, ⟨rfl, ⟨rfl, ⟨rfl, ⟨rfl, ⟨rfl, ⟨rfl, I⟩⟩⟩⟩⟩⟩⟩⟩⟩⟩⟩⟩⟩⟩⟩⟩⟩⟩, ⟨⟨rfl, ⟨rfl, I⟩⟩, ⟨⟨rfl, ⟨rfl, I⟩⟩, ⟨⟨rfl, ⟨(congrArg (V.own _) (by rw [e9])), I⟩⟩, I⟩⟩⟩⟩, I⟩, ?_, ?_⟩
     rotate_left 1
     (dsimp only; omega)
     dsimp only
     omega
    ·have e9 := flags_set (L := T.length) (n := et.toNat) (P := fun i => badAt w.boss.results T i ∨ told xs T n i) (Q := fun i => badAt w.boss.results T i ∨ told xs T (n + 1) i) (v := true) (by omega) ⟨fun _ => .inr ⟨n, s0, _, by omega, hs0, he, hk, by show et = _; omega, by rw [Int.toNat_of_nonneg g1, e2]; exact hB⟩, fun _ => rfl⟩ (fun i hi => ⟨fun q => q.imp id told_mono, fun q => by
      rcases q with q | q
      ·exact .inl q
      ·rcases told_step hs0 he q with q | q
       ·exact .inr q
       ·exact absurd (by have := q.2.1; simp only at this; omega) hi⟩)
     conv => whnf
     refine g 0 0 [] ?_
     conv => whnf
     refine ⟨⟨I, I⟩, ?_⟩
     refine W.sq ?_
     refine W.cn ?_
     conv => whnf
     refine ⟨fun _ => ?_, noF (by simp [*])⟩
     refine W.skip ?_
     refine W.sq ?_
     refine W.blk ?_
     refine g 50 53 [.n (n), .x (strT s0)] ?_
     conv => whnf
     refine ⟨⟨⟨rfl, (by simp only [lens]; omega)⟩, ixl (by assumption), I, I⟩, ?_⟩
     refine g 53 58 [.call (V.tup [entryV ek ee et ex, V.b true]) ([[]])] ?_
     conv => whnf
     refine ⟨⟨I, ⟨⟨I, I⟩, I, ⟨⟨I, I⟩, I⟩, ⟨I, I⟩, (by assumption)⟩, I, I, I, I, ⟨I, I, I, I, I⟩, I, I⟩, ?_⟩
     refine gd 58 73 [[], [], [.b (true)], [.b (true)], [.b (true)], [.b (true)], [], [.b (true)], [.b (true)], [.b (true)], [.b (true)], [.b (true)], [.b (true), .n (Int.toNat et)], [.b (true), .x (strT y)], [.b (true)], [.b (true)]] ?_
     conv => whnf
     refine ⟨⟨I, I, ⟨rfl, I⟩, ⟨rfl, I⟩, ⟨rfl, I⟩, rfl, I, ⟨dT (by omega), I⟩, ⟨dT (by omega), I⟩, ⟨dT (by omega), I⟩, ⟨dT (by omega), I⟩, ⟨dT (by omega), I⟩, ⟨dT (by omega), (by omega), (by simp only [lens]; omega)⟩, ⟨dT (by omega), ixl (by assumption)⟩, ⟨dT (by omega), I⟩, dT (by omega), I⟩, by kernel_rfl, ?_⟩
     refine W.cn ?_
     conv => whnf
     refine ⟨fun _ => ?_, noF (notT (by omega))⟩
     refine rg [.n (Int.toNat et), .x (bolT b0)] ?_
     conv => whnf
     refine ⟨⟨I, I, I, ⟨(by omega), (by simp only [lens]; omega)⟩, ⟨⟨I, I⟩, ixl (by assumption)⟩, I⟩, ?_⟩
     refine rg [.i ((↑n : Int) + (1 : Int))] ?_
     conv => whnf
     refine ⟨⟨w64 (by omega) (by omega), I, I⟩, ?_⟩
     refine ⟨n + 1, [some 1, some 18, some 47, some 21], [], ⟨rfl, ⟨rfl, rfl, rfl, rfl, rfl, rfl, rfl, I⟩, ⟨⟨rfl, ⟨rfl, ⟨rfl, ⟨rfl, ⟨rfl, ⟨rfl, ⟨rfl, ⟨rfl, ⟨rfl, ⟨rfl, ⟨rfl, ⟨rfl, ⟨rfl, ⟨rfl, ⟨rfl, ⟨rfl, ⟨rfl, ⟨rfl, I⟩⟩⟩⟩⟩⟩⟩⟩⟩⟩⟩⟩⟩⟩⟩⟩⟩⟩, ⟨⟨rfl, ⟨rfl, I⟩⟩, ⟨⟨rfl, ⟨rfl, I⟩⟩, ⟨⟨rfl, ⟨(congrArg (V.own _) (e9)), I⟩⟩, I⟩⟩⟩⟩, I⟩, ?_, ?_⟩
     rotate_left 1
     (dsimp only; omega)
     dsimp only
     omega
  obtain rfl : n = xs.length := by omega
  have e8 : flags T.length (fun i => badAt w.boss.results T i ∨ told xs T xs.length i) = flags T.length (fun i => badAt S.results T i) := flags_same fun i _ => hta i
  rw [e8] at hfl
  rw [e8]
  conv => whnf
  refine g 0 0 [] ?_
  conv => whnf
  refine ⟨⟨I, I⟩, ?_⟩
  refine W.sq ?_
  refine W.cn ?_
  conv => whnf
  refine ⟨noT (by simp [*]), fun _ => ?_⟩
  refine W.exit ?_
  refine W.sq ?_
  refine g 4 51 [] ?_
  conv => whnf
  refine ⟨⟨I, I, I, I⟩, ?_⟩
  refine W.blk ?_
  refine W.lp (fun s (n : Nat) => ⟨[(3, s.s 3), (79, s.s 79), (80, s.s 80), (81, .i n)], [(18, [s.c 18 0]), (21, [s.c 21 0])], []⟩) (fun (n : Nat) => n ≤ T.length ∧ ∀ k, k < n → ¬ badAt S.results T k) (fun (n : Nat) => T.length - n) (0) [some 18, some 21] [] ⟨rfl, ⟨rfl, rfl, rfl, rfl, I⟩, ⟨⟨rfl, ⟨rfl, I⟩⟩, ⟨⟨rfl, ⟨rfl, I⟩⟩, I⟩⟩, I⟩ (by simp) ?_
  rintro n ⟨hn5, hb⟩
  by_cases hn6 : n < T.length
  ·have hfg := flags_get (L := T.length) (n := n) (P := fun i => badAt S.results T i) hn6
   by_cases hbad : badAt S.results T n
   ·rw [decide_eq_true hbad] at hfg
    conv => whnf
    refine g 0 0 [] ?_
    conv => whnf
    refine ⟨⟨I, I⟩, ?_⟩
    refine W.sq ?_
    refine W.cn ?_
    conv => whnf
    refine ⟨fun _ => ?_, noF (by simp_all)⟩
    refine W.skip ?_
    refine W.sq ?_
    refine W.blk ?_
    refine g 82 86 [.n (n), .x (bolT true)] ?_
    conv => whnf
    refine ⟨⟨I, ⟨rfl, (by simp only [lens]; omega)⟩, ixl (by assumption), I, I, I⟩, ?_⟩
    refine g 12 13 [] ?_
    conv => whnf
    refine ⟨⟨I, I⟩, ?_⟩
    refine W.cn ?_
    conv => whnf
    refine ⟨fun _ => ?_, noF (rfl)⟩
    refine g 86 88 [] ?_
    conv => whnf
    refine ⟨⟨I, I, I⟩, ?_⟩
    refine W.ret ?_
    refine EndsW.rt ?_
    conv => whnf
    refine ⟨⟨I, I, I⟩, ?_, rfl⟩
    rw [wrong_at hn6 hbad hb]
   ·rw [decide_eq_false hbad] at hfg
    conv => whnf
    refine g 0 0 [] ?_
    conv => whnf
    refine ⟨⟨I, I⟩, ?_⟩
    refine W.sq ?_
    refine W.cn ?_
    conv => whnf
    refine ⟨fun _ => ?_, noF (by simp_all)⟩
    refine W.skip ?_
    refine W.sq ?_
    refine W.blk ?_
    refine g 82 86 [.n (n), .x (bolT false)] ?_
    conv => whnf
    refine ⟨⟨I, ⟨rfl, (by simp only [lens]; omega)⟩, ixl (by assumption), I, I, I⟩, ?_⟩
    refine g 12 13 [] ?_
    conv => whnf
    refine ⟨⟨I, I⟩, ?_⟩
    refine W.cn ?_
    conv => whnf
    refine ⟨noT (rfl), fun _ => ?_⟩
    refine W.skip ?_
    refine rg [.i ((↑n : Int) + (1 : Int))] ?_
    conv => whnf
    refine ⟨⟨w64 (by omega) (by omega), I, I⟩, ?_⟩
    refine ⟨n + 1, [some 18, some 21], [], ⟨rfl, ⟨rfl, rfl, rfl, rfl, I⟩, ⟨⟨rfl, ⟨rfl, I⟩⟩, ⟨⟨rfl, ⟨rfl, I⟩⟩, I⟩⟩, I⟩, ?_, ?_⟩
    rotate_left 1
    (dsimp only; omega)
    dsimp only
    exact ⟨by omega, bad_step hb hbad⟩
  ·conv => whnf
   refine g 0 0 [] ?_
   conv => whnf
   refine ⟨⟨I, I⟩, ?_⟩
   refine W.sq ?_
   refine W.cn ?_
   conv => whnf
   refine ⟨noT (by simp_all), fun _ => ?_⟩
   refine W.exit ?_
   refine g 79 83 [] ?_
   conv => whnf
   refine ⟨⟨I, I⟩, ?_⟩
   refine W.ret ?_
   refine EndsW.rt ?_
   conv => whnf
   refine ⟨⟨I, I, I⟩, ?_, rfl⟩
   rw [wrong_none (fun k hk => hb k (by omega))]
 ·rw [decide_eq_false hv] at cv
  rw [wwrong_no hv]
  refine i_impl_Wrong ?_
  conv => whnf
  refine g 0 1 [] ?_
  conv => whnf
  refine ⟨⟨⟨I, I, I, I, I, I, I, I, I, I, I, I, I, I, I, I, I, I⟩, I, I⟩, ?_⟩
  refine W.sq ?_
  refine g 13 15 [.call (V.b false) ([[]])] ?_
  conv => whnf
  refine ⟨⟨I, ⟨⟨I, I⟩, I, ⟨⟨I, I, I, I, I, I, I, I, I, I, I, I, I, I, I, I, I, I⟩, I⟩, ⟨I, I⟩, (by assumption)⟩, I, I⟩, ?_⟩
  refine W.cn ?_
  conv => whnf
  refine ⟨fun _ => ?_, noF (rfl)⟩
  refine g 15 16 [] ?_
  conv => whnf
  refine ⟨⟨I, I⟩, ?_⟩
  refine W.ret ?_
  refine EndsW.rt ?_
  conv => whnf
  refine ⟨⟨I, I, I⟩, ?_, rfl⟩
  rfl
theorem l_FnExactWrong (w : World) (hw : worldWf w) : F n_laws_FnExactWrong [.val (worldR w)] (.b true) [[]] := by
 have c0 := c_laws_szWorld w 1048576 hw (by omega) (by omega)
 have hbn := worldSz_nn w
 by_cases hq : (1048576 : Int) - worldSz w < 0
 ·rw [if_pos hq] at c0
  refine i_laws_FnExactWrong ?_
  conv => whnf
  refine g 0 1 [] ?_
  conv => whnf
  refine ⟨⟨⟨I, I, I, I, I, I, I, I, I, I, I, I, I, I, I, I, I, I⟩, I, I⟩, ?_⟩
  refine g 0 0 [] ?_
  conv => whnf
  refine ⟨⟨I, I⟩, ?_⟩
  refine g 7 10 [.call (V.i (-1 : Int)) ([[], []])] ?_
  conv => whnf
  refine ⟨⟨I, I, ⟨⟨I, I, I⟩, I, ⟨⟨I, I, I, I, I, I, I, I, I, I, I, I, I, I, I, I, I, I⟩, ⟨I, I⟩, I⟩, ⟨I, I⟩, (by assumption)⟩, I, I⟩, ?_⟩
  refine W.sq ?_
  refine g 3 11 [] ?_
  conv => whnf
  refine ⟨⟨I, I, I⟩, ?_⟩
  refine W.cn ?_
  conv => whnf
  refine ⟨fun _ => ?_, noF (rfl)⟩
  refine g 11 12 [] ?_
  conv => whnf
  refine ⟨⟨I, I⟩, ?_⟩
  refine W.ret ?_
  refine EndsW.rt ?_
  conv => whnf
  refine ⟨⟨I, I, I⟩, ?_, rfl⟩
  rfl
 ·rw [if_neg hq] at c0
  have hl := worldLen_of (a := w) (by omega)
  have hlim := world_lim hw (by omega)
  refine i_laws_FnExactWrong ?_
  conv => whnf
  refine g 0 1 [] ?_
  conv => whnf
  refine ⟨⟨⟨I, I, I, I, I, I, I, I, I, I, I, I, I, I, I, I, I, I⟩, I, I⟩, ?_⟩
  refine g 0 0 [] ?_
  conv => whnf
  refine ⟨⟨I, I⟩, ?_⟩
  refine g 7 10 [.call (V.i ((1048576 : Int) - worldSz w)) ([[], []])] ?_
  conv => whnf
  refine ⟨⟨I, I, ⟨⟨I, I, I⟩, I, ⟨⟨I, I, I, I, I, I, I, I, I, I, I, I, I, I, I, I, I, I⟩, ⟨I, I⟩, I⟩, ⟨I, I⟩, (by assumption)⟩, I, I⟩, ?_⟩
  refine W.sq ?_
  refine g 3 11 [] ?_
  conv => whnf
  refine ⟨⟨I, I, I⟩, ?_⟩
  refine W.cn ?_
  conv => whnf
  refine ⟨noT (dF (by omega)), fun _ => ?_⟩
  refine W.skip ?_
  refine g 11 15 [.call (worldO w) ([[]]), .call (V.i (wWrong w)) ([[]])] ?_
  conv => whnf
  refine ⟨⟨I, ⟨⟨I, I⟩, I, ⟨⟨I, I, I, I, I, I, I, I, I, I, I, I, I, I, I, I, I, I⟩, I⟩, ⟨I, I⟩, Go.K.c_laws_toWorld _ (by omega)⟩, ⟨⟨I, I⟩, I, ⟨⟨I, I, I, I, I, I, I, I, I, I, I, I, I, I, I, I, I, I⟩, I⟩, ⟨I, I⟩, Go.K.c_spec_Wrong _ (by omega)⟩, I, I⟩, ?_⟩
  refine g 15 17 [.call (worldO w) ([[]])] ?_
  conv => whnf
  refine ⟨⟨I, ⟨⟨I, I⟩, I, ⟨⟨I, I, I, I, I, I, I, I, I, I, I, I, I, I, I, I, I, I⟩, I⟩, ⟨I, I⟩, Go.K.c_laws_toWorld _ (by omega)⟩, I, ⟨I, I, I, I, I, I, I, I, I, I, I, I, I, I, I, I, I, I⟩, I⟩, ?_⟩
  refine g 17 19 [.call (V.i (wWrong w)) ([[]])] ?_
  conv => whnf
  refine ⟨⟨I, ⟨⟨I, I⟩, I, ⟨⟨I, I, I, I, I, I, I, I, I, I, I, I, I, I, I, I, I, I⟩, I⟩, ⟨I, I⟩, Go.K.c_impl_Wrong _ (by omega)⟩, I, I⟩, ?_⟩
  refine W.sq ?_
  refine g 6 21 [] ?_
  conv => whnf
  refine ⟨⟨I, I, I, I⟩, ?_⟩
  refine W.cn ?_
  conv => whnf
  refine ⟨noT (notF (by omega)), fun _ => ?_⟩
  refine W.skip ?_
  refine W.sq ?_
  refine gd 5 26 [[], [], [.call (worldO w) ([[]])], [.call (V.b (decide (w = w))) ([[], []])], []] ?_
  conv => whnf
  refine ⟨⟨I, I, ⟨⟨I, I⟩, I, ⟨⟨I, I, I, I, I, I, I, I, I, I, I, I, I, I, I, I, I, I⟩, I⟩, ⟨I, I⟩, Go.K.c_laws_toWorld _ (by omega)⟩, ⟨⟨I, I, I⟩, I, ⟨⟨I, I, I, I, I, I, I, I, I, I, I, I, I, I, I, I, I, I⟩, ⟨I, I, I, I, I, I, I, I, I, I, I, I, I, I, I, I, I, I⟩, I⟩, ⟨I, I⟩, Go.K.c_laws_eqWorld _ _ (by omega)⟩, I, I⟩, by kernel_rfl, ?_⟩
  refine W.cn ?_
  conv => whnf
  refine ⟨noT (notF rfl), fun _ => ?_⟩
  refine W.skip ?_
  refine g 1 2 [] ?_
  conv => whnf
  refine ⟨⟨I, I⟩, ?_⟩
  refine W.ret ?_
  refine EndsW.rt ?_
  conv => whnf
  refine ⟨⟨I, I, I⟩, ?_, rfl⟩
  rfl
end Go.K

/- Contracts of functions of the program: what each call answers. -/
import Derived.Test.YtcccigapbalidaaG
set_option linter.unusedVariables false
set_option linter.unusedSimpArgs false
set_option maxHeartbeats 4000000
set_option maxRecDepth 20000
open Go Go.Tm Go.Proofs
namespace Go.K
structure Parcel where
  kind : Int
  frm : ByteArray
  text : ByteArray
  deriving DecidableEq
abbrev parV (k : Int) (a b : ByteArray) : V := .agg [.t (.i k), .t (.s a), .t (.s b)]
abbrev parT (p : Parcel) : List T := [.i p.kind, .s p.frm, .s p.text]
abbrev pkd : List Bool := [false, false, false]
abbrev pars (xs : List Parcel) : T := .slc pkd (xs.map parT)
abbrev noP : Parcel := ⟨0, emp, emp⟩
theorem c_laws_szParcel (k : Int) (a b : ByteArray) (left : Int) (h : left ≤ 1048576) (h0 : 0 ≤ left) (ha : a.size ≤ 9223372036854775807) (hb : b.size ≤ 9223372036854775807) : F n_laws_szParcel [.val (parV k a b), .val (.i left)] (.i (if left - a.size - b.size < 0 then -1 else left - a.size - b.size)) [[], []] := by
  refine i_laws_szParcel ?_
  conv => whnf
  refine g 0 1 [] ?_
  conv => whnf
  refine ⟨⟨⟨I, I, I, I⟩, I, I⟩, ?_⟩
  refine g 5 10 [.i (left - (↑(ByteArray.size a) : Int))] ?_
  conv => whnf
  refine ⟨⟨I, I, I, I, w64 (by omega) (by omega), I, I⟩, ?_⟩
  refine W.sq ?_
  refine g 10 11 [] ?_
  conv => whnf
  refine ⟨⟨I, I, I⟩, ?_⟩
  refine W.cn ?_
  conv => whnf
  refine ⟨fun h1 => ?_, fun h1 => ?_⟩
  replace h1 := dt h1
  refine g 11 12 [] ?_
  conv => whnf
  refine ⟨⟨I, I⟩, ?_⟩
  refine W.ret ?_
  refine EndsW.rt ?_
  conv => whnf
  refine ⟨⟨I, I, I⟩, ?_, rfl⟩
  exact vi (by omega)
  replace h1 := df h1
  refine W.skip ?_
  refine g 11 17 [.i (left - (↑(ByteArray.size a) : Int) - (↑(ByteArray.size b) : Int))] ?_
  conv => whnf
  refine ⟨⟨I, I, I, I, w64 (by omega) (by omega), I, I⟩, ?_⟩
  refine W.sq ?_
  refine g 2 3 [] ?_
  conv => whnf
  refine ⟨⟨I, I, I⟩, ?_⟩
  refine W.cn ?_
  conv => whnf
  refine ⟨fun h2 => ?_, fun h2 => ?_⟩
  replace h2 := dt h2
  refine g 17 19 [] ?_
  conv => whnf
  refine ⟨⟨I, I⟩, ?_⟩
  refine W.ret ?_
  refine EndsW.rt ?_
  conv => whnf
  refine ⟨⟨I, I, I⟩, ?_, rfl⟩
  exact vi (by omega)
  replace h2 := df h2
  refine W.skip ?_
  refine g 17 20 [] ?_
  conv => whnf
  refine ⟨⟨I, I, I⟩, ?_⟩
  refine W.ret ?_
  refine EndsW.rt ?_
  conv => whnf
  refine ⟨⟨I, I, I⟩, ?_, rfl⟩
  exact vi (by omega)
theorem c_laws_toParcel (k : Int) (a b : ByteArray) : F n_laws_toParcel [.val (parV k a b)] (parV k a b) [[]] := by
  refine i_laws_toParcel ?_
  conv => whnf
  refine g 0 1 [] ?_
  conv => whnf
  refine ⟨⟨⟨I, I, I, I⟩, I, I⟩, ?_⟩
  refine g 0 0 [] ?_
  conv => whnf
  refine ⟨⟨I, I⟩, ?_⟩
  refine g 4 7 [] ?_
  conv => whnf
  refine ⟨⟨I, I, I, ⟨I, I⟩, I⟩, ?_⟩
  refine g 7 10 [] ?_
  conv => whnf
  refine ⟨⟨I, I, I, ⟨I, I⟩, I⟩, ?_⟩
  refine g 10 13 [] ?_
  conv => whnf
  refine ⟨⟨I, I, I, ⟨I, I⟩, I⟩, ?_⟩
  refine g 3 14 [] ?_
  conv => whnf
  refine ⟨⟨I, ⟨I, I, I, I⟩, I⟩, ?_⟩
  refine W.ret ?_
  refine EndsW.rt ?_
  conv => whnf
  refine ⟨⟨I, I, I, I, I⟩, ?_, rfl⟩
  rfl
theorem c_laws_eqParcel (k : Int) (a b : ByteArray) (k' : Int) (a' b' : ByteArray) : F n_laws_eqParcel [.val (parV k a b), .val (parV k' a' b')] (.b (decide ((⟨k, a, b⟩ : Parcel) = ⟨k', a', b'⟩))) [[], []] := by
  refine i_laws_eqParcel ?_
  conv => whnf
  refine g 0 2 [] ?_
  conv => whnf
  refine ⟨⟨⟨I, I, I, I⟩, ⟨I, I, I, I⟩, I, I⟩, ?_⟩
  refine W.sq ?_
  refine g 5 9 [] ?_
  conv => whnf
  refine ⟨⟨I, I, I, I, I, I⟩, ?_⟩
  refine W.cn ?_
  conv => whnf
  refine ⟨fun h1 => ?_, fun h1 => ?_⟩
  replace h1 := ndt h1
  refine g 9 10 [] ?_
  conv => whnf
  refine ⟨⟨I, I⟩, ?_⟩
  refine W.ret ?_
  refine EndsW.rt ?_
  conv => whnf
  refine ⟨⟨I, I, I⟩, ?_, rfl⟩
  rotate_left 1
  replace h1 := ndf h1
  refine W.skip ?_
  refine W.sq ?_
  refine g 9 14 [] ?_
  conv => whnf
  refine ⟨⟨I, I, I, I, I, I⟩, ?_⟩
  refine W.cn ?_
  conv => whnf
  refine ⟨fun h2 => ?_, fun h2 => ?_⟩
  replace h2 := ndt h2
  refine g 14 15 [] ?_
  conv => whnf
  refine ⟨⟨I, I⟩, ?_⟩
  refine W.ret ?_
  refine EndsW.rt ?_
  conv => whnf
  refine ⟨⟨I, I, I⟩, ?_, rfl⟩
  rotate_left 1
  replace h2 := ndf h2
  refine W.skip ?_
  refine W.sq ?_
  refine g 14 19 [] ?_
  conv => whnf
  refine ⟨⟨I, I, I, I, I, I⟩, ?_⟩
  refine W.cn ?_
  conv => whnf
  refine ⟨fun h3 => ?_, fun h3 => ?_⟩
  replace h3 := ndt h3
  refine g 2 4 [] ?_
  conv => whnf
  refine ⟨⟨I, I⟩, ?_⟩
  refine W.ret ?_
  refine EndsW.rt ?_
  conv => whnf
  refine ⟨⟨I, I, I⟩, ?_, rfl⟩
  rotate_left 1
  replace h3 := ndf h3
  refine W.skip ?_
  refine g 2 4 [] ?_
  conv => whnf
  refine ⟨⟨I, I⟩, ?_⟩
  refine W.ret ?_
  refine EndsW.rt ?_
  conv => whnf
  refine ⟨⟨I, I, I⟩, ?_, rfl⟩
  rotate_left 1
  all_goals (first | exact vbt (by simp [*]) | exact vbf (by simp [*]))
/-- What is counted of parcels. -/
def totP : List Parcel → Int
  | [] => 0
  | p :: l => (p.frm.size : Int) + p.text.size + totP l
theorem totP_nn : ∀ l, 0 ≤ totP l
  | [] => by simp [totP]
  | s :: l => by have := totP_nn l; simp only [totP]; omega
theorem totP_append : ∀ a b, totP (a ++ b) = totP a + totP b
  | [], b => by simp [totP]
  | s :: a, b => by simp only [List.cons_append, totP, totP_append a b]; omega
theorem totP_take {l : List Parcel} {n : Nat} {x : Parcel} (h : l[n]? = some x) : totP (l.take (n + 1)) = totP (l.take n) + (x.frm.size + x.text.size) := by
  rw [List.take_add_one, h, totP_append]; simp [totP]
theorem totP_le (l : List Parcel) (n : Nat) : totP (l.take n) ≤ totP l := by
  have h := totP_append (l.take n) (l.drop n)
  rw [List.take_append_drop] at h
  have := totP_nn (l.drop n); omega
theorem c_laws_szParcelS (xs : List Parcel) (left : Int) (hl : xs.length ≤ 9223372036854775807) (hs : ∀ p ∈ xs, p.frm.size ≤ 9223372036854775807 ∧ p.text.size ≤ 9223372036854775807) (h : left ≤ 1048576) (h0 : 0 ≤ left) :
    F n_laws_szParcelS [.val (.t (pars xs)), .val (.i left)] (.i (if left - xs.length - totP xs < 0 then -1 else left - xs.length - totP xs)) [[], []] := by
  have hnn := totP_nn xs
  refine i_laws_szParcelS ?_
  conv => whnf
  refine g 0 0 [] ?_
  conv => whnf
  refine ⟨⟨I, I⟩, ?_⟩
  refine g 6 10 [.i (left - (↑(List.length (List.map parT xs)) : Int))] ?_
  conv => whnf
  refine ⟨⟨I, I, I, w64 (by simp only [List.length_map, List.length_append, List.length_set, List.length_replicate, List.length_cons, List.length_nil, List.length_take, List.length_drop, fill_len, fillI_len, List.length_range, bytesT_len]; omega) (by simp only [List.length_map, List.length_append, List.length_set, List.length_replicate, List.length_cons, List.length_nil, List.length_take, List.length_drop, fill_len, fillI_len, List.length_range, bytesT_len]; omega), I, I⟩, ?_⟩
  refine W.sq ?_
  refine g 10 11 [] ?_
  conv => whnf
  refine ⟨⟨I, I, I⟩, ?_⟩
  refine W.cn ?_
  conv => whnf
  refine ⟨fun h1 => ?_, fun h1 => ?_⟩
  replace h1 := dt h1
  simp only [List.length_map] at h1
  refine g 11 12 [] ?_
  conv => whnf
  refine ⟨⟨I, I⟩, ?_⟩
  refine W.ret ?_
  refine EndsW.rt ?_
  conv => whnf
  refine ⟨⟨I, I, I⟩, ?_, rfl⟩
  exact vi (by omega)
  replace h1 := df h1
  simp only [List.length_map] at h1
  refine W.skip ?_
  refine W.sq ?_
  refine g 11 12 [] ?_
  conv => whnf
  refine ⟨⟨I, I⟩, ?_⟩
  refine W.blk ?_
  refine W.lp (fun s (n : Nat) => ⟨[(0, s.s 0), (1, .i (left - xs.length - totP (xs.take n))), (5, .i n)], [], []⟩) (fun (n : Nat) => n ≤ xs.length ∧ 0 ≤ left - xs.length - totP (xs.take n)) (fun (n : Nat) => xs.length - n) (0) [] [] ⟨rfl, ⟨rfl, (congrArg (fun z => V.t (T.v (Value.int _ z))) (by simp [totP])), rfl, I⟩, I, I⟩ ?_ ?_
  · simp [totP]; omega
  rintro n ⟨hn, hc⟩
  have hq := totP_nn (xs.take n)
  have hle := totP_le xs (n + 1)
  conv => whnf
  refine W.sq ?_
  refine g 12 15 [] ?_
  conv => whnf
  refine ⟨⟨I, I, I, I, I⟩, ?_⟩
  refine W.cn ?_
  conv => whnf
  refine ⟨fun h2 => ?_, fun h2 => ?_⟩
  replace h2 := dt h2
  simp only [List.length_map] at h2
  refine W.skip ?_
  refine W.sq ?_
  refine W.blk ?_
  obtain ⟨y1, hy1⟩ := some_at (xs := xs) (n := n) (by omega)
  have hm1 := hs y1 (List.mem_of_getElem? hy1)
  have hk1 := totP_take hy1
  refine g 15 24 [.x (parT y1), .call (V.i (if left - (↑(List.length xs) : Int) - totP (List.take n xs) - (↑(ByteArray.size (Parcel.frm y1)) : Int) - (↑(ByteArray.size (Parcel.text y1)) : Int) < (0 : Int) then (-1 : Int) else left - (↑(List.length xs) : Int) - totP (List.take n xs) - (↑(ByteArray.size (Parcel.frm y1)) : Int) - (↑(ByteArray.size (Parcel.text y1)) : Int))) ([[], []])] ?_
  conv => whnf
  refine ⟨⟨I, I, ⟨(by omega), ixl (by assumption)⟩, I, I, ⟨⟨I, I, I⟩, I, ⟨⟨I, I, I, I⟩, ⟨I, I⟩, I⟩, ⟨I, I⟩, Go.K.c_laws_szParcel _ _ _ _ (by omega) (by omega) (by omega) (by omega)⟩, I, I⟩, ?_⟩
  refine g 24 25 [] ?_
  conv => whnf
  refine ⟨⟨I, I, I⟩, ?_⟩
  refine W.cn ?_
  conv => whnf
  refine ⟨fun h3 => ?_, fun h3 => ?_⟩
  replace h3 := dt h3
  refine g 25 26 [] ?_
  conv => whnf
  refine ⟨⟨I, I⟩, ?_⟩
  refine W.ret ?_
  refine EndsW.rt ?_
  conv => whnf
  refine ⟨⟨I, I, I⟩, ?_, rfl⟩
  exact vi (by omega)
  replace h3 := df h3
  refine W.skip ?_
  refine rg [.i ((↑n : Int) + (1 : Int))] ?_
  conv => whnf
  refine ⟨⟨I, w64 (by omega) (by omega), I, I⟩, ?_⟩
  rotate_left 1
  replace h2 := df h2
  simp only [List.length_map] at h2
  refine W.exit ?_
  refine g 5 27 [] ?_
  conv => whnf
  refine ⟨⟨I, I, I⟩, ?_⟩
  refine W.ret ?_
  refine EndsW.rt ?_
  conv => whnf
  refine ⟨⟨I, I, I⟩, ?_, rfl⟩
  rotate_left 1
  · refine ⟨n + 1, [], [], ⟨rfl, ⟨rfl, (congrArg (fun z => V.t (T.v (Value.int _ z))) (by rw [totP_take (by assumption)]; omega)), rfl, I⟩, I, I⟩, ?_, ?_⟩
    rotate_left 1
    (dsimp only; omega)
    dsimp only
    omega
  · have e : xs.take n = xs := List.take_of_length_le (by omega)
    rw [e] at hc ⊢
    exact vi (by split <;> omega)
theorem c_laws_toParcelS (xs : List Parcel) (hl : xs.length ≤ 1048576) : F n_laws_toParcelS [.val (.t (pars xs))] (.own pkd (xs.map parT)) [[]] := by
  refine i_laws_toParcelS ?_
  conv => whnf
  refine g 0 0 [] ?_
  conv => whnf
  refine ⟨⟨I, I⟩, ?_⟩
  refine g 5 8 [.n (List.length (List.map parT xs))] ?_
  conv => whnf
  refine ⟨⟨I, I, ⟨rfl, rfl, (by simp only [List.length_map, List.length_append, List.length_set, List.length_replicate, List.length_cons, List.length_nil, List.length_take, List.length_drop, fill_len, fillI_len, List.length_range, bytesT_len]; omega)⟩, I, I⟩, ?_⟩
  refine W.sq ?_
  refine g 0 0 [] ?_
  conv => whnf
  refine ⟨⟨I, I⟩, ?_⟩
  refine W.blk ?_
  refine W.lp (fun s (n : Nat) => ⟨[(0, s.s 0), (2, s.s 2), (3, s.s 3), (4, .i n)], [(7, [.own pkd (fill parT (parT noP) xs n)])], []⟩) (fun (n : Nat) => n ≤ xs.length) (fun (n : Nat) => xs.length - n) (0) [some 7] [] ⟨rfl, ⟨rfl, rfl, rfl, rfl, I⟩, ⟨⟨rfl, ⟨(congrArg (V.own _) (fill_zero' (by simp) rfl)), I⟩⟩, I⟩, I⟩ (by omega) ?_
  intro n hn
  conv => whnf
  refine W.sq ?_
  refine g 8 11 [] ?_
  conv => whnf
  refine ⟨⟨I, I, I, I, I⟩, ?_⟩
  refine W.cn ?_
  conv => whnf
  refine ⟨fun h1 => ?_, fun h1 => ?_⟩
  replace h1 := dt h1
  simp only [List.length_map] at h1
  refine W.skip ?_
  refine W.sq ?_
  refine W.blk ?_
  obtain ⟨y1, hy1⟩ := some_at (xs := xs) (n := n) (by omega)
  refine rg [.x (parT y1), .call (parV (Parcel.kind y1) (Parcel.frm y1) (Parcel.text y1)) ([[]]), .n (n), .x (parT noP)] ?_
  conv => whnf
  refine ⟨⟨I, I, I, I, ⟨(by omega), ixl (by assumption)⟩, I, ⟨⟨I, I⟩, I, ⟨⟨I, I, I, I⟩, I⟩, ⟨I, I⟩, Go.K.c_laws_toParcel _ _ _⟩, ⟨rfl, (by simp only [List.length_map, List.length_append, List.length_set, List.length_replicate, List.length_cons, List.length_nil, List.length_take, List.length_drop, fill_len, fillI_len, List.length_range, bytesT_len]; omega)⟩, ⟨⟨I, I, I, I⟩, fill_get (by omega)⟩, I⟩, ?_⟩
  refine rg [.i ((↑n : Int) + (1 : Int))] ?_
  conv => whnf
  refine ⟨⟨I, w64 (by omega) (by omega), I, I⟩, ?_⟩
  rotate_left 1
  replace h1 := df h1
  simp only [List.length_map] at h1
  refine W.exit ?_
  refine g 3 23 [] ?_
  conv => whnf
  refine ⟨⟨I, I, I⟩, ?_⟩
  refine W.ret ?_
  refine EndsW.rt ?_
  conv => whnf
  refine ⟨⟨I, I, I⟩, ?_, rfl⟩
  rotate_left 1
  · refine ⟨n + 1, [some 7], [], ⟨rfl, ⟨rfl, rfl, rfl, rfl, I⟩, ⟨⟨rfl, ⟨(congrArg (V.own _) (fill_set (by assumption))), I⟩⟩, I⟩, I⟩, ?_, ?_⟩
    rotate_left 1
    (dsimp only; omega)
    dsimp only
    omega
  · have e : fill parT (parT noP) xs n = xs.map parT := fill_all _ _ _ (by omega)
    rw [← e]
theorem c_laws_eqParcelS (xs ys : List Parcel) (hl : xs.length ≤ 9223372036854775806) : F n_laws_eqParcelS [.val (.t (pars xs)), .val (.t (pars ys))] (.b (decide (xs = ys))) [[], []] := by
  refine i_laws_eqParcelS ?_
  conv => whnf
  refine g 0 0 [] ?_
  conv => whnf
  refine ⟨⟨I, I⟩, ?_⟩
  refine W.sq ?_
  refine g 6 10 [] ?_
  conv => whnf
  refine ⟨⟨I, I, I, I, I, I⟩, ?_⟩
  refine W.cn ?_
  conv => whnf
  refine ⟨fun h1 => ?_, fun h1 => ?_⟩
  replace h1 := ndt h1
  simp only [List.length_map] at h1
  refine g 10 11 [] ?_
  conv => whnf
  refine ⟨⟨I, I⟩, ?_⟩
  refine W.ret ?_
  refine EndsW.rt ?_
  conv => whnf
  refine ⟨⟨I, I, I⟩, ?_, rfl⟩
  rotate_left 1
  replace h1 := ndf h1
  simp only [List.length_map] at h1
  refine W.skip ?_
  refine W.sq ?_
  refine g 10 11 [] ?_
  conv => whnf
  refine ⟨⟨I, I⟩, ?_⟩
  refine W.blk ?_
  rotate_left 1
  · exact vbf (fun e => h1 (by rw [e]))
  refine W.lp (fun s (n : Nat) => ⟨[(0, s.s 0), (1, s.s 1), (5, .i n)], [], []⟩) (fun (n : Nat) => n ≤ xs.length ∧ xs.take n = ys.take n) (fun (n : Nat) => xs.length - n) (0) [] [] ⟨rfl, ⟨rfl, rfl, rfl, I⟩, I, I⟩ (by simp) ?_
  rintro n ⟨hn, hc⟩
  conv => whnf
  refine W.sq ?_
  refine g 11 14 [] ?_
  conv => whnf
  refine ⟨⟨I, I, I, I, I⟩, ?_⟩
  refine W.cn ?_
  conv => whnf
  refine ⟨fun h2 => ?_, fun h2 => ?_⟩
  replace h2 := dt h2
  simp only [List.length_map] at h2
  refine W.skip ?_
  refine W.sq ?_
  refine W.blk ?_
  obtain ⟨y1, hy1⟩ := some_at (xs := xs) (n := n) (by omega)
  obtain ⟨y2, hy2⟩ := some_at (xs := ys) (n := n) (by omega)
  refine gd 14 26 [[], [], [.x (parT y1)], [], [], [], [.x (parT y2)], [], [.call (V.b (decide (y1 = y2))) ([[], []])], []] ?_
  conv => whnf
  refine ⟨⟨I, I, ⟨(by omega), ixl (by assumption)⟩, I, I, I, ⟨(by omega), ixl (by assumption)⟩, I, ⟨⟨I, I, I⟩, I, ⟨⟨I, I, I, I⟩, ⟨I, I, I, I⟩, I⟩, ⟨I, I⟩, Go.K.c_laws_eqParcel _ _ _ _ _ _⟩, I, I⟩, by kernel_rfl, ?_⟩
  refine W.cn ?_
  conv => whnf
  refine ⟨fun h3 => ?_, fun h3 => ?_⟩
  replace h3 := ndt h3
  refine g 26 27 [] ?_
  conv => whnf
  refine ⟨⟨I, I⟩, ?_⟩
  refine W.ret ?_
  refine EndsW.rt ?_
  conv => whnf
  refine ⟨⟨I, I, I⟩, ?_, rfl⟩
  rotate_left 1
  replace h3 := ndf h3
  refine W.skip ?_
  refine rg [.i ((↑n : Int) + (1 : Int))] ?_
  conv => whnf
  refine ⟨⟨I, w64 (by omega) (by omega), I, I⟩, ?_⟩
  rotate_left 1
  replace h2 := df h2
  simp only [List.length_map] at h2
  refine W.exit ?_
  refine g 0 2 [] ?_
  conv => whnf
  refine ⟨⟨I, I⟩, ?_⟩
  refine W.ret ?_
  refine EndsW.rt ?_
  conv => whnf
  refine ⟨⟨I, I, I⟩, ?_, rfl⟩
  rotate_left 1
  · exact vbf (fun e => by subst e; rw [hy1] at hy2; cases hy2; exact h3 rfl)
  · refine ⟨n + 1, [], [], ⟨rfl, ⟨rfl, rfl, rfl, I⟩, I, I⟩, ?_, ?_⟩
    rotate_left 1
    (dsimp only; omega)
    dsimp only
    exact ⟨by omega, by rw [List.take_add_one, List.take_add_one, hy1, hy2, hc, h3]⟩
  · exact vbt (by rw [List.take_of_length_le (by omega), List.take_of_length_le (by omega)] at hc; exact hc)
/-- The digits of a number ahead of a text. -/
def dgs (fuel : Nat) (k : Int) (s : ByteArray) : ByteArray := match fuel with
  | 0 => s
  | f + 1 => if k ≤ 0 then s else dgs f (k / 10) (bl [48 + k % 10] ++ s)
def markT (k : Int) : ByteArray := if k ≤ 0 then bl [109, 48] else bl [109] ++ dgs 20 k emp
theorem dgs_step {f : Nat} {a : Int} {t : ByteArray} (h0 : 0 < a) (h : a < 10 ^ f) : ∃ g, f = g + 1 ∧ a / 10 < 10 ^ g ∧ dgs f a t = dgs g (a / 10) (bl [48 + a % 10] ++ t) := by
  cases f with
  | zero => simp at h; omega
  | succ g =>
    refine ⟨g, rfl, ?_, ?_⟩
    · rw [Int.pow_succ] at h; omega
    · rw [dgs, if_neg (by omega)]
theorem dgs_end {f : Nat} {a : Int} {t : ByteArray} (h0 : ¬ 0 < a) : dgs f a t = t := by
  cases f with
  | zero => rfl
  | succ g => rw [dgs, if_pos (by omega)]
theorem mt_div {a : Int} (h0 : 0 ≤ a) (h1 : a ≤ 1099511627776) : IntKind.i64.wrap (a.tdiv 10) = a / 10 := by
  rw [Int.tdiv_eq_ediv_of_nonneg h0, w64 (by omega) (by omega)]
theorem mt_dig {a : Int} {t : ByteArray} (h0 : 0 ≤ a) : (⟨(bytesOf [[T.v (Value.int IntKind.u8 (IntKind.u8.wrap (IntKind.i64.wrap (48 + a.tmod 10))))]]).toArray⟩ : ByteArray) ++ t = bl [48 + a % 10] ++ t := by
  rw [Int.tmod_eq_emod_of_nonneg h0, w64 (by omega) (by omega), wu8 (by omega) (by omega)]; rfl
theorem bl_size (l : List Int) : (bl l).size = l.length := by simp [bl, bsa]
theorem c_laws_markText (k : Int) (h : k ≤ 1099511627776) : F n_laws_markText [.val (.i k)] (.s (markT k)) [[]] := by
  refine i_laws_markText ?_
  conv => whnf
  refine g 0 0 [] ?_
  conv => whnf
  refine ⟨⟨I, I⟩, ?_⟩
  refine W.sq ?_
  refine g 4 5 [] ?_
  conv => whnf
  refine ⟨⟨I, I, I⟩, ?_⟩
  refine W.cn ?_
  conv => whnf
  refine ⟨fun h1 => ?_, fun h1 => ?_⟩
  replace h1 := dt h1
  refine g 5 6 [] ?_
  conv => whnf
  refine ⟨⟨I, I⟩, ?_⟩
  refine W.ret ?_
  refine EndsW.rt ?_
  conv => whnf
  refine ⟨⟨I, I, I⟩, ?_, rfl⟩
  rotate_left 1
  replace h1 := df h1
  refine W.skip ?_
  refine g 5 6 [] ?_
  conv => whnf
  refine ⟨⟨I, I⟩, ?_⟩
  refine W.sq ?_
  refine W.blk ?_
  rotate_left 1
  · exact vs (by unfold markT; rw [if_pos (by omega)]; rfl)
  refine W.lp (fun s (x : Nat × Int × ByteArray) => match x with | (f, a, t) => ⟨[(0, .i a), (2, s.s 2), (3, .s t)], [], []⟩) (fun (x : Nat × Int × ByteArray) => match x with | (f, a, t) => 0 ≤ a ∧ a ≤ 1099511627776 ∧ a < 10 ^ f ∧ f ≤ 20 ∧ (t.size : Int) ≤ 20 - f ∧ dgs f a t = dgs 20 k emp) (fun (x : Nat × Int × ByteArray) => match x with | (f, a, t) => f) ((20, k, emp)) [] [] ⟨rfl, ⟨rfl, rfl, rfl, I⟩, I, I⟩ ?_ ?_
  · exact ⟨by omega, by omega, by omega, by omega, by show ((0 : Nat) : Int) ≤ 20 - ((20 : Nat) : Int); omega, rfl⟩
  rintro ⟨f, a, t⟩ ⟨g1, ga, g2, g3, g4, g5⟩
  conv => whnf
  refine W.sq ?_
  refine g 6 7 [] ?_
  conv => whnf
  refine ⟨⟨I, I, I⟩, ?_⟩
  refine W.cn ?_
  conv => whnf
  refine ⟨fun h2 => ?_, fun h2 => ?_⟩
  replace h2 := dt h2
  refine W.skip ?_
  refine W.blk ?_
  refine g 10 16 [.i (Int.tmod a (10 : Int)), .i (IntKind.wrap IntKind.i64 ((48 : Int) + Int.tmod a (10 : Int))), .i (IntKind.wrap IntKind.u8 (IntKind.wrap IntKind.i64 ((48 : Int) + Int.tmod a (10 : Int)))), .s ({ data := List.toArray (bytesOf [[T.v (Value.int IntKind.u8 (IntKind.wrap IntKind.u8 (IntKind.wrap IntKind.i64 ((48 : Int) + Int.tmod a (10 : Int)))))]]) : ByteArray }), .s ({ data := List.toArray (bytesOf [[T.v (Value.int IntKind.u8 (IntKind.wrap IntKind.u8 (IntKind.wrap IntKind.i64 ((48 : Int) + Int.tmod a (10 : Int)))))]]) : ByteArray } ++ t)] ?_
  conv => whnf
  refine ⟨⟨I, ⟨(by omega), rfl⟩, rfl, rfl, ⟨⟨I, I⟩, I⟩, ⟨I, (by repeat (first | exact allU8_nil | refine allU8_cons ?_)), rfl⟩, I, ⟨rfl, (by simp only [bsz, ByteArray.size_append, List.length_map, List.length_append, List.length_set, List.length_replicate, List.length_cons, List.length_nil, List.length_take, List.length_drop, fill_len, fillI_len, List.length_range, bytesT_len]; omega)⟩, I, I⟩, ?_⟩
  refine rg [.i (IntKind.wrap IntKind.i64 (Int.tdiv a (10 : Int)))] ?_
  conv => whnf
  refine ⟨⟨I, ⟨(by omega), rfl⟩, I, I⟩, ?_⟩
  rotate_left 1
  replace h2 := df h2
  refine W.exit ?_
  refine g 3 20 [.s ({ data := #[(109 : UInt8)] : ByteArray } ++ t)] ?_
  conv => whnf
  refine ⟨⟨I, ⟨rfl, (by simp only [bsz, bsa, ByteArray.size_append, List.size_toArray, List.length_map, List.length_append, List.length_set, List.length_replicate, List.length_cons, List.length_nil, List.length_take, List.length_drop, fill_len, fillI_len, List.length_range, bytesT_len]; omega)⟩, I, I⟩, ?_⟩
  refine W.ret ?_
  refine EndsW.rt ?_
  conv => whnf
  refine ⟨⟨I, I, I⟩, ?_, rfl⟩
  rotate_left 1
  · obtain ⟨g, rfl, g6, g7⟩ := dgs_step (t := t) h2 g2
    refine ⟨(g, a / 10, bl [48 + a % 10] ++ t), [], [], ⟨rfl, ⟨(congrArg (fun z => V.t (T.v (Value.int _ z))) (mt_div g1 ga)), rfl, (congrArg (fun z => V.t (T.v (Value.string z))) (mt_dig g1)), I⟩, I, I⟩, ?_, ?_⟩
    rotate_left 1
    (dsimp only; omega)
    dsimp only
    have e := bl_size [48 + a % 10]
    exact ⟨by omega, by omega, g6, by omega, by rw [ByteArray.size_append, e, List.length_cons, List.length_nil]; omega, by rw [← g7]; exact g5⟩
  · exact vs (by unfold markT; rw [if_neg h1, ← g5, dgs_end h2]; rfl)
/-- The k-th mark of parcels. -/
def mkP (k : Int) (i : Nat) : Parcel := ⟨k + 3 * i, markT (k + 3 * i + 1), markT (k + 3 * i + 1 + 1)⟩
abbrev mkPT (k : Int) (i : Nat) : List T := parT (mkP k i)
theorem mark_step {k : Int} {ys : List (List T)} {n : Nat} {a b : List T} (h : n < ys.length) : (((fillI (mkPT k) ys n).set n a).set n b).set n [T.v (.int .i64 (k + 3 * (n : Int))), T.v (.string (markT (k + 3 * (n : Int) + 1))), T.v (.string (markT (k + 3 * (n : Int) + 1 + 1)))] = fillI (mkPT k) ys (n + 1) := by
  rw [List.set_set, List.set_set]; exact fillI_set h
theorem c_laws_markParcelS (xs : List Parcel) (k : Int) (hk : 0 ≤ k ∧ k ≤ 549755813888) (hl : xs.length ≤ 1048576) : F n_laws_markParcelS [.bor (.own pkd (xs.map parT)), .val (.i k)] (.i (k + 3 * xs.length)) [[.own pkd ((List.range xs.length).map (mkPT k))], []] := by
  refine i_laws_markParcelS ?_
  conv => whnf
  refine g 0 0 [] ?_
  conv => whnf
  refine ⟨⟨I, I⟩, ?_⟩
  refine W.sq ?_
  refine g 0 0 [] ?_
  conv => whnf
  refine ⟨⟨I, I⟩, ?_⟩
  refine W.blk ?_
  refine W.lp (fun s (n : Nat) => ⟨[(0, s.s 0), (1, .i (k + 3 * n)), (4, s.s 4), (5, .i n)], [(36, [.own pkd (fillI (mkPT k) (xs.map parT) n)])], []⟩) (fun (n : Nat) => n ≤ xs.length) (fun (n : Nat) => xs.length - n) (0) [some 36] [] ⟨rfl, ⟨rfl, (congrArg (fun z => V.t (T.v (Value.int _ z))) (by omega)), rfl, rfl, I⟩, ⟨⟨rfl, ⟨rfl, I⟩⟩, I⟩, I⟩ (by omega) ?_
  intro n hn
  have hx : (fillI (mkPT k) (xs.map parT) n).length = xs.length := by rw [fillI_len, List.length_map]; omega
  conv => whnf
  refine W.sq ?_
  refine g 6 9 [] ?_
  conv => whnf
  refine ⟨⟨I, I, I, I, I⟩, ?_⟩
  refine W.cn ?_
  conv => whnf
  refine ⟨fun h1 => ?_, fun h1 => ?_⟩
  replace h1 := dt h1
  simp only [List.length_map, List.length_append, List.length_set, List.length_replicate, List.length_cons, List.length_nil, List.length_take, List.length_drop, fill_len, fillI_len, List.length_range, bytesT_len] at h1
  refine W.skip ?_
  refine W.sq ?_
  refine W.blk ?_
  obtain ⟨y1, hy1⟩ := some_at (xs := xs) (n := n) (by omega)
  refine g 9 17 [.n (n), .x (parT y1)] ?_
  conv => whnf
  refine ⟨⟨I, I, I, ⟨rfl, (by omega)⟩, I, ⟨⟨I, I⟩, fillI_get (ixl (by assumption))⟩, I⟩, ?_⟩
  refine g 17 19 [.i (k + (3 : Int) * (↑n : Int) + (1 : Int))] ?_
  conv => whnf
  refine ⟨⟨I, w64 (by omega) (by omega), I, I⟩, ?_⟩
  refine g 19 25 [.call (V.s (markT (k + (3 : Int) * (↑n : Int) + (1 : Int)))) ([[]]), .n (n), .x (patch (parT y1) ((0 : Nat) + (0 : Nat)) [T.v (Value.int IntKind.i64 (k + (3 : Int) * (↑n : Int)))])] ?_
  conv => whnf
  refine ⟨⟨I, I, I, ⟨⟨I, I⟩, I, ⟨⟨I, I⟩, I⟩, ⟨I, I⟩, Go.K.c_laws_markText _ (by omega)⟩, ⟨rfl, (by simp only [List.length_map, List.length_append, List.length_set, List.length_replicate, List.length_cons, List.length_nil, List.length_take, List.length_drop, fill_len, fillI_len, List.length_range, bytesT_len]; omega)⟩, I, ⟨⟨I, I⟩, getset (by (try dsimp only); omega)⟩, I⟩, ?_⟩
  refine g 25 27 [.i (k + (3 : Int) * (↑n : Int) + (1 : Int) + (1 : Int))] ?_
  conv => whnf
  refine ⟨⟨I, w64 (by omega) (by omega), I, I⟩, ?_⟩
  refine g 27 33 [.call (V.s (markT (k + (3 : Int) * (↑n : Int) + (1 : Int) + (1 : Int)))) ([[]]), .n (n), .x (patch (patch (parT y1) ((0 : Nat) + (0 : Nat)) [T.v (Value.int IntKind.i64 (k + (3 : Int) * (↑n : Int)))]) ((0 : Nat) + (1 : Nat)) [T.v (Value.string (markT (k + (3 : Int) * (↑n : Int) + (1 : Int))))])] ?_
  conv => whnf
  refine ⟨⟨I, I, I, ⟨⟨I, I⟩, I, ⟨⟨I, I⟩, I⟩, ⟨I, I⟩, Go.K.c_laws_markText _ (by omega)⟩, ⟨rfl, (by simp only [List.length_map, List.length_append, List.length_set, List.length_replicate, List.length_cons, List.length_nil, List.length_take, List.length_drop, fill_len, fillI_len, List.length_range, bytesT_len]; omega)⟩, I, ⟨⟨I, I⟩, getset (by simp only [List.length_map, List.length_append, List.length_set, List.length_replicate, List.length_cons, List.length_nil, List.length_take, List.length_drop, fill_len, fillI_len, List.length_range, bytesT_len]; omega)⟩, I⟩, ?_⟩
  refine rg [.i (k + (3 : Int) * (↑n : Int) + (1 : Int) + (1 : Int) + (1 : Int))] ?_
  conv => whnf
  refine ⟨⟨I, w64 (by omega) (by omega), I, I⟩, ?_⟩
  refine rg [.i ((↑n : Int) + (1 : Int))] ?_
  conv => whnf
  refine ⟨⟨I, w64 (by omega) (by omega), I, I⟩, ?_⟩
  rotate_left 1
  replace h1 := df h1
  simp only [List.length_map, List.length_append, List.length_set, List.length_replicate, List.length_cons, List.length_nil, List.length_take, List.length_drop, fill_len, fillI_len, List.length_range, bytesT_len] at h1
  refine W.exit ?_
  refine g 5 36 [] ?_
  conv => whnf
  refine ⟨⟨I, I, I⟩, ?_⟩
  refine W.ret ?_
  refine EndsW.rt ?_
  conv => whnf
  refine ⟨⟨I, I, I⟩, ?_, ?_⟩
  exact vi (by omega)
  rotate_left 1
  · refine ⟨n + 1, [some 36], [], ⟨rfl, ⟨rfl, (congrArg (fun z => V.t (T.v (Value.int _ z))) (by omega)), rfl, rfl, I⟩, ⟨⟨rfl, ⟨(congrArg (V.own _) (mark_step (by rw [List.length_map]; omega))), I⟩⟩, I⟩, I⟩, ?_, ?_⟩
    rotate_left 1
    (dsimp only; omega)
    dsimp only
    omega
  · rw [show n = xs.length from by omega, fillI_all _ _ (by rw [List.length_map]; omega)]
theorem c_laws_heldParcelS (m : Nat) (k : Int) (hk : 0 ≤ k ∧ k ≤ 549755813888) (hl : m ≤ 1048576) : F n_laws_heldParcelS [.val (.t (.slc pkd ((List.range m).map (mkPT k)))), .val (.i k)] (.i (k + 3 * m)) [[], []] := by
  refine i_laws_heldParcelS ?_
  conv => whnf
  refine g 0 0 [] ?_
  conv => whnf
  refine ⟨⟨I, I⟩, ?_⟩
  refine W.sq ?_
  refine g 0 0 [] ?_
  conv => whnf
  refine ⟨⟨I, I⟩, ?_⟩
  refine W.blk ?_
  refine W.lp (fun s (n : Nat) => ⟨[(0, s.s 0), (1, .i (k + 3 * n)), (5, .i n)], [], []⟩) (fun (n : Nat) => n ≤ m) (fun (n : Nat) => m - n) (0) [] [] ⟨rfl, ⟨rfl, (congrArg (fun z => V.t (T.v (Value.int _ z))) (by omega)), rfl, I⟩, I, I⟩ (by omega) ?_
  intro n hn
  conv => whnf
  refine W.sq ?_
  refine g 6 9 [] ?_
  conv => whnf
  refine ⟨⟨I, I, I, I, I⟩, ?_⟩
  refine W.cn ?_
  conv => whnf
  refine ⟨fun h1 => ?_, fun h1 => ?_⟩
  replace h1 := dt h1
  simp only [List.length_map] at h1
  simp only [List.length_map, List.length_append, List.length_set, List.length_replicate, List.length_cons, List.length_nil, List.length_take, List.length_drop, fill_len, fillI_len, List.length_range, bytesT_len] at h1
  refine W.skip ?_
  refine W.sq ?_
  refine W.blk ?_
  refine W.sq ?_
  refine g 9 18 [.x (mkPT k (Int.toNat (↑n : Int)))] ?_
  conv => whnf
  refine ⟨⟨I, I, ⟨(by omega), rng_get (by omega)⟩, I, I, I, I, I⟩, ?_⟩
  refine W.cn ?_
  conv => whnf
  refine ⟨noT (notF rfl), fun _ => ?_⟩
  refine W.skip ?_
  refine g 18 21 [.i (k + (3 : Int) * (↑n : Int) + (1 : Int))] ?_
  conv => whnf
  refine ⟨⟨I, w64 (by omega) (by omega), I, I⟩, ?_⟩
  refine W.sq ?_
  refine gd 21 28 [[], [], [.x (mkPT k (Int.toNat (↑n : Int)))], [], [], [], [.call (V.s (markT (k + (3 : Int) * (↑n : Int) + (1 : Int)))) ([[]])], []] ?_
  conv => whnf
  refine ⟨⟨I, I, ⟨(by omega), rng_get (by omega)⟩, I, I, I, ⟨⟨I, I⟩, I, ⟨⟨I, I⟩, I⟩, ⟨I, I⟩, Go.K.c_laws_markText _ (by omega)⟩, I, I⟩, by kernel_rfl, ?_⟩
  refine W.cn ?_
  conv => whnf
  refine ⟨noT (notF rfl), fun _ => ?_⟩
  refine W.skip ?_
  refine g 28 31 [.i (k + (3 : Int) * (↑n : Int) + (1 : Int) + (1 : Int))] ?_
  conv => whnf
  refine ⟨⟨I, w64 (by omega) (by omega), I, I⟩, ?_⟩
  refine W.sq ?_
  refine gd 31 38 [[], [], [.x (mkPT k (Int.toNat (↑n : Int)))], [], [], [], [.call (V.s (markT (k + (3 : Int) * (↑n : Int) + (1 : Int) + (1 : Int)))) ([[]])], []] ?_
  conv => whnf
  refine ⟨⟨I, I, ⟨(by omega), rng_get (by omega)⟩, I, I, I, ⟨⟨I, I⟩, I, ⟨⟨I, I⟩, I⟩, ⟨I, I⟩, Go.K.c_laws_markText _ (by omega)⟩, I, I⟩, by kernel_rfl, ?_⟩
  refine W.cn ?_
  conv => whnf
  refine ⟨noT (notF rfl), fun _ => ?_⟩
  refine W.skip ?_
  refine rg [.i (k + (3 : Int) * (↑n : Int) + (1 : Int) + (1 : Int) + (1 : Int))] ?_
  conv => whnf
  refine ⟨⟨I, w64 (by omega) (by omega), I, I⟩, ?_⟩
  refine rg [.i ((↑n : Int) + (1 : Int))] ?_
  conv => whnf
  refine ⟨⟨I, w64 (by omega) (by omega), I, I⟩, ?_⟩
  rotate_left 1
  replace h1 := df h1
  simp only [List.length_map] at h1
  simp only [List.length_map, List.length_append, List.length_set, List.length_replicate, List.length_cons, List.length_nil, List.length_take, List.length_drop, fill_len, fillI_len, List.length_range, bytesT_len] at h1
  refine W.exit ?_
  refine g 5 42 [] ?_
  conv => whnf
  refine ⟨⟨I, I, I⟩, ?_⟩
  refine W.ret ?_
  refine EndsW.rt ?_
  conv => whnf
  refine ⟨⟨I, I, I⟩, ?_, rfl⟩
  exact vi (by omega)
  refine ⟨n + 1, [], [], ⟨rfl, ⟨rfl, (congrArg (fun z => V.t (T.v (Value.int _ z))) (by omega)), rfl, I⟩, I, I⟩, ?_, ?_⟩
  rotate_left 1
  (dsimp only; omega)
  dsimp only
  omega
theorem c_spec_l6There (xs : List Parcel) (k : Int) (hl : xs.length ≤ 9223372036854775806) : F n_spec_l6There [.val (.t (pars xs)), .val (.i k)] (.b (decide (xs.length ≤ 2000 ∧ 0 ≤ k ∧ k < xs.length))) [[], []] := by
  refine i_spec_l6There ?_
  conv => whnf
  refine g 0 0 [] ?_
  conv => whnf
  refine ⟨⟨I, I⟩, ?_⟩
  by_cases h1 : (↑(List.length (List.map parT xs)) : Int) ≤ (2000 : Int)
  simp only [List.length_map] at h1
  by_cases h2 : (0 : Int) ≤ k
  refine g 5 18 [.b (true), .b (true), .b (true), .b (true), .b (true), .b (true), .b (true), .b (true)] ?_
  conv => whnf
  refine ⟨⟨I, I, I, I, ⟨(by simp [*]), I⟩, ⟨(by simp [*]), I⟩, (by simp [*]), I, ⟨decide_eq_true (by omega), I⟩, ⟨decide_eq_true (by omega), I⟩, ⟨decide_eq_true (by omega), I⟩, ⟨decide_eq_true (by omega), I⟩, decide_eq_true (by omega), I, I⟩, ?_⟩
  refine W.ret ?_
  refine EndsW.rt ?_
  conv => whnf
  refine ⟨⟨I, I, I⟩, ?_, rfl⟩
  rotate_left 1
  refine g 5 18 [.b (true), .b (true), .b (true), .b (false), .b (false), .b (false), .b (false), .b (false)] ?_
  conv => whnf
  refine ⟨⟨I, I, I, I, ⟨(by simp [*]), I⟩, ⟨(by simp [*]), I⟩, (by simp [*]), I, decide_eq_false (by omega), decide_eq_false (by omega), decide_eq_false (by omega), decide_eq_false (by omega), decide_eq_false (by omega), I, I⟩, ?_⟩
  refine W.ret ?_
  refine EndsW.rt ?_
  conv => whnf
  refine ⟨⟨I, I, I⟩, ?_, rfl⟩
  exact vbf (by omega)
  simp only [List.length_map] at h1
  refine g 5 18 [.b (false), .b (false), .b (false), .b (false), .b (false), .b (false), .b (false), .b (false)] ?_
  conv => whnf
  refine ⟨⟨I, I, I, I, (by simp [*]), (by simp [*]), (by simp [*]), I, rfl, rfl, rfl, rfl, rfl, I, I⟩, ?_⟩
  refine W.ret ?_
  refine EndsW.rt ?_
  conv => whnf
  refine ⟨⟨I, I, I⟩, ?_, rfl⟩
  exact vbf (by omega)
  exact vbd (by simp only [List.length_map]; omega)
theorem c_impl_there (xs : List Parcel) (k : Int) (hl : xs.length ≤ 9223372036854775806) : F n_impl_there [.val (.t (pars xs)), .val (.i k)] (.b (decide (xs.length ≤ 2000 ∧ 0 ≤ k ∧ k < xs.length))) [[], []] := by
  refine i_impl_there ?_
  conv => whnf
  refine g 0 0 [] ?_
  conv => whnf
  refine ⟨⟨I, I⟩, ?_⟩
  by_cases h1 : (↑(List.length (List.map parT xs)) : Int) ≤ (2000 : Int)
  simp only [List.length_map] at h1
  refine g 5 15 [.b (true), .b (true), .b (true), .b (true), .i ((↑(List.length (List.map parT xs)) : Int) - (1 : Int)), .b (true), .call (V.b (decide ((0 : Int) ≤ k ∧ k ≤ (↑(List.length (List.map parT xs)) : Int) - (1 : Int)))) ([[], [], []]), .b (true)] ?_
  conv => whnf
  refine ⟨⟨I, I, I, I, ⟨(by simp [*]), I⟩, ⟨(by simp [*]), I⟩, ⟨(by simp [*]), I⟩, ⟨(by simp [*]), w64 (by simp only [List.length_map, List.length_append, List.length_set, List.length_replicate, List.length_cons, List.length_nil, List.length_take, List.length_drop, fill_len, fillI_len, List.length_range, bytesT_len]; omega) (by simp only [List.length_map, List.length_append, List.length_set, List.length_replicate, List.length_cons, List.length_nil, List.length_take, List.length_drop, fill_len, fillI_len, List.length_range, bytesT_len]; omega)⟩, ⟨(by simp [*]), ⟨I, I, I, I⟩, I, ⟨⟨I, I⟩, ⟨I, I⟩, ⟨I, I⟩, I⟩, ⟨I, I⟩, Go.K.c_impl_within _ _ _⟩, (by simp [*]), I, I⟩, ?_⟩
  refine W.ret ?_
  refine EndsW.rt ?_
  conv => whnf
  refine ⟨⟨I, I, I⟩, ?_, rfl⟩
  rotate_left 1
  simp only [List.length_map] at h1
  refine g 5 15 [.b (false), .b (false), .b (false), .b (false), .b (false), .b (false)] ?_
  conv => whnf
  refine ⟨⟨I, I, I, I, (by simp [*]), (by simp [*]), (by simp [*]), (by simp [*]), (by simp [*]), (by simp [*]), I, I⟩, ?_⟩
  refine W.ret ?_
  refine EndsW.rt ?_
  conv => whnf
  refine ⟨⟨I, I, I⟩, ?_, rfl⟩
  exact vbf (by omega)
  exact vbd (by simp only [List.length_map]; omega)
theorem c_spec_l6Copy (xs : List Parcel) (hl : xs.length ≤ 1048576) : F n_spec_l6Copy [.val (.t (pars xs))] (.own pkd (xs.map parT)) [[]] := by
  refine i_spec_l6Copy ?_
  conv => whnf
  refine g 0 0 [] ?_
  conv => whnf
  refine ⟨⟨I, I⟩, ?_⟩
  refine g 3 6 [] ?_
  conv => whnf
  refine ⟨⟨I, I, ⟨I, I, (by simp only [List.length_map, List.length_append, List.length_set, List.length_replicate, List.length_cons, List.length_nil, List.length_take, List.length_drop, fill_len, fillI_len, List.length_range, bytesT_len]; omega)⟩, I, I⟩, ?_⟩
  refine W.ret ?_
  refine EndsW.rt ?_
  conv => whnf
  refine ⟨⟨I, I, I⟩, ?_, rfl⟩
  rfl
theorem c_impl_copied (xs : List Parcel) (hl : xs.length ≤ 1048576) : F n_impl_copied [.val (.t (pars xs))] (.own pkd (xs.map parT)) [[]] := by
  refine i_impl_copied ?_
  conv => whnf
  refine g 0 0 [] ?_
  conv => whnf
  refine ⟨⟨I, I⟩, ?_⟩
  refine g 3 6 [] ?_
  conv => whnf
  refine ⟨⟨I, I, ⟨I, I, (by simp only [List.length_map, List.length_append, List.length_set, List.length_replicate, List.length_cons, List.length_nil, List.length_take, List.length_drop, fill_len, fillI_len, List.length_range, bytesT_len]; omega)⟩, I, I⟩, ?_⟩
  refine W.ret ?_
  refine EndsW.rt ?_
  conv => whnf
  refine ⟨⟨I, I, I⟩, ?_, rfl⟩
  rfl
def loseP (xs : List Parcel) (k : Int) : List Parcel := if xs.length ≤ 2000 ∧ 0 ≤ k ∧ k < xs.length then xs.take k.toNat ++ xs.drop (k.toNat + 1) else xs
theorem lose_no {xs : List Parcel} {k : Int} (h : ¬(xs.length ≤ 2000 ∧ 0 ≤ k ∧ k < xs.length)) : loseP xs k = xs := if_neg h
theorem lose_yes {xs : List Parcel} {k : Int} (h : xs.length ≤ 2000 ∧ 0 ≤ k ∧ k < xs.length) : List.drop 0 (List.take k.toNat (xs.map parT)) ++ List.drop (k + 1).toNat (List.take (xs.map parT).length (xs.map parT)) = (loseP xs k).map parT := by
  unfold loseP
  rw [if_pos h, List.drop_zero, List.take_length, show (k + 1).toNat = k.toNat + 1 from by omega, List.map_append, List.map_take, List.map_drop]
theorem c_spec_Lose (xs : List Parcel) (k : Int) (hl : xs.length ≤ 1048576) : F n_spec_Lose [.val (.t (pars xs)), .val (.i k)] (.own pkd ((loseP xs k).map parT)) [[], []] := by
  refine i_spec_Lose ?_
  conv => whnf
  refine g 0 0 [] ?_
  conv => whnf
  refine ⟨⟨I, I⟩, ?_⟩
  refine W.sq ?_
  refine g 5 8 [.call (V.b (decide (List.length xs ≤ (2000 : Nat) ∧ (0 : Int) ≤ k ∧ k < (↑(List.length xs) : Int)))) ([[], []])] ?_
  conv => whnf
  refine ⟨⟨I, I, ⟨⟨I, I, I⟩, I, ⟨⟨I, I⟩, ⟨I, I⟩, I⟩, ⟨I, I⟩, Go.K.c_spec_l6There _ _ (by omega)⟩, I, I⟩, ?_⟩
  refine W.cn ?_
  conv => whnf
  refine ⟨fun h1 => ?_, fun h1 => ?_⟩
  replace h1 := ndt h1
  refine g 8 11 [.call (V.own pkd (List.map parT xs)) ([[]])] ?_
  conv => whnf
  refine ⟨⟨I, ⟨⟨I, I⟩, I, ⟨⟨I, I⟩, I⟩, ⟨I, I⟩, Go.K.c_spec_l6Copy _ (by omega)⟩, I, I⟩, ?_⟩
  refine W.ret ?_
  refine EndsW.rt ?_
  conv => whnf
  refine ⟨⟨I, I, I⟩, ?_, rfl⟩
  rotate_left 1
  replace h1 := ndf h1
  refine W.skip ?_
  refine gd 8 21 [[], [], [], [.n (Int.toNat k)], [], [], [], [.i (k + (1 : Int))], [.n (Int.toNat (k + (1 : Int)))], [], []] ?_
  conv => whnf
  refine ⟨⟨I, I, I, ⟨I, (by omega), I, (by omega), (by simp only [List.length_map, List.length_append, List.length_set, List.length_replicate, List.length_cons, List.length_nil, List.length_take, List.length_drop, fill_len, fillI_len, List.length_range, bytesT_len]; omega)⟩, ⟨I, I, (by simp only [List.length_map, List.length_append, List.length_set, List.length_replicate, List.length_cons, List.length_nil, List.length_take, List.length_drop, fill_len, fillI_len, List.length_range, bytesT_len]; omega)⟩, I, I, w64 (by omega) (by omega), ⟨I, I, (by omega), (by simp only [List.length_map, List.length_append, List.length_set, List.length_replicate, List.length_cons, List.length_nil, List.length_take, List.length_drop, fill_len, fillI_len, List.length_range, bytesT_len]; omega), (by omega)⟩, ⟨I, I, (by simp only [List.length_map, List.length_append, List.length_set, List.length_replicate, List.length_cons, List.length_nil, List.length_take, List.length_drop, fill_len, fillI_len, List.length_range, bytesT_len]; omega)⟩, I, I⟩, by kernel_rfl, ?_⟩
  refine W.ret ?_
  refine EndsW.rt ?_
  conv => whnf
  refine ⟨⟨I, I, I⟩, ?_, rfl⟩
  rotate_left 1
  · rw [lose_no h1]
  · exact congrArg (V.own pkd) (lose_yes h1)
theorem c_impl_Lose (xs : List Parcel) (k : Int) (hl : xs.length ≤ 1048576) : F n_impl_Lose [.val (.t (pars xs)), .val (.i k)] (.own pkd ((loseP xs k).map parT)) [[], []] := by
  refine i_impl_Lose ?_
  conv => whnf
  refine g 0 0 [] ?_
  conv => whnf
  refine ⟨⟨I, I⟩, ?_⟩
  refine g 6 8 [.call (V.own pkd (List.map parT xs)) ([[]])] ?_
  conv => whnf
  refine ⟨⟨I, ⟨⟨I, I⟩, I, ⟨⟨I, I⟩, I⟩, ⟨I, I⟩, Go.K.c_impl_copied _ (by omega)⟩, I, I⟩, ?_⟩
  refine W.sq ?_
  refine g 8 10 [.call (V.b (decide (List.length xs ≤ (2000 : Nat) ∧ (0 : Int) ≤ k ∧ k < (↑(List.length xs) : Int)))) ([[], []])] ?_
  conv => whnf
  refine ⟨⟨I, I, ⟨⟨I, I, I⟩, I, ⟨⟨I, I⟩, ⟨I, I⟩, I⟩, ⟨I, I⟩, Go.K.c_impl_there _ _ (by omega)⟩, I⟩, ?_⟩
  refine W.cn ?_
  conv => whnf
  refine ⟨fun h1 => ?_, fun h1 => ?_⟩
  replace h1 := dt h1
  refine rgd [[], [], [.n (Int.toNat k)], [], [], [.i (k + (1 : Int))], [.n (Int.toNat (k + (1 : Int)))], [], []] ?_
  conv => whnf
  refine ⟨⟨I, I, ⟨I, (by omega), I, (by omega), (by simp only [List.length_map, List.length_append, List.length_set, List.length_replicate, List.length_cons, List.length_nil, List.length_take, List.length_drop, fill_len, fillI_len, List.length_range, bytesT_len]; omega)⟩, I, I, w64 (by omega) (by omega), ⟨I, I, (by omega), (by simp only [List.length_map, List.length_append, List.length_set, List.length_replicate, List.length_cons, List.length_nil, List.length_take, List.length_drop, fill_len, fillI_len, List.length_range, bytesT_len]; omega), (by omega)⟩, ⟨I, I, (by simp only [List.length_map, List.length_append, List.length_set, List.length_replicate, List.length_cons, List.length_nil, List.length_take, List.length_drop, fill_len, fillI_len, List.length_range, bytesT_len]; omega)⟩, I, I⟩, by kernel_rfl, ?_⟩
  refine g 5 20 [] ?_
  conv => whnf
  refine ⟨⟨I, I, I⟩, ?_⟩
  refine W.ret ?_
  refine EndsW.rt ?_
  conv => whnf
  refine ⟨⟨I, I, I⟩, ?_, rfl⟩
  rotate_left 1
  replace h1 := df h1
  refine W.skip ?_
  refine g 5 20 [] ?_
  conv => whnf
  refine ⟨⟨I, I, I⟩, ?_⟩
  refine W.ret ?_
  refine EndsW.rt ?_
  conv => whnf
  refine ⟨⟨I, I, I⟩, ?_, rfl⟩
  rotate_left 1
  · exact congrArg (V.own pkd) (lose_yes h1)
  · rw [lose_no h1]
end Go.K

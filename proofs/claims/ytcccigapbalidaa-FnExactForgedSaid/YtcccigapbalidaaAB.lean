/- Contracts of functions of the program: what each call answers. -/
import Derived.Test.YtcccigapbalidaaAA
import Derived.Test.YtcccigapbalidaaH
set_option linter.unusedVariables false
set_option linter.unusedSimpArgs false
set_option maxHeartbeats 4000000
set_option maxRecDepth 20000
open Go Go.Tm Go.Proofs
namespace Go.K
theorem wf_Parcel {n : Nat} {x : List T} (h : wfT E (n + 3) ty_laws_Parcel x) : ∃ v : Parcel, x = parT v ∧ (v.frm.size ≤ 9223372036854775807 ∧ v.text.size ≤ 9223372036854775807) := by
  obtain ⟨y1, z1, e1, ⟨k, rfl, _⟩, y2, z2, e2, ⟨a, rfl, ha⟩, y3, z3, e3, ⟨b, rfl, hb⟩, e4⟩ := h
  subst e4; subst e3; subst e2; subst e1
  exact ⟨⟨k, a, b⟩, rfl, ha, hb⟩
def forgedP (a b key : ByteArray) : Bool := decide (¬ b = a) && (readM b key).isSome
theorem c_spec_Forged (k : Int) (a b key : ByteArray) (h : b.size ≤ 68719476736) : F n_spec_Forged [.val (parV k a b), .val (.s key)] (.b (forgedP a b key)) [[], []] := by
  by_cases e : b = a
  · have f : forgedP a b key = false := by unfold forgedP; simp [e]
    rw [f]
    refine i_spec_Forged ?_
    conv => whnf
    refine g 0 1 [] ?_
    conv => whnf
    refine ⟨⟨⟨I, I, I, I⟩, I, I⟩, ?_⟩
    refine W.sq ?_
    refine g 7 11 [] ?_
    conv => whnf
    refine ⟨⟨I, I, I, I, I, I⟩, ?_⟩
    refine W.cn ?_
    conv => whnf
    refine ⟨fun _ => ?_, noF (decide_eq_true (by omega))⟩
    refine g 11 12 [] ?_
    conv => whnf
    refine ⟨⟨I, I⟩, ?_⟩
    refine W.ret ?_
    refine EndsW.rt ?_
    conv => whnf
    refine ⟨⟨I, I, I⟩, ?_, rfl⟩
    rfl
  · have c1 := c_spec_ReadMessage b key h
    unfold forgedP
    cases hr : readM b key with
    | none =>
      rw [hr] at c1
      refine i_spec_Forged ?_
      conv => whnf
      refine g 0 1 [] ?_
      conv => whnf
      refine ⟨⟨⟨I, I, I, I⟩, I, I⟩, ?_⟩
      refine W.sq ?_
      refine g 7 11 [] ?_
      conv => whnf
      refine ⟨⟨I, I, I, I, I, I⟩, ?_⟩
      refine W.cn ?_
      conv => whnf
      refine ⟨noT (decide_eq_false (by omega)), fun _ => ?_⟩
      refine W.skip ?_
      refine g 11 19 [.call (tupM none) ([[], []])] ?_
      conv => whnf
      refine ⟨⟨I, I, I, ⟨⟨I, I, I⟩, I, ⟨⟨I, I⟩, ⟨I, I⟩, I⟩, ⟨I, I⟩, (by assumption)⟩, I, I, I, I, ⟨I, I, I, I, I, I, I, I, I⟩, I, I⟩, ?_⟩
      refine g 5 20 [] ?_
      conv => whnf
      refine ⟨⟨I, I, I⟩, ?_⟩
      refine W.ret ?_
      refine EndsW.rt ?_
      conv => whnf
      refine ⟨⟨I, I, I⟩, ?_, rfl⟩
      (simp [*]; done)
    | some m =>
      rw [hr] at c1
      refine i_spec_Forged ?_
      conv => whnf
      refine g 0 1 [] ?_
      conv => whnf
      refine ⟨⟨⟨I, I, I, I⟩, I, I⟩, ?_⟩
      refine W.sq ?_
      refine g 7 11 [] ?_
      conv => whnf
      refine ⟨⟨I, I, I, I, I, I⟩, ?_⟩
      refine W.cn ?_
      conv => whnf
      refine ⟨noT (decide_eq_false (by omega)), fun _ => ?_⟩
      refine W.skip ?_
      refine g 11 19 [.call (tupM (some m)) ([[], []])] ?_
      conv => whnf
      refine ⟨⟨I, I, I, ⟨⟨I, I, I⟩, I, ⟨⟨I, I⟩, ⟨I, I⟩, I⟩, ⟨I, I⟩, (by assumption)⟩, I, I, I, I, ⟨I, I, I, I, I, I, I, I, I⟩, I, I⟩, ?_⟩
      refine g 5 20 [] ?_
      conv => whnf
      refine ⟨⟨I, I, I⟩, ?_⟩
      refine W.ret ?_
      refine EndsW.rt ?_
      conv => whnf
      refine ⟨⟨I, I, I⟩, ?_, rfl⟩
      (simp [*]; done)
theorem c_impl_Forged (k : Int) (a b key : ByteArray) (h : b.size ≤ 68719476736) : F n_impl_Forged [.val (parV k a b), .val (.s key)] (.b (forgedP a b key)) [[], []] := by
  have c1 := c_impl_ReadMessage b key h
  unfold forgedP
  cases hr : readM b key with
  | none =>
    rw [hr] at c1
    refine i_impl_Forged ?_
    conv => whnf
    refine g 0 1 [] ?_
    conv => whnf
    refine ⟨⟨⟨I, I, I, I⟩, I, I⟩, ?_⟩
    refine g 7 14 [.call (tupM none) ([[], []])] ?_
    conv => whnf
    refine ⟨⟨I, I, I, ⟨⟨I, I, I⟩, I, ⟨⟨I, I⟩, ⟨I, I⟩, I⟩, ⟨I, I⟩, (by assumption)⟩, I, I, I, I, ⟨I, I, I, I, I, I, I, I, I⟩, I, I⟩, ?_⟩
    refine g 5 22 [.b (false), .b (false), .b (false), .b (false), .b (false), .b (false)] ?_
    conv => whnf
    refine ⟨⟨I, I, rfl, rfl, rfl, rfl, rfl, rfl, I, I⟩, ?_⟩
    refine W.ret ?_
    refine EndsW.rt ?_
    conv => whnf
    refine ⟨⟨I, I, I⟩, ?_, rfl⟩
    (simp [*]; done)
  | some m =>
    rw [hr] at c1
    refine i_impl_Forged ?_
    conv => whnf
    refine g 0 1 [] ?_
    conv => whnf
    refine ⟨⟨⟨I, I, I, I⟩, I, I⟩, ?_⟩
    refine g 7 14 [.call (tupM (some m)) ([[], []])] ?_
    conv => whnf
    refine ⟨⟨I, I, I, ⟨⟨I, I, I⟩, I, ⟨⟨I, I⟩, ⟨I, I⟩, I⟩, ⟨I, I⟩, (by assumption)⟩, I, I, I, I, ⟨I, I, I, I, I, I, I, I, I⟩, I, I⟩, ?_⟩
    refine g 5 22 [.b (true), .b (true), .b (true), .b (true), .b (true), .b (true)] ?_
    conv => whnf
    refine ⟨⟨I, I, ⟨rfl, I⟩, ⟨rfl, I⟩, ⟨rfl, I⟩, ⟨rfl, I⟩, ⟨rfl, I⟩, rfl, I, I⟩, ?_⟩
    refine W.ret ?_
    refine EndsW.rt ?_
    conv => whnf
    refine ⟨⟨I, I, I⟩, ?_, rfl⟩
    (simp [*]; done)
theorem l_FnExactForged (p : Parcel) (hp : p.frm.size ≤ 9223372036854775807 ∧ p.text.size ≤ 9223372036854775807) (key : ByteArray) (hk : key.size ≤ 9223372036854775807) : F n_laws_FnExactForged [.val (parV p.kind p.frm p.text), .val (.s key)] (.b true) [[], []] := by
  refine i_laws_FnExactForged ?_
  conv => whnf
  refine g 0 1 [] ?_
  conv => whnf
  refine ⟨⟨⟨I, I, I, I⟩, I, I⟩, ?_⟩
  refine W.sq ?_
  refine g 8 10 [] ?_
  conv => whnf
  refine ⟨⟨I, I, I, I⟩, ?_⟩
  refine W.cn ?_
  conv => whnf
  refine ⟨fun h1 => ?_, fun h1 => ?_⟩
  replace h1 := dt h1
  refine g 10 11 [] ?_
  conv => whnf
  refine ⟨⟨I, I⟩, ?_⟩
  refine W.ret ?_
  refine EndsW.rt ?_
  conv => whnf
  refine ⟨⟨I, I, I⟩, ?_, rfl⟩
  rfl
  replace h1 := df h1
  refine W.skip ?_
  refine g 10 11 [] ?_
  conv => whnf
  refine ⟨⟨I, I⟩, ?_⟩
  refine g 11 14 [.call (V.i (if (1048576 : Int) - (↑(ByteArray.size (Parcel.frm p)) : Int) - (↑(ByteArray.size (Parcel.text p)) : Int) < (0 : Int) then (-1 : Int) else (1048576 : Int) - (↑(ByteArray.size (Parcel.frm p)) : Int) - (↑(ByteArray.size (Parcel.text p)) : Int))) ([[], []])] ?_
  conv => whnf
  refine ⟨⟨I, I, ⟨⟨I, I, I⟩, I, ⟨⟨I, I, I, I⟩, ⟨I, I⟩, I⟩, ⟨I, I⟩, Go.K.c_laws_szParcel _ _ _ _ (by omega) (by omega) (by omega) (by omega)⟩, I, I⟩, ?_⟩
  refine W.sq ?_
  refine g 5 15 [] ?_
  conv => whnf
  refine ⟨⟨I, I, I⟩, ?_⟩
  refine W.cn ?_
  conv => whnf
  refine ⟨fun h2 => ?_, fun h2 => ?_⟩
  replace h2 := dt h2
  refine g 15 16 [] ?_
  conv => whnf
  refine ⟨⟨I, I⟩, ?_⟩
  refine W.ret ?_
  refine EndsW.rt ?_
  conv => whnf
  refine ⟨⟨I, I, I⟩, ?_, rfl⟩
  rfl
  replace h2 := df h2
  refine W.skip ?_
  refine g 15 20 [.call (parV (Parcel.kind p) (Parcel.frm p) (Parcel.text p)) ([[]]), .call (V.b (forgedP (Parcel.frm p) (Parcel.text p) key)) ([[], []])] ?_
  conv => whnf
  refine ⟨⟨I, ⟨⟨I, I⟩, I, ⟨⟨I, I, I, I⟩, I⟩, ⟨I, I⟩, Go.K.c_laws_toParcel _ _ _⟩, I, ⟨⟨I, I, I⟩, I, ⟨⟨I, I, I, I⟩, ⟨I, I⟩, I⟩, ⟨I, I⟩, Go.K.c_spec_Forged _ _ _ _ (by omega)⟩, I, I⟩, ?_⟩
  refine g 20 24 [.call (parV (Parcel.kind p) (Parcel.frm p) (Parcel.text p)) ([[]]), .call (V.b (forgedP (Parcel.frm p) (Parcel.text p) key)) ([[], []])] ?_
  conv => whnf
  refine ⟨⟨I, ⟨⟨I, I⟩, I, ⟨⟨I, I, I, I⟩, I⟩, ⟨I, I⟩, Go.K.c_laws_toParcel _ _ _⟩, I, ⟨⟨I, I, I⟩, I, ⟨⟨I, I, I, I⟩, ⟨I, I⟩, I⟩, ⟨I, I⟩, Go.K.c_impl_Forged _ _ _ _ (by omega)⟩, I, I⟩, ?_⟩
  refine W.sq ?_
  refine g 6 26 [] ?_
  conv => whnf
  refine ⟨⟨I, I, I, I⟩, ?_⟩
  refine W.cn ?_
  conv => whnf
  refine ⟨noT (notF rfl), fun _ => ?_⟩
  refine W.skip ?_
  refine g 1 3 [] ?_
  conv => whnf
  refine ⟨⟨I, I⟩, ?_⟩
  refine W.ret ?_
  refine EndsW.rt ?_
  conv => whnf
  refine ⟨⟨I, I, I⟩, ?_, rfl⟩
  rfl
end Go.K

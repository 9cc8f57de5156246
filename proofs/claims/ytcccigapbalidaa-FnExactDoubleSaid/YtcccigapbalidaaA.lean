/- Contracts of functions of the program: what each call answers. -/
import Derived.Test.YtcccigapbalidaaNum
set_option linter.unusedVariables false
set_option linter.unusedSimpArgs false
set_option maxHeartbeats 4000000
set_option maxRecDepth 20000
open Go Go.Tm Go.Proofs
namespace Go.K
structure Entry where
  kind : Int
  epoch : Int
  task : Int
  text : ByteArray
  deriving DecidableEq
abbrev entryV (k ep ta : Int) (tx : ByteArray) : V := .agg [.t (.i k), .t (.i ep), .t (.i ta), .t (.s tx)]
abbrev Entry.v (e : Entry) : V := entryV e.kind e.epoch e.task e.text
theorem clo1 {v : V} (h : ∀ c ∈ cellsOf v, closedCell c = true) : Clo [.val v] := by
  intro a ha c hc
  simp at ha; subst ha; exact .inl (h c hc)
theorem c_impl_within (x lo hi : Int) : Tm.Fn Try.prog n_impl_within [.val (.i x), .val (.i lo), .val (.i hi)] (.b (decide (lo ≤ x ∧ x ≤ hi))) [[], [], []] := by
  refine i_impl_within (by simp) (by simp [Clo, aCells, cellsOf, closedCell]) rfl ?_
  refine Run.seqk ?_
  refine Run.reg C_ok [] ?_
  conv => whnf
  refine ⟨⟨I, I⟩, ?_⟩
  refine Run.seqk ?_
  by_cases h1 : lo ≤ x
  refine Run.reg C_ok [.b (true), .b (true), .b (true), .b (true)] ?_
  conv => whnf
  refine ⟨⟨I, I, I, I, ⟨decide_eq_true (by omega), I⟩, ⟨decide_eq_true (by omega), I⟩, ⟨decide_eq_true (by omega), I⟩, decide_eq_true (by omega), I, I⟩, ?_⟩
  refine Run.ret ?_
  refine Ends.rt [] ?_
  conv => whnf
  refine ⟨⟨I, I, I⟩, ?_, rfl⟩
  show V.t (T.v (Value.bool (decide (x ≤ hi)))) = _
  exact vbd (by omega)
  refine Run.reg C_ok [.b (false), .b (false), .b (false), .b (false)] ?_
  conv => whnf
  refine ⟨⟨I, I, I, I, decide_eq_false (by omega), decide_eq_false (by omega), decide_eq_false (by omega), decide_eq_false (by omega), I, I⟩, ?_⟩
  refine Run.ret ?_
  refine Ends.rt [] ?_
  conv => whnf
  refine ⟨⟨I, I, I⟩, ?_, rfl⟩
  show V.t (T.v (Value.bool false)) = _
  exact vbf (by omega)
theorem c_spec_l2In (x lo hi : Int) : Tm.Fn Try.prog n_spec_l2In [.val (.i x), .val (.i lo), .val (.i hi)] (.b (decide (lo ≤ x ∧ x ≤ hi))) [[], [], []] := by
  refine i_spec_l2In (by simp) (by simp [Clo, aCells, cellsOf, closedCell]) rfl ?_
  refine Run.seqk ?_
  refine Run.reg C_ok [] ?_
  conv => whnf
  refine ⟨⟨I, I⟩, ?_⟩
  refine Run.seqk ?_
  by_cases h1 : lo ≤ x
  refine Run.reg C_ok [.b (true), .b (true), .b (true), .b (true)] ?_
  conv => whnf
  refine ⟨⟨I, I, I, I, ⟨decide_eq_true (by omega), I⟩, ⟨decide_eq_true (by omega), I⟩, ⟨decide_eq_true (by omega), I⟩, decide_eq_true (by omega), I, I⟩, ?_⟩
  refine Run.ret ?_
  refine Ends.rt [] ?_
  conv => whnf
  refine ⟨⟨I, I, I⟩, ?_, rfl⟩
  show V.t (T.v (Value.bool (decide (x ≤ hi)))) = _
  exact vbd (by omega)
  refine Run.reg C_ok [.b (false), .b (false), .b (false), .b (false)] ?_
  conv => whnf
  refine ⟨⟨I, I, I, I, decide_eq_false (by omega), decide_eq_false (by omega), decide_eq_false (by omega), decide_eq_false (by omega), I, I⟩, ?_⟩
  refine Run.ret ?_
  refine Ends.rt [] ?_
  conv => whnf
  refine ⟨⟨I, I, I⟩, ?_, rfl⟩
  show V.t (T.v (Value.bool false)) = _
  exact vbf (by omega)
theorem c_laws_szEntry (k ep ta : Int) (tx : ByteArray) (left : Int) (h : left ≤ 1048576) (h0 : 0 ≤ left) (ht : tx.size ≤ 9223372036854775807) : Tm.Fn Try.prog n_laws_szEntry [.val (entryV k ep ta tx), .val (.i left)] (.i (if left < tx.size then -1 else left - tx.size)) [[], []] := by
  refine i_laws_szEntry (by simp) (by simp [Clo, aCells, cellsOf, closedCell]) rfl ?_
  refine Run.seqk ?_
  refine Run.reg C_ok [] ?_
  conv => whnf
  refine ⟨⟨⟨I, I, I, I, I⟩, I, I⟩, ?_⟩
  refine Run.seqk ?_
  refine Run.reg C_ok [.i (left - (↑(ByteArray.size tx) : Int))] ?_
  conv => whnf
  refine ⟨⟨I, I, I, I, w64 (by omega) (by omega), I, I⟩, ?_⟩
  refine Run.seqk ?_
  refine Run.seqk ?_
  refine Run.reg C_ok [] ?_
  conv => whnf
  refine ⟨⟨I, I, I⟩, ?_⟩
  refine Run.cnd ?_
  conv => whnf
  refine ⟨fun h1 => ?_, fun h1 => ?_⟩
  replace h1 := dt h1
  refine Run.seqk ?_
  refine Run.reg C_ok [] ?_
  conv => whnf
  refine ⟨⟨I, I⟩, ?_⟩
  refine Run.ret ?_
  refine Ends.rt [] ?_
  conv => whnf
  refine ⟨⟨I, I, I⟩, ?_, rfl⟩
  show V.t (T.v (Value.int IntKind.i64 (-1 : Int))) = _
  exact vi (by omega)
  replace h1 := df h1
  refine Run.skip ?_
  refine Run.seqk ?_
  refine Run.reg C_ok [] ?_
  conv => whnf
  refine ⟨⟨I, I, I⟩, ?_⟩
  refine Run.ret ?_
  refine Ends.rt [] ?_
  conv => whnf
  refine ⟨⟨I, I, I⟩, ?_, rfl⟩
  show V.t (T.v (Value.int IntKind.i64 (left - (↑(ByteArray.size tx) : Int)))) = _
  exact vi (by omega)
theorem c_laws_toEntry (k ep ta : Int) (tx : ByteArray) : Tm.Fn Try.prog n_laws_toEntry [.val (entryV k ep ta tx)] (entryV k ep ta tx) [[]] := by
  refine i_laws_toEntry (by simp) (by simp [Clo, aCells, cellsOf, closedCell]) rfl ?_
  refine Run.seqk ?_
  refine Run.reg C_ok [] ?_
  conv => whnf
  refine ⟨⟨⟨I, I, I, I, I⟩, I, I⟩, ?_⟩
  refine Run.seqk ?_
  refine Run.reg C_ok [] ?_
  conv => whnf
  refine ⟨⟨I, I⟩, ?_⟩
  refine Run.seqk ?_
  refine Run.reg C_ok [] ?_
  conv => whnf
  refine ⟨⟨I, I, I, ⟨I, I⟩, I⟩, ?_⟩
  refine Run.seqk ?_
  refine Run.reg C_ok [] ?_
  conv => whnf
  refine ⟨⟨I, I, I, ⟨I, I⟩, I⟩, ?_⟩
  refine Run.seqk ?_
  refine Run.reg C_ok [] ?_
  conv => whnf
  refine ⟨⟨I, I, I, ⟨I, I⟩, I⟩, ?_⟩
  refine Run.seqk ?_
  refine Run.reg C_ok [] ?_
  conv => whnf
  refine ⟨⟨I, I, I, ⟨I, I⟩, I⟩, ?_⟩
  refine Run.seqk ?_
  refine Run.reg C_ok [] ?_
  conv => whnf
  refine ⟨⟨I, ⟨I, I, I, I, I⟩, I⟩, ?_⟩
  refine Run.ret ?_
  refine Ends.rt [] ?_
  conv => whnf
  refine ⟨⟨I, I, I, I, I, I⟩, ?_, rfl⟩
  show V.agg [V.t (T.v (Value.int IntKind.i64 k)), V.t (T.v (Value.int IntKind.i64 ep)), V.t (T.v (Value.int IntKind.i64 ta)), V.t (T.v (Value.string tx))] = _
  rfl
end Go.K

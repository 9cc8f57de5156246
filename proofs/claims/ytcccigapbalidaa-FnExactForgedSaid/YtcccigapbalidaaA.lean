/- Contracts of functions of the program: what each call answers. -/
import Derived.Test.YtcccigapbalidaaNum
set_option linter.unusedVariables false
set_option linter.unusedSimpArgs false
set_option maxHeartbeats 4000000
set_option maxRecDepth 20000
open Go Go.Tm Go.Proofs
namespace Go.K
structure Entry where
  kind : Int
  epoch : Int
  task : Int
  text : ByteArray
  deriving DecidableEq
abbrev entryV (k ep ta : Int) (tx : ByteArray) : V := .agg [.t (.i k), .t (.i ep), .t (.i ta), .t (.s tx)]
abbrev Entry.v (e : Entry) : V := entryV e.kind e.epoch e.task e.text
theorem c_impl_within (x lo hi : Int) : F n_impl_within [.val (.i x), .val (.i lo), .val (.i hi)] (.b (decide (lo ≤ x ∧ x ≤ hi))) [[], [], []] := by
  refine i_impl_within ?_
  conv => whnf
  refine g 0 0 [] ?_
  conv => whnf
  refine ⟨⟨I, I⟩, ?_⟩
  by_cases h1 : lo ≤ x
  refine g 7 15 [.b (true), .b (true), .b (true), .b (true)] ?_
  conv => whnf
  refine ⟨⟨I, I, I, I, ⟨decide_eq_true (by omega), I⟩, ⟨decide_eq_true (by omega), I⟩, ⟨decide_eq_true (by omega), I⟩, decide_eq_true (by omega), I, I⟩, ?_⟩
  refine W.ret ?_
  refine EndsW.rt ?_
  conv => whnf
  refine ⟨⟨I, I, I⟩, ?_, rfl⟩
  exact vbd (by omega)
  refine g 7 15 [.b (false), .b (false), .b (false), .b (false)] ?_
  conv => whnf
  refine ⟨⟨I, I, I, I, decide_eq_false (by omega), decide_eq_false (by omega), decide_eq_false (by omega), decide_eq_false (by omega), I, I⟩, ?_⟩
  refine W.ret ?_
  refine EndsW.rt ?_
  conv => whnf
  refine ⟨⟨I, I, I⟩, ?_, rfl⟩
  exact vbf (by omega)
theorem c_spec_l2In (x lo hi : Int) : F n_spec_l2In [.val (.i x), .val (.i lo), .val (.i hi)] (.b (decide (lo ≤ x ∧ x ≤ hi))) [[], [], []] := by
  refine i_spec_l2In ?_
  conv => whnf
  refine g 0 0 [] ?_
  conv => whnf
  refine ⟨⟨I, I⟩, ?_⟩
  by_cases h1 : lo ≤ x
  refine g 7 15 [.b (true), .b (true), .b (true), .b (true)] ?_
  conv => whnf
  refine ⟨⟨I, I, I, I, ⟨decide_eq_true (by omega), I⟩, ⟨decide_eq_true (by omega), I⟩, ⟨decide_eq_true (by omega), I⟩, decide_eq_true (by omega), I, I⟩, ?_⟩
  refine W.ret ?_
  refine EndsW.rt ?_
  conv => whnf
  refine ⟨⟨I, I, I⟩, ?_, rfl⟩
  exact vbd (by omega)
  refine g 7 15 [.b (false), .b (false), .b (false), .b (false)] ?_
  conv => whnf
  refine ⟨⟨I, I, I, I, decide_eq_false (by omega), decide_eq_false (by omega), decide_eq_false (by omega), decide_eq_false (by omega), I, I⟩, ?_⟩
  refine W.ret ?_
  refine EndsW.rt ?_
  conv => whnf
  refine ⟨⟨I, I, I⟩, ?_, rfl⟩
  exact vbf (by omega)
theorem c_laws_szEntry (k ep ta : Int) (tx : ByteArray) (left : Int) (h : left ≤ 1048576) (h0 : 0 ≤ left) (ht : tx.size ≤ 9223372036854775807) : F n_laws_szEntry [.val (entryV k ep ta tx), .val (.i left)] (.i (if left < tx.size then -1 else left - tx.size)) [[], []] := by
  refine i_laws_szEntry ?_
  conv => whnf
  refine g 0 1 [] ?_
  conv => whnf
  refine ⟨⟨⟨I, I, I, I, I⟩, I, I⟩, ?_⟩
  refine g 5 10 [.i (left - (↑(ByteArray.size tx) : Int))] ?_
  conv => whnf
  refine ⟨⟨I, I, I, I, w64 (by omega) (by omega), I, I⟩, ?_⟩
  refine W.sq ?_
  refine g 2 3 [] ?_
  conv => whnf
  refine ⟨⟨I, I, I⟩, ?_⟩
  refine W.cn ?_
  conv => whnf
  refine ⟨fun h1 => ?_, fun h1 => ?_⟩
  replace h1 := dt h1
  refine g 10 12 [] ?_
  conv => whnf
  refine ⟨⟨I, I⟩, ?_⟩
  refine W.ret ?_
  refine EndsW.rt ?_
  conv => whnf
  refine ⟨⟨I, I, I⟩, ?_, rfl⟩
  exact vi (by omega)
  replace h1 := df h1
  refine W.skip ?_
  refine g 10 13 [] ?_
  conv => whnf
  refine ⟨⟨I, I, I⟩, ?_⟩
  refine W.ret ?_
  refine EndsW.rt ?_
  conv => whnf
  refine ⟨⟨I, I, I⟩, ?_, rfl⟩
  exact vi (by omega)
theorem c_laws_toEntry (k ep ta : Int) (tx : ByteArray) : F n_laws_toEntry [.val (entryV k ep ta tx)] (entryV k ep ta tx) [[]] := by
  refine i_laws_toEntry ?_
  conv => whnf
  refine g 0 1 [] ?_
  conv => whnf
  refine ⟨⟨⟨I, I, I, I, I⟩, I, I⟩, ?_⟩
  refine g 0 0 [] ?_
  conv => whnf
  refine ⟨⟨I, I⟩, ?_⟩
  refine g 4 7 [] ?_
  conv => whnf
  refine ⟨⟨I, I, I, ⟨I, I⟩, I⟩, ?_⟩
  refine g 7 10 [] ?_
  conv => whnf
  refine ⟨⟨I, I, I, ⟨I, I⟩, I⟩, ?_⟩
  refine g 10 13 [] ?_
  conv => whnf
  refine ⟨⟨I, I, I, ⟨I, I⟩, I⟩, ?_⟩
  refine g 13 16 [] ?_
  conv => whnf
  refine ⟨⟨I, I, I, ⟨I, I⟩, I⟩, ?_⟩
  refine g 3 17 [] ?_
  conv => whnf
  refine ⟨⟨I, ⟨I, I, I, I, I⟩, I⟩, ?_⟩
  refine W.ret ?_
  refine EndsW.rt ?_
  conv => whnf
  refine ⟨⟨I, I, I, I, I, I⟩, ?_, rfl⟩
  rfl
end Go.K

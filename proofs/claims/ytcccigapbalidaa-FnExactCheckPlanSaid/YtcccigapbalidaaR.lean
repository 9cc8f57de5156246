/- Contracts of functions of the program: what each call answers. -/
import Derived.Test.YtcccigapbalidaaN
set_option linter.unusedVariables false
set_option linter.unusedSimpArgs false
set_option maxHeartbeats 4000000
set_option maxRecDepth 20000
open Go Go.Tm Go.Proofs Classical
namespace Go.K
def plainB (s : ByteArray) : Prop := (∀ (n : Nat) (c : UInt8), s[n]? = some c → 33 ≤ c.toNat ∧ c.toNat ≤ 126) ∧ 1 ≤ s.size ∧ s.size ≤ 30
theorem plain_no {s : ByteArray} {n : Nat} {c : UInt8} (h : s[n]? = some c) (hc : ¬ (33 ≤ (c.toNat : Int) ∧ (c.toNat : Int) ≤ 126)) : ¬ plainB s := fun e => hc (by have := e.1 n c h; omega)
theorem plain_step {s : ByteArray} {n : Nat} {c : UInt8} (hn : ∀ (m : Nat) (c : UInt8), m < n → s[m]? = some c → 33 ≤ c.toNat ∧ c.toNat ≤ 126) (h : s[n]? = some c) (hc : 33 ≤ (c.toNat : Int) ∧ (c.toNat : Int) ≤ 126) : ∀ (m : Nat) (c : UInt8), m < n + 1 → s[m]? = some c → 33 ≤ c.toNat ∧ c.toNat ≤ 126 := fun m d hm hd => by
  by_cases e : m = n
  · subst e; rw [h] at hd; cases hd; omega
  · exact hn m d (by omega) hd
theorem ba_some {s : ByteArray} {n : Nat} {c : UInt8} (h : s[n]? = some c) : n < s.size := by
  by_cases hn : n < s.size
  · exact hn
  · rw [getElem?_neg s n hn] at h; cases h
theorem c_impl_plain (s : ByteArray) (hs : s.size ≤ 9223372036854775807) : F n_impl_plain [.val (.s s)] (.b (decide (plainB s))) [[]] := by
  refine i_impl_plain ?_
  conv => whnf
  refine g 0 0 [] ?_
  conv => whnf
  refine ⟨⟨I, I⟩, ?_⟩
  refine W.sq ?_
  refine g 0 0 [] ?_
  conv => whnf
  refine ⟨⟨I, I⟩, ?_⟩
  refine W.blk ?_
  refine W.lp (fun s (n : Nat) => ⟨[(0, s.s 0), (3, .i n)], [], []⟩) (fun (n : Nat) => n ≤ s.size ∧ ∀ (m : Nat) (c : UInt8), m < n → s[m]? = some c → 33 ≤ c.toNat ∧ c.toNat ≤ 126) (fun (n : Nat) => s.size - n) (0) [] [] ⟨rfl, ⟨rfl, rfl, I⟩, I, I⟩ (by simp) ?_
  rintro n ⟨hn, hc⟩
  conv => whnf
  refine W.sq ?_
  refine g 5 7 [] ?_
  conv => whnf
  refine ⟨⟨I, I, I, I, I⟩, ?_⟩
  refine W.cn ?_
  conv => whnf
  refine ⟨fun h1 => ?_, fun h1 => ?_⟩
  replace h1 := dt h1
  refine W.skip ?_
  refine W.sq ?_
  refine W.blk ?_
  obtain ⟨y1, hy1, hb1⟩ := byte_at (s := s) (n := n) (by omega)
  by_cases h2 : (↑(UInt8.toNat y1) : Int) < (33 : Int)
  refine g 7 19 [.i ((↑(UInt8.toNat y1) : Int)), .b (true), .b (true), .b (true), .b (true), .b (true)] ?_
  conv => whnf
  refine ⟨⟨I, I, ⟨(by omega), ixb (by assumption)⟩, I, I, decide_eq_true (by omega), decide_eq_true (by omega), decide_eq_true (by omega), decide_eq_true (by omega), decide_eq_true (by omega), I⟩, ?_⟩
  refine W.cn ?_
  conv => whnf
  refine ⟨fun _ => ?_, noF (rfl)⟩
  refine g 19 20 [] ?_
  conv => whnf
  refine ⟨⟨I, I⟩, ?_⟩
  refine W.ret ?_
  refine EndsW.rt ?_
  conv => whnf
  refine ⟨⟨I, I, I⟩, ?_, rfl⟩
  rotate_left 1
  refine g 7 19 [.i ((↑(UInt8.toNat y1) : Int)), .b (false), .b (false), .b (false), .i ((↑(UInt8.toNat y1) : Int)), .b (false), .b (false)] ?_
  conv => whnf
  refine ⟨⟨I, I, ⟨(by omega), ixb (by assumption)⟩, I, I, ⟨decide_eq_false (by omega), I⟩, ⟨decide_eq_false (by omega), I⟩, ⟨decide_eq_false (by omega), (by omega), ixb (by assumption)⟩, ⟨decide_eq_false (by omega), I⟩, decide_eq_false (by omega), I⟩, ?_⟩
  refine W.cn ?_
  conv => whnf
  refine ⟨fun h3 => ?_, fun h3 => ?_⟩
  replace h3 := dt h3
  refine g 19 20 [] ?_
  conv => whnf
  refine ⟨⟨I, I⟩, ?_⟩
  refine W.ret ?_
  refine EndsW.rt ?_
  conv => whnf
  refine ⟨⟨I, I, I⟩, ?_, rfl⟩
  rotate_left 1
  replace h3 := df h3
  refine W.skip ?_
  refine rg [.i ((↑n : Int) + (1 : Int))] ?_
  conv => whnf
  refine ⟨⟨I, w64 (by omega) (by omega), I, I⟩, ?_⟩
  rotate_left 1
  replace h1 := df h1
  refine W.exit ?_
  by_cases h2 : (1 : Int) ≤ (↑(ByteArray.size s) : Int)
  refine g 7 28 [.b (true), .b (true), .b (true), .b (true)] ?_
  conv => whnf
  refine ⟨⟨I, I, I, I, ⟨decide_eq_true (by omega), I⟩, ⟨decide_eq_true (by omega), I⟩, ⟨decide_eq_true (by omega), I⟩, decide_eq_true (by omega), I, I⟩, ?_⟩
  refine W.ret ?_
  refine EndsW.rt ?_
  conv => whnf
  refine ⟨⟨I, I, I⟩, ?_, rfl⟩
  rotate_left 1
  refine g 7 28 [.b (false), .b (false), .b (false), .b (false)] ?_
  conv => whnf
  refine ⟨⟨I, I, I, I, decide_eq_false (by omega), decide_eq_false (by omega), decide_eq_false (by omega), decide_eq_false (by omega), I, I⟩, ?_⟩
  refine W.ret ?_
  refine EndsW.rt ?_
  conv => whnf
  refine ⟨⟨I, I, I⟩, ?_, rfl⟩
  rotate_left 1
  · exact vbf (plain_no hy1 (by omega))
  · exact vbf (plain_no hy1 (by omega))
  · refine ⟨n + 1, [], [], ⟨rfl, ⟨rfl, rfl, I⟩, I, I⟩, ?_, ?_⟩
    rotate_left 1
    (dsimp only; omega)
    dsimp only
    exact ⟨by omega, plain_step hc hy1 (by omega)⟩
  · exact vbd ⟨fun e => ⟨fun m c h => hc m c (by have := ba_some h; omega) h, by omega, by omega⟩, fun e => by have := e.2; omega⟩
  · exact vbf (fun e => by have := e.2; omega)
theorem c_spec_l1NameOk (s : ByteArray) (hs : s.size ≤ 9223372036854775807) : F n_spec_l1NameOk [.val (.s s)] (.b (decide (plainB s))) [[]] := by
  refine i_spec_l1NameOk ?_
  conv => whnf
  refine g 0 0 [] ?_
  conv => whnf
  refine ⟨⟨I, I⟩, ?_⟩
  refine W.sq ?_
  refine g 0 0 [] ?_
  conv => whnf
  refine ⟨⟨I, I⟩, ?_⟩
  refine W.blk ?_
  refine W.lp (fun s (n : Nat) => ⟨[(0, s.s 0), (3, .i n)], [], []⟩) (fun (n : Nat) => n ≤ s.size ∧ ∀ (m : Nat) (c : UInt8), m < n → s[m]? = some c → 33 ≤ c.toNat ∧ c.toNat ≤ 126) (fun (n : Nat) => s.size - n) (0) [] [] ⟨rfl, ⟨rfl, rfl, I⟩, I, I⟩ (by simp) ?_
  rintro n ⟨hn, hc⟩
  conv => whnf
  refine W.sq ?_
  refine g 5 7 [] ?_
  conv => whnf
  refine ⟨⟨I, I, I, I, I⟩, ?_⟩
  refine W.cn ?_
  conv => whnf
  refine ⟨fun h1 => ?_, fun h1 => ?_⟩
  replace h1 := dt h1
  refine W.skip ?_
  refine W.sq ?_
  refine W.blk ?_
  obtain ⟨y1, hy1, hb1⟩ := byte_at (s := s) (n := n) (by omega)
  by_cases h2 : (↑(UInt8.toNat y1) : Int) < (33 : Int)
  refine g 7 19 [.i ((↑(UInt8.toNat y1) : Int)), .b (true), .b (true), .b (true), .b (true), .b (true)] ?_
  conv => whnf
  refine ⟨⟨I, I, ⟨(by omega), ixb (by assumption)⟩, I, I, decide_eq_true (by omega), decide_eq_true (by omega), decide_eq_true (by omega), decide_eq_true (by omega), decide_eq_true (by omega), I⟩, ?_⟩
  refine W.cn ?_
  conv => whnf
  refine ⟨fun _ => ?_, noF (rfl)⟩
  refine g 19 20 [] ?_
  conv => whnf
  refine ⟨⟨I, I⟩, ?_⟩
  refine W.ret ?_
  refine EndsW.rt ?_
  conv => whnf
  refine ⟨⟨I, I, I⟩, ?_, rfl⟩
  rotate_left 1
  refine g 7 19 [.i ((↑(UInt8.toNat y1) : Int)), .b (false), .b (false), .b (false), .i ((↑(UInt8.toNat y1) : Int)), .b (false), .b (false)] ?_
  conv => whnf
  refine ⟨⟨I, I, ⟨(by omega), ixb (by assumption)⟩, I, I, ⟨decide_eq_false (by omega), I⟩, ⟨decide_eq_false (by omega), I⟩, ⟨decide_eq_false (by omega), (by omega), ixb (by assumption)⟩, ⟨decide_eq_false (by omega), I⟩, decide_eq_false (by omega), I⟩, ?_⟩
  refine W.cn ?_
  conv => whnf
  refine ⟨fun h3 => ?_, fun h3 => ?_⟩
  replace h3 := dt h3
  refine g 19 20 [] ?_
  conv => whnf
  refine ⟨⟨I, I⟩, ?_⟩
  refine W.ret ?_
  refine EndsW.rt ?_
  conv => whnf
  refine ⟨⟨I, I, I⟩, ?_, rfl⟩
  rotate_left 1
  replace h3 := df h3
  refine W.skip ?_
  refine rg [.i ((↑n : Int) + (1 : Int))] ?_
  conv => whnf
  refine ⟨⟨I, w64 (by omega) (by omega), I, I⟩, ?_⟩
  rotate_left 1
  replace h1 := df h1
  refine W.exit ?_
  by_cases h2 : (1 : Int) ≤ (↑(ByteArray.size s) : Int)
  refine g 7 28 [.b (true), .b (true), .b (true), .b (true)] ?_
  conv => whnf
  refine ⟨⟨I, I, I, I, ⟨decide_eq_true (by omega), I⟩, ⟨decide_eq_true (by omega), I⟩, ⟨decide_eq_true (by omega), I⟩, decide_eq_true (by omega), I, I⟩, ?_⟩
  refine W.ret ?_
  refine EndsW.rt ?_
  conv => whnf
  refine ⟨⟨I, I, I⟩, ?_, rfl⟩
  rotate_left 1
  refine g 7 28 [.b (false), .b (false), .b (false), .b (false)] ?_
  conv => whnf
  refine ⟨⟨I, I, I, I, decide_eq_false (by omega), decide_eq_false (by omega), decide_eq_false (by omega), decide_eq_false (by omega), I, I⟩, ?_⟩
  refine W.ret ?_
  refine EndsW.rt ?_
  conv => whnf
  refine ⟨⟨I, I, I⟩, ?_, rfl⟩
  rotate_left 1
  · exact vbf (plain_no hy1 (by omega))
  · exact vbf (plain_no hy1 (by omega))
  · refine ⟨n + 1, [], [], ⟨rfl, ⟨rfl, rfl, I⟩, I, I⟩, ?_, ?_⟩
    rotate_left 1
    (dsimp only; omega)
    dsimp only
    exact ⟨by omega, plain_step hc hy1 (by omega)⟩
  · exact vbd ⟨fun e => ⟨fun m c h => hc m c (by have := ba_some h; omega) h, by omega, by omega⟩, fun e => by have := e.2; omega⟩
  · exact vbf (fun e => by have := e.2; omega)
end Go.K

/-
  No cell of these rows narrows 'for every input' (looked for: loops, veiled, ifaces, maps, wideKeys, modest, calm, conditions, laid).
  DERIVED. THE GIVEN ROWS OF THIS SEAT. 6 by the template 'for every input the law returns true; each argument reads behind the call as it read before'; 0 by the template 'total and deterministic' (their statements: YtoknlfldllmhpaaGreatTotals.lean).
  GIVEN WITH THE SEED: the statements are not yours to turn. If you find one false, say at which input.
  Laid BY PROGRAM, IN A SANDBOX (cutbox-rows.mjs): the forced cells as the released guide's own fill.sh prints them over the translation e8bb8a76c03c088c… (all of the seat's roots in one cut). By AI agents, Wed Nov 11 2026. No macro, syntax, notation, axiom, sorry.
-/
import Derived.Test.YtoknlfldllmhpaaGreatChecked
import GoSem.Claim
import GoSem.ClaimJoined
import GoSem.ClaimMapViews
import Derived.JoinedTies
import Derived.KernelRfl
namespace Go.Proofs.YtoknlfldllmhpaaGreat
/- THE CELL 'sum', in the pinned program and in every row, IS THE sha256 OF THE DUMP (.gsa) THAT YtoknlfldllmhpaaGreatProg.lean LOADS. Nothing in Lean hashes anything: it is a label: what it is worth is what the hold of that sum in a sandbox is worth. -/
noncomputable def Tryz.pinned : Pinned := { name := "ytoknlfldllmhpaagreat", sum := "e8bb8a76c03c088cfb1ae94cfb5ded135272debe59d20210b509c527f554509f", checked := Tryz.checked }
namespace Rows
def none {H : Type} : Left H := { results := [], args := [] }

/-- 'laws.FnExactDo': WHATEVER THE INPUT: true; the input reads as it did. -/
def fnExactDoSpec : ChangeSpec := { name := "fnExactDo", fn := fun _ => fun
  | [d1, d2] => { results := [.lit (.bool true)], args := [d1, d2] }
  | _ => none }
def fnExactDoRow : OpenClaim := { program := "ytoknlfldllmhpaagreat", sum := "e8bb8a76c03c088cfb1ae94cfb5ded135272debe59d20210b509c527f554509f", func := "loop.example/kilncrew/laws.FnExactDo", spec := "fnExactDo", apart := false }
def FnExactDoSaid : Prop := fnExactDoRow.holds Tryz.pinned (OpenSpec.ofChange fnExactDoSpec)

/-- ITS FALSE NEIGHBOUR: 'it returns false'. Refute it at one input. -/
def fnExactDoWrong : ChangeSpec := { name := "fnExactDo", fn := fun _ => fun
  | [d1, d2] => { results := [.lit (.bool false)], args := [d1, d2] }
  | _ => none }
def FnExactDoWrongFalsely : Prop := fnExactDoRow.holds Tryz.pinned (OpenSpec.ofChange fnExactDoWrong)

/-- 'laws.FnExactCalm': WHATEVER THE INPUT: true; the input reads as it did. -/
def fnExactCalmSpec : ChangeSpec := { name := "fnExactCalm", fn := fun _ => fun
  | [d1, d2] => { results := [.lit (.bool true)], args := [d1, d2] }
  | _ => none }
def fnExactCalmRow : OpenClaim := { program := "ytoknlfldllmhpaagreat", sum := "e8bb8a76c03c088cfb1ae94cfb5ded135272debe59d20210b509c527f554509f", func := "loop.example/kilncrew/laws.FnExactCalm", spec := "fnExactCalm", apart := false }
def FnExactCalmSaid : Prop := fnExactCalmRow.holds Tryz.pinned (OpenSpec.ofChange fnExactCalmSpec)

/-- ITS FALSE NEIGHBOUR: 'it returns false'. Refute it at one input. -/
def fnExactCalmWrong : ChangeSpec := { name := "fnExactCalm", fn := fun _ => fun
  | [d1, d2] => { results := [.lit (.bool false)], args := [d1, d2] }
  | _ => none }
def FnExactCalmWrongFalsely : Prop := fnExactCalmRow.holds Tryz.pinned (OpenSpec.ofChange fnExactCalmWrong)

/-- 'laws.FnNothing': WHATEVER THE INPUT: true; the input reads as it did. -/
def fnNothingSpec : ChangeSpec := { name := "fnNothing", fn := fun _ => fun
  | [d] => { results := [.lit (.bool true)], args := [d] }
  | _ => none }
def fnNothingRow : OpenClaim := { program := "ytoknlfldllmhpaagreat", sum := "e8bb8a76c03c088cfb1ae94cfb5ded135272debe59d20210b509c527f554509f", func := "loop.example/kilncrew/laws.FnNothing", spec := "fnNothing", recurses := true, apart := false }
def FnNothingSaid : Prop := fnNothingRow.holds Tryz.pinned (OpenSpec.ofChange fnNothingSpec)

/-- ITS FALSE NEIGHBOUR: 'it returns false'. Refute it at one input. -/
def fnNothingWrong : ChangeSpec := { name := "fnNothing", fn := fun _ => fun
  | [d] => { results := [.lit (.bool false)], args := [d] }
  | _ => none }
def FnNothingWrongFalsely : Prop := fnNothingRow.holds Tryz.pinned (OpenSpec.ofChange fnNothingWrong)

/-- 'laws.FnStay': WHATEVER THE INPUT: true; the input reads as it did. -/
def fnStaySpec : ChangeSpec := { name := "fnStay", fn := fun _ => fun
  | [d1, d2] => { results := [.lit (.bool true)], args := [d1, d2] }
  | _ => none }
def fnStayRow : OpenClaim := { program := "ytoknlfldllmhpaagreat", sum := "e8bb8a76c03c088cfb1ae94cfb5ded135272debe59d20210b509c527f554509f", func := "loop.example/kilncrew/laws.FnStay", spec := "fnStay", recurses := true, apart := false }
def FnStaySaid : Prop := fnStayRow.holds Tryz.pinned (OpenSpec.ofChange fnStaySpec)

/-- ITS FALSE NEIGHBOUR: 'it returns false'. Refute it at one input. -/
def fnStayWrong : ChangeSpec := { name := "fnStay", fn := fun _ => fun
  | [d1, d2] => { results := [.lit (.bool false)], args := [d1, d2] }
  | _ => none }
def FnStayWrongFalsely : Prop := fnStayRow.holds Tryz.pinned (OpenSpec.ofChange fnStayWrong)

/-- 'laws.FnCalm': WHATEVER THE INPUT: true; the input reads as it did. -/
def fnCalmSpec : ChangeSpec := { name := "fnCalm", fn := fun _ => fun
  | [d1, d2] => { results := [.lit (.bool true)], args := [d1, d2] }
  | _ => none }
def fnCalmRow : OpenClaim := { program := "ytoknlfldllmhpaagreat", sum := "e8bb8a76c03c088cfb1ae94cfb5ded135272debe59d20210b509c527f554509f", func := "loop.example/kilncrew/laws.FnCalm", spec := "fnCalm", recurses := true, apart := false }
def FnCalmSaid : Prop := fnCalmRow.holds Tryz.pinned (OpenSpec.ofChange fnCalmSpec)

/-- ITS FALSE NEIGHBOUR: 'it returns false'. Refute it at one input. -/
def fnCalmWrong : ChangeSpec := { name := "fnCalm", fn := fun _ => fun
  | [d1, d2] => { results := [.lit (.bool false)], args := [d1, d2] }
  | _ => none }
def FnCalmWrongFalsely : Prop := fnCalmRow.holds Tryz.pinned (OpenSpec.ofChange fnCalmWrong)

/-- 'laws.FnForged': WHATEVER THE INPUT: true; the input reads as it did. -/
def fnForgedSpec : ChangeSpec := { name := "fnForged", fn := fun _ => fun
  | [d] => { results := [.lit (.bool true)], args := [d] }
  | _ => none }
def fnForgedRow : OpenClaim := { program := "ytoknlfldllmhpaagreat", sum := "e8bb8a76c03c088cfb1ae94cfb5ded135272debe59d20210b509c527f554509f", func := "loop.example/kilncrew/laws.FnForged", spec := "fnForged", recurses := true, apart := false }
def FnForgedSaid : Prop := fnForgedRow.holds Tryz.pinned (OpenSpec.ofChange fnForgedSpec)

/-- ITS FALSE NEIGHBOUR: 'it returns false'. Refute it at one input. -/
def fnForgedWrong : ChangeSpec := { name := "fnForged", fn := fun _ => fun
  | [d] => { results := [.lit (.bool false)], args := [d] }
  | _ => none }
def FnForgedWrongFalsely : Prop := fnForgedRow.holds Tryz.pinned (OpenSpec.ofChange fnForgedWrong)

/- THE SECOND FORM. 'bulk': how many values and letters a reading holds, each counted each time it is reached (what is shared counts as often as it is met; a slice's spare places count too). A statement '..UptoSaid' is the law's where the arguments, and the package variables that the reading takes, are together of bulk at most 1048576: NARROWER than '..Said'. Prove '..Said' where nothing that the law and all that it calls make is longer than what came in: it says more and counts as full. Else prove '..UptoSaid'. A law counts once. -/
mutual
def uptoBulk {H : Type} : DataW H → Nat
  | .lit (.string bytes) => bytes.length + 1
  | .lit _ => 1
  | .nil => 1
  | .ptr d => uptoBulk d + 1
  | .slice elems spare => uptoBulkAll elems + uptoBulkAll spare + 1
  | .agg parts => uptoBulkAll parts + 1
  | .iface _ d => uptoBulk d + 1
  | .map entries => uptoBulkEntries entries + 1
  | .held _ => 1
def uptoBulkAll {H : Type} : List (DataW H) → Nat
  | [] => 0
  | d :: r => uptoBulk d + uptoBulkAll r
def uptoBulkEntries {H : Type} : List (Lit × DataW H) → Nat
  | [] => 0
  | x :: r => uptoBulkEntry x + uptoBulkEntries r
def uptoBulkEntry {H : Type} : Lit × DataW H → Nat
  | (.string bytes, d) => bytes.length + uptoBulk d + 1
  | (_, d) => uptoBulk d + 1
 end
def uptoSmall : (H : Type) → List (DataW H) → Bool := fun _ ds => decide (uptoBulkAll ds ≤ 1048576)
def OpenSpec.upto (s : _root_.Go.ChangeSpec) : _root_.Go.OpenSpec := { _root_.Go.OpenSpec.ofChange s with cond := some uptoSmall }

/-- 'laws.FnExactDo', WHERE WHAT IT READS IS OF BULK AT MOST 1048576: true; the input reads as it did. -/
def fnExactDoUptoRow : OpenClaim := { program := "ytoknlfldllmhpaagreat", sum := "e8bb8a76c03c088cfb1ae94cfb5ded135272debe59d20210b509c527f554509f", func := "loop.example/kilncrew/laws.FnExactDo", spec := "fnExactDo", apart := false, narrowed := true }
def FnExactDoUptoSaid : Prop := fnExactDoUptoRow.holds Tryz.pinned (OpenSpec.upto fnExactDoSpec)

/-- 'laws.FnExactCalm', WHERE WHAT IT READS IS OF BULK AT MOST 1048576: true; the input reads as it did. -/
def fnExactCalmUptoRow : OpenClaim := { program := "ytoknlfldllmhpaagreat", sum := "e8bb8a76c03c088cfb1ae94cfb5ded135272debe59d20210b509c527f554509f", func := "loop.example/kilncrew/laws.FnExactCalm", spec := "fnExactCalm", apart := false, narrowed := true }
def FnExactCalmUptoSaid : Prop := fnExactCalmUptoRow.holds Tryz.pinned (OpenSpec.upto fnExactCalmSpec)

/-- 'laws.FnNothing', WHERE WHAT IT READS IS OF BULK AT MOST 1048576: true; the input reads as it did. -/
def fnNothingUptoRow : OpenClaim := { program := "ytoknlfldllmhpaagreat", sum := "e8bb8a76c03c088cfb1ae94cfb5ded135272debe59d20210b509c527f554509f", func := "loop.example/kilncrew/laws.FnNothing", spec := "fnNothing", recurses := true, apart := false, narrowed := true }
def FnNothingUptoSaid : Prop := fnNothingUptoRow.holds Tryz.pinned (OpenSpec.upto fnNothingSpec)

/-- 'laws.FnStay', WHERE WHAT IT READS IS OF BULK AT MOST 1048576: true; the input reads as it did. -/
def fnStayUptoRow : OpenClaim := { program := "ytoknlfldllmhpaagreat", sum := "e8bb8a76c03c088cfb1ae94cfb5ded135272debe59d20210b509c527f554509f", func := "loop.example/kilncrew/laws.FnStay", spec := "fnStay", recurses := true, apart := false, narrowed := true }
def FnStayUptoSaid : Prop := fnStayUptoRow.holds Tryz.pinned (OpenSpec.upto fnStaySpec)

/-- 'laws.FnCalm', WHERE WHAT IT READS IS OF BULK AT MOST 1048576: true; the input reads as it did. -/
def fnCalmUptoRow : OpenClaim := { program := "ytoknlfldllmhpaagreat", sum := "e8bb8a76c03c088cfb1ae94cfb5ded135272debe59d20210b509c527f554509f", func := "loop.example/kilncrew/laws.FnCalm", spec := "fnCalm", recurses := true, apart := false, narrowed := true }
def FnCalmUptoSaid : Prop := fnCalmUptoRow.holds Tryz.pinned (OpenSpec.upto fnCalmSpec)

/-- 'laws.FnForged', WHERE WHAT IT READS IS OF BULK AT MOST 1048576: true; the input reads as it did. -/
def fnForgedUptoRow : OpenClaim := { program := "ytoknlfldllmhpaagreat", sum := "e8bb8a76c03c088cfb1ae94cfb5ded135272debe59d20210b509c527f554509f", func := "loop.example/kilncrew/laws.FnForged", spec := "fnForged", recurses := true, apart := false, narrowed := true }
def FnForgedUptoSaid : Prop := fnForgedUptoRow.holds Tryz.pinned (OpenSpec.upto fnForgedSpec)

end Rows
end Go.Proofs.YtoknlfldllmhpaaGreat

/- The law FnLeases: for every input the call answers true, and what came in reads as it did. No condition. -/
import Derived.Test.YtoknlfldllmhpaaPartf
import Derived.Test.YtoknlfldllmhpaaRows
import Derived.WalkKit
import Derived.ProofKit
import Derived.OpenShut
import Derived.ShutString
import Derived.ChangeOld
import Derived.Below
import Derived.SizedLaws
import Derived.ChangeCalls
set_option maxHeartbeats 8000000
set_option maxRecDepth 20000
set_option linter.unusedVariables false
set_option linter.unusedSimpArgs false
namespace Go.Proofs.Ytoknlfldllmhpaa.fnLeases
open Go.ChangeShapes Go.WideShapes Go.ChangeAt Go.RowKit
theorem law:∀ xs,Tm.WfAll Go.K.E 8 Try.f4.params.toList xs→Tm.Fn Try.prog 4 (Tm.tvs Go.K.E Try.f4.params.toList xs) (Tm.V.b true) [[],[]]:=by
 intro xs h
 rw[show Try.f4.params.toList = [22,22]from rfl]at h ⊢
 cases h with
 |cons h0 h =>
  cases h with
  |cons h1 h =>
   cases h
   obtain⟨b0,rfl,l0,g0⟩:=h0
   obtain⟨a0,rfl,w0⟩:=Go.K.MS rfl g0
   obtain⟨b1,rfl,l1,g1⟩:=h1
   obtain⟨a1,rfl,w1⟩:=Go.K.MS rfl g1
   exact(Go.K.Gr a0 (by rw[List.length_map]at l0;exact l0) w0 a1 (by rw[List.length_map]at l1;exact l1) w1).2
theorem own:ownKnob Try.prog.godebug = none:=by kernel_rfl
set_option maxRecDepth 100000 in
theorem lifted(os:Os)(started:os.Started)(H:Type)(enc:TypeId×Value→H) :
 ReturnsInHanded {} Try.checked os 4 .any (Rows.fnLeasesSpec.pre6 enc Try.prog Try.f4 Rows.fnLeasesRow.domain false) (Rows.fnLeasesSpec.post enc Try.prog Try.f4 false true false false):=by
 refine returnsInHanded_of_change_sized (C:=Try.checked) own started (by kernel_rfl) Try.func4
  (ChangeSpec.witness6 (enc:=enc) (C:=Try.checked) false ⟨#[],#[.slice none 0 0,.slice none 0 0],[]⟩ 8 (by kernel_rfl) (by kernel_rfl) (by kernel_rfl) (by kernel_rfl)) ?_
 intro W base args ds gs before hval0 hW hcnd hsz0 _
 have hW':=hW
 obtain⟨p,q,hA,hV,rfl,hfz,hnd⟩:=hW
 obtain⟨rfl,rfl⟩:=trodVars_none hV
 obtain⟨d1,d2,rfl⟩:∃ d1 d2,ds = [d1,d2]:=by
  have hlen:ds.length = 2:=(trodAll_length hA).2
  match ds,hlen with
  |[d1,d2],_=>exact⟨d1,d2,rfl⟩
 refine(Tm.law_calls (E:=Go.K.E) Go.K.Ra (by kernel_rfl) (by kernel_rfl) (by kernel_rfl) (n:=8) (ts:=Try.f4.params.toList) (Tm.deps_of (by kernel_rfl)) _ law hA (fun j t v h1 h2=>⟨_,hval0 j t v (by rw[←Array.getElem?_toList];exact h1) (by rw[←Array.getElem?_toList];exact h2)⟩)).mono fun e W' ⟨he,bel,pa,hpa⟩=>?_
 exact⟨_,he,_,_,_,[],_,[],hW',trodAll_mk1 (shut_bool Try.underlying4 _),hpa,rfl,bel.frame _,fun h=>by cases h⟩
theorem over:Rows.fnLeasesRow.holds Try.pinned (OpenSpec.ofChange Rows.fnLeasesSpec) :=
 OpenClaim.holds_of_wide 4 Try.f4 rfl rfl rfl rfl rfl rfl rfl ⟨rfl,rfl,rfl,rfl,rfl⟩ rfl rfl rfl rfl rfl (by kernel_rfl) Try.func4 (by kernel_rfl)
  (of_decide_eq_true (by kernel_rfl)) (by unfold Func.isWrapper;first|(rw[if_pos (by decide+kernel)];kernel_rfl)|(rw[if_neg (by decide+kernel)];exact⟨rfl,rfl⟩))
  (fun os started H enc _=>lifted os started H enc)
end Go.Proofs.Ytoknlfldllmhpaa.fnLeases
namespace Go.Proofs.Ytoknlfldllmhpaa
theorem fnLeases_holds:Rows.FnLeasesSaid:=fnLeases.over
end Go.Proofs.Ytoknlfldllmhpaa
#print axioms Go.Proofs.Ytoknlfldllmhpaa.fnLeases_holds

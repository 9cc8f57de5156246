/- The law FnCalm: for every input the call answers true, and what came in reads as it did. No condition. -/
import Derived.Test.YtoknlfldllmhpaaGreatPartg
import Derived.Test.YtoknlfldllmhpaaGreatRows
import Derived.WalkKit
import Derived.ProofKit
import Derived.OpenShut
import Derived.ShutString
import Derived.ChangeOld
import Derived.Below
import Derived.SizedLaws
import Derived.ChangeCalls
set_option maxHeartbeats 8000000
set_option maxRecDepth 20000
set_option linter.unusedVariables false
set_option linter.unusedSimpArgs false
namespace Go.Proofs.YtoknlfldllmhpaaGreat.fnCalm
open Go.ChangeShapes Go.WideShapes Go.ChangeAt Go.RowKit
theorem law:∀ xs,Tm.WfAll Go.K.E 8 Tryz.f7.params.toList xs→Tm.Fn Tryz.prog 7 (Tm.tvs Go.K.E Tryz.f7.params.toList xs) (Tm.V.b true) [[],[]]:=by
 intro xs h
 rw[show Tryz.f7.params.toList = [62,62]from rfl]at h ⊢
 cases h with
 |cons h0 h =>
  cases h with
  |cons h1 h =>
   cases h
   obtain⟨b0,rfl,l0,g0⟩:=h0
   obtain⟨a0,rfl,w0⟩:=Go.K.Un rfl g0
   obtain⟨b1,rfl,l1,g1⟩:=h1
   obtain⟨a1,rfl,w1⟩:=Go.K.Un rfl g1
   exact(Go.K.Tr a0 (by rw[List.length_map]at l0;exact l0) w0 a1 (by rw[List.length_map]at l1;exact l1) w1).2
theorem own:ownKnob Tryz.prog.godebug = none:=by kernel_rfl
set_option maxRecDepth 100000 in
theorem lifted(os:Os)(started:os.Started)(H:Type)(enc:TypeId×Value→H) :
 ReturnsInHanded {} Tryz.checked os 7 .any (Rows.fnCalmSpec.pre6 enc Tryz.prog Tryz.f7 Rows.fnCalmRow.domain false) (Rows.fnCalmSpec.post enc Tryz.prog Tryz.f7 false true false false):=by
 refine returnsInHanded_of_change_sized (C:=Tryz.checked) own started (by kernel_rfl) Tryz.func7
  (ChangeSpec.witness6 (enc:=enc) (C:=Tryz.checked) false ⟨#[],#[.slice none 0 0,.slice none 0 0],[]⟩ 8 (by kernel_rfl) (by kernel_rfl) (by kernel_rfl) (by kernel_rfl)) ?_
 intro W base args ds gs before hval0 hW hcnd hsz0 _
 have hW':=hW
 obtain⟨p,q,hA,hV,rfl,hfz,hnd⟩:=hW
 obtain⟨rfl,rfl⟩:=trodVars_none hV
 obtain⟨d1,d2,rfl⟩:∃ d1 d2,ds = [d1,d2]:=by
  have hlen:ds.length = 2:=(trodAll_length hA).2
  match ds,hlen with
  |[d1,d2],_=>exact⟨d1,d2,rfl⟩
 refine(Tm.law_calls (E:=Go.K.E) Go.K.Zz (by kernel_rfl) (by kernel_rfl) (by kernel_rfl) (n:=8) (ts:=Tryz.f7.params.toList) (Tm.deps_of (by kernel_rfl)) _ law hA (fun j t v h1 h2=>⟨_,hval0 j t v (by rw[←Array.getElem?_toList];exact h1) (by rw[←Array.getElem?_toList];exact h2)⟩)).mono fun e W' ⟨he,bel,pa,hpa⟩=>?_
 exact⟨_,he,_,_,_,[],_,[],hW',trodAll_mk1 (shut_bool Tryz.underlying4 _),hpa,rfl,bel.frame _,fun h=>by cases h⟩
theorem over:Rows.fnCalmRow.holds Tryz.pinned (OpenSpec.ofChange Rows.fnCalmSpec) :=
 OpenClaim.holds_of_wide 7 Tryz.f7 rfl rfl rfl rfl rfl rfl rfl ⟨rfl,rfl,rfl,rfl,rfl⟩ rfl rfl rfl rfl rfl (by kernel_rfl) Tryz.func7 (by kernel_rfl)
  (of_decide_eq_true (by kernel_rfl)) (by unfold Func.isWrapper;first|(rw[if_pos (by decide+kernel)];kernel_rfl)|(rw[if_neg (by decide+kernel)];exact⟨rfl,rfl⟩))
  (fun os started H enc _=>lifted os started H enc)
end Go.Proofs.YtoknlfldllmhpaaGreat.fnCalm
namespace Go.Proofs.YtoknlfldllmhpaaGreat
theorem fnCalm_holds:Rows.FnCalmSaid:=fnCalm.over
end Go.Proofs.YtoknlfldllmhpaaGreat
#print axioms Go.Proofs.YtoknlfldllmhpaaGreat.fnCalm_holds

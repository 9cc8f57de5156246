/- Contracts of functions of the program: what each call answers. -/
import Derived.Test.YtclkoehdmpcggaaParte
section
set_option linter.unusedVariables false
set_option linter.unusedSimpArgs false
set_option maxHeartbeats 4000000
set_option maxRecDepth 20000
open Go Go.Tm Go.Proofs
namespace Go.K
def takesOffer (w:Worker) (ts:List Task) (m:Message):Prop:=m.kind = 1 ∧ (∃ t,ts[m.task.toNat]? = some t ∧ m.inputs.length = t.deps.length) ∧ (w.state = 0 ∨ w.lease < m.lease)
def takesThanks (w:Worker) (m:Message):Prop:=m.kind = 4 ∧ w.state = 2 ∧ w.lease = m.lease
def forMe (w:Worker) (m:Message):Prop:=w.up = true ∧ msgOk m ∧ m.to = w.number
def costOf (ts:List Task) (k:Int):Int:=((ts[k.toNat]?).map Task.cost).getD 0
open Classical in
noncomputable def takeW (w:Worker) (ts:List Task) (m:Message):Worker :=
 if forMe w m then
  if takesOffer w ts m then ⟨w.number,w.epoch,true,1,m.lease,m.task,costOf ts m.task,costOf ts m.task,m.inputs,emp,0⟩
  else if takesThanks w m then ⟨w.number,w.epoch,w.up,0,0,0,0,0,[],emp,3⟩ else w
 else w
theorem take_no {w:Worker} {ts:List Task} {m:Message} (h:¬ forMe w m):takeW w ts m = w:=if_neg h
theorem take_offer {w:Worker} {ts:List Task} {m:Message} (h:forMe w m) (h1:takesOffer w ts m):takeW w ts m = ⟨w.number,w.epoch,true,1,m.lease,m.task,costOf ts m.task,costOf ts m.task,m.inputs,emp,0⟩:=by rw [takeW,if_pos h,if_pos h1]
theorem take_thanks {w:Worker} {ts:List Task} {m:Message} (h:forMe w m) (h1:takesThanks w m):takeW w ts m = ⟨w.number,w.epoch,w.up,0,0,0,0,0,[],emp,3⟩:=by
 rw [takeW,if_pos h,if_neg (fun q=>by have:=q.1; have:=h1.1; omega),if_pos h1]
theorem take_same {w:Worker} {ts:List Task} {m:Message} (h1:¬ takesOffer w ts m) (h2:¬ takesThanks w m):takeW w ts m = w:=by
 by_cases h:forMe w m
 ·rw [takeW,if_pos h,if_neg h1,if_neg h2]
 ·exact take_no h
theorem cost_in {ts:List Task} {k:Int} {t:Task} (h:ts[k.toNat]? = some t):costOf ts k = t.cost:=by unfold costOf; rw [h]; rfl
noncomputable def wTake (w:Worker) (p:Plan) (m:Message):Acted:=if workerOk w ∧ checkPlan p.tasks = 0 then ⟨takeW w p.tasks m,[]⟩ else noActed
theorem wtake_no {w:Worker} {p:Plan} {m:Message} (h:¬ (workerOk w ∧ checkPlan p.tasks = 0)):wTake w p m = noActed:=if_neg h
theorem wtake_ok {w:Worker} {p:Plan} {m:Message} (h:workerOk w) (h2:checkPlan p.tasks = 0):wTake w p m = ⟨takeW w p.tasks m,[]⟩:=if_pos ⟨h,h2⟩
theorem c_impl_Worker_take (w:Worker) (p:Plan) (m:Message) (h:workerOk w) (hc:checkPlan p.tasks = 0) (hm:m.inputs.length ≤ 9223372036854775806):F n_impl_Worker_take [.val (workerO w),.val (planR p),.val (messageR m)] (workerO (takeW w p.tasks m)) [[],[],[]]:=by
 have cm:=c_impl_Message_valid m hm
 by_cases hup:w.up = true
 ·by_cases hok:msgOk m
  ·rw [decide_eq_true hok] at cm
   have hi:=(ok_inputs hok).1
   obtain ⟨_,_,_,_,⟨r1,r2⟩,⟨r3,r4⟩⟩:=ok_ranges hok
   by_cases hto:m.to = w.number
   ·have hf:forMe w m:=⟨hup,hok,hto⟩
    by_cases hk:m.kind = 1
    ·have nt:¬ takesThanks w m:=fun q=>by have:=q.1; omega
     by_cases ht:m.task < p.tasks.length
     ·obtain ⟨t,ht2⟩:=some_at (xs:=p.tasks) (n:=m.task.toNat) (by omega)
      obtain ⟨_,_,g3,_⟩:=chk_task hc ht2
      by_cases hd:m.inputs.length = t.deps.length
      ·by_cases hs:w.state = 0
       ·have ho:takesOffer w p.tasks m:=⟨hk,⟨t,ht2,hd⟩,.inl hs⟩
        refine i_impl_Worker_take ?_
        conv=>whnf
        refine g 0 0 [] ?_
        conv=>whnf
        refine ⟨⟨⟨I,I,I,I,I,I,I,I,I,I,I,I⟩,⟨I,I⟩,⟨I,I,I,I,I,I,I,I,I⟩,I,I⟩,?_⟩
        refine W.sq ?_
        refine g 9 22 [.b (false),.b (false),.call (V.b true) ([[]]),.b (false),.b (false),.b (false),.b (false),.b (false),.b (false),.b (false),.b (false)] ?_
        conv=>whnf
        refine ⟨⟨I,I,I,I,⟨nbF (by assumption),I⟩,⟨nbF (by assumption),⟨I,I⟩,I,⟨⟨I,I,I,I,I,I,I,I,I⟩,I⟩,⟨I,I⟩,(by assumption)⟩,⟨nbF (by assumption),I⟩,nbF (by assumption),I,⟨rfl,I⟩,⟨rfl,I⟩,⟨rfl,I⟩,⟨rfl,I⟩,⟨rfl,I⟩,rfl,I⟩,?_⟩
        refine W.cn ?_
        conv=>whnf
        refine ⟨noT (notF (by omega)),fun _=>?_⟩
        refine W.skip ?_
        refine W.sq ?_
        refine g 22 25 [] ?_
        conv=>whnf
        refine ⟨⟨I,I,I⟩,?_⟩
        refine W.blk ?_
        refine g 27 28 [] ?_
        conv=>whnf
        refine ⟨⟨I,I,I⟩,?_⟩
        refine W.cn ?_
        conv=>whnf
        refine ⟨fun _=>?_,noF (dT (by omega))⟩
        refine W.sq ?_
        refine gd 25 47 [[],[],[],[],[],[],[],[.b (false)],[.b (false)],[.b (false)],[.b (false)],[.b (false)],[.b (false)],[.b (false)],[.b (false),.x (taskT t)],[.b (false)],[.b (false)],[.b (false)],[.b (false)],[.b (false)]] ?_
        conv=>whnf
        refine ⟨⟨I,I,I,I,I,I,I,⟨(by simp [*]),I⟩,⟨(by simp [*]),I⟩,⟨(by simp [*]),I⟩,⟨(by simp [*]),I⟩,⟨(by simp [*]),I⟩,⟨(by simp [*]),I⟩,⟨(by simp [*]),I⟩,⟨(by simp [*]),(by assumption),ixl (by assumption)⟩,⟨(by simp [*]),I⟩,⟨(by simp [*]),I⟩,⟨(by simp [*]),I⟩,⟨(by simp [*]),I⟩,(by simp [*]),I⟩,by kernel_rfl,?_⟩
        refine W.cn ?_
        conv=>whnf
        refine ⟨noT (by simp [*]),fun _=>?_⟩
        refine W.skip ?_
        refine g 47 58 [.b (true),.b (true),.b (true),.b (true),.b (true),.b (true)] ?_
        conv=>whnf
        refine ⟨⟨I,I,I,I,dT (by omega),dT (by omega),dT (by omega),dT (by omega),dT (by omega),dT (by omega),I⟩,?_⟩
        refine W.cn ?_
        conv=>whnf
        refine ⟨fun _=>?_,noF (rfl)⟩
        refine g 58 66 [.x (taskT t)] ?_
        conv=>whnf
        refine ⟨⟨I,I,I,I,⟨(by assumption),ixl (by assumption)⟩,I,I,I,I⟩,?_⟩
        refine gd 7 80 [[],[],[],[],[],[],[],[],[],[],[],[],[.call (V.own [false] (List.map strT (Message.inputs m))) ([[]])],[],[]] ?_
        conv=>whnf
        refine ⟨⟨I,I,I,I,I,I,I,I,I,I,I,I,⟨⟨I,I⟩,I,⟨⟨I,I⟩,I⟩,⟨I,I⟩,Go.K.c_impl_clone _ (by omega)⟩,I,⟨I,I,I,I,I,I,I,I,I,I,I,I⟩,I⟩,by kernel_rfl,?_⟩
        refine W.ret ?_
        refine EndsW.rt ?_
        conv=>whnf
        refine ⟨⟨I,I,I,I,I,I,I,I,I,I,I,I,I⟩,?_,rfl⟩
        rw [take_offer hf ho,cost_in ht2]
        all_goals rfl
       ·by_cases hl:w.lease < m.lease
        ·have ho:takesOffer w p.tasks m:=⟨hk,⟨t,ht2,hd⟩,.inr hl⟩
         refine i_impl_Worker_take ?_
         conv=>whnf
         refine g 0 0 [] ?_
         conv=>whnf
         refine ⟨⟨⟨I,I,I,I,I,I,I,I,I,I,I,I⟩,⟨I,I⟩,⟨I,I,I,I,I,I,I,I,I⟩,I,I⟩,?_⟩
         refine W.sq ?_
         refine g 9 22 [.b (false),.b (false),.call (V.b true) ([[]]),.b (false),.b (false),.b (false),.b (false),.b (false),.b (false),.b (false),.b (false)] ?_
         conv=>whnf
         refine ⟨⟨I,I,I,I,⟨nbF (by assumption),I⟩,⟨nbF (by assumption),⟨I,I⟩,I,⟨⟨I,I,I,I,I,I,I,I,I⟩,I⟩,⟨I,I⟩,(by assumption)⟩,⟨nbF (by assumption),I⟩,nbF (by assumption),I,⟨rfl,I⟩,⟨rfl,I⟩,⟨rfl,I⟩,⟨rfl,I⟩,⟨rfl,I⟩,rfl,I⟩,?_⟩
         refine W.cn ?_
         conv=>whnf
         refine ⟨noT (notF (by omega)),fun _=>?_⟩
         refine W.skip ?_
         refine W.sq ?_
         refine g 22 25 [] ?_
         conv=>whnf
         refine ⟨⟨I,I,I⟩,?_⟩
         refine W.blk ?_
         refine g 27 28 [] ?_
         conv=>whnf
         refine ⟨⟨I,I,I⟩,?_⟩
         refine W.cn ?_
         conv=>whnf
         refine ⟨fun _=>?_,noF (dT (by omega))⟩
         refine W.sq ?_
         refine gd 25 47 [[],[],[],[],[],[],[],[.b (false)],[.b (false)],[.b (false)],[.b (false)],[.b (false)],[.b (false)],[.b (false)],[.b (false),.x (taskT t)],[.b (false)],[.b (false)],[.b (false)],[.b (false)],[.b (false)]] ?_
         conv=>whnf
         refine ⟨⟨I,I,I,I,I,I,I,⟨(by simp [*]),I⟩,⟨(by simp [*]),I⟩,⟨(by simp [*]),I⟩,⟨(by simp [*]),I⟩,⟨(by simp [*]),I⟩,⟨(by simp [*]),I⟩,⟨(by simp [*]),I⟩,⟨(by simp [*]),(by assumption),ixl (by assumption)⟩,⟨(by simp [*]),I⟩,⟨(by simp [*]),I⟩,⟨(by simp [*]),I⟩,⟨(by simp [*]),I⟩,(by simp [*]),I⟩,by kernel_rfl,?_⟩
         refine W.cn ?_
         conv=>whnf
         refine ⟨noT (by simp [*]),fun _=>?_⟩
         refine W.skip ?_
         refine g 47 58 [.b (false),.b (false),.b (false),.b (false),.b (false),.b (false)] ?_
         conv=>whnf
         refine ⟨⟨I,I,I,I,⟨dF (by omega),I⟩,⟨dF (by omega),I⟩,⟨dF (by omega),I⟩,⟨dF (by omega),I⟩,⟨dF (by omega),I⟩,dF (by omega),I⟩,?_⟩
         refine W.cn ?_
         conv=>whnf
         refine ⟨fun _=>?_,noF (dT (by omega))⟩
         refine g 58 66 [.x (taskT t)] ?_
         conv=>whnf
         refine ⟨⟨I,I,I,I,⟨(by assumption),ixl (by assumption)⟩,I,I,I,I⟩,?_⟩
         refine gd 7 80 [[],[],[],[],[],[],[],[],[],[],[],[],[.call (V.own [false] (List.map strT (Message.inputs m))) ([[]])],[],[]] ?_
         conv=>whnf
         refine ⟨⟨I,I,I,I,I,I,I,I,I,I,I,I,⟨⟨I,I⟩,I,⟨⟨I,I⟩,I⟩,⟨I,I⟩,Go.K.c_impl_clone _ (by omega)⟩,I,⟨I,I,I,I,I,I,I,I,I,I,I,I⟩,I⟩,by kernel_rfl,?_⟩
         refine W.ret ?_
         refine EndsW.rt ?_
         conv=>whnf
         refine ⟨⟨I,I,I,I,I,I,I,I,I,I,I,I,I⟩,?_,rfl⟩
         rw [take_offer hf ho,cost_in ht2]
         all_goals rfl
        ·have no:¬ takesOffer w p.tasks m:=fun q=>by have:=q.2.2; omega
         refine i_impl_Worker_take ?_
         conv=>whnf
         refine g 0 0 [] ?_
         conv=>whnf
         refine ⟨⟨⟨I,I,I,I,I,I,I,I,I,I,I,I⟩,⟨I,I⟩,⟨I,I,I,I,I,I,I,I,I⟩,I,I⟩,?_⟩
         refine W.sq ?_
         refine g 9 22 [.b (false),.b (false),.call (V.b true) ([[]]),.b (false),.b (false),.b (false),.b (false),.b (false),.b (false),.b (false),.b (false)] ?_
         conv=>whnf
         refine ⟨⟨I,I,I,I,⟨nbF (by assumption),I⟩,⟨nbF (by assumption),⟨I,I⟩,I,⟨⟨I,I,I,I,I,I,I,I,I⟩,I⟩,⟨I,I⟩,(by assumption)⟩,⟨nbF (by assumption),I⟩,nbF (by assumption),I,⟨rfl,I⟩,⟨rfl,I⟩,⟨rfl,I⟩,⟨rfl,I⟩,⟨rfl,I⟩,rfl,I⟩,?_⟩
         refine W.cn ?_
         conv=>whnf
         refine ⟨noT (notF (by omega)),fun _=>?_⟩
         refine W.skip ?_
         refine W.sq ?_
         refine g 22 25 [] ?_
         conv=>whnf
         refine ⟨⟨I,I,I⟩,?_⟩
         refine W.blk ?_
         refine g 27 28 [] ?_
         conv=>whnf
         refine ⟨⟨I,I,I⟩,?_⟩
         refine W.cn ?_
         conv=>whnf
         refine ⟨fun _=>?_,noF (dT (by omega))⟩
         refine W.sq ?_
         refine gd 25 47 [[],[],[],[],[],[],[],[.b (false)],[.b (false)],[.b (false)],[.b (false)],[.b (false)],[.b (false)],[.b (false)],[.b (false),.x (taskT t)],[.b (false)],[.b (false)],[.b (false)],[.b (false)],[.b (false)]] ?_
         conv=>whnf
         refine ⟨⟨I,I,I,I,I,I,I,⟨(by simp [*]),I⟩,⟨(by simp [*]),I⟩,⟨(by simp [*]),I⟩,⟨(by simp [*]),I⟩,⟨(by simp [*]),I⟩,⟨(by simp [*]),I⟩,⟨(by simp [*]),I⟩,⟨(by simp [*]),(by assumption),ixl (by assumption)⟩,⟨(by simp [*]),I⟩,⟨(by simp [*]),I⟩,⟨(by simp [*]),I⟩,⟨(by simp [*]),I⟩,(by simp [*]),I⟩,by kernel_rfl,?_⟩
         refine W.cn ?_
         conv=>whnf
         refine ⟨noT (by simp [*]),fun _=>?_⟩
         refine W.skip ?_
         refine g 47 58 [.b (false),.b (false),.b (false),.b (false),.b (false),.b (false)] ?_
         conv=>whnf
         refine ⟨⟨I,I,I,I,⟨dF (by omega),I⟩,⟨dF (by omega),I⟩,⟨dF (by omega),I⟩,⟨dF (by omega),I⟩,⟨dF (by omega),I⟩,dF (by omega),I⟩,?_⟩
         refine W.cn ?_
         conv=>whnf
         refine ⟨noT (dF (by omega)),fun _=>?_⟩
         refine W.skip ?_
         refine g 0 6 [] ?_
         conv=>whnf
         refine ⟨⟨I,⟨I,I,I,I,I,I,I,I,I,I,I,I⟩,I⟩,?_⟩
         refine W.ret ?_
         refine EndsW.rt ?_
         conv=>whnf
         refine ⟨⟨I,I,I,I,I,I,I,I,I,I,I,I,I⟩,?_,rfl⟩
         rw [take_same no nt]; all_goals rfl
      ·have no:¬ takesOffer w p.tasks m:=fun q=>by obtain ⟨t2,h2,h3⟩:=q.2.1; rw [ht2] at h2; cases h2; exact hd h3
       refine i_impl_Worker_take ?_
       conv=>whnf
       refine g 0 0 [] ?_
       conv=>whnf
       refine ⟨⟨⟨I,I,I,I,I,I,I,I,I,I,I,I⟩,⟨I,I⟩,⟨I,I,I,I,I,I,I,I,I⟩,I,I⟩,?_⟩
       refine W.sq ?_
       refine g 9 22 [.b (false),.b (false),.call (V.b true) ([[]]),.b (false),.b (false),.b (false),.b (false),.b (false),.b (false),.b (false),.b (false)] ?_
       conv=>whnf
       refine ⟨⟨I,I,I,I,⟨nbF (by assumption),I⟩,⟨nbF (by assumption),⟨I,I⟩,I,⟨⟨I,I,I,I,I,I,I,I,I⟩,I⟩,⟨I,I⟩,(by assumption)⟩,⟨nbF (by assumption),I⟩,nbF (by assumption),I,⟨rfl,I⟩,⟨rfl,I⟩,⟨rfl,I⟩,⟨rfl,I⟩,⟨rfl,I⟩,rfl,I⟩,?_⟩
       refine W.cn ?_
       conv=>whnf
       refine ⟨noT (notF (by omega)),fun _=>?_⟩
       refine W.skip ?_
       refine W.sq ?_
       refine g 22 25 [] ?_
       conv=>whnf
       refine ⟨⟨I,I,I⟩,?_⟩
       refine W.blk ?_
       refine g 27 28 [] ?_
       conv=>whnf
       refine ⟨⟨I,I,I⟩,?_⟩
       refine W.cn ?_
       conv=>whnf
       refine ⟨fun _=>?_,noF (dT (by omega))⟩
       refine W.sq ?_
       refine gd 25 47 [[],[],[],[],[],[],[],[.b (false)],[.b (false)],[.b (false)],[.b (false)],[.b (false)],[.b (false)],[.b (false)],[.b (false),.x (taskT t)],[.b (false)],[.b (false)],[.b (false)],[.b (false)],[.b (false)]] ?_
       conv=>whnf
       refine ⟨⟨I,I,I,I,I,I,I,⟨(by simp [*]),I⟩,⟨(by simp [*]),I⟩,⟨(by simp [*]),I⟩,⟨(by simp [*]),I⟩,⟨(by simp [*]),I⟩,⟨(by simp [*]),I⟩,⟨(by simp [*]),I⟩,⟨(by simp [*]),(by assumption),ixl (by assumption)⟩,⟨(by simp [*]),I⟩,⟨(by simp [*]),I⟩,⟨(by simp [*]),I⟩,⟨(by simp [*]),I⟩,(by simp [*]),I⟩,by kernel_rfl,?_⟩
       refine W.cn ?_
       conv=>whnf
       refine ⟨fun h1=>?_,fun h1=>?_⟩
       replace h1:=ndt h1
       simp only [List.length_map] at h1
       refine g 47 49 [] ?_
       conv=>whnf
       refine ⟨⟨I,⟨I,I,I,I,I,I,I,I,I,I,I,I⟩,I⟩,?_⟩
       refine W.ret ?_
       refine EndsW.rt ?_
       conv=>whnf
       refine ⟨⟨I,I,I,I,I,I,I,I,I,I,I,I,I⟩,?_,rfl⟩
       rotate_left 1
       replace h1:=ndf h1
       simp only [List.length_map] at h1
       omega
       rw [take_same no nt]; all_goals rfl
     ·have no:¬ takesOffer w p.tasks m:=fun q=>by obtain ⟨t2,h2,h3⟩:=q.2.1; have:=(List.getElem?_eq_some_iff.1 h2).1; omega
      refine i_impl_Worker_take ?_
      conv=>whnf
      refine g 0 0 [] ?_
      conv=>whnf
      refine ⟨⟨⟨I,I,I,I,I,I,I,I,I,I,I,I⟩,⟨I,I⟩,⟨I,I,I,I,I,I,I,I,I⟩,I,I⟩,?_⟩
      refine W.sq ?_
      refine g 9 22 [.b (false),.b (false),.call (V.b true) ([[]]),.b (false),.b (false),.b (false),.b (false),.b (false),.b (false),.b (false),.b (false)] ?_
      conv=>whnf
      refine ⟨⟨I,I,I,I,⟨nbF (by assumption),I⟩,⟨nbF (by assumption),⟨I,I⟩,I,⟨⟨I,I,I,I,I,I,I,I,I⟩,I⟩,⟨I,I⟩,(by assumption)⟩,⟨nbF (by assumption),I⟩,nbF (by assumption),I,⟨rfl,I⟩,⟨rfl,I⟩,⟨rfl,I⟩,⟨rfl,I⟩,⟨rfl,I⟩,rfl,I⟩,?_⟩
      refine W.cn ?_
      conv=>whnf
      refine ⟨noT (notF (by omega)),fun _=>?_⟩
      refine W.skip ?_
      refine W.sq ?_
      refine g 22 25 [] ?_
      conv=>whnf
      refine ⟨⟨I,I,I⟩,?_⟩
      refine W.blk ?_
      refine g 27 28 [] ?_
      conv=>whnf
      refine ⟨⟨I,I,I⟩,?_⟩
      refine W.cn ?_
      conv=>whnf
      refine ⟨fun _=>?_,noF (dT (by omega))⟩
      refine W.sq ?_
      refine gd 25 47 [[],[],[],[],[],[],[],[.b (true)],[.b (true)],[.b (true)],[.b (true)],[.b (true)],[.b (true)],[.b (true)],[.b (true)],[.b (true)],[.b (true)],[.b (true)],[.b (true)],[.b (true)]] ?_
      conv=>whnf
      refine ⟨⟨I,I,I,I,I,I,I,(by simp_all),(by simp_all),(by simp_all),(by simp_all),(by simp_all),(by simp_all),(by simp_all),(by simp_all),(by simp_all),(by simp_all),(by simp_all),(by simp_all),(by simp_all),I⟩,by kernel_rfl,?_⟩
      refine W.cn ?_
      conv=>whnf
      refine ⟨fun _=>?_,noF (rfl)⟩
      refine g 47 49 [] ?_
      conv=>whnf
      refine ⟨⟨I,⟨I,I,I,I,I,I,I,I,I,I,I,I⟩,I⟩,?_⟩
      refine W.ret ?_
      refine EndsW.rt ?_
      conv=>whnf
      refine ⟨⟨I,I,I,I,I,I,I,I,I,I,I,I,I⟩,?_,rfl⟩
      rw [take_same no nt]; all_goals rfl
    ·have no:¬ takesOffer w p.tasks m:=fun q=>hk q.1
     by_cases hk4:m.kind = 4
     ·by_cases hs:w.state = 2
      ·by_cases hl:w.lease = m.lease
       ·have yt:takesThanks w m:=⟨hk4,hs,hl⟩
        refine i_impl_Worker_take ?_
        conv=>whnf
        refine g 0 0 [] ?_
        conv=>whnf
        refine ⟨⟨⟨I,I,I,I,I,I,I,I,I,I,I,I⟩,⟨I,I⟩,⟨I,I,I,I,I,I,I,I,I⟩,I,I⟩,?_⟩
        refine W.sq ?_
        refine g 9 22 [.b (false),.b (false),.call (V.b true) ([[]]),.b (false),.b (false),.b (false),.b (false),.b (false),.b (false),.b (false),.b (false)] ?_
        conv=>whnf
        refine ⟨⟨I,I,I,I,⟨nbF (by assumption),I⟩,⟨nbF (by assumption),⟨I,I⟩,I,⟨⟨I,I,I,I,I,I,I,I,I⟩,I⟩,⟨I,I⟩,(by assumption)⟩,⟨nbF (by assumption),I⟩,nbF (by assumption),I,⟨rfl,I⟩,⟨rfl,I⟩,⟨rfl,I⟩,⟨rfl,I⟩,⟨rfl,I⟩,rfl,I⟩,?_⟩
        refine W.cn ?_
        conv=>whnf
        refine ⟨noT (notF (by omega)),fun _=>?_⟩
        refine W.skip ?_
        refine W.sq ?_
        refine g 22 25 [] ?_
        conv=>whnf
        refine ⟨⟨I,I,I⟩,?_⟩
        refine W.blk ?_
        refine g 27 28 [] ?_
        conv=>whnf
        refine ⟨⟨I,I,I⟩,?_⟩
        refine W.cn ?_
        conv=>whnf
        refine ⟨noT (dF (by omega)),fun _=>?_⟩
        refine g 0 3 [] ?_
        conv=>whnf
        refine ⟨⟨I,I,I⟩,?_⟩
        refine W.cn ?_
        conv=>whnf
        refine ⟨fun _=>?_,noF (dT (by omega))⟩
        refine g 8 91 [.b (true),.b (true),.b (true),.b (true),.b (true),.b (true)] ?_
        conv=>whnf
        refine ⟨⟨I,I,I,I,⟨dT (by omega),I⟩,⟨dT (by omega),I⟩,⟨dT (by omega),I⟩,⟨dT (by omega),I⟩,⟨dT (by omega),I⟩,dT (by omega),I⟩,?_⟩
        refine W.cn ?_
        conv=>whnf
        refine ⟨fun _=>?_,noF (dT (by omega))⟩
        refine g 4 6 [.call (workerO { number:=Worker.number w,epoch:=Worker.epoch w,up:=Worker.up w,state:=(0:Int),lease:=(0:Int),task:=(0:Int),cost:=(0:Int),left:=(0:Int),inputs:=[],text:=emp,since:=(3:Int):Worker }) ([[],[]])] ?_
        conv=>whnf
        refine ⟨⟨I,⟨⟨I,I,I⟩,I,⟨⟨I,I,I,I,I,I,I,I,I,I,I,I⟩,⟨I,I⟩,I⟩,⟨I,I⟩,Go.K.c_impl_Worker_freed _ _⟩,⟨I,I,I,I,I,I,I,I,I,I,I,I⟩,I⟩,?_⟩
        refine W.ret ?_
        refine EndsW.rt ?_
        conv=>whnf
        refine ⟨⟨I,I,I,I,I,I,I,I,I,I,I,I,I⟩,?_,rfl⟩
        rw [take_thanks hf yt]
        all_goals rfl
       ·have nt:¬ takesThanks w m:=fun q=>hl q.2.2
        refine i_impl_Worker_take ?_
        conv=>whnf
        refine g 0 0 [] ?_
        conv=>whnf
        refine ⟨⟨⟨I,I,I,I,I,I,I,I,I,I,I,I⟩,⟨I,I⟩,⟨I,I,I,I,I,I,I,I,I⟩,I,I⟩,?_⟩
        refine W.sq ?_
        refine g 9 22 [.b (false),.b (false),.call (V.b true) ([[]]),.b (false),.b (false),.b (false),.b (false),.b (false),.b (false),.b (false),.b (false)] ?_
        conv=>whnf
        refine ⟨⟨I,I,I,I,⟨nbF (by assumption),I⟩,⟨nbF (by assumption),⟨I,I⟩,I,⟨⟨I,I,I,I,I,I,I,I,I⟩,I⟩,⟨I,I⟩,(by assumption)⟩,⟨nbF (by assumption),I⟩,nbF (by assumption),I,⟨rfl,I⟩,⟨rfl,I⟩,⟨rfl,I⟩,⟨rfl,I⟩,⟨rfl,I⟩,rfl,I⟩,?_⟩
        refine W.cn ?_
        conv=>whnf
        refine ⟨noT (notF (by omega)),fun _=>?_⟩
        refine W.skip ?_
        refine W.sq ?_
        refine g 22 25 [] ?_
        conv=>whnf
        refine ⟨⟨I,I,I⟩,?_⟩
        refine W.blk ?_
        refine g 27 28 [] ?_
        conv=>whnf
        refine ⟨⟨I,I,I⟩,?_⟩
        refine W.cn ?_
        conv=>whnf
        refine ⟨noT (dF (by omega)),fun _=>?_⟩
        refine g 0 3 [] ?_
        conv=>whnf
        refine ⟨⟨I,I,I⟩,?_⟩
        refine W.cn ?_
        conv=>whnf
        refine ⟨fun _=>?_,noF (dT (by omega))⟩
        refine g 8 91 [.b (true),.b (true),.b (true),.b (true),.b (true),.b (true)] ?_
        conv=>whnf
        refine ⟨⟨I,I,I,I,⟨dT (by omega),I⟩,⟨dT (by omega),I⟩,⟨dT (by omega),I⟩,⟨dT (by omega),I⟩,⟨dT (by omega),I⟩,dT (by omega),I⟩,?_⟩
        refine W.cn ?_
        conv=>whnf
        refine ⟨noT (dF (by omega)),fun _=>?_⟩
        refine W.skip ?_
        refine g 3 6 [] ?_
        conv=>whnf
        refine ⟨⟨I,⟨I,I,I,I,I,I,I,I,I,I,I,I⟩,I⟩,?_⟩
        refine W.ret ?_
        refine EndsW.rt ?_
        conv=>whnf
        refine ⟨⟨I,I,I,I,I,I,I,I,I,I,I,I,I⟩,?_,rfl⟩
        rw [take_same no nt]; all_goals rfl
      ·have nt:¬ takesThanks w m:=fun q=>hs q.2.1
       refine i_impl_Worker_take ?_
       conv=>whnf
       refine g 0 0 [] ?_
       conv=>whnf
       refine ⟨⟨⟨I,I,I,I,I,I,I,I,I,I,I,I⟩,⟨I,I⟩,⟨I,I,I,I,I,I,I,I,I⟩,I,I⟩,?_⟩
       refine W.sq ?_
       refine g 9 22 [.b (false),.b (false),.call (V.b true) ([[]]),.b (false),.b (false),.b (false),.b (false),.b (false),.b (false),.b (false),.b (false)] ?_
       conv=>whnf
       refine ⟨⟨I,I,I,I,⟨nbF (by assumption),I⟩,⟨nbF (by assumption),⟨I,I⟩,I,⟨⟨I,I,I,I,I,I,I,I,I⟩,I⟩,⟨I,I⟩,(by assumption)⟩,⟨nbF (by assumption),I⟩,nbF (by assumption),I,⟨rfl,I⟩,⟨rfl,I⟩,⟨rfl,I⟩,⟨rfl,I⟩,⟨rfl,I⟩,rfl,I⟩,?_⟩
       refine W.cn ?_
       conv=>whnf
       refine ⟨noT (notF (by omega)),fun _=>?_⟩
       refine W.skip ?_
       refine W.sq ?_
       refine g 22 25 [] ?_
       conv=>whnf
       refine ⟨⟨I,I,I⟩,?_⟩
       refine W.blk ?_
       refine g 27 28 [] ?_
       conv=>whnf
       refine ⟨⟨I,I,I⟩,?_⟩
       refine W.cn ?_
       conv=>whnf
       refine ⟨noT (dF (by omega)),fun _=>?_⟩
       refine g 0 3 [] ?_
       conv=>whnf
       refine ⟨⟨I,I,I⟩,?_⟩
       refine W.cn ?_
       conv=>whnf
       refine ⟨fun _=>?_,noF (dT (by omega))⟩
       refine g 8 91 [.b (false),.b (false),.b (false),.b (false),.b (false),.b (false)] ?_
       conv=>whnf
       refine ⟨⟨I,I,I,I,dF (by omega),dF (by omega),dF (by omega),dF (by omega),dF (by omega),dF (by omega),I⟩,?_⟩
       refine W.cn ?_
       conv=>whnf
       refine ⟨noT (rfl),fun _=>?_⟩
       refine W.skip ?_
       refine g 3 6 [] ?_
       conv=>whnf
       refine ⟨⟨I,⟨I,I,I,I,I,I,I,I,I,I,I,I⟩,I⟩,?_⟩
       refine W.ret ?_
       refine EndsW.rt ?_
       conv=>whnf
       refine ⟨⟨I,I,I,I,I,I,I,I,I,I,I,I,I⟩,?_,rfl⟩
       rw [take_same no nt]; all_goals rfl
     ·have nt:¬ takesThanks w m:=fun q=>hk4 q.1
      refine i_impl_Worker_take ?_
      conv=>whnf
      refine g 0 0 [] ?_
      conv=>whnf
      refine ⟨⟨⟨I,I,I,I,I,I,I,I,I,I,I,I⟩,⟨I,I⟩,⟨I,I,I,I,I,I,I,I,I⟩,I,I⟩,?_⟩
      refine W.sq ?_
      refine g 9 22 [.b (false),.b (false),.call (V.b true) ([[]]),.b (false),.b (false),.b (false),.b (false),.b (false),.b (false),.b (false),.b (false)] ?_
      conv=>whnf
      refine ⟨⟨I,I,I,I,⟨nbF (by assumption),I⟩,⟨nbF (by assumption),⟨I,I⟩,I,⟨⟨I,I,I,I,I,I,I,I,I⟩,I⟩,⟨I,I⟩,(by assumption)⟩,⟨nbF (by assumption),I⟩,nbF (by assumption),I,⟨rfl,I⟩,⟨rfl,I⟩,⟨rfl,I⟩,⟨rfl,I⟩,⟨rfl,I⟩,rfl,I⟩,?_⟩
      refine W.cn ?_
      conv=>whnf
      refine ⟨noT (notF (by omega)),fun _=>?_⟩
      refine W.skip ?_
      refine W.sq ?_
      refine g 22 25 [] ?_
      conv=>whnf
      refine ⟨⟨I,I,I⟩,?_⟩
      refine W.blk ?_
      refine g 27 28 [] ?_
      conv=>whnf
      refine ⟨⟨I,I,I⟩,?_⟩
      refine W.cn ?_
      conv=>whnf
      refine ⟨noT (dF (by omega)),fun _=>?_⟩
      refine g 0 3 [] ?_
      conv=>whnf
      refine ⟨⟨I,I,I⟩,?_⟩
      refine W.cn ?_
      conv=>whnf
      refine ⟨noT (dF (by omega)),fun _=>?_⟩
      refine W.skip ?_
      refine g 8 95 [] ?_
      conv=>whnf
      refine ⟨⟨I,⟨I,I,I,I,I,I,I,I,I,I,I,I⟩,I⟩,?_⟩
      refine W.ret ?_
      refine EndsW.rt ?_
      conv=>whnf
      refine ⟨⟨I,I,I,I,I,I,I,I,I,I,I,I,I⟩,?_,rfl⟩
      rw [take_same no nt]; all_goals rfl
   ·have nf:¬ forMe w m:=fun q=>hto q.2.2
    refine i_impl_Worker_take ?_
    conv=>whnf
    refine g 0 0 [] ?_
    conv=>whnf
    refine ⟨⟨⟨I,I,I,I,I,I,I,I,I,I,I,I⟩,⟨I,I⟩,⟨I,I,I,I,I,I,I,I,I⟩,I,I⟩,?_⟩
    refine W.sq ?_
    refine g 9 22 [.b (false),.b (false),.call (V.b true) ([[]]),.b (false),.b (false),.b (false),.b (false),.b (false),.b (false),.b (false),.b (false)] ?_
    conv=>whnf
    refine ⟨⟨I,I,I,I,⟨nbF (by assumption),I⟩,⟨nbF (by assumption),⟨I,I⟩,I,⟨⟨I,I,I,I,I,I,I,I,I⟩,I⟩,⟨I,I⟩,(by assumption)⟩,⟨nbF (by assumption),I⟩,nbF (by assumption),I,⟨rfl,I⟩,⟨rfl,I⟩,⟨rfl,I⟩,⟨rfl,I⟩,⟨rfl,I⟩,rfl,I⟩,?_⟩
    refine W.cn ?_
    conv=>whnf
    refine ⟨fun _=>?_,noF (notT (by omega))⟩
    refine g 22 24 [] ?_
    conv=>whnf
    refine ⟨⟨I,⟨I,I,I,I,I,I,I,I,I,I,I,I⟩,I⟩,?_⟩
    refine W.ret ?_
    refine EndsW.rt ?_
    conv=>whnf
    refine ⟨⟨I,I,I,I,I,I,I,I,I,I,I,I,I⟩,?_,rfl⟩
    rw [take_no nf]; all_goals rfl
  ·rw [decide_eq_false hok] at cm
   have nf:¬ forMe w m:=fun q=>hok q.2.1
   refine i_impl_Worker_take ?_
   conv=>whnf
   refine g 0 0 [] ?_
   conv=>whnf
   refine ⟨⟨⟨I,I,I,I,I,I,I,I,I,I,I,I⟩,⟨I,I⟩,⟨I,I,I,I,I,I,I,I,I⟩,I,I⟩,?_⟩
   refine W.sq ?_
   refine g 9 22 [.b (false),.b (false),.call (V.b false) ([[]]),.b (false),.b (false),.b (true),.b (true),.b (true),.b (true),.b (true),.b (true)] ?_
   conv=>whnf
   refine ⟨⟨I,I,I,I,⟨nbF (by assumption),I⟩,⟨nbF (by assumption),⟨I,I⟩,I,⟨⟨I,I,I,I,I,I,I,I,I⟩,I⟩,⟨I,I⟩,(by assumption)⟩,⟨nbF (by assumption),I⟩,nbF (by assumption),I,rfl,rfl,rfl,rfl,rfl,rfl,I⟩,?_⟩
   refine W.cn ?_
   conv=>whnf
   refine ⟨fun _=>?_,noF (rfl)⟩
   refine g 22 24 [] ?_
   conv=>whnf
   refine ⟨⟨I,⟨I,I,I,I,I,I,I,I,I,I,I,I⟩,I⟩,?_⟩
   refine W.ret ?_
   refine EndsW.rt ?_
   conv=>whnf
   refine ⟨⟨I,I,I,I,I,I,I,I,I,I,I,I,I⟩,?_,rfl⟩
   rw [take_no nf]; all_goals rfl
 ·have nf:¬ forMe w m:=fun q=>hup q.1
  refine i_impl_Worker_take ?_
  conv=>whnf
  refine g 0 0 [] ?_
  conv=>whnf
  refine ⟨⟨⟨I,I,I,I,I,I,I,I,I,I,I,I⟩,⟨I,I⟩,⟨I,I,I,I,I,I,I,I,I⟩,I,I⟩,?_⟩
  refine W.sq ?_
  refine g 9 22 [.b (true),.b (true),.b (true),.b (true),.b (true),.b (true),.b (true),.b (true),.b (true),.b (true)] ?_
  conv=>whnf
  refine ⟨⟨I,I,I,I,(by simp [*]),(by simp [*]),(by simp [*]),(by simp [*]),I,rfl,rfl,rfl,rfl,rfl,rfl,I⟩,?_⟩
  refine W.cn ?_
  conv=>whnf
  refine ⟨fun _=>?_,noF (rfl)⟩
  refine g 22 24 [] ?_
  conv=>whnf
  refine ⟨⟨I,⟨I,I,I,I,I,I,I,I,I,I,I,I⟩,I⟩,?_⟩
  refine W.ret ?_
  refine EndsW.rt ?_
  conv=>whnf
  refine ⟨⟨I,I,I,I,I,I,I,I,I,I,I,I,I⟩,?_,rfl⟩
  rw [take_no nf]; all_goals rfl
theorem c_impl_WorkerTake (w:Worker) (p:Plan) (m:Message) (hp:planWf p) (hll:w.inputs.length ≤ 1048576) (hm:m.inputs.length ≤ 9223372036854775806):F n_impl_WorkerTake [.val (workerR w),.val (planR p),.val (messageR m)] (actedO (wTake w p m)) [[],[],[]]:=by
 have cp:=c_impl_CheckPlan p hp
 by_cases h:workerOk w
 ·by_cases hc:checkPlan p.tasks = 0
  ·rw [hc] at cp
   have ct:=c_impl_Worker_take w p m h hc hm
   rw [wtake_ok h hc]
   refine i_impl_WorkerTake ?_
   conv=>whnf
   refine g 1 3 [] ?_
   conv=>whnf
   refine ⟨⟨⟨I,I,I,I,I,I,I,I,I,I,I,I⟩,⟨I,I⟩,⟨I,I,I,I,I,I,I,I,I⟩,I,I⟩,?_⟩
   refine W.sq ?_
   refine g 7 14 [.call (V.b (decide (workerOk w))) ([[]]),.b (false),.b (false),.call (V.i (0:Int)) ([[]]),.b (false),.b (false)] ?_
   conv=>whnf
   refine ⟨⟨I,⟨⟨I,I⟩,I,⟨⟨I,I,I,I,I,I,I,I,I,I,I,I⟩,I⟩,⟨I,I⟩,Go.K.c_impl_ValidWorker _ (by omega)⟩,I,I,⟨notF (by omega),I⟩,⟨notF (by omega),⟨I,I⟩,I,⟨⟨I,I⟩,I⟩,⟨I,I⟩,(by assumption)⟩,⟨notF (by omega),I⟩,notF (by omega),I⟩,?_⟩
   refine W.cn ?_
   conv=>whnf
   refine ⟨noT (rfl),fun _=>?_⟩
   refine W.skip ?_
   refine gd 14 22 [[],[.call (workerO w) ([[]])],[],[],[.call (workerO (takeW w (Plan.tasks p) m)) ([[],[],[]])],[],[]] ?_
   conv=>whnf
   refine ⟨⟨I,⟨⟨I,I⟩,I,⟨⟨I,I,I,I,I,I,I,I,I,I,I,I⟩,I⟩,⟨I,I⟩,Go.K.c_impl_Worker_twin _ (by omega)⟩,I,I,⟨⟨⟨I,I,I,I,I,I,I,I,I,I,I,I⟩,I,I,I⟩,I,⟨I,⟨I,I⟩,⟨I,I,I,I,I,I,I,I,I⟩,I⟩,⟨I,I⟩,(by assumption)⟩,I,⟨I,I,I,I,I,I,I,I,I,I,I,I,I⟩,I⟩,by kernel_rfl,?_⟩
   refine W.ret ?_
   refine EndsW.rt ?_
   conv=>whnf
   refine ⟨⟨I,I,I,I,I,I,I,I,I,I,I,I,I,I⟩,?_,rfl⟩
   rfl
  ·rw [wtake_no (fun q=>hc q.2)]
   refine i_impl_WorkerTake ?_
   conv=>whnf
   refine g 1 3 [] ?_
   conv=>whnf
   refine ⟨⟨⟨I,I,I,I,I,I,I,I,I,I,I,I⟩,⟨I,I⟩,⟨I,I,I,I,I,I,I,I,I⟩,I,I⟩,?_⟩
   refine W.sq ?_
   refine g 7 14 [.call (V.b (decide (workerOk w))) ([[]]),.b (false),.b (false),.call (V.i (checkPlan (Plan.tasks p))) ([[]]),.b (false),.b (false)] ?_
   conv=>whnf
   refine ⟨⟨I,⟨⟨I,I⟩,I,⟨⟨I,I,I,I,I,I,I,I,I,I,I,I⟩,I⟩,⟨I,I⟩,Go.K.c_impl_ValidWorker _ (by omega)⟩,I,I,⟨notF (by omega),I⟩,⟨notF (by omega),⟨I,I⟩,I,⟨⟨I,I⟩,I⟩,⟨I,I⟩,(by assumption)⟩,⟨notF (by omega),I⟩,notF (by omega),I⟩,?_⟩
   refine W.cn ?_
   conv=>whnf
   refine ⟨fun _=>?_,noF (notT (by omega))⟩
   refine g 14 16 [] ?_
   conv=>whnf
   refine ⟨⟨I,⟨I,I,I,I,I,I,I,I,I,I,I,I,I⟩,I⟩,?_⟩
   refine W.ret ?_
   refine EndsW.rt ?_
   conv=>whnf
   refine ⟨⟨I,I,I,I,I,I,I,I,I,I,I,I,I,I⟩,?_,rfl⟩
   rfl
 ·rw [wtake_no (fun q=>h q.1)]
  refine i_impl_WorkerTake ?_
  conv=>whnf
  refine g 1 3 [] ?_
  conv=>whnf
  refine ⟨⟨⟨I,I,I,I,I,I,I,I,I,I,I,I⟩,⟨I,I⟩,⟨I,I,I,I,I,I,I,I,I⟩,I,I⟩,?_⟩
  refine W.sq ?_
  refine g 7 14 [.call (V.b (decide (workerOk w))) ([[]]),.b (true),.b (true),.b (true),.b (true)] ?_
  conv=>whnf
  refine ⟨⟨I,⟨⟨I,I⟩,I,⟨⟨I,I,I,I,I,I,I,I,I,I,I,I⟩,I⟩,⟨I,I⟩,Go.K.c_impl_ValidWorker _ (by omega)⟩,I,I,notT (by omega),notT (by omega),notT (by omega),notT (by omega),I⟩,?_⟩
  refine W.cn ?_
  conv=>whnf
  refine ⟨fun _=>?_,noF (rfl)⟩
  refine g 14 16 [] ?_
  conv=>whnf
  refine ⟨⟨I,⟨I,I,I,I,I,I,I,I,I,I,I,I,I⟩,I⟩,?_⟩
  refine W.ret ?_
  refine EndsW.rt ?_
  conv=>whnf
  refine ⟨⟨I,I,I,I,I,I,I,I,I,I,I,I,I,I⟩,?_,rfl⟩
  rfl
end Go.K
end
section
set_option linter.unusedVariables false
set_option linter.unusedSimpArgs false
set_option maxHeartbeats 8000000
set_option maxRecDepth 20000
open Go Go.Tm Go.Proofs
namespace Go.K
structure WSmall (w:Worker):Prop where
 len:w.inputs.length ≤ 64
 size:∀ s ∈ w.inputs,s.size ≤ 64
 text:w.text.size ≤ 64
 num:-100 ≤ w.number ∧ w.number ≤ 1000
 cost:-100 ≤ w.cost ∧ w.cost ≤ 1000
 lease:w.lease ≤ 1000001
theorem ex_WDraw (l:List Int) (pos:Int) (p:Plan) (hp:planSmall p) (hp1:1 ≤ p.tasks.length) (hl:u8ok l) (h0:0 ≤ pos) (h1:pos ≤ 1000000):∃ res outs,(∃ (w:Worker) (pos2:Int),res = workerO w ∧ outs = [rdC l pos2,[.own taskK (p.tasks.map taskT)]] ∧ WSmall w ∧ w.inputs.length ≤ 3 ∧ pos ≤ pos2 ∧ pos2 ≤ pos + 40) ∧ F n_spec_l3Draw [.ptr (rdC l pos),.bor (planO p)] res outs:=by
 have hpl:=hp.1
 have p0:=pick_rng l pos 3
 have p1:=pick_rng l (pos + 1) 3
 have p2:=pick_rng l (pos + 1 + 1) 8
 have p3:=pick_rng l (pos + 1 + 1 + 1) 6
 have p4:=pick_rng l (pos + 1 + 1 + 1 + 1) 3
 have p5:=pick_rng l (pos + 1 + 1 + 1 + 1 + 1) 4
 have p6:=pick_rng l (pos + 1 + 1 + 1 + 1 + 1 + 1) (p.tasks.length:Int)
 have p7:=pick_rng l (pos + 1 + 1 + 1 + 1 + 1 + 1 + 1) 6
 have p8:=pick_rng l (pos + 1 + 1 + 1 + 1 + 1 + 1 + 1 + 1) (1 + pickV l (pos + 1 + 1 + 1 + 1 + 1 + 1 + 1) 6)
 have p9:=pick_rng l (pos + 1 + 1 + 1 + 1 + 1 + 1 + 1 + 1 + 1) 3
 obtain ⟨xe,hxe1,hxe2⟩:=pick_int [1,2,5,1000001] (pickV l (pos + 1 + 1 + 1 + 1 + 1) 4) p5.1 (by show _ < (4:Int); omega)
 have hxe3:([[T.i 1],[T.i 2],[T.i 5],[T.i 1000001]]:List (List T))[(pickV l (pos + 1 + 1 + 1 + 1 + 1) 4).toNat]? = some [T.i xe]:=hxe2
 have hxb:xe ≤ 1000001:=by simp only [List.mem_cons,List.not_mem_nil,or_false] at hxe1; omega
 have hb:∀ s ∈ ([]:List ByteArray),s.size ≤ 64:=fun s hs=>by cases hs
 by_cases g1:0 < pickV l (pos + 1 + 1) 8
 ·by_cases g2:pickV l (pos + 1 + 1 + 1 + 1) 3 = 0
  ·refine x_spec_l3Draw ?_
   conv=>whnf
   refine g 0 0 [] ?_
   conv=>whnf
   refine ⟨⟨I,I,I⟩,?_⟩
   refine g 8 18 [.call (V.i (pickV l pos (3:Int))) ([rdC l (pos + (1:Int)),[]]),.i ((1:Int) + pickV l pos (3:Int)),.call (V.i (pickV l (pos + (1:Int)) (3:Int))) ([rdC l (pos + (1:Int) + (1:Int)),[]]),.i ((1:Int) + pickV l (pos + (1:Int)) (3:Int)),.call (V.i (pickV l (pos + (1:Int) + (1:Int)) (8:Int))) ([rdC l (pos + (1:Int) + (1:Int) + (1:Int)),[]])] ?_
   conv=>whnf
   refine ⟨⟨I,⟨⟨I,I,I⟩,I,⟨I,⟨I,I⟩,I⟩,⟨I,I⟩,Go.K.c_spec_l1Rd_pick _ _ _ (by omega) (by omega) (by omega) (by omega)⟩,w64 (by omega) (by omega),I,⟨⟨I,I,I⟩,I,⟨I,⟨I,I⟩,I⟩,⟨I,I⟩,Go.K.c_spec_l1Rd_pick _ _ _ (by omega) (by omega) (by omega) (by omega)⟩,w64 (by omega) (by omega),I,⟨⟨I,I,I⟩,I,⟨I,⟨I,I⟩,I⟩,⟨I,I⟩,Go.K.c_spec_l1Rd_pick _ _ _ (by omega) (by omega) (by omega) (by omega)⟩,I,I,I,⟨I,I,I,I,I,I,I,I,I,I,I,I⟩,I⟩,?_⟩
   refine W.sq ?_
   refine g 18 20 [] ?_
   conv=>whnf
   refine ⟨⟨I,I,I,I⟩,?_⟩
   refine W.cn ?_
   conv=>whnf
   refine ⟨noT (notF (by omega)),fun _=>?_⟩
   refine W.skip ?_
   refine g 20 25 [.call (V.i (pickV l (pos + (1:Int) + (1:Int) + (1:Int)) (6:Int))) ([rdC l (pos + (1:Int) + (1:Int) + (1:Int) + (1:Int)),[]])] ?_
   conv=>whnf
   refine ⟨⟨I,⟨⟨I,I,I⟩,I,⟨I,⟨I,I⟩,I⟩,⟨I,I⟩,Go.K.c_spec_l1Rd_pick _ _ _ (by omega) (by omega) (by omega) (by omega)⟩,I,⟨I,I⟩,I⟩,?_⟩
   refine g 25 27 [.call (V.i (pickV l (pos + (1:Int) + (1:Int) + (1:Int) + (1:Int)) (3:Int))) ([rdC l (pos + (1:Int) + (1:Int) + (1:Int) + (1:Int) + (1:Int)),[]])] ?_
   conv=>whnf
   refine ⟨⟨I,⟨⟨I,I,I⟩,I,⟨I,⟨I,I⟩,I⟩,⟨I,I⟩,Go.K.c_spec_l1Rd_pick _ _ _ (by omega) (by omega) (by omega) (by omega)⟩,I,I⟩,?_⟩
   refine W.sq ?_
   refine g 27 28 [] ?_
   conv=>whnf
   refine ⟨⟨I,I,I⟩,?_⟩
   refine W.cn ?_
   conv=>whnf
   refine ⟨fun _=>?_,noF (dT (by omega))⟩
   refine g 28 30 [] ?_
   conv=>whnf
   refine ⟨⟨I,⟨I,I,I,I,I,I,I,I,I,I,I,I⟩,I⟩,?_⟩
   refine W.ret ?_
   refine EndsW.rt ?_
   conv=>whnf
   refine ⟨⟨I,I,I,I,I,I,I,I,I,I,I,I,I⟩,?_⟩
   exact ⟨⟨1 + pickV l pos 3,1 + pickV l (pos + 1) 3,decide (0 < pickV l (pos + 1 + 1) 8),0,0,0,0,0,[],emp,pickV l (pos + 1 + 1 + 1) 6⟩,_,rfl,rfl,⟨Nat.zero_le _,hb,Nat.zero_le _,by dsimp only; omega,by dsimp only; omega,by dsimp only; omega⟩,Nat.zero_le _,by omega,by omega⟩
  ·by_cases g3:pickV l (pos + 1 + 1 + 1 + 1) 3 = 2
   ·refine x_spec_l3Draw ?_
    conv=>whnf
    refine g 0 0 [] ?_
    conv=>whnf
    refine ⟨⟨I,I,I⟩,?_⟩
    refine g 8 18 [.call (V.i (pickV l pos (3:Int))) ([rdC l (pos + (1:Int)),[]]),.i ((1:Int) + pickV l pos (3:Int)),.call (V.i (pickV l (pos + (1:Int)) (3:Int))) ([rdC l (pos + (1:Int) + (1:Int)),[]]),.i ((1:Int) + pickV l (pos + (1:Int)) (3:Int)),.call (V.i (pickV l (pos + (1:Int) + (1:Int)) (8:Int))) ([rdC l (pos + (1:Int) + (1:Int) + (1:Int)),[]])] ?_
    conv=>whnf
    refine ⟨⟨I,⟨⟨I,I,I⟩,I,⟨I,⟨I,I⟩,I⟩,⟨I,I⟩,Go.K.c_spec_l1Rd_pick _ _ _ (by omega) (by omega) (by omega) (by omega)⟩,w64 (by omega) (by omega),I,⟨⟨I,I,I⟩,I,⟨I,⟨I,I⟩,I⟩,⟨I,I⟩,Go.K.c_spec_l1Rd_pick _ _ _ (by omega) (by omega) (by omega) (by omega)⟩,w64 (by omega) (by omega),I,⟨⟨I,I,I⟩,I,⟨I,⟨I,I⟩,I⟩,⟨I,I⟩,Go.K.c_spec_l1Rd_pick _ _ _ (by omega) (by omega) (by omega) (by omega)⟩,I,I,I,⟨I,I,I,I,I,I,I,I,I,I,I,I⟩,I⟩,?_⟩
    refine W.sq ?_
    refine g 18 20 [] ?_
    conv=>whnf
    refine ⟨⟨I,I,I,I⟩,?_⟩
    refine W.cn ?_
    conv=>whnf
    refine ⟨noT (notF (by omega)),fun _=>?_⟩
    refine W.skip ?_
    refine g 20 25 [.call (V.i (pickV l (pos + (1:Int) + (1:Int) + (1:Int)) (6:Int))) ([rdC l (pos + (1:Int) + (1:Int) + (1:Int) + (1:Int)),[]])] ?_
    conv=>whnf
    refine ⟨⟨I,⟨⟨I,I,I⟩,I,⟨I,⟨I,I⟩,I⟩,⟨I,I⟩,Go.K.c_spec_l1Rd_pick _ _ _ (by omega) (by omega) (by omega) (by omega)⟩,I,⟨I,I⟩,I⟩,?_⟩
    refine g 25 27 [.call (V.i (pickV l (pos + (1:Int) + (1:Int) + (1:Int) + (1:Int)) (3:Int))) ([rdC l (pos + (1:Int) + (1:Int) + (1:Int) + (1:Int) + (1:Int)),[]])] ?_
    conv=>whnf
    refine ⟨⟨I,⟨⟨I,I,I⟩,I,⟨I,⟨I,I⟩,I⟩,⟨I,I⟩,Go.K.c_spec_l1Rd_pick _ _ _ (by omega) (by omega) (by omega) (by omega)⟩,I,I⟩,?_⟩
    refine W.sq ?_
    refine g 27 28 [] ?_
    conv=>whnf
    refine ⟨⟨I,I,I⟩,?_⟩
    refine W.cn ?_
    conv=>whnf
    refine ⟨noT (dF (by omega)),fun _=>?_⟩
    refine W.skip ?_
    refine g 28 32 [] ?_
    conv=>whnf
    refine ⟨⟨I,I,⟨I,I⟩,I⟩,?_⟩
    refine g 32 38 [.call (V.i (pickV l (pos + (1:Int) + (1:Int) + (1:Int) + (1:Int) + (1:Int)) (4:Int))) ([rdC l (pos + (1:Int) + (1:Int) + (1:Int) + (1:Int) + (1:Int) + (1:Int)),[]]),.n (Int.toNat (pickV l (pos + (1:Int) + (1:Int) + (1:Int) + (1:Int) + (1:Int)) (4:Int))),.x ([T.i xe])] ?_
    conv=>whnf
    refine ⟨⟨⟨⟨I,I⟩,⟨I,I⟩,⟨I,I⟩,⟨I,I⟩,I⟩,I,⟨⟨I,I,I⟩,I,⟨I,⟨I,I⟩,I⟩,⟨I,I⟩,Go.K.c_spec_l1Rd_pick _ _ _ (by omega) (by omega) (by omega) (by omega)⟩,⟨(by omega),(by simp only [lens]; omega)⟩,(by assumption),I,⟨I,I⟩,I⟩,?_⟩
    refine g 38 44 [.call (V.i (pickV l (pos + (1:Int) + (1:Int) + (1:Int) + (1:Int) + (1:Int) + (1:Int)) (↑(List.length (List.map taskT (Plan.tasks p))):Int))) ([rdC l (pos + (1:Int) + (1:Int) + (1:Int) + (1:Int) + (1:Int) + (1:Int) + (1:Int)),[]])] ?_
    conv=>whnf
    refine ⟨⟨I,I,I,I,⟨⟨I,I,I⟩,I,⟨I,⟨I,I⟩,I⟩,⟨I,I⟩,Go.K.c_spec_l1Rd_pick _ _ _ (by first | omega | decide | assumption | (simp only [ByteArray.size_extract,List.length_map]; omega) | simp [*]) (by first | omega | decide | assumption | (simp only [ByteArray.size_extract,List.length_map]; omega) | simp [*]) (by first | omega | decide | assumption | (simp only [ByteArray.size_extract,List.length_map]; omega) | simp [*]) (by first | omega | decide | assumption | (simp only [ByteArray.size_extract,List.length_map]; omega) | simp [*])⟩,I,⟨I,I⟩,I⟩,?_⟩
    refine W.sq ?_
    refine g 1 4 [] ?_
    conv=>whnf
    refine ⟨⟨I,I,I⟩,?_⟩
    refine W.cn ?_
    conv=>whnf
    refine ⟨fun _=>?_,noF (dT (by omega))⟩
    refine g 6 49 [.call (V.s (sumT (decS (pickV l (pos + (1:Int) + (1:Int) + (1:Int) + (1:Int) + (1:Int) + (1:Int) + (1:Int)) (50:Int))))) ([rdC l (pos + (1:Int) + (1:Int) + (1:Int) + (1:Int) + (1:Int) + (1:Int) + (1:Int) + (1:Int))])] ?_
    conv=>whnf
    refine ⟨⟨I,⟨⟨I,I⟩,I,⟨I,I⟩,⟨I,I⟩,Go.K.c_spec_l1Bytes _ _ (by omega) (by omega) (by omega)⟩,I,⟨I,I⟩,I⟩,?_⟩
    refine g 49 50 [] ?_
    conv=>whnf
    refine ⟨⟨I,⟨I,I,I,I,I,I,I,I,I,I,I,I⟩,I⟩,?_⟩
    refine W.ret ?_
    refine EndsW.rt ?_
    conv=>whnf
    refine ⟨⟨I,I,I,I,I,I,I,I,I,I,I,I,I⟩,?_⟩
    have hz:=sumT_size (decS (pickV l (pos + 1 + 1 + 1 + 1 + 1 + 1 + 1) 50))
    exact ⟨⟨1 + pickV l pos 3,1 + pickV l (pos + 1) 3,decide (0 < pickV l (pos + 1 + 1) 8),pickV l (pos + 1 + 1 + 1 + 1) 3,xe,pickV l (pos + 1 + 1 + 1 + 1 + 1 + 1) ((p.tasks.map taskT).length:Int),0,0,[],sumT (decS (pickV l (pos + 1 + 1 + 1 + 1 + 1 + 1 + 1) 50)),pickV l (pos + 1 + 1 + 1) 6⟩,_,rfl,rfl,⟨Nat.zero_le _,hb,by dsimp only; omega,by dsimp only; omega,by dsimp only; omega,by dsimp only; omega⟩,Nat.zero_le _,by omega,by omega⟩
   ·refine x_spec_l3Draw ?_
    conv=>whnf
    refine g 0 0 [] ?_
    conv=>whnf
    refine ⟨⟨I,I,I⟩,?_⟩
    refine g 8 18 [.call (V.i (pickV l pos (3:Int))) ([rdC l (pos + (1:Int)),[]]),.i ((1:Int) + pickV l pos (3:Int)),.call (V.i (pickV l (pos + (1:Int)) (3:Int))) ([rdC l (pos + (1:Int) + (1:Int)),[]]),.i ((1:Int) + pickV l (pos + (1:Int)) (3:Int)),.call (V.i (pickV l (pos + (1:Int) + (1:Int)) (8:Int))) ([rdC l (pos + (1:Int) + (1:Int) + (1:Int)),[]])] ?_
    conv=>whnf
    refine ⟨⟨I,⟨⟨I,I,I⟩,I,⟨I,⟨I,I⟩,I⟩,⟨I,I⟩,Go.K.c_spec_l1Rd_pick _ _ _ (by omega) (by omega) (by omega) (by omega)⟩,w64 (by omega) (by omega),I,⟨⟨I,I,I⟩,I,⟨I,⟨I,I⟩,I⟩,⟨I,I⟩,Go.K.c_spec_l1Rd_pick _ _ _ (by omega) (by omega) (by omega) (by omega)⟩,w64 (by omega) (by omega),I,⟨⟨I,I,I⟩,I,⟨I,⟨I,I⟩,I⟩,⟨I,I⟩,Go.K.c_spec_l1Rd_pick _ _ _ (by omega) (by omega) (by omega) (by omega)⟩,I,I,I,⟨I,I,I,I,I,I,I,I,I,I,I,I⟩,I⟩,?_⟩
    refine W.sq ?_
    refine g 18 20 [] ?_
    conv=>whnf
    refine ⟨⟨I,I,I,I⟩,?_⟩
    refine W.cn ?_
    conv=>whnf
    refine ⟨noT (notF (by omega)),fun _=>?_⟩
    refine W.skip ?_
    refine g 20 25 [.call (V.i (pickV l (pos + (1:Int) + (1:Int) + (1:Int)) (6:Int))) ([rdC l (pos + (1:Int) + (1:Int) + (1:Int) + (1:Int)),[]])] ?_
    conv=>whnf
    refine ⟨⟨I,⟨⟨I,I,I⟩,I,⟨I,⟨I,I⟩,I⟩,⟨I,I⟩,Go.K.c_spec_l1Rd_pick _ _ _ (by omega) (by omega) (by omega) (by omega)⟩,I,⟨I,I⟩,I⟩,?_⟩
    refine g 25 27 [.call (V.i (pickV l (pos + (1:Int) + (1:Int) + (1:Int) + (1:Int)) (3:Int))) ([rdC l (pos + (1:Int) + (1:Int) + (1:Int) + (1:Int) + (1:Int)),[]])] ?_
    conv=>whnf
    refine ⟨⟨I,⟨⟨I,I,I⟩,I,⟨I,⟨I,I⟩,I⟩,⟨I,I⟩,Go.K.c_spec_l1Rd_pick _ _ _ (by omega) (by omega) (by omega) (by omega)⟩,I,I⟩,?_⟩
    refine W.sq ?_
    refine g 27 28 [] ?_
    conv=>whnf
    refine ⟨⟨I,I,I⟩,?_⟩
    refine W.cn ?_
    conv=>whnf
    refine ⟨noT (dF (by omega)),fun _=>?_⟩
    refine W.skip ?_
    refine g 28 32 [] ?_
    conv=>whnf
    refine ⟨⟨I,I,⟨I,I⟩,I⟩,?_⟩
    refine g 32 38 [.call (V.i (pickV l (pos + (1:Int) + (1:Int) + (1:Int) + (1:Int) + (1:Int)) (4:Int))) ([rdC l (pos + (1:Int) + (1:Int) + (1:Int) + (1:Int) + (1:Int) + (1:Int)),[]]),.n (Int.toNat (pickV l (pos + (1:Int) + (1:Int) + (1:Int) + (1:Int) + (1:Int)) (4:Int))),.x ([T.i xe])] ?_
    conv=>whnf
    refine ⟨⟨⟨⟨I,I⟩,⟨I,I⟩,⟨I,I⟩,⟨I,I⟩,I⟩,I,⟨⟨I,I,I⟩,I,⟨I,⟨I,I⟩,I⟩,⟨I,I⟩,Go.K.c_spec_l1Rd_pick _ _ _ (by omega) (by omega) (by omega) (by omega)⟩,⟨(by omega),(by simp only [lens]; omega)⟩,(by assumption),I,⟨I,I⟩,I⟩,?_⟩
    refine g 38 44 [.call (V.i (pickV l (pos + (1:Int) + (1:Int) + (1:Int) + (1:Int) + (1:Int) + (1:Int)) (↑(List.length (List.map taskT (Plan.tasks p))):Int))) ([rdC l (pos + (1:Int) + (1:Int) + (1:Int) + (1:Int) + (1:Int) + (1:Int) + (1:Int)),[]])] ?_
    conv=>whnf
    refine ⟨⟨I,I,I,I,⟨⟨I,I,I⟩,I,⟨I,⟨I,I⟩,I⟩,⟨I,I⟩,Go.K.c_spec_l1Rd_pick _ _ _ (by first | omega | decide | assumption | (simp only [ByteArray.size_extract,List.length_map]; omega) | simp [*]) (by first | omega | decide | assumption | (simp only [ByteArray.size_extract,List.length_map]; omega) | simp [*]) (by first | omega | decide | assumption | (simp only [ByteArray.size_extract,List.length_map]; omega) | simp [*]) (by first | omega | decide | assumption | (simp only [ByteArray.size_extract,List.length_map]; omega) | simp [*])⟩,I,⟨I,I⟩,I⟩,?_⟩
    refine W.sq ?_
    refine g 1 4 [] ?_
    conv=>whnf
    refine ⟨⟨I,I,I⟩,?_⟩
    refine W.cn ?_
    conv=>whnf
    refine ⟨noT (dF (by omega)),fun _=>?_⟩
    refine W.skip ?_
    refine g 6 54 [.call (V.i (pickV l (pos + (1:Int) + (1:Int) + (1:Int) + (1:Int) + (1:Int) + (1:Int) + (1:Int)) (6:Int))) ([rdC l (pos + (1:Int) + (1:Int) + (1:Int) + (1:Int) + (1:Int) + (1:Int) + (1:Int) + (1:Int)),[]]),.i ((1:Int) + pickV l (pos + (1:Int) + (1:Int) + (1:Int) + (1:Int) + (1:Int) + (1:Int) + (1:Int)) (6:Int))] ?_
    conv=>whnf
    refine ⟨⟨I,⟨⟨I,I,I⟩,I,⟨I,⟨I,I⟩,I⟩,⟨I,I⟩,Go.K.c_spec_l1Rd_pick _ _ _ (by omega) (by omega) (by omega) (by omega)⟩,w64 (by omega) (by omega),I,⟨I,I⟩,I⟩,?_⟩
    refine g 54 60 [.call (V.i (pickV l (pos + (1:Int) + (1:Int) + (1:Int) + (1:Int) + (1:Int) + (1:Int) + (1:Int) + (1:Int)) ((1:Int) + pickV l (pos + (1:Int) + (1:Int) + (1:Int) + (1:Int) + (1:Int) + (1:Int) + (1:Int)) (6:Int)))) ([rdC l (pos + (1:Int) + (1:Int) + (1:Int) + (1:Int) + (1:Int) + (1:Int) + (1:Int) + (1:Int) + (1:Int)),[]]),.i ((1:Int) + pickV l (pos + (1:Int) + (1:Int) + (1:Int) + (1:Int) + (1:Int) + (1:Int) + (1:Int) + (1:Int)) ((1:Int) + pickV l (pos + (1:Int) + (1:Int) + (1:Int) + (1:Int) + (1:Int) + (1:Int) + (1:Int)) (6:Int)))] ?_
    conv=>whnf
    refine ⟨⟨I,I,I,⟨⟨I,I,I⟩,I,⟨I,⟨I,I⟩,I⟩,⟨I,I⟩,Go.K.c_spec_l1Rd_pick _ _ _ (by omega) (by omega) (by omega) (by omega)⟩,w64 (by omega) (by omega),I,⟨I,I⟩,I⟩,?_⟩
    refine W.sq ?_
    refine g 60 62 [.call (V.i (pickV l (pos + (1:Int) + (1:Int) + (1:Int) + (1:Int) + (1:Int) + (1:Int) + (1:Int) + (1:Int) + (1:Int)) (3:Int))) ([rdC l (pos + (1:Int) + (1:Int) + (1:Int) + (1:Int) + (1:Int) + (1:Int) + (1:Int) + (1:Int) + (1:Int) + (1:Int)),[]])] ?_
    conv=>whnf
    refine ⟨⟨I,⟨⟨I,I,I⟩,I,⟨I,⟨I,I⟩,I⟩,⟨I,I⟩,Go.K.c_spec_l1Rd_pick _ _ _ (by omega) (by omega) (by omega) (by omega)⟩,I,I⟩,?_⟩
    refine W.blk ?_
    refine W.lp (fun s (x:List ByteArray × Int × Int)=>⟨[(0,s.s 0),(4,s.s 4),(5,s.s 5),(7,.i x.2.1)],[(4,[s.c 4 0,s.c 4 1,s.c 4 2,s.c 4 3,s.c 4 4,s.c 4 5,s.c 4 6,s.c 4 7,s.c 4 8,s.c 4 9,s.c 4 10]),(74,[.t (u8s l),.t (.i x.2.2)]),(75,[.own taskK (p.tasks.map taskT)]),(5,[.t (.i (1 + pickV l pos 3)),.t (.i (1 + pickV l (pos + 1) 3)),.t (.b (decide (0 < pickV l (pos + 1 + 1) 8))),.t (.i (pickV l (pos + 1 + 1 + 1 + 1) 3)),.t (.i xe),.t (.i (pickV l (pos + 1 + 1 + 1 + 1 + 1 + 1) p.tasks.length)),.t (.i (1 + pickV l (pos + 1 + 1 + 1 + 1 + 1 + 1 + 1) 6)),.t (.i (1 + pickV l (pos + 1 + 1 + 1 + 1 + 1 + 1 + 1 + 1) (1 + pickV l (pos + 1 + 1 + 1 + 1 + 1 + 1 + 1) 6))),.own [false] (x.1.map strT),.t (.s emp),.t (.i (pickV l (pos + 1 + 1 + 1) 6))])],[]⟩) (fun (x:List ByteArray × Int × Int)=>x.2.1 ≤ 3 ∧ x.1.length + x.2.1 ≤ 3 ∧ 0 ≤ x.2.1 ∧ (∀ s ∈ x.1,s.size ≤ 64) ∧ pos ≤ x.2.2 ∧ x.2.2 ≤ pos + 20 + x.1.length) (fun (x:List ByteArray × Int × Int)=>x.2.1.toNat) (([],pickV l (pos + 1 + 1 + 1 + 1 + 1 + 1 + 1 + 1 + 1) 3,pos + 1 + 1 + 1 + 1 + 1 + 1 + 1 + 1 + 1 + 1)) [some 4,some 74,some 75,some 5] [] ⟨rfl,⟨rfl,rfl,rfl,rfl,I⟩,⟨⟨rfl,⟨rfl,⟨rfl,⟨rfl,⟨rfl,⟨rfl,⟨rfl,⟨rfl,⟨rfl,⟨rfl,⟨rfl,⟨rfl,I⟩⟩⟩⟩⟩⟩⟩⟩⟩⟩⟩⟩,⟨⟨rfl,⟨rfl,⟨rfl,I⟩⟩⟩,⟨⟨rfl,⟨rfl,I⟩⟩,⟨⟨rfl,⟨rfl,⟨rfl,⟨rfl,⟨rfl,⟨rfl,⟨(congrArg (fun z=>V.t (T.v (Value.int _ z))) (by simp [*])),⟨rfl,⟨rfl,⟨rfl,⟨rfl,⟨rfl,I⟩⟩⟩⟩⟩⟩⟩⟩⟩⟩⟩⟩,I⟩⟩⟩⟩,I⟩ ?_ ?_
    ·simp only [List.length_nil]
     exact ⟨by omega,by omega,by omega,hb,by omega,by omega⟩
    rintro ⟨xs,n,q⟩ ⟨i1,i2,i3,i4,i5,i6⟩
    dsimp only at i1 i2 i3 i4 i5 i6
    have cb:=c_spec_l1Bytes l q hl (by omega) (by omega)
    have hz:=sumT_size (decS (pickV l q 50))
    by_cases hn:0 < n
    ·have ex:=map_snoc xs (sumT (decS (pickV l q 50)))
     conv=>whnf
     refine W.sq ?_
     refine g 62 63 [] ?_
     conv=>whnf
     refine ⟨⟨I,I,I⟩,?_⟩
     refine W.cn ?_
     conv=>whnf
     refine ⟨fun _=>?_,noF (dT (by omega))⟩
     refine W.skip ?_
     refine W.sq ?_
     refine W.blk ?_
     refine rgd [[],[],[],[.call (V.s (sumT (decS (pickV l q (50:Int))))) ([rdC l (q + (1:Int))])],[],[],[],[]] ?_
     conv=>whnf
     refine ⟨⟨I,I,I,⟨⟨I,I⟩,I,⟨I,I⟩,⟨I,I⟩,(by assumption)⟩,⟨⟨I,I⟩,I⟩,⟨I,I,(by simp only [lens]; omega)⟩,I,⟨I,I⟩,I⟩,by kernel_rfl,?_⟩
     refine rg [.i (Prod.fst (Prod.snd (xs,n,q)) - (1:Int))] ?_
     conv=>whnf
     refine ⟨⟨I,w64 (by simp only [lens]; omega) (by simp only [lens]; omega),I,I⟩,?_⟩
     refine ⟨(xs ++ [sumT (decS (pickV l q 50))],n - 1,q + 1),[some 4,some 74,some 75,some 5],[],⟨rfl,⟨rfl,rfl,rfl,rfl,I⟩,⟨⟨rfl,⟨rfl,⟨rfl,⟨rfl,⟨rfl,⟨rfl,⟨rfl,⟨rfl,⟨rfl,⟨rfl,⟨rfl,⟨rfl,I⟩⟩⟩⟩⟩⟩⟩⟩⟩⟩⟩⟩,⟨⟨rfl,⟨rfl,⟨rfl,I⟩⟩⟩,⟨⟨rfl,⟨rfl,I⟩⟩,⟨⟨rfl,⟨rfl,⟨rfl,⟨rfl,⟨rfl,⟨rfl,⟨rfl,⟨rfl,⟨rfl,⟨(congrArg (V.own _) (ex)),⟨rfl,⟨rfl,I⟩⟩⟩⟩⟩⟩⟩⟩⟩⟩⟩⟩,I⟩⟩⟩⟩,I⟩,?_,?_⟩
     rotate_left 1
     (dsimp only; omega)
     dsimp only
     ·simp only [len_snoc]
      exact ⟨by omega,by omega,by omega,all_snoc i4 (by omega),by omega,by omega⟩
    ·conv=>whnf
     refine W.sq ?_
     refine g 62 63 [] ?_
     conv=>whnf
     refine ⟨⟨I,I,I⟩,?_⟩
     refine W.cn ?_
     conv=>whnf
     refine ⟨noT (dF (by omega)),fun _=>?_⟩
     refine W.exit ?_
     refine g 5 74 [] ?_
     conv=>whnf
     refine ⟨⟨I,⟨I,I,I,I,I,I,I,I,I,I,I,I⟩,I⟩,?_⟩
     refine W.ret ?_
     refine EndsW.rt ?_
     conv=>whnf
     refine ⟨⟨I,I,I,I,I,I,I,I,I,I,I,I,I⟩,?_⟩
     exact ⟨⟨1 + pickV l pos 3,1 + pickV l (pos + 1) 3,decide (0 < pickV l (pos + 1 + 1) 8),pickV l (pos + 1 + 1 + 1 + 1) 3,xe,pickV l (pos + 1 + 1 + 1 + 1 + 1 + 1) p.tasks.length,1 + pickV l (pos + 1 + 1 + 1 + 1 + 1 + 1 + 1) 6,1 + pickV l (pos + 1 + 1 + 1 + 1 + 1 + 1 + 1 + 1) (1 + pickV l (pos + 1 + 1 + 1 + 1 + 1 + 1 + 1) 6),xs,emp,pickV l (pos + 1 + 1 + 1) 6⟩,q,rfl,rfl,⟨by dsimp only; omega,i4,Nat.zero_le _,by dsimp only; omega,by dsimp only; omega,by dsimp only; omega⟩,by dsimp only; omega,by omega,by omega⟩
 ·refine x_spec_l3Draw ?_
  conv=>whnf
  refine g 0 0 [] ?_
  conv=>whnf
  refine ⟨⟨I,I,I⟩,?_⟩
  refine g 8 18 [.call (V.i (pickV l pos (3:Int))) ([rdC l (pos + (1:Int)),[]]),.i ((1:Int) + pickV l pos (3:Int)),.call (V.i (pickV l (pos + (1:Int)) (3:Int))) ([rdC l (pos + (1:Int) + (1:Int)),[]]),.i ((1:Int) + pickV l (pos + (1:Int)) (3:Int)),.call (V.i (pickV l (pos + (1:Int) + (1:Int)) (8:Int))) ([rdC l (pos + (1:Int) + (1:Int) + (1:Int)),[]])] ?_
  conv=>whnf
  refine ⟨⟨I,⟨⟨I,I,I⟩,I,⟨I,⟨I,I⟩,I⟩,⟨I,I⟩,Go.K.c_spec_l1Rd_pick _ _ _ (by omega) (by omega) (by omega) (by omega)⟩,w64 (by omega) (by omega),I,⟨⟨I,I,I⟩,I,⟨I,⟨I,I⟩,I⟩,⟨I,I⟩,Go.K.c_spec_l1Rd_pick _ _ _ (by omega) (by omega) (by omega) (by omega)⟩,w64 (by omega) (by omega),I,⟨⟨I,I,I⟩,I,⟨I,⟨I,I⟩,I⟩,⟨I,I⟩,Go.K.c_spec_l1Rd_pick _ _ _ (by omega) (by omega) (by omega) (by omega)⟩,I,I,I,⟨I,I,I,I,I,I,I,I,I,I,I,I⟩,I⟩,?_⟩
  refine W.sq ?_
  refine g 18 20 [] ?_
  conv=>whnf
  refine ⟨⟨I,I,I,I⟩,?_⟩
  refine W.cn ?_
  conv=>whnf
  refine ⟨fun _=>?_,noF (notT (by omega))⟩
  refine g 20 22 [] ?_
  conv=>whnf
  refine ⟨⟨I,⟨I,I,I,I,I,I,I,I,I,I,I,I⟩,I⟩,?_⟩
  refine W.ret ?_
  refine EndsW.rt ?_
  conv=>whnf
  refine ⟨⟨I,I,I,I,I,I,I,I,I,I,I,I,I⟩,?_⟩
  exact ⟨⟨1 + pickV l pos 3,1 + pickV l (pos + 1) 3,decide (0 < pickV l (pos + 1 + 1) 8),0,0,0,0,0,[],emp,0⟩,_,rfl,rfl,⟨Nat.zero_le _,hb,Nat.zero_le _,by dsimp only; omega,by dsimp only; omega,by dsimp only; omega⟩,Nat.zero_le _,by omega,by omega⟩
theorem ex_WDraw' (l:List Int) (pos:Int) (p:Plan) (h:(planSmall p ∧ 1 ≤ p.tasks.length) ∧ u8ok l ∧ 0 ≤ pos ∧ pos ≤ 1000000):∃ x:Worker × Int,F n_spec_l3Draw [.ptr (rdC l pos),.bor (planO p)] (workerO x.1) [rdC l x.2,[.own taskK (p.tasks.map taskT)]] ∧ WSmall x.1 ∧ x.1.inputs.length ≤ 3 ∧ pos ≤ x.2 ∧ x.2 ≤ pos + 40:=by
 obtain ⟨res,outs,⟨w,pos2,rfl,rfl,h1,h2,h3,h4⟩,hF⟩:=ex_WDraw l pos p h.1.1 h.1.2 h.2.1 h.2.2.1 h.2.2.2
 exact ⟨(w,pos2),hF,h1,h2,h3,h4⟩
theorem wsmall_no:WSmall noWorker:=⟨Nat.zero_le _,(fun s hs=>by cases hs),Nat.zero_le _,by decide,by decide,by decide⟩
open Classical in
/-- The worker that is drawn for a plan, and the place behind it. -/
noncomputable def wdrawP (l:List Int) (pos:Int) (p:Plan):Worker × Int:=if h:(planSmall p ∧ 1 ≤ p.tasks.length) ∧ u8ok l ∧ 0 ≤ pos ∧ pos ≤ 1000000 then (ex_WDraw' l pos p h).choose else (noWorker,pos)
theorem c_spec_l3Draw (l:List Int) (pos:Int) (p:Plan) (hp:planSmall p) (hp1:1 ≤ p.tasks.length) (hl:u8ok l) (h0:0 ≤ pos) (h1:pos ≤ 1000000):F n_spec_l3Draw [.ptr (rdC l pos),.bor (planO p)] (workerO (wdrawP l pos p).1) [rdC l (wdrawP l pos p).2,[.own taskK (p.tasks.map taskT)]]:=by
 have h:(planSmall p ∧ 1 ≤ p.tasks.length) ∧ u8ok l ∧ 0 ≤ pos ∧ pos ≤ 1000000:=⟨⟨hp,hp1⟩,hl,h0,h1⟩
 rw [wdrawP,dif_pos h]
 exact (ex_WDraw' l pos p h).choose_spec.1
theorem wdraw_ok (l:List Int) (pos:Int) (p:Plan):WSmall (wdrawP l pos p).1 ∧ (wdrawP l pos p).1.inputs.length ≤ 3 ∧ pos ≤ (wdrawP l pos p).2 ∧ (wdrawP l pos p).2 ≤ pos + 40:=by
 unfold wdrawP
 split
 ·rename_i h; exact (ex_WDraw' l pos p h).choose_spec.2
 ·exact ⟨wsmall_no,Nat.zero_le _,Int.le_refl _,by dsimp only; omega⟩
end Go.K
end
section
set_option linter.unusedVariables false
set_option linter.unusedSimpArgs false
set_option maxHeartbeats 8000000
set_option maxRecDepth 20000
open Go Go.Tm Go.Proofs
namespace Go.K
structure WMid (w:Worker):Prop where
 len:w.inputs.length ≤ 100
 size:∀ s ∈ w.inputs,s.size ≤ 100
 text:w.text.size ≤ 100
 lease:w.lease ≤ 1000001
theorem wmid_of {w:Worker} (h:WSmall w):WMid w:=⟨by have:=h.len; omega,fun s hs=>by have:=h.size s hs; omega,by have:=h.text; omega,h.lease⟩
theorem ex_WSpoil (l:List Int) (pos:Int) (w:Worker) (hw:WSmall w) (hl:u8ok l) (h0:0 ≤ pos) (h1:pos ≤ 1000000):∃ res outs,(∃ (v:Worker) (pos2:Int),res = workerO v ∧ outs = [rdC l pos2,[]] ∧ WMid v ∧ pos ≤ pos2 ∧ pos2 ≤ pos + 20) ∧ F n_spec_l3Spoil [.ptr (rdC l pos),.val (workerO w)] res outs:=by
 obtain ⟨m1,m2,m3,m4⟩:=wmid_of hw
 have hc:=hw.cost
 have hln:=hw.len
 have htx:=hw.text
 have p0:=pick_rng l pos 9
 have p11:=pick_rng l (pos + 1) 11
 have p5:=pick_rng l (pos + 1) 5
 have p3:=pick_rng l (pos + 1) 3
 have p2:=pick_rng l (pos + 1 + 1) 2
 obtain ⟨xe,hxe1,hxe2⟩:=pick_int [0,300,301] (pickV l (pos + 1) 3) p3.1 (by show _ < (3:Int); omega)
 have hxe3:([[T.i 0],[T.i 300],[T.i 301]]:List (List T))[(pickV l (pos + 1) 3).toNat]? = some [T.i xe]:=hxe2
 obtain ⟨xl,hxl1,hxl2⟩:=pick_int [0,w.cost,w.cost + 1] (pickV l (pos + 1) 3) p3.1 (by show _ < (3:Int); omega)
 have hxl3:([[T.i 0],[T.i w.cost],[T.i (w.cost + 1)]]:List (List T))[(pickV l (pos + 1) 3).toNat]? = some [T.i xl]:=hxl2
 obtain ⟨xt,hxt1,hxt2⟩:=pick_int [-1,39,40] (pickV l (pos + 1) 3) p3.1 (by show _ < (3:Int); omega)
 have hxt3:([[T.i (-1)],[T.i 39],[T.i 40]]:List (List T))[(pickV l (pos + 1) 3).toNat]? = some [T.i xt]:=hxt2
 obtain ⟨xi,hxi1,hxi2⟩:=pick_int [-1,1000000,1000001] (pickV l (pos + 1) 3) p3.1 (by show _ < (3:Int); omega)
 have hxi3:([[T.i (-1)],[T.i 1000000],[T.i 1000001]]:List (List T))[(pickV l (pos + 1) 3).toNat]? = some [T.i xi]:=hxi2
 obtain ⟨xs,hxs1,hxs2⟩:=pick_str [⟨#[120]⟩,sumT (decS (pickV l (pos + 1) 50))] (pickV l (pos + 1 + 1) 2) p2.1 (by show _ < (2:Int); omega)
 have hxs3:([[T.s ⟨#[120]⟩],[T.s (sumT (decS (pickV l (pos + 1) 50)))]]:List (List T))[(pickV l (pos + 1 + 1) 2).toNat]? = some [T.s xs]:=hxs2
 have hxs:xs.size ≤ 100:=by
  have e1:(⟨#[120]⟩:ByteArray).size = 1:=rfl
  have e3:=sumT_size (decS (pickV l (pos + 1) 50))
  simp only [List.mem_cons,List.not_mem_nil,or_false] at hxs1
  rcases hxs1 with rfl | rfl <;> omega
 have e1:(⟨#[120]⟩:ByteArray).size = 1:=rfl
 have cb:=c_spec_l1Bytes l (pos + 1) hl (by omega) (by omega)
 by_cases k0:pickV l pos 9 = 0
 ·refine x_spec_l3Spoil ?_
  conv=>whnf
  refine g 0 0 [] ?_
  conv=>whnf
  refine ⟨⟨⟨I,I,I,I,I,I,I,I,I,I,I,I⟩,I,I⟩,?_⟩
  refine W.sq ?_
  refine g 5 6 [.call (V.i (pickV l pos (9:Int))) ([rdC l (pos + (1:Int)),[]])] ?_
  conv=>whnf
  refine ⟨⟨I,⟨⟨I,I,I⟩,I,⟨I,⟨I,I⟩,I⟩,⟨I,I⟩,Go.K.c_spec_l1Rd_pick _ _ _ (by omega) (by omega) (by omega) (by omega)⟩,I⟩,?_⟩
  refine W.blk ?_
  refine g 22 23 [] ?_
  conv=>whnf
  refine ⟨⟨I,I,I⟩,?_⟩
  refine W.cn ?_
  conv=>whnf
  refine ⟨fun _=>?_,noF (dT (by omega))⟩
  refine rg [.call (V.i (pickV l (pos + (1:Int)) (11:Int))) ([rdC l (pos + (1:Int) + (1:Int)),[]]),.i (pickV l (pos + (1:Int)) (11:Int) - (1:Int))] ?_
  conv=>whnf
  refine ⟨⟨I,⟨⟨I,I,I⟩,I,⟨I,⟨I,I⟩,I⟩,⟨I,I⟩,Go.K.c_spec_l1Rd_pick _ _ _ (by omega) (by omega) (by omega) (by omega)⟩,w64 (by omega) (by omega),I,⟨I,I⟩,I⟩,?_⟩
  refine g 6 83 [] ?_
  conv=>whnf
  refine ⟨⟨I,⟨I,I,I,I,I,I,I,I,I,I,I,I⟩,I⟩,?_⟩
  refine W.ret ?_
  refine EndsW.rt ?_
  conv=>whnf
  refine ⟨⟨I,I,I,I,I,I,I,I,I,I,I,I,I⟩,?_⟩
  exact ⟨⟨pickV l (pos + 1) 11 - 1,w.epoch,w.up,w.state,w.lease,w.task,w.cost,w.left,w.inputs,w.text,w.since⟩,_,rfl,rfl,⟨m1,m2,m3,m4⟩,by omega,by omega⟩
 by_cases k1:pickV l pos 9 = 1
 ·refine x_spec_l3Spoil ?_
  conv=>whnf
  refine g 0 0 [] ?_
  conv=>whnf
  refine ⟨⟨⟨I,I,I,I,I,I,I,I,I,I,I,I⟩,I,I⟩,?_⟩
  refine W.sq ?_
  refine g 5 6 [.call (V.i (pickV l pos (9:Int))) ([rdC l (pos + (1:Int)),[]])] ?_
  conv=>whnf
  refine ⟨⟨I,⟨⟨I,I,I⟩,I,⟨I,⟨I,I⟩,I⟩,⟨I,I⟩,Go.K.c_spec_l1Rd_pick _ _ _ (by omega) (by omega) (by omega) (by omega)⟩,I⟩,?_⟩
  refine W.blk ?_
  refine g 22 23 [] ?_
  conv=>whnf
  refine ⟨⟨I,I,I⟩,?_⟩
  refine W.cn ?_
  conv=>whnf
  refine ⟨noT (dF (by omega)),fun _=>?_⟩
  refine g 21 22 [] ?_
  conv=>whnf
  refine ⟨⟨I,I,I⟩,?_⟩
  refine W.cn ?_
  conv=>whnf
  refine ⟨fun _=>?_,noF (dT (by omega))⟩
  refine rg [.call (V.i (pickV l (pos + (1:Int)) (3:Int))) ([rdC l (pos + (1:Int) + (1:Int)),[]]),.n (Int.toNat (pickV l (pos + (1:Int)) (3:Int))),.x ([T.i xe])] ?_
  conv=>whnf
  refine ⟨⟨⟨⟨I,I⟩,⟨I,I⟩,⟨I,I⟩,I⟩,I,⟨⟨I,I,I⟩,I,⟨I,⟨I,I⟩,I⟩,⟨I,I⟩,Go.K.c_spec_l1Rd_pick _ _ _ (by omega) (by omega) (by omega) (by omega)⟩,⟨(by omega),(by simp only [lens]; omega)⟩,(by assumption),I,⟨I,I⟩,I⟩,?_⟩
  refine g 6 83 [] ?_
  conv=>whnf
  refine ⟨⟨I,⟨I,I,I,I,I,I,I,I,I,I,I,I⟩,I⟩,?_⟩
  refine W.ret ?_
  refine EndsW.rt ?_
  conv=>whnf
  refine ⟨⟨I,I,I,I,I,I,I,I,I,I,I,I,I⟩,?_⟩
  exact ⟨⟨w.number,xe,w.up,w.state,w.lease,w.task,w.cost,w.left,w.inputs,w.text,w.since⟩,_,rfl,rfl,⟨m1,m2,m3,m4⟩,by omega,by omega⟩
 by_cases k2:pickV l pos 9 = 2
 ·refine x_spec_l3Spoil ?_
  conv=>whnf
  refine g 0 0 [] ?_
  conv=>whnf
  refine ⟨⟨⟨I,I,I,I,I,I,I,I,I,I,I,I⟩,I,I⟩,?_⟩
  refine W.sq ?_
  refine g 5 6 [.call (V.i (pickV l pos (9:Int))) ([rdC l (pos + (1:Int)),[]])] ?_
  conv=>whnf
  refine ⟨⟨I,⟨⟨I,I,I⟩,I,⟨I,⟨I,I⟩,I⟩,⟨I,I⟩,Go.K.c_spec_l1Rd_pick _ _ _ (by omega) (by omega) (by omega) (by omega)⟩,I⟩,?_⟩
  refine W.blk ?_
  refine g 22 23 [] ?_
  conv=>whnf
  refine ⟨⟨I,I,I⟩,?_⟩
  refine W.cn ?_
  conv=>whnf
  refine ⟨noT (dF (by omega)),fun _=>?_⟩
  refine g 21 22 [] ?_
  conv=>whnf
  refine ⟨⟨I,I,I⟩,?_⟩
  refine W.cn ?_
  conv=>whnf
  refine ⟨noT (dF (by omega)),fun _=>?_⟩
  refine g 27 29 [] ?_
  conv=>whnf
  refine ⟨⟨I,I,I⟩,?_⟩
  refine W.cn ?_
  conv=>whnf
  refine ⟨fun _=>?_,noF (dT (by omega))⟩
  refine rg [] ?_
  conv=>whnf
  refine ⟨⟨I,I,I,I,⟨I,I⟩,I⟩,?_⟩
  refine g 6 83 [] ?_
  conv=>whnf
  refine ⟨⟨I,⟨I,I,I,I,I,I,I,I,I,I,I,I⟩,I⟩,?_⟩
  refine W.ret ?_
  refine EndsW.rt ?_
  conv=>whnf
  refine ⟨⟨I,I,I,I,I,I,I,I,I,I,I,I,I⟩,?_⟩
  exact ⟨⟨w.number,w.epoch,!w.up,w.state,w.lease,w.task,w.cost,w.left,w.inputs,w.text,w.since⟩,_,rfl,rfl,⟨m1,m2,m3,m4⟩,by omega,by omega⟩
 by_cases k3:pickV l pos 9 = 3
 ·refine x_spec_l3Spoil ?_
  conv=>whnf
  refine g 0 0 [] ?_
  conv=>whnf
  refine ⟨⟨⟨I,I,I,I,I,I,I,I,I,I,I,I⟩,I,I⟩,?_⟩
  refine W.sq ?_
  refine g 5 6 [.call (V.i (pickV l pos (9:Int))) ([rdC l (pos + (1:Int)),[]])] ?_
  conv=>whnf
  refine ⟨⟨I,⟨⟨I,I,I⟩,I,⟨I,⟨I,I⟩,I⟩,⟨I,I⟩,Go.K.c_spec_l1Rd_pick _ _ _ (by omega) (by omega) (by omega) (by omega)⟩,I⟩,?_⟩
  refine W.blk ?_
  refine g 22 23 [] ?_
  conv=>whnf
  refine ⟨⟨I,I,I⟩,?_⟩
  refine W.cn ?_
  conv=>whnf
  refine ⟨noT (dF (by omega)),fun _=>?_⟩
  refine g 21 22 [] ?_
  conv=>whnf
  refine ⟨⟨I,I,I⟩,?_⟩
  refine W.cn ?_
  conv=>whnf
  refine ⟨noT (dF (by omega)),fun _=>?_⟩
  refine g 27 29 [] ?_
  conv=>whnf
  refine ⟨⟨I,I,I⟩,?_⟩
  refine W.cn ?_
  conv=>whnf
  refine ⟨noT (dF (by omega)),fun _=>?_⟩
  refine g 35 37 [] ?_
  conv=>whnf
  refine ⟨⟨I,I,I⟩,?_⟩
  refine W.cn ?_
  conv=>whnf
  refine ⟨fun _=>?_,noF (dT (by omega))⟩
  refine rg [.call (V.i (pickV l (pos + (1:Int)) (5:Int))) ([rdC l (pos + (1:Int) + (1:Int)),[]]),.i (pickV l (pos + (1:Int)) (5:Int) - (1:Int))] ?_
  conv=>whnf
  refine ⟨⟨I,⟨⟨I,I,I⟩,I,⟨I,⟨I,I⟩,I⟩,⟨I,I⟩,Go.K.c_spec_l1Rd_pick _ _ _ (by omega) (by omega) (by omega) (by omega)⟩,w64 (by omega) (by omega),I,⟨I,I⟩,I⟩,?_⟩
  refine g 6 83 [] ?_
  conv=>whnf
  refine ⟨⟨I,⟨I,I,I,I,I,I,I,I,I,I,I,I⟩,I⟩,?_⟩
  refine W.ret ?_
  refine EndsW.rt ?_
  conv=>whnf
  refine ⟨⟨I,I,I,I,I,I,I,I,I,I,I,I,I⟩,?_⟩
  exact ⟨⟨w.number,w.epoch,w.up,pickV l (pos + 1) 5 - 1,w.lease,w.task,w.cost,w.left,w.inputs,w.text,w.since⟩,_,rfl,rfl,⟨m1,m2,m3,m4⟩,by omega,by omega⟩
 by_cases k4:pickV l pos 9 = 4
 ·refine x_spec_l3Spoil ?_
  conv=>whnf
  refine g 0 0 [] ?_
  conv=>whnf
  refine ⟨⟨⟨I,I,I,I,I,I,I,I,I,I,I,I⟩,I,I⟩,?_⟩
  refine W.sq ?_
  refine g 5 6 [.call (V.i (pickV l pos (9:Int))) ([rdC l (pos + (1:Int)),[]])] ?_
  conv=>whnf
  refine ⟨⟨I,⟨⟨I,I,I⟩,I,⟨I,⟨I,I⟩,I⟩,⟨I,I⟩,Go.K.c_spec_l1Rd_pick _ _ _ (by omega) (by omega) (by omega) (by omega)⟩,I⟩,?_⟩
  refine W.blk ?_
  refine g 22 23 [] ?_
  conv=>whnf
  refine ⟨⟨I,I,I⟩,?_⟩
  refine W.cn ?_
  conv=>whnf
  refine ⟨noT (dF (by omega)),fun _=>?_⟩
  refine g 21 22 [] ?_
  conv=>whnf
  refine ⟨⟨I,I,I⟩,?_⟩
  refine W.cn ?_
  conv=>whnf
  refine ⟨noT (dF (by omega)),fun _=>?_⟩
  refine g 27 29 [] ?_
  conv=>whnf
  refine ⟨⟨I,I,I⟩,?_⟩
  refine W.cn ?_
  conv=>whnf
  refine ⟨noT (dF (by omega)),fun _=>?_⟩
  refine g 35 37 [] ?_
  conv=>whnf
  refine ⟨⟨I,I,I⟩,?_⟩
  refine W.cn ?_
  conv=>whnf
  refine ⟨noT (dF (by omega)),fun _=>?_⟩
  refine g 41 43 [] ?_
  conv=>whnf
  refine ⟨⟨I,I,I⟩,?_⟩
  refine W.cn ?_
  conv=>whnf
  refine ⟨fun _=>?_,noF (dT (by omega))⟩
  refine rgd [[],[],[],[],[.i (Worker.cost w + (1:Int))],[],[],[.call (V.i (pickV l (pos + (1:Int)) (3:Int))) ([rdC l (pos + (1:Int) + (1:Int)),[]])],[.n (Int.toNat (pickV l (pos + (1:Int)) (3:Int)))],[.x ([T.i xl])],[],[]] ?_
  conv=>whnf
  refine ⟨⟨I,I,I,I,w64 (by omega) (by omega),⟨⟨I,I⟩,⟨I,I⟩,⟨I,I⟩,I⟩,I,⟨⟨I,I,I⟩,I,⟨I,⟨I,I⟩,I⟩,⟨I,I⟩,Go.K.c_spec_l1Rd_pick _ _ _ (by omega) (by omega) (by omega) (by omega)⟩,⟨(by omega),(by simp only [lens]; omega)⟩,(by assumption),I,⟨I,I⟩,I⟩,by kernel_rfl,?_⟩
  refine g 6 83 [] ?_
  conv=>whnf
  refine ⟨⟨I,⟨I,I,I,I,I,I,I,I,I,I,I,I⟩,I⟩,?_⟩
  refine W.ret ?_
  refine EndsW.rt ?_
  conv=>whnf
  refine ⟨⟨I,I,I,I,I,I,I,I,I,I,I,I,I⟩,?_⟩
  exact ⟨⟨w.number,w.epoch,w.up,w.state,w.lease,w.task,w.cost,xl,w.inputs,w.text,w.since⟩,_,rfl,rfl,⟨m1,m2,m3,m4⟩,by omega,by omega⟩
 by_cases k5:pickV l pos 9 = 5
 ·refine x_spec_l3Spoil ?_
  conv=>whnf
  refine g 0 0 [] ?_
  conv=>whnf
  refine ⟨⟨⟨I,I,I,I,I,I,I,I,I,I,I,I⟩,I,I⟩,?_⟩
  refine W.sq ?_
  refine g 5 6 [.call (V.i (pickV l pos (9:Int))) ([rdC l (pos + (1:Int)),[]])] ?_
  conv=>whnf
  refine ⟨⟨I,⟨⟨I,I,I⟩,I,⟨I,⟨I,I⟩,I⟩,⟨I,I⟩,Go.K.c_spec_l1Rd_pick _ _ _ (by omega) (by omega) (by omega) (by omega)⟩,I⟩,?_⟩
  refine W.blk ?_
  refine g 22 23 [] ?_
  conv=>whnf
  refine ⟨⟨I,I,I⟩,?_⟩
  refine W.cn ?_
  conv=>whnf
  refine ⟨noT (dF (by omega)),fun _=>?_⟩
  refine g 21 22 [] ?_
  conv=>whnf
  refine ⟨⟨I,I,I⟩,?_⟩
  refine W.cn ?_
  conv=>whnf
  refine ⟨noT (dF (by omega)),fun _=>?_⟩
  refine g 27 29 [] ?_
  conv=>whnf
  refine ⟨⟨I,I,I⟩,?_⟩
  refine W.cn ?_
  conv=>whnf
  refine ⟨noT (dF (by omega)),fun _=>?_⟩
  refine g 35 37 [] ?_
  conv=>whnf
  refine ⟨⟨I,I,I⟩,?_⟩
  refine W.cn ?_
  conv=>whnf
  refine ⟨noT (dF (by omega)),fun _=>?_⟩
  refine g 41 43 [] ?_
  conv=>whnf
  refine ⟨⟨I,I,I⟩,?_⟩
  refine W.cn ?_
  conv=>whnf
  refine ⟨noT (dF (by omega)),fun _=>?_⟩
  refine g 47 49 [] ?_
  conv=>whnf
  refine ⟨⟨I,I,I⟩,?_⟩
  refine W.cn ?_
  conv=>whnf
  refine ⟨fun _=>?_,noF (dT (by omega))⟩
  refine rg [.call (V.i (pickV l (pos + (1:Int)) (3:Int))) ([rdC l (pos + (1:Int) + (1:Int)),[]]),.n (Int.toNat (pickV l (pos + (1:Int)) (3:Int))),.x ([T.i xt])] ?_
  conv=>whnf
  refine ⟨⟨⟨⟨I,I⟩,⟨I,I⟩,⟨I,I⟩,I⟩,I,⟨⟨I,I,I⟩,I,⟨I,⟨I,I⟩,I⟩,⟨I,I⟩,Go.K.c_spec_l1Rd_pick _ _ _ (by omega) (by omega) (by omega) (by omega)⟩,⟨(by omega),(by simp only [lens]; omega)⟩,(by assumption),I,⟨I,I⟩,I⟩,?_⟩
  refine g 6 83 [] ?_
  conv=>whnf
  refine ⟨⟨I,⟨I,I,I,I,I,I,I,I,I,I,I,I⟩,I⟩,?_⟩
  refine W.ret ?_
  refine EndsW.rt ?_
  conv=>whnf
  refine ⟨⟨I,I,I,I,I,I,I,I,I,I,I,I,I⟩,?_⟩
  exact ⟨⟨w.number,w.epoch,w.up,w.state,w.lease,xt,w.cost,w.left,w.inputs,w.text,w.since⟩,_,rfl,rfl,⟨m1,m2,m3,m4⟩,by omega,by omega⟩
 by_cases k6:pickV l pos 9 = 6
 ·refine x_spec_l3Spoil ?_
  conv=>whnf
  refine g 0 0 [] ?_
  conv=>whnf
  refine ⟨⟨⟨I,I,I,I,I,I,I,I,I,I,I,I⟩,I,I⟩,?_⟩
  refine W.sq ?_
  refine g 5 6 [.call (V.i (pickV l pos (9:Int))) ([rdC l (pos + (1:Int)),[]])] ?_
  conv=>whnf
  refine ⟨⟨I,⟨⟨I,I,I⟩,I,⟨I,⟨I,I⟩,I⟩,⟨I,I⟩,Go.K.c_spec_l1Rd_pick _ _ _ (by omega) (by omega) (by omega) (by omega)⟩,I⟩,?_⟩
  refine W.blk ?_
  refine g 22 23 [] ?_
  conv=>whnf
  refine ⟨⟨I,I,I⟩,?_⟩
  refine W.cn ?_
  conv=>whnf
  refine ⟨noT (dF (by omega)),fun _=>?_⟩
  refine g 21 22 [] ?_
  conv=>whnf
  refine ⟨⟨I,I,I⟩,?_⟩
  refine W.cn ?_
  conv=>whnf
  refine ⟨noT (dF (by omega)),fun _=>?_⟩
  refine g 27 29 [] ?_
  conv=>whnf
  refine ⟨⟨I,I,I⟩,?_⟩
  refine W.cn ?_
  conv=>whnf
  refine ⟨noT (dF (by omega)),fun _=>?_⟩
  refine g 35 37 [] ?_
  conv=>whnf
  refine ⟨⟨I,I,I⟩,?_⟩
  refine W.cn ?_
  conv=>whnf
  refine ⟨noT (dF (by omega)),fun _=>?_⟩
  refine g 41 43 [] ?_
  conv=>whnf
  refine ⟨⟨I,I,I⟩,?_⟩
  refine W.cn ?_
  conv=>whnf
  refine ⟨noT (dF (by omega)),fun _=>?_⟩
  refine g 47 49 [] ?_
  conv=>whnf
  refine ⟨⟨I,I,I⟩,?_⟩
  refine W.cn ?_
  conv=>whnf
  refine ⟨noT (dF (by omega)),fun _=>?_⟩
  refine g 60 62 [] ?_
  conv=>whnf
  refine ⟨⟨I,I,I⟩,?_⟩
  refine W.cn ?_
  conv=>whnf
  refine ⟨fun _=>?_,noF (dT (by omega))⟩
  refine rg [.call (V.i (pickV l (pos + (1:Int)) (3:Int))) ([rdC l (pos + (1:Int) + (1:Int)),[]]),.n (Int.toNat (pickV l (pos + (1:Int)) (3:Int))),.x ([T.i xi])] ?_
  conv=>whnf
  refine ⟨⟨⟨⟨I,I⟩,⟨I,I⟩,⟨I,I⟩,I⟩,I,⟨⟨I,I,I⟩,I,⟨I,⟨I,I⟩,I⟩,⟨I,I⟩,Go.K.c_spec_l1Rd_pick _ _ _ (by omega) (by omega) (by omega) (by omega)⟩,⟨(by omega),(by simp only [lens]; omega)⟩,(by assumption),I,⟨I,I⟩,I⟩,?_⟩
  refine g 6 83 [] ?_
  conv=>whnf
  refine ⟨⟨I,⟨I,I,I,I,I,I,I,I,I,I,I,I⟩,I⟩,?_⟩
  refine W.ret ?_
  refine EndsW.rt ?_
  conv=>whnf
  refine ⟨⟨I,I,I,I,I,I,I,I,I,I,I,I,I⟩,?_⟩
  exact ⟨⟨w.number,w.epoch,w.up,w.state,w.lease,w.task,w.cost,w.left,w.inputs,w.text,xi⟩,_,rfl,rfl,⟨m1,m2,m3,m4⟩,by omega,by omega⟩
 by_cases k7:pickV l pos 9 = 7
 ·refine x_spec_l3Spoil ?_
  conv=>whnf
  refine g 0 0 [] ?_
  conv=>whnf
  refine ⟨⟨⟨I,I,I,I,I,I,I,I,I,I,I,I⟩,I,I⟩,?_⟩
  refine W.sq ?_
  refine g 5 6 [.call (V.i (pickV l pos (9:Int))) ([rdC l (pos + (1:Int)),[]])] ?_
  conv=>whnf
  refine ⟨⟨I,⟨⟨I,I,I⟩,I,⟨I,⟨I,I⟩,I⟩,⟨I,I⟩,Go.K.c_spec_l1Rd_pick _ _ _ (by omega) (by omega) (by omega) (by omega)⟩,I⟩,?_⟩
  refine W.blk ?_
  refine g 22 23 [] ?_
  conv=>whnf
  refine ⟨⟨I,I,I⟩,?_⟩
  refine W.cn ?_
  conv=>whnf
  refine ⟨noT (dF (by omega)),fun _=>?_⟩
  refine g 21 22 [] ?_
  conv=>whnf
  refine ⟨⟨I,I,I⟩,?_⟩
  refine W.cn ?_
  conv=>whnf
  refine ⟨noT (dF (by omega)),fun _=>?_⟩
  refine g 27 29 [] ?_
  conv=>whnf
  refine ⟨⟨I,I,I⟩,?_⟩
  refine W.cn ?_
  conv=>whnf
  refine ⟨noT (dF (by omega)),fun _=>?_⟩
  refine g 35 37 [] ?_
  conv=>whnf
  refine ⟨⟨I,I,I⟩,?_⟩
  refine W.cn ?_
  conv=>whnf
  refine ⟨noT (dF (by omega)),fun _=>?_⟩
  refine g 41 43 [] ?_
  conv=>whnf
  refine ⟨⟨I,I,I⟩,?_⟩
  refine W.cn ?_
  conv=>whnf
  refine ⟨noT (dF (by omega)),fun _=>?_⟩
  refine g 47 49 [] ?_
  conv=>whnf
  refine ⟨⟨I,I,I⟩,?_⟩
  refine W.cn ?_
  conv=>whnf
  refine ⟨noT (dF (by omega)),fun _=>?_⟩
  refine g 60 62 [] ?_
  conv=>whnf
  refine ⟨⟨I,I,I⟩,?_⟩
  refine W.cn ?_
  conv=>whnf
  refine ⟨noT (dF (by omega)),fun _=>?_⟩
  refine g 6 70 [] ?_
  conv=>whnf
  refine ⟨⟨I,I,I⟩,?_⟩
  refine W.cn ?_
  conv=>whnf
  refine ⟨fun _=>?_,noF (dT (by omega))⟩
  refine rg [.s (Worker.text w ++ { data:=#[(120:UInt8)]:ByteArray })] ?_
  conv=>whnf
  refine ⟨⟨I,I,⟨rfl,(by omega)⟩,I,⟨I,I⟩,I⟩,?_⟩
  refine g 76 83 [] ?_
  conv=>whnf
  refine ⟨⟨I,⟨I,I,I,I,I,I,I,I,I,I,I,I⟩,I⟩,?_⟩
  refine W.ret ?_
  refine EndsW.rt ?_
  conv=>whnf
  refine ⟨⟨I,I,I,I,I,I,I,I,I,I,I,I,I⟩,?_⟩
  exact ⟨⟨w.number,w.epoch,w.up,w.state,w.lease,w.task,w.cost,w.left,w.inputs,w.text ++ ⟨#[120]⟩,w.since⟩,_,rfl,rfl,⟨m1,m2,by dsimp only; rw [ByteArray.size_append]; omega,m4⟩,by omega,by omega⟩
 ·refine x_spec_l3Spoil ?_
  conv=>whnf
  refine g 0 0 [] ?_
  conv=>whnf
  refine ⟨⟨⟨I,I,I,I,I,I,I,I,I,I,I,I⟩,I,I⟩,?_⟩
  refine W.sq ?_
  refine g 5 6 [.call (V.i (pickV l pos (9:Int))) ([rdC l (pos + (1:Int)),[]])] ?_
  conv=>whnf
  refine ⟨⟨I,⟨⟨I,I,I⟩,I,⟨I,⟨I,I⟩,I⟩,⟨I,I⟩,Go.K.c_spec_l1Rd_pick _ _ _ (by omega) (by omega) (by omega) (by omega)⟩,I⟩,?_⟩
  refine W.blk ?_
  refine g 22 23 [] ?_
  conv=>whnf
  refine ⟨⟨I,I,I⟩,?_⟩
  refine W.cn ?_
  conv=>whnf
  refine ⟨noT (dF (by omega)),fun _=>?_⟩
  refine g 21 22 [] ?_
  conv=>whnf
  refine ⟨⟨I,I,I⟩,?_⟩
  refine W.cn ?_
  conv=>whnf
  refine ⟨noT (dF (by omega)),fun _=>?_⟩
  refine g 27 29 [] ?_
  conv=>whnf
  refine ⟨⟨I,I,I⟩,?_⟩
  refine W.cn ?_
  conv=>whnf
  refine ⟨noT (dF (by omega)),fun _=>?_⟩
  refine g 35 37 [] ?_
  conv=>whnf
  refine ⟨⟨I,I,I⟩,?_⟩
  refine W.cn ?_
  conv=>whnf
  refine ⟨noT (dF (by omega)),fun _=>?_⟩
  refine g 41 43 [] ?_
  conv=>whnf
  refine ⟨⟨I,I,I⟩,?_⟩
  refine W.cn ?_
  conv=>whnf
  refine ⟨noT (dF (by omega)),fun _=>?_⟩
  refine g 47 49 [] ?_
  conv=>whnf
  refine ⟨⟨I,I,I⟩,?_⟩
  refine W.cn ?_
  conv=>whnf
  refine ⟨noT (dF (by omega)),fun _=>?_⟩
  refine g 60 62 [] ?_
  conv=>whnf
  refine ⟨⟨I,I,I⟩,?_⟩
  refine W.cn ?_
  conv=>whnf
  refine ⟨noT (dF (by omega)),fun _=>?_⟩
  refine g 6 70 [] ?_
  conv=>whnf
  refine ⟨⟨I,I,I⟩,?_⟩
  refine W.cn ?_
  conv=>whnf
  refine ⟨noT (dF (by omega)),fun _=>?_⟩
  refine rg [.call (V.s (sumT (decS (pickV l (pos + (1:Int)) (50:Int))))) ([rdC l (pos + (1:Int) + (1:Int))]),.call (V.i (pickV l (pos + (1:Int) + (1:Int)) (2:Int))) ([rdC l (pos + (1:Int) + (1:Int) + (1:Int)),[]]),.n (Int.toNat (pickV l (pos + (1:Int) + (1:Int)) (2:Int))),.x ([T.s xs])] ?_
  conv=>whnf
  refine ⟨⟨I,I,I,⟨I,I,(by simp only [lens]; omega)⟩,I,⟨⟨I,I⟩,I,⟨I,I⟩,⟨I,I⟩,(by assumption)⟩,⟨⟨I,I⟩,⟨I,I⟩,I⟩,I,⟨⟨I,I,I⟩,I,⟨I,⟨I,I⟩,I⟩,⟨I,I⟩,Go.K.c_spec_l1Rd_pick _ _ _ (by omega) (by omega) (by omega) (by omega)⟩,⟨(by omega),(by simp only [lens]; omega)⟩,(by assumption),⟨⟨I,I⟩,I⟩,⟨I,I,(by simp only [lens]; omega)⟩,I,⟨I,I⟩,I⟩,?_⟩
  refine g 7 83 [] ?_
  conv=>whnf
  refine ⟨⟨I,⟨I,I,I,I,I,I,I,I,I,I,I,I⟩,I⟩,?_⟩
  refine W.ret ?_
  refine EndsW.rt ?_
  conv=>whnf
  refine ⟨⟨I,I,I,I,I,I,I,I,I,I,I,I,I⟩,?_⟩
  exact ⟨⟨w.number,w.epoch,w.up,w.state,w.lease,w.task,w.cost,w.left,w.inputs ++ [xs],w.text,w.since⟩,_,(by simp only [workerO,List.map_append,List.nil_append]; rfl),rfl,⟨by dsimp only; rw [len_snoc]; omega,all_snoc m2 hxs,m3,m4⟩,by omega,by omega⟩
theorem ex_WSpoil' (l:List Int) (pos:Int) (w:Worker) (h:WSmall w ∧ u8ok l ∧ 0 ≤ pos ∧ pos ≤ 1000000):∃ x:Worker × Int,F n_spec_l3Spoil [.ptr (rdC l pos),.val (workerO w)] (workerO x.1) [rdC l x.2,[]] ∧ WMid x.1 ∧ pos ≤ x.2 ∧ x.2 ≤ pos + 20:=by
 obtain ⟨res,outs,⟨v,pos2,rfl,rfl,h1,h2,h3⟩,hF⟩:=ex_WSpoil l pos w h.1 h.2.1 h.2.2.1 h.2.2.2
 exact ⟨(v,pos2),hF,h1,h2,h3⟩
open Classical in
noncomputable def wspoilP (l:List Int) (pos:Int) (w:Worker):Worker × Int:=if h:WSmall w ∧ u8ok l ∧ 0 ≤ pos ∧ pos ≤ 1000000 then (ex_WSpoil' l pos w h).choose else (noWorker,pos)
theorem c_spec_l3Spoil (l:List Int) (pos:Int) (w:Worker) (hw:WSmall w) (hl:u8ok l) (h0:0 ≤ pos) (h1:pos ≤ 1000000):F n_spec_l3Spoil [.ptr (rdC l pos),.val (workerO w)] (workerO (wspoilP l pos w).1) [rdC l (wspoilP l pos w).2,[]]:=by
 have h:WSmall w ∧ u8ok l ∧ 0 ≤ pos ∧ pos ≤ 1000000:=⟨hw,hl,h0,h1⟩
 rw [wspoilP,dif_pos h]
 exact (ex_WSpoil' l pos w h).choose_spec.1
theorem wspoil_ok (l:List Int) (pos:Int) (w:Worker):WMid (wspoilP l pos w).1 ∧ pos ≤ (wspoilP l pos w).2 ∧ (wspoilP l pos w).2 ≤ pos + 20:=by
 unfold wspoilP
 split
 ·rename_i h; exact (ex_WSpoil' l pos w h).choose_spec.2
 ·exact ⟨wmid_of wsmall_no,Int.le_refl _,by dsimp only; omega⟩
theorem ex_Any (l:List Int) (hl:u8ok l):∃ res outs,(∃ (w:Worker) (p:Plan) (pos2:Int),res = .tup [workerO w,planO p] ∧ outs = [rdC l pos2] ∧ WMid w ∧ planMid p) ∧ F n_spec_l3Any [.ptr (rdC l 0)] res outs:=by
 have cd:=c_spec_l1Draw l 0 hl (by omega) (by omega)
 obtain ⟨d1,d2,d3,d4⟩:=draw_ok l 0
 generalize (drawP l 0).1 = p at cd d1 d2
 generalize (drawP l 0).2 = q at cd d3 d4
 have cw:=c_spec_l3Draw l q p d1 d2 hl d3 (by omega)
 obtain ⟨e1,e2,e3,e4⟩:=wdraw_ok l q p
 generalize (wdrawP l q p).1 = w at cw e1 e2
 generalize (wdrawP l q p).2 = r at cw e3 e4
 have p6:=pick_rng l r 6
 obtain ⟨s1,s2,s3⟩:=wspoil_ok l (r + 1) w
 have hm:=small_mid d1
 have hw:=wmid_of e1
 by_cases g6:pickV l r 6 = 0
 ·have p24:=pick_rng l (wspoilP l (r + 1) w).2 24
  obtain ⟨t1,t2,t3⟩:=spoil_ok l ((wspoilP l (r + 1) w).2 + 1) p
  by_cases g24:pickV l (wspoilP l (r + 1) w).2 24 = 0
  ·refine x_spec_l3Any ?_
   conv=>whnf
   refine g 0 0 [] ?_
   conv=>whnf
   refine ⟨⟨I,I,I⟩,?_⟩
   refine g 6 8 [.call (planO p) ([rdC l q])] ?_
   conv=>whnf
   refine ⟨⟨I,⟨⟨I,I⟩,I,⟨I,I⟩,⟨I,I⟩,(by assumption)⟩,I,⟨I,I⟩,I⟩,?_⟩
   refine g 8 11 [.call (workerO w) ([rdC l r,[V.own taskK (List.map taskT (Plan.tasks p))]])] ?_
   conv=>whnf
   refine ⟨⟨I,I,⟨⟨I,⟨I,I⟩,I⟩,I,⟨I,I,I⟩,⟨I,I⟩,(by assumption)⟩,I,⟨I,I,I,I,I,I,I,I,I,I,I,I⟩,I⟩,?_⟩
   refine W.sq ?_
   refine g 11 13 [.call (V.i (pickV l r (6:Int))) ([rdC l (r + (1:Int)),[]])] ?_
   conv=>whnf
   refine ⟨⟨I,⟨⟨I,I,I⟩,I,⟨I,⟨I,I⟩,I⟩,⟨I,I⟩,Go.K.c_spec_l1Rd_pick _ _ _ (by omega) (by omega) (by omega) (by omega)⟩,I,I⟩,?_⟩
   refine W.cn ?_
   conv=>whnf
   refine ⟨fun _=>?_,noF (dT (by omega))⟩
   refine rg [.call (workerO (Prod.fst (wspoilP l (r + (1:Int)) w))) ([rdC l (Prod.snd (wspoilP l (r + (1:Int)) w)),[]])] ?_
   conv=>whnf
   refine ⟨⟨I,I,⟨⟨I,⟨I,I,I,I,I,I,I,I,I,I,I,I⟩,I⟩,I,⟨I,I,I⟩,⟨I,I⟩,Go.K.c_spec_l3Spoil _ _ _ (by omega) (by omega) (by omega) (by omega)⟩,⟨I,I,I,I,I,I,I,I,I,I,I,I⟩,I⟩,?_⟩
   refine W.sq ?_
   refine g 13 19 [.call (V.i (pickV l (Prod.snd (wspoilP l (r + (1:Int)) w)) (24:Int))) ([rdC l (Prod.snd (wspoilP l (r + (1:Int)) w) + (1:Int)),[]])] ?_
   conv=>whnf
   refine ⟨⟨I,⟨⟨I,I,I⟩,I,⟨I,⟨I,I⟩,I⟩,⟨I,I⟩,Go.K.c_spec_l1Rd_pick _ _ _ (by omega) (by omega) (by omega) (by omega)⟩,I,I⟩,?_⟩
   refine W.cn ?_
   conv=>whnf
   refine ⟨fun _=>?_,noF (dT (by omega))⟩
   refine rg [.call (planO (Prod.fst (spoilP l (Prod.snd (wspoilP l (r + (1:Int)) w) + (1:Int)) p))) ([rdC l (Prod.snd (spoilP l (Prod.snd (wspoilP l (r + (1:Int)) w) + (1:Int)) p)),[]])] ?_
   conv=>whnf
   refine ⟨⟨I,I,⟨⟨I,⟨I,I⟩,I⟩,I,⟨I,I,I⟩,⟨I,I⟩,Go.K.c_spec_l1Spoil _ _ _ (by omega) (by omega) (by omega) (by omega)⟩,⟨I,I⟩,I⟩,?_⟩
   refine gd 4 25 [[],[],[],[]] ?_
   conv=>whnf
   refine ⟨⟨I,I,⟨I,I,I,I,I,I,I,I,I,I,I,I⟩,⟨I,I⟩,I⟩,by kernel_rfl,?_⟩
   refine W.ret ?_
   refine EndsW.rt ?_
   conv=>whnf
   refine ⟨⟨I,⟨I,I,I,I,I,I,I,I,I,I,I,I⟩,I,⟨I,I⟩,I⟩,?_⟩
   exact ⟨(wspoilP l (r + 1) w).1,(spoilP l ((wspoilP l (r + 1) w).2 + 1) p).1,_,rfl,rfl,s1,t1⟩
  ·refine x_spec_l3Any ?_
   conv=>whnf
   refine g 0 0 [] ?_
   conv=>whnf
   refine ⟨⟨I,I,I⟩,?_⟩
   refine g 6 8 [.call (planO p) ([rdC l q])] ?_
   conv=>whnf
   refine ⟨⟨I,⟨⟨I,I⟩,I,⟨I,I⟩,⟨I,I⟩,(by assumption)⟩,I,⟨I,I⟩,I⟩,?_⟩
   refine g 8 11 [.call (workerO w) ([rdC l r,[V.own taskK (List.map taskT (Plan.tasks p))]])] ?_
   conv=>whnf
   refine ⟨⟨I,I,⟨⟨I,⟨I,I⟩,I⟩,I,⟨I,I,I⟩,⟨I,I⟩,(by assumption)⟩,I,⟨I,I,I,I,I,I,I,I,I,I,I,I⟩,I⟩,?_⟩
   refine W.sq ?_
   refine g 11 13 [.call (V.i (pickV l r (6:Int))) ([rdC l (r + (1:Int)),[]])] ?_
   conv=>whnf
   refine ⟨⟨I,⟨⟨I,I,I⟩,I,⟨I,⟨I,I⟩,I⟩,⟨I,I⟩,Go.K.c_spec_l1Rd_pick _ _ _ (by omega) (by omega) (by omega) (by omega)⟩,I,I⟩,?_⟩
   refine W.cn ?_
   conv=>whnf
   refine ⟨fun _=>?_,noF (dT (by omega))⟩
   refine rg [.call (workerO (Prod.fst (wspoilP l (r + (1:Int)) w))) ([rdC l (Prod.snd (wspoilP l (r + (1:Int)) w)),[]])] ?_
   conv=>whnf
   refine ⟨⟨I,I,⟨⟨I,⟨I,I,I,I,I,I,I,I,I,I,I,I⟩,I⟩,I,⟨I,I,I⟩,⟨I,I⟩,Go.K.c_spec_l3Spoil _ _ _ (by omega) (by omega) (by omega) (by omega)⟩,⟨I,I,I,I,I,I,I,I,I,I,I,I⟩,I⟩,?_⟩
   refine W.sq ?_
   refine g 13 19 [.call (V.i (pickV l (Prod.snd (wspoilP l (r + (1:Int)) w)) (24:Int))) ([rdC l (Prod.snd (wspoilP l (r + (1:Int)) w) + (1:Int)),[]])] ?_
   conv=>whnf
   refine ⟨⟨I,⟨⟨I,I,I⟩,I,⟨I,⟨I,I⟩,I⟩,⟨I,I⟩,Go.K.c_spec_l1Rd_pick _ _ _ (by omega) (by omega) (by omega) (by omega)⟩,I,I⟩,?_⟩
   refine W.cn ?_
   conv=>whnf
   refine ⟨noT (dF (by omega)),fun _=>?_⟩
   refine W.skip ?_
   refine gd 4 25 [[],[],[],[]] ?_
   conv=>whnf
   refine ⟨⟨I,I,⟨I,I,I,I,I,I,I,I,I,I,I,I⟩,⟨I,I⟩,I⟩,by kernel_rfl,?_⟩
   refine W.ret ?_
   refine EndsW.rt ?_
   conv=>whnf
   refine ⟨⟨I,⟨I,I,I,I,I,I,I,I,I,I,I,I⟩,I,⟨I,I⟩,I⟩,?_⟩
   exact ⟨(wspoilP l (r + 1) w).1,p,_,rfl,rfl,s1,hm⟩
 ·have p24:=pick_rng l (r + 1) 24
  obtain ⟨t1,t2,t3⟩:=spoil_ok l (r + 1 + 1) p
  by_cases g24:pickV l (r + 1) 24 = 0
  ·refine x_spec_l3Any ?_
   conv=>whnf
   refine g 0 0 [] ?_
   conv=>whnf
   refine ⟨⟨I,I,I⟩,?_⟩
   refine g 6 8 [.call (planO p) ([rdC l q])] ?_
   conv=>whnf
   refine ⟨⟨I,⟨⟨I,I⟩,I,⟨I,I⟩,⟨I,I⟩,(by assumption)⟩,I,⟨I,I⟩,I⟩,?_⟩
   refine g 8 11 [.call (workerO w) ([rdC l r,[V.own taskK (List.map taskT (Plan.tasks p))]])] ?_
   conv=>whnf
   refine ⟨⟨I,I,⟨⟨I,⟨I,I⟩,I⟩,I,⟨I,I,I⟩,⟨I,I⟩,(by assumption)⟩,I,⟨I,I,I,I,I,I,I,I,I,I,I,I⟩,I⟩,?_⟩
   refine W.sq ?_
   refine g 11 13 [.call (V.i (pickV l r (6:Int))) ([rdC l (r + (1:Int)),[]])] ?_
   conv=>whnf
   refine ⟨⟨I,⟨⟨I,I,I⟩,I,⟨I,⟨I,I⟩,I⟩,⟨I,I⟩,Go.K.c_spec_l1Rd_pick _ _ _ (by omega) (by omega) (by omega) (by omega)⟩,I,I⟩,?_⟩
   refine W.cn ?_
   conv=>whnf
   refine ⟨noT (dF (by omega)),fun _=>?_⟩
   refine W.skip ?_
   refine W.sq ?_
   refine g 13 19 [.call (V.i (pickV l (r + (1:Int)) (24:Int))) ([rdC l (r + (1:Int) + (1:Int)),[]])] ?_
   conv=>whnf
   refine ⟨⟨I,⟨⟨I,I,I⟩,I,⟨I,⟨I,I⟩,I⟩,⟨I,I⟩,Go.K.c_spec_l1Rd_pick _ _ _ (by omega) (by omega) (by omega) (by omega)⟩,I,I⟩,?_⟩
   refine W.cn ?_
   conv=>whnf
   refine ⟨fun _=>?_,noF (dT (by omega))⟩
   refine rg [.call (planO (Prod.fst (spoilP l (r + (1:Int) + (1:Int)) p))) ([rdC l (Prod.snd (spoilP l (r + (1:Int) + (1:Int)) p)),[]])] ?_
   conv=>whnf
   refine ⟨⟨I,I,⟨⟨I,⟨I,I⟩,I⟩,I,⟨I,I,I⟩,⟨I,I⟩,Go.K.c_spec_l1Spoil _ _ _ (by omega) (by omega) (by omega) (by omega)⟩,⟨I,I⟩,I⟩,?_⟩
   refine gd 4 25 [[],[],[],[]] ?_
   conv=>whnf
   refine ⟨⟨I,I,⟨I,I,I,I,I,I,I,I,I,I,I,I⟩,⟨I,I⟩,I⟩,by kernel_rfl,?_⟩
   refine W.ret ?_
   refine EndsW.rt ?_
   conv=>whnf
   refine ⟨⟨I,⟨I,I,I,I,I,I,I,I,I,I,I,I⟩,I,⟨I,I⟩,I⟩,?_⟩
   exact ⟨w,(spoilP l (r + 1 + 1) p).1,_,rfl,rfl,hw,t1⟩
  ·refine x_spec_l3Any ?_
   conv=>whnf
   refine g 0 0 [] ?_
   conv=>whnf
   refine ⟨⟨I,I,I⟩,?_⟩
   refine g 6 8 [.call (planO p) ([rdC l q])] ?_
   conv=>whnf
   refine ⟨⟨I,⟨⟨I,I⟩,I,⟨I,I⟩,⟨I,I⟩,(by assumption)⟩,I,⟨I,I⟩,I⟩,?_⟩
   refine g 8 11 [.call (workerO w) ([rdC l r,[V.own taskK (List.map taskT (Plan.tasks p))]])] ?_
   conv=>whnf
   refine ⟨⟨I,I,⟨⟨I,⟨I,I⟩,I⟩,I,⟨I,I,I⟩,⟨I,I⟩,(by assumption)⟩,I,⟨I,I,I,I,I,I,I,I,I,I,I,I⟩,I⟩,?_⟩
   refine W.sq ?_
   refine g 11 13 [.call (V.i (pickV l r (6:Int))) ([rdC l (r + (1:Int)),[]])] ?_
   conv=>whnf
   refine ⟨⟨I,⟨⟨I,I,I⟩,I,⟨I,⟨I,I⟩,I⟩,⟨I,I⟩,Go.K.c_spec_l1Rd_pick _ _ _ (by omega) (by omega) (by omega) (by omega)⟩,I,I⟩,?_⟩
   refine W.cn ?_
   conv=>whnf
   refine ⟨noT (dF (by omega)),fun _=>?_⟩
   refine W.skip ?_
   refine W.sq ?_
   refine g 13 19 [.call (V.i (pickV l (r + (1:Int)) (24:Int))) ([rdC l (r + (1:Int) + (1:Int)),[]])] ?_
   conv=>whnf
   refine ⟨⟨I,⟨⟨I,I,I⟩,I,⟨I,⟨I,I⟩,I⟩,⟨I,I⟩,Go.K.c_spec_l1Rd_pick _ _ _ (by omega) (by omega) (by omega) (by omega)⟩,I,I⟩,?_⟩
   refine W.cn ?_
   conv=>whnf
   refine ⟨noT (dF (by omega)),fun _=>?_⟩
   refine W.skip ?_
   refine gd 4 25 [[],[],[],[]] ?_
   conv=>whnf
   refine ⟨⟨I,I,⟨I,I,I,I,I,I,I,I,I,I,I,I⟩,⟨I,I⟩,I⟩,by kernel_rfl,?_⟩
   refine W.ret ?_
   refine EndsW.rt ?_
   conv=>whnf
   refine ⟨⟨I,⟨I,I,I,I,I,I,I,I,I,I,I,I⟩,I,⟨I,I⟩,I⟩,?_⟩
   exact ⟨w,p,_,rfl,rfl,hw,hm⟩
theorem ex_DrawWT (l:List Int) (hlen:l.length ≤ 1048576) (h8:∀ x ∈ l,0 ≤ x ∧ x ≤ 255):∃ res outs,(∃ (w:Worker) (p:Plan),res = .tup [workerO w,planO p] ∧ outs = [[]] ∧ WMid w ∧ planMid p) ∧ F n_spec_DrawWorkerTick [.val (.t (u8s l))] res outs:=by
 have hu:=u8_take h8
 have co:=c_spec_l1Open l (by omega)
 obtain ⟨res,outs,⟨w,p,q,rfl,rfl,h1,h2⟩,hA⟩:=ex_Any (l.take 2000) hu
 refine x_spec_DrawWorkerTick ?_
 conv=>whnf
 refine g 0 0 [] ?_
 conv=>whnf
 refine ⟨⟨I,I,I⟩,?_⟩
 refine g 4 9 [.call (V.tup [V.tup (rdC (List.take (2000:Nat) l) (0:Int))]) ([[]]),.call (V.tup [workerO w,planO p]) ([rdC (List.take (2000:Nat) l) q])] ?_
 conv=>whnf
 refine ⟨⟨I,⟨⟨I,I⟩,I,⟨⟨I,I⟩,I⟩,⟨I,I⟩,(by assumption)⟩,⟨⟨I,I⟩,I,⟨I,I⟩,⟨I,I⟩,(by assumption)⟩,I,I,⟨I,I,I,I,I,I,I,I,I,I,I,I⟩,⟨I,I⟩,I⟩,?_⟩
 refine W.ret ?_
 refine EndsW.rt ?_
 conv=>whnf
 refine ⟨⟨I,⟨I,I,I,I,I,I,I,I,I,I,I,I⟩,I,⟨I,I⟩,I⟩,?_⟩
 exact ⟨w,p,rfl,rfl,h1,h2⟩
end Go.K
end
section
set_option linter.unusedVariables false
set_option linter.unusedSimpArgs false
set_option maxHeartbeats 4000000
set_option maxRecDepth 20000
open Go Go.Tm Go.Proofs
namespace Go.K
attribute [local irreducible] ByteArray.extract
end Go.K
end
section
set_option linter.unusedVariables false
set_option linter.unusedSimpArgs false
set_option maxHeartbeats 4000000
set_option maxRecDepth 20000
open Go Go.Tm Go.Proofs
namespace Go.K
attribute [local irreducible] ByteArray.extract
end Go.K
end
section
set_option linter.unusedVariables false
set_option linter.unusedSimpArgs false
set_option maxHeartbeats 4000000
set_option maxRecDepth 20000
open Go Go.Tm Go.Proofs
namespace Go.K
attribute [local irreducible] ByteArray.extract
theorem c_laws_wList (xs ys:List ByteArray) (hl:xs.length ≤ 9223372036854775806):F n_laws_wList [.val (.t (strs xs)),.val (.t (strs ys))] (.b (decide (xs = ys))) [[],[]]:=by
 refine i_laws_wList ?_
 conv=>whnf
 refine g 0 0 [] ?_
 conv=>whnf
 refine ⟨⟨I,I⟩,?_⟩
 refine W.sq ?_
 refine g 6 10 [] ?_
 conv=>whnf
 refine ⟨⟨I,I,I,I,I,I⟩,?_⟩
 refine W.cn ?_
 conv=>whnf
 refine ⟨fun h1=>?_,fun h1=>?_⟩
 replace h1:=ndt h1
 simp only [List.length_map] at h1
 refine g 10 11 [] ?_
 conv=>whnf
 refine ⟨⟨I,I⟩,?_⟩
 refine W.ret ?_
 refine EndsW.rt ?_
 conv=>whnf
 refine ⟨⟨I,I,I⟩,?_,rfl⟩
 rotate_left 1
 replace h1:=ndf h1
 simp only [List.length_map] at h1
 refine W.skip ?_
 refine W.sq ?_
 refine g 10 11 [] ?_
 conv=>whnf
 refine ⟨⟨I,I⟩,?_⟩
 refine W.blk ?_
 rotate_left 1
 ·exact vbf (fun e=>h1 (by rw [e]))
 refine W.lp (fun s (n:Nat)=>⟨[(0,s.s 0),(1,s.s 1),(5,.i n)],[],[]⟩) (fun (n:Nat)=>n ≤ xs.length ∧ xs.take n = ys.take n) (fun (n:Nat)=>xs.length - n) (0) [] [] ⟨rfl,⟨rfl,rfl,rfl,I⟩,I,I⟩ (by simp) ?_
 rintro n ⟨hn,hc⟩
 conv=>whnf
 refine W.sq ?_
 refine g 11 14 [] ?_
 conv=>whnf
 refine ⟨⟨I,I,I,I,I⟩,?_⟩
 refine W.cn ?_
 conv=>whnf
 refine ⟨fun h2=>?_,fun h2=>?_⟩
 replace h2:=dt h2
 simp only [List.length_map] at h2
 refine W.skip ?_
 refine W.sq ?_
 refine W.blk ?_
 obtain ⟨y1,hy1⟩:=some_at (xs:=xs) (n:=n) (by omega)
 obtain ⟨y2,hy2⟩:=some_at (xs:=ys) (n:=n) (by omega)
 refine gd 14 25 [[],[],[.x (strT y1)],[],[],[],[.x (strT y2)],[],[]] ?_
 conv=>whnf
 refine ⟨⟨I,I,⟨(by omega),ixl (by assumption)⟩,I,I,I,⟨(by omega),ixl (by assumption)⟩,I,I,I⟩,by kernel_rfl,?_⟩
 refine W.cn ?_
 conv=>whnf
 refine ⟨fun h3=>?_,fun h3=>?_⟩
 replace h3:=ndt h3
 refine g 25 26 [] ?_
 conv=>whnf
 refine ⟨⟨I,I⟩,?_⟩
 refine W.ret ?_
 refine EndsW.rt ?_
 conv=>whnf
 refine ⟨⟨I,I,I⟩,?_,rfl⟩
 rotate_left 1
 replace h3:=ndf h3
 refine W.skip ?_
 refine rg [.i ((↑n:Int) + (1:Int))] ?_
 conv=>whnf
 refine ⟨⟨I,w64 (by omega) (by omega),I,I⟩,?_⟩
 rotate_left 1
 replace h2:=df h2
 simp only [List.length_map] at h2
 refine W.exit ?_
 refine g 0 2 [] ?_
 conv=>whnf
 refine ⟨⟨I,I⟩,?_⟩
 refine W.ret ?_
 refine EndsW.rt ?_
 conv=>whnf
 refine ⟨⟨I,I,I⟩,?_,rfl⟩
 rotate_left 1
 ·exact vbf (fun e=>by subst e; rw [hy1] at hy2; cases hy2; exact h3 rfl)
 ·refine ⟨n + 1,[],[],⟨rfl,⟨rfl,rfl,rfl,I⟩,I,I⟩,?_,?_⟩
  rotate_left 1
  (dsimp only; omega)
  dsimp only
  exact ⟨by omega,take_eq hc hy1 (by rw [hy2]; exact congrArg some (Eq.symm h3))⟩
 ·exact vbt (by rw [take_all (by omega),take_all (by omega)] at hc; exact hc)
theorem c_laws_wMessage (a:Message) (hl:a.inputs.length ≤ 9223372036854775806):F n_laws_wMessage [.val (messageR a),.val (messageR a)] (.b true) [[],[]]:=by
 have c:=c_laws_wList a.inputs a.inputs hl
 rw [decide_eq_true rfl] at c
 refine i_laws_wMessage ?_
 conv=>whnf
 refine g 0 2 [] ?_
 conv=>whnf
 refine ⟨⟨⟨I,I,I,I,I,I,I,I,I⟩,⟨I,I,I,I,I,I,I,I,I⟩,I,I⟩,?_⟩
 refine g 5 59 [.b (true),.b (true),.b (true),.b (true),.b (true),.b (true),.b (true),.b (true),.b (true),.b (true),.b (true),.b (true),.b (true),.b (true),.b (true),.b (true),.b (true),.b (true),.b (true),.b (true),.b (true),.b (true),.b (true),.b (true),.b (true),.b (true),.b (true),.b (true),.b (true),.b (true),.b (true),.b (true),.b (true),.b (true),.b (true),.b (true),.b (true),.b (true),.b (true),.b (true),.b (true),.call (V.b true) ([[],[]]),.b (true)] ?_
 conv=>whnf
 refine ⟨⟨I,I,I,I,I,I,⟨dT (by omega),I⟩,⟨dT (by omega),I⟩,⟨dT (by omega),I⟩,⟨dT (by omega),I⟩,⟨dT (by omega),I⟩,dT (by omega),I,⟨dT (by omega),I⟩,⟨dT (by omega),I⟩,⟨dT (by omega),I⟩,⟨dT (by omega),I⟩,⟨dT (by omega),I⟩,dT (by omega),I,⟨dT (by omega),I⟩,⟨dT (by omega),I⟩,⟨dT (by omega),I⟩,⟨dT (by omega),I⟩,⟨dT (by omega),I⟩,dT (by omega),I,⟨dT (by omega),I⟩,⟨dT (by omega),I⟩,⟨dT (by omega),I⟩,⟨dT (by omega),I⟩,⟨dT (by omega),I⟩,dT (by omega),I,⟨dT (by omega),I⟩,⟨dT (by omega),I⟩,⟨dT (by omega),I⟩,⟨dT (by omega),I⟩,⟨dT (by omega),I⟩,dT (by omega),I,⟨dT (by omega),I⟩,⟨dT (by omega),I⟩,⟨dT (by omega),I⟩,⟨dT (by omega),I⟩,⟨dT (by omega),I⟩,dT (by omega),I,⟨decide_eq_true rfl,I⟩,⟨decide_eq_true rfl,I⟩,⟨decide_eq_true rfl,I⟩,⟨decide_eq_true rfl,I⟩,⟨decide_eq_true rfl,⟨I,I,I⟩,I,⟨⟨I,I⟩,⟨I,I⟩,I⟩,⟨I,I⟩,(by assumption)⟩,decide_eq_true rfl,I,I⟩,?_⟩
 refine W.ret ?_
 refine EndsW.rt ?_
 conv=>whnf
 refine ⟨⟨I,I,I⟩,?_,rfl⟩
 rfl
end Go.K
end
section
set_option linter.unusedVariables false
set_option linter.unusedSimpArgs false
set_option maxHeartbeats 8000000
set_option maxRecDepth 20000
open Go Go.Tm Go.Proofs
namespace Go.K
abbrev inp:ByteArray:=⟨#[105,110,112,117,116,32,48,48]⟩
def inN (n:Nat):List ByteArray:=List.replicate n inp
theorem inN_step (n:Nat):(inN n).map strT ++ [strT inp] = (inN (n + 1)).map strT:=by simp [inN,List.replicate_succ']
theorem inN_len (n:Nat):(inN n).length = n:=by simp [inN]
theorem inN_size {n:Nat}:∀ s ∈ inN n,s.size = 8:=by
 intro s hs
 rw [(List.mem_replicate.1 hs).2]; rfl
def busyW (w:Worker) (k:Nat) (c:Int) (d n:Nat):Worker:=⟨w.number,w.epoch,true,1,5000000,k,c,c - n,inN d,emp,((n % 4:Nat):Int)⟩
def toldW (w:Worker) (k:Nat) (tx:ByteArray) (n:Nat):Worker:=⟨w.number,w.epoch,true,2,5000000,k,0,0,[],tx,((n % 4:Nat):Int)⟩
structure GoodW (w:Worker):Prop where
 num:1 ≤ w.number ∧ w.number ≤ 8
 ep:1 ≤ w.epoch ∧ w.epoch ≤ 300
theorem busy_ok {w:Worker} {k:Nat} {c:Int} {d n:Nat} (g:GoodW w) (hk:k ≤ 39) (hc:1 ≤ c ∧ c ≤ 20) (hn:(n:Int) < c) (hd:d ≤ 8):workerOk (busyW w k c d n) :=
 ⟨g.num,g.ep,⟨by show 0 ≤ ((n % 4:Nat):Int); omega,by show ((n % 4:Nat):Int) ≤ 1000000; omega⟩,.inl rfl,.inr (.inl ⟨rfl,⟨⟨by show (1:Int) ≤ 5000000; omega,by show (5000000:Int) ≤ 300000000; omega⟩,⟨by show 0 ≤ (k:Int); omega,by show (k:Int) ≤ 39; omega⟩⟩,hc,⟨by show 1 ≤ c - n; omega,by show c - n ≤ c; omega⟩,⟨inN_size,by show (inN d).length ≤ 8; rw [inN_len]; exact hd⟩,rfl⟩)⟩
theorem told_ok {w:Worker} {k:Nat} {tx:ByteArray} {n:Nat} (g:GoodW w) (hk:k ≤ 39) (ht:tx.size = 8):workerOk (toldW w k tx n) :=
 ⟨g.num,g.ep,⟨by show 0 ≤ ((n % 4:Nat):Int); omega,by show ((n % 4:Nat):Int) ≤ 1000000; omega⟩,.inl rfl,.inr (.inr ⟨rfl,⟨⟨by show (1:Int) ≤ 5000000; omega,by show (5000000:Int) ≤ 300000000; omega⟩,⟨by show 0 ≤ (k:Int); omega,by show (k:Int) ≤ 39; omega⟩⟩,rfl,rfl,rfl,by show (tx.size:Int) = 8; omega⟩)⟩
theorem since_small {w:Worker} (h:w.since < 1000000):sinceOf w = w.since + 1:=if_pos h
theorem busy_beat {w:Worker} {k:Nat} {c:Int} {d n:Nat} (ts:List Task) (h:¬ c - n - 1 = 0) (h4:(n + 1) % 4 = 0):tickA (busyW w k c d n) ts = ⟨⟨w.number,w.epoch,true,1,5000000,k,c,c - n - 1,inN d,emp,0⟩,[⟨2,w.number,0,w.epoch,5000000,0,emp,[]⟩]⟩:=by
 have e:sinceOf (busyW w k c d n) = ((n % 4:Nat):Int) + 1:=since_small (by show ((n % 4:Nat):Int) < 1000000; omega)
 rw [tick_beat (by simp [busyW]) rfl h (by rw [e]; omega)]; rfl
theorem busy_on {w:Worker} {k:Nat} {c:Int} {d n:Nat} (ts:List Task) (h:¬ c - n - 1 = 0) (h4:¬ (n + 1) % 4 = 0):tickA (busyW w k c d n) ts = ⟨⟨w.number,w.epoch,true,1,5000000,k,c,c - n - 1,inN d,emp,((n % 4:Nat):Int) + 1⟩,[]⟩:=by
 have e:sinceOf (busyW w k c d n) = ((n % 4:Nat):Int) + 1:=since_small (by show ((n % 4:Nat):Int) < 1000000; omega)
 rw [tick_busy (by simp [busyW]) rfl h (by rw [e]; omega),e]; rfl
theorem busy_end {w:Worker} {k:Nat} {c:Int} {d n:Nat} {ts:List Task} {t:Task} (ht:ts[k]? = some t) (h:c - n - 1 = 0):tickA (busyW w k c d n) ts = ⟨toldW w k (valueV t.name (inN d)) 0,[⟨3,w.number,0,w.epoch,5000000,k,valueV t.name (inN d),[]⟩]⟩:=by
 have e:nameOf ts ((k:Nat):Int) = t.name:=name_in (by rw [Int.toNat_natCast]; exact ht)
 have e2:tickDone (busyW w k c d n) ts = toldW w k (valueV t.name (inN d)) 0:=by
  show (⟨w.number,w.epoch,true,2,5000000,k,0,c - n - 1,[],valueV (nameOf ts k) (inN d),0⟩:Worker) = _
  rw [e,h]; rfl
 rw [tick_done (by simp [busyW]) rfl h,e2]; rfl
theorem told_tell {w:Worker} {k:Nat} {tx:ByteArray} {n:Nat} (ts:List Task) (h4:(n + 1) % 4 = 0):tickA (toldW w k tx n) ts = ⟨⟨w.number,w.epoch,true,2,5000000,k,0,0,[],tx,0⟩,[⟨3,w.number,0,w.epoch,5000000,k,tx,[]⟩]⟩:=by
 have e:sinceOf (toldW w k tx n) = ((n % 4:Nat):Int) + 1:=since_small (by show ((n % 4:Nat):Int) < 1000000; omega)
 rw [tick_told (by simp [toldW]) rfl (by rw [e]; omega)]; rfl
theorem told_wait {w:Worker} {k:Nat} {tx:ByteArray} {n:Nat} (ts:List Task) (h4:¬ (n + 1) % 4 = 0):tickA (toldW w k tx n) ts = ⟨⟨w.number,w.epoch,true,2,5000000,k,0,0,[],tx,((n % 4:Nat):Int) + 1⟩,[]⟩:=by
 have e:sinceOf (toldW w k tx n) = ((n % 4:Nat):Int) + 1:=since_small (by show ((n % 4:Nat):Int) < 1000000; omega)
 rw [tick_told2 (by simp [toldW]) rfl (by rw [e]; omega),e]; rfl
/-- The worker ahead of the n-th tick behind its work's last but one. -/
def stW (w:Worker) (k:Nat) (c:Int) (d:Nat) (tx:ByteArray) (b:Nat):Nat → Worker
 | 0=>busyW w k c d b
 | n + 1=>toldW w k tx n
theorem st_tell {w:Worker} {k:Nat} {c:Int} {d b:Nat} {ts:List Task} {t:Task} (ht:ts[k]? = some t) (h:c - b - 1 = 0) (n:Nat) (h4:n % 4 = 0):tickA (stW w k c d (valueV t.name (inN d)) b n) ts = ⟨stW w k c d (valueV t.name (inN d)) b (n + 1),[⟨3,w.number,0,w.epoch,5000000,k,valueV t.name (inN d),[]⟩]⟩:=by
 cases n with
 | zero=>exact busy_end ht h
 | succ n =>
   show tickA (toldW _ _ _ n) ts = ⟨toldW _ _ _ (n + 1),_⟩
   rw [told_tell ts h4]
   simp only [toldW,h4]; rfl
theorem st_wait {w:Worker} {k:Nat} {c:Int} {d b:Nat} {ts:List Task} {tx:ByteArray} (n:Nat) (h4:¬ n % 4 = 0):tickA (stW w k c d tx b n) ts = ⟨stW w k c d tx b (n + 1),[]⟩:=by
 cases n with
 | zero=>exact absurd rfl h4
 | succ n =>
   show tickA (toldW _ _ _ n) ts = ⟨toldW _ _ _ (n + 1),_⟩
   rw [told_wait ts h4,toldW,show ((n % 4:Nat):Int) + 1 = (((n + 1) % 4:Nat):Int) by omega]
end Go.K
end
section
set_option linter.unusedVariables false
set_option linter.unusedSimpArgs false
set_option maxHeartbeats 16000000
set_option maxRecDepth 20000
open Go Go.Tm Go.Proofs
namespace Go.K
theorem inN_tot (n:Nat) (h:n ≤ 8):totS (inN n) ≤ 64:=by
 have:=totS_le8 (xs:=inN n) fun s hs=>Nat.le_of_eq (inN_size s hs)
 rw [inN_len] at this; omega
theorem l_FnWorker (l:List Int) (hlen:l.length ≤ 9223372036854775807) (h8:∀ x ∈ l,0 ≤ x ∧ x ≤ 255):F n_laws_FnWorker [.val (.t (u8s l))] (.b true) [[]]:=by
 by_cases h:l.length ≤ 1048576
 rotate_left
 ·refine i_laws_FnWorker ?_
  conv=>whnf
  refine g 0 0 [] ?_
  conv=>whnf
  refine ⟨⟨I,I⟩,?_⟩
  refine W.sq ?_
  refine g 0 0 [] ?_
  conv=>whnf
  refine ⟨⟨I,I,I,I⟩,?_⟩
  refine W.cn ?_
  conv=>whnf
  refine ⟨fun h1=>?_,fun h1=>?_⟩
  replace h1:=dt h1
  simp only [List.length_map] at h1
  refine g 19 20 [] ?_
  conv=>whnf
  refine ⟨⟨I,I⟩,?_⟩
  refine W.ret ?_
  refine EndsW.rt ?_
  conv=>whnf
  refine ⟨⟨I,I,I⟩,?_,rfl⟩
  rfl
  replace h1:=df h1
  simp only [List.length_map] at h1
  omega
 obtain ⟨res,outs,⟨w,p,rfl,rfl,⟨m1,m2,m3,m4⟩,hm⟩,hD⟩:=ex_DrawWT l h h8
 have wf:=mid_wf hm
 have c1:=c_spec_ValidWorker w (by omega)
 have c2:=c_spec_CheckPlan p wf
 have c3:=c_impl_ValidWorker w (by omega)
 by_cases hok:workerOk w
 rotate_left
 ·rw [decide_eq_false hok] at c1 c3
  refine i_laws_FnWorker ?_
  conv=>whnf
  refine g 0 0 [] ?_
  conv=>whnf
  refine ⟨⟨I,I⟩,?_⟩
  refine W.sq ?_
  refine g 0 0 [] ?_
  conv=>whnf
  refine ⟨⟨I,I,I,I⟩,?_⟩
  refine W.cn ?_
  conv=>whnf
  refine ⟨fun h1=>?_,fun h1=>?_⟩
  replace h1:=dt h1
  simp only [List.length_map] at h1
  omega
  replace h1:=df h1
  simp only [List.length_map] at h1
  refine W.skip ?_
  refine g 19 22 [.call (V.tup [workerO w,planO p]) ([[]])] ?_
  conv=>whnf
  refine ⟨⟨I,⟨⟨I,I⟩,I,⟨⟨I,I⟩,I⟩,⟨I,I⟩,(by assumption)⟩,I,I,I,I,I,⟨I,I,I,I,I,I,I,I,I,I,I,I⟩,⟨I,I⟩,I⟩,?_⟩
  refine W.sq ?_
  refine g 23 37 [.call (V.b false) ([[]]),.b (true),.b (true),.b (true),.b (true),.b (true),.b (true),.b (true),.b (true)] ?_
  conv=>whnf
  refine ⟨⟨I,⟨⟨I,I⟩,I,⟨⟨I,I,I,I,I,I,I,I,I,I,I,I⟩,I⟩,⟨I,I⟩,(by assumption)⟩,I,I,rfl,rfl,rfl,rfl,I,rfl,rfl,rfl,rfl,I⟩,?_⟩
  refine W.cn ?_
  conv=>whnf
  refine ⟨fun _=>?_,noF (rfl)⟩
  refine gd 37 43 [[],[.call (V.b false) ([[]])],[],[.call (V.b false) ([[]])],[],[]] ?_
  conv=>whnf
  refine ⟨⟨I,⟨⟨I,I⟩,I,⟨⟨I,I,I,I,I,I,I,I,I,I,I,I⟩,I⟩,⟨I,I⟩,(by assumption)⟩,I,⟨⟨I,I⟩,I,⟨⟨I,I,I,I,I,I,I,I,I,I,I,I⟩,I⟩,⟨I,I⟩,(by assumption)⟩,I,I,I⟩,by kernel_rfl,?_⟩
  refine W.ret ?_
  refine EndsW.rt ?_
  conv=>whnf
  refine ⟨⟨I,I,I⟩,?_,rfl⟩
  rfl
 rw [decide_eq_true hok] at c1 c3
 by_cases hc:checkPlan p.tasks = 0
 rotate_left
 ·refine i_laws_FnWorker ?_
  conv=>whnf
  refine g 0 0 [] ?_
  conv=>whnf
  refine ⟨⟨I,I⟩,?_⟩
  refine W.sq ?_
  refine g 0 0 [] ?_
  conv=>whnf
  refine ⟨⟨I,I,I,I⟩,?_⟩
  refine W.cn ?_
  conv=>whnf
  refine ⟨fun h1=>?_,fun h1=>?_⟩
  replace h1:=dt h1
  simp only [List.length_map] at h1
  omega
  replace h1:=df h1
  simp only [List.length_map] at h1
  refine W.skip ?_
  refine g 19 22 [.call (V.tup [workerO w,planO p]) ([[]])] ?_
  conv=>whnf
  refine ⟨⟨I,⟨⟨I,I⟩,I,⟨⟨I,I⟩,I⟩,⟨I,I⟩,(by assumption)⟩,I,I,I,I,I,⟨I,I,I,I,I,I,I,I,I,I,I,I⟩,⟨I,I⟩,I⟩,?_⟩
  refine W.sq ?_
  refine g 23 37 [.call (V.b true) ([[]]),.b (false),.b (false),.call (V.i (checkPlan (Plan.tasks p))) ([[]]),.b (false),.b (false),.b (true),.b (true),.b (true),.b (true)] ?_
  conv=>whnf
  refine ⟨⟨I,⟨⟨I,I⟩,I,⟨⟨I,I,I,I,I,I,I,I,I,I,I,I⟩,I⟩,⟨I,I⟩,(by assumption)⟩,I,I,⟨rfl,I⟩,⟨rfl,⟨I,I⟩,I,⟨⟨I,I⟩,I⟩,⟨I,I⟩,(by assumption)⟩,⟨rfl,I⟩,rfl,I,notT (by omega),notT (by omega),notT (by omega),notT (by omega),I⟩,?_⟩
  refine W.cn ?_
  conv=>whnf
  refine ⟨fun _=>?_,noF (rfl)⟩
  refine gd 37 43 [[],[.call (V.b true) ([[]])],[],[.call (V.b true) ([[]])],[],[]] ?_
  conv=>whnf
  refine ⟨⟨I,⟨⟨I,I⟩,I,⟨⟨I,I,I,I,I,I,I,I,I,I,I,I⟩,I⟩,⟨I,I⟩,(by assumption)⟩,I,⟨⟨I,I⟩,I,⟨⟨I,I,I,I,I,I,I,I,I,I,I,I⟩,I⟩,⟨I,I⟩,(by assumption)⟩,I,I,I⟩,by kernel_rfl,?_⟩
  refine W.ret ?_
  refine EndsW.rt ?_
  conv=>whnf
  refine ⟨⟨I,I,I⟩,?_,rfl⟩
  rfl
 by_cases hup:w.up = true
 rotate_left
 ·refine i_laws_FnWorker ?_
  conv=>whnf
  refine g 0 0 [] ?_
  conv=>whnf
  refine ⟨⟨I,I⟩,?_⟩
  refine W.sq ?_
  refine g 0 0 [] ?_
  conv=>whnf
  refine ⟨⟨I,I,I,I⟩,?_⟩
  refine W.cn ?_
  conv=>whnf
  refine ⟨fun h1=>?_,fun h1=>?_⟩
  replace h1:=dt h1
  simp only [List.length_map] at h1
  omega
  replace h1:=df h1
  simp only [List.length_map] at h1
  refine W.skip ?_
  refine g 19 22 [.call (V.tup [workerO w,planO p]) ([[]])] ?_
  conv=>whnf
  refine ⟨⟨I,⟨⟨I,I⟩,I,⟨⟨I,I⟩,I⟩,⟨I,I⟩,(by assumption)⟩,I,I,I,I,I,⟨I,I,I,I,I,I,I,I,I,I,I,I⟩,⟨I,I⟩,I⟩,?_⟩
  refine W.sq ?_
  refine g 23 37 [.call (V.b true) ([[]]),.b (false),.b (false),.call (V.i (checkPlan (Plan.tasks p))) ([[]]),.b (false),.b (false),.b (false),.b (false),.b (false),.b (false)] ?_
  conv=>whnf
  refine ⟨⟨I,⟨⟨I,I⟩,I,⟨⟨I,I,I,I,I,I,I,I,I,I,I,I⟩,I⟩,⟨I,I⟩,(by assumption)⟩,I,I,⟨rfl,I⟩,⟨rfl,⟨I,I⟩,I,⟨⟨I,I⟩,I⟩,⟨I,I⟩,(by assumption)⟩,⟨rfl,I⟩,rfl,I,⟨notF (by omega),I⟩,⟨notF (by omega),I⟩,⟨notF (by omega),I⟩,notF (by omega),I⟩,?_⟩
  refine W.cn ?_
  conv=>whnf
  refine ⟨fun _=>?_,noF (by simp [*])⟩
  refine gd 37 43 [[],[.call (V.b true) ([[]])],[],[.call (V.b true) ([[]])],[],[]] ?_
  conv=>whnf
  refine ⟨⟨I,⟨⟨I,I⟩,I,⟨⟨I,I,I,I,I,I,I,I,I,I,I,I⟩,I⟩,⟨I,I⟩,(by assumption)⟩,I,⟨⟨I,I⟩,I,⟨⟨I,I,I,I,I,I,I,I,I,I,I,I⟩,I⟩,⟨I,I⟩,(by assumption)⟩,I,I,I⟩,by kernel_rfl,?_⟩
  refine W.ret ?_
  refine EndsW.rt ?_
  conv=>whnf
  refine ⟨⟨I,I,I⟩,?_,rfl⟩
  rfl
 rw [hc] at c2
 have hpl:=(chk_inv hc).1
 obtain ⟨g1,g2,g3,g4,g5⟩:=hok
 have hok:workerOk w:=⟨g1,g2,g3,g4,g5⟩
 have good:GoodW w:=⟨g1,g2⟩
 obtain ⟨k,hk,hkl⟩:∃ k:Nat,((l.map b1T).length:Int).tmod ((p.tasks.map taskT).length:Int) = (k:Int) ∧ k < p.tasks.length:=by
  refine ⟨l.length % p.tasks.length,?_,Nat.mod_lt _ (by omega)⟩
  rw [List.length_map,List.length_map,Int.tmod_eq_emod_of_nonneg (by omega)]
  exact (Int.natCast_emod _ _).symm
 obtain ⟨t,ht0⟩:=some_at hkl
 obtain ⟨⟨a1,a2⟩,⟨a5,a6⟩,a3,a4⟩:=chk_task hc ht0
 obtain ⟨d,hd⟩:∃ d,d = t.deps.length:=⟨_,rfl⟩
 have hd8:d ≤ 8:=by omega
 have hil:=inN_len d
 refine i_laws_FnWorker ?_
 conv=>whnf
 refine g 0 0 [] ?_
 conv=>whnf
 refine ⟨⟨I,I⟩,?_⟩
 refine W.sq ?_
 refine g 0 0 [] ?_
 conv=>whnf
 refine ⟨⟨I,I,I,I⟩,?_⟩
 refine W.cn ?_
 conv=>whnf
 refine ⟨fun h1=>?_,fun h1=>?_⟩
 replace h1:=dt h1
 simp only [List.length_map] at h1
 omega
 replace h1:=df h1
 simp only [List.length_map] at h1
 refine W.skip ?_
 refine g 19 22 [.call (V.tup [workerO w,planO p]) ([[]])] ?_
 conv=>whnf
 refine ⟨⟨I,⟨⟨I,I⟩,I,⟨⟨I,I⟩,I⟩,⟨I,I⟩,(by assumption)⟩,I,I,I,I,I,⟨I,I,I,I,I,I,I,I,I,I,I,I⟩,⟨I,I⟩,I⟩,?_⟩
 refine W.sq ?_
 refine g 23 37 [.call (V.b true) ([[]]),.b (false),.b (false),.call (V.i (0:Int)) ([[]]),.b (false),.b (false),.b (false),.b (false),.b (false),.b (false)] ?_
 conv=>whnf
 refine ⟨⟨I,⟨⟨I,I⟩,I,⟨⟨I,I,I,I,I,I,I,I,I,I,I,I⟩,I⟩,⟨I,I⟩,(by assumption)⟩,I,I,⟨rfl,I⟩,⟨rfl,⟨I,I⟩,I,⟨⟨I,I⟩,I⟩,⟨I,I⟩,(by assumption)⟩,⟨rfl,I⟩,rfl,I,⟨rfl,I⟩,⟨rfl,I⟩,⟨rfl,I⟩,rfl,I⟩,?_⟩
 refine W.cn ?_
 conv=>whnf
 refine ⟨noT (nbF (by assumption)),fun _=>?_⟩
 refine W.skip ?_
 refine g 37 49 [.i (Int.tmod (↑(List.length (List.map b1T l)):Int) (↑(List.length (List.map taskT (Plan.tasks p))):Int))] ?_
 conv=>whnf
 refine ⟨⟨I,I,I,I,I,⟨(by simp only [lens]; omega),rfl⟩,I,I⟩,?_⟩
 refine g 49 53 [] ?_
 conv=>whnf
 refine ⟨⟨I,I,I,I,I,⟨I,I,I,I,I,I,I,I,I⟩,I⟩,?_⟩
 refine W.sq ?_
 refine g 0 0 [] ?_
 conv=>whnf
 refine ⟨⟨I,I⟩,?_⟩
 refine W.blk ?_
 refine W.frz 4 0 ?_
 conv=>whnf
 refine W.drop (lo:=17) (hi:=60) ?_
 conv=>whnf
 refine W.lp (fun s (n:Nat)=>⟨[(0,s.s 0),(2,s.s 2),(3,s.s 3),(4,s.s 4),(5,.i (k:Int)),(6,s.s 6),(7,.i n)],[(3,[s.c 3 0,s.c 3 1,s.c 3 2,s.c 3 3,s.c 3 4,s.c 3 5,s.c 3 6,s.c 3 7,s.c 3 8,s.c 3 9,s.c 3 10]),(4,[s.c 4 0]),(6,[.t (.i 1),.t (.i 0),.t (.i w.number),.t (.i 2),.t (.i 5000000),.t (.i (k:Int)),.t (.s emp),.own [false] ((inN n).map strT)])],[]⟩) (fun (n:Nat)=>n ≤ d) (fun (n:Nat)=>d - n) (0) [some 3,some 4,some 6] [] ⟨rfl,⟨rfl,rfl,rfl,rfl,(congrArg (fun z=>V.t (T.v (Value.int _ z))) (hk)),rfl,rfl,I⟩,⟨⟨rfl,⟨rfl,⟨rfl,⟨rfl,⟨rfl,⟨rfl,⟨rfl,⟨rfl,⟨rfl,⟨rfl,⟨rfl,⟨rfl,I⟩⟩⟩⟩⟩⟩⟩⟩⟩⟩⟩⟩,⟨⟨rfl,⟨rfl,I⟩⟩,⟨⟨rfl,⟨rfl,⟨rfl,⟨rfl,⟨rfl,⟨rfl,⟨(congrArg (fun z=>V.t (T.v (Value.int _ z))) (hk)),⟨rfl,⟨rfl,I⟩⟩⟩⟩⟩⟩⟩⟩⟩,I⟩⟩⟩,I⟩ (by omega) ?_
 intro n hn
 have hin:=inN_len n
 by_cases hn2:n < d
 ·have e:=inN_step n
  conv=>whnf
  refine W.sq ?_
  refine g 53 61 [.x (taskT t)] ?_
  conv=>whnf
  refine ⟨⟨I,I,I,I,⟨(by omega),ixl (by assumption)⟩,I,I,I,I,I⟩,?_⟩
  refine W.cn ?_
  conv=>whnf
  refine ⟨fun _=>?_,noF (by simp_all)⟩
  refine W.skip ?_
  refine W.sq ?_
  refine W.blk ?_
  refine rg [] ?_
  conv=>whnf
  refine ⟨⟨I,I,⟨⟨I,I⟩,I⟩,⟨I,I,(by simp only [lens]; omega)⟩,I,⟨I,I⟩,I⟩,?_⟩
  refine rg [.i ((↑n:Int) + (1:Int))] ?_
  conv=>whnf
  refine ⟨⟨I,w64 (by omega) (by omega),I,I⟩,?_⟩
  refine ⟨n + 1,[some 3,some 4,some 6],[],⟨rfl,⟨rfl,rfl,rfl,rfl,rfl,rfl,rfl,I⟩,⟨⟨rfl,⟨rfl,⟨rfl,⟨rfl,⟨rfl,⟨rfl,⟨rfl,⟨rfl,⟨rfl,⟨rfl,⟨rfl,⟨rfl,I⟩⟩⟩⟩⟩⟩⟩⟩⟩⟩⟩⟩,⟨⟨rfl,⟨rfl,I⟩⟩,⟨⟨rfl,⟨rfl,⟨rfl,⟨rfl,⟨rfl,⟨rfl,⟨rfl,⟨rfl,⟨(congrArg (V.own _) (e)),I⟩⟩⟩⟩⟩⟩⟩⟩⟩,I⟩⟩⟩,I⟩,?_,?_⟩
  rotate_left 1
  (dsimp only; omega)
  dsimp only
  omega
 obtain rfl:n = d:=by omega
 have mok:msgOk ⟨1,0,w.number,2,5000000,k,emp,inN n⟩:=⟨⟨by dsimp only; omega,by dsimp only; omega⟩,.inl ⟨rfl,rfl,g1,⟨by dsimp only; omega,by dsimp only; omega⟩,⟨by dsimp only; omega,by dsimp only; omega⟩,rfl,⟨inN_size,by dsimp only; omega⟩⟩⟩
 have ct:F n_impl_WorkerTake [.val (workerR w),.val (planR p),.val (.agg [.t (.i 1),.t (.i 0),.t (.i w.number),.t (.i 2),.t (.i 5000000),.t (.i (k:Int)),.t (.s emp),.t (.slc [false] ((inN n).map strT))])] (.agg [.t (.i w.number),.t (.i w.epoch),.t (.b true),.t (.i (1)),.t (.i (5000000)),.t (.i (k)),.t (.i (t.cost)),.t (.i (t.cost)),.own [false] ((inN n).map strT),.t (.s emp),.t (.i (0)),.own messageK []]) [[],[],[]]:=by
  have q:=c_impl_WorkerTake w p ⟨1,0,w.number,2,5000000,k,emp,inN n⟩ wf (by omega) (by dsimp only; omega)
  have o:takesOffer w p.tasks ⟨1,0,w.number,2,5000000,k,emp,inN n⟩:=⟨rfl,⟨t,by rw [Int.toNat_natCast]; exact ht0,by dsimp only; omega⟩,.inr (by dsimp only; omega)⟩
  have ec:costOf p.tasks ((k:Nat):Int) = t.cost:=by unfold costOf; rw [Int.toNat_natCast,ht0]; rfl
  rw [wtake_ok hok hc,take_offer ⟨hup,mok,rfl⟩ o] at q
  dsimp only at q
  rw [ec] at q
  exact q
 have hd0:n = t.deps.length:=hd
 clear hd
 obtain ⟨d,hdd⟩:∃ d,d = n:=⟨_,rfl⟩
 subst hdd
 conv=>whnf
 refine W.sq ?_
 refine g 53 61 [.x (taskT t)] ?_
 conv=>whnf
 refine ⟨⟨I,I,I,I,⟨(by omega),ixl (by assumption)⟩,I,I,I,I,I⟩,?_⟩
 refine W.cn ?_
 conv=>whnf
 refine ⟨noT (by simp [*]),fun _=>?_⟩
 refine W.exit ?_
 refine g 61 74 [.call (V.agg [V.t (T.i (Worker.number w)),V.t (T.i (Worker.epoch w)),V.t (T.b true),V.t (T.i (1:Int)),V.t (T.i (5000000:Int)),V.t (T.i (↑k:Int)),V.t (T.i (Task.cost t)),V.t (T.i (Task.cost t)),V.own [false] (List.map strT (inN d)),V.t (T.s emp),V.t (T.i (0:Int)),V.own messageK []]) ([[],[],[]])] ?_
 conv=>whnf
 refine ⟨⟨I,I,I,⟨⟨I,I,I,I⟩,I,⟨⟨I,I,I,I,I,I,I,I,I,I,I,I⟩,⟨I,I⟩,⟨I,I,I,I,I,I,I,I,I⟩,I⟩,⟨I,I⟩,(by assumption)⟩,I,I,⟨I,I,I,I,I,I,I,I,I,I,I,I⟩,I⟩,?_⟩
 refine W.sq ?_
 refine g 74 83 [.b (false),.b (false),.b (false),.b (false),.b (false),.b (false)] ?_
 conv=>whnf
 refine ⟨⟨I,I,I,I,⟨rfl,I⟩,⟨rfl,I⟩,⟨rfl,I⟩,⟨rfl,I⟩,⟨rfl,I⟩,rfl,I⟩,?_⟩
 refine W.cn ?_
 conv=>whnf
 refine ⟨noT (rfl),fun _=>?_⟩
 refine W.skip ?_
 refine W.sq ?_
 refine g 7 8 [] ?_
 conv=>whnf
 refine ⟨⟨I,I⟩,?_⟩
 refine W.blk ?_
 refine W.drop (lo:=17) (hi:=230) ?_
 conv=>whnf
 refine W.lp (fun s (n:Nat)=>⟨[(0,s.s 0),(3,s.s 3),(4,s.s 4),(5,s.s 5),(6,s.s 6),(8,s.s 8),(9,.i (n + 1))],[(3,[s.c 3 0,s.c 3 1,s.c 3 2,s.c 3 3,s.c 3 4,s.c 3 5,s.c 3 6,s.c 3 7,s.c 3 8,s.c 3 9,s.c 3 10]),(4,[s.c 4 0]),(6,[s.c 6 0,s.c 6 1,s.c 6 2,s.c 6 3,s.c 6 4,s.c 6 5,s.c 6 6,s.c 6 7]),(8,[.t (.i w.number),.t (.i w.epoch),.t (.b true),.t (.i (1)),.t (.i (5000000)),.t (.i (k)),.t (.i (t.cost)),.t (.i (t.cost - n)),.own [false] ((inN d).map strT),.t (.s emp),.t (.i (((n % 4:Nat):Int)))])],[]⟩) (fun (n:Nat)=>(n:Int) + 1 ≤ t.cost) (fun (n:Nat)=>20 - n) (0) [some 3,some 4,some 6,some 8] [] ⟨rfl,⟨rfl,rfl,rfl,rfl,rfl,rfl,rfl,I⟩,⟨⟨rfl,⟨rfl,⟨rfl,⟨rfl,⟨rfl,⟨rfl,⟨rfl,⟨rfl,⟨rfl,⟨rfl,⟨rfl,⟨rfl,I⟩⟩⟩⟩⟩⟩⟩⟩⟩⟩⟩⟩,⟨⟨rfl,⟨rfl,I⟩⟩,⟨⟨rfl,⟨rfl,⟨rfl,⟨rfl,⟨rfl,⟨rfl,⟨rfl,⟨rfl,⟨rfl,I⟩⟩⟩⟩⟩⟩⟩⟩⟩,⟨⟨rfl,⟨rfl,⟨rfl,⟨rfl,⟨rfl,⟨rfl,⟨rfl,⟨rfl,⟨(congrArg (fun z=>V.t (T.v (Value.int _ z))) (by omega)),⟨rfl,⟨rfl,⟨rfl,I⟩⟩⟩⟩⟩⟩⟩⟩⟩⟩⟩⟩,I⟩⟩⟩⟩,I⟩ (by omega) ?_
 intro n hn
 by_cases hn3:(n:Int) + 1 < t.cost
 ·have bok:=busy_ok (d:=d) good (show k ≤ 39 by omega) ⟨a5,a6⟩ (show ((n + 1:Nat):Int) < t.cost by omega) hd8
  have cv:F n_spec_ValidWorker [.val (.agg [.t (.i w.number),.t (.i w.epoch),.t (.b true),.t (.i (1)),.t (.i (5000000)),.t (.i (k)),.t (.i (t.cost)),.t (.i (t.cost - n - 1)),.t (.slc [false] ((inN d).map strT)),.t (.s emp),.t (.i ((((n + 1) % 4:Nat):Int)))])] (.b true) [[]]:=by
   have q:=c_spec_ValidWorker (busyW w k t.cost d (n + 1)) (by show (inN d).length ≤ _; omega)
   rw [decide_eq_true bok] at q
   rw [show t.cost - n - 1 = t.cost - ((n + 1:Nat):Int) by omega]
   exact q
  by_cases h4:(n + 1) % 4 = 0
  ·have ck:F n_impl_WorkerTick [.val (.agg [.t (.i w.number),.t (.i w.epoch),.t (.b true),.t (.i (1)),.t (.i (5000000)),.t (.i (k)),.t (.i (t.cost)),.t (.i (t.cost - n)),.t (.slc [false] ((inN d).map strT)),.t (.s emp),.t (.i (((n % 4:Nat):Int)))]),.val (planR p)] (.agg [.t (.i w.number),.t (.i w.epoch),.t (.b true),.t (.i (1)),.t (.i (5000000)),.t (.i (k)),.t (.i (t.cost)),.t (.i (t.cost - n - 1)),.own [false] ((inN d).map strT),.t (.s emp),.t (.i (0)),.own messageK [[.i 2,.i w.number,.i 0,.i w.epoch,.i 5000000,.i 0,.s emp,.slc [false] []]]]) [[],[]]:=by
    have q:=c_impl_WorkerTick (busyW w k t.cost d n) p wf (by show (inN d).length ≤ _; omega)
    rw [wtick_ok (busy_ok good (by omega) ⟨a5,a6⟩ (by omega) hd8) hc,busy_beat p.tasks (by omega) h4] at q
    exact q
   rw [h4] at cv
   have hq:((n:Int) + 1).tmod 4 = 0:=by rw [Int.tmod_eq_emod_of_nonneg (by omega)]; omega
   conv=>whnf
   refine W.sq ?_
   refine g 84 91 [.x (taskT t)] ?_
   conv=>whnf
   refine ⟨⟨I,I,I,I,⟨(by omega),ixl (by assumption)⟩,I,I,I,I⟩,?_⟩
   refine W.cn ?_
   conv=>whnf
   refine ⟨fun _=>?_,noF (dT (by omega))⟩
   refine W.skip ?_
   refine W.sq ?_
   refine W.blk ?_
   refine g 91 97 [.call (V.agg [V.t (T.i (Worker.number w)),V.t (T.i (Worker.epoch w)),V.t (T.b true),V.t (T.i (1:Int)),V.t (T.i (5000000:Int)),V.t (T.i (↑k:Int)),V.t (T.i (Task.cost t)),V.t (T.i (Task.cost t - (↑n:Int) - (1:Int))),V.own [false] (List.map strT (inN d)),V.t (T.s emp),V.t (T.i (0:Int)),V.own messageK [[T.i (2:Int),T.i (Worker.number w),T.i (0:Int),T.i (Worker.epoch w),T.i (5000000:Int),T.i (0:Int),T.s emp,T.slc [false] []]]]) ([[],[]])] ?_
   conv=>whnf
   refine ⟨⟨I,I,⟨⟨I,I,I⟩,I,⟨⟨I,I,I,I,I,I,I,I,I,I,I,I⟩,⟨I,I⟩,I⟩,⟨I,I⟩,(by assumption)⟩,I,⟨I,I,I,I,I,I,I,I,I,I,I,I,I⟩,I⟩,?_⟩
   refine g 97 99 [] ?_
   conv=>whnf
   refine ⟨⟨I,I,⟨I,I,I,I,I,I,I,I,I,I,I,I⟩,I⟩,?_⟩
   refine gd 99 121 [[],[],[],[],[],[.b (true)],[.b (true)],[.b (true),.n ((0:Nat))],[.b (true)],[.b (true),.x ([T.i (2:Int),T.i (Worker.number w),T.i (0:Int),T.i (Worker.epoch w),T.i (5000000:Int),T.i (0:Int),T.s emp,T.slc [false] []])],[.b (true)],[.b (true)],[],[.b (true)],[.b (true)],[.b (true),.n ((0:Nat))],[.b (true)],[.b (true),.x ([T.i (2:Int),T.i (Worker.number w),T.i (0:Int),T.i (Worker.epoch w),T.i (5000000:Int),T.i (0:Int),T.s emp,T.slc [false] []])],[.b (true)],[.b (true)],[.b (true)],[.b (true)],[]] ?_
   conv=>whnf
   refine ⟨⟨I,I,I,I,I,⟨rfl,I⟩,⟨rfl,I⟩,⟨rfl,rfl,(by simp only [lens]; omega)⟩,⟨rfl,I⟩,⟨rfl,rfl⟩,⟨rfl,I⟩,rfl,I,⟨rfl,I⟩,⟨rfl,I⟩,⟨rfl,rfl,(by simp only [lens]; omega)⟩,⟨rfl,I⟩,⟨rfl,rfl⟩,⟨rfl,I⟩,⟨rfl,I⟩,⟨rfl,I⟩,rfl,I,I⟩,by kernel_rfl,?_⟩
   refine g 10 140 [.call (V.b true) ([[]]),.b (false),.b (false),.b (false),.i (Int.tmod ((↑n:Int) + (1:Int)) (4:Int)),.b (false),.b (false),.b (false),.b (false),.b (false),.b (false),.b (false),.b (false),.b (false),.b (false),.b (false),.b (false),.b (false)] ?_
   conv=>whnf
   refine ⟨⟨I,⟨⟨I,I⟩,I,⟨⟨I,I,I,I,I,I,I,I,I,I,I,I⟩,I⟩,⟨I,I⟩,(by assumption)⟩,I,I,⟨rfl,I⟩,⟨rfl,I⟩,⟨rfl,(by omega),rfl⟩,⟨rfl,I⟩,⟨rfl,I⟩,rfl,I,⟨(by simp [*]),I⟩,⟨(by simp [*]),I⟩,⟨(by simp [*]),I⟩,rfl,rfl,rfl,rfl,⟨(by simp [*]),rfl⟩,(by simp [*]),I⟩,?_⟩
   refine W.cn ?_
   conv=>whnf
   refine ⟨noT (rfl),fun _=>?_⟩
   refine W.skip ?_
   refine rg [.i ((↑n:Int) + (1:Int) + (1:Int))] ?_
   conv=>whnf
   refine ⟨⟨I,w64 (by omega) (by omega),I,I⟩,?_⟩
   refine ⟨n + 1,[some 3,some 4,some 6,some 8],[],⟨rfl,⟨rfl,rfl,rfl,rfl,rfl,rfl,rfl,I⟩,⟨⟨rfl,⟨rfl,⟨rfl,⟨rfl,⟨rfl,⟨rfl,⟨rfl,⟨rfl,⟨rfl,⟨rfl,⟨rfl,⟨rfl,I⟩⟩⟩⟩⟩⟩⟩⟩⟩⟩⟩⟩,⟨⟨rfl,⟨rfl,I⟩⟩,⟨⟨rfl,⟨rfl,⟨rfl,⟨rfl,⟨rfl,⟨rfl,⟨rfl,⟨rfl,⟨rfl,I⟩⟩⟩⟩⟩⟩⟩⟩⟩,⟨⟨rfl,⟨rfl,⟨rfl,⟨rfl,⟨rfl,⟨rfl,⟨rfl,⟨rfl,⟨(congrArg (fun z=>V.t (T.v (Value.int _ z))) (by omega)),⟨rfl,⟨rfl,⟨(congrArg (fun z=>V.t (T.v (Value.int _ z))) (by omega)),I⟩⟩⟩⟩⟩⟩⟩⟩⟩⟩⟩⟩,I⟩⟩⟩⟩,I⟩,?_,?_⟩
   rotate_left 1
   (dsimp only; omega)
   dsimp only
   omega
  ·have ck:F n_impl_WorkerTick [.val (.agg [.t (.i w.number),.t (.i w.epoch),.t (.b true),.t (.i (1)),.t (.i (5000000)),.t (.i (k)),.t (.i (t.cost)),.t (.i (t.cost - n)),.t (.slc [false] ((inN d).map strT)),.t (.s emp),.t (.i (((n % 4:Nat):Int)))]),.val (planR p)] (.agg [.t (.i w.number),.t (.i w.epoch),.t (.b true),.t (.i (1)),.t (.i (5000000)),.t (.i (k)),.t (.i (t.cost)),.t (.i (t.cost - n - 1)),.own [false] ((inN d).map strT),.t (.s emp),.t (.i (((n % 4:Nat):Int) + 1)),.own messageK []]) [[],[]]:=by
    have q:=c_impl_WorkerTick (busyW w k t.cost d n) p wf (by show (inN d).length ≤ _; omega)
    rw [wtick_ok (busy_ok good (by omega) ⟨a5,a6⟩ (by omega) hd8) hc,busy_on p.tasks (by omega) h4] at q
    exact q
   rw [show (((n + 1) % 4:Nat):Int) = ((n % 4:Nat):Int) + 1 by omega] at cv
   have hq:¬ ((n:Int) + 1).tmod 4 = 0:=by rw [Int.tmod_eq_emod_of_nonneg (by omega)]; omega
   conv=>whnf
   refine W.sq ?_
   refine g 84 91 [.x (taskT t)] ?_
   conv=>whnf
   refine ⟨⟨I,I,I,I,⟨(by omega),ixl (by assumption)⟩,I,I,I,I⟩,?_⟩
   refine W.cn ?_
   conv=>whnf
   refine ⟨fun _=>?_,noF (dT (by omega))⟩
   refine W.skip ?_
   refine W.sq ?_
   refine W.blk ?_
   refine g 91 97 [.call (V.agg [V.t (T.i (Worker.number w)),V.t (T.i (Worker.epoch w)),V.t (T.b true),V.t (T.i (1:Int)),V.t (T.i (5000000:Int)),V.t (T.i (↑k:Int)),V.t (T.i (Task.cost t)),V.t (T.i (Task.cost t - (↑n:Int) - (1:Int))),V.own [false] (List.map strT (inN d)),V.t (T.s emp),V.t (T.i ((↑(n % (4:Nat)):Int) + (1:Int))),V.own messageK []]) ([[],[]])] ?_
   conv=>whnf
   refine ⟨⟨I,I,⟨⟨I,I,I⟩,I,⟨⟨I,I,I,I,I,I,I,I,I,I,I,I⟩,⟨I,I⟩,I⟩,⟨I,I⟩,(by assumption)⟩,I,⟨I,I,I,I,I,I,I,I,I,I,I,I,I⟩,I⟩,?_⟩
   refine g 97 99 [] ?_
   conv=>whnf
   refine ⟨⟨I,I,⟨I,I,I,I,I,I,I,I,I,I,I,I⟩,I⟩,?_⟩
   refine gd 99 121 [[],[],[],[],[],[.b (false)],[.b (false)],[.b (false)],[.b (false)],[.b (false)],[.b (false)],[.b (false)],[],[.b (false)],[.b (false)],[.b (false)],[.b (false)],[.b (false)],[.b (false)],[.b (false)],[.b (false)],[.b (false)],[]] ?_
   conv=>whnf
   refine ⟨⟨I,I,I,I,I,rfl,rfl,rfl,rfl,rfl,rfl,rfl,I,rfl,rfl,rfl,rfl,rfl,rfl,rfl,rfl,rfl,I,I⟩,by kernel_rfl,?_⟩
   refine g 10 140 [.call (V.b true) ([[]]),.b (false),.b (false),.b (false),.i (Int.tmod ((↑n:Int) + (1:Int)) (4:Int)),.b (false),.b (false),.b (false),.b (false),.b (false),.b (false),.b (true),.b (true),.b (true),.b (true),.b (false),.b (true),.b (false)] ?_
   conv=>whnf
   refine ⟨⟨I,⟨⟨I,I⟩,I,⟨⟨I,I,I,I,I,I,I,I,I,I,I,I⟩,I⟩,⟨I,I⟩,(by assumption)⟩,I,I,⟨rfl,I⟩,⟨rfl,I⟩,⟨rfl,(by omega),rfl⟩,⟨rfl,I⟩,⟨rfl,I⟩,rfl,I,⟨(by simp [*]),I⟩,⟨(by simp [*]),I⟩,⟨(by simp [*]),I⟩,⟨rfl,I⟩,⟨rfl,I⟩,⟨rfl,I⟩,⟨rfl,I⟩,⟨(by simp [*]),rfl⟩,(by simp [*]),I⟩,?_⟩
   refine W.cn ?_
   conv=>whnf
   refine ⟨noT (rfl),fun _=>?_⟩
   refine W.skip ?_
   refine rg [.i ((↑n:Int) + (1:Int) + (1:Int))] ?_
   conv=>whnf
   refine ⟨⟨I,w64 (by omega) (by omega),I,I⟩,?_⟩
   refine ⟨n + 1,[some 3,some 4,some 6,some 8],[],⟨rfl,⟨rfl,rfl,rfl,rfl,rfl,rfl,rfl,I⟩,⟨⟨rfl,⟨rfl,⟨rfl,⟨rfl,⟨rfl,⟨rfl,⟨rfl,⟨rfl,⟨rfl,⟨rfl,⟨rfl,⟨rfl,I⟩⟩⟩⟩⟩⟩⟩⟩⟩⟩⟩⟩,⟨⟨rfl,⟨rfl,I⟩⟩,⟨⟨rfl,⟨rfl,⟨rfl,⟨rfl,⟨rfl,⟨rfl,⟨rfl,⟨rfl,⟨rfl,I⟩⟩⟩⟩⟩⟩⟩⟩⟩,⟨⟨rfl,⟨rfl,⟨rfl,⟨rfl,⟨rfl,⟨rfl,⟨rfl,⟨rfl,⟨(congrArg (fun z=>V.t (T.v (Value.int _ z))) (by omega)),⟨rfl,⟨rfl,⟨(congrArg (fun z=>V.t (T.v (Value.int _ z))) (by omega)),I⟩⟩⟩⟩⟩⟩⟩⟩⟩⟩⟩⟩,I⟩⟩⟩⟩,I⟩,?_,?_⟩
   rotate_left 1
   (dsimp only; omega)
   dsimp only
   omega
 obtain ⟨b,hb⟩:∃ b,b = n:=⟨_,rfl⟩
 subst hb
 have hb0:t.cost - b - 1 = 0:=by omega
 have hvs:(valueV t.name (inN d)).size = 8:=valueV_size _ _
 have cval:F n_spec_Value [.val (.s t.name),.val (.t (strs (inN d)))] (.s (valueV t.name (inN d))) [[],[]]:=c_spec_Value t.name (inN d) (by omega) (by omega) (by have:=inN_tot d hd8; omega) (fun s hs=>by have:=inN_size s hs; omega)
 have hlb:(inN d).length ≤ 1048576:=by omega
 conv=>whnf
 refine W.sq ?_
 refine g 84 91 [.x (taskT t)] ?_
 conv=>whnf
 refine ⟨⟨I,I,I,I,⟨(by omega),ixl (by assumption)⟩,I,I,I,I⟩,?_⟩
 refine W.cn ?_
 conv=>whnf
 refine ⟨noT (dF (by omega)),fun _=>?_⟩
 refine W.exit ?_
 refine gd 91 158 [[],[],[],[],[],[],[],[],[],[],[.x (taskT t)],[],[],[],[],[.call (V.s (valueV (Task.name t) (inN d))) ([[],[]])],[],[],[]] ?_
 conv=>whnf
 refine ⟨⟨I,I,I,I,I,I,I,I,I,I,⟨(by omega),ixl (by assumption)⟩,I,I,I,I,⟨⟨I,I,I⟩,I,⟨⟨I,I⟩,⟨I,I⟩,I⟩,⟨I,I⟩,(by assumption)⟩,I,I,⟨I,I,I,I,I,I,I,I,I⟩,I⟩,by kernel_rfl,?_⟩
 refine W.sq ?_
 refine g 5 6 [] ?_
 conv=>whnf
 refine ⟨⟨I,I⟩,?_⟩
 refine W.blk ?_
 refine W.drop (lo:=17) (hi:=230) ?_
 conv=>whnf
 refine W.lp (fun s (n:Nat)=>⟨[(0,s.s 0),(3,s.s 3),(4,s.s 4),(6,s.s 6),(8,s.s 8),(9,s.s 9),(12,s.s 12),(13,.i n)],[(3,[s.c 3 0,s.c 3 1,s.c 3 2,s.c 3 3,s.c 3 4,s.c 3 5,s.c 3 6,s.c 3 7,s.c 3 8,s.c 3 9,s.c 3 10]),(4,[s.c 4 0]),(6,[s.c 6 0,s.c 6 1,s.c 6 2,s.c 6 3,s.c 6 4,s.c 6 5,s.c 6 6,s.c 6 7]),(12,[s.c 12 0,s.c 12 1,s.c 12 2,s.c 12 3,s.c 12 4,s.c 12 5,s.c 12 6,s.c 12 7]),(8,[.t (.i (stW w k t.cost d (valueV t.name (inN d)) b n).number),.t (.i (stW w k t.cost d (valueV t.name (inN d)) b n).epoch),.t (.b (stW w k t.cost d (valueV t.name (inN d)) b n).up),.t (.i (stW w k t.cost d (valueV t.name (inN d)) b n).state),.t (.i (stW w k t.cost d (valueV t.name (inN d)) b n).lease),.t (.i (stW w k t.cost d (valueV t.name (inN d)) b n).task),.t (.i (stW w k t.cost d (valueV t.name (inN d)) b n).cost),.t (.i (stW w k t.cost d (valueV t.name (inN d)) b n).left),.own [false] ((stW w k t.cost d (valueV t.name (inN d)) b n).inputs.map strT),.t (.s (stW w k t.cost d (valueV t.name (inN d)) b n).text),.t (.i (stW w k t.cost d (valueV t.name (inN d)) b n).since)])],[]⟩) (fun (n:Nat)=>n ≤ 9) (fun (n:Nat)=>9 - n) (0) [some 3,some 4,some 6,some 12,some 8] [] ⟨rfl,⟨rfl,rfl,rfl,rfl,rfl,rfl,rfl,rfl,I⟩,⟨⟨rfl,⟨rfl,⟨rfl,⟨rfl,⟨rfl,⟨rfl,⟨rfl,⟨rfl,⟨rfl,⟨rfl,⟨rfl,⟨rfl,I⟩⟩⟩⟩⟩⟩⟩⟩⟩⟩⟩⟩,⟨⟨rfl,⟨rfl,I⟩⟩,⟨⟨rfl,⟨rfl,⟨rfl,⟨rfl,⟨rfl,⟨rfl,⟨rfl,⟨rfl,⟨rfl,I⟩⟩⟩⟩⟩⟩⟩⟩⟩,⟨⟨rfl,⟨rfl,⟨rfl,⟨rfl,⟨rfl,⟨rfl,⟨rfl,⟨rfl,⟨rfl,I⟩⟩⟩⟩⟩⟩⟩⟩⟩,⟨⟨rfl,⟨rfl,⟨rfl,⟨rfl,⟨rfl,⟨rfl,⟨rfl,⟨rfl,⟨rfl,⟨rfl,⟨rfl,⟨rfl,I⟩⟩⟩⟩⟩⟩⟩⟩⟩⟩⟩⟩,I⟩⟩⟩⟩⟩,I⟩ (by omega) ?_
 intro n hn
 by_cases hn4:n < 9
 ·have sok:workerOk (stW w k t.cost d (valueV t.name (inN d)) b n):=by
   cases n with
   | zero=>exact busy_ok good (by omega) ⟨a5,a6⟩ (by omega) hd8
   | succ n=>exact told_ok good (by omega) hvs
  have sln:(stW w k t.cost d (valueV t.name (inN d)) b n).inputs.length ≤ 8:=by
   cases n with
   | zero=>show (inN d).length ≤ 8; omega
   | succ n=>exact Nat.zero_le _
  have sln1:(stW w k t.cost d (valueV t.name (inN d)) b (n + 1)).inputs.length ≤ 8:=Nat.zero_le _
  have q:=c_impl_WorkerTick (stW w k t.cost d (valueV t.name (inN d)) b n) p wf (by omega)
  rw [wtick_ok sok hc] at q
  by_cases h4:n % 4 = 0
  ·rw [st_tell ht0 hb0 n h4] at q
   have ck:F n_impl_WorkerTick [.val (.agg [.t (.i (stW w k t.cost d (valueV t.name (inN d)) b n).number),.t (.i (stW w k t.cost d (valueV t.name (inN d)) b n).epoch),.t (.b (stW w k t.cost d (valueV t.name (inN d)) b n).up),.t (.i (stW w k t.cost d (valueV t.name (inN d)) b n).state),.t (.i (stW w k t.cost d (valueV t.name (inN d)) b n).lease),.t (.i (stW w k t.cost d (valueV t.name (inN d)) b n).task),.t (.i (stW w k t.cost d (valueV t.name (inN d)) b n).cost),.t (.i (stW w k t.cost d (valueV t.name (inN d)) b n).left),.t (.slc [false] ((stW w k t.cost d (valueV t.name (inN d)) b n).inputs.map strT)),.t (.s (stW w k t.cost d (valueV t.name (inN d)) b n).text),.t (.i (stW w k t.cost d (valueV t.name (inN d)) b n).since)]),.val (planR p)] (.agg [.t (.i (stW w k t.cost d (valueV t.name (inN d)) b (n + 1)).number),.t (.i (stW w k t.cost d (valueV t.name (inN d)) b (n + 1)).epoch),.t (.b (stW w k t.cost d (valueV t.name (inN d)) b (n + 1)).up),.t (.i (stW w k t.cost d (valueV t.name (inN d)) b (n + 1)).state),.t (.i (stW w k t.cost d (valueV t.name (inN d)) b (n + 1)).lease),.t (.i (stW w k t.cost d (valueV t.name (inN d)) b (n + 1)).task),.t (.i (stW w k t.cost d (valueV t.name (inN d)) b (n + 1)).cost),.t (.i (stW w k t.cost d (valueV t.name (inN d)) b (n + 1)).left),.own [false] ((stW w k t.cost d (valueV t.name (inN d)) b (n + 1)).inputs.map strT),.t (.s (stW w k t.cost d (valueV t.name (inN d)) b (n + 1)).text),.t (.i (stW w k t.cost d (valueV t.name (inN d)) b (n + 1)).since),.own messageK [[.i 3,.i w.number,.i 0,.i w.epoch,.i 5000000,.i k,.s (valueV t.name (inN d)),.slc [false] []]]]) [[],[]]:=q
   have cm:F n_laws_wMessage [.val (.agg [.t (.i 3),.t (.i w.number),.t (.i 0),.t (.i w.epoch),.t (.i 5000000),.t (.i k),.t (.s (valueV t.name (inN d))),.t (.slc [false] ([]))]),.val (.agg [.t (.i 3),.t (.i w.number),.t (.i 0),.t (.i w.epoch),.t (.i 5000000),.t (.i k),.t (.s (valueV t.name (inN d))),.t (.slc [false] ([]))])] (.b true) [[],[]]:=c_laws_wMessage ⟨3,w.number,0,w.epoch,5000000,k,(valueV t.name (inN d)),[]⟩ (Nat.zero_le _)
   clear q
   have hq:(n:Int).tmod 4 = 0:=by rw [Int.tmod_eq_emod_of_nonneg (by omega)]; omega
   conv=>whnf
   refine W.sq ?_
   refine g 158 159 [] ?_
   conv=>whnf
   refine ⟨⟨I,I,I⟩,?_⟩
   refine W.cn ?_
   conv=>whnf
   refine ⟨fun _=>?_,noF (dT (by omega))⟩
   refine W.skip ?_
   refine W.sq ?_
   refine W.blk ?_
   refine g 159 165 [.call (V.agg [V.t (T.i (Worker.number (stW w k (Task.cost t) d (valueV (Task.name t) (inN d)) b (n + (1:Nat))))),V.t (T.i (Worker.epoch (stW w k (Task.cost t) d (valueV (Task.name t) (inN d)) b (n + (1:Nat))))),V.t (T.b (Worker.up (stW w k (Task.cost t) d (valueV (Task.name t) (inN d)) b (n + (1:Nat))))),V.t (T.i (Worker.state (stW w k (Task.cost t) d (valueV (Task.name t) (inN d)) b (n + (1:Nat))))),V.t (T.i (Worker.lease (stW w k (Task.cost t) d (valueV (Task.name t) (inN d)) b (n + (1:Nat))))),V.t (T.i (Worker.task (stW w k (Task.cost t) d (valueV (Task.name t) (inN d)) b (n + (1:Nat))))),V.t (T.i (Worker.cost (stW w k (Task.cost t) d (valueV (Task.name t) (inN d)) b (n + (1:Nat))))),V.t (T.i (Worker.left (stW w k (Task.cost t) d (valueV (Task.name t) (inN d)) b (n + (1:Nat))))),V.own [false] (List.map strT (Worker.inputs (stW w k (Task.cost t) d (valueV (Task.name t) (inN d)) b (n + (1:Nat))))),V.t (T.s (Worker.text (stW w k (Task.cost t) d (valueV (Task.name t) (inN d)) b (n + (1:Nat))))),V.t (T.i (Worker.since (stW w k (Task.cost t) d (valueV (Task.name t) (inN d)) b (n + (1:Nat))))),V.own messageK [[T.i (3:Int),T.i (Worker.number w),T.i (0:Int),T.i (Worker.epoch w),T.i (5000000:Int),T.i (↑k:Int),T.s (valueV (Task.name t) (inN d)),T.slc [false] []]]]) ([[],[]])] ?_
   conv=>whnf
   refine ⟨⟨I,I,⟨⟨I,I,I⟩,I,⟨⟨I,I,I,I,I,I,I,I,I,I,I,I⟩,⟨I,I⟩,I⟩,⟨I,I⟩,(by assumption)⟩,I,⟨I,I,I,I,I,I,I,I,I,I,I,I,I⟩,I⟩,?_⟩
   refine g 165 167 [] ?_
   conv=>whnf
   refine ⟨⟨I,I,⟨I,I,I,I,I,I,I,I,I,I,I,I⟩,I⟩,?_⟩
   refine gd 14 195 [[],[.i (Int.tmod (↑n:Int) (4:Int))],[],[],[.b (true)],[.b (true)],[.b (true)],[.b (true)],[.b (true)],[.b (false)],[.b (false)],[.b (false),.n ((0:Nat))],[.b (false),.x ([T.i (3:Int),T.i (Worker.number w),T.i (0:Int),T.i (Worker.epoch w),T.i (5000000:Int),T.i (↑k:Int),T.s (valueV (Task.name t) (inN d)),T.slc [false] []])],[.b (false)],[.b (false),.x ([T.i (3:Int),T.i (Worker.number w),T.i (0:Int),T.i (Worker.epoch w),T.i (5000000:Int),T.i (↑k:Int),T.s (valueV (Task.name t) (inN d)),T.slc [false] []]),.call (V.b true) ([[],[]])],[.b (false)],[.b (true),.b (false)],[.b (true)],[],[.b (false)],[.b (false),.i (Int.tmod (↑n:Int) (4:Int))],[.b (false)],[.b (false)],[.b (false)],[.b (false)],[.b (false)],[.b (false)],[.b (false),.b (false)],[.b (false)]] ?_
   conv=>whnf
   refine ⟨⟨I,⟨(by omega),rfl⟩,I,I,⟨dT (by omega),I⟩,⟨dT (by omega),I⟩,⟨dT (by omega),I⟩,⟨dT (by omega),I⟩,⟨dT (by omega),I⟩,⟨rfl,I⟩,⟨rfl,I⟩,⟨rfl,rfl,(by simp only [lens]; omega)⟩,⟨rfl,rfl⟩,⟨rfl,I⟩,⟨rfl,⟨I,I,I⟩,I,⟨⟨I,I,I,I,I,I,I,rfl,I⟩,⟨I,I,I,I,I,I,I,I,I⟩,I⟩,⟨I,I⟩,(by assumption)⟩,⟨rfl,I⟩,⟨dT (by omega),rfl⟩,dT (by omega),I,⟨rfl,I⟩,⟨rfl,(by omega),rfl⟩,⟨rfl,I⟩,⟨rfl,I⟩,notF (by omega),notF (by omega),notF (by omega),notF (by omega),⟨rfl,notF (by omega)⟩,rfl,I⟩,by kernel_rfl,?_⟩
   refine W.cn ?_
   conv=>whnf
   refine ⟨noT (rfl),fun _=>?_⟩
   refine W.skip ?_
   refine rg [.i ((↑n:Int) + (1:Int))] ?_
   conv=>whnf
   refine ⟨⟨I,w64 (by omega) (by omega),I,I⟩,?_⟩
   refine ⟨n + 1,[some 3,some 4,some 6,some 12,some 8],[],⟨rfl,⟨rfl,rfl,rfl,rfl,rfl,rfl,rfl,rfl,I⟩,⟨⟨rfl,⟨rfl,⟨rfl,⟨rfl,⟨rfl,⟨rfl,⟨rfl,⟨rfl,⟨rfl,⟨rfl,⟨rfl,⟨rfl,I⟩⟩⟩⟩⟩⟩⟩⟩⟩⟩⟩⟩,⟨⟨rfl,⟨rfl,I⟩⟩,⟨⟨rfl,⟨rfl,⟨rfl,⟨rfl,⟨rfl,⟨rfl,⟨rfl,⟨rfl,⟨rfl,I⟩⟩⟩⟩⟩⟩⟩⟩⟩,⟨⟨rfl,⟨rfl,⟨rfl,⟨rfl,⟨rfl,⟨rfl,⟨rfl,⟨rfl,⟨rfl,I⟩⟩⟩⟩⟩⟩⟩⟩⟩,⟨⟨rfl,⟨rfl,⟨rfl,⟨rfl,⟨rfl,⟨rfl,⟨rfl,⟨rfl,⟨rfl,⟨rfl,⟨rfl,⟨rfl,I⟩⟩⟩⟩⟩⟩⟩⟩⟩⟩⟩⟩,I⟩⟩⟩⟩⟩,I⟩,?_,?_⟩
   rotate_left 1
   (dsimp only; omega)
   dsimp only
   omega
  ·rw [st_wait n h4] at q
   have ck:F n_impl_WorkerTick [.val (.agg [.t (.i (stW w k t.cost d (valueV t.name (inN d)) b n).number),.t (.i (stW w k t.cost d (valueV t.name (inN d)) b n).epoch),.t (.b (stW w k t.cost d (valueV t.name (inN d)) b n).up),.t (.i (stW w k t.cost d (valueV t.name (inN d)) b n).state),.t (.i (stW w k t.cost d (valueV t.name (inN d)) b n).lease),.t (.i (stW w k t.cost d (valueV t.name (inN d)) b n).task),.t (.i (stW w k t.cost d (valueV t.name (inN d)) b n).cost),.t (.i (stW w k t.cost d (valueV t.name (inN d)) b n).left),.t (.slc [false] ((stW w k t.cost d (valueV t.name (inN d)) b n).inputs.map strT)),.t (.s (stW w k t.cost d (valueV t.name (inN d)) b n).text),.t (.i (stW w k t.cost d (valueV t.name (inN d)) b n).since)]),.val (planR p)] (.agg [.t (.i (stW w k t.cost d (valueV t.name (inN d)) b (n + 1)).number),.t (.i (stW w k t.cost d (valueV t.name (inN d)) b (n + 1)).epoch),.t (.b (stW w k t.cost d (valueV t.name (inN d)) b (n + 1)).up),.t (.i (stW w k t.cost d (valueV t.name (inN d)) b (n + 1)).state),.t (.i (stW w k t.cost d (valueV t.name (inN d)) b (n + 1)).lease),.t (.i (stW w k t.cost d (valueV t.name (inN d)) b (n + 1)).task),.t (.i (stW w k t.cost d (valueV t.name (inN d)) b (n + 1)).cost),.t (.i (stW w k t.cost d (valueV t.name (inN d)) b (n + 1)).left),.own [false] ((stW w k t.cost d (valueV t.name (inN d)) b (n + 1)).inputs.map strT),.t (.s (stW w k t.cost d (valueV t.name (inN d)) b (n + 1)).text),.t (.i (stW w k t.cost d (valueV t.name (inN d)) b (n + 1)).since),.own messageK []]) [[],[]]:=q
   clear q
   have hq:¬ (n:Int).tmod 4 = 0:=by rw [Int.tmod_eq_emod_of_nonneg (by omega)]; omega
   conv=>whnf
   refine W.sq ?_
   refine g 158 159 [] ?_
   conv=>whnf
   refine ⟨⟨I,I,I⟩,?_⟩
   refine W.cn ?_
   conv=>whnf
   refine ⟨fun _=>?_,noF (dT (by omega))⟩
   refine W.skip ?_
   refine W.sq ?_
   refine W.blk ?_
   refine g 159 165 [.call (V.agg [V.t (T.i (Worker.number (stW w k (Task.cost t) d (valueV (Task.name t) (inN d)) b (n + (1:Nat))))),V.t (T.i (Worker.epoch (stW w k (Task.cost t) d (valueV (Task.name t) (inN d)) b (n + (1:Nat))))),V.t (T.b (Worker.up (stW w k (Task.cost t) d (valueV (Task.name t) (inN d)) b (n + (1:Nat))))),V.t (T.i (Worker.state (stW w k (Task.cost t) d (valueV (Task.name t) (inN d)) b (n + (1:Nat))))),V.t (T.i (Worker.lease (stW w k (Task.cost t) d (valueV (Task.name t) (inN d)) b (n + (1:Nat))))),V.t (T.i (Worker.task (stW w k (Task.cost t) d (valueV (Task.name t) (inN d)) b (n + (1:Nat))))),V.t (T.i (Worker.cost (stW w k (Task.cost t) d (valueV (Task.name t) (inN d)) b (n + (1:Nat))))),V.t (T.i (Worker.left (stW w k (Task.cost t) d (valueV (Task.name t) (inN d)) b (n + (1:Nat))))),V.own [false] (List.map strT (Worker.inputs (stW w k (Task.cost t) d (valueV (Task.name t) (inN d)) b (n + (1:Nat))))),V.t (T.s (Worker.text (stW w k (Task.cost t) d (valueV (Task.name t) (inN d)) b (n + (1:Nat))))),V.t (T.i (Worker.since (stW w k (Task.cost t) d (valueV (Task.name t) (inN d)) b (n + (1:Nat))))),V.own messageK []]) ([[],[]])] ?_
   conv=>whnf
   refine ⟨⟨I,I,⟨⟨I,I,I⟩,I,⟨⟨I,I,I,I,I,I,I,I,I,I,I,I⟩,⟨I,I⟩,I⟩,⟨I,I⟩,(by assumption)⟩,I,⟨I,I,I,I,I,I,I,I,I,I,I,I,I⟩,I⟩,?_⟩
   refine g 165 167 [] ?_
   conv=>whnf
   refine ⟨⟨I,I,⟨I,I,I,I,I,I,I,I,I,I,I,I⟩,I⟩,?_⟩
   refine gd 14 195 [[],[.i (Int.tmod (↑n:Int) (4:Int))],[],[],[.b (false)],[.b (false)],[.b (false)],[.b (false)],[.b (false)],[.b (false)],[.b (false)],[.b (false)],[.b (false)],[.b (false)],[.b (false)],[.b (false)],[.b (false)],[.b (false)],[],[.b (false)],[.b (false),.i (Int.tmod (↑n:Int) (4:Int))],[.b (false)],[.b (false)],[.b (true)],[.b (true)],[.b (true)],[.b (true)],[.b (false),.b (true)],[.b (false)]] ?_
   conv=>whnf
   refine ⟨⟨I,⟨(by omega),rfl⟩,I,I,dF (by omega),dF (by omega),dF (by omega),dF (by omega),dF (by omega),I,I,I,I,I,I,I,dF (by omega),dF (by omega),I,⟨rfl,I⟩,⟨rfl,(by omega),rfl⟩,⟨rfl,I⟩,⟨rfl,I⟩,⟨notT (by omega),I⟩,⟨notT (by omega),I⟩,⟨notT (by omega),I⟩,⟨notT (by omega),I⟩,⟨rfl,notT (by omega)⟩,rfl,I⟩,by kernel_rfl,?_⟩
   refine W.cn ?_
   conv=>whnf
   refine ⟨noT (rfl),fun _=>?_⟩
   refine W.skip ?_
   refine rg [.i ((↑n:Int) + (1:Int))] ?_
   conv=>whnf
   refine ⟨⟨I,w64 (by omega) (by omega),I,I⟩,?_⟩
   refine ⟨n + 1,[some 3,some 4,some 6,some 12,some 8],[],⟨rfl,⟨rfl,rfl,rfl,rfl,rfl,rfl,rfl,rfl,I⟩,⟨⟨rfl,⟨rfl,⟨rfl,⟨rfl,⟨rfl,⟨rfl,⟨rfl,⟨rfl,⟨rfl,⟨rfl,⟨rfl,⟨rfl,I⟩⟩⟩⟩⟩⟩⟩⟩⟩⟩⟩⟩,⟨⟨rfl,⟨rfl,I⟩⟩,⟨⟨rfl,⟨rfl,⟨rfl,⟨rfl,⟨rfl,⟨rfl,⟨rfl,⟨rfl,⟨rfl,I⟩⟩⟩⟩⟩⟩⟩⟩⟩,⟨⟨rfl,⟨rfl,⟨rfl,⟨rfl,⟨rfl,⟨rfl,⟨rfl,⟨rfl,⟨rfl,I⟩⟩⟩⟩⟩⟩⟩⟩⟩,⟨⟨rfl,⟨rfl,⟨rfl,⟨rfl,⟨rfl,⟨rfl,⟨rfl,⟨rfl,⟨rfl,⟨rfl,⟨rfl,⟨rfl,I⟩⟩⟩⟩⟩⟩⟩⟩⟩⟩⟩⟩,I⟩⟩⟩⟩⟩,I⟩,?_,?_⟩
   rotate_left 1
   (dsimp only; omega)
   dsimp only
   omega
 obtain rfl:n = 9:=by omega
 have tok:workerOk (stW w k t.cost d (valueV t.name (inN d)) b 9):=told_ok good (by omega) hvs
 have mok2:msgOk ⟨4,0,w.number,2,5000000,0,emp,[]⟩:=⟨⟨by dsimp only; omega,by dsimp only; omega⟩,.inr (.inr (.inr (.inl ⟨rfl,rfl,g1,⟨by dsimp only; omega,by dsimp only; omega⟩,rfl,rfl,rfl⟩)))⟩
 have fr:workerOk ⟨w.number,w.epoch,true,0,0,0,0,0,[],emp,3⟩:=⟨g1,g2,⟨by dsimp only; omega,by dsimp only; omega⟩,.inl rfl,.inl ⟨rfl,rfl,rfl,rfl,rfl,rfl,rfl⟩⟩
 have fr2:workerOk ⟨w.number,w.epoch,true,0,0,0,0,0,[],emp,0⟩:=⟨g1,g2,⟨by dsimp only; omega,by dsimp only; omega⟩,.inl rfl,.inl ⟨rfl,rfl,rfl,rfl,rfl,rfl,rfl⟩⟩
 have ct2:F n_impl_WorkerTake [.val (.agg [.t (.i (stW w k t.cost d (valueV t.name (inN d)) b 9).number),.t (.i (stW w k t.cost d (valueV t.name (inN d)) b 9).epoch),.t (.b (stW w k t.cost d (valueV t.name (inN d)) b 9).up),.t (.i (stW w k t.cost d (valueV t.name (inN d)) b 9).state),.t (.i (stW w k t.cost d (valueV t.name (inN d)) b 9).lease),.t (.i (stW w k t.cost d (valueV t.name (inN d)) b 9).task),.t (.i (stW w k t.cost d (valueV t.name (inN d)) b 9).cost),.t (.i (stW w k t.cost d (valueV t.name (inN d)) b 9).left),.t (.slc [false] ((stW w k t.cost d (valueV t.name (inN d)) b 9).inputs.map strT)),.t (.s (stW w k t.cost d (valueV t.name (inN d)) b 9).text),.t (.i (stW w k t.cost d (valueV t.name (inN d)) b 9).since)]),.val (planR p),.val (.agg [.t (.i 4),.t (.i 0),.t (.i w.number),.t (.i 2),.t (.i 5000000),.t (.i 0),.t (.s emp),.t (.slc [false] ([]))])] (.agg [.t (.i w.number),.t (.i w.epoch),.t (.b true),.t (.i (0)),.t (.i (0)),.t (.i (0)),.t (.i (0)),.t (.i (0)),.own [false] ([]),.t (.s emp),.t (.i (3)),.own messageK []]) [[],[],[]]:=by
  have q:=c_impl_WorkerTake (stW w k t.cost d (valueV t.name (inN d)) b 9) p ⟨4,0,w.number,2,5000000,0,emp,[]⟩ wf (Nat.zero_le _) (Nat.zero_le _)
  have hf:forMe (stW w k t.cost d (valueV t.name (inN d)) b 9) ⟨4,0,w.number,2,5000000,0,emp,[]⟩:=⟨rfl,mok2,rfl⟩
  have htk:takesThanks (stW w k t.cost d (valueV t.name (inN d)) b 9) ⟨4,0,w.number,2,5000000,0,emp,[]⟩:=⟨rfl,rfl,rfl⟩
  rw [wtake_ok tok hc,take_thanks hf htk] at q
  exact q
 have ck2:F n_impl_WorkerTick [.val (.agg [.t (.i w.number),.t (.i w.epoch),.t (.b true),.t (.i (0)),.t (.i (0)),.t (.i (0)),.t (.i (0)),.t (.i (0)),.t (.slc [false] ([])),.t (.s emp),.t (.i (3))]),.val (planR p)] (.agg [.t (.i w.number),.t (.i w.epoch),.t (.b true),.t (.i (0)),.t (.i (0)),.t (.i (0)),.t (.i (0)),.t (.i (0)),.own [false] ([]),.t (.s emp),.t (.i (0)),.own messageK [[.i 5,.i w.number,.i 0,.i w.epoch,.i 0,.i 0,.s emp,.slc [false] []]]]) [[],[]]:=by
  have q:=c_impl_WorkerTick ⟨w.number,w.epoch,true,0,0,0,0,0,[],emp,3⟩ p wf (Nat.zero_le _)
  rw [wtick_ok fr hc,tick_free (by simp) rfl (by rw [since_small (by dsimp only; omega)]; dsimp only; omega)] at q
  exact q
 have cv2:F n_spec_ValidWorker [.val (.agg [.t (.i w.number),.t (.i w.epoch),.t (.b true),.t (.i (0)),.t (.i (0)),.t (.i (0)),.t (.i (0)),.t (.i (0)),.t (.slc [false] ([])),.t (.s emp),.t (.i (0))])] (.b true) [[]]:=by
  have q:=c_spec_ValidWorker ⟨w.number,w.epoch,true,0,0,0,0,0,[],emp,0⟩ (Nat.zero_le _)
  rw [decide_eq_true fr2] at q
  exact q
 conv=>whnf
 refine W.sq ?_
 refine g 158 159 [] ?_
 conv=>whnf
 refine ⟨⟨I,I,I⟩,?_⟩
 refine W.cn ?_
 conv=>whnf
 refine ⟨noT (rfl),fun _=>?_⟩
 refine W.exit ?_
 refine g 159 205 [.call (V.agg [V.t (T.i (Worker.number w)),V.t (T.i (Worker.epoch w)),V.t (T.b true),V.t (T.i (0:Int)),V.t (T.i (0:Int)),V.t (T.i (0:Int)),V.t (T.i (0:Int)),V.t (T.i (0:Int)),V.own [false] [],V.t (T.s emp),V.t (T.i (3:Int)),V.own messageK []]) ([[],[],[]])] ?_
 conv=>whnf
 refine ⟨⟨I,I,I,I,I,I,I,⟨⟨I,I,I,I⟩,I,⟨⟨I,I,I,I,I,I,I,I,I,I,I,I⟩,⟨I,I⟩,⟨I,I,I,I,I,I,I,I,I⟩,I⟩,⟨I,I⟩,(by assumption)⟩,I,I,⟨I,I,I,I,I,I,I,I,I,I,I,I⟩,I⟩,?_⟩
 refine g 205 208 [.call (V.agg [V.t (T.i (Worker.number w)),V.t (T.i (Worker.epoch w)),V.t (T.b true),V.t (T.i (0:Int)),V.t (T.i (0:Int)),V.t (T.i (0:Int)),V.t (T.i (0:Int)),V.t (T.i (0:Int)),V.own [false] [],V.t (T.s emp),V.t (T.i (0:Int)),V.own messageK [[T.i (5:Int),T.i (Worker.number w),T.i (0:Int),T.i (Worker.epoch w),T.i (0:Int),T.i (0:Int),T.s emp,T.slc [false] []]]]) ([[],[]])] ?_
 conv=>whnf
 refine ⟨⟨I,I,⟨⟨I,I,I⟩,I,⟨⟨I,I,I,I,I,I,I,I,I,I,I,I⟩,⟨I,I⟩,I⟩,⟨I,I⟩,(by assumption)⟩,I,⟨I,I,I,I,I,I,I,I,I,I,I,I,I⟩,I⟩,?_⟩
 refine g 6 230 [.b (true),.b (true),.b (true),.b (true),.b (true),.b (true),.b (true),.b (true),.n ((0:Nat)),.b (true),.b (true),.x ([T.i (5:Int),T.i (Worker.number w),T.i (0:Int),T.i (Worker.epoch w),T.i (0:Int),T.i (0:Int),T.s emp,T.slc [false] []]),.b (true),.b (true),.b (true),.b (true),.b (true),.call (V.b true) ([[]]),.b (true)] ?_
 conv=>whnf
 refine ⟨⟨I,I,I,I,⟨rfl,I⟩,⟨rfl,I⟩,⟨rfl,I⟩,⟨rfl,I⟩,rfl,I,⟨rfl,I⟩,⟨rfl,I⟩,⟨rfl,rfl,(by simp only [lens]; omega)⟩,⟨rfl,I⟩,⟨rfl,rfl⟩,⟨rfl,I⟩,rfl,I,⟨rfl,I⟩,⟨rfl,I⟩,⟨rfl,⟨I,I⟩,I,⟨⟨I,I,I,I,I,I,I,I,I,I,I,I⟩,I⟩,⟨I,I⟩,(by assumption)⟩,rfl,I,I⟩,?_⟩
 refine W.ret ?_
 refine EndsW.rt ?_
 conv=>whnf
 refine ⟨⟨I,I,I⟩,?_,rfl⟩
 rfl
end Go.K
end

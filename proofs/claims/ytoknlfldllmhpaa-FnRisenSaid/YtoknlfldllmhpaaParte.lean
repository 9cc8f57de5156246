/- Contracts of functions of the program: what each call answers. -/
import Derived.Test.YtoknlfldllmhpaaPartd
set_option maxHeartbeats 8000000
set_option maxRecDepth 20000
set_option linter.unusedVariables false
set_option linter.unusedSimpArgs false
section
open Go Go.Tm Go.Proofs
namespace Go.K
attribute [local irreducible] ByteArray.extract
theorem kW{m:Message}{s key:ByteArray}(h:¬s.size < 19):dK m key = s↔bC m∧key.size≤30∧cT m = s.extract 8 s.size∧s.extract 0 8 = eG (s.extract 8 s.size) key:=by
 unfold dK
 constructor
 ·intro e
  by_cases hc:bC m∧key.size≤30
  ·rw[if_pos hc]at e
   have h8:(eG (cT m) key).size = 8:=gF _
   have hb:s.extract 8 s.size = cT m:=by
    rw[←e,ByteArray.size_append,h8,ByteArray.extract_append_eq_right h8.symm OM]
   have hs:s.extract 0 8 = eG (cT m) key:=by
    rw[←e,ByteArray.extract_append_eq_left h8.symm]
   exact⟨hc.1,hc.2,hb.symm,by rw[hs,hb]⟩
  ·rw[if_neg hc]at e
   rw[←e]at h
   exact absurd (show emp.size < 19 by decide) h
 ·rintro⟨h1,h2,h3,h4⟩
  rw[if_pos ⟨h1,h2⟩,h3,←h4,ByteArray.extract_append_extract,Nat.min_eq_left OM,Nat.max_eq_right OM,ByteArray.extract_zero_size]
end Go.K
end
section
open Go Go.Tm Go.Proofs
namespace Go.K
attribute [local irreducible] ByteArray.extract
end Go.K
end
section
open Go Go.Tm Go.Proofs
namespace Go.K
structure Acted where
 worker:Worker
 out:List Message
 deriving DecidableEq
abbrev re(x:Acted):V:=.agg [.t (.i x.worker.number),.t (.i x.worker.epoch),.t (.b x.worker.up),.t (.i x.worker.state),.t (.i x.worker.lease),.t (.i x.worker.task),.t (.i x.worker.cost),.t (.i x.worker.left),.own [false] (x.worker.inputs.map aq),.t (.s x.worker.text),.t (.i x.worker.since),.own cH (x.out.map aK)]
abbrev vN:Acted:=⟨⟨0,0,false,0,0,0,0,0,[],emp,0⟩,[]⟩
def eQ(w:Worker)(k:Int):Message:=⟨k,w.number,0,w.epoch,if k = 5 then 0 else w.lease,if k = 3 then w.task else 0,if k = 3 then w.text else emp,[]⟩
theorem dg(w:Worker)(k:Int)(hk:k = 2∨k = 3∨k = 5):F xC [.val (eC w),.val (.i k)] (bz (eQ w k)) [[],[]]:=by
 rcases hk with rfl|rfl|rfl
 ·refine jK ?_
  conv=>whnf
  refine g 0 0 []<|J Zee<|g 6 12 []<|J ⟨I,I,I,I,I,I,I,UH,I⟩<|W.sq<|g 0 1 []<|J UB<|W.cn<|J (fun _=>(rg []<|J UW (W.sq (g 12 18 []<|J UB (W.cn<|J (noT rfl) fun _=>(W.skip (g 5 26 []<|J ⟨I,UH,I⟩ (RT ?_)))))))) (noF rfl)
  rfl
 ·refine jK ?_
  conv=>whnf
  refine g 0 0 []<|J Zee<|g 6 12 []<|J ⟨I,I,I,I,I,I,I,UH,I⟩<|W.sq<|g 0 1 []<|J UB<|W.cn<|J (fun _=>(rg []<|J UW (W.sq (g 12 18 []<|J UB (W.cn<|J (fun _=>(g 18 22 []<|J UW (rg []<|J UW (g 5 26 []<|J ⟨I,UH,I⟩ ?_)))) (noF rfl)))))) (noF rfl)
  refine RT ?_
  rfl
 ·refine jK ?_
  conv=>whnf
  refine g 0 0 []<|J Zee<|g 6 12 []<|J ⟨I,I,I,I,I,I,I,UH,I⟩<|W.sq<|g 0 1 []<|J UB<|W.cn<|J (noT rfl) fun _=>W.skip<|W.sq<|g 12 18 []<|J UB<|W.cn<|J (noT rfl) fun _=>W.skip<|g 5 26 []<|J ⟨I,UH,I⟩<|RT ?_
  rfl
def xu(ts:List Task)(k:Int):ByteArray:=((ts[k.toNat]?).map Task.name).getD emp
def aP(w:Worker):Int:=if w.since < 1000000 then w.since+1 else w.since
def fW(w:Worker)(ts:List Task):Worker:=⟨w.number,w.epoch,w.up,2,w.lease,w.task,0,w.left - 1,[],bm (xu ts w.task) w.inputs,0⟩
def cu(w:Worker)(s:Int):Worker:=⟨w.number,w.epoch,w.up,w.state,w.lease,w.task,w.cost,w.left,w.inputs,w.text,s⟩
def mh(w:Worker):Worker:=⟨w.number,w.epoch,w.up,w.state,w.lease,w.task,w.cost,w.left - 1,w.inputs,w.text,w.since⟩
def yG(w:Worker)(k:Int):Acted:=⟨cu w 0,[eQ (cu w 0) k]⟩
def fK(w:Worker)(ts:List Task):Acted :=
 if w.up = false then⟨w,[]⟩else
 if w.state = 1 then
  if w.left - 1 = 0 then⟨fW w ts,[eQ (fW w ts) 3]⟩
  else if 4≤aP w then yG (mh w) 2 else⟨cu (mh w) (aP w),[]⟩
 else if w.state = 2 then(if 4≤aP w then yG w 3 else⟨cu w (aP w),[]⟩)
 else if 3≤aP w then yG w 5 else⟨cu w (aP w),[]⟩
theorem Db{w:Worker}(h:au w):(1≤w.number∧w.number≤8)∧(1≤w.epoch∧w.epoch≤300)∧(0≤w.since∧w.since≤1000000):=⟨h.1,h.2.1,h.2.2.1⟩
theorem vL{w:Worker}(h:au w)(h1:w.state = 1):dB w:=by
 rcases h.2.2.2.2 with q|q|q
 ·have:=q.1;omega
 ·exact q
 ·have:=q.1;omega
theorem wG{w:Worker}(h:au w):w.state = 0∨w.state = 1∨w.state = 2:=by
 rcases h.2.2.2.2 with q|q|q
 ·exact .inl q.1
 ·exact .inr (.inl q.1)
 ·exact .inr (.inr q.1)
theorem sQ{w:Worker}{ts:List Task}(h:w.up = false):fK w ts = ⟨w,[]⟩:=if_pos h
theorem kz{w:Worker}{ts:List Task}(h:¬w.up = false)(h1:w.state = 1)(h2:w.left - 1 = 0):fK w ts = ⟨fW w ts,[eQ (fW w ts) 3]⟩:=by rw[fK,if_neg h,if_pos h1,if_pos h2]
theorem kA{w:Worker}{ts:List Task}(h:¬w.up = false)(h1:w.state = 1)(h2:¬w.left - 1 = 0)(h4:4≤aP w):fK w ts = yG (mh w) 2:=by rw[fK,if_neg h,if_pos h1,if_neg h2,if_pos h4]
theorem sR{w:Worker}{ts:List Task}(h:¬w.up = false)(h1:w.state = 1)(h2:¬w.left - 1 = 0)(h4:¬4≤aP w):fK w ts = ⟨cu (mh w) (aP w),[]⟩:=by rw[fK,if_neg h,if_pos h1,if_neg h2,if_neg h4]
theorem kw{w:Worker}{ts:List Task}(h:¬w.up = false)(h1:w.state = 2)(h4:4≤aP w):fK w ts = yG w 3:=by rw[fK,if_neg h,if_neg OM,if_pos h1,if_pos h4]
theorem pt{w:Worker}{ts:List Task}(h:¬w.up = false)(h1:w.state = 2)(h4:¬4≤aP w):fK w ts = ⟨cu w (aP w),[]⟩:=by rw[fK,if_neg h,if_neg OM,if_pos h1,if_neg h4]
theorem ky{w:Worker}{ts:List Task}(h:¬w.up = false)(h1:w.state = 0)(h4:3≤aP w):fK w ts = yG w 5:=by rw[fK,if_neg h,if_neg OM,if_neg OM,if_pos h4]
theorem pu{w:Worker}{ts:List Task}(h:¬w.up = false)(h1:w.state = 0)(h4:¬3≤aP w):fK w ts = ⟨cu w (aP w),[]⟩:=by rw[fK,if_neg h,if_neg OM,if_neg OM,if_neg h4]
theorem GC{ts:List Task}{k:Int}{t:Task}(h:ts[k.toNat]? = some t):xu ts k = t.name:=by unfold xu;rw[h];rfl
theorem Dg{ts:List Task}{k:Int}(h:ts[k.toNat]? = none):xu ts k = emp:=by unfold xu;rw[h];rfl
theorem zF{w:Worker}(h:dB w):w.inputs.length≤8∧(∀ s∈w.inputs,s.size≤1048576)∧fp w.inputs≤64:=by
 obtain⟨h1,h2⟩:=h.2.2.2.2.1
 have:=wx (xs:=w.inputs) fun s hs=>Nat.le_of_eq (h1 s hs)
 exact⟨h2,fun s hs=>by have:=h1 s hs;omega,by omega⟩
noncomputable def gL(w:Worker)(p:Plan):Acted:=if au w∧am p.tasks = 0 then fK w p.tasks else vN
theorem CH{w:Worker}{p:Plan}(h:¬(au w∧am p.tasks = 0)):gL w p = vN:=if_neg h
theorem dQ{w:Worker}{p:Plan}(h:au w)(h2:am p.tasks = 0):gL w p = fK w p.tasks:=if_pos ⟨h,h2⟩
theorem qp(w:Worker)(p:Plan)(hp:cR p)(hll:w.inputs.length≤1048576):F p9 [.val (eC w),.val (bn p)] (re (gL w p)) [[],[]]:=by
 have cp:=cL p hp
 by_cases h:au w
 ·by_cases hc:am p.tasks = 0
  ·rw[hc]at cp
   obtain⟨⟨f1,f2⟩,⟨f3,f4⟩,f5,f6⟩:=Db h
   by_cases hup:w.up = false
   ·refine aL ?_
    conv=>whnf
    refine g 0 0 []<|J Zb7<|W.sq<|g 8 15 [.call (V.b (decide (au w))) [[]],BF,BF,.call (V.i 0) [[]],BF,BF]<|J ⟨I,⟨UA,I,⟨UK,I⟩,UA,ar _ OM⟩,I,I,⟨nO,I⟩,Zbi,⟨nO,I⟩,nO,I⟩<|W.cn<|J (noT rfl) fun _=>W.skip<|g 15 19 [.call (aE w) [[]]]<|J ⟨I,⟨UA,I,⟨UK,I⟩,UA,aC _ OM⟩,I,UK,I⟩<|W.sq<|g 19 21 []<|J UC<|W.cn<|J (fun _=>(g 21 24 []<|J ⟨I,I,UL,I⟩ (RT ?_))) (noF (nbT AS))
    rw[dQ h hc,sQ hup];rfl
   ·rcases wG h with h1|h1|h1
    ·skip
     by_cases hs:w.since < 1000000
     ·have e:aP w = w.since+1:=if_pos hs
      by_cases h4:3≤aP w
      ·have ct:=dg (cu w 0) 5 OM
       have h5:=h4
       rw[e]at h5
       refine aL ?_
       conv=>whnf
       refine g 0 0 []<|J Zb7<|W.sq<|g 8 15 [.call (V.b (decide (au w))) [[]],BF,BF,.call (V.i 0) [[]],BF,BF]<|J ⟨I,⟨UA,I,⟨UK,I⟩,UA,ar _ OM⟩,I,I,⟨nO,I⟩,Zbi,⟨nO,I⟩,nO,I⟩<|W.cn<|J (noT rfl) fun _=>W.skip<|g 15 19 [.call (aE w) [[]]]<|J ⟨I,⟨UA,I,⟨UK,I⟩,UA,aC _ OM⟩,I,UK,I⟩<|W.sq<|g 19 21 []<|J UC<|W.cn<|J (noT SI) fun _=>W.skip<|W.sq<|g 21 26 []<|J UC ?_
       refine W.cn<|J (fun _=>(rg [.i (w.since+1)]<|J Zbb (g 26 31 []<|J UA (W.sq (g 2 3 []<|J UB (W.blk (g 31 32 []<|J UB (W.cn<|J (noT dO) fun _=>(g 32 38 []<|J UB (W.cn<|J (noT dO) fun _=>(g 33 35 []<|J UC (W.cn<|J (fun _=>?_) (noF tO))))))))))))) (noF tO)
       refine rg []<|J UA<|W.sq<|g 35 76 []<|J UB<|W.cn<|J (noT rfl) fun _=>W.skip<|g 76 80 []<|J UV<|gd 5 86 [[],[],[],[.call (bz (eQ (cu w 0) 5)) [[],[]]],[],[],[]] ?_
       conv=>whnf
       refine J Zao<|J KR<|RT ?_
       rw[dQ h hc,ky hup h1 h4];rfl
      ·have h5:=h4
       rw[e]at h5
       refine aL ?_
       conv=>whnf
       refine g 0 0 []<|J Zb7<|W.sq<|g 8 15 [.call (V.b (decide (au w))) [[]],BF,BF,.call (V.i 0) [[]],BF,BF]<|J ⟨I,⟨UA,I,⟨UK,I⟩,UA,ar _ OM⟩,I,I,⟨nO,I⟩,Zbi,⟨nO,I⟩,nO,I⟩<|W.cn<|J (noT rfl) fun _=>W.skip<|g 15 19 [.call (aE w) [[]]]<|J ⟨I,⟨UA,I,⟨UK,I⟩,UA,aC _ OM⟩,I,UK,I⟩<|W.sq<|g 19 21 []<|J UC<|W.cn<|J (noT SI) fun _=>W.skip<|W.sq<|g 21 26 []<|J UC ?_
       refine W.cn<|J (fun _=>(rg [.i (w.since+1)]<|J Zbb (g 26 31 []<|J UA (W.sq (g 2 3 []<|J UB (W.blk (g 31 32 []<|J UB (W.cn<|J (noT dO) fun _=>(g 32 38 []<|J UB (W.cn<|J (noT dO) fun _=>(g 33 35 []<|J UC (W.cn<|J (noT dO) fun _=>?_)))))))))))) (noF tO)
       refine W.skip<|W.sq<|g 35 76 []<|J UB<|W.cn<|J (fun _=>(g 76 79 []<|J ⟨I,I,UL,I⟩ (RT ?_))) (noF rfl)
       rw[dQ h hc,pu hup h1 h4,e];rfl
     ·have e:aP w = w.since:=if_neg hs
      by_cases h4:3≤aP w
      ·have ct:=dg (cu w 0) 5 OM
       have h5:=h4
       rw[e]at h5
       refine aL ?_
       conv=>whnf
       refine g 0 0 []<|J Zb7<|W.sq<|g 8 15 [.call (V.b (decide (au w))) [[]],BF,BF,.call (V.i 0) [[]],BF,BF]<|J ⟨I,⟨UA,I,⟨UK,I⟩,UA,ar _ OM⟩,I,I,⟨nO,I⟩,Zbi,⟨nO,I⟩,nO,I⟩<|W.cn<|J (noT rfl) fun _=>W.skip<|g 15 19 [.call (aE w) [[]]]<|J ⟨I,⟨UA,I,⟨UK,I⟩,UA,aC _ OM⟩,I,UK,I⟩<|W.sq<|g 19 21 []<|J UC<|W.cn<|J (noT SI) fun _=>W.skip<|W.sq<|g 21 26 []<|J UC ?_
       refine W.cn<|J (noT dO) fun _=>W.skip<|g 2 3 []<|J UA<|W.sq<|g 26 32 []<|J UB<|W.blk<|g 37 38 []<|J UB<|W.cn<|J (noT dO) fun _=>g 32 37 []<|J UB<|W.cn<|J (noT dO) fun _=>g 33 35 []<|J UC<|W.cn<|J (fun _=>?_) (noF tO)
       refine rg []<|J UA<|W.sq<|g 35 76 []<|J UB<|W.cn<|J (noT rfl) fun _=>W.skip<|g 76 80 []<|J UV<|gd 5 86 [[],[],[],[.call (bz (eQ (cu w 0) 5)) [[],[]]],[],[],[]] ?_
       conv=>whnf
       refine J Zao<|J KR<|RT ?_
       rw[dQ h hc,ky hup h1 h4];rfl
      ·exfalso;omega
    ·have hb:=vL h h1
     obtain⟨hl8,hes,htt⟩:=zF hb
     obtain⟨_,⟨_,b3,b4⟩,⟨b5,b6⟩,⟨b7,b8⟩,_⟩:=hb
     by_cases hl:w.left - 1 = 0
     ·by_cases ht:w.task < p.tasks.length
      ·obtain⟨t,ht2⟩:=ak (xs:=p.tasks) (n:=w.task.toNat) OM
       obtain⟨⟨g1,g2⟩,_⟩:=bP hc ht2
       have cv:=ib t.name w.inputs OM OM OM hes
       have ct:=dg ⟨w.number,w.epoch,w.up,2,w.lease,w.task,0,w.left - 1,[],bm t.name w.inputs,0⟩ 3 OM
       refine aL ?_
       conv=>whnf
       refine g 0 0 []<|J Zb7<|W.sq<|g 8 15 [.call (V.b (decide (au w))) [[]],BF,BF,.call (V.i 0) [[]],BF,BF]<|J ⟨I,⟨UA,I,⟨UK,I⟩,UA,ar _ OM⟩,I,I,⟨nO,I⟩,Zbi,⟨nO,I⟩,nO,I⟩<|W.cn<|J (noT rfl) fun _=>W.skip<|g 15 19 [.call (aE w) [[]]]<|J ⟨I,⟨UA,I,⟨UK,I⟩,UA,aC _ OM⟩,I,UK,I⟩<|W.sq<|g 19 21 []<|J UC<|W.cn<|J (noT SI) fun _=>W.skip<|W.sq<|g 21 26 []<|J UC ?_
       refine W.cn<|J (fun h2=>?_) fun h2=>?_
       replace h2:=dt h2
       refine rg [.i (w.since+1)]<|J Zbb<|g 26 31 []<|J UA<|W.sq<|g 2 3 []<|J UB<|W.blk<|g 31 32 []<|J UB<|W.cn<|J (fun _=>(g 32 42 [.i (w.left - 1)]<|J Zbb (g 42 44 []<|J UC (W.cn<|J (fun _=>(g 44 45 []<|J UA (W.sq ?_))) (noF tO))))) (noF tO)
       refine g 45 50 []<|J UF<|W.cn<|J (fun _=>(rg [.x (aD t)]<|J Zc2 (g 7 63 [.call (V.s (bm t.name w.inputs)) [[],[]]]<|J Zd0 (g 3 4 []<|J UV (g 63 65 []<|J UV (g 65 67 []<|J ⟨I,I,UA,I⟩ (rg []<|J UA (W.sq (g 75 76 []<|J UB (W.cn<|J (noT rfl) fun _=>(W.skip ?_))))))))))) (noF SI)
       refine g 76 80 []<|J UV<|gd 5 86 [[],[],[],[.call (bz (eQ {number:=w.number,epoch:=w.epoch,up:=w.up,state:=2,lease:=w.lease,task:=w.task,cost:=0,left:=w.left - 1,inputs:=[],text:=bm t.name w.inputs,since:=0:Worker} 3)) [[],[]]],[],[],[]] ?_
       conv=>whnf
       refine J Zao<|J KR<|RT ?_
       rotate_left
       replace h2:=df h2
       refine W.skip<|g 2 3 []<|J UA<|W.sq<|g 26 32 []<|J UB<|W.blk<|g 37 38 []<|J UB<|W.cn<|J (fun _=>(g 32 42 [.i (w.left - 1)]<|J Zbb (g 42 44 []<|J UC (W.cn<|J (fun _=>(g 44 45 []<|J UA (W.sq ?_))) (noF tO))))) (noF tO)
       refine g 45 50 []<|J UF<|W.cn<|J (fun _=>(rg [.x (aD t)]<|J Zc2 (g 7 63 [.call (V.s (bm t.name w.inputs)) [[],[]]]<|J Zd0 (g 3 4 []<|J UV (g 63 65 []<|J UV (g 65 67 []<|J ⟨I,I,UA,I⟩ (rg []<|J UA (W.sq (g 75 76 []<|J UB (W.cn<|J (noT rfl) fun _=>(W.skip ?_))))))))))) (noF SI)
       refine g 76 80 []<|J UV<|gd 5 86 [[],[],[],[.call (bz (eQ {number:=w.number,epoch:=w.epoch,up:=w.up,state:=2,lease:=w.lease,task:=w.task,cost:=0,left:=w.left - 1,inputs:=[],text:=bm t.name w.inputs,since:=0:Worker} 3)) [[],[]]],[],[],[]] ?_
       conv=>whnf
       refine J Zao<|J KR<|RT ?_
       rotate_left
       all_goals (rw[dQ h hc,kz hup h1 hl,fW,GC ht2];rfl)
      ·have ht2:p.tasks[w.task.toNat]? = none:=List.getElem?_eq_none OM
       have cv:=ib emp w.inputs (by decide) OM OM hes
       have ct:=dg ⟨w.number,w.epoch,w.up,2,w.lease,w.task,0,w.left - 1,[],bm emp w.inputs,0⟩ 3 OM
       refine aL ?_
       conv=>whnf
       refine g 0 0 []<|J Zb7<|W.sq<|g 8 15 [.call (V.b (decide (au w))) [[]],BF,BF,.call (V.i 0) [[]],BF,BF]<|J ⟨I,⟨UA,I,⟨UK,I⟩,UA,ar _ OM⟩,I,I,⟨nO,I⟩,Zbi,⟨nO,I⟩,nO,I⟩<|W.cn<|J (noT rfl) fun _=>W.skip<|g 15 19 [.call (aE w) [[]]]<|J ⟨I,⟨UA,I,⟨UK,I⟩,UA,aC _ OM⟩,I,UK,I⟩<|W.sq<|g 19 21 []<|J UC<|W.cn<|J (noT SI) fun _=>W.skip<|W.sq<|g 21 26 []<|J UC ?_
       refine W.cn<|J (fun h2=>?_) fun h2=>?_
       replace h2:=dt h2
       refine rg [.i (w.since+1)]<|J Zbb<|g 26 31 []<|J UA<|W.sq<|g 2 3 []<|J UB<|W.blk<|g 31 32 []<|J UB<|W.cn<|J (fun _=>(g 32 42 [.i (w.left - 1)]<|J Zbb (g 42 44 []<|J UC (W.cn<|J (fun _=>(g 44 45 []<|J UA (W.sq ?_))) (noF tO))))) (noF tO)
       refine g 45 50 []<|J UF<|W.cn<|J (noT SI) fun _=>W.skip<|g 7 63 [.call (V.s (bm emp w.inputs)) [[],[]]]<|J Zd0<|g 3 4 []<|J UV<|g 63 65 []<|J UV<|g 65 67 []<|J ⟨I,I,UA,I⟩<|rg []<|J UA<|W.sq<|g 75 76 []<|J UB<|W.cn<|J (noT rfl) fun _=>W.skip ?_
       refine g 76 80 []<|J UV<|gd 5 86 [[],[],[],[.call (bz (eQ {number:=w.number,epoch:=w.epoch,up:=w.up,state:=2,lease:=w.lease,task:=w.task,cost:=0,left:=w.left - 1,inputs:=[],text:=bm emp w.inputs,since:=0:Worker} 3)) [[],[]]],[],[],[]] ?_
       conv=>whnf
       refine J Zao<|J KR<|RT ?_
       rotate_left
       replace h2:=df h2
       refine W.skip<|g 2 3 []<|J UA<|W.sq<|g 26 32 []<|J UB<|W.blk<|g 37 38 []<|J UB<|W.cn<|J (fun _=>(g 32 42 [.i (w.left - 1)]<|J Zbb (g 42 44 []<|J UC (W.cn<|J (fun _=>(g 44 45 []<|J UA (W.sq ?_))) (noF tO))))) (noF tO)
       refine g 45 50 []<|J UF<|W.cn<|J (noT SI) fun _=>W.skip<|g 7 63 [.call (V.s (bm emp w.inputs)) [[],[]]]<|J Zd0<|g 3 4 []<|J UV<|g 63 65 []<|J UV<|g 65 67 []<|J ⟨I,I,UA,I⟩<|rg []<|J UA<|W.sq<|g 75 76 []<|J UB<|W.cn<|J (noT rfl) fun _=>W.skip ?_
       refine g 76 80 []<|J UV<|gd 5 86 [[],[],[],[.call (bz (eQ {number:=w.number,epoch:=w.epoch,up:=w.up,state:=2,lease:=w.lease,task:=w.task,cost:=0,left:=w.left - 1,inputs:=[],text:=bm emp w.inputs,since:=0:Worker} 3)) [[],[]]],[],[],[]] ?_
       conv=>whnf
       refine J Zao<|J KR<|RT ?_
       rotate_left
       all_goals (rw[dQ h hc,kz hup h1 hl,fW,Dg ht2];rfl)
     ·skip
      by_cases hs:w.since < 1000000
      ·have e:aP w = w.since+1:=if_pos hs
       by_cases h4:4≤aP w
       ·have ct:=dg (cu (mh w) 0) 2 OM
        have h5:=h4
        rw[e]at h5
        refine aL ?_
        conv=>whnf
        refine g 0 0 []<|J Zb7<|W.sq<|g 8 15 [.call (V.b (decide (au w))) [[]],BF,BF,.call (V.i 0) [[]],BF,BF]<|J ⟨I,⟨UA,I,⟨UK,I⟩,UA,ar _ OM⟩,I,I,⟨nO,I⟩,Zbi,⟨nO,I⟩,nO,I⟩<|W.cn<|J (noT rfl) fun _=>W.skip<|g 15 19 [.call (aE w) [[]]]<|J ⟨I,⟨UA,I,⟨UK,I⟩,UA,aC _ OM⟩,I,UK,I⟩<|W.sq<|g 19 21 []<|J UC<|W.cn<|J (noT SI) fun _=>W.skip<|W.sq<|g 21 26 []<|J UC ?_
        refine W.cn<|J (fun _=>(rg [.i (w.since+1)]<|J Zbb (g 26 31 []<|J UA (W.sq (g 2 3 []<|J UB (W.blk (g 31 32 []<|J UB (W.cn<|J (fun _=>(g 32 42 [.i (w.left - 1)]<|J Zbb (g 42 44 []<|J UC (W.cn<|J (noT dO) fun _=>(g 44 69 []<|J UC ?_))))) (noF tO))))))))) (noF tO)
        refine W.cn<|J (fun _=>(rg []<|J UA (W.sq (g 69 76 []<|J UB (W.cn<|J (noT rfl) fun _=>(W.skip (g 76 80 []<|J UV (gd 5 86 [[],[],[],[.call (bz (eQ (cu (mh w) 0) 2)) [[],[]]],[],[],[]] ?_)))))))) (noF tO)
        conv=>whnf
        refine⟨Zao,by kernel_rfl,?_⟩
        refine RT ?_
        rw[dQ h hc,kA hup h1 hl h4];rfl
       ·have h5:=h4
        rw[e]at h5
        refine aL ?_
        conv=>whnf
        refine g 0 0 []<|J Zb7<|W.sq<|g 8 15 [.call (V.b (decide (au w))) [[]],BF,BF,.call (V.i 0) [[]],BF,BF]<|J ⟨I,⟨UA,I,⟨UK,I⟩,UA,ar _ OM⟩,I,I,⟨nO,I⟩,Zbi,⟨nO,I⟩,nO,I⟩<|W.cn<|J (noT rfl) fun _=>W.skip<|g 15 19 [.call (aE w) [[]]]<|J ⟨I,⟨UA,I,⟨UK,I⟩,UA,aC _ OM⟩,I,UK,I⟩<|W.sq<|g 19 21 []<|J UC<|W.cn<|J (noT SI) fun _=>W.skip<|W.sq<|g 21 26 []<|J UC ?_
        refine W.cn<|J (fun _=>(rg [.i (w.since+1)]<|J Zbb (g 26 31 []<|J UA (W.sq (g 2 3 []<|J UB (W.blk (g 31 32 []<|J UB (W.cn<|J (fun _=>(g 32 42 [.i (w.left - 1)]<|J Zbb (g 42 44 []<|J UC (W.cn<|J (noT dO) fun _=>(g 44 69 []<|J UC ?_))))) (noF tO))))))))) (noF tO)
        refine W.cn<|J (noT dO) fun _=>W.skip<|W.sq<|g 69 76 []<|J UB<|W.cn<|J (fun _=>(g 76 79 []<|J ⟨I,I,UL,I⟩ (RT ?_))) (noF rfl)
        rw[dQ h hc,sR hup h1 hl h4,e];rfl
      ·have e:aP w = w.since:=if_neg hs
       by_cases h4:4≤aP w
       ·have ct:=dg (cu (mh w) 0) 2 OM
        have h5:=h4
        rw[e]at h5
        refine aL ?_
        conv=>whnf
        refine g 0 0 []<|J Zb7<|W.sq<|g 8 15 [.call (V.b (decide (au w))) [[]],BF,BF,.call (V.i 0) [[]],BF,BF]<|J ⟨I,⟨UA,I,⟨UK,I⟩,UA,ar _ OM⟩,I,I,⟨nO,I⟩,Zbi,⟨nO,I⟩,nO,I⟩<|W.cn<|J (noT rfl) fun _=>W.skip<|g 15 19 [.call (aE w) [[]]]<|J ⟨I,⟨UA,I,⟨UK,I⟩,UA,aC _ OM⟩,I,UK,I⟩<|W.sq<|g 19 21 []<|J UC<|W.cn<|J (noT SI) fun _=>W.skip<|W.sq<|g 21 26 []<|J UC ?_
        refine W.cn<|J (noT dO) fun _=>W.skip<|g 2 3 []<|J UA<|W.sq<|g 26 32 []<|J UB<|W.blk<|g 37 38 []<|J UB<|W.cn<|J (fun _=>(g 32 42 [.i (w.left - 1)]<|J Zbb (g 42 44 []<|J UC (W.cn<|J (noT dO) fun _=>(g 44 69 []<|J UC ?_))))) (noF tO)
        refine W.cn<|J (fun _=>(rg []<|J UA (W.sq (g 69 76 []<|J UB (W.cn<|J (noT rfl) fun _=>(W.skip (g 76 80 []<|J UV (gd 5 86 [[],[],[],[.call (bz (eQ (cu (mh w) 0) 2)) [[],[]]],[],[],[]] ?_)))))))) (noF tO)
        conv=>whnf
        refine⟨Zao,by kernel_rfl,?_⟩
        refine RT ?_
        rw[dQ h hc,kA hup h1 hl h4];rfl
       ·exfalso;omega
    ·skip
     by_cases hs:w.since < 1000000
     ·have e:aP w = w.since+1:=if_pos hs
      by_cases h4:4≤aP w
      ·have ct:=dg (cu w 0) 3 OM
       have h5:=h4
       rw[e]at h5
       refine aL ?_
       conv=>whnf
       refine g 0 0 []<|J Zb7<|W.sq<|g 8 15 [.call (V.b (decide (au w))) [[]],BF,BF,.call (V.i 0) [[]],BF,BF]<|J ⟨I,⟨UA,I,⟨UK,I⟩,UA,ar _ OM⟩,I,I,⟨nO,I⟩,Zbi,⟨nO,I⟩,nO,I⟩<|W.cn<|J (noT rfl) fun _=>W.skip<|g 15 19 [.call (aE w) [[]]]<|J ⟨I,⟨UA,I,⟨UK,I⟩,UA,aC _ OM⟩,I,UK,I⟩<|W.sq<|g 19 21 []<|J UC<|W.cn<|J (noT SI) fun _=>W.skip<|W.sq<|g 21 26 []<|J UC ?_
       refine W.cn<|J (fun _=>(rg [.i (w.since+1)]<|J Zbb (g 26 31 []<|J UA (W.sq (g 2 3 []<|J UB (W.blk (g 31 32 []<|J UB (W.cn<|J (noT dO) fun _=>(g 32 38 []<|J UB (W.cn<|J (fun _=>(g 70 74 []<|J UC (W.cn<|J (fun _=>?_) (noF tO)))) (noF tO))))))))))) (noF tO)
       refine rg []<|J UA<|W.sq<|g 74 76 []<|J UB<|W.cn<|J (noT rfl) fun _=>W.skip<|g 76 80 []<|J UV<|gd 5 86 [[],[],[],[.call (bz (eQ (cu w 0) 3)) [[],[]]],[],[],[]] ?_
       conv=>whnf
       refine J Zao<|J KR<|RT ?_
       rw[dQ h hc,kw hup h1 h4];rfl
      ·have h5:=h4
       rw[e]at h5
       refine aL ?_
       conv=>whnf
       refine g 0 0 []<|J Zb7<|W.sq<|g 8 15 [.call (V.b (decide (au w))) [[]],BF,BF,.call (V.i 0) [[]],BF,BF]<|J ⟨I,⟨UA,I,⟨UK,I⟩,UA,ar _ OM⟩,I,I,⟨nO,I⟩,Zbi,⟨nO,I⟩,nO,I⟩<|W.cn<|J (noT rfl) fun _=>W.skip<|g 15 19 [.call (aE w) [[]]]<|J ⟨I,⟨UA,I,⟨UK,I⟩,UA,aC _ OM⟩,I,UK,I⟩<|W.sq<|g 19 21 []<|J UC<|W.cn<|J (noT SI) fun _=>W.skip<|W.sq<|g 21 26 []<|J UC ?_
       refine W.cn<|J (fun _=>(rg [.i (w.since+1)]<|J Zbb (g 26 31 []<|J UA (W.sq (g 2 3 []<|J UB (W.blk (g 31 32 []<|J UB (W.cn<|J (noT dO) fun _=>(g 32 38 []<|J UB (W.cn<|J (fun _=>(g 70 74 []<|J UC (W.cn<|J (noT dO) fun _=>?_))) (noF tO))))))))))) (noF tO)
       refine W.skip<|W.sq<|g 74 76 []<|J UB<|W.cn<|J (fun _=>(g 76 79 []<|J ⟨I,I,UL,I⟩ (RT ?_))) (noF rfl)
       rw[dQ h hc,pt hup h1 h4,e];rfl
     ·have e:aP w = w.since:=if_neg hs
      by_cases h4:4≤aP w
      ·have ct:=dg (cu w 0) 3 OM
       have h5:=h4
       rw[e]at h5
       refine aL ?_
       conv=>whnf
       refine g 0 0 []<|J Zb7<|W.sq<|g 8 15 [.call (V.b (decide (au w))) [[]],BF,BF,.call (V.i 0) [[]],BF,BF]<|J ⟨I,⟨UA,I,⟨UK,I⟩,UA,ar _ OM⟩,I,I,⟨nO,I⟩,Zbi,⟨nO,I⟩,nO,I⟩<|W.cn<|J (noT rfl) fun _=>W.skip<|g 15 19 [.call (aE w) [[]]]<|J ⟨I,⟨UA,I,⟨UK,I⟩,UA,aC _ OM⟩,I,UK,I⟩<|W.sq<|g 19 21 []<|J UC<|W.cn<|J (noT SI) fun _=>W.skip<|W.sq<|g 21 26 []<|J UC ?_
       refine W.cn<|J (noT dO) fun _=>W.skip<|g 2 3 []<|J UA<|W.sq<|g 26 32 []<|J UB<|W.blk<|g 37 38 []<|J UB<|W.cn<|J (noT dO) fun _=>g 32 37 []<|J UB<|W.cn<|J (fun _=>(g 70 74 []<|J UC (W.cn<|J (fun _=>?_) (noF tO)))) (noF tO)
       refine rg []<|J UA<|W.sq<|g 74 76 []<|J UB<|W.cn<|J (noT rfl) fun _=>W.skip<|g 76 80 []<|J UV<|gd 5 86 [[],[],[],[.call (bz (eQ (cu w 0) 3)) [[],[]]],[],[],[]] ?_
       conv=>whnf
       refine J Zao<|J KR<|RT ?_
       rw[dQ h hc,kw hup h1 h4];rfl
      ·exfalso;omega
  ·rw[CH (fun q=>hc q.2)]
   refine aL ?_
   conv=>whnf
   refine g 0 0 []<|J Zb7<|W.sq<|g 8 15 [.call (V.b (decide (au w))) [[]],BF,BF,.call (V.i (am p.tasks)) [[]],BF,BF]<|J ⟨I,⟨UA,I,⟨UK,I⟩,UA,ar _ OM⟩,I,I,⟨nO,I⟩,Zbi,⟨nO,I⟩,nO,I⟩<|W.cn<|J (fun _=>(g 15 17 []<|J Zdi (RT ?_))) (noF (ah OM))
   rfl
 ·rw[CH (fun q=>h q.1)]
  refine aL ?_
  conv=>whnf
  refine g 0 0 []<|J Zb7<|W.sq<|g 8 15 [.call (V.b (decide (au w))) [[]],BT,BT,BT,BT]<|J ⟨I,⟨UA,I,⟨UK,I⟩,UA,ar _ OM⟩,I,I,ah OM,ah OM,ah OM,ah OM,I⟩<|W.cn<|J (fun _=>(g 15 17 []<|J Zdi (RT ?_))) (noF rfl)
  rfl
end Go.K
end
section
open Go Go.Tm Go.Proofs
namespace Go.K
theorem sH(b:Boss)(h1:b.log.safe.length≤1048576)(h2:b.log.loose.length≤1048576)(h3:b.results.length≤1048576)(h4:b.jobs.length≤1048576)(h5:b.seats.length≤1048576)(h6:b.owed.length≤1048576):F j9 [.val (cE b)] (ay b) [[]]:=by
 refine sB ?_
 conv=>whnf
 refine g 0 0 []<|J ⟨UL,I,I⟩<|gd 3 13 [[],[],[],[.call (V.own [false] (List.map aq b.log.safe)) [[]]],[],[],[],[.call (V.own [false] (List.map aq b.log.loose)) [[]]],[],[],[]] ?_
 conv=>whnf
 refine J ⟨I,I,I,⟨UA,I,US,UA,dZ _ OM⟩,I,I,I,⟨UA,I,US,UA,dZ _ OM⟩,I,I,UB,I⟩<|J KR<|g 13 17 [.call (V.own [false] (List.map aq b.results)) [[]]]<|J ⟨I,I,⟨UA,I,US,UA,dZ _ OM⟩,I,UA,I⟩<|g 17 22 []<|J Zb9<|g 22 27 []<|J Zb9<|g 27 32 []<|J Zb9<|g 0 2 []<|J Zdi<|RT ?_
 rfl
theorem As(l:Log)(h1:l.safe.length≤1048576)(h2:l.loose.length≤1048576):F z0 [.val (RC l)] (RD l) [[]]:=by
 refine Ae ?_
 conv=>whnf
 refine g 0 0 []<|J ⟨UB,I,I⟩<|gd 3 12 [[],[],[],[],[],[],[],[],[],[]] ?_
 conv=>whnf
 refine J ⟨I,I,I,Zdh,I,I,I,Zdh,I,UB,I⟩<|J KR<|RT ?_
 rfl
theorem oM(b:Boss)(h1:b.log.safe.length≤1048576)(h2:b.log.loose.length≤1048576)(h3:b.results.length≤1048576)(h4:b.jobs.length≤1048576)(h5:b.seats.length≤1048576)(h6:b.owed.length≤1048576):F oi [.val (cE b)] (ay b) [[]]:=by
 have c1:=As b.log h1 h2
 refine xW ?_
 conv=>whnf
 refine g 0 1 []<|J ⟨UL,I,I⟩<|g 3 7 [.call (RD b.log) [[]]]<|J ⟨I,I,⟨UA,I,⟨UB,I⟩,UA,AS⟩,I,UB,I⟩<|g 7 12 []<|J Zb9<|g 12 17 []<|J Zb9<|g 17 22 []<|J Zb9<|g 22 27 []<|J Zb9<|g 1 2 []<|J Zdi<|RT ?_
 rfl
def hZ(k:Int)(n:Nat):Nat:=if k < 0 then 0 else if k < n then k.toNat else n
theorem KH{k:Int}{n:Nat}(h:k < 0):hZ k n = 0:=if_pos h
theorem KI{k:Int}{n:Nat}(h:0≤k)(h2:k < n):hZ k n = k.toNat:=by rw[hZ,if_neg OM,if_pos h2]
theorem DI{k:Int}{n:Nat}(h2:(n:Int)≤k):hZ k n = n:=by rw[hZ,if_neg OM,if_neg OM]
theorem AX(k:Int)(n:Nat):hZ k n≤n:=by
 unfold hZ;split
 ·omega
 ·split <;> omega
theorem N1(k:Int)(n:Nat):max 0 (min k (n:Int)) = (hZ k n:Int):=by
 unfold hZ;split
 ·omega
 ·split <;> omega
theorem PT(k:Int)(n:Nat)(h:n≤1048576):IntKind.i64.wrap (max 0 (min k (n:Int))) = (hZ k n:Int):=by
 rw[N1]
 have:=AX k n
 exact wO
def dN(b:Boss)(k:Int):Boss:=if b.up = false then b else⟨b.workers,false,b.now,0,0,0,⟨b.log.safe++b.log.loose.take (hZ k b.log.loose.length),[]⟩,[],[],[],[]⟩
theorem nT{b:Boss}{k:Int}(h:b.up = false):dN b k = b:=if_pos h
theorem v9{b:Boss}{k:Int}(h:¬b.up = false):dN b k = ⟨b.workers,false,b.now,0,0,0,⟨b.log.safe++b.log.loose.take (hZ k b.log.loose.length),[]⟩,[],[],[],[]⟩:=if_neg h
theorem sJ(b:Boss)(k:Int)(h1:b.log.safe.length≤1048576)(h2:b.log.loose.length≤1048576):F sf [.ptr (cellsOf (ay b)),.val (.i k)] (.tup []) [cellsOf (ay (dN b k)),[]]:=by
 by_cases hup:b.up = false
 ·rw[nT hup]
  refine kg ?_
  conv=>whnf
  refine g 4 6 []<|J UD<|W.cn<|J (noT AS) fun _=>W.skip<|EndsW.nm<|J I (J ?_ rfl)
  rfl
 ·rw[v9 hup]
  have hcl:=AX k b.log.loose.length
  have hw:IntKind.i64.wrap (max 0 (min k ((List.map aq b.log.loose).length:Int))) = (hZ k b.log.loose.length:Int):=by rw[List.length_map];exact PT _ _ h2
  refine kg ?_
  conv=>whnf
  refine g 4 6 []<|J UD<|W.cn<|J (fun _=>(g 7 17 [.i (match false with|true=>max k (↑(List.length (List.map aq b.log.loose)):Int)|false=>min k (↑(List.length (List.map aq b.log.loose)):Int)),.i (IntKind.wrap IntKind.i64   (match true with   |true =>     max 0       (match false with       |true=>max k (↑(List.length (List.map aq b.log.loose)):Int)       |false=>min k (↑(List.length (List.map aq b.log.loose)):Int))   |false =>     min 0       (match false with       |true=>max k (↑(List.length (List.map aq b.log.loose)):Int)       |false=>min k (↑(List.length (List.map aq b.log.loose)):Int))))]<|J ⟨I,I,I,I,I,I,I,rfl,w64 LN LN,I,I⟩ (rgd [[],[],[],[],[],[],[],[],[],[],[],[],[],[],[],[],[],[],[],[],[.n (hZ k (List.length b.log.loose))],[],[],[],[],[]] ?_))) (noF SI)
  conv=>whnf
  refine⟨⟨I,I,I,I,I,I,I,I,I,I,I,I,I,I,I,I,I,I,I,I,⟨I,hw,I,OM,LN⟩,Zdh,I,I,I,UL,I⟩,by kernel_rfl,?_⟩
  refine EndsW.nm<|J I<|J ?_ ?_
  rfl
  all_goals (simp only[List.nil_append,List.drop_zero,List.length_map,←List.map_take,←List.map_append];rfl)
structure BossLim (b:Boss):Prop where
 safe:b.log.safe.length≤1048576
 loose:b.log.loose.length≤1048576
 all:∀ s∈b.log.safe++b.log.loose,s.size≤281474976710656
 res:b.results.length≤1048576
 jobs:b.jobs.length≤1048576
 seats:b.seats.length≤1048576
 owed:b.owed.length≤1048576
theorem rL(b:Boss)(p:Plan)(hp:cR p)(h:BossLim b):F ge [.val (cE b),.val (bn p)] (.b (decide (BossOk b p))) [[],[]]:=sE b p hp h.safe h.loose h.all h.res h.jobs h.seats h.owed
theorem jh(b:Boss)(p:Plan)(hp:cR p)(h:BossLim b):F cJ [.val (cE b),.val (bn p)] (.b (decide (BossOk b p))) [[],[]]:=sC b p hp h.safe h.loose h.all h.res h.jobs h.seats h.owed
theorem Ht(b:Boss)(h:BossLim b):F j9 [.val (cE b)] (ay b) [[]]:=sH b h.safe h.loose h.res h.jobs h.seats h.owed
theorem oH(b:Boss)(h:BossLim b):F oi [.val (cE b)] (ay b) [[]]:=oM b h.safe h.loose h.res h.jobs h.seats h.owed
noncomputable def nX(b:Boss)(p:Plan)(k:Int):Boss:=if BossOk b p then dN b k else fC
theorem nu{b:Boss}{p:Plan}{k:Int}(h:BossOk b p):nX b p k = dN b k:=if_pos h
theorem rP{b:Boss}{p:Plan}{k:Int}(h:¬BossOk b p):nX b p k = fC:=if_neg h
theorem lO(b:Boss)(p:Plan)(k:Int)(hp:cR p)(h:BossLim b):F dr [.val (cE b),.val (bn p),.val (.i k)] (ay (nX b p k)) [[],[],[]]:=by
 have cv:=rL b p hp h
 by_cases hv:BossOk b p
 ·rw[decide_eq_true hv]at cv
  rw[nu hv]
  have ct:=Ht b h
  have cf:=sJ b k h.safe h.loose
  refine lA ?_
  conv=>whnf
  refine g 0 2 []<|J Zce<|W.sq<|g 7 10 [.call VT [[],[]]]<|J Zdo<|W.cn<|J (noT rfl) fun _=>W.skip<|g 10 14 [.call (ay b) [[]]]<|J ⟨I,Zay,UL,I⟩<|g 14 16 [.call (V.tup []) ([cellsOf (ay (dN b k)),[]])]<|J ⟨I,Zcb,I⟩<|g 2 5 []<|J Zdi<|RT ?_
  rfl
 ·rw[decide_eq_false hv]at cv
  rw[rP hv]
  refine lA ?_
  conv=>whnf
  refine g 0 2 []<|J Zce<|W.sq<|g 7 10 [.call VF [[],[]]]<|J Zdo<|W.cn<|J (fun _=>(g 10 12 []<|J Zdi (RT ?_))) (noF rfl)
  rfl
theorem lM(b:Boss)(p:Plan)(k:Int)(hp:cR p)(h:BossLim b):F gN [.val (cE b),.val (bn p),.val (.i k)] (ay (nX b p k)) [[],[],[]]:=by
 have cv:=jh b p hp h
 have h1:=h.safe
 have h2:=h.loose
 by_cases hv:BossOk b p
 ·rw[decide_eq_true hv]at cv
  rw[nu hv]
  have ct:=oH b h
  by_cases hup:b.up = false
  ·rw[nT hup]
   refine eb ?_
   conv=>whnf
   refine g 1 2 []<|J Zce<|W.sq<|g 7 10 [.call VT [[],[]]]<|J Zdo<|W.cn<|J (noT rfl) fun _=>W.skip<|W.sq<|g 10 14 []<|J UC<|W.cn<|J (fun _=>(g 14 17 [.call (ay b) [[]]]<|J ⟨I,Zay,UL,I⟩ (RT ?_))) (noF (nbT AS))
   rfl
  ·rw[v9 hup]
   by_cases hk:k < 0
   ·rw[KH hk]
    refine eb ?_
    conv=>whnf
    refine g 1 2 []<|J Zce<|W.sq<|g 7 10 [.call VT [[],[]]]<|J Zdo<|W.cn<|J (noT rfl) fun _=>W.skip<|W.sq<|g 10 14 []<|J UC<|W.cn<|J (noT SI) fun _=>W.skip<|W.sq<|g 14 18 []<|J UB<|W.cn<|J (fun _=>?_) (noF tO)
    refine rg []<|J UA<|W.sq<|g 18 24 []<|J UF<|W.cn<|J (noT rfl) fun _=>W.skip<|gd 24 40 [[],[],[],[],[],[],[],[],[],[],[],[],[],[.n (0)],[],[],[],[]] ?_
    conv=>whnf
    refine J ⟨I,I,I,I,I,I,I,I,Zdh,I,I,I,I,⟨I,rfl,I,OM,OM⟩,Zdh,I,I,UL,I⟩<|J KR<|RT ?_
    all_goals (simp only[List.nil_append,List.drop_zero,List.length_map,←List.map_take,←List.map_append];rfl)
   ·by_cases hk2:k < b.log.loose.length
    ·rw[KI OM hk2]
     refine eb ?_
     conv=>whnf
     refine g 1 2 []<|J Zce<|W.sq<|g 7 10 [.call VT [[],[]]]<|J Zdo<|W.cn<|J (noT rfl) fun _=>W.skip<|W.sq<|g 10 14 []<|J UC<|W.cn<|J (noT SI) fun _=>W.skip<|W.sq<|g 14 18 []<|J UB<|W.cn<|J (noT dO) fun _=>?_
     refine W.skip<|W.sq<|g 18 24 []<|J UF<|W.cn<|J (fun h3=>?_) fun h3=>?_
     replace h3:=dt h3
     simp only[LM]at h3
     omega
     replace h3:=df h3
     simp only[LM]at h3
     refine W.skip<|gd 24 40 [[],[],[],[],[],[],[],[],[],[],[],[],[],[.n (Int.toNat k)],[],[],[],[]] ?_
     conv=>whnf
     refine J ⟨I,I,I,I,I,I,I,I,Zdh,I,I,I,I,⟨I,OM,I,OM,LN⟩,Zdh,I,I,UL,I⟩<|J KR<|RT ?_
     all_goals first|(exfalso;omega)|(simp only[List.nil_append,List.drop_zero,List.length_map,←List.map_take,←List.map_append];rfl)
    ·rw[DI OM]
     refine eb ?_
     conv=>whnf
     refine g 1 2 []<|J Zce<|W.sq<|g 7 10 [.call VT [[],[]]]<|J Zdo<|W.cn<|J (noT rfl) fun _=>W.skip<|W.sq<|g 10 14 []<|J UC<|W.cn<|J (noT SI) fun _=>W.skip<|W.sq<|g 14 18 []<|J UB<|W.cn<|J (noT dO) fun _=>?_
     refine W.skip<|W.sq<|g 18 24 []<|J UF<|W.cn<|J (fun h3=>?_) fun h3=>?_
     replace h3:=dt h3
     simp only[LM]at h3
     refine rg []<|J UE<|gd 24 40 [[],[],[],[],[],[],[],[],[],[],[],[],[],[.n (List.length (List.map aq b.log.loose))],[],[],[],[]] ?_
     conv=>whnf
     refine J ⟨I,I,I,I,I,I,I,I,Zdh,I,I,I,I,⟨I,rfl,I,OM,OM⟩,Zdh,I,I,UL,I⟩<|J KR<|RT ?_
     rotate_left
     replace h3:=df h3
     simp only[LM]at h3
     refine W.skip<|gd 24 40 [[],[],[],[],[],[],[],[],[],[],[],[],[],[.n (Int.toNat k)],[],[],[],[]] ?_
     conv=>whnf
     refine J ⟨I,I,I,I,I,I,I,I,Zdh,I,I,I,I,⟨I,OM,I,OM,LN⟩,Zdh,I,I,UL,I⟩<|J KR<|RT ?_
     rotate_left
     ·simp only[List.nil_append,List.drop_zero,List.length_map,←List.map_take,←List.map_append];rfl
     ·have e:k = b.log.loose.length:=by omega
      subst e
      simp only[List.nil_append,List.drop_zero,List.length_map,Int.toNat_natCast,←List.map_take,←List.map_append];rfl
 ·rw[decide_eq_false hv]at cv
  rw[rP hv]
  refine eb ?_
  conv=>whnf
  refine g 1 2 []<|J Zce<|W.sq<|g 7 10 [.call VF [[],[]]]<|J Zdo<|W.cn<|J (fun _=>(g 10 12 []<|J Zdi (RT ?_))) (noF rfl)
  rfl
end Go.K
end
section
open Go Go.Tm Go.Proofs
namespace Go.K
abbrev cq(w now:Int)(safe:List ByteArray):Boss:=⟨w,false,now,0,0,0,⟨safe,[]⟩,[],[],[],[]⟩
theorem Hq{b:Boss}(hup:b.up = false)(d:DownOk b):b = cq b.workers b.now b.log.safe:=by
 obtain⟨w,up,now,since,ep,given,⟨safe,loose⟩,rs,js,ss,ow⟩:=b
 obtain⟨d1,d2,d3,d4,d5,d6,d7,d8⟩:=d
 simp only at hup d1 d2 d3 d4 d5 d6 d7 d8
 subst hup d2 d3 d4
 rw[List.eq_nil_of_length_eq_zero d1,List.eq_nil_of_length_eq_zero d5,List.eq_nil_of_length_eq_zero d6,List.eq_nil_of_length_eq_zero d7,List.eq_nil_of_length_eq_zero d8]
def epE(n:Int):Entry:=⟨1,n,0,emp⟩
def upB(w now:Int)(safe:List ByteArray)(p:Plan)(st:Story):Boss:=⟨w,true,now,0,st.epoch+1,0,⟨safe++ [bB (epE (st.epoch+1))],[]⟩,st.results,List.replicate p.tasks.length eS,List.replicate w.toNat jB,[]⟩
def n9(b:Boss)(p:Plan):Prop:=b.up = false∧b.log.safe.length < 310∧(aw p b.log.safe).epoch < 300
noncomputable instance (b:Boss) (p:Plan):Decidable (n9 b p):=Classical.propDecidable _
noncomputable def aY(b:Boss)(p:Plan):Boss:=if n9 b p then upB b.workers b.now b.log.safe p (aw p b.log.safe)else b
theorem mf{b:Boss}{p:Plan}(h:¬n9 b p):aY b p = b:=if_neg h
theorem xf{b:Boss}{p:Plan}(h:n9 b p):aY b p = upB b.workers b.now b.log.safe p (aw p b.log.safe):=if_pos h
theorem Ns(n:Nat):(List.replicate n eS).map aH = List.replicate n (aH eS):=List.map_replicate
theorem J0(n:Nat):(List.replicate n jB).map aI = List.replicate n (aI jB):=List.map_replicate
theorem HQ(n:Nat):(List.replicate n eS).map aH++ [aH eS] = (List.replicate (n+1) eS).map aH:=by simp[List.replicate_succ']
theorem HP(n:Nat):(List.replicate n jB).map aI++ [aI jB] = (List.replicate (n+1) jB).map aI:=by simp[List.replicate_succ']
theorem CM(w now:Int)(safe:List ByteArray)(p:Plan)(st:Story):ay (upB w now safe p st) = .agg [.t (.i w),.t (.b true),.t (.i now),.t (.i 0),.t (.i (st.epoch+1)),.t (.i 0),.own [false] (safe.map aq++ [aq (bB ⟨1,st.epoch+1,0,emp⟩)]),.own [false] [],.own [false] (st.results.map aq),.own ey ((List.replicate p.tasks.length eS).map aH),.own cz ((List.replicate w.toNat jB).map aI),.own cA []]:=by
 simp only[ay,upB,List.map_append];rfl
theorem tY(w now:Int)(safe:List ByteArray)(p:Plan)(hp:cR p)(hw:1≤w∧w≤8)(hs:∀ s∈safe,s.size≤281474976710656)(hc:(aw p safe).code = 0):F gf [.ptr [.t (.i w),.t (.b false),.t (.i now),.t (.i 0),.t (.i 0),.t (.i 0),.own [false] (safe.map aq),.own [false] [],.own [false] [],.own ey [],.own cz [],.own cA []],.val (bn p)] (.tup []) [cellsOf (ay (aY (cq w now safe) p)),[]]:=by
 obtain⟨hck,hl,_,_⟩:=bR hc
 obtain⟨he1,he2⟩:=eu hc
 have hpl:=(bM hck).1
 have cr:=jV p safe hp hs OM
 by_cases hl2:safe.length < 310
 ·by_cases he:(aw p safe).epoch < 300
  ·rw[xf ⟨rfl,hl2,he⟩]
   have cf:=kn 1 ((aw p safe).epoch+1) 0 emp (by decide)
   rw[GQ]at cf
   rw[CM]
   refine eK ?_
   conv=>whnf
   refine g 0 0 []<|J US<|W.sq<|g 5 17 [BF,BF,BF,BF,BF,BF,BF,BF]<|J Zca<|W.cn<|J (fun h1=>?_) fun h1=>?_
   replace h1:=dt h1
   simp only[LM]at h1
   omega
   replace h1:=df h1
   simp only[LM]at h1
   refine W.skip<|gd 17 25 [[],[],[],[],[],[],[.call (eM (aw p safe)) [[],[]]],[],[]] ?_
   conv=>whnf
   refine J ⟨I,I,I,I,I,I,Zaq,I,UC,I⟩<|J KR<|W.sq<|g 25 27 []<|J UC<|W.cn<|J (noT dO) fun _=>W.skip<|gd 4 42 [[],[],[],[],[],[.i (Story.epoch (aw p safe) +1)],[],[],[],[],[],[],[],[],[],[],[]] ?_
   conv=>whnf
   refine J ⟨I,I,I,I,I,wO,I,I,I,I,UA,I,I,UA,I,I,UA,I⟩<|J KR<|gd 42 59 [[],[],[],[],[],[],[],[],[],[],[],[.call (V.s (bB {kind:=1,epoch:=Story.epoch (aw p safe) +1,task:=0,text:=emp:Entry})) [[]]],[],[],[],[],[],[]] ?_
   conv=>whnf
   refine J ⟨I,I,I,I,I,I,I,I,I,I,I,Zct,US,Zdh,I,I,I,UA,I⟩<|J KR<|rgd [[],[],[],[],[],[.n (List.length (List.map aD p.tasks))],[],[],[],[],[.n (Int.toNat w)],[],[],[],[],[],[]] ?_
   conv=>whnf
   refine J ⟨I,I,I,I,I,⟨rfl,rfl,LN⟩,I,I,I,I,⟨OM,OM,LN⟩,I,I,UA,I,I,UA,I⟩<|J KR<|EndsW.nm<|J I<|J ?_ ?_
   rfl
   simp only[List.length_map,Ns,J0]
   rfl
  ·rw[mf (fun q=>he q.2.2)]
   refine eK ?_
   conv=>whnf
   refine g 0 0 []<|J US<|W.sq<|g 5 17 [BF,BF,BF,BF,BF,BF,BF,BF]<|J Zca<|W.cn<|J (fun h1=>?_) fun h1=>?_
   replace h1:=dt h1
   simp only[LM]at h1
   omega
   replace h1:=df h1
   simp only[LM]at h1
   refine W.skip<|gd 17 25 [[],[],[],[],[],[],[.call (eM (aw p safe)) [[],[]]],[],[]] ?_
   conv=>whnf
   refine J ⟨I,I,I,I,I,I,Zaq,I,UC,I⟩<|J KR<|W.sq<|g 25 27 []<|J UC<|W.cn<|J (fun _=>(RT ?_)) (noF tO)
   rfl
 ·rw[mf (fun q=>hl2 q.2.1)]
  refine eK ?_
  conv=>whnf
  refine g 0 0 []<|J US<|W.sq<|g 5 17 [BF,BF,BF,BF,BF,BF,BF,BF]<|J Zca<|W.cn<|J (fun h1=>?_) fun h1=>?_
  replace h1:=dt h1
  simp only[LM]at h1
  refine RT ?_
  rfl
  replace h1:=df h1
  simp only[LM]at h1
  omega
theorem sI(b:Boss)(p:Plan)(hp:cR p)(hw:1≤b.workers∧b.workers≤8)(hs:∀ s∈b.log.safe,s.size≤281474976710656)(hd:b.up = false→DownOk b∧(aw p b.log.safe).code = 0):F gf [.ptr (cellsOf (ay b)),.val (bn p)] (.tup []) [cellsOf (ay (aY b p)),[]]:=by
 by_cases hup:b.up = false
 ·obtain⟨d,hc⟩:=hd hup
  have e:=Hq hup d
  have:F gf [.ptr (cellsOf (ay (cq b.workers b.now b.log.safe))),.val (bn p)] (.tup []) [cellsOf (ay (aY (cq b.workers b.now b.log.safe) p)),[]]:=tY b.workers b.now b.log.safe p hp hw hs hc
  rw[←e]at this
  exact this
 ·rw[mf (fun q=>hup q.1)]
  refine eK ?_
  conv=>whnf
  refine g 0 0 []<|J US<|W.sq<|g 5 17 [BT,BT,BT,BT,BT,BT,BT,BT]<|J ⟨I,I,I,I,I,SI,SI,SI,SI,SI,SI,SI,SI,I⟩<|W.cn<|J (fun _=>(RT ?_)) (noF rfl)
  rfl
theorem oQ(w now:Int)(safe:List ByteArray)(p:Plan)(hp:cR p)(hw:1≤w∧w≤8)(hs:∀ s∈safe,s.size≤281474976710656)(hc:(aw p safe).code = 0):F jC [.val (.agg [.t (.i w),.t (.b false),.t (.i now),.t (.i 0),.t (.i 0),.t (.i 0),.t (.slc [false] (safe.map aq)),.t (.slc [false] []),.t (.slc [false] []),.t (.slc ey []),.t (.slc cz []),.t (.slc cA [])]),.val (bn p)] (ay (aY (cq w now safe) p)) [[],[]]:=by
 obtain⟨hck,hl,_,_⟩:=bR hc
 obtain⟨he1,he2⟩:=eu hc
 have hpl:=(bM hck).1
 have cr:=gz p safe hp hs OM
 have cc:=oM (cq w now safe) (by show safe.length≤1048576;omega) (Nat.zero_le _) (Nat.zero_le _) (Nat.zero_le _) (Nat.zero_le _) (Nat.zero_le _)
 by_cases hl2:safe.length < 310
 ·by_cases he:(aw p safe).epoch < 300
  ·rw[xf ⟨rfl,hl2,he⟩]
   have cf:=cK 1 ((aw p safe).epoch+1) 0 emp (by decide)
   refine gu ?_
   conv=>whnf
   refine g 0 0 []<|J Zce<|g 10 14 [.call (eM (aw p safe)) [[],[]]]<|J ⟨I,I,I,I,Zaq,I,UC,I⟩<|W.sq ?_
   by_cases h1:(310:Int)≤(↑(List.length (List.map aq safe)):Int)
   simp only[LM]at h1
   omega
   simp only[LM]at h1
   refine g 9 27 [BF,BF,BF,BF,BF,BF,BF,BF,BF,BF]<|J ⟨I,I,I,Zde,Zde,Zde,Zde,Zde,rfl,I,⟨SI,I⟩,⟨SI,I⟩,⟨SI,I⟩,SI,I⟩<|W.cn<|J (noT dO) fun _=>W.skip<|g 27 40 [.i (Story.epoch (aw p safe) +1)]<|J ⟨I,I,I,I,I,I,wO,I,I,I,I,UL,I⟩<|gd 41 53 [[],[],[],[],[],[],[],[],[.call (V.s (bB {kind:=1,epoch:=Story.epoch (aw p safe) +1,task:=0,text:=emp:Entry})) [[]]],[],[],[],[],[]] ?_
   conv=>whnf
   refine J ⟨I,I,I,I,Zdh,I,I,I,Zct,US,Zdh,I,I,UA,I⟩<|J KR<|W.sq<|g 1 2 []<|J UA<|W.blk<|W.lp (fun s (n:Nat)=>⟨[(0,s.s 0),(2,s.s 2),(3,s.s 3),(4,s.s 4),(6,s.s 6),(7,.i n),(40,s.s 40)],[(2,[s.c 2 0,s.c 2 1,s.c 2 2,s.c 2 3,s.c 2 4,s.c 2 5,s.c 2 6,s.c 2 7,s.c 2 8,s.c 2 9,s.c 2 10,s.c 2 11]),(3,[s.c 3 0]),(4,[s.c 4 0,s.c 4 1,s.c 4 2,s.c 4 3,s.c 4 4,s.c 4 5,s.c 4 6,s.c 4 7,s.c 4 8,s.c 4 9,s.c 4 10,s.c 4 11]),(40,[s.c 40 0]),(6,[.t (.i w),.t (.b true),.t (.i now),.t (.i 0),.t (.i ((aw p safe).epoch+1)),.t (.i 0),.own [false] (safe.map aq++ [aq (bB ⟨1,(aw p safe).epoch+1,0,emp⟩)]),.own [false] [],.own [false] ((aw p safe).results.map aq),.own ey ((List.replicate n eS).map aH),.own cz ((List.replicate 0 jB).map aI),.own cA []])],[]⟩) (fun(n:Nat)=>n≤p.tasks.length) (fun(n:Nat)=>p.tasks.length - n) (0) [some 2,some 3,some 4,some 40,some 6] [] ⟨rfl,⟨Zae,rfl,rfl,rfl,rfl,rfl,rfl,I⟩,⟨Zaa,⟨Zad,⟨Zaa,⟨⟨rfl,UA⟩,Zd1⟩⟩⟩⟩,I⟩ OM ?_
   intro n hn
   conv=>whnf
   refine W.sq<|g 53 57 []<|J UE<|W.cn<|J (fun h2=>?_) fun h2=>?_
   replace h2:=dt h2
   simp only[LM]at h2
   refine W.skip<|W.sq<|W.blk<|rg []<|J Zb8<|rg [.i ((n:Int) +1)]<|J Zdg ?_
   rotate_left
   replace h2:=df h2
   simp only[LM]at h2
   refine W.exit<|W.sq<|g 3 4 []<|J UA<|W.blk ?_
   rotate_left
   ·refine⟨n+1,[some 2,some 3,some 4,some 40,some 6],[],⟨rfl,⟨Zae,rfl,rfl,rfl,rfl,rfl,rfl,I⟩,⟨Zaa,⟨Zad,⟨Zaa,⟨⟨rfl,UA⟩,⟨⟨rfl,⟨rfl,⟨rfl,⟨rfl,⟨rfl,⟨rfl,⟨rfl,⟨rfl,⟨rfl,⟨rfl,⟨(congrArg (V.own _) (HQ n)),Zad⟩⟩⟩⟩⟩⟩⟩⟩⟩⟩⟩,I⟩⟩⟩⟩⟩,I⟩,?_,?_⟩
    rotate_left
    (dsimp only;omega)
    dsimp only
    omega
   obtain rfl:n = p.tasks.length:=by omega
   refine W.lp (fun s (n:Nat)=>⟨[(0,s.s 0),(2,s.s 2),(4,s.s 4),(6,s.s 6),(8,.i n),(40,s.s 40)],[(2,[s.c 2 0,s.c 2 1,s.c 2 2,s.c 2 3,s.c 2 4,s.c 2 5,s.c 2 6,s.c 2 7,s.c 2 8,s.c 2 9,s.c 2 10,s.c 2 11]),(4,[s.c 4 0,s.c 4 1,s.c 4 2,s.c 4 3,s.c 4 4,s.c 4 5,s.c 4 6,s.c 4 7,s.c 4 8,s.c 4 9,s.c 4 10,s.c 4 11]),(40,[s.c 40 0]),(6,[.t (.i w),.t (.b true),.t (.i now),.t (.i 0),.t (.i ((aw p safe).epoch+1)),.t (.i 0),.own [false] (safe.map aq++ [aq (bB ⟨1,(aw p safe).epoch+1,0,emp⟩)]),.own [false] [],.own [false] ((aw p safe).results.map aq),.own ey ((List.replicate p.tasks.length eS).map aH),.own cz ((List.replicate n jB).map aI),.own cA []])],[]⟩) (fun(n:Nat)=>n≤w.toNat) (fun(n:Nat)=>w.toNat - n) (0) [some 2,some 4,some 40,some 6] [] ⟨rfl,Zeg,⟨Zaa,⟨Zaa,⟨⟨rfl,UA⟩,Zd1⟩⟩⟩,I⟩ OM ?_
   intro n hn
   conv=>whnf
   refine W.sq<|g 66 69 []<|J UD<|W.cn<|J (fun h3=>?_) fun h3=>?_
   replace h3:=dt h3
   refine W.skip<|W.sq<|W.blk<|rg []<|J ⟨I,I,I,⟨UB,I⟩,Zdh,I,UA,I⟩<|rg [.i ((n:Int) +1)]<|J Zdg ?_
   rotate_left
   replace h3:=df h3
   refine W.exit<|g 0 3 []<|J Zdi<|RT ?_
   rotate_left
   ·refine⟨n+1,[some 2,some 4,some 40,some 6],[],⟨rfl,Zeg,⟨Zaa,⟨Zaa,⟨⟨rfl,UA⟩,⟨⟨rfl,⟨rfl,⟨rfl,⟨rfl,⟨rfl,⟨rfl,⟨rfl,⟨rfl,⟨rfl,⟨rfl,⟨rfl,⟨(congrArg (V.own _) (HP n)),Zde⟩⟩⟩⟩⟩⟩⟩⟩⟩⟩⟩⟩,I⟩⟩⟩⟩,I⟩,?_,?_⟩
    rotate_left
    (dsimp only;omega)
    dsimp only
    omega
   obtain rfl:n = w.toNat:=by omega
   exact(CM w now safe p (aw p safe)).symm
  ·rw[mf (fun q=>he q.2.2)]
   refine gu ?_
   conv=>whnf
   refine g 0 0 []<|J Zce<|g 10 14 [.call (eM (aw p safe)) [[],[]]]<|J ⟨I,I,I,I,Zaq,I,UC,I⟩<|W.sq ?_
   by_cases h1:(310:Int)≤(↑(List.length (List.map aq safe)):Int)
   simp only[LM]at h1
   omega
   simp only[LM]at h1
   refine g 9 27 [BF,BF,BF,BF,BF,BF,BF,BF,BF,BF]<|J ⟨I,I,I,Zde,Zde,Zde,Zde,Zde,rfl,I,⟨SI,I⟩,⟨SI,I⟩,⟨SI,I⟩,SI,I⟩<|W.cn<|J (fun _=>(g 27 30 [.call (ay (cq w now safe)) [[]]]<|J ⟨I,Zay,UL,I⟩ (RT ?_))) (noF tO)
   rfl
 ·rw[mf (fun q=>hl2 q.2.1)]
  refine gu ?_
  conv=>whnf
  refine g 0 0 []<|J Zce<|g 10 14 [.call (eM (aw p safe)) [[],[]]]<|J ⟨I,I,I,I,Zaq,I,UC,I⟩<|W.sq ?_
  by_cases h1:(310:Int)≤(↑(List.length (List.map aq safe)):Int)
  simp only[LM]at h1
  refine g 9 27 [BF,BF,BF,BF,BF,BF,BT,BT,BT,BT]<|J ⟨I,I,I,Zde,Zde,Zde,Zde,Zde,rfl,I,SI,SI,SI,SI,I⟩<|W.cn<|J (fun _=>(g 27 30 [.call (ay (cq w now safe)) [[]]]<|J ⟨I,Zay,UL,I⟩ (RT ?_))) (noF rfl)
  rfl
  simp only[LM]at h1
  omega
theorem yl(b:Boss)(p:Plan)(hp:cR p)(h:BossLim b)(hw:1≤b.workers∧b.workers≤8)(hc:am p.tasks = 0)(hd:b.up = false→DownOk b∧(aw p b.log.safe).code = 0):F jC [.val (cE b),.val (bn p)] (ay (aY b p)) [[],[]]:=by
 by_cases hup:b.up = false
 ·obtain⟨d,hc2⟩:=hd hup
  have e:=Hq hup d
  have:F jC [.val (cE (cq b.workers b.now b.log.safe)),.val (bn p)] (ay (aY (cq b.workers b.now b.log.safe) p)) [[],[]]:=oQ b.workers b.now b.log.safe p hp hw (fun s hs=>h.all s (List.mem_append_left _ hs)) hc2
  rw[←e]at this
  exact this
 ·rw[mf (fun q=>hup q.1)]
  have ct:=oH b h
  have hss:∀ s∈b.log.safe,s.size≤281474976710656:=fun s hs=>h.all s (List.mem_append_left _ hs)
  have hs1:=h.safe
  have cr:=gz p b.log.safe hp hss OM
  refine gu ?_
  conv=>whnf
  refine g 0 0 []<|J Zce<|g 10 14 [.call (eM (aw p b.log.safe)) [[],[]]]<|J ⟨I,I,I,I,Zaq,I,UC,I⟩<|W.sq<|g 9 27 [BT,BT,BT,BT,BT,BT,BT,BT,BT,BT]<|J ⟨I,I,I,SI,SI,SI,SI,SI,SI,I,rfl,rfl,rfl,rfl,I⟩<|W.cn<|J (fun _=>(g 27 30 [.call (ay b) [[]]]<|J ⟨I,Zay,UL,I⟩ (RT ?_))) (noF rfl)
  rfl
noncomputable def gP(b:Boss)(p:Plan):Boss:=if BossOk b p then aY b p else fC
theorem gZ{b:Boss}{p:Plan}(h:BossOk b p):gP b p = aY b p:=if_pos h
theorem DJ{b:Boss}{p:Plan}(h:¬BossOk b p):gP b p = fC:=if_neg h
theorem vK{b:Boss}{p:Plan}(h:BossOk b p):b.up = false→DownOk b∧(aw p b.log.safe).code = 0:=by
 intro hup
 have d:=h.down hup
 have hc:=h.code
 have e:=List.eq_nil_of_length_eq_zero d.loose
 rw[bU,e,List.append_nil]at hc
 exact⟨d,hc⟩
theorem lN(b:Boss)(p:Plan)(hp:cR p)(h:BossLim b):F eZ [.val (cE b),.val (bn p)] (ay (gP b p)) [[],[]]:=by
 have cv:=rL b p hp h
 by_cases hv:BossOk b p
 ·rw[decide_eq_true hv]at cv
  rw[gZ hv]
  have ct:=Ht b h
  have cf:=sI b p hp hv.workers (fun s hs=>h.all s (List.mem_append_left _ hs)) (vK hv)
  refine lz ?_
  conv=>whnf
  refine g 0 2 []<|J Zce<|W.sq<|g 5 8 [.call VT [[],[]]]<|J Zdo<|W.cn<|J (noT rfl) fun _=>W.skip<|g 8 12 [.call (ay b) [[]]]<|J ⟨I,Zay,UL,I⟩<|g 12 14 [.call (V.tup []) ([cellsOf (ay (aY b p)),[]])]<|J ⟨I,Zcb,I⟩<|g 2 4 []<|J Zdi<|RT ?_
  rfl
 ·rw[decide_eq_false hv]at cv
  rw[DJ hv]
  refine lz ?_
  conv=>whnf
  refine g 0 2 []<|J Zce<|W.sq<|g 5 8 [.call VF [[],[]]]<|J Zdo<|W.cn<|J (fun _=>(g 8 10 []<|J Zdi (RT ?_))) (noF rfl)
  rfl
theorem ff(b:Boss)(p:Plan)(hp:cR p)(h:BossLim b):F d9 [.val (cE b),.val (bn p)] (ay (gP b p)) [[],[]]:=by
 have cv:=jh b p hp h
 by_cases hv:BossOk b p
 ·rw[decide_eq_true hv]at cv
  rw[gZ hv]
  have cf:=yl b p hp h hv.workers hv.plan (vK hv)
  refine ly ?_
  conv=>whnf
  refine g 0 2 []<|J Zce<|W.sq<|g 5 8 [.call VT [[],[]]]<|J Zdo<|W.cn<|J (noT rfl) fun _=>W.skip<|g 8 13 [.call (ay (aY b p)) [[],[]]]<|J ⟨I,I,Zak,UL,I⟩<|RT ?_
  rfl
 ·rw[decide_eq_false hv]at cv
  rw[DJ hv]
  refine ly ?_
  conv=>whnf
  refine g 0 2 []<|J Zce<|W.sq<|g 5 8 [.call VF [[],[]]]<|J Zdo<|W.cn<|J (fun _=>(g 8 10 []<|J Zdi (RT ?_))) (noF rfl)
  rfl
end Go.K
end
section
open Go Go.Tm Go.Proofs
namespace Go.K
structure BossSmall (b:Boss):Prop where
 safe:b.log.safe.length≤4194304
 loose:b.log.loose.length≤4194304
 res:b.results.length≤4194304
 jobs:b.jobs.length≤4194304
 seats:b.seats.length≤4194304
 owed:b.owed.length≤4194304
theorem ro:BossSmall fC:=⟨by decide,by decide,by decide,by decide,by decide,by decide⟩
theorem sU{b:Boss}(h:BossLim b):BossSmall b:=by
 obtain⟨h1,h2,h3,h4,h5,h6,h7⟩:=h
 exact⟨by omega,by omega,by omega,by omega,by omega,by omega⟩
end Go.K
end
section
open Go Go.Tm Go.Proofs
namespace Go.K
structure Led where
 boss:Boss
 out:List Message
 deriving DecidableEq
abbrev GF(x:Led):V:=.agg [.t (.i x.boss.workers),.t (.b x.boss.up),.t (.i x.boss.now),.t (.i x.boss.since),.t (.i x.boss.epoch),.t (.i x.boss.given),.own [false] (x.boss.log.safe.map aq),.own [false] (x.boss.log.loose.map aq),.own [false] (x.boss.results.map aq),.own ey (x.boss.jobs.map aH),.own cz (x.boss.seats.map aI),.own cA (x.boss.owed.map aX),.own cH (x.out.map aK)]
abbrev Bf:Led:=⟨⟨0,false,0,0,0,0,⟨[],[]⟩,[],[],[],[]⟩,[]⟩
end Go.K
end
section
open Go Go.Tm Go.Proofs
namespace Go.K
def fw{α:Type}(f:α→α)(l:List α)(n:Nat):List α:=(l.take n).map f++l.drop n
theorem je{α:Type}(f:α→α)(l:List α)(n:Nat):(fw f l n).length = l.length:=by simp[fw];omega
theorem jf{α:Type}(f:α→α)(l:List α){n:Nat}(h:l.length≤n):fw f l n = l.map f:=by
 rw[fw,List.take_of_length_le h,List.drop_of_length_le h,List.append_nil]
theorem Dj{α:Type}(f:α→α){l:List α}{n:Nat}{x:α}(h:l[n]? = some x):(fw f l n)[n]? = some x:=by
 have hl:n < l.length:=(List.getElem?_eq_some_iff.1 h).1
 rw[fw,List.getElem?_append_right (by simp;omega)]
 simp only[List.length_map,List.length_take,List.getElem?_drop]
 rw[show n+ (n - min n l.length) = n by omega,h]
theorem Di{α:Type}{f:α→α}{l:List α}{n:Nat}{x:α}(h:l[n]? = some x):(fw f l n).set n (f x) = fw f l (n+1):=by
 obtain⟨hl,hx⟩:=List.getElem?_eq_some_iff.1 h
 unfold fw
 rw[List.drop_eq_getElem_cons hl,hx,List.set_append_right _ _ (by simp;omega),List.take_add_one,h]
 simp only[List.length_map,List.length_take,Option.toList_some,List.map_append,List.map_cons,List.map_nil,List.append_assoc,List.cons_append,List.nil_append]
 rw[show n - min n l.length = 0 by omega,List.set_cons_zero]
theorem nJ{α β:Type}{f:α→α}{g:α→β}{l:List α}{n:Nat}{x:α}(h:l[n]? = some x):((fw f l n).map g).set n (g (f x)) = (fw f l (n+1)).map g:=by
 rw[←List.map_set,Di h]
theorem bf{α β:Type}{f:α→α}{g:α→β}{l:List α}{n:Nat}{x:α}(h:l[n]? = some x):((fw f l n).map g)[n]? = some (g x):=by
 rw[List.getElem?_map,Dj f h];rfl
theorem nK{α:Type}{f:α→α}{l:List α}{n:Nat}{x:α}(h:l[n]? = some x)(e:f x = x):fw f l n = fw f l (n+1):=by
 rw[←Di h,e]
 obtain⟨hl,hx⟩:=List.getElem?_eq_some_iff.1 (Dj f h)
 have:=List.set_getElem_self hl
 rw[hx]at this;exact this.symm
structure Hand where
 given:Int
 jobs:List Job
 seats:List Seat
 out:List Message
def pP(now:Int)(j:Job):Job:=if j.til≤now then eS else j
def EQ(js:List Job)(i:Nat):Job:=(js[i]?).getD eS
def kM(ss:List Seat)(i:Nat):Seat:=(ss[i]?).getD jB
def jQ(ss:List Seat):Option Nat:=ss.findIdx? Seat.free
def FT(b:Boss)(ts:List Task)(s i:Nat)(g:Int):Message:=⟨1,0,(s:Int) +1,b.epoch,(b.epoch - 1) * 1000000+g,i,emp,dG b.results (mr ts i)⟩
structure CanHand (b:Boss) (ts:List Task) (h:Hand) (i:Nat):Prop where
 res:atS b.results i = emp
 job:(EQ h.jobs i).lease = 0
 ready:cF b.results (mr ts i)
 given:h.given < 1000000
noncomputable instance (b:Boss) (ts:List Task) (h:Hand) (i:Nat):Decidable (CanHand b ts h i):=Classical.propDecidable _
def jO(b:Boss)(ts:List Task)(h:Hand)(i s:Nat):Hand:=⟨h.given+1,h.jobs.set i ⟨(b.epoch - 1) * 1000000+ (h.given+1),(s:Int) +1,b.now+12⟩,h.seats.set s ⟨false,(kM h.seats s).epoch⟩,h.out++ [FT b ts s i (h.given+1)]⟩
noncomputable def My(b:Boss)(ts:List Task)(i:Nat)(h:Hand):Hand :=
 if CanHand b ts h i then(match jQ h.seats with|none=>h|some s=>jO b ts h i s)else h
noncomputable def aG(b:Boss)(ts:List Task):Nat→Hand
 |0=>⟨b.given,b.jobs,b.seats,[]⟩
 |n+1=>My b ts n (aG b ts n)
theorem gU{b:Boss}{ts:List Task}{n:Nat}(h:¬CanHand b ts (aG b ts n) n):aG b ts (n+1) = aG b ts n:=if_neg h
theorem nP{b:Boss}{ts:List Task}{n:Nat}(h:jQ (aG b ts n).seats = none):aG b ts (n+1) = aG b ts n:=by
 rw[aG,My,h];simp
theorem nN{b:Boss}{ts:List Task}{n s:Nat}(h:CanHand b ts (aG b ts n) n)(hf:jQ (aG b ts n).seats = some s):aG b ts (n+1) = jO b ts (aG b ts n) n s:=by
 rw[aG,My,if_pos h,hf]
theorem nQ{ss:List Seat}{s:Nat}(h:jQ ss = some s):∃ x,ss[s]? = some x∧x.free = true∧s < ss.length∧∀ (k:Nat) (y:Seat),k < s→ss[k]? = some y→y.free = false:=by
 obtain⟨h1,h2,h3⟩:=List.findIdx?_eq_some_iff_getElem.1 h
 refine⟨ss[s],List.getElem?_eq_getElem h1,h2,h1,fun k y hk hy=>?_⟩
 obtain⟨h4,h5⟩:=List.getElem?_eq_some_iff.1 hy
 have:=h3 k hk
 rw[h5]at this
 cases hb:y.free
 ·rfl
 ·exact absurd hb this
theorem zr{ss:List Seat}(h:jQ ss = none):∀ (k:Nat) (y:Seat),ss[k]? = some y→y.free = false:=by
 intro k y hy
 have:=List.findIdx?_eq_none_iff.1 h y (List.mem_of_getElem? hy)
 exact this
structure HandOk (b:Boss) (ts:List Task) (h:Hand) (n:Nat):Prop where
 jobs:h.jobs.length = b.jobs.length
 seats:h.seats.length = b.seats.length
 out:h.out.length≤n
 lo:0≤h.given
 hi:h.given≤1000000
 inputs:∀ m∈h.out,m.inputs.length≤8
theorem kh{b:Boss}{ts:List Task}(hd:∀ t∈ts,t.deps.length≤8)(h0:0≤b.given)(h1:b.given≤1000000):∀ n,HandOk b ts (aG b ts n) n
 |0=>⟨rfl,rfl,Nat.le_refl _,h0,h1,fun m hm=>by cases hm⟩
 |n+1=>by
  have ih:=kh hd h0 h1 n
  have up:HandOk b ts (aG b ts n) (n+1):=⟨ih.jobs,ih.seats,by have:=ih.out;omega,ih.lo,ih.hi,ih.inputs⟩
  by_cases hc:CanHand b ts (aG b ts n) n
  ·cases hf:jQ (aG b ts n).seats with
   |none=>rw[nP hf];exact up
   |some s =>
    rw[nN hc hf]
    have e1:=ih.jobs
    have e2:=ih.seats
    have e3:=ih.out
    have e4:=ih.lo
    have e5:=hc.given
    refine⟨by simp only[jO,List.length_set];exact e1,by simp only[jO,List.length_set];exact e2,by simp only[jO,List.length_append,List.length_singleton];omega,by simp only[jO];omega,by simp only[jO];omega,fun m hm=>?_⟩
    rcases List.mem_append.1 hm with hm|hm
    ·exact ih.inputs m hm
    ·rw[List.mem_singleton.1 hm]
     show(dG _ _).length≤8
     rw[nI,mr]
     cases ht:ts[n]? with
     |none=>exact Nat.zero_le _
     |some t=>exact hd t (List.mem_of_getElem? ht)
  ·rw[gU hc];exact up
def Qt(b:Boss):Boss:=⟨b.workers,b.up,b.now+1,b.since,b.epoch,b.given,b.log,b.results,b.jobs,b.seats,b.owed⟩
def da(b:Boss):Boss:=⟨b.workers,b.up,b.now+1,b.since,b.epoch,b.given,b.log,b.results,b.jobs.map (pP (b.now+1)),b.seats,b.owed⟩
def lU(ep:Int)(o:Owed):Message:=⟨4,0,o.worker,ep,o.lease,0,emp,[]⟩
noncomputable def endH(b:Boss)(ts:List Task):Hand:=aG (da b) ts ts.length
noncomputable def gM(b:Boss)(ts:List Task):Led :=
 if b.now = 1000000 then⟨b,[]⟩else
 if b.up = false then⟨Qt b,[]⟩else
 if b.since+1 = 2 then⟨⟨b.workers,b.up,b.now+1,0,b.epoch,(endH b ts).given,⟨b.log.safe++b.log.loose,[]⟩,b.results,(endH b ts).jobs,(endH b ts).seats,[]⟩,(endH b ts).out++b.owed.map (lU b.epoch)⟩
 else⟨⟨b.workers,b.up,b.now+1,b.since+1,b.epoch,(endH b ts).given,b.log,b.results,(endH b ts).jobs,(endH b ts).seats,b.owed⟩,(endH b ts).out⟩
theorem rj{b:Boss}{ts:List Task}(h:b.now = 1000000):gM b ts = ⟨b,[]⟩:=if_pos h
theorem ve{b:Boss}{ts:List Task}(h:¬b.now = 1000000)(h2:b.up = false):gM b ts = ⟨Qt b,[]⟩:=by rw[gM,if_neg h,if_pos h2]
theorem lj{b:Boss}{ts:List Task}(h:¬b.now = 1000000)(h2:¬b.up = false)(h3:b.since+1 = 2):gM b ts = ⟨⟨b.workers,b.up,b.now+1,0,b.epoch,(endH b ts).given,⟨b.log.safe++b.log.loose,[]⟩,b.results,(endH b ts).jobs,(endH b ts).seats,[]⟩,(endH b ts).out++b.owed.map (lU b.epoch)⟩:=by rw[gM,if_neg h,if_neg h2,if_pos h3]
theorem nz{b:Boss}{ts:List Task}(h:¬b.now = 1000000)(h2:¬b.up = false)(h3:¬b.since+1 = 2):gM b ts = ⟨⟨b.workers,b.up,b.now+1,b.since+1,b.epoch,(endH b ts).given,b.log,b.results,(endH b ts).jobs,(endH b ts).seats,b.owed⟩,(endH b ts).out⟩:=by rw[gM,if_neg h,if_neg h2,if_neg h3]
noncomputable def nW(b:Boss)(p:Plan):Led:=if BossOk b p then gM b p.tasks else Bf
theorem rN{b:Boss}{p:Plan}(h:BossOk b p):nW b p = gM b p.tasks:=if_pos h
theorem wW{b:Boss}{p:Plan}(h:¬BossOk b p):nW b p = Bf:=if_neg h
end Go.K
end
section
open Go Go.Tm Go.Proofs
namespace Go.K
theorem Ho{now:Int}{js:List Job}{n:Nat}{j:Job}(h:js[n]? = some j)(hd:j.til≤now):((fw (pP now) js n).map aH).set n (aH eS) = (fw (pP now) js (n+1)).map aH:=by
 have:=nJ (f:=pP now) (g:=aH) h
 rw[show pP now j = eS from if_pos hd]at this
 exact this
theorem Mc{now:Int}{js:List Job}{n:Nat}{j:Job}(h:js[n]? = some j)(hd:¬j.til≤now):fw (pP now) js n = fw (pP now) js (n+1):=nK h (if_neg hd)
theorem tw{out:List Message}{ep:Int}{os:List Owed}{n:Nat}{o:Owed}(h:os[n]? = some o):(out++ (os.take n).map (lU ep)).map aK++ [aK (lU ep o)] = (out++ (os.take (n+1)).map (lU ep)).map aK:=by
 rw[List.take_add_one,h];simp
end Go.K
end
section
open Go Go.Tm Go.Proofs
namespace Go.K
def atB(d:Boss)(h:Hand):Boss:=⟨d.workers,d.up,d.now,d.since,d.epoch,h.given,d.log,d.results,h.jobs,h.seats,d.owed⟩
theorem yA(b:Boss)(hl:b.seats.length≤1048576)(hf:jQ b.seats = none):F og [.val (cE b)] (.i (-1)) [[]]:=by
 refine oz ?_
 conv=>whnf
 refine g 0 1 []<|J ⟨UL,I,I⟩<|W.sq<|g 0 0 []<|J UA<|W.blk<|W.lp (fun s (n:Nat)=>⟨[(1,s.s 1),(3,.i n)],[(1,[s.c 1 0,s.c 1 1,s.c 1 2,s.c 1 3,s.c 1 4,s.c 1 5,s.c 1 6,s.c 1 7,s.c 1 8,s.c 1 9,s.c 1 10,s.c 1 11])],[]⟩) (fun(n:Nat)=>n≤b.seats.length) (fun(n:Nat)=>b.seats.length - n) (0) [some 1] [] ⟨rfl,⟨rfl,rfl,I⟩,Zd1,I⟩ OM ?_
 intro n hn
 by_cases hn2:n < b.seats.length
 ·obtain⟨x,hx⟩:=ak hn2
  have hx1:=zr hf n x hx
  conv=>whnf
  refine W.sq<|g 4 8 []<|J UE<|W.cn<|J (fun _=>(W.skip (W.sq (W.blk (g 8 16 [.x (aI x)]<|J ⟨I,I,I,Zdk,I,I,I⟩ (W.cn<|J (noT AS) fun _=>(W.skip (rg [.i ((n:Int) +1)]<|J Zdg ?_)))))))) (noF SI)
  refine⟨n+1,[some 1],[],⟨rfl,⟨rfl,rfl,I⟩,Zd1,I⟩,?_,?_⟩
  rotate_left
  (dsimp only;omega)
  dsimp only
  omega
 ·conv=>whnf
  refine W.sq<|g 4 8 []<|J UE<|W.cn<|J (noT SI) fun _=>W.exit<|g 1 2 []<|J UA<|RT ?_
  rfl
theorem yz(b:Boss){k:Nat}(hl:b.seats.length≤1048576)(hf:jQ b.seats = some k):F og [.val (cE b)] (.i k) [[]]:=by
 obtain⟨x,hx0,hx1,hx2,hx3⟩:=nQ hf
 refine oz ?_
 conv=>whnf
 refine g 0 1 []<|J ⟨UL,I,I⟩<|W.sq<|g 0 0 []<|J UA<|W.blk<|W.lp (fun s (n:Nat)=>⟨[(1,s.s 1),(3,.i n)],[(1,[s.c 1 0,s.c 1 1,s.c 1 2,s.c 1 3,s.c 1 4,s.c 1 5,s.c 1 6,s.c 1 7,s.c 1 8,s.c 1 9,s.c 1 10,s.c 1 11])],[]⟩) (fun(n:Nat)=>n≤k) (fun(n:Nat)=>b.seats.length - n) (0) [some 1] [] ⟨rfl,⟨rfl,rfl,I⟩,Zd1,I⟩ OM ?_
 intro n hn
 by_cases hn2:n < k
 ·obtain⟨y,hy⟩:=ak (xs:=b.seats) (n:=n) OM
  have hy1:=hx3 n y hn2 hy
  conv=>whnf
  refine W.sq<|g 4 8 []<|J UE<|W.cn<|J (fun h1=>?_) fun h1=>?_
  replace h1:=dt h1
  simp only[LM]at h1
  refine W.skip<|W.sq<|W.blk<|g 8 16 [.x (aI y)]<|J ⟨I,I,I,Zdk,I,I,I⟩<|W.cn<|J (noT AS) fun _=>W.skip<|rg [.i ((n:Int) +1)]<|J Zdg ?_
  rotate_left
  replace h1:=df h1
  simp only[LM]at h1
  omega
  refine⟨n+1,[some 1],[],⟨rfl,⟨rfl,rfl,I⟩,Zd1,I⟩,?_,?_⟩
  rotate_left
  (dsimp only;omega)
  dsimp only
  omega
 ·obtain rfl:n = k:=by omega
  conv=>whnf
  refine W.sq<|g 4 8 []<|J UE<|W.cn<|J (fun _=>(W.skip (W.sq (W.blk (g 8 16 [.x (aI x)]<|J ⟨I,I,I,Zdk,I,I,I⟩ (W.cn<|J (fun _=>(g 16 18 []<|J UB (RT ?_))) (noF AS))))))) (noF SI)
  rfl
structure HandIn (d:Boss) (ts:List Task):Prop where
 chk:am ts = 0
 res:d.results.length = ts.length
 jobs:d.jobs.length = ts.length
 seats:d.seats.length≤8
 ep:1≤d.epoch∧d.epoch≤300
 given:0≤d.given∧d.given≤1000000
 now:0≤d.now∧d.now≤1000000
theorem ym(d:Boss)(p:Plan)(h:HandIn d p.tasks):F jD [.val (ay d),.val (bn p)] (GF ⟨atB d (aG d p.tasks p.tasks.length),(aG d p.tasks p.tasks.length).out⟩) [[],[]]:=by
 obtain⟨hck,u3,u4,u5,⟨ue1,ue2⟩,⟨u9,u10⟩,⟨hn1,hn2⟩⟩:=h
 have hpl:=(bM hck).1
 have hdl:∀ t∈p.tasks,t.deps.length≤8:=fun t ht=>by
  obtain⟨k,hk⟩:=List.getElem?_of_mem ht
  exact(bP hck hk).2.2.1
 refine xV ?_
 conv=>whnf
 refine g 0 0 []<|J Zce<|g 11 13 []<|J ⟨I,I,I,UM,I⟩<|W.sq<|g 0 0 []<|J UA<|W.blk<|W.lp (fun s (m:Nat)=>⟨[(0,s.s 0),(1,s.s 1),(2,s.s 2),(3,s.s 3),(4,s.s 4),(5,s.s 5),(6,.i m)],[(138,[s.c 138 0,s.c 138 1,s.c 138 2,s.c 138 3,s.c 138 4,s.c 138 5,s.c 138 6,s.c 138 7,s.c 138 8,s.c 138 9,s.c 138 10,s.c 138 11]),(2,[s.c 2 0,s.c 2 1,s.c 2 2,s.c 2 3,s.c 2 4,s.c 2 5,s.c 2 6,s.c 2 7,s.c 2 8,s.c 2 9,s.c 2 10,s.c 2 11]),(3,[s.c 3 0]),(4,[s.c 4 0,s.c 4 1,s.c 4 2,s.c 4 3,s.c 4 4,s.c 4 5,s.c 4 6,s.c 4 7,s.c 4 8,s.c 4 9,s.c 4 10,s.c 4 11,s.c 4 12]),(5,[.t (.i (atB d (aG d p.tasks m)).workers),.t (.b (atB d (aG d p.tasks m)).up),.t (.i (atB d (aG d p.tasks m)).now),.t (.i (atB d (aG d p.tasks m)).since),.t (.i (atB d (aG d p.tasks m)).epoch),.t (.i (atB d (aG d p.tasks m)).given),.own [false] ((atB d (aG d p.tasks m)).log.safe.map aq),.own [false] ((atB d (aG d p.tasks m)).log.loose.map aq),.own [false] ((atB d (aG d p.tasks m)).results.map aq),.own ey ((atB d (aG d p.tasks m)).jobs.map aH),.own cz ((atB d (aG d p.tasks m)).seats.map aI),.own cA ((atB d (aG d p.tasks m)).owed.map aX),.own cH ((aG d p.tasks m).out.map aK)])],[]⟩) (fun(m:Nat)=>m≤p.tasks.length) (fun(m:Nat)=>p.tasks.length - m) (0) [some 138,some 2,some 3,some 4,some 5] [] ⟨rfl,⟨Zae,Zah,rfl,rfl,rfl,rfl,rfl,I⟩,⟨Zag,⟨Zaa,⟨Zad,⟨Zdl,⟨Zdl,I⟩⟩⟩⟩⟩,I⟩ OM ?_
 intro m hm
 obtain⟨k1,k2,k3,k4,k5,k6⟩:=kh (b:=d) (ts:=p.tasks) hdl u9 u10 m
 generalize hX:atB d (aG d p.tasks m) = X
 have x1:X.results = d.results:=by rw[←hX];rfl
 have x2:X.jobs = (aG d p.tasks m).jobs:=by rw[←hX];rfl
 have x3:X.seats = (aG d p.tasks m).seats:=by rw[←hX];rfl
 have x4:X.given = (aG d p.tasks m).given:=by rw[←hX];rfl
 have x5:X.epoch = d.epoch:=by rw[←hX];rfl
 have x6:X.now = d.now:=by rw[←hX];rfl
 have y1:X.results.length = p.tasks.length:=by rw[x1];exact u3
 have y2:X.jobs.length = p.tasks.length:=by rw[x2,k1];exact u4
 have y3:X.seats.length≤8:=by rw[x3,k2];exact u5
 by_cases hm2:m < p.tasks.length
 ·obtain⟨t,ht0⟩:=ak hm2
  obtain⟨y,hy0⟩:=ak (xs:=X.results) (n:=m) OM
  obtain⟨j,hj0⟩:=ak (xs:=X.jobs) (n:=m) OM
  obtain⟨_,_,a3,a4⟩:=bP hck ht0
  have crd:=gy p X.results (m:Int) OM (t:=t) (by rw[Int.toNat_natCast];exact ht0) (fun e he=>by have:=a4 e he;omega) OM
  have q1:∀ q:CanHand d p.tasks (aG d p.tasks m) m,y = emp:=fun q=>by have:=q.res;rw[←x1,oV hy0]at this;exact this
  have q2:∀ q:CanHand d p.tasks (aG d p.tasks m) m,j.lease = 0:=fun q=>by have:=q.job;rw[←x2,EQ,hj0]at this;exact this
  have q3:∀ q:CanHand d p.tasks (aG d p.tasks m) m,cF X.results t.deps:=fun q=>by have:=q.ready;rw[←x1,dn ht0]at this;exact this
  cases hf:jQ X.seats with
  |none =>
   have e:=nP (b:=d) (ts:=p.tasks) (n:=m) (by rw[←x3];exact hf)
   have cs:=yA X OM hf
   conv=>whnf
   refine W.sq<|g 13 17 []<|J UE<|W.cn<|J (fun _=>(W.skip (W.sq (W.blk (g 20 23 [.call (V.i (-1)) [[]]]<|J ⟨I,I,Zay,I,I⟩ (W.sq (g 17 58 [BT,BT,BT,BT,BT,BT,BT,BT,BT,BT,BT,BT,BT,BT,BT,BT,BT,BT,BT,BT,BT,BT,BT,BT,BT,BT,BT,BT,BT,BT] ?_))))))) (noF SI)
   conv=>whnf
   refine⟨⟨I,I,I,rfl,rfl,rfl,rfl,rfl,I,rfl,rfl,rfl,rfl,rfl,rfl,rfl,rfl,I,rfl,rfl,rfl,rfl,rfl,rfl,rfl,rfl,rfl,I,rfl,rfl,rfl,rfl,rfl,rfl,rfl,rfl,I⟩,?_⟩
   refine W.cn<|J (fun _=>(W.exit (rg [.i ((m:Int) +1)]<|J Zdg ?_))) (noF rfl)
   refine⟨m+1,[some 138,some 2,some 3,some 4,some 5],[],⟨rfl,⟨Zae,Zah,rfl,rfl,rfl,rfl,rfl,I⟩,⟨Zag,⟨Zaa,⟨Zad,⟨Zdl,⟨⟨rfl,⟨(congrArg (fun z=>V.t (T.v (Value.int _ z))) (by rw[e,←hX])),⟨(congrArg (fun z=>V.t (T.v (Value.bool z))) (by rw[e,←hX])),⟨(congrArg (fun z=>V.t (T.v (Value.int _ z))) (by rw[e,←hX])),⟨(congrArg (fun z=>V.t (T.v (Value.int _ z))) (by rw[e,←hX])),⟨(congrArg (fun z=>V.t (T.v (Value.int _ z))) (by rw[e,←hX])),⟨(congrArg (fun z=>V.t (T.v (Value.int _ z))) (by rw[e,←hX])),⟨(congrArg (V.own _) (by rw[e,←hX])),⟨(congrArg (V.own _) (by rw[e,←hX])),⟨(congrArg (V.own _) (by rw[e,←hX])),⟨(congrArg (V.own _) (by rw[e,←hX])),⟨(congrArg (V.own _) (by rw[e,←hX])),⟨(congrArg (V.own _) (by rw[e,←hX])),⟨(congrArg (V.own _) SI),I⟩⟩⟩⟩⟩⟩⟩⟩⟩⟩⟩⟩⟩⟩,I⟩⟩⟩⟩⟩,I⟩,?_,?_⟩
   rotate_left
   (dsimp only;omega)
   dsimp only
   omega
  |some sx =>
   have cs:=yz X OM hf
   obtain⟨x,hx0,hx1,hx2,hx3⟩:=nQ hf
   by_cases hA:y = emp
   ·by_cases hB:j.lease = 0
    ·by_cases hF:cF X.results t.deps
     ·rw[decide_eq_true hF]at crd
      by_cases hG:X.given < 1000000
      ·have hc:CanHand d p.tasks (aG d p.tasks m) m:=⟨by rw[←x1,oV hy0];exact hA,by rw[←x2,EQ,hj0];exact hB,by rw[←x1,dn ht0];exact hF,by rw[←x4];exact hG⟩
       have e:=nN hc (by rw[←x3];exact hf)
       have ej:(X.jobs.map aH).set m (aH ⟨(X.epoch - 1) * 1000000+ (X.given+1),(sx:Int) +1,X.now+12⟩) = (atB d (aG d p.tasks (m+1))).jobs.map aH:=by rw[e,←List.map_set,x2,x4,x5,x6];rfl
       have es:(X.seats.map aI).set sx (aI ⟨false,x.epoch⟩) = (atB d (aG d p.tasks (m+1))).seats.map aI:=by
        have e9:kM (aG d p.tasks m).seats sx = x:=by rw[kM,←x3,hx0];rfl
        rw[e,←List.map_set,x3,atB,jO,e9]
       have eo:(aG d p.tasks m).out.map aK++ [aK ⟨1,0,(sx:Int) +1,X.epoch,(X.epoch - 1) * 1000000+ (X.given+1),m,emp,dG X.results t.deps⟩] = (aG d p.tasks (m+1)).out.map aK:=by rw[e,jO,FT,dn ht0,List.map_append,x1,x4,x5];rfl
       have eg:X.given+1 = (atB d (aG d p.tasks (m+1))).given:=by rw[e,x4];rfl
       have e1:X.workers = (atB d (aG d p.tasks (m+1))).workers:=by rw[←hX];rfl
       have e2:X.up = (atB d (aG d p.tasks (m+1))).up:=by rw[←hX];rfl
       have e3:X.now = (atB d (aG d p.tasks (m+1))).now:=by rw[←hX];rfl
       have e4:X.since = (atB d (aG d p.tasks (m+1))).since:=by rw[←hX];rfl
       have e5:X.epoch = (atB d (aG d p.tasks (m+1))).epoch:=by rw[←hX];rfl
       have e6:X.log = (atB d (aG d p.tasks (m+1))).log:=by rw[←hX];rfl
       have e7:X.results = (atB d (aG d p.tasks (m+1))).results:=by rw[←hX];rfl
       have e8:X.owed = (atB d (aG d p.tasks (m+1))).owed:=by rw[←hX];rfl
       conv=>whnf
       refine W.sq<|g 13 17 []<|J UE<|W.cn<|J (fun _=>(W.skip (W.sq (W.blk (g 20 23 [.call (V.i (sx:Int)) [[]]]<|J ⟨I,I,Zay,I,I⟩ (W.sq (g 17 58 [BF,BF,BF,BF,BF,BF,BF,BF,BF,BF,.n (m),BF,.x (aq y),BF,BF,BF,BF,BF,BF,BF,.n (m),BF,BF,.x (aH j),BF,BF,BF,BF,BF,BF,BF,BF,.call VT [[],[],[]],BF,BF] ?_))))))) (noF SI)
       conv=>whnf
       refine⟨Zaw,?_⟩
       refine W.cn<|J (noT rfl) fun _=>W.skip<|g 58 65 [.i (Boss.given X+1)]<|J ⟨I,I,I,wO,I,I,UA,I⟩<|g 65 73 [.i (Boss.epoch X - 1),.i ((Boss.epoch X - 1) * 1000000),.i ((Boss.epoch X - 1) * 1000000+ (Boss.given X+1))]<|J ⟨I,I,I,wO,wO,I,I,I,wO,I,I⟩<|g 74 87 [.i ((sx:Int) +1),.i (Boss.now X+12),.n (m),.x (aH j)]<|J ⟨I,I,I,I,I,I,wO,I,I,I,wO,I,Zdj,⟨UC,xA⟩,I⟩<|g 87 93 [.n (sx),.x (aI x)]<|J ⟨I,I,I,I,Zdj,I,Zef,I⟩<|g 93 101 [.i ((sx:Int) +1)]<|J ⟨I,wO,I,I,I,I,I,I,I,UH,I⟩<|W.sq<|g 7 9 []<|J UA<|W.blk<|W.lp (fun s (k:Nat)=>⟨[(0,s.s 0),(1,s.s 1),(2,s.s 2),(3,s.s 3),(4,s.s 4),(5,s.s 5),(6,s.s 6),(9,s.s 9),(10,.i k),(73,s.s 73)],[(138,[s.c 138 0,s.c 138 1,s.c 138 2,s.c 138 3,s.c 138 4,s.c 138 5,s.c 138 6,s.c 138 7,s.c 138 8,s.c 138 9,s.c 138 10,s.c 138 11]),(2,[s.c 2 0,s.c 2 1,s.c 2 2,s.c 2 3,s.c 2 4,s.c 2 5,s.c 2 6,s.c 2 7,s.c 2 8,s.c 2 9,s.c 2 10,s.c 2 11]),(3,[s.c 3 0]),(4,[s.c 4 0,s.c 4 1,s.c 4 2,s.c 4 3,s.c 4 4,s.c 4 5,s.c 4 6,s.c 4 7,s.c 4 8,s.c 4 9,s.c 4 10,s.c 4 11,s.c 4 12]),(5,[s.c 5 0,s.c 5 1,s.c 5 2,s.c 5 3,s.c 5 4,s.c 5 5,s.c 5 6,s.c 5 7,s.c 5 8,s.c 5 9,s.c 5 10,s.c 5 11,s.c 5 12]),(9,[.t (.i 1),.t (.i 0),.t (.i ((sx:Int) +1)),.t (.i X.epoch),.t (.i ((X.epoch - 1) * 1000000+ (X.given+1))),.t (.i m),.t (.s emp),.own [false] ((dG X.results (t.deps.take k)).map aq)])],[]⟩) (fun(k:Nat)=>k≤t.deps.length) (fun(k:Nat)=>t.deps.length - k) (0) [some 138,some 2,some 3,some 4,some 5,some 9] [] ⟨rfl,⟨Zae,Zah,rfl,rfl,rfl,rfl,rfl,rfl,rfl,rfl,I⟩,⟨Zag,⟨Zaa,⟨Zad,⟨Zdl,⟨Zdl,⟨Zab,I⟩⟩⟩⟩⟩⟩,I⟩ OM ?_
       intro k hk
       by_cases hk2:k < t.deps.length
       ·obtain⟨d0,hd0⟩:=ak hk2
        have hdr:=a4 d0 (List.mem_of_getElem? hd0)
        obtain⟨z,hz⟩:=ak (xs:=X.results) (n:=d0.toNat) OM
        have ez:(dG X.results (t.deps.take k)).map aq++ [aq z] = (dG X.results (t.deps.take (k+1))).map aq:=by rw[vI hd0 hz,List.map_append];rfl
        have hpk:=nI X.results (t.deps.take k)
        have htk:(t.deps.take k).length≤k:=by rw[List.length_take];omega
        conv=>whnf
        refine W.sq<|g 101 109 [.x (aD t)]<|J ⟨I,I,I,I,Zdk,I,I,I,I,I⟩<|W.cn<|J (fun _=>(W.skip (W.sq (W.blk (rgd [[],[],[],[],[],[],[],[],[.x (aD t)],[],[],[],[.x (im d0)],[],[.n (Int.toNat d0)],[.x (aq z)],[],[],[],[]] ?_))))) (noF SI)
        conv=>whnf
        refine⟨⟨I,I,I,I,I,I,I,I,Zdk,I,I,I,Zdk,I,Zdq,xA,US,Zdh,I,UA,I⟩,by kernel_rfl,?_⟩
        refine rg [.i ((k:Int) +1)]<|J Zdg ?_
        refine⟨k+1,[some 138,some 2,some 3,some 4,some 5,some 9],[],⟨rfl,⟨Zae,Zah,rfl,rfl,rfl,rfl,rfl,rfl,rfl,rfl,I⟩,⟨Zag,⟨Zaa,⟨Zad,⟨Zdl,⟨Zdl,⟨⟨rfl,⟨rfl,⟨rfl,⟨rfl,⟨rfl,⟨rfl,⟨rfl,⟨rfl,⟨(congrArg (V.own _) (ez)),I⟩⟩⟩⟩⟩⟩⟩⟩⟩,I⟩⟩⟩⟩⟩⟩,I⟩,?_,?_⟩
        rotate_left
        (dsimp only;omega)
        dsimp only
        omega
       ·have ek:t.deps.take k = t.deps:=bc OM
        rw[←ek]at eo
        conv=>whnf
        refine W.sq<|g 101 109 [.x (aD t)]<|J ⟨I,I,I,I,Zdk,I,I,I,I,I⟩<|W.cn<|J (noT SI) fun _=>W.exit<|rg []<|J ⟨I,I,I,⟨UH,I⟩,Zdh,I,UA,I⟩<|rg [.i ((m:Int) +1)]<|J Zdg ?_
        refine⟨m+1,[some 138,some 2,some 3,some 4,some 5],[],⟨rfl,⟨Zae,Zah,rfl,rfl,rfl,rfl,rfl,I⟩,⟨Zag,⟨Zaa,⟨Zad,⟨Zdl,⟨⟨rfl,⟨(congrArg (fun z=>V.t (T.v (Value.int _ z))) (e1)),⟨(congrArg (fun z=>V.t (T.v (Value.bool z))) (e2)),⟨(congrArg (fun z=>V.t (T.v (Value.int _ z))) (e3)),⟨(congrArg (fun z=>V.t (T.v (Value.int _ z))) (e4)),⟨(congrArg (fun z=>V.t (T.v (Value.int _ z))) (e5)),⟨(congrArg (fun z=>V.t (T.v (Value.int _ z))) (eg)),⟨(congrArg (V.own _) (by rw[e6])),⟨(congrArg (V.own _) (by rw[e6])),⟨(congrArg (V.own _) (by rw[e7])),⟨(congrArg (V.own _) (ej)),⟨(congrArg (V.own _) (es)),⟨(congrArg (V.own _) (by rw[e8])),⟨(congrArg (V.own _) (eo)),I⟩⟩⟩⟩⟩⟩⟩⟩⟩⟩⟩⟩⟩⟩,I⟩⟩⟩⟩⟩,I⟩,?_,?_⟩
        rotate_left
        (dsimp only;omega)
        dsimp only
        omega
      ·have e:=gU (b:=d) (ts:=p.tasks) (fun q=>hG (by rw[x4];exact q.given))
       conv=>whnf
       refine W.sq<|g 13 17 []<|J UE<|W.cn<|J (fun _=>(W.skip (W.sq (W.blk (g 20 23 [.call (V.i (sx:Int)) [[]]]<|J ⟨I,I,Zay,I,I⟩ (W.sq (g 17 58 [BF,BF,BF,BF,BF,BT,BT,BT,BT,BT,BT,BT,BT,BT,BT,BT,BT,BT,BT,BT,BT,BT,BT,BT,BT,BT,BT,BT,BT,BT] ?_))))))) (noF SI)
       conv=>whnf
       refine⟨Za2,?_⟩
       refine W.cn<|J (fun _=>(W.exit (rg [.i ((m:Int) +1)]<|J Zdg ?_))) (noF rfl)
       refine⟨m+1,[some 138,some 2,some 3,some 4,some 5],[],⟨rfl,⟨Zae,Zah,rfl,rfl,rfl,rfl,rfl,I⟩,⟨Zag,⟨Zaa,⟨Zad,⟨Zdl,⟨⟨rfl,⟨(congrArg (fun z=>V.t (T.v (Value.int _ z))) (by rw[e,←hX])),⟨(congrArg (fun z=>V.t (T.v (Value.bool z))) (by rw[e,←hX])),⟨(congrArg (fun z=>V.t (T.v (Value.int _ z))) (by rw[e,←hX])),⟨(congrArg (fun z=>V.t (T.v (Value.int _ z))) (by rw[e,←hX])),⟨(congrArg (fun z=>V.t (T.v (Value.int _ z))) (by rw[e,←hX])),⟨(congrArg (fun z=>V.t (T.v (Value.int _ z))) (by rw[e,←hX])),⟨(congrArg (V.own _) (by rw[e,←hX])),⟨(congrArg (V.own _) (by rw[e,←hX])),⟨(congrArg (V.own _) (by rw[e,←hX])),⟨(congrArg (V.own _) (by rw[e,←hX])),⟨(congrArg (V.own _) (by rw[e,←hX])),⟨(congrArg (V.own _) (by rw[e,←hX])),⟨(congrArg (V.own _) SI),I⟩⟩⟩⟩⟩⟩⟩⟩⟩⟩⟩⟩⟩⟩,I⟩⟩⟩⟩⟩,I⟩,?_,?_⟩
       rotate_left
       (dsimp only;omega)
       dsimp only
       omega
     ·rw[decide_eq_false hF]at crd
      have e:=gU (b:=d) (ts:=p.tasks) (fun q=>hF (q3 q))
      conv=>whnf
      refine W.sq<|g 13 17 []<|J UE<|W.cn<|J (fun _=>(W.skip (W.sq (W.blk (g 20 23 [.call (V.i (sx:Int)) [[]]]<|J ⟨I,I,Zay,I,I⟩ (W.sq ?_)))))) (noF SI)
      by_cases h1:(1000000:Int)≤Boss.given X
      refine g 17 58 [BF,BF,BF,BF,BF,BT,BT,BT,BT,BT,BT,BT,BT,BT,BT,BT,BT,BT,BT,BT,BT,BT,BT,BT,BT,BT,BT,BT,BT,BT] ?_
      conv=>whnf
      refine J Za2<|W.cn<|J (fun _=>(W.exit (rg [.i ((m:Int) +1)]<|J Zdg ?_))) (noF rfl)
      rotate_left
      refine g 17 58 [BF,BF,BF,BF,BF,BF,BF,BF,BF,BF,.n (m),BF,.x (aq y),BF,BF,BF,BF,BF,BF,BF,.n (m),BF,BF,.x (aH j),BF,BF,BF,BF,BF,BF,BF,BF,.call VF [[],[],[]],BF,BF] ?_
      conv=>whnf
      refine J Zaw<|W.cn<|J (fun _=>(W.exit (rg [.i ((m:Int) +1)]<|J Zdg ?_))) (noF rfl)
      rotate_left
      all_goals refine⟨m+1,[some 138,some 2,some 3,some 4,some 5],[],⟨rfl,⟨⟨_,rfl,_,_,rfl,rfl,_,_,rfl,rfl,_,_,rfl,rfl,_,_,rfl,rfl,_,_,rfl,rfl,_,_,rfl,rfl,_,_,rfl,rfl,_,_,rfl,rfl,_,_,rfl,rfl,_,_,rfl,rfl,_,_,rfl,rfl,_,_,rfl,rfl,rfl⟩,⟨_,rfl,_,_,rfl,rfl,rfl⟩,rfl,rfl,rfl,rfl,rfl,I⟩,⟨⟨rfl,⟨rfl,⟨rfl,⟨rfl,⟨rfl,⟨rfl,⟨rfl,⟨I,⟨I,⟨I,⟨I,⟨I,UA⟩⟩⟩⟩⟩⟩⟩⟩⟩⟩⟩⟩,⟨⟨rfl,⟨rfl,⟨rfl,⟨rfl,⟨rfl,⟨rfl,⟨rfl,⟨rfl,⟨rfl,⟨rfl,⟨rfl,⟨rfl,⟨rfl,I⟩⟩⟩⟩⟩⟩⟩⟩⟩⟩⟩⟩⟩,⟨⟨rfl,⟨rfl,I⟩⟩,⟨⟨rfl,⟨rfl,⟨rfl,⟨rfl,⟨rfl,⟨rfl,⟨rfl,⟨rfl,⟨rfl,⟨rfl,⟨rfl,⟨rfl,⟨rfl,⟨rfl,I⟩⟩⟩⟩⟩⟩⟩⟩⟩⟩⟩⟩⟩⟩,⟨⟨rfl,⟨(congrArg (fun z=>V.t (T.v (Value.int _ z))) (by rw[e,←hX])),⟨(congrArg (fun z=>V.t (T.v (Value.bool z))) (by rw[e,←hX])),⟨(congrArg (fun z=>V.t (T.v (Value.int _ z))) (by rw[e,←hX])),⟨(congrArg (fun z=>V.t (T.v (Value.int _ z))) (by rw[e,←hX])),⟨(congrArg (fun z=>V.t (T.v (Value.int _ z))) (by rw[e,←hX])),⟨(congrArg (fun z=>V.t (T.v (Value.int _ z))) (by rw[e,←hX])),⟨(congrArg (V.own _) (by rw[e,←hX])),⟨(congrArg (V.own _) (by rw[e,←hX])),⟨(congrArg (V.own _) (by rw[e,←hX])),⟨(congrArg (V.own _) (by rw[e,←hX])),⟨(congrArg (V.own _) (by rw[e,←hX])),⟨(congrArg (V.own _) (by rw[e,←hX])),⟨(congrArg (V.own _) SI),I⟩⟩⟩⟩⟩⟩⟩⟩⟩⟩⟩⟩⟩⟩,I⟩⟩⟩⟩⟩,I⟩,?_,?_⟩
                rotate_left
                (dsimp only;omega)
                dsimp only
                omega
    ·have e:=gU (b:=d) (ts:=p.tasks) (fun q=>hB (q2 q))
     conv=>whnf
     refine W.sq<|g 13 17 []<|J UE<|W.cn<|J (fun _=>(W.skip (W.sq (W.blk (g 20 23 [.call (V.i (sx:Int)) [[]]]<|J ⟨I,I,Zay,I,I⟩ (W.sq ?_)))))) (noF SI)
     by_cases h1:(1000000:Int)≤Boss.given X
     refine g 17 58 [BF,BF,BF,BF,BF,BT,BT,BT,BT,BT,BT,BT,BT,BT,BT,BT,BT,BT,BT,BT,BT,BT,BT,BT,BT,BT,BT,BT,BT,BT] ?_
     conv=>whnf
     refine J Za2<|W.cn<|J (fun _=>(W.exit (rg [.i ((m:Int) +1)]<|J Zdg ?_))) (noF rfl)
     rotate_left
     refine g 17 58 [BF,BF,BF,BF,BF,BF,BF,BF,BF,BF,.n (m),BF,.x (aq y),BF,BF,BF,BF,BF,BF,BF,.n (m),BF,BF,.x (aH j),BF,BF,BT,BT,BT,BT,BT,BT,BT,BT] ?_
     conv=>whnf
     refine J ⟨I,I,I,Zde,Zde,Zde,Zde,rfl,I,⟨dO,I⟩,⟨dO,I⟩,⟨dO,I⟩,⟨dO,I⟩,⟨dO,rfl,LN⟩,⟨dO,xA⟩,⟨dO,I⟩,dO,I,⟨nO,I⟩,⟨nO,I⟩,⟨nO,I⟩,⟨nO,I⟩,⟨nO,rfl,LN⟩,⟨nO,I⟩,⟨nO,xA⟩,⟨nO,I⟩,nO,I,ah OM,ah OM,ah OM,ah OM,ah OM,ah OM,ah OM,ah OM,I⟩<|W.cn<|J (fun _=>(W.exit (rg [.i ((m:Int) +1)]<|J Zdg ?_))) (noF rfl)
     rotate_left
     all_goals refine⟨m+1,[some 138,some 2,some 3,some 4,some 5],[],⟨rfl,⟨⟨_,rfl,_,_,rfl,rfl,_,_,rfl,rfl,_,_,rfl,rfl,_,_,rfl,rfl,_,_,rfl,rfl,_,_,rfl,rfl,_,_,rfl,rfl,_,_,rfl,rfl,_,_,rfl,rfl,_,_,rfl,rfl,_,_,rfl,rfl,_,_,rfl,rfl,rfl⟩,⟨_,rfl,_,_,rfl,rfl,rfl⟩,rfl,rfl,rfl,rfl,rfl,I⟩,⟨⟨rfl,⟨rfl,⟨rfl,⟨rfl,⟨rfl,⟨rfl,⟨rfl,⟨I,⟨I,⟨I,⟨I,⟨I,UA⟩⟩⟩⟩⟩⟩⟩⟩⟩⟩⟩⟩,⟨⟨rfl,⟨rfl,⟨rfl,⟨rfl,⟨rfl,⟨rfl,⟨rfl,⟨rfl,⟨rfl,⟨rfl,⟨rfl,⟨rfl,⟨rfl,I⟩⟩⟩⟩⟩⟩⟩⟩⟩⟩⟩⟩⟩,⟨⟨rfl,⟨rfl,I⟩⟩,⟨⟨rfl,⟨rfl,⟨rfl,⟨rfl,⟨rfl,⟨rfl,⟨rfl,⟨rfl,⟨rfl,⟨rfl,⟨rfl,⟨rfl,⟨rfl,⟨rfl,I⟩⟩⟩⟩⟩⟩⟩⟩⟩⟩⟩⟩⟩⟩,⟨⟨rfl,⟨(congrArg (fun z=>V.t (T.v (Value.int _ z))) (by rw[e,←hX])),⟨(congrArg (fun z=>V.t (T.v (Value.bool z))) (by rw[e,←hX])),⟨(congrArg (fun z=>V.t (T.v (Value.int _ z))) (by rw[e,←hX])),⟨(congrArg (fun z=>V.t (T.v (Value.int _ z))) (by rw[e,←hX])),⟨(congrArg (fun z=>V.t (T.v (Value.int _ z))) (by rw[e,←hX])),⟨(congrArg (fun z=>V.t (T.v (Value.int _ z))) (by rw[e,←hX])),⟨(congrArg (V.own _) (by rw[e,←hX])),⟨(congrArg (V.own _) (by rw[e,←hX])),⟨(congrArg (V.own _) (by rw[e,←hX])),⟨(congrArg (V.own _) (by rw[e,←hX])),⟨(congrArg (V.own _) (by rw[e,←hX])),⟨(congrArg (V.own _) (by rw[e,←hX])),⟨(congrArg (V.own _) SI),I⟩⟩⟩⟩⟩⟩⟩⟩⟩⟩⟩⟩⟩⟩,I⟩⟩⟩⟩⟩,I⟩,?_,?_⟩
               rotate_left
               (dsimp only;omega)
               dsimp only
               omega
   ·have e:=gU (b:=d) (ts:=p.tasks) (fun q=>hA (q1 q))
    conv=>whnf
    refine W.sq<|g 13 17 []<|J UE<|W.cn<|J (fun _=>(W.skip (W.sq (W.blk (g 20 23 [.call (V.i (sx:Int)) [[]]]<|J ⟨I,I,Zay,I,I⟩ (W.sq ?_)))))) (noF SI)
    by_cases h1:(1000000:Int)≤Boss.given X
    refine g 17 58 [BF,BF,BF,BF,BF,BT,BT,BT,BT,BT,BT,BT,BT,BT,BT,BT,BT,BT,BT,BT,BT,BT,BT,BT,BT,BT,BT,BT,BT,BT] ?_
    conv=>whnf
    refine J Za2<|W.cn<|J (fun _=>(W.exit (rg [.i ((m:Int) +1)]<|J Zdg ?_))) (noF rfl)
    rotate_left
    refine g 17 58 [BF,BF,BF,BF,BF,BF,BF,BF,BF,BF,.n (m),BF,.x (aq y),BF,BF,BT,BT,BT,BT,BT,BT,BT,BT,BT,BT,BT,BT,BT,BT,BT,BT,BT] ?_
    conv=>whnf
    refine J ⟨I,I,I,Zde,Zde,Zde,Zde,rfl,I,⟨dO,I⟩,⟨dO,I⟩,⟨dO,I⟩,⟨dO,I⟩,⟨dO,rfl,LN⟩,⟨dO,xA⟩,⟨dO,I⟩,dO,I,ah OM,ah OM,ah OM,ah OM,ah OM,ah OM,ah OM,ah OM,ah OM,I,rfl,rfl,rfl,rfl,rfl,rfl,rfl,rfl,I⟩<|W.cn<|J (fun _=>(W.exit (rg [.i ((m:Int) +1)]<|J Zdg ?_))) (noF rfl)
    rotate_left
    all_goals refine⟨m+1,[some 138,some 2,some 3,some 4,some 5],[],⟨rfl,⟨⟨_,rfl,_,_,rfl,rfl,_,_,rfl,rfl,_,_,rfl,rfl,_,_,rfl,rfl,_,_,rfl,rfl,_,_,rfl,rfl,_,_,rfl,rfl,_,_,rfl,rfl,_,_,rfl,rfl,_,_,rfl,rfl,_,_,rfl,rfl,_,_,rfl,rfl,rfl⟩,⟨_,rfl,_,_,rfl,rfl,rfl⟩,rfl,rfl,rfl,rfl,rfl,I⟩,⟨⟨rfl,⟨rfl,⟨rfl,⟨rfl,⟨rfl,⟨rfl,⟨rfl,⟨I,⟨I,⟨I,⟨I,⟨I,UA⟩⟩⟩⟩⟩⟩⟩⟩⟩⟩⟩⟩,⟨⟨rfl,⟨rfl,⟨rfl,⟨rfl,⟨rfl,⟨rfl,⟨rfl,⟨rfl,⟨rfl,⟨rfl,⟨rfl,⟨rfl,⟨rfl,I⟩⟩⟩⟩⟩⟩⟩⟩⟩⟩⟩⟩⟩,⟨⟨rfl,⟨rfl,I⟩⟩,⟨⟨rfl,⟨rfl,⟨rfl,⟨rfl,⟨rfl,⟨rfl,⟨rfl,⟨rfl,⟨rfl,⟨rfl,⟨rfl,⟨rfl,⟨rfl,⟨rfl,I⟩⟩⟩⟩⟩⟩⟩⟩⟩⟩⟩⟩⟩⟩,⟨⟨rfl,⟨(congrArg (fun z=>V.t (T.v (Value.int _ z))) (by rw[e,←hX])),⟨(congrArg (fun z=>V.t (T.v (Value.bool z))) (by rw[e,←hX])),⟨(congrArg (fun z=>V.t (T.v (Value.int _ z))) (by rw[e,←hX])),⟨(congrArg (fun z=>V.t (T.v (Value.int _ z))) (by rw[e,←hX])),⟨(congrArg (fun z=>V.t (T.v (Value.int _ z))) (by rw[e,←hX])),⟨(congrArg (fun z=>V.t (T.v (Value.int _ z))) (by rw[e,←hX])),⟨(congrArg (V.own _) (by rw[e,←hX])),⟨(congrArg (V.own _) (by rw[e,←hX])),⟨(congrArg (V.own _) (by rw[e,←hX])),⟨(congrArg (V.own _) (by rw[e,←hX])),⟨(congrArg (V.own _) (by rw[e,←hX])),⟨(congrArg (V.own _) (by rw[e,←hX])),⟨(congrArg (V.own _) SI),I⟩⟩⟩⟩⟩⟩⟩⟩⟩⟩⟩⟩⟩⟩,I⟩⟩⟩⟩⟩,I⟩,?_,?_⟩
              rotate_left
              (dsimp only;omega)
              dsimp only
              omega
 obtain rfl:m = p.tasks.length:=by omega
 subst hX
 conv=>whnf
 refine W.sq<|g 13 17 []<|J UE<|W.cn<|J (noT SI) fun _=>W.exit<|g 0 4 []<|J ⟨I,UM,I⟩<|RT ?_
 rfl
end Go.K
end
section
open Go Go.Tm Go.Proofs
namespace Go.K
theorem NV{b:Boss}{ts:List Task}{n:Nat}{j:Job}(h:gt b ts b.jobs.length)(hj:b.jobs[n]? = some j)(hz:j.lease = 0)(now:Int):fw (pP now) b.jobs n = fw (pP now) b.jobs (n+1):=by
 refine nK hj ?_
 obtain⟨h1,h2⟩:=(h n j (List.getElem?_eq_some_iff.1 hj).1 hj).1 hz
 obtain⟨l,w,t⟩:=j
 simp only at hz h1 h2
 subst hz h1 h2
 unfold pP;split <;> rfl
theorem uz(b:Boss)(p:Plan)(hp:cR p)(h:BossLim b):F uf [.val (cE b),.val (bn p)] (GF (nW b p)) [[],[]]:=by
 have cv:=jh b p hp h
 by_cases hv:BossOk b p
 ·rw[decide_eq_true hv]at cv
  rw[rN hv]
  have ct:=oH b h
  have hnow:=hv.now
  by_cases h0:b.now = 1000000
  ·rw[rj h0]
   refine fc ?_
   conv=>whnf
   refine g 1 2 []<|J Zce<|W.sq<|g 10 13 [.call VT [[],[]]]<|J Zdo<|W.cn<|J (noT rfl) fun _=>W.skip<|g 13 17 [.call (ay b) [[]]]<|J Zd7<|W.sq<|g 17 19 []<|J UC<|W.cn<|J (fun _=>(g 19 22 []<|J ⟨I,I,UM,I⟩ (RT ?_))) (noF tO)
   rfl
  ·by_cases hup:b.up = false
   ·rw[ve h0 hup]
    refine fc ?_
    conv=>whnf
    refine g 1 2 []<|J Zce<|W.sq<|g 10 13 [.call VT [[],[]]]<|J Zdo<|W.cn<|J (noT rfl) fun _=>W.skip<|g 13 17 [.call (ay b) [[]]]<|J Zd7<|W.sq<|g 17 19 []<|J UC<|W.cn<|J (noT dO) fun _=>W.skip<|g 19 26 [.i (b.now+1)]<|J Zbb<|W.sq ?_
    refine g 26 28 []<|J UC<|W.cn<|J (fun _=>(g 28 31 []<|J ⟨I,I,UM,I⟩ (RT ?_))) (noF (nbT AS))
    rfl
   ·have hup2:b.up = true:=by cases hb:b.up;exact absurd hb hup;rfl
    obtain⟨u1,u2,u3,u4,u5,u6,⟨u7,u8⟩,⟨u9,u10⟩,u11,u12,u13,u14⟩:=hv.up hup2
    have hck:=hv.plan
    have hpl:=(bM hck).1
    have hwk:=hv.workers
    obtain⟨he1,he2⟩:=eu hv.code
    change 0≤(bU b p).epoch at he1
    change (bU b p).epoch≤300 at he2
    have l1:=h.safe
    have l2:=h.loose
    have hin:HandIn (da b) p.tasks:=⟨hck,u3,by show(b.jobs.map _).length = _;rw[List.length_map];exact u4,by show b.seats.length≤8;omega,⟨u2,by show b.epoch≤300;omega⟩,⟨u9,u10⟩,⟨by show 0≤b.now+1;omega,by show b.now+1≤1000000;omega⟩⟩
    have ch:F jD [.val (ay ⟨b.workers,b.up,b.now+1,b.since,b.epoch,b.given,b.log,b.results,fw (pP (b.now+1)) b.jobs b.jobs.length,b.seats,b.owed⟩),.val (bn p)] (GF ⟨atB (da b) (endH b p.tasks),(endH b p.tasks).out⟩) [[],[]]:=by
     rw[jf _ _ (Nat.le_refl _)];exact ym (da b) p hin
    have hdl:∀ t∈p.tasks,t.deps.length≤8:=fun t ht=>by
     obtain⟨k,hk⟩:=List.getElem?_of_mem ht
     exact(bP hck hk).2.2.1
    have hho:=kh (b:=da b) (ts:=p.tasks) hdl u9 u10 p.tasks.length
    have k3:(endH b p.tasks).out.length≤40:=by have:=hho.out;show(aG _ _ _).out.length≤40;omega
    generalize hX:atB (da b) (endH b p.tasks) = X at ch
    have ch2:F jD [.val (ay ⟨b.workers,b.up,b.now+1,b.since,b.epoch,b.given,b.log,b.results,fw (pP (b.now+1)) b.jobs b.jobs.length,b.seats,b.owed⟩),.val (bn p)] (.agg [.t (.i X.workers),.t (.b X.up),.t (.i X.now),.t (.i X.since),.t (.i X.epoch),.t (.i X.given),.own [false] (X.log.safe.map aq),.own [false] (X.log.loose.map aq),.own [false] (X.results.map aq),.own ey (X.jobs.map aH),.own cz (X.seats.map aI),.own cA (X.owed.map aX),.own cH ((endH b p.tasks).out.map aK)]) [[],[]]:=ch
    clear ch
    have x1:X.since = b.since:=by rw[←hX];rfl
    have x2:X.log = b.log:=by rw[←hX];rfl
    have x3:X.owed = b.owed:=by rw[←hX];rfl
    have cl:=qN X.log (by rw[x2];exact l1) (by rw[x2];exact l2)
    refine fc ?_
    conv=>whnf
    refine g 1 2 []<|J Zce<|W.sq<|g 10 13 [.call VT [[],[]]]<|J Zdo<|W.cn<|J (noT rfl) fun _=>W.skip<|g 13 17 [.call (ay b) [[]]]<|J Zd7<|W.sq<|g 17 19 []<|J UC<|W.cn<|J (noT dO) fun _=>W.skip<|g 19 26 [.i (b.now+1)]<|J Zbb<|W.sq ?_
    refine g 26 28 []<|J UC<|W.cn<|J (noT (nbF AS)) fun _=>W.skip<|W.sq<|g 28 29 []<|J UA<|W.blk<|W.lp (fun s (n:Nat)=>⟨[(0,s.s 0),(2,s.s 2),(3,s.s 3),(4,s.s 4),(5,s.s 5),(6,.i n)],[(2,[s.c 2 0,s.c 2 1,s.c 2 2,s.c 2 3,s.c 2 4,s.c 2 5,s.c 2 6,s.c 2 7,s.c 2 8,s.c 2 9,s.c 2 10,s.c 2 11]),(3,[s.c 3 0]),(4,[s.c 4 0,s.c 4 1,s.c 4 2,s.c 4 3,s.c 4 4,s.c 4 5,s.c 4 6,s.c 4 7,s.c 4 8,s.c 4 9,s.c 4 10,s.c 4 11,s.c 4 12]),(5,[.t (.i b.workers),.t (.b b.up),.t (.i (b.now+1)),.t (.i b.since),.t (.i b.epoch),.t (.i b.given),.own [false] (b.log.safe.map aq),.own [false] (b.log.loose.map aq),.own [false] (b.results.map aq),.own ey ((fw (pP (b.now+1)) b.jobs n).map aH),.own cz (b.seats.map aI),.own cA (b.owed.map aX)])],[]⟩) (fun(n:Nat)=>n≤b.jobs.length) (fun(n:Nat)=>b.jobs.length - n) (0) [some 2,some 3,some 4,some 5] [] ⟨rfl,Zeg,⟨Zaa,⟨Zad,⟨Zdl,Zd1⟩⟩⟩,I⟩ OM ?_
    intro n hn
    have hx:=je (pP (b.now+1)) b.jobs n
    by_cases hj:n < b.jobs.length
    ·obtain⟨j,hj1⟩:=ak hj
     by_cases hz:j.lease = 0
     ·have e1:=NV u12 hj1 hz (b.now+1)
      conv=>whnf
      refine W.sq<|g 31 35 []<|J UE<|W.cn<|J (fun _=>(W.skip (W.sq (W.blk (gd 35 55 [[],[],[],[.n (n)],[],[.x (aH j)],[],[],[BF],[BF],[BF],[BF],[BF],[BF],[BF],[BF],[BF],[BF]] ?_))))) (noF (by simp_all))
      conv=>whnf
      refine⟨⟨I,I,I,Zdj,I,bf AS,I,I,nO,nO,nO,nO,nO,nO,nO,nO,nO,nO,I⟩,by kernel_rfl,?_⟩
      refine W.cn<|J (noT rfl) fun _=>W.skip<|rg [.i ((n:Int) +1)]<|J Zdg ?_
      refine⟨n+1,[some 2,some 3,some 4,some 5],[],⟨rfl,Zeg,⟨Zaa,⟨Zad,⟨Zdl,⟨⟨rfl,⟨rfl,⟨rfl,⟨rfl,⟨rfl,⟨rfl,⟨rfl,⟨rfl,⟨rfl,⟨rfl,⟨(congrArg (V.own _) (by rw[←e1])),Zad⟩⟩⟩⟩⟩⟩⟩⟩⟩⟩⟩,I⟩⟩⟩⟩,I⟩,?_,?_⟩
      rotate_left
      (dsimp only;omega)
      dsimp only
      omega
     ·by_cases hd:j.til≤b.now+1
      ·have e1:=Ho hj1 hd
       conv=>whnf
       refine W.sq<|g 31 35 []<|J UE<|W.cn<|J (fun _=>(W.skip (W.sq (W.blk (gd 35 55 [[],[],[],[.n (n)],[],[.x (aH j)],[],[],[BT],[BT],[BT],[BT,.n (n)],[BT],[BT,.x (aH j)],[BT],[BT],[BT],[BT]] ?_))))) (noF (by simp_all))
       conv=>whnf
       refine⟨⟨I,I,I,Zdj,I,bf AS,I,I,Zan,Zan,Zan,⟨ah OM,rfl,LN⟩,Zan,⟨ah OM,bf AS⟩,Zan,Zan,Zan,ah OM,I⟩,by kernel_rfl,?_⟩
       refine W.cn<|J (fun _=>(rg [.n (n),.x (aH j)]<|J ⟨I,I,I,I,Zdj,⟨UC,bf AS⟩,I⟩ (rg [.i ((n:Int) +1)]<|J Zdg ?_))) (noF tO)
       refine⟨n+1,[some 2,some 3,some 4,some 5],[],⟨rfl,Zeg,⟨Zaa,⟨Zad,⟨Zdl,⟨⟨rfl,⟨rfl,⟨rfl,⟨rfl,⟨rfl,⟨rfl,⟨rfl,⟨rfl,⟨rfl,⟨rfl,⟨(congrArg (V.own _) (e1)),Zad⟩⟩⟩⟩⟩⟩⟩⟩⟩⟩⟩,I⟩⟩⟩⟩,I⟩,?_,?_⟩
       rotate_left
       (dsimp only;omega)
       dsimp only
       omega
      ·have e1:=Mc hj1 hd
       conv=>whnf
       refine W.sq<|g 31 35 []<|J UE<|W.cn<|J (fun _=>(W.skip (W.sq (W.blk (gd 35 55 [[],[],[],[.n (n)],[],[.x (aH j)],[],[],[BT],[BT],[BT],[BT,.n (n)],[BT],[BT,.x (aH j)],[BT],[BT],[BT],[BT]] ?_))))) (noF (by simp_all))
       conv=>whnf
       refine⟨⟨I,I,I,Zdj,I,bf AS,I,I,Zan,Zan,Zan,⟨ah OM,rfl,LN⟩,Zan,⟨ah OM,bf AS⟩,Zan,Zan,Zan,ah OM,I⟩,by kernel_rfl,?_⟩
       refine W.cn<|J (noT dO) fun _=>W.skip<|rg [.i ((n:Int) +1)]<|J Zdg ?_
       refine⟨n+1,[some 2,some 3,some 4,some 5],[],⟨rfl,Zeg,⟨Zaa,⟨Zad,⟨Zdl,⟨⟨rfl,⟨rfl,⟨rfl,⟨rfl,⟨rfl,⟨rfl,⟨rfl,⟨rfl,⟨rfl,⟨rfl,⟨(congrArg (V.own _) (by rw[←e1])),Zad⟩⟩⟩⟩⟩⟩⟩⟩⟩⟩⟩,I⟩⟩⟩⟩,I⟩,?_,?_⟩
       rotate_left
       (dsimp only;omega)
       dsimp only
       omega
    obtain rfl:n = b.jobs.length:=by omega
    have x4:X.epoch = b.epoch:=by rw[←hX];rfl
    have x5:X.owed.length≤2000:=by rw[x3];exact u11
    by_cases hs:b.since+1 = 2
    ·rw[lj h0 hup hs]
     conv=>whnf
     refine W.sq<|g 31 35 []<|J UE<|W.cn<|J (noT (by simp_all)) fun _=>W.exit<|g 35 64 [.call (V.agg [V.t (T.i (Boss.workers X)),V.t (T.b (Boss.up X)),V.t (T.i (Boss.now X)),V.t (T.i (Boss.since X)),V.t (T.i (Boss.epoch X)),V.t (T.i (Boss.given X)),V.own [false] (List.map aq (Log.safe (Boss.log X))),V.own [false] (List.map aq (Log.loose (Boss.log X))),V.own [false] (List.map aq (Boss.results X)),V.own ey (List.map aH (Boss.jobs X)),V.own cz (List.map aI (Boss.seats X)),V.own cA (List.map aX (Boss.owed X)),V.own cH (List.map aK (Hand.out (endH b p.tasks)))]) [[],[]]]<|J ⟨I,I,⟨⟨UL,I,I⟩,I,UV,UA,AS⟩,I,UM,I⟩<|g 64 70 [.i (Boss.since X+1)]<|J ⟨I,I,I,wO,I,I,UA,I⟩<|W.sq<|g 70 73 []<|J UD<|W.cn<|J (noT dO) fun _=>W.skip<|g 5 7 []<|J ⟨I,I,UA,I⟩<|g 75 84 [.call (V.own [false] (List.map aq (Log.safe (Boss.log X) ++Log.loose (Boss.log X)))) [[]]]<|J ⟨I,I,I,⟨UA,I,⟨UB,I⟩,UA,AS⟩,I,I,I,UB,I⟩ ?_
     refine W.sq<|g 0 0 []<|J UA<|W.blk<|W.lp (fun s (n:Nat)=>⟨[(0,s.s 0),(2,s.s 2),(3,s.s 3),(4,s.s 4),(7,s.s 7),(8,.i n),(73,s.s 73)],[(2,[s.c 2 0,s.c 2 1,s.c 2 2,s.c 2 3,s.c 2 4,s.c 2 5,s.c 2 6,s.c 2 7,s.c 2 8,s.c 2 9,s.c 2 10,s.c 2 11]),(3,[s.c 3 0]),(4,[s.c 4 0,s.c 4 1,s.c 4 2,s.c 4 3,s.c 4 4,s.c 4 5,s.c 4 6,s.c 4 7,s.c 4 8,s.c 4 9,s.c 4 10,s.c 4 11,s.c 4 12]),(7,[.t (.i X.workers),.t (.b X.up),.t (.i X.now),.t (.i 0),.t (.i X.epoch),.t (.i X.given),.own [false] ((X.log.safe++X.log.loose).map aq),.own [false] [],.own [false] (X.results.map aq),.own ey (X.jobs.map aH),.own cz (X.seats.map aI),.own cA (X.owed.map aX),.own cH (((endH b p.tasks).out++ (X.owed.take n).map (lU X.epoch)).map aK)])],[]⟩) (fun(n:Nat)=>n≤X.owed.length) (fun(n:Nat)=>X.owed.length - n) (0) [some 2,some 3,some 4,some 7] [] ⟨rfl,⟨Zae,rfl,rfl,rfl,rfl,rfl,rfl,I⟩,⟨Zaa,⟨Zad,⟨Zdl,⟨⟨rfl,⟨rfl,⟨rfl,⟨rfl,⟨rfl,⟨rfl,⟨rfl,⟨rfl,⟨rfl,⟨rfl,⟨rfl,⟨rfl,⟨rfl,⟨(congrArg (V.own _) (by rw[List.take_zero,List.map_nil,List.append_nil])),I⟩⟩⟩⟩⟩⟩⟩⟩⟩⟩⟩⟩⟩⟩,I⟩⟩⟩⟩,I⟩ OM ?_
     intro n hn3
     by_cases hn2:n < X.owed.length
     ·obtain⟨o,ho⟩:=ak hn2
      have eo:=tw (out:=(endH b p.tasks).out) (ep:=X.epoch) ho
      conv=>whnf
      refine W.sq<|g 84 89 []<|J UF<|W.cn<|J (fun _=>(W.skip (W.sq (W.blk (g 89 98 [.n (n),.x (aX o)]<|J ⟨I,I,I,I,Zdj,xA,I,UC,I⟩ (rg []<|J ⟨I,I,I,I,I,I,I,I,I,I,⟨UH,I⟩,Zdh,I,UA,I⟩ (rg [.i ((n:Int) +1)]<|J Zdg ?_))))))) (noF (by simp_all))
      refine⟨n+1,[some 2,some 3,some 4,some 7],[],⟨rfl,⟨Zae,rfl,rfl,rfl,rfl,rfl,rfl,I⟩,⟨Zaa,⟨Zad,⟨Zdl,⟨⟨rfl,⟨rfl,⟨rfl,⟨rfl,⟨rfl,⟨rfl,⟨rfl,⟨rfl,⟨rfl,⟨rfl,⟨rfl,⟨rfl,⟨rfl,⟨(congrArg (V.own _) (eo)),I⟩⟩⟩⟩⟩⟩⟩⟩⟩⟩⟩⟩⟩⟩,I⟩⟩⟩⟩,I⟩,?_,?_⟩
      rotate_left
      (dsimp only;omega)
      dsimp only
      omega
     ·have et:X.owed.take n = X.owed:=bc OM
      conv=>whnf
      refine W.sq<|g 84 89 []<|J UF<|W.cn<|J (noT (by simp_all)) fun _=>W.exit<|g 89 114 []<|J UW<|g 0 4 []<|J ⟨I,UM,I⟩<|RT ?_
      rw[et]
      subst hX
      rfl
    ·rw[nz h0 hup hs]
     conv=>whnf
     refine W.sq<|g 31 35 []<|J UE<|W.cn<|J (noT (by simp_all)) fun _=>W.exit<|g 35 64 [.call (V.agg [V.t (T.i (Boss.workers X)),V.t (T.b (Boss.up X)),V.t (T.i (Boss.now X)),V.t (T.i (Boss.since X)),V.t (T.i (Boss.epoch X)),V.t (T.i (Boss.given X)),V.own [false] (List.map aq (Log.safe (Boss.log X))),V.own [false] (List.map aq (Log.loose (Boss.log X))),V.own [false] (List.map aq (Boss.results X)),V.own ey (List.map aH (Boss.jobs X)),V.own cz (List.map aI (Boss.seats X)),V.own cA (List.map aX (Boss.owed X)),V.own cH (List.map aK (Hand.out (endH b p.tasks)))]) [[],[]]]<|J ⟨I,I,⟨⟨UL,I,I⟩,I,UV,UA,AS⟩,I,UM,I⟩<|g 64 70 [.i (Boss.since X+1)]<|J ⟨I,I,I,wO,I,I,UA,I⟩<|W.sq<|g 70 73 []<|J UD<|W.cn<|J (fun _=>(g 5 7 []<|J ⟨I,UM,I⟩ (RT ?_))) (noF tO)
     subst hX
     rfl
 ·rw[decide_eq_false hv]at cv
  rw[wW hv]
  refine fc ?_
  conv=>whnf
  refine g 1 2 []<|J Zce<|W.sq<|g 10 13 [.call VF [[],[]]]<|J Zdo<|W.cn<|J (fun _=>(g 13 15 []<|J ⟨I,UM,I⟩ (RT ?_))) (noF rfl)
  rfl
end Go.K
end
section
open Go Go.Tm Go.Proofs
namespace Go.K
structure LedSmall (x:Led):Prop where
 boss:BossSmall x.boss
 out:x.out.length≤2097152
 inp:∀ m∈x.out,m.inputs.length≤8
theorem B7:LedSmall Bf:=⟨ro,Nat.zero_le _,fun m hm=>by cases hm⟩
theorem Cy{b:Boss}(p:Plan)(h:BossLim b):LedSmall (nW b p):=by
 unfold nW;split
 ·rename_i hv
  have hs:=sU h
  unfold gM;split
  ·exact⟨hs,Nat.zero_le _,fun m hm=>by cases hm⟩
  ·split
   ·exact⟨⟨hs.1,hs.2,hs.3,hs.4,hs.5,hs.6⟩,Nat.zero_le _,fun m hm=>by cases hm⟩
   ·rename_i hup
    have hup2:b.up = true:=by cases hb:b.up;exact absurd hb hup;rfl
    obtain⟨u1,u2,u3,u4,u5,u6,⟨u7,u8⟩,⟨u9,u10⟩,u11,u12,u13,u14⟩:=hv.up hup2
    have hck:=hv.plan
    have hpl:=(bM hck).1
    have hdl:∀ t∈p.tasks,t.deps.length≤8:=fun t ht=>by
     obtain⟨k,hk⟩:=List.getElem?_of_mem ht
     exact(bP hck hk).2.2.1
    obtain⟨k1,k2,k3,k4,k5,k6⟩:=kh (b:=da b) (ts:=p.tasks) hdl u9 u10 p.tasks.length
    have k7:(da b).jobs.length = b.jobs.length:=by show(b.jobs.map _).length = _;rw[List.length_map]
    have k8:(da b).seats.length = b.seats.length:=rfl
    have g1:=h.safe
    have g2:=h.loose
    have g3:=h.seats
    have g4:=h.res
    have j1:(endH b p.tasks).jobs.length≤4194304:=by show(aG _ _ _).jobs.length≤_;omega
    have j2:(endH b p.tasks).seats.length≤4194304:=by show(aG _ _ _).seats.length≤_;omega
    have j3:(endH b p.tasks).out.length≤40:=by show(aG _ _ _).out.length≤_;omega
    split
    ·refine⟨⟨?_,Nat.zero_le _,by show b.results.length≤_;omega,j1,j2,Nat.zero_le _⟩,?_,?_⟩
     ·simp only[List.length_append];omega
     ·simp only[List.length_append,List.length_map];omega
     ·intro m hm
      rcases List.mem_append.1 hm with hm|hm
      ·exact k6 m hm
      ·obtain⟨o,_,rfl⟩:=List.mem_map.1 hm
       exact Nat.zero_le _
    ·exact⟨⟨by show b.log.safe.length≤_;omega,by show b.log.loose.length≤_;omega,by show b.results.length≤_;omega,j1,j2,by show b.owed.length≤_;omega⟩,by show(endH b p.tasks).out.length≤_;omega,k6⟩
 ·exact B7
end Go.K
end
section
open Go Go.Tm Go.Proofs
namespace Go.K
structure JL (ep now given workers:Int) (rs:List ByteArray) (ts:List Task) (js:List Job):Prop where
 zero:∀ (i:Nat) (j:Job),js[i]? = some j→j.lease = 0→j.worker = 0∧j.til = 0
 lease:∀ (i:Nat) (j:Job),js[i]? = some j→¬j.lease = 0→(ep - 1) * 1000000+1≤j.lease∧j.lease≤(ep - 1) * 1000000+given
 worker:∀ (i:Nat) (j:Job),js[i]? = some j→¬j.lease = 0→1≤j.worker∧j.worker≤workers
 til:∀ (i:Nat) (j:Job),js[i]? = some j→¬j.lease = 0→now+1≤j.til∧j.til≤now+12
 res:∀ (i:Nat) (j:Job),js[i]? = some j→¬j.lease = 0→atS rs (i:Int) = emp
 ready:∀ (i:Nat) (j:Job),js[i]? = some j→¬j.lease = 0→cF rs (mr ts i)
 once:∀ (i k:Nat) (j l:Job),i < k→js[i]? = some j→js[k]? = some l→¬l.lease = 0→¬j.lease = l.lease
theorem Bl{b:Boss}{ts:List Task}(h:gt b ts b.jobs.length):JL b.epoch b.now b.given b.workers b.results ts b.jobs:=by
 have hl:∀ {i:Nat} {j:Job},b.jobs[i]? = some j→i < b.jobs.length:=fun hj=>(List.getElem?_eq_some_iff.1 hj).1
 refine⟨fun i j hj hz=>(h i j (hl hj) hj).1 hz,fun i j hj hz=>((h i j (hl hj) hj).2 hz).lease,fun i j hj hz=>((h i j (hl hj) hj).2 hz).worker,fun i j hj hz=>((h i j (hl hj) hj).2 hz).til,fun i j hj hz=>((h i j (hl hj) hj).2 hz).res,fun i j hj hz=>((h i j (hl hj) hj).2 hz).ready,fun i k j l hik hj hk hz e=>?_⟩
 refine((h k l (hl hk) hk).2 hz).once (List.mem_map.2 ⟨j,?_,e⟩)
 exact List.mem_of_getElem? (i:=i) (by rw[List.getElem?_take];rw[if_pos hik];exact hj)
theorem yM{b:Boss}{ts:List Task}(h:JL b.epoch b.now b.given b.workers b.results ts b.jobs):gt b ts b.jobs.length:=by
 intro i j _ hj
 refine⟨h.zero i j hj,fun hz=>⟨h.lease i j hj hz,h.worker i j hj hz,h.til i j hj hz,h.res i j hj hz,h.ready i j hj hz,fun hm=>?_⟩⟩
 obtain⟨l,hl,e⟩:=List.mem_map.1 hm
 obtain⟨k,hk⟩:=List.getElem?_of_mem hl
 rw[List.getElem?_take]at hk
 split at hk
 ·rename_i hki
  exact h.once k i l j hki hk hj hz e
 ·cases hk
theorem FW{ep now now' given workers:Int}{rs:List ByteArray}{ts:List Task}{js:List Job}{f:Job→Job}(h:JL ep now given workers rs ts js)(hf:∀ j,f j = eS∨(f j).lease = j.lease∧(f j).worker = j.worker∧(j.lease = 0→f j = j)∧(¬j.lease = 0→(now+1≤j.til∧j.til≤now+12)→now'+1≤(f j).til∧(f j).til≤now'+12)):JL ep now' given workers rs ts (js.map f):=by
 have g:∀ {i:Nat} {x:Job},(js.map f)[i]? = some x→∃ j,js[i]? = some j∧f j = x:=fun{i x} hx=>by
  rw[List.getElem?_map]at hx
  cases hj:js[i]? with
  |none=>rw[hj]at hx;cases hx
  |some j=>rw[hj]at hx;exact⟨j,rfl,Option.some.inj hx⟩
 have k:∀ {i:Nat} {x:Job},(js.map f)[i]? = some x→¬x.lease = 0→∃ j,js[i]? = some j∧f j = x∧x.lease = j.lease∧x.worker = j.worker∧¬j.lease = 0∧now'+1≤x.til∧x.til≤now'+12:=fun{i x} hx hz=>by
  obtain⟨j,hj,e⟩:=g hx
  rcases hf j with q|⟨q1,q2,_,q3⟩
  ·rw[e]at q;rw[q]at hz;exact absurd rfl hz
  ·rw[e]at q1 q2 q3
   have hz':¬j.lease = 0:=fun w=>hz (by rw[q1];exact w)
   exact⟨j,hj,e,q1,q2,hz',q3 hz' (h.til i j hj hz')⟩
 refine⟨fun i x hx hz=>?_,fun i x hx hz=>?_,fun i x hx hz=>?_,fun i x hx hz=>?_,fun i x hx hz=>?_,fun i x hx hz=>?_,fun i m x y him hx hy hz e=>?_⟩
 ·obtain⟨j,hj,e⟩:=g hx
  rcases hf j with q|⟨q1,q2,q4,q3⟩
  ·rw[←e,q];exact⟨rfl,rfl⟩
  ·have hz':j.lease = 0:=by rw[←q1,e];exact hz
   rw[←e,q4 hz'];exact h.zero i j hj hz'
 ·obtain⟨j,hj,e,q1,q2,hz',t⟩:=k hx hz;rw[q1];exact h.lease i j hj hz'
 ·obtain⟨j,hj,e,q1,q2,hz',t⟩:=k hx hz;rw[q2];exact h.worker i j hj hz'
 ·obtain⟨j,hj,e,q1,q2,hz',t⟩:=k hx hz;exact t
 ·obtain⟨j,hj,e,q1,q2,hz',t⟩:=k hx hz;exact h.res i j hj hz'
 ·obtain⟨j,hj,e,q1,q2,hz',t⟩:=k hx hz;exact h.ready i j hj hz'
 ·obtain⟨l,hl,_,q1,_,hz',_⟩:=k hy hz
  have hzx:¬x.lease = 0:=fun w=>hz (by rw[←e];exact w)
  obtain⟨j,hj,_,p1,_,_,_⟩:=k hx hzx
  exact h.once i m j l him hj hl hz' (by rw[←p1,←q1];exact e)
theorem PL{ep now given workers:Int}{rs:List ByteArray}{ts:List Task}{js:List Job}(h:JL ep now given workers rs ts js):JL ep (now+1) given workers rs ts (js.map (pP (now+1))):=by
 refine FW h fun j=>?_
 unfold pP
 split
 ·exact .inl rfl
 ·rename_i hd
  exact .inr ⟨rfl,rfl,fun _=>rfl,fun _ q=>⟨by omega,by omega⟩⟩
theorem NI{ep now given workers w:Int}{rs:List ByteArray}{ts:List Task}{js:List Job}(h:JL ep now given workers rs ts js):JL ep now given workers rs ts (js.map fun j=>if j.worker = w then eS else j):=by
 refine FW h fun j=>?_
 split
 ·exact .inl rfl
 ·exact .inr ⟨rfl,rfl,fun _=>rfl,fun _ q=>q⟩
theorem NJ{ep now given workers l:Int}{rs:List ByteArray}{ts:List Task}{js:List Job}(hl:1≤l)(h:JL ep now given workers rs ts js):JL ep now given workers rs ts (js.map fun j=>if j.lease = l then⟨j.lease,j.worker,now+12⟩else j):=by
 refine FW h fun j=>?_
 split
 ·rename_i e
  exact .inr ⟨rfl,rfl,fun z=>absurd z OM,fun _ q=>⟨by dsimp only;omega,by dsimp only;omega⟩⟩
 ·exact .inr ⟨rfl,rfl,fun _=>rfl,fun _ q=>q⟩
theorem PJ{ep now given workers s:Int}{rs:List ByteArray}{ts:List Task}{js:List Job}{n:Nat}{j0:Job}(h:JL ep now given workers rs ts js)(hj:js[n]? = some j0)(hg:0≤given)(hs:0≤s∧s < workers)(hr:atS rs (n:Int) = emp)(hd:cF rs (mr ts n))(he:1≤ep):JL ep now (given+1) workers rs ts (js.set n ⟨(ep - 1) * 1000000+ (given+1),s+1,now+12⟩):=by
 have hn:=(List.getElem?_eq_some_iff.1 hj).1
 have g:∀ {i:Nat} {x:Job},(js.set n ⟨(ep - 1) * 1000000+ (given+1),s+1,now+12⟩)[i]? = some x→(i = n∧x = ⟨(ep - 1) * 1000000+ (given+1),s+1,now+12⟩)∨(¬i = n∧js[i]? = some x):=fun{i x} hx=>by
  by_cases e:i = n
  ·subst e
   rw[List.getElem?_set_self hn]at hx
   exact .inl ⟨rfl,(Option.some.inj hx).symm⟩
  ·rw[List.getElem?_set_ne (fun q=>e q.symm)]at hx
   exact .inr ⟨e,hx⟩
 refine⟨fun i x hx hz=>?_,fun i x hx hz=>?_,fun i x hx hz=>?_,fun i x hx hz=>?_,fun i x hx hz=>?_,fun i x hx hz=>?_,fun i m x y him hx hy hz e=>?_⟩
 ·rcases g hx with⟨_,rfl⟩|⟨_,q⟩
  ·dsimp only at hz;omega
  ·exact h.zero i x q hz
 ·rcases g hx with⟨_,rfl⟩|⟨_,q⟩
  ·exact⟨by dsimp only;omega,by dsimp only;omega⟩
  ·have:=h.lease i x q hz;exact⟨by omega,by omega⟩
 ·rcases g hx with⟨_,rfl⟩|⟨_,q⟩
  ·exact⟨by dsimp only;omega,by dsimp only;omega⟩
  ·exact h.worker i x q hz
 ·rcases g hx with⟨_,rfl⟩|⟨_,q⟩
  ·exact⟨by dsimp only;omega,by dsimp only;omega⟩
  ·exact h.til i x q hz
 ·rcases g hx with⟨rfl,rfl⟩|⟨_,q⟩
  ·exact hr
  ·exact h.res i x q hz
 ·rcases g hx with⟨rfl,rfl⟩|⟨_,q⟩
  ·exact hd
  ·exact h.ready i x q hz
 ·rcases g hx with⟨a,rfl⟩|⟨a,qx⟩
  ·rcases g hy with⟨b,rfl⟩|⟨_,qy⟩
   ·omega
   ·have:=(h.lease m y qy hz).2;dsimp only at e;omega
  ·rcases g hy with⟨_,rfl⟩|⟨_,qy⟩
   ·have hx0:¬x.lease = 0:=fun w=>by dsimp only at e;omega
    have:=(h.lease i x qx hx0).2;dsimp only at e;omega
   ·exact h.once i m x y him qx qy hz e
end Go.K
end
section
open Go Go.Tm Go.Proofs
namespace Go.K
abbrev u8s(l:List Int):T:=.slc [false] (l.map b1T)
theorem m7:XT 6 20 Try.f6 [(2,30,true),(3,33,true),(4,3,false)]:=@xM _ _ _ _ Try.func6 rfl rfl rfl KR KR
theorem kY:XT 29 27 Try.f29 [(2,30,true),(3,33,true)]:=@xM _ _ _ _ Try.func29 rfl rfl rfl KR KR
theorem j4:XT 30 99 Try.f30 [(4,3,false)]:=@xM _ _ _ _ Try.func30 rfl rfl rfl KR KR
theorem nZ:XT 47 69 Try.f47 [(2,33,true)]:=@xM _ _ _ _ Try.func47 rfl rfl rfl KR KR
theorem aV:XT 51 50 Try.f51 [(2,57,true)]:=@xM _ _ _ _ Try.func51 rfl rfl rfl KR KR
theorem dc:XT 62 190 Try.f62 [(2,30,true),(3,33,true)]:=@xM _ _ _ _ Try.func62 rfl rfl rfl KR KR
theorem jZ:XT 63 40 Try.f63 [(2,49,true)]:=@xM _ _ _ _ Try.func63 rfl rfl rfl KR KR
theorem uL:XT 64 198 Try.f64 [(4,30,true)]:=@xM _ _ _ _ Try.func64 rfl rfl rfl KR KR
theorem nY:XT 102 23 Try.f102 [(2,93,true)]:=@xM _ _ _ _ Try.func102 rfl rfl rfl KR KR
abbrev rdC(l:List Int)(pos:Int):List V:=[.t (u8s l),.t (.i pos)]
def eP(l:List Int):Prop:=l.length≤2000∧∀ x∈l,0≤x∧x≤255
theorem yr(l:List Int)(h:l.length≤1099511627776):F xH [.val (.t (u8s l))] (.tup [.tup (rdC (l.take 2000) 0)]) [[]]:=by
 refine ya ?_
 conv=>whnf
 refine g 0 0 []<|J UA<|W.sq<|g 3 5 []<|J UC<|W.cn<|J (fun h1=>?_) fun h1=>?_
 replace h1:=dt h1
 simp only[LM]at h1
 refine rg [.n (2000)]<|J ⟨I,⟨I,rfl,I,OM,LN⟩,I,I⟩<|g 5 11 []<|J ⟨I,I,UB,I,I⟩<|RT ?_
 rotate_left
 replace h1:=df h1
 simp only[LM]at h1
 refine W.skip<|g 5 11 []<|J ⟨I,I,UB,I,I⟩<|RT ?_
 rotate_left
 ·rw[List.drop_zero,←List.map_take]
 ·rw[List.take_of_length_le OM]
theorem ri{x n:Int}(hx:0≤x)(hn:0 < n):0≤x.tmod n∧x.tmod n < n:=⟨Int.tmod_nonneg _ hx,Int.tmod_lt_of_pos _ hn⟩
theorem wA{x n:Int}(hx:0≤x)(hn:0 < n):0≤x.tdiv n∧x.tdiv n≤x:=by
 rw[Int.tdiv_eq_ediv_of_nonneg hx]
 exact⟨Int.ediv_nonneg hx OM,Int.ediv_le_self _ hx⟩
theorem Na{x y:Int}(hx:0≤x)(hx2:x < 1099511627776)(hy:0≤y)(hy2:y < 1099511627776):0≤IntKind.i64.wrap ↑(BitVec.ofInt IntKind.i64.bits x ^^^ BitVec.ofInt IntKind.i64.bits y).toNat:=by
 have e1:(BitVec.ofInt IntKind.i64.bits x).toNat = x.toNat:=by
  rw[BitVec.toNat_ofInt]
  show(x % ((2 ^ 64:Nat):Int)).toNat = _
  rw[Int.emod_eq_of_lt hx OM]
 have e2:(BitVec.ofInt IntKind.i64.bits y).toNat = y.toNat:=by
  rw[BitVec.toNat_ofInt]
  show(y % ((2 ^ 64:Nat):Int)).toNat = _
  rw[Int.emod_eq_of_lt hy OM]
 have h:x.toNat ^^^ y.toNat < 2 ^ 40:=Nat.xor_lt_two_pow OM OM
 rw[BitVec.toNat_xor,e1,e2]
 have:(2:Nat) ^ 40 = 1099511627776:=by decide
 rw[wO]
 omega
theorem NP(l:List Int)(pos n:Int)(hl:eP l)(h0:0≤pos)(h1:pos≤1048576)(hn:n≤1048576):∃ res outs,(∃ v,res = .i v∧outs = [rdC l (pos+1),[]]∧0≤v∧(v < n∨v = 0))∧F eI [.ptr (rdC l pos),.val (.i n)] res outs:=by
 obtain⟨hl1,hl2⟩:=hl
 by_cases hz:l.length = 0
 ·refine j4 ?_
  conv=>whnf
  refine g 0 0 []<|J UA<|g 7 15 [.i (pos+1)]<|J ⟨I,I,I,I,I,wO,I,I,UA,I⟩<|W.sq ?_
  by_cases h2:n < (1:Int)
  refine g 15 24 [BT,BT,BT,BT,BT,BT,BT]<|J ⟨I,I,I,tO,tO,tO,tO,tO,tO,tO,I⟩<|W.cn<|J (fun _=>(g 24 25 []<|J UA (W.ret (EndsW.rt<|J UB ?_)))) (noF rfl)
  rotate_left
  refine g 15 24 [BF,BF,BF,BF,BF,BF,BF]<|J ⟨I,I,I,⟨dO,I⟩,⟨dO,I⟩,⟨dO,I⟩,⟨dO,I⟩,⟨dO,I⟩,⟨dO,I⟩,dO,I⟩<|W.cn<|J (fun _=>(g 24 25 []<|J UA (W.ret (EndsW.rt<|J UB ?_)))) (noF SI)
  rotate_left
  all_goals exact⟨0,rfl,rfl,by omega,.inr rfl⟩
 ·have hp:(0:Int) < ((l.map b1T).length:Int):=by rw[List.length_map];omega
  have hlm:((l.map b1T).length:Int) = l.length:=by rw[List.length_map]
  obtain⟨m1,m2⟩:=ri (x:=pos+1 - 1) OM hp
  obtain⟨m3,m4⟩:=ri (x:=(pos+1 - 1) * 7+3) OM hp
  obtain⟨m5,m6⟩:=wA (x:=pos+1 - 1) OM hp
  rw[hlm]at m1 m2 m3 m4 m5 m6
  refine j4 ?_
  conv=>whnf
  refine g 0 0 []<|J UA<|g 7 15 [.i (pos+1)]<|J ⟨I,I,I,I,I,wO,I,I,UA,I⟩<|W.sq ?_
  by_cases h2:n < (1:Int)
  refine g 15 24 [BT,BT,BT,BT,BT,BT,BT]<|J ⟨I,I,I,tO,tO,tO,tO,tO,tO,tO,I⟩<|W.cn<|J (fun _=>(g 24 25 []<|J UA (W.ret (EndsW.rt<|J UB ?_)))) (noF rfl)
  rotate_left
  refine g 15 24 [BF,BF,BF,BF,BF,BF,BF]<|J ⟨I,I,I,⟨dO,I⟩,⟨dO,I⟩,⟨dO,I⟩,⟨dO,I⟩,⟨dO,I⟩,⟨dO,I⟩,dO,I⟩<|W.cn<|J (noT dO) fun _=>W.skip<|g 24 30 [.i (pos+ (1:Int) - 1)]<|J ⟨I,I,I,I,wO,I,I⟩<|W.sq<|g 30 36 []<|J UG<|W.cn<|J (fun h3=>?_) fun h3=>?_
  replace h3:=dt h3
  simp only[LM]at h3
  obtain⟨y1,hy1⟩:=ak (xs:=l) (n:=Int.toNat (pos+ (1:Int) - (1:Int))) OM
  have hm1:=hl2 y1 (List.mem_of_getElem? hy1)
  refine g 36 47 [.x (b1T y1),.i (y1),.i (Int.tmod y1 n)]<|J ⟨I,I,I,I,I,Zdk,I,wO,I,Zdu,I,I⟩<|W.ret<|EndsW.rt<|J UB ?_
  rotate_left
  replace h3:=df h3
  simp only[LM]at h3
  refine W.skip ?_
  obtain⟨y1,hy1⟩:=ak (xs:=l) (n:=Int.toNat (Int.tmod (pos+ (1:Int) - (1:Int)) (↑(List.length (List.map b1T l)):Int))) (by simp only[LM]at *;omega)
  have hm1:=hl2 y1 (List.mem_of_getElem? hy1)
  obtain⟨y2,hy2⟩:=ak (xs:=l) (n:=Int.toNat (Int.tmod ((pos+ (1:Int) - (1:Int)) * (7:Int) + (3:Int)) (↑(List.length (List.map b1T l)):Int))) (by simp only[LM]at *;omega)
  have hm2:=hl2 y2 (List.mem_of_getElem? hy2)
  refine gd 36 92 [[],[],[],[],[],[],[],[],[],[],[.i (Int.tmod (pos+ (1:Int) - 1) (↑(List.length (List.map b1T l)):Int))],[.x (b1T y1)],[],[.i (y1)],[.i (y1 * 131)],[],[],[],[],[],[.i ((pos+ (1:Int) - 1) * 7)],[.i ((pos+ (1:Int) - 1) * 7+3)],[],[],[],[],[],[.i (Int.tmod ((pos+ (1:Int) - 1) * 7+3) (↑(List.length (List.map b1T l)):Int))],[.x (b1T y2)],[],[.i (y2)],[.i (y2 * 1117)],[.i (y1 * 131+y2 * 1117)],[],[.i ((pos+ (1:Int) - 1) * 29)],[.i (y1 * 131+y2 * 1117+ (pos+ (1:Int) - 1) * 29)],[],[],[],[],[],[],[.i (Int.tdiv (pos+ (1:Int) - 1) (↑(List.length (List.map b1T l)):Int))],[.i (Int.tdiv (pos+ (1:Int) - 1) (↑(List.length (List.map b1T l)):Int) * 53)],[.i (y1 * 131+y2 * 1117+ (pos+ (1:Int) - 1) * 29+Int.tdiv (pos+ (1:Int) - 1) (↑(List.length (List.map b1T l)):Int) * 53)],[]] ?_
  conv=>whnf
  refine J ⟨I,I,I,I,I,I,I,I,I,I,Zdu,⟨LN,xA⟩,I,wO,wO,I,I,I,I,I,wO,wO,I,I,I,I,I,Zdu,⟨LN,xA⟩,I,wO,wO,wO,I,wO,wO,I,I,I,I,I,I,⟨OM,w64 LN LN⟩,w64 LN LN,w64 LN LN,I,I⟩<|J KR<|g 92 96 [.i (IntKind.wrap IntKind.i64 (Int.tdiv (y1 * 131+y2 * 1117+ (pos+ (1:Int) - 1) * 29+Int.tdiv (pos+ (1:Int) - 1) (↑(List.length (List.map b1T l)):Int) * 53) 64)),.i (IntKind.wrap IntKind.i64 (↑(BitVec.toNat (BitVec.ofInt (IntKind.bits IntKind.i64) (y1 * 131+y2 * 1117+ (pos+ (1:Int) - 1) * 29+Int.tdiv (pos+ (1:Int) - 1) (↑(List.length (List.map b1T l)):Int) * 53) ^^^ BitVec.ofInt (IntKind.bits IntKind.i64) (IntKind.wrap IntKind.i64 (Int.tdiv (y1 * 131+y2 * 1117+ (pos+ (1:Int) - 1) * 29+Int.tdiv (pos+ (1:Int) - 1) (↑(List.length (List.map b1T l)):Int) * 53) 64)))):Int))]<|J ⟨I,I,Zdu,rfl,I,I⟩<|g 5 99 [.i (Int.tmod (IntKind.wrap IntKind.i64 (↑(BitVec.toNat (BitVec.ofInt (IntKind.bits IntKind.i64) (y1 * 131+y2 * 1117+ (pos+ (1:Int) - 1) * 29+Int.tdiv (pos+ (1:Int) - 1) (↑(List.length (List.map b1T l)):Int) * 53) ^^^ BitVec.ofInt (IntKind.bits IntKind.i64) (IntKind.wrap IntKind.i64 (Int.tdiv (y1 * 131+y2 * 1117+ (pos+ (1:Int) - 1) * 29+Int.tdiv (pos+ (1:Int) - 1) (↑(List.length (List.map b1T l)):Int) * 53) 64)))):Int)) n)]<|J ⟨I,I,Zdu,I,I⟩<|W.ret<|EndsW.rt<|J UB ?_
  rotate_left
  ·exact⟨0,rfl,rfl,by omega,.inr rfl⟩
  ·obtain⟨k1,k2⟩:=ri (x:=y1) (n:=n) OM OM
   exact⟨_,rfl,rfl,k1,.inl k2⟩
  ·obtain⟨q5,q6⟩:=wA (x:=pos+1 - 1) OM hp
   have hX:0≤y1 * 131+y2 * 1117+ (pos+1 - 1) * 29+ (pos+1 - 1).tdiv ↑(l.map b1T).length * 53∧y1 * 131+y2 * 1117+ (pos+1 - 1) * 29+ (pos+1 - 1).tdiv ↑(l.map b1T).length * 53 < 1099511627776:=by omega
   obtain⟨q7,q8⟩:=wA (n:=64) hX.1 OM
   obtain⟨k1,k2⟩:=ri (n:=n) (Na hX.1 hX.2 (y:=IntKind.i64.wrap ((y1 * 131+y2 * 1117+ (pos+1 - 1) * 29+ (pos+1 - 1).tdiv ↑(l.map b1T).length * 53).tdiv 64)) (by rw[wO];omega) (by rw[wO];omega)) OM
   exact⟨_,rfl,rfl,k1,.inl k2⟩
theorem wQ(l:List Int)(pos n:Int)(h:eP l∧0≤pos∧pos≤1048576∧n≤1048576):∃ v,F eI [.ptr (rdC l pos),.val (.i n)] (.i v) [rdC l (pos+1),[]]∧0≤v∧(v < n∨v = 0):=by
 obtain⟨res,outs,⟨v,rfl,rfl,h0⟩,hF⟩:=NP l pos n h.1 h.2.1 h.2.2.1 h.2.2.2
 exact⟨v,hF,h0⟩
open Classical in
noncomputable def ac(l:List Int)(pos n:Int):Int:=if h:eP l∧0≤pos∧pos≤1048576∧n≤1048576 then(wQ l pos n h).choose else 0
theorem aa(l:List Int)(pos n:Int)(hl:eP l)(h0:0≤pos)(h1:pos≤1048576)(hn:n≤1048576):F eI [.ptr (rdC l pos),.val (.i n)] (.i (ac l pos n)) [rdC l (pos+1),[]]:=by
 have h:eP l∧0≤pos∧pos≤1048576∧n≤1048576:=⟨hl,h0,h1,hn⟩
 rw[ac,dif_pos h]
 exact(wQ l pos n h).choose_spec.1
theorem av(l:List Int)(pos n:Int):0≤ac l pos n∧(ac l pos n < n∨ac l pos n = 0):=by
 unfold ac
 split
 ·rename_i h;exact(wQ l pos n h).choose_spec.2
 ·exact⟨Int.le_refl _,.inr rfl⟩
end Go.K
end
section
open Go Go.Tm Go.Proofs
namespace Go.K
def cy(p:Plan):Prop:=p.tasks.length≤64∧∀ t∈p.tasks,t.name.size≤64∧t.deps.length≤64
def dX(n:Int):ByteArray:=if n < 10 then bl [48+n]else bl [48+n.tdiv 10] ++bl [48+n.tmod 10]
theorem eT(n:Int):(dX n).size≤2:=by
 unfold dX;split
 ·rw[gh];simp
 ·rw[ByteArray.size_append,gh,gh];simp
theorem Nk{n:Int}(h:0≤n):n.tdiv 10 = n / 10:=Int.tdiv_eq_ediv_of_nonneg h
theorem Ni{n:Int}(h:0≤n):n.tmod 10 = n % 10:=Int.tmod_eq_emod_of_nonneg h
theorem Mi(n:Int)(h0:0≤n)(h1:n < 10):F qA [.val (.i n)] (.s (dX n)) [[]]:=by
 have e:dX n = bl [48+n]:=if_pos h1
 refine qH ?_
 conv=>whnf
 refine g 0 0 []<|J UA<|W.sq<|g 3 4 []<|J UB<|W.cn<|J (noT dO) fun _=>W.skip<|W.sq<|g 4 5 []<|J UB<|W.cn<|J (fun _=>(g 10 16 [.i (48+n),.i (48+n),.s ({data:=List.toArray (bN [[T.v (Value.int IntKind.u8 (48+n))]]):ByteArray})]<|J ⟨I,wO,wu8 OM OM,US,⟨I,(by repeat (first|exact kH|refine jc ?_)),rfl⟩,I,I⟩ ?_)) (noF tO)
 refine RT ?_
 rw[e];exact vs (rM [48+n])
theorem eN(n:Int)(h0:0≤n)(h1:n < 100):F qA [.val (.i n)] (.s (dX n)) [[]]:=by
 by_cases h2:n < 10
 ·exact Mi n h0 h2
 ·have e:dX n = bl [48+n.tdiv 10] ++bl [48+n.tmod 10]:=if_neg h2
  have q1:=Nk h0
  have q2:=Ni h0
  have e2:dX (n.tdiv 10) = bl [48+n.tdiv 10]:=if_pos OM
  have c:=Mi (n.tdiv 10) OM OM
  have hsz:=eT (n.tdiv 10)
  refine qH ?_
  conv=>whnf
  refine g 0 0 []<|J UA<|W.sq<|g 3 4 []<|J UB<|W.cn<|J (noT dO) fun _=>W.skip<|W.sq<|g 4 5 []<|J UB<|W.cn<|J (noT dO) fun _=>W.skip<|gd 10 26 [[],[.i (Int.tdiv n 10)],[.call (V.s (dX (Int.tdiv n 10))) [[]]],[],[.i (Int.tmod n 10)],[.i (48+Int.tmod n 10)],[.i (48+Int.tmod n 10)],[],[.s ({data:=List.toArray (bN [[T.v (Value.int IntKind.u8 (48+Int.tmod n 10))]]):ByteArray})],[.s (dX (Int.tdiv n 10) ++ {data:=List.toArray (bN [[T.v (Value.int IntKind.u8 (48+Int.tmod n 10))]]):ByteArray})],[]] ?_
  conv=>whnf
  refine J ⟨I,⟨OM,wO⟩,Zaj,I,Zdu,wO,wu8 OM OM,US,⟨I,(by repeat (first|exact kH|refine jc ?_)),rfl⟩,⟨rfl,(by simp only[bsz,ByteArray.size_append,qE];omega)⟩,I,I⟩<|J KR ?_
  refine RT ?_
  rw[e,e2];exact vs (congrArg (bl [48+n.tdiv 10] ++·) (rM [48+n.tmod 10]))
theorem uX(l:List Int)(pos:Int)(hl:eP l)(h0:0≤pos)(h1:pos≤1048576):F uR [.ptr (rdC l pos)] (.s (Gi (dX (ac l pos 50)))) [rdC l (pos+1)]:=by
 have hp:=av l pos 50
 have c:=aa l pos 50 hl h0 h1 OM
 have cd:=eN (ac l pos 50) OM OM
 have hs:=eT (ac l pos 50)
 have cs:=lf (dX (ac l pos 50)) OM
 refine uT ?_
 conv=>whnf
 refine g 0 0 []<|J UA<|g 3 7 [.call (V.i (ac l pos 50)) ([rdC l (pos+1),[]]),.call (V.s (dX (ac l pos 50))) [[]],.call (V.s (bl (beL (lG h0v (dX (ac l pos 50)) (ByteArray.size (dX (ac l pos 50)))) 8))) [[]]]<|J ⟨I,Zcb,Zaj,Zaj,I,I⟩<|RT ?_
 rw[fZ];rfl
theorem jU(p:Plan)(h:cy p):F xG [.val (bn p)] (db p) [[]]:=by
 obtain⟨hp1,hp2⟩:=h
 refine x8 ?_
 conv=>whnf
 refine g 0 0 []<|J Zdx<|g 6 7 []<|J ⟨I,I,UA,I⟩<|W.sq<|g 0 0 []<|J UA<|W.blk<|W.lp (fun s (n:Nat)=>⟨[(0,s.s 0),(1,s.s 1),(2,s.s 2),(3,s.s 3),(4,.i n)],[(1,[s.c 1 0]),(2,[s.c 2 0]),(34,[s.c 34 0]),(3,[.own eF ((p.tasks.take n).map aD)])],[]⟩) (fun(n:Nat)=>n≤p.tasks.length) (fun(n:Nat)=>p.tasks.length - n) (0) [some 1,some 2,some 34,some 3] [] ⟨rfl,⟨Zah,rfl,rfl,rfl,rfl,I⟩,⟨Zad,⟨Zad,⟨Zad,Zdv⟩⟩⟩,I⟩ OM ?_
 intro n hn
 conv=>whnf
 refine W.sq<|g 7 11 []<|J UE<|W.cn<|J (fun h1=>?_) fun h1=>?_
 replace h1:=dt h1
 simp only[LM]at h1
 refine W.skip<|W.sq<|W.blk ?_
 obtain⟨y1,hy1⟩:=ak (xs:=Plan.tasks p) (n:=n) OM
 have hm1:=hp2 y1 (List.mem_of_getElem? hy1)
 refine g 11 19 [.x (aD y1)]<|J Zbe<|rgd [[],[],[],[],[],[],[],[],[],[],[],[],[],[],[]] ?_
 conv=>whnf
 refine J ⟨I,I,I,I,I,I,I,I,I,Zdh,I,⟨UC,I⟩,Zdh,I,UA,I⟩<|J KR<|rg [.i ((n:Int) +1)]<|J Zdg ?_
 rotate_left
 replace h1:=df h1
 simp only[LM]at h1
 refine W.exit<|g 3 34 []<|J UV<|RT ?_
 rotate_left
 ·refine⟨n+1,[some 1,some 2,some 34,some 3],[],⟨rfl,⟨Zah,rfl,rfl,rfl,rfl,I⟩,⟨Zad,⟨Zad,⟨Zad,⟨⟨rfl,⟨(congrArg (V.own _) (sT AS)),I⟩⟩,I⟩⟩⟩⟩,I⟩,?_,?_⟩
  rotate_left
  (dsimp only;omega)
  dsimp only
  omega
 ·rw[bc OM]
theorem NS(l:List Int)(pos:Int)(hl:eP l)(h0:0≤pos)(h1:pos≤1000000):∃ res outs,(∃ p pos2,res = db p∧outs = [rdC l pos2]∧cy p∧1≤p.tasks.length∧pos≤pos2∧pos2≤pos+4000)∧F jH [.ptr (rdC l pos)] res outs:=by
 have hp1:=av l pos 6
 have hp2:=av l (pos+1) 12
 by_cases h12:ac l (pos+1) 12 = 0
 ·refine nZ ?_
  conv=>whnf
  refine g 0 0 []<|J UA<|g 9 11 [.call (V.i (ac l pos 6)) ([rdC l (pos+1),[]]),.i (1+ac l pos 6)]<|J ⟨I,⟨UB,I,UV,UA,aa _ _ _ OM OM OM OM⟩,wO,I,I⟩<|W.sq<|g 11 13 [.call (V.i (ac l (pos+1) 12)) ([rdC l (pos+1+1),[]])]<|J ⟨I,⟨UB,I,UV,UA,aa _ _ _ OM OM OM OM⟩,I,I⟩<|W.cn<|J (fun _=>(rg []<|J UA (g 13 15 []<|J ⟨I,I,UA,I⟩ (W.sq (g 0 0 []<|J UA (W.blk (W.lp (fun s (x:Nat×List Task×Int)=>⟨[(0,s.s 0),(2,s.s 2),(3,s.s 3),(4,s.s 4),(5,.i x.1),(8,s.s 8)],[(2,[s.c 2 0]),(69,[.t (u8s l),.t (.i x.2.2)]),(4,[.own eF (x.2.1.map aD)])],[]⟩) (fun(x:Nat×List Task×Int)=>(x.1:Int)≤40∧x.2.1.length = x.1∧(∀ t∈x.2.1,t.name.size≤64∧t.deps.length≤64)∧pos+2≤x.2.2∧x.2.2≤pos+2+90 * x.1) (fun(x:Nat×List Task×Int)=>((40:Int) - x.1).toNat) ((0,[],pos+2)) [some 2,some 69,some 4] [] ⟨rfl,Zax,⟨Zad,⟨⟨rfl,⟨rfl,⟨(congrArg (fun z=>V.t (T.v (Value.int _ z))) (by show pos+1+1 = pos+2;omega)),I⟩⟩⟩,Zdv⟩⟩,I⟩ (by simp) ?_))))))) (noF tO)
  rintro⟨i,ts,q⟩ ⟨hi,hlen,hsm,hq1,hq2⟩
  dsimp only at hi hlen hsm hq1 hq2
  have p5:=av l q 5
  have p8:=av l (q+1) 8
  by_cases hi2:(i:Int) < 40
  ·have cd:=eN i OM OM
   have hds:=eT i
   by_cases h8:ac l (q+1) 8 = 0
   ·skip
    conv=>whnf
    refine W.sq<|g 15 17 []<|J UC<|W.cn<|J (fun _=>(W.skip (W.sq (W.blk (g 17 27 [.call (V.s (dX (i:Int))) [[]],.s ({data:=#[(116:UInt8)]:ByteArray} ++dX (i:Int)),.call (V.i (ac l q 5)) ([rdC l (q+1),[]]),.i (1+ac l q 5)]<|J ⟨I,Zaj,⟨rfl,(by simp only[bsz,bsa,ByteArray.size_append,List.size_toArray,qE];omega)⟩,I,⟨UB,I,UV,UA,aa _ _ _ (by first|omega|decide|assumption|(simp only[ByteArray.size_extract,List.length_map];omega)|simp[*]) (by first|omega|decide|assumption|(simp only[ByteArray.size_extract,List.length_map];omega)|simp[*]) (by first|omega|decide|assumption|(simp only[ByteArray.size_extract,List.length_map];omega)|simp[*]) (by first|omega|decide|assumption|(simp only[ByteArray.size_extract,List.length_map];omega)|simp[*])⟩,wO,I,I,UC,I⟩ (W.sq (g 27 29 [.call (V.i (ac l (q+1) 8)) ([rdC l (q+1+1),[]])]<|J ⟨I,⟨UB,I,UV,UA,aa _ _ _ OM OM OM OM⟩,I,I⟩ (W.cn<|J (fun _=>(rg []<|J UV (W.sq ?_))) (noF tO))))))))) (noF tO)
    refine g 29 31 []<|J UA<|W.blk<|W.lp (fun s (y:Nat×List Int×Int)=>⟨[(0,s.s 0),(2,s.s 2),(3,s.s 3),(4,s.s 4),(5,s.s 5),(6,s.s 6),(7,.i y.1),(8,s.s 8)],[(2,[s.c 2 0]),(4,[s.c 4 0]),(69,[.t (u8s l),.t (.i y.2.2)]),(6,[.t (.s ((⟨#[116]⟩:ByteArray) ++dX i)),.t (.i (20)),.own [false] (y.2.1.map im)])],[]⟩) (fun(y:Nat×List Int×Int)=>y.1≤i∧y.2.1.length≤y.1∧y.2.1.length≤8∧q+2≤y.2.2∧y.2.2≤q+2+2 * y.1) (fun(y:Nat×List Int×Int)=>i - y.1) ((0,[],q+2)) [some 2,some 4,some 69,some 6] [] ⟨rfl,Zas,⟨Zad,⟨Zad,⟨⟨rfl,⟨rfl,⟨(congrArg (fun z=>V.t (T.v (Value.int _ z))) (by show q+1+1 = q+2;omega)),I⟩⟩⟩,Zeb⟩⟩⟩,I⟩ (by simp) ?_
    rintro⟨k,ds,u⟩ ⟨g1,g2,g3,g4,g5⟩
    dsimp only at g1 g2 g3 g4 g5
    have p3:=av l u 3
    have p2:=av l (u+1) 2
    by_cases hk:k < i
    ·by_cases hd:ds.length < 8
     ·by_cases h3:ac l u 3 = 0
      ·conv=>whnf
       refine W.sq<|g 35 39 [BT,BT,BT,BT,BT]<|J Zap<|W.cn<|J (fun h2=>?_) fun h2=>?_
       replace h2:=dt h2
       simp only[LM]at h2
       refine W.skip<|W.sq<|W.blk<|g 39 55 [.call (V.i (ac l u 3)) ([rdC l (u+1),[]]),BT,BT,BT,BT,BT,BF,BF,BF,BT,BT]<|J ⟨I,⟨UB,I,UV,UA,aa _ _ _ (by first|omega|decide|assumption|(simp only[ByteArray.size_extract,List.length_map];omega)|simp[*]) (by first|omega|decide|assumption|(simp only[ByteArray.size_extract,List.length_map];omega)|simp[*]) (by first|omega|decide|assumption|(simp only[ByteArray.size_extract,List.length_map];omega)|simp[*]) (by first|omega|decide|assumption|(simp only[ByteArray.size_extract,List.length_map];omega)|simp[*])⟩,I,I,tO,tO,tO,tO,tO,I,I,I,tO,tO,I⟩<|W.cn<|J (fun _=>(rg []<|J Zcr (rg [.i ((↑(Prod.fst (k,ds,u)):Int) +1)]<|J Zdg ?_))) (noF rfl)
       rotate_left
       replace h2:=df h2
       simp only[LM]at h2
       omega
       refine⟨(k+1,ds++ [(k:Int)],u+1),[some 2,some 4,some 69,some 6],[],⟨rfl,Zas,⟨Zad,⟨Zad,⟨Zds,⟨⟨rfl,⟨rfl,⟨rfl,⟨(congrArg (V.own _) (by rw[List.map_append];rfl)),I⟩⟩⟩⟩,I⟩⟩⟩⟩,I⟩,?_,?_⟩
       rotate_left
       (dsimp only;omega)
       dsimp only
       exact⟨by omega,by rw[List.length_append];simp;omega,by rw[List.length_append];simp;omega,by first|omega|(dsimp only;omega),by first|omega|(dsimp only;omega)⟩
      ·by_cases hki:(k:Int) = (i:Int) - 1
       ·by_cases h2:ac l (u+1) 2 = 0
        ·conv=>whnf
         refine W.sq<|g 35 39 [BT,BT,BT,BT,BT]<|J Zap<|W.cn<|J (fun h4=>?_) fun h4=>?_
         replace h4:=dt h4
         simp only[LM]at h4
         refine W.skip<|W.sq<|W.blk<|g 39 55 [.call (V.i (ac l u 3)) ([rdC l (u+1),[]]),BF,BF,BF,.i ((↑(Prod.fst (i,ts,q)):Int) - 1),BF,BF,BT,BT,.call (V.i (ac l (u+1) 2)) ([rdC l (u+1+1),[]]),BT,BF,BT,BF]<|J ⟨I,⟨UB,I,UV,UA,aa _ _ _ (by first|omega|decide|assumption|(simp only[ByteArray.size_extract,List.length_map];omega)|simp[*]) (by first|omega|decide|assumption|(simp only[ByteArray.size_extract,List.length_map];omega)|simp[*]) (by first|omega|decide|assumption|(simp only[ByteArray.size_extract,List.length_map];omega)|simp[*]) (by first|omega|decide|assumption|(simp only[ByteArray.size_extract,List.length_map];omega)|simp[*])⟩,I,I,⟨dO,I⟩,⟨dO,I⟩,⟨dO,wO⟩,⟨dO,I⟩,⟨dO,I⟩,⟨tO,I⟩,⟨tO,UB,I,UV,UA,aa _ _ _ OM OM OM OM⟩,⟨tO,I⟩,⟨dO,tO⟩,dO,I⟩<|W.cn<|J (fun _=>(rg []<|J Zcr (rg [.i ((↑(Prod.fst (k,ds,u)):Int) +1)]<|J Zdg ?_))) (noF tO)
         rotate_left
         replace h4:=df h4
         simp only[LM]at h4
         omega
         refine⟨(k+1,ds++ [(k:Int)],u+2),[some 2,some 4,some 69,some 6],[],⟨rfl,Zas,⟨Zad,⟨Zad,⟨⟨rfl,⟨rfl,⟨(congrArg (fun z=>V.t (T.v (Value.int _ z))) (by show u+1+1 = u+2;omega)),I⟩⟩⟩,⟨⟨rfl,⟨rfl,⟨rfl,⟨(congrArg (V.own _) (by rw[List.map_append];rfl)),I⟩⟩⟩⟩,I⟩⟩⟩⟩,I⟩,?_,?_⟩
         rotate_left
         (dsimp only;omega)
         dsimp only
         exact⟨by omega,by rw[List.length_append];simp;omega,by rw[List.length_append];simp;omega,by first|omega|(dsimp only;omega),by first|omega|(dsimp only;omega)⟩
        ·conv=>whnf
         refine W.sq<|g 35 39 [BT,BT,BT,BT,BT]<|J Zap<|W.cn<|J (fun h4=>?_) fun h4=>?_
         replace h4:=dt h4
         simp only[LM]at h4
         refine W.skip<|W.sq<|W.blk<|g 39 55 [.call (V.i (ac l u 3)) ([rdC l (u+1),[]]),BF,BF,BF,.i ((↑(Prod.fst (i,ts,q)):Int) - 1),BF,BF,BT,BT,.call (V.i (ac l (u+1) 2)) ([rdC l (u+1+1),[]]),BT,BF,BT,BF]<|J ⟨I,⟨UB,I,UV,UA,aa _ _ _ (by first|omega|decide|assumption|(simp only[ByteArray.size_extract,List.length_map];omega)|simp[*]) (by first|omega|decide|assumption|(simp only[ByteArray.size_extract,List.length_map];omega)|simp[*]) (by first|omega|decide|assumption|(simp only[ByteArray.size_extract,List.length_map];omega)|simp[*]) (by first|omega|decide|assumption|(simp only[ByteArray.size_extract,List.length_map];omega)|simp[*])⟩,I,I,⟨dO,I⟩,⟨dO,I⟩,⟨dO,wO⟩,⟨dO,I⟩,⟨dO,I⟩,⟨tO,I⟩,⟨tO,UB,I,UV,UA,aa _ _ _ OM OM OM OM⟩,⟨tO,I⟩,⟨dO,tO⟩,dO,I⟩<|W.cn<|J (noT dO) fun _=>W.skip<|rg [.i ((↑(Prod.fst (k,ds,u)):Int) +1)]<|J Zdg ?_
         rotate_left
         replace h4:=df h4
         simp only[LM]at h4
         omega
         refine⟨(k+1,ds,u+2),[some 2,some 4,some 69,some 6],[],⟨rfl,Zas,⟨Zad,⟨Zad,⟨⟨rfl,⟨rfl,⟨(congrArg (fun z=>V.t (T.v (Value.int _ z))) (by show u+1+1 = u+2;omega)),I⟩⟩⟩,Zeb⟩⟩⟩,I⟩,?_,?_⟩
         rotate_left
         (dsimp only;omega)
         dsimp only
         omega
       ·conv=>whnf
        refine W.sq<|g 35 39 [BT,BT,BT,BT,BT]<|J Zap<|W.cn<|J (fun h2=>?_) fun h2=>?_
        replace h2:=dt h2
        simp only[LM]at h2
        refine W.skip<|W.sq<|W.blk<|g 39 55 [.call (V.i (ac l u 3)) ([rdC l (u+1),[]]),BF,BF,BF,.i ((↑(Prod.fst (i,ts,q)):Int) - 1),BF,BF,BF,BF,BF,BF,BF,BF]<|J ⟨I,⟨UB,I,UV,UA,aa _ _ _ (by first|omega|decide|assumption|(simp only[ByteArray.size_extract,List.length_map];omega)|simp[*]) (by first|omega|decide|assumption|(simp only[ByteArray.size_extract,List.length_map];omega)|simp[*]) (by first|omega|decide|assumption|(simp only[ByteArray.size_extract,List.length_map];omega)|simp[*]) (by first|omega|decide|assumption|(simp only[ByteArray.size_extract,List.length_map];omega)|simp[*])⟩,I,I,⟨dO,I⟩,⟨dO,I⟩,⟨dO,wO⟩,⟨dO,I⟩,⟨dO,I⟩,dO,dO,dO,⟨dO,dO⟩,dO,I⟩<|W.cn<|J (noT rfl) fun _=>W.skip<|rg [.i ((↑(Prod.fst (k,ds,u)):Int) +1)]<|J Zdg ?_
        rotate_left
        replace h2:=df h2
        simp only[LM]at h2
        omega
        refine⟨(k+1,ds,u+1),[some 2,some 4,some 69,some 6],[],Zes,?_,?_⟩
        rotate_left
        (dsimp only;omega)
        dsimp only
        omega
     ·conv=>whnf
      refine W.sq<|g 35 39 [BT,BT,BT,BT,BT]<|J Zap<|W.cn<|J (fun h2=>?_) fun h2=>?_
      replace h2:=dt h2
      simp only[LM]at h2
      omega
      replace h2:=df h2
      simp only[LM]at h2
      refine W.exit<|rg []<|J Zb8<|rg [.i ((↑(Prod.fst (i,ts,q)):Int) +1)]<|J Zdg ?_
      refine⟨(i+1,ts++ [(⟨((⟨#[116]⟩:ByteArray) ++dX i),20,ds⟩:Task)],u),[some 2,some 69,some 4],[],⟨rfl,Zax,⟨Zad,⟨Zds,⟨⟨rfl,⟨(congrArg (V.own _) (by rw[List.map_append];rfl)),I⟩⟩,I⟩⟩⟩,I⟩,?_,?_⟩
      rotate_left
      (dsimp only;omega)
      dsimp only
      refine⟨by first|omega|(dsimp only;omega),by rw[List.length_append];simp;omega,fun t ht=>?_,by first|omega|(dsimp only;omega),by first|omega|(dsimp only;omega)⟩
      rcases List.mem_append.1 ht with ht|ht
      ·exact hsm t ht
      ·rw[List.mem_singleton.1 ht]
       refine⟨?_,by first|omega|(dsimp only;omega)⟩
       show(((⟨#[116]⟩:ByteArray) ++dX i).size)≤64
       rw[ByteArray.size_append]
       have:(⟨#[116]⟩:ByteArray).size = 1:=rfl
       omega
    ·conv=>whnf
     refine W.sq<|g 35 39 [BF,BF,BF,BF,BF]<|J ⟨I,I,I,I,dO,dO,dO,dO,dO,I⟩<|W.cn<|J (noT rfl) fun _=>W.exit<|rg []<|J Zb8<|rg [.i ((↑(Prod.fst (i,ts,q)):Int) +1)]<|J Zdg ?_
     refine⟨(i+1,ts++ [(⟨((⟨#[116]⟩:ByteArray) ++dX i),20,ds⟩:Task)],u),[some 2,some 69,some 4],[],⟨rfl,Zax,⟨Zad,⟨Zds,⟨⟨rfl,⟨(congrArg (V.own _) (by rw[List.map_append];rfl)),I⟩⟩,I⟩⟩⟩,I⟩,?_,?_⟩
     rotate_left
     (dsimp only;omega)
     dsimp only
     refine⟨by first|omega|(dsimp only;omega),by rw[List.length_append];simp;omega,fun t ht=>?_,by first|omega|(dsimp only;omega),by first|omega|(dsimp only;omega)⟩
     rcases List.mem_append.1 ht with ht|ht
     ·exact hsm t ht
     ·rw[List.mem_singleton.1 ht]
      refine⟨?_,by first|omega|(dsimp only;omega)⟩
      show(((⟨#[116]⟩:ByteArray) ++dX i).size)≤64
      rw[ByteArray.size_append]
      have:(⟨#[116]⟩:ByteArray).size = 1:=rfl
      omega
   ·skip
    conv=>whnf
    refine W.sq<|g 15 17 []<|J UC<|W.cn<|J (fun _=>(W.skip (W.sq (W.blk (g 17 27 [.call (V.s (dX (i:Int))) [[]],.s ({data:=#[(116:UInt8)]:ByteArray} ++dX (i:Int)),.call (V.i (ac l q 5)) ([rdC l (q+1),[]]),.i (1+ac l q 5)]<|J ⟨I,Zaj,⟨rfl,(by simp only[bsz,bsa,ByteArray.size_append,List.size_toArray,qE];omega)⟩,I,⟨UB,I,UV,UA,aa _ _ _ (by first|omega|decide|assumption|(simp only[ByteArray.size_extract,List.length_map];omega)|simp[*]) (by first|omega|decide|assumption|(simp only[ByteArray.size_extract,List.length_map];omega)|simp[*]) (by first|omega|decide|assumption|(simp only[ByteArray.size_extract,List.length_map];omega)|simp[*]) (by first|omega|decide|assumption|(simp only[ByteArray.size_extract,List.length_map];omega)|simp[*])⟩,wO,I,I,UC,I⟩ (W.sq (g 27 29 [.call (V.i (ac l (q+1) 8)) ([rdC l (q+1+1),[]])]<|J ⟨I,⟨UB,I,UV,UA,aa _ _ _ OM OM OM OM⟩,I,I⟩ (W.cn<|J (noT dO) fun _=>(W.skip (W.sq ?_)))))))))) (noF tO)
    refine g 29 30 []<|J UA<|W.blk<|W.lp (fun s (y:Nat×List Int×Int)=>⟨[(0,s.s 0),(2,s.s 2),(3,s.s 3),(4,s.s 4),(5,s.s 5),(6,s.s 6),(7,.i y.1),(8,s.s 8)],[(2,[s.c 2 0]),(4,[s.c 4 0]),(69,[.t (u8s l),.t (.i y.2.2)]),(6,[.t (.s ((⟨#[116]⟩:ByteArray) ++dX i)),.t (.i (1+ac l q 5)),.own [false] (y.2.1.map im)])],[]⟩) (fun(y:Nat×List Int×Int)=>y.1≤i∧y.2.1.length≤y.1∧y.2.1.length≤8∧q+2≤y.2.2∧y.2.2≤q+2+2 * y.1) (fun(y:Nat×List Int×Int)=>i - y.1) ((0,[],q+2)) [some 2,some 4,some 69,some 6] [] ⟨rfl,Zas,⟨Zad,⟨Zad,⟨⟨rfl,⟨rfl,⟨(congrArg (fun z=>V.t (T.v (Value.int _ z))) (by show q+1+1 = q+2;omega)),I⟩⟩⟩,Zeb⟩⟩⟩,I⟩ (by simp) ?_
    rintro⟨k,ds,u⟩ ⟨g1,g2,g3,g4,g5⟩
    dsimp only at g1 g2 g3 g4 g5
    have p3:=av l u 3
    have p2:=av l (u+1) 2
    by_cases hk:k < i
    ·by_cases hd:ds.length < 8
     ·by_cases h3:ac l u 3 = 0
      ·conv=>whnf
       refine W.sq<|g 35 39 [BT,BT,BT,BT,BT]<|J Zap<|W.cn<|J (fun h2=>?_) fun h2=>?_
       replace h2:=dt h2
       simp only[LM]at h2
       refine W.skip<|W.sq<|W.blk<|g 39 55 [.call (V.i (ac l u 3)) ([rdC l (u+1),[]]),BT,BT,BT,BT,BT,BF,BF,BF,BT,BT]<|J ⟨I,⟨UB,I,UV,UA,aa _ _ _ (by first|omega|decide|assumption|(simp only[ByteArray.size_extract,List.length_map];omega)|simp[*]) (by first|omega|decide|assumption|(simp only[ByteArray.size_extract,List.length_map];omega)|simp[*]) (by first|omega|decide|assumption|(simp only[ByteArray.size_extract,List.length_map];omega)|simp[*]) (by first|omega|decide|assumption|(simp only[ByteArray.size_extract,List.length_map];omega)|simp[*])⟩,I,I,tO,tO,tO,tO,tO,I,I,I,tO,tO,I⟩<|W.cn<|J (fun _=>(rg []<|J Zcr (rg [.i ((↑(Prod.fst (k,ds,u)):Int) +1)]<|J Zdg ?_))) (noF rfl)
       rotate_left
       replace h2:=df h2
       simp only[LM]at h2
       omega
       refine⟨(k+1,ds++ [(k:Int)],u+1),[some 2,some 4,some 69,some 6],[],⟨rfl,Zas,⟨Zad,⟨Zad,⟨Zds,⟨⟨rfl,⟨rfl,⟨rfl,⟨(congrArg (V.own _) (by rw[List.map_append];rfl)),I⟩⟩⟩⟩,I⟩⟩⟩⟩,I⟩,?_,?_⟩
       rotate_left
       (dsimp only;omega)
       dsimp only
       exact⟨by omega,by rw[List.length_append];simp;omega,by rw[List.length_append];simp;omega,by first|omega|(dsimp only;omega),by first|omega|(dsimp only;omega)⟩
      ·by_cases hki:(k:Int) = (i:Int) - 1
       ·by_cases h2:ac l (u+1) 2 = 0
        ·conv=>whnf
         refine W.sq<|g 35 39 [BT,BT,BT,BT,BT]<|J Zap<|W.cn<|J (fun h4=>?_) fun h4=>?_
         replace h4:=dt h4
         simp only[LM]at h4
         refine W.skip<|W.sq<|W.blk<|g 39 55 [.call (V.i (ac l u 3)) ([rdC l (u+1),[]]),BF,BF,BF,.i ((↑(Prod.fst (i,ts,q)):Int) - 1),BF,BF,BT,BT,.call (V.i (ac l (u+1) 2)) ([rdC l (u+1+1),[]]),BT,BF,BT,BF]<|J ⟨I,⟨UB,I,UV,UA,aa _ _ _ (by first|omega|decide|assumption|(simp only[ByteArray.size_extract,List.length_map];omega)|simp[*]) (by first|omega|decide|assumption|(simp only[ByteArray.size_extract,List.length_map];omega)|simp[*]) (by first|omega|decide|assumption|(simp only[ByteArray.size_extract,List.length_map];omega)|simp[*]) (by first|omega|decide|assumption|(simp only[ByteArray.size_extract,List.length_map];omega)|simp[*])⟩,I,I,⟨dO,I⟩,⟨dO,I⟩,⟨dO,wO⟩,⟨dO,I⟩,⟨dO,I⟩,⟨tO,I⟩,⟨tO,UB,I,UV,UA,aa _ _ _ OM OM OM OM⟩,⟨tO,I⟩,⟨dO,tO⟩,dO,I⟩<|W.cn<|J (fun _=>(rg []<|J Zcr (rg [.i ((↑(Prod.fst (k,ds,u)):Int) +1)]<|J Zdg ?_))) (noF tO)
         rotate_left
         replace h4:=df h4
         simp only[LM]at h4
         omega
         refine⟨(k+1,ds++ [(k:Int)],u+2),[some 2,some 4,some 69,some 6],[],⟨rfl,Zas,⟨Zad,⟨Zad,⟨⟨rfl,⟨rfl,⟨(congrArg (fun z=>V.t (T.v (Value.int _ z))) (by show u+1+1 = u+2;omega)),I⟩⟩⟩,⟨⟨rfl,⟨rfl,⟨rfl,⟨(congrArg (V.own _) (by rw[List.map_append];rfl)),I⟩⟩⟩⟩,I⟩⟩⟩⟩,I⟩,?_,?_⟩
         rotate_left
         (dsimp only;omega)
         dsimp only
         exact⟨by omega,by rw[List.length_append];simp;omega,by rw[List.length_append];simp;omega,by first|omega|(dsimp only;omega),by first|omega|(dsimp only;omega)⟩
        ·conv=>whnf
         refine W.sq<|g 35 39 [BT,BT,BT,BT,BT]<|J Zap<|W.cn<|J (fun h4=>?_) fun h4=>?_
         replace h4:=dt h4
         simp only[LM]at h4
         refine W.skip<|W.sq<|W.blk<|g 39 55 [.call (V.i (ac l u 3)) ([rdC l (u+1),[]]),BF,BF,BF,.i ((↑(Prod.fst (i,ts,q)):Int) - 1),BF,BF,BT,BT,.call (V.i (ac l (u+1) 2)) ([rdC l (u+1+1),[]]),BT,BF,BT,BF]<|J ⟨I,⟨UB,I,UV,UA,aa _ _ _ (by first|omega|decide|assumption|(simp only[ByteArray.size_extract,List.length_map];omega)|simp[*]) (by first|omega|decide|assumption|(simp only[ByteArray.size_extract,List.length_map];omega)|simp[*]) (by first|omega|decide|assumption|(simp only[ByteArray.size_extract,List.length_map];omega)|simp[*]) (by first|omega|decide|assumption|(simp only[ByteArray.size_extract,List.length_map];omega)|simp[*])⟩,I,I,⟨dO,I⟩,⟨dO,I⟩,⟨dO,wO⟩,⟨dO,I⟩,⟨dO,I⟩,⟨tO,I⟩,⟨tO,UB,I,UV,UA,aa _ _ _ OM OM OM OM⟩,⟨tO,I⟩,⟨dO,tO⟩,dO,I⟩<|W.cn<|J (noT dO) fun _=>W.skip<|rg [.i ((↑(Prod.fst (k,ds,u)):Int) +1)]<|J Zdg ?_
         rotate_left
         replace h4:=df h4
         simp only[LM]at h4
         omega
         refine⟨(k+1,ds,u+2),[some 2,some 4,some 69,some 6],[],⟨rfl,Zas,⟨Zad,⟨Zad,⟨⟨rfl,⟨rfl,⟨(congrArg (fun z=>V.t (T.v (Value.int _ z))) (by show u+1+1 = u+2;omega)),I⟩⟩⟩,Zeb⟩⟩⟩,I⟩,?_,?_⟩
         rotate_left
         (dsimp only;omega)
         dsimp only
         omega
       ·conv=>whnf
        refine W.sq<|g 35 39 [BT,BT,BT,BT,BT]<|J Zap<|W.cn<|J (fun h2=>?_) fun h2=>?_
        replace h2:=dt h2
        simp only[LM]at h2
        refine W.skip<|W.sq<|W.blk<|g 39 55 [.call (V.i (ac l u 3)) ([rdC l (u+1),[]]),BF,BF,BF,.i ((↑(Prod.fst (i,ts,q)):Int) - 1),BF,BF,BF,BF,BF,BF,BF,BF]<|J ⟨I,⟨UB,I,UV,UA,aa _ _ _ (by first|omega|decide|assumption|(simp only[ByteArray.size_extract,List.length_map];omega)|simp[*]) (by first|omega|decide|assumption|(simp only[ByteArray.size_extract,List.length_map];omega)|simp[*]) (by first|omega|decide|assumption|(simp only[ByteArray.size_extract,List.length_map];omega)|simp[*]) (by first|omega|decide|assumption|(simp only[ByteArray.size_extract,List.length_map];omega)|simp[*])⟩,I,I,⟨dO,I⟩,⟨dO,I⟩,⟨dO,wO⟩,⟨dO,I⟩,⟨dO,I⟩,dO,dO,dO,⟨dO,dO⟩,dO,I⟩<|W.cn<|J (noT rfl) fun _=>W.skip<|rg [.i ((↑(Prod.fst (k,ds,u)):Int) +1)]<|J Zdg ?_
        rotate_left
        replace h2:=df h2
        simp only[LM]at h2
        omega
        refine⟨(k+1,ds,u+1),[some 2,some 4,some 69,some 6],[],Zes,?_,?_⟩
        rotate_left
        (dsimp only;omega)
        dsimp only
        omega
     ·conv=>whnf
      refine W.sq<|g 35 39 [BT,BT,BT,BT,BT]<|J Zap<|W.cn<|J (fun h2=>?_) fun h2=>?_
      replace h2:=dt h2
      simp only[LM]at h2
      omega
      replace h2:=df h2
      simp only[LM]at h2
      refine W.exit<|rg []<|J Zb8<|rg [.i ((↑(Prod.fst (i,ts,q)):Int) +1)]<|J Zdg ?_
      refine⟨(i+1,ts++ [(⟨((⟨#[116]⟩:ByteArray) ++dX i),1+ac l q 5,ds⟩:Task)],u),[some 2,some 69,some 4],[],⟨rfl,Zax,⟨Zad,⟨Zds,⟨⟨rfl,⟨(congrArg (V.own _) (by rw[List.map_append];rfl)),I⟩⟩,I⟩⟩⟩,I⟩,?_,?_⟩
      rotate_left
      (dsimp only;omega)
      dsimp only
      refine⟨by first|omega|(dsimp only;omega),by rw[List.length_append];simp;omega,fun t ht=>?_,by first|omega|(dsimp only;omega),by first|omega|(dsimp only;omega)⟩
      rcases List.mem_append.1 ht with ht|ht
      ·exact hsm t ht
      ·rw[List.mem_singleton.1 ht]
       refine⟨?_,by first|omega|(dsimp only;omega)⟩
       show(((⟨#[116]⟩:ByteArray) ++dX i).size)≤64
       rw[ByteArray.size_append]
       have:(⟨#[116]⟩:ByteArray).size = 1:=rfl
       omega
    ·conv=>whnf
     refine W.sq<|g 35 39 [BF,BF,BF,BF,BF]<|J ⟨I,I,I,I,dO,dO,dO,dO,dO,I⟩<|W.cn<|J (noT rfl) fun _=>W.exit<|rg []<|J Zb8<|rg [.i ((↑(Prod.fst (i,ts,q)):Int) +1)]<|J Zdg ?_
     refine⟨(i+1,ts++ [(⟨((⟨#[116]⟩:ByteArray) ++dX i),1+ac l q 5,ds⟩:Task)],u),[some 2,some 69,some 4],[],⟨rfl,Zax,⟨Zad,⟨Zds,⟨⟨rfl,⟨(congrArg (V.own _) (by rw[List.map_append];rfl)),I⟩⟩,I⟩⟩⟩,I⟩,?_,?_⟩
     rotate_left
     (dsimp only;omega)
     dsimp only
     refine⟨by first|omega|(dsimp only;omega),by rw[List.length_append];simp;omega,fun t ht=>?_,by first|omega|(dsimp only;omega),by first|omega|(dsimp only;omega)⟩
     rcases List.mem_append.1 ht with ht|ht
     ·exact hsm t ht
     ·rw[List.mem_singleton.1 ht]
      refine⟨?_,by first|omega|(dsimp only;omega)⟩
      show(((⟨#[116]⟩:ByteArray) ++dX i).size)≤64
      rw[ByteArray.size_append]
      have:(⟨#[116]⟩:ByteArray).size = 1:=rfl
      omega
  ·conv=>whnf
   refine W.sq<|g 15 17 []<|J UC<|W.cn<|J (noT dO) fun _=>W.exit<|g 3 69 []<|J UV<|W.ret<|EndsW.rt<|J UB ?_
   exact⟨⟨ts⟩,q,rfl,rfl,⟨by first|omega|(dsimp only;omega),hsm⟩,by first|omega|(dsimp only;omega),by omega,by omega⟩
 ·refine nZ ?_
  conv=>whnf
  refine g 0 0 []<|J UA<|g 9 11 [.call (V.i (ac l pos 6)) ([rdC l (pos+1),[]]),.i (1+ac l pos 6)]<|J ⟨I,⟨UB,I,UV,UA,aa _ _ _ OM OM OM OM⟩,wO,I,I⟩<|W.sq<|g 11 13 [.call (V.i (ac l (pos+1) 12)) ([rdC l (pos+1+1),[]])]<|J ⟨I,⟨UB,I,UV,UA,aa _ _ _ OM OM OM OM⟩,I,I⟩<|W.cn<|J (noT dO) fun _=>W.skip<|g 13 15 []<|J ⟨I,I,UA,I⟩<|W.sq<|g 0 0 []<|J UA<|W.blk<|W.lp (fun s (x:Nat×List Task×Int)=>⟨[(0,s.s 0),(2,s.s 2),(3,s.s 3),(4,s.s 4),(5,.i x.1),(8,s.s 8)],[(2,[s.c 2 0]),(69,[.t (u8s l),.t (.i x.2.2)]),(4,[.own eF (x.2.1.map aD)])],[]⟩) (fun(x:Nat×List Task×Int)=>(x.1:Int)≤(1+ac l pos 6)∧x.2.1.length = x.1∧(∀ t∈x.2.1,t.name.size≤64∧t.deps.length≤64)∧pos+2≤x.2.2∧x.2.2≤pos+2+90 * x.1) (fun(x:Nat×List Task×Int)=>(((1+ac l pos 6):Int) - x.1).toNat) ((0,[],pos+2)) [some 2,some 69,some 4] [] ⟨rfl,Zax,⟨Zad,⟨⟨rfl,⟨rfl,⟨(congrArg (fun z=>V.t (T.v (Value.int _ z))) (by show pos+1+1 = pos+2;omega)),I⟩⟩⟩,Zdv⟩⟩,I⟩ ⟨by omega,by simp⟩ ?_
  rintro⟨i,ts,q⟩ ⟨hi,hlen,hsm,hq1,hq2⟩
  dsimp only at hi hlen hsm hq1 hq2
  have p5:=av l q 5
  have p8:=av l (q+1) 8
  by_cases hi2:(i:Int) < (1+ac l pos 6)
  ·have cd:=eN i OM OM
   have hds:=eT i
   by_cases h8:ac l (q+1) 8 = 0
   ·skip
    conv=>whnf
    refine W.sq<|g 15 17 []<|J UC<|W.cn<|J (fun _=>(W.skip (W.sq (W.blk (g 17 27 [.call (V.s (dX (i:Int))) [[]],.s ({data:=#[(116:UInt8)]:ByteArray} ++dX (i:Int)),.call (V.i (ac l q 5)) ([rdC l (q+1),[]]),.i (1+ac l q 5)]<|J ⟨I,Zaj,⟨rfl,(by simp only[bsz,bsa,ByteArray.size_append,List.size_toArray,qE];omega)⟩,I,⟨UB,I,UV,UA,aa _ _ _ (by first|omega|decide|assumption|(simp only[ByteArray.size_extract,List.length_map];omega)|simp[*]) (by first|omega|decide|assumption|(simp only[ByteArray.size_extract,List.length_map];omega)|simp[*]) (by first|omega|decide|assumption|(simp only[ByteArray.size_extract,List.length_map];omega)|simp[*]) (by first|omega|decide|assumption|(simp only[ByteArray.size_extract,List.length_map];omega)|simp[*])⟩,wO,I,I,UC,I⟩ (W.sq (g 27 29 [.call (V.i (ac l (q+1) 8)) ([rdC l (q+1+1),[]])]<|J ⟨I,⟨UB,I,UV,UA,aa _ _ _ OM OM OM OM⟩,I,I⟩ (W.cn<|J (fun _=>(rg []<|J UV (W.sq ?_))) (noF tO))))))))) (noF tO)
    refine g 29 31 []<|J UA<|W.blk<|W.lp (fun s (y:Nat×List Int×Int)=>⟨[(0,s.s 0),(2,s.s 2),(3,s.s 3),(4,s.s 4),(5,s.s 5),(6,s.s 6),(7,.i y.1),(8,s.s 8)],[(2,[s.c 2 0]),(4,[s.c 4 0]),(69,[.t (u8s l),.t (.i y.2.2)]),(6,[.t (.s ((⟨#[116]⟩:ByteArray) ++dX i)),.t (.i (20)),.own [false] (y.2.1.map im)])],[]⟩) (fun(y:Nat×List Int×Int)=>y.1≤i∧y.2.1.length≤y.1∧y.2.1.length≤8∧q+2≤y.2.2∧y.2.2≤q+2+2 * y.1) (fun(y:Nat×List Int×Int)=>i - y.1) ((0,[],q+2)) [some 2,some 4,some 69,some 6] [] ⟨rfl,Zas,⟨Zad,⟨Zad,⟨⟨rfl,⟨rfl,⟨(congrArg (fun z=>V.t (T.v (Value.int _ z))) (by show q+1+1 = q+2;omega)),I⟩⟩⟩,Zeb⟩⟩⟩,I⟩ (by simp) ?_
    rintro⟨k,ds,u⟩ ⟨g1,g2,g3,g4,g5⟩
    dsimp only at g1 g2 g3 g4 g5
    have p3:=av l u 3
    have p2:=av l (u+1) 2
    by_cases hk:k < i
    ·by_cases hd:ds.length < 8
     ·by_cases h3:ac l u 3 = 0
      ·conv=>whnf
       refine W.sq<|g 35 39 [BT,BT,BT,BT,BT]<|J Zap<|W.cn<|J (fun h2=>?_) fun h2=>?_
       replace h2:=dt h2
       simp only[LM]at h2
       refine W.skip<|W.sq<|W.blk<|g 39 55 [.call (V.i (ac l u 3)) ([rdC l (u+1),[]]),BT,BT,BT,BT,BT,BF,BF,BF,BT,BT]<|J ⟨I,⟨UB,I,UV,UA,aa _ _ _ (by first|omega|decide|assumption|(simp only[ByteArray.size_extract,List.length_map];omega)|simp[*]) (by first|omega|decide|assumption|(simp only[ByteArray.size_extract,List.length_map];omega)|simp[*]) (by first|omega|decide|assumption|(simp only[ByteArray.size_extract,List.length_map];omega)|simp[*]) (by first|omega|decide|assumption|(simp only[ByteArray.size_extract,List.length_map];omega)|simp[*])⟩,I,I,tO,tO,tO,tO,tO,I,I,I,tO,tO,I⟩<|W.cn<|J (fun _=>(rg []<|J Zcr (rg [.i ((↑(Prod.fst (k,ds,u)):Int) +1)]<|J Zdg ?_))) (noF rfl)
       rotate_left
       replace h2:=df h2
       simp only[LM]at h2
       omega
       refine⟨(k+1,ds++ [(k:Int)],u+1),[some 2,some 4,some 69,some 6],[],⟨rfl,Zas,⟨Zad,⟨Zad,⟨Zds,⟨⟨rfl,⟨rfl,⟨rfl,⟨(congrArg (V.own _) (by rw[List.map_append];rfl)),I⟩⟩⟩⟩,I⟩⟩⟩⟩,I⟩,?_,?_⟩
       rotate_left
       (dsimp only;omega)
       dsimp only
       exact⟨by omega,by rw[List.length_append];simp;omega,by rw[List.length_append];simp;omega,by first|omega|(dsimp only;omega),by first|omega|(dsimp only;omega)⟩
      ·by_cases hki:(k:Int) = (i:Int) - 1
       ·by_cases h2:ac l (u+1) 2 = 0
        ·conv=>whnf
         refine W.sq<|g 35 39 [BT,BT,BT,BT,BT]<|J Zap<|W.cn<|J (fun h4=>?_) fun h4=>?_
         replace h4:=dt h4
         simp only[LM]at h4
         refine W.skip<|W.sq<|W.blk<|g 39 55 [.call (V.i (ac l u 3)) ([rdC l (u+1),[]]),BF,BF,BF,.i ((↑(Prod.fst (i,ts,q)):Int) - 1),BF,BF,BT,BT,.call (V.i (ac l (u+1) 2)) ([rdC l (u+1+1),[]]),BT,BF,BT,BF]<|J ⟨I,⟨UB,I,UV,UA,aa _ _ _ (by first|omega|decide|assumption|(simp only[ByteArray.size_extract,List.length_map];omega)|simp[*]) (by first|omega|decide|assumption|(simp only[ByteArray.size_extract,List.length_map];omega)|simp[*]) (by first|omega|decide|assumption|(simp only[ByteArray.size_extract,List.length_map];omega)|simp[*]) (by first|omega|decide|assumption|(simp only[ByteArray.size_extract,List.length_map];omega)|simp[*])⟩,I,I,⟨dO,I⟩,⟨dO,I⟩,⟨dO,wO⟩,⟨dO,I⟩,⟨dO,I⟩,⟨tO,I⟩,⟨tO,UB,I,UV,UA,aa _ _ _ OM OM OM OM⟩,⟨tO,I⟩,⟨dO,tO⟩,dO,I⟩<|W.cn<|J (fun _=>(rg []<|J Zcr (rg [.i ((↑(Prod.fst (k,ds,u)):Int) +1)]<|J Zdg ?_))) (noF tO)
         rotate_left
         replace h4:=df h4
         simp only[LM]at h4
         omega
         refine⟨(k+1,ds++ [(k:Int)],u+2),[some 2,some 4,some 69,some 6],[],⟨rfl,Zas,⟨Zad,⟨Zad,⟨⟨rfl,⟨rfl,⟨(congrArg (fun z=>V.t (T.v (Value.int _ z))) (by show u+1+1 = u+2;omega)),I⟩⟩⟩,⟨⟨rfl,⟨rfl,⟨rfl,⟨(congrArg (V.own _) (by rw[List.map_append];rfl)),I⟩⟩⟩⟩,I⟩⟩⟩⟩,I⟩,?_,?_⟩
         rotate_left
         (dsimp only;omega)
         dsimp only
         exact⟨by omega,by rw[List.length_append];simp;omega,by rw[List.length_append];simp;omega,by first|omega|(dsimp only;omega),by first|omega|(dsimp only;omega)⟩
        ·conv=>whnf
         refine W.sq<|g 35 39 [BT,BT,BT,BT,BT]<|J Zap<|W.cn<|J (fun h4=>?_) fun h4=>?_
         replace h4:=dt h4
         simp only[LM]at h4
         refine W.skip<|W.sq<|W.blk<|g 39 55 [.call (V.i (ac l u 3)) ([rdC l (u+1),[]]),BF,BF,BF,.i ((↑(Prod.fst (i,ts,q)):Int) - 1),BF,BF,BT,BT,.call (V.i (ac l (u+1) 2)) ([rdC l (u+1+1),[]]),BT,BF,BT,BF]<|J ⟨I,⟨UB,I,UV,UA,aa _ _ _ (by first|omega|decide|assumption|(simp only[ByteArray.size_extract,List.length_map];omega)|simp[*]) (by first|omega|decide|assumption|(simp only[ByteArray.size_extract,List.length_map];omega)|simp[*]) (by first|omega|decide|assumption|(simp only[ByteArray.size_extract,List.length_map];omega)|simp[*]) (by first|omega|decide|assumption|(simp only[ByteArray.size_extract,List.length_map];omega)|simp[*])⟩,I,I,⟨dO,I⟩,⟨dO,I⟩,⟨dO,wO⟩,⟨dO,I⟩,⟨dO,I⟩,⟨tO,I⟩,⟨tO,UB,I,UV,UA,aa _ _ _ OM OM OM OM⟩,⟨tO,I⟩,⟨dO,tO⟩,dO,I⟩<|W.cn<|J (noT dO) fun _=>W.skip<|rg [.i ((↑(Prod.fst (k,ds,u)):Int) +1)]<|J Zdg ?_
         rotate_left
         replace h4:=df h4
         simp only[LM]at h4
         omega
         refine⟨(k+1,ds,u+2),[some 2,some 4,some 69,some 6],[],⟨rfl,Zas,⟨Zad,⟨Zad,⟨⟨rfl,⟨rfl,⟨(congrArg (fun z=>V.t (T.v (Value.int _ z))) (by show u+1+1 = u+2;omega)),I⟩⟩⟩,Zeb⟩⟩⟩,I⟩,?_,?_⟩
         rotate_left
         (dsimp only;omega)
         dsimp only
         omega
       ·conv=>whnf
        refine W.sq<|g 35 39 [BT,BT,BT,BT,BT]<|J Zap<|W.cn<|J (fun h2=>?_) fun h2=>?_
        replace h2:=dt h2
        simp only[LM]at h2
        refine W.skip<|W.sq<|W.blk<|g 39 55 [.call (V.i (ac l u 3)) ([rdC l (u+1),[]]),BF,BF,BF,.i ((↑(Prod.fst (i,ts,q)):Int) - 1),BF,BF,BF,BF,BF,BF,BF,BF]<|J ⟨I,⟨UB,I,UV,UA,aa _ _ _ (by first|omega|decide|assumption|(simp only[ByteArray.size_extract,List.length_map];omega)|simp[*]) (by first|omega|decide|assumption|(simp only[ByteArray.size_extract,List.length_map];omega)|simp[*]) (by first|omega|decide|assumption|(simp only[ByteArray.size_extract,List.length_map];omega)|simp[*]) (by first|omega|decide|assumption|(simp only[ByteArray.size_extract,List.length_map];omega)|simp[*])⟩,I,I,⟨dO,I⟩,⟨dO,I⟩,⟨dO,wO⟩,⟨dO,I⟩,⟨dO,I⟩,dO,dO,dO,⟨dO,dO⟩,dO,I⟩<|W.cn<|J (noT rfl) fun _=>W.skip<|rg [.i ((↑(Prod.fst (k,ds,u)):Int) +1)]<|J Zdg ?_
        rotate_left
        replace h2:=df h2
        simp only[LM]at h2
        omega
        refine⟨(k+1,ds,u+1),[some 2,some 4,some 69,some 6],[],Zes,?_,?_⟩
        rotate_left
        (dsimp only;omega)
        dsimp only
        omega
     ·exfalso;omega
    ·conv=>whnf
     refine W.sq<|g 35 39 [BF,BF,BF,BF,BF]<|J ⟨I,I,I,I,dO,dO,dO,dO,dO,I⟩<|W.cn<|J (noT rfl) fun _=>W.exit<|rg []<|J Zb8<|rg [.i ((↑(Prod.fst (i,ts,q)):Int) +1)]<|J Zdg ?_
     refine⟨(i+1,ts++ [(⟨((⟨#[116]⟩:ByteArray) ++dX i),20,ds⟩:Task)],u),[some 2,some 69,some 4],[],⟨rfl,Zax,⟨Zad,⟨Zds,⟨⟨rfl,⟨(congrArg (V.own _) (by rw[List.map_append];rfl)),I⟩⟩,I⟩⟩⟩,I⟩,?_,?_⟩
     rotate_left
     (dsimp only;omega)
     dsimp only
     refine⟨by first|omega|(dsimp only;omega),by rw[List.length_append];simp;omega,fun t ht=>?_,by first|omega|(dsimp only;omega),by first|omega|(dsimp only;omega)⟩
     rcases List.mem_append.1 ht with ht|ht
     ·exact hsm t ht
     ·rw[List.mem_singleton.1 ht]
      refine⟨?_,by first|omega|(dsimp only;omega)⟩
      show(((⟨#[116]⟩:ByteArray) ++dX i).size)≤64
      rw[ByteArray.size_append]
      have:(⟨#[116]⟩:ByteArray).size = 1:=rfl
      omega
   ·skip
    conv=>whnf
    refine W.sq<|g 15 17 []<|J UC<|W.cn<|J (fun _=>(W.skip (W.sq (W.blk (g 17 27 [.call (V.s (dX (i:Int))) [[]],.s ({data:=#[(116:UInt8)]:ByteArray} ++dX (i:Int)),.call (V.i (ac l q 5)) ([rdC l (q+1),[]]),.i (1+ac l q 5)]<|J ⟨I,Zaj,⟨rfl,(by simp only[bsz,bsa,ByteArray.size_append,List.size_toArray,qE];omega)⟩,I,⟨UB,I,UV,UA,aa _ _ _ (by first|omega|decide|assumption|(simp only[ByteArray.size_extract,List.length_map];omega)|simp[*]) (by first|omega|decide|assumption|(simp only[ByteArray.size_extract,List.length_map];omega)|simp[*]) (by first|omega|decide|assumption|(simp only[ByteArray.size_extract,List.length_map];omega)|simp[*]) (by first|omega|decide|assumption|(simp only[ByteArray.size_extract,List.length_map];omega)|simp[*])⟩,wO,I,I,UC,I⟩ (W.sq (g 27 29 [.call (V.i (ac l (q+1) 8)) ([rdC l (q+1+1),[]])]<|J ⟨I,⟨UB,I,UV,UA,aa _ _ _ OM OM OM OM⟩,I,I⟩ (W.cn<|J (noT dO) fun _=>(W.skip (W.sq ?_)))))))))) (noF tO)
    refine g 29 30 []<|J UA<|W.blk<|W.lp (fun s (y:Nat×List Int×Int)=>⟨[(0,s.s 0),(2,s.s 2),(3,s.s 3),(4,s.s 4),(5,s.s 5),(6,s.s 6),(7,.i y.1),(8,s.s 8)],[(2,[s.c 2 0]),(4,[s.c 4 0]),(69,[.t (u8s l),.t (.i y.2.2)]),(6,[.t (.s ((⟨#[116]⟩:ByteArray) ++dX i)),.t (.i (1+ac l q 5)),.own [false] (y.2.1.map im)])],[]⟩) (fun(y:Nat×List Int×Int)=>y.1≤i∧y.2.1.length≤y.1∧y.2.1.length≤8∧q+2≤y.2.2∧y.2.2≤q+2+2 * y.1) (fun(y:Nat×List Int×Int)=>i - y.1) ((0,[],q+2)) [some 2,some 4,some 69,some 6] [] ⟨rfl,Zas,⟨Zad,⟨Zad,⟨⟨rfl,⟨rfl,⟨(congrArg (fun z=>V.t (T.v (Value.int _ z))) (by show q+1+1 = q+2;omega)),I⟩⟩⟩,Zeb⟩⟩⟩,I⟩ (by simp) ?_
    rintro⟨k,ds,u⟩ ⟨g1,g2,g3,g4,g5⟩
    dsimp only at g1 g2 g3 g4 g5
    have p3:=av l u 3
    have p2:=av l (u+1) 2
    by_cases hk:k < i
    ·by_cases hd:ds.length < 8
     ·by_cases h3:ac l u 3 = 0
      ·conv=>whnf
       refine W.sq<|g 35 39 [BT,BT,BT,BT,BT]<|J Zap<|W.cn<|J (fun h2=>?_) fun h2=>?_
       replace h2:=dt h2
       simp only[LM]at h2
       refine W.skip<|W.sq<|W.blk<|g 39 55 [.call (V.i (ac l u 3)) ([rdC l (u+1),[]]),BT,BT,BT,BT,BT,BF,BF,BF,BT,BT]<|J ⟨I,⟨UB,I,UV,UA,aa _ _ _ (by first|omega|decide|assumption|(simp only[ByteArray.size_extract,List.length_map];omega)|simp[*]) (by first|omega|decide|assumption|(simp only[ByteArray.size_extract,List.length_map];omega)|simp[*]) (by first|omega|decide|assumption|(simp only[ByteArray.size_extract,List.length_map];omega)|simp[*]) (by first|omega|decide|assumption|(simp only[ByteArray.size_extract,List.length_map];omega)|simp[*])⟩,I,I,tO,tO,tO,tO,tO,I,I,I,tO,tO,I⟩<|W.cn<|J (fun _=>(rg []<|J Zcr (rg [.i ((↑(Prod.fst (k,ds,u)):Int) +1)]<|J Zdg ?_))) (noF rfl)
       rotate_left
       replace h2:=df h2
       simp only[LM]at h2
       omega
       refine⟨(k+1,ds++ [(k:Int)],u+1),[some 2,some 4,some 69,some 6],[],⟨rfl,Zas,⟨Zad,⟨Zad,⟨Zds,⟨⟨rfl,⟨rfl,⟨rfl,⟨(congrArg (V.own _) (by rw[List.map_append];rfl)),I⟩⟩⟩⟩,I⟩⟩⟩⟩,I⟩,?_,?_⟩
       rotate_left
       (dsimp only;omega)
       dsimp only
       exact⟨by omega,by rw[List.length_append];simp;omega,by rw[List.length_append];simp;omega,by first|omega|(dsimp only;omega),by first|omega|(dsimp only;omega)⟩
      ·by_cases hki:(k:Int) = (i:Int) - 1
       ·by_cases h2:ac l (u+1) 2 = 0
        ·conv=>whnf
         refine W.sq<|g 35 39 [BT,BT,BT,BT,BT]<|J Zap<|W.cn<|J (fun h4=>?_) fun h4=>?_
         replace h4:=dt h4
         simp only[LM]at h4
         refine W.skip<|W.sq<|W.blk<|g 39 55 [.call (V.i (ac l u 3)) ([rdC l (u+1),[]]),BF,BF,BF,.i ((↑(Prod.fst (i,ts,q)):Int) - 1),BF,BF,BT,BT,.call (V.i (ac l (u+1) 2)) ([rdC l (u+1+1),[]]),BT,BF,BT,BF]<|J ⟨I,⟨UB,I,UV,UA,aa _ _ _ (by first|omega|decide|assumption|(simp only[ByteArray.size_extract,List.length_map];omega)|simp[*]) (by first|omega|decide|assumption|(simp only[ByteArray.size_extract,List.length_map];omega)|simp[*]) (by first|omega|decide|assumption|(simp only[ByteArray.size_extract,List.length_map];omega)|simp[*]) (by first|omega|decide|assumption|(simp only[ByteArray.size_extract,List.length_map];omega)|simp[*])⟩,I,I,⟨dO,I⟩,⟨dO,I⟩,⟨dO,wO⟩,⟨dO,I⟩,⟨dO,I⟩,⟨tO,I⟩,⟨tO,UB,I,UV,UA,aa _ _ _ OM OM OM OM⟩,⟨tO,I⟩,⟨dO,tO⟩,dO,I⟩<|W.cn<|J (fun _=>(rg []<|J Zcr (rg [.i ((↑(Prod.fst (k,ds,u)):Int) +1)]<|J Zdg ?_))) (noF tO)
         rotate_left
         replace h4:=df h4
         simp only[LM]at h4
         omega
         refine⟨(k+1,ds++ [(k:Int)],u+2),[some 2,some 4,some 69,some 6],[],⟨rfl,Zas,⟨Zad,⟨Zad,⟨⟨rfl,⟨rfl,⟨(congrArg (fun z=>V.t (T.v (Value.int _ z))) (by show u+1+1 = u+2;omega)),I⟩⟩⟩,⟨⟨rfl,⟨rfl,⟨rfl,⟨(congrArg (V.own _) (by rw[List.map_append];rfl)),I⟩⟩⟩⟩,I⟩⟩⟩⟩,I⟩,?_,?_⟩
         rotate_left
         (dsimp only;omega)
         dsimp only
         exact⟨by omega,by rw[List.length_append];simp;omega,by rw[List.length_append];simp;omega,by first|omega|(dsimp only;omega),by first|omega|(dsimp only;omega)⟩
        ·conv=>whnf
         refine W.sq<|g 35 39 [BT,BT,BT,BT,BT]<|J Zap<|W.cn<|J (fun h4=>?_) fun h4=>?_
         replace h4:=dt h4
         simp only[LM]at h4
         refine W.skip<|W.sq<|W.blk<|g 39 55 [.call (V.i (ac l u 3)) ([rdC l (u+1),[]]),BF,BF,BF,.i ((↑(Prod.fst (i,ts,q)):Int) - 1),BF,BF,BT,BT,.call (V.i (ac l (u+1) 2)) ([rdC l (u+1+1),[]]),BT,BF,BT,BF]<|J ⟨I,⟨UB,I,UV,UA,aa _ _ _ (by first|omega|decide|assumption|(simp only[ByteArray.size_extract,List.length_map];omega)|simp[*]) (by first|omega|decide|assumption|(simp only[ByteArray.size_extract,List.length_map];omega)|simp[*]) (by first|omega|decide|assumption|(simp only[ByteArray.size_extract,List.length_map];omega)|simp[*]) (by first|omega|decide|assumption|(simp only[ByteArray.size_extract,List.length_map];omega)|simp[*])⟩,I,I,⟨dO,I⟩,⟨dO,I⟩,⟨dO,wO⟩,⟨dO,I⟩,⟨dO,I⟩,⟨tO,I⟩,⟨tO,UB,I,UV,UA,aa _ _ _ OM OM OM OM⟩,⟨tO,I⟩,⟨dO,tO⟩,dO,I⟩<|W.cn<|J (noT dO) fun _=>W.skip<|rg [.i ((↑(Prod.fst (k,ds,u)):Int) +1)]<|J Zdg ?_
         rotate_left
         replace h4:=df h4
         simp only[LM]at h4
         omega
         refine⟨(k+1,ds,u+2),[some 2,some 4,some 69,some 6],[],⟨rfl,Zas,⟨Zad,⟨Zad,⟨⟨rfl,⟨rfl,⟨(congrArg (fun z=>V.t (T.v (Value.int _ z))) (by show u+1+1 = u+2;omega)),I⟩⟩⟩,Zeb⟩⟩⟩,I⟩,?_,?_⟩
         rotate_left
         (dsimp only;omega)
         dsimp only
         omega
       ·conv=>whnf
        refine W.sq<|g 35 39 [BT,BT,BT,BT,BT]<|J Zap<|W.cn<|J (fun h2=>?_) fun h2=>?_
        replace h2:=dt h2
        simp only[LM]at h2
        refine W.skip<|W.sq<|W.blk<|g 39 55 [.call (V.i (ac l u 3)) ([rdC l (u+1),[]]),BF,BF,BF,.i ((↑(Prod.fst (i,ts,q)):Int) - 1),BF,BF,BF,BF,BF,BF,BF,BF]<|J ⟨I,⟨UB,I,UV,UA,aa _ _ _ (by first|omega|decide|assumption|(simp only[ByteArray.size_extract,List.length_map];omega)|simp[*]) (by first|omega|decide|assumption|(simp only[ByteArray.size_extract,List.length_map];omega)|simp[*]) (by first|omega|decide|assumption|(simp only[ByteArray.size_extract,List.length_map];omega)|simp[*]) (by first|omega|decide|assumption|(simp only[ByteArray.size_extract,List.length_map];omega)|simp[*])⟩,I,I,⟨dO,I⟩,⟨dO,I⟩,⟨dO,wO⟩,⟨dO,I⟩,⟨dO,I⟩,dO,dO,dO,⟨dO,dO⟩,dO,I⟩<|W.cn<|J (noT rfl) fun _=>W.skip<|rg [.i ((↑(Prod.fst (k,ds,u)):Int) +1)]<|J Zdg ?_
        rotate_left
        replace h2:=df h2
        simp only[LM]at h2
        omega
        refine⟨(k+1,ds,u+1),[some 2,some 4,some 69,some 6],[],Zes,?_,?_⟩
        rotate_left
        (dsimp only;omega)
        dsimp only
        omega
     ·exfalso;omega
    ·conv=>whnf
     refine W.sq<|g 35 39 [BF,BF,BF,BF,BF]<|J ⟨I,I,I,I,dO,dO,dO,dO,dO,I⟩<|W.cn<|J (noT rfl) fun _=>W.exit<|rg []<|J Zb8<|rg [.i ((↑(Prod.fst (i,ts,q)):Int) +1)]<|J Zdg ?_
     refine⟨(i+1,ts++ [(⟨((⟨#[116]⟩:ByteArray) ++dX i),1+ac l q 5,ds⟩:Task)],u),[some 2,some 69,some 4],[],⟨rfl,Zax,⟨Zad,⟨Zds,⟨⟨rfl,⟨(congrArg (V.own _) (by rw[List.map_append];rfl)),I⟩⟩,I⟩⟩⟩,I⟩,?_,?_⟩
     rotate_left
     (dsimp only;omega)
     dsimp only
     refine⟨by first|omega|(dsimp only;omega),by rw[List.length_append];simp;omega,fun t ht=>?_,by first|omega|(dsimp only;omega),by first|omega|(dsimp only;omega)⟩
     rcases List.mem_append.1 ht with ht|ht
     ·exact hsm t ht
     ·rw[List.mem_singleton.1 ht]
      refine⟨?_,by first|omega|(dsimp only;omega)⟩
      show(((⟨#[116]⟩:ByteArray) ++dX i).size)≤64
      rw[ByteArray.size_append]
      have:(⟨#[116]⟩:ByteArray).size = 1:=rfl
      omega
  ·conv=>whnf
   refine W.sq<|g 15 17 []<|J UC<|W.cn<|J (noT dO) fun _=>W.exit<|g 3 69 []<|J UV<|W.ret<|EndsW.rt<|J UB ?_
   exact⟨⟨ts⟩,q,rfl,rfl,⟨by first|omega|(dsimp only;omega),hsm⟩,by first|omega|(dsimp only;omega),by omega,by omega⟩
theorem wT(l:List Int)(pos:Int)(h:eP l∧0≤pos∧pos≤1000000):∃ x:Plan×Int,F jH [.ptr (rdC l pos)] (db x.1) [rdC l x.2]∧cy x.1∧1≤x.1.tasks.length∧pos≤x.2∧x.2≤pos+4000:=by
 obtain⟨res,outs,⟨p,pos2,rfl,rfl,h1,h2,h3,h4⟩,hF⟩:=NS l pos h.1 h.2.1 h.2.2
 exact⟨(p,pos2),hF,h1,h2,h3,h4⟩
open Classical in
noncomputable def mq(l:List Int)(pos:Int):Plan×Int:=if h:eP l∧0≤pos∧pos≤1000000 then(wT l pos h).choose else(⟨[⟨emp,0,[]⟩]⟩,pos)
theorem yu(l:List Int)(pos:Int)(hl:eP l)(h0:0≤pos)(h1:pos≤1000000):F jH [.ptr (rdC l pos)] (db (mq l pos).1) [rdC l (mq l pos).2]:=by
 have h:eP l∧0≤pos∧pos≤1000000:=⟨hl,h0,h1⟩
 rw[mq,dif_pos h]
 exact(wT l pos h).choose_spec.1
theorem NW(l:List Int)(pos:Int):cy (mq l pos).1∧1≤(mq l pos).1.tasks.length∧pos≤(mq l pos).2∧(mq l pos).2≤pos+4000:=by
 unfold mq
 split
 ·rename_i h;exact(wT l pos h).choose_spec.2
 ·refine⟨⟨by show 1≤64;omega,fun t ht=>?_⟩,Nat.le_refl _,Int.le_refl _,by dsimp only;omega⟩
  rw[List.mem_singleton.1 ht]
  have:emp.size = 0:=rfl
  exact⟨by dsimp only;omega,Nat.zero_le _⟩
end Go.K
end
section
open Go Go.Tm Go.Proofs
namespace Go.K
def gR(t:Task):Prop:=t.name.size≤8192∧t.deps.length≤128
def j7(p:Plan):Prop:=p.tasks.length≤64∧∀ t∈p.tasks,gR t
theorem fF{p:Plan}(h:cy p):j7 p:=⟨h.1,fun t ht=>⟨by have:=(h.2 t ht).1;omega,by have:=(h.2 t ht).2;omega⟩⟩
theorem Bi{p:Plan}(h:j7 p):cR p:=⟨by have:=h.1;omega,fun t ht=>⟨by have:=(h.2 t ht).1;omega,by have:=(h.2 t ht).2;omega⟩⟩
theorem wE(xs:List ByteArray)(k:Int)(h0:0≤k)(h1:k < xs.length):∃ x,x∈xs∧(xs.map aq)[k.toNat]? = some (aq x):=by
 obtain⟨x,hx⟩:=ak (xs:=xs) (n:=k.toNat) OM
 exact⟨x,List.mem_of_getElem? hx,by rw[List.getElem?_map,hx];rfl⟩
theorem fm(xs:List Int)(k:Int)(h0:0≤k)(h1:k < xs.length):∃ x,x∈xs∧(xs.map im)[k.toNat]? = some (im x):=by
 obtain⟨x,hx⟩:=ak (xs:=xs) (n:=k.toNat) OM
 exact⟨x,List.mem_of_getElem? hx,by rw[List.getElem?_map,hx];rfl⟩
end Go.K
end
section
open Go Go.Tm Go.Proofs
namespace Go.K
attribute [local irreducible] ByteArray.extract
end Go.K
end
section
open Go Go.Tm Go.Proofs
namespace Go.K
attribute [local irreducible] ByteArray.extract
end Go.K
end
section
open Go Go.Tm Go.Proofs
namespace Go.K
theorem KC(l:List Int)(pos:Int)(hl:eP l)(h0:0≤pos)(h1:pos≤1000000):∃ res outs,(∃ k ep ta tx pos2,res = kX k ep ta tx∧outs = [rdC l pos2]∧Entry.ok ⟨k,ep,ta,tx⟩∧tx.size≤8∧pos≤pos2∧pos2≤pos+10)∧F jF [.ptr (rdC l pos)] res outs:=by
 have p0:=av l pos 3
 have p1:=av l (pos+1) 4
 have p2:=av l (pos+1) 3
 have p3:=av l (pos+1+1) 4
 obtain⟨xe,hxe1,hxe2⟩:=fm [1,2,256,300] (ac l (pos+1) 4) p1.1 (by show _ < (4:Int);omega)
 have hxe3:([[T.i 1],[T.i 2],[T.i 256],[T.i 300]]:List (List T))[(ac l (pos+1) 4).toNat]? = some [T.i xe]:=hxe2
 obtain⟨xt,hxt1,hxt2⟩:=fm [0,1,2,39] (ac l (pos+1+1) 4) p3.1 (by show _ < (4:Int);omega)
 have hxt3:([[T.i 0],[T.i 1],[T.i 2],[T.i 39]]:List (List T))[(ac l (pos+1+1) 4).toNat]? = some [T.i xt]:=hxt2
 have be:1≤xe∧xe≤300:=by simp only[List.mem_cons,List.not_mem_nil,or_false]at hxe1;omega
 have bt:0≤xt∧xt≤39:=by simp only[List.mem_cons,List.not_mem_nil,or_false]at hxt1;omega
 by_cases h3:ac l pos 3 = 0
 ·refine nY ?_
  conv=>whnf
  refine g 0 0 []<|J UA<|W.sq<|g 4 5 [.call (V.i (ac l pos 3)) ([rdC l (pos+1),[]])]<|J ⟨I,⟨UB,I,UV,UA,aa _ _ _ OM OM OM OM⟩,I,I⟩<|W.cn<|J (fun _=>(g 5 12 [.call (V.i (ac l (pos+1) 4)) ([rdC l (pos+1+1),[]]),.n (Int.toNat (ac l (pos+1) 4)),.x ([T.i xe])]<|J ⟨Zc1,I,⟨UB,I,UV,UA,aa _ _ _ OM OM OM OM⟩,Zdq,AS,I,UD,I⟩ (W.ret (EndsW.rt<|J UE ?_)))) (noF tO)
  exact⟨1,xe,0,emp,_,rfl,rfl,⟨be,⟨Int.le_refl _,by dsimp only;omega⟩,.inl ⟨rfl,rfl,rfl⟩⟩,Nat.zero_le 8,by omega,by omega⟩
 ·refine nY ?_
  conv=>whnf
  refine g 0 0 []<|J UA<|W.sq<|g 4 5 [.call (V.i (ac l pos 3)) ([rdC l (pos+1),[]])]<|J ⟨I,⟨UB,I,UV,UA,aa _ _ _ OM OM OM OM⟩,I,I⟩<|W.cn<|J (noT dO) fun _=>W.skip<|gd 3 23 [[],[.call (V.i (ac l (pos+1) 3)) ([rdC l (pos+1+1),[]])],[.i (1+ac l (pos+1) 3)],[],[],[.call (V.i (ac l (pos+1+1) 4)) ([rdC l (pos+1+1+1),[]])],[.n (Int.toNat (ac l (pos+1+1) 4))],[.x ([T.i xt])],[],[.call (V.s (Gi (dX (ac l (pos+1+1+1) 50)))) ([rdC l (pos+1+1+1+1)])],[],[]] ?_
  conv=>whnf
  refine J ⟨I,⟨UB,I,UV,UA,aa _ _ _ OM OM OM OM⟩,wO,Zc1,I,⟨UB,I,UV,UA,aa _ _ _ OM OM OM OM⟩,Zdq,AS,I,⟨UA,I,UA,UA,uX _ _ OM OM OM⟩,I,UD,I⟩<|J KR<|W.ret<|EndsW.rt<|J UE ?_
  exact⟨2,1+ac l (pos+1) 3,xt,Gi (dX (ac l (pos+1+1+1) 50)),_,rfl,rfl,⟨⟨by dsimp only;omega,by dsimp only;omega⟩,bt,.inr ⟨rfl,by dsimp only;rw[gF];rfl⟩⟩,by rw[gF];omega,by omega,by omega⟩
theorem tj(l:List Int)(pos:Int)(h:eP l∧0≤pos∧pos≤1000000):∃ x:Entry×Int,F jF [.ptr (rdC l pos)] (kX x.1.kind x.1.epoch x.1.task x.1.text) [rdC l x.2]∧Entry.ok x.1∧x.1.text.size≤8∧pos≤x.2∧x.2≤pos+10:=by
 obtain⟨res,outs,⟨k,ep,ta,tx,pos2,rfl,rfl,h1,h2,h3,h4⟩,hF⟩:=KC l pos h.1 h.2.1 h.2.2
 exact⟨(⟨k,ep,ta,tx⟩,pos2),hF,h1,h2,h3,h4⟩
open Classical in
noncomputable def eX(l:List Int)(pos:Int):Entry×Int:=if h:eP l∧0≤pos∧pos≤1000000 then(tj l pos h).choose else(⟨1,1,0,emp⟩,pos)
theorem oN(l:List Int)(pos:Int)(hl:eP l)(h0:0≤pos)(h1:pos≤1000000):F jF [.ptr (rdC l pos)] (kX (eX l pos).1.kind (eX l pos).1.epoch (eX l pos).1.task (eX l pos).1.text) [rdC l (eX l pos).2]:=by
 have h:eP l∧0≤pos∧pos≤1000000:=⟨hl,h0,h1⟩
 rw[eX,dif_pos h]
 exact(tj l pos h).choose_spec.1
theorem DD(l:List Int)(pos:Int):Entry.ok (eX l pos).1∧(eX l pos).1.text.size≤8∧pos≤(eX l pos).2∧(eX l pos).2≤pos+10:=by
 unfold eX
 split
 ·rename_i h;exact(tj l pos h).choose_spec.2
 ·exact⟨⟨⟨by dsimp only;omega,by dsimp only;omega⟩,⟨Int.le_refl _,by dsimp only;omega⟩,.inl ⟨rfl,rfl,rfl⟩⟩,Nat.zero_le 8,Int.le_refl _,by dsimp only;omega⟩
end Go.K
end
section
open Go Go.Tm Go.Proofs
namespace Go.K
theorem Nf{l:List Int}(h8:∀ x∈l,0≤x∧x≤255):eP (l.take 2000):=⟨by rw[List.length_take];omega,fun x hx=>h8 x (List.mem_of_mem_take hx)⟩
end Go.K
end
section
open Go Go.Tm Go.Proofs
namespace Go.K
theorem gw(e:Entry):(bB e).size≤4+e.text.size:=by
 unfold bB
 split
 ·rw[ByteArray.size_append,gh];exact Nat.le_refl _
 ·exact Nat.zero_le _
end Go.K
end
section
open Go Go.Tm Go.Proofs
namespace Go.K
theorem PB{n:Nat}{t:TypeId}{zc:List V}{b:Nat}(ht:E.ty t = some ⟨.int .u8,zc,b⟩){xs:List (List T)}(h:∀ y∈xs,wfT E (n+1) t y):∃ l:List Int,xs = l.map b1T∧∀ x∈l,0≤x∧x≤255 :=
 FU (f:=b1T) (p:=fun x=>0≤x∧x≤255) fun y hy=>by
  have h1:=h y hy
  simp only[wfT,ht]at h1
  obtain⟨m,hm,h2,h3⟩:=h1
  exact⟨m,hm,h2,h3⟩
end Go.K
end
section
open Go Go.Tm Go.Proofs
namespace Go.K
theorem Kg(xs:List ByteArray)(y:ByteArray):xs.map aq++ [aq y] = (xs++ [y]).map aq:=by rw[List.map_append];rfl
theorem Dl(xs:List ByteArray)(y:ByteArray):(xs++ [y]).length = xs.length+1:=by rw[List.length_append];rfl
theorem KU{n:Nat}{xs:List ByteArray}{y:ByteArray}(h:∀ s∈xs,s.size≤n)(hy:y.size≤n):∀ s∈xs++ [y],s.size≤n:=by
 intro s hs
 rcases List.mem_append.1 hs with hs|hs
 ·exact h s hs
 ·rw[List.mem_singleton.1 hs];exact hy
end Go.K
end
section
open Go Go.Tm Go.Proofs
namespace Go.K
structure RepOk (p:Plan) (xs:List ByteArray):Prop where
 plan:j7 p
 len:xs.length≤400
 size:∀ s∈xs,s.size≤64
end Go.K
end
section
open Go Go.Tm Go.Proofs
namespace Go.K
attribute [local irreducible] ByteArray.extract
end Go.K
end
section
open Go Go.Tm Go.Proofs
namespace Go.K
theorem Mj{hs:List Int}{r:ByteArray}{k:Nat}{x:Int}(hk:hs[k]? = some x)(hx:0≤x∧x≤255):byt (bl hs++r) k = x:=by
 obtain⟨⟨l⟩⟩:=r
 have e:bl hs++ ⟨⟨l⟩⟩ = ⟨⟨(hs.map fun n=>UInt8.ofNat n.toNat) ++l⟩⟩:=by
  apply ByteArray.ext
  rw[ByteArray.data_append]
  apply Array.ext'
  simp[bl]
 have h1:((hs.map fun n=>UInt8.ofNat n.toNat) ++l)[k]? = some (UInt8.ofNat x.toNat):=by
  rw[List.getElem?_append_left (by rw[List.length_map];exact(List.getElem?_eq_some_iff.1 hk).1),List.getElem?_map,hk];rfl
 rw[e,sK h1]
 simp;omega
theorem rI(a r:ByteArray):(a++r).extract a.size (a++r).size = r:=by
 have e:a.extract a.size (a.size+r.size) = emp:=ByteArray.size_eq_zero_iff.1 (by rw[ByteArray.size_extract];omega)
 rw[ByteArray.size_append,ByteArray.extract_append,e,E7]
 simp
end Go.K
end
section
open Go Go.Tm Go.Proofs
namespace Go.K
attribute [local irreducible] ByteArray.extract
theorem J1{s key:ByteArray}{m:Message}(h:dE s key = some m):bC m:=by
 unfold dE at h
 by_cases h0:s.size < 19
 ·rw[if_pos (Or.inl h0)]at h;cases h
 ·by_cases h1:dK (rdM (s.extract 8 s.size)) key = s
  ·rw[if_neg (by rintro(h|h);exact h0 h;exact h h1)]at h
   cases h
   exact((kW h0).1 h1).1
  ·rw[if_pos (Or.inr h1)]at h;cases h
end Go.K
end
section
open Go Go.Tm Go.Proofs
namespace Go.K
attribute [local irreducible] ByteArray.extract
theorem fS(xs ys:List ByteArray)(hl:xs.length≤9223372036854775806):F le [.val (.t (n7 xs)),.val (.t (n7 ys))] (.b (decide (xs = ys))) [[],[]]:=by
 refine Ai ?_
 conv=>whnf
 refine g 0 0 []<|J UA<|W.sq<|g 6 10 []<|J UE<|W.cn<|J (fun h1=>?_) fun h1=>?_
 replace h1:=ndt h1
 simp only[LM]at h1
 refine g 10 11 []<|J UA<|RT ?_
 rotate_left
 replace h1:=ndf h1
 simp only[LM]at h1
 refine W.skip<|W.sq<|g 10 11 []<|J UA<|W.blk ?_
 rotate_left
 ·exact vbf (fun e=>h1 (by rw[e]))
 refine W.lp (fun s (n:Nat)=>⟨[(0,s.s 0),(1,s.s 1),(5,.i n)],[],[]⟩) (fun(n:Nat)=>n≤xs.length∧xs.take n = ys.take n) (fun(n:Nat)=>xs.length - n) (0) [] [] ⟨rfl,Zc3,I,I⟩ (by simp) ?_
 rintro n ⟨hn,hc⟩
 conv=>whnf
 refine W.sq<|g 11 14 []<|J UD<|W.cn<|J (fun h2=>?_) fun h2=>?_
 replace h2:=dt h2
 simp only[LM]at h2
 refine W.skip<|W.sq<|W.blk ?_
 obtain⟨y1,hy1⟩:=ak (xs:=xs) (n:=n) OM
 obtain⟨y2,hy2⟩:=ak (xs:=ys) (n:=n) OM
 refine gd 14 25 [[],[],[.x (aq y1)],[],[],[],[.x (aq y2)],[],[]] ?_
 conv=>whnf
 refine J ⟨I,I,Zdk,I,I,I,Zdk,I,I,I⟩<|J KR<|W.cn<|J (fun h3=>?_) fun h3=>?_
 replace h3:=ndt h3
 refine g 25 26 []<|J UA<|RT ?_
 rotate_left
 replace h3:=ndf h3
 refine W.skip<|rg [.i ((n:Int) +1)]<|J Zdg ?_
 rotate_left
 replace h2:=df h2
 simp only[LM]at h2
 refine W.exit<|g 0 2 []<|J UA<|RT ?_
 rotate_left
 ·exact vbf (fun e=>by subst e;rw[hy1]at hy2;cases hy2;exact h3 rfl)
 ·refine⟨n+1,[],[],⟨rfl,Zc3,I,I⟩,?_,?_⟩
  rotate_left
  (dsimp only;omega)
  dsimp only
  exact⟨by omega,n6 hc hy1 (by rw[hy2];exact congrArg some (Eq.symm h3))⟩
 ·exact vbt (by rw[bc OM,bc OM]at hc;exact hc)
end Go.K
end
section
open Go Go.Tm Go.Proofs
namespace Go.K
theorem NM{e:Entry}(h:e.ok):rdS (bB e) = e:=by
 have hok:=h
 obtain⟨⟨h1,h2⟩,⟨h3,h4⟩,h5⟩:=h
 have hk:1≤e.kind∧e.kind≤2:=by rcases h5 with q|q <;> (have:=q.1;omega)
 have d1:e.epoch.tdiv 256 = e.epoch / 256:=Int.tdiv_eq_ediv_of_nonneg OM
 have d2:e.epoch.tmod 256 = e.epoch % 256:=Int.tmod_eq_emod_of_nonneg OM
 have hf:bB e = bl [e.kind,e.epoch / 256,e.epoch % 256,e.task] ++e.text:=by
  rw[bB,if_pos hok,d1,d2,wO,wu8 OM OM,wu8 OM OM,wu8 OM OM,wu8 OM OM]
 have hl:(bl [e.kind,e.epoch / 256,e.epoch % 256,e.task]).size = 4:=by rw[gh];rfl
 have hx:(bB e).extract 4 (bB e).size = e.text:=by rw[hf,←hl];exact rI _ _
 have b:∀ (k:Nat) (x:Int),([e.kind,e.epoch / 256,e.epoch % 256,e.task])[k]? = some x→0≤x∧x≤255→byt (bB e) k = x:=fun k x hk hx=>by rw[hf];exact Mj hk hx
 have k0:=b 0 e.kind rfl ⟨by omega,by omega⟩
 have k1:=b 1 (e.epoch / 256) rfl ⟨by omega,by omega⟩
 have k2:=b 2 (e.epoch % 256) rfl ⟨by omega,by omega⟩
 have k3:=b 3 e.task rfl ⟨by omega,by omega⟩
 unfold rdS
 rw[k0,k1,k2,k3,hx,show e.epoch / 256 * 256+e.epoch % 256 = e.epoch by omega]
theorem Ib{e:Entry}(h:e.ok):(bB e).size = 4+e.text.size:=by
 rw[bB,if_pos h,ByteArray.size_append,gh];rfl
theorem vE{e:Entry}(h:e.ok):dD (bB e) = some e:=by
 have:=Ib h
 rw[dD,if_neg OM,NM h,if_pos rfl]
theorem Ez{s:ByteArray}{e:Entry}(h:dD s = some e):bB e = s:=by
 unfold dD at h
 split at h
 ·cases h
 ·split at h
  ·cases h;assumption
  ·cases h
end Go.K
end
section
open Go Go.Tm Go.Proofs
namespace Go.K
theorem Rg{p:Plan}(hck:am p.tasks = 0):∀ t∈p.tasks,t.deps.length≤8:=fun t ht=>by
 obtain⟨k,hk⟩:=List.getElem?_of_mem ht
 exact(bP hck hk).2.2.1
structure HandK (b:Boss) (ts:List Task) (h:Hand):Prop where
 jl:JL b.epoch b.now h.given b.workers b.results ts h.jobs
 seats:∀ s∈h.seats,0≤s.epoch∧s.epoch≤300
theorem LC{b:Boss}{ts:List Task}(hd:∀ t∈ts,t.deps.length≤8)(he:1≤b.epoch)(h0:0≤b.given)(h1:b.given≤1000000)(hjl:b.jobs.length = ts.length)(hsl:(b.seats.length:Int) = b.workers)(hj:JL b.epoch b.now b.given b.workers b.results ts b.jobs)(hs:∀ s∈b.seats,0≤s.epoch∧s.epoch≤300):∀ n,n≤ts.length→HandK b ts (aG b ts n)
 |0,_=>⟨hj,hs⟩
 |n+1,hn=>by
  have ih:=LC hd he h0 h1 hjl hsl hj hs n OM
  have ho:=kh hd h0 h1 n
  by_cases hc:CanHand b ts (aG b ts n) n
  ·cases hf:jQ (aG b ts n).seats with
   |none=>rw[nP hf];exact ih
   |some s =>
    rw[nN hc hf]
    obtain⟨x,hx0,hx1,hx2,_⟩:=nQ hf
    have e1:=ho.jobs
    have e2:=ho.seats
    obtain⟨j,hj0⟩:=ak (xs:=(aG b ts n).jobs) (n:=n) OM
    refine⟨PJ ih.jl hj0 ho.lo ⟨by omega,by omega⟩ hc.res hc.ready he,fun y hy=>?_⟩
    rcases List.mem_or_eq_of_mem_set hy with hy|hy
    ·exact ih.seats y hy
    ·rw[hy]
     have:kM (aG b ts n).seats s = x:=by rw[kM,hx0];rfl
     show 0≤(kM _ _).epoch∧(kM _ _).epoch≤300
     rw[this]
     exact ih.seats x (List.mem_of_getElem? hx0)
  ·rw[gU hc];exact ih
theorem Q2{b:Boss}(h:¬b.up = false):b.up = true:=by cases hb:b.up;exact absurd hb h;rfl
theorem Eg{b:Boss}{p:Plan}(hv:BossOk b p):BossOk (gM b p.tasks).boss p:=by
 by_cases h0:b.now = 1000000
 ·rw[rj h0];exact hv
 have hnow:=hv.now
 by_cases hup:b.up = false
 ·rw[ve h0 hup]
  obtain⟨d1,d2,d3,d4,d5,d6,d7,d8⟩:=hv.down hup
  exact⟨hv.plan,hv.workers,⟨by show 0≤b.now+1;omega,by show b.now+1≤1000000;omega⟩,hv.code,(fun e=>by rw[show(Qt b).up = b.up from rfl,hup]at e;cases e),fun _=>⟨d1,d2,d3,d4,d5,d6,d7,d8⟩⟩
 have hup2:=Q2 hup
 obtain⟨u1,u2,u3,u4,u5,u6,⟨u7,u8⟩,⟨u9,u10⟩,u11,u12,u13,u14⟩:=hv.up hup2
 have hd:=Rg hv.plan
 have hj:JL (da b).epoch (da b).now (da b).given (da b).workers (da b).results p.tasks (da b).jobs:=PL (Bl u12)
 have hjl:(da b).jobs.length = p.tasks.length:=by show(b.jobs.map _).length = _;rw[List.length_map];exact u4
 have hk:=LC (b:=da b) (ts:=p.tasks) hd u2 u9 u10 hjl u5 hj u13 p.tasks.length (Nat.le_refl _)
 have ho:=kh (b:=da b) (ts:=p.tasks) hd u9 u10 p.tasks.length
 have e1:(endH b p.tasks).jobs.length = p.tasks.length:=by show(aG _ _ _).jobs.length = _;rw[ho.jobs];exact hjl
 have e2:((endH b p.tasks).seats.length:Int) = b.workers:=by show((aG _ _ _).seats.length:Int) = _;rw[ho.seats];exact u5
 by_cases hs:b.since+1 = 2
 ·rw[lj h0 hup hs]
  have es:bU ⟨b.workers,b.up,b.now+1,0,b.epoch,(endH b p.tasks).given,⟨b.log.safe++b.log.loose,[]⟩,b.results,(endH b p.tasks).jobs,(endH b p.tasks).seats,[]⟩ p = bU b p:=by show aw p ((b.log.safe++b.log.loose) ++ []) = aw p (b.log.safe++b.log.loose);rw[List.append_nil]
  refine⟨hv.plan,hv.workers,⟨by show 0≤b.now+1;omega,by show b.now+1≤1000000;omega⟩,by rw[es];exact hv.code,fun _=>?_,fun e=>absurd (show b.up = false from e) hup⟩
  rw[es]
  exact⟨u1,u2,u3,e1,e2,u6,⟨Int.le_refl _,by show(0:Int)≤1;omega⟩,⟨ho.lo,ho.hi⟩,Nat.zero_le _,yM hk.jl,hk.seats,fun o ho=>by cases ho⟩
 ·rw[nz h0 hup hs]
  have es:bU ⟨b.workers,b.up,b.now+1,b.since+1,b.epoch,(endH b p.tasks).given,b.log,b.results,(endH b p.tasks).jobs,(endH b p.tasks).seats,b.owed⟩ p = bU b p:=rfl
  refine⟨hv.plan,hv.workers,⟨by show 0≤b.now+1;omega,by show b.now+1≤1000000;omega⟩,by rw[es];exact hv.code,fun _=>?_,fun e=>absurd (show b.up = false from e) hup⟩
  rw[es]
  exact⟨u1,u2,u3,e1,e2,u6,⟨by show 0≤b.since+1;omega,by show b.since+1≤1;omega⟩,⟨ho.lo,ho.hi⟩,u11,yM hk.jl,hk.seats,fun o ho=>by obtain⟨a1,a2,a3,a4⟩:=u14 o ho;exact⟨a1,a2,a3,a4⟩⟩
end Go.K
end
section
open Go Go.Tm Go.Proofs
namespace Go.K
theorem yX(ts:List Task)(st:Option Tale)(xs:List ByteArray)(s:ByteArray):ji ts st (xs++ [s]) = (ji ts st xs).bind fun t=>dk ts t s:=by
 rw[nb];cases ji ts st xs with
 |none=>rfl
 |some t=>rfl
theorem BO{p:Plan}{xs:List ByteArray}{e:Entry}{t:Task}(h:(aw p xs).code = 0)(hl:xs.length < 310)(hok:e.ok)(hk:¬e.kind = 1)(he:e.epoch = (aw p xs).epoch)(ht:p.tasks[e.task.toNat]? = some t)(ht2:e.task < p.tasks.length)(hr:atS (aw p xs).results e.task = emp)(hd:cF (aw p xs).results t.deps):aw p (xs++ [bB e]) = ⟨0,(aw p xs).epoch,(aw p xs).results.set e.task.toNat e.text⟩:=by
 obtain⟨hck,_,hrl,u,h1,h2⟩:=bR h
 rw[h2]at he hr hd ⊢
 dsimp only at he hr hd
 obtain⟨y,hy⟩:∃ y,u.results[e.task.toNat]? = some y:=by
  rw[h2]at hrl
  exact ak (by have:=hok.2.1.1;dsimp only at hrl;omega)
 have hs:dk p.tasks u (bB e) = some ⟨u.epoch,u.results.set e.task.toNat e.text⟩:=wB (vE hok) hk he ht2 hy (by rw[ko hy]at hr;exact hr) ht hd
 unfold aw
 rw[if_pos ⟨hck,by rw[List.length_append,List.length_singleton];omega⟩,yX,h1]
 rw[Option.bind_some,hs]
theorem lc{p:Plan}{xs:List ByteArray}{n:Int}(h:(aw p xs).code = 0)(hl:xs.length < 310)(hn:n = (aw p xs).epoch+1)(h3:n≤300):aw p (xs++ [bB (epE n)]) = ⟨0,n,(aw p xs).results⟩:=by
 obtain⟨hck,_,hrl,u,h1,h2⟩:=bR h
 have he:=(eu h).1
 rw[h2]at hn he ⊢
 dsimp only at hn he
 have hok:(epE n).ok:=⟨⟨by show 1≤n;omega,h3⟩,⟨Int.le_refl _,by show(0:Int)≤39;omega⟩,.inl ⟨rfl,rfl,rfl⟩⟩
 have hs:dk p.tasks u (bB (epE n)) = some ⟨n,u.results⟩:=AC (vE hok) rfl hn
 unfold aw
 rw[if_pos ⟨hck,by rw[List.length_append,List.length_singleton];omega⟩,yX,h1]
 rw[Option.bind_some,hs]
theorem lm{p:Plan}{xs ys:List ByteArray}(h:(aw p (xs++ys)).code = 0):(aw p xs).code = 0:=by
 obtain⟨hck,hl,_,u,h1,_⟩:=bR h
 rw[nb]at h1
 unfold aw
 rw[if_pos ⟨hck,by rw[List.length_append]at hl;omega⟩]
 cases hr:ji p.tasks (some (kp p.tasks)) xs with
 |none=>rw[hr,gG]at h1;cases h1
 |some t=>rfl
theorem iY{b:Boss}{p:Plan}(k:Int)(hv:BossOk b p):BossOk (dN b k) p:=by
 by_cases hup:b.up = false
 ·rw[nT hup];exact hv
 rw[v9 hup]
 have hc:(aw p ((b.log.safe++b.log.loose.take (hZ k b.log.loose.length)) ++ [])).code = 0:=by
  rw[List.append_nil]
  have h:=hv.code
  rw[bU,←List.take_append_drop (hZ k b.log.loose.length) b.log.loose,←List.append_assoc]at h
  exact lm h
 exact⟨hv.plan,hv.workers,hv.now,hc,(fun e=>by cases e),fun _=>⟨rfl,rfl,rfl,rfl,rfl,rfl,rfl,rfl⟩⟩
theorem iT{b:Boss}{p:Plan}(hv:BossOk b p):BossOk (aY b p) p:=by
 by_cases hr:n9 b p
 ·rw[xf hr]
  obtain⟨h1,h2,h3⟩:=hr
  obtain⟨_,hc⟩:=vK hv h1
  have hw:=hv.workers
  have he:=(eu hc).1
  obtain⟨hck,_,hrl,_⟩:=bR hc
  have e:=lc (p:=p) (xs:=b.log.safe) (n:=(aw p b.log.safe).epoch+1) hc h2 rfl OM
  have es:bU (upB b.workers b.now b.log.safe p (aw p b.log.safe)) p = ⟨0,(aw p b.log.safe).epoch+1,(aw p b.log.safe).results⟩:=by
   show aw p ((b.log.safe++ [bB (epE _)]) ++ []) = _
   rw[List.append_nil,e]
  refine⟨hv.plan,hw,hv.now,by rw[es],fun _=>?_,fun e=>by cases e⟩
  rw[es]
  refine⟨rfl,by show 1≤(aw p b.log.safe).epoch+1;omega,hrl,by show(List.replicate _ _).length = _;rw[List.length_replicate],by show((List.replicate b.workers.toNat jB).length:Int) = b.workers;rw[List.length_replicate];omega,rfl,⟨Int.le_refl _,by show(0:Int)≤1;omega⟩,⟨Int.le_refl _,by show(0:Int)≤1000000;omega⟩,Nat.zero_le _,?_,?_,fun o ho=>by cases ho⟩
  ·intro i j _ hj
   have:j = eS:=by
    have:=List.mem_of_getElem? hj
    exact(List.mem_replicate.1 this).2
   subst this
   exact⟨fun _=>⟨rfl,rfl⟩,fun q=>absurd rfl q⟩
  ·intro s hs
   rw[(List.mem_replicate.1 hs).2]
   exact⟨Int.le_refl _,by show(0:Int)≤300;omega⟩
 ·rw[mf hr];exact hv
end Go.K
end
section
open Go Go.Tm Go.Proofs
namespace Go.K
noncomputable def pC(key:ByteArray)(acc:List Parcel)(m:Message):List Parcel:=if bC m∧key.size≤30∧acc.length < 2000 then acc++ [⟨m.to,dK m key,dK m key⟩]else acc
noncomputable def gq(xs:List Parcel)(ms:List Message)(key:ByteArray)(n:Nat):List Parcel:=(ms.take n).foldl (pC key) xs
noncomputable def ub(xs:List Parcel)(ms:List Message)(key:ByteArray):List Parcel:=gq xs ms key ms.length
theorem ED(xs:List Parcel)(ms:List Message)(key:ByteArray):gq xs ms key 0 = xs:=by unfold gq;rw[List.take_zero];rfl
theorem pD{xs:List Parcel}{ms:List Message}{key:ByteArray}{n:Nat}{m:Message}(h:ms[n]? = some m):gq xs ms key (n+1) = pC key (gq xs ms key n) m:=by
 unfold gq;rw[List.take_add_one,h];simp
theorem J4{key:ByteArray}{acc:List Parcel}{m:Message}(h:acc.length≤1048576):(pC key acc m).length≤1048576:=by
 unfold pC;split
 ·rename_i h2;rw[List.length_append];simp;omega
 ·exact h
theorem rx{xs:List Parcel}(ms:List Message)(key:ByteArray)(h:xs.length≤1048576):∀ n,(gq xs ms key n).length≤1048576
 |0=>by rw[ED];exact h
 |n+1=>by
  cases hm:ms[n]? with
  |none =>
   have:ms.take (n+1) = ms.take n:=by rw[List.take_add_one,hm];simp
   have e:gq xs ms key (n+1) = gq xs ms key n:=by unfold gq;rw[this]
   rw[e];exact rx ms key h n
  |some m=>rw[pD hm];exact J4 (rx ms key h n)
theorem vr(b k:ByteArray):(eG b k).size = 8:=by unfold eG Gi;rw[gh,oU]
theorem Ic{m:Message}{key:ByteArray}(h:bC m)(hk:key.size≤30):¬dK m key = emp:=fun e=>by
 have:=congrArg ByteArray.size e
 rw[dK,if_pos ⟨h,hk⟩,ByteArray.size_append,vr]at this
 have h0:emp.size = 0:=by decide
 omega
theorem Ks{m:Message}{key:ByteArray}(h:¬(bC m∧key.size≤30)):dK m key = emp:=by rw[dK,if_neg h]
theorem C7{xs:List Parcel}{ms:List Message}{key:ByteArray}{n:Nat}{m:Message}(h:ms[n]? = some m)(h1:bC m)(h2:key.size≤30)(h3:(gq xs ms key n).length < 2000) :
 (gq xs ms key n).map bZ++ [bZ ⟨m.to,dK m key,dK m key⟩] = (gq xs ms key (n+1)).map bZ:=by
 rw[pD h,pC,if_pos ⟨h1,h2,h3⟩,List.map_append];rfl
theorem rT{xs:List Parcel}{ms:List Message}{key:ByteArray}{n:Nat}{m:Message}(h:ms[n]? = some m)(h1:¬(bC m∧key.size≤30∧(gq xs ms key n).length < 2000)) :
 (gq xs ms key n).map bZ = (gq xs ms key (n+1)).map bZ:=by
 rw[pD h,pC,if_neg h1]
theorem Ct(xs:List Parcel)(ms:List Message)(key:ByteArray)(hx:xs.length≤1048576)(hl:ms.length≤1048576)(hm:∀ m∈ms,m.inputs.length≤1048576):F BX [.val (.t (zg xs)),.val (.t (.slc cH (ms.map aK))),.val (.s key)] (.own pkd ((ub xs ms key).map bZ)) [[],[],[]]:=by
 refine Ce ?_
 conv=>whnf
 refine g 0 0 []<|J UA<|g 10 12 [.call (V.own pkd (List.map bZ xs)) [[]]]<|J ⟨I,⟨UA,I,US,UA,de _ OM⟩,I,I⟩<|W.sq<|g 0 0 []<|J UA<|W.blk<|W.lp (fun s (n:Nat)=>⟨[(0,s.s 0),(1,s.s 1),(2,s.s 2),(6,s.s 6),(7,.ref ⟨11,none,0⟩),(8,.i n)],[(11,[.own pkd ((gq xs ms key n).map bZ)])],[]⟩) (fun(n:Nat)=>n≤ms.length) (fun(n:Nat)=>ms.length - n) (0) [some 11] [] ⟨rfl,Zax,Zdv,I⟩ OM ?_
 intro n hn
 have hpl:=rx ms key hx n
 by_cases hn2:n < ms.length
 ·obtain⟨m,hm1⟩:=ak hn2
  have hmi:=hm m (List.mem_of_getElem? hm1)
  have cf:=fk m key OM
  by_cases hv:bC m∧key.size≤30
  ·have hf:=Ic hv.1 hv.2
   by_cases h3:(gq xs ms key n).length < 2000
   ·conv=>whnf
    refine W.sq<|g 12 15 []<|J UD<|W.cn<|J (fun _=>(W.skip (W.sq (W.blk (g 15 24 [.x (aK m),.call (V.s (dK m key)) [[],[]]]<|J ⟨I,I,Zdk,I,I,Zc7,I,I⟩ (g 24 30 [BT,BT,BT,BT]<|J ⟨I,I,I,Zan,Zan,Zan,ah OM,I⟩ (W.cn<|J (fun h1=>?_) fun h1=>?_))))))) (noF SI)
    replace h1:=dt h1
    simp only[LM]at h1
    refine rg [.x (aK m)]<|J ⟨I,I,I,Zdk,I,I,I,I,I,⟨UC,I⟩,Zdh,I,I⟩<|rg [.i ((n:Int) +1)]<|J Zdg ?_
    rotate_left
    replace h1:=df h1
    simp only[LM]at h1
    omega
    refine⟨n+1,[some 41],[],⟨rfl,Zax,⟨⟨rfl,⟨(congrArg (V.own _) (C7 hm1 hv.1 hv.2 h3)),I⟩⟩,I⟩,I⟩,?_,?_⟩
    rotate_left
    (dsimp only;omega)
    dsimp only
    omega
   ·conv=>whnf
    refine W.sq<|g 12 15 []<|J UD<|W.cn<|J (fun _=>(W.skip (W.sq (W.blk (g 15 24 [.x (aK m),.call (V.s (dK m key)) [[],[]]]<|J ⟨I,I,Zdk,I,I,Zc7,I,I⟩ (g 24 30 [BT,BT,BT,BT]<|J ⟨I,I,I,Zan,Zan,Zan,ah OM,I⟩ (W.cn<|J (fun h1=>?_) fun h1=>?_))))))) (noF SI)
    replace h1:=dt h1
    simp only[LM]at h1
    omega
    replace h1:=df h1
    simp only[LM]at h1
    refine W.skip<|rg [.i ((n:Int) +1)]<|J Zdg ?_
    refine⟨n+1,[some 11],[],⟨rfl,Zax,⟨⟨rfl,⟨(congrArg (V.own _) (rT hm1 (fun q=>h3 q.2.2))),I⟩⟩,I⟩,I⟩,?_,?_⟩
    rotate_left
    (dsimp only;omega)
    dsimp only
    omega
  ·rw[Ks hv]at cf
   conv=>whnf
   refine W.sq<|g 12 15 []<|J UD<|W.cn<|J (fun _=>(W.skip (W.sq (W.blk (g 15 24 [.x (aK m),.call (V.s emp) [[],[]]]<|J ⟨I,I,Zdk,I,I,Zc7,I,I⟩ (g 24 30 [BF,BF,BF,BF]<|J ⟨I,I,I,rfl,rfl,rfl,rfl,I⟩ (W.cn<|J (noT rfl) fun _=>(W.skip (rg [.i ((n:Int) +1)]<|J Zdg ?_))))))))) (noF SI)
   refine⟨n+1,[some 11],[],⟨rfl,Zax,⟨⟨rfl,⟨(congrArg (V.own _) (rT hm1 (fun q=>hv ⟨q.1,q.2.1⟩))),I⟩⟩,I⟩,I⟩,?_,?_⟩
   rotate_left
   (dsimp only;omega)
   dsimp only
   omega
 ·conv=>whnf
  refine W.sq<|g 12 15 []<|J UD<|W.cn<|J (noT SI) fun _=>W.exit<|g 7 43 []<|J UB<|RT ?_
  rw[ub,show n = ms.length by omega]
end Go.K
end
section
open Go Go.Tm Go.Proofs
namespace Go.K
abbrev cU(p:Parcel):List T:=bZ p
end Go.K
end
section
open Go Go.Tm Go.Proofs
namespace Go.K
abbrev AG:List Bool:=pkd
end Go.K
end
section
open Go Go.Tm Go.Proofs
namespace Go.K
structure World where
 plan:Plan
 key:ByteArray
 boss:Boss
 workers:List Worker
 flight:List Parcel
 forged:ByteArray
 deriving DecidableEq
abbrev FQ(x:World):V:=.agg [.t (.slc eF (x.plan.tasks.map aD)),.t (.s x.key),.t (.i x.boss.workers),.t (.b x.boss.up),.t (.i x.boss.now),.t (.i x.boss.since),.t (.i x.boss.epoch),.t (.i x.boss.given),.t (.slc [false] (x.boss.log.safe.map aq)),.t (.slc [false] (x.boss.log.loose.map aq)),.t (.slc [false] (x.boss.results.map aq)),.t (.slc ey (x.boss.jobs.map aH)),.t (.slc cz (x.boss.seats.map aI)),.t (.slc cA (x.boss.owed.map aX)),.t (.slc gQ (x.workers.map aF)),.t (.slc AG (x.flight.map cU)),.t (.s x.forged)]
abbrev bh(x:World):V:=.agg [.own eF (x.plan.tasks.map aD),.t (.s x.key),.t (.i x.boss.workers),.t (.b x.boss.up),.t (.i x.boss.now),.t (.i x.boss.since),.t (.i x.boss.epoch),.t (.i x.boss.given),.own [false] (x.boss.log.safe.map aq),.own [false] (x.boss.log.loose.map aq),.own [false] (x.boss.results.map aq),.own ey (x.boss.jobs.map aH),.own cz (x.boss.seats.map aI),.own cA (x.boss.owed.map aX),.own gQ (x.workers.map aF),.own AG (x.flight.map cU),.t (.s x.forged)]
abbrev noWorld:World:=⟨⟨[]⟩,emp,⟨0,false,0,0,0,0,⟨[],[]⟩,[],[],[],[]⟩,[],[],emp⟩
end Go.K
end
section
open Go Go.Tm Go.Proofs
namespace Go.K
theorem kB{p:Plan}(h:am p.tasks = 0):cy p:=by
 have h1:=(bM h).1
 refine⟨by omega,fun t ht=>?_⟩
 obtain⟨n,hn⟩:=List.getElem?_of_mem ht
 have h2:=(bP h hn).2.2.1
 have h3:=(bP h hn).1
 exact⟨by omega,by omega⟩
def yL(i:Nat):Worker:=⟨(i:Int) +1,1,true,0,0,0,0,0,[],emp,3⟩
def crew(n:Nat):List Worker:=(List.range n).map yL
theorem zG(n:Nat):crew n++ [yL n] = crew (n+1):=by simp[crew,List.range_succ]
theorem wd(n:Nat):(crew n).map aF++ [aF (yL n)] = (crew (n+1)).map aF:=by rw[←zG,List.map_append];rfl
theorem nq(n:Nat):(crew n).length = n:=by simp[crew]
structure NewOk (p:Plan) (key:ByteArray) (w:Int):Prop where
 plan:am p.tasks = 0
 w:1≤w∧w≤8
 key:key.size≤30
noncomputable instance (p:Plan) (key:ByteArray) (w:Int):Decidable (NewOk p key w):=Classical.propDecidable _
noncomputable def nd(p:Plan)(key:ByteArray)(w:Int):World:=if NewOk p key w then⟨p,key,aY (cq w 0 []) p,crew w.toNat,[],emp⟩else noWorld
theorem Bg{p:Plan}{key:ByteArray}{w:Int}(h:NewOk p key w):nd p key w = ⟨p,key,aY (cq w 0 []) p,crew w.toNat,[],emp⟩:=if_pos h
theorem Bh{p:Plan}{key:ByteArray}{w:Int}(h:¬NewOk p key w):nd p key w = noWorld:=if_neg h
theorem ln{p:Plan}(h:am p.tasks = 0):(aw p []).code = 0:=by
 rw[aw,if_pos ⟨h,by decide⟩,gS]
theorem ux(p:Plan)(key:ByteArray)(w:Int)(hp:cR p)(hk:key.size≤9223372036854775807):F ue [.val (bn p),.val (.s key),.val (.i w)] (bh (nd p key w)) [[],[],[]]:=by
 have cp:=cL p hp
 by_cases h:NewOk p key w
 ·rw[Bg h]
  obtain⟨h1,h2,h3⟩:=h
  rw[h1]at cp
  have hs:=kB h1
  have cr:=oQ w 0 [] p hp h2 (fun s hs=>by cases hs) (ln h1)
  refine fb ?_
  conv=>whnf
  refine g 0 0 []<|J Zdx<|W.sq<|g 11 21 [.call (V.i 0) [[]],BF,BF,.call (V.b (decide (1≤w∧w≤8))) [[],[],[]],BF,BF,BF,BF,BF,BF]<|J ⟨I,Zaj,I,I,Zde,⟨rfl,UC,I,UU,UA,ai _ _ _⟩,Zde,rfl,I,⟨nO,I⟩,⟨nO,I⟩,⟨nO,I⟩,nO,I⟩<|W.cn<|J (noT dO) fun _=>W.skip<|g 21 27 [.call (db p) [[]]]<|J ⟨I,⟨UA,I,US,UA,jU _ OM⟩,I,I,I,UQ,I⟩<|g 27 32 [.call (ay (aY (cq w 0 []) p)) [[],[]]]<|J ⟨I,I,I,Zak,I,UL,I⟩<|W.sq<|g 3 4 []<|J UA<|W.blk<|W.lp (fun s (n:Nat)=>⟨[(0,s.s 0),(1,s.s 1),(2,s.s 2),(6,s.s 6),(7,s.s 7),(8,.i (n+1)),(10,s.s 10)],[(6,[s.c 6 0,s.c 6 1,s.c 6 2,s.c 6 3,s.c 6 4,s.c 6 5,s.c 6 6,s.c 6 7,s.c 6 8,s.c 6 9,s.c 6 10,s.c 6 11,s.c 6 12,s.c 6 13,s.c 6 14,s.c 6 15,s.c 6 16]),(7,[.own eF (p.tasks.map aD),.t (.s key),.t (.i (aY (cq w 0 []) p).workers),.t (.b (aY (cq w 0 []) p).up),.t (.i (aY (cq w 0 []) p).now),.t (.i (aY (cq w 0 []) p).since),.t (.i (aY (cq w 0 []) p).epoch),.t (.i (aY (cq w 0 []) p).given),.own [false] ((aY (cq w 0 []) p).log.safe.map aq),.own [false] ((aY (cq w 0 []) p).log.loose.map aq),.own [false] ((aY (cq w 0 []) p).results.map aq),.own ey ((aY (cq w 0 []) p).jobs.map aH),.own cz ((aY (cq w 0 []) p).seats.map aI),.own cA ((aY (cq w 0 []) p).owed.map aX),.own gQ ((crew n).map aF),.own pkd [],.t (.s emp)])],[]⟩) (fun(n:Nat)=>n≤w.toNat) (fun(n:Nat)=>w.toNat - n) (0) [some 6,some 7] [] ⟨rfl,Zd3,⟨Zdf,⟨Zdf,I⟩⟩,I⟩ OM ?_
  intro n hn
  have e:=wd n
  have hcl:=nq n
  conv=>whnf
  refine W.sq<|g 32 34 []<|J UC<|W.cn<|J (fun h4=>?_) fun h4=>?_
  replace h4:=dt h4
  refine W.skip<|W.sq<|W.blk<|rg []<|J ⟨I,I,I,I,⟨UK,I⟩,Zdh,I,UA,I⟩<|rg [.i ((n:Int) +1+1)]<|J Zdg ?_
  rotate_left
  replace h4:=df h4
  refine W.exit<|g 7 45 []<|J Zdt<|RT ?_
  rotate_left
  ·refine⟨n+1,[some 6,some 7],[],⟨rfl,Zd3,⟨Zdf,⟨⟨rfl,⟨rfl,⟨rfl,⟨rfl,⟨rfl,⟨rfl,⟨rfl,⟨rfl,⟨rfl,⟨rfl,⟨rfl,⟨rfl,⟨rfl,⟨rfl,⟨rfl,⟨(congrArg (V.own _) (e)),Zad⟩⟩⟩⟩⟩⟩⟩⟩⟩⟩⟩⟩⟩⟩⟩⟩,I⟩⟩,I⟩,?_,?_⟩
   rotate_left
   (dsimp only;omega)
   dsimp only
   omega
  ·obtain rfl:n = w.toNat:=by omega
   rfl
 ·rw[Bh h]
  by_cases h1:am p.tasks = 0
  ·by_cases h2:1≤w∧w≤8
   ·have h3:¬key.size≤30:=fun q=>h ⟨h1,h2,q⟩
    refine fb ?_
    conv=>whnf
    refine g 0 0 []<|J Zdx<|W.sq<|g 11 21 [.call (V.i (am p.tasks)) [[]],BF,BF,.call (V.b (decide (1≤w∧w≤8))) [[],[],[]],BF,BF,BF,BF,BF,BF]<|J ⟨I,Zaj,I,I,⟨nO,I⟩,⟨nO,UC,I,UU,UA,ai _ _ _⟩,⟨nO,I⟩,nO,I,⟨nO,I⟩,⟨nO,I⟩,⟨nO,I⟩,nO,I⟩<|W.cn<|J (fun _=>(g 21 23 []<|J Zdt (RT ?_))) (noF tO)
    rfl
   ·refine fb ?_
    conv=>whnf
    refine g 0 0 []<|J Zdx<|W.sq<|g 11 21 [.call (V.i (am p.tasks)) [[]],BF,BF,.call (V.b (decide (1≤w∧w≤8))) [[],[],[]],BF,BF,BT,BT,BT,BT]<|J ⟨I,Zaj,I,I,⟨nO,I⟩,⟨nO,UC,I,UU,UA,ai _ _ _⟩,⟨nO,I⟩,nO,I,ah OM,ah OM,ah OM,ah OM,I⟩<|W.cn<|J (fun _=>(g 21 23 []<|J Zdt (RT ?_))) (noF rfl)
    rfl
  ·refine fb ?_
   conv=>whnf
   refine g 0 0 []<|J Zdx<|W.sq<|g 11 21 [.call (V.i (am p.tasks)) [[]],BT,BT,BT,BT,BT,BT,BT,BT]<|J ⟨I,Zaj,I,I,ah OM,ah OM,ah OM,ah OM,I,rfl,rfl,rfl,rfl,I⟩<|W.cn<|J (fun _=>(g 21 23 []<|J Zdt (RT ?_))) (noF rfl)
   rfl
end Go.K
end
section
open Go Go.Tm Go.Proofs
namespace Go.K
structure WorkOk (i:Nat) (x:Worker):Prop where
 ok:au x
 num:x.number = (i:Int) +1
def uG(ws:List Worker)(n:Nat):Prop:=∀ (m:Nat) (x:Worker),m < n→ws[m]? = some x→WorkOk m x
structure ParOk (x:Parcel):Prop where
 to:0≤x.kind∧x.kind≤8
 sent:x.frm.size≤500
 bytes:x.text.size≤500
structure WorldOk (w:World):Prop where
 plan:am w.plan.tasks = 0
 key:w.key.size≤30
 wl:1≤w.workers.length∧w.workers.length≤8
 fl:w.flight.length≤2000
 crew:uG w.workers w.workers.length
 par:∀ x∈w.flight,ParOk x
 boss:BossOk w.boss w.plan
 same:w.boss.workers = w.workers.length
noncomputable instance (w:World):Decidable (WorldOk w):=Classical.propDecidable _
structure WorldLim (w:World):Prop where
 plan:cR w.plan
 boss:BossLim w.boss
 key:w.key.size≤9223372036854775807
 wl:w.workers.length≤1048576
 wi:∀ x∈w.workers,x.inputs.length≤1048576
 fl:w.flight.length≤1048576
 fs:∀ x∈w.flight,x.frm.size≤9223372036854775807∧x.text.size≤9223372036854775807
end Go.K
end
section
open Go Go.Tm Go.Proofs
namespace Go.K
structure FinOk (w:World):Prop where
 ok:WorldOk w
 up:w.boss.up = true
 all:∀ r∈w.boss.results,¬r = emp
noncomputable instance (w:World):Decidable (FinOk w):=Classical.propDecidable _
end Go.K
end
section
open Go Go.Tm Go.Proofs
namespace Go.K
structure Inv (L:Nat) (t:Tale) (ys:List ByteArray):Prop where
 len:t.results.length = L
 fwd:∀ s∈ys,∃ e,dD s = some e∧(¬e.kind = 1→e.kind = 2∧0≤e.task∧e.task < L∧atS t.results e.task = e.text∧¬e.text = emp)
 back:∀ i:Nat,¬atS t.results (i:Int) = emp→∃ s∈ys,∃ e,dD s = some e∧¬e.kind = 1∧e.task = (i:Int)∧e.text = atS t.results (i:Int)
theorem tq{rs:List ByteArray}{k:Int}{v:ByteArray}(h0:0≤k)(h:k < rs.length):atS (rs.set k.toNat v) k = v:=by
 unfold atS;rw[List.getElem?_set_self OM];rfl
theorem kG{rs:List ByteArray}{k j:Int}{v:ByteArray}(h0:0≤k)(hj:0≤j)(h:¬j = k):atS (rs.set k.toNat v) j = atS rs j:=by
 unfold atS;rw[List.getElem?_set_ne OM]
theorem Km{ts:List Task}{t u:Tale}{s:ByteArray}{ys:List ByteArray}(hi:Inv ts.length t ys)(h:dk ts t s = some u):Inv ts.length u (ys++ [s]):=by
 obtain⟨i1,i2,i3⟩:=hi
 unfold dk at h
 cases he:dD s with
 |none=>rw[he]at h;cases h
 |some e =>
  rw[he]at h
  have hok:=iJ he
  obtain⟨o1,o2,o3⟩:=hok
  simp only at h
  by_cases hk:e.kind = 1
  ·rw[if_pos hk]at h
   split at h
   ·cases h
    refine⟨i1,fun s' hs'=>?_,fun i hi=>?_⟩
    ·rcases List.mem_append.1 hs' with hs'|hs'
     ·exact i2 s' hs'
     ·rw[List.mem_singleton.1 hs'];exact⟨e,he,fun q=>absurd hk q⟩
    ·obtain⟨s',hs',q⟩:=i3 i hi
     exact⟨s',List.mem_append_left _ hs',q⟩
   ·cases h
  ·rw[if_neg hk]at h
   split at h
   ·rename_i hc
    cases h
    obtain⟨_,c2,c3,_⟩:=hc
    have hlt:e.task < (t.results.length:Int):=by omega
    have h8:e.kind = 2∧(e.text.size:Int) = 8:=by
     rcases o3 with q|q
     ·exact absurd q.1 hk
     ·exact q
    have hne:¬e.text = emp:=fun q=>by have:=h8.2;rw[q]at this;cases this
    have c4:atS t.results e.task = emp:=c3
    refine⟨by rw[List.length_set];exact i1,fun s' hs'=>?_,fun i hi=>?_⟩
    ·rcases List.mem_append.1 hs' with hs'|hs'
     ·obtain⟨e',h1,h2⟩:=i2 s' hs'
      refine⟨e',h1,fun q=>?_⟩
      obtain⟨g0,g1,g2,g3,g4⟩:=h2 q
      have hd:¬e'.task = e.task:=fun w=>by rw[w,c4]at g3;exact g4 g3.symm
      exact⟨g0,g1,g2,by rw[kG o2.1 g1 hd];exact g3,g4⟩
     ·rw[List.mem_singleton.1 hs']
      exact⟨e,he,fun _=>⟨h8.1,o2.1,c2,tq o2.1 hlt,hne⟩⟩
    ·by_cases hd:(i:Int) = e.task
     ·refine⟨s,List.mem_append_right _ (List.mem_singleton.2 rfl),e,he,hk,hd.symm,?_⟩
      rw[hd,tq o2.1 hlt]
     ·rw[kG o2.1 OM hd]at hi ⊢
      obtain⟨s',hs',q⟩:=i3 i hi
      exact⟨s',List.mem_append_left _ hs',q⟩
   ·cases h
theorem GI{ts:List Task}:∀ {l:List ByteArray} {t u:Tale} {ys:List ByteArray},Inv ts.length t ys→ji ts (some t) l = some u→Inv ts.length u (ys++l)
 |[],t,u,ys,hi,h=>by rw[gS]at h;cases h;rw[List.append_nil];exact hi
 |s :: l,t,u,ys,hi,h=>by
  rw[nE]at h
  cases hs:dk ts t s with
  |none=>rw[hs,gG]at h;cases h
  |some v =>
   rw[hs]at h
   have:=GI (Km hi hs) h
   rw[List.append_assoc]at this;exact this
theorem PX(n:Nat)(k:Int):atS (List.replicate n emp) k = emp:=by
 unfold atS;rw[List.getElem?_replicate];split <;> rfl
theorem Kk(ts:List Task):Inv ts.length (kp ts) []:=⟨by rw[kp,List.length_replicate],fun s hs=>(by cases hs),fun i hi=>absurd (PX _ _) hi⟩
theorem yS{p:Plan}{xs:List ByteArray}(h:(aw p xs).code = 0):Inv p.tasks.length ⟨(aw p xs).epoch,(aw p xs).results⟩ xs:=by
 obtain⟨_,_,_,t,h1,h2⟩:=bR h
 have:=GI (Kk p.tasks) h1
 rw[h2];exact this
end Go.K
end
section
open Go Go.Tm Go.Proofs
namespace Go.K
def lE(w:Int)(j:Job):Job:=if j.worker = w then eS else j
def mt(l t:Int)(j:Job):Job:=if j.lease = l then⟨j.lease,j.worker,t⟩else j
def fr(m:Message):Nat:=(m.frm - 1).toNat
def qz(b:Boss)(m:Message):Prop:=m.epoch < (kM b.seats (fr m)).epoch
instance (b:Boss) (m:Message):Decidable (qz b m):=by unfold qz;infer_instance
def lF(b:Boss)(m:Message):Boss:=if qz b m then b else⟨b.workers,b.up,b.now,b.since,b.epoch,b.given,b.log,b.results,b.jobs,b.seats.set (fr m) ⟨true,m.epoch⟩,b.owed⟩
def ur(b:Boss)(m:Message):Boss:=if qz b m then b else⟨b.workers,b.up,b.now,b.since,b.epoch,b.given,b.log,b.results,b.jobs.map (lE m.frm),b.seats.set (fr m) ⟨true,m.epoch⟩,b.owed⟩
def MA(b:Boss)(m:Message):Boss:=⟨b.workers,b.up,b.now,b.since,b.epoch,b.given,b.log,b.results,b.jobs.map (mt m.lease (b.now+12)),b.seats,b.owed⟩
structure CanPut (b:Boss) (ts:List Task) (m:Message):Prop where
 res:atS b.results m.task = emp
 ready:cF b.results (mr ts m.task.toNat)
 room:b.log.safe.length+b.log.loose.length < 310
noncomputable instance (b:Boss) (ts:List Task) (m:Message):Decidable (CanPut b ts m):=Classical.propDecidable _
def lr(b:Boss)(m:Message):Boss:=⟨b.workers,b.up,b.now,b.since,b.epoch,b.given,⟨b.log.safe,b.log.loose++ [bB ⟨2,b.epoch,m.task,m.text⟩]⟩,b.results.set m.task.toNat m.text,b.jobs.set m.task.toNat eS,b.seats,b.owed⟩
noncomputable def rS(b:Boss)(ts:List Task)(m:Message):Boss:=if CanPut b ts m then lr b m else b
def yZ(b:Boss)(m:Message):Boss:=if atS b.results m.task = emp then lF b m else b
structure Owes (b:Boss) (m:Message):Prop where
 same:atS b.results m.task = m.text
 room:b.owed.length < 2000
 new:∀ o∈b.owed,¬(o.worker = m.frm∧o.lease = m.lease)
noncomputable instance (b:Boss) (m:Message):Decidable (Owes b m):=Classical.propDecidable _
noncomputable def xh(b:Boss)(m:Message):Boss:=if Owes b m then⟨b.workers,b.up,b.now,b.since,b.epoch,b.given,b.log,b.results,b.jobs,b.seats,b.owed++ [⟨m.frm,m.lease,m.task⟩]⟩else b
noncomputable def en(b:Boss)(ts:List Task)(m:Message):Boss:=xh (yZ (rS b ts m) m) m
structure ForB (b:Boss) (m:Message):Prop where
 up:b.up = true
 ok:bC m
 to:m.to = 0
 frm:m.frm≤b.workers
noncomputable instance (b:Boss) (m:Message):Decidable (ForB b m):=Classical.propDecidable _
noncomputable def hJ(b:Boss)(ts:List Task)(m:Message):Boss :=
 if ForB b m then
  (if m.kind = 5 then ur b m else if m.kind = 2 then MA b m else if m.kind = 3 then(if m.task < ts.length then en b ts m else b)else b)
 else b
theorem A7{b:Boss}{ts:List Task}{m:Message}(h:¬ForB b m):hJ b ts m = b:=if_neg h
theorem nB{b:Boss}{ts:List Task}{m:Message}(h:ForB b m)(hk:m.kind = 5):hJ b ts m = ur b m:=by rw[hJ,if_pos h,if_pos hk]
theorem nC{b:Boss}{ts:List Task}{m:Message}(h:ForB b m)(hk:m.kind = 2):hJ b ts m = MA b m:=by rw[hJ,if_pos h,if_neg OM,if_pos hk]
theorem rk{b:Boss}{ts:List Task}{m:Message}(h:ForB b m)(hk:m.kind = 3)(ht:m.task < ts.length):hJ b ts m = en b ts m:=by rw[hJ,if_pos h,if_neg OM,if_neg OM,if_pos hk,if_pos ht]
theorem rl{b:Boss}{ts:List Task}{m:Message}(h:ForB b m)(hk:m.kind = 3)(ht:¬m.task < ts.length):hJ b ts m = b:=by rw[hJ,if_pos h,if_neg OM,if_neg OM,if_pos hk,if_neg ht]
theorem nn{b:Boss}{m:Message}(h:ForB b m):(m.kind = 2∨m.kind = 3∨m.kind = 5)∧(1≤m.frm∧m.frm≤8)∧(1≤m.epoch∧m.epoch≤300):=by
 obtain⟨h1,h2⟩:=h.ok
 have h0:=h.to
 rcases h2 with q|q|q|q|q
 ·have:=q.2.2.1;omega
 ·exact⟨.inl q.1,q.2.2.1,h1⟩
 ·exact⟨.inr (.inl q.1),q.2.2.1,h1⟩
 ·have:=q.2.2.1;omega
 ·exact⟨.inr (.inr q.1),q.2.2.1,h1⟩
theorem AR{b:Boss}{m:Message}(h:ForB b m)(hk:m.kind = 3):(1≤m.lease∧m.lease≤300000000)∧(0≤m.task∧m.task≤39)∧(m.text.size:Int) = 8:=by
 obtain⟨h1,h2⟩:=h.ok
 rcases h2 with q|q|q|q|q
 ·have:=q.1;omega
 ·have:=q.1;omega
 ·exact⟨q.2.2.2.1,q.2.2.2.2.1,q.2.2.2.2.2.1⟩
 ·have:=q.1;omega
 ·have:=q.1;omega
noncomputable def yN(b:Boss)(p:Plan)(m:Message):Led:=if BossOk b p then⟨hJ b p.tasks m,[]⟩else Bf
theorem rO{b:Boss}{p:Plan}{m:Message}(h:BossOk b p):yN b p m = ⟨hJ b p.tasks m,[]⟩:=if_pos h
theorem KM{b:Boss}{p:Plan}{m:Message}(h:¬BossOk b p):yN b p m = Bf:=if_neg h
end Go.K
end
section
open Go Go.Tm Go.Proofs
namespace Go.K
theorem PK{ep now given workers:Int}{rs:List ByteArray}{ts:List Task}{js:List Job}{k:Int}{tx:ByteArray}(h:JL ep now given workers rs ts js)(h0:0≤k)(hk:k < rs.length)(hj:k < js.length)(ht:¬tx = emp):JL ep now given workers (rs.set k.toNat tx) ts (js.set k.toNat eS):=by
 have g:∀ {i:Nat} {x:Job},(js.set k.toNat eS)[i]? = some x→¬x.lease = 0→¬(i:Int) = k∧js[i]? = some x:=fun{i x} hx hz=>by
  by_cases e:i = k.toNat
  ·subst e
   rw[List.getElem?_set_self OM]at hx
   rw[←Option.some.inj hx]at hz;exact absurd rfl hz
  ·rw[List.getElem?_set_ne (fun q=>e q.symm)]at hx
   exact⟨by omega,hx⟩
 have hat:∀ i:Int,0≤i→¬i = k→atS (rs.set k.toNat tx) i = atS rs i:=fun i hi e=>kG h0 hi e
 refine⟨fun i x hx hz=>?_,fun i x hx hz=>h.lease i x (g hx hz).2 hz,fun i x hx hz=>h.worker i x (g hx hz).2 hz,fun i x hx hz=>h.til i x (g hx hz).2 hz,fun i x hx hz=>?_,fun i x hx hz=>?_,fun i m x y him hx hy hz e=>?_⟩
 ·by_cases e:i = k.toNat
  ·subst e
   rw[List.getElem?_set_self OM]at hx
   rw[←Option.some.inj hx];exact⟨rfl,rfl⟩
  ·rw[List.getElem?_set_ne (fun q=>e q.symm)]at hx
   exact h.zero i x hx hz
 ·rw[hat i OM (g hx hz).1];exact h.res i x (g hx hz).2 hz
 ·intro d hd q
  have hr:=h.ready i x (g hx hz).2 hz d hd
  by_cases e:d.toNat = k.toNat
  ·rw[e,List.getElem?_set_self OM]at q;exact ht q
  ·rw[List.getElem?_set_ne (fun w=>e w.symm)]at q;exact hr q
 ·have hzx:¬x.lease = 0:=fun w=>hz (by rw[←e];exact w)
  exact h.once i m x y him (g hx hzx).2 (g hy hz).2 hz e
theorem EZ{b:Boss}{p:Plan}{m:Message}(hv:BossOk b p)(hup:b.up = true)(he:1≤m.epoch∧m.epoch≤300):BossOk (lF b m) p:=by
 unfold lF;split
 ·exact hv
 ·obtain⟨u1,u2,u3,u4,u5,u6,u7,u9,u11,u12,u13,u14⟩:=hv.up hup
  refine⟨hv.plan,hv.workers,hv.now,hv.code,fun _=>?_,fun e=>by rw[show b.up = false from e]at hup;cases hup⟩
  refine⟨u1,u2,u3,u4,by show((b.seats.set _ _).length:Int) = _;rw[List.length_set];exact u5,u6,u7,u9,u11,yM (show JL b.epoch b.now b.given b.workers b.results p.tasks b.jobs from Bl u12),fun s hs=>?_,fun o ho=>by obtain⟨a1,a2,a3,a4⟩:=u14 o ho;exact⟨a1,a2,a3,a4⟩⟩
  rcases List.mem_or_eq_of_mem_set hs with hs|hs
  ·exact u13 s hs
  ·rw[hs];exact⟨by dsimp only;omega,by dsimp only;omega⟩
theorem ET{b:Boss}{p:Plan}{m:Message}(hv:BossOk b p)(hup:b.up = true)(he:1≤m.epoch∧m.epoch≤300):BossOk (ur b m) p:=by
 unfold ur;split
 ·exact hv
 ·obtain⟨u1,u2,u3,u4,u5,u6,u7,u9,u11,u12,u13,u14⟩:=hv.up hup
  refine⟨hv.plan,hv.workers,hv.now,hv.code,fun _=>?_,fun e=>by rw[show b.up = false from e]at hup;cases hup⟩
  refine⟨u1,u2,u3,by show(b.jobs.map _).length = _;rw[List.length_map];exact u4,by show((b.seats.set _ _).length:Int) = _;rw[List.length_set];exact u5,u6,u7,u9,u11,yM (NI (Bl u12)),fun s hs=>?_,fun o ho=>by obtain⟨a1,a2,a3,a4⟩:=u14 o ho;exact⟨a1,a2,a3,a4⟩⟩
  rcases List.mem_or_eq_of_mem_set hs with hs|hs
  ·exact u13 s hs
  ·rw[hs];exact⟨by dsimp only;omega,by dsimp only;omega⟩
theorem Fh{b:Boss}{p:Plan}{m:Message}(hv:BossOk b p)(hup:b.up = true)(hl:1≤m.lease):BossOk (MA b m) p:=by
 obtain⟨u1,u2,u3,u4,u5,u6,u7,u9,u11,u12,u13,u14⟩:=hv.up hup
 refine⟨hv.plan,hv.workers,hv.now,hv.code,fun _=>?_,fun e=>by rw[show b.up = false from e]at hup;cases hup⟩
 exact⟨u1,u2,u3,by show(b.jobs.map _).length = _;rw[List.length_map];exact u4,u5,u6,u7,u9,u11,yM (NJ hl (Bl u12)),u13,fun o ho=>by obtain⟨a1,a2,a3,a4⟩:=u14 o ho;exact⟨a1,a2,a3,a4⟩⟩
theorem Ex{b:Boss}{p:Plan}{m:Message}(hv:BossOk b p)(hup:b.up = true)(ht:0≤m.task∧m.task < p.tasks.length)(hx:(m.text.size:Int) = 8):BossOk (rS b p.tasks m) p:=by
 unfold rS;split
 ·rename_i hp
  obtain⟨u1,u2,u3,u4,u5,u6,u7,u9,u11,u12,u13,u14⟩:=hv.up hup
  obtain⟨c1,c2,c3⟩:=hp
  have hne:¬m.text = emp:=fun q=>by rw[q]at hx;cases hx
  obtain⟨t,ht0⟩:=ak (xs:=p.tasks) (n:=m.task.toNat) OM
  rw[dn ht0]at c2
  have hc:(aw p (b.log.safe++b.log.loose)).code = 0:=hv.code
  have h3:=(eu hc).2
  have hpl:=(bM hv.plan).1
  have hok:Entry.ok ⟨2,b.epoch,m.task,m.text⟩:=⟨⟨u2,by show b.epoch≤300;rw[u1];exact h3⟩,⟨ht.1,by show m.task≤39;omega⟩,.inr ⟨rfl,hx⟩⟩
  have e:=BO (p:=p) (xs:=b.log.safe++b.log.loose) (e:=⟨2,b.epoch,m.task,m.text⟩) hc (by rw[List.length_append];exact c3) hok (by show ¬(2:Int) = 1;omega) u1 ht0 ht.2 (by rw[←show b.results = (aw p (b.log.safe++b.log.loose)).results from u6];exact c1) (by rw[←show b.results = (aw p (b.log.safe++b.log.loose)).results from u6];exact c2)
  have es:bU (lr b m) p = ⟨0,(bU b p).epoch,(bU b p).results.set m.task.toNat m.text⟩:=by
   show aw p (b.log.safe++ (b.log.loose++ [bB _])) = _
   rw[←List.append_assoc,e];rfl
  refine⟨hv.plan,hv.workers,hv.now,by rw[es],fun _=>?_,fun e=>by rw[show b.up = false from e]at hup;cases hup⟩
  rw[es]
  refine⟨u1,u2,by show(b.results.set _ _).length = _;rw[List.length_set];exact u3,by show(b.jobs.set _ _).length = _;rw[List.length_set];exact u4,u5,by show b.results.set _ _ = _;rw[u6],u7,u9,u11,yM (PK (Bl u12) ht.1 OM OM hne),u13,fun o ho=>?_⟩
  obtain⟨a1,a2,a3,a4⟩:=u14 o ho
  refine⟨a1,a2,a3,fun q=>?_⟩
  change atS (b.results.set m.task.toNat m.text) o.task = emp at q
  by_cases e:o.task = m.task
  ·rw[e,tq ht.1 OM]at q;exact hne q
  ·rw[kG ht.1 a3.1 e]at q;exact a4 q
 ·exact hv
theorem Ev{b:Boss}{p:Plan}{m:Message}(hv:BossOk b p)(hup:b.up = true)(hf:1≤m.frm∧m.frm≤b.workers)(hl:1≤m.lease∧m.lease≤300000000)(ht:0≤m.task∧m.task < p.tasks.length)(hx:(m.text.size:Int) = 8):BossOk (xh b m) p:=by
 unfold xh;split
 ·rename_i ho
  obtain⟨u1,u2,u3,u4,u5,u6,u7,u9,u11,u12,u13,u14⟩:=hv.up hup
  have hne:¬m.text = emp:=fun q=>by rw[q]at hx;cases hx
  have hr:=ho.room
  refine⟨hv.plan,hv.workers,hv.now,hv.code,fun _=>?_,fun e=>by rw[show b.up = false from e]at hup;cases hup⟩
  refine⟨u1,u2,u3,u4,u5,u6,u7,u9,by show(b.owed++ [_]).length≤2000;rw[List.length_append,List.length_singleton];omega,yM (show JL b.epoch b.now b.given b.workers b.results p.tasks b.jobs from Bl u12),u13,fun o ho2=>?_⟩
  rcases List.mem_append.1 ho2 with ho2|ho2
  ·obtain⟨a1,a2,a3,a4⟩:=u14 o ho2;exact⟨a1,a2,a3,a4⟩
  ·rw[List.mem_singleton.1 ho2]
   exact⟨hf,hl,⟨ht.1,by dsimp only;omega⟩,by show ¬atS b.results m.task = emp;rw[ho.same];exact hne⟩
 ·exact hv
theorem Gh{b:Boss}{ts:List Task}{m:Message}:(rS b ts m).up = b.up∧(rS b ts m).workers = b.workers:=by unfold rS;split <;> exact⟨rfl,rfl⟩
theorem Gg{b:Boss}{m:Message}:(yZ b m).up = b.up∧(yZ b m).workers = b.workers:=by
 unfold yZ;split
 ·unfold lF;split <;> exact⟨rfl,rfl⟩
 ·exact⟨rfl,rfl⟩
theorem Ej{b:Boss}{p:Plan}(m:Message)(hv:BossOk b p):BossOk (hJ b p.tasks m) p:=by
 by_cases hf:ForB b m
 ·obtain⟨hkd,⟨f1,f2⟩,he⟩:=nn hf
  have hup:=hf.up
  rcases hkd with hk|hk|hk
  ·rw[nC hf hk]
   refine Fh hv hup ?_
   rcases hf.ok.2 with q|q|q|q|q
   ·have:=q.1;omega
   ·exact q.2.2.2.1.1
   ·have:=q.1;omega
   ·have:=q.1;omega
   ·have:=q.1;omega
  ·by_cases ht:m.task < p.tasks.length
   ·rw[rk hf hk ht]
    obtain⟨r1,⟨r2,_⟩,r4⟩:=AR hf hk
    have v1:=Ex hv hup ⟨r2,ht⟩ r4
    obtain⟨w1,w2⟩:=Gh (b:=b) (ts:=p.tasks) (m:=m)
    have v2:BossOk (yZ (rS b p.tasks m) m) p:=by
     unfold yZ;split
     ·exact EZ v1 (by rw[w1];exact hup) he
     ·exact v1
    obtain⟨w3,w4⟩:=Gg (b:=rS b p.tasks m) (m:=m)
    exact Ev v2 (by rw[w3,w1];exact hup) ⟨f1,by rw[w4,w2];exact hf.frm⟩ r1 ⟨r2,ht⟩ r4
   ·rw[rl hf hk ht];exact hv
  ·rw[nB hf hk];exact ET hv hup he
 ·rw[A7 hf];exact hv
end Go.K
end
section
open Go Go.Tm Go.Proofs
namespace Go.K
def bK(w:Worker)(ts:List Task)(m:Message):Prop:=m.kind = 1∧(∃ t,ts[m.task.toNat]? = some t∧m.inputs.length = t.deps.length)∧(w.state = 0∨w.lease < m.lease)
def bQ(w:Worker)(m:Message):Prop:=m.kind = 4∧w.state = 2∧w.lease = m.lease
def kr(w:Worker)(m:Message):Prop:=w.up = true∧bC m∧m.to = w.number
def iO(ts:List Task)(k:Int):Int:=((ts[k.toNat]?).map Task.cost).getD 0
open Classical in
noncomputable def kq(w:Worker)(ts:List Task)(m:Message):Worker :=
 if kr w m then
  if bK w ts m then⟨w.number,w.epoch,true,1,m.lease,m.task,iO ts m.task,iO ts m.task,m.inputs,emp,0⟩
  else if bQ w m then⟨w.number,w.epoch,w.up,0,0,0,0,0,[],emp,3⟩else w
 else w
abbrev Nd(x:Worker):V:=.agg [.t (.i x.number),.t (.i x.epoch),.t (.b x.up),.t (.i x.state),.t (.i x.lease),.t (.i x.task),.t (.i x.cost),.t (.i x.left),.t .hole,.t (.s x.text),.t (.i x.since)]
theorem lL(w:Worker)(s:Int):F om [.val (Nd w),.val (.i s)] (aE ⟨w.number,w.epoch,w.up,0,0,0,0,0,[],emp,s⟩) [[],[]]:=by
 refine oB ?_
 conv=>whnf
 refine g 0 0 []<|J Zee<|g 5 13 []<|J ⟨I,I,I,I,I,I,I,I,UK,I⟩<|RT ?_
 rfl
theorem j5{w:Worker}{ts:List Task}{m:Message}(h:¬kr w m):kq w ts m = w:=if_neg h
theorem lk{w:Worker}{ts:List Task}{m:Message}(h:kr w m)(h1:bK w ts m):kq w ts m = ⟨w.number,w.epoch,true,1,m.lease,m.task,iO ts m.task,iO ts m.task,m.inputs,emp,0⟩:=by rw[kq,if_pos h,if_pos h1]
theorem tA{w:Worker}{ts:List Task}{m:Message}(h:kr w m)(h1:bK w ts m):kq w ts m = ⟨w.number,w.epoch,w.up,1,m.lease,m.task,iO ts m.task,iO ts m.task,m.inputs,emp,0⟩:=by rw[lk h h1,h.1]
theorem mE{w:Worker}{ts:List Task}{m:Message}(h:kr w m)(h1:bQ w m):kq w ts m = ⟨w.number,w.epoch,w.up,0,0,0,0,0,[],emp,3⟩:=by
 rw[kq,if_pos h,if_neg (fun q=>by have:=q.1;have:=h1.1;omega),if_pos h1]
theorem dj{w:Worker}{ts:List Task}{m:Message}(h1:¬bK w ts m)(h2:¬bQ w m):kq w ts m = w:=by
 by_cases h:kr w m
 ·rw[kq,if_pos h,if_neg h1,if_neg h2]
 ·exact j5 h
theorem we{ts:List Task}{k:Int}{t:Task}(h:ts[k.toNat]? = some t):iO ts k = t.cost:=by unfold iO;rw[h];rfl
noncomputable def ua(w:Worker)(p:Plan)(m:Message):Acted:=if au w∧am p.tasks = 0 then⟨kq w p.tasks m,[]⟩else vN
theorem CI{w:Worker}{p:Plan}{m:Message}(h:¬(au w∧am p.tasks = 0)):ua w p m = vN:=if_neg h
theorem dR{w:Worker}{p:Plan}{m:Message}(h:au w)(h2:am p.tasks = 0):ua w p m = ⟨kq w p.tasks m,[]⟩:=if_pos ⟨h,h2⟩
theorem qq(w:Worker)(p:Plan)(m:Message)(hp:cR p)(hll:w.inputs.length≤1048576)(hm:m.inputs.length≤9223372036854775806):F qa [.val (eC w),.val (bn p),.val (dI m)] (re (ua w p m)) [[],[],[]]:=by
 have cp:=cL p hp
 by_cases h:au w
 ·by_cases hc:am p.tasks = 0
  ·rw[hc]at cp
   have cm:=mW m hm
   have cf3:=lL w 3
   have cf0:=lL w 0
   by_cases hup:w.up = true
   ·by_cases hok:bC m
    ·rw[decide_eq_true hok]at cm
     have hi:=(cY hok).1
     obtain⟨_,_,_,_,⟨r1,r2⟩,⟨r3,r4⟩⟩:=eR hok
     by_cases hto:m.to = w.number
     ·have hf:kr w m:=⟨hup,hok,hto⟩
      by_cases hk:m.kind = 1
      ·have nt:¬bQ w m:=fun q=>by have:=q.1;omega
       by_cases ht:m.task < p.tasks.length
       ·obtain⟨t,ht2⟩:=ak (xs:=p.tasks) (n:=m.task.toNat) OM
        obtain⟨_,_,g3,_⟩:=bP hc ht2
        by_cases hd:m.inputs.length = t.deps.length
        ·by_cases hs:w.state = 0
         ·have ho:bK w p.tasks m:=⟨hk,⟨t,ht2,hd⟩,.inl hs⟩
          refine aM ?_
          conv=>whnf
          refine g 1 3 []<|J Zbt<|W.sq<|g 12 17 [.call (V.b (decide (au w))) [[]],BF,BF,.call (V.i 0) [[]],BF,BF]<|J ⟨I,⟨UA,I,⟨UK,I⟩,UA,ar _ OM⟩,I,I,⟨nO,I⟩,Zbi,⟨nO,I⟩,nO,I⟩<|W.cn<|J (noT rfl) fun _=>W.skip<|g 17 21 [.call (aE w) [[]]]<|J ⟨I,⟨UA,I,⟨UK,I⟩,UA,aC _ OM⟩,I,UK,I⟩<|g 21 23 []<|J Zcm<|W.sq<|g 23 37 [BF,BF,.call VT [[]],BF,BF,BF,BF,BF,BF,BF,BF]<|J Zaf<|W.cn<|J (noT nO) fun _=>W.skip<|W.sq ?_
          refine g 37 53 [BF,BF,BF,BF,BF,BF,BF,BF,BF,BF]<|J Zcf<|W.cn<|J (noT rfl) fun _=>W.skip<|W.sq<|gd 10 81 [[],[],[],[],[BF],[BF],[BF],[BF],[BF],[BF],[BF],[],[BF],[BF],[BF],[BF],[BF],[BF],[BF],[BF,.x (aD t)],[BF],[BF],[BF],[BF],[BF]] ?_
          conv=>whnf
          refine J Zat<|J KR<|W.cn<|J (noT SI) fun _=>W.skip<|W.sq<|g 81 92 [BF,BF,BF,BF,BF,BF]<|J ⟨I,I,I,I,nO,nO,nO,nO,nO,nO,I⟩<|W.cn<|J (noT rfl) fun _=>W.skip<|g 92 96 [.call (aE {number:=w.number,epoch:=w.epoch,up:=w.up,state:=0,lease:=0,task:=0,cost:=0,left:=0,inputs:=[],text:=emp,since:=0:Worker}) [[],[]]]<|J ⟨I,⟨UB,I,⟨UK,UA,I⟩,UA,AS⟩,I,UK,I⟩<|g 7 9 []<|J UV<|g 98 100 []<|J UW<|g 100 103 []<|J UW<|g 103 111 [.x (aD t)]<|J ⟨I,I,I,I,⟨AS,xA⟩,I,I,I,UA,I⟩ ?_
          refine g 111 114 []<|J UW<|g 114 119 []<|J Zb9<|g 0 6 []<|J ⟨I,I,UL,I⟩<|RT ?_
          rw[dR h hc,tA hf ho,we ht2]
          all_goals rfl
         ·by_cases hl:w.lease < m.lease
          ·have ho:bK w p.tasks m:=⟨hk,⟨t,ht2,hd⟩,.inr hl⟩
           refine aM ?_
           conv=>whnf
           refine g 1 3 []<|J Zbt<|W.sq<|g 12 17 [.call (V.b (decide (au w))) [[]],BF,BF,.call (V.i 0) [[]],BF,BF]<|J ⟨I,⟨UA,I,⟨UK,I⟩,UA,ar _ OM⟩,I,I,⟨nO,I⟩,Zbi,⟨nO,I⟩,nO,I⟩<|W.cn<|J (noT rfl) fun _=>W.skip<|g 17 21 [.call (aE w) [[]]]<|J ⟨I,⟨UA,I,⟨UK,I⟩,UA,aC _ OM⟩,I,UK,I⟩<|g 21 23 []<|J Zcm<|W.sq<|g 23 37 [BF,BF,.call VT [[]],BF,BF,BF,BF,BF,BF,BF,BF]<|J Zaf<|W.cn<|J (noT nO) fun _=>W.skip<|W.sq ?_
           refine g 37 53 [BF,BF,BF,BF,BF,BF,BF,BF,BF,BF]<|J Zcf<|W.cn<|J (noT rfl) fun _=>W.skip<|W.sq<|gd 10 81 [[],[],[],[],[BF],[BF],[BF],[BF],[BF],[BF],[BF],[],[BF],[BF],[BF],[BF],[BF],[BF],[BF],[BF,.x (aD t)],[BF],[BF],[BF],[BF],[BF]] ?_
           conv=>whnf
           refine J Zat<|J KR<|W.cn<|J (noT SI) fun _=>W.skip<|W.sq<|g 81 92 [BT,BT,BT,BT,BT,BT]<|J ⟨I,I,I,I,Zan,Zan,Zan,Zan,Zan,ah OM,I⟩<|W.cn<|J (noT dO) fun _=>W.skip<|g 92 96 [.call (aE {number:=w.number,epoch:=w.epoch,up:=w.up,state:=0,lease:=0,task:=0,cost:=0,left:=0,inputs:=[],text:=emp,since:=0:Worker}) [[],[]]]<|J ⟨I,⟨UB,I,⟨UK,UA,I⟩,UA,AS⟩,I,UK,I⟩<|g 7 9 []<|J UV<|g 98 100 []<|J UW<|g 100 103 []<|J UW<|g 103 111 [.x (aD t)]<|J ⟨I,I,I,I,⟨AS,xA⟩,I,I,I,UA,I⟩ ?_
           refine g 111 114 []<|J UW<|g 114 119 []<|J Zb9<|g 0 6 []<|J ⟨I,I,UL,I⟩<|RT ?_
           rw[dR h hc,tA hf ho,we ht2]
           all_goals rfl
          ·have no:¬bK w p.tasks m:=fun q=>by have:=q.2.2;omega
           refine aM ?_
           conv=>whnf
           refine g 1 3 []<|J Zbt<|W.sq<|g 12 17 [.call (V.b (decide (au w))) [[]],BF,BF,.call (V.i 0) [[]],BF,BF]<|J ⟨I,⟨UA,I,⟨UK,I⟩,UA,ar _ OM⟩,I,I,⟨nO,I⟩,Zbi,⟨nO,I⟩,nO,I⟩<|W.cn<|J (noT rfl) fun _=>W.skip<|g 17 21 [.call (aE w) [[]]]<|J ⟨I,⟨UA,I,⟨UK,I⟩,UA,aC _ OM⟩,I,UK,I⟩<|g 21 23 []<|J Zcm<|W.sq<|g 23 37 [BF,BF,.call VT [[]],BF,BF,BF,BF,BF,BF,BF,BF]<|J Zaf<|W.cn<|J (noT nO) fun _=>W.skip<|W.sq ?_
           refine g 37 53 [BF,BF,BF,BF,BF,BF,BF,BF,BF,BF]<|J Zcf<|W.cn<|J (noT rfl) fun _=>W.skip<|W.sq<|gd 10 81 [[],[],[],[],[BF],[BF],[BF],[BF],[BF],[BF],[BF],[],[BF],[BF],[BF],[BF],[BF],[BF],[BF],[BF,.x (aD t)],[BF],[BF],[BF],[BF],[BF]] ?_
           conv=>whnf
           refine J Zat<|J KR<|W.cn<|J (noT SI) fun _=>W.skip<|W.sq<|g 81 92 [BT,BT,BT,BT,BT,BT]<|J ⟨I,I,I,I,Zan,Zan,Zan,Zan,Zan,ah OM,I⟩<|W.cn<|J (fun _=>(g 8 94 []<|J Zdi (RT ?_))) (noF tO)
           rw[dR h hc,dj no nt];all_goals rfl
        ·have no:¬bK w p.tasks m:=fun q=>by obtain⟨t2,h2,h3⟩:=q.2.1;rw[ht2]at h2;cases h2;exact hd h3
         refine aM ?_
         conv=>whnf
         refine g 1 3 []<|J Zbt<|W.sq<|g 12 17 [.call (V.b (decide (au w))) [[]],BF,BF,.call (V.i 0) [[]],BF,BF]<|J ⟨I,⟨UA,I,⟨UK,I⟩,UA,ar _ OM⟩,I,I,⟨nO,I⟩,Zbi,⟨nO,I⟩,nO,I⟩<|W.cn<|J (noT rfl) fun _=>W.skip<|g 17 21 [.call (aE w) [[]]]<|J ⟨I,⟨UA,I,⟨UK,I⟩,UA,aC _ OM⟩,I,UK,I⟩<|g 21 23 []<|J Zcm<|W.sq<|g 23 37 [BF,BF,.call VT [[]],BF,BF,BF,BF,BF,BF,BF,BF]<|J Zaf<|W.cn<|J (noT nO) fun _=>W.skip<|W.sq ?_
         refine g 37 53 [BF,BF,BF,BF,BF,BF,BF,BF,BF,BF]<|J Zcf<|W.cn<|J (noT rfl) fun _=>W.skip<|W.sq<|gd 10 81 [[],[],[],[],[BF],[BF],[BF],[BF],[BF],[BF],[BF],[],[BF],[BF],[BF],[BF],[BF],[BF],[BF],[BF,.x (aD t)],[BF],[BF],[BF],[BF],[BF]] ?_
         conv=>whnf
         refine J Zat<|J KR<|W.cn<|J (fun h1=>?_) fun h1=>?_
         replace h1:=ndt h1
         simp only[LM]at h1
         refine g 81 83 []<|J Zdi<|RT ?_
         rotate_left
         replace h1:=ndf h1
         simp only[LM]at h1
         omega
         rw[dR h hc,dj no nt];all_goals rfl
       ·have no:¬bK w p.tasks m:=fun q=>by obtain⟨t2,h2,h3⟩:=q.2.1;have:=(List.getElem?_eq_some_iff.1 h2).1;omega
        refine aM ?_
        conv=>whnf
        refine g 1 3 []<|J Zbt<|W.sq<|g 12 17 [.call (V.b (decide (au w))) [[]],BF,BF,.call (V.i 0) [[]],BF,BF]<|J ⟨I,⟨UA,I,⟨UK,I⟩,UA,ar _ OM⟩,I,I,⟨nO,I⟩,Zbi,⟨nO,I⟩,nO,I⟩<|W.cn<|J (noT rfl) fun _=>W.skip<|g 17 21 [.call (aE w) [[]]]<|J ⟨I,⟨UA,I,⟨UK,I⟩,UA,aC _ OM⟩,I,UK,I⟩<|g 21 23 []<|J Zcm<|W.sq<|g 23 37 [BF,BF,.call VT [[]],BF,BF,BF,BF,BF,BF,BF,BF]<|J Zaf<|W.cn<|J (noT nO) fun _=>W.skip<|W.sq ?_
        refine g 37 53 [BF,BF,BF,BF,BF,BF,BF,BF,BF,BF]<|J Zcf<|W.cn<|J (noT rfl) fun _=>W.skip<|W.sq<|gd 10 81 [[],[],[],[],[BF],[BF],[BF],[BF],[BF],[BF],[BF],[],[BT],[BT],[BT],[BT],[BT],[BT],[BT],[BT],[BT],[BT],[BT],[BT],[BT]] ?_
        conv=>whnf
        refine J ⟨I,I,I,I,⟨nO,I⟩,⟨nO,I⟩,⟨nO,I⟩,⟨nO,I⟩,⟨nO,I⟩,⟨nO,I⟩,nO,I,(by simp_all),(by simp_all),(by simp_all),(by simp_all),(by simp_all),(by simp_all),(by simp_all),(by simp_all),(by simp_all),(by simp_all),(by simp_all),(by simp_all),(by simp_all),I⟩<|J KR<|W.cn<|J (fun _=>(g 81 83 []<|J Zdi (RT ?_))) (noF rfl)
        rw[dR h hc,dj no nt];all_goals rfl
      ·have no:¬bK w p.tasks m:=fun q=>hk q.1
       by_cases hk4:m.kind = 4
       ·by_cases hs:w.state = 2
        ·by_cases hl:w.lease = m.lease
         ·have yt:bQ w m:=⟨hk4,hs,hl⟩
          refine aM ?_
          conv=>whnf
          refine g 1 3 []<|J Zbt<|W.sq<|g 12 17 [.call (V.b (decide (au w))) [[]],BF,BF,.call (V.i 0) [[]],BF,BF]<|J ⟨I,⟨UA,I,⟨UK,I⟩,UA,ar _ OM⟩,I,I,⟨nO,I⟩,Zbi,⟨nO,I⟩,nO,I⟩<|W.cn<|J (noT rfl) fun _=>W.skip<|g 17 21 [.call (aE w) [[]]]<|J ⟨I,⟨UA,I,⟨UK,I⟩,UA,aC _ OM⟩,I,UK,I⟩<|g 21 23 []<|J Zcm<|W.sq<|g 23 37 [BF,BF,.call VT [[]],BF,BF,BF,BF,BF,BF,BF,BF]<|J Zaf<|W.cn<|J (noT nO) fun _=>W.skip<|W.sq ?_
          refine g 37 53 [BT,BT,BT,BT,BT,BT,BT,BT,BT,BT]<|J ⟨I,I,I,I,⟨tO,I⟩,⟨tO,I⟩,⟨tO,I⟩,tO,I,⟨tO,I⟩,⟨tO,I⟩,⟨tO,I⟩,⟨tO,I⟩,⟨tO,I⟩,tO,I⟩<|W.cn<|J (fun _=>(g 53 57 [.call (aE {number:=w.number,epoch:=w.epoch,up:=w.up,state:=0,lease:=0,task:=0,cost:=0,left:=0,inputs:=[],text:=emp,since:=3:Worker}) [[],[]]]<|J ⟨I,⟨UB,I,⟨UK,UA,I⟩,UA,AS⟩,I,UL,I⟩ (RT ?_))) (noF tO)
          rw[dR h hc,mE hf yt]
          all_goals rfl
         ·have nt:¬bQ w m:=fun q=>hl q.2.2
          refine aM ?_
          conv=>whnf
          refine g 1 3 []<|J Zbt<|W.sq<|g 12 17 [.call (V.b (decide (au w))) [[]],BF,BF,.call (V.i 0) [[]],BF,BF]<|J ⟨I,⟨UA,I,⟨UK,I⟩,UA,ar _ OM⟩,I,I,⟨nO,I⟩,Zbi,⟨nO,I⟩,nO,I⟩<|W.cn<|J (noT rfl) fun _=>W.skip<|g 17 21 [.call (aE w) [[]]]<|J ⟨I,⟨UA,I,⟨UK,I⟩,UA,aC _ OM⟩,I,UK,I⟩<|g 21 23 []<|J Zcm<|W.sq<|g 23 37 [BF,BF,.call VT [[]],BF,BF,BF,BF,BF,BF,BF,BF]<|J Zaf<|W.cn<|J (noT nO) fun _=>W.skip<|W.sq ?_
          refine g 37 53 [BT,BT,BT,BT,BT,BT,BT,BT,BT,BT]<|J ⟨I,I,I,I,⟨tO,I⟩,⟨tO,I⟩,⟨tO,I⟩,tO,I,⟨tO,I⟩,⟨tO,I⟩,⟨tO,I⟩,⟨tO,I⟩,⟨tO,I⟩,tO,I⟩<|W.cn<|J (noT dO) fun _=>W.skip<|W.sq<|gd 10 81 [[],[],[],[],[BT],[BT],[BT],[BT],[BT],[BT],[BT],[],[BT],[BT],[BT],[BT],[BT],[BT],[BT],[BT],[BT],[BT],[BT],[BT],[BT]] ?_
          conv=>whnf
          refine J Zbw<|J KR<|W.cn<|J (fun _=>(g 81 83 []<|J Zdi (RT ?_))) (noF rfl)
          rw[dR h hc,dj no nt];all_goals rfl
        ·have nt:¬bQ w m:=fun q=>hs q.2.1
         refine aM ?_
         conv=>whnf
         refine g 1 3 []<|J Zbt<|W.sq<|g 12 17 [.call (V.b (decide (au w))) [[]],BF,BF,.call (V.i 0) [[]],BF,BF]<|J ⟨I,⟨UA,I,⟨UK,I⟩,UA,ar _ OM⟩,I,I,⟨nO,I⟩,Zbi,⟨nO,I⟩,nO,I⟩<|W.cn<|J (noT rfl) fun _=>W.skip<|g 17 21 [.call (aE w) [[]]]<|J ⟨I,⟨UA,I,⟨UK,I⟩,UA,aC _ OM⟩,I,UK,I⟩<|g 21 23 []<|J Zcm<|W.sq<|g 23 37 [BF,BF,.call VT [[]],BF,BF,BF,BF,BF,BF,BF,BF]<|J Zaf<|W.cn<|J (noT nO) fun _=>W.skip<|W.sq ?_
         refine g 37 53 [BT,BT,BT,BT,BF,BF,BF,BF,BF,BF]<|J ⟨I,I,I,I,⟨tO,I⟩,⟨tO,I⟩,⟨tO,I⟩,tO,I,dO,dO,dO,dO,dO,dO,I⟩<|W.cn<|J (noT rfl) fun _=>W.skip<|W.sq<|gd 10 81 [[],[],[],[],[BT],[BT],[BT],[BT],[BT],[BT],[BT],[],[BT],[BT],[BT],[BT],[BT],[BT],[BT],[BT],[BT],[BT],[BT],[BT],[BT]] ?_
         conv=>whnf
         refine J Zbw<|J KR<|W.cn<|J (fun _=>(g 81 83 []<|J Zdi (RT ?_))) (noF rfl)
         rw[dR h hc,dj no nt];all_goals rfl
       ·have nt:¬bQ w m:=fun q=>hk4 q.1
        refine aM ?_
        conv=>whnf
        refine g 1 3 []<|J Zbt<|W.sq<|g 12 17 [.call (V.b (decide (au w))) [[]],BF,BF,.call (V.i 0) [[]],BF,BF]<|J ⟨I,⟨UA,I,⟨UK,I⟩,UA,ar _ OM⟩,I,I,⟨nO,I⟩,Zbi,⟨nO,I⟩,nO,I⟩<|W.cn<|J (noT rfl) fun _=>W.skip<|g 17 21 [.call (aE w) [[]]]<|J ⟨I,⟨UA,I,⟨UK,I⟩,UA,aC _ OM⟩,I,UK,I⟩<|g 21 23 []<|J Zcm<|W.sq<|g 23 37 [BF,BF,.call VT [[]],BF,BF,BF,BF,BF,BF,BF,BF]<|J Zaf<|W.cn<|J (noT nO) fun _=>W.skip<|W.sq ?_
        refine g 37 53 [BF,BF,BF,BF,BF,BF,BF,BF,BF,BF]<|J Zcf<|W.cn<|J (noT rfl) fun _=>W.skip<|W.sq<|gd 10 81 [[],[],[],[],[BT],[BT],[BT],[BT],[BT],[BT],[BT],[],[BT],[BT],[BT],[BT],[BT],[BT],[BT],[BT],[BT],[BT],[BT],[BT],[BT]] ?_
        conv=>whnf
        refine J Zbw<|J KR<|W.cn<|J (fun _=>(g 81 83 []<|J Zdi (RT ?_))) (noF rfl)
        rw[dR h hc,dj no nt];all_goals rfl
     ·have nf:¬kr w m:=fun q=>hto q.2.2
      refine aM ?_
      conv=>whnf
      refine g 1 3 []<|J Zbt<|W.sq<|g 12 17 [.call (V.b (decide (au w))) [[]],BF,BF,.call (V.i 0) [[]],BF,BF]<|J ⟨I,⟨UA,I,⟨UK,I⟩,UA,ar _ OM⟩,I,I,⟨nO,I⟩,Zbi,⟨nO,I⟩,nO,I⟩<|W.cn<|J (noT rfl) fun _=>W.skip<|g 17 21 [.call (aE w) [[]]]<|J ⟨I,⟨UA,I,⟨UK,I⟩,UA,aC _ OM⟩,I,UK,I⟩<|g 21 23 []<|J Zcm<|W.sq<|g 23 37 [BF,BF,.call VT [[]],BF,BF,BF,BF,BF,BF,BF,BF]<|J Zaf<|W.cn<|J (fun _=>(g 37 39 []<|J Zdi (RT ?_))) (noF (ah OM))
      rw[dR h hc,j5 nf];all_goals rfl
    ·rw[decide_eq_false hok]at cm
     have nf:¬kr w m:=fun q=>hok q.2.1
     refine aM ?_
     conv=>whnf
     refine g 1 3 []<|J Zbt<|W.sq<|g 12 17 [.call (V.b (decide (au w))) [[]],BF,BF,.call (V.i 0) [[]],BF,BF]<|J ⟨I,⟨UA,I,⟨UK,I⟩,UA,ar _ OM⟩,I,I,⟨nO,I⟩,Zbi,⟨nO,I⟩,nO,I⟩<|W.cn<|J (noT rfl) fun _=>W.skip<|g 17 21 [.call (aE w) [[]]]<|J ⟨I,⟨UA,I,⟨UK,I⟩,UA,aC _ OM⟩,I,UK,I⟩<|g 21 23 []<|J Zcm<|W.sq<|g 23 37 [BF,BF,.call VF [[]],BF,BF,BT,BT,BT,BT,BT,BT]<|J ⟨I,I,I,I,Zdr,Zam,Zdr,nbF AS,I,rfl,rfl,rfl,rfl,rfl,rfl,I⟩<|W.cn<|J (fun _=>(g 37 39 []<|J Zdi (RT ?_))) (noF rfl)
     rw[dR h hc,j5 nf];all_goals rfl
   ·have nf:¬kr w m:=fun q=>hup q.1
    refine aM ?_
    conv=>whnf
    refine g 1 3 []<|J Zbt<|W.sq<|g 12 17 [.call (V.b (decide (au w))) [[]],BF,BF,.call (V.i 0) [[]],BF,BF]<|J ⟨I,⟨UA,I,⟨UK,I⟩,UA,ar _ OM⟩,I,I,⟨nO,I⟩,Zbi,⟨nO,I⟩,nO,I⟩<|W.cn<|J (noT rfl) fun _=>W.skip<|g 17 21 [.call (aE w) [[]]]<|J ⟨I,⟨UA,I,⟨UK,I⟩,UA,aC _ OM⟩,I,UK,I⟩<|g 21 23 []<|J Zcm<|W.sq<|g 23 37 [BT,BT,BT,BT,BT,BT,BT,BT,BT,BT]<|J ⟨I,I,I,I,SI,SI,SI,SI,I,rfl,rfl,rfl,rfl,rfl,rfl,I⟩<|W.cn<|J (fun _=>(g 37 39 []<|J Zdi (RT ?_))) (noF rfl)
    rw[dR h hc,j5 nf];all_goals rfl
  ·rw[CI (fun q=>hc q.2)]
   refine aM ?_
   conv=>whnf
   refine g 1 3 []<|J Zbt<|W.sq<|g 12 17 [.call (V.b (decide (au w))) [[]],BF,BF,.call (V.i (am p.tasks)) [[]],BF,BF]<|J ⟨I,⟨UA,I,⟨UK,I⟩,UA,ar _ OM⟩,I,I,⟨nO,I⟩,Zbi,⟨nO,I⟩,nO,I⟩<|W.cn<|J (fun _=>(g 17 19 []<|J Zdi (RT ?_))) (noF (ah OM))
   rfl
 ·rw[CI (fun q=>h q.1)]
  refine aM ?_
  conv=>whnf
  refine g 1 3 []<|J Zbt<|W.sq<|g 12 17 [.call (V.b (decide (au w))) [[]],BT,BT,BT,BT]<|J ⟨I,⟨UA,I,⟨UK,I⟩,UA,ar _ OM⟩,I,I,ah OM,ah OM,ah OM,ah OM,I⟩<|W.cn<|J (fun _=>(g 17 19 []<|J Zdi (RT ?_))) (noF rfl)
  rfl
end Go.K
end
section
open Go Go.Tm Go.Proofs
namespace Go.K
theorem GO{w:Worker}{s:Int}(h1:1≤w.number∧w.number≤8)(h2:1≤w.epoch∧w.epoch≤300)(hs:0≤s∧s≤1000000)(u:Bool)(hu:u = true∨s = 0):au ⟨w.number,w.epoch,u,0,0,0,0,0,[],emp,s⟩ :=
 ⟨h1,h2,hs,hu.imp id fun q=>⟨rfl,q⟩,.inl ⟨rfl,rfl,rfl,rfl,rfl,rfl,rfl⟩⟩
theorem Kz{w:Worker}(h:au w):au (pk w)∧(pk w).number = w.number:=by
 unfold pk;rw[if_pos h]
 exact⟨GO (w:=w) h.1 h.2.1 ⟨Int.le_refl _,by omega⟩ false (.inr rfl),rfl⟩
theorem JZ{w:Worker}(h:au w):au (li w)∧(li w).number = w.number:=by
 unfold li;rw[if_pos h]
 split
 ·exact⟨h,rfl⟩
 ·rename_i q
  have h2:=h.2.1
  have q2:¬300≤w.epoch:=fun e=>q (.inr e)
  exact⟨⟨h.1,⟨by show 1≤w.epoch+1;omega,by show w.epoch+1≤300;omega⟩,⟨by show(0:Int)≤3;omega,by show(3:Int)≤1000000;omega⟩,.inl rfl,.inl ⟨rfl,rfl,rfl,rfl,rfl,rfl,rfl⟩⟩,rfl⟩
theorem HK{w:Worker}(h:au w):0≤aP w∧aP w≤1000000:=by
 have:=h.2.2.1
 unfold aP;split <;> omega
theorem iI{w:Worker}(h:au w)(hup:w.up = true){s:Int}(hs:0≤s∧s≤1000000):au (cu w s):=by
 obtain⟨h1,h2,h3,h4,h5⟩:=h
 exact⟨h1,h2,hs,.inl hup,h5⟩
theorem Ki{w:Worker}(h:au w)(h1:w.state = 1)(h2:¬w.left - 1 = 0):au (mh w):=by
 obtain⟨b1,b2,b3,b4,b5,b6⟩:=vL h h1
 obtain⟨g1,g2,g3,g4,g5⟩:=h
 refine⟨g1,g2,g3,g4,.inr (.inl ⟨h1,b2,b3,⟨?_,?_⟩,b5,b6⟩)⟩
 ·show 1≤w.left - 1;omega
 ·show w.left - 1≤w.cost;omega
theorem JH(nm:ByteArray)(xs:List ByteArray):(bm nm xs).size = 8:=mz nm xs
theorem KE{w:Worker}(ts:List Task)(h:au w)(h1:w.state = 1)(h2:w.left - 1 = 0)(hup:w.up = true):au (fW w ts):=by
 obtain⟨b1,b2,b3,b4,b5,b6⟩:=vL h h1
 obtain⟨g1,g2,g3,g4,g5⟩:=h
 exact⟨g1,g2,⟨Int.le_refl _,by show(0:Int)≤1000000;omega⟩,.inl hup,.inr (.inr ⟨rfl,b2,rfl,h2,rfl,by show((bm _ _).size:Int) = 8;rw[JH];rfl⟩)⟩
theorem JM{w:Worker}(ts:List Task)(h:au w):au (fK w ts).worker∧(fK w ts).worker.number = w.number:=by
 have hs:=HK h
 have z:(0:Int)≤0∧(0:Int)≤1000000:=⟨Int.le_refl _,by omega⟩
 by_cases hup:w.up = false
 ·rw[sQ hup];exact⟨h,rfl⟩
 have hup2:w.up = true:=by cases hb:w.up;exact absurd hb hup;rfl
 rcases wG h with h1|h1|h1
 ·by_cases h4:3≤aP w
  ·rw[ky hup h1 h4];exact⟨iI h hup2 z,rfl⟩
  ·rw[pu hup h1 h4];exact⟨iI h hup2 hs,rfl⟩
 ·by_cases h2:w.left - 1 = 0
  ·rw[kz hup h1 h2];exact⟨KE ts h h1 h2 hup2,rfl⟩
  ·have hl:=Ki h h1 h2
   by_cases h4:4≤aP w
   ·rw[kA hup h1 h2 h4];exact⟨iI hl hup2 z,rfl⟩
   ·rw[sR hup h1 h2 h4];exact⟨iI hl hup2 hs,rfl⟩
 ·by_cases h4:4≤aP w
  ·rw[kw hup h1 h4];exact⟨iI h hup2 z,rfl⟩
  ·rw[pt hup h1 h4];exact⟨iI h hup2 hs,rfl⟩
theorem JQ{w:Worker}{ts:List Task}(m:Message)(hc:am ts = 0)(h:au w):au (kq w ts m)∧(kq w ts m).number = w.number:=by
 by_cases hf:kr w m
 ·by_cases ho:bK w ts m
  ·rw[lk hf ho]
   obtain⟨o1,⟨t,ht,ol⟩,o3⟩:=ho
   obtain⟨q1,q2⟩:=hf.2.1
   have hk:(1≤m.lease∧m.lease≤300000000)∧(0≤m.task∧m.task≤39)∧dV m.inputs:=by
    rcases q2 with q|q|q|q|q
    ·exact⟨q.2.2.2.1,q.2.2.2.2.1,q.2.2.2.2.2.2⟩
    ·have:=q.1;omega
    ·have:=q.1;omega
    ·have:=q.1;omega
    ·have:=q.1;omega
   have e:iO ts m.task = t.cost:=by unfold iO;rw[ht];rfl
   have hcst:=(bP hc ht).2.1
   obtain⟨g1,g2,g3,g4,g5⟩:=h
   exact⟨⟨g1,g2,⟨Int.le_refl _,by show(0:Int)≤1000000;omega⟩,.inl rfl,.inr (.inl ⟨rfl,⟨hk.1,hk.2.1⟩,by show 1≤iO ts m.task∧_;rw[e];exact hcst,⟨by show 1≤iO ts m.task;rw[e];omega,Int.le_refl _⟩,hk.2.2,rfl⟩)⟩,rfl⟩
  ·by_cases hth:bQ w m
   ·rw[mE hf hth]
    exact⟨GO (w:=w) h.1 h.2.1 ⟨by omega,by omega⟩ w.up (.inl hf.1),rfl⟩
   ·rw[dj ho hth];exact⟨h,rfl⟩
 ·rw[j5 hf];exact⟨h,rfl⟩
end Go.K
end
section
open Go Go.Tm Go.Proofs
namespace Go.K
def qL(xs:List Parcel)(k:Int):List Parcel:=if xs.length≤2000∧0≤k∧k < xs.length∧xs.length < 2000 then xs++ (xs[k.toNat]?).toList else xs
theorem uF{xs:List Parcel}{k:Int}(h:¬(xs.length≤2000∧0≤k∧k < xs.length∧xs.length < 2000)):qL xs k = xs:=if_neg h
theorem Hs{xs:List Parcel}{m:Nat}{y:Parcel}(h:xs.length≤2000∧0≤(m:Int)∧(m:Int) < xs.length∧xs.length < 2000)(hy:xs[m]? = some y):xs.map bZ++ [bZ y] = (qL xs m).map bZ:=by
 unfold qL
 rw[if_pos h,show((m:Int)).toNat = m from rfl,hy,List.map_append];rfl
theorem yx(xs:List Parcel)(k:Int)(hl:xs.length≤1048576):F xJ [.val (.t (zg xs)),.val (.i k)] (.own pkd ((qL xs k).map bZ)) [[],[]]:=by
 by_cases h0:0≤k
 ·obtain⟨m,rfl⟩:=Int.eq_ofNat_of_zero_le h0
  refine oC ?_
  conv=>whnf
  refine g 0 0 []<|J UA<|g 6 8 [.call (V.own pkd (List.map bZ xs)) [[]]]<|J ⟨I,⟨UA,I,US,UA,de _ OM⟩,I,I⟩<|W.sq ?_
  by_cases h1:List.length xs≤(2000:Nat)∧(0:Int)≤(↑m:Int)∧(↑m:Int) < (↑(List.length xs):Int)
  refine g 8 15 [.call (V.b (decide (xs.length≤2000∧0≤(m:Int)∧(m:Int) < (↑xs.length:Int)))) [[],[]],BT,BT,BT,BT]<|J ⟨I,I,⟨UB,I,UT,UA,bx _ _ OM⟩,I,⟨tO,I⟩,⟨tO,I⟩,⟨tO,I⟩,tO,I⟩<|W.cn<|J (fun h2=>?_) fun h2=>?_
  replace h2:=dt h2
  simp only[LM]at h2
  obtain⟨y1,hy1⟩:=ak (xs:=xs) (n:=m) OM
  refine rg [.x (bZ y1)]<|J ⟨I,I,I,⟨AS,xA⟩,I,⟨UC,I⟩,Zdh,I,I⟩<|g 5 24 []<|J UB<|RT ?_
  rotate_left
  replace h2:=df h2
  simp only[LM]at h2
  refine W.skip<|g 5 24 []<|J UB<|RT ?_
  rotate_left
  refine g 8 15 [.call (V.b (decide (xs.length≤2000∧0≤(m:Int)∧(m:Int) < (↑xs.length:Int)))) [[],[]],BF,BF,BF,BF]<|J ⟨I,I,⟨UB,I,UT,UA,bx _ _ OM⟩,I,dO,dO,dO,dO,I⟩<|W.cn<|J (noT rfl) fun _=>W.skip<|g 5 24 []<|J UB<|RT ?_
  rotate_left
  ·exact congrArg (V.own pkd) (Hs ⟨h1.1,h1.2.1,h1.2.2,by omega⟩ hy1)
  ·rw[uF OM]
  ·rw[uF OM]
 ·skip
  refine oC ?_
  conv=>whnf
  refine g 0 0 []<|J UA<|g 6 8 [.call (V.own pkd (List.map bZ xs)) [[]]]<|J ⟨I,⟨UA,I,US,UA,de _ OM⟩,I,I⟩<|W.sq<|g 8 15 [.call (V.b (decide (xs.length≤2000∧0≤k∧k < (↑xs.length:Int)))) [[],[]],BF,BF,BF,BF]<|J ⟨I,I,⟨UB,I,UT,UA,bx _ _ OM⟩,I,dO,dO,dO,dO,I⟩<|W.cn<|J (noT rfl) fun _=>W.skip<|g 5 24 []<|J UB<|RT ?_
  rw[uF OM]
end Go.K
end
section
open Go Go.Tm Go.Proofs
namespace Go.K
def xorB(c:UInt8)(ma:Int):Int:=IntKind.u8.wrap (BitVec.ofInt IntKind.u8.bits (c.toNat:Int) ^^^ BitVec.ofInt IntKind.u8.bits (IntKind.u8.wrap (ma.tmod 256))).toNat
def N7(t:ByteArray)(q:Nat)(c:UInt8)(ma:Int):ByteArray:=⟨(bN ((bT t).set q [.v (.int .u8 (xorB c ma))])).toArray⟩
def Pr(p:Parcel)(pl ma:Int):Parcel:=match p.text[pl.toNat]? with
 |some c=>⟨p.kind,p.frm,N7 p.text pl.toNat c ma⟩
 |none=>p
def qT(xs:List Parcel)(k pl ma:Int):List Parcel :=
 if(xs.length≤2000∧0≤k∧k < xs.length)∧0≤ma∧0≤pl then match xs[k.toNat]? with
  |some p=>xs.set k.toNat (Pr p pl ma)
  |none=>xs
 else xs
theorem oT{xs:List Parcel}{k pl ma:Int}(h:¬((xs.length≤2000∧0≤k∧k < xs.length)∧0≤ma∧0≤pl)):qT xs k pl ma = xs:=if_neg h
theorem N8{s:ByteArray}{n:Nat}(h:s.size≤n):s[n]? = none:=getElem?_neg s n OM
theorem DL{xs:List Parcel}{m q:Nat}{ma:Int}{y:Parcel}(hy:xs[m]? = some y)(h:y.text.size≤q):qT xs m q ma = xs:=by
 unfold qT
 split
 ·rw[show((m:Int)).toNat = m from rfl,hy]
  simp only[Pr,show((q:Int)).toNat = q from rfl,N8 h]
  apply List.ext_getElem?
  intro i
  rw[List.getElem?_set]
  split
  ·next e=>subst e;split
           ·exact hy.symm
           ·next h2=>rw[List.getElem?_eq_none OM]
  ·rfl
 ·rfl
theorem DK{xs:List Parcel}{m q:Nat}{ma:Int}{y:Parcel}{c:UInt8}(h:(xs.length≤2000∧0≤(m:Int)∧(m:Int) < xs.length)∧0≤ma∧0≤(q:Int))(hy:xs[m]? = some y)(hc:y.text[q]? = some c) :
 (xs.map bZ).set m [T.v (.int .i64 y.kind),T.v (.string y.frm),T.v (.string (N7 y.text q c ma))] = (qT xs m q ma).map bZ:=by
 unfold qT
 rw[if_pos h,show((m:Int)).toNat = m from rfl,hy]
 simp only[Pr,show((q:Int)).toNat = q from rfl,hc]
 rw[List.map_set]
theorem Cu(xs:List Parcel)(k pl ma:Int)(hl:xs.length≤1048576)(hs:∀ p∈xs,p.text.size≤1048576):F B0 [.val (.t (zg xs)),.val (.i k),.val (.i pl),.val (.i ma)] (.own pkd ((qT xs k pl ma).map bZ)) [[],[],[],[]]:=by
 by_cases h0:0≤k
 ·obtain⟨m,rfl⟩:=Int.eq_ofNat_of_zero_le h0
  by_cases h8:0≤pl
  ·obtain⟨q,rfl⟩:=Int.eq_ofNat_of_zero_le h8
   refine mQ ?_
   conv=>whnf
   refine g 0 0 []<|J UA<|g 11 12 [.call (V.own pkd (List.map bZ xs)) [[]]]<|J ⟨I,⟨UA,I,US,UA,de _ OM⟩,I,I⟩<|W.sq ?_
   by_cases h1:List.length xs≤(2000:Nat)∧(0:Int)≤(↑m:Int)∧(↑m:Int) < (↑(List.length xs):Int)
   by_cases h2:ma < (0:Int)
   refine g 12 34 [.call (V.b (decide (xs.length≤2000∧0≤(m:Int)∧(m:Int) < (↑xs.length:Int)))) [[],[]],BF,BF,BF,BT,BT,BT,BT,BT,BT,BT,BT,BT,BT,BT,BT]<|J ⟨I,I,⟨UB,I,UT,UA,bx _ _ OM⟩,I,I,⟨nO,I⟩,⟨nO,I⟩,nO,I,tO,tO,tO,I,rfl,rfl,rfl,rfl,rfl,rfl,rfl,rfl,rfl,I⟩<|W.cn<|J (fun _=>(g 34 36 []<|J UB (RT ?_))) (noF rfl)
   rotate_left
   obtain⟨y1,hy1⟩:=ak (xs:=xs) (n:=m) OM
   have hm1:=hs y1 (List.mem_of_getElem? hy1)
   refine g 12 34 [.call (V.b (decide (xs.length≤2000∧0≤(m:Int)∧(m:Int) < (↑xs.length:Int)))) [[],[]],BF,BF,BF,BF,BF,BF,BF,BF,BF,BF,.x (bZ y1),BF,BF,BF,BF,BF]<|J ⟨I,I,⟨UB,I,UT,UA,bx _ _ OM⟩,I,I,⟨nO,I⟩,⟨nO,I⟩,nO,I,⟨dO,I⟩,⟨dO,I⟩,dO,I,Zde,Zde,Zde,⟨rfl,AS,xA⟩,Zde,Zde,Zde,Zde,rfl,I⟩<|W.cn<|J (fun h3=>?_) fun h3=>?_
   replace h3:=dt h3
   refine g 34 36 []<|J UB<|RT ?_
   rotate_left
   replace h3:=df h3
   refine W.skip<|g 34 42 [.x (bZ y1)]<|J ⟨I,I,⟨AS,xA⟩,I,I,OM,I,I⟩ ?_
   obtain⟨y2,hy2,hb1⟩:=bg (s:=Parcel.text y1) (n:=q) OM
   refine g 43 53 [.n (q),.x ([T.v (Value.int IntKind.u8 (↑(UInt8.toNat y2):Int))]),.i (Int.tmod ma 256),.i (IntKind.wrap IntKind.u8 (Int.tmod ma 256)),.i (IntKind.wrap IntKind.u8 (↑(BitVec.toNat (BitVec.ofInt (IntKind.bits IntKind.u8) (↑(UInt8.toNat y2):Int) ^^^ BitVec.ofInt (IntKind.bits IntKind.u8) (IntKind.wrap IntKind.u8 (Int.tmod ma 256)))):Int)),.n (q),.x ([T.v (Value.int IntKind.u8 (↑(UInt8.toNat y2):Int))])]<|J ⟨I,I,I,I,Zdj,(lP AS),I,Zdu,rfl,rfl,Zdj,⟨UA,(lP AS)⟩,I⟩<|g 53 59 [.s ({data:=List.toArray (bN (List.set (bT y1.text) q (dM [T.v (Value.int IntKind.u8 (↑(UInt8.toNat y2):Int))] 0 [T.v (Value.int IntKind.u8 (IntKind.wrap IntKind.u8 (↑(BitVec.toNat (BitVec.ofInt (IntKind.bits IntKind.u8) (↑(UInt8.toNat y2):Int) ^^^ BitVec.ofInt (IntKind.bits IntKind.u8) (IntKind.wrap IntKind.u8 (Int.tmod ma 256)))):Int)))]))):ByteArray}),.n (m),.x (bZ y1)]<|J ⟨I,I,I,⟨I,zP (ii _),rfl⟩,Zdj,I,Zef,I⟩<|g 0 4 []<|J UB<|RT ?_
   rotate_left
   refine g 12 34 [.call (V.b (decide (xs.length≤2000∧0≤(m:Int)∧(m:Int) < (↑xs.length:Int)))) [[],[]],BT,BT,BT,BT,BT,BT,BT,BT,BT,BT,BT,BT,BT,BT,BT]<|J ⟨I,I,⟨UB,I,UT,UA,bx _ _ OM⟩,I,I,ah OM,ah OM,ah OM,I,rfl,rfl,rfl,I,rfl,rfl,rfl,rfl,rfl,rfl,rfl,rfl,rfl,I⟩<|W.cn<|J (fun _=>(g 34 36 []<|J UB (RT ?_))) (noF rfl)
   rotate_left
   all_goals (first|rw[oT OM]|rw[DL AS OM]|exact congrArg (V.own pkd) (DK OM AS AS)|skip)
  ·skip
   refine mQ ?_
   conv=>whnf
   refine g 0 0 []<|J UA<|g 11 12 [.call (V.own pkd (List.map bZ xs)) [[]]]<|J ⟨I,⟨UA,I,US,UA,de _ OM⟩,I,I⟩<|W.sq ?_
   by_cases h1:List.length xs≤(2000:Nat)∧(0:Int)≤(↑m:Int)∧(↑m:Int) < (↑(List.length xs):Int)
   by_cases h2:ma < (0:Int)
   refine g 12 34 [.call (V.b (decide (xs.length≤2000∧0≤(m:Int)∧(m:Int) < (↑xs.length:Int)))) [[],[]],BF,BF,BF,BT,BT,BT,BT,BT,BT,BT,BT,BT,BT,BT,BT]<|J ⟨I,I,⟨UB,I,UT,UA,bx _ _ OM⟩,I,I,⟨nO,I⟩,⟨nO,I⟩,nO,I,tO,tO,tO,I,rfl,rfl,rfl,rfl,rfl,rfl,rfl,rfl,rfl,I⟩<|W.cn<|J (fun _=>(g 34 36 []<|J UB (RT ?_))) (noF rfl)
   rotate_left
   refine g 12 34 [.call (V.b (decide (xs.length≤2000∧0≤(m:Int)∧(m:Int) < (↑xs.length:Int)))) [[],[]],BF,BF,BF,BF,BF,BF,BT,BT,BT,BT,BT,BT,BT,BT,BT]<|J ⟨I,I,⟨UB,I,UT,UA,bx _ _ OM⟩,I,I,⟨nO,I⟩,⟨nO,I⟩,nO,I,⟨dO,I⟩,⟨dO,I⟩,dO,I,tO,tO,tO,tO,tO,tO,tO,tO,tO,I⟩<|W.cn<|J (fun _=>(g 34 36 []<|J UB (RT ?_))) (noF rfl)
   rotate_left
   refine g 12 34 [.call (V.b (decide (xs.length≤2000∧0≤(m:Int)∧(m:Int) < (↑xs.length:Int)))) [[],[]],BT,BT,BT,BT,BT,BT,BT,BT,BT,BT,BT,BT,BT,BT,BT]<|J ⟨I,I,⟨UB,I,UT,UA,bx _ _ OM⟩,I,I,ah OM,ah OM,ah OM,I,rfl,rfl,rfl,I,rfl,rfl,rfl,rfl,rfl,rfl,rfl,rfl,rfl,I⟩<|W.cn<|J (fun _=>(g 34 36 []<|J UB (RT ?_))) (noF rfl)
   rotate_left
   all_goals rw[oT OM]
 ·skip
  refine mQ ?_
  conv=>whnf
  refine g 0 0 []<|J UA<|g 11 12 [.call (V.own pkd (List.map bZ xs)) [[]]]<|J ⟨I,⟨UA,I,US,UA,de _ OM⟩,I,I⟩<|W.sq<|g 12 34 [.call (V.b (decide (xs.length≤2000∧0≤k∧k < (↑xs.length:Int)))) [[],[]],BT,BT,BT,BT,BT,BT,BT,BT,BT,BT,BT,BT,BT,BT,BT]<|J ⟨I,I,⟨UB,I,UT,UA,bx _ _ OM⟩,I,I,ah OM,ah OM,ah OM,I,rfl,rfl,rfl,I,rfl,rfl,rfl,rfl,rfl,rfl,rfl,rfl,rfl,I⟩<|W.cn<|J (fun _=>(g 34 36 []<|J UB (RT ?_))) (noF rfl)
  all_goals rw[oT OM]
theorem KT(xs:List Parcel)(k pl ma:Int):(qT xs k pl ma).length = xs.length:=by
 unfold qT;split
 ·split
  ·rw[List.length_set]
  ·rfl
 ·rfl
end Go.K
end
section
open Go Go.Tm Go.Proofs
namespace Go.K
structure Event where
 kind:Int
 a:Int
 b:Int
 c:Int
 deriving DecidableEq
abbrev PR(x:Event):V:=.agg [.t (.i x.kind),.t (.i x.a),.t (.i x.b),.t (.i x.c)]
abbrev qY(x:Event):V:=.agg [.t (.i x.kind),.t (.i x.a),.t (.i x.b),.t (.i x.c)]
abbrev NA:Event:=⟨0,0,0,0⟩
def g8(ws:List Worker)(k:Int):Worker:=(ws[k.toNat]?).getD kT
def Q7:Parcel:=⟨0,emp,emp⟩
def EI(xs:List Parcel)(k:Int):Parcel:=(xs[k.toNat]?).getD Q7
noncomputable def lS(p:Plan)(ws:List Worker)(n:Nat):List Message:=((ws.take n).map fun x=>(gL x p).out).flatten
noncomputable def g9(w:World):World :=
 if 1000000≤w.boss.now then w else
 ⟨w.plan,w.key,(nW w.boss w.plan).boss,w.workers.map (fun x=>(gL x w.plan).worker),ub w.flight ((nW w.boss w.plan).out++lS w.plan w.workers w.workers.length) w.key,w.forged⟩
def dh(w:World)(fl:List Parcel):World:=⟨w.plan,w.key,w.boss,w.workers,fl,w.forged⟩
def u0(w:World)(b:Boss):World:=⟨w.plan,w.key,b,w.workers,w.flight,w.forged⟩
def A4(w:World)(k:Int)(x:Worker):World:=⟨w.plan,w.key,w.boss,w.workers.set (k - 1).toNat x,w.flight,w.forged⟩
open Classical in
noncomputable def IP(w:World)(s:Parcel):World:=⟨w.plan,w.key,w.boss,w.workers,w.flight,if ¬s.text = s.frm∧w.forged = emp then s.text else w.forged⟩
def lY(w:World)(k:Int):Prop:=1≤k∧k≤w.workers.length
instance (w:World) (k:Int):Decidable (lY w k):=by unfold lY;infer_instance
noncomputable def cx(w:World)(s:Parcel):World :=
 match dE s.text w.key with
 |none=>w
 |some m =>
  if s.kind = 0 then u0 (IP w s) (yN w.boss w.plan m).boss
  else if lY w s.kind then A4 (IP w s) s.kind (ua (g8 w.workers (s.kind - 1)) w.plan m).worker
  else IP w s
def Bo(w:World)(k:Int):Prop:=w.flight.length≤2000∧0≤k∧k < w.flight.length
instance (w:World) (k:Int):Decidable (Bo w k):=by unfold Bo;infer_instance
noncomputable def dA(w:World)(k:Int):World:=if Bo w k then cx (dh w (cB w.flight k)) (EI w.flight k)else w
noncomputable def doW(w:World)(e:Event):World :=
 if e.kind = 1 then g9 w
 else if e.kind = 2 then dA w e.a
 else if e.kind = 3 then dh w (qL w.flight e.a)
 else if e.kind = 4 then dh w (cB w.flight e.a)
 else if e.kind = 5 then dh w (qT w.flight e.a e.b e.c)
 else if e.kind = 6 then(if e.a = 0 then u0 w (nX w.boss w.plan e.b)else if lY w e.a then A4 w e.a (pk (g8 w.workers (e.a - 1)))else w)
 else if e.kind = 7 then(if e.a = 0 then u0 w (gP w.boss w.plan)else if lY w e.a then A4 w e.a (li (g8 w.workers (e.a - 1)))else w)
 else w
theorem wu{w:World}{b:Boss}(h:WorldOk w)(hb:BossOk b w.plan)(hw:b.workers = w.boss.workers):WorldOk (u0 w b):=⟨h.plan,h.key,h.wl,h.fl,h.crew,h.par,hb,by show b.workers = _;rw[hw];exact h.same⟩
theorem JG{w:World}{s:Parcel}(h:WorldOk w):WorldOk (IP w s):=⟨h.plan,h.key,h.wl,h.fl,h.crew,h.par,h.boss,h.same⟩
theorem jd{w:World}{fl:List Parcel}(h:WorldOk w)(h1:fl.length≤2000)(h2:∀ x∈fl,ParOk x):WorldOk (dh w fl):=⟨h.plan,h.key,h.wl,h1,h.crew,h2,h.boss,h.same⟩
theorem sO{w:World}{k:Int}(h:WorldOk w)(hk:lY w k):∃ x,w.workers[(k - 1).toNat]? = some x∧g8 w.workers (k - 1) = x∧au x∧x.number = k:=by
 obtain⟨k1,k2⟩:=hk
 obtain⟨x,hx⟩:=ak (xs:=w.workers) (n:=(k - 1).toNat) OM
 have hc:=h.crew (k - 1).toNat x OM hx
 exact⟨x,hx,by unfold g8;rw[hx];rfl,hc.ok,by rw[hc.num];omega⟩
theorem wt{w:World}{k:Int}{x y:Worker}(h:WorldOk w)(hk:lY w k)(hx:au y)(hn:y.number = k):WorldOk (A4 w k y):=by
 refine⟨h.plan,h.key,by show 1≤(w.workers.set _ _).length∧_;rw[List.length_set];exact⟨h.wl.1,by show(w.workers.set _ _).length≤8;rw[List.length_set];exact h.wl.2⟩,h.fl,?_,h.par,h.boss,by show w.boss.workers = ((w.workers.set _ _).length:Int);rw[List.length_set];exact h.same⟩
 intro i z hi hz
 obtain⟨k1,k2⟩:=hk
 change (w.workers.set (k - 1).toNat y)[i]? = some z at hz
 by_cases e:i = (k - 1).toNat
 ·subst e
  rw[List.getElem?_set_self OM]at hz
  cases hz
  exact⟨hx,by rw[hn];omega⟩
 ·rw[List.getElem?_set_ne (fun q=>e q.symm)]at hz
  exact h.crew i z (by have:=(List.getElem?_eq_some_iff.1 hz).1;exact this) hz
theorem wI{xs:List Parcel}{k:Int}{x:Parcel}(h:x∈cB xs k):x∈xs:=by
 unfold cB at h;split at h
 ·rcases List.mem_append.1 h with h|h
  ·exact List.mem_of_mem_take h
  ·exact List.mem_of_mem_drop h
 ·exact h
theorem AN(xs:List Parcel)(k:Int):(cB xs k).length≤xs.length:=by
 unfold cB;split
 ·simp only[List.length_append,List.length_take,List.length_drop];omega
 ·exact Nat.le_refl _
theorem NY{xs:List Parcel}{k:Int}{x:Parcel}(h:x∈qL xs k):x∈xs:=by
 unfold qL at h;split at h
 ·rcases List.mem_append.1 h with h|h
  ·exact h
  ·cases hy:xs[k.toNat]? with
   |none=>rw[hy]at h;cases h
   |some y =>
    rw[hy]at h
    rw[List.mem_singleton.1 h]
    exact List.mem_of_getElem? hy
 ·exact h
theorem PS{xs:List Parcel}{k:Int}(hx:xs.length≤2000):(qL xs k).length≤2000:=by
 unfold qL;split
 ·rename_i q
  rw[List.length_append]
  have:((xs[k.toNat]?).toList).length≤1:=by cases xs[k.toNat]? <;> simp
  omega
 ·exact hx
end Go.K
end

/- Contracts of functions of the program: what each call answers. -/
import Derived.Test.YtoknlfldllmhpaaGreatPartf
set_option maxHeartbeats 8000000
set_option maxRecDepth 20000
set_option linter.unusedVariables false
set_option linter.unusedSimpArgs false
section
open Go Go.Tm Go.Proofs
namespace Go.K
theorem sB{b:Boss}{m:Message}(h:Owes b m):BL b m = ⟨b.workers,b.up,b.now,b.since,b.epoch,b.given,b.log,b.results,b.jobs,b.seats,b.owed++ [⟨m.frm,m.lease,m.task⟩]⟩:=if_pos h
theorem gX{b:Boss}{m:Message}(h:¬Owes b m):BL b m = b:=if_neg h
theorem Tx{rs:List ByteArray}{k:Int}{v:ByteArray}(h:k.toNat < rs.length):atS (rs.set k.toNat v) k = v:=by
 unfold atS;rw[List.getElem?_set_self h];rfl
theorem My{b:Boss}{ts:List Task}{m:Message}(h:CanPut b ts m)(hk:m.task.toNat < b.results.length)(ht:¬m.text = emp):ff b ts m = BL (mI b m) m:=by
 have e1:sZ b ts m = mI b m:=if_pos h
 have e2:EC (mI b m) m = mI b m:=if_neg (by rw[show(mI b m).results = b.results.set m.task.toNat m.text from rfl,Tx hk];exact ht)
 rw[ff,e1,e2]
theorem Mz{b:Boss}{ts:List Task}{m:Message}(h:¬CanPut b ts m)(hy:atS b.results m.task = emp)(ht:¬m.text = emp):ff b ts m = mR b m:=by
 have e1:sZ b ts m = b:=if_neg h
 have e2:EC b m = mR b m:=if_pos hy
 have e3:(mR b m).results = b.results:=by unfold mR;split <;> rfl
 rw[ff,e1,e2,gX]
 intro q
 have:=q.same
 rw[e3,hy]at this
 exact ht this.symm
theorem Jk{b:Boss}{ts:List Task}{m:Message}(hy:¬atS b.results m.task = emp):ff b ts m = BL b m:=by
 have e1:sZ b ts m = b:=if_neg fun q=>hy q.res
 have e2:EC b m = b:=if_neg hy
 rw[ff,e1,e2]
theorem Jr{b:Boss}{ts:List Task}{m:Message}(hk:m.task.toNat < b.results.length)(h1:b.owed.length < 2000)(h2:∀ o∈b.owed,¬(o.worker = m.frm∧o.lease = m.lease)):Owes (mI b m) m:=⟨Tx hk,h1,h2⟩
theorem sG{xs:List Owed}{m:Message}{n:Nat}{o:Owed}(h:xs[n]? = some o)(ho:o.worker = m.frm∧o.lease = m.lease):¬∀ o∈xs,¬(o.worker = m.frm∧o.lease = m.lease):=fun q=>q o (List.mem_of_getElem? h) ho
theorem sL{b:Boss}{m:Message}(h:rR b m):mR b m = b:=if_pos h
theorem ml{b:Boss}{m:Message}(h:¬rR b m):mR b m = ⟨b.workers,b.up,b.now,b.since,b.epoch,b.given,b.log,b.results,b.jobs,b.seats.set (gp m) ⟨true,m.epoch⟩,b.owed⟩:=if_neg h
theorem JP{b:Boss}{m:Message}(h:rR b m):xu b m = b:=if_pos h
theorem JQ{b:Boss}{m:Message}(h:¬rR b m):xu b m = ⟨b.workers,b.up,b.now,b.since,b.epoch,b.given,b.log,b.results,b.jobs.map (mQ m.frm),b.seats.set (gp m) ⟨true,m.epoch⟩,b.owed⟩:=if_neg h
theorem Hf{b:Boss}{m:Message}{x:Seat}(h:b.seats[gp m]? = some x):rR b m↔m.epoch < x.epoch:=by unfold rR;rw[mc,h];exact Iff.rfl
structure ResIn (b:Boss) (ts:List Task) (m:Message):Prop where
 chk:aq ts = 0
 res:b.results.length = ts.length
 jobs:b.jobs.length = ts.length
 task:0≤m.task∧m.task < ts.length
 safe:b.log.safe.length≤1048576
 loose:b.log.loose.length≤1048576
 owed:b.owed.length≤1048576
 seats:b.seats.length≤8
 frm:1≤m.frm∧m.frm≤b.seats.length
 text:(m.text.size:Int) = 8
theorem qk(b:Boss)(p:Plan)(m:Message)(h:ResIn b p.tasks m):F pV [.ptr (cellsOf (aN b)),.val (cR p),.val (eC m),.rel 0 (some (10,gp m,2)) 0] (.tup []) [cellsOf (aN (ff b p.tasks m)),[],[],[]]:=by
 obtain⟨hck,u3,u4,⟨t1,t2⟩,l1,l2,l3,l4,⟨f1,f2⟩,tx⟩:=h
 have hpl:=(bU hck).1
 have hsi:gp m < b.seats.length:=by unfold gp;omega
 have hkr:m.task.toNat < b.results.length:=by omega
 have hte:¬m.text = emp:=fun q=>by rw[q]at tx;cases tx
 obtain⟨x,hx⟩:=af hsi
 have hold:=Hf hx
 obtain⟨t,ht0⟩:=af (xs:=p.tasks) (n:=m.task.toNat) OM
 obtain⟨y,hy0⟩:=af (xs:=b.results) (n:=m.task.toNat) OM
 obtain⟨j,hj0⟩:=af (xs:=b.jobs) (n:=m.task.toNat) OM
 have hya:=j7 hy0
 obtain⟨_,_,a3,a4⟩:=b9 hck ht0
 have crd:=jg b.results t.deps (fun d hd=>by have:=a4 d hd;omega) OM
 have cf:=lA 2 b.epoch m.task m.text OM
 rw[M0]at cf
 by_cases hA:y = emp
 ·by_cases hP:CanPut b p.tasks m
  ·have hF:cX b.results t.deps:=by have:=hP.ready;rw[dW ht0]at this;exact this
   have hR:=hP.room
   rw[decide_eq_true hF]at crd
   rw[My hP hkr hte]
   by_cases hO:b.owed.length < 2000
   ·refine bH ?_
    conv=>whnf
    refine g 0 0 []<|J Zed<|g 11 13 []<|J UC<|W.sq<|gd 13 49 [[],[],[],[],[],[.n (Int.toNat m.task)],[.x (aj y)],[],[],[BT],[BT],[BT],[BT],[BT],[BT],[BT],[BT,.x (ay t)],[BT],[BT],[BT,.call VT [[],[]]],[BT],[],[BT],[BT],[BT],[BT],[BT],[BT],[BT],[BT],[BT],[BT],[BT],[BT],[BT,.i ((↑(List.length (List.map aj b.log.safe)):Int) + (↑(List.length (List.map aj b.log.loose)):Int))],[BT],[BT]] ?_
    conv=>whnf
    refine J ⟨I,I,I,I,I,Zdr,xA,I,I,⟨tO,I⟩,⟨tO,I⟩,⟨tO,I⟩,⟨tO,I⟩,⟨tO,I⟩,⟨tO,I⟩,⟨tO,I⟩,⟨tO,AS,xA⟩,⟨tO,I⟩,⟨tO,I⟩,⟨tO,UB,I,UT,UA,AS⟩,tO,I,Zdh,Zdh,Zdh,Zdh,Zdh,Zdh,Zdh,Zdh,Zdh,Zdh,Zdh,Zdh,⟨rfl,w64 LN LN⟩,Zdh,rfl,I⟩<|J KR<|W.cn<|J (fun h1=>?_) fun h1=>?_
    replace h1:=dt h1
    simp only[LM]at h1
    refine gd 49 58 [[],[],[],[],[],[],[],[.n (Int.toNat m.task)],[.x (aj y)]] ?_
    conv=>whnf
    refine J ⟨I,I,I,I,I,I,I,Zdr,Zem,I⟩<|J KR<|gd 58 78 [[],[],[],[],[],[],[],[],[],[],[],[],[],[],[.call (V.s (dk {kind:=2,epoch:=b.epoch,task:=m.task,text:=m.text:Entry})) [[]]],[],[],[],[],[],[]] ?_
    conv=>whnf
    refine J ⟨I,I,I,I,I,I,I,I,I,I,I,I,I,I,Zdd,US,Zdm,I,I,I,UA,I⟩<|J KR<|rg [.n (Int.toNat m.task),.x (aO j)]<|J ⟨I,I,I,I,I,I,Zdr,⟨UC,xA⟩,I⟩<|W.sq<|gd 78 101 [[],[],[],[],[],[.n (Int.toNat m.task)],[.x (aM (aj y) 0 [T.v (Value.string m.text)])],[],[],[BF],[BF],[BF],[BF],[BF],[BF],[BF],[BF]] ?_
    conv=>whnf
    refine J ⟨I,I,I,I,I,Zdr,bS LN,I,I,dO,dO,dO,dO,dO,dO,dO,dO,I⟩<|J KR<|W.cn<|J (noT rfl) fun _=>W.skip<|W.sq<|gd 101 124 [[],[],[],[],[],[.n (Int.toNat m.task)],[.x (aM (aj y) 0 [T.v (Value.string m.text)])],[],[],[],[],[BF],[BF],[BF],[BF],[BF],[BF],[BF]] ?_
    conv=>whnf
    refine J ⟨I,I,I,I,I,Zdr,bS LN,I,I,I,I,⟨ea rfl,I⟩,⟨ea rfl,I⟩,⟨ea rfl,I⟩,⟨ea rfl,I⟩,⟨ea rfl,I⟩,⟨ea rfl,I⟩,ea rfl,I⟩<|J KR<|W.cn<|J (fun h2=>?_) fun h2=>?_
    replace h2:=dt h2
    simp only[LM]at h2
    omega
    replace h2:=df h2
    simp only[LM]at h2
    refine W.skip<|W.sq<|g 124 128 []<|J UF<|W.blk ?_
    rotate_left
    replace h1:=df h1
    simp only[LM]at h1
    omega
    refine W.lp (fun s (n:Nat)=>⟨[(0,s.s 0),(1,s.s 1),(2,s.s 2),(5,s.s 5),(6,s.s 6),(8,s.s 8),(128,s.s 128),(129,s.s 129),(130,.i n)],[(162,[s.c 162 0,s.c 162 1,s.c 162 2,s.c 162 3,s.c 162 4,s.c 162 5,s.c 162 6,s.c 162 7,s.c 162 8,s.c 162 9,s.c 162 10,s.c 162 11]),(5,[s.c 5 0]),(6,[s.c 6 0,s.c 6 1,s.c 6 2,s.c 6 3,s.c 6 4,s.c 6 5,s.c 6 6,s.c 6 7])],[]⟩) (fun(n:Nat)=>n≤b.owed.length∧∀ o∈b.owed.take n,¬(o.worker = m.frm∧o.lease = m.lease)) (fun(n:Nat)=>b.owed.length - n) (0) [some 162,some 5,some 6] [] Zdo (by simp) ?_
    rintro n ⟨hn,hc⟩
    by_cases hn2:n < b.owed.length
    ·obtain⟨o,ho⟩:=af hn2
     by_cases hw:o.worker = m.frm
     ·by_cases hl:o.lease = m.lease
      ·rw[gX (b:=mI b m) (fun q=>sG ho ⟨hw,hl⟩ q.new)]
       conv=>whnf
       refine g 0 0 []<|J UA<|W.sq<|W.cn<|J (fun _=>(W.skip (W.sq (W.blk (g 131 134 [.n (n),.x (aL o)]<|J Zc1 (g 134 145 [BT,BT,BT,BT,BT,BT]<|J Zcl (W.cn<|J (fun _=>(W.ret (EndsW.rt<|J I<|J ?_ ?_))) (noF tO)))))))) (noF SI)
       rfl
       all_goals (simp only[mI,aN,cellsOf,List.map_set,List.map_append,List.map_cons,List.map_nil];rfl)
      ·conv=>whnf
       refine g 0 0 []<|J UA<|W.sq<|W.cn<|J (fun _=>(W.skip (W.sq (W.blk (g 131 134 [.n (n),.x (aL o)]<|J Zc1 (g 134 145 [BT,BT,BT,BT,BT,BT]<|J Zcl (W.cn<|J (noT dO) fun _=>(W.skip (rg [.i ((n:Int) +1)]<|J Zdn ?_))))))))) (noF SI)
       refine⟨n+1,[some 162,some 5,some 6],[],Zdo,?_,?_⟩
       rotate_left
       (dsimp only;omega)
       dsimp only
       exact⟨by omega,dV hc ho fun q=>hl q.2⟩
     ·conv=>whnf
      refine g 0 0 []<|J UA<|W.sq<|W.cn<|J (fun _=>(W.skip (W.sq (W.blk (g 131 134 [.n (n),.x (aL o)]<|J Zc1 (g 134 145 [BF,BF,BF,BF,BF,BF]<|J ⟨I,I,I,I,I,I,dO,dO,dO,dO,dO,dO,I⟩ (W.cn<|J (noT rfl) fun _=>(W.skip (rg [.i ((n:Int) +1)]<|J Zdn ?_))))))))) (noF SI)
      refine⟨n+1,[some 162,some 5,some 6],[],Zdo,?_,?_⟩
      rotate_left
      (dsimp only;omega)
      dsimp only
      exact⟨by omega,dV hc ho fun q=>hw q.1⟩
    ·rw[aF OM]at hc
     rw[sB (Jr (ts:=p.tasks) hkr hO hc)]
     conv=>whnf
     refine g 0 0 []<|J UA<|W.sq<|W.cn<|J (noT SI) fun _=>W.exit<|rgd [[],[],[],[],[],[],[],[],[],[],[],[],[],[],[],[]] ?_
     conv=>whnf
     refine J ⟨I,I,I,I,I,I,I,I,I,I,I,⟨UC,I⟩,Zdm,I,I,UA,I⟩<|J KR<|EndsW.nm<|J I<|J ?_ ?_
     rfl
     all_goals (simp only[mI,aN,cellsOf,List.map_set,List.map_append,List.map_cons,List.map_nil];rfl)
   ·rw[gX (b:=mI b m) (fun q=>hO q.room)]
    refine bH ?_
    conv=>whnf
    refine g 0 0 []<|J Zed<|g 11 13 []<|J UC<|W.sq<|gd 13 49 [[],[],[],[],[],[.n (Int.toNat m.task)],[.x (aj y)],[],[],[BT],[BT],[BT],[BT],[BT],[BT],[BT],[BT,.x (ay t)],[BT],[BT],[BT,.call VT [[],[]]],[BT],[],[BT],[BT],[BT],[BT],[BT],[BT],[BT],[BT],[BT],[BT],[BT],[BT],[BT,.i ((↑(List.length (List.map aj b.log.safe)):Int) + (↑(List.length (List.map aj b.log.loose)):Int))],[BT],[BT]] ?_
    conv=>whnf
    refine J ⟨I,I,I,I,I,Zdr,xA,I,I,⟨tO,I⟩,⟨tO,I⟩,⟨tO,I⟩,⟨tO,I⟩,⟨tO,I⟩,⟨tO,I⟩,⟨tO,I⟩,⟨tO,AS,xA⟩,⟨tO,I⟩,⟨tO,I⟩,⟨tO,UB,I,UT,UA,AS⟩,tO,I,Zdh,Zdh,Zdh,Zdh,Zdh,Zdh,Zdh,Zdh,Zdh,Zdh,Zdh,Zdh,⟨rfl,w64 LN LN⟩,Zdh,rfl,I⟩<|J KR<|W.cn<|J (fun h1=>?_) fun h1=>?_
    replace h1:=dt h1
    simp only[LM]at h1
    refine gd 49 58 [[],[],[],[],[],[],[],[.n (Int.toNat m.task)],[.x (aj y)]] ?_
    conv=>whnf
    refine J ⟨I,I,I,I,I,I,I,Zdr,Zem,I⟩<|J KR<|gd 58 78 [[],[],[],[],[],[],[],[],[],[],[],[],[],[],[.call (V.s (dk {kind:=2,epoch:=b.epoch,task:=m.task,text:=m.text:Entry})) [[]]],[],[],[],[],[],[]] ?_
    conv=>whnf
    refine J ⟨I,I,I,I,I,I,I,I,I,I,I,I,I,I,Zdd,US,Zdm,I,I,I,UA,I⟩<|J KR<|rg [.n (Int.toNat m.task),.x (aO j)]<|J ⟨I,I,I,I,I,I,Zdr,⟨UC,xA⟩,I⟩<|W.sq<|gd 78 101 [[],[],[],[],[],[.n (Int.toNat m.task)],[.x (aM (aj y) 0 [T.v (Value.string m.text)])],[],[],[BF],[BF],[BF],[BF],[BF],[BF],[BF],[BF]] ?_
    conv=>whnf
    refine J ⟨I,I,I,I,I,Zdr,bS LN,I,I,dO,dO,dO,dO,dO,dO,dO,dO,I⟩<|J KR<|W.cn<|J (noT rfl) fun _=>W.skip<|W.sq<|gd 101 124 [[],[],[],[],[],[.n (Int.toNat m.task)],[.x (aM (aj y) 0 [T.v (Value.string m.text)])],[],[],[],[],[BF],[BF],[BF],[BF],[BF],[BF],[BF]] ?_
    conv=>whnf
    refine J ⟨I,I,I,I,I,Zdr,bS LN,I,I,I,I,⟨ea rfl,I⟩,⟨ea rfl,I⟩,⟨ea rfl,I⟩,⟨ea rfl,I⟩,⟨ea rfl,I⟩,⟨ea rfl,I⟩,ea rfl,I⟩<|J KR<|W.cn<|J (fun h2=>?_) fun h2=>?_
    replace h2:=dt h2
    simp only[LM]at h2
    refine W.ret<|EndsW.rt<|J I<|J ?_ ?_
    rfl
    rotate_left
    replace h2:=df h2
    simp only[LM]at h2
    omega
    replace h1:=df h1
    simp only[LM]at h1
    omega
    all_goals (simp only[mI,aN,cellsOf,List.map_set,List.map_append,List.map_cons,List.map_nil];rfl)
  ·rw[Mz hP (by rw[hya];exact hA) hte]
   by_cases hF:cX b.results t.deps
   ·rw[decide_eq_true hF]at crd
    have hR:¬b.log.safe.length+b.log.loose.length < 310:=fun q=>hP ⟨by rw[hya];exact hA,by rw[dW ht0];exact hF,q⟩
    by_cases ho:rR b m
    ·have ho2:=hold.1 ho
     rw[sL ho]
     refine bH ?_
     conv=>whnf
     refine g 0 0 []<|J Zed<|g 11 13 []<|J UC<|W.sq<|gd 13 49 [[],[],[],[],[],[.n (Int.toNat m.task)],[.x (aj y)],[],[],[BT],[BT],[BT],[BT],[BT],[BT],[BT],[BT,.x (ay t)],[BT],[BT],[BT,.call VT [[],[]]],[BT],[],[BT],[BT],[BT],[BT],[BT],[BT],[BT],[BT],[BT],[BT],[BT],[BT],[BT,.i ((↑(List.length (List.map aj b.log.safe)):Int) + (↑(List.length (List.map aj b.log.loose)):Int))],[BT],[BT]] ?_
     conv=>whnf
     refine J ⟨I,I,I,I,I,Zdr,xA,I,I,⟨tO,I⟩,⟨tO,I⟩,⟨tO,I⟩,⟨tO,I⟩,⟨tO,I⟩,⟨tO,I⟩,⟨tO,I⟩,⟨tO,AS,xA⟩,⟨tO,I⟩,⟨tO,I⟩,⟨tO,UB,I,UT,UA,AS⟩,tO,I,Zdh,Zdh,Zdh,Zdh,Zdh,Zdh,Zdh,Zdh,Zdh,Zdh,Zdh,Zdh,⟨rfl,w64 LN LN⟩,Zdh,rfl,I⟩<|J KR<|W.cn<|J (fun h1=>?_) fun h1=>?_
     replace h1:=dt h1
     simp only[LM]at h1
     omega
     replace h1:=df h1
     simp only[LM]at h1
     refine W.skip<|W.sq<|gd 49 101 [[],[],[],[],[],[.n (Int.toNat m.task)],[.x (aj y)],[],[],[BT],[BT],[BT],[BT],[BT],[BT,.x (aG x)],[BT],[BT]] ?_
     conv=>whnf
     refine J Zbt<|J KR<|W.cn<|J (noT dO) fun _=>W.skip<|W.sq ?_
     by_cases h2:y = Message.text m
     refine gd 101 124 [[],[],[],[],[],[.n (Int.toNat m.task)],[.x (aj y)],[],[],[],[],[BF],[BF],[BF],[BF],[BF],[BF],[BF]] ?_
     conv=>whnf
     refine J Za6<|J KR<|W.cn<|J (fun _=>(RT ?_)) (noF (by simp_all))
     rfl
     refine gd 101 124 [[],[],[],[],[],[.n (Int.toNat m.task)],[.x (aj y)],[],[],[],[],[BT],[BT],[BT],[BT],[BT],[BT],[BT]] ?_
     conv=>whnf
     refine J Zbs<|J KR<|W.cn<|J (fun _=>(RT ?_)) (noF rfl)
     rfl
    ·have ho2:¬m.epoch < x.epoch:=fun q=>ho (hold.2 q)
     rw[ml ho]
     refine bH ?_
     conv=>whnf
     refine g 0 0 []<|J Zed<|g 11 13 []<|J UC<|W.sq<|gd 13 49 [[],[],[],[],[],[.n (Int.toNat m.task)],[.x (aj y)],[],[],[BT],[BT],[BT],[BT],[BT],[BT],[BT],[BT,.x (ay t)],[BT],[BT],[BT,.call VT [[],[]]],[BT],[],[BT],[BT],[BT],[BT],[BT],[BT],[BT],[BT],[BT],[BT],[BT],[BT],[BT,.i ((↑(List.length (List.map aj b.log.safe)):Int) + (↑(List.length (List.map aj b.log.loose)):Int))],[BT],[BT]] ?_
     conv=>whnf
     refine J ⟨I,I,I,I,I,Zdr,xA,I,I,⟨tO,I⟩,⟨tO,I⟩,⟨tO,I⟩,⟨tO,I⟩,⟨tO,I⟩,⟨tO,I⟩,⟨tO,I⟩,⟨tO,AS,xA⟩,⟨tO,I⟩,⟨tO,I⟩,⟨tO,UB,I,UT,UA,AS⟩,tO,I,Zdh,Zdh,Zdh,Zdh,Zdh,Zdh,Zdh,Zdh,Zdh,Zdh,Zdh,Zdh,⟨rfl,w64 LN LN⟩,Zdh,rfl,I⟩<|J KR<|W.cn<|J (fun h1=>?_) fun h1=>?_
     replace h1:=dt h1
     simp only[LM]at h1
     omega
     replace h1:=df h1
     simp only[LM]at h1
     refine W.skip<|W.sq<|gd 49 101 [[],[],[],[],[],[.n (Int.toNat m.task)],[.x (aj y)],[],[],[BT],[BT],[BT],[BT],[BT],[BT,.x (aG x)],[BT],[BT]] ?_
     conv=>whnf
     refine J Zbt<|J KR<|W.cn<|J (fun _=>(rg [.x (aG x)]<|J ⟨I,I,I,I,I,⟨UB,xA⟩,I⟩ (W.sq ?_))) (noF tO)
     by_cases h2:y = Message.text m
     refine gd 101 124 [[],[],[],[],[],[.n (Int.toNat m.task)],[.x (aj y)],[],[],[],[],[BF],[BF],[BF],[BF],[BF],[BF],[BF]] ?_
     conv=>whnf
     refine J Za6<|J KR<|W.cn<|J (fun _=>(W.ret (EndsW.rt<|J I<|J ?_ ?_))) (noF (by simp_all))
     rfl
     rotate_left
     refine gd 101 124 [[],[],[],[],[],[.n (Int.toNat m.task)],[.x (aj y)],[],[],[],[],[BT],[BT],[BT],[BT],[BT],[BT],[BT]] ?_
     conv=>whnf
     refine J Zbs<|J KR<|W.cn<|J (fun _=>(W.ret (EndsW.rt<|J I<|J ?_ ?_))) (noF rfl)
     rfl
     rotate_left
     all_goals (simp only[mI,aN,cellsOf,List.map_set,List.map_append,List.map_cons,List.map_nil];rfl)
   ·rw[decide_eq_false hF]at crd
    by_cases ho:rR b m
    ·have ho2:=hold.1 ho
     rw[sL ho]
     refine bH ?_
     conv=>whnf
     refine g 0 0 []<|J Zed<|g 11 13 []<|J UC<|W.sq<|gd 13 49 [[],[],[],[],[],[.n (Int.toNat m.task)],[.x (aj y)],[],[],[BT],[BT],[BT],[BT],[BT],[BT],[BT],[BT,.x (ay t)],[BT],[BT],[BT,.call VF [[],[]]],[BT],[],[BF],[BF],[BF],[BF],[BF],[BF],[BF],[BF],[BF],[BF],[BF],[BF],[BF],[BF],[BF]] ?_
     conv=>whnf
     refine J Zbr<|J KR<|W.cn<|J (noT rfl) fun _=>W.skip<|W.sq<|gd 49 101 [[],[],[],[],[],[.n (Int.toNat m.task)],[.x (aj y)],[],[],[BT],[BT],[BT],[BT],[BT],[BT,.x (aG x)],[BT],[BT]] ?_
     conv=>whnf
     refine J Zbt<|J KR<|W.cn<|J (noT dO) fun _=>W.skip<|W.sq ?_
     by_cases h1:y = Message.text m
     refine gd 101 124 [[],[],[],[],[],[.n (Int.toNat m.task)],[.x (aj y)],[],[],[],[],[BF],[BF],[BF],[BF],[BF],[BF],[BF]] ?_
     conv=>whnf
     refine J Za6<|J KR<|W.cn<|J (fun _=>(RT ?_)) (noF (by simp_all))
     rfl
     refine gd 101 124 [[],[],[],[],[],[.n (Int.toNat m.task)],[.x (aj y)],[],[],[],[],[BT],[BT],[BT],[BT],[BT],[BT],[BT]] ?_
     conv=>whnf
     refine J Zbs<|J KR<|W.cn<|J (fun _=>(RT ?_)) (noF rfl)
     rfl
    ·have ho2:¬m.epoch < x.epoch:=fun q=>ho (hold.2 q)
     rw[ml ho]
     refine bH ?_
     conv=>whnf
     refine g 0 0 []<|J Zed<|g 11 13 []<|J UC<|W.sq<|gd 13 49 [[],[],[],[],[],[.n (Int.toNat m.task)],[.x (aj y)],[],[],[BT],[BT],[BT],[BT],[BT],[BT],[BT],[BT,.x (ay t)],[BT],[BT],[BT,.call VF [[],[]]],[BT],[],[BF],[BF],[BF],[BF],[BF],[BF],[BF],[BF],[BF],[BF],[BF],[BF],[BF],[BF],[BF]] ?_
     conv=>whnf
     refine J Zbr<|J KR<|W.cn<|J (noT rfl) fun _=>W.skip<|W.sq<|gd 49 101 [[],[],[],[],[],[.n (Int.toNat m.task)],[.x (aj y)],[],[],[BT],[BT],[BT],[BT],[BT],[BT,.x (aG x)],[BT],[BT]] ?_
     conv=>whnf
     refine J Zbt<|J KR<|W.cn<|J (fun _=>(rg [.x (aG x)]<|J ⟨I,I,I,I,I,⟨UB,xA⟩,I⟩ (W.sq ?_))) (noF tO)
     by_cases h1:y = Message.text m
     refine gd 101 124 [[],[],[],[],[],[.n (Int.toNat m.task)],[.x (aj y)],[],[],[],[],[BF],[BF],[BF],[BF],[BF],[BF],[BF]] ?_
     conv=>whnf
     refine J Za6<|J KR<|W.cn<|J (fun _=>(W.ret (EndsW.rt<|J I<|J ?_ ?_))) (noF (by simp_all))
     rfl
     rotate_left
     refine gd 101 124 [[],[],[],[],[],[.n (Int.toNat m.task)],[.x (aj y)],[],[],[],[],[BT],[BT],[BT],[BT],[BT],[BT],[BT]] ?_
     conv=>whnf
     refine J Zbs<|J KR<|W.cn<|J (fun _=>(W.ret (EndsW.rt<|J I<|J ?_ ?_))) (noF rfl)
     rfl
     rotate_left
     all_goals (simp only[mI,aN,cellsOf,List.map_set,List.map_append,List.map_cons,List.map_nil];rfl)
 ·rw[Jk (by rw[hya];exact hA)]
  by_cases hs:y = m.text
  ·by_cases hO:b.owed.length < 2000
   ·refine bH ?_
    conv=>whnf
    refine g 0 0 []<|J Zed<|g 11 13 []<|J UC<|W.sq<|gd 13 49 [[],[],[],[],[],[.n (Int.toNat m.task)],[.x (aj y)],[],[],[BF],[BF],[BF],[BF],[BF],[BF],[BF],[BF],[BF],[BF],[BF],[BF],[],[BF],[BF],[BF],[BF],[BF],[BF],[BF],[BF],[BF],[BF],[BF],[BF],[BF],[BF],[BF]] ?_
    conv=>whnf
    refine J Zbx<|J KR<|W.cn<|J (noT rfl) fun _=>W.skip<|W.sq<|gd 49 101 [[],[],[],[],[],[.n (Int.toNat m.task)],[.x (aj y)],[],[],[BF],[BF],[BF],[BF],[BF],[BF],[BF],[BF]] ?_
    conv=>whnf
    refine J ⟨I,I,I,I,I,Zdr,xA,I,I,dO,dO,dO,dO,dO,dO,dO,dO,I⟩<|J KR<|W.cn<|J (noT rfl) fun _=>W.skip<|W.sq<|gd 101 124 [[],[],[],[],[],[.n (Int.toNat m.task)],[.x (aj y)],[],[],[],[],[BF],[BF],[BF],[BF],[BF],[BF],[BF]] ?_
    conv=>whnf
    refine J Za6<|J KR<|W.cn<|J (fun h1=>?_) fun h1=>?_
    replace h1:=dt h1
    simp only[LM]at h1
    omega
    replace h1:=df h1
    simp only[LM]at h1
    refine W.skip<|W.sq<|g 124 128 []<|J UF<|W.blk<|W.lp (fun s (n:Nat)=>⟨[(0,s.s 0),(1,s.s 1),(2,s.s 2),(5,s.s 5),(6,s.s 6),(8,s.s 8),(128,s.s 128),(129,s.s 129),(130,.i n)],[(162,[s.c 162 0,s.c 162 1,s.c 162 2,s.c 162 3,s.c 162 4,s.c 162 5,s.c 162 6,s.c 162 7,s.c 162 8,s.c 162 9,s.c 162 10,s.c 162 11]),(5,[s.c 5 0]),(6,[s.c 6 0,s.c 6 1,s.c 6 2,s.c 6 3,s.c 6 4,s.c 6 5,s.c 6 6,s.c 6 7])],[]⟩) (fun(n:Nat)=>n≤b.owed.length∧∀ o∈b.owed.take n,¬(o.worker = m.frm∧o.lease = m.lease)) (fun(n:Nat)=>b.owed.length - n) (0) [some 162,some 5,some 6] [] Zdo (by simp) ?_
    rintro n ⟨hn,hc⟩
    by_cases hn2:n < b.owed.length
    ·obtain⟨o,ho⟩:=af hn2
     by_cases hw:o.worker = m.frm
     ·by_cases hl:o.lease = m.lease
      ·rw[gX (fun q=>sG ho ⟨hw,hl⟩ q.new)]
       conv=>whnf
       refine g 0 0 []<|J UA<|W.sq<|W.cn<|J (fun _=>(W.skip (W.sq (W.blk (g 131 134 [.n (n),.x (aL o)]<|J Zc1 (g 134 145 [BT,BT,BT,BT,BT,BT]<|J Zcl (W.cn<|J (fun _=>(RT ?_)) (noF tO)))))))) (noF SI)
       rfl
       all_goals (simp only[mI,aN,cellsOf,List.map_set,List.map_append,List.map_cons,List.map_nil];rfl)
      ·conv=>whnf
       refine g 0 0 []<|J UA<|W.sq<|W.cn<|J (fun _=>(W.skip (W.sq (W.blk (g 131 134 [.n (n),.x (aL o)]<|J Zc1 (g 134 145 [BT,BT,BT,BT,BT,BT]<|J Zcl (W.cn<|J (noT dO) fun _=>(W.skip (rg [.i ((n:Int) +1)]<|J Zdn ?_))))))))) (noF SI)
       refine⟨n+1,[some 162,some 5,some 6],[],Zdo,?_,?_⟩
       rotate_left
       (dsimp only;omega)
       dsimp only
       exact⟨by omega,dV hc ho fun q=>hl q.2⟩
     ·conv=>whnf
      refine g 0 0 []<|J UA<|W.sq<|W.cn<|J (fun _=>(W.skip (W.sq (W.blk (g 131 134 [.n (n),.x (aL o)]<|J Zc1 (g 134 145 [BF,BF,BF,BF,BF,BF]<|J ⟨I,I,I,I,I,I,dO,dO,dO,dO,dO,dO,I⟩ (W.cn<|J (noT rfl) fun _=>(W.skip (rg [.i ((n:Int) +1)]<|J Zdn ?_))))))))) (noF SI)
      refine⟨n+1,[some 162,some 5,some 6],[],Zdo,?_,?_⟩
      rotate_left
      (dsimp only;omega)
      dsimp only
      exact⟨by omega,dV hc ho fun q=>hw q.1⟩
    ·rw[aF OM]at hc
     rw[sB ⟨by rw[hya];exact hs,hO,hc⟩]
     conv=>whnf
     refine g 0 0 []<|J UA<|W.sq<|W.cn<|J (noT SI) fun _=>W.exit<|rgd [[],[],[],[],[],[],[],[],[],[],[],[],[],[],[],[]] ?_
     conv=>whnf
     refine J ⟨I,I,I,I,I,I,I,I,I,I,I,⟨UC,I⟩,Zdm,I,I,UA,I⟩<|J KR<|EndsW.nm<|J I<|J ?_ ?_
     rfl
     all_goals (simp only[mI,aN,cellsOf,List.map_set,List.map_append,List.map_cons,List.map_nil];rfl)
   ·rw[gX (fun q=>hO q.room)]
    refine bH ?_
    conv=>whnf
    refine g 0 0 []<|J Zed<|g 11 13 []<|J UC<|W.sq<|gd 13 49 [[],[],[],[],[],[.n (Int.toNat m.task)],[.x (aj y)],[],[],[BF],[BF],[BF],[BF],[BF],[BF],[BF],[BF],[BF],[BF],[BF],[BF],[],[BF],[BF],[BF],[BF],[BF],[BF],[BF],[BF],[BF],[BF],[BF],[BF],[BF],[BF],[BF]] ?_
    conv=>whnf
    refine J Zbx<|J KR<|W.cn<|J (noT rfl) fun _=>W.skip<|W.sq<|gd 49 101 [[],[],[],[],[],[.n (Int.toNat m.task)],[.x (aj y)],[],[],[BF],[BF],[BF],[BF],[BF],[BF],[BF],[BF]] ?_
    conv=>whnf
    refine J ⟨I,I,I,I,I,Zdr,xA,I,I,dO,dO,dO,dO,dO,dO,dO,dO,I⟩<|J KR<|W.cn<|J (noT rfl) fun _=>W.skip<|W.sq<|gd 101 124 [[],[],[],[],[],[.n (Int.toNat m.task)],[.x (aj y)],[],[],[],[],[BF],[BF],[BF],[BF],[BF],[BF],[BF]] ?_
    conv=>whnf
    refine J Za6<|J KR<|W.cn<|J (fun h1=>?_) fun h1=>?_
    replace h1:=dt h1
    simp only[LM]at h1
    refine RT ?_
    rfl
    replace h1:=df h1
    simp only[LM]at h1
    omega
  ·rw[gX (fun q=>hs (by rw[←q.same,hya]))]
   refine bH ?_
   conv=>whnf
   refine g 0 0 []<|J Zed<|g 11 13 []<|J UC<|W.sq<|gd 13 49 [[],[],[],[],[],[.n (Int.toNat m.task)],[.x (aj y)],[],[],[BF],[BF],[BF],[BF],[BF],[BF],[BF],[BF],[BF],[BF],[BF],[BF],[],[BF],[BF],[BF],[BF],[BF],[BF],[BF],[BF],[BF],[BF],[BF],[BF],[BF],[BF],[BF]] ?_
   conv=>whnf
   refine J Zbx<|J KR<|W.cn<|J (noT rfl) fun _=>W.skip<|W.sq<|gd 49 101 [[],[],[],[],[],[.n (Int.toNat m.task)],[.x (aj y)],[],[],[BF],[BF],[BF],[BF],[BF],[BF],[BF],[BF]] ?_
   conv=>whnf
   refine J ⟨I,I,I,I,I,Zdr,xA,I,I,dO,dO,dO,dO,dO,dO,dO,dO,I⟩<|J KR<|W.cn<|J (noT rfl) fun _=>W.skip<|W.sq<|gd 101 124 [[],[],[],[],[],[.n (Int.toNat m.task)],[.x (aj y)],[],[],[],[],[BT],[BT],[BT],[BT],[BT],[BT],[BT]] ?_
   conv=>whnf
   refine J Zbs<|J KR<|W.cn<|J (fun _=>(RT ?_)) (noF rfl)
   rfl
end Go.K
end
section
open Go Go.Tm Go.Proofs
namespace Go.K
theorem JT{w:Int}{js:List Job}{n:Nat}{j:Job}(h:js[n]? = some j)(hd:j.worker = w):((gj (mQ w) js n).map aO).set n (aO fR) = (gj (mQ w) js (n+1)).map aO:=by
 have:=lP (f:=mQ w) (g:=aO) h
 rw[show mQ w j = fR from if_pos hd]at this
 exact this
theorem MZ{w:Int}{js:List Job}{n:Nat}{j:Job}(h:js[n]? = some j)(hd:¬j.worker = w):gj (mQ w) js n = gj (mQ w) js (n+1):=oH h (if_neg hd)
theorem Ka{l u:Int}{js:List Job}{n:Nat}{j:Job}(h:js[n]? = some j)(hd:j.lease = l):((gj (nw l u) js n).map aO).set n (aO ⟨j.lease,j.worker,u⟩) = (gj (nw l u) js (n+1)).map aO:=by
 have:=lP (f:=nw l u) (g:=aO) h
 rw[show nw l u j = ⟨j.lease,j.worker,u⟩from if_pos hd]at this
 exact this
theorem NV{l u:Int}{js:List Job}{n:Nat}{j:Job}(h:js[n]? = some j)(hd:¬j.lease = l):gj (nw l u) js n = gj (nw l u) js (n+1):=oH h (if_neg hd)
theorem Se{b:Boss}{p:Plan}{m:Message}(hv:BossOk b p)(h:BossLim b)(hf:ForB b m)(hk:m.kind = 3)(ht:m.task < p.tasks.length):ResIn b p.tasks m:=by
 obtain⟨u1,u2,u3,u4,u5,u6,⟨u7,u8⟩,⟨u9,u10⟩,u11,u12,u13,u14⟩:=hv.up hf.up
 obtain⟨_,⟨f1,_⟩,_⟩:=oc hf
 obtain⟨_,⟨t1,_⟩,tx⟩:=GT hf hk
 have hw:=hv.workers
 have f2:=hf.frm
 exact⟨hv.plan,u3,u4,⟨t1,ht⟩,h.safe,h.loose,h.owed,by omega,⟨f1,by omega⟩,tx⟩
theorem uV(b:Boss)(p:Plan)(m:Message)(hv:BossOk b p)(h:BossLim b)(hm:m.inputs.length≤9223372036854775806):F tP [.ptr (cellsOf (aN b)),.val (cR p),.val (eC m)] (.tup []) [cellsOf (aN (hY b p.tasks m)),[],[]]:=by
 have cm:=cL m hm
 by_cases hf:ForB b m
 ·obtain⟨u1,u2,u3,u4,u5,u6,⟨u7,u8⟩,⟨u9,u10⟩,u11,u12,u13,u14⟩:=hv.up hf.up
  obtain⟨hkd,⟨f1,f2⟩,⟨e1,e2⟩⟩:=oc hf
  have hnow:=hv.now
  have hwk:=hv.workers
  have hpl:=(bU hv.plan).1
  obtain⟨g1,g2,g3,g4⟩:=hf
  have hf:ForB b m:=⟨g1,g2,g3,g4⟩
  rw[decide_eq_true g2]at cm
  have hsi:gp m < b.seats.length:=by unfold gp;omega
  obtain⟨x,hx⟩:=af hsi
  have hx':b.seats[(m.frm - 1).toNat]? = some x:=hx
  have hold:=Hf hx
  rcases hkd with hk|hk|hk
  ·rw[oz hf hk]
   refine cq ?_
   conv=>whnf
   refine g 2 3 []<|J Zed<|W.sq<|gd 9 32 [[],[],[],[],[],[],[BF],[BF,.call VT [[]]],[BF],[BF],[],[BF],[BF],[BF],[BF],[],[BF],[BF],[BF],[BF],[BF],[BF],[BF],[BF]] ?_
   conv=>whnf
   refine J Zam<|J KR<|W.cn<|J (noT dO) fun _=>W.skip<|gd 32 41 [[],[],[],[],[],[],[.i (m.frm - 1)],[.n (Int.toNat (m.frm - 1))],[]] ?_
   conv=>whnf
   refine J Zc6<|J KR<|g 41 42 []<|J UB<|W.blk<|g 44 45 []<|J UB<|W.cn<|J (noT dO) fun _=>g 1 2 []<|J UB<|W.cn<|J (fun _=>(g 6 90 []<|J UF (W.blk (W.lp (fun s (n:Nat)=>⟨[(0,s.s 0),(5,s.s 5),(90,s.s 90),(91,.i n)],[(5,[s.c 5 0,s.c 5 1,s.c 5 2,s.c 5 3,s.c 5 4,s.c 5 5,s.c 5 6,s.c 5 7]),(131,[.t (.i b.workers),.t (.b b.up),.t (.i b.now),.t (.i b.since),.t (.i b.epoch),.t (.i b.given),.own [false] (b.log.safe.map aj),.own [false] (b.log.loose.map aj),.own [false] (b.results.map aj),.own eG ((gj (nw m.lease (b.now+12)) b.jobs n).map aO),.own cx (b.seats.map aG),.own cy (b.owed.map aL)])],[]⟩) (fun(n:Nat)=>n≤b.jobs.length) (fun(n:Nat)=>b.jobs.length - n) (0) [some 5,some 131] [] ⟨rfl,Zay,⟨Zab,⟨Zaa,I⟩⟩,I⟩ OM ?_)))) (noF tO)
   intro n hn
   have hl:=iR (nw m.lease (b.now+12)) b.jobs n
   by_cases hj:n < b.jobs.length
   ·obtain⟨j,hj1⟩:=af hj
    by_cases hd:j.lease = m.lease
    ·have e:=Ka (u:=b.now+12) hj1 hd
     conv=>whnf
     refine g 0 0 []<|J UA<|W.sq<|W.cn<|J (fun _=>(W.skip (W.sq (W.blk (g 92 94 []<|J UB (gd 94 104 [[],[],[],[],[],[.n (n)],[],[.x (aO j)],[],[],[]] ?_)))))) (noF (by simp_all))
     conv=>whnf
     refine⟨⟨I,I,I,I,I,Zdj,I,br AS,I,I,I,I⟩,by kernel_rfl,?_⟩
     refine W.cn<|J (fun _=>(rgd [[],[],[],[],[],[],[],[],[],[.i (b.now+12)],[.n (n)],[],[.x (aO j)]] ?_)) (noF tO)
     conv=>whnf
     refine⟨⟨I,I,I,I,I,I,I,I,I,wO,Zdj,I,⟨UA,br AS⟩,I⟩,by kernel_rfl,?_⟩
     refine rg [.i ((n:Int) +1)]<|J Zdn ?_
     refine⟨n+1,[some 5,some 131],[],⟨rfl,Zay,⟨Zab,⟨⟨rfl,⟨rfl,⟨rfl,⟨rfl,⟨rfl,⟨rfl,⟨rfl,⟨rfl,⟨rfl,⟨rfl,⟨(congrArg (V.own _) (e)),Zad⟩⟩⟩⟩⟩⟩⟩⟩⟩⟩⟩,I⟩⟩,I⟩,?_,?_⟩
     rotate_left
     (dsimp only;omega)
     dsimp only
     omega
    ·have e:=NV (u:=b.now+12) hj1 hd
     conv=>whnf
     refine g 0 0 []<|J UA<|W.sq<|W.cn<|J (fun _=>(W.skip (W.sq (W.blk (g 92 94 []<|J UB (gd 94 104 [[],[],[],[],[],[.n (n)],[],[.x (aO j)],[],[],[]] ?_)))))) (noF (by simp_all))
     conv=>whnf
     refine⟨⟨I,I,I,I,I,Zdj,I,br AS,I,I,I,I⟩,by kernel_rfl,?_⟩
     refine W.cn<|J (noT dO) fun _=>W.skip<|rg [.i ((n:Int) +1)]<|J Zdn ?_
     refine⟨n+1,[some 5,some 131],[],⟨rfl,Zay,⟨Zab,⟨⟨rfl,⟨rfl,⟨rfl,⟨rfl,⟨rfl,⟨rfl,⟨rfl,⟨rfl,⟨rfl,⟨rfl,⟨(congrArg (V.own _) (by rw[←e])),Zad⟩⟩⟩⟩⟩⟩⟩⟩⟩⟩⟩,I⟩⟩,I⟩,?_,?_⟩
     rotate_left
     (dsimp only;omega)
     dsimp only
     omega
   ·have e:=iT (nw m.lease (b.now+12)) b.jobs (n:=n) OM
    conv=>whnf
    refine g 0 0 []<|J UA<|W.sq<|W.cn<|J (noT (by simp_all)) fun _=>W.exit<|EndsW.nm<|J I<|J ?_ ?_
    rfl
    rw[e]
    rfl
  ·by_cases ht:m.task < p.tasks.length
   ·rw[su hf hk ht]
    have cr:=qk b p m (Se hv h hf hk ht)
    refine cq ?_
    conv=>whnf
    refine g 2 3 []<|J Zed<|W.sq<|gd 9 32 [[],[],[],[],[],[],[BF],[BF,.call VT [[]]],[BF],[BF],[],[BF],[BF],[BF],[BF],[],[BF],[BF],[BF],[BF],[BF],[BF],[BF],[BF]] ?_
    conv=>whnf
    refine J Zam<|J KR<|W.cn<|J (noT dO) fun _=>W.skip<|gd 32 41 [[],[],[],[],[],[],[.i (m.frm - 1)],[.n (Int.toNat (m.frm - 1))],[]] ?_
    conv=>whnf
    refine J Zc6<|J KR<|g 41 42 []<|J UB<|W.blk<|g 44 45 []<|J UB<|W.cn<|J (noT dO) fun _=>g 1 2 []<|J UB<|W.cn<|J (noT dO) fun _=>g 42 86 []<|J UB<|W.cn<|J (fun _=>(g 118 125 []<|J UF (W.cn<|J (fun _=>(rg [.call (V.tup []) ([cellsOf (aN (ff b p.tasks m)),[],[],[]])]<|J ⟨I,I,I,I,⟨UD,I,⟨I,UA,UH,I,I⟩,UA,AS⟩,I⟩ ?_)) (noF SI)))) (noF tO)
    refine EndsW.nm<|J I (J ?_ rfl)
    rfl
   ·rw[sv hf hk ht]
    refine cq ?_
    conv=>whnf
    refine g 2 3 []<|J Zed<|W.sq<|gd 9 32 [[],[],[],[],[],[],[BF],[BF,.call VT [[]]],[BF],[BF],[],[BF],[BF],[BF],[BF],[],[BF],[BF],[BF],[BF],[BF],[BF],[BF],[BF]] ?_
    conv=>whnf
    refine J Zam<|J KR<|W.cn<|J (noT dO) fun _=>W.skip<|gd 32 41 [[],[],[],[],[],[],[.i (m.frm - 1)],[.n (Int.toNat (m.frm - 1))],[]] ?_
    conv=>whnf
    refine J Zc6<|J KR<|g 41 42 []<|J UB<|W.blk<|g 44 45 []<|J UB<|W.cn<|J (noT dO) fun _=>g 1 2 []<|J UB<|W.cn<|J (noT dO) fun _=>g 42 86 []<|J UB<|W.cn<|J (fun _=>(g 118 125 []<|J UF (W.cn<|J (noT SI) fun _=>(W.skip ?_)))) (noF tO)
    refine EndsW.nm<|J I (J ?_ rfl)
    rfl
  ·rw[oy hf hk]
   by_cases ho:rR b m
   ·rw[JP ho]
    have ho2:=hold.1 ho
    refine cq ?_
    conv=>whnf
    refine g 2 3 []<|J Zed<|W.sq<|gd 9 32 [[],[],[],[],[],[],[BF],[BF,.call VT [[]]],[BF],[BF],[],[BF],[BF],[BF],[BF],[],[BF],[BF],[BF],[BF],[BF],[BF],[BF],[BF]] ?_
    conv=>whnf
    refine J Zam<|J KR<|W.cn<|J (noT dO) fun _=>W.skip<|gd 32 41 [[],[],[],[],[],[],[.i (m.frm - 1)],[.n (Int.toNat (m.frm - 1))],[]] ?_
    conv=>whnf
    refine J Zc6<|J KR<|g 41 42 []<|J UB<|W.blk<|g 44 45 []<|J UB<|W.cn<|J (fun _=>(gd 42 51 [[],[],[],[],[],[.x (aG x)],[]] ?_)) (noF tO)
    conv=>whnf
    refine⟨⟨I,I,I,I,I,xA,I,I⟩,by kernel_rfl,?_⟩
    refine W.cn<|J (noT dO) fun _=>W.skip<|EndsW.nm<|J I (J ?_ rfl)
    rfl
   ·rw[JQ ho]
    have ho2:¬m.epoch < x.epoch:=fun q=>ho (hold.2 q)
    have es:(b.seats.map aG).set (m.frm - 1).toNat (aG ⟨true,m.epoch⟩) = (b.seats.set (gp m) ⟨true,m.epoch⟩).map aG:=by rw[←List.map_set];rfl
    refine cq ?_
    conv=>whnf
    refine g 2 3 []<|J Zed<|W.sq<|gd 9 32 [[],[],[],[],[],[],[BF],[BF,.call VT [[]]],[BF],[BF],[],[BF],[BF],[BF],[BF],[],[BF],[BF],[BF],[BF],[BF],[BF],[BF],[BF]] ?_
    conv=>whnf
    refine J Zam<|J KR<|W.cn<|J (noT dO) fun _=>W.skip<|gd 32 41 [[],[],[],[],[],[],[.i (m.frm - 1)],[.n (Int.toNat (m.frm - 1))],[]] ?_
    conv=>whnf
    refine J Zc6<|J KR<|g 41 42 []<|J UB<|W.blk<|g 44 45 []<|J UB<|W.cn<|J (fun _=>(gd 42 51 [[],[],[],[],[],[.x (aG x)],[]] ?_)) (noF tO)
    conv=>whnf
    refine⟨⟨I,I,I,I,I,xA,I,I⟩,by kernel_rfl,?_⟩
    refine W.cn<|J (fun _=>(g 6 57 [.x (aG x)]<|J ⟨I,I,I,I,I,⟨UB,xA⟩,I⟩ (g 57 61 []<|J UF (W.blk (W.lp (fun s (n:Nat)=>⟨[(0,s.s 0),(5,s.s 5),(61,s.s 61),(62,.i n)],[(5,[s.c 5 0,s.c 5 1,s.c 5 2,s.c 5 3,s.c 5 4,s.c 5 5,s.c 5 6,s.c 5 7]),(131,[.t (.i b.workers),.t (.b b.up),.t (.i b.now),.t (.i b.since),.t (.i b.epoch),.t (.i b.given),.own [false] (b.log.safe.map aj),.own [false] (b.log.loose.map aj),.own [false] (b.results.map aj),.own eG ((gj (mQ m.frm) b.jobs n).map aO),.own cx ((b.seats.set (gp m) ⟨true,m.epoch⟩).map aG),.own cy (b.owed.map aL)])],[]⟩) (fun(n:Nat)=>n≤b.jobs.length) (fun(n:Nat)=>b.jobs.length - n) (0) [some 5,some 131] [] ⟨rfl,Zay,⟨Zab,⟨⟨rfl,⟨rfl,⟨rfl,⟨rfl,⟨rfl,⟨rfl,⟨rfl,⟨rfl,⟨rfl,⟨rfl,⟨rfl,⟨(congrArg (V.own _) (es)),Zdh⟩⟩⟩⟩⟩⟩⟩⟩⟩⟩⟩⟩,I⟩⟩,I⟩ OM ?_))))) (noF tO)
    intro n hn
    have hl:=iR (mQ m.frm) b.jobs n
    by_cases hj:n < b.jobs.length
    ·obtain⟨j,hj1⟩:=af hj
     by_cases hd:j.worker = m.frm
     ·have e:=JT hj1 hd
      conv=>whnf
      refine g 0 0 []<|J UA<|W.sq<|W.cn<|J (fun _=>(W.skip (W.sq (W.blk (g 63 65 []<|J UB (gd 65 75 [[],[],[],[],[],[.n (n)],[],[.x (aO j)],[],[],[]] ?_)))))) (noF (by simp_all))
      conv=>whnf
      refine⟨⟨I,I,I,I,I,Zdj,I,br AS,I,I,I,I⟩,by kernel_rfl,?_⟩
      refine W.cn<|J (fun _=>(rg [.n (n),.x (aO j)]<|J ⟨I,I,I,I,I,I,Zdj,⟨UC,br AS⟩,I⟩ (rg [.i ((n:Int) +1)]<|J Zdn ?_))) (noF tO)
      refine⟨n+1,[some 5,some 131],[],⟨rfl,Zay,⟨Zab,⟨⟨rfl,⟨rfl,⟨rfl,⟨rfl,⟨rfl,⟨rfl,⟨rfl,⟨rfl,⟨rfl,⟨rfl,⟨(congrArg (V.own _) (e)),Zad⟩⟩⟩⟩⟩⟩⟩⟩⟩⟩⟩,I⟩⟩,I⟩,?_,?_⟩
      rotate_left
      (dsimp only;omega)
      dsimp only
      omega
     ·have e:=MZ hj1 hd
      conv=>whnf
      refine g 0 0 []<|J UA<|W.sq<|W.cn<|J (fun _=>(W.skip (W.sq (W.blk (g 63 65 []<|J UB (gd 65 75 [[],[],[],[],[],[.n (n)],[],[.x (aO j)],[],[],[]] ?_)))))) (noF (by simp_all))
      conv=>whnf
      refine⟨⟨I,I,I,I,I,Zdj,I,br AS,I,I,I,I⟩,by kernel_rfl,?_⟩
      refine W.cn<|J (noT dO) fun _=>W.skip<|rg [.i ((n:Int) +1)]<|J Zdn ?_
      refine⟨n+1,[some 5,some 131],[],⟨rfl,Zay,⟨Zab,⟨⟨rfl,⟨rfl,⟨rfl,⟨rfl,⟨rfl,⟨rfl,⟨rfl,⟨rfl,⟨rfl,⟨rfl,⟨(congrArg (V.own _) (by rw[←e])),Zad⟩⟩⟩⟩⟩⟩⟩⟩⟩⟩⟩,I⟩⟩,I⟩,?_,?_⟩
      rotate_left
      (dsimp only;omega)
      dsimp only
      omega
    ·have e:=iT (mQ m.frm) b.jobs (n:=n) OM
     conv=>whnf
     refine g 0 0 []<|J UA<|W.sq<|W.cn<|J (noT (by simp_all)) fun _=>W.exit<|EndsW.nm<|J I<|J ?_ ?_
     rfl
     rw[e]
     rfl
 ·rw[G8 hf]
  by_cases g1:b.up = true
  ·by_cases g2:bP m
   ·rw[decide_eq_true g2]at cm
    by_cases g3:m.to = 0
    ·have g4:¬m.frm≤b.workers:=fun q=>hf ⟨g1,g2,g3,q⟩
     refine cq ?_
     conv=>whnf
     refine g 2 3 []<|J Zed<|W.sq<|gd 9 32 [[],[],[],[],[],[],[BF],[BF,.call VT [[]]],[BF],[BF],[],[BF],[BF],[BF],[BF],[],[BF],[BF],[BF],[BF],[BF],[BF],[BF],[BF]] ?_
     conv=>whnf
     refine J Zam<|J KR<|W.cn<|J (fun _=>(RT ?_)) (noF tO)
     rfl
    ·refine cq ?_
     conv=>whnf
     refine g 2 3 []<|J Zed<|W.sq<|gd 9 32 [[],[],[],[],[],[],[BF],[BF,.call VT [[]]],[BF],[BF],[],[BF],[BF],[BF],[BF],[],[BT],[BT],[BT],[BT],[BT],[BT],[BT],[BT]] ?_
     conv=>whnf
     refine J ⟨I,I,I,I,I,I,Zd3,Zao,Zd3,nbF AS,I,Zdh,Zdh,Zdh,rfl,I,ag OM,ag OM,ag OM,ag OM,ag OM,ag OM,ag OM,ag OM,I⟩<|J KR<|W.cn<|J (fun _=>(RT ?_)) (noF rfl)
     rfl
   ·rw[decide_eq_false g2]at cm
    refine cq ?_
    conv=>whnf
    refine g 2 3 []<|J Zed<|W.sq<|gd 9 32 [[],[],[],[],[],[],[BF],[BF,.call VF [[]]],[BF],[BF],[],[BT],[BT],[BT],[BT],[],[BT],[BT],[BT],[BT],[BT],[BT],[BT],[BT]] ?_
    conv=>whnf
    refine J ⟨I,I,I,I,I,I,Zd3,Zao,Zd3,nbF AS,I,rfl,rfl,rfl,rfl,I,rfl,rfl,rfl,rfl,rfl,rfl,rfl,rfl,I⟩<|J KR<|W.cn<|J (fun _=>(RT ?_)) (noF rfl)
    rfl
  ·refine cq ?_
   conv=>whnf
   refine g 2 3 []<|J Zed<|W.sq<|gd 9 32 [[],[],[],[],[],[],[BT],[BT],[BT],[BT],[],[BT],[BT],[BT],[BT],[],[BT],[BT],[BT],[BT],[BT],[BT],[BT],[BT]] ?_
   conv=>whnf
   refine J ⟨I,I,I,I,I,I,SI,SI,SI,SI,I,rfl,rfl,rfl,rfl,I,rfl,rfl,rfl,rfl,rfl,rfl,rfl,rfl,I⟩<|J KR<|W.cn<|J (fun _=>(RT ?_)) (noF rfl)
   rfl
end Go.K
end
section
open Go Go.Tm Go.Proofs
namespace Go.K
theorem my(b:Boss)(m:Message){x:Seat}(hx:b.seats[gp m]? = some x)(f1:1≤m.frm∧m.frm≤8)(ho:rR b m):F o6 [.val (aN b),.val (eC m)] (.tup [aN b,.b false]) [[],[]]:=by
 have hx':b.seats[(m.frm - 1).toNat]? = some x:=hx
 have ho2:=(Hf hx).1 ho
 have hl:=(List.getElem?_eq_some_iff.1 hx').1
 refine pi ?_
 conv=>whnf
 refine g 0 0 []<|J ⟨UL,UH,I,I,I⟩<|W.sq<|gd 6 16 [[],[],[],[],[],[],[.i (m.frm - 1)],[.n (Int.toNat (m.frm - 1))],[],[.x (aG x)],[]] ?_
 conv=>whnf
 refine J ⟨I,I,I,I,I,I,wO,Zdr,I,xA,I,I⟩<|J KR<|W.cn<|J (fun _=>(g 16 18 []<|J ⟨I,UL,I,I⟩ (RT ?_))) (noF tO)
 rfl
theorem mz(b:Boss)(m:Message){x:Seat}(hx:b.seats[gp m]? = some x)(f1:1≤m.frm∧m.frm≤8)(ho:¬rR b m):F o6 [.val (aN b),.val (eC m)] (.tup [aN (mR b m),.b true]) [[],[]]:=by
 have hx':b.seats[(m.frm - 1).toNat]? = some x:=hx
 have ho2:¬m.epoch < x.epoch:=fun q=>ho ((Hf hx).2 q)
 have hl:=(List.getElem?_eq_some_iff.1 hx').1
 rw[ml ho]
 refine pi ?_
 conv=>whnf
 refine g 0 0 []<|J ⟨UL,UH,I,I,I⟩<|W.sq<|gd 6 16 [[],[],[],[],[],[],[.i (m.frm - 1)],[.n (Int.toNat (m.frm - 1))],[],[.x (aG x)],[]] ?_
 conv=>whnf
 refine J ⟨I,I,I,I,I,I,wO,Zdr,I,xA,I,I⟩<|J KR<|W.cn<|J (noT dO) fun _=>W.skip<|g 16 27 [.i (m.frm - 1),.n (Int.toNat (m.frm - 1)),.x (aG x)]<|J ⟨I,I,I,I,wO,I,I,I,Zdr,⟨UB,xA⟩,I⟩<|g 0 4 []<|J ⟨I,UL,I,I⟩<|RT ?_
 all_goals (simp only[aN,List.map_set];rfl)
theorem zF(b:Boss)(p:Plan)(m:Message)(hl:p.tasks.length≤1048576)(ht:¬m.task < p.tasks.length):F mK [.val (aN b),.val (cR p),.val (eC m)] (aN b) [[],[],[]]:=by
 refine bX ?_
 conv=>whnf
 refine g 0 0 []<|J Zci<|W.sq<|g 10 13 []<|J UF<|W.cn<|J (fun _=>(g 13 15 []<|J Zdw (RT ?_))) (noF (by simp_all))
 rfl
theorem xD(b:Boss)(p:Plan)(m:Message)(h:ResIn b p.tasks m)(f8:m.frm≤8):F mK [.val (aN b),.val (cR p),.val (eC m)] (aN (ff b p.tasks m)) [[],[],[]]:=by
 obtain⟨hck,u3,u4,⟨t1,t2⟩,l1,l2,l3,l4,⟨f1,f2⟩,tx⟩:=h
 have hpl:=(bU hck).1
 have hsi:gp m < b.seats.length:=by unfold gp;omega
 have hkr:m.task.toNat < b.results.length:=by omega
 have hte:¬m.text = emp:=fun q=>by rw[q]at tx;cases tx
 obtain⟨x,hx⟩:=af hsi
 obtain⟨t,ht0⟩:=af (xs:=p.tasks) (n:=m.task.toNat) OM
 obtain⟨y,hy0⟩:=af (xs:=b.results) (n:=m.task.toNat) OM
 obtain⟨j,hj0⟩:=af (xs:=b.jobs) (n:=m.task.toNat) OM
 have hya:=j7 hy0
 obtain⟨_,_,a3,a4⟩:=b9 hck ht0
 have crd:=im p b.results m.task t1 ht0 (fun e he=>by have:=a4 e he;omega) OM
 have cf:=g9 2 b.epoch m.task m.text OM
 by_cases hA:y = emp
 ·by_cases hP:CanPut b p.tasks m
  ·have hF:cX b.results t.deps:=by have:=hP.ready;rw[dW ht0]at this;exact this
   have hR:=hP.room
   rw[decide_eq_true hF]at crd
   rw[My hP hkr hte]
   by_cases hO:b.owed.length < 2000
   ·refine bX ?_
    conv=>whnf
    refine g 0 0 []<|J Zci<|W.sq<|g 10 13 []<|J UF<|W.cn<|J (noT SI) fun _=>W.skip<|W.sq<|g 13 41 [.n (Int.toNat m.task),.x (aj y),BT,BT,BT,BT,BT,BT,.call VT [[],[],[]],BT,BT,BT,BT,BT,BT,BT,BT,BT,BT,.i ((↑(List.length (List.map aj b.log.safe)):Int) + (↑(List.length (List.map aj b.log.loose)):Int)),BT,BT]<|J ⟨I,I,I,I,Zdr,xA,I,I,⟨tO,I⟩,⟨tO,I⟩,⟨tO,I⟩,⟨tO,I⟩,⟨tO,I⟩,⟨tO,UC,I,UU,UA,AS⟩,tO,I,Zdh,Zdh,Zdh,Zdh,Zdh,Zdh,Zdh,Zdh,⟨rfl,w64 LN LN⟩,Zdh,rfl,I⟩<|W.cn<|J (fun h1=>?_) fun h1=>?_
    replace h1:=dt h1
    simp only[LM]at h1
    refine g 44 49 [.n (Int.toNat m.task),.x (aj y)]<|J ⟨I,I,I,I,I,I,Zdr,Zem,I⟩<|gd 49 64 [[],[],[],[],[],[],[],[],[],[],[.call (V.s (dk {kind:=2,epoch:=b.epoch,task:=m.task,text:=m.text:Entry})) [[]]],[],[],[],[],[]] ?_
    conv=>whnf
    refine J ⟨I,I,I,I,I,I,I,I,I,I,Zdd,US,Zdm,I,I,UA,I⟩<|J KR<|rg [.n (Int.toNat m.task),.x (aO j)]<|J ⟨I,I,I,I,I,Zdr,⟨UC,xA⟩,I⟩<|W.sq<|g 64 76 [.n (Int.toNat m.task),.x (aM (aj y) 0 [T.v (Value.string m.text)])]<|J ⟨I,I,I,I,Zdr,bS LN,I,I⟩<|W.cn<|J (noT dO) fun _=>W.skip<|W.sq<|gd 76 97 [[],[],[],[],[.n (Int.toNat m.task)],[.x (aM (aj y) 0 [T.v (Value.string m.text)])],[],[],[],[],[BF],[BF],[BF],[BF],[BF]] ?_
    conv=>whnf
    refine J ⟨I,I,I,I,Zdr,bS LN,I,I,I,I,⟨ea rfl,I⟩,⟨ea rfl,I⟩,⟨ea rfl,I⟩,⟨ea rfl,I⟩,ea rfl,I⟩<|J KR<|W.cn<|J (fun h2=>?_) fun h2=>?_
    replace h2:=dt h2
    simp only[LM]at h2
    omega
    replace h2:=df h2
    simp only[LM]at h2
    refine W.skip<|W.sq<|g 41 43 []<|J UA<|W.blk ?_
    rotate_left
    replace h1:=df h1
    simp only[LM]at h1
    omega
    refine W.lp (fun s (n:Nat)=>⟨[(0,s.s 0),(1,s.s 1),(2,s.s 2),(3,s.s 3),(5,s.s 5),(6,s.s 6),(7,.i n),(9,s.s 9),(43,s.s 43)],[(140,[s.c 140 0,s.c 140 1,s.c 140 2,s.c 140 3,s.c 140 4,s.c 140 5,s.c 140 6,s.c 140 7,s.c 140 8,s.c 140 9,s.c 140 10,s.c 140 11]),(3,[s.c 3 0,s.c 3 1,s.c 3 2,s.c 3 3,s.c 3 4,s.c 3 5,s.c 3 6,s.c 3 7,s.c 3 8,s.c 3 9,s.c 3 10,s.c 3 11]),(5,[s.c 5 0,s.c 5 1,s.c 5 2,s.c 5 3,s.c 5 4,s.c 5 5,s.c 5 6,s.c 5 7]),(6,[s.c 6 0,s.c 6 1,s.c 6 2,s.c 6 3,s.c 6 4,s.c 6 5,s.c 6 6,s.c 6 7,s.c 6 8,s.c 6 9,s.c 6 10,s.c 6 11])],[]⟩) (fun(n:Nat)=>n≤b.owed.length∧∀ o∈b.owed.take n,¬(o.worker = m.frm∧o.lease = m.lease)) (fun(n:Nat)=>b.owed.length - n) (0) [some 140,some 3,some 5,some 6] [] Zdz (by simp) ?_
    rintro n ⟨hn,hc⟩
    by_cases hn2:n < b.owed.length
    ·obtain⟨o,ho⟩:=af hn2
     by_cases hw:o.worker = m.frm
     ·by_cases hl:o.lease = m.lease
      ·rw[gX (b:=mI b m) (fun q=>sG ho ⟨hw,hl⟩ q.new)]
       conv=>whnf
       refine W.sq<|g 99 103 []<|J UE<|W.cn<|J (fun _=>(W.skip (W.sq (W.blk (gd 103 125 [[],[],[],[.n (n)],[],[.x (aL o)],[],[],[],[],[BT],[BT],[BT],[BT,.n (n)],[BT],[BT,.x (aL o)],[BT],[BT],[BT],[BT]] ?_))))) (noF SI)
       conv=>whnf
       refine⟨Zbc,by kernel_rfl,?_⟩
       refine W.cn<|J (fun _=>(g 125 127 []<|J Zdw (RT ?_))) (noF tO)
       all_goals (simp only[mI,aN,cellsOf,List.map_set,List.map_append,List.map_cons,List.map_nil];rfl)
      ·conv=>whnf
       refine W.sq<|g 99 103 []<|J UE<|W.cn<|J (fun _=>(W.skip (W.sq (W.blk (gd 103 125 [[],[],[],[.n (n)],[],[.x (aL o)],[],[],[],[],[BT],[BT],[BT],[BT,.n (n)],[BT],[BT,.x (aL o)],[BT],[BT],[BT],[BT]] ?_))))) (noF SI)
       conv=>whnf
       refine⟨Zbc,by kernel_rfl,?_⟩
       refine W.cn<|J (noT dO) fun _=>W.skip<|rg [.i ((n:Int) +1)]<|J Zdi ?_
       refine⟨n+1,[some 140,some 3,some 5,some 6],[],Zdz,?_,?_⟩
       rotate_left
       (dsimp only;omega)
       dsimp only
       exact⟨by omega,dV hc ho fun q=>hl q.2⟩
     ·conv=>whnf
      refine W.sq<|g 99 103 []<|J UE<|W.cn<|J (fun _=>(W.skip (W.sq (W.blk (gd 103 125 [[],[],[],[.n (n)],[],[.x (aL o)],[],[],[],[],[BF],[BF],[BF],[BF],[BF],[BF],[BF],[BF],[BF],[BF]] ?_))))) (noF SI)
      conv=>whnf
      refine⟨⟨I,I,I,Zdj,I,xA,I,I,I,I,dO,dO,dO,dO,dO,dO,dO,dO,dO,dO,I⟩,by kernel_rfl,?_⟩
      refine W.cn<|J (noT rfl) fun _=>W.skip<|rg [.i ((n:Int) +1)]<|J Zdi ?_
      refine⟨n+1,[some 140,some 3,some 5,some 6],[],Zdz,?_,?_⟩
      rotate_left
      (dsimp only;omega)
      dsimp only
      exact⟨by omega,dV hc ho fun q=>hw q.1⟩
    ·rw[aF OM]at hc
     rw[sB (Jr (ts:=p.tasks) hkr hO hc)]
     conv=>whnf
     refine W.sq<|g 99 103 []<|J UE<|W.cn<|J (noT SI) fun _=>W.exit<|g 103 139 []<|J ⟨I,I,I,I,I,I,I,I,I,⟨UC,I⟩,Zdm,I,UA,I⟩<|g 0 6 []<|J Zdw<|RT ?_
     all_goals (simp only[mI,aN,cellsOf,List.map_set,List.map_append,List.map_cons,List.map_nil];rfl)
   ·rw[gX (b:=mI b m) (fun q=>hO q.room)]
    refine bX ?_
    conv=>whnf
    refine g 0 0 []<|J Zci<|W.sq<|g 10 13 []<|J UF<|W.cn<|J (noT SI) fun _=>W.skip<|W.sq<|g 13 41 [.n (Int.toNat m.task),.x (aj y),BT,BT,BT,BT,BT,BT,.call VT [[],[],[]],BT,BT,BT,BT,BT,BT,BT,BT,BT,BT,.i ((↑(List.length (List.map aj b.log.safe)):Int) + (↑(List.length (List.map aj b.log.loose)):Int)),BT,BT]<|J ⟨I,I,I,I,Zdr,xA,I,I,⟨tO,I⟩,⟨tO,I⟩,⟨tO,I⟩,⟨tO,I⟩,⟨tO,I⟩,⟨tO,UC,I,UU,UA,AS⟩,tO,I,Zdh,Zdh,Zdh,Zdh,Zdh,Zdh,Zdh,Zdh,⟨rfl,w64 LN LN⟩,Zdh,rfl,I⟩<|W.cn<|J (fun h1=>?_) fun h1=>?_
    replace h1:=dt h1
    simp only[LM]at h1
    refine g 44 49 [.n (Int.toNat m.task),.x (aj y)]<|J ⟨I,I,I,I,I,I,Zdr,Zem,I⟩<|gd 49 64 [[],[],[],[],[],[],[],[],[],[],[.call (V.s (dk {kind:=2,epoch:=b.epoch,task:=m.task,text:=m.text:Entry})) [[]]],[],[],[],[],[]] ?_
    conv=>whnf
    refine J ⟨I,I,I,I,I,I,I,I,I,I,Zdd,US,Zdm,I,I,UA,I⟩<|J KR<|rg [.n (Int.toNat m.task),.x (aO j)]<|J ⟨I,I,I,I,I,Zdr,⟨UC,xA⟩,I⟩<|W.sq<|g 64 76 [.n (Int.toNat m.task),.x (aM (aj y) 0 [T.v (Value.string m.text)])]<|J ⟨I,I,I,I,Zdr,bS LN,I,I⟩<|W.cn<|J (noT dO) fun _=>W.skip<|W.sq<|gd 76 97 [[],[],[],[],[.n (Int.toNat m.task)],[.x (aM (aj y) 0 [T.v (Value.string m.text)])],[],[],[],[],[BF],[BF],[BF],[BF],[BF]] ?_
    conv=>whnf
    refine J ⟨I,I,I,I,Zdr,bS LN,I,I,I,I,⟨ea rfl,I⟩,⟨ea rfl,I⟩,⟨ea rfl,I⟩,⟨ea rfl,I⟩,ea rfl,I⟩<|J KR<|W.cn<|J (fun h2=>?_) fun h2=>?_
    replace h2:=dt h2
    simp only[LM]at h2
    refine g 41 43 []<|J Zdw<|RT ?_
    rotate_left
    replace h2:=df h2
    simp only[LM]at h2
    omega
    replace h1:=df h1
    simp only[LM]at h1
    omega
    all_goals (simp only[mI,aN,cellsOf,List.map_set,List.map_append,List.map_cons,List.map_nil];rfl)
  ·rw[Mz hP (by rw[hya];exact hA) hte]
   have hO:True:=trivial
   by_cases hF:cX b.results t.deps
   ·rw[decide_eq_true hF]at crd
    have hR:¬b.log.safe.length+b.log.loose.length < 310:=fun q=>hP ⟨by rw[hya];exact hA,by rw[dW ht0];exact hF,q⟩
    by_cases ho:rR b m
    ·have cfr:=my b m hx ⟨f1,f8⟩ ho
     rw[sL ho]
     refine bX ?_
     conv=>whnf
     refine g 0 0 []<|J Zci<|W.sq<|g 10 13 []<|J UF<|W.cn<|J (noT SI) fun _=>W.skip<|W.sq<|g 13 41 [.n (Int.toNat m.task),.x (aj y),BT,BT,BT,BT,BT,BT,.call VT [[],[],[]],BT,BT,BT,BT,BT,BT,BT,BT,BT,BT,.i ((↑(List.length (List.map aj b.log.safe)):Int) + (↑(List.length (List.map aj b.log.loose)):Int)),BT,BT]<|J ⟨I,I,I,I,Zdr,xA,I,I,⟨tO,I⟩,⟨tO,I⟩,⟨tO,I⟩,⟨tO,I⟩,⟨tO,I⟩,⟨tO,UC,I,UU,UA,AS⟩,tO,I,Zdh,Zdh,Zdh,Zdh,Zdh,Zdh,Zdh,Zdh,⟨rfl,w64 LN LN⟩,Zdh,rfl,I⟩<|W.cn<|J (fun h1=>?_) fun h1=>?_
     replace h1:=dt h1
     simp only[LM]at h1
     omega
     replace h1:=df h1
     simp only[LM]at h1
     refine W.skip<|W.sq<|g 41 76 [.n (Int.toNat m.task),.x (aj y)]<|J Zc0<|W.cn<|J (fun _=>(rg [.call (V.tup [aN b,V.b false]) [[],[]]]<|J Zcw (W.sq ?_))) (noF tO)
     by_cases h2:y = Message.text m
     refine gd 76 97 [[],[],[],[],[.n (Int.toNat m.task)],[.x (aj y)],[],[],[],[],[BF],[BF],[BF],[BF],[BF]] ?_
     conv=>whnf
     refine J Zbo<|J KR<|W.cn<|J (fun _=>(g 97 99 []<|J Zdw (RT ?_))) (noF (by simp_all))
     rfl
     refine gd 76 97 [[],[],[],[],[.n (Int.toNat m.task)],[.x (aj y)],[],[],[],[],[BT],[BT],[BT],[BT],[BT]] ?_
     conv=>whnf
     refine J Zb1<|J KR<|W.cn<|J (fun _=>(g 97 99 []<|J Zdw (RT ?_))) (noF rfl)
     rfl
    ·have cfr:=mz b m hx ⟨f1,f8⟩ ho
     rw[ml ho]at cfr ⊢
     refine bX ?_
     conv=>whnf
     refine g 0 0 []<|J Zci<|W.sq<|g 10 13 []<|J UF<|W.cn<|J (noT SI) fun _=>W.skip<|W.sq<|g 13 41 [.n (Int.toNat m.task),.x (aj y),BT,BT,BT,BT,BT,BT,.call VT [[],[],[]],BT,BT,BT,BT,BT,BT,BT,BT,BT,BT,.i ((↑(List.length (List.map aj b.log.safe)):Int) + (↑(List.length (List.map aj b.log.loose)):Int)),BT,BT]<|J ⟨I,I,I,I,Zdr,xA,I,I,⟨tO,I⟩,⟨tO,I⟩,⟨tO,I⟩,⟨tO,I⟩,⟨tO,I⟩,⟨tO,UC,I,UU,UA,AS⟩,tO,I,Zdh,Zdh,Zdh,Zdh,Zdh,Zdh,Zdh,Zdh,⟨rfl,w64 LN LN⟩,Zdh,rfl,I⟩<|W.cn<|J (fun h1=>?_) fun h1=>?_
     replace h1:=dt h1
     simp only[LM]at h1
     omega
     replace h1:=df h1
     simp only[LM]at h1
     refine W.skip<|W.sq<|g 41 76 [.n (Int.toNat m.task),.x (aj y)]<|J Zc0<|W.cn<|J (fun _=>(rg [.call (V.tup [aN {workers:=b.workers,up:=b.up,now:=b.now,since:=b.since,epoch:=b.epoch,given:=b.given,log:=b.log,results:=b.results,jobs:=b.jobs,seats:=List.set b.seats (gp m) {free:=true,epoch:=m.epoch:Seat},owed:=b.owed:Boss},V.b true]) [[],[]]]<|J Zcw (W.sq ?_))) (noF tO)
     by_cases h2:y = Message.text m
     refine gd 76 97 [[],[],[],[],[.n (Int.toNat m.task)],[.x (aj y)],[],[],[],[],[BF],[BF],[BF],[BF],[BF]] ?_
     conv=>whnf
     refine J Zbo<|J KR<|W.cn<|J (fun _=>(g 97 99 []<|J Zdw (RT ?_))) (noF (by simp_all))
     rfl
     refine gd 76 97 [[],[],[],[],[.n (Int.toNat m.task)],[.x (aj y)],[],[],[],[],[BT],[BT],[BT],[BT],[BT]] ?_
     conv=>whnf
     refine J Zb1<|J KR<|W.cn<|J (fun _=>(g 97 99 []<|J Zdw (RT ?_))) (noF rfl)
     rfl
   ·rw[decide_eq_false hF]at crd
    by_cases ho:rR b m
    ·have cfr:=my b m hx ⟨f1,f8⟩ ho
     rw[sL ho]
     refine bX ?_
     conv=>whnf
     refine g 0 0 []<|J Zci<|W.sq<|g 10 13 []<|J UF<|W.cn<|J (noT SI) fun _=>W.skip<|W.sq<|g 13 41 [.n (Int.toNat m.task),.x (aj y),BT,BT,BT,BT,BT,BT,.call VF [[],[],[]],BT,BF,BF,BF,BF,BF,BF,BF,BF,BF,BF,BF]<|J Zb8<|W.cn<|J (noT rfl) fun _=>W.skip<|W.sq<|g 41 76 [.n (Int.toNat m.task),.x (aj y)]<|J Zc0<|W.cn<|J (fun _=>?_) (noF tO)
     refine rg [.call (V.tup [aN b,V.b false]) [[],[]]]<|J Zcw<|W.sq ?_
     by_cases h1:y = Message.text m
     refine gd 76 97 [[],[],[],[],[.n (Int.toNat m.task)],[.x (aj y)],[],[],[],[],[BF],[BF],[BF],[BF],[BF]] ?_
     conv=>whnf
     refine J Zbo<|J KR<|W.cn<|J (fun _=>(g 97 99 []<|J Zdw (RT ?_))) (noF (by simp_all))
     rfl
     refine gd 76 97 [[],[],[],[],[.n (Int.toNat m.task)],[.x (aj y)],[],[],[],[],[BT],[BT],[BT],[BT],[BT]] ?_
     conv=>whnf
     refine J Zb1<|J KR<|W.cn<|J (fun _=>(g 97 99 []<|J Zdw (RT ?_))) (noF rfl)
     rfl
    ·have cfr:=mz b m hx ⟨f1,f8⟩ ho
     rw[ml ho]at cfr ⊢
     refine bX ?_
     conv=>whnf
     refine g 0 0 []<|J Zci<|W.sq<|g 10 13 []<|J UF<|W.cn<|J (noT SI) fun _=>W.skip<|W.sq<|g 13 41 [.n (Int.toNat m.task),.x (aj y),BT,BT,BT,BT,BT,BT,.call VF [[],[],[]],BT,BF,BF,BF,BF,BF,BF,BF,BF,BF,BF,BF]<|J Zb8<|W.cn<|J (noT rfl) fun _=>W.skip<|W.sq<|g 41 76 [.n (Int.toNat m.task),.x (aj y)]<|J Zc0<|W.cn<|J (fun _=>?_) (noF tO)
     refine rg [.call (V.tup [aN {workers:=b.workers,up:=b.up,now:=b.now,since:=b.since,epoch:=b.epoch,given:=b.given,log:=b.log,results:=b.results,jobs:=b.jobs,seats:=List.set b.seats (gp m) {free:=true,epoch:=m.epoch:Seat},owed:=b.owed:Boss},V.b true]) [[],[]]]<|J Zcw<|W.sq ?_
     by_cases h1:y = Message.text m
     refine gd 76 97 [[],[],[],[],[.n (Int.toNat m.task)],[.x (aj y)],[],[],[],[],[BF],[BF],[BF],[BF],[BF]] ?_
     conv=>whnf
     refine J Zbo<|J KR<|W.cn<|J (fun _=>(g 97 99 []<|J Zdw (RT ?_))) (noF (by simp_all))
     rfl
     refine gd 76 97 [[],[],[],[],[.n (Int.toNat m.task)],[.x (aj y)],[],[],[],[],[BT],[BT],[BT],[BT],[BT]] ?_
     conv=>whnf
     refine J Zb1<|J KR<|W.cn<|J (fun _=>(g 97 99 []<|J Zdw (RT ?_))) (noF rfl)
     rfl
 ·rw[Jk (by rw[hya];exact hA)]
  by_cases hs:y = m.text
  ·by_cases hO:b.owed.length < 2000
   ·refine bX ?_
    conv=>whnf
    refine g 0 0 []<|J Zci<|W.sq<|g 10 13 []<|J UF<|W.cn<|J (noT SI) fun _=>W.skip<|W.sq<|g 13 41 [.n (Int.toNat m.task),.x (aj y),BF,BF,BF,BF,BF,BF,BF,BF,BF,BF,BF,BF,BF,BF,BF,BF,BF,BF]<|J Zcm<|W.cn<|J (noT rfl) fun _=>W.skip<|W.sq<|g 41 76 [.n (Int.toNat m.task),.x (aj y)]<|J Zc0<|W.cn<|J (noT dO) fun _=>?_
    refine W.skip<|W.sq<|gd 76 97 [[],[],[],[],[.n (Int.toNat m.task)],[.x (aj y)],[],[],[],[],[BF],[BF],[BF],[BF],[BF]] ?_
    conv=>whnf
    refine J Zbo<|J KR<|W.cn<|J (fun h1=>?_) fun h1=>?_
    replace h1:=dt h1
    simp only[LM]at h1
    omega
    replace h1:=df h1
    simp only[LM]at h1
    refine W.skip<|W.sq<|g 4 5 []<|J UA<|W.blk<|W.lp (fun s (n:Nat)=>⟨[(0,s.s 0),(1,s.s 1),(2,s.s 2),(3,s.s 3),(5,s.s 5),(6,s.s 6),(7,.i n),(9,s.s 9)],[(140,[s.c 140 0,s.c 140 1,s.c 140 2,s.c 140 3,s.c 140 4,s.c 140 5,s.c 140 6,s.c 140 7,s.c 140 8,s.c 140 9,s.c 140 10,s.c 140 11]),(3,[s.c 3 0,s.c 3 1,s.c 3 2,s.c 3 3,s.c 3 4,s.c 3 5,s.c 3 6,s.c 3 7,s.c 3 8,s.c 3 9,s.c 3 10,s.c 3 11]),(5,[s.c 5 0,s.c 5 1,s.c 5 2,s.c 5 3,s.c 5 4,s.c 5 5,s.c 5 6,s.c 5 7]),(6,[s.c 6 0,s.c 6 1,s.c 6 2,s.c 6 3,s.c 6 4,s.c 6 5,s.c 6 6,s.c 6 7,s.c 6 8,s.c 6 9,s.c 6 10,s.c 6 11])],[]⟩) (fun(n:Nat)=>n≤b.owed.length∧∀ o∈b.owed.take n,¬(o.worker = m.frm∧o.lease = m.lease)) (fun(n:Nat)=>b.owed.length - n) (0) [some 140,some 3,some 5,some 6] [] Zd0 (by simp) ?_
    rintro n ⟨hn,hc⟩
    by_cases hn2:n < b.owed.length
    ·obtain⟨o,ho⟩:=af hn2
     by_cases hw:o.worker = m.frm
     ·by_cases hl:o.lease = m.lease
      ·rw[gX (fun q=>sG ho ⟨hw,hl⟩ q.new)]
       conv=>whnf
       refine W.sq<|g 99 103 []<|J UE<|W.cn<|J (fun _=>(W.skip (W.sq (W.blk (gd 103 125 [[],[],[],[.n (n)],[],[.x (aL o)],[],[],[],[],[BT],[BT],[BT],[BT,.n (n)],[BT],[BT,.x (aL o)],[BT],[BT],[BT],[BT]] ?_))))) (noF SI)
       conv=>whnf
       refine⟨Zbc,by kernel_rfl,?_⟩
       refine W.cn<|J (fun _=>(g 125 127 []<|J Zdw (RT ?_))) (noF tO)
       rfl
       all_goals (simp only[mI,aN,cellsOf,List.map_set,List.map_append,List.map_cons,List.map_nil];rfl)
      ·conv=>whnf
       refine W.sq<|g 99 103 []<|J UE<|W.cn<|J (fun _=>(W.skip (W.sq (W.blk (gd 103 125 [[],[],[],[.n (n)],[],[.x (aL o)],[],[],[],[],[BT],[BT],[BT],[BT,.n (n)],[BT],[BT,.x (aL o)],[BT],[BT],[BT],[BT]] ?_))))) (noF SI)
       conv=>whnf
       refine⟨Zbc,by kernel_rfl,?_⟩
       refine W.cn<|J (noT dO) fun _=>W.skip<|rg [.i ((n:Int) +1)]<|J Zdi ?_
       refine⟨n+1,[some 140,some 3,some 5,some 6],[],Zd0,?_,?_⟩
       rotate_left
       (dsimp only;omega)
       dsimp only
       exact⟨by omega,dV hc ho fun q=>hl q.2⟩
     ·conv=>whnf
      refine W.sq<|g 99 103 []<|J UE<|W.cn<|J (fun _=>(W.skip (W.sq (W.blk (gd 103 125 [[],[],[],[.n (n)],[],[.x (aL o)],[],[],[],[],[BF],[BF],[BF],[BF],[BF],[BF],[BF],[BF],[BF],[BF]] ?_))))) (noF SI)
      conv=>whnf
      refine⟨⟨I,I,I,Zdj,I,xA,I,I,I,I,dO,dO,dO,dO,dO,dO,dO,dO,dO,dO,I⟩,by kernel_rfl,?_⟩
      refine W.cn<|J (noT rfl) fun _=>W.skip<|rg [.i ((n:Int) +1)]<|J Zdi ?_
      refine⟨n+1,[some 140,some 3,some 5,some 6],[],Zd0,?_,?_⟩
      rotate_left
      (dsimp only;omega)
      dsimp only
      exact⟨by omega,dV hc ho fun q=>hw q.1⟩
    ·rw[aF OM]at hc
     rw[sB ⟨by rw[hya];exact hs,hO,hc⟩]
     conv=>whnf
     refine W.sq<|g 99 103 []<|J UE<|W.cn<|J (noT SI) fun _=>W.exit<|g 7 139 []<|J ⟨I,I,I,I,I,I,I,I,I,⟨UC,I⟩,Zdm,I,UA,I⟩<|g 0 6 []<|J Zdw<|RT ?_
     all_goals (simp only[mI,aN,cellsOf,List.map_set,List.map_append,List.map_cons,List.map_nil];rfl)
   ·rw[gX (fun q=>hO q.room)]
    refine bX ?_
    conv=>whnf
    refine g 0 0 []<|J Zci<|W.sq<|g 10 13 []<|J UF<|W.cn<|J (noT SI) fun _=>W.skip<|W.sq<|g 13 41 [.n (Int.toNat m.task),.x (aj y),BF,BF,BF,BF,BF,BF,BF,BF,BF,BF,BF,BF,BF,BF,BF,BF,BF,BF]<|J Zcm<|W.cn<|J (noT rfl) fun _=>W.skip<|W.sq<|g 41 76 [.n (Int.toNat m.task),.x (aj y)]<|J Zc0<|W.cn<|J (noT dO) fun _=>?_
    refine W.skip<|W.sq<|gd 76 97 [[],[],[],[],[.n (Int.toNat m.task)],[.x (aj y)],[],[],[],[],[BF],[BF],[BF],[BF],[BF]] ?_
    conv=>whnf
    refine J Zbo<|J KR<|W.cn<|J (fun h1=>?_) fun h1=>?_
    replace h1:=dt h1
    simp only[LM]at h1
    refine g 97 99 []<|J Zdw<|RT ?_
    rfl
    replace h1:=df h1
    simp only[LM]at h1
    omega
  ·rw[gX (fun q=>hs (by rw[←q.same,hya]))]
   refine bX ?_
   conv=>whnf
   refine g 0 0 []<|J Zci<|W.sq<|g 10 13 []<|J UF<|W.cn<|J (noT SI) fun _=>W.skip<|W.sq<|g 13 41 [.n (Int.toNat m.task),.x (aj y),BF,BF,BF,BF,BF,BF,BF,BF,BF,BF,BF,BF,BF,BF,BF,BF,BF,BF]<|J Zcm<|W.cn<|J (noT rfl) fun _=>W.skip<|W.sq<|g 41 76 [.n (Int.toNat m.task),.x (aj y)]<|J Zc0<|W.cn<|J (noT dO) fun _=>?_
   refine W.skip<|W.sq<|gd 76 97 [[],[],[],[],[.n (Int.toNat m.task)],[.x (aj y)],[],[],[],[],[BT],[BT],[BT],[BT],[BT]] ?_
   conv=>whnf
   refine J Zb1<|J KR<|W.cn<|J (fun _=>(g 97 99 []<|J Zdw (RT ?_))) (noF rfl)
   rfl
end Go.K
end
section
open Go Go.Tm Go.Proofs
namespace Go.K
theorem xH(b:Boss)(p:Plan)(m:Message)(hp:dv p)(h:BossLim b)(hm:m.inputs.length≤9223372036854775806):F wy [.val (f0 b),.val (cR p),.val (eC m)] (MO (Ec b p m)) [[],[],[]]:=by
 have cv:=og b p hp h
 by_cases hv:BossOk b p
 ·rw[decide_eq_true hv]at cv
  rw[om hv]
  have ct:=uC b h
  have cm:=nT m hm
  by_cases hf:ForB b m
  ·obtain⟨u1,u2,u3,u4,u5,u6,⟨u7,u8⟩,⟨u9,u10⟩,u11,u12,u13,u14⟩:=hv.up hf.up
   obtain⟨hkd,⟨f1,f2⟩,⟨e1,e2⟩⟩:=oc hf
   have hnow:=hv.now
   have hwk:=hv.workers
   have hpl:=(bU hv.plan).1
   obtain⟨g1,g2,g3,g4⟩:=hf
   have hf:ForB b m:=⟨g1,g2,g3,g4⟩
   rw[decide_eq_true g2]at cm
   have hsi:gp m < b.seats.length:=by unfold gp;omega
   obtain⟨x,hx⟩:=af hsi
   rcases hkd with hk|hk|hk
   ·rw[oz hf hk]
    refine bZ ?_
    conv=>whnf
    refine g 2 3 []<|J Zci<|W.sq<|g 12 13 [.call VT [[],[]]]<|J Zas<|W.cn<|J (noT rfl) fun _=>W.skip<|g 14 19 [.call (aN b) [[]]]<|J Zec<|W.sq<|g 13 38 [BF,BF,.call VT [[]],BF,BF,BF,BF,BF,BF,BF,BF,BF,BF,BF,BF]<|J Zeq<|W.cn<|J (noT dO) fun _=>W.skip<|W.sq<|g 38 42 []<|J UB ?_
    refine W.blk<|g 3 4 []<|J UB<|W.cn<|J (noT dO) fun _=>g 43 45 []<|J UB<|W.cn<|J (fun _=>(g 42 78 []<|J UA (W.blk (W.lp (fun s (n:Nat)=>⟨[(0,s.s 0),(5,s.s 5),(6,s.s 6),(7,s.s 7),(11,.i n)],[(5,[s.c 5 0,s.c 5 1,s.c 5 2,s.c 5 3,s.c 5 4,s.c 5 5,s.c 5 6,s.c 5 7]),(6,[s.c 6 0,s.c 6 1,s.c 6 2,s.c 6 3,s.c 6 4,s.c 6 5,s.c 6 6,s.c 6 7,s.c 6 8,s.c 6 9,s.c 6 10,s.c 6 11,s.c 6 12]),(7,[.t (.i b.workers),.t (.b b.up),.t (.i b.now),.t (.i b.since),.t (.i b.epoch),.t (.i b.given),.own [false] (b.log.safe.map aj),.own [false] (b.log.loose.map aj),.own [false] (b.results.map aj),.own eG ((gj (nw m.lease (b.now+12)) b.jobs n).map aO),.own cx (b.seats.map aG),.own cy (b.owed.map aL)])],[]⟩) (fun(n:Nat)=>n≤b.jobs.length) (fun(n:Nat)=>b.jobs.length - n) (0) [some 5,some 6,some 7] [] ⟨rfl,⟨Zae,rfl,rfl,rfl,rfl,I⟩,⟨Zab,⟨Zdk,⟨Zaa,I⟩⟩⟩,I⟩ OM ?_)))) (noF tO)
    intro n hn
    have hl:=iR (nw m.lease (b.now+12)) b.jobs n
    by_cases hj:n < b.jobs.length
    ·obtain⟨j,hj1⟩:=af hj
     by_cases hd:j.lease = m.lease
     ·have e:=Ka (u:=b.now+12) hj1 hd
      conv=>whnf
      refine W.sq<|g 78 82 []<|J UE<|W.cn<|J (fun _=>(W.skip (W.sq (W.blk (gd 82 93 [[],[],[],[.n (n)],[],[.x (aO j)],[],[],[]] ?_))))) (noF (by simp_all))
      conv=>whnf
      refine⟨⟨I,I,I,Zdj,I,br AS,I,I,I,I⟩,by kernel_rfl,?_⟩
      refine W.cn<|J (fun _=>(rg [.i (b.now+12),.n (n),.x (aO j)]<|J ⟨I,I,I,I,I,wO,Zdj,I,⟨UA,br AS⟩,I⟩ (rg [.i ((n:Int) +1)]<|J Zdi ?_))) (noF tO)
      refine⟨n+1,[some 5,some 6,some 7],[],⟨rfl,⟨Zae,rfl,rfl,rfl,rfl,I⟩,⟨Zab,⟨Zdk,⟨⟨rfl,⟨rfl,⟨rfl,⟨rfl,⟨rfl,⟨rfl,⟨rfl,⟨rfl,⟨rfl,⟨rfl,⟨(congrArg (V.own _) (e)),Zad⟩⟩⟩⟩⟩⟩⟩⟩⟩⟩⟩,I⟩⟩⟩,I⟩,?_,?_⟩
      rotate_left
      (dsimp only;omega)
      dsimp only
      omega
     ·have e:=NV (u:=b.now+12) hj1 hd
      conv=>whnf
      refine W.sq<|g 78 82 []<|J UE<|W.cn<|J (fun _=>(W.skip (W.sq (W.blk (gd 82 93 [[],[],[],[.n (n)],[],[.x (aO j)],[],[],[]] ?_))))) (noF (by simp_all))
      conv=>whnf
      refine⟨⟨I,I,I,Zdj,I,br AS,I,I,I,I⟩,by kernel_rfl,?_⟩
      refine W.cn<|J (noT dO) fun _=>W.skip<|rg [.i ((n:Int) +1)]<|J Zdi ?_
      refine⟨n+1,[some 5,some 6,some 7],[],⟨rfl,⟨Zae,rfl,rfl,rfl,rfl,I⟩,⟨Zab,⟨Zdk,⟨⟨rfl,⟨rfl,⟨rfl,⟨rfl,⟨rfl,⟨rfl,⟨rfl,⟨rfl,⟨rfl,⟨rfl,⟨(congrArg (V.own _) (by rw[←e])),Zad⟩⟩⟩⟩⟩⟩⟩⟩⟩⟩⟩,I⟩⟩⟩,I⟩,?_,?_⟩
      rotate_left
      (dsimp only;omega)
      dsimp only
      omega
    ·have e:=iT (nw m.lease (b.now+12)) b.jobs (n:=n) OM
     conv=>whnf
     refine W.sq<|g 78 82 []<|J UE<|W.cn<|J (noT (by simp_all)) fun _=>W.exit<|g 7 110 []<|J ⟨I,I,UM,I⟩<|RT ?_
     rw[e]
     rfl
   ·by_cases ht:m.task < p.tasks.length
    ·rw[su hf hk ht]
     have cr:=xD b p m (Se hv h hf hk ht) f2
     refine bZ ?_
     conv=>whnf
     refine g 2 3 []<|J Zci<|W.sq<|g 12 13 [.call VT [[],[]]]<|J Zas<|W.cn<|J (noT rfl) fun _=>W.skip<|g 14 19 [.call (aN b) [[]]]<|J Zec<|W.sq<|g 13 38 [BF,BF,.call VT [[]],BF,BF,BF,BF,BF,BF,BF,BF,BF,BF,BF,BF]<|J Zeq<|W.cn<|J (noT dO) fun _=>W.skip<|W.sq<|g 38 42 []<|J UB ?_
     refine W.blk<|g 3 4 []<|J UB<|W.cn<|J (noT dO) fun _=>g 43 45 []<|J UB<|W.cn<|J (noT dO) fun _=>g 42 78 []<|J UB<|W.cn<|J (fun _=>(rg [.call (aN (ff b p.tasks m)) [[],[],[]]]<|J ⟨I,I,I,⟨⟨UL,I,I,I⟩,I,⟨I,UA,UH,I⟩,UA,AS⟩,UL,I⟩ (g 7 110 []<|J ⟨I,I,UM,I⟩ (RT ?_)))) (noF tO)
     rfl
    ·rw[sv hf hk ht]
     have cr:=zF b p m OM ht
     refine bZ ?_
     conv=>whnf
     refine g 2 3 []<|J Zci<|W.sq<|g 12 13 [.call VT [[],[]]]<|J Zas<|W.cn<|J (noT rfl) fun _=>W.skip<|g 14 19 [.call (aN b) [[]]]<|J Zec<|W.sq<|g 13 38 [BF,BF,.call VT [[]],BF,BF,BF,BF,BF,BF,BF,BF,BF,BF,BF,BF]<|J Zeq<|W.cn<|J (noT dO) fun _=>W.skip<|W.sq<|g 38 42 []<|J UB ?_
     refine W.blk<|g 3 4 []<|J UB<|W.cn<|J (noT dO) fun _=>g 43 45 []<|J UB<|W.cn<|J (noT dO) fun _=>g 42 78 []<|J UB<|W.cn<|J (fun _=>(rg [.call (aN b) [[],[],[]]]<|J ⟨I,I,I,⟨⟨UL,I,I,I⟩,I,⟨I,UA,UH,I⟩,UA,AS⟩,UL,I⟩ (g 7 110 []<|J ⟨I,I,UM,I⟩ (RT ?_)))) (noF tO)
     rfl
   ·rw[oy hf hk]
    by_cases ho:rR b m
    ·rw[JP ho]
     have cfr:=my b m hx ⟨f1,f2⟩ ho
     refine bZ ?_
     conv=>whnf
     refine g 2 3 []<|J Zci<|W.sq<|g 12 13 [.call VT [[],[]]]<|J Zas<|W.cn<|J (noT rfl) fun _=>W.skip<|g 14 19 [.call (aN b) [[]]]<|J Zec<|W.sq<|g 13 38 [BF,BF,.call VT [[]],BF,BF,BF,BF,BF,BF,BF,BF,BF,BF,BF,BF]<|J Zeq<|W.cn<|J (noT dO) fun _=>W.skip<|W.sq<|g 38 42 []<|J UB ?_
     refine W.blk<|g 3 4 []<|J UB<|W.cn<|J (fun _=>(g 42 46 [.call (V.tup [aN b,V.b false]) [[],[]]]<|J ⟨I,I,⟨Zep,I,⟨I,UH,I⟩,UA,AS⟩,I,I,I,I,UL,I,I⟩ (g 47 52 []<|J Zdw (g 4 5 []<|J UA (W.blk (W.lp (fun s (n:Nat)=>⟨[(0,s.s 0),(1,s.s 1),(5,s.s 5),(6,s.s 6),(7,s.s 7),(9,s.s 9),(10,.i n),(46,s.s 46)],[(5,[s.c 5 0,s.c 5 1,s.c 5 2,s.c 5 3,s.c 5 4,s.c 5 5,s.c 5 6,s.c 5 7]),(6,[s.c 6 0,s.c 6 1,s.c 6 2,s.c 6 3,s.c 6 4,s.c 6 5,s.c 6 6,s.c 6 7,s.c 6 8,s.c 6 9,s.c 6 10,s.c 6 11,s.c 6 12]),(7,[s.c 7 0,s.c 7 1,s.c 7 2,s.c 7 3,s.c 7 4,s.c 7 5,s.c 7 6,s.c 7 7,s.c 7 8,s.c 7 9,s.c 7 10,s.c 7 11])],[]⟩) (fun(n:Nat)=>n = 0) (fun(n:Nat)=>0) (0) [some 5,some 6,some 7] [] ⟨rfl,⟨Zae,Zai,rfl,rfl,rfl,rfl,rfl,Zbd,I⟩,⟨Zab,⟨Zdk,⟨Zaa,I⟩⟩⟩,I⟩ OM ?_)))))) (noF tO)
     intro n hn
     conv=>whnf
     refine W.sq<|g 52 59 [BF,BF,BF,BF,BF,BF]<|J ⟨I,I,rfl,rfl,rfl,rfl,rfl,rfl,I⟩<|W.cn<|J (noT rfl) fun _=>W.exit<|g 0 6 []<|J ⟨I,I,UM,I⟩<|RT ?_
     rfl
    ·rw[JQ ho]
     have cfr:=mz b m hx ⟨f1,f2⟩ ho
     rw[ml ho]at cfr
     refine bZ ?_
     conv=>whnf
     refine g 2 3 []<|J Zci<|W.sq<|g 12 13 [.call VT [[],[]]]<|J Zas<|W.cn<|J (noT rfl) fun _=>W.skip<|g 14 19 [.call (aN b) [[]]]<|J Zec<|W.sq<|g 13 38 [BF,BF,.call VT [[]],BF,BF,BF,BF,BF,BF,BF,BF,BF,BF,BF,BF]<|J Zeq<|W.cn<|J (noT dO) fun _=>W.skip<|W.sq<|g 38 42 []<|J UB ?_
     refine W.blk<|g 3 4 []<|J UB<|W.cn<|J (fun _=>(g 42 46 [.call (V.tup [aN {workers:=b.workers,up:=b.up,now:=b.now,since:=b.since,epoch:=b.epoch,given:=b.given,log:=b.log,results:=b.results,jobs:=b.jobs,seats:=List.set b.seats (gp m) {free:=true,epoch:=m.epoch:Seat},owed:=b.owed:Boss},V.b true]) [[],[]]]<|J ⟨I,I,⟨Zep,I,⟨I,UH,I⟩,UA,AS⟩,I,I,I,I,UL,I,I⟩ (g 47 52 []<|J Zdw (g 4 5 []<|J UA (W.blk (W.lp (fun s (n:Nat)=>⟨[(0,s.s 0),(1,s.s 1),(5,s.s 5),(6,s.s 6),(7,s.s 7),(9,s.s 9),(10,.i n),(46,s.s 46)],[(5,[s.c 5 0,s.c 5 1,s.c 5 2,s.c 5 3,s.c 5 4,s.c 5 5,s.c 5 6,s.c 5 7]),(6,[s.c 6 0,s.c 6 1,s.c 6 2,s.c 6 3,s.c 6 4,s.c 6 5,s.c 6 6,s.c 6 7,s.c 6 8,s.c 6 9,s.c 6 10,s.c 6 11,s.c 6 12]),(7,[.t (.i b.workers),.t (.b b.up),.t (.i b.now),.t (.i b.since),.t (.i b.epoch),.t (.i b.given),.own [false] (b.log.safe.map aj),.own [false] (b.log.loose.map aj),.own [false] (b.results.map aj),.own eG ((gj (mQ m.frm) b.jobs n).map aO),.own cx ((b.seats.set (gp m) ⟨true,m.epoch⟩).map aG),.own cy (b.owed.map aL)])],[]⟩) (fun(n:Nat)=>n≤b.jobs.length) (fun(n:Nat)=>b.jobs.length - n) (0) [some 5,some 6,some 7] [] ⟨rfl,⟨Zae,Zai,rfl,rfl,rfl,rfl,rfl,Zbd,I⟩,⟨Zab,⟨Zdk,⟨Zaa,I⟩⟩⟩,I⟩ OM ?_)))))) (noF tO)
     intro n hn
     have hl:=iR (mQ m.frm) b.jobs n
     by_cases hj:n < b.jobs.length
     ·obtain⟨j,hj1⟩:=af hj
      by_cases hd:j.worker = m.frm
      ·have e:=JT hj1 hd
       conv=>whnf
       refine W.sq<|g 52 59 [BT,BT,BT,BT,BT,BT]<|J Zcx<|W.cn<|J (fun _=>(W.skip (W.sq (W.blk (gd 59 70 [[],[],[],[.n (n)],[],[.x (aO j)],[],[],[]] ?_))))) (noF (by simp_all))
       conv=>whnf
       refine⟨⟨I,I,I,Zdj,I,br AS,I,I,I,I⟩,by kernel_rfl,?_⟩
       refine W.cn<|J (fun _=>(rg [.n (n),.x (aO j)]<|J ⟨I,I,I,I,Zdj,⟨UC,br AS⟩,I⟩ (rg [.i ((n:Int) +1)]<|J Zdi ?_))) (noF tO)
       refine⟨n+1,[some 5,some 6,some 7],[],⟨rfl,⟨Zae,Zai,rfl,rfl,rfl,rfl,rfl,Zbd,I⟩,⟨Zab,⟨Zdk,⟨⟨rfl,⟨rfl,⟨rfl,⟨rfl,⟨rfl,⟨rfl,⟨rfl,⟨rfl,⟨rfl,⟨rfl,⟨(congrArg (V.own _) (e)),Zad⟩⟩⟩⟩⟩⟩⟩⟩⟩⟩⟩,I⟩⟩⟩,I⟩,?_,?_⟩
       rotate_left
       (dsimp only;omega)
       dsimp only
       omega
      ·have e:=MZ hj1 hd
       conv=>whnf
       refine W.sq<|g 52 59 [BT,BT,BT,BT,BT,BT]<|J Zcx<|W.cn<|J (fun _=>(W.skip (W.sq (W.blk (gd 59 70 [[],[],[],[.n (n)],[],[.x (aO j)],[],[],[]] ?_))))) (noF (by simp_all))
       conv=>whnf
       refine⟨⟨I,I,I,Zdj,I,br AS,I,I,I,I⟩,by kernel_rfl,?_⟩
       refine W.cn<|J (noT dO) fun _=>W.skip<|rg [.i ((n:Int) +1)]<|J Zdi ?_
       refine⟨n+1,[some 5,some 6,some 7],[],⟨rfl,⟨Zae,Zai,rfl,rfl,rfl,rfl,rfl,Zbd,I⟩,⟨Zab,⟨Zdk,⟨⟨rfl,⟨rfl,⟨rfl,⟨rfl,⟨rfl,⟨rfl,⟨rfl,⟨rfl,⟨rfl,⟨rfl,⟨(congrArg (V.own _) (by rw[←e])),Zad⟩⟩⟩⟩⟩⟩⟩⟩⟩⟩⟩,I⟩⟩⟩,I⟩,?_,?_⟩
       rotate_left
       (dsimp only;omega)
       dsimp only
       omega
     ·have e:=iT (mQ m.frm) b.jobs (n:=n) OM
      conv=>whnf
      refine W.sq<|g 52 59 [BT,BT,BT,BT,BT,BT]<|J Zcx<|W.cn<|J (noT (by simp_all)) fun _=>W.exit<|g 0 6 []<|J ⟨I,I,UM,I⟩<|RT ?_
      (simp[*];done)
  ·rw[G8 hf]
   by_cases g1:b.up = true
   ·by_cases g2:bP m
    ·rw[decide_eq_true g2]at cm
     by_cases g3:m.to = 0
     ·have g4:¬m.frm≤b.workers:=fun q=>hf ⟨g1,g2,g3,q⟩
      refine bZ ?_
      conv=>whnf
      refine g 2 3 []<|J Zci<|W.sq<|g 12 13 [.call VT [[],[]]]<|J Zas<|W.cn<|J (noT rfl) fun _=>W.skip<|g 14 19 [.call (aN b) [[]]]<|J Zec<|W.sq<|g 13 38 [BF,BF,.call VT [[]],BF,BF,BF,BF,BF,BF,BF,BF,BF,BF,BF,BF]<|J Zeq<|W.cn<|J (fun _=>(g 38 41 []<|J ⟨I,I,UM,I⟩ (RT ?_))) (noF tO)
      rfl
     ·refine bZ ?_
      conv=>whnf
      refine g 2 3 []<|J Zci<|W.sq<|g 12 13 [.call VT [[],[]]]<|J Zas<|W.cn<|J (noT rfl) fun _=>W.skip<|g 14 19 [.call (aN b) [[]]]<|J Zec<|W.sq<|g 13 38 [BF,BF,.call VT [[]],BF,BF,BF,BF,BF,BF,BT,BT,BT,BT,BT,BT]<|J ⟨I,I,I,I,Zd3,Zao,Zd3,nbF AS,I,Zdh,Zdh,Zdh,rfl,I,ag OM,ag OM,ag OM,ag OM,ag OM,ag OM,I⟩<|W.cn<|J (fun _=>(g 38 41 []<|J ⟨I,I,UM,I⟩ (RT ?_))) (noF rfl)
      rfl
    ·rw[decide_eq_false g2]at cm
     refine bZ ?_
     conv=>whnf
     refine g 2 3 []<|J Zci<|W.sq<|g 12 13 [.call VT [[],[]]]<|J Zas<|W.cn<|J (noT rfl) fun _=>W.skip<|g 14 19 [.call (aN b) [[]]]<|J Zec<|W.sq<|g 13 38 [BF,BF,.call VF [[]],BF,BF,BT,BT,BT,BT,BT,BT,BT,BT,BT,BT]<|J ⟨I,I,I,I,Zd3,Zao,Zd3,nbF AS,I,rfl,rfl,rfl,rfl,I,rfl,rfl,rfl,rfl,rfl,rfl,I⟩<|W.cn<|J (fun _=>(g 38 41 []<|J ⟨I,I,UM,I⟩ (RT ?_))) (noF rfl)
     rfl
   ·refine bZ ?_
    conv=>whnf
    refine g 2 3 []<|J Zci<|W.sq<|g 12 13 [.call VT [[],[]]]<|J Zas<|W.cn<|J (noT rfl) fun _=>W.skip<|g 14 19 [.call (aN b) [[]]]<|J Zec<|W.sq<|g 13 38 [BT,BT,BT,BT,BT,BT,BT,BT,BT,BT,BT,BT,BT,BT]<|J ⟨I,I,I,I,SI,SI,SI,SI,I,rfl,rfl,rfl,rfl,I,rfl,rfl,rfl,rfl,rfl,rfl,I⟩<|W.cn<|J (fun _=>(g 38 41 []<|J ⟨I,I,UM,I⟩ (RT ?_))) (noF rfl)
    rfl
 ·rw[decide_eq_false hv]at cv
  rw[Rz hv]
  refine bZ ?_
  conv=>whnf
  refine g 2 3 []<|J Zci<|W.sq<|g 12 13 [.call VF [[],[]]]<|J Zas<|W.cn<|J (fun _=>(g 14 17 []<|J ⟨I,UM,I⟩ (RT ?_))) (noF rfl)
  rfl
end Go.K
end
section
open Go Go.Tm Go.Proofs
namespace Go.K
def cU(a b key:ByteArray):Bool:=decide (¬b = a) && (eA b key).isSome
theorem DD(k:Int)(a b key:ByteArray)(h:b.size≤68719476736):F B3 [.val (Ld k a b),.val (.s key)] (.b (cU a b key)) [[],[]]:=by
 by_cases e:b = a
 ·have f:cU a b key = false:=by unfold cU;simp[e]
  rw[f]
  refine kO ?_
  conv=>whnf
  refine g 0 1 []<|J ⟨UC,I,I⟩<|W.sq<|g 7 11 []<|J UE<|W.cn<|J (fun _=>(g 11 12 []<|J UA (RT ?_))) (noF tO)
  rfl
 ·have c1:=jt b key h
  unfold cU
  cases hr:eA b key with
  |none =>
   rw[hr]at c1
   refine kO ?_
   conv=>whnf
   refine g 0 1 []<|J ⟨UC,I,I⟩<|W.sq<|g 7 11 []<|J UE<|W.cn<|J (noT dO) fun _=>W.skip<|g 11 19 [.call (gi none) [[],[]]]<|J ⟨I,I,I,Zan,I,I,I,I,UH,I,I⟩<|g 5 20 []<|J UB<|RT ?_
   (simp[*];done)
  |some m =>
   rw[hr]at c1
   refine kO ?_
   conv=>whnf
   refine g 0 1 []<|J ⟨UC,I,I⟩<|W.sq<|g 7 11 []<|J UE<|W.cn<|J (noT dO) fun _=>W.skip<|g 11 19 [.call (gi (some m)) [[],[]]]<|J ⟨I,I,I,Zan,I,I,I,I,UH,I,I⟩<|g 5 20 []<|J UB<|RT ?_
   (simp[*];done)
theorem en(w:World)(h:DoLim w):F BS [.val (fi w)] (aC w) [[]]:=by
 obtain⟨l1,l2,l3,l4,l5,l6,l7,l8⟩:=h
 have c1:=kU w.plan l2
 have c2:=uC w.boss l3
 have c3:=dG w.flight OM
 refine Cz ?_
 conv=>whnf
 refine g 0 0 []<|J Zdv<|gd 5 19 [[],[],[.call (fj w.plan) [[]]],[],[],[],[],[.call (aN w.boss) [[]]],[],[],[.call (V.own pkd (List.map bv w.flight)) [[]]],[],[],[],[],[]] ?_
 conv=>whnf
 refine J ⟨I,I,Zak,I,I,I,I,Za3,I,I,Zak,I,I,I,I,UQ,I⟩<|J KR<|W.sq<|g 0 0 []<|J UA<|W.blk<|W.lp (fun s (n:Nat)=>⟨[(0,s.s 0),(1,s.s 1),(2,s.s 2),(3,s.s 3),(4,.i n)],[(1,[s.c 1 0,s.c 1 1,s.c 1 2,s.c 1 3,s.c 1 4,s.c 1 5,s.c 1 6,s.c 1 7,s.c 1 8,s.c 1 9,s.c 1 10,s.c 1 11,s.c 1 12,s.c 1 13,s.c 1 14,s.c 1 15,s.c 1 16]),(2,[s.c 2 0,s.c 2 1,s.c 2 2,s.c 2 3,s.c 2 4,s.c 2 5,s.c 2 6,s.c 2 7,s.c 2 8,s.c 2 9,s.c 2 10,s.c 2 11,s.c 2 12,s.c 2 13,s.c 2 14,s.c 2 15,s.c 2 16]),(3,[.own dg (w.plan.tasks.map ay),.t (.s w.key),.t (.i w.boss.workers),.t (.b w.boss.up),.t (.i w.boss.now),.t (.i w.boss.since),.t (.i w.boss.epoch),.t (.i w.boss.given),.own [false] (w.boss.log.safe.map aj),.own [false] (w.boss.log.loose.map aj),.own [false] (w.boss.results.map aj),.own eG (w.boss.jobs.map aO),.own cx (w.boss.seats.map aG),.own cy (w.boss.owed.map aL),.own cB ((w.workers.take n).map ar),.own pkd (w.flight.map bv),.t (.s w.forged)])],[]⟩) (fun(n:Nat)=>n≤w.workers.length) (fun(n:Nat)=>w.workers.length - n) (0) [some 1,some 2,some 3] [] ⟨rfl,⟨Zag,rfl,rfl,rfl,rfl,I⟩,Zer,I⟩ OM ?_
 intro n hn
 by_cases hn2:n < w.workers.length
 ·obtain⟨x,hx⟩:=af hn2
  have hxi:=l5 x (List.mem_of_getElem? hx)
  have c4:=aE x OM
  conv=>whnf
  refine W.sq<|g 19 23 []<|J UE<|W.cn<|J (fun _=>(W.skip (W.sq (W.blk (rgd [[],[],[],[],[],[.x (ar x)],[],[.call (aD x) [[]]],[],[],[],[]] ?_))))) (noF SI)
  conv=>whnf
  refine⟨⟨I,I,I,I,I,Zdl,I,Zde,⟨UK,I⟩,Zdm,I,UA,I⟩,by kernel_rfl,?_⟩
  refine rg [.i ((n:Int) +1)]<|J Zdi ?_
  refine⟨n+1,[some 1,some 2,some 3],[],⟨rfl,⟨Zag,rfl,rfl,rfl,rfl,I⟩,⟨Zdg,⟨Zdg,⟨⟨rfl,⟨rfl,⟨rfl,⟨rfl,⟨rfl,⟨rfl,⟨rfl,⟨rfl,⟨rfl,⟨rfl,⟨rfl,⟨rfl,⟨rfl,⟨rfl,⟨rfl,⟨(congrArg (V.own _) (oA AS)),Zad⟩⟩⟩⟩⟩⟩⟩⟩⟩⟩⟩⟩⟩⟩⟩⟩,I⟩⟩⟩,I⟩,?_,?_⟩
  rotate_left
  (dsimp only;omega)
  dsimp only
  omega
 ·have e:w.workers.take n = w.workers:=aF OM
  conv=>whnf
  refine W.sq<|g 19 23 []<|J UE<|W.cn<|J (noT SI) fun _=>W.exit<|g 3 38 []<|J Zdu<|RT ?_
  (simp[*];done)
theorem pt(w:World)(h:DoLim w):F BR [.val (aC w)] (aC (hL w)) [[]]:=by
 obtain⟨l1,l2,l3,l4,l5,l6,l7,l8⟩:=h
 by_cases h0:1000000≤w.boss.now
 ·rw[sr h0]
  refine pg ?_
  conv=>whnf
  refine g 0 1 []<|J Zdv<|W.sq<|g 7 10 []<|J UD<|W.cn<|J (fun _=>(g 10 12 []<|J Zdu (RT ?_))) (noF tO)
  rfl
 ·rw[Mr h0]
  have c1:=xG w.boss w.plan l1 l3
  obtain⟨s1,s2,s3⟩:=wh w.plan l3
  have s4:=Fd w.boss w.plan
  generalize oQ w.boss w.plan = L at c1 s1 s2 s3 s4 ⊢
  refine pg ?_
  conv=>whnf
  refine g 0 1 []<|J Zdv<|W.sq<|g 7 10 []<|J UD<|W.cn<|J (noT dO) fun _=>W.skip<|g 10 17 [.call (MO L) [[],[]]]<|J ⟨I,I,I,I,Zax,I,UM,I⟩<|g 17 20 []<|J Zc4<|g 20 22 [.g]<|J ⟨I,UA,I,I⟩<|W.sq<|g 3 4 []<|J UA<|W.blk<|W.lp (fun s (n:Nat)=>⟨[(1,s.s 1),(2,s.s 2),(4,.ref ⟨4,none,0⟩),(5,.i n)],[(2,[s.c 2 0,s.c 2 1,s.c 2 2,s.c 2 3,s.c 2 4,s.c 2 5,s.c 2 6,s.c 2 7,s.c 2 8,s.c 2 9,s.c 2 10,s.c 2 11,s.c 2 12,s.c 2 13,s.c 2 14,s.c 2 15,s.c 2 16]),(4,[.own cO ((L.out++iH w.plan w.workers n).map aI)]),(1,[.own dg (w.plan.tasks.map ay),.t (.s w.key),.t (.i L.boss.workers),.t (.b L.boss.up),.t (.i L.boss.now),.t (.i L.boss.since),.t (.i L.boss.epoch),.t (.i L.boss.given),.own [false] (L.boss.log.safe.map aj),.own [false] (L.boss.log.loose.map aj),.own [false] (L.boss.results.map aj),.own eG (L.boss.jobs.map aO),.own cx (L.boss.seats.map aG),.own cy (L.boss.owed.map aL),.own cB ((gj (fun x=>(fN x w.plan).worker) w.workers n).map ar),.own pkd (w.flight.map bv),.t (.s w.forged)])],[]⟩) (fun(n:Nat)=>n≤w.workers.length) (fun(n:Nat)=>w.workers.length - n) (0) [some 2,some 21,some 1] [] ⟨rfl,Zay,⟨Zdg,⟨⟨rfl,⟨(congrArg (V.own _) (by rw[A5,List.append_nil])),I⟩⟩,⟨Zdg,I⟩⟩⟩,I⟩ OM ?_
  intro n hn
  have hl:=iR (fun x=>(fN x w.plan).worker) w.workers n
  have ha:=Kc w.plan w.workers n
  by_cases hn2:n < w.workers.length
  ·obtain⟨x,hx⟩:=af hn2
   have hxi:=l5 x (List.mem_of_getElem? hx)
   have c4:=rH x w.plan l1 OM
   have e1:=lP (f:=fun x=>(fN x w.plan).worker) (g:=ar) hx
   have e2:(L.out++iH w.plan w.workers n).map aI++ (fN x w.plan).out.map aI = (L.out++iH w.plan w.workers (n+1)).map aI:=by rw[←A6 hx,←List.map_append,List.append_assoc]
   have hxo:=(oq x w.plan).1
   generalize fN x w.plan = A at c4 e1 e2 hxo
   conv=>whnf
   refine W.sq<|g 22 26 []<|J UE<|W.cn<|J (fun _=>(W.skip (W.sq (W.blk (gd 26 37 [[],[],[],[.n (n)],[.x (ar x)],[],[],[.x (ar x),.call (pE A) [[],[]]],[],[]] ?_))))) (noF SI)
   conv=>whnf
   refine⟨⟨I,I,I,Zdj,br AS,I,I,⟨UB,I,⟨⟨I,I,I,I,I,I,I,I,br AS,I,I,I⟩,UA,I⟩,UA,AS⟩,I,UL,I⟩,by kernel_rfl,?_⟩
   refine g 37 43 [.n (n),.x (ar x)]<|J ⟨I,I,I,I,I,Zdj,⟨UK,br AS⟩,I⟩<|rg []<|J ⟨I,I,I,Zdm,I,I⟩<|rg [.i ((n:Int) +1)]<|J Zdi ?_
   refine⟨n+1,[some 2,some 46,some 1],[],⟨rfl,Zay,⟨Zdg,⟨⟨rfl,⟨(congrArg (V.own _) (e2)),I⟩⟩,⟨⟨rfl,⟨rfl,⟨rfl,⟨rfl,⟨rfl,⟨rfl,⟨rfl,⟨rfl,⟨rfl,⟨rfl,⟨rfl,⟨rfl,⟨rfl,⟨rfl,⟨rfl,⟨(congrArg (V.own _) (e1)),Zad⟩⟩⟩⟩⟩⟩⟩⟩⟩⟩⟩⟩⟩⟩⟩⟩,I⟩⟩⟩,I⟩,?_,?_⟩
   rotate_left
   (dsimp only;omega)
   dsimp only
   omega
  ·obtain rfl:n = w.workers.length:=by omega
   have e:=iT (fun x=>(fN x w.plan).worker) w.workers (Nat.le_refl _)
   have c5:=II w.flight (L.out++iH w.plan w.workers w.workers.length) w.key OM (by rw[List.length_append];omega) (fun m hm=>by
    rcases List.mem_append.1 hm with hm|hm
    ·have:=s3 m hm;omega
    ·rw[Kd hm];exact Nat.zero_le _)
   conv=>whnf
   refine W.sq<|g 22 26 []<|J UE<|W.cn<|J (noT SI) fun _=>W.exit<|g 4 52 [.call (V.own pkd (List.map bv (sC w.flight (Led.out L++iH w.plan w.workers (List.length w.workers)) w.key))) [[],[],[]]]<|J ⟨I,I,I,I,I,⟨UC,I,UU,UA,AS⟩,I,UA,I⟩<|g 53 55 []<|J Zdu<|RT ?_
   (simp[*];done)
   all_goals (rw[e];try rfl)
theorem fk(w:World)(k:Int)(h:DoLim w):F yw [.val (aC w),.val (.i k)] (aC (cY w k)) [[],[]]:=by
 obtain⟨l1,l2,l3,l4,l5,l6,l7,l8⟩:=h
 have c1:=bN w.flight k OM
 by_cases ha:w.flight.length≤2000∧0≤k∧k < w.flight.length
 ·rw[decide_eq_true ha]at c1
  obtain⟨a1,a2,a3⟩:=ha
  obtain⟨s,hs⟩:=af (xs:=w.flight) (n:=k.toNat) OM
  rw[Ff ⟨a1,a2,a3⟩ hs]
  obtain⟨⟨p1,p2⟩,p3,p4⟩:=l7 s (List.mem_of_getElem? hs)
  have c2:=we w.flight k OM
  have c3:=DD s.kind s.frm s.text w.key OM
  have c4:=jt s.text w.key OM
  cases hm:eA s.text w.key with
  |none =>
   have hg:cU s.frm s.text w.key = false:=by unfold cU;rw[hm];simp
   rw[hg]at c3
   rw[hm]at c4
   rw[Fg (show eA s.text (db w (cz w.flight k)).key = none from hm)]
   refine bW ?_
   conv=>whnf
   refine g 0 1 []<|J Zdv<|W.sq<|g 8 12 [.call VT [[],[]]]<|J Zeg<|W.cn<|J (noT rfl) fun _=>W.skip<|g 12 19 [.n (Int.toNat k),.x (bz s)]<|J Zcj<|g 19 24 [.call (V.own pkd (List.map bv (cz w.flight k))) [[],[]]]<|J Zd1<|W.sq<|g 24 32 [.call VF [[],[]],BF,BF,BF,BF]<|J Zcv<|W.cn<|J (noT rfl) fun _=>W.skip<|g 32 44 [.call (gi none) [[],[]]]<|J Zdy ?_
   refine W.sq<|g 7 45 []<|J UB<|W.cn<|J (fun _=>(g 45 47 []<|J Zdu (RT ?_))) (noF rfl)
   rfl
  |some m =>
   rw[hm]at c4
   have hmi:=(dl (Jo hm)).1
   have hm':eA s.text (db w (cz w.flight k)).key = some m:=hm
   have cases3:∀ g:ByteArray,AC (db w (cz w.flight k)) s = g→((s.text = s.frm∧g = w.forged)∨(¬s.text = s.frm∧¬w.forged = emp∧g = w.forged)∨(¬s.text = s.frm∧w.forged = emp∧g = s.text)):=fun g e=>by
    by_cases q1:s.text = s.frm
    ·exact .inl ⟨q1,by rw[←e,JR q1];rfl⟩
    ·by_cases q2:w.forged = emp
     ·exact .inr (.inr ⟨q1,q2,by rw[←e,MX q1 (show(db w (cz w.flight k)).forged = emp from q2)]⟩)
     ·exact .inr (.inl ⟨q1,q2,by rw[←e,JS (show ¬(db w (cz w.flight k)).forged = emp from q2)];rfl⟩)
   by_cases h0:s.kind = 0
   ·rw[wk hm' h0]
    have c5:=xH w.boss w.plan m l1 l3 OM
    show F _ _ (aC ⟨w.plan,w.key,(Ec w.boss w.plan m).boss,w.workers,cz w.flight k,_⟩) _
    generalize Ec w.boss w.plan m = L at c5 ⊢
    generalize hgg:AC (db w (cz w.flight k)) s = g
    rcases cases3 g hgg with⟨q1,rfl⟩|⟨q1,q2,rfl⟩|⟨q1,q2,rfl⟩
    ·have hg:cU s.frm s.text w.key = false:=by unfold cU;rw[hm];simp[q1]
     rw[hg]at c3
     refine bW ?_
     conv=>whnf
     refine g 0 1 []<|J Zdv<|W.sq<|g 8 12 [.call VT [[],[]]]<|J Zeg<|W.cn<|J (noT rfl) fun _=>W.skip<|g 12 19 [.n (Int.toNat k),.x (bz s)]<|J Zcj<|g 19 24 [.call (V.own pkd (List.map bv (cz w.flight k))) [[],[]]]<|J Zd1<|W.sq<|g 24 32 [.call VF [[],[]],BF,BF,BF,BF]<|J Zcv<|W.cn<|J (noT rfl) fun _=>W.skip<|g 32 44 [.call (gi (some m)) [[],[]]]<|J Zdy ?_
     refine W.sq<|g 7 45 []<|J UB<|W.cn<|J (noT rfl) fun _=>W.skip<|W.sq<|g 45 49 []<|J UC<|W.cn<|J (fun _=>(rg [.call (MO L) [[],[],[]]]<|J ⟨I,I,I,I,I,⟨UC,I,⟨UL,UA,UH,I⟩,UA,AS⟩,I,I,UL,I⟩ (g 53 83 []<|J Zdu (RT ?_)))) (noF tO)
     rfl
    ·have hg:cU s.frm s.text w.key = true:=by unfold cU;rw[hm];simp[q1]
     rw[hg]at c3
     refine bW ?_
     conv=>whnf
     refine g 0 1 []<|J Zdv<|W.sq<|g 8 12 [.call VT [[],[]]]<|J Zeg<|W.cn<|J (noT rfl) fun _=>W.skip<|g 12 19 [.n (Int.toNat k),.x (bz s)]<|J Zcj<|g 19 24 [.call (V.own pkd (List.map bv (cz w.flight k))) [[],[]]]<|J Zd1<|W.sq<|g 24 32 [.call VT [[],[]],BT,BT,BT,BT]<|J Zbm<|W.cn<|J (noT dO) fun _=>W.skip<|g 32 44 [.call (gi (some m)) [[],[]]]<|J Zdy ?_
     refine W.sq<|g 7 45 []<|J UB<|W.cn<|J (noT rfl) fun _=>W.skip<|W.sq<|g 45 49 []<|J UC<|W.cn<|J (fun _=>(rg [.call (MO L) [[],[],[]]]<|J ⟨I,I,I,I,I,⟨UC,I,⟨UL,UA,UH,I⟩,UA,AS⟩,I,I,UL,I⟩ (g 53 83 []<|J Zdu (RT ?_)))) (noF tO)
     rfl
    ·have hg:cU s.frm s.text w.key = true:=by unfold cU;rw[hm];simp[q1]
     rw[hg]at c3
     refine bW ?_
     conv=>whnf
     refine g 0 1 []<|J Zdv<|W.sq<|g 8 12 [.call VT [[],[]]]<|J Zeg<|W.cn<|J (noT rfl) fun _=>W.skip<|g 12 19 [.n (Int.toNat k),.x (bz s)]<|J Zcj<|g 19 24 [.call (V.own pkd (List.map bv (cz w.flight k))) [[],[]]]<|J Zd1<|W.sq<|g 24 32 [.call VT [[],[]],BT,BT,BT,BT]<|J Zbm<|W.cn<|J (fun _=>(rg []<|J UW (g 32 44 [.call (gi (some m)) [[],[]]]<|J Zdy ?_))) (noF tO)
     refine W.sq<|g 7 45 []<|J UB<|W.cn<|J (noT rfl) fun _=>W.skip<|W.sq<|g 45 49 []<|J UC<|W.cn<|J (fun _=>(rg [.call (MO L) [[],[],[]]]<|J ⟨I,I,I,I,I,⟨UC,I,⟨UL,UA,UH,I⟩,UA,AS⟩,I,I,UL,I⟩ (g 53 83 []<|J Zdu (RT ?_)))) (noF tO)
     rfl
   ·by_cases h1:s.kind≤w.workers.length
    ·obtain⟨x,hx⟩:=af (xs:=w.workers) (n:=(s.kind - 1).toNat) OM
     rw[wj hm' h0 ⟨by omega,h1⟩ hx]
     have hxi:=l5 x (List.mem_of_getElem? hx)
     have c5:=rI x w.plan m l1 OM OM
     show F _ _ (aC ⟨w.plan,w.key,w.boss,w.workers.set _ (wn x w.plan m).worker,cz w.flight k,_⟩) _
     generalize wn x w.plan m = L at c5 ⊢
     have es:=j9 (xs:=w.workers) (n:=(s.kind - 1).toNat) (x:=L.worker)
     generalize hgg:AC (db w (cz w.flight k)) s = g
     rcases cases3 g hgg with⟨q1,rfl⟩|⟨q1,q2,rfl⟩|⟨q1,q2,rfl⟩
     ·have hg:cU s.frm s.text w.key = false:=by unfold cU;rw[hm];simp[q1]
      rw[hg]at c3
      refine bW ?_
      conv=>whnf
      refine g 0 1 []<|J Zdv<|W.sq<|g 8 12 [.call VT [[],[]]]<|J Zeg<|W.cn<|J (noT rfl) fun _=>W.skip<|g 12 19 [.n (Int.toNat k),.x (bz s)]<|J Zcj<|g 19 24 [.call (V.own pkd (List.map bv (cz w.flight k))) [[],[]]]<|J Zd1<|W.sq<|g 24 32 [.call VF [[],[]],BF,BF,BF,BF]<|J Zcv<|W.cn<|J (noT rfl) fun _=>W.skip<|g 32 44 [.call (gi (some m)) [[],[]]]<|J Zdy ?_
      refine W.sq<|g 7 45 []<|J UB<|W.cn<|J (noT rfl) fun _=>W.skip<|W.sq<|g 45 49 []<|J UC<|W.cn<|J (noT dO) fun _=>g 49 63 []<|J UF<|W.cn<|J (fun _=>(rgd [[],[],[],[],[.i (s.kind - 1)],[],[],[],[],[.i (s.kind - 1)],[.n (Int.toNat (s.kind - 1))],[.x (ar x)],[],[],[],[.x (ar x),.call (pE L) [[],[],[]]],[],[.n (Int.toNat (s.kind - 1))],[.x (ar x)]] ?_)) (noF SI)
      conv=>whnf
      refine⟨Zbw,by kernel_rfl,?_⟩
      refine g 5 83 []<|J Zdu<|RT ?_
      exact jG w.plan w.key w.boss w.workers (s.kind - 1).toNat L.worker (cz w.flight k) w.forged
     ·have hg:cU s.frm s.text w.key = true:=by unfold cU;rw[hm];simp[q1]
      rw[hg]at c3
      refine bW ?_
      conv=>whnf
      refine g 0 1 []<|J Zdv<|W.sq<|g 8 12 [.call VT [[],[]]]<|J Zeg<|W.cn<|J (noT rfl) fun _=>W.skip<|g 12 19 [.n (Int.toNat k),.x (bz s)]<|J Zcj<|g 19 24 [.call (V.own pkd (List.map bv (cz w.flight k))) [[],[]]]<|J Zd1<|W.sq<|g 24 32 [.call VT [[],[]],BT,BT,BT,BT]<|J Zbm<|W.cn<|J (noT dO) fun _=>W.skip<|g 32 44 [.call (gi (some m)) [[],[]]]<|J Zdy ?_
      refine W.sq<|g 7 45 []<|J UB<|W.cn<|J (noT rfl) fun _=>W.skip<|W.sq<|g 45 49 []<|J UC<|W.cn<|J (noT dO) fun _=>g 49 63 []<|J UF<|W.cn<|J (fun _=>(rgd [[],[],[],[],[.i (s.kind - 1)],[],[],[],[],[.i (s.kind - 1)],[.n (Int.toNat (s.kind - 1))],[.x (ar x)],[],[],[],[.x (ar x),.call (pE L) [[],[],[]]],[],[.n (Int.toNat (s.kind - 1))],[.x (ar x)]] ?_)) (noF SI)
      conv=>whnf
      refine⟨Zbw,by kernel_rfl,?_⟩
      refine g 5 83 []<|J Zdu<|RT ?_
      exact jG w.plan w.key w.boss w.workers (s.kind - 1).toNat L.worker (cz w.flight k) w.forged
     ·have hg:cU s.frm s.text w.key = true:=by unfold cU;rw[hm];simp[q1]
      rw[hg]at c3
      refine bW ?_
      conv=>whnf
      refine g 0 1 []<|J Zdv<|W.sq<|g 8 12 [.call VT [[],[]]]<|J Zeg<|W.cn<|J (noT rfl) fun _=>W.skip<|g 12 19 [.n (Int.toNat k),.x (bz s)]<|J Zcj<|g 19 24 [.call (V.own pkd (List.map bv (cz w.flight k))) [[],[]]]<|J Zd1<|W.sq<|g 24 32 [.call VT [[],[]],BT,BT,BT,BT]<|J Zbm<|W.cn<|J (fun _=>(rg []<|J UW (g 32 44 [.call (gi (some m)) [[],[]]]<|J Zdy ?_))) (noF tO)
      refine W.sq<|g 7 45 []<|J UB<|W.cn<|J (noT rfl) fun _=>W.skip<|W.sq<|g 45 49 []<|J UC<|W.cn<|J (noT dO) fun _=>g 49 63 []<|J UF<|W.cn<|J (fun _=>(rgd [[],[],[],[],[.i (s.kind - 1)],[],[],[],[],[.i (s.kind - 1)],[.n (Int.toNat (s.kind - 1))],[.x (ar x)],[],[],[],[.x (ar x),.call (pE L) [[],[],[]]],[],[.n (Int.toNat (s.kind - 1))],[.x (ar x)]] ?_)) (noF SI)
      conv=>whnf
      refine⟨Zbw,by kernel_rfl,?_⟩
      refine g 5 83 []<|J Zdu<|RT ?_
      exact jG w.plan w.key w.boss w.workers (s.kind - 1).toNat L.worker (cz w.flight k) s.text
    ·rw[A1 hm' h0 (fun q=>h1 q.2)]
     show F _ _ (aC ⟨w.plan,w.key,w.boss,w.workers,cz w.flight k,_⟩) _
     generalize hgg:AC (db w (cz w.flight k)) s = g
     rcases cases3 g hgg with⟨q1,rfl⟩|⟨q1,q2,rfl⟩|⟨q1,q2,rfl⟩
     ·have hg:cU s.frm s.text w.key = false:=by unfold cU;rw[hm];simp[q1]
      rw[hg]at c3
      refine bW ?_
      conv=>whnf
      refine g 0 1 []<|J Zdv<|W.sq<|g 8 12 [.call VT [[],[]]]<|J Zeg<|W.cn<|J (noT rfl) fun _=>W.skip<|g 12 19 [.n (Int.toNat k),.x (bz s)]<|J Zcj<|g 19 24 [.call (V.own pkd (List.map bv (cz w.flight k))) [[],[]]]<|J Zd1<|W.sq<|g 24 32 [.call VF [[],[]],BF,BF,BF,BF]<|J Zcv<|W.cn<|J (noT rfl) fun _=>W.skip<|g 32 44 [.call (gi (some m)) [[],[]]]<|J Zdy ?_
      refine W.sq<|g 7 45 []<|J UB<|W.cn<|J (noT rfl) fun _=>W.skip<|W.sq<|g 45 49 []<|J UC<|W.cn<|J (noT dO) fun _=>g 49 63 []<|J UF<|W.cn<|J (noT SI) fun _=>W.skip<|g 5 83 []<|J Zdu<|RT ?_
      rfl
     ·have hg:cU s.frm s.text w.key = true:=by unfold cU;rw[hm];simp[q1]
      rw[hg]at c3
      refine bW ?_
      conv=>whnf
      refine g 0 1 []<|J Zdv<|W.sq<|g 8 12 [.call VT [[],[]]]<|J Zeg<|W.cn<|J (noT rfl) fun _=>W.skip<|g 12 19 [.n (Int.toNat k),.x (bz s)]<|J Zcj<|g 19 24 [.call (V.own pkd (List.map bv (cz w.flight k))) [[],[]]]<|J Zd1<|W.sq<|g 24 32 [.call VT [[],[]],BT,BT,BT,BT]<|J Zbm<|W.cn<|J (noT dO) fun _=>W.skip<|g 32 44 [.call (gi (some m)) [[],[]]]<|J Zdy ?_
      refine W.sq<|g 7 45 []<|J UB<|W.cn<|J (noT rfl) fun _=>W.skip<|W.sq<|g 45 49 []<|J UC<|W.cn<|J (noT dO) fun _=>g 49 63 []<|J UF<|W.cn<|J (noT SI) fun _=>W.skip<|g 5 83 []<|J Zdu<|RT ?_
      rfl
     ·have hg:cU s.frm s.text w.key = true:=by unfold cU;rw[hm];simp[q1]
      rw[hg]at c3
      refine bW ?_
      conv=>whnf
      refine g 0 1 []<|J Zdv<|W.sq<|g 8 12 [.call VT [[],[]]]<|J Zeg<|W.cn<|J (noT rfl) fun _=>W.skip<|g 12 19 [.n (Int.toNat k),.x (bz s)]<|J Zcj<|g 19 24 [.call (V.own pkd (List.map bv (cz w.flight k))) [[],[]]]<|J Zd1<|W.sq<|g 24 32 [.call VT [[],[]],BT,BT,BT,BT]<|J Zbm<|W.cn<|J (fun _=>(rg []<|J UW (g 32 44 [.call (gi (some m)) [[],[]]]<|J Zdy ?_))) (noF tO)
      refine W.sq<|g 7 45 []<|J UB<|W.cn<|J (noT rfl) fun _=>W.skip<|W.sq<|g 45 49 []<|J UC<|W.cn<|J (noT dO) fun _=>g 49 63 []<|J UF<|W.cn<|J (noT SI) fun _=>W.skip<|g 5 83 []<|J Zdu<|RT ?_
      rfl
 ·rw[decide_eq_false ha]at c1
  rw[J5 ha]
  refine bW ?_
  conv=>whnf
  refine g 0 1 []<|J Zdv<|W.sq<|g 8 12 [.call VF [[],[]]]<|J Zeg<|W.cn<|J (fun _=>(g 12 14 []<|J Zdu (RT ?_))) (noF rfl)
  rfl
end Go.K
end
section
open Go Go.Tm Go.Proofs
namespace Go.K
theorem ki(w:World)(h:DoLim w):F rp [.val (fi w)] (aC w) [[]]:=by
 obtain⟨l1,l2,l3,l4,l5,l6,l7,l8⟩:=h
 have c1:=uS w.plan l2
 have c2:=Vu w.boss l3
 have c3:=dI w.flight OM
 refine rC ?_
 conv=>whnf
 refine g 0 0 []<|J Zdv<|gd 6 18 [[],[],[.call (fj w.plan) [[]]],[],[],[.call (aN w.boss) [[]]],[],[],[.call (V.own pkd (List.map bv w.flight)) [[]]],[],[],[],[],[],[]] ?_
 conv=>whnf
 refine J ⟨I,I,Zak,I,I,Za3,I,I,Zak,I,UA,I,UL,I,UA,I⟩<|J KR<|g 18 20 []<|J UC<|g 20 21 []<|J UV<|W.sq<|g 3 4 []<|J UC<|W.blk<|W.lp (fun s (n:Nat)=>⟨[(0,s.s 0),(1,s.s 1),(2,s.s 2),(21,s.s 21),(22,s.s 22),(23,.i n)],[(2,[s.c 2 0,s.c 2 1,s.c 2 2,s.c 2 3,s.c 2 4,s.c 2 5,s.c 2 6,s.c 2 7,s.c 2 8,s.c 2 9,s.c 2 10,s.c 2 11,s.c 2 12,s.c 2 13,s.c 2 14,s.c 2 15,s.c 2 16]),(1,[.own dg (w.plan.tasks.map ay),.t (.s w.key),.t (.i w.boss.workers),.t (.b w.boss.up),.t (.i w.boss.now),.t (.i w.boss.since),.t (.i w.boss.epoch),.t (.i w.boss.given),.own [false] (w.boss.log.safe.map aj),.own [false] (w.boss.log.loose.map aj),.own [false] (w.boss.results.map aj),.own eG (w.boss.jobs.map aO),.own cx (w.boss.seats.map aG),.own cy (w.boss.owed.map aL),.own cB ((w.workers.take n).map ar),.own pkd (w.flight.map bv),.t (.s w.forged)])],[]⟩) (fun(n:Nat)=>n≤w.workers.length) (fun(n:Nat)=>w.workers.length - n) (0) [some 2,some 1] [] ⟨rfl,⟨Zag,rfl,rfl,rfl,rfl,rfl,I⟩,⟨Zdg,⟨Zdg,I⟩⟩,I⟩ OM ?_
 intro n hn
 by_cases hn2:n < w.workers.length
 ·obtain⟨x,hx⟩:=af hn2
  have hxi:=l5 x (List.mem_of_getElem? hx)
  have c4:=gh x OM
  conv=>whnf
  refine g 0 0 []<|J UA<|W.sq<|W.cn<|J (fun _=>(W.skip (W.sq (W.blk (g 24 27 [.x (ar x)]<|J ⟨Zdl,I,I,UK,I⟩ (rgd [[],[],[],[.call (aD x) [[]]],[],[],[],[]] ?_)))))) (noF SI)
  conv=>whnf
  refine⟨⟨I,I,I,Zde,⟨UK,I⟩,Zdm,I,UA,I⟩,by kernel_rfl,?_⟩
  refine rg [.i ((n:Int) +1)]<|J Zdn ?_
  refine⟨n+1,[some 2,some 1],[],⟨rfl,⟨Zag,rfl,rfl,rfl,rfl,rfl,I⟩,⟨Zdg,⟨⟨rfl,⟨rfl,⟨rfl,⟨rfl,⟨rfl,⟨rfl,⟨rfl,⟨rfl,⟨rfl,⟨rfl,⟨rfl,⟨rfl,⟨rfl,⟨rfl,⟨rfl,⟨(congrArg (V.own _) (oA AS)),Zad⟩⟩⟩⟩⟩⟩⟩⟩⟩⟩⟩⟩⟩⟩⟩⟩,I⟩⟩,I⟩,?_,?_⟩
  rotate_left
  (dsimp only;omega)
  dsimp only
  omega
 ·have e:w.workers.take n = w.workers:=aF OM
  conv=>whnf
  refine g 0 0 []<|J UA<|W.sq<|W.cn<|J (noT SI) fun _=>W.exit<|g 21 36 []<|J Zdu<|RT ?_
  (simp[*];done)
theorem fm(w:World)(k:Int)(h:w.workers.length≤8)(hk:1≤k∧k≤w.workers.length):F iO [.ptr (cellsOf (aC w)),.val (.i k)] (.ptr ⟨0,some (14,(k - 1).toNat,11),0⟩) [cellsOf (aC w),[]]:=by
 obtain⟨x,hx⟩:=af (xs:=w.workers) (n:=(k - 1).toNat) OM
 refine iU ?_
 conv=>whnf
 refine g 0 0 []<|J UA<|W.sq<|g 5 11 [.call (V.b (decide (1≤k∧k≤(↑(List.length (List.map ar w.workers)):Int)))) [[],[],[]]]<|J ⟨I,I,I,I,I,I,⟨UC,I,UU,UA,aa _ _ _⟩,I⟩<|W.cn<|J (fun _=>(g 15 19 [.i (k - 1),.n (Int.toNat (k - 1))]<|J ⟨I,I,I,I,I,wO,Zdr,I,I⟩ (RT ?_))) (noF SI)
 rfl
theorem dY(w:World)(k:Int)(h:w.workers.length≤8)(hk:¬(1≤k∧k≤w.workers.length)):F iO [.ptr (cellsOf (aC w)),.val (.i k)] (.t (.v (.pointer none))) [cellsOf (aC w),[]]:=by
 refine iU ?_
 conv=>whnf
 refine g 0 0 []<|J UA<|W.sq<|g 5 11 [.call (V.b (decide (1≤k∧k≤(↑(List.length (List.map ar w.workers)):Int)))) [[],[],[]]]<|J ⟨I,I,I,I,I,I,⟨UC,I,UU,UA,aa _ _ _⟩,I⟩<|W.cn<|J (noT SI) fun _=>W.skip<|g 0 2 []<|J UA<|RT ?_
 rfl
theorem kj(w:World)(h:WorldOk w):F rq [.ptr (cellsOf (aC w))] (.tup []) [cellsOf (aC (hL w))]:=by
 obtain⟨l1,l2,l3,l4,l5,l6,l7,l8⟩:=eB h
 have hnow:=h.boss.now
 by_cases h0:1000000≤w.boss.now
 ·rw[sr h0]
  have h1:w.boss.now = 1000000:=by omega
  refine kg ?_
  conv=>whnf
  refine W.sq<|g 6 11 []<|J UF<|W.cn<|J (fun _=>(RT ?_)) (noF tO)
  rfl
 ·rw[Mr h0]
  have c1:=uU w.boss w.plan h.boss l3
  obtain⟨s1,s2,s3⟩:=wh w.plan l3
  have s4:=Fd w.boss w.plan
  rw[oi h.boss]at s1 s2 s3 s4 ⊢
  generalize hM w.boss w.plan.tasks = L at c1 s1 s2 s3 s4 ⊢
  refine kg ?_
  conv=>whnf
  refine W.sq<|g 6 11 []<|J UF<|W.cn<|J (noT dO) fun _=>W.skip<|gd 11 20 [[],[],[],[],[],[],[],[.call (V.own cO (List.map aI (Led.out L))) ([cellsOf (aN (Led.boss L)),[]])],[]] ?_
  conv=>whnf
  refine J ⟨I,I,I,I,I,I,I,Zb0,I,I⟩<|J KR<|W.sq<|g 20 23 []<|J UF<|W.blk<|W.lp (fun s (n:Nat)=>⟨[(0,s.s 0),(2,.ref ⟨2,none,0⟩),(23,s.s 23),(24,s.s 24),(25,.i n)],[(2,[.own cO ((L.out++iH w.plan w.workers n).map aI)]),(62,[.own dg (w.plan.tasks.map ay),.t (.s w.key),.t (.i L.boss.workers),.t (.b L.boss.up),.t (.i L.boss.now),.t (.i L.boss.since),.t (.i L.boss.epoch),.t (.i L.boss.given),.own [false] (L.boss.log.safe.map aj),.own [false] (L.boss.log.loose.map aj),.own [false] (L.boss.results.map aj),.own eG (L.boss.jobs.map aO),.own cx (L.boss.seats.map aG),.own cy (L.boss.owed.map aL),.own cB ((gj (fun x=>(fN x w.plan).worker) w.workers n).map ar),.own pkd (w.flight.map bv),.t (.s w.forged)])],[]⟩) (fun(n:Nat)=>n≤w.workers.length) (fun(n:Nat)=>w.workers.length - n) (0) [some 19,some 62] [] ⟨rfl,Zbg,⟨⟨rfl,⟨(congrArg (V.own _) (by rw[A5,List.append_nil])),I⟩⟩,⟨Zdg,I⟩⟩,I⟩ OM ?_
  intro n hn
  have hl:=iR (fun x=>(fN x w.plan).worker) w.workers n
  have ha:=Kc w.plan w.workers n
  by_cases hn2:n < w.workers.length
  ·obtain⟨x,hx⟩:=af hn2
   have hxi:=l5 x (List.mem_of_getElem? hx)
   have hwk:=(h.crew n x hn2 hx).ok
   have c4:=qf x w.plan hwk h.plan
   rw[←er hwk h.plan]at c4
   have e1:=lP (f:=fun x=>(fN x w.plan).worker) (g:=ar) hx
   have e2:(L.out++iH w.plan w.workers n).map aI++ (fN x w.plan).out.map aI = (L.out++iH w.plan w.workers (n+1)).map aI:=by rw[←A6 hx,←List.map_append,List.append_assoc]
   have hxo:=(oq x w.plan).1
   generalize fN x w.plan = A at c4 e1 e2 hxo
   conv=>whnf
   refine g 0 0 []<|J UA<|W.sq<|W.cn<|J (fun _=>(W.skip (W.sq (W.blk (g 26 30 [.n (n),.x (ar x),.x (ar x)]<|J ⟨I,Zdj,br AS,I,I,⟨I,I,I,I,I,I,I,I,br AS,I,I,I⟩,I⟩ (gd 30 36 [[],[],[],[],[],[.call (pE A) [[],[]]],[],[]] ?_)))))) (noF SI)
   conv=>whnf
   refine⟨⟨I,I,I,I,I,⟨Zd9,I,UV,UA,AS⟩,I,UL,I⟩,by kernel_rfl,?_⟩
   refine gd 36 44 [[],[],[],[],[],[],[],[.n (n)],[.x (List.set (ar x) (0+1+1+1+1+1+1+1+1) T.hole)]] ?_
   conv=>whnf
   refine J ⟨I,I,I,I,I,I,I,Zdj,⟨UK,bS LN⟩,I⟩<|J KR ?_
   rw[List.set_set]
   refine rg []<|J ⟨I,I,I,Zdm,I,I⟩<|rg [.i ((n:Int) +1)]<|J Zdn ?_
   refine⟨n+1,[some 47,some 62],[],⟨rfl,Zbg,⟨⟨rfl,⟨(congrArg (V.own _) (e2)),I⟩⟩,⟨⟨rfl,⟨rfl,⟨rfl,⟨rfl,⟨rfl,⟨rfl,⟨rfl,⟨rfl,⟨rfl,⟨rfl,⟨rfl,⟨rfl,⟨rfl,⟨rfl,⟨rfl,⟨(congrArg (V.own _) (e1)),Zad⟩⟩⟩⟩⟩⟩⟩⟩⟩⟩⟩⟩⟩⟩⟩⟩,I⟩⟩,I⟩,?_,?_⟩
   rotate_left
   (dsimp only;omega)
   dsimp only
   omega
  ·obtain rfl:n = w.workers.length:=by omega
   have e:=iT (fun x=>(fN x w.plan).worker) w.workers (Nat.le_refl _)
   have c5:=IM w.flight (L.out++iH w.plan w.workers w.workers.length) w.key OM (by rw[List.length_append];omega) (fun m hm=>by
    rcases List.mem_append.1 hm with hm|hm
    ·have:=s3 m hm;omega
    ·rw[Kd hm];exact Nat.zero_le _)
   conv=>whnf
   refine g 0 0 []<|J UA<|W.sq<|W.cn<|J (noT SI) fun _=>W.exit<|rgd [[],[],[],[],[],[],[],[],[],[],[.call (V.own pkd (List.map bv (sC w.flight (Led.out L++iH w.plan w.workers (List.length w.workers)) w.key))) [[],[],[]]],[],[],[]] ?_
   conv=>whnf
   refine J ⟨I,I,I,I,I,I,I,I,I,I,⟨UC,I,UU,UA,AS⟩,I,I,UA,I⟩<|J KR<|EndsW.nm<|J I<|J ?_ ?_
   rfl
   all_goals (rw[e];try rfl)
theorem ju(w:World)(s:Parcel)(h:WorldOk w)(hs:ParOk s):F jo [.ptr (cellsOf (aC w)),.val (Ld s.kind s.frm s.text)] (.tup []) [cellsOf (aC (cC w s)),[]]:=by
 obtain⟨l1,l2,l3,l4,l5,l6,l7,l8⟩:=eB h
 obtain⟨⟨p1,p2⟩,p3,p4⟩:=hs
 have c4:=qh s.text w.key OM
 cases hm:eA s.text w.key with
 |none =>
  rw[hm]at c4
  rw[Fg hm]
  refine bw ?_
  conv=>whnf
  refine g 1 2 []<|J ⟨UC,I⟩<|gd 7 17 [[],[],[],[],[],[],[.call (gi none) [[],[]]],[],[],[],[],[],[]] ?_
  conv=>whnf
  refine J Zdx<|J KR<|W.sq<|g 17 18 []<|J UB<|W.cn<|J (fun _=>(RT ?_)) (noF rfl)
  rfl
 |some m =>
  rw[hm]at c4
  have hmi:=(dl (Jo hm)).1
  have cases3:∀ g:ByteArray,AC w s = g→((s.text = s.frm∧g = w.forged)∨(¬s.text = s.frm∧¬w.forged = emp∧g = w.forged)∨(¬s.text = s.frm∧w.forged = emp∧g = s.text)):=fun g e=>by
   by_cases q1:s.text = s.frm
   ·exact .inl ⟨q1,by rw[←e,JR q1]⟩
   ·by_cases q2:w.forged = emp
    ·exact .inr (.inr ⟨q1,q2,by rw[←e,MX q1 q2]⟩)
    ·exact .inr (.inl ⟨q1,q2,by rw[←e,JS q2]⟩)
  by_cases h0:s.kind = 0
  ·rw[wk hm h0]
   have c5:=uV w.boss w.plan m h.boss l3 OM
   rw[om h.boss]
   show F _ _ _ [cellsOf (aC ⟨w.plan,w.key,hY w.boss w.plan.tasks m,w.workers,w.flight,_⟩),_]
   generalize hY w.boss w.plan.tasks m = L at c5 ⊢
   generalize hgg:AC w s = g
   rcases cases3 g hgg with⟨q1,rfl⟩|⟨q1,q2,rfl⟩|⟨q1,q2,rfl⟩
   ·refine bw ?_
    conv=>whnf
    refine g 1 2 []<|J ⟨UC,I⟩<|gd 7 17 [[],[],[],[],[],[],[.call (gi (some m)) [[],[]]],[],[],[],[],[],[]] ?_
    conv=>whnf
    refine J Zdx<|J KR<|W.sq<|g 17 18 []<|J UB<|W.cn<|J (noT rfl) fun _=>W.skip<|W.sq<|g 5 30 [BF,BF,BF,BF,BF,BF]<|J ⟨I,I,I,I,I,I,nO,nO,nO,nO,nO,nO,I⟩<|W.cn<|J (noT rfl) fun _=>W.skip<|g 30 38 []<|J UC<|W.cn<|J (fun _=>(rgd [[],[],[],[],[],[],[],[],[.call (V.tup []) ([cellsOf (aN L),[],[]])]] ?_)) (noF tO)
    conv=>whnf
    refine⟨⟨I,I,I,I,I,I,I,I,⟨UC,I,⟨I,UA,UH,I⟩,UA,AS⟩,I⟩,by kernel_rfl,?_⟩
    refine EndsW.nm<|J I (J ?_ rfl)
    rfl
   ·refine bw ?_
    conv=>whnf
    refine g 1 2 []<|J ⟨UC,I⟩<|gd 7 17 [[],[],[],[],[],[],[.call (gi (some m)) [[],[]]],[],[],[],[],[],[]] ?_
    conv=>whnf
    refine J Zdx<|J KR<|W.sq<|g 17 18 []<|J UB<|W.cn<|J (noT rfl) fun _=>W.skip<|W.sq<|g 5 30 [BT,BT,BT,BT,BT,BT]<|J Zd4<|W.cn<|J (noT dO) fun _=>W.skip<|g 30 38 []<|J UC<|W.cn<|J (fun _=>(rgd [[],[],[],[],[],[],[],[],[.call (V.tup []) ([cellsOf (aN L),[],[]])]] ?_)) (noF tO)
    conv=>whnf
    refine⟨⟨I,I,I,I,I,I,I,I,⟨UC,I,⟨I,UA,UH,I⟩,UA,AS⟩,I⟩,by kernel_rfl,?_⟩
    refine EndsW.nm<|J I (J ?_ rfl)
    rfl
   ·refine bw ?_
    conv=>whnf
    refine g 1 2 []<|J ⟨UC,I⟩<|gd 7 17 [[],[],[],[],[],[],[.call (gi (some m)) [[],[]]],[],[],[],[],[],[]] ?_
    conv=>whnf
    refine J Zdx<|J KR<|W.sq<|g 17 18 []<|J UB<|W.cn<|J (noT rfl) fun _=>W.skip<|W.sq<|g 5 30 [BT,BT,BT,BT,BT,BT]<|J Zd4<|W.cn<|J (fun _=>(rg []<|J ⟨I,I,I,I,I,UA,I⟩ (g 30 38 []<|J UC (W.cn<|J (fun _=>(rgd [[],[],[],[],[],[],[],[],[.call (V.tup []) ([cellsOf (aN L),[],[]])]] ?_)) (noF tO))))) (noF tO)
    conv=>whnf
    refine⟨⟨I,I,I,I,I,I,I,I,⟨UC,I,⟨I,UA,UH,I⟩,UA,AS⟩,I⟩,by kernel_rfl,?_⟩
    refine EndsW.nm<|J I (J ?_ rfl)
    rfl
  ·by_cases h1:s.kind≤w.workers.length
   ·obtain⟨x,hx⟩:=af (xs:=w.workers) (n:=(s.kind - 1).toNat) OM
    rw[wj hm h0 ⟨by omega,h1⟩ hx]
    have hwk:=(h.crew _ x OM hx).ok
    have hxi:=l5 x (List.mem_of_getElem? hx)
    have c5:=qg x w.plan m hwk h.plan OM
    rw[eu hwk h.plan]
    show F _ _ _ [cellsOf (aC ⟨w.plan,w.key,w.boss,w.workers.set _ (jU x w.plan.tasks m),w.flight,_⟩),_]
    generalize jU x w.plan.tasks m = L at c5 ⊢
    have es:=j9 (xs:=w.workers) (n:=(s.kind - 1).toNat) (x:=L)
    generalize hgg:AC w s = g
    rcases cases3 g hgg with⟨q1,rfl⟩|⟨q1,q2,rfl⟩|⟨q1,q2,rfl⟩
    ·have cw:=fm w s.kind l4 ⟨by omega,h1⟩
     refine bw ?_
     conv=>whnf
     refine g 1 2 []<|J ⟨UC,I⟩<|gd 7 17 [[],[],[],[],[],[],[.call (gi (some m)) [[],[]]],[],[],[],[],[],[]] ?_
     conv=>whnf
     refine J Zdx<|J KR<|W.sq<|g 17 18 []<|J UB<|W.cn<|J (noT rfl) fun _=>W.skip<|W.sq<|g 5 30 [BF,BF,BF,BF,BF,BF]<|J ⟨I,I,I,I,I,I,nO,nO,nO,nO,nO,nO,I⟩<|W.cn<|J (noT rfl) fun _=>W.skip<|g 30 38 []<|J UC<|W.cn<|J (noT dO) fun _=>g 38 52 [.call (V.ptr {root:=0,step:=some (14,Int.toNat (s.kind - 1),11),off:=0:Tm.Place}) ([cellsOf (aC w),[]])]<|J Zel ?_
     refine g 3 4 []<|J UB<|W.cn<|J (fun _=>(rgd [[],[],[],[.x (ar x)],[],[],[],[],[],[.x (ar x),.call (aD L) [[],[],[]]],[],[.x (List.set (ar x) (0+1+1+1+1+1+1+1+1) T.hole)]] ?_)) (noF rfl)
     conv=>whnf
     refine⟨⟨I,I,I,xA,I,I,I,I,I,⟨⟨Zcp,I,I,I⟩,I,⟨I,UA,UH,I⟩,UA,AS⟩,I,⟨UK,bS LN⟩,I⟩,by kernel_rfl,?_⟩
     refine EndsW.nm<|J I<|J ?_ ?_
     rfl
     rw[List.set_set]
     exact jS w.plan w.key w.boss w.workers (s.kind - 1).toNat L w.flight w.forged [[]]
    ·have cw:=fm w s.kind l4 ⟨by omega,h1⟩
     refine bw ?_
     conv=>whnf
     refine g 1 2 []<|J ⟨UC,I⟩<|gd 7 17 [[],[],[],[],[],[],[.call (gi (some m)) [[],[]]],[],[],[],[],[],[]] ?_
     conv=>whnf
     refine J Zdx<|J KR<|W.sq<|g 17 18 []<|J UB<|W.cn<|J (noT rfl) fun _=>W.skip<|W.sq<|g 5 30 [BT,BT,BT,BT,BT,BT]<|J Zd4<|W.cn<|J (noT dO) fun _=>W.skip<|g 30 38 []<|J UC<|W.cn<|J (noT dO) fun _=>g 38 52 [.call (V.ptr {root:=0,step:=some (14,Int.toNat (s.kind - 1),11),off:=0:Tm.Place}) ([cellsOf (aC w),[]])]<|J Zel ?_
     refine g 3 4 []<|J UB<|W.cn<|J (fun _=>(rgd [[],[],[],[.x (ar x)],[],[],[],[],[],[.x (ar x),.call (aD L) [[],[],[]]],[],[.x (List.set (ar x) (0+1+1+1+1+1+1+1+1) T.hole)]] ?_)) (noF rfl)
     conv=>whnf
     refine⟨⟨I,I,I,xA,I,I,I,I,I,⟨⟨Zcp,I,I,I⟩,I,⟨I,UA,UH,I⟩,UA,AS⟩,I,⟨UK,bS LN⟩,I⟩,by kernel_rfl,?_⟩
     refine EndsW.nm<|J I<|J ?_ ?_
     rfl
     rw[List.set_set]
     exact jS w.plan w.key w.boss w.workers (s.kind - 1).toNat L w.flight w.forged [[]]
    ·have cw:=fm ⟨w.plan,w.key,w.boss,w.workers,w.flight,s.text⟩ s.kind l4 ⟨by omega,h1⟩
     refine bw ?_
     conv=>whnf
     refine g 1 2 []<|J ⟨UC,I⟩<|gd 7 17 [[],[],[],[],[],[],[.call (gi (some m)) [[],[]]],[],[],[],[],[],[]] ?_
     conv=>whnf
     refine J Zdx<|J KR<|W.sq<|g 17 18 []<|J UB<|W.cn<|J (noT rfl) fun _=>W.skip<|W.sq<|g 5 30 [BT,BT,BT,BT,BT,BT]<|J Zd4<|W.cn<|J (fun _=>(rg []<|J ⟨I,I,I,I,I,UA,I⟩ (g 30 38 []<|J UC (W.cn<|J (noT dO) fun _=>(g 38 52 [.call (V.ptr {root:=0,step:=some (14,Int.toNat (s.kind - 1),11),off:=0:Tm.Place}) ([cellsOf (aC {plan:=w.plan,key:=w.key,boss:=w.boss,workers:=w.workers,flight:=w.flight,forged:=s.text:World}),[]])]<|J Zel ?_))))) (noF tO)
     refine g 3 4 []<|J UB<|W.cn<|J (fun _=>(rgd [[],[],[],[.x (ar x)],[],[],[],[],[],[.x (ar x),.call (aD L) [[],[],[]]],[],[.x (List.set (ar x) (0+1+1+1+1+1+1+1+1) T.hole)]] ?_)) (noF rfl)
     conv=>whnf
     refine⟨⟨I,I,I,xA,I,I,I,I,I,⟨⟨Zcp,I,I,I⟩,I,⟨I,UA,UH,I⟩,UA,AS⟩,I,⟨UK,bS LN⟩,I⟩,by kernel_rfl,?_⟩
     refine EndsW.nm<|J I<|J ?_ ?_
     rfl
     rw[List.set_set]
     exact jS w.plan w.key w.boss w.workers (s.kind - 1).toNat L w.flight s.text [[]]
   ·rw[A1 hm h0 (fun q=>h1 q.2)]
    generalize hgg:AC w s = g
    rcases cases3 g hgg with⟨q1,rfl⟩|⟨q1,q2,rfl⟩|⟨q1,q2,rfl⟩
    ·have cw:=dY w s.kind l4 (fun q=>h1 q.2)
     refine bw ?_
     conv=>whnf
     refine g 1 2 []<|J ⟨UC,I⟩<|gd 7 17 [[],[],[],[],[],[],[.call (gi (some m)) [[],[]]],[],[],[],[],[],[]] ?_
     conv=>whnf
     refine J Zdx<|J KR<|W.sq<|g 17 18 []<|J UB<|W.cn<|J (noT rfl) fun _=>W.skip<|W.sq<|g 5 30 [BF,BF,BF,BF,BF,BF]<|J ⟨I,I,I,I,I,I,nO,nO,nO,nO,nO,nO,I⟩<|W.cn<|J (noT rfl) fun _=>W.skip<|g 30 38 []<|J UC<|W.cn<|J (noT dO) fun _=>g 38 52 [.call (V.t (T.v (Value.pointer none))) ([cellsOf (aC w),[]])]<|J Zel ?_
     refine g 3 4 []<|J UB<|W.cn<|J (noT rfl) fun _=>W.skip<|EndsW.nm<|J I (J ?_ rfl)
     rfl
    ·have cw:=dY w s.kind l4 (fun q=>h1 q.2)
     refine bw ?_
     conv=>whnf
     refine g 1 2 []<|J ⟨UC,I⟩<|gd 7 17 [[],[],[],[],[],[],[.call (gi (some m)) [[],[]]],[],[],[],[],[],[]] ?_
     conv=>whnf
     refine J Zdx<|J KR<|W.sq<|g 17 18 []<|J UB<|W.cn<|J (noT rfl) fun _=>W.skip<|W.sq<|g 5 30 [BT,BT,BT,BT,BT,BT]<|J Zd4<|W.cn<|J (noT dO) fun _=>W.skip<|g 30 38 []<|J UC<|W.cn<|J (noT dO) fun _=>g 38 52 [.call (V.t (T.v (Value.pointer none))) ([cellsOf (aC w),[]])]<|J Zel ?_
     refine g 3 4 []<|J UB<|W.cn<|J (noT rfl) fun _=>W.skip<|EndsW.nm<|J I (J ?_ rfl)
     rfl
    ·have cw:=dY ⟨w.plan,w.key,w.boss,w.workers,w.flight,s.text⟩ s.kind l4 (fun q=>h1 q.2)
     refine bw ?_
     conv=>whnf
     refine g 1 2 []<|J ⟨UC,I⟩<|gd 7 17 [[],[],[],[],[],[],[.call (gi (some m)) [[],[]]],[],[],[],[],[],[]] ?_
     conv=>whnf
     refine J Zdx<|J KR<|W.sq<|g 17 18 []<|J UB<|W.cn<|J (noT rfl) fun _=>W.skip<|W.sq<|g 5 30 [BT,BT,BT,BT,BT,BT]<|J Zd4<|W.cn<|J (fun _=>(rg []<|J ⟨I,I,I,I,I,UA,I⟩ (g 30 38 []<|J UC (W.cn<|J (noT dO) fun _=>(g 38 52 [.call (V.t (T.v (Value.pointer none))) ([cellsOf (aC {plan:=w.plan,key:=w.key,boss:=w.boss,workers:=w.workers,flight:=w.flight,forged:=s.text:World}),[]])]<|J Zel ?_))))) (noF tO)
     refine g 3 4 []<|J UB<|W.cn<|J (noT rfl) fun _=>W.skip<|EndsW.nm<|J I (J ?_ rfl)
     rfl
end Go.K
end
section
open Go Go.Tm Go.Proofs
namespace Go.K
theorem sV{X:World}{s:Parcel}{fl:List Parcel}(h:X.flight = s :: fl)(hl:X.flight.length≤2000):dA (cY X 0) = dA X∧(cY X 0).flight = fl:=by
 rw[IU h hl]
 exact⟨(LE h).symm,rfl⟩
noncomputable def eT(tw:World)(n:Nat):World:=(tw.flight.take n).foldl cC (db tw [])
theorem Ok{tw:World}{n:Nat}{s:Parcel}(h:tw.flight[n]? = some s):cC (eT tw n) s = eT tw (n+1):=by
 unfold eT;rw[List.take_add_one,h];simp
theorem QX{tw:World}{n:Nat}(h:tw.flight.length≤n):eT tw n = dA tw:=by
 unfold eT dA;rw[List.take_of_length_le h]
theorem U8{tw:World}(h:WorldOk tw)(n:Nat):WorldOk (eT tw n):=GU _ (gN h (Nat.zero_le _) fun x hx=>by cases hx)
def cT(r:Int):Nat:=min r.toNat 2000
theorem vD{w:World}{n:Nat}{r:Int}(hv:WorldOk w)(h1:n≤cT r)(h2:n = cT r∨1000000≤(bc w n).boss.now)(hr:0 < r):dA (bc w n) = bc w (cT r):=by
 by_cases e:n = cT r
 ·have hp:1≤n:=by rw[e];unfold cT;omega
  obtain⟨m,rfl⟩:∃ m,n = m+1:=⟨n - 1,by omega⟩
  rw[jM (ID w m),←e]
 ·rcases h2 with h2|h2
  ·exact absurd h2 e
  ·obtain⟨k,hk⟩:∃ k,cT r = n+k+1:=⟨cT r - n - 1,by omega⟩
   rw[hk,J4 hv h2 k]
theorem IJ(w:World)(r:Int)(h:WorldLim w):F HZ [.val (fi w),.val (.i r)] (aC (wo w r)) [[],[]]:=by
 have cv:=fc w h
 by_cases hv:WorldOk w
 ·rw[decide_eq_true hv]at cv
  have e0:wo w r = bc w (cT r):=if_pos hv
  rw[e0]
  have c1:=en w (eB hv)
  refine vZ ?_
  conv=>whnf
  refine g 0 1 []<|J Zdv<|W.sq<|g 8 9 [.call VT [[]]]<|J Zen<|W.cn<|J (noT rfl) fun _=>W.skip<|g 9 13 [.call (aC w) [[]]]<|J ⟨I,Za1,I,UQ,I⟩<|W.sq<|g 0 0 []<|J UA<|W.blk<|W.lp (fun s (n:Nat)=>⟨[(1,s.s 1),(2,s.s 2),(4,s.s 4),(5,s.s 5),(6,.i n),(7,s.s 7)],[(2,[s.c 2 0,s.c 2 1,s.c 2 2,s.c 2 3,s.c 2 4,s.c 2 5,s.c 2 6,s.c 2 7,s.c 2 8,s.c 2 9,s.c 2 10,s.c 2 11,s.c 2 12,s.c 2 13,s.c 2 14,s.c 2 15,s.c 2 16]),(4,[s.c 4 0,s.c 4 1,s.c 4 2,s.c 4 3,s.c 4 4,s.c 4 5,s.c 4 6,s.c 4 7,s.c 4 8,s.c 4 9,s.c 4 10,s.c 4 11,s.c 4 12,s.c 4 13,s.c 4 14,s.c 4 15,s.c 4 16]),(5,[.own dg ((bc w n).plan.tasks.map ay),.t (.s (bc w n).key),.t (.i (bc w n).boss.workers),.t (.b (bc w n).boss.up),.t (.i (bc w n).boss.now),.t (.i (bc w n).boss.since),.t (.i (bc w n).boss.epoch),.t (.i (bc w n).boss.given),.own [false] ((bc w n).boss.log.safe.map aj),.own [false] ((bc w n).boss.log.loose.map aj),.own [false] ((bc w n).boss.results.map aj),.own eG ((bc w n).boss.jobs.map aO),.own cx ((bc w n).boss.seats.map aG),.own cy ((bc w n).boss.owed.map aL),.own cB ((bc w n).workers.map ar),.own pkd ((bc w n).flight.map bv),.t (.s (bc w n).forged)])],[]⟩) (fun(n:Nat)=>n≤cT r) (fun(n:Nat)=>2000 - n) (0) [some 2,some 4,some 5] [] ⟨rfl,⟨rfl,rfl,rfl,rfl,rfl,Zag,I⟩,Zer,I⟩ OM ?_
  intro n hn
  have hR:cT r = min r.toNat 2000:=rfl
  have hN:=uD hv n
  have hD:=eB hN
  by_cases a1:(n:Int) < r
  ·by_cases a2:n < 2000
   ·by_cases a3:(bc w n).boss.now < 1000000
    ·have ct:=pt (bc w n) hD
     have hT:=nY hN
     have eR:bc w (n+1) = dA (hL (bc w n)):=rfl
     generalize hL (bc w n) = tw at ct hT eR
     conv=>whnf
     refine W.sq<|g 13 25 [BT,BT,BT,BT,BT,BT,BT,BT]<|J ⟨I,I,I,I,⟨tO,I⟩,⟨tO,I⟩,tO,I,⟨tO,I⟩,⟨tO,I⟩,⟨tO,I⟩,⟨tO,I⟩,tO,I⟩<|W.cn<|J (fun _=>(W.skip (W.sq (W.blk (g 25 30 [.call (aC tw) [[]]]<|J ⟨I,⟨⟨UQ,I⟩,I,UA,UA,AS⟩,UQ,I⟩ (W.blk (W.lp (fun s (X:World)=>⟨[(1,s.s 1),(2,s.s 2),(4,s.s 4),(5,s.s 5),(6,s.s 6),(7,s.s 7)],[(2,[s.c 2 0,s.c 2 1,s.c 2 2,s.c 2 3,s.c 2 4,s.c 2 5,s.c 2 6,s.c 2 7,s.c 2 8,s.c 2 9,s.c 2 10,s.c 2 11,s.c 2 12,s.c 2 13,s.c 2 14,s.c 2 15,s.c 2 16]),(4,[s.c 4 0,s.c 4 1,s.c 4 2,s.c 4 3,s.c 4 4,s.c 4 5,s.c 4 6,s.c 4 7,s.c 4 8,s.c 4 9,s.c 4 10,s.c 4 11,s.c 4 12,s.c 4 13,s.c 4 14,s.c 4 15,s.c 4 16]),(5,[.own dg (X.plan.tasks.map ay),.t (.s X.key),.t (.i X.boss.workers),.t (.b X.boss.up),.t (.i X.boss.now),.t (.i X.boss.since),.t (.i X.boss.epoch),.t (.i X.boss.given),.own [false] (X.boss.log.safe.map aj),.own [false] (X.boss.log.loose.map aj),.own [false] (X.boss.results.map aj),.own eG (X.boss.jobs.map aO),.own cx (X.boss.seats.map aG),.own cy (X.boss.owed.map aL),.own cB (X.workers.map ar),.own pkd (X.flight.map bv),.t (.s X.forged)])],[]⟩) (fun(X:World)=>WorldOk X∧dA X = dA tw) (fun(X:World)=>X.flight.length) (tw) [some 2,some 4,some 5] [] ⟨rfl,⟨rfl,rfl,rfl,rfl,rfl,Zag,I⟩,Zer,I⟩ ⟨by omega,by simp⟩ ?_))))))) (noF tO)
     rintro X ⟨hX,eX⟩
     have hXD:=eB hX
     have cb:=fk X 0 hXD
     have hfl:=hXD.fl
     obtain hf|⟨s,fl,hf⟩:X.flight = []∨∃ s fl,X.flight = s :: fl:=by
      cases X.flight with
      |nil=>exact .inl rfl
      |cons s fl=>exact .inr ⟨s,fl,rfl⟩
     ·have hl0:X.flight.length = 0:=by rw[hf];rfl
      rw[jM hf,←eR]at eX
      subst eX
      conv=>whnf
      refine W.sq<|g 30 33 []<|J UD<|W.cn<|J (noT (by simp_all)) fun _=>W.exit<|rg [.i ((n:Int) +1)]<|J Zdi ?_
      refine⟨n+1,[some 2,some 4,some 5],[],⟨rfl,⟨rfl,rfl,rfl,rfl,rfl,Zag,I⟩,Zer,I⟩,?_,?_⟩
      rotate_left
      (dsimp only;omega)
      dsimp only
      omega
     ·have hl0:X.flight.length = fl.length+1:=by rw[hf];rfl
      obtain⟨b1,b2⟩:=sV hf hfl
      have hB:=jO 0 hX
      conv=>whnf
      refine W.sq<|g 30 33 []<|J UD<|W.cn<|J (fun _=>(W.skip (W.blk (rg [.call (aC (cY X 0)) [[],[]]]<|J ⟨I,Zda,UQ,I⟩ ?_)))) (noF SI)
      refine⟨cY X 0,[some 2,some 4,some 5],[],⟨rfl,⟨rfl,rfl,rfl,rfl,rfl,Zag,I⟩,Zer,I⟩,?_,?_⟩
      rotate_left
      rotate_right 1
      dsimp only
      all_goals first|exact⟨hB,b1.trans eX,.inl hr⟩|exact⟨hB,b1.trans eX⟩|(show(cY X 0).flight.length < X.flight.length;rw[b2];omega)
    have hx:n = cT r∨1000000≤(bc w n).boss.now:=.inr OM
    conv=>whnf
    refine W.sq<|g 13 25 [BT,BT,BT,BT,BT,BT,BT,BT]<|J ⟨I,I,I,I,⟨tO,I⟩,⟨tO,I⟩,tO,I,⟨tO,I⟩,⟨tO,I⟩,⟨tO,I⟩,⟨tO,I⟩,tO,I⟩<|W.cn<|J (noT dO) fun _=>W.exit<|W.sq<|W.blk<|W.lp (fun s (X:World)=>⟨[(1,s.s 1),(2,s.s 2),(4,s.s 4),(5,s.s 5)],[(2,[s.c 2 0,s.c 2 1,s.c 2 2,s.c 2 3,s.c 2 4,s.c 2 5,s.c 2 6,s.c 2 7,s.c 2 8,s.c 2 9,s.c 2 10,s.c 2 11,s.c 2 12,s.c 2 13,s.c 2 14,s.c 2 15,s.c 2 16]),(4,[s.c 4 0,s.c 4 1,s.c 4 2,s.c 4 3,s.c 4 4,s.c 4 5,s.c 4 6,s.c 4 7,s.c 4 8,s.c 4 9,s.c 4 10,s.c 4 11,s.c 4 12,s.c 4 13,s.c 4 14,s.c 4 15,s.c 4 16]),(5,[.own dg (X.plan.tasks.map ay),.t (.s X.key),.t (.i X.boss.workers),.t (.b X.boss.up),.t (.i X.boss.now),.t (.i X.boss.since),.t (.i X.boss.epoch),.t (.i X.boss.given),.own [false] (X.boss.log.safe.map aj),.own [false] (X.boss.log.loose.map aj),.own [false] (X.boss.results.map aj),.own eG (X.boss.jobs.map aO),.own cx (X.boss.seats.map aG),.own cy (X.boss.owed.map aL),.own cB (X.workers.map ar),.own pkd (X.flight.map bv),.t (.s X.forged)])],[]⟩) (fun(X:World)=>WorldOk X∧dA X = dA (bc w n)∧(0 < r∨X = bc w n)) (fun(X:World)=>X.flight.length) (bc w n) [some 2,some 4,some 5] [] ⟨rfl,Zay,Zer,I⟩ ⟨by omega,by simp⟩ ?_
    rintro X ⟨hX,eX,eX2⟩
    have hXD:=eB hX
    have cb:=fk X 0 hXD
    have hfl:=hXD.fl
    by_cases hr:0 < r
    ·obtain hf|⟨s,fl,hf⟩:X.flight = []∨∃ s fl,X.flight = s :: fl:=by
      cases X.flight with
      |nil=>exact .inl rfl
      |cons s fl=>exact .inr ⟨s,fl,rfl⟩
     ·have hl0:X.flight.length = 0:=by rw[hf];rfl
      have eF:X = bc w (cT r):=by rw[←vD hv hn hx hr,←eX,jM hf]
      have cc:=en X hXD
      rw[←eF]
      conv=>whnf
      refine W.sq<|g 36 43 [BT,BT,BT,BT,BT]<|J Zb5<|W.cn<|J (noT (by simp_all)) fun _=>W.exit<|g 5 48 [.call (aC X) [[]]]<|J ⟨I,Za1,UQ,I⟩<|RT ?_
      rfl
     ·have hl0:X.flight.length = fl.length+1:=by rw[hf];rfl
      obtain⟨b1,b2⟩:=sV hf hfl
      have hB:=jO 0 hX
      conv=>whnf
      refine W.sq<|g 36 43 [BT,BT,BT,BT,BT]<|J Zb5<|W.cn<|J (fun _=>(W.skip (W.blk (rg [.call (aC (cY X 0)) [[],[]]]<|J ⟨I,Zda,UQ,I⟩ ?_)))) (noF SI)
      refine⟨cY X 0,[some 2,some 4,some 5],[],⟨rfl,Zay,Zer,I⟩,?_,?_⟩
      rotate_left
      rotate_right 1
      dsimp only
      all_goals first|exact⟨hB,b1.trans eX,.inl hr⟩|exact⟨hB,b1.trans eX⟩|(show(cY X 0).flight.length < X.flight.length;rw[b2];omega)
    ·exfalso;omega
   have hx:n = cT r∨1000000≤(bc w n).boss.now:=.inl OM
   conv=>whnf
   refine W.sq<|g 13 25 [BT,BT,BT,BF,BF,BF,BF,BF]<|J ⟨I,I,I,I,⟨tO,I⟩,⟨tO,I⟩,tO,I,dO,dO,dO,dO,dO,I⟩<|W.cn<|J (noT rfl) fun _=>W.exit<|W.sq<|W.blk<|W.lp (fun s (X:World)=>⟨[(1,s.s 1),(2,s.s 2),(4,s.s 4),(5,s.s 5)],[(2,[s.c 2 0,s.c 2 1,s.c 2 2,s.c 2 3,s.c 2 4,s.c 2 5,s.c 2 6,s.c 2 7,s.c 2 8,s.c 2 9,s.c 2 10,s.c 2 11,s.c 2 12,s.c 2 13,s.c 2 14,s.c 2 15,s.c 2 16]),(4,[s.c 4 0,s.c 4 1,s.c 4 2,s.c 4 3,s.c 4 4,s.c 4 5,s.c 4 6,s.c 4 7,s.c 4 8,s.c 4 9,s.c 4 10,s.c 4 11,s.c 4 12,s.c 4 13,s.c 4 14,s.c 4 15,s.c 4 16]),(5,[.own dg (X.plan.tasks.map ay),.t (.s X.key),.t (.i X.boss.workers),.t (.b X.boss.up),.t (.i X.boss.now),.t (.i X.boss.since),.t (.i X.boss.epoch),.t (.i X.boss.given),.own [false] (X.boss.log.safe.map aj),.own [false] (X.boss.log.loose.map aj),.own [false] (X.boss.results.map aj),.own eG (X.boss.jobs.map aO),.own cx (X.boss.seats.map aG),.own cy (X.boss.owed.map aL),.own cB (X.workers.map ar),.own pkd (X.flight.map bv),.t (.s X.forged)])],[]⟩) (fun(X:World)=>WorldOk X∧dA X = dA (bc w n)∧(0 < r∨X = bc w n)) (fun(X:World)=>X.flight.length) (bc w n) [some 2,some 4,some 5] [] ⟨rfl,Zay,Zer,I⟩ ⟨by omega,by simp⟩ ?_
   rintro X ⟨hX,eX,eX2⟩
   have hXD:=eB hX
   have cb:=fk X 0 hXD
   have hfl:=hXD.fl
   by_cases hr:0 < r
   ·obtain hf|⟨s,fl,hf⟩:X.flight = []∨∃ s fl,X.flight = s :: fl:=by
     cases X.flight with
     |nil=>exact .inl rfl
     |cons s fl=>exact .inr ⟨s,fl,rfl⟩
    ·have hl0:X.flight.length = 0:=by rw[hf];rfl
     have eF:X = bc w (cT r):=by rw[←vD hv hn hx hr,←eX,jM hf]
     have cc:=en X hXD
     rw[←eF]
     conv=>whnf
     refine W.sq<|g 36 43 [BT,BT,BT,BT,BT]<|J Zb5<|W.cn<|J (noT (by simp_all)) fun _=>W.exit<|g 5 48 [.call (aC X) [[]]]<|J ⟨I,Za1,UQ,I⟩<|RT ?_
     rfl
    ·have hl0:X.flight.length = fl.length+1:=by rw[hf];rfl
     obtain⟨b1,b2⟩:=sV hf hfl
     have hB:=jO 0 hX
     conv=>whnf
     refine W.sq<|g 36 43 [BT,BT,BT,BT,BT]<|J Zb5<|W.cn<|J (fun _=>(W.skip (W.blk (rg [.call (aC (cY X 0)) [[],[]]]<|J ⟨I,Zda,UQ,I⟩ ?_)))) (noF SI)
     refine⟨cY X 0,[some 2,some 4,some 5],[],⟨rfl,Zay,Zer,I⟩,?_,?_⟩
     rotate_left
     rotate_right 1
     dsimp only
     all_goals first|exact⟨hB,b1.trans eX,.inl hr⟩|exact⟨hB,b1.trans eX⟩|(show(cY X 0).flight.length < X.flight.length;rw[b2];omega)
   ·exfalso;omega
  have hx:n = cT r∨1000000≤(bc w n).boss.now:=.inl OM
  conv=>whnf
  refine W.sq<|g 13 25 [BF,BF,BF,BF,BF,BF,BF,BF]<|J ⟨I,I,I,I,dO,dO,dO,I,rfl,rfl,rfl,rfl,rfl,I⟩<|W.cn<|J (noT rfl) fun _=>W.exit<|W.sq<|W.blk<|W.lp (fun s (X:World)=>⟨[(1,s.s 1),(2,s.s 2),(4,s.s 4),(5,s.s 5)],[(2,[s.c 2 0,s.c 2 1,s.c 2 2,s.c 2 3,s.c 2 4,s.c 2 5,s.c 2 6,s.c 2 7,s.c 2 8,s.c 2 9,s.c 2 10,s.c 2 11,s.c 2 12,s.c 2 13,s.c 2 14,s.c 2 15,s.c 2 16]),(4,[s.c 4 0,s.c 4 1,s.c 4 2,s.c 4 3,s.c 4 4,s.c 4 5,s.c 4 6,s.c 4 7,s.c 4 8,s.c 4 9,s.c 4 10,s.c 4 11,s.c 4 12,s.c 4 13,s.c 4 14,s.c 4 15,s.c 4 16]),(5,[.own dg (X.plan.tasks.map ay),.t (.s X.key),.t (.i X.boss.workers),.t (.b X.boss.up),.t (.i X.boss.now),.t (.i X.boss.since),.t (.i X.boss.epoch),.t (.i X.boss.given),.own [false] (X.boss.log.safe.map aj),.own [false] (X.boss.log.loose.map aj),.own [false] (X.boss.results.map aj),.own eG (X.boss.jobs.map aO),.own cx (X.boss.seats.map aG),.own cy (X.boss.owed.map aL),.own cB (X.workers.map ar),.own pkd (X.flight.map bv),.t (.s X.forged)])],[]⟩) (fun(X:World)=>WorldOk X∧dA X = dA (bc w n)∧(0 < r∨X = bc w n)) (fun(X:World)=>X.flight.length) (bc w n) [some 2,some 4,some 5] [] ⟨rfl,Zay,Zer,I⟩ ⟨by omega,by simp⟩ ?_
  rintro X ⟨hX,eX,eX2⟩
  have hXD:=eB hX
  have cb:=fk X 0 hXD
  have hfl:=hXD.fl
  by_cases hr:0 < r
  ·obtain hf|⟨s,fl,hf⟩:X.flight = []∨∃ s fl,X.flight = s :: fl:=by
    cases X.flight with
    |nil=>exact .inl rfl
    |cons s fl=>exact .inr ⟨s,fl,rfl⟩
   ·have hl0:X.flight.length = 0:=by rw[hf];rfl
    have eF:X = bc w (cT r):=by rw[←vD hv hn hx hr,←eX,jM hf]
    have cc:=en X hXD
    rw[←eF]
    conv=>whnf
    refine W.sq<|g 36 43 [BT,BT,BT,BT,BT]<|J Zb5<|W.cn<|J (noT (by simp_all)) fun _=>W.exit<|g 5 48 [.call (aC X) [[]]]<|J ⟨I,Za1,UQ,I⟩<|RT ?_
    rfl
   ·have hl0:X.flight.length = fl.length+1:=by rw[hf];rfl
    obtain⟨b1,b2⟩:=sV hf hfl
    have hB:=jO 0 hX
    conv=>whnf
    refine W.sq<|g 36 43 [BT,BT,BT,BT,BT]<|J Zb5<|W.cn<|J (fun _=>(W.skip (W.blk (rg [.call (aC (cY X 0)) [[],[]]]<|J ⟨I,Zda,UQ,I⟩ ?_)))) (noF SI)
    refine⟨cY X 0,[some 2,some 4,some 5],[],⟨rfl,Zay,Zer,I⟩,?_,?_⟩
    rotate_left
    rotate_right 1
    dsimp only
    all_goals first|exact⟨hB,b1.trans eX,.inl hr⟩|exact⟨hB,b1.trans eX⟩|(show(cY X 0).flight.length < X.flight.length;rw[b2];omega)
  ·have e0:n = 0:=by omega
   have e1:cT r = 0:=by omega
   have eF:X = bc w (cT r):=by
    rcases eX2 with h|h
    ·exact absurd h hr
    ·rw[h,e0,e1]
   have cc:=en X hXD
   rw[←eF]
   conv=>whnf
   refine W.sq<|g 36 43 [BF,BF,BF,BF,BF]<|J ⟨I,I,I,dO,dO,dO,dO,dO,I⟩<|W.cn<|J (noT rfl) fun _=>W.exit<|g 5 48 [.call (aC X) [[]]]<|J ⟨I,Za1,UQ,I⟩<|RT ?_
   rfl
 ·rw[decide_eq_false hv]at cv
  have e0:wo w r = noWorld:=if_neg hv
  rw[e0]
  refine vZ ?_
  conv=>whnf
  refine g 0 1 []<|J Zdv<|W.sq<|g 8 9 [.call VF [[]]]<|J Zen<|W.cn<|J (fun _=>(g 9 11 []<|J Zdu (RT ?_))) (noF rfl)
  rfl
theorem IP(w:World)(r:Int)(h:WorldLim w):F H8 [.val (fi w),.val (.i r)] (aC (wo w r)) [[],[]]:=by
 have cv:=fe w h
 by_cases hv:WorldOk w
 ·rw[decide_eq_true hv]at cv
  have e0:wo w r = bc w (cT r):=if_pos hv
  rw[e0]
  have c1:=ki w (eB hv)
  refine v4 ?_
  conv=>whnf
  refine g 0 1 []<|J Zdv<|W.sq<|g 9 11 [.call VT [[]]]<|J Zen<|W.cn<|J (noT rfl) fun _=>W.skip<|g 11 15 [.call (aC w) [[]]]<|J ⟨I,Za1,UQ,I⟩<|W.sq<|g 0 0 []<|J UA<|W.blk<|W.lp (fun s (n:Nat)=>⟨[(1,s.s 1),(2,s.s 2),(4,s.s 4),(5,.i n)],[(4,[s.c 4 0,s.c 4 1,s.c 4 2,s.c 4 3,s.c 4 4,s.c 4 5,s.c 4 6,s.c 4 7,s.c 4 8,s.c 4 9,s.c 4 10,s.c 4 11,s.c 4 12,s.c 4 13,s.c 4 14,s.c 4 15,s.c 4 16]),(2,[.own dg ((bc w n).plan.tasks.map ay),.t (.s (bc w n).key),.t (.i (bc w n).boss.workers),.t (.b (bc w n).boss.up),.t (.i (bc w n).boss.now),.t (.i (bc w n).boss.since),.t (.i (bc w n).boss.epoch),.t (.i (bc w n).boss.given),.own [false] ((bc w n).boss.log.safe.map aj),.own [false] ((bc w n).boss.log.loose.map aj),.own [false] ((bc w n).boss.results.map aj),.own eG ((bc w n).boss.jobs.map aO),.own cx ((bc w n).boss.seats.map aG),.own cy ((bc w n).boss.owed.map aL),.own cB ((bc w n).workers.map ar),.own pkd ((bc w n).flight.map bv),.t (.s (bc w n).forged)])],[]⟩) (fun(n:Nat)=>n≤cT r) (fun(n:Nat)=>2000 - n) (0) [some 4,some 2] [] ⟨rfl,Zay,⟨Zdg,⟨Zdg,I⟩⟩,I⟩ OM ?_
  intro n hn
  have hR:cT r = min r.toNat 2000:=rfl
  have hN:=uD hv n
  by_cases hgo:n < cT r
  ·have ct:=kj (bc w n) hN
   have hT:=nY hN
   have eR:bc w (n+1) = dA (hL (bc w n)):=rfl
   generalize hL (bc w n) = tw at ct hT eR
   have hTf:=hT.fl
   have e1:eT tw 0 = db tw []:=rfl
   conv=>whnf
   refine W.sq<|g 15 21 [BT,BT,BT]<|J ⟨I,I,I,I,⟨tO,I⟩,⟨tO,I⟩,tO,I⟩<|W.cn<|J (fun _=>(W.skip (W.sq (W.blk (g 21 25 [.call (V.tup []) ([cellsOf (aC tw)])]<|J ⟨⟨UA,I,UA,UA,AS⟩,I⟩ (g 25 27 [.g]<|J ⟨I,UA,I,I⟩ (g 27 28 []<|J UV (g 6 7 []<|J UC (W.blk (W.lp (fun s (m:Nat)=>⟨[(1,s.s 1),(2,s.s 2),(4,s.s 4),(5,s.s 5),(28,s.s 28),(29,s.s 29),(30,.i m)],[(4,[s.c 4 0,s.c 4 1,s.c 4 2,s.c 4 3,s.c 4 4,s.c 4 5,s.c 4 6,s.c 4 7,s.c 4 8,s.c 4 9,s.c 4 10,s.c 4 11,s.c 4 12,s.c 4 13,s.c 4 14,s.c 4 15,s.c 4 16]),(26,[s.c 26 0]),(2,[.own dg ((eT tw m).plan.tasks.map ay),.t (.s (eT tw m).key),.t (.i (eT tw m).boss.workers),.t (.b (eT tw m).boss.up),.t (.i (eT tw m).boss.now),.t (.i (eT tw m).boss.since),.t (.i (eT tw m).boss.epoch),.t (.i (eT tw m).boss.given),.own [false] ((eT tw m).boss.log.safe.map aj),.own [false] ((eT tw m).boss.log.loose.map aj),.own [false] ((eT tw m).boss.results.map aj),.own eG ((eT tw m).boss.jobs.map aO),.own cx ((eT tw m).boss.seats.map aG),.own cy ((eT tw m).boss.owed.map aL),.own cB ((eT tw m).workers.map ar),.own pkd ((eT tw m).flight.map bv),.t (.s (eT tw m).forged)])],[]⟩) (fun(m:Nat)=>m≤tw.flight.length) (fun(m:Nat)=>tw.flight.length - m) (0) [some 4,some 26,some 2] [] ⟨rfl,Zbb,⟨Zdg,⟨Zad,⟨Zdg,I⟩⟩⟩,I⟩ OM ?_)))))))))) (noF tO)
   intro m hm
   have hP:=U8 hT m
   by_cases hm2:m < tw.flight.length
   ·obtain⟨s,hs⟩:=af hm2
    have cb:=ju (eT tw m) s hP (hT.par s (List.mem_of_getElem? hs))
    rw[Ok hs]at cb
    conv=>whnf
    refine g 0 0 []<|J UA<|W.sq<|W.cn<|J (fun _=>(W.skip (W.sq (W.blk (g 31 34 [.n (m),.x (bz s)]<|J Zc1 (rg [.call (V.tup []) ([cellsOf (aC (eT tw (m+1))),[]])]<|J ⟨I,⟨UB,I,Zd8,UA,AS⟩,I⟩ (rg [.i ((m:Int) +1)]<|J Zdn ?_))))))) (noF SI)
    refine⟨m+1,[some 4,some 26,some 2],[],⟨rfl,Zbb,⟨Zdg,⟨Zad,⟨Zdg,I⟩⟩⟩,I⟩,?_,?_⟩
    rotate_left
    (dsimp only;omega)
    dsimp only
    omega
   ·have e2:=QX (tw:=tw) (n:=m) OM
    conv=>whnf
    refine g 0 0 []<|J UA<|W.sq<|W.cn<|J (noT SI) fun _=>W.exit<|rg [.i ((n:Int) +1)]<|J Zdi ?_
    refine⟨n+1,[some 4,some 2],[],⟨rfl,Zay,⟨Zdg,⟨⟨rfl,⟨(congrArg (V.own _) (by rw[eR,←e2])),⟨(congrArg (fun z=>V.t (T.v (Value.string z))) (by rw[eR,←e2])),⟨(congrArg (fun z=>V.t (T.v (Value.int _ z))) (by rw[eR,←e2])),⟨(congrArg (fun z=>V.t (T.v (Value.bool z))) (by rw[eR,←e2])),⟨(congrArg (fun z=>V.t (T.v (Value.int _ z))) (by rw[eR,←e2])),⟨(congrArg (fun z=>V.t (T.v (Value.int _ z))) (by rw[eR,←e2])),⟨(congrArg (fun z=>V.t (T.v (Value.int _ z))) (by rw[eR,←e2])),⟨(congrArg (fun z=>V.t (T.v (Value.int _ z))) (by rw[eR,←e2])),⟨(congrArg (V.own _) (by rw[eR,←e2])),⟨(congrArg (V.own _) (by rw[eR,←e2])),⟨(congrArg (V.own _) (by rw[eR,←e2])),⟨(congrArg (V.own _) (by rw[eR,←e2])),⟨(congrArg (V.own _) (by rw[eR,←e2])),⟨(congrArg (V.own _) (by rw[eR,←e2])),⟨(congrArg (V.own _) (by rw[eR,←e2])),⟨(congrArg (V.own _) (by rw[eR,←e2])),⟨(congrArg (fun z=>V.t (T.v (Value.string z))) (by rw[eR,←e2])),I⟩⟩⟩⟩⟩⟩⟩⟩⟩⟩⟩⟩⟩⟩⟩⟩⟩⟩,I⟩⟩,I⟩,?_,?_⟩
    rotate_left
    (dsimp only;omega)
    dsimp only
    omega
  ·obtain rfl:n = cT r:=by omega
   conv=>whnf
   refine W.sq ?_
   by_cases h1:(↑(cT r):Int) < r
   refine g 15 21 [BT,BT,BT]<|J ⟨I,I,I,I,⟨tO,I⟩,⟨tO,I⟩,tO,I⟩<|W.cn<|J (noT dO) fun _=>W.exit<|g 5 38 []<|J Zdu<|RT ?_
   rfl
   refine g 15 21 [BF,BF,BF]<|J ⟨I,I,I,I,dO,dO,dO,I⟩<|W.cn<|J (noT rfl) fun _=>W.exit<|g 5 38 []<|J Zdu<|RT ?_
   rfl
 ·rw[decide_eq_false hv]at cv
  have e0:wo w r = noWorld:=if_neg hv
  rw[e0]
  refine v4 ?_
  conv=>whnf
  refine g 0 1 []<|J Zdv<|W.sq<|g 9 11 [.call VF [[]]]<|J Zen<|W.cn<|J (fun _=>(g 11 13 []<|J Zdu (RT ?_))) (noF rfl)
  rfl
end Go.K
end
section
open Go Go.Tm Go.Proofs
namespace Go.K
theorem Es:∀ {l:List Task},(∀ t∈l,t.deps.length≤64)→ak cJ l≤66 * (l.length:Int)
 |[],_=>by simp[ak]
 |x :: l,h=>by
  have h1:=Es (l:=l) fun m hm=>h m (List.mem_cons_of_mem _ hm)
  have h2:=h x (List.mem_cons_self ..)
  simp only[ak,cJ,List.length_cons];omega
theorem Er:∀ {l:List Worker},(∀ t∈l,t.inputs.length≤1048576)→ak ai l≤1048586 * (l.length:Int)
 |[],_=>by simp[ak]
 |x :: l,h=>by
  have h1:=Er (l:=l) fun m hm=>h m (List.mem_cons_of_mem _ hm)
  have h2:=h x (List.mem_cons_self ..)
  simp only[ak,ai,List.length_cons];omega
theorem zR:∀ (l:List Worker),ak ai l≤10 * (l.length:Int) +ak aS l
 |[]=>by simp[ak]
 |x :: l=>by
  have h1:=zR l
  have h2:aS x = (x.inputs.length+bQ x.inputs) +x.text.size:=rfl
  have h3:=bm x.inputs
  simp only[ak,ai,List.length_cons];omega
theorem Bh:∀ (l:List Parcel),ak aR l = 3 * (l.length:Int)
 |[]=>by simp[ak]
 |x :: l=>by
  have h1:=Bh l
  simp only[ak,aR,List.length_cons];omega
abbrev Ei(x:World):Prop:=x.plan.tasks.length≤9223372036854775806∧x.boss.log.safe.length≤9223372036854775806∧x.boss.log.loose.length≤9223372036854775806∧x.boss.results.length≤9223372036854775806∧x.boss.jobs.length≤9223372036854775806∧x.boss.seats.length≤9223372036854775806∧x.boss.owed.length≤9223372036854775806∧x.workers.length≤9223372036854775806∧x.flight.length≤9223372036854775806
theorem v5{x:World}(h:Ke x):j8 x∧Ei x∧0≤bo x∧bo x≤200000000:=by
 obtain⟨l1,l2,l3,l4,l5,l6,l7,l8⟩:=Lt h
 obtain⟨⟨c1,c2,c3,c4,c5,c6⟩,_,b3,b4⟩:=mG (lK l3)
 have e:bo x = bb x.plan+bq x.boss+ak ai x.workers+ak aR x.flight:=rfl
 have e2:bb x.plan = ak cJ x.plan.tasks:=rfl
 have h1:=Es (l:=x.plan.tasks) fun t ht=>(l2.2 t ht).2
 have h2:=iD x.plan
 have h3:=Er (l:=x.workers) fun t ht=>by have:=l5 t ht;omega
 have h4:=Bh x.flight
 have h5:=aJ dh x.workers
 have h6:=l2.1
 have hp:x.plan.tasks.length≤9223372036854775806:=by omega
 have hf:x.flight.length≤9223372036854775806:=by omega
 have hw:x.workers.length≤9223372036854775806:=by omega
 refine⟨⟨hp,fun t ht=>by have:=(l2.2 t ht).2;show t.deps.length≤_;omega,c1,c2,c3,c4,c5,c6,hw,fun y hy=>by have:=l5 y hy;show y.inputs.length≤_;omega,hf⟩,⟨hp,c1,c2,c3,c4,c5,c6,hw,hf⟩,by omega,?_⟩
 have h7:ak ai x.workers≤8388688:=by omega
 omega
theorem Ej{w:World}(h:eE w≤1048576):Ei w∧0≤bo w∧bo w≤400000000:=by
 have e:eE w = aK w.plan+ (w.key.size:Int) +bJ w.boss+ ((w.workers.length:Int) +ak aS w.workers) + ((w.flight.length:Int) +ak eM w.flight) + (w.forged.size:Int):=rfl
 have h1:=lM w.plan
 have h2:=jP w.boss
 have h3:=aJ cg w.workers
 have h4:=aJ gx w.flight
 obtain⟨p1,p2⟩:=QV (p:=w.plan) OM
 obtain⟨⟨c1,c2,c3,c4,c5,c6⟩,_,b3,b4⟩:=mG (lK (J6 (b:=w.boss) OM))
 have h5:=zR w.workers
 have h6:=Bh w.flight
 have h7:=aJ dh w.workers
 have h8:=iD w.plan
 have e2:bo w = bb w.plan+bq w.boss+ak ai w.workers+ak aR w.flight:=rfl
 exact⟨⟨by omega,c1,c2,c3,c4,c5,c6,by omega,by omega⟩,by omega,by omega⟩
end Go.K
end
section
open Go Go.Tm Go.Proofs
namespace Go.K
theorem Ls(w:World)(r:Int):Ke (wo w r):=by
 unfold wo;split
 ·rename_i h;exact .inl (uD h _)
 ·exact .inr rfl
theorem Cv(w:World)(hw:sW w)(r:Int):F pM [.val (fi w),.val (.i r)] (.b true) [[],[]]:=by
 have c0:=nx w 1048576 hw OM OM
 have hbn:=zI w
 by_cases hq:(1048576:Int) - eE w < 0
 ·rw[if_pos hq]at c0
  refine jr ?_
  conv=>whnf
  refine g 0 1 []<|J Zdv<|g 0 0 []<|J UA<|g 13 16 [.call (V.i (-1)) [[],[]]]<|J ⟨I,I,Zc2,I,I⟩<|W.sq<|g 5 17 []<|J UB<|W.cn<|J (fun _=>(g 17 18 []<|J UA (RT ?_))) (noF rfl)
  rfl
 ·rw[if_neg hq]at c0
  have hl:=vH (a:=w) OM
  have hlim:=Eh hw OM
  obtain⟨q1,q2,q3⟩:=Ej (w:=w) OM
  obtain⟨r1,r2,r3,r4⟩:=v5 (Ls w r)
  have ca:=IJ w r hlim
  have cb:=IP w r hlim
  generalize wo w r = ww at r1 r2 r3 r4 ca cb
  refine jr ?_
  conv=>whnf
  refine g 0 1 []<|J Zdv<|g 0 0 []<|J UA<|g 13 16 [.call (V.i (1048576 - eE w)) [[],[]]]<|J ⟨I,I,Zc2,I,I⟩<|W.sq<|g 5 17 []<|J UB<|W.cn<|J (noT dO) fun _=>W.skip<|g 17 22 [.call (aC w) [[]],.call (aC ww) [[],[]]]<|J ⟨I,⟨UA,I,⟨UQ,I⟩,UA,dn _ OM⟩,I,Zc2,I,UQ,I⟩<|g 22 24 [.call (aC w) [[]]]<|J ⟨I,⟨UA,I,⟨UQ,I⟩,UA,dn _ OM⟩,I,UQ,I⟩<|g 24 27 [.call (aC ww) [[],[]]]<|J ⟨I,I,Zc2,I,UQ,I⟩<|W.sq<|g 27 30 [.call (V.b (decide (ww = ww))) [[],[]]]<|J ⟨I,I,⟨UB,I,⟨UQ,UQ,I⟩,UA,dp _ _ OM⟩,I,I⟩ ?_
  refine W.cn<|J (noT (ea rfl)) fun _=>W.skip<|W.sq<|gd 30 35 [[],[],[.call (aC w) [[]]],[.call (V.b (decide (w = w))) [[],[]]],[]] ?_
  conv=>whnf
  refine J ⟨I,I,⟨UA,I,⟨UQ,I⟩,UA,dn _ OM⟩,⟨UB,I,⟨UQ,UQ,I⟩,UA,dp _ _ OM⟩,I,I⟩<|J KR<|W.cn<|J (noT (ea rfl)) fun _=>W.skip<|g 35 36 []<|J UA<|g 36 39 [.call (V.i (1+bo w)) ([cellsOf (aC (lX 1 w)),[]])]<|J ⟨I,I,⟨Zdv,I,UV,UA,fF _ _ OM OM OM⟩,I,I⟩<|W.sq<|g 9 46 [BF,BF,BF,.call (V.b (decide (ww = ww))) [[],[]],BF,BF]<|J ⟨I,I,I,⟨dO,I⟩,⟨dO,I⟩,⟨dO,UB,I,⟨UQ,UQ,I⟩,UA,dp _ _ OM⟩,⟨dO,I⟩,dO,I⟩<|W.cn<|J (noT AS) fun _=>W.skip<|g 7 8 []<|J UA<|g 46 50 [.call (V.i (1+bo ww)) ([cellsOf (aC (lX 1 ww)),[]])]<|J ⟨I,I,⟨Zdv,I,UV,UA,fF _ _ OM OM OM⟩,I,I⟩<|g 0 0 []<|J UA ?_
  refine g 50 53 [.call (V.i (1+bo ww)) [[],[]]]<|J ⟨I,I,⟨UB,I,⟨UQ,UA,I⟩,UA,fG _ _ OM OM OM⟩,I,I⟩<|W.sq<|g 53 54 []<|J UB<|W.cn<|J (noT dO) fun _=>W.skip<|W.sq<|g 54 57 []<|J UC<|W.cn<|J (noT nO) fun _=>W.skip<|g 57 62 [.call (aC w) [[]],.call (aC ww) [[],[]]]<|J ⟨I,⟨UA,I,⟨UQ,I⟩,UA,dn _ OM⟩,I,Zc2,I,UQ,I⟩<|W.sq<|g 12 65 [.call (V.b (decide (ww = ww))) [[],[]]]<|J ⟨I,I,⟨UB,I,⟨UQ,UQ,I⟩,UA,dp _ _ OM⟩,I,I⟩ ?_
  refine W.cn<|J (noT AS) fun _=>W.skip<|g 1 3 []<|J UA<|g 65 69 [.call (V.i (1+bo ww)) [[],[]]]<|J ⟨I,I,⟨UB,I,⟨UQ,UA,I⟩,UA,fG _ _ OM OM OM⟩,I,I⟩<|W.sq<|g 6 9 []<|J UB<|W.cn<|J (noT AS) fun _=>W.skip<|W.sq<|g 10 73 []<|J UC<|W.cn<|J (noT AS) fun _=>W.skip ?_
  refine g 73 74 []<|J UA<|RT ?_
  rfl
end Go.K
end

/- Contracts of functions of the program: what each call answers. -/
import Derived.Test.YtoknlfldllmhpaaGreatPartf
set_option maxHeartbeats 8000000
set_option maxRecDepth 20000
set_option linter.unusedVariables false
set_option linter.unusedSimpArgs false
section
open Go Go.Tm Go.Proofs
namespace Go.K
structure BossTight (b:Boss):Prop where
 workers:0≤b.workers∧b.workers≤8
 now:0≤b.now∧b.now≤1000000
 epoch:0≤b.epoch∧b.epoch≤300
 safe:b.log.safe.length≤310
 loose:b.log.loose.length≤310
 all:∀ s∈b.log.safe++b.log.loose,s.size≤12
 res:b.results.length≤40
 jobs:b.jobs.length≤40
 seats:b.seats.length≤8
 owed:b.owed.length≤2000
theorem KW{b:Boss}{p:Plan}(h:BossOk b p):BossTight b:=by
 have hc:=h.code
 have hl:=(cF hc).2.1
 have hs:=Bu hc
 have hp:=(bX h.plan).1
 have he:=fG hc
 rw[List.length_append]at hl
 have hw:=h.workers
 have hn:=h.now
 cases hb:b.up with
 |true =>
  obtain⟨u1,u2,u3,u4,u5,u6,u7,u8,u9,u10,u11,u12⟩:=h.up hb
  have he1:0≤(cA b p).epoch:=he.1
  have he2:(cA b p).epoch≤300:=he.2
  exact⟨by omega,hn,by omega,by omega,by omega,hs,by omega,by omega,by omega,by omega⟩
 |false =>
  obtain⟨d1,d2,d3,d4,d5,d6,d7,d8⟩:=h.down hb
  exact⟨by omega,hn,by omega,by omega,by omega,hs,by omega,by omega,by omega,by omega⟩
theorem iY{w:World}(h:sZ w):BossTight w.boss:=by
 rcases h with h|rfl
 ·exact KW h.boss
 ·exact⟨by decide,by decide,by decide,Nat.zero_le _,Nat.zero_le _,fun s hs=>(by cases hs),Nat.zero_le _,Nat.zero_le _,Nat.zero_le _,Nat.zero_le _⟩
theorem pL{b:Boss}(h:BossTight b):BossLim b:=by
 obtain⟨_,_,_,h1,h2,h3,h4,h5,h6,h7⟩:=h
 exact⟨by omega,by omega,fun s q=>by have:=h3 s q;omega,by omega,by omega,by omega,by omega⟩
structure BossMid (b:Boss):Prop where
 safe:b.log.safe.length≤400
 loose:b.log.loose.length≤400
 all:∀ s∈b.log.safe++b.log.loose,s.size≤1000
 res:b.results.length≤100
 jobs:b.jobs.length≤100
 seats:b.seats.length≤100
 owed:b.owed.length≤4000
theorem XR{b:Boss}(h:BossMid b):BossLim b:=by
 obtain⟨h1,h2,h3,h4,h5,h6,h7⟩:=h
 exact⟨by omega,by omega,fun s q=>by have:=h3 s q;omega,by omega,by omega,by omega,by omega⟩
theorem kB{b:Boss}(h:BossTight b):BossMid b:=by
 obtain⟨_,_,_,h1,h2,h3,h4,h5,h6,h7⟩:=h
 exact⟨by omega,by omega,fun s q=>by have:=h3 s q;omega,by omega,by omega,by omega,by omega⟩
theorem QK(l:List Int)(pos:Int)(b:Boss)(hb:BossTight b)(hl:dM l)(h0:0≤pos)(h1:pos≤990000):∃ res outs,(∃ (v:Boss) (pos2:Int),res = aF v∧outs = [rdC l pos2,[]]∧BossMid v∧pos≤pos2∧pos2≤pos+20)∧F kq [.ptr (rdC l pos),.val (aF b)] res outs:=by
 have cc:=qS b (pL hb)
 obtain⟨⟨b1,b2⟩,⟨b3,b4⟩,⟨b5,b6⟩,b7,b8,b9,b10,b11,b12,b13⟩:=hb
 have ej:(b.jobs.map aH).length = b.jobs.length:=List.length_map ..
 have er:(b.results.map ah).length = b.results.length:=List.length_map ..
 have m9:∀ s∈b.log.safe++b.log.loose,s.size≤1000:=fun s q=>by have:=b9 s q;omega
 refine Ac ?_
 conv=>whnf
 refine g 0 0 []<|J QZ<|g 8 10 [.call (aF b) O1]<|J QZ<|g 0 0 []<|J UA<|Ws<|g 0 0 []<|J UA<|Wb<|Wl (fun s (x:Nat×Int)=>⟨(SK s [0,1,3,4,5] [(6,.i x.2),(7,.i x.1)]),[(198,[s.c 198 0,s.c 198 1]),(199,(CK s 199 0 12 [])),(3,(CK s 3 0 12 [])),(4,(CK s 4 0 12 [])),(5,(CK s 5 0 12 []))],[]⟩) (fun(x:Nat×Int)=>x.1≤b.jobs.length∧ -1≤x.2∧x.2 < x.1) (fun(x:Nat×Int)=>b.jobs.length - x.1) ((0,-1)) [some 198,some 199,some 3,some 4,some 5] [] ⟨rfl,FZ,⟨FZ,⟨(R7 Zac),FZ⟩⟩,I⟩ OM ?_
 rintro⟨n,a⟩ ⟨hn,ha1,ha2⟩
 dsimp only at hn ha1 ha2
 by_cases hj:n < b.jobs.length
 ·obtain⟨j,hj1⟩:=ae hj
  by_cases hd:0 < j.lease
  ·conv=>whnf
   refine Ws<|g 10 14 []<|J UE<|Wc<|Kt (Wk (Ws (Wb (g 14 23 [.n (Prod.fst (n,a)),.x (aH j)]<|J QZ (Wc<|Kt (rg []<|J UB (rg [.i ((↑(Prod.fst (n,a)):Int) +1)]<|J QZ ?_)))))))
   refine⟨(n+1,(n:Int)),[some 198,some 199,some 3,some 4,some 5],[],⟨rfl,FZ,⟨FZ,⟨(R7 Zac),FZ⟩⟩,I⟩,?_,?_⟩
   rotate_left
   (dsimp only;omega)
   dsimp only
   omega
  ·conv=>whnf
   refine Ws<|g 10 14 []<|J UE<|Wc<|Kt (Wk (Ws (Wb (g 14 23 [.n (Prod.fst (n,a)),.x (aH j)]<|J QZ (Wc<|Jf<|(Wk (rg [.i ((↑(Prod.fst (n,a)):Int) +1)]<|J QZ ?_)))))))
   refine⟨(n+1,a),[some 198,some 199,some 3,some 4,some 5],[],⟨rfl,FZ,⟨FZ,⟨(R7 Zac),FZ⟩⟩,I⟩,?_,?_⟩
   rotate_left
   (dsimp only;omega)
   dsimp only
   omega
 have swt:∀ q:Int,True:=fun _=>trivial
 have g3:=ak l pos 3
 by_cases hA:0≤a
 ·obtain⟨j,hj1⟩:=ae (xs:=b.jobs) (n:=a.toNat) OM
  by_cases hC:ac l pos 3 = 0
  ·have g2:=ak l (pos+1) 2
   have g22:=ak l (pos+1+1) 2
   by_cases hD:ac l (pos+1) 2 = 0
   ·conv=>whnf
    refine Ws<|g 10 14 []<|J UE<|Wc<|Jf<|We<|Ws<|g 7 31 [BT,BT,.call (V.i (ac l pos 3)) ([rdC l (pos+1),[]]),BT,BT]<|J (QA @aa)<|Wc<|Kt (Ws (g 31 34 [.call (V.i (ac l (pos+1) 2)) ([rdC l (pos+1+1),[]])]<|J (QA @aa) (Wc<|Kt (rgd [[],[],[],[],[],[.i (b.now+12)],[],[.call (V.i (ac l (pos+1+1) 2)) ([rdC l (pos+1+1+1),[]])],[.i (b.now+12+ac l (pos+1+1) 2)],[.n (Int.toNat (Prod.snd (n,a)))],[],[.x (aH j)]] ?_))))
    conv=>whnf
    refine⟨⟨I,I,I,I,I,wO,I,⟨UB,I,UV,UA,aa _ _ _ OM OM OM OM⟩,wO,⟨OM,OM⟩,I,⟨UA,xA⟩,I⟩,by kernel_rfl,?_⟩
    refine g 6 60 []<|J QZ<|W.ret<|EndsW.rt<|J UM ?_
    exact⟨⟨b.workers,b.up,b.now,b.since,b.epoch,b.given,⟨b.log.safe,b.log.loose⟩,b.results,b.jobs.set a.toNat ⟨j.lease,j.worker,b.now+12+ac l (pos+1+1) 2⟩,b.seats,b.owed⟩,_,(by simp only[aF,List.map_set,List.map_append];rfl),rfl,⟨by dsimp only;omega,by dsimp only;omega,m9,by dsimp only;omega,by dsimp only;(try rw[List.length_set]);omega,by dsimp only;omega,by dsimp only;omega⟩,by omega,by omega⟩
   ·have pr:=ak l (pos+1+1) ((b.jobs.map aH).length:Int)
    have cr:=aa l (pos+1+1) ((b.jobs.map aH).length:Int) hl OM OM OM
    obtain⟨y,hy⟩:=ae (xs:=b.jobs) (n:=(ac l (pos+1+1) ((b.jobs.map aH).length:Int)).toNat) OM
    conv=>whnf
    refine Ws<|g 10 14 []<|J UE<|Wc<|Jf<|We<|Ws<|g 7 31 [BT,BT,.call (V.i (ac l pos 3)) ([rdC l (pos+1),[]]),BT,BT]<|J (QA @aa)<|Wc<|Kt (Ws (g 31 34 [.call (V.i (ac l (pos+1) 2)) ([rdC l (pos+1+1),[]])]<|J (QA @aa) (Wc<|Jf<|(rgd [[],[],[],[],[],[],[.call (V.i (ac l (pos+1+1) (↑(List.length (List.map aH b.jobs)):Int))) ([rdC l (pos+1+1+1),[]])],[],[],[],[.n (Int.toNat (Prod.snd (n,a)))],[.x (aH j)],[.n (Int.toNat (ac l (pos+1+1) (↑(List.length (List.map aH b.jobs)):Int)))],[.x (aH y)]] ?_))))
    conv=>whnf
    refine⟨⟨I,I,I,I,I,I,⟨UB,I,UV,UA,AS⟩,I,I,I,⟨OM,OM⟩,xA,⟨OM,OM⟩,⟨UC,xA⟩,I⟩,by kernel_rfl,?_⟩
    refine g 49 60 []<|J QZ<|W.ret<|EndsW.rt<|J UM ?_
    exact⟨⟨b.workers,b.up,b.now,b.since,b.epoch,b.given,⟨b.log.safe,b.log.loose⟩,b.results,b.jobs.set (ac l (pos+1+1) ((b.jobs.map aH).length:Int)).toNat j,b.seats,b.owed⟩,_,(by simp only[aF,List.map_set,List.map_append];rfl),rfl,⟨by dsimp only;omega,by dsimp only;omega,m9,by dsimp only;omega,by dsimp only;(try rw[List.length_set]);omega,by dsimp only;omega,by dsimp only;omega⟩,by omega,by omega⟩
  ·skip
   have p12:=ak l (pos+1) 12
   have p11:=ak l (pos+1+1) 11
   have p4:=ak l (pos+1+1) 4
   have p3:=ak l (pos+1+1) 3
   have p2:=ak l (pos+1+1+1) 2
   have p42:=ak l (pos+1+1+1) 4
   have p43:=ak l (pos+1+1+1+1) 4
   have p32:=ak l (pos+1+1+1) 3
   have p15:=ak l (pos+1+1+1+1) 15
   obtain⟨xe,hxe1,hxe2⟩:=cZ [-1,1000000,999999,1000001] (ac l (pos+1+1) 4) p4.1 (by show _ < (4:Int);omega)
   have hxe3:([[T.i (-1)],[T.i 1000000],[T.i 999999],[T.i 1000001]]:List (List T))[(ac l (pos+1+1) 4).toNat]? = some [T.i xe]:=hxe2
   obtain⟨xg,hxg1,hxg2⟩:=cZ [-1,0,1000000,1000001] (ac l (pos+1+1) 4) p4.1 (by show _ < (4:Int);omega)
   have hxg3:([[T.i (-1)],[T.i 0],[T.i 1000000],[T.i 1000001]]:List (List T))[(ac l (pos+1+1) 4).toNat]? = some [T.i xg]:=hxg2
   obtain⟨xs,hxs1,hxs2⟩:=cZ [-1,300,301] (ac l (pos+1+1) 3) p3.1 (by show _ < (3:Int);omega)
   have hxs3:([[T.i (-1)],[T.i 300],[T.i 301]]:List (List T))[(ac l (pos+1+1) 3).toNat]? = some [T.i xs]:=hxs2
   obtain⟨xr,hxr1,hxr2⟩:=pv [emp,⟨#[49,50,51,52,53,54,55,56]⟩] (ac l (pos+1+1+1) 2) p2.1 (by show _ < (2:Int);omega)
   have hxr3:([[T.s emp],[T.s ⟨#[49,50,51,52,53,54,55,56]⟩]]:List (List T))[(ac l (pos+1+1+1) 2).toNat]? = some [T.s xr]:=hxr2
   by_cases k0:ac l (pos+1) 12 = 0
   ·conv=>whnf
    refine Ws<|g 10 14 []<|J UE<|Wc<|Jf<|We<|Ws<|g 7 31 [BT,BT,.call (V.i (ac l pos 3)) ([rdC l (pos+1),[]]),BT,BT]<|J (QA @aa)<|Wc<|Jf<|Wk<|Ws<|g 6 61 [.call (V.i (ac l (pos+1) 12)) ([rdC l (pos+1+1),[]])]<|J (QA @aa)<|Wb<|g 69 70 []<|J UB ?_
    refine Wc<|Kt (rg [.call (V.i (ac l (pos+1+1) 11)) ([rdC l (pos+1+1+1),[]]),.i (ac l (pos+1+1) (11:Int) - 1)]<|J (QA @aa) (g 5 198 []<|J QZ (W.ret (EndsW.rt<|J UM ?_))))
    exact⟨⟨ac l (pos+1+1) 11 - 1,b.up,b.now,b.since,b.epoch,b.given,⟨b.log.safe,b.log.loose⟩,b.results,b.jobs,b.seats,b.owed⟩,_,rfl,rfl,⟨by dsimp only;omega,by dsimp only;omega,m9,by dsimp only;omega,by dsimp only;omega,by dsimp only;omega,by dsimp only;omega⟩,by omega,by omega⟩
   by_cases k1:ac l (pos+1) 12 = 1
   ·conv=>whnf
    refine Ws<|g 10 14 []<|J UE<|Wc<|Jf<|We<|Ws<|g 7 31 [BT,BT,.call (V.i (ac l pos 3)) ([rdC l (pos+1),[]]),BT,BT]<|J (QA @aa)<|Wc<|Jf<|Wk<|Ws<|g 6 61 [.call (V.i (ac l (pos+1) 12)) ([rdC l (pos+1+1),[]])]<|J (QA @aa)<|Wb<|g 69 70 []<|J UB ?_
    refine Wc<|Jf<|g 68 69 []<|J UB<|Wc<|Kt (rg []<|J QZ (g 5 198 []<|J QZ (W.ret (EndsW.rt<|J UM ?_))))
    exact⟨⟨b.workers,!b.up,b.now,b.since,b.epoch,b.given,⟨b.log.safe,b.log.loose⟩,b.results,b.jobs,b.seats,b.owed⟩,_,rfl,rfl,⟨by dsimp only;omega,by dsimp only;omega,m9,by dsimp only;omega,by dsimp only;omega,by dsimp only;omega,by dsimp only;omega⟩,by omega,by omega⟩
   by_cases k2:ac l (pos+1) 12 = 2
   ·conv=>whnf
    refine Ws<|g 10 14 []<|J UE<|Wc<|Jf<|We<|Ws<|g 7 31 [BT,BT,.call (V.i (ac l pos 3)) ([rdC l (pos+1),[]]),BT,BT]<|J (QA @aa)<|Wc<|Jf<|Wk<|Ws<|g 6 61 [.call (V.i (ac l (pos+1) 12)) ([rdC l (pos+1+1),[]])]<|J (QA @aa)<|Wb<|g 69 70 []<|J UB ?_
    refine Wc<|Jf<|g 68 69 []<|J UB<|Wc<|Jf<|g 74 76 []<|J UB<|Wc<|Kt (rg [.call (V.i (ac l (pos+1+1) 4)) ([rdC l (pos+1+1+1),[]]),.n (Int.toNat (ac l (pos+1+1) 4)),.x ([T.i xe])]<|J (QA @aa) (g 5 198 []<|J QZ (W.ret (EndsW.rt<|J UM ?_))))
    exact⟨⟨b.workers,b.up,xe,b.since,b.epoch,b.given,⟨b.log.safe,b.log.loose⟩,b.results,b.jobs,b.seats,b.owed⟩,_,rfl,rfl,⟨by dsimp only;omega,by dsimp only;omega,m9,by dsimp only;omega,by dsimp only;omega,by dsimp only;omega,by dsimp only;omega⟩,by omega,by omega⟩
   by_cases k3:ac l (pos+1) 12 = 3
   ·conv=>whnf
    refine Ws<|g 10 14 []<|J UE<|Wc<|Jf<|We<|Ws<|g 7 31 [BT,BT,.call (V.i (ac l pos 3)) ([rdC l (pos+1),[]]),BT,BT]<|J (QA @aa)<|Wc<|Jf<|Wk<|Ws<|g 6 61 [.call (V.i (ac l (pos+1) 12)) ([rdC l (pos+1+1),[]])]<|J (QA @aa)<|Wb<|g 69 70 []<|J UB ?_
    refine Wc<|Jf<|g 68 69 []<|J UB<|Wc<|Jf<|g 74 76 []<|J UB<|Wc<|Jf<|g 80 82 []<|J UB<|Wc<|Kt (rg [.call (V.i (ac l (pos+1+1) 4)) ([rdC l (pos+1+1+1),[]]),.i (ac l (pos+1+1) (4:Int) - 1)]<|J (QA @aa) (g 5 198 []<|J QZ (W.ret (EndsW.rt<|J UM ?_))))
    exact⟨⟨b.workers,b.up,b.now,ac l (pos+1+1) 4 - 1,b.epoch,b.given,⟨b.log.safe,b.log.loose⟩,b.results,b.jobs,b.seats,b.owed⟩,_,rfl,rfl,⟨by dsimp only;omega,by dsimp only;omega,m9,by dsimp only;omega,by dsimp only;omega,by dsimp only;omega,by dsimp only;omega⟩,by omega,by omega⟩
   by_cases k4:ac l (pos+1) 12 = 4
   ·conv=>whnf
    refine Ws<|g 10 14 []<|J UE<|Wc<|Jf<|We<|Ws<|g 7 31 [BT,BT,.call (V.i (ac l pos 3)) ([rdC l (pos+1),[]]),BT,BT]<|J (QA @aa)<|Wc<|Jf<|Wk<|Ws<|g 6 61 [.call (V.i (ac l (pos+1) 12)) ([rdC l (pos+1+1),[]])]<|J (QA @aa)<|Wb<|g 69 70 []<|J UB ?_
    refine Wc<|Jf<|g 68 69 []<|J UB<|Wc<|Jf<|g 74 76 []<|J UB<|Wc<|Jf<|g 80 82 []<|J UB<|Wc<|Jf<|g 88 90 []<|J UB<|Wc<|Kt (rg [.i (b.epoch+1)]<|J QZ (g 5 198 []<|J QZ (W.ret ?_)))
    refine EndsW.rt<|J UM ?_
    exact⟨⟨b.workers,b.up,b.now,b.since,b.epoch+1,b.given,⟨b.log.safe,b.log.loose⟩,b.results,b.jobs,b.seats,b.owed⟩,_,rfl,rfl,⟨by dsimp only;omega,by dsimp only;omega,m9,by dsimp only;omega,by dsimp only;omega,by dsimp only;omega,by dsimp only;omega⟩,by omega,by omega⟩
   by_cases k5:ac l (pos+1) 12 = 5
   ·conv=>whnf
    refine Ws<|g 10 14 []<|J UE<|Wc<|Jf<|We<|Ws<|g 7 31 [BT,BT,.call (V.i (ac l pos 3)) ([rdC l (pos+1),[]]),BT,BT]<|J (QA @aa)<|Wc<|Jf<|Wk<|Ws<|g 6 61 [.call (V.i (ac l (pos+1) 12)) ([rdC l (pos+1+1),[]])]<|J (QA @aa)<|Wb<|g 69 70 []<|J UB ?_
    refine Wc<|Jf<|g 68 69 []<|J UB<|Wc<|Jf<|g 74 76 []<|J UB<|Wc<|Jf<|g 80 82 []<|J UB<|Wc<|Jf<|g 88 90 []<|J UB<|Wc<|Jf<|g 94 96 []<|J UB<|Wc<|Kt (rg [.call (V.i (ac l (pos+1+1) 4)) ([rdC l (pos+1+1+1),[]]),.n (Int.toNat (ac l (pos+1+1) 4)),.x ([T.i xg])]<|J (QA @aa) ?_)
    refine g 5 198 []<|J QZ<|W.ret<|EndsW.rt<|J UM ?_
    exact⟨⟨b.workers,b.up,b.now,b.since,b.epoch,xg,⟨b.log.safe,b.log.loose⟩,b.results,b.jobs,b.seats,b.owed⟩,_,rfl,rfl,⟨by dsimp only;omega,by dsimp only;omega,m9,by dsimp only;omega,by dsimp only;omega,by dsimp only;omega,by dsimp only;omega⟩,by omega,by omega⟩
   by_cases k6:ac l (pos+1) 12 = 6
   ·by_cases hr:0 < b.results.length
    ·have pr:=ak l (pos+1+1) ((b.results.map ah).length:Int)
     have cr:=aa l (pos+1+1) ((b.results.map ah).length:Int) hl OM OM OM
     obtain⟨y,hy⟩:=ae (xs:=b.results) (n:=(ac l (pos+1+1) ((b.results.map ah).length:Int)).toNat) OM
     conv=>whnf
     refine Ws<|g 10 14 []<|J UE<|Wc<|Jf<|We<|Ws<|g 7 31 [BT,BT,.call (V.i (ac l pos 3)) ([rdC l (pos+1),[]]),BT,BT]<|J (QA @aa)<|Wc<|Jf<|Wk<|Ws<|g 6 61 [.call (V.i (ac l (pos+1) 12)) ([rdC l (pos+1+1),[]])]<|J (QA @aa)<|Wb<|g 69 70 []<|J UB ?_
     refine Wc<|Jf<|g 68 69 []<|J UB<|Wc<|Jf<|g 74 76 []<|J UB<|Wc<|Jf<|g 80 82 []<|J UB<|Wc<|Jf<|g 88 90 []<|J UB<|Wc<|Jf<|g 94 96 []<|J UB<|Wc<|Jf<|g 100 102 []<|J UB ?_
     refine Wc<|Kt (g 61 113 []<|J UD (Wc<|Kt (rgd [[],[],[],[],[],[],[.call (V.i (ac l (pos+1+1) (↑(List.length (List.map ah b.results)):Int))) ([rdC l (pos+1+1+1),[]])],[],[],[.call (V.i (ac l (pos+1+1+1) 2)) ([rdC l (pos+1+1+1+1),[]])],[.n (Int.toNat (ac l (pos+1+1+1) 2))],[.x ([T.s xr])],[.n (Int.toNat (ac l (pos+1+1) (↑(List.length (List.map ah b.results)):Int)))],[.x (ah y)]] ?_)))
     conv=>whnf
     refine⟨⟨I,I,I,I,I,I,⟨UB,I,UV,UA,AS⟩,UT,I,⟨UB,I,UV,UA,aa _ _ _ OM OM OM OM⟩,Zas,AS,⟨OM,OM⟩,⟨UA,xA⟩,I⟩,by kernel_rfl,?_⟩
     refine g 5 198 []<|J QZ<|W.ret<|EndsW.rt<|J UM ?_
     exact⟨⟨b.workers,b.up,b.now,b.since,b.epoch,b.given,⟨b.log.safe,b.log.loose⟩,b.results.set (ac l (pos+1+1) ((b.results.map ah).length:Int)).toNat xr,b.jobs,b.seats,b.owed⟩,_,(by simp only[aF,List.map_set,List.map_append];rfl),rfl,⟨by dsimp only;omega,by dsimp only;omega,m9,by dsimp only;(try rw[List.length_set]);omega,by dsimp only;(try rw[List.length_set]);omega,by dsimp only;(try rw[List.length_set]);omega,by dsimp only;omega⟩,by omega,by omega⟩
    ·conv=>whnf
     refine Ws<|g 10 14 []<|J UE<|Wc<|Jf<|We<|Ws<|g 7 31 [BT,BT,.call (V.i (ac l pos 3)) ([rdC l (pos+1),[]]),BT,BT]<|J (QA @aa)<|Wc<|Jf<|Wk<|Ws<|g 6 61 [.call (V.i (ac l (pos+1) 12)) ([rdC l (pos+1+1),[]])]<|J (QA @aa)<|Wb<|g 69 70 []<|J UB ?_
     refine Wc<|Jf<|g 68 69 []<|J UB<|Wc<|Jf<|g 74 76 []<|J UB<|Wc<|Jf<|g 80 82 []<|J UB<|Wc<|Jf<|g 88 90 []<|J UB<|Wc<|Jf<|g 94 96 []<|J UB<|Wc<|Jf<|g 100 102 []<|J UB ?_
     refine Wc<|Kt (g 61 113 []<|J UD (Wc<|Jf<|(Wk (g 0 4 []<|J QZ (W.ret (EndsW.rt<|J UM ?_))))))
     exact⟨b,_,rfl,rfl,⟨by omega,by omega,m9,by omega,by omega,by omega,by omega⟩,by omega,by omega⟩
   by_cases k7:ac l (pos+1) 12 = 7
   ·by_cases hr:0 < b.jobs.length
    ·have pr:=ak l (pos+1+1) ((b.jobs.map aH).length:Int)
     have cr:=aa l (pos+1+1) ((b.jobs.map aH).length:Int) hl OM OM OM
     obtain⟨y,hy⟩:=ae (xs:=b.jobs) (n:=(ac l (pos+1+1) ((b.jobs.map aH).length:Int)).toNat) OM
     have p44:=ak l (pos+1+1+1+1) 4
     have p45:=ak l (pos+1+1+1+1+1) 15
     conv=>whnf
     refine Ws<|g 10 14 []<|J UE<|Wc<|Jf<|We<|Ws<|g 7 31 [BT,BT,.call (V.i (ac l pos 3)) ([rdC l (pos+1),[]]),BT,BT]<|J (QA @aa)<|Wc<|Jf<|Wk<|Ws<|g 6 61 [.call (V.i (ac l (pos+1) 12)) ([rdC l (pos+1+1),[]])]<|J (QA @aa)<|Wb<|g 69 70 []<|J UB ?_
     refine Wc<|Jf<|g 68 69 []<|J UB<|Wc<|Jf<|g 74 76 []<|J UB<|Wc<|Jf<|g 80 82 []<|J UB<|Wc<|Jf<|g 88 90 []<|J UB<|Wc<|Jf<|g 94 96 []<|J UB<|Wc<|Jf<|g 100 102 []<|J UB ?_
     refine Wc<|Jf<|g 108 110 []<|J UB<|Wc<|Kt (g 61 132 []<|J UD (Wc<|Kt (rgd [[],[],[],[],[],[],[.call (V.i (ac l (pos+1+1) (↑(List.length (List.map aH b.jobs)):Int))) ([rdC l (pos+1+1+1),[]])],[],[],[.i (b.epoch - 1)],[.i ((b.epoch - 1) * 1000000)],[],[.call (V.i (ac l (pos+1+1+1) 4)) ([rdC l (pos+1+1+1+1),[]])],[.i ((b.epoch - 1) * 1000000+ac l (pos+1+1+1) 4)],[],[.call (V.i (ac l (pos+1+1+1+1) 4)) ([rdC l (pos+1+1+1+1+1),[]])],[],[],[],[.call (V.i (ac l (pos+1+1+1+1+1) 15)) ([rdC l (pos+1+1+1+1+1+1),[]])],[.i (b.now+ac l (pos+1+1+1+1+1) 15)],[],[.n (Int.toNat (ac l (pos+1+1) (↑(List.length (List.map aH b.jobs)):Int)))],[.x (aH y)]] ?_)))
     conv=>whnf
     refine⟨⟨I,I,I,I,I,I,⟨UB,I,UV,UA,AS⟩,I,I,wO,wO,I,⟨UB,I,UV,UA,aa _ _ _ OM OM OM OM⟩,wO,I,⟨UB,I,UV,UA,aa _ _ _ OM OM OM OM⟩,I,I,I,⟨UB,I,UV,UA,aa _ _ _ OM OM OM OM⟩,wO,I,⟨OM,OM⟩,⟨UC,xA⟩,I⟩,by kernel_rfl,?_⟩
     refine g 5 198 []<|J QZ<|W.ret<|EndsW.rt<|J UM ?_
     exact⟨⟨b.workers,b.up,b.now,b.since,b.epoch,b.given,⟨b.log.safe,b.log.loose⟩,b.results,b.jobs.set (ac l (pos+1+1) ((b.jobs.map aH).length:Int)).toNat ⟨(b.epoch - 1) * 1000000+ac l (pos+1+1+1) 4,ac l (pos+1+1+1+1) 4,b.now+ac l (pos+1+1+1+1+1) 15⟩,b.seats,b.owed⟩,_,(by simp only[aF,List.map_set,List.map_append];rfl),rfl,⟨by dsimp only;omega,by dsimp only;omega,m9,by dsimp only;(try rw[List.length_set]);omega,by dsimp only;(try rw[List.length_set]);omega,by dsimp only;(try rw[List.length_set]);omega,by dsimp only;omega⟩,by omega,by omega⟩
    ·exfalso;omega
   by_cases k8:ac l (pos+1) 12 = 8
   ·have p44:=ak l (pos+1+1) 4
    have p45:=ak l (pos+1+1+1) 3
    have p46:=ak l (pos+1+1+1+1) 4
    conv=>whnf
    refine Ws<|g 10 14 []<|J UE<|Wc<|Jf<|We<|Ws<|g 7 31 [BT,BT,.call (V.i (ac l pos 3)) ([rdC l (pos+1),[]]),BT,BT]<|J (QA @aa)<|Wc<|Jf<|Wk<|Ws<|g 6 61 [.call (V.i (ac l (pos+1) 12)) ([rdC l (pos+1+1),[]])]<|J (QA @aa)<|Wb<|g 69 70 []<|J UB ?_
    refine Wc<|Jf<|g 68 69 []<|J UB<|Wc<|Jf<|g 74 76 []<|J UB<|Wc<|Jf<|g 80 82 []<|J UB<|Wc<|Jf<|g 88 90 []<|J UB<|Wc<|Jf<|g 94 96 []<|J UB<|Wc<|Jf<|g 100 102 []<|J UB ?_
    refine Wc<|Jf<|g 108 110 []<|J UB<|Wc<|Jf<|g 127 129 []<|J UB<|Wc<|Kt (rgd [[],[],[],[.call (V.i (ac l (pos+1+1) 4)) ([rdC l (pos+1+1+1),[]])],[],[.call (V.i (ac l (pos+1+1+1) 3)) ([rdC l (pos+1+1+1+1),[]])],[],[.call (V.i (ac l (pos+1+1+1+1) 4)) ([rdC l (pos+1+1+1+1+1),[]])],[],[],[],[],[]] ?_)
    conv=>whnf
    refine⟨⟨I,I,I,⟨UB,I,UV,UA,aa _ _ _ OM OM OM OM⟩,I,⟨UB,I,UV,UA,aa _ _ _ OM OM OM OM⟩,I,⟨UB,I,UV,UA,aa _ _ _ OM OM OM OM⟩,I,⟨UC,I⟩,Zap,I,UA,I⟩,by kernel_rfl,?_⟩
    refine g 5 198 []<|J QZ<|W.ret<|EndsW.rt<|J UM ?_
    exact⟨⟨b.workers,b.up,b.now,b.since,b.epoch,b.given,⟨b.log.safe,b.log.loose⟩,b.results,b.jobs,b.seats,b.owed++ [⟨ac l (pos+1+1) 4,ac l (pos+1+1+1) 3,ac l (pos+1+1+1+1) 4⟩]⟩,_,(by simp only[aF,List.map_set,List.map_append];rfl),rfl,⟨by dsimp only;omega,by dsimp only;omega,m9,by dsimp only;omega,by dsimp only;omega,by dsimp only;omega,by simp only[List.length_append,List.length_singleton];omega⟩,by omega,by omega⟩
   by_cases k9:ac l (pos+1) 12 = 9
   ·have ce:=qZ l (pos+1+1) hl OM OM
    obtain⟨e1,e2,e3,e4⟩:=Lq l (pos+1+1)
    have hfs:=iZ (gx l (pos+1+1)).1
    generalize(gx l (pos+1+1)).1 = e at ce e1 e2 hfs
    generalize(gx l (pos+1+1)).2 = u at ce e3 e4
    have cf:=dq e.kind e.epoch e.task e.text OM
    change F _ _ (.s (bW e)) _ at cf
    conv=>whnf
    refine Ws<|g 10 14 []<|J UE<|Wc<|Jf<|We<|Ws<|g 7 31 [BT,BT,.call (V.i (ac l pos 3)) ([rdC l (pos+1),[]]),BT,BT]<|J (QA @aa)<|Wc<|Jf<|Wk<|Ws<|g 6 61 [.call (V.i (ac l (pos+1) 12)) ([rdC l (pos+1+1),[]])]<|J (QA @aa)<|Wb<|g 69 70 []<|J UB ?_
    refine Wc<|Jf<|g 68 69 []<|J UB<|Wc<|Jf<|g 74 76 []<|J UB<|Wc<|Jf<|g 80 82 []<|J UB<|Wc<|Jf<|g 88 90 []<|J UB<|Wc<|Jf<|g 94 96 []<|J UB<|Wc<|Jf<|g 100 102 []<|J UB ?_
    refine Wc<|Jf<|g 108 110 []<|J UB<|Wc<|Jf<|g 127 129 []<|J UB<|Wc<|Jf<|g 156 158 []<|J UB<|Wc<|Kt (rgd [[],[],[],[],[.call (i7 e.kind e.epoch e.task e.text) ([rdC l u])],[.call (V.s (bW e)) O1],[],[],[],[],[]] ?_)
    conv=>whnf
    refine⟨⟨I,I,I,I,⟨UA,I,UA,UA,AS⟩,⟨UA,I,⟨UD,I⟩,UA,AS⟩,US,Zap,I,I,UA,I⟩,by kernel_rfl,?_⟩
    refine g 5 198 []<|J QZ<|W.ret<|EndsW.rt<|J UM ?_
    exact⟨⟨b.workers,b.up,b.now,b.since,b.epoch,b.given,⟨b.log.safe,b.log.loose++ [bW e]⟩,b.results,b.jobs,b.seats,b.owed⟩,_,(by simp only[aF,List.map_set,List.map_append];rfl),rfl,⟨by dsimp only;omega,by simp only[List.length_append,List.length_singleton];omega,fun s q=>by rcases List.mem_append.1 q with q|q;exact m9 s (List.mem_append_left _ q);rcases List.mem_append.1 q with q|q;exact m9 s (List.mem_append_right _ q);rw[List.mem_singleton.1 q];omega,by dsimp only;omega,by dsimp only;omega,by dsimp only;omega,by dsimp only;omega⟩,by omega,by omega⟩
   by_cases k10:ac l (pos+1) 12 = 10
   ·by_cases hr:0 < b.seats.length
    ·obtain⟨y,hy⟩:=ae (xs:=b.seats) (n:=0) OM
     conv=>whnf
     refine Ws<|g 10 14 []<|J UE<|Wc<|Jf<|We<|Ws<|g 7 31 [BT,BT,.call (V.i (ac l pos 3)) ([rdC l (pos+1),[]]),BT,BT]<|J (QA @aa)<|Wc<|Jf<|Wk<|Ws<|g 6 61 [.call (V.i (ac l (pos+1) 12)) ([rdC l (pos+1+1),[]])]<|J (QA @aa)<|Wb<|g 69 70 []<|J UB ?_
     refine Wc<|Jf<|g 68 69 []<|J UB<|Wc<|Jf<|g 74 76 []<|J UB<|Wc<|Jf<|g 80 82 []<|J UB<|Wc<|Jf<|g 88 90 []<|J UB<|Wc<|Jf<|g 94 96 []<|J UB<|Wc<|Jf<|g 100 102 []<|J UB ?_
     refine Wc<|Jf<|g 108 110 []<|J UB<|Wc<|Jf<|g 127 129 []<|J UB<|Wc<|Jf<|g 156 158 []<|J UB<|Wc<|Jf<|g 61 172 []<|J UB<|Wc<|Kt (g 182 187 []<|J UD (Wc<|J (fun _=>(rgd [[],[],[],[],[.call (V.i (ac l (pos+1+1) 3)) ([rdC l (pos+1+1+1),[]])],[.n (Int.toNat (ac l (pos+1+1) 3))],[.x ([T.i xs])],[.n (0)],[],[.x (aE y)]] ?_)) (noF SI)))
     conv=>whnf
     refine⟨⟨I,I,UU,I,⟨UB,I,UV,UA,aa _ _ _ OM OM OM OM⟩,Zas,AS,Zao,I,⟨UA,xA⟩,I⟩,by kernel_rfl,?_⟩
     refine g 5 198 []<|J QZ<|W.ret<|EndsW.rt<|J UM ?_
     exact⟨⟨b.workers,b.up,b.now,b.since,b.epoch,b.given,⟨b.log.safe,b.log.loose⟩,b.results,b.jobs,b.seats.set 0 ⟨y.free,xs⟩,b.owed⟩,_,(by simp only[aF,List.map_set,List.map_append];rfl),rfl,⟨by dsimp only;omega,by dsimp only;omega,m9,by dsimp only;(try rw[List.length_set]);omega,by dsimp only;(try rw[List.length_set]);omega,by dsimp only;(try rw[List.length_set]);omega,by dsimp only;omega⟩,by omega,by omega⟩
    ·conv=>whnf
     refine Ws<|g 10 14 []<|J UE<|Wc<|Jf<|We<|Ws<|g 7 31 [BT,BT,.call (V.i (ac l pos 3)) ([rdC l (pos+1),[]]),BT,BT]<|J (QA @aa)<|Wc<|Jf<|Wk<|Ws<|g 6 61 [.call (V.i (ac l (pos+1) 12)) ([rdC l (pos+1+1),[]])]<|J (QA @aa)<|Wb<|g 69 70 []<|J UB ?_
     refine Wc<|Jf<|g 68 69 []<|J UB<|Wc<|Jf<|g 74 76 []<|J UB<|Wc<|Jf<|g 80 82 []<|J UB<|Wc<|Jf<|g 88 90 []<|J UB<|Wc<|Jf<|g 94 96 []<|J UB<|Wc<|Jf<|g 100 102 []<|J UB ?_
     refine Wc<|Jf<|g 108 110 []<|J UB<|Wc<|Jf<|g 127 129 []<|J UB<|Wc<|Jf<|g 156 158 []<|J UB<|Wc<|Jf<|g 61 172 []<|J UB<|Wc<|Kt (g 182 187 []<|J UD (Wc<|J (noT SI) fun _=>(Wk ?_)))
     refine g 0 4 []<|J QZ<|W.ret<|EndsW.rt<|J UM ?_
     exact⟨b,_,rfl,rfl,⟨by omega,by omega,m9,by omega,by omega,by omega,by omega⟩,by omega,by omega⟩
   ·conv=>whnf
    refine Ws<|g 10 14 []<|J UE<|Wc<|Jf<|We<|Ws<|g 7 31 [BT,BT,.call (V.i (ac l pos 3)) ([rdC l (pos+1),[]]),BT,BT]<|J (QA @aa)<|Wc<|Jf<|Wk<|Ws<|g 6 61 [.call (V.i (ac l (pos+1) 12)) ([rdC l (pos+1+1),[]])]<|J (QA @aa)<|Wb<|g 69 70 []<|J UB ?_
    refine Wc<|Jf<|g 68 69 []<|J UB<|Wc<|Jf<|g 74 76 []<|J UB<|Wc<|Jf<|g 80 82 []<|J UB<|Wc<|Jf<|g 88 90 []<|J UB<|Wc<|Jf<|g 94 96 []<|J UB<|Wc<|Jf<|g 100 102 []<|J UB ?_
    refine Wc<|Jf<|g 108 110 []<|J UB<|Wc<|Jf<|g 127 129 []<|J UB<|Wc<|Jf<|g 156 158 []<|J UB<|Wc<|Jf<|g 61 172 []<|J UB<|Wc<|Jf<|rg []<|J QZ<|g 5 198 []<|J QZ<|W.ret ?_
    refine EndsW.rt<|J UM ?_
    exact⟨⟨b.workers,b.up,b.now,b.since,b.epoch,b.given,⟨b.log.safe,b.log.loose⟩,b.results,b.jobs,b.seats++ [⟨false,0⟩],b.owed⟩,_,(by simp only[aF,List.map_set,List.map_append];rfl),rfl,⟨by dsimp only;omega,by dsimp only;omega,m9,by dsimp only;omega,by dsimp only;omega,by simp only[List.length_append,List.length_singleton];omega,by dsimp only;omega⟩,by omega,by omega⟩
 ·skip
  have p12:=ak l (pos) 12
  have p11:=ak l (pos+1) 11
  have p4:=ak l (pos+1) 4
  have p3:=ak l (pos+1) 3
  have p2:=ak l (pos+1+1) 2
  have p42:=ak l (pos+1+1) 4
  have p43:=ak l (pos+1+1+1) 4
  have p32:=ak l (pos+1+1) 3
  have p15:=ak l (pos+1+1+1) 15
  obtain⟨xe,hxe1,hxe2⟩:=cZ [-1,1000000,999999,1000001] (ac l (pos+1) 4) p4.1 (by show _ < (4:Int);omega)
  have hxe3:([[T.i (-1)],[T.i 1000000],[T.i 999999],[T.i 1000001]]:List (List T))[(ac l (pos+1) 4).toNat]? = some [T.i xe]:=hxe2
  obtain⟨xg,hxg1,hxg2⟩:=cZ [-1,0,1000000,1000001] (ac l (pos+1) 4) p4.1 (by show _ < (4:Int);omega)
  have hxg3:([[T.i (-1)],[T.i 0],[T.i 1000000],[T.i 1000001]]:List (List T))[(ac l (pos+1) 4).toNat]? = some [T.i xg]:=hxg2
  obtain⟨xs,hxs1,hxs2⟩:=cZ [-1,300,301] (ac l (pos+1) 3) p3.1 (by show _ < (3:Int);omega)
  have hxs3:([[T.i (-1)],[T.i 300],[T.i 301]]:List (List T))[(ac l (pos+1) 3).toNat]? = some [T.i xs]:=hxs2
  obtain⟨xr,hxr1,hxr2⟩:=pv [emp,⟨#[49,50,51,52,53,54,55,56]⟩] (ac l (pos+1+1) 2) p2.1 (by show _ < (2:Int);omega)
  have hxr3:([[T.s emp],[T.s ⟨#[49,50,51,52,53,54,55,56]⟩]]:List (List T))[(ac l (pos+1+1) 2).toNat]? = some [T.s xr]:=hxr2
  by_cases k0:ac l (pos) 12 = 0
  ·conv=>whnf
   refine Ws<|g 10 14 []<|J UE<|Wc<|Jf<|We<|Ws<|g 7 31 [BF,BF,BF,BF]<|J QZ<|Wc<|Jr<|Wk<|Ws<|g 6 61 [.call (V.i (ac l pos 12)) ([rdC l (pos+1),[]])]<|J (QA @aa)<|Wb<|g 69 70 []<|J UB ?_
   refine Wc<|Kt (rg [.call (V.i (ac l (pos+1) 11)) ([rdC l (pos+1+1),[]]),.i (ac l (pos+1) (11:Int) - 1)]<|J (QA @aa) (g 5 198 []<|J QZ (W.ret (EndsW.rt<|J UM ?_))))
   exact⟨⟨ac l (pos+1) 11 - 1,b.up,b.now,b.since,b.epoch,b.given,⟨b.log.safe,b.log.loose⟩,b.results,b.jobs,b.seats,b.owed⟩,_,rfl,rfl,⟨by dsimp only;omega,by dsimp only;omega,m9,by dsimp only;omega,by dsimp only;omega,by dsimp only;omega,by dsimp only;omega⟩,by omega,by omega⟩
  by_cases k1:ac l (pos) 12 = 1
  ·conv=>whnf
   refine Ws<|g 10 14 []<|J UE<|Wc<|Jf<|We<|Ws<|g 7 31 [BF,BF,BF,BF]<|J QZ<|Wc<|Jr<|Wk<|Ws<|g 6 61 [.call (V.i (ac l pos 12)) ([rdC l (pos+1),[]])]<|J (QA @aa)<|Wb<|g 69 70 []<|J UB ?_
   refine Wc<|Jf<|g 68 69 []<|J UB<|Wc<|Kt (rg []<|J QZ (g 5 198 []<|J QZ (W.ret (EndsW.rt<|J UM ?_))))
   exact⟨⟨b.workers,!b.up,b.now,b.since,b.epoch,b.given,⟨b.log.safe,b.log.loose⟩,b.results,b.jobs,b.seats,b.owed⟩,_,rfl,rfl,⟨by dsimp only;omega,by dsimp only;omega,m9,by dsimp only;omega,by dsimp only;omega,by dsimp only;omega,by dsimp only;omega⟩,by omega,by omega⟩
  by_cases k2:ac l (pos) 12 = 2
  ·conv=>whnf
   refine Ws<|g 10 14 []<|J UE<|Wc<|Jf<|We<|Ws<|g 7 31 [BF,BF,BF,BF]<|J QZ<|Wc<|Jr<|Wk<|Ws<|g 6 61 [.call (V.i (ac l pos 12)) ([rdC l (pos+1),[]])]<|J (QA @aa)<|Wb<|g 69 70 []<|J UB ?_
   refine Wc<|Jf<|g 68 69 []<|J UB<|Wc<|Jf<|g 74 76 []<|J UB<|Wc<|Kt (rg [.call (V.i (ac l (pos+1) 4)) ([rdC l (pos+1+1),[]]),.n (Int.toNat (ac l (pos+1) 4)),.x ([T.i xe])]<|J (QA @aa) (g 5 198 []<|J QZ (W.ret (EndsW.rt<|J UM ?_))))
   exact⟨⟨b.workers,b.up,xe,b.since,b.epoch,b.given,⟨b.log.safe,b.log.loose⟩,b.results,b.jobs,b.seats,b.owed⟩,_,rfl,rfl,⟨by dsimp only;omega,by dsimp only;omega,m9,by dsimp only;omega,by dsimp only;omega,by dsimp only;omega,by dsimp only;omega⟩,by omega,by omega⟩
  by_cases k3:ac l (pos) 12 = 3
  ·conv=>whnf
   refine Ws<|g 10 14 []<|J UE<|Wc<|Jf<|We<|Ws<|g 7 31 [BF,BF,BF,BF]<|J QZ<|Wc<|Jr<|Wk<|Ws<|g 6 61 [.call (V.i (ac l pos 12)) ([rdC l (pos+1),[]])]<|J (QA @aa)<|Wb<|g 69 70 []<|J UB ?_
   refine Wc<|Jf<|g 68 69 []<|J UB<|Wc<|Jf<|g 74 76 []<|J UB<|Wc<|Jf<|g 80 82 []<|J UB<|Wc<|Kt (rg [.call (V.i (ac l (pos+1) 4)) ([rdC l (pos+1+1),[]]),.i (ac l (pos+1) (4:Int) - 1)]<|J (QA @aa) (g 5 198 []<|J QZ (W.ret (EndsW.rt<|J UM ?_))))
   exact⟨⟨b.workers,b.up,b.now,ac l (pos+1) 4 - 1,b.epoch,b.given,⟨b.log.safe,b.log.loose⟩,b.results,b.jobs,b.seats,b.owed⟩,_,rfl,rfl,⟨by dsimp only;omega,by dsimp only;omega,m9,by dsimp only;omega,by dsimp only;omega,by dsimp only;omega,by dsimp only;omega⟩,by omega,by omega⟩
  by_cases k4:ac l (pos) 12 = 4
  ·conv=>whnf
   refine Ws<|g 10 14 []<|J UE<|Wc<|Jf<|We<|Ws<|g 7 31 [BF,BF,BF,BF]<|J QZ<|Wc<|Jr<|Wk<|Ws<|g 6 61 [.call (V.i (ac l pos 12)) ([rdC l (pos+1),[]])]<|J (QA @aa)<|Wb<|g 69 70 []<|J UB ?_
   refine Wc<|Jf<|g 68 69 []<|J UB<|Wc<|Jf<|g 74 76 []<|J UB<|Wc<|Jf<|g 80 82 []<|J UB<|Wc<|Jf<|g 88 90 []<|J UB<|Wc<|Kt (rg [.i (b.epoch+1)]<|J QZ (g 5 198 []<|J QZ (W.ret ?_)))
   refine EndsW.rt<|J UM ?_
   exact⟨⟨b.workers,b.up,b.now,b.since,b.epoch+1,b.given,⟨b.log.safe,b.log.loose⟩,b.results,b.jobs,b.seats,b.owed⟩,_,rfl,rfl,⟨by dsimp only;omega,by dsimp only;omega,m9,by dsimp only;omega,by dsimp only;omega,by dsimp only;omega,by dsimp only;omega⟩,by omega,by omega⟩
  by_cases k5:ac l (pos) 12 = 5
  ·conv=>whnf
   refine Ws<|g 10 14 []<|J UE<|Wc<|Jf<|We<|Ws<|g 7 31 [BF,BF,BF,BF]<|J QZ<|Wc<|Jr<|Wk<|Ws<|g 6 61 [.call (V.i (ac l pos 12)) ([rdC l (pos+1),[]])]<|J (QA @aa)<|Wb<|g 69 70 []<|J UB ?_
   refine Wc<|Jf<|g 68 69 []<|J UB<|Wc<|Jf<|g 74 76 []<|J UB<|Wc<|Jf<|g 80 82 []<|J UB<|Wc<|Jf<|g 88 90 []<|J UB<|Wc<|Jf<|g 94 96 []<|J UB<|Wc<|Kt (rg [.call (V.i (ac l (pos+1) 4)) ([rdC l (pos+1+1),[]]),.n (Int.toNat (ac l (pos+1) 4)),.x ([T.i xg])]<|J (QA @aa) ?_)
   refine g 5 198 []<|J QZ<|W.ret<|EndsW.rt<|J UM ?_
   exact⟨⟨b.workers,b.up,b.now,b.since,b.epoch,xg,⟨b.log.safe,b.log.loose⟩,b.results,b.jobs,b.seats,b.owed⟩,_,rfl,rfl,⟨by dsimp only;omega,by dsimp only;omega,m9,by dsimp only;omega,by dsimp only;omega,by dsimp only;omega,by dsimp only;omega⟩,by omega,by omega⟩
  by_cases k6:ac l (pos) 12 = 6
  ·by_cases hr:0 < b.results.length
   ·have pr:=ak l (pos+1) ((b.results.map ah).length:Int)
    have cr:=aa l (pos+1) ((b.results.map ah).length:Int) hl OM OM OM
    obtain⟨y,hy⟩:=ae (xs:=b.results) (n:=(ac l (pos+1) ((b.results.map ah).length:Int)).toNat) OM
    conv=>whnf
    refine Ws<|g 10 14 []<|J UE<|Wc<|Jf<|We<|Ws<|g 7 31 [BF,BF,BF,BF]<|J QZ<|Wc<|Jr<|Wk<|Ws<|g 6 61 [.call (V.i (ac l pos 12)) ([rdC l (pos+1),[]])]<|J (QA @aa)<|Wb<|g 69 70 []<|J UB ?_
    refine Wc<|Jf<|g 68 69 []<|J UB<|Wc<|Jf<|g 74 76 []<|J UB<|Wc<|Jf<|g 80 82 []<|J UB<|Wc<|Jf<|g 88 90 []<|J UB<|Wc<|Jf<|g 94 96 []<|J UB<|Wc<|Jf<|g 100 102 []<|J UB ?_
    refine Wc<|Kt (g 61 113 []<|J UD (Wc<|Kt (rgd [[],[],[],[],[],[],[.call (V.i (ac l (pos+1) (↑(List.length (List.map ah b.results)):Int))) ([rdC l (pos+1+1),[]])],[],[],[.call (V.i (ac l (pos+1+1) 2)) ([rdC l (pos+1+1+1),[]])],[.n (Int.toNat (ac l (pos+1+1) 2))],[.x ([T.s xr])],[.n (Int.toNat (ac l (pos+1) (↑(List.length (List.map ah b.results)):Int)))],[.x (ah y)]] ?_)))
    conv=>whnf
    refine⟨⟨I,I,I,I,I,I,⟨UB,I,UV,UA,AS⟩,UT,I,⟨UB,I,UV,UA,aa _ _ _ OM OM OM OM⟩,Zas,AS,⟨OM,OM⟩,⟨UA,xA⟩,I⟩,by kernel_rfl,?_⟩
    refine g 5 198 []<|J QZ<|W.ret<|EndsW.rt<|J UM ?_
    exact⟨⟨b.workers,b.up,b.now,b.since,b.epoch,b.given,⟨b.log.safe,b.log.loose⟩,b.results.set (ac l (pos+1) ((b.results.map ah).length:Int)).toNat xr,b.jobs,b.seats,b.owed⟩,_,(by simp only[aF,List.map_set,List.map_append];rfl),rfl,⟨by dsimp only;omega,by dsimp only;omega,m9,by dsimp only;(try rw[List.length_set]);omega,by dsimp only;(try rw[List.length_set]);omega,by dsimp only;(try rw[List.length_set]);omega,by dsimp only;omega⟩,by omega,by omega⟩
   ·conv=>whnf
    refine Ws<|g 10 14 []<|J UE<|Wc<|Jf<|We<|Ws<|g 7 31 [BF,BF,BF,BF]<|J QZ<|Wc<|Jr<|Wk<|Ws<|g 6 61 [.call (V.i (ac l pos 12)) ([rdC l (pos+1),[]])]<|J (QA @aa)<|Wb<|g 69 70 []<|J UB ?_
    refine Wc<|Jf<|g 68 69 []<|J UB<|Wc<|Jf<|g 74 76 []<|J UB<|Wc<|Jf<|g 80 82 []<|J UB<|Wc<|Jf<|g 88 90 []<|J UB<|Wc<|Jf<|g 94 96 []<|J UB<|Wc<|Jf<|g 100 102 []<|J UB ?_
    refine Wc<|Kt (g 61 113 []<|J UD (Wc<|Jf<|(Wk (g 0 4 []<|J QZ (W.ret (EndsW.rt<|J UM ?_))))))
    exact⟨b,_,rfl,rfl,⟨by omega,by omega,m9,by omega,by omega,by omega,by omega⟩,by omega,by omega⟩
  by_cases k7:ac l (pos) 12 = 7
  ·by_cases hr:0 < b.jobs.length
   ·have pr:=ak l (pos+1) ((b.jobs.map aH).length:Int)
    have cr:=aa l (pos+1) ((b.jobs.map aH).length:Int) hl OM OM OM
    obtain⟨y,hy⟩:=ae (xs:=b.jobs) (n:=(ac l (pos+1) ((b.jobs.map aH).length:Int)).toNat) OM
    have p44:=ak l (pos+1+1+1) 4
    have p45:=ak l (pos+1+1+1+1) 15
    conv=>whnf
    refine Ws<|g 10 14 []<|J UE<|Wc<|Jf<|We<|Ws<|g 7 31 [BF,BF,BF,BF]<|J QZ<|Wc<|Jr<|Wk<|Ws<|g 6 61 [.call (V.i (ac l pos 12)) ([rdC l (pos+1),[]])]<|J (QA @aa)<|Wb<|g 69 70 []<|J UB ?_
    refine Wc<|Jf<|g 68 69 []<|J UB<|Wc<|Jf<|g 74 76 []<|J UB<|Wc<|Jf<|g 80 82 []<|J UB<|Wc<|Jf<|g 88 90 []<|J UB<|Wc<|Jf<|g 94 96 []<|J UB<|Wc<|Jf<|g 100 102 []<|J UB ?_
    refine Wc<|Jf<|g 108 110 []<|J UB<|Wc<|Kt (g 61 132 []<|J UD (Wc<|Kt (rgd [[],[],[],[],[],[],[.call (V.i (ac l (pos+1) (↑(List.length (List.map aH b.jobs)):Int))) ([rdC l (pos+1+1),[]])],[],[],[.i (b.epoch - 1)],[.i ((b.epoch - 1) * 1000000)],[],[.call (V.i (ac l (pos+1+1) 4)) ([rdC l (pos+1+1+1),[]])],[.i ((b.epoch - 1) * 1000000+ac l (pos+1+1) 4)],[],[.call (V.i (ac l (pos+1+1+1) 4)) ([rdC l (pos+1+1+1+1),[]])],[],[],[],[.call (V.i (ac l (pos+1+1+1+1) 15)) ([rdC l (pos+1+1+1+1+1),[]])],[.i (b.now+ac l (pos+1+1+1+1) 15)],[],[.n (Int.toNat (ac l (pos+1) (↑(List.length (List.map aH b.jobs)):Int)))],[.x (aH y)]] ?_)))
    conv=>whnf
    refine⟨⟨I,I,I,I,I,I,⟨UB,I,UV,UA,AS⟩,I,I,wO,wO,I,⟨UB,I,UV,UA,aa _ _ _ OM OM OM OM⟩,wO,I,⟨UB,I,UV,UA,aa _ _ _ OM OM OM OM⟩,I,I,I,⟨UB,I,UV,UA,aa _ _ _ OM OM OM OM⟩,wO,I,⟨OM,OM⟩,⟨UC,xA⟩,I⟩,by kernel_rfl,?_⟩
    refine g 5 198 []<|J QZ<|W.ret<|EndsW.rt<|J UM ?_
    exact⟨⟨b.workers,b.up,b.now,b.since,b.epoch,b.given,⟨b.log.safe,b.log.loose⟩,b.results,b.jobs.set (ac l (pos+1) ((b.jobs.map aH).length:Int)).toNat ⟨(b.epoch - 1) * 1000000+ac l (pos+1+1) 4,ac l (pos+1+1+1) 4,b.now+ac l (pos+1+1+1+1) 15⟩,b.seats,b.owed⟩,_,(by simp only[aF,List.map_set,List.map_append];rfl),rfl,⟨by dsimp only;omega,by dsimp only;omega,m9,by dsimp only;(try rw[List.length_set]);omega,by dsimp only;(try rw[List.length_set]);omega,by dsimp only;(try rw[List.length_set]);omega,by dsimp only;omega⟩,by omega,by omega⟩
   ·conv=>whnf
    refine Ws<|g 10 14 []<|J UE<|Wc<|Jf<|We<|Ws<|g 7 31 [BF,BF,BF,BF]<|J QZ<|Wc<|Jr<|Wk<|Ws<|g 6 61 [.call (V.i (ac l pos 12)) ([rdC l (pos+1),[]])]<|J (QA @aa)<|Wb<|g 69 70 []<|J UB ?_
    refine Wc<|Jf<|g 68 69 []<|J UB<|Wc<|Jf<|g 74 76 []<|J UB<|Wc<|Jf<|g 80 82 []<|J UB<|Wc<|Jf<|g 88 90 []<|J UB<|Wc<|Jf<|g 94 96 []<|J UB<|Wc<|Jf<|g 100 102 []<|J UB ?_
    refine Wc<|Jf<|g 108 110 []<|J UB<|Wc<|Kt (g 61 132 []<|J UD (Wc<|Jf<|(Wk (g 0 4 []<|J QZ (W.ret (EndsW.rt<|J UM ?_))))))
    exact⟨b,_,rfl,rfl,⟨by omega,by omega,m9,by omega,by omega,by omega,by omega⟩,by omega,by omega⟩
  by_cases k8:ac l (pos) 12 = 8
  ·have p44:=ak l (pos+1) 4
   have p45:=ak l (pos+1+1) 3
   have p46:=ak l (pos+1+1+1) 4
   conv=>whnf
   refine Ws<|g 10 14 []<|J UE<|Wc<|Jf<|We<|Ws<|g 7 31 [BF,BF,BF,BF]<|J QZ<|Wc<|Jr<|Wk<|Ws<|g 6 61 [.call (V.i (ac l pos 12)) ([rdC l (pos+1),[]])]<|J (QA @aa)<|Wb<|g 69 70 []<|J UB ?_
   refine Wc<|Jf<|g 68 69 []<|J UB<|Wc<|Jf<|g 74 76 []<|J UB<|Wc<|Jf<|g 80 82 []<|J UB<|Wc<|Jf<|g 88 90 []<|J UB<|Wc<|Jf<|g 94 96 []<|J UB<|Wc<|Jf<|g 100 102 []<|J UB ?_
   refine Wc<|Jf<|g 108 110 []<|J UB<|Wc<|Jf<|g 127 129 []<|J UB<|Wc<|Kt (rgd [[],[],[],[.call (V.i (ac l (pos+1) 4)) ([rdC l (pos+1+1),[]])],[],[.call (V.i (ac l (pos+1+1) 3)) ([rdC l (pos+1+1+1),[]])],[],[.call (V.i (ac l (pos+1+1+1) 4)) ([rdC l (pos+1+1+1+1),[]])],[],[],[],[],[]] ?_)
   conv=>whnf
   refine⟨⟨I,I,I,⟨UB,I,UV,UA,aa _ _ _ OM OM OM OM⟩,I,⟨UB,I,UV,UA,aa _ _ _ OM OM OM OM⟩,I,⟨UB,I,UV,UA,aa _ _ _ OM OM OM OM⟩,I,⟨UC,I⟩,Zap,I,UA,I⟩,by kernel_rfl,?_⟩
   refine g 5 198 []<|J QZ<|W.ret<|EndsW.rt<|J UM ?_
   exact⟨⟨b.workers,b.up,b.now,b.since,b.epoch,b.given,⟨b.log.safe,b.log.loose⟩,b.results,b.jobs,b.seats,b.owed++ [⟨ac l (pos+1) 4,ac l (pos+1+1) 3,ac l (pos+1+1+1) 4⟩]⟩,_,(by simp only[aF,List.map_set,List.map_append];rfl),rfl,⟨by dsimp only;omega,by dsimp only;omega,m9,by dsimp only;omega,by dsimp only;omega,by dsimp only;omega,by simp only[List.length_append,List.length_singleton];omega⟩,by omega,by omega⟩
  by_cases k9:ac l (pos) 12 = 9
  ·have ce:=qZ l (pos+1) hl OM OM
   obtain⟨e1,e2,e3,e4⟩:=Lq l (pos+1)
   have hfs:=iZ (gx l (pos+1)).1
   generalize(gx l (pos+1)).1 = e at ce e1 e2 hfs
   generalize(gx l (pos+1)).2 = u at ce e3 e4
   have cf:=dq e.kind e.epoch e.task e.text OM
   change F _ _ (.s (bW e)) _ at cf
   conv=>whnf
   refine Ws<|g 10 14 []<|J UE<|Wc<|Jf<|We<|Ws<|g 7 31 [BF,BF,BF,BF]<|J QZ<|Wc<|Jr<|Wk<|Ws<|g 6 61 [.call (V.i (ac l pos 12)) ([rdC l (pos+1),[]])]<|J (QA @aa)<|Wb<|g 69 70 []<|J UB ?_
   refine Wc<|Jf<|g 68 69 []<|J UB<|Wc<|Jf<|g 74 76 []<|J UB<|Wc<|Jf<|g 80 82 []<|J UB<|Wc<|Jf<|g 88 90 []<|J UB<|Wc<|Jf<|g 94 96 []<|J UB<|Wc<|Jf<|g 100 102 []<|J UB ?_
   refine Wc<|Jf<|g 108 110 []<|J UB<|Wc<|Jf<|g 127 129 []<|J UB<|Wc<|Jf<|g 156 158 []<|J UB<|Wc<|Kt (rgd [[],[],[],[],[.call (i7 e.kind e.epoch e.task e.text) ([rdC l u])],[.call (V.s (bW e)) O1],[],[],[],[],[]] ?_)
   conv=>whnf
   refine⟨⟨I,I,I,I,⟨UA,I,UA,UA,AS⟩,⟨UA,I,⟨UD,I⟩,UA,AS⟩,US,Zap,I,I,UA,I⟩,by kernel_rfl,?_⟩
   refine g 5 198 []<|J QZ<|W.ret<|EndsW.rt<|J UM ?_
   exact⟨⟨b.workers,b.up,b.now,b.since,b.epoch,b.given,⟨b.log.safe,b.log.loose++ [bW e]⟩,b.results,b.jobs,b.seats,b.owed⟩,_,(by simp only[aF,List.map_set,List.map_append];rfl),rfl,⟨by dsimp only;omega,by simp only[List.length_append,List.length_singleton];omega,fun s q=>by rcases List.mem_append.1 q with q|q;exact m9 s (List.mem_append_left _ q);rcases List.mem_append.1 q with q|q;exact m9 s (List.mem_append_right _ q);rw[List.mem_singleton.1 q];omega,by dsimp only;omega,by dsimp only;omega,by dsimp only;omega,by dsimp only;omega⟩,by omega,by omega⟩
  by_cases k10:ac l (pos) 12 = 10
  ·by_cases hr:0 < b.seats.length
   ·obtain⟨y,hy⟩:=ae (xs:=b.seats) (n:=0) OM
    conv=>whnf
    refine Ws<|g 10 14 []<|J UE<|Wc<|Jf<|We<|Ws<|g 7 31 [BF,BF,BF,BF]<|J QZ<|Wc<|Jr<|Wk<|Ws<|g 6 61 [.call (V.i (ac l pos 12)) ([rdC l (pos+1),[]])]<|J (QA @aa)<|Wb<|g 69 70 []<|J UB ?_
    refine Wc<|Jf<|g 68 69 []<|J UB<|Wc<|Jf<|g 74 76 []<|J UB<|Wc<|Jf<|g 80 82 []<|J UB<|Wc<|Jf<|g 88 90 []<|J UB<|Wc<|Jf<|g 94 96 []<|J UB<|Wc<|Jf<|g 100 102 []<|J UB ?_
    refine Wc<|Jf<|g 108 110 []<|J UB<|Wc<|Jf<|g 127 129 []<|J UB<|Wc<|Jf<|g 156 158 []<|J UB<|Wc<|Jf<|g 61 172 []<|J UB<|Wc<|Kt (g 182 187 []<|J UD (Wc<|J (fun _=>(rgd [[],[],[],[],[.call (V.i (ac l (pos+1) 3)) ([rdC l (pos+1+1),[]])],[.n (Int.toNat (ac l (pos+1) 3))],[.x ([T.i xs])],[.n (0)],[],[.x (aE y)]] ?_)) (noF SI)))
    conv=>whnf
    refine⟨⟨I,I,UU,I,⟨UB,I,UV,UA,aa _ _ _ OM OM OM OM⟩,Zas,AS,Zao,I,⟨UA,xA⟩,I⟩,by kernel_rfl,?_⟩
    refine g 5 198 []<|J QZ<|W.ret<|EndsW.rt<|J UM ?_
    exact⟨⟨b.workers,b.up,b.now,b.since,b.epoch,b.given,⟨b.log.safe,b.log.loose⟩,b.results,b.jobs,b.seats.set 0 ⟨y.free,xs⟩,b.owed⟩,_,(by simp only[aF,List.map_set,List.map_append];rfl),rfl,⟨by dsimp only;omega,by dsimp only;omega,m9,by dsimp only;(try rw[List.length_set]);omega,by dsimp only;(try rw[List.length_set]);omega,by dsimp only;(try rw[List.length_set]);omega,by dsimp only;omega⟩,by omega,by omega⟩
   ·conv=>whnf
    refine Ws<|g 10 14 []<|J UE<|Wc<|Jf<|We<|Ws<|g 7 31 [BF,BF,BF,BF]<|J QZ<|Wc<|Jr<|Wk<|Ws<|g 6 61 [.call (V.i (ac l pos 12)) ([rdC l (pos+1),[]])]<|J (QA @aa)<|Wb<|g 69 70 []<|J UB ?_
    refine Wc<|Jf<|g 68 69 []<|J UB<|Wc<|Jf<|g 74 76 []<|J UB<|Wc<|Jf<|g 80 82 []<|J UB<|Wc<|Jf<|g 88 90 []<|J UB<|Wc<|Jf<|g 94 96 []<|J UB<|Wc<|Jf<|g 100 102 []<|J UB ?_
    refine Wc<|Jf<|g 108 110 []<|J UB<|Wc<|Jf<|g 127 129 []<|J UB<|Wc<|Jf<|g 156 158 []<|J UB<|Wc<|Jf<|g 61 172 []<|J UB<|Wc<|Kt (g 182 187 []<|J UD (Wc<|J (noT SI) fun _=>(Wk ?_)))
    refine g 0 4 []<|J QZ<|W.ret<|EndsW.rt<|J UM ?_
    exact⟨b,_,rfl,rfl,⟨by omega,by omega,m9,by omega,by omega,by omega,by omega⟩,by omega,by omega⟩
  ·conv=>whnf
   refine Ws<|g 10 14 []<|J UE<|Wc<|Jf<|We<|Ws<|g 7 31 [BF,BF,BF,BF]<|J QZ<|Wc<|Jr<|Wk<|Ws<|g 6 61 [.call (V.i (ac l pos 12)) ([rdC l (pos+1),[]])]<|J (QA @aa)<|Wb<|g 69 70 []<|J UB ?_
   refine Wc<|Jf<|g 68 69 []<|J UB<|Wc<|Jf<|g 74 76 []<|J UB<|Wc<|Jf<|g 80 82 []<|J UB<|Wc<|Jf<|g 88 90 []<|J UB<|Wc<|Jf<|g 94 96 []<|J UB<|Wc<|Jf<|g 100 102 []<|J UB ?_
   refine Wc<|Jf<|g 108 110 []<|J UB<|Wc<|Jf<|g 127 129 []<|J UB<|Wc<|Jf<|g 156 158 []<|J UB<|Wc<|Jf<|g 61 172 []<|J UB<|Wc<|Jf<|rg []<|J QZ<|g 5 198 []<|J QZ<|W.ret ?_
   refine EndsW.rt<|J UM ?_
   exact⟨⟨b.workers,b.up,b.now,b.since,b.epoch,b.given,⟨b.log.safe,b.log.loose⟩,b.results,b.jobs,b.seats++ [⟨false,0⟩],b.owed⟩,_,(by simp only[aF,List.map_set,List.map_append];rfl),rfl,⟨by dsimp only;omega,by dsimp only;omega,m9,by dsimp only;omega,by dsimp only;omega,by simp only[List.length_append,List.length_singleton];omega,by dsimp only;omega⟩,by omega,by omega⟩
theorem sJ(l:List Int)(pos:Int)(b:Boss)(h:BossTight b∧dM l∧0≤pos∧pos≤990000):∃ x:Boss×Int,F kq [.ptr (rdC l pos),.val (aF b)] (aF x.1) [rdC l x.2,[]]∧BossMid x.1∧pos≤x.2∧x.2≤pos+20:=by
 obtain⟨res,outs,⟨v,pos2,rfl,rfl,h1,h2,h3⟩,hF⟩:=QK l pos b h.1 h.2.1 h.2.2.1 h.2.2.2
 exact⟨(v,pos2),hF,h1,h2,h3⟩
open Classical in
noncomputable def kX(l:List Int)(pos:Int)(b:Boss):Boss×Int:=if h:BossTight b∧dM l∧0≤pos∧pos≤990000 then(sJ l pos b h).choose else(iT,pos)
theorem A5(l:List Int)(pos:Int)(b:Boss)(hb:BossTight b)(hl:dM l)(h0:0≤pos)(h1:pos≤990000):F kq [.ptr (rdC l pos),.val (aF b)] (aF (kX l pos b).1) [rdC l (kX l pos b).2,[]]:=by
 have h:BossTight b∧dM l∧0≤pos∧pos≤990000:=⟨hb,hl,h0,h1⟩
 rw[kX,dif_pos h]
 exact(sJ l pos b h).choose_spec.1
theorem QV(l:List Int)(pos:Int)(b:Boss):BossMid (kX l pos b).1∧pos≤(kX l pos b).2∧(kX l pos b).2≤pos+20:=by
 unfold kX
 split
 ·rename_i h;exact(sJ l pos b h).choose_spec.2
 ·exact⟨kB (iY (w:=noWorld) (.inr rfl)),Int.le_refl _,by dsimp only;omega⟩
end Go.K
end
section
open Go Go.Tm Go.Proofs
namespace Go.K
structure WSm (w:Worker):Prop where
 len:w.inputs.length≤64
 size:∀ s∈w.inputs,s.size≤64
 text:w.text.size≤64
 cost:-100≤w.cost∧w.cost≤1000
structure WMd (w:Worker):Prop where
 len:w.inputs.length≤100
 size:∀ s∈w.inputs,s.size≤100
 text:w.text.size≤100
theorem Um{w:Worker}(h:WSm w):WMd w:=⟨by have:=h.len;omega,fun s hs=>by have:=h.size s hs;omega,by have:=h.text;omega⟩
theorem ZD:WSm fI:=⟨Nat.zero_le _,fun s hs=>(by cases hs),Nat.zero_le _,⟨by decide,by decide⟩⟩
theorem ZW(l:List Int)(pos:Int)(w:Worker)(hw:WSm w)(hl:dM l)(h0:0≤pos)(h1:pos≤1000000):∃ res outs,(∃ (v:Worker) (pos2:Int),res = aA v∧outs = [rdC l pos2,[]]∧WMd v∧pos≤pos2∧pos2≤pos+20)∧F fe [.ptr (rdC l pos),.val (aA w)] res outs:=by
 obtain⟨m1,m2,m3⟩:=Um hw
 have hc:=hw.cost
 have hln:=hw.len
 have htx:=hw.text
 have p0:=ak l pos 9
 have p11:=ak l (pos+1) 11
 have p5:=ak l (pos+1) 5
 have p3:=ak l (pos+1) 3
 have p2:=ak l (pos+1+1) 2
 obtain⟨xe,hxe1,hxe2⟩:=cZ [0,300,301] (ac l (pos+1) 3) p3.1 (by show _ < (3:Int);omega)
 have hxe3:([[T.i 0],[T.i 300],[T.i 301]]:List (List T))[(ac l (pos+1) 3).toNat]? = some [T.i xe]:=hxe2
 obtain⟨xl,hxl1,hxl2⟩:=cZ [0,w.cost,w.cost+1] (ac l (pos+1) 3) p3.1 (by show _ < (3:Int);omega)
 have hxl3:([[T.i 0],[T.i w.cost],[T.i (w.cost+1)]]:List (List T))[(ac l (pos+1) 3).toNat]? = some [T.i xl]:=hxl2
 obtain⟨xt,hxt1,hxt2⟩:=cZ [-1,39,40] (ac l (pos+1) 3) p3.1 (by show _ < (3:Int);omega)
 have hxt3:([[T.i (-1)],[T.i 39],[T.i 40]]:List (List T))[(ac l (pos+1) 3).toNat]? = some [T.i xt]:=hxt2
 obtain⟨xi,hxi1,hxi2⟩:=cZ [-1,1000000,1000001] (ac l (pos+1) 3) p3.1 (by show _ < (3:Int);omega)
 have hxi3:([[T.i (-1)],[T.i 1000000],[T.i 1000001]]:List (List T))[(ac l (pos+1) 3).toNat]? = some [T.i xi]:=hxi2
 obtain⟨xs,hxs1,hxs2⟩:=pv [⟨#[120]⟩,qp (dS (ac l (pos+1) 50))] (ac l (pos+1+1) 2) p2.1 (by show _ < (2:Int);omega)
 have hxs3:([[T.s ⟨#[120]⟩],[T.s (qp (dS (ac l (pos+1) 50)))]]:List (List T))[(ac l (pos+1+1) 2).toNat]? = some [T.s xs]:=hxs2
 have hxs:xs.size≤100:=by
  have e1:(⟨#[120]⟩:ByteArray).size = 1:=rfl
  have e3:=ef (dS (ac l (pos+1) 50))
  simp only[List.mem_cons,List.not_mem_nil,or_false]at hxs1
  rcases hxs1 with rfl|rfl <;> omega
 have e1:(⟨#[120]⟩:ByteArray).size = 1:=rfl
 have cb:=dZ l (pos+1) hl OM OM
 by_cases k0:ac l pos 9 = 0
 ·refine aQ ?_
  conv=>whnf
  refine g 0 0 []<|J QZ<|Ws<|g 5 6 [.call (V.i (ac l pos 9)) ([rdC l (pos+1),[]])]<|J (QA @aa)<|Wb<|g 22 23 []<|J UB<|Wc<|Kt (rg [.call (V.i (ac l (pos+1) 11)) ([rdC l (pos+1+1),[]]),.i (ac l (pos+1) (11:Int) - 1)]<|J (QA @aa) (g 6 83 []<|J QZ (W.ret (EndsW.rt<|J UL ?_))))
  exact⟨⟨ac l (pos+1) 11 - 1,w.epoch,w.up,w.state,w.lease,w.task,w.cost,w.left,w.inputs,w.text,w.since⟩,_,rfl,rfl,⟨m1,m2,m3⟩,by omega,by omega⟩
 by_cases k1:ac l pos 9 = 1
 ·refine aQ ?_
  conv=>whnf
  refine g 0 0 []<|J QZ<|Ws<|g 5 6 [.call (V.i (ac l pos 9)) ([rdC l (pos+1),[]])]<|J (QA @aa)<|Wb<|g 22 23 []<|J UB<|Wc<|Jf<|g 21 22 []<|J UB<|Wc<|Kt (rg [.call (V.i (ac l (pos+1) 3)) ([rdC l (pos+1+1),[]]),.n (Int.toNat (ac l (pos+1) 3)),.x ([T.i xe])]<|J (QA @aa) (g 6 83 []<|J QZ (W.ret (EndsW.rt<|J UL ?_))))
  exact⟨⟨w.number,xe,w.up,w.state,w.lease,w.task,w.cost,w.left,w.inputs,w.text,w.since⟩,_,rfl,rfl,⟨m1,m2,m3⟩,by omega,by omega⟩
 by_cases k2:ac l pos 9 = 2
 ·refine aQ ?_
  conv=>whnf
  refine g 0 0 []<|J QZ<|Ws<|g 5 6 [.call (V.i (ac l pos 9)) ([rdC l (pos+1),[]])]<|J (QA @aa)<|Wb<|g 22 23 []<|J UB<|Wc<|Jf<|g 21 22 []<|J UB<|Wc<|Jf<|g 27 29 []<|J UB<|Wc<|Kt (rg []<|J QZ (g 6 83 []<|J QZ ?_))
  refine W.ret<|EndsW.rt<|J UL ?_
  exact⟨⟨w.number,w.epoch,!w.up,w.state,w.lease,w.task,w.cost,w.left,w.inputs,w.text,w.since⟩,_,rfl,rfl,⟨m1,m2,m3⟩,by omega,by omega⟩
 by_cases k3:ac l pos 9 = 3
 ·refine aQ ?_
  conv=>whnf
  refine g 0 0 []<|J QZ<|Ws<|g 5 6 [.call (V.i (ac l pos 9)) ([rdC l (pos+1),[]])]<|J (QA @aa)<|Wb<|g 22 23 []<|J UB<|Wc<|Jf<|g 21 22 []<|J UB<|Wc<|Jf<|g 27 29 []<|J UB<|Wc<|Jf<|g 35 37 []<|J UB<|Wc<|Kt ?_
  refine rg [.call (V.i (ac l (pos+1) 5)) ([rdC l (pos+1+1),[]]),.i (ac l (pos+1) (5:Int) - 1)]<|J (QA @aa)<|g 6 83 []<|J QZ<|W.ret<|EndsW.rt<|J UL ?_
  exact⟨⟨w.number,w.epoch,w.up,ac l (pos+1) 5 - 1,w.lease,w.task,w.cost,w.left,w.inputs,w.text,w.since⟩,_,rfl,rfl,⟨m1,m2,m3⟩,by omega,by omega⟩
 by_cases k4:ac l pos 9 = 4
 ·refine aQ ?_
  conv=>whnf
  refine g 0 0 []<|J QZ<|Ws<|g 5 6 [.call (V.i (ac l pos 9)) ([rdC l (pos+1),[]])]<|J (QA @aa)<|Wb<|g 22 23 []<|J UB<|Wc<|Jf<|g 21 22 []<|J UB<|Wc<|Jf<|g 27 29 []<|J UB<|Wc<|Jf<|g 35 37 []<|J UB<|Wc<|Jf ?_
  refine g 41 43 []<|J UB<|Wc<|Kt (rgd [[],[],[],[],[.i (w.cost+1)],[],[],[.call (V.i (ac l (pos+1) 3)) ([rdC l (pos+1+1),[]])],[.n (Int.toNat (ac l (pos+1) 3))],[.x ([T.i xl])],[],[]] ?_)
  conv=>whnf
  refine⟨⟨I,I,I,I,wO,UU,I,⟨UB,I,UV,UA,aa _ _ _ OM OM OM OM⟩,Zas,AS,I,UA,I⟩,by kernel_rfl,?_⟩
  refine g 6 83 []<|J QZ<|W.ret<|EndsW.rt<|J UL ?_
  exact⟨⟨w.number,w.epoch,w.up,w.state,w.lease,w.task,w.cost,xl,w.inputs,w.text,w.since⟩,_,rfl,rfl,⟨m1,m2,m3⟩,by omega,by omega⟩
 by_cases k5:ac l pos 9 = 5
 ·refine aQ ?_
  conv=>whnf
  refine g 0 0 []<|J QZ<|Ws<|g 5 6 [.call (V.i (ac l pos 9)) ([rdC l (pos+1),[]])]<|J (QA @aa)<|Wb<|g 22 23 []<|J UB<|Wc<|Jf<|g 21 22 []<|J UB<|Wc<|Jf<|g 27 29 []<|J UB<|Wc<|Jf<|g 35 37 []<|J UB<|Wc<|Jf ?_
  refine g 41 43 []<|J UB<|Wc<|Jf<|g 47 49 []<|J UB<|Wc<|Kt (rg [.call (V.i (ac l (pos+1) 3)) ([rdC l (pos+1+1),[]]),.n (Int.toNat (ac l (pos+1) 3)),.x ([T.i xt])]<|J (QA @aa) (g 6 83 []<|J QZ (W.ret (EndsW.rt<|J UL ?_))))
  exact⟨⟨w.number,w.epoch,w.up,w.state,w.lease,xt,w.cost,w.left,w.inputs,w.text,w.since⟩,_,rfl,rfl,⟨m1,m2,m3⟩,by omega,by omega⟩
 by_cases k6:ac l pos 9 = 6
 ·refine aQ ?_
  conv=>whnf
  refine g 0 0 []<|J QZ<|Ws<|g 5 6 [.call (V.i (ac l pos 9)) ([rdC l (pos+1),[]])]<|J (QA @aa)<|Wb<|g 22 23 []<|J UB<|Wc<|Jf<|g 21 22 []<|J UB<|Wc<|Jf<|g 27 29 []<|J UB<|Wc<|Jf<|g 35 37 []<|J UB<|Wc<|Jf ?_
  refine g 41 43 []<|J UB<|Wc<|Jf<|g 47 49 []<|J UB<|Wc<|Jf<|g 60 62 []<|J UB<|Wc<|Kt (rg [.call (V.i (ac l (pos+1) 3)) ([rdC l (pos+1+1),[]]),.n (Int.toNat (ac l (pos+1) 3)),.x ([T.i xi])]<|J (QA @aa) (g 6 83 []<|J QZ (W.ret (EndsW.rt<|J UL ?_))))
  exact⟨⟨w.number,w.epoch,w.up,w.state,w.lease,w.task,w.cost,w.left,w.inputs,w.text,xi⟩,_,rfl,rfl,⟨m1,m2,m3⟩,by omega,by omega⟩
 by_cases k7:ac l pos 9 = 7
 ·refine aQ ?_
  conv=>whnf
  refine g 0 0 []<|J QZ<|Ws<|g 5 6 [.call (V.i (ac l pos 9)) ([rdC l (pos+1),[]])]<|J (QA @aa)<|Wb<|g 22 23 []<|J UB<|Wc<|Jf<|g 21 22 []<|J UB<|Wc<|Jf<|g 27 29 []<|J UB<|Wc<|Jf<|g 35 37 []<|J UB<|Wc<|Jf ?_
  refine g 41 43 []<|J UB<|Wc<|Jf<|g 47 49 []<|J UB<|Wc<|Jf<|g 60 62 []<|J UB<|Wc<|Jf<|g 6 70 []<|J UB<|Wc<|Kt (rg [.s (w.text++ {data:=#[(120:UInt8)]:ByteArray})]<|J QZ (g 76 83 []<|J QZ (W.ret (EndsW.rt<|J UL ?_))))
  exact⟨⟨w.number,w.epoch,w.up,w.state,w.lease,w.task,w.cost,w.left,w.inputs,w.text++ ⟨#[120]⟩,w.since⟩,_,rfl,rfl,⟨m1,m2,by dsimp only;rw[ByteArray.size_append];omega⟩,by omega,by omega⟩
 ·refine aQ ?_
  conv=>whnf
  refine g 0 0 []<|J QZ<|Ws<|g 5 6 [.call (V.i (ac l pos 9)) ([rdC l (pos+1),[]])]<|J (QA @aa)<|Wb<|g 22 23 []<|J UB<|Wc<|Jf<|g 21 22 []<|J UB<|Wc<|Jf<|g 27 29 []<|J UB<|Wc<|Jf<|g 35 37 []<|J UB<|Wc<|Jf ?_
  refine g 41 43 []<|J UB<|Wc<|Jf<|g 47 49 []<|J UB<|Wc<|Jf<|g 60 62 []<|J UB<|Wc<|Jf<|g 6 70 []<|J UB<|Wc<|Jf<|rg [.call (V.s (qp (dS (ac l (pos+1) 50)))) ([rdC l (pos+1+1)]),.call (V.i (ac l (pos+1+1) 2)) ([rdC l (pos+1+1+1),[]]),.n (Int.toNat (ac l (pos+1+1) 2)),.x ([T.s xs])]<|J (QA @aa)<|g 7 83 []<|J QZ<|W.ret<|EndsW.rt<|J UL ?_
  exact⟨⟨w.number,w.epoch,w.up,w.state,w.lease,w.task,w.cost,w.left,w.inputs++ [xs],w.text,w.since⟩,_,(by simp only[aA,List.map_append,List.nil_append];rfl),rfl,⟨by dsimp only;rw[uG];omega,C2 m2 hxs,m3⟩,by omega,by omega⟩
theorem Ih(l:List Int)(pos:Int)(w:Worker)(h:WSm w∧dM l∧0≤pos∧pos≤1000000):∃ x:Worker×Int,F fe [.ptr (rdC l pos),.val (aA w)] (aA x.1) [rdC l x.2,[]]∧WMd x.1∧pos≤x.2∧x.2≤pos+20:=by
 obtain⟨res,outs,⟨v,pos2,rfl,rfl,h1,h2,h3⟩,hF⟩:=ZW l pos w h.1 h.2.1 h.2.2.1 h.2.2.2
 exact⟨(v,pos2),hF,h1,h2,h3⟩
open Classical in
noncomputable def Mb(l:List Int)(pos:Int)(w:Worker):Worker×Int:=if h:WSm w∧dM l∧0≤pos∧pos≤1000000 then(Ih l pos w h).choose else(fI,pos)
theorem Z0(l:List Int)(pos:Int)(w:Worker)(hw:WSm w)(hl:dM l)(h0:0≤pos)(h1:pos≤1000000):F fe [.ptr (rdC l pos),.val (aA w)] (aA (Mb l pos w).1) [rdC l (Mb l pos w).2,[]]:=by
 have h:WSm w∧dM l∧0≤pos∧pos≤1000000:=⟨hw,hl,h0,h1⟩
 rw[Mb,dif_pos h]
 exact(Ih l pos w h).choose_spec.1
theorem ZC(l:List Int)(pos:Int)(w:Worker):WMd (Mb l pos w).1∧pos≤(Mb l pos w).2∧(Mb l pos w).2≤pos+20:=by
 unfold Mb
 split
 ·rename_i h;exact(Ih l pos w h).choose_spec.2
 ·exact⟨Um ZD,Int.le_refl _,by dsimp only;omega⟩
end Go.K
end
section
open Go Go.Tm Go.Proofs
namespace Go.K
structure AnyW (w:World):Prop where
 plan:kR w.plan
 boss:BossMid w.boss
 key:w.key.size≤4096
 wl:w.workers.length≤9
 wi:∀ x∈w.workers,x.inputs.length≤100
 fl:w.flight.length≤4100
 fs:∀ x∈w.flight,x.frm.size≤5000∧x.text.size≤5000
theorem Yl{w:World}(h:AnyW w):WorldLim w:=by
 obtain⟨h1,h2,h3,h4,h5,h6,h7⟩:=h
 exact⟨IE h1,XR h2,by omega,by omega,fun x hx=>by have:=h5 x hx;omega,by omega,fun x hx=>by have:=h7 x hx;omega⟩
theorem CQ{w:World}(h:sZ w):AnyW w:=by
 have h1:=bO h
 have h2:=h1.key
 have h3:=h1.wl
 have h4:=h1.fl
 exact⟨gq h1.small,kB (iY h),by omega,by omega,fun x hx=>by have:=h1.wi x hx;omega,by omega,fun x hx=>by have a:=(h1.par x hx).sent;have b:=(h1.par x hx).bytes;omega⟩
theorem HS{p:Plan}{key:ByteArray}{b:Boss}{ws:List Worker}{ys:List (List T)}{fl:List Parcel}{f:ByteArray}(h:ys = ws.map ag):C6 p key b ys fl f = ar ⟨p,key,b,ws,fl,f⟩:=by rw[h]
abbrev ZE(p:Plan)(key:ByteArray)(b:Boss)(ws:List Worker)(fl:List (List T))(f:ByteArray):V:=.agg [.own cI (p.tasks.map ay),.t (.s key),.t (.i b.workers),.t (.b b.up),.t (.i b.now),.t (.i b.since),.t (.i b.epoch),.t (.i b.given),.own [false] (b.log.safe.map ah),.own [false] (b.log.loose.map ah),.own [false] (b.results.map ah),.own dB (b.jobs.map aH),.own bw (b.seats.map aE),.own bx (b.owed.map aJ),.own bB (ws.map ag),.own pkd fl,.t (.s f)]
theorem HT{p:Plan}{key:ByteArray}{b:Boss}{ws:List Worker}{ys:List (List T)}{fl:List Parcel}{f:ByteArray}(h:ys = fl.map aY):ZE p key b ws ys f = ar ⟨p,key,b,ws,fl,f⟩:=by rw[h]
theorem Tv{w:World}(h:sZ w){x:Worker}(hx:x∈w.workers):WSm x:=by
 rcases h with h|rfl
 ·obtain⟨n,hn⟩:=List.getElem?_of_mem hx
  obtain⟨_,_,_,_,hc⟩:=(h.crew n x (List.getElem?_eq_some_iff.1 hn).1 hn).ok
  have e0:emp.size = 0:=rfl
  rcases hc with⟨_,_,_,c1,_,c2,c3⟩|⟨_,_,c1,_,⟨c2,c3⟩,c4⟩|⟨_,_,c1,_,c2,c3⟩
  ·have e:x.inputs = []:=List.eq_nil_of_length_eq_zero OM
   exact⟨by omega,(fun s hs=>by rw[e]at hs;cases hs),by rw[c3];omega,by omega⟩
  ·exact⟨by omega,fun s hs=>by rw[c2 s hs];omega,by rw[c4];omega,by omega⟩
  ·have e:x.inputs = []:=List.eq_nil_of_length_eq_zero OM
   exact⟨by omega,(fun s hs=>by rw[e]at hs;cases hs),by omega,by omega⟩
 ·cases hx
theorem M8(l:List Int)(pos:Int)(w:World)(hw:sZ w)(hl:dM l)(h0:0≤pos)(h1:pos≤800000):∃ res outs,(∃ (v:World) (pos2:Int),res = ar v∧outs = [rdC l pos2,[]]∧AnyW v∧pos≤pos2∧pos2≤pos+500)∧F Ai [.ptr (rdC l pos),.val (ar w)] res outs:=by
 have cc:=da w (bO hw)
 have ha:=CQ hw
 have ht:=iY hw
 have hd:=bO hw
 have hwl:=ha.wl
 have hfl:=ha.fl
 have p7:=ak l pos 7
 by_cases k0:ac l pos 7 = 0
 ·have cs:=A5 l (pos+1) w.boss ht hl OM OM
  obtain⟨s1,s2,s3⟩:=QV l (pos+1) w.boss
  generalize(kX l (pos+1) w.boss).1 = b at cs s1
  generalize(kX l (pos+1) w.boss).2 = u at cs s2 s3
  refine dx ?_
  conv=>whnf
  refine g 0 0 []<|J QZ<|g 6 8 [.call (ar w) O1]<|J QZ<|Ws<|g 8 9 [.call (V.i (ac l pos 7)) ([rdC l (pos+1),[]])]<|J (QA @aa)<|Wb<|g 17 18 []<|J UB<|Wc<|Kt (rg [.call (aF b) ([rdC l u,[]])]<|J QZ (g 5 82 []<|J QZ (W.ret (EndsW.rt<|J UR ?_))))
  exact⟨⟨w.plan,w.key,b,w.workers,w.flight,w.forged⟩,u,rfl,rfl,⟨ha.plan,s1,ha.key,ha.wl,ha.wi,ha.fl,ha.fs⟩,by omega,by omega⟩
 by_cases k1:ac l pos 7 = 1
 ·by_cases kw:0 < w.workers.length
  ·obtain⟨x,hx⟩:=ae (xs:=w.workers) (n:=0) kw
   have cs:=Z0 l (pos+1) x (Tv hw (List.mem_of_getElem? hx)) hl OM OM
   obtain⟨s1,s2,s3⟩:=ZC l (pos+1) x
   generalize(Mb l (pos+1) x).1 = y at cs s1
   generalize(Mb l (pos+1) x).2 = u at cs s2 s3
   refine dx ?_
   conv=>whnf
   refine g 0 0 []<|J QZ<|g 6 8 [.call (ar w) O1]<|J QZ<|Ws<|g 8 9 [.call (V.i (ac l pos 7)) ([rdC l (pos+1),[]])]<|J (QA @aa)<|Wb<|g 17 18 []<|J UB<|Wc<|Jf<|g 16 17 []<|J UB<|Wc<|Kt (g 9 28 []<|J UD (Wc<|J (fun _=>(rgd [[],[],[],[],[],[.n (0)],[.x (ag x)],[.x (ag x),.call (aA y) ([rdC l u,[]])],[.n (0)],[.x (List.set (ag x) (0+1+1+1+1+1+1+1+1) T.hole)]] ?_)) (noF SI)))
   conv=>whnf
   refine⟨⟨I,I,I,I,I,Zao,xA,⟨⟨I,Zal,I⟩,I,UB,UA,AS⟩,Zao,⟨UK,jP LN⟩,I⟩,by kernel_rfl,?_⟩
   rw[List.set_set]
   refine g 5 82 []<|J QZ<|W.ret<|EndsW.rt<|J UR ?_
   exact⟨⟨w.plan,w.key,w.boss,w.workers.set 0 y,w.flight,w.forged⟩,u,HS gj,rfl,⟨ha.plan,ha.boss,ha.key,by show(w.workers.set 0 y).length≤9;rw[List.length_set];exact hwl,fun z hz=>by
    rcases List.mem_or_eq_of_mem_set hz with hz|rfl
    ·exact ha.wi z hz
    ·exact s1.len,ha.fl,ha.fs⟩,by omega,by omega⟩
  ·refine dx ?_
   conv=>whnf
   refine g 0 0 []<|J QZ<|g 6 8 [.call (ar w) O1]<|J QZ<|Ws<|g 8 9 [.call (V.i (ac l pos 7)) ([rdC l (pos+1),[]])]<|J (QA @aa)<|Wb<|g 17 18 []<|J UB<|Wc<|Jf<|g 16 17 []<|J UB<|Wc<|Kt (g 9 28 []<|J UD (Wc<|J (noT SI) fun _=>(Wk ?_)))
   refine g 0 4 []<|J QZ<|W.ret<|EndsW.rt<|J UR ?_
   exact⟨w,pos+1,rfl,rfl,ha,by omega,by omega⟩
 by_cases k2:ac l pos 7 = 2
 ·have cs:=A6 l (pos+1) w.plan hd.small hl OM OM
  obtain⟨s1,s2,s3⟩:=S5 l (pos+1) w.plan
  generalize(ox l (pos+1) w.plan).1 = p at cs s1
  generalize(ox l (pos+1) w.plan).2 = u at cs s2 s3
  refine dx ?_
  conv=>whnf
  refine g 0 0 []<|J QZ<|g 6 8 [.call (ar w) O1]<|J QZ<|Ws<|g 8 9 [.call (V.i (ac l pos 7)) ([rdC l (pos+1),[]])]<|J (QA @aa)<|Wb<|g 17 18 []<|J UB<|Wc<|Jf<|g 16 17 []<|J UB<|Wc<|Jf<|g 23 25 []<|J UB<|Wc<|Kt (rg [.call (eH p) ([rdC l u,[]])]<|J QZ ?_)
  refine g 5 82 []<|J QZ<|W.ret<|EndsW.rt<|J UR ?_
  exact⟨⟨p,w.key,w.boss,w.workers,w.flight,w.forged⟩,u,rfl,rfl,⟨s1,ha.boss,ha.key,ha.wl,ha.wi,ha.fl,ha.fs⟩,by omega,by omega⟩
 by_cases k3:ac l pos 7 = 3
 ·have p2:=ak l (pos+1) 2
  have ek:(⟨#[107]⟩:ByteArray).size = 1:=rfl
  have cm:=lY ⟨#[107]⟩ (30+ac l (pos+1) 2) OM OM OM
  have hm:=p9 ⟨#[107]⟩ (30+ac l (pos+1) 2)
  generalize mO ⟨#[107]⟩ (30+ac l (pos+1) 2) = k at cm hm
  refine dx ?_
  conv=>whnf
  refine g 0 0 []<|J QZ<|g 6 8 [.call (ar w) O1]<|J QZ<|Ws<|g 8 9 [.call (V.i (ac l pos 7)) ([rdC l (pos+1),[]])]<|J (QA @aa)<|Wb<|g 17 18 []<|J UB<|Wc<|Jf<|g 16 17 []<|J UB<|Wc<|Jf<|g 23 25 []<|J UB<|Wc<|Jf<|g 38 40 []<|J UB ?_
  refine Wc<|Kt (rg [.call (V.i (ac l (pos+1) 2)) ([rdC l (pos+1+1),[]]),.i (30+ac l (pos+1) 2),.call (V.s k) O2]<|J (QA @aa) (g 5 82 []<|J QZ (W.ret (EndsW.rt<|J UR ?_))))
  exact⟨⟨w.plan,k,w.boss,w.workers,w.flight,w.forged⟩,pos+1+1,rfl,rfl,⟨ha.plan,ha.boss,hm,ha.wl,ha.wi,ha.fl,ha.fs⟩,by omega,by omega⟩
 by_cases k4:ac l pos 7 = 4
 ·have p4:=ak l (pos+1) 4
  have p2:=ak l (pos+1+1) 2
  obtain⟨xt,hxt1,hxt2⟩:=cZ [-1,0,9,8] (ac l (pos+1) 4) p4.1 (by show _ < (4:Int);omega)
  have hxt3:([[T.i (-1)],[T.i 0],[T.i 9],[T.i 8]]:List (List T))[(ac l (pos+1) 4).toNat]? = some [T.i xt]:=hxt2
  have ek:(⟨#[115]⟩:ByteArray).size = 1:=rfl
  have cm:=F9 ⟨#[115]⟩ (500+ac l (pos+1+1) 2) OM OM (by rw[ek];omega)
  have hm:=p9 ⟨#[115]⟩ (500+ac l (pos+1+1) 2)
  generalize mO ⟨#[115]⟩ (500+ac l (pos+1+1) 2) = t at cm hm
  refine dx ?_
  conv=>whnf
  refine g 0 0 []<|J QZ<|g 6 8 [.call (ar w) O1]<|J QZ<|Ws<|g 8 9 [.call (V.i (ac l pos 7)) ([rdC l (pos+1),[]])]<|J (QA @aa)<|Wb<|g 17 18 []<|J UB<|Wc<|Jf<|g 16 17 []<|J UB<|Wc<|Jf<|g 23 25 []<|J UB<|Wc<|Jf<|g 38 40 []<|J UB ?_
  refine Wc<|Jf<|g 45 47 []<|J UB<|Wc<|Kt (rgd [[],[],[],[],[.call (V.i (ac l (pos+1) 4)) ([rdC l (pos+1+1),[]])],[.n (Int.toNat (ac l (pos+1) 4))],[.x ([T.i xt])],[],[.call (V.i (ac l (pos+1+1) 2)) ([rdC l (pos+1+1+1),[]])],[.i (500+ac l (pos+1+1) 2)],[.call (V.s t) O2],[],[],[],[],[]] ?_)
  conv=>whnf
  refine⟨⟨I,I,⟨UA,UA,UA,UA,I⟩,I,⟨UB,I,UV,UA,aa _ _ _ OM OM OM OM⟩,Zas,AS,I,⟨UB,I,UV,UA,aa _ _ _ OM OM OM OM⟩,wO,⟨UB,I,UT,UA,AS⟩,I,⟨UC,I⟩,Zap,I,UA,I⟩,by kernel_rfl,?_⟩
  refine g 53 82 []<|J QZ<|W.ret<|EndsW.rt<|J UR ?_
  exact⟨⟨w.plan,w.key,w.boss,w.workers,w.flight++ [⟨xt,t,emp⟩],w.forged⟩,pos+1+1+1,HT (by rw[List.map_append];rfl),rfl,⟨ha.plan,ha.boss,ha.key,ha.wl,ha.wi,by show(w.flight++ [_]).length≤4100;rw[List.length_append,List.length_singleton];have q:=hd.fl;omega,fun z hz=>by
   rcases List.mem_append.1 hz with hz|hz
   ·exact ha.fs z hz
   ·rw[List.mem_singleton.1 hz];exact⟨by dsimp only;omega,Nat.zero_le _⟩⟩,by omega,by omega⟩
 by_cases k5:ac l pos 7 = 5
 ·refine dx ?_
  conv=>whnf
  refine g 0 0 []<|J QZ<|g 6 8 [.call (ar w) O1]<|J QZ<|Ws<|g 8 9 [.call (V.i (ac l pos 7)) ([rdC l (pos+1),[]])]<|J (QA @aa)<|Wb<|g 17 18 []<|J UB<|Wc<|Jf<|g 16 17 []<|J UB<|Wc<|Jf<|g 23 25 []<|J UB<|Wc<|Jf<|g 38 40 []<|J UB ?_
  refine Wc<|Jf<|g 45 47 []<|J UB<|Wc<|Jf<|g 3 4 []<|J UB<|Wc<|Kt (rg [.i ((↑(List.length (List.map ag w.workers)):Int) +1)]<|J QZ (g 53 82 []<|J QZ (W.ret (EndsW.rt<|J UR ?_))))
  exact⟨⟨w.plan,w.key,w.boss,w.workers++ [⟨(w.workers.length:Int) +1,1,false,0,0,0,0,0,[],emp,0⟩],w.flight,w.forged⟩,pos+1,HS (by rw[List.map_append,List.length_map];rfl),rfl,⟨ha.plan,ha.boss,ha.key,by show(w.workers++ [_]).length≤9;rw[List.length_append,List.length_singleton];have q:=hd.wl;omega,fun z hz=>by
   rcases List.mem_append.1 hz with hz|hz
   ·exact ha.wi z hz
   ·rw[List.mem_singleton.1 hz];exact Nat.zero_le _,ha.fl,ha.fs⟩,by omega,by omega⟩
 ·obtain⟨res,outs,⟨xs,pos2,rfl,rfl,x1,x2,x3,x4⟩,hF⟩:=TG l (pos+1) hl OM OM
  refine dx ?_
  conv=>whnf
  refine g 0 0 []<|J QZ<|g 6 8 [.call (ar w) O1]<|J QZ<|Ws<|g 8 9 [.call (V.i (ac l pos 7)) ([rdC l (pos+1),[]])]<|J (QA @aa)<|Wb<|g 17 18 []<|J UB<|Wc<|Jf<|g 16 17 []<|J UB<|Wc<|Jf<|g 23 25 []<|J UB<|Wc<|Jf<|g 38 40 []<|J UB ?_
  refine Wc<|Jf<|g 45 47 []<|J UB<|Wc<|Jf<|g 3 4 []<|J UB<|Wc<|Jf<|rgd [[],[],[],[.call (V.own pkd (List.map aY xs)) ([rdC l pos2])],[],[],[]] ?_
  conv=>whnf
  refine⟨⟨I,I,I,⟨UA,I,UA,UA,AS⟩,Zap,I,UA,I⟩,by kernel_rfl,?_⟩
  refine g 5 16 []<|J QZ<|W.ret<|EndsW.rt<|J UR ?_
  exact⟨⟨w.plan,w.key,w.boss,w.workers,w.flight++xs,w.forged⟩,pos2,HT (by rw[List.map_append]),rfl,⟨ha.plan,ha.boss,ha.key,ha.wl,ha.wi,by show(w.flight++xs).length≤4100;rw[List.length_append];have q:=hd.fl;omega,fun z hz=>by
   rcases List.mem_append.1 hz with hz|hz
   ·exact ha.fs z hz
   ·have a:=(x2 z hz).sent;have b:=(x2 z hz).bytes;omega⟩,by omega,by omega⟩
end Go.K
end
section
open Go Go.Tm Go.Proofs
namespace Go.K
def bu(n:Nat):List ByteArray:=(List.range n).map fun(i:Nat)=>bW ⟨1,(i:Int) +1,0,emp⟩
theorem kV(n:Nat):(bu n).length = n:=by unfold bu;rw[List.length_map,List.length_range]
theorem xZ(n:Nat):bu n++ [bW ⟨1,(n:Int) +1,0,emp⟩] = bu (n+1):=by simp[bu,List.range_succ]
theorem HA(n:Nat):(bu n).map ah++ [ah (bW ⟨1,(n:Int) +1,0,emp⟩)] = (bu (n+1)).map ah:=by rw[←xZ,List.map_append];rfl
theorem x7{n:Nat}{s:ByteArray}(h:s∈bu n):s.size≤12:=by
 obtain⟨i,_,rfl⟩:=List.mem_map.1 h
 have:=iZ ⟨1,(i:Int) +1,0,emp⟩
 have e0:emp.size = 0:=rfl
 dsimp only at this
 omega
theorem n8(n:Nat)(h:n≤300):F nT [.val (.i n)] (.own [false] ((bu n).map ah)) O1:=by
 refine yY ?_
 conv=>whnf
 refine g 0 0 []<|J UA<|g 5 6 []<|J UB<|Ws<|g 0 0 []<|J UA<|Wb<|Wl (fun s (k:Nat)=>⟨[(0,s.s 0),(2,s.s 2),(3,.ref ⟨3,none,0⟩),(4,.i (k+1))],[(3,[.own [false] ((bu k).map ah)])],[]⟩) (fun(k:Nat)=>k≤n) (fun(k:Nat)=>n - k) (0) [some 5] [] FZ OM ?_
 intro k hk
 have e:=HA k
 have hl:=kV k
 have cf:=dq 1 ((k:Int) +1) 0 emp (by decide)
 have hs:=iZ ⟨1,(k:Int) +1,0,emp⟩
 by_cases hk2:k < n
 ·conv=>whnf
  refine Ws<|g 6 8 []<|J UC<|Wc<|Kt (Wk (Ws (Wb (rg [.call (V.s (bW {kind:=1,epoch:=(k:Int) +1,task:=0,text:=emp:Entry})) O1]<|J QZ (rg [.i ((k:Int) +1+1)]<|J QZ ?_)))))
  refine⟨k+1,[some 16],[],⟨rfl,FZ,⟨⟨rfl,⟨(congrArg (V.own _) (e)),I⟩⟩,I⟩,I⟩,?_,?_⟩
  rotate_left
  (dsimp only;omega)
  dsimp only
  omega
 ·obtain rfl:k = n:=by omega
  conv=>whnf
  refine Ws<|g 6 8 []<|J UC<|Wc<|Jf<|We<|g 3 18 []<|J UB<|RT ?_
  rfl
theorem lG{p:Plan}(h:am p.tasks = 0):∀ n:Nat,n≤300→(ax p (bu n)).code = 0∧(ax p (bu n)).epoch = n∧(ax p (bu n)).results = List.replicate p.tasks.length emp
 |0,_=>by
  have h0:=sd h
  refine⟨h0,?_⟩
  show(ax p []).epoch = 0∧(ax p []).results = _
  rw[ax,if_pos ⟨h,by decide⟩,jy]
  exact⟨rfl,rfl⟩
 |n+1,hn=>by
  obtain⟨h1,h2,h3⟩:=lG h n OM
  have e:=nC (n:=(n:Int) +1) h1 (by rw[kV];omega) (by rw[h2]) OM
  have e2:bu (n+1) = bu n++ [bW (epE ((n:Int) +1))]:=(xZ n).symm
  rw[e2,e]
  exact⟨rfl,by dsimp only;omega,h3⟩
def fL(i:Nat):ByteArray:=(⟨#[102,117,108,108]⟩:ByteArray) ++dS i
def fu(n:Nat):List Task:=(List.range n).map fun i=>⟨fL i,1,[]⟩
theorem pA(n:Nat):(fu n).length = n:=by simp[fu]
theorem MY(n:Nat):(fu n).map ay++ [ay ⟨fL n,1,[]⟩] = (fu (n+1)).map ay:=by simp[fu,List.range_succ]
theorem CR{n i:Nat}(h:i < n):(fu n)[i]? = some ⟨fL i,1,[]⟩:=by
 unfold fu;rw[List.getElem?_map,List.getElem?_range h];rfl
theorem Qe{s:ByteArray}(h:(s.data.toList.all fun c=>Nat.ble 33 c.toNat && Nat.ble c.toNat 126) = true)(h1:1≤s.size)(h2:s.size≤30):nv s:=by
 refine⟨fun n c hc=>?_,h1,h2⟩
 have hm:c∈s.data.toList:=by
  have hn:=Ij hc
  rw[getElem?_pos s n hn]at hc
  have e:=Option.some.inj hc
  rw[←e]
  exact Array.getElem_mem_toList hn
 have:=List.all_eq_true.1 h c hm
 simp only[Bool.and_eq_true,Nat.ble_eq]at this
 exact this
theorem MZ:((List.range 12).all fun i=>(fL i).data.toList.all fun c=>Nat.ble 33 c.toNat && Nat.ble c.toNat 126) = true:=by decide+kernel
theorem Qv:((List.range 12).all fun i=>(List.range i).all fun j=>!((fL i).data.toList == (fL j).data.toList)) = true:=by decide+kernel
theorem Qt:((List.range 12).all fun i=>Nat.ble 1 (fL i).size && Nat.ble (fL i).size 30) = true:=by decide+kernel
theorem uJ:am (fu 12) = 0:=by
 have hn:iy (fu 12):=by
  intro m t hm ht
  rw[pA]at hm
  rw[CR hm]at ht
  cases ht
  have hr:m∈List.range 12:=List.mem_range.2 hm
  have h1:=List.all_eq_true.1 MZ m hr
  have h2:=List.all_eq_true.1 Qt m hr
  simp only[Bool.and_eq_true,Nat.ble_eq]at h2
  refine⟨Qe h1 h2.1 h2.2,fun q=>?_⟩
  obtain⟨t,ht,e⟩:=List.mem_map.1 q
  obtain⟨j,hj⟩:=List.getElem?_of_mem ht
  rw[List.getElem?_take]at hj
  split at hj
  ·rename_i hjm
   rw[CR OM]at hj
   cases hj
   have h3:=List.all_eq_true.1 (List.all_eq_true.1 Qv m hr) j (List.mem_range.2 hjm)
   have e2:fL j = fL m:=e
   rw[e2]at h3
   simp at h3
  ·cases hj
 have hc:jI (fu 12):=by
  intro t ht
  obtain⟨i,_,rfl⟩:=List.mem_map.1 ht
  exact⟨Int.le_refl _,by show(1:Int)≤20;omega⟩
 have hd:uj (fu 12):=by
  intro m t hm ht
  obtain⟨i,_,rfl⟩:=List.mem_map.1 (List.mem_of_getElem? ht)
  exact⟨Nat.zero_le _,trivial⟩
 unfold am
 rw[pA,if_neg (not_not_intro ⟨by omega,by omega⟩),if_neg (not_not_intro hn),if_neg (not_not_intro hc),if_neg (not_not_intro hd)]
def IQ:Boss:=eI 2 3 (bu 299)
theorem Qu:jZ IQ ⟨fu 12⟩ = upB 2 3 (bu 299) ⟨fu 12⟩ (ax ⟨fu 12⟩ (bu 299)):=by
 obtain⟨h1,h2,h3⟩:=lG (p:=⟨fu 12⟩) uJ 299 OM
 have hv:BossOk IQ ⟨fu 12⟩:=by
  refine⟨uJ,⟨by show 1≤2;omega,by show 2≤8;omega⟩,⟨by show 0≤3;omega,by show 3≤1000000;omega⟩,?_,fun q=>(by cases q),fun _=>⟨rfl,rfl,rfl,rfl,rfl,rfl,rfl,rfl⟩⟩
  show(ax ⟨fu 12⟩ (bu 299++ [])).code = 0
  rw[List.append_nil];exact h1
 rw[nA hv]
 refine Dd ⟨rfl,?_,?_⟩
 ·show(bu 299).length < 310;rw[kV];omega
 ·show(ax ⟨fu 12⟩ (bu 299)).epoch < 300;rw[h2];omega
end Go.K
end
section
open Go Go.Tm Go.Proofs
namespace Go.K
structure EdgeOk (b:Boss) (p:Plan):Prop where
 mid:BossMid b
 small:dl p
 workers:0≤b.workers∧b.workers≤8
theorem yl{b:Boss}(p:Plan)(h:BossTight b):BossTight (jZ b p):=by
 by_cases hv:BossOk b p
 ·rw[nA hv];exact KW (sa hv)
 ·rw[show jZ b p = iT from if_neg hv]
  exact iY (w:=noWorld) (.inr rfl)
theorem X2(l:List Int)(pos:Int)(hl:dM l)(h0:0≤pos)(h1:pos≤800000):∃ res outs,(∃ (b:Boss) (p:Plan) (pos2:Int),res = .tup [aF b,eH p]∧outs = [rdC l pos2]∧EdgeOk b p∧pos≤pos2∧pos2≤pos+6000)∧F lJ [.ptr (rdC l pos)] res outs:=by
 have cr:=iE l pos hl h0 OM
 obtain⟨g1,_,g3,g4⟩:=CJ l pos
 generalize(iK l pos).1 = w at cr g1
 generalize(iK l pos).2 = q at cr g3 g4
 have hd:=bO g1
 have hs:=hd.small
 have hw:=hd.plan
 have ht:=iY g1
 have hm:=kB ht
 have hlim:=pL ht
 obtain⟨⟨b1,b2⟩,⟨b3,b4⟩,⟨b5,b6⟩,b7,b8,b9,b10,b11,b12,b13⟩:=ht
 have p6:=ak l q 6
 have p2:=ak l (q+1) 2
 have p22:=ak l (q+1+1) 2
 by_cases k0:ac l q 6 = 0
 ·obtain⟨n,hn⟩:∃ n:Nat,300 - ac l (q+1) 2 = n:=⟨(300 - ac l (q+1) 2).toNat,by omega⟩
  have hn1:n≤300:=by omega
  have ce:=n8 n hn1
  rw[←hn]at ce
  have hel:=kV n
  have hDa:∀ s∈bu n++ [],s.size≤12:=fun s q=>by rw[List.append_nil]at q;exact x7 q
  have hD:BossTight (eI w.boss.workers w.boss.now (bu n)):=⟨⟨b1,b2⟩,⟨b3,b4⟩,⟨Int.le_refl _,by show(0:Int)≤300;omega⟩,by show(bu n).length≤310;omega,Nat.zero_le _,hDa,Nat.zero_le _,Nat.zero_le _,Nat.zero_le _,Nat.zero_le _⟩
  by_cases kk:ac l (q+1+1) 2 = 0
  ·have cb:F jq [.val (.agg [.t (.i w.boss.workers),.t (.b false),.t (.i w.boss.now),.t (.i 0),.t (.i 0),.t (.i 0),.t (.slc [false] ((bu n).map ah)),.t (.slc [false] []),.t (.slc [false] []),.t (.slc dB []),.t (.slc bw []),.t (.slc bx [])]),.val (cX w.plan)] (aF (jZ (eI w.boss.workers w.boss.now (bu n)) w.plan)) O2:=ju (eI w.boss.workers w.boss.now (bu n)) w.plan hw (pL hD)
   have hR:=yl w.plan hD
   generalize jZ (eI w.boss.workers w.boss.now (bu n)) w.plan = bb at cb hR
   refine dN ?_
   conv=>whnf
   refine g 0 0 []<|J UB<|g 14 16 [.call (ar w) ([rdC l q])]<|J QZ<|g 16 18 []<|J QZ<|Ws<|g 18 19 [.call (V.i (ac l q 6)) ([rdC l (q+1),[]])]<|J (QA @aa)<|Wb<|g 21 22 []<|J UB<|Wc<|Kt (gd 19 32 [[],[],[],[],[],[.call (V.i (ac l (q+1) 2)) ([rdC l (q+1+1),[]])],[.i ((300:Int) - ac l (q+1) 2)],[.call (V.own [false] (List.map ah (bu n))) O1],[],[],[]] ?_)
   conv=>whnf
   refine⟨⟨I,I,I,I,I,⟨UB,I,UV,UA,aa _ _ _ OM OM OM OM⟩,wO,Zan,I,I,UL,I⟩,by kernel_rfl,?_⟩
   refine Ws<|g 32 34 [.call (V.i (ac l (q+1+1) 2)) ([rdC l (q+1+1+1),[]])]<|J (QA @aa)<|Wc<|Kt (rg [.call (aF bb) O2]<|J QZ (gd 34 42 [[],[],[],[],[]] ?_))
   conv=>whnf
   refine⟨⟨I,I,I,UL,UA,I⟩,by kernel_rfl,?_⟩
   refine W.ret<|EndsW.rt<|J QZ ?_
   exact⟨bb,w.plan,_,rfl,rfl,⟨kB hR,hs,hR.workers⟩,by omega,by omega⟩
  ·refine dN ?_
   conv=>whnf
   refine g 0 0 []<|J UB<|g 14 16 [.call (ar w) ([rdC l q])]<|J QZ<|g 16 18 []<|J QZ<|Ws<|g 18 19 [.call (V.i (ac l q 6)) ([rdC l (q+1),[]])]<|J (QA @aa)<|Wb<|g 21 22 []<|J UB<|Wc<|Kt (gd 19 32 [[],[],[],[],[],[.call (V.i (ac l (q+1) 2)) ([rdC l (q+1+1),[]])],[.i ((300:Int) - ac l (q+1) 2)],[.call (V.own [false] (List.map ah (bu n))) O1],[],[],[]] ?_)
   conv=>whnf
   refine⟨⟨I,I,I,I,I,⟨UB,I,UV,UA,aa _ _ _ OM OM OM OM⟩,wO,Zan,I,I,UL,I⟩,by kernel_rfl,?_⟩
   refine Ws<|g 32 34 [.call (V.i (ac l (q+1+1) 2)) ([rdC l (q+1+1+1),[]])]<|J (QA @aa)<|Wc<|Jf<|Wk<|gd 34 42 [[],[],[],[],[]] ?_
   conv=>whnf
   refine J QZ<|J KR<|W.ret<|EndsW.rt<|J QZ ?_
   exact⟨eI w.boss.workers w.boss.now (bu n),w.plan,_,rfl,rfl,⟨kB hD,hs,b1,b2⟩,by omega,by omega⟩
 by_cases k1:ac l q 6 = 1
 ·refine dN ?_
  conv=>whnf
  refine g 0 0 []<|J UB<|g 14 16 [.call (ar w) ([rdC l q])]<|J QZ<|g 16 18 []<|J QZ<|Ws<|g 18 19 [.call (V.i (ac l q 6)) ([rdC l (q+1),[]])]<|J (QA @aa)<|Wb<|g 21 22 []<|J UB<|Wc<|Jf<|g 20 21 []<|J UB<|Wc<|Kt (Ws (g 19 20 []<|J UA ?_))
  refine Wb<|Wl (fun s (x:Nat×List Seat×Int)=>⟨(SK s [0,2,3,4,5] [(6,.i x.1),(42,s.s 42)]),[(2,(CK s 2 0 12 [])),(3,[s.c 3 0]),(4,(CK s 4 0 17 [])),(190,[.t (u8s l),.t (.i x.2.2)]),(5,[.t (.i w.boss.workers),.t (.b w.boss.up),.t (.i w.boss.now),.t (.i w.boss.since),.t (.i w.boss.epoch),.t (.i w.boss.given),.own [false] (w.boss.log.safe.map ah),.own [false] (w.boss.log.loose.map ah),.own [false] (w.boss.results.map ah),.own dB (w.boss.jobs.map aH),.own bw (x.2.1.map aE),.own bx (w.boss.owed.map aJ)])],[]⟩) (fun(x:Nat×List Seat×Int)=>x.1≤w.boss.seats.length∧x.2.1.length = w.boss.seats.length∧x.2.2 = q+1+x.1) (fun(x:Nat×List Seat×Int)=>w.boss.seats.length - x.1) ((0,w.boss.seats,q+1)) [some 2,some 3,some 4,some 190,some 5] [] FZ (by simp) ?_
  rintro⟨i,ss,r⟩ ⟨i1,i2,i3⟩
  dsimp only at i1 i2 i3
  by_cases hi:i < w.boss.seats.length
  ·obtain⟨x,hx⟩:=ae (xs:=ss) (n:=i) OM
   have p3:=ak l r 3
   have es:(ss.map aE).set i (aE ⟨x.free,2+ac l r 3⟩) = (ss.set i ⟨x.free,2+ac l r 3⟩).map aE:=by rw[←List.map_set]
   conv=>whnf
   refine Ws<|g 44 48 []<|J UE<|Wc<|J (fun _=>(Wk (Ws (Wb (rgd [[],[],[],[],[.call (V.i (ac l r 3)) ([rdC l (r+1),[]])],[.i (2+ac l r 3)],[.n (Prod.fst (i,ss,r))],[],[.x (aE x)]] ?_))))) (noF SI)
   conv=>whnf
   refine⟨⟨I,I,I,I,⟨UB,I,UV,UA,aa _ _ _ OX OX OX OX⟩,wO,Zao,I,⟨UA,xA⟩,I⟩,by kernel_rfl,?_⟩
   refine rg [.i ((↑(Prod.fst (i,ss,r)):Int) +1)]<|J QZ ?_
   refine⟨(i+1,ss.set i ⟨x.free,2+ac l r 3⟩,r+1),[some 2,some 3,some 4,some 190,some 5],[],⟨rfl,FZ,⟨FZ,⟨FZ,⟨FZ,⟨FZ,⟨(R11 ⟨(congrArg (V.own _) (es)),Zar⟩),I⟩⟩⟩⟩⟩,I⟩,?_,?_⟩
   rotate_left
   (dsimp only;omega)
   dsimp only
   all_goals first|exact⟨by omega,by rw[List.length_set];exact i2,by omega⟩|(dsimp only;omega)|omega
  ·conv=>whnf
   refine Ws<|g 44 48 []<|J UE<|Wc<|J (noT SI) fun _=>We<|gd 59 62 [[],[],[],[],[]] ?_
   conv=>whnf
   refine J QZ<|J KR<|W.ret<|EndsW.rt<|J QZ ?_
   exact⟨⟨w.boss.workers,w.boss.up,w.boss.now,w.boss.since,w.boss.epoch,w.boss.given,⟨w.boss.log.safe,w.boss.log.loose⟩,w.boss.results,w.boss.jobs,ss,w.boss.owed⟩,w.plan,r,rfl,rfl,⟨⟨hm.safe,hm.loose,hm.all,hm.res,hm.jobs,by show ss.length≤100;omega,hm.owed⟩,hs,b1,b2⟩,by omega,by omega⟩
 by_cases k2:ac l q 6 = 2
 ·refine dN ?_
  conv=>whnf
  refine g 0 0 []<|J UB<|g 14 16 [.call (ar w) ([rdC l q])]<|J QZ<|g 16 18 []<|J QZ<|Ws<|g 18 19 [.call (V.i (ac l q 6)) ([rdC l (q+1),[]])]<|J (QA @aa)<|Wb<|g 21 22 []<|J UB<|Wc<|Jf<|g 20 21 []<|J UB<|Wc<|Jf<|g 43 44 []<|J UB<|Wc<|Kt ?_
  refine Ws<|g 62 64 []<|J UA<|Wb ?_
  refine Wl (fun s (x:Nat×List Owed×Int)=>⟨(SK s [0,2,3,4,5] [(7,.i x.1),(42,s.s 42)]),[(2,(CK s 2 0 12 [])),(3,[s.c 3 0]),(4,(CK s 4 0 17 [])),(190,[.t (u8s l),.t (.i x.2.2)]),(5,[.t (.i w.boss.workers),.t (.b w.boss.up),.t (.i w.boss.now),.t (.i w.boss.since),.t (.i w.boss.epoch),.t (.i w.boss.given),.own [false] (w.boss.log.safe.map ah),.own [false] (w.boss.log.loose.map ah),.own [false] (w.boss.results.map ah),.own dB (w.boss.jobs.map aH),.own bw (w.boss.seats.map aE),.own bx (x.2.1.map aJ)])],[]⟩) (fun(x:Nat×List Owed×Int)=>x.1≤w.boss.results.length∧x.2.1.length≤2000∧x.2.2 = q+1+x.1) (fun(x:Nat×List Owed×Int)=>w.boss.results.length - x.1) ((0,w.boss.owed,q+1)) [some 2,some 3,some 4,some 190,some 5] [] FZ ?_ ?_
  ·exact⟨Nat.zero_le _,b13,by show q+1 = q+1+ ((0:Nat):Int);omega⟩
  rintro⟨i,os,r⟩ ⟨i1,i2,i3⟩
  dsimp only at i1 i2 i3
  by_cases hi:i < w.boss.results.length
  ·obtain⟨y,hy⟩:=ae (xs:=w.boss.results) (n:=i) OM
   have p3:=ak l r 2
   conv=>whnf
   refine Ws<|g 64 68 []<|J UE<|Wc<|J (fun _=>(Wk (Ws (Wb (g 68 74 [.call (V.i (ac l r 2)) ([rdC l (r+1),[]]),.i ((2000:Int) - ac l r 2)]<|J (QA @aa) (g 0 0 []<|J UA (Wb (Wl (fun s (x:Nat×List Owed)=>⟨(SK s [0,2,3,4,5,7,8] [(9,.i (1+x.1)),(42,s.s 42)]),[(190,[s.c 190 0,s.c 190 1]),(2,(CK s 2 0 12 [])),(3,[s.c 3 0]),(4,(CK s 4 0 17 [])),(5,[.t (.i w.boss.workers),.t (.b w.boss.up),.t (.i w.boss.now),.t (.i w.boss.since),.t (.i w.boss.epoch),.t (.i w.boss.given),.own [false] (w.boss.log.safe.map ah),.own [false] (w.boss.log.loose.map ah),.own [false] (w.boss.results.map ah),.own dB (w.boss.jobs.map aH),.own bw (w.boss.seats.map aE),.own bx (x.2.map aJ)])],[]⟩) (fun(x:Nat×List Owed)=>x.2.length≤2000∧x.1≤x.2.length) (fun(x:Nat×List Owed)=>2000 - x.2.length) ((0,os)) [some 190,some 2,some 3,some 4,some 5] [] FZ ⟨by omega,by simp⟩ ?_)))))))) (noF SI)
   rintro⟨j,os2⟩ ⟨j1,j2⟩
   dsimp only at j1 j2
   by_cases hE:y = emp
   ·conv=>whnf
    refine Ws<|g 74 86 (.n (Prod.fst (i,os,r))::.x (ah y)::(RL 6 BF []))<|J QZ<|Wc<|Jr<|We<|rg [.i ((↑(Prod.fst (i,os,r)):Int) +1)]<|J QZ ?_
    refine⟨(i+1,os2,r+1),[some 2,some 3,some 4,some 190,some 5],[],FZ,?_,?_⟩
    rotate_left
    (dsimp only;omega)
    dsimp only
    omega
    all_goals first|exact⟨by omega,j1,by omega⟩|(dsimp only;omega)|omega
   ·by_cases hL:(os2.length:Int) < 2000 - ac l r 2
    ·have es:os2.map aJ++ [aJ ⟨1,1000+ (1+ (j:Int)),i⟩] = (os2++ [(⟨1,1000+ (1+ (j:Int)),(i:Int)⟩:Owed)]).map aJ:=by rw[List.map_append];rfl
     conv=>whnf
     refine Ws<|g 74 86 (.n (Prod.fst (i,os,r))::.x (ah y)::(RL 6 BT []))<|J QZ<|Wc<|J (fun _=>(Wk (Ws (Wb (rg [.i (1000+ (1+ (↑(Prod.fst (j,os2)):Int)))]<|J QZ (rg [.i (1+ (↑(Prod.fst (j,os2)):Int) +1)]<|J QZ ?_)))))) (noF (by simp_all))
     refine⟨(j+1,os2++ [(⟨1,1000+ (1+ (j:Int)),(i:Int)⟩:Owed)]),[some 190,some 2,some 3,some 4,some 5],[],⟨rfl,FZ,⟨FZ,⟨FZ,⟨FZ,⟨FZ,⟨(R12 ⟨(congrArg (V.own _) (es)),I⟩),I⟩⟩⟩⟩⟩,I⟩,?_,?_⟩
     rotate_left
     rotate_right 1
     dsimp only
     all_goals first|exact⟨by rw[List.length_append,List.length_singleton];omega,by rw[List.length_append,List.length_singleton];omega⟩|(simp only[List.length_append,List.length_singleton];omega)|(dsimp only;omega)|omega
    ·conv=>whnf
     refine Ws<|g 74 86 (.n (Prod.fst (i,os,r))::.x (ah y)::(RL 6 BT []))<|J QZ<|Wc<|J (noT (by simp_all)) fun _=>We<|rg [.i ((↑(Prod.fst (i,os,r)):Int) +1)]<|J QZ ?_
     refine⟨(i+1,os2,r+1),[some 2,some 3,some 4,some 190,some 5],[],FZ,?_,?_⟩
     rotate_left
     (dsimp only;omega)
     dsimp only
     omega
     all_goals first|exact⟨by omega,j1,by omega⟩|(dsimp only;omega)|omega
  ·conv=>whnf
   refine Ws<|g 64 68 []<|J UE<|Wc<|J (noT SI) fun _=>We<|gd 68 101 [[],[],[],[],[]] ?_
   conv=>whnf
   refine J QZ<|J KR<|W.ret<|EndsW.rt<|J QZ ?_
   exact⟨⟨w.boss.workers,w.boss.up,w.boss.now,w.boss.since,w.boss.epoch,w.boss.given,⟨w.boss.log.safe,w.boss.log.loose⟩,w.boss.results,w.boss.jobs,w.boss.seats,os⟩,w.plan,r,rfl,rfl,⟨⟨hm.safe,hm.loose,hm.all,hm.res,hm.jobs,hm.seats,by show os.length≤4000;omega⟩,hs,b1,b2⟩,by omega,by omega⟩
 by_cases k3:ac l q 6 = 3
 ·by_cases hup:w.boss.up = true
  ·refine dN ?_
   conv=>whnf
   refine g 0 0 []<|J UB<|g 14 16 [.call (ar w) ([rdC l q])]<|J QZ<|g 16 18 []<|J QZ<|Ws<|g 18 19 [.call (V.i (ac l q 6)) ([rdC l (q+1),[]])]<|J (QA @aa)<|Wb<|g 21 22 []<|J UB<|Wc<|Jf<|g 20 21 []<|J UB<|Wc<|Jf<|g 43 44 []<|J UB<|Wc<|Jf ?_
   refine g 62 64 []<|J UB<|Wc<|Kt (Ws (g 101 104 []<|J UB (Wc<|J (fun _=>(rg [.call (V.i (ac l (q+1) 2)) ([rdC l (q+1+1),[]]),.i ((1000000:Int) - ac l (q+1) 2)]<|J (QA @aa) (gd 104 112 [[],[],[],[],[]] ?_))) (noF AS))))
   conv=>whnf
   refine⟨⟨I,I,I,UL,UA,I⟩,by kernel_rfl,?_⟩
   refine W.ret<|EndsW.rt<|J QZ ?_
   exact⟨⟨w.boss.workers,w.boss.up,w.boss.now,w.boss.since,w.boss.epoch,1000000 - ac l (q+1) 2,⟨w.boss.log.safe,w.boss.log.loose⟩,w.boss.results,w.boss.jobs,w.boss.seats,w.boss.owed⟩,w.plan,_,rfl,rfl,⟨⟨hm.safe,hm.loose,hm.all,hm.res,hm.jobs,hm.seats,hm.owed⟩,hs,b1,b2⟩,by omega,by omega⟩
  ·refine dN ?_
   conv=>whnf
   refine g 0 0 []<|J UB<|g 14 16 [.call (ar w) ([rdC l q])]<|J QZ<|g 16 18 []<|J QZ<|Ws<|g 18 19 [.call (V.i (ac l q 6)) ([rdC l (q+1),[]])]<|J (QA @aa)<|Wb<|g 21 22 []<|J UB<|Wc<|Jf<|g 20 21 []<|J UB<|Wc<|Jf<|g 43 44 []<|J UB<|Wc<|Jf ?_
   refine g 62 64 []<|J UB<|Wc<|Kt (Ws (g 101 104 []<|J UB (Wc<|J (noT SI) fun _=>(Wk (gd 104 112 [[],[],[],[],[]] ?_)))))
   conv=>whnf
   refine⟨⟨I,I,I,UL,UA,I⟩,by kernel_rfl,?_⟩
   refine W.ret<|EndsW.rt<|J QZ ?_
   exact⟨w.boss,w.plan,_,rfl,rfl,⟨hm,hs,b1,b2⟩,by omega,by omega⟩
 by_cases k4:ac l q 6 = 4
 ·refine dN ?_
  conv=>whnf
  refine g 0 0 []<|J UB<|g 14 16 [.call (ar w) ([rdC l q])]<|J QZ<|g 16 18 []<|J QZ<|Ws<|g 18 19 [.call (V.i (ac l q 6)) ([rdC l (q+1),[]])]<|J (QA @aa)<|Wb<|g 21 22 []<|J UB<|Wc<|Jf<|g 20 21 []<|J UB<|Wc<|Jf<|g 43 44 []<|J UB<|Wc<|Jf ?_
  refine g 62 64 []<|J UB<|Wc<|Jf<|g 101 103 []<|J UB<|Wc<|Kt (g 112 118 [.call (V.i (ac l (q+1) 2)) ([rdC l (q+1+1),[]]),.i ((1000000:Int) - ac l (q+1) 2)]<|J (QA @aa) (Ws (g 19 20 []<|J UA (Wb (Wl (fun s (x:Nat×List Job)=>⟨(SK s [0,2,3,4,5] [(10,.i x.1),(42,s.s 42)]),[(190,[s.c 190 0,s.c 190 1]),(2,(CK s 2 0 12 [])),(3,[s.c 3 0]),(4,(CK s 4 0 17 [])),(5,[.t (.i w.boss.workers),.t (.b w.boss.up),.t (.i (1000000 - ac l (q+1) 2)),.t (.i w.boss.since),.t (.i w.boss.epoch),.t (.i w.boss.given),.own [false] (w.boss.log.safe.map ah),.own [false] (w.boss.log.loose.map ah),.own [false] (w.boss.results.map ah),.own dB (x.2.map aH),.own bw (w.boss.seats.map aE),.own bx (w.boss.owed.map aJ)])],[]⟩) (fun(x:Nat×List Job)=>x.1≤w.boss.jobs.length∧x.2.length = w.boss.jobs.length) (fun(x:Nat×List Job)=>w.boss.jobs.length - x.1) ((0,w.boss.jobs)) [some 190,some 2,some 3,some 4,some 5] [] FZ (by simp) ?_)))))
  rintro⟨i,js⟩ ⟨i1,i2⟩
  dsimp only at i1 i2
  by_cases hi:i < w.boss.jobs.length
  ·obtain⟨x,hx⟩:=ae (xs:=js) (n:=i) OM
   have es:(js.map aH).set i (aH fA) = (js.set i fA).map aH:=by rw[←List.map_set]
   conv=>whnf
   refine Ws<|g 118 122 []<|J UE<|Wc<|J (fun _=>(Wk (Ws (Wb (rg [.n (Prod.fst (i,js)),.x (aH x)]<|J QZ (rg [.i ((↑(Prod.fst (i,js)):Int) +1)]<|J QZ ?_)))))) (noF SI)
   refine⟨(i+1,js.set i fA),[some 190,some 2,some 3,some 4,some 5],[],⟨rfl,FZ,⟨FZ,⟨FZ,⟨FZ,⟨FZ,⟨(R10 ⟨(congrArg (V.own _) (es)),FZ⟩),I⟩⟩⟩⟩⟩,I⟩,?_,?_⟩
   rotate_left
   (dsimp only;omega)
   dsimp only
   all_goals first|exact⟨by omega,by rw[List.length_set];exact i2⟩|(dsimp only;omega)|omega
  ·conv=>whnf
   refine Ws<|g 118 122 []<|J UE<|Wc<|J (noT SI) fun _=>We<|gd 122 133 [[],[],[],[],[]] ?_
   conv=>whnf
   refine J QZ<|J KR<|W.ret<|EndsW.rt<|J QZ ?_
   exact⟨⟨w.boss.workers,w.boss.up,1000000 - ac l (q+1) 2,w.boss.since,w.boss.epoch,w.boss.given,⟨w.boss.log.safe,w.boss.log.loose⟩,w.boss.results,js,w.boss.seats,w.boss.owed⟩,w.plan,_,rfl,rfl,⟨⟨hm.safe,hm.loose,hm.all,hm.res,by show js.length≤100;omega,hm.seats,hm.owed⟩,hs,b1,b2⟩,by omega,by omega⟩
 have ce:=n8 299 OM
 have ce2:F nT [.val (.i 299)] (.own [false] ((bu 299).map ah)) O1:=ce
 have hel:=kV 299
 have hf12:=pA 12
 have hpw:dl ⟨fu 12⟩:=pS uJ
 have hDa:∀ s∈bu 299++ [],s.size≤12:=fun s q=>by rw[List.append_nil]at q;exact x7 q
 have hD:BossTight IQ:=⟨⟨by show(0:Int)≤2;omega,by show(2:Int)≤8;omega⟩,⟨by show(0:Int)≤3;omega,by show(3:Int)≤1000000;omega⟩,⟨Int.le_refl _,by show(0:Int)≤300;omega⟩,by show(bu 299).length≤310;omega,Nat.zero_le _,hDa,Nat.zero_le _,Nat.zero_le _,Nat.zero_le _,Nat.zero_le _⟩
 have hR:=yl ⟨fu 12⟩ hD
 have cb0:=ju IQ ⟨fu 12⟩ (IE (gq hpw)) (pL hD)
 have hrl:(jZ IQ ⟨fu 12⟩).results.length = 12:=by
  rw[Qu]
  show(ax ⟨fu 12⟩ (bu 299)).results.length = 12
  rw[(lG (p:=⟨fu 12⟩) uJ 299 OM).2.2,List.length_replicate,pA]
 generalize jZ IQ ⟨fu 12⟩ = bb at cb0 hR hrl
 have cb:F jq [.val (.agg [.t (.i 2),.t (.b false),.t (.i 3),.t (.i 0),.t (.i 0),.t (.i 0),.t (.slc [false] ((bu 299).map ah)),.t (.slc [false] []),.t (.slc [false] []),.t (.slc dB []),.t (.slc bw []),.t (.slc bx [])]),.val (.agg [.t (.slc cI ((fu 12).map ay))])] (aF bb) O2:=cb0
 clear cb0
 obtain⟨⟨c1,c2⟩,⟨c3,c4⟩,⟨c5,c6⟩,c7,c8,c9,c10,c11,c12,c13⟩:=hR
 refine dN ?_
 conv=>whnf
 refine g 0 0 []<|J UB<|g 14 16 [.call (ar w) ([rdC l q])]<|J QZ<|g 16 18 []<|J QZ<|Ws<|g 18 19 [.call (V.i (ac l q 6)) ([rdC l (q+1),[]])]<|J (QA @aa)<|Wb<|g 21 22 []<|J UB<|Wc<|Jf<|g 20 21 []<|J UB<|Wc<|Jf<|g 43 44 []<|J UB<|Wc<|Jf ?_
 refine g 62 64 []<|J UB<|Wc<|Jf<|g 101 103 []<|J UB<|Wc<|Jf<|Wk<|g 112 134 []<|J QZ<|Ws<|g 4 5 []<|J UA<|Wb<|Wl (fun s (i:Nat)=>⟨(SK s [0,2,3,5,11] [(12,.i i),(42,s.s 42)]),[(190,[s.c 190 0,s.c 190 1]),(2,(CK s 2 0 12 [])),(3,[s.c 3 0]),(5,(CK s 5 0 12 [])),(11,[.own cI ((fu i).map ay)])],[]⟩) (fun(i:Nat)=>i≤12) (fun(i:Nat)=>12 - i) (0) [some 190,some 2,some 3,some 5,some 11] [] FZ OM ?_
 intro i hi
 by_cases hi2:i < 12
 ·have cd:=gf i OM OM
  have hds:=fK i
  have es:=MY i
  have hfl:=pA i
  conv=>whnf
  refine Ws<|g 134 135 []<|J UB<|Wc<|Kt (Wk (Ws (Wb (rgd [[],[],[],[.call (V.s (dS (i:Int))) O1],[.s ({data:=#[(102:UInt8),(117:UInt8),(108:UInt8),(108:UInt8)]:ByteArray} ++dS (i:Int))],[],[],[],[],[]] ?_))))
  conv=>whnf
  refine⟨⟨I,I,I,Zan,⟨rfl,(by simp only[bsz,bsa,ByteArray.size_append,List.size_toArray,ka];omega)⟩,I,⟨UC,I⟩,Zap,I,UA,I⟩,by kernel_rfl,?_⟩
  refine rg [.i ((i:Int) +1)]<|J QZ ?_
  refine⟨i+1,[some 190,some 2,some 3,some 5,some 11],[],⟨rfl,FZ,⟨FZ,⟨FZ,⟨FZ,⟨FZ,⟨⟨rfl,⟨(congrArg (V.own _) (es)),I⟩⟩,I⟩⟩⟩⟩⟩,I⟩,?_,?_⟩
  rotate_left
  (dsimp only;omega)
  dsimp only
  omega
 obtain rfl:i = 12:=by omega
 conv=>whnf
 refine Ws<|g 134 135 []<|J UB<|Wc<|Jr<|We<|gd 135 152 [[.call (V.own [false] (List.map ah (bu 299))) O1],[],[],[],[.call (aF bb) O2],[]] ?_
 conv=>whnf
 refine J QZ<|J KR<|Ws<|g 12 13 []<|J UA<|Wb ?_
 refine Wl (fun s (x:Nat×List ByteArray×List ByteArray×Int)=>⟨(SK s [0,2,3,5,11] [(13,.i x.1),(42,s.s 42)]),[(2,(CK s 2 0 12 [])),(3,[s.c 3 0]),(11,[s.c 11 0]),(190,[.t (u8s l),.t (.i x.2.2.2)]),(5,[.t (.i bb.workers),.t (.b bb.up),.t (.i bb.now),.t (.i bb.since),.t (.i bb.epoch),.t (.i bb.given),.own [false] (bb.log.safe.map ah),.own [false] (x.2.2.1.map ah),.own [false] (x.2.1.map ah),.own dB (bb.jobs.map aH),.own bw (bb.seats.map aE),.own bx (bb.owed.map aJ)])],[]⟩) (fun(x:Nat×List ByteArray×List ByteArray×Int)=>x.1≤10∧x.2.1.length = 12∧x.2.2.1.length≤bb.log.loose.length+x.1∧(∀ s∈x.2.2.1,s.size≤12)∧x.2.2.2 = q+1+x.1) (fun(x:Nat×List ByteArray×List ByteArray×Int)=>10 - x.1) ((0,bb.results,bb.log.loose,q+1)) [some 2,some 3,some 11,some 190,some 5] [] FZ ?_ ?_
 ·exact⟨by dsimp only;omega,hrl,by dsimp only;omega,fun s q=>c9 s (List.mem_append_right _ q),by show q+1 = q+1+ ((0:Nat):Int);omega⟩
 rintro⟨i,rs,lo,r⟩ ⟨i1,i2,i3,i4,i5⟩
 dsimp only at i1 i2 i3 i4 i5
 have p3:=ak l r 2
 by_cases hi:(i:Int) < 10 - ac l r 2
 ·obtain⟨y,hy⟩:=ae (xs:=rs) (n:=i) OM
  have hg:(fu 12)[i]? = some ⟨fL i,1,[]⟩:=CR OM
  have cv:F tP [.val (.s (fL i)),.val (.t (.slc [false] []))] (.s (bG (fL i) [])) O2:=jW (fL i) [] (by have:=fK (i:Int);unfold fL;rw[ByteArray.size_append];have e:(⟨#[102,117,108,108]⟩:ByteArray).size = 4:=rfl;omega) (Nat.zero_le _) (by decide) (by intro s hs;cases hs)
  have hvs:=oM (fL i) []
  have cf:=dq 2 bb.epoch i (bG (fL i) []) OM
  have hfs:=iZ ⟨2,bb.epoch,i,bG (fL i) []⟩
  dsimp only at hfs
  have e1:(rs.map ah).set i (ah (bG (fL i) [])) = (rs.set i (bG (fL i) [])).map ah:=by rw[←List.map_set]
  have e2:(rs.set i (bG (fL i) []))[i]? = some (bG (fL i) []):=List.getElem?_set_self OM
  have e3:=To lo (bW ⟨2,bb.epoch,i,bG (fL i) []⟩)
  have e4:=uG lo (bW ⟨2,bb.epoch,i,bG (fL i) []⟩)
  have a1:=C2 i4 (y:=bW ⟨2,bb.epoch,i,bG (fL i) []⟩) OM
  generalize bG (fL i) [] = vv at cv hvs cf hfs e1 e2 e3 e4 a1
  conv=>whnf
  refine Ws<|g 152 156 [.call (V.i (ac l r 2)) ([rdC l (r+1),[]]),.i ((10:Int) - ac l r 2)]<|J (QA @aa)<|Wc<|Kt (Wk (Ws (Wb (gd 156 171 [[],[],[],[],[],[],[.n (Prod.fst (i,rs,lo,r))],[],[.x (ay {name:=fL i,cost:=1,deps:=[]:Task})],[],[.call (V.s vv) O2],[.n (Prod.fst (i,rs,lo,r))],[.x (ah y)]] ?_))))
  conv=>whnf
  refine⟨⟨I,I,I,I,I,I,Zao,I,xA,I,⟨UB,I,UT,UA,AS⟩,Zao,⟨UA,xA⟩,I⟩,by kernel_rfl,?_⟩
  refine rgd [[],[],[],[],[],[],[],[],[],[.n (Prod.fst (i,rs,lo,r))],[.x (aM (ah y) 0 [T.v (Value.string vv)])],[],[.call (V.s (bW {kind:=2,epoch:=bb.epoch,task:=(i:Int),text:=vv:Entry})) O1],[],[],[],[],[]] ?_
  conv=>whnf
  refine J QZ<|J KR<|rg [.i ((↑(Prod.fst (i,rs,lo,r)):Int) +1)]<|J QZ ?_
  refine⟨(i+1,rs.set i vv,lo++ [bW ⟨2,bb.epoch,i,vv⟩],r+1),[some 2,some 3,some 11,some 190,some 5],[],⟨rfl,FZ,⟨FZ,⟨FZ,⟨FZ,⟨FZ,⟨(R8 ⟨(congrArg (V.own _) (e3)),⟨(congrArg (V.own _) (e1)),FZ⟩⟩),I⟩⟩⟩⟩⟩,I⟩,?_,?_⟩
  rotate_left
  (dsimp only;omega)
  dsimp only
  all_goals first|exact⟨by omega,by rw[List.length_set];exact i2,by rw[e4];omega,a1,by omega⟩|(dsimp only;omega)|omega
 ·conv=>whnf
  refine Ws<|g 152 156 [.call (V.i (ac l r 2)) ([rdC l (r+1),[]]),.i ((10:Int) - ac l r 2)]<|J (QA @aa)<|Wc<|Jf<|We<|gd 5 14 [[],[],[],[]] ?_
  conv=>whnf
  refine J QZ<|J KR<|W.ret<|EndsW.rt<|J QZ ?_
  exact⟨⟨bb.workers,bb.up,bb.now,bb.since,bb.epoch,bb.given,⟨bb.log.safe,lo⟩,rs,bb.jobs,bb.seats,bb.owed⟩,⟨fu 12⟩,r+1,rfl,rfl,⟨⟨by show bb.log.safe.length≤400;omega,by show lo.length≤400;omega,fun s hs=>by
   rcases List.mem_append.1 hs with hs|hs
   ·have:=c9 s (List.mem_append_left _ hs);omega
   ·have:=i4 s hs;omega,by show rs.length≤100;omega,by show bb.jobs.length≤100;omega,by show bb.seats.length≤100;omega,by show bb.owed.length≤4000;omega⟩,hpw,c1,c2⟩,by omega,by omega⟩
theorem CW(l:List Int)(pos:Int)(h:dM l∧0≤pos∧pos≤800000):∃ x:(Boss×Plan)×Int,F lJ [.ptr (rdC l pos)] (.tup [aF x.1.1,eH x.1.2]) [rdC l x.2]∧EdgeOk x.1.1 x.1.2∧pos≤x.2∧x.2≤pos+6000:=by
 obtain⟨res,outs,⟨b,p,pos2,rfl,rfl,h1,h2,h3⟩,hF⟩:=X2 l pos h.1 h.2.1 h.2.2
 exact⟨((b,p),pos2),hF,h1,h2,h3⟩
open Classical in
noncomputable def qi(l:List Int)(pos:Int):(Boss×Plan)×Int:=if h:dM l∧0≤pos∧pos≤800000 then(CW l pos h).choose else((iT,⟨[]⟩),pos)
theorem EJ(l:List Int)(pos:Int)(hl:dM l)(h0:0≤pos)(h1:pos≤800000):F lJ [.ptr (rdC l pos)] (.tup [aF (qi l pos).1.1,eH (qi l pos).1.2]) [rdC l (qi l pos).2]:=by
 have h:dM l∧0≤pos∧pos≤800000:=⟨hl,h0,h1⟩
 rw[qi,dif_pos h]
 exact(CW l pos h).choose_spec.1
theorem X5(l:List Int)(pos:Int):EdgeOk (qi l pos).1.1 (qi l pos).1.2∧pos≤(qi l pos).2∧(qi l pos).2≤pos+6000:=by
 unfold qi
 split
 ·rename_i h;exact(CW l pos h).choose_spec.2
 ·exact⟨⟨kB (iY (w:=noWorld) (.inr rfl)),no_dolim.small,Int.le_refl _,by show(0:Int)≤8;omega⟩,Int.le_refl _,by dsimp only;omega⟩
end Go.K
end
section
open Go Go.Tm Go.Proofs
namespace Go.K
theorem Lk(m:Message)(key:ByteArray):(dY m key).size≤500:=by
 by_cases h:bN m
 ·exact pb h
 ·have e:dY m key = emp:=if_neg fun q=>h q.1
  rw[e];decide
def wasB:ByteArray:=⟨#[119,97,115]⟩
theorem QI(l:List Int)(pos:Int)(hl:dM l)(h0:0≤pos)(h1:pos≤700000):∃ res outs,(∃ (v:World) (pos2:Int),res = ar v∧outs = [rdC l pos2]∧AnyW v∧pos≤pos2∧pos2≤pos+12000)∧F Dl [.ptr (rdC l pos)] res outs:=by
 have cr:=iE l pos hl OM OM
 obtain⟨g1,_,g3,g4⟩:=CJ l pos
 generalize(iK l pos).1 = w at cr g1
 generalize(iK l pos).2 = q at cr g3 g4
 have ha:=CQ g1
 have hd:=bO g1
 have hwl:=hd.wl
 have hfl:=hd.fl
 have p5:=ak l q 5
 by_cases k0:ac l q 5 = 0
 ·refine fv ?_
  conv=>whnf
  refine g 0 0 []<|J UA<|g 10 12 [.call (ar w) ([rdC l q])]<|J QZ<|Ws<|g 12 13 [.call (V.i (ac l q 5)) ([rdC l (q+1),[]])]<|J (QA @aa)<|Wb<|g 36 37 []<|J UB<|Wc<|Kt (g 13 36 []<|J UA (Wb (Wd (lo:=10) (hi:=140) ?_)))
  conv=>whnf
  refine Wl (fun s (x:Nat×List Parcel×Int)=>⟨(SK s [0,2,3] [(4,.i x.1)]),[(2,(CK s 2 0 17 [])),(141,[.t (u8s l),.t (.i x.2.2)]),(3,[.own cI (w.plan.tasks.map ay),.t (.s w.key),.t (.i w.boss.workers),.t (.b w.boss.up),.t (.i w.boss.now),.t (.i w.boss.since),.t (.i w.boss.epoch),.t (.i w.boss.given),.own [false] (w.boss.log.safe.map ah),.own [false] (w.boss.log.loose.map ah),.own [false] (w.boss.results.map ah),.own dB (w.boss.jobs.map aH),.own bw (w.boss.seats.map aE),.own bx (w.boss.owed.map aJ),.own bB ((w.workers).map ag),.own pkd ((x.2.1).map aY),.t (.s w.forged)])],[]⟩) (fun(x:Nat×List Parcel×Int)=>x.1≤2∧x.2.1.length≤2000+x.1∧(∀ s∈x.2.1,s.frm.size≤5000∧s.text.size≤5000)∧q+1≤x.2.2∧x.2.2≤q+1+x.1) (fun(x:Nat×List Parcel×Int)=>2 - x.1) ((0,w.flight,q+1)) [some 2,some 141,some 3] [] FZ ?_ ?_
  ·exact⟨by omega,by dsimp only;omega,ha.fs,Int.le_refl _,by dsimp only;omega⟩
  rintro⟨n,fl,r⟩ ⟨i1,i2,i3,i4,i5⟩
  dsimp only at i1 i2 i3 i4 i5
  by_cases hn:n < 2
  ·have cb:=dZ l r hl OM OM
   have hts:=ef (dS (ac l r 50))
   generalize qp (dS (ac l r 50)) = tx at cb hts
   have cf:=dX ⟨3,1,0,1,1+ (n:Int),0,tx,[]⟩ w.key (Nat.zero_le _)
   have hfs:=Lk ⟨3,1,0,1,1+ (n:Int),0,tx,[]⟩ w.key
   generalize dY ⟨3,1,0,1,1+ (n:Int),0,tx,[]⟩ w.key = fs at cf hfs
   have ec:[aY ⟨0,wasB,fs⟩] ++fl.map aY = ((⟨0,wasB,fs⟩ :: fl:List Parcel)).map aY:=rfl
   have ew:wasB.size = 3:=rfl
   conv=>whnf
   refine Ws<|g 37 38 []<|J UB<|Wc<|Kt (Wk (Ws (Wb (g 38 46 [.i (1+ (↑(Prod.fst (n,fl,r)):Int)),.call (V.s tx) ([rdC l (r+1)])]<|J QZ (rgd [[],[],[],[.call (V.s fs) O2],[],[],[],[],[],[],[]] ?_)))))
   conv=>whnf
   refine⟨⟨I,I,I,⟨UB,I,⟨UH,UA,I⟩,UA,AS⟩,I,⟨UC,I⟩,I,I,Zap,I,UA,I⟩,by kernel_rfl,?_⟩
   refine rg [.i ((↑(Prod.fst (n,fl,r)):Int) +1)]<|J QZ ?_
   refine⟨(n+1,⟨0,wasB,fs⟩ :: fl,r+1),[some 2,some 141,some 3],[],FZ,?_,?_⟩
   rotate_left
   (dsimp only;omega)
   dsimp only
   refine⟨by omega,by simp only[List.length_cons];omega,fun s hs=>?_,by first|omega|(dsimp only;omega),by first|omega|(dsimp only;omega)⟩
   rcases List.mem_cons.1 hs with rfl|hs
   ·dsimp only;omega
   ·exact i3 s hs
  ·conv=>whnf
   refine Ws<|g 37 38 []<|J UB<|Wc<|Jf<|We<|g 3 141 []<|J QZ<|W.ret<|EndsW.rt<|J UR ?_
   exact⟨⟨w.plan,w.key,w.boss,w.workers,fl,w.forged⟩,r,rfl,rfl,⟨ha.plan,ha.boss,ha.key,ha.wl,ha.wi,by dsimp only;omega,i3⟩,by omega,by omega⟩
 by_cases k1:ac l q 5 = 1
 ·have ce:=EJ l (q+1) hl OM OM
  obtain⟨⟨e1,e2,e3⟩,e4,e5⟩:=X5 l (q+1)
  generalize(qi l (q+1)).1.1 = b at ce e1 e3
  generalize(qi l (q+1)).1.2 = p at ce e2
  generalize(qi l (q+1)).2 = r at ce e4 e5
  refine fv ?_
  conv=>whnf
  refine g 0 0 []<|J UA<|g 10 12 [.call (ar w) ([rdC l q])]<|J QZ<|Ws<|g 12 13 [.call (V.i (ac l q 5)) ([rdC l (q+1),[]])]<|J (QA @aa)<|Wb<|g 36 37 []<|J UB<|Wc<|Jf<|g 35 36 []<|J UB<|Wc<|Kt (g 13 63 [.call (V.tup [aF b,eH p]) ([rdC l r])]<|J QZ (g 7 65 []<|J QZ (g 65 67 []<|J QZ ?_)))
  refine Ws<|Wb<|Wd (lo:=10) (hi:=140) ?_
  conv=>whnf
  refine Wl (fun s (ws:List Worker)=>⟨(SK s [0,2,3,6] []),[(141,[s.c 141 0,s.c 141 1]),(2,(CK s 2 0 17 [])),(6,(CK s 6 0 12 [])),(3,[.own cI (p.tasks.map ay),.t (.s w.key),.t (.i b.workers),.t (.b b.up),.t (.i b.now),.t (.i b.since),.t (.i b.epoch),.t (.i b.given),.own [false] (b.log.safe.map ah),.own [false] (b.log.loose.map ah),.own [false] (b.results.map ah),.own dB (b.jobs.map aH),.own bw (b.seats.map aE),.own bx (b.owed.map aJ),.own bB ((ws).map ag),.own pkd ((w.flight).map aY),.t (.s w.forged)])],[]⟩) (fun(ws:List Worker)=>ws.length≤8∧(∀ s∈ws,s.inputs.length≤100)) (fun(ws:List Worker)=>8 - ws.length) (w.workers) [some 141,some 2,some 6,some 3] [] FZ ?_ ?_
  ·exact⟨hwl,ha.wi⟩
  rintro ws ⟨i1,i2⟩
  by_cases hn:(ws.length:Int) < b.workers
  ·have es:ws.map ag++ [ag ⟨((ws.map ag).length:Int) +1,1,false,0,0,0,0,0,[],emp,0⟩] = (ws++ [(⟨(ws.length:Int) +1,1,false,0,0,0,0,0,[],emp,0⟩:Worker)]).map ag:=by rw[List.map_append,List.length_map];rfl
   have el:(ws++ [(⟨(ws.length:Int) +1,1,false,0,0,0,0,0,[],emp,0⟩:Worker)]).length = ws.length+1:=by rw[List.length_append];rfl
   conv=>whnf
   refine Ws<|g 67 72 []<|J UF<|Wc<|J (fun _=>(Wk (Wb (rg [.i ((↑(List.length (List.map ag ws)):Int) +1)]<|J QZ ?_)))) (noF SI)
   refine⟨ws++ [(⟨(ws.length:Int) +1,1,false,0,0,0,0,0,[],emp,0⟩:Worker)],[some 141,some 2,some 6,some 3],[],⟨rfl,FZ,⟨FZ,⟨FZ,⟨FZ,⟨(R15 ⟨(congrArg (V.own _) (es)),FZ⟩),I⟩⟩⟩⟩,I⟩,?_,?_⟩
   rotate_left
   (dsimp only;omega)
   dsimp only
   refine⟨by omega,fun s hs=>?_⟩
   rcases List.mem_append.1 hs with hs|hs
   ·exact i2 s hs
   ·rw[List.mem_singleton.1 hs];exact Nat.zero_le _
  ·conv=>whnf
   refine Ws<|g 67 72 []<|J UF<|Wc<|J (noT SI) fun _=>We<|rg [.n (Int.toNat b.workers)]<|J QZ<|g 3 141 []<|J QZ<|W.ret<|EndsW.rt<|J UR ?_
   exact⟨⟨p,w.key,b,ws.take b.workers.toNat,w.flight,w.forged⟩,r,HS (by rw[List.drop_zero,List.map_take]),rfl,⟨gq e2,e1,ha.key,by show(ws.take b.workers.toNat).length≤9;rw[List.length_take];omega,fun s hs=>i2 s (List.mem_of_mem_take hs),ha.fl,ha.fs⟩,by omega,by omega⟩
 by_cases k2:ac l q 5 = 2
 ·refine fv ?_
  conv=>whnf
  refine g 0 0 []<|J UA<|g 10 12 [.call (ar w) ([rdC l q])]<|J QZ<|Ws<|g 12 13 [.call (V.i (ac l q 5)) ([rdC l (q+1),[]])]<|J (QA @aa)<|Wb<|g 36 37 []<|J UB<|Wc<|Jf<|g 35 36 []<|J UB<|Wc<|Jf<|g 56 58 []<|J UB<|Wc<|Kt (g 13 91 []<|J UA ?_)
  refine Wb<|Wd (lo:=10) (hi:=140) ?_
  conv=>whnf
  refine Wl (fun s (x:Nat×List Worker×Int)=>⟨(SK s [0,2,3] [(8,.i x.1)]),[(2,(CK s 2 0 17 [])),(141,[.t (u8s l),.t (.i x.2.2)]),(3,[.own cI (w.plan.tasks.map ay),.t (.s w.key),.t (.i w.boss.workers),.t (.b w.boss.up),.t (.i w.boss.now),.t (.i w.boss.since),.t (.i w.boss.epoch),.t (.i w.boss.given),.own [false] (w.boss.log.safe.map ah),.own [false] (w.boss.log.loose.map ah),.own [false] (w.boss.results.map ah),.own dB (w.boss.jobs.map aH),.own bw (w.boss.seats.map aE),.own bx (w.boss.owed.map aJ),.own bB ((x.2.1).map ag),.own pkd ((w.flight).map aY),.t (.s w.forged)])],[]⟩) (fun(x:Nat×List Worker×Int)=>x.1≤w.workers.length∧x.2.1.length = w.workers.length∧(∀ s∈x.2.1,s.inputs.length≤100)∧q+1≤x.2.2∧x.2.2≤q+1+2 * x.1) (fun(x:Nat×List Worker×Int)=>w.workers.length - x.1) ((0,w.workers,q+1)) [some 2,some 141,some 3] [] FZ ?_ ?_
  ·exact⟨by omega,rfl,ha.wi,Int.le_refl _,by dsimp only;omega⟩
  rintro⟨n,ws,r⟩ ⟨i1,i2,i3,i4,i5⟩
  dsimp only at i1 i2 i3 i4 i5
  by_cases hn:n < ws.length
  ·obtain⟨x,hx⟩:=ae hn
   have hxi:=i3 x (List.mem_of_getElem? hx)
   have p2:=ak l r 2
   have p3:=ak l (r+1) 2
   have hyl:(mM ⟨x.number,300 - ac l r 2,x.up,x.state,x.lease,x.task,x.cost,x.left,x.inputs,x.text,x.since⟩).inputs.length≤100:=by
    unfold mM;split
    ·exact Nat.zero_le _
    ·exact Nat.zero_le _
   have cw:=lj ⟨x.number,300 - ac l r 2,x.up,x.state,x.lease,x.task,x.cost,x.left,x.inputs,x.text,x.since⟩ (by dsimp only;omega)
   generalize mM ⟨x.number,300 - ac l r 2,x.up,x.state,x.lease,x.task,x.cost,x.left,x.inputs,x.text,x.since⟩ = y at hyl cw
   have es:(ws.map ag).set n (ag y) = (ws.set n y).map ag:=gj
   have es2:(ws.map ag).set n (ag ⟨x.number,300 - ac l r 2,x.up,x.state,x.lease,x.task,x.cost,x.left,x.inputs,x.text,x.since⟩) = (ws.set n ⟨x.number,300 - ac l r 2,x.up,x.state,x.lease,x.task,x.cost,x.left,x.inputs,x.text,x.since⟩).map ag:=gj
   by_cases k9:ac l (r+1) 2 = 0
   ·conv=>whnf
    refine Ws<|g 91 95 []<|J UE<|Wc<|J (fun _=>(Wk (Ws (Wb (gd 95 106 [[],[],[],[],[.call (V.i (ac l r 2)) ([rdC l (r+1),[]])],[.i ((300:Int) - ac l r 2)],[.n (Prod.fst (n,ws,r))],[],[.x (ag x)]] ?_))))) (noF (by simp_all))
    conv=>whnf
    refine⟨⟨I,I,I,I,⟨UB,I,UV,UA,aa _ _ _ OX OX OX OX⟩,wO,Zao,I,⟨UA,xA⟩,I⟩,by kernel_rfl,?_⟩
    refine g 106 108 [.call (V.i (ac l (r+1) 2)) ([rdC l (r+1+1),[]])]<|J (QA @aa)<|Wc<|Kt (rgd [[],[],[],[],[],[],[.n (Prod.fst (n,ws,r))],[.x (aM (ag x) (0+1) [T.v (Value.int IntKind.i64 ((300:Int) - ac l r 2))])],[.x (aM (ag x) (0+1) [T.v (Value.int IntKind.i64 ((300:Int) - ac l r 2))]),.call (aA y) O1],[.n (Prod.fst (n,ws,r))],[.x (aM (ag x) (0+1) [T.v (Value.int IntKind.i64 ((300:Int) - ac l r 2))])]] ?_)
    conv=>whnf
    refine⟨⟨I,I,I,I,I,I,Zao,jP LN,⟨UA,I,⟨⟨I,I,I,I,I,I,I,I,jP LN,I,I,I⟩,I⟩,UA,AS⟩,Zao,⟨UK,jP LN⟩,I⟩,by kernel_rfl,?_⟩
    rw[List.set_set]
    refine rg [.i ((↑(Prod.fst (n,ws,r)):Int) +1)]<|J QZ ?_
    refine⟨(n+1,ws.set n y,r+2),[some 2,some 141,some 3],[],⟨rfl,FZ,⟨FZ,⟨(R2 ⟨(congrArg (fun z=>V.t (T.v (Value.int _ z))) (by show r+1+1 = r+2;omega)),I⟩),⟨(R15 ⟨(congrArg (V.own _) (es)),FZ⟩),I⟩⟩⟩,I⟩,?_,?_⟩
    rotate_left
    (dsimp only;omega)
    dsimp only
    refine⟨by omega,by rw[List.length_set];exact i2,fun s hs=>?_,by first|omega|(dsimp only;omega),by first|omega|(dsimp only;omega)⟩
    rcases List.mem_or_eq_of_mem_set hs with hs|rfl
    ·exact i3 s hs
    ·exact hyl
   ·conv=>whnf
    refine Ws<|g 91 95 []<|J UE<|Wc<|J (fun _=>(Wk (Ws (Wb (gd 95 106 [[],[],[],[],[.call (V.i (ac l r 2)) ([rdC l (r+1),[]])],[.i ((300:Int) - ac l r 2)],[.n (Prod.fst (n,ws,r))],[],[.x (ag x)]] ?_))))) (noF (by simp_all))
    conv=>whnf
    refine⟨⟨I,I,I,I,⟨UB,I,UV,UA,aa _ _ _ OX OX OX OX⟩,wO,Zao,I,⟨UA,xA⟩,I⟩,by kernel_rfl,?_⟩
    refine g 106 108 [.call (V.i (ac l (r+1) 2)) ([rdC l (r+1+1),[]])]<|J (QA @aa)<|Wc<|Jf<|Wk<|rg [.i ((↑(Prod.fst (n,ws,r)):Int) +1)]<|J QZ ?_
    refine⟨(n+1,ws.set n ⟨x.number,300 - ac l r 2,x.up,x.state,x.lease,x.task,x.cost,x.left,x.inputs,x.text,x.since⟩,r+2),[some 2,some 141,some 3],[],⟨rfl,FZ,⟨FZ,⟨(R2 ⟨(congrArg (fun z=>V.t (T.v (Value.int _ z))) (by show r+1+1 = r+2;omega)),I⟩),⟨(R15 ⟨(congrArg (V.own _) (es2)),FZ⟩),I⟩⟩⟩,I⟩,?_,?_⟩
    rotate_left
    (dsimp only;omega)
    dsimp only
    refine⟨by omega,by rw[List.length_set];exact i2,fun s hs=>?_,by first|omega|(dsimp only;omega),by first|omega|(dsimp only;omega)⟩
    rcases List.mem_or_eq_of_mem_set hs with hs|rfl
    ·exact i3 s hs
    ·exact hxi
  ·conv=>whnf
   refine Ws<|g 91 95 []<|J UE<|Wc<|J (noT (by simp_all)) fun _=>We<|g 3 141 []<|J QZ<|W.ret<|EndsW.rt<|J UR ?_
   exact⟨⟨w.plan,w.key,w.boss,ws,w.flight,w.forged⟩,r,rfl,rfl,⟨ha.plan,ha.boss,ha.key,by dsimp only;omega,i3,ha.fl,ha.fs⟩,by omega,by omega⟩
 by_cases k3:ac l q 5 = 3
 ·by_cases kf:0 < w.flight.length
  ·obtain⟨y,hy⟩:=ae (xs:=w.flight) (n:=0) kf
   refine fv ?_
   conv=>whnf
   refine g 0 0 []<|J UA<|g 10 12 [.call (ar w) ([rdC l q])]<|J QZ<|Ws<|g 12 13 [.call (V.i (ac l q 5)) ([rdC l (q+1),[]])]<|J (QA @aa)<|Wb<|g 36 37 []<|J UB<|Wc<|Jf<|g 35 36 []<|J UB<|Wc<|Jf<|g 56 58 []<|J UB<|Wc<|Jf<|g 13 91 []<|J UB ?_
   refine Wc<|Kt (Wb (Wd (lo:=10) (hi:=140) ?_))
   conv=>whnf
   refine Wl (fun s (fl:List Parcel)=>⟨(SK s [0,2,3] []),[(141,[s.c 141 0,s.c 141 1]),(2,(CK s 2 0 17 [])),(3,[.own cI (w.plan.tasks.map ay),.t (.s w.key),.t (.i w.boss.workers),.t (.b w.boss.up),.t (.i w.boss.now),.t (.i w.boss.since),.t (.i w.boss.epoch),.t (.i w.boss.given),.own [false] (w.boss.log.safe.map ah),.own [false] (w.boss.log.loose.map ah),.own [false] (w.boss.results.map ah),.own dB (w.boss.jobs.map aH),.own bw (w.boss.seats.map aE),.own bx (w.boss.owed.map aJ),.own bB ((w.workers).map ag),.own pkd ((fl).map aY),.t (.s w.forged)])],[]⟩) (fun(fl:List Parcel)=>fl.length≤2000∧fl[0]? = some y∧(∀ s∈fl,s.frm.size≤5000∧s.text.size≤5000)) (fun(fl:List Parcel)=>2000 - fl.length) (w.flight) [some 141,some 2,some 3] [] FZ ?_ ?_
   ·exact⟨hfl,hy,ha.fs⟩
   rintro fl ⟨i1,i2,i3⟩
   have hyo:=i3 y (List.mem_of_getElem? i2)
   have hz0:0 < fl.length:=(List.getElem?_eq_some_iff.1 i2).1
   have ez:=KT fl y
   have el:(fl++ [y]).length = fl.length+1:=by rw[List.length_append];rfl
   by_cases kz:fl.length < 2000
   ·conv=>whnf
    refine Ws<|g 121 130 [BT,BT,BT,BT,BT]<|J QZ<|Wc<|JD (fun h2=>?_) fun h2=>?_
    simp only[LM]at h2
    refine Wk<|Wb<|rgd [[],[],[],[],[.n (0)],[.x (aY y)],[],[],[],[]] ?_
    conv=>whnf
    refine J QZ<|J KR ?_
    rotate_left
    simp only[LM]at h2
    omega
    refine⟨fl++ [y],[some 141,some 2,some 3],[],⟨rfl,FZ,⟨FZ,⟨FZ,⟨(R16 ⟨(congrArg (V.own _) (ez)),Zar⟩),I⟩⟩⟩,I⟩,?_,?_⟩
    rotate_left
    (dsimp only;omega)
    dsimp only
    refine⟨by omega,by rw[List.getElem?_append_left hz0];exact i2,fun s hs=>?_⟩
    rcases List.mem_append.1 hs with hs|hs
    ·exact i3 s hs
    ·rw[List.mem_singleton.1 hs];exact hyo
   ·conv=>whnf
    refine Ws<|g 121 130 [BT,BT,BT,BT,BT]<|J QZ<|Wc<|J (fun h2=>?_) fun h2=>?_
    replace h2:=dt h2
    simp only[LM]at h2
    omega
    replace h2:=df h2
    simp only[LM]at h2
    refine We<|g 3 141 []<|J QZ<|W.ret<|EndsW.rt<|J UR ?_
    exact⟨⟨w.plan,w.key,w.boss,w.workers,fl,w.forged⟩,q+1,rfl,rfl,⟨ha.plan,ha.boss,ha.key,ha.wl,ha.wi,by dsimp only;omega,i3⟩,by omega,by omega⟩
  ·refine fv ?_
   conv=>whnf
   refine g 0 0 []<|J UA<|g 10 12 [.call (ar w) ([rdC l q])]<|J QZ<|Ws<|g 12 13 [.call (V.i (ac l q 5)) ([rdC l (q+1),[]])]<|J (QA @aa)<|Wb<|g 36 37 []<|J UB<|Wc<|Jf<|g 35 36 []<|J UB<|Wc<|Jf<|g 56 58 []<|J UB<|Wc<|Jf<|g 13 91 []<|J UB ?_
   refine Wc<|Kt (Wb (Wd (lo:=10) (hi:=140) ?_))
   conv=>whnf
   refine Wl (fun s (x:Nat)=>⟨(SK s [0,2,3] []),[(141,[s.c 141 0,s.c 141 1]),(2,(CK s 2 0 17 [])),(3,(CK s 3 0 17 []))],[]⟩) (fun(x:Nat)=>x = 0) (fun(x:Nat)=>x) (0) [some 141,some 2,some 3] [] FZ OM ?_
   intro x hx
   conv=>whnf
   refine Ws<|g 121 130 [BF,BF,BF,BF,BF]<|J QZ<|Wc<|Jr<|We<|g 3 141 []<|J QZ<|W.ret<|EndsW.rt<|J UR ?_
   exact⟨w,q+1,rfl,rfl,ha,by omega,by omega⟩
 ·refine fv ?_
  conv=>whnf
  refine g 0 0 []<|J UA<|g 10 12 [.call (ar w) ([rdC l q])]<|J QZ<|Ws<|g 12 13 [.call (V.i (ac l q 5)) ([rdC l (q+1),[]])]<|J (QA @aa)<|Wb<|g 36 37 []<|J UB<|Wc<|Jf<|g 35 36 []<|J UB<|Wc<|Jf<|g 56 58 []<|J UB<|Wc<|Jf<|g 13 91 []<|J UB ?_
  refine Wc<|Jf<|g 119 121 []<|J UA<|Wb<|Wd (lo:=10) (hi:=140) ?_
  conv=>whnf
  refine Wl (fun s (x:Nat×List Worker×Int)=>⟨(SK s [0,2,3] [(9,.i x.1)]),[(2,(CK s 2 0 17 [])),(141,[.t (u8s l),.t (.i x.2.2)]),(3,[.own cI (w.plan.tasks.map ay),.t (.s w.key),.t (.i w.boss.workers),.t (.b w.boss.up),.t (.i w.boss.now),.t (.i w.boss.since),.t (.i w.boss.epoch),.t (.i w.boss.given),.own [false] (w.boss.log.safe.map ah),.own [false] (w.boss.log.loose.map ah),.own [false] (w.boss.results.map ah),.own dB (w.boss.jobs.map aH),.own bw (w.boss.seats.map aE),.own bx (w.boss.owed.map aJ),.own bB ((x.2.1).map ag),.own pkd ((w.flight).map aY),.t (.s w.forged)])],[]⟩) (fun(x:Nat×List Worker×Int)=>x.1≤w.workers.length∧x.2.1.length = w.workers.length∧(∀ s∈x.2.1,s.inputs.length≤100)∧q+1≤x.2.2∧x.2.2≤q+1+x.1) (fun(x:Nat×List Worker×Int)=>w.workers.length - x.1) ((0,w.workers,q+1)) [some 2,some 141,some 3] [] FZ ?_ ?_
  ·exact⟨by omega,rfl,ha.wi,Int.le_refl _,by dsimp only;omega⟩
  rintro⟨n,ws,r⟩ ⟨i1,i2,i3,i4,i5⟩
  dsimp only at i1 i2 i3 i4 i5
  by_cases hn:n < ws.length
  ·obtain⟨x,hx⟩:=ae hn
   have hxi:=i3 x (List.mem_of_getElem? hx)
   have p2:=ak l r 2
   by_cases k9:x.up = true
   ·have es2:(ws.map ag).set n (ag ⟨x.number,x.epoch,x.up,x.state,x.lease,x.task,x.cost,x.left,x.inputs,x.text,1000000 - ac l r 2⟩) = (ws.set n ⟨x.number,x.epoch,x.up,x.state,x.lease,x.task,x.cost,x.left,x.inputs,x.text,1000000 - ac l r 2⟩).map ag:=gj
    conv=>whnf
    refine Ws<|g 14 18 []<|J UE<|Wc<|J (fun _=>(Wk (Ws (Wb (g 18 26 [.n (Prod.fst (n,ws,r)),.x (ag x)]<|J QZ (Wc<|J (fun _=>(rgd [[],[],[],[],[.call (V.i (ac l r 2)) ([rdC l (r+1),[]])],[.i ((1000000:Int) - ac l r 2)],[.n (Prod.fst (n,ws,r))],[],[.x (ag x)]] ?_)) (noF AS))))))) (noF (by simp_all))
    conv=>whnf
    refine⟨⟨I,I,I,I,⟨UB,I,UV,UA,aa _ _ _ OX OX OX OX⟩,wO,Zao,I,⟨UA,xA⟩,I⟩,by kernel_rfl,?_⟩
    refine rg [.i ((↑(Prod.fst (n,ws,r)):Int) +1)]<|J QZ ?_
    refine⟨(n+1,ws.set n ⟨x.number,x.epoch,x.up,x.state,x.lease,x.task,x.cost,x.left,x.inputs,x.text,1000000 - ac l r 2⟩,r+1),[some 2,some 141,some 3],[],⟨rfl,FZ,⟨FZ,⟨FZ,⟨(R15 ⟨(congrArg (V.own _) (es2)),FZ⟩),I⟩⟩⟩,I⟩,?_,?_⟩
    rotate_left
    (dsimp only;omega)
    dsimp only
    refine⟨by omega,by rw[List.length_set];exact i2,fun s hs=>?_,by first|omega|(dsimp only;omega),by first|omega|(dsimp only;omega)⟩
    rcases List.mem_or_eq_of_mem_set hs with hs|rfl
    ·exact i3 s hs
    ·exact hxi
   ·conv=>whnf
    refine Ws<|g 14 18 []<|J UE<|Wc<|J (fun _=>(Wk (Ws (Wb (g 18 26 [.n (Prod.fst (n,ws,r)),.x (ag x)]<|J QZ (Wc<|J (noT SI) fun _=>(Wk (rg [.i ((↑(Prod.fst (n,ws,r)):Int) +1)]<|J QZ ?_)))))))) (noF (by simp_all))
    refine⟨(n+1,ws,r),[some 2,some 141,some 3],[],FZ,?_,?_⟩
    rotate_left
    (dsimp only;omega)
    dsimp only
    exact⟨by omega,i2,i3,i4,by omega⟩
  ·conv=>whnf
   refine Ws<|g 14 18 []<|J UE<|Wc<|J (noT (by simp_all)) fun _=>We<|g 3 141 []<|J QZ<|W.ret<|EndsW.rt<|J UR ?_
   exact⟨⟨w.plan,w.key,w.boss,ws,w.flight,w.forged⟩,r,rfl,rfl,⟨ha.plan,ha.boss,ha.key,by dsimp only;omega,i3,ha.fl,ha.fs⟩,by omega,by omega⟩
end Go.K
end
section
open Go Go.Tm Go.Proofs
namespace Go.K
theorem lk(w:World)(h:DoLim w):F tl [.val (ea w)] (ar w) O1:=by
 obtain⟨l1,l2,l3,l4,l5,l6,l7,l8⟩:=h
 have c1:=wH w.plan l2
 have c2:=Ye w.boss l3
 have c3:=dW w.flight OM
 refine tB ?_
 conv=>whnf
 refine g 0 0 []<|J QZ<|gd 6 18 [[],[],[.call (eH w.plan) O1],[],[],[.call (aF w.boss) O1],[],[],[.call (V.own pkd (List.map aY w.flight)) O1],[],[],[],[],[],[]] ?_
 conv=>whnf
 refine J QZ<|J KR<|g 18 20 []<|J UC<|g 20 21 []<|J UV<|Ws<|g 3 4 []<|J UC<|Wb<|Wl (fun s (n:Nat)=>⟨(SK s [0,1,2,21,22] [(23,.i n)]),[(2,(CK s 2 0 17 [])),(1,[.own cI (w.plan.tasks.map ay),.t (.s w.key),.t (.i w.boss.workers),.t (.b w.boss.up),.t (.i w.boss.now),.t (.i w.boss.since),.t (.i w.boss.epoch),.t (.i w.boss.given),.own [false] (w.boss.log.safe.map ah),.own [false] (w.boss.log.loose.map ah),.own [false] (w.boss.results.map ah),.own dB (w.boss.jobs.map aH),.own bw (w.boss.seats.map aE),.own bx (w.boss.owed.map aJ),.own bB ((w.workers.take n).map ag),.own pkd (w.flight.map aY),.t (.s w.forged)])],[]⟩) (fun(n:Nat)=>n≤w.workers.length) (fun(n:Nat)=>w.workers.length - n) (0) [some 2,some 1] [] FZ OM ?_
 intro n hn
 by_cases hn2:n < w.workers.length
 ·obtain⟨x,hx⟩:=ae hn2
  have hxi:=l5 x (List.mem_of_getElem? hx)
  have c4:=gI x OM
  conv=>whnf
  refine g 0 0 []<|J UA<|Ws<|Wc<|J (fun _=>(Wk (Ws (Wb (g 24 27 [.x (ag x)]<|J QZ (rgd [[],[],[],[.call (aA x) O1],[],[],[],[]] ?_)))))) (noF SI)
  conv=>whnf
  refine⟨⟨I,I,I,⟨UA,I,⟨UK,I⟩,UA,AS⟩,⟨UK,I⟩,Zap,I,UA,I⟩,by kernel_rfl,?_⟩
  refine rg [.i ((n:Int) +1)]<|J QZ ?_
  refine⟨n+1,[some 2,some 1],[],⟨rfl,FZ,⟨FZ,⟨(R15 ⟨(congrArg (V.own _) (pR AS)),FZ⟩),I⟩⟩,I⟩,?_,?_⟩
  rotate_left
  (dsimp only;omega)
  dsimp only
  omega
 ·have e:w.workers.take n = w.workers:=aI OM
  conv=>whnf
  refine g 0 0 []<|J UA<|Ws<|Wc<|J (noT SI) fun _=>We<|g 21 36 []<|J QZ<|RT ?_
  (simp[*];done)
theorem fM(w:World)(k:Int)(h:w.workers.length≤8)(hk:1≤k∧k≤w.workers.length):F jA [.ptr (cellsOf (ar w)),.val (.i k)] (.ptr ⟨0,some (14,(k - 1).toNat,11),0⟩) [cellsOf (ar w),[]]:=by
 obtain⟨x,hx⟩:=ae (xs:=w.workers) (n:=(k - 1).toNat) OM
 refine jF ?_
 conv=>whnf
 refine g 0 0 []<|J UA<|Ws<|g 5 11 [.call (V.b (decide (1≤k∧k≤(↑(List.length (List.map ag w.workers)):Int)))) O3]<|J (QA @ai)<|Wc<|J (fun _=>(g 15 19 [.i (k - 1),.n (Int.toNat (k - 1))]<|J QZ (RT ?_))) (noF SI)
 rfl
theorem eK(w:World)(k:Int)(h:w.workers.length≤8)(hk:¬(1≤k∧k≤w.workers.length)):F jA [.ptr (cellsOf (ar w)),.val (.i k)] (.t (.v (.pointer none))) [cellsOf (ar w),[]]:=by
 refine jF ?_
 conv=>whnf
 refine g 0 0 []<|J UA<|Ws<|g 5 11 [.call (V.b (decide (1≤k∧k≤(↑(List.length (List.map ag w.workers)):Int)))) O3]<|J (QA @ai)<|Wc<|J (noT SI) fun _=>Wk<|g 0 2 []<|J UA<|RT ?_
 rfl
theorem ll(w:World)(h:WorldOk w):F tm [.ptr (cellsOf (ar w))] (.tup []) [cellsOf (ar (gy w))]:=by
 obtain⟨l1,l2,l3,l4,l5,l6,l7,l8⟩:=fa h
 have hnow:=h.boss.now
 by_cases h0:1000000≤w.boss.now
 ·rw[uo h0]
  have h1:w.boss.now = 1000000:=by omega
  refine lh ?_
  conv=>whnf
  refine Ws<|g 6 11 []<|J UF<|Wc<|Kt (RT ?_)
  rfl
 ·rw[N6 h0]
  have c1:=wJ w.boss w.plan h.boss l3
  obtain⟨s1,s2,s3⟩:=yk w.plan l3
  have s4:=GC w.boss w.plan
  rw[pG h.boss]at s1 s2 s3 s4 ⊢
  generalize iH w.boss w.plan.tasks = L at c1 s1 s2 s3 s4 ⊢
  refine lh ?_
  conv=>whnf
  refine Ws<|g 6 11 []<|J UF<|Wc<|Jf<|Wk<|gd 11 20 [[],[],[],[],[],[],[],[.call (V.own cU (List.map aL (Led.out L))) ([cellsOf (aF (Led.boss L)),[]])],[]] ?_
  conv=>whnf
  refine J QZ<|J KR<|Ws<|g 20 23 []<|J UF<|Wb<|Wl (fun s (n:Nat)=>⟨[(0,s.s 0),(2,.ref ⟨2,none,0⟩),(23,s.s 23),(24,s.s 24),(25,.i n)],[(2,[.own cU ((L.out++jv w.plan w.workers n).map aL)]),(62,[.own cI (w.plan.tasks.map ay),.t (.s w.key),.t (.i L.boss.workers),.t (.b L.boss.up),.t (.i L.boss.now),.t (.i L.boss.since),.t (.i L.boss.epoch),.t (.i L.boss.given),.own [false] (L.boss.log.safe.map ah),.own [false] (L.boss.log.loose.map ah),.own [false] (L.boss.results.map ah),.own dB (L.boss.jobs.map aH),.own bw (L.boss.seats.map aE),.own bx (L.boss.owed.map aJ),.own bB ((gK (fun x=>(gm x w.plan).worker) w.workers n).map ag),.own pkd (w.flight.map aY),.t (.s w.forged)])],[]⟩) (fun(n:Nat)=>n≤w.workers.length) (fun(n:Nat)=>w.workers.length - n) (0) [some 19,some 62] [] ⟨rfl,FZ,⟨⟨rfl,⟨(congrArg (V.own _) (by rw[Ct,List.append_nil])),I⟩⟩,FZ⟩,I⟩ OM ?_
  intro n hn
  have hl:=jD (fun x=>(gm x w.plan).worker) w.workers n
  have ha:=LG w.plan w.workers n
  by_cases hn2:n < w.workers.length
  ·obtain⟨x,hx⟩:=ae hn2
   have hxi:=l5 x (List.mem_of_getElem? hx)
   have hwk:=(h.crew n x hn2 hx).ok
   have c4:=rS x w.plan hwk h.plan
   rw[←eU hwk h.plan]at c4
   have e1:=m7 (f:=fun x=>(gm x w.plan).worker) (g:=ag) hx
   have e2:(L.out++jv w.plan w.workers n).map aL++ (gm x w.plan).out.map aL = (L.out++jv w.plan w.workers (n+1)).map aL:=by rw[←Cu hx,←List.map_append,List.append_assoc]
   have hxo:=(pJ x w.plan).1
   generalize gm x w.plan = A at c4 e1 e2 hxo
   conv=>whnf
   refine g 0 0 []<|J UA<|Ws<|Wc<|J (fun _=>(Wk (Ws (Wb (g 26 30 [.n (n),.x (ag x),.x (ag x)]<|J (QA @bA) (gd 30 36 [[],[],[],[],[],[.call (rm A) O2],[],[]] ?_)))))) (noF SI)
   conv=>whnf
   refine⟨⟨I,I,I,I,I,⟨⟨UK,I,I⟩,I,UV,UA,AS⟩,I,UL,I⟩,by kernel_rfl,?_⟩
   refine gd 36 44 [[],[],[],[],[],[],[],[.n (n)],[.x (List.set (ag x) (0+1+1+1+1+1+1+1+1) T.hole)]] ?_
   conv=>whnf
   refine J QZ<|J KR ?_
   rw[List.set_set]
   refine rg []<|J QZ<|rg [.i ((n:Int) +1)]<|J QZ ?_
   refine⟨n+1,[some 47,some 62],[],⟨rfl,FZ,⟨⟨rfl,⟨(congrArg (V.own _) (e2)),I⟩⟩,⟨(R15 ⟨(congrArg (V.own _) (e1)),FZ⟩),I⟩⟩,I⟩,?_,?_⟩
   rotate_left
   (dsimp only;omega)
   dsimp only
   omega
  ·obtain rfl:n = w.workers.length:=by omega
   have e:=jE (fun x=>(gm x w.plan).worker) w.workers (Nat.le_refl _)
   have c5:=J5 w.flight (L.out++jv w.plan w.workers w.workers.length) w.key OM (by rw[List.length_append];omega) (fun m hm=>by
    rcases List.mem_append.1 hm with hm|hm
    ·have:=s3 m hm;omega
    ·rw[LH hm];exact Nat.zero_le _)
   conv=>whnf
   refine g 0 0 []<|J UA<|Ws<|Wc<|J (noT SI) fun _=>We<|rgd [[],[],[],[],[],[],[],[],[],[],[.call (V.own pkd (List.map aY (sn w.flight (Led.out L++jv w.plan w.workers (List.length w.workers)) w.key))) O3],[],[],[]] ?_
   conv=>whnf
   refine J QZ<|J KR<|EndsW.nm<|J I<|J ?_ ?_
   rfl
   all_goals (rw[e];try rfl)
theorem kg(w:World)(s:Parcel)(h:WorldOk w)(hs:ParOk s):F j9 [.ptr (cellsOf (ar w)),.val (MI s.kind s.frm s.text)] (.tup []) [cellsOf (ar (cB w s)),[]]:=by
 obtain⟨l1,l2,l3,l4,l5,l6,l7,l8⟩:=fa h
 obtain⟨⟨p1,p2⟩,p3,p4⟩:=hs
 have c4:=rU s.text w.key OM
 cases hm:eO s.text w.key with
 |none =>
  rw[hm]at c4
  rw[GE hm]
  refine bv ?_
  conv=>whnf
  refine g 1 2 []<|J QZ<|gd 7 17 [[],[],[],[],[],[],[.call (gJ none) O2],[],[],[],[],[],[]] ?_
  conv=>whnf
  refine J QZ<|J KR<|Ws<|g 17 18 []<|J UB<|Wc<|Kr (RT ?_)
  rfl
 |some m =>
  rw[hm]at c4
  have hmi:=(dw (KK hm)).1
  have cases3:∀ g:ByteArray,B8 w s = g→((s.text = s.frm∧g = w.forged)∨(¬s.text = s.frm∧¬w.forged = emp∧g = w.forged)∨(¬s.text = s.frm∧w.forged = emp∧g = s.text)):=fun g e=>by
   by_cases q1:s.text = s.frm
   ·exact .inl ⟨q1,by rw[←e,Lh q1]⟩
   ·by_cases q2:w.forged = emp
    ·exact .inr (.inr ⟨q1,q2,by rw[←e,OL q1 q2]⟩)
    ·exact .inr (.inl ⟨q1,q2,by rw[←e,Li q2]⟩)
  by_cases h0:s.kind = 0
  ·rw[yn hm h0]
   have c5:=wK w.boss w.plan m h.boss l3 OM
   rw[pH h.boss]
   show F _ _ _ [cellsOf (ar ⟨w.plan,w.key,iI w.boss w.plan.tasks m,w.workers,w.flight,_⟩),_]
   generalize iI w.boss w.plan.tasks m = L at c5 ⊢
   generalize hgg:B8 w s = g
   rcases cases3 g hgg with⟨q1,rfl⟩|⟨q1,q2,rfl⟩|⟨q1,q2,rfl⟩
   ·refine bv ?_
    conv=>whnf
    refine g 1 2 []<|J QZ<|gd 7 17 [[],[],[],[],[],[],[.call (gJ (some m)) O2],[],[],[],[],[],[]] ?_
    conv=>whnf
    refine J QZ<|J KR<|Ws<|g 17 18 []<|J UB<|Wc<|Jr<|Wk<|Ws<|g 5 30 (RL 6 BF [])<|J QZ<|Wc<|Jr<|Wk<|g 30 38 []<|J UC<|Wc<|Kt (rgd [[],[],[],[],[],[],[],[],[.call (V.tup []) ([cellsOf (aF L),[],[]])]] ?_)
    conv=>whnf
    refine⟨⟨I,I,I,I,I,I,I,I,⟨UC,I,⟨I,UA,UH,I⟩,UA,AS⟩,I⟩,by kernel_rfl,?_⟩
    refine EndsW.nm<|J I (J ?_ rfl)
    rfl
   ·refine bv ?_
    conv=>whnf
    refine g 1 2 []<|J QZ<|gd 7 17 [[],[],[],[],[],[],[.call (gJ (some m)) O2],[],[],[],[],[],[]] ?_
    conv=>whnf
    refine J QZ<|J KR<|Ws<|g 17 18 []<|J UB<|Wc<|Jr<|Wk<|Ws<|g 5 30 (RL 6 BT [])<|J QZ<|Wc<|Jf<|Wk<|g 30 38 []<|J UC<|Wc<|Kt (rgd [[],[],[],[],[],[],[],[],[.call (V.tup []) ([cellsOf (aF L),[],[]])]] ?_)
    conv=>whnf
    refine⟨⟨I,I,I,I,I,I,I,I,⟨UC,I,⟨I,UA,UH,I⟩,UA,AS⟩,I⟩,by kernel_rfl,?_⟩
    refine EndsW.nm<|J I (J ?_ rfl)
    rfl
   ·refine bv ?_
    conv=>whnf
    refine g 1 2 []<|J QZ<|gd 7 17 [[],[],[],[],[],[],[.call (gJ (some m)) O2],[],[],[],[],[],[]] ?_
    conv=>whnf
    refine J QZ<|J KR<|Ws<|g 17 18 []<|J UB<|Wc<|Jr<|Wk<|Ws<|g 5 30 (RL 6 BT [])<|J QZ<|Wc<|Kt (rg []<|J QZ (g 30 38 []<|J UC (Wc<|Kt (rgd [[],[],[],[],[],[],[],[],[.call (V.tup []) ([cellsOf (aF L),[],[]])]] ?_))))
    conv=>whnf
    refine⟨⟨I,I,I,I,I,I,I,I,⟨UC,I,⟨I,UA,UH,I⟩,UA,AS⟩,I⟩,by kernel_rfl,?_⟩
    refine EndsW.nm<|J I (J ?_ rfl)
    rfl
  ·by_cases h1:s.kind≤w.workers.length
   ·obtain⟨x,hx⟩:=ae (xs:=w.workers) (n:=(s.kind - 1).toNat) OM
    rw[ym hm h0 ⟨by omega,h1⟩ hx]
    have hwk:=(h.crew _ x OM hx).ok
    have hxi:=l5 x (List.mem_of_getElem? hx)
    have c5:=rT x w.plan m hwk h.plan OM
    rw[eV hwk h.plan]
    show F _ _ _ [cellsOf (ar ⟨w.plan,w.key,w.boss,w.workers.set _ (kN x w.plan.tasks m),w.flight,_⟩),_]
    generalize kN x w.plan.tasks m = L at c5 ⊢
    have es:=gj (xs:=w.workers) (n:=(s.kind - 1).toNat) (x:=L)
    generalize hgg:B8 w s = g
    rcases cases3 g hgg with⟨q1,rfl⟩|⟨q1,q2,rfl⟩|⟨q1,q2,rfl⟩
    ·have cw:=fM w s.kind l4 ⟨by omega,h1⟩
     refine bv ?_
     conv=>whnf
     refine g 1 2 []<|J QZ<|gd 7 17 [[],[],[],[],[],[],[.call (gJ (some m)) O2],[],[],[],[],[],[]] ?_
     conv=>whnf
     refine J QZ<|J KR<|Ws<|g 17 18 []<|J UB<|Wc<|Jr<|Wk<|Ws<|g 5 30 (RL 6 BF [])<|J QZ<|Wc<|Jr<|Wk<|g 30 38 []<|J UC<|Wc<|Jf<|g 38 52 [.call (V.ptr {root:=0,step:=some (14,Int.toNat (s.kind - 1),11),off:=0:Tm.Place}) ([cellsOf (ar w),[]])]<|J QZ ?_
     refine g 3 4 []<|J UB<|Wc<|Kr (rgd [[],[],[],[.x (ag x)],[],[],[],[],[],[.x (ag x),.call (aA L) O3],[],[.x (List.set (ag x) (0+1+1+1+1+1+1+1+1) T.hole)]] ?_)
     conv=>whnf
     refine⟨⟨I,I,I,xA,I,I,I,I,I,⟨⟨Zal,I,I,I⟩,I,⟨I,UA,UH,I⟩,UA,AS⟩,I,⟨UK,jP LN⟩,I⟩,by kernel_rfl,?_⟩
     refine EndsW.nm<|J I<|J ?_ ?_
     rfl
     rw[List.set_set]
     exact kL w.plan w.key w.boss w.workers (s.kind - 1).toNat L w.flight w.forged O1
    ·have cw:=fM w s.kind l4 ⟨by omega,h1⟩
     refine bv ?_
     conv=>whnf
     refine g 1 2 []<|J QZ<|gd 7 17 [[],[],[],[],[],[],[.call (gJ (some m)) O2],[],[],[],[],[],[]] ?_
     conv=>whnf
     refine J QZ<|J KR<|Ws<|g 17 18 []<|J UB<|Wc<|Jr<|Wk<|Ws<|g 5 30 (RL 6 BT [])<|J QZ<|Wc<|Jf<|Wk<|g 30 38 []<|J UC<|Wc<|Jf<|g 38 52 [.call (V.ptr {root:=0,step:=some (14,Int.toNat (s.kind - 1),11),off:=0:Tm.Place}) ([cellsOf (ar w),[]])]<|J QZ ?_
     refine g 3 4 []<|J UB<|Wc<|Kr (rgd [[],[],[],[.x (ag x)],[],[],[],[],[],[.x (ag x),.call (aA L) O3],[],[.x (List.set (ag x) (0+1+1+1+1+1+1+1+1) T.hole)]] ?_)
     conv=>whnf
     refine⟨⟨I,I,I,xA,I,I,I,I,I,⟨⟨Zal,I,I,I⟩,I,⟨I,UA,UH,I⟩,UA,AS⟩,I,⟨UK,jP LN⟩,I⟩,by kernel_rfl,?_⟩
     refine EndsW.nm<|J I<|J ?_ ?_
     rfl
     rw[List.set_set]
     exact kL w.plan w.key w.boss w.workers (s.kind - 1).toNat L w.flight w.forged O1
    ·have cw:=fM ⟨w.plan,w.key,w.boss,w.workers,w.flight,s.text⟩ s.kind l4 ⟨by omega,h1⟩
     refine bv ?_
     conv=>whnf
     refine g 1 2 []<|J QZ<|gd 7 17 [[],[],[],[],[],[],[.call (gJ (some m)) O2],[],[],[],[],[],[]] ?_
     conv=>whnf
     refine J QZ<|J KR<|Ws<|g 17 18 []<|J UB<|Wc<|Jr<|Wk<|Ws<|g 5 30 (RL 6 BT [])<|J QZ<|Wc<|Kt (rg []<|J QZ (g 30 38 []<|J UC (Wc<|Jf<|(g 38 52 [.call (V.ptr {root:=0,step:=some (14,Int.toNat (s.kind - 1),11),off:=0:Tm.Place}) ([cellsOf (ar {plan:=w.plan,key:=w.key,boss:=w.boss,workers:=w.workers,flight:=w.flight,forged:=s.text:World}),[]])]<|J QZ ?_))))
     refine g 3 4 []<|J UB<|Wc<|Kr (rgd [[],[],[],[.x (ag x)],[],[],[],[],[],[.x (ag x),.call (aA L) O3],[],[.x (List.set (ag x) (0+1+1+1+1+1+1+1+1) T.hole)]] ?_)
     conv=>whnf
     refine⟨⟨I,I,I,xA,I,I,I,I,I,⟨⟨Zal,I,I,I⟩,I,⟨I,UA,UH,I⟩,UA,AS⟩,I,⟨UK,jP LN⟩,I⟩,by kernel_rfl,?_⟩
     refine EndsW.nm<|J I<|J ?_ ?_
     rfl
     rw[List.set_set]
     exact kL w.plan w.key w.boss w.workers (s.kind - 1).toNat L w.flight s.text O1
   ·rw[Cp hm h0 (fun q=>h1 q.2)]
    generalize hgg:B8 w s = g
    rcases cases3 g hgg with⟨q1,rfl⟩|⟨q1,q2,rfl⟩|⟨q1,q2,rfl⟩
    ·have cw:=eK w s.kind l4 (fun q=>h1 q.2)
     refine bv ?_
     conv=>whnf
     refine g 1 2 []<|J QZ<|gd 7 17 [[],[],[],[],[],[],[.call (gJ (some m)) O2],[],[],[],[],[],[]] ?_
     conv=>whnf
     refine J QZ<|J KR<|Ws<|g 17 18 []<|J UB<|Wc<|Jr<|Wk<|Ws<|g 5 30 (RL 6 BF [])<|J QZ<|Wc<|Jr<|Wk<|g 30 38 []<|J UC<|Wc<|Jf<|g 38 52 [.call (V.t (T.v (Value.pointer none))) ([cellsOf (ar w),[]])]<|J QZ ?_
     refine g 3 4 []<|J UB<|Wc<|Jr<|Wk<|EndsW.nm<|J I (J ?_ rfl)
     rfl
    ·have cw:=eK w s.kind l4 (fun q=>h1 q.2)
     refine bv ?_
     conv=>whnf
     refine g 1 2 []<|J QZ<|gd 7 17 [[],[],[],[],[],[],[.call (gJ (some m)) O2],[],[],[],[],[],[]] ?_
     conv=>whnf
     refine J QZ<|J KR<|Ws<|g 17 18 []<|J UB<|Wc<|Jr<|Wk<|Ws<|g 5 30 (RL 6 BT [])<|J QZ<|Wc<|Jf<|Wk<|g 30 38 []<|J UC<|Wc<|Jf<|g 38 52 [.call (V.t (T.v (Value.pointer none))) ([cellsOf (ar w),[]])]<|J QZ ?_
     refine g 3 4 []<|J UB<|Wc<|Jr<|Wk<|EndsW.nm<|J I (J ?_ rfl)
     rfl
    ·have cw:=eK ⟨w.plan,w.key,w.boss,w.workers,w.flight,s.text⟩ s.kind l4 (fun q=>h1 q.2)
     refine bv ?_
     conv=>whnf
     refine g 1 2 []<|J QZ<|gd 7 17 [[],[],[],[],[],[],[.call (gJ (some m)) O2],[],[],[],[],[],[]] ?_
     conv=>whnf
     refine J QZ<|J KR<|Ws<|g 17 18 []<|J UB<|Wc<|Jr<|Wk<|Ws<|g 5 30 (RL 6 BT [])<|J QZ<|Wc<|Kt (rg []<|J QZ (g 30 38 []<|J UC (Wc<|Jf<|(g 38 52 [.call (V.t (T.v (Value.pointer none))) ([cellsOf (ar {plan:=w.plan,key:=w.key,boss:=w.boss,workers:=w.workers,flight:=w.flight,forged:=s.text:World}),[]])]<|J QZ ?_))))
     refine g 3 4 []<|J UB<|Wc<|Jr<|Wk<|EndsW.nm<|J I (J ?_ rfl)
     rfl
end Go.K
end
section
open Go Go.Tm Go.Proofs
namespace Go.K
theorem TD(l:List Int)(pos:Int)(hl:dM l)(h0:0≤pos)(h1:pos≤600000):∃ res outs,(∃ (v:World) (pos2:Int),res = ar v∧outs = [rdC l pos2]∧AnyW v∧pos≤pos2∧pos2≤pos+20000)∧F GV [.ptr (rdC l pos)] res outs:=by
 have p8:=ak l pos 8
 by_cases k0:ac l pos 8 = 0
 ·obtain⟨res,outs,⟨v,q,rfl,rfl,v1,v2,v3⟩,hE⟩:=QI l (pos+1) hl OM OM
  refine jR ?_
  conv=>whnf
  refine g 0 0 []<|J UA<|Ws<|g 7 9 [.call (V.i (ac l pos 8)) ([rdC l (pos+1),[]])]<|J (QA @aa)<|Wc<|Kt (g 9 12 [.call (ar v) ([rdC l q])]<|J QZ (W.ret (EndsW.rt<|J UR ?_)))
  exact⟨v,q,rfl,rfl,v1,by omega,by omega⟩
 have cr:=iE l (pos+1) hl OM OM
 obtain⟨g1,_,g3,g4⟩:=CJ l (pos+1)
 generalize(iK l (pos+1)).1 = w at cr g1
 generalize(iK l (pos+1)).2 = q at cr g3 g4
 have ha:=CQ g1
 have hd:=bO g1
 have hfl:=hd.fl
 have q8:=ak l q 8
 by_cases k1:ac l q 8 = 0
 ·obtain⟨res,outs,⟨v,u,rfl,rfl,v1,v2,v3⟩,hS⟩:=M8 l (q+1) w g1 hl OM OM
  refine jR ?_
  conv=>whnf
  refine g 0 0 []<|J UA<|Ws<|g 7 9 [.call (V.i (ac l pos 8)) ([rdC l (pos+1),[]])]<|J (QA @aa)<|Wc<|Jf<|Wk<|g 9 14 [.call (ar w) ([rdC l q])]<|J QZ<|Ws<|g 14 16 [.call (V.i (ac l q 8)) ([rdC l (q+1),[]])]<|J (QA @aa)<|Wc<|Kt (g 16 20 [.call (ar v) ([rdC l u,[]])]<|J QZ (W.ret (EndsW.rt<|J UR ?_)))
  exact⟨v,u,rfl,rfl,v1,by omega,by omega⟩
 have r8:=ak l (q+1) 8
 by_cases k2:ac l (q+1) 8 = 0
 ·have ct:=ub w.plan hd.plan
  have htl:(eE w.plan).length≤64:=by
   have hs:=hd.small.1
   by_cases hc:am w.plan.tasks = 0
   ·rw[show eE w.plan = cY w.plan.tasks w.plan.tasks.length from if_pos hc,fR _ _ (Nat.le_refl _)];exact hs
   ·rw[show eE w.plan = []from if_neg hc];exact Nat.zero_le _
  generalize eE w.plan = ts at ct htl
  have kk:=ak l (q+1+1) (ts.length:Int)
  have ck:F fc [.ptr (rdC l (q+1+1)),.val (.i ((ts.map ah).length:Int))] (.i (ac l (q+1+1) (ts.length:Int))) [rdC l (q+1+1+1),[]]:=by
   rw[List.length_map]
   exact aa l (q+1+1) (ts.length:Int) hl OM OM OM
  generalize ac l (q+1+1) (ts.length:Int) = kv at ck kk
  have s3:=ak l (q+1+1+1) 3
  have cb:=dZ l (q+1+1+1+1) hl OM OM
  generalize qp (dS (ac l (q+1+1+1+1) 50)) = tx at cb
  have cf:=dX ⟨3,1,0,1,1+ac l (q+1+1+1) 3,kv,tx,[]⟩ w.key (Nat.zero_le _)
  have hfs:=Lk ⟨3,1,0,1,1+ac l (q+1+1+1) 3,kv,tx,[]⟩ w.key
  generalize dY ⟨3,1,0,1,1+ac l (q+1+1+1) 3,kv,tx,[]⟩ w.key = fs at cf hfs
  have ew:wasB.size = 3:=rfl
  refine jR ?_
  conv=>whnf
  refine g 0 0 []<|J UA<|Ws<|g 7 9 [.call (V.i (ac l pos 8)) ([rdC l (pos+1),[]])]<|J (QA @aa)<|Wc<|Jf<|Wk<|g 9 14 [.call (ar w) ([rdC l q])]<|J QZ<|Ws<|g 14 16 [.call (V.i (ac l q 8)) ([rdC l (q+1),[]])]<|J (QA @aa)<|Wc<|Jf<|Wk<|Ws<|g 16 22 [.call (V.i (ac l (q+1) 8)) ([rdC l (q+1+1),[]])]<|J (QA @aa) ?_
  refine Wc<|Kt (g 22 26 [.call (V.own [false] (List.map ah ts)) O1]<|J QZ (g 26 30 [.call (V.i kv) ([rdC l (q+1+1+1),[]])]<|J QZ (g 30 37 [.call (V.i (ac l (q+1+1+1) 3)) ([rdC l (q+1+1+1+1),[]]),.i (1+ac l (q+1+1+1) 3),.call (V.s tx) ([rdC l (q+1+1+1+1+1)])]<|J (QA @aa) (rgd [[],[],[],[],[],[.call (V.s fs) O2],[],[],[],[],[]] ?_))))
  conv=>whnf
  refine⟨⟨I,I,I,I,I,⟨UB,I,⟨UH,UA,I⟩,UA,AS⟩,I,⟨UC,I⟩,Zap,I,UA,I⟩,by kernel_rfl,?_⟩
  refine g 3 48 []<|J QZ<|W.ret<|EndsW.rt<|J UR ?_
  exact⟨⟨w.plan,w.key,w.boss,w.workers,w.flight++ [⟨0,wasB,fs⟩],w.forged⟩,_,HT (by rw[List.map_append];rfl),rfl,⟨ha.plan,ha.boss,ha.key,ha.wl,ha.wi,by show(w.flight++ [_]).length≤4100;rw[List.length_append,List.length_singleton];omega,fun z hz=>by
   rcases List.mem_append.1 hz with hz|hz
   ·exact ha.fs z hz
   ·rw[List.mem_singleton.1 hz];dsimp only;omega⟩,by omega,by omega⟩
 ·refine jR ?_
  conv=>whnf
  refine g 0 0 []<|J UA<|Ws<|g 7 9 [.call (V.i (ac l pos 8)) ([rdC l (pos+1),[]])]<|J (QA @aa)<|Wc<|Jf<|Wk<|g 9 14 [.call (ar w) ([rdC l q])]<|J QZ<|Ws<|g 14 16 [.call (V.i (ac l q 8)) ([rdC l (q+1),[]])]<|J (QA @aa)<|Wc<|Jf<|Wk<|Ws<|g 16 22 [.call (V.i (ac l (q+1) 8)) ([rdC l (q+1+1),[]])]<|J (QA @aa) ?_
  refine Wc<|Jf<|Wk<|g 3 48 []<|J QZ<|W.ret<|EndsW.rt<|J UR ?_
  exact⟨w,q+1+1,rfl,rfl,ha,by omega,by omega⟩
end Go.K
end
section
open Go Go.Tm Go.Proofs
namespace Go.K
theorem jV(xs:List ByteArray)(hl:xs.length≤9223372036854775806):F tQ [.val (.t (pp xs)),.val (.t (pp xs))] (.b true) O2:=by
 have c:=HF xs xs hl
 rw[decide_eq_true rfl]at c
 exact c
theorem HC(b:Boss)(hb:BossLim b):F G4 [.val (ge b),.val (ge b)] (.b true) O2:=by
 obtain⟨h1,h2,_,h3,h4,h5,h6⟩:=hb
 have c1:=jV b.log.safe OM
 have c2:=jV b.log.loose OM
 have c3:=jV b.results OM
 refine Ho ?_
 conv=>whnf
 refine g 0 2 []<|J QZ<|Ws<|g 17 75 (RL 37 BF (.call VT O2::(RL 9 BF (.call VT O2::(RL 7 BF [.call VT O2,BF,BF]))))) ?_
 conv=>whnf
 refine J QZ<|Wc<|Jr<|Wk<|Ws<|g 8 100 (RL 16 BF [])<|J QZ<|Wc<|Jn<|Wk<|Ws<|g 100 101 []<|J UA<|Wb<|Wl (fun s (n:Nat)=>⟨[(2,s.s 2),(3,s.s 3),(5,.i n)],[(2,(CK s 2 0 12 [])),(3,(CK s 3 0 12 []))],[]⟩) (fun(n:Nat)=>n≤b.jobs.length) (fun(n:Nat)=>b.jobs.length - n) (0) [some 2,some 3] [] FZ OM ?_
 intro n hn
 by_cases hn2:n < b.jobs.length
 ·obtain⟨x,hx⟩:=ae hn2
  conv=>whnf
  refine Ws<|g 101 105 []<|J UE<|Wc<|J (fun _=>(Wk (Ws (Wb (gd 105 118 [[],[],[],[.x (aH x)],[],[],[],[],[.x (aH x)],[],[BT]] ?_))))) (noF SI)
  conv=>whnf
  refine⟨⟨I,I,I,Zaq,I,I,I,I,Zaq,I,by simp[*],I⟩,by kernel_rfl,?_⟩
  refine Wc<|Jr<|Wk<|rg [.i ((n:Int) +1)]<|J QZ ?_
  refine⟨n+1,[some 2,some 3],[],FZ,?_,?_⟩
  rotate_left
  (dsimp only;omega)
  dsimp only
  omega
 conv=>whnf
 refine Ws<|g 101 105 []<|J UE<|Wc<|J (noT SI) fun _=>We<|Ws<|g 5 6 []<|J UA<|Wb<|Wl (fun s (n:Nat)=>⟨[(2,s.s 2),(3,s.s 3),(6,.i n)],[(2,(CK s 2 0 12 [])),(3,(CK s 3 0 12 []))],[]⟩) (fun(n:Nat)=>n≤b.seats.length) (fun(n:Nat)=>b.seats.length - n) (0) [some 2,some 3] [] FZ OM ?_
 intro n hn
 by_cases hn2:n < b.seats.length
 ·obtain⟨x,hx⟩:=ae hn2
  conv=>whnf
  refine Ws<|g 119 123 []<|J UE<|Wc<|J (fun _=>(Wk (Ws (Wb (gd 123 136 [[],[],[],[.x (aE x)],[],[],[],[],[.x (aE x)],[],[BT]] ?_))))) (noF SI)
  conv=>whnf
  refine⟨⟨I,I,I,Zaq,I,I,I,I,Zaq,I,by simp[*],I⟩,by kernel_rfl,?_⟩
  refine Wc<|Jr<|Wk<|rg [.i ((n:Int) +1)]<|J QZ ?_
  refine⟨n+1,[some 2,some 3],[],FZ,?_,?_⟩
  rotate_left
  (dsimp only;omega)
  dsimp only
  omega
 conv=>whnf
 refine Ws<|g 119 123 []<|J UE<|Wc<|J (noT SI) fun _=>We<|Ws<|g 6 7 []<|J UA<|Wb<|Wl (fun s (n:Nat)=>⟨[(2,s.s 2),(3,s.s 3),(7,.i n)],[(2,(CK s 2 0 12 [])),(3,(CK s 3 0 12 []))],[]⟩) (fun(n:Nat)=>n≤b.owed.length) (fun(n:Nat)=>b.owed.length - n) (0) [some 2,some 3] [] FZ OM ?_
 intro n hn
 by_cases hn2:n < b.owed.length
 ·obtain⟨x,hx⟩:=ae hn2
  conv=>whnf
  refine Ws<|g 137 141 []<|J UE<|Wc<|J (fun _=>(Wk (Ws (Wb (gd 141 154 [[],[],[],[.x (aJ x)],[],[],[],[],[.x (aJ x)],[],[BT]] ?_))))) (noF SI)
  conv=>whnf
  refine⟨⟨I,I,I,Zaq,I,I,I,I,Zaq,I,by simp[*],I⟩,by kernel_rfl,?_⟩
  refine Wc<|Jr<|Wk<|rg [.i ((n:Int) +1)]<|J QZ ?_
  refine⟨n+1,[some 2,some 3],[],FZ,?_,?_⟩
  rotate_left
  (dsimp only;omega)
  dsimp only
  omega
 conv=>whnf
 refine Ws<|g 137 141 []<|J UE<|Wc<|J (noT SI) fun _=>We<|g 2 4 []<|J UA<|RT ?_
 rfl
theorem A4(w:Worker)(hw:w.inputs.length≤1048576):F Am [.val (dP w),.val (dP w)] (.b true) O2:=by
 have c1:=jV w.inputs OM
 refine AG ?_
 conv=>whnf
 refine g 0 2 []<|J QZ<|g 5 80 (RL 59 BT [.call VT O2,BT]) ?_
 conv=>whnf
 refine J ⟨I,I,I,I,I,I,⟨tO,I⟩,⟨tO,I⟩,⟨tO,I⟩,⟨tO,I⟩,⟨tO,I⟩,tO,I,⟨tO,I⟩,⟨tO,I⟩,⟨tO,I⟩,⟨tO,I⟩,⟨tO,I⟩,tO,I,⟨decide_eq_true rfl,I⟩,⟨decide_eq_true rfl,I⟩,⟨decide_eq_true rfl,I⟩,⟨decide_eq_true rfl,I⟩,⟨decide_eq_true rfl,I⟩,decide_eq_true rfl,I,⟨tO,I⟩,⟨tO,I⟩,⟨tO,I⟩,⟨tO,I⟩,⟨tO,I⟩,tO,I,⟨tO,I⟩,⟨tO,I⟩,⟨tO,I⟩,⟨tO,I⟩,⟨tO,I⟩,tO,I,⟨tO,I⟩,⟨tO,I⟩,⟨tO,I⟩,⟨tO,I⟩,⟨tO,I⟩,tO,I,⟨tO,I⟩,⟨tO,I⟩,⟨tO,I⟩,⟨tO,I⟩,⟨tO,I⟩,tO,I,⟨tO,I⟩,⟨tO,I⟩,⟨tO,I⟩,⟨tO,I⟩,⟨tO,I⟩,tO,I,⟨decide_eq_true rfl,I⟩,⟨decide_eq_true rfl,I⟩,⟨decide_eq_true rfl,I⟩,⟨decide_eq_true rfl,I⟩,⟨decide_eq_true rfl,I⟩,decide_eq_true rfl,I,⟨tO,I⟩,⟨tO,I⟩,⟨tO,I⟩,⟨tO,I⟩,⟨tO,UB,I,UT,UA,AS⟩,tO,I,I⟩<|RT ?_
 rfl
theorem qX(w:World)(hl:WorldLim w):F qD [.val (ea w),.val (ea w)] (.b true) O2:=by
 obtain⟨l1,l2,l3,l4,l5,l6,l7⟩:=hl
 have l8:=l1.1
 have cb:=HC w.boss l2
 refine Ec ?_
 conv=>whnf
 refine g 0 2 []<|J QZ<|Ws<|g 7 55 (RL 37 BF [.call VT O2,BF,BF]) ?_
 conv=>whnf
 refine J QZ<|Wc<|Jr<|Wk<|Ws<|g 55 56 []<|J UA<|Wb<|Wl (fun s (n:Nat)=>⟨[(2,s.s 2),(3,s.s 3),(5,.i n)],[(2,(CK s 2 0 17 [])),(3,(CK s 3 0 17 []))],[]⟩) (fun(n:Nat)=>n≤w.workers.length) (fun(n:Nat)=>w.workers.length - n) (0) [some 2,some 3] [] FZ OM ?_
 intro n hn
 by_cases hn2:n < w.workers.length
 ·obtain⟨x,hx⟩:=ae hn2
  have cw:=A4 x (l5 x (List.mem_of_getElem? hx))
  conv=>whnf
  refine Ws<|g 56 60 []<|J UE<|Wc<|J (fun _=>(Wk (Ws (Wb (gd 60 74 [[],[],[],[.x (ag x)],[],[],[],[],[.x (ag x)],[],[.call VT O2],[]] ?_))))) (noF SI)
  conv=>whnf
  refine⟨⟨I,I,I,Zaq,I,I,I,I,Zaq,I,⟨UB,I,⟨UK,UK,I⟩,UA,AS⟩,I,I⟩,by kernel_rfl,?_⟩
  refine Wc<|Jr<|Wk<|rg [.i ((n:Int) +1)]<|J QZ ?_
  refine⟨n+1,[some 2,some 3],[],FZ,?_,?_⟩
  rotate_left
  (dsimp only;omega)
  dsimp only
  omega
 conv=>whnf
 refine Ws<|g 56 60 []<|J UE<|Wc<|J (noT SI) fun _=>We<|Ws<|g 5 6 []<|J UA<|Wb<|Wl (fun s (n:Nat)=>⟨[(2,s.s 2),(3,s.s 3),(6,.i n)],[(2,(CK s 2 0 17 [])),(3,(CK s 3 0 17 []))],[]⟩) (fun(n:Nat)=>n≤w.flight.length) (fun(n:Nat)=>w.flight.length - n) (0) [some 2,some 3] [] FZ OM ?_
 intro n hn
 by_cases hn2:n < w.flight.length
 ·obtain⟨x,hx⟩:=ae hn2
  conv=>whnf
  refine Ws<|g 75 79 []<|J UE<|Wc<|J (fun _=>(Wk (Ws (Wb (gd 79 92 [[],[],[],[.x (bq x)],[],[],[],[],[.x (bq x)],[],[BT]] ?_))))) (noF SI)
  conv=>whnf
  refine⟨⟨I,I,I,Zaq,I,I,I,I,Zaq,I,by simp[*],I⟩,by kernel_rfl,?_⟩
  refine Wc<|Jr<|Wk<|rg [.i ((n:Int) +1)]<|J QZ ?_
  refine⟨n+1,[some 2,some 3],[],FZ,?_,?_⟩
  rotate_left
  (dsimp only;omega)
  dsimp only
  omega
 conv=>whnf
 refine Ws<|g 75 79 []<|J UE<|Wc<|J (noT SI) fun _=>We<|g 2 4 []<|J UA<|RT ?_
 rfl
end Go.K
end
section
open Go Go.Tm Go.Proofs
namespace Go.K
theorem uW{X:World}{s:Parcel}{fl:List Parcel}(h:X.flight = s :: fl)(hl:X.flight.length≤2000):dJ (cH X 0) = dJ X∧(cH X 0).flight = fl:=by
 rw[J9 h hl]
 exact⟨(Nb h).symm,rfl⟩
noncomputable def fp(tw:World)(n:Nat):World:=(tw.flight.take n).foldl cB (dn tw [])
theorem Qg{tw:World}{n:Nat}{s:Parcel}(h:tw.flight[n]? = some s):cB (fp tw n) s = fp tw (n+1):=by
 unfold fp;rw[List.take_add_one,h];simp
theorem Tf{tw:World}{n:Nat}(h:tw.flight.length≤n):fp tw n = dJ tw:=by
 unfold fp dJ;rw[List.take_of_length_le h]
theorem XI{tw:World}(h:WorldOk tw)(n:Nat):WorldOk (fp tw n):=Ie _ (ig h (Nat.zero_le _) fun x hx=>by cases hx)
def dg(r:Int):Nat:=min r.toNat 2000
theorem xy{w:World}{n:Nat}{r:Int}(hv:WorldOk w)(h1:n≤dg r)(h2:n = dg r∨1000000≤(aU w n).boss.now)(hr:0 < r):dJ (aU w n) = aU w (dg r):=by
 by_cases e:n = dg r
 ·have hp:1≤n:=by rw[e];unfold dg;omega
  obtain⟨m,rfl⟩:∃ m,n = m+1:=⟨n - 1,by omega⟩
  rw[kG (yf w m),←e]
 ·rcases h2 with h2|h2
  ·exact absurd h2 e
  ·obtain⟨k,hk⟩:∃ k,dg r = n+k+1:=⟨dg r - n - 1,by omega⟩
   rw[hk,Lx hv h2 k]
theorem J2(w:World)(r:Int)(h:WorldLim w):F xR [.val (ea w),.val (.i r)] (ar (g8 w r)) O2:=by
 have cv:=eJ w h
 by_cases hv:WorldOk w
 ·rw[decide_eq_true hv]at cv
  have e0:g8 w r = aU w (dg r):=if_pos hv
  rw[e0]
  have c1:=da w (fa hv)
  refine xV ?_
  conv=>whnf
  refine g 0 1 []<|J QZ<|Ws<|g 8 9 [.call VT O1]<|J QZ<|Wc<|Jr<|Wk<|g 9 13 [.call (ar w) O1]<|J QZ<|Ws<|g 0 0 []<|J UA<|Wb<|Wl (fun s (n:Nat)=>⟨(SK s [1,2,4,5] [(6,.i n),(7,s.s 7)]),[(2,(CK s 2 0 17 [])),(4,(CK s 4 0 17 [])),(5,[.own cI ((aU w n).plan.tasks.map ay),.t (.s (aU w n).key),.t (.i (aU w n).boss.workers),.t (.b (aU w n).boss.up),.t (.i (aU w n).boss.now),.t (.i (aU w n).boss.since),.t (.i (aU w n).boss.epoch),.t (.i (aU w n).boss.given),.own [false] ((aU w n).boss.log.safe.map ah),.own [false] ((aU w n).boss.log.loose.map ah),.own [false] ((aU w n).boss.results.map ah),.own dB ((aU w n).boss.jobs.map aH),.own bw ((aU w n).boss.seats.map aE),.own bx ((aU w n).boss.owed.map aJ),.own bB ((aU w n).workers.map ag),.own pkd ((aU w n).flight.map aY),.t (.s (aU w n).forged)])],[]⟩) (fun(n:Nat)=>n≤dg r) (fun(n:Nat)=>2000 - n) (0) [some 2,some 4,some 5] [] FZ OM ?_
  intro n hn
  have hR:dg r = min r.toNat 2000:=rfl
  have hN:=qW hv n
  have hD:=fa hN
  by_cases a1:(n:Int) < r
  ·by_cases a2:n < 2000
   ·by_cases a3:(aU w n).boss.now < 1000000
    ·have ct:=jb (aU w n) hD
     have hT:=po hN
     have eR:aU w (n+1) = dJ (gy (aU w n)):=rfl
     generalize gy (aU w n) = tw at ct hT eR
     conv=>whnf
     refine Ws<|g 13 25 (RL 8 BT [])<|J QZ<|Wc<|Kt (Wk (Ws (Wb (g 25 30 [.call (ar tw) O1]<|J QZ (Wb (Wl (fun s (X:World)=>⟨(SK s [1,2,4,5,6,7] []),[(2,(CK s 2 0 17 [])),(4,(CK s 4 0 17 [])),(5,[.own cI (X.plan.tasks.map ay),.t (.s X.key),.t (.i X.boss.workers),.t (.b X.boss.up),.t (.i X.boss.now),.t (.i X.boss.since),.t (.i X.boss.epoch),.t (.i X.boss.given),.own [false] (X.boss.log.safe.map ah),.own [false] (X.boss.log.loose.map ah),.own [false] (X.boss.results.map ah),.own dB (X.boss.jobs.map aH),.own bw (X.boss.seats.map aE),.own bx (X.boss.owed.map aJ),.own bB (X.workers.map ag),.own pkd (X.flight.map aY),.t (.s X.forged)])],[]⟩) (fun(X:World)=>WorldOk X∧dJ X = dJ tw) (fun(X:World)=>X.flight.length) (tw) [some 2,some 4,some 5] [] FZ ⟨by omega,by simp⟩ ?_))))))
     rintro X ⟨hX,eX⟩
     have hXD:=fa hX
     have cb:=dc X 0 hXD
     have hfl:=hXD.fl
     obtain hf|⟨s,fl,hf⟩:X.flight = []∨∃ s fl,X.flight = s :: fl:=by
      cases X.flight with
      |nil=>exact .inl rfl
      |cons s fl=>exact .inr ⟨s,fl,rfl⟩
     ·have hl0:X.flight.length = 0:=by rw[hf];rfl
      rw[kG hf,←eR]at eX
      subst eX
      conv=>whnf
      refine Ws<|g 30 33 []<|J UD<|Wc<|J (noT (by simp_all)) fun _=>We<|rg [.i ((n:Int) +1)]<|J QZ ?_
      refine⟨n+1,[some 2,some 4,some 5],[],FZ,?_,?_⟩
      rotate_left
      (dsimp only;omega)
      dsimp only
      omega
     ·have hl0:X.flight.length = fl.length+1:=by rw[hf];rfl
      obtain⟨b1,b2⟩:=uW hf hfl
      have hB:=kI 0 hX
      conv=>whnf
      refine Ws<|g 30 33 []<|J UD<|Wc<|J (fun _=>(Wk (Wb (rg [.call (ar (cH X 0)) O2]<|J QZ ?_)))) (noF SI)
      refine⟨cH X 0,[some 2,some 4,some 5],[],FZ,?_,?_⟩
      rotate_left
      rotate_right 1
      dsimp only
      all_goals first|exact⟨hB,b1.trans eX,.inl hr⟩|exact⟨hB,b1.trans eX⟩|(show(cH X 0).flight.length < X.flight.length;rw[b2];omega)
    have hx:n = dg r∨1000000≤(aU w n).boss.now:=.inr OM
    conv=>whnf
    refine Ws<|g 13 25 (RL 8 BT [])<|J QZ<|Wc<|Jf<|We<|Ws<|Wb<|Wl (fun s (X:World)=>⟨(SK s [1,2,4,5] []),[(2,(CK s 2 0 17 [])),(4,(CK s 4 0 17 [])),(5,[.own cI (X.plan.tasks.map ay),.t (.s X.key),.t (.i X.boss.workers),.t (.b X.boss.up),.t (.i X.boss.now),.t (.i X.boss.since),.t (.i X.boss.epoch),.t (.i X.boss.given),.own [false] (X.boss.log.safe.map ah),.own [false] (X.boss.log.loose.map ah),.own [false] (X.boss.results.map ah),.own dB (X.boss.jobs.map aH),.own bw (X.boss.seats.map aE),.own bx (X.boss.owed.map aJ),.own bB (X.workers.map ag),.own pkd (X.flight.map aY),.t (.s X.forged)])],[]⟩) (fun(X:World)=>WorldOk X∧dJ X = dJ (aU w n)∧(0 < r∨X = aU w n)) (fun(X:World)=>X.flight.length) (aU w n) [some 2,some 4,some 5] [] FZ ⟨by omega,by simp⟩ ?_
    rintro X ⟨hX,eX,eX2⟩
    have hXD:=fa hX
    have cb:=dc X 0 hXD
    have hfl:=hXD.fl
    by_cases hr:0 < r
    ·obtain hf|⟨s,fl,hf⟩:X.flight = []∨∃ s fl,X.flight = s :: fl:=by
      cases X.flight with
      |nil=>exact .inl rfl
      |cons s fl=>exact .inr ⟨s,fl,rfl⟩
     ·have hl0:X.flight.length = 0:=by rw[hf];rfl
      have eF:X = aU w (dg r):=by rw[←xy hv hn hx hr,←eX,kG hf]
      have cc:=da X hXD
      rw[←eF]
      conv=>whnf
      refine Ws<|g 36 43 [BT,BT,BT,BT,BT]<|J QZ<|Wc<|J (noT (by simp_all)) fun _=>We<|g 5 48 [.call (ar X) O1]<|J QZ<|RT ?_
      rfl
     ·have hl0:X.flight.length = fl.length+1:=by rw[hf];rfl
      obtain⟨b1,b2⟩:=uW hf hfl
      have hB:=kI 0 hX
      conv=>whnf
      refine Ws<|g 36 43 [BT,BT,BT,BT,BT]<|J QZ<|Wc<|J (fun _=>(Wk (Wb (rg [.call (ar (cH X 0)) O2]<|J QZ ?_)))) (noF SI)
      refine⟨cH X 0,[some 2,some 4,some 5],[],FZ,?_,?_⟩
      rotate_left
      rotate_right 1
      dsimp only
      all_goals first|exact⟨hB,b1.trans eX,.inl hr⟩|exact⟨hB,b1.trans eX⟩|(show(cH X 0).flight.length < X.flight.length;rw[b2];omega)
    ·exfalso;omega
   have hx:n = dg r∨1000000≤(aU w n).boss.now:=.inl OM
   conv=>whnf
   refine Ws<|g 13 25 [BT,BT,BT,BF,BF,BF,BF,BF]<|J QZ<|Wc<|Jr<|We<|Ws<|Wb<|Wl (fun s (X:World)=>⟨(SK s [1,2,4,5] []),[(2,(CK s 2 0 17 [])),(4,(CK s 4 0 17 [])),(5,[.own cI (X.plan.tasks.map ay),.t (.s X.key),.t (.i X.boss.workers),.t (.b X.boss.up),.t (.i X.boss.now),.t (.i X.boss.since),.t (.i X.boss.epoch),.t (.i X.boss.given),.own [false] (X.boss.log.safe.map ah),.own [false] (X.boss.log.loose.map ah),.own [false] (X.boss.results.map ah),.own dB (X.boss.jobs.map aH),.own bw (X.boss.seats.map aE),.own bx (X.boss.owed.map aJ),.own bB (X.workers.map ag),.own pkd (X.flight.map aY),.t (.s X.forged)])],[]⟩) (fun(X:World)=>WorldOk X∧dJ X = dJ (aU w n)∧(0 < r∨X = aU w n)) (fun(X:World)=>X.flight.length) (aU w n) [some 2,some 4,some 5] [] FZ ⟨by omega,by simp⟩ ?_
   rintro X ⟨hX,eX,eX2⟩
   have hXD:=fa hX
   have cb:=dc X 0 hXD
   have hfl:=hXD.fl
   by_cases hr:0 < r
   ·obtain hf|⟨s,fl,hf⟩:X.flight = []∨∃ s fl,X.flight = s :: fl:=by
     cases X.flight with
     |nil=>exact .inl rfl
     |cons s fl=>exact .inr ⟨s,fl,rfl⟩
    ·have hl0:X.flight.length = 0:=by rw[hf];rfl
     have eF:X = aU w (dg r):=by rw[←xy hv hn hx hr,←eX,kG hf]
     have cc:=da X hXD
     rw[←eF]
     conv=>whnf
     refine Ws<|g 36 43 [BT,BT,BT,BT,BT]<|J QZ<|Wc<|J (noT (by simp_all)) fun _=>We<|g 5 48 [.call (ar X) O1]<|J QZ<|RT ?_
     rfl
    ·have hl0:X.flight.length = fl.length+1:=by rw[hf];rfl
     obtain⟨b1,b2⟩:=uW hf hfl
     have hB:=kI 0 hX
     conv=>whnf
     refine Ws<|g 36 43 [BT,BT,BT,BT,BT]<|J QZ<|Wc<|J (fun _=>(Wk (Wb (rg [.call (ar (cH X 0)) O2]<|J QZ ?_)))) (noF SI)
     refine⟨cH X 0,[some 2,some 4,some 5],[],FZ,?_,?_⟩
     rotate_left
     rotate_right 1
     dsimp only
     all_goals first|exact⟨hB,b1.trans eX,.inl hr⟩|exact⟨hB,b1.trans eX⟩|(show(cH X 0).flight.length < X.flight.length;rw[b2];omega)
   ·exfalso;omega
  have hx:n = dg r∨1000000≤(aU w n).boss.now:=.inl OM
  conv=>whnf
  refine Ws<|g 13 25 (RL 8 BF [])<|J QZ<|Wc<|Jr<|We<|Ws<|Wb<|Wl (fun s (X:World)=>⟨(SK s [1,2,4,5] []),[(2,(CK s 2 0 17 [])),(4,(CK s 4 0 17 [])),(5,[.own cI (X.plan.tasks.map ay),.t (.s X.key),.t (.i X.boss.workers),.t (.b X.boss.up),.t (.i X.boss.now),.t (.i X.boss.since),.t (.i X.boss.epoch),.t (.i X.boss.given),.own [false] (X.boss.log.safe.map ah),.own [false] (X.boss.log.loose.map ah),.own [false] (X.boss.results.map ah),.own dB (X.boss.jobs.map aH),.own bw (X.boss.seats.map aE),.own bx (X.boss.owed.map aJ),.own bB (X.workers.map ag),.own pkd (X.flight.map aY),.t (.s X.forged)])],[]⟩) (fun(X:World)=>WorldOk X∧dJ X = dJ (aU w n)∧(0 < r∨X = aU w n)) (fun(X:World)=>X.flight.length) (aU w n) [some 2,some 4,some 5] [] FZ ⟨by omega,by simp⟩ ?_
  rintro X ⟨hX,eX,eX2⟩
  have hXD:=fa hX
  have cb:=dc X 0 hXD
  have hfl:=hXD.fl
  by_cases hr:0 < r
  ·obtain hf|⟨s,fl,hf⟩:X.flight = []∨∃ s fl,X.flight = s :: fl:=by
    cases X.flight with
    |nil=>exact .inl rfl
    |cons s fl=>exact .inr ⟨s,fl,rfl⟩
   ·have hl0:X.flight.length = 0:=by rw[hf];rfl
    have eF:X = aU w (dg r):=by rw[←xy hv hn hx hr,←eX,kG hf]
    have cc:=da X hXD
    rw[←eF]
    conv=>whnf
    refine Ws<|g 36 43 [BT,BT,BT,BT,BT]<|J QZ<|Wc<|J (noT (by simp_all)) fun _=>We<|g 5 48 [.call (ar X) O1]<|J QZ<|RT ?_
    rfl
   ·have hl0:X.flight.length = fl.length+1:=by rw[hf];rfl
    obtain⟨b1,b2⟩:=uW hf hfl
    have hB:=kI 0 hX
    conv=>whnf
    refine Ws<|g 36 43 [BT,BT,BT,BT,BT]<|J QZ<|Wc<|J (fun _=>(Wk (Wb (rg [.call (ar (cH X 0)) O2]<|J QZ ?_)))) (noF SI)
    refine⟨cH X 0,[some 2,some 4,some 5],[],FZ,?_,?_⟩
    rotate_left
    rotate_right 1
    dsimp only
    all_goals first|exact⟨hB,b1.trans eX,.inl hr⟩|exact⟨hB,b1.trans eX⟩|(show(cH X 0).flight.length < X.flight.length;rw[b2];omega)
  ·have e0:n = 0:=by omega
   have e1:dg r = 0:=by omega
   have eF:X = aU w (dg r):=by
    rcases eX2 with h|h
    ·exact absurd h hr
    ·rw[h,e0,e1]
   have cc:=da X hXD
   rw[←eF]
   conv=>whnf
   refine Ws<|g 36 43 [BF,BF,BF,BF,BF]<|J QZ<|Wc<|Jr<|We<|g 5 48 [.call (ar X) O1]<|J QZ<|RT ?_
   rfl
 ·rw[decide_eq_false hv]at cv
  have e0:g8 w r = noWorld:=if_neg hv
  rw[e0]
  refine xV ?_
  conv=>whnf
  refine g 0 1 []<|J QZ<|Ws<|g 8 9 [.call VF O1]<|J QZ<|Wc<|Kr (g 9 11 []<|J QZ (RT ?_))
  rfl
theorem ly(w:World)(r:Int)(h:WorldLim w):F lr [.val (ea w),.val (.i r)] (ar (g8 w r)) O2:=by
 have cv:=fC w h
 by_cases hv:WorldOk w
 ·rw[decide_eq_true hv]at cv
  have e0:g8 w r = aU w (dg r):=if_pos hv
  rw[e0]
  have c1:=lk w (fa hv)
  refine xW ?_
  conv=>whnf
  refine g 0 1 []<|J QZ<|Ws<|g 9 11 [.call VT O1]<|J QZ<|Wc<|Jr<|Wk<|g 11 15 [.call (ar w) O1]<|J QZ<|Ws<|g 0 0 []<|J UA<|Wb<|Wl (fun s (n:Nat)=>⟨(SK s [1,2,4] [(5,.i n)]),[(4,(CK s 4 0 17 [])),(2,[.own cI ((aU w n).plan.tasks.map ay),.t (.s (aU w n).key),.t (.i (aU w n).boss.workers),.t (.b (aU w n).boss.up),.t (.i (aU w n).boss.now),.t (.i (aU w n).boss.since),.t (.i (aU w n).boss.epoch),.t (.i (aU w n).boss.given),.own [false] ((aU w n).boss.log.safe.map ah),.own [false] ((aU w n).boss.log.loose.map ah),.own [false] ((aU w n).boss.results.map ah),.own dB ((aU w n).boss.jobs.map aH),.own bw ((aU w n).boss.seats.map aE),.own bx ((aU w n).boss.owed.map aJ),.own bB ((aU w n).workers.map ag),.own pkd ((aU w n).flight.map aY),.t (.s (aU w n).forged)])],[]⟩) (fun(n:Nat)=>n≤dg r) (fun(n:Nat)=>2000 - n) (0) [some 4,some 2] [] FZ OM ?_
  intro n hn
  have hR:dg r = min r.toNat 2000:=rfl
  have hN:=qW hv n
  by_cases hgo:n < dg r
  ·have ct:=ll (aU w n) hN
   have hT:=po hN
   have eR:aU w (n+1) = dJ (gy (aU w n)):=rfl
   generalize gy (aU w n) = tw at ct hT eR
   have hTf:=hT.fl
   have e1:fp tw 0 = dn tw []:=rfl
   conv=>whnf
   refine Ws<|g 15 21 [BT,BT,BT]<|J QZ<|Wc<|Kt (Wk (Ws (Wb (g 21 25 [.call (V.tup []) ([cellsOf (ar tw)])]<|J QZ (g 25 27 [.g]<|J QZ (g 27 28 []<|J UV (g 6 7 []<|J UC (Wb (Wl (fun s (m:Nat)=>⟨(SK s [1,2,4,5,28,29] [(30,.i m)]),[(4,(CK s 4 0 17 [])),(26,[s.c 26 0]),(2,[.own cI ((fp tw m).plan.tasks.map ay),.t (.s (fp tw m).key),.t (.i (fp tw m).boss.workers),.t (.b (fp tw m).boss.up),.t (.i (fp tw m).boss.now),.t (.i (fp tw m).boss.since),.t (.i (fp tw m).boss.epoch),.t (.i (fp tw m).boss.given),.own [false] ((fp tw m).boss.log.safe.map ah),.own [false] ((fp tw m).boss.log.loose.map ah),.own [false] ((fp tw m).boss.results.map ah),.own dB ((fp tw m).boss.jobs.map aH),.own bw ((fp tw m).boss.seats.map aE),.own bx ((fp tw m).boss.owed.map aJ),.own bB ((fp tw m).workers.map ag),.own pkd ((fp tw m).flight.map aY),.t (.s (fp tw m).forged)])],[]⟩) (fun(m:Nat)=>m≤tw.flight.length) (fun(m:Nat)=>tw.flight.length - m) (0) [some 4,some 26,some 2] [] FZ OM ?_)))))))))
   intro m hm
   have hP:=XI hT m
   by_cases hm2:m < tw.flight.length
   ·obtain⟨s,hs⟩:=ae hm2
    have cb:=kg (fp tw m) s hP (hT.par s (List.mem_of_getElem? hs))
    rw[Qg hs]at cb
    conv=>whnf
    refine g 0 0 []<|J UA<|Ws<|Wc<|J (fun _=>(Wk (Ws (Wb (g 31 34 [.n (m),.x (bq s)]<|J QZ (rg [.call (V.tup []) ([cellsOf (ar (fp tw (m+1))),[]])]<|J QZ (rg [.i ((m:Int) +1)]<|J QZ ?_))))))) (noF SI)
    refine⟨m+1,[some 4,some 26,some 2],[],FZ,?_,?_⟩
    rotate_left
    (dsimp only;omega)
    dsimp only
    omega
   ·have e2:=Tf (tw:=tw) (n:=m) OM
    conv=>whnf
    refine g 0 0 []<|J UA<|Ws<|Wc<|J (noT SI) fun _=>We<|rg [.i ((n:Int) +1)]<|J QZ ?_
    refine⟨n+1,[some 4,some 2],[],⟨rfl,FZ,⟨FZ,⟨⟨rfl,⟨(congrArg (V.own _) (by rw[eR,←e2])),⟨(congrArg (fun z=>V.t (T.v (Value.string z))) (by rw[eR,←e2])),⟨(congrArg (fun z=>V.t (T.v (Value.int _ z))) (by rw[eR,←e2])),⟨(congrArg (fun z=>V.t (T.v (Value.bool z))) (by rw[eR,←e2])),⟨(congrArg (fun z=>V.t (T.v (Value.int _ z))) (by rw[eR,←e2])),⟨(congrArg (fun z=>V.t (T.v (Value.int _ z))) (by rw[eR,←e2])),⟨(congrArg (fun z=>V.t (T.v (Value.int _ z))) (by rw[eR,←e2])),⟨(congrArg (fun z=>V.t (T.v (Value.int _ z))) (by rw[eR,←e2])),⟨(congrArg (V.own _) (by rw[eR,←e2])),⟨(congrArg (V.own _) (by rw[eR,←e2])),⟨(congrArg (V.own _) (by rw[eR,←e2])),⟨(congrArg (V.own _) (by rw[eR,←e2])),⟨(congrArg (V.own _) (by rw[eR,←e2])),⟨(congrArg (V.own _) (by rw[eR,←e2])),⟨(congrArg (V.own _) (by rw[eR,←e2])),⟨(congrArg (V.own _) (by rw[eR,←e2])),⟨(congrArg (fun z=>V.t (T.v (Value.string z))) (by rw[eR,←e2])),I⟩⟩⟩⟩⟩⟩⟩⟩⟩⟩⟩⟩⟩⟩⟩⟩⟩⟩,I⟩⟩,I⟩,?_,?_⟩
    rotate_left
    (dsimp only;omega)
    dsimp only
    omega
  ·obtain rfl:n = dg r:=by omega
   conv=>whnf
   refine Ws ?_
   by_cases h1:(↑(dg r):Int) < r
   refine g 15 21 [BT,BT,BT]<|J QZ<|Wc<|Jf<|We<|g 5 38 []<|J QZ<|RT ?_
   rfl
   refine g 15 21 [BF,BF,BF]<|J QZ<|Wc<|Jr<|We<|g 5 38 []<|J QZ<|RT ?_
   rfl
 ·rw[decide_eq_false hv]at cv
  have e0:g8 w r = noWorld:=if_neg hv
  rw[e0]
  refine xW ?_
  conv=>whnf
  refine g 0 1 []<|J QZ<|Ws<|g 9 11 [.call VF O1]<|J QZ<|Wc<|Kr (g 11 13 []<|J QZ (RT ?_))
  rfl
end Go.K
end
section
open Go Go.Tm Go.Proofs
namespace Go.K
theorem JV(l:List Int)(hlen:l.length≤1048576)(h8:∀ x∈l,0≤x∧x≤255):∃ res outs,(∃ (w:World) (a:Int),res = .tup [ar w,.i a]∧outs = O1∧AnyW w∧ -1≤a∧a≤28)∧F yz [.val (.t (u8s l))] res outs:=by
 have hu:=Xy h8
 have co:=EN l OM
 generalize l.take 2000 = k at co hu
 obtain⟨res,outs,⟨w,q,rfl,rfl,a1,a2,a3⟩,hA⟩:=TD k 0 hu OM OM
 have p30:=ak k q 30
 refine yq ?_
 conv=>whnf
 refine g 0 0 []<|J UB<|g 6 8 [.call (V.tup [V.tup (rdC k 0)]) O1]<|J QZ<|g 8 10 [.call (ar w) ([rdC k q])]<|J QZ<|gd 4 14 [[],[],[.call (V.i (ac k q 30)) ([rdC k (q+1),[]])],[.i (ac k q (30:Int) - 1)],[],[]] ?_
 conv=>whnf
 refine J (QA @aa)<|J KR<|W.ret<|EndsW.rt<|J QZ ?_
 exact⟨w,ac k q 30 - 1,rfl,rfl,a1,by omega,by omega⟩
theorem Mg(r:Int):g8 noWorld r = noWorld:=if_neg aaT
theorem P0(w:World){a b:Int}(ha:0≤a∧a≤100)(hb:0≤b∧b≤100):g8 (g8 w a) b = g8 w (a+b):=by
 by_cases hv:WorldOk w
 ·have e1:g8 w a = aU w (min a.toNat 2000):=if_pos hv
  have e2:g8 w (a+b) = aU w (min (a+b).toNat 2000):=if_pos hv
  have h2:=qW hv (min a.toNat 2000)
  rw[e1,e2,show g8 (aU w (min a.toNat 2000)) b = aU (aU w (min a.toNat 2000)) (min b.toNat 2000)from if_pos h2,Ly]
  congr 1
  omega
 ·rw[show g8 w a = noWorld from if_neg hv,show g8 w (a+b) = noWorld from if_neg hv,Mg]
theorem Bo(w:World)(r:Int):sZ (g8 w r):=by
 unfold g8;split
 ·rename_i h;exact .inl (qW h _)
 ·exact .inr rfl
theorem QU{w:World}(hl:WorldLim w){c b:Int}(hc:0≤c∧c≤28)(hb:0≤b∧b≤16):∃ u y:World,sZ y∧
 F lr [.val (ea w),.val (.i c)] (ar u) O2∧F lr [.val (ea u),.val (.i b)] (ar y) O2∧
 F lr [.val (ea w),.val (.i (c+b))] (ar y) O2∧F xR [.val (ea w),.val (.i (c+b))] (ar y) O2∧
 F qD [.val (ea y),.val (ea y)] (.b true) O2∧(¬WorldOk w→y = noWorld)∧(WorldOk w→¬c+b = 0→y.flight = [])∧(WorldOk w→c = 0→u = w):=by
 have hg1:=Bo w c
 have hg2:=Bo w (c+b)
 have c2:=ly (g8 w c) b (ya (bO hg1))
 rw[P0 w ⟨hc.1,by omega⟩ ⟨hb.1,by omega⟩]at c2
 refine⟨g8 w c,g8 w (c+b),hg2,ly w c hl,c2,ly w (c+b) hl,J2 w (c+b) hl,qX _ (ya (bO hg2)),fun h=>if_neg h,fun h h0=>?_,fun h h0=>by subst h0;exact if_pos h⟩
 rw[show g8 w (c+b) = aU w (min (c+b).toNat 2000)from if_pos h,show min (c+b).toNat 2000 = (c+b).toNat - 1+1 by omega]
 exact yf _ _
theorem Tr(code:List Int)(hc:code.length≤9223372036854775807)(h8:∀ x∈code,0≤x∧x≤255)(more:List Int)(hm:more.length≤9223372036854775807)(h9:∀ x∈more,0≤x∧x≤255):F qE [.val (.t (u8s code)),.val (.t (u8s more))] (.b true) O2:=by
 by_cases hb1:1048576 < code.length
 ·refine dR ?_
  conv=>whnf
  refine g 0 0 []<|J UA<|Ws ?_
  by_cases h1:(1048576:Int) < (↑(List.length (List.map b1T code)):Int)
  simp only[LM]at h1
  refine g 11 17 [BT,BT,BT,BT]<|J QZ<|Wc<|Kr (g 17 18 []<|J UA (RT ?_))
  rfl
  simp only[LM]at h1
  omega
 by_cases hb2:1048576 < more.length
 ·refine dR ?_
  conv=>whnf
  refine g 0 0 []<|J UA<|Ws ?_
  by_cases h1:(1048576:Int) < (↑(List.length (List.map b1T code)):Int)
  simp only[LM]at h1
  omega
  simp only[LM]at h1
  refine g 11 17 [BF,BF,BF,BF]<|J QZ<|Wc<|J (fun h2=>?_) fun h2=>?_
  replace h2:=dt h2
  simp only[LM]at h2
  refine g 17 18 []<|J UA<|RT ?_
  rfl
  replace h2:=df h2
  simp only[LM]at h2
  omega
 obtain⟨res,outs,⟨w,a,rfl,rfl,hw,ha1,ha2⟩,hD⟩:=JV code OM h8
 have hl:=Yl hw
 have hB:0≤((more.map b1T).length:Int).tmod 17∧((more.map b1T).length:Int).tmod 17≤16:=by
  rw[Int.tmod_eq_emod_of_nonneg OM];omega
 have cv:=eJ w hl
 have c5:=ly w 0 hl
 have c6:=qX w hl
 have hfin:∀ c:Int,(0≤c∧c≤28)→(c = if a < 0 then 0 else a)→F qE [.val (.t (u8s code)),.val (.t (u8s more))] (.b true) O2:=by
  intro c hc hca
  obtain⟨u,y,hy,d1,d2,d3,d4,d5,d6,d7,d8⟩:=QU hl hc hB
  have hyl:=(bO hy).fl
  by_cases hv:WorldOk w
  ·rw[show g8 w 0 = w from if_pos hv]at c5
   rw[decide_eq_true hv]at cv
   have hy0:=d7 hv
   by_cases hs:c+ ((more.map b1T).length:Int).tmod 17 = 0
   ·by_cases hn:a < 0
    ·rw[if_pos hn]at hca
     subst hca
     obtain rfl:=d8 hv rfl
     refine dR ?_
     conv=>whnf
     refine g 0 0 []<|J UA<|Ws ?_
     by_cases h1:(1048576:Int) < (↑(List.length (List.map b1T code)):Int)
     simp only[LM]at h1
     omega
     simp only[LM]at h1
     refine g 11 17 [BF,BF,BF,BF]<|J QZ<|Wc<|J (fun h2=>?_) fun h2=>?_
     replace h2:=dt h2
     simp only[LM]at h2
     omega
     replace h2:=df h2
     simp only[LM]at h2
     refine Wk<|g 17 23 [.call (V.tup [ar u,V.i a]) O1]<|J QZ<|g 23 26 [.i (Int.tmod (↑(List.length (List.map b1T more)):Int) 17)]<|J QZ<|Ws<|g 0 2 []<|J UB<|Wc<|Kt (rg []<|J UA (g 26 33 [.call (ar u) O2,.call (ar y) O2]<|J QZ (g 33 38 [.i (0+Int.tmod (↑(List.length (List.map b1T more)):Int) 17),.call (ar y) O2]<|J QZ (Ws (gd 38 51 [[],[],[.call VT O2],[],[],[BF],[BF],[BF],[BF],[BF,.i (0+Int.tmod (↑(List.length (List.map b1T more)):Int) 17)],[BF,.call (ar y) O2],[BF,.call VT O2],[BF],[BF]] ?_)))))
     conv=>whnf
     refine⟨Zae,by kernel_rfl,?_⟩
     refine Wc<|Jr<|Wk<|Ws<|g 51 54 [.call VT O1]<|J QZ<|Wc<|Jr<|Wk<|gd 5 74 [[],[],[.i (0+Int.tmod (↑(List.length (List.map b1T more)):Int) 17)],[],[],[BT],[BT],[BT],[BT],[BT],[],[BT],[BT,.call (ar u) O2],[BT],[BT,.call VT O2],[BT],[]] ?_
     conv=>whnf
     refine J QZ<|J KR<|RT ?_
     rfl
    ·rw[if_neg hn]at hca
     subst hca
     refine dR ?_
     conv=>whnf
     refine g 0 0 []<|J UA<|Ws ?_
     by_cases h1:(1048576:Int) < (↑(List.length (List.map b1T code)):Int)
     simp only[LM]at h1
     omega
     simp only[LM]at h1
     refine g 11 17 [BF,BF,BF,BF]<|J QZ<|Wc<|J (fun h2=>?_) fun h2=>?_
     replace h2:=dt h2
     simp only[LM]at h2
     omega
     replace h2:=df h2
     simp only[LM]at h2
     refine Wk<|g 17 23 [.call (V.tup [ar w,V.i c]) O1]<|J QZ<|g 23 26 [.i (Int.tmod (↑(List.length (List.map b1T more)):Int) 17)]<|J QZ<|Ws<|g 0 2 []<|J UB<|Wc<|Jf<|Wk<|g 26 33 [.call (ar u) O2,.call (ar y) O2]<|J QZ<|g 33 38 [.i (c+Int.tmod (↑(List.length (List.map b1T more)):Int) 17),.call (ar y) O2]<|J QZ<|Ws<|gd 38 51 [[],[],[.call VT O2],[],[],[BF],[BF],[BF],[BF],[BF,.i (c+Int.tmod (↑(List.length (List.map b1T more)):Int) 17)],[BF,.call (ar y) O2],[BF,.call VT O2],[BF],[BF]] ?_
     conv=>whnf
     refine J QZ<|J KR<|Wc<|Jr<|Wk<|Ws<|g 51 54 [.call VT O1]<|J QZ<|Wc<|Jr<|Wk<|gd 5 74 [[],[],[.i (c+Int.tmod (↑(List.length (List.map b1T more)):Int) 17)],[],[],[BT],[BT],[BT],[BT],[BT],[],[BT],[BT,.call (ar w) O2],[BT],[BT,.call VT O2],[BT],[]] ?_
     conv=>whnf
     refine J QZ<|J KR<|RT ?_
     rfl
   ·have hyf:=hy0 hs
    have hyn:(y.flight.length:Int) = 0:=by rw[hyf];rfl
    by_cases hn:a < 0
    ·rw[if_pos hn]at hca
     subst hca
     obtain rfl:=d8 hv rfl
     refine dR ?_
     conv=>whnf
     refine g 0 0 []<|J UA<|Ws ?_
     by_cases h1:(1048576:Int) < (↑(List.length (List.map b1T code)):Int)
     simp only[LM]at h1
     omega
     simp only[LM]at h1
     refine g 11 17 [BF,BF,BF,BF]<|J QZ<|Wc<|J (fun h2=>?_) fun h2=>?_
     replace h2:=dt h2
     simp only[LM]at h2
     omega
     replace h2:=df h2
     simp only[LM]at h2
     refine Wk<|g 17 23 [.call (V.tup [ar u,V.i a]) O1]<|J QZ<|g 23 26 [.i (Int.tmod (↑(List.length (List.map b1T more)):Int) 17)]<|J QZ<|Ws<|g 0 2 []<|J UB<|Wc<|Kt (rg []<|J UA (g 26 33 [.call (ar u) O2,.call (ar y) O2]<|J QZ (g 33 38 [.i (0+Int.tmod (↑(List.length (List.map b1T more)):Int) 17),.call (ar y) O2]<|J QZ (Ws (gd 38 51 [[],[],[.call VT O2],[],[],[BF],[BF],[BF],[BF],[BF,.i (0+Int.tmod (↑(List.length (List.map b1T more)):Int) 17)],[BF,.call (ar y) O2],[BF,.call VT O2],[BF],[BF]] ?_)))))
     conv=>whnf
     refine⟨Zae,by kernel_rfl,?_⟩
     refine Wc<|Jr<|Wk<|Ws<|g 51 54 [.call VT O1]<|J QZ<|Wc<|Jr<|Wk<|gd 5 74 [[],[],[.i (0+Int.tmod (↑(List.length (List.map b1T more)):Int) 17)],[],[],[BF],[BF],[BF],[BF],[BF],[],[BT],[BT,.call (ar u) O2],[BT],[BT,.call VT O2],[BT],[]] ?_
     conv=>whnf
     refine J QZ<|J KR<|RT ?_
     rfl
    ·rw[if_neg hn]at hca
     subst hca
     refine dR ?_
     conv=>whnf
     refine g 0 0 []<|J UA<|Ws ?_
     by_cases h1:(1048576:Int) < (↑(List.length (List.map b1T code)):Int)
     simp only[LM]at h1
     omega
     simp only[LM]at h1
     refine g 11 17 [BF,BF,BF,BF]<|J QZ<|Wc<|J (fun h2=>?_) fun h2=>?_
     replace h2:=dt h2
     simp only[LM]at h2
     omega
     replace h2:=df h2
     simp only[LM]at h2
     refine Wk<|g 17 23 [.call (V.tup [ar w,V.i c]) O1]<|J QZ<|g 23 26 [.i (Int.tmod (↑(List.length (List.map b1T more)):Int) 17)]<|J QZ<|Ws<|g 0 2 []<|J UB<|Wc<|Jf<|Wk<|g 26 33 [.call (ar u) O2,.call (ar y) O2]<|J QZ<|g 33 38 [.i (c+Int.tmod (↑(List.length (List.map b1T more)):Int) 17),.call (ar y) O2]<|J QZ<|Ws<|gd 38 51 [[],[],[.call VT O2],[],[],[BF],[BF],[BF],[BF],[BF,.i (c+Int.tmod (↑(List.length (List.map b1T more)):Int) 17)],[BF,.call (ar y) O2],[BF,.call VT O2],[BF],[BF]] ?_
     conv=>whnf
     refine J QZ<|J KR<|Wc<|Jr<|Wk<|Ws<|g 51 54 [.call VT O1]<|J QZ<|Wc<|Jr<|Wk<|gd 5 74 [[],[],[.i (c+Int.tmod (↑(List.length (List.map b1T more)):Int) 17)],[],[],[BF],[BF],[BF],[BF],[BF],[],[BT],[BT,.call (ar w) O2],[BT],[BT,.call VT O2],[BT],[]] ?_
     conv=>whnf
     refine J QZ<|J KR<|RT ?_
     rfl
  ·rw[decide_eq_false hv]at cv
   obtain rfl:=d6 hv
   by_cases hn:a < 0
   ·rw[if_pos hn]at hca
    subst hca
    refine dR ?_
    conv=>whnf
    refine g 0 0 []<|J UA<|Ws ?_
    by_cases h1:(1048576:Int) < (↑(List.length (List.map b1T code)):Int)
    simp only[LM]at h1
    omega
    simp only[LM]at h1
    refine g 11 17 [BF,BF,BF,BF]<|J QZ<|Wc<|J (fun h2=>?_) fun h2=>?_
    replace h2:=dt h2
    simp only[LM]at h2
    omega
    replace h2:=df h2
    simp only[LM]at h2
    refine Wk<|g 17 23 [.call (V.tup [ar w,V.i a]) O1]<|J QZ<|g 23 26 [.i (Int.tmod (↑(List.length (List.map b1T more)):Int) 17)]<|J QZ<|Ws<|g 0 2 []<|J UB<|Wc<|Kt (rg []<|J UA (g 26 33 [.call (ar u) O2,.call (ar noWorld) O2]<|J QZ (g 33 38 [.i (0+Int.tmod (↑(List.length (List.map b1T more)):Int) 17),.call (ar noWorld) O2]<|J QZ (Ws (gd 38 51 [[],[],[.call VT O2],[],[],[BF],[BF],[BF],[BF],[BF,.i (0+Int.tmod (↑(List.length (List.map b1T more)):Int) 17)],[BF,.call (ar noWorld) O2],[BF,.call VT O2],[BF],[BF]] ?_)))))
    conv=>whnf
    refine⟨Zae,by kernel_rfl,?_⟩
    refine Wc<|Jr<|Wk<|Ws<|g 51 54 [.call VF O1]<|J QZ<|Wc<|Kr (g 54 58 [.call VT O2]<|J QZ (RT ?_))
    rfl
   ·rw[if_neg hn]at hca
    subst hca
    refine dR ?_
    conv=>whnf
    refine g 0 0 []<|J UA<|Ws ?_
    by_cases h1:(1048576:Int) < (↑(List.length (List.map b1T code)):Int)
    simp only[LM]at h1
    omega
    simp only[LM]at h1
    refine g 11 17 [BF,BF,BF,BF]<|J QZ<|Wc<|J (fun h2=>?_) fun h2=>?_
    replace h2:=dt h2
    simp only[LM]at h2
    omega
    replace h2:=df h2
    simp only[LM]at h2
    refine Wk<|g 17 23 [.call (V.tup [ar w,V.i c]) O1]<|J QZ<|g 23 26 [.i (Int.tmod (↑(List.length (List.map b1T more)):Int) 17)]<|J QZ<|Ws<|g 0 2 []<|J UB<|Wc<|Jf<|Wk<|g 26 33 [.call (ar u) O2,.call (ar noWorld) O2]<|J QZ<|g 33 38 [.i (c+Int.tmod (↑(List.length (List.map b1T more)):Int) 17),.call (ar noWorld) O2]<|J QZ<|Ws<|gd 38 51 [[],[],[.call VT O2],[],[],[BF],[BF],[BF],[BF],[BF,.i (c+Int.tmod (↑(List.length (List.map b1T more)):Int) 17)],[BF,.call (ar noWorld) O2],[BF,.call VT O2],[BF],[BF]] ?_
    conv=>whnf
    refine J QZ<|J KR<|Wc<|Jr<|Wk<|Ws<|g 51 54 [.call VF O1]<|J QZ<|Wc<|Kr (g 54 58 [.call VT O2]<|J QZ (RT ?_))
    rfl
 refine hfin (if a < 0 then 0 else a) ?_ rfl
 split <;> omega
end Go.K
end

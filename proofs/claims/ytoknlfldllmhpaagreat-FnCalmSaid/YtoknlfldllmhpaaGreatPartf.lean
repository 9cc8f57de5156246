/- Contracts of functions of the program: what each call answers. -/
import Derived.Test.YtoknlfldllmhpaaGreatParte
set_option maxHeartbeats 8000000
set_option maxRecDepth 20000
set_option linter.unusedVariables false
set_option linter.unusedSimpArgs false
section
open Go Go.Tm Go.Proofs
namespace Go.K
noncomputable def sm(key:ByteArray)(acc:List Parcel)(m:Message):List Parcel:=if bN m∧key.size≤30∧acc.length < 2000 then acc++ [⟨m.to,dY m key,dY m key⟩]else acc
noncomputable def iQ(xs:List Parcel)(ms:List Message)(key:ByteArray)(n:Nat):List Parcel:=(ms.take n).foldl (sm key) xs
noncomputable def sn(xs:List Parcel)(ms:List Message)(key:ByteArray):List Parcel:=iQ xs ms key ms.length
theorem MF(xs:List Parcel)(ms:List Message)(key:ByteArray):iQ xs ms key 0 = xs:=by unfold iQ;rw[List.take_zero];rfl
theorem sr{xs:List Parcel}{ms:List Message}{key:ByteArray}{n:Nat}{m:Message}(h:ms[n]? = some m):iQ xs ms key (n+1) = sm key (iQ xs ms key n) m:=by
 unfold iQ;rw[List.take_add_one,h];simp
theorem Te{key:ByteArray}{acc:List Parcel}{m:Message}(h:acc.length≤1048576):(sm key acc m).length≤1048576:=by
 unfold sm;split
 ·rename_i h2;rw[List.length_append];simp;omega
 ·exact h
theorem uz{xs:List Parcel}(ms:List Message)(key:ByteArray)(h:xs.length≤1048576):∀ n,(iQ xs ms key n).length≤1048576
 |0=>by rw[MF];exact h
 |n+1=>by
  cases hm:ms[n]? with
  |none =>
   have:ms.take (n+1) = ms.take n:=by rw[List.take_add_one,hm];simp
   have e:iQ xs ms key (n+1) = iQ xs ms key n:=by unfold iQ;rw[this]
   rw[e];exact uz ms key h n
  |some m=>rw[sr hm];exact Te (uz ms key h n)
theorem BB(b k:ByteArray):(fS b k).size = 8:=by unfold fS qp;rw[gZ,rk]
theorem Qy{m:Message}{key:ByteArray}(h:bN m)(hk:key.size≤30):¬dY m key = emp:=fun e=>by
 have:=congrArg ByteArray.size e
 rw[dY,if_pos ⟨h,hk⟩,ByteArray.size_append,BB]at this
 have h0:emp.size = 0:=by decide
 omega
theorem Tz{m:Message}{key:ByteArray}(h:¬(bN m∧key.size≤30)):dY m key = emp:=by rw[dY,if_neg h]
theorem KP{xs:List Parcel}{ms:List Message}{key:ByteArray}{n:Nat}{m:Message}(h:ms[n]? = some m)(h1:bN m)(h2:key.size≤30)(h3:(iQ xs ms key n).length < 2000) :
 (iQ xs ms key n).map aY++ [aY ⟨m.to,dY m key,dY m key⟩] = (iQ xs ms key (n+1)).map aY:=by
 rw[sr h,sm,if_pos ⟨h1,h2,h3⟩,List.map_append];rfl
theorem u0{xs:List Parcel}{ms:List Message}{key:ByteArray}{n:Nat}{m:Message}(h:ms[n]? = some m)(h1:¬(bN m∧key.size≤30∧(iQ xs ms key n).length < 2000)) :
 (iQ xs ms key n).map aY = (iQ xs ms key (n+1)).map aY:=by
 rw[sr h,sm,if_neg h1]
theorem J5(xs:List Parcel)(ms:List Message)(key:ByteArray)(hx:xs.length≤1048576)(hl:ms.length≤1048576)(hm:∀ m∈ms,m.inputs.length≤1048576):F Jy [.val (.t (xQ xs)),.val (.t (.slc cU (ms.map aL))),.val (.s key)] (.own pkd ((sn xs ms key).map aY)) O3:=by
 refine JQ ?_
 conv=>whnf
 refine g 0 0 []<|J UA<|g 11 13 [.call (V.own pkd (List.map aY xs)) O1]<|J (QA @dW)<|Ws<|g 0 0 []<|J UC<|Wb<|Wl (fun s (n:Nat)=>⟨(SK s [0,1,2,6] [(7,.ref ⟨12,none,0⟩),(13,s.s 13),(14,s.s 14),(15,.i n)]),[(12,[.own pkd ((iQ xs ms key n).map aY)])],[]⟩) (fun(n:Nat)=>n≤ms.length) (fun(n:Nat)=>ms.length - n) (0) [some 12] [] FZ OM ?_
 intro n hn
 have hpl:=uz ms key hx n
 by_cases hn2:n < ms.length
 ·obtain⟨m,hm1⟩:=ae hn2
  have hmi:=hm m (List.mem_of_getElem? hm1)
  have cv:=cR m OM
  have cf:=rV m key OM
  by_cases hv:bN m
  ·rw[decide_eq_true hv]at cv
   by_cases hk:key.size≤30
   ·by_cases h3:(iQ xs ms key n).length < 2000
    ·conv=>whnf
     refine g 0 0 []<|J UA<|Ws<|Wc<|J (fun _=>(Wk (Ws (Wb (g 16 19 [.x (aL m)]<|J QZ (g 19 30 (.call VT O1::(RL 8 BT []))<|J QZ (Wc<|J (fun h1=>?_) fun h1=>?_))))))) (noF SI)
     replace h1:=dt h1
     simp only[LM]at h1
     refine g 30 34 [.call (V.s (dY m key)) O2]<|J QZ<|rg []<|J QZ<|rg [.i ((n:Int) +1)]<|J QZ ?_
     rotate_left
     replace h1:=df h1
     simp only[LM]at h1
     omega
     refine⟨n+1,[some 41],[],⟨rfl,FZ,⟨⟨rfl,⟨(congrArg (V.own _) (KP hm1 hv hk h3)),I⟩⟩,I⟩,I⟩,?_,?_⟩
     rotate_left
     (dsimp only;omega)
     dsimp only
     omega
    ·conv=>whnf
     refine g 0 0 []<|J UA<|Ws<|Wc<|J (fun _=>(Wk (Ws (Wb (g 16 19 [.x (aL m)]<|J QZ (g 19 30 (.call VT O1::(RL 8 BT []))<|J QZ (Wc<|J (fun h1=>?_) fun h1=>?_))))))) (noF SI)
     replace h1:=dt h1
     simp only[LM]at h1
     omega
     replace h1:=df h1
     simp only[LM]at h1
     refine Wk<|rg [.i ((n:Int) +1)]<|J QZ ?_
     refine⟨n+1,[some 12],[],⟨rfl,FZ,⟨⟨rfl,⟨(congrArg (V.own _) (u0 hm1 (fun q=>h3 q.2.2))),I⟩⟩,I⟩,I⟩,?_,?_⟩
     rotate_left
     (dsimp only;omega)
     dsimp only
     omega
   ·conv=>whnf
    refine g 0 0 []<|J UA<|Ws<|Wc<|J (fun _=>(Wk (Ws (Wb (g 16 19 [.x (aL m)]<|J QZ (g 19 30 [.call VT O1,BT,BT,BT,BT,BF,BF,BF,BF]<|J QZ (Wc<|Jr<|(Wk (rg [.i ((n:Int) +1)]<|J QZ ?_))))))))) (noF SI)
    refine⟨n+1,[some 12],[],⟨rfl,FZ,⟨⟨rfl,⟨(congrArg (V.own _) (u0 hm1 (fun q=>hk q.2.1))),I⟩⟩,I⟩,I⟩,?_,?_⟩
    rotate_left
    (dsimp only;omega)
    dsimp only
    omega
  ·rw[decide_eq_false hv]at cv
   conv=>whnf
   refine g 0 0 []<|J UA<|Ws<|Wc<|J (fun _=>(Wk (Ws (Wb (g 16 19 [.x (aL m)]<|J QZ (g 19 30 (.call VF O1::(RL 8 BF []))<|J QZ (Wc<|Jr<|(Wk (rg [.i ((n:Int) +1)]<|J QZ ?_))))))))) (noF SI)
   refine⟨n+1,[some 12],[],⟨rfl,FZ,⟨⟨rfl,⟨(congrArg (V.own _) (u0 hm1 (fun q=>hv q.1))),I⟩⟩,I⟩,I⟩,?_,?_⟩
   rotate_left
   (dsimp only;omega)
   dsimp only
   omega
 ·conv=>whnf
  refine g 0 0 []<|J UA<|Ws<|Wc<|J (noT SI) fun _=>We<|g 7 44 []<|J UB<|RT ?_
  rw[sn,show n = ms.length by omega]
theorem yg(xs:List Parcel)(ms:List Message)(key:ByteArray)(hx:xs.length≤1048576)(hl:ms.length≤1048576)(hm:∀ m∈ms,m.inputs.length≤1048576):F Jt [.val (.t (xQ xs)),.val (.t (.slc cU (ms.map aL))),.val (.s key)] (.own pkd ((sn xs ms key).map aY)) O3:=by
 refine JK ?_
 conv=>whnf
 refine g 0 0 []<|J UA<|g 10 12 [.call (V.own pkd (List.map aY xs)) O1]<|J (QA @dU)<|Ws<|g 0 0 []<|J UA<|Wb<|Wl (fun s (n:Nat)=>⟨(SK s [0,1,2,6] [(7,.ref ⟨11,none,0⟩),(8,.i n)]),[(11,[.own pkd ((iQ xs ms key n).map aY)])],[]⟩) (fun(n:Nat)=>n≤ms.length) (fun(n:Nat)=>ms.length - n) (0) [some 11] [] FZ OM ?_
 intro n hn
 have hpl:=uz ms key hx n
 by_cases hn2:n < ms.length
 ·obtain⟨m,hm1⟩:=ae hn2
  have hmi:=hm m (List.mem_of_getElem? hm1)
  have cf:=dX m key OM
  by_cases hv:bN m∧key.size≤30
  ·have hf:=Qy hv.1 hv.2
   by_cases h3:(iQ xs ms key n).length < 2000
   ·conv=>whnf
    refine Ws<|g 12 15 []<|J UD<|Wc<|J (fun _=>(Wk (Ws (Wb (g 15 24 [.x (aL m),.call (V.s (dY m key)) O2]<|J QZ (g 24 30 [BT,BT,BT,BT]<|J QZ (Wc<|J (fun h1=>?_) fun h1=>?_))))))) (noF SI)
    replace h1:=dt h1
    simp only[LM]at h1
    refine rg [.x (aL m)]<|J QZ<|rg [.i ((n:Int) +1)]<|J QZ ?_
    rotate_left
    replace h1:=df h1
    simp only[LM]at h1
    omega
    refine⟨n+1,[some 41],[],⟨rfl,FZ,⟨⟨rfl,⟨(congrArg (V.own _) (KP hm1 hv.1 hv.2 h3)),I⟩⟩,I⟩,I⟩,?_,?_⟩
    rotate_left
    (dsimp only;omega)
    dsimp only
    omega
   ·conv=>whnf
    refine Ws<|g 12 15 []<|J UD<|Wc<|J (fun _=>(Wk (Ws (Wb (g 15 24 [.x (aL m),.call (V.s (dY m key)) O2]<|J QZ (g 24 30 [BT,BT,BT,BT]<|J QZ (Wc<|J (fun h1=>?_) fun h1=>?_))))))) (noF SI)
    replace h1:=dt h1
    simp only[LM]at h1
    omega
    replace h1:=df h1
    simp only[LM]at h1
    refine Wk<|rg [.i ((n:Int) +1)]<|J QZ ?_
    refine⟨n+1,[some 11],[],⟨rfl,FZ,⟨⟨rfl,⟨(congrArg (V.own _) (u0 hm1 (fun q=>h3 q.2.2))),I⟩⟩,I⟩,I⟩,?_,?_⟩
    rotate_left
    (dsimp only;omega)
    dsimp only
    omega
  ·rw[Tz hv]at cf
   conv=>whnf
   refine Ws<|g 12 15 []<|J UD<|Wc<|J (fun _=>(Wk (Ws (Wb (g 15 24 [.x (aL m),.call (V.s emp) O2]<|J QZ (g 24 30 [BF,BF,BF,BF]<|J QZ (Wc<|Jr<|(Wk (rg [.i ((n:Int) +1)]<|J QZ ?_))))))))) (noF SI)
   refine⟨n+1,[some 11],[],⟨rfl,FZ,⟨⟨rfl,⟨(congrArg (V.own _) (u0 hm1 (fun q=>hv ⟨q.1,q.2.1⟩))),I⟩⟩,I⟩,I⟩,?_,?_⟩
   rotate_left
   (dsimp only;omega)
   dsimp only
   omega
 ·conv=>whnf
  refine Ws<|g 12 15 []<|J UD<|Wc<|J (noT SI) fun _=>We<|g 7 43 []<|J UB<|RT ?_
  rw[sn,show n = ms.length by omega]
end Go.K
end
section
open Go Go.Tm Go.Proofs
namespace Go.K
abbrev bq(p:Parcel):List T:=aY p
end Go.K
end
section
open Go Go.Tm Go.Proofs
namespace Go.K
abbrev kS:List Bool:=pkd
end Go.K
end
section
open Go Go.Tm Go.Proofs
namespace Go.K
structure World where
 plan:Plan
 key:ByteArray
 boss:Boss
 workers:List Worker
 flight:List Parcel
 forged:ByteArray
 deriving DecidableEq
abbrev ea(x:World):V:=.agg [.t (.slc cI (x.plan.tasks.map ay)),.t (.s x.key),.t (.i x.boss.workers),.t (.b x.boss.up),.t (.i x.boss.now),.t (.i x.boss.since),.t (.i x.boss.epoch),.t (.i x.boss.given),.t (.slc [false] (x.boss.log.safe.map ah)),.t (.slc [false] (x.boss.log.loose.map ah)),.t (.slc [false] (x.boss.results.map ah)),.t (.slc dB (x.boss.jobs.map aH)),.t (.slc bw (x.boss.seats.map aE)),.t (.slc bx (x.boss.owed.map aJ)),.t (.slc bB (x.workers.map ag)),.t (.slc kS (x.flight.map bq)),.t (.s x.forged)]
abbrev ar(x:World):V:=.agg [.own cI (x.plan.tasks.map ay),.t (.s x.key),.t (.i x.boss.workers),.t (.b x.boss.up),.t (.i x.boss.now),.t (.i x.boss.since),.t (.i x.boss.epoch),.t (.i x.boss.given),.own [false] (x.boss.log.safe.map ah),.own [false] (x.boss.log.loose.map ah),.own [false] (x.boss.results.map ah),.own dB (x.boss.jobs.map aH),.own bw (x.boss.seats.map aE),.own bx (x.boss.owed.map aJ),.own bB (x.workers.map ag),.own kS (x.flight.map bq),.t (.s x.forged)]
abbrev noWorld:World:=⟨⟨[]⟩,emp,⟨0,false,0,0,0,0,⟨[],[]⟩,[],[],[],[]⟩,[],[],emp⟩
end Go.K
end
section
open Go Go.Tm Go.Proofs
namespace Go.K
theorem pS{p:Plan}(h:am p.tasks = 0):dl p:=by
 have h1:=(bX h).1
 refine⟨by omega,fun t ht=>?_⟩
 obtain⟨n,hn⟩:=List.getElem?_of_mem ht
 have h2:=(cz h hn).2.2.1
 have h3:=(cz h hn).1
 exact⟨by omega,by omega⟩
theorem wH(p:Plan)(h:dl p):F vG [.val (cX p)] (eH p) O1:=by
 obtain⟨hp1,hp2⟩:=h
 refine wj ?_
 conv=>whnf
 refine g 0 0 []<|J QZ<|g 0 0 []<|J UA<|Ws<|g 1 2 []<|J UD<|Wb<|Wl (fun s (n:Nat)=>⟨(SK s [0,2,3,7,8] [(9,.i n)]),[(2,[s.c 2 0]),(3,[.own cI ((p.tasks.take n).map ay)])],[]⟩) (fun(n:Nat)=>n≤p.tasks.length) (fun(n:Nat)=>p.tasks.length - n) (0) [some 2,some 3] [] FZ OM ?_
 intro n hn
 conv=>whnf
 refine g 0 0 []<|J UA<|Ws<|Wc<|JD (fun h1=>?_) fun h1=>?_
 simp only[LM]at h1
 refine Wk<|Ws<|Wb ?_
 obtain⟨y1,hy1⟩:=ae (xs:=Plan.tasks p) (n:=n) OM
 have hm1:=hp2 y1 (List.mem_of_getElem? hy1)
 refine g 10 13 [.x (ay y1)]<|J QZ<|g 13 18 []<|J QZ<|rg []<|J QZ<|rg [.i ((n:Int) +1)]<|J QZ ?_
 rotate_left
 simp only[LM]at h1
 refine We<|g 3 26 []<|J UV<|RT ?_
 rotate_left
 ·refine⟨n+1,[some 2,some 3],[],⟨rfl,FZ,⟨FZ,⟨⟨rfl,⟨(congrArg (V.own _) (pR AS)),I⟩⟩,I⟩⟩,I⟩,?_,?_⟩
  rotate_left
  (dsimp only;omega)
  dsimp only
  omega
 ·rw[aI OM]
def Fy(i:Nat):Worker:=⟨(i:Int) +1,1,true,0,0,0,0,0,[],emp,3⟩
def crew(n:Nat):List Worker:=(List.range n).map Fy
theorem Gw(n:Nat):crew n++ [Fy n] = crew (n+1):=by simp[crew,List.range_succ]
theorem Nd(n:Nat):(crew n).map ag++ [ag (Fy n)] = (crew (n+1)).map ag:=by rw[←Gw,List.map_append];rfl
theorem uQ(n:Nat):(crew n).length = n:=by simp[crew]
structure NewOk (p:Plan) (key:ByteArray) (w:Int):Prop where
 plan:am p.tasks = 0
 w:1≤w∧w≤8
 key:key.size≤30
noncomputable instance (p:Plan) (key:ByteArray) (w:Int):Decidable (NewOk p key w):=Classical.propDecidable _
noncomputable def qw(p:Plan)(key:ByteArray)(w:Int):World:=if NewOk p key w then⟨p,key,cW (eI w 0 []) p,crew w.toNat,[],emp⟩else noWorld
theorem NJ{p:Plan}{key:ByteArray}{w:Int}(h:NewOk p key w):qw p key w = ⟨p,key,cW (eI w 0 []) p,crew w.toNat,[],emp⟩:=if_pos h
theorem NK{p:Plan}{key:ByteArray}{w:Int}(h:¬NewOk p key w):qw p key w = noWorld:=if_neg h
theorem sd{p:Plan}(h:am p.tasks = 0):(ax p []).code = 0:=by
 rw[ax,if_pos ⟨h,by decide⟩,jy]
theorem zx(p:Plan)(key:ByteArray)(w:Int)(hp:dD p)(hk:key.size≤9223372036854775807):F yx [.val (cX p),.val (.s key),.val (.i w)] (ar (qw p key w)) O3:=by
 have cp:=dr p hp
 by_cases h:NewOk p key w
 ·rw[NJ h]
  obtain⟨h1,h2,h3⟩:=h
  rw[h1]at cp
  have hs:=pS h1
  have cr:=rd w 0 [] p hp h2 (fun s hs=>by cases hs) (sd h1)
  refine gB ?_
  conv=>whnf
  refine g 0 0 []<|J QZ<|Ws<|g 11 21 (.call (V.i 0) O1::BF::BF::.call (V.b (decide (1≤w∧w≤8))) O3::(RL 6 BF []))<|J (QA @aw)<|Wc<|Jf<|Wk<|g 21 27 [.call (eH p) O1]<|J (QA @lX)<|g 27 32 [.call (aF (cW (eI w 0 []) p)) O2]<|J QZ<|Ws<|g 3 4 []<|J UA<|Wb<|Wl (fun s (n:Nat)=>⟨(SK s [0,1,2,6,7] [(8,.i (n+1)),(10,s.s 10)]),[(6,(CK s 6 0 17 [])),(7,[.own cI (p.tasks.map ay),.t (.s key),.t (.i (cW (eI w 0 []) p).workers),.t (.b (cW (eI w 0 []) p).up),.t (.i (cW (eI w 0 []) p).now),.t (.i (cW (eI w 0 []) p).since),.t (.i (cW (eI w 0 []) p).epoch),.t (.i (cW (eI w 0 []) p).given),.own [false] ((cW (eI w 0 []) p).log.safe.map ah),.own [false] ((cW (eI w 0 []) p).log.loose.map ah),.own [false] ((cW (eI w 0 []) p).results.map ah),.own dB ((cW (eI w 0 []) p).jobs.map aH),.own bw ((cW (eI w 0 []) p).seats.map aE),.own bx ((cW (eI w 0 []) p).owed.map aJ),.own bB ((crew n).map ag),.own pkd [],.t (.s emp)])],[]⟩) (fun(n:Nat)=>n≤w.toNat) (fun(n:Nat)=>w.toNat - n) (0) [some 6,some 7] [] FZ OM ?_
  intro n hn
  have e:=Nd n
  have hcl:=uQ n
  conv=>whnf
  refine Ws<|g 32 34 []<|J UC<|Wc<|JD (fun h4=>?_) fun h4=>?_
  refine Wk<|Ws<|Wb<|rg []<|J QZ<|rg [.i ((n:Int) +1+1)]<|J QZ ?_
  rotate_left
  refine We<|g 7 45 []<|J QZ<|RT ?_
  rotate_left
  ·refine⟨n+1,[some 6,some 7],[],⟨rfl,FZ,⟨FZ,⟨(R15 ⟨(congrArg (V.own _) (e)),FZ⟩),I⟩⟩,I⟩,?_,?_⟩
   rotate_left
   (dsimp only;omega)
   dsimp only
   omega
  ·obtain rfl:n = w.toNat:=by omega
   rfl
 ·rw[NK h]
  by_cases h1:am p.tasks = 0
  ·by_cases h2:1≤w∧w≤8
   ·have h3:¬key.size≤30:=fun q=>h ⟨h1,h2,q⟩
    refine gB ?_
    conv=>whnf
    refine g 0 0 []<|J QZ<|Ws<|g 11 21 (.call (V.i (am p.tasks)) O1::BF::BF::.call (V.b (decide (1≤w∧w≤8))) O3::(RL 6 BF []))<|J (QA @aw)<|Wc<|Kt (g 21 23 []<|J QZ (RT ?_))
    rfl
   ·refine gB ?_
    conv=>whnf
    refine g 0 0 []<|J QZ<|Ws<|g 11 21 [.call (V.i (am p.tasks)) O1,BF,BF,.call (V.b (decide (1≤w∧w≤8))) O3,BF,BF,BT,BT,BT,BT]<|J (QA @aw)<|Wc<|Kr (g 21 23 []<|J QZ (RT ?_))
    rfl
  ·refine gB ?_
   conv=>whnf
   refine g 0 0 []<|J QZ<|Ws<|g 11 21 (.call (V.i (am p.tasks)) O1::(RL 8 BT []))<|J QZ<|Wc<|Kr (g 21 23 []<|J QZ (RT ?_))
   rfl
end Go.K
end
section
open Go Go.Tm Go.Proofs
namespace Go.K
structure WorkOk (i:Nat) (x:Worker):Prop where
 ok:av x
 num:x.number = (i:Int) +1
def zX(ws:List Worker)(n:Nat):Prop:=∀ (m:Nat) (x:Worker),m < n→ws[m]? = some x→WorkOk m x
theorem yc(ws:List Worker):zX ws 0:=fun m x hm=>by omega
theorem yd{ws:List Worker}{n:Nat}{x:Worker}(h:zX ws n)(hx:ws[n]? = some x)(hw:WorkOk n x):zX ws (n+1):=fun m y hm hy=>by
 by_cases e:m = n
 ·subst e;rw[hx]at hy;cases hy;exact hw
 ·exact h m y OM hy
structure ParOk (x:Parcel):Prop where
 to:0≤x.kind∧x.kind≤8
 sent:x.frm.size≤500
 bytes:x.text.size≤500
structure WorldOk (w:World):Prop where
 plan:am w.plan.tasks = 0
 key:w.key.size≤30
 wl:1≤w.workers.length∧w.workers.length≤8
 fl:w.flight.length≤2000
 crew:zX w.workers w.workers.length
 par:∀ x∈w.flight,ParOk x
 boss:BossOk w.boss w.plan
 same:w.boss.workers = w.workers.length
noncomputable instance (w:World):Decidable (WorldOk w):=Classical.propDecidable _
structure WorldLim (w:World):Prop where
 plan:dD w.plan
 boss:BossLim w.boss
 key:w.key.size≤9223372036854775807
 wl:w.workers.length≤1048576
 wi:∀ x∈w.workers,x.inputs.length≤1048576
 fl:w.flight.length≤1048576
 fs:∀ x∈w.flight,x.frm.size≤9223372036854775807∧x.text.size≤9223372036854775807
theorem fC(w:World)(h:WorldLim w):F tq [.val (ea w)] (.b (decide (WorldOk w))) O1:=by
 obtain⟨l1,l2,l3,l4,l5,l6,l7⟩:=h
 have cp:=gc w.plan l1
 have cb:=TV w.boss w.plan l1 l2
 refine tD ?_
 conv=>whnf
 refine g 0 1 []<|J QZ<|Ws ?_
 by_cases h1:am (Plan.tasks (World.plan w)) = (0:Int)
 by_cases h2:(30:Int) < (↑(ByteArray.size (World.key w)):Int)
 refine g 11 29 (.call (V.i (am w.plan.tasks)) O1::BF::BF::BF::BF::BF::(RL 11 BT []))<|J QZ<|Wc<|Kr (g 7 10 []<|J UA (RT ?_))
 rotate_left
 by_cases h3:(1:Int)≤(↑(List.length (List.map ag (World.workers w))):Int)∧(↑(List.length (List.map ag (World.workers w))):Int)≤(8:Int)
 simp only[LM]at h3
 refine g 11 29 (.call (V.i (am w.plan.tasks)) O1::(RL 9 BF (.call (V.b (decide (1≤(↑(List.length (List.map ag w.workers)):Int)∧(↑(List.length (List.map ag w.workers)):Int)≤8))) O3::(RL 7 BF []))))<|J (QA @ai)<|Wc<|JD (fun h4=>?_) fun h4=>?_
 simp only[LM]at h4
 refine g 7 10 []<|J UA<|RT ?_
 rotate_left
 simp only[LM]at h4
 refine Wk<|Ws<|g 7 10 []<|J UD<|Wb ?_
 rotate_left
 simp only[LM]at h3
 refine g 11 29 (.call (V.i (am w.plan.tasks)) O1::(RL 9 BF [.call (V.b (decide (1≤(↑(List.length (List.map ag w.workers)):Int)∧(↑(List.length (List.map ag w.workers)):Int)≤8))) O3,BF,BF,BT,BT,BT,BT,BT]))<|J (QA @ai)<|Wc<|Kr (g 7 10 []<|J UA (RT ?_))
 rotate_left
 refine g 11 29 (.call (V.i (am w.plan.tasks)) O1::(RL 16 BT []))<|J QZ<|Wc<|Kr (g 7 10 []<|J UA (RT ?_))
 rotate_left
 all_goals try (exact vbf (fun q=>by have e1:=q.plan;have e2:=q.key;have e3:=q.wl;have e4:=q.fl;omega))
 refine Wl (fun s (n:Nat)=>⟨(SK s [1,10,31,32] [(33,.i n)]),[(1,(CK s 1 0 17 []))],[]⟩) (fun(n:Nat)=>n≤w.workers.length∧zX w.workers n) (fun(n:Nat)=>w.workers.length - n) (0) [some 1] [] FZ ?_ ?_
 ·exact⟨Nat.zero_le _,yc _⟩
 rintro n ⟨hn,hc⟩
 by_cases hn2:n < w.workers.length
 ·obtain⟨x,hx⟩:=ae hn2
  have hxi:=l5 x (List.mem_of_getElem? hx)
  have cw:=fi x OM
  by_cases hk:av x
  ·rw[decide_eq_true hk]at cw
   conv=>whnf
   refine g 0 0 []<|J UA<|Ws<|Wc<|J (fun _=>(Wk (Ws (Wb (g 34 38 [.x (ag x)]<|J QZ (g 38 47 [.call VT O1,BF,BF,BF,BF,.i ((n:Int) +1),BF,BF]<|J QZ (Wc<|J (fun h5=>?_) fun h5=>?_))))))) (noF SI)
   replace h5:=ndt h5
   refine g 3 4 []<|J UA<|RT ?_
   rotate_left
   replace h5:=ndf h5
   refine Wk<|rg [.i ((n:Int) +1)]<|J QZ ?_
   rotate_left
   all_goals try (exact vbf (fun q=>by have:=(q.crew n x hn2 hx).num;omega))
   refine⟨n+1,[some 1],[],FZ,?_,?_⟩
   rotate_left
   (dsimp only;omega)
   dsimp only
   exact⟨by omega,yd hc hx ⟨hk,by omega⟩⟩
  ·rw[decide_eq_false hk]at cw
   conv=>whnf
   refine g 0 0 []<|J UA<|Ws<|Wc<|J (fun _=>(Wk (Ws (Wb (g 34 38 [.x (ag x)]<|J QZ (g 38 47 (.call VF O1::(RL 6 BT []))<|J QZ (Wc<|Kr (g 3 4 []<|J UA (RT ?_))))))))) (noF SI)
   exact vbf (fun q=>hk (q.crew n x hn2 hx).ok)
 obtain rfl:n = w.workers.length:=by omega
 conv=>whnf
 refine g 0 0 []<|J UA<|Ws<|Wc<|J (noT SI) fun _=>We<|Ws<|g 31 50 []<|J UD<|Wb<|Wl (fun s (n:Nat)=>⟨(SK s [1,10,50,51] [(52,.i n)]),[(1,(CK s 1 0 17 []))],[]⟩) (fun(n:Nat)=>n≤w.flight.length∧∀ x∈w.flight.take n,ParOk x) (fun(n:Nat)=>w.flight.length - n) (0) [some 1] [] FZ (by simp) ?_
 rintro n ⟨hn3,hc3⟩
 by_cases hn4:n < w.flight.length
 ·obtain⟨x,hx⟩:=ae hn4
  obtain⟨hxs,hxb⟩:=l7 x (List.mem_of_getElem? hx)
  by_cases hA:0≤x.kind∧x.kind≤8
  ·by_cases hB:x.frm.size≤500
   ·by_cases hC:x.text.size≤500
    ·conv=>whnf
     refine g 0 0 []<|J UA<|Ws<|Wc<|J (fun _=>(Wk (Ws (Wb (g 53 56 [.x (bq x)]<|J QZ (g 56 71 (.call (V.b (decide (0≤x.kind∧x.kind≤8))) O3::(RL 10 BF []))<|J (QA @ai) (Wc<|Jf<|(Wk (rg [.i ((n:Int) +1)]<|J QZ ?_))))))))) (noF SI)
     refine⟨n+1,[some 1],[],FZ,?_,?_⟩
     rotate_left
     (dsimp only;omega)
     dsimp only
     exact⟨by omega,eC hc3 hx ⟨hA,hB,hC⟩⟩
    ·conv=>whnf
     refine g 0 0 []<|J UA<|Ws<|Wc<|J (fun _=>(Wk (Ws (Wb (g 53 56 [.x (bq x)]<|J QZ (g 56 71 (.call (V.b (decide (0≤x.kind∧x.kind≤8))) O3::(RL 10 BF []))<|J (QA @ai) (Wc<|Kt (g 6 7 []<|J UA (RT ?_))))))))) (noF SI)
     exact vbf (fun q=>hC (q.par x (List.mem_of_getElem? hx)).bytes)
   ·conv=>whnf
    refine g 0 0 []<|J UA<|Ws<|Wc<|J (fun _=>(Wk (Ws (Wb (g 53 56 [.x (bq x)]<|J QZ (g 56 71 [.call (V.b (decide (0≤x.kind∧x.kind≤8))) O3,BF,BF,BF,BF,BF,BT,BT,BT,BT,BT]<|J (QA @ai) (Wc<|Kr (g 6 7 []<|J UA (RT ?_))))))))) (noF SI)
    exact vbf (fun q=>hB (q.par x (List.mem_of_getElem? hx)).sent)
  ·conv=>whnf
   refine g 0 0 []<|J UA<|Ws<|Wc<|J (fun _=>(Wk (Ws (Wb (g 53 56 [.x (bq x)]<|J QZ (g 56 71 (.call (V.b (decide (0≤x.kind∧x.kind≤8))) O3::(RL 10 BT []))<|J (QA @ai) (Wc<|Kr (g 6 7 []<|J UA (RT ?_))))))))) (noF SI)
   exact vbf (fun q=>hA (q.par x (List.mem_of_getElem? hx)).to)
 have hpar:∀ x∈w.flight,ParOk x:=by rw[aI OM]at hc3;exact hc3
 by_cases hb:BossOk w.boss w.plan
 ·rw[decide_eq_true hb]at cb
  conv=>whnf
  refine g 0 0 []<|J UA<|Ws<|Wc<|J (noT SI) fun _=>We<|g 10 87 (.call VT O2::(RL 8 BT []))<|J QZ<|RT ?_
  by_cases hs:w.boss.workers = w.workers.length
  ·simp only[List.length_map]
   rw[decide_eq_true hs]
   exact vbt ⟨by omega,by omega,by omega,by omega,hc,hpar,hb,hs⟩
  ·simp only[List.length_map]
   rw[decide_eq_false hs]
   exact vbf (fun q=>hs q.same)
 ·rw[decide_eq_false hb]at cb
  conv=>whnf
  refine g 0 0 []<|J UA<|Ws<|Wc<|J (noT SI) fun _=>We<|g 10 87 (.call VF O2::(RL 8 BF []))<|J QZ<|RT ?_
  exact vbf (fun q=>hb q.boss)
theorem eJ(w:World)(h:WorldLim w):F ti [.val (ea w)] (.b (decide (WorldOk w))) O1:=by
 obtain⟨l1,l2,l3,l4,l5,l6,l7⟩:=h
 have cp:=dr w.plan l1
 have cb:=pE w.boss w.plan l1 l2
 refine tz ?_
 conv=>whnf
 refine g 0 1 []<|J QZ<|Ws ?_
 by_cases h1:am (Plan.tasks (World.plan w)) = (0:Int)
 by_cases h2:(30:Int) < (↑(ByteArray.size (World.key w)):Int)
 refine g 11 28 (.call (V.i (am w.plan.tasks)) O1::BF::BF::BF::BF::BF::(RL 11 BT []))<|J QZ<|Wc<|Kr (g 8 10 []<|J UA (RT ?_))
 rotate_left
 by_cases h3:(1:Int)≤(↑(List.length (List.map ag (World.workers w))):Int)∧(↑(List.length (List.map ag (World.workers w))):Int)≤(8:Int)
 simp only[LM]at h3
 refine g 11 28 (.call (V.i (am w.plan.tasks)) O1::(RL 9 BF (.call (V.b (decide (1≤(↑(List.length (List.map ag w.workers)):Int)∧(↑(List.length (List.map ag w.workers)):Int)≤8))) O3::(RL 7 BF []))))<|J (QA @aw)<|Wc<|JD (fun h4=>?_) fun h4=>?_
 simp only[LM]at h4
 refine g 8 10 []<|J UA<|RT ?_
 rotate_left
 simp only[LM]at h4
 refine Wk<|Ws<|g 8 10 []<|J UA<|Wb ?_
 rotate_left
 simp only[LM]at h3
 refine g 11 28 (.call (V.i (am w.plan.tasks)) O1::(RL 9 BF [.call (V.b (decide (1≤(↑(List.length (List.map ag w.workers)):Int)∧(↑(List.length (List.map ag w.workers)):Int)≤8))) O3,BF,BF,BT,BT,BT,BT,BT]))<|J (QA @aw)<|Wc<|Kr (g 8 10 []<|J UA (RT ?_))
 rotate_left
 refine g 11 28 (.call (V.i (am w.plan.tasks)) O1::(RL 16 BT []))<|J QZ<|Wc<|Kr (g 8 10 []<|J UA (RT ?_))
 rotate_left
 all_goals try (exact vbf (fun q=>by have e1:=q.plan;have e2:=q.key;have e3:=q.wl;have e4:=q.fl;omega))
 refine Wl (fun s (n:Nat)=>⟨[(1,s.s 1),(3,.i n),(7,s.s 7),(10,s.s 10)],[(1,(CK s 1 0 17 []))],[]⟩) (fun(n:Nat)=>n≤w.workers.length∧zX w.workers n) (fun(n:Nat)=>w.workers.length - n) (0) [some 1] [] FZ ?_ ?_
 ·exact⟨Nat.zero_le _,yc _⟩
 rintro n ⟨hn,hc⟩
 by_cases hn2:n < w.workers.length
 ·obtain⟨x,hx⟩:=ae hn2
  have hxi:=l5 x (List.mem_of_getElem? hx)
  have cw:=au x OM
  by_cases hk:av x
  ·rw[decide_eq_true hk]at cw
   conv=>whnf
   refine Ws<|g 29 33 []<|J UE<|Wc<|J (fun _=>(Wk (Ws (Wb (g 33 53 [.x (ag x),.call VT O1,BF,BF,BF,BF,.x (ag x),BF,BF,BF,BF,.i ((n:Int) +1),BF,BF]<|J QZ (Wc<|J (fun h5=>?_) fun h5=>?_)))))) (noF SI)
   replace h5:=ndt h5
   refine g 53 54 []<|J UA<|RT ?_
   rotate_left
   replace h5:=ndf h5
   refine Wk<|rg [.i ((n:Int) +1)]<|J QZ ?_
   rotate_left
   all_goals try (exact vbf (fun q=>by have:=(q.crew n x hn2 hx).num;omega))
   refine⟨n+1,[some 1],[],FZ,?_,?_⟩
   rotate_left
   (dsimp only;omega)
   dsimp only
   exact⟨by omega,yd hc hx ⟨hk,by omega⟩⟩
  ·rw[decide_eq_false hk]at cw
   conv=>whnf
   refine Ws<|g 29 33 []<|J UE<|Wc<|J (fun _=>(Wk (Ws (Wb (g 33 53 (.x (ag x)::.call VF O1::(RL 10 BT []))<|J QZ (Wc<|Kr (g 53 54 []<|J UA (RT ?_)))))))) (noF SI)
   exact vbf (fun q=>hk (q.crew n x hn2 hx).ok)
 obtain rfl:n = w.workers.length:=by omega
 conv=>whnf
 refine Ws<|g 29 33 []<|J UE<|Wc<|J (noT SI) fun _=>We<|Ws<|g 3 4 []<|J UA<|Wb<|Wl (fun s (n:Nat)=>⟨[(1,s.s 1),(4,.i n),(7,s.s 7),(10,s.s 10)],[(1,(CK s 1 0 17 []))],[]⟩) (fun(n:Nat)=>n≤w.flight.length∧∀ x∈w.flight.take n,ParOk x) (fun(n:Nat)=>w.flight.length - n) (0) [some 1] [] FZ (by simp) ?_
 rintro n ⟨hn3,hc3⟩
 by_cases hn4:n < w.flight.length
 ·obtain⟨x,hx⟩:=ae hn4
  obtain⟨hxs,hxb⟩:=l7 x (List.mem_of_getElem? hx)
  by_cases hA:0≤x.kind∧x.kind≤8
  ·by_cases hB:x.frm.size≤500
   ·by_cases hC:x.text.size≤500
    ·conv=>whnf
     refine Ws<|g 54 58 []<|J UE<|Wc<|J (fun _=>(Wk (Ws (Wb (g 58 66 [.x (bq x)]<|J QZ (g 66 81 (.call (V.b (decide (0≤x.kind∧x.kind≤8))) O3::(RL 10 BF []))<|J (QA @aw) (Wc<|Jf<|(Wk (rg [.i ((n:Int) +1)]<|J QZ ?_))))))))) (noF SI)
     refine⟨n+1,[some 1],[],FZ,?_,?_⟩
     rotate_left
     (dsimp only;omega)
     dsimp only
     exact⟨by omega,eC hc3 hx ⟨hA,hB,hC⟩⟩
    ·conv=>whnf
     refine Ws<|g 54 58 []<|J UE<|Wc<|J (fun _=>(Wk (Ws (Wb (g 58 66 [.x (bq x)]<|J QZ (g 66 81 (.call (V.b (decide (0≤x.kind∧x.kind≤8))) O3::(RL 10 BF []))<|J (QA @aw) (Wc<|Kt (g 5 6 []<|J UA (RT ?_))))))))) (noF SI)
     exact vbf (fun q=>hC (q.par x (List.mem_of_getElem? hx)).bytes)
   ·conv=>whnf
    refine Ws<|g 54 58 []<|J UE<|Wc<|J (fun _=>(Wk (Ws (Wb (g 58 66 [.x (bq x)]<|J QZ (g 66 81 [.call (V.b (decide (0≤x.kind∧x.kind≤8))) O3,BF,BF,BF,BF,BF,BT,BT,BT,BT,BT]<|J (QA @aw) (Wc<|Kr (g 5 6 []<|J UA (RT ?_))))))))) (noF SI)
    exact vbf (fun q=>hB (q.par x (List.mem_of_getElem? hx)).sent)
  ·conv=>whnf
   refine Ws<|g 54 58 []<|J UE<|Wc<|J (fun _=>(Wk (Ws (Wb (g 58 66 [.x (bq x)]<|J QZ (g 66 81 (.call (V.b (decide (0≤x.kind∧x.kind≤8))) O3::(RL 10 BT []))<|J (QA @aw) (Wc<|Kr (g 5 6 []<|J UA (RT ?_))))))))) (noF SI)
   exact vbf (fun q=>hA (q.par x (List.mem_of_getElem? hx)).to)
 have hpar:∀ x∈w.flight,ParOk x:=by rw[aI OM]at hc3;exact hc3
 by_cases hs:w.boss.workers = w.workers.length
 ·by_cases hb:BossOk w.boss w.plan
  ·rw[decide_eq_true hb]at cb
   conv=>whnf
   refine Ws<|g 54 58 []<|J UE<|Wc<|J (noT SI) fun _=>We<|g 7 96 [BT,BT,BT,BT,BT,.call VT O2,BT]<|J QZ<|RT ?_
   exact vbt ⟨by omega,by omega,by omega,by omega,hc,hpar,hb,hs⟩
  ·rw[decide_eq_false hb]at cb
   conv=>whnf
   refine Ws<|g 54 58 []<|J UE<|Wc<|J (noT SI) fun _=>We<|g 7 96 [BT,BT,BT,BT,BT,.call VF O2,BT]<|J QZ<|RT ?_
   exact vbf (fun q=>hb q.boss)
 ·conv=>whnf
  refine Ws<|g 54 58 []<|J UE<|Wc<|J (noT SI) fun _=>We<|g 7 96 (RL 6 BF [])<|J QZ<|RT ?_
  exact vbf (fun q=>hs q.same)
end Go.K
end
section
open Go Go.Tm Go.Proofs
namespace Go.K
structure FinOk (w:World):Prop where
 ok:WorldOk w
 up:w.boss.up = true
 all:∀ r∈w.boss.results,¬r = emp
noncomputable instance (w:World):Decidable (FinOk w):=Classical.propDecidable _
end Go.K
end
section
open Go Go.Tm Go.Proofs
namespace Go.K
structure Inv (L:Nat) (t:Tale) (ys:List ByteArray):Prop where
 len:t.results.length = L
 fwd:∀ s∈ys,∃ e,eZ s = some e∧(¬e.kind = 1→e.kind = 2∧0≤e.task∧e.task < L∧atS t.results e.task = e.text∧¬e.text = emp)
 back:∀ i:Nat,¬atS t.results (i:Int) = emp→∃ s∈ys,∃ e,eZ s = some e∧¬e.kind = 1∧e.task = (i:Int)∧e.text = atS t.results (i:Int)
theorem xC{rs:List ByteArray}{k:Int}{v:ByteArray}(h0:0≤k)(h:k < rs.length):atS (rs.set k.toNat v) k = v:=by
 unfold atS;rw[List.getElem?_set_self OM];rfl
theorem ng{rs:List ByteArray}{k j:Int}{v:ByteArray}(h0:0≤k)(hj:0≤j)(h:¬j = k):atS (rs.set k.toNat v) j = atS rs j:=by
 unfold atS;rw[List.getElem?_set_ne OM]
theorem Tt{ts:List Task}{t u:Tale}{s:ByteArray}{ys:List ByteArray}(hi:Inv ts.length t ys)(h:en ts t s = some u):Inv ts.length u (ys++ [s]):=by
 obtain⟨i1,i2,i3⟩:=hi
 unfold en at h
 cases he:eZ s with
 |none=>rw[he]at h;cases h
 |some e =>
  rw[he]at h
  have hok:=kF he
  obtain⟨o1,o2,o3⟩:=hok
  simp only at h
  by_cases hk:e.kind = 1
  ·rw[if_pos hk]at h
   split at h
   ·cases h
    refine⟨i1,fun s' hs'=>?_,fun i hi=>?_⟩
    ·rcases List.mem_append.1 hs' with hs'|hs'
     ·exact i2 s' hs'
     ·rw[List.mem_singleton.1 hs'];exact⟨e,he,fun q=>absurd hk q⟩
    ·obtain⟨s',hs',q⟩:=i3 i hi
     exact⟨s',List.mem_append_left _ hs',q⟩
   ·cases h
  ·rw[if_neg hk]at h
   split at h
   ·rename_i hc
    cases h
    obtain⟨_,c2,c3,_⟩:=hc
    have hlt:e.task < (t.results.length:Int):=by omega
    have h8:e.kind = 2∧(e.text.size:Int) = 8:=by
     rcases o3 with q|q
     ·exact absurd q.1 hk
     ·exact q
    have hne:¬e.text = emp:=fun q=>by have:=h8.2;rw[q]at this;cases this
    have c4:atS t.results e.task = emp:=c3
    refine⟨by rw[List.length_set];exact i1,fun s' hs'=>?_,fun i hi=>?_⟩
    ·rcases List.mem_append.1 hs' with hs'|hs'
     ·obtain⟨e',h1,h2⟩:=i2 s' hs'
      refine⟨e',h1,fun q=>?_⟩
      obtain⟨g0,g1,g2,g3,g4⟩:=h2 q
      have hd:¬e'.task = e.task:=fun w=>by rw[w,c4]at g3;exact g4 g3.symm
      exact⟨g0,g1,g2,by rw[ng o2.1 g1 hd];exact g3,g4⟩
     ·rw[List.mem_singleton.1 hs']
      exact⟨e,he,fun _=>⟨h8.1,o2.1,c2,xC o2.1 hlt,hne⟩⟩
    ·by_cases hd:(i:Int) = e.task
     ·refine⟨s,List.mem_append_right _ (List.mem_singleton.2 rfl),e,he,hk,hd.symm,?_⟩
      rw[hd,xC o2.1 hlt]
     ·rw[ng o2.1 OM hd]at hi ⊢
      obtain⟨s',hs',q⟩:=i3 i hi
      exact⟨s',List.mem_append_left _ hs',q⟩
   ·cases h
theorem OD{ts:List Task}:∀ {l:List ByteArray} {t u:Tale} {ys:List ByteArray},Inv ts.length t ys→ld ts (some t) l = some u→Inv ts.length u (ys++l)
 |[],t,u,ys,hi,h=>by rw[jy]at h;cases h;rw[List.append_nil];exact hi
 |s :: l,t,u,ys,hi,h=>by
  rw[pU]at h
  cases hs:en ts t s with
  |none=>rw[hs,jk]at h;cases h
  |some v =>
   rw[hs]at h
   have:=OD (Tt hi hs) h
   rw[List.append_assoc]at this;exact this
theorem Z3(n:Nat)(k:Int):atS (List.replicate n emp) k = emp:=by
 unfold atS;rw[List.getElem?_replicate];split <;> rfl
theorem Ts(ts:List Task):Inv ts.length (mN ts) []:=⟨by rw[mN,List.length_replicate],fun s hs=>(by cases hs),fun i hi=>absurd (Z3 _ _) hi⟩
theorem wY{p:Plan}{xs:List ByteArray}(h:(ax p xs).code = 0):Inv p.tasks.length ⟨(ax p xs).epoch,(ax p xs).results⟩ xs:=by
 obtain⟨_,_,_,t,h1,h2⟩:=cF h
 have:=OD (Ts p.tasks) h1
 rw[h2];exact this
end Go.K
end
section
open Go Go.Tm Go.Proofs
namespace Go.K
def n0(w:Int)(j:Job):Job:=if j.worker = w then fA else j
def oJ(l t:Int)(j:Job):Job:=if j.lease = l then⟨j.lease,j.worker,t⟩else j
def gN(m:Message):Nat:=(m.frm - 1).toNat
def tM(b:Boss)(m:Message):Prop:=m.epoch < (np b.seats (gN m)).epoch
instance (b:Boss) (m:Message):Decidable (tM b m):=by unfold tM;infer_instance
def n4(b:Boss)(m:Message):Boss:=if tM b m then b else⟨b.workers,b.up,b.now,b.since,b.epoch,b.given,b.log,b.results,b.jobs,b.seats.set (gN m) ⟨true,m.epoch⟩,b.owed⟩
def zq(b:Boss)(m:Message):Boss:=if tM b m then b else⟨b.workers,b.up,b.now,b.since,b.epoch,b.given,b.log,b.results,b.jobs.map (n0 m.frm),b.seats.set (gN m) ⟨true,m.epoch⟩,b.owed⟩
def WK(b:Boss)(m:Message):Boss:=⟨b.workers,b.up,b.now,b.since,b.epoch,b.given,b.log,b.results,b.jobs.map (oJ m.lease (b.now+12)),b.seats,b.owed⟩
structure CanPut (b:Boss) (ts:List Task) (m:Message):Prop where
 res:atS b.results m.task = emp
 ready:dj b.results (oI ts m.task.toNat)
 room:b.log.safe.length+b.log.loose.length < 310
noncomputable instance (b:Boss) (ts:List Task) (m:Message):Decidable (CanPut b ts m):=Classical.propDecidable _
def nQ(b:Boss)(m:Message):Boss:=⟨b.workers,b.up,b.now,b.since,b.epoch,b.given,⟨b.log.safe,b.log.loose++ [bW ⟨2,b.epoch,m.task,m.text⟩]⟩,b.results.set m.task.toNat m.text,b.jobs.set m.task.toNat fA,b.seats,b.owed⟩
noncomputable def uZ(b:Boss)(ts:List Task)(m:Message):Boss:=if CanPut b ts m then nQ b m else b
def FU(b:Boss)(m:Message):Boss:=if atS b.results m.task = emp then n4 b m else b
structure Owes (b:Boss) (m:Message):Prop where
 same:atS b.results m.task = m.text
 room:b.owed.length < 2000
 new:∀ o∈b.owed,¬(o.worker = m.frm∧o.lease = m.lease)
noncomputable instance (b:Boss) (m:Message):Decidable (Owes b m):=Classical.propDecidable _
noncomputable def De(b:Boss)(m:Message):Boss:=if Owes b m then⟨b.workers,b.up,b.now,b.since,b.epoch,b.given,b.log,b.results,b.jobs,b.seats,b.owed++ [⟨m.frm,m.lease,m.task⟩]⟩else b
noncomputable def fE(b:Boss)(ts:List Task)(m:Message):Boss:=De (FU (uZ b ts m) m) m
structure ForB (b:Boss) (m:Message):Prop where
 up:b.up = true
 ok:bN m
 to:m.to = 0
 frm:m.frm≤b.workers
noncomputable instance (b:Boss) (m:Message):Decidable (ForB b m):=Classical.propDecidable _
noncomputable def iI(b:Boss)(ts:List Task)(m:Message):Boss :=
 if ForB b m then
  (if m.kind = 5 then zq b m else if m.kind = 2 then WK b m else if m.kind = 3 then(if m.task < ts.length then fE b ts m else b)else b)
 else b
theorem Iu{b:Boss}{ts:List Task}{m:Message}(h:¬ForB b m):iI b ts m = b:=if_neg h
theorem pP{b:Boss}{ts:List Task}{m:Message}(h:ForB b m)(hk:m.kind = 5):iI b ts m = zq b m:=by rw[iI,if_pos h,if_pos hk]
theorem pQ{b:Boss}{ts:List Task}{m:Message}(h:ForB b m)(hk:m.kind = 2):iI b ts m = WK b m:=by rw[iI,if_pos h,if_neg OM,if_pos hk]
theorem uq{b:Boss}{ts:List Task}{m:Message}(h:ForB b m)(hk:m.kind = 3)(ht:m.task < ts.length):iI b ts m = fE b ts m:=by rw[iI,if_pos h,if_neg OM,if_neg OM,if_pos hk,if_pos ht]
theorem ur{b:Boss}{ts:List Task}{m:Message}(h:ForB b m)(hk:m.kind = 3)(ht:¬m.task < ts.length):iI b ts m = b:=by rw[iI,if_pos h,if_neg OM,if_neg OM,if_pos hk,if_neg ht]
theorem pC{b:Boss}{m:Message}(h:ForB b m):(m.kind = 2∨m.kind = 3∨m.kind = 5)∧(1≤m.frm∧m.frm≤8)∧(1≤m.epoch∧m.epoch≤300):=by
 obtain⟨h1,h2⟩:=h.ok
 have h0:=h.to
 rcases h2 with q|q|q|q|q
 ·have:=q.2.2.1;omega
 ·exact⟨.inl q.1,q.2.2.1,h1⟩
 ·exact⟨.inr (.inl q.1),q.2.2.1,h1⟩
 ·have:=q.2.2.1;omega
 ·exact⟨.inr (.inr q.1),q.2.2.1,h1⟩
theorem Ic{b:Boss}{m:Message}(h:ForB b m)(hk:m.kind = 3):(1≤m.lease∧m.lease≤300000000)∧(0≤m.task∧m.task≤39)∧(m.text.size:Int) = 8:=by
 obtain⟨h1,h2⟩:=h.ok
 rcases h2 with q|q|q|q|q
 ·have:=q.1;omega
 ·have:=q.1;omega
 ·exact⟨q.2.2.2.1,q.2.2.2.2.1,q.2.2.2.2.2.1⟩
 ·have:=q.1;omega
 ·have:=q.1;omega
noncomputable def FA(b:Boss)(p:Plan)(m:Message):Led:=if BossOk b p then⟨iI b p.tasks m,[]⟩else IC
theorem pH{b:Boss}{p:Plan}{m:Message}(h:BossOk b p):FA b p m = ⟨iI b p.tasks m,[]⟩:=if_pos h
theorem TX{b:Boss}{p:Plan}{m:Message}(h:¬BossOk b p):FA b p m = IC:=if_neg h
end Go.K
end
section
open Go Go.Tm Go.Proofs
namespace Go.K
theorem ZP{ep now given workers:Int}{rs:List ByteArray}{ts:List Task}{js:List Job}{k:Int}{tx:ByteArray}(h:JL ep now given workers rs ts js)(h0:0≤k)(hk:k < rs.length)(hj:k < js.length)(ht:¬tx = emp):JL ep now given workers (rs.set k.toNat tx) ts (js.set k.toNat fA):=by
 have g:∀ {i:Nat} {x:Job},(js.set k.toNat fA)[i]? = some x→¬x.lease = 0→¬(i:Int) = k∧js[i]? = some x:=fun{i x} hx hz=>by
  by_cases e:i = k.toNat
  ·subst e
   rw[List.getElem?_set_self OM]at hx
   rw[←Option.some.inj hx]at hz;exact absurd rfl hz
  ·rw[List.getElem?_set_ne (fun q=>e q.symm)]at hx
   exact⟨by omega,hx⟩
 have hat:∀ i:Int,0≤i→¬i = k→atS (rs.set k.toNat tx) i = atS rs i:=fun i hi e=>ng h0 hi e
 refine⟨fun i x hx hz=>?_,fun i x hx hz=>h.lease i x (g hx hz).2 hz,fun i x hx hz=>h.worker i x (g hx hz).2 hz,fun i x hx hz=>h.til i x (g hx hz).2 hz,fun i x hx hz=>?_,fun i x hx hz=>?_,fun i m x y him hx hy hz e=>?_⟩
 ·by_cases e:i = k.toNat
  ·subst e
   rw[List.getElem?_set_self OM]at hx
   rw[←Option.some.inj hx];exact⟨rfl,rfl⟩
  ·rw[List.getElem?_set_ne (fun q=>e q.symm)]at hx
   exact h.zero i x hx hz
 ·rw[hat i OM (g hx hz).1];exact h.res i x (g hx hz).2 hz
 ·intro d hd q
  have hr:=h.ready i x (g hx hz).2 hz d hd
  by_cases e:d.toNat = k.toNat
  ·rw[e,List.getElem?_set_self OM]at q;exact ht q
  ·rw[List.getElem?_set_ne (fun w=>e w.symm)]at q;exact hr q
 ·have hzx:¬x.lease = 0:=fun w=>hz (by rw[←e];exact w)
  exact h.once i m x y him (g hx hzx).2 (g hy hz).2 hz e
theorem M0{b:Boss}{p:Plan}{m:Message}(hv:BossOk b p)(hup:b.up = true)(he:1≤m.epoch∧m.epoch≤300):BossOk (n4 b m) p:=by
 unfold n4;split
 ·exact hv
 ·obtain⟨u1,u2,u3,u4,u5,u6,u7,u9,u11,u12,u13,u14⟩:=hv.up hup
  refine⟨hv.plan,hv.workers,hv.now,hv.code,fun _=>?_,fun e=>by rw[show b.up = false from e]at hup;cases hup⟩
  refine⟨u1,u2,u3,u4,by show((b.seats.set _ _).length:Int) = _;rw[List.length_set];exact u5,u6,u7,u9,u11,Fz (show JL b.epoch b.now b.given b.workers b.results p.tasks b.jobs from IJ u12),fun s hs=>?_,fun o ho=>by obtain⟨a1,a2,a3,a4⟩:=u14 o ho;exact⟨a1,a2,a3,a4⟩⟩
  rcases List.mem_or_eq_of_mem_set hs with hs|hs
  ·exact u13 s hs
  ·rw[hs];exact⟨by dsimp only;omega,by dsimp only;omega⟩
theorem MU{b:Boss}{p:Plan}{m:Message}(hv:BossOk b p)(hup:b.up = true)(he:1≤m.epoch∧m.epoch≤300):BossOk (zq b m) p:=by
 unfold zq;split
 ·exact hv
 ·obtain⟨u1,u2,u3,u4,u5,u6,u7,u9,u11,u12,u13,u14⟩:=hv.up hup
  refine⟨hv.plan,hv.workers,hv.now,hv.code,fun _=>?_,fun e=>by rw[show b.up = false from e]at hup;cases hup⟩
  refine⟨u1,u2,u3,by show(b.jobs.map _).length = _;rw[List.length_map];exact u4,by show((b.seats.set _ _).length:Int) = _;rw[List.length_set];exact u5,u6,u7,u9,u11,Fz (XU (IJ u12)),fun s hs=>?_,fun o ho=>by obtain⟨a1,a2,a3,a4⟩:=u14 o ho;exact⟨a1,a2,a3,a4⟩⟩
  rcases List.mem_or_eq_of_mem_set hs with hs|hs
  ·exact u13 s hs
  ·rw[hs];exact⟨by dsimp only;omega,by dsimp only;omega⟩
theorem Nj{b:Boss}{p:Plan}{m:Message}(hv:BossOk b p)(hup:b.up = true)(hl:1≤m.lease):BossOk (WK b m) p:=by
 obtain⟨u1,u2,u3,u4,u5,u6,u7,u9,u11,u12,u13,u14⟩:=hv.up hup
 refine⟨hv.plan,hv.workers,hv.now,hv.code,fun _=>?_,fun e=>by rw[show b.up = false from e]at hup;cases hup⟩
 exact⟨u1,u2,u3,by show(b.jobs.map _).length = _;rw[List.length_map];exact u4,u5,u6,u7,u9,u11,Fz (XV hl (IJ u12)),u13,fun o ho=>by obtain⟨a1,a2,a3,a4⟩:=u14 o ho;exact⟨a1,a2,a3,a4⟩⟩
theorem Mz{b:Boss}{p:Plan}{m:Message}(hv:BossOk b p)(hup:b.up = true)(ht:0≤m.task∧m.task < p.tasks.length)(hx:(m.text.size:Int) = 8):BossOk (uZ b p.tasks m) p:=by
 unfold uZ;split
 ·rename_i hp
  obtain⟨u1,u2,u3,u4,u5,u6,u7,u9,u11,u12,u13,u14⟩:=hv.up hup
  obtain⟨c1,c2,c3⟩:=hp
  have hne:¬m.text = emp:=fun q=>by rw[q]at hx;cases hx
  obtain⟨t,ht0⟩:=ae (xs:=p.tasks) (n:=m.task.toNat) OM
  rw[eD ht0]at c2
  have hc:(ax p (b.log.safe++b.log.loose)).code = 0:=hv.code
  have h3:=(fG hc).2
  have hpl:=(bX hv.plan).1
  have hok:Entry.ok ⟨2,b.epoch,m.task,m.text⟩:=⟨⟨u2,by show b.epoch≤300;rw[u1];exact h3⟩,⟨ht.1,by show m.task≤39;omega⟩,.inr ⟨rfl,hx⟩⟩
  have e:=Jk (p:=p) (xs:=b.log.safe++b.log.loose) (e:=⟨2,b.epoch,m.task,m.text⟩) hc (by rw[List.length_append];exact c3) hok (by show ¬(2:Int) = 1;omega) u1 ht0 ht.2 (by rw[←show b.results = (ax p (b.log.safe++b.log.loose)).results from u6];exact c1) (by rw[←show b.results = (ax p (b.log.safe++b.log.loose)).results from u6];exact c2)
  have es:cA (nQ b m) p = ⟨0,(cA b p).epoch,(cA b p).results.set m.task.toNat m.text⟩:=by
   show ax p (b.log.safe++ (b.log.loose++ [bW _])) = _
   rw[←List.append_assoc,e];rfl
  refine⟨hv.plan,hv.workers,hv.now,by rw[es],fun _=>?_,fun e=>by rw[show b.up = false from e]at hup;cases hup⟩
  rw[es]
  refine⟨u1,u2,by show(b.results.set _ _).length = _;rw[List.length_set];exact u3,by show(b.jobs.set _ _).length = _;rw[List.length_set];exact u4,u5,by show b.results.set _ _ = _;rw[u6],u7,u9,u11,Fz (ZP (IJ u12) ht.1 OM OM hne),u13,fun o ho=>?_⟩
  obtain⟨a1,a2,a3,a4⟩:=u14 o ho
  refine⟨a1,a2,a3,fun q=>?_⟩
  change atS (b.results.set m.task.toNat m.text) o.task = emp at q
  by_cases e:o.task = m.task
  ·rw[e,xC ht.1 OM]at q;exact hne q
  ·rw[ng ht.1 a3.1 e]at q;exact a4 q
 ·exact hv
theorem Mx{b:Boss}{p:Plan}{m:Message}(hv:BossOk b p)(hup:b.up = true)(hf:1≤m.frm∧m.frm≤b.workers)(hl:1≤m.lease∧m.lease≤300000000)(ht:0≤m.task∧m.task < p.tasks.length)(hx:(m.text.size:Int) = 8):BossOk (De b m) p:=by
 unfold De;split
 ·rename_i ho
  obtain⟨u1,u2,u3,u4,u5,u6,u7,u9,u11,u12,u13,u14⟩:=hv.up hup
  have hne:¬m.text = emp:=fun q=>by rw[q]at hx;cases hx
  have hr:=ho.room
  refine⟨hv.plan,hv.workers,hv.now,hv.code,fun _=>?_,fun e=>by rw[show b.up = false from e]at hup;cases hup⟩
  refine⟨u1,u2,u3,u4,u5,u6,u7,u9,by show(b.owed++ [_]).length≤2000;rw[List.length_append,List.length_singleton];omega,Fz (show JL b.epoch b.now b.given b.workers b.results p.tasks b.jobs from IJ u12),u13,fun o ho2=>?_⟩
  rcases List.mem_append.1 ho2 with ho2|ho2
  ·obtain⟨a1,a2,a3,a4⟩:=u14 o ho2;exact⟨a1,a2,a3,a4⟩
  ·rw[List.mem_singleton.1 ho2]
   exact⟨hf,hl,⟨ht.1,by dsimp only;omega⟩,by show ¬atS b.results m.task = emp;rw[ho.same];exact hne⟩
 ·exact hv
theorem N4{b:Boss}{ts:List Task}{m:Message}:(uZ b ts m).up = b.up∧(uZ b ts m).workers = b.workers:=by unfold uZ;split <;> exact⟨rfl,rfl⟩
theorem N3{b:Boss}{m:Message}:(FU b m).up = b.up∧(FU b m).workers = b.workers:=by
 unfold FU;split
 ·unfold n4;split <;> exact⟨rfl,rfl⟩
 ·exact⟨rfl,rfl⟩
theorem Mm{b:Boss}{p:Plan}(m:Message)(hv:BossOk b p):BossOk (iI b p.tasks m) p:=by
 by_cases hf:ForB b m
 ·obtain⟨hkd,⟨f1,f2⟩,he⟩:=pC hf
  have hup:=hf.up
  rcases hkd with hk|hk|hk
  ·rw[pQ hf hk]
   refine Nj hv hup ?_
   rcases hf.ok.2 with q|q|q|q|q
   ·have:=q.1;omega
   ·exact q.2.2.2.1.1
   ·have:=q.1;omega
   ·have:=q.1;omega
   ·have:=q.1;omega
  ·by_cases ht:m.task < p.tasks.length
   ·rw[uq hf hk ht]
    obtain⟨r1,⟨r2,_⟩,r4⟩:=Ic hf hk
    have v1:=Mz hv hup ⟨r2,ht⟩ r4
    obtain⟨w1,w2⟩:=N4 (b:=b) (ts:=p.tasks) (m:=m)
    have v2:BossOk (FU (uZ b p.tasks m) m) p:=by
     unfold FU;split
     ·exact M0 v1 (by rw[w1];exact hup) he
     ·exact v1
    obtain⟨w3,w4⟩:=N3 (b:=uZ b p.tasks m) (m:=m)
    exact Mx v2 (by rw[w3,w1];exact hup) ⟨f1,by rw[w4,w2];exact hf.frm⟩ r1 ⟨r2,ht⟩ r4
   ·rw[ur hf hk ht];exact hv
  ·rw[pP hf hk];exact MU hv hup he
 ·rw[Iu hf];exact hv
end Go.K
end
section
open Go Go.Tm Go.Proofs
namespace Go.K
def cE(w:Worker)(ts:List Task)(m:Message):Prop:=m.kind = 1∧(∃ t,ts[m.task.toNat]? = some t∧m.inputs.length = t.deps.length)∧(w.state = 0∨w.lease < m.lease)
def cL(w:Worker)(m:Message):Prop:=m.kind = 4∧w.state = 2∧w.lease = m.lease
def mP(w:Worker)(m:Message):Prop:=w.up = true∧bN m∧m.to = w.number
def kH(ts:List Task)(k:Int):Int:=((ts[k.toNat]?).map Task.cost).getD 0
open Classical in
noncomputable def kN(w:Worker)(ts:List Task)(m:Message):Worker :=
 if mP w m then
  if cE w ts m then⟨w.number,w.epoch,true,1,m.lease,m.task,kH ts m.task,kH ts m.task,m.inputs,emp,0⟩
  else if cL w m then⟨w.number,w.epoch,w.up,0,0,0,0,0,[],emp,3⟩else w
 else w
abbrev Xs(x:Worker):V:=.agg [.t (.i x.number),.t (.i x.epoch),.t (.b x.up),.t (.i x.state),.t (.i x.lease),.t (.i x.task),.t (.i x.cost),.t (.i x.left),.t .hole,.t (.s x.text),.t (.i x.since)]
theorem n9(w:Worker)(s:Int):F qC [.val (Xs w),.val (.i s)] (aA ⟨w.number,w.epoch,w.up,0,0,0,0,0,[],emp,s⟩) O2:=by
 refine qN ?_
 conv=>whnf
 refine g 0 0 []<|J QZ<|g 5 13 []<|J QZ<|RT ?_
 rfl
theorem mg{w:Worker}{ts:List Task}{m:Message}(h:¬mP w m):kN w ts m = w:=if_neg h
theorem nM{w:Worker}{ts:List Task}{m:Message}(h:mP w m)(h1:cE w ts m):kN w ts m = ⟨w.number,w.epoch,true,1,m.lease,m.task,kH ts m.task,kH ts m.task,m.inputs,emp,0⟩:=by rw[kN,if_pos h,if_pos h1]
theorem xH{w:Worker}{ts:List Task}{m:Message}(h:mP w m)(h1:cE w ts m):kN w ts m = ⟨w.number,w.epoch,w.up,1,m.lease,m.task,kH ts m.task,kH ts m.task,m.inputs,emp,0⟩:=by rw[nM h h1,h.1]
theorem oT{w:Worker}{ts:List Task}{m:Message}(h:mP w m)(h1:cL w m):kN w ts m = ⟨w.number,w.epoch,w.up,0,0,0,0,0,[],emp,3⟩:=by
 rw[kN,if_pos h,if_neg (fun q=>by have:=q.1;have:=h1.1;omega),if_pos h1]
theorem ed{w:Worker}{ts:List Task}{m:Message}(h1:¬cE w ts m)(h2:¬cL w m):kN w ts m = w:=by
 by_cases h:mP w m
 ·rw[kN,if_pos h,if_neg h1,if_neg h2]
 ·exact mg h
theorem Cm{ts:List Task}{k:Int}{t:Task}(h:ts[k.toNat]? = some t):kH ts k = t.cost:=by unfold kH;rw[h];rfl
noncomputable def yr(w:Worker)(p:Plan)(m:Message):Acted:=if av w∧am p.tasks = 0 then⟨kN w p.tasks m,[]⟩else BX
theorem Ki{w:Worker}{p:Plan}{m:Message}(h:¬(av w∧am p.tasks = 0)):yr w p m = BX:=if_neg h
theorem eV{w:Worker}{p:Plan}{m:Message}(h:av w)(h2:am p.tasks = 0):yr w p m = ⟨kN w p.tasks m,[]⟩:=if_pos ⟨h,h2⟩
theorem rT(w:Worker)(p:Plan)(m:Message)(h:av w)(hc:am p.tasks = 0)(hm:m.inputs.length≤9223372036854775806):F rC [.val (aA w),.val (cX p),.val (fb m)] (aA (kN w p.tasks m)) O3:=by
 have cm:=cR m hm
 by_cases hup:w.up = true
 ·by_cases hok:bN m
  ·rw[decide_eq_true hok]at cm
   have hi:=(dw hok).1
   obtain⟨_,_,_,_,⟨r1,r2⟩,⟨r3,r4⟩⟩:=gr hok
   by_cases hto:m.to = w.number
   ·have hf:mP w m:=⟨hup,hok,hto⟩
    by_cases hk:m.kind = 1
    ·have nt:¬cL w m:=fun q=>by have:=q.1;omega
     by_cases ht:m.task < p.tasks.length
     ·obtain⟨t,ht2⟩:=ae (xs:=p.tasks) (n:=m.task.toNat) OM
      obtain⟨_,_,g3,_⟩:=cz hc ht2
      by_cases hd:m.inputs.length = t.deps.length
      ·by_cases hs:w.state = 0
       ·have ho:cE w p.tasks m:=⟨hk,⟨t,ht2,hd⟩,.inl hs⟩
        refine bf ?_
        conv=>whnf
        refine g 0 0 []<|J QZ<|Ws<|g 9 22 (BF::BF::.call VT O1::(RL 8 BF []))<|J QZ<|Wc<|Jn<|Wk<|Ws<|g 22 25 []<|J UB<|Wb<|g 27 28 []<|J UB<|Wc<|Kt (Ws (gd 25 47 [[],[],[],[],[],[],[],[BF],[BF],[BF],[BF],[BF],[BF],[BF],[BF,.x (ay t)],[BF],[BF],[BF],[BF],[BF]] ?_))
        conv=>whnf
        refine⟨Zaa,by kernel_rfl,?_⟩
        refine Wc<|J (noT SI) fun _=>Wk<|g 47 58 (RL 6 BT [])<|J QZ<|Wc<|Kr (g 58 66 [.x (ay t)]<|J QZ (gd 7 80 [[],[],[],[],[],[],[],[],[],[],[],[],[.call (V.own [false] (List.map ah m.inputs)) O1],[],[]] ?_))
        conv=>whnf
        refine⟨⟨I,I,I,I,I,I,I,I,I,I,I,I,⟨UA,I,US,UA,gg _ OM⟩,I,UK,I⟩,by kernel_rfl,?_⟩
        refine RT ?_
        rw[nM hf ho,Cm ht2]
        all_goals rfl
       ·by_cases hl:w.lease < m.lease
        ·have ho:cE w p.tasks m:=⟨hk,⟨t,ht2,hd⟩,.inr hl⟩
         refine bf ?_
         conv=>whnf
         refine g 0 0 []<|J QZ<|Ws<|g 9 22 (BF::BF::.call VT O1::(RL 8 BF []))<|J QZ<|Wc<|Jn<|Wk<|Ws<|g 22 25 []<|J UB<|Wb<|g 27 28 []<|J UB<|Wc<|Kt (Ws (gd 25 47 [[],[],[],[],[],[],[],[BF],[BF],[BF],[BF],[BF],[BF],[BF],[BF,.x (ay t)],[BF],[BF],[BF],[BF],[BF]] ?_))
         conv=>whnf
         refine⟨Zaa,by kernel_rfl,?_⟩
         refine Wc<|J (noT SI) fun _=>Wk<|g 47 58 (RL 6 BF [])<|J QZ<|Wc<|Kt (g 58 66 [.x (ay t)]<|J QZ (gd 7 80 [[],[],[],[],[],[],[],[],[],[],[],[],[.call (V.own [false] (List.map ah m.inputs)) O1],[],[]] ?_))
         conv=>whnf
         refine⟨⟨I,I,I,I,I,I,I,I,I,I,I,I,⟨UA,I,US,UA,gg _ OM⟩,I,UK,I⟩,by kernel_rfl,?_⟩
         refine RT ?_
         rw[nM hf ho,Cm ht2]
         all_goals rfl
        ·have no:¬cE w p.tasks m:=fun q=>by have:=q.2.2;omega
         refine bf ?_
         conv=>whnf
         refine g 0 0 []<|J QZ<|Ws<|g 9 22 (BF::BF::.call VT O1::(RL 8 BF []))<|J QZ<|Wc<|Jn<|Wk<|Ws<|g 22 25 []<|J UB<|Wb<|g 27 28 []<|J UB<|Wc<|Kt (Ws (gd 25 47 [[],[],[],[],[],[],[],[BF],[BF],[BF],[BF],[BF],[BF],[BF],[BF,.x (ay t)],[BF],[BF],[BF],[BF],[BF]] ?_))
         conv=>whnf
         refine⟨Zaa,by kernel_rfl,?_⟩
         refine Wc<|J (noT SI) fun _=>Wk<|g 47 58 (RL 6 BF [])<|J QZ<|Wc<|Jf<|Wk<|g 0 6 []<|J QZ<|RT ?_
         rw[ed no nt];all_goals rfl
      ·have no:¬cE w p.tasks m:=fun q=>by obtain⟨t2,h2,h3⟩:=q.2.1;rw[ht2]at h2;cases h2;exact hd h3
       refine bf ?_
       conv=>whnf
       refine g 0 0 []<|J QZ<|Ws<|g 9 22 (BF::BF::.call VT O1::(RL 8 BF []))<|J QZ<|Wc<|Jn<|Wk<|Ws<|g 22 25 []<|J UB<|Wb<|g 27 28 []<|J UB<|Wc<|Kt (Ws (gd 25 47 [[],[],[],[],[],[],[],[BF],[BF],[BF],[BF],[BF],[BF],[BF],[BF,.x (ay t)],[BF],[BF],[BF],[BF],[BF]] ?_))
       conv=>whnf
       refine⟨Zaa,by kernel_rfl,?_⟩
       refine Wc<|JN (fun h1=>?_) fun h1=>?_
       simp only[LM]at h1
       refine g 47 49 []<|J QZ<|RT ?_
       rotate_left
       simp only[LM]at h1
       omega
       rw[ed no nt];all_goals rfl
     ·have no:¬cE w p.tasks m:=fun q=>by obtain⟨t2,h2,h3⟩:=q.2.1;have:=(List.getElem?_eq_some_iff.1 h2).1;omega
      refine bf ?_
      conv=>whnf
      refine g 0 0 []<|J QZ<|Ws<|g 9 22 (BF::BF::.call VT O1::(RL 8 BF []))<|J QZ<|Wc<|Jn<|Wk<|Ws<|g 22 25 []<|J UB<|Wb<|g 27 28 []<|J UB<|Wc<|Kt (Ws (gd 25 47 [[],[],[],[],[],[],[],[BT],[BT],[BT],[BT],[BT],[BT],[BT],[BT],[BT],[BT],[BT],[BT],[BT]] ?_))
      conv=>whnf
      refine⟨⟨I,I,I,I,I,I,I,(by simp_all),(by simp_all),(by simp_all),(by simp_all),(by simp_all),(by simp_all),(by simp_all),(by simp_all),(by simp_all),(by simp_all),(by simp_all),(by simp_all),(by simp_all),I⟩,by kernel_rfl,?_⟩
      refine Wc<|Kr (g 47 49 []<|J QZ (RT ?_))
      rw[ed no nt];all_goals rfl
    ·have no:¬cE w p.tasks m:=fun q=>hk q.1
     by_cases hk4:m.kind = 4
     ·by_cases hs:w.state = 2
      ·by_cases hl:w.lease = m.lease
       ·have yt:cL w m:=⟨hk4,hs,hl⟩
        refine bf ?_
        conv=>whnf
        refine g 0 0 []<|J QZ<|Ws<|g 9 22 (BF::BF::.call VT O1::(RL 8 BF []))<|J QZ<|Wc<|Jn<|Wk<|Ws<|g 22 25 []<|J UB<|Wb<|g 27 28 []<|J UB<|Wc<|Jf<|g 0 3 []<|J UB<|Wc<|Kt ?_
        refine g 8 91 (RL 6 BT [])<|J QZ<|Wc<|Kt (g 4 6 [.call (aA {number:=w.number,epoch:=w.epoch,up:=w.up,state:=0,lease:=0,task:=0,cost:=0,left:=0,inputs:=[],text:=emp,since:=3:Worker}) O2]<|J (QA @jK) (RT ?_))
        rw[oT hf yt]
        all_goals rfl
       ·have nt:¬cL w m:=fun q=>hl q.2.2
        refine bf ?_
        conv=>whnf
        refine g 0 0 []<|J QZ<|Ws<|g 9 22 (BF::BF::.call VT O1::(RL 8 BF []))<|J QZ<|Wc<|Jn<|Wk<|Ws<|g 22 25 []<|J UB<|Wb<|g 27 28 []<|J UB<|Wc<|Jf<|g 0 3 []<|J UB<|Wc<|Kt ?_
        refine g 8 91 (RL 6 BT [])<|J QZ<|Wc<|Jf<|Wk<|g 3 6 []<|J QZ<|RT ?_
        rw[ed no nt];all_goals rfl
      ·have nt:¬cL w m:=fun q=>hs q.2.1
       refine bf ?_
       conv=>whnf
       refine g 0 0 []<|J QZ<|Ws<|g 9 22 (BF::BF::.call VT O1::(RL 8 BF []))<|J QZ<|Wc<|Jn<|Wk<|Ws<|g 22 25 []<|J UB<|Wb<|g 27 28 []<|J UB<|Wc<|Jf<|g 0 3 []<|J UB<|Wc<|Kt ?_
       refine g 8 91 (RL 6 BF [])<|J QZ<|Wc<|Jr<|Wk<|g 3 6 []<|J QZ<|RT ?_
       rw[ed no nt];all_goals rfl
     ·have nt:¬cL w m:=fun q=>hk4 q.1
      refine bf ?_
      conv=>whnf
      refine g 0 0 []<|J QZ<|Ws<|g 9 22 (BF::BF::.call VT O1::(RL 8 BF []))<|J QZ<|Wc<|Jn<|Wk<|Ws<|g 22 25 []<|J UB<|Wb<|g 27 28 []<|J UB<|Wc<|Jf<|g 0 3 []<|J UB<|Wc<|Jf ?_
      refine Wk<|g 8 95 []<|J QZ<|RT ?_
      rw[ed no nt];all_goals rfl
   ·have nf:¬mP w m:=fun q=>hto q.2.2
    refine bf ?_
    conv=>whnf
    refine g 0 0 []<|J QZ<|Ws<|g 9 22 (BF::BF::.call VT O1::(RL 8 BF []))<|J QZ<|Wc<|Kn (g 22 24 []<|J QZ (RT ?_))
    rw[mg nf];all_goals rfl
  ·rw[decide_eq_false hok]at cm
   have nf:¬mP w m:=fun q=>hok q.2.1
   refine bf ?_
   conv=>whnf
   refine g 0 0 []<|J QZ<|Ws<|g 9 22 (BF::BF::.call VF O1::BF::BF::(RL 6 BT []))<|J QZ<|Wc<|Kr (g 22 24 []<|J QZ (RT ?_))
   rw[mg nf];all_goals rfl
 ·have nf:¬mP w m:=fun q=>hup q.1
  refine bf ?_
  conv=>whnf
  refine g 0 0 []<|J QZ<|Ws<|g 9 22 (RL 10 BT [])<|J QZ<|Wc<|Kr (g 22 24 []<|J QZ (RT ?_))
  rw[mg nf];all_goals rfl
theorem tF(w:Worker)(p:Plan)(m:Message)(hp:dD p)(hll:w.inputs.length≤1048576)(hm:m.inputs.length≤9223372036854775806):F td [.val (dP w),.val (cX p),.val (fb m)] (rm (yr w p m)) O3:=by
 have cp:=dr p hp
 by_cases h:av w
 ·by_cases hc:am p.tasks = 0
  ·rw[hc]at cp
   have cm:=pi m hm
   have cf3:=n9 w 3
   have cf0:=n9 w 0
   by_cases hup:w.up = true
   ·by_cases hok:bN m
    ·rw[decide_eq_true hok]at cm
     have hi:=(dw hok).1
     obtain⟨_,_,_,_,⟨r1,r2⟩,⟨r3,r4⟩⟩:=gr hok
     by_cases hto:m.to = w.number
     ·have hf:mP w m:=⟨hup,hok,hto⟩
      by_cases hk:m.kind = 1
      ·have nt:¬cL w m:=fun q=>by have:=q.1;omega
       by_cases ht:m.task < p.tasks.length
       ·obtain⟨t,ht2⟩:=ae (xs:=p.tasks) (n:=m.task.toNat) OM
        obtain⟨_,_,g3,_⟩:=cz hc ht2
        by_cases hd:m.inputs.length = t.deps.length
        ·by_cases hs:w.state = 0
         ·have ho:cE w p.tasks m:=⟨hk,⟨t,ht2,hd⟩,.inl hs⟩
          refine aS ?_
          conv=>whnf
          refine g 1 3 []<|J QZ<|Ws<|g 12 17 [.call (V.b (decide (av w))) O1,BF,BF,.call (V.i 0) O1,BF,BF]<|J (QA @au)<|Wc<|Jr<|Wk<|g 17 21 [.call (aA w) O1]<|J (QA @aG)<|g 21 23 []<|J QZ<|Ws<|g 23 37 (BF::BF::.call VT O1::(RL 8 BF []))<|J QZ<|Wc<|Jn<|Wk<|Ws ?_
          refine g 37 53 (RL 10 BF [])<|J QZ<|Wc<|Jr<|Wk<|Ws<|gd 10 81 [[],[],[],[],[BF],[BF],[BF],[BF],[BF],[BF],[BF],[],[BF],[BF],[BF],[BF],[BF],[BF],[BF],[BF,.x (ay t)],[BF],[BF],[BF],[BF],[BF]] ?_
          conv=>whnf
          refine J QZ<|J KR<|Wc<|J (noT SI) fun _=>Wk<|Ws<|g 81 92 (RL 6 BF [])<|J QZ<|Wc<|Jr<|Wk<|g 92 96 [.call (aA {number:=w.number,epoch:=w.epoch,up:=w.up,state:=0,lease:=0,task:=0,cost:=0,left:=0,inputs:=[],text:=emp,since:=0:Worker}) O2]<|J QZ<|g 7 9 []<|J UV<|g 98 100 []<|J UW<|g 100 103 []<|J UW<|g 103 111 [.x (ay t)]<|J QZ ?_
          refine g 111 114 []<|J UW<|g 114 119 []<|J QZ<|g 0 6 []<|J QZ<|RT ?_
          rw[eV h hc,xH hf ho,Cm ht2]
          all_goals rfl
         ·by_cases hl:w.lease < m.lease
          ·have ho:cE w p.tasks m:=⟨hk,⟨t,ht2,hd⟩,.inr hl⟩
           refine aS ?_
           conv=>whnf
           refine g 1 3 []<|J QZ<|Ws<|g 12 17 [.call (V.b (decide (av w))) O1,BF,BF,.call (V.i 0) O1,BF,BF]<|J (QA @au)<|Wc<|Jr<|Wk<|g 17 21 [.call (aA w) O1]<|J (QA @aG)<|g 21 23 []<|J QZ<|Ws<|g 23 37 (BF::BF::.call VT O1::(RL 8 BF []))<|J QZ<|Wc<|Jn<|Wk<|Ws ?_
           refine g 37 53 (RL 10 BF [])<|J QZ<|Wc<|Jr<|Wk<|Ws<|gd 10 81 [[],[],[],[],[BF],[BF],[BF],[BF],[BF],[BF],[BF],[],[BF],[BF],[BF],[BF],[BF],[BF],[BF],[BF,.x (ay t)],[BF],[BF],[BF],[BF],[BF]] ?_
           conv=>whnf
           refine J QZ<|J KR<|Wc<|J (noT SI) fun _=>Wk<|Ws<|g 81 92 (RL 6 BT [])<|J QZ<|Wc<|Jf<|Wk<|g 92 96 [.call (aA {number:=w.number,epoch:=w.epoch,up:=w.up,state:=0,lease:=0,task:=0,cost:=0,left:=0,inputs:=[],text:=emp,since:=0:Worker}) O2]<|J QZ<|g 7 9 []<|J UV<|g 98 100 []<|J UW<|g 100 103 []<|J UW<|g 103 111 [.x (ay t)]<|J QZ ?_
           refine g 111 114 []<|J UW<|g 114 119 []<|J QZ<|g 0 6 []<|J QZ<|RT ?_
           rw[eV h hc,xH hf ho,Cm ht2]
           all_goals rfl
          ·have no:¬cE w p.tasks m:=fun q=>by have:=q.2.2;omega
           refine aS ?_
           conv=>whnf
           refine g 1 3 []<|J QZ<|Ws<|g 12 17 [.call (V.b (decide (av w))) O1,BF,BF,.call (V.i 0) O1,BF,BF]<|J (QA @au)<|Wc<|Jr<|Wk<|g 17 21 [.call (aA w) O1]<|J (QA @aG)<|g 21 23 []<|J QZ<|Ws<|g 23 37 (BF::BF::.call VT O1::(RL 8 BF []))<|J QZ<|Wc<|Jn<|Wk<|Ws ?_
           refine g 37 53 (RL 10 BF [])<|J QZ<|Wc<|Jr<|Wk<|Ws<|gd 10 81 [[],[],[],[],[BF],[BF],[BF],[BF],[BF],[BF],[BF],[],[BF],[BF],[BF],[BF],[BF],[BF],[BF],[BF,.x (ay t)],[BF],[BF],[BF],[BF],[BF]] ?_
           conv=>whnf
           refine J QZ<|J KR<|Wc<|J (noT SI) fun _=>Wk<|Ws<|g 81 92 (RL 6 BT [])<|J QZ<|Wc<|Kt (g 8 94 []<|J QZ (RT ?_))
           rw[eV h hc,ed no nt];all_goals rfl
        ·have no:¬cE w p.tasks m:=fun q=>by obtain⟨t2,h2,h3⟩:=q.2.1;rw[ht2]at h2;cases h2;exact hd h3
         refine aS ?_
         conv=>whnf
         refine g 1 3 []<|J QZ<|Ws<|g 12 17 [.call (V.b (decide (av w))) O1,BF,BF,.call (V.i 0) O1,BF,BF]<|J (QA @au)<|Wc<|Jr<|Wk<|g 17 21 [.call (aA w) O1]<|J (QA @aG)<|g 21 23 []<|J QZ<|Ws<|g 23 37 (BF::BF::.call VT O1::(RL 8 BF []))<|J QZ<|Wc<|Jn<|Wk<|Ws ?_
         refine g 37 53 (RL 10 BF [])<|J QZ<|Wc<|Jr<|Wk<|Ws<|gd 10 81 [[],[],[],[],[BF],[BF],[BF],[BF],[BF],[BF],[BF],[],[BF],[BF],[BF],[BF],[BF],[BF],[BF],[BF,.x (ay t)],[BF],[BF],[BF],[BF],[BF]] ?_
         conv=>whnf
         refine J QZ<|J KR<|Wc<|JN (fun h1=>?_) fun h1=>?_
         simp only[LM]at h1
         refine g 81 83 []<|J QZ<|RT ?_
         rotate_left
         simp only[LM]at h1
         omega
         rw[eV h hc,ed no nt];all_goals rfl
       ·have no:¬cE w p.tasks m:=fun q=>by obtain⟨t2,h2,h3⟩:=q.2.1;have:=(List.getElem?_eq_some_iff.1 h2).1;omega
        refine aS ?_
        conv=>whnf
        refine g 1 3 []<|J QZ<|Ws<|g 12 17 [.call (V.b (decide (av w))) O1,BF,BF,.call (V.i 0) O1,BF,BF]<|J (QA @au)<|Wc<|Jr<|Wk<|g 17 21 [.call (aA w) O1]<|J (QA @aG)<|g 21 23 []<|J QZ<|Ws<|g 23 37 (BF::BF::.call VT O1::(RL 8 BF []))<|J QZ<|Wc<|Jn<|Wk<|Ws ?_
        refine g 37 53 (RL 10 BF [])<|J QZ<|Wc<|Jr<|Wk<|Ws<|gd 10 81 [[],[],[],[],[BF],[BF],[BF],[BF],[BF],[BF],[BF],[],[BT],[BT],[BT],[BT],[BT],[BT],[BT],[BT],[BT],[BT],[BT],[BT],[BT]] ?_
        conv=>whnf
        refine J QZ<|J KR<|Wc<|Kr (g 81 83 []<|J QZ (RT ?_))
        rw[eV h hc,ed no nt];all_goals rfl
      ·have no:¬cE w p.tasks m:=fun q=>hk q.1
       by_cases hk4:m.kind = 4
       ·by_cases hs:w.state = 2
        ·by_cases hl:w.lease = m.lease
         ·have yt:cL w m:=⟨hk4,hs,hl⟩
          refine aS ?_
          conv=>whnf
          refine g 1 3 []<|J QZ<|Ws<|g 12 17 [.call (V.b (decide (av w))) O1,BF,BF,.call (V.i 0) O1,BF,BF]<|J (QA @au)<|Wc<|Jr<|Wk<|g 17 21 [.call (aA w) O1]<|J (QA @aG)<|g 21 23 []<|J QZ<|Ws<|g 23 37 (BF::BF::.call VT O1::(RL 8 BF []))<|J QZ<|Wc<|Jn<|Wk<|Ws ?_
          refine g 37 53 (RL 10 BT [])<|J QZ<|Wc<|Kt (g 53 57 [.call (aA {number:=w.number,epoch:=w.epoch,up:=w.up,state:=0,lease:=0,task:=0,cost:=0,left:=0,inputs:=[],text:=emp,since:=3:Worker}) O2]<|J QZ (RT ?_))
          rw[eV h hc,oT hf yt]
          all_goals rfl
         ·have nt:¬cL w m:=fun q=>hl q.2.2
          refine aS ?_
          conv=>whnf
          refine g 1 3 []<|J QZ<|Ws<|g 12 17 [.call (V.b (decide (av w))) O1,BF,BF,.call (V.i 0) O1,BF,BF]<|J (QA @au)<|Wc<|Jr<|Wk<|g 17 21 [.call (aA w) O1]<|J (QA @aG)<|g 21 23 []<|J QZ<|Ws<|g 23 37 (BF::BF::.call VT O1::(RL 8 BF []))<|J QZ<|Wc<|Jn<|Wk<|Ws ?_
          refine g 37 53 (RL 10 BT [])<|J QZ<|Wc<|Jf<|Wk<|Ws<|gd 10 81 [[],[],[],[],[BT],[BT],[BT],[BT],[BT],[BT],[BT],[],[BT],[BT],[BT],[BT],[BT],[BT],[BT],[BT],[BT],[BT],[BT],[BT],[BT]] ?_
          conv=>whnf
          refine J QZ<|J KR<|Wc<|Kr (g 81 83 []<|J QZ (RT ?_))
          rw[eV h hc,ed no nt];all_goals rfl
        ·have nt:¬cL w m:=fun q=>hs q.2.1
         refine aS ?_
         conv=>whnf
         refine g 1 3 []<|J QZ<|Ws<|g 12 17 [.call (V.b (decide (av w))) O1,BF,BF,.call (V.i 0) O1,BF,BF]<|J (QA @au)<|Wc<|Jr<|Wk<|g 17 21 [.call (aA w) O1]<|J (QA @aG)<|g 21 23 []<|J QZ<|Ws<|g 23 37 (BF::BF::.call VT O1::(RL 8 BF []))<|J QZ<|Wc<|Jn<|Wk<|Ws ?_
         refine g 37 53 (BT::BT::BT::BT::(RL 6 BF []))<|J QZ<|Wc<|Jr<|Wk<|Ws<|gd 10 81 [[],[],[],[],[BT],[BT],[BT],[BT],[BT],[BT],[BT],[],[BT],[BT],[BT],[BT],[BT],[BT],[BT],[BT],[BT],[BT],[BT],[BT],[BT]] ?_
         conv=>whnf
         refine J QZ<|J KR<|Wc<|Kr (g 81 83 []<|J QZ (RT ?_))
         rw[eV h hc,ed no nt];all_goals rfl
       ·have nt:¬cL w m:=fun q=>hk4 q.1
        refine aS ?_
        conv=>whnf
        refine g 1 3 []<|J QZ<|Ws<|g 12 17 [.call (V.b (decide (av w))) O1,BF,BF,.call (V.i 0) O1,BF,BF]<|J (QA @au)<|Wc<|Jr<|Wk<|g 17 21 [.call (aA w) O1]<|J (QA @aG)<|g 21 23 []<|J QZ<|Ws<|g 23 37 (BF::BF::.call VT O1::(RL 8 BF []))<|J QZ<|Wc<|Jn<|Wk<|Ws ?_
        refine g 37 53 (RL 10 BF [])<|J QZ<|Wc<|Jr<|Wk<|Ws<|gd 10 81 [[],[],[],[],[BT],[BT],[BT],[BT],[BT],[BT],[BT],[],[BT],[BT],[BT],[BT],[BT],[BT],[BT],[BT],[BT],[BT],[BT],[BT],[BT]] ?_
        conv=>whnf
        refine J QZ<|J KR<|Wc<|Kr (g 81 83 []<|J QZ (RT ?_))
        rw[eV h hc,ed no nt];all_goals rfl
     ·have nf:¬mP w m:=fun q=>hto q.2.2
      refine aS ?_
      conv=>whnf
      refine g 1 3 []<|J QZ<|Ws<|g 12 17 [.call (V.b (decide (av w))) O1,BF,BF,.call (V.i 0) O1,BF,BF]<|J (QA @au)<|Wc<|Jr<|Wk<|g 17 21 [.call (aA w) O1]<|J (QA @aG)<|g 21 23 []<|J QZ<|Ws<|g 23 37 (BF::BF::.call VT O1::(RL 8 BF []))<|J QZ<|Wc<|Kn (g 37 39 []<|J QZ (RT ?_))
      rw[eV h hc,mg nf];all_goals rfl
    ·rw[decide_eq_false hok]at cm
     have nf:¬mP w m:=fun q=>hok q.2.1
     refine aS ?_
     conv=>whnf
     refine g 1 3 []<|J QZ<|Ws<|g 12 17 [.call (V.b (decide (av w))) O1,BF,BF,.call (V.i 0) O1,BF,BF]<|J (QA @au)<|Wc<|Jr<|Wk<|g 17 21 [.call (aA w) O1]<|J (QA @aG)<|g 21 23 []<|J QZ<|Ws<|g 23 37 (BF::BF::.call VF O1::BF::BF::(RL 6 BT []))<|J QZ<|Wc<|Kr (g 37 39 []<|J QZ (RT ?_))
     rw[eV h hc,mg nf];all_goals rfl
   ·have nf:¬mP w m:=fun q=>hup q.1
    refine aS ?_
    conv=>whnf
    refine g 1 3 []<|J QZ<|Ws<|g 12 17 [.call (V.b (decide (av w))) O1,BF,BF,.call (V.i 0) O1,BF,BF]<|J (QA @au)<|Wc<|Jr<|Wk<|g 17 21 [.call (aA w) O1]<|J (QA @aG)<|g 21 23 []<|J QZ<|Ws<|g 23 37 (RL 10 BT [])<|J QZ<|Wc<|Kr (g 37 39 []<|J QZ (RT ?_))
    rw[eV h hc,mg nf];all_goals rfl
  ·rw[Ki (fun q=>hc q.2)]
   refine aS ?_
   conv=>whnf
   refine g 1 3 []<|J QZ<|Ws<|g 12 17 [.call (V.b (decide (av w))) O1,BF,BF,.call (V.i (am p.tasks)) O1,BF,BF]<|J (QA @au)<|Wc<|Kn (g 17 19 []<|J QZ (RT ?_))
   rfl
 ·rw[Ki (fun q=>h q.1)]
  refine aS ?_
  conv=>whnf
  refine g 1 3 []<|J QZ<|Ws<|g 12 17 [.call (V.b (decide (av w))) O1,BT,BT,BT,BT]<|J (QA @au)<|Wc<|Kr (g 17 19 []<|J QZ (RT ?_))
  rfl
end Go.K
end
section
open Go Go.Tm Go.Proofs
namespace Go.K
theorem ON{w:Worker}{s:Int}(h1:1≤w.number∧w.number≤8)(h2:1≤w.epoch∧w.epoch≤300)(hs:0≤s∧s≤1000000)(u:Bool)(hu:u = true∨s = 0):av ⟨w.number,w.epoch,u,0,0,0,0,0,[],emp,s⟩ :=
 ⟨h1,h2,hs,hu.imp id fun q=>⟨rfl,q⟩,.inl ⟨rfl,rfl,rfl,rfl,rfl,rfl,rfl⟩⟩
theorem TC{w:Worker}(h:av w):av (mM w)∧(mM w).number = w.number:=by
 unfold mM;rw[if_pos h]
 exact⟨ON (w:=w) h.1 h.2.1 ⟨Int.le_refl _,by omega⟩ false (.inr rfl),rfl⟩
theorem Ta{w:Worker}(h:av w):av (mL w)∧(mL w).number = w.number:=by
 unfold mL;rw[if_pos h]
 split
 ·exact⟨h,rfl⟩
 ·rename_i q
  have h2:=h.2.1
  have q2:¬300≤w.epoch:=fun e=>q (.inr e)
  exact⟨⟨h.1,⟨by show 1≤w.epoch+1;omega,by show w.epoch+1≤300;omega⟩,⟨by show(0:Int)≤3;omega,by show(3:Int)≤1000000;omega⟩,.inl rfl,.inl ⟨rfl,rfl,rfl,rfl,rfl,rfl,rfl⟩⟩,rfl⟩
theorem P7{w:Worker}(h:av w):0≤aX w∧aX w≤1000000:=by
 have:=h.2.2.1
 unfold aX;split <;> omega
theorem kD{w:Worker}(h:av w)(hup:w.up = true){s:Int}(hs:0≤s∧s≤1000000):av (cV w s):=by
 obtain⟨h1,h2,h3,h4,h5⟩:=h
 exact⟨h1,h2,hs,.inl hup,h5⟩
theorem Tp{w:Worker}(h:av w)(h1:w.state = 1)(h2:¬w.left - 1 = 0):av (oA w):=by
 obtain⟨b1,b2,b3,b4,b5,b6⟩:=BV h h1
 obtain⟨g1,g2,g3,g4,g5⟩:=h
 refine⟨g1,g2,g3,g4,.inr (.inl ⟨h1,b2,b3,⟨?_,?_⟩,b5,b6⟩)⟩
 ·show 1≤w.left - 1;omega
 ·show w.left - 1≤w.cost;omega
theorem SV(nm:ByteArray)(xs:List ByteArray):(bG nm xs).size = 8:=oM nm xs
theorem TM{w:Worker}(ts:List Task)(h:av w)(h1:w.state = 1)(h2:w.left - 1 = 0)(hup:w.up = true):av (ii w ts):=by
 obtain⟨b1,b2,b3,b4,b5,b6⟩:=BV h h1
 obtain⟨g1,g2,g3,g4,g5⟩:=h
 exact⟨g1,g2,⟨Int.le_refl _,by show(0:Int)≤1000000;omega⟩,.inl hup,.inr (.inr ⟨rfl,b2,rfl,h2,rfl,by show((bG _ _).size:Int) = 8;rw[SV];rfl⟩)⟩
theorem SZ{w:Worker}(ts:List Task)(h:av w):av (g9 w ts).worker∧(g9 w ts).worker.number = w.number:=by
 have hs:=P7 h
 have z:(0:Int)≤0∧(0:Int)≤1000000:=⟨Int.le_refl _,by omega⟩
 by_cases hup:w.up = false
 ·rw[wV hup];exact⟨h,rfl⟩
 have hup2:w.up = true:=by cases hb:w.up;exact absurd hb hup;rfl
 rcases CM h with h1|h1|h1
 ·by_cases h4:3≤aX w
  ·rw[mU hup h1 h4];exact⟨kD h hup2 z,rfl⟩
  ·rw[r6 hup h1 h4];exact⟨kD h hup2 hs,rfl⟩
 ·by_cases h2:w.left - 1 = 0
  ·rw[mV hup h1 h2];exact⟨TM ts h h1 h2 hup2,rfl⟩
  ·have hl:=Tp h h1 h2
   by_cases h4:4≤aX w
   ·rw[mW hup h1 h2 h4];exact⟨kD hl hup2 z,rfl⟩
   ·rw[wW hup h1 h2 h4];exact⟨kD hl hup2 hs,rfl⟩
 ·by_cases h4:4≤aX w
  ·rw[mS hup h1 h4];exact⟨kD h hup2 z,rfl⟩
  ·rw[r5 hup h1 h4];exact⟨kD h hup2 hs,rfl⟩
theorem S1{w:Worker}{ts:List Task}(m:Message)(hc:am ts = 0)(h:av w):av (kN w ts m)∧(kN w ts m).number = w.number:=by
 by_cases hf:mP w m
 ·by_cases ho:cE w ts m
  ·rw[nM hf ho]
   obtain⟨o1,⟨t,ht,ol⟩,o3⟩:=ho
   obtain⟨q1,q2⟩:=hf.2.1
   have hk:(1≤m.lease∧m.lease≤300000000)∧(0≤m.task∧m.task≤39)∧fm m.inputs:=by
    rcases q2 with q|q|q|q|q
    ·exact⟨q.2.2.2.1,q.2.2.2.2.1,q.2.2.2.2.2.2⟩
    ·have:=q.1;omega
    ·have:=q.1;omega
    ·have:=q.1;omega
    ·have:=q.1;omega
   have e:kH ts m.task = t.cost:=by unfold kH;rw[ht];rfl
   have hcst:=(cz hc ht).2.1
   obtain⟨g1,g2,g3,g4,g5⟩:=h
   exact⟨⟨g1,g2,⟨Int.le_refl _,by show(0:Int)≤1000000;omega⟩,.inl rfl,.inr (.inl ⟨rfl,⟨hk.1,hk.2.1⟩,by show 1≤kH ts m.task∧_;rw[e];exact hcst,⟨by show 1≤kH ts m.task;rw[e];omega,Int.le_refl _⟩,hk.2.2,rfl⟩)⟩,rfl⟩
  ·by_cases hth:cL w m
   ·rw[oT hf hth]
    exact⟨ON (w:=w) h.1 h.2.1 ⟨by omega,by omega⟩ w.up (.inl hf.1),rfl⟩
   ·rw[ed ho hth];exact⟨h,rfl⟩
 ·rw[mg hf];exact⟨h,rfl⟩
end Go.K
end
section
open Go Go.Tm Go.Proofs
namespace Go.K
def sN(xs:List Parcel)(k:Int):List Parcel:=if xs.length≤2000∧0≤k∧k < xs.length∧xs.length < 2000 then xs++ (xs[k.toNat]?).toList else xs
theorem zW{xs:List Parcel}{k:Int}(h:¬(xs.length≤2000∧0≤k∧k < xs.length∧xs.length < 2000)):sN xs k = xs:=if_neg h
theorem PO{xs:List Parcel}{m:Nat}{y:Parcel}(h:xs.length≤2000∧0≤(m:Int)∧(m:Int) < xs.length∧xs.length < 2000)(hy:xs[m]? = some y):xs.map aY++ [aY y] = (sN xs m).map aY:=by
 unfold sN
 rw[if_pos h,show((m:Int)).toNat = m from rfl,hy,List.map_append];rfl
theorem ER(xs:List Parcel)(k:Int)(hl:xs.length≤1048576):F Dy [.val (.t (xQ xs)),.val (.i k)] (.own pkd ((sN xs k).map aY)) O2:=by
 by_cases h0:0≤k
 ·obtain⟨m,rfl⟩:=Int.eq_ofNat_of_zero_le h0
  refine qO ?_
  conv=>whnf
  refine g 0 0 []<|J UA<|g 6 8 [.call (V.own pkd (List.map aY xs)) O1]<|J (QA @dU)<|Ws ?_
  by_cases h1:List.length xs≤(2000:Nat)∧(0:Int)≤(↑m:Int)∧(↑m:Int) < (↑(List.length xs):Int)
  refine g 8 15 [.call (V.b (decide (xs.length≤2000∧0≤(m:Int)∧(m:Int) < (↑xs.length:Int)))) O2,BT,BT,BT,BT]<|J (QA @bS)<|Wc<|JD (fun h2=>?_) fun h2=>?_
  simp only[LM]at h2
  obtain⟨y1,hy1⟩:=ae (xs:=xs) (n:=m) OM
  refine rg [.x (aY y1)]<|J QZ<|g 5 24 []<|J UB<|RT ?_
  rotate_left
  simp only[LM]at h2
  refine Wk<|g 5 24 []<|J UB<|RT ?_
  rotate_left
  refine g 8 15 [.call (V.b (decide (xs.length≤2000∧0≤(m:Int)∧(m:Int) < (↑xs.length:Int)))) O2,BF,BF,BF,BF]<|J (QA @bS)<|Wc<|Jr<|Wk<|g 5 24 []<|J UB<|RT ?_
  rotate_left
  ·exact congrArg (V.own pkd) (PO ⟨h1.1,h1.2.1,h1.2.2,by omega⟩ hy1)
  ·rw[zW OM]
  ·rw[zW OM]
 ·skip
  refine qO ?_
  conv=>whnf
  refine g 0 0 []<|J UA<|g 6 8 [.call (V.own pkd (List.map aY xs)) O1]<|J (QA @dU)<|Ws<|g 8 15 [.call (V.b (decide (xs.length≤2000∧0≤k∧k < (↑xs.length:Int)))) O2,BF,BF,BF,BF]<|J (QA @bS)<|Wc<|Jr<|Wk<|g 5 24 []<|J UB<|RT ?_
  rw[zW OM]
end Go.K
end
section
open Go Go.Tm Go.Proofs
namespace Go.K
def xorB(c:UInt8)(ma:Int):Int:=IntKind.u8.wrap (BitVec.ofInt IntKind.u8.bits (c.toNat:Int) ^^^ BitVec.ofInt IntKind.u8.bits (IntKind.u8.wrap (ma.tmod 256))).toNat
def Yi(t:ByteArray)(q:Nat)(c:UInt8)(ma:Int):ByteArray:=⟨(bZ ((cN t).set q [.v (.int .u8 (xorB c ma))])).toArray⟩
def Zs(p:Parcel)(pl ma:Int):Parcel:=match p.text[pl.toNat]? with
 |some c=>⟨p.kind,p.frm,Yi p.text pl.toNat c ma⟩
 |none=>p
def sS(xs:List Parcel)(k pl ma:Int):List Parcel :=
 if(xs.length≤2000∧0≤k∧k < xs.length)∧0≤ma∧0≤pl then match xs[k.toNat]? with
  |some p=>xs.set k.toNat (Zs p pl ma)
  |none=>xs
 else xs
theorem rj{xs:List Parcel}{k pl ma:Int}(h:¬((xs.length≤2000∧0≤k∧k < xs.length)∧0≤ma∧0≤pl)):sS xs k pl ma = xs:=if_neg h
theorem Yj{s:ByteArray}{n:Nat}(h:s.size≤n):s[n]? = none:=getElem?_neg s n OM
theorem LC{xs:List Parcel}{m q:Nat}{ma:Int}{y:Parcel}(hy:xs[m]? = some y)(h:y.text.size≤q):sS xs m q ma = xs:=by
 unfold sS
 split
 ·rw[show((m:Int)).toNat = m from rfl,hy]
  simp only[Zs,show((q:Int)).toNat = q from rfl,Yj h]
  apply List.ext_getElem?
  intro i
  rw[List.getElem?_set]
  split
  ·next e=>subst e;split
           ·exact hy.symm
           ·next h2=>rw[List.getElem?_eq_none OM]
  ·rfl
 ·rfl
theorem LB{xs:List Parcel}{m q:Nat}{ma:Int}{y:Parcel}{c:UInt8}(h:(xs.length≤2000∧0≤(m:Int)∧(m:Int) < xs.length)∧0≤ma∧0≤(q:Int))(hy:xs[m]? = some y)(hc:y.text[q]? = some c) :
 (xs.map aY).set m [T.v (.int .i64 y.kind),T.v (.string y.frm),T.v (.string (Yi y.text q c ma))] = (sS xs m q ma).map aY:=by
 unfold sS
 rw[if_pos h,show((m:Int)).toNat = m from rfl,hy]
 simp only[Zs,show((q:Int)).toNat = q from rfl,hc]
 rw[List.map_set]
theorem J3(xs:List Parcel)(k pl ma:Int)(hl:xs.length≤1048576)(hs:∀ p∈xs,p.text.size≤1048576):F Jv [.val (.t (xQ xs)),.val (.i k),.val (.i pl),.val (.i ma)] (.own pkd ((sS xs k pl ma).map aY)) O4:=by
 by_cases h0:0≤k
 ·obtain⟨m,rfl⟩:=Int.eq_ofNat_of_zero_le h0
  by_cases h8:0≤pl
  ·obtain⟨q,rfl⟩:=Int.eq_ofNat_of_zero_le h8
   refine o8 ?_
   conv=>whnf
   refine g 0 0 []<|J UA<|g 11 12 [.call (V.own pkd (List.map aY xs)) O1]<|J (QA @dU)<|Ws ?_
   by_cases h1:List.length xs≤(2000:Nat)∧(0:Int)≤(↑m:Int)∧(↑m:Int) < (↑(List.length xs):Int)
   by_cases h2:ma < (0:Int)
   refine g 12 34 (.call (V.b (decide (xs.length≤2000∧0≤(m:Int)∧(m:Int) < (↑xs.length:Int)))) O2::BF::BF::BF::(RL 12 BT []))<|J (QA @bS)<|Wc<|Kr (g 34 36 []<|J UB (RT ?_))
   rotate_left
   obtain⟨y1,hy1⟩:=ae (xs:=xs) (n:=m) OM
   have hm1:=hs y1 (List.mem_of_getElem? hy1)
   refine g 12 34 (.call (V.b (decide (xs.length≤2000∧0≤(m:Int)∧(m:Int) < (↑xs.length:Int)))) O2::(RL 10 BF [.x (aY y1),BF,BF,BF,BF,BF]))<|J (QA @bS)<|Wc<|JD (fun h3=>?_) fun h3=>?_
   refine g 34 36 []<|J UB<|RT ?_
   rotate_left
   refine Wk<|g 34 42 [.x (aY y1)]<|J QZ ?_
   obtain⟨y2,hy2,hb1⟩:=bF (s:=Parcel.text y1) (n:=q) OM
   refine g 43 53 [.n (q),.x ([T.v (Value.int IntKind.u8 (↑(UInt8.toNat y2):Int))]),.i (Int.tmod ma 256),.i (IntKind.wrap IntKind.u8 (Int.tmod ma 256)),.i (IntKind.wrap IntKind.u8 (↑(BitVec.toNat (BitVec.ofInt (IntKind.bits IntKind.u8) (↑(UInt8.toNat y2):Int) ^^^ BitVec.ofInt (IntKind.bits IntKind.u8) (IntKind.wrap IntKind.u8 (Int.tmod ma 256)))):Int)),.n (q),.x ([T.v (Value.int IntKind.u8 (↑(UInt8.toNat y2):Int))])]<|J QZ<|g 53 59 [.s ({data:=List.toArray (bZ (List.set (cN y1.text) q (aM [T.v (Value.int IntKind.u8 (↑(UInt8.toNat y2):Int))] 0 [T.v (Value.int IntKind.u8 (IntKind.wrap IntKind.u8 (↑(BitVec.toNat (BitVec.ofInt (IntKind.bits IntKind.u8) (↑(UInt8.toNat y2):Int) ^^^ BitVec.ofInt (IntKind.bits IntKind.u8) (IntKind.wrap IntKind.u8 (Int.tmod ma 256)))):Int)))]))):ByteArray}),.n (m),.x (aY y1)]<|J ⟨I,I,I,⟨I,GH (j4 _),rfl⟩,Zao,I,⟨UA,xA⟩,I⟩<|g 0 4 []<|J UB<|RT ?_
   rotate_left
   refine g 12 34 (.call (V.b (decide (xs.length≤2000∧0≤(m:Int)∧(m:Int) < (↑xs.length:Int)))) O2::(RL 15 BT []))<|J (QA @bS)<|Wc<|Kr (g 34 36 []<|J UB (RT ?_))
   rotate_left
   all_goals (first|rw[rj OM]|rw[LC AS OM]|exact congrArg (V.own pkd) (LB OM AS AS)|skip)
  ·skip
   refine o8 ?_
   conv=>whnf
   refine g 0 0 []<|J UA<|g 11 12 [.call (V.own pkd (List.map aY xs)) O1]<|J (QA @dU)<|Ws ?_
   by_cases h1:List.length xs≤(2000:Nat)∧(0:Int)≤(↑m:Int)∧(↑m:Int) < (↑(List.length xs):Int)
   by_cases h2:ma < (0:Int)
   refine g 12 34 (.call (V.b (decide (xs.length≤2000∧0≤(m:Int)∧(m:Int) < (↑xs.length:Int)))) O2::BF::BF::BF::(RL 12 BT []))<|J (QA @bS)<|Wc<|Kr (g 34 36 []<|J UB (RT ?_))
   rotate_left
   refine g 12 34 (.call (V.b (decide (xs.length≤2000∧0≤(m:Int)∧(m:Int) < (↑xs.length:Int)))) O2::(RL 6 BF (RL 9 BT [])))<|J (QA @bS)<|Wc<|Kr (g 34 36 []<|J UB (RT ?_))
   rotate_left
   refine g 12 34 (.call (V.b (decide (xs.length≤2000∧0≤(m:Int)∧(m:Int) < (↑xs.length:Int)))) O2::(RL 15 BT []))<|J (QA @bS)<|Wc<|Kr (g 34 36 []<|J UB (RT ?_))
   rotate_left
   all_goals rw[rj OM]
 ·skip
  refine o8 ?_
  conv=>whnf
  refine g 0 0 []<|J UA<|g 11 12 [.call (V.own pkd (List.map aY xs)) O1]<|J (QA @dU)<|Ws<|g 12 34 (.call (V.b (decide (xs.length≤2000∧0≤k∧k < (↑xs.length:Int)))) O2::(RL 15 BT []))<|J (QA @bS)<|Wc<|Kr (g 34 36 []<|J UB (RT ?_))
  all_goals rw[rj OM]
theorem T3(xs:List Parcel)(k pl ma:Int):(sS xs k pl ma).length = xs.length:=by
 unfold sS;split
 ·split
  ·rw[List.length_set]
  ·rfl
 ·rfl
end Go.K
end
section
open Go Go.Tm Go.Proofs
namespace Go.K
structure Event where
 kind:Int
 a:Int
 b:Int
 c:Int
 deriving DecidableEq
abbrev IV(x:Event):V:=.agg [.t (.i x.kind),.t (.i x.a),.t (.i x.b),.t (.i x.c)]
abbrev ui(x:Event):V:=.agg [.t (.i x.kind),.t (.i x.a),.t (.i x.b),.t (.i x.c)]
abbrev XN:Event:=⟨0,0,0,0⟩
def jM(ws:List Worker)(k:Int):Worker:=(ws[k.toNat]?).getD fI
def aaU:Parcel:=⟨0,emp,emp⟩
def MJ(xs:List Parcel)(k:Int):Parcel:=(xs[k.toNat]?).getD aaU
noncomputable def jv(p:Plan)(ws:List Worker)(n:Nat):List Message:=((ws.take n).map fun x=>(gm x p).out).flatten
noncomputable def gy(w:World):World :=
 if 1000000≤w.boss.now then w else
 ⟨w.plan,w.key,(qk w.boss w.plan).boss,w.workers.map (fun x=>(gm x w.plan).worker),sn w.flight ((qk w.boss w.plan).out++jv w.plan w.workers w.workers.length) w.key,w.forged⟩
def dn(w:World)(fl:List Parcel):World:=⟨w.plan,w.key,w.boss,w.workers,fl,w.forged⟩
def Bm(w:World)(b:Boss):World:=⟨w.plan,w.key,b,w.workers,w.flight,w.forged⟩
def Ip(w:World)(k:Int)(x:Worker):World:=⟨w.plan,w.key,w.boss,w.workers.set (k - 1).toNat x,w.flight,w.forged⟩
open Classical in
noncomputable def Q9(w:World)(s:Parcel):World:=⟨w.plan,w.key,w.boss,w.workers,w.flight,if ¬s.text = s.frm∧w.forged = emp then s.text else w.forged⟩
def oq(w:World)(k:Int):Prop:=1≤k∧k≤w.workers.length
instance (w:World) (k:Int):Decidable (oq w k):=by unfold oq;infer_instance
noncomputable def cB(w:World)(s:Parcel):World :=
 match eO s.text w.key with
 |none=>w
 |some m =>
  if s.kind = 0 then Bm (Q9 w s) (FA w.boss w.plan m).boss
  else if oq w s.kind then Ip (Q9 w s) s.kind (yr (jM w.workers (s.kind - 1)) w.plan m).worker
  else Q9 w s
def IM(w:World)(k:Int):Prop:=w.flight.length≤2000∧0≤k∧k < w.flight.length
instance (w:World) (k:Int):Decidable (IM w k):=by unfold IM;infer_instance
noncomputable def cH(w:World)(k:Int):World:=if IM w k then cB (dn w (cJ w.flight k)) (MJ w.flight k)else w
noncomputable def doW(w:World)(e:Event):World :=
 if e.kind = 1 then gy w
 else if e.kind = 2 then cH w e.a
 else if e.kind = 3 then dn w (sN w.flight e.a)
 else if e.kind = 4 then dn w (cJ w.flight e.a)
 else if e.kind = 5 then dn w (sS w.flight e.a e.b e.c)
 else if e.kind = 6 then(if e.a = 0 then Bm w (sU w.boss w.plan e.b)else if oq w e.a then Ip w e.a (mM (jM w.workers (e.a - 1)))else w)
 else if e.kind = 7 then(if e.a = 0 then Bm w (jZ w.boss w.plan)else if oq w e.a then Ip w e.a (mL (jM w.workers (e.a - 1)))else w)
 else w
theorem Cz{w:World}{b:Boss}(h:WorldOk w)(hb:BossOk b w.plan)(hw:b.workers = w.boss.workers):WorldOk (Bm w b):=⟨h.plan,h.key,h.wl,h.fl,h.crew,h.par,hb,by show b.workers = _;rw[hw];exact h.same⟩
theorem SU{w:World}{s:Parcel}(h:WorldOk w):WorldOk (Q9 w s):=⟨h.plan,h.key,h.wl,h.fl,h.crew,h.par,h.boss,h.same⟩
theorem ig{w:World}{fl:List Parcel}(h:WorldOk w)(h1:fl.length≤2000)(h2:∀ x∈fl,ParOk x):WorldOk (dn w fl):=⟨h.plan,h.key,h.wl,h1,h.crew,h2,h.boss,h.same⟩
theorem wT{w:World}{k:Int}(h:WorldOk w)(hk:oq w k):∃ x,w.workers[(k - 1).toNat]? = some x∧jM w.workers (k - 1) = x∧av x∧x.number = k:=by
 obtain⟨k1,k2⟩:=hk
 obtain⟨x,hx⟩:=ae (xs:=w.workers) (n:=(k - 1).toNat) OM
 have hc:=h.crew (k - 1).toNat x OM hx
 exact⟨x,hx,by unfold jM;rw[hx];rfl,hc.ok,by rw[hc.num];omega⟩
theorem Cy{w:World}{k:Int}{x y:Worker}(h:WorldOk w)(hk:oq w k)(hx:av y)(hn:y.number = k):WorldOk (Ip w k y):=by
 refine⟨h.plan,h.key,by show 1≤(w.workers.set _ _).length∧_;rw[List.length_set];exact⟨h.wl.1,by show(w.workers.set _ _).length≤8;rw[List.length_set];exact h.wl.2⟩,h.fl,?_,h.par,h.boss,by show w.boss.workers = ((w.workers.set _ _).length:Int);rw[List.length_set];exact h.same⟩
 intro i z hi hz
 obtain⟨k1,k2⟩:=hk
 change (w.workers.set (k - 1).toNat y)[i]? = some z at hz
 by_cases e:i = (k - 1).toNat
 ·subst e
  rw[List.getElem?_set_self OM]at hz
  cases hz
  exact⟨hx,by rw[hn];omega⟩
 ·rw[List.getElem?_set_ne (fun q=>e q.symm)]at hz
  exact h.crew i z (by have:=(List.getElem?_eq_some_iff.1 hz).1;exact this) hz
theorem uF{xs:List Parcel}{k:Int}{x:Parcel}(h:x∈cJ xs k):x∈xs:=by
 unfold cJ at h;split at h
 ·rcases List.mem_append.1 h with h|h
  ·exact List.mem_of_mem_take h
  ·exact List.mem_of_mem_drop h
 ·exact h
theorem B2(xs:List Parcel)(k:Int):(cJ xs k).length≤xs.length:=by
 unfold cJ;split
 ·simp only[List.length_append,List.length_take,List.length_drop];omega
 ·exact Nat.le_refl _
theorem Yb{xs:List Parcel}{k:Int}{x:Parcel}(h:x∈sN xs k):x∈xs:=by
 unfold sN at h;split at h
 ·rcases List.mem_append.1 h with h|h
  ·exact h
  ·cases hy:xs[k.toNat]? with
   |none=>rw[hy]at h;cases h
   |some y =>
    rw[hy]at h
    rw[List.mem_singleton.1 h]
    exact List.mem_of_getElem? hy
 ·exact h
theorem ZX{xs:List Parcel}{k:Int}(hx:xs.length≤2000):(sN xs k).length≤2000:=by
 unfold sN;split
 ·rename_i q
  rw[List.length_append]
  have:((xs[k.toNat]?).toList).length≤1:=by cases xs[k.toNat]? <;> simp
  omega
 ·exact hx
end Go.K
end
section
open Go Go.Tm Go.Proofs
namespace Go.K
theorem T1(t:ByteArray)(q:Nat)(c:UInt8)(ma:Int):(Yi t q c ma).size = t.size:=by
 unfold Yi
 show((bZ _).toArray).size = _
 simp[bZ,gR]
theorem T2{xs:List Parcel}{k pl ma:Int}{x:Parcel}(hx:∀ y∈xs,ParOk y)(h:x∈sS xs k pl ma):ParOk x:=by
 unfold sS at h;split at h
 ·cases hy:xs[k.toNat]? with
  |none=>rw[hy]at h;exact hx x h
  |some y =>
   rw[hy]at h
   rcases List.mem_or_eq_of_mem_set h with h|h
   ·exact hx x h
   ·have hp:=hx y (List.mem_of_getElem? hy)
    rw[h];unfold Zs
    split
    ·exact⟨hp.to,hp.sent,by show(Yi _ _ _ _).size≤500;rw[T1];exact hp.bytes⟩
    ·exact hp
 ·exact hx x h
theorem pb{m:Message}{key:ByteArray}(h:bN m):(dY m key).size≤500:=by
 unfold dY;split
 ·obtain⟨h1,_,h3⟩:=dw h
  rw[ByteArray.size_append,BB,gS h];omega
 ·exact Nat.zero_le _
theorem Td{key:ByteArray}{acc:List Parcel}{m:Message}(h:acc.length≤2000∧∀ x∈acc,ParOk x):(sm key acc m).length≤2000∧∀ x∈sm key acc m,ParOk x:=by
 unfold sm;split
 ·rename_i q
  refine⟨by rw[List.length_append,List.length_singleton];omega,fun x hx=>?_⟩
  rcases List.mem_append.1 hx with hx|hx
  ·exact h.2 x hx
  ·rw[List.mem_singleton.1 hx]
   exact⟨(gr q.1).2.2.1,pb q.1,pb q.1⟩
 ·exact h
theorem Ok{key:ByteArray}:∀ (ms:List Message) {xs:List Parcel},(xs.length≤2000∧∀ x∈xs,ParOk x)→(ms.foldl (sm key) xs).length≤2000∧∀ x∈ms.foldl (sm key) xs,ParOk x
 |[],xs,h=>h
 |m :: ms,xs,h=>Ok ms (Td h)
theorem KQ{key:ByteArray}{ms:List Message}{xs:List Parcel}(h:xs.length≤2000∧∀ x∈xs,ParOk x):(sn xs ms key).length≤2000∧∀ x∈sn xs ms key,ParOk x:=Ok _ h
theorem Mi(b:Boss)(ts:List Task):(iH b ts).boss.workers = b.workers:=by
 unfold iH;split
 ·rfl
 ·split
  ·rfl
  ·split <;> rfl
theorem M7(b:Boss)(k:Int):(lv b k).workers = b.workers:=by unfold lv;split <;> rfl
theorem BD(b:Boss)(p:Plan):(cW b p).workers = b.workers:=by unfold cW;split <;> rfl
theorem Qa(b:Boss)(m:Message):(De b m).workers = b.workers:=by unfold De;split <;> rfl
theorem Jb(b:Boss)(ts:List Task)(m:Message):(iI b ts m).workers = b.workers:=by
 unfold iI;split
 ·split
  ·unfold zq;split <;> rfl
  ·split
   ·rfl
   ·split
    ·split
     ·rw[fE,Qa,(N3 (b:=uZ b ts m) (m:=m)).2,(N4 (b:=b) (ts:=ts) (m:=m)).2]
     ·rfl
    ·rfl
 ·rfl
theorem po{w:World}(h:WorldOk w):WorldOk (gy w):=by
 unfold gy;split
 ·exact h
 ·rw[pG h.boss]
  have hp:=KQ (key:=w.key) (ms:=(iH w.boss w.plan.tasks).out++jv w.plan w.workers w.workers.length) ⟨h.fl,h.par⟩
  refine⟨h.plan,h.key,⟨by show 1≤(w.workers.map _).length;rw[List.length_map];exact h.wl.1,by show(w.workers.map _).length≤8;rw[List.length_map];exact h.wl.2⟩,hp.1,?_,hp.2,Mj h.boss,by show(iH w.boss w.plan.tasks).boss.workers = ((w.workers.map _).length:Int);rw[List.length_map,Mi];exact h.same⟩
  intro i y hi hy
  change (w.workers.map _)[i]? = some y at hy
  rw[List.getElem?_map]at hy
  cases hx:w.workers[i]? with
  |none=>rw[hx]at hy;cases hy
  |some x =>
   rw[hx]at hy
   have hc:=h.crew i x (List.getElem?_eq_some_iff.1 hx).1 hx
   have e:=Option.some.inj hy
   dsimp only at e
   rw[eU hc.ok h.plan]at e
   have ht:=SZ w.plan.tasks hc.ok
   rw[←e]
   exact⟨ht.1,by rw[ht.2];exact hc.num⟩
theorem xz{w:World}{s:Parcel}(h:WorldOk w):WorldOk (cB w s):=by
 unfold cB
 cases hm:eO s.text w.key with
 |none=>exact h
 |some m =>
  dsimp only
  have hg:=SU (s:=s) h
  split
  ·rw[pH h.boss]
   exact Cz hg (Mm m h.boss) (Jb _ _ _)
  ·split
   ·rename_i hk
    obtain⟨x,hx,e,ok,num⟩:=wT h hk
    rw[e,eV ok h.plan]
    have ht:=S1 (ts:=w.plan.tasks) m h.plan ok
    exact Cy (x:=x) hg hk ht.1 (by rw[ht.2];exact num)
   ·exact hg
theorem kI{w:World}(k:Int)(h:WorldOk w):WorldOk (cH w k):=by
 unfold cH;split
 ·exact xz (ig h (by have:=B2 w.flight k;have:=h.fl;omega) fun x hx=>h.par x (uF hx))
 ·exact h
theorem NS{w:World}(e:Event)(h:WorldOk w):WorldOk (doW w e):=by
 unfold doW
 split
 ·exact po h
 split
 ·exact kI _ h
 split
 ·exact ig h (ZX h.fl) fun x hx=>h.par x (Yb hx)
 split
 ·exact ig h (by have:=B2 w.flight e.a;have:=h.fl;omega) fun x hx=>h.par x (uF hx)
 split
 ·exact ig h (by rw[T3];exact h.fl) fun x hx=>T2 h.par hx
 split
 ·split
  ·rw[C0 h.boss];exact Cz h (sH _ h.boss) (M7 _ _)
  ·split
   ·rename_i hk
    obtain⟨x,hx,e,ok,num⟩:=wT h hk
    rw[e]
    have ht:=TC ok
    exact Cy (x:=x) h hk ht.1 (by rw[ht.2];exact num)
   ·exact h
 split
 ·split
  ·rw[nA h.boss];exact Cz h (sa h.boss) (BD _ _)
  ·split
   ·rename_i hk
    obtain⟨x,hx,e,ok,num⟩:=wT h hk
    rw[e]
    have ht:=Ta ok
    exact Cy (x:=x) h hk ht.1 (by rw[ht.2];exact num)
   ·exact h
 ·exact h
end Go.K
end
section
open Go Go.Tm Go.Proofs
namespace Go.K
abbrev keyY:ByteArray:=⟨#[107,101,121]⟩
theorem KT(xs:List Parcel)(y:Parcel):xs.map aY++ [aY y] = (xs++ [y]).map aY:=by rw[List.map_append];rfl
theorem TG(l:List Int)(pos:Int)(hl:dM l)(h0:0≤pos)(h1:pos≤900000):∃ res outs,(∃ (xs:List Parcel) (pos2:Int),res = .own pkd (xs.map aY)∧outs = [rdC l pos2]∧xs.length≤2001∧(∀ x∈xs,ParOk x)∧pos≤pos2∧pos2≤pos+400)∧F Dn [.ptr (rdC l pos)] res outs:=by
 have p5:=ak l pos 5
 have ek:keyY.size = 3:=rfl
 refine C4 ?_
 conv=>whnf
 refine g 0 0 []<|J UA<|g 6 7 []<|J UB<|Ws<|g 7 9 [.call (V.i (ac l pos 5)) ([rdC l (pos+1),[]])]<|J (QA @aa)<|Wb ?_
 refine Wl (fun s (x:Int×List Parcel×Int)=>⟨[(0,s.s 0),(2,s.s 2),(3,.ref ⟨3,none,0⟩),(4,.i x.1)],[(41,[.t (u8s l),.t (.i x.2.2)]),(3,[.own pkd (x.2.1.map aY)])],[]⟩) (fun(x:Int×List Parcel×Int)=>0≤x.1∧x.1≤4∧x.2.1.length≤2000∧(∀ s∈x.2.1,ParOk s)∧pos+1≤x.2.2∧x.2.2≤pos+1+50 * (4 - x.1)) (fun(x:Int×List Parcel×Int)=>x.1.toNat) ((ac l pos 5,[],pos+1)) [some 41,some 6] [] FZ ?_ ?_
 ·exact⟨p5.1,by dsimp only;omega,Nat.zero_le _,fun s hs=>(by cases hs),Int.le_refl _,by dsimp only;omega⟩
 rintro⟨n,xs,q⟩ ⟨i1,i2,i3,i4,i5,i6⟩
 dsimp only at i1 i2 i3 i4 i5 i6
 by_cases hn:0 < n
 ·have cd:=EK l q hl OM OM
  obtain⟨⟨d1,d2⟩,d3,d4⟩:=Tn l q
  generalize(nw l q).1 = m at cd d1 d2
  generalize(nw l q).2 = u at cd d3 d4
  have cP:=yg xs [m] keyY OM (by show 1≤_;omega) (fun y hy=>by rw[List.mem_singleton.1 hy];exact Nat.le_trans d1.1 OM)
  obtain⟨b1,b2⟩:=KQ (key:=keyY) (ms:=[m]) ⟨i3,i4⟩
  generalize sn xs [m] keyY = ys at cP b1 b2
  conv=>whnf
  refine Ws<|g 9 10 []<|J UB<|Wc<|Kt (Wk (Ws (Wb (rg [.call (bC m) ([rdC l u]),.call (V.own pkd (List.map aY ys)) O3]<|J QZ (rg [.i (Prod.fst (n,xs,q) - 1)]<|J QZ ?_)))))
  refine⟨(n - 1,ys,u),[some 41,some 17],[],FZ,?_,?_⟩
  rotate_left
  (dsimp only;omega)
  dsimp only
  exact⟨by omega,by omega,b1,b2,by omega,by omega⟩
 ·have p10:=ak l q 10
  by_cases k10:ac l q 10 = 0
  ·by_cases kx:0 < xs.length
   ·have p3:=ak l (q+1) 3
    obtain⟨y,hy⟩:=ae (xs:=xs) (n:=0) kx
    conv=>whnf
    refine Ws<|g 9 10 []<|J UB<|Wc<|Jf<|We<|Ws<|g 4 25 [.call (V.i (ac l q 10)) ([rdC l (q+1),[]]),BT,BT,BT,BT]<|J (QA @aa)<|Wc<|J (fun _=>(g 25 30 [.call (V.i (ac l (q+1) 3)) ([rdC l (q+1+1),[]]),.i (2000+ac l (q+1) 3),.i (2000+ac l (q+1) (3:Int) - 1)]<|J (QA @aa) (Wb ?_))) (noF SI)
    refine Wl (fun s (zs:List Parcel)=>⟨[(0,s.s 0),(2,s.s 2),(3,.ref ⟨3,none,0⟩),(5,s.s 5)],[(41,[s.c 41 0,s.c 41 1]),(3,[.own pkd (zs.map aY)])],[]⟩) (fun(zs:List Parcel)=>zs.length≤2001∧zs[0]? = some y∧(∀ s∈zs,ParOk s)) (fun(zs:List Parcel)=>2001 - zs.length) (xs) [some 41,some 3] [] FZ ?_ ?_
    ·exact⟨by omega,hy,i4⟩
    rintro zs ⟨z1,z2,z3⟩
    have hyo:=z3 y (List.mem_of_getElem? z2)
    have hz0:0 < zs.length:=(List.getElem?_eq_some_iff.1 z2).1
    have ez:=KT zs y
    have el:(zs++ [y]).length = zs.length+1:=by rw[List.length_append];rfl
    by_cases kz:(zs.length:Int) < 2000+ac l (q+1) 3 - 1
    ·conv=>whnf
     refine Ws<|g 30 33 []<|J UD<|Wc<|J (fun _=>(Wk (Wb (rg [.n (0),.x (aY y)]<|J QZ ?_)))) (noF SI)
     refine⟨zs++ [y],[some 41,some 39],[],⟨rfl,FZ,⟨FZ,⟨⟨rfl,⟨(congrArg (V.own _) (ez)),I⟩⟩,I⟩⟩,I⟩,?_,?_⟩
     rotate_left
     (dsimp only;omega)
     dsimp only
     refine⟨by omega,by rw[List.getElem?_append_left hz0];exact z2,fun s hs=>?_⟩
     rcases List.mem_append.1 hs with hs|hs
     ·exact z3 s hs
     ·rw[List.mem_singleton.1 hs];exact hyo
    ·conv=>whnf
     refine Ws<|g 30 33 []<|J UD<|Wc<|J (noT SI) fun _=>We<|g 3 41 []<|J UB<|W.ret<|EndsW.rt<|J UB ?_
     exact⟨zs,q+1+1,rfl,rfl,z1,z3,by omega,by omega⟩
   ·conv=>whnf
    refine Ws<|g 9 10 []<|J UB<|Wc<|Jf<|We<|Ws<|g 4 25 [.call (V.i (ac l q 10)) ([rdC l (q+1),[]]),BT,BT,BT,BT]<|J (QA @aa)<|Wc<|J (noT SI) fun _=>Wk<|g 3 41 []<|J UB<|W.ret<|EndsW.rt<|J UB ?_
    exact⟨xs,q+1,rfl,rfl,by omega,i4,by omega,by omega⟩
  ·conv=>whnf
   refine Ws<|g 9 10 []<|J UB<|Wc<|Jf<|We<|Ws<|g 4 25 [.call (V.i (ac l q 10)) ([rdC l (q+1),[]]),BF,BF,BF,BF]<|J (QA @aa)<|Wc<|Jr<|Wk<|g 3 41 []<|J UB<|W.ret<|EndsW.rt<|J UB ?_
   exact⟨xs,q+1,rfl,rfl,by omega,i4,by omega,by omega⟩
end Go.K
end
section
open Go Go.Tm Go.Proofs
namespace Go.K
theorem Mf(w:World):dn w w.flight = w:=rfl
theorem I8(w:World)(a b:List Parcel):dn (dn w a) b = dn w b:=rfl
theorem Fj(w:World)(s:Parcel):(cB w s).flight = w.flight:=by
 unfold cB
 cases eO s.text w.key with
 |none=>rfl
 |some m=>dsimp only;split;rfl;split <;> rfl
theorem ud(w:World)(s:Parcel)(fl:List Parcel):cB (dn w fl) s = dn (cB w s) fl:=by
 unfold cB
 show(match eO s.text w.key with|none=>_|some m=>_) = _
 cases eO s.text w.key with
 |none=>rfl
 |some m =>
  dsimp only
  by_cases h0:s.kind = 0
  ·rw[if_pos h0,if_pos h0];rfl
  ·rw[if_neg h0,if_neg h0]
   by_cases h1:oq w s.kind
   ·rw[if_pos (show oq (dn w fl) s.kind from h1),if_pos h1];rfl
   ·rw[if_neg (show ¬oq (dn w fl) s.kind from h1),if_neg h1];rfl
theorem J9{w:World}{s:Parcel}{fl:List Parcel}(h:w.flight = s :: fl)(hl:w.flight.length≤2000):cH w 0 = dn (cB w s) fl:=by
 have ha:IM w 0:=⟨hl,Int.le_refl _,by rw[h];simp only[List.length_cons];omega⟩
 have e1:cJ w.flight 0 = fl:=by
  rw[cJ,if_pos (show w.flight.length≤2000∧(0:Int)≤0∧(0:Int) < w.flight.length from ha),h];rfl
 have e2:MJ w.flight 0 = s:=by unfold MJ;rw[h];rfl
 rw[cH,if_pos ha,e1,e2,ud]
noncomputable def dJ(w:World):World:=w.flight.foldl cB (dn w [])
theorem kG{w:World}(h:w.flight = []):dJ w = w:=by
 unfold dJ;rw[h]
 show dn w [] = w
 rw[←h];exact Mf w
theorem Nb{w:World}{s:Parcel}{fl:List Parcel}(h:w.flight = s :: fl):dJ w = dJ (dn (cB w s) fl):=by
 unfold dJ
 rw[h]
 show fl.foldl cB (cB (dn w []) s) = fl.foldl cB (dn (dn (cB w s) fl) [])
 rw[ud,I8]
theorem Ie:∀ (fl:List Parcel) {w:World},WorldOk w→WorldOk (fl.foldl cB w)
 |[],w,h=>h
 |s :: fl,w,h=>Ie fl (xz (s:=s) h)
theorem TK{w:World}(h:WorldOk w):WorldOk (dJ w):=Ie _ (ig h (Nat.zero_le _) fun x hx=>by cases hx)
theorem pc:∀ (fl:List Parcel) (w:World),(fl.foldl cB w).flight = w.flight
 |[],w=>rfl
 |s :: fl,w=>by rw[List.foldl_cons,pc fl,Fj]
theorem t9(w:World):(dJ w).flight = []:=by unfold dJ;rw[pc];rfl
noncomputable def qq(w:World):World:=dJ (gy w)
noncomputable def aU(w:World):Nat→World
 |0=>w
 |n+1=>qq (aU w n)
theorem S9{w:World}(h:WorldOk w):WorldOk (qq w):=TK (po h)
theorem qW{w:World}(h:WorldOk w):∀ n,WorldOk (aU w n)
 |0=>h
 |n+1=>S9 (qW h n)
theorem uo{w:World}(h:1000000≤w.boss.now):gy w = w:=if_pos h
theorem yf(w:World)(n:Nat):(aU w (n+1)).flight = []:=t9 _
theorem Nh{w:World}{s:Parcel}(h:WorldOk w):(cB w s).boss.now = w.boss.now:=by
 unfold cB
 cases eO s.text w.key with
 |none=>rfl
 |some m =>
  dsimp only
  split
  ·rw[pH h.boss]
   show(iI w.boss w.plan.tasks m).now = _
   have e3:∀ (b:Boss),(De b m).now = b.now:=fun b=>by unfold De;split <;> rfl
   have e2:∀ (b:Boss),(FU b m).now = b.now:=fun b=>by
    unfold FU;split
    ·unfold n4;split <;> rfl
    ·rfl
   have e1:∀ (b:Boss) (ts:List Task),(uZ b ts m).now = b.now:=fun b ts=>by unfold uZ;split <;> rfl
   unfold iI;split
   ·split
    ·unfold zq;split <;> rfl
    ·split
     ·rfl
     ·split
      ·split
       ·rw[fE,e3,e2,e1]
       ·rfl
      ·rfl
   ·rfl
  ·split <;> rfl
theorem Ll:∀ (fl:List Parcel) {w:World},WorldOk w→(fl.foldl cB w).boss.now = w.boss.now
 |[],w,h=>rfl
 |s :: fl,w,h=>by rw[List.foldl_cons,Ll fl (xz (s:=s) h),Nh h]
theorem QO{w:World}(h:WorldOk w):(dJ w).boss.now = w.boss.now:=Ll _ (ig h (Nat.zero_le _) fun x hx=>by cases hx)
theorem Lx{w:World}{n:Nat}(hok:WorldOk w)(h:1000000≤(aU w n).boss.now):∀ k,aU w (n+k+1) = dJ (aU w n)
 |0=>by show qq (aU w n) = _;rw[qq,uo h]
 |k+1=>by
  have ih:=Lx hok h k
  show qq (aU w (n+k+1)) = _
  have hn:1000000≤(dJ (aU w n)).boss.now:=by rw[QO (qW hok n)];exact h
  rw[ih,qq,uo hn,kG (t9 _)]
noncomputable def g8(w:World)(rounds:Int):World:=if WorldOk w then aU w (min rounds.toNat 2000)else noWorld
end Go.K
end
section
open Go Go.Tm Go.Proofs
namespace Go.K
theorem tS{xs:List Parcel}{k:Int}(h:k < 0∨(xs.length:Int)≤k):cJ xs k = xs:=if_neg fun q=>by have:=q.2;omega
theorem yb{xs:List Parcel}{k:Int}(h:k < 0∨(xs.length:Int)≤k):sN xs k = xs:=if_neg fun q=>by have:=q.2;omega
theorem ue{xs:List Parcel}{k pl ma:Int}(h:k < 0∨(xs.length:Int)≤k):sS xs k pl ma = xs:=if_neg fun q=>by have:=q.1.2;omega
theorem Ly(w:World)(a:Nat):∀ b,aU (aU w a) b = aU w (a+b)
 |0=>rfl
 |b+1=>by show qq (aU (aU w a) b) = qq (aU w (a+b));rw[Ly w a b]
structure Keeps (b c:Boss):Prop where
 up:c.up = b.up
 res:c.results = b.results
end Go.K
end
section
open Go Go.Tm Go.Proofs
namespace Go.K
def zS(n:Nat)(a:Acted):Prop:=a.worker.inputs.length≤n∧(a.out = []∨∃ m,a.out = [m]∧m.inputs = [])
theorem r7{n:Nat}{w:Worker}{k:Int}(h:w.inputs.length≤n):zS n (Fu w k):=⟨h,.inr ⟨_,rfl,rfl⟩⟩
theorem gM{n:Nat}{w:Worker}(h:w.inputs.length≤n):zS n ⟨w,[]⟩:=⟨h,.inl rfl⟩
theorem Mk(w:Worker)(ts:List Task):zS w.inputs.length (g9 w ts):=by
 unfold g9
 split
 ·exact gM (Nat.le_refl _)
 split
 ·split
  ·exact⟨Nat.zero_le _,.inr ⟨_,rfl,rfl⟩⟩
  ·split
   ·exact r7 (Nat.le_refl _)
   ·exact gM (Nat.le_refl _)
 split
 ·split
  ·exact r7 (Nat.le_refl _)
  ·exact gM (Nat.le_refl _)
 ·split
  ·exact r7 (Nat.le_refl _)
  ·exact gM (Nat.le_refl _)
theorem I7(w:Worker)(p:Plan):zS w.inputs.length (gm w p):=by
 unfold gm;split
 ·exact Mk _ _
 ·exact gM (Nat.zero_le _)
end Go.K
end
section
open Go Go.Tm Go.Proofs
namespace Go.K
theorem ZZ{p:Plan}(h:am p.tasks = 0):dD p:=IE (gq (pS h))
theorem MA{s:ByteArray}{e:Entry}(h:eZ s = some e):s.size≤12:=by
 have e1:=iZ e
 rw[MB h]at e1
 have hok:=kF h
 rcases hok.2.2 with⟨_,_,h3⟩|⟨_,h3⟩
 ·have:e.text.size = 0:=by rw[h3];rfl
  omega
 ·omega
theorem Bu{p:Plan}{xs:List ByteArray}(h:(ax p xs).code = 0):∀ s∈xs,s.size≤12:=fun s hs=>by
 obtain⟨e,he,_⟩:=(wY h).fwd s hs
 exact MA he
theorem ZL{b:Boss}{p:Plan}(h:BossOk b p):BossLim b:=by
 have hc:=h.code
 have hl:=(cF hc).2.1
 have hs:=Bu hc
 have hp:=(bX h.plan).1
 rw[List.length_append]at hl
 have hw:=h.workers
 cases hb:b.up with
 |true =>
  obtain⟨u1,u2,u3,u4,u5,u6,u7,u8,u9,u10,u11,u12⟩:=h.up hb
  exact⟨by omega,by omega,fun s q=>by have:=hs s q;omega,by omega,by omega,by omega,by omega⟩
 |false =>
  obtain⟨d1,d2,d3,d4,d5,d6,d7,d8⟩:=h.down hb
  exact⟨by omega,by omega,fun s q=>by have:=hs s q;omega,by omega,by omega,by omega,by omega⟩
theorem QN{l:List ByteArray}(h:fm l):l.length≤8:=h.2
theorem Me{x:Worker}(h:av x):x.inputs.length≤8:=by
 obtain⟨_,_,_,_,h|h|h⟩:=h
 ·obtain⟨_,_,_,_,_,h,_⟩:=h;omega
 ·obtain⟨_,_,_,_,h,_⟩:=h;exact QN h
 ·obtain⟨_,_,_,_,h,_⟩:=h;omega
structure DoLim (w:World):Prop where
 plan:dD w.plan
 small:dl w.plan
 boss:BossLim w.boss
 wl:w.workers.length≤8
 wi:∀ x∈w.workers,x.inputs.length≤8
 fl:w.flight.length≤2000
 par:∀ x∈w.flight,ParOk x
 key:w.key.size≤30
def sZ(w:World):Prop:=WorldOk w∨w = noWorld
theorem fa{w:World}(h:WorldOk w):DoLim w:=by
 refine⟨ZZ h.plan,pS h.plan,ZL h.boss,h.wl.2,fun x hx=>?_,h.fl,h.par,h.key⟩
 obtain⟨n,hn⟩:=List.getElem?_of_mem hx
 exact Me (h.crew n x (List.getElem?_eq_some_iff.1 hn).1 hn).ok
theorem no_dolim:DoLim noWorld:=by
 refine⟨⟨Nat.zero_le _,fun y hy=>(by cases hy)⟩,⟨Nat.zero_le _,fun y hy=>(by cases hy)⟩,⟨Nat.zero_le _,Nat.zero_le _,fun s hs=>(by cases hs),Nat.zero_le _,Nat.zero_le _,Nat.zero_le _,Nat.zero_le _⟩,Nat.zero_le _,fun y hy=>(by cases hy),Nat.zero_le _,fun y hy=>(by cases hy),Nat.zero_le _⟩
theorem bO{w:World}(h:sZ w):DoLim w:=by
 rcases h with h|rfl
 ·exact fa h
 ·exact no_dolim
theorem ya{w:World}(h:DoLim w):WorldLim w:=by
 have h1:=h.key
 have h2:=h.wl
 have h3:=h.fl
 exact⟨h.plan,h.boss,by omega,by omega,fun x hx=>by have:=h.wi x hx;omega,by omega,fun x hx=>by have a:=(h.par x hx).sent;have b:=(h.par x hx).bytes;exact⟨by omega,by omega⟩⟩
theorem aaT:¬WorldOk noWorld:=fun h=>by have:=(bX h.plan).1.1;exact absurd this (by decide)
theorem H6{b:Boss}{ts:List Task}(h:ts = []):¬BossOk b ⟨ts⟩:=fun q=>by subst h;have:=(bX q.plan).1.1;exact absurd this (by decide)
theorem pM:gy noWorld = noWorld:=by
 have e:qk noWorld.boss noWorld.plan = IC:=CZ (H6 rfl)
 unfold gy
 rw[if_neg (by decide),e]
 rfl
theorem jf(k:Int):cH noWorld k = noWorld:=if_neg fun q=>by have:=q.2;simp only[List.length_nil]at this;omega
theorem sM(e:Event):doW noWorld e = noWorld:=by
 unfold doW
 split
 ·exact pM
 split
 ·exact jf _
 have hn:∀ k:Int,k < 0∨(([]:List Parcel).length:Int)≤k:=fun k=>by simp only[List.length_nil];omega
 split
 ·show dn noWorld (sN [] e.a) = _
  rw[yb (hn _)];rfl
 split
 ·show dn noWorld (cJ [] e.a) = _
  rw[tS (hn _)];rfl
 split
 ·show dn noWorld (sS [] e.a e.b e.c) = _
  rw[ue (hn _)];rfl
 have hx:¬oq noWorld e.a:=fun q=>by have h1:=q.1;have h2:=q.2;simp only[List.length_nil]at h2;omega
 split
 ·split
  ·show Bm noWorld (sU iT ⟨[]⟩ e.b) = _
   rw[show sU iT ⟨[]⟩ e.b = iT from LA (H6 rfl)];rfl
  ·first|rfl|rw[if_neg hx]
 split
 ·split
  ·show Bm noWorld (jZ iT ⟨[]⟩) = _
   rw[show jZ iT ⟨[]⟩ = iT from if_neg (H6 rfl)];rfl
  ·first|rfl|rw[if_neg hx]
 ·rfl
theorem Gi{w:World}(h:sZ w):sZ (gy w):=by
 rcases h with h|rfl
 ·exact .inl (po h)
 ·exact .inr pM
theorem nZ{w:World}(k:Int)(h:sZ w):sZ (cH w k):=by
 rcases h with h|rfl
 ·exact .inl (kI k h)
 ·exact .inr (jf k)
theorem OJ{w:World}(e:Event)(h:sZ w):sZ (doW w e):=by
 rcases h with h|rfl
 ·exact .inl (NS e h)
 ·exact .inr (sM e)
theorem Ct(p:Plan)(ws:List Worker):jv p ws 0 = []:=rfl
theorem Cu{p:Plan}{ws:List Worker}{n:Nat}{x:Worker}(h:ws[n]? = some x):jv p ws n++ (gm x p).out = jv p ws (n+1):=by
 unfold jv;rw[List.take_add_one,h];simp
theorem pJ(x:Worker)(p:Plan):(gm x p).out.length≤1∧∀ m∈(gm x p).out,m.inputs = []:=by
 rcases(I7 x p).2 with e|⟨m,e,e2⟩
 ·rw[e];exact⟨Nat.zero_le _,fun m hm=>by cases hm⟩
 ·rw[e];exact⟨Nat.le_refl _,fun y hy=>by rw[List.mem_singleton.1 hy];exact e2⟩
theorem OU{α:Type}:∀ {xs:List (List α)},(∀ x∈xs,x.length≤1)→xs.flatten.length≤xs.length
 |[],_=>Nat.le_refl _
 |x :: xs,h=>by
  have h1:=h x (List.mem_cons_self ..)
  have h2:=OU fun y hy=>h y (List.mem_cons_of_mem x hy)
  simp only[List.flatten_cons,List.length_append,List.length_cons];omega
theorem LG(p:Plan)(ws:List Worker)(n:Nat):(jv p ws n).length≤ws.length:=by
 have h:=OU (xs:=(ws.take n).map fun x=>(gm x p).out) (fun y hy=>by obtain⟨x,_,rfl⟩:=List.mem_map.1 hy;exact(pJ x p).1)
 have:((ws.take n).map fun x=>(gm x p).out).length≤ws.length:=by rw[List.length_map,List.length_take];omega
 exact Nat.le_trans h this
theorem LH{p:Plan}{ws:List Worker}{n:Nat}{m:Message}(h:m∈jv p ws n):m.inputs = []:=by
 obtain⟨l,hl,hm⟩:=List.mem_flatten.1 h
 obtain⟨x,_,rfl⟩:=List.mem_map.1 hl
 exact(pJ x p).2 m hm
theorem GC(b:Boss)(p:Plan):(qk b p).out.length≤2040:=by
 by_cases hv:BossOk b p
 ·rw[pG hv]
  by_cases h0:b.now = 1000000
  ·rw[um h0];exact Nat.zero_le _
  by_cases hup:b.up = false
  ·rw[Bs h0 hup];exact Nat.zero_le _
  have hup2:b.up = true:=by cases hb:b.up;exact absurd hb hup;rfl
  obtain⟨u1,u2,u3,u4,u5,u6,⟨u7,u8⟩,⟨u9,u10⟩,u11,u12,u13,u14⟩:=hv.up hup2
  have hpl:=(bX hv.plan).1
  have hdl:∀ t∈p.tasks,t.deps.length≤8:=fun t ht=>by
   obtain⟨k,hk⟩:=List.getElem?_of_mem ht
   exact(cz hv.plan hk).2.2.1
  obtain⟨k1,k2,k3,k4,k5,k6⟩:=mF (b:=dL b) (ts:=p.tasks) hdl u9 u10 p.tasks.length
  have j3:(endH b p.tasks).out.length≤40:=by show(aK _ _ _).out.length≤_;omega
  by_cases hs:b.since+1 = 2
  ·rw[nL h0 hup hs]
   simp only[List.length_append,List.length_map];omega
  ·rw[pN h0 hup hs]
   show(endH b p.tasks).out.length≤_;omega
 ·rw[CZ hv];exact Nat.zero_le _
theorem N6{w:World}(h:¬1000000≤w.boss.now):gy w = ⟨w.plan,w.key,(qk w.boss w.plan).boss,w.workers.map (fun x=>(gm x w.plan).worker),sn w.flight ((qk w.boss w.plan).out++jv w.plan w.workers w.workers.length) w.key,w.forged⟩:=if_neg h
open Classical in
noncomputable def B8(w:World)(s:Parcel):ByteArray:=if ¬s.text = s.frm∧w.forged = emp then s.text else w.forged
theorem OL{w:World}{s:Parcel}(h1:¬s.text = s.frm)(h2:w.forged = emp):B8 w s = s.text:=if_pos ⟨h1,h2⟩
theorem Lh{w:World}{s:Parcel}(h1:s.text = s.frm):B8 w s = w.forged:=if_neg fun q=>q.1 h1
theorem Li{w:World}{s:Parcel}(h2:¬w.forged = emp):B8 w s = w.forged:=if_neg fun q=>h2 q.2
theorem GD{w:World}{k:Int}{s:Parcel}(ha:w.flight.length≤2000∧0≤k∧k < w.flight.length)(hs:w.flight[k.toNat]? = some s):cH w k = cB (dn w (cJ w.flight k)) s:=by
 have e:MJ w.flight k = s:=by unfold MJ;rw[hs];rfl
 rw[cH,if_pos (show IM w k from ha),e]
theorem Lz{w:World}{k:Int}(ha:¬(w.flight.length≤2000∧0≤k∧k < w.flight.length)):cH w k = w:=if_neg ha
theorem GE{w:World}{s:Parcel}(hm:eO s.text w.key = none):cB w s = w:=by unfold cB;rw[hm]
theorem yn{w:World}{s:Parcel}{m:Message}(hm:eO s.text w.key = some m)(h0:s.kind = 0):cB w s = ⟨w.plan,w.key,(FA w.boss w.plan m).boss,w.workers,w.flight,B8 w s⟩:=by unfold cB;rw[hm];dsimp only;rw[if_pos h0];rfl
theorem ym{w:World}{s:Parcel}{m:Message}{x:Worker}(hm:eO s.text w.key = some m)(h0:¬s.kind = 0)(hx:oq w s.kind)(hw:w.workers[(s.kind - 1).toNat]? = some x):cB w s = ⟨w.plan,w.key,w.boss,w.workers.set (s.kind - 1).toNat (yr x w.plan m).worker,w.flight,B8 w s⟩:=by
 have e:jM w.workers (s.kind - 1) = x:=by unfold jM;rw[hw];rfl
 unfold cB;rw[hm];dsimp only;rw[if_neg h0,if_pos hx,e];rfl
theorem Cp{w:World}{s:Parcel}{m:Message}(hm:eO s.text w.key = some m)(h0:¬s.kind = 0)(hx:¬oq w s.kind):cB w s = ⟨w.plan,w.key,w.boss,w.workers,w.flight,B8 w s⟩:=by
 unfold cB;rw[hm];dsimp only;rw[if_neg h0,if_neg hx];rfl
theorem abm{w:World}{e:Event}(h:e.kind = 1):doW w e = gy w:=by rw[doW,if_pos h]
theorem abl{w:World}{e:Event}(h:e.kind = 2):doW w e = cH w e.a:=by rw[doW,if_neg OM,if_pos h]
theorem abk{w:World}{e:Event}(h:e.kind = 3):doW w e = ⟨w.plan,w.key,w.boss,w.workers,sN w.flight e.a,w.forged⟩:=by rw[doW,if_neg OM,if_neg OM,if_pos h];rfl
theorem abj{w:World}{e:Event}(h:e.kind = 4):doW w e = ⟨w.plan,w.key,w.boss,w.workers,cJ w.flight e.a,w.forged⟩:=by rw[doW,if_neg OM,if_neg OM,if_neg OM,if_pos h];rfl
theorem abi{w:World}{e:Event}(h:e.kind = 5):doW w e = ⟨w.plan,w.key,w.boss,w.workers,sS w.flight e.a e.b e.c,w.forged⟩:=by rw[doW,if_neg OM,if_neg OM,if_neg OM,if_neg OM,if_pos h];rfl
theorem aay{w:World}{e:Event}(h:e.kind = 6):doW w e = if e.a = 0 then Bm w (sU w.boss w.plan e.b)else if oq w e.a then Ip w e.a (mM (jM w.workers (e.a - 1)))else w:=by rw[doW,if_neg OM,if_neg OM,if_neg OM,if_neg OM,if_neg OM,if_pos h]
theorem aax{w:World}{e:Event}(h:e.kind = 7):doW w e = if e.a = 0 then Bm w (jZ w.boss w.plan)else if oq w e.a then Ip w e.a (mL (jM w.workers (e.a - 1)))else w:=by rw[doW,if_neg OM,if_neg OM,if_neg OM,if_neg OM,if_neg OM,if_neg OM,if_pos h]
theorem Zn{w:World}{e:Event}(h:e.kind = 6)(h0:e.a = 0):doW w e = ⟨w.plan,w.key,sU w.boss w.plan e.b,w.workers,w.flight,w.forged⟩:=by rw[aay h,if_pos h0];rfl
theorem Zk{w:World}{e:Event}(h:e.kind = 7)(h0:e.a = 0):doW w e = ⟨w.plan,w.key,jZ w.boss w.plan,w.workers,w.flight,w.forged⟩:=by rw[aax h,if_pos h0];rfl
theorem Zl{w:World}{e:Event}{x:Worker}(h:e.kind = 6)(hx:oq w e.a)(hw:w.workers[(e.a - 1).toNat]? = some x):doW w e = ⟨w.plan,w.key,w.boss,w.workers.set (e.a - 1).toNat (mM x),w.flight,w.forged⟩:=by
 have e1:jM w.workers (e.a - 1) = x:=by unfold jM;rw[hw];rfl
 rw[aay h,if_neg (by have:=hx.1;omega),if_pos hx,e1];rfl
theorem Zi{w:World}{e:Event}{x:Worker}(h:e.kind = 7)(hx:oq w e.a)(hw:w.workers[(e.a - 1).toNat]? = some x):doW w e = ⟨w.plan,w.key,w.boss,w.workers.set (e.a - 1).toNat (mL x),w.flight,w.forged⟩:=by
 have e1:jM w.workers (e.a - 1) = x:=by unfold jM;rw[hw];rfl
 rw[aax h,if_neg (by have:=hx.1;omega),if_pos hx,e1];rfl
theorem Zm{w:World}{e:Event}(h:e.kind = 6)(h0:¬e.a = 0)(hx:¬oq w e.a):doW w e = w:=by rw[aay h,if_neg h0,if_neg hx]
theorem Zj{w:World}{e:Event}(h:e.kind = 7)(h0:¬e.a = 0)(hx:¬oq w e.a):doW w e = w:=by rw[aax h,if_neg h0,if_neg hx]
abbrev C6(p:Plan)(key:ByteArray)(b:Boss)(ws:List (List T))(fl:List Parcel)(f:ByteArray):V:=.agg [.own cI (p.tasks.map ay),.t (.s key),.t (.i b.workers),.t (.b b.up),.t (.i b.now),.t (.i b.since),.t (.i b.epoch),.t (.i b.given),.own [false] (b.log.safe.map ah),.own [false] (b.log.loose.map ah),.own [false] (b.results.map ah),.own dB (b.jobs.map aH),.own bw (b.seats.map aE),.own bx (b.owed.map aJ),.own bB ws,.own pkd (fl.map aY),.t (.s f)]
theorem gj{xs:List Worker}{n:Nat}{x:Worker}:(xs.map ag).set n (ag x) = (xs.set n x).map ag:=by rw[←List.map_set]
theorem ky(p:Plan)(key:ByteArray)(b:Boss)(ws:List Worker)(n:Nat)(y:Worker)(fl:List Parcel)(f:ByteArray):C6 p key b ((ws.map ag).set n (ag y)) fl f = ar ⟨p,key,b,ws.set n y,fl,f⟩:=by
 show C6 p key b _ fl f = C6 p key b ((ws.set n y).map ag) fl f
 rw[gj]
theorem kL(p:Plan)(key:ByteArray)(b:Boss)(ws:List Worker)(n:Nat)(y:Worker)(fl:List Parcel)(f:ByteArray)(os:List (List V)):cellsOf (C6 p key b ((ws.map ag).set n (ag y)) fl f) :: os = cellsOf (ar ⟨p,key,b,ws.set n y,fl,f⟩) :: os:=by rw[ky]
end Go.K
end
section
open Go Go.Tm Go.Proofs
namespace Go.K
theorem ux{b:Boss}{m:Message}(h:Owes b m):De b m = ⟨b.workers,b.up,b.now,b.since,b.epoch,b.given,b.log,b.results,b.jobs,b.seats,b.owed++ [⟨m.frm,m.lease,m.task⟩]⟩:=if_pos h
theorem ix{b:Boss}{m:Message}(h:¬Owes b m):De b m = b:=if_neg h
theorem Wv{rs:List ByteArray}{k:Int}{v:ByteArray}(h:k.toNat < rs.length):atS (rs.set k.toNat v) k = v:=by
 unfold atS;rw[List.getElem?_set_self h];rfl
theorem Oe{b:Boss}{ts:List Task}{m:Message}(h:CanPut b ts m)(hk:m.task.toNat < b.results.length)(ht:¬m.text = emp):fE b ts m = De (nQ b m) m:=by
 have e1:uZ b ts m = nQ b m:=if_pos h
 have e2:FU (nQ b m) m = nQ b m:=if_neg (by rw[show(nQ b m).results = b.results.set m.task.toNat m.text from rfl,Wv hk];exact ht)
 rw[fE,e1,e2]
theorem Og{b:Boss}{ts:List Task}{m:Message}(h:¬CanPut b ts m)(hy:atS b.results m.task = emp)(ht:¬m.text = emp):fE b ts m = n4 b m:=by
 have e1:uZ b ts m = b:=if_neg h
 have e2:FU b m = n4 b m:=if_pos hy
 have e3:(n4 b m).results = b.results:=by unfold n4;split <;> rfl
 rw[fE,e1,e2,ix]
 intro q
 have:=q.same
 rw[e3,hy]at this
 exact ht this.symm
theorem KG{b:Boss}{ts:List Task}{m:Message}(hy:¬atS b.results m.task = emp):fE b ts m = De b m:=by
 have e1:uZ b ts m = b:=if_neg fun q=>hy q.res
 have e2:FU b m = b:=if_neg hy
 rw[fE,e1,e2]
theorem KN{b:Boss}{ts:List Task}{m:Message}(hk:m.task.toNat < b.results.length)(h1:b.owed.length < 2000)(h2:∀ o∈b.owed,¬(o.worker = m.frm∧o.lease = m.lease)):Owes (nQ b m) m:=⟨Wv hk,h1,h2⟩
theorem uC{xs:List Owed}{m:Message}{n:Nat}{o:Owed}(h:xs[n]? = some o)(ho:o.worker = m.frm∧o.lease = m.lease):¬∀ o∈xs,¬(o.worker = m.frm∧o.lease = m.lease):=fun q=>q o (List.mem_of_getElem? h) ho
theorem uK{b:Boss}{m:Message}(h:tM b m):n4 b m = b:=if_pos h
theorem ny{b:Boss}{m:Message}(h:¬tM b m):n4 b m = ⟨b.workers,b.up,b.now,b.since,b.epoch,b.given,b.log,b.results,b.jobs,b.seats.set (gN m) ⟨true,m.epoch⟩,b.owed⟩:=if_neg h
theorem Lf{b:Boss}{m:Message}(h:tM b m):zq b m = b:=if_pos h
theorem Lg{b:Boss}{m:Message}(h:¬tM b m):zq b m = ⟨b.workers,b.up,b.now,b.since,b.epoch,b.given,b.log,b.results,b.jobs.map (n0 m.frm),b.seats.set (gN m) ⟨true,m.epoch⟩,b.owed⟩:=if_neg h
theorem IB{b:Boss}{m:Message}{x:Seat}(h:b.seats[gN m]? = some x):tM b m↔m.epoch < x.epoch:=by unfold tM;rw[np,h];exact Iff.rfl
structure ResIn (b:Boss) (ts:List Task) (m:Message):Prop where
 chk:am ts = 0
 res:b.results.length = ts.length
 jobs:b.jobs.length = ts.length
 task:0≤m.task∧m.task < ts.length
 safe:b.log.safe.length≤1048576
 loose:b.log.loose.length≤1048576
 owed:b.owed.length≤1048576
 seats:b.seats.length≤8
 frm:1≤m.frm∧m.frm≤b.seats.length
 text:(m.text.size:Int) = 8
theorem rW(b:Boss)(p:Plan)(m:Message)(h:ResIn b p.tasks m):F rH [.ptr (cellsOf (aF b)),.val (cX p),.val (fb m),.rel 0 (some (10,gN m,2)) 0] (.tup []) [cellsOf (aF (fE b p.tasks m)),[],[],[]]:=by
 obtain⟨hck,u3,u4,⟨t1,t2⟩,l1,l2,l3,l4,⟨f1,f2⟩,tx⟩:=h
 have hpl:=(bX hck).1
 have hsi:gN m < b.seats.length:=by unfold gN;omega
 have hkr:m.task.toNat < b.results.length:=by omega
 have hte:¬m.text = emp:=fun q=>by rw[q]at tx;cases tx
 obtain⟨x,hx⟩:=ae hsi
 have hold:=IB hx
 obtain⟨t,ht0⟩:=ae (xs:=p.tasks) (n:=m.task.toNat) OM
 obtain⟨y,hy0⟩:=ae (xs:=b.results) (n:=m.task.toNat) OM
 obtain⟨j,hj0⟩:=ae (xs:=b.jobs) (n:=m.task.toNat) OM
 have hya:=kZ hy0
 obtain⟨_,_,a3,a4⟩:=cz hck ht0
 have crd:=jX b.results t.deps (fun d hd=>by have:=a4 d hd;omega) OM
 have cf:=mK 2 b.epoch m.task m.text OM
 rw[OQ]at cf
 by_cases hA:y = emp
 ·by_cases hP:CanPut b p.tasks m
  ·have hF:dj b.results t.deps:=by have:=hP.ready;rw[eD ht0]at this;exact this
   have hR:=hP.room
   rw[decide_eq_true hF]at crd
   rw[Oe hP hkr hte]
   by_cases hO:b.owed.length < 2000
   ·refine bL ?_
    conv=>whnf
    refine g 0 0 []<|J QZ<|g 11 13 []<|J UC<|Ws<|gd 13 49 [[],[],[],[],[],[.n (Int.toNat m.task)],[.x (ah y)],[],[],[BT],[BT],[BT],[BT],[BT],[BT],[BT],[BT,.x (ay t)],[BT],[BT],[BT,.call VT O2],[BT],[],[BT],[BT],[BT],[BT],[BT],[BT],[BT],[BT],[BT],[BT],[BT],[BT],[BT,.i ((↑(List.length (List.map ah b.log.safe)):Int) + (↑(List.length (List.map ah b.log.loose)):Int))],[BT],[BT]] ?_
    conv=>whnf
    refine J QZ<|J KR<|Wc<|JD (fun h1=>?_) fun h1=>?_
    simp only[LM]at h1
    refine gd 49 58 [[],[],[],[],[],[],[],[.n (Int.toNat m.task)],[.x (ah y)]] ?_
    conv=>whnf
    refine J QZ<|J KR<|gd 58 78 [[],[],[],[],[],[],[],[],[],[],[],[],[],[],[.call (V.s (bW {kind:=2,epoch:=b.epoch,task:=m.task,text:=m.text:Entry})) O1],[],[],[],[],[],[]] ?_
    conv=>whnf
    refine J QZ<|J KR<|rg [.n (Int.toNat m.task),.x (aH j)]<|J QZ<|Ws<|gd 78 101 [[],[],[],[],[],[.n (Int.toNat m.task)],[.x (aM (ah y) 0 [T.v (Value.string m.text)])],[],[],[BF],[BF],[BF],[BF],[BF],[BF],[BF],[BF]] ?_
    conv=>whnf
    refine J QZ<|J KR<|Wc<|Jr<|Wk<|Ws<|gd 101 124 [[],[],[],[],[],[.n (Int.toNat m.task)],[.x (aM (ah y) 0 [T.v (Value.string m.text)])],[],[],[],[],[BF],[BF],[BF],[BF],[BF],[BF],[BF]] ?_
    conv=>whnf
    refine J QZ<|J KR<|Wc<|J (fun h2=>?_) fun h2=>?_
    replace h2:=dt h2
    simp only[LM]at h2
    omega
    replace h2:=df h2
    simp only[LM]at h2
    refine Wk<|Ws<|g 124 128 []<|J UF<|Wb ?_
    rotate_left
    simp only[LM]at h1
    omega
    refine Wl (fun s (n:Nat)=>⟨(SK s [0,1,2,5,6,8,128,129] [(130,.i n)]),[(162,(CK s 162 0 12 [])),(5,[s.c 5 0]),(6,(CK s 6 0 8 []))],[]⟩) (fun(n:Nat)=>n≤b.owed.length∧∀ o∈b.owed.take n,¬(o.worker = m.frm∧o.lease = m.lease)) (fun(n:Nat)=>b.owed.length - n) (0) [some 162,some 5,some 6] [] FZ (by simp) ?_
    rintro n ⟨hn,hc⟩
    by_cases hn2:n < b.owed.length
    ·obtain⟨o,ho⟩:=ae hn2
     by_cases hw:o.worker = m.frm
     ·by_cases hl:o.lease = m.lease
      ·rw[ix (b:=nQ b m) (fun q=>uC ho ⟨hw,hl⟩ q.new)]
       conv=>whnf
       refine g 0 0 []<|J UA<|Ws<|Wc<|J (fun _=>(Wk (Ws (Wb (g 131 134 [.n (n),.x (aJ o)]<|J QZ (g 134 145 (RL 6 BT [])<|J QZ (Wc<|Kt (W.ret (EndsW.rt<|J I<|J ?_ ?_))))))))) (noF SI)
       rfl
       all_goals (simp only[nQ,aF,cellsOf,List.map_set,List.map_append,List.map_cons,List.map_nil];rfl)
      ·conv=>whnf
       refine g 0 0 []<|J UA<|Ws<|Wc<|J (fun _=>(Wk (Ws (Wb (g 131 134 [.n (n),.x (aJ o)]<|J QZ (g 134 145 (RL 6 BT [])<|J QZ (Wc<|Jf<|(Wk (rg [.i ((n:Int) +1)]<|J QZ ?_))))))))) (noF SI)
       refine⟨n+1,[some 162,some 5,some 6],[],FZ,?_,?_⟩
       rotate_left
       (dsimp only;omega)
       dsimp only
       exact⟨by omega,eC hc ho fun q=>hl q.2⟩
     ·conv=>whnf
      refine g 0 0 []<|J UA<|Ws<|Wc<|J (fun _=>(Wk (Ws (Wb (g 131 134 [.n (n),.x (aJ o)]<|J QZ (g 134 145 (RL 6 BF [])<|J QZ (Wc<|Jr<|(Wk (rg [.i ((n:Int) +1)]<|J QZ ?_))))))))) (noF SI)
      refine⟨n+1,[some 162,some 5,some 6],[],FZ,?_,?_⟩
      rotate_left
      (dsimp only;omega)
      dsimp only
      exact⟨by omega,eC hc ho fun q=>hw q.1⟩
    ·rw[aI OM]at hc
     rw[ux (KN (ts:=p.tasks) hkr hO hc)]
     conv=>whnf
     refine g 0 0 []<|J UA<|Ws<|Wc<|J (noT SI) fun _=>We<|rgd [[],[],[],[],[],[],[],[],[],[],[],[],[],[],[],[]] ?_
     conv=>whnf
     refine J QZ<|J KR<|EndsW.nm<|J I<|J ?_ ?_
     rfl
     all_goals (simp only[nQ,aF,cellsOf,List.map_set,List.map_append,List.map_cons,List.map_nil];rfl)
   ·rw[ix (b:=nQ b m) (fun q=>hO q.room)]
    refine bL ?_
    conv=>whnf
    refine g 0 0 []<|J QZ<|g 11 13 []<|J UC<|Ws<|gd 13 49 [[],[],[],[],[],[.n (Int.toNat m.task)],[.x (ah y)],[],[],[BT],[BT],[BT],[BT],[BT],[BT],[BT],[BT,.x (ay t)],[BT],[BT],[BT,.call VT O2],[BT],[],[BT],[BT],[BT],[BT],[BT],[BT],[BT],[BT],[BT],[BT],[BT],[BT],[BT,.i ((↑(List.length (List.map ah b.log.safe)):Int) + (↑(List.length (List.map ah b.log.loose)):Int))],[BT],[BT]] ?_
    conv=>whnf
    refine J QZ<|J KR<|Wc<|J (fun h1=>?_) fun h1=>?_
    replace h1:=dt h1
    simp only[LM]at h1
    refine gd 49 58 [[],[],[],[],[],[],[],[.n (Int.toNat m.task)],[.x (ah y)]] ?_
    conv=>whnf
    refine J QZ<|J KR<|gd 58 78 [[],[],[],[],[],[],[],[],[],[],[],[],[],[],[.call (V.s (bW {kind:=2,epoch:=b.epoch,task:=m.task,text:=m.text:Entry})) O1],[],[],[],[],[],[]] ?_
    conv=>whnf
    refine J QZ<|J KR<|rg [.n (Int.toNat m.task),.x (aH j)]<|J QZ<|Ws<|gd 78 101 [[],[],[],[],[],[.n (Int.toNat m.task)],[.x (aM (ah y) 0 [T.v (Value.string m.text)])],[],[],[BF],[BF],[BF],[BF],[BF],[BF],[BF],[BF]] ?_
    conv=>whnf
    refine J QZ<|J KR<|Wc<|Jr<|Wk<|Ws<|gd 101 124 [[],[],[],[],[],[.n (Int.toNat m.task)],[.x (aM (ah y) 0 [T.v (Value.string m.text)])],[],[],[],[],[BF],[BF],[BF],[BF],[BF],[BF],[BF]] ?_
    conv=>whnf
    refine J QZ<|J KR<|Wc<|JD (fun h2=>?_) fun h2=>?_
    simp only[LM]at h2
    refine W.ret<|EndsW.rt<|J I<|J ?_ ?_
    rfl
    rotate_left
    simp only[LM]at h2
    omega
    replace h1:=df h1
    simp only[LM]at h1
    omega
    all_goals (simp only[nQ,aF,cellsOf,List.map_set,List.map_append,List.map_cons,List.map_nil];rfl)
  ·rw[Og hP (by rw[hya];exact hA) hte]
   by_cases hF:dj b.results t.deps
   ·rw[decide_eq_true hF]at crd
    have hR:¬b.log.safe.length+b.log.loose.length < 310:=fun q=>hP ⟨by rw[hya];exact hA,by rw[eD ht0];exact hF,q⟩
    by_cases ho:tM b m
    ·have ho2:=hold.1 ho
     rw[uK ho]
     refine bL ?_
     conv=>whnf
     refine g 0 0 []<|J QZ<|g 11 13 []<|J UC<|Ws<|gd 13 49 [[],[],[],[],[],[.n (Int.toNat m.task)],[.x (ah y)],[],[],[BT],[BT],[BT],[BT],[BT],[BT],[BT],[BT,.x (ay t)],[BT],[BT],[BT,.call VT O2],[BT],[],[BT],[BT],[BT],[BT],[BT],[BT],[BT],[BT],[BT],[BT],[BT],[BT],[BT,.i ((↑(List.length (List.map ah b.log.safe)):Int) + (↑(List.length (List.map ah b.log.loose)):Int))],[BT],[BT]] ?_
     conv=>whnf
     refine J QZ<|J KR<|Wc<|J (fun h1=>?_) fun h1=>?_
     replace h1:=dt h1
     simp only[LM]at h1
     omega
     replace h1:=df h1
     simp only[LM]at h1
     refine Wk<|Ws<|gd 49 101 [[],[],[],[],[],[.n (Int.toNat m.task)],[.x (ah y)],[],[],[BT],[BT],[BT],[BT],[BT],[BT,.x (aE x)],[BT],[BT]] ?_
     conv=>whnf
     refine J QZ<|J KR<|Wc<|Jf<|Wk<|Ws ?_
     by_cases h2:y = Message.text m
     refine gd 101 124 [[],[],[],[],[],[.n (Int.toNat m.task)],[.x (ah y)],[],[],[],[],[BF],[BF],[BF],[BF],[BF],[BF],[BF]] ?_
     conv=>whnf
     refine J QZ<|J KR<|Wc<|J (fun _=>(RT ?_)) (noF (by simp_all))
     rfl
     refine gd 101 124 [[],[],[],[],[],[.n (Int.toNat m.task)],[.x (ah y)],[],[],[],[],[BT],[BT],[BT],[BT],[BT],[BT],[BT]] ?_
     conv=>whnf
     refine J QZ<|J KR<|Wc<|Kr (RT ?_)
     rfl
    ·have ho2:¬m.epoch < x.epoch:=fun q=>ho (hold.2 q)
     rw[ny ho]
     refine bL ?_
     conv=>whnf
     refine g 0 0 []<|J QZ<|g 11 13 []<|J UC<|Ws<|gd 13 49 [[],[],[],[],[],[.n (Int.toNat m.task)],[.x (ah y)],[],[],[BT],[BT],[BT],[BT],[BT],[BT],[BT],[BT,.x (ay t)],[BT],[BT],[BT,.call VT O2],[BT],[],[BT],[BT],[BT],[BT],[BT],[BT],[BT],[BT],[BT],[BT],[BT],[BT],[BT,.i ((↑(List.length (List.map ah b.log.safe)):Int) + (↑(List.length (List.map ah b.log.loose)):Int))],[BT],[BT]] ?_
     conv=>whnf
     refine J QZ<|J KR<|Wc<|J (fun h1=>?_) fun h1=>?_
     replace h1:=dt h1
     simp only[LM]at h1
     omega
     replace h1:=df h1
     simp only[LM]at h1
     refine Wk<|Ws<|gd 49 101 [[],[],[],[],[],[.n (Int.toNat m.task)],[.x (ah y)],[],[],[BT],[BT],[BT],[BT],[BT],[BT,.x (aE x)],[BT],[BT]] ?_
     conv=>whnf
     refine J QZ<|J KR<|Wc<|Kt (rg [.x (aE x)]<|J QZ (Ws ?_))
     by_cases h2:y = Message.text m
     refine gd 101 124 [[],[],[],[],[],[.n (Int.toNat m.task)],[.x (ah y)],[],[],[],[],[BF],[BF],[BF],[BF],[BF],[BF],[BF]] ?_
     conv=>whnf
     refine J QZ<|J KR<|Wc<|J (fun _=>(W.ret (EndsW.rt<|J I<|J ?_ ?_))) (noF (by simp_all))
     rfl
     rotate_left
     refine gd 101 124 [[],[],[],[],[],[.n (Int.toNat m.task)],[.x (ah y)],[],[],[],[],[BT],[BT],[BT],[BT],[BT],[BT],[BT]] ?_
     conv=>whnf
     refine J QZ<|J KR<|Wc<|Kr (W.ret (EndsW.rt<|J I<|J ?_ ?_))
     rfl
     rotate_left
     all_goals (simp only[nQ,aF,cellsOf,List.map_set,List.map_append,List.map_cons,List.map_nil];rfl)
   ·rw[decide_eq_false hF]at crd
    by_cases ho:tM b m
    ·have ho2:=hold.1 ho
     rw[uK ho]
     refine bL ?_
     conv=>whnf
     refine g 0 0 []<|J QZ<|g 11 13 []<|J UC<|Ws<|gd 13 49 [[],[],[],[],[],[.n (Int.toNat m.task)],[.x (ah y)],[],[],[BT],[BT],[BT],[BT],[BT],[BT],[BT],[BT,.x (ay t)],[BT],[BT],[BT,.call VF O2],[BT],[],[BF],[BF],[BF],[BF],[BF],[BF],[BF],[BF],[BF],[BF],[BF],[BF],[BF],[BF],[BF]] ?_
     conv=>whnf
     refine J QZ<|J KR<|Wc<|Jr<|Wk<|Ws<|gd 49 101 [[],[],[],[],[],[.n (Int.toNat m.task)],[.x (ah y)],[],[],[BT],[BT],[BT],[BT],[BT],[BT,.x (aE x)],[BT],[BT]] ?_
     conv=>whnf
     refine J QZ<|J KR<|Wc<|Jf<|Wk<|Ws ?_
     by_cases h1:y = Message.text m
     refine gd 101 124 [[],[],[],[],[],[.n (Int.toNat m.task)],[.x (ah y)],[],[],[],[],[BF],[BF],[BF],[BF],[BF],[BF],[BF]] ?_
     conv=>whnf
     refine J QZ<|J KR<|Wc<|J (fun _=>(RT ?_)) (noF (by simp_all))
     rfl
     refine gd 101 124 [[],[],[],[],[],[.n (Int.toNat m.task)],[.x (ah y)],[],[],[],[],[BT],[BT],[BT],[BT],[BT],[BT],[BT]] ?_
     conv=>whnf
     refine J QZ<|J KR<|Wc<|Kr (RT ?_)
     rfl
    ·have ho2:¬m.epoch < x.epoch:=fun q=>ho (hold.2 q)
     rw[ny ho]
     refine bL ?_
     conv=>whnf
     refine g 0 0 []<|J QZ<|g 11 13 []<|J UC<|Ws<|gd 13 49 [[],[],[],[],[],[.n (Int.toNat m.task)],[.x (ah y)],[],[],[BT],[BT],[BT],[BT],[BT],[BT],[BT],[BT,.x (ay t)],[BT],[BT],[BT,.call VF O2],[BT],[],[BF],[BF],[BF],[BF],[BF],[BF],[BF],[BF],[BF],[BF],[BF],[BF],[BF],[BF],[BF]] ?_
     conv=>whnf
     refine J QZ<|J KR<|Wc<|Jr<|Wk<|Ws<|gd 49 101 [[],[],[],[],[],[.n (Int.toNat m.task)],[.x (ah y)],[],[],[BT],[BT],[BT],[BT],[BT],[BT,.x (aE x)],[BT],[BT]] ?_
     conv=>whnf
     refine J QZ<|J KR<|Wc<|Kt (rg [.x (aE x)]<|J QZ (Ws ?_))
     by_cases h1:y = Message.text m
     refine gd 101 124 [[],[],[],[],[],[.n (Int.toNat m.task)],[.x (ah y)],[],[],[],[],[BF],[BF],[BF],[BF],[BF],[BF],[BF]] ?_
     conv=>whnf
     refine J QZ<|J KR<|Wc<|J (fun _=>(W.ret (EndsW.rt<|J I<|J ?_ ?_))) (noF (by simp_all))
     rfl
     rotate_left
     refine gd 101 124 [[],[],[],[],[],[.n (Int.toNat m.task)],[.x (ah y)],[],[],[],[],[BT],[BT],[BT],[BT],[BT],[BT],[BT]] ?_
     conv=>whnf
     refine J QZ<|J KR<|Wc<|Kr (W.ret (EndsW.rt<|J I<|J ?_ ?_))
     rfl
     rotate_left
     all_goals (simp only[nQ,aF,cellsOf,List.map_set,List.map_append,List.map_cons,List.map_nil];rfl)
 ·rw[KG (by rw[hya];exact hA)]
  by_cases hs:y = m.text
  ·by_cases hO:b.owed.length < 2000
   ·refine bL ?_
    conv=>whnf
    refine g 0 0 []<|J QZ<|g 11 13 []<|J UC<|Ws<|gd 13 49 [[],[],[],[],[],[.n (Int.toNat m.task)],[.x (ah y)],[],[],[BF],[BF],[BF],[BF],[BF],[BF],[BF],[BF],[BF],[BF],[BF],[BF],[],[BF],[BF],[BF],[BF],[BF],[BF],[BF],[BF],[BF],[BF],[BF],[BF],[BF],[BF],[BF]] ?_
    conv=>whnf
    refine J QZ<|J KR<|Wc<|Jr<|Wk<|Ws<|gd 49 101 [[],[],[],[],[],[.n (Int.toNat m.task)],[.x (ah y)],[],[],[BF],[BF],[BF],[BF],[BF],[BF],[BF],[BF]] ?_
    conv=>whnf
    refine J QZ<|J KR<|Wc<|Jr<|Wk<|Ws<|gd 101 124 [[],[],[],[],[],[.n (Int.toNat m.task)],[.x (ah y)],[],[],[],[],[BF],[BF],[BF],[BF],[BF],[BF],[BF]] ?_
    conv=>whnf
    refine J QZ<|J KR<|Wc<|J (fun h1=>?_) fun h1=>?_
    replace h1:=dt h1
    simp only[LM]at h1
    omega
    replace h1:=df h1
    simp only[LM]at h1
    refine Wk<|Ws<|g 124 128 []<|J UF<|Wb<|Wl (fun s (n:Nat)=>⟨(SK s [0,1,2,5,6,8,128,129] [(130,.i n)]),[(162,(CK s 162 0 12 [])),(5,[s.c 5 0]),(6,(CK s 6 0 8 []))],[]⟩) (fun(n:Nat)=>n≤b.owed.length∧∀ o∈b.owed.take n,¬(o.worker = m.frm∧o.lease = m.lease)) (fun(n:Nat)=>b.owed.length - n) (0) [some 162,some 5,some 6] [] FZ (by simp) ?_
    rintro n ⟨hn,hc⟩
    by_cases hn2:n < b.owed.length
    ·obtain⟨o,ho⟩:=ae hn2
     by_cases hw:o.worker = m.frm
     ·by_cases hl:o.lease = m.lease
      ·rw[ix (fun q=>uC ho ⟨hw,hl⟩ q.new)]
       conv=>whnf
       refine g 0 0 []<|J UA<|Ws<|Wc<|J (fun _=>(Wk (Ws (Wb (g 131 134 [.n (n),.x (aJ o)]<|J QZ (g 134 145 (RL 6 BT [])<|J QZ (Wc<|Kt (RT ?_)))))))) (noF SI)
       rfl
       all_goals (simp only[nQ,aF,cellsOf,List.map_set,List.map_append,List.map_cons,List.map_nil];rfl)
      ·conv=>whnf
       refine g 0 0 []<|J UA<|Ws<|Wc<|J (fun _=>(Wk (Ws (Wb (g 131 134 [.n (n),.x (aJ o)]<|J QZ (g 134 145 (RL 6 BT [])<|J QZ (Wc<|Jf<|(Wk (rg [.i ((n:Int) +1)]<|J QZ ?_))))))))) (noF SI)
       refine⟨n+1,[some 162,some 5,some 6],[],FZ,?_,?_⟩
       rotate_left
       (dsimp only;omega)
       dsimp only
       exact⟨by omega,eC hc ho fun q=>hl q.2⟩
     ·conv=>whnf
      refine g 0 0 []<|J UA<|Ws<|Wc<|J (fun _=>(Wk (Ws (Wb (g 131 134 [.n (n),.x (aJ o)]<|J QZ (g 134 145 (RL 6 BF [])<|J QZ (Wc<|Jr<|(Wk (rg [.i ((n:Int) +1)]<|J QZ ?_))))))))) (noF SI)
      refine⟨n+1,[some 162,some 5,some 6],[],FZ,?_,?_⟩
      rotate_left
      (dsimp only;omega)
      dsimp only
      exact⟨by omega,eC hc ho fun q=>hw q.1⟩
    ·rw[aI OM]at hc
     rw[ux ⟨by rw[hya];exact hs,hO,hc⟩]
     conv=>whnf
     refine g 0 0 []<|J UA<|Ws<|Wc<|J (noT SI) fun _=>We<|rgd [[],[],[],[],[],[],[],[],[],[],[],[],[],[],[],[]] ?_
     conv=>whnf
     refine J QZ<|J KR<|EndsW.nm<|J I<|J ?_ ?_
     rfl
     all_goals (simp only[nQ,aF,cellsOf,List.map_set,List.map_append,List.map_cons,List.map_nil];rfl)
   ·rw[ix (fun q=>hO q.room)]
    refine bL ?_
    conv=>whnf
    refine g 0 0 []<|J QZ<|g 11 13 []<|J UC<|Ws<|gd 13 49 [[],[],[],[],[],[.n (Int.toNat m.task)],[.x (ah y)],[],[],[BF],[BF],[BF],[BF],[BF],[BF],[BF],[BF],[BF],[BF],[BF],[BF],[],[BF],[BF],[BF],[BF],[BF],[BF],[BF],[BF],[BF],[BF],[BF],[BF],[BF],[BF],[BF]] ?_
    conv=>whnf
    refine J QZ<|J KR<|Wc<|Jr<|Wk<|Ws<|gd 49 101 [[],[],[],[],[],[.n (Int.toNat m.task)],[.x (ah y)],[],[],[BF],[BF],[BF],[BF],[BF],[BF],[BF],[BF]] ?_
    conv=>whnf
    refine J QZ<|J KR<|Wc<|Jr<|Wk<|Ws<|gd 101 124 [[],[],[],[],[],[.n (Int.toNat m.task)],[.x (ah y)],[],[],[],[],[BF],[BF],[BF],[BF],[BF],[BF],[BF]] ?_
    conv=>whnf
    refine J QZ<|J KR<|Wc<|J (fun h1=>?_) fun h1=>?_
    replace h1:=dt h1
    simp only[LM]at h1
    refine RT ?_
    rfl
    replace h1:=df h1
    simp only[LM]at h1
    omega
  ·rw[ix (fun q=>hs (by rw[←q.same,hya]))]
   refine bL ?_
   conv=>whnf
   refine g 0 0 []<|J QZ<|g 11 13 []<|J UC<|Ws<|gd 13 49 [[],[],[],[],[],[.n (Int.toNat m.task)],[.x (ah y)],[],[],[BF],[BF],[BF],[BF],[BF],[BF],[BF],[BF],[BF],[BF],[BF],[BF],[],[BF],[BF],[BF],[BF],[BF],[BF],[BF],[BF],[BF],[BF],[BF],[BF],[BF],[BF],[BF]] ?_
   conv=>whnf
   refine J QZ<|J KR<|Wc<|Jr<|Wk<|Ws<|gd 49 101 [[],[],[],[],[],[.n (Int.toNat m.task)],[.x (ah y)],[],[],[BF],[BF],[BF],[BF],[BF],[BF],[BF],[BF]] ?_
   conv=>whnf
   refine J QZ<|J KR<|Wc<|Jr<|Wk<|Ws<|gd 101 124 [[],[],[],[],[],[.n (Int.toNat m.task)],[.x (ah y)],[],[],[],[],[BT],[BT],[BT],[BT],[BT],[BT],[BT]] ?_
   conv=>whnf
   refine J QZ<|J KR<|Wc<|Kr (RT ?_)
   rfl
end Go.K
end
section
open Go Go.Tm Go.Proofs
namespace Go.K
theorem Lj{w:Int}{js:List Job}{n:Nat}{j:Job}(h:js[n]? = some j)(hd:j.worker = w):((gK (n0 w) js n).map aH).set n (aH fA) = (gK (n0 w) js (n+1)).map aH:=by
 have:=m7 (f:=n0 w) (g:=aH) h
 rw[show n0 w j = fA from if_pos hd]at this
 exact this
theorem OO{w:Int}{js:List Job}{n:Nat}{j:Job}(h:js[n]? = some j)(hd:¬j.worker = w):gK (n0 w) js n = gK (n0 w) js (n+1):=pZ h (if_neg hd)
theorem LD{l u:Int}{js:List Job}{n:Nat}{j:Job}(h:js[n]? = some j)(hd:j.lease = l):((gK (oJ l u) js n).map aH).set n (aH ⟨j.lease,j.worker,u⟩) = (gK (oJ l u) js (n+1)).map aH:=by
 have:=m7 (f:=oJ l u) (g:=aH) h
 rw[show oJ l u j = ⟨j.lease,j.worker,u⟩from if_pos hd]at this
 exact this
theorem PT{l u:Int}{js:List Job}{n:Nat}{j:Job}(h:js[n]? = some j)(hd:¬j.lease = l):gK (oJ l u) js n = gK (oJ l u) js (n+1):=pZ h (if_neg hd)
theorem Uv{b:Boss}{p:Plan}{m:Message}(hv:BossOk b p)(h:BossLim b)(hf:ForB b m)(hk:m.kind = 3)(ht:m.task < p.tasks.length):ResIn b p.tasks m:=by
 obtain⟨u1,u2,u3,u4,u5,u6,⟨u7,u8⟩,⟨u9,u10⟩,u11,u12,u13,u14⟩:=hv.up hf.up
 obtain⟨_,⟨f1,_⟩,_⟩:=pC hf
 obtain⟨_,⟨t1,_⟩,tx⟩:=Ic hf hk
 have hw:=hv.workers
 have f2:=hf.frm
 exact⟨hv.plan,u3,u4,⟨t1,ht⟩,h.safe,h.loose,h.owed,by omega,⟨f1,by omega⟩,tx⟩
theorem wK(b:Boss)(p:Plan)(m:Message)(hv:BossOk b p)(h:BossLim b)(hm:m.inputs.length≤9223372036854775806):F vK [.ptr (cellsOf (aF b)),.val (cX p),.val (fb m)] (.tup []) [cellsOf (aF (iI b p.tasks m)),[],[]]:=by
 have cm:=cR m hm
 by_cases hf:ForB b m
 ·obtain⟨u1,u2,u3,u4,u5,u6,⟨u7,u8⟩,⟨u9,u10⟩,u11,u12,u13,u14⟩:=hv.up hf.up
  obtain⟨hkd,⟨f1,f2⟩,⟨e1,e2⟩⟩:=pC hf
  have hnow:=hv.now
  have hwk:=hv.workers
  have hpl:=(bX hv.plan).1
  obtain⟨g1,g2,g3,g4⟩:=hf
  have hf:ForB b m:=⟨g1,g2,g3,g4⟩
  rw[decide_eq_true g2]at cm
  have hsi:gN m < b.seats.length:=by unfold gN;omega
  obtain⟨x,hx⟩:=ae hsi
  have hx':b.seats[(m.frm - 1).toNat]? = some x:=hx
  have hold:=IB hx
  rcases hkd with hk|hk|hk
  ·rw[pQ hf hk]
   refine cG ?_
   conv=>whnf
   refine g 2 3 []<|J QZ<|Ws<|gd 9 32 [[],[],[],[],[],[],[BF],[BF,.call VT O1],[BF],[BF],[],[BF],[BF],[BF],[BF],[],[BF],[BF],[BF],[BF],[BF],[BF],[BF],[BF]] ?_
   conv=>whnf
   refine J QZ<|J KR<|Wc<|Jf<|Wk<|gd 32 41 [[],[],[],[],[],[],[.i (m.frm - 1)],[.n (Int.toNat (m.frm - 1))],[]] ?_
   conv=>whnf
   refine J QZ<|J KR<|g 41 42 []<|J UB<|Wb<|g 44 45 []<|J UB<|Wc<|Jf<|g 1 2 []<|J UB<|Wc<|Kt (g 6 90 []<|J UF (Wb (Wl (fun s (n:Nat)=>⟨(SK s [0,5,90] [(91,.i n)]),[(5,(CK s 5 0 8 [])),(131,[.t (.i b.workers),.t (.b b.up),.t (.i b.now),.t (.i b.since),.t (.i b.epoch),.t (.i b.given),.own [false] (b.log.safe.map ah),.own [false] (b.log.loose.map ah),.own [false] (b.results.map ah),.own dB ((gK (oJ m.lease (b.now+12)) b.jobs n).map aH),.own bw (b.seats.map aE),.own bx (b.owed.map aJ)])],[]⟩) (fun(n:Nat)=>n≤b.jobs.length) (fun(n:Nat)=>b.jobs.length - n) (0) [some 5,some 131] [] FZ OM ?_)))
   intro n hn
   have hl:=jD (oJ m.lease (b.now+12)) b.jobs n
   by_cases hj:n < b.jobs.length
   ·obtain⟨j,hj1⟩:=ae hj
    by_cases hd:j.lease = m.lease
    ·have e:=LD (u:=b.now+12) hj1 hd
     conv=>whnf
     refine g 0 0 []<|J UA<|Ws<|Wc<|J (fun _=>(Wk (Ws (Wb (g 92 94 []<|J UB (gd 94 104 [[],[],[],[],[],[.n (n)],[],[.x (aH j)],[],[],[]] ?_)))))) (noF (by simp_all))
     conv=>whnf
     refine⟨⟨I,I,I,I,I,Zao,I,bA AS,I,I,I,I⟩,by kernel_rfl,?_⟩
     refine Wc<|Kt (rgd [[],[],[],[],[],[],[],[],[],[.i (b.now+12)],[.n (n)],[],[.x (aH j)]] ?_)
     conv=>whnf
     refine⟨⟨I,I,I,I,I,I,I,I,I,wO,Zao,I,⟨UA,bA AS⟩,I⟩,by kernel_rfl,?_⟩
     refine rg [.i ((n:Int) +1)]<|J QZ ?_
     refine⟨n+1,[some 5,some 131],[],⟨rfl,FZ,⟨FZ,⟨(R10 ⟨(congrArg (V.own _) (e)),FZ⟩),I⟩⟩,I⟩,?_,?_⟩
     rotate_left
     (dsimp only;omega)
     dsimp only
     omega
    ·have e:=PT (u:=b.now+12) hj1 hd
     conv=>whnf
     refine g 0 0 []<|J UA<|Ws<|Wc<|J (fun _=>(Wk (Ws (Wb (g 92 94 []<|J UB (gd 94 104 [[],[],[],[],[],[.n (n)],[],[.x (aH j)],[],[],[]] ?_)))))) (noF (by simp_all))
     conv=>whnf
     refine⟨⟨I,I,I,I,I,Zao,I,bA AS,I,I,I,I⟩,by kernel_rfl,?_⟩
     refine Wc<|Jf<|Wk<|rg [.i ((n:Int) +1)]<|J QZ ?_
     refine⟨n+1,[some 5,some 131],[],⟨rfl,FZ,⟨FZ,⟨(R10 ⟨(congrArg (V.own _) (by rw[←e])),FZ⟩),I⟩⟩,I⟩,?_,?_⟩
     rotate_left
     (dsimp only;omega)
     dsimp only
     omega
   ·have e:=jE (oJ m.lease (b.now+12)) b.jobs (n:=n) OM
    conv=>whnf
    refine g 0 0 []<|J UA<|Ws<|Wc<|J (noT (by simp_all)) fun _=>We<|EndsW.nm<|J I<|J ?_ ?_
    rfl
    rw[e]
    rfl
  ·by_cases ht:m.task < p.tasks.length
   ·rw[uq hf hk ht]
    have cr:=rW b p m (Uv hv h hf hk ht)
    refine cG ?_
    conv=>whnf
    refine g 2 3 []<|J QZ<|Ws<|gd 9 32 [[],[],[],[],[],[],[BF],[BF,.call VT O1],[BF],[BF],[],[BF],[BF],[BF],[BF],[],[BF],[BF],[BF],[BF],[BF],[BF],[BF],[BF]] ?_
    conv=>whnf
    refine J QZ<|J KR<|Wc<|Jf<|Wk<|gd 32 41 [[],[],[],[],[],[],[.i (m.frm - 1)],[.n (Int.toNat (m.frm - 1))],[]] ?_
    conv=>whnf
    refine J QZ<|J KR<|g 41 42 []<|J UB<|Wb<|g 44 45 []<|J UB<|Wc<|Jf<|g 1 2 []<|J UB<|Wc<|Jf<|g 42 86 []<|J UB<|Wc<|Kt (g 118 125 []<|J UF (Wc<|J (fun _=>(rg [.call (V.tup []) ([cellsOf (aF (fE b p.tasks m)),[],[],[]])]<|J QZ ?_)) (noF SI)))
    refine EndsW.nm<|J I (J ?_ rfl)
    rfl
   ·rw[ur hf hk ht]
    refine cG ?_
    conv=>whnf
    refine g 2 3 []<|J QZ<|Ws<|gd 9 32 [[],[],[],[],[],[],[BF],[BF,.call VT O1],[BF],[BF],[],[BF],[BF],[BF],[BF],[],[BF],[BF],[BF],[BF],[BF],[BF],[BF],[BF]] ?_
    conv=>whnf
    refine J QZ<|J KR<|Wc<|Jf<|Wk<|gd 32 41 [[],[],[],[],[],[],[.i (m.frm - 1)],[.n (Int.toNat (m.frm - 1))],[]] ?_
    conv=>whnf
    refine J QZ<|J KR<|g 41 42 []<|J UB<|Wb<|g 44 45 []<|J UB<|Wc<|Jf<|g 1 2 []<|J UB<|Wc<|Jf<|g 42 86 []<|J UB<|Wc<|Kt (g 118 125 []<|J UF (Wc<|J (noT SI) fun _=>(Wk ?_)))
    refine EndsW.nm<|J I (J ?_ rfl)
    rfl
  ·rw[pP hf hk]
   by_cases ho:tM b m
   ·rw[Lf ho]
    have ho2:=hold.1 ho
    refine cG ?_
    conv=>whnf
    refine g 2 3 []<|J QZ<|Ws<|gd 9 32 [[],[],[],[],[],[],[BF],[BF,.call VT O1],[BF],[BF],[],[BF],[BF],[BF],[BF],[],[BF],[BF],[BF],[BF],[BF],[BF],[BF],[BF]] ?_
    conv=>whnf
    refine J QZ<|J KR<|Wc<|Jf<|Wk<|gd 32 41 [[],[],[],[],[],[],[.i (m.frm - 1)],[.n (Int.toNat (m.frm - 1))],[]] ?_
    conv=>whnf
    refine J QZ<|J KR<|g 41 42 []<|J UB<|Wb<|g 44 45 []<|J UB<|Wc<|Kt (gd 42 51 [[],[],[],[],[],[.x (aE x)],[]] ?_)
    conv=>whnf
    refine⟨⟨I,I,I,I,I,xA,I,I⟩,by kernel_rfl,?_⟩
    refine Wc<|Jf<|Wk<|EndsW.nm<|J I (J ?_ rfl)
    rfl
   ·rw[Lg ho]
    have ho2:¬m.epoch < x.epoch:=fun q=>ho (hold.2 q)
    have es:(b.seats.map aE).set (m.frm - 1).toNat (aE ⟨true,m.epoch⟩) = (b.seats.set (gN m) ⟨true,m.epoch⟩).map aE:=by rw[←List.map_set];rfl
    refine cG ?_
    conv=>whnf
    refine g 2 3 []<|J QZ<|Ws<|gd 9 32 [[],[],[],[],[],[],[BF],[BF,.call VT O1],[BF],[BF],[],[BF],[BF],[BF],[BF],[],[BF],[BF],[BF],[BF],[BF],[BF],[BF],[BF]] ?_
    conv=>whnf
    refine J QZ<|J KR<|Wc<|Jf<|Wk<|gd 32 41 [[],[],[],[],[],[],[.i (m.frm - 1)],[.n (Int.toNat (m.frm - 1))],[]] ?_
    conv=>whnf
    refine J QZ<|J KR<|g 41 42 []<|J UB<|Wb<|g 44 45 []<|J UB<|Wc<|Kt (gd 42 51 [[],[],[],[],[],[.x (aE x)],[]] ?_)
    conv=>whnf
    refine⟨⟨I,I,I,I,I,xA,I,I⟩,by kernel_rfl,?_⟩
    refine Wc<|Kt (g 6 57 [.x (aE x)]<|J QZ (g 57 61 []<|J UF (Wb (Wl (fun s (n:Nat)=>⟨(SK s [0,5,61] [(62,.i n)]),[(5,(CK s 5 0 8 [])),(131,[.t (.i b.workers),.t (.b b.up),.t (.i b.now),.t (.i b.since),.t (.i b.epoch),.t (.i b.given),.own [false] (b.log.safe.map ah),.own [false] (b.log.loose.map ah),.own [false] (b.results.map ah),.own dB ((gK (n0 m.frm) b.jobs n).map aH),.own bw ((b.seats.set (gN m) ⟨true,m.epoch⟩).map aE),.own bx (b.owed.map aJ)])],[]⟩) (fun(n:Nat)=>n≤b.jobs.length) (fun(n:Nat)=>b.jobs.length - n) (0) [some 5,some 131] [] ⟨rfl,FZ,⟨FZ,⟨(R11 ⟨(congrArg (V.own _) (es)),Zar⟩),I⟩⟩,I⟩ OM ?_))))
    intro n hn
    have hl:=jD (n0 m.frm) b.jobs n
    by_cases hj:n < b.jobs.length
    ·obtain⟨j,hj1⟩:=ae hj
     by_cases hd:j.worker = m.frm
     ·have e:=Lj hj1 hd
      conv=>whnf
      refine g 0 0 []<|J UA<|Ws<|Wc<|J (fun _=>(Wk (Ws (Wb (g 63 65 []<|J UB (gd 65 75 [[],[],[],[],[],[.n (n)],[],[.x (aH j)],[],[],[]] ?_)))))) (noF (by simp_all))
      conv=>whnf
      refine⟨⟨I,I,I,I,I,Zao,I,bA AS,I,I,I,I⟩,by kernel_rfl,?_⟩
      refine Wc<|Kt (rg [.n (n),.x (aH j)]<|J (QA @bA) (rg [.i ((n:Int) +1)]<|J QZ ?_))
      refine⟨n+1,[some 5,some 131],[],⟨rfl,FZ,⟨FZ,⟨(R10 ⟨(congrArg (V.own _) (e)),FZ⟩),I⟩⟩,I⟩,?_,?_⟩
      rotate_left
      (dsimp only;omega)
      dsimp only
      omega
     ·have e:=OO hj1 hd
      conv=>whnf
      refine g 0 0 []<|J UA<|Ws<|Wc<|J (fun _=>(Wk (Ws (Wb (g 63 65 []<|J UB (gd 65 75 [[],[],[],[],[],[.n (n)],[],[.x (aH j)],[],[],[]] ?_)))))) (noF (by simp_all))
      conv=>whnf
      refine⟨⟨I,I,I,I,I,Zao,I,bA AS,I,I,I,I⟩,by kernel_rfl,?_⟩
      refine Wc<|Jf<|Wk<|rg [.i ((n:Int) +1)]<|J QZ ?_
      refine⟨n+1,[some 5,some 131],[],⟨rfl,FZ,⟨FZ,⟨(R10 ⟨(congrArg (V.own _) (by rw[←e])),FZ⟩),I⟩⟩,I⟩,?_,?_⟩
      rotate_left
      (dsimp only;omega)
      dsimp only
      omega
    ·have e:=jE (n0 m.frm) b.jobs (n:=n) OM
     conv=>whnf
     refine g 0 0 []<|J UA<|Ws<|Wc<|J (noT (by simp_all)) fun _=>We<|EndsW.nm<|J I<|J ?_ ?_
     rfl
     rw[e]
     rfl
 ·rw[Iu hf]
  by_cases g1:b.up = true
  ·by_cases g2:bN m
   ·rw[decide_eq_true g2]at cm
    by_cases g3:m.to = 0
    ·have g4:¬m.frm≤b.workers:=fun q=>hf ⟨g1,g2,g3,q⟩
     refine cG ?_
     conv=>whnf
     refine g 2 3 []<|J QZ<|Ws<|gd 9 32 [[],[],[],[],[],[],[BF],[BF,.call VT O1],[BF],[BF],[],[BF],[BF],[BF],[BF],[],[BF],[BF],[BF],[BF],[BF],[BF],[BF],[BF]] ?_
     conv=>whnf
     refine J QZ<|J KR<|Wc<|Kt (RT ?_)
     rfl
    ·refine cG ?_
     conv=>whnf
     refine g 2 3 []<|J QZ<|Ws<|gd 9 32 [[],[],[],[],[],[],[BF],[BF,.call VT O1],[BF],[BF],[],[BF],[BF],[BF],[BF],[],[BT],[BT],[BT],[BT],[BT],[BT],[BT],[BT]] ?_
     conv=>whnf
     refine J QZ<|J KR<|Wc<|Kr (RT ?_)
     rfl
   ·rw[decide_eq_false g2]at cm
    refine cG ?_
    conv=>whnf
    refine g 2 3 []<|J QZ<|Ws<|gd 9 32 [[],[],[],[],[],[],[BF],[BF,.call VF O1],[BF],[BF],[],[BT],[BT],[BT],[BT],[],[BT],[BT],[BT],[BT],[BT],[BT],[BT],[BT]] ?_
    conv=>whnf
    refine J QZ<|J KR<|Wc<|Kr (RT ?_)
    rfl
  ·refine cG ?_
   conv=>whnf
   refine g 2 3 []<|J QZ<|Ws<|gd 9 32 [[],[],[],[],[],[],[BT],[BT],[BT],[BT],[],[BT],[BT],[BT],[BT],[],[BT],[BT],[BT],[BT],[BT],[BT],[BT],[BT]] ?_
   conv=>whnf
   refine J QZ<|J KR<|Wc<|Kr (RT ?_)
   rfl
end Go.K
end
section
open Go Go.Tm Go.Proofs
namespace Go.K
theorem nH(b:Boss)(m:Message){x:Seat}(hx:b.seats[gN m]? = some x)(f1:1≤m.frm∧m.frm≤8)(ho:tM b m):F qA [.val (aF b),.val (fb m)] (.tup [aF b,.b false]) O2:=by
 have hx':b.seats[(m.frm - 1).toNat]? = some x:=hx
 have ho2:=(IB hx).1 ho
 have hl:=(List.getElem?_eq_some_iff.1 hx').1
 refine qM ?_
 conv=>whnf
 refine g 0 0 []<|J QZ<|Ws<|gd 6 16 [[],[],[],[],[],[],[.i (m.frm - 1)],[.n (Int.toNat (m.frm - 1))],[],[.x (aE x)],[]] ?_
 conv=>whnf
 refine J QZ<|J KR<|Wc<|Kt (g 16 18 []<|J QZ (RT ?_))
 rfl
theorem nI(b:Boss)(m:Message){x:Seat}(hx:b.seats[gN m]? = some x)(f1:1≤m.frm∧m.frm≤8)(ho:¬tM b m):F qA [.val (aF b),.val (fb m)] (.tup [aF (n4 b m),.b true]) O2:=by
 have hx':b.seats[(m.frm - 1).toNat]? = some x:=hx
 have ho2:¬m.epoch < x.epoch:=fun q=>ho ((IB hx).2 q)
 have hl:=(List.getElem?_eq_some_iff.1 hx').1
 rw[ny ho]
 refine qM ?_
 conv=>whnf
 refine g 0 0 []<|J QZ<|Ws<|gd 6 16 [[],[],[],[],[],[],[.i (m.frm - 1)],[.n (Int.toNat (m.frm - 1))],[],[.x (aE x)],[]] ?_
 conv=>whnf
 refine J QZ<|J KR<|Wc<|Jf<|Wk<|g 16 27 [.i (m.frm - 1),.n (Int.toNat (m.frm - 1)),.x (aE x)]<|J QZ<|g 0 4 []<|J QZ<|RT ?_
 all_goals (simp only[aF,List.map_set];rfl)
theorem Bi(b:Boss)(p:Plan)(m:Message)(hl:p.tasks.length≤1048576)(ht:¬m.task < p.tasks.length):F nS [.val (aF b),.val (cX p),.val (fb m)] (aF b) O3:=by
 refine cx ?_
 conv=>whnf
 refine g 0 0 []<|J QZ<|Ws<|g 10 13 []<|J UF<|Wc<|J (fun _=>(g 13 15 []<|J QZ (RT ?_))) (noF (by simp_all))
 rfl
theorem zt(b:Boss)(p:Plan)(m:Message)(h:ResIn b p.tasks m)(f8:m.frm≤8):F nS [.val (aF b),.val (cX p),.val (fb m)] (aF (fE b p.tasks m)) O3:=by
 obtain⟨hck,u3,u4,⟨t1,t2⟩,l1,l2,l3,l4,⟨f1,f2⟩,tx⟩:=h
 have hpl:=(bX hck).1
 have hsi:gN m < b.seats.length:=by unfold gN;omega
 have hkr:m.task.toNat < b.results.length:=by omega
 have hte:¬m.text = emp:=fun q=>by rw[q]at tx;cases tx
 obtain⟨x,hx⟩:=ae hsi
 obtain⟨t,ht0⟩:=ae (xs:=p.tasks) (n:=m.task.toNat) OM
 obtain⟨y,hy0⟩:=ae (xs:=b.results) (n:=m.task.toNat) OM
 obtain⟨j,hj0⟩:=ae (xs:=b.jobs) (n:=m.task.toNat) OM
 have hya:=kZ hy0
 obtain⟨_,_,a3,a4⟩:=cz hck ht0
 have crd:=jc p b.results m.task t1 ht0 (fun e he=>by have:=a4 e he;omega) OM
 have cf:=dq 2 b.epoch m.task m.text OM
 by_cases hA:y = emp
 ·by_cases hP:CanPut b p.tasks m
  ·have hF:dj b.results t.deps:=by have:=hP.ready;rw[eD ht0]at this;exact this
   have hR:=hP.room
   rw[decide_eq_true hF]at crd
   rw[Oe hP hkr hte]
   by_cases hO:b.owed.length < 2000
   ·refine cx ?_
    conv=>whnf
    refine g 0 0 []<|J QZ<|Ws<|g 10 13 []<|J UF<|Wc<|J (noT SI) fun _=>Wk<|Ws<|g 13 41 (.n (Int.toNat m.task)::.x (ah y)::(RL 6 BT (.call VT O3::(RL 10 BT [.i ((↑(List.length (List.map ah b.log.safe)):Int) + (↑(List.length (List.map ah b.log.loose)):Int)),BT,BT]))))<|J QZ<|Wc<|JD (fun h1=>?_) fun h1=>?_
    simp only[LM]at h1
    refine g 44 49 [.n (Int.toNat m.task),.x (ah y)]<|J QZ<|gd 49 64 [[],[],[],[],[],[],[],[],[],[],[.call (V.s (bW {kind:=2,epoch:=b.epoch,task:=m.task,text:=m.text:Entry})) O1],[],[],[],[],[]] ?_
    conv=>whnf
    refine J QZ<|J KR<|rg [.n (Int.toNat m.task),.x (aH j)]<|J QZ<|Ws<|g 64 76 [.n (Int.toNat m.task),.x (aM (ah y) 0 [T.v (Value.string m.text)])]<|J QZ<|Wc<|Jf<|Wk<|Ws<|gd 76 97 [[],[],[],[],[.n (Int.toNat m.task)],[.x (aM (ah y) 0 [T.v (Value.string m.text)])],[],[],[],[],[BF],[BF],[BF],[BF],[BF]] ?_
    conv=>whnf
    refine J QZ<|J KR<|Wc<|J (fun h2=>?_) fun h2=>?_
    replace h2:=dt h2
    simp only[LM]at h2
    omega
    replace h2:=df h2
    simp only[LM]at h2
    refine Wk<|Ws<|g 41 43 []<|J UA<|Wb ?_
    rotate_left
    simp only[LM]at h1
    omega
    refine Wl (fun s (n:Nat)=>⟨(SK s [0,1,2,3,5,6] [(7,.i n),(9,s.s 9),(43,s.s 43)]),[(140,(CK s 140 0 12 [])),(3,(CK s 3 0 12 [])),(5,(CK s 5 0 8 [])),(6,(CK s 6 0 12 []))],[]⟩) (fun(n:Nat)=>n≤b.owed.length∧∀ o∈b.owed.take n,¬(o.worker = m.frm∧o.lease = m.lease)) (fun(n:Nat)=>b.owed.length - n) (0) [some 140,some 3,some 5,some 6] [] ⟨rfl,FZ,⟨(R7 Zac),FZ⟩,I⟩ (by simp) ?_
    rintro n ⟨hn,hc⟩
    by_cases hn2:n < b.owed.length
    ·obtain⟨o,ho⟩:=ae hn2
     by_cases hw:o.worker = m.frm
     ·by_cases hl:o.lease = m.lease
      ·rw[ix (b:=nQ b m) (fun q=>uC ho ⟨hw,hl⟩ q.new)]
       conv=>whnf
       refine Ws<|g 99 103 []<|J UE<|Wc<|J (fun _=>(Wk (Ws (Wb (gd 103 125 [[],[],[],[.n (n)],[],[.x (aJ o)],[],[],[],[],[BT],[BT],[BT],[BT,.n (n)],[BT],[BT,.x (aJ o)],[BT],[BT],[BT],[BT]] ?_))))) (noF SI)
       conv=>whnf
       refine⟨Zad,by kernel_rfl,?_⟩
       refine Wc<|Kt (g 125 127 []<|J QZ (RT ?_))
       all_goals (simp only[nQ,aF,cellsOf,List.map_set,List.map_append,List.map_cons,List.map_nil];rfl)
      ·conv=>whnf
       refine Ws<|g 99 103 []<|J UE<|Wc<|J (fun _=>(Wk (Ws (Wb (gd 103 125 [[],[],[],[.n (n)],[],[.x (aJ o)],[],[],[],[],[BT],[BT],[BT],[BT,.n (n)],[BT],[BT,.x (aJ o)],[BT],[BT],[BT],[BT]] ?_))))) (noF SI)
       conv=>whnf
       refine⟨Zad,by kernel_rfl,?_⟩
       refine Wc<|Jf<|Wk<|rg [.i ((n:Int) +1)]<|J QZ ?_
       refine⟨n+1,[some 140,some 3,some 5,some 6],[],⟨rfl,FZ,⟨(R7 Zac),FZ⟩,I⟩,?_,?_⟩
       rotate_left
       (dsimp only;omega)
       dsimp only
       exact⟨by omega,eC hc ho fun q=>hl q.2⟩
     ·conv=>whnf
      refine Ws<|g 99 103 []<|J UE<|Wc<|J (fun _=>(Wk (Ws (Wb (gd 103 125 [[],[],[],[.n (n)],[],[.x (aJ o)],[],[],[],[],[BF],[BF],[BF],[BF],[BF],[BF],[BF],[BF],[BF],[BF]] ?_))))) (noF SI)
      conv=>whnf
      refine⟨⟨I,I,I,Zao,I,xA,I,I,I,I,dO,dO,dO,dO,dO,dO,dO,dO,dO,dO,I⟩,by kernel_rfl,?_⟩
      refine Wc<|Jr<|Wk<|rg [.i ((n:Int) +1)]<|J QZ ?_
      refine⟨n+1,[some 140,some 3,some 5,some 6],[],⟨rfl,FZ,⟨(R7 Zac),FZ⟩,I⟩,?_,?_⟩
      rotate_left
      (dsimp only;omega)
      dsimp only
      exact⟨by omega,eC hc ho fun q=>hw q.1⟩
    ·rw[aI OM]at hc
     rw[ux (KN (ts:=p.tasks) hkr hO hc)]
     conv=>whnf
     refine Ws<|g 99 103 []<|J UE<|Wc<|J (noT SI) fun _=>We<|g 103 139 []<|J QZ<|g 0 6 []<|J QZ<|RT ?_
     all_goals (simp only[nQ,aF,cellsOf,List.map_set,List.map_append,List.map_cons,List.map_nil];rfl)
   ·rw[ix (b:=nQ b m) (fun q=>hO q.room)]
    refine cx ?_
    conv=>whnf
    refine g 0 0 []<|J QZ<|Ws<|g 10 13 []<|J UF<|Wc<|J (noT SI) fun _=>Wk<|Ws<|g 13 41 (.n (Int.toNat m.task)::.x (ah y)::(RL 6 BT (.call VT O3::(RL 10 BT [.i ((↑(List.length (List.map ah b.log.safe)):Int) + (↑(List.length (List.map ah b.log.loose)):Int)),BT,BT]))))<|J QZ<|Wc<|J (fun h1=>?_) fun h1=>?_
    replace h1:=dt h1
    simp only[LM]at h1
    refine g 44 49 [.n (Int.toNat m.task),.x (ah y)]<|J QZ<|gd 49 64 [[],[],[],[],[],[],[],[],[],[],[.call (V.s (bW {kind:=2,epoch:=b.epoch,task:=m.task,text:=m.text:Entry})) O1],[],[],[],[],[]] ?_
    conv=>whnf
    refine J QZ<|J KR<|rg [.n (Int.toNat m.task),.x (aH j)]<|J QZ<|Ws<|g 64 76 [.n (Int.toNat m.task),.x (aM (ah y) 0 [T.v (Value.string m.text)])]<|J QZ<|Wc<|Jf<|Wk<|Ws<|gd 76 97 [[],[],[],[],[.n (Int.toNat m.task)],[.x (aM (ah y) 0 [T.v (Value.string m.text)])],[],[],[],[],[BF],[BF],[BF],[BF],[BF]] ?_
    conv=>whnf
    refine J QZ<|J KR<|Wc<|JD (fun h2=>?_) fun h2=>?_
    simp only[LM]at h2
    refine g 41 43 []<|J QZ<|RT ?_
    rotate_left
    simp only[LM]at h2
    omega
    replace h1:=df h1
    simp only[LM]at h1
    omega
    all_goals (simp only[nQ,aF,cellsOf,List.map_set,List.map_append,List.map_cons,List.map_nil];rfl)
  ·rw[Og hP (by rw[hya];exact hA) hte]
   have hO:True:=trivial
   by_cases hF:dj b.results t.deps
   ·rw[decide_eq_true hF]at crd
    have hR:¬b.log.safe.length+b.log.loose.length < 310:=fun q=>hP ⟨by rw[hya];exact hA,by rw[eD ht0];exact hF,q⟩
    by_cases ho:tM b m
    ·have cfr:=nH b m hx ⟨f1,f8⟩ ho
     rw[uK ho]
     refine cx ?_
     conv=>whnf
     refine g 0 0 []<|J QZ<|Ws<|g 10 13 []<|J UF<|Wc<|J (noT SI) fun _=>Wk<|Ws<|g 13 41 (.n (Int.toNat m.task)::.x (ah y)::(RL 6 BT (.call VT O3::(RL 10 BT [.i ((↑(List.length (List.map ah b.log.safe)):Int) + (↑(List.length (List.map ah b.log.loose)):Int)),BT,BT]))))<|J QZ<|Wc<|J (fun h1=>?_) fun h1=>?_
     replace h1:=dt h1
     simp only[LM]at h1
     omega
     replace h1:=df h1
     simp only[LM]at h1
     refine Wk<|Ws<|g 41 76 [.n (Int.toNat m.task),.x (ah y)]<|J QZ<|Wc<|Kt (rg [.call (V.tup [aF b,V.b false]) O2]<|J QZ (Ws ?_))
     by_cases h2:y = Message.text m
     refine gd 76 97 [[],[],[],[],[.n (Int.toNat m.task)],[.x (ah y)],[],[],[],[],[BF],[BF],[BF],[BF],[BF]] ?_
     conv=>whnf
     refine J QZ<|J KR<|Wc<|J (fun _=>(g 97 99 []<|J QZ (RT ?_))) (noF (by simp_all))
     rfl
     refine gd 76 97 [[],[],[],[],[.n (Int.toNat m.task)],[.x (ah y)],[],[],[],[],[BT],[BT],[BT],[BT],[BT]] ?_
     conv=>whnf
     refine J QZ<|J KR<|Wc<|Kr (g 97 99 []<|J QZ (RT ?_))
     rfl
    ·have cfr:=nI b m hx ⟨f1,f8⟩ ho
     rw[ny ho]at cfr ⊢
     refine cx ?_
     conv=>whnf
     refine g 0 0 []<|J QZ<|Ws<|g 10 13 []<|J UF<|Wc<|J (noT SI) fun _=>Wk<|Ws<|g 13 41 (.n (Int.toNat m.task)::.x (ah y)::(RL 6 BT (.call VT O3::(RL 10 BT [.i ((↑(List.length (List.map ah b.log.safe)):Int) + (↑(List.length (List.map ah b.log.loose)):Int)),BT,BT]))))<|J QZ<|Wc<|J (fun h1=>?_) fun h1=>?_
     replace h1:=dt h1
     simp only[LM]at h1
     omega
     replace h1:=df h1
     simp only[LM]at h1
     refine Wk<|Ws<|g 41 76 [.n (Int.toNat m.task),.x (ah y)]<|J QZ<|Wc<|Kt (rg [.call (V.tup [aF {workers:=b.workers,up:=b.up,now:=b.now,since:=b.since,epoch:=b.epoch,given:=b.given,log:=b.log,results:=b.results,jobs:=b.jobs,seats:=List.set b.seats (gN m) {free:=true,epoch:=m.epoch:Seat},owed:=b.owed:Boss},V.b true]) O2]<|J QZ (Ws ?_))
     by_cases h2:y = Message.text m
     refine gd 76 97 [[],[],[],[],[.n (Int.toNat m.task)],[.x (ah y)],[],[],[],[],[BF],[BF],[BF],[BF],[BF]] ?_
     conv=>whnf
     refine J QZ<|J KR<|Wc<|J (fun _=>(g 97 99 []<|J QZ (RT ?_))) (noF (by simp_all))
     rfl
     refine gd 76 97 [[],[],[],[],[.n (Int.toNat m.task)],[.x (ah y)],[],[],[],[],[BT],[BT],[BT],[BT],[BT]] ?_
     conv=>whnf
     refine J QZ<|J KR<|Wc<|Kr (g 97 99 []<|J QZ (RT ?_))
     rfl
   ·rw[decide_eq_false hF]at crd
    by_cases ho:tM b m
    ·have cfr:=nH b m hx ⟨f1,f8⟩ ho
     rw[uK ho]
     refine cx ?_
     conv=>whnf
     refine g 0 0 []<|J QZ<|Ws<|g 10 13 []<|J UF<|Wc<|J (noT SI) fun _=>Wk<|Ws<|g 13 41 (.n (Int.toNat m.task)::.x (ah y)::(RL 6 BT (.call VF O3::BT::(RL 11 BF []))))<|J QZ<|Wc<|Jr<|Wk<|Ws<|g 41 76 [.n (Int.toNat m.task),.x (ah y)]<|J QZ<|Wc<|Kt ?_
     refine rg [.call (V.tup [aF b,V.b false]) O2]<|J QZ<|Ws ?_
     by_cases h1:y = Message.text m
     refine gd 76 97 [[],[],[],[],[.n (Int.toNat m.task)],[.x (ah y)],[],[],[],[],[BF],[BF],[BF],[BF],[BF]] ?_
     conv=>whnf
     refine J QZ<|J KR<|Wc<|J (fun _=>(g 97 99 []<|J QZ (RT ?_))) (noF (by simp_all))
     rfl
     refine gd 76 97 [[],[],[],[],[.n (Int.toNat m.task)],[.x (ah y)],[],[],[],[],[BT],[BT],[BT],[BT],[BT]] ?_
     conv=>whnf
     refine J QZ<|J KR<|Wc<|Kr (g 97 99 []<|J QZ (RT ?_))
     rfl
    ·have cfr:=nI b m hx ⟨f1,f8⟩ ho
     rw[ny ho]at cfr ⊢
     refine cx ?_
     conv=>whnf
     refine g 0 0 []<|J QZ<|Ws<|g 10 13 []<|J UF<|Wc<|J (noT SI) fun _=>Wk<|Ws<|g 13 41 (.n (Int.toNat m.task)::.x (ah y)::(RL 6 BT (.call VF O3::BT::(RL 11 BF []))))<|J QZ<|Wc<|Jr<|Wk<|Ws<|g 41 76 [.n (Int.toNat m.task),.x (ah y)]<|J QZ<|Wc<|Kt ?_
     refine rg [.call (V.tup [aF {workers:=b.workers,up:=b.up,now:=b.now,since:=b.since,epoch:=b.epoch,given:=b.given,log:=b.log,results:=b.results,jobs:=b.jobs,seats:=List.set b.seats (gN m) {free:=true,epoch:=m.epoch:Seat},owed:=b.owed:Boss},V.b true]) O2]<|J QZ<|Ws ?_
     by_cases h1:y = Message.text m
     refine gd 76 97 [[],[],[],[],[.n (Int.toNat m.task)],[.x (ah y)],[],[],[],[],[BF],[BF],[BF],[BF],[BF]] ?_
     conv=>whnf
     refine J QZ<|J KR<|Wc<|J (fun _=>(g 97 99 []<|J QZ (RT ?_))) (noF (by simp_all))
     rfl
     refine gd 76 97 [[],[],[],[],[.n (Int.toNat m.task)],[.x (ah y)],[],[],[],[],[BT],[BT],[BT],[BT],[BT]] ?_
     conv=>whnf
     refine J QZ<|J KR<|Wc<|Kr (g 97 99 []<|J QZ (RT ?_))
     rfl
 ·rw[KG (by rw[hya];exact hA)]
  by_cases hs:y = m.text
  ·by_cases hO:b.owed.length < 2000
   ·refine cx ?_
    conv=>whnf
    refine g 0 0 []<|J QZ<|Ws<|g 10 13 []<|J UF<|Wc<|J (noT SI) fun _=>Wk<|Ws<|g 13 41 (.n (Int.toNat m.task)::.x (ah y)::(RL 18 BF []))<|J QZ<|Wc<|Jr<|Wk<|Ws<|g 41 76 [.n (Int.toNat m.task),.x (ah y)]<|J QZ<|Wc<|Jf ?_
    refine Wk<|Ws<|gd 76 97 [[],[],[],[],[.n (Int.toNat m.task)],[.x (ah y)],[],[],[],[],[BF],[BF],[BF],[BF],[BF]] ?_
    conv=>whnf
    refine J QZ<|J KR<|Wc<|J (fun h1=>?_) fun h1=>?_
    replace h1:=dt h1
    simp only[LM]at h1
    omega
    replace h1:=df h1
    simp only[LM]at h1
    refine Wk<|Ws<|g 4 5 []<|J UA<|Wb<|Wl (fun s (n:Nat)=>⟨(SK s [0,1,2,3,5,6] [(7,.i n),(9,s.s 9)]),[(140,(CK s 140 0 12 [])),(3,(CK s 3 0 12 [])),(5,(CK s 5 0 8 [])),(6,(CK s 6 0 12 []))],[]⟩) (fun(n:Nat)=>n≤b.owed.length∧∀ o∈b.owed.take n,¬(o.worker = m.frm∧o.lease = m.lease)) (fun(n:Nat)=>b.owed.length - n) (0) [some 140,some 3,some 5,some 6] [] ⟨rfl,FZ,⟨(R7 Zac),FZ⟩,I⟩ (by simp) ?_
    rintro n ⟨hn,hc⟩
    by_cases hn2:n < b.owed.length
    ·obtain⟨o,ho⟩:=ae hn2
     by_cases hw:o.worker = m.frm
     ·by_cases hl:o.lease = m.lease
      ·rw[ix (fun q=>uC ho ⟨hw,hl⟩ q.new)]
       conv=>whnf
       refine Ws<|g 99 103 []<|J UE<|Wc<|J (fun _=>(Wk (Ws (Wb (gd 103 125 [[],[],[],[.n (n)],[],[.x (aJ o)],[],[],[],[],[BT],[BT],[BT],[BT,.n (n)],[BT],[BT,.x (aJ o)],[BT],[BT],[BT],[BT]] ?_))))) (noF SI)
       conv=>whnf
       refine⟨Zad,by kernel_rfl,?_⟩
       refine Wc<|Kt (g 125 127 []<|J QZ (RT ?_))
       rfl
       all_goals (simp only[nQ,aF,cellsOf,List.map_set,List.map_append,List.map_cons,List.map_nil];rfl)
      ·conv=>whnf
       refine Ws<|g 99 103 []<|J UE<|Wc<|J (fun _=>(Wk (Ws (Wb (gd 103 125 [[],[],[],[.n (n)],[],[.x (aJ o)],[],[],[],[],[BT],[BT],[BT],[BT,.n (n)],[BT],[BT,.x (aJ o)],[BT],[BT],[BT],[BT]] ?_))))) (noF SI)
       conv=>whnf
       refine⟨Zad,by kernel_rfl,?_⟩
       refine Wc<|Jf<|Wk<|rg [.i ((n:Int) +1)]<|J QZ ?_
       refine⟨n+1,[some 140,some 3,some 5,some 6],[],⟨rfl,FZ,⟨(R7 Zac),FZ⟩,I⟩,?_,?_⟩
       rotate_left
       (dsimp only;omega)
       dsimp only
       exact⟨by omega,eC hc ho fun q=>hl q.2⟩
     ·conv=>whnf
      refine Ws<|g 99 103 []<|J UE<|Wc<|J (fun _=>(Wk (Ws (Wb (gd 103 125 [[],[],[],[.n (n)],[],[.x (aJ o)],[],[],[],[],[BF],[BF],[BF],[BF],[BF],[BF],[BF],[BF],[BF],[BF]] ?_))))) (noF SI)
      conv=>whnf
      refine⟨⟨I,I,I,Zao,I,xA,I,I,I,I,dO,dO,dO,dO,dO,dO,dO,dO,dO,dO,I⟩,by kernel_rfl,?_⟩
      refine Wc<|Jr<|Wk<|rg [.i ((n:Int) +1)]<|J QZ ?_
      refine⟨n+1,[some 140,some 3,some 5,some 6],[],⟨rfl,FZ,⟨(R7 Zac),FZ⟩,I⟩,?_,?_⟩
      rotate_left
      (dsimp only;omega)
      dsimp only
      exact⟨by omega,eC hc ho fun q=>hw q.1⟩
    ·rw[aI OM]at hc
     rw[ux ⟨by rw[hya];exact hs,hO,hc⟩]
     conv=>whnf
     refine Ws<|g 99 103 []<|J UE<|Wc<|J (noT SI) fun _=>We<|g 7 139 []<|J QZ<|g 0 6 []<|J QZ<|RT ?_
     all_goals (simp only[nQ,aF,cellsOf,List.map_set,List.map_append,List.map_cons,List.map_nil];rfl)
   ·rw[ix (fun q=>hO q.room)]
    refine cx ?_
    conv=>whnf
    refine g 0 0 []<|J QZ<|Ws<|g 10 13 []<|J UF<|Wc<|J (noT SI) fun _=>Wk<|Ws<|g 13 41 (.n (Int.toNat m.task)::.x (ah y)::(RL 18 BF []))<|J QZ<|Wc<|Jr<|Wk<|Ws<|g 41 76 [.n (Int.toNat m.task),.x (ah y)]<|J QZ<|Wc<|Jf ?_
    refine Wk<|Ws<|gd 76 97 [[],[],[],[],[.n (Int.toNat m.task)],[.x (ah y)],[],[],[],[],[BF],[BF],[BF],[BF],[BF]] ?_
    conv=>whnf
    refine J QZ<|J KR<|Wc<|J (fun h1=>?_) fun h1=>?_
    replace h1:=dt h1
    simp only[LM]at h1
    refine g 97 99 []<|J QZ<|RT ?_
    rfl
    replace h1:=df h1
    simp only[LM]at h1
    omega
  ·rw[ix (fun q=>hs (by rw[←q.same,hya]))]
   refine cx ?_
   conv=>whnf
   refine g 0 0 []<|J QZ<|Ws<|g 10 13 []<|J UF<|Wc<|J (noT SI) fun _=>Wk<|Ws<|g 13 41 (.n (Int.toNat m.task)::.x (ah y)::(RL 18 BF []))<|J QZ<|Wc<|Jr<|Wk<|Ws<|g 41 76 [.n (Int.toNat m.task),.x (ah y)]<|J QZ<|Wc<|Jf ?_
   refine Wk<|Ws<|gd 76 97 [[],[],[],[],[.n (Int.toNat m.task)],[.x (ah y)],[],[],[],[],[BT],[BT],[BT],[BT],[BT]] ?_
   conv=>whnf
   refine J QZ<|J KR<|Wc<|Kr (g 97 99 []<|J QZ (RT ?_))
   rfl
end Go.K
end
section
open Go Go.Tm Go.Proofs
namespace Go.K
theorem zz(b:Boss)(p:Plan)(m:Message)(hp:dD p)(h:BossLim b)(hm:m.inputs.length≤9223372036854775806):F yB [.val (ge b),.val (cX p),.val (fb m)] (Oz (FA b p m)) O3:=by
 have cv:=pE b p hp h
 by_cases hv:BossOk b p
 ·rw[decide_eq_true hv]at cv
  rw[pH hv]
  have ct:=qS b h
  have cm:=pi m hm
  by_cases hf:ForB b m
  ·obtain⟨u1,u2,u3,u4,u5,u6,⟨u7,u8⟩,⟨u9,u10⟩,u11,u12,u13,u14⟩:=hv.up hf.up
   obtain⟨hkd,⟨f1,f2⟩,⟨e1,e2⟩⟩:=pC hf
   have hnow:=hv.now
   have hwk:=hv.workers
   have hpl:=(bX hv.plan).1
   obtain⟨g1,g2,g3,g4⟩:=hf
   have hf:ForB b m:=⟨g1,g2,g3,g4⟩
   rw[decide_eq_true g2]at cm
   have hsi:gN m < b.seats.length:=by unfold gN;omega
   obtain⟨x,hx⟩:=ae hsi
   rcases hkd with hk|hk|hk
   ·rw[pQ hf hk]
    refine cy ?_
    conv=>whnf
    refine g 2 3 []<|J QZ<|Ws<|g 12 13 [.call VT O2]<|J QZ<|Wc<|Jr<|Wk<|g 14 19 [.call (aF b) O1]<|J QZ<|Ws<|g 13 38 (BF::BF::.call VT O1::(RL 12 BF []))<|J QZ<|Wc<|Jf<|Wk<|Ws<|g 38 42 []<|J UB ?_
    refine Wb<|g 3 4 []<|J UB<|Wc<|Jf<|g 43 45 []<|J UB<|Wc<|Kt (g 42 78 []<|J UA (Wb (Wl (fun s (n:Nat)=>⟨(SK s [0,5,6,7] [(11,.i n)]),[(5,(CK s 5 0 8 [])),(6,(CK s 6 0 13 [])),(7,[.t (.i b.workers),.t (.b b.up),.t (.i b.now),.t (.i b.since),.t (.i b.epoch),.t (.i b.given),.own [false] (b.log.safe.map ah),.own [false] (b.log.loose.map ah),.own [false] (b.results.map ah),.own dB ((gK (oJ m.lease (b.now+12)) b.jobs n).map aH),.own bw (b.seats.map aE),.own bx (b.owed.map aJ)])],[]⟩) (fun(n:Nat)=>n≤b.jobs.length) (fun(n:Nat)=>b.jobs.length - n) (0) [some 5,some 6,some 7] [] FZ OM ?_)))
    intro n hn
    have hl:=jD (oJ m.lease (b.now+12)) b.jobs n
    by_cases hj:n < b.jobs.length
    ·obtain⟨j,hj1⟩:=ae hj
     by_cases hd:j.lease = m.lease
     ·have e:=LD (u:=b.now+12) hj1 hd
      conv=>whnf
      refine Ws<|g 78 82 []<|J UE<|Wc<|J (fun _=>(Wk (Ws (Wb (gd 82 93 [[],[],[],[.n (n)],[],[.x (aH j)],[],[],[]] ?_))))) (noF (by simp_all))
      conv=>whnf
      refine⟨⟨I,I,I,Zao,I,bA AS,I,I,I,I⟩,by kernel_rfl,?_⟩
      refine Wc<|Kt (rg [.i (b.now+12),.n (n),.x (aH j)]<|J (QA @bA) (rg [.i ((n:Int) +1)]<|J QZ ?_))
      refine⟨n+1,[some 5,some 6,some 7],[],⟨rfl,FZ,⟨FZ,⟨FZ,⟨(R10 ⟨(congrArg (V.own _) (e)),FZ⟩),I⟩⟩⟩,I⟩,?_,?_⟩
      rotate_left
      (dsimp only;omega)
      dsimp only
      omega
     ·have e:=PT (u:=b.now+12) hj1 hd
      conv=>whnf
      refine Ws<|g 78 82 []<|J UE<|Wc<|J (fun _=>(Wk (Ws (Wb (gd 82 93 [[],[],[],[.n (n)],[],[.x (aH j)],[],[],[]] ?_))))) (noF (by simp_all))
      conv=>whnf
      refine⟨⟨I,I,I,Zao,I,bA AS,I,I,I,I⟩,by kernel_rfl,?_⟩
      refine Wc<|Jf<|Wk<|rg [.i ((n:Int) +1)]<|J QZ ?_
      refine⟨n+1,[some 5,some 6,some 7],[],⟨rfl,FZ,⟨FZ,⟨FZ,⟨(R10 ⟨(congrArg (V.own _) (by rw[←e])),FZ⟩),I⟩⟩⟩,I⟩,?_,?_⟩
      rotate_left
      (dsimp only;omega)
      dsimp only
      omega
    ·have e:=jE (oJ m.lease (b.now+12)) b.jobs (n:=n) OM
     conv=>whnf
     refine Ws<|g 78 82 []<|J UE<|Wc<|J (noT (by simp_all)) fun _=>We<|g 7 110 []<|J QZ<|RT ?_
     rw[e]
     rfl
   ·by_cases ht:m.task < p.tasks.length
    ·rw[uq hf hk ht]
     have cr:=zt b p m (Uv hv h hf hk ht) f2
     refine cy ?_
     conv=>whnf
     refine g 2 3 []<|J QZ<|Ws<|g 12 13 [.call VT O2]<|J QZ<|Wc<|Jr<|Wk<|g 14 19 [.call (aF b) O1]<|J QZ<|Ws<|g 13 38 (BF::BF::.call VT O1::(RL 12 BF []))<|J QZ<|Wc<|Jf<|Wk<|Ws<|g 38 42 []<|J UB ?_
     refine Wb<|g 3 4 []<|J UB<|Wc<|Jf<|g 43 45 []<|J UB<|Wc<|Jf<|g 42 78 []<|J UB<|Wc<|Kt (rg [.call (aF (fE b p.tasks m)) O3]<|J QZ (g 7 110 []<|J QZ (RT ?_)))
     rfl
    ·rw[ur hf hk ht]
     have cr:=Bi b p m OM ht
     refine cy ?_
     conv=>whnf
     refine g 2 3 []<|J QZ<|Ws<|g 12 13 [.call VT O2]<|J QZ<|Wc<|Jr<|Wk<|g 14 19 [.call (aF b) O1]<|J QZ<|Ws<|g 13 38 (BF::BF::.call VT O1::(RL 12 BF []))<|J QZ<|Wc<|Jf<|Wk<|Ws<|g 38 42 []<|J UB ?_
     refine Wb<|g 3 4 []<|J UB<|Wc<|Jf<|g 43 45 []<|J UB<|Wc<|Jf<|g 42 78 []<|J UB<|Wc<|Kt (rg [.call (aF b) O3]<|J QZ (g 7 110 []<|J QZ (RT ?_)))
     rfl
   ·rw[pP hf hk]
    by_cases ho:tM b m
    ·rw[Lf ho]
     have cfr:=nH b m hx ⟨f1,f2⟩ ho
     refine cy ?_
     conv=>whnf
     refine g 2 3 []<|J QZ<|Ws<|g 12 13 [.call VT O2]<|J QZ<|Wc<|Jr<|Wk<|g 14 19 [.call (aF b) O1]<|J QZ<|Ws<|g 13 38 (BF::BF::.call VT O1::(RL 12 BF []))<|J QZ<|Wc<|Jf<|Wk<|Ws<|g 38 42 []<|J UB ?_
     refine Wb<|g 3 4 []<|J UB<|Wc<|Kt (g 42 46 [.call (V.tup [aF b,V.b false]) O2]<|J QZ (g 47 52 []<|J QZ (g 4 5 []<|J UA (Wb (Wl (fun s (n:Nat)=>⟨(SK s [0,1,5,6,7,9] [(10,.i n),(46,s.s 46)]),[(5,(CK s 5 0 8 [])),(6,(CK s 6 0 13 [])),(7,(CK s 7 0 12 []))],[]⟩) (fun(n:Nat)=>n = 0) (fun(n:Nat)=>0) (0) [some 5,some 6,some 7] [] FZ OM ?_)))))
     intro n hn
     conv=>whnf
     refine Ws<|g 52 59 (RL 6 BF [])<|J QZ<|Wc<|Jr<|We<|g 0 6 []<|J QZ<|RT ?_
     rfl
    ·rw[Lg ho]
     have cfr:=nI b m hx ⟨f1,f2⟩ ho
     rw[ny ho]at cfr
     refine cy ?_
     conv=>whnf
     refine g 2 3 []<|J QZ<|Ws<|g 12 13 [.call VT O2]<|J QZ<|Wc<|Jr<|Wk<|g 14 19 [.call (aF b) O1]<|J QZ<|Ws<|g 13 38 (BF::BF::.call VT O1::(RL 12 BF []))<|J QZ<|Wc<|Jf<|Wk<|Ws<|g 38 42 []<|J UB ?_
     refine Wb<|g 3 4 []<|J UB<|Wc<|Kt (g 42 46 [.call (V.tup [aF {workers:=b.workers,up:=b.up,now:=b.now,since:=b.since,epoch:=b.epoch,given:=b.given,log:=b.log,results:=b.results,jobs:=b.jobs,seats:=List.set b.seats (gN m) {free:=true,epoch:=m.epoch:Seat},owed:=b.owed:Boss},V.b true]) O2]<|J QZ (g 47 52 []<|J QZ (g 4 5 []<|J UA (Wb (Wl (fun s (n:Nat)=>⟨(SK s [0,1,5,6,7,9] [(10,.i n),(46,s.s 46)]),[(5,(CK s 5 0 8 [])),(6,(CK s 6 0 13 [])),(7,[.t (.i b.workers),.t (.b b.up),.t (.i b.now),.t (.i b.since),.t (.i b.epoch),.t (.i b.given),.own [false] (b.log.safe.map ah),.own [false] (b.log.loose.map ah),.own [false] (b.results.map ah),.own dB ((gK (n0 m.frm) b.jobs n).map aH),.own bw ((b.seats.set (gN m) ⟨true,m.epoch⟩).map aE),.own bx (b.owed.map aJ)])],[]⟩) (fun(n:Nat)=>n≤b.jobs.length) (fun(n:Nat)=>b.jobs.length - n) (0) [some 5,some 6,some 7] [] FZ OM ?_)))))
     intro n hn
     have hl:=jD (n0 m.frm) b.jobs n
     by_cases hj:n < b.jobs.length
     ·obtain⟨j,hj1⟩:=ae hj
      by_cases hd:j.worker = m.frm
      ·have e:=Lj hj1 hd
       conv=>whnf
       refine Ws<|g 52 59 (RL 6 BT [])<|J QZ<|Wc<|J (fun _=>(Wk (Ws (Wb (gd 59 70 [[],[],[],[.n (n)],[],[.x (aH j)],[],[],[]] ?_))))) (noF (by simp_all))
       conv=>whnf
       refine⟨⟨I,I,I,Zao,I,bA AS,I,I,I,I⟩,by kernel_rfl,?_⟩
       refine Wc<|Kt (rg [.n (n),.x (aH j)]<|J (QA @bA) (rg [.i ((n:Int) +1)]<|J QZ ?_))
       refine⟨n+1,[some 5,some 6,some 7],[],⟨rfl,FZ,⟨FZ,⟨FZ,⟨(R10 ⟨(congrArg (V.own _) (e)),FZ⟩),I⟩⟩⟩,I⟩,?_,?_⟩
       rotate_left
       (dsimp only;omega)
       dsimp only
       omega
      ·have e:=OO hj1 hd
       conv=>whnf
       refine Ws<|g 52 59 (RL 6 BT [])<|J QZ<|Wc<|J (fun _=>(Wk (Ws (Wb (gd 59 70 [[],[],[],[.n (n)],[],[.x (aH j)],[],[],[]] ?_))))) (noF (by simp_all))
       conv=>whnf
       refine⟨⟨I,I,I,Zao,I,bA AS,I,I,I,I⟩,by kernel_rfl,?_⟩
       refine Wc<|Jf<|Wk<|rg [.i ((n:Int) +1)]<|J QZ ?_
       refine⟨n+1,[some 5,some 6,some 7],[],⟨rfl,FZ,⟨FZ,⟨FZ,⟨(R10 ⟨(congrArg (V.own _) (by rw[←e])),FZ⟩),I⟩⟩⟩,I⟩,?_,?_⟩
       rotate_left
       (dsimp only;omega)
       dsimp only
       omega
     ·have e:=jE (n0 m.frm) b.jobs (n:=n) OM
      conv=>whnf
      refine Ws<|g 52 59 (RL 6 BT [])<|J QZ<|Wc<|J (noT (by simp_all)) fun _=>We<|g 0 6 []<|J QZ<|RT ?_
      (simp[*];done)
  ·rw[Iu hf]
   by_cases g1:b.up = true
   ·by_cases g2:bN m
    ·rw[decide_eq_true g2]at cm
     by_cases g3:m.to = 0
     ·have g4:¬m.frm≤b.workers:=fun q=>hf ⟨g1,g2,g3,q⟩
      refine cy ?_
      conv=>whnf
      refine g 2 3 []<|J QZ<|Ws<|g 12 13 [.call VT O2]<|J QZ<|Wc<|Jr<|Wk<|g 14 19 [.call (aF b) O1]<|J QZ<|Ws<|g 13 38 (BF::BF::.call VT O1::(RL 12 BF []))<|J QZ<|Wc<|Kt (g 38 41 []<|J QZ (RT ?_))
      rfl
     ·refine cy ?_
      conv=>whnf
      refine g 2 3 []<|J QZ<|Ws<|g 12 13 [.call VT O2]<|J QZ<|Wc<|Jr<|Wk<|g 14 19 [.call (aF b) O1]<|J QZ<|Ws<|g 13 38 (BF::BF::.call VT O1::(RL 6 BF (RL 6 BT [])))<|J QZ<|Wc<|Kr (g 38 41 []<|J QZ (RT ?_))
      rfl
    ·rw[decide_eq_false g2]at cm
     refine cy ?_
     conv=>whnf
     refine g 2 3 []<|J QZ<|Ws<|g 12 13 [.call VT O2]<|J QZ<|Wc<|Jr<|Wk<|g 14 19 [.call (aF b) O1]<|J QZ<|Ws<|g 13 38 (BF::BF::.call VF O1::BF::BF::(RL 10 BT []))<|J QZ<|Wc<|Kr (g 38 41 []<|J QZ (RT ?_))
     rfl
   ·refine cy ?_
    conv=>whnf
    refine g 2 3 []<|J QZ<|Ws<|g 12 13 [.call VT O2]<|J QZ<|Wc<|Jr<|Wk<|g 14 19 [.call (aF b) O1]<|J QZ<|Ws<|g 13 38 (RL 14 BT [])<|J QZ<|Wc<|Kr (g 38 41 []<|J QZ (RT ?_))
    rfl
 ·rw[decide_eq_false hv]at cv
  rw[TX hv]
  refine cy ?_
  conv=>whnf
  refine g 2 3 []<|J QZ<|Ws<|g 12 13 [.call VF O2]<|J QZ<|Wc<|Kr (g 14 17 []<|J QZ (RT ?_))
  rfl
end Go.K
end
section
open Go Go.Tm Go.Proofs
namespace Go.K
def dh(a b key:ByteArray):Bool:=decide (¬b = a) && (eO b key).isSome
theorem EP(k:Int)(a b key:ByteArray)(h:b.size≤68719476736):F Dx [.val (MI k a b),.val (.s key)] (.b (dh a b key)) O2:=by
 by_cases e:b = a
 ·have f:dh a b key = false:=by unfold dh;simp[e]
  rw[f]
  refine lQ ?_
  conv=>whnf
  refine g 0 1 []<|J QZ<|Ws<|g 7 11 []<|J UE<|Wc<|Kt (g 11 12 []<|J UA (RT ?_))
  rfl
 ·have c1:=ke b key h
  unfold dh
  cases hr:eO b key with
  |none =>
   rw[hr]at c1
   refine lQ ?_
   conv=>whnf
   refine g 0 1 []<|J QZ<|Ws<|g 7 11 []<|J UE<|Wc<|Jf<|Wk<|g 11 19 [.call (gJ none) O2]<|J QZ<|g 5 20 []<|J UB<|RT ?_
   (simp[*];done)
  |some m =>
   rw[hr]at c1
   refine lQ ?_
   conv=>whnf
   refine g 0 1 []<|J QZ<|Ws<|g 7 11 []<|J UE<|Wc<|Jf<|Wk<|g 11 19 [.call (gJ (some m)) O2]<|J QZ<|g 5 20 []<|J UB<|RT ?_
   (simp[*];done)
theorem da(w:World)(h:DoLim w):F Dm [.val (ea w)] (ar w) O1:=by
 obtain⟨l1,l2,l3,l4,l5,l6,l7,l8⟩:=h
 have c1:=lX w.plan l2
 have c2:=qS w.boss l3
 have c3:=dU w.flight OM
 refine D2 ?_
 conv=>whnf
 refine g 0 0 []<|J QZ<|gd 5 19 [[],[],[.call (eH w.plan) O1],[],[],[],[],[.call (aF w.boss) O1],[],[],[.call (V.own pkd (List.map aY w.flight)) O1],[],[],[],[],[]] ?_
 conv=>whnf
 refine J QZ<|J KR<|Ws<|g 0 0 []<|J UA<|Wb<|Wl (fun s (n:Nat)=>⟨(SK s [0,1,2,3] [(4,.i n)]),[(1,(CK s 1 0 17 [])),(2,(CK s 2 0 17 [])),(3,[.own cI (w.plan.tasks.map ay),.t (.s w.key),.t (.i w.boss.workers),.t (.b w.boss.up),.t (.i w.boss.now),.t (.i w.boss.since),.t (.i w.boss.epoch),.t (.i w.boss.given),.own [false] (w.boss.log.safe.map ah),.own [false] (w.boss.log.loose.map ah),.own [false] (w.boss.results.map ah),.own dB (w.boss.jobs.map aH),.own bw (w.boss.seats.map aE),.own bx (w.boss.owed.map aJ),.own bB ((w.workers.take n).map ag),.own pkd (w.flight.map aY),.t (.s w.forged)])],[]⟩) (fun(n:Nat)=>n≤w.workers.length) (fun(n:Nat)=>w.workers.length - n) (0) [some 1,some 2,some 3] [] FZ OM ?_
 intro n hn
 by_cases hn2:n < w.workers.length
 ·obtain⟨x,hx⟩:=ae hn2
  have hxi:=l5 x (List.mem_of_getElem? hx)
  have c4:=aG x OM
  conv=>whnf
  refine Ws<|g 19 23 []<|J UE<|Wc<|J (fun _=>(Wk (Ws (Wb (rgd [[],[],[],[],[],[.x (ag x)],[],[.call (aA x) O1],[],[],[],[]] ?_))))) (noF SI)
  conv=>whnf
  refine⟨⟨I,I,I,I,I,Zaq,I,⟨UA,I,⟨UK,I⟩,UA,AS⟩,⟨UK,I⟩,Zap,I,UA,I⟩,by kernel_rfl,?_⟩
  refine rg [.i ((n:Int) +1)]<|J QZ ?_
  refine⟨n+1,[some 1,some 2,some 3],[],⟨rfl,FZ,⟨FZ,⟨FZ,⟨(R15 ⟨(congrArg (V.own _) (pR AS)),FZ⟩),I⟩⟩⟩,I⟩,?_,?_⟩
  rotate_left
  (dsimp only;omega)
  dsimp only
  omega
 ·have e:w.workers.take n = w.workers:=aI OM
  conv=>whnf
  refine Ws<|g 19 23 []<|J UE<|Wc<|J (noT SI) fun _=>We<|g 3 38 []<|J QZ<|RT ?_
  (simp[*];done)
theorem jb(w:World)(h:DoLim w):F Dk [.val (ar w)] (ar (gy w)) O1:=by
 obtain⟨l1,l2,l3,l4,l5,l6,l7,l8⟩:=h
 by_cases h0:1000000≤w.boss.now
 ·rw[uo h0]
  refine qK ?_
  conv=>whnf
  refine g 0 1 []<|J QZ<|Ws<|g 7 10 []<|J UD<|Wc<|Kt (g 10 12 []<|J QZ (RT ?_))
  rfl
 ·rw[N6 h0]
  have c1:=zy w.boss w.plan l1 l3
  obtain⟨s1,s2,s3⟩:=yk w.plan l3
  have s4:=GC w.boss w.plan
  generalize qk w.boss w.plan = L at c1 s1 s2 s3 s4 ⊢
  refine qK ?_
  conv=>whnf
  refine g 0 1 []<|J QZ<|Ws<|g 7 10 []<|J UD<|Wc<|Jf<|Wk<|g 10 17 [.call (Oz L) O2]<|J QZ<|g 17 20 []<|J QZ<|g 20 22 [.g]<|J QZ<|Ws<|g 3 4 []<|J UA<|Wb<|Wl (fun s (n:Nat)=>⟨[(1,s.s 1),(2,s.s 2),(4,.ref ⟨4,none,0⟩),(5,.i n)],[(2,(CK s 2 0 17 [])),(4,[.own cU ((L.out++jv w.plan w.workers n).map aL)]),(1,[.own cI (w.plan.tasks.map ay),.t (.s w.key),.t (.i L.boss.workers),.t (.b L.boss.up),.t (.i L.boss.now),.t (.i L.boss.since),.t (.i L.boss.epoch),.t (.i L.boss.given),.own [false] (L.boss.log.safe.map ah),.own [false] (L.boss.log.loose.map ah),.own [false] (L.boss.results.map ah),.own dB (L.boss.jobs.map aH),.own bw (L.boss.seats.map aE),.own bx (L.boss.owed.map aJ),.own bB ((gK (fun x=>(gm x w.plan).worker) w.workers n).map ag),.own pkd (w.flight.map aY),.t (.s w.forged)])],[]⟩) (fun(n:Nat)=>n≤w.workers.length) (fun(n:Nat)=>w.workers.length - n) (0) [some 2,some 21,some 1] [] ⟨rfl,FZ,⟨FZ,⟨⟨rfl,⟨(congrArg (V.own _) (by rw[Ct,List.append_nil])),I⟩⟩,FZ⟩⟩,I⟩ OM ?_
  intro n hn
  have hl:=jD (fun x=>(gm x w.plan).worker) w.workers n
  have ha:=LG w.plan w.workers n
  by_cases hn2:n < w.workers.length
  ·obtain⟨x,hx⟩:=ae hn2
   have hxi:=l5 x (List.mem_of_getElem? hx)
   have c4:=tE x w.plan l1 OM
   have e1:=m7 (f:=fun x=>(gm x w.plan).worker) (g:=ag) hx
   have e2:(L.out++jv w.plan w.workers n).map aL++ (gm x w.plan).out.map aL = (L.out++jv w.plan w.workers (n+1)).map aL:=by rw[←Cu hx,←List.map_append,List.append_assoc]
   have hxo:=(pJ x w.plan).1
   generalize gm x w.plan = A at c4 e1 e2 hxo
   conv=>whnf
   refine Ws<|g 22 26 []<|J UE<|Wc<|J (fun _=>(Wk (Ws (Wb (gd 26 37 [[],[],[],[.n (n)],[.x (ag x)],[],[],[.x (ag x),.call (rm A) O2],[],[]] ?_))))) (noF SI)
   conv=>whnf
   refine⟨⟨I,I,I,Zao,bA AS,I,I,⟨UB,I,⟨⟨I,I,I,I,I,I,I,I,bA AS,I,I,I⟩,UA,I⟩,UA,AS⟩,I,UL,I⟩,by kernel_rfl,?_⟩
   refine g 37 43 [.n (n),.x (ag x)]<|J (QA @bA)<|rg []<|J QZ<|rg [.i ((n:Int) +1)]<|J QZ ?_
   refine⟨n+1,[some 2,some 46,some 1],[],⟨rfl,FZ,⟨FZ,⟨⟨rfl,⟨(congrArg (V.own _) (e2)),I⟩⟩,⟨(R15 ⟨(congrArg (V.own _) (e1)),FZ⟩),I⟩⟩⟩,I⟩,?_,?_⟩
   rotate_left
   (dsimp only;omega)
   dsimp only
   omega
  ·obtain rfl:n = w.workers.length:=by omega
   have e:=jE (fun x=>(gm x w.plan).worker) w.workers (Nat.le_refl _)
   have c5:=yg w.flight (L.out++jv w.plan w.workers w.workers.length) w.key OM (by rw[List.length_append];omega) (fun m hm=>by
    rcases List.mem_append.1 hm with hm|hm
    ·have:=s3 m hm;omega
    ·rw[LH hm];exact Nat.zero_le _)
   conv=>whnf
   refine Ws<|g 22 26 []<|J UE<|Wc<|J (noT SI) fun _=>We<|g 4 52 [.call (V.own pkd (List.map aY (sn w.flight (Led.out L++jv w.plan w.workers (List.length w.workers)) w.key))) O3]<|J QZ<|g 53 55 []<|J QZ<|RT ?_
   (simp[*];done)
   all_goals (rw[e];try rfl)
theorem dc(w:World)(k:Int)(h:DoLim w):F Aj [.val (ar w),.val (.i k)] (ar (cH w k)) O2:=by
 obtain⟨l1,l2,l3,l4,l5,l6,l7,l8⟩:=h
 have c1:=bS w.flight k OM
 by_cases ha:w.flight.length≤2000∧0≤k∧k < w.flight.length
 ·rw[decide_eq_true ha]at c1
  obtain⟨a1,a2,a3⟩:=ha
  obtain⟨s,hs⟩:=ae (xs:=w.flight) (n:=k.toNat) OM
  rw[GD ⟨a1,a2,a3⟩ hs]
  obtain⟨⟨p1,p2⟩,p3,p4⟩:=l7 s (List.mem_of_getElem? hs)
  have c2:=yh w.flight k OM
  have c3:=EP s.kind s.frm s.text w.key OM
  have c4:=ke s.text w.key OM
  cases hm:eO s.text w.key with
  |none =>
   have hg:dh s.frm s.text w.key = false:=by unfold dh;rw[hm];simp
   rw[hg]at c3
   rw[hm]at c4
   rw[GE (show eO s.text (dn w (cJ w.flight k)).key = none from hm)]
   refine cq ?_
   conv=>whnf
   refine g 0 1 []<|J QZ<|Ws<|g 8 12 [.call VT O2]<|J QZ<|Wc<|Jr<|Wk<|g 12 19 [.n (Int.toNat k),.x (bq s)]<|J QZ<|g 19 24 [.call (V.own pkd (List.map aY (cJ w.flight k))) O2]<|J QZ<|Ws<|g 24 32 [.call VF O2,BF,BF,BF,BF]<|J QZ<|Wc<|Jr<|Wk<|g 32 44 [.call (gJ none) O2]<|J QZ ?_
   refine Ws<|g 7 45 []<|J UB<|Wc<|Kr (g 45 47 []<|J QZ (RT ?_))
   rfl
  |some m =>
   rw[hm]at c4
   have hmi:=(dw (KK hm)).1
   have hm':eO s.text (dn w (cJ w.flight k)).key = some m:=hm
   have cases3:∀ g:ByteArray,B8 (dn w (cJ w.flight k)) s = g→((s.text = s.frm∧g = w.forged)∨(¬s.text = s.frm∧¬w.forged = emp∧g = w.forged)∨(¬s.text = s.frm∧w.forged = emp∧g = s.text)):=fun g e=>by
    by_cases q1:s.text = s.frm
    ·exact .inl ⟨q1,by rw[←e,Lh q1];rfl⟩
    ·by_cases q2:w.forged = emp
     ·exact .inr (.inr ⟨q1,q2,by rw[←e,OL q1 (show(dn w (cJ w.flight k)).forged = emp from q2)]⟩)
     ·exact .inr (.inl ⟨q1,q2,by rw[←e,Li (show ¬(dn w (cJ w.flight k)).forged = emp from q2)];rfl⟩)
   by_cases h0:s.kind = 0
   ·rw[yn hm' h0]
    have c5:=zz w.boss w.plan m l1 l3 OM
    show F _ _ (ar ⟨w.plan,w.key,(FA w.boss w.plan m).boss,w.workers,cJ w.flight k,_⟩) _
    generalize FA w.boss w.plan m = L at c5 ⊢
    generalize hgg:B8 (dn w (cJ w.flight k)) s = g
    rcases cases3 g hgg with⟨q1,rfl⟩|⟨q1,q2,rfl⟩|⟨q1,q2,rfl⟩
    ·have hg:dh s.frm s.text w.key = false:=by unfold dh;rw[hm];simp[q1]
     rw[hg]at c3
     refine cq ?_
     conv=>whnf
     refine g 0 1 []<|J QZ<|Ws<|g 8 12 [.call VT O2]<|J QZ<|Wc<|Jr<|Wk<|g 12 19 [.n (Int.toNat k),.x (bq s)]<|J QZ<|g 19 24 [.call (V.own pkd (List.map aY (cJ w.flight k))) O2]<|J QZ<|Ws<|g 24 32 [.call VF O2,BF,BF,BF,BF]<|J QZ<|Wc<|Jr<|Wk<|g 32 44 [.call (gJ (some m)) O2]<|J QZ ?_
     refine Ws<|g 7 45 []<|J UB<|Wc<|Jr<|Wk<|Ws<|g 45 49 []<|J UC<|Wc<|Kt (rg [.call (Oz L) O3]<|J QZ (g 53 83 []<|J QZ (RT ?_)))
     rfl
    ·have hg:dh s.frm s.text w.key = true:=by unfold dh;rw[hm];simp[q1]
     rw[hg]at c3
     refine cq ?_
     conv=>whnf
     refine g 0 1 []<|J QZ<|Ws<|g 8 12 [.call VT O2]<|J QZ<|Wc<|Jr<|Wk<|g 12 19 [.n (Int.toNat k),.x (bq s)]<|J QZ<|g 19 24 [.call (V.own pkd (List.map aY (cJ w.flight k))) O2]<|J QZ<|Ws<|g 24 32 [.call VT O2,BT,BT,BT,BT]<|J QZ<|Wc<|Jf<|Wk<|g 32 44 [.call (gJ (some m)) O2]<|J QZ ?_
     refine Ws<|g 7 45 []<|J UB<|Wc<|Jr<|Wk<|Ws<|g 45 49 []<|J UC<|Wc<|Kt (rg [.call (Oz L) O3]<|J QZ (g 53 83 []<|J QZ (RT ?_)))
     rfl
    ·have hg:dh s.frm s.text w.key = true:=by unfold dh;rw[hm];simp[q1]
     rw[hg]at c3
     refine cq ?_
     conv=>whnf
     refine g 0 1 []<|J QZ<|Ws<|g 8 12 [.call VT O2]<|J QZ<|Wc<|Jr<|Wk<|g 12 19 [.n (Int.toNat k),.x (bq s)]<|J QZ<|g 19 24 [.call (V.own pkd (List.map aY (cJ w.flight k))) O2]<|J QZ<|Ws<|g 24 32 [.call VT O2,BT,BT,BT,BT]<|J QZ<|Wc<|Kt (rg []<|J UW (g 32 44 [.call (gJ (some m)) O2]<|J QZ ?_))
     refine Ws<|g 7 45 []<|J UB<|Wc<|Jr<|Wk<|Ws<|g 45 49 []<|J UC<|Wc<|Kt (rg [.call (Oz L) O3]<|J QZ (g 53 83 []<|J QZ (RT ?_)))
     rfl
   ·by_cases h1:s.kind≤w.workers.length
    ·obtain⟨x,hx⟩:=ae (xs:=w.workers) (n:=(s.kind - 1).toNat) OM
     rw[ym hm' h0 ⟨by omega,h1⟩ hx]
     have hxi:=l5 x (List.mem_of_getElem? hx)
     have c5:=tF x w.plan m l1 OM OM
     show F _ _ (ar ⟨w.plan,w.key,w.boss,w.workers.set _ (yr x w.plan m).worker,cJ w.flight k,_⟩) _
     generalize yr x w.plan m = L at c5 ⊢
     have es:=gj (xs:=w.workers) (n:=(s.kind - 1).toNat) (x:=L.worker)
     generalize hgg:B8 (dn w (cJ w.flight k)) s = g
     rcases cases3 g hgg with⟨q1,rfl⟩|⟨q1,q2,rfl⟩|⟨q1,q2,rfl⟩
     ·have hg:dh s.frm s.text w.key = false:=by unfold dh;rw[hm];simp[q1]
      rw[hg]at c3
      refine cq ?_
      conv=>whnf
      refine g 0 1 []<|J QZ<|Ws<|g 8 12 [.call VT O2]<|J QZ<|Wc<|Jr<|Wk<|g 12 19 [.n (Int.toNat k),.x (bq s)]<|J QZ<|g 19 24 [.call (V.own pkd (List.map aY (cJ w.flight k))) O2]<|J QZ<|Ws<|g 24 32 [.call VF O2,BF,BF,BF,BF]<|J QZ<|Wc<|Jr<|Wk<|g 32 44 [.call (gJ (some m)) O2]<|J QZ ?_
      refine Ws<|g 7 45 []<|J UB<|Wc<|Jr<|Wk<|Ws<|g 45 49 []<|J UC<|Wc<|Jf<|g 49 63 []<|J UF<|Wc<|J (fun _=>(rgd [[],[],[],[],[.i (s.kind - 1)],[],[],[],[],[.i (s.kind - 1)],[.n (Int.toNat (s.kind - 1))],[.x (ag x)],[],[],[],[.x (ag x),.call (rm L) O3],[],[.n (Int.toNat (s.kind - 1))],[.x (ag x)]] ?_)) (noF SI)
      conv=>whnf
      refine⟨Zaf,by kernel_rfl,?_⟩
      refine g 5 83 []<|J QZ<|RT ?_
      exact ky w.plan w.key w.boss w.workers (s.kind - 1).toNat L.worker (cJ w.flight k) w.forged
     ·have hg:dh s.frm s.text w.key = true:=by unfold dh;rw[hm];simp[q1]
      rw[hg]at c3
      refine cq ?_
      conv=>whnf
      refine g 0 1 []<|J QZ<|Ws<|g 8 12 [.call VT O2]<|J QZ<|Wc<|Jr<|Wk<|g 12 19 [.n (Int.toNat k),.x (bq s)]<|J QZ<|g 19 24 [.call (V.own pkd (List.map aY (cJ w.flight k))) O2]<|J QZ<|Ws<|g 24 32 [.call VT O2,BT,BT,BT,BT]<|J QZ<|Wc<|Jf<|Wk<|g 32 44 [.call (gJ (some m)) O2]<|J QZ ?_
      refine Ws<|g 7 45 []<|J UB<|Wc<|Jr<|Wk<|Ws<|g 45 49 []<|J UC<|Wc<|Jf<|g 49 63 []<|J UF<|Wc<|J (fun _=>(rgd [[],[],[],[],[.i (s.kind - 1)],[],[],[],[],[.i (s.kind - 1)],[.n (Int.toNat (s.kind - 1))],[.x (ag x)],[],[],[],[.x (ag x),.call (rm L) O3],[],[.n (Int.toNat (s.kind - 1))],[.x (ag x)]] ?_)) (noF SI)
      conv=>whnf
      refine⟨Zaf,by kernel_rfl,?_⟩
      refine g 5 83 []<|J QZ<|RT ?_
      exact ky w.plan w.key w.boss w.workers (s.kind - 1).toNat L.worker (cJ w.flight k) w.forged
     ·have hg:dh s.frm s.text w.key = true:=by unfold dh;rw[hm];simp[q1]
      rw[hg]at c3
      refine cq ?_
      conv=>whnf
      refine g 0 1 []<|J QZ<|Ws<|g 8 12 [.call VT O2]<|J QZ<|Wc<|Jr<|Wk<|g 12 19 [.n (Int.toNat k),.x (bq s)]<|J QZ<|g 19 24 [.call (V.own pkd (List.map aY (cJ w.flight k))) O2]<|J QZ<|Ws<|g 24 32 [.call VT O2,BT,BT,BT,BT]<|J QZ<|Wc<|Kt (rg []<|J UW (g 32 44 [.call (gJ (some m)) O2]<|J QZ ?_))
      refine Ws<|g 7 45 []<|J UB<|Wc<|Jr<|Wk<|Ws<|g 45 49 []<|J UC<|Wc<|Jf<|g 49 63 []<|J UF<|Wc<|J (fun _=>(rgd [[],[],[],[],[.i (s.kind - 1)],[],[],[],[],[.i (s.kind - 1)],[.n (Int.toNat (s.kind - 1))],[.x (ag x)],[],[],[],[.x (ag x),.call (rm L) O3],[],[.n (Int.toNat (s.kind - 1))],[.x (ag x)]] ?_)) (noF SI)
      conv=>whnf
      refine⟨Zaf,by kernel_rfl,?_⟩
      refine g 5 83 []<|J QZ<|RT ?_
      exact ky w.plan w.key w.boss w.workers (s.kind - 1).toNat L.worker (cJ w.flight k) s.text
    ·rw[Cp hm' h0 (fun q=>h1 q.2)]
     show F _ _ (ar ⟨w.plan,w.key,w.boss,w.workers,cJ w.flight k,_⟩) _
     generalize hgg:B8 (dn w (cJ w.flight k)) s = g
     rcases cases3 g hgg with⟨q1,rfl⟩|⟨q1,q2,rfl⟩|⟨q1,q2,rfl⟩
     ·have hg:dh s.frm s.text w.key = false:=by unfold dh;rw[hm];simp[q1]
      rw[hg]at c3
      refine cq ?_
      conv=>whnf
      refine g 0 1 []<|J QZ<|Ws<|g 8 12 [.call VT O2]<|J QZ<|Wc<|Jr<|Wk<|g 12 19 [.n (Int.toNat k),.x (bq s)]<|J QZ<|g 19 24 [.call (V.own pkd (List.map aY (cJ w.flight k))) O2]<|J QZ<|Ws<|g 24 32 [.call VF O2,BF,BF,BF,BF]<|J QZ<|Wc<|Jr<|Wk<|g 32 44 [.call (gJ (some m)) O2]<|J QZ ?_
      refine Ws<|g 7 45 []<|J UB<|Wc<|Jr<|Wk<|Ws<|g 45 49 []<|J UC<|Wc<|Jf<|g 49 63 []<|J UF<|Wc<|J (noT SI) fun _=>Wk<|g 5 83 []<|J QZ<|RT ?_
      rfl
     ·have hg:dh s.frm s.text w.key = true:=by unfold dh;rw[hm];simp[q1]
      rw[hg]at c3
      refine cq ?_
      conv=>whnf
      refine g 0 1 []<|J QZ<|Ws<|g 8 12 [.call VT O2]<|J QZ<|Wc<|Jr<|Wk<|g 12 19 [.n (Int.toNat k),.x (bq s)]<|J QZ<|g 19 24 [.call (V.own pkd (List.map aY (cJ w.flight k))) O2]<|J QZ<|Ws<|g 24 32 [.call VT O2,BT,BT,BT,BT]<|J QZ<|Wc<|Jf<|Wk<|g 32 44 [.call (gJ (some m)) O2]<|J QZ ?_
      refine Ws<|g 7 45 []<|J UB<|Wc<|Jr<|Wk<|Ws<|g 45 49 []<|J UC<|Wc<|Jf<|g 49 63 []<|J UF<|Wc<|J (noT SI) fun _=>Wk<|g 5 83 []<|J QZ<|RT ?_
      rfl
     ·have hg:dh s.frm s.text w.key = true:=by unfold dh;rw[hm];simp[q1]
      rw[hg]at c3
      refine cq ?_
      conv=>whnf
      refine g 0 1 []<|J QZ<|Ws<|g 8 12 [.call VT O2]<|J QZ<|Wc<|Jr<|Wk<|g 12 19 [.n (Int.toNat k),.x (bq s)]<|J QZ<|g 19 24 [.call (V.own pkd (List.map aY (cJ w.flight k))) O2]<|J QZ<|Ws<|g 24 32 [.call VT O2,BT,BT,BT,BT]<|J QZ<|Wc<|Kt (rg []<|J UW (g 32 44 [.call (gJ (some m)) O2]<|J QZ ?_))
      refine Ws<|g 7 45 []<|J UB<|Wc<|Jr<|Wk<|Ws<|g 45 49 []<|J UC<|Wc<|Jf<|g 49 63 []<|J UF<|Wc<|J (noT SI) fun _=>Wk<|g 5 83 []<|J QZ<|RT ?_
      rfl
 ·rw[decide_eq_false ha]at c1
  rw[Lz ha]
  refine cq ?_
  conv=>whnf
  refine g 0 1 []<|J QZ<|Ws<|g 8 12 [.call VF O2]<|J QZ<|Wc<|Kr (g 12 14 []<|J QZ (RT ?_))
  rfl
end Go.K
end
section
open Go Go.Tm Go.Proofs
namespace Go.K
theorem ph(w:World)(e:Event)(h:DoLim w):F Jo [.val (ar w),.val (IV e)] (ar (doW w e)) O2:=by
 have ct:=jb w h
 have cb:=dc w e.a h
 obtain⟨l1,l2,l3,l4,l5,l6,l7,l8⟩:=h
 have c3:=ER w.flight e.a OM
 have c4:=yh w.flight e.a OM
 have c5:=J3 w.flight e.a e.b e.c OM (fun p hp=>by have:=(l7 p hp).bytes;omega)
 have c6:=zA w.boss w.plan e.b l1 l3
 have c7:=ju w.boss w.plan l1 l3
 by_cases h1:e.kind = 1
 ·rw[abm h1]
  refine dm ?_
  conv=>whnf
  refine g 0 2 []<|J QZ ?_
  by_cases h2:(1:Int)≤Event.a e
  refine g 6 17 (RL 7 BT [])<|J QZ<|Ws<|g 17 18 []<|J UB<|Wb<|g 20 21 []<|J UB<|Wc<|Kt (g 5 23 [.call (ar (gy w)) O1]<|J QZ (RT ?_))
  rfl
  refine g 6 17 (RL 7 BF [])<|J QZ<|Ws<|g 17 18 []<|J UB<|Wb<|g 20 21 []<|J UB<|Wc<|Kt (g 5 23 [.call (ar (gy w)) O1]<|J QZ (RT ?_))
  rfl
 by_cases h2:e.kind = 2
 ·rw[abl h2]
  refine dm ?_
  conv=>whnf
  refine g 0 2 []<|J QZ ?_
  by_cases h3:(1:Int)≤Event.a e
  refine g 6 17 (RL 7 BT [])<|J QZ<|Ws<|g 17 18 []<|J UB<|Wb<|g 20 21 []<|J UB<|Wc<|Jf<|g 19 20 []<|J UB<|Wc<|Kt (g 5 29 [.call (ar (cH w e.a)) O2]<|J QZ (RT ?_))
  rfl
  refine g 6 17 (RL 7 BF [])<|J QZ<|Ws<|g 17 18 []<|J UB<|Wb<|g 20 21 []<|J UB<|Wc<|Jf<|g 19 20 []<|J UB<|Wc<|Kt (g 5 29 [.call (ar (cH w e.a)) O2]<|J QZ (RT ?_))
  rfl
 by_cases h3:e.kind = 3
 ·rw[abk h3]
  refine dm ?_
  conv=>whnf
  refine g 0 2 []<|J QZ ?_
  by_cases h4:(1:Int)≤Event.a e
  refine g 6 17 (RL 7 BT [])<|J QZ<|Ws<|g 17 18 []<|J UB<|Wb<|g 20 21 []<|J UB<|Wc<|Jf<|g 19 20 []<|J UB<|Wc<|Jf<|g 23 25 []<|J UB<|Wc<|Kt (rg [.call (V.own pkd (List.map aY (sN w.flight e.a))) O2]<|J QZ (g 5 112 []<|J QZ ?_))
  refine RT ?_
  rfl
  refine g 6 17 (RL 7 BF [])<|J QZ<|Ws<|g 17 18 []<|J UB<|Wb<|g 20 21 []<|J UB<|Wc<|Jf<|g 19 20 []<|J UB<|Wc<|Jf<|g 23 25 []<|J UB<|Wc<|Kt (rg [.call (V.own pkd (List.map aY (sN w.flight e.a))) O2]<|J QZ (g 5 112 []<|J QZ ?_))
  refine RT ?_
  rfl
 by_cases h4:e.kind = 4
 ·rw[abj h4]
  refine dm ?_
  conv=>whnf
  refine g 0 2 []<|J QZ ?_
  by_cases h5:(1:Int)≤Event.a e
  refine g 6 17 (RL 7 BT [])<|J QZ<|Ws<|g 17 18 []<|J UB<|Wb<|g 20 21 []<|J UB<|Wc<|Jf<|g 19 20 []<|J UB<|Wc<|Jf<|g 23 25 []<|J UB<|Wc<|Jf<|g 29 31 []<|J UB<|Wc<|Kt ?_
  refine rg [.call (V.own pkd (List.map aY (cJ w.flight e.a))) O2]<|J QZ<|g 5 112 []<|J QZ<|RT ?_
  rfl
  refine g 6 17 (RL 7 BF [])<|J QZ<|Ws<|g 17 18 []<|J UB<|Wb<|g 20 21 []<|J UB<|Wc<|Jf<|g 19 20 []<|J UB<|Wc<|Jf<|g 23 25 []<|J UB<|Wc<|Jf<|g 29 31 []<|J UB<|Wc<|Kt ?_
  refine rg [.call (V.own pkd (List.map aY (cJ w.flight e.a))) O2]<|J QZ<|g 5 112 []<|J QZ<|RT ?_
  rfl
 by_cases h5:e.kind = 5
 ·rw[abi h5]
  refine dm ?_
  conv=>whnf
  refine g 0 2 []<|J QZ ?_
  by_cases h6:(1:Int)≤Event.a e
  refine g 6 17 (RL 7 BT [])<|J QZ<|Ws<|g 17 18 []<|J UB<|Wb<|g 20 21 []<|J UB<|Wc<|Jf<|g 19 20 []<|J UB<|Wc<|Jf<|g 23 25 []<|J UB<|Wc<|Jf<|g 29 31 []<|J UB<|Wc<|Jf ?_
  refine g 37 39 []<|J UB<|Wc<|Kt (rg [.call (V.own pkd (List.map aY (sS w.flight e.a e.b e.c))) O4]<|J QZ (g 5 52 []<|J QZ (RT ?_)))
  rfl
  refine g 6 17 (RL 7 BF [])<|J QZ<|Ws<|g 17 18 []<|J UB<|Wb<|g 20 21 []<|J UB<|Wc<|Jf<|g 19 20 []<|J UB<|Wc<|Jf<|g 23 25 []<|J UB<|Wc<|Jf<|g 29 31 []<|J UB<|Wc<|Jf ?_
  refine g 37 39 []<|J UB<|Wc<|Kt (rg [.call (V.own pkd (List.map aY (sS w.flight e.a e.b e.c))) O4]<|J QZ (g 5 52 []<|J QZ (RT ?_)))
  rfl
 by_cases h6:e.kind = 6
 ·by_cases ha:e.a = 0
  ·rw[Zn h6 ha]
   generalize sU w.boss w.plan e.b = B at c6 ⊢
   refine dm ?_
   conv=>whnf
   refine g 0 2 []<|J QZ<|g 6 17 (RL 7 BF [])<|J QZ<|Ws<|g 17 18 []<|J UB<|Wb<|g 20 21 []<|J UB<|Wc<|Jf<|g 19 20 []<|J UB<|Wc<|Jf<|g 23 25 []<|J UB<|Wc<|Jf<|g 29 31 []<|J UB ?_
   refine Wc<|Jf<|g 37 39 []<|J UB<|Wc<|Jf<|g 45 47 []<|J UB<|Wc<|Kt (g 18 61 []<|J UC (Wc<|Kt (rg [.call (aF B) O3]<|J QZ (g 5 112 []<|J QZ (RT ?_)))))
   rfl
  ·by_cases hx:1≤e.a∧e.a≤w.workers.length
   ·obtain⟨x1,x2⟩:=hx
    obtain⟨x,hx⟩:=ae (xs:=w.workers) (n:=(e.a - 1).toNat) OM
    rw[Zl h6 ⟨x1,x2⟩ hx]
    have hxi:=l5 x (List.mem_of_getElem? hx)
    have c8:=lj x OM
    generalize mM x = y at c8 ⊢
    have es:=gj (xs:=w.workers) (n:=(e.a - 1).toNat) (x:=y)
    refine dm ?_
    conv=>whnf
    refine g 0 2 []<|J QZ<|g 6 17 (RL 7 BT [])<|J QZ<|Ws<|g 17 18 []<|J UB<|Wb<|g 20 21 []<|J UB<|Wc<|Jf<|g 19 20 []<|J UB<|Wc<|Jf<|g 23 25 []<|J UB<|Wc<|Jf<|g 29 31 []<|J UB ?_
    refine Wc<|Jf<|g 37 39 []<|J UB<|Wc<|Jf<|g 45 47 []<|J UB<|Wc<|Kt (g 18 61 []<|J UC (Wc<|Jf<|(g 5 62 []<|J UA (Wc<|J (fun _=>(rgd [[],[],[],[],[.i (e.a - 1)],[],[],[],[],[.i (e.a - 1)],[.n (Int.toNat (e.a - 1))],[.x (ag x)],[.x (ag x),.call (aA y) O1],[.n (Int.toNat (e.a - 1))],[.x (ag x)]] ?_)) (noF SI)))))
    conv=>whnf
    refine⟨⟨I,I,I,I,wO,I,I,I,I,wO,Zas,xA,⟨UA,I,⟨Zal,I⟩,UA,AS⟩,Zas,⟨UK,xA⟩,I⟩,by kernel_rfl,?_⟩
    refine g 70 112 []<|J QZ<|RT ?_
    exact ky w.plan w.key w.boss w.workers (e.a - 1).toNat y w.flight w.forged
   ·rw[Zm h6 ha hx]
    refine dm ?_
    conv=>whnf
    refine g 0 2 []<|J QZ ?_
    by_cases h7:(1:Int)≤Event.a e
    refine g 6 17 (RL 7 BT [])<|J QZ<|Ws<|g 17 18 []<|J UB<|Wb<|g 20 21 []<|J UB<|Wc<|Jf<|g 19 20 []<|J UB<|Wc<|Jf<|g 23 25 []<|J UB<|Wc<|Jf<|g 29 31 []<|J UB<|Wc<|Jf ?_
    refine g 37 39 []<|J UB<|Wc<|Jf<|g 45 47 []<|J UB<|Wc<|Kt (g 18 61 []<|J UC (Wc<|Jf<|(g 5 62 []<|J UA (Wc<|J (noT (by simp_all)) fun _=>(Wk (g 2 4 []<|J QZ (RT ?_)))))))
    rfl
    refine g 6 17 (RL 7 BF [])<|J QZ<|Ws<|g 17 18 []<|J UB<|Wb<|g 20 21 []<|J UB<|Wc<|Jf<|g 19 20 []<|J UB<|Wc<|Jf<|g 23 25 []<|J UB<|Wc<|Jf<|g 29 31 []<|J UB<|Wc<|Jf ?_
    refine g 37 39 []<|J UB<|Wc<|Jf<|g 45 47 []<|J UB<|Wc<|Kt (g 18 61 []<|J UC (Wc<|Jf<|(g 5 62 []<|J UA (Wc<|Jr<|(Wk (g 2 4 []<|J QZ (RT ?_)))))))
    rfl
 by_cases h7:e.kind = 7
 ·by_cases ha:e.a = 0
  ·rw[Zk h7 ha]
   generalize jZ w.boss w.plan = B at c7 ⊢
   refine dm ?_
   conv=>whnf
   refine g 0 2 []<|J QZ<|g 6 17 (RL 7 BF [])<|J QZ<|Ws<|g 17 18 []<|J UB<|Wb<|g 20 21 []<|J UB<|Wc<|Jf<|g 19 20 []<|J UB<|Wc<|Jf<|g 23 25 []<|J UB<|Wc<|Jf<|g 29 31 []<|J UB ?_
   refine Wc<|Jf<|g 37 39 []<|J UB<|Wc<|Jf<|g 45 47 []<|J UB<|Wc<|Jf<|g 18 59 []<|J UB<|Wc<|Kt (g 85 89 []<|J UC (Wc<|Kt (rg [.call (aF B) O2]<|J QZ (g 5 112 []<|J QZ (RT ?_)))))
   rfl
  ·by_cases hx:1≤e.a∧e.a≤w.workers.length
   ·obtain⟨x1,x2⟩:=hx
    obtain⟨x,hx⟩:=ae (xs:=w.workers) (n:=(e.a - 1).toNat) OM
    rw[Zi h7 ⟨x1,x2⟩ hx]
    have hxi:=l5 x (List.mem_of_getElem? hx)
    have c8:=tG x OM
    generalize mL x = y at c8 ⊢
    have es:=gj (xs:=w.workers) (n:=(e.a - 1).toNat) (x:=y)
    refine dm ?_
    conv=>whnf
    refine g 0 2 []<|J QZ<|g 6 17 (RL 7 BT [])<|J QZ<|Ws<|g 17 18 []<|J UB<|Wb<|g 20 21 []<|J UB<|Wc<|Jf<|g 19 20 []<|J UB<|Wc<|Jf<|g 23 25 []<|J UB<|Wc<|Jf<|g 29 31 []<|J UB ?_
    refine Wc<|Jf<|g 37 39 []<|J UB<|Wc<|Jf<|g 45 47 []<|J UB<|Wc<|Jf<|g 18 59 []<|J UB<|Wc<|Kt (g 85 89 []<|J UC (Wc<|Jf<|(g 5 90 []<|J UA (Wc<|J (fun _=>(rgd [[],[],[],[],[.i (e.a - 1)],[],[],[],[],[.i (e.a - 1)],[.n (Int.toNat (e.a - 1))],[.x (ag x)],[.x (ag x),.call (aA y) O1],[.n (Int.toNat (e.a - 1))],[.x (ag x)]] ?_)) (noF SI)))))
    conv=>whnf
    refine⟨⟨I,I,I,I,wO,I,I,I,I,wO,Zas,xA,⟨UA,I,⟨Zal,I⟩,UA,AS⟩,Zas,⟨UK,xA⟩,I⟩,by kernel_rfl,?_⟩
    refine g 96 112 []<|J QZ<|RT ?_
    exact ky w.plan w.key w.boss w.workers (e.a - 1).toNat y w.flight w.forged
   ·rw[Zj h7 ha hx]
    refine dm ?_
    conv=>whnf
    refine g 0 2 []<|J QZ ?_
    by_cases h8:(1:Int)≤Event.a e
    refine g 6 17 (RL 7 BT [])<|J QZ<|Ws<|g 17 18 []<|J UB<|Wb<|g 20 21 []<|J UB<|Wc<|Jf<|g 19 20 []<|J UB<|Wc<|Jf<|g 23 25 []<|J UB<|Wc<|Jf<|g 29 31 []<|J UB<|Wc<|Jf ?_
    refine g 37 39 []<|J UB<|Wc<|Jf<|g 45 47 []<|J UB<|Wc<|Jf<|g 18 59 []<|J UB<|Wc<|Kt (g 85 89 []<|J UC (Wc<|Jf<|(g 5 90 []<|J UA (Wc<|J (noT (by simp_all)) fun _=>(Wk (g 2 4 []<|J QZ ?_))))))
    refine RT ?_
    rfl
    refine g 6 17 (RL 7 BF [])<|J QZ<|Ws<|g 17 18 []<|J UB<|Wb<|g 20 21 []<|J UB<|Wc<|Jf<|g 19 20 []<|J UB<|Wc<|Jf<|g 23 25 []<|J UB<|Wc<|Jf<|g 29 31 []<|J UB<|Wc<|Jf ?_
    refine g 37 39 []<|J UB<|Wc<|Jf<|g 45 47 []<|J UB<|Wc<|Jf<|g 18 59 []<|J UB<|Wc<|Kt (g 85 89 []<|J UC (Wc<|Jf<|(g 5 90 []<|J UA (Wc<|Jr<|(Wk (g 2 4 []<|J QZ ?_))))))
    refine RT ?_
    rfl
 ·have e0:doW w e = w:=by
   unfold doW
   rw[if_neg h1,if_neg h2,if_neg h3,if_neg h4,if_neg h5,if_neg h6,if_neg h7]
  rw[e0]
  refine dm ?_
  conv=>whnf
  refine g 0 2 []<|J QZ ?_
  by_cases h8:(1:Int)≤Event.a e
  refine g 6 17 (RL 7 BT [])<|J QZ<|Ws<|g 17 18 []<|J UB<|Wb<|g 20 21 []<|J UB<|Wc<|Jf<|g 19 20 []<|J UB<|Wc<|Jf<|g 23 25 []<|J UB<|Wc<|Jf<|g 29 31 []<|J UB<|Wc<|Jf ?_
  refine g 37 39 []<|J UB<|Wc<|Jf<|g 45 47 []<|J UB<|Wc<|Jf<|g 18 59 []<|J UB<|Wc<|Jf<|Wk<|g 5 112 []<|J QZ<|RT ?_
  rfl
  refine g 6 17 (RL 7 BF [])<|J QZ<|Ws<|g 17 18 []<|J UB<|Wb<|g 20 21 []<|J UB<|Wc<|Jf<|g 19 20 []<|J UB<|Wc<|Jf<|g 23 25 []<|J UB<|Wc<|Jf<|g 29 31 []<|J UB<|Wc<|Jf ?_
  refine g 37 39 []<|J UB<|Wc<|Jf<|g 45 47 []<|J UB<|Wc<|Jf<|g 18 59 []<|J UB<|Wc<|Jf<|Wk<|g 5 112 []<|J QZ<|RT ?_
  rfl
end Go.K
end
section
open Go Go.Tm Go.Proofs
namespace Go.K
structure WSmall (w:Worker):Prop where
 len:w.inputs.length≤64
 size:∀ s∈w.inputs,s.size≤64
 text:w.text.size≤64
 num:-100≤w.number∧w.number≤1000
 cost:-100≤w.cost∧w.cost≤1000
 lease:w.lease≤1000001
end Go.K
end
section
open Go Go.Tm Go.Proofs
namespace Go.K
structure WMid (w:Worker):Prop where
 len:w.inputs.length≤100
 size:∀ s∈w.inputs,s.size≤100
 text:w.text.size≤100
 lease:w.lease≤1000001
end Go.K
end
section
open Go Go.Tm Go.Proofs
namespace Go.K
theorem TH(l:List Int)(pos:Int)(hl:dM l)(h0:0≤pos)(h1:pos≤1000000):∃ res outs,(∃ (e:Event) (pos2:Int),res = ui e∧outs = [rdC l pos2]∧pos≤pos2∧pos2≤pos+8)∧F kp [.ptr (rdC l pos)] res outs:=by
 have p24:=ak l pos 24
 have p40:=ak l (pos+1) 40
 have p2:=ak l (pos+1+1) 2
 have p4:=ak l (pos+1+1+1) 4
 by_cases g2:ac l (pos+1+1) 2 = 0
 ·have r1:=ak l (pos+1+1+1+1) 40
  have r2:=ak l (pos+1+1+1+1+1) 300
  have r3:=ak l (pos+1+1+1+1) 4
  have r4:=ak l (pos+1+1+1+1+1) 4
  by_cases k0:ac l pos 24 < 9
  ·refine bi ?_
   conv=>whnf
   refine g 0 0 []<|J UA<|g 5 7 [.call (V.i (ac l pos 24)) ([rdC l (pos+1),[]])]<|J (QA @aa)<|g 7 9 [.call (V.i (ac l (pos+1) 40)) ([rdC l (pos+1+1),[]])]<|J (QA @aa)<|Ws<|g 9 11 [.call (V.i (ac l (pos+1+1) 2)) ([rdC l (pos+1+1+1),[]])]<|J (QA @aa)<|Wc<|Kt (rg [.call (V.i (ac l (pos+1+1+1) 4)) ([rdC l (pos+1+1+1+1),[]])]<|J (QA @aa) (Ws (g 11 15 []<|J UB (Wc<|Kt (g 15 17 []<|J QZ (W.ret ?_))))))
   refine EndsW.rt<|J UE ?_
   exact⟨⟨1,0,0,0⟩,_,rfl,rfl,by omega,by omega⟩
  by_cases k1:ac l pos 24 < 17
  ·refine bi ?_
   conv=>whnf
   refine g 0 0 []<|J UA<|g 5 7 [.call (V.i (ac l pos 24)) ([rdC l (pos+1),[]])]<|J (QA @aa)<|g 7 9 [.call (V.i (ac l (pos+1) 40)) ([rdC l (pos+1+1),[]])]<|J (QA @aa)<|Ws<|g 9 11 [.call (V.i (ac l (pos+1+1) 2)) ([rdC l (pos+1+1+1),[]])]<|J (QA @aa)<|Wc<|Kt (rg [.call (V.i (ac l (pos+1+1+1) 4)) ([rdC l (pos+1+1+1+1),[]])]<|J (QA @aa) (Ws (g 11 15 []<|J UB (Wc<|Jf<|(Wk (Ws ?_))))))
   refine g 15 18 []<|J UB<|Wc<|Kt (g 18 21 []<|J QZ (W.ret (EndsW.rt<|J UE ?_)))
   exact⟨⟨2,ac l (pos+1+1+1) 4,0,0⟩,_,rfl,rfl,by omega,by omega⟩
  by_cases k2:ac l pos 24 = 17
  ·refine bi ?_
   conv=>whnf
   refine g 0 0 []<|J UA<|g 5 7 [.call (V.i (ac l pos 24)) ([rdC l (pos+1),[]])]<|J (QA @aa)<|g 7 9 [.call (V.i (ac l (pos+1) 40)) ([rdC l (pos+1+1),[]])]<|J (QA @aa)<|Ws<|g 9 11 [.call (V.i (ac l (pos+1+1) 2)) ([rdC l (pos+1+1+1),[]])]<|J (QA @aa)<|Wc<|Kt (rg [.call (V.i (ac l (pos+1+1+1) 4)) ([rdC l (pos+1+1+1+1),[]])]<|J (QA @aa) (Ws (g 11 15 []<|J UB (Wc<|Jf<|(Wk (Ws ?_))))))
   refine g 15 18 []<|J UB<|Wc<|Jf<|Wk<|Ws<|g 18 22 []<|J UB<|Wc<|Kt (g 22 25 []<|J QZ (W.ret (EndsW.rt<|J UE ?_)))
   exact⟨⟨3,ac l (pos+1+1+1) 4,0,0⟩,_,rfl,rfl,by omega,by omega⟩
  by_cases k3:ac l pos 24 = 18
  ·refine bi ?_
   conv=>whnf
   refine g 0 0 []<|J UA<|g 5 7 [.call (V.i (ac l pos 24)) ([rdC l (pos+1),[]])]<|J (QA @aa)<|g 7 9 [.call (V.i (ac l (pos+1) 40)) ([rdC l (pos+1+1),[]])]<|J (QA @aa)<|Ws<|g 9 11 [.call (V.i (ac l (pos+1+1) 2)) ([rdC l (pos+1+1+1),[]])]<|J (QA @aa)<|Wc<|Kt (rg [.call (V.i (ac l (pos+1+1+1) 4)) ([rdC l (pos+1+1+1+1),[]])]<|J (QA @aa) (Ws (g 11 15 []<|J UB (Wc<|Jf<|(Wk (Ws ?_))))))
   refine g 15 18 []<|J UB<|Wc<|Jf<|Wk<|Ws<|g 18 22 []<|J UB<|Wc<|Jf<|Wk<|Ws<|g 22 26 []<|J UB<|Wc<|Kt (g 26 29 []<|J QZ (W.ret ?_))
   refine EndsW.rt<|J UE ?_
   exact⟨⟨4,ac l (pos+1+1+1) 4,0,0⟩,_,rfl,rfl,by omega,by omega⟩
  by_cases k4:ac l pos 24 = 19
  ·refine bi ?_
   conv=>whnf
   refine g 0 0 []<|J UA<|g 5 7 [.call (V.i (ac l pos 24)) ([rdC l (pos+1),[]])]<|J (QA @aa)<|g 7 9 [.call (V.i (ac l (pos+1) 40)) ([rdC l (pos+1+1),[]])]<|J (QA @aa)<|Ws<|g 9 11 [.call (V.i (ac l (pos+1+1) 2)) ([rdC l (pos+1+1+1),[]])]<|J (QA @aa)<|Wc<|Kt (rg [.call (V.i (ac l (pos+1+1+1) 4)) ([rdC l (pos+1+1+1+1),[]])]<|J (QA @aa) (Ws (g 11 15 []<|J UB (Wc<|Jf<|(Wk (Ws ?_))))))
   refine g 15 18 []<|J UB<|Wc<|Jf<|Wk<|Ws<|g 18 22 []<|J UB<|Wc<|Jf<|Wk<|Ws<|g 22 26 []<|J UB<|Wc<|Jf<|Wk<|Ws ?_
   refine g 26 30 []<|J UB<|Wc<|Kt (g 4 37 [.call (V.i (ac l (pos+1+1+1+1) 40)) ([rdC l (pos+1+1+1+1+1),[]]),.call (V.i (ac l (pos+1+1+1+1+1) 300)) ([rdC l (pos+1+1+1+1+1+1),[]])]<|J (QA @aa) (W.ret (EndsW.rt<|J UE ?_)))
   exact⟨⟨5,ac l (pos+1+1+1) 4,ac l (pos+1+1+1+1) 40,ac l (pos+1+1+1+1+1) 300⟩,_,rfl,rfl,by omega,by omega⟩
  by_cases k5:ac l pos 24 < 22
  ·refine bi ?_
   conv=>whnf
   refine g 0 0 []<|J UA<|g 5 7 [.call (V.i (ac l pos 24)) ([rdC l (pos+1),[]])]<|J (QA @aa)<|g 7 9 [.call (V.i (ac l (pos+1) 40)) ([rdC l (pos+1+1),[]])]<|J (QA @aa)<|Ws<|g 9 11 [.call (V.i (ac l (pos+1+1) 2)) ([rdC l (pos+1+1+1),[]])]<|J (QA @aa)<|Wc<|Kt (rg [.call (V.i (ac l (pos+1+1+1) 4)) ([rdC l (pos+1+1+1+1),[]])]<|J (QA @aa) (Ws (g 11 15 []<|J UB (Wc<|Jf<|(Wk (Ws ?_))))))
   refine g 15 18 []<|J UB<|Wc<|Jf<|Wk<|Ws<|g 18 22 []<|J UB<|Wc<|Jf<|Wk<|Ws<|g 22 26 []<|J UB<|Wc<|Jf<|Wk<|Ws ?_
   refine g 26 30 []<|J UB<|Wc<|Jf<|Wk<|Ws<|g 4 38 []<|J UB<|Wc<|Kt (g 38 44 [.call (V.i (ac l (pos+1+1+1+1) 4)) ([rdC l (pos+1+1+1+1+1),[]]),.call (V.i (ac l (pos+1+1+1+1+1) 4)) ([rdC l (pos+1+1+1+1+1+1),[]])]<|J (QA @aa) (W.ret (EndsW.rt<|J UE ?_)))
   exact⟨⟨6,ac l (pos+1+1+1+1) 4,ac l (pos+1+1+1+1+1) 4,0⟩,_,rfl,rfl,by omega,by omega⟩
  by_cases k6:ac l pos 24 = 22
  ·refine bi ?_
   conv=>whnf
   refine g 0 0 []<|J UA<|g 5 7 [.call (V.i (ac l pos 24)) ([rdC l (pos+1),[]])]<|J (QA @aa)<|g 7 9 [.call (V.i (ac l (pos+1) 40)) ([rdC l (pos+1+1),[]])]<|J (QA @aa)<|Ws<|g 9 11 [.call (V.i (ac l (pos+1+1) 2)) ([rdC l (pos+1+1+1),[]])]<|J (QA @aa)<|Wc<|Kt (rg [.call (V.i (ac l (pos+1+1+1) 4)) ([rdC l (pos+1+1+1+1),[]])]<|J (QA @aa) (Ws (g 11 15 []<|J UB (Wc<|Jf<|(Wk (Ws ?_))))))
   refine g 15 18 []<|J UB<|Wc<|Jf<|Wk<|Ws<|g 18 22 []<|J UB<|Wc<|Jf<|Wk<|Ws<|g 22 26 []<|J UB<|Wc<|Jf<|Wk<|Ws ?_
   refine g 26 30 []<|J UB<|Wc<|Jf<|Wk<|Ws<|g 4 38 []<|J UB<|Wc<|Jf<|Wk<|Ws<|g 3 45 []<|J UB<|Wc<|Kt (g 45 47 []<|J QZ (W.ret ?_))
   refine EndsW.rt<|J UE ?_
   exact⟨⟨7,0,0,0⟩,_,rfl,rfl,by omega,by omega⟩
  ·refine bi ?_
   conv=>whnf
   refine g 0 0 []<|J UA<|g 5 7 [.call (V.i (ac l pos 24)) ([rdC l (pos+1),[]])]<|J (QA @aa)<|g 7 9 [.call (V.i (ac l (pos+1) 40)) ([rdC l (pos+1+1),[]])]<|J (QA @aa)<|Ws<|g 9 11 [.call (V.i (ac l (pos+1+1) 2)) ([rdC l (pos+1+1+1),[]])]<|J (QA @aa)<|Wc<|Kt (rg [.call (V.i (ac l (pos+1+1+1) 4)) ([rdC l (pos+1+1+1+1),[]])]<|J (QA @aa) (Ws (g 11 15 []<|J UB (Wc<|Jf<|(Wk (Ws ?_))))))
   refine g 15 18 []<|J UB<|Wc<|Jf<|Wk<|Ws<|g 18 22 []<|J UB<|Wc<|Jf<|Wk<|Ws<|g 22 26 []<|J UB<|Wc<|Jf<|Wk<|Ws ?_
   refine g 26 30 []<|J UB<|Wc<|Jf<|Wk<|Ws<|g 4 38 []<|J UB<|Wc<|Jf<|Wk<|Ws<|g 3 45 []<|J UB<|Wc<|Jf<|Wk<|g 45 50 [.call (V.i (ac l (pos+1+1+1+1) 4)) ([rdC l (pos+1+1+1+1+1),[]])]<|J (QA @aa) ?_
   refine W.ret<|EndsW.rt<|J UE ?_
   exact⟨⟨7,ac l (pos+1+1+1+1) 4,0,0⟩,_,rfl,rfl,by omega,by omega⟩
 ·have r1:=ak l (pos+1+1+1) 40
  have r2:=ak l (pos+1+1+1+1) 300
  have r3:=ak l (pos+1+1+1) 4
  have r4:=ak l (pos+1+1+1+1) 4
  by_cases k0:ac l pos 24 < 9
  ·refine bi ?_
   conv=>whnf
   refine g 0 0 []<|J UA<|g 5 7 [.call (V.i (ac l pos 24)) ([rdC l (pos+1),[]])]<|J (QA @aa)<|g 7 9 [.call (V.i (ac l (pos+1) 40)) ([rdC l (pos+1+1),[]])]<|J (QA @aa)<|Ws<|g 9 11 [.call (V.i (ac l (pos+1+1) 2)) ([rdC l (pos+1+1+1),[]])]<|J (QA @aa)<|Wc<|Jf<|Wk<|Ws<|g 11 15 []<|J UB<|Wc<|Kt (g 15 17 []<|J QZ (W.ret ?_))
   refine EndsW.rt<|J UE ?_
   exact⟨⟨1,0,0,0⟩,_,rfl,rfl,by omega,by omega⟩
  by_cases k1:ac l pos 24 < 17
  ·refine bi ?_
   conv=>whnf
   refine g 0 0 []<|J UA<|g 5 7 [.call (V.i (ac l pos 24)) ([rdC l (pos+1),[]])]<|J (QA @aa)<|g 7 9 [.call (V.i (ac l (pos+1) 40)) ([rdC l (pos+1+1),[]])]<|J (QA @aa)<|Ws<|g 9 11 [.call (V.i (ac l (pos+1+1) 2)) ([rdC l (pos+1+1+1),[]])]<|J (QA @aa)<|Wc<|Jf<|Wk<|Ws<|g 11 15 []<|J UB<|Wc<|Jf<|Wk<|Ws ?_
   refine g 15 18 []<|J UB<|Wc<|Kt (g 18 21 []<|J QZ (W.ret (EndsW.rt<|J UE ?_)))
   exact⟨⟨2,ac l (pos+1) 40,0,0⟩,_,rfl,rfl,by omega,by omega⟩
  by_cases k2:ac l pos 24 = 17
  ·refine bi ?_
   conv=>whnf
   refine g 0 0 []<|J UA<|g 5 7 [.call (V.i (ac l pos 24)) ([rdC l (pos+1),[]])]<|J (QA @aa)<|g 7 9 [.call (V.i (ac l (pos+1) 40)) ([rdC l (pos+1+1),[]])]<|J (QA @aa)<|Ws<|g 9 11 [.call (V.i (ac l (pos+1+1) 2)) ([rdC l (pos+1+1+1),[]])]<|J (QA @aa)<|Wc<|Jf<|Wk<|Ws<|g 11 15 []<|J UB<|Wc<|Jf<|Wk<|Ws ?_
   refine g 15 18 []<|J UB<|Wc<|Jf<|Wk<|Ws<|g 18 22 []<|J UB<|Wc<|Kt (g 22 25 []<|J QZ (W.ret (EndsW.rt<|J UE ?_)))
   exact⟨⟨3,ac l (pos+1) 40,0,0⟩,_,rfl,rfl,by omega,by omega⟩
  by_cases k3:ac l pos 24 = 18
  ·refine bi ?_
   conv=>whnf
   refine g 0 0 []<|J UA<|g 5 7 [.call (V.i (ac l pos 24)) ([rdC l (pos+1),[]])]<|J (QA @aa)<|g 7 9 [.call (V.i (ac l (pos+1) 40)) ([rdC l (pos+1+1),[]])]<|J (QA @aa)<|Ws<|g 9 11 [.call (V.i (ac l (pos+1+1) 2)) ([rdC l (pos+1+1+1),[]])]<|J (QA @aa)<|Wc<|Jf<|Wk<|Ws<|g 11 15 []<|J UB<|Wc<|Jf<|Wk<|Ws ?_
   refine g 15 18 []<|J UB<|Wc<|Jf<|Wk<|Ws<|g 18 22 []<|J UB<|Wc<|Jf<|Wk<|Ws<|g 22 26 []<|J UB<|Wc<|Kt (g 26 29 []<|J QZ (W.ret ?_))
   refine EndsW.rt<|J UE ?_
   exact⟨⟨4,ac l (pos+1) 40,0,0⟩,_,rfl,rfl,by omega,by omega⟩
  by_cases k4:ac l pos 24 = 19
  ·refine bi ?_
   conv=>whnf
   refine g 0 0 []<|J UA<|g 5 7 [.call (V.i (ac l pos 24)) ([rdC l (pos+1),[]])]<|J (QA @aa)<|g 7 9 [.call (V.i (ac l (pos+1) 40)) ([rdC l (pos+1+1),[]])]<|J (QA @aa)<|Ws<|g 9 11 [.call (V.i (ac l (pos+1+1) 2)) ([rdC l (pos+1+1+1),[]])]<|J (QA @aa)<|Wc<|Jf<|Wk<|Ws<|g 11 15 []<|J UB<|Wc<|Jf<|Wk<|Ws ?_
   refine g 15 18 []<|J UB<|Wc<|Jf<|Wk<|Ws<|g 18 22 []<|J UB<|Wc<|Jf<|Wk<|Ws<|g 22 26 []<|J UB<|Wc<|Jf<|Wk<|Ws ?_
   refine g 26 30 []<|J UB<|Wc<|Kt (g 4 37 [.call (V.i (ac l (pos+1+1+1) 40)) ([rdC l (pos+1+1+1+1),[]]),.call (V.i (ac l (pos+1+1+1+1) 300)) ([rdC l (pos+1+1+1+1+1),[]])]<|J (QA @aa) (W.ret (EndsW.rt<|J UE ?_)))
   exact⟨⟨5,ac l (pos+1) 40,ac l (pos+1+1+1) 40,ac l (pos+1+1+1+1) 300⟩,_,rfl,rfl,by omega,by omega⟩
  by_cases k5:ac l pos 24 < 22
  ·refine bi ?_
   conv=>whnf
   refine g 0 0 []<|J UA<|g 5 7 [.call (V.i (ac l pos 24)) ([rdC l (pos+1),[]])]<|J (QA @aa)<|g 7 9 [.call (V.i (ac l (pos+1) 40)) ([rdC l (pos+1+1),[]])]<|J (QA @aa)<|Ws<|g 9 11 [.call (V.i (ac l (pos+1+1) 2)) ([rdC l (pos+1+1+1),[]])]<|J (QA @aa)<|Wc<|Jf<|Wk<|Ws<|g 11 15 []<|J UB<|Wc<|Jf<|Wk<|Ws ?_
   refine g 15 18 []<|J UB<|Wc<|Jf<|Wk<|Ws<|g 18 22 []<|J UB<|Wc<|Jf<|Wk<|Ws<|g 22 26 []<|J UB<|Wc<|Jf<|Wk<|Ws ?_
   refine g 26 30 []<|J UB<|Wc<|Jf<|Wk<|Ws<|g 4 38 []<|J UB<|Wc<|Kt (g 38 44 [.call (V.i (ac l (pos+1+1+1) 4)) ([rdC l (pos+1+1+1+1),[]]),.call (V.i (ac l (pos+1+1+1+1) 4)) ([rdC l (pos+1+1+1+1+1),[]])]<|J (QA @aa) (W.ret (EndsW.rt<|J UE ?_)))
   exact⟨⟨6,ac l (pos+1+1+1) 4,ac l (pos+1+1+1+1) 4,0⟩,_,rfl,rfl,by omega,by omega⟩
  by_cases k6:ac l pos 24 = 22
  ·refine bi ?_
   conv=>whnf
   refine g 0 0 []<|J UA<|g 5 7 [.call (V.i (ac l pos 24)) ([rdC l (pos+1),[]])]<|J (QA @aa)<|g 7 9 [.call (V.i (ac l (pos+1) 40)) ([rdC l (pos+1+1),[]])]<|J (QA @aa)<|Ws<|g 9 11 [.call (V.i (ac l (pos+1+1) 2)) ([rdC l (pos+1+1+1),[]])]<|J (QA @aa)<|Wc<|Jf<|Wk<|Ws<|g 11 15 []<|J UB<|Wc<|Jf<|Wk<|Ws ?_
   refine g 15 18 []<|J UB<|Wc<|Jf<|Wk<|Ws<|g 18 22 []<|J UB<|Wc<|Jf<|Wk<|Ws<|g 22 26 []<|J UB<|Wc<|Jf<|Wk<|Ws ?_
   refine g 26 30 []<|J UB<|Wc<|Jf<|Wk<|Ws<|g 4 38 []<|J UB<|Wc<|Jf<|Wk<|Ws<|g 3 45 []<|J UB<|Wc<|Kt (g 45 47 []<|J QZ (W.ret ?_))
   refine EndsW.rt<|J UE ?_
   exact⟨⟨7,0,0,0⟩,_,rfl,rfl,by omega,by omega⟩
  ·refine bi ?_
   conv=>whnf
   refine g 0 0 []<|J UA<|g 5 7 [.call (V.i (ac l pos 24)) ([rdC l (pos+1),[]])]<|J (QA @aa)<|g 7 9 [.call (V.i (ac l (pos+1) 40)) ([rdC l (pos+1+1),[]])]<|J (QA @aa)<|Ws<|g 9 11 [.call (V.i (ac l (pos+1+1) 2)) ([rdC l (pos+1+1+1),[]])]<|J (QA @aa)<|Wc<|Jf<|Wk<|Ws<|g 11 15 []<|J UB<|Wc<|Jf<|Wk<|Ws ?_
   refine g 15 18 []<|J UB<|Wc<|Jf<|Wk<|Ws<|g 18 22 []<|J UB<|Wc<|Jf<|Wk<|Ws<|g 22 26 []<|J UB<|Wc<|Jf<|Wk<|Ws ?_
   refine g 26 30 []<|J UB<|Wc<|Jf<|Wk<|Ws<|g 4 38 []<|J UB<|Wc<|Jf<|Wk<|Ws<|g 3 45 []<|J UB<|Wc<|Jf<|Wk<|g 45 50 [.call (V.i (ac l (pos+1+1+1) 4)) ([rdC l (pos+1+1+1+1),[]])]<|J (QA @aa) ?_
   refine W.ret<|EndsW.rt<|J UE ?_
   exact⟨⟨7,ac l (pos+1+1+1) 4,0,0⟩,_,rfl,rfl,by omega,by omega⟩
theorem xu(l:List Int)(pos:Int)(h:dM l∧0≤pos∧pos≤1000000):∃ x:Event×Int,F kp [.ptr (rdC l pos)] (ui x.1) [rdC l x.2]∧pos≤x.2∧x.2≤pos+8:=by
 obtain⟨res,outs,⟨e,pos2,rfl,rfl,h1,h2⟩,hF⟩:=TH l pos h.1 h.2.1 h.2.2
 exact⟨(e,pos2),hF,h1,h2⟩
open Classical in
noncomputable def evP(l:List Int)(pos:Int):Event×Int:=if h:dM l∧0≤pos∧pos≤1000000 then(xu l pos h).choose else(XN,pos)
theorem oK(l:List Int)(pos:Int)(hl:dM l)(h0:0≤pos)(h1:pos≤1000000):F kp [.ptr (rdC l pos)] (ui (evP l pos).1) [rdC l (evP l pos).2]:=by
 have h:dM l∧0≤pos∧pos≤1000000:=⟨hl,h0,h1⟩
 rw[evP,dif_pos h]
 exact(xu l pos h).choose_spec.1
theorem Zh(l:List Int)(pos:Int):pos≤(evP l pos).2∧(evP l pos).2≤pos+8:=by
 unfold evP
 split
 ·rename_i h;exact(xu l pos h).choose_spec.2
 ·exact⟨Int.le_refl _,by dsimp only;omega⟩
theorem X8{p:Plan}{k:Int}(h:am p.tasks = 0)(hk:1≤k∧k≤8):BossOk (eI k 0 []) p:=by
 refine⟨h,hk,⟨Int.le_refl _,by show 0≤1000000;omega⟩,sd h,fun q=>?_,fun _=>⟨rfl,rfl,rfl,rfl,rfl,rfl,rfl,rfl⟩⟩
 cases q
theorem Tj{n:Nat}(h:n < 8):av (Fy n):=by
 refine⟨⟨?_,?_⟩,⟨?_,?_⟩,⟨?_,?_⟩,.inl rfl,.inl ⟨rfl,rfl,rfl,rfl,rfl,rfl,rfl⟩⟩ <;> (simp only[Fy];omega)
theorem XO{p:Plan}{key:ByteArray}{k:Int}(h:NewOk p key k):WorldOk (qw p key k):=by
 rw[NJ h]
 obtain⟨h1,h2,h3⟩:=h
 have hl:(crew k.toNat).length = k.toNat:=uQ _
 refine⟨h1,h3,⟨by show 1≤(crew k.toNat).length;omega,by show(crew k.toNat).length≤8;omega⟩,Nat.zero_le _,?_,fun x hx=>(by cases hx),sa (X8 h1 h2),?_⟩
 case refine_2 =>
  show(cW (eI k 0 []) p).workers = ((crew k.toNat).length:Int)
  rw[hl,BD]
  show k = _
  omega
 intro i x hi hx
 change (crew k.toNat)[i]? = some x at hx
 change i < (crew k.toNat).length at hi
 rw[uQ]at hi
 have e:x = Fy i:=by
  unfold crew at hx
  rw[List.getElem?_map,List.getElem?_range hi]at hx
  exact(Option.some.inj hx).symm
 subst e
 exact⟨Tj OM,rfl⟩
theorem Tw(p:Plan)(key:ByteArray)(k:Int):sZ (qw p key k):=by
 by_cases h:NewOk p key k
 ·exact .inl (XO h)
 ·exact .inr (NK h)
theorem wU(w:World):(gy w).plan = w.plan:=by unfold gy;split <;> rfl
theorem Ka(w:World)(s:Parcel):(cB w s).plan = w.plan:=by
 unfold cB
 cases eO s.text w.key with
 |none=>rfl
 |some m=>dsimp only;split;rfl;split <;> rfl
theorem kY(w:World)(k:Int):(cH w k).plan = w.plan:=by
 unfold cH;split
 ·rw[Ka];rfl
 ·rfl
theorem PN(w:World)(e:Event):(doW w e).plan = w.plan:=by
 unfold doW
 split;exact wU w
 split;exact kY w _
 split;rfl
 split;rfl
 split;rfl
 split
 ·split;rfl
  split <;> rfl
 split
 ·split;rfl
  split <;> rfl
 ·rfl
def qu(p:Plan)(w:World):Prop:=w = noWorld∨w.plan = p
theorem M9(l:List Int)(pos:Int)(hl:dM l)(h0:0≤pos)(h1:pos≤900000):∃ res outs,(∃ (w:World) (pos2:Int),res = ar w∧outs = [rdC l pos2]∧sZ w∧qu (mQ l pos).1 w∧pos≤pos2∧pos2≤pos+5000)∧F iz [.ptr (rdC l pos)] res outs:=by
 have cd:=EO l pos hl h0 OM
 obtain⟨d1,d2,d3,d4⟩:=X7 l pos
 generalize(mQ l pos).1 = p at cd d1 d2 ⊢
 generalize(mQ l pos).2 = q at cd d3 d4
 have p3:=ak l q 3
 have p40:=ak l (q+1) 40
 have ek:(⟨#[107,101,121]⟩:ByteArray).size = 3:=rfl
 have cn:=zx p ⟨#[107,101,121]⟩ (1+ac l q 3) (IE (gq d1)) OM
 have hg0:=Tw p ⟨#[107,101,121]⟩ (1+ac l q 3)
 have hp0:qu p (qw p ⟨#[107,101,121]⟩ (1+ac l q 3)):=by
  unfold qw;split
  ·exact .inr rfl
  ·exact .inl rfl
 generalize qw p ⟨#[107,101,121]⟩ (1+ac l q 3) = w0 at cn hg0 hp0
 have q3:(ac l (q+1) 40).tdiv 3 = ac l (q+1) 40 / 3:=Int.tdiv_eq_ediv_of_nonneg p40.1
 have stepP:∀ {w v:World},qu p w→(w = noWorld→v = noWorld)→v.plan = w.plan→qu p v:=fun h h2 h3=>by
  rcases h with h|h
  ·exact .inl (h2 h)
  ·exact .inr (by rw[h3,h])
 have core:∀ N:Int,0≤N→N≤39→True:=fun _ _ _=>trivial
 by_cases h20:20 < p.tasks.length
 ·refine me ?_
  conv=>whnf
  refine g 0 0 []<|J UA<|g 7 9 [.call (eH p) ([rdC l q])]<|J QZ<|gd 9 14 [[],[],[.call (V.i (ac l q 3)) ([rdC l (q+1),[]])],[.i (1+ac l q 3)],[.call (ar w0) O3],[],[]] ?_
  conv=>whnf
  refine J (QA @aa)<|J KR<|g 14 16 [.call (V.i (ac l (q+1) 40)) ([rdC l (q+1+1),[]])]<|J (QA @aa)<|Ws<|g 16 19 []<|J UD<|Wc<|JD (fun h2=>?_) fun h2=>?_
  simp only[LM]at h2
  refine rg [.i (Int.tdiv (ac l (q+1) 40) 3)]<|J QZ<|Ws<|g 19 22 []<|J UA<|Wb ?_
  rotate_left
  simp only[LM]at h2
  omega
  refine Wl (fun s (x:Nat×World×Int)=>⟨(SK s [0,2,4,5] [(6,.i x.1)]),[(2,(CK s 2 0 17 [])),(40,[.t (u8s l),.t (.i x.2.2)]),(4,[.own cI (x.2.1.plan.tasks.map ay),.t (.s x.2.1.key),.t (.i x.2.1.boss.workers),.t (.b x.2.1.boss.up),.t (.i x.2.1.boss.now),.t (.i x.2.1.boss.since),.t (.i x.2.1.boss.epoch),.t (.i x.2.1.boss.given),.own [false] (x.2.1.boss.log.safe.map ah),.own [false] (x.2.1.boss.log.loose.map ah),.own [false] (x.2.1.boss.results.map ah),.own dB (x.2.1.boss.jobs.map aH),.own bw (x.2.1.boss.seats.map aE),.own bx (x.2.1.boss.owed.map aJ),.own bB (x.2.1.workers.map ag),.own pkd (x.2.1.flight.map aY),.t (.s x.2.1.forged)])],[]⟩) (fun(x:Nat×World×Int)=>(x.1:Int)≤(ac l (q+1) 40 / 3)∧sZ x.2.1∧qu p x.2.1∧q+2≤x.2.2∧x.2.2≤q+2+9 * x.1) (fun(x:Nat×World×Int)=>(((ac l (q+1) 40 / 3):Int) - x.1).toNat) ((0,w0,q+2)) [some 2,some 40,some 4] [] ⟨rfl,FZ,⟨FZ,⟨(R2 ⟨(congrArg (fun z=>V.t (T.v (Value.int _ z))) (by show q+1+1 = q+2;omega)),I⟩),FZ⟩⟩,I⟩ ?_ ?_
  ·exact⟨by dsimp only;omega,hg0,hp0,by dsimp only;omega,by dsimp only;omega⟩
  rintro⟨i,w,r⟩ ⟨i1,i2,i3,i4,i5⟩
  dsimp only at i1 i2 i3 i4 i5
  by_cases hi:(i:Int) < (ac l (q+1) 40 / 3)
  ·have ce:=oK l r hl OM OM
   obtain⟨e1,e2⟩:=Zh l r
   generalize(evP l r).1 = e at ce
   generalize(evP l r).2 = u at ce e1 e2
   have cD:=ph w e (bO i2)
   have hG:=OJ e i2
   have hP:=stepP i3 (fun h=>by rw[h];exact sM e) (PN w e)
   generalize doW w e = w1 at cD hG hP
   have p4:=ak l u 4
   by_cases g4:ac l u 4 = 0
   ·have c1:=jb w1 (bO hG)
    have hG1:=Gi hG
    have hP1:=stepP hP (fun h=>by rw[h];exact pM) (wU w1)
    generalize gy w1 = w2 at c1 hG1 hP1
    have c2:=dc w2 0 (bO hG1)
    have hG2:=nZ 0 hG1
    have hP2:=stepP hP1 (fun h=>by rw[h];exact jf 0) (kY w2 0)
    generalize cH w2 0 = w3 at c2 hG2 hP2
    have c3:=dc w3 0 (bO hG2)
    have hG3:=nZ 0 hG2
    have hP3:=stepP hP2 (fun h=>by rw[h];exact jf 0) (kY w3 0)
    generalize cH w3 0 = w4 at c3 hG3 hP3
    conv=>whnf
    refine Ws<|g 22 24 []<|J UC<|Wc<|Kt (Wk (Ws (Wb (gd 24 31 [[],[],[.call (ui e) ([rdC l u])],[.call (ar w1) O2],[]] ?_))))
    conv=>whnf
    refine⟨Zak,by kernel_rfl,?_⟩
    refine g 31 33 [.call (V.i (ac l u 4)) ([rdC l (u+1),[]])]<|J (QA @aa)<|Wc<|Kt (rg [.call (ar w2) O1,.call (ar w3) O2,.call (ar w4) O2]<|J QZ (rg [.i ((↑(Prod.fst (i,w,r)):Int) +1)]<|J QZ ?_))
    refine⟨(i+1,w4,u+1),[some 2,some 40,some 4],[],FZ,?_,?_⟩
    rotate_left
    (dsimp only;omega)
    dsimp only
    exact⟨by omega,hG3,hP3,by first|omega|(dsimp only;omega),by first|omega|(dsimp only;omega)⟩
   ·conv=>whnf
    refine Ws<|g 22 24 []<|J UC<|Wc<|Kt (Wk (Ws (Wb (gd 24 31 [[],[],[.call (ui e) ([rdC l u])],[.call (ar w1) O2],[]] ?_))))
    conv=>whnf
    refine⟨Zak,by kernel_rfl,?_⟩
    refine g 31 33 [.call (V.i (ac l u 4)) ([rdC l (u+1),[]])]<|J (QA @aa)<|Wc<|Jf<|Wk<|rg [.i ((↑(Prod.fst (i,w,r)):Int) +1)]<|J QZ ?_
    refine⟨(i+1,w1,u+1),[some 2,some 40,some 4],[],FZ,?_,?_⟩
    rotate_left
    (dsimp only;omega)
    dsimp only
    exact⟨by omega,hG,hP,by first|omega|(dsimp only;omega),by first|omega|(dsimp only;omega)⟩
  ·have cc:=da w (bO i2)
   conv=>whnf
   refine Ws<|g 22 24 []<|J UC<|Wc<|Jf<|We<|g 4 40 [.call (ar w) O1]<|J QZ<|W.ret<|EndsW.rt<|J UR ?_
   exact⟨w,r,rfl,rfl,i2,i3,by omega,by omega⟩
 ·refine me ?_
  conv=>whnf
  refine g 0 0 []<|J UA<|g 7 9 [.call (eH p) ([rdC l q])]<|J QZ<|gd 9 14 [[],[],[.call (V.i (ac l q 3)) ([rdC l (q+1),[]])],[.i (1+ac l q 3)],[.call (ar w0) O3],[],[]] ?_
  conv=>whnf
  refine J (QA @aa)<|J KR<|g 14 16 [.call (V.i (ac l (q+1) 40)) ([rdC l (q+1+1),[]])]<|J (QA @aa)<|Ws<|g 16 19 []<|J UD<|Wc<|J (fun h2=>?_) fun h2=>?_
  replace h2:=dt h2
  simp only[LM]at h2
  omega
  replace h2:=df h2
  simp only[LM]at h2
  refine Wk<|Ws<|g 3 4 []<|J UA<|Wb ?_
  refine Wl (fun s (x:Nat×World×Int)=>⟨(SK s [0,2,4,5] [(6,.i x.1)]),[(2,(CK s 2 0 17 [])),(40,[.t (u8s l),.t (.i x.2.2)]),(4,[.own cI (x.2.1.plan.tasks.map ay),.t (.s x.2.1.key),.t (.i x.2.1.boss.workers),.t (.b x.2.1.boss.up),.t (.i x.2.1.boss.now),.t (.i x.2.1.boss.since),.t (.i x.2.1.boss.epoch),.t (.i x.2.1.boss.given),.own [false] (x.2.1.boss.log.safe.map ah),.own [false] (x.2.1.boss.log.loose.map ah),.own [false] (x.2.1.boss.results.map ah),.own dB (x.2.1.boss.jobs.map aH),.own bw (x.2.1.boss.seats.map aE),.own bx (x.2.1.boss.owed.map aJ),.own bB (x.2.1.workers.map ag),.own pkd (x.2.1.flight.map aY),.t (.s x.2.1.forged)])],[]⟩) (fun(x:Nat×World×Int)=>(x.1:Int)≤(ac l (q+1) 40)∧sZ x.2.1∧qu p x.2.1∧q+2≤x.2.2∧x.2.2≤q+2+9 * x.1) (fun(x:Nat×World×Int)=>(((ac l (q+1) 40):Int) - x.1).toNat) ((0,w0,q+2)) [some 2,some 40,some 4] [] ⟨rfl,FZ,⟨FZ,⟨(R2 ⟨(congrArg (fun z=>V.t (T.v (Value.int _ z))) (by show q+1+1 = q+2;omega)),I⟩),FZ⟩⟩,I⟩ ?_ ?_
  ·exact⟨by dsimp only;omega,hg0,hp0,by dsimp only;omega,by dsimp only;omega⟩
  rintro⟨i,w,r⟩ ⟨i1,i2,i3,i4,i5⟩
  dsimp only at i1 i2 i3 i4 i5
  by_cases hi:(i:Int) < (ac l (q+1) 40)
  ·have ce:=oK l r hl OM OM
   obtain⟨e1,e2⟩:=Zh l r
   generalize(evP l r).1 = e at ce
   generalize(evP l r).2 = u at ce e1 e2
   have cD:=ph w e (bO i2)
   have hG:=OJ e i2
   have hP:=stepP i3 (fun h=>by rw[h];exact sM e) (PN w e)
   generalize doW w e = w1 at cD hG hP
   have p4:=ak l u 4
   by_cases g4:ac l u 4 = 0
   ·have c1:=jb w1 (bO hG)
    have hG1:=Gi hG
    have hP1:=stepP hP (fun h=>by rw[h];exact pM) (wU w1)
    generalize gy w1 = w2 at c1 hG1 hP1
    have c2:=dc w2 0 (bO hG1)
    have hG2:=nZ 0 hG1
    have hP2:=stepP hP1 (fun h=>by rw[h];exact jf 0) (kY w2 0)
    generalize cH w2 0 = w3 at c2 hG2 hP2
    have c3:=dc w3 0 (bO hG2)
    have hG3:=nZ 0 hG2
    have hP3:=stepP hP2 (fun h=>by rw[h];exact jf 0) (kY w3 0)
    generalize cH w3 0 = w4 at c3 hG3 hP3
    conv=>whnf
    refine Ws<|g 22 24 []<|J UC<|Wc<|Kt (Wk (Ws (Wb (gd 24 31 [[],[],[.call (ui e) ([rdC l u])],[.call (ar w1) O2],[]] ?_))))
    conv=>whnf
    refine⟨Zak,by kernel_rfl,?_⟩
    refine g 31 33 [.call (V.i (ac l u 4)) ([rdC l (u+1),[]])]<|J (QA @aa)<|Wc<|Kt (rg [.call (ar w2) O1,.call (ar w3) O2,.call (ar w4) O2]<|J QZ (rg [.i ((↑(Prod.fst (i,w,r)):Int) +1)]<|J QZ ?_))
    refine⟨(i+1,w4,u+1),[some 2,some 40,some 4],[],FZ,?_,?_⟩
    rotate_left
    (dsimp only;omega)
    dsimp only
    exact⟨by omega,hG3,hP3,by first|omega|(dsimp only;omega),by first|omega|(dsimp only;omega)⟩
   ·conv=>whnf
    refine Ws<|g 22 24 []<|J UC<|Wc<|Kt (Wk (Ws (Wb (gd 24 31 [[],[],[.call (ui e) ([rdC l u])],[.call (ar w1) O2],[]] ?_))))
    conv=>whnf
    refine⟨Zak,by kernel_rfl,?_⟩
    refine g 31 33 [.call (V.i (ac l u 4)) ([rdC l (u+1),[]])]<|J (QA @aa)<|Wc<|Jf<|Wk<|rg [.i ((↑(Prod.fst (i,w,r)):Int) +1)]<|J QZ ?_
    refine⟨(i+1,w1,u+1),[some 2,some 40,some 4],[],FZ,?_,?_⟩
    rotate_left
    (dsimp only;omega)
    dsimp only
    exact⟨by omega,hG,hP,by first|omega|(dsimp only;omega),by first|omega|(dsimp only;omega)⟩
  ·have cc:=da w (bO i2)
   conv=>whnf
   refine Ws<|g 22 24 []<|J UC<|Wc<|Jf<|We<|g 4 40 [.call (ar w) O1]<|J QZ<|W.ret<|EndsW.rt<|J UR ?_
   exact⟨w,r,rfl,rfl,i2,i3,by omega,by omega⟩
theorem pf(l:List Int)(pos:Int)(h:dM l∧0≤pos∧pos≤900000):∃ x:World×Int,F iz [.ptr (rdC l pos)] (ar x.1) [rdC l x.2]∧sZ x.1∧qu (mQ l pos).1 x.1∧pos≤x.2∧x.2≤pos+5000:=by
 obtain⟨res,outs,⟨w,pos2,rfl,rfl,h1,h2,h3,h4⟩,hF⟩:=M9 l pos h.1 h.2.1 h.2.2
 exact⟨(w,pos2),hF,h1,h2,h3,h4⟩
open Classical in
noncomputable def iK(l:List Int)(pos:Int):World×Int:=if h:dM l∧0≤pos∧pos≤900000 then(pf l pos h).choose else(noWorld,pos)
theorem iE(l:List Int)(pos:Int)(hl:dM l)(h0:0≤pos)(h1:pos≤900000):F iz [.ptr (rdC l pos)] (ar (iK l pos).1) [rdC l (iK l pos).2]:=by
 have h:dM l∧0≤pos∧pos≤900000:=⟨hl,h0,h1⟩
 rw[iK,dif_pos h]
 exact(pf l pos h).choose_spec.1
theorem CJ(l:List Int)(pos:Int):sZ (iK l pos).1∧qu (mQ l pos).1 (iK l pos).1∧pos≤(iK l pos).2∧(iK l pos).2≤pos+5000:=by
 unfold iK
 split
 ·rename_i h;exact(pf l pos h).choose_spec.2
 ·exact⟨.inr rfl,.inl rfl,Int.le_refl _,by dsimp only;omega⟩
end Go.K
end

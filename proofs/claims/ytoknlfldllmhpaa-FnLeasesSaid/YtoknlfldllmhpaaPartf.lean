/- Contracts of functions of the program: what each call answers. -/
import Derived.Test.YtoknlfldllmhpaaParte
set_option maxHeartbeats 8000000
set_option maxRecDepth 20000
set_option linter.unusedVariables false
set_option linter.unusedSimpArgs false
section
open Go Go.Tm Go.Proofs
namespace Go.K
theorem lc{p:Plan}(h:ah p.tasks = 0):cZ p:=by
 have h1:=(bP h).1
 refine⟨by omega,fun t ht=>?_⟩
 obtain⟨n,hn⟩:=List.getElem?_of_mem ht
 have h2:=(bz h hn).2.2.1
 have h3:=(bz h hn).1
 exact⟨by omega,by omega⟩
theorem kN(p:Plan)(h:cZ p):F sY [.val (cE p)] (dE p) [[]]:=by
 obtain⟨hp1,hp2⟩:=h
 refine tz ?_
 conv=>whnf
 refine g 0 0 []<|J Zdu<|g 0 0 []<|J UA<|W.sq<|g 1 2 []<|J UD<|W.blk<|W.lp (fun s (n:Nat)=>⟨[(0,s.s 0),(2,s.s 2),(3,s.s 3),(7,s.s 7),(8,s.s 8),(9,.i n)],[(2,[s.c 2 0]),(3,[.own dM ((p.tasks.take n).map aC)])],[]⟩) (fun(n:Nat)=>n≤p.tasks.length) (fun(n:Nat)=>p.tasks.length - n) (0) [some 2,some 3] [] ⟨rfl,⟨Zag,rfl,rfl,rfl,rfl,rfl,I⟩,⟨Zad,Zdp⟩,I⟩ OM ?_
 intro n hn
 conv=>whnf
 refine g 0 0 []<|J UA<|W.sq<|W.cn<|J (fun h1=>?_) fun h1=>?_
 replace h1:=dt h1
 simp only[LM]at h1
 refine W.skip<|W.sq<|W.blk ?_
 obtain⟨y1,hy1⟩:=aj (xs:=Plan.tasks p) (n:=n) OM
 have hm1:=hp2 y1 (List.mem_of_getElem? hy1)
 refine g 10 13 [.x (aC y1)]<|J Zcn<|g 13 18 []<|J Zb9<|rg []<|J Zb8<|rg [.i ((n:Int) +1)]<|J Zdm ?_
 rotate_left
 replace h1:=df h1
 simp only[LM]at h1
 refine W.exit<|g 3 26 []<|J UV<|RT ?_
 rotate_left
 ·refine⟨n+1,[some 2,some 3],[],⟨rfl,⟨Zag,rfl,rfl,rfl,rfl,rfl,I⟩,⟨Zad,⟨⟨rfl,⟨(congrArg (V.own _) (oc AS)),I⟩⟩,I⟩⟩,I⟩,?_,?_⟩
  rotate_left
  (dsimp only;omega)
  dsimp only
  omega
 ·rw[bF OM]
def zQ(i:Nat):Worker:=⟨(i:Int) +1,1,true,0,0,0,0,0,[],emp,3⟩
def crew(n:Nat):List Worker:=(List.range n).map zQ
theorem AM(n:Nat):crew n++ [zQ n] = crew (n+1):=by simp[crew,List.range_succ]
theorem xB(n:Nat):(crew n).map au++ [au (zQ n)] = (crew (n+1)).map au:=by rw[←AM,List.map_append];rfl
theorem lL(n:Nat):(crew n).length = n:=by simp[crew]
structure NewOk (p:Plan) (key:ByteArray) (w:Int):Prop where
 plan:ah p.tasks = 0
 w:1≤w∧w≤8
 key:key.size≤30
noncomputable instance (p:Plan) (key:ByteArray) (w:Int):Decidable (NewOk p key w):=Classical.propDecidable _
noncomputable def iG(p:Plan)(key:ByteArray)(w:Int):World:=if NewOk p key w then⟨p,key,aY (cH w 0 []) p,crew w.toNat,[],emp⟩else noWorld
theorem oQ{p:Plan}{key:ByteArray}{w:Int}(h:NewOk p key w):iG p key w = ⟨p,key,aY (cH w 0 []) p,crew w.toNat,[],emp⟩:=if_pos h
theorem oT{p:Plan}{key:ByteArray}{w:Int}(h:¬NewOk p key w):iG p key w = noWorld:=if_neg h
theorem ql{p:Plan}(h:ah p.tasks = 0):(am p []).code = 0:=by
 rw[am,if_pos ⟨h,by decide⟩,jz]
theorem mF(p:Plan)(key:ByteArray)(w:Int)(hp:cQ p)(hk:key.size≤9223372036854775807):F vo [.val (cE p),.val (.s key),.val (.i w)] (az (iG p key w)) [[],[],[]]:=by
 have cp:=eK p hp
 by_cases h:NewOk p key w
 ·rw[oQ h]
  obtain⟨h1,h2,h3⟩:=h
  rw[h1]at cp
  have hs:=lc h1
  have cr:=uV w 0 [] p hp h2 (fun s hs=>by cases hs) (ql h1)
  refine fg ?_
  conv=>whnf
  refine g 0 0 []<|J Zdu<|W.sq<|g 11 21 [.call (V.i 0) [[]],BF,BF,.call (V.b (decide (1≤w∧w≤8))) [[],[],[]],BF,BF,BF,BF,BF,BF]<|J ⟨I,Zai,I,I,Zde,⟨rfl,UC,I,UU,UA,ac _ _ _⟩,Zde,rfl,I,⟨nO,I⟩,⟨nO,I⟩,⟨nO,I⟩,nO,I⟩<|W.cn<|J (noT dO) fun _=>W.skip<|g 21 29 [.call (dE p) [[]]]<|J ⟨I,⟨UA,I,US,UA,kN _ OM⟩,I,I,I,I,I,UQ,I⟩<|g 29 33 [.call (V.tup []) ([cellsOf (aG (aY (cH w 0 []) p)),[]])]<|J ⟨I,I,I,Zbr,I⟩<|W.sq<|g 3 4 []<|J UA<|W.blk<|W.lp (fun s (n:Nat)=>⟨[(0,s.s 0),(1,s.s 1),(2,s.s 2),(6,s.s 6),(7,s.s 7),(8,.i (n+1)),(10,s.s 10)],[(6,[s.c 6 0,s.c 6 1,s.c 6 2,s.c 6 3,s.c 6 4,s.c 6 5,s.c 6 6,s.c 6 7,s.c 6 8,s.c 6 9,s.c 6 10,s.c 6 11,s.c 6 12,s.c 6 13,s.c 6 14,s.c 6 15,s.c 6 16]),(7,[.own dM (p.tasks.map aC),.t (.s key),.t (.i (aY (cH w 0 []) p).workers),.t (.b (aY (cH w 0 []) p).up),.t (.i (aY (cH w 0 []) p).now),.t (.i (aY (cH w 0 []) p).since),.t (.i (aY (cH w 0 []) p).epoch),.t (.i (aY (cH w 0 []) p).given),.own [false] ((aY (cH w 0 []) p).log.safe.map ak),.own [false] ((aY (cH w 0 []) p).log.loose.map ak),.own [false] ((aY (cH w 0 []) p).results.map ak),.own fv ((aY (cH w 0 []) p).jobs.map aV),.own cM ((aY (cH w 0 []) p).seats.map aR),.own cN ((aY (cH w 0 []) p).owed.map bg),.own dU ((crew n).map au),.own pkd [],.t (.s emp)])],[]⟩) (fun(n:Nat)=>n≤w.toNat) (fun(n:Nat)=>w.toNat - n) (0) [some 6,some 7] [] ⟨rfl,Zd2,⟨Zdd,Zet⟩,I⟩ OM ?_
  intro n hn
  have e:=xB n
  have hcl:=lL n
  conv=>whnf
  refine W.sq<|g 33 35 []<|J UC<|W.cn<|J (fun h4=>?_) fun h4=>?_
  replace h4:=dt h4
  refine W.skip<|W.sq<|W.blk<|rg []<|J ⟨I,I,I,I,⟨UK,I⟩,Zdi,I,UA,I⟩<|rg [.i ((n:Int) +1+1)]<|J Zdf ?_
  rotate_left
  replace h4:=df h4
  refine W.exit<|g 7 46 []<|J Zdn<|RT ?_
  rotate_left
  ·refine⟨n+1,[some 6,some 7],[],⟨rfl,Zd2,⟨Zdd,⟨⟨rfl,⟨rfl,⟨rfl,⟨rfl,⟨rfl,⟨rfl,⟨rfl,⟨rfl,⟨rfl,⟨rfl,⟨rfl,⟨rfl,⟨rfl,⟨rfl,⟨rfl,⟨(congrArg (V.own _) (e)),Zad⟩⟩⟩⟩⟩⟩⟩⟩⟩⟩⟩⟩⟩⟩⟩⟩,I⟩⟩,I⟩,?_,?_⟩
   rotate_left
   (dsimp only;omega)
   dsimp only
   omega
  ·obtain rfl:n = w.toNat:=by omega
   rfl
 ·rw[oT h]
  by_cases h1:ah p.tasks = 0
  ·by_cases h2:1≤w∧w≤8
   ·have h3:¬key.size≤30:=fun q=>h ⟨h1,h2,q⟩
    refine fg ?_
    conv=>whnf
    refine g 0 0 []<|J Zdu<|W.sq<|g 11 21 [.call (V.i (ah p.tasks)) [[]],BF,BF,.call (V.b (decide (1≤w∧w≤8))) [[],[],[]],BF,BF,BF,BF,BF,BF]<|J ⟨I,Zai,I,I,⟨nO,I⟩,⟨nO,UC,I,UU,UA,ac _ _ _⟩,⟨nO,I⟩,nO,I,⟨nO,I⟩,⟨nO,I⟩,⟨nO,I⟩,nO,I⟩<|W.cn<|J (fun _=>(g 21 23 []<|J Zdn (RT ?_))) (noF tO)
    rfl
   ·refine fg ?_
    conv=>whnf
    refine g 0 0 []<|J Zdu<|W.sq<|g 11 21 [.call (V.i (ah p.tasks)) [[]],BF,BF,.call (V.b (decide (1≤w∧w≤8))) [[],[],[]],BF,BF,BT,BT,BT,BT]<|J ⟨I,Zai,I,I,⟨nO,I⟩,⟨nO,UC,I,UU,UA,ac _ _ _⟩,⟨nO,I⟩,nO,I,af OM,af OM,af OM,af OM,I⟩<|W.cn<|J (fun _=>(g 21 23 []<|J Zdn (RT ?_))) (noF rfl)
    rfl
  ·refine fg ?_
   conv=>whnf
   refine g 0 0 []<|J Zdu<|W.sq<|g 11 21 [.call (V.i (ah p.tasks)) [[]],BT,BT,BT,BT,BT,BT,BT,BT]<|J ⟨I,Zai,I,I,af OM,af OM,af OM,af OM,I,rfl,rfl,rfl,rfl,I⟩<|W.cn<|J (fun _=>(g 21 23 []<|J Zdn (RT ?_))) (noF rfl)
   rfl
end Go.K
end
section
open Go Go.Tm Go.Proofs
namespace Go.K
structure WorkOk (i:Nat) (x:Worker):Prop where
 ok:ar x
 num:x.number = (i:Int) +1
def vT(ws:List Worker)(n:Nat):Prop:=∀ (m:Nat) (x:Worker),m < n→ws[m]? = some x→WorkOk m x
theorem uQ(ws:List Worker):vT ws 0:=fun m x hm=>by omega
theorem uR{ws:List Worker}{n:Nat}{x:Worker}(h:vT ws n)(hx:ws[n]? = some x)(hw:WorkOk n x):vT ws (n+1):=fun m y hm hy=>by
 by_cases e:m = n
 ·subst e;rw[hx]at hy;cases hy;exact hw
 ·exact h m y OM hy
structure ParOk (x:Parcel):Prop where
 to:0≤x.kind∧x.kind≤8
 sent:x.frm.size≤500
 bytes:x.text.size≤500
structure WorldOk (w:World):Prop where
 plan:ah w.plan.tasks = 0
 key:w.key.size≤30
 wl:1≤w.workers.length∧w.workers.length≤8
 fl:w.flight.length≤2000
 crew:vT w.workers w.workers.length
 par:∀ x∈w.flight,ParOk x
 boss:BossOk w.boss w.plan
 same:w.boss.workers = w.workers.length
noncomputable instance (w:World):Decidable (WorldOk w):=Classical.propDecidable _
structure WorldLim (w:World):Prop where
 plan:cQ w.plan
 boss:BossLim w.boss
 key:w.key.size≤9223372036854775807
 wl:w.workers.length≤1048576
 wi:∀ x∈w.workers,x.inputs.length≤1048576
 fl:w.flight.length≤1048576
 fs:∀ x∈w.flight,x.frm.size≤9223372036854775807∧x.text.size≤9223372036854775807
theorem jK(w:World)(h:WorldLim w):F rf [.val (rY w)] (.b (decide (WorldOk w))) [[]]:=by
 obtain⟨l1,l2,l3,l4,l5,l6,l7⟩:=h
 have cp:=eK w.plan l1
 have cb:=yi w.boss w.plan l1 l2
 refine rp ?_
 conv=>whnf
 refine g 0 1 []<|J Zd8<|W.sq ?_
 by_cases h1:ah (Plan.tasks (World.plan w)) = (0:Int)
 by_cases h2:(30:Int) < (↑(ByteArray.size (World.key w)):Int)
 refine g 11 29 [.call (V.i (ah w.plan.tasks)) [[]],BF,BF,BF,BF,BF,BT,BT,BT,BT,BT,BT,BT,BT,BT,BT,BT]<|J ⟨I,I,Zai,I,I,⟨nO,I⟩,⟨nO,I⟩,⟨nO,I⟩,⟨nO,I⟩,nO,I,tO,tO,tO,tO,tO,tO,I,rfl,rfl,rfl,rfl,rfl,I⟩<|W.cn<|J (fun _=>(g 7 10 []<|J UA (RT ?_))) (noF rfl)
 rotate_left
 by_cases h3:(1:Int)≤(↑(List.length (List.map au (World.workers w))):Int)∧(↑(List.length (List.map au (World.workers w))):Int)≤(8:Int)
 simp only[LM]at h3
 refine g 11 29 [.call (V.i (ah w.plan.tasks)) [[]],BF,BF,BF,BF,BF,BF,BF,BF,BF,.call (V.b (decide (1≤(↑(List.length (List.map au w.workers)):Int)∧(↑(List.length (List.map au w.workers)):Int)≤8))) [[],[],[]],BF,BF,BF,BF,BF,BF,BF]<|J ⟨I,I,Zai,I,I,⟨nO,I⟩,⟨nO,I⟩,⟨nO,I⟩,⟨nO,I⟩,nO,I,⟨dO,I⟩,⟨dO,I⟩,⟨dO,I⟩,⟨dO,UC,I,UU,UA,ac _ _ _⟩,⟨dO,I⟩,dO,I,⟨SI,I⟩,⟨SI,I⟩,⟨SI,I⟩,⟨SI,I⟩,SI,I⟩<|W.cn<|J (fun h4=>?_) fun h4=>?_
 replace h4:=dt h4
 simp only[LM]at h4
 refine g 7 10 []<|J UA<|RT ?_
 rotate_left
 replace h4:=df h4
 simp only[LM]at h4
 refine W.skip<|W.sq<|g 7 10 []<|J UD<|W.blk ?_
 rotate_left
 simp only[LM]at h3
 refine g 11 29 [.call (V.i (ah w.plan.tasks)) [[]],BF,BF,BF,BF,BF,BF,BF,BF,BF,.call (V.b (decide (1≤(↑(List.length (List.map au w.workers)):Int)∧(↑(List.length (List.map au w.workers)):Int)≤8))) [[],[],[]],BF,BF,BT,BT,BT,BT,BT]<|J ⟨I,I,Zai,I,I,⟨nO,I⟩,⟨nO,I⟩,⟨nO,I⟩,⟨nO,I⟩,nO,I,⟨dO,I⟩,⟨dO,I⟩,⟨dO,I⟩,⟨dO,UC,I,UU,UA,ac _ _ _⟩,⟨dO,I⟩,dO,I,SI,SI,SI,SI,SI,I⟩<|W.cn<|J (fun _=>(g 7 10 []<|J UA (RT ?_))) (noF rfl)
 rotate_left
 refine g 11 29 [.call (V.i (ah w.plan.tasks)) [[]],BT,BT,BT,BT,BT,BT,BT,BT,BT,BT,BT,BT,BT,BT,BT,BT]<|J ⟨I,I,Zai,I,I,af OM,af OM,af OM,af OM,af OM,I,rfl,rfl,rfl,rfl,rfl,rfl,I,rfl,rfl,rfl,rfl,rfl,I⟩<|W.cn<|J (fun _=>(g 7 10 []<|J UA (RT ?_))) (noF rfl)
 rotate_left
 all_goals try (exact vbf (fun q=>by have e1:=q.plan;have e2:=q.key;have e3:=q.wl;have e4:=q.fl;omega))
 refine W.lp (fun s (n:Nat)=>⟨[(1,s.s 1),(10,s.s 10),(31,s.s 31),(32,s.s 32),(33,.i n)],[(1,[s.c 1 0,s.c 1 1,s.c 1 2,s.c 1 3,s.c 1 4,s.c 1 5,s.c 1 6,s.c 1 7,s.c 1 8,s.c 1 9,s.c 1 10,s.c 1 11,s.c 1 12,s.c 1 13,s.c 1 14,s.c 1 15,s.c 1 16])],[]⟩) (fun(n:Nat)=>n≤w.workers.length∧vT w.workers n) (fun(n:Nat)=>w.workers.length - n) (0) [some 1] [] ⟨rfl,⟨rfl,rfl,rfl,rfl,rfl,I⟩,⟨⟨rfl,⟨rfl,⟨rfl,⟨rfl,⟨rfl,⟨rfl,⟨rfl,⟨rfl,⟨rfl,⟨rfl,⟨rfl,⟨rfl,⟨rfl,⟨rfl,⟨rfl,⟨rfl,⟨rfl,⟨rfl,I⟩⟩⟩⟩⟩⟩⟩⟩⟩⟩⟩⟩⟩⟩⟩⟩⟩⟩,I⟩,I⟩ ?_ ?_
 ·exact⟨Nat.zero_le _,uQ _⟩
 rintro n ⟨hn,hc⟩
 by_cases hn2:n < w.workers.length
 ·obtain⟨x,hx⟩:=aj hn2
  have hxi:=l5 x (List.mem_of_getElem? hx)
  have cw:=dN x OM
  by_cases hk:ar x
  ·rw[decide_eq_true hk]at cw
   conv=>whnf
   refine g 0 0 []<|J UA<|W.sq<|W.cn<|J (fun _=>(W.skip (W.sq (W.blk (g 34 38 [.x (au x)]<|J ⟨I,Zdj,I,I,I,UK,I⟩ (g 38 47 [.call VT [[]],BF,BF,BF,BF,.i ((n:Int) +1),BF,BF]<|J ⟨I,Zdc,I,I,Zde,Zde,Zde,⟨rfl,wO⟩,Zde,rfl,I⟩ (W.cn<|J (fun h5=>?_) fun h5=>?_))))))) (noF SI)
   replace h5:=ndt h5
   refine g 3 4 []<|J UA<|RT ?_
   rotate_left
   replace h5:=ndf h5
   refine W.skip<|rg [.i ((n:Int) +1)]<|J Zdm ?_
   rotate_left
   all_goals try (exact vbf (fun q=>by have:=(q.crew n x hn2 hx).num;omega))
   refine⟨n+1,[some 1],[],⟨rfl,Za8,Zet,I⟩,?_,?_⟩
   rotate_left
   (dsimp only;omega)
   dsimp only
   exact⟨by omega,uR hc hx ⟨hk,by omega⟩⟩
  ·rw[decide_eq_false hk]at cw
   conv=>whnf
   refine g 0 0 []<|J UA<|W.sq<|W.cn<|J (fun _=>(W.skip (W.sq (W.blk (g 34 38 [.x (au x)]<|J ⟨I,Zdj,I,I,I,UK,I⟩ (g 38 47 [.call VF [[]],BT,BT,BT,BT,BT,BT]<|J ⟨I,Zdc,I,I,rfl,rfl,rfl,rfl,rfl,rfl,I⟩ (W.cn<|J (fun _=>(g 3 4 []<|J UA (RT ?_))) (noF rfl)))))))) (noF SI)
   exact vbf (fun q=>hk (q.crew n x hn2 hx).ok)
 obtain rfl:n = w.workers.length:=by omega
 conv=>whnf
 refine g 0 0 []<|J UA<|W.sq<|W.cn<|J (noT SI) fun _=>W.exit<|W.sq<|g 31 50 []<|J UD<|W.blk<|W.lp (fun s (n:Nat)=>⟨[(1,s.s 1),(10,s.s 10),(50,s.s 50),(51,s.s 51),(52,.i n)],[(1,[s.c 1 0,s.c 1 1,s.c 1 2,s.c 1 3,s.c 1 4,s.c 1 5,s.c 1 6,s.c 1 7,s.c 1 8,s.c 1 9,s.c 1 10,s.c 1 11,s.c 1 12,s.c 1 13,s.c 1 14,s.c 1 15,s.c 1 16])],[]⟩) (fun(n:Nat)=>n≤w.flight.length∧∀ x∈w.flight.take n,ParOk x) (fun(n:Nat)=>w.flight.length - n) (0) [some 1] [] ⟨rfl,Za8,Zet,I⟩ (by simp) ?_
 rintro n ⟨hn3,hc3⟩
 by_cases hn4:n < w.flight.length
 ·obtain⟨x,hx⟩:=aj hn4
  obtain⟨hxs,hxb⟩:=l7 x (List.mem_of_getElem? hx)
  by_cases hA:0≤x.kind∧x.kind≤8
  ·by_cases hB:x.frm.size≤500
   ·by_cases hC:x.text.size≤500
    ·conv=>whnf
     refine g 0 0 []<|J UA<|W.sq<|W.cn<|J (fun _=>(W.skip (W.sq (W.blk (g 53 56 [.x (bb x)]<|J Zcn (g 56 71 [.call (V.b (decide (0≤x.kind∧x.kind≤8))) [[],[],[]],BF,BF,BF,BF,BF,BF,BF,BF,BF,BF]<|J ⟨I,I,⟨UC,I,UU,UA,ac _ _ _⟩,I,I,⟨nO,I⟩,⟨nO,I⟩,⟨nO,I⟩,⟨nO,I⟩,nO,I,⟨dO,I⟩,⟨dO,I⟩,⟨dO,I⟩,⟨dO,I⟩,dO,I⟩ (W.cn<|J (noT dO) fun _=>(W.skip (rg [.i ((n:Int) +1)]<|J Zdm ?_))))))))) (noF SI)
     refine⟨n+1,[some 1],[],⟨rfl,Za8,Zet,I⟩,?_,?_⟩
     rotate_left
     (dsimp only;omega)
     dsimp only
     exact⟨by omega,dI hc3 hx ⟨hA,hB,hC⟩⟩
    ·conv=>whnf
     refine g 0 0 []<|J UA<|W.sq<|W.cn<|J (fun _=>(W.skip (W.sq (W.blk (g 53 56 [.x (bb x)]<|J Zcn (g 56 71 [.call (V.b (decide (0≤x.kind∧x.kind≤8))) [[],[],[]],BF,BF,BF,BF,BF,BF,BF,BF,BF,BF]<|J ⟨I,I,⟨UC,I,UU,UA,ac _ _ _⟩,I,I,⟨nO,I⟩,⟨nO,I⟩,⟨nO,I⟩,⟨nO,I⟩,nO,I,⟨dO,I⟩,⟨dO,I⟩,⟨dO,I⟩,⟨dO,I⟩,dO,I⟩ (W.cn<|J (fun _=>(g 6 7 []<|J UA (RT ?_))) (noF tO)))))))) (noF SI)
     exact vbf (fun q=>hC (q.par x (List.mem_of_getElem? hx)).bytes)
   ·conv=>whnf
    refine g 0 0 []<|J UA<|W.sq<|W.cn<|J (fun _=>(W.skip (W.sq (W.blk (g 53 56 [.x (bb x)]<|J Zcn (g 56 71 [.call (V.b (decide (0≤x.kind∧x.kind≤8))) [[],[],[]],BF,BF,BF,BF,BF,BT,BT,BT,BT,BT]<|J ⟨I,I,⟨UC,I,UU,UA,ac _ _ _⟩,I,I,⟨nO,I⟩,⟨nO,I⟩,⟨nO,I⟩,⟨nO,I⟩,nO,I,tO,tO,tO,tO,tO,I⟩ (W.cn<|J (fun _=>(g 6 7 []<|J UA (RT ?_))) (noF rfl)))))))) (noF SI)
    exact vbf (fun q=>hB (q.par x (List.mem_of_getElem? hx)).sent)
  ·conv=>whnf
   refine g 0 0 []<|J UA<|W.sq<|W.cn<|J (fun _=>(W.skip (W.sq (W.blk (g 53 56 [.x (bb x)]<|J Zcn (g 56 71 [.call (V.b (decide (0≤x.kind∧x.kind≤8))) [[],[],[]],BT,BT,BT,BT,BT,BT,BT,BT,BT,BT]<|J ⟨I,I,⟨UC,I,UU,UA,ac _ _ _⟩,I,I,af OM,af OM,af OM,af OM,af OM,I,rfl,rfl,rfl,rfl,rfl,I⟩ (W.cn<|J (fun _=>(g 6 7 []<|J UA (RT ?_))) (noF rfl)))))))) (noF SI)
   exact vbf (fun q=>hA (q.par x (List.mem_of_getElem? hx)).to)
 have hpar:∀ x∈w.flight,ParOk x:=by rw[bF OM]at hc3;exact hc3
 by_cases hb:BossOk w.boss w.plan
 ·rw[decide_eq_true hb]at cb
  conv=>whnf
  refine g 0 0 []<|J UA<|W.sq<|W.cn<|J (noT SI) fun _=>W.exit<|g 10 87 [.call VT [[],[]],BT,BT,BT,BT,BT,BT,BT,BT]<|J ⟨I,I,I,I,Zat,I,Zde,Zde,Zde,Zde,Zde,Zde,Zde,rfl,I,I⟩<|RT ?_
  by_cases hs:w.boss.workers = w.workers.length
  ·simp only[List.length_map]
   rw[decide_eq_true hs]
   exact vbt ⟨by omega,by omega,by omega,by omega,hc,hpar,hb,hs⟩
  ·simp only[List.length_map]
   rw[decide_eq_false hs]
   exact vbf (fun q=>hs q.same)
 ·rw[decide_eq_false hb]at cb
  conv=>whnf
  refine g 0 0 []<|J UA<|W.sq<|W.cn<|J (noT SI) fun _=>W.exit<|g 10 87 [.call VF [[],[]],BF,BF,BF,BF,BF,BF,BF,BF]<|J ⟨I,I,I,I,Zat,I,rfl,rfl,rfl,rfl,rfl,rfl,rfl,rfl,I,I⟩<|RT ?_
  exact vbf (fun q=>hb q.boss)
theorem jH(w:World)(h:WorldLim w):F qX [.val (rY w)] (.b (decide (WorldOk w))) [[]]:=by
 obtain⟨l1,l2,l3,l4,l5,l6,l7⟩:=h
 have cp:=bN w.plan l1
 have cb:=nZ w.boss w.plan l1 l2
 refine rk ?_
 conv=>whnf
 refine g 0 1 []<|J Zd8<|W.sq ?_
 by_cases h1:ah (Plan.tasks (World.plan w)) = (0:Int)
 by_cases h2:(30:Int) < (↑(ByteArray.size (World.key w)):Int)
 refine g 11 28 [.call (V.i (ah w.plan.tasks)) [[]],BF,BF,BF,BF,BF,BT,BT,BT,BT,BT,BT,BT,BT,BT,BT,BT]<|J ⟨I,I,Zai,I,I,⟨nO,I⟩,⟨nO,I⟩,⟨nO,I⟩,⟨nO,I⟩,nO,I,tO,tO,tO,tO,tO,tO,I,rfl,rfl,rfl,rfl,rfl,I⟩<|W.cn<|J (fun _=>(g 8 10 []<|J UA (RT ?_))) (noF rfl)
 rotate_left
 by_cases h3:(1:Int)≤(↑(List.length (List.map au (World.workers w))):Int)∧(↑(List.length (List.map au (World.workers w))):Int)≤(8:Int)
 simp only[LM]at h3
 refine g 11 28 [.call (V.i (ah w.plan.tasks)) [[]],BF,BF,BF,BF,BF,BF,BF,BF,BF,.call (V.b (decide (1≤(↑(List.length (List.map au w.workers)):Int)∧(↑(List.length (List.map au w.workers)):Int)≤8))) [[],[],[]],BF,BF,BF,BF,BF,BF,BF]<|J ⟨I,I,Zai,I,I,⟨nO,I⟩,⟨nO,I⟩,⟨nO,I⟩,⟨nO,I⟩,nO,I,⟨dO,I⟩,⟨dO,I⟩,⟨dO,I⟩,⟨dO,UC,I,UU,UA,ag _ _ _⟩,⟨dO,I⟩,dO,I,⟨SI,I⟩,⟨SI,I⟩,⟨SI,I⟩,⟨SI,I⟩,SI,I⟩<|W.cn<|J (fun h4=>?_) fun h4=>?_
 replace h4:=dt h4
 simp only[LM]at h4
 refine g 8 10 []<|J UA<|RT ?_
 rotate_left
 replace h4:=df h4
 simp only[LM]at h4
 refine W.skip<|W.sq<|g 8 10 []<|J UA<|W.blk ?_
 rotate_left
 simp only[LM]at h3
 refine g 11 28 [.call (V.i (ah w.plan.tasks)) [[]],BF,BF,BF,BF,BF,BF,BF,BF,BF,.call (V.b (decide (1≤(↑(List.length (List.map au w.workers)):Int)∧(↑(List.length (List.map au w.workers)):Int)≤8))) [[],[],[]],BF,BF,BT,BT,BT,BT,BT]<|J ⟨I,I,Zai,I,I,⟨nO,I⟩,⟨nO,I⟩,⟨nO,I⟩,⟨nO,I⟩,nO,I,⟨dO,I⟩,⟨dO,I⟩,⟨dO,I⟩,⟨dO,UC,I,UU,UA,ag _ _ _⟩,⟨dO,I⟩,dO,I,SI,SI,SI,SI,SI,I⟩<|W.cn<|J (fun _=>(g 8 10 []<|J UA (RT ?_))) (noF rfl)
 rotate_left
 refine g 11 28 [.call (V.i (ah w.plan.tasks)) [[]],BT,BT,BT,BT,BT,BT,BT,BT,BT,BT,BT,BT,BT,BT,BT,BT]<|J ⟨I,I,Zai,I,I,af OM,af OM,af OM,af OM,af OM,I,rfl,rfl,rfl,rfl,rfl,rfl,I,rfl,rfl,rfl,rfl,rfl,I⟩<|W.cn<|J (fun _=>(g 8 10 []<|J UA (RT ?_))) (noF rfl)
 rotate_left
 all_goals try (exact vbf (fun q=>by have e1:=q.plan;have e2:=q.key;have e3:=q.wl;have e4:=q.fl;omega))
 refine W.lp (fun s (n:Nat)=>⟨[(1,s.s 1),(3,.i n),(7,s.s 7),(10,s.s 10)],[(1,[s.c 1 0,s.c 1 1,s.c 1 2,s.c 1 3,s.c 1 4,s.c 1 5,s.c 1 6,s.c 1 7,s.c 1 8,s.c 1 9,s.c 1 10,s.c 1 11,s.c 1 12,s.c 1 13,s.c 1 14,s.c 1 15,s.c 1 16])],[]⟩) (fun(n:Nat)=>n≤w.workers.length∧vT w.workers n) (fun(n:Nat)=>w.workers.length - n) (0) [some 1] [] ⟨rfl,⟨rfl,rfl,⟨_,rfl,_,_,rfl,rfl,rfl⟩,rfl,I⟩,⟨⟨rfl,⟨rfl,⟨rfl,⟨rfl,⟨rfl,⟨rfl,⟨rfl,⟨rfl,⟨rfl,⟨rfl,⟨rfl,⟨rfl,⟨rfl,⟨rfl,⟨rfl,⟨rfl,⟨rfl,⟨rfl,I⟩⟩⟩⟩⟩⟩⟩⟩⟩⟩⟩⟩⟩⟩⟩⟩⟩⟩,I⟩,I⟩ ?_ ?_
 ·exact⟨Nat.zero_le _,uQ _⟩
 rintro n ⟨hn,hc⟩
 by_cases hn2:n < w.workers.length
 ·obtain⟨x,hx⟩:=aj hn2
  have hxi:=l5 x (List.mem_of_getElem? hx)
  have cw:=aq x OM
  by_cases hk:ar x
  ·rw[decide_eq_true hk]at cw
   conv=>whnf
   refine W.sq<|g 29 33 []<|J UE<|W.cn<|J (fun _=>(W.skip (W.sq (W.blk (g 33 53 [.x (au x),.call VT [[]],BF,BF,BF,BF,.x (au x),BF,BF,BF,BF,.i ((n:Int) +1),BF,BF]<|J ⟨I,I,I,Zdj,I,Zdc,I,I,Zde,Zde,Zde,⟨rfl,OM,xA⟩,Zde,Zde,Zde,⟨rfl,wO⟩,Zde,rfl,I⟩ (W.cn<|J (fun h5=>?_) fun h5=>?_)))))) (noF SI)
   replace h5:=ndt h5
   refine g 53 54 []<|J UA<|RT ?_
   rotate_left
   replace h5:=ndf h5
   refine W.skip<|rg [.i ((n:Int) +1)]<|J Zdf ?_
   rotate_left
   all_goals try (exact vbf (fun q=>by have:=(q.crew n x hn2 hx).num;omega))
   refine⟨n+1,[some 1],[],⟨rfl,⟨rfl,rfl,Zag,rfl,I⟩,Zet,I⟩,?_,?_⟩
   rotate_left
   (dsimp only;omega)
   dsimp only
   exact⟨by omega,uR hc hx ⟨hk,by omega⟩⟩
  ·rw[decide_eq_false hk]at cw
   conv=>whnf
   refine W.sq<|g 29 33 []<|J UE<|W.cn<|J (fun _=>(W.skip (W.sq (W.blk (g 33 53 [.x (au x),.call VF [[]],BT,BT,BT,BT,BT,BT,BT,BT,BT,BT]<|J ⟨I,I,I,Zdj,I,Zdc,I,I,rfl,rfl,rfl,rfl,rfl,rfl,rfl,rfl,rfl,rfl,I⟩ (W.cn<|J (fun _=>(g 53 54 []<|J UA (RT ?_))) (noF rfl))))))) (noF SI)
   exact vbf (fun q=>hk (q.crew n x hn2 hx).ok)
 obtain rfl:n = w.workers.length:=by omega
 conv=>whnf
 refine W.sq<|g 29 33 []<|J UE<|W.cn<|J (noT SI) fun _=>W.exit<|W.sq<|g 3 4 []<|J UA<|W.blk<|W.lp (fun s (n:Nat)=>⟨[(1,s.s 1),(4,.i n),(7,s.s 7),(10,s.s 10)],[(1,[s.c 1 0,s.c 1 1,s.c 1 2,s.c 1 3,s.c 1 4,s.c 1 5,s.c 1 6,s.c 1 7,s.c 1 8,s.c 1 9,s.c 1 10,s.c 1 11,s.c 1 12,s.c 1 13,s.c 1 14,s.c 1 15,s.c 1 16])],[]⟩) (fun(n:Nat)=>n≤w.flight.length∧∀ x∈w.flight.take n,ParOk x) (fun(n:Nat)=>w.flight.length - n) (0) [some 1] [] ⟨rfl,⟨rfl,rfl,Zag,rfl,I⟩,Zet,I⟩ (by simp) ?_
 rintro n ⟨hn3,hc3⟩
 by_cases hn4:n < w.flight.length
 ·obtain⟨x,hx⟩:=aj hn4
  obtain⟨hxs,hxb⟩:=l7 x (List.mem_of_getElem? hx)
  by_cases hA:0≤x.kind∧x.kind≤8
  ·by_cases hB:x.frm.size≤500
   ·by_cases hC:x.text.size≤500
    ·conv=>whnf
     refine W.sq<|g 54 58 []<|J UE<|W.cn<|J (fun _=>(W.skip (W.sq (W.blk (g 58 66 [.x (bb x)]<|J Zbf (g 66 81 [.call (V.b (decide (0≤x.kind∧x.kind≤8))) [[],[],[]],BF,BF,BF,BF,BF,BF,BF,BF,BF,BF]<|J ⟨I,I,⟨UC,I,UU,UA,ag _ _ _⟩,I,I,⟨nO,I⟩,⟨nO,I⟩,⟨nO,I⟩,⟨nO,I⟩,nO,I,⟨dO,I⟩,⟨dO,I⟩,⟨dO,I⟩,⟨dO,I⟩,dO,I⟩ (W.cn<|J (noT dO) fun _=>(W.skip (rg [.i ((n:Int) +1)]<|J Zdf ?_))))))))) (noF SI)
     refine⟨n+1,[some 1],[],⟨rfl,⟨rfl,rfl,Zag,rfl,I⟩,Zet,I⟩,?_,?_⟩
     rotate_left
     (dsimp only;omega)
     dsimp only
     exact⟨by omega,dI hc3 hx ⟨hA,hB,hC⟩⟩
    ·conv=>whnf
     refine W.sq<|g 54 58 []<|J UE<|W.cn<|J (fun _=>(W.skip (W.sq (W.blk (g 58 66 [.x (bb x)]<|J Zbf (g 66 81 [.call (V.b (decide (0≤x.kind∧x.kind≤8))) [[],[],[]],BF,BF,BF,BF,BF,BF,BF,BF,BF,BF]<|J ⟨I,I,⟨UC,I,UU,UA,ag _ _ _⟩,I,I,⟨nO,I⟩,⟨nO,I⟩,⟨nO,I⟩,⟨nO,I⟩,nO,I,⟨dO,I⟩,⟨dO,I⟩,⟨dO,I⟩,⟨dO,I⟩,dO,I⟩ (W.cn<|J (fun _=>(g 5 6 []<|J UA (RT ?_))) (noF tO)))))))) (noF SI)
     exact vbf (fun q=>hC (q.par x (List.mem_of_getElem? hx)).bytes)
   ·conv=>whnf
    refine W.sq<|g 54 58 []<|J UE<|W.cn<|J (fun _=>(W.skip (W.sq (W.blk (g 58 66 [.x (bb x)]<|J Zbf (g 66 81 [.call (V.b (decide (0≤x.kind∧x.kind≤8))) [[],[],[]],BF,BF,BF,BF,BF,BT,BT,BT,BT,BT]<|J ⟨I,I,⟨UC,I,UU,UA,ag _ _ _⟩,I,I,⟨nO,I⟩,⟨nO,I⟩,⟨nO,I⟩,⟨nO,I⟩,nO,I,tO,tO,tO,tO,tO,I⟩ (W.cn<|J (fun _=>(g 5 6 []<|J UA (RT ?_))) (noF rfl)))))))) (noF SI)
    exact vbf (fun q=>hB (q.par x (List.mem_of_getElem? hx)).sent)
  ·conv=>whnf
   refine W.sq<|g 54 58 []<|J UE<|W.cn<|J (fun _=>(W.skip (W.sq (W.blk (g 58 66 [.x (bb x)]<|J Zbf (g 66 81 [.call (V.b (decide (0≤x.kind∧x.kind≤8))) [[],[],[]],BT,BT,BT,BT,BT,BT,BT,BT,BT,BT]<|J ⟨I,I,⟨UC,I,UU,UA,ag _ _ _⟩,I,I,af OM,af OM,af OM,af OM,af OM,I,rfl,rfl,rfl,rfl,rfl,I⟩ (W.cn<|J (fun _=>(g 5 6 []<|J UA (RT ?_))) (noF rfl)))))))) (noF SI)
   exact vbf (fun q=>hA (q.par x (List.mem_of_getElem? hx)).to)
 have hpar:∀ x∈w.flight,ParOk x:=by rw[bF OM]at hc3;exact hc3
 by_cases hs:w.boss.workers = w.workers.length
 ·by_cases hb:BossOk w.boss w.plan
  ·rw[decide_eq_true hb]at cb
   conv=>whnf
   refine W.sq<|g 54 58 []<|J UE<|W.cn<|J (noT SI) fun _=>W.exit<|g 7 96 [BT,BT,BT,BT,BT,.call VT [[],[]],BT]<|J ⟨I,I,I,I,I,I,I,I,⟨SI,I⟩,⟨SI,I⟩,⟨SI,I⟩,⟨SI,I⟩,⟨SI,UB,I,⟨UL,UA,I⟩,UA,AS⟩,SI,I,I⟩<|RT ?_
   exact vbt ⟨by omega,by omega,by omega,by omega,hc,hpar,hb,hs⟩
  ·rw[decide_eq_false hb]at cb
   conv=>whnf
   refine W.sq<|g 54 58 []<|J UE<|W.cn<|J (noT SI) fun _=>W.exit<|g 7 96 [BT,BT,BT,BT,BT,.call VF [[],[]],BT]<|J ⟨I,I,I,I,I,I,I,I,⟨SI,I⟩,⟨SI,I⟩,⟨SI,I⟩,⟨SI,I⟩,⟨SI,UB,I,⟨UL,UA,I⟩,UA,AS⟩,SI,I,I⟩<|RT ?_
   exact vbf (fun q=>hb q.boss)
 ·conv=>whnf
  refine W.sq<|g 54 58 []<|J UE<|W.cn<|J (noT SI) fun _=>W.exit<|g 7 96 [BF,BF,BF,BF,BF,BF]<|J ⟨I,I,I,I,I,I,I,I,SI,SI,SI,SI,SI,SI,I,I⟩<|RT ?_
  exact vbf (fun q=>hs q.same)
end Go.K
end
section
open Go Go.Tm Go.Proofs
namespace Go.K
structure FinOk (w:World):Prop where
 ok:WorldOk w
 up:w.boss.up = true
 all:∀ r∈w.boss.results,¬r = emp
noncomputable instance (w:World):Decidable (FinOk w):=Classical.propDecidable _
end Go.K
end
section
open Go Go.Tm Go.Proofs
namespace Go.K
structure Inv (L:Nat) (t:Tale) (ys:List ByteArray):Prop where
 len:t.results.length = L
 fwd:∀ s∈ys,∃ e,dy s = some e∧(¬e.kind = 1→e.kind = 2∧0≤e.task∧e.task < L∧atS t.results e.task = e.text∧¬e.text = emp)
 back:∀ i:Nat,¬atS t.results (i:Int) = emp→∃ s∈ys,∃ e,dy s = some e∧¬e.kind = 1∧e.task = (i:Int)∧e.text = atS t.results (i:Int)
theorem uo{rs:List ByteArray}{k:Int}{v:ByteArray}(h0:0≤k)(h:k < rs.length):atS (rs.set k.toNat v) k = v:=by
 unfold atS;rw[List.getElem?_set_self OM];rfl
theorem ln{rs:List ByteArray}{k j:Int}{v:ByteArray}(h0:0≤k)(hj:0≤j)(h:¬j = k):atS (rs.set k.toNat v) j = atS rs j:=by
 unfold atS;rw[List.getElem?_set_ne OM]
theorem L4{ts:List Task}{t u:Tale}{s:ByteArray}{ys:List ByteArray}(hi:Inv ts.length t ys)(h:cY ts t s = some u):Inv ts.length u (ys++ [s]):=by
 obtain⟨i1,i2,i3⟩:=hi
 unfold cY at h
 cases he:dy s with
 |none=>rw[he]at h;cases h
 |some e =>
  rw[he]at h
  have hok:=fT he
  obtain⟨o1,o2,o3⟩:=hok
  simp only at h
  by_cases hk:e.kind = 1
  ·rw[if_pos hk]at h
   split at h
   ·cases h
    refine⟨i1,fun s' hs'=>?_,fun i hi=>?_⟩
    ·rcases List.mem_append.1 hs' with hs'|hs'
     ·exact i2 s' hs'
     ·rw[List.mem_singleton.1 hs'];exact⟨e,he,fun q=>absurd hk q⟩
    ·obtain⟨s',hs',q⟩:=i3 i hi
     exact⟨s',List.mem_append_left _ hs',q⟩
   ·cases h
  ·rw[if_neg hk]at h
   split at h
   ·rename_i hc
    cases h
    obtain⟨_,c2,c3,_⟩:=hc
    have hlt:e.task < (t.results.length:Int):=by omega
    have h8:e.kind = 2∧(e.text.size:Int) = 8:=by
     rcases o3 with q|q
     ·exact absurd q.1 hk
     ·exact q
    have hne:¬e.text = emp:=fun q=>by have:=h8.2;rw[q]at this;cases this
    have c4:atS t.results e.task = emp:=c3
    refine⟨by rw[List.length_set];exact i1,fun s' hs'=>?_,fun i hi=>?_⟩
    ·rcases List.mem_append.1 hs' with hs'|hs'
     ·obtain⟨e',h1,h2⟩:=i2 s' hs'
      refine⟨e',h1,fun q=>?_⟩
      obtain⟨g0,g1,g2,g3,g4⟩:=h2 q
      have hd:¬e'.task = e.task:=fun w=>by rw[w,c4]at g3;exact g4 g3.symm
      exact⟨g0,g1,g2,by rw[ln o2.1 g1 hd];exact g3,g4⟩
     ·rw[List.mem_singleton.1 hs']
      exact⟨e,he,fun _=>⟨h8.1,o2.1,c2,uo o2.1 hlt,hne⟩⟩
    ·by_cases hd:(i:Int) = e.task
     ·refine⟨s,List.mem_append_right _ (List.mem_singleton.2 rfl),e,he,hk,hd.symm,?_⟩
      rw[hd,uo o2.1 hlt]
     ·rw[ln o2.1 OM hd]at hi ⊢
      obtain⟨s',hs',q⟩:=i3 i hi
      exact⟨s',List.mem_append_left _ hs',q⟩
   ·cases h
theorem H3{ts:List Task}:∀ {l:List ByteArray} {t u:Tale} {ys:List ByteArray},Inv ts.length t ys→iw ts (some t) l = some u→Inv ts.length u (ys++l)
 |[],t,u,ys,hi,h=>by rw[jz]at h;cases h;rw[List.append_nil];exact hi
 |s :: l,t,u,ys,hi,h=>by
  rw[og]at h
  cases hs:cY ts t s with
  |none=>rw[hs,fS]at h;cases h
  |some v =>
   rw[hs]at h
   have:=H3 (L4 hi hs) h
   rw[List.append_assoc]at this;exact this
theorem Rz(n:Nat)(k:Int):atS (List.replicate n emp) k = emp:=by
 unfold atS;rw[List.getElem?_replicate];split <;> rfl
theorem L3(ts:List Task):Inv ts.length (kS ts) []:=⟨by rw[kS,List.length_replicate],fun s hs=>(by cases hs),fun i hi=>absurd (Rz _ _) hi⟩
theorem tU{p:Plan}{xs:List ByteArray}(h:(am p xs).code = 0):Inv p.tasks.length ⟨(am p xs).epoch,(am p xs).results⟩ xs:=by
 obtain⟨_,_,_,t,h1,h2⟩:=bL h
 have:=H3 (L3 p.tasks) h1
 rw[h2];exact this
def told(xs ts:List ByteArray)(n i:Nat):Prop:=∃ (m:Nat) (s:ByteArray) (e:Entry),m < n∧xs[m]? = some s∧dy s = some e∧¬e.kind = 1∧e.task = (i:Int)∧¬e.text = atS ts (i:Int)
end Go.K
end
section
open Go Go.Tm Go.Proofs
namespace Go.K
def mw(w:Int)(j:Job):Job:=if j.worker = w then ga else j
def ng(l t:Int)(j:Job):Job:=if j.lease = l then⟨j.lease,j.worker,t⟩else j
def fG(m:Message):Nat:=(m.frm - 1).toNat
def rF(b:Boss)(m:Message):Prop:=m.epoch < (lx b.seats (fG m)).epoch
instance (b:Boss) (m:Message):Decidable (rF b m):=by unfold rF;infer_instance
def gb(b:Boss)(m:Message):Boss:=if rF b m then b else⟨b.workers,b.up,b.now,b.since,b.epoch,b.given,b.log,b.results,b.jobs,b.seats.set (fG m) ⟨true,m.epoch⟩,b.owed⟩
def qE(b:Boss)(m:Message):Boss:=if rF b m then b else⟨b.workers,b.up,b.now,b.since,b.epoch,b.given,b.log,b.results,b.jobs.map (mw m.frm),b.seats.set (fG m) ⟨true,m.epoch⟩,b.owed⟩
def Ot(b:Boss)(m:Message):Boss:=⟨b.workers,b.up,b.now,b.since,b.epoch,b.given,b.log,b.results,b.jobs.map (ng m.lease (b.now+12)),b.seats,b.owed⟩
structure CanPut (b:Boss) (ts:List Task) (m:Message):Prop where
 res:atS b.results m.task = emp
 ready:cu b.results (iv ts m.task.toNat)
 room:b.log.safe.length+b.log.loose.length < 310
noncomputable instance (b:Boss) (ts:List Task) (m:Message):Decidable (CanPut b ts m):=Classical.propDecidable _
def mc(b:Boss)(m:Message):Boss:=⟨b.workers,b.up,b.now,b.since,b.epoch,b.given,⟨b.log.safe,b.log.loose++ [cq ⟨2,b.epoch,m.task,m.text⟩]⟩,b.results.set m.task.toNat m.text,b.jobs.set m.task.toNat ga,b.seats,b.owed⟩
noncomputable def jX(b:Boss)(ts:List Task)(m:Message):Boss:=if CanPut b ts m then mc b m else b
def rD(b:Boss)(m:Message):Boss:=if atS b.results m.task = emp then gb b m else b
structure Owes (b:Boss) (m:Message):Prop where
 same:atS b.results m.task = m.text
 room:b.owed.length < 2000
 new:∀ o∈b.owed,¬(o.worker = m.frm∧o.lease = m.lease)
noncomputable instance (b:Boss) (m:Message):Decidable (Owes b m):=Classical.propDecidable _
noncomputable def uA(b:Boss)(m:Message):Boss:=if Owes b m then⟨b.workers,b.up,b.now,b.since,b.epoch,b.given,b.log,b.results,b.jobs,b.seats,b.owed++ [⟨m.frm,m.lease,m.task⟩]⟩else b
noncomputable def du(b:Boss)(ts:List Task)(m:Message):Boss:=uA (rD (jX b ts m) m) m
structure ForB (b:Boss) (m:Message):Prop where
 up:b.up = true
 ok:bx m
 to:m.to = 0
 frm:m.frm≤b.workers
noncomputable instance (b:Boss) (m:Message):Decidable (ForB b m):=Classical.propDecidable _
noncomputable def ew(b:Boss)(ts:List Task)(m:Message):Boss :=
 if ForB b m then
  (if m.kind = 5 then qE b m else if m.kind = 2 then Ot b m else if m.kind = 3 then(if m.task < ts.length then du b ts m else b)else b)
 else b
theorem yu{b:Boss}{ts:List Task}{m:Message}(h:¬ForB b m):ew b ts m = b:=if_neg h
theorem kZ{b:Boss}{ts:List Task}{m:Message}(h:ForB b m)(hk:m.kind = 5):ew b ts m = qE b m:=by rw[ew,if_pos h,if_pos hk]
theorem lb{b:Boss}{ts:List Task}{m:Message}(h:ForB b m)(hk:m.kind = 2):ew b ts m = Ot b m:=by rw[ew,if_pos h,if_neg OM,if_pos hk]
theorem nN{b:Boss}{ts:List Task}{m:Message}(h:ForB b m)(hk:m.kind = 3)(ht:m.task < ts.length):ew b ts m = du b ts m:=by rw[ew,if_pos h,if_neg OM,if_neg OM,if_pos hk,if_pos ht]
theorem nP{b:Boss}{ts:List Task}{m:Message}(h:ForB b m)(hk:m.kind = 3)(ht:¬m.task < ts.length):ew b ts m = b:=by rw[ew,if_pos h,if_neg OM,if_neg OM,if_pos hk,if_neg ht]
theorem lK{b:Boss}{m:Message}(h:ForB b m):(m.kind = 2∨m.kind = 3∨m.kind = 5)∧(1≤m.frm∧m.frm≤8)∧(1≤m.epoch∧m.epoch≤300):=by
 obtain⟨h1,h2⟩:=h.ok
 have h0:=h.to
 rcases h2 with q|q|q|q|q
 ·have:=q.2.2.1;omega
 ·exact⟨.inl q.1,q.2.2.1,h1⟩
 ·exact⟨.inr (.inl q.1),q.2.2.1,h1⟩
 ·have:=q.2.2.1;omega
 ·exact⟨.inr (.inr q.1),q.2.2.1,h1⟩
theorem B5{b:Boss}{m:Message}(h:ForB b m)(hk:m.kind = 3):(1≤m.lease∧m.lease≤300000000)∧(0≤m.task∧m.task≤39)∧(m.text.size:Int) = 8:=by
 obtain⟨h1,h2⟩:=h.ok
 rcases h2 with q|q|q|q|q
 ·have:=q.1;omega
 ·have:=q.1;omega
 ·exact⟨q.2.2.2.1,q.2.2.2.2.1,q.2.2.2.2.2.1⟩
 ·have:=q.1;omega
 ·have:=q.1;omega
noncomputable def zS(b:Boss)(p:Plan)(m:Message):Led:=if BossOk b p then⟨ew b p.tasks m,[]⟩else Cs
theorem jC{b:Boss}{p:Plan}{m:Message}(h:BossOk b p):zS b p m = ⟨ew b p.tasks m,[]⟩:=if_pos h
end Go.K
end
section
open Go Go.Tm Go.Proofs
namespace Go.K
theorem Rl{ep now given workers:Int}{rs:List ByteArray}{ts:List Task}{js:List Job}{k:Int}{tx:ByteArray}(h:JL ep now given workers rs ts js)(h0:0≤k)(hk:k < rs.length)(hj:k < js.length)(ht:¬tx = emp):JL ep now given workers (rs.set k.toNat tx) ts (js.set k.toNat ga):=by
 have g:∀ {i:Nat} {x:Job},(js.set k.toNat ga)[i]? = some x→¬x.lease = 0→¬(i:Int) = k∧js[i]? = some x:=fun{i x} hx hz=>by
  by_cases e:i = k.toNat
  ·subst e
   rw[List.getElem?_set_self OM]at hx
   rw[←Option.some.inj hx]at hz;exact absurd rfl hz
  ·rw[List.getElem?_set_ne (fun q=>e q.symm)]at hx
   exact⟨by omega,hx⟩
 have hat:∀ i:Int,0≤i→¬i = k→atS (rs.set k.toNat tx) i = atS rs i:=fun i hi e=>ln h0 hi e
 refine⟨fun i x hx hz=>?_,fun i x hx hz=>h.lease i x (g hx hz).2 hz,fun i x hx hz=>h.worker i x (g hx hz).2 hz,fun i x hx hz=>h.til i x (g hx hz).2 hz,fun i x hx hz=>?_,fun i x hx hz=>?_,fun i m x y him hx hy hz e=>?_⟩
 ·by_cases e:i = k.toNat
  ·subst e
   rw[List.getElem?_set_self OM]at hx
   rw[←Option.some.inj hx];exact⟨rfl,rfl⟩
  ·rw[List.getElem?_set_ne (fun q=>e q.symm)]at hx
   exact h.zero i x hx hz
 ·rw[hat i OM (g hx hz).1];exact h.res i x (g hx hz).2 hz
 ·intro d hd q
  have hr:=h.ready i x (g hx hz).2 hz d hd
  by_cases e:d.toNat = k.toNat
  ·rw[e,List.getElem?_set_self OM]at q;exact ht q
  ·rw[List.getElem?_set_ne (fun w=>e w.symm)]at q;exact hr q
 ·have hzx:¬x.lease = 0:=fun w=>hz (by rw[←e];exact w)
  exact h.once i m x y him (g hx hzx).2 (g hy hz).2 hz e
theorem GD{b:Boss}{p:Plan}{m:Message}(hv:BossOk b p)(hup:b.up = true)(he:1≤m.epoch∧m.epoch≤300):BossOk (gb b m) p:=by
 unfold gb;split
 ·exact hv
 ·obtain⟨u1,u2,u3,u4,u5,u6,u7,u9,u11,u12,u13,u14⟩:=hv.up hup
  refine⟨hv.plan,hv.workers,hv.now,hv.code,fun _=>?_,fun e=>by rw[show b.up = false from e]at hup;cases hup⟩
  refine⟨u1,u2,u3,u4,by show((b.seats.set _ _).length:Int) = _;rw[List.length_set];exact u5,u6,u7,u9,u11,zR (show JL b.epoch b.now b.given b.workers b.results p.tasks b.jobs from Cv u12),fun s hs=>?_,fun o ho=>by obtain⟨a1,a2,a3,a4⟩:=u14 o ho;exact⟨a1,a2,a3,a4⟩⟩
  rcases List.mem_or_eq_of_mem_set hs with hs|hs
  ·exact u13 s hs
  ·rw[hs];exact⟨by dsimp only;omega,by dsimp only;omega⟩
theorem Gz{b:Boss}{p:Plan}{m:Message}(hv:BossOk b p)(hup:b.up = true)(he:1≤m.epoch∧m.epoch≤300):BossOk (qE b m) p:=by
 unfold qE;split
 ·exact hv
 ·obtain⟨u1,u2,u3,u4,u5,u6,u7,u9,u11,u12,u13,u14⟩:=hv.up hup
  refine⟨hv.plan,hv.workers,hv.now,hv.code,fun _=>?_,fun e=>by rw[show b.up = false from e]at hup;cases hup⟩
  refine⟨u1,u2,u3,by show(b.jobs.map _).length = _;rw[List.length_map];exact u4,by show((b.seats.set _ _).length:Int) = _;rw[List.length_set];exact u5,u6,u7,u9,u11,zR (PD (Cv u12)),fun s hs=>?_,fun o ho=>by obtain⟨a1,a2,a3,a4⟩:=u14 o ho;exact⟨a1,a2,a3,a4⟩⟩
  rcases List.mem_or_eq_of_mem_set hs with hs|hs
  ·exact u13 s hs
  ·rw[hs];exact⟨by dsimp only;omega,by dsimp only;omega⟩
theorem GZ{b:Boss}{p:Plan}{m:Message}(hv:BossOk b p)(hup:b.up = true)(hl:1≤m.lease):BossOk (Ot b m) p:=by
 obtain⟨u1,u2,u3,u4,u5,u6,u7,u9,u11,u12,u13,u14⟩:=hv.up hup
 refine⟨hv.plan,hv.workers,hv.now,hv.code,fun _=>?_,fun e=>by rw[show b.up = false from e]at hup;cases hup⟩
 exact⟨u1,u2,u3,by show(b.jobs.map _).length = _;rw[List.length_map];exact u4,u5,u6,u7,u9,u11,zR (PE hl (Cv u12)),u13,fun o ho=>by obtain⟨a1,a2,a3,a4⟩:=u14 o ho;exact⟨a1,a2,a3,a4⟩⟩
theorem Gc{b:Boss}{p:Plan}{m:Message}(hv:BossOk b p)(hup:b.up = true)(ht:0≤m.task∧m.task < p.tasks.length)(hx:(m.text.size:Int) = 8):BossOk (jX b p.tasks m) p:=by
 unfold jX;split
 ·rename_i hp
  obtain⟨u1,u2,u3,u4,u5,u6,u7,u9,u11,u12,u13,u14⟩:=hv.up hup
  obtain⟨c1,c2,c3⟩:=hp
  have hne:¬m.text = emp:=fun q=>by rw[q]at hx;cases hx
  obtain⟨t,ht0⟩:=aj (xs:=p.tasks) (n:=m.task.toNat) OM
  rw[cJ ht0]at c2
  have hc:(am p (b.log.safe++b.log.loose)).code = 0:=hv.code
  have h3:=(eS hc).2
  have hpl:=(bP hv.plan).1
  have hok:Entry.ok ⟨2,b.epoch,m.task,m.text⟩:=⟨⟨u2,by show b.epoch≤300;rw[u1];exact h3⟩,⟨ht.1,by show m.task≤39;omega⟩,.inr ⟨rfl,hx⟩⟩
  have e:=CW (p:=p) (xs:=b.log.safe++b.log.loose) (e:=⟨2,b.epoch,m.task,m.text⟩) hc (by rw[List.length_append];exact c3) hok (by show ¬(2:Int) = 1;omega) u1 ht0 ht.2 (by rw[←show b.results = (am p (b.log.safe++b.log.loose)).results from u6];exact c1) (by rw[←show b.results = (am p (b.log.safe++b.log.loose)).results from u6];exact c2)
  have es:bU (mc b m) p = ⟨0,(bU b p).epoch,(bU b p).results.set m.task.toNat m.text⟩:=by
   show am p (b.log.safe++ (b.log.loose++ [cq _])) = _
   rw[←List.append_assoc,e];rfl
  refine⟨hv.plan,hv.workers,hv.now,by rw[es],fun _=>?_,fun e=>by rw[show b.up = false from e]at hup;cases hup⟩
  rw[es]
  refine⟨u1,u2,by show(b.results.set _ _).length = _;rw[List.length_set];exact u3,by show(b.jobs.set _ _).length = _;rw[List.length_set];exact u4,u5,by show b.results.set _ _ = _;rw[u6],u7,u9,u11,zR (Rl (Cv u12) ht.1 OM OM hne),u13,fun o ho=>?_⟩
  obtain⟨a1,a2,a3,a4⟩:=u14 o ho
  refine⟨a1,a2,a3,fun q=>?_⟩
  change atS (b.results.set m.task.toNat m.text) o.task = emp at q
  by_cases e:o.task = m.task
  ·rw[e,uo ht.1 OM]at q;exact hne q
  ·rw[ln ht.1 a3.1 e]at q;exact a4 q
 ·exact hv
theorem Ga{b:Boss}{p:Plan}{m:Message}(hv:BossOk b p)(hup:b.up = true)(hf:1≤m.frm∧m.frm≤b.workers)(hl:1≤m.lease∧m.lease≤300000000)(ht:0≤m.task∧m.task < p.tasks.length)(hx:(m.text.size:Int) = 8):BossOk (uA b m) p:=by
 unfold uA;split
 ·rename_i ho
  obtain⟨u1,u2,u3,u4,u5,u6,u7,u9,u11,u12,u13,u14⟩:=hv.up hup
  have hne:¬m.text = emp:=fun q=>by rw[q]at hx;cases hx
  have hr:=ho.room
  refine⟨hv.plan,hv.workers,hv.now,hv.code,fun _=>?_,fun e=>by rw[show b.up = false from e]at hup;cases hup⟩
  refine⟨u1,u2,u3,u4,u5,u6,u7,u9,by show(b.owed++ [_]).length≤2000;rw[List.length_append,List.length_singleton];omega,zR (show JL b.epoch b.now b.given b.workers b.results p.tasks b.jobs from Cv u12),u13,fun o ho2=>?_⟩
  rcases List.mem_append.1 ho2 with ho2|ho2
  ·obtain⟨a1,a2,a3,a4⟩:=u14 o ho2;exact⟨a1,a2,a3,a4⟩
  ·rw[List.mem_singleton.1 ho2]
   exact⟨hf,hl,⟨ht.1,by dsimp only;omega⟩,by show ¬atS b.results m.task = emp;rw[ho.same];exact hne⟩
 ·exact hv
theorem HB{b:Boss}{ts:List Task}{m:Message}:(jX b ts m).up = b.up∧(jX b ts m).workers = b.workers:=by unfold jX;split <;> exact⟨rfl,rfl⟩
theorem HA{b:Boss}{m:Message}:(rD b m).up = b.up∧(rD b m).workers = b.workers:=by
 unfold rD;split
 ·unfold gb;split <;> exact⟨rfl,rfl⟩
 ·exact⟨rfl,rfl⟩
theorem FS{b:Boss}{p:Plan}(m:Message)(hv:BossOk b p):BossOk (ew b p.tasks m) p:=by
 by_cases hf:ForB b m
 ·obtain⟨hkd,⟨f1,f2⟩,he⟩:=lK hf
  have hup:=hf.up
  rcases hkd with hk|hk|hk
  ·rw[lb hf hk]
   refine GZ hv hup ?_
   rcases hf.ok.2 with q|q|q|q|q
   ·have:=q.1;omega
   ·exact q.2.2.2.1.1
   ·have:=q.1;omega
   ·have:=q.1;omega
   ·have:=q.1;omega
  ·by_cases ht:m.task < p.tasks.length
   ·rw[nN hf hk ht]
    obtain⟨r1,⟨r2,_⟩,r4⟩:=B5 hf hk
    have v1:=Gc hv hup ⟨r2,ht⟩ r4
    obtain⟨w1,w2⟩:=HB (b:=b) (ts:=p.tasks) (m:=m)
    have v2:BossOk (rD (jX b p.tasks m) m) p:=by
     unfold rD;split
     ·exact GD v1 (by rw[w1];exact hup) he
     ·exact v1
    obtain⟨w3,w4⟩:=HA (b:=jX b p.tasks m) (m:=m)
    exact Ga v2 (by rw[w3,w1];exact hup) ⟨f1,by rw[w4,w2];exact hf.frm⟩ r1 ⟨r2,ht⟩ r4
   ·rw[nP hf hk ht];exact hv
  ·rw[kZ hf hk];exact Gz hv hup he
 ·rw[yu hf];exact hv
end Go.K
end
section
open Go Go.Tm Go.Proofs
namespace Go.K
def bK(w:Worker)(ts:List Task)(m:Message):Prop:=m.kind = 1∧(∃ t,ts[m.task.toNat]? = some t∧m.inputs.length = t.deps.length)∧(w.state = 0∨w.lease < m.lease)
def bQ(w:Worker)(m:Message):Prop:=m.kind = 4∧w.state = 2∧w.lease = m.lease
def kT(w:Worker)(m:Message):Prop:=w.up = true∧bx m∧m.to = w.number
def ja(ts:List Task)(k:Int):Int:=((ts[k.toNat]?).map Task.cost).getD 0
open Classical in
noncomputable def fE(w:Worker)(ts:List Task)(m:Message):Worker :=
 if kT w m then
  if bK w ts m then⟨w.number,w.epoch,true,1,m.lease,m.task,ja ts m.task,ja ts m.task,m.inputs,emp,0⟩
  else if bQ w m then⟨w.number,w.epoch,w.up,0,0,0,0,0,[],emp,3⟩else w
 else w
theorem ky{w:Worker}{ts:List Task}{m:Message}(h:¬kT w m):fE w ts m = w:=if_neg h
theorem lW{w:Worker}{ts:List Task}{m:Message}(h:kT w m)(h1:bK w ts m):fE w ts m = ⟨w.number,w.epoch,true,1,m.lease,m.task,ja ts m.task,ja ts m.task,m.inputs,emp,0⟩:=by rw[fE,if_pos h,if_pos h1]
theorem nl{w:Worker}{ts:List Task}{m:Message}(h:kT w m)(h1:bQ w m):fE w ts m = ⟨w.number,w.epoch,w.up,0,0,0,0,0,[],emp,3⟩:=by
 rw[fE,if_pos h,if_neg (fun q=>by have:=q.1;have:=h1.1;omega),if_pos h1]
theorem dk{w:Worker}{ts:List Task}{m:Message}(h1:¬bK w ts m)(h2:¬bQ w m):fE w ts m = w:=by
 by_cases h:kT w m
 ·rw[fE,if_pos h,if_neg h1,if_neg h2]
 ·exact ky h
theorem xC{ts:List Task}{k:Int}{t:Task}(h:ts[k.toNat]? = some t):ja ts k = t.cost:=by unfold ja;rw[h];rfl
noncomputable def uZ(w:Worker)(p:Plan)(m:Message):Acted:=if ar w∧ah p.tasks = 0 then⟨fE w p.tasks m,[]⟩else wU
theorem de{w:Worker}{p:Plan}{m:Message}(h:ar w)(h2:ah p.tasks = 0):uZ w p m = ⟨fE w p.tasks m,[]⟩:=if_pos ⟨h,h2⟩
theorem pY(w:Worker)(p:Plan)(m:Message)(h:ar w)(hc:ah p.tasks = 0)(hm:m.inputs.length≤9223372036854775806):F pN [.val (aB w),.val (cE p),.val (dH m)] (aB (fE w p.tasks m)) [[],[],[]]:=by
 have cm:=bZ m hm
 by_cases hup:w.up = true
 ·by_cases hok:bx m
  ·rw[decide_eq_true hok]at cm
   have hi:=(cK hok).1
   obtain⟨_,_,_,_,⟨r1,r2⟩,⟨r3,r4⟩⟩:=eT hok
   by_cases hto:m.to = w.number
   ·have hf:kT w m:=⟨hup,hok,hto⟩
    by_cases hk:m.kind = 1
    ·have nt:¬bQ w m:=fun q=>by have:=q.1;omega
     by_cases ht:m.task < p.tasks.length
     ·obtain⟨t,ht2⟩:=aj (xs:=p.tasks) (n:=m.task.toNat) OM
      obtain⟨_,_,g3,_⟩:=bz hc ht2
      by_cases hd:m.inputs.length = t.deps.length
      ·by_cases hs:w.state = 0
       ·have ho:bK w p.tasks m:=⟨hk,⟨t,ht2,hd⟩,.inl hs⟩
        refine aP ?_
        conv=>whnf
        refine g 0 0 []<|J Zbw<|W.sq<|g 9 22 [BF,BF,.call VT [[]],BF,BF,BF,BF,BF,BF,BF,BF]<|J Zaf<|W.cn<|J (noT nO) fun _=>W.skip<|W.sq<|g 22 25 []<|J UB<|W.blk<|g 27 28 []<|J UB<|W.cn<|J (fun _=>(W.sq (gd 25 47 [[],[],[],[],[],[],[],[BF],[BF],[BF],[BF],[BF],[BF],[BF],[BF,.x (aC t)],[BF],[BF],[BF],[BF],[BF]] ?_))) (noF tO)
        conv=>whnf
        refine⟨Za5,by kernel_rfl,?_⟩
        refine W.cn<|J (noT SI) fun _=>W.skip<|g 47 58 [BT,BT,BT,BT,BT,BT]<|J ⟨I,I,I,I,tO,tO,tO,tO,tO,tO,I⟩<|W.cn<|J (fun _=>(g 58 66 [.x (aC t)]<|J Zc0 (gd 7 80 [[],[],[],[],[],[],[],[],[],[],[],[],[.call (V.own [false] (List.map ak m.inputs)) [[]]],[],[]] ?_))) (noF rfl)
        conv=>whnf
        refine⟨⟨I,I,I,I,I,I,I,I,I,I,I,I,⟨UA,I,US,UA,dX _ OM⟩,I,UK,I⟩,by kernel_rfl,?_⟩
        refine RT ?_
        rw[lW hf ho,xC ht2]
        all_goals rfl
       ·by_cases hl:w.lease < m.lease
        ·have ho:bK w p.tasks m:=⟨hk,⟨t,ht2,hd⟩,.inr hl⟩
         refine aP ?_
         conv=>whnf
         refine g 0 0 []<|J Zbw<|W.sq<|g 9 22 [BF,BF,.call VT [[]],BF,BF,BF,BF,BF,BF,BF,BF]<|J Zaf<|W.cn<|J (noT nO) fun _=>W.skip<|W.sq<|g 22 25 []<|J UB<|W.blk<|g 27 28 []<|J UB<|W.cn<|J (fun _=>(W.sq (gd 25 47 [[],[],[],[],[],[],[],[BF],[BF],[BF],[BF],[BF],[BF],[BF],[BF,.x (aC t)],[BF],[BF],[BF],[BF],[BF]] ?_))) (noF tO)
         conv=>whnf
         refine⟨Za5,by kernel_rfl,?_⟩
         refine W.cn<|J (noT SI) fun _=>W.skip<|g 47 58 [BF,BF,BF,BF,BF,BF]<|J ⟨I,I,I,I,⟨dO,I⟩,⟨dO,I⟩,⟨dO,I⟩,⟨dO,I⟩,⟨dO,I⟩,dO,I⟩<|W.cn<|J (fun _=>(g 58 66 [.x (aC t)]<|J Zc0 (gd 7 80 [[],[],[],[],[],[],[],[],[],[],[],[],[.call (V.own [false] (List.map ak m.inputs)) [[]]],[],[]] ?_))) (noF tO)
         conv=>whnf
         refine⟨⟨I,I,I,I,I,I,I,I,I,I,I,I,⟨UA,I,US,UA,dX _ OM⟩,I,UK,I⟩,by kernel_rfl,?_⟩
         refine RT ?_
         rw[lW hf ho,xC ht2]
         all_goals rfl
        ·have no:¬bK w p.tasks m:=fun q=>by have:=q.2.2;omega
         refine aP ?_
         conv=>whnf
         refine g 0 0 []<|J Zbw<|W.sq<|g 9 22 [BF,BF,.call VT [[]],BF,BF,BF,BF,BF,BF,BF,BF]<|J Zaf<|W.cn<|J (noT nO) fun _=>W.skip<|W.sq<|g 22 25 []<|J UB<|W.blk<|g 27 28 []<|J UB<|W.cn<|J (fun _=>(W.sq (gd 25 47 [[],[],[],[],[],[],[],[BF],[BF],[BF],[BF],[BF],[BF],[BF],[BF,.x (aC t)],[BF],[BF],[BF],[BF],[BF]] ?_))) (noF tO)
         conv=>whnf
         refine⟨Za5,by kernel_rfl,?_⟩
         refine W.cn<|J (noT SI) fun _=>W.skip<|g 47 58 [BF,BF,BF,BF,BF,BF]<|J ⟨I,I,I,I,⟨dO,I⟩,⟨dO,I⟩,⟨dO,I⟩,⟨dO,I⟩,⟨dO,I⟩,dO,I⟩<|W.cn<|J (noT dO) fun _=>W.skip<|g 0 6 []<|J Zeg<|RT ?_
         rw[dk no nt];all_goals rfl
      ·have no:¬bK w p.tasks m:=fun q=>by obtain⟨t2,h2,h3⟩:=q.2.1;rw[ht2]at h2;cases h2;exact hd h3
       refine aP ?_
       conv=>whnf
       refine g 0 0 []<|J Zbw<|W.sq<|g 9 22 [BF,BF,.call VT [[]],BF,BF,BF,BF,BF,BF,BF,BF]<|J Zaf<|W.cn<|J (noT nO) fun _=>W.skip<|W.sq<|g 22 25 []<|J UB<|W.blk<|g 27 28 []<|J UB<|W.cn<|J (fun _=>(W.sq (gd 25 47 [[],[],[],[],[],[],[],[BF],[BF],[BF],[BF],[BF],[BF],[BF],[BF,.x (aC t)],[BF],[BF],[BF],[BF],[BF]] ?_))) (noF tO)
       conv=>whnf
       refine⟨Za5,by kernel_rfl,?_⟩
       refine W.cn<|J (fun h1=>?_) fun h1=>?_
       replace h1:=ndt h1
       simp only[LM]at h1
       refine g 47 49 []<|J Zeg<|RT ?_
       rotate_left
       replace h1:=ndf h1
       simp only[LM]at h1
       omega
       rw[dk no nt];all_goals rfl
     ·have no:¬bK w p.tasks m:=fun q=>by obtain⟨t2,h2,h3⟩:=q.2.1;have:=(List.getElem?_eq_some_iff.1 h2).1;omega
      refine aP ?_
      conv=>whnf
      refine g 0 0 []<|J Zbw<|W.sq<|g 9 22 [BF,BF,.call VT [[]],BF,BF,BF,BF,BF,BF,BF,BF]<|J Zaf<|W.cn<|J (noT nO) fun _=>W.skip<|W.sq<|g 22 25 []<|J UB<|W.blk<|g 27 28 []<|J UB<|W.cn<|J (fun _=>(W.sq (gd 25 47 [[],[],[],[],[],[],[],[BT],[BT],[BT],[BT],[BT],[BT],[BT],[BT],[BT],[BT],[BT],[BT],[BT]] ?_))) (noF tO)
      conv=>whnf
      refine⟨⟨I,I,I,I,I,I,I,(by simp_all),(by simp_all),(by simp_all),(by simp_all),(by simp_all),(by simp_all),(by simp_all),(by simp_all),(by simp_all),(by simp_all),(by simp_all),(by simp_all),(by simp_all),I⟩,by kernel_rfl,?_⟩
      refine W.cn<|J (fun _=>(g 47 49 []<|J Zeg (RT ?_))) (noF rfl)
      rw[dk no nt];all_goals rfl
    ·have no:¬bK w p.tasks m:=fun q=>hk q.1
     by_cases hk4:m.kind = 4
     ·by_cases hs:w.state = 2
      ·by_cases hl:w.lease = m.lease
       ·have yt:bQ w m:=⟨hk4,hs,hl⟩
        refine aP ?_
        conv=>whnf
        refine g 0 0 []<|J Zbw<|W.sq<|g 9 22 [BF,BF,.call VT [[]],BF,BF,BF,BF,BF,BF,BF,BF]<|J Zaf<|W.cn<|J (noT nO) fun _=>W.skip<|W.sq<|g 22 25 []<|J UB<|W.blk<|g 27 28 []<|J UB<|W.cn<|J (noT dO) fun _=>g 0 3 []<|J UB<|W.cn<|J (fun _=>?_) (noF tO)
        refine g 8 91 [BT,BT,BT,BT,BT,BT]<|J ⟨I,I,I,I,⟨tO,I⟩,⟨tO,I⟩,⟨tO,I⟩,⟨tO,I⟩,⟨tO,I⟩,tO,I⟩<|W.cn<|J (fun _=>(g 4 6 [.call (aB {number:=w.number,epoch:=w.epoch,up:=w.up,state:=0,lease:=0,task:=0,cost:=0,left:=0,inputs:=[],text:=emp,since:=3:Worker}) [[],[]]]<|J ⟨I,⟨UB,I,⟨UK,UA,I⟩,UA,ir _ _⟩,UK,I⟩ (RT ?_))) (noF tO)
        rw[nl hf yt]
        all_goals rfl
       ·have nt:¬bQ w m:=fun q=>hl q.2.2
        refine aP ?_
        conv=>whnf
        refine g 0 0 []<|J Zbw<|W.sq<|g 9 22 [BF,BF,.call VT [[]],BF,BF,BF,BF,BF,BF,BF,BF]<|J Zaf<|W.cn<|J (noT nO) fun _=>W.skip<|W.sq<|g 22 25 []<|J UB<|W.blk<|g 27 28 []<|J UB<|W.cn<|J (noT dO) fun _=>g 0 3 []<|J UB<|W.cn<|J (fun _=>?_) (noF tO)
        refine g 8 91 [BT,BT,BT,BT,BT,BT]<|J ⟨I,I,I,I,⟨tO,I⟩,⟨tO,I⟩,⟨tO,I⟩,⟨tO,I⟩,⟨tO,I⟩,tO,I⟩<|W.cn<|J (noT dO) fun _=>W.skip<|g 3 6 []<|J Zeg<|RT ?_
        rw[dk no nt];all_goals rfl
      ·have nt:¬bQ w m:=fun q=>hs q.2.1
       refine aP ?_
       conv=>whnf
       refine g 0 0 []<|J Zbw<|W.sq<|g 9 22 [BF,BF,.call VT [[]],BF,BF,BF,BF,BF,BF,BF,BF]<|J Zaf<|W.cn<|J (noT nO) fun _=>W.skip<|W.sq<|g 22 25 []<|J UB<|W.blk<|g 27 28 []<|J UB<|W.cn<|J (noT dO) fun _=>g 0 3 []<|J UB<|W.cn<|J (fun _=>?_) (noF tO)
       refine g 8 91 [BF,BF,BF,BF,BF,BF]<|J ⟨I,I,I,I,dO,dO,dO,dO,dO,dO,I⟩<|W.cn<|J (noT rfl) fun _=>W.skip<|g 3 6 []<|J Zeg<|RT ?_
       rw[dk no nt];all_goals rfl
     ·have nt:¬bQ w m:=fun q=>hk4 q.1
      refine aP ?_
      conv=>whnf
      refine g 0 0 []<|J Zbw<|W.sq<|g 9 22 [BF,BF,.call VT [[]],BF,BF,BF,BF,BF,BF,BF,BF]<|J Zaf<|W.cn<|J (noT nO) fun _=>W.skip<|W.sq<|g 22 25 []<|J UB<|W.blk<|g 27 28 []<|J UB<|W.cn<|J (noT dO) fun _=>g 0 3 []<|J UB<|W.cn<|J (noT dO) fun _=>?_
      refine W.skip<|g 8 95 []<|J Zeg<|RT ?_
      rw[dk no nt];all_goals rfl
   ·have nf:¬kT w m:=fun q=>hto q.2.2
    refine aP ?_
    conv=>whnf
    refine g 0 0 []<|J Zbw<|W.sq<|g 9 22 [BF,BF,.call VT [[]],BF,BF,BF,BF,BF,BF,BF,BF]<|J Zaf<|W.cn<|J (fun _=>(g 22 24 []<|J Zeg (RT ?_))) (noF (af OM))
    rw[ky nf];all_goals rfl
  ·rw[decide_eq_false hok]at cm
   have nf:¬kT w m:=fun q=>hok q.2.1
   refine aP ?_
   conv=>whnf
   refine g 0 0 []<|J Zbw<|W.sq<|g 9 22 [BF,BF,.call VF [[]],BF,BF,BT,BT,BT,BT,BT,BT]<|J ⟨I,I,I,I,Zdz,Zan,Zdz,nbF AS,I,rfl,rfl,rfl,rfl,rfl,rfl,I⟩<|W.cn<|J (fun _=>(g 22 24 []<|J Zeg (RT ?_))) (noF rfl)
   rw[ky nf];all_goals rfl
 ·have nf:¬kT w m:=fun q=>hup q.1
  refine aP ?_
  conv=>whnf
  refine g 0 0 []<|J Zbw<|W.sq<|g 9 22 [BT,BT,BT,BT,BT,BT,BT,BT,BT,BT]<|J ⟨I,I,I,I,SI,SI,SI,SI,I,rfl,rfl,rfl,rfl,rfl,rfl,I⟩<|W.cn<|J (fun _=>(g 22 24 []<|J Zeg (RT ?_))) (noF rfl)
  rw[ky nf];all_goals rfl
end Go.K
end
section
open Go Go.Tm Go.Proofs
namespace Go.K
theorem H9{w:Worker}{s:Int}(h1:1≤w.number∧w.number≤8)(h2:1≤w.epoch∧w.epoch≤300)(hs:0≤s∧s≤1000000)(u:Bool)(hu:u = true∨s = 0):ar ⟨w.number,w.epoch,u,0,0,0,0,0,[],emp,s⟩ :=
 ⟨h1,h2,hs,hu.imp id fun q=>⟨rfl,q⟩,.inl ⟨rfl,rfl,rfl,rfl,rfl,rfl,rfl⟩⟩
theorem Mf{w:Worker}(h:ar w):ar (lV w)∧(lV w).number = w.number:=by
 unfold lV;rw[if_pos h]
 exact⟨H9 (w:=w) h.1 h.2.1 ⟨Int.le_refl _,by omega⟩ false (.inr rfl),rfl⟩
theorem Lv{w:Worker}(h:ar w):ar (jd w)∧(jd w).number = w.number:=by
 unfold jd;rw[if_pos h]
 split
 ·exact⟨h,rfl⟩
 ·rename_i q
  have h2:=h.2.1
  have q2:¬300≤w.epoch:=fun e=>q (.inr e)
  exact⟨⟨h.1,⟨by show 1≤w.epoch+1;omega,by show w.epoch+1≤300;omega⟩,⟨by show(0:Int)≤3;omega,by show(3:Int)≤1000000;omega⟩,.inl rfl,.inl ⟨rfl,rfl,rfl,rfl,rfl,rfl,rfl⟩⟩,rfl⟩
theorem Je{w:Worker}(h:ar w):0≤aM w∧aM w≤1000000:=by
 have:=h.2.2.1
 unfold aM;split <;> omega
theorem i7{w:Worker}(h:ar w)(hup:w.up = true){s:Int}(hs:0≤s∧s≤1000000):ar (bX w s):=by
 obtain⟨h1,h2,h3,h4,h5⟩:=h
 exact⟨h1,h2,hs,.inl hup,h5⟩
theorem L1{w:Worker}(h:ar w)(h1:w.state = 1)(h2:¬w.left - 1 = 0):ar (mg w):=by
 obtain⟨b1,b2,b3,b4,b5,b6⟩:=wS h h1
 obtain⟨g1,g2,g3,g4,g5⟩:=h
 refine⟨g1,g2,g3,g4,.inr (.inl ⟨h1,b2,b3,⟨?_,?_⟩,b5,b6⟩)⟩
 ·show 1≤w.left - 1;omega
 ·show w.left - 1≤w.cost;omega
theorem K7(nm:ByteArray)(xs:List ByteArray):(bR nm xs).size = 8:=uq nm xs
theorem Ml{w:Worker}(ts:List Task)(h:ar w)(h1:w.state = 1)(h2:w.left - 1 = 0)(hup:w.up = true):ar (fw w ts):=by
 obtain⟨b1,b2,b3,b4,b5,b6⟩:=wS h h1
 obtain⟨g1,g2,g3,g4,g5⟩:=h
 exact⟨g1,g2,⟨Int.le_refl _,by show(0:Int)≤1000000;omega⟩,.inl hup,.inr (.inr ⟨rfl,b2,rfl,h2,rfl,by show((bR _ _).size:Int) = 8;rw[K7];rfl⟩)⟩
theorem Lc{w:Worker}(ts:List Task)(h:ar w):ar (dx w ts).worker∧(dx w ts).worker.number = w.number:=by
 have hs:=Je h
 have z:(0:Int)≤0∧(0:Int)≤1000000:=⟨Int.le_refl _,by omega⟩
 by_cases hup:w.up = false
 ·rw[tR hup];exact⟨h,rfl⟩
 have hup2:w.up = true:=by cases hb:w.up;exact absurd hb hup;rfl
 rcases xY h with h1|h1|h1
 ·by_cases h4:3≤aM w
  ·rw[kW hup h1 h4];exact⟨i7 h hup2 z,rfl⟩
  ·rw[qh hup h1 h4];exact⟨i7 h hup2 hs,rfl⟩
 ·by_cases h2:w.left - 1 = 0
  ·rw[kX hup h1 h2];exact⟨Ml ts h h1 h2 hup2,rfl⟩
  ·have hl:=L1 h h1 h2
   by_cases h4:4≤aM w
   ·rw[kY hup h1 h2 h4];exact⟨i7 hl hup2 z,rfl⟩
   ·rw[tS hup h1 h2 h4];exact⟨i7 hl hup2 hs,rfl⟩
 ·by_cases h4:4≤aM w
  ·rw[kV hup h1 h4];exact⟨i7 h hup2 z,rfl⟩
  ·rw[qg hup h1 h4];exact⟨i7 h hup2 hs,rfl⟩
theorem Lj{w:Worker}{ts:List Task}(m:Message)(hc:ah ts = 0)(h:ar w):ar (fE w ts m)∧(fE w ts m).number = w.number:=by
 by_cases hf:kT w m
 ·by_cases ho:bK w ts m
  ·rw[lW hf ho]
   obtain⟨o1,⟨t,ht,ol⟩,o3⟩:=ho
   obtain⟨q1,q2⟩:=hf.2.1
   have hk:(1≤m.lease∧m.lease≤300000000)∧(0≤m.task∧m.task≤39)∧dR m.inputs:=by
    rcases q2 with q|q|q|q|q
    ·exact⟨q.2.2.2.1,q.2.2.2.2.1,q.2.2.2.2.2.2⟩
    ·have:=q.1;omega
    ·have:=q.1;omega
    ·have:=q.1;omega
    ·have:=q.1;omega
   have e:ja ts m.task = t.cost:=by unfold ja;rw[ht];rfl
   have hcst:=(bz hc ht).2.1
   obtain⟨g1,g2,g3,g4,g5⟩:=h
   exact⟨⟨g1,g2,⟨Int.le_refl _,by show(0:Int)≤1000000;omega⟩,.inl rfl,.inr (.inl ⟨rfl,⟨hk.1,hk.2.1⟩,by show 1≤ja ts m.task∧_;rw[e];exact hcst,⟨by show 1≤ja ts m.task;rw[e];omega,Int.le_refl _⟩,hk.2.2,rfl⟩)⟩,rfl⟩
  ·by_cases hth:bQ w m
   ·rw[nl hf hth]
    exact⟨H9 (w:=w) h.1 h.2.1 ⟨by omega,by omega⟩ w.up (.inl hf.1),rfl⟩
   ·rw[dk ho hth];exact⟨h,rfl⟩
 ·rw[ky hf];exact⟨h,rfl⟩
end Go.K
end
section
open Go Go.Tm Go.Proofs
namespace Go.K
def nY(xs:List Parcel)(k:Int):List Parcel:=if xs.length≤2000∧0≤k∧k < xs.length∧xs.length < 2000 then xs++ (xs[k.toNat]?).toList else xs
theorem vS{xs:List Parcel}{k:Int}(h:¬(xs.length≤2000∧0≤k∧k < xs.length∧xs.length < 2000)):nY xs k = xs:=if_neg h
theorem IW{xs:List Parcel}{m:Nat}{y:Parcel}(h:xs.length≤2000∧0≤(m:Int)∧(m:Int) < xs.length∧xs.length < 2000)(hy:xs[m]? = some y):xs.map bI++ [bI y] = (nY xs m).map bI:=by
 unfold nY
 rw[if_pos h,show((m:Int)).toNat = m from rfl,hy,List.map_append];rfl
theorem zE(xs:List Parcel)(k:Int)(hl:xs.length≤1048576):F yT [.val (.t (Ag xs)),.val (.i k)] (.own pkd ((nY xs k).map bI)) [[],[]]:=by
 by_cases h0:0≤k
 ·obtain⟨m,rfl⟩:=Int.eq_ofNat_of_zero_le h0
  refine pi ?_
  conv=>whnf
  refine g 0 0 []<|J UA<|g 6 8 [.call (V.own pkd (List.map bI xs)) [[]]]<|J ⟨I,⟨UA,I,US,UA,dc _ OM⟩,I,I⟩<|W.sq ?_
  by_cases h1:List.length xs≤(2000:Nat)∧(0:Int)≤(↑m:Int)∧(↑m:Int) < (↑(List.length xs):Int)
  refine g 8 15 [.call (V.b (decide (xs.length≤2000∧0≤(m:Int)∧(m:Int) < (↑xs.length:Int)))) [[],[]],BT,BT,BT,BT]<|J ⟨I,I,⟨UB,I,UT,UA,cx _ _ OM⟩,I,⟨tO,I⟩,⟨tO,I⟩,⟨tO,I⟩,tO,I⟩<|W.cn<|J (fun h2=>?_) fun h2=>?_
  replace h2:=dt h2
  simp only[LM]at h2
  obtain⟨y1,hy1⟩:=aj (xs:=xs) (n:=m) OM
  refine rg [.x (bI y1)]<|J ⟨I,I,I,⟨AS,xA⟩,I,⟨UC,I⟩,Zdi,I,I⟩<|g 5 24 []<|J UB<|RT ?_
  rotate_left
  replace h2:=df h2
  simp only[LM]at h2
  refine W.skip<|g 5 24 []<|J UB<|RT ?_
  rotate_left
  refine g 8 15 [.call (V.b (decide (xs.length≤2000∧0≤(m:Int)∧(m:Int) < (↑xs.length:Int)))) [[],[]],BF,BF,BF,BF]<|J ⟨I,I,⟨UB,I,UT,UA,cx _ _ OM⟩,I,dO,dO,dO,dO,I⟩<|W.cn<|J (noT rfl) fun _=>W.skip<|g 5 24 []<|J UB<|RT ?_
  rotate_left
  ·exact congrArg (V.own pkd) (IW ⟨h1.1,h1.2.1,h1.2.2,by omega⟩ hy1)
  ·rw[vS OM]
  ·rw[vS OM]
 ·skip
  refine pi ?_
  conv=>whnf
  refine g 0 0 []<|J UA<|g 6 8 [.call (V.own pkd (List.map bI xs)) [[]]]<|J ⟨I,⟨UA,I,US,UA,dc _ OM⟩,I,I⟩<|W.sq<|g 8 15 [.call (V.b (decide (xs.length≤2000∧0≤k∧k < (↑xs.length:Int)))) [[],[]],BF,BF,BF,BF]<|J ⟨I,I,⟨UB,I,UT,UA,cx _ _ OM⟩,I,dO,dO,dO,dO,I⟩<|W.cn<|J (noT rfl) fun _=>W.skip<|g 5 24 []<|J UB<|RT ?_
  rw[vS OM]
end Go.K
end
section
open Go Go.Tm Go.Proofs
namespace Go.K
def xorB(c:UInt8)(ma:Int):Int:=IntKind.u8.wrap (BitVec.ofInt IntKind.u8.bits (c.toNat:Int) ^^^ BitVec.ofInt IntKind.u8.bits (IntKind.u8.wrap (ma.tmod 256))).toNat
def PS(t:ByteArray)(q:Nat)(c:UInt8)(ma:Int):ByteArray:=⟨(bO ((bT t).set q [.v (.int .u8 (xorB c ma))])).toArray⟩
def PT(p:Parcel)(pl ma:Int):Parcel:=match p.text[pl.toNat]? with
 |some c=>⟨p.kind,p.frm,PS p.text pl.toNat c ma⟩
 |none=>p
def mR(xs:List Parcel)(k pl ma:Int):List Parcel :=
 if(xs.length≤2000∧0≤k∧k < xs.length)∧0≤ma∧0≤pl then match xs[k.toNat]? with
  |some p=>xs.set k.toNat (PT p pl ma)
  |none=>xs
 else xs
theorem pC{xs:List Parcel}{k pl ma:Int}(h:¬((xs.length≤2000∧0≤k∧k < xs.length)∧0≤ma∧0≤pl)):mR xs k pl ma = xs:=if_neg h
theorem PU{s:ByteArray}{n:Nat}(h:s.size≤n):s[n]? = none:=getElem?_neg s n OM
theorem E9{xs:List Parcel}{m q:Nat}{ma:Int}{y:Parcel}(hy:xs[m]? = some y)(h:y.text.size≤q):mR xs m q ma = xs:=by
 unfold mR
 split
 ·rw[show((m:Int)).toNat = m from rfl,hy]
  simp only[PT,show((q:Int)).toNat = q from rfl,PU h]
  apply List.ext_getElem?
  intro i
  rw[List.getElem?_set]
  split
  ·next e=>subst e;split
           ·exact hy.symm
           ·next h2=>rw[List.getElem?_eq_none OM]
  ·rfl
 ·rfl
theorem E8{xs:List Parcel}{m q:Nat}{ma:Int}{y:Parcel}{c:UInt8}(h:(xs.length≤2000∧0≤(m:Int)∧(m:Int) < xs.length)∧0≤ma∧0≤(q:Int))(hy:xs[m]? = some y)(hc:y.text[q]? = some c) :
 (xs.map bI).set m [T.v (.int .i64 y.kind),T.v (.string y.frm),T.v (.string (PS y.text q c ma))] = (mR xs m q ma).map bI:=by
 unfold mR
 rw[if_pos h,show((m:Int)).toNat = m from rfl,hy]
 simp only[PT,show((q:Int)).toNat = q from rfl,hc]
 rw[List.map_set]
theorem DJ(xs:List Parcel)(k pl ma:Int)(hl:xs.length≤1048576)(hs:∀ p∈xs,p.text.size≤1048576):F Dd [.val (.t (Ag xs)),.val (.i k),.val (.i pl),.val (.i ma)] (.own pkd ((mR xs k pl ma).map bI)) [[],[],[],[]]:=by
 by_cases h0:0≤k
 ·obtain⟨m,rfl⟩:=Int.eq_ofNat_of_zero_le h0
  by_cases h8:0≤pl
  ·obtain⟨q,rfl⟩:=Int.eq_ofNat_of_zero_le h8
   refine nB ?_
   conv=>whnf
   refine g 0 0 []<|J UA<|g 11 13 [.call (V.own pkd (List.map bI xs)) [[]]]<|J ⟨I,⟨UA,I,US,UA,dc _ OM⟩,I,I⟩<|W.sq ?_
   by_cases h1:List.length xs≤(2000:Nat)∧(0:Int)≤(↑m:Int)∧(↑m:Int) < (↑(List.length xs):Int)
   obtain⟨y1,hy1⟩:=aj (xs:=xs) (n:=m) OM
   have hm1:=hs y1 (List.mem_of_getElem? hy1)
   by_cases h2:(0:Int)≤(↑q:Int)∧(↑q:Int)≤(↑(ByteArray.size (Parcel.text y1)):Int) - (1:Int)
   refine g 13 30 [.call (V.b (decide (xs.length≤2000∧0≤(m:Int)∧(m:Int) < (↑xs.length:Int)))) [[],[]],BT,BT,BT,BT,.n (m),BT,BT,.x (bI y1),BT,BT,.i ((↑(ByteArray.size y1.text):Int) - 1),BT,.call (V.b (decide (0≤(q:Int)∧(q:Int)≤(↑(ByteArray.size y1.text):Int) - 1))) [[],[],[]],BT,BT,BT,BT]<|J ⟨I,I,⟨UB,I,UT,UA,cx _ _ OM⟩,I,⟨tO,I⟩,⟨tO,I⟩,⟨tO,I⟩,⟨tO,rfl,LN⟩,⟨tO,I⟩,⟨tO,xA⟩,⟨tO,I⟩,⟨tO,wO⟩,⟨tO,UC,I,UU,UA,ac _ _ _⟩,tO,I,⟨tO,I⟩,⟨tO,I⟩,tO,I⟩<|W.cn<|J (fun h3=>?_) fun h3=>?_
   replace h3:=dt h3
   refine g 30 37 [.n (m),.x (bI y1)]<|J ⟨I,I,Zdh,I,xA,OM,I,I⟩ ?_
   obtain⟨y2,hy2,hb1⟩:=bd (s:=Parcel.text y1) (n:=q) OM
   refine g 37 42 [.n (q),.x ([T.v (Value.int IntKind.u8 (↑(UInt8.toNat y2):Int))]),.i (Int.tmod ma 256),.i (IntKind.wrap IntKind.u8 (Int.tmod ma 256)),.i (IntKind.wrap IntKind.u8 (↑(BitVec.toNat (BitVec.ofInt (IntKind.bits IntKind.u8) (↑(UInt8.toNat y2):Int) ^^^ BitVec.ofInt (IntKind.bits IntKind.u8) (IntKind.wrap IntKind.u8 (Int.tmod ma 256)))):Int)),.n (q),.x ([T.v (Value.int IntKind.u8 (↑(UInt8.toNat y2):Int))])]<|J ⟨I,I,Zdh,(mG AS),I,Zdr,rfl,rfl,Zdh,⟨UA,(mG AS)⟩,I⟩<|rg [.s ({data:=List.toArray (bO (List.set (bT y1.text) q (dY [T.v (Value.int IntKind.u8 (↑(UInt8.toNat y2):Int))] 0 [T.v (Value.int IntKind.u8 (IntKind.wrap IntKind.u8 (↑(BitVec.toNat (BitVec.ofInt (IntKind.bits IntKind.u8) (↑(UInt8.toNat y2):Int) ^^^ BitVec.ofInt (IntKind.bits IntKind.u8) (IntKind.wrap IntKind.u8 (Int.tmod ma 256)))):Int)))]))):ByteArray}),.n (m),.x (bI y1)]<|J ⟨I,I,I,⟨I,A0 (iB _),rfl⟩,Zdh,I,⟨UA,xA⟩,I⟩<|g 43 53 []<|J UB<|RT ?_
   rotate_left
   replace h3:=df h3
   refine W.skip<|g 0 4 []<|J UB<|RT ?_
   rotate_left
   refine g 13 30 [.call (V.b (decide (xs.length≤2000∧0≤(m:Int)∧(m:Int) < (↑xs.length:Int)))) [[],[]],BT,BT,BT,BT,.n (m),BT,BT,.x (bI y1),BT,BT,.i ((↑(ByteArray.size y1.text):Int) - 1),BT,.call (V.b (decide (0≤(q:Int)∧(q:Int)≤(↑(ByteArray.size y1.text):Int) - 1))) [[],[],[]],BT,BF,BF,BF]<|J ⟨I,I,⟨UB,I,UT,UA,cx _ _ OM⟩,I,⟨tO,I⟩,⟨tO,I⟩,⟨tO,I⟩,⟨tO,rfl,LN⟩,⟨tO,I⟩,⟨tO,xA⟩,⟨tO,I⟩,⟨tO,wO⟩,⟨tO,UC,I,UU,UA,ac _ _ _⟩,tO,I,dO,dO,dO,I⟩<|W.cn<|J (noT rfl) fun _=>W.skip<|g 0 4 []<|J UB<|RT ?_
   rotate_left
   refine g 13 30 [.call (V.b (decide (xs.length≤2000∧0≤(m:Int)∧(m:Int) < (↑xs.length:Int)))) [[],[]],BF,BF,BF,BF,BF,BF,BF,BF,BF,BF,BF,BF,BF]<|J ⟨I,I,⟨UB,I,UT,UA,cx _ _ OM⟩,I,dO,dO,dO,dO,dO,dO,dO,dO,dO,dO,I,rfl,rfl,rfl,I⟩<|W.cn<|J (noT rfl) fun _=>W.skip<|g 0 4 []<|J UB<|RT ?_
   rotate_left
   all_goals (first|rw[pC OM]|rw[E9 AS OM]|exact congrArg (V.own pkd) (E8 OM AS AS)|skip)
  ·skip
   refine nB ?_
   conv=>whnf
   refine g 0 0 []<|J UA<|g 11 13 [.call (V.own pkd (List.map bI xs)) [[]]]<|J ⟨I,⟨UA,I,US,UA,dc _ OM⟩,I,I⟩<|W.sq ?_
   by_cases h1:List.length xs≤(2000:Nat)∧(0:Int)≤(↑m:Int)∧(↑m:Int) < (↑(List.length xs):Int)
   obtain⟨y1,hy1⟩:=aj (xs:=xs) (n:=m) OM
   have hm1:=hs y1 (List.mem_of_getElem? hy1)
   refine g 13 30 [.call (V.b (decide (xs.length≤2000∧0≤(m:Int)∧(m:Int) < (↑xs.length:Int)))) [[],[]],BT,BT,BT,BT,.n (m),BT,BT,.x (bI y1),BT,BT,.i ((↑(ByteArray.size y1.text):Int) - 1),BT,.call (V.b (decide (0≤pl∧pl≤(↑(ByteArray.size y1.text):Int) - 1))) [[],[],[]],BT,BF,BF,BF]<|J ⟨I,I,⟨UB,I,UT,UA,cx _ _ OM⟩,I,⟨tO,I⟩,⟨tO,I⟩,⟨tO,I⟩,⟨tO,rfl,LN⟩,⟨tO,I⟩,⟨tO,xA⟩,⟨tO,I⟩,⟨tO,wO⟩,⟨tO,UC,I,UU,UA,ac _ _ _⟩,tO,I,dO,dO,dO,I⟩<|W.cn<|J (noT rfl) fun _=>W.skip<|g 0 4 []<|J UB<|RT ?_
   rotate_left
   refine g 13 30 [.call (V.b (decide (xs.length≤2000∧0≤(m:Int)∧(m:Int) < (↑xs.length:Int)))) [[],[]],BF,BF,BF,BF,BF,BF,BF,BF,BF,BF,BF,BF,BF]<|J ⟨I,I,⟨UB,I,UT,UA,cx _ _ OM⟩,I,dO,dO,dO,dO,dO,dO,dO,dO,dO,dO,I,rfl,rfl,rfl,I⟩<|W.cn<|J (noT rfl) fun _=>W.skip<|g 0 4 []<|J UB<|RT ?_
   rotate_left
   all_goals rw[pC OM]
 ·skip
  refine nB ?_
  conv=>whnf
  refine g 0 0 []<|J UA<|g 11 13 [.call (V.own pkd (List.map bI xs)) [[]]]<|J ⟨I,⟨UA,I,US,UA,dc _ OM⟩,I,I⟩<|W.sq<|g 13 30 [.call (V.b (decide (xs.length≤2000∧0≤k∧k < (↑xs.length:Int)))) [[],[]],BF,BF,BF,BF,BF,BF,BF,BF,BF,BF,BF,BF,BF]<|J ⟨I,I,⟨UB,I,UT,UA,cx _ _ OM⟩,I,dO,dO,dO,dO,dO,dO,dO,dO,dO,dO,I,rfl,rfl,rfl,I⟩<|W.cn<|J (noT rfl) fun _=>W.skip<|g 0 4 []<|J UB<|RT ?_
  all_goals rw[pC OM]
theorem My(xs:List Parcel)(k pl ma:Int):(mR xs k pl ma).length = xs.length:=by
 unfold mR;split
 ·split
  ·rw[List.length_set]
  ·rfl
 ·rfl
end Go.K
end
section
open Go Go.Tm Go.Proofs
namespace Go.K
structure Event where
 kind:Int
 a:Int
 b:Int
 c:Int
 deriving DecidableEq
abbrev dq(x:Event):List T:=[.i x.kind,.i x.a,.i x.b,.i x.c]
abbrev Hs(x:Event):V:=.agg [.t (.i x.kind),.t (.i x.a),.t (.i x.b),.t (.i x.c)]
abbrev nc(x:Event):V:=.agg [.t (.i x.kind),.t (.i x.a),.t (.i x.b),.t (.i x.c)]
abbrev zr:List Bool:=[false,false,false,false]
abbrev Pv:Event:=⟨0,0,0,0⟩
def iu(ws:List Worker)(k:Int):Worker:=(ws[k.toNat]?).getD lG
def S1:Parcel:=⟨0,emp,emp⟩
def Gm(xs:List Parcel)(k:Int):Parcel:=(xs[k.toNat]?).getD S1
noncomputable def fM(p:Plan)(ws:List Worker)(n:Nat):List Message:=((ws.take n).map fun x=>(ev x p).out).flatten
noncomputable def dh(w:World):World :=
 if 1000000≤w.boss.now then w else
 ⟨w.plan,w.key,(mK w.boss w.plan).boss,w.workers.map (fun x=>(ev x w.plan).worker),qr w.flight ((mK w.boss w.plan).out++fM w.plan w.workers w.workers.length) w.key,w.forged⟩
def cg(w:World)(fl:List Parcel):World:=⟨w.plan,w.key,w.boss,w.workers,fl,w.forged⟩
def wk(w:World)(b:Boss):World:=⟨w.plan,w.key,b,w.workers,w.flight,w.forged⟩
def Cg(w:World)(k:Int)(x:Worker):World:=⟨w.plan,w.key,w.boss,w.workers.set (k - 1).toNat x,w.flight,w.forged⟩
open Classical in
noncomputable def J6(w:World)(s:Parcel):World:=⟨w.plan,w.key,w.boss,w.workers,w.flight,if ¬s.text = s.frm∧w.forged = emp then s.text else w.forged⟩
def jo(w:World)(k:Int):Prop:=1≤k∧k≤w.workers.length
instance (w:World) (k:Int):Decidable (jo w k):=by unfold jo;infer_instance
noncomputable def bn(w:World)(s:Parcel):World :=
 match ci s.text w.key with
 |none=>w
 |some m =>
  if s.kind = 0 then wk (J6 w s) (zS w.boss w.plan m).boss
  else if jo w s.kind then Cg (J6 w s) s.kind (uZ (iu w.workers (s.kind - 1)) w.plan m).worker
  else J6 w s
def Cz(w:World)(k:Int):Prop:=w.flight.length≤2000∧0≤k∧k < w.flight.length
instance (w:World) (k:Int):Decidable (Cz w k):=by unfold Cz;infer_instance
noncomputable def cS(w:World)(k:Int):World:=if Cz w k then bn (cg w (bA w.flight k)) (Gm w.flight k)else w
noncomputable def doW(w:World)(e:Event):World :=
 if e.kind = 1 then dh w
 else if e.kind = 2 then cS w e.a
 else if e.kind = 3 then cg w (nY w.flight e.a)
 else if e.kind = 4 then cg w (bA w.flight e.a)
 else if e.kind = 5 then cg w (mR w.flight e.a e.b e.c)
 else if e.kind = 6 then(if e.a = 0 then wk w (oC w.boss w.plan e.b)else if jo w e.a then Cg w e.a (lV (iu w.workers (e.a - 1)))else w)
 else if e.kind = 7 then(if e.a = 0 then wk w (oB w.boss w.plan)else if jo w e.a then Cg w e.a (jd (iu w.workers (e.a - 1)))else w)
 else w
theorem xQ{w:World}{b:Boss}(h:WorldOk w)(hb:BossOk b w.plan)(hw:b.workers = w.boss.workers):WorldOk (wk w b):=⟨h.plan,h.key,h.wl,h.fl,h.crew,h.par,hb,by show b.workers = _;rw[hw];exact h.same⟩
theorem K6{w:World}{s:Parcel}(h:WorldOk w):WorldOk (J6 w s):=⟨h.plan,h.key,h.wl,h.fl,h.crew,h.par,h.boss,h.same⟩
theorem eO{w:World}{fl:List Parcel}(h:WorldOk w)(h1:fl.length≤2000)(h2:∀ x∈fl,ParOk x):WorldOk (cg w fl):=⟨h.plan,h.key,h.wl,h1,h.crew,h2,h.boss,h.same⟩
theorem eP{w:World}{k:Int}(h:WorldOk w)(hk:jo w k):∃ x,w.workers[(k - 1).toNat]? = some x∧iu w.workers (k - 1) = x∧ar x∧x.number = k:=by
 obtain⟨k1,k2⟩:=hk
 obtain⟨x,hx⟩:=aj (xs:=w.workers) (n:=(k - 1).toNat) OM
 have hc:=h.crew (k - 1).toNat x OM hx
 exact⟨x,hx,by unfold iu;rw[hx];rfl,hc.ok,by rw[hc.num];omega⟩
theorem xP{w:World}{k:Int}{x y:Worker}(h:WorldOk w)(hk:jo w k)(hx:ar y)(hn:y.number = k):WorldOk (Cg w k y):=by
 refine⟨h.plan,h.key,by show 1≤(w.workers.set _ _).length∧_;rw[List.length_set];exact⟨h.wl.1,by show(w.workers.set _ _).length≤8;rw[List.length_set];exact h.wl.2⟩,h.fl,?_,h.par,h.boss,by show w.boss.workers = ((w.workers.set _ _).length:Int);rw[List.length_set];exact h.same⟩
 intro i z hi hz
 obtain⟨k1,k2⟩:=hk
 change (w.workers.set (k - 1).toNat y)[i]? = some z at hz
 by_cases e:i = (k - 1).toNat
 ·subst e
  rw[List.getElem?_set_self OM]at hz
  cases hz
  exact⟨hx,by rw[hn];omega⟩
 ·rw[List.getElem?_set_ne (fun q=>e q.symm)]at hz
  exact h.crew i z (by have:=(List.getElem?_eq_some_iff.1 hz).1;exact this) hz
theorem fz{xs:List Parcel}{k:Int}{x:Parcel}(h:x∈bA xs k):x∈xs:=by
 unfold bA at h;split at h
 ·rcases List.mem_append.1 h with h|h
  ·exact List.mem_of_mem_take h
  ·exact List.mem_of_mem_drop h
 ·exact h
theorem o8(xs:List Parcel)(k:Int):(bA xs k).length≤xs.length:=by
 unfold bA;split
 ·simp only[List.length_append,List.length_take,List.length_drop];omega
 ·exact Nat.le_refl _
theorem B8{xs:List Parcel}{k:Int}{x:Parcel}(h:x∈nY xs k):x∈xs:=by
 unfold nY at h;split at h
 ·rcases List.mem_append.1 h with h|h
  ·exact h
  ·cases hy:xs[k.toNat]? with
   |none=>rw[hy]at h;cases h
   |some y =>
    rw[hy]at h
    rw[List.mem_singleton.1 h]
    exact List.mem_of_getElem? hy
 ·exact h
theorem Ru{xs:List Parcel}{k:Int}(hx:xs.length≤2000):(nY xs k).length≤2000:=by
 unfold nY;split
 ·rename_i q
  rw[List.length_append]
  have:((xs[k.toNat]?).toList).length≤1:=by cases xs[k.toNat]? <;> simp
  omega
 ·exact hx
end Go.K
end
section
open Go Go.Tm Go.Proofs
namespace Go.K
theorem Mw(t:ByteArray)(q:Nat)(c:UInt8)(ma:Int):(PS t q c ma).size = t.size:=by
 unfold PS
 show((bO _).toArray).size = _
 simp[bO,fK]
theorem Mx{xs:List Parcel}{k pl ma:Int}{x:Parcel}(hx:∀ y∈xs,ParOk y)(h:x∈mR xs k pl ma):ParOk x:=by
 unfold mR at h;split at h
 ·cases hy:xs[k.toNat]? with
  |none=>rw[hy]at h;exact hx x h
  |some y =>
   rw[hy]at h
   rcases List.mem_or_eq_of_mem_set h with h|h
   ·exact hx x h
   ·have hp:=hx y (List.mem_of_getElem? hy)
    rw[h];unfold PT
    split
    ·exact⟨hp.to,hp.sent,by show(PS _ _ _ _).size≤500;rw[Mw];exact hp.bytes⟩
    ·exact hp
 ·exact hx x h
theorem uL{m:Message}{key:ByteArray}(h:bx m):(bw m key).size≤500:=by
 unfold bw;split
 ·obtain⟨h1,_,h3⟩:=cK h
  rw[ByteArray.size_append,wB,fL h];omega
 ·exact Nat.zero_le _
theorem LB{key:ByteArray}{acc:List Parcel}{m:Message}(h:acc.length≤2000∧∀ x∈acc,ParOk x):(ix key acc m).length≤2000∧∀ x∈ix key acc m,ParOk x:=by
 unfold ix;split
 ·rename_i q
  refine⟨by rw[List.length_append,List.length_singleton];omega,fun x hx=>?_⟩
  rcases List.mem_append.1 hx with hx|hx
  ·exact h.2 x hx
  ·rw[List.mem_singleton.1 hx]
   exact⟨(eT q.1).2.2.1,uL q.1,uL q.1⟩
 ·exact h
theorem HO{key:ByteArray}:∀ (ms:List Message) {xs:List Parcel},(xs.length≤2000∧∀ x∈xs,ParOk x)→(ms.foldl (ix key) xs).length≤2000∧∀ x∈ms.foldl (ix key) xs,ParOk x
 |[],xs,h=>h
 |m :: ms,xs,h=>HO ms (LB h)
theorem LD{key:ByteArray}{ms:List Message}{xs:List Parcel}(h:xs.length≤2000∧∀ x∈xs,ParOk x):(qr xs ms key).length≤2000∧∀ x∈qr xs ms key,ParOk x:=HO _ h
theorem FO(b:Boss)(ts:List Task):(ee b ts).boss.workers = b.workers:=by
 unfold ee;split
 ·rfl
 ·split
  ·rfl
  ·split <;> rfl
theorem GK(b:Boss)(k:Int):(fh b k).workers = b.workers:=by unfold fh;split <;> rfl
theorem wE(b:Boss)(p:Plan):(aY b p).workers = b.workers:=by unfold aY;split <;> rfl
theorem Jh(b:Boss)(m:Message):(uA b m).workers = b.workers:=by unfold uA;split <;> rfl
theorem CO(b:Boss)(ts:List Task)(m:Message):(ew b ts m).workers = b.workers:=by
 unfold ew;split
 ·split
  ·unfold qE;split <;> rfl
  ·split
   ·rfl
   ·split
    ·split
     ·rw[du,Jh,(HA (b:=jX b ts m) (m:=m)).2,(HB (b:=b) (ts:=ts) (m:=m)).2]
     ·rfl
    ·rfl
 ·rfl
theorem sa{w:World}(h:WorldOk w):WorldOk (dh w):=by
 unfold dh;split
 ·exact h
 ·rw[jB h.boss]
  have hp:=LD (key:=w.key) (ms:=(ee w.boss w.plan.tasks).out++fM w.plan w.workers w.workers.length) ⟨h.fl,h.par⟩
  refine⟨h.plan,h.key,⟨by show 1≤(w.workers.map _).length;rw[List.length_map];exact h.wl.1,by show(w.workers.map _).length≤8;rw[List.length_map];exact h.wl.2⟩,hp.1,?_,hp.2,FP h.boss,by show(ee w.boss w.plan.tasks).boss.workers = ((w.workers.map _).length:Int);rw[List.length_map,FO];exact h.same⟩
  intro i y hi hy
  change (w.workers.map _)[i]? = some y at hy
  rw[List.getElem?_map]at hy
  cases hx:w.workers[i]? with
  |none=>rw[hx]at hy;cases hy
  |some x =>
   rw[hx]at hy
   have hc:=h.crew i x (List.getElem?_eq_some_iff.1 hx).1 hx
   have e:=Option.some.inj hy
   dsimp only at e
   rw[cU hc.ok h.plan]at e
   have ht:=Lc w.plan.tasks hc.ok
   rw[←e]
   exact⟨ht.1,by rw[ht.2];exact hc.num⟩
theorem uk{w:World}{s:Parcel}(h:WorldOk w):WorldOk (bn w s):=by
 unfold bn
 cases hm:ci s.text w.key with
 |none=>exact h
 |some m =>
  dsimp only
  have hg:=K6 (s:=s) h
  split
  ·rw[jC h.boss]
   exact xQ hg (FS m h.boss) (CO _ _ _)
  ·split
   ·rename_i hk
    obtain⟨x,hx,e,ok,num⟩:=eP h hk
    rw[e,de ok h.plan]
    have ht:=Lj (ts:=w.plan.tasks) m h.plan ok
    exact xP (x:=x) hg hk ht.1 (by rw[ht.2];exact num)
   ·exact hg
theorem AX{w:World}(k:Int)(h:WorldOk w):WorldOk (cS w k):=by
 unfold cS;split
 ·exact uk (eO h (by have:=o8 w.flight k;have:=h.fl;omega) fun x hx=>h.par x (fz hx))
 ·exact h
theorem r6{w:World}(e:Event)(h:WorldOk w):WorldOk (doW w e):=by
 unfold doW
 split
 ·exact sa h
 split
 ·exact AX _ h
 split
 ·exact eO h (Ru h.fl) fun x hx=>h.par x (B8 hx)
 split
 ·exact eO h (by have:=o8 w.flight e.a;have:=h.fl;omega) fun x hx=>h.par x (fz hx)
 split
 ·exact eO h (by rw[My];exact h.fl) fun x hx=>Mx h.par hx
 split
 ·split
  ·rw[lM h.boss];exact xQ h (qG _ h.boss) (GK _ _)
  ·split
   ·rename_i hk
    obtain⟨x,hx,e,ok,num⟩:=eP h hk
    rw[e]
    have ht:=Mf ok
    exact xP (x:=x) h hk ht.1 (by rw[ht.2];exact num)
   ·exact h
 split
 ·split
  ·rw[jD h.boss];exact xQ h (wF h.boss) (wE _ _)
  ·split
   ·rename_i hk
    obtain⟨x,hx,e,ok,num⟩:=eP h hk
    rw[e]
    have ht:=Lv ok
    exact xP (x:=x) h hk ht.1 (by rw[ht.2];exact num)
   ·exact h
 ·exact h
end Go.K
end
section
open Go Go.Tm Go.Proofs
namespace Go.K
noncomputable def eL(w:World):World:=w.flight.foldl bn (cg w [])
theorem B6:∀ (fl:List Parcel) {w:World},WorldOk w→WorldOk (fl.foldl bn w)
 |[],w,h=>h
 |s :: fl,w,h=>B6 fl (uk (s:=s) h)
theorem Mk{w:World}(h:WorldOk w):WorldOk (eL w):=B6 _ (eO h (Nat.zero_le _) fun x hx=>by cases hx)
noncomputable def oJ(w:World):World:=eL (dh w)
noncomputable def cI(w:World):Nat→World
 |0=>w
 |n+1=>oJ (cI w n)
theorem Lu{w:World}(h:WorldOk w):WorldOk (oJ w):=Mk (sa h)
theorem xF{w:World}(h:WorldOk w):∀ n,WorldOk (cI w n)
 |0=>h
 |n+1=>Lu (xF h n)
theorem jx{w:World}(h:1000000≤w.boss.now):dh w = w:=if_pos h
noncomputable def Ch(w:World)(rounds:Int):World:=if WorldOk w then cI w (min rounds.toNat 2000)else noWorld
noncomputable def wDo(w:World)(e:Event):World:=if WorldOk w then doW w e else noWorld
end Go.K
end
section
open Go Go.Tm Go.Proofs
namespace Go.K
structure Keeps (b c:Boss):Prop where
 up:c.up = b.up
 res:c.results = b.results
end Go.K
end
section
open Go Go.Tm Go.Proofs
namespace Go.K
def Gu(b:Boss)(k:Int):List ByteArray:=b.log.safe++b.log.loose.take (gt k b.log.loose.length)
theorem Ap{b:Boss}{p:Plan}(k:Int)(hv:BossOk b p):(am p (Gu b k)).code = 0:=by
 have h:=hv.code
 rw[bU,←List.take_append_drop (gt k b.log.loose.length) b.log.loose,←List.append_assoc]at h
 exact gE h
theorem nq{x:Boss}{p:Plan}(hv:BossOk x p)(hr:mY x p):am p (aY x p).log.safe = ⟨0,(aY x p).epoch,(aY x p).results⟩∧(aY x p).results = (am p x.log.safe).results∧(aY x p).given = 0∧(aY x p).log.loose = []∧(aY x p).up = true:=by
 obtain⟨_,hc⟩:=sN hv hr.1
 rw[vO hr]
 have h3:=hr.2.2
 exact⟨rE hc hr.2.1 rfl OM,rfl,rfl,rfl,rfl⟩
end Go.K
end
section
open Go Go.Tm Go.Proofs
namespace Go.K
def vM(n:Nat)(a:Acted):Prop:=a.worker.inputs.length≤n∧(a.out = []∨∃ m,a.out = [m]∧m.inputs = [])
theorem qi{n:Nat}{w:Worker}{k:Int}(h:w.inputs.length≤n):vM n (u0 w k):=⟨h,.inr ⟨_,rfl,rfl⟩⟩
theorem fF{n:Nat}{w:Worker}(h:w.inputs.length≤n):vM n ⟨w,[]⟩:=⟨h,.inl rfl⟩
theorem FQ(w:Worker)(ts:List Task):vM w.inputs.length (dx w ts):=by
 unfold dx
 split
 ·exact fF (Nat.le_refl _)
 split
 ·split
  ·exact⟨Nat.zero_le _,.inr ⟨_,rfl,rfl⟩⟩
  ·split
   ·exact qi (Nat.le_refl _)
   ·exact fF (Nat.le_refl _)
 split
 ·split
  ·exact qi (Nat.le_refl _)
  ·exact fF (Nat.le_refl _)
 ·split
  ·exact qi (Nat.le_refl _)
  ·exact fF (Nat.le_refl _)
theorem CM(w:Worker)(p:Plan):vM w.inputs.length (ev w p):=by
 unfold ev;split
 ·exact FQ _ _
 ·exact fF (Nat.zero_le _)
end Go.K
end
section
open Go Go.Tm Go.Proofs
namespace Go.K
theorem Rw{p:Plan}(h:ah p.tasks = 0):cQ p:=yU (fR (lc h))
theorem Gd{s:ByteArray}{e:Entry}(h:dy s = some e):s.size≤12:=by
 have e1:=GF e
 rw[l9 h]at e1
 have hok:=fT h
 rcases hok.2.2 with⟨_,_,h3⟩|⟨_,h3⟩
 ·have:e.text.size = 0:=by rw[h3];rfl
  omega
 ·omega
theorem FU{p:Plan}{xs:List ByteArray}(h:(am p xs).code = 0):∀ s∈xs,s.size≤12:=fun s hs=>by
 obtain⟨e,he,_⟩:=(tU h).fwd s hs
 exact Gd he
theorem M6{b:Boss}{p:Plan}(h:BossOk b p):BossLim b:=by
 have hc:=h.code
 have hl:=(bL hc).2.1
 have hs:=FU hc
 have hp:=(bP h.plan).1
 rw[List.length_append]at hl
 have hw:=h.workers
 cases hb:b.up with
 |true =>
  obtain⟨u1,u2,u3,u4,u5,u6,u7,u8,u9,u10,u11,u12⟩:=h.up hb
  exact⟨by omega,by omega,fun s q=>by have:=hs s q;omega,by omega,by omega,by omega,by omega⟩
 |false =>
  obtain⟨d1,d2,d3,d4,d5,d6,d7,d8⟩:=h.down hb
  exact⟨by omega,by omega,fun s q=>by have:=hs s q;omega,by omega,by omega,by omega,by omega⟩
theorem JH{l:List ByteArray}(h:dR l):l.length≤8:=h.2
theorem FI{x:Worker}(h:ar x):x.inputs.length≤8:=by
 obtain⟨_,_,_,_,h|h|h⟩:=h
 ·obtain⟨_,_,_,_,_,h,_⟩:=h;omega
 ·obtain⟨_,_,_,_,h,_⟩:=h;exact JH h
 ·obtain⟨_,_,_,_,h,_⟩:=h;omega
structure DoLim (w:World):Prop where
 plan:cQ w.plan
 small:cZ w.plan
 boss:BossLim w.boss
 wl:w.workers.length≤8
 wi:∀ x∈w.workers,x.inputs.length≤8
 fl:w.flight.length≤2000
 par:∀ x∈w.flight,ParOk x
 key:w.key.size≤30
theorem dG{w:World}(h:WorldOk w):DoLim w:=by
 refine⟨Rw h.plan,lc h.plan,M6 h.boss,h.wl.2,fun x hx=>?_,h.fl,h.par,h.key⟩
 obtain⟨n,hn⟩:=List.getElem?_of_mem hx
 exact FI (h.crew n x (List.getElem?_eq_some_iff.1 hn).1 hn).ok
theorem dV{w:World}(h:DoLim w):WorldLim w:=by
 have h1:=h.key
 have h2:=h.wl
 have h3:=h.fl
 exact⟨h.plan,h.boss,by omega,by omega,fun x hx=>by have:=h.wi x hx;omega,by omega,fun x hx=>by have a:=(h.par x hx).sent;have b:=(h.par x hx).bytes;exact⟨by omega,by omega⟩⟩
theorem xK(p:Plan)(ws:List Worker):fM p ws 0 = []:=rfl
theorem xL{p:Plan}{ws:List Worker}{n:Nat}{x:Worker}(h:ws[n]? = some x):fM p ws n++ (ev x p).out = fM p ws (n+1):=by
 unfold fM;rw[List.take_add_one,h];simp
theorem n6(x:Worker)(p:Plan):(ev x p).out.length≤1∧∀ m∈(ev x p).out,m.inputs = []:=by
 rcases(CM x p).2 with e|⟨m,e,e2⟩
 ·rw[e];exact⟨Nat.zero_le _,fun m hm=>by cases hm⟩
 ·rw[e];exact⟨Nat.le_refl _,fun y hy=>by rw[List.mem_singleton.1 hy];exact e2⟩
theorem Ie{α:Type}:∀ {xs:List (List α)},(∀ x∈xs,x.length≤1)→xs.flatten.length≤xs.length
 |[],_=>Nat.le_refl _
 |x :: xs,h=>by
  have h1:=h x (List.mem_cons_self ..)
  have h2:=Ie fun y hy=>h y (List.mem_cons_of_mem x hy)
  simp only[List.flatten_cons,List.length_append,List.length_cons];omega
theorem Fi(p:Plan)(ws:List Worker)(n:Nat):(fM p ws n).length≤ws.length:=by
 have h:=Ie (xs:=(ws.take n).map fun x=>(ev x p).out) (fun y hy=>by obtain⟨x,_,rfl⟩:=List.mem_map.1 hy;exact(n6 x p).1)
 have:((ws.take n).map fun x=>(ev x p).out).length≤ws.length:=by rw[List.length_map,List.length_take];omega
 exact Nat.le_trans h this
theorem Fj{p:Plan}{ws:List Worker}{n:Nat}{m:Message}(h:m∈fM p ws n):m.inputs = []:=by
 obtain⟨l,hl,hm⟩:=List.mem_flatten.1 h
 obtain⟨x,_,rfl⟩:=List.mem_map.1 hl
 exact(n6 x p).2 m hm
theorem AW(b:Boss)(p:Plan):(mK b p).out.length≤2040:=by
 by_cases hv:BossOk b p
 ·rw[jB hv]
  by_cases h0:b.now = 1000000
  ·rw[jv h0];exact Nat.zero_le _
  by_cases hup:b.up = false
  ·rw[mM h0 hup];exact Nat.zero_le _
  have hup2:b.up = true:=by cases hb:b.up;exact absurd hb hup;rfl
  obtain⟨u1,u2,u3,u4,u5,u6,⟨u7,u8⟩,⟨u9,u10⟩,u11,u12,u13,u14⟩:=hv.up hup2
  have hpl:=(bP hv.plan).1
  have hdl:∀ t∈p.tasks,t.deps.length≤8:=fun t ht=>by
   obtain⟨k,hk⟩:=List.getElem?_of_mem ht
   exact(bz hv.plan hk).2.2.1
  obtain⟨k1,k2,k3,k4,k5,k6⟩:=kK (b:=cG b) (ts:=p.tasks) hdl u9 u10 p.tasks.length
  have j3:(endH b p.tasks).out.length≤40:=by show(aD _ _ _).out.length≤_;omega
  by_cases hs:b.since+1 = 2
  ·rw[fC h0 hup hs]
   simp only[List.length_append,List.length_map];omega
  ·rw[gW h0 hup hs]
   show(endH b p.tasks).out.length≤_;omega
 ·rw[yl hv];exact Nat.zero_le _
theorem je{w:World}(h:¬1000000≤w.boss.now):dh w = ⟨w.plan,w.key,(mK w.boss w.plan).boss,w.workers.map (fun x=>(ev x w.plan).worker),qr w.flight ((mK w.boss w.plan).out++fM w.plan w.workers w.workers.length) w.key,w.forged⟩:=if_neg h
open Classical in
noncomputable def uK(w:World)(s:Parcel):ByteArray:=if ¬s.text = s.frm∧w.forged = emp then s.text else w.forged
theorem xf{w:World}{s:Parcel}(h1:¬s.text = s.frm)(h2:w.forged = emp):uK w s = s.text:=if_pos ⟨h1,h2⟩
theorem EU{w:World}{s:Parcel}(h1:s.text = s.frm):uK w s = w.forged:=if_neg fun q=>q.1 h1
theorem sz{w:World}{s:Parcel}(h2:¬w.forged = emp):uK w s = w.forged:=if_neg fun q=>h2 q.2
theorem oz{w:World}{k:Int}{s:Parcel}(ha:w.flight.length≤2000∧0≤k∧k < w.flight.length)(hs:w.flight[k.toNat]? = some s):cS w k = bn (cg w (bA w.flight k)) s:=by
 have e:Gm w.flight k = s:=by unfold Gm;rw[hs];rfl
 rw[cS,if_pos (show Cz w k from ha),e]
theorem sH{w:World}{k:Int}(ha:¬(w.flight.length≤2000∧0≤k∧k < w.flight.length)):cS w k = w:=if_neg ha
theorem oA{w:World}{s:Parcel}(hm:ci s.text w.key = none):bn w s = w:=by unfold bn;rw[hm]
theorem jT{w:World}{s:Parcel}{m:Message}(hm:ci s.text w.key = some m)(h0:s.kind = 0):bn w s = ⟨w.plan,w.key,(zS w.boss w.plan m).boss,w.workers,w.flight,uK w s⟩:=by unfold bn;rw[hm];dsimp only;rw[if_pos h0];rfl
theorem jS{w:World}{s:Parcel}{m:Message}{x:Worker}(hm:ci s.text w.key = some m)(h0:¬s.kind = 0)(hx:jo w s.kind)(hw:w.workers[(s.kind - 1).toNat]? = some x):bn w s = ⟨w.plan,w.key,w.boss,w.workers.set (s.kind - 1).toNat (uZ x w.plan m).worker,w.flight,uK w s⟩:=by
 have e:iu w.workers (s.kind - 1) = x:=by unfold iu;rw[hw];rfl
 unfold bn;rw[hm];dsimp only;rw[if_neg h0,if_pos hx,e];rfl
theorem mI{w:World}{s:Parcel}{m:Message}(hm:ci s.text w.key = some m)(h0:¬s.kind = 0)(hx:¬jo w s.kind):bn w s = ⟨w.plan,w.key,w.boss,w.workers,w.flight,uK w s⟩:=by
 unfold bn;rw[hm];dsimp only;rw[if_neg h0,if_neg hx];rfl
theorem NX{w:World}{e:Event}(h:e.kind = 1):doW w e = dh w:=by rw[doW,if_pos h]
theorem QY{w:World}{e:Event}(h:e.kind = 2):doW w e = cS w e.a:=by rw[doW,if_neg OM,if_pos h]
theorem QX{w:World}{e:Event}(h:e.kind = 3):doW w e = ⟨w.plan,w.key,w.boss,w.workers,nY w.flight e.a,w.forged⟩:=by rw[doW,if_neg OM,if_neg OM,if_pos h];rfl
theorem QW{w:World}{e:Event}(h:e.kind = 4):doW w e = ⟨w.plan,w.key,w.boss,w.workers,bA w.flight e.a,w.forged⟩:=by rw[doW,if_neg OM,if_neg OM,if_neg OM,if_pos h];rfl
theorem QV{w:World}{e:Event}(h:e.kind = 5):doW w e = ⟨w.plan,w.key,w.boss,w.workers,mR w.flight e.a e.b e.c,w.forged⟩:=by rw[doW,if_neg OM,if_neg OM,if_neg OM,if_neg OM,if_pos h];rfl
theorem Sl{w:World}{e:Event}(h:e.kind = 6):doW w e = if e.a = 0 then wk w (oC w.boss w.plan e.b)else if jo w e.a then Cg w e.a (lV (iu w.workers (e.a - 1)))else w:=by rw[doW,if_neg OM,if_neg OM,if_neg OM,if_neg OM,if_neg OM,if_pos h]
theorem Sk{w:World}{e:Event}(h:e.kind = 7):doW w e = if e.a = 0 then wk w (oB w.boss w.plan)else if jo w e.a then Cg w e.a (jd (iu w.workers (e.a - 1)))else w:=by rw[doW,if_neg OM,if_neg OM,if_neg OM,if_neg OM,if_neg OM,if_neg OM,if_pos h]
theorem KB{w:World}{e:Event}(h:e.kind = 6)(h0:e.a = 0):doW w e = ⟨w.plan,w.key,oC w.boss w.plan e.b,w.workers,w.flight,w.forged⟩:=by rw[Sl h,if_pos h0];rfl
theorem Ky{w:World}{e:Event}(h:e.kind = 7)(h0:e.a = 0):doW w e = ⟨w.plan,w.key,oB w.boss w.plan,w.workers,w.flight,w.forged⟩:=by rw[Sk h,if_pos h0];rfl
theorem Kz{w:World}{e:Event}{x:Worker}(h:e.kind = 6)(hx:jo w e.a)(hw:w.workers[(e.a - 1).toNat]? = some x):doW w e = ⟨w.plan,w.key,w.boss,w.workers.set (e.a - 1).toNat (lV x),w.flight,w.forged⟩:=by
 have e1:iu w.workers (e.a - 1) = x:=by unfold iu;rw[hw];rfl
 rw[Sl h,if_neg (by have:=hx.1;omega),if_pos hx,e1];rfl
theorem Kv{w:World}{e:Event}{x:Worker}(h:e.kind = 7)(hx:jo w e.a)(hw:w.workers[(e.a - 1).toNat]? = some x):doW w e = ⟨w.plan,w.key,w.boss,w.workers.set (e.a - 1).toNat (jd x),w.flight,w.forged⟩:=by
 have e1:iu w.workers (e.a - 1) = x:=by unfold iu;rw[hw];rfl
 rw[Sk h,if_neg (by have:=hx.1;omega),if_pos hx,e1];rfl
theorem KA{w:World}{e:Event}(h:e.kind = 6)(h0:¬e.a = 0)(hx:¬jo w e.a):doW w e = w:=by rw[Sl h,if_neg h0,if_neg hx]
theorem Kw{w:World}{e:Event}(h:e.kind = 7)(h0:¬e.a = 0)(hx:¬jo w e.a):doW w e = w:=by rw[Sk h,if_neg h0,if_neg hx]
abbrev Cf(p:Plan)(key:ByteArray)(b:Boss)(ws:List (List T))(fl:List Parcel)(f:ByteArray):V:=.agg [.own dM (p.tasks.map aC),.t (.s key),.t (.i b.workers),.t (.b b.up),.t (.i b.now),.t (.i b.since),.t (.i b.epoch),.t (.i b.given),.own [false] (b.log.safe.map ak),.own [false] (b.log.loose.map ak),.own [false] (b.results.map ak),.own fv (b.jobs.map aV),.own cM (b.seats.map aR),.own cN (b.owed.map bg),.own dU ws,.own pkd (fl.map bI),.t (.s f)]
theorem jy{xs:List Worker}{n:Nat}{x:Worker}:(xs.map au).set n (au x) = (xs.set n x).map au:=by rw[←List.map_set]
theorem iY(p:Plan)(key:ByteArray)(b:Boss)(ws:List Worker)(n:Nat)(y:Worker)(fl:List Parcel)(f:ByteArray):Cf p key b ((ws.map au).set n (au y)) fl f = az ⟨p,key,b,ws.set n y,fl,f⟩:=by
 show Cf p key b _ fl f = Cf p key b ((ws.set n y).map au) fl f
 rw[jy]
theorem jc(p:Plan)(key:ByteArray)(b:Boss)(ws:List Worker)(n:Nat)(y:Worker)(fl:List Parcel)(f:ByteArray)(os:List (List V)):cellsOf (Cf p key b ((ws.map au).set n (au y)) fl f) :: os = cellsOf (az ⟨p,key,b,ws.set n y,fl,f⟩) :: os:=by rw[iY]
end Go.K
end
section
open Go Go.Tm Go.Proofs
namespace Go.K
theorem sj{b:Boss}{m:Message}(h:Owes b m):uA b m = ⟨b.workers,b.up,b.now,b.since,b.epoch,b.given,b.log,b.results,b.jobs,b.seats,b.owed++ [⟨m.frm,m.lease,m.task⟩]⟩:=if_pos h
theorem gw{b:Boss}{m:Message}(h:¬Owes b m):uA b m = b:=if_neg h
theorem N8{rs:List ByteArray}{k:Int}{v:ByteArray}(h:k.toNat < rs.length):atS (rs.set k.toNat v) k = v:=by
 unfold atS;rw[List.getElem?_set_self h];rfl
theorem HK{b:Boss}{ts:List Task}{m:Message}(h:CanPut b ts m)(hk:m.task.toNat < b.results.length)(ht:¬m.text = emp):du b ts m = uA (mc b m) m:=by
 have e1:jX b ts m = mc b m:=if_pos h
 have e2:rD (mc b m) m = mc b m:=if_neg (by rw[show(mc b m).results = b.results.set m.task.toNat m.text from rfl,N8 hk];exact ht)
 rw[du,e1,e2]
theorem HL{b:Boss}{ts:List Task}{m:Message}(h:¬CanPut b ts m)(hy:atS b.results m.task = emp)(ht:¬m.text = emp):du b ts m = gb b m:=by
 have e1:jX b ts m = b:=if_neg h
 have e2:rD b m = gb b m:=if_pos hy
 have e3:(gb b m).results = b.results:=by unfold gb;split <;> rfl
 rw[du,e1,e2,gw]
 intro q
 have:=q.same
 rw[e3,hy]at this
 exact ht this.symm
theorem Ee{b:Boss}{ts:List Task}{m:Message}(hy:¬atS b.results m.task = emp):du b ts m = uA b m:=by
 have e1:jX b ts m = b:=if_neg fun q=>hy q.res
 have e2:rD b m = b:=if_neg hy
 rw[du,e1,e2]
theorem El{b:Boss}{ts:List Task}{m:Message}(hk:m.task.toNat < b.results.length)(h1:b.owed.length < 2000)(h2:∀ o∈b.owed,¬(o.worker = m.frm∧o.lease = m.lease)):Owes (mc b m) m:=⟨N8 hk,h1,h2⟩
theorem sr{xs:List Owed}{m:Message}{n:Nat}{o:Owed}(h:xs[n]? = some o)(ho:o.worker = m.frm∧o.lease = m.lease):¬∀ o∈xs,¬(o.worker = m.frm∧o.lease = m.lease):=fun q=>q o (List.mem_of_getElem? h) ho
theorem sA{b:Boss}{m:Message}(h:rF b m):gb b m = b:=if_pos h
theorem lI{b:Boss}{m:Message}(h:¬rF b m):gb b m = ⟨b.workers,b.up,b.now,b.since,b.epoch,b.given,b.log,b.results,b.jobs,b.seats.set (fG m) ⟨true,m.epoch⟩,b.owed⟩:=if_neg h
theorem ER{b:Boss}{m:Message}(h:rF b m):qE b m = b:=if_pos h
theorem ES{b:Boss}{m:Message}(h:¬rF b m):qE b m = ⟨b.workers,b.up,b.now,b.since,b.epoch,b.given,b.log,b.results,b.jobs.map (mw m.frm),b.seats.set (fG m) ⟨true,m.epoch⟩,b.owed⟩:=if_neg h
theorem Cq{b:Boss}{m:Message}{x:Seat}(h:b.seats[fG m]? = some x):rF b m↔m.epoch < x.epoch:=by unfold rF;rw[lx,h];exact Iff.rfl
structure ResIn (b:Boss) (ts:List Task) (m:Message):Prop where
 chk:ah ts = 0
 res:b.results.length = ts.length
 jobs:b.jobs.length = ts.length
 task:0≤m.task∧m.task < ts.length
 safe:b.log.safe.length≤1048576
 loose:b.log.loose.length≤1048576
 owed:b.owed.length≤1048576
 seats:b.seats.length≤8
 frm:1≤m.frm∧m.frm≤b.seats.length
 text:(m.text.size:Int) = 8
theorem p9(b:Boss)(p:Plan)(m:Message)(h:ResIn b p.tasks m):F pS [.ptr (cellsOf (aG b)),.val (cE p),.val (dH m),.rel 0 (some (10,fG m,2)) 0] (.tup []) [cellsOf (aG (du b p.tasks m)),[],[],[]]:=by
 obtain⟨hck,u3,u4,⟨t1,t2⟩,l1,l2,l3,l4,⟨f1,f2⟩,tx⟩:=h
 have hpl:=(bP hck).1
 have hsi:fG m < b.seats.length:=by unfold fG;omega
 have hkr:m.task.toNat < b.results.length:=by omega
 have hte:¬m.text = emp:=fun q=>by rw[q]at tx;cases tx
 obtain⟨x,hx⟩:=aj hsi
 have hold:=Cq hx
 obtain⟨t,ht0⟩:=aj (xs:=p.tasks) (n:=m.task.toNat) OM
 obtain⟨y,hy0⟩:=aj (xs:=b.results) (n:=m.task.toNat) OM
 obtain⟨j,hj0⟩:=aj (xs:=b.jobs) (n:=m.task.toNat) OM
 have hya:=kR hy0
 obtain⟨_,_,a3,a4⟩:=bz hck ht0
 have crd:=iz b.results t.deps (fun d hd=>by have:=a4 d hd;omega) OM
 have cf:=kO 2 b.epoch m.task m.text OM
 rw[Ib]at cf
 by_cases hA:y = emp
 ·by_cases hP:CanPut b p.tasks m
  ·have hF:cu b.results t.deps:=by have:=hP.ready;rw[cJ ht0]at this;exact this
   have hR:=hP.room
   rw[decide_eq_true hF]at crd
   rw[HK hP hkr hte]
   by_cases hO:b.owed.length < 2000
   ·refine bi ?_
    conv=>whnf
    refine g 0 0 []<|J Zd9<|g 11 13 []<|J UC<|W.sq<|gd 13 49 [[],[],[],[],[],[.n (Int.toNat m.task)],[.x (ak y)],[],[],[BT],[BT],[BT],[BT],[BT],[BT],[BT],[BT,.x (aC t)],[BT],[BT],[BT,.call VT [[],[]]],[BT],[],[BT],[BT],[BT],[BT],[BT],[BT],[BT],[BT],[BT],[BT],[BT],[BT],[BT,.i ((↑(List.length (List.map ak b.log.safe)):Int) + (↑(List.length (List.map ak b.log.loose)):Int))],[BT],[BT]] ?_
    conv=>whnf
    refine J ⟨I,I,I,I,I,Zdo,xA,I,I,⟨tO,I⟩,⟨tO,I⟩,⟨tO,I⟩,⟨tO,I⟩,⟨tO,I⟩,⟨tO,I⟩,⟨tO,I⟩,⟨tO,AS,xA⟩,⟨tO,I⟩,⟨tO,I⟩,⟨tO,UB,I,UT,UA,AS⟩,tO,I,Zde,Zde,Zde,Zde,Zde,Zde,Zde,Zde,Zde,Zde,Zde,Zde,⟨rfl,w64 LN LN⟩,Zde,rfl,I⟩<|J KR<|W.cn<|J (fun h1=>?_) fun h1=>?_
    replace h1:=dt h1
    simp only[LM]at h1
    refine gd 49 58 [[],[],[],[],[],[],[],[.n (Int.toNat m.task)],[.x (ak y)]] ?_
    conv=>whnf
    refine J ⟨I,I,I,I,I,I,I,Zdo,⟨UA,xA⟩,I⟩<|J KR<|gd 58 78 [[],[],[],[],[],[],[],[],[],[],[],[],[],[],[.call (V.s (cq {kind:=2,epoch:=b.epoch,task:=m.task,text:=m.text:Entry})) [[]]],[],[],[],[],[],[]] ?_
    conv=>whnf
    refine J ⟨I,I,I,I,I,I,I,I,I,I,I,I,I,I,Zdb,US,Zdi,I,I,I,UA,I⟩<|J KR<|rg [.n (Int.toNat m.task),.x (aV j)]<|J ⟨I,I,I,I,I,I,Zdo,⟨UC,xA⟩,I⟩<|W.sq<|gd 78 101 [[],[],[],[],[],[.n (Int.toNat m.task)],[.x (dY (ak y) 0 [T.v (Value.string m.text)])],[],[],[BF],[BF],[BF],[BF],[BF],[BF],[BF],[BF]] ?_
    conv=>whnf
    refine J ⟨I,I,I,I,I,Zdo,gL LN,I,I,dO,dO,dO,dO,dO,dO,dO,dO,I⟩<|J KR<|W.cn<|J (noT rfl) fun _=>W.skip<|W.sq<|gd 101 124 [[],[],[],[],[],[.n (Int.toNat m.task)],[.x (dY (ak y) 0 [T.v (Value.string m.text)])],[],[],[],[],[BF],[BF],[BF],[BF],[BF],[BF],[BF]] ?_
    conv=>whnf
    refine J ⟨I,I,I,I,I,Zdo,gL LN,I,I,I,I,⟨lh rfl,I⟩,⟨lh rfl,I⟩,⟨lh rfl,I⟩,⟨lh rfl,I⟩,⟨lh rfl,I⟩,⟨lh rfl,I⟩,lh rfl,I⟩<|J KR<|W.cn<|J (fun h2=>?_) fun h2=>?_
    replace h2:=dt h2
    simp only[LM]at h2
    omega
    replace h2:=df h2
    simp only[LM]at h2
    refine W.skip<|W.sq<|g 124 128 []<|J UF<|W.blk ?_
    rotate_left
    replace h1:=df h1
    simp only[LM]at h1
    omega
    refine W.lp (fun s (n:Nat)=>⟨[(0,s.s 0),(1,s.s 1),(2,s.s 2),(5,s.s 5),(6,s.s 6),(8,s.s 8),(128,s.s 128),(129,s.s 129),(130,.i n)],[(162,[s.c 162 0,s.c 162 1,s.c 162 2,s.c 162 3,s.c 162 4,s.c 162 5,s.c 162 6,s.c 162 7,s.c 162 8,s.c 162 9,s.c 162 10,s.c 162 11]),(5,[s.c 5 0]),(6,[s.c 6 0,s.c 6 1,s.c 6 2,s.c 6 3,s.c 6 4,s.c 6 5,s.c 6 6,s.c 6 7])],[]⟩) (fun(n:Nat)=>n≤b.owed.length∧∀ o∈b.owed.take n,¬(o.worker = m.frm∧o.lease = m.lease)) (fun(n:Nat)=>b.owed.length - n) (0) [some 162,some 5,some 6] [] Zdk (by simp) ?_
    rintro n ⟨hn,hc⟩
    by_cases hn2:n < b.owed.length
    ·obtain⟨o,ho⟩:=aj hn2
     by_cases hw:o.worker = m.frm
     ·by_cases hl:o.lease = m.lease
      ·rw[gw (b:=mc b m) (fun q=>sr ho ⟨hw,hl⟩ q.new)]
       conv=>whnf
       refine g 0 0 []<|J UA<|W.sq<|W.cn<|J (fun _=>(W.skip (W.sq (W.blk (g 131 134 [.n (n),.x (bg o)]<|J Zcz (g 134 145 [BT,BT,BT,BT,BT,BT]<|J Zci (W.cn<|J (fun _=>(W.ret (EndsW.rt<|J I<|J ?_ ?_))) (noF tO)))))))) (noF SI)
       rfl
       all_goals (simp only[mc,aG,cellsOf,List.map_set,List.map_append,List.map_cons,List.map_nil];rfl)
      ·conv=>whnf
       refine g 0 0 []<|J UA<|W.sq<|W.cn<|J (fun _=>(W.skip (W.sq (W.blk (g 131 134 [.n (n),.x (bg o)]<|J Zcz (g 134 145 [BT,BT,BT,BT,BT,BT]<|J Zci (W.cn<|J (noT dO) fun _=>(W.skip (rg [.i ((n:Int) +1)]<|J Zdm ?_))))))))) (noF SI)
       refine⟨n+1,[some 162,some 5,some 6],[],Zdk,?_,?_⟩
       rotate_left
       (dsimp only;omega)
       dsimp only
       exact⟨by omega,dI hc ho fun q=>hl q.2⟩
     ·conv=>whnf
      refine g 0 0 []<|J UA<|W.sq<|W.cn<|J (fun _=>(W.skip (W.sq (W.blk (g 131 134 [.n (n),.x (bg o)]<|J Zcz (g 134 145 [BF,BF,BF,BF,BF,BF]<|J ⟨I,I,I,I,I,I,dO,dO,dO,dO,dO,dO,I⟩ (W.cn<|J (noT rfl) fun _=>(W.skip (rg [.i ((n:Int) +1)]<|J Zdm ?_))))))))) (noF SI)
      refine⟨n+1,[some 162,some 5,some 6],[],Zdk,?_,?_⟩
      rotate_left
      (dsimp only;omega)
      dsimp only
      exact⟨by omega,dI hc ho fun q=>hw q.1⟩
    ·rw[bF OM]at hc
     rw[sj (El (ts:=p.tasks) hkr hO hc)]
     conv=>whnf
     refine g 0 0 []<|J UA<|W.sq<|W.cn<|J (noT SI) fun _=>W.exit<|rgd [[],[],[],[],[],[],[],[],[],[],[],[],[],[],[],[]] ?_
     conv=>whnf
     refine J ⟨I,I,I,I,I,I,I,I,I,I,I,⟨UC,I⟩,Zdi,I,I,UA,I⟩<|J KR<|EndsW.nm<|J I<|J ?_ ?_
     rfl
     all_goals (simp only[mc,aG,cellsOf,List.map_set,List.map_append,List.map_cons,List.map_nil];rfl)
   ·rw[gw (b:=mc b m) (fun q=>hO q.room)]
    refine bi ?_
    conv=>whnf
    refine g 0 0 []<|J Zd9<|g 11 13 []<|J UC<|W.sq<|gd 13 49 [[],[],[],[],[],[.n (Int.toNat m.task)],[.x (ak y)],[],[],[BT],[BT],[BT],[BT],[BT],[BT],[BT],[BT,.x (aC t)],[BT],[BT],[BT,.call VT [[],[]]],[BT],[],[BT],[BT],[BT],[BT],[BT],[BT],[BT],[BT],[BT],[BT],[BT],[BT],[BT,.i ((↑(List.length (List.map ak b.log.safe)):Int) + (↑(List.length (List.map ak b.log.loose)):Int))],[BT],[BT]] ?_
    conv=>whnf
    refine J ⟨I,I,I,I,I,Zdo,xA,I,I,⟨tO,I⟩,⟨tO,I⟩,⟨tO,I⟩,⟨tO,I⟩,⟨tO,I⟩,⟨tO,I⟩,⟨tO,I⟩,⟨tO,AS,xA⟩,⟨tO,I⟩,⟨tO,I⟩,⟨tO,UB,I,UT,UA,AS⟩,tO,I,Zde,Zde,Zde,Zde,Zde,Zde,Zde,Zde,Zde,Zde,Zde,Zde,⟨rfl,w64 LN LN⟩,Zde,rfl,I⟩<|J KR<|W.cn<|J (fun h1=>?_) fun h1=>?_
    replace h1:=dt h1
    simp only[LM]at h1
    refine gd 49 58 [[],[],[],[],[],[],[],[.n (Int.toNat m.task)],[.x (ak y)]] ?_
    conv=>whnf
    refine J ⟨I,I,I,I,I,I,I,Zdo,⟨UA,xA⟩,I⟩<|J KR<|gd 58 78 [[],[],[],[],[],[],[],[],[],[],[],[],[],[],[.call (V.s (cq {kind:=2,epoch:=b.epoch,task:=m.task,text:=m.text:Entry})) [[]]],[],[],[],[],[],[]] ?_
    conv=>whnf
    refine J ⟨I,I,I,I,I,I,I,I,I,I,I,I,I,I,Zdb,US,Zdi,I,I,I,UA,I⟩<|J KR<|rg [.n (Int.toNat m.task),.x (aV j)]<|J ⟨I,I,I,I,I,I,Zdo,⟨UC,xA⟩,I⟩<|W.sq<|gd 78 101 [[],[],[],[],[],[.n (Int.toNat m.task)],[.x (dY (ak y) 0 [T.v (Value.string m.text)])],[],[],[BF],[BF],[BF],[BF],[BF],[BF],[BF],[BF]] ?_
    conv=>whnf
    refine J ⟨I,I,I,I,I,Zdo,gL LN,I,I,dO,dO,dO,dO,dO,dO,dO,dO,I⟩<|J KR<|W.cn<|J (noT rfl) fun _=>W.skip<|W.sq<|gd 101 124 [[],[],[],[],[],[.n (Int.toNat m.task)],[.x (dY (ak y) 0 [T.v (Value.string m.text)])],[],[],[],[],[BF],[BF],[BF],[BF],[BF],[BF],[BF]] ?_
    conv=>whnf
    refine J ⟨I,I,I,I,I,Zdo,gL LN,I,I,I,I,⟨lh rfl,I⟩,⟨lh rfl,I⟩,⟨lh rfl,I⟩,⟨lh rfl,I⟩,⟨lh rfl,I⟩,⟨lh rfl,I⟩,lh rfl,I⟩<|J KR<|W.cn<|J (fun h2=>?_) fun h2=>?_
    replace h2:=dt h2
    simp only[LM]at h2
    refine W.ret<|EndsW.rt<|J I<|J ?_ ?_
    rfl
    rotate_left
    replace h2:=df h2
    simp only[LM]at h2
    omega
    replace h1:=df h1
    simp only[LM]at h1
    omega
    all_goals (simp only[mc,aG,cellsOf,List.map_set,List.map_append,List.map_cons,List.map_nil];rfl)
  ·rw[HL hP (by rw[hya];exact hA) hte]
   by_cases hF:cu b.results t.deps
   ·rw[decide_eq_true hF]at crd
    have hR:¬b.log.safe.length+b.log.loose.length < 310:=fun q=>hP ⟨by rw[hya];exact hA,by rw[cJ ht0];exact hF,q⟩
    by_cases ho:rF b m
    ·have ho2:=hold.1 ho
     rw[sA ho]
     refine bi ?_
     conv=>whnf
     refine g 0 0 []<|J Zd9<|g 11 13 []<|J UC<|W.sq<|gd 13 49 [[],[],[],[],[],[.n (Int.toNat m.task)],[.x (ak y)],[],[],[BT],[BT],[BT],[BT],[BT],[BT],[BT],[BT,.x (aC t)],[BT],[BT],[BT,.call VT [[],[]]],[BT],[],[BT],[BT],[BT],[BT],[BT],[BT],[BT],[BT],[BT],[BT],[BT],[BT],[BT,.i ((↑(List.length (List.map ak b.log.safe)):Int) + (↑(List.length (List.map ak b.log.loose)):Int))],[BT],[BT]] ?_
     conv=>whnf
     refine J ⟨I,I,I,I,I,Zdo,xA,I,I,⟨tO,I⟩,⟨tO,I⟩,⟨tO,I⟩,⟨tO,I⟩,⟨tO,I⟩,⟨tO,I⟩,⟨tO,I⟩,⟨tO,AS,xA⟩,⟨tO,I⟩,⟨tO,I⟩,⟨tO,UB,I,UT,UA,AS⟩,tO,I,Zde,Zde,Zde,Zde,Zde,Zde,Zde,Zde,Zde,Zde,Zde,Zde,⟨rfl,w64 LN LN⟩,Zde,rfl,I⟩<|J KR<|W.cn<|J (fun h1=>?_) fun h1=>?_
     replace h1:=dt h1
     simp only[LM]at h1
     omega
     replace h1:=df h1
     simp only[LM]at h1
     refine W.skip<|W.sq<|gd 49 101 [[],[],[],[],[],[.n (Int.toNat m.task)],[.x (ak y)],[],[],[BT],[BT],[BT],[BT],[BT],[BT,.x (aR x)],[BT],[BT]] ?_
     conv=>whnf
     refine J Zbq<|J KR<|W.cn<|J (noT dO) fun _=>W.skip<|W.sq ?_
     by_cases h2:y = Message.text m
     refine gd 101 124 [[],[],[],[],[],[.n (Int.toNat m.task)],[.x (ak y)],[],[],[],[],[BF],[BF],[BF],[BF],[BF],[BF],[BF]] ?_
     conv=>whnf
     refine J Za4<|J KR<|W.cn<|J (fun _=>(RT ?_)) (noF (by simp_all))
     rfl
     refine gd 101 124 [[],[],[],[],[],[.n (Int.toNat m.task)],[.x (ak y)],[],[],[],[],[BT],[BT],[BT],[BT],[BT],[BT],[BT]] ?_
     conv=>whnf
     refine J Zbp<|J KR<|W.cn<|J (fun _=>(RT ?_)) (noF rfl)
     rfl
    ·have ho2:¬m.epoch < x.epoch:=fun q=>ho (hold.2 q)
     rw[lI ho]
     refine bi ?_
     conv=>whnf
     refine g 0 0 []<|J Zd9<|g 11 13 []<|J UC<|W.sq<|gd 13 49 [[],[],[],[],[],[.n (Int.toNat m.task)],[.x (ak y)],[],[],[BT],[BT],[BT],[BT],[BT],[BT],[BT],[BT,.x (aC t)],[BT],[BT],[BT,.call VT [[],[]]],[BT],[],[BT],[BT],[BT],[BT],[BT],[BT],[BT],[BT],[BT],[BT],[BT],[BT],[BT,.i ((↑(List.length (List.map ak b.log.safe)):Int) + (↑(List.length (List.map ak b.log.loose)):Int))],[BT],[BT]] ?_
     conv=>whnf
     refine J ⟨I,I,I,I,I,Zdo,xA,I,I,⟨tO,I⟩,⟨tO,I⟩,⟨tO,I⟩,⟨tO,I⟩,⟨tO,I⟩,⟨tO,I⟩,⟨tO,I⟩,⟨tO,AS,xA⟩,⟨tO,I⟩,⟨tO,I⟩,⟨tO,UB,I,UT,UA,AS⟩,tO,I,Zde,Zde,Zde,Zde,Zde,Zde,Zde,Zde,Zde,Zde,Zde,Zde,⟨rfl,w64 LN LN⟩,Zde,rfl,I⟩<|J KR<|W.cn<|J (fun h1=>?_) fun h1=>?_
     replace h1:=dt h1
     simp only[LM]at h1
     omega
     replace h1:=df h1
     simp only[LM]at h1
     refine W.skip<|W.sq<|gd 49 101 [[],[],[],[],[],[.n (Int.toNat m.task)],[.x (ak y)],[],[],[BT],[BT],[BT],[BT],[BT],[BT,.x (aR x)],[BT],[BT]] ?_
     conv=>whnf
     refine J Zbq<|J KR<|W.cn<|J (fun _=>(rg [.x (aR x)]<|J ⟨I,I,I,I,I,⟨UB,xA⟩,I⟩ (W.sq ?_))) (noF tO)
     by_cases h2:y = Message.text m
     refine gd 101 124 [[],[],[],[],[],[.n (Int.toNat m.task)],[.x (ak y)],[],[],[],[],[BF],[BF],[BF],[BF],[BF],[BF],[BF]] ?_
     conv=>whnf
     refine J Za4<|J KR<|W.cn<|J (fun _=>(W.ret (EndsW.rt<|J I<|J ?_ ?_))) (noF (by simp_all))
     rfl
     rotate_left
     refine gd 101 124 [[],[],[],[],[],[.n (Int.toNat m.task)],[.x (ak y)],[],[],[],[],[BT],[BT],[BT],[BT],[BT],[BT],[BT]] ?_
     conv=>whnf
     refine J Zbp<|J KR<|W.cn<|J (fun _=>(W.ret (EndsW.rt<|J I<|J ?_ ?_))) (noF rfl)
     rfl
     rotate_left
     all_goals (simp only[mc,aG,cellsOf,List.map_set,List.map_append,List.map_cons,List.map_nil];rfl)
   ·rw[decide_eq_false hF]at crd
    by_cases ho:rF b m
    ·have ho2:=hold.1 ho
     rw[sA ho]
     refine bi ?_
     conv=>whnf
     refine g 0 0 []<|J Zd9<|g 11 13 []<|J UC<|W.sq<|gd 13 49 [[],[],[],[],[],[.n (Int.toNat m.task)],[.x (ak y)],[],[],[BT],[BT],[BT],[BT],[BT],[BT],[BT],[BT,.x (aC t)],[BT],[BT],[BT,.call VF [[],[]]],[BT],[],[BF],[BF],[BF],[BF],[BF],[BF],[BF],[BF],[BF],[BF],[BF],[BF],[BF],[BF],[BF]] ?_
     conv=>whnf
     refine J Zbo<|J KR<|W.cn<|J (noT rfl) fun _=>W.skip<|W.sq<|gd 49 101 [[],[],[],[],[],[.n (Int.toNat m.task)],[.x (ak y)],[],[],[BT],[BT],[BT],[BT],[BT],[BT,.x (aR x)],[BT],[BT]] ?_
     conv=>whnf
     refine J Zbq<|J KR<|W.cn<|J (noT dO) fun _=>W.skip<|W.sq ?_
     by_cases h1:y = Message.text m
     refine gd 101 124 [[],[],[],[],[],[.n (Int.toNat m.task)],[.x (ak y)],[],[],[],[],[BF],[BF],[BF],[BF],[BF],[BF],[BF]] ?_
     conv=>whnf
     refine J Za4<|J KR<|W.cn<|J (fun _=>(RT ?_)) (noF (by simp_all))
     rfl
     refine gd 101 124 [[],[],[],[],[],[.n (Int.toNat m.task)],[.x (ak y)],[],[],[],[],[BT],[BT],[BT],[BT],[BT],[BT],[BT]] ?_
     conv=>whnf
     refine J Zbp<|J KR<|W.cn<|J (fun _=>(RT ?_)) (noF rfl)
     rfl
    ·have ho2:¬m.epoch < x.epoch:=fun q=>ho (hold.2 q)
     rw[lI ho]
     refine bi ?_
     conv=>whnf
     refine g 0 0 []<|J Zd9<|g 11 13 []<|J UC<|W.sq<|gd 13 49 [[],[],[],[],[],[.n (Int.toNat m.task)],[.x (ak y)],[],[],[BT],[BT],[BT],[BT],[BT],[BT],[BT],[BT,.x (aC t)],[BT],[BT],[BT,.call VF [[],[]]],[BT],[],[BF],[BF],[BF],[BF],[BF],[BF],[BF],[BF],[BF],[BF],[BF],[BF],[BF],[BF],[BF]] ?_
     conv=>whnf
     refine J Zbo<|J KR<|W.cn<|J (noT rfl) fun _=>W.skip<|W.sq<|gd 49 101 [[],[],[],[],[],[.n (Int.toNat m.task)],[.x (ak y)],[],[],[BT],[BT],[BT],[BT],[BT],[BT,.x (aR x)],[BT],[BT]] ?_
     conv=>whnf
     refine J Zbq<|J KR<|W.cn<|J (fun _=>(rg [.x (aR x)]<|J ⟨I,I,I,I,I,⟨UB,xA⟩,I⟩ (W.sq ?_))) (noF tO)
     by_cases h1:y = Message.text m
     refine gd 101 124 [[],[],[],[],[],[.n (Int.toNat m.task)],[.x (ak y)],[],[],[],[],[BF],[BF],[BF],[BF],[BF],[BF],[BF]] ?_
     conv=>whnf
     refine J Za4<|J KR<|W.cn<|J (fun _=>(W.ret (EndsW.rt<|J I<|J ?_ ?_))) (noF (by simp_all))
     rfl
     rotate_left
     refine gd 101 124 [[],[],[],[],[],[.n (Int.toNat m.task)],[.x (ak y)],[],[],[],[],[BT],[BT],[BT],[BT],[BT],[BT],[BT]] ?_
     conv=>whnf
     refine J Zbp<|J KR<|W.cn<|J (fun _=>(W.ret (EndsW.rt<|J I<|J ?_ ?_))) (noF rfl)
     rfl
     rotate_left
     all_goals (simp only[mc,aG,cellsOf,List.map_set,List.map_append,List.map_cons,List.map_nil];rfl)
 ·rw[Ee (by rw[hya];exact hA)]
  by_cases hs:y = m.text
  ·by_cases hO:b.owed.length < 2000
   ·refine bi ?_
    conv=>whnf
    refine g 0 0 []<|J Zd9<|g 11 13 []<|J UC<|W.sq<|gd 13 49 [[],[],[],[],[],[.n (Int.toNat m.task)],[.x (ak y)],[],[],[BF],[BF],[BF],[BF],[BF],[BF],[BF],[BF],[BF],[BF],[BF],[BF],[],[BF],[BF],[BF],[BF],[BF],[BF],[BF],[BF],[BF],[BF],[BF],[BF],[BF],[BF],[BF]] ?_
    conv=>whnf
    refine J Zbv<|J KR<|W.cn<|J (noT rfl) fun _=>W.skip<|W.sq<|gd 49 101 [[],[],[],[],[],[.n (Int.toNat m.task)],[.x (ak y)],[],[],[BF],[BF],[BF],[BF],[BF],[BF],[BF],[BF]] ?_
    conv=>whnf
    refine J ⟨I,I,I,I,I,Zdo,xA,I,I,dO,dO,dO,dO,dO,dO,dO,dO,I⟩<|J KR<|W.cn<|J (noT rfl) fun _=>W.skip<|W.sq<|gd 101 124 [[],[],[],[],[],[.n (Int.toNat m.task)],[.x (ak y)],[],[],[],[],[BF],[BF],[BF],[BF],[BF],[BF],[BF]] ?_
    conv=>whnf
    refine J Za4<|J KR<|W.cn<|J (fun h1=>?_) fun h1=>?_
    replace h1:=dt h1
    simp only[LM]at h1
    omega
    replace h1:=df h1
    simp only[LM]at h1
    refine W.skip<|W.sq<|g 124 128 []<|J UF<|W.blk<|W.lp (fun s (n:Nat)=>⟨[(0,s.s 0),(1,s.s 1),(2,s.s 2),(5,s.s 5),(6,s.s 6),(8,s.s 8),(128,s.s 128),(129,s.s 129),(130,.i n)],[(162,[s.c 162 0,s.c 162 1,s.c 162 2,s.c 162 3,s.c 162 4,s.c 162 5,s.c 162 6,s.c 162 7,s.c 162 8,s.c 162 9,s.c 162 10,s.c 162 11]),(5,[s.c 5 0]),(6,[s.c 6 0,s.c 6 1,s.c 6 2,s.c 6 3,s.c 6 4,s.c 6 5,s.c 6 6,s.c 6 7])],[]⟩) (fun(n:Nat)=>n≤b.owed.length∧∀ o∈b.owed.take n,¬(o.worker = m.frm∧o.lease = m.lease)) (fun(n:Nat)=>b.owed.length - n) (0) [some 162,some 5,some 6] [] Zdk (by simp) ?_
    rintro n ⟨hn,hc⟩
    by_cases hn2:n < b.owed.length
    ·obtain⟨o,ho⟩:=aj hn2
     by_cases hw:o.worker = m.frm
     ·by_cases hl:o.lease = m.lease
      ·rw[gw (fun q=>sr ho ⟨hw,hl⟩ q.new)]
       conv=>whnf
       refine g 0 0 []<|J UA<|W.sq<|W.cn<|J (fun _=>(W.skip (W.sq (W.blk (g 131 134 [.n (n),.x (bg o)]<|J Zcz (g 134 145 [BT,BT,BT,BT,BT,BT]<|J Zci (W.cn<|J (fun _=>(RT ?_)) (noF tO)))))))) (noF SI)
       rfl
       all_goals (simp only[mc,aG,cellsOf,List.map_set,List.map_append,List.map_cons,List.map_nil];rfl)
      ·conv=>whnf
       refine g 0 0 []<|J UA<|W.sq<|W.cn<|J (fun _=>(W.skip (W.sq (W.blk (g 131 134 [.n (n),.x (bg o)]<|J Zcz (g 134 145 [BT,BT,BT,BT,BT,BT]<|J Zci (W.cn<|J (noT dO) fun _=>(W.skip (rg [.i ((n:Int) +1)]<|J Zdm ?_))))))))) (noF SI)
       refine⟨n+1,[some 162,some 5,some 6],[],Zdk,?_,?_⟩
       rotate_left
       (dsimp only;omega)
       dsimp only
       exact⟨by omega,dI hc ho fun q=>hl q.2⟩
     ·conv=>whnf
      refine g 0 0 []<|J UA<|W.sq<|W.cn<|J (fun _=>(W.skip (W.sq (W.blk (g 131 134 [.n (n),.x (bg o)]<|J Zcz (g 134 145 [BF,BF,BF,BF,BF,BF]<|J ⟨I,I,I,I,I,I,dO,dO,dO,dO,dO,dO,I⟩ (W.cn<|J (noT rfl) fun _=>(W.skip (rg [.i ((n:Int) +1)]<|J Zdm ?_))))))))) (noF SI)
      refine⟨n+1,[some 162,some 5,some 6],[],Zdk,?_,?_⟩
      rotate_left
      (dsimp only;omega)
      dsimp only
      exact⟨by omega,dI hc ho fun q=>hw q.1⟩
    ·rw[bF OM]at hc
     rw[sj ⟨by rw[hya];exact hs,hO,hc⟩]
     conv=>whnf
     refine g 0 0 []<|J UA<|W.sq<|W.cn<|J (noT SI) fun _=>W.exit<|rgd [[],[],[],[],[],[],[],[],[],[],[],[],[],[],[],[]] ?_
     conv=>whnf
     refine J ⟨I,I,I,I,I,I,I,I,I,I,I,⟨UC,I⟩,Zdi,I,I,UA,I⟩<|J KR<|EndsW.nm<|J I<|J ?_ ?_
     rfl
     all_goals (simp only[mc,aG,cellsOf,List.map_set,List.map_append,List.map_cons,List.map_nil];rfl)
   ·rw[gw (fun q=>hO q.room)]
    refine bi ?_
    conv=>whnf
    refine g 0 0 []<|J Zd9<|g 11 13 []<|J UC<|W.sq<|gd 13 49 [[],[],[],[],[],[.n (Int.toNat m.task)],[.x (ak y)],[],[],[BF],[BF],[BF],[BF],[BF],[BF],[BF],[BF],[BF],[BF],[BF],[BF],[],[BF],[BF],[BF],[BF],[BF],[BF],[BF],[BF],[BF],[BF],[BF],[BF],[BF],[BF],[BF]] ?_
    conv=>whnf
    refine J Zbv<|J KR<|W.cn<|J (noT rfl) fun _=>W.skip<|W.sq<|gd 49 101 [[],[],[],[],[],[.n (Int.toNat m.task)],[.x (ak y)],[],[],[BF],[BF],[BF],[BF],[BF],[BF],[BF],[BF]] ?_
    conv=>whnf
    refine J ⟨I,I,I,I,I,Zdo,xA,I,I,dO,dO,dO,dO,dO,dO,dO,dO,I⟩<|J KR<|W.cn<|J (noT rfl) fun _=>W.skip<|W.sq<|gd 101 124 [[],[],[],[],[],[.n (Int.toNat m.task)],[.x (ak y)],[],[],[],[],[BF],[BF],[BF],[BF],[BF],[BF],[BF]] ?_
    conv=>whnf
    refine J Za4<|J KR<|W.cn<|J (fun h1=>?_) fun h1=>?_
    replace h1:=dt h1
    simp only[LM]at h1
    refine RT ?_
    rfl
    replace h1:=df h1
    simp only[LM]at h1
    omega
  ·rw[gw (fun q=>hs (by rw[←q.same,hya]))]
   refine bi ?_
   conv=>whnf
   refine g 0 0 []<|J Zd9<|g 11 13 []<|J UC<|W.sq<|gd 13 49 [[],[],[],[],[],[.n (Int.toNat m.task)],[.x (ak y)],[],[],[BF],[BF],[BF],[BF],[BF],[BF],[BF],[BF],[BF],[BF],[BF],[BF],[],[BF],[BF],[BF],[BF],[BF],[BF],[BF],[BF],[BF],[BF],[BF],[BF],[BF],[BF],[BF]] ?_
   conv=>whnf
   refine J Zbv<|J KR<|W.cn<|J (noT rfl) fun _=>W.skip<|W.sq<|gd 49 101 [[],[],[],[],[],[.n (Int.toNat m.task)],[.x (ak y)],[],[],[BF],[BF],[BF],[BF],[BF],[BF],[BF],[BF]] ?_
   conv=>whnf
   refine J ⟨I,I,I,I,I,Zdo,xA,I,I,dO,dO,dO,dO,dO,dO,dO,dO,I⟩<|J KR<|W.cn<|J (noT rfl) fun _=>W.skip<|W.sq<|gd 101 124 [[],[],[],[],[],[.n (Int.toNat m.task)],[.x (ak y)],[],[],[],[],[BT],[BT],[BT],[BT],[BT],[BT],[BT]] ?_
   conv=>whnf
   refine J Zbp<|J KR<|W.cn<|J (fun _=>(RT ?_)) (noF rfl)
   rfl
end Go.K
end
section
open Go Go.Tm Go.Proofs
namespace Go.K
theorem EV{w:Int}{js:List Job}{n:Nat}{j:Job}(h:js[n]? = some j)(hd:j.worker = w):((fu (mw w) js n).map aV).set n (aV ga) = (fu (mw w) js (n+1)).map aV:=by
 have:=li (f:=mw w) (g:=aV) h
 rw[show mw w j = ga from if_pos hd]at this
 exact this
theorem Ia{w:Int}{js:List Job}{n:Nat}{j:Job}(h:js[n]? = some j)(hd:¬j.worker = w):fu (mw w) js n = fu (mw w) js (n+1):=oo h (if_neg hd)
theorem Fg{l u:Int}{js:List Job}{n:Nat}{j:Job}(h:js[n]? = some j)(hd:j.lease = l):((fu (ng l u) js n).map aV).set n (aV ⟨j.lease,j.worker,u⟩) = (fu (ng l u) js (n+1)).map aV:=by
 have:=li (f:=ng l u) (g:=aV) h
 rw[show ng l u j = ⟨j.lease,j.worker,u⟩from if_pos hd]at this
 exact this
theorem I1{l u:Int}{js:List Job}{n:Nat}{j:Job}(h:js[n]? = some j)(hd:¬j.lease = l):fu (ng l u) js n = fu (ng l u) js (n+1):=oo h (if_neg hd)
theorem M1{b:Boss}{p:Plan}{m:Message}(hv:BossOk b p)(h:BossLim b)(hf:ForB b m)(hk:m.kind = 3)(ht:m.task < p.tasks.length):ResIn b p.tasks m:=by
 obtain⟨u1,u2,u3,u4,u5,u6,⟨u7,u8⟩,⟨u9,u10⟩,u11,u12,u13,u14⟩:=hv.up hf.up
 obtain⟨_,⟨f1,_⟩,_⟩:=lK hf
 obtain⟨_,⟨t1,_⟩,tx⟩:=B5 hf hk
 have hw:=hv.workers
 have f2:=hf.frm
 exact⟨hv.plan,u3,u4,⟨t1,ht⟩,h.safe,h.loose,h.owed,by omega,⟨f1,by omega⟩,tx⟩
theorem tL(b:Boss)(p:Plan)(m:Message)(hv:BossOk b p)(h:BossLim b)(hm:m.inputs.length≤9223372036854775806):F td [.ptr (cellsOf (aG b)),.val (cE p),.val (dH m)] (.tup []) [cellsOf (aG (ew b p.tasks m)),[],[]]:=by
 have cm:=bZ m hm
 by_cases hf:ForB b m
 ·obtain⟨u1,u2,u3,u4,u5,u6,⟨u7,u8⟩,⟨u9,u10⟩,u11,u12,u13,u14⟩:=hv.up hf.up
  obtain⟨hkd,⟨f1,f2⟩,⟨e1,e2⟩⟩:=lK hf
  have hnow:=hv.now
  have hwk:=hv.workers
  have hpl:=(bP hv.plan).1
  obtain⟨g1,g2,g3,g4⟩:=hf
  have hf:ForB b m:=⟨g1,g2,g3,g4⟩
  rw[decide_eq_true g2]at cm
  have hsi:fG m < b.seats.length:=by unfold fG;omega
  obtain⟨x,hx⟩:=aj hsi
  have hx':b.seats[(m.frm - 1).toNat]? = some x:=hx
  have hold:=Cq hx
  rcases hkd with hk|hk|hk
  ·rw[lb hf hk]
   refine bM ?_
   conv=>whnf
   refine g 2 3 []<|J Zd9<|W.sq<|gd 9 32 [[],[],[],[],[],[],[BF],[BF,.call VT [[]]],[BF],[BF],[],[BF],[BF],[BF],[BF],[],[BF],[BF],[BF],[BF],[BF],[BF],[BF],[BF]] ?_
   conv=>whnf
   refine J Zal<|J KR<|W.cn<|J (noT dO) fun _=>W.skip<|gd 32 41 [[],[],[],[],[],[],[.i (m.frm - 1)],[.n (Int.toNat (m.frm - 1))],[]] ?_
   conv=>whnf
   refine J Zc4<|J KR<|g 41 42 []<|J UB<|W.blk<|g 44 45 []<|J UB<|W.cn<|J (noT dO) fun _=>g 1 2 []<|J UB<|W.cn<|J (fun _=>(g 6 90 []<|J UF (W.blk (W.lp (fun s (n:Nat)=>⟨[(0,s.s 0),(5,s.s 5),(90,s.s 90),(91,.i n)],[(5,[s.c 5 0,s.c 5 1,s.c 5 2,s.c 5 3,s.c 5 4,s.c 5 5,s.c 5 6,s.c 5 7]),(131,[.t (.i b.workers),.t (.b b.up),.t (.i b.now),.t (.i b.since),.t (.i b.epoch),.t (.i b.given),.own [false] (b.log.safe.map ak),.own [false] (b.log.loose.map ak),.own [false] (b.results.map ak),.own fv ((fu (ng m.lease (b.now+12)) b.jobs n).map aV),.own cM (b.seats.map aR),.own cN (b.owed.map bg)])],[]⟩) (fun(n:Nat)=>n≤b.jobs.length) (fun(n:Nat)=>b.jobs.length - n) (0) [some 5,some 131] [] ⟨rfl,Zcc,⟨Zab,⟨Zaa,I⟩⟩,I⟩ OM ?_)))) (noF tO)
   intro n hn
   have hl:=ii (ng m.lease (b.now+12)) b.jobs n
   by_cases hj:n < b.jobs.length
   ·obtain⟨j,hj1⟩:=aj hj
    by_cases hd:j.lease = m.lease
    ·have e:=Fg (u:=b.now+12) hj1 hd
     conv=>whnf
     refine g 0 0 []<|J UA<|W.sq<|W.cn<|J (fun _=>(W.skip (W.sq (W.blk (g 92 94 []<|J UB (gd 94 104 [[],[],[],[],[],[.n (n)],[],[.x (aV j)],[],[],[]] ?_)))))) (noF (by simp_all))
     conv=>whnf
     refine⟨⟨I,I,I,I,I,Zdh,I,aW AS,I,I,I,I⟩,by kernel_rfl,?_⟩
     refine W.cn<|J (fun _=>(rgd [[],[],[],[],[],[],[],[],[],[.i (b.now+12)],[.n (n)],[],[.x (aV j)]] ?_)) (noF tO)
     conv=>whnf
     refine⟨⟨I,I,I,I,I,I,I,I,I,wO,Zdh,I,⟨UA,aW AS⟩,I⟩,by kernel_rfl,?_⟩
     refine rg [.i ((n:Int) +1)]<|J Zdm ?_
     refine⟨n+1,[some 5,some 131],[],⟨rfl,Zcc,⟨Zab,⟨⟨rfl,⟨rfl,⟨rfl,⟨rfl,⟨rfl,⟨rfl,⟨rfl,⟨rfl,⟨rfl,⟨rfl,⟨(congrArg (V.own _) (e)),Zad⟩⟩⟩⟩⟩⟩⟩⟩⟩⟩⟩,I⟩⟩,I⟩,?_,?_⟩
     rotate_left
     (dsimp only;omega)
     dsimp only
     omega
    ·have e:=I1 (u:=b.now+12) hj1 hd
     conv=>whnf
     refine g 0 0 []<|J UA<|W.sq<|W.cn<|J (fun _=>(W.skip (W.sq (W.blk (g 92 94 []<|J UB (gd 94 104 [[],[],[],[],[],[.n (n)],[],[.x (aV j)],[],[],[]] ?_)))))) (noF (by simp_all))
     conv=>whnf
     refine⟨⟨I,I,I,I,I,Zdh,I,aW AS,I,I,I,I⟩,by kernel_rfl,?_⟩
     refine W.cn<|J (noT dO) fun _=>W.skip<|rg [.i ((n:Int) +1)]<|J Zdm ?_
     refine⟨n+1,[some 5,some 131],[],⟨rfl,Zcc,⟨Zab,⟨⟨rfl,⟨rfl,⟨rfl,⟨rfl,⟨rfl,⟨rfl,⟨rfl,⟨rfl,⟨rfl,⟨rfl,⟨(congrArg (V.own _) (by rw[←e])),Zad⟩⟩⟩⟩⟩⟩⟩⟩⟩⟩⟩,I⟩⟩,I⟩,?_,?_⟩
     rotate_left
     (dsimp only;omega)
     dsimp only
     omega
   ·have e:=ij (ng m.lease (b.now+12)) b.jobs (n:=n) OM
    conv=>whnf
    refine g 0 0 []<|J UA<|W.sq<|W.cn<|J (noT (by simp_all)) fun _=>W.exit<|EndsW.nm<|J I<|J ?_ ?_
    rfl
    rw[e]
    rfl
  ·by_cases ht:m.task < p.tasks.length
   ·rw[nN hf hk ht]
    have cr:=p9 b p m (M1 hv h hf hk ht)
    refine bM ?_
    conv=>whnf
    refine g 2 3 []<|J Zd9<|W.sq<|gd 9 32 [[],[],[],[],[],[],[BF],[BF,.call VT [[]]],[BF],[BF],[],[BF],[BF],[BF],[BF],[],[BF],[BF],[BF],[BF],[BF],[BF],[BF],[BF]] ?_
    conv=>whnf
    refine J Zal<|J KR<|W.cn<|J (noT dO) fun _=>W.skip<|gd 32 41 [[],[],[],[],[],[],[.i (m.frm - 1)],[.n (Int.toNat (m.frm - 1))],[]] ?_
    conv=>whnf
    refine J Zc4<|J KR<|g 41 42 []<|J UB<|W.blk<|g 44 45 []<|J UB<|W.cn<|J (noT dO) fun _=>g 1 2 []<|J UB<|W.cn<|J (noT dO) fun _=>g 42 86 []<|J UB<|W.cn<|J (fun _=>(g 118 125 []<|J UF (W.cn<|J (fun _=>(rg [.call (V.tup []) ([cellsOf (aG (du b p.tasks m)),[],[],[]])]<|J ⟨I,I,I,I,⟨UD,I,⟨I,UA,UH,I,I⟩,UA,AS⟩,I⟩ ?_)) (noF SI)))) (noF tO)
    refine EndsW.nm<|J I (J ?_ rfl)
    rfl
   ·rw[nP hf hk ht]
    refine bM ?_
    conv=>whnf
    refine g 2 3 []<|J Zd9<|W.sq<|gd 9 32 [[],[],[],[],[],[],[BF],[BF,.call VT [[]]],[BF],[BF],[],[BF],[BF],[BF],[BF],[],[BF],[BF],[BF],[BF],[BF],[BF],[BF],[BF]] ?_
    conv=>whnf
    refine J Zal<|J KR<|W.cn<|J (noT dO) fun _=>W.skip<|gd 32 41 [[],[],[],[],[],[],[.i (m.frm - 1)],[.n (Int.toNat (m.frm - 1))],[]] ?_
    conv=>whnf
    refine J Zc4<|J KR<|g 41 42 []<|J UB<|W.blk<|g 44 45 []<|J UB<|W.cn<|J (noT dO) fun _=>g 1 2 []<|J UB<|W.cn<|J (noT dO) fun _=>g 42 86 []<|J UB<|W.cn<|J (fun _=>(g 118 125 []<|J UF (W.cn<|J (noT SI) fun _=>(W.skip ?_)))) (noF tO)
    refine EndsW.nm<|J I (J ?_ rfl)
    rfl
  ·rw[kZ hf hk]
   by_cases ho:rF b m
   ·rw[ER ho]
    have ho2:=hold.1 ho
    refine bM ?_
    conv=>whnf
    refine g 2 3 []<|J Zd9<|W.sq<|gd 9 32 [[],[],[],[],[],[],[BF],[BF,.call VT [[]]],[BF],[BF],[],[BF],[BF],[BF],[BF],[],[BF],[BF],[BF],[BF],[BF],[BF],[BF],[BF]] ?_
    conv=>whnf
    refine J Zal<|J KR<|W.cn<|J (noT dO) fun _=>W.skip<|gd 32 41 [[],[],[],[],[],[],[.i (m.frm - 1)],[.n (Int.toNat (m.frm - 1))],[]] ?_
    conv=>whnf
    refine J Zc4<|J KR<|g 41 42 []<|J UB<|W.blk<|g 44 45 []<|J UB<|W.cn<|J (fun _=>(gd 42 51 [[],[],[],[],[],[.x (aR x)],[]] ?_)) (noF tO)
    conv=>whnf
    refine⟨⟨I,I,I,I,I,xA,I,I⟩,by kernel_rfl,?_⟩
    refine W.cn<|J (noT dO) fun _=>W.skip<|EndsW.nm<|J I (J ?_ rfl)
    rfl
   ·rw[ES ho]
    have ho2:¬m.epoch < x.epoch:=fun q=>ho (hold.2 q)
    have es:(b.seats.map aR).set (m.frm - 1).toNat (aR ⟨true,m.epoch⟩) = (b.seats.set (fG m) ⟨true,m.epoch⟩).map aR:=by rw[←List.map_set];rfl
    refine bM ?_
    conv=>whnf
    refine g 2 3 []<|J Zd9<|W.sq<|gd 9 32 [[],[],[],[],[],[],[BF],[BF,.call VT [[]]],[BF],[BF],[],[BF],[BF],[BF],[BF],[],[BF],[BF],[BF],[BF],[BF],[BF],[BF],[BF]] ?_
    conv=>whnf
    refine J Zal<|J KR<|W.cn<|J (noT dO) fun _=>W.skip<|gd 32 41 [[],[],[],[],[],[],[.i (m.frm - 1)],[.n (Int.toNat (m.frm - 1))],[]] ?_
    conv=>whnf
    refine J Zc4<|J KR<|g 41 42 []<|J UB<|W.blk<|g 44 45 []<|J UB<|W.cn<|J (fun _=>(gd 42 51 [[],[],[],[],[],[.x (aR x)],[]] ?_)) (noF tO)
    conv=>whnf
    refine⟨⟨I,I,I,I,I,xA,I,I⟩,by kernel_rfl,?_⟩
    refine W.cn<|J (fun _=>(g 6 57 [.x (aR x)]<|J ⟨I,I,I,I,I,⟨UB,xA⟩,I⟩ (g 57 61 []<|J UF (W.blk (W.lp (fun s (n:Nat)=>⟨[(0,s.s 0),(5,s.s 5),(61,s.s 61),(62,.i n)],[(5,[s.c 5 0,s.c 5 1,s.c 5 2,s.c 5 3,s.c 5 4,s.c 5 5,s.c 5 6,s.c 5 7]),(131,[.t (.i b.workers),.t (.b b.up),.t (.i b.now),.t (.i b.since),.t (.i b.epoch),.t (.i b.given),.own [false] (b.log.safe.map ak),.own [false] (b.log.loose.map ak),.own [false] (b.results.map ak),.own fv ((fu (mw m.frm) b.jobs n).map aV),.own cM ((b.seats.set (fG m) ⟨true,m.epoch⟩).map aR),.own cN (b.owed.map bg)])],[]⟩) (fun(n:Nat)=>n≤b.jobs.length) (fun(n:Nat)=>b.jobs.length - n) (0) [some 5,some 131] [] ⟨rfl,Zcc,⟨Zab,⟨⟨rfl,⟨rfl,⟨rfl,⟨rfl,⟨rfl,⟨rfl,⟨rfl,⟨rfl,⟨rfl,⟨rfl,⟨rfl,⟨(congrArg (V.own _) (es)),Zde⟩⟩⟩⟩⟩⟩⟩⟩⟩⟩⟩⟩,I⟩⟩,I⟩ OM ?_))))) (noF tO)
    intro n hn
    have hl:=ii (mw m.frm) b.jobs n
    by_cases hj:n < b.jobs.length
    ·obtain⟨j,hj1⟩:=aj hj
     by_cases hd:j.worker = m.frm
     ·have e:=EV hj1 hd
      conv=>whnf
      refine g 0 0 []<|J UA<|W.sq<|W.cn<|J (fun _=>(W.skip (W.sq (W.blk (g 63 65 []<|J UB (gd 65 75 [[],[],[],[],[],[.n (n)],[],[.x (aV j)],[],[],[]] ?_)))))) (noF (by simp_all))
      conv=>whnf
      refine⟨⟨I,I,I,I,I,Zdh,I,aW AS,I,I,I,I⟩,by kernel_rfl,?_⟩
      refine W.cn<|J (fun _=>(rg [.n (n),.x (aV j)]<|J ⟨I,I,I,I,I,I,Zdh,⟨UC,aW AS⟩,I⟩ (rg [.i ((n:Int) +1)]<|J Zdm ?_))) (noF tO)
      refine⟨n+1,[some 5,some 131],[],⟨rfl,Zcc,⟨Zab,⟨⟨rfl,⟨rfl,⟨rfl,⟨rfl,⟨rfl,⟨rfl,⟨rfl,⟨rfl,⟨rfl,⟨rfl,⟨(congrArg (V.own _) (e)),Zad⟩⟩⟩⟩⟩⟩⟩⟩⟩⟩⟩,I⟩⟩,I⟩,?_,?_⟩
      rotate_left
      (dsimp only;omega)
      dsimp only
      omega
     ·have e:=Ia hj1 hd
      conv=>whnf
      refine g 0 0 []<|J UA<|W.sq<|W.cn<|J (fun _=>(W.skip (W.sq (W.blk (g 63 65 []<|J UB (gd 65 75 [[],[],[],[],[],[.n (n)],[],[.x (aV j)],[],[],[]] ?_)))))) (noF (by simp_all))
      conv=>whnf
      refine⟨⟨I,I,I,I,I,Zdh,I,aW AS,I,I,I,I⟩,by kernel_rfl,?_⟩
      refine W.cn<|J (noT dO) fun _=>W.skip<|rg [.i ((n:Int) +1)]<|J Zdm ?_
      refine⟨n+1,[some 5,some 131],[],⟨rfl,Zcc,⟨Zab,⟨⟨rfl,⟨rfl,⟨rfl,⟨rfl,⟨rfl,⟨rfl,⟨rfl,⟨rfl,⟨rfl,⟨rfl,⟨(congrArg (V.own _) (by rw[←e])),Zad⟩⟩⟩⟩⟩⟩⟩⟩⟩⟩⟩,I⟩⟩,I⟩,?_,?_⟩
      rotate_left
      (dsimp only;omega)
      dsimp only
      omega
    ·have e:=ij (mw m.frm) b.jobs (n:=n) OM
     conv=>whnf
     refine g 0 0 []<|J UA<|W.sq<|W.cn<|J (noT (by simp_all)) fun _=>W.exit<|EndsW.nm<|J I<|J ?_ ?_
     rfl
     rw[e]
     rfl
 ·rw[yu hf]
  by_cases g1:b.up = true
  ·by_cases g2:bx m
   ·rw[decide_eq_true g2]at cm
    by_cases g3:m.to = 0
    ·have g4:¬m.frm≤b.workers:=fun q=>hf ⟨g1,g2,g3,q⟩
     refine bM ?_
     conv=>whnf
     refine g 2 3 []<|J Zd9<|W.sq<|gd 9 32 [[],[],[],[],[],[],[BF],[BF,.call VT [[]]],[BF],[BF],[],[BF],[BF],[BF],[BF],[],[BF],[BF],[BF],[BF],[BF],[BF],[BF],[BF]] ?_
     conv=>whnf
     refine J Zal<|J KR<|W.cn<|J (fun _=>(RT ?_)) (noF tO)
     rfl
    ·refine bM ?_
     conv=>whnf
     refine g 2 3 []<|J Zd9<|W.sq<|gd 9 32 [[],[],[],[],[],[],[BF],[BF,.call VT [[]]],[BF],[BF],[],[BF],[BF],[BF],[BF],[],[BT],[BT],[BT],[BT],[BT],[BT],[BT],[BT]] ?_
     conv=>whnf
     refine J ⟨I,I,I,I,I,I,Zdz,Zan,Zdz,nbF AS,I,Zde,Zde,Zde,rfl,I,af OM,af OM,af OM,af OM,af OM,af OM,af OM,af OM,I⟩<|J KR<|W.cn<|J (fun _=>(RT ?_)) (noF rfl)
     rfl
   ·rw[decide_eq_false g2]at cm
    refine bM ?_
    conv=>whnf
    refine g 2 3 []<|J Zd9<|W.sq<|gd 9 32 [[],[],[],[],[],[],[BF],[BF,.call VF [[]]],[BF],[BF],[],[BT],[BT],[BT],[BT],[],[BT],[BT],[BT],[BT],[BT],[BT],[BT],[BT]] ?_
    conv=>whnf
    refine J ⟨I,I,I,I,I,I,Zdz,Zan,Zdz,nbF AS,I,rfl,rfl,rfl,rfl,I,rfl,rfl,rfl,rfl,rfl,rfl,rfl,rfl,I⟩<|J KR<|W.cn<|J (fun _=>(RT ?_)) (noF rfl)
    rfl
  ·refine bM ?_
   conv=>whnf
   refine g 2 3 []<|J Zd9<|W.sq<|gd 9 32 [[],[],[],[],[],[],[BT],[BT],[BT],[BT],[],[BT],[BT],[BT],[BT],[],[BT],[BT],[BT],[BT],[BT],[BT],[BT],[BT]] ?_
   conv=>whnf
   refine J ⟨I,I,I,I,I,I,SI,SI,SI,SI,I,rfl,rfl,rfl,rfl,I,rfl,rfl,rfl,rfl,rfl,rfl,rfl,rfl,I⟩<|J KR<|W.cn<|J (fun _=>(RT ?_)) (noF rfl)
   rfl
end Go.K
end
section
open Go Go.Tm Go.Proofs
namespace Go.K
structure WSmall (w:Worker):Prop where
 len:w.inputs.length≤64
 size:∀ s∈w.inputs,s.size≤64
 text:w.text.size≤64
 num:-100≤w.number∧w.number≤1000
 cost:-100≤w.cost∧w.cost≤1000
 lease:w.lease≤1000001
end Go.K
end
section
open Go Go.Tm Go.Proofs
namespace Go.K
structure WMid (w:Worker):Prop where
 len:w.inputs.length≤100
 size:∀ s∈w.inputs,s.size≤100
 text:w.text.size≤100
 lease:w.lease≤1000001
end Go.K
end
section
open Go Go.Tm Go.Proofs
namespace Go.K
theorem Mi(l:List Int)(pos:Int)(hl:hL l)(h0:0≤pos)(h1:pos≤1000000):∃ res outs,(∃ (e:Event) (pos2:Int),res = nc e∧outs = [rdC l pos2]∧pos≤pos2∧pos2≤pos+8)∧F iU [.ptr (rdC l pos)] res outs:=by
 have p24:=aE l pos 24
 have p40:=aE l (pos+1) 40
 have p2:=aE l (pos+1+1) 2
 have p4:=aE l (pos+1+1+1) 4
 by_cases g2:ai l (pos+1+1) 2 = 0
 ·have r1:=aE l (pos+1+1+1+1) 40
  have r2:=aE l (pos+1+1+1+1+1) 300
  have r3:=aE l (pos+1+1+1+1) 4
  have r4:=aE l (pos+1+1+1+1+1) 4
  by_cases k0:ai l pos 24 < 9
  ·refine aS ?_
   conv=>whnf
   refine g 0 0 []<|J UA<|g 5 7 [.call (V.i (ai l pos 24)) ([rdC l (pos+1),[]])]<|J ⟨I,⟨UB,I,UV,UA,aa _ _ _ OM OM OM OM⟩,I,I⟩<|g 7 9 [.call (V.i (ai l (pos+1) 40)) ([rdC l (pos+1+1),[]])]<|J ⟨I,⟨UB,I,UV,UA,aa _ _ _ OM OM OM OM⟩,I,I⟩<|W.sq<|g 9 11 [.call (V.i (ai l (pos+1+1) 2)) ([rdC l (pos+1+1+1),[]])]<|J ⟨I,⟨UB,I,UV,UA,aa _ _ _ OM OM OM OM⟩,I,I⟩<|W.cn<|J (fun _=>(rg [.call (V.i (ai l (pos+1+1+1) 4)) ([rdC l (pos+1+1+1+1),[]])]<|J ⟨I,⟨UB,I,UV,UA,aa _ _ _ OM OM OM OM⟩,I,I⟩ (W.sq (g 11 15 []<|J UB (W.cn<|J (fun _=>(g 15 17 []<|J ⟨I,UD,I⟩ (W.ret ?_))) (noF tO)))))) (noF tO)
   refine EndsW.rt<|J UE ?_
   exact⟨⟨1,0,0,0⟩,_,rfl,rfl,by omega,by omega⟩
  by_cases k1:ai l pos 24 < 17
  ·refine aS ?_
   conv=>whnf
   refine g 0 0 []<|J UA<|g 5 7 [.call (V.i (ai l pos 24)) ([rdC l (pos+1),[]])]<|J ⟨I,⟨UB,I,UV,UA,aa _ _ _ OM OM OM OM⟩,I,I⟩<|g 7 9 [.call (V.i (ai l (pos+1) 40)) ([rdC l (pos+1+1),[]])]<|J ⟨I,⟨UB,I,UV,UA,aa _ _ _ OM OM OM OM⟩,I,I⟩<|W.sq<|g 9 11 [.call (V.i (ai l (pos+1+1) 2)) ([rdC l (pos+1+1+1),[]])]<|J ⟨I,⟨UB,I,UV,UA,aa _ _ _ OM OM OM OM⟩,I,I⟩<|W.cn<|J (fun _=>(rg [.call (V.i (ai l (pos+1+1+1) 4)) ([rdC l (pos+1+1+1+1),[]])]<|J ⟨I,⟨UB,I,UV,UA,aa _ _ _ OM OM OM OM⟩,I,I⟩ (W.sq (g 11 15 []<|J UB (W.cn<|J (noT dO) fun _=>(W.skip (W.sq ?_))))))) (noF tO)
   refine g 15 18 []<|J UB<|W.cn<|J (fun _=>(g 18 21 []<|J ⟨I,I,UD,I⟩ (W.ret (EndsW.rt<|J UE ?_)))) (noF tO)
   exact⟨⟨2,ai l (pos+1+1+1) 4,0,0⟩,_,rfl,rfl,by omega,by omega⟩
  by_cases k2:ai l pos 24 = 17
  ·refine aS ?_
   conv=>whnf
   refine g 0 0 []<|J UA<|g 5 7 [.call (V.i (ai l pos 24)) ([rdC l (pos+1),[]])]<|J ⟨I,⟨UB,I,UV,UA,aa _ _ _ OM OM OM OM⟩,I,I⟩<|g 7 9 [.call (V.i (ai l (pos+1) 40)) ([rdC l (pos+1+1),[]])]<|J ⟨I,⟨UB,I,UV,UA,aa _ _ _ OM OM OM OM⟩,I,I⟩<|W.sq<|g 9 11 [.call (V.i (ai l (pos+1+1) 2)) ([rdC l (pos+1+1+1),[]])]<|J ⟨I,⟨UB,I,UV,UA,aa _ _ _ OM OM OM OM⟩,I,I⟩<|W.cn<|J (fun _=>(rg [.call (V.i (ai l (pos+1+1+1) 4)) ([rdC l (pos+1+1+1+1),[]])]<|J ⟨I,⟨UB,I,UV,UA,aa _ _ _ OM OM OM OM⟩,I,I⟩ (W.sq (g 11 15 []<|J UB (W.cn<|J (noT dO) fun _=>(W.skip (W.sq ?_))))))) (noF tO)
   refine g 15 18 []<|J UB<|W.cn<|J (noT dO) fun _=>W.skip<|W.sq<|g 18 22 []<|J UB<|W.cn<|J (fun _=>(g 22 25 []<|J ⟨I,I,UD,I⟩ (W.ret (EndsW.rt<|J UE ?_)))) (noF tO)
   exact⟨⟨3,ai l (pos+1+1+1) 4,0,0⟩,_,rfl,rfl,by omega,by omega⟩
  by_cases k3:ai l pos 24 = 18
  ·refine aS ?_
   conv=>whnf
   refine g 0 0 []<|J UA<|g 5 7 [.call (V.i (ai l pos 24)) ([rdC l (pos+1),[]])]<|J ⟨I,⟨UB,I,UV,UA,aa _ _ _ OM OM OM OM⟩,I,I⟩<|g 7 9 [.call (V.i (ai l (pos+1) 40)) ([rdC l (pos+1+1),[]])]<|J ⟨I,⟨UB,I,UV,UA,aa _ _ _ OM OM OM OM⟩,I,I⟩<|W.sq<|g 9 11 [.call (V.i (ai l (pos+1+1) 2)) ([rdC l (pos+1+1+1),[]])]<|J ⟨I,⟨UB,I,UV,UA,aa _ _ _ OM OM OM OM⟩,I,I⟩<|W.cn<|J (fun _=>(rg [.call (V.i (ai l (pos+1+1+1) 4)) ([rdC l (pos+1+1+1+1),[]])]<|J ⟨I,⟨UB,I,UV,UA,aa _ _ _ OM OM OM OM⟩,I,I⟩ (W.sq (g 11 15 []<|J UB (W.cn<|J (noT dO) fun _=>(W.skip (W.sq ?_))))))) (noF tO)
   refine g 15 18 []<|J UB<|W.cn<|J (noT dO) fun _=>W.skip<|W.sq<|g 18 22 []<|J UB<|W.cn<|J (noT dO) fun _=>W.skip<|W.sq<|g 22 26 []<|J UB<|W.cn<|J (fun _=>(g 26 29 []<|J ⟨I,I,UD,I⟩ (W.ret ?_))) (noF tO)
   refine EndsW.rt<|J UE ?_
   exact⟨⟨4,ai l (pos+1+1+1) 4,0,0⟩,_,rfl,rfl,by omega,by omega⟩
  by_cases k4:ai l pos 24 = 19
  ·refine aS ?_
   conv=>whnf
   refine g 0 0 []<|J UA<|g 5 7 [.call (V.i (ai l pos 24)) ([rdC l (pos+1),[]])]<|J ⟨I,⟨UB,I,UV,UA,aa _ _ _ OM OM OM OM⟩,I,I⟩<|g 7 9 [.call (V.i (ai l (pos+1) 40)) ([rdC l (pos+1+1),[]])]<|J ⟨I,⟨UB,I,UV,UA,aa _ _ _ OM OM OM OM⟩,I,I⟩<|W.sq<|g 9 11 [.call (V.i (ai l (pos+1+1) 2)) ([rdC l (pos+1+1+1),[]])]<|J ⟨I,⟨UB,I,UV,UA,aa _ _ _ OM OM OM OM⟩,I,I⟩<|W.cn<|J (fun _=>(rg [.call (V.i (ai l (pos+1+1+1) 4)) ([rdC l (pos+1+1+1+1),[]])]<|J ⟨I,⟨UB,I,UV,UA,aa _ _ _ OM OM OM OM⟩,I,I⟩ (W.sq (g 11 15 []<|J UB (W.cn<|J (noT dO) fun _=>(W.skip (W.sq ?_))))))) (noF tO)
   refine g 15 18 []<|J UB<|W.cn<|J (noT dO) fun _=>W.skip<|W.sq<|g 18 22 []<|J UB<|W.cn<|J (noT dO) fun _=>W.skip<|W.sq<|g 22 26 []<|J UB<|W.cn<|J (noT dO) fun _=>W.skip<|W.sq ?_
   refine g 26 30 []<|J UB<|W.cn<|J (fun _=>(g 4 37 [.call (V.i (ai l (pos+1+1+1+1) 40)) ([rdC l (pos+1+1+1+1+1),[]]),.call (V.i (ai l (pos+1+1+1+1+1) 300)) ([rdC l (pos+1+1+1+1+1+1),[]])]<|J ⟨I,I,⟨UB,I,UV,UA,aa _ _ _ OM OM OM OM⟩,I,⟨UB,I,UV,UA,aa _ _ _ OM OM OM OM⟩,I,UD,I⟩ (W.ret (EndsW.rt<|J UE ?_)))) (noF tO)
   exact⟨⟨5,ai l (pos+1+1+1) 4,ai l (pos+1+1+1+1) 40,ai l (pos+1+1+1+1+1) 300⟩,_,rfl,rfl,by omega,by omega⟩
  by_cases k5:ai l pos 24 < 22
  ·refine aS ?_
   conv=>whnf
   refine g 0 0 []<|J UA<|g 5 7 [.call (V.i (ai l pos 24)) ([rdC l (pos+1),[]])]<|J ⟨I,⟨UB,I,UV,UA,aa _ _ _ OM OM OM OM⟩,I,I⟩<|g 7 9 [.call (V.i (ai l (pos+1) 40)) ([rdC l (pos+1+1),[]])]<|J ⟨I,⟨UB,I,UV,UA,aa _ _ _ OM OM OM OM⟩,I,I⟩<|W.sq<|g 9 11 [.call (V.i (ai l (pos+1+1) 2)) ([rdC l (pos+1+1+1),[]])]<|J ⟨I,⟨UB,I,UV,UA,aa _ _ _ OM OM OM OM⟩,I,I⟩<|W.cn<|J (fun _=>(rg [.call (V.i (ai l (pos+1+1+1) 4)) ([rdC l (pos+1+1+1+1),[]])]<|J ⟨I,⟨UB,I,UV,UA,aa _ _ _ OM OM OM OM⟩,I,I⟩ (W.sq (g 11 15 []<|J UB (W.cn<|J (noT dO) fun _=>(W.skip (W.sq ?_))))))) (noF tO)
   refine g 15 18 []<|J UB<|W.cn<|J (noT dO) fun _=>W.skip<|W.sq<|g 18 22 []<|J UB<|W.cn<|J (noT dO) fun _=>W.skip<|W.sq<|g 22 26 []<|J UB<|W.cn<|J (noT dO) fun _=>W.skip<|W.sq ?_
   refine g 26 30 []<|J UB<|W.cn<|J (noT dO) fun _=>W.skip<|W.sq<|g 4 38 []<|J UB<|W.cn<|J (fun _=>(g 38 44 [.call (V.i (ai l (pos+1+1+1+1) 4)) ([rdC l (pos+1+1+1+1+1),[]]),.call (V.i (ai l (pos+1+1+1+1+1) 4)) ([rdC l (pos+1+1+1+1+1+1),[]])]<|J ⟨I,⟨UB,I,UV,UA,aa _ _ _ OM OM OM OM⟩,I,⟨UB,I,UV,UA,aa _ _ _ OM OM OM OM⟩,I,UD,I⟩ (W.ret (EndsW.rt<|J UE ?_)))) (noF tO)
   exact⟨⟨6,ai l (pos+1+1+1+1) 4,ai l (pos+1+1+1+1+1) 4,0⟩,_,rfl,rfl,by omega,by omega⟩
  by_cases k6:ai l pos 24 = 22
  ·refine aS ?_
   conv=>whnf
   refine g 0 0 []<|J UA<|g 5 7 [.call (V.i (ai l pos 24)) ([rdC l (pos+1),[]])]<|J ⟨I,⟨UB,I,UV,UA,aa _ _ _ OM OM OM OM⟩,I,I⟩<|g 7 9 [.call (V.i (ai l (pos+1) 40)) ([rdC l (pos+1+1),[]])]<|J ⟨I,⟨UB,I,UV,UA,aa _ _ _ OM OM OM OM⟩,I,I⟩<|W.sq<|g 9 11 [.call (V.i (ai l (pos+1+1) 2)) ([rdC l (pos+1+1+1),[]])]<|J ⟨I,⟨UB,I,UV,UA,aa _ _ _ OM OM OM OM⟩,I,I⟩<|W.cn<|J (fun _=>(rg [.call (V.i (ai l (pos+1+1+1) 4)) ([rdC l (pos+1+1+1+1),[]])]<|J ⟨I,⟨UB,I,UV,UA,aa _ _ _ OM OM OM OM⟩,I,I⟩ (W.sq (g 11 15 []<|J UB (W.cn<|J (noT dO) fun _=>(W.skip (W.sq ?_))))))) (noF tO)
   refine g 15 18 []<|J UB<|W.cn<|J (noT dO) fun _=>W.skip<|W.sq<|g 18 22 []<|J UB<|W.cn<|J (noT dO) fun _=>W.skip<|W.sq<|g 22 26 []<|J UB<|W.cn<|J (noT dO) fun _=>W.skip<|W.sq ?_
   refine g 26 30 []<|J UB<|W.cn<|J (noT dO) fun _=>W.skip<|W.sq<|g 4 38 []<|J UB<|W.cn<|J (noT dO) fun _=>W.skip<|W.sq<|g 3 45 []<|J UB<|W.cn<|J (fun _=>(g 45 47 []<|J ⟨I,UD,I⟩ (W.ret ?_))) (noF tO)
   refine EndsW.rt<|J UE ?_
   exact⟨⟨7,0,0,0⟩,_,rfl,rfl,by omega,by omega⟩
  ·refine aS ?_
   conv=>whnf
   refine g 0 0 []<|J UA<|g 5 7 [.call (V.i (ai l pos 24)) ([rdC l (pos+1),[]])]<|J ⟨I,⟨UB,I,UV,UA,aa _ _ _ OM OM OM OM⟩,I,I⟩<|g 7 9 [.call (V.i (ai l (pos+1) 40)) ([rdC l (pos+1+1),[]])]<|J ⟨I,⟨UB,I,UV,UA,aa _ _ _ OM OM OM OM⟩,I,I⟩<|W.sq<|g 9 11 [.call (V.i (ai l (pos+1+1) 2)) ([rdC l (pos+1+1+1),[]])]<|J ⟨I,⟨UB,I,UV,UA,aa _ _ _ OM OM OM OM⟩,I,I⟩<|W.cn<|J (fun _=>(rg [.call (V.i (ai l (pos+1+1+1) 4)) ([rdC l (pos+1+1+1+1),[]])]<|J ⟨I,⟨UB,I,UV,UA,aa _ _ _ OM OM OM OM⟩,I,I⟩ (W.sq (g 11 15 []<|J UB (W.cn<|J (noT dO) fun _=>(W.skip (W.sq ?_))))))) (noF tO)
   refine g 15 18 []<|J UB<|W.cn<|J (noT dO) fun _=>W.skip<|W.sq<|g 18 22 []<|J UB<|W.cn<|J (noT dO) fun _=>W.skip<|W.sq<|g 22 26 []<|J UB<|W.cn<|J (noT dO) fun _=>W.skip<|W.sq ?_
   refine g 26 30 []<|J UB<|W.cn<|J (noT dO) fun _=>W.skip<|W.sq<|g 4 38 []<|J UB<|W.cn<|J (noT dO) fun _=>W.skip<|W.sq<|g 3 45 []<|J UB<|W.cn<|J (noT dO) fun _=>W.skip<|g 45 50 [.call (V.i (ai l (pos+1+1+1+1) 4)) ([rdC l (pos+1+1+1+1+1),[]])]<|J ⟨I,⟨UB,I,UV,UA,aa _ _ _ OM OM OM OM⟩,I,UD,I⟩ ?_
   refine W.ret<|EndsW.rt<|J UE ?_
   exact⟨⟨7,ai l (pos+1+1+1+1) 4,0,0⟩,_,rfl,rfl,by omega,by omega⟩
 ·have r1:=aE l (pos+1+1+1) 40
  have r2:=aE l (pos+1+1+1+1) 300
  have r3:=aE l (pos+1+1+1) 4
  have r4:=aE l (pos+1+1+1+1) 4
  by_cases k0:ai l pos 24 < 9
  ·refine aS ?_
   conv=>whnf
   refine g 0 0 []<|J UA<|g 5 7 [.call (V.i (ai l pos 24)) ([rdC l (pos+1),[]])]<|J ⟨I,⟨UB,I,UV,UA,aa _ _ _ OM OM OM OM⟩,I,I⟩<|g 7 9 [.call (V.i (ai l (pos+1) 40)) ([rdC l (pos+1+1),[]])]<|J ⟨I,⟨UB,I,UV,UA,aa _ _ _ OM OM OM OM⟩,I,I⟩<|W.sq<|g 9 11 [.call (V.i (ai l (pos+1+1) 2)) ([rdC l (pos+1+1+1),[]])]<|J ⟨I,⟨UB,I,UV,UA,aa _ _ _ OM OM OM OM⟩,I,I⟩<|W.cn<|J (noT dO) fun _=>W.skip<|W.sq<|g 11 15 []<|J UB<|W.cn<|J (fun _=>(g 15 17 []<|J ⟨I,UD,I⟩ (W.ret ?_))) (noF tO)
   refine EndsW.rt<|J UE ?_
   exact⟨⟨1,0,0,0⟩,_,rfl,rfl,by omega,by omega⟩
  by_cases k1:ai l pos 24 < 17
  ·refine aS ?_
   conv=>whnf
   refine g 0 0 []<|J UA<|g 5 7 [.call (V.i (ai l pos 24)) ([rdC l (pos+1),[]])]<|J ⟨I,⟨UB,I,UV,UA,aa _ _ _ OM OM OM OM⟩,I,I⟩<|g 7 9 [.call (V.i (ai l (pos+1) 40)) ([rdC l (pos+1+1),[]])]<|J ⟨I,⟨UB,I,UV,UA,aa _ _ _ OM OM OM OM⟩,I,I⟩<|W.sq<|g 9 11 [.call (V.i (ai l (pos+1+1) 2)) ([rdC l (pos+1+1+1),[]])]<|J ⟨I,⟨UB,I,UV,UA,aa _ _ _ OM OM OM OM⟩,I,I⟩<|W.cn<|J (noT dO) fun _=>W.skip<|W.sq<|g 11 15 []<|J UB<|W.cn<|J (noT dO) fun _=>W.skip<|W.sq ?_
   refine g 15 18 []<|J UB<|W.cn<|J (fun _=>(g 18 21 []<|J ⟨I,I,UD,I⟩ (W.ret (EndsW.rt<|J UE ?_)))) (noF tO)
   exact⟨⟨2,ai l (pos+1) 40,0,0⟩,_,rfl,rfl,by omega,by omega⟩
  by_cases k2:ai l pos 24 = 17
  ·refine aS ?_
   conv=>whnf
   refine g 0 0 []<|J UA<|g 5 7 [.call (V.i (ai l pos 24)) ([rdC l (pos+1),[]])]<|J ⟨I,⟨UB,I,UV,UA,aa _ _ _ OM OM OM OM⟩,I,I⟩<|g 7 9 [.call (V.i (ai l (pos+1) 40)) ([rdC l (pos+1+1),[]])]<|J ⟨I,⟨UB,I,UV,UA,aa _ _ _ OM OM OM OM⟩,I,I⟩<|W.sq<|g 9 11 [.call (V.i (ai l (pos+1+1) 2)) ([rdC l (pos+1+1+1),[]])]<|J ⟨I,⟨UB,I,UV,UA,aa _ _ _ OM OM OM OM⟩,I,I⟩<|W.cn<|J (noT dO) fun _=>W.skip<|W.sq<|g 11 15 []<|J UB<|W.cn<|J (noT dO) fun _=>W.skip<|W.sq ?_
   refine g 15 18 []<|J UB<|W.cn<|J (noT dO) fun _=>W.skip<|W.sq<|g 18 22 []<|J UB<|W.cn<|J (fun _=>(g 22 25 []<|J ⟨I,I,UD,I⟩ (W.ret (EndsW.rt<|J UE ?_)))) (noF tO)
   exact⟨⟨3,ai l (pos+1) 40,0,0⟩,_,rfl,rfl,by omega,by omega⟩
  by_cases k3:ai l pos 24 = 18
  ·refine aS ?_
   conv=>whnf
   refine g 0 0 []<|J UA<|g 5 7 [.call (V.i (ai l pos 24)) ([rdC l (pos+1),[]])]<|J ⟨I,⟨UB,I,UV,UA,aa _ _ _ OM OM OM OM⟩,I,I⟩<|g 7 9 [.call (V.i (ai l (pos+1) 40)) ([rdC l (pos+1+1),[]])]<|J ⟨I,⟨UB,I,UV,UA,aa _ _ _ OM OM OM OM⟩,I,I⟩<|W.sq<|g 9 11 [.call (V.i (ai l (pos+1+1) 2)) ([rdC l (pos+1+1+1),[]])]<|J ⟨I,⟨UB,I,UV,UA,aa _ _ _ OM OM OM OM⟩,I,I⟩<|W.cn<|J (noT dO) fun _=>W.skip<|W.sq<|g 11 15 []<|J UB<|W.cn<|J (noT dO) fun _=>W.skip<|W.sq ?_
   refine g 15 18 []<|J UB<|W.cn<|J (noT dO) fun _=>W.skip<|W.sq<|g 18 22 []<|J UB<|W.cn<|J (noT dO) fun _=>W.skip<|W.sq<|g 22 26 []<|J UB<|W.cn<|J (fun _=>(g 26 29 []<|J ⟨I,I,UD,I⟩ (W.ret ?_))) (noF tO)
   refine EndsW.rt<|J UE ?_
   exact⟨⟨4,ai l (pos+1) 40,0,0⟩,_,rfl,rfl,by omega,by omega⟩
  by_cases k4:ai l pos 24 = 19
  ·refine aS ?_
   conv=>whnf
   refine g 0 0 []<|J UA<|g 5 7 [.call (V.i (ai l pos 24)) ([rdC l (pos+1),[]])]<|J ⟨I,⟨UB,I,UV,UA,aa _ _ _ OM OM OM OM⟩,I,I⟩<|g 7 9 [.call (V.i (ai l (pos+1) 40)) ([rdC l (pos+1+1),[]])]<|J ⟨I,⟨UB,I,UV,UA,aa _ _ _ OM OM OM OM⟩,I,I⟩<|W.sq<|g 9 11 [.call (V.i (ai l (pos+1+1) 2)) ([rdC l (pos+1+1+1),[]])]<|J ⟨I,⟨UB,I,UV,UA,aa _ _ _ OM OM OM OM⟩,I,I⟩<|W.cn<|J (noT dO) fun _=>W.skip<|W.sq<|g 11 15 []<|J UB<|W.cn<|J (noT dO) fun _=>W.skip<|W.sq ?_
   refine g 15 18 []<|J UB<|W.cn<|J (noT dO) fun _=>W.skip<|W.sq<|g 18 22 []<|J UB<|W.cn<|J (noT dO) fun _=>W.skip<|W.sq<|g 22 26 []<|J UB<|W.cn<|J (noT dO) fun _=>W.skip<|W.sq ?_
   refine g 26 30 []<|J UB<|W.cn<|J (fun _=>(g 4 37 [.call (V.i (ai l (pos+1+1+1) 40)) ([rdC l (pos+1+1+1+1),[]]),.call (V.i (ai l (pos+1+1+1+1) 300)) ([rdC l (pos+1+1+1+1+1),[]])]<|J ⟨I,I,⟨UB,I,UV,UA,aa _ _ _ OM OM OM OM⟩,I,⟨UB,I,UV,UA,aa _ _ _ OM OM OM OM⟩,I,UD,I⟩ (W.ret (EndsW.rt<|J UE ?_)))) (noF tO)
   exact⟨⟨5,ai l (pos+1) 40,ai l (pos+1+1+1) 40,ai l (pos+1+1+1+1) 300⟩,_,rfl,rfl,by omega,by omega⟩
  by_cases k5:ai l pos 24 < 22
  ·refine aS ?_
   conv=>whnf
   refine g 0 0 []<|J UA<|g 5 7 [.call (V.i (ai l pos 24)) ([rdC l (pos+1),[]])]<|J ⟨I,⟨UB,I,UV,UA,aa _ _ _ OM OM OM OM⟩,I,I⟩<|g 7 9 [.call (V.i (ai l (pos+1) 40)) ([rdC l (pos+1+1),[]])]<|J ⟨I,⟨UB,I,UV,UA,aa _ _ _ OM OM OM OM⟩,I,I⟩<|W.sq<|g 9 11 [.call (V.i (ai l (pos+1+1) 2)) ([rdC l (pos+1+1+1),[]])]<|J ⟨I,⟨UB,I,UV,UA,aa _ _ _ OM OM OM OM⟩,I,I⟩<|W.cn<|J (noT dO) fun _=>W.skip<|W.sq<|g 11 15 []<|J UB<|W.cn<|J (noT dO) fun _=>W.skip<|W.sq ?_
   refine g 15 18 []<|J UB<|W.cn<|J (noT dO) fun _=>W.skip<|W.sq<|g 18 22 []<|J UB<|W.cn<|J (noT dO) fun _=>W.skip<|W.sq<|g 22 26 []<|J UB<|W.cn<|J (noT dO) fun _=>W.skip<|W.sq ?_
   refine g 26 30 []<|J UB<|W.cn<|J (noT dO) fun _=>W.skip<|W.sq<|g 4 38 []<|J UB<|W.cn<|J (fun _=>(g 38 44 [.call (V.i (ai l (pos+1+1+1) 4)) ([rdC l (pos+1+1+1+1),[]]),.call (V.i (ai l (pos+1+1+1+1) 4)) ([rdC l (pos+1+1+1+1+1),[]])]<|J ⟨I,⟨UB,I,UV,UA,aa _ _ _ OM OM OM OM⟩,I,⟨UB,I,UV,UA,aa _ _ _ OM OM OM OM⟩,I,UD,I⟩ (W.ret (EndsW.rt<|J UE ?_)))) (noF tO)
   exact⟨⟨6,ai l (pos+1+1+1) 4,ai l (pos+1+1+1+1) 4,0⟩,_,rfl,rfl,by omega,by omega⟩
  by_cases k6:ai l pos 24 = 22
  ·refine aS ?_
   conv=>whnf
   refine g 0 0 []<|J UA<|g 5 7 [.call (V.i (ai l pos 24)) ([rdC l (pos+1),[]])]<|J ⟨I,⟨UB,I,UV,UA,aa _ _ _ OM OM OM OM⟩,I,I⟩<|g 7 9 [.call (V.i (ai l (pos+1) 40)) ([rdC l (pos+1+1),[]])]<|J ⟨I,⟨UB,I,UV,UA,aa _ _ _ OM OM OM OM⟩,I,I⟩<|W.sq<|g 9 11 [.call (V.i (ai l (pos+1+1) 2)) ([rdC l (pos+1+1+1),[]])]<|J ⟨I,⟨UB,I,UV,UA,aa _ _ _ OM OM OM OM⟩,I,I⟩<|W.cn<|J (noT dO) fun _=>W.skip<|W.sq<|g 11 15 []<|J UB<|W.cn<|J (noT dO) fun _=>W.skip<|W.sq ?_
   refine g 15 18 []<|J UB<|W.cn<|J (noT dO) fun _=>W.skip<|W.sq<|g 18 22 []<|J UB<|W.cn<|J (noT dO) fun _=>W.skip<|W.sq<|g 22 26 []<|J UB<|W.cn<|J (noT dO) fun _=>W.skip<|W.sq ?_
   refine g 26 30 []<|J UB<|W.cn<|J (noT dO) fun _=>W.skip<|W.sq<|g 4 38 []<|J UB<|W.cn<|J (noT dO) fun _=>W.skip<|W.sq<|g 3 45 []<|J UB<|W.cn<|J (fun _=>(g 45 47 []<|J ⟨I,UD,I⟩ (W.ret ?_))) (noF tO)
   refine EndsW.rt<|J UE ?_
   exact⟨⟨7,0,0,0⟩,_,rfl,rfl,by omega,by omega⟩
  ·refine aS ?_
   conv=>whnf
   refine g 0 0 []<|J UA<|g 5 7 [.call (V.i (ai l pos 24)) ([rdC l (pos+1),[]])]<|J ⟨I,⟨UB,I,UV,UA,aa _ _ _ OM OM OM OM⟩,I,I⟩<|g 7 9 [.call (V.i (ai l (pos+1) 40)) ([rdC l (pos+1+1),[]])]<|J ⟨I,⟨UB,I,UV,UA,aa _ _ _ OM OM OM OM⟩,I,I⟩<|W.sq<|g 9 11 [.call (V.i (ai l (pos+1+1) 2)) ([rdC l (pos+1+1+1),[]])]<|J ⟨I,⟨UB,I,UV,UA,aa _ _ _ OM OM OM OM⟩,I,I⟩<|W.cn<|J (noT dO) fun _=>W.skip<|W.sq<|g 11 15 []<|J UB<|W.cn<|J (noT dO) fun _=>W.skip<|W.sq ?_
   refine g 15 18 []<|J UB<|W.cn<|J (noT dO) fun _=>W.skip<|W.sq<|g 18 22 []<|J UB<|W.cn<|J (noT dO) fun _=>W.skip<|W.sq<|g 22 26 []<|J UB<|W.cn<|J (noT dO) fun _=>W.skip<|W.sq ?_
   refine g 26 30 []<|J UB<|W.cn<|J (noT dO) fun _=>W.skip<|W.sq<|g 4 38 []<|J UB<|W.cn<|J (noT dO) fun _=>W.skip<|W.sq<|g 3 45 []<|J UB<|W.cn<|J (noT dO) fun _=>W.skip<|g 45 50 [.call (V.i (ai l (pos+1+1+1) 4)) ([rdC l (pos+1+1+1+1),[]])]<|J ⟨I,⟨UB,I,UV,UA,aa _ _ _ OM OM OM OM⟩,I,UD,I⟩ ?_
   refine W.ret<|EndsW.rt<|J UE ?_
   exact⟨⟨7,ai l (pos+1+1+1) 4,0,0⟩,_,rfl,rfl,by omega,by omega⟩
theorem uh(l:List Int)(pos:Int)(h:hL l∧0≤pos∧pos≤1000000):∃ x:Event×Int,F iU [.ptr (rdC l pos)] (nc x.1) [rdC l x.2]∧pos≤x.2∧x.2≤pos+8:=by
 obtain⟨res,outs,⟨e,pos2,rfl,rfl,h1,h2⟩,hF⟩:=Mi l pos h.1 h.2.1 h.2.2
 exact⟨(e,pos2),hF,h1,h2⟩
open Classical in
noncomputable def evP(l:List Int)(pos:Int):Event×Int:=if h:hL l∧0≤pos∧pos≤1000000 then(uh l pos h).choose else(Pv,pos)
theorem iW(l:List Int)(pos:Int)(hl:hL l)(h0:0≤pos)(h1:pos≤1000000):F iU [.ptr (rdC l pos)] (nc (evP l pos).1) [rdC l (evP l pos).2]:=by
 have h:hL l∧0≤pos∧pos≤1000000:=⟨hl,h0,h1⟩
 rw[evP,dif_pos h]
 exact(uh l pos h).choose_spec.1
theorem Oo(l:List Int)(pos:Int):pos≤(evP l pos).2∧(evP l pos).2≤pos+8:=by
 unfold evP
 split
 ·rename_i h;exact(uh l pos h).choose_spec.2
 ·exact⟨Int.le_refl _,by dsimp only;omega⟩
theorem IU{p:Plan}{k:Int}(h:ah p.tasks = 0)(hk:1≤k∧k≤8):BossOk (cH k 0 []) p:=by
 refine⟨h,hk,⟨Int.le_refl _,by show 0≤1000000;omega⟩,ql h,fun q=>?_,fun _=>⟨rfl,rfl,rfl,rfl,rfl,rfl,rfl,rfl⟩⟩
 cases q
theorem LW{n:Nat}(h:n < 8):ar (zQ n):=by
 refine⟨⟨?_,?_⟩,⟨?_,?_⟩,⟨?_,?_⟩,.inl rfl,.inl ⟨rfl,rfl,rfl,rfl,rfl,rfl,rfl⟩⟩ <;> (simp only[zQ];omega)
theorem BX{p:Plan}{key:ByteArray}{k:Int}(h:NewOk p key k):WorldOk (iG p key k):=by
 rw[oQ h]
 obtain⟨h1,h2,h3⟩:=h
 have hl:(crew k.toNat).length = k.toNat:=lL _
 refine⟨h1,h3,⟨by show 1≤(crew k.toNat).length;omega,by show(crew k.toNat).length≤8;omega⟩,Nat.zero_le _,?_,fun x hx=>(by cases hx),wF (IU h1 h2),?_⟩
 case refine_2 =>
  show(aY (cH k 0 []) p).workers = ((crew k.toNat).length:Int)
  rw[hl,wE]
  show k = _
  omega
 intro i x hi hx
 change (crew k.toNat)[i]? = some x at hx
 change i < (crew k.toNat).length at hi
 rw[lL]at hi
 have e:x = zQ i:=by
  unfold crew at hx
  rw[List.getElem?_map,List.getElem?_range hi]at hx
  exact(Option.some.inj hx).symm
 subst e
 exact⟨LW OM,rfl⟩
theorem tQ(w:World):(dh w).plan = w.plan:=by unfold dh;split <;> rfl
theorem DM(w:World)(s:Parcel):(bn w s).plan = w.plan:=by
 unfold bn
 cases ci s.text w.key with
 |none=>rfl
 |some m=>dsimp only;split;rfl;split <;> rfl
theorem jt(w:World)(k:Int):(cS w k).plan = w.plan:=by
 unfold cS;split
 ·rw[DM];rfl
 ·rfl
theorem xz(w:World)(e:Event):(doW w e).plan = w.plan:=by
 unfold doW
 split;exact tQ w
 split;exact jt w _
 split;rfl
 split;rfl
 split;rfl
 split
 ·split;rfl
  split <;> rfl
 split
 ·split;rfl
  split <;> rfl
 ·rfl
end Go.K
end
section
open Go Go.Tm Go.Proofs
namespace Go.K
/-! What is told in a world without forgery is the truth (for FnSent, FnTop, FnLive). -/
structure MsgTrue (p:Plan) (m:Message):Prop where
 offer:m.kind = 1→(0≤m.task∧m.task < p.tasks.length)∧m.inputs = cF (cz p) (iv p.tasks m.task.toNat)
 result:m.kind = 3→(0≤m.task∧m.task < p.tasks.length)∧m.text = atS (cz p) m.task
structure WorkTrue (p:Plan) (w:Worker):Prop where
 busy:w.state = 1→(0≤w.task∧w.task < p.tasks.length)∧w.inputs = cF (cz p) (iv p.tasks w.task.toNat)
 told:w.state = 2→(0≤w.task∧w.task < p.tasks.length)∧w.text = atS (cz p) w.task
end Go.K
end
section
open Go Go.Tm Go.Proofs
namespace Go.K
/-! A coordinator whose log tells the truth. -/
def Mz(p:Plan)(s:ByteArray):Prop:=∀ e,dy s = some e→¬e.kind = 1→e.text = atS (cz p) e.task
def fY(p:Plan)(l:Log):Prop:=∀ s∈l.safe++l.loose,Mz p s
end Go.K
end
section
open Go Go.Tm Go.Proofs
namespace Go.K
/-! A world in which nothing was forged tells the truth. -/
structure SentOk (p:Plan) (key:ByteArray) (n:Nat) (s:Parcel) (m:Message):Prop where
 read:ci s.frm key = some m
 to:m.to = s.kind
 frm:m.frm≤n
 tru:MsgTrue p m
structure WTrue (w:World):Prop where
 log:fY w.plan w.boss.log
 work:∀ x∈w.workers,WorkTrue w.plan x
 sent:∀ s∈w.flight,∃ m,SentOk w.plan w.key w.workers.length s m
theorem wY{α:Type}{xs:List α}{n:Nat}{x y:α}(h:y∈xs.set n x):y∈xs∨y = x:=List.mem_or_eq_of_mem_set h
theorem Ff{xs:List Parcel}{k pl ma:Int}{x:Parcel}(h:x∈mR xs k pl ma):∃ t∈xs,t.frm = x.frm∧t.kind = x.kind:=by
 unfold mR at h;split at h
 ·cases hy:xs[k.toNat]? with
  |none=>rw[hy]at h;exact⟨x,h,rfl,rfl⟩
  |some y =>
   rw[hy]at h
   rcases List.mem_or_eq_of_mem_set h with h|h
   ·exact⟨x,h,rfl,rfl⟩
   ·refine⟨y,List.mem_of_getElem? hy,?_⟩
    rw[h];unfold PT
    split <;> exact⟨rfl,rfl⟩
 ·exact⟨x,h,rfl,rfl⟩
end Go.K
end
section
open Go Go.Tm Go.Proofs
namespace Go.K
def On:List Event:=[⟨1,0,0,0⟩,⟨2,0,0,0⟩,⟨2,0,0,0⟩,⟨2,0,0,0⟩]
theorem Ax(fs:List Event):(fs++On).length = fs.length+4:=by rw[List.length_append];rfl
theorem pm(code:List Int)(hlen:code.length≤1048576)(h8:∀ x∈code,0≤x∧x≤255):∃ res outs,(∃ es:List Event,res = .own zr (es.map dq)∧outs = [[]]∧es.length≤1000)∧F qY [.val (.t (u8s code))] res outs:=by
 have hu:=Pd h8
 have co:=pv code OM
 generalize code.take 2000 = l at co hu
 have p40:=aE l 0 40
 refine qR ?_
 conv=>whnf
 refine g 0 0 []<|J UA<|g 8 10 [.call (V.tup [V.tup (rdC l 0)]) [[]]]<|J Zei<|g 10 13 [.call (V.i (ai l 0 40)) ([rdC l (0+1),[]]),.i (10+ai l 0 40)]<|J ⟨I,⟨UB,I,UV,UA,aa _ _ _ OM OM OM OM⟩,wO,I,I⟩<|g 13 14 []<|J UB<|W.sq<|g 0 0 []<|J UA<|W.blk<|W.lp (fun s (x:Nat×List Event×Int)=>⟨[(0,s.s 0),(2,s.s 2),(3,s.s 3),(4,s.s 4),(5,.ref ⟨5,none,0⟩),(6,.i x.1)],[(9,[.t (u8s l),.t (.i x.2.2)]),(5,[.own zr (x.2.1.map dq)])],[]⟩) (fun(x:Nat×List Event×Int)=>(x.1:Int)≤10+ai l 0 40∧x.2.1.length≤17 * x.1∧1≤x.2.2∧x.2.2≤1+10 * x.1) (fun(x:Nat×List Event×Int)=>(10+ai l 0 40 - x.1).toNat) ((0,[],1)) [some 9,some 13] [] ⟨rfl,Zay,⟨Zd1,Zdp⟩,I⟩ ⟨by omega,by simp⟩ ?_
 rintro⟨i,es,q⟩ ⟨i1,i2,i3,i4⟩
 dsimp only at i1 i2 i3 i4
 by_cases hi:(i:Int) < 10+ai l 0 40
 ·have ce:=iW l q hu OM OM
  obtain⟨e1,e2⟩:=Oo l q
  generalize(evP l q).1 = e at ce
  generalize(evP l q).2 = u at ce e1 e2
  have p5:=aE l u 5
  have p6:=aE l (u+1) 5
  have m1:es.map dq++ [dq e] = (es++ [e]).map dq:=by rw[List.map_append];rfl
  have m2:(es++ [e]).length = es.length+1:=by rw[List.length_append,List.length_singleton]
  by_cases k5:ai l u 5 = 0
  ·conv=>whnf
   refine W.sq<|g 14 16 []<|J UC<|W.cn<|J (fun _=>(W.skip (W.sq (W.blk (g 16 24 [.call (nc e) ([rdC l u])]<|J ⟨I,I,⟨UA,I,UA,UA,AS⟩,⟨UD,I⟩,Zdi,I,I⟩ (g 24 26 [.call (V.i (ai l u 5)) ([rdC l (u+1),[]])]<|J ⟨I,⟨UB,I,UV,UA,aa _ _ _ OM OM OM OM⟩,I,I⟩ (W.cn<|J (fun _=>(g 26 29 [.call (V.i (ai l (u+1) 5)) ([rdC l (u+1+1),[]])]<|J ⟨I,⟨UB,I,UV,UA,aa _ _ _ OM OM OM OM⟩,I,I⟩ (W.blk ?_))) (noF tO)))))))) (noF tO)
   refine W.lp (fun s (y:Int×List Event)=>⟨[(0,s.s 0),(2,s.s 2),(3,s.s 3),(4,s.s 4),(5,.ref ⟨5,none,0⟩),(6,s.s 6),(7,.i y.1)],[(9,[s.c 9 0,s.c 9 1]),(5,[.own zr (y.2.map dq)])],[]⟩) (fun(y:Int×List Event)=>0≤y.1∧y.1≤4∧(y.2.length:Int)≤es.length+1+4 * (4 - y.1)) (fun(y:Int×List Event)=>y.1.toNat) ((ai l (u+1) 5,es++ [e])) [some 9,some 23] [] ⟨rfl,⟨rfl,rfl,rfl,rfl,rfl,rfl,rfl,I⟩,⟨⟨rfl,⟨rfl,⟨rfl,I⟩⟩⟩,⟨⟨rfl,⟨(congrArg (V.own _) (m1)),I⟩⟩,I⟩⟩,I⟩ ?_ ?_
   ·exact⟨p6.1,by dsimp only;omega,by dsimp only;rw[m2];omega⟩
   rintro⟨k,fs⟩ ⟨j1,j2,j3⟩
   dsimp only at j1 j2 j3
   by_cases hk:0 < k
   ·have m3:fs.map dq++ [dq ⟨1,0,0,0⟩,dq ⟨2,0,0,0⟩,dq ⟨2,0,0,0⟩,dq ⟨2,0,0,0⟩] = (fs++On).map dq:=by rw[List.map_append];rfl
    have m4:=Ax fs
    conv=>whnf
    refine W.sq<|g 29 30 []<|J UB<|W.cn<|J (fun _=>(W.skip (W.sq (W.blk (rg []<|J ⟨I,I,I,I,I,⟨UD,UD,UD,UD,I⟩,Zdi,I,I⟩ (rg [.i (Prod.fst (k,fs) - 1)]<|J Zdf ?_)))))) (noF tO)
    refine⟨(k - 1,fs++On),[some 9,some 39],[],⟨rfl,Zbh,⟨Zd1,⟨⟨rfl,⟨(congrArg (V.own _) (m3)),I⟩⟩,I⟩⟩,I⟩,?_,?_⟩
    rotate_left
    (dsimp only;omega)
    dsimp only
    omega
    all_goals first|exact⟨by omega,by omega,by dsimp only;rw[Ax,Int.natCast_add];omega⟩|(dsimp only;omega)|omega
   ·conv=>whnf
    refine W.sq<|g 29 30 []<|J UB<|W.cn<|J (noT dO) fun _=>W.exit<|rg [.i ((↑(Prod.fst (i,es,q)):Int) +1)]<|J Zdf ?_
    refine⟨(i+1,fs,u+1+1),[some 9,some 5],[],⟨rfl,Zay,⟨Zd1,Zdp⟩,I⟩,?_,?_⟩
    rotate_left
    (dsimp only;omega)
    dsimp only
    omega
    all_goals first|exact⟨by omega,by dsimp only;omega,by dsimp only;omega,by dsimp only;omega⟩|(dsimp only;omega)|omega
  ·conv=>whnf
   refine W.sq<|g 14 16 []<|J UC<|W.cn<|J (fun _=>(W.skip (W.sq (W.blk (g 16 24 [.call (nc e) ([rdC l u])]<|J ⟨I,I,⟨UA,I,UA,UA,AS⟩,⟨UD,I⟩,Zdi,I,I⟩ (g 24 26 [.call (V.i (ai l u 5)) ([rdC l (u+1),[]])]<|J ⟨I,⟨UB,I,UV,UA,aa _ _ _ OM OM OM OM⟩,I,I⟩ (W.cn<|J (noT dO) fun _=>(W.skip (rg [.i ((↑(Prod.fst (i,es,q)):Int) +1)]<|J Zdf ?_))))))))) (noF tO)
   refine⟨(i+1,es++ [e],u+1),[some 9,some 23],[],⟨rfl,Zay,⟨Zd1,⟨⟨rfl,⟨(congrArg (V.own _) (m1)),I⟩⟩,I⟩⟩,I⟩,?_,?_⟩
   rotate_left
   (dsimp only;omega)
   dsimp only
   omega
   all_goals first|exact⟨by omega,by rw[m2];omega,by dsimp only;omega,by dsimp only;omega⟩|(dsimp only;omega)|omega
 ·conv=>whnf
  refine W.sq<|g 14 16 []<|J UC<|W.cn<|J (noT dO) fun _=>W.exit<|g 3 41 []<|J UB<|W.ret<|EndsW.rt<|J UB ?_
  exact⟨es,rfl,rfl,by omega⟩
end Go.K
end
section
open Go Go.Tm Go.Proofs
namespace Go.K
/-! Leases: none is handed out twice; thanks come for what is safe (for FnLeases). -/
noncomputable def qe(b:Boss)(p:Plan):Int:=if b.up = true then(b.epoch - 1) * 1000000+b.given else(am p b.log.safe).epoch * 1000000
def lN(R:List (Int×Int))(m:Message):Prop:=m.kind = 1∨m.kind = 3→(m.lease,m.task)∈R
structure RTrue (R:List (Int×Int)) (w:World):Prop where
 work:∀ x∈w.workers,¬x.state = 0→(x.lease,x.task)∈R
 sent:∀ s∈w.flight,∃ m,ci s.frm w.key = some m∧lN R m
 owed:∀ o∈w.boss.owed,(o.lease,o.task)∈R
structure Ledger (R:List (Int×Int)) (w:World):Prop where
 cap:∀ r∈R,r.1≤qe w.boss w.plan
 once:(R.map Prod.fst).Nodup
 safe:w.boss.up = true→(am w.plan w.boss.log.safe).epoch = w.boss.epoch
 tru:w.forged = emp→RTrue R w
def dg(ms:List Message):List (Int×Int):=(ms.filter fun m=>m.kind = 1).map fun m=>(m.lease,m.task)
theorem Lz{R S:List (Int×Int)}{m:Message}(h:lN R m)(hs:∀ r∈R,r∈S):lN S m:=fun q=>hs _ (h q)
/-! What the post lets through. -/
theorem Ep{key:ByteArray}:∀ (ms:List Message) (xs:List Parcel),∃ ns:List Message,List.Sublist ns ms∧ms.foldl (ix key) xs = xs++ns.map (fun m=>⟨m.to,bw m key,bw m key⟩)∧∀ m∈ns,ci (bw m key) key = some m
 |[],xs=>⟨[],List.Sublist.refl _,by simp,fun m hm=>by cases hm⟩
 |m :: ms,xs=>by
  obtain⟨ns,h1,h2,h3⟩:=Ep ms (ix key xs m)
  by_cases q:bx m∧key.size≤30∧xs.length < 2000
  ·have e:ix key xs m = xs++ [⟨m.to,bw m key,bw m key⟩]:=if_pos q
   refine⟨m :: ns,h1.cons_cons m,?_,fun y hy=>?_⟩
   ·rw[List.foldl_cons,h2,e,List.append_assoc];rfl
   ·rcases List.mem_cons.1 hy with rfl|hy
    ·exact z9 q.1 q.2.1
    ·exact h3 y hy
  ·have e:ix key xs m = xs:=if_neg q
   refine⟨ns,h1.cons m,?_,h3⟩
   rw[List.foldl_cons,h2,e]
theorem xZ(a b:List Message):dg (a++b) = dg a++dg b:=by unfold dg;rw[List.filter_append,List.map_append]
theorem t8{ms:List Message}(h:∀ m∈ms,¬m.kind = 1):dg ms = []:=by
 unfold dg
 rw[List.filter_eq_nil_iff.2 fun m hm=>by simpa using h m hm];rfl
theorem EA{ms:List Message}(h:∀ m∈ms,m.kind = 1):dg ms = ms.map fun m=>(m.lease,m.task):=by
 unfold dg
 rw[List.filter_eq_self.2 fun m hm=>by simpa using h m hm]
theorem Ex{a b:List Message}(h:List.Sublist a b):List.Sublist (dg a) (dg b):=(h.filter _).map _
/-! What a tick hands out. -/
structure Inc (b:Boss) (h:Hand):Prop where
 le:b.given≤h.given
 kind:∀ m∈h.out,m.kind = 1
 lo:∀ m∈h.out,(b.epoch - 1) * 1000000+b.given < m.lease
 hi:∀ m∈h.out,m.lease≤(b.epoch - 1) * 1000000+h.given
 pw:(h.out.map Message.lease).Nodup
theorem ET{b:Boss}{ts:List Task}:∀ n,Inc b (aD b ts n)
 |0=>⟨Int.le_refl _,fun m hm=>(by cases hm),fun m hm=>(by cases hm),fun m hm=>(by cases hm),List.Pairwise.nil⟩
 |n+1=>by
  have ih:=ET (b:=b) (ts:=ts) n
  by_cases hc:CanHand b ts (aD b ts n) n
  ·cases hf:gM (aD b ts n).seats with
   |none=>rw[g8 hf];exact ih
   |some s =>
    rw[gZ hc hf]
    have e1:=ih.le
    refine⟨by show b.given≤(aD b ts n).given+1;omega,fun m hm=>?_,fun m hm=>?_,fun m hm=>?_,?_⟩
    ·rcases List.mem_append.1 hm with hm|hm
     ·exact ih.kind m hm
     ·rw[List.mem_singleton.1 hm];rfl
    ·rcases List.mem_append.1 hm with hm|hm
     ·exact ih.lo m hm
     ·rw[List.mem_singleton.1 hm]
      show _ < (b.epoch - 1) * 1000000+ ((aD b ts n).given+1);omega
    ·rcases List.mem_append.1 hm with hm|hm
     ·have:=ih.hi m hm
      show m.lease≤(b.epoch - 1) * 1000000+ ((aD b ts n).given+1);omega
     ·rw[List.mem_singleton.1 hm];exact Int.le_refl _
    ·show(((aD b ts n).out++ [Cr b ts s n ((aD b ts n).given+1)]).map Message.lease).Nodup
     rw[List.map_append]
     refine List.nodup_append.2 ⟨ih.pw,by simp,fun x hx y hy e=>?_⟩
     obtain⟨m,hm,rfl⟩:=List.mem_map.1 hx
     have h1:=ih.hi m hm
     have h2:y = (b.epoch - 1) * 1000000+ ((aD b ts n).given+1):=by
      rw[List.map_singleton]at hy;exact List.mem_singleton.1 hy
     omega
  ·rw[eY hc];exact ih
theorem GM{p:Plan}{xs ys:List ByteArray}(h:(am p (xs++ys)).code = 0):(am p xs).epoch≤(am p (xs++ys)).epoch:=by
 have hp:=gE h
 obtain⟨_,_,_,t,h1,h2⟩:=bL hp
 obtain⟨_,_,_,u,h3,h4⟩:=bL h
 rw[h2,h4]
 show t.epoch≤u.epoch
 rw[ly,h1]at h3
 have key:∀ (l:List ByteArray) (t u:Tale),iw p.tasks (some t) l = some u→t.epoch≤u.epoch:=by
  intro l
  induction l with
  |nil=>intro t u h;cases h;exact Int.le_refl _
  |cons s l ih =>
   intro t u h
   have e:iw p.tasks (some t) (s :: l) = iw p.tasks (cY p.tasks t s) l:=rfl
   rw[e]at h
   cases hs:cY p.tasks t s with
   |none=>rw[hs,fS]at h;cases h
   |some v =>
    rw[hs]at h
    have h5:=ih v u h
    have h6:t.epoch≤v.epoch:=by
     unfold cY at hs
     split at hs
     ·cases hs
     ·split at hs
      ·split at hs
       ·cases hs;dsimp only;omega
       ·cases hs
      ·split at hs
       ·cases hs;exact Int.le_refl _
       ·cases hs
    omega
 exact key ys t u h3
theorem mU{b:Boss}{p:Plan}(h:b.up = true):qe b p = (b.epoch - 1) * 1000000+b.given:=if_pos h
theorem D0{b:Boss}{p:Plan}(h:¬b.up = true):qe b p = (am p b.log.safe).epoch * 1000000:=if_neg h
structure TickRec (b:Boss) (p:Plan) (l:Led):Prop where
 top:qe b p≤qe l.boss p
 safe:(b.up = true→(am p b.log.safe).epoch = b.epoch)→l.boss.up = true→(am p l.boss.log.safe).epoch = l.boss.epoch
 lo:∀ r∈dg l.out,qe b p < r.1
 hi:∀ r∈dg l.out,r.1≤qe l.boss p
 pw:((dg l.out).map Prod.fst).Nodup
 owed:∀ o∈l.boss.owed,o∈b.owed
 kind:∀ m∈l.out,m.kind = 1∨m.kind = 4
 thanks:∀ m∈l.out,m.kind = 4→∃ o∈b.owed,o.lease = m.lease∧(0≤o.task∧o.task < p.tasks.length)∧¬atS (am p l.boss.log.safe).results o.task = emp
theorem LU(ms:List Message)(h:∀ m∈ms,m.kind = 1):(dg ms).map Prod.fst = ms.map Message.lease:=by
 rw[EA h,List.map_map];rfl
theorem JR{b:Boss}{p:Plan}(hv:BossOk b p):TickRec b p (ee b p.tasks):=by
 by_cases h0:b.now = 1000000
 ·rw[jv h0]
  exact⟨Int.le_refl _,fun h=>h,fun r hr=>(by cases hr),fun r hr=>(by cases hr),List.Pairwise.nil,fun o ho=>ho,fun m hm=>(by cases hm),fun m hm=>(by cases hm)⟩
 by_cases hup:b.up = false
 ·rw[mM h0 hup]
  exact⟨Int.le_refl _,fun h=>h,fun r hr=>(by cases hr),fun r hr=>(by cases hr),List.Pairwise.nil,fun o ho=>ho,fun m hm=>(by cases hm),fun m hm=>(by cases hm)⟩
 have hup2:=Oe hup
 have hi:=ET (b:=cG b) (ts:=p.tasks) p.tasks.length
 have ho:dg (endH b p.tasks).out = (endH b p.tasks).out.map fun m=>(m.lease,m.task):=EA hi.kind
 have hmem:∀ r∈dg (endH b p.tasks).out,∃ m∈(endH b p.tasks).out,m.lease = r.1:=fun r hr=>by
  rw[ho]at hr
  obtain⟨m,hm,rfl⟩:=List.mem_map.1 hr
  exact⟨m,hm,rfl⟩
 have hle:b.given≤(endH b p.tasks).given:=hi.le
 have hlo:∀ r∈dg (endH b p.tasks).out,qe b p < r.1:=fun r hr=>by
  obtain⟨m,hm,e⟩:=hmem r hr
  rw[mU hup2,←e];exact hi.lo m hm
 have hhi:∀ r∈dg (endH b p.tasks).out,r.1≤(b.epoch - 1) * 1000000+ (endH b p.tasks).given:=fun r hr=>by
  obtain⟨m,hm,e⟩:=hmem r hr
  rw[←e];exact hi.hi m hm
 have hpw:((dg (endH b p.tasks).out).map Prod.fst).Nodup:=by rw[show(dg (endH b p.tasks).out).map Prod.fst = (endH b p.tasks).out.map Message.lease from LU _ hi.kind];exact hi.pw
 by_cases hs:b.since+1 = 2
 ·rw[fC h0 hup hs]
  have et:dg ((endH b p.tasks).out++b.owed.map (jf b.epoch)) = dg (endH b p.tasks).out:=by
   rw[xZ,t8 (ms:=b.owed.map (jf b.epoch)) fun m hm=>?_,List.append_nil]
   obtain⟨o,_,rfl⟩:=List.mem_map.1 hm
   show ¬(4:Int) = 1;omega
  refine⟨?_,fun h hu=>?_,?_,?_,?_,fun o ho=>(by cases ho),fun m hm=>?_,fun m hm hk=>?_⟩
  ·rw[mU hup2,mU (show(Led.boss _).up = true from hup2)]
   show(b.epoch - 1) * 1000000+b.given≤(b.epoch - 1) * 1000000+ (endH b p.tasks).given;omega
  ·show(am p (b.log.safe++b.log.loose)).epoch = b.epoch
   exact(hv.up hup2).epoch.symm
  ·show ∀ r∈dg (_++_),_;rw[et];exact hlo
  ·show ∀ r∈dg (_++_),_;rw[et]
   intro r hr
   rw[mU (show(Led.boss _).up = true from hup2)];exact hhi r hr
  ·show((dg (_++_)).map Prod.fst).Nodup;rw[et];exact hpw
  ·rcases List.mem_append.1 hm with hm|hm
   ·exact .inl (hi.kind m hm)
   ·obtain⟨o,_,rfl⟩:=List.mem_map.1 hm;exact .inr rfl
  ·rcases List.mem_append.1 hm with hm|hm
   ·have:=hi.kind m hm;omega
   ·obtain⟨o,ho2,rfl⟩:=List.mem_map.1 hm
    obtain⟨a1,a2,a3,a4⟩:=(hv.up hup2).owed o ho2
    refine⟨o,ho2,rfl,⟨a3.1,by omega⟩,?_⟩
    show ¬atS (am p (b.log.safe++b.log.loose)).results o.task = emp
    have e:b.results = (am p (b.log.safe++b.log.loose)).results:=(hv.up hup2).res
    rw[←e];exact a4
 ·rw[gW h0 hup hs]
  refine⟨?_,fun h hu=>h hup2,hlo,?_,hpw,fun o ho=>ho,fun m hm=>.inl (hi.kind m hm),fun m hm hk=>?_⟩
  ·rw[mU hup2,mU (show(Led.boss _).up = true from hup2)]
   show(b.epoch - 1) * 1000000+b.given≤(b.epoch - 1) * 1000000+ (endH b p.tasks).given;omega
  ·intro r hr
   rw[mU (show(Led.boss _).up = true from hup2)];exact hhi r hr
  ·have:=hi.kind m hm;omega
/-! The world. -/
theorem I5{R:List (Int×Int)}{w:Worker}{ts:List Task}{m:Message}(h:¬w.state = 0→(w.lease,w.task)∈R)(hm:lN R m):¬(fE w ts m).state = 0→((fE w ts m).lease,(fE w ts m).task)∈R:=by
 unfold fE
 split
 ·split
  ·rename_i q;exact fun _=>hm (.inl q.1)
  ·split
   ·intro q;exact absurd rfl q
   ·exact h
 ·exact h
theorem zV{R:List (Int×Int)}{w:Worker}{ts:List Task}(h:¬w.state = 0→(w.lease,w.task)∈R):(¬(dx w ts).worker.state = 0→((dx w ts).worker.lease,(dx w ts).worker.task)∈R)∧∀ m∈(dx w ts).out,(¬m.kind = 1∧¬m.kind = 4)∧lN R m:=by
 have told:∀ {x:Worker} {k:Int},(k = 3→(x.lease,x.task)∈R)→¬k = 1→¬k = 4→(¬(dn x k).kind = 1∧¬(dn x k).kind = 4)∧lN R (dn x k):=fun{x k} h3 h1 h4=>by
  refine⟨⟨h1,h4⟩,fun q=>?_⟩
  have q3:k = 3:=by rcases q with q|q;exact absurd q h1;exact q
  have e1:(dn x k).lease = x.lease:=if_neg OM
  have e2:(dn x k).task = x.task:=if_pos q3
  rw[e1,e2];exact h3 q3
 unfold dx
 split
 ·exact⟨h,fun m hm=>by cases hm⟩
 split
 ·rename_i hs
  have h1:(w.lease,w.task)∈R:=h OM
  split
  ·exact⟨fun _=>h1,fun m hm=>by rw[List.mem_singleton.1 hm];exact told (fun _=>h1) OM OM⟩
  ·split
   ·exact⟨fun _=>h1,fun m hm=>by rw[List.mem_singleton.1 hm];exact told (fun _=>h1) OM OM⟩
   ·exact⟨fun _=>h1,fun m hm=>by cases hm⟩
 split
 ·rename_i hs
  have h1:(w.lease,w.task)∈R:=h OM
  split
  ·exact⟨fun _=>h1,fun m hm=>by rw[List.mem_singleton.1 hm];exact told (fun _=>h1) OM OM⟩
  ·exact⟨fun _=>h1,fun m hm=>by cases hm⟩
 ·split
  ·exact⟨h,fun m hm=>by rw[List.mem_singleton.1 hm];exact told (fun q=>absurd q OM) OM OM⟩
  ·exact⟨h,fun m hm=>by cases hm⟩
structure Posted (R:List (Int×Int)) (w:World) (ns:List Message):Prop where
 flight:(dh w).flight = w.flight++ns.map fun m=>⟨m.to,bw m w.key,bw m w.key⟩
 read:∀ m∈ns,ci (bw m w.key) w.key = some m
 once:((R++dg ns).map Prod.fst).Nodup
 thanks:∀ m∈ns,m.kind = 4→∃ r∈R,r.1 = m.lease∧(0≤r.2∧r.2 < w.plan.tasks.length)∧¬atS (am w.plan (dh w).boss.log.safe).results r.2 = emp
theorem LQ{R:List (Int×Int)}{os:List (Int×Int)}{t:Int}(h:(R.map Prod.fst).Nodup)(hc:∀ r∈R,r.1≤t)(hp:(os.map Prod.fst).Nodup)(hl:∀ r∈os,t < r.1):((R++os).map Prod.fst).Nodup:=by
 rw[List.map_append]
 refine List.nodup_append.2 ⟨h,hp,fun x hx y hy e=>?_⟩
 obtain⟨r,hr,rfl⟩:=List.mem_map.1 hx
 obtain⟨s,hs,rfl⟩:=List.mem_map.1 hy
 have:=hc r hr
 have:=hl s hs
 omega
theorem Ld{R:List (Int×Int)}{w:World}(h:WorldOk w)(hl:Ledger R w)(hf:w.forged = emp):∃ ns,Posted R w ns∧Ledger (R++dg ns) (dh w):=by
 by_cases h0:1000000≤w.boss.now
 ·rw[jx h0]
  exact⟨[],⟨by rw[jx h0];simp,fun m hm=>(by cases hm),(by rw[show dg [] = []from rfl,List.append_nil];exact hl.once),fun m hm=>(by cases hm)⟩,by rw[show dg [] = []from rfl,List.append_nil];exact hl⟩
 obtain⟨t1,t2,t3⟩:=hl.tru hf
 have hb:=JR h.boss
 have eb:=jB h.boss
 have hok:∀ x∈w.workers,ev x w.plan = dx x w.plan.tasks:=fun x hx=>by
  obtain⟨i,hi⟩:=List.getElem?_of_mem hx
  have hl:=(List.getElem?_eq_some_iff.1 hi).1
  exact cU (h.crew i x hl hi).ok h.plan
 have ha:∀ m∈fM w.plan w.workers w.workers.length,(¬m.kind = 1∧¬m.kind = 4)∧lN R m:=fun m hm=>by
  obtain⟨l,hl,hm2⟩:=List.mem_flatten.1 hm
  rw[List.take_length]at hl
  obtain⟨x,hx,rfl⟩:=List.mem_map.1 hl
  rw[hok x hx]at hm2
  exact(zV (t1 x hx)).2 m hm2
 obtain⟨ns,n1,n2,n3⟩:=Ep (key:=w.key) ((mK w.boss w.plan).out++fM w.plan w.workers w.workers.length) w.flight
 have ef:(dh w).flight = w.flight++ns.map fun m=>⟨m.to,bw m w.key,bw m w.key⟩:=by
  rw[je h0]
  show f0 _ _ _ _ = _
  unfold f0
  rw[List.take_length];exact n2
 have e1:dg ((mK w.boss w.plan).out++fM w.plan w.workers w.workers.length) = dg (ee w.boss w.plan.tasks).out:=by
  rw[xZ,t8 (ms:=fM _ _ _) fun m hm=>(ha m hm).1.1,List.append_nil,eb]
 have hs:List.Sublist (dg ns) (dg (ee w.boss w.plan.tasks).out):=by rw[←e1];exact Ex n1
 have hbt:(dh w).boss = (ee w.boss w.plan.tasks).boss:=by rw[je h0,←eb]
 have once:((R++dg ns).map Prod.fst).Nodup:=LQ hl.once hl.cap (List.Nodup.sublist (hs.map _) hb.pw) fun r hr=>hb.lo r (hs.subset hr)
 have mk:∀ m∈ns,m∈(ee w.boss w.plan.tasks).out∨((¬m.kind = 1∧¬m.kind = 4)∧lN R m):=fun m hm=>by
  rcases List.mem_append.1 (n1.subset hm)with q|q
  ·rw[eb]at q;exact .inl q
  ·exact .inr (ha m q)
 refine⟨ns,⟨ef,n3,once,fun m hm hk=>?_⟩,?_,once,?_,fun _=>?_⟩
 ·rcases mk m hm with q|q
  ·obtain⟨o,o1,o2,o3,o4⟩:=hb.thanks m q hk
   exact⟨(o.lease,o.task),t3 o o1,o2,o3,by rw[hbt];exact o4⟩
  ·exact absurd hk q.1.2
 ·intro r hr
  show r.1≤qe (dh w).boss (dh w).plan
  have ep:(dh w).plan = w.plan:=by rw[je h0]
  rw[hbt,ep]
  rcases List.mem_append.1 hr with hr|hr
  ·exact Int.le_trans (hl.cap r hr) hb.top
  ·exact hb.hi r (hs.subset hr)
 ·have ep:(dh w).plan = w.plan:=by rw[je h0]
  rw[hbt,ep]
  exact hb.safe hl.safe
 ·refine⟨?_,?_,?_⟩
  ·rw[je h0]
   intro y hy
   obtain⟨x,hx,rfl⟩:=List.mem_map.1 hy
   rw[hok x hx]
   exact fun q=>List.mem_append_left _ ((zV (t1 x hx)).1 q)
  ·rw[ef]
   intro s hs2
   have ek:(dh w).key = w.key:=by rw[je h0]
   rw[ek]
   rcases List.mem_append.1 hs2 with hs2|hs2
   ·obtain⟨m,m1,m2⟩:=t2 s hs2
    exact⟨m,m1,Lz m2 fun r hr=>List.mem_append_left _ hr⟩
   ·obtain⟨m,hm,rfl⟩:=List.mem_map.1 hs2
    refine⟨m,n3 m hm,fun q=>?_⟩
    rcases mk m hm with q2|q2
    ·have hk:=hb.kind m q2
     refine List.mem_append_right _ ?_
     unfold dg
     exact List.mem_map.2 ⟨m,List.mem_filter.2 ⟨hm,by simpa using(by omega:m.kind = 1)⟩,rfl⟩
    ·exact List.mem_append_left _ (q2.2 q)
  ·rw[hbt]
   exact fun o ho=>List.mem_append_left _ (t3 o (hb.owed o ho))
/-! Other events. -/
structure Same (b c:Boss):Prop where
 up:c.up = b.up
 ep:c.epoch = b.epoch
 gv:c.given = b.given
 sf:c.log.safe = b.log.safe
theorem Lq{b c:Boss}{p:Plan}(h:Same b c):qe c p = qe b p:=by unfold qe;rw[h.up,h.ep,h.gv,h.sf]
theorem wC{a b c:Boss}(h:Same a b)(k:Same b c):Same a c:=⟨by rw[k.up,h.up],by rw[k.ep,h.ep],by rw[k.gv,h.gv],by rw[k.sf,h.sf]⟩
theorem od(b:Boss):Same b b:=⟨rfl,rfl,rfl,rfl⟩
theorem GU(b:Boss)(ts:List Task)(m:Message):Same b (ew b ts m)∧∀ o∈(ew b ts m).owed,o∈b.owed∨(m.kind = 3∧o.lease = m.lease∧o.task = m.task):=by
 unfold ew
 split
 ·split
  ·unfold qE;split <;> exact⟨⟨rfl,rfl,rfl,rfl⟩,fun o ho=>.inl ho⟩
  ·split
   ·exact⟨⟨rfl,rfl,rfl,rfl⟩,fun o ho=>.inl ho⟩
   ·split
    ·rename_i hk
     split
     ·have s1:Same b (jX b ts m)∧(jX b ts m).owed = b.owed:=by unfold jX;split <;> exact⟨⟨rfl,rfl,rfl,rfl⟩,rfl⟩
      have s2:Same (jX b ts m) (rD (jX b ts m) m)∧(rD (jX b ts m) m).owed = (jX b ts m).owed:=by
       unfold rD;split
       ·unfold gb;split <;> exact⟨⟨rfl,rfl,rfl,rfl⟩,rfl⟩
       ·exact⟨od _,rfl⟩
      have s12:=wC s1.1 s2.1
      have e12:(rD (jX b ts m) m).owed = b.owed:=s2.2.trans s1.2
      unfold du uA
      split
      ·refine⟨wC s12 ⟨rfl,rfl,rfl,rfl⟩,fun o ho=>?_⟩
       rcases List.mem_append.1 ho with ho|ho
       ·rw[e12]at ho;exact .inl ho
       ·rw[List.mem_singleton.1 ho];exact .inr ⟨hk,rfl,rfl⟩
      ·exact⟨s12,fun o ho=>.inl (by rw[←e12];exact ho)⟩
     ·exact⟨od _,fun o ho=>.inl ho⟩
    ·exact⟨od _,fun o ho=>.inl ho⟩
 ·exact⟨od _,fun o ho=>.inl ho⟩
theorem mz{R:List (Int×Int)}{w:World}{fl:List Parcel}(hs:Ledger R w)(h:∀ s∈fl,∃ t∈w.flight,t.frm = s.frm):Ledger R (cg w fl):=by
 refine⟨hs.cap,hs.once,hs.safe,fun hf=>?_⟩
 obtain⟨t1,t2,t3⟩:=hs.tru hf
 refine⟨t1,fun s hs=>?_,t3⟩
 obtain⟨t,ht,e1⟩:=h s hs
 obtain⟨m,q1,q2⟩:=t2 t ht
 exact⟨m,by rw[←e1];exact q1,q2⟩
theorem GW{R:List (Int×Int)}{w:World}{s:Parcel}(h:WorldOk w)(hs:Ledger R w)(hsent:w.forged = emp→∃ m,ci s.frm w.key = some m∧lN R m):Ledger R (bn w s):=by
 cases hm:ci s.text w.key with
 |none=>rw[oA hm];exact hs
 |some m =>
  have hne:¬s.text = emp:=fun e=>by rw[e]at hm;have:ci emp w.key = none:=hY (by decide);rw[this]at hm;cases hm
  have key:uK w s = emp→w.forged = emp∧lN R m:=fun e=>by
   by_cases q2:w.forged = emp
   ·refine⟨q2,?_⟩
    by_cases q1:s.text = s.frm
    ·obtain⟨x,r,t⟩:=hsent q2
     rw[q1,r]at hm
     cases hm
     exact t
    ·rw[xf q1 q2]at e;exact absurd e hne
   ·rw[sz q2]at e;exact absurd e q2
  by_cases h0:s.kind = 0
  ·rw[jT hm h0,jC h.boss]
   obtain⟨b1,b2⟩:=GU w.boss w.plan.tasks m
   refine⟨fun r hr=>by show r.1≤qe (ew w.boss w.plan.tasks m) w.plan;rw[Lq b1];exact hs.cap r hr,hs.once,fun hu=>?_,fun hf=>?_⟩
   ·show(am w.plan (ew w.boss w.plan.tasks m).log.safe).epoch = (ew w.boss w.plan.tasks m).epoch
    rw[b1.sf,b1.ep]
    exact hs.safe (by rw[←b1.up];exact hu)
   ·obtain⟨f1,f2⟩:=key hf
    obtain⟨t1,t2,t3⟩:=hs.tru f1
    refine⟨t1,t2,fun o ho=>?_⟩
    rcases b2 o ho with q|⟨q1,q2,q3⟩
    ·exact t3 o q
    ·rw[q2,q3];exact f2 (.inr q1)
  ·by_cases hx:jo w s.kind
   ·obtain⟨x,hx1,_,hok,_⟩:=eP h hx
    rw[jS hm h0 hx hx1,de hok h.plan]
    refine⟨hs.cap,hs.once,hs.safe,fun hf=>?_⟩
    obtain⟨f1,f2⟩:=key hf
    obtain⟨t1,t2,t3⟩:=hs.tru f1
    refine⟨fun y hy=>?_,t2,t3⟩
    rcases wY hy with hy|rfl
    ·exact t1 y hy
    ·exact I5 (t1 x (List.mem_of_getElem? hx1)) f2
   ·rw[mI hm h0 hx]
    refine⟨hs.cap,hs.once,hs.safe,fun hf=>?_⟩
    obtain⟨f1,_⟩:=key hf
    obtain⟨t1,t2,t3⟩:=hs.tru f1
    exact⟨t1,t2,t3⟩
theorem JT{R:List (Int×Int)}{w:World}(k:Int)(h:WorldOk w)(hs:Ledger R w):Ledger R (cS w k):=by
 by_cases ha:w.flight.length≤2000∧0≤k∧k < w.flight.length
 ·obtain⟨s,hs1⟩:=aj (xs:=w.flight) (n:=k.toNat) OM
  rw[oz ha hs1]
  have hw:=eO (fl:=bA w.flight k) h (by have:=o8 w.flight k;omega) fun x hx=>h.par x (fz hx)
  refine GW hw (mz hs fun x hx=>⟨x,fz hx,rfl⟩) fun hf=>?_
  exact(hs.tru hf).sent s (List.mem_of_getElem? hs1)
 ·rw[sH ha];exact hs
theorem Mg{b:Boss}{p:Plan}{k:Int}(hv:BossOk b p)(hs:b.up = true→(am p b.log.safe).epoch = b.epoch):qe b p≤qe (fh b k) p∧((fh b k).up = true→(am p (fh b k).log.safe).epoch = (fh b k).epoch)∧(fh b k).owed = []:=by
 by_cases hup:b.up = false
 ·rw[lj hup]
  exact⟨Int.le_refl _,hs,List.eq_nil_of_length_eq_zero (hv.down hup).owed⟩
 ·rw[tD hup]
  have hu:=Oe hup
  have hg:=(hv.up hu).given
  have hc:=Ap k hv
  refine⟨?_,fun q=>(by cases q),rfl⟩
  rw[mU hu,D0 (by show ¬(false:Bool) = true;decide)]
  have h1:(am p b.log.safe).epoch≤(am p (b.log.safe++b.log.loose.take (gt k b.log.loose.length))).epoch:=by
   refine GM ?_
   have h:=hv.code
   rw[bU,←List.take_append_drop (gt k b.log.loose.length) b.log.loose,←List.append_assoc]at h
   exact gE h
  have h2:=hs hu
  show _≤(am p (b.log.safe++b.log.loose.take (gt k b.log.loose.length))).epoch * 1000000
  omega
theorem Ec{b:Boss}{p:Plan}(hv:BossOk b p)(hs:b.up = true→(am p b.log.safe).epoch = b.epoch):qe b p≤qe (aY b p) p∧((aY b p).up = true→(am p (aY b p).log.safe).epoch = (aY b p).epoch)∧∀ o∈(aY b p).owed,o∈b.owed:=by
 by_cases hr:mY b p
 ·obtain⟨r1,r2,r3,r4,r5⟩:=nq hv hr
  have hd:¬b.up = true:=by rw[hr.1];decide
  refine⟨?_,fun _=>by rw[r1],fun o ho=>?_⟩
  ·rw[D0 hd,mU r5,r3]
   have he:(aY b p).epoch = (am p b.log.safe).epoch+1:=by rw[vO hr];rfl
   rw[he];omega
  ·rw[vO hr]at ho;cases ho
 ·rw[lz hr];exact⟨Int.le_refl _,hs,fun o ho=>ho⟩
theorem Rt{R:List (Int×Int)}{w:World}(e:Event)(h:WorldOk w)(hs:Ledger R w)(h1:¬e.kind = 1):Ledger R (doW w e):=by
 by_cases h2:e.kind = 2
 ·rw[QY h2];exact JT _ h hs
 by_cases h3:e.kind = 3
 ·rw[QX h3];exact mz (fl:=nY w.flight e.a) hs fun x hx=>⟨x,B8 hx,rfl⟩
 by_cases h4:e.kind = 4
 ·rw[QW h4];exact mz (fl:=bA w.flight e.a) hs fun x hx=>⟨x,fz hx,rfl⟩
 by_cases h5:e.kind = 5
 ·rw[QV h5];exact mz (fl:=mR w.flight e.a e.b e.c) hs fun x hx=>by obtain⟨t,ht,e1,_⟩:=Ff hx;exact⟨t,ht,e1⟩
 have wset:∀ {x y:Worker} {k:Int},w.workers[(k - 1).toNat]? = some x→y.state = 0∨y = x→Ledger R ⟨w.plan,w.key,w.boss,w.workers.set (k - 1).toNat y,w.flight,w.forged⟩:=fun{x y k} hx hy=>by
  refine⟨hs.cap,hs.once,hs.safe,fun hf=>?_⟩
  obtain⟨t1,t2,t3⟩:=hs.tru hf
  refine⟨fun z hz=>?_,t2,t3⟩
  rcases wY hz with hz|rfl
  ·exact t1 z hz
  ·rcases hy with hy|hy
   ·exact fun q=>absurd hy q
   ·rw[hy];exact t1 x (List.mem_of_getElem? hx)
 by_cases h6:e.kind = 6
 ·by_cases ha:e.a = 0
  ·rw[KB h6 ha,lM h.boss]
   obtain⟨f1,f2,f3⟩:=Mg (k:=e.b) h.boss hs.safe
   refine⟨fun r hr=>Int.le_trans (hs.cap r hr) f1,hs.once,f2,fun hf=>?_⟩
   obtain⟨t1,t2,t3⟩:=hs.tru hf
   refine⟨t1,t2,fun o ho=>?_⟩
   rw[show(World.boss _).owed = []from f3]at ho;cases ho
  ·by_cases hx:jo w e.a
   ·obtain⟨x,hx1,_,hok,_⟩:=eP h hx
    rw[Kz h6 hx hx1]
    exact wset hx1 (.inl (by unfold lV;rw[if_pos hok]))
   ·rw[KA h6 ha hx];exact hs
 by_cases h7:e.kind = 7
 ·by_cases ha:e.a = 0
  ·rw[Ky h7 ha,jD h.boss]
   obtain⟨f1,f2,f3⟩:=Ec h.boss hs.safe
   refine⟨fun r hr=>Int.le_trans (hs.cap r hr) f1,hs.once,f2,fun hf=>?_⟩
   obtain⟨t1,t2,t3⟩:=hs.tru hf
   exact⟨t1,t2,fun o ho=>t3 o (f3 o ho)⟩
  ·by_cases hx:jo w e.a
   ·obtain⟨x,hx1,_,hok,_⟩:=eP h hx
    rw[Kv h7 hx hx1]
    refine wset hx1 ?_
    unfold jd;rw[if_pos hok]
    split
    ·exact .inr rfl
    ·exact .inl rfl
   ·rw[Kw h7 ha hx];exact hs
 ·have e0:doW w e = w:=by
   unfold doW
   rw[if_neg h1,if_neg h2,if_neg h3,if_neg h4,if_neg h5,if_neg h6,if_neg h7]
  rw[e0];exact hs
theorem Px(p:Plan)(key:ByteArray)(k:Int):Ledger [] (iG p key k):=by
 by_cases h:NewOk p key k
 ·obtain⟨f1,f2,f3⟩:=Ec (IU h.plan h.w) (fun q=>by cases q)
  rw[oQ h]
  refine⟨fun r hr=>(by cases hr),List.Pairwise.nil,f2,fun _=>⟨fun x hx q=>?_,fun s hs=>(by cases hs),fun o ho=>?_⟩⟩
  ·obtain⟨i,_,rfl⟩:=List.mem_map.1 hx
   exact absurd rfl q
  ·cases f3 o ho
 ·rw[oT h]
  exact⟨fun r hr=>(by cases hr),List.Pairwise.nil,fun q=>(by cases q),fun _=>⟨fun x hx=>(by cases hx),fun s hs=>(by cases hs),fun o ho=>(by cases ho)⟩⟩
end Go.K
end
section
open Go Go.Tm Go.Proofs
namespace Go.K
theorem rO(l:List Int)(hlen:l.length≤1048576)(h8:∀ x∈l,0≤x∧x≤255):∃ res outs,(∃ p,res = dE p∧outs = [[]]∧jm p)∧F sU [.val (.t (u8s l))] res outs:=by
 have hu:hL (l.take 2000):=⟨by rw[List.length_take];omega,fun x hx=>h8 x (List.mem_of_mem_take hx)⟩
 obtain⟨d1,d2,d3,d4⟩:=IR (l.take 2000) 0
 have hr:=aE (l.take 2000) (fi (l.take 2000) 0).2 8
 have hsp:=Ln (l.take 2000) ((fi (l.take 2000) 0).2+1) (fi (l.take 2000) 0).1
 refine sK ?_
 conv=>whnf
 refine g 0 0 []<|J UA<|g 5 7 [.call (V.tup [V.tup (rdC (List.take 2000 l) 0)]) [[]]]<|J ⟨I,⟨UA,I,US,UA,pv _ OM⟩,I,I⟩<|g 7 9 [.call (dE (Prod.fst (fi (List.take 2000 l) 0))) ([rdC (List.take 2000 l) (Prod.snd (fi (List.take 2000 l) 0))])]<|J ⟨I,⟨UA,I,UA,UA,py _ _ OM OM OM⟩,I,UA,I⟩<|W.sq<|g 9 11 [.call (V.i (ai (List.take 2000 l) (Prod.snd (fi (List.take 2000 l) 0)) 8)) ([rdC (List.take 2000 l) (Prod.snd (fi (List.take 2000 l) 0) +1),[]])]<|J ⟨I,⟨UB,I,UV,UA,aa _ _ _ OM OM OM OM⟩,I,I⟩<|W.cn<|J (fun h1=>?_) fun h1=>?_
 replace h1:=dt h1
 refine g 11 15 [.call (dE (Prod.fst (mX (List.take 2000 l) (Prod.snd (fi (List.take 2000 l) 0) +1) (Prod.fst (fi (List.take 2000 l) 0))))) ([rdC (List.take 2000 l) (Prod.snd (mX (List.take 2000 l) (Prod.snd (fi (List.take 2000 l) 0) +1) (Prod.fst (fi (List.take 2000 l) 0)))),[]])]<|J ⟨I,I,⟨UV,I,UB,UA,wc _ _ _ OM OM OM OM⟩,UA,I⟩<|W.ret<|EndsW.rt<|J UB ?_
 rotate_left
 replace h1:=df h1
 refine W.skip<|g 3 16 []<|J UV<|W.ret<|EndsW.rt<|J UB ?_
 rotate_left
 ·exact⟨_,rfl,rfl,hsp.1⟩
 ·exact⟨_,rfl,rfl,fR d1⟩
end Go.K
end
section
open Go Go.Tm Go.Proofs
namespace Go.K
theorem jI(w:World)(h:DoLim w):F ra [.val (rY w)] (az w) [[]]:=by
 obtain⟨l1,l2,l3,l4,l5,l6,l7,l8⟩:=h
 have c1:=kN w.plan l2
 have c2:=Ca w.boss l3
 have c3:=dc w.flight OM
 refine rm ?_
 conv=>whnf
 refine g 0 0 []<|J Zd8<|gd 6 18 [[],[],[.call (dE w.plan) [[]]],[],[],[.call (aG w.boss) [[]]],[],[],[.call (V.own pkd (List.map bI w.flight)) [[]]],[],[],[],[],[],[]] ?_
 conv=>whnf
 refine J ⟨I,I,Zai,I,I,Za0,I,I,Zai,I,UA,I,UL,I,UA,I⟩<|J KR<|g 18 20 []<|J UC<|g 20 21 []<|J UV<|W.sq<|g 3 4 []<|J UC<|W.blk<|W.lp (fun s (n:Nat)=>⟨[(0,s.s 0),(1,s.s 1),(2,s.s 2),(21,s.s 21),(22,s.s 22),(23,.i n)],[(2,[s.c 2 0,s.c 2 1,s.c 2 2,s.c 2 3,s.c 2 4,s.c 2 5,s.c 2 6,s.c 2 7,s.c 2 8,s.c 2 9,s.c 2 10,s.c 2 11,s.c 2 12,s.c 2 13,s.c 2 14,s.c 2 15,s.c 2 16]),(1,[.own dM (w.plan.tasks.map aC),.t (.s w.key),.t (.i w.boss.workers),.t (.b w.boss.up),.t (.i w.boss.now),.t (.i w.boss.since),.t (.i w.boss.epoch),.t (.i w.boss.given),.own [false] (w.boss.log.safe.map ak),.own [false] (w.boss.log.loose.map ak),.own [false] (w.boss.results.map ak),.own fv (w.boss.jobs.map aV),.own cM (w.boss.seats.map aR),.own cN (w.boss.owed.map bg),.own dU ((w.workers.take n).map au),.own pkd (w.flight.map bI),.t (.s w.forged)])],[]⟩) (fun(n:Nat)=>n≤w.workers.length) (fun(n:Nat)=>w.workers.length - n) (0) [some 2,some 1] [] ⟨rfl,⟨Zav,rfl,rfl,rfl,rfl,rfl,I⟩,⟨Zdd,Zet⟩,I⟩ OM ?_
 intro n hn
 by_cases hn2:n < w.workers.length
 ·obtain⟨x,hx⟩:=aj hn2
  have hxi:=l5 x (List.mem_of_getElem? hx)
  have c4:=fr x OM
  conv=>whnf
  refine g 0 0 []<|J UA<|W.sq<|W.cn<|J (fun _=>(W.skip (W.sq (W.blk (g 24 27 [.x (au x)]<|J ⟨Zdj,I,I,UK,I⟩ (rgd [[],[],[],[.call (aB x) [[]]],[],[],[],[]] ?_)))))) (noF SI)
  conv=>whnf
  refine⟨⟨I,I,I,Zdc,⟨UK,I⟩,Zdi,I,UA,I⟩,by kernel_rfl,?_⟩
  refine rg [.i ((n:Int) +1)]<|J Zdm ?_
  refine⟨n+1,[some 2,some 1],[],⟨rfl,⟨Zav,rfl,rfl,rfl,rfl,rfl,I⟩,⟨Zdd,⟨⟨rfl,⟨rfl,⟨rfl,⟨rfl,⟨rfl,⟨rfl,⟨rfl,⟨rfl,⟨rfl,⟨rfl,⟨rfl,⟨rfl,⟨rfl,⟨rfl,⟨rfl,⟨(congrArg (V.own _) (oc AS)),Zad⟩⟩⟩⟩⟩⟩⟩⟩⟩⟩⟩⟩⟩⟩⟩⟩,I⟩⟩,I⟩,?_,?_⟩
  rotate_left
  (dsimp only;omega)
  dsimp only
  omega
 ·have e:w.workers.take n = w.workers:=bF OM
  conv=>whnf
  refine g 0 0 []<|J UA<|W.sq<|W.cn<|J (noT SI) fun _=>W.exit<|g 21 36 []<|J Zdn<|RT ?_
  (simp[*];done)
theorem eA(w:World)(k:Int)(h:w.workers.length≤8)(hk:1≤k∧k≤w.workers.length):F ig [.ptr (cellsOf (az w)),.val (.i k)] (.ptr ⟨0,some (14,(k - 1).toNat,11),0⟩) [cellsOf (az w),[]]:=by
 obtain⟨x,hx⟩:=aj (xs:=w.workers) (n:=(k - 1).toNat) OM
 refine ik ?_
 conv=>whnf
 refine g 0 0 []<|J UA<|W.sq<|g 5 11 [.call (V.b (decide (1≤k∧k≤(↑(List.length (List.map au w.workers)):Int)))) [[],[],[]]]<|J ⟨I,I,I,I,I,I,⟨UC,I,UU,UA,ac _ _ _⟩,I⟩<|W.cn<|J (fun _=>(g 15 19 [.i (k - 1),.n (Int.toNat (k - 1))]<|J ⟨I,I,I,I,I,wO,Zdo,I,I⟩ (RT ?_))) (noF SI)
 rfl
theorem dr(w:World)(k:Int)(h:w.workers.length≤8)(hk:¬(1≤k∧k≤w.workers.length)):F ig [.ptr (cellsOf (az w)),.val (.i k)] (.t (.v (.pointer none))) [cellsOf (az w),[]]:=by
 refine ik ?_
 conv=>whnf
 refine g 0 0 []<|J UA<|W.sq<|g 5 11 [.call (V.b (decide (1≤k∧k≤(↑(List.length (List.map au w.workers)):Int)))) [[],[],[]]]<|J ⟨I,I,I,I,I,I,⟨UC,I,UU,UA,ac _ _ _⟩,I⟩<|W.cn<|J (noT SI) fun _=>W.skip<|g 0 2 []<|J UA<|RT ?_
 rfl
theorem jJ(w:World)(h:WorldOk w):F rb [.ptr (cellsOf (az w))] (.tup []) [cellsOf (az (dh w))]:=by
 obtain⟨l1,l2,l3,l4,l5,l6,l7,l8⟩:=dG h
 have hnow:=h.boss.now
 by_cases h0:1000000≤w.boss.now
 ·rw[jx h0]
  have h1:w.boss.now = 1000000:=by omega
  refine jF ?_
  conv=>whnf
  refine W.sq<|g 6 11 []<|J UF<|W.cn<|J (fun _=>(RT ?_)) (noF tO)
  rfl
 ·rw[je h0]
  have c1:=tK w.boss w.plan h.boss l3
  obtain⟨s1,s2,s3⟩:=uW w.plan l3
  have s4:=AW w.boss w.plan
  rw[jB h.boss]at s1 s2 s3 s4 ⊢
  generalize ee w.boss w.plan.tasks = L at c1 s1 s2 s3 s4 ⊢
  refine jF ?_
  conv=>whnf
  refine W.sq<|g 6 11 []<|J UF<|W.cn<|J (noT dO) fun _=>W.skip<|gd 11 20 [[],[],[],[],[],[],[],[.call (V.own ca (List.map aF (Led.out L))) ([cellsOf (aG (Led.boss L)),[]])],[]] ?_
  conv=>whnf
  refine J ⟨I,I,I,I,I,I,I,Zbr,I,I⟩<|J KR<|W.sq<|g 20 23 []<|J UF<|W.blk<|W.lp (fun s (n:Nat)=>⟨[(0,s.s 0),(2,.ref ⟨2,none,0⟩),(23,s.s 23),(24,s.s 24),(25,.i n)],[(2,[.own ca ((L.out++fM w.plan w.workers n).map aF)]),(62,[.own dM (w.plan.tasks.map aC),.t (.s w.key),.t (.i L.boss.workers),.t (.b L.boss.up),.t (.i L.boss.now),.t (.i L.boss.since),.t (.i L.boss.epoch),.t (.i L.boss.given),.own [false] (L.boss.log.safe.map ak),.own [false] (L.boss.log.loose.map ak),.own [false] (L.boss.results.map ak),.own fv (L.boss.jobs.map aV),.own cM (L.boss.seats.map aR),.own cN (L.boss.owed.map bg),.own dU ((fu (fun x=>(ev x w.plan).worker) w.workers n).map au),.own pkd (w.flight.map bI),.t (.s w.forged)])],[]⟩) (fun(n:Nat)=>n≤w.workers.length) (fun(n:Nat)=>w.workers.length - n) (0) [some 19,some 62] [] ⟨rfl,Za8,⟨⟨rfl,⟨(congrArg (V.own _) (by rw[xK,List.append_nil])),I⟩⟩,Zet⟩,I⟩ OM ?_
  intro n hn
  have hl:=ii (fun x=>(ev x w.plan).worker) w.workers n
  have ha:=Fi w.plan w.workers n
  by_cases hn2:n < w.workers.length
  ·obtain⟨x,hx⟩:=aj hn2
   have hxi:=l5 x (List.mem_of_getElem? hx)
   have hwk:=(h.crew n x hn2 hx).ok
   have c4:=pX x w.plan hwk h.plan
   rw[←cU hwk h.plan]at c4
   have e1:=li (f:=fun x=>(ev x w.plan).worker) (g:=au) hx
   have e2:(L.out++fM w.plan w.workers n).map aF++ (ev x w.plan).out.map aF = (L.out++fM w.plan w.workers (n+1)).map aF:=by rw[←xL hx,←List.map_append,List.append_assoc]
   have hxo:=(n6 x w.plan).1
   generalize ev x w.plan = A at c4 e1 e2 hxo
   conv=>whnf
   refine g 0 0 []<|J UA<|W.sq<|W.cn<|J (fun _=>(W.skip (W.sq (W.blk (g 26 30 [.n (n),.x (au x),.x (au x)]<|J ⟨I,Zdh,aW AS,I,I,⟨I,I,I,I,I,I,I,I,aW AS,I,I,I⟩,I⟩ (gd 30 36 [[],[],[],[],[],[.call (pG A) [[],[]]],[],[]] ?_)))))) (noF SI)
   conv=>whnf
   refine⟨⟨I,I,I,I,I,⟨Zd5,I,UV,UA,AS⟩,I,UL,I⟩,by kernel_rfl,?_⟩
   refine gd 36 44 [[],[],[],[],[],[],[],[.n (n)],[.x (List.set (au x) (0+1+1+1+1+1+1+1+1) T.hole)]] ?_
   conv=>whnf
   refine J ⟨I,I,I,I,I,I,I,Zdh,⟨UK,gL LN⟩,I⟩<|J KR ?_
   rw[List.set_set]
   refine rg []<|J ⟨I,I,I,Zdi,I,I⟩<|rg [.i ((n:Int) +1)]<|J Zdm ?_
   refine⟨n+1,[some 47,some 62],[],⟨rfl,Za8,⟨⟨rfl,⟨(congrArg (V.own _) (e2)),I⟩⟩,⟨⟨rfl,⟨rfl,⟨rfl,⟨rfl,⟨rfl,⟨rfl,⟨rfl,⟨rfl,⟨rfl,⟨rfl,⟨rfl,⟨rfl,⟨rfl,⟨rfl,⟨rfl,⟨(congrArg (V.own _) (e1)),Zad⟩⟩⟩⟩⟩⟩⟩⟩⟩⟩⟩⟩⟩⟩⟩⟩,I⟩⟩,I⟩,?_,?_⟩
   rotate_left
   (dsimp only;omega)
   dsimp only
   omega
  ·obtain rfl:n = w.workers.length:=by omega
   have e:=ij (fun x=>(ev x w.plan).worker) w.workers (Nat.le_refl _)
   have c5:=DG w.flight (L.out++fM w.plan w.workers w.workers.length) w.key OM (by rw[List.length_append];omega) (fun m hm=>by
    rcases List.mem_append.1 hm with hm|hm
    ·have:=s3 m hm;omega
    ·rw[Fj hm];exact Nat.zero_le _)
   conv=>whnf
   refine g 0 0 []<|J UA<|W.sq<|W.cn<|J (noT SI) fun _=>W.exit<|rgd [[],[],[],[],[],[],[],[],[],[],[.call (V.own pkd (List.map bI (qr w.flight (Led.out L++fM w.plan w.workers (List.length w.workers)) w.key))) [[],[],[]]],[],[],[]] ?_
   conv=>whnf
   refine J ⟨I,I,I,I,I,I,I,I,I,I,⟨UC,I,UU,UA,AS⟩,I,I,UA,I⟩<|J KR<|EndsW.nm<|J I<|J ?_ ?_
   rfl
   all_goals (rw[e];try rfl)
theorem iI(w:World)(s:Parcel)(h:WorldOk w)(hs:ParOk s):F iH [.ptr (cellsOf (az w)),.val (Sf s.kind s.frm s.text)] (.tup []) [cellsOf (az (bn w s)),[]]:=by
 obtain⟨l1,l2,l3,l4,l5,l6,l7,l8⟩:=dG h
 obtain⟨⟨p1,p2⟩,p3,p4⟩:=hs
 have c4:=iJ s.text w.key OM
 cases hm:ci s.text w.key with
 |none =>
  rw[hm]at c4
  rw[oA hm]
  refine aZ ?_
  conv=>whnf
  refine g 1 2 []<|J ⟨UC,I⟩<|gd 7 17 [[],[],[],[],[],[],[.call (eu none) [[],[]]],[],[],[],[],[],[]] ?_
  conv=>whnf
  refine J Zds<|J KR<|W.sq<|g 17 18 []<|J UB<|W.cn<|J (fun _=>(RT ?_)) (noF rfl)
  rfl
 |some m =>
  rw[hm]at c4
  have hmi:=(cK (Ei hm)).1
  have cases3:∀ g:ByteArray,uK w s = g→((s.text = s.frm∧g = w.forged)∨(¬s.text = s.frm∧¬w.forged = emp∧g = w.forged)∨(¬s.text = s.frm∧w.forged = emp∧g = s.text)):=fun g e=>by
   by_cases q1:s.text = s.frm
   ·exact .inl ⟨q1,by rw[←e,EU q1]⟩
   ·by_cases q2:w.forged = emp
    ·exact .inr (.inr ⟨q1,q2,by rw[←e,xf q1 q2]⟩)
    ·exact .inr (.inl ⟨q1,q2,by rw[←e,sz q2]⟩)
  by_cases h0:s.kind = 0
  ·rw[jT hm h0]
   have c5:=tL w.boss w.plan m h.boss l3 OM
   rw[jC h.boss]
   show F _ _ _ [cellsOf (az ⟨w.plan,w.key,ew w.boss w.plan.tasks m,w.workers,w.flight,_⟩),_]
   generalize ew w.boss w.plan.tasks m = L at c5 ⊢
   generalize hgg:uK w s = g
   rcases cases3 g hgg with⟨q1,rfl⟩|⟨q1,q2,rfl⟩|⟨q1,q2,rfl⟩
   ·refine aZ ?_
    conv=>whnf
    refine g 1 2 []<|J ⟨UC,I⟩<|gd 7 17 [[],[],[],[],[],[],[.call (eu (some m)) [[],[]]],[],[],[],[],[],[]] ?_
    conv=>whnf
    refine J Zds<|J KR<|W.sq<|g 17 18 []<|J UB<|W.cn<|J (noT rfl) fun _=>W.skip<|W.sq<|g 5 30 [BF,BF,BF,BF,BF,BF]<|J ⟨I,I,I,I,I,I,nO,nO,nO,nO,nO,nO,I⟩<|W.cn<|J (noT rfl) fun _=>W.skip<|g 30 38 []<|J UC<|W.cn<|J (fun _=>(rgd [[],[],[],[],[],[],[],[],[.call (V.tup []) ([cellsOf (aG L),[],[]])]] ?_)) (noF tO)
    conv=>whnf
    refine⟨⟨I,I,I,I,I,I,I,I,⟨UC,I,⟨I,UA,UH,I⟩,UA,AS⟩,I⟩,by kernel_rfl,?_⟩
    refine EndsW.nm<|J I (J ?_ rfl)
    rfl
   ·refine aZ ?_
    conv=>whnf
    refine g 1 2 []<|J ⟨UC,I⟩<|gd 7 17 [[],[],[],[],[],[],[.call (eu (some m)) [[],[]]],[],[],[],[],[],[]] ?_
    conv=>whnf
    refine J Zds<|J KR<|W.sq<|g 17 18 []<|J UB<|W.cn<|J (noT rfl) fun _=>W.skip<|W.sq<|g 5 30 [BT,BT,BT,BT,BT,BT]<|J Zd0<|W.cn<|J (noT dO) fun _=>W.skip<|g 30 38 []<|J UC<|W.cn<|J (fun _=>(rgd [[],[],[],[],[],[],[],[],[.call (V.tup []) ([cellsOf (aG L),[],[]])]] ?_)) (noF tO)
    conv=>whnf
    refine⟨⟨I,I,I,I,I,I,I,I,⟨UC,I,⟨I,UA,UH,I⟩,UA,AS⟩,I⟩,by kernel_rfl,?_⟩
    refine EndsW.nm<|J I (J ?_ rfl)
    rfl
   ·refine aZ ?_
    conv=>whnf
    refine g 1 2 []<|J ⟨UC,I⟩<|gd 7 17 [[],[],[],[],[],[],[.call (eu (some m)) [[],[]]],[],[],[],[],[],[]] ?_
    conv=>whnf
    refine J Zds<|J KR<|W.sq<|g 17 18 []<|J UB<|W.cn<|J (noT rfl) fun _=>W.skip<|W.sq<|g 5 30 [BT,BT,BT,BT,BT,BT]<|J Zd0<|W.cn<|J (fun _=>(rg []<|J ⟨I,I,I,I,I,UA,I⟩ (g 30 38 []<|J UC (W.cn<|J (fun _=>(rgd [[],[],[],[],[],[],[],[],[.call (V.tup []) ([cellsOf (aG L),[],[]])]] ?_)) (noF tO))))) (noF tO)
    conv=>whnf
    refine⟨⟨I,I,I,I,I,I,I,I,⟨UC,I,⟨I,UA,UH,I⟩,UA,AS⟩,I⟩,by kernel_rfl,?_⟩
    refine EndsW.nm<|J I (J ?_ rfl)
    rfl
  ·by_cases h1:s.kind≤w.workers.length
   ·obtain⟨x,hx⟩:=aj (xs:=w.workers) (n:=(s.kind - 1).toNat) OM
    rw[jS hm h0 ⟨by omega,h1⟩ hx]
    have hwk:=(h.crew _ x OM hx).ok
    have hxi:=l5 x (List.mem_of_getElem? hx)
    have c5:=pY x w.plan m hwk h.plan OM
    rw[de hwk h.plan]
    show F _ _ _ [cellsOf (az ⟨w.plan,w.key,w.boss,w.workers.set _ (fE x w.plan.tasks m),w.flight,_⟩),_]
    generalize fE x w.plan.tasks m = L at c5 ⊢
    have es:=jy (xs:=w.workers) (n:=(s.kind - 1).toNat) (x:=L)
    generalize hgg:uK w s = g
    rcases cases3 g hgg with⟨q1,rfl⟩|⟨q1,q2,rfl⟩|⟨q1,q2,rfl⟩
    ·have cw:=eA w s.kind l4 ⟨by omega,h1⟩
     refine aZ ?_
     conv=>whnf
     refine g 1 2 []<|J ⟨UC,I⟩<|gd 7 17 [[],[],[],[],[],[],[.call (eu (some m)) [[],[]]],[],[],[],[],[],[]] ?_
     conv=>whnf
     refine J Zds<|J KR<|W.sq<|g 17 18 []<|J UB<|W.cn<|J (noT rfl) fun _=>W.skip<|W.sq<|g 5 30 [BF,BF,BF,BF,BF,BF]<|J ⟨I,I,I,I,I,I,nO,nO,nO,nO,nO,nO,I⟩<|W.cn<|J (noT rfl) fun _=>W.skip<|g 30 38 []<|J UC<|W.cn<|J (noT dO) fun _=>g 38 52 [.call (V.ptr {root:=0,step:=some (14,Int.toNat (s.kind - 1),11),off:=0:Tm.Place}) ([cellsOf (az w),[]])]<|J Zeh ?_
     refine g 3 4 []<|J UB<|W.cn<|J (fun _=>(rgd [[],[],[],[.x (au x)],[],[],[],[],[],[.x (au x),.call (aB L) [[],[],[]]],[],[.x (List.set (au x) (0+1+1+1+1+1+1+1+1) T.hole)]] ?_)) (noF rfl)
     conv=>whnf
     refine⟨⟨I,I,I,xA,I,I,I,I,I,⟨⟨Zcp,I,I,I⟩,I,⟨I,UA,UH,I⟩,UA,AS⟩,I,⟨UK,gL LN⟩,I⟩,by kernel_rfl,?_⟩
     refine EndsW.nm<|J I<|J ?_ ?_
     rfl
     rw[List.set_set]
     exact jc w.plan w.key w.boss w.workers (s.kind - 1).toNat L w.flight w.forged [[]]
    ·have cw:=eA w s.kind l4 ⟨by omega,h1⟩
     refine aZ ?_
     conv=>whnf
     refine g 1 2 []<|J ⟨UC,I⟩<|gd 7 17 [[],[],[],[],[],[],[.call (eu (some m)) [[],[]]],[],[],[],[],[],[]] ?_
     conv=>whnf
     refine J Zds<|J KR<|W.sq<|g 17 18 []<|J UB<|W.cn<|J (noT rfl) fun _=>W.skip<|W.sq<|g 5 30 [BT,BT,BT,BT,BT,BT]<|J Zd0<|W.cn<|J (noT dO) fun _=>W.skip<|g 30 38 []<|J UC<|W.cn<|J (noT dO) fun _=>g 38 52 [.call (V.ptr {root:=0,step:=some (14,Int.toNat (s.kind - 1),11),off:=0:Tm.Place}) ([cellsOf (az w),[]])]<|J Zeh ?_
     refine g 3 4 []<|J UB<|W.cn<|J (fun _=>(rgd [[],[],[],[.x (au x)],[],[],[],[],[],[.x (au x),.call (aB L) [[],[],[]]],[],[.x (List.set (au x) (0+1+1+1+1+1+1+1+1) T.hole)]] ?_)) (noF rfl)
     conv=>whnf
     refine⟨⟨I,I,I,xA,I,I,I,I,I,⟨⟨Zcp,I,I,I⟩,I,⟨I,UA,UH,I⟩,UA,AS⟩,I,⟨UK,gL LN⟩,I⟩,by kernel_rfl,?_⟩
     refine EndsW.nm<|J I<|J ?_ ?_
     rfl
     rw[List.set_set]
     exact jc w.plan w.key w.boss w.workers (s.kind - 1).toNat L w.flight w.forged [[]]
    ·have cw:=eA ⟨w.plan,w.key,w.boss,w.workers,w.flight,s.text⟩ s.kind l4 ⟨by omega,h1⟩
     refine aZ ?_
     conv=>whnf
     refine g 1 2 []<|J ⟨UC,I⟩<|gd 7 17 [[],[],[],[],[],[],[.call (eu (some m)) [[],[]]],[],[],[],[],[],[]] ?_
     conv=>whnf
     refine J Zds<|J KR<|W.sq<|g 17 18 []<|J UB<|W.cn<|J (noT rfl) fun _=>W.skip<|W.sq<|g 5 30 [BT,BT,BT,BT,BT,BT]<|J Zd0<|W.cn<|J (fun _=>(rg []<|J ⟨I,I,I,I,I,UA,I⟩ (g 30 38 []<|J UC (W.cn<|J (noT dO) fun _=>(g 38 52 [.call (V.ptr {root:=0,step:=some (14,Int.toNat (s.kind - 1),11),off:=0:Tm.Place}) ([cellsOf (az {plan:=w.plan,key:=w.key,boss:=w.boss,workers:=w.workers,flight:=w.flight,forged:=s.text:World}),[]])]<|J Zeh ?_))))) (noF tO)
     refine g 3 4 []<|J UB<|W.cn<|J (fun _=>(rgd [[],[],[],[.x (au x)],[],[],[],[],[],[.x (au x),.call (aB L) [[],[],[]]],[],[.x (List.set (au x) (0+1+1+1+1+1+1+1+1) T.hole)]] ?_)) (noF rfl)
     conv=>whnf
     refine⟨⟨I,I,I,xA,I,I,I,I,I,⟨⟨Zcp,I,I,I⟩,I,⟨I,UA,UH,I⟩,UA,AS⟩,I,⟨UK,gL LN⟩,I⟩,by kernel_rfl,?_⟩
     refine EndsW.nm<|J I<|J ?_ ?_
     rfl
     rw[List.set_set]
     exact jc w.plan w.key w.boss w.workers (s.kind - 1).toNat L w.flight s.text [[]]
   ·rw[mI hm h0 (fun q=>h1 q.2)]
    generalize hgg:uK w s = g
    rcases cases3 g hgg with⟨q1,rfl⟩|⟨q1,q2,rfl⟩|⟨q1,q2,rfl⟩
    ·have cw:=dr w s.kind l4 (fun q=>h1 q.2)
     refine aZ ?_
     conv=>whnf
     refine g 1 2 []<|J ⟨UC,I⟩<|gd 7 17 [[],[],[],[],[],[],[.call (eu (some m)) [[],[]]],[],[],[],[],[],[]] ?_
     conv=>whnf
     refine J Zds<|J KR<|W.sq<|g 17 18 []<|J UB<|W.cn<|J (noT rfl) fun _=>W.skip<|W.sq<|g 5 30 [BF,BF,BF,BF,BF,BF]<|J ⟨I,I,I,I,I,I,nO,nO,nO,nO,nO,nO,I⟩<|W.cn<|J (noT rfl) fun _=>W.skip<|g 30 38 []<|J UC<|W.cn<|J (noT dO) fun _=>g 38 52 [.call (V.t (T.v (Value.pointer none))) ([cellsOf (az w),[]])]<|J Zeh ?_
     refine g 3 4 []<|J UB<|W.cn<|J (noT rfl) fun _=>W.skip<|EndsW.nm<|J I (J ?_ rfl)
     rfl
    ·have cw:=dr w s.kind l4 (fun q=>h1 q.2)
     refine aZ ?_
     conv=>whnf
     refine g 1 2 []<|J ⟨UC,I⟩<|gd 7 17 [[],[],[],[],[],[],[.call (eu (some m)) [[],[]]],[],[],[],[],[],[]] ?_
     conv=>whnf
     refine J Zds<|J KR<|W.sq<|g 17 18 []<|J UB<|W.cn<|J (noT rfl) fun _=>W.skip<|W.sq<|g 5 30 [BT,BT,BT,BT,BT,BT]<|J Zd0<|W.cn<|J (noT dO) fun _=>W.skip<|g 30 38 []<|J UC<|W.cn<|J (noT dO) fun _=>g 38 52 [.call (V.t (T.v (Value.pointer none))) ([cellsOf (az w),[]])]<|J Zeh ?_
     refine g 3 4 []<|J UB<|W.cn<|J (noT rfl) fun _=>W.skip<|EndsW.nm<|J I (J ?_ rfl)
     rfl
    ·have cw:=dr ⟨w.plan,w.key,w.boss,w.workers,w.flight,s.text⟩ s.kind l4 (fun q=>h1 q.2)
     refine aZ ?_
     conv=>whnf
     refine g 1 2 []<|J ⟨UC,I⟩<|gd 7 17 [[],[],[],[],[],[],[.call (eu (some m)) [[],[]]],[],[],[],[],[],[]] ?_
     conv=>whnf
     refine J Zds<|J KR<|W.sq<|g 17 18 []<|J UB<|W.cn<|J (noT rfl) fun _=>W.skip<|W.sq<|g 5 30 [BT,BT,BT,BT,BT,BT]<|J Zd0<|W.cn<|J (fun _=>(rg []<|J ⟨I,I,I,I,I,UA,I⟩ (g 30 38 []<|J UC (W.cn<|J (noT dO) fun _=>(g 38 52 [.call (V.t (T.v (Value.pointer none))) ([cellsOf (az {plan:=w.plan,key:=w.key,boss:=w.boss,workers:=w.workers,flight:=w.flight,forged:=s.text:World}),[]])]<|J Zeh ?_))))) (noF tO)
     refine g 3 4 []<|J UB<|W.cn<|J (noT rfl) fun _=>W.skip<|EndsW.nm<|J I (J ?_ rfl)
     rfl
end Go.K
end
section
open Go Go.Tm Go.Proofs
namespace Go.K
theorem vK(w:World)(e:Event)(h:WorldOk w):F vn [.ptr (cellsOf (az w)),.val (Hs e)] (.tup []) [cellsOf (az (doW w e)),[]]:=by
 have ct:=jJ w h
 obtain⟨l1,l2,l3,l4,l5,l6,l7,l8⟩:=dG h
 have c1:=cx w.flight e.a OM
 have c3:=zE w.flight e.a OM
 have c4:=DH w.flight e.a OM
 have c5:=DJ w.flight e.a e.b e.c OM (fun p hp=>by have:=(l7 p hp).bytes;omega)
 have c6:=kQ w.boss e.b l3.safe l3.loose
 have c7:=kP w.boss w.plan l1 h.boss.workers (fun s hs=>l3.all s (List.mem_append_left _ hs)) (sN h.boss)
 by_cases h1:e.kind = 1
 ·rw[NX h1]
  refine aX ?_
  conv=>whnf
  refine g 1 2 []<|J ⟨UD,I⟩<|g 7 8 []<|J UB<|W.blk<|g 10 11 []<|J UB<|W.cn<|J (fun _=>(rg [.call (V.tup []) ([cellsOf (az (dh w))])]<|J ⟨I,⟨UA,I,UA,UA,AS⟩,I⟩ (EndsW.nm<|J I (J ?_ rfl)))) (noF tO)
  rfl
 by_cases h2:e.kind = 2
 ·rw[QY h2]
  by_cases ha:w.flight.length≤2000∧0≤e.a∧e.a < w.flight.length
  ·rw[decide_eq_true ha]at c1
   obtain⟨a1,a2,a3⟩:=ha
   obtain⟨s,hs⟩:=aj (xs:=w.flight) (n:=e.a.toNat) OM
   rw[oz ⟨a1,a2,a3⟩ hs]
   have hp:=l7 s (List.mem_of_getElem? hs)
   have hw2:WorldOk (cg w (bA w.flight e.a)):=eO h (by have:=o8 w.flight e.a;omega) fun x hx=>l7 x (fz hx)
   have cb:=iI (cg w (bA w.flight e.a)) s hw2 hp
   have cb2:F iH [.ptr (cellsOf (az ⟨w.plan,w.key,w.boss,w.workers,bA w.flight e.a,w.forged⟩)),.val (Sf s.kind s.frm s.text)] (.tup []) [cellsOf (az (bn (cg w (bA w.flight e.a)) s)),[]]:=cb
   clear cb
   generalize bn (cg w (bA w.flight e.a)) s = ww at cb2 ⊢
   refine aX ?_
   conv=>whnf
   refine g 1 2 []<|J ⟨UD,I⟩<|g 7 8 []<|J UB<|W.blk<|g 10 11 []<|J UB<|W.cn<|J (noT dO) fun _=>g 9 10 []<|J UB<|W.cn<|J (fun _=>(gd 8 21 [[],[],[],[],[],[],[.call VT [[],[]]]] ?_)) (noF tO)
   conv=>whnf
   refine⟨⟨I,I,I,I,I,I,Zam,I⟩,by kernel_rfl,?_⟩
   refine W.cn<|J (fun _=>(gd 21 30 [[],[],[],[],[],[],[.n (Int.toNat e.a)],[.x (bb s)],[],[]] ?_)) (noF rfl)
   conv=>whnf
   refine⟨⟨I,I,I,I,I,I,Zdo,xA,I,UC,I⟩,by kernel_rfl,?_⟩
   refine gd 30 40 [[],[],[],[],[],[],[],[.call (V.own pkd (List.map bI (bA w.flight e.a))) [[],[]]],[],[],[]] ?_
   conv=>whnf
   refine J ⟨I,I,I,I,I,I,I,Zam,I,I,UA,I⟩<|J KR<|rg [.call (V.tup []) ([cellsOf (az ww),[]])]<|J ⟨I,I,⟨UB,I,Zed,UA,AS⟩,I⟩<|EndsW.nm<|J I (J ?_ rfl)
   rfl
  ·rw[decide_eq_false ha]at c1
   rw[sH ha]
   refine aX ?_
   conv=>whnf
   refine g 1 2 []<|J ⟨UD,I⟩<|g 7 8 []<|J UB<|W.blk<|g 10 11 []<|J UB<|W.cn<|J (noT dO) fun _=>g 9 10 []<|J UB<|W.cn<|J (fun _=>(gd 8 21 [[],[],[],[],[],[],[.call VF [[],[]]]] ?_)) (noF tO)
   conv=>whnf
   refine⟨⟨I,I,I,I,I,I,Zam,I⟩,by kernel_rfl,?_⟩
   refine W.cn<|J (noT rfl) fun _=>W.skip<|EndsW.nm<|J I (J ?_ rfl)
   rfl
 by_cases h3:e.kind = 3
 ·rw[QX h3]
  refine aX ?_
  conv=>whnf
  refine g 1 2 []<|J ⟨UD,I⟩<|g 7 8 []<|J UB<|W.blk<|g 10 11 []<|J UB<|W.cn<|J (noT dO) fun _=>g 9 10 []<|J UB<|W.cn<|J (noT dO) fun _=>g 13 15 []<|J UB<|W.cn<|J (fun _=>(rgd [[],[],[],[],[],[],[],[.call (V.own pkd (List.map bI (nY w.flight e.a))) [[],[]]],[],[],[]] ?_)) (noF tO)
  conv=>whnf
  refine⟨⟨I,I,I,I,I,I,I,Zam,I,I,UA,I⟩,by kernel_rfl,?_⟩
  refine EndsW.nm<|J I (J ?_ rfl)
  rfl
 by_cases h4:e.kind = 4
 ·rw[QW h4]
  refine aX ?_
  conv=>whnf
  refine g 1 2 []<|J ⟨UD,I⟩<|g 7 8 []<|J UB<|W.blk<|g 10 11 []<|J UB<|W.cn<|J (noT dO) fun _=>g 9 10 []<|J UB<|W.cn<|J (noT dO) fun _=>g 13 15 []<|J UB<|W.cn<|J (noT dO) fun _=>g 43 45 []<|J UB<|W.cn<|J (fun _=>(rgd [[],[],[],[],[],[],[],[.call (V.own pkd (List.map bI (bA w.flight e.a))) [[],[]]],[],[],[]] ?_)) (noF tO)
  conv=>whnf
  refine⟨⟨I,I,I,I,I,I,I,Zam,I,I,UA,I⟩,by kernel_rfl,?_⟩
  refine EndsW.nm<|J I (J ?_ rfl)
  rfl
 by_cases h5:e.kind = 5
 ·rw[QV h5]
  refine aX ?_
  conv=>whnf
  refine g 1 2 []<|J ⟨UD,I⟩<|g 7 8 []<|J UB<|W.blk<|g 10 11 []<|J UB<|W.cn<|J (noT dO) fun _=>g 9 10 []<|J UB<|W.cn<|J (noT dO) fun _=>g 13 15 []<|J UB<|W.cn<|J (noT dO) fun _=>g 43 45 []<|J UB<|W.cn<|J (noT dO) fun _=>g 55 57 []<|J UB ?_
  refine W.cn<|J (fun _=>(rgd [[],[],[],[],[],[],[],[],[],[],[],[.call (V.own pkd (List.map bI (mR w.flight e.a e.b e.c))) [[],[],[],[]]],[],[],[]] ?_)) (noF tO)
  conv=>whnf
  refine⟨⟨I,I,I,I,I,I,I,I,I,I,I,⟨UD,I,Zda,UA,AS⟩,I,I,UA,I⟩,by kernel_rfl,?_⟩
  refine EndsW.nm<|J I (J ?_ rfl)
  rfl
 by_cases h6:e.kind = 6
 ·by_cases ha:e.a = 0
  ·rw[KB h6 ha,lM h.boss]
   generalize fh w.boss e.b = B at c6 ⊢
   refine aX ?_
   conv=>whnf
   refine g 1 2 []<|J ⟨UD,I⟩<|g 7 8 []<|J UB<|W.blk<|g 10 11 []<|J UB<|W.cn<|J (noT dO) fun _=>g 9 10 []<|J UB<|W.cn<|J (noT dO) fun _=>g 13 15 []<|J UB<|W.cn<|J (noT dO) fun _=>g 43 45 []<|J UB<|W.cn<|J (noT dO) fun _=>g 55 57 []<|J UB ?_
   refine W.cn<|J (noT dO) fun _=>g 67 69 []<|J UB<|W.cn<|J (fun _=>(g 8 87 []<|J UC (W.cn<|J (fun _=>(rgd [[],[],[],[],[],[.call (V.tup []) ([cellsOf (aG B),[]])]] ?_)) (noF tO)))) (noF tO)
   conv=>whnf
   refine⟨⟨I,I,I,I,I,Zbr,I⟩,by kernel_rfl,?_⟩
   refine EndsW.nm<|J I (J ?_ rfl)
   rfl
  ·by_cases hx:1≤e.a∧e.a≤w.workers.length
   ·have cw:=eA w e.a l4 hx
    obtain⟨x1,x2⟩:=hx
    obtain⟨x,hx⟩:=aj (xs:=w.workers) (n:=(e.a - 1).toNat) OM
    rw[Kz h6 ⟨x1,x2⟩ hx]
    have hxi:=l5 x (List.mem_of_getElem? hx)
    have c8:=rz x OM
    generalize lV x = y at c8 ⊢
    have es:=jy (xs:=w.workers) (n:=(e.a - 1).toNat) (x:=y)
    refine aX ?_
    conv=>whnf
    refine g 1 2 []<|J ⟨UD,I⟩<|g 7 8 []<|J UB<|W.blk<|g 10 11 []<|J UB<|W.cn<|J (noT dO) fun _=>g 9 10 []<|J UB<|W.cn<|J (noT dO) fun _=>g 13 15 []<|J UB<|W.cn<|J (noT dO) fun _=>g 43 45 []<|J UB<|W.cn<|J (noT dO) fun _=>g 55 57 []<|J UB ?_
    refine W.cn<|J (noT dO) fun _=>g 67 69 []<|J UB<|W.cn<|J (fun _=>(g 8 87 []<|J UC (W.cn<|J (noT dO) fun _=>(g 87 98 [.call (V.ptr {root:=0,step:=some (14,Int.toNat (e.a - 1),11),off:=0:Tm.Place}) ([cellsOf (az w),[]])]<|J Zeh (g 0 4 []<|J UB (W.cn<|J (fun _=>(rg [.x (au x),.x (au x),.call (aB y) [[]],.x (au x)]<|J ⟨I,I,I,xA,⟨UA,I,⟨Zcp,I⟩,UA,AS⟩,I,⟨UK,xA⟩,I⟩ (EndsW.nm<|J I<|J ?_ ?_))) (noF rfl))))))) (noF tO)
    rfl
    exact jc w.plan w.key w.boss w.workers (e.a - 1).toNat y w.flight w.forged [[]]
   ·have cw:=dr w e.a l4 hx
    rw[KA h6 ha hx]
    refine aX ?_
    conv=>whnf
    refine g 1 2 []<|J ⟨UD,I⟩<|g 7 8 []<|J UB<|W.blk<|g 10 11 []<|J UB<|W.cn<|J (noT dO) fun _=>g 9 10 []<|J UB<|W.cn<|J (noT dO) fun _=>g 13 15 []<|J UB<|W.cn<|J (noT dO) fun _=>g 43 45 []<|J UB<|W.cn<|J (noT dO) fun _=>g 55 57 []<|J UB ?_
    refine W.cn<|J (noT dO) fun _=>g 67 69 []<|J UB<|W.cn<|J (fun _=>(g 8 87 []<|J UC (W.cn<|J (noT dO) fun _=>(g 87 98 [.call (V.t (T.v (Value.pointer none))) ([cellsOf (az w),[]])]<|J Zeh (g 0 4 []<|J UB (W.cn<|J (noT rfl) fun _=>(W.skip (EndsW.nm<|J I (J ?_ rfl))))))))) (noF tO)
    rfl
 by_cases h7:e.kind = 7
 ·by_cases ha:e.a = 0
  ·rw[Ky h7 ha,jD h.boss]
   generalize aY w.boss w.plan = B at c7 ⊢
   refine aX ?_
   conv=>whnf
   refine g 1 2 []<|J ⟨UD,I⟩<|g 7 8 []<|J UB<|W.blk<|g 10 11 []<|J UB<|W.cn<|J (noT dO) fun _=>g 9 10 []<|J UB<|W.cn<|J (noT dO) fun _=>g 13 15 []<|J UB<|W.cn<|J (noT dO) fun _=>g 43 45 []<|J UB<|W.cn<|J (noT dO) fun _=>g 55 57 []<|J UB ?_
   refine W.cn<|J (noT dO) fun _=>g 67 69 []<|J UB<|W.cn<|J (noT dO) fun _=>g 8 85 []<|J UB<|W.cn<|J (fun _=>(g 106 110 []<|J UC (W.cn<|J (fun _=>(rgd [[],[],[],[],[],[],[],[.call (V.tup []) ([cellsOf (aG B),[]])]] ?_)) (noF tO)))) (noF tO)
   conv=>whnf
   refine⟨⟨I,I,I,I,I,I,I,Zbr,I⟩,by kernel_rfl,?_⟩
   refine EndsW.nm<|J I (J ?_ rfl)
   rfl
  ·by_cases hx:1≤e.a∧e.a≤w.workers.length
   ·have cw:=eA w e.a l4 hx
    obtain⟨x1,x2⟩:=hx
    obtain⟨x,hx⟩:=aj (xs:=w.workers) (n:=(e.a - 1).toNat) OM
    rw[Kv h7 ⟨x1,x2⟩ hx]
    have hxi:=l5 x (List.mem_of_getElem? hx)
    have c8:=ry x OM
    generalize jd x = y at c8 ⊢
    have es:=jy (xs:=w.workers) (n:=(e.a - 1).toNat) (x:=y)
    refine aX ?_
    conv=>whnf
    refine g 1 2 []<|J ⟨UD,I⟩<|g 7 8 []<|J UB<|W.blk<|g 10 11 []<|J UB<|W.cn<|J (noT dO) fun _=>g 9 10 []<|J UB<|W.cn<|J (noT dO) fun _=>g 13 15 []<|J UB<|W.cn<|J (noT dO) fun _=>g 43 45 []<|J UB<|W.cn<|J (noT dO) fun _=>g 55 57 []<|J UB ?_
    refine W.cn<|J (noT dO) fun _=>g 67 69 []<|J UB<|W.cn<|J (noT dO) fun _=>g 8 85 []<|J UB<|W.cn<|J (fun _=>(g 106 110 []<|J UC (W.cn<|J (noT dO) fun _=>(g 110 123 [.call (V.ptr {root:=0,step:=some (14,Int.toNat (e.a - 1),11),off:=0:Tm.Place}) ([cellsOf (az w),[]])]<|J Zeh (g 0 4 []<|J UB (W.cn<|J (fun _=>(rg [.x (au x),.x (au x),.call (aB y) [[]],.x (au x)]<|J ⟨I,I,I,xA,⟨UA,I,⟨Zcp,I⟩,UA,AS⟩,I,⟨UK,xA⟩,I⟩ (EndsW.nm<|J I<|J ?_ ?_))) (noF rfl))))))) (noF tO)
    rfl
    exact jc w.plan w.key w.boss w.workers (e.a - 1).toNat y w.flight w.forged [[]]
   ·have cw:=dr w e.a l4 hx
    rw[Kw h7 ha hx]
    refine aX ?_
    conv=>whnf
    refine g 1 2 []<|J ⟨UD,I⟩<|g 7 8 []<|J UB<|W.blk<|g 10 11 []<|J UB<|W.cn<|J (noT dO) fun _=>g 9 10 []<|J UB<|W.cn<|J (noT dO) fun _=>g 13 15 []<|J UB<|W.cn<|J (noT dO) fun _=>g 43 45 []<|J UB<|W.cn<|J (noT dO) fun _=>g 55 57 []<|J UB ?_
    refine W.cn<|J (noT dO) fun _=>g 67 69 []<|J UB<|W.cn<|J (noT dO) fun _=>g 8 85 []<|J UB<|W.cn<|J (fun _=>(g 106 110 []<|J UC (W.cn<|J (noT dO) fun _=>(g 110 123 [.call (V.t (T.v (Value.pointer none))) ([cellsOf (az w),[]])]<|J Zeh (g 0 4 []<|J UB (W.cn<|J (noT rfl) fun _=>(W.skip (EndsW.nm<|J I (J ?_ rfl))))))))) (noF tO)
    rfl
 ·have e0:doW w e = w:=by
   unfold doW
   rw[if_neg h1,if_neg h2,if_neg h3,if_neg h4,if_neg h5,if_neg h6,if_neg h7]
  rw[e0]
  refine aX ?_
  conv=>whnf
  refine g 1 2 []<|J ⟨UD,I⟩<|g 7 8 []<|J UB<|W.blk<|g 10 11 []<|J UB<|W.cn<|J (noT dO) fun _=>g 9 10 []<|J UB<|W.cn<|J (noT dO) fun _=>g 13 15 []<|J UB<|W.cn<|J (noT dO) fun _=>g 43 45 []<|J UB<|W.cn<|J (noT dO) fun _=>g 55 57 []<|J UB ?_
  refine W.cn<|J (noT dO) fun _=>g 67 69 []<|J UB<|W.cn<|J (noT dO) fun _=>g 8 85 []<|J UB<|W.cn<|J (noT dO) fun _=>W.skip<|EndsW.nm<|J I (J ?_ rfl)
  rfl
theorem lm(w:World)(e:Event)(h:WorldLim w):F Js [.val (rY w),.val (Hs e)] (az (wDo w e)) [[],[]]:=by
 have cv:=jK w h
 by_cases hv:WorldOk w
 ·rw[decide_eq_true hv]at cv
  have e0:wDo w e = doW w e:=if_pos hv
  rw[e0]
  have hd:=dG hv
  have c1:=jI w hd
  have c2:=vK w e hv
  generalize doW w e = ww at c2 ⊢
  refine Ar ?_
  conv=>whnf
  refine g 0 2 []<|J Zc3<|W.sq<|g 5 7 [.call VT [[]]]<|J ⟨I,Zcw,I,I⟩<|W.cn<|J (noT rfl) fun _=>W.skip<|g 7 11 [.call (az w) [[]]]<|J ⟨I,Zcw,UQ,I⟩<|g 11 13 [.call (V.tup []) ([cellsOf (az ww),[]])]<|J ⟨I,⟨UB,I,⟨I,UD,I⟩,UA,AS⟩,I⟩<|g 2 4 []<|J Zdn<|RT ?_
  rfl
 ·rw[decide_eq_false hv]at cv
  have e0:wDo w e = noWorld:=if_neg hv
  rw[e0]
  refine Ar ?_
  conv=>whnf
  refine g 0 2 []<|J Zc3<|W.sq<|g 5 7 [.call VF [[]]]<|J ⟨I,Zcw,I,I⟩<|W.cn<|J (fun _=>(g 7 9 []<|J Zdn (RT ?_))) (noF rfl)
  rfl
end Go.K
end
section
open Go Go.Tm Go.Proofs
namespace Go.K
abbrev keyB:ByteArray:=⟨#[107,101,121]⟩
theorem Ph(w:World):(dh w).key = w.key∧(dh w).workers.length = w.workers.length:=by
 unfold dh;split
 ·exact⟨rfl,rfl⟩
 ·exact⟨rfl,List.length_map _⟩
theorem JU(w:World)(s:Parcel):(bn w s).key = w.key∧(bn w s).workers.length = w.workers.length:=by
 unfold bn
 cases ci s.text w.key with
 |none=>exact⟨rfl,rfl⟩
 |some m =>
  dsimp only
  split
  ·exact⟨rfl,rfl⟩
  ·split
   ·exact⟨rfl,List.length_set⟩
   ·exact⟨rfl,rfl⟩
theorem QU(w:World)(e:Event):(doW w e).key = w.key∧(doW w e).workers.length = w.workers.length:=by
 unfold doW
 split;exact Ph w
 split
 ·unfold cS;split
  ·exact JU (cg w _) _
  ·exact⟨rfl,rfl⟩
 split;exact⟨rfl,rfl⟩
 split;exact⟨rfl,rfl⟩
 split;exact⟨rfl,rfl⟩
 split
 ·split;exact⟨rfl,rfl⟩
  split
  ·exact⟨rfl,List.length_set⟩
  ·exact⟨rfl,rfl⟩
 split
 ·split;exact⟨rfl,rfl⟩
  split
  ·exact⟨rfl,List.length_set⟩
  ·exact⟨rfl,rfl⟩
 exact⟨rfl,rfl⟩
end Go.K
end
section
open Go Go.Tm Go.Proofs
namespace Go.K
noncomputable def dZ(tw:World)(n:Nat):World:=(tw.flight.take n).foldl bn (cg tw [])
theorem Jn{tw:World}{n:Nat}{s:Parcel}(h:tw.flight[n]? = some s):bn (dZ tw n) s = dZ tw (n+1):=by
 unfold dZ;rw[List.take_add_one,h];simp
theorem LG{tw:World}{n:Nat}(h:tw.flight.length≤n):dZ tw n = eL tw:=by
 unfold dZ eL;rw[List.take_of_length_le h]
theorem Pr{tw:World}(h:WorldOk tw)(n:Nat):WorldOk (dZ tw n):=B6 _ (eO h (Nat.zero_le _) fun x hx=>by cases hx)
def eW(r:Int):Nat:=min r.toNat 2000
theorem DI(w:World)(r:Int)(h:WorldLim w):F Dc [.val (rY w),.val (.i r)] (az (Ch w r)) [[],[]]:=by
 have cv:=jK w h
 by_cases hv:WorldOk w
 ·rw[decide_eq_true hv]at cv
  have e0:Ch w r = cI w (eW r):=if_pos hv
  rw[e0]
  have c1:=jI w (dG hv)
  refine uJ ?_
  conv=>whnf
  refine g 0 1 []<|J Zd8<|W.sq<|g 9 11 [.call VT [[]]]<|J ⟨I,Zcw,I,I⟩<|W.cn<|J (noT rfl) fun _=>W.skip<|g 11 15 [.call (az w) [[]]]<|J ⟨I,Zcw,UQ,I⟩<|W.sq<|g 0 0 []<|J UA<|W.blk<|W.lp (fun s (n:Nat)=>⟨[(1,s.s 1),(2,s.s 2),(4,s.s 4),(5,.i n)],[(4,[s.c 4 0,s.c 4 1,s.c 4 2,s.c 4 3,s.c 4 4,s.c 4 5,s.c 4 6,s.c 4 7,s.c 4 8,s.c 4 9,s.c 4 10,s.c 4 11,s.c 4 12,s.c 4 13,s.c 4 14,s.c 4 15,s.c 4 16]),(2,[.own dM ((cI w n).plan.tasks.map aC),.t (.s (cI w n).key),.t (.i (cI w n).boss.workers),.t (.b (cI w n).boss.up),.t (.i (cI w n).boss.now),.t (.i (cI w n).boss.since),.t (.i (cI w n).boss.epoch),.t (.i (cI w n).boss.given),.own [false] ((cI w n).boss.log.safe.map ak),.own [false] ((cI w n).boss.log.loose.map ak),.own [false] ((cI w n).boss.results.map ak),.own fv ((cI w n).boss.jobs.map aV),.own cM ((cI w n).boss.seats.map aR),.own cN ((cI w n).boss.owed.map bg),.own dU ((cI w n).workers.map au),.own pkd ((cI w n).flight.map bI),.t (.s (cI w n).forged)])],[]⟩) (fun(n:Nat)=>n≤eW r) (fun(n:Nat)=>2000 - n) (0) [some 4,some 2] [] ⟨rfl,Zcc,⟨Zdd,Zet⟩,I⟩ OM ?_
  intro n hn
  have hR:eW r = min r.toNat 2000:=rfl
  have hN:=xF hv n
  by_cases hgo:n < eW r
  ·have ct:=jJ (cI w n) hN
   have hT:=sa hN
   have eR:cI w (n+1) = eL (dh (cI w n)):=rfl
   generalize dh (cI w n) = tw at ct hT eR
   have hTf:=hT.fl
   have e1:dZ tw 0 = cg tw []:=rfl
   conv=>whnf
   refine W.sq<|g 15 21 [BT,BT,BT]<|J ⟨I,I,I,I,⟨tO,I⟩,⟨tO,I⟩,tO,I⟩<|W.cn<|J (fun _=>(W.skip (W.sq (W.blk (g 21 25 [.call (V.tup []) ([cellsOf (az tw)])]<|J ⟨⟨UA,I,UA,UA,AS⟩,I⟩ (g 25 27 [.g]<|J ⟨I,UA,I,I⟩ (g 27 28 []<|J UV (g 6 7 []<|J UC (W.blk (W.lp (fun s (m:Nat)=>⟨[(1,s.s 1),(2,s.s 2),(4,s.s 4),(5,s.s 5),(28,s.s 28),(29,s.s 29),(30,.i m)],[(4,[s.c 4 0,s.c 4 1,s.c 4 2,s.c 4 3,s.c 4 4,s.c 4 5,s.c 4 6,s.c 4 7,s.c 4 8,s.c 4 9,s.c 4 10,s.c 4 11,s.c 4 12,s.c 4 13,s.c 4 14,s.c 4 15,s.c 4 16]),(26,[s.c 26 0]),(2,[.own dM ((dZ tw m).plan.tasks.map aC),.t (.s (dZ tw m).key),.t (.i (dZ tw m).boss.workers),.t (.b (dZ tw m).boss.up),.t (.i (dZ tw m).boss.now),.t (.i (dZ tw m).boss.since),.t (.i (dZ tw m).boss.epoch),.t (.i (dZ tw m).boss.given),.own [false] ((dZ tw m).boss.log.safe.map ak),.own [false] ((dZ tw m).boss.log.loose.map ak),.own [false] ((dZ tw m).boss.results.map ak),.own fv ((dZ tw m).boss.jobs.map aV),.own cM ((dZ tw m).boss.seats.map aR),.own cN ((dZ tw m).boss.owed.map bg),.own dU ((dZ tw m).workers.map au),.own pkd ((dZ tw m).flight.map bI),.t (.s (dZ tw m).forged)])],[]⟩) (fun(m:Nat)=>m≤tw.flight.length) (fun(m:Nat)=>tw.flight.length - m) (0) [some 4,some 26,some 2] [] ⟨rfl,Zbh,⟨Zdd,⟨Zad,Zet⟩⟩,I⟩ OM ?_)))))))))) (noF tO)
   intro m hm
   have hP:=Pr hT m
   by_cases hm2:m < tw.flight.length
   ·obtain⟨s,hs⟩:=aj hm2
    have cb:=iI (dZ tw m) s hP (hT.par s (List.mem_of_getElem? hs))
    rw[Jn hs]at cb
    conv=>whnf
    refine g 0 0 []<|J UA<|W.sq<|W.cn<|J (fun _=>(W.skip (W.sq (W.blk (g 31 34 [.n (m),.x (bb s)]<|J Zcz (rg [.call (V.tup []) ([cellsOf (az (dZ tw (m+1))),[]])]<|J ⟨I,⟨UB,I,Zed,UA,AS⟩,I⟩ (rg [.i ((m:Int) +1)]<|J Zdm ?_))))))) (noF SI)
    refine⟨m+1,[some 4,some 26,some 2],[],⟨rfl,Zbh,⟨Zdd,⟨Zad,Zet⟩⟩,I⟩,?_,?_⟩
    rotate_left
    (dsimp only;omega)
    dsimp only
    omega
   ·have e2:=LG (tw:=tw) (n:=m) OM
    conv=>whnf
    refine g 0 0 []<|J UA<|W.sq<|W.cn<|J (noT SI) fun _=>W.exit<|rg [.i ((n:Int) +1)]<|J Zdf ?_
    refine⟨n+1,[some 4,some 2],[],⟨rfl,Zcc,⟨Zdd,⟨⟨rfl,⟨(congrArg (V.own _) (by rw[eR,←e2])),⟨(congrArg (fun z=>V.t (T.v (Value.string z))) (by rw[eR,←e2])),⟨(congrArg (fun z=>V.t (T.v (Value.int _ z))) (by rw[eR,←e2])),⟨(congrArg (fun z=>V.t (T.v (Value.bool z))) (by rw[eR,←e2])),⟨(congrArg (fun z=>V.t (T.v (Value.int _ z))) (by rw[eR,←e2])),⟨(congrArg (fun z=>V.t (T.v (Value.int _ z))) (by rw[eR,←e2])),⟨(congrArg (fun z=>V.t (T.v (Value.int _ z))) (by rw[eR,←e2])),⟨(congrArg (fun z=>V.t (T.v (Value.int _ z))) (by rw[eR,←e2])),⟨(congrArg (V.own _) (by rw[eR,←e2])),⟨(congrArg (V.own _) (by rw[eR,←e2])),⟨(congrArg (V.own _) (by rw[eR,←e2])),⟨(congrArg (V.own _) (by rw[eR,←e2])),⟨(congrArg (V.own _) (by rw[eR,←e2])),⟨(congrArg (V.own _) (by rw[eR,←e2])),⟨(congrArg (V.own _) (by rw[eR,←e2])),⟨(congrArg (V.own _) (by rw[eR,←e2])),⟨(congrArg (fun z=>V.t (T.v (Value.string z))) (by rw[eR,←e2])),I⟩⟩⟩⟩⟩⟩⟩⟩⟩⟩⟩⟩⟩⟩⟩⟩⟩⟩,I⟩⟩,I⟩,?_,?_⟩
    rotate_left
    (dsimp only;omega)
    dsimp only
    omega
  ·obtain rfl:n = eW r:=by omega
   conv=>whnf
   refine W.sq ?_
   by_cases h1:(↑(eW r):Int) < r
   refine g 15 21 [BT,BT,BT]<|J ⟨I,I,I,I,⟨tO,I⟩,⟨tO,I⟩,tO,I⟩<|W.cn<|J (noT dO) fun _=>W.exit<|g 5 38 []<|J Zdn<|RT ?_
   rfl
   refine g 15 21 [BF,BF,BF]<|J ⟨I,I,I,I,dO,dO,dO,I⟩<|W.cn<|J (noT rfl) fun _=>W.exit<|g 5 38 []<|J Zdn<|RT ?_
   rfl
 ·rw[decide_eq_false hv]at cv
  have e0:Ch w r = noWorld:=if_neg hv
  rw[e0]
  refine uJ ?_
  conv=>whnf
  refine g 0 1 []<|J Zd8<|W.sq<|g 9 11 [.call VF [[]]]<|J ⟨I,Zcw,I,I⟩<|W.cn<|J (fun _=>(g 11 13 []<|J Zdn (RT ?_))) (noF rfl)
  rfl
end Go.K
end
section
open Go Go.Tm Go.Proofs
namespace Go.K
theorem BG(w:World)(hw:WorldOk w)(ls ts:List Int)(lease:Int)(n:Nat)(t:Int)(hl:ls.length≤1000000000000)(he:ts.length = ls.length)(h1:ls[n]? = some lease)(h2:ts[n]? = some t)(hbef:∀ (k:Nat) (l:Int),k < n→ls[k]? = some l→¬l = lease)(h0:0≤t∧t < w.plan.tasks.length)(hs:¬atS (am w.plan w.boss.log.safe).results t = emp):F Bg [.val (rY w),.val (.t (QN ls)),.val (.t (QN ts)),.val (.i lease)] (.b true) [[],[],[],[]]:=by
 have hp:=yU (fR (lc hw.plan))
 have hB:=M6 hw.boss
 have hsl:=hB.safe
 have cr:=gP w.plan w.boss.log.safe hp (fun s hs=>hB.all s (List.mem_append_left _ hs)) OM
 have hc:(am w.plan w.boss.log.safe).code = 0:=gE hw.boss.code
 have hrl:=(bL hc).2.2.1
 obtain⟨y,hy⟩:=aj (xs:=(am w.plan w.boss.log.safe).results) (n:=t.toNat) OM
 have hye:¬y = emp:=fun q=>hs (by unfold atS;rw[hy,q];rfl)
 have hn:=(List.getElem?_eq_some_iff.1 h1).1
 generalize am w.plan w.boss.log.safe = st at cr hc hrl hy
 refine Bt ?_
 conv=>whnf
 refine g 0 1 []<|J Zd8<|g 14 18 [.call (gj st) [[],[]]]<|J ⟨I,I,I,I,I,I,Zam,I,UC,I⟩<|W.sq<|g 11 13 []<|J UA<|W.blk<|W.lp (fun s (i:Nat)=>⟨[(1,s.s 1),(2,s.s 2),(3,s.s 3),(4,s.s 4),(9,s.s 9),(10,.i i),(13,s.s 13)],[(4,[s.c 4 0,s.c 4 1,s.c 4 2,s.c 4 3,s.c 4 4,s.c 4 5,s.c 4 6,s.c 4 7,s.c 4 8,s.c 4 9,s.c 4 10,s.c 4 11,s.c 4 12,s.c 4 13,s.c 4 14,s.c 4 15,s.c 4 16]),(9,[s.c 9 0,s.c 9 1,s.c 9 2])],[]⟩) (fun(i:Nat)=>i≤n) (fun(i:Nat)=>n - i) (0) [some 4,some 9] [] ⟨rfl,Zbh,⟨Zdd,Zee⟩,I⟩ OM ?_
 intro i hi
 obtain⟨l,hl1⟩:=aj (xs:=ls) (n:=i) OM
 by_cases hin:i < n
 ·have hne:=hbef i l hin hl1
  conv=>whnf
  refine W.sq<|g 18 21 []<|J UD<|W.cn<|J (fun h3=>?_) fun h3=>?_
  replace h3:=dt h3
  simp only[LM]at h3
  refine W.skip<|W.sq<|W.blk<|g 21 29 [.x (dJ l)]<|J ⟨I,I,Zdj,I,I,I,I⟩<|W.cn<|J (noT dO) fun _=>W.skip<|rg [.i ((i:Int) +1)]<|J Zdf ?_
  rotate_left
  replace h3:=df h3
  simp only[LM]at h3
  omega
  refine⟨i+1,[some 4,some 9],[],⟨rfl,Zbh,⟨Zdd,Zee⟩,I⟩,?_,?_⟩
  rotate_left
  (dsimp only;omega)
  dsimp only
  omega
 ·obtain rfl:i = n:=by omega
  rw[hl1]at h1
  obtain rfl:l = lease:=Option.some.inj h1
  conv=>whnf
  refine W.sq<|g 18 21 []<|J UD<|W.cn<|J (fun _=>(W.skip (W.sq (W.blk (g 21 29 [.x (dJ l)]<|J ⟨I,I,Zdj,I,I,I,I⟩ (W.cn<|J (fun _=>(gd 29 54 [[],[],[],[],[BT],[BT],[BT,.x (dJ t)],[BT],[BT],[BT],[BT],[BT],[BT],[],[BT],[BT],[BT],[BT],[BT,.x (dJ t)],[BT],[BT,.n (Int.toNat t)],[BT,.x (ak y)],[BT],[BT],[]] ?_)) (noF tO))))))) (noF SI)
  conv=>whnf
  refine⟨⟨I,I,I,I,⟨tO,I⟩,⟨tO,I⟩,⟨tO,OM,xA⟩,⟨tO,I⟩,⟨tO,I⟩,⟨tO,I⟩,⟨tO,I⟩,⟨tO,I⟩,tO,I,⟨SI,I⟩,⟨SI,I⟩,⟨SI,I⟩,⟨SI,I⟩,⟨SI,OM,xA⟩,⟨SI,I⟩,⟨SI,OM,LN⟩,⟨SI,xA⟩,⟨SI,I⟩,SI,I,I⟩,by kernel_rfl,?_⟩
  refine RT ?_
  (simp[*];done)
theorem EC{α:Type}{l:List α}(h:l.Nodup){i j:Nat}{x y:α}(hij:i < j)(hx:l[i]? = some x)(hy:l[j]? = some y):¬x = y:=by
 obtain⟨h1,e1⟩:=List.getElem?_eq_some_iff.1 hx
 obtain⟨h2,e2⟩:=List.getElem?_eq_some_iff.1 hy
 have:=List.pairwise_iff_getElem.1 h i j h1 h2 hij
 rw[e1,e2]at this;exact this
theorem Jp{ns:List Message}{j:Nat}{m:Message}(h:ns[j]? = some m):dg (ns.take (j+1)) = dg (ns.take j) ++dg [m]:=by
 rw[List.take_add_one,h,xZ];rfl
theorem LR{m:Message}(h:m.kind = 1):dg [m] = [(m.lease,m.task)]:=by
 unfold dg;rw[List.filter_cons_of_pos (by simpa using h)];rfl
theorem Ey{m:Message}(h:¬m.kind = 1):dg [m] = []:=t8 fun x hx=>by rw[List.mem_singleton.1 hx];exact h
theorem LP{R:List (Int×Int)}{ns:List Message}(h:((R++dg ns).map Prod.fst).Nodup)(j:Nat):((R++dg (ns.take j)).map Prod.fst).Nodup :=
 List.Nodup.sublist ((List.Sublist.append (List.Sublist.refl R) (Ex (List.take_sublist j ns))).map _) h
theorem Ez:dg [] = []:=rfl
theorem LS(ms:List Message):(dg ms).length≤ms.length:=by unfold dg;rw[List.length_map];exact List.length_filter_le _ _
theorem Gr(code:List Int)(hc:code.length≤9223372036854775807)(h8:∀ x∈code,0≤x∧x≤255)(more:List Int)(hm:more.length≤9223372036854775807)(h9:∀ x∈more,0≤x∧x≤255):F vm [.val (.t (u8s code)),.val (.t (u8s more))] (.b true) [[],[]]:=by
 by_cases hb1:1048576 < code.length
 ·refine ff ?_
  conv=>whnf
  refine g 0 0 []<|J UA<|W.sq ?_
  by_cases h1:(1048576:Int) < (↑(List.length (List.map b1T code)):Int)
  simp only[LM]at h1
  refine g 18 25 [BT,BT,BT,BT]<|J ⟨I,I,I,I,SI,SI,SI,SI,I⟩<|W.cn<|J (fun _=>(g 25 26 []<|J UA (RT ?_))) (noF rfl)
  rfl
  simp only[LM]at h1
  omega
 by_cases hb2:1048576 < more.length
 ·refine ff ?_
  conv=>whnf
  refine g 0 0 []<|J UA<|W.sq ?_
  by_cases h1:(1048576:Int) < (↑(List.length (List.map b1T code)):Int)
  simp only[LM]at h1
  omega
  simp only[LM]at h1
  refine g 18 25 [BF,BF,BF,BF]<|J Zck<|W.cn<|J (fun h2=>?_) fun h2=>?_
  replace h2:=dt h2
  simp only[LM]at h2
  refine g 25 26 []<|J UA<|RT ?_
  rfl
  replace h2:=df h2
  simp only[LM]at h2
  omega
 obtain⟨res,outs,⟨p,rfl,rfl,hmid⟩,hD⟩:=rO code OM h8
 have wf:=yU hmid
 have ek:keyB.size = 3:=rfl
 have cn:=mF p keyB 3 wf OM
 have cc:=bN p wf
 by_cases hck:ah p.tasks = 0
 rotate_left
 ·rw[oT fun q=>hck q.plan]at cn
  refine ff ?_
  conv=>whnf
  refine g 0 0 []<|J UA<|W.sq ?_
  by_cases h1:(1048576:Int) < (↑(List.length (List.map b1T code)):Int)
  simp only[LM]at h1
  omega
  simp only[LM]at h1
  refine g 18 25 [BF,BF,BF,BF]<|J Zck<|W.cn<|J (fun h2=>?_) fun h2=>?_
  replace h2:=dt h2
  simp only[LM]at h2
  omega
  replace h2:=df h2
  simp only[LM]at h2
  refine W.skip<|g 25 28 [.call (dE p) [[]]]<|J Zd7<|g 28 30 [.call (az noWorld) [[],[],[]]]<|J ⟨I,⟨UC,I,UU,UA,AS⟩,I,UQ,I⟩<|W.sq<|g 30 32 [.call (V.i (ah p.tasks)) [[]]]<|J Zei<|W.cn<|J (fun _=>(g 32 37 []<|J UE (RT ?_))) (noF (af OM))
  rfl
 have hn:NewOk p keyB 3:=⟨hck,by omega,by omega⟩
 have w0ok:=BX hn
 have w0s:=Px p keyB 3
 have w0p:(iG p keyB 3).plan = p∧(iG p keyB 3).key = keyB:=by
  rw[oQ hn];exact⟨rfl,rfl⟩
 generalize iG p keyB 3 = w0 at cn w0ok w0s w0p
 rw[hck]at cc
 obtain⟨res,outs,⟨es,rfl,rfl,hel⟩,hE⟩:=pm more OM h9
 refine ff ?_
 conv=>whnf
 refine g 0 0 []<|J UA<|W.sq ?_
 by_cases h1:(1048576:Int) < (↑(List.length (List.map b1T code)):Int)
 simp only[LM]at h1
 omega
 simp only[LM]at h1
 refine g 18 25 [BF,BF,BF,BF]<|J Zck<|W.cn<|J (fun h2=>?_) fun h2=>?_
 replace h2:=dt h2
 simp only[LM]at h2
 omega
 replace h2:=df h2
 simp only[LM]at h2
 refine W.skip<|g 25 28 [.call (dE p) [[]]]<|J Zd7<|g 28 30 [.call (az w0) [[],[],[]]]<|J ⟨I,⟨UC,I,UU,UA,AS⟩,I,UQ,I⟩<|W.sq<|g 30 32 [.call (V.i 0) [[]]]<|J Zei<|W.cn<|J (noT rfl) fun _=>W.skip<|g 32 39 [.call (V.own zr (List.map dq es)) [[]]]<|J Zei<|g 1 2 []<|J UB<|g 39 41 []<|J UB<|W.sq<|g 0 0 []<|J UA ?_
 refine W.blk<|W.drop (lo:=18) (hi:=38) ?_
 conv=>whnf
 refine W.lp (fun s (x:Nat×World×List (Int×Int))=>⟨[(0,s.s 0),(5,s.s 5),(6,s.s 6),(7,s.s 7),(8,.ref ⟨8,none,0⟩),(9,.ref ⟨9,none,0⟩),(10,.i x.1)],[(5,[s.c 5 0]),(38,[s.c 38 0]),(6,[.own dM (x.2.1.plan.tasks.map aC),.t (.s x.2.1.key),.t (.i x.2.1.boss.workers),.t (.b x.2.1.boss.up),.t (.i x.2.1.boss.now),.t (.i x.2.1.boss.since),.t (.i x.2.1.boss.epoch),.t (.i x.2.1.boss.given),.own [false] (x.2.1.boss.log.safe.map ak),.own [false] (x.2.1.boss.log.loose.map ak),.own [false] (x.2.1.boss.results.map ak),.own fv (x.2.1.boss.jobs.map aV),.own cM (x.2.1.boss.seats.map aR),.own cN (x.2.1.boss.owed.map bg),.own dU (x.2.1.workers.map au),.own sM (x.2.1.flight.map bb),.t (.s x.2.1.forged)]),(8,[.own [false] ((x.2.2.map Prod.snd).map dJ)]),(9,[.own [false] ((x.2.2.map Prod.fst).map dJ)])],[]⟩) (fun(x:Nat×World×List (Int×Int))=>x.1≤es.length∧WorldOk x.2.1∧Ledger x.2.2 x.2.1∧(x.2.1.plan = p∧x.2.1.key = keyB)∧x.2.2.length≤2000 * x.1) (fun(x:Nat×World×List (Int×Int))=>es.length - x.1) ((0,w0,[])) [some 5,some 38,some 6,some 39,some 40] [] ⟨rfl,⟨rfl,rfl,rfl,rfl,rfl,rfl,rfl,I⟩,⟨⟨rfl,⟨rfl,I⟩⟩,⟨⟨rfl,⟨rfl,I⟩⟩,⟨⟨rfl,⟨rfl,⟨rfl,⟨rfl,⟨rfl,⟨rfl,⟨rfl,⟨rfl,⟨rfl,⟨rfl,⟨rfl,⟨rfl,⟨rfl,⟨rfl,⟨rfl,⟨rfl,⟨rfl,⟨rfl,I⟩⟩⟩⟩⟩⟩⟩⟩⟩⟩⟩⟩⟩⟩⟩⟩⟩⟩,⟨⟨rfl,⟨rfl,I⟩⟩,⟨⟨rfl,⟨rfl,I⟩⟩,I⟩⟩⟩⟩⟩,I⟩ ?_ ?_
 ·exact⟨by omega,w0ok,w0s,w0p,by show 0≤_;omega⟩
 rintro⟨i,w,R⟩ ⟨i1,i2,i3,i4,i5⟩
 dsimp only at i1 i2 i3 i4 i5
 by_cases hi:i < es.length
 ·obtain⟨e,he⟩:=aj hi
  have cD:=lm w e (dV (dG i2))
  rw[show wDo w e = doW w e from if_pos i2]at cD
  have j2:=r6 e i2
  have j4:(doW w e).plan = p∧(doW w e).key = keyB:=by
   rw[xz,(QU w e).1];exact i4
  by_cases hk1:e.kind = 1
  rotate_left
  ·have j3:=Rt e i2 i3 hk1
   generalize doW w e = w1 at cD j2 j3 j4
   conv=>whnf
   refine W.sq<|g 41 44 []<|J UD<|W.cn<|J (fun _=>(W.skip (W.sq (W.blk (g 44 50 []<|J UD (gd 50 56 [[],[],[],[.n (Prod.fst (i,w,R))],[.x (dq e)],[.call (az w1) [[],[]]],[],[]] ?_)))))) (noF SI)
   conv=>whnf
   refine⟨⟨I,I,I,Zdh,xA,Zch,I,UQ,I⟩,by kernel_rfl,?_⟩
   refine W.sq<|g 56 61 [.n (Prod.fst (i,w,R)),.x (dq e)]<|J ⟨I,I,Zdh,I,xA,I,I⟩<|W.cn<|J (fun _=>(g 61 63 []<|J Zdn (W.exit (rg [.i ((↑(Prod.fst (i,w,R)):Int) +1)]<|J Zdf ?_)))) (noF (af OM))
   refine⟨(i+1,w1,R),[some 5,some 38,some 6,some 8,some 9],[],⟨rfl,Zbh,⟨Zad,⟨Zad,⟨Zdd,⟨Zad,Zdp⟩⟩⟩⟩,I⟩,?_,?_⟩
   rotate_left
   (dsimp only;omega)
   dsimp only
   exact⟨by omega,j2,j3,j4,by omega⟩
  ·by_cases hf:w.forged = emp
   rotate_left
   ·generalize doW w e = w1 at cD j2 j4
    by_cases hl:w1.flight.length < w.flight.length
    ·conv=>whnf
     refine W.sq<|g 41 44 []<|J UD<|W.cn<|J (fun _=>(W.skip (W.sq (W.blk (g 44 50 []<|J UD (gd 50 56 [[],[],[],[.n (Prod.fst (i,w,R))],[.x (dq e)],[.call (az w1) [[],[]]],[],[]] ?_)))))) (noF SI)
     conv=>whnf
     refine⟨⟨I,I,I,Zdh,xA,Zch,I,UQ,I⟩,by kernel_rfl,?_⟩
     refine W.sq<|g 56 61 [.n (Prod.fst (i,w,R)),.x (dq e)]<|J ⟨I,I,Zdh,I,xA,I,I⟩<|W.cn<|J (noT nO) fun _=>W.skip<|W.sq<|g 61 72 [BT,BT,BT,BT]<|J ⟨I,I,I,I,I,I,SI,SI,SI,SI,I⟩<|W.cn<|J (fun _=>(g 72 76 []<|J UD (RT ?_))) (noF rfl)
     (simp[*];done)
    ·conv=>whnf
     refine W.sq<|g 41 44 []<|J UD<|W.cn<|J (fun _=>(W.skip (W.sq (W.blk (g 44 50 []<|J UD (gd 50 56 [[],[],[],[.n (Prod.fst (i,w,R))],[.x (dq e)],[.call (az w1) [[],[]]],[],[]] ?_)))))) (noF SI)
     conv=>whnf
     refine⟨⟨I,I,I,Zdh,xA,Zch,I,UQ,I⟩,by kernel_rfl,?_⟩
     refine W.sq<|g 56 61 [.n (Prod.fst (i,w,R)),.x (dq e)]<|J ⟨I,I,Zdh,I,xA,I,I⟩<|W.cn<|J (noT nO) fun _=>W.skip<|W.sq<|g 61 72 [BF,BF,BF,BF]<|J ⟨I,I,I,I,I,I,⟨SI,I⟩,⟨SI,I⟩,⟨SI,I⟩,SI,I⟩<|W.cn<|J (fun _=>(g 72 76 []<|J UD (RT ?_))) (noF (af OM))
     (simp[*];done)
   ·obtain⟨ns,hP,j3⟩:=Ld i2 i3 hf
    rw[←NX hk1]at j3
    have j5:(doW w e).flight = w.flight++ns.map fun m=>(⟨m.to,bw m w.key,bw m w.key⟩:Parcel):=by rw[NX hk1];exact hP.flight
    have j6:∀ m∈ns,m.kind = 4→∃ r∈R,r.1 = m.lease∧(0≤r.2∧r.2 < w.plan.tasks.length)∧¬atS (am w.plan (doW w e).boss.log.safe).results r.2 = emp:=by rw[NX hk1];exact hP.thanks
    rw[i4.2]at j5
    rw[i4.1]at j6
    have hrd:=hP.read
    rw[i4.2]at hrd
    have honce:=hP.once
    generalize doW w e = w1 at cD j2 j3 j4 j5 j6
    have fl:=j2.fl
    have ef:w1.flight.length = w.flight.length+ns.length:=by rw[j5,List.length_append,List.length_map]
    have hge:¬w1.flight.length < w.flight.length:=by omega
    have z1:(R.map Prod.snd).map dJ = ((R++dg (ns.take 0)).map Prod.snd).map dJ:=by rw[List.take_zero,Ez,List.append_nil]
    have z2:(R.map Prod.fst).map dJ = ((R++dg (ns.take 0)).map Prod.fst).map dJ:=by rw[List.take_zero,Ez,List.append_nil]
    conv=>whnf
    refine W.sq<|g 41 44 []<|J UD<|W.cn<|J (fun _=>(W.skip (W.sq (W.blk (g 44 50 []<|J UD (gd 50 56 [[],[],[],[.n (Prod.fst (i,w,R))],[.x (dq e)],[.call (az w1) [[],[]]],[],[]] ?_)))))) (noF SI)
    conv=>whnf
    refine⟨⟨I,I,I,Zdh,xA,Zch,I,UQ,I⟩,by kernel_rfl,?_⟩
    refine W.sq<|g 56 61 [.n (Prod.fst (i,w,R)),.x (dq e)]<|J ⟨I,I,Zdh,I,xA,I,I⟩<|W.cn<|J (noT nO) fun _=>W.skip<|W.sq ?_
    by_cases h3:(↑(List.length (List.map bb (World.flight w1))):Int) < (↑(List.length (List.map bb (World.flight w))):Int)
    simp only[LM]at h3
    omega
    simp only[LM]at h3
    refine g 61 72 [BF,BF,BF,BF]<|J ⟨I,I,I,I,I,I,⟨(by simp_all),I⟩,⟨(by simp_all),I⟩,⟨(by simp_all),I⟩,(by simp_all),I⟩<|W.cn<|J (noT nO) fun _=>W.skip<|W.sq<|g 72 77 []<|J UB<|W.blk<|W.lp (fun s (j:Nat)=>⟨[(0,s.s 0),(5,s.s 5),(6,s.s 6),(7,s.s 7),(8,.ref ⟨8,none,0⟩),(9,.ref ⟨9,none,0⟩),(10,s.s 10),(12,s.s 12),(13,.i ((w.flight.length:Int) +j))],[(5,[s.c 5 0]),(6,[s.c 6 0,s.c 6 1,s.c 6 2,s.c 6 3,s.c 6 4,s.c 6 5,s.c 6 6,s.c 6 7,s.c 6 8,s.c 6 9,s.c 6 10,s.c 6 11,s.c 6 12,s.c 6 13,s.c 6 14,s.c 6 15,s.c 6 16]),(38,[s.c 38 0]),(12,[s.c 12 0,s.c 12 1,s.c 12 2,s.c 12 3,s.c 12 4,s.c 12 5,s.c 12 6,s.c 12 7,s.c 12 8,s.c 12 9,s.c 12 10,s.c 12 11,s.c 12 12,s.c 12 13,s.c 12 14,s.c 12 15,s.c 12 16]),(8,[.own [false] (((R++dg (ns.take j)).map Prod.snd).map dJ)]),(9,[.own [false] (((R++dg (ns.take j)).map Prod.fst).map dJ)])],[]⟩) (fun(j:Nat)=>j≤ns.length) (fun(j:Nat)=>ns.length - j) (0) [some 5,some 6,some 38,some 12,some 8,some 9] [] ⟨rfl,⟨rfl,rfl,rfl,rfl,rfl,rfl,rfl,rfl,(congrArg (fun z=>V.t (T.v (Value.int _ z))) SI),I⟩,⟨Zad,⟨Zdd,⟨Zad,⟨Zdd,⟨⟨rfl,⟨(congrArg (V.own _) (z1)),I⟩⟩,⟨⟨rfl,⟨(congrArg (V.own _) (z2)),I⟩⟩,I⟩⟩⟩⟩⟩⟩,I⟩ OM ?_
    intro j hj
    have hRl:(R++dg (ns.take j)).length≤2000 * i+2000:=by
     have h1:=LS (ns.take j)
     rw[List.length_take]at h1
     rw[List.length_append];omega
    by_cases hj2:j < ns.length
    ·obtain⟨m,hm⟩:=aj hj2
     have hmn:=List.mem_of_getElem? hm
     have hs:w1.flight[w.flight.length+j]? = some ⟨m.to,bw m keyB,bw m keyB⟩:=by
      rw[j5,List.getElem?_append_right OM,Nat.add_sub_cancel_left,List.getElem?_map,hm];rfl
     have hp:=(j2.par _ (List.mem_of_getElem? hs)).sent
     dsimp only at hp
     have cr:=fp (bw m keyB) keyB OM
     rw[hrd m hmn]at cr
     have hst:=Jp hm
     have hns:=LP honce (j+1)
     rw[hst]at hns
     generalize hRR:R++dg (ns.take j) = RR at hRl
     rw[←List.append_assoc,hRR]at hns
     by_cases h1:m.kind = 1
     ·rw[LR h1]at hst hns
      have q1:(RR.map Prod.snd).map dJ++ [dJ m.task] = ((R++dg (ns.take (j+1))).map Prod.snd).map dJ:=by rw[hst,←List.append_assoc,hRR,List.map_append,List.map_append];rfl
      have q2:(RR.map Prod.fst).map dJ++ [dJ m.lease] = ((R++dg (ns.take (j+1))).map Prod.fst).map dJ:=by rw[hst,←List.append_assoc,hRR,List.map_append,List.map_append];rfl
      conv=>whnf
      refine W.sq<|g 77 81 []<|J UE<|W.cn<|J (fun _=>(W.skip (W.sq (W.blk (g 81 94 [.n (Int.toNat ((↑(List.length w.flight):Int) + (j:Int))),.x (bb {kind:=m.to,frm:=bw m keyB,text:=bw m keyB:Parcel}),.call (eu (some m)) [[],[]]]<|J ⟨I,I,I,Zdo,I,xA,Zam,I,I,I,I,UH,I,I⟩ (W.sq (g 15 95 []<|J UB (W.cn<|J (noT rfl) fun _=>(W.skip (W.sq ?_)))))))))) (noF SI)
      refine g 95 98 []<|J UC<|W.cn<|J (fun _=>(W.sq (g 98 99 []<|J UA (W.blk (W.lp (fun s (a:Nat)=>⟨[(0,s.s 0),(5,s.s 5),(6,s.s 6),(7,s.s 7),(8,s.s 8),(9,s.s 9),(10,s.s 10),(12,s.s 12),(13,s.s 13),(14,s.s 14),(16,.i a)],[(5,[s.c 5 0]),(6,[s.c 6 0,s.c 6 1,s.c 6 2,s.c 6 3,s.c 6 4,s.c 6 5,s.c 6 6,s.c 6 7,s.c 6 8,s.c 6 9,s.c 6 10,s.c 6 11,s.c 6 12,s.c 6 13,s.c 6 14,s.c 6 15,s.c 6 16]),(38,[s.c 38 0]),(8,[s.c 8 0]),(9,[s.c 9 0]),(12,[s.c 12 0,s.c 12 1,s.c 12 2,s.c 12 3,s.c 12 4,s.c 12 5,s.c 12 6,s.c 12 7,s.c 12 8,s.c 12 9,s.c 12 10,s.c 12 11,s.c 12 12,s.c 12 13,s.c 12 14,s.c 12 15,s.c 12 16]),(14,[s.c 14 0,s.c 14 1,s.c 14 2,s.c 14 3,s.c 14 4,s.c 14 5,s.c 14 6,s.c 14 7])],[]⟩) (fun(a:Nat)=>a≤RR.length) (fun(a:Nat)=>RR.length - a) (0) [some 5,some 6,some 38,some 8,some 9,some 12,some 14] [] Zel OM ?_))))) (noF tO)
      intro a ha
      by_cases ha2:a < RR.length
      ·obtain⟨l,hl⟩:=aj (xs:=RR.map Prod.fst) (n:=a) (by rw[List.length_map];omega)
       have hne:¬l = m.lease:=EC hns (i:=a) (j:=RR.length) ha2 (by rw[List.map_append,List.getElem?_append_left (by rw[List.length_map];omega)];exact hl) (by rw[List.map_append,List.getElem?_append_right (by rw[List.length_map];omega),List.length_map,Nat.sub_self];rfl)
       conv=>whnf
       refine W.sq<|g 99 102 []<|J UD<|W.cn<|J (fun _=>(W.skip (W.sq (W.blk (gd 102 111 [[],[],[.n (a)],[.x (dJ l)],[],[],[]] ?_))))) (noF SI)
       conv=>whnf
       refine⟨⟨I,I,Zdh,xA,I,I,I,I⟩,by kernel_rfl,?_⟩
       refine W.cn<|J (noT dO) fun _=>W.skip<|rg [.i ((a:Int) +1)]<|J Zdf ?_
       refine⟨a+1,[some 5,some 6,some 38,some 8,some 9,some 12,some 14],[],Zel,?_,?_⟩
       rotate_left
       (dsimp only;omega)
       dsimp only
       omega
      ·conv=>whnf
       refine W.sq<|g 99 102 []<|J UD<|W.cn<|J (noT SI) fun _=>W.exit<|g 16 117 []<|J ⟨I,I,I,US,Zdi,I,I⟩<|rg []<|J ⟨I,I,I,US,Zdi,I,I⟩<|g 14 133 [BF,BF,BF,BF,BF,BF,BF,BF]<|J ⟨I,I,I,I,dO,dO,dO,dO,dO,dO,dO,dO,I⟩<|W.cn<|J (noT rfl) fun _=>W.skip<|rg [.i ((↑(List.length w.flight):Int) + (j:Int) +1)]<|J Zdf ?_
       refine⟨j+1,[some 5,some 6,some 38,some 12,some 121,some 116],[],⟨rfl,Zc6,⟨Zad,⟨Zdd,⟨Zad,⟨Zdd,⟨⟨rfl,⟨(congrArg (V.own _) (q1)),I⟩⟩,⟨⟨rfl,⟨(congrArg (V.own _) (q2)),I⟩⟩,I⟩⟩⟩⟩⟩⟩,I⟩,?_,?_⟩
       rotate_left
       (dsimp only;omega)
       dsimp only
       omega
     ·rw[Ey h1]at hst
      have q3:(RR.map Prod.snd).map dJ = ((R++dg (ns.take (j+1))).map Prod.snd).map dJ:=by rw[hst,List.append_nil,hRR]
      have q4:(RR.map Prod.fst).map dJ = ((R++dg (ns.take (j+1))).map Prod.fst).map dJ:=by rw[hst,List.append_nil,hRR]
      by_cases h4:m.kind = 4
      ·obtain⟨r,r1,r2,r3,r4⟩:=j6 m hmn h4
       obtain⟨n,hn1⟩:=List.getElem?_of_mem (show r∈RR by rw[←hRR];exact List.mem_append_left _ r1)
       have n1:(RR.map Prod.fst)[n]? = some m.lease:=by rw[List.getElem?_map,hn1,Option.map_some,r2]
       have n2:(RR.map Prod.snd)[n]? = some r.2:=by rw[List.getElem?_map,hn1];rfl
       have hnd:(RR.map Prod.fst).Nodup:=by rw[Ey h1,List.append_nil]at hns;exact hns
       have cs:=BG w1 j2 (RR.map Prod.fst) (RR.map Prod.snd) m.lease n r.2 (by rw[List.length_map];omega) (by rw[List.length_map,List.length_map]) n1 n2 (fun k l hk hl=>EC hnd hk hl n1) (by rw[j4.1];exact r3) (by rw[j4.1];exact r4)
       conv=>whnf
       refine W.sq<|g 77 81 []<|J UE<|W.cn<|J (fun _=>(W.skip (W.sq (W.blk (g 81 94 [.n (Int.toNat ((↑(List.length w.flight):Int) + (j:Int))),.x (bb {kind:=m.to,frm:=bw m keyB,text:=bw m keyB:Parcel}),.call (eu (some m)) [[],[]]]<|J ⟨I,I,I,Zdo,I,xA,Zam,I,I,I,I,UH,I,I⟩ (W.sq (g 15 95 []<|J UB (W.cn<|J (noT rfl) fun _=>(W.skip (W.sq ?_)))))))))) (noF SI)
       refine g 95 98 []<|J UC<|W.cn<|J (noT dO) fun _=>W.skip<|g 14 133 [BT,BT,BT,BT,BT,BT,.call VT [[],[],[],[]],BT,BT]<|J ⟨I,I,I,I,⟨tO,I⟩,⟨tO,I⟩,⟨tO,I⟩,⟨tO,I⟩,⟨tO,I⟩,⟨tO,UD,I,⟨UQ,UA,UA,UA,I⟩,UA,AS⟩,⟨tO,I⟩,tO,I⟩<|W.cn<|J (noT rfl) fun _=>W.skip<|rg [.i ((↑(List.length w.flight):Int) + (j:Int) +1)]<|J Zdf ?_
       refine⟨j+1,[some 5,some 6,some 38,some 12,some 8,some 9],[],⟨rfl,Zc6,⟨Zad,⟨Zdd,⟨Zad,⟨Zdd,⟨⟨rfl,⟨(congrArg (V.own _) (q3)),I⟩⟩,⟨⟨rfl,⟨(congrArg (V.own _) (q4)),I⟩⟩,I⟩⟩⟩⟩⟩⟩,I⟩,?_,?_⟩
       rotate_left
       (dsimp only;omega)
       dsimp only
       omega
      ·conv=>whnf
       refine W.sq<|g 77 81 []<|J UE<|W.cn<|J (fun _=>(W.skip (W.sq (W.blk (g 81 94 [.n (Int.toNat ((↑(List.length w.flight):Int) + (j:Int))),.x (bb {kind:=m.to,frm:=bw m keyB,text:=bw m keyB:Parcel}),.call (eu (some m)) [[],[]]]<|J ⟨I,I,I,Zdo,I,xA,Zam,I,I,I,I,UH,I,I⟩ (W.sq (g 15 95 []<|J UB (W.cn<|J (noT rfl) fun _=>(W.skip (W.sq ?_)))))))))) (noF SI)
       refine g 95 98 []<|J UC<|W.cn<|J (noT dO) fun _=>W.skip<|g 14 133 [BF,BF,BF,BF,BF,BF,BF,BF]<|J ⟨I,I,I,I,dO,dO,dO,dO,dO,dO,dO,dO,I⟩<|W.cn<|J (noT rfl) fun _=>W.skip<|rg [.i ((↑(List.length w.flight):Int) + (j:Int) +1)]<|J Zdf ?_
       refine⟨j+1,[some 5,some 6,some 38,some 12,some 8,some 9],[],⟨rfl,Zc6,⟨Zad,⟨Zdd,⟨Zad,⟨Zdd,⟨⟨rfl,⟨(congrArg (V.own _) (q3)),I⟩⟩,⟨⟨rfl,⟨(congrArg (V.own _) (q4)),I⟩⟩,I⟩⟩⟩⟩⟩⟩,I⟩,?_,?_⟩
       rotate_left
       (dsimp only;omega)
       dsimp only
       omega
    ·obtain rfl:j = ns.length:=by omega
     rw[List.take_length]
     conv=>whnf
     refine W.sq<|g 77 81 []<|J UE<|W.cn<|J (noT SI) fun _=>W.exit<|rg []<|J Zdn<|rg [.i ((↑(Prod.fst (i,w,R)):Int) +1)]<|J Zdf ?_
     refine⟨(i+1,w1,R++dg ns),[some 5,some 38,some 6,some 8,some 9],[],⟨rfl,Zbh,⟨Zad,⟨Zad,⟨Zdd,⟨Zad,Zdp⟩⟩⟩⟩,I⟩,?_,?_⟩
     rotate_left
     (dsimp only;omega)
     dsimp only
     exact⟨by omega,j2,j3,j4,by rw[List.take_length]at hRl;first|omega|(dsimp only;omega)⟩
 ·have e1:=lm w ⟨7,0,0,0⟩ (dV (dG i2))
  rw[show wDo w ⟨7,0,0,0⟩ = doW w ⟨7,0,0,0⟩from if_pos i2]at e1
  have f1:=r6 ⟨7,0,0,0⟩ i2
  generalize doW w ⟨7,0,0,0⟩ = w1 at e1 f1
  have e2:=DI w1 20 (dV (dG f1))
  have f2:WorldOk (Ch w1 20):=by unfold Ch;rw[if_pos f1];exact xF f1 _
  generalize Ch w1 20 = w2 at e2 f2
  have e3:=jH w2 (dV (dG f2))
  rw[decide_eq_true f2]at e3
  conv=>whnf
  refine W.sq<|g 41 44 []<|J UD<|W.cn<|J (noT SI) fun _=>W.exit<|g 0 11 [.call (az w1) [[],[]],.call (az w2) [[],[]]]<|J ⟨I,I,Zch,⟨UB,I,⟨UQ,UA,I⟩,UA,AS⟩,I,UQ,I⟩<|g 17 141 [.call VT [[]]]<|J ⟨I,Zcw,I,I⟩<|RT ?_
  rfl
end Go.K
end

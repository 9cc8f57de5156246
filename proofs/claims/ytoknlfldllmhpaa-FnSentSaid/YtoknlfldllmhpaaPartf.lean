/- Contracts of functions of the program: what each call answers. -/
import Derived.Test.YtoknlfldllmhpaaParte
set_option maxHeartbeats 8000000
set_option maxRecDepth 20000
set_option linter.unusedVariables false
set_option linter.unusedSimpArgs false
section
open Go Go.Tm Go.Proofs
namespace Go.K
structure WorkOk (i:Nat) (x:Worker):Prop where
 ok:aq x
 num:x.number = (i:Int) +1
def uI(ws:List Worker)(n:Nat):Prop:=∀ (m:Nat) (x:Worker),m < n→ws[m]? = some x→WorkOk m x
theorem tJ(ws:List Worker):uI ws 0:=fun m x hm=>by omega
theorem tK{ws:List Worker}{n:Nat}{x:Worker}(h:uI ws n)(hx:ws[n]? = some x)(hw:WorkOk n x):uI ws (n+1):=fun m y hm hy=>by
 by_cases e:m = n
 ·subst e;rw[hx]at hy;cases hy;exact hw
 ·exact h m y OM hy
structure ParOk (x:Parcel):Prop where
 to:0≤x.kind∧x.kind≤8
 sent:x.frm.size≤500
 bytes:x.text.size≤500
structure WorldOk (w:World):Prop where
 plan:ai w.plan.tasks = 0
 key:w.key.size≤30
 wl:1≤w.workers.length∧w.workers.length≤8
 fl:w.flight.length≤2000
 crew:uI w.workers w.workers.length
 par:∀ x∈w.flight,ParOk x
 boss:BossOk w.boss w.plan
 same:w.boss.workers = w.workers.length
noncomputable instance (w:World):Decidable (WorldOk w):=Classical.propDecidable _
structure WorldLim (w:World):Prop where
 plan:cL w.plan
 boss:BossLim w.boss
 key:w.key.size≤9223372036854775807
 wl:w.workers.length≤1048576
 wi:∀ x∈w.workers,x.inputs.length≤1048576
 fl:w.flight.length≤1048576
 fs:∀ x∈w.flight,x.frm.size≤9223372036854775807∧x.text.size≤9223372036854775807
theorem qv(w:World)(h:WorldLim w):F qd [.val (xg w)] (.b (decide (WorldOk w))) [[]]:=by
 obtain⟨l1,l2,l3,l4,l5,l6,l7⟩:=h
 have cp:=eu w.plan l1
 have cb:=wY w.boss w.plan l1 l2
 refine ql ?_
 conv=>whnf
 refine g 0 1 []<|J Zec<|W.sq ?_
 by_cases h1:ai (Plan.tasks (World.plan w)) = (0:Int)
 by_cases h2:(30:Int) < (↑(ByteArray.size (World.key w)):Int)
 refine g 11 29 [.call (V.i (ai w.plan.tasks)) [[]],BF,BF,BF,BF,BF,BT,BT,BT,BT,BT,BT,BT,BT,BT,BT,BT]<|J ⟨I,I,Zai,I,I,⟨nO,I⟩,⟨nO,I⟩,⟨nO,I⟩,⟨nO,I⟩,nO,I,tO,tO,tO,tO,tO,tO,I,rfl,rfl,rfl,rfl,rfl,I⟩<|W.cn<|J (fun _=>(g 7 10 []<|J UA (RT ?_))) (noF rfl)
 rotate_left
 by_cases h3:(1:Int)≤(↑(List.length (List.map av (World.workers w))):Int)∧(↑(List.length (List.map av (World.workers w))):Int)≤(8:Int)
 simp only[LM]at h3
 refine g 11 29 [.call (V.i (ai w.plan.tasks)) [[]],BF,BF,BF,BF,BF,BF,BF,BF,BF,.call (V.b (decide (1≤(↑(List.length (List.map av w.workers)):Int)∧(↑(List.length (List.map av w.workers)):Int)≤8))) [[],[],[]],BF,BF,BF,BF,BF,BF,BF]<|J ⟨I,I,Zai,I,I,⟨nO,I⟩,⟨nO,I⟩,⟨nO,I⟩,⟨nO,I⟩,nO,I,⟨dO,I⟩,⟨dO,I⟩,⟨dO,I⟩,⟨dO,UC,I,UU,UA,ac _ _ _⟩,⟨dO,I⟩,dO,I,⟨SI,I⟩,⟨SI,I⟩,⟨SI,I⟩,⟨SI,I⟩,SI,I⟩<|W.cn<|J (fun h4=>?_) fun h4=>?_
 replace h4:=dt h4
 simp only[LM]at h4
 refine g 7 10 []<|J UA<|RT ?_
 rotate_left
 replace h4:=df h4
 simp only[LM]at h4
 refine W.skip<|W.sq<|g 7 10 []<|J UD<|W.blk ?_
 rotate_left
 simp only[LM]at h3
 refine g 11 29 [.call (V.i (ai w.plan.tasks)) [[]],BF,BF,BF,BF,BF,BF,BF,BF,BF,.call (V.b (decide (1≤(↑(List.length (List.map av w.workers)):Int)∧(↑(List.length (List.map av w.workers)):Int)≤8))) [[],[],[]],BF,BF,BT,BT,BT,BT,BT]<|J ⟨I,I,Zai,I,I,⟨nO,I⟩,⟨nO,I⟩,⟨nO,I⟩,⟨nO,I⟩,nO,I,⟨dO,I⟩,⟨dO,I⟩,⟨dO,I⟩,⟨dO,UC,I,UU,UA,ac _ _ _⟩,⟨dO,I⟩,dO,I,SI,SI,SI,SI,SI,I⟩<|W.cn<|J (fun _=>(g 7 10 []<|J UA (RT ?_))) (noF rfl)
 rotate_left
 refine g 11 29 [.call (V.i (ai w.plan.tasks)) [[]],BT,BT,BT,BT,BT,BT,BT,BT,BT,BT,BT,BT,BT,BT,BT,BT]<|J ⟨I,I,Zai,I,I,af OM,af OM,af OM,af OM,af OM,I,rfl,rfl,rfl,rfl,rfl,rfl,I,rfl,rfl,rfl,rfl,rfl,I⟩<|W.cn<|J (fun _=>(g 7 10 []<|J UA (RT ?_))) (noF rfl)
 rotate_left
 all_goals try (exact vbf (fun q=>by have e1:=q.plan;have e2:=q.key;have e3:=q.wl;have e4:=q.fl;omega))
 refine W.lp (fun s (n:Nat)=>⟨[(1,s.s 1),(10,s.s 10),(31,s.s 31),(32,s.s 32),(33,.i n)],[(1,[s.c 1 0,s.c 1 1,s.c 1 2,s.c 1 3,s.c 1 4,s.c 1 5,s.c 1 6,s.c 1 7,s.c 1 8,s.c 1 9,s.c 1 10,s.c 1 11,s.c 1 12,s.c 1 13,s.c 1 14,s.c 1 15,s.c 1 16])],[]⟩) (fun(n:Nat)=>n≤w.workers.length∧uI w.workers n) (fun(n:Nat)=>w.workers.length - n) (0) [some 1] [] ⟨rfl,⟨rfl,rfl,rfl,rfl,rfl,I⟩,⟨⟨rfl,⟨rfl,⟨rfl,⟨rfl,⟨rfl,⟨rfl,⟨rfl,⟨rfl,⟨rfl,⟨rfl,⟨rfl,⟨rfl,⟨rfl,⟨rfl,⟨rfl,⟨rfl,⟨rfl,⟨rfl,I⟩⟩⟩⟩⟩⟩⟩⟩⟩⟩⟩⟩⟩⟩⟩⟩⟩⟩,I⟩,I⟩ ?_ ?_
 ·exact⟨Nat.zero_le _,tJ _⟩
 rintro n ⟨hn,hc⟩
 by_cases hn2:n < w.workers.length
 ·obtain⟨x,hx⟩:=aj hn2
  have hxi:=l5 x (List.mem_of_getElem? hx)
  have cw:=dD x OM
  by_cases hk:aq x
  ·rw[decide_eq_true hk]at cw
   conv=>whnf
   refine g 0 0 []<|J UA<|W.sq<|W.cn<|J (fun _=>(W.skip (W.sq (W.blk (g 34 38 [.x (av x)]<|J ⟨I,Zdg,I,I,I,UK,I⟩ (g 38 47 [.call VT [[]],BF,BF,BF,BF,.i ((n:Int) +1),BF,BF]<|J ⟨I,Zc9,I,I,Zda,Zda,Zda,⟨rfl,wO⟩,Zda,rfl,I⟩ (W.cn<|J (fun h5=>?_) fun h5=>?_))))))) (noF SI)
   replace h5:=ndt h5
   refine g 3 4 []<|J UA<|RT ?_
   rotate_left
   replace h5:=ndf h5
   refine W.skip<|rg [.i ((n:Int) +1)]<|J Zdj ?_
   rotate_left
   all_goals try (exact vbf (fun q=>by have:=(q.crew n x hn2 hx).num;omega))
   refine⟨n+1,[some 1],[],⟨rfl,Za8,⟨Zdb,I⟩,I⟩,?_,?_⟩
   rotate_left
   (dsimp only;omega)
   dsimp only
   exact⟨by omega,tK hc hx ⟨hk,by omega⟩⟩
  ·rw[decide_eq_false hk]at cw
   conv=>whnf
   refine g 0 0 []<|J UA<|W.sq<|W.cn<|J (fun _=>(W.skip (W.sq (W.blk (g 34 38 [.x (av x)]<|J ⟨I,Zdg,I,I,I,UK,I⟩ (g 38 47 [.call VF [[]],BT,BT,BT,BT,BT,BT]<|J ⟨I,Zc9,I,I,rfl,rfl,rfl,rfl,rfl,rfl,I⟩ (W.cn<|J (fun _=>(g 3 4 []<|J UA (RT ?_))) (noF rfl)))))))) (noF SI)
   exact vbf (fun q=>hk (q.crew n x hn2 hx).ok)
 obtain rfl:n = w.workers.length:=by omega
 conv=>whnf
 refine g 0 0 []<|J UA<|W.sq<|W.cn<|J (noT SI) fun _=>W.exit<|W.sq<|g 31 50 []<|J UD<|W.blk<|W.lp (fun s (n:Nat)=>⟨[(1,s.s 1),(10,s.s 10),(50,s.s 50),(51,s.s 51),(52,.i n)],[(1,[s.c 1 0,s.c 1 1,s.c 1 2,s.c 1 3,s.c 1 4,s.c 1 5,s.c 1 6,s.c 1 7,s.c 1 8,s.c 1 9,s.c 1 10,s.c 1 11,s.c 1 12,s.c 1 13,s.c 1 14,s.c 1 15,s.c 1 16])],[]⟩) (fun(n:Nat)=>n≤w.flight.length∧∀ x∈w.flight.take n,ParOk x) (fun(n:Nat)=>w.flight.length - n) (0) [some 1] [] ⟨rfl,Za8,⟨Zdb,I⟩,I⟩ (by simp) ?_
 rintro n ⟨hn3,hc3⟩
 by_cases hn4:n < w.flight.length
 ·obtain⟨x,hx⟩:=aj hn4
  obtain⟨hxs,hxb⟩:=l7 x (List.mem_of_getElem? hx)
  by_cases hA:0≤x.kind∧x.kind≤8
  ·by_cases hB:x.frm.size≤500
   ·by_cases hC:x.text.size≤500
    ·conv=>whnf
     refine g 0 0 []<|J UA<|W.sq<|W.cn<|J (fun _=>(W.skip (W.sq (W.blk (g 53 56 [.x (bI x)]<|J Zck (g 56 71 [.call (V.b (decide (0≤x.kind∧x.kind≤8))) [[],[],[]],BF,BF,BF,BF,BF,BF,BF,BF,BF,BF]<|J ⟨I,I,⟨UC,I,UU,UA,ac _ _ _⟩,I,I,⟨nO,I⟩,⟨nO,I⟩,⟨nO,I⟩,⟨nO,I⟩,nO,I,⟨dO,I⟩,⟨dO,I⟩,⟨dO,I⟩,⟨dO,I⟩,dO,I⟩ (W.cn<|J (noT dO) fun _=>(W.skip (rg [.i ((n:Int) +1)]<|J Zdj ?_))))))))) (noF SI)
     refine⟨n+1,[some 1],[],⟨rfl,Za8,⟨Zdb,I⟩,I⟩,?_,?_⟩
     rotate_left
     (dsimp only;omega)
     dsimp only
     exact⟨by omega,dx hc3 hx ⟨hA,hB,hC⟩⟩
    ·conv=>whnf
     refine g 0 0 []<|J UA<|W.sq<|W.cn<|J (fun _=>(W.skip (W.sq (W.blk (g 53 56 [.x (bI x)]<|J Zck (g 56 71 [.call (V.b (decide (0≤x.kind∧x.kind≤8))) [[],[],[]],BF,BF,BF,BF,BF,BF,BF,BF,BF,BF]<|J ⟨I,I,⟨UC,I,UU,UA,ac _ _ _⟩,I,I,⟨nO,I⟩,⟨nO,I⟩,⟨nO,I⟩,⟨nO,I⟩,nO,I,⟨dO,I⟩,⟨dO,I⟩,⟨dO,I⟩,⟨dO,I⟩,dO,I⟩ (W.cn<|J (fun _=>(g 6 7 []<|J UA (RT ?_))) (noF tO)))))))) (noF SI)
     exact vbf (fun q=>hC (q.par x (List.mem_of_getElem? hx)).bytes)
   ·conv=>whnf
    refine g 0 0 []<|J UA<|W.sq<|W.cn<|J (fun _=>(W.skip (W.sq (W.blk (g 53 56 [.x (bI x)]<|J Zck (g 56 71 [.call (V.b (decide (0≤x.kind∧x.kind≤8))) [[],[],[]],BF,BF,BF,BF,BF,BT,BT,BT,BT,BT]<|J ⟨I,I,⟨UC,I,UU,UA,ac _ _ _⟩,I,I,⟨nO,I⟩,⟨nO,I⟩,⟨nO,I⟩,⟨nO,I⟩,nO,I,tO,tO,tO,tO,tO,I⟩ (W.cn<|J (fun _=>(g 6 7 []<|J UA (RT ?_))) (noF rfl)))))))) (noF SI)
    exact vbf (fun q=>hB (q.par x (List.mem_of_getElem? hx)).sent)
  ·conv=>whnf
   refine g 0 0 []<|J UA<|W.sq<|W.cn<|J (fun _=>(W.skip (W.sq (W.blk (g 53 56 [.x (bI x)]<|J Zck (g 56 71 [.call (V.b (decide (0≤x.kind∧x.kind≤8))) [[],[],[]],BT,BT,BT,BT,BT,BT,BT,BT,BT,BT]<|J ⟨I,I,⟨UC,I,UU,UA,ac _ _ _⟩,I,I,af OM,af OM,af OM,af OM,af OM,I,rfl,rfl,rfl,rfl,rfl,I⟩ (W.cn<|J (fun _=>(g 6 7 []<|J UA (RT ?_))) (noF rfl)))))))) (noF SI)
   exact vbf (fun q=>hA (q.par x (List.mem_of_getElem? hx)).to)
 have hpar:∀ x∈w.flight,ParOk x:=by rw[bC OM]at hc3;exact hc3
 by_cases hb:BossOk w.boss w.plan
 ·rw[decide_eq_true hb]at cb
  conv=>whnf
  refine g 0 0 []<|J UA<|W.sq<|W.cn<|J (noT SI) fun _=>W.exit<|g 10 87 [.call VT [[],[]],BT,BT,BT,BT,BT,BT,BT,BT]<|J ⟨I,I,I,I,Zat,I,Zda,Zda,Zda,Zda,Zda,Zda,Zda,rfl,I,I⟩<|RT ?_
  by_cases hs:w.boss.workers = w.workers.length
  ·simp only[List.length_map]
   rw[decide_eq_true hs]
   exact vbt ⟨by omega,by omega,by omega,by omega,hc,hpar,hb,hs⟩
  ·simp only[List.length_map]
   rw[decide_eq_false hs]
   exact vbf (fun q=>hs q.same)
 ·rw[decide_eq_false hb]at cb
  conv=>whnf
  refine g 0 0 []<|J UA<|W.sq<|W.cn<|J (noT SI) fun _=>W.exit<|g 10 87 [.call VF [[],[]],BF,BF,BF,BF,BF,BF,BF,BF]<|J ⟨I,I,I,I,Zat,I,rfl,rfl,rfl,rfl,rfl,rfl,rfl,rfl,I,I⟩<|RT ?_
  exact vbf (fun q=>hb q.boss)
theorem qq(w:World)(h:WorldLim w):F pX [.val (xg w)] (.b (decide (WorldOk w))) [[]]:=by
 obtain⟨l1,l2,l3,l4,l5,l6,l7⟩:=h
 have cp:=bW w.plan l1
 have cb:=m7 w.boss w.plan l1 l2
 refine qg ?_
 conv=>whnf
 refine g 0 1 []<|J Zec<|W.sq ?_
 by_cases h1:ai (Plan.tasks (World.plan w)) = (0:Int)
 by_cases h2:(30:Int) < (↑(ByteArray.size (World.key w)):Int)
 refine g 11 28 [.call (V.i (ai w.plan.tasks)) [[]],BF,BF,BF,BF,BF,BT,BT,BT,BT,BT,BT,BT,BT,BT,BT,BT]<|J ⟨I,I,Zai,I,I,⟨nO,I⟩,⟨nO,I⟩,⟨nO,I⟩,⟨nO,I⟩,nO,I,tO,tO,tO,tO,tO,tO,I,rfl,rfl,rfl,rfl,rfl,I⟩<|W.cn<|J (fun _=>(g 8 10 []<|J UA (RT ?_))) (noF rfl)
 rotate_left
 by_cases h3:(1:Int)≤(↑(List.length (List.map av (World.workers w))):Int)∧(↑(List.length (List.map av (World.workers w))):Int)≤(8:Int)
 simp only[LM]at h3
 refine g 11 28 [.call (V.i (ai w.plan.tasks)) [[]],BF,BF,BF,BF,BF,BF,BF,BF,BF,.call (V.b (decide (1≤(↑(List.length (List.map av w.workers)):Int)∧(↑(List.length (List.map av w.workers)):Int)≤8))) [[],[],[]],BF,BF,BF,BF,BF,BF,BF]<|J ⟨I,I,Zai,I,I,⟨nO,I⟩,⟨nO,I⟩,⟨nO,I⟩,⟨nO,I⟩,nO,I,⟨dO,I⟩,⟨dO,I⟩,⟨dO,I⟩,⟨dO,UC,I,UU,UA,ag _ _ _⟩,⟨dO,I⟩,dO,I,⟨SI,I⟩,⟨SI,I⟩,⟨SI,I⟩,⟨SI,I⟩,SI,I⟩<|W.cn<|J (fun h4=>?_) fun h4=>?_
 replace h4:=dt h4
 simp only[LM]at h4
 refine g 8 10 []<|J UA<|RT ?_
 rotate_left
 replace h4:=df h4
 simp only[LM]at h4
 refine W.skip<|W.sq<|g 8 10 []<|J UA<|W.blk ?_
 rotate_left
 simp only[LM]at h3
 refine g 11 28 [.call (V.i (ai w.plan.tasks)) [[]],BF,BF,BF,BF,BF,BF,BF,BF,BF,.call (V.b (decide (1≤(↑(List.length (List.map av w.workers)):Int)∧(↑(List.length (List.map av w.workers)):Int)≤8))) [[],[],[]],BF,BF,BT,BT,BT,BT,BT]<|J ⟨I,I,Zai,I,I,⟨nO,I⟩,⟨nO,I⟩,⟨nO,I⟩,⟨nO,I⟩,nO,I,⟨dO,I⟩,⟨dO,I⟩,⟨dO,I⟩,⟨dO,UC,I,UU,UA,ag _ _ _⟩,⟨dO,I⟩,dO,I,SI,SI,SI,SI,SI,I⟩<|W.cn<|J (fun _=>(g 8 10 []<|J UA (RT ?_))) (noF rfl)
 rotate_left
 refine g 11 28 [.call (V.i (ai w.plan.tasks)) [[]],BT,BT,BT,BT,BT,BT,BT,BT,BT,BT,BT,BT,BT,BT,BT,BT]<|J ⟨I,I,Zai,I,I,af OM,af OM,af OM,af OM,af OM,I,rfl,rfl,rfl,rfl,rfl,rfl,I,rfl,rfl,rfl,rfl,rfl,I⟩<|W.cn<|J (fun _=>(g 8 10 []<|J UA (RT ?_))) (noF rfl)
 rotate_left
 all_goals try (exact vbf (fun q=>by have e1:=q.plan;have e2:=q.key;have e3:=q.wl;have e4:=q.fl;omega))
 refine W.lp (fun s (n:Nat)=>⟨[(1,s.s 1),(3,.i n),(7,s.s 7),(10,s.s 10)],[(1,[s.c 1 0,s.c 1 1,s.c 1 2,s.c 1 3,s.c 1 4,s.c 1 5,s.c 1 6,s.c 1 7,s.c 1 8,s.c 1 9,s.c 1 10,s.c 1 11,s.c 1 12,s.c 1 13,s.c 1 14,s.c 1 15,s.c 1 16])],[]⟩) (fun(n:Nat)=>n≤w.workers.length∧uI w.workers n) (fun(n:Nat)=>w.workers.length - n) (0) [some 1] [] ⟨rfl,⟨rfl,rfl,⟨_,rfl,_,_,rfl,rfl,rfl⟩,rfl,I⟩,⟨⟨rfl,⟨rfl,⟨rfl,⟨rfl,⟨rfl,⟨rfl,⟨rfl,⟨rfl,⟨rfl,⟨rfl,⟨rfl,⟨rfl,⟨rfl,⟨rfl,⟨rfl,⟨rfl,⟨rfl,⟨rfl,I⟩⟩⟩⟩⟩⟩⟩⟩⟩⟩⟩⟩⟩⟩⟩⟩⟩⟩,I⟩,I⟩ ?_ ?_
 ·exact⟨Nat.zero_le _,tJ _⟩
 rintro n ⟨hn,hc⟩
 by_cases hn2:n < w.workers.length
 ·obtain⟨x,hx⟩:=aj hn2
  have hxi:=l5 x (List.mem_of_getElem? hx)
  have cw:=am x OM
  by_cases hk:aq x
  ·rw[decide_eq_true hk]at cw
   conv=>whnf
   refine W.sq<|g 29 33 []<|J UE<|W.cn<|J (fun _=>(W.skip (W.sq (W.blk (g 33 53 [.x (av x),.call VT [[]],BF,BF,BF,BF,.x (av x),BF,BF,BF,BF,.i ((n:Int) +1),BF,BF]<|J ⟨I,I,I,Zdg,I,Zc9,I,I,Zda,Zda,Zda,⟨rfl,OM,xA⟩,Zda,Zda,Zda,⟨rfl,wO⟩,Zda,rfl,I⟩ (W.cn<|J (fun h5=>?_) fun h5=>?_)))))) (noF SI)
   replace h5:=ndt h5
   refine g 53 54 []<|J UA<|RT ?_
   rotate_left
   replace h5:=ndf h5
   refine W.skip<|rg [.i ((n:Int) +1)]<|J Zdc ?_
   rotate_left
   all_goals try (exact vbf (fun q=>by have:=(q.crew n x hn2 hx).num;omega))
   refine⟨n+1,[some 1],[],⟨rfl,⟨rfl,rfl,Zag,rfl,I⟩,⟨Zdb,I⟩,I⟩,?_,?_⟩
   rotate_left
   (dsimp only;omega)
   dsimp only
   exact⟨by omega,tK hc hx ⟨hk,by omega⟩⟩
  ·rw[decide_eq_false hk]at cw
   conv=>whnf
   refine W.sq<|g 29 33 []<|J UE<|W.cn<|J (fun _=>(W.skip (W.sq (W.blk (g 33 53 [.x (av x),.call VF [[]],BT,BT,BT,BT,BT,BT,BT,BT,BT,BT]<|J ⟨I,I,I,Zdg,I,Zc9,I,I,rfl,rfl,rfl,rfl,rfl,rfl,rfl,rfl,rfl,rfl,I⟩ (W.cn<|J (fun _=>(g 53 54 []<|J UA (RT ?_))) (noF rfl))))))) (noF SI)
   exact vbf (fun q=>hk (q.crew n x hn2 hx).ok)
 obtain rfl:n = w.workers.length:=by omega
 conv=>whnf
 refine W.sq<|g 29 33 []<|J UE<|W.cn<|J (noT SI) fun _=>W.exit<|W.sq<|g 3 4 []<|J UA<|W.blk<|W.lp (fun s (n:Nat)=>⟨[(1,s.s 1),(4,.i n),(7,s.s 7),(10,s.s 10)],[(1,[s.c 1 0,s.c 1 1,s.c 1 2,s.c 1 3,s.c 1 4,s.c 1 5,s.c 1 6,s.c 1 7,s.c 1 8,s.c 1 9,s.c 1 10,s.c 1 11,s.c 1 12,s.c 1 13,s.c 1 14,s.c 1 15,s.c 1 16])],[]⟩) (fun(n:Nat)=>n≤w.flight.length∧∀ x∈w.flight.take n,ParOk x) (fun(n:Nat)=>w.flight.length - n) (0) [some 1] [] ⟨rfl,⟨rfl,rfl,Zag,rfl,I⟩,⟨Zdb,I⟩,I⟩ (by simp) ?_
 rintro n ⟨hn3,hc3⟩
 by_cases hn4:n < w.flight.length
 ·obtain⟨x,hx⟩:=aj hn4
  obtain⟨hxs,hxb⟩:=l7 x (List.mem_of_getElem? hx)
  by_cases hA:0≤x.kind∧x.kind≤8
  ·by_cases hB:x.frm.size≤500
   ·by_cases hC:x.text.size≤500
    ·conv=>whnf
     refine W.sq<|g 54 58 []<|J UE<|W.cn<|J (fun _=>(W.skip (W.sq (W.blk (g 58 66 [.x (bI x)]<|J Zbf (g 66 81 [.call (V.b (decide (0≤x.kind∧x.kind≤8))) [[],[],[]],BF,BF,BF,BF,BF,BF,BF,BF,BF,BF]<|J ⟨I,I,⟨UC,I,UU,UA,ag _ _ _⟩,I,I,⟨nO,I⟩,⟨nO,I⟩,⟨nO,I⟩,⟨nO,I⟩,nO,I,⟨dO,I⟩,⟨dO,I⟩,⟨dO,I⟩,⟨dO,I⟩,dO,I⟩ (W.cn<|J (noT dO) fun _=>(W.skip (rg [.i ((n:Int) +1)]<|J Zdc ?_))))))))) (noF SI)
     refine⟨n+1,[some 1],[],⟨rfl,⟨rfl,rfl,Zag,rfl,I⟩,⟨Zdb,I⟩,I⟩,?_,?_⟩
     rotate_left
     (dsimp only;omega)
     dsimp only
     exact⟨by omega,dx hc3 hx ⟨hA,hB,hC⟩⟩
    ·conv=>whnf
     refine W.sq<|g 54 58 []<|J UE<|W.cn<|J (fun _=>(W.skip (W.sq (W.blk (g 58 66 [.x (bI x)]<|J Zbf (g 66 81 [.call (V.b (decide (0≤x.kind∧x.kind≤8))) [[],[],[]],BF,BF,BF,BF,BF,BF,BF,BF,BF,BF]<|J ⟨I,I,⟨UC,I,UU,UA,ag _ _ _⟩,I,I,⟨nO,I⟩,⟨nO,I⟩,⟨nO,I⟩,⟨nO,I⟩,nO,I,⟨dO,I⟩,⟨dO,I⟩,⟨dO,I⟩,⟨dO,I⟩,dO,I⟩ (W.cn<|J (fun _=>(g 5 6 []<|J UA (RT ?_))) (noF tO)))))))) (noF SI)
     exact vbf (fun q=>hC (q.par x (List.mem_of_getElem? hx)).bytes)
   ·conv=>whnf
    refine W.sq<|g 54 58 []<|J UE<|W.cn<|J (fun _=>(W.skip (W.sq (W.blk (g 58 66 [.x (bI x)]<|J Zbf (g 66 81 [.call (V.b (decide (0≤x.kind∧x.kind≤8))) [[],[],[]],BF,BF,BF,BF,BF,BT,BT,BT,BT,BT]<|J ⟨I,I,⟨UC,I,UU,UA,ag _ _ _⟩,I,I,⟨nO,I⟩,⟨nO,I⟩,⟨nO,I⟩,⟨nO,I⟩,nO,I,tO,tO,tO,tO,tO,I⟩ (W.cn<|J (fun _=>(g 5 6 []<|J UA (RT ?_))) (noF rfl)))))))) (noF SI)
    exact vbf (fun q=>hB (q.par x (List.mem_of_getElem? hx)).sent)
  ·conv=>whnf
   refine W.sq<|g 54 58 []<|J UE<|W.cn<|J (fun _=>(W.skip (W.sq (W.blk (g 58 66 [.x (bI x)]<|J Zbf (g 66 81 [.call (V.b (decide (0≤x.kind∧x.kind≤8))) [[],[],[]],BT,BT,BT,BT,BT,BT,BT,BT,BT,BT]<|J ⟨I,I,⟨UC,I,UU,UA,ag _ _ _⟩,I,I,af OM,af OM,af OM,af OM,af OM,I,rfl,rfl,rfl,rfl,rfl,I⟩ (W.cn<|J (fun _=>(g 5 6 []<|J UA (RT ?_))) (noF rfl)))))))) (noF SI)
   exact vbf (fun q=>hA (q.par x (List.mem_of_getElem? hx)).to)
 have hpar:∀ x∈w.flight,ParOk x:=by rw[bC OM]at hc3;exact hc3
 by_cases hs:w.boss.workers = w.workers.length
 ·by_cases hb:BossOk w.boss w.plan
  ·rw[decide_eq_true hb]at cb
   conv=>whnf
   refine W.sq<|g 54 58 []<|J UE<|W.cn<|J (noT SI) fun _=>W.exit<|g 7 96 [BT,BT,BT,BT,BT,.call VT [[],[]],BT]<|J ⟨I,I,I,I,I,I,I,I,⟨SI,I⟩,⟨SI,I⟩,⟨SI,I⟩,⟨SI,I⟩,⟨SI,UB,I,⟨UL,UA,I⟩,UA,AS⟩,SI,I,I⟩<|RT ?_
   exact vbt ⟨by omega,by omega,by omega,by omega,hc,hpar,hb,hs⟩
  ·rw[decide_eq_false hb]at cb
   conv=>whnf
   refine W.sq<|g 54 58 []<|J UE<|W.cn<|J (noT SI) fun _=>W.exit<|g 7 96 [BT,BT,BT,BT,BT,.call VF [[],[]],BT]<|J ⟨I,I,I,I,I,I,I,I,⟨SI,I⟩,⟨SI,I⟩,⟨SI,I⟩,⟨SI,I⟩,⟨SI,UB,I,⟨UL,UA,I⟩,UA,AS⟩,SI,I,I⟩<|RT ?_
   exact vbf (fun q=>hb q.boss)
 ·conv=>whnf
  refine W.sq<|g 54 58 []<|J UE<|W.cn<|J (noT SI) fun _=>W.exit<|g 7 96 [BF,BF,BF,BF,BF,BF]<|J ⟨I,I,I,I,I,I,I,I,SI,SI,SI,SI,SI,SI,I,I⟩<|RT ?_
  exact vbf (fun q=>hs q.same)
end Go.K
end
section
open Go Go.Tm Go.Proofs
namespace Go.K
structure FinOk (w:World):Prop where
 ok:WorldOk w
 up:w.boss.up = true
 all:∀ r∈w.boss.results,¬r = emp
noncomputable instance (w:World):Decidable (FinOk w):=Classical.propDecidable _
end Go.K
end
section
open Go Go.Tm Go.Proofs
namespace Go.K
structure Inv (L:Nat) (t:Tale) (ys:List ByteArray):Prop where
 len:t.results.length = L
 fwd:∀ s∈ys,∃ e,dn s = some e∧(¬e.kind = 1→e.kind = 2∧0≤e.task∧e.task < L∧atS t.results e.task = e.text∧¬e.text = emp)
 back:∀ i:Nat,¬atS t.results (i:Int) = emp→∃ s∈ys,∃ e,dn s = some e∧¬e.kind = 1∧e.task = (i:Int)∧e.text = atS t.results (i:Int)
theorem tc{rs:List ByteArray}{k:Int}{v:ByteArray}(h0:0≤k)(h:k < rs.length):atS (rs.set k.toNat v) k = v:=by
 unfold atS;rw[List.getElem?_set_self OM];rfl
theorem kA{rs:List ByteArray}{k j:Int}{v:ByteArray}(h0:0≤k)(hj:0≤j)(h:¬j = k):atS (rs.set k.toNat v) j = atS rs j:=by
 unfold atS;rw[List.getElem?_set_ne OM]
theorem Ko{ts:List Task}{t u:Tale}{s:ByteArray}{ys:List ByteArray}(hi:Inv ts.length t ys)(h:de ts t s = some u):Inv ts.length u (ys++ [s]):=by
 obtain⟨i1,i2,i3⟩:=hi
 unfold de at h
 cases he:dn s with
 |none=>rw[he]at h;cases h
 |some e =>
  rw[he]at h
  have hok:=fk he
  obtain⟨o1,o2,o3⟩:=hok
  simp only at h
  by_cases hk:e.kind = 1
  ·rw[if_pos hk]at h
   split at h
   ·cases h
    refine⟨i1,fun s' hs'=>?_,fun i hi=>?_⟩
    ·rcases List.mem_append.1 hs' with hs'|hs'
     ·exact i2 s' hs'
     ·rw[List.mem_singleton.1 hs'];exact⟨e,he,fun q=>absurd hk q⟩
    ·obtain⟨s',hs',q⟩:=i3 i hi
     exact⟨s',List.mem_append_left _ hs',q⟩
   ·cases h
  ·rw[if_neg hk]at h
   split at h
   ·rename_i hc
    cases h
    obtain⟨_,c2,c3,_⟩:=hc
    have hlt:e.task < (t.results.length:Int):=by omega
    have h8:e.kind = 2∧(e.text.size:Int) = 8:=by
     rcases o3 with q|q
     ·exact absurd q.1 hk
     ·exact q
    have hne:¬e.text = emp:=fun q=>by have:=h8.2;rw[q]at this;cases this
    have c4:atS t.results e.task = emp:=c3
    refine⟨by rw[List.length_set];exact i1,fun s' hs'=>?_,fun i hi=>?_⟩
    ·rcases List.mem_append.1 hs' with hs'|hs'
     ·obtain⟨e',h1,h2⟩:=i2 s' hs'
      refine⟨e',h1,fun q=>?_⟩
      obtain⟨g0,g1,g2,g3,g4⟩:=h2 q
      have hd:¬e'.task = e.task:=fun w=>by rw[w,c4]at g3;exact g4 g3.symm
      exact⟨g0,g1,g2,by rw[kA o2.1 g1 hd];exact g3,g4⟩
     ·rw[List.mem_singleton.1 hs']
      exact⟨e,he,fun _=>⟨h8.1,o2.1,c2,tc o2.1 hlt,hne⟩⟩
    ·by_cases hd:(i:Int) = e.task
     ·refine⟨s,List.mem_append_right _ (List.mem_singleton.2 rfl),e,he,hk,hd.symm,?_⟩
      rw[hd,tc o2.1 hlt]
     ·rw[kA o2.1 OM hd]at hi ⊢
      obtain⟨s',hs',q⟩:=i3 i hi
      exact⟨s',List.mem_append_left _ hs',q⟩
   ·cases h
theorem GE{ts:List Task}:∀ {l:List ByteArray} {t u:Tale} {ys:List ByteArray},Inv ts.length t ys→iU ts (some t) l = some u→Inv ts.length u (ys++l)
 |[],t,u,ys,hi,h=>by rw[iQ]at h;cases h;rw[List.append_nil];exact hi
 |s :: l,t,u,ys,hi,h=>by
  rw[nn]at h
  cases hs:de ts t s with
  |none=>rw[hs,gv]at h;cases h
  |some v =>
   rw[hs]at h
   have:=GE (Ko hi hs) h
   rw[List.append_assoc]at this;exact this
theorem PQ(n:Nat)(k:Int):atS (List.replicate n emp) k = emp:=by
 unfold atS;rw[List.getElem?_replicate];split <;> rfl
theorem Kn(ts:List Task):Inv ts.length (ke ts) []:=⟨by rw[ke,List.length_replicate],fun s hs=>(by cases hs),fun i hi=>absurd (PQ _ _) hi⟩
theorem sE{p:Plan}{xs:List ByteArray}(h:(ar p xs).code = 0):Inv p.tasks.length ⟨(ar p xs).epoch,(ar p xs).results⟩ xs:=by
 obtain⟨_,_,_,t,h1,h2⟩:=ci h
 have:=GE (Kn p.tasks) h1
 rw[h2];exact this
def told(xs ts:List ByteArray)(n i:Nat):Prop:=∃ (m:Nat) (s:ByteArray) (e:Entry),m < n∧xs[m]? = some s∧dn s = some e∧¬e.kind = 1∧e.task = (i:Int)∧¬e.text = atS ts (i:Int)
end Go.K
end
section
open Go Go.Tm Go.Proofs
namespace Go.K
def ly(w:Int)(j:Job):Job:=if j.worker = w then fw else j
def mc(l t:Int)(j:Job):Job:=if j.lease = l then⟨j.lease,j.worker,t⟩else j
def fa(m:Message):Nat:=(m.frm - 1).toNat
def qC(b:Boss)(m:Message):Prop:=m.epoch < (kH b.seats (fa m)).epoch
instance (b:Boss) (m:Message):Decidable (qC b m):=by unfold qC;infer_instance
def kf(b:Boss)(m:Message):Boss:=if qC b m then b else⟨b.workers,b.up,b.now,b.since,b.epoch,b.given,b.log,b.results,b.jobs,b.seats.set (fa m) ⟨true,m.epoch⟩,b.owed⟩
def rp(b:Boss)(m:Message):Boss:=if qC b m then b else⟨b.workers,b.up,b.now,b.since,b.epoch,b.given,b.log,b.results,b.jobs.map (ly m.frm),b.seats.set (fa m) ⟨true,m.epoch⟩,b.owed⟩
def MG(b:Boss)(m:Message):Boss:=⟨b.workers,b.up,b.now,b.since,b.epoch,b.given,b.log,b.results,b.jobs.map (mc m.lease (b.now+12)),b.seats,b.owed⟩
structure CanPut (b:Boss) (ts:List Task) (m:Message):Prop where
 res:atS b.results m.task = emp
 ready:ca b.results (gR ts m.task.toNat)
 room:b.log.safe.length+b.log.loose.length < 310
noncomputable instance (b:Boss) (ts:List Task) (m:Message):Decidable (CanPut b ts m):=Classical.propDecidable _
def li(b:Boss)(m:Message):Boss:=⟨b.workers,b.up,b.now,b.since,b.epoch,b.given,⟨b.log.safe,b.log.loose++ [b9 ⟨2,b.epoch,m.task,m.text⟩]⟩,b.results.set m.task.toNat m.text,b.jobs.set m.task.toNat fw,b.seats,b.owed⟩
noncomputable def pj(b:Boss)(ts:List Task)(m:Message):Boss:=if CanPut b ts m then li b m else b
def vG(b:Boss)(m:Message):Boss:=if atS b.results m.task = emp then kf b m else b
structure Owes (b:Boss) (m:Message):Prop where
 same:atS b.results m.task = m.text
 room:b.owed.length < 2000
 new:∀ o∈b.owed,¬(o.worker = m.frm∧o.lease = m.lease)
noncomputable instance (b:Boss) (m:Message):Decidable (Owes b m):=Classical.propDecidable _
noncomputable def uM(b:Boss)(m:Message):Boss:=if Owes b m then⟨b.workers,b.up,b.now,b.since,b.epoch,b.given,b.log,b.results,b.jobs,b.seats,b.owed++ [⟨m.frm,m.lease,m.task⟩]⟩else b
noncomputable def dA(b:Boss)(ts:List Task)(m:Message):Boss:=uM (vG (pj b ts m) m) m
structure ForB (b:Boss) (m:Message):Prop where
 up:b.up = true
 ok:bw m
 to:m.to = 0
 frm:m.frm≤b.workers
noncomputable instance (b:Boss) (m:Message):Decidable (ForB b m):=Classical.propDecidable _
noncomputable def fK(b:Boss)(ts:List Task)(m:Message):Boss :=
 if ForB b m then
  (if m.kind = 5 then rp b m else if m.kind = 2 then MG b m else if m.kind = 3 then(if m.task < ts.length then dA b ts m else b)else b)
 else b
theorem xm{b:Boss}{ts:List Task}{m:Message}(h:¬ForB b m):fK b ts m = b:=if_neg h
theorem ko{b:Boss}{ts:List Task}{m:Message}(h:ForB b m)(hk:m.kind = 5):fK b ts m = rp b m:=by rw[fK,if_pos h,if_pos hk]
theorem kp{b:Boss}{ts:List Task}{m:Message}(h:ForB b m)(hk:m.kind = 2):fK b ts m = MG b m:=by rw[fK,if_pos h,if_neg OM,if_pos hk]
theorem mP{b:Boss}{ts:List Task}{m:Message}(h:ForB b m)(hk:m.kind = 3)(ht:m.task < ts.length):fK b ts m = dA b ts m:=by rw[fK,if_pos h,if_neg OM,if_neg OM,if_pos hk,if_pos ht]
theorem mQ{b:Boss}{ts:List Task}{m:Message}(h:ForB b m)(hk:m.kind = 3)(ht:¬m.task < ts.length):fK b ts m = b:=by rw[fK,if_pos h,if_neg OM,if_neg OM,if_pos hk,if_neg ht]
theorem kR{b:Boss}{m:Message}(h:ForB b m):(m.kind = 2∨m.kind = 3∨m.kind = 5)∧(1≤m.frm∧m.frm≤8)∧(1≤m.epoch∧m.epoch≤300):=by
 obtain⟨h1,h2⟩:=h.ok
 have h0:=h.to
 rcases h2 with q|q|q|q|q
 ·have:=q.2.2.1;omega
 ·exact⟨.inl q.1,q.2.2.1,h1⟩
 ·exact⟨.inr (.inl q.1),q.2.2.1,h1⟩
 ·have:=q.2.2.1;omega
 ·exact⟨.inr (.inr q.1),q.2.2.1,h1⟩
theorem A6{b:Boss}{m:Message}(h:ForB b m)(hk:m.kind = 3):(1≤m.lease∧m.lease≤300000000)∧(0≤m.task∧m.task≤39)∧(m.text.size:Int) = 8:=by
 obtain⟨h1,h2⟩:=h.ok
 rcases h2 with q|q|q|q|q
 ·have:=q.1;omega
 ·have:=q.1;omega
 ·exact⟨q.2.2.2.1,q.2.2.2.2.1,q.2.2.2.2.2.1⟩
 ·have:=q.1;omega
 ·have:=q.1;omega
noncomputable def yP(b:Boss)(p:Plan)(m:Message):Led:=if BossOk b p then⟨fK b p.tasks m,[]⟩else Br
theorem kU{b:Boss}{p:Plan}{m:Message}(h:BossOk b p):yP b p m = ⟨fK b p.tasks m,[]⟩:=if_pos h
end Go.K
end
section
open Go Go.Tm Go.Proofs
namespace Go.K
theorem PE{ep now given workers:Int}{rs:List ByteArray}{ts:List Task}{js:List Job}{k:Int}{tx:ByteArray}(h:JL ep now given workers rs ts js)(h0:0≤k)(hk:k < rs.length)(hj:k < js.length)(ht:¬tx = emp):JL ep now given workers (rs.set k.toNat tx) ts (js.set k.toNat fw):=by
 have g:∀ {i:Nat} {x:Job},(js.set k.toNat fw)[i]? = some x→¬x.lease = 0→¬(i:Int) = k∧js[i]? = some x:=fun{i x} hx hz=>by
  by_cases e:i = k.toNat
  ·subst e
   rw[List.getElem?_set_self OM]at hx
   rw[←Option.some.inj hx]at hz;exact absurd rfl hz
  ·rw[List.getElem?_set_ne (fun q=>e q.symm)]at hx
   exact⟨by omega,hx⟩
 have hat:∀ i:Int,0≤i→¬i = k→atS (rs.set k.toNat tx) i = atS rs i:=fun i hi e=>kA h0 hi e
 refine⟨fun i x hx hz=>?_,fun i x hx hz=>h.lease i x (g hx hz).2 hz,fun i x hx hz=>h.worker i x (g hx hz).2 hz,fun i x hx hz=>h.til i x (g hx hz).2 hz,fun i x hx hz=>?_,fun i x hx hz=>?_,fun i m x y him hx hy hz e=>?_⟩
 ·by_cases e:i = k.toNat
  ·subst e
   rw[List.getElem?_set_self OM]at hx
   rw[←Option.some.inj hx];exact⟨rfl,rfl⟩
  ·rw[List.getElem?_set_ne (fun q=>e q.symm)]at hx
   exact h.zero i x hx hz
 ·rw[hat i OM (g hx hz).1];exact h.res i x (g hx hz).2 hz
 ·intro d hd q
  have hr:=h.ready i x (g hx hz).2 hz d hd
  by_cases e:d.toNat = k.toNat
  ·rw[e,List.getElem?_set_self OM]at q;exact ht q
  ·rw[List.getElem?_set_ne (fun w=>e w.symm)]at q;exact hr q
 ·have hzx:¬x.lease = 0:=fun w=>hz (by rw[←e];exact w)
  exact h.once i m x y him (g hx hzx).2 (g hy hz).2 hz e
theorem E3{b:Boss}{p:Plan}{m:Message}(hv:BossOk b p)(hup:b.up = true)(he:1≤m.epoch∧m.epoch≤300):BossOk (kf b m) p:=by
 unfold kf;split
 ·exact hv
 ·obtain⟨u1,u2,u3,u4,u5,u6,u7,u9,u11,u12,u13,u14⟩:=hv.up hup
  refine⟨hv.plan,hv.workers,hv.now,hv.code,fun _=>?_,fun e=>by rw[show b.up = false from e]at hup;cases hup⟩
  refine⟨u1,u2,u3,u4,by show((b.seats.set _ _).length:Int) = _;rw[List.length_set];exact u5,u6,u7,u9,u11,yO (show JL b.epoch b.now b.given b.workers b.results p.tasks b.jobs from Bu u12),fun s hs=>?_,fun o ho=>by obtain⟨a1,a2,a3,a4⟩:=u14 o ho;exact⟨a1,a2,a3,a4⟩⟩
  rcases List.mem_or_eq_of_mem_set hs with hs|hs
  ·exact u13 s hs
  ·rw[hs];exact⟨by dsimp only;omega,by dsimp only;omega⟩
theorem EZ{b:Boss}{p:Plan}{m:Message}(hv:BossOk b p)(hup:b.up = true)(he:1≤m.epoch∧m.epoch≤300):BossOk (rp b m) p:=by
 unfold rp;split
 ·exact hv
 ·obtain⟨u1,u2,u3,u4,u5,u6,u7,u9,u11,u12,u13,u14⟩:=hv.up hup
  refine⟨hv.plan,hv.workers,hv.now,hv.code,fun _=>?_,fun e=>by rw[show b.up = false from e]at hup;cases hup⟩
  refine⟨u1,u2,u3,by show(b.jobs.map _).length = _;rw[List.length_map];exact u4,by show((b.seats.set _ _).length:Int) = _;rw[List.length_set];exact u5,u6,u7,u9,u11,yO (NO (Bu u12)),fun s hs=>?_,fun o ho=>by obtain⟨a1,a2,a3,a4⟩:=u14 o ho;exact⟨a1,a2,a3,a4⟩⟩
  rcases List.mem_or_eq_of_mem_set hs with hs|hs
  ·exact u13 s hs
  ·rw[hs];exact⟨by dsimp only;omega,by dsimp only;omega⟩
theorem Fv{b:Boss}{p:Plan}{m:Message}(hv:BossOk b p)(hup:b.up = true)(hl:1≤m.lease):BossOk (MG b m) p:=by
 obtain⟨u1,u2,u3,u4,u5,u6,u7,u9,u11,u12,u13,u14⟩:=hv.up hup
 refine⟨hv.plan,hv.workers,hv.now,hv.code,fun _=>?_,fun e=>by rw[show b.up = false from e]at hup;cases hup⟩
 exact⟨u1,u2,u3,by show(b.jobs.map _).length = _;rw[List.length_map];exact u4,u5,u6,u7,u9,u11,yO (NP hl (Bu u12)),u13,fun o ho=>by obtain⟨a1,a2,a3,a4⟩:=u14 o ho;exact⟨a1,a2,a3,a4⟩⟩
theorem EE{b:Boss}{p:Plan}{m:Message}(hv:BossOk b p)(hup:b.up = true)(ht:0≤m.task∧m.task < p.tasks.length)(hx:(m.text.size:Int) = 8):BossOk (pj b p.tasks m) p:=by
 unfold pj;split
 ·rename_i hp
  obtain⟨u1,u2,u3,u4,u5,u6,u7,u9,u11,u12,u13,u14⟩:=hv.up hup
  obtain⟨c1,c2,c3⟩:=hp
  have hne:¬m.text = emp:=fun q=>by rw[q]at hx;cases hx
  obtain⟨t,ht0⟩:=aj (xs:=p.tasks) (n:=m.task.toNat) OM
  rw[cF ht0]at c2
  have hc:(ar p (b.log.safe++b.log.loose)).code = 0:=hv.code
  have h3:=(ey hc).2
  have hpl:=(bM hv.plan).1
  have hok:Entry.ok ⟨2,b.epoch,m.task,m.text⟩:=⟨⟨u2,by show b.epoch≤300;rw[u1];exact h3⟩,⟨ht.1,by show m.task≤39;omega⟩,.inr ⟨rfl,hx⟩⟩
  have e:=BZ (p:=p) (xs:=b.log.safe++b.log.loose) (e:=⟨2,b.epoch,m.task,m.text⟩) hc (by rw[List.length_append];exact c3) hok (by show ¬(2:Int) = 1;omega) u1 ht0 ht.2 (by rw[←show b.results = (ar p (b.log.safe++b.log.loose)).results from u6];exact c1) (by rw[←show b.results = (ar p (b.log.safe++b.log.loose)).results from u6];exact c2)
  have es:bV (li b m) p = ⟨0,(bV b p).epoch,(bV b p).results.set m.task.toNat m.text⟩:=by
   show ar p (b.log.safe++ (b.log.loose++ [b9 _])) = _
   rw[←List.append_assoc,e];rfl
  refine⟨hv.plan,hv.workers,hv.now,by rw[es],fun _=>?_,fun e=>by rw[show b.up = false from e]at hup;cases hup⟩
  rw[es]
  refine⟨u1,u2,by show(b.results.set _ _).length = _;rw[List.length_set];exact u3,by show(b.jobs.set _ _).length = _;rw[List.length_set];exact u4,u5,by show b.results.set _ _ = _;rw[u6],u7,u9,u11,yO (PE (Bu u12) ht.1 OM OM hne),u13,fun o ho=>?_⟩
  obtain⟨a1,a2,a3,a4⟩:=u14 o ho
  refine⟨a1,a2,a3,fun q=>?_⟩
  change atS (b.results.set m.task.toNat m.text) o.task = emp at q
  by_cases e:o.task = m.task
  ·rw[e,tc ht.1 OM]at q;exact hne q
  ·rw[kA ht.1 a3.1 e]at q;exact a4 q
 ·exact hv
theorem EC{b:Boss}{p:Plan}{m:Message}(hv:BossOk b p)(hup:b.up = true)(hf:1≤m.frm∧m.frm≤b.workers)(hl:1≤m.lease∧m.lease≤300000000)(ht:0≤m.task∧m.task < p.tasks.length)(hx:(m.text.size:Int) = 8):BossOk (uM b m) p:=by
 unfold uM;split
 ·rename_i ho
  obtain⟨u1,u2,u3,u4,u5,u6,u7,u9,u11,u12,u13,u14⟩:=hv.up hup
  have hne:¬m.text = emp:=fun q=>by rw[q]at hx;cases hx
  have hr:=ho.room
  refine⟨hv.plan,hv.workers,hv.now,hv.code,fun _=>?_,fun e=>by rw[show b.up = false from e]at hup;cases hup⟩
  refine⟨u1,u2,u3,u4,u5,u6,u7,u9,by show(b.owed++ [_]).length≤2000;rw[List.length_append,List.length_singleton];omega,yO (show JL b.epoch b.now b.given b.workers b.results p.tasks b.jobs from Bu u12),u13,fun o ho2=>?_⟩
  rcases List.mem_append.1 ho2 with ho2|ho2
  ·obtain⟨a1,a2,a3,a4⟩:=u14 o ho2;exact⟨a1,a2,a3,a4⟩
  ·rw[List.mem_singleton.1 ho2]
   exact⟨hf,hl,⟨ht.1,by dsimp only;omega⟩,by show ¬atS b.results m.task = emp;rw[ho.same];exact hne⟩
 ·exact hv
theorem Gd{b:Boss}{ts:List Task}{m:Message}:(pj b ts m).up = b.up∧(pj b ts m).workers = b.workers:=by unfold pj;split <;> exact⟨rfl,rfl⟩
theorem Gc{b:Boss}{m:Message}:(vG b m).up = b.up∧(vG b m).workers = b.workers:=by
 unfold vG;split
 ·unfold kf;split <;> exact⟨rfl,rfl⟩
 ·exact⟨rfl,rfl⟩
theorem Er{b:Boss}{p:Plan}(m:Message)(hv:BossOk b p):BossOk (fK b p.tasks m) p:=by
 by_cases hf:ForB b m
 ·obtain⟨hkd,⟨f1,f2⟩,he⟩:=kR hf
  have hup:=hf.up
  rcases hkd with hk|hk|hk
  ·rw[kp hf hk]
   refine Fv hv hup ?_
   rcases hf.ok.2 with q|q|q|q|q
   ·have:=q.1;omega
   ·exact q.2.2.2.1.1
   ·have:=q.1;omega
   ·have:=q.1;omega
   ·have:=q.1;omega
  ·by_cases ht:m.task < p.tasks.length
   ·rw[mP hf hk ht]
    obtain⟨r1,⟨r2,_⟩,r4⟩:=A6 hf hk
    have v1:=EE hv hup ⟨r2,ht⟩ r4
    obtain⟨w1,w2⟩:=Gd (b:=b) (ts:=p.tasks) (m:=m)
    have v2:BossOk (vG (pj b p.tasks m) m) p:=by
     unfold vG;split
     ·exact E3 v1 (by rw[w1];exact hup) he
     ·exact v1
    obtain⟨w3,w4⟩:=Gc (b:=pj b p.tasks m) (m:=m)
    exact EC v2 (by rw[w3,w1];exact hup) ⟨f1,by rw[w4,w2];exact hf.frm⟩ r1 ⟨r2,ht⟩ r4
   ·rw[mQ hf hk ht];exact hv
  ·rw[ko hf hk];exact EZ hv hup he
 ·rw[xm hf];exact hv
end Go.K
end
section
open Go Go.Tm Go.Proofs
namespace Go.K
def bH(w:Worker)(ts:List Task)(m:Message):Prop:=m.kind = 1∧(∃ t,ts[m.task.toNat]? = some t∧m.inputs.length = t.deps.length)∧(w.state = 0∨w.lease < m.lease)
def bN(w:Worker)(m:Message):Prop:=m.kind = 4∧w.state = 2∧w.lease = m.lease
def kg(w:Worker)(m:Message):Prop:=w.up = true∧bw m∧m.to = w.number
def ix(ts:List Task)(k:Int):Int:=((ts[k.toNat]?).map Task.cost).getD 0
open Classical in
noncomputable def gB(w:Worker)(ts:List Task)(m:Message):Worker :=
 if kg w m then
  if bH w ts m then⟨w.number,w.epoch,true,1,m.lease,m.task,ix ts m.task,ix ts m.task,m.inputs,emp,0⟩
  else if bN w m then⟨w.number,w.epoch,w.up,0,0,0,0,0,[],emp,3⟩else w
 else w
theorem jM{w:Worker}{ts:List Task}{m:Message}(h:¬kg w m):gB w ts m = w:=if_neg h
theorem ld{w:Worker}{ts:List Task}{m:Message}(h:kg w m)(h1:bH w ts m):gB w ts m = ⟨w.number,w.epoch,true,1,m.lease,m.task,ix ts m.task,ix ts m.task,m.inputs,emp,0⟩:=by rw[gB,if_pos h,if_pos h1]
theorem mj{w:Worker}{ts:List Task}{m:Message}(h:kg w m)(h1:bN w m):gB w ts m = ⟨w.number,w.epoch,w.up,0,0,0,0,0,[],emp,3⟩:=by
 rw[gB,if_pos h,if_neg (fun q=>by have:=q.1;have:=h1.1;omega),if_pos h1]
theorem db{w:Worker}{ts:List Task}{m:Message}(h1:¬bH w ts m)(h2:¬bN w m):gB w ts m = w:=by
 by_cases h:kg w m
 ·rw[gB,if_pos h,if_neg h1,if_neg h2]
 ·exact jM h
theorem wm{ts:List Task}{k:Int}{t:Task}(h:ts[k.toNat]? = some t):ix ts k = t.cost:=by unfold ix;rw[h];rfl
noncomputable def tT(w:Worker)(p:Plan)(m:Message):Acted:=if aq w∧ai p.tasks = 0 then⟨gB w p.tasks m,[]⟩else vS
theorem dh{w:Worker}{p:Plan}{m:Message}(h:aq w)(h2:ai p.tasks = 0):tT w p m = ⟨gB w p.tasks m,[]⟩:=if_pos ⟨h,h2⟩
theorem o6(w:Worker)(p:Plan)(m:Message)(h:aq w)(hc:ai p.tasks = 0)(hm:m.inputs.length≤9223372036854775806):F oP [.val (aA w),.val (cB p),.val (dw m)] (aA (gB w p.tasks m)) [[],[],[]]:=by
 have cm:=bU m hm
 by_cases hup:w.up = true
 ·by_cases hok:bw m
  ·rw[decide_eq_true hok]at cm
   have hi:=(cG hok).1
   obtain⟨_,_,_,_,⟨r1,r2⟩,⟨r3,r4⟩⟩:=eA hok
   by_cases hto:m.to = w.number
   ·have hf:kg w m:=⟨hup,hok,hto⟩
    by_cases hk:m.kind = 1
    ·have nt:¬bN w m:=fun q=>by have:=q.1;omega
     by_cases ht:m.task < p.tasks.length
     ·obtain⟨t,ht2⟩:=aj (xs:=p.tasks) (n:=m.task.toNat) OM
      obtain⟨_,_,g3,_⟩:=bv hc ht2
      by_cases hd:m.inputs.length = t.deps.length
      ·by_cases hs:w.state = 0
       ·have ho:bH w p.tasks m:=⟨hk,⟨t,ht2,hd⟩,.inl hs⟩
        refine aP ?_
        conv=>whnf
        refine g 0 0 []<|J Zbv<|W.sq<|g 9 22 [BF,BF,.call VT [[]],BF,BF,BF,BF,BF,BF,BF,BF]<|J Zaf<|W.cn<|J (noT nO) fun _=>W.skip<|W.sq<|g 22 25 []<|J UB<|W.blk<|g 27 28 []<|J UB<|W.cn<|J (fun _=>(W.sq (gd 25 47 [[],[],[],[],[],[],[],[BF],[BF],[BF],[BF],[BF],[BF],[BF],[BF,.x (aB t)],[BF],[BF],[BF],[BF],[BF]] ?_))) (noF tO)
        conv=>whnf
        refine⟨Za5,by kernel_rfl,?_⟩
        refine W.cn<|J (noT SI) fun _=>W.skip<|g 47 58 [BT,BT,BT,BT,BT,BT]<|J ⟨I,I,I,I,tO,tO,tO,tO,tO,tO,I⟩<|W.cn<|J (fun _=>(g 58 66 [.x (aB t)]<|J Zcw (gd 7 80 [[],[],[],[],[],[],[],[],[],[],[],[],[.call (V.own [false] (List.map ak m.inputs)) [[]]],[],[]] ?_))) (noF rfl)
        conv=>whnf
        refine⟨⟨I,I,I,I,I,I,I,I,I,I,I,I,⟨UA,I,US,UA,dK _ OM⟩,I,UK,I⟩,by kernel_rfl,?_⟩
        refine RT ?_
        rw[ld hf ho,wm ht2]
        all_goals rfl
       ·by_cases hl:w.lease < m.lease
        ·have ho:bH w p.tasks m:=⟨hk,⟨t,ht2,hd⟩,.inr hl⟩
         refine aP ?_
         conv=>whnf
         refine g 0 0 []<|J Zbv<|W.sq<|g 9 22 [BF,BF,.call VT [[]],BF,BF,BF,BF,BF,BF,BF,BF]<|J Zaf<|W.cn<|J (noT nO) fun _=>W.skip<|W.sq<|g 22 25 []<|J UB<|W.blk<|g 27 28 []<|J UB<|W.cn<|J (fun _=>(W.sq (gd 25 47 [[],[],[],[],[],[],[],[BF],[BF],[BF],[BF],[BF],[BF],[BF],[BF,.x (aB t)],[BF],[BF],[BF],[BF],[BF]] ?_))) (noF tO)
         conv=>whnf
         refine⟨Za5,by kernel_rfl,?_⟩
         refine W.cn<|J (noT SI) fun _=>W.skip<|g 47 58 [BF,BF,BF,BF,BF,BF]<|J ⟨I,I,I,I,⟨dO,I⟩,⟨dO,I⟩,⟨dO,I⟩,⟨dO,I⟩,⟨dO,I⟩,dO,I⟩<|W.cn<|J (fun _=>(g 58 66 [.x (aB t)]<|J Zcw (gd 7 80 [[],[],[],[],[],[],[],[],[],[],[],[],[.call (V.own [false] (List.map ak m.inputs)) [[]]],[],[]] ?_))) (noF tO)
         conv=>whnf
         refine⟨⟨I,I,I,I,I,I,I,I,I,I,I,I,⟨UA,I,US,UA,dK _ OM⟩,I,UK,I⟩,by kernel_rfl,?_⟩
         refine RT ?_
         rw[ld hf ho,wm ht2]
         all_goals rfl
        ·have no:¬bH w p.tasks m:=fun q=>by have:=q.2.2;omega
         refine aP ?_
         conv=>whnf
         refine g 0 0 []<|J Zbv<|W.sq<|g 9 22 [BF,BF,.call VT [[]],BF,BF,BF,BF,BF,BF,BF,BF]<|J Zaf<|W.cn<|J (noT nO) fun _=>W.skip<|W.sq<|g 22 25 []<|J UB<|W.blk<|g 27 28 []<|J UB<|W.cn<|J (fun _=>(W.sq (gd 25 47 [[],[],[],[],[],[],[],[BF],[BF],[BF],[BF],[BF],[BF],[BF],[BF,.x (aB t)],[BF],[BF],[BF],[BF],[BF]] ?_))) (noF tO)
         conv=>whnf
         refine⟨Za5,by kernel_rfl,?_⟩
         refine W.cn<|J (noT SI) fun _=>W.skip<|g 47 58 [BF,BF,BF,BF,BF,BF]<|J ⟨I,I,I,I,⟨dO,I⟩,⟨dO,I⟩,⟨dO,I⟩,⟨dO,I⟩,⟨dO,I⟩,dO,I⟩<|W.cn<|J (noT dO) fun _=>W.skip<|g 0 6 []<|J Zea<|RT ?_
         rw[db no nt];all_goals rfl
      ·have no:¬bH w p.tasks m:=fun q=>by obtain⟨t2,h2,h3⟩:=q.2.1;rw[ht2]at h2;cases h2;exact hd h3
       refine aP ?_
       conv=>whnf
       refine g 0 0 []<|J Zbv<|W.sq<|g 9 22 [BF,BF,.call VT [[]],BF,BF,BF,BF,BF,BF,BF,BF]<|J Zaf<|W.cn<|J (noT nO) fun _=>W.skip<|W.sq<|g 22 25 []<|J UB<|W.blk<|g 27 28 []<|J UB<|W.cn<|J (fun _=>(W.sq (gd 25 47 [[],[],[],[],[],[],[],[BF],[BF],[BF],[BF],[BF],[BF],[BF],[BF,.x (aB t)],[BF],[BF],[BF],[BF],[BF]] ?_))) (noF tO)
       conv=>whnf
       refine⟨Za5,by kernel_rfl,?_⟩
       refine W.cn<|J (fun h1=>?_) fun h1=>?_
       replace h1:=ndt h1
       simp only[LM]at h1
       refine g 47 49 []<|J Zea<|RT ?_
       rotate_left
       replace h1:=ndf h1
       simp only[LM]at h1
       omega
       rw[db no nt];all_goals rfl
     ·have no:¬bH w p.tasks m:=fun q=>by obtain⟨t2,h2,h3⟩:=q.2.1;have:=(List.getElem?_eq_some_iff.1 h2).1;omega
      refine aP ?_
      conv=>whnf
      refine g 0 0 []<|J Zbv<|W.sq<|g 9 22 [BF,BF,.call VT [[]],BF,BF,BF,BF,BF,BF,BF,BF]<|J Zaf<|W.cn<|J (noT nO) fun _=>W.skip<|W.sq<|g 22 25 []<|J UB<|W.blk<|g 27 28 []<|J UB<|W.cn<|J (fun _=>(W.sq (gd 25 47 [[],[],[],[],[],[],[],[BT],[BT],[BT],[BT],[BT],[BT],[BT],[BT],[BT],[BT],[BT],[BT],[BT]] ?_))) (noF tO)
      conv=>whnf
      refine⟨⟨I,I,I,I,I,I,I,(by simp_all),(by simp_all),(by simp_all),(by simp_all),(by simp_all),(by simp_all),(by simp_all),(by simp_all),(by simp_all),(by simp_all),(by simp_all),(by simp_all),(by simp_all),I⟩,by kernel_rfl,?_⟩
      refine W.cn<|J (fun _=>(g 47 49 []<|J Zea (RT ?_))) (noF rfl)
      rw[db no nt];all_goals rfl
    ·have no:¬bH w p.tasks m:=fun q=>hk q.1
     by_cases hk4:m.kind = 4
     ·by_cases hs:w.state = 2
      ·by_cases hl:w.lease = m.lease
       ·have yt:bN w m:=⟨hk4,hs,hl⟩
        refine aP ?_
        conv=>whnf
        refine g 0 0 []<|J Zbv<|W.sq<|g 9 22 [BF,BF,.call VT [[]],BF,BF,BF,BF,BF,BF,BF,BF]<|J Zaf<|W.cn<|J (noT nO) fun _=>W.skip<|W.sq<|g 22 25 []<|J UB<|W.blk<|g 27 28 []<|J UB<|W.cn<|J (noT dO) fun _=>g 0 3 []<|J UB<|W.cn<|J (fun _=>?_) (noF tO)
        refine g 8 91 [BT,BT,BT,BT,BT,BT]<|J ⟨I,I,I,I,⟨tO,I⟩,⟨tO,I⟩,⟨tO,I⟩,⟨tO,I⟩,⟨tO,I⟩,tO,I⟩<|W.cn<|J (fun _=>(g 4 6 [.call (aA {number:=w.number,epoch:=w.epoch,up:=w.up,state:=0,lease:=0,task:=0,cost:=0,left:=0,inputs:=[],text:=emp,since:=3:Worker}) [[],[]]]<|J ⟨I,⟨UB,I,⟨UK,UA,I⟩,UA,gO _ _⟩,UK,I⟩ (RT ?_))) (noF tO)
        rw[mj hf yt]
        all_goals rfl
       ·have nt:¬bN w m:=fun q=>hl q.2.2
        refine aP ?_
        conv=>whnf
        refine g 0 0 []<|J Zbv<|W.sq<|g 9 22 [BF,BF,.call VT [[]],BF,BF,BF,BF,BF,BF,BF,BF]<|J Zaf<|W.cn<|J (noT nO) fun _=>W.skip<|W.sq<|g 22 25 []<|J UB<|W.blk<|g 27 28 []<|J UB<|W.cn<|J (noT dO) fun _=>g 0 3 []<|J UB<|W.cn<|J (fun _=>?_) (noF tO)
        refine g 8 91 [BT,BT,BT,BT,BT,BT]<|J ⟨I,I,I,I,⟨tO,I⟩,⟨tO,I⟩,⟨tO,I⟩,⟨tO,I⟩,⟨tO,I⟩,tO,I⟩<|W.cn<|J (noT dO) fun _=>W.skip<|g 3 6 []<|J Zea<|RT ?_
        rw[db no nt];all_goals rfl
      ·have nt:¬bN w m:=fun q=>hs q.2.1
       refine aP ?_
       conv=>whnf
       refine g 0 0 []<|J Zbv<|W.sq<|g 9 22 [BF,BF,.call VT [[]],BF,BF,BF,BF,BF,BF,BF,BF]<|J Zaf<|W.cn<|J (noT nO) fun _=>W.skip<|W.sq<|g 22 25 []<|J UB<|W.blk<|g 27 28 []<|J UB<|W.cn<|J (noT dO) fun _=>g 0 3 []<|J UB<|W.cn<|J (fun _=>?_) (noF tO)
       refine g 8 91 [BF,BF,BF,BF,BF,BF]<|J ⟨I,I,I,I,dO,dO,dO,dO,dO,dO,I⟩<|W.cn<|J (noT rfl) fun _=>W.skip<|g 3 6 []<|J Zea<|RT ?_
       rw[db no nt];all_goals rfl
     ·have nt:¬bN w m:=fun q=>hk4 q.1
      refine aP ?_
      conv=>whnf
      refine g 0 0 []<|J Zbv<|W.sq<|g 9 22 [BF,BF,.call VT [[]],BF,BF,BF,BF,BF,BF,BF,BF]<|J Zaf<|W.cn<|J (noT nO) fun _=>W.skip<|W.sq<|g 22 25 []<|J UB<|W.blk<|g 27 28 []<|J UB<|W.cn<|J (noT dO) fun _=>g 0 3 []<|J UB<|W.cn<|J (noT dO) fun _=>?_
      refine W.skip<|g 8 95 []<|J Zea<|RT ?_
      rw[db no nt];all_goals rfl
   ·have nf:¬kg w m:=fun q=>hto q.2.2
    refine aP ?_
    conv=>whnf
    refine g 0 0 []<|J Zbv<|W.sq<|g 9 22 [BF,BF,.call VT [[]],BF,BF,BF,BF,BF,BF,BF,BF]<|J Zaf<|W.cn<|J (fun _=>(g 22 24 []<|J Zea (RT ?_))) (noF (af OM))
    rw[jM nf];all_goals rfl
  ·rw[decide_eq_false hok]at cm
   have nf:¬kg w m:=fun q=>hok q.2.1
   refine aP ?_
   conv=>whnf
   refine g 0 0 []<|J Zbv<|W.sq<|g 9 22 [BF,BF,.call VF [[]],BF,BF,BT,BT,BT,BT,BT,BT]<|J ⟨I,I,I,I,Zdw,Zan,Zdw,nbF AS,I,rfl,rfl,rfl,rfl,rfl,rfl,I⟩<|W.cn<|J (fun _=>(g 22 24 []<|J Zea (RT ?_))) (noF rfl)
   rw[jM nf];all_goals rfl
 ·have nf:¬kg w m:=fun q=>hup q.1
  refine aP ?_
  conv=>whnf
  refine g 0 0 []<|J Zbv<|W.sq<|g 9 22 [BT,BT,BT,BT,BT,BT,BT,BT,BT,BT]<|J ⟨I,I,I,I,SI,SI,SI,SI,I,rfl,rfl,rfl,rfl,rfl,rfl,I⟩<|W.cn<|J (fun _=>(g 22 24 []<|J Zea (RT ?_))) (noF rfl)
  rw[jM nf];all_goals rfl
end Go.K
end
section
open Go Go.Tm Go.Proofs
namespace Go.K
theorem GK{w:Worker}{s:Int}(h1:1≤w.number∧w.number≤8)(h2:1≤w.epoch∧w.epoch≤300)(hs:0≤s∧s≤1000000)(u:Bool)(hu:u = true∨s = 0):aq ⟨w.number,w.epoch,u,0,0,0,0,0,[],emp,s⟩ :=
 ⟨h1,h2,hs,hu.imp id fun q=>⟨rfl,q⟩,.inl ⟨rfl,rfl,rfl,rfl,rfl,rfl,rfl⟩⟩
theorem Kz{w:Worker}(h:aq w):aq (lO w)∧(lO w).number = w.number:=by
 unfold lO;rw[if_pos h]
 exact⟨GK (w:=w) h.1 h.2.1 ⟨Int.le_refl _,by omega⟩ false (.inr rfl),rfl⟩
theorem JY{w:Worker}(h:aq w):aq (iY w)∧(iY w).number = w.number:=by
 unfold iY;rw[if_pos h]
 split
 ·exact⟨h,rfl⟩
 ·rename_i q
  have h2:=h.2.1
  have q2:¬300≤w.epoch:=fun e=>q (.inr e)
  exact⟨⟨h.1,⟨by show 1≤w.epoch+1;omega,by show w.epoch+1≤300;omega⟩,⟨by show(0:Int)≤3;omega,by show(3:Int)≤1000000;omega⟩,.inl rfl,.inl ⟨rfl,rfl,rfl,rfl,rfl,rfl,rfl⟩⟩,rfl⟩
theorem HI{w:Worker}(h:aq w):0≤aM w∧aM w≤1000000:=by
 have:=h.2.2.1
 unfold aM;split <;> omega
theorem ir{w:Worker}(h:aq w)(hup:w.up = true){s:Int}(hs:0≤s∧s≤1000000):aq (bT w s):=by
 obtain⟨h1,h2,h3,h4,h5⟩:=h
 exact⟨h1,h2,hs,.inl hup,h5⟩
theorem Kj{w:Worker}(h:aq w)(h1:w.state = 1)(h2:¬w.left - 1 = 0):aq (lm w):=by
 obtain⟨b1,b2,b3,b4,b5,b6⟩:=vQ h h1
 obtain⟨g1,g2,g3,g4,g5⟩:=h
 refine⟨g1,g2,g3,g4,.inr (.inl ⟨h1,b2,b3,⟨?_,?_⟩,b5,b6⟩)⟩
 ·show 1≤w.left - 1;omega
 ·show w.left - 1≤w.cost;omega
theorem JD(nm:ByteArray)(xs:List ByteArray):(bO nm xs).size = 8:=td nm xs
theorem KE{w:Worker}(ts:List Task)(h:aq w)(h1:w.state = 1)(h2:w.left - 1 = 0)(hup:w.up = true):aq (eU w ts):=by
 obtain⟨b1,b2,b3,b4,b5,b6⟩:=vQ h h1
 obtain⟨g1,g2,g3,g4,g5⟩:=h
 exact⟨g1,g2,⟨Int.le_refl _,by show(0:Int)≤1000000;omega⟩,.inl hup,.inr (.inr ⟨rfl,b2,rfl,h2,rfl,by show((bO _ _).size:Int) = 8;rw[JD];rfl⟩)⟩
theorem JI{w:Worker}(ts:List Task)(h:aq w):aq (dW w ts).worker∧(dW w ts).worker.number = w.number:=by
 have hs:=HI h
 have z:(0:Int)≤0∧(0:Int)≤1000000:=⟨Int.le_refl _,by omega⟩
 by_cases hup:w.up = false
 ·rw[sB hup];exact⟨h,rfl⟩
 have hup2:w.up = true:=by cases hb:w.up;exact absurd hb hup;rfl
 rcases wL h with h1|h1|h1
 ·by_cases h4:3≤aM w
  ·rw[kj hup h1 h4];exact⟨ir h hup2 z,rfl⟩
  ·rw[pg hup h1 h4];exact⟨ir h hup2 hs,rfl⟩
 ·by_cases h2:w.left - 1 = 0
  ·rw[km hup h1 h2];exact⟨KE ts h h1 h2 hup2,rfl⟩
  ·have hl:=Kj h h1 h2
   by_cases h4:4≤aM w
   ·rw[kn hup h1 h2 h4];exact⟨ir hl hup2 z,rfl⟩
   ·rw[sC hup h1 h2 h4];exact⟨ir hl hup2 hs,rfl⟩
 ·by_cases h4:4≤aM w
  ·rw[ki hup h1 h4];exact⟨ir h hup2 z,rfl⟩
  ·rw[pf hup h1 h4];exact⟨ir h hup2 hs,rfl⟩
theorem JO{w:Worker}{ts:List Task}(m:Message)(hc:ai ts = 0)(h:aq w):aq (gB w ts m)∧(gB w ts m).number = w.number:=by
 by_cases hf:kg w m
 ·by_cases ho:bH w ts m
  ·rw[ld hf ho]
   obtain⟨o1,⟨t,ht,ol⟩,o3⟩:=ho
   obtain⟨q1,q2⟩:=hf.2.1
   have hk:(1≤m.lease∧m.lease≤300000000)∧(0≤m.task∧m.task≤39)∧dH m.inputs:=by
    rcases q2 with q|q|q|q|q
    ·exact⟨q.2.2.2.1,q.2.2.2.2.1,q.2.2.2.2.2.2⟩
    ·have:=q.1;omega
    ·have:=q.1;omega
    ·have:=q.1;omega
    ·have:=q.1;omega
   have e:ix ts m.task = t.cost:=by unfold ix;rw[ht];rfl
   have hcst:=(bv hc ht).2.1
   obtain⟨g1,g2,g3,g4,g5⟩:=h
   exact⟨⟨g1,g2,⟨Int.le_refl _,by show(0:Int)≤1000000;omega⟩,.inl rfl,.inr (.inl ⟨rfl,⟨hk.1,hk.2.1⟩,by show 1≤ix ts m.task∧_;rw[e];exact hcst,⟨by show 1≤ix ts m.task;rw[e];omega,Int.le_refl _⟩,hk.2.2,rfl⟩)⟩,rfl⟩
  ·by_cases hth:bN w m
   ·rw[mj hf hth]
    exact⟨GK (w:=w) h.1 h.2.1 ⟨by omega,by omega⟩ w.up (.inl hf.1),rfl⟩
   ·rw[db ho hth];exact⟨h,rfl⟩
 ·rw[jM hf];exact⟨h,rfl⟩
end Go.K
end
section
open Go Go.Tm Go.Proofs
namespace Go.K
def oi(xs:List Parcel)(k:Int):List Parcel:=if xs.length≤2000∧0≤k∧k < xs.length∧xs.length < 2000 then xs++ (xs[k.toNat]?).toList else xs
theorem uH{xs:List Parcel}{k:Int}(h:¬(xs.length≤2000∧0≤k∧k < xs.length∧xs.length < 2000)):oi xs k = xs:=if_neg h
theorem Ho{xs:List Parcel}{m:Nat}{y:Parcel}(h:xs.length≤2000∧0≤(m:Int)∧(m:Int) < xs.length∧xs.length < 2000)(hy:xs[m]? = some y):xs.map bL++ [bL y] = (oi xs m).map bL:=by
 unfold oi
 rw[if_pos h,show((m:Int)).toNat = m from rfl,hy,List.map_append];rfl
theorem yB(xs:List Parcel)(k:Int)(hl:xs.length≤1048576):F xQ [.val (.t (zi xs)),.val (.i k)] (.own pkd ((oi xs k).map bL)) [[],[]]:=by
 by_cases h0:0≤k
 ·obtain⟨m,rfl⟩:=Int.eq_ofNat_of_zero_le h0
  refine od ?_
  conv=>whnf
  refine g 0 0 []<|J UA<|g 6 8 [.call (V.own pkd (List.map bL xs)) [[]]]<|J ⟨I,⟨UA,I,US,UA,cX _ OM⟩,I,I⟩<|W.sq ?_
  by_cases h1:List.length xs≤(2000:Nat)∧(0:Int)≤(↑m:Int)∧(↑m:Int) < (↑(List.length xs):Int)
  refine g 8 15 [.call (V.b (decide (xs.length≤2000∧0≤(m:Int)∧(m:Int) < (↑xs.length:Int)))) [[],[]],BT,BT,BT,BT]<|J ⟨I,I,⟨UB,I,UT,UA,cg _ _ OM⟩,I,⟨tO,I⟩,⟨tO,I⟩,⟨tO,I⟩,tO,I⟩<|W.cn<|J (fun h2=>?_) fun h2=>?_
  replace h2:=dt h2
  simp only[LM]at h2
  obtain⟨y1,hy1⟩:=aj (xs:=xs) (n:=m) OM
  refine rg [.x (bL y1)]<|J ⟨I,I,I,⟨AS,xA⟩,I,⟨UC,I⟩,Zde,I,I⟩<|g 5 24 []<|J UB<|RT ?_
  rotate_left
  replace h2:=df h2
  simp only[LM]at h2
  refine W.skip<|g 5 24 []<|J UB<|RT ?_
  rotate_left
  refine g 8 15 [.call (V.b (decide (xs.length≤2000∧0≤(m:Int)∧(m:Int) < (↑xs.length:Int)))) [[],[]],BF,BF,BF,BF]<|J ⟨I,I,⟨UB,I,UT,UA,cg _ _ OM⟩,I,dO,dO,dO,dO,I⟩<|W.cn<|J (noT rfl) fun _=>W.skip<|g 5 24 []<|J UB<|RT ?_
  rotate_left
  ·exact congrArg (V.own pkd) (Ho ⟨h1.1,h1.2.1,h1.2.2,by omega⟩ hy1)
  ·rw[uH OM]
  ·rw[uH OM]
 ·skip
  refine od ?_
  conv=>whnf
  refine g 0 0 []<|J UA<|g 6 8 [.call (V.own pkd (List.map bL xs)) [[]]]<|J ⟨I,⟨UA,I,US,UA,cX _ OM⟩,I,I⟩<|W.sq<|g 8 15 [.call (V.b (decide (xs.length≤2000∧0≤k∧k < (↑xs.length:Int)))) [[],[]],BF,BF,BF,BF]<|J ⟨I,I,⟨UB,I,UT,UA,cg _ _ OM⟩,I,dO,dO,dO,dO,I⟩<|W.cn<|J (noT rfl) fun _=>W.skip<|g 5 24 []<|J UB<|RT ?_
  rw[uH OM]
end Go.K
end
section
open Go Go.Tm Go.Proofs
namespace Go.K
def xorB(c:UInt8)(ma:Int):Int:=IntKind.u8.wrap (BitVec.ofInt IntKind.u8.bits (c.toNat:Int) ^^^ BitVec.ofInt IntKind.u8.bits (IntKind.u8.wrap (ma.tmod 256))).toNat
def N6(t:ByteArray)(q:Nat)(c:UInt8)(ma:Int):ByteArray:=⟨(bK ((bQ t).set q [.v (.int .u8 (xorB c ma))])).toArray⟩
def N7(p:Parcel)(pl ma:Int):Parcel:=match p.text[pl.toNat]? with
 |some c=>⟨p.kind,p.frm,N6 p.text pl.toNat c ma⟩
 |none=>p
def me(xs:List Parcel)(k pl ma:Int):List Parcel :=
 if(xs.length≤2000∧0≤k∧k < xs.length)∧0≤ma∧0≤pl then match xs[k.toNat]? with
  |some p=>xs.set k.toNat (N7 p pl ma)
  |none=>xs
 else xs
theorem oD{xs:List Parcel}{k pl ma:Int}(h:¬((xs.length≤2000∧0≤k∧k < xs.length)∧0≤ma∧0≤pl)):me xs k pl ma = xs:=if_neg h
theorem N8{s:ByteArray}{n:Nat}(h:s.size≤n):s[n]? = none:=getElem?_neg s n OM
theorem DV{xs:List Parcel}{m q:Nat}{ma:Int}{y:Parcel}(hy:xs[m]? = some y)(h:y.text.size≤q):me xs m q ma = xs:=by
 unfold me
 split
 ·rw[show((m:Int)).toNat = m from rfl,hy]
  simp only[N7,show((q:Int)).toNat = q from rfl,N8 h]
  apply List.ext_getElem?
  intro i
  rw[List.getElem?_set]
  split
  ·next e=>subst e;split
           ·exact hy.symm
           ·next h2=>rw[List.getElem?_eq_none OM]
  ·rfl
 ·rfl
theorem DU{xs:List Parcel}{m q:Nat}{ma:Int}{y:Parcel}{c:UInt8}(h:(xs.length≤2000∧0≤(m:Int)∧(m:Int) < xs.length)∧0≤ma∧0≤(q:Int))(hy:xs[m]? = some y)(hc:y.text[q]? = some c) :
 (xs.map bL).set m [T.v (.int .i64 y.kind),T.v (.string y.frm),T.v (.string (N6 y.text q c ma))] = (me xs m q ma).map bL:=by
 unfold me
 rw[if_pos h,show((m:Int)).toNat = m from rfl,hy]
 simp only[N7,show((q:Int)).toNat = q from rfl,hc]
 rw[List.map_set]
theorem CJ(xs:List Parcel)(k pl ma:Int)(hl:xs.length≤1048576)(hs:∀ p∈xs,p.text.size≤1048576):F Cf [.val (.t (zi xs)),.val (.i k),.val (.i pl),.val (.i ma)] (.own pkd ((me xs k pl ma).map bL)) [[],[],[],[]]:=by
 by_cases h0:0≤k
 ·obtain⟨m,rfl⟩:=Int.eq_ofNat_of_zero_le h0
  by_cases h8:0≤pl
  ·obtain⟨q,rfl⟩:=Int.eq_ofNat_of_zero_le h8
   refine mC ?_
   conv=>whnf
   refine g 0 0 []<|J UA<|g 11 13 [.call (V.own pkd (List.map bL xs)) [[]]]<|J ⟨I,⟨UA,I,US,UA,cX _ OM⟩,I,I⟩<|W.sq ?_
   by_cases h1:List.length xs≤(2000:Nat)∧(0:Int)≤(↑m:Int)∧(↑m:Int) < (↑(List.length xs):Int)
   obtain⟨y1,hy1⟩:=aj (xs:=xs) (n:=m) OM
   have hm1:=hs y1 (List.mem_of_getElem? hy1)
   by_cases h2:(0:Int)≤(↑q:Int)∧(↑q:Int)≤(↑(ByteArray.size (Parcel.text y1)):Int) - (1:Int)
   refine g 13 30 [.call (V.b (decide (xs.length≤2000∧0≤(m:Int)∧(m:Int) < (↑xs.length:Int)))) [[],[]],BT,BT,BT,BT,.n (m),BT,BT,.x (bL y1),BT,BT,.i ((↑(ByteArray.size y1.text):Int) - 1),BT,.call (V.b (decide (0≤(q:Int)∧(q:Int)≤(↑(ByteArray.size y1.text):Int) - 1))) [[],[],[]],BT,BT,BT,BT]<|J ⟨I,I,⟨UB,I,UT,UA,cg _ _ OM⟩,I,⟨tO,I⟩,⟨tO,I⟩,⟨tO,I⟩,⟨tO,rfl,LN⟩,⟨tO,I⟩,⟨tO,xA⟩,⟨tO,I⟩,⟨tO,wO⟩,⟨tO,UC,I,UU,UA,ac _ _ _⟩,tO,I,⟨tO,I⟩,⟨tO,I⟩,tO,I⟩<|W.cn<|J (fun h3=>?_) fun h3=>?_
   replace h3:=dt h3
   refine g 30 37 [.n (m),.x (bL y1)]<|J ⟨I,I,Zdf,I,xA,OM,I,I⟩ ?_
   obtain⟨y2,hy2,hb1⟩:=bb (s:=Parcel.text y1) (n:=q) OM
   refine g 37 42 [.n (q),.x ([T.v (Value.int IntKind.u8 (↑(UInt8.toNat y2):Int))]),.i (Int.tmod ma 256),.i (IntKind.wrap IntKind.u8 (Int.tmod ma 256)),.i (IntKind.wrap IntKind.u8 (↑(BitVec.toNat (BitVec.ofInt (IntKind.bits IntKind.u8) (↑(UInt8.toNat y2):Int) ^^^ BitVec.ofInt (IntKind.bits IntKind.u8) (IntKind.wrap IntKind.u8 (Int.tmod ma 256)))):Int)),.n (q),.x ([T.v (Value.int IntKind.u8 (↑(UInt8.toNat y2):Int))])]<|J ⟨I,I,Zdf,(lE AS),I,Zdo,rfl,rfl,Zdf,⟨UA,(lE AS)⟩,I⟩<|rg [.s ({data:=List.toArray (bK (List.set (bQ y1.text) q (dM [T.v (Value.int IntKind.u8 (↑(UInt8.toNat y2):Int))] 0 [T.v (Value.int IntKind.u8 (IntKind.wrap IntKind.u8 (↑(BitVec.toNat (BitVec.ofInt (IntKind.bits IntKind.u8) (↑(UInt8.toNat y2):Int) ^^^ BitVec.ofInt (IntKind.bits IntKind.u8) (IntKind.wrap IntKind.u8 (Int.tmod ma 256)))):Int)))]))):ByteArray}),.n (m),.x (bL y1)]<|J ⟨I,I,I,⟨I,zV (gX _),rfl⟩,Zdf,I,⟨UA,xA⟩,I⟩<|g 43 53 []<|J UB<|RT ?_
   rotate_left
   replace h3:=df h3
   refine W.skip<|g 0 4 []<|J UB<|RT ?_
   rotate_left
   refine g 13 30 [.call (V.b (decide (xs.length≤2000∧0≤(m:Int)∧(m:Int) < (↑xs.length:Int)))) [[],[]],BT,BT,BT,BT,.n (m),BT,BT,.x (bL y1),BT,BT,.i ((↑(ByteArray.size y1.text):Int) - 1),BT,.call (V.b (decide (0≤(q:Int)∧(q:Int)≤(↑(ByteArray.size y1.text):Int) - 1))) [[],[],[]],BT,BF,BF,BF]<|J ⟨I,I,⟨UB,I,UT,UA,cg _ _ OM⟩,I,⟨tO,I⟩,⟨tO,I⟩,⟨tO,I⟩,⟨tO,rfl,LN⟩,⟨tO,I⟩,⟨tO,xA⟩,⟨tO,I⟩,⟨tO,wO⟩,⟨tO,UC,I,UU,UA,ac _ _ _⟩,tO,I,dO,dO,dO,I⟩<|W.cn<|J (noT rfl) fun _=>W.skip<|g 0 4 []<|J UB<|RT ?_
   rotate_left
   refine g 13 30 [.call (V.b (decide (xs.length≤2000∧0≤(m:Int)∧(m:Int) < (↑xs.length:Int)))) [[],[]],BF,BF,BF,BF,BF,BF,BF,BF,BF,BF,BF,BF,BF]<|J ⟨I,I,⟨UB,I,UT,UA,cg _ _ OM⟩,I,dO,dO,dO,dO,dO,dO,dO,dO,dO,dO,I,rfl,rfl,rfl,I⟩<|W.cn<|J (noT rfl) fun _=>W.skip<|g 0 4 []<|J UB<|RT ?_
   rotate_left
   all_goals (first|rw[oD OM]|rw[DV AS OM]|exact congrArg (V.own pkd) (DU OM AS AS)|skip)
  ·skip
   refine mC ?_
   conv=>whnf
   refine g 0 0 []<|J UA<|g 11 13 [.call (V.own pkd (List.map bL xs)) [[]]]<|J ⟨I,⟨UA,I,US,UA,cX _ OM⟩,I,I⟩<|W.sq ?_
   by_cases h1:List.length xs≤(2000:Nat)∧(0:Int)≤(↑m:Int)∧(↑m:Int) < (↑(List.length xs):Int)
   obtain⟨y1,hy1⟩:=aj (xs:=xs) (n:=m) OM
   have hm1:=hs y1 (List.mem_of_getElem? hy1)
   refine g 13 30 [.call (V.b (decide (xs.length≤2000∧0≤(m:Int)∧(m:Int) < (↑xs.length:Int)))) [[],[]],BT,BT,BT,BT,.n (m),BT,BT,.x (bL y1),BT,BT,.i ((↑(ByteArray.size y1.text):Int) - 1),BT,.call (V.b (decide (0≤pl∧pl≤(↑(ByteArray.size y1.text):Int) - 1))) [[],[],[]],BT,BF,BF,BF]<|J ⟨I,I,⟨UB,I,UT,UA,cg _ _ OM⟩,I,⟨tO,I⟩,⟨tO,I⟩,⟨tO,I⟩,⟨tO,rfl,LN⟩,⟨tO,I⟩,⟨tO,xA⟩,⟨tO,I⟩,⟨tO,wO⟩,⟨tO,UC,I,UU,UA,ac _ _ _⟩,tO,I,dO,dO,dO,I⟩<|W.cn<|J (noT rfl) fun _=>W.skip<|g 0 4 []<|J UB<|RT ?_
   rotate_left
   refine g 13 30 [.call (V.b (decide (xs.length≤2000∧0≤(m:Int)∧(m:Int) < (↑xs.length:Int)))) [[],[]],BF,BF,BF,BF,BF,BF,BF,BF,BF,BF,BF,BF,BF]<|J ⟨I,I,⟨UB,I,UT,UA,cg _ _ OM⟩,I,dO,dO,dO,dO,dO,dO,dO,dO,dO,dO,I,rfl,rfl,rfl,I⟩<|W.cn<|J (noT rfl) fun _=>W.skip<|g 0 4 []<|J UB<|RT ?_
   rotate_left
   all_goals rw[oD OM]
 ·skip
  refine mC ?_
  conv=>whnf
  refine g 0 0 []<|J UA<|g 11 13 [.call (V.own pkd (List.map bL xs)) [[]]]<|J ⟨I,⟨UA,I,US,UA,cX _ OM⟩,I,I⟩<|W.sq<|g 13 30 [.call (V.b (decide (xs.length≤2000∧0≤k∧k < (↑xs.length:Int)))) [[],[]],BF,BF,BF,BF,BF,BF,BF,BF,BF,BF,BF,BF,BF]<|J ⟨I,I,⟨UB,I,UT,UA,cg _ _ OM⟩,I,dO,dO,dO,dO,dO,dO,dO,dO,dO,dO,I,rfl,rfl,rfl,I⟩<|W.cn<|J (noT rfl) fun _=>W.skip<|g 0 4 []<|J UB<|RT ?_
  all_goals rw[oD OM]
theorem KS(xs:List Parcel)(k pl ma:Int):(me xs k pl ma).length = xs.length:=by
 unfold me;split
 ·split
  ·rw[List.length_set]
  ·rfl
 ·rfl
end Go.K
end
section
open Go Go.Tm Go.Proofs
namespace Go.K
structure Event where
 kind:Int
 a:Int
 b:Int
 c:Int
 deriving DecidableEq
abbrev fF(x:Event):List T:=[.i x.kind,.i x.a,.i x.b,.i x.c]
abbrev FX(x:Event):V:=.agg [.t (.i x.kind),.t (.i x.a),.t (.i x.b),.t (.i x.c)]
abbrev lZ(x:Event):V:=.agg [.t (.i x.kind),.t (.i x.a),.t (.i x.b),.t (.i x.c)]
abbrev BC:List Bool:=[false,false,false,false]
abbrev NH:Event:=⟨0,0,0,0⟩
def gP(ws:List Worker)(k:Int):Worker:=(ws[k.toNat]?).getD kN
def Q7:Parcel:=⟨0,emp,emp⟩
def EO(xs:List Parcel)(k:Int):Parcel:=(xs[k.toNat]?).getD Q7
noncomputable def gE(p:Plan)(ws:List Worker)(n:Nat):List Message:=((ws.take n).map fun x=>(ed x p).out).flatten
noncomputable def eG(w:World):World :=
 if 1000000≤w.boss.now then w else
 ⟨w.plan,w.key,(nB w.boss w.plan).boss,w.workers.map (fun x=>(ed x w.plan).worker),pt w.flight ((nB w.boss w.plan).out++gE w.plan w.workers w.workers.length) w.key,w.forged⟩
def cz(w:World)(fl:List Parcel):World:=⟨w.plan,w.key,w.boss,w.workers,fl,w.forged⟩
def vg(w:World)(b:Boss):World:=⟨w.plan,w.key,b,w.workers,w.flight,w.forged⟩
def Bg(w:World)(k:Int)(x:Worker):World:=⟨w.plan,w.key,w.boss,w.workers.set (k - 1).toNat x,w.flight,w.forged⟩
open Classical in
noncomputable def IG(w:World)(s:Parcel):World:=⟨w.plan,w.key,w.boss,w.workers,w.flight,if ¬s.text = s.frm∧w.forged = emp then s.text else w.forged⟩
def jZ(w:World)(k:Int):Prop:=1≤k∧k≤w.workers.length
instance (w:World) (k:Int):Decidable (jZ w k):=by unfold jZ;infer_instance
noncomputable def bu(w:World)(s:Parcel):World :=
 match cR s.text w.key with
 |none=>w
 |some m =>
  if s.kind = 0 then vg (IG w s) (yP w.boss w.plan m).boss
  else if jZ w s.kind then Bg (IG w s) s.kind (tT (gP w.workers (s.kind - 1)) w.plan m).worker
  else IG w s
def Bx(w:World)(k:Int):Prop:=w.flight.length≤2000∧0≤k∧k < w.flight.length
instance (w:World) (k:Int):Decidable (Bx w k):=by unfold Bx;infer_instance
noncomputable def dc(w:World)(k:Int):World:=if Bx w k then bu (cz w (bD w.flight k)) (EO w.flight k)else w
noncomputable def doW(w:World)(e:Event):World :=
 if e.kind = 1 then eG w
 else if e.kind = 2 then dc w e.a
 else if e.kind = 3 then cz w (oi w.flight e.a)
 else if e.kind = 4 then cz w (bD w.flight e.a)
 else if e.kind = 5 then cz w (me w.flight e.a e.b e.c)
 else if e.kind = 6 then(if e.a = 0 then vg w (nD w.boss w.plan e.b)else if jZ w e.a then Bg w e.a (lO (gP w.workers (e.a - 1)))else w)
 else if e.kind = 7 then(if e.a = 0 then vg w (nC w.boss w.plan)else if jZ w e.a then Bg w e.a (iY (gP w.workers (e.a - 1)))else w)
 else w
theorem wC{w:World}{b:Boss}(h:WorldOk w)(hb:BossOk b w.plan)(hw:b.workers = w.boss.workers):WorldOk (vg w b):=⟨h.plan,h.key,h.wl,h.fl,h.crew,h.par,hb,by show b.workers = _;rw[hw];exact h.same⟩
theorem JC{w:World}{s:Parcel}(h:WorldOk w):WorldOk (IG w s):=⟨h.plan,h.key,h.wl,h.fl,h.crew,h.par,h.boss,h.same⟩
theorem fJ{w:World}{fl:List Parcel}(h:WorldOk w)(h1:fl.length≤2000)(h2:∀ x∈fl,ParOk x):WorldOk (cz w fl):=⟨h.plan,h.key,h.wl,h1,h.crew,h2,h.boss,h.same⟩
theorem il{w:World}{k:Int}(h:WorldOk w)(hk:jZ w k):∃ x,w.workers[(k - 1).toNat]? = some x∧gP w.workers (k - 1) = x∧aq x∧x.number = k:=by
 obtain⟨k1,k2⟩:=hk
 obtain⟨x,hx⟩:=aj (xs:=w.workers) (n:=(k - 1).toNat) OM
 have hc:=h.crew (k - 1).toNat x OM hx
 exact⟨x,hx,by unfold gP;rw[hx];rfl,hc.ok,by rw[hc.num];omega⟩
theorem wB{w:World}{k:Int}{x y:Worker}(h:WorldOk w)(hk:jZ w k)(hx:aq y)(hn:y.number = k):WorldOk (Bg w k y):=by
 refine⟨h.plan,h.key,by show 1≤(w.workers.set _ _).length∧_;rw[List.length_set];exact⟨h.wl.1,by show(w.workers.set _ _).length≤8;rw[List.length_set];exact h.wl.2⟩,h.fl,?_,h.par,h.boss,by show w.boss.workers = ((w.workers.set _ _).length:Int);rw[List.length_set];exact h.same⟩
 intro i z hi hz
 obtain⟨k1,k2⟩:=hk
 change (w.workers.set (k - 1).toNat y)[i]? = some z at hz
 by_cases e:i = (k - 1).toNat
 ·subst e
  rw[List.getElem?_set_self OM]at hz
  cases hz
  exact⟨hx,by rw[hn];omega⟩
 ·rw[List.getElem?_set_ne (fun q=>e q.symm)]at hz
  exact h.crew i z (by have:=(List.getElem?_eq_some_iff.1 hz).1;exact this) hz
theorem iR{xs:List Parcel}{k:Int}{x:Parcel}(h:x∈bD xs k):x∈xs:=by
 unfold bD at h;split at h
 ·rcases List.mem_append.1 h with h|h
  ·exact List.mem_of_mem_take h
  ·exact List.mem_of_mem_drop h
 ·exact h
theorem rV(xs:List Parcel)(k:Int):(bD xs k).length≤xs.length:=by
 unfold bD;split
 ·simp only[List.length_append,List.length_take,List.length_drop];omega
 ·exact Nat.le_refl _
theorem Hp{xs:List Parcel}{k:Int}{x:Parcel}(h:x∈oi xs k):x∈xs:=by
 unfold oi at h;split at h
 ·rcases List.mem_append.1 h with h|h
  ·exact h
  ·cases hy:xs[k.toNat]? with
   |none=>rw[hy]at h;cases h
   |some y =>
    rw[hy]at h
    rw[List.mem_singleton.1 h]
    exact List.mem_of_getElem? hy
 ·exact h
theorem PL{xs:List Parcel}{k:Int}(hx:xs.length≤2000):(oi xs k).length≤2000:=by
 unfold oi;split
 ·rename_i q
  rw[List.length_append]
  have:((xs[k.toNat]?).toList).length≤1:=by cases xs[k.toNat]? <;> simp
  omega
 ·exact hx
end Go.K
end
section
open Go Go.Tm Go.Proofs
namespace Go.K
theorem KP(t:ByteArray)(q:Nat)(c:UInt8)(ma:Int):(N6 t q c ma).size = t.size:=by
 unfold N6
 show((bK _).toArray).size = _
 simp[bK,ff]
theorem KQ{xs:List Parcel}{k pl ma:Int}{x:Parcel}(hx:∀ y∈xs,ParOk y)(h:x∈me xs k pl ma):ParOk x:=by
 unfold me at h;split at h
 ·cases hy:xs[k.toNat]? with
  |none=>rw[hy]at h;exact hx x h
  |some y =>
   rw[hy]at h
   rcases List.mem_or_eq_of_mem_set h with h|h
   ·exact hx x h
   ·have hp:=hx y (List.mem_of_getElem? hy)
    rw[h];unfold N7
    split
    ·exact⟨hp.to,hp.sent,by show(N6 _ _ _ _).size≤500;rw[KP];exact hp.bytes⟩
    ·exact hp
 ·exact hx x h
theorem tD{m:Message}{key:ByteArray}(h:bw m):(dz m key).size≤500:=by
 unfold dz;split
 ·obtain⟨h1,_,h3⟩:=cG h
  rw[ByteArray.size_append,vz,fg h];omega
 ·exact Nat.zero_le _
theorem J3{key:ByteArray}{acc:List Parcel}{m:Message}(h:acc.length≤2000∧∀ x∈acc,ParOk x):(lj key acc m).length≤2000∧∀ x∈lj key acc m,ParOk x:=by
 unfold lj;split
 ·rename_i q
  refine⟨by rw[List.length_append,List.length_singleton];omega,fun x hx=>?_⟩
  rcases List.mem_append.1 hx with hx|hx
  ·exact h.2 x hx
  ·rw[List.mem_singleton.1 hx]
   exact⟨(eA q.1).2.2.1,tD q.1,tD q.1⟩
 ·exact h
theorem Gq{key:ByteArray}:∀ (ms:List Message) {xs:List Parcel},(xs.length≤2000∧∀ x∈xs,ParOk x)→(ms.foldl (lj key) xs).length≤2000∧∀ x∈ms.foldl (lj key) xs,ParOk x
 |[],xs,h=>h
 |m :: ms,xs,h=>Gq ms (J3 h)
theorem J5{key:ByteArray}{ms:List Message}{xs:List Parcel}(h:xs.length≤2000∧∀ x∈xs,ParOk x):(pt xs ms key).length≤2000∧∀ x∈pt xs ms key,ParOk x:=Gq _ h
theorem Em(b:Boss)(ts:List Task):(eY b ts).boss.workers = b.workers:=by
 unfold eY;split
 ·rfl
 ·split
  ·rfl
  ·split <;> rfl
theorem Fd(b:Boss)(k:Int):(gD b k).workers = b.workers:=by unfold gD;split <;> rfl
theorem vB(b:Boss)(p:Plan):(bd b p).workers = b.workers:=by unfold bd;split <;> rfl
theorem HL(b:Boss)(m:Message):(uM b m).workers = b.workers:=by unfold uM;split <;> rfl
theorem BP(b:Boss)(ts:List Task)(m:Message):(fK b ts m).workers = b.workers:=by
 unfold fK;split
 ·split
  ·unfold rp;split <;> rfl
  ·split
   ·rfl
   ·split
    ·split
     ·rw[dA,HL,(Gc (b:=pj b ts m) (m:=m)).2,(Gd (b:=b) (ts:=ts) (m:=m)).2]
     ·rfl
    ·rfl
 ·rfl
theorem wG{w:World}(h:WorldOk w):WorldOk (eG w):=by
 unfold eG;split
 ·exact h
 ·rw[kT h.boss]
  have hp:=J5 (key:=w.key) (ms:=(eY w.boss w.plan.tasks).out++gE w.plan w.workers w.workers.length) ⟨h.fl,h.par⟩
  refine⟨h.plan,h.key,⟨by show 1≤(w.workers.map _).length;rw[List.length_map];exact h.wl.1,by show(w.workers.map _).length≤8;rw[List.length_map];exact h.wl.2⟩,hp.1,?_,hp.2,En h.boss,by show(eY w.boss w.plan.tasks).boss.workers = ((w.workers.map _).length:Int);rw[List.length_map,Em];exact h.same⟩
  intro i y hi hy
  change (w.workers.map _)[i]? = some y at hy
  rw[List.getElem?_map]at hy
  cases hx:w.workers[i]? with
  |none=>rw[hx]at hy;cases hy
  |some x =>
   rw[hx]at hy
   have hc:=h.crew i x (List.getElem?_eq_some_iff.1 hx).1 hx
   have e:=Option.some.inj hy
   dsimp only at e
   rw[cY hc.ok h.plan]at e
   have ht:=JI w.plan.tasks hc.ok
   rw[←e]
   exact⟨ht.1,by rw[ht.2];exact hc.num⟩
theorem sY{w:World}{s:Parcel}(h:WorldOk w):WorldOk (bu w s):=by
 unfold bu
 cases hm:cR s.text w.key with
 |none=>exact h
 |some m =>
  dsimp only
  have hg:=JC (s:=s) h
  split
  ·rw[kU h.boss]
   exact wC hg (Er m h.boss) (BP _ _ _)
  ·split
   ·rename_i hk
    obtain⟨x,hx,e,ok,num⟩:=il h hk
    rw[e,dh ok h.plan]
    have ht:=JO (ts:=w.plan.tasks) m h.plan ok
    exact wB (x:=x) hg hk ht.1 (by rw[ht.2];exact num)
   ·exact hg
theorem zR{w:World}(k:Int)(h:WorldOk w):WorldOk (dc w k):=by
 unfold dc;split
 ·exact sY (fJ h (by have:=rV w.flight k;have:=h.fl;omega) fun x hx=>h.par x (iR hx))
 ·exact h
theorem yn{w:World}(e:Event)(h:WorldOk w):WorldOk (doW w e):=by
 unfold doW
 split
 ·exact wG h
 split
 ·exact zR _ h
 split
 ·exact fJ h (PL h.fl) fun x hx=>h.par x (Hp hx)
 split
 ·exact fJ h (by have:=rV w.flight e.a;have:=h.fl;omega) fun x hx=>h.par x (iR hx)
 split
 ·exact fJ h (by rw[KS];exact h.fl) fun x hx=>KQ h.par hx
 split
 ·split
  ·rw[na h.boss];exact wC h (pF _ h.boss) (Fd _ _)
  ·split
   ·rename_i hk
    obtain⟨x,hx,e,ok,num⟩:=il h hk
    rw[e]
    have ht:=Kz ok
    exact wB (x:=x) h hk ht.1 (by rw[ht.2];exact num)
   ·exact h
 split
 ·split
  ·rw[kV h.boss];exact wC h (vC h.boss) (vB _ _)
  ·split
   ·rename_i hk
    obtain⟨x,hx,e,ok,num⟩:=il h hk
    rw[e]
    have ht:=JY ok
    exact wB (x:=x) h hk ht.1 (by rw[ht.2];exact num)
   ·exact h
 ·exact h
end Go.K
end
section
open Go Go.Tm Go.Proofs
namespace Go.K
theorem mO{w:World}(h:1000000≤w.boss.now):eG w = w:=if_pos h
noncomputable def wDo(w:World)(e:Event):World:=if WorldOk w then doW w e else noWorld
end Go.K
end
section
open Go Go.Tm Go.Proofs
namespace Go.K
structure Keeps (b c:Boss):Prop where
 up:c.up = b.up
 res:c.results = b.results
end Go.K
end
section
open Go Go.Tm Go.Proofs
namespace Go.K
def uA(n:Nat)(a:Acted):Prop:=a.worker.inputs.length≤n∧(a.out = []∨∃ m,a.out = [m]∧m.inputs = [])
theorem ph{n:Nat}{w:Worker}{k:Int}(h:w.inputs.length≤n):uA n (tU w k):=⟨h,.inr ⟨_,rfl,rfl⟩⟩
theorem eZ{n:Nat}{w:Worker}(h:w.inputs.length≤n):uA n ⟨w,[]⟩:=⟨h,.inl rfl⟩
theorem Eo(w:Worker)(ts:List Task):uA w.inputs.length (dW w ts):=by
 unfold dW
 split
 ·exact eZ (Nat.le_refl _)
 split
 ·split
  ·exact⟨Nat.zero_le _,.inr ⟨_,rfl,rfl⟩⟩
  ·split
   ·exact ph (Nat.le_refl _)
   ·exact eZ (Nat.le_refl _)
 split
 ·split
  ·exact ph (Nat.le_refl _)
  ·exact eZ (Nat.le_refl _)
 ·split
  ·exact ph (Nat.le_refl _)
  ·exact eZ (Nat.le_refl _)
theorem BN(w:Worker)(p:Plan):uA w.inputs.length (ed w p):=by
 unfold ed;split
 ·exact Eo _ _
 ·exact eZ (Nat.zero_le _)
end Go.K
end
section
open Go Go.Tm Go.Proofs
namespace Go.K
theorem PN{p:Plan}(h:ai p.tasks = 0):cL p:=FP (gu (nk h))
theorem EF{s:ByteArray}{e:Entry}(h:dn s = some e):s.size≤12:=by
 have e1:=E5 e
 rw[lh h]at e1
 have hok:=fk h
 rcases hok.2.2 with⟨_,_,h3⟩|⟨_,h3⟩
 ·have:e.text.size = 0:=by rw[h3];rfl
  omega
 ·omega
theorem Et{p:Plan}{xs:List ByteArray}(h:(ar p xs).code = 0):∀ s∈xs,s.size≤12:=fun s hs=>by
 obtain⟨e,he,_⟩:=(sE h).fwd s hs
 exact EF he
theorem PB{b:Boss}{p:Plan}(h:BossOk b p):BossLim b:=by
 have hc:=h.code
 have hl:=(ci hc).2.1
 have hs:=Et hc
 have hp:=(bM h.plan).1
 rw[List.length_append]at hl
 have hw:=h.workers
 cases hb:b.up with
 |true =>
  obtain⟨u1,u2,u3,u4,u5,u6,u7,u8,u9,u10,u11,u12⟩:=h.up hb
  exact⟨by omega,by omega,fun s q=>by have:=hs s q;omega,by omega,by omega,by omega,by omega⟩
 |false =>
  obtain⟨d1,d2,d3,d4,d5,d6,d7,d8⟩:=h.down hb
  exact⟨by omega,by omega,fun s q=>by have:=hs s q;omega,by omega,by omega,by omega,by omega⟩
theorem Ie{l:List ByteArray}(h:dH l):l.length≤8:=h.2
theorem Eh{x:Worker}(h:aq x):x.inputs.length≤8:=by
 obtain⟨_,_,_,_,h|h|h⟩:=h
 ·obtain⟨_,_,_,_,_,h,_⟩:=h;omega
 ·obtain⟨_,_,_,_,h,_⟩:=h;exact Ie h
 ·obtain⟨_,_,_,_,h,_⟩:=h;omega
structure DoLim (w:World):Prop where
 plan:cL w.plan
 small:cS w.plan
 boss:BossLim w.boss
 wl:w.workers.length≤8
 wi:∀ x∈w.workers,x.inputs.length≤8
 fl:w.flight.length≤2000
 par:∀ x∈w.flight,ParOk x
 key:w.key.size≤30
theorem fM{w:World}(h:WorldOk w):DoLim w:=by
 refine⟨PN h.plan,nk h.plan,PB h.boss,h.wl.2,fun x hx=>?_,h.fl,h.par,h.key⟩
 obtain⟨n,hn⟩:=List.getElem?_of_mem hx
 exact Eh (h.crew n x (List.getElem?_eq_some_iff.1 hn).1 hn).ok
theorem jd{w:World}(h:DoLim w):WorldLim w:=by
 have h1:=h.key
 have h2:=h.wl
 have h3:=h.fl
 exact⟨h.plan,h.boss,by omega,by omega,fun x hx=>by have:=h.wi x hx;omega,by omega,fun x hx=>by have a:=(h.par x hx).sent;have b:=(h.par x hx).bytes;exact⟨by omega,by omega⟩⟩
theorem wx(p:Plan)(ws:List Worker):gE p ws 0 = []:=rfl
theorem wy{p:Plan}{ws:List Worker}{n:Nat}{x:Worker}(h:ws[n]? = some x):gE p ws n++ (ed x p).out = gE p ws (n+1):=by
 unfold gE;rw[List.take_add_one,h];simp
theorem nc(x:Worker)(p:Plan):(ed x p).out.length≤1∧∀ m∈(ed x p).out,m.inputs = []:=by
 rcases(BN x p).2 with e|⟨m,e,e2⟩
 ·rw[e];exact⟨Nat.zero_le _,fun m hm=>by cases hm⟩
 ·rw[e];exact⟨Nat.le_refl _,fun y hy=>by rw[List.mem_singleton.1 hy];exact e2⟩
theorem GP{α:Type}:∀ {xs:List (List α)},(∀ x∈xs,x.length≤1)→xs.flatten.length≤xs.length
 |[],_=>Nat.le_refl _
 |x :: xs,h=>by
  have h1:=h x (List.mem_cons_self ..)
  have h2:=GP fun y hy=>h y (List.mem_cons_of_mem x hy)
  simp only[List.flatten_cons,List.length_append,List.length_cons];omega
theorem DY(p:Plan)(ws:List Worker)(n:Nat):(gE p ws n).length≤ws.length:=by
 have h:=GP (xs:=(ws.take n).map fun x=>(ed x p).out) (fun y hy=>by obtain⟨x,_,rfl⟩:=List.mem_map.1 hy;exact(nc x p).1)
 have:((ws.take n).map fun x=>(ed x p).out).length≤ws.length:=by rw[List.length_map,List.length_take];omega
 exact Nat.le_trans h this
theorem DZ{p:Plan}{ws:List Worker}{n:Nat}{m:Message}(h:m∈gE p ws n):m.inputs = []:=by
 obtain⟨l,hl,hm⟩:=List.mem_flatten.1 h
 obtain⟨x,_,rfl⟩:=List.mem_map.1 hl
 exact(nc x p).2 m hm
theorem zQ(b:Boss)(p:Plan):(nB b p).out.length≤2040:=by
 by_cases hv:BossOk b p
 ·rw[kT hv]
  by_cases h0:b.now = 1000000
  ·rw[kF h0];exact Nat.zero_le _
  by_cases hup:b.up = false
  ·rw[nJ h0 hup];exact Nat.zero_le _
  have hup2:b.up = true:=by cases hb:b.up;exact absurd hb hup;rfl
  obtain⟨u1,u2,u3,u4,u5,u6,⟨u7,u8⟩,⟨u9,u10⟩,u11,u12,u13,u14⟩:=hv.up hup2
  have hpl:=(bM hv.plan).1
  have hdl:∀ t∈p.tasks,t.deps.length≤8:=fun t ht=>by
   obtain⟨k,hk⟩:=List.getElem?_of_mem ht
   exact(bv hv.plan hk).2.2.1
  obtain⟨k1,k2,k3,k4,k5,k6⟩:=j5 (b:=cI b) (ts:=p.tasks) hdl u9 u10 p.tasks.length
  have j3:(endH b p.tasks).out.length≤40:=by show(aC _ _ _).out.length≤_;omega
  by_cases hs:b.since+1 = 2
  ·rw[fX h0 hup hs]
   simp only[List.length_append,List.length_map];omega
  ·rw[io h0 hup hs]
   show(endH b p.tasks).out.length≤_;omega
 ·rw[w9 hv];exact Nat.zero_le _
theorem AN{w:World}(h:¬1000000≤w.boss.now):eG w = ⟨w.plan,w.key,(nB w.boss w.plan).boss,w.workers.map (fun x=>(ed x w.plan).worker),pt w.flight ((nB w.boss w.plan).out++gE w.plan w.workers w.workers.length) w.key,w.forged⟩:=if_neg h
open Classical in
noncomputable def uO(w:World)(s:Parcel):ByteArray:=if ¬s.text = s.frm∧w.forged = emp then s.text else w.forged
theorem A5{w:World}{s:Parcel}(h1:¬s.text = s.frm)(h2:w.forged = emp):uO w s = s.text:=if_pos ⟨h1,h2⟩
theorem DG{w:World}{s:Parcel}(h1:s.text = s.frm):uO w s = w.forged:=if_neg fun q=>q.1 h1
theorem wQ{w:World}{s:Parcel}(h2:¬w.forged = emp):uO w s = w.forged:=if_neg fun q=>h2 q.2
theorem sW{w:World}{k:Int}{s:Parcel}(ha:w.flight.length≤2000∧0≤k∧k < w.flight.length)(hs:w.flight[k.toNat]? = some s):dc w k = bu (cz w (bD w.flight k)) s:=by
 have e:EO w.flight k = s:=by unfold EO;rw[hs];rfl
 rw[dc,if_pos (show Bx w k from ha),e]
theorem xa{w:World}{k:Int}(ha:¬(w.flight.length≤2000∧0≤k∧k < w.flight.length)):dc w k = w:=if_neg ha
theorem sX{w:World}{s:Parcel}(hm:cR s.text w.key = none):bu w s = w:=by unfold bu;rw[hm]
theorem mL{w:World}{s:Parcel}{m:Message}(hm:cR s.text w.key = some m)(h0:s.kind = 0):bu w s = ⟨w.plan,w.key,(yP w.boss w.plan m).boss,w.workers,w.flight,uO w s⟩:=by unfold bu;rw[hm];dsimp only;rw[if_pos h0];rfl
theorem mK{w:World}{s:Parcel}{m:Message}{x:Worker}(hm:cR s.text w.key = some m)(h0:¬s.kind = 0)(hx:jZ w s.kind)(hw:w.workers[(s.kind - 1).toNat]? = some x):bu w s = ⟨w.plan,w.key,w.boss,w.workers.set (s.kind - 1).toNat (tT x w.plan m).worker,w.flight,uO w s⟩:=by
 have e:gP w.workers (s.kind - 1) = x:=by unfold gP;rw[hw];rfl
 unfold bu;rw[hm];dsimp only;rw[if_neg h0,if_pos hx,e];rfl
theorem pK{w:World}{s:Parcel}{m:Message}(hm:cR s.text w.key = some m)(h0:¬s.kind = 0)(hx:¬jZ w s.kind):bu w s = ⟨w.plan,w.key,w.boss,w.workers,w.flight,uO w s⟩:=by
 unfold bu;rw[hm];dsimp only;rw[if_neg h0,if_neg hx];rfl
theorem Qv{w:World}{e:Event}(h:e.kind = 1):doW w e = eG w:=by rw[doW,if_pos h]
theorem Qu{w:World}{e:Event}(h:e.kind = 2):doW w e = dc w e.a:=by rw[doW,if_neg OM,if_pos h]
theorem Qt{w:World}{e:Event}(h:e.kind = 3):doW w e = ⟨w.plan,w.key,w.boss,w.workers,oi w.flight e.a,w.forged⟩:=by rw[doW,if_neg OM,if_neg OM,if_pos h];rfl
theorem Qs{w:World}{e:Event}(h:e.kind = 4):doW w e = ⟨w.plan,w.key,w.boss,w.workers,bD w.flight e.a,w.forged⟩:=by rw[doW,if_neg OM,if_neg OM,if_neg OM,if_pos h];rfl
theorem Qr{w:World}{e:Event}(h:e.kind = 5):doW w e = ⟨w.plan,w.key,w.boss,w.workers,me w.flight e.a e.b e.c,w.forged⟩:=by rw[doW,if_neg OM,if_neg OM,if_neg OM,if_neg OM,if_pos h];rfl
theorem Qq{w:World}{e:Event}(h:e.kind = 6):doW w e = if e.a = 0 then vg w (nD w.boss w.plan e.b)else if jZ w e.a then Bg w e.a (lO (gP w.workers (e.a - 1)))else w:=by rw[doW,if_neg OM,if_neg OM,if_neg OM,if_neg OM,if_neg OM,if_pos h]
theorem Qp{w:World}{e:Event}(h:e.kind = 7):doW w e = if e.a = 0 then vg w (nC w.boss w.plan)else if jZ w e.a then Bg w e.a (iY (gP w.workers (e.a - 1)))else w:=by rw[doW,if_neg OM,if_neg OM,if_neg OM,if_neg OM,if_neg OM,if_neg OM,if_pos h]
theorem ME{w:World}{e:Event}(h:e.kind = 6)(h0:e.a = 0):doW w e = ⟨w.plan,w.key,nD w.boss w.plan e.b,w.workers,w.flight,w.forged⟩:=by rw[Qq h,if_pos h0];rfl
theorem MB{w:World}{e:Event}(h:e.kind = 7)(h0:e.a = 0):doW w e = ⟨w.plan,w.key,nC w.boss w.plan,w.workers,w.flight,w.forged⟩:=by rw[Qp h,if_pos h0];rfl
theorem MC{w:World}{e:Event}{x:Worker}(h:e.kind = 6)(hx:jZ w e.a)(hw:w.workers[(e.a - 1).toNat]? = some x):doW w e = ⟨w.plan,w.key,w.boss,w.workers.set (e.a - 1).toNat (lO x),w.flight,w.forged⟩:=by
 have e1:gP w.workers (e.a - 1) = x:=by unfold gP;rw[hw];rfl
 rw[Qq h,if_neg (by have:=hx.1;omega),if_pos hx,e1];rfl
theorem Mz{w:World}{e:Event}{x:Worker}(h:e.kind = 7)(hx:jZ w e.a)(hw:w.workers[(e.a - 1).toNat]? = some x):doW w e = ⟨w.plan,w.key,w.boss,w.workers.set (e.a - 1).toNat (iY x),w.flight,w.forged⟩:=by
 have e1:gP w.workers (e.a - 1) = x:=by unfold gP;rw[hw];rfl
 rw[Qp h,if_neg (by have:=hx.1;omega),if_pos hx,e1];rfl
theorem MD{w:World}{e:Event}(h:e.kind = 6)(h0:¬e.a = 0)(hx:¬jZ w e.a):doW w e = w:=by rw[Qq h,if_neg h0,if_neg hx]
theorem MA{w:World}{e:Event}(h:e.kind = 7)(h0:¬e.a = 0)(hx:¬jZ w e.a):doW w e = w:=by rw[Qp h,if_neg h0,if_neg hx]
abbrev Bf(p:Plan)(key:ByteArray)(b:Boss)(ws:List (List T))(fl:List Parcel)(f:ByteArray):V:=.agg [.own dX (p.tasks.map aB),.t (.s key),.t (.i b.workers),.t (.b b.up),.t (.i b.now),.t (.i b.since),.t (.i b.epoch),.t (.i b.given),.own [false] (b.log.safe.map ak),.own [false] (b.log.loose.map ak),.own [false] (b.results.map ak),.own fD (b.jobs.map aW),.own cT (b.seats.map aS),.own cU (b.owed.map bi),.own eB ws,.own pkd (fl.map bL),.t (.s f)]
theorem iP{xs:List Worker}{n:Nat}{x:Worker}:(xs.map av).set n (av x) = (xs.set n x).map av:=by rw[←List.map_set]
theorem ik(p:Plan)(key:ByteArray)(b:Boss)(ws:List Worker)(n:Nat)(y:Worker)(fl:List Parcel)(f:ByteArray):Bf p key b ((ws.map av).set n (av y)) fl f = aD ⟨p,key,b,ws.set n y,fl,f⟩:=by
 show Bf p key b _ fl f = Bf p key b ((ws.set n y).map av) fl f
 rw[iP]
theorem iz(p:Plan)(key:ByteArray)(b:Boss)(ws:List Worker)(n:Nat)(y:Worker)(fl:List Parcel)(f:ByteArray)(os:List (List V)):cellsOf (Bf p key b ((ws.map av).set n (av y)) fl f) :: os = cellsOf (aD ⟨p,key,b,ws.set n y,fl,f⟩) :: os:=by rw[ik]
end Go.K
end
section
open Go Go.Tm Go.Proofs
namespace Go.K
theorem rd{b:Boss}{m:Message}(h:Owes b m):uM b m = ⟨b.workers,b.up,b.now,b.since,b.epoch,b.given,b.log,b.results,b.jobs,b.seats,b.owed++ [⟨m.frm,m.lease,m.task⟩]⟩:=if_pos h
theorem fQ{b:Boss}{m:Message}(h:¬Owes b m):uM b m = b:=if_neg h
theorem Mm{rs:List ByteArray}{k:Int}{v:ByteArray}(h:k.toNat < rs.length):atS (rs.set k.toNat v) k = v:=by
 unfold atS;rw[List.getElem?_set_self h];rfl
theorem Gl{b:Boss}{ts:List Task}{m:Message}(h:CanPut b ts m)(hk:m.task.toNat < b.results.length)(ht:¬m.text = emp):dA b ts m = uM (li b m) m:=by
 have e1:pj b ts m = li b m:=if_pos h
 have e2:vG (li b m) m = li b m:=if_neg (by rw[show(li b m).results = b.results.set m.task.toNat m.text from rfl,Mm hk];exact ht)
 rw[dA,e1,e2]
theorem Gm{b:Boss}{ts:List Task}{m:Message}(h:¬CanPut b ts m)(hy:atS b.results m.task = emp)(ht:¬m.text = emp):dA b ts m = kf b m:=by
 have e1:pj b ts m = b:=if_neg h
 have e2:vG b m = kf b m:=if_pos hy
 have e3:(kf b m).results = b.results:=by unfold kf;split <;> rfl
 rw[dA,e1,e2,fQ]
 intro q
 have:=q.same
 rw[e3,hy]at this
 exact ht this.symm
theorem Da{b:Boss}{ts:List Task}{m:Message}(hy:¬atS b.results m.task = emp):dA b ts m = uM b m:=by
 have e1:pj b ts m = b:=if_neg fun q=>hy q.res
 have e2:vG b m = b:=if_neg hy
 rw[dA,e1,e2]
theorem Dh{b:Boss}{ts:List Task}{m:Message}(hk:m.task.toNat < b.results.length)(h1:b.owed.length < 2000)(h2:∀ o∈b.owed,¬(o.worker = m.frm∧o.lease = m.lease)):Owes (li b m) m:=⟨Mm hk,h1,h2⟩
theorem rj{xs:List Owed}{m:Message}{n:Nat}{o:Owed}(h:xs[n]? = some o)(ho:o.worker = m.frm∧o.lease = m.lease):¬∀ o∈xs,¬(o.worker = m.frm∧o.lease = m.lease):=fun q=>q o (List.mem_of_getElem? h) ho
theorem rq{b:Boss}{m:Message}(h:qC b m):kf b m = b:=if_pos h
theorem kP{b:Boss}{m:Message}(h:¬qC b m):kf b m = ⟨b.workers,b.up,b.now,b.since,b.epoch,b.given,b.log,b.results,b.jobs,b.seats.set (fa m) ⟨true,m.epoch⟩,b.owed⟩:=if_neg h
theorem DE{b:Boss}{m:Message}(h:qC b m):rp b m = b:=if_pos h
theorem DF{b:Boss}{m:Message}(h:¬qC b m):rp b m = ⟨b.workers,b.up,b.now,b.since,b.epoch,b.given,b.log,b.results,b.jobs.map (ly m.frm),b.seats.set (fa m) ⟨true,m.epoch⟩,b.owed⟩:=if_neg h
theorem Bq{b:Boss}{m:Message}{x:Seat}(h:b.seats[fa m]? = some x):qC b m↔m.epoch < x.epoch:=by unfold qC;rw[kH,h];exact Iff.rfl
structure ResIn (b:Boss) (ts:List Task) (m:Message):Prop where
 chk:ai ts = 0
 res:b.results.length = ts.length
 jobs:b.jobs.length = ts.length
 task:0≤m.task∧m.task < ts.length
 safe:b.log.safe.length≤1048576
 loose:b.log.loose.length≤1048576
 owed:b.owed.length≤1048576
 seats:b.seats.length≤8
 frm:1≤m.frm∧m.frm≤b.seats.length
 text:(m.text.size:Int) = 8
theorem o8(b:Boss)(p:Plan)(m:Message)(h:ResIn b p.tasks m):F oV [.ptr (cellsOf (aG b)),.val (cB p),.val (dw m),.rel 0 (some (10,fa m,2)) 0] (.tup []) [cellsOf (aG (dA b p.tasks m)),[],[],[]]:=by
 obtain⟨hck,u3,u4,⟨t1,t2⟩,l1,l2,l3,l4,⟨f1,f2⟩,tx⟩:=h
 have hpl:=(bM hck).1
 have hsi:fa m < b.seats.length:=by unfold fa;omega
 have hkr:m.task.toNat < b.results.length:=by omega
 have hte:¬m.text = emp:=fun q=>by rw[q]at tx;cases tx
 obtain⟨x,hx⟩:=aj hsi
 have hold:=Bq hx
 obtain⟨t,ht0⟩:=aj (xs:=p.tasks) (n:=m.task.toNat) OM
 obtain⟨y,hy0⟩:=aj (xs:=b.results) (n:=m.task.toNat) OM
 obtain⟨j,hj0⟩:=aj (xs:=b.jobs) (n:=m.task.toNat) OM
 have hya:=kc hy0
 obtain⟨_,_,a3,a4⟩:=bv hck ht0
 have crd:=gV b.results t.deps (fun d hd=>by have:=a4 d hd;omega) OM
 have cf:=j9 2 b.epoch m.task m.text OM
 rw[GM]at cf
 by_cases hA:y = emp
 ·by_cases hP:CanPut b p.tasks m
  ·have hF:ca b.results t.deps:=by have:=hP.ready;rw[cF ht0]at this;exact this
   have hR:=hP.room
   rw[decide_eq_true hF]at crd
   rw[Gl hP hkr hte]
   by_cases hO:b.owed.length < 2000
   ·refine bg ?_
    conv=>whnf
    refine g 0 0 []<|J Zd4<|g 11 13 []<|J UC<|W.sq<|gd 13 49 [[],[],[],[],[],[.n (Int.toNat m.task)],[.x (ak y)],[],[],[BT],[BT],[BT],[BT],[BT],[BT],[BT],[BT,.x (aB t)],[BT],[BT],[BT,.call VT [[],[]]],[BT],[],[BT],[BT],[BT],[BT],[BT],[BT],[BT],[BT],[BT],[BT],[BT],[BT],[BT,.i ((↑(List.length (List.map ak b.log.safe)):Int) + (↑(List.length (List.map ak b.log.loose)):Int))],[BT],[BT]] ?_
    conv=>whnf
    refine J ⟨I,I,I,I,I,Zdl,xA,I,I,⟨tO,I⟩,⟨tO,I⟩,⟨tO,I⟩,⟨tO,I⟩,⟨tO,I⟩,⟨tO,I⟩,⟨tO,I⟩,⟨tO,AS,xA⟩,⟨tO,I⟩,⟨tO,I⟩,⟨tO,UB,I,UT,UA,AS⟩,tO,I,Zda,Zda,Zda,Zda,Zda,Zda,Zda,Zda,Zda,Zda,Zda,Zda,⟨rfl,w64 LN LN⟩,Zda,rfl,I⟩<|J KR<|W.cn<|J (fun h1=>?_) fun h1=>?_
    replace h1:=dt h1
    simp only[LM]at h1
    refine gd 49 58 [[],[],[],[],[],[],[],[.n (Int.toNat m.task)],[.x (ak y)]] ?_
    conv=>whnf
    refine J ⟨I,I,I,I,I,I,I,Zdl,⟨UA,xA⟩,I⟩<|J KR<|gd 58 78 [[],[],[],[],[],[],[],[],[],[],[],[],[],[],[.call (V.s (b9 {kind:=2,epoch:=b.epoch,task:=m.task,text:=m.text:Entry})) [[]]],[],[],[],[],[],[]] ?_
    conv=>whnf
    refine J ⟨I,I,I,I,I,I,I,I,I,I,I,I,I,I,Zc8,US,Zde,I,I,I,UA,I⟩<|J KR<|rg [.n (Int.toNat m.task),.x (aW j)]<|J ⟨I,I,I,I,I,I,Zdl,⟨UC,xA⟩,I⟩<|W.sq<|gd 78 101 [[],[],[],[],[],[.n (Int.toNat m.task)],[.x (dM (ak y) 0 [T.v (Value.string m.text)])],[],[],[BF],[BF],[BF],[BF],[BF],[BF],[BF],[BF]] ?_
    conv=>whnf
    refine J ⟨I,I,I,I,I,Zdl,gh LN,I,I,dO,dO,dO,dO,dO,dO,dO,dO,I⟩<|J KR<|W.cn<|J (noT rfl) fun _=>W.skip<|W.sq<|gd 101 124 [[],[],[],[],[],[.n (Int.toNat m.task)],[.x (dM (ak y) 0 [T.v (Value.string m.text)])],[],[],[],[],[BF],[BF],[BF],[BF],[BF],[BF],[BF]] ?_
    conv=>whnf
    refine J ⟨I,I,I,I,I,Zdl,gh LN,I,I,I,I,⟨kv rfl,I⟩,⟨kv rfl,I⟩,⟨kv rfl,I⟩,⟨kv rfl,I⟩,⟨kv rfl,I⟩,⟨kv rfl,I⟩,kv rfl,I⟩<|J KR<|W.cn<|J (fun h2=>?_) fun h2=>?_
    replace h2:=dt h2
    simp only[LM]at h2
    omega
    replace h2:=df h2
    simp only[LM]at h2
    refine W.skip<|W.sq<|g 124 128 []<|J UF<|W.blk ?_
    rotate_left
    replace h1:=df h1
    simp only[LM]at h1
    omega
    refine W.lp (fun s (n:Nat)=>⟨[(0,s.s 0),(1,s.s 1),(2,s.s 2),(5,s.s 5),(6,s.s 6),(8,s.s 8),(128,s.s 128),(129,s.s 129),(130,.i n)],[(162,[s.c 162 0,s.c 162 1,s.c 162 2,s.c 162 3,s.c 162 4,s.c 162 5,s.c 162 6,s.c 162 7,s.c 162 8,s.c 162 9,s.c 162 10,s.c 162 11]),(5,[s.c 5 0]),(6,[s.c 6 0,s.c 6 1,s.c 6 2,s.c 6 3,s.c 6 4,s.c 6 5,s.c 6 6,s.c 6 7])],[]⟩) (fun(n:Nat)=>n≤b.owed.length∧∀ o∈b.owed.take n,¬(o.worker = m.frm∧o.lease = m.lease)) (fun(n:Nat)=>b.owed.length - n) (0) [some 162,some 5,some 6] [] Zdh (by simp) ?_
    rintro n ⟨hn,hc⟩
    by_cases hn2:n < b.owed.length
    ·obtain⟨o,ho⟩:=aj hn2
     by_cases hw:o.worker = m.frm
     ·by_cases hl:o.lease = m.lease
      ·rw[fQ (b:=li b m) (fun q=>rj ho ⟨hw,hl⟩ q.new)]
       conv=>whnf
       refine g 0 0 []<|J UA<|W.sq<|W.cn<|J (fun _=>(W.skip (W.sq (W.blk (g 131 134 [.n (n),.x (bi o)]<|J Zcx (g 134 145 [BT,BT,BT,BT,BT,BT]<|J Zcg (W.cn<|J (fun _=>(W.ret (EndsW.rt<|J I<|J ?_ ?_))) (noF tO)))))))) (noF SI)
       rfl
       all_goals (simp only[li,aG,cellsOf,List.map_set,List.map_append,List.map_cons,List.map_nil];rfl)
      ·conv=>whnf
       refine g 0 0 []<|J UA<|W.sq<|W.cn<|J (fun _=>(W.skip (W.sq (W.blk (g 131 134 [.n (n),.x (bi o)]<|J Zcx (g 134 145 [BT,BT,BT,BT,BT,BT]<|J Zcg (W.cn<|J (noT dO) fun _=>(W.skip (rg [.i ((n:Int) +1)]<|J Zdj ?_))))))))) (noF SI)
       refine⟨n+1,[some 162,some 5,some 6],[],Zdh,?_,?_⟩
       rotate_left
       (dsimp only;omega)
       dsimp only
       exact⟨by omega,dx hc ho fun q=>hl q.2⟩
     ·conv=>whnf
      refine g 0 0 []<|J UA<|W.sq<|W.cn<|J (fun _=>(W.skip (W.sq (W.blk (g 131 134 [.n (n),.x (bi o)]<|J Zcx (g 134 145 [BF,BF,BF,BF,BF,BF]<|J ⟨I,I,I,I,I,I,dO,dO,dO,dO,dO,dO,I⟩ (W.cn<|J (noT rfl) fun _=>(W.skip (rg [.i ((n:Int) +1)]<|J Zdj ?_))))))))) (noF SI)
      refine⟨n+1,[some 162,some 5,some 6],[],Zdh,?_,?_⟩
      rotate_left
      (dsimp only;omega)
      dsimp only
      exact⟨by omega,dx hc ho fun q=>hw q.1⟩
    ·rw[bC OM]at hc
     rw[rd (Dh (ts:=p.tasks) hkr hO hc)]
     conv=>whnf
     refine g 0 0 []<|J UA<|W.sq<|W.cn<|J (noT SI) fun _=>W.exit<|rgd [[],[],[],[],[],[],[],[],[],[],[],[],[],[],[],[]] ?_
     conv=>whnf
     refine J ⟨I,I,I,I,I,I,I,I,I,I,I,⟨UC,I⟩,Zde,I,I,UA,I⟩<|J KR<|EndsW.nm<|J I<|J ?_ ?_
     rfl
     all_goals (simp only[li,aG,cellsOf,List.map_set,List.map_append,List.map_cons,List.map_nil];rfl)
   ·rw[fQ (b:=li b m) (fun q=>hO q.room)]
    refine bg ?_
    conv=>whnf
    refine g 0 0 []<|J Zd4<|g 11 13 []<|J UC<|W.sq<|gd 13 49 [[],[],[],[],[],[.n (Int.toNat m.task)],[.x (ak y)],[],[],[BT],[BT],[BT],[BT],[BT],[BT],[BT],[BT,.x (aB t)],[BT],[BT],[BT,.call VT [[],[]]],[BT],[],[BT],[BT],[BT],[BT],[BT],[BT],[BT],[BT],[BT],[BT],[BT],[BT],[BT,.i ((↑(List.length (List.map ak b.log.safe)):Int) + (↑(List.length (List.map ak b.log.loose)):Int))],[BT],[BT]] ?_
    conv=>whnf
    refine J ⟨I,I,I,I,I,Zdl,xA,I,I,⟨tO,I⟩,⟨tO,I⟩,⟨tO,I⟩,⟨tO,I⟩,⟨tO,I⟩,⟨tO,I⟩,⟨tO,I⟩,⟨tO,AS,xA⟩,⟨tO,I⟩,⟨tO,I⟩,⟨tO,UB,I,UT,UA,AS⟩,tO,I,Zda,Zda,Zda,Zda,Zda,Zda,Zda,Zda,Zda,Zda,Zda,Zda,⟨rfl,w64 LN LN⟩,Zda,rfl,I⟩<|J KR<|W.cn<|J (fun h1=>?_) fun h1=>?_
    replace h1:=dt h1
    simp only[LM]at h1
    refine gd 49 58 [[],[],[],[],[],[],[],[.n (Int.toNat m.task)],[.x (ak y)]] ?_
    conv=>whnf
    refine J ⟨I,I,I,I,I,I,I,Zdl,⟨UA,xA⟩,I⟩<|J KR<|gd 58 78 [[],[],[],[],[],[],[],[],[],[],[],[],[],[],[.call (V.s (b9 {kind:=2,epoch:=b.epoch,task:=m.task,text:=m.text:Entry})) [[]]],[],[],[],[],[],[]] ?_
    conv=>whnf
    refine J ⟨I,I,I,I,I,I,I,I,I,I,I,I,I,I,Zc8,US,Zde,I,I,I,UA,I⟩<|J KR<|rg [.n (Int.toNat m.task),.x (aW j)]<|J ⟨I,I,I,I,I,I,Zdl,⟨UC,xA⟩,I⟩<|W.sq<|gd 78 101 [[],[],[],[],[],[.n (Int.toNat m.task)],[.x (dM (ak y) 0 [T.v (Value.string m.text)])],[],[],[BF],[BF],[BF],[BF],[BF],[BF],[BF],[BF]] ?_
    conv=>whnf
    refine J ⟨I,I,I,I,I,Zdl,gh LN,I,I,dO,dO,dO,dO,dO,dO,dO,dO,I⟩<|J KR<|W.cn<|J (noT rfl) fun _=>W.skip<|W.sq<|gd 101 124 [[],[],[],[],[],[.n (Int.toNat m.task)],[.x (dM (ak y) 0 [T.v (Value.string m.text)])],[],[],[],[],[BF],[BF],[BF],[BF],[BF],[BF],[BF]] ?_
    conv=>whnf
    refine J ⟨I,I,I,I,I,Zdl,gh LN,I,I,I,I,⟨kv rfl,I⟩,⟨kv rfl,I⟩,⟨kv rfl,I⟩,⟨kv rfl,I⟩,⟨kv rfl,I⟩,⟨kv rfl,I⟩,kv rfl,I⟩<|J KR<|W.cn<|J (fun h2=>?_) fun h2=>?_
    replace h2:=dt h2
    simp only[LM]at h2
    refine W.ret<|EndsW.rt<|J I<|J ?_ ?_
    rfl
    rotate_left
    replace h2:=df h2
    simp only[LM]at h2
    omega
    replace h1:=df h1
    simp only[LM]at h1
    omega
    all_goals (simp only[li,aG,cellsOf,List.map_set,List.map_append,List.map_cons,List.map_nil];rfl)
  ·rw[Gm hP (by rw[hya];exact hA) hte]
   by_cases hF:ca b.results t.deps
   ·rw[decide_eq_true hF]at crd
    have hR:¬b.log.safe.length+b.log.loose.length < 310:=fun q=>hP ⟨by rw[hya];exact hA,by rw[cF ht0];exact hF,q⟩
    by_cases ho:qC b m
    ·have ho2:=hold.1 ho
     rw[rq ho]
     refine bg ?_
     conv=>whnf
     refine g 0 0 []<|J Zd4<|g 11 13 []<|J UC<|W.sq<|gd 13 49 [[],[],[],[],[],[.n (Int.toNat m.task)],[.x (ak y)],[],[],[BT],[BT],[BT],[BT],[BT],[BT],[BT],[BT,.x (aB t)],[BT],[BT],[BT,.call VT [[],[]]],[BT],[],[BT],[BT],[BT],[BT],[BT],[BT],[BT],[BT],[BT],[BT],[BT],[BT],[BT,.i ((↑(List.length (List.map ak b.log.safe)):Int) + (↑(List.length (List.map ak b.log.loose)):Int))],[BT],[BT]] ?_
     conv=>whnf
     refine J ⟨I,I,I,I,I,Zdl,xA,I,I,⟨tO,I⟩,⟨tO,I⟩,⟨tO,I⟩,⟨tO,I⟩,⟨tO,I⟩,⟨tO,I⟩,⟨tO,I⟩,⟨tO,AS,xA⟩,⟨tO,I⟩,⟨tO,I⟩,⟨tO,UB,I,UT,UA,AS⟩,tO,I,Zda,Zda,Zda,Zda,Zda,Zda,Zda,Zda,Zda,Zda,Zda,Zda,⟨rfl,w64 LN LN⟩,Zda,rfl,I⟩<|J KR<|W.cn<|J (fun h1=>?_) fun h1=>?_
     replace h1:=dt h1
     simp only[LM]at h1
     omega
     replace h1:=df h1
     simp only[LM]at h1
     refine W.skip<|W.sq<|gd 49 101 [[],[],[],[],[],[.n (Int.toNat m.task)],[.x (ak y)],[],[],[BT],[BT],[BT],[BT],[BT],[BT,.x (aS x)],[BT],[BT]] ?_
     conv=>whnf
     refine J Zbp<|J KR<|W.cn<|J (noT dO) fun _=>W.skip<|W.sq ?_
     by_cases h2:y = Message.text m
     refine gd 101 124 [[],[],[],[],[],[.n (Int.toNat m.task)],[.x (ak y)],[],[],[],[],[BF],[BF],[BF],[BF],[BF],[BF],[BF]] ?_
     conv=>whnf
     refine J Za4<|J KR<|W.cn<|J (fun _=>(RT ?_)) (noF (by simp_all))
     rfl
     refine gd 101 124 [[],[],[],[],[],[.n (Int.toNat m.task)],[.x (ak y)],[],[],[],[],[BT],[BT],[BT],[BT],[BT],[BT],[BT]] ?_
     conv=>whnf
     refine J Zbo<|J KR<|W.cn<|J (fun _=>(RT ?_)) (noF rfl)
     rfl
    ·have ho2:¬m.epoch < x.epoch:=fun q=>ho (hold.2 q)
     rw[kP ho]
     refine bg ?_
     conv=>whnf
     refine g 0 0 []<|J Zd4<|g 11 13 []<|J UC<|W.sq<|gd 13 49 [[],[],[],[],[],[.n (Int.toNat m.task)],[.x (ak y)],[],[],[BT],[BT],[BT],[BT],[BT],[BT],[BT],[BT,.x (aB t)],[BT],[BT],[BT,.call VT [[],[]]],[BT],[],[BT],[BT],[BT],[BT],[BT],[BT],[BT],[BT],[BT],[BT],[BT],[BT],[BT,.i ((↑(List.length (List.map ak b.log.safe)):Int) + (↑(List.length (List.map ak b.log.loose)):Int))],[BT],[BT]] ?_
     conv=>whnf
     refine J ⟨I,I,I,I,I,Zdl,xA,I,I,⟨tO,I⟩,⟨tO,I⟩,⟨tO,I⟩,⟨tO,I⟩,⟨tO,I⟩,⟨tO,I⟩,⟨tO,I⟩,⟨tO,AS,xA⟩,⟨tO,I⟩,⟨tO,I⟩,⟨tO,UB,I,UT,UA,AS⟩,tO,I,Zda,Zda,Zda,Zda,Zda,Zda,Zda,Zda,Zda,Zda,Zda,Zda,⟨rfl,w64 LN LN⟩,Zda,rfl,I⟩<|J KR<|W.cn<|J (fun h1=>?_) fun h1=>?_
     replace h1:=dt h1
     simp only[LM]at h1
     omega
     replace h1:=df h1
     simp only[LM]at h1
     refine W.skip<|W.sq<|gd 49 101 [[],[],[],[],[],[.n (Int.toNat m.task)],[.x (ak y)],[],[],[BT],[BT],[BT],[BT],[BT],[BT,.x (aS x)],[BT],[BT]] ?_
     conv=>whnf
     refine J Zbp<|J KR<|W.cn<|J (fun _=>(rg [.x (aS x)]<|J ⟨I,I,I,I,I,⟨UB,xA⟩,I⟩ (W.sq ?_))) (noF tO)
     by_cases h2:y = Message.text m
     refine gd 101 124 [[],[],[],[],[],[.n (Int.toNat m.task)],[.x (ak y)],[],[],[],[],[BF],[BF],[BF],[BF],[BF],[BF],[BF]] ?_
     conv=>whnf
     refine J Za4<|J KR<|W.cn<|J (fun _=>(W.ret (EndsW.rt<|J I<|J ?_ ?_))) (noF (by simp_all))
     rfl
     rotate_left
     refine gd 101 124 [[],[],[],[],[],[.n (Int.toNat m.task)],[.x (ak y)],[],[],[],[],[BT],[BT],[BT],[BT],[BT],[BT],[BT]] ?_
     conv=>whnf
     refine J Zbo<|J KR<|W.cn<|J (fun _=>(W.ret (EndsW.rt<|J I<|J ?_ ?_))) (noF rfl)
     rfl
     rotate_left
     all_goals (simp only[li,aG,cellsOf,List.map_set,List.map_append,List.map_cons,List.map_nil];rfl)
   ·rw[decide_eq_false hF]at crd
    by_cases ho:qC b m
    ·have ho2:=hold.1 ho
     rw[rq ho]
     refine bg ?_
     conv=>whnf
     refine g 0 0 []<|J Zd4<|g 11 13 []<|J UC<|W.sq<|gd 13 49 [[],[],[],[],[],[.n (Int.toNat m.task)],[.x (ak y)],[],[],[BT],[BT],[BT],[BT],[BT],[BT],[BT],[BT,.x (aB t)],[BT],[BT],[BT,.call VF [[],[]]],[BT],[],[BF],[BF],[BF],[BF],[BF],[BF],[BF],[BF],[BF],[BF],[BF],[BF],[BF],[BF],[BF]] ?_
     conv=>whnf
     refine J Zbn<|J KR<|W.cn<|J (noT rfl) fun _=>W.skip<|W.sq<|gd 49 101 [[],[],[],[],[],[.n (Int.toNat m.task)],[.x (ak y)],[],[],[BT],[BT],[BT],[BT],[BT],[BT,.x (aS x)],[BT],[BT]] ?_
     conv=>whnf
     refine J Zbp<|J KR<|W.cn<|J (noT dO) fun _=>W.skip<|W.sq ?_
     by_cases h1:y = Message.text m
     refine gd 101 124 [[],[],[],[],[],[.n (Int.toNat m.task)],[.x (ak y)],[],[],[],[],[BF],[BF],[BF],[BF],[BF],[BF],[BF]] ?_
     conv=>whnf
     refine J Za4<|J KR<|W.cn<|J (fun _=>(RT ?_)) (noF (by simp_all))
     rfl
     refine gd 101 124 [[],[],[],[],[],[.n (Int.toNat m.task)],[.x (ak y)],[],[],[],[],[BT],[BT],[BT],[BT],[BT],[BT],[BT]] ?_
     conv=>whnf
     refine J Zbo<|J KR<|W.cn<|J (fun _=>(RT ?_)) (noF rfl)
     rfl
    ·have ho2:¬m.epoch < x.epoch:=fun q=>ho (hold.2 q)
     rw[kP ho]
     refine bg ?_
     conv=>whnf
     refine g 0 0 []<|J Zd4<|g 11 13 []<|J UC<|W.sq<|gd 13 49 [[],[],[],[],[],[.n (Int.toNat m.task)],[.x (ak y)],[],[],[BT],[BT],[BT],[BT],[BT],[BT],[BT],[BT,.x (aB t)],[BT],[BT],[BT,.call VF [[],[]]],[BT],[],[BF],[BF],[BF],[BF],[BF],[BF],[BF],[BF],[BF],[BF],[BF],[BF],[BF],[BF],[BF]] ?_
     conv=>whnf
     refine J Zbn<|J KR<|W.cn<|J (noT rfl) fun _=>W.skip<|W.sq<|gd 49 101 [[],[],[],[],[],[.n (Int.toNat m.task)],[.x (ak y)],[],[],[BT],[BT],[BT],[BT],[BT],[BT,.x (aS x)],[BT],[BT]] ?_
     conv=>whnf
     refine J Zbp<|J KR<|W.cn<|J (fun _=>(rg [.x (aS x)]<|J ⟨I,I,I,I,I,⟨UB,xA⟩,I⟩ (W.sq ?_))) (noF tO)
     by_cases h1:y = Message.text m
     refine gd 101 124 [[],[],[],[],[],[.n (Int.toNat m.task)],[.x (ak y)],[],[],[],[],[BF],[BF],[BF],[BF],[BF],[BF],[BF]] ?_
     conv=>whnf
     refine J Za4<|J KR<|W.cn<|J (fun _=>(W.ret (EndsW.rt<|J I<|J ?_ ?_))) (noF (by simp_all))
     rfl
     rotate_left
     refine gd 101 124 [[],[],[],[],[],[.n (Int.toNat m.task)],[.x (ak y)],[],[],[],[],[BT],[BT],[BT],[BT],[BT],[BT],[BT]] ?_
     conv=>whnf
     refine J Zbo<|J KR<|W.cn<|J (fun _=>(W.ret (EndsW.rt<|J I<|J ?_ ?_))) (noF rfl)
     rfl
     rotate_left
     all_goals (simp only[li,aG,cellsOf,List.map_set,List.map_append,List.map_cons,List.map_nil];rfl)
 ·rw[Da (by rw[hya];exact hA)]
  by_cases hs:y = m.text
  ·by_cases hO:b.owed.length < 2000
   ·refine bg ?_
    conv=>whnf
    refine g 0 0 []<|J Zd4<|g 11 13 []<|J UC<|W.sq<|gd 13 49 [[],[],[],[],[],[.n (Int.toNat m.task)],[.x (ak y)],[],[],[BF],[BF],[BF],[BF],[BF],[BF],[BF],[BF],[BF],[BF],[BF],[BF],[],[BF],[BF],[BF],[BF],[BF],[BF],[BF],[BF],[BF],[BF],[BF],[BF],[BF],[BF],[BF]] ?_
    conv=>whnf
    refine J Zbu<|J KR<|W.cn<|J (noT rfl) fun _=>W.skip<|W.sq<|gd 49 101 [[],[],[],[],[],[.n (Int.toNat m.task)],[.x (ak y)],[],[],[BF],[BF],[BF],[BF],[BF],[BF],[BF],[BF]] ?_
    conv=>whnf
    refine J ⟨I,I,I,I,I,Zdl,xA,I,I,dO,dO,dO,dO,dO,dO,dO,dO,I⟩<|J KR<|W.cn<|J (noT rfl) fun _=>W.skip<|W.sq<|gd 101 124 [[],[],[],[],[],[.n (Int.toNat m.task)],[.x (ak y)],[],[],[],[],[BF],[BF],[BF],[BF],[BF],[BF],[BF]] ?_
    conv=>whnf
    refine J Za4<|J KR<|W.cn<|J (fun h1=>?_) fun h1=>?_
    replace h1:=dt h1
    simp only[LM]at h1
    omega
    replace h1:=df h1
    simp only[LM]at h1
    refine W.skip<|W.sq<|g 124 128 []<|J UF<|W.blk<|W.lp (fun s (n:Nat)=>⟨[(0,s.s 0),(1,s.s 1),(2,s.s 2),(5,s.s 5),(6,s.s 6),(8,s.s 8),(128,s.s 128),(129,s.s 129),(130,.i n)],[(162,[s.c 162 0,s.c 162 1,s.c 162 2,s.c 162 3,s.c 162 4,s.c 162 5,s.c 162 6,s.c 162 7,s.c 162 8,s.c 162 9,s.c 162 10,s.c 162 11]),(5,[s.c 5 0]),(6,[s.c 6 0,s.c 6 1,s.c 6 2,s.c 6 3,s.c 6 4,s.c 6 5,s.c 6 6,s.c 6 7])],[]⟩) (fun(n:Nat)=>n≤b.owed.length∧∀ o∈b.owed.take n,¬(o.worker = m.frm∧o.lease = m.lease)) (fun(n:Nat)=>b.owed.length - n) (0) [some 162,some 5,some 6] [] Zdh (by simp) ?_
    rintro n ⟨hn,hc⟩
    by_cases hn2:n < b.owed.length
    ·obtain⟨o,ho⟩:=aj hn2
     by_cases hw:o.worker = m.frm
     ·by_cases hl:o.lease = m.lease
      ·rw[fQ (fun q=>rj ho ⟨hw,hl⟩ q.new)]
       conv=>whnf
       refine g 0 0 []<|J UA<|W.sq<|W.cn<|J (fun _=>(W.skip (W.sq (W.blk (g 131 134 [.n (n),.x (bi o)]<|J Zcx (g 134 145 [BT,BT,BT,BT,BT,BT]<|J Zcg (W.cn<|J (fun _=>(RT ?_)) (noF tO)))))))) (noF SI)
       rfl
       all_goals (simp only[li,aG,cellsOf,List.map_set,List.map_append,List.map_cons,List.map_nil];rfl)
      ·conv=>whnf
       refine g 0 0 []<|J UA<|W.sq<|W.cn<|J (fun _=>(W.skip (W.sq (W.blk (g 131 134 [.n (n),.x (bi o)]<|J Zcx (g 134 145 [BT,BT,BT,BT,BT,BT]<|J Zcg (W.cn<|J (noT dO) fun _=>(W.skip (rg [.i ((n:Int) +1)]<|J Zdj ?_))))))))) (noF SI)
       refine⟨n+1,[some 162,some 5,some 6],[],Zdh,?_,?_⟩
       rotate_left
       (dsimp only;omega)
       dsimp only
       exact⟨by omega,dx hc ho fun q=>hl q.2⟩
     ·conv=>whnf
      refine g 0 0 []<|J UA<|W.sq<|W.cn<|J (fun _=>(W.skip (W.sq (W.blk (g 131 134 [.n (n),.x (bi o)]<|J Zcx (g 134 145 [BF,BF,BF,BF,BF,BF]<|J ⟨I,I,I,I,I,I,dO,dO,dO,dO,dO,dO,I⟩ (W.cn<|J (noT rfl) fun _=>(W.skip (rg [.i ((n:Int) +1)]<|J Zdj ?_))))))))) (noF SI)
      refine⟨n+1,[some 162,some 5,some 6],[],Zdh,?_,?_⟩
      rotate_left
      (dsimp only;omega)
      dsimp only
      exact⟨by omega,dx hc ho fun q=>hw q.1⟩
    ·rw[bC OM]at hc
     rw[rd ⟨by rw[hya];exact hs,hO,hc⟩]
     conv=>whnf
     refine g 0 0 []<|J UA<|W.sq<|W.cn<|J (noT SI) fun _=>W.exit<|rgd [[],[],[],[],[],[],[],[],[],[],[],[],[],[],[],[]] ?_
     conv=>whnf
     refine J ⟨I,I,I,I,I,I,I,I,I,I,I,⟨UC,I⟩,Zde,I,I,UA,I⟩<|J KR<|EndsW.nm<|J I<|J ?_ ?_
     rfl
     all_goals (simp only[li,aG,cellsOf,List.map_set,List.map_append,List.map_cons,List.map_nil];rfl)
   ·rw[fQ (fun q=>hO q.room)]
    refine bg ?_
    conv=>whnf
    refine g 0 0 []<|J Zd4<|g 11 13 []<|J UC<|W.sq<|gd 13 49 [[],[],[],[],[],[.n (Int.toNat m.task)],[.x (ak y)],[],[],[BF],[BF],[BF],[BF],[BF],[BF],[BF],[BF],[BF],[BF],[BF],[BF],[],[BF],[BF],[BF],[BF],[BF],[BF],[BF],[BF],[BF],[BF],[BF],[BF],[BF],[BF],[BF]] ?_
    conv=>whnf
    refine J Zbu<|J KR<|W.cn<|J (noT rfl) fun _=>W.skip<|W.sq<|gd 49 101 [[],[],[],[],[],[.n (Int.toNat m.task)],[.x (ak y)],[],[],[BF],[BF],[BF],[BF],[BF],[BF],[BF],[BF]] ?_
    conv=>whnf
    refine J ⟨I,I,I,I,I,Zdl,xA,I,I,dO,dO,dO,dO,dO,dO,dO,dO,I⟩<|J KR<|W.cn<|J (noT rfl) fun _=>W.skip<|W.sq<|gd 101 124 [[],[],[],[],[],[.n (Int.toNat m.task)],[.x (ak y)],[],[],[],[],[BF],[BF],[BF],[BF],[BF],[BF],[BF]] ?_
    conv=>whnf
    refine J Za4<|J KR<|W.cn<|J (fun h1=>?_) fun h1=>?_
    replace h1:=dt h1
    simp only[LM]at h1
    refine RT ?_
    rfl
    replace h1:=df h1
    simp only[LM]at h1
    omega
  ·rw[fQ (fun q=>hs (by rw[←q.same,hya]))]
   refine bg ?_
   conv=>whnf
   refine g 0 0 []<|J Zd4<|g 11 13 []<|J UC<|W.sq<|gd 13 49 [[],[],[],[],[],[.n (Int.toNat m.task)],[.x (ak y)],[],[],[BF],[BF],[BF],[BF],[BF],[BF],[BF],[BF],[BF],[BF],[BF],[BF],[],[BF],[BF],[BF],[BF],[BF],[BF],[BF],[BF],[BF],[BF],[BF],[BF],[BF],[BF],[BF]] ?_
   conv=>whnf
   refine J Zbu<|J KR<|W.cn<|J (noT rfl) fun _=>W.skip<|W.sq<|gd 49 101 [[],[],[],[],[],[.n (Int.toNat m.task)],[.x (ak y)],[],[],[BF],[BF],[BF],[BF],[BF],[BF],[BF],[BF]] ?_
   conv=>whnf
   refine J ⟨I,I,I,I,I,Zdl,xA,I,I,dO,dO,dO,dO,dO,dO,dO,dO,I⟩<|J KR<|W.cn<|J (noT rfl) fun _=>W.skip<|W.sq<|gd 101 124 [[],[],[],[],[],[.n (Int.toNat m.task)],[.x (ak y)],[],[],[],[],[BT],[BT],[BT],[BT],[BT],[BT],[BT]] ?_
   conv=>whnf
   refine J Zbo<|J KR<|W.cn<|J (fun _=>(RT ?_)) (noF rfl)
   rfl
end Go.K
end
section
open Go Go.Tm Go.Proofs
namespace Go.K
theorem DH{w:Int}{js:List Job}{n:Nat}{j:Job}(h:js[n]? = some j)(hd:j.worker = w):((eT (ly w) js n).map aW).set n (aW fw) = (eT (ly w) js (n+1)).map aW:=by
 have:=kw (f:=ly w) (g:=aW) h
 rw[show ly w j = fw from if_pos hd]at this
 exact this
theorem GL{w:Int}{js:List Job}{n:Nat}{j:Job}(h:js[n]? = some j)(hd:¬j.worker = w):eT (ly w) js n = eT (ly w) js (n+1):=ns h (if_neg hd)
theorem DW{l u:Int}{js:List Job}{n:Nat}{j:Job}(h:js[n]? = some j)(hd:j.lease = l):((eT (mc l u) js n).map aW).set n (aW ⟨j.lease,j.worker,u⟩) = (eT (mc l u) js (n+1)).map aW:=by
 have:=kw (f:=mc l u) (g:=aW) h
 rw[show mc l u j = ⟨j.lease,j.worker,u⟩from if_pos hd]at this
 exact this
theorem Hv{l u:Int}{js:List Job}{n:Nat}{j:Job}(h:js[n]? = some j)(hd:¬j.lease = l):eT (mc l u) js n = eT (mc l u) js (n+1):=ns h (if_neg hd)
theorem Ll{b:Boss}{p:Plan}{m:Message}(hv:BossOk b p)(h:BossLim b)(hf:ForB b m)(hk:m.kind = 3)(ht:m.task < p.tasks.length):ResIn b p.tasks m:=by
 obtain⟨u1,u2,u3,u4,u5,u6,⟨u7,u8⟩,⟨u9,u10⟩,u11,u12,u13,u14⟩:=hv.up hf.up
 obtain⟨_,⟨f1,_⟩,_⟩:=kR hf
 obtain⟨_,⟨t1,_⟩,tx⟩:=A6 hf hk
 have hw:=hv.workers
 have f2:=hf.frm
 exact⟨hv.plan,u3,u4,⟨t1,ht⟩,h.safe,h.loose,h.owed,by omega,⟨f1,by omega⟩,tx⟩
theorem sv(b:Boss)(p:Plan)(m:Message)(hv:BossOk b p)(h:BossLim b)(hm:m.inputs.length≤9223372036854775806):F rT [.ptr (cellsOf (aG b)),.val (cB p),.val (dw m)] (.tup []) [cellsOf (aG (fK b p.tasks m)),[],[]]:=by
 have cm:=bU m hm
 by_cases hf:ForB b m
 ·obtain⟨u1,u2,u3,u4,u5,u6,⟨u7,u8⟩,⟨u9,u10⟩,u11,u12,u13,u14⟩:=hv.up hf.up
  obtain⟨hkd,⟨f1,f2⟩,⟨e1,e2⟩⟩:=kR hf
  have hnow:=hv.now
  have hwk:=hv.workers
  have hpl:=(bM hv.plan).1
  obtain⟨g1,g2,g3,g4⟩:=hf
  have hf:ForB b m:=⟨g1,g2,g3,g4⟩
  rw[decide_eq_true g2]at cm
  have hsi:fa m < b.seats.length:=by unfold fa;omega
  obtain⟨x,hx⟩:=aj hsi
  have hx':b.seats[(m.frm - 1).toNat]? = some x:=hx
  have hold:=Bq hx
  rcases hkd with hk|hk|hk
  ·rw[kp hf hk]
   refine bJ ?_
   conv=>whnf
   refine g 2 3 []<|J Zd4<|W.sq<|gd 9 32 [[],[],[],[],[],[],[BF],[BF,.call VT [[]]],[BF],[BF],[],[BF],[BF],[BF],[BF],[],[BF],[BF],[BF],[BF],[BF],[BF],[BF],[BF]] ?_
   conv=>whnf
   refine J Zal<|J KR<|W.cn<|J (noT dO) fun _=>W.skip<|gd 32 41 [[],[],[],[],[],[],[.i (m.frm - 1)],[.n (Int.toNat (m.frm - 1))],[]] ?_
   conv=>whnf
   refine J Zc1<|J KR<|g 41 42 []<|J UB<|W.blk<|g 44 45 []<|J UB<|W.cn<|J (noT dO) fun _=>g 1 2 []<|J UB<|W.cn<|J (fun _=>(g 6 90 []<|J UF (W.blk (W.lp (fun s (n:Nat)=>⟨[(0,s.s 0),(5,s.s 5),(90,s.s 90),(91,.i n)],[(5,[s.c 5 0,s.c 5 1,s.c 5 2,s.c 5 3,s.c 5 4,s.c 5 5,s.c 5 6,s.c 5 7]),(131,[.t (.i b.workers),.t (.b b.up),.t (.i b.now),.t (.i b.since),.t (.i b.epoch),.t (.i b.given),.own [false] (b.log.safe.map ak),.own [false] (b.log.loose.map ak),.own [false] (b.results.map ak),.own fD ((eT (mc m.lease (b.now+12)) b.jobs n).map aW),.own cT (b.seats.map aS),.own cU (b.owed.map bi)])],[]⟩) (fun(n:Nat)=>n≤b.jobs.length) (fun(n:Nat)=>b.jobs.length - n) (0) [some 5,some 131] [] ⟨rfl,Zcn,⟨Zab,⟨Zaa,I⟩⟩,I⟩ OM ?_)))) (noF tO)
   intro n hn
   have hl:=gJ (mc m.lease (b.now+12)) b.jobs n
   by_cases hj:n < b.jobs.length
   ·obtain⟨j,hj1⟩:=aj hj
    by_cases hd:j.lease = m.lease
    ·have e:=DW (u:=b.now+12) hj1 hd
     conv=>whnf
     refine g 0 0 []<|J UA<|W.sq<|W.cn<|J (fun _=>(W.skip (W.sq (W.blk (g 92 94 []<|J UB (gd 94 104 [[],[],[],[],[],[.n (n)],[],[.x (aW j)],[],[],[]] ?_)))))) (noF (by simp_all))
     conv=>whnf
     refine⟨⟨I,I,I,I,I,Zdf,I,aV AS,I,I,I,I⟩,by kernel_rfl,?_⟩
     refine W.cn<|J (fun _=>(rgd [[],[],[],[],[],[],[],[],[],[.i (b.now+12)],[.n (n)],[],[.x (aW j)]] ?_)) (noF tO)
     conv=>whnf
     refine⟨⟨I,I,I,I,I,I,I,I,I,wO,Zdf,I,⟨UA,aV AS⟩,I⟩,by kernel_rfl,?_⟩
     refine rg [.i ((n:Int) +1)]<|J Zdj ?_
     refine⟨n+1,[some 5,some 131],[],⟨rfl,Zcn,⟨Zab,⟨⟨rfl,⟨rfl,⟨rfl,⟨rfl,⟨rfl,⟨rfl,⟨rfl,⟨rfl,⟨rfl,⟨rfl,⟨(congrArg (V.own _) (e)),Zad⟩⟩⟩⟩⟩⟩⟩⟩⟩⟩⟩,I⟩⟩,I⟩,?_,?_⟩
     rotate_left
     (dsimp only;omega)
     dsimp only
     omega
    ·have e:=Hv (u:=b.now+12) hj1 hd
     conv=>whnf
     refine g 0 0 []<|J UA<|W.sq<|W.cn<|J (fun _=>(W.skip (W.sq (W.blk (g 92 94 []<|J UB (gd 94 104 [[],[],[],[],[],[.n (n)],[],[.x (aW j)],[],[],[]] ?_)))))) (noF (by simp_all))
     conv=>whnf
     refine⟨⟨I,I,I,I,I,Zdf,I,aV AS,I,I,I,I⟩,by kernel_rfl,?_⟩
     refine W.cn<|J (noT dO) fun _=>W.skip<|rg [.i ((n:Int) +1)]<|J Zdj ?_
     refine⟨n+1,[some 5,some 131],[],⟨rfl,Zcn,⟨Zab,⟨⟨rfl,⟨rfl,⟨rfl,⟨rfl,⟨rfl,⟨rfl,⟨rfl,⟨rfl,⟨rfl,⟨rfl,⟨(congrArg (V.own _) (by rw[←e])),Zad⟩⟩⟩⟩⟩⟩⟩⟩⟩⟩⟩,I⟩⟩,I⟩,?_,?_⟩
     rotate_left
     (dsimp only;omega)
     dsimp only
     omega
   ·have e:=gK (mc m.lease (b.now+12)) b.jobs (n:=n) OM
    conv=>whnf
    refine g 0 0 []<|J UA<|W.sq<|W.cn<|J (noT (by simp_all)) fun _=>W.exit<|EndsW.nm<|J I<|J ?_ ?_
    rfl
    rw[e]
    rfl
  ·by_cases ht:m.task < p.tasks.length
   ·rw[mP hf hk ht]
    have cr:=o8 b p m (Ll hv h hf hk ht)
    refine bJ ?_
    conv=>whnf
    refine g 2 3 []<|J Zd4<|W.sq<|gd 9 32 [[],[],[],[],[],[],[BF],[BF,.call VT [[]]],[BF],[BF],[],[BF],[BF],[BF],[BF],[],[BF],[BF],[BF],[BF],[BF],[BF],[BF],[BF]] ?_
    conv=>whnf
    refine J Zal<|J KR<|W.cn<|J (noT dO) fun _=>W.skip<|gd 32 41 [[],[],[],[],[],[],[.i (m.frm - 1)],[.n (Int.toNat (m.frm - 1))],[]] ?_
    conv=>whnf
    refine J Zc1<|J KR<|g 41 42 []<|J UB<|W.blk<|g 44 45 []<|J UB<|W.cn<|J (noT dO) fun _=>g 1 2 []<|J UB<|W.cn<|J (noT dO) fun _=>g 42 86 []<|J UB<|W.cn<|J (fun _=>(g 118 125 []<|J UF (W.cn<|J (fun _=>(rg [.call (V.tup []) ([cellsOf (aG (dA b p.tasks m)),[],[],[]])]<|J ⟨I,I,I,I,⟨UD,I,⟨I,UA,UH,I,I⟩,UA,AS⟩,I⟩ ?_)) (noF SI)))) (noF tO)
    refine EndsW.nm<|J I (J ?_ rfl)
    rfl
   ·rw[mQ hf hk ht]
    refine bJ ?_
    conv=>whnf
    refine g 2 3 []<|J Zd4<|W.sq<|gd 9 32 [[],[],[],[],[],[],[BF],[BF,.call VT [[]]],[BF],[BF],[],[BF],[BF],[BF],[BF],[],[BF],[BF],[BF],[BF],[BF],[BF],[BF],[BF]] ?_
    conv=>whnf
    refine J Zal<|J KR<|W.cn<|J (noT dO) fun _=>W.skip<|gd 32 41 [[],[],[],[],[],[],[.i (m.frm - 1)],[.n (Int.toNat (m.frm - 1))],[]] ?_
    conv=>whnf
    refine J Zc1<|J KR<|g 41 42 []<|J UB<|W.blk<|g 44 45 []<|J UB<|W.cn<|J (noT dO) fun _=>g 1 2 []<|J UB<|W.cn<|J (noT dO) fun _=>g 42 86 []<|J UB<|W.cn<|J (fun _=>(g 118 125 []<|J UF (W.cn<|J (noT SI) fun _=>(W.skip ?_)))) (noF tO)
    refine EndsW.nm<|J I (J ?_ rfl)
    rfl
  ·rw[ko hf hk]
   by_cases ho:qC b m
   ·rw[DE ho]
    have ho2:=hold.1 ho
    refine bJ ?_
    conv=>whnf
    refine g 2 3 []<|J Zd4<|W.sq<|gd 9 32 [[],[],[],[],[],[],[BF],[BF,.call VT [[]]],[BF],[BF],[],[BF],[BF],[BF],[BF],[],[BF],[BF],[BF],[BF],[BF],[BF],[BF],[BF]] ?_
    conv=>whnf
    refine J Zal<|J KR<|W.cn<|J (noT dO) fun _=>W.skip<|gd 32 41 [[],[],[],[],[],[],[.i (m.frm - 1)],[.n (Int.toNat (m.frm - 1))],[]] ?_
    conv=>whnf
    refine J Zc1<|J KR<|g 41 42 []<|J UB<|W.blk<|g 44 45 []<|J UB<|W.cn<|J (fun _=>(gd 42 51 [[],[],[],[],[],[.x (aS x)],[]] ?_)) (noF tO)
    conv=>whnf
    refine⟨⟨I,I,I,I,I,xA,I,I⟩,by kernel_rfl,?_⟩
    refine W.cn<|J (noT dO) fun _=>W.skip<|EndsW.nm<|J I (J ?_ rfl)
    rfl
   ·rw[DF ho]
    have ho2:¬m.epoch < x.epoch:=fun q=>ho (hold.2 q)
    have es:(b.seats.map aS).set (m.frm - 1).toNat (aS ⟨true,m.epoch⟩) = (b.seats.set (fa m) ⟨true,m.epoch⟩).map aS:=by rw[←List.map_set];rfl
    refine bJ ?_
    conv=>whnf
    refine g 2 3 []<|J Zd4<|W.sq<|gd 9 32 [[],[],[],[],[],[],[BF],[BF,.call VT [[]]],[BF],[BF],[],[BF],[BF],[BF],[BF],[],[BF],[BF],[BF],[BF],[BF],[BF],[BF],[BF]] ?_
    conv=>whnf
    refine J Zal<|J KR<|W.cn<|J (noT dO) fun _=>W.skip<|gd 32 41 [[],[],[],[],[],[],[.i (m.frm - 1)],[.n (Int.toNat (m.frm - 1))],[]] ?_
    conv=>whnf
    refine J Zc1<|J KR<|g 41 42 []<|J UB<|W.blk<|g 44 45 []<|J UB<|W.cn<|J (fun _=>(gd 42 51 [[],[],[],[],[],[.x (aS x)],[]] ?_)) (noF tO)
    conv=>whnf
    refine⟨⟨I,I,I,I,I,xA,I,I⟩,by kernel_rfl,?_⟩
    refine W.cn<|J (fun _=>(g 6 57 [.x (aS x)]<|J ⟨I,I,I,I,I,⟨UB,xA⟩,I⟩ (g 57 61 []<|J UF (W.blk (W.lp (fun s (n:Nat)=>⟨[(0,s.s 0),(5,s.s 5),(61,s.s 61),(62,.i n)],[(5,[s.c 5 0,s.c 5 1,s.c 5 2,s.c 5 3,s.c 5 4,s.c 5 5,s.c 5 6,s.c 5 7]),(131,[.t (.i b.workers),.t (.b b.up),.t (.i b.now),.t (.i b.since),.t (.i b.epoch),.t (.i b.given),.own [false] (b.log.safe.map ak),.own [false] (b.log.loose.map ak),.own [false] (b.results.map ak),.own fD ((eT (ly m.frm) b.jobs n).map aW),.own cT ((b.seats.set (fa m) ⟨true,m.epoch⟩).map aS),.own cU (b.owed.map bi)])],[]⟩) (fun(n:Nat)=>n≤b.jobs.length) (fun(n:Nat)=>b.jobs.length - n) (0) [some 5,some 131] [] ⟨rfl,Zcn,⟨Zab,⟨⟨rfl,⟨rfl,⟨rfl,⟨rfl,⟨rfl,⟨rfl,⟨rfl,⟨rfl,⟨rfl,⟨rfl,⟨rfl,⟨(congrArg (V.own _) (es)),Zda⟩⟩⟩⟩⟩⟩⟩⟩⟩⟩⟩⟩,I⟩⟩,I⟩ OM ?_))))) (noF tO)
    intro n hn
    have hl:=gJ (ly m.frm) b.jobs n
    by_cases hj:n < b.jobs.length
    ·obtain⟨j,hj1⟩:=aj hj
     by_cases hd:j.worker = m.frm
     ·have e:=DH hj1 hd
      conv=>whnf
      refine g 0 0 []<|J UA<|W.sq<|W.cn<|J (fun _=>(W.skip (W.sq (W.blk (g 63 65 []<|J UB (gd 65 75 [[],[],[],[],[],[.n (n)],[],[.x (aW j)],[],[],[]] ?_)))))) (noF (by simp_all))
      conv=>whnf
      refine⟨⟨I,I,I,I,I,Zdf,I,aV AS,I,I,I,I⟩,by kernel_rfl,?_⟩
      refine W.cn<|J (fun _=>(rg [.n (n),.x (aW j)]<|J ⟨I,I,I,I,I,I,Zdf,⟨UC,aV AS⟩,I⟩ (rg [.i ((n:Int) +1)]<|J Zdj ?_))) (noF tO)
      refine⟨n+1,[some 5,some 131],[],⟨rfl,Zcn,⟨Zab,⟨⟨rfl,⟨rfl,⟨rfl,⟨rfl,⟨rfl,⟨rfl,⟨rfl,⟨rfl,⟨rfl,⟨rfl,⟨(congrArg (V.own _) (e)),Zad⟩⟩⟩⟩⟩⟩⟩⟩⟩⟩⟩,I⟩⟩,I⟩,?_,?_⟩
      rotate_left
      (dsimp only;omega)
      dsimp only
      omega
     ·have e:=GL hj1 hd
      conv=>whnf
      refine g 0 0 []<|J UA<|W.sq<|W.cn<|J (fun _=>(W.skip (W.sq (W.blk (g 63 65 []<|J UB (gd 65 75 [[],[],[],[],[],[.n (n)],[],[.x (aW j)],[],[],[]] ?_)))))) (noF (by simp_all))
      conv=>whnf
      refine⟨⟨I,I,I,I,I,Zdf,I,aV AS,I,I,I,I⟩,by kernel_rfl,?_⟩
      refine W.cn<|J (noT dO) fun _=>W.skip<|rg [.i ((n:Int) +1)]<|J Zdj ?_
      refine⟨n+1,[some 5,some 131],[],⟨rfl,Zcn,⟨Zab,⟨⟨rfl,⟨rfl,⟨rfl,⟨rfl,⟨rfl,⟨rfl,⟨rfl,⟨rfl,⟨rfl,⟨rfl,⟨(congrArg (V.own _) (by rw[←e])),Zad⟩⟩⟩⟩⟩⟩⟩⟩⟩⟩⟩,I⟩⟩,I⟩,?_,?_⟩
      rotate_left
      (dsimp only;omega)
      dsimp only
      omega
    ·have e:=gK (ly m.frm) b.jobs (n:=n) OM
     conv=>whnf
     refine g 0 0 []<|J UA<|W.sq<|W.cn<|J (noT (by simp_all)) fun _=>W.exit<|EndsW.nm<|J I<|J ?_ ?_
     rfl
     rw[e]
     rfl
 ·rw[xm hf]
  by_cases g1:b.up = true
  ·by_cases g2:bw m
   ·rw[decide_eq_true g2]at cm
    by_cases g3:m.to = 0
    ·have g4:¬m.frm≤b.workers:=fun q=>hf ⟨g1,g2,g3,q⟩
     refine bJ ?_
     conv=>whnf
     refine g 2 3 []<|J Zd4<|W.sq<|gd 9 32 [[],[],[],[],[],[],[BF],[BF,.call VT [[]]],[BF],[BF],[],[BF],[BF],[BF],[BF],[],[BF],[BF],[BF],[BF],[BF],[BF],[BF],[BF]] ?_
     conv=>whnf
     refine J Zal<|J KR<|W.cn<|J (fun _=>(RT ?_)) (noF tO)
     rfl
    ·refine bJ ?_
     conv=>whnf
     refine g 2 3 []<|J Zd4<|W.sq<|gd 9 32 [[],[],[],[],[],[],[BF],[BF,.call VT [[]]],[BF],[BF],[],[BF],[BF],[BF],[BF],[],[BT],[BT],[BT],[BT],[BT],[BT],[BT],[BT]] ?_
     conv=>whnf
     refine J ⟨I,I,I,I,I,I,Zdw,Zan,Zdw,nbF AS,I,Zda,Zda,Zda,rfl,I,af OM,af OM,af OM,af OM,af OM,af OM,af OM,af OM,I⟩<|J KR<|W.cn<|J (fun _=>(RT ?_)) (noF rfl)
     rfl
   ·rw[decide_eq_false g2]at cm
    refine bJ ?_
    conv=>whnf
    refine g 2 3 []<|J Zd4<|W.sq<|gd 9 32 [[],[],[],[],[],[],[BF],[BF,.call VF [[]]],[BF],[BF],[],[BT],[BT],[BT],[BT],[],[BT],[BT],[BT],[BT],[BT],[BT],[BT],[BT]] ?_
    conv=>whnf
    refine J ⟨I,I,I,I,I,I,Zdw,Zan,Zdw,nbF AS,I,rfl,rfl,rfl,rfl,I,rfl,rfl,rfl,rfl,rfl,rfl,rfl,rfl,I⟩<|J KR<|W.cn<|J (fun _=>(RT ?_)) (noF rfl)
    rfl
  ·refine bJ ?_
   conv=>whnf
   refine g 2 3 []<|J Zd4<|W.sq<|gd 9 32 [[],[],[],[],[],[],[BT],[BT],[BT],[BT],[],[BT],[BT],[BT],[BT],[],[BT],[BT],[BT],[BT],[BT],[BT],[BT],[BT]] ?_
   conv=>whnf
   refine J ⟨I,I,I,I,I,I,SI,SI,SI,SI,I,rfl,rfl,rfl,rfl,I,rfl,rfl,rfl,rfl,rfl,rfl,rfl,rfl,I⟩<|J KR<|W.cn<|J (fun _=>(RT ?_)) (noF rfl)
   rfl
end Go.K
end
section
open Go Go.Tm Go.Proofs
namespace Go.K
structure WSmall (w:Worker):Prop where
 len:w.inputs.length≤64
 size:∀ s∈w.inputs,s.size≤64
 text:w.text.size≤64
 num:-100≤w.number∧w.number≤1000
 cost:-100≤w.cost∧w.cost≤1000
 lease:w.lease≤1000001
end Go.K
end
section
open Go Go.Tm Go.Proofs
namespace Go.K
structure WMid (w:Worker):Prop where
 len:w.inputs.length≤100
 size:∀ s∈w.inputs,s.size≤100
 text:w.text.size≤100
 lease:w.lease≤1000001
end Go.K
end
section
open Go Go.Tm Go.Proofs
namespace Go.K
theorem KB(l:List Int)(pos:Int)(hl:gz l)(h0:0≤pos)(h1:pos≤1000000):∃ res outs,(∃ (e:Event) (pos2:Int),res = lZ e∧outs = [rdC l pos2]∧pos≤pos2∧pos2≤pos+8)∧F ic [.ptr (rdC l pos)] res outs:=by
 have p24:=aE l pos 24
 have p40:=aE l (pos+1) 40
 have p2:=aE l (pos+1+1) 2
 have p4:=aE l (pos+1+1+1) 4
 by_cases g2:ah l (pos+1+1) 2 = 0
 ·have r1:=aE l (pos+1+1+1+1) 40
  have r2:=aE l (pos+1+1+1+1+1) 300
  have r3:=aE l (pos+1+1+1+1) 4
  have r4:=aE l (pos+1+1+1+1+1) 4
  by_cases k0:ah l pos 24 < 9
  ·refine aR ?_
   conv=>whnf
   refine g 0 0 []<|J UA<|g 5 7 [.call (V.i (ah l pos 24)) ([rdC l (pos+1),[]])]<|J ⟨I,⟨UB,I,UV,UA,aa _ _ _ OM OM OM OM⟩,I,I⟩<|g 7 9 [.call (V.i (ah l (pos+1) 40)) ([rdC l (pos+1+1),[]])]<|J ⟨I,⟨UB,I,UV,UA,aa _ _ _ OM OM OM OM⟩,I,I⟩<|W.sq<|g 9 11 [.call (V.i (ah l (pos+1+1) 2)) ([rdC l (pos+1+1+1),[]])]<|J ⟨I,⟨UB,I,UV,UA,aa _ _ _ OM OM OM OM⟩,I,I⟩<|W.cn<|J (fun _=>(rg [.call (V.i (ah l (pos+1+1+1) 4)) ([rdC l (pos+1+1+1+1),[]])]<|J ⟨I,⟨UB,I,UV,UA,aa _ _ _ OM OM OM OM⟩,I,I⟩ (W.sq (g 11 15 []<|J UB (W.cn<|J (fun _=>(g 15 17 []<|J ⟨I,UD,I⟩ (W.ret ?_))) (noF tO)))))) (noF tO)
   refine EndsW.rt<|J UE ?_
   exact⟨⟨1,0,0,0⟩,_,rfl,rfl,by omega,by omega⟩
  by_cases k1:ah l pos 24 < 17
  ·refine aR ?_
   conv=>whnf
   refine g 0 0 []<|J UA<|g 5 7 [.call (V.i (ah l pos 24)) ([rdC l (pos+1),[]])]<|J ⟨I,⟨UB,I,UV,UA,aa _ _ _ OM OM OM OM⟩,I,I⟩<|g 7 9 [.call (V.i (ah l (pos+1) 40)) ([rdC l (pos+1+1),[]])]<|J ⟨I,⟨UB,I,UV,UA,aa _ _ _ OM OM OM OM⟩,I,I⟩<|W.sq<|g 9 11 [.call (V.i (ah l (pos+1+1) 2)) ([rdC l (pos+1+1+1),[]])]<|J ⟨I,⟨UB,I,UV,UA,aa _ _ _ OM OM OM OM⟩,I,I⟩<|W.cn<|J (fun _=>(rg [.call (V.i (ah l (pos+1+1+1) 4)) ([rdC l (pos+1+1+1+1),[]])]<|J ⟨I,⟨UB,I,UV,UA,aa _ _ _ OM OM OM OM⟩,I,I⟩ (W.sq (g 11 15 []<|J UB (W.cn<|J (noT dO) fun _=>(W.skip (W.sq ?_))))))) (noF tO)
   refine g 15 18 []<|J UB<|W.cn<|J (fun _=>(g 18 21 []<|J ⟨I,I,UD,I⟩ (W.ret (EndsW.rt<|J UE ?_)))) (noF tO)
   exact⟨⟨2,ah l (pos+1+1+1) 4,0,0⟩,_,rfl,rfl,by omega,by omega⟩
  by_cases k2:ah l pos 24 = 17
  ·refine aR ?_
   conv=>whnf
   refine g 0 0 []<|J UA<|g 5 7 [.call (V.i (ah l pos 24)) ([rdC l (pos+1),[]])]<|J ⟨I,⟨UB,I,UV,UA,aa _ _ _ OM OM OM OM⟩,I,I⟩<|g 7 9 [.call (V.i (ah l (pos+1) 40)) ([rdC l (pos+1+1),[]])]<|J ⟨I,⟨UB,I,UV,UA,aa _ _ _ OM OM OM OM⟩,I,I⟩<|W.sq<|g 9 11 [.call (V.i (ah l (pos+1+1) 2)) ([rdC l (pos+1+1+1),[]])]<|J ⟨I,⟨UB,I,UV,UA,aa _ _ _ OM OM OM OM⟩,I,I⟩<|W.cn<|J (fun _=>(rg [.call (V.i (ah l (pos+1+1+1) 4)) ([rdC l (pos+1+1+1+1),[]])]<|J ⟨I,⟨UB,I,UV,UA,aa _ _ _ OM OM OM OM⟩,I,I⟩ (W.sq (g 11 15 []<|J UB (W.cn<|J (noT dO) fun _=>(W.skip (W.sq ?_))))))) (noF tO)
   refine g 15 18 []<|J UB<|W.cn<|J (noT dO) fun _=>W.skip<|W.sq<|g 18 22 []<|J UB<|W.cn<|J (fun _=>(g 22 25 []<|J ⟨I,I,UD,I⟩ (W.ret (EndsW.rt<|J UE ?_)))) (noF tO)
   exact⟨⟨3,ah l (pos+1+1+1) 4,0,0⟩,_,rfl,rfl,by omega,by omega⟩
  by_cases k3:ah l pos 24 = 18
  ·refine aR ?_
   conv=>whnf
   refine g 0 0 []<|J UA<|g 5 7 [.call (V.i (ah l pos 24)) ([rdC l (pos+1),[]])]<|J ⟨I,⟨UB,I,UV,UA,aa _ _ _ OM OM OM OM⟩,I,I⟩<|g 7 9 [.call (V.i (ah l (pos+1) 40)) ([rdC l (pos+1+1),[]])]<|J ⟨I,⟨UB,I,UV,UA,aa _ _ _ OM OM OM OM⟩,I,I⟩<|W.sq<|g 9 11 [.call (V.i (ah l (pos+1+1) 2)) ([rdC l (pos+1+1+1),[]])]<|J ⟨I,⟨UB,I,UV,UA,aa _ _ _ OM OM OM OM⟩,I,I⟩<|W.cn<|J (fun _=>(rg [.call (V.i (ah l (pos+1+1+1) 4)) ([rdC l (pos+1+1+1+1),[]])]<|J ⟨I,⟨UB,I,UV,UA,aa _ _ _ OM OM OM OM⟩,I,I⟩ (W.sq (g 11 15 []<|J UB (W.cn<|J (noT dO) fun _=>(W.skip (W.sq ?_))))))) (noF tO)
   refine g 15 18 []<|J UB<|W.cn<|J (noT dO) fun _=>W.skip<|W.sq<|g 18 22 []<|J UB<|W.cn<|J (noT dO) fun _=>W.skip<|W.sq<|g 22 26 []<|J UB<|W.cn<|J (fun _=>(g 26 29 []<|J ⟨I,I,UD,I⟩ (W.ret ?_))) (noF tO)
   refine EndsW.rt<|J UE ?_
   exact⟨⟨4,ah l (pos+1+1+1) 4,0,0⟩,_,rfl,rfl,by omega,by omega⟩
  by_cases k4:ah l pos 24 = 19
  ·refine aR ?_
   conv=>whnf
   refine g 0 0 []<|J UA<|g 5 7 [.call (V.i (ah l pos 24)) ([rdC l (pos+1),[]])]<|J ⟨I,⟨UB,I,UV,UA,aa _ _ _ OM OM OM OM⟩,I,I⟩<|g 7 9 [.call (V.i (ah l (pos+1) 40)) ([rdC l (pos+1+1),[]])]<|J ⟨I,⟨UB,I,UV,UA,aa _ _ _ OM OM OM OM⟩,I,I⟩<|W.sq<|g 9 11 [.call (V.i (ah l (pos+1+1) 2)) ([rdC l (pos+1+1+1),[]])]<|J ⟨I,⟨UB,I,UV,UA,aa _ _ _ OM OM OM OM⟩,I,I⟩<|W.cn<|J (fun _=>(rg [.call (V.i (ah l (pos+1+1+1) 4)) ([rdC l (pos+1+1+1+1),[]])]<|J ⟨I,⟨UB,I,UV,UA,aa _ _ _ OM OM OM OM⟩,I,I⟩ (W.sq (g 11 15 []<|J UB (W.cn<|J (noT dO) fun _=>(W.skip (W.sq ?_))))))) (noF tO)
   refine g 15 18 []<|J UB<|W.cn<|J (noT dO) fun _=>W.skip<|W.sq<|g 18 22 []<|J UB<|W.cn<|J (noT dO) fun _=>W.skip<|W.sq<|g 22 26 []<|J UB<|W.cn<|J (noT dO) fun _=>W.skip<|W.sq ?_
   refine g 26 30 []<|J UB<|W.cn<|J (fun _=>(g 4 37 [.call (V.i (ah l (pos+1+1+1+1) 40)) ([rdC l (pos+1+1+1+1+1),[]]),.call (V.i (ah l (pos+1+1+1+1+1) 300)) ([rdC l (pos+1+1+1+1+1+1),[]])]<|J ⟨I,I,⟨UB,I,UV,UA,aa _ _ _ OM OM OM OM⟩,I,⟨UB,I,UV,UA,aa _ _ _ OM OM OM OM⟩,I,UD,I⟩ (W.ret (EndsW.rt<|J UE ?_)))) (noF tO)
   exact⟨⟨5,ah l (pos+1+1+1) 4,ah l (pos+1+1+1+1) 40,ah l (pos+1+1+1+1+1) 300⟩,_,rfl,rfl,by omega,by omega⟩
  by_cases k5:ah l pos 24 < 22
  ·refine aR ?_
   conv=>whnf
   refine g 0 0 []<|J UA<|g 5 7 [.call (V.i (ah l pos 24)) ([rdC l (pos+1),[]])]<|J ⟨I,⟨UB,I,UV,UA,aa _ _ _ OM OM OM OM⟩,I,I⟩<|g 7 9 [.call (V.i (ah l (pos+1) 40)) ([rdC l (pos+1+1),[]])]<|J ⟨I,⟨UB,I,UV,UA,aa _ _ _ OM OM OM OM⟩,I,I⟩<|W.sq<|g 9 11 [.call (V.i (ah l (pos+1+1) 2)) ([rdC l (pos+1+1+1),[]])]<|J ⟨I,⟨UB,I,UV,UA,aa _ _ _ OM OM OM OM⟩,I,I⟩<|W.cn<|J (fun _=>(rg [.call (V.i (ah l (pos+1+1+1) 4)) ([rdC l (pos+1+1+1+1),[]])]<|J ⟨I,⟨UB,I,UV,UA,aa _ _ _ OM OM OM OM⟩,I,I⟩ (W.sq (g 11 15 []<|J UB (W.cn<|J (noT dO) fun _=>(W.skip (W.sq ?_))))))) (noF tO)
   refine g 15 18 []<|J UB<|W.cn<|J (noT dO) fun _=>W.skip<|W.sq<|g 18 22 []<|J UB<|W.cn<|J (noT dO) fun _=>W.skip<|W.sq<|g 22 26 []<|J UB<|W.cn<|J (noT dO) fun _=>W.skip<|W.sq ?_
   refine g 26 30 []<|J UB<|W.cn<|J (noT dO) fun _=>W.skip<|W.sq<|g 4 38 []<|J UB<|W.cn<|J (fun _=>(g 38 44 [.call (V.i (ah l (pos+1+1+1+1) 4)) ([rdC l (pos+1+1+1+1+1),[]]),.call (V.i (ah l (pos+1+1+1+1+1) 4)) ([rdC l (pos+1+1+1+1+1+1),[]])]<|J ⟨I,⟨UB,I,UV,UA,aa _ _ _ OM OM OM OM⟩,I,⟨UB,I,UV,UA,aa _ _ _ OM OM OM OM⟩,I,UD,I⟩ (W.ret (EndsW.rt<|J UE ?_)))) (noF tO)
   exact⟨⟨6,ah l (pos+1+1+1+1) 4,ah l (pos+1+1+1+1+1) 4,0⟩,_,rfl,rfl,by omega,by omega⟩
  by_cases k6:ah l pos 24 = 22
  ·refine aR ?_
   conv=>whnf
   refine g 0 0 []<|J UA<|g 5 7 [.call (V.i (ah l pos 24)) ([rdC l (pos+1),[]])]<|J ⟨I,⟨UB,I,UV,UA,aa _ _ _ OM OM OM OM⟩,I,I⟩<|g 7 9 [.call (V.i (ah l (pos+1) 40)) ([rdC l (pos+1+1),[]])]<|J ⟨I,⟨UB,I,UV,UA,aa _ _ _ OM OM OM OM⟩,I,I⟩<|W.sq<|g 9 11 [.call (V.i (ah l (pos+1+1) 2)) ([rdC l (pos+1+1+1),[]])]<|J ⟨I,⟨UB,I,UV,UA,aa _ _ _ OM OM OM OM⟩,I,I⟩<|W.cn<|J (fun _=>(rg [.call (V.i (ah l (pos+1+1+1) 4)) ([rdC l (pos+1+1+1+1),[]])]<|J ⟨I,⟨UB,I,UV,UA,aa _ _ _ OM OM OM OM⟩,I,I⟩ (W.sq (g 11 15 []<|J UB (W.cn<|J (noT dO) fun _=>(W.skip (W.sq ?_))))))) (noF tO)
   refine g 15 18 []<|J UB<|W.cn<|J (noT dO) fun _=>W.skip<|W.sq<|g 18 22 []<|J UB<|W.cn<|J (noT dO) fun _=>W.skip<|W.sq<|g 22 26 []<|J UB<|W.cn<|J (noT dO) fun _=>W.skip<|W.sq ?_
   refine g 26 30 []<|J UB<|W.cn<|J (noT dO) fun _=>W.skip<|W.sq<|g 4 38 []<|J UB<|W.cn<|J (noT dO) fun _=>W.skip<|W.sq<|g 3 45 []<|J UB<|W.cn<|J (fun _=>(g 45 47 []<|J ⟨I,UD,I⟩ (W.ret ?_))) (noF tO)
   refine EndsW.rt<|J UE ?_
   exact⟨⟨7,0,0,0⟩,_,rfl,rfl,by omega,by omega⟩
  ·refine aR ?_
   conv=>whnf
   refine g 0 0 []<|J UA<|g 5 7 [.call (V.i (ah l pos 24)) ([rdC l (pos+1),[]])]<|J ⟨I,⟨UB,I,UV,UA,aa _ _ _ OM OM OM OM⟩,I,I⟩<|g 7 9 [.call (V.i (ah l (pos+1) 40)) ([rdC l (pos+1+1),[]])]<|J ⟨I,⟨UB,I,UV,UA,aa _ _ _ OM OM OM OM⟩,I,I⟩<|W.sq<|g 9 11 [.call (V.i (ah l (pos+1+1) 2)) ([rdC l (pos+1+1+1),[]])]<|J ⟨I,⟨UB,I,UV,UA,aa _ _ _ OM OM OM OM⟩,I,I⟩<|W.cn<|J (fun _=>(rg [.call (V.i (ah l (pos+1+1+1) 4)) ([rdC l (pos+1+1+1+1),[]])]<|J ⟨I,⟨UB,I,UV,UA,aa _ _ _ OM OM OM OM⟩,I,I⟩ (W.sq (g 11 15 []<|J UB (W.cn<|J (noT dO) fun _=>(W.skip (W.sq ?_))))))) (noF tO)
   refine g 15 18 []<|J UB<|W.cn<|J (noT dO) fun _=>W.skip<|W.sq<|g 18 22 []<|J UB<|W.cn<|J (noT dO) fun _=>W.skip<|W.sq<|g 22 26 []<|J UB<|W.cn<|J (noT dO) fun _=>W.skip<|W.sq ?_
   refine g 26 30 []<|J UB<|W.cn<|J (noT dO) fun _=>W.skip<|W.sq<|g 4 38 []<|J UB<|W.cn<|J (noT dO) fun _=>W.skip<|W.sq<|g 3 45 []<|J UB<|W.cn<|J (noT dO) fun _=>W.skip<|g 45 50 [.call (V.i (ah l (pos+1+1+1+1) 4)) ([rdC l (pos+1+1+1+1+1),[]])]<|J ⟨I,⟨UB,I,UV,UA,aa _ _ _ OM OM OM OM⟩,I,UD,I⟩ ?_
   refine W.ret<|EndsW.rt<|J UE ?_
   exact⟨⟨7,ah l (pos+1+1+1+1) 4,0,0⟩,_,rfl,rfl,by omega,by omega⟩
 ·have r1:=aE l (pos+1+1+1) 40
  have r2:=aE l (pos+1+1+1+1) 300
  have r3:=aE l (pos+1+1+1) 4
  have r4:=aE l (pos+1+1+1+1) 4
  by_cases k0:ah l pos 24 < 9
  ·refine aR ?_
   conv=>whnf
   refine g 0 0 []<|J UA<|g 5 7 [.call (V.i (ah l pos 24)) ([rdC l (pos+1),[]])]<|J ⟨I,⟨UB,I,UV,UA,aa _ _ _ OM OM OM OM⟩,I,I⟩<|g 7 9 [.call (V.i (ah l (pos+1) 40)) ([rdC l (pos+1+1),[]])]<|J ⟨I,⟨UB,I,UV,UA,aa _ _ _ OM OM OM OM⟩,I,I⟩<|W.sq<|g 9 11 [.call (V.i (ah l (pos+1+1) 2)) ([rdC l (pos+1+1+1),[]])]<|J ⟨I,⟨UB,I,UV,UA,aa _ _ _ OM OM OM OM⟩,I,I⟩<|W.cn<|J (noT dO) fun _=>W.skip<|W.sq<|g 11 15 []<|J UB<|W.cn<|J (fun _=>(g 15 17 []<|J ⟨I,UD,I⟩ (W.ret ?_))) (noF tO)
   refine EndsW.rt<|J UE ?_
   exact⟨⟨1,0,0,0⟩,_,rfl,rfl,by omega,by omega⟩
  by_cases k1:ah l pos 24 < 17
  ·refine aR ?_
   conv=>whnf
   refine g 0 0 []<|J UA<|g 5 7 [.call (V.i (ah l pos 24)) ([rdC l (pos+1),[]])]<|J ⟨I,⟨UB,I,UV,UA,aa _ _ _ OM OM OM OM⟩,I,I⟩<|g 7 9 [.call (V.i (ah l (pos+1) 40)) ([rdC l (pos+1+1),[]])]<|J ⟨I,⟨UB,I,UV,UA,aa _ _ _ OM OM OM OM⟩,I,I⟩<|W.sq<|g 9 11 [.call (V.i (ah l (pos+1+1) 2)) ([rdC l (pos+1+1+1),[]])]<|J ⟨I,⟨UB,I,UV,UA,aa _ _ _ OM OM OM OM⟩,I,I⟩<|W.cn<|J (noT dO) fun _=>W.skip<|W.sq<|g 11 15 []<|J UB<|W.cn<|J (noT dO) fun _=>W.skip<|W.sq ?_
   refine g 15 18 []<|J UB<|W.cn<|J (fun _=>(g 18 21 []<|J ⟨I,I,UD,I⟩ (W.ret (EndsW.rt<|J UE ?_)))) (noF tO)
   exact⟨⟨2,ah l (pos+1) 40,0,0⟩,_,rfl,rfl,by omega,by omega⟩
  by_cases k2:ah l pos 24 = 17
  ·refine aR ?_
   conv=>whnf
   refine g 0 0 []<|J UA<|g 5 7 [.call (V.i (ah l pos 24)) ([rdC l (pos+1),[]])]<|J ⟨I,⟨UB,I,UV,UA,aa _ _ _ OM OM OM OM⟩,I,I⟩<|g 7 9 [.call (V.i (ah l (pos+1) 40)) ([rdC l (pos+1+1),[]])]<|J ⟨I,⟨UB,I,UV,UA,aa _ _ _ OM OM OM OM⟩,I,I⟩<|W.sq<|g 9 11 [.call (V.i (ah l (pos+1+1) 2)) ([rdC l (pos+1+1+1),[]])]<|J ⟨I,⟨UB,I,UV,UA,aa _ _ _ OM OM OM OM⟩,I,I⟩<|W.cn<|J (noT dO) fun _=>W.skip<|W.sq<|g 11 15 []<|J UB<|W.cn<|J (noT dO) fun _=>W.skip<|W.sq ?_
   refine g 15 18 []<|J UB<|W.cn<|J (noT dO) fun _=>W.skip<|W.sq<|g 18 22 []<|J UB<|W.cn<|J (fun _=>(g 22 25 []<|J ⟨I,I,UD,I⟩ (W.ret (EndsW.rt<|J UE ?_)))) (noF tO)
   exact⟨⟨3,ah l (pos+1) 40,0,0⟩,_,rfl,rfl,by omega,by omega⟩
  by_cases k3:ah l pos 24 = 18
  ·refine aR ?_
   conv=>whnf
   refine g 0 0 []<|J UA<|g 5 7 [.call (V.i (ah l pos 24)) ([rdC l (pos+1),[]])]<|J ⟨I,⟨UB,I,UV,UA,aa _ _ _ OM OM OM OM⟩,I,I⟩<|g 7 9 [.call (V.i (ah l (pos+1) 40)) ([rdC l (pos+1+1),[]])]<|J ⟨I,⟨UB,I,UV,UA,aa _ _ _ OM OM OM OM⟩,I,I⟩<|W.sq<|g 9 11 [.call (V.i (ah l (pos+1+1) 2)) ([rdC l (pos+1+1+1),[]])]<|J ⟨I,⟨UB,I,UV,UA,aa _ _ _ OM OM OM OM⟩,I,I⟩<|W.cn<|J (noT dO) fun _=>W.skip<|W.sq<|g 11 15 []<|J UB<|W.cn<|J (noT dO) fun _=>W.skip<|W.sq ?_
   refine g 15 18 []<|J UB<|W.cn<|J (noT dO) fun _=>W.skip<|W.sq<|g 18 22 []<|J UB<|W.cn<|J (noT dO) fun _=>W.skip<|W.sq<|g 22 26 []<|J UB<|W.cn<|J (fun _=>(g 26 29 []<|J ⟨I,I,UD,I⟩ (W.ret ?_))) (noF tO)
   refine EndsW.rt<|J UE ?_
   exact⟨⟨4,ah l (pos+1) 40,0,0⟩,_,rfl,rfl,by omega,by omega⟩
  by_cases k4:ah l pos 24 = 19
  ·refine aR ?_
   conv=>whnf
   refine g 0 0 []<|J UA<|g 5 7 [.call (V.i (ah l pos 24)) ([rdC l (pos+1),[]])]<|J ⟨I,⟨UB,I,UV,UA,aa _ _ _ OM OM OM OM⟩,I,I⟩<|g 7 9 [.call (V.i (ah l (pos+1) 40)) ([rdC l (pos+1+1),[]])]<|J ⟨I,⟨UB,I,UV,UA,aa _ _ _ OM OM OM OM⟩,I,I⟩<|W.sq<|g 9 11 [.call (V.i (ah l (pos+1+1) 2)) ([rdC l (pos+1+1+1),[]])]<|J ⟨I,⟨UB,I,UV,UA,aa _ _ _ OM OM OM OM⟩,I,I⟩<|W.cn<|J (noT dO) fun _=>W.skip<|W.sq<|g 11 15 []<|J UB<|W.cn<|J (noT dO) fun _=>W.skip<|W.sq ?_
   refine g 15 18 []<|J UB<|W.cn<|J (noT dO) fun _=>W.skip<|W.sq<|g 18 22 []<|J UB<|W.cn<|J (noT dO) fun _=>W.skip<|W.sq<|g 22 26 []<|J UB<|W.cn<|J (noT dO) fun _=>W.skip<|W.sq ?_
   refine g 26 30 []<|J UB<|W.cn<|J (fun _=>(g 4 37 [.call (V.i (ah l (pos+1+1+1) 40)) ([rdC l (pos+1+1+1+1),[]]),.call (V.i (ah l (pos+1+1+1+1) 300)) ([rdC l (pos+1+1+1+1+1),[]])]<|J ⟨I,I,⟨UB,I,UV,UA,aa _ _ _ OM OM OM OM⟩,I,⟨UB,I,UV,UA,aa _ _ _ OM OM OM OM⟩,I,UD,I⟩ (W.ret (EndsW.rt<|J UE ?_)))) (noF tO)
   exact⟨⟨5,ah l (pos+1) 40,ah l (pos+1+1+1) 40,ah l (pos+1+1+1+1) 300⟩,_,rfl,rfl,by omega,by omega⟩
  by_cases k5:ah l pos 24 < 22
  ·refine aR ?_
   conv=>whnf
   refine g 0 0 []<|J UA<|g 5 7 [.call (V.i (ah l pos 24)) ([rdC l (pos+1),[]])]<|J ⟨I,⟨UB,I,UV,UA,aa _ _ _ OM OM OM OM⟩,I,I⟩<|g 7 9 [.call (V.i (ah l (pos+1) 40)) ([rdC l (pos+1+1),[]])]<|J ⟨I,⟨UB,I,UV,UA,aa _ _ _ OM OM OM OM⟩,I,I⟩<|W.sq<|g 9 11 [.call (V.i (ah l (pos+1+1) 2)) ([rdC l (pos+1+1+1),[]])]<|J ⟨I,⟨UB,I,UV,UA,aa _ _ _ OM OM OM OM⟩,I,I⟩<|W.cn<|J (noT dO) fun _=>W.skip<|W.sq<|g 11 15 []<|J UB<|W.cn<|J (noT dO) fun _=>W.skip<|W.sq ?_
   refine g 15 18 []<|J UB<|W.cn<|J (noT dO) fun _=>W.skip<|W.sq<|g 18 22 []<|J UB<|W.cn<|J (noT dO) fun _=>W.skip<|W.sq<|g 22 26 []<|J UB<|W.cn<|J (noT dO) fun _=>W.skip<|W.sq ?_
   refine g 26 30 []<|J UB<|W.cn<|J (noT dO) fun _=>W.skip<|W.sq<|g 4 38 []<|J UB<|W.cn<|J (fun _=>(g 38 44 [.call (V.i (ah l (pos+1+1+1) 4)) ([rdC l (pos+1+1+1+1),[]]),.call (V.i (ah l (pos+1+1+1+1) 4)) ([rdC l (pos+1+1+1+1+1),[]])]<|J ⟨I,⟨UB,I,UV,UA,aa _ _ _ OM OM OM OM⟩,I,⟨UB,I,UV,UA,aa _ _ _ OM OM OM OM⟩,I,UD,I⟩ (W.ret (EndsW.rt<|J UE ?_)))) (noF tO)
   exact⟨⟨6,ah l (pos+1+1+1) 4,ah l (pos+1+1+1+1) 4,0⟩,_,rfl,rfl,by omega,by omega⟩
  by_cases k6:ah l pos 24 = 22
  ·refine aR ?_
   conv=>whnf
   refine g 0 0 []<|J UA<|g 5 7 [.call (V.i (ah l pos 24)) ([rdC l (pos+1),[]])]<|J ⟨I,⟨UB,I,UV,UA,aa _ _ _ OM OM OM OM⟩,I,I⟩<|g 7 9 [.call (V.i (ah l (pos+1) 40)) ([rdC l (pos+1+1),[]])]<|J ⟨I,⟨UB,I,UV,UA,aa _ _ _ OM OM OM OM⟩,I,I⟩<|W.sq<|g 9 11 [.call (V.i (ah l (pos+1+1) 2)) ([rdC l (pos+1+1+1),[]])]<|J ⟨I,⟨UB,I,UV,UA,aa _ _ _ OM OM OM OM⟩,I,I⟩<|W.cn<|J (noT dO) fun _=>W.skip<|W.sq<|g 11 15 []<|J UB<|W.cn<|J (noT dO) fun _=>W.skip<|W.sq ?_
   refine g 15 18 []<|J UB<|W.cn<|J (noT dO) fun _=>W.skip<|W.sq<|g 18 22 []<|J UB<|W.cn<|J (noT dO) fun _=>W.skip<|W.sq<|g 22 26 []<|J UB<|W.cn<|J (noT dO) fun _=>W.skip<|W.sq ?_
   refine g 26 30 []<|J UB<|W.cn<|J (noT dO) fun _=>W.skip<|W.sq<|g 4 38 []<|J UB<|W.cn<|J (noT dO) fun _=>W.skip<|W.sq<|g 3 45 []<|J UB<|W.cn<|J (fun _=>(g 45 47 []<|J ⟨I,UD,I⟩ (W.ret ?_))) (noF tO)
   refine EndsW.rt<|J UE ?_
   exact⟨⟨7,0,0,0⟩,_,rfl,rfl,by omega,by omega⟩
  ·refine aR ?_
   conv=>whnf
   refine g 0 0 []<|J UA<|g 5 7 [.call (V.i (ah l pos 24)) ([rdC l (pos+1),[]])]<|J ⟨I,⟨UB,I,UV,UA,aa _ _ _ OM OM OM OM⟩,I,I⟩<|g 7 9 [.call (V.i (ah l (pos+1) 40)) ([rdC l (pos+1+1),[]])]<|J ⟨I,⟨UB,I,UV,UA,aa _ _ _ OM OM OM OM⟩,I,I⟩<|W.sq<|g 9 11 [.call (V.i (ah l (pos+1+1) 2)) ([rdC l (pos+1+1+1),[]])]<|J ⟨I,⟨UB,I,UV,UA,aa _ _ _ OM OM OM OM⟩,I,I⟩<|W.cn<|J (noT dO) fun _=>W.skip<|W.sq<|g 11 15 []<|J UB<|W.cn<|J (noT dO) fun _=>W.skip<|W.sq ?_
   refine g 15 18 []<|J UB<|W.cn<|J (noT dO) fun _=>W.skip<|W.sq<|g 18 22 []<|J UB<|W.cn<|J (noT dO) fun _=>W.skip<|W.sq<|g 22 26 []<|J UB<|W.cn<|J (noT dO) fun _=>W.skip<|W.sq ?_
   refine g 26 30 []<|J UB<|W.cn<|J (noT dO) fun _=>W.skip<|W.sq<|g 4 38 []<|J UB<|W.cn<|J (noT dO) fun _=>W.skip<|W.sq<|g 3 45 []<|J UB<|W.cn<|J (noT dO) fun _=>W.skip<|g 45 50 [.call (V.i (ah l (pos+1+1+1) 4)) ([rdC l (pos+1+1+1+1),[]])]<|J ⟨I,⟨UB,I,UV,UA,aa _ _ _ OM OM OM OM⟩,I,UD,I⟩ ?_
   refine W.ret<|EndsW.rt<|J UE ?_
   exact⟨⟨7,ah l (pos+1+1+1) 4,0,0⟩,_,rfl,rfl,by omega,by omega⟩
theorem sS(l:List Int)(pos:Int)(h:gz l∧0≤pos∧pos≤1000000):∃ x:Event×Int,F ic [.ptr (rdC l pos)] (lZ x.1) [rdC l x.2]∧pos≤x.2∧x.2≤pos+8:=by
 obtain⟨res,outs,⟨e,pos2,rfl,rfl,h1,h2⟩,hF⟩:=KB l pos h.1 h.2.1 h.2.2
 exact⟨(e,pos2),hF,h1,h2⟩
open Classical in
noncomputable def evP(l:List Int)(pos:Int):Event×Int:=if h:gz l∧0≤pos∧pos≤1000000 then(sS l pos h).choose else(NH,pos)
theorem ii(l:List Int)(pos:Int)(hl:gz l)(h0:0≤pos)(h1:pos≤1000000):F ic [.ptr (rdC l pos)] (lZ (evP l pos).1) [rdC l (evP l pos).2]:=by
 have h:gz l∧0≤pos∧pos≤1000000:=⟨hl,h0,h1⟩
 rw[evP,dif_pos h]
 exact(sS l pos h).choose_spec.1
theorem My(l:List Int)(pos:Int):pos≤(evP l pos).2∧(evP l pos).2≤pos+8:=by
 unfold evP
 split
 ·rename_i h;exact(sS l pos h).choose_spec.2
 ·exact⟨Int.le_refl _,by dsimp only;omega⟩
theorem NX{p:Plan}{k:Int}(h:ai p.tasks = 0)(hk:1≤k∧k≤8):BossOk (cE k 0 []) p:=by
 refine⟨h,hk,⟨Int.le_refl _,by show 0≤1000000;omega⟩,pm h,fun q=>?_,fun _=>⟨rfl,rfl,rfl,rfl,rfl,rfl,rfl,rfl⟩⟩
 cases q
theorem Ke{n:Nat}(h:n < 8):aq (yN n):=by
 refine⟨⟨?_,?_⟩,⟨?_,?_⟩,⟨?_,?_⟩,.inl rfl,.inl ⟨rfl,rfl,rfl,rfl,rfl,rfl,rfl⟩⟩ <;> (simp only[yN];omega)
theorem Gy{p:Plan}{key:ByteArray}{k:Int}(h:NewOk p key k):WorldOk (jP p key k):=by
 rw[uC h]
 obtain⟨h1,h2,h3⟩:=h
 have hl:(crew k.toNat).length = k.toNat:=kS _
 refine⟨h1,h3,⟨by show 1≤(crew k.toNat).length;omega,by show(crew k.toNat).length≤8;omega⟩,Nat.zero_le _,?_,fun x hx=>(by cases hx),vC (NX h1 h2),?_⟩
 case refine_2 =>
  show(bd (cE k 0 []) p).workers = ((crew k.toNat).length:Int)
  rw[hl,vB]
  show k = _
  omega
 intro i x hi hx
 change (crew k.toNat)[i]? = some x at hx
 change i < (crew k.toNat).length at hi
 rw[kS]at hi
 have e:x = yN i:=by
  unfold crew at hx
  rw[List.getElem?_map,List.getElem?_range hi]at hx
  exact(Option.some.inj hx).symm
 subst e
 exact⟨Ke OM,rfl⟩
theorem sA(w:World):(eG w).plan = w.plan:=by unfold eG;split <;> rfl
theorem CL(w:World)(s:Parcel):(bu w s).plan = w.plan:=by
 unfold bu
 cases cR s.text w.key with
 |none=>rfl
 |some m=>dsimp only;split;rfl;split <;> rfl
theorem iL(w:World)(k:Int):(dc w k).plan = w.plan:=by
 unfold dc;split
 ·rw[CL];rfl
 ·rfl
theorem A8(w:World)(e:Event):(doW w e).plan = w.plan:=by
 unfold doW
 split;exact sA w
 split;exact iL w _
 split;rfl
 split;rfl
 split;rfl
 split
 ·split;rfl
  split <;> rfl
 split
 ·split;rfl
  split <;> rfl
 ·rfl
end Go.K
end
section
open Go Go.Tm Go.Proofs
namespace Go.K
/-! What is told in a world without forgery is the truth (for FnSent, FnTop, FnLive). -/
theorem HA{p:Plan}(h:ai p.tasks = 0){n:Nat}{t:Task}(ht:p.tasks[n]? = some t):atS (cu p) n = bO t.name (cC (cu p) t.deps):=by
 unfold atS;rw[Int.toNat_natCast,JF h ht];rfl
structure MsgTrue (p:Plan) (m:Message):Prop where
 offer:m.kind = 1→(0≤m.task∧m.task < p.tasks.length)∧m.inputs = cC (cu p) (gR p.tasks m.task.toNat)
 result:m.kind = 3→(0≤m.task∧m.task < p.tasks.length)∧m.text = atS (cu p) m.task
theorem El{p:Plan}{m:Message}(h1:¬m.kind = 1)(h3:¬m.kind = 3):MsgTrue p m:=⟨fun q=>absurd q h1,fun q=>absurd q h3⟩
structure WorkTrue (p:Plan) (w:Worker):Prop where
 busy:w.state = 1→(0≤w.task∧w.task < p.tasks.length)∧w.inputs = cC (cu p) (gR p.tasks w.task.toNat)
 told:w.state = 2→(0≤w.task∧w.task < p.tasks.length)∧w.text = atS (cu p) w.task
theorem sM{p:Plan}{w:Worker}(h:w.state = 0):WorkTrue p w:=⟨fun q=>by omega,fun q=>by omega⟩
theorem HF{p:Plan}{w:Worker}{m:Message}(hw:WorkTrue p w)(hm:MsgTrue p m):WorkTrue p (gB w p.tasks m):=by
 unfold gB
 split
 ·split
  ·rename_i h
   exact⟨fun _=>hm.offer h.1,fun q=>absurd q (by show ¬(1:Int) = 2;omega)⟩
  ·split
   ·exact sM rfl
   ·exact hw
 ·exact hw
theorem yS{p:Plan}{w:Worker}{k:Int}(h:w.state = 2∨¬k = 3)(hk:¬k = 1)(hw:WorkTrue p w):MsgTrue p (dL w k):=by
 refine⟨fun q=>absurd q hk,fun q=>?_⟩
 have q3:k = 3:=q
 rcases h with h|h
 ·obtain⟨h1,h2⟩:=hw.told h
  have e1:(dL w k).task = w.task:=if_pos q3
  have e2:(dL w k).text = w.text:=if_pos q3
  rw[e1,e2]
  exact⟨h1,h2⟩
 ·exact absurd q3 h
theorem Ii{p:Plan}{w:Worker}(hc:ai p.tasks = 0)(hs:w.state = 1)(hw:WorkTrue p w):WorkTrue p (eU w p.tasks):=by
 obtain⟨⟨h1,h2⟩,h3⟩:=hw.busy hs
 refine⟨fun q=>absurd q (by show ¬2 = 1;omega),fun _=>⟨⟨h1,h2⟩,?_⟩⟩
 obtain⟨t,ht⟩:=aj (xs:=p.tasks) (n:=w.task.toNat) OM
 have e:=HA hc ht
 show bO (uE p.tasks w.task) w.inputs = atS (cu p) w.task
 rw[h3,A0 ht,cF ht,←e]
 exact congrArg (atS (cu p)) OM
theorem zm{p:Plan}{w:Worker}(hw:WorkTrue p w):WorkTrue p (lm w):=⟨hw.busy,hw.told⟩
theorem iC{p:Plan}{w:Worker}(s:Int)(hw:WorkTrue p w):WorkTrue p (bT w s):=⟨hw.busy,hw.told⟩
theorem vf{p:Plan}{w:Worker}(hc:ai p.tasks = 0)(hw:WorkTrue p w):WorkTrue p (dW w p.tasks).worker∧∀ m∈(dW w p.tasks).out,MsgTrue p m:=by
 have onlyw:∀ {x:Worker},WorkTrue p x→WorkTrue p (⟨x,[]⟩:Acted).worker∧∀ m∈(⟨x,[]⟩:Acted).out,MsgTrue p m:=fun h=>⟨h,fun m hm=>by cases hm⟩
 have tell:∀ {x:Worker} {k:Int},WorkTrue p x→(x.state = 2∨¬k = 3)→¬k = 1→WorkTrue p (tU x k).worker∧∀ m∈(tU x k).out,MsgTrue p m:=fun{x k} h h1 h2=>⟨iC 0 h,fun m hm=>by
  rw[List.mem_singleton.1 hm];exact yS h1 h2 (iC 0 h)⟩
 unfold dW
 split
 ·exact onlyw hw
 split
 ·rename_i hs
  split
  ·have hd:=Ii hc hs hw
   exact⟨hd,fun m hm=>by rw[List.mem_singleton.1 hm];exact yS (.inl rfl) OM hd⟩
  ·split
   ·exact tell (zm hw) (.inr OM) OM
   ·exact onlyw (iC _ (zm hw))
 split
 ·rename_i hs
  split
  ·exact tell hw (.inl hs) OM
  ·exact onlyw (iC _ hw)
 ·split
  ·exact tell hw (.inr OM) OM
  ·exact onlyw (iC _ hw)
end Go.K
end
section
open Go Go.Tm Go.Proofs
namespace Go.K
/-! A coordinator whose log tells the truth. -/
def KU(p:Plan)(s:ByteArray):Prop:=∀ e,dn s = some e→¬e.kind = 1→e.text = atS (cu p) e.task
def fu(p:Plan)(l:Log):Prop:=∀ s∈l.safe++l.loose,KU p s
theorem z0{b:Boss}{p:Plan}(hv:BossOk b p)(hup:b.up = true)(ht:fu p b.log){i:Nat}(hn:¬atS b.results i = emp):atS b.results i = atS (cu p) i:=by
 have e:=(hv.up hup).res
 have hi:=(sE hv.code).back i
 rw[e]at hn ⊢
 obtain⟨s,hs,x,hx,hk,hta,htx⟩:=hi hn
 have htx2:x.text = atS (bV b p).results i:=htx
 rw[←htx2,ht s hs x hx hk,hta]
theorem HR{b:Boss}{p:Plan}(hv:BossOk b p)(hup:b.up = true)(ht:fu p b.log){ds:List Int}(h0:∀ d∈ds,0≤d)(hr:ca b.results ds):cC b.results ds = cC (cu p) ds:=by
 unfold cC
 refine List.map_congr_left fun d hd=>?_
 have h1:=h0 d hd
 have e:((d.toNat:Nat):Int) = d:=by omega
 have hq:=z0 hv hup ht (i:=d.toNat) (by unfold atS;rw[Int.toNat_natCast];exact hr d hd)
 unfold atS at hq
 rw[Int.toNat_natCast]at hq
 exact hq
theorem tz{b:Boss}{p:Plan}(hv:BossOk b p)(hup:b.up = true)(ht:fu p b.log):∀ n:Nat,n≤p.tasks.length→∀ m∈(aC (cI b) p.tasks n).out,MsgTrue p m
 |0,_,m,hm=>by cases hm
 |n+1,hn,m,hm=>by
  have ih:=tz hv hup ht n OM
  by_cases hc:CanHand (cI b) p.tasks (aC (cI b) p.tasks n) n
  ·cases hf:gQ (aC (cI b) p.tasks n).seats with
   |none=>rw[iv hf]at hm;exact ih m hm
   |some s =>
    rw[iu hc hf]at hm
    rcases List.mem_append.1 hm with hm|hm
    ·exact ih m hm
    ·rw[List.mem_singleton.1 hm]
     obtain⟨t,htn⟩:=aj (xs:=p.tasks) (n:=n) OM
     have hd:=(bv hv.plan htn).2.2.2
     refine⟨fun _=>⟨⟨Int.natCast_nonneg n,by show(n:Int) < _;omega⟩,?_⟩,fun q=>absurd q (by show ¬1 = 3;omega)⟩
     show cC b.results (gR p.tasks n) = cC (cu p) (gR p.tasks (n:Int).toNat)
     rw[Int.toNat_natCast]
     exact HR hv hup ht (fun d hd2=>by rw[cF htn]at hd2;have:=hd d hd2;omega) hc.ready
  ·rw[fp hc]at hm;exact ih m hm
theorem Fk{b:Boss}{p:Plan}(hv:BossOk b p)(ht:fu p b.log):fu p (eY b p.tasks).boss.log∧∀ m∈(eY b p.tasks).out,MsgTrue p m:=by
 by_cases h0:b.now = 1000000
 ·rw[kF h0];exact⟨ht,fun m hm=>by cases hm⟩
 by_cases hup:b.up = false
 ·rw[nJ h0 hup];exact⟨ht,fun m hm=>by cases hm⟩
 have hup2:b.up = true:=by cases hb:b.up;exact absurd hb hup;rfl
 have ho:=tz hv hup2 ht p.tasks.length (Nat.le_refl _)
 by_cases hs:b.since+1 = 2
 ·rw[fX h0 hup hs]
  refine⟨fun s h=>ht s (by rwa [List.append_nil]at h),fun m hm=>?_⟩
  rcases List.mem_append.1 hm with hm|hm
  ·exact ho m hm
  ·obtain⟨o,_,rfl⟩:=List.mem_map.1 hm
   exact El (by show ¬(4:Int) = 1;omega) (by show ¬(4:Int) = 3;omega)
 ·rw[io h0 hup hs];exact⟨ht,ho⟩
theorem JZ(b:Boss)(m:Message):(uM b m).log = b.log:=by unfold uM;split <;> rfl
theorem J0(b:Boss)(m:Message):(vG b m).log = b.log:=by
 unfold vG;split
 ·unfold kf;split <;> rfl
 ·rfl
theorem Fl{b:Boss}{p:Plan}{m:Message}(hv:BossOk b p)(ht:fu p b.log)(hm:MsgTrue p m):fu p (fK b p.tasks m).log:=by
 by_cases hf:ForB b m
 ·obtain⟨hkd,_,ep⟩:=kR hf
  rcases hkd with hk|hk|hk
  ·rw[kp hf hk];exact ht
  ·by_cases hl:m.task < p.tasks.length
   ·rw[mP hf hk hl]
    have e:(dA b p.tasks m).log = (pj b p.tasks m).log:=by rw[dA,JZ,J0]
    rw[e]
    unfold pj;split
    ·rename_i hc
     intro s hs
     have hs2:s∈(b.log.safe++b.log.loose) ++ [b9 ⟨2,b.epoch,m.task,m.text⟩]:=by rw[List.append_assoc];exact hs
     rcases List.mem_append.1 hs2 with hs2|hs2
     ·exact ht s hs2
     ·intro e he hk1
      rw[List.mem_singleton.1 hs2]at he
      have hok:=fk he
      have hb:=lh he
      by_cases q:(⟨2,b.epoch,m.task,m.text⟩:Entry).ok
      ·rw[lg q]at he
       cases he
       exact(hm.result hk).2
      ·exfalso
       have hz:b9 ⟨2,b.epoch,m.task,m.text⟩ = emp:=if_neg q
       rw[hz]at he
       have:=lh he
       have h4:=sN hok
       rw[this]at h4
       have:emp.size = 0:=rfl
       omega
    ·exact ht
   ·rw[mQ hf hk hl];exact ht
  ·rw[ko hf hk]
   unfold rp;split <;> exact ht
 ·rw[xm hf];exact ht
theorem Fu{b:Boss}{p:Plan}(k:Int)(ht:fu p b.log):fu p (gD b k).log:=by
 unfold gD;split
 ·exact ht
 ·intro s hs
  rw[List.append_nil]at hs
  rcases List.mem_append.1 hs with hs|hs
  ·exact ht s (List.mem_append_left _ hs)
  ·exact ht s (List.mem_append_right _ (List.mem_of_mem_take hs))
theorem wq{b:Boss}{p:Plan}(ht:fu p b.log):fu p (bd b p).log:=by
 unfold bd;split
 ·intro s hs
  have hs2:s∈b.log.safe++ [b9 (epE ((ar p b.log.safe).epoch+1))]:=by
   have h2:s∈(b.log.safe++ [b9 (epE ((ar p b.log.safe).epoch+1))]) ++ []:=hs
   rwa [List.append_nil]at h2
  rcases List.mem_append.1 hs2 with hs2|hs2
  ·exact ht s (List.mem_append_left _ hs2)
  ·intro e he hk
   rw[List.mem_singleton.1 hs2]at he
   exfalso
   by_cases q:(epE ((ar p b.log.safe).epoch+1)).ok
   ·rw[lg q]at he
    cases he
    exact hk rfl
   ·have hz:b9 (epE ((ar p b.log.safe).epoch+1)) = emp:=if_neg q
    rw[hz]at he
    have h4:=sN (fk he)
    rw[lh he]at h4
    have:emp.size = 0:=rfl
    omega
 ·exact ht
end Go.K
end
section
open Go Go.Tm Go.Proofs
namespace Go.K
/-! A world in which nothing was forged tells the truth. -/
structure SentOk (p:Plan) (key:ByteArray) (n:Nat) (s:Parcel) (m:Message):Prop where
 read:cR s.frm key = some m
 to:m.to = s.kind
 frm:m.frm≤n
 tru:MsgTrue p m
structure WTrue (w:World):Prop where
 log:fu w.plan w.boss.log
 work:∀ x∈w.workers,WorkTrue w.plan x
 sent:∀ s∈w.flight,∃ m,SentOk w.plan w.key w.workers.length s m
def eF(w:World):Prop:=w.forged = emp→WTrue w
theorem zb{p:Plan}{key:ByteArray}{n:Nat}:∀ (ms:List Message) {xs:List Parcel},(∀ s∈xs,∃ m,SentOk p key n s m)→(∀ m∈ms,MsgTrue p m∧m.frm≤n)→∀ s∈ms.foldl (lj key) xs,∃ m,SentOk p key n s m
 |[],xs,h,_=>h
 |m :: ms,xs,h,hm=>by
  refine zb ms (xs:=lj key xs m) ?_ (fun y hy=>hm y (List.mem_cons_of_mem _ hy))
  unfold lj;split
  ·rename_i q
   intro s hs
   rcases List.mem_append.1 hs with hs|hs
   ·exact h s hs
   ·obtain⟨h1,h2⟩:=hm m (List.mem_cons_self ..)
    rw[List.mem_singleton.1 hs]
    exact⟨m,HP q.1 q.2.1,rfl,h2,h1⟩
  ·exact h
theorem JJ{w:Worker}{ts:List Task}:∀ m∈(dW w ts).out,m.frm = w.number:=by
 intro m hm
 unfold dW at hm
 split at hm
 ·cases hm
 split at hm
 ·split at hm
  ·rw[List.mem_singleton.1 hm];rfl
  ·split at hm
   ·rw[List.mem_singleton.1 hm];rfl
   ·cases hm
 split at hm
 ·split at hm
  ·rw[List.mem_singleton.1 hm];rfl
  ·cases hm
 ·split at hm
  ·rw[List.mem_singleton.1 hm];rfl
  ·cases hm
theorem wP{b:Boss}{ts:List Task}:∀ n:Nat,∀ m∈(aC b ts n).out,m.frm = 0
 |0,m,hm=>by cases hm
 |n+1,m,hm=>by
  have ih:=wP (b:=b) (ts:=ts) n
  by_cases hc:CanHand b ts (aC b ts n) n
  ·cases hf:gQ (aC b ts n).seats with
   |none=>rw[iv hf]at hm;exact ih m hm
   |some s =>
    rw[iu hc hf]at hm
    rcases List.mem_append.1 hm with hm|hm
    ·exact ih m hm
    ·rw[List.mem_singleton.1 hm];rfl
  ·rw[fp hc]at hm;exact ih m hm
theorem Iq{b:Boss}{ts:List Task}:∀ m∈(eY b ts).out,m.frm = 0:=by
 intro m hm
 by_cases h0:b.now = 1000000
 ·rw[kF h0]at hm;cases hm
 by_cases hup:b.up = false
 ·rw[nJ h0 hup]at hm;cases hm
 by_cases hs:b.since+1 = 2
 ·rw[fX h0 hup hs]at hm
  rcases List.mem_append.1 hm with hm|hm
  ·exact wP _ m hm
  ·obtain⟨o,_,rfl⟩:=List.mem_map.1 hm;rfl
 ·rw[io h0 hup hs]at hm;exact wP _ m hm
theorem zY{w:World}(h:WorldOk w)(hs:eF w):eF (eG w):=by
 by_cases h0:1000000≤w.boss.now
 ·rw[mO h0];exact hs
 rw[AN h0]
 intro hf
 obtain⟨t1,t2,t3⟩:=hs hf
 rw[kT h.boss]
 obtain⟨b1,b2⟩:=Fk h.boss t1
 have hok:∀ x∈w.workers,aq x∧x.number≤w.workers.length:=fun x hx=>by
  obtain⟨i,hi⟩:=List.getElem?_of_mem hx
  have hl:=(List.getElem?_eq_some_iff.1 hi).1
  have hc:=h.crew i x hl hi
  exact⟨hc.ok,by rw[hc.num];omega⟩
 refine⟨b1,fun y hy=>?_,?_⟩
 ·obtain⟨x,hx,rfl⟩:=List.mem_map.1 hy
  show WorkTrue w.plan (ed x w.plan).worker
  rw[cY (hok x hx).1 h.plan]
  exact(vf h.plan (t2 x hx)).1
 ·show ∀ s∈pt w.flight _ w.key,∃ m,SentOk w.plan w.key (w.workers.map _).length s m
  rw[List.length_map]
  refine zb _ t3 fun m hm=>?_
  rw[List.take_length]at hm
  rcases List.mem_append.1 hm with hm|hm
  ·exact⟨b2 m hm,by rw[Iq m hm];omega⟩
  ·obtain⟨l,hl,hm2⟩:=List.mem_flatten.1 hm
   rw[List.take_length]at hl
   obtain⟨x,hx,rfl⟩:=List.mem_map.1 hl
   obtain⟨k1,k2⟩:=hok x hx
   rw[cY k1 h.plan]at hm2
   exact⟨(vf h.plan (t2 x hx)).2 m hm2,by rw[JJ m hm2];exact k2⟩
theorem fy{w:World}{fl:List Parcel}(hs:eF w)(h:∀ s∈fl,∃ t∈w.flight,t.frm = s.frm∧t.kind = s.kind):eF (cz w fl):=by
 intro hf
 obtain⟨t1,t2,t3⟩:=hs hf
 refine⟨t1,t2,fun s hs=>?_⟩
 obtain⟨t,ht,e1,e2⟩:=h s hs
 obtain⟨m,q1,q2,q3,q4⟩:=t3 t ht
 exact⟨m,by rw[←e1];exact q1,by rw[←e2];exact q2,q3,q4⟩
theorem Gz{α:Type}{xs:List α}{n:Nat}{x y:α}(h:y∈xs.set n x):y∈xs∨y = x:=List.mem_or_eq_of_mem_set h
theorem vd{w:World}{s:Parcel}(h:WorldOk w)(hs:eF w)(hsent:w.forged = emp→∃ m,SentOk w.plan w.key w.workers.length s m):eF (bu w s):=by
 cases hm:cR s.text w.key with
 |none=>rw[sX hm];exact hs
 |some m =>
  have hne:¬s.text = emp:=fun e=>by rw[e]at hm;have:cR emp w.key = none:=ja (by decide);rw[this]at hm;cases hm
  have key:uO w s = emp→w.forged = emp∧MsgTrue w.plan m:=fun e=>by
   by_cases q2:w.forged = emp
   ·refine⟨q2,?_⟩
    by_cases q1:s.text = s.frm
    ·obtain⟨x,r,_,_,t⟩:=hsent q2
     rw[q1,r]at hm
     cases hm
     exact t
    ·rw[A5 q1 q2]at e;exact absurd e hne
   ·rw[wQ q2]at e;exact absurd e q2
  by_cases h0:s.kind = 0
  ·rw[mL hm h0,kU h.boss]
   intro hf
   obtain⟨f1,f2⟩:=key hf
   obtain⟨t1,t2,t3⟩:=hs f1
   exact⟨Fl h.boss t1 f2,t2,t3⟩
  ·by_cases hx:jZ w s.kind
   ·obtain⟨x,hx1,_,hok,_⟩:=il h hx
    rw[mK hm h0 hx hx1,dh hok h.plan]
    intro hf
    obtain⟨f1,f2⟩:=key hf
    obtain⟨t1,t2,t3⟩:=hs f1
    refine⟨t1,fun y hy=>?_,?_⟩
    ·rcases Gz hy with hy|rfl
     ·exact t2 y hy
     ·exact HF (t2 x (List.mem_of_getElem? hx1)) f2
    ·show ∀ s∈w.flight,∃ m,SentOk w.plan w.key (w.workers.set _ _).length s m
     rw[List.length_set];exact t3
   ·rw[pK hm h0 hx]
    intro hf
    obtain⟨f1,_⟩:=key hf
    obtain⟨t1,t2,t3⟩:=hs f1
    exact⟨t1,t2,t3⟩
theorem yC{w:World}(k:Int)(h:WorldOk w)(hs:eF w):eF (dc w k):=by
 by_cases ha:w.flight.length≤2000∧0≤k∧k < w.flight.length
 ·obtain⟨s,hs1⟩:=aj (xs:=w.flight) (n:=k.toNat) OM
  rw[sW ha hs1]
  have hw:=fJ (fl:=bD w.flight k) h (by have:=rV w.flight k;omega) fun x hx=>h.par x (iR hx)
  refine vd hw (fy hs fun x hx=>⟨x,iR hx,rfl,rfl⟩) fun hf=>?_
  exact(hs hf).sent s (List.mem_of_getElem? hs1)
 ·rw[xa ha];exact hs
theorem KT{xs:List Parcel}{k pl ma:Int}{x:Parcel}(h:x∈me xs k pl ma):∃ t∈xs,t.frm = x.frm∧t.kind = x.kind:=by
 unfold me at h;split at h
 ·cases hy:xs[k.toNat]? with
  |none=>rw[hy]at h;exact⟨x,h,rfl,rfl⟩
  |some y =>
   rw[hy]at h
   rcases List.mem_or_eq_of_mem_set h with h|h
   ·exact⟨x,h,rfl,rfl⟩
   ·refine⟨y,List.mem_of_getElem? hy,?_⟩
    rw[h];unfold N7
    split <;> exact⟨rfl,rfl⟩
 ·exact⟨x,h,rfl,rfl⟩
theorem Fh{w:World}(e:Event)(h:WorldOk w)(hs:eF w):eF (doW w e):=by
 by_cases h1:e.kind = 1
 ·rw[Qv h1];exact zY h hs
 by_cases h2:e.kind = 2
 ·rw[Qu h2];exact yC _ h hs
 by_cases h3:e.kind = 3
 ·rw[Qt h3];exact fy (fl:=oi w.flight e.a) hs fun x hx=>⟨x,Hp hx,rfl,rfl⟩
 by_cases h4:e.kind = 4
 ·rw[Qs h4];exact fy (fl:=bD w.flight e.a) hs fun x hx=>⟨x,iR hx,rfl,rfl⟩
 by_cases h5:e.kind = 5
 ·rw[Qr h5];exact fy (fl:=me w.flight e.a e.b e.c) hs fun x hx=>KT hx
 have wset:∀ {x y:Worker} {k:Int},w.workers[(k - 1).toNat]? = some x→y.state = 0∨WorkTrue w.plan y→eF ⟨w.plan,w.key,w.boss,w.workers.set (k - 1).toNat y,w.flight,w.forged⟩:=fun{x y k} hx hy hf=>by
  obtain⟨t1,t2,t3⟩:=hs hf
  refine⟨t1,fun z hz=>?_,?_⟩
  ·rcases Gz hz with hz|rfl
   ·exact t2 z hz
   ·rcases hy with hy|hy
    ·exact sM hy
    ·exact hy
  ·show ∀ s∈w.flight,∃ m,SentOk w.plan w.key (w.workers.set _ _).length s m
   rw[List.length_set];exact t3
 by_cases h6:e.kind = 6
 ·by_cases ha:e.a = 0
  ·rw[ME h6 ha,na h.boss]
   intro hf
   obtain⟨t1,t2,t3⟩:=hs hf
   exact⟨Fu _ t1,t2,t3⟩
  ·by_cases hx:jZ w e.a
   ·obtain⟨x,hx1,_,hok,_⟩:=il h hx
    rw[MC h6 hx hx1]
    exact wset hx1 (.inl (by unfold lO;rw[if_pos hok]))
   ·rw[MD h6 ha hx];exact hs
 by_cases h7:e.kind = 7
 ·by_cases ha:e.a = 0
  ·rw[MB h7 ha,kV h.boss]
   intro hf
   obtain⟨t1,t2,t3⟩:=hs hf
   exact⟨wq t1,t2,t3⟩
  ·by_cases hx:jZ w e.a
   ·obtain⟨x,hx1,_,hok,_⟩:=il h hx
    rw[Mz h7 hx hx1]
    refine fun hf=>wset hx1 ?_ hf
    unfold iY;rw[if_pos hok]
    split
    ·exact .inr ((hs hf).work x (List.mem_of_getElem? hx1))
    ·exact .inl rfl
   ·rw[MA h7 ha hx];exact hs
 ·have e0:doW w e = w:=by
   unfold doW
   rw[if_neg h1,if_neg h2,if_neg h3,if_neg h4,if_neg h5,if_neg h6,if_neg h7]
  rw[e0];exact hs
end Go.K
end
section
open Go Go.Tm Go.Proofs
namespace Go.K
def Mx:List Event:=[⟨1,0,0,0⟩,⟨2,0,0,0⟩,⟨2,0,0,0⟩,⟨2,0,0,0⟩]
theorem zy(fs:List Event):(fs++Mx).length = fs.length+4:=by rw[List.length_append];rfl
theorem Ij(p:Plan)(n:Nat):∀ x∈crew n,WorkTrue p x:=fun x hx=>by
 obtain⟨i,_,rfl⟩:=List.mem_map.1 hx
 exact sM rfl
theorem B3(p:Plan)(key:ByteArray)(k:Int):eF (jP p key k):=by
 by_cases h:NewOk p key k
 ·rw[uC h]
  intro _
  exact⟨wq (fun s hs=>by cases hs),Ij _ _,fun s hs=>by cases hs⟩
 ·rw[uD h]
  intro _
  exact⟨fun s hs=>(by cases hs),fun x hx=>(by cases hx),fun s hs=>(by cases hs)⟩
theorem yl(code:List Int)(hlen:code.length≤1048576)(h8:∀ x∈code,0≤x∧x≤255):∃ res outs,(∃ es:List Event,res = .own BC (es.map fF)∧outs = [[]]∧es.length≤1000)∧F pY [.val (.t (u8s code))] res outs:=by
 have hu:=Nq h8
 have co:=ox code OM
 generalize code.take 2000 = l at co hu
 have p40:=aE l 0 40
 refine pR ?_
 conv=>whnf
 refine g 0 0 []<|J UA<|g 8 10 [.call (V.tup [V.tup (rdC l 0)]) [[]]]<|J ⟨I,Zai,I,I⟩<|g 10 13 [.call (V.i (ah l 0 40)) ([rdC l (0+1),[]]),.i (10+ah l 0 40)]<|J ⟨I,⟨UB,I,UV,UA,aa _ _ _ OM OM OM OM⟩,wO,I,I⟩<|g 13 14 []<|J UB<|W.sq<|g 0 0 []<|J UA<|W.blk<|W.lp (fun s (x:Nat×List Event×Int)=>⟨[(0,s.s 0),(2,s.s 2),(3,s.s 3),(4,s.s 4),(5,.ref ⟨5,none,0⟩),(6,.i x.1)],[(9,[.t (u8s l),.t (.i x.2.2)]),(5,[.own BC (x.2.1.map fF)])],[]⟩) (fun(x:Nat×List Event×Int)=>(x.1:Int)≤10+ah l 0 40∧x.2.1.length≤17 * x.1∧1≤x.2.2∧x.2.2≤1+10 * x.1) (fun(x:Nat×List Event×Int)=>(10+ah l 0 40 - x.1).toNat) ((0,[],1)) [some 9,some 13] [] ⟨rfl,Zay,⟨Zdy,Zdm⟩,I⟩ ⟨by omega,by simp⟩ ?_
 rintro⟨i,es,q⟩ ⟨i1,i2,i3,i4⟩
 dsimp only at i1 i2 i3 i4
 by_cases hi:(i:Int) < 10+ah l 0 40
 ·have ce:=ii l q hu OM OM
  obtain⟨e1,e2⟩:=My l q
  generalize(evP l q).1 = e at ce
  generalize(evP l q).2 = u at ce e1 e2
  have p5:=aE l u 5
  have p6:=aE l (u+1) 5
  have m1:es.map fF++ [fF e] = (es++ [e]).map fF:=by rw[List.map_append];rfl
  have m2:(es++ [e]).length = es.length+1:=by rw[List.length_append,List.length_singleton]
  by_cases k5:ah l u 5 = 0
  ·conv=>whnf
   refine W.sq<|g 14 16 []<|J UC<|W.cn<|J (fun _=>(W.skip (W.sq (W.blk (g 16 24 [.call (lZ e) ([rdC l u])]<|J ⟨I,I,⟨UA,I,UA,UA,AS⟩,⟨UD,I⟩,Zde,I,I⟩ (g 24 26 [.call (V.i (ah l u 5)) ([rdC l (u+1),[]])]<|J ⟨I,⟨UB,I,UV,UA,aa _ _ _ OM OM OM OM⟩,I,I⟩ (W.cn<|J (fun _=>(g 26 29 [.call (V.i (ah l (u+1) 5)) ([rdC l (u+1+1),[]])]<|J ⟨I,⟨UB,I,UV,UA,aa _ _ _ OM OM OM OM⟩,I,I⟩ (W.blk ?_))) (noF tO)))))))) (noF tO)
   refine W.lp (fun s (y:Int×List Event)=>⟨[(0,s.s 0),(2,s.s 2),(3,s.s 3),(4,s.s 4),(5,.ref ⟨5,none,0⟩),(6,s.s 6),(7,.i y.1)],[(9,[s.c 9 0,s.c 9 1]),(5,[.own BC (y.2.map fF)])],[]⟩) (fun(y:Int×List Event)=>0≤y.1∧y.1≤4∧(y.2.length:Int)≤es.length+1+4 * (4 - y.1)) (fun(y:Int×List Event)=>y.1.toNat) ((ah l (u+1) 5,es++ [e])) [some 9,some 23] [] ⟨rfl,⟨rfl,rfl,rfl,rfl,rfl,rfl,rfl,I⟩,⟨⟨rfl,⟨rfl,⟨rfl,I⟩⟩⟩,⟨⟨rfl,⟨(congrArg (V.own _) (m1)),I⟩⟩,I⟩⟩,I⟩ ?_ ?_
   ·exact⟨p6.1,by dsimp only;omega,by dsimp only;rw[m2];omega⟩
   rintro⟨k,fs⟩ ⟨j1,j2,j3⟩
   dsimp only at j1 j2 j3
   by_cases hk:0 < k
   ·have m3:fs.map fF++ [fF ⟨1,0,0,0⟩,fF ⟨2,0,0,0⟩,fF ⟨2,0,0,0⟩,fF ⟨2,0,0,0⟩] = (fs++Mx).map fF:=by rw[List.map_append];rfl
    have m4:=zy fs
    conv=>whnf
    refine W.sq<|g 29 30 []<|J UB<|W.cn<|J (fun _=>(W.skip (W.sq (W.blk (rg []<|J ⟨I,I,I,I,I,⟨UD,UD,UD,UD,I⟩,Zde,I,I⟩ (rg [.i (Prod.fst (k,fs) - 1)]<|J Zdc ?_)))))) (noF tO)
    refine⟨(k - 1,fs++Mx),[some 9,some 39],[],⟨rfl,Zb1,⟨Zdy,⟨⟨rfl,⟨(congrArg (V.own _) (m3)),I⟩⟩,I⟩⟩,I⟩,?_,?_⟩
    rotate_left
    (dsimp only;omega)
    dsimp only
    omega
    all_goals first|exact⟨by omega,by omega,by dsimp only;rw[zy,Int.natCast_add];omega⟩|(dsimp only;omega)|omega
   ·conv=>whnf
    refine W.sq<|g 29 30 []<|J UB<|W.cn<|J (noT dO) fun _=>W.exit<|rg [.i ((↑(Prod.fst (i,es,q)):Int) +1)]<|J Zdc ?_
    refine⟨(i+1,fs,u+1+1),[some 9,some 5],[],⟨rfl,Zay,⟨Zdy,Zdm⟩,I⟩,?_,?_⟩
    rotate_left
    (dsimp only;omega)
    dsimp only
    omega
    all_goals first|exact⟨by omega,by dsimp only;omega,by dsimp only;omega,by dsimp only;omega⟩|(dsimp only;omega)|omega
  ·conv=>whnf
   refine W.sq<|g 14 16 []<|J UC<|W.cn<|J (fun _=>(W.skip (W.sq (W.blk (g 16 24 [.call (lZ e) ([rdC l u])]<|J ⟨I,I,⟨UA,I,UA,UA,AS⟩,⟨UD,I⟩,Zde,I,I⟩ (g 24 26 [.call (V.i (ah l u 5)) ([rdC l (u+1),[]])]<|J ⟨I,⟨UB,I,UV,UA,aa _ _ _ OM OM OM OM⟩,I,I⟩ (W.cn<|J (noT dO) fun _=>(W.skip (rg [.i ((↑(Prod.fst (i,es,q)):Int) +1)]<|J Zdc ?_))))))))) (noF tO)
   refine⟨(i+1,es++ [e],u+1),[some 9,some 23],[],⟨rfl,Zay,⟨Zdy,⟨⟨rfl,⟨(congrArg (V.own _) (m1)),I⟩⟩,I⟩⟩,I⟩,?_,?_⟩
   rotate_left
   (dsimp only;omega)
   dsimp only
   omega
   all_goals first|exact⟨by omega,by rw[m2];omega,by dsimp only;omega,by dsimp only;omega⟩|(dsimp only;omega)|omega
 ·conv=>whnf
  refine W.sq<|g 14 16 []<|J UC<|W.cn<|J (noT dO) fun _=>W.exit<|g 3 41 []<|J UB<|W.ret<|EndsW.rt<|J UB ?_
  exact⟨es,rfl,rfl,by omega⟩
end Go.K
end
section
open Go Go.Tm Go.Proofs
namespace Go.K
theorem qr(w:World)(h:DoLim w):F p9 [.val (xg w)] (aD w) [[]]:=by
 obtain⟨l1,l2,l3,l4,l5,l6,l7,l8⟩:=h
 have c1:=j8 w.plan l2
 have c2:=Ba w.boss l3
 have c3:=cX w.flight OM
 refine qi ?_
 conv=>whnf
 refine g 0 0 []<|J Zec<|gd 6 18 [[],[],[.call (dC w.plan) [[]]],[],[],[.call (aG w.boss) [[]]],[],[],[.call (V.own pkd (List.map bL w.flight)) [[]]],[],[],[],[],[],[]] ?_
 conv=>whnf
 refine J ⟨I,I,Zai,I,I,Za0,I,I,Zai,I,UA,I,UL,I,UA,I⟩<|J KR<|g 18 20 []<|J UC<|g 20 21 []<|J UV<|W.sq<|g 3 4 []<|J UC<|W.blk<|W.lp (fun s (n:Nat)=>⟨[(0,s.s 0),(1,s.s 1),(2,s.s 2),(21,s.s 21),(22,s.s 22),(23,.i n)],[(2,[s.c 2 0,s.c 2 1,s.c 2 2,s.c 2 3,s.c 2 4,s.c 2 5,s.c 2 6,s.c 2 7,s.c 2 8,s.c 2 9,s.c 2 10,s.c 2 11,s.c 2 12,s.c 2 13,s.c 2 14,s.c 2 15,s.c 2 16]),(1,[.own dX (w.plan.tasks.map aB),.t (.s w.key),.t (.i w.boss.workers),.t (.b w.boss.up),.t (.i w.boss.now),.t (.i w.boss.since),.t (.i w.boss.epoch),.t (.i w.boss.given),.own [false] (w.boss.log.safe.map ak),.own [false] (w.boss.log.loose.map ak),.own [false] (w.boss.results.map ak),.own fD (w.boss.jobs.map aW),.own cT (w.boss.seats.map aS),.own cU (w.boss.owed.map bi),.own eB ((w.workers.take n).map av),.own pkd (w.flight.map bL),.t (.s w.forged)])],[]⟩) (fun(n:Nat)=>n≤w.workers.length) (fun(n:Nat)=>w.workers.length - n) (0) [some 2,some 1] [] ⟨rfl,⟨Zav,rfl,rfl,rfl,rfl,rfl,I⟩,⟨Zdb,⟨Zdb,I⟩⟩,I⟩ OM ?_
 intro n hn
 by_cases hn2:n < w.workers.length
 ·obtain⟨x,hx⟩:=aj hn2
  have hxi:=l5 x (List.mem_of_getElem? hx)
  have c4:=eS x OM
  conv=>whnf
  refine g 0 0 []<|J UA<|W.sq<|W.cn<|J (fun _=>(W.skip (W.sq (W.blk (g 24 27 [.x (av x)]<|J ⟨Zdg,I,I,UK,I⟩ (rgd [[],[],[],[.call (aA x) [[]]],[],[],[],[]] ?_)))))) (noF SI)
  conv=>whnf
  refine⟨⟨I,I,I,Zc9,⟨UK,I⟩,Zde,I,UA,I⟩,by kernel_rfl,?_⟩
  refine rg [.i ((n:Int) +1)]<|J Zdj ?_
  refine⟨n+1,[some 2,some 1],[],⟨rfl,⟨Zav,rfl,rfl,rfl,rfl,rfl,I⟩,⟨Zdb,⟨⟨rfl,⟨rfl,⟨rfl,⟨rfl,⟨rfl,⟨rfl,⟨rfl,⟨rfl,⟨rfl,⟨rfl,⟨rfl,⟨rfl,⟨rfl,⟨rfl,⟨rfl,⟨(congrArg (V.own _) (nj AS)),Zad⟩⟩⟩⟩⟩⟩⟩⟩⟩⟩⟩⟩⟩⟩⟩⟩,I⟩⟩,I⟩,?_,?_⟩
  rotate_left
  (dsimp only;omega)
  dsimp only
  omega
 ·have e:w.workers.take n = w.workers:=bC OM
  conv=>whnf
  refine g 0 0 []<|J UA<|W.sq<|W.cn<|J (noT SI) fun _=>W.exit<|g 21 36 []<|J Zdk<|RT ?_
  (simp[*];done)
theorem dZ(w:World)(k:Int)(h:w.workers.length≤8)(hk:1≤k∧k≤w.workers.length):F gI [.ptr (cellsOf (aD w)),.val (.i k)] (.ptr ⟨0,some (14,(k - 1).toNat,11),0⟩) [cellsOf (aD w),[]]:=by
 obtain⟨x,hx⟩:=aj (xs:=w.workers) (n:=(k - 1).toNat) OM
 refine gL ?_
 conv=>whnf
 refine g 0 0 []<|J UA<|W.sq<|g 5 11 [.call (V.b (decide (1≤k∧k≤(↑(List.length (List.map av w.workers)):Int)))) [[],[],[]]]<|J ⟨I,I,I,I,I,I,⟨UC,I,UU,UA,ac _ _ _⟩,I⟩<|W.cn<|J (fun _=>(g 15 19 [.i (k - 1),.n (Int.toNat (k - 1))]<|J ⟨I,I,I,I,I,wO,Zdl,I,I⟩ (RT ?_))) (noF SI)
 rfl
theorem dk(w:World)(k:Int)(h:w.workers.length≤8)(hk:¬(1≤k∧k≤w.workers.length)):F gI [.ptr (cellsOf (aD w)),.val (.i k)] (.t (.v (.pointer none))) [cellsOf (aD w),[]]:=by
 refine gL ?_
 conv=>whnf
 refine g 0 0 []<|J UA<|W.sq<|g 5 11 [.call (V.b (decide (1≤k∧k≤(↑(List.length (List.map av w.workers)):Int)))) [[],[],[]]]<|J ⟨I,I,I,I,I,I,⟨UC,I,UU,UA,ac _ _ _⟩,I⟩<|W.cn<|J (noT SI) fun _=>W.skip<|g 0 2 []<|J UA<|RT ?_
 rfl
theorem qs(w:World)(h:WorldOk w):F qa [.ptr (cellsOf (aD w))] (.tup []) [cellsOf (aD (eG w))]:=by
 obtain⟨l1,l2,l3,l4,l5,l6,l7,l8⟩:=fM h
 have hnow:=h.boss.now
 by_cases h0:1000000≤w.boss.now
 ·rw[mO h0]
  have h1:w.boss.now = 1000000:=by omega
  refine iW ?_
  conv=>whnf
  refine W.sq<|g 6 11 []<|J UF<|W.cn<|J (fun _=>(RT ?_)) (noF tO)
  rfl
 ·rw[AN h0]
  have c1:=su w.boss w.plan h.boss l3
  obtain⟨s1,s2,s3⟩:=tQ w.plan l3
  have s4:=zQ w.boss w.plan
  rw[kT h.boss]at s1 s2 s3 s4 ⊢
  generalize eY w.boss w.plan.tasks = L at c1 s1 s2 s3 s4 ⊢
  refine iW ?_
  conv=>whnf
  refine W.sq<|g 6 11 []<|J UF<|W.cn<|J (noT dO) fun _=>W.skip<|gd 11 20 [[],[],[],[],[],[],[],[.call (V.own bZ (List.map aF (Led.out L))) ([cellsOf (aG (Led.boss L)),[]])],[]] ?_
  conv=>whnf
  refine J ⟨I,I,I,I,I,I,I,Zbq,I,I⟩<|J KR<|W.sq<|g 20 23 []<|J UF<|W.blk<|W.lp (fun s (n:Nat)=>⟨[(0,s.s 0),(2,.ref ⟨2,none,0⟩),(23,s.s 23),(24,s.s 24),(25,.i n)],[(2,[.own bZ ((L.out++gE w.plan w.workers n).map aF)]),(62,[.own dX (w.plan.tasks.map aB),.t (.s w.key),.t (.i L.boss.workers),.t (.b L.boss.up),.t (.i L.boss.now),.t (.i L.boss.since),.t (.i L.boss.epoch),.t (.i L.boss.given),.own [false] (L.boss.log.safe.map ak),.own [false] (L.boss.log.loose.map ak),.own [false] (L.boss.results.map ak),.own fD (L.boss.jobs.map aW),.own cT (L.boss.seats.map aS),.own cU (L.boss.owed.map bi),.own eB ((eT (fun x=>(ed x w.plan).worker) w.workers n).map av),.own pkd (w.flight.map bL),.t (.s w.forged)])],[]⟩) (fun(n:Nat)=>n≤w.workers.length) (fun(n:Nat)=>w.workers.length - n) (0) [some 19,some 62] [] ⟨rfl,Za8,⟨⟨rfl,⟨(congrArg (V.own _) (by rw[wx,List.append_nil])),I⟩⟩,⟨Zdb,I⟩⟩,I⟩ OM ?_
  intro n hn
  have hl:=gJ (fun x=>(ed x w.plan).worker) w.workers n
  have ha:=DY w.plan w.workers n
  by_cases hn2:n < w.workers.length
  ·obtain⟨x,hx⟩:=aj hn2
   have hxi:=l5 x (List.mem_of_getElem? hx)
   have hwk:=(h.crew n x hn2 hx).ok
   have c4:=o5 x w.plan hwk h.plan
   rw[←cY hwk h.plan]at c4
   have e1:=kw (f:=fun x=>(ed x w.plan).worker) (g:=av) hx
   have e2:(L.out++gE w.plan w.workers n).map aF++ (ed x w.plan).out.map aF = (L.out++gE w.plan w.workers (n+1)).map aF:=by rw[←wy hx,←List.map_append,List.append_assoc]
   have hxo:=(nc x w.plan).1
   generalize ed x w.plan = A at c4 e1 e2 hxo
   conv=>whnf
   refine g 0 0 []<|J UA<|W.sq<|W.cn<|J (fun _=>(W.skip (W.sq (W.blk (g 26 30 [.n (n),.x (av x),.x (av x)]<|J ⟨I,Zdf,aV AS,I,I,⟨I,I,I,I,I,I,I,I,aV AS,I,I,I⟩,I⟩ (gd 30 36 [[],[],[],[],[],[.call (oI A) [[],[]]],[],[]] ?_)))))) (noF SI)
   conv=>whnf
   refine⟨⟨I,I,I,I,I,⟨Zd2,I,UV,UA,AS⟩,I,UL,I⟩,by kernel_rfl,?_⟩
   refine gd 36 44 [[],[],[],[],[],[],[],[.n (n)],[.x (List.set (av x) (0+1+1+1+1+1+1+1+1) T.hole)]] ?_
   conv=>whnf
   refine J ⟨I,I,I,I,I,I,I,Zdf,⟨UK,gh LN⟩,I⟩<|J KR ?_
   rw[List.set_set]
   refine rg []<|J ⟨I,I,I,Zde,I,I⟩<|rg [.i ((n:Int) +1)]<|J Zdj ?_
   refine⟨n+1,[some 47,some 62],[],⟨rfl,Za8,⟨⟨rfl,⟨(congrArg (V.own _) (e2)),I⟩⟩,⟨⟨rfl,⟨rfl,⟨rfl,⟨rfl,⟨rfl,⟨rfl,⟨rfl,⟨rfl,⟨rfl,⟨rfl,⟨rfl,⟨rfl,⟨rfl,⟨rfl,⟨rfl,⟨(congrArg (V.own _) (e1)),Zad⟩⟩⟩⟩⟩⟩⟩⟩⟩⟩⟩⟩⟩⟩⟩⟩,I⟩⟩,I⟩,?_,?_⟩
   rotate_left
   (dsimp only;omega)
   dsimp only
   omega
  ·obtain rfl:n = w.workers.length:=by omega
   have e:=gK (fun x=>(ed x w.plan).worker) w.workers (Nat.le_refl _)
   have c5:=CH w.flight (L.out++gE w.plan w.workers w.workers.length) w.key OM (by rw[List.length_append];omega) (fun m hm=>by
    rcases List.mem_append.1 hm with hm|hm
    ·have:=s3 m hm;omega
    ·rw[DZ hm];exact Nat.zero_le _)
   conv=>whnf
   refine g 0 0 []<|J UA<|W.sq<|W.cn<|J (noT SI) fun _=>W.exit<|rgd [[],[],[],[],[],[],[],[],[],[],[.call (V.own pkd (List.map bL (pt w.flight (Led.out L++gE w.plan w.workers (List.length w.workers)) w.key))) [[],[],[]]],[],[],[]] ?_
   conv=>whnf
   refine J ⟨I,I,I,I,I,I,I,I,I,I,⟨UC,I,UU,UA,AS⟩,I,I,UA,I⟩<|J KR<|EndsW.nm<|J I<|J ?_ ?_
   rfl
   all_goals (rw[e];try rfl)
theorem o4(w:World)(s:Parcel)(h:WorldOk w)(hs:ParOk s):F g8 [.ptr (cellsOf (aD w)),.val (Qk s.kind s.frm s.text)] (.tup []) [cellsOf (aD (bu w s)),[]]:=by
 obtain⟨l1,l2,l3,l4,l5,l6,l7,l8⟩:=fM h
 obtain⟨⟨p1,p2⟩,p3,p4⟩:=hs
 have c4:=hJ s.text w.key OM
 cases hm:cR s.text w.key with
 |none =>
  rw[hm]at c4
  rw[sX hm]
  refine aY ?_
  conv=>whnf
  refine g 1 2 []<|J ⟨UC,I⟩<|gd 7 17 [[],[],[],[],[],[],[.call (ew none) [[],[]]],[],[],[],[],[],[]] ?_
  conv=>whnf
  refine J Zdp<|J KR<|W.sq<|g 17 18 []<|J UB<|W.cn<|J (fun _=>(RT ?_)) (noF rfl)
  rfl
 |some m =>
  rw[hm]at c4
  have hmi:=(cG (De hm)).1
  have cases3:∀ g:ByteArray,uO w s = g→((s.text = s.frm∧g = w.forged)∨(¬s.text = s.frm∧¬w.forged = emp∧g = w.forged)∨(¬s.text = s.frm∧w.forged = emp∧g = s.text)):=fun g e=>by
   by_cases q1:s.text = s.frm
   ·exact .inl ⟨q1,by rw[←e,DG q1]⟩
   ·by_cases q2:w.forged = emp
    ·exact .inr (.inr ⟨q1,q2,by rw[←e,A5 q1 q2]⟩)
    ·exact .inr (.inl ⟨q1,q2,by rw[←e,wQ q2]⟩)
  by_cases h0:s.kind = 0
  ·rw[mL hm h0]
   have c5:=sv w.boss w.plan m h.boss l3 OM
   rw[kU h.boss]
   show F _ _ _ [cellsOf (aD ⟨w.plan,w.key,fK w.boss w.plan.tasks m,w.workers,w.flight,_⟩),_]
   generalize fK w.boss w.plan.tasks m = L at c5 ⊢
   generalize hgg:uO w s = g
   rcases cases3 g hgg with⟨q1,rfl⟩|⟨q1,q2,rfl⟩|⟨q1,q2,rfl⟩
   ·refine aY ?_
    conv=>whnf
    refine g 1 2 []<|J ⟨UC,I⟩<|gd 7 17 [[],[],[],[],[],[],[.call (ew (some m)) [[],[]]],[],[],[],[],[],[]] ?_
    conv=>whnf
    refine J Zdp<|J KR<|W.sq<|g 17 18 []<|J UB<|W.cn<|J (noT rfl) fun _=>W.skip<|W.sq<|g 5 30 [BF,BF,BF,BF,BF,BF]<|J ⟨I,I,I,I,I,I,nO,nO,nO,nO,nO,nO,I⟩<|W.cn<|J (noT rfl) fun _=>W.skip<|g 30 38 []<|J UC<|W.cn<|J (fun _=>(rgd [[],[],[],[],[],[],[],[],[.call (V.tup []) ([cellsOf (aG L),[],[]])]] ?_)) (noF tO)
    conv=>whnf
    refine⟨⟨I,I,I,I,I,I,I,I,⟨UC,I,⟨I,UA,UH,I⟩,UA,AS⟩,I⟩,by kernel_rfl,?_⟩
    refine EndsW.nm<|J I (J ?_ rfl)
    rfl
   ·refine aY ?_
    conv=>whnf
    refine g 1 2 []<|J ⟨UC,I⟩<|gd 7 17 [[],[],[],[],[],[],[.call (ew (some m)) [[],[]]],[],[],[],[],[],[]] ?_
    conv=>whnf
    refine J Zdp<|J KR<|W.sq<|g 17 18 []<|J UB<|W.cn<|J (noT rfl) fun _=>W.skip<|W.sq<|g 5 30 [BT,BT,BT,BT,BT,BT]<|J Zdx<|W.cn<|J (noT dO) fun _=>W.skip<|g 30 38 []<|J UC<|W.cn<|J (fun _=>(rgd [[],[],[],[],[],[],[],[],[.call (V.tup []) ([cellsOf (aG L),[],[]])]] ?_)) (noF tO)
    conv=>whnf
    refine⟨⟨I,I,I,I,I,I,I,I,⟨UC,I,⟨I,UA,UH,I⟩,UA,AS⟩,I⟩,by kernel_rfl,?_⟩
    refine EndsW.nm<|J I (J ?_ rfl)
    rfl
   ·refine aY ?_
    conv=>whnf
    refine g 1 2 []<|J ⟨UC,I⟩<|gd 7 17 [[],[],[],[],[],[],[.call (ew (some m)) [[],[]]],[],[],[],[],[],[]] ?_
    conv=>whnf
    refine J Zdp<|J KR<|W.sq<|g 17 18 []<|J UB<|W.cn<|J (noT rfl) fun _=>W.skip<|W.sq<|g 5 30 [BT,BT,BT,BT,BT,BT]<|J Zdx<|W.cn<|J (fun _=>(rg []<|J ⟨I,I,I,I,I,UA,I⟩ (g 30 38 []<|J UC (W.cn<|J (fun _=>(rgd [[],[],[],[],[],[],[],[],[.call (V.tup []) ([cellsOf (aG L),[],[]])]] ?_)) (noF tO))))) (noF tO)
    conv=>whnf
    refine⟨⟨I,I,I,I,I,I,I,I,⟨UC,I,⟨I,UA,UH,I⟩,UA,AS⟩,I⟩,by kernel_rfl,?_⟩
    refine EndsW.nm<|J I (J ?_ rfl)
    rfl
  ·by_cases h1:s.kind≤w.workers.length
   ·obtain⟨x,hx⟩:=aj (xs:=w.workers) (n:=(s.kind - 1).toNat) OM
    rw[mK hm h0 ⟨by omega,h1⟩ hx]
    have hwk:=(h.crew _ x OM hx).ok
    have hxi:=l5 x (List.mem_of_getElem? hx)
    have c5:=o6 x w.plan m hwk h.plan OM
    rw[dh hwk h.plan]
    show F _ _ _ [cellsOf (aD ⟨w.plan,w.key,w.boss,w.workers.set _ (gB x w.plan.tasks m),w.flight,_⟩),_]
    generalize gB x w.plan.tasks m = L at c5 ⊢
    have es:=iP (xs:=w.workers) (n:=(s.kind - 1).toNat) (x:=L)
    generalize hgg:uO w s = g
    rcases cases3 g hgg with⟨q1,rfl⟩|⟨q1,q2,rfl⟩|⟨q1,q2,rfl⟩
    ·have cw:=dZ w s.kind l4 ⟨by omega,h1⟩
     refine aY ?_
     conv=>whnf
     refine g 1 2 []<|J ⟨UC,I⟩<|gd 7 17 [[],[],[],[],[],[],[.call (ew (some m)) [[],[]]],[],[],[],[],[],[]] ?_
     conv=>whnf
     refine J Zdp<|J KR<|W.sq<|g 17 18 []<|J UB<|W.cn<|J (noT rfl) fun _=>W.skip<|W.sq<|g 5 30 [BF,BF,BF,BF,BF,BF]<|J ⟨I,I,I,I,I,I,nO,nO,nO,nO,nO,nO,I⟩<|W.cn<|J (noT rfl) fun _=>W.skip<|g 30 38 []<|J UC<|W.cn<|J (noT dO) fun _=>g 38 52 [.call (V.ptr {root:=0,step:=some (14,Int.toNat (s.kind - 1),11),off:=0:Tm.Place}) ([cellsOf (aD w),[]])]<|J Zeb ?_
     refine g 3 4 []<|J UB<|W.cn<|J (fun _=>(rgd [[],[],[],[.x (av x)],[],[],[],[],[],[.x (av x),.call (aA L) [[],[],[]]],[],[.x (List.set (av x) (0+1+1+1+1+1+1+1+1) T.hole)]] ?_)) (noF rfl)
     conv=>whnf
     refine⟨⟨I,I,I,xA,I,I,I,I,I,⟨⟨Zcm,I,I,I⟩,I,⟨I,UA,UH,I⟩,UA,AS⟩,I,⟨UK,gh LN⟩,I⟩,by kernel_rfl,?_⟩
     refine EndsW.nm<|J I<|J ?_ ?_
     rfl
     rw[List.set_set]
     exact iz w.plan w.key w.boss w.workers (s.kind - 1).toNat L w.flight w.forged [[]]
    ·have cw:=dZ w s.kind l4 ⟨by omega,h1⟩
     refine aY ?_
     conv=>whnf
     refine g 1 2 []<|J ⟨UC,I⟩<|gd 7 17 [[],[],[],[],[],[],[.call (ew (some m)) [[],[]]],[],[],[],[],[],[]] ?_
     conv=>whnf
     refine J Zdp<|J KR<|W.sq<|g 17 18 []<|J UB<|W.cn<|J (noT rfl) fun _=>W.skip<|W.sq<|g 5 30 [BT,BT,BT,BT,BT,BT]<|J Zdx<|W.cn<|J (noT dO) fun _=>W.skip<|g 30 38 []<|J UC<|W.cn<|J (noT dO) fun _=>g 38 52 [.call (V.ptr {root:=0,step:=some (14,Int.toNat (s.kind - 1),11),off:=0:Tm.Place}) ([cellsOf (aD w),[]])]<|J Zeb ?_
     refine g 3 4 []<|J UB<|W.cn<|J (fun _=>(rgd [[],[],[],[.x (av x)],[],[],[],[],[],[.x (av x),.call (aA L) [[],[],[]]],[],[.x (List.set (av x) (0+1+1+1+1+1+1+1+1) T.hole)]] ?_)) (noF rfl)
     conv=>whnf
     refine⟨⟨I,I,I,xA,I,I,I,I,I,⟨⟨Zcm,I,I,I⟩,I,⟨I,UA,UH,I⟩,UA,AS⟩,I,⟨UK,gh LN⟩,I⟩,by kernel_rfl,?_⟩
     refine EndsW.nm<|J I<|J ?_ ?_
     rfl
     rw[List.set_set]
     exact iz w.plan w.key w.boss w.workers (s.kind - 1).toNat L w.flight w.forged [[]]
    ·have cw:=dZ ⟨w.plan,w.key,w.boss,w.workers,w.flight,s.text⟩ s.kind l4 ⟨by omega,h1⟩
     refine aY ?_
     conv=>whnf
     refine g 1 2 []<|J ⟨UC,I⟩<|gd 7 17 [[],[],[],[],[],[],[.call (ew (some m)) [[],[]]],[],[],[],[],[],[]] ?_
     conv=>whnf
     refine J Zdp<|J KR<|W.sq<|g 17 18 []<|J UB<|W.cn<|J (noT rfl) fun _=>W.skip<|W.sq<|g 5 30 [BT,BT,BT,BT,BT,BT]<|J Zdx<|W.cn<|J (fun _=>(rg []<|J ⟨I,I,I,I,I,UA,I⟩ (g 30 38 []<|J UC (W.cn<|J (noT dO) fun _=>(g 38 52 [.call (V.ptr {root:=0,step:=some (14,Int.toNat (s.kind - 1),11),off:=0:Tm.Place}) ([cellsOf (aD {plan:=w.plan,key:=w.key,boss:=w.boss,workers:=w.workers,flight:=w.flight,forged:=s.text:World}),[]])]<|J Zeb ?_))))) (noF tO)
     refine g 3 4 []<|J UB<|W.cn<|J (fun _=>(rgd [[],[],[],[.x (av x)],[],[],[],[],[],[.x (av x),.call (aA L) [[],[],[]]],[],[.x (List.set (av x) (0+1+1+1+1+1+1+1+1) T.hole)]] ?_)) (noF rfl)
     conv=>whnf
     refine⟨⟨I,I,I,xA,I,I,I,I,I,⟨⟨Zcm,I,I,I⟩,I,⟨I,UA,UH,I⟩,UA,AS⟩,I,⟨UK,gh LN⟩,I⟩,by kernel_rfl,?_⟩
     refine EndsW.nm<|J I<|J ?_ ?_
     rfl
     rw[List.set_set]
     exact iz w.plan w.key w.boss w.workers (s.kind - 1).toNat L w.flight s.text [[]]
   ·rw[pK hm h0 (fun q=>h1 q.2)]
    generalize hgg:uO w s = g
    rcases cases3 g hgg with⟨q1,rfl⟩|⟨q1,q2,rfl⟩|⟨q1,q2,rfl⟩
    ·have cw:=dk w s.kind l4 (fun q=>h1 q.2)
     refine aY ?_
     conv=>whnf
     refine g 1 2 []<|J ⟨UC,I⟩<|gd 7 17 [[],[],[],[],[],[],[.call (ew (some m)) [[],[]]],[],[],[],[],[],[]] ?_
     conv=>whnf
     refine J Zdp<|J KR<|W.sq<|g 17 18 []<|J UB<|W.cn<|J (noT rfl) fun _=>W.skip<|W.sq<|g 5 30 [BF,BF,BF,BF,BF,BF]<|J ⟨I,I,I,I,I,I,nO,nO,nO,nO,nO,nO,I⟩<|W.cn<|J (noT rfl) fun _=>W.skip<|g 30 38 []<|J UC<|W.cn<|J (noT dO) fun _=>g 38 52 [.call (V.t (T.v (Value.pointer none))) ([cellsOf (aD w),[]])]<|J Zeb ?_
     refine g 3 4 []<|J UB<|W.cn<|J (noT rfl) fun _=>W.skip<|EndsW.nm<|J I (J ?_ rfl)
     rfl
    ·have cw:=dk w s.kind l4 (fun q=>h1 q.2)
     refine aY ?_
     conv=>whnf
     refine g 1 2 []<|J ⟨UC,I⟩<|gd 7 17 [[],[],[],[],[],[],[.call (ew (some m)) [[],[]]],[],[],[],[],[],[]] ?_
     conv=>whnf
     refine J Zdp<|J KR<|W.sq<|g 17 18 []<|J UB<|W.cn<|J (noT rfl) fun _=>W.skip<|W.sq<|g 5 30 [BT,BT,BT,BT,BT,BT]<|J Zdx<|W.cn<|J (noT dO) fun _=>W.skip<|g 30 38 []<|J UC<|W.cn<|J (noT dO) fun _=>g 38 52 [.call (V.t (T.v (Value.pointer none))) ([cellsOf (aD w),[]])]<|J Zeb ?_
     refine g 3 4 []<|J UB<|W.cn<|J (noT rfl) fun _=>W.skip<|EndsW.nm<|J I (J ?_ rfl)
     rfl
    ·have cw:=dk ⟨w.plan,w.key,w.boss,w.workers,w.flight,s.text⟩ s.kind l4 (fun q=>h1 q.2)
     refine aY ?_
     conv=>whnf
     refine g 1 2 []<|J ⟨UC,I⟩<|gd 7 17 [[],[],[],[],[],[],[.call (ew (some m)) [[],[]]],[],[],[],[],[],[]] ?_
     conv=>whnf
     refine J Zdp<|J KR<|W.sq<|g 17 18 []<|J UB<|W.cn<|J (noT rfl) fun _=>W.skip<|W.sq<|g 5 30 [BT,BT,BT,BT,BT,BT]<|J Zdx<|W.cn<|J (fun _=>(rg []<|J ⟨I,I,I,I,I,UA,I⟩ (g 30 38 []<|J UC (W.cn<|J (noT dO) fun _=>(g 38 52 [.call (V.t (T.v (Value.pointer none))) ([cellsOf (aD {plan:=w.plan,key:=w.key,boss:=w.boss,workers:=w.workers,flight:=w.flight,forged:=s.text:World}),[]])]<|J Zeb ?_))))) (noF tO)
     refine g 3 4 []<|J UB<|W.cn<|J (noT rfl) fun _=>W.skip<|EndsW.nm<|J I (J ?_ rfl)
     rfl
end Go.K
end
section
open Go Go.Tm Go.Proofs
namespace Go.K
theorem uw(w:World)(e:Event)(h:WorldOk w):F ua [.ptr (cellsOf (aD w)),.val (FX e)] (.tup []) [cellsOf (aD (doW w e)),[]]:=by
 have ct:=qs w h
 obtain⟨l1,l2,l3,l4,l5,l6,l7,l8⟩:=fM h
 have c1:=cg w.flight e.a OM
 have c3:=yB w.flight e.a OM
 have c4:=CI w.flight e.a OM
 have c5:=CJ w.flight e.a e.b e.c OM (fun p hp=>by have:=(l7 p hp).bytes;omega)
 have c6:=kb w.boss e.b l3.safe l3.loose
 have c7:=ka w.boss w.plan l1 h.boss.workers (fun s hs=>l3.all s (List.mem_append_left _ hs)) (rF h.boss)
 by_cases h1:e.kind = 1
 ·rw[Qv h1]
  refine aX ?_
  conv=>whnf
  refine g 1 2 []<|J ⟨UD,I⟩<|g 7 8 []<|J UB<|W.blk<|g 10 11 []<|J UB<|W.cn<|J (fun _=>(rg [.call (V.tup []) ([cellsOf (aD (eG w))])]<|J ⟨I,⟨UA,I,UA,UA,AS⟩,I⟩ (EndsW.nm<|J I (J ?_ rfl)))) (noF tO)
  rfl
 by_cases h2:e.kind = 2
 ·rw[Qu h2]
  by_cases ha:w.flight.length≤2000∧0≤e.a∧e.a < w.flight.length
  ·rw[decide_eq_true ha]at c1
   obtain⟨a1,a2,a3⟩:=ha
   obtain⟨s,hs⟩:=aj (xs:=w.flight) (n:=e.a.toNat) OM
   rw[sW ⟨a1,a2,a3⟩ hs]
   have hp:=l7 s (List.mem_of_getElem? hs)
   have hw2:WorldOk (cz w (bD w.flight e.a)):=fJ h (by have:=rV w.flight e.a;omega) fun x hx=>l7 x (iR hx)
   have cb:=o4 (cz w (bD w.flight e.a)) s hw2 hp
   have cb2:F g8 [.ptr (cellsOf (aD ⟨w.plan,w.key,w.boss,w.workers,bD w.flight e.a,w.forged⟩)),.val (Qk s.kind s.frm s.text)] (.tup []) [cellsOf (aD (bu (cz w (bD w.flight e.a)) s)),[]]:=cb
   clear cb
   generalize bu (cz w (bD w.flight e.a)) s = ww at cb2 ⊢
   refine aX ?_
   conv=>whnf
   refine g 1 2 []<|J ⟨UD,I⟩<|g 7 8 []<|J UB<|W.blk<|g 10 11 []<|J UB<|W.cn<|J (noT dO) fun _=>g 9 10 []<|J UB<|W.cn<|J (fun _=>(gd 8 21 [[],[],[],[],[],[],[.call VT [[],[]]]] ?_)) (noF tO)
   conv=>whnf
   refine⟨⟨I,I,I,I,I,I,Zam,I⟩,by kernel_rfl,?_⟩
   refine W.cn<|J (fun _=>(gd 21 30 [[],[],[],[],[],[],[.n (Int.toNat e.a)],[.x (bI s)],[],[]] ?_)) (noF rfl)
   conv=>whnf
   refine⟨⟨I,I,I,I,I,I,Zdl,xA,I,UC,I⟩,by kernel_rfl,?_⟩
   refine gd 30 40 [[],[],[],[],[],[],[],[.call (V.own pkd (List.map bL (bD w.flight e.a))) [[],[]]],[],[],[]] ?_
   conv=>whnf
   refine J ⟨I,I,I,I,I,I,I,Zam,I,I,UA,I⟩<|J KR<|rg [.call (V.tup []) ([cellsOf (aD ww),[]])]<|J ⟨I,I,⟨UB,I,Zd9,UA,AS⟩,I⟩<|EndsW.nm<|J I (J ?_ rfl)
   rfl
  ·rw[decide_eq_false ha]at c1
   rw[xa ha]
   refine aX ?_
   conv=>whnf
   refine g 1 2 []<|J ⟨UD,I⟩<|g 7 8 []<|J UB<|W.blk<|g 10 11 []<|J UB<|W.cn<|J (noT dO) fun _=>g 9 10 []<|J UB<|W.cn<|J (fun _=>(gd 8 21 [[],[],[],[],[],[],[.call VF [[],[]]]] ?_)) (noF tO)
   conv=>whnf
   refine⟨⟨I,I,I,I,I,I,Zam,I⟩,by kernel_rfl,?_⟩
   refine W.cn<|J (noT rfl) fun _=>W.skip<|EndsW.nm<|J I (J ?_ rfl)
   rfl
 by_cases h3:e.kind = 3
 ·rw[Qt h3]
  refine aX ?_
  conv=>whnf
  refine g 1 2 []<|J ⟨UD,I⟩<|g 7 8 []<|J UB<|W.blk<|g 10 11 []<|J UB<|W.cn<|J (noT dO) fun _=>g 9 10 []<|J UB<|W.cn<|J (noT dO) fun _=>g 13 15 []<|J UB<|W.cn<|J (fun _=>(rgd [[],[],[],[],[],[],[],[.call (V.own pkd (List.map bL (oi w.flight e.a))) [[],[]]],[],[],[]] ?_)) (noF tO)
  conv=>whnf
  refine⟨⟨I,I,I,I,I,I,I,Zam,I,I,UA,I⟩,by kernel_rfl,?_⟩
  refine EndsW.nm<|J I (J ?_ rfl)
  rfl
 by_cases h4:e.kind = 4
 ·rw[Qs h4]
  refine aX ?_
  conv=>whnf
  refine g 1 2 []<|J ⟨UD,I⟩<|g 7 8 []<|J UB<|W.blk<|g 10 11 []<|J UB<|W.cn<|J (noT dO) fun _=>g 9 10 []<|J UB<|W.cn<|J (noT dO) fun _=>g 13 15 []<|J UB<|W.cn<|J (noT dO) fun _=>g 43 45 []<|J UB<|W.cn<|J (fun _=>(rgd [[],[],[],[],[],[],[],[.call (V.own pkd (List.map bL (bD w.flight e.a))) [[],[]]],[],[],[]] ?_)) (noF tO)
  conv=>whnf
  refine⟨⟨I,I,I,I,I,I,I,Zam,I,I,UA,I⟩,by kernel_rfl,?_⟩
  refine EndsW.nm<|J I (J ?_ rfl)
  rfl
 by_cases h5:e.kind = 5
 ·rw[Qr h5]
  refine aX ?_
  conv=>whnf
  refine g 1 2 []<|J ⟨UD,I⟩<|g 7 8 []<|J UB<|W.blk<|g 10 11 []<|J UB<|W.cn<|J (noT dO) fun _=>g 9 10 []<|J UB<|W.cn<|J (noT dO) fun _=>g 13 15 []<|J UB<|W.cn<|J (noT dO) fun _=>g 43 45 []<|J UB<|W.cn<|J (noT dO) fun _=>g 55 57 []<|J UB ?_
  refine W.cn<|J (fun _=>(rgd [[],[],[],[],[],[],[],[],[],[],[],[.call (V.own pkd (List.map bL (me w.flight e.a e.b e.c))) [[],[],[],[]]],[],[],[]] ?_)) (noF tO)
  conv=>whnf
  refine⟨⟨I,I,I,I,I,I,I,I,I,I,I,⟨UD,I,Zc7,UA,AS⟩,I,I,UA,I⟩,by kernel_rfl,?_⟩
  refine EndsW.nm<|J I (J ?_ rfl)
  rfl
 by_cases h6:e.kind = 6
 ·by_cases ha:e.a = 0
  ·rw[ME h6 ha,na h.boss]
   generalize gD w.boss e.b = B at c6 ⊢
   refine aX ?_
   conv=>whnf
   refine g 1 2 []<|J ⟨UD,I⟩<|g 7 8 []<|J UB<|W.blk<|g 10 11 []<|J UB<|W.cn<|J (noT dO) fun _=>g 9 10 []<|J UB<|W.cn<|J (noT dO) fun _=>g 13 15 []<|J UB<|W.cn<|J (noT dO) fun _=>g 43 45 []<|J UB<|W.cn<|J (noT dO) fun _=>g 55 57 []<|J UB ?_
   refine W.cn<|J (noT dO) fun _=>g 67 69 []<|J UB<|W.cn<|J (fun _=>(g 8 87 []<|J UC (W.cn<|J (fun _=>(rgd [[],[],[],[],[],[.call (V.tup []) ([cellsOf (aG B),[]])]] ?_)) (noF tO)))) (noF tO)
   conv=>whnf
   refine⟨⟨I,I,I,I,I,Zbq,I⟩,by kernel_rfl,?_⟩
   refine EndsW.nm<|J I (J ?_ rfl)
   rfl
  ·by_cases hx:1≤e.a∧e.a≤w.workers.length
   ·have cw:=dZ w e.a l4 hx
    obtain⟨x1,x2⟩:=hx
    obtain⟨x,hx⟩:=aj (xs:=w.workers) (n:=(e.a - 1).toNat) OM
    rw[MC h6 ⟨x1,x2⟩ hx]
    have hxi:=l5 x (List.mem_of_getElem? hx)
    have c8:=qu x OM
    generalize lO x = y at c8 ⊢
    have es:=iP (xs:=w.workers) (n:=(e.a - 1).toNat) (x:=y)
    refine aX ?_
    conv=>whnf
    refine g 1 2 []<|J ⟨UD,I⟩<|g 7 8 []<|J UB<|W.blk<|g 10 11 []<|J UB<|W.cn<|J (noT dO) fun _=>g 9 10 []<|J UB<|W.cn<|J (noT dO) fun _=>g 13 15 []<|J UB<|W.cn<|J (noT dO) fun _=>g 43 45 []<|J UB<|W.cn<|J (noT dO) fun _=>g 55 57 []<|J UB ?_
    refine W.cn<|J (noT dO) fun _=>g 67 69 []<|J UB<|W.cn<|J (fun _=>(g 8 87 []<|J UC (W.cn<|J (noT dO) fun _=>(g 87 98 [.call (V.ptr {root:=0,step:=some (14,Int.toNat (e.a - 1),11),off:=0:Tm.Place}) ([cellsOf (aD w),[]])]<|J Zeb (g 0 4 []<|J UB (W.cn<|J (fun _=>(rg [.x (av x),.x (av x),.call (aA y) [[]],.x (av x)]<|J ⟨I,I,I,xA,⟨UA,I,⟨Zcm,I⟩,UA,AS⟩,I,⟨UK,xA⟩,I⟩ (EndsW.nm<|J I<|J ?_ ?_))) (noF rfl))))))) (noF tO)
    rfl
    exact iz w.plan w.key w.boss w.workers (e.a - 1).toNat y w.flight w.forged [[]]
   ·have cw:=dk w e.a l4 hx
    rw[MD h6 ha hx]
    refine aX ?_
    conv=>whnf
    refine g 1 2 []<|J ⟨UD,I⟩<|g 7 8 []<|J UB<|W.blk<|g 10 11 []<|J UB<|W.cn<|J (noT dO) fun _=>g 9 10 []<|J UB<|W.cn<|J (noT dO) fun _=>g 13 15 []<|J UB<|W.cn<|J (noT dO) fun _=>g 43 45 []<|J UB<|W.cn<|J (noT dO) fun _=>g 55 57 []<|J UB ?_
    refine W.cn<|J (noT dO) fun _=>g 67 69 []<|J UB<|W.cn<|J (fun _=>(g 8 87 []<|J UC (W.cn<|J (noT dO) fun _=>(g 87 98 [.call (V.t (T.v (Value.pointer none))) ([cellsOf (aD w),[]])]<|J Zeb (g 0 4 []<|J UB (W.cn<|J (noT rfl) fun _=>(W.skip (EndsW.nm<|J I (J ?_ rfl))))))))) (noF tO)
    rfl
 by_cases h7:e.kind = 7
 ·by_cases ha:e.a = 0
  ·rw[MB h7 ha,kV h.boss]
   generalize bd w.boss w.plan = B at c7 ⊢
   refine aX ?_
   conv=>whnf
   refine g 1 2 []<|J ⟨UD,I⟩<|g 7 8 []<|J UB<|W.blk<|g 10 11 []<|J UB<|W.cn<|J (noT dO) fun _=>g 9 10 []<|J UB<|W.cn<|J (noT dO) fun _=>g 13 15 []<|J UB<|W.cn<|J (noT dO) fun _=>g 43 45 []<|J UB<|W.cn<|J (noT dO) fun _=>g 55 57 []<|J UB ?_
   refine W.cn<|J (noT dO) fun _=>g 67 69 []<|J UB<|W.cn<|J (noT dO) fun _=>g 8 85 []<|J UB<|W.cn<|J (fun _=>(g 106 110 []<|J UC (W.cn<|J (fun _=>(rgd [[],[],[],[],[],[],[],[.call (V.tup []) ([cellsOf (aG B),[]])]] ?_)) (noF tO)))) (noF tO)
   conv=>whnf
   refine⟨⟨I,I,I,I,I,I,I,Zbq,I⟩,by kernel_rfl,?_⟩
   refine EndsW.nm<|J I (J ?_ rfl)
   rfl
  ·by_cases hx:1≤e.a∧e.a≤w.workers.length
   ·have cw:=dZ w e.a l4 hx
    obtain⟨x1,x2⟩:=hx
    obtain⟨x,hx⟩:=aj (xs:=w.workers) (n:=(e.a - 1).toNat) OM
    rw[Mz h7 ⟨x1,x2⟩ hx]
    have hxi:=l5 x (List.mem_of_getElem? hx)
    have c8:=qt x OM
    generalize iY x = y at c8 ⊢
    have es:=iP (xs:=w.workers) (n:=(e.a - 1).toNat) (x:=y)
    refine aX ?_
    conv=>whnf
    refine g 1 2 []<|J ⟨UD,I⟩<|g 7 8 []<|J UB<|W.blk<|g 10 11 []<|J UB<|W.cn<|J (noT dO) fun _=>g 9 10 []<|J UB<|W.cn<|J (noT dO) fun _=>g 13 15 []<|J UB<|W.cn<|J (noT dO) fun _=>g 43 45 []<|J UB<|W.cn<|J (noT dO) fun _=>g 55 57 []<|J UB ?_
    refine W.cn<|J (noT dO) fun _=>g 67 69 []<|J UB<|W.cn<|J (noT dO) fun _=>g 8 85 []<|J UB<|W.cn<|J (fun _=>(g 106 110 []<|J UC (W.cn<|J (noT dO) fun _=>(g 110 123 [.call (V.ptr {root:=0,step:=some (14,Int.toNat (e.a - 1),11),off:=0:Tm.Place}) ([cellsOf (aD w),[]])]<|J Zeb (g 0 4 []<|J UB (W.cn<|J (fun _=>(rg [.x (av x),.x (av x),.call (aA y) [[]],.x (av x)]<|J ⟨I,I,I,xA,⟨UA,I,⟨Zcm,I⟩,UA,AS⟩,I,⟨UK,xA⟩,I⟩ (EndsW.nm<|J I<|J ?_ ?_))) (noF rfl))))))) (noF tO)
    rfl
    exact iz w.plan w.key w.boss w.workers (e.a - 1).toNat y w.flight w.forged [[]]
   ·have cw:=dk w e.a l4 hx
    rw[MA h7 ha hx]
    refine aX ?_
    conv=>whnf
    refine g 1 2 []<|J ⟨UD,I⟩<|g 7 8 []<|J UB<|W.blk<|g 10 11 []<|J UB<|W.cn<|J (noT dO) fun _=>g 9 10 []<|J UB<|W.cn<|J (noT dO) fun _=>g 13 15 []<|J UB<|W.cn<|J (noT dO) fun _=>g 43 45 []<|J UB<|W.cn<|J (noT dO) fun _=>g 55 57 []<|J UB ?_
    refine W.cn<|J (noT dO) fun _=>g 67 69 []<|J UB<|W.cn<|J (noT dO) fun _=>g 8 85 []<|J UB<|W.cn<|J (fun _=>(g 106 110 []<|J UC (W.cn<|J (noT dO) fun _=>(g 110 123 [.call (V.t (T.v (Value.pointer none))) ([cellsOf (aD w),[]])]<|J Zeb (g 0 4 []<|J UB (W.cn<|J (noT rfl) fun _=>(W.skip (EndsW.nm<|J I (J ?_ rfl))))))))) (noF tO)
    rfl
 ·have e0:doW w e = w:=by
   unfold doW
   rw[if_neg h1,if_neg h2,if_neg h3,if_neg h4,if_neg h5,if_neg h6,if_neg h7]
  rw[e0]
  refine aX ?_
  conv=>whnf
  refine g 1 2 []<|J ⟨UD,I⟩<|g 7 8 []<|J UB<|W.blk<|g 10 11 []<|J UB<|W.cn<|J (noT dO) fun _=>g 9 10 []<|J UB<|W.cn<|J (noT dO) fun _=>g 13 15 []<|J UB<|W.cn<|J (noT dO) fun _=>g 43 45 []<|J UB<|W.cn<|J (noT dO) fun _=>g 55 57 []<|J UB ?_
  refine W.cn<|J (noT dO) fun _=>g 67 69 []<|J UB<|W.cn<|J (noT dO) fun _=>g 8 85 []<|J UB<|W.cn<|J (noT dO) fun _=>W.skip<|EndsW.nm<|J I (J ?_ rfl)
  rfl
theorem sV(w:World)(e:Event)(h:WorldLim w):F HV [.val (xg w),.val (FX e)] (aD (wDo w e)) [[],[]]:=by
 have cv:=qv w h
 by_cases hv:WorldOk w
 ·rw[decide_eq_true hv]at cv
  have e0:wDo w e = doW w e:=if_pos hv
  rw[e0]
  have hd:=fM hv
  have c1:=qr w hd
  have c2:=uw w e hv
  generalize doW w e = ww at c2 ⊢
  refine zr ?_
  conv=>whnf
  refine g 0 2 []<|J Zc0<|W.sq<|g 5 7 [.call VT [[]]]<|J ⟨I,⟨UA,I,⟨UQ,I⟩,UA,AS⟩,I,I⟩<|W.cn<|J (noT rfl) fun _=>W.skip<|g 7 11 [.call (aD w) [[]]]<|J ⟨I,⟨UA,I,⟨UQ,I⟩,UA,AS⟩,UQ,I⟩<|g 11 13 [.call (V.tup []) ([cellsOf (aD ww),[]])]<|J ⟨I,⟨UB,I,⟨I,UD,I⟩,UA,AS⟩,I⟩<|g 2 4 []<|J Zdk<|RT ?_
  rfl
 ·rw[decide_eq_false hv]at cv
  have e0:wDo w e = noWorld:=if_neg hv
  rw[e0]
  refine zr ?_
  conv=>whnf
  refine g 0 2 []<|J Zc0<|W.sq<|g 5 7 [.call VF [[]]]<|J ⟨I,⟨UA,I,⟨UQ,I⟩,UA,AS⟩,I,I⟩<|W.cn<|J (fun _=>(g 7 9 []<|J Zdk (RT ?_))) (noF rfl)
  rfl
end Go.K
end
section
open Go Go.Tm Go.Proofs
namespace Go.K
abbrev keyB:ByteArray:=⟨#[107,101,121]⟩
theorem Nu(w:World):(eG w).key = w.key∧(eG w).workers.length = w.workers.length:=by
 unfold eG;split
 ·exact⟨rfl,rfl⟩
 ·exact⟨rfl,List.length_map _⟩
theorem Ir(w:World)(s:Parcel):(bu w s).key = w.key∧(bu w s).workers.length = w.workers.length:=by
 unfold bu
 cases cR s.text w.key with
 |none=>exact⟨rfl,rfl⟩
 |some m =>
  dsimp only
  split
  ·exact⟨rfl,rfl⟩
  ·split
   ·exact⟨rfl,List.length_set⟩
   ·exact⟨rfl,rfl⟩
theorem Ra(w:World)(e:Event):(doW w e).key = w.key∧(doW w e).workers.length = w.workers.length:=by
 unfold doW
 split;exact Nu w
 split
 ·unfold dc;split
  ·exact Ir (cz w _) _
  ·exact⟨rfl,rfl⟩
 split;exact⟨rfl,rfl⟩
 split;exact⟨rfl,rfl⟩
 split;exact⟨rfl,rfl⟩
 split
 ·split;exact⟨rfl,rfl⟩
  split
  ·exact⟨rfl,List.length_set⟩
  ·exact⟨rfl,rfl⟩
 split
 ·split;exact⟨rfl,rfl⟩
  split
  ·exact⟨rfl,List.length_set⟩
  ·exact⟨rfl,rfl⟩
 exact⟨rfl,rfl⟩
theorem Km(code:List Int)(hc:code.length≤9223372036854775807)(h8:∀ x∈code,0≤x∧x≤255)(more:List Int)(hm:more.length≤9223372036854775807)(h9:∀ x∈more,0≤x∧x≤255):F xL [.val (.t (u8s code)),.val (.t (u8s more))] (.b true) [[],[]]:=by
 by_cases hb1:1048576 < code.length
 ·refine gg ?_
  conv=>whnf
  refine g 0 0 []<|J UA<|W.sq ?_
  by_cases h1:(1048576:Int) < (↑(List.length (List.map b1T code)):Int)
  simp only[LM]at h1
  refine g 15 22 [BT,BT,BT,BT]<|J ⟨I,I,I,I,SI,SI,SI,SI,I⟩<|W.cn<|J (fun _=>(g 22 23 []<|J UA (RT ?_))) (noF rfl)
  rfl
  simp only[LM]at h1
  omega
 by_cases hb2:1048576 < more.length
 ·refine gg ?_
  conv=>whnf
  refine g 0 0 []<|J UA<|W.sq ?_
  by_cases h1:(1048576:Int) < (↑(List.length (List.map b1T code)):Int)
  simp only[LM]at h1
  omega
  simp only[LM]at h1
  refine g 15 22 [BF,BF,BF,BF]<|J ⟨I,I,I,I,⟨SI,I⟩,⟨SI,I⟩,⟨SI,I⟩,SI,I⟩<|W.cn<|J (fun h2=>?_) fun h2=>?_
  replace h2:=dt h2
  simp only[LM]at h2
  refine g 22 23 []<|J UA<|RT ?_
  rfl
  replace h2:=df h2
  simp only[LM]at h2
  omega
 obtain⟨res,outs,⟨p,rfl,rfl,hmid⟩,hD⟩:=Az code OM h8
 have wf:=FP hmid
 have ek:keyB.size = 3:=rfl
 have cn:=ux p keyB 2 wf OM
 have cc:=bW p wf
 by_cases hck:ai p.tasks = 0
 rotate_left
 ·rw[uD fun q=>hck q.plan]at cn
  refine gg ?_
  conv=>whnf
  refine g 0 0 []<|J UA<|W.sq ?_
  by_cases h1:(1048576:Int) < (↑(List.length (List.map b1T code)):Int)
  simp only[LM]at h1
  omega
  simp only[LM]at h1
  refine g 15 22 [BF,BF,BF,BF]<|J ⟨I,I,I,I,⟨SI,I⟩,⟨SI,I⟩,⟨SI,I⟩,SI,I⟩<|W.cn<|J (fun h2=>?_) fun h2=>?_
  replace h2:=dt h2
  simp only[LM]at h2
  omega
  replace h2:=df h2
  simp only[LM]at h2
  refine W.skip<|g 22 25 [.call (dC p) [[]]]<|J Zed<|g 25 27 [.call (aD noWorld) [[],[],[]]]<|J ⟨I,⟨UC,I,UU,UA,AS⟩,I,UQ,I⟩<|W.sq<|g 27 29 [.call (V.i (ai p.tasks)) [[]]]<|J ⟨I,Zai,I,I⟩<|W.cn<|J (fun _=>(g 29 34 []<|J UE (RT ?_))) (noF (af OM))
  rfl
 have hn:NewOk p keyB 2:=⟨hck,by omega,by omega⟩
 have w0ok:=Gy hn
 have w0s:=B3 p keyB 2
 have w0p:(jP p keyB 2).plan = p∧(jP p keyB 2).key = keyB∧(jP p keyB 2).workers.length = 2:=by
  rw[uC hn];exact⟨rfl,rfl,kS _⟩
 generalize jP p keyB 2 = w0 at cn w0ok w0s w0p
 have ct:=AC p wf
 have etr:cu p = da p.tasks p.tasks.length:=if_pos hck
 have hlT:(cu p).length = p.tasks.length:=by rw[etr,eW _ _ (Nat.le_refl _)]
 have hpl:=(bM hck).1
 rw[hck]at cc
 obtain⟨res,outs,⟨es,rfl,rfl,hel⟩,hE⟩:=yl more OM h9
 refine gg ?_
 conv=>whnf
 refine g 0 0 []<|J UA<|W.sq ?_
 by_cases h1:(1048576:Int) < (↑(List.length (List.map b1T code)):Int)
 simp only[LM]at h1
 omega
 simp only[LM]at h1
 refine g 15 22 [BF,BF,BF,BF]<|J ⟨I,I,I,I,⟨SI,I⟩,⟨SI,I⟩,⟨SI,I⟩,SI,I⟩<|W.cn<|J (fun h2=>?_) fun h2=>?_
 replace h2:=dt h2
 simp only[LM]at h2
 omega
 replace h2:=df h2
 simp only[LM]at h2
 refine W.skip<|g 22 25 [.call (dC p) [[]]]<|J Zed<|g 25 27 [.call (aD w0) [[],[],[]]]<|J ⟨I,⟨UC,I,UU,UA,AS⟩,I,UQ,I⟩<|W.sq<|g 27 29 [.call (V.i 0) [[]]]<|J ⟨I,Zai,I,I⟩<|W.cn<|J (noT rfl) fun _=>W.skip<|g 29 36 [.call (V.own [false] (List.map ak (cu p))) [[]]]<|J ⟨I,Zai,I,I⟩<|g 36 38 [.call (V.own BC (List.map fF es)) [[]]]<|J ⟨I,Zai,I,I⟩<|g 1 2 []<|J UA<|W.sq<|g 0 0 []<|J UA ?_
 refine W.blk<|W.drop (lo:=15) (hi:=34) ?_
 conv=>whnf
 refine W.frz 5 0 ?_
 conv=>whnf
 refine W.lp (fun s (x:Nat×World×Int)=>⟨[(0,s.s 0),(5,s.s 5),(6,s.s 6),(7,s.s 7),(8,s.s 8),(9,.i x.2.2),(10,.i x.1)],[(5,[s.c 5 0]),(35,[s.c 35 0]),(37,[s.c 37 0]),(6,[.own dX (x.2.1.plan.tasks.map aB),.t (.s x.2.1.key),.t (.i x.2.1.boss.workers),.t (.b x.2.1.boss.up),.t (.i x.2.1.boss.now),.t (.i x.2.1.boss.since),.t (.i x.2.1.boss.epoch),.t (.i x.2.1.boss.given),.own [false] (x.2.1.boss.log.safe.map ak),.own [false] (x.2.1.boss.log.loose.map ak),.own [false] (x.2.1.boss.results.map ak),.own fD (x.2.1.boss.jobs.map aW),.own cT (x.2.1.boss.seats.map aS),.own cU (x.2.1.boss.owed.map bi),.own eB (x.2.1.workers.map av),.own vP (x.2.1.flight.map bI),.t (.s x.2.1.forged)])],[]⟩) (fun(x:Nat×World×Int)=>x.1≤es.length∧WorldOk x.2.1∧eF x.2.1∧(x.2.1.plan = p∧x.2.1.key = keyB∧x.2.1.workers.length = 2)∧0≤x.2.2∧x.2.2≤2000 * x.1) (fun(x:Nat×World×Int)=>es.length - x.1) ((0,w0,0)) [some 5,some 35,some 37,some 6] [] ⟨rfl,⟨rfl,rfl,rfl,rfl,rfl,rfl,rfl,I⟩,⟨⟨rfl,⟨rfl,I⟩⟩,⟨⟨rfl,⟨rfl,I⟩⟩,⟨⟨rfl,⟨rfl,I⟩⟩,⟨⟨rfl,⟨rfl,⟨rfl,⟨rfl,⟨rfl,⟨rfl,⟨rfl,⟨rfl,⟨rfl,⟨rfl,⟨rfl,⟨rfl,⟨rfl,⟨rfl,⟨rfl,⟨rfl,⟨rfl,⟨rfl,I⟩⟩⟩⟩⟩⟩⟩⟩⟩⟩⟩⟩⟩⟩⟩⟩⟩⟩,I⟩⟩⟩⟩,I⟩ ?_ ?_
 ·exact⟨by omega,w0ok,w0s,w0p,by dsimp only;omega,by dsimp only;omega⟩
 rintro⟨i,w,o⟩ ⟨i1,i2,i3,i4,i5,i6⟩
 dsimp only at i1 i2 i3 i4 i5 i6
 by_cases hi:i < es.length
 ·obtain⟨e,he⟩:=aj hi
  have cD:=sV w e (jd (fM i2))
  rw[show wDo w e = doW w e from if_pos i2]at cD
  have j2:=yn e i2
  have j3:=Fh e i2 i3
  have j4:(doW w e).plan = p∧(doW w e).key = keyB∧(doW w e).workers.length = 2:=by
   obtain⟨k1,k2⟩:=Ra w e
   rw[A8,k1,k2];exact i4
  generalize doW w e = w1 at cD j2 j3 j4
  by_cases hf:w1.forged = emp
  rotate_left
  ·conv=>whnf
   refine W.sq<|g 38 41 []<|J UD<|W.cn<|J (fun _=>(W.skip (W.sq (W.blk (gd 41 50 [[],[],[],[.n (Prod.fst (i,w,o))],[.x (fF e)],[.call (aD w1) [[],[]]],[]] ?_))))) (noF SI)
   conv=>whnf
   refine⟨⟨I,I,I,Zdf,xA,Zc3,UQ,I⟩,by kernel_rfl,?_⟩
   refine W.sq<|g 50 52 []<|J UC<|W.cn<|J (fun _=>(g 52 53 []<|J UA (RT ?_))) (noF (af OM))
   rfl
  ·obtain⟨t1,t2,t3⟩:=j3 hf
   have fl:=j2.fl
   conv=>whnf
   refine W.sq<|g 38 41 []<|J UD<|W.cn<|J (fun _=>(W.skip (W.sq (W.blk (gd 41 50 [[],[],[],[.n (Prod.fst (i,w,o))],[.x (fF e)],[.call (aD w1) [[],[]]],[]] ?_))))) (noF SI)
   conv=>whnf
   refine⟨⟨I,I,I,Zdf,xA,Zc3,UQ,I⟩,by kernel_rfl,?_⟩
   refine W.sq<|g 50 52 []<|J UC<|W.cn<|J (noT nO) fun _=>W.skip<|g 52 53 []<|J UA<|W.blk<|W.lp (fun s (y:Nat×Int)=>⟨[(0,s.s 0),(5,s.s 5),(6,s.s 6),(7,s.s 7),(8,s.s 8),(9,.i y.2),(10,s.s 10),(11,.i y.1)],[(5,[s.c 5 0]),(6,[s.c 6 0,s.c 6 1,s.c 6 2,s.c 6 3,s.c 6 4,s.c 6 5,s.c 6 6,s.c 6 7,s.c 6 8,s.c 6 9,s.c 6 10,s.c 6 11,s.c 6 12,s.c 6 13,s.c 6 14,s.c 6 15,s.c 6 16]),(35,[s.c 35 0]),(37,[s.c 37 0])],[]⟩) (fun(y:Nat×Int)=>y.1≤w1.flight.length∧0≤y.2∧y.2≤2000 * i+y.1) (fun(y:Nat×Int)=>w1.flight.length - y.1) ((0,o)) [some 5,some 6,some 35,some 37] [] Zel OM ?_
   rintro⟨k,u⟩ ⟨k1,k2,k3⟩
   dsimp only at k1 k2 k3
   by_cases hk:k < w1.flight.length
   ·obtain⟨s,hs⟩:=aj hk
    obtain⟨m,m1,m2,m3,m4⟩:=t3 s (List.mem_of_getElem? hs)
    have hp:=(j2.par s (List.mem_of_getElem? hs)).sent
    rw[j4.2.1]at m1
    rw[j4.1]at m4
    rw[j4.2.2]at m3
    have cr:=hJ s.frm keyB OM
    rw[m1]at cr
    have hkm:cR s.frm keyB = some m:=m1
    by_cases h3:m.kind = 3
    ·obtain⟨⟨g1,g2⟩,g3⟩:=m4.result h3
     obtain⟨y,hy⟩:=aj (xs:=cu p) (n:=m.task.toNat) OM
     have g4:m.text = y:=by rw[g3];unfold atS;rw[hy];rfl
     conv=>whnf
     refine W.sq<|g 53 57 []<|J UE<|W.cn<|J (fun _=>(W.skip (W.sq (W.blk (g 57 70 [.n (Prod.fst (k,u)),.x (bI s),.call (ew (some m)) [[],[]]]<|J ⟨I,I,I,Zdf,I,xA,Zam,I,I,I,I,UH,I,I⟩ (W.sq (gd 13 87 [[],[],[],[BF],[BF],[BF],[BF],[BF],[BF,.n (Prod.fst (k,u))],[BF],[BF,.x (bI s)],[BF],[BF],[],[BF],[BF],[BF],[BF]] ?_))))))) (noF SI)
     conv=>whnf
     refine⟨Zbj,by kernel_rfl,?_⟩
     refine W.cn<|J (noT dO) fun _=>W.skip<|W.sq<|gd 87 107 [[],[],[],[],[BT],[BT],[BT],[BT],[BT],[BT],[BF],[BF],[BF],[BF],[BF],[BF,.n (Int.toNat m.task)],[BF,.x (ak y)],[BF],[BT,BF],[BT]] ?_
     conv=>whnf
     refine J ⟨I,I,I,I,⟨tO,I⟩,⟨tO,I⟩,⟨tO,I⟩,⟨tO,I⟩,⟨tO,I⟩,⟨tO,I⟩,⟨(by simp_all),I⟩,⟨(by simp_all),I⟩,⟨(by simp_all),I⟩,⟨(by simp_all),I⟩,⟨(by simp_all),I⟩,⟨(by simp_all),OM,LN⟩,⟨(by simp_all),xA⟩,⟨(by simp_all),I⟩,⟨tO,(by simp_all)⟩,tO,I⟩<|J KR<|W.cn<|J (noT nO) fun _=>W.skip<|g 107 110 []<|J UC<|W.cn<|J (noT dO) fun _=>W.skip<|rg [.i ((↑(Prod.fst (k,u)):Int) +1)]<|J Zdc ?_
     refine⟨(k+1,u),[some 5,some 6,some 35,some 37],[],Zel,?_,?_⟩
     rotate_left
     (dsimp only;omega)
     dsimp only
     omega
    ·by_cases h1:m.kind = 1
     ·obtain⟨⟨g1,g2⟩,g3⟩:=m4.offer h1
      obtain⟨t,ht⟩:=aj (xs:=p.tasks) (n:=m.task.toNat) OM
      rw[cF ht]at g3
      obtain⟨⟨a1,a2⟩,_,a3,a4⟩:=bv hck ht
      have g5:m.inputs.length = t.deps.length:=by rw[g3,kr]
      conv=>whnf
      refine W.sq<|g 53 57 []<|J UE<|W.cn<|J (fun _=>(W.skip (W.sq (W.blk (g 57 70 [.n (Prod.fst (k,u)),.x (bI s),.call (ew (some m)) [[],[]]]<|J ⟨I,I,I,Zdf,I,xA,Zam,I,I,I,I,UH,I,I⟩ (W.sq (gd 13 87 [[],[],[],[BF],[BF],[BF],[BF],[BF],[BF,.n (Prod.fst (k,u))],[BF],[BF,.x (bI s)],[BF],[BF],[],[BF],[BF],[BF],[BF]] ?_))))))) (noF SI)
      conv=>whnf
      refine⟨Zbj,by kernel_rfl,?_⟩
      refine W.cn<|J (noT dO) fun _=>W.skip<|W.sq<|gd 87 107 [[],[],[],[],[BF],[BF],[BF],[BF],[BF],[BF],[BF],[BF],[BF],[BF],[BF],[BF],[BF],[BF],[BF],[BF]] ?_
      conv=>whnf
      refine J ⟨I,I,I,I,dO,dO,dO,dO,dO,dO,I,I,I,I,I,I,I,I,dO,dO,I⟩<|J KR<|W.cn<|J (noT rfl) fun _=>W.skip<|g 107 110 []<|J UC<|W.cn<|J (fun _=>(g 110 113 [.i (Prod.snd (k,u) +1)]<|J Zdc (W.sq (gd 113 131 [[],[],[],[],[],[],[BF],[BF],[BF],[BF],[BF],[BF],[BF],[BF,.x (aB t)],[BF],[BF],[BF],[BF],[BF]] ?_)))) (noF tO)
      conv=>whnf
      refine⟨⟨I,I,I,I,I,I,⟨(by simp_all),I⟩,⟨(by simp_all),I⟩,⟨(by simp_all),I⟩,⟨(by simp_all),I⟩,⟨(by simp_all),I⟩,⟨(by simp_all),I⟩,⟨(by simp_all),I⟩,⟨(by simp_all),AS,xA⟩,⟨(by simp_all),I⟩,⟨(by simp_all),I⟩,⟨(by simp_all),I⟩,⟨(by simp_all),I⟩,(by simp_all),I⟩,by kernel_rfl,?_⟩
      refine W.cn<|J (noT (by simp_all)) fun _=>W.skip<|g 131 132 []<|J UA<|W.blk<|W.lp (fun s (j:Nat)=>⟨[(0,s.s 0),(5,s.s 5),(6,s.s 6),(7,s.s 7),(8,s.s 8),(9,s.s 9),(10,s.s 10),(11,s.s 11),(12,s.s 12),(14,.i j)],[(5,[s.c 5 0]),(6,[s.c 6 0,s.c 6 1,s.c 6 2,s.c 6 3,s.c 6 4,s.c 6 5,s.c 6 6,s.c 6 7,s.c 6 8,s.c 6 9,s.c 6 10,s.c 6 11,s.c 6 12,s.c 6 13,s.c 6 14,s.c 6 15,s.c 6 16]),(35,[s.c 35 0]),(37,[s.c 37 0]),(12,[s.c 12 0,s.c 12 1,s.c 12 2,s.c 12 3,s.c 12 4,s.c 12 5,s.c 12 6,s.c 12 7])],[]⟩) (fun(j:Nat)=>j≤m.inputs.length) (fun(j:Nat)=>m.inputs.length - j) (0) [some 5,some 6,some 35,some 37,some 12] [] ⟨rfl,⟨rfl,rfl,rfl,rfl,rfl,rfl,rfl,rfl,rfl,rfl,I⟩,⟨Zad,⟨Zdb,⟨Zad,⟨Zad,⟨Zab,I⟩⟩⟩⟩⟩,I⟩ OM ?_
      intro j hj
      by_cases hj2:j < m.inputs.length
      ·obtain⟨z,hz⟩:=aj hj2
       obtain⟨d,hd⟩:=aj (xs:=t.deps) (n:=j) OM
       have hd2:=a4 d (List.mem_of_getElem? hd)
       obtain⟨y,hy⟩:=aj (xs:=cu p) (n:=d.toNat) OM
       have hzy:z = y:=by
        rw[g3]at hz
        unfold cC at hz
        rw[List.getElem?_map,hd,Option.map_some,hy]at hz
        exact(Option.some.inj hz).symm
       conv=>whnf
       refine W.sq<|g 132 136 []<|J UE<|W.cn<|J (fun _=>(W.skip (W.sq (W.blk (gd 136 157 [[],[],[],[.n (j)],[.x (ak z)],[],[],[],[],[],[.x (aB t)],[],[],[],[.x (gS d)],[],[.n (Int.toNat d)],[.x (ak y)],[]] ?_))))) (noF (by simp_all))
       conv=>whnf
       refine⟨⟨I,I,I,Zdf,xA,I,I,I,I,I,⟨AS,xA⟩,I,I,I,Zdg,I,Zdl,xA,I,I⟩,by kernel_rfl,?_⟩
       refine W.cn<|J (noT nO) fun _=>W.skip<|rg [.i ((j:Int) +1)]<|J Zdc ?_
       refine⟨j+1,[some 5,some 6,some 35,some 37,some 12],[],⟨rfl,⟨rfl,rfl,rfl,rfl,rfl,rfl,rfl,rfl,rfl,rfl,I⟩,⟨Zad,⟨Zdb,⟨Zad,⟨Zad,⟨Zab,I⟩⟩⟩⟩⟩,I⟩,?_,?_⟩
       rotate_left
       (dsimp only;omega)
       dsimp only
       omega
      ·conv=>whnf
       refine W.sq<|g 132 136 []<|J UE<|W.cn<|J (noT (by simp_all)) fun _=>W.exit<|rg [.i ((↑(Prod.fst (k,u)):Int) +1)]<|J Zdc ?_
       refine⟨(k+1,u+1),[some 5,some 6,some 35,some 37],[],Zel,?_,?_⟩
       rotate_left
       (dsimp only;omega)
       dsimp only
       omega
     ·conv=>whnf
      refine W.sq<|g 53 57 []<|J UE<|W.cn<|J (fun _=>(W.skip (W.sq (W.blk (g 57 70 [.n (Prod.fst (k,u)),.x (bI s),.call (ew (some m)) [[],[]]]<|J ⟨I,I,I,Zdf,I,xA,Zam,I,I,I,I,UH,I,I⟩ (W.sq (gd 13 87 [[],[],[],[BF],[BF],[BF],[BF],[BF],[BF,.n (Prod.fst (k,u))],[BF],[BF,.x (bI s)],[BF],[BF],[],[BF],[BF],[BF],[BF]] ?_))))))) (noF SI)
      conv=>whnf
      refine⟨Zbj,by kernel_rfl,?_⟩
      refine W.cn<|J (noT dO) fun _=>W.skip<|W.sq<|gd 87 107 [[],[],[],[],[BF],[BF],[BF],[BF],[BF],[BF],[BF],[BF],[BF],[BF],[BF],[BF],[BF],[BF],[BF],[BF]] ?_
      conv=>whnf
      refine J ⟨I,I,I,I,dO,dO,dO,dO,dO,dO,I,I,I,I,I,I,I,I,dO,dO,I⟩<|J KR<|W.cn<|J (noT rfl) fun _=>W.skip<|g 107 110 []<|J UC<|W.cn<|J (noT dO) fun _=>W.skip<|rg [.i ((↑(Prod.fst (k,u)):Int) +1)]<|J Zdc ?_
      refine⟨(k+1,u),[some 5,some 6,some 35,some 37],[],Zel,?_,?_⟩
      rotate_left
      (dsimp only;omega)
      dsimp only
      omega
   ·conv=>whnf
    refine W.sq<|g 53 57 []<|J UE<|W.cn<|J (noT SI) fun _=>W.exit<|rg [.i ((↑(Prod.fst (i,w,o)):Int) +1)]<|J Zdc ?_
    refine⟨(i+1,w1,u),[some 5,some 35,some 37,some 6],[],⟨rfl,Zb1,⟨Zad,⟨Zad,⟨Zad,⟨Zdb,I⟩⟩⟩⟩,I⟩,?_,?_⟩
    rotate_left
    (dsimp only;omega)
    dsimp only
    exact⟨by omega,j2,j3,j4,by first|omega|(dsimp only;omega),by first|omega|(dsimp only;omega)⟩
 ·have e1:=sV w ⟨7,0,0,0⟩ (jd (fM i2))
  rw[show wDo w ⟨7,0,0,0⟩ = doW w ⟨7,0,0,0⟩from if_pos i2]at e1
  have f1:=yn ⟨7,0,0,0⟩ i2
  generalize doW w ⟨7,0,0,0⟩ = w1 at e1 f1
  have e2:=sV w1 ⟨1,0,0,0⟩ (jd (fM f1))
  rw[show wDo w1 ⟨1,0,0,0⟩ = doW w1 ⟨1,0,0,0⟩from if_pos f1]at e2
  have f2:=yn ⟨1,0,0,0⟩ f1
  generalize doW w1 ⟨1,0,0,0⟩ = w2 at e2 f2
  have e3:=qq w2 (jd (fM f2))
  rw[decide_eq_true f2]at e3
  by_cases ho:0 < o
  ·conv=>whnf
   refine W.sq<|g 38 41 []<|J UD<|W.cn<|J (noT SI) fun _=>W.exit<|g 10 163 [.call (aD w1) [[],[]],.call (aD w2) [[],[]]]<|J ⟨I,I,Zc3,I,Zc3,UQ,I⟩<|g 5 169 [BT,BT,BT]<|J ⟨I,I,I,tO,tO,tO,I,I⟩<|RT ?_
   rfl
  ·conv=>whnf
   refine W.sq<|g 38 41 []<|J UD<|W.cn<|J (noT SI) fun _=>W.exit<|g 10 163 [.call (aD w1) [[],[]],.call (aD w2) [[],[]]]<|J ⟨I,I,Zc3,I,Zc3,UQ,I⟩<|g 5 169 [BF,BF,.call VT [[]],BF]<|J ⟨I,I,I,⟨dO,I⟩,⟨dO,UA,I,⟨UQ,I⟩,UA,AS⟩,dO,I,I⟩<|RT ?_
   rfl
end Go.K
end

/- Contracts of functions of the program: what each call answers. -/
import Derived.Test.YtoknlfldllmhpaaParte
set_option maxHeartbeats 8000000
set_option maxRecDepth 20000
set_option linter.unusedVariables false
set_option linter.unusedSimpArgs false
section
open Go Go.Tm Go.Proofs
namespace Go.K
theorem KQ(t:ByteArray)(q:Nat)(c:UInt8)(ma:Int):(N7 t q c ma).size = t.size:=by
 unfold N7
 show((bN _).toArray).size = _
 simp[bN,fz]
theorem KS{xs:List Parcel}{k pl ma:Int}{x:Parcel}(hx:∀ y∈xs,ParOk y)(h:x∈qT xs k pl ma):ParOk x:=by
 unfold qT at h;split at h
 ·cases hy:xs[k.toNat]? with
  |none=>rw[hy]at h;exact hx x h
  |some y =>
   rw[hy]at h
   rcases List.mem_or_eq_of_mem_set h with h|h
   ·exact hx x h
   ·have hp:=hx y (List.mem_of_getElem? hy)
    rw[h];unfold Pr
    split
    ·exact⟨hp.to,hp.sent,by show(N7 _ _ _ _).size≤500;rw[KQ];exact hp.bytes⟩
    ·exact hp
 ·exact hx x h
theorem tK{m:Message}{key:ByteArray}(h:bC m):(dK m key).size≤500:=by
 unfold dK;split
 ·obtain⟨h1,_,h3⟩:=cY h
  rw[ByteArray.size_append,vr,fA h];omega
 ·exact Nat.zero_le _
theorem J3{key:ByteArray}{acc:List Parcel}{m:Message}(h:acc.length≤2000∧∀ x∈acc,ParOk x):(pC key acc m).length≤2000∧∀ x∈pC key acc m,ParOk x:=by
 unfold pC;split
 ·rename_i q
  refine⟨by rw[List.length_append,List.length_singleton];omega,fun x hx=>?_⟩
  rcases List.mem_append.1 hx with hx|hx
  ·exact h.2 x hx
  ·rw[List.mem_singleton.1 hx]
   exact⟨(eR q.1).2.2.1,tK q.1,tK q.1⟩
 ·exact h
theorem Gu{key:ByteArray}:∀ (ms:List Message) {xs:List Parcel},(xs.length≤2000∧∀ x∈xs,ParOk x)→(ms.foldl (pC key) xs).length≤2000∧∀ x∈ms.foldl (pC key) xs,ParOk x
 |[],xs,h=>h
 |m :: ms,xs,h=>Gu ms (J3 h)
theorem J5{key:ByteArray}{ms:List Message}{xs:List Parcel}(h:xs.length≤2000∧∀ x∈xs,ParOk x):(ub xs ms key).length≤2000∧∀ x∈ub xs ms key,ParOk x:=Gu _ h
theorem Ef(b:Boss)(ts:List Task):(gM b ts).boss.workers = b.workers:=by
 unfold gM;split
 ·rfl
 ·split
  ·rfl
  ·split <;> rfl
theorem E5(b:Boss)(k:Int):(dN b k).workers = b.workers:=by unfold dN;split <;> rfl
theorem vu(b:Boss)(p:Plan):(aY b p).workers = b.workers:=by unfold aY;split <;> rfl
theorem HO(b:Boss)(m:Message):(xh b m).workers = b.workers:=by unfold xh;split <;> rfl
theorem BG(b:Boss)(ts:List Task)(m:Message):(hJ b ts m).workers = b.workers:=by
 unfold hJ;split
 ·split
  ·unfold ur;split <;> rfl
  ·split
   ·rfl
   ·split
    ·split
     ·rw[en,HO,(Gg (b:=rS b ts m) (m:=m)).2,(Gh (b:=b) (ts:=ts) (m:=m)).2]
     ·rfl
    ·rfl
 ·rfl
theorem wz{w:World}(h:WorldOk w):WorldOk (g9 w):=by
 unfold g9;split
 ·exact h
 ·rw[rN h.boss]
  have hp:=J5 (key:=w.key) (ms:=(gM w.boss w.plan.tasks).out++lS w.plan w.workers w.workers.length) ⟨h.fl,h.par⟩
  refine⟨h.plan,h.key,⟨by show 1≤(w.workers.map _).length;rw[List.length_map];exact h.wl.1,by show(w.workers.map _).length≤8;rw[List.length_map];exact h.wl.2⟩,hp.1,?_,hp.2,Eg h.boss,by show(gM w.boss w.plan.tasks).boss.workers = ((w.workers.map _).length:Int);rw[List.length_map,Ef];exact h.same⟩
  intro i y hi hy
  change (w.workers.map _)[i]? = some y at hy
  rw[List.getElem?_map]at hy
  cases hx:w.workers[i]? with
  |none=>rw[hx]at hy;cases hy
  |some x =>
   rw[hx]at hy
   have hc:=h.crew i x (List.getElem?_eq_some_iff.1 hx).1 hx
   have e:=Option.some.inj hy
   dsimp only at e
   rw[dQ hc.ok h.plan]at e
   have ht:=JM w.plan.tasks hc.ok
   rw[←e]
   exact⟨ht.1,by rw[ht.2];exact hc.num⟩
theorem tm{w:World}{s:Parcel}(h:WorldOk w):WorldOk (cx w s):=by
 unfold cx
 cases hm:dE s.text w.key with
 |none=>exact h
 |some m =>
  dsimp only
  have hg:=JG (s:=s) h
  split
  ·rw[rO h.boss]
   exact wu hg (Ej m h.boss) (BG _ _ _)
  ·split
   ·rename_i hk
    obtain⟨x,hx,e,ok,num⟩:=sO h hk
    rw[e,dR ok h.plan]
    have ht:=JQ (ts:=w.plan.tasks) m h.plan ok
    exact wt (x:=x) hg hk ht.1 (by rw[ht.2];exact num)
   ·exact hg
theorem zM{w:World}(k:Int)(h:WorldOk w):WorldOk (dA w k):=by
 unfold dA;split
 ·exact tm (jd h (by have:=AN w.flight k;have:=h.fl;omega) fun x hx=>h.par x (wI hx))
 ·exact h
theorem Mf{w:World}(e:Event)(h:WorldOk w):WorldOk (doW w e):=by
 unfold doW
 split
 ·exact wz h
 split
 ·exact zM _ h
 split
 ·exact jd h (PS h.fl) fun x hx=>h.par x (NY hx)
 split
 ·exact jd h (by have:=AN w.flight e.a;have:=h.fl;omega) fun x hx=>h.par x (wI hx)
 split
 ·exact jd h (by rw[KT];exact h.fl) fun x hx=>KS h.par hx
 split
 ·split
  ·rw[nu h.boss];exact wu h (iY _ h.boss) (E5 _ _)
  ·split
   ·rename_i hk
    obtain⟨x,hx,e,ok,num⟩:=sO h hk
    rw[e]
    have ht:=Kz ok
    exact wt (x:=x) h hk ht.1 (by rw[ht.2];exact num)
   ·exact h
 split
 ·split
  ·rw[gZ h.boss];exact wu h (iT h.boss) (vu _ _)
  ·split
   ·rename_i hk
    obtain⟨x,hx,e,ok,num⟩:=sO h hk
    rw[e]
    have ht:=JZ ok
    exact wt (x:=x) h hk ht.1 (by rw[ht.2];exact num)
   ·exact h
 ·exact h
end Go.K
end
section
open Go Go.Tm Go.Proofs
namespace Go.K
theorem wy{w:World}(h:1000000≤w.boss.now):g9 w = w:=if_pos h
end Go.K
end
section
open Go Go.Tm Go.Proofs
namespace Go.K
theorem qD{xs:List Parcel}{k:Int}(h:k < 0∨(xs.length:Int)≤k):cB xs k = xs:=if_neg fun q=>by have:=q.2;omega
theorem tS{xs:List Parcel}{k:Int}(h:k < 0∨(xs.length:Int)≤k):qL xs k = xs:=if_neg fun q=>by have:=q.2;omega
theorem qS{xs:List Parcel}{k pl ma:Int}(h:k < 0∨(xs.length:Int)≤k):qT xs k pl ma = xs:=if_neg fun q=>by have:=q.1.2;omega
structure Keeps (b c:Boss):Prop where
 up:c.up = b.up
 res:c.results = b.results
end Go.K
end
section
open Go Go.Tm Go.Proofs
namespace Go.K
theorem El{ts:List Task}{t u:Tale}{s:ByteArray}(h:dk ts t s = some u){i:Int}(hi:0≤i)(hn:¬atS t.results i = emp):atS u.results i = atS t.results i:=by
 unfold dk at h
 cases he:dD s with
 |none=>rw[he]at h;cases h
 |some e =>
  rw[he]at h
  have hok:=iJ he
  simp only at h
  split at h
  ·split at h
   ·cases h;rfl
   ·cases h
  ·split at h
   ·rename_i hc
    cases h
    have c3:atS t.results e.task = emp:=hc.2.2.1
    have hd:¬i = e.task:=fun q=>hn (by rw[q];exact c3)
    exact kG hok.2.1.1 hi hd
   ·cases h
theorem yV{ts:List Task}:∀ {l:List ByteArray} {t u:Tale},ji ts (some t) l = some u→∀ {i:Int},0≤i→¬atS t.results i = emp→atS u.results i = atS t.results i
 |[],t,u,h,i,hi,hn=>by rw[gS]at h;cases h;rfl
 |s :: l,t,u,h,i,hi,hn=>by
  rw[nE]at h
  cases hs:dk ts t s with
  |none=>rw[hs,gG]at h;cases h
  |some v =>
   rw[hs]at h
   have e:=El hs hi hn
   rw[yV h hi (by rw[e];exact hn),e]
theorem zU{p:Plan}{xs ys:List ByteArray}(h:(aw p (xs++ys)).code = 0){i:Int}(hi:0≤i)(hn:¬atS (aw p xs).results i = emp):atS (aw p (xs++ys)).results i = atS (aw p xs).results i:=by
 obtain⟨_,_,_,t,a1,a2⟩:=bR (lm h)
 obtain⟨_,_,_,u,b1,b2⟩:=bR h
 rw[a2]at hn ⊢
 rw[b2]
 rw[nb,a1]at b1
 exact yV b1 hi hn
def EO(b:Boss)(k:Int):List ByteArray:=b.log.safe++b.log.loose.take (hZ k b.log.loose.length)
theorem wN{b:Boss}{p:Plan}{k:Int}(hv:BossOk b p):(dN b k).log.safe = EO b k∧(dN b k).up = false:=by
 by_cases hup:b.up = false
 ·rw[nT hup]
  have e:=List.eq_nil_of_length_eq_zero (hv.down hup).loose
  refine⟨?_,hup⟩
  unfold EO;rw[e,List.take_nil,List.append_nil]
 ·rw[v9 hup];exact⟨rfl,rfl⟩
theorem H5{b:Boss}{p:Plan}(k:Int)(hv:BossOk b p):(aw p (EO b k)).code = 0:=by
 have h:=hv.code
 rw[bU,←List.take_append_drop (hZ k b.log.loose.length) b.log.loose,←List.append_assoc]at h
 exact lm h
theorem mH{x:Boss}{p:Plan}(hv:BossOk x p)(hr:n9 x p):aw p (aY x p).log.safe = ⟨0,(aY x p).epoch,(aY x p).results⟩∧(aY x p).results = (aw p x.log.safe).results∧(aY x p).given = 0∧(aY x p).log.loose = []∧(aY x p).up = true:=by
 obtain⟨_,hc⟩:=vK hv hr.1
 rw[xf hr]
 have h3:=hr.2.2
 exact⟨lc hc hr.2.1 rfl OM,rfl,rfl,rfl,rfl⟩
theorem wC{x:Boss}{p:Plan}(hx:x.up = false)(h:(aY x p).up = true):n9 x p:=by
 by_cases hr:n9 x p
 ·exact hr
 ·rw[mf hr,hx]at h;cases h
theorem Eo{b:Boss}{p:Plan}{k:Int}(hv:BossOk b p)(hu:(aY (dN b k) p).up = true){i:Int}(hi:0≤i)(hn:¬atS (aw p b.log.safe).results i = emp):atS (aY (dN b k) p).results i = atS (aw p b.log.safe).results i:=by
 obtain⟨f1,f2⟩:=wN (k:=k) hv
 have hr:=wC f2 hu
 obtain⟨_,e,_⟩:=mH (iY k hv) hr
 rw[e,f1]
 exact zU (H5 k hv) hi hn
theorem HN{b:Boss}{p:Plan}(hv:BossOk b p)(hup:b.up = true)(hu:(aY (dN b (b.log.loose.length:Int)) p).up = true):(aY (dN b (b.log.loose.length:Int)) p).results = b.results:=by
 obtain⟨f1,f2⟩:=wN (k:=(b.log.loose.length:Int)) hv
 have hr:=wC f2 hu
 obtain⟨_,e,_⟩:=mH (iY _ hv) hr
 rw[e,f1,(hv.up hup).res]
 have:EO b (b.log.loose.length:Int) = b.log.safe++b.log.loose:=by
  unfold EO;rw[DI (Int.le_refl _),List.take_length]
 rw[this];rfl
end Go.K
end
section
open Go Go.Tm Go.Proofs
namespace Go.K
def uC(n:Nat)(a:Acted):Prop:=a.worker.inputs.length≤n∧(a.out = []∨∃ m,a.out = [m]∧m.inputs = [])
theorem pv{n:Nat}{w:Worker}{k:Int}(h:w.inputs.length≤n):uC n (yG w k):=⟨h,.inr ⟨_,rfl,rfl⟩⟩
theorem fq{n:Nat}{w:Worker}(h:w.inputs.length≤n):uC n ⟨w,[]⟩:=⟨h,.inl rfl⟩
theorem Eh(w:Worker)(ts:List Task):uC w.inputs.length (fK w ts):=by
 unfold fK
 split
 ·exact fq (Nat.le_refl _)
 split
 ·split
  ·exact⟨Nat.zero_le _,.inr ⟨_,rfl,rfl⟩⟩
  ·split
   ·exact pv (Nat.le_refl _)
   ·exact fq (Nat.le_refl _)
 split
 ·split
  ·exact pv (Nat.le_refl _)
  ·exact fq (Nat.le_refl _)
 ·split
  ·exact pv (Nat.le_refl _)
  ·exact fq (Nat.le_refl _)
theorem BD(w:Worker)(p:Plan):uC w.inputs.length (gL w p):=by
 unfold gL;split
 ·exact Eh _ _
 ·exact fq (Nat.zero_le _)
end Go.K
end
section
open Go Go.Tm Go.Proofs
namespace Go.K
theorem PU{p:Plan}(h:am p.tasks = 0):cR p:=Bi (fF (kB h))
theorem Ey{s:ByteArray}{e:Entry}(h:dD s = some e):s.size≤12:=by
 have e1:=gw e
 rw[Ez h]at e1
 have hok:=iJ h
 rcases hok.2.2 with⟨_,_,h3⟩|⟨_,h3⟩
 ·have:e.text.size = 0:=by rw[h3];rfl
  omega
 ·omega
theorem vh{p:Plan}{xs:List ByteArray}(h:(aw p xs).code = 0):∀ s∈xs,s.size≤12:=fun s hs=>by
 obtain⟨e,he,_⟩:=(yS h).fwd s hs
 exact Ey he
theorem xq{b:Boss}{p:Plan}(h:BossOk b p):BossLim b:=by
 have hc:=h.code
 have hl:=(bR hc).2.1
 have hs:=vh hc
 have hp:=(bM h.plan).1
 rw[List.length_append]at hl
 have hw:=h.workers
 cases hb:b.up with
 |true =>
  obtain⟨u1,u2,u3,u4,u5,u6,u7,u8,u9,u10,u11,u12⟩:=h.up hb
  exact⟨by omega,by omega,fun s q=>by have:=hs s q;omega,by omega,by omega,by omega,by omega⟩
 |false =>
  obtain⟨d1,d2,d3,d4,d5,d6,d7,d8⟩:=h.down hb
  exact⟨by omega,by omega,fun s q=>by have:=hs s q;omega,by omega,by omega,by omega,by omega⟩
theorem Io{l:List ByteArray}(h:dV l):l.length≤8:=h.2
theorem Eb{x:Worker}(h:au x):x.inputs.length≤8:=by
 obtain⟨_,_,_,_,h|h|h⟩:=h
 ·obtain⟨_,_,_,_,_,h,_⟩:=h;omega
 ·obtain⟨_,_,_,_,h,_⟩:=h;exact Io h
 ·obtain⟨_,_,_,_,h,_⟩:=h;omega
structure DoLim (w:World):Prop where
 plan:cR w.plan
 small:cy w.plan
 boss:BossLim w.boss
 wl:w.workers.length≤8
 wi:∀ x∈w.workers,x.inputs.length≤8
 fl:w.flight.length≤2000
 par:∀ x∈w.flight,ParOk x
 key:w.key.size≤30
def wq(w:World):Prop:=WorldOk w∨w = noWorld
theorem Kc{w:World}(h:WorldOk w):DoLim w:=by
 refine⟨PU h.plan,kB h.plan,xq h.boss,h.wl.2,fun x hx=>?_,h.fl,h.par,h.key⟩
 obtain⟨n,hn⟩:=List.getElem?_of_mem hx
 exact Eb (h.crew n x (List.getElem?_eq_some_iff.1 hn).1 hn).ok
theorem no_dolim:DoLim noWorld:=by
 refine⟨⟨Nat.zero_le _,fun y hy=>(by cases hy)⟩,⟨Nat.zero_le _,fun y hy=>(by cases hy)⟩,⟨Nat.zero_le _,Nat.zero_le _,fun s hs=>(by cases hs),Nat.zero_le _,Nat.zero_le _,Nat.zero_le _,Nat.zero_le _⟩,Nat.zero_le _,fun y hy=>(by cases hy),Nat.zero_le _,fun y hy=>(by cases hy),Nat.zero_le _⟩
theorem cZ{w:World}(h:wq w):DoLim w:=by
 rcases h with h|rfl
 ·exact Kc h
 ·exact no_dolim
theorem AK{b:Boss}{ts:List Task}(h:ts = []):¬BossOk b ⟨ts⟩:=fun q=>by subst h;have:=(bM q.plan).1.1;exact absurd this (by decide)
theorem ny:g9 noWorld = noWorld:=by
 have e:nW noWorld.boss noWorld.plan = Bf:=wW (AK rfl)
 unfold g9
 rw[if_neg (by decide),e]
 rfl
theorem gB(k:Int):dA noWorld k = noWorld:=if_neg fun q=>by have:=q.2;simp only[List.length_nil]at this;omega
theorem pR(e:Event):doW noWorld e = noWorld:=by
 unfold doW
 split
 ·exact ny
 split
 ·exact gB _
 have hn:∀ k:Int,k < 0∨(([]:List Parcel).length:Int)≤k:=fun k=>by simp only[List.length_nil];omega
 split
 ·show dh noWorld (qL [] e.a) = _
  rw[tS (hn _)];rfl
 split
 ·show dh noWorld (cB [] e.a) = _
  rw[qD (hn _)];rfl
 split
 ·show dh noWorld (qT [] e.a e.b e.c) = _
  rw[qS (hn _)];rfl
 have hx:¬lY noWorld e.a:=fun q=>by have h1:=q.1;have h2:=q.2;simp only[List.length_nil]at h2;omega
 split
 ·split
  ·show u0 noWorld (nX fC ⟨[]⟩ e.b) = _
   rw[show nX fC ⟨[]⟩ e.b = fC from rP (AK rfl)];rfl
  ·first|rfl|rw[if_neg hx]
 split
 ·split
  ·show u0 noWorld (gP fC ⟨[]⟩) = _
   rw[show gP fC ⟨[]⟩ = fC from if_neg (AK rfl)];rfl
  ·first|rfl|rw[if_neg hx]
 ·rfl
theorem zq{w:World}(h:wq w):wq (g9 w):=by
 rcases h with h|rfl
 ·exact .inl (wz h)
 ·exact .inr ny
theorem lD{w:World}(k:Int)(h:wq w):wq (dA w k):=by
 rcases h with h|rfl
 ·exact .inl (zM k h)
 ·exact .inr (gB k)
theorem GM{w:World}(e:Event)(h:wq w):wq (doW w e):=by
 rcases h with h|rfl
 ·exact .inl (Mf e h)
 ·exact .inr (pR e)
theorem Fj(p:Plan)(ws:List Worker):lS p ws 0 = []:=rfl
theorem Fk{p:Plan}{ws:List Worker}{n:Nat}{x:Worker}(h:ws[n]? = some x):lS p ws n++ (gL x p).out = lS p ws (n+1):=by
 unfold lS;rw[List.take_add_one,h];simp
theorem sN(x:Worker)(p:Plan):(gL x p).out.length≤1∧∀ m∈(gL x p).out,m.inputs = []:=by
 rcases(BD x p).2 with e|⟨m,e,e2⟩
 ·rw[e];exact⟨Nat.zero_le _,fun m hm=>by cases hm⟩
 ·rw[e];exact⟨Nat.le_refl _,fun y hy=>by rw[List.mem_singleton.1 hy];exact e2⟩
theorem GT{α:Type}:∀ {xs:List (List α)},(∀ x∈xs,x.length≤1)→xs.flatten.length≤xs.length
 |[],_=>Nat.le_refl _
 |x :: xs,h=>by
  have h1:=h x (List.mem_cons_self ..)
  have h2:=GT fun y hy=>h y (List.mem_cons_of_mem x hy)
  simp only[List.flatten_cons,List.length_append,List.length_cons];omega
theorem KV(p:Plan)(ws:List Worker)(n:Nat):(lS p ws n).length≤ws.length:=by
 have h:=GT (xs:=(ws.take n).map fun x=>(gL x p).out) (fun y hy=>by obtain⟨x,_,rfl⟩:=List.mem_map.1 hy;exact(sN x p).1)
 have:((ws.take n).map fun x=>(gL x p).out).length≤ws.length:=by rw[List.length_map,List.length_take];omega
 exact Nat.le_trans h this
theorem KW{p:Plan}{ws:List Worker}{n:Nat}{m:Message}(h:m∈lS p ws n):m.inputs = []:=by
 obtain⟨l,hl,hm⟩:=List.mem_flatten.1 h
 obtain⟨x,_,rfl⟩:=List.mem_map.1 hl
 exact(sN x p).2 m hm
theorem Iy(b:Boss)(p:Plan):(nW b p).out.length≤2040:=by
 by_cases hv:BossOk b p
 ·rw[rN hv]
  by_cases h0:b.now = 1000000
  ·rw[rj h0];exact Nat.zero_le _
  by_cases hup:b.up = false
  ·rw[ve h0 hup];exact Nat.zero_le _
  have hup2:b.up = true:=by cases hb:b.up;exact absurd hb hup;rfl
  obtain⟨u1,u2,u3,u4,u5,u6,⟨u7,u8⟩,⟨u9,u10⟩,u11,u12,u13,u14⟩:=hv.up hup2
  have hpl:=(bM hv.plan).1
  have hdl:∀ t∈p.tasks,t.deps.length≤8:=fun t ht=>by
   obtain⟨k,hk⟩:=List.getElem?_of_mem ht
   exact(bP hv.plan hk).2.2.1
  obtain⟨k1,k2,k3,k4,k5,k6⟩:=kh (b:=da b) (ts:=p.tasks) hdl u9 u10 p.tasks.length
  have j3:(endH b p.tasks).out.length≤40:=by show(aG _ _ _).out.length≤_;omega
  by_cases hs:b.since+1 = 2
  ·rw[lj h0 hup hs]
   simp only[List.length_append,List.length_map];omega
  ·rw[nz h0 hup hs]
   show(endH b p.tasks).out.length≤_;omega
 ·rw[wW hv];exact Nat.zero_le _
theorem Nj{w:World}(h:¬1000000≤w.boss.now):g9 w = ⟨w.plan,w.key,(nW w.boss w.plan).boss,w.workers.map (fun x=>(gL x w.plan).worker),ub w.flight ((nW w.boss w.plan).out++lS w.plan w.workers w.workers.length) w.key,w.forged⟩:=if_neg h
open Classical in
noncomputable def Dx(w:World)(s:Parcel):ByteArray:=if ¬s.text = s.frm∧w.forged = emp then s.text else w.forged
theorem NL{w:World}{s:Parcel}(h1:¬s.text = s.frm)(h2:w.forged = emp):Dx w s = s.text:=if_pos ⟨h1,h2⟩
theorem Kq{w:World}{s:Parcel}(h1:s.text = s.frm):Dx w s = w.forged:=if_neg fun q=>q.1 h1
theorem Kr{w:World}{s:Parcel}(h2:¬w.forged = emp):Dx w s = w.forged:=if_neg fun q=>h2 q.2
theorem IA{w:World}{k:Int}{s:Parcel}(ha:w.flight.length≤2000∧0≤k∧k < w.flight.length)(hs:w.flight[k.toNat]? = some s):dA w k = cx (dh w (cB w.flight k)) s:=by
 have e:EI w.flight k = s:=by unfold EI;rw[hs];rfl
 rw[dA,if_pos (show Bo w k from ha),e]
theorem KN{w:World}{k:Int}(ha:¬(w.flight.length≤2000∧0≤k∧k < w.flight.length)):dA w k = w:=if_neg ha
theorem IB{w:World}{s:Parcel}(hm:dE s.text w.key = none):cx w s = w:=by unfold cx;rw[hm]
theorem CB{w:World}{s:Parcel}{m:Message}(hm:dE s.text w.key = some m)(h0:s.kind = 0):cx w s = ⟨w.plan,w.key,(yN w.boss w.plan m).boss,w.workers,w.flight,Dx w s⟩:=by unfold cx;rw[hm];dsimp only;rw[if_pos h0];rfl
theorem Cz{w:World}{s:Parcel}{m:Message}{x:Worker}(hm:dE s.text w.key = some m)(h0:¬s.kind = 0)(hx:lY w s.kind)(hw:w.workers[(s.kind - 1).toNat]? = some x):cx w s = ⟨w.plan,w.key,w.boss,w.workers.set (s.kind - 1).toNat (ua x w.plan m).worker,w.flight,Dx w s⟩:=by
 have e:g8 w.workers (s.kind - 1) = x:=by unfold g8;rw[hw];rfl
 unfold cx;rw[hm];dsimp only;rw[if_neg h0,if_pos hx,e];rfl
theorem Fd{w:World}{s:Parcel}{m:Message}(hm:dE s.text w.key = some m)(h0:¬s.kind = 0)(hx:¬lY w s.kind):cx w s = ⟨w.plan,w.key,w.boss,w.workers,w.flight,Dx w s⟩:=by
 unfold cx;rw[hm];dsimp only;rw[if_neg h0,if_neg hx];rfl
theorem do_1{w:World}{e:Event}(h:e.kind = 1):doW w e = g9 w:=by rw[doW,if_pos h]
theorem do_2{w:World}{e:Event}(h:e.kind = 2):doW w e = dA w e.a:=by rw[doW,if_neg OM,if_pos h]
theorem do_3{w:World}{e:Event}(h:e.kind = 3):doW w e = ⟨w.plan,w.key,w.boss,w.workers,qL w.flight e.a,w.forged⟩:=by rw[doW,if_neg OM,if_neg OM,if_pos h];rfl
theorem do_4{w:World}{e:Event}(h:e.kind = 4):doW w e = ⟨w.plan,w.key,w.boss,w.workers,cB w.flight e.a,w.forged⟩:=by rw[doW,if_neg OM,if_neg OM,if_neg OM,if_pos h];rfl
theorem do_5{w:World}{e:Event}(h:e.kind = 5):doW w e = ⟨w.plan,w.key,w.boss,w.workers,qT w.flight e.a e.b e.c,w.forged⟩:=by rw[doW,if_neg OM,if_neg OM,if_neg OM,if_neg OM,if_pos h];rfl
theorem Qy{w:World}{e:Event}(h:e.kind = 6):doW w e = if e.a = 0 then u0 w (nX w.boss w.plan e.b)else if lY w e.a then A4 w e.a (pk (g8 w.workers (e.a - 1)))else w:=by rw[doW,if_neg OM,if_neg OM,if_neg OM,if_neg OM,if_neg OM,if_pos h]
theorem Qx{w:World}{e:Event}(h:e.kind = 7):doW w e = if e.a = 0 then u0 w (gP w.boss w.plan)else if lY w e.a then A4 w e.a (li (g8 w.workers (e.a - 1)))else w:=by rw[doW,if_neg OM,if_neg OM,if_neg OM,if_neg OM,if_neg OM,if_neg OM,if_pos h]
theorem Rf{w:World}{e:Event}(h:e.kind = 6)(h0:e.a = 0):doW w e = ⟨w.plan,w.key,nX w.boss w.plan e.b,w.workers,w.flight,w.forged⟩:=by rw[Qy h,if_pos h0];rfl
theorem Rc{w:World}{e:Event}(h:e.kind = 7)(h0:e.a = 0):doW w e = ⟨w.plan,w.key,gP w.boss w.plan,w.workers,w.flight,w.forged⟩:=by rw[Qx h,if_pos h0];rfl
theorem Rd{w:World}{e:Event}{x:Worker}(h:e.kind = 6)(hx:lY w e.a)(hw:w.workers[(e.a - 1).toNat]? = some x):doW w e = ⟨w.plan,w.key,w.boss,w.workers.set (e.a - 1).toNat (pk x),w.flight,w.forged⟩:=by
 have e1:g8 w.workers (e.a - 1) = x:=by unfold g8;rw[hw];rfl
 rw[Qy h,if_neg (by have:=hx.1;omega),if_pos hx,e1];rfl
theorem Ra{w:World}{e:Event}{x:Worker}(h:e.kind = 7)(hx:lY w e.a)(hw:w.workers[(e.a - 1).toNat]? = some x):doW w e = ⟨w.plan,w.key,w.boss,w.workers.set (e.a - 1).toNat (li x),w.flight,w.forged⟩:=by
 have e1:g8 w.workers (e.a - 1) = x:=by unfold g8;rw[hw];rfl
 rw[Qx h,if_neg (by have:=hx.1;omega),if_pos hx,e1];rfl
theorem Re{w:World}{e:Event}(h:e.kind = 6)(h0:¬e.a = 0)(hx:¬lY w e.a):doW w e = w:=by rw[Qy h,if_neg h0,if_neg hx]
theorem Rb{w:World}{e:Event}(h:e.kind = 7)(h0:¬e.a = 0)(hx:¬lY w e.a):doW w e = w:=by rw[Qx h,if_neg h0,if_neg hx]
abbrev A3(p:Plan)(key:ByteArray)(b:Boss)(ws:List (List T))(fl:List Parcel)(f:ByteArray):V:=.agg [.own eF (p.tasks.map aD),.t (.s key),.t (.i b.workers),.t (.b b.up),.t (.i b.now),.t (.i b.since),.t (.i b.epoch),.t (.i b.given),.own [false] (b.log.safe.map aq),.own [false] (b.log.loose.map aq),.own [false] (b.results.map aq),.own ey (b.jobs.map aH),.own cz (b.seats.map aI),.own cA (b.owed.map aX),.own gQ ws,.own pkd (fl.map bZ),.t (.s f)]
theorem rq{xs:List Worker}{n:Nat}{x:Worker}:(xs.map aF).set n (aF x) = (xs.set n x).map aF:=by rw[←List.map_set]
theorem iE(p:Plan)(key:ByteArray)(b:Boss)(ws:List Worker)(n:Nat)(y:Worker)(fl:List Parcel)(f:ByteArray):A3 p key b ((ws.map aF).set n (aF y)) fl f = bh ⟨p,key,b,ws.set n y,fl,f⟩:=by
 show A3 p key b _ fl f = A3 p key b ((ws.set n y).map aF) fl f
 rw[rq]
end Go.K
end
section
open Go Go.Tm Go.Proofs
namespace Go.K
theorem rv{b:Boss}{m:Message}(h:Owes b m):xh b m = ⟨b.workers,b.up,b.now,b.since,b.epoch,b.given,b.log,b.results,b.jobs,b.seats,b.owed++ [⟨m.frm,m.lease,m.task⟩]⟩:=if_pos h
theorem ga{b:Boss}{m:Message}(h:¬Owes b m):xh b m = b:=if_neg h
theorem Mo{rs:List ByteArray}{k:Int}{v:ByteArray}(h:k.toNat < rs.length):atS (rs.set k.toNat v) k = v:=by
 unfold atS;rw[List.getElem?_set_self h];rfl
theorem Gq{b:Boss}{ts:List Task}{m:Message}(h:CanPut b ts m)(hk:m.task.toNat < b.results.length)(ht:¬m.text = emp):en b ts m = xh (lr b m) m:=by
 have e1:rS b ts m = lr b m:=if_pos h
 have e2:yZ (lr b m) m = lr b m:=if_neg (by rw[show(lr b m).results = b.results.set m.task.toNat m.text from rfl,Mo hk];exact ht)
 rw[en,e1,e2]
theorem Gr{b:Boss}{ts:List Task}{m:Message}(h:¬CanPut b ts m)(hy:atS b.results m.task = emp)(ht:¬m.text = emp):en b ts m = lF b m:=by
 have e1:rS b ts m = b:=if_neg h
 have e2:yZ b m = lF b m:=if_pos hy
 have e3:(lF b m).results = b.results:=by unfold lF;split <;> rfl
 rw[en,e1,e2,ga]
 intro q
 have:=q.same
 rw[e3,hy]at this
 exact ht this.symm
theorem CY{b:Boss}{ts:List Task}{m:Message}(hy:¬atS b.results m.task = emp):en b ts m = xh b m:=by
 have e1:rS b ts m = b:=if_neg fun q=>hy q.res
 have e2:yZ b m = b:=if_neg hy
 rw[en,e1,e2]
theorem C5{b:Boss}{ts:List Task}{m:Message}(hk:m.task.toNat < b.results.length)(h1:b.owed.length < 2000)(h2:∀ o∈b.owed,¬(o.worker = m.frm∧o.lease = m.lease)):Owes (lr b m) m:=⟨Mo hk,h1,h2⟩
theorem rz{xs:List Owed}{m:Message}{n:Nat}{o:Owed}(h:xs[n]? = some o)(ho:o.worker = m.frm∧o.lease = m.lease):¬∀ o∈xs,¬(o.worker = m.frm∧o.lease = m.lease):=fun q=>q o (List.mem_of_getElem? h) ho
theorem rF{b:Boss}{m:Message}(h:qz b m):lF b m = b:=if_pos h
theorem kV{b:Boss}{m:Message}(h:¬qz b m):lF b m = ⟨b.workers,b.up,b.now,b.since,b.epoch,b.given,b.log,b.results,b.jobs,b.seats.set (fr m) ⟨true,m.epoch⟩,b.owed⟩:=if_neg h
theorem Dv{b:Boss}{m:Message}(h:qz b m):ur b m = b:=if_pos h
theorem Dw{b:Boss}{m:Message}(h:¬qz b m):ur b m = ⟨b.workers,b.up,b.now,b.since,b.epoch,b.given,b.log,b.results,b.jobs.map (lE m.frm),b.seats.set (fr m) ⟨true,m.epoch⟩,b.owed⟩:=if_neg h
theorem Be{b:Boss}{m:Message}{x:Seat}(h:b.seats[fr m]? = some x):qz b m↔m.epoch < x.epoch:=by unfold qz;rw[kM,h];exact Iff.rfl
structure ResIn (b:Boss) (ts:List Task) (m:Message):Prop where
 chk:am ts = 0
 res:b.results.length = ts.length
 jobs:b.jobs.length = ts.length
 task:0≤m.task∧m.task < ts.length
 safe:b.log.safe.length≤1048576
 loose:b.log.loose.length≤1048576
 owed:b.owed.length≤1048576
 seats:b.seats.length≤8
 frm:1≤m.frm∧m.frm≤b.seats.length
 text:(m.text.size:Int) = 8
end Go.K
end
section
open Go Go.Tm Go.Proofs
namespace Go.K
theorem Dy{w:Int}{js:List Job}{n:Nat}{j:Job}(h:js[n]? = some j)(hd:j.worker = w):((fw (lE w) js n).map aH).set n (aH eS) = (fw (lE w) js (n+1)).map aH:=by
 have:=nJ (f:=lE w) (g:=aH) h
 rw[show lE w j = eS from if_pos hd]at this
 exact this
theorem GP{w:Int}{js:List Job}{n:Nat}{j:Job}(h:js[n]? = some j)(hd:¬j.worker = w):fw (lE w) js n = fw (lE w) js (n+1):=nK h (if_neg hd)
theorem DM{l u:Int}{js:List Job}{n:Nat}{j:Job}(h:js[n]? = some j)(hd:j.lease = l):((fw (mt l u) js n).map aH).set n (aH ⟨j.lease,j.worker,u⟩) = (fw (mt l u) js (n+1)).map aH:=by
 have:=nJ (f:=mt l u) (g:=aH) h
 rw[show mt l u j = ⟨j.lease,j.worker,u⟩from if_pos hd]at this
 exact this
theorem HA{l u:Int}{js:List Job}{n:Nat}{j:Job}(h:js[n]? = some j)(hd:¬j.lease = l):fw (mt l u) js n = fw (mt l u) js (n+1):=nK h (if_neg hd)
theorem Ll{b:Boss}{p:Plan}{m:Message}(hv:BossOk b p)(h:BossLim b)(hf:ForB b m)(hk:m.kind = 3)(ht:m.task < p.tasks.length):ResIn b p.tasks m:=by
 obtain⟨u1,u2,u3,u4,u5,u6,⟨u7,u8⟩,⟨u9,u10⟩,u11,u12,u13,u14⟩:=hv.up hf.up
 obtain⟨_,⟨f1,_⟩,_⟩:=nn hf
 obtain⟨_,⟨t1,_⟩,tx⟩:=AR hf hk
 have hw:=hv.workers
 have f2:=hf.frm
 exact⟨hv.plan,u3,u4,⟨t1,ht⟩,h.safe,h.loose,h.owed,by omega,⟨f1,by omega⟩,tx⟩
end Go.K
end
section
open Go Go.Tm Go.Proofs
namespace Go.K
theorem lg(b:Boss)(m:Message){x:Seat}(hx:b.seats[fr m]? = some x)(f1:1≤m.frm∧m.frm≤8)(ho:qz b m):F oh [.val (ay b),.val (dI m)] (.tup [ay b,.b false]) [[],[]]:=by
 have hx':b.seats[(m.frm - 1).toNat]? = some x:=hx
 have ho2:=(Be hx).1 ho
 have hl:=(List.getElem?_eq_some_iff.1 hx').1
 refine oA ?_
 conv=>whnf
 refine g 0 0 []<|J ⟨UL,UH,I,I,I⟩<|W.sq<|gd 6 16 [[],[],[],[],[],[],[.i (m.frm - 1)],[.n (Int.toNat (m.frm - 1))],[],[.x (aI x)],[]] ?_
 conv=>whnf
 refine J ⟨I,I,I,I,I,I,wO,Zdq,I,xA,I,I⟩<|J KR<|W.cn<|J (fun _=>(g 16 18 []<|J ⟨I,UL,I,I⟩ (RT ?_))) (noF tO)
 rfl
theorem lh(b:Boss)(m:Message){x:Seat}(hx:b.seats[fr m]? = some x)(f1:1≤m.frm∧m.frm≤8)(ho:¬qz b m):F oh [.val (ay b),.val (dI m)] (.tup [ay (lF b m),.b true]) [[],[]]:=by
 have hx':b.seats[(m.frm - 1).toNat]? = some x:=hx
 have ho2:¬m.epoch < x.epoch:=fun q=>ho ((Be hx).2 q)
 have hl:=(List.getElem?_eq_some_iff.1 hx').1
 rw[kV ho]
 refine oA ?_
 conv=>whnf
 refine g 0 0 []<|J ⟨UL,UH,I,I,I⟩<|W.sq<|gd 6 16 [[],[],[],[],[],[],[.i (m.frm - 1)],[.n (Int.toNat (m.frm - 1))],[],[.x (aI x)],[]] ?_
 conv=>whnf
 refine J ⟨I,I,I,I,I,I,wO,Zdq,I,xA,I,I⟩<|J KR<|W.cn<|J (noT dO) fun _=>W.skip<|g 16 27 [.i (m.frm - 1),.n (Int.toNat (m.frm - 1)),.x (aI x)]<|J ⟨I,I,I,I,wO,I,I,I,Zdq,⟨UB,xA⟩,I⟩<|g 0 4 []<|J ⟨I,UL,I,I⟩<|RT ?_
 all_goals (simp only[ay,List.map_set];rfl)
theorem uY(b:Boss)(p:Plan)(m:Message)(hl:p.tasks.length≤1048576)(ht:¬m.task < p.tasks.length):F lu [.val (ay b),.val (bn p),.val (dI m)] (ay b) [[],[],[]]:=by
 refine bH ?_
 conv=>whnf
 refine g 0 0 []<|J Zcg<|W.sq<|g 10 13 []<|J UF<|W.cn<|J (fun _=>(g 13 15 []<|J Zdi (RT ?_))) (noF (by simp_all))
 rfl
theorem uu(b:Boss)(p:Plan)(m:Message)(h:ResIn b p.tasks m)(f8:m.frm≤8):F lu [.val (ay b),.val (bn p),.val (dI m)] (ay (en b p.tasks m)) [[],[],[]]:=by
 obtain⟨hck,u3,u4,⟨t1,t2⟩,l1,l2,l3,l4,⟨f1,f2⟩,tx⟩:=h
 have hpl:=(bM hck).1
 have hsi:fr m < b.seats.length:=by unfold fr;omega
 have hkr:m.task.toNat < b.results.length:=by omega
 have hte:¬m.text = emp:=fun q=>by rw[q]at tx;cases tx
 obtain⟨x,hx⟩:=ak hsi
 obtain⟨t,ht0⟩:=ak (xs:=p.tasks) (n:=m.task.toNat) OM
 obtain⟨y,hy0⟩:=ak (xs:=b.results) (n:=m.task.toNat) OM
 obtain⟨j,hj0⟩:=ak (xs:=b.jobs) (n:=m.task.toNat) OM
 have hya:=ko hy0
 obtain⟨_,_,a3,a4⟩:=bP hck ht0
 have crd:=gy p b.results m.task t1 ht0 (fun e he=>by have:=a4 e he;omega) OM
 have cf:=cK 2 b.epoch m.task m.text OM
 by_cases hA:y = emp
 ·by_cases hP:CanPut b p.tasks m
  ·have hF:cF b.results t.deps:=by have:=hP.ready;rw[dn ht0]at this;exact this
   have hR:=hP.room
   rw[decide_eq_true hF]at crd
   rw[Gq hP hkr hte]
   by_cases hO:b.owed.length < 2000
   ·refine bH ?_
    conv=>whnf
    refine g 0 0 []<|J Zcg<|W.sq<|g 10 13 []<|J UF<|W.cn<|J (noT SI) fun _=>W.skip<|W.sq<|g 13 41 [.n (Int.toNat m.task),.x (aq y),BT,BT,BT,BT,BT,BT,.call VT [[],[],[]],BT,BT,BT,BT,BT,BT,BT,BT,BT,BT,.i ((↑(List.length (List.map aq b.log.safe)):Int) + (↑(List.length (List.map aq b.log.loose)):Int)),BT,BT]<|J ⟨I,I,I,I,Zdq,xA,I,I,⟨tO,I⟩,⟨tO,I⟩,⟨tO,I⟩,⟨tO,I⟩,⟨tO,I⟩,⟨tO,UC,I,UU,UA,AS⟩,tO,I,Zde,Zde,Zde,Zde,Zde,Zde,Zde,Zde,⟨rfl,w64 LN LN⟩,Zde,rfl,I⟩<|W.cn<|J (fun h1=>?_) fun h1=>?_
    replace h1:=dt h1
    simp only[LM]at h1
    refine g 44 49 [.n (Int.toNat m.task),.x (aq y)]<|J ⟨I,I,I,I,I,I,Zdq,Zef,I⟩<|gd 49 64 [[],[],[],[],[],[],[],[],[],[],[.call (V.s (bB {kind:=2,epoch:=b.epoch,task:=m.task,text:=m.text:Entry})) [[]]],[],[],[],[],[]] ?_
    conv=>whnf
    refine J ⟨I,I,I,I,I,I,I,I,I,I,Zct,US,Zdh,I,I,UA,I⟩<|J KR<|rg [.n (Int.toNat m.task),.x (aH j)]<|J ⟨I,I,I,I,I,Zdq,⟨UC,xA⟩,I⟩<|W.sq<|g 64 76 [.n (Int.toNat m.task),.x (dM (aq y) 0 [T.v (Value.string m.text)])]<|J ⟨I,I,I,I,Zdq,jP LN,I,I⟩<|W.cn<|J (noT dO) fun _=>W.skip<|W.sq<|gd 76 97 [[],[],[],[],[.n (Int.toNat m.task)],[.x (dM (aq y) 0 [T.v (Value.string m.text)])],[],[],[],[],[BF],[BF],[BF],[BF],[BF]] ?_
    conv=>whnf
    refine J ⟨I,I,I,I,Zdq,jP LN,I,I,I,I,⟨gK rfl,I⟩,⟨gK rfl,I⟩,⟨gK rfl,I⟩,⟨gK rfl,I⟩,gK rfl,I⟩<|J KR<|W.cn<|J (fun h2=>?_) fun h2=>?_
    replace h2:=dt h2
    simp only[LM]at h2
    omega
    replace h2:=df h2
    simp only[LM]at h2
    refine W.skip<|W.sq<|g 41 43 []<|J UA<|W.blk ?_
    rotate_left
    replace h1:=df h1
    simp only[LM]at h1
    omega
    refine W.lp (fun s (n:Nat)=>⟨[(0,s.s 0),(1,s.s 1),(2,s.s 2),(3,s.s 3),(5,s.s 5),(6,s.s 6),(7,.i n),(9,s.s 9),(43,s.s 43)],[(140,[s.c 140 0,s.c 140 1,s.c 140 2,s.c 140 3,s.c 140 4,s.c 140 5,s.c 140 6,s.c 140 7,s.c 140 8,s.c 140 9,s.c 140 10,s.c 140 11]),(3,[s.c 3 0,s.c 3 1,s.c 3 2,s.c 3 3,s.c 3 4,s.c 3 5,s.c 3 6,s.c 3 7,s.c 3 8,s.c 3 9,s.c 3 10,s.c 3 11]),(5,[s.c 5 0,s.c 5 1,s.c 5 2,s.c 5 3,s.c 5 4,s.c 5 5,s.c 5 6,s.c 5 7]),(6,[s.c 6 0,s.c 6 1,s.c 6 2,s.c 6 3,s.c 6 4,s.c 6 5,s.c 6 6,s.c 6 7,s.c 6 8,s.c 6 9,s.c 6 10,s.c 6 11])],[]⟩) (fun(n:Nat)=>n≤b.owed.length∧∀ o∈b.owed.take n,¬(o.worker = m.frm∧o.lease = m.lease)) (fun(n:Nat)=>b.owed.length - n) (0) [some 140,some 3,some 5,some 6] [] Zdy (by simp) ?_
    rintro n ⟨hn,hc⟩
    by_cases hn2:n < b.owed.length
    ·obtain⟨o,ho⟩:=ak hn2
     by_cases hw:o.worker = m.frm
     ·by_cases hl:o.lease = m.lease
      ·rw[ga (b:=lr b m) (fun q=>rz ho ⟨hw,hl⟩ q.new)]
       conv=>whnf
       refine W.sq<|g 99 103 []<|J UE<|W.cn<|J (fun _=>(W.skip (W.sq (W.blk (gd 103 125 [[],[],[],[.n (n)],[],[.x (aX o)],[],[],[],[],[BT],[BT],[BT],[BT,.n (n)],[BT],[BT,.x (aX o)],[BT],[BT],[BT],[BT]] ?_))))) (noF SI)
       conv=>whnf
       refine⟨Za8,by kernel_rfl,?_⟩
       refine W.cn<|J (fun _=>(g 125 127 []<|J Zdi (RT ?_))) (noF tO)
       all_goals (simp only[lr,ay,cellsOf,List.map_set,List.map_append,List.map_cons,List.map_nil];rfl)
      ·conv=>whnf
       refine W.sq<|g 99 103 []<|J UE<|W.cn<|J (fun _=>(W.skip (W.sq (W.blk (gd 103 125 [[],[],[],[.n (n)],[],[.x (aX o)],[],[],[],[],[BT],[BT],[BT],[BT,.n (n)],[BT],[BT,.x (aX o)],[BT],[BT],[BT],[BT]] ?_))))) (noF SI)
       conv=>whnf
       refine⟨Za8,by kernel_rfl,?_⟩
       refine W.cn<|J (noT dO) fun _=>W.skip<|rg [.i ((n:Int) +1)]<|J Zdg ?_
       refine⟨n+1,[some 140,some 3,some 5,some 6],[],Zdy,?_,?_⟩
       rotate_left
       (dsimp only;omega)
       dsimp only
       exact⟨by omega,dJ hc ho fun q=>hl q.2⟩
     ·conv=>whnf
      refine W.sq<|g 99 103 []<|J UE<|W.cn<|J (fun _=>(W.skip (W.sq (W.blk (gd 103 125 [[],[],[],[.n (n)],[],[.x (aX o)],[],[],[],[],[BF],[BF],[BF],[BF],[BF],[BF],[BF],[BF],[BF],[BF]] ?_))))) (noF SI)
      conv=>whnf
      refine⟨⟨I,I,I,Zdj,I,xA,I,I,I,I,dO,dO,dO,dO,dO,dO,dO,dO,dO,dO,I⟩,by kernel_rfl,?_⟩
      refine W.cn<|J (noT rfl) fun _=>W.skip<|rg [.i ((n:Int) +1)]<|J Zdg ?_
      refine⟨n+1,[some 140,some 3,some 5,some 6],[],Zdy,?_,?_⟩
      rotate_left
      (dsimp only;omega)
      dsimp only
      exact⟨by omega,dJ hc ho fun q=>hw q.1⟩
    ·rw[bc OM]at hc
     rw[rv (C5 (ts:=p.tasks) hkr hO hc)]
     conv=>whnf
     refine W.sq<|g 99 103 []<|J UE<|W.cn<|J (noT SI) fun _=>W.exit<|g 103 139 []<|J ⟨I,I,I,I,I,I,I,I,I,⟨UC,I⟩,Zdh,I,UA,I⟩<|g 0 6 []<|J Zdi<|RT ?_
     all_goals (simp only[lr,ay,cellsOf,List.map_set,List.map_append,List.map_cons,List.map_nil];rfl)
   ·rw[ga (b:=lr b m) (fun q=>hO q.room)]
    refine bH ?_
    conv=>whnf
    refine g 0 0 []<|J Zcg<|W.sq<|g 10 13 []<|J UF<|W.cn<|J (noT SI) fun _=>W.skip<|W.sq<|g 13 41 [.n (Int.toNat m.task),.x (aq y),BT,BT,BT,BT,BT,BT,.call VT [[],[],[]],BT,BT,BT,BT,BT,BT,BT,BT,BT,BT,.i ((↑(List.length (List.map aq b.log.safe)):Int) + (↑(List.length (List.map aq b.log.loose)):Int)),BT,BT]<|J ⟨I,I,I,I,Zdq,xA,I,I,⟨tO,I⟩,⟨tO,I⟩,⟨tO,I⟩,⟨tO,I⟩,⟨tO,I⟩,⟨tO,UC,I,UU,UA,AS⟩,tO,I,Zde,Zde,Zde,Zde,Zde,Zde,Zde,Zde,⟨rfl,w64 LN LN⟩,Zde,rfl,I⟩<|W.cn<|J (fun h1=>?_) fun h1=>?_
    replace h1:=dt h1
    simp only[LM]at h1
    refine g 44 49 [.n (Int.toNat m.task),.x (aq y)]<|J ⟨I,I,I,I,I,I,Zdq,Zef,I⟩<|gd 49 64 [[],[],[],[],[],[],[],[],[],[],[.call (V.s (bB {kind:=2,epoch:=b.epoch,task:=m.task,text:=m.text:Entry})) [[]]],[],[],[],[],[]] ?_
    conv=>whnf
    refine J ⟨I,I,I,I,I,I,I,I,I,I,Zct,US,Zdh,I,I,UA,I⟩<|J KR<|rg [.n (Int.toNat m.task),.x (aH j)]<|J ⟨I,I,I,I,I,Zdq,⟨UC,xA⟩,I⟩<|W.sq<|g 64 76 [.n (Int.toNat m.task),.x (dM (aq y) 0 [T.v (Value.string m.text)])]<|J ⟨I,I,I,I,Zdq,jP LN,I,I⟩<|W.cn<|J (noT dO) fun _=>W.skip<|W.sq<|gd 76 97 [[],[],[],[],[.n (Int.toNat m.task)],[.x (dM (aq y) 0 [T.v (Value.string m.text)])],[],[],[],[],[BF],[BF],[BF],[BF],[BF]] ?_
    conv=>whnf
    refine J ⟨I,I,I,I,Zdq,jP LN,I,I,I,I,⟨gK rfl,I⟩,⟨gK rfl,I⟩,⟨gK rfl,I⟩,⟨gK rfl,I⟩,gK rfl,I⟩<|J KR<|W.cn<|J (fun h2=>?_) fun h2=>?_
    replace h2:=dt h2
    simp only[LM]at h2
    refine g 41 43 []<|J Zdi<|RT ?_
    rotate_left
    replace h2:=df h2
    simp only[LM]at h2
    omega
    replace h1:=df h1
    simp only[LM]at h1
    omega
    all_goals (simp only[lr,ay,cellsOf,List.map_set,List.map_append,List.map_cons,List.map_nil];rfl)
  ·rw[Gr hP (by rw[hya];exact hA) hte]
   have hO:True:=trivial
   by_cases hF:cF b.results t.deps
   ·rw[decide_eq_true hF]at crd
    have hR:¬b.log.safe.length+b.log.loose.length < 310:=fun q=>hP ⟨by rw[hya];exact hA,by rw[dn ht0];exact hF,q⟩
    by_cases ho:qz b m
    ·have cfr:=lg b m hx ⟨f1,f8⟩ ho
     rw[rF ho]
     refine bH ?_
     conv=>whnf
     refine g 0 0 []<|J Zcg<|W.sq<|g 10 13 []<|J UF<|W.cn<|J (noT SI) fun _=>W.skip<|W.sq<|g 13 41 [.n (Int.toNat m.task),.x (aq y),BT,BT,BT,BT,BT,BT,.call VT [[],[],[]],BT,BT,BT,BT,BT,BT,BT,BT,BT,BT,.i ((↑(List.length (List.map aq b.log.safe)):Int) + (↑(List.length (List.map aq b.log.loose)):Int)),BT,BT]<|J ⟨I,I,I,I,Zdq,xA,I,I,⟨tO,I⟩,⟨tO,I⟩,⟨tO,I⟩,⟨tO,I⟩,⟨tO,I⟩,⟨tO,UC,I,UU,UA,AS⟩,tO,I,Zde,Zde,Zde,Zde,Zde,Zde,Zde,Zde,⟨rfl,w64 LN LN⟩,Zde,rfl,I⟩<|W.cn<|J (fun h1=>?_) fun h1=>?_
     replace h1:=dt h1
     simp only[LM]at h1
     omega
     replace h1:=df h1
     simp only[LM]at h1
     refine W.skip<|W.sq<|g 41 76 [.n (Int.toNat m.task),.x (aq y)]<|J Zc0<|W.cn<|J (fun _=>(rg [.call (V.tup [ay b,V.b false]) [[],[]]]<|J Zcw (W.sq ?_))) (noF tO)
     by_cases h2:y = Message.text m
     refine gd 76 97 [[],[],[],[],[.n (Int.toNat m.task)],[.x (aq y)],[],[],[],[],[BF],[BF],[BF],[BF],[BF]] ?_
     conv=>whnf
     refine J Zbj<|J KR<|W.cn<|J (fun _=>(g 97 99 []<|J Zdi (RT ?_))) (noF (by simp_all))
     rfl
     refine gd 76 97 [[],[],[],[],[.n (Int.toNat m.task)],[.x (aq y)],[],[],[],[],[BT],[BT],[BT],[BT],[BT]] ?_
     conv=>whnf
     refine J Zbv<|J KR<|W.cn<|J (fun _=>(g 97 99 []<|J Zdi (RT ?_))) (noF rfl)
     rfl
    ·have cfr:=lh b m hx ⟨f1,f8⟩ ho
     rw[kV ho]at cfr ⊢
     refine bH ?_
     conv=>whnf
     refine g 0 0 []<|J Zcg<|W.sq<|g 10 13 []<|J UF<|W.cn<|J (noT SI) fun _=>W.skip<|W.sq<|g 13 41 [.n (Int.toNat m.task),.x (aq y),BT,BT,BT,BT,BT,BT,.call VT [[],[],[]],BT,BT,BT,BT,BT,BT,BT,BT,BT,BT,.i ((↑(List.length (List.map aq b.log.safe)):Int) + (↑(List.length (List.map aq b.log.loose)):Int)),BT,BT]<|J ⟨I,I,I,I,Zdq,xA,I,I,⟨tO,I⟩,⟨tO,I⟩,⟨tO,I⟩,⟨tO,I⟩,⟨tO,I⟩,⟨tO,UC,I,UU,UA,AS⟩,tO,I,Zde,Zde,Zde,Zde,Zde,Zde,Zde,Zde,⟨rfl,w64 LN LN⟩,Zde,rfl,I⟩<|W.cn<|J (fun h1=>?_) fun h1=>?_
     replace h1:=dt h1
     simp only[LM]at h1
     omega
     replace h1:=df h1
     simp only[LM]at h1
     refine W.skip<|W.sq<|g 41 76 [.n (Int.toNat m.task),.x (aq y)]<|J Zc0<|W.cn<|J (fun _=>(rg [.call (V.tup [ay {workers:=b.workers,up:=b.up,now:=b.now,since:=b.since,epoch:=b.epoch,given:=b.given,log:=b.log,results:=b.results,jobs:=b.jobs,seats:=List.set b.seats (fr m) {free:=true,epoch:=m.epoch:Seat},owed:=b.owed:Boss},V.b true]) [[],[]]]<|J Zcw (W.sq ?_))) (noF tO)
     by_cases h2:y = Message.text m
     refine gd 76 97 [[],[],[],[],[.n (Int.toNat m.task)],[.x (aq y)],[],[],[],[],[BF],[BF],[BF],[BF],[BF]] ?_
     conv=>whnf
     refine J Zbj<|J KR<|W.cn<|J (fun _=>(g 97 99 []<|J Zdi (RT ?_))) (noF (by simp_all))
     rfl
     refine gd 76 97 [[],[],[],[],[.n (Int.toNat m.task)],[.x (aq y)],[],[],[],[],[BT],[BT],[BT],[BT],[BT]] ?_
     conv=>whnf
     refine J Zbv<|J KR<|W.cn<|J (fun _=>(g 97 99 []<|J Zdi (RT ?_))) (noF rfl)
     rfl
   ·rw[decide_eq_false hF]at crd
    by_cases ho:qz b m
    ·have cfr:=lg b m hx ⟨f1,f8⟩ ho
     rw[rF ho]
     refine bH ?_
     conv=>whnf
     refine g 0 0 []<|J Zcg<|W.sq<|g 10 13 []<|J UF<|W.cn<|J (noT SI) fun _=>W.skip<|W.sq<|g 13 41 [.n (Int.toNat m.task),.x (aq y),BT,BT,BT,BT,BT,BT,.call VF [[],[],[]],BT,BF,BF,BF,BF,BF,BF,BF,BF,BF,BF,BF]<|J Zb3<|W.cn<|J (noT rfl) fun _=>W.skip<|W.sq<|g 41 76 [.n (Int.toNat m.task),.x (aq y)]<|J Zc0<|W.cn<|J (fun _=>?_) (noF tO)
     refine rg [.call (V.tup [ay b,V.b false]) [[],[]]]<|J Zcw<|W.sq ?_
     by_cases h1:y = Message.text m
     refine gd 76 97 [[],[],[],[],[.n (Int.toNat m.task)],[.x (aq y)],[],[],[],[],[BF],[BF],[BF],[BF],[BF]] ?_
     conv=>whnf
     refine J Zbj<|J KR<|W.cn<|J (fun _=>(g 97 99 []<|J Zdi (RT ?_))) (noF (by simp_all))
     rfl
     refine gd 76 97 [[],[],[],[],[.n (Int.toNat m.task)],[.x (aq y)],[],[],[],[],[BT],[BT],[BT],[BT],[BT]] ?_
     conv=>whnf
     refine J Zbv<|J KR<|W.cn<|J (fun _=>(g 97 99 []<|J Zdi (RT ?_))) (noF rfl)
     rfl
    ·have cfr:=lh b m hx ⟨f1,f8⟩ ho
     rw[kV ho]at cfr ⊢
     refine bH ?_
     conv=>whnf
     refine g 0 0 []<|J Zcg<|W.sq<|g 10 13 []<|J UF<|W.cn<|J (noT SI) fun _=>W.skip<|W.sq<|g 13 41 [.n (Int.toNat m.task),.x (aq y),BT,BT,BT,BT,BT,BT,.call VF [[],[],[]],BT,BF,BF,BF,BF,BF,BF,BF,BF,BF,BF,BF]<|J Zb3<|W.cn<|J (noT rfl) fun _=>W.skip<|W.sq<|g 41 76 [.n (Int.toNat m.task),.x (aq y)]<|J Zc0<|W.cn<|J (fun _=>?_) (noF tO)
     refine rg [.call (V.tup [ay {workers:=b.workers,up:=b.up,now:=b.now,since:=b.since,epoch:=b.epoch,given:=b.given,log:=b.log,results:=b.results,jobs:=b.jobs,seats:=List.set b.seats (fr m) {free:=true,epoch:=m.epoch:Seat},owed:=b.owed:Boss},V.b true]) [[],[]]]<|J Zcw<|W.sq ?_
     by_cases h1:y = Message.text m
     refine gd 76 97 [[],[],[],[],[.n (Int.toNat m.task)],[.x (aq y)],[],[],[],[],[BF],[BF],[BF],[BF],[BF]] ?_
     conv=>whnf
     refine J Zbj<|J KR<|W.cn<|J (fun _=>(g 97 99 []<|J Zdi (RT ?_))) (noF (by simp_all))
     rfl
     refine gd 76 97 [[],[],[],[],[.n (Int.toNat m.task)],[.x (aq y)],[],[],[],[],[BT],[BT],[BT],[BT],[BT]] ?_
     conv=>whnf
     refine J Zbv<|J KR<|W.cn<|J (fun _=>(g 97 99 []<|J Zdi (RT ?_))) (noF rfl)
     rfl
 ·rw[CY (by rw[hya];exact hA)]
  by_cases hs:y = m.text
  ·by_cases hO:b.owed.length < 2000
   ·refine bH ?_
    conv=>whnf
    refine g 0 0 []<|J Zcg<|W.sq<|g 10 13 []<|J UF<|W.cn<|J (noT SI) fun _=>W.skip<|W.sq<|g 13 41 [.n (Int.toNat m.task),.x (aq y),BF,BF,BF,BF,BF,BF,BF,BF,BF,BF,BF,BF,BF,BF,BF,BF,BF,BF]<|J Zcj<|W.cn<|J (noT rfl) fun _=>W.skip<|W.sq<|g 41 76 [.n (Int.toNat m.task),.x (aq y)]<|J Zc0<|W.cn<|J (noT dO) fun _=>?_
    refine W.skip<|W.sq<|gd 76 97 [[],[],[],[],[.n (Int.toNat m.task)],[.x (aq y)],[],[],[],[],[BF],[BF],[BF],[BF],[BF]] ?_
    conv=>whnf
    refine J Zbj<|J KR<|W.cn<|J (fun h1=>?_) fun h1=>?_
    replace h1:=dt h1
    simp only[LM]at h1
    omega
    replace h1:=df h1
    simp only[LM]at h1
    refine W.skip<|W.sq<|g 4 5 []<|J UA<|W.blk<|W.lp (fun s (n:Nat)=>⟨[(0,s.s 0),(1,s.s 1),(2,s.s 2),(3,s.s 3),(5,s.s 5),(6,s.s 6),(7,.i n),(9,s.s 9)],[(140,[s.c 140 0,s.c 140 1,s.c 140 2,s.c 140 3,s.c 140 4,s.c 140 5,s.c 140 6,s.c 140 7,s.c 140 8,s.c 140 9,s.c 140 10,s.c 140 11]),(3,[s.c 3 0,s.c 3 1,s.c 3 2,s.c 3 3,s.c 3 4,s.c 3 5,s.c 3 6,s.c 3 7,s.c 3 8,s.c 3 9,s.c 3 10,s.c 3 11]),(5,[s.c 5 0,s.c 5 1,s.c 5 2,s.c 5 3,s.c 5 4,s.c 5 5,s.c 5 6,s.c 5 7]),(6,[s.c 6 0,s.c 6 1,s.c 6 2,s.c 6 3,s.c 6 4,s.c 6 5,s.c 6 6,s.c 6 7,s.c 6 8,s.c 6 9,s.c 6 10,s.c 6 11])],[]⟩) (fun(n:Nat)=>n≤b.owed.length∧∀ o∈b.owed.take n,¬(o.worker = m.frm∧o.lease = m.lease)) (fun(n:Nat)=>b.owed.length - n) (0) [some 140,some 3,some 5,some 6] [] Zdz (by simp) ?_
    rintro n ⟨hn,hc⟩
    by_cases hn2:n < b.owed.length
    ·obtain⟨o,ho⟩:=ak hn2
     by_cases hw:o.worker = m.frm
     ·by_cases hl:o.lease = m.lease
      ·rw[ga (fun q=>rz ho ⟨hw,hl⟩ q.new)]
       conv=>whnf
       refine W.sq<|g 99 103 []<|J UE<|W.cn<|J (fun _=>(W.skip (W.sq (W.blk (gd 103 125 [[],[],[],[.n (n)],[],[.x (aX o)],[],[],[],[],[BT],[BT],[BT],[BT,.n (n)],[BT],[BT,.x (aX o)],[BT],[BT],[BT],[BT]] ?_))))) (noF SI)
       conv=>whnf
       refine⟨Za8,by kernel_rfl,?_⟩
       refine W.cn<|J (fun _=>(g 125 127 []<|J Zdi (RT ?_))) (noF tO)
       rfl
       all_goals (simp only[lr,ay,cellsOf,List.map_set,List.map_append,List.map_cons,List.map_nil];rfl)
      ·conv=>whnf
       refine W.sq<|g 99 103 []<|J UE<|W.cn<|J (fun _=>(W.skip (W.sq (W.blk (gd 103 125 [[],[],[],[.n (n)],[],[.x (aX o)],[],[],[],[],[BT],[BT],[BT],[BT,.n (n)],[BT],[BT,.x (aX o)],[BT],[BT],[BT],[BT]] ?_))))) (noF SI)
       conv=>whnf
       refine⟨Za8,by kernel_rfl,?_⟩
       refine W.cn<|J (noT dO) fun _=>W.skip<|rg [.i ((n:Int) +1)]<|J Zdg ?_
       refine⟨n+1,[some 140,some 3,some 5,some 6],[],Zdz,?_,?_⟩
       rotate_left
       (dsimp only;omega)
       dsimp only
       exact⟨by omega,dJ hc ho fun q=>hl q.2⟩
     ·conv=>whnf
      refine W.sq<|g 99 103 []<|J UE<|W.cn<|J (fun _=>(W.skip (W.sq (W.blk (gd 103 125 [[],[],[],[.n (n)],[],[.x (aX o)],[],[],[],[],[BF],[BF],[BF],[BF],[BF],[BF],[BF],[BF],[BF],[BF]] ?_))))) (noF SI)
      conv=>whnf
      refine⟨⟨I,I,I,Zdj,I,xA,I,I,I,I,dO,dO,dO,dO,dO,dO,dO,dO,dO,dO,I⟩,by kernel_rfl,?_⟩
      refine W.cn<|J (noT rfl) fun _=>W.skip<|rg [.i ((n:Int) +1)]<|J Zdg ?_
      refine⟨n+1,[some 140,some 3,some 5,some 6],[],Zdz,?_,?_⟩
      rotate_left
      (dsimp only;omega)
      dsimp only
      exact⟨by omega,dJ hc ho fun q=>hw q.1⟩
    ·rw[bc OM]at hc
     rw[rv ⟨by rw[hya];exact hs,hO,hc⟩]
     conv=>whnf
     refine W.sq<|g 99 103 []<|J UE<|W.cn<|J (noT SI) fun _=>W.exit<|g 7 139 []<|J ⟨I,I,I,I,I,I,I,I,I,⟨UC,I⟩,Zdh,I,UA,I⟩<|g 0 6 []<|J Zdi<|RT ?_
     all_goals (simp only[lr,ay,cellsOf,List.map_set,List.map_append,List.map_cons,List.map_nil];rfl)
   ·rw[ga (fun q=>hO q.room)]
    refine bH ?_
    conv=>whnf
    refine g 0 0 []<|J Zcg<|W.sq<|g 10 13 []<|J UF<|W.cn<|J (noT SI) fun _=>W.skip<|W.sq<|g 13 41 [.n (Int.toNat m.task),.x (aq y),BF,BF,BF,BF,BF,BF,BF,BF,BF,BF,BF,BF,BF,BF,BF,BF,BF,BF]<|J Zcj<|W.cn<|J (noT rfl) fun _=>W.skip<|W.sq<|g 41 76 [.n (Int.toNat m.task),.x (aq y)]<|J Zc0<|W.cn<|J (noT dO) fun _=>?_
    refine W.skip<|W.sq<|gd 76 97 [[],[],[],[],[.n (Int.toNat m.task)],[.x (aq y)],[],[],[],[],[BF],[BF],[BF],[BF],[BF]] ?_
    conv=>whnf
    refine J Zbj<|J KR<|W.cn<|J (fun h1=>?_) fun h1=>?_
    replace h1:=dt h1
    simp only[LM]at h1
    refine g 97 99 []<|J Zdi<|RT ?_
    rfl
    replace h1:=df h1
    simp only[LM]at h1
    omega
  ·rw[ga (fun q=>hs (by rw[←q.same,hya]))]
   refine bH ?_
   conv=>whnf
   refine g 0 0 []<|J Zcg<|W.sq<|g 10 13 []<|J UF<|W.cn<|J (noT SI) fun _=>W.skip<|W.sq<|g 13 41 [.n (Int.toNat m.task),.x (aq y),BF,BF,BF,BF,BF,BF,BF,BF,BF,BF,BF,BF,BF,BF,BF,BF,BF,BF]<|J Zcj<|W.cn<|J (noT rfl) fun _=>W.skip<|W.sq<|g 41 76 [.n (Int.toNat m.task),.x (aq y)]<|J Zc0<|W.cn<|J (noT dO) fun _=>?_
   refine W.skip<|W.sq<|gd 76 97 [[],[],[],[],[.n (Int.toNat m.task)],[.x (aq y)],[],[],[],[],[BT],[BT],[BT],[BT],[BT]] ?_
   conv=>whnf
   refine J Zbv<|J KR<|W.cn<|J (fun _=>(g 97 99 []<|J Zdi (RT ?_))) (noF rfl)
   rfl
end Go.K
end
section
open Go Go.Tm Go.Proofs
namespace Go.K
theorem uA(b:Boss)(p:Plan)(m:Message)(hp:cR p)(h:BossLim b)(hm:m.inputs.length≤9223372036854775806):F ug [.val (cE b),.val (bn p),.val (dI m)] (GF (yN b p m)) [[],[],[]]:=by
 have cv:=jh b p hp h
 by_cases hv:BossOk b p
 ·rw[decide_eq_true hv]at cv
  rw[rO hv]
  have ct:=oH b h
  have cm:=mW m hm
  by_cases hf:ForB b m
  ·obtain⟨u1,u2,u3,u4,u5,u6,⟨u7,u8⟩,⟨u9,u10⟩,u11,u12,u13,u14⟩:=hv.up hf.up
   obtain⟨hkd,⟨f1,f2⟩,⟨e1,e2⟩⟩:=nn hf
   have hnow:=hv.now
   have hwk:=hv.workers
   have hpl:=(bM hv.plan).1
   obtain⟨g1,g2,g3,g4⟩:=hf
   have hf:ForB b m:=⟨g1,g2,g3,g4⟩
   rw[decide_eq_true g2]at cm
   have hsi:fr m < b.seats.length:=by unfold fr;omega
   obtain⟨x,hx⟩:=ak hsi
   rcases hkd with hk|hk|hk
   ·rw[nC hf hk]
    refine bI ?_
    conv=>whnf
    refine g 2 3 []<|J Zcg<|W.sq<|g 12 13 [.call VT [[],[]]]<|J Zdo<|W.cn<|J (noT rfl) fun _=>W.skip<|g 14 19 [.call (ay b) [[]]]<|J Zd7<|W.sq<|g 13 38 [BF,BF,.call VT [[]],BF,BF,BF,BF,BF,BF,BF,BF,BF,BF,BF,BF]<|J Zem<|W.cn<|J (noT dO) fun _=>W.skip<|W.sq<|g 38 42 []<|J UB ?_
    refine W.blk<|g 3 4 []<|J UB<|W.cn<|J (noT dO) fun _=>g 43 45 []<|J UB<|W.cn<|J (fun _=>(g 42 78 []<|J UA (W.blk (W.lp (fun s (n:Nat)=>⟨[(0,s.s 0),(5,s.s 5),(6,s.s 6),(7,s.s 7),(11,.i n)],[(5,[s.c 5 0,s.c 5 1,s.c 5 2,s.c 5 3,s.c 5 4,s.c 5 5,s.c 5 6,s.c 5 7]),(6,[s.c 6 0,s.c 6 1,s.c 6 2,s.c 6 3,s.c 6 4,s.c 6 5,s.c 6 6,s.c 6 7,s.c 6 8,s.c 6 9,s.c 6 10,s.c 6 11,s.c 6 12]),(7,[.t (.i b.workers),.t (.b b.up),.t (.i b.now),.t (.i b.since),.t (.i b.epoch),.t (.i b.given),.own [false] (b.log.safe.map aq),.own [false] (b.log.loose.map aq),.own [false] (b.results.map aq),.own ey ((fw (mt m.lease (b.now+12)) b.jobs n).map aH),.own cz (b.seats.map aI),.own cA (b.owed.map aX)])],[]⟩) (fun(n:Nat)=>n≤b.jobs.length) (fun(n:Nat)=>b.jobs.length - n) (0) [some 5,some 6,some 7] [] ⟨rfl,⟨Zae,rfl,rfl,rfl,rfl,I⟩,⟨Zab,⟨Zdl,Zd1⟩⟩,I⟩ OM ?_)))) (noF tO)
    intro n hn
    have hl:=je (mt m.lease (b.now+12)) b.jobs n
    by_cases hj:n < b.jobs.length
    ·obtain⟨j,hj1⟩:=ak hj
     by_cases hd:j.lease = m.lease
     ·have e:=DM (u:=b.now+12) hj1 hd
      conv=>whnf
      refine W.sq<|g 78 82 []<|J UE<|W.cn<|J (fun _=>(W.skip (W.sq (W.blk (gd 82 93 [[],[],[],[.n (n)],[],[.x (aH j)],[],[],[]] ?_))))) (noF (by simp_all))
      conv=>whnf
      refine⟨⟨I,I,I,Zdj,I,bf AS,I,I,I,I⟩,by kernel_rfl,?_⟩
      refine W.cn<|J (fun _=>(rg [.i (b.now+12),.n (n),.x (aH j)]<|J ⟨I,I,I,I,I,wO,Zdj,I,⟨UA,bf AS⟩,I⟩ (rg [.i ((n:Int) +1)]<|J Zdg ?_))) (noF tO)
      refine⟨n+1,[some 5,some 6,some 7],[],⟨rfl,⟨Zae,rfl,rfl,rfl,rfl,I⟩,⟨Zab,⟨Zdl,⟨⟨rfl,⟨rfl,⟨rfl,⟨rfl,⟨rfl,⟨rfl,⟨rfl,⟨rfl,⟨rfl,⟨rfl,⟨(congrArg (V.own _) (e)),Zad⟩⟩⟩⟩⟩⟩⟩⟩⟩⟩⟩,I⟩⟩⟩,I⟩,?_,?_⟩
      rotate_left
      (dsimp only;omega)
      dsimp only
      omega
     ·have e:=HA (u:=b.now+12) hj1 hd
      conv=>whnf
      refine W.sq<|g 78 82 []<|J UE<|W.cn<|J (fun _=>(W.skip (W.sq (W.blk (gd 82 93 [[],[],[],[.n (n)],[],[.x (aH j)],[],[],[]] ?_))))) (noF (by simp_all))
      conv=>whnf
      refine⟨⟨I,I,I,Zdj,I,bf AS,I,I,I,I⟩,by kernel_rfl,?_⟩
      refine W.cn<|J (noT dO) fun _=>W.skip<|rg [.i ((n:Int) +1)]<|J Zdg ?_
      refine⟨n+1,[some 5,some 6,some 7],[],⟨rfl,⟨Zae,rfl,rfl,rfl,rfl,I⟩,⟨Zab,⟨Zdl,⟨⟨rfl,⟨rfl,⟨rfl,⟨rfl,⟨rfl,⟨rfl,⟨rfl,⟨rfl,⟨rfl,⟨rfl,⟨(congrArg (V.own _) (by rw[←e])),Zad⟩⟩⟩⟩⟩⟩⟩⟩⟩⟩⟩,I⟩⟩⟩,I⟩,?_,?_⟩
      rotate_left
      (dsimp only;omega)
      dsimp only
      omega
    ·have e:=jf (mt m.lease (b.now+12)) b.jobs (n:=n) OM
     conv=>whnf
     refine W.sq<|g 78 82 []<|J UE<|W.cn<|J (noT (by simp_all)) fun _=>W.exit<|g 7 110 []<|J ⟨I,I,UM,I⟩<|RT ?_
     rw[e]
     rfl
   ·by_cases ht:m.task < p.tasks.length
    ·rw[rk hf hk ht]
     have cr:=uu b p m (Ll hv h hf hk ht) f2
     refine bI ?_
     conv=>whnf
     refine g 2 3 []<|J Zcg<|W.sq<|g 12 13 [.call VT [[],[]]]<|J Zdo<|W.cn<|J (noT rfl) fun _=>W.skip<|g 14 19 [.call (ay b) [[]]]<|J Zd7<|W.sq<|g 13 38 [BF,BF,.call VT [[]],BF,BF,BF,BF,BF,BF,BF,BF,BF,BF,BF,BF]<|J Zem<|W.cn<|J (noT dO) fun _=>W.skip<|W.sq<|g 38 42 []<|J UB ?_
     refine W.blk<|g 3 4 []<|J UB<|W.cn<|J (noT dO) fun _=>g 43 45 []<|J UB<|W.cn<|J (noT dO) fun _=>g 42 78 []<|J UB<|W.cn<|J (fun _=>(rg [.call (ay (en b p.tasks m)) [[],[],[]]]<|J ⟨I,I,I,⟨⟨UL,I,I,I⟩,I,⟨I,UA,UH,I⟩,UA,AS⟩,UL,I⟩ (g 7 110 []<|J ⟨I,I,UM,I⟩ (RT ?_)))) (noF tO)
     rfl
    ·rw[rl hf hk ht]
     have cr:=uY b p m OM ht
     refine bI ?_
     conv=>whnf
     refine g 2 3 []<|J Zcg<|W.sq<|g 12 13 [.call VT [[],[]]]<|J Zdo<|W.cn<|J (noT rfl) fun _=>W.skip<|g 14 19 [.call (ay b) [[]]]<|J Zd7<|W.sq<|g 13 38 [BF,BF,.call VT [[]],BF,BF,BF,BF,BF,BF,BF,BF,BF,BF,BF,BF]<|J Zem<|W.cn<|J (noT dO) fun _=>W.skip<|W.sq<|g 38 42 []<|J UB ?_
     refine W.blk<|g 3 4 []<|J UB<|W.cn<|J (noT dO) fun _=>g 43 45 []<|J UB<|W.cn<|J (noT dO) fun _=>g 42 78 []<|J UB<|W.cn<|J (fun _=>(rg [.call (ay b) [[],[],[]]]<|J ⟨I,I,I,⟨⟨UL,I,I,I⟩,I,⟨I,UA,UH,I⟩,UA,AS⟩,UL,I⟩ (g 7 110 []<|J ⟨I,I,UM,I⟩ (RT ?_)))) (noF tO)
     rfl
   ·rw[nB hf hk]
    by_cases ho:qz b m
    ·rw[Dv ho]
     have cfr:=lg b m hx ⟨f1,f2⟩ ho
     refine bI ?_
     conv=>whnf
     refine g 2 3 []<|J Zcg<|W.sq<|g 12 13 [.call VT [[],[]]]<|J Zdo<|W.cn<|J (noT rfl) fun _=>W.skip<|g 14 19 [.call (ay b) [[]]]<|J Zd7<|W.sq<|g 13 38 [BF,BF,.call VT [[]],BF,BF,BF,BF,BF,BF,BF,BF,BF,BF,BF,BF]<|J Zem<|W.cn<|J (noT dO) fun _=>W.skip<|W.sq<|g 38 42 []<|J UB ?_
     refine W.blk<|g 3 4 []<|J UB<|W.cn<|J (fun _=>(g 42 46 [.call (V.tup [ay b,V.b false]) [[],[]]]<|J ⟨I,I,⟨⟨UL,I,I⟩,I,⟨I,UH,I⟩,UA,AS⟩,I,I,I,I,UL,I,I⟩ (g 47 52 []<|J Zdi (g 4 5 []<|J UA (W.blk (W.lp (fun s (n:Nat)=>⟨[(0,s.s 0),(1,s.s 1),(5,s.s 5),(6,s.s 6),(7,s.s 7),(9,s.s 9),(10,.i n),(46,s.s 46)],[(5,[s.c 5 0,s.c 5 1,s.c 5 2,s.c 5 3,s.c 5 4,s.c 5 5,s.c 5 6,s.c 5 7]),(6,[s.c 6 0,s.c 6 1,s.c 6 2,s.c 6 3,s.c 6 4,s.c 6 5,s.c 6 6,s.c 6 7,s.c 6 8,s.c 6 9,s.c 6 10,s.c 6 11,s.c 6 12]),(7,[s.c 7 0,s.c 7 1,s.c 7 2,s.c 7 3,s.c 7 4,s.c 7 5,s.c 7 6,s.c 7 7,s.c 7 8,s.c 7 9,s.c 7 10,s.c 7 11])],[]⟩) (fun(n:Nat)=>n = 0) (fun(n:Nat)=>0) (0) [some 5,some 6,some 7] [] ⟨rfl,⟨Zae,Zah,rfl,rfl,rfl,rfl,rfl,Za9,I⟩,⟨Zab,⟨Zdl,Zd1⟩⟩,I⟩ OM ?_)))))) (noF tO)
     intro n hn
     conv=>whnf
     refine W.sq<|g 52 59 [BF,BF,BF,BF,BF,BF]<|J ⟨I,I,rfl,rfl,rfl,rfl,rfl,rfl,I⟩<|W.cn<|J (noT rfl) fun _=>W.exit<|g 0 6 []<|J ⟨I,I,UM,I⟩<|RT ?_
     rfl
    ·rw[Dw ho]
     have cfr:=lh b m hx ⟨f1,f2⟩ ho
     rw[kV ho]at cfr
     refine bI ?_
     conv=>whnf
     refine g 2 3 []<|J Zcg<|W.sq<|g 12 13 [.call VT [[],[]]]<|J Zdo<|W.cn<|J (noT rfl) fun _=>W.skip<|g 14 19 [.call (ay b) [[]]]<|J Zd7<|W.sq<|g 13 38 [BF,BF,.call VT [[]],BF,BF,BF,BF,BF,BF,BF,BF,BF,BF,BF,BF]<|J Zem<|W.cn<|J (noT dO) fun _=>W.skip<|W.sq<|g 38 42 []<|J UB ?_
     refine W.blk<|g 3 4 []<|J UB<|W.cn<|J (fun _=>(g 42 46 [.call (V.tup [ay {workers:=b.workers,up:=b.up,now:=b.now,since:=b.since,epoch:=b.epoch,given:=b.given,log:=b.log,results:=b.results,jobs:=b.jobs,seats:=List.set b.seats (fr m) {free:=true,epoch:=m.epoch:Seat},owed:=b.owed:Boss},V.b true]) [[],[]]]<|J ⟨I,I,⟨⟨UL,I,I⟩,I,⟨I,UH,I⟩,UA,AS⟩,I,I,I,I,UL,I,I⟩ (g 47 52 []<|J Zdi (g 4 5 []<|J UA (W.blk (W.lp (fun s (n:Nat)=>⟨[(0,s.s 0),(1,s.s 1),(5,s.s 5),(6,s.s 6),(7,s.s 7),(9,s.s 9),(10,.i n),(46,s.s 46)],[(5,[s.c 5 0,s.c 5 1,s.c 5 2,s.c 5 3,s.c 5 4,s.c 5 5,s.c 5 6,s.c 5 7]),(6,[s.c 6 0,s.c 6 1,s.c 6 2,s.c 6 3,s.c 6 4,s.c 6 5,s.c 6 6,s.c 6 7,s.c 6 8,s.c 6 9,s.c 6 10,s.c 6 11,s.c 6 12]),(7,[.t (.i b.workers),.t (.b b.up),.t (.i b.now),.t (.i b.since),.t (.i b.epoch),.t (.i b.given),.own [false] (b.log.safe.map aq),.own [false] (b.log.loose.map aq),.own [false] (b.results.map aq),.own ey ((fw (lE m.frm) b.jobs n).map aH),.own cz ((b.seats.set (fr m) ⟨true,m.epoch⟩).map aI),.own cA (b.owed.map aX)])],[]⟩) (fun(n:Nat)=>n≤b.jobs.length) (fun(n:Nat)=>b.jobs.length - n) (0) [some 5,some 6,some 7] [] ⟨rfl,⟨Zae,Zah,rfl,rfl,rfl,rfl,rfl,Za9,I⟩,⟨Zab,⟨Zdl,Zd1⟩⟩,I⟩ OM ?_)))))) (noF tO)
     intro n hn
     have hl:=je (lE m.frm) b.jobs n
     by_cases hj:n < b.jobs.length
     ·obtain⟨j,hj1⟩:=ak hj
      by_cases hd:j.worker = m.frm
      ·have e:=Dy hj1 hd
       conv=>whnf
       refine W.sq<|g 52 59 [BT,BT,BT,BT,BT,BT]<|J Zcy<|W.cn<|J (fun _=>(W.skip (W.sq (W.blk (gd 59 70 [[],[],[],[.n (n)],[],[.x (aH j)],[],[],[]] ?_))))) (noF (by simp_all))
       conv=>whnf
       refine⟨⟨I,I,I,Zdj,I,bf AS,I,I,I,I⟩,by kernel_rfl,?_⟩
       refine W.cn<|J (fun _=>(rg [.n (n),.x (aH j)]<|J ⟨I,I,I,I,Zdj,⟨UC,bf AS⟩,I⟩ (rg [.i ((n:Int) +1)]<|J Zdg ?_))) (noF tO)
       refine⟨n+1,[some 5,some 6,some 7],[],⟨rfl,⟨Zae,Zah,rfl,rfl,rfl,rfl,rfl,Za9,I⟩,⟨Zab,⟨Zdl,⟨⟨rfl,⟨rfl,⟨rfl,⟨rfl,⟨rfl,⟨rfl,⟨rfl,⟨rfl,⟨rfl,⟨rfl,⟨(congrArg (V.own _) (e)),Zad⟩⟩⟩⟩⟩⟩⟩⟩⟩⟩⟩,I⟩⟩⟩,I⟩,?_,?_⟩
       rotate_left
       (dsimp only;omega)
       dsimp only
       omega
      ·have e:=GP hj1 hd
       conv=>whnf
       refine W.sq<|g 52 59 [BT,BT,BT,BT,BT,BT]<|J Zcy<|W.cn<|J (fun _=>(W.skip (W.sq (W.blk (gd 59 70 [[],[],[],[.n (n)],[],[.x (aH j)],[],[],[]] ?_))))) (noF (by simp_all))
       conv=>whnf
       refine⟨⟨I,I,I,Zdj,I,bf AS,I,I,I,I⟩,by kernel_rfl,?_⟩
       refine W.cn<|J (noT dO) fun _=>W.skip<|rg [.i ((n:Int) +1)]<|J Zdg ?_
       refine⟨n+1,[some 5,some 6,some 7],[],⟨rfl,⟨Zae,Zah,rfl,rfl,rfl,rfl,rfl,Za9,I⟩,⟨Zab,⟨Zdl,⟨⟨rfl,⟨rfl,⟨rfl,⟨rfl,⟨rfl,⟨rfl,⟨rfl,⟨rfl,⟨rfl,⟨rfl,⟨(congrArg (V.own _) (by rw[←e])),Zad⟩⟩⟩⟩⟩⟩⟩⟩⟩⟩⟩,I⟩⟩⟩,I⟩,?_,?_⟩
       rotate_left
       (dsimp only;omega)
       dsimp only
       omega
     ·have e:=jf (lE m.frm) b.jobs (n:=n) OM
      conv=>whnf
      refine W.sq<|g 52 59 [BT,BT,BT,BT,BT,BT]<|J Zcy<|W.cn<|J (noT (by simp_all)) fun _=>W.exit<|g 0 6 []<|J ⟨I,I,UM,I⟩<|RT ?_
      (simp[*];done)
  ·rw[A7 hf]
   by_cases g1:b.up = true
   ·by_cases g2:bC m
    ·rw[decide_eq_true g2]at cm
     by_cases g3:m.to = 0
     ·have g4:¬m.frm≤b.workers:=fun q=>hf ⟨g1,g2,g3,q⟩
      refine bI ?_
      conv=>whnf
      refine g 2 3 []<|J Zcg<|W.sq<|g 12 13 [.call VT [[],[]]]<|J Zdo<|W.cn<|J (noT rfl) fun _=>W.skip<|g 14 19 [.call (ay b) [[]]]<|J Zd7<|W.sq<|g 13 38 [BF,BF,.call VT [[]],BF,BF,BF,BF,BF,BF,BF,BF,BF,BF,BF,BF]<|J Zem<|W.cn<|J (fun _=>(g 38 41 []<|J ⟨I,I,UM,I⟩ (RT ?_))) (noF tO)
      rfl
     ·refine bI ?_
      conv=>whnf
      refine g 2 3 []<|J Zcg<|W.sq<|g 12 13 [.call VT [[],[]]]<|J Zdo<|W.cn<|J (noT rfl) fun _=>W.skip<|g 14 19 [.call (ay b) [[]]]<|J Zd7<|W.sq<|g 13 38 [BF,BF,.call VT [[]],BF,BF,BF,BF,BF,BF,BT,BT,BT,BT,BT,BT]<|J ⟨I,I,I,I,Zdr,Zam,Zdr,nbF AS,I,Zde,Zde,Zde,rfl,I,ah OM,ah OM,ah OM,ah OM,ah OM,ah OM,I⟩<|W.cn<|J (fun _=>(g 38 41 []<|J ⟨I,I,UM,I⟩ (RT ?_))) (noF rfl)
      rfl
    ·rw[decide_eq_false g2]at cm
     refine bI ?_
     conv=>whnf
     refine g 2 3 []<|J Zcg<|W.sq<|g 12 13 [.call VT [[],[]]]<|J Zdo<|W.cn<|J (noT rfl) fun _=>W.skip<|g 14 19 [.call (ay b) [[]]]<|J Zd7<|W.sq<|g 13 38 [BF,BF,.call VF [[]],BF,BF,BT,BT,BT,BT,BT,BT,BT,BT,BT,BT]<|J ⟨I,I,I,I,Zdr,Zam,Zdr,nbF AS,I,rfl,rfl,rfl,rfl,I,rfl,rfl,rfl,rfl,rfl,rfl,I⟩<|W.cn<|J (fun _=>(g 38 41 []<|J ⟨I,I,UM,I⟩ (RT ?_))) (noF rfl)
     rfl
   ·refine bI ?_
    conv=>whnf
    refine g 2 3 []<|J Zcg<|W.sq<|g 12 13 [.call VT [[],[]]]<|J Zdo<|W.cn<|J (noT rfl) fun _=>W.skip<|g 14 19 [.call (ay b) [[]]]<|J Zd7<|W.sq<|g 13 38 [BT,BT,BT,BT,BT,BT,BT,BT,BT,BT,BT,BT,BT,BT]<|J ⟨I,I,I,I,SI,SI,SI,SI,I,rfl,rfl,rfl,rfl,I,rfl,rfl,rfl,rfl,rfl,rfl,I⟩<|W.cn<|J (fun _=>(g 38 41 []<|J ⟨I,I,UM,I⟩ (RT ?_))) (noF rfl)
    rfl
 ·rw[decide_eq_false hv]at cv
  rw[KM hv]
  refine bI ?_
  conv=>whnf
  refine g 2 3 []<|J Zcg<|W.sq<|g 12 13 [.call VF [[],[]]]<|J Zdo<|W.cn<|J (fun _=>(g 14 17 []<|J ⟨I,UM,I⟩ (RT ?_))) (noF rfl)
  rfl
end Go.K
end
section
open Go Go.Tm Go.Proofs
namespace Go.K
def cC(a b key:ByteArray):Bool:=decide (¬b = a) && (dE b key).isSome
theorem yw(k:Int)(a b key:ByteArray)(h:b.size≤68719476736):F xI [.val (parV k a b),.val (.s key)] (.b (cC a b key)) [[],[]]:=by
 by_cases e:b = a
 ·have f:cC a b key = false:=by unfold cC;simp[e]
  rw[f]
  refine jM ?_
  conv=>whnf
  refine g 0 1 []<|J ⟨UC,I,I⟩<|W.sq<|g 7 11 []<|J UE<|W.cn<|J (fun _=>(g 11 12 []<|J UA (RT ?_))) (noF tO)
  rfl
 ·have c1:=io b key h
  unfold cC
  cases hr:dE b key with
  |none =>
   rw[hr]at c1
   refine jM ?_
   conv=>whnf
   refine g 0 1 []<|J ⟨UC,I,I⟩<|W.sq<|g 7 11 []<|J UE<|W.cn<|J (noT dO) fun _=>W.skip<|g 11 19 [.call (il none) [[],[]]]<|J ⟨I,I,I,Zaq,I,I,I,I,UH,I,I⟩<|g 5 20 []<|J UB<|RT ?_
   (simp[*];done)
  |some m =>
   rw[hr]at c1
   refine jM ?_
   conv=>whnf
   refine g 0 1 []<|J ⟨UC,I,I⟩<|W.sq<|g 7 11 []<|J UE<|W.cn<|J (noT dO) fun _=>W.skip<|g 11 19 [.call (il (some m)) [[],[]]]<|J ⟨I,I,I,Zaq,I,I,I,I,UH,I,I⟩<|g 5 20 []<|J UB<|RT ?_
   (simp[*];done)
theorem oL(w:World)(h:DoLim w):F xy [.val (FQ w)] (bh w) [[]]:=by
 obtain⟨l1,l2,l3,l4,l5,l6,l7,l8⟩:=h
 have c1:=jU w.plan l2
 have c2:=oH w.boss l3
 have c3:=de w.flight OM
 refine xT ?_
 conv=>whnf
 refine g 0 0 []<|J Zd9<|gd 5 19 [[],[],[.call (db w.plan) [[]]],[],[],[],[],[.call (ay w.boss) [[]]],[],[],[.call (V.own pkd (List.map bZ w.flight)) [[]]],[],[],[],[],[]] ?_
 conv=>whnf
 refine J ⟨I,I,Zaj,I,I,I,I,Zay,I,I,Zaj,I,I,I,I,UQ,I⟩<|J KR<|W.sq<|g 0 0 []<|J UA<|W.blk<|W.lp (fun s (n:Nat)=>⟨[(0,s.s 0),(1,s.s 1),(2,s.s 2),(3,s.s 3),(4,.i n)],[(1,[s.c 1 0,s.c 1 1,s.c 1 2,s.c 1 3,s.c 1 4,s.c 1 5,s.c 1 6,s.c 1 7,s.c 1 8,s.c 1 9,s.c 1 10,s.c 1 11,s.c 1 12,s.c 1 13,s.c 1 14,s.c 1 15,s.c 1 16]),(2,[s.c 2 0,s.c 2 1,s.c 2 2,s.c 2 3,s.c 2 4,s.c 2 5,s.c 2 6,s.c 2 7,s.c 2 8,s.c 2 9,s.c 2 10,s.c 2 11,s.c 2 12,s.c 2 13,s.c 2 14,s.c 2 15,s.c 2 16]),(3,[.own eF (w.plan.tasks.map aD),.t (.s w.key),.t (.i w.boss.workers),.t (.b w.boss.up),.t (.i w.boss.now),.t (.i w.boss.since),.t (.i w.boss.epoch),.t (.i w.boss.given),.own [false] (w.boss.log.safe.map aq),.own [false] (w.boss.log.loose.map aq),.own [false] (w.boss.results.map aq),.own ey (w.boss.jobs.map aH),.own cz (w.boss.seats.map aI),.own cA (w.boss.owed.map aX),.own gQ ((w.workers.take n).map aF),.own pkd (w.flight.map bZ),.t (.s w.forged)])],[]⟩) (fun(n:Nat)=>n≤w.workers.length) (fun(n:Nat)=>w.workers.length - n) (0) [some 1,some 2,some 3] [] ⟨rfl,Zbl,⟨Zdf,⟨Zdf,⟨Zdf,I⟩⟩⟩,I⟩ OM ?_
 intro n hn
 by_cases hn2:n < w.workers.length
 ·obtain⟨x,hx⟩:=ak hn2
  have hxi:=l5 x (List.mem_of_getElem? hx)
  have c4:=aC x OM
  conv=>whnf
  refine W.sq<|g 19 23 []<|J UE<|W.cn<|J (fun _=>(W.skip (W.sq (W.blk (rgd [[],[],[],[],[],[.x (aF x)],[],[.call (aE x) [[]]],[],[],[],[]] ?_))))) (noF SI)
  conv=>whnf
  refine⟨⟨I,I,I,I,I,Zdk,I,⟨UA,I,⟨UK,I⟩,UA,AS⟩,⟨UK,I⟩,Zdh,I,UA,I⟩,by kernel_rfl,?_⟩
  refine rg [.i ((n:Int) +1)]<|J Zdg ?_
  refine⟨n+1,[some 1,some 2,some 3],[],⟨rfl,Zbl,⟨Zdf,⟨Zdf,⟨⟨rfl,⟨rfl,⟨rfl,⟨rfl,⟨rfl,⟨rfl,⟨rfl,⟨rfl,⟨rfl,⟨rfl,⟨rfl,⟨rfl,⟨rfl,⟨rfl,⟨rfl,⟨(congrArg (V.own _) (sT AS)),Zad⟩⟩⟩⟩⟩⟩⟩⟩⟩⟩⟩⟩⟩⟩⟩⟩,I⟩⟩⟩,I⟩,?_,?_⟩
  rotate_left
  (dsimp only;omega)
  dsimp only
  omega
 ·have e:w.workers.take n = w.workers:=bc OM
  conv=>whnf
  refine W.sq<|g 19 23 []<|J UE<|W.cn<|J (noT SI) fun _=>W.exit<|g 3 38 []<|J Zdt<|RT ?_
  (simp[*];done)
theorem jT(w:World)(h:DoLim w):F xw [.val (bh w)] (bh (g9 w)) [[]]:=by
 obtain⟨l1,l2,l3,l4,l5,l6,l7,l8⟩:=h
 by_cases h0:1000000≤w.boss.now
 ·rw[wy h0]
  refine oy ?_
  conv=>whnf
  refine g 0 1 []<|J Zd9<|W.sq<|g 7 10 []<|J UD<|W.cn<|J (fun _=>(g 10 12 []<|J Zdt (RT ?_))) (noF tO)
  rfl
 ·rw[Nj h0]
  have c1:=uz w.boss w.plan l1 l3
  obtain⟨s1,s2,s3⟩:=Cy w.plan l3
  have s4:=Iy w.boss w.plan
  generalize nW w.boss w.plan = L at c1 s1 s2 s3 s4 ⊢
  refine oy ?_
  conv=>whnf
  refine g 0 1 []<|J Zd9<|W.sq<|g 7 10 []<|J UD<|W.cn<|J (noT dO) fun _=>W.skip<|g 10 17 [.call (GF L) [[],[]]]<|J ⟨I,I,I,I,Zak,I,UM,I⟩<|g 17 20 []<|J Zcm<|g 20 22 [.g]<|J ⟨I,UA,I,I⟩<|W.sq<|g 3 4 []<|J UA<|W.blk<|W.lp (fun s (n:Nat)=>⟨[(1,s.s 1),(2,s.s 2),(4,.ref ⟨4,none,0⟩),(5,.i n)],[(2,[s.c 2 0,s.c 2 1,s.c 2 2,s.c 2 3,s.c 2 4,s.c 2 5,s.c 2 6,s.c 2 7,s.c 2 8,s.c 2 9,s.c 2 10,s.c 2 11,s.c 2 12,s.c 2 13,s.c 2 14,s.c 2 15,s.c 2 16]),(4,[.own cH ((L.out++lS w.plan w.workers n).map aK)]),(1,[.own eF (w.plan.tasks.map aD),.t (.s w.key),.t (.i L.boss.workers),.t (.b L.boss.up),.t (.i L.boss.now),.t (.i L.boss.since),.t (.i L.boss.epoch),.t (.i L.boss.given),.own [false] (L.boss.log.safe.map aq),.own [false] (L.boss.log.loose.map aq),.own [false] (L.boss.results.map aq),.own ey (L.boss.jobs.map aH),.own cz (L.boss.seats.map aI),.own cA (L.boss.owed.map aX),.own gQ ((fw (fun x=>(gL x w.plan).worker) w.workers n).map aF),.own pkd (w.flight.map bZ),.t (.s w.forged)])],[]⟩) (fun(n:Nat)=>n≤w.workers.length) (fun(n:Nat)=>w.workers.length - n) (0) [some 2,some 21,some 1] [] ⟨rfl,Zcd,⟨Zdf,⟨⟨rfl,⟨(congrArg (V.own _) (by rw[Fj,List.append_nil])),I⟩⟩,⟨Zdf,I⟩⟩⟩,I⟩ OM ?_
  intro n hn
  have hl:=je (fun x=>(gL x w.plan).worker) w.workers n
  have ha:=KV w.plan w.workers n
  by_cases hn2:n < w.workers.length
  ·obtain⟨x,hx⟩:=ak hn2
   have hxi:=l5 x (List.mem_of_getElem? hx)
   have c4:=qp x w.plan l1 OM
   have e1:=nJ (f:=fun x=>(gL x w.plan).worker) (g:=aF) hx
   have e2:(L.out++lS w.plan w.workers n).map aK++ (gL x w.plan).out.map aK = (L.out++lS w.plan w.workers (n+1)).map aK:=by rw[←Fk hx,←List.map_append,List.append_assoc]
   have hxo:=(sN x w.plan).1
   generalize gL x w.plan = A at c4 e1 e2 hxo
   conv=>whnf
   refine W.sq<|g 22 26 []<|J UE<|W.cn<|J (fun _=>(W.skip (W.sq (W.blk (gd 26 37 [[],[],[],[.n (n)],[.x (aF x)],[],[],[.x (aF x),.call (re A) [[],[]]],[],[]] ?_))))) (noF SI)
   conv=>whnf
   refine⟨⟨I,I,I,Zdj,bf AS,I,I,⟨UB,I,⟨⟨I,I,I,I,I,I,I,I,bf AS,I,I,I⟩,UA,I⟩,UA,AS⟩,I,UL,I⟩,by kernel_rfl,?_⟩
   refine g 37 43 [.n (n),.x (aF x)]<|J ⟨I,I,I,I,I,Zdj,⟨UK,bf AS⟩,I⟩<|rg []<|J ⟨I,I,I,Zdh,I,I⟩<|rg [.i ((n:Int) +1)]<|J Zdg ?_
   refine⟨n+1,[some 2,some 46,some 1],[],⟨rfl,Zcd,⟨Zdf,⟨⟨rfl,⟨(congrArg (V.own _) (e2)),I⟩⟩,⟨⟨rfl,⟨rfl,⟨rfl,⟨rfl,⟨rfl,⟨rfl,⟨rfl,⟨rfl,⟨rfl,⟨rfl,⟨rfl,⟨rfl,⟨rfl,⟨rfl,⟨rfl,⟨(congrArg (V.own _) (e1)),Zad⟩⟩⟩⟩⟩⟩⟩⟩⟩⟩⟩⟩⟩⟩⟩⟩,I⟩⟩⟩,I⟩,?_,?_⟩
   rotate_left
   (dsimp only;omega)
   dsimp only
   omega
  ·obtain rfl:n = w.workers.length:=by omega
   have e:=jf (fun x=>(gL x w.plan).worker) w.workers (Nat.le_refl _)
   have c5:=Ct w.flight (L.out++lS w.plan w.workers w.workers.length) w.key OM (by rw[List.length_append];omega) (fun m hm=>by
    rcases List.mem_append.1 hm with hm|hm
    ·have:=s3 m hm;omega
    ·rw[KW hm];exact Nat.zero_le _)
   conv=>whnf
   refine W.sq<|g 22 26 []<|J UE<|W.cn<|J (noT SI) fun _=>W.exit<|g 4 52 [.call (V.own pkd (List.map bZ (ub w.flight (Led.out L++lS w.plan w.workers (List.length w.workers)) w.key))) [[],[],[]]]<|J ⟨I,I,I,I,I,⟨UC,I,UU,UA,AS⟩,I,UA,I⟩<|g 53 55 []<|J Zdt<|RT ?_
   (simp[*];done)
   all_goals (rw[e];try rfl)
theorem eA(w:World)(k:Int)(h:DoLim w):F uP [.val (bh w),.val (.i k)] (bh (dA w k)) [[],[]]:=by
 obtain⟨l1,l2,l3,l4,l5,l6,l7,l8⟩:=h
 have c1:=bx w.flight k OM
 by_cases ha:w.flight.length≤2000∧0≤k∧k < w.flight.length
 ·rw[decide_eq_true ha]at c1
  obtain⟨a1,a2,a3⟩:=ha
  obtain⟨s,hs⟩:=ak (xs:=w.flight) (n:=k.toNat) OM
  rw[IA ⟨a1,a2,a3⟩ hs]
  obtain⟨⟨p1,p2⟩,p3,p4⟩:=l7 s (List.mem_of_getElem? hs)
  have c2:=tX w.flight k OM
  have c3:=yw s.kind s.frm s.text w.key OM
  have c4:=io s.text w.key OM
  cases hm:dE s.text w.key with
  |none =>
   have hg:cC s.frm s.text w.key = false:=by unfold cC;rw[hm];simp
   rw[hg]at c3
   rw[hm]at c4
   rw[IB (show dE s.text (dh w (cB w.flight k)).key = none from hm)]
   refine bG ?_
   conv=>whnf
   refine g 0 1 []<|J Zd9<|W.sq<|g 8 12 [.call VT [[],[]]]<|J Zed<|W.cn<|J (noT rfl) fun _=>W.skip<|g 12 19 [.n (Int.toNat k),.x (cU s)]<|J Zch<|g 19 24 [.call (V.own pkd (List.map bZ (cB w.flight k))) [[],[]]]<|J Zd0<|W.sq<|g 24 32 [.call VF [[],[]],BF,BF,BF,BF]<|J Zcv<|W.cn<|J (noT rfl) fun _=>W.skip<|g 32 44 [.call (il none) [[],[]]]<|J Zdw ?_
   refine W.sq<|g 7 45 []<|J UB<|W.cn<|J (fun _=>(g 45 47 []<|J Zdt (RT ?_))) (noF rfl)
   rfl
  |some m =>
   rw[hm]at c4
   have hmi:=(cY (J1 hm)).1
   have hm':dE s.text (dh w (cB w.flight k)).key = some m:=hm
   have cases3:∀ g:ByteArray,Dx (dh w (cB w.flight k)) s = g→((s.text = s.frm∧g = w.forged)∨(¬s.text = s.frm∧¬w.forged = emp∧g = w.forged)∨(¬s.text = s.frm∧w.forged = emp∧g = s.text)):=fun g e=>by
    by_cases q1:s.text = s.frm
    ·exact .inl ⟨q1,by rw[←e,Kq q1];rfl⟩
    ·by_cases q2:w.forged = emp
     ·exact .inr (.inr ⟨q1,q2,by rw[←e,NL q1 (show(dh w (cB w.flight k)).forged = emp from q2)]⟩)
     ·exact .inr (.inl ⟨q1,q2,by rw[←e,Kr (show ¬(dh w (cB w.flight k)).forged = emp from q2)];rfl⟩)
   by_cases h0:s.kind = 0
   ·rw[CB hm' h0]
    have c5:=uA w.boss w.plan m l1 l3 OM
    show F _ _ (bh ⟨w.plan,w.key,(yN w.boss w.plan m).boss,w.workers,cB w.flight k,_⟩) _
    generalize yN w.boss w.plan m = L at c5 ⊢
    generalize hgg:Dx (dh w (cB w.flight k)) s = g
    rcases cases3 g hgg with⟨q1,rfl⟩|⟨q1,q2,rfl⟩|⟨q1,q2,rfl⟩
    ·have hg:cC s.frm s.text w.key = false:=by unfold cC;rw[hm];simp[q1]
     rw[hg]at c3
     refine bG ?_
     conv=>whnf
     refine g 0 1 []<|J Zd9<|W.sq<|g 8 12 [.call VT [[],[]]]<|J Zed<|W.cn<|J (noT rfl) fun _=>W.skip<|g 12 19 [.n (Int.toNat k),.x (cU s)]<|J Zch<|g 19 24 [.call (V.own pkd (List.map bZ (cB w.flight k))) [[],[]]]<|J Zd0<|W.sq<|g 24 32 [.call VF [[],[]],BF,BF,BF,BF]<|J Zcv<|W.cn<|J (noT rfl) fun _=>W.skip<|g 32 44 [.call (il (some m)) [[],[]]]<|J Zdw ?_
     refine W.sq<|g 7 45 []<|J UB<|W.cn<|J (noT rfl) fun _=>W.skip<|W.sq<|g 45 49 []<|J UC<|W.cn<|J (fun _=>(rg [.call (GF L) [[],[],[]]]<|J ⟨I,I,I,I,I,⟨UC,I,⟨UL,UA,UH,I⟩,UA,AS⟩,I,I,UL,I⟩ (g 53 83 []<|J Zdt (RT ?_)))) (noF tO)
     rfl
    ·have hg:cC s.frm s.text w.key = true:=by unfold cC;rw[hm];simp[q1]
     rw[hg]at c3
     refine bG ?_
     conv=>whnf
     refine g 0 1 []<|J Zd9<|W.sq<|g 8 12 [.call VT [[],[]]]<|J Zed<|W.cn<|J (noT rfl) fun _=>W.skip<|g 12 19 [.n (Int.toNat k),.x (cU s)]<|J Zch<|g 19 24 [.call (V.own pkd (List.map bZ (cB w.flight k))) [[],[]]]<|J Zd0<|W.sq<|g 24 32 [.call VT [[],[]],BT,BT,BT,BT]<|J Zbh<|W.cn<|J (noT dO) fun _=>W.skip<|g 32 44 [.call (il (some m)) [[],[]]]<|J Zdw ?_
     refine W.sq<|g 7 45 []<|J UB<|W.cn<|J (noT rfl) fun _=>W.skip<|W.sq<|g 45 49 []<|J UC<|W.cn<|J (fun _=>(rg [.call (GF L) [[],[],[]]]<|J ⟨I,I,I,I,I,⟨UC,I,⟨UL,UA,UH,I⟩,UA,AS⟩,I,I,UL,I⟩ (g 53 83 []<|J Zdt (RT ?_)))) (noF tO)
     rfl
    ·have hg:cC s.frm s.text w.key = true:=by unfold cC;rw[hm];simp[q1]
     rw[hg]at c3
     refine bG ?_
     conv=>whnf
     refine g 0 1 []<|J Zd9<|W.sq<|g 8 12 [.call VT [[],[]]]<|J Zed<|W.cn<|J (noT rfl) fun _=>W.skip<|g 12 19 [.n (Int.toNat k),.x (cU s)]<|J Zch<|g 19 24 [.call (V.own pkd (List.map bZ (cB w.flight k))) [[],[]]]<|J Zd0<|W.sq<|g 24 32 [.call VT [[],[]],BT,BT,BT,BT]<|J Zbh<|W.cn<|J (fun _=>(rg []<|J UW (g 32 44 [.call (il (some m)) [[],[]]]<|J Zdw ?_))) (noF tO)
     refine W.sq<|g 7 45 []<|J UB<|W.cn<|J (noT rfl) fun _=>W.skip<|W.sq<|g 45 49 []<|J UC<|W.cn<|J (fun _=>(rg [.call (GF L) [[],[],[]]]<|J ⟨I,I,I,I,I,⟨UC,I,⟨UL,UA,UH,I⟩,UA,AS⟩,I,I,UL,I⟩ (g 53 83 []<|J Zdt (RT ?_)))) (noF tO)
     rfl
   ·by_cases h1:s.kind≤w.workers.length
    ·obtain⟨x,hx⟩:=ak (xs:=w.workers) (n:=(s.kind - 1).toNat) OM
     rw[Cz hm' h0 ⟨by omega,h1⟩ hx]
     have hxi:=l5 x (List.mem_of_getElem? hx)
     have c5:=qq x w.plan m l1 OM OM
     show F _ _ (bh ⟨w.plan,w.key,w.boss,w.workers.set _ (ua x w.plan m).worker,cB w.flight k,_⟩) _
     generalize ua x w.plan m = L at c5 ⊢
     have es:=rq (xs:=w.workers) (n:=(s.kind - 1).toNat) (x:=L.worker)
     generalize hgg:Dx (dh w (cB w.flight k)) s = g
     rcases cases3 g hgg with⟨q1,rfl⟩|⟨q1,q2,rfl⟩|⟨q1,q2,rfl⟩
     ·have hg:cC s.frm s.text w.key = false:=by unfold cC;rw[hm];simp[q1]
      rw[hg]at c3
      refine bG ?_
      conv=>whnf
      refine g 0 1 []<|J Zd9<|W.sq<|g 8 12 [.call VT [[],[]]]<|J Zed<|W.cn<|J (noT rfl) fun _=>W.skip<|g 12 19 [.n (Int.toNat k),.x (cU s)]<|J Zch<|g 19 24 [.call (V.own pkd (List.map bZ (cB w.flight k))) [[],[]]]<|J Zd0<|W.sq<|g 24 32 [.call VF [[],[]],BF,BF,BF,BF]<|J Zcv<|W.cn<|J (noT rfl) fun _=>W.skip<|g 32 44 [.call (il (some m)) [[],[]]]<|J Zdw ?_
      refine W.sq<|g 7 45 []<|J UB<|W.cn<|J (noT rfl) fun _=>W.skip<|W.sq<|g 45 49 []<|J UC<|W.cn<|J (noT dO) fun _=>g 49 63 []<|J UF<|W.cn<|J (fun _=>(rgd [[],[],[],[],[.i (s.kind - 1)],[],[],[],[],[.i (s.kind - 1)],[.n (Int.toNat (s.kind - 1))],[.x (aF x)],[],[],[],[.x (aF x),.call (re L) [[],[],[]]],[],[.n (Int.toNat (s.kind - 1))],[.x (aF x)]] ?_)) (noF SI)
      conv=>whnf
      refine⟨Zbr,by kernel_rfl,?_⟩
      refine g 5 83 []<|J Zdt<|RT ?_
      exact iE w.plan w.key w.boss w.workers (s.kind - 1).toNat L.worker (cB w.flight k) w.forged
     ·have hg:cC s.frm s.text w.key = true:=by unfold cC;rw[hm];simp[q1]
      rw[hg]at c3
      refine bG ?_
      conv=>whnf
      refine g 0 1 []<|J Zd9<|W.sq<|g 8 12 [.call VT [[],[]]]<|J Zed<|W.cn<|J (noT rfl) fun _=>W.skip<|g 12 19 [.n (Int.toNat k),.x (cU s)]<|J Zch<|g 19 24 [.call (V.own pkd (List.map bZ (cB w.flight k))) [[],[]]]<|J Zd0<|W.sq<|g 24 32 [.call VT [[],[]],BT,BT,BT,BT]<|J Zbh<|W.cn<|J (noT dO) fun _=>W.skip<|g 32 44 [.call (il (some m)) [[],[]]]<|J Zdw ?_
      refine W.sq<|g 7 45 []<|J UB<|W.cn<|J (noT rfl) fun _=>W.skip<|W.sq<|g 45 49 []<|J UC<|W.cn<|J (noT dO) fun _=>g 49 63 []<|J UF<|W.cn<|J (fun _=>(rgd [[],[],[],[],[.i (s.kind - 1)],[],[],[],[],[.i (s.kind - 1)],[.n (Int.toNat (s.kind - 1))],[.x (aF x)],[],[],[],[.x (aF x),.call (re L) [[],[],[]]],[],[.n (Int.toNat (s.kind - 1))],[.x (aF x)]] ?_)) (noF SI)
      conv=>whnf
      refine⟨Zbr,by kernel_rfl,?_⟩
      refine g 5 83 []<|J Zdt<|RT ?_
      exact iE w.plan w.key w.boss w.workers (s.kind - 1).toNat L.worker (cB w.flight k) w.forged
     ·have hg:cC s.frm s.text w.key = true:=by unfold cC;rw[hm];simp[q1]
      rw[hg]at c3
      refine bG ?_
      conv=>whnf
      refine g 0 1 []<|J Zd9<|W.sq<|g 8 12 [.call VT [[],[]]]<|J Zed<|W.cn<|J (noT rfl) fun _=>W.skip<|g 12 19 [.n (Int.toNat k),.x (cU s)]<|J Zch<|g 19 24 [.call (V.own pkd (List.map bZ (cB w.flight k))) [[],[]]]<|J Zd0<|W.sq<|g 24 32 [.call VT [[],[]],BT,BT,BT,BT]<|J Zbh<|W.cn<|J (fun _=>(rg []<|J UW (g 32 44 [.call (il (some m)) [[],[]]]<|J Zdw ?_))) (noF tO)
      refine W.sq<|g 7 45 []<|J UB<|W.cn<|J (noT rfl) fun _=>W.skip<|W.sq<|g 45 49 []<|J UC<|W.cn<|J (noT dO) fun _=>g 49 63 []<|J UF<|W.cn<|J (fun _=>(rgd [[],[],[],[],[.i (s.kind - 1)],[],[],[],[],[.i (s.kind - 1)],[.n (Int.toNat (s.kind - 1))],[.x (aF x)],[],[],[],[.x (aF x),.call (re L) [[],[],[]]],[],[.n (Int.toNat (s.kind - 1))],[.x (aF x)]] ?_)) (noF SI)
      conv=>whnf
      refine⟨Zbr,by kernel_rfl,?_⟩
      refine g 5 83 []<|J Zdt<|RT ?_
      exact iE w.plan w.key w.boss w.workers (s.kind - 1).toNat L.worker (cB w.flight k) s.text
    ·rw[Fd hm' h0 (fun q=>h1 q.2)]
     show F _ _ (bh ⟨w.plan,w.key,w.boss,w.workers,cB w.flight k,_⟩) _
     generalize hgg:Dx (dh w (cB w.flight k)) s = g
     rcases cases3 g hgg with⟨q1,rfl⟩|⟨q1,q2,rfl⟩|⟨q1,q2,rfl⟩
     ·have hg:cC s.frm s.text w.key = false:=by unfold cC;rw[hm];simp[q1]
      rw[hg]at c3
      refine bG ?_
      conv=>whnf
      refine g 0 1 []<|J Zd9<|W.sq<|g 8 12 [.call VT [[],[]]]<|J Zed<|W.cn<|J (noT rfl) fun _=>W.skip<|g 12 19 [.n (Int.toNat k),.x (cU s)]<|J Zch<|g 19 24 [.call (V.own pkd (List.map bZ (cB w.flight k))) [[],[]]]<|J Zd0<|W.sq<|g 24 32 [.call VF [[],[]],BF,BF,BF,BF]<|J Zcv<|W.cn<|J (noT rfl) fun _=>W.skip<|g 32 44 [.call (il (some m)) [[],[]]]<|J Zdw ?_
      refine W.sq<|g 7 45 []<|J UB<|W.cn<|J (noT rfl) fun _=>W.skip<|W.sq<|g 45 49 []<|J UC<|W.cn<|J (noT dO) fun _=>g 49 63 []<|J UF<|W.cn<|J (noT SI) fun _=>W.skip<|g 5 83 []<|J Zdt<|RT ?_
      rfl
     ·have hg:cC s.frm s.text w.key = true:=by unfold cC;rw[hm];simp[q1]
      rw[hg]at c3
      refine bG ?_
      conv=>whnf
      refine g 0 1 []<|J Zd9<|W.sq<|g 8 12 [.call VT [[],[]]]<|J Zed<|W.cn<|J (noT rfl) fun _=>W.skip<|g 12 19 [.n (Int.toNat k),.x (cU s)]<|J Zch<|g 19 24 [.call (V.own pkd (List.map bZ (cB w.flight k))) [[],[]]]<|J Zd0<|W.sq<|g 24 32 [.call VT [[],[]],BT,BT,BT,BT]<|J Zbh<|W.cn<|J (noT dO) fun _=>W.skip<|g 32 44 [.call (il (some m)) [[],[]]]<|J Zdw ?_
      refine W.sq<|g 7 45 []<|J UB<|W.cn<|J (noT rfl) fun _=>W.skip<|W.sq<|g 45 49 []<|J UC<|W.cn<|J (noT dO) fun _=>g 49 63 []<|J UF<|W.cn<|J (noT SI) fun _=>W.skip<|g 5 83 []<|J Zdt<|RT ?_
      rfl
     ·have hg:cC s.frm s.text w.key = true:=by unfold cC;rw[hm];simp[q1]
      rw[hg]at c3
      refine bG ?_
      conv=>whnf
      refine g 0 1 []<|J Zd9<|W.sq<|g 8 12 [.call VT [[],[]]]<|J Zed<|W.cn<|J (noT rfl) fun _=>W.skip<|g 12 19 [.n (Int.toNat k),.x (cU s)]<|J Zch<|g 19 24 [.call (V.own pkd (List.map bZ (cB w.flight k))) [[],[]]]<|J Zd0<|W.sq<|g 24 32 [.call VT [[],[]],BT,BT,BT,BT]<|J Zbh<|W.cn<|J (fun _=>(rg []<|J UW (g 32 44 [.call (il (some m)) [[],[]]]<|J Zdw ?_))) (noF tO)
      refine W.sq<|g 7 45 []<|J UB<|W.cn<|J (noT rfl) fun _=>W.skip<|W.sq<|g 45 49 []<|J UC<|W.cn<|J (noT dO) fun _=>g 49 63 []<|J UF<|W.cn<|J (noT SI) fun _=>W.skip<|g 5 83 []<|J Zdt<|RT ?_
      rfl
 ·rw[decide_eq_false ha]at c1
  rw[KN ha]
  refine bG ?_
  conv=>whnf
  refine g 0 1 []<|J Zd9<|W.sq<|g 8 12 [.call VF [[],[]]]<|J Zed<|W.cn<|J (fun _=>(g 12 14 []<|J Zdt (RT ?_))) (noF rfl)
  rfl
end Go.K
end
section
open Go Go.Tm Go.Proofs
namespace Go.K
theorem tW(w:World)(e:Event)(h:DoLim w):F BS [.val (bh w),.val (PR e)] (bh (doW w e)) [[],[]]:=by
 have ct:=jT w h
 have cb:=eA w e.a h
 obtain⟨l1,l2,l3,l4,l5,l6,l7,l8⟩:=h
 have c3:=yx w.flight e.a OM
 have c4:=tX w.flight e.a OM
 have c5:=Cu w.flight e.a e.b e.c OM (fun p hp=>by have:=(l7 p hp).bytes;omega)
 have c6:=lM w.boss w.plan e.b l1 l3
 have c7:=ff w.boss w.plan l1 l3
 by_cases h1:e.kind = 1
 ·rw[do_1 h1]
  refine cG ?_
  conv=>whnf
  refine g 0 2 []<|J Zdd ?_
  by_cases h2:(1:Int)≤Event.a e
  refine g 6 17 [BT,BT,BT,BT,BT,BT,BT]<|J Zav<|W.sq<|g 17 18 []<|J UB<|W.blk<|g 20 21 []<|J UB<|W.cn<|J (fun _=>(g 5 23 [.call (bh (g9 w)) [[]]]<|J ⟨I,⟨⟨UQ,I⟩,I,UA,UA,AS⟩,UQ,I⟩ (RT ?_))) (noF tO)
  rfl
  refine g 6 17 [BF,BF,BF,BF,BF,BF,BF]<|J Zby<|W.sq<|g 17 18 []<|J UB<|W.blk<|g 20 21 []<|J UB<|W.cn<|J (fun _=>(g 5 23 [.call (bh (g9 w)) [[]]]<|J ⟨I,⟨⟨UQ,I⟩,I,UA,UA,AS⟩,UQ,I⟩ (RT ?_))) (noF tO)
  rfl
 by_cases h2:e.kind = 2
 ·rw[do_2 h2]
  refine cG ?_
  conv=>whnf
  refine g 0 2 []<|J Zdd ?_
  by_cases h3:(1:Int)≤Event.a e
  refine g 6 17 [BT,BT,BT,BT,BT,BT,BT]<|J Zav<|W.sq<|g 17 18 []<|J UB<|W.blk<|g 20 21 []<|J UB<|W.cn<|J (noT dO) fun _=>g 19 20 []<|J UB<|W.cn<|J (fun _=>(g 5 29 [.call (bh (dA w e.a)) [[],[]]]<|J ⟨I,I,I,Zda,UQ,I⟩ (RT ?_))) (noF tO)
  rfl
  refine g 6 17 [BF,BF,BF,BF,BF,BF,BF]<|J Zby<|W.sq<|g 17 18 []<|J UB<|W.blk<|g 20 21 []<|J UB<|W.cn<|J (noT dO) fun _=>g 19 20 []<|J UB<|W.cn<|J (fun _=>(g 5 29 [.call (bh (dA w e.a)) [[],[]]]<|J ⟨I,I,I,Zda,UQ,I⟩ (RT ?_))) (noF tO)
  rfl
 by_cases h3:e.kind = 3
 ·rw[do_3 h3]
  refine cG ?_
  conv=>whnf
  refine g 0 2 []<|J Zdd ?_
  by_cases h4:(1:Int)≤Event.a e
  refine g 6 17 [BT,BT,BT,BT,BT,BT,BT]<|J Zav<|W.sq<|g 17 18 []<|J UB<|W.blk<|g 20 21 []<|J UB<|W.cn<|J (noT dO) fun _=>g 19 20 []<|J UB<|W.cn<|J (noT dO) fun _=>g 23 25 []<|J UB<|W.cn<|J (fun _=>(rg [.call (V.own pkd (List.map bZ (qL w.flight e.a))) [[],[]]]<|J ⟨I,I,I,I,Zaq,I,UA,I⟩ (g 5 112 []<|J Zdt ?_))) (noF tO)
  refine RT ?_
  rfl
  refine g 6 17 [BF,BF,BF,BF,BF,BF,BF]<|J Zby<|W.sq<|g 17 18 []<|J UB<|W.blk<|g 20 21 []<|J UB<|W.cn<|J (noT dO) fun _=>g 19 20 []<|J UB<|W.cn<|J (noT dO) fun _=>g 23 25 []<|J UB<|W.cn<|J (fun _=>(rg [.call (V.own pkd (List.map bZ (qL w.flight e.a))) [[],[]]]<|J ⟨I,I,I,I,Zaq,I,UA,I⟩ (g 5 112 []<|J Zdt ?_))) (noF tO)
  refine RT ?_
  rfl
 by_cases h4:e.kind = 4
 ·rw[do_4 h4]
  refine cG ?_
  conv=>whnf
  refine g 0 2 []<|J Zdd ?_
  by_cases h5:(1:Int)≤Event.a e
  refine g 6 17 [BT,BT,BT,BT,BT,BT,BT]<|J Zav<|W.sq<|g 17 18 []<|J UB<|W.blk<|g 20 21 []<|J UB<|W.cn<|J (noT dO) fun _=>g 19 20 []<|J UB<|W.cn<|J (noT dO) fun _=>g 23 25 []<|J UB<|W.cn<|J (noT dO) fun _=>g 29 31 []<|J UB<|W.cn<|J (fun _=>?_) (noF tO)
  refine rg [.call (V.own pkd (List.map bZ (cB w.flight e.a))) [[],[]]]<|J ⟨I,I,I,I,Zaq,I,UA,I⟩<|g 5 112 []<|J Zdt<|RT ?_
  rfl
  refine g 6 17 [BF,BF,BF,BF,BF,BF,BF]<|J Zby<|W.sq<|g 17 18 []<|J UB<|W.blk<|g 20 21 []<|J UB<|W.cn<|J (noT dO) fun _=>g 19 20 []<|J UB<|W.cn<|J (noT dO) fun _=>g 23 25 []<|J UB<|W.cn<|J (noT dO) fun _=>g 29 31 []<|J UB<|W.cn<|J (fun _=>?_) (noF tO)
  refine rg [.call (V.own pkd (List.map bZ (cB w.flight e.a))) [[],[]]]<|J ⟨I,I,I,I,Zaq,I,UA,I⟩<|g 5 112 []<|J Zdt<|RT ?_
  rfl
 by_cases h5:e.kind = 5
 ·rw[do_5 h5]
  refine cG ?_
  conv=>whnf
  refine g 0 2 []<|J Zdd ?_
  by_cases h6:(1:Int)≤Event.a e
  refine g 6 17 [BT,BT,BT,BT,BT,BT,BT]<|J Zav<|W.sq<|g 17 18 []<|J UB<|W.blk<|g 20 21 []<|J UB<|W.cn<|J (noT dO) fun _=>g 19 20 []<|J UB<|W.cn<|J (noT dO) fun _=>g 23 25 []<|J UB<|W.cn<|J (noT dO) fun _=>g 29 31 []<|J UB<|W.cn<|J (noT dO) fun _=>?_
  refine g 37 39 []<|J UB<|W.cn<|J (fun _=>(rg [.call (V.own pkd (List.map bZ (qT w.flight e.a e.b e.c))) [[],[],[],[]]]<|J ⟨I,I,I,I,I,I,I,I,⟨UD,I,Zc1,UA,AS⟩,I,UA,I⟩ (g 5 52 []<|J Zdt (RT ?_)))) (noF tO)
  rfl
  refine g 6 17 [BF,BF,BF,BF,BF,BF,BF]<|J Zby<|W.sq<|g 17 18 []<|J UB<|W.blk<|g 20 21 []<|J UB<|W.cn<|J (noT dO) fun _=>g 19 20 []<|J UB<|W.cn<|J (noT dO) fun _=>g 23 25 []<|J UB<|W.cn<|J (noT dO) fun _=>g 29 31 []<|J UB<|W.cn<|J (noT dO) fun _=>?_
  refine g 37 39 []<|J UB<|W.cn<|J (fun _=>(rg [.call (V.own pkd (List.map bZ (qT w.flight e.a e.b e.c))) [[],[],[],[]]]<|J ⟨I,I,I,I,I,I,I,I,⟨UD,I,Zc1,UA,AS⟩,I,UA,I⟩ (g 5 52 []<|J Zdt (RT ?_)))) (noF tO)
  rfl
 by_cases h6:e.kind = 6
 ·by_cases ha:e.a = 0
  ·rw[Rf h6 ha]
   generalize nX w.boss w.plan e.b = B at c6 ⊢
   refine cG ?_
   conv=>whnf
   refine g 0 2 []<|J Zdd<|g 6 17 [BF,BF,BF,BF,BF,BF,BF]<|J Zby<|W.sq<|g 17 18 []<|J UB<|W.blk<|g 20 21 []<|J UB<|W.cn<|J (noT dO) fun _=>g 19 20 []<|J UB<|W.cn<|J (noT dO) fun _=>g 23 25 []<|J UB<|W.cn<|J (noT dO) fun _=>g 29 31 []<|J UB ?_
   refine W.cn<|J (noT dO) fun _=>g 37 39 []<|J UB<|W.cn<|J (noT dO) fun _=>g 45 47 []<|J UB<|W.cn<|J (fun _=>(g 18 61 []<|J UC (W.cn<|J (fun _=>(rg [.call (ay B) [[],[],[]]]<|J ⟨I,I,I,I,I,I,Zcu,I,UL,I⟩ (g 5 112 []<|J Zdt (RT ?_)))) (noF tO)))) (noF tO)
   rfl
  ·by_cases hx:1≤e.a∧e.a≤w.workers.length
   ·obtain⟨x1,x2⟩:=hx
    obtain⟨x,hx⟩:=ak (xs:=w.workers) (n:=(e.a - 1).toNat) OM
    rw[Rd h6 ⟨x1,x2⟩ hx]
    have hxi:=l5 x (List.mem_of_getElem? hx)
    have c8:=qs x OM
    generalize pk x = y at c8 ⊢
    have es:=rq (xs:=w.workers) (n:=(e.a - 1).toNat) (x:=y)
    refine cG ?_
    conv=>whnf
    refine g 0 2 []<|J Zdd<|g 6 17 [BT,BT,BT,BT,BT,BT,BT]<|J Zav<|W.sq<|g 17 18 []<|J UB<|W.blk<|g 20 21 []<|J UB<|W.cn<|J (noT dO) fun _=>g 19 20 []<|J UB<|W.cn<|J (noT dO) fun _=>g 23 25 []<|J UB<|W.cn<|J (noT dO) fun _=>g 29 31 []<|J UB ?_
    refine W.cn<|J (noT dO) fun _=>g 37 39 []<|J UB<|W.cn<|J (noT dO) fun _=>g 45 47 []<|J UB<|W.cn<|J (fun _=>(g 18 61 []<|J UC (W.cn<|J (noT dO) fun _=>(g 5 62 []<|J UA (W.cn<|J (fun _=>(rgd [[],[],[],[],[.i (e.a - 1)],[],[],[],[],[.i (e.a - 1)],[.n (Int.toNat (e.a - 1))],[.x (aF x)],[.x (aF x),.call (aE y) [[]]],[.n (Int.toNat (e.a - 1))],[.x (aF x)]] ?_)) (noF SI)))))) (noF tO)
    conv=>whnf
    refine⟨Zcs,by kernel_rfl,?_⟩
    refine g 70 112 []<|J Zdt<|RT ?_
    exact iE w.plan w.key w.boss w.workers (e.a - 1).toNat y w.flight w.forged
   ·rw[Re h6 ha hx]
    refine cG ?_
    conv=>whnf
    refine g 0 2 []<|J Zdd ?_
    by_cases h7:(1:Int)≤Event.a e
    refine g 6 17 [BT,BT,BT,BT,BT,BT,BT]<|J Zav<|W.sq<|g 17 18 []<|J UB<|W.blk<|g 20 21 []<|J UB<|W.cn<|J (noT dO) fun _=>g 19 20 []<|J UB<|W.cn<|J (noT dO) fun _=>g 23 25 []<|J UB<|W.cn<|J (noT dO) fun _=>g 29 31 []<|J UB<|W.cn<|J (noT dO) fun _=>?_
    refine g 37 39 []<|J UB<|W.cn<|J (noT dO) fun _=>g 45 47 []<|J UB<|W.cn<|J (fun _=>(g 18 61 []<|J UC (W.cn<|J (noT dO) fun _=>(g 5 62 []<|J UA (W.cn<|J (noT (by simp_all)) fun _=>(W.skip (g 2 4 []<|J Zdt (RT ?_)))))))) (noF tO)
    rfl
    refine g 6 17 [BF,BF,BF,BF,BF,BF,BF]<|J Zby<|W.sq<|g 17 18 []<|J UB<|W.blk<|g 20 21 []<|J UB<|W.cn<|J (noT dO) fun _=>g 19 20 []<|J UB<|W.cn<|J (noT dO) fun _=>g 23 25 []<|J UB<|W.cn<|J (noT dO) fun _=>g 29 31 []<|J UB<|W.cn<|J (noT dO) fun _=>?_
    refine g 37 39 []<|J UB<|W.cn<|J (noT dO) fun _=>g 45 47 []<|J UB<|W.cn<|J (fun _=>(g 18 61 []<|J UC (W.cn<|J (noT dO) fun _=>(g 5 62 []<|J UA (W.cn<|J (noT rfl) fun _=>(W.skip (g 2 4 []<|J Zdt (RT ?_)))))))) (noF tO)
    rfl
 by_cases h7:e.kind = 7
 ·by_cases ha:e.a = 0
  ·rw[Rc h7 ha]
   generalize gP w.boss w.plan = B at c7 ⊢
   refine cG ?_
   conv=>whnf
   refine g 0 2 []<|J Zdd<|g 6 17 [BF,BF,BF,BF,BF,BF,BF]<|J Zby<|W.sq<|g 17 18 []<|J UB<|W.blk<|g 20 21 []<|J UB<|W.cn<|J (noT dO) fun _=>g 19 20 []<|J UB<|W.cn<|J (noT dO) fun _=>g 23 25 []<|J UB<|W.cn<|J (noT dO) fun _=>g 29 31 []<|J UB ?_
   refine W.cn<|J (noT dO) fun _=>g 37 39 []<|J UB<|W.cn<|J (noT dO) fun _=>g 45 47 []<|J UB<|W.cn<|J (noT dO) fun _=>g 18 59 []<|J UB<|W.cn<|J (fun _=>(g 85 89 []<|J UC (W.cn<|J (fun _=>(rg [.call (ay B) [[],[]]]<|J ⟨I,I,I,I,Zak,I,UL,I⟩ (g 5 112 []<|J Zdt (RT ?_)))) (noF tO)))) (noF tO)
   rfl
  ·by_cases hx:1≤e.a∧e.a≤w.workers.length
   ·obtain⟨x1,x2⟩:=hx
    obtain⟨x,hx⟩:=ak (xs:=w.workers) (n:=(e.a - 1).toNat) OM
    rw[Ra h7 ⟨x1,x2⟩ hx]
    have hxi:=l5 x (List.mem_of_getElem? hx)
    have c8:=qr x OM
    generalize li x = y at c8 ⊢
    have es:=rq (xs:=w.workers) (n:=(e.a - 1).toNat) (x:=y)
    refine cG ?_
    conv=>whnf
    refine g 0 2 []<|J Zdd<|g 6 17 [BT,BT,BT,BT,BT,BT,BT]<|J Zav<|W.sq<|g 17 18 []<|J UB<|W.blk<|g 20 21 []<|J UB<|W.cn<|J (noT dO) fun _=>g 19 20 []<|J UB<|W.cn<|J (noT dO) fun _=>g 23 25 []<|J UB<|W.cn<|J (noT dO) fun _=>g 29 31 []<|J UB ?_
    refine W.cn<|J (noT dO) fun _=>g 37 39 []<|J UB<|W.cn<|J (noT dO) fun _=>g 45 47 []<|J UB<|W.cn<|J (noT dO) fun _=>g 18 59 []<|J UB<|W.cn<|J (fun _=>(g 85 89 []<|J UC (W.cn<|J (noT dO) fun _=>(g 5 90 []<|J UA (W.cn<|J (fun _=>(rgd [[],[],[],[],[.i (e.a - 1)],[],[],[],[],[.i (e.a - 1)],[.n (Int.toNat (e.a - 1))],[.x (aF x)],[.x (aF x),.call (aE y) [[]]],[.n (Int.toNat (e.a - 1))],[.x (aF x)]] ?_)) (noF SI)))))) (noF tO)
    conv=>whnf
    refine⟨Zcs,by kernel_rfl,?_⟩
    refine g 96 112 []<|J Zdt<|RT ?_
    exact iE w.plan w.key w.boss w.workers (e.a - 1).toNat y w.flight w.forged
   ·rw[Rb h7 ha hx]
    refine cG ?_
    conv=>whnf
    refine g 0 2 []<|J Zdd ?_
    by_cases h8:(1:Int)≤Event.a e
    refine g 6 17 [BT,BT,BT,BT,BT,BT,BT]<|J Zav<|W.sq<|g 17 18 []<|J UB<|W.blk<|g 20 21 []<|J UB<|W.cn<|J (noT dO) fun _=>g 19 20 []<|J UB<|W.cn<|J (noT dO) fun _=>g 23 25 []<|J UB<|W.cn<|J (noT dO) fun _=>g 29 31 []<|J UB<|W.cn<|J (noT dO) fun _=>?_
    refine g 37 39 []<|J UB<|W.cn<|J (noT dO) fun _=>g 45 47 []<|J UB<|W.cn<|J (noT dO) fun _=>g 18 59 []<|J UB<|W.cn<|J (fun _=>(g 85 89 []<|J UC (W.cn<|J (noT dO) fun _=>(g 5 90 []<|J UA (W.cn<|J (noT (by simp_all)) fun _=>(W.skip (g 2 4 []<|J Zdt ?_))))))) (noF tO)
    refine RT ?_
    rfl
    refine g 6 17 [BF,BF,BF,BF,BF,BF,BF]<|J Zby<|W.sq<|g 17 18 []<|J UB<|W.blk<|g 20 21 []<|J UB<|W.cn<|J (noT dO) fun _=>g 19 20 []<|J UB<|W.cn<|J (noT dO) fun _=>g 23 25 []<|J UB<|W.cn<|J (noT dO) fun _=>g 29 31 []<|J UB<|W.cn<|J (noT dO) fun _=>?_
    refine g 37 39 []<|J UB<|W.cn<|J (noT dO) fun _=>g 45 47 []<|J UB<|W.cn<|J (noT dO) fun _=>g 18 59 []<|J UB<|W.cn<|J (fun _=>(g 85 89 []<|J UC (W.cn<|J (noT dO) fun _=>(g 5 90 []<|J UA (W.cn<|J (noT rfl) fun _=>(W.skip (g 2 4 []<|J Zdt ?_))))))) (noF tO)
    refine RT ?_
    rfl
 ·have e0:doW w e = w:=by
   unfold doW
   rw[if_neg h1,if_neg h2,if_neg h3,if_neg h4,if_neg h5,if_neg h6,if_neg h7]
  rw[e0]
  refine cG ?_
  conv=>whnf
  refine g 0 2 []<|J Zdd ?_
  by_cases h8:(1:Int)≤Event.a e
  refine g 6 17 [BT,BT,BT,BT,BT,BT,BT]<|J Zav<|W.sq<|g 17 18 []<|J UB<|W.blk<|g 20 21 []<|J UB<|W.cn<|J (noT dO) fun _=>g 19 20 []<|J UB<|W.cn<|J (noT dO) fun _=>g 23 25 []<|J UB<|W.cn<|J (noT dO) fun _=>g 29 31 []<|J UB<|W.cn<|J (noT dO) fun _=>?_
  refine g 37 39 []<|J UB<|W.cn<|J (noT dO) fun _=>g 45 47 []<|J UB<|W.cn<|J (noT dO) fun _=>g 18 59 []<|J UB<|W.cn<|J (noT dO) fun _=>W.skip<|g 5 112 []<|J Zdt<|RT ?_
  rfl
  refine g 6 17 [BF,BF,BF,BF,BF,BF,BF]<|J Zby<|W.sq<|g 17 18 []<|J UB<|W.blk<|g 20 21 []<|J UB<|W.cn<|J (noT dO) fun _=>g 19 20 []<|J UB<|W.cn<|J (noT dO) fun _=>g 23 25 []<|J UB<|W.cn<|J (noT dO) fun _=>g 29 31 []<|J UB<|W.cn<|J (noT dO) fun _=>?_
  refine g 37 39 []<|J UB<|W.cn<|J (noT dO) fun _=>g 45 47 []<|J UB<|W.cn<|J (noT dO) fun _=>g 18 59 []<|J UB<|W.cn<|J (noT dO) fun _=>W.skip<|g 5 112 []<|J Zdt<|RT ?_
  rfl
end Go.K
end
section
open Go Go.Tm Go.Proofs
namespace Go.K
structure WSmall (w:Worker):Prop where
 len:w.inputs.length≤64
 size:∀ s∈w.inputs,s.size≤64
 text:w.text.size≤64
 num:-100≤w.number∧w.number≤1000
 cost:-100≤w.cost∧w.cost≤1000
 lease:w.lease≤1000001
end Go.K
end
section
open Go Go.Tm Go.Proofs
namespace Go.K
structure WMid (w:Worker):Prop where
 len:w.inputs.length≤100
 size:∀ s∈w.inputs,s.size≤100
 text:w.text.size≤100
 lease:w.lease≤1000001
end Go.K
end
section
open Go Go.Tm Go.Proofs
namespace Go.K
theorem KB(l:List Int)(pos:Int)(hl:eP l)(h0:0≤pos)(h1:pos≤1000000):∃ res outs,(∃ (e:Event) (pos2:Int),res = qY e∧outs = [rdC l pos2]∧pos≤pos2∧pos2≤pos+8)∧F iA [.ptr (rdC l pos)] res outs:=by
 have p24:=av l pos 24
 have p40:=av l (pos+1) 40
 have p2:=av l (pos+1+1) 2
 have p4:=av l (pos+1+1+1) 4
 by_cases g2:ac l (pos+1+1) 2 = 0
 ·have r1:=av l (pos+1+1+1+1) 40
  have r2:=av l (pos+1+1+1+1+1) 300
  have r3:=av l (pos+1+1+1+1) 4
  have r4:=av l (pos+1+1+1+1+1) 4
  by_cases k0:ac l pos 24 < 9
  ·refine aV ?_
   conv=>whnf
   refine g 0 0 []<|J UA<|g 5 7 [.call (V.i (ac l pos 24)) ([rdC l (pos+1),[]])]<|J ⟨I,⟨UB,I,UV,UA,aa _ _ _ OM OM OM OM⟩,I,I⟩<|g 7 9 [.call (V.i (ac l (pos+1) 40)) ([rdC l (pos+1+1),[]])]<|J ⟨I,⟨UB,I,UV,UA,aa _ _ _ OM OM OM OM⟩,I,I⟩<|W.sq<|g 9 11 [.call (V.i (ac l (pos+1+1) 2)) ([rdC l (pos+1+1+1),[]])]<|J ⟨I,⟨UB,I,UV,UA,aa _ _ _ OM OM OM OM⟩,I,I⟩<|W.cn<|J (fun _=>(rg [.call (V.i (ac l (pos+1+1+1) 4)) ([rdC l (pos+1+1+1+1),[]])]<|J ⟨I,⟨UB,I,UV,UA,aa _ _ _ OM OM OM OM⟩,I,I⟩ (W.sq (g 11 15 []<|J UB (W.cn<|J (fun _=>(g 15 17 []<|J ⟨I,UD,I⟩ (W.ret ?_))) (noF tO)))))) (noF tO)
   refine EndsW.rt<|J UE ?_
   exact⟨⟨1,0,0,0⟩,_,rfl,rfl,by omega,by omega⟩
  by_cases k1:ac l pos 24 < 17
  ·refine aV ?_
   conv=>whnf
   refine g 0 0 []<|J UA<|g 5 7 [.call (V.i (ac l pos 24)) ([rdC l (pos+1),[]])]<|J ⟨I,⟨UB,I,UV,UA,aa _ _ _ OM OM OM OM⟩,I,I⟩<|g 7 9 [.call (V.i (ac l (pos+1) 40)) ([rdC l (pos+1+1),[]])]<|J ⟨I,⟨UB,I,UV,UA,aa _ _ _ OM OM OM OM⟩,I,I⟩<|W.sq<|g 9 11 [.call (V.i (ac l (pos+1+1) 2)) ([rdC l (pos+1+1+1),[]])]<|J ⟨I,⟨UB,I,UV,UA,aa _ _ _ OM OM OM OM⟩,I,I⟩<|W.cn<|J (fun _=>(rg [.call (V.i (ac l (pos+1+1+1) 4)) ([rdC l (pos+1+1+1+1),[]])]<|J ⟨I,⟨UB,I,UV,UA,aa _ _ _ OM OM OM OM⟩,I,I⟩ (W.sq (g 11 15 []<|J UB (W.cn<|J (noT dO) fun _=>(W.skip (W.sq ?_))))))) (noF tO)
   refine g 15 18 []<|J UB<|W.cn<|J (fun _=>(g 18 21 []<|J ⟨I,I,UD,I⟩ (W.ret (EndsW.rt<|J UE ?_)))) (noF tO)
   exact⟨⟨2,ac l (pos+1+1+1) 4,0,0⟩,_,rfl,rfl,by omega,by omega⟩
  by_cases k2:ac l pos 24 = 17
  ·refine aV ?_
   conv=>whnf
   refine g 0 0 []<|J UA<|g 5 7 [.call (V.i (ac l pos 24)) ([rdC l (pos+1),[]])]<|J ⟨I,⟨UB,I,UV,UA,aa _ _ _ OM OM OM OM⟩,I,I⟩<|g 7 9 [.call (V.i (ac l (pos+1) 40)) ([rdC l (pos+1+1),[]])]<|J ⟨I,⟨UB,I,UV,UA,aa _ _ _ OM OM OM OM⟩,I,I⟩<|W.sq<|g 9 11 [.call (V.i (ac l (pos+1+1) 2)) ([rdC l (pos+1+1+1),[]])]<|J ⟨I,⟨UB,I,UV,UA,aa _ _ _ OM OM OM OM⟩,I,I⟩<|W.cn<|J (fun _=>(rg [.call (V.i (ac l (pos+1+1+1) 4)) ([rdC l (pos+1+1+1+1),[]])]<|J ⟨I,⟨UB,I,UV,UA,aa _ _ _ OM OM OM OM⟩,I,I⟩ (W.sq (g 11 15 []<|J UB (W.cn<|J (noT dO) fun _=>(W.skip (W.sq ?_))))))) (noF tO)
   refine g 15 18 []<|J UB<|W.cn<|J (noT dO) fun _=>W.skip<|W.sq<|g 18 22 []<|J UB<|W.cn<|J (fun _=>(g 22 25 []<|J ⟨I,I,UD,I⟩ (W.ret (EndsW.rt<|J UE ?_)))) (noF tO)
   exact⟨⟨3,ac l (pos+1+1+1) 4,0,0⟩,_,rfl,rfl,by omega,by omega⟩
  by_cases k3:ac l pos 24 = 18
  ·refine aV ?_
   conv=>whnf
   refine g 0 0 []<|J UA<|g 5 7 [.call (V.i (ac l pos 24)) ([rdC l (pos+1),[]])]<|J ⟨I,⟨UB,I,UV,UA,aa _ _ _ OM OM OM OM⟩,I,I⟩<|g 7 9 [.call (V.i (ac l (pos+1) 40)) ([rdC l (pos+1+1),[]])]<|J ⟨I,⟨UB,I,UV,UA,aa _ _ _ OM OM OM OM⟩,I,I⟩<|W.sq<|g 9 11 [.call (V.i (ac l (pos+1+1) 2)) ([rdC l (pos+1+1+1),[]])]<|J ⟨I,⟨UB,I,UV,UA,aa _ _ _ OM OM OM OM⟩,I,I⟩<|W.cn<|J (fun _=>(rg [.call (V.i (ac l (pos+1+1+1) 4)) ([rdC l (pos+1+1+1+1),[]])]<|J ⟨I,⟨UB,I,UV,UA,aa _ _ _ OM OM OM OM⟩,I,I⟩ (W.sq (g 11 15 []<|J UB (W.cn<|J (noT dO) fun _=>(W.skip (W.sq ?_))))))) (noF tO)
   refine g 15 18 []<|J UB<|W.cn<|J (noT dO) fun _=>W.skip<|W.sq<|g 18 22 []<|J UB<|W.cn<|J (noT dO) fun _=>W.skip<|W.sq<|g 22 26 []<|J UB<|W.cn<|J (fun _=>(g 26 29 []<|J ⟨I,I,UD,I⟩ (W.ret ?_))) (noF tO)
   refine EndsW.rt<|J UE ?_
   exact⟨⟨4,ac l (pos+1+1+1) 4,0,0⟩,_,rfl,rfl,by omega,by omega⟩
  by_cases k4:ac l pos 24 = 19
  ·refine aV ?_
   conv=>whnf
   refine g 0 0 []<|J UA<|g 5 7 [.call (V.i (ac l pos 24)) ([rdC l (pos+1),[]])]<|J ⟨I,⟨UB,I,UV,UA,aa _ _ _ OM OM OM OM⟩,I,I⟩<|g 7 9 [.call (V.i (ac l (pos+1) 40)) ([rdC l (pos+1+1),[]])]<|J ⟨I,⟨UB,I,UV,UA,aa _ _ _ OM OM OM OM⟩,I,I⟩<|W.sq<|g 9 11 [.call (V.i (ac l (pos+1+1) 2)) ([rdC l (pos+1+1+1),[]])]<|J ⟨I,⟨UB,I,UV,UA,aa _ _ _ OM OM OM OM⟩,I,I⟩<|W.cn<|J (fun _=>(rg [.call (V.i (ac l (pos+1+1+1) 4)) ([rdC l (pos+1+1+1+1),[]])]<|J ⟨I,⟨UB,I,UV,UA,aa _ _ _ OM OM OM OM⟩,I,I⟩ (W.sq (g 11 15 []<|J UB (W.cn<|J (noT dO) fun _=>(W.skip (W.sq ?_))))))) (noF tO)
   refine g 15 18 []<|J UB<|W.cn<|J (noT dO) fun _=>W.skip<|W.sq<|g 18 22 []<|J UB<|W.cn<|J (noT dO) fun _=>W.skip<|W.sq<|g 22 26 []<|J UB<|W.cn<|J (noT dO) fun _=>W.skip<|W.sq ?_
   refine g 26 30 []<|J UB<|W.cn<|J (fun _=>(g 4 37 [.call (V.i (ac l (pos+1+1+1+1) 40)) ([rdC l (pos+1+1+1+1+1),[]]),.call (V.i (ac l (pos+1+1+1+1+1) 300)) ([rdC l (pos+1+1+1+1+1+1),[]])]<|J ⟨I,I,⟨UB,I,UV,UA,aa _ _ _ OM OM OM OM⟩,I,⟨UB,I,UV,UA,aa _ _ _ OM OM OM OM⟩,I,UD,I⟩ (W.ret (EndsW.rt<|J UE ?_)))) (noF tO)
   exact⟨⟨5,ac l (pos+1+1+1) 4,ac l (pos+1+1+1+1) 40,ac l (pos+1+1+1+1+1) 300⟩,_,rfl,rfl,by omega,by omega⟩
  by_cases k5:ac l pos 24 < 22
  ·refine aV ?_
   conv=>whnf
   refine g 0 0 []<|J UA<|g 5 7 [.call (V.i (ac l pos 24)) ([rdC l (pos+1),[]])]<|J ⟨I,⟨UB,I,UV,UA,aa _ _ _ OM OM OM OM⟩,I,I⟩<|g 7 9 [.call (V.i (ac l (pos+1) 40)) ([rdC l (pos+1+1),[]])]<|J ⟨I,⟨UB,I,UV,UA,aa _ _ _ OM OM OM OM⟩,I,I⟩<|W.sq<|g 9 11 [.call (V.i (ac l (pos+1+1) 2)) ([rdC l (pos+1+1+1),[]])]<|J ⟨I,⟨UB,I,UV,UA,aa _ _ _ OM OM OM OM⟩,I,I⟩<|W.cn<|J (fun _=>(rg [.call (V.i (ac l (pos+1+1+1) 4)) ([rdC l (pos+1+1+1+1),[]])]<|J ⟨I,⟨UB,I,UV,UA,aa _ _ _ OM OM OM OM⟩,I,I⟩ (W.sq (g 11 15 []<|J UB (W.cn<|J (noT dO) fun _=>(W.skip (W.sq ?_))))))) (noF tO)
   refine g 15 18 []<|J UB<|W.cn<|J (noT dO) fun _=>W.skip<|W.sq<|g 18 22 []<|J UB<|W.cn<|J (noT dO) fun _=>W.skip<|W.sq<|g 22 26 []<|J UB<|W.cn<|J (noT dO) fun _=>W.skip<|W.sq ?_
   refine g 26 30 []<|J UB<|W.cn<|J (noT dO) fun _=>W.skip<|W.sq<|g 4 38 []<|J UB<|W.cn<|J (fun _=>(g 38 44 [.call (V.i (ac l (pos+1+1+1+1) 4)) ([rdC l (pos+1+1+1+1+1),[]]),.call (V.i (ac l (pos+1+1+1+1+1) 4)) ([rdC l (pos+1+1+1+1+1+1),[]])]<|J ⟨I,⟨UB,I,UV,UA,aa _ _ _ OM OM OM OM⟩,I,⟨UB,I,UV,UA,aa _ _ _ OM OM OM OM⟩,I,UD,I⟩ (W.ret (EndsW.rt<|J UE ?_)))) (noF tO)
   exact⟨⟨6,ac l (pos+1+1+1+1) 4,ac l (pos+1+1+1+1+1) 4,0⟩,_,rfl,rfl,by omega,by omega⟩
  by_cases k6:ac l pos 24 = 22
  ·refine aV ?_
   conv=>whnf
   refine g 0 0 []<|J UA<|g 5 7 [.call (V.i (ac l pos 24)) ([rdC l (pos+1),[]])]<|J ⟨I,⟨UB,I,UV,UA,aa _ _ _ OM OM OM OM⟩,I,I⟩<|g 7 9 [.call (V.i (ac l (pos+1) 40)) ([rdC l (pos+1+1),[]])]<|J ⟨I,⟨UB,I,UV,UA,aa _ _ _ OM OM OM OM⟩,I,I⟩<|W.sq<|g 9 11 [.call (V.i (ac l (pos+1+1) 2)) ([rdC l (pos+1+1+1),[]])]<|J ⟨I,⟨UB,I,UV,UA,aa _ _ _ OM OM OM OM⟩,I,I⟩<|W.cn<|J (fun _=>(rg [.call (V.i (ac l (pos+1+1+1) 4)) ([rdC l (pos+1+1+1+1),[]])]<|J ⟨I,⟨UB,I,UV,UA,aa _ _ _ OM OM OM OM⟩,I,I⟩ (W.sq (g 11 15 []<|J UB (W.cn<|J (noT dO) fun _=>(W.skip (W.sq ?_))))))) (noF tO)
   refine g 15 18 []<|J UB<|W.cn<|J (noT dO) fun _=>W.skip<|W.sq<|g 18 22 []<|J UB<|W.cn<|J (noT dO) fun _=>W.skip<|W.sq<|g 22 26 []<|J UB<|W.cn<|J (noT dO) fun _=>W.skip<|W.sq ?_
   refine g 26 30 []<|J UB<|W.cn<|J (noT dO) fun _=>W.skip<|W.sq<|g 4 38 []<|J UB<|W.cn<|J (noT dO) fun _=>W.skip<|W.sq<|g 3 45 []<|J UB<|W.cn<|J (fun _=>(g 45 47 []<|J ⟨I,UD,I⟩ (W.ret ?_))) (noF tO)
   refine EndsW.rt<|J UE ?_
   exact⟨⟨7,0,0,0⟩,_,rfl,rfl,by omega,by omega⟩
  ·refine aV ?_
   conv=>whnf
   refine g 0 0 []<|J UA<|g 5 7 [.call (V.i (ac l pos 24)) ([rdC l (pos+1),[]])]<|J ⟨I,⟨UB,I,UV,UA,aa _ _ _ OM OM OM OM⟩,I,I⟩<|g 7 9 [.call (V.i (ac l (pos+1) 40)) ([rdC l (pos+1+1),[]])]<|J ⟨I,⟨UB,I,UV,UA,aa _ _ _ OM OM OM OM⟩,I,I⟩<|W.sq<|g 9 11 [.call (V.i (ac l (pos+1+1) 2)) ([rdC l (pos+1+1+1),[]])]<|J ⟨I,⟨UB,I,UV,UA,aa _ _ _ OM OM OM OM⟩,I,I⟩<|W.cn<|J (fun _=>(rg [.call (V.i (ac l (pos+1+1+1) 4)) ([rdC l (pos+1+1+1+1),[]])]<|J ⟨I,⟨UB,I,UV,UA,aa _ _ _ OM OM OM OM⟩,I,I⟩ (W.sq (g 11 15 []<|J UB (W.cn<|J (noT dO) fun _=>(W.skip (W.sq ?_))))))) (noF tO)
   refine g 15 18 []<|J UB<|W.cn<|J (noT dO) fun _=>W.skip<|W.sq<|g 18 22 []<|J UB<|W.cn<|J (noT dO) fun _=>W.skip<|W.sq<|g 22 26 []<|J UB<|W.cn<|J (noT dO) fun _=>W.skip<|W.sq ?_
   refine g 26 30 []<|J UB<|W.cn<|J (noT dO) fun _=>W.skip<|W.sq<|g 4 38 []<|J UB<|W.cn<|J (noT dO) fun _=>W.skip<|W.sq<|g 3 45 []<|J UB<|W.cn<|J (noT dO) fun _=>W.skip<|g 45 50 [.call (V.i (ac l (pos+1+1+1+1) 4)) ([rdC l (pos+1+1+1+1+1),[]])]<|J ⟨I,⟨UB,I,UV,UA,aa _ _ _ OM OM OM OM⟩,I,UD,I⟩ ?_
   refine W.ret<|EndsW.rt<|J UE ?_
   exact⟨⟨7,ac l (pos+1+1+1+1) 4,0,0⟩,_,rfl,rfl,by omega,by omega⟩
 ·have r1:=av l (pos+1+1+1) 40
  have r2:=av l (pos+1+1+1+1) 300
  have r3:=av l (pos+1+1+1) 4
  have r4:=av l (pos+1+1+1+1) 4
  by_cases k0:ac l pos 24 < 9
  ·refine aV ?_
   conv=>whnf
   refine g 0 0 []<|J UA<|g 5 7 [.call (V.i (ac l pos 24)) ([rdC l (pos+1),[]])]<|J ⟨I,⟨UB,I,UV,UA,aa _ _ _ OM OM OM OM⟩,I,I⟩<|g 7 9 [.call (V.i (ac l (pos+1) 40)) ([rdC l (pos+1+1),[]])]<|J ⟨I,⟨UB,I,UV,UA,aa _ _ _ OM OM OM OM⟩,I,I⟩<|W.sq<|g 9 11 [.call (V.i (ac l (pos+1+1) 2)) ([rdC l (pos+1+1+1),[]])]<|J ⟨I,⟨UB,I,UV,UA,aa _ _ _ OM OM OM OM⟩,I,I⟩<|W.cn<|J (noT dO) fun _=>W.skip<|W.sq<|g 11 15 []<|J UB<|W.cn<|J (fun _=>(g 15 17 []<|J ⟨I,UD,I⟩ (W.ret ?_))) (noF tO)
   refine EndsW.rt<|J UE ?_
   exact⟨⟨1,0,0,0⟩,_,rfl,rfl,by omega,by omega⟩
  by_cases k1:ac l pos 24 < 17
  ·refine aV ?_
   conv=>whnf
   refine g 0 0 []<|J UA<|g 5 7 [.call (V.i (ac l pos 24)) ([rdC l (pos+1),[]])]<|J ⟨I,⟨UB,I,UV,UA,aa _ _ _ OM OM OM OM⟩,I,I⟩<|g 7 9 [.call (V.i (ac l (pos+1) 40)) ([rdC l (pos+1+1),[]])]<|J ⟨I,⟨UB,I,UV,UA,aa _ _ _ OM OM OM OM⟩,I,I⟩<|W.sq<|g 9 11 [.call (V.i (ac l (pos+1+1) 2)) ([rdC l (pos+1+1+1),[]])]<|J ⟨I,⟨UB,I,UV,UA,aa _ _ _ OM OM OM OM⟩,I,I⟩<|W.cn<|J (noT dO) fun _=>W.skip<|W.sq<|g 11 15 []<|J UB<|W.cn<|J (noT dO) fun _=>W.skip<|W.sq ?_
   refine g 15 18 []<|J UB<|W.cn<|J (fun _=>(g 18 21 []<|J ⟨I,I,UD,I⟩ (W.ret (EndsW.rt<|J UE ?_)))) (noF tO)
   exact⟨⟨2,ac l (pos+1) 40,0,0⟩,_,rfl,rfl,by omega,by omega⟩
  by_cases k2:ac l pos 24 = 17
  ·refine aV ?_
   conv=>whnf
   refine g 0 0 []<|J UA<|g 5 7 [.call (V.i (ac l pos 24)) ([rdC l (pos+1),[]])]<|J ⟨I,⟨UB,I,UV,UA,aa _ _ _ OM OM OM OM⟩,I,I⟩<|g 7 9 [.call (V.i (ac l (pos+1) 40)) ([rdC l (pos+1+1),[]])]<|J ⟨I,⟨UB,I,UV,UA,aa _ _ _ OM OM OM OM⟩,I,I⟩<|W.sq<|g 9 11 [.call (V.i (ac l (pos+1+1) 2)) ([rdC l (pos+1+1+1),[]])]<|J ⟨I,⟨UB,I,UV,UA,aa _ _ _ OM OM OM OM⟩,I,I⟩<|W.cn<|J (noT dO) fun _=>W.skip<|W.sq<|g 11 15 []<|J UB<|W.cn<|J (noT dO) fun _=>W.skip<|W.sq ?_
   refine g 15 18 []<|J UB<|W.cn<|J (noT dO) fun _=>W.skip<|W.sq<|g 18 22 []<|J UB<|W.cn<|J (fun _=>(g 22 25 []<|J ⟨I,I,UD,I⟩ (W.ret (EndsW.rt<|J UE ?_)))) (noF tO)
   exact⟨⟨3,ac l (pos+1) 40,0,0⟩,_,rfl,rfl,by omega,by omega⟩
  by_cases k3:ac l pos 24 = 18
  ·refine aV ?_
   conv=>whnf
   refine g 0 0 []<|J UA<|g 5 7 [.call (V.i (ac l pos 24)) ([rdC l (pos+1),[]])]<|J ⟨I,⟨UB,I,UV,UA,aa _ _ _ OM OM OM OM⟩,I,I⟩<|g 7 9 [.call (V.i (ac l (pos+1) 40)) ([rdC l (pos+1+1),[]])]<|J ⟨I,⟨UB,I,UV,UA,aa _ _ _ OM OM OM OM⟩,I,I⟩<|W.sq<|g 9 11 [.call (V.i (ac l (pos+1+1) 2)) ([rdC l (pos+1+1+1),[]])]<|J ⟨I,⟨UB,I,UV,UA,aa _ _ _ OM OM OM OM⟩,I,I⟩<|W.cn<|J (noT dO) fun _=>W.skip<|W.sq<|g 11 15 []<|J UB<|W.cn<|J (noT dO) fun _=>W.skip<|W.sq ?_
   refine g 15 18 []<|J UB<|W.cn<|J (noT dO) fun _=>W.skip<|W.sq<|g 18 22 []<|J UB<|W.cn<|J (noT dO) fun _=>W.skip<|W.sq<|g 22 26 []<|J UB<|W.cn<|J (fun _=>(g 26 29 []<|J ⟨I,I,UD,I⟩ (W.ret ?_))) (noF tO)
   refine EndsW.rt<|J UE ?_
   exact⟨⟨4,ac l (pos+1) 40,0,0⟩,_,rfl,rfl,by omega,by omega⟩
  by_cases k4:ac l pos 24 = 19
  ·refine aV ?_
   conv=>whnf
   refine g 0 0 []<|J UA<|g 5 7 [.call (V.i (ac l pos 24)) ([rdC l (pos+1),[]])]<|J ⟨I,⟨UB,I,UV,UA,aa _ _ _ OM OM OM OM⟩,I,I⟩<|g 7 9 [.call (V.i (ac l (pos+1) 40)) ([rdC l (pos+1+1),[]])]<|J ⟨I,⟨UB,I,UV,UA,aa _ _ _ OM OM OM OM⟩,I,I⟩<|W.sq<|g 9 11 [.call (V.i (ac l (pos+1+1) 2)) ([rdC l (pos+1+1+1),[]])]<|J ⟨I,⟨UB,I,UV,UA,aa _ _ _ OM OM OM OM⟩,I,I⟩<|W.cn<|J (noT dO) fun _=>W.skip<|W.sq<|g 11 15 []<|J UB<|W.cn<|J (noT dO) fun _=>W.skip<|W.sq ?_
   refine g 15 18 []<|J UB<|W.cn<|J (noT dO) fun _=>W.skip<|W.sq<|g 18 22 []<|J UB<|W.cn<|J (noT dO) fun _=>W.skip<|W.sq<|g 22 26 []<|J UB<|W.cn<|J (noT dO) fun _=>W.skip<|W.sq ?_
   refine g 26 30 []<|J UB<|W.cn<|J (fun _=>(g 4 37 [.call (V.i (ac l (pos+1+1+1) 40)) ([rdC l (pos+1+1+1+1),[]]),.call (V.i (ac l (pos+1+1+1+1) 300)) ([rdC l (pos+1+1+1+1+1),[]])]<|J ⟨I,I,⟨UB,I,UV,UA,aa _ _ _ OM OM OM OM⟩,I,⟨UB,I,UV,UA,aa _ _ _ OM OM OM OM⟩,I,UD,I⟩ (W.ret (EndsW.rt<|J UE ?_)))) (noF tO)
   exact⟨⟨5,ac l (pos+1) 40,ac l (pos+1+1+1) 40,ac l (pos+1+1+1+1) 300⟩,_,rfl,rfl,by omega,by omega⟩
  by_cases k5:ac l pos 24 < 22
  ·refine aV ?_
   conv=>whnf
   refine g 0 0 []<|J UA<|g 5 7 [.call (V.i (ac l pos 24)) ([rdC l (pos+1),[]])]<|J ⟨I,⟨UB,I,UV,UA,aa _ _ _ OM OM OM OM⟩,I,I⟩<|g 7 9 [.call (V.i (ac l (pos+1) 40)) ([rdC l (pos+1+1),[]])]<|J ⟨I,⟨UB,I,UV,UA,aa _ _ _ OM OM OM OM⟩,I,I⟩<|W.sq<|g 9 11 [.call (V.i (ac l (pos+1+1) 2)) ([rdC l (pos+1+1+1),[]])]<|J ⟨I,⟨UB,I,UV,UA,aa _ _ _ OM OM OM OM⟩,I,I⟩<|W.cn<|J (noT dO) fun _=>W.skip<|W.sq<|g 11 15 []<|J UB<|W.cn<|J (noT dO) fun _=>W.skip<|W.sq ?_
   refine g 15 18 []<|J UB<|W.cn<|J (noT dO) fun _=>W.skip<|W.sq<|g 18 22 []<|J UB<|W.cn<|J (noT dO) fun _=>W.skip<|W.sq<|g 22 26 []<|J UB<|W.cn<|J (noT dO) fun _=>W.skip<|W.sq ?_
   refine g 26 30 []<|J UB<|W.cn<|J (noT dO) fun _=>W.skip<|W.sq<|g 4 38 []<|J UB<|W.cn<|J (fun _=>(g 38 44 [.call (V.i (ac l (pos+1+1+1) 4)) ([rdC l (pos+1+1+1+1),[]]),.call (V.i (ac l (pos+1+1+1+1) 4)) ([rdC l (pos+1+1+1+1+1),[]])]<|J ⟨I,⟨UB,I,UV,UA,aa _ _ _ OM OM OM OM⟩,I,⟨UB,I,UV,UA,aa _ _ _ OM OM OM OM⟩,I,UD,I⟩ (W.ret (EndsW.rt<|J UE ?_)))) (noF tO)
   exact⟨⟨6,ac l (pos+1+1+1) 4,ac l (pos+1+1+1+1) 4,0⟩,_,rfl,rfl,by omega,by omega⟩
  by_cases k6:ac l pos 24 = 22
  ·refine aV ?_
   conv=>whnf
   refine g 0 0 []<|J UA<|g 5 7 [.call (V.i (ac l pos 24)) ([rdC l (pos+1),[]])]<|J ⟨I,⟨UB,I,UV,UA,aa _ _ _ OM OM OM OM⟩,I,I⟩<|g 7 9 [.call (V.i (ac l (pos+1) 40)) ([rdC l (pos+1+1),[]])]<|J ⟨I,⟨UB,I,UV,UA,aa _ _ _ OM OM OM OM⟩,I,I⟩<|W.sq<|g 9 11 [.call (V.i (ac l (pos+1+1) 2)) ([rdC l (pos+1+1+1),[]])]<|J ⟨I,⟨UB,I,UV,UA,aa _ _ _ OM OM OM OM⟩,I,I⟩<|W.cn<|J (noT dO) fun _=>W.skip<|W.sq<|g 11 15 []<|J UB<|W.cn<|J (noT dO) fun _=>W.skip<|W.sq ?_
   refine g 15 18 []<|J UB<|W.cn<|J (noT dO) fun _=>W.skip<|W.sq<|g 18 22 []<|J UB<|W.cn<|J (noT dO) fun _=>W.skip<|W.sq<|g 22 26 []<|J UB<|W.cn<|J (noT dO) fun _=>W.skip<|W.sq ?_
   refine g 26 30 []<|J UB<|W.cn<|J (noT dO) fun _=>W.skip<|W.sq<|g 4 38 []<|J UB<|W.cn<|J (noT dO) fun _=>W.skip<|W.sq<|g 3 45 []<|J UB<|W.cn<|J (fun _=>(g 45 47 []<|J ⟨I,UD,I⟩ (W.ret ?_))) (noF tO)
   refine EndsW.rt<|J UE ?_
   exact⟨⟨7,0,0,0⟩,_,rfl,rfl,by omega,by omega⟩
  ·refine aV ?_
   conv=>whnf
   refine g 0 0 []<|J UA<|g 5 7 [.call (V.i (ac l pos 24)) ([rdC l (pos+1),[]])]<|J ⟨I,⟨UB,I,UV,UA,aa _ _ _ OM OM OM OM⟩,I,I⟩<|g 7 9 [.call (V.i (ac l (pos+1) 40)) ([rdC l (pos+1+1),[]])]<|J ⟨I,⟨UB,I,UV,UA,aa _ _ _ OM OM OM OM⟩,I,I⟩<|W.sq<|g 9 11 [.call (V.i (ac l (pos+1+1) 2)) ([rdC l (pos+1+1+1),[]])]<|J ⟨I,⟨UB,I,UV,UA,aa _ _ _ OM OM OM OM⟩,I,I⟩<|W.cn<|J (noT dO) fun _=>W.skip<|W.sq<|g 11 15 []<|J UB<|W.cn<|J (noT dO) fun _=>W.skip<|W.sq ?_
   refine g 15 18 []<|J UB<|W.cn<|J (noT dO) fun _=>W.skip<|W.sq<|g 18 22 []<|J UB<|W.cn<|J (noT dO) fun _=>W.skip<|W.sq<|g 22 26 []<|J UB<|W.cn<|J (noT dO) fun _=>W.skip<|W.sq ?_
   refine g 26 30 []<|J UB<|W.cn<|J (noT dO) fun _=>W.skip<|W.sq<|g 4 38 []<|J UB<|W.cn<|J (noT dO) fun _=>W.skip<|W.sq<|g 3 45 []<|J UB<|W.cn<|J (noT dO) fun _=>W.skip<|g 45 50 [.call (V.i (ac l (pos+1+1+1) 4)) ([rdC l (pos+1+1+1+1),[]])]<|J ⟨I,⟨UB,I,UV,UA,aa _ _ _ OM OM OM OM⟩,I,UD,I⟩ ?_
   refine W.ret<|EndsW.rt<|J UE ?_
   exact⟨⟨7,ac l (pos+1+1+1) 4,0,0⟩,_,rfl,rfl,by omega,by omega⟩
theorem ti(l:List Int)(pos:Int)(h:eP l∧0≤pos∧pos≤1000000):∃ x:Event×Int,F iA [.ptr (rdC l pos)] (qY x.1) [rdC l x.2]∧pos≤x.2∧x.2≤pos+8:=by
 obtain⟨res,outs,⟨e,pos2,rfl,rfl,h1,h2⟩,hF⟩:=KB l pos h.1 h.2.1 h.2.2
 exact⟨(e,pos2),hF,h1,h2⟩
open Classical in
noncomputable def evP(l:List Int)(pos:Int):Event×Int:=if h:eP l∧0≤pos∧pos≤1000000 then(ti l pos h).choose else(NA,pos)
theorem mw(l:List Int)(pos:Int)(hl:eP l)(h0:0≤pos)(h1:pos≤1000000):F iA [.ptr (rdC l pos)] (qY (evP l pos).1) [rdC l (evP l pos).2]:=by
 have h:eP l∧0≤pos∧pos≤1000000:=⟨hl,h0,h1⟩
 rw[evP,dif_pos h]
 exact(ti l pos h).choose_spec.1
theorem Pl(l:List Int)(pos:Int):pos≤(evP l pos).2∧(evP l pos).2≤pos+8:=by
 unfold evP
 split
 ·rename_i h;exact(ti l pos h).choose_spec.2
 ·exact⟨Int.le_refl _,by dsimp only;omega⟩
theorem NX{p:Plan}{k:Int}(h:am p.tasks = 0)(hk:1≤k∧k≤8):BossOk (cq k 0 []) p:=by
 refine⟨h,hk,⟨Int.le_refl _,by show 0≤1000000;omega⟩,ln h,fun q=>?_,fun _=>⟨rfl,rfl,rfl,rfl,rfl,rfl,rfl,rfl⟩⟩
 cases q
theorem Kd{n:Nat}(h:n < 8):au (yL n):=by
 refine⟨⟨?_,?_⟩,⟨?_,?_⟩,⟨?_,?_⟩,.inl rfl,.inl ⟨rfl,rfl,rfl,rfl,rfl,rfl,rfl⟩⟩ <;> (simp only[yL];omega)
theorem NB{p:Plan}{key:ByteArray}{k:Int}(h:NewOk p key k):WorldOk (nd p key k):=by
 rw[Bg h]
 obtain⟨h1,h2,h3⟩:=h
 have hl:(crew k.toNat).length = k.toNat:=nq _
 refine⟨h1,h3,⟨by show 1≤(crew k.toNat).length;omega,by show(crew k.toNat).length≤8;omega⟩,Nat.zero_le _,?_,fun x hx=>(by cases hx),iT (NX h1 h2),?_⟩
 case refine_2 =>
  show(aY (cq k 0 []) p).workers = ((crew k.toNat).length:Int)
  rw[hl,vu]
  show k = _
  omega
 intro i x hi hx
 change (crew k.toNat)[i]? = some x at hx
 change i < (crew k.toNat).length at hi
 rw[nq]at hi
 have e:x = yL i:=by
  unfold crew at hx
  rw[List.getElem?_map,List.getElem?_range hi]at hx
  exact(Option.some.inj hx).symm
 subst e
 exact⟨Kd OM,rfl⟩
theorem Ko(p:Plan)(key:ByteArray)(k:Int):wq (nd p key k):=by
 by_cases h:NewOk p key k
 ·exact .inl (NB h)
 ·exact .inr (Bh h)
theorem sP(w:World):(g9 w).plan = w.plan:=by unfold g9;split <;> rfl
theorem CA(w:World)(s:Parcel):(cx w s).plan = w.plan:=by
 unfold cx
 cases dE s.text w.key with
 |none=>rfl
 |some m=>dsimp only;split;rfl;split <;> rfl
theorem jb(w:World)(k:Int):(dA w k).plan = w.plan:=by
 unfold dA;split
 ·rw[CA];rfl
 ·rfl
theorem Hr(w:World)(e:Event):(doW w e).plan = w.plan:=by
 unfold doW
 split;exact sP w
 split;exact jb w _
 split;rfl
 split;rfl
 split;rfl
 split
 ·split;rfl
  split <;> rfl
 split
 ·split;rfl
  split <;> rfl
 ·rfl
def od(p:Plan)(w:World):Prop:=w = noWorld∨w.plan = p
theorem E6(l:List Int)(pos:Int)(hl:eP l)(h0:0≤pos)(h1:pos≤900000):∃ res outs,(∃ (w:World) (pos2:Int),res = bh w∧outs = [rdC l pos2]∧wq w∧od (mq l pos).1 w∧pos≤pos2∧pos2≤pos+5000)∧F gc [.ptr (rdC l pos)] res outs:=by
 have cd:=yu l pos hl h0 OM
 obtain⟨d1,d2,d3,d4⟩:=NW l pos
 generalize(mq l pos).1 = p at cd d1 d2 ⊢
 generalize(mq l pos).2 = q at cd d3 d4
 have p3:=av l q 3
 have p40:=av l (q+1) 40
 have ek:(⟨#[107,101,121]⟩:ByteArray).size = 3:=rfl
 have cn:=ux p ⟨#[107,101,121]⟩ (1+ac l q 3) (Bi (fF d1)) OM
 have hg0:=Ko p ⟨#[107,101,121]⟩ (1+ac l q 3)
 have hp0:od p (nd p ⟨#[107,101,121]⟩ (1+ac l q 3)):=by
  unfold nd;split
  ·exact .inr rfl
  ·exact .inl rfl
 generalize nd p ⟨#[107,101,121]⟩ (1+ac l q 3) = w0 at cn hg0 hp0
 have q3:(ac l (q+1) 40).tdiv 3 = ac l (q+1) 40 / 3:=Int.tdiv_eq_ediv_of_nonneg p40.1
 have stepP:∀ {w v:World},od p w→(w = noWorld→v = noWorld)→v.plan = w.plan→od p v:=fun h h2 h3=>by
  rcases h with h|h
  ·exact .inl (h2 h)
  ·exact .inr (by rw[h3,h])
 have core:∀ N:Int,0≤N→N≤39→True:=fun _ _ _=>trivial
 by_cases h20:20 < p.tasks.length
 ·refine jZ ?_
  conv=>whnf
  refine g 0 0 []<|J UA<|g 7 9 [.call (db p) ([rdC l q])]<|J ⟨I,Zb2,I,UA,I⟩<|gd 9 14 [[],[],[.call (V.i (ac l q 3)) ([rdC l (q+1),[]])],[.i (1+ac l q 3)],[.call (bh w0) [[],[],[]]],[],[]] ?_
  conv=>whnf
  refine J ⟨I,I,⟨UB,I,UV,UA,aa _ _ _ OM OM OM OM⟩,wO,⟨UC,I,UU,UA,AS⟩,I,UQ,I⟩<|J KR<|g 14 16 [.call (V.i (ac l (q+1) 40)) ([rdC l (q+1+1),[]])]<|J ⟨I,⟨UB,I,UV,UA,aa _ _ _ OM OM OM OM⟩,I,I⟩<|W.sq<|g 16 19 []<|J UD<|W.cn<|J (fun h2=>?_) fun h2=>?_
  replace h2:=dt h2
  simp only[LM]at h2
  refine rg [.i (Int.tdiv (ac l (q+1) 40) 3)]<|J ⟨I,⟨OM,wO⟩,I,I⟩<|W.sq<|g 19 22 []<|J UA<|W.blk ?_
  rotate_left
  replace h2:=df h2
  simp only[LM]at h2
  omega
  refine W.lp (fun s (x:Nat×World×Int)=>⟨[(0,s.s 0),(2,s.s 2),(4,s.s 4),(5,s.s 5),(6,.i x.1)],[(2,[s.c 2 0,s.c 2 1,s.c 2 2,s.c 2 3,s.c 2 4,s.c 2 5,s.c 2 6,s.c 2 7,s.c 2 8,s.c 2 9,s.c 2 10,s.c 2 11,s.c 2 12,s.c 2 13,s.c 2 14,s.c 2 15,s.c 2 16]),(40,[.t (u8s l),.t (.i x.2.2)]),(4,[.own eF (x.2.1.plan.tasks.map aD),.t (.s x.2.1.key),.t (.i x.2.1.boss.workers),.t (.b x.2.1.boss.up),.t (.i x.2.1.boss.now),.t (.i x.2.1.boss.since),.t (.i x.2.1.boss.epoch),.t (.i x.2.1.boss.given),.own [false] (x.2.1.boss.log.safe.map aq),.own [false] (x.2.1.boss.log.loose.map aq),.own [false] (x.2.1.boss.results.map aq),.own ey (x.2.1.boss.jobs.map aH),.own cz (x.2.1.boss.seats.map aI),.own cA (x.2.1.boss.owed.map aX),.own gQ (x.2.1.workers.map aF),.own pkd (x.2.1.flight.map bZ),.t (.s x.2.1.forged)])],[]⟩) (fun(x:Nat×World×Int)=>(x.1:Int)≤(ac l (q+1) 40 / 3)∧wq x.2.1∧od p x.2.1∧q+2≤x.2.2∧x.2.2≤q+2+9 * x.1) (fun(x:Nat×World×Int)=>(((ac l (q+1) 40 / 3):Int) - x.1).toNat) ((0,w0,q+2)) [some 2,some 40,some 4] [] ⟨rfl,⟨rfl,rfl,rfl,rfl,rfl,I⟩,⟨⟨rfl,⟨rfl,⟨rfl,⟨rfl,⟨rfl,⟨rfl,⟨rfl,⟨rfl,⟨rfl,⟨rfl,⟨rfl,⟨rfl,⟨rfl,⟨rfl,⟨rfl,⟨rfl,⟨rfl,⟨rfl,I⟩⟩⟩⟩⟩⟩⟩⟩⟩⟩⟩⟩⟩⟩⟩⟩⟩⟩,⟨⟨rfl,⟨rfl,⟨(congrArg (fun z=>V.t (T.v (Value.int _ z))) (by show q+1+1 = q+2;omega)),I⟩⟩⟩,⟨⟨rfl,⟨rfl,⟨rfl,⟨rfl,⟨rfl,⟨rfl,⟨rfl,⟨rfl,⟨rfl,⟨rfl,⟨rfl,⟨rfl,⟨rfl,⟨rfl,⟨rfl,⟨rfl,⟨rfl,⟨rfl,I⟩⟩⟩⟩⟩⟩⟩⟩⟩⟩⟩⟩⟩⟩⟩⟩⟩⟩,I⟩⟩⟩,I⟩ ?_ ?_
  ·exact⟨by dsimp only;omega,hg0,hp0,by dsimp only;omega,by dsimp only;omega⟩
  rintro⟨i,w,r⟩ ⟨i1,i2,i3,i4,i5⟩
  dsimp only at i1 i2 i3 i4 i5
  by_cases hi:(i:Int) < (ac l (q+1) 40 / 3)
  ·have ce:=mw l r hl OM OM
   obtain⟨e1,e2⟩:=Pl l r
   generalize(evP l r).1 = e at ce
   generalize(evP l r).2 = u at ce e1 e2
   have cD:=tW w e (cZ i2)
   have hG:=GM e i2
   have hP:=stepP i3 (fun h=>by rw[h];exact pR e) (Hr w e)
   generalize doW w e = w1 at cD hG hP
   have p4:=av l u 4
   by_cases g4:ac l u 4 = 0
   ·have c1:=jT w1 (cZ hG)
    have hG1:=zq hG
    have hP1:=stepP hP (fun h=>by rw[h];exact ny) (sP w1)
    generalize g9 w1 = w2 at c1 hG1 hP1
    have c2:=eA w2 0 (cZ hG1)
    have hG2:=lD 0 hG1
    have hP2:=stepP hP1 (fun h=>by rw[h];exact gB 0) (jb w2 0)
    generalize dA w2 0 = w3 at c2 hG2 hP2
    have c3:=eA w3 0 (cZ hG2)
    have hG3:=lD 0 hG2
    have hP3:=stepP hP2 (fun h=>by rw[h];exact gB 0) (jb w3 0)
    generalize dA w3 0 = w4 at c3 hG3 hP3
    conv=>whnf
    refine W.sq<|g 22 24 []<|J UC<|W.cn<|J (fun _=>(W.skip (W.sq (W.blk (gd 24 31 [[],[],[.call (qY e) ([rdC l u])],[.call (bh w1) [[],[]]],[]] ?_))))) (noF tO)
    conv=>whnf
    refine⟨Zd6,by kernel_rfl,?_⟩
    refine g 31 33 [.call (V.i (ac l u 4)) ([rdC l (u+1),[]])]<|J ⟨I,⟨UB,I,UV,UA,aa _ _ _ OM OM OM OM⟩,I,I⟩<|W.cn<|J (fun _=>(rg [.call (bh w2) [[]],.call (bh w3) [[],[]],.call (bh w4) [[],[]]]<|J ⟨I,⟨⟨UQ,I⟩,I,UA,UA,AS⟩,Zda,Zda,UQ,I⟩ (rg [.i ((↑(Prod.fst (i,w,r)):Int) +1)]<|J Zdg ?_))) (noF tO)
    refine⟨(i+1,w4,u+1),[some 2,some 40,some 4],[],Zet,?_,?_⟩
    rotate_left
    (dsimp only;omega)
    dsimp only
    exact⟨by omega,hG3,hP3,by first|omega|(dsimp only;omega),by first|omega|(dsimp only;omega)⟩
   ·conv=>whnf
    refine W.sq<|g 22 24 []<|J UC<|W.cn<|J (fun _=>(W.skip (W.sq (W.blk (gd 24 31 [[],[],[.call (qY e) ([rdC l u])],[.call (bh w1) [[],[]]],[]] ?_))))) (noF tO)
    conv=>whnf
    refine⟨Zd6,by kernel_rfl,?_⟩
    refine g 31 33 [.call (V.i (ac l u 4)) ([rdC l (u+1),[]])]<|J ⟨I,⟨UB,I,UV,UA,aa _ _ _ OM OM OM OM⟩,I,I⟩<|W.cn<|J (noT dO) fun _=>W.skip<|rg [.i ((↑(Prod.fst (i,w,r)):Int) +1)]<|J Zdg ?_
    refine⟨(i+1,w1,u+1),[some 2,some 40,some 4],[],Zet,?_,?_⟩
    rotate_left
    (dsimp only;omega)
    dsimp only
    exact⟨by omega,hG,hP,by first|omega|(dsimp only;omega),by first|omega|(dsimp only;omega)⟩
  ·have cc:=oL w (cZ i2)
   conv=>whnf
   refine W.sq<|g 22 24 []<|J UC<|W.cn<|J (noT dO) fun _=>W.exit<|g 4 40 [.call (bh w) [[]]]<|J ⟨I,⟨UA,I,⟨UQ,I⟩,UA,AS⟩,UQ,I⟩<|W.ret<|EndsW.rt<|J UR ?_
   exact⟨w,r,rfl,rfl,i2,i3,by omega,by omega⟩
 ·refine jZ ?_
  conv=>whnf
  refine g 0 0 []<|J UA<|g 7 9 [.call (db p) ([rdC l q])]<|J ⟨I,Zb2,I,UA,I⟩<|gd 9 14 [[],[],[.call (V.i (ac l q 3)) ([rdC l (q+1),[]])],[.i (1+ac l q 3)],[.call (bh w0) [[],[],[]]],[],[]] ?_
  conv=>whnf
  refine J ⟨I,I,⟨UB,I,UV,UA,aa _ _ _ OM OM OM OM⟩,wO,⟨UC,I,UU,UA,AS⟩,I,UQ,I⟩<|J KR<|g 14 16 [.call (V.i (ac l (q+1) 40)) ([rdC l (q+1+1),[]])]<|J ⟨I,⟨UB,I,UV,UA,aa _ _ _ OM OM OM OM⟩,I,I⟩<|W.sq<|g 16 19 []<|J UD<|W.cn<|J (fun h2=>?_) fun h2=>?_
  replace h2:=dt h2
  simp only[LM]at h2
  omega
  replace h2:=df h2
  simp only[LM]at h2
  refine W.skip<|W.sq<|g 3 4 []<|J UA<|W.blk ?_
  refine W.lp (fun s (x:Nat×World×Int)=>⟨[(0,s.s 0),(2,s.s 2),(4,s.s 4),(5,s.s 5),(6,.i x.1)],[(2,[s.c 2 0,s.c 2 1,s.c 2 2,s.c 2 3,s.c 2 4,s.c 2 5,s.c 2 6,s.c 2 7,s.c 2 8,s.c 2 9,s.c 2 10,s.c 2 11,s.c 2 12,s.c 2 13,s.c 2 14,s.c 2 15,s.c 2 16]),(40,[.t (u8s l),.t (.i x.2.2)]),(4,[.own eF (x.2.1.plan.tasks.map aD),.t (.s x.2.1.key),.t (.i x.2.1.boss.workers),.t (.b x.2.1.boss.up),.t (.i x.2.1.boss.now),.t (.i x.2.1.boss.since),.t (.i x.2.1.boss.epoch),.t (.i x.2.1.boss.given),.own [false] (x.2.1.boss.log.safe.map aq),.own [false] (x.2.1.boss.log.loose.map aq),.own [false] (x.2.1.boss.results.map aq),.own ey (x.2.1.boss.jobs.map aH),.own cz (x.2.1.boss.seats.map aI),.own cA (x.2.1.boss.owed.map aX),.own gQ (x.2.1.workers.map aF),.own pkd (x.2.1.flight.map bZ),.t (.s x.2.1.forged)])],[]⟩) (fun(x:Nat×World×Int)=>(x.1:Int)≤(ac l (q+1) 40)∧wq x.2.1∧od p x.2.1∧q+2≤x.2.2∧x.2.2≤q+2+9 * x.1) (fun(x:Nat×World×Int)=>(((ac l (q+1) 40):Int) - x.1).toNat) ((0,w0,q+2)) [some 2,some 40,some 4] [] ⟨rfl,⟨rfl,rfl,rfl,rfl,rfl,I⟩,⟨⟨rfl,⟨rfl,⟨rfl,⟨rfl,⟨rfl,⟨rfl,⟨rfl,⟨rfl,⟨rfl,⟨rfl,⟨rfl,⟨rfl,⟨rfl,⟨rfl,⟨rfl,⟨rfl,⟨rfl,⟨rfl,I⟩⟩⟩⟩⟩⟩⟩⟩⟩⟩⟩⟩⟩⟩⟩⟩⟩⟩,⟨⟨rfl,⟨rfl,⟨(congrArg (fun z=>V.t (T.v (Value.int _ z))) (by show q+1+1 = q+2;omega)),I⟩⟩⟩,⟨⟨rfl,⟨rfl,⟨rfl,⟨rfl,⟨rfl,⟨rfl,⟨rfl,⟨rfl,⟨rfl,⟨rfl,⟨rfl,⟨rfl,⟨rfl,⟨rfl,⟨rfl,⟨rfl,⟨rfl,⟨rfl,I⟩⟩⟩⟩⟩⟩⟩⟩⟩⟩⟩⟩⟩⟩⟩⟩⟩⟩,I⟩⟩⟩,I⟩ ?_ ?_
  ·exact⟨by dsimp only;omega,hg0,hp0,by dsimp only;omega,by dsimp only;omega⟩
  rintro⟨i,w,r⟩ ⟨i1,i2,i3,i4,i5⟩
  dsimp only at i1 i2 i3 i4 i5
  by_cases hi:(i:Int) < (ac l (q+1) 40)
  ·have ce:=mw l r hl OM OM
   obtain⟨e1,e2⟩:=Pl l r
   generalize(evP l r).1 = e at ce
   generalize(evP l r).2 = u at ce e1 e2
   have cD:=tW w e (cZ i2)
   have hG:=GM e i2
   have hP:=stepP i3 (fun h=>by rw[h];exact pR e) (Hr w e)
   generalize doW w e = w1 at cD hG hP
   have p4:=av l u 4
   by_cases g4:ac l u 4 = 0
   ·have c1:=jT w1 (cZ hG)
    have hG1:=zq hG
    have hP1:=stepP hP (fun h=>by rw[h];exact ny) (sP w1)
    generalize g9 w1 = w2 at c1 hG1 hP1
    have c2:=eA w2 0 (cZ hG1)
    have hG2:=lD 0 hG1
    have hP2:=stepP hP1 (fun h=>by rw[h];exact gB 0) (jb w2 0)
    generalize dA w2 0 = w3 at c2 hG2 hP2
    have c3:=eA w3 0 (cZ hG2)
    have hG3:=lD 0 hG2
    have hP3:=stepP hP2 (fun h=>by rw[h];exact gB 0) (jb w3 0)
    generalize dA w3 0 = w4 at c3 hG3 hP3
    conv=>whnf
    refine W.sq<|g 22 24 []<|J UC<|W.cn<|J (fun _=>(W.skip (W.sq (W.blk (gd 24 31 [[],[],[.call (qY e) ([rdC l u])],[.call (bh w1) [[],[]]],[]] ?_))))) (noF tO)
    conv=>whnf
    refine⟨Zd6,by kernel_rfl,?_⟩
    refine g 31 33 [.call (V.i (ac l u 4)) ([rdC l (u+1),[]])]<|J ⟨I,⟨UB,I,UV,UA,aa _ _ _ OM OM OM OM⟩,I,I⟩<|W.cn<|J (fun _=>(rg [.call (bh w2) [[]],.call (bh w3) [[],[]],.call (bh w4) [[],[]]]<|J ⟨I,⟨⟨UQ,I⟩,I,UA,UA,AS⟩,Zda,Zda,UQ,I⟩ (rg [.i ((↑(Prod.fst (i,w,r)):Int) +1)]<|J Zdg ?_))) (noF tO)
    refine⟨(i+1,w4,u+1),[some 2,some 40,some 4],[],Zet,?_,?_⟩
    rotate_left
    (dsimp only;omega)
    dsimp only
    exact⟨by omega,hG3,hP3,by first|omega|(dsimp only;omega),by first|omega|(dsimp only;omega)⟩
   ·conv=>whnf
    refine W.sq<|g 22 24 []<|J UC<|W.cn<|J (fun _=>(W.skip (W.sq (W.blk (gd 24 31 [[],[],[.call (qY e) ([rdC l u])],[.call (bh w1) [[],[]]],[]] ?_))))) (noF tO)
    conv=>whnf
    refine⟨Zd6,by kernel_rfl,?_⟩
    refine g 31 33 [.call (V.i (ac l u 4)) ([rdC l (u+1),[]])]<|J ⟨I,⟨UB,I,UV,UA,aa _ _ _ OM OM OM OM⟩,I,I⟩<|W.cn<|J (noT dO) fun _=>W.skip<|rg [.i ((↑(Prod.fst (i,w,r)):Int) +1)]<|J Zdg ?_
    refine⟨(i+1,w1,u+1),[some 2,some 40,some 4],[],Zet,?_,?_⟩
    rotate_left
    (dsimp only;omega)
    dsimp only
    exact⟨by omega,hG,hP,by first|omega|(dsimp only;omega),by first|omega|(dsimp only;omega)⟩
  ·have cc:=oL w (cZ i2)
   conv=>whnf
   refine W.sq<|g 22 24 []<|J UC<|W.cn<|J (noT dO) fun _=>W.exit<|g 4 40 [.call (bh w) [[]]]<|J ⟨I,⟨UA,I,⟨UQ,I⟩,UA,AS⟩,UQ,I⟩<|W.ret<|EndsW.rt<|J UR ?_
   exact⟨w,r,rfl,rfl,i2,i3,by omega,by omega⟩
theorem mU(l:List Int)(pos:Int)(h:eP l∧0≤pos∧pos≤900000):∃ x:World×Int,F gc [.ptr (rdC l pos)] (bh x.1) [rdC l x.2]∧wq x.1∧od (mq l pos).1 x.1∧pos≤x.2∧x.2≤pos+5000:=by
 obtain⟨res,outs,⟨w,pos2,rfl,rfl,h1,h2,h3,h4⟩,hF⟩:=E6 l pos h.1 h.2.1 h.2.2
 exact⟨(w,pos2),hF,h1,h2,h3,h4⟩
open Classical in
noncomputable def iK(l:List Int)(pos:Int):World×Int:=if h:eP l∧0≤pos∧pos≤900000 then(mU l pos h).choose else(noWorld,pos)
theorem kj(l:List Int)(pos:Int)(hl:eP l)(h0:0≤pos)(h1:pos≤900000):F gc [.ptr (rdC l pos)] (bh (iK l pos).1) [rdC l (iK l pos).2]:=by
 have h:eP l∧0≤pos∧pos≤900000:=⟨hl,h0,h1⟩
 rw[iK,dif_pos h]
 exact(mU l pos h).choose_spec.1
theorem C3(l:List Int)(pos:Int):wq (iK l pos).1∧od (mq l pos).1 (iK l pos).1∧pos≤(iK l pos).2∧(iK l pos).2≤pos+5000:=by
 unfold iK
 split
 ·rename_i h;exact(mU l pos h).choose_spec.2
 ·exact⟨.inr rfl,.inl rfl,Int.le_refl _,by dsimp only;omega⟩
end Go.K
end
section
open Go Go.Tm Go.Proofs
namespace Go.K
def aZ(n:Nat):List ByteArray:=(List.range n).map fun(i:Nat)=>bB ⟨1,(i:Int) +1,0,emp⟩
theorem iZ(n:Nat):(aZ n).length = n:=by unfold aZ;rw[List.length_map,List.length_range]
theorem tP(n:Nat):aZ n++ [bB ⟨1,(n:Int) +1,0,emp⟩] = aZ (n+1):=by simp[aZ,List.range_succ]
theorem Aq(n:Nat):(aZ n).map aq++ [aq (bB ⟨1,(n:Int) +1,0,emp⟩)] = (aZ (n+1)).map aq:=by rw[←tP,List.map_append];rfl
theorem tQ{n:Nat}{s:ByteArray}(h:s∈aZ n):s.size≤12:=by
 obtain⟨i,_,rfl⟩:=List.mem_map.1 h
 have:=gw ⟨1,(i:Int) +1,0,emp⟩
 have e0:emp.size = 0:=rfl
 dsimp only at this
 omega
theorem lK(n:Nat)(h:n≤300):F lv [.val (.i n)] (.own [false] ((aZ n).map aq)) [[]]:=by
 refine uo ?_
 conv=>whnf
 refine g 0 0 []<|J UA<|g 5 6 []<|J UB<|W.sq<|g 0 0 []<|J UA<|W.blk<|W.lp (fun s (k:Nat)=>⟨[(0,s.s 0),(2,s.s 2),(3,.ref ⟨3,none,0⟩),(4,.i (k+1))],[(3,[.own [false] ((aZ k).map aq)])],[]⟩) (fun(k:Nat)=>k≤n) (fun(k:Nat)=>n - k) (0) [some 5] [] ⟨rfl,Zcd,Zdv,I⟩ OM ?_
 intro k hk
 have e:=Aq k
 have hl:=iZ k
 have cf:=cK 1 ((k:Int) +1) 0 emp (by decide)
 have hs:=gw ⟨1,(k:Int) +1,0,emp⟩
 by_cases hk2:k < n
 ·conv=>whnf
  refine W.sq<|g 6 8 []<|J UC<|W.cn<|J (fun _=>(W.skip (W.sq (W.blk (rg [.call (V.s (bB {kind:=1,epoch:=(k:Int) +1,task:=0,text:=emp:Entry})) [[]]]<|J ⟨I,I,I,Zct,US,Zdh,I,I⟩ (rg [.i ((k:Int) +1+1)]<|J Zdg ?_)))))) (noF tO)
  refine⟨k+1,[some 16],[],⟨rfl,Zcd,⟨⟨rfl,⟨(congrArg (V.own _) (e)),I⟩⟩,I⟩,I⟩,?_,?_⟩
  rotate_left
  (dsimp only;omega)
  dsimp only
  omega
 ·obtain rfl:k = n:=by omega
  conv=>whnf
  refine W.sq<|g 6 8 []<|J UC<|W.cn<|J (noT dO) fun _=>W.exit<|g 3 18 []<|J UB<|RT ?_
  rfl
theorem jz{p:Plan}(h:am p.tasks = 0):∀ n:Nat,n≤300→(aw p (aZ n)).code = 0∧(aw p (aZ n)).epoch = n∧(aw p (aZ n)).results = List.replicate p.tasks.length emp
 |0,_=>by
  have h0:=ln h
  refine⟨h0,?_⟩
  show(aw p []).epoch = 0∧(aw p []).results = _
  rw[aw,if_pos ⟨h,by decide⟩,gS]
  exact⟨rfl,rfl⟩
 |n+1,hn=>by
  obtain⟨h1,h2,h3⟩:=jz h n OM
  have e:=lc (n:=(n:Int) +1) h1 (by rw[iZ];omega) (by rw[h2]) OM
  have e2:aZ (n+1) = aZ n++ [bB (epE ((n:Int) +1))]:=(tP n).symm
  rw[e2,e]
  exact⟨rfl,by dsimp only;omega,h3⟩
def ew(i:Nat):ByteArray:=(⟨#[102,117,108,108]⟩:ByteArray) ++dX i
def ec(n:Nat):List Task:=(List.range n).map fun i=>⟨ew i,1,[]⟩
theorem nk(n:Nat):(ec n).length = n:=by simp[ec]
theorem EX(n:Nat):(ec n).map aD++ [aD ⟨ew n,1,[]⟩] = (ec (n+1)).map aD:=by simp[ec,List.range_succ]
theorem wK{n i:Nat}(h:i < n):(ec n)[i]? = some ⟨ew i,1,[]⟩:=by
 unfold ec;rw[List.getElem?_map,List.getElem?_range h];rfl
theorem HS{s:ByteArray}(h:(s.data.toList.all fun c=>Nat.ble 33 c.toNat && Nat.ble c.toNat 126) = true)(h1:1≤s.size)(h2:s.size≤30):kR s:=by
 refine⟨fun n c hc=>?_,h1,h2⟩
 have hm:c∈s.data.toList:=by
  have hn:=AZ hc
  rw[getElem?_pos s n hn]at hc
  have e:=Option.some.inj hc
  rw[←e]
  exact Array.getElem_mem_toList hn
 have:=List.all_eq_true.1 h c hm
 simp only[Bool.and_eq_true,Nat.ble_eq]at this
 exact this
theorem EY:((List.range 12).all fun i=>(ew i).data.toList.all fun c=>Nat.ble 33 c.toNat && Nat.ble c.toNat 126) = true:=by decide+kernel
theorem H9:((List.range 12).all fun i=>(List.range i).all fun j=>!((ew i).data.toList == (ew j).data.toList)) = true:=by decide+kernel
theorem H7:((List.range 12).all fun i=>Nat.ble 1 (ew i).size && Nat.ble (ew i).size 30) = true:=by decide+kernel
theorem rE:am (ec 12) = 0:=by
 have hn:gb (ec 12):=by
  intro m t hm ht
  rw[nk]at hm
  rw[wK hm]at ht
  cases ht
  have hr:m∈List.range 12:=List.mem_range.2 hm
  have h1:=List.all_eq_true.1 EY m hr
  have h2:=List.all_eq_true.1 H7 m hr
  simp only[Bool.and_eq_true,Nat.ble_eq]at h2
  refine⟨HS h1 h2.1 h2.2,fun q=>?_⟩
  obtain⟨t,ht,e⟩:=List.mem_map.1 q
  obtain⟨j,hj⟩:=List.getElem?_of_mem ht
  rw[List.getElem?_take]at hj
  split at hj
  ·rename_i hjm
   rw[wK OM]at hj
   cases hj
   have h3:=List.all_eq_true.1 (List.all_eq_true.1 H9 m hr) j (List.mem_range.2 hjm)
   have e2:ew j = ew m:=e
   rw[e2]at h3
   simp at h3
  ·cases hj
 have hc:gW (ec 12):=by
  intro t ht
  obtain⟨i,_,rfl⟩:=List.mem_map.1 ht
  exact⟨Int.le_refl _,by show(1:Int)≤20;omega⟩
 have hd:qZ (ec 12):=by
  intro m t hm ht
  obtain⟨i,_,rfl⟩:=List.mem_map.1 (List.mem_of_getElem? ht)
  exact⟨Nat.zero_le _,trivial⟩
 unfold am
 rw[nk,if_neg (not_not_intro ⟨by omega,by omega⟩),if_neg (not_not_intro hn),if_neg (not_not_intro hc),if_neg (not_not_intro hd)]
def Bq:Boss:=cq 2 3 (aZ 299)
theorem H8:gP Bq ⟨ec 12⟩ = upB 2 3 (aZ 299) ⟨ec 12⟩ (aw ⟨ec 12⟩ (aZ 299)):=by
 obtain⟨h1,h2,h3⟩:=jz (p:=⟨ec 12⟩) rE 299 OM
 have hv:BossOk Bq ⟨ec 12⟩:=by
  refine⟨rE,⟨by show 1≤2;omega,by show 2≤8;omega⟩,⟨by show 0≤3;omega,by show 3≤1000000;omega⟩,?_,fun q=>(by cases q),fun _=>⟨rfl,rfl,rfl,rfl,rfl,rfl,rfl,rfl⟩⟩
  show(aw ⟨ec 12⟩ (aZ 299++ [])).code = 0
  rw[List.append_nil];exact h1
 rw[gZ hv]
 refine xf ⟨rfl,?_,?_⟩
 ·show(aZ 299).length < 310;rw[iZ];omega
 ·show(aw ⟨ec 12⟩ (aZ 299)).epoch < 300;rw[h2];omega
end Go.K
end
section
open Go Go.Tm Go.Proofs
namespace Go.K
structure BossTight (b:Boss):Prop where
 workers:0≤b.workers∧b.workers≤8
 now:0≤b.now∧b.now≤1000000
 epoch:0≤b.epoch∧b.epoch≤300
 safe:b.log.safe.length≤310
 loose:b.log.loose.length≤310
 all:∀ s∈b.log.safe++b.log.loose,s.size≤12
 res:b.results.length≤40
 jobs:b.jobs.length≤40
 seats:b.seats.length≤8
 owed:b.owed.length≤2000
theorem Da{b:Boss}{p:Plan}(h:BossOk b p):BossTight b:=by
 have hc:=h.code
 have hl:=(bR hc).2.1
 have hs:=vh hc
 have hp:=(bM h.plan).1
 have he:=eu hc
 rw[List.length_append]at hl
 have hw:=h.workers
 have hn:=h.now
 cases hb:b.up with
 |true =>
  obtain⟨u1,u2,u3,u4,u5,u6,u7,u8,u9,u10,u11,u12⟩:=h.up hb
  have he1:0≤(bU b p).epoch:=he.1
  have he2:(bU b p).epoch≤300:=he.2
  exact⟨by omega,hn,by omega,by omega,by omega,hs,by omega,by omega,by omega,by omega⟩
 |false =>
  obtain⟨d1,d2,d3,d4,d5,d6,d7,d8⟩:=h.down hb
  exact⟨by omega,hn,by omega,by omega,by omega,hs,by omega,by omega,by omega,by omega⟩
theorem gv{w:World}(h:wq w):BossTight w.boss:=by
 rcases h with h|rfl
 ·exact Da h.boss
 ·exact⟨by decide,by decide,by decide,Nat.zero_le _,Nat.zero_le _,fun s hs=>(by cases hs),Nat.zero_le _,Nat.zero_le _,Nat.zero_le _,Nat.zero_le _⟩
theorem kv{b:Boss}(h:BossTight b):BossLim b:=by
 obtain⟨_,_,_,h1,h2,h3,h4,h5,h6,h7⟩:=h
 exact⟨by omega,by omega,fun s q=>by have:=h3 s q;omega,by omega,by omega,by omega,by omega⟩
structure BossMid (b:Boss):Prop where
 safe:b.log.safe.length≤400
 loose:b.log.loose.length≤400
 all:∀ s∈b.log.safe++b.log.loose,s.size≤1000
 res:b.results.length≤100
 jobs:b.jobs.length≤100
 seats:b.seats.length≤100
 owed:b.owed.length≤4000
theorem NF{b:Boss}(h:BossMid b):BossLim b:=by
 obtain⟨h1,h2,h3,h4,h5,h6,h7⟩:=h
 exact⟨by omega,by omega,fun s q=>by have:=h3 s q;omega,by omega,by omega,by omega,by omega⟩
theorem iH{b:Boss}(h:BossTight b):BossMid b:=by
 obtain⟨_,_,_,h1,h2,h3,h4,h5,h6,h7⟩:=h
 exact⟨by omega,by omega,fun s q=>by have:=h3 s q;omega,by omega,by omega,by omega,by omega⟩
theorem Ik(l:List Int)(pos:Int)(b:Boss)(hb:BossTight b)(hl:eP l)(h0:0≤pos)(h1:pos≤990000):∃ res outs,(∃ (v:Boss) (pos2:Int),res = ay v∧outs = [rdC l pos2,[]]∧BossMid v∧pos≤pos2∧pos2≤pos+20)∧F iB [.ptr (rdC l pos),.val (ay b)] res outs:=by
 have cc:=oH b (kv hb)
 obtain⟨⟨b1,b2⟩,⟨b3,b4⟩,⟨b5,b6⟩,b7,b8,b9,b10,b11,b12,b13⟩:=hb
 have ej:(b.jobs.map aH).length = b.jobs.length:=List.length_map ..
 have er:(b.results.map aq).length = b.results.length:=List.length_map ..
 have m9:∀ s∈b.log.safe++b.log.loose,s.size≤1000:=fun s q=>by have:=b9 s q;omega
 refine uL ?_
 conv=>whnf
 refine g 0 0 []<|J ⟨UL,I,I⟩<|g 8 10 [.call (ay b) [[]]]<|J Zd7<|g 0 0 []<|J UA<|W.sq<|g 0 0 []<|J UA<|W.blk<|W.lp (fun s (x:Nat×Int)=>⟨[(0,s.s 0),(1,s.s 1),(3,s.s 3),(4,s.s 4),(5,s.s 5),(6,.i x.2),(7,.i x.1)],[(198,[s.c 198 0,s.c 198 1]),(199,[s.c 199 0,s.c 199 1,s.c 199 2,s.c 199 3,s.c 199 4,s.c 199 5,s.c 199 6,s.c 199 7,s.c 199 8,s.c 199 9,s.c 199 10,s.c 199 11]),(3,[s.c 3 0,s.c 3 1,s.c 3 2,s.c 3 3,s.c 3 4,s.c 3 5,s.c 3 6,s.c 3 7,s.c 3 8,s.c 3 9,s.c 3 10,s.c 3 11]),(4,[s.c 4 0,s.c 4 1,s.c 4 2,s.c 4 3,s.c 4 4,s.c 4 5,s.c 4 6,s.c 4 7,s.c 4 8,s.c 4 9,s.c 4 10,s.c 4 11]),(5,[s.c 5 0,s.c 5 1,s.c 5 2,s.c 5 3,s.c 5 4,s.c 5 5,s.c 5 6,s.c 5 7,s.c 5 8,s.c 5 9,s.c 5 10,s.c 5 11])],[]⟩) (fun(x:Nat×Int)=>x.1≤b.jobs.length∧ -1≤x.2∧x.2 < x.1) (fun(x:Nat×Int)=>b.jobs.length - x.1) ((0,-1)) [some 198,some 199,some 3,some 4,some 5] [] Zen OM ?_
 rintro⟨n,a⟩ ⟨hn,ha1,ha2⟩
 dsimp only at hn ha1 ha2
 by_cases hj:n < b.jobs.length
 ·obtain⟨j,hj1⟩:=ak hj
  by_cases hd:0 < j.lease
  ·conv=>whnf
   refine W.sq<|g 10 14 []<|J UE<|W.cn<|J (fun _=>(W.skip (W.sq (W.blk (g 14 23 [.n (Prod.fst (n,a)),.x (aH j)]<|J ⟨I,I,I,⟨rfl,OM⟩,I,xA,I,I⟩ (W.cn<|J (fun _=>(rg []<|J UB (rg [.i ((↑(Prod.fst (n,a)):Int) +1)]<|J Zdg ?_))) (noF tO))))))) (noF tO)
   refine⟨(n+1,(n:Int)),[some 198,some 199,some 3,some 4,some 5],[],Zen,?_,?_⟩
   rotate_left
   (dsimp only;omega)
   dsimp only
   omega
  ·conv=>whnf
   refine W.sq<|g 10 14 []<|J UE<|W.cn<|J (fun _=>(W.skip (W.sq (W.blk (g 14 23 [.n (Prod.fst (n,a)),.x (aH j)]<|J ⟨I,I,I,⟨rfl,OM⟩,I,xA,I,I⟩ (W.cn<|J (noT dO) fun _=>(W.skip (rg [.i ((↑(Prod.fst (n,a)):Int) +1)]<|J Zdg ?_)))))))) (noF tO)
   refine⟨(n+1,a),[some 198,some 199,some 3,some 4,some 5],[],Zen,?_,?_⟩
   rotate_left
   (dsimp only;omega)
   dsimp only
   omega
 have swt:∀ q:Int,True:=fun _=>trivial
 have g3:=av l pos 3
 by_cases hA:0≤a
 ·obtain⟨j,hj1⟩:=ak (xs:=b.jobs) (n:=a.toNat) OM
  by_cases hC:ac l pos 3 = 0
  ·have g2:=av l (pos+1) 2
   have g22:=av l (pos+1+1) 2
   by_cases hD:ac l (pos+1) 2 = 0
   ·conv=>whnf
    refine W.sq<|g 10 14 []<|J UE<|W.cn<|J (noT dO) fun _=>W.exit<|W.sq<|g 7 31 [BT,BT,.call (V.i (ac l pos 3)) ([rdC l (pos+1),[]]),BT,BT]<|J ⟨I,I,I,⟨tO,I⟩,⟨tO,UB,I,UV,UA,aa _ _ _ OM OM OM OM⟩,⟨tO,I⟩,tO,I⟩<|W.cn<|J (fun _=>(W.sq (g 31 34 [.call (V.i (ac l (pos+1) 2)) ([rdC l (pos+1+1),[]])]<|J ⟨I,⟨UB,I,UV,UA,aa _ _ _ OM OM OM OM⟩,I,I⟩ (W.cn<|J (fun _=>(rgd [[],[],[],[],[],[.i (b.now+12)],[],[.call (V.i (ac l (pos+1+1) 2)) ([rdC l (pos+1+1+1),[]])],[.i (b.now+12+ac l (pos+1+1) 2)],[.n (Int.toNat (Prod.snd (n,a)))],[],[.x (aH j)]] ?_)) (noF tO))))) (noF tO)
    conv=>whnf
    refine⟨⟨I,I,I,I,I,wO,I,⟨UB,I,UV,UA,aa _ _ _ OM OM OM OM⟩,wO,⟨OM,OM⟩,I,Zef,I⟩,by kernel_rfl,?_⟩
    refine g 6 60 []<|J Zdi<|W.ret<|EndsW.rt<|J UM ?_
    exact⟨⟨b.workers,b.up,b.now,b.since,b.epoch,b.given,⟨b.log.safe,b.log.loose⟩,b.results,b.jobs.set a.toNat ⟨j.lease,j.worker,b.now+12+ac l (pos+1+1) 2⟩,b.seats,b.owed⟩,_,(by simp only[ay,List.map_set,List.map_append];rfl),rfl,⟨by dsimp only;omega,by dsimp only;omega,m9,by dsimp only;omega,by dsimp only;(try rw[List.length_set]);omega,by dsimp only;omega,by dsimp only;omega⟩,by omega,by omega⟩
   ·have pr:=av l (pos+1+1) ((b.jobs.map aH).length:Int)
    have cr:=aa l (pos+1+1) ((b.jobs.map aH).length:Int) hl OM OM OM
    obtain⟨y,hy⟩:=ak (xs:=b.jobs) (n:=(ac l (pos+1+1) ((b.jobs.map aH).length:Int)).toNat) OM
    conv=>whnf
    refine W.sq<|g 10 14 []<|J UE<|W.cn<|J (noT dO) fun _=>W.exit<|W.sq<|g 7 31 [BT,BT,.call (V.i (ac l pos 3)) ([rdC l (pos+1),[]]),BT,BT]<|J ⟨I,I,I,⟨tO,I⟩,⟨tO,UB,I,UV,UA,aa _ _ _ OM OM OM OM⟩,⟨tO,I⟩,tO,I⟩<|W.cn<|J (fun _=>(W.sq (g 31 34 [.call (V.i (ac l (pos+1) 2)) ([rdC l (pos+1+1),[]])]<|J ⟨I,⟨UB,I,UV,UA,aa _ _ _ OM OM OM OM⟩,I,I⟩ (W.cn<|J (noT dO) fun _=>(rgd [[],[],[],[],[],[],[.call (V.i (ac l (pos+1+1) (↑(List.length (List.map aH b.jobs)):Int))) ([rdC l (pos+1+1+1),[]])],[],[],[],[.n (Int.toNat (Prod.snd (n,a)))],[.x (aH j)],[.n (Int.toNat (ac l (pos+1+1) (↑(List.length (List.map aH b.jobs)):Int)))],[.x (aH y)]] ?_))))) (noF tO)
    conv=>whnf
    refine⟨⟨I,I,I,I,I,I,Zcb,I,I,I,⟨OM,OM⟩,xA,⟨OM,OM⟩,⟨UC,xA⟩,I⟩,by kernel_rfl,?_⟩
    refine g 49 60 []<|J Zdi<|W.ret<|EndsW.rt<|J UM ?_
    exact⟨⟨b.workers,b.up,b.now,b.since,b.epoch,b.given,⟨b.log.safe,b.log.loose⟩,b.results,b.jobs.set (ac l (pos+1+1) ((b.jobs.map aH).length:Int)).toNat j,b.seats,b.owed⟩,_,(by simp only[ay,List.map_set,List.map_append];rfl),rfl,⟨by dsimp only;omega,by dsimp only;omega,m9,by dsimp only;omega,by dsimp only;(try rw[List.length_set]);omega,by dsimp only;omega,by dsimp only;omega⟩,by omega,by omega⟩
  ·skip
   have p12:=av l (pos+1) 12
   have p11:=av l (pos+1+1) 11
   have p4:=av l (pos+1+1) 4
   have p3:=av l (pos+1+1) 3
   have p2:=av l (pos+1+1+1) 2
   have p42:=av l (pos+1+1+1) 4
   have p43:=av l (pos+1+1+1+1) 4
   have p32:=av l (pos+1+1+1) 3
   have p15:=av l (pos+1+1+1+1) 15
   obtain⟨xe,hxe1,hxe2⟩:=fm [-1,1000000,999999,1000001] (ac l (pos+1+1) 4) p4.1 (by show _ < (4:Int);omega)
   have hxe3:([[T.i (-1)],[T.i 1000000],[T.i 999999],[T.i 1000001]]:List (List T))[(ac l (pos+1+1) 4).toNat]? = some [T.i xe]:=hxe2
   obtain⟨xg,hxg1,hxg2⟩:=fm [-1,0,1000000,1000001] (ac l (pos+1+1) 4) p4.1 (by show _ < (4:Int);omega)
   have hxg3:([[T.i (-1)],[T.i 0],[T.i 1000000],[T.i 1000001]]:List (List T))[(ac l (pos+1+1) 4).toNat]? = some [T.i xg]:=hxg2
   obtain⟨xs,hxs1,hxs2⟩:=fm [-1,300,301] (ac l (pos+1+1) 3) p3.1 (by show _ < (3:Int);omega)
   have hxs3:([[T.i (-1)],[T.i 300],[T.i 301]]:List (List T))[(ac l (pos+1+1) 3).toNat]? = some [T.i xs]:=hxs2
   obtain⟨xr,hxr1,hxr2⟩:=wE [emp,⟨#[49,50,51,52,53,54,55,56]⟩] (ac l (pos+1+1+1) 2) p2.1 (by show _ < (2:Int);omega)
   have hxr3:([[T.s emp],[T.s ⟨#[49,50,51,52,53,54,55,56]⟩]]:List (List T))[(ac l (pos+1+1+1) 2).toNat]? = some [T.s xr]:=hxr2
   by_cases k0:ac l (pos+1) 12 = 0
   ·conv=>whnf
    refine W.sq<|g 10 14 []<|J UE<|W.cn<|J (noT dO) fun _=>W.exit<|W.sq<|g 7 31 [BT,BT,.call (V.i (ac l pos 3)) ([rdC l (pos+1),[]]),BT,BT]<|J ⟨I,I,I,⟨tO,I⟩,⟨tO,UB,I,UV,UA,aa _ _ _ OM OM OM OM⟩,⟨tO,I⟩,tO,I⟩<|W.cn<|J (noT dO) fun _=>W.skip<|W.sq<|g 6 61 [.call (V.i (ac l (pos+1) 12)) ([rdC l (pos+1+1),[]])]<|J ⟨I,⟨UB,I,UV,UA,aa _ _ _ OM OM OM OM⟩,I⟩<|W.blk<|g 69 70 []<|J UB ?_
    refine W.cn<|J (fun _=>(rg [.call (V.i (ac l (pos+1+1) 11)) ([rdC l (pos+1+1+1),[]]),.i (ac l (pos+1+1) (11:Int) - 1)]<|J ⟨I,⟨UB,I,UV,UA,aa _ _ _ OM OM OM OM⟩,wO,I,UA,I⟩ (g 5 198 []<|J Zdi (W.ret (EndsW.rt<|J UM ?_))))) (noF tO)
    exact⟨⟨ac l (pos+1+1) 11 - 1,b.up,b.now,b.since,b.epoch,b.given,⟨b.log.safe,b.log.loose⟩,b.results,b.jobs,b.seats,b.owed⟩,_,rfl,rfl,⟨by dsimp only;omega,by dsimp only;omega,m9,by dsimp only;omega,by dsimp only;omega,by dsimp only;omega,by dsimp only;omega⟩,by omega,by omega⟩
   by_cases k1:ac l (pos+1) 12 = 1
   ·conv=>whnf
    refine W.sq<|g 10 14 []<|J UE<|W.cn<|J (noT dO) fun _=>W.exit<|W.sq<|g 7 31 [BT,BT,.call (V.i (ac l pos 3)) ([rdC l (pos+1),[]]),BT,BT]<|J ⟨I,I,I,⟨tO,I⟩,⟨tO,UB,I,UV,UA,aa _ _ _ OM OM OM OM⟩,⟨tO,I⟩,tO,I⟩<|W.cn<|J (noT dO) fun _=>W.skip<|W.sq<|g 6 61 [.call (V.i (ac l (pos+1) 12)) ([rdC l (pos+1+1),[]])]<|J ⟨I,⟨UB,I,UV,UA,aa _ _ _ OM OM OM OM⟩,I⟩<|W.blk<|g 69 70 []<|J UB ?_
    refine W.cn<|J (noT dO) fun _=>g 68 69 []<|J UB<|W.cn<|J (fun _=>(rg []<|J ⟨I,I,I,I,UA,I⟩ (g 5 198 []<|J Zdi (W.ret (EndsW.rt<|J UM ?_))))) (noF tO)
    exact⟨⟨b.workers,!b.up,b.now,b.since,b.epoch,b.given,⟨b.log.safe,b.log.loose⟩,b.results,b.jobs,b.seats,b.owed⟩,_,rfl,rfl,⟨by dsimp only;omega,by dsimp only;omega,m9,by dsimp only;omega,by dsimp only;omega,by dsimp only;omega,by dsimp only;omega⟩,by omega,by omega⟩
   by_cases k2:ac l (pos+1) 12 = 2
   ·conv=>whnf
    refine W.sq<|g 10 14 []<|J UE<|W.cn<|J (noT dO) fun _=>W.exit<|W.sq<|g 7 31 [BT,BT,.call (V.i (ac l pos 3)) ([rdC l (pos+1),[]]),BT,BT]<|J ⟨I,I,I,⟨tO,I⟩,⟨tO,UB,I,UV,UA,aa _ _ _ OM OM OM OM⟩,⟨tO,I⟩,tO,I⟩<|W.cn<|J (noT dO) fun _=>W.skip<|W.sq<|g 6 61 [.call (V.i (ac l (pos+1) 12)) ([rdC l (pos+1+1),[]])]<|J ⟨I,⟨UB,I,UV,UA,aa _ _ _ OM OM OM OM⟩,I⟩<|W.blk<|g 69 70 []<|J UB ?_
    refine W.cn<|J (noT dO) fun _=>g 68 69 []<|J UB<|W.cn<|J (noT dO) fun _=>g 74 76 []<|J UB<|W.cn<|J (fun _=>(rg [.call (V.i (ac l (pos+1+1) 4)) ([rdC l (pos+1+1+1),[]]),.n (Int.toNat (ac l (pos+1+1) 4)),.x ([T.i xe])]<|J ⟨Zc1,I,⟨UB,I,UV,UA,aa _ _ _ OM OM OM OM⟩,Zdq,AS,I,UA,I⟩ (g 5 198 []<|J Zdi (W.ret (EndsW.rt<|J UM ?_))))) (noF tO)
    exact⟨⟨b.workers,b.up,xe,b.since,b.epoch,b.given,⟨b.log.safe,b.log.loose⟩,b.results,b.jobs,b.seats,b.owed⟩,_,rfl,rfl,⟨by dsimp only;omega,by dsimp only;omega,m9,by dsimp only;omega,by dsimp only;omega,by dsimp only;omega,by dsimp only;omega⟩,by omega,by omega⟩
   by_cases k3:ac l (pos+1) 12 = 3
   ·conv=>whnf
    refine W.sq<|g 10 14 []<|J UE<|W.cn<|J (noT dO) fun _=>W.exit<|W.sq<|g 7 31 [BT,BT,.call (V.i (ac l pos 3)) ([rdC l (pos+1),[]]),BT,BT]<|J ⟨I,I,I,⟨tO,I⟩,⟨tO,UB,I,UV,UA,aa _ _ _ OM OM OM OM⟩,⟨tO,I⟩,tO,I⟩<|W.cn<|J (noT dO) fun _=>W.skip<|W.sq<|g 6 61 [.call (V.i (ac l (pos+1) 12)) ([rdC l (pos+1+1),[]])]<|J ⟨I,⟨UB,I,UV,UA,aa _ _ _ OM OM OM OM⟩,I⟩<|W.blk<|g 69 70 []<|J UB ?_
    refine W.cn<|J (noT dO) fun _=>g 68 69 []<|J UB<|W.cn<|J (noT dO) fun _=>g 74 76 []<|J UB<|W.cn<|J (noT dO) fun _=>g 80 82 []<|J UB<|W.cn<|J (fun _=>(rg [.call (V.i (ac l (pos+1+1) 4)) ([rdC l (pos+1+1+1),[]]),.i (ac l (pos+1+1) (4:Int) - 1)]<|J ⟨I,⟨UB,I,UV,UA,aa _ _ _ OM OM OM OM⟩,wO,I,UA,I⟩ (g 5 198 []<|J Zdi (W.ret (EndsW.rt<|J UM ?_))))) (noF tO)
    exact⟨⟨b.workers,b.up,b.now,ac l (pos+1+1) 4 - 1,b.epoch,b.given,⟨b.log.safe,b.log.loose⟩,b.results,b.jobs,b.seats,b.owed⟩,_,rfl,rfl,⟨by dsimp only;omega,by dsimp only;omega,m9,by dsimp only;omega,by dsimp only;omega,by dsimp only;omega,by dsimp only;omega⟩,by omega,by omega⟩
   by_cases k4:ac l (pos+1) 12 = 4
   ·conv=>whnf
    refine W.sq<|g 10 14 []<|J UE<|W.cn<|J (noT dO) fun _=>W.exit<|W.sq<|g 7 31 [BT,BT,.call (V.i (ac l pos 3)) ([rdC l (pos+1),[]]),BT,BT]<|J ⟨I,I,I,⟨tO,I⟩,⟨tO,UB,I,UV,UA,aa _ _ _ OM OM OM OM⟩,⟨tO,I⟩,tO,I⟩<|W.cn<|J (noT dO) fun _=>W.skip<|W.sq<|g 6 61 [.call (V.i (ac l (pos+1) 12)) ([rdC l (pos+1+1),[]])]<|J ⟨I,⟨UB,I,UV,UA,aa _ _ _ OM OM OM OM⟩,I⟩<|W.blk<|g 69 70 []<|J UB ?_
    refine W.cn<|J (noT dO) fun _=>g 68 69 []<|J UB<|W.cn<|J (noT dO) fun _=>g 74 76 []<|J UB<|W.cn<|J (noT dO) fun _=>g 80 82 []<|J UB<|W.cn<|J (noT dO) fun _=>g 88 90 []<|J UB<|W.cn<|J (fun _=>(rg [.i (b.epoch+1)]<|J Zbb (g 5 198 []<|J Zdi (W.ret ?_)))) (noF tO)
    refine EndsW.rt<|J UM ?_
    exact⟨⟨b.workers,b.up,b.now,b.since,b.epoch+1,b.given,⟨b.log.safe,b.log.loose⟩,b.results,b.jobs,b.seats,b.owed⟩,_,rfl,rfl,⟨by dsimp only;omega,by dsimp only;omega,m9,by dsimp only;omega,by dsimp only;omega,by dsimp only;omega,by dsimp only;omega⟩,by omega,by omega⟩
   by_cases k5:ac l (pos+1) 12 = 5
   ·conv=>whnf
    refine W.sq<|g 10 14 []<|J UE<|W.cn<|J (noT dO) fun _=>W.exit<|W.sq<|g 7 31 [BT,BT,.call (V.i (ac l pos 3)) ([rdC l (pos+1),[]]),BT,BT]<|J ⟨I,I,I,⟨tO,I⟩,⟨tO,UB,I,UV,UA,aa _ _ _ OM OM OM OM⟩,⟨tO,I⟩,tO,I⟩<|W.cn<|J (noT dO) fun _=>W.skip<|W.sq<|g 6 61 [.call (V.i (ac l (pos+1) 12)) ([rdC l (pos+1+1),[]])]<|J ⟨I,⟨UB,I,UV,UA,aa _ _ _ OM OM OM OM⟩,I⟩<|W.blk<|g 69 70 []<|J UB ?_
    refine W.cn<|J (noT dO) fun _=>g 68 69 []<|J UB<|W.cn<|J (noT dO) fun _=>g 74 76 []<|J UB<|W.cn<|J (noT dO) fun _=>g 80 82 []<|J UB<|W.cn<|J (noT dO) fun _=>g 88 90 []<|J UB<|W.cn<|J (noT dO) fun _=>g 94 96 []<|J UB<|W.cn<|J (fun _=>(rg [.call (V.i (ac l (pos+1+1) 4)) ([rdC l (pos+1+1+1),[]]),.n (Int.toNat (ac l (pos+1+1) 4)),.x ([T.i xg])]<|J ⟨Zc1,I,⟨UB,I,UV,UA,aa _ _ _ OM OM OM OM⟩,Zdq,AS,I,UA,I⟩ ?_)) (noF tO)
    refine g 5 198 []<|J Zdi<|W.ret<|EndsW.rt<|J UM ?_
    exact⟨⟨b.workers,b.up,b.now,b.since,b.epoch,xg,⟨b.log.safe,b.log.loose⟩,b.results,b.jobs,b.seats,b.owed⟩,_,rfl,rfl,⟨by dsimp only;omega,by dsimp only;omega,m9,by dsimp only;omega,by dsimp only;omega,by dsimp only;omega,by dsimp only;omega⟩,by omega,by omega⟩
   by_cases k6:ac l (pos+1) 12 = 6
   ·by_cases hr:0 < b.results.length
    ·have pr:=av l (pos+1+1) ((b.results.map aq).length:Int)
     have cr:=aa l (pos+1+1) ((b.results.map aq).length:Int) hl OM OM OM
     obtain⟨y,hy⟩:=ak (xs:=b.results) (n:=(ac l (pos+1+1) ((b.results.map aq).length:Int)).toNat) OM
     conv=>whnf
     refine W.sq<|g 10 14 []<|J UE<|W.cn<|J (noT dO) fun _=>W.exit<|W.sq<|g 7 31 [BT,BT,.call (V.i (ac l pos 3)) ([rdC l (pos+1),[]]),BT,BT]<|J ⟨I,I,I,⟨tO,I⟩,⟨tO,UB,I,UV,UA,aa _ _ _ OM OM OM OM⟩,⟨tO,I⟩,tO,I⟩<|W.cn<|J (noT dO) fun _=>W.skip<|W.sq<|g 6 61 [.call (V.i (ac l (pos+1) 12)) ([rdC l (pos+1+1),[]])]<|J ⟨I,⟨UB,I,UV,UA,aa _ _ _ OM OM OM OM⟩,I⟩<|W.blk<|g 69 70 []<|J UB ?_
     refine W.cn<|J (noT dO) fun _=>g 68 69 []<|J UB<|W.cn<|J (noT dO) fun _=>g 74 76 []<|J UB<|W.cn<|J (noT dO) fun _=>g 80 82 []<|J UB<|W.cn<|J (noT dO) fun _=>g 88 90 []<|J UB<|W.cn<|J (noT dO) fun _=>g 94 96 []<|J UB<|W.cn<|J (noT dO) fun _=>g 100 102 []<|J UB ?_
     refine W.cn<|J (fun _=>(g 61 113 []<|J UD (W.cn<|J (fun _=>(rgd [[],[],[],[],[],[],[.call (V.i (ac l (pos+1+1) (↑(List.length (List.map aq b.results)):Int))) ([rdC l (pos+1+1+1),[]])],[],[],[.call (V.i (ac l (pos+1+1+1) 2)) ([rdC l (pos+1+1+1+1),[]])],[.n (Int.toNat (ac l (pos+1+1+1) 2))],[.x ([T.s xr])],[.n (Int.toNat (ac l (pos+1+1) (↑(List.length (List.map aq b.results)):Int)))],[.x (aq y)]] ?_)) (noF tO)))) (noF tO)
     conv=>whnf
     refine⟨⟨I,I,I,I,I,I,Zcb,UT,I,⟨UB,I,UV,UA,aa _ _ _ OM OM OM OM⟩,Zdq,AS,⟨OM,OM⟩,Zef,I⟩,by kernel_rfl,?_⟩
     refine g 5 198 []<|J Zdi<|W.ret<|EndsW.rt<|J UM ?_
     exact⟨⟨b.workers,b.up,b.now,b.since,b.epoch,b.given,⟨b.log.safe,b.log.loose⟩,b.results.set (ac l (pos+1+1) ((b.results.map aq).length:Int)).toNat xr,b.jobs,b.seats,b.owed⟩,_,(by simp only[ay,List.map_set,List.map_append];rfl),rfl,⟨by dsimp only;omega,by dsimp only;omega,m9,by dsimp only;(try rw[List.length_set]);omega,by dsimp only;(try rw[List.length_set]);omega,by dsimp only;(try rw[List.length_set]);omega,by dsimp only;omega⟩,by omega,by omega⟩
    ·conv=>whnf
     refine W.sq<|g 10 14 []<|J UE<|W.cn<|J (noT dO) fun _=>W.exit<|W.sq<|g 7 31 [BT,BT,.call (V.i (ac l pos 3)) ([rdC l (pos+1),[]]),BT,BT]<|J ⟨I,I,I,⟨tO,I⟩,⟨tO,UB,I,UV,UA,aa _ _ _ OM OM OM OM⟩,⟨tO,I⟩,tO,I⟩<|W.cn<|J (noT dO) fun _=>W.skip<|W.sq<|g 6 61 [.call (V.i (ac l (pos+1) 12)) ([rdC l (pos+1+1),[]])]<|J ⟨I,⟨UB,I,UV,UA,aa _ _ _ OM OM OM OM⟩,I⟩<|W.blk<|g 69 70 []<|J UB ?_
     refine W.cn<|J (noT dO) fun _=>g 68 69 []<|J UB<|W.cn<|J (noT dO) fun _=>g 74 76 []<|J UB<|W.cn<|J (noT dO) fun _=>g 80 82 []<|J UB<|W.cn<|J (noT dO) fun _=>g 88 90 []<|J UB<|W.cn<|J (noT dO) fun _=>g 94 96 []<|J UB<|W.cn<|J (noT dO) fun _=>g 100 102 []<|J UB ?_
     refine W.cn<|J (fun _=>(g 61 113 []<|J UD (W.cn<|J (noT dO) fun _=>(W.skip (g 0 4 []<|J Zdi (W.ret (EndsW.rt<|J UM ?_))))))) (noF tO)
     exact⟨b,_,rfl,rfl,⟨by omega,by omega,m9,by omega,by omega,by omega,by omega⟩,by omega,by omega⟩
   by_cases k7:ac l (pos+1) 12 = 7
   ·by_cases hr:0 < b.jobs.length
    ·have pr:=av l (pos+1+1) ((b.jobs.map aH).length:Int)
     have cr:=aa l (pos+1+1) ((b.jobs.map aH).length:Int) hl OM OM OM
     obtain⟨y,hy⟩:=ak (xs:=b.jobs) (n:=(ac l (pos+1+1) ((b.jobs.map aH).length:Int)).toNat) OM
     have p44:=av l (pos+1+1+1+1) 4
     have p45:=av l (pos+1+1+1+1+1) 15
     conv=>whnf
     refine W.sq<|g 10 14 []<|J UE<|W.cn<|J (noT dO) fun _=>W.exit<|W.sq<|g 7 31 [BT,BT,.call (V.i (ac l pos 3)) ([rdC l (pos+1),[]]),BT,BT]<|J ⟨I,I,I,⟨tO,I⟩,⟨tO,UB,I,UV,UA,aa _ _ _ OM OM OM OM⟩,⟨tO,I⟩,tO,I⟩<|W.cn<|J (noT dO) fun _=>W.skip<|W.sq<|g 6 61 [.call (V.i (ac l (pos+1) 12)) ([rdC l (pos+1+1),[]])]<|J ⟨I,⟨UB,I,UV,UA,aa _ _ _ OM OM OM OM⟩,I⟩<|W.blk<|g 69 70 []<|J UB ?_
     refine W.cn<|J (noT dO) fun _=>g 68 69 []<|J UB<|W.cn<|J (noT dO) fun _=>g 74 76 []<|J UB<|W.cn<|J (noT dO) fun _=>g 80 82 []<|J UB<|W.cn<|J (noT dO) fun _=>g 88 90 []<|J UB<|W.cn<|J (noT dO) fun _=>g 94 96 []<|J UB<|W.cn<|J (noT dO) fun _=>g 100 102 []<|J UB ?_
     refine W.cn<|J (noT dO) fun _=>g 108 110 []<|J UB<|W.cn<|J (fun _=>(g 61 132 []<|J UD (W.cn<|J (fun _=>(rgd [[],[],[],[],[],[],[.call (V.i (ac l (pos+1+1) (↑(List.length (List.map aH b.jobs)):Int))) ([rdC l (pos+1+1+1),[]])],[],[],[.i (b.epoch - 1)],[.i ((b.epoch - 1) * 1000000)],[],[.call (V.i (ac l (pos+1+1+1) 4)) ([rdC l (pos+1+1+1+1),[]])],[.i ((b.epoch - 1) * 1000000+ac l (pos+1+1+1) 4)],[],[.call (V.i (ac l (pos+1+1+1+1) 4)) ([rdC l (pos+1+1+1+1+1),[]])],[],[],[],[.call (V.i (ac l (pos+1+1+1+1+1) 15)) ([rdC l (pos+1+1+1+1+1+1),[]])],[.i (b.now+ac l (pos+1+1+1+1+1) 15)],[],[.n (Int.toNat (ac l (pos+1+1) (↑(List.length (List.map aH b.jobs)):Int)))],[.x (aH y)]] ?_)) (noF tO)))) (noF tO)
     conv=>whnf
     refine⟨⟨I,I,I,I,I,I,Zcb,I,I,wO,wO,I,⟨UB,I,UV,UA,aa _ _ _ OM OM OM OM⟩,wO,I,⟨UB,I,UV,UA,aa _ _ _ OM OM OM OM⟩,I,I,I,⟨UB,I,UV,UA,aa _ _ _ OM OM OM OM⟩,wO,I,⟨OM,OM⟩,⟨UC,xA⟩,I⟩,by kernel_rfl,?_⟩
     refine g 5 198 []<|J Zdi<|W.ret<|EndsW.rt<|J UM ?_
     exact⟨⟨b.workers,b.up,b.now,b.since,b.epoch,b.given,⟨b.log.safe,b.log.loose⟩,b.results,b.jobs.set (ac l (pos+1+1) ((b.jobs.map aH).length:Int)).toNat ⟨(b.epoch - 1) * 1000000+ac l (pos+1+1+1) 4,ac l (pos+1+1+1+1) 4,b.now+ac l (pos+1+1+1+1+1) 15⟩,b.seats,b.owed⟩,_,(by simp only[ay,List.map_set,List.map_append];rfl),rfl,⟨by dsimp only;omega,by dsimp only;omega,m9,by dsimp only;(try rw[List.length_set]);omega,by dsimp only;(try rw[List.length_set]);omega,by dsimp only;(try rw[List.length_set]);omega,by dsimp only;omega⟩,by omega,by omega⟩
    ·exfalso;omega
   by_cases k8:ac l (pos+1) 12 = 8
   ·have p44:=av l (pos+1+1) 4
    have p45:=av l (pos+1+1+1) 3
    have p46:=av l (pos+1+1+1+1) 4
    conv=>whnf
    refine W.sq<|g 10 14 []<|J UE<|W.cn<|J (noT dO) fun _=>W.exit<|W.sq<|g 7 31 [BT,BT,.call (V.i (ac l pos 3)) ([rdC l (pos+1),[]]),BT,BT]<|J ⟨I,I,I,⟨tO,I⟩,⟨tO,UB,I,UV,UA,aa _ _ _ OM OM OM OM⟩,⟨tO,I⟩,tO,I⟩<|W.cn<|J (noT dO) fun _=>W.skip<|W.sq<|g 6 61 [.call (V.i (ac l (pos+1) 12)) ([rdC l (pos+1+1),[]])]<|J ⟨I,⟨UB,I,UV,UA,aa _ _ _ OM OM OM OM⟩,I⟩<|W.blk<|g 69 70 []<|J UB ?_
    refine W.cn<|J (noT dO) fun _=>g 68 69 []<|J UB<|W.cn<|J (noT dO) fun _=>g 74 76 []<|J UB<|W.cn<|J (noT dO) fun _=>g 80 82 []<|J UB<|W.cn<|J (noT dO) fun _=>g 88 90 []<|J UB<|W.cn<|J (noT dO) fun _=>g 94 96 []<|J UB<|W.cn<|J (noT dO) fun _=>g 100 102 []<|J UB ?_
    refine W.cn<|J (noT dO) fun _=>g 108 110 []<|J UB<|W.cn<|J (noT dO) fun _=>g 127 129 []<|J UB<|W.cn<|J (fun _=>(rgd [[],[],[],[.call (V.i (ac l (pos+1+1) 4)) ([rdC l (pos+1+1+1),[]])],[],[.call (V.i (ac l (pos+1+1+1) 3)) ([rdC l (pos+1+1+1+1),[]])],[],[.call (V.i (ac l (pos+1+1+1+1) 4)) ([rdC l (pos+1+1+1+1+1),[]])],[],[],[],[],[]] ?_)) (noF tO)
    conv=>whnf
    refine⟨⟨I,I,I,⟨UB,I,UV,UA,aa _ _ _ OM OM OM OM⟩,I,⟨UB,I,UV,UA,aa _ _ _ OM OM OM OM⟩,I,⟨UB,I,UV,UA,aa _ _ _ OM OM OM OM⟩,I,⟨UC,I⟩,Zdh,I,UA,I⟩,by kernel_rfl,?_⟩
    refine g 5 198 []<|J Zdi<|W.ret<|EndsW.rt<|J UM ?_
    exact⟨⟨b.workers,b.up,b.now,b.since,b.epoch,b.given,⟨b.log.safe,b.log.loose⟩,b.results,b.jobs,b.seats,b.owed++ [⟨ac l (pos+1+1) 4,ac l (pos+1+1+1) 3,ac l (pos+1+1+1+1) 4⟩]⟩,_,(by simp only[ay,List.map_set,List.map_append];rfl),rfl,⟨by dsimp only;omega,by dsimp only;omega,m9,by dsimp only;omega,by dsimp only;omega,by dsimp only;omega,by simp only[List.length_append,List.length_singleton];omega⟩,by omega,by omega⟩
   by_cases k9:ac l (pos+1) 12 = 9
   ·have ce:=oN l (pos+1+1) hl OM OM
    obtain⟨e1,e2,e3,e4⟩:=DD l (pos+1+1)
    have hfs:=gw (eX l (pos+1+1)).1
    generalize(eX l (pos+1+1)).1 = e at ce e1 e2 hfs
    generalize(eX l (pos+1+1)).2 = u at ce e3 e4
    have cf:=cK e.kind e.epoch e.task e.text OM
    change F _ _ (.s (bB e)) _ at cf
    conv=>whnf
    refine W.sq<|g 10 14 []<|J UE<|W.cn<|J (noT dO) fun _=>W.exit<|W.sq<|g 7 31 [BT,BT,.call (V.i (ac l pos 3)) ([rdC l (pos+1),[]]),BT,BT]<|J ⟨I,I,I,⟨tO,I⟩,⟨tO,UB,I,UV,UA,aa _ _ _ OM OM OM OM⟩,⟨tO,I⟩,tO,I⟩<|W.cn<|J (noT dO) fun _=>W.skip<|W.sq<|g 6 61 [.call (V.i (ac l (pos+1) 12)) ([rdC l (pos+1+1),[]])]<|J ⟨I,⟨UB,I,UV,UA,aa _ _ _ OM OM OM OM⟩,I⟩<|W.blk<|g 69 70 []<|J UB ?_
    refine W.cn<|J (noT dO) fun _=>g 68 69 []<|J UB<|W.cn<|J (noT dO) fun _=>g 74 76 []<|J UB<|W.cn<|J (noT dO) fun _=>g 80 82 []<|J UB<|W.cn<|J (noT dO) fun _=>g 88 90 []<|J UB<|W.cn<|J (noT dO) fun _=>g 94 96 []<|J UB<|W.cn<|J (noT dO) fun _=>g 100 102 []<|J UB ?_
    refine W.cn<|J (noT dO) fun _=>g 108 110 []<|J UB<|W.cn<|J (noT dO) fun _=>g 127 129 []<|J UB<|W.cn<|J (noT dO) fun _=>g 156 158 []<|J UB<|W.cn<|J (fun _=>(rgd [[],[],[],[],[.call (kX e.kind e.epoch e.task e.text) ([rdC l u])],[.call (V.s (bB e)) [[]]],[],[],[],[],[]] ?_)) (noF tO)
    conv=>whnf
    refine⟨⟨I,I,I,I,Zb2,Zct,US,Zdh,I,I,UA,I⟩,by kernel_rfl,?_⟩
    refine g 5 198 []<|J Zdi<|W.ret<|EndsW.rt<|J UM ?_
    exact⟨⟨b.workers,b.up,b.now,b.since,b.epoch,b.given,⟨b.log.safe,b.log.loose++ [bB e]⟩,b.results,b.jobs,b.seats,b.owed⟩,_,(by simp only[ay,List.map_set,List.map_append];rfl),rfl,⟨by dsimp only;omega,by simp only[List.length_append,List.length_singleton];omega,fun s q=>by rcases List.mem_append.1 q with q|q;exact m9 s (List.mem_append_left _ q);rcases List.mem_append.1 q with q|q;exact m9 s (List.mem_append_right _ q);rw[List.mem_singleton.1 q];omega,by dsimp only;omega,by dsimp only;omega,by dsimp only;omega,by dsimp only;omega⟩,by omega,by omega⟩
   by_cases k10:ac l (pos+1) 12 = 10
   ·by_cases hr:0 < b.seats.length
    ·obtain⟨y,hy⟩:=ak (xs:=b.seats) (n:=0) OM
     conv=>whnf
     refine W.sq<|g 10 14 []<|J UE<|W.cn<|J (noT dO) fun _=>W.exit<|W.sq<|g 7 31 [BT,BT,.call (V.i (ac l pos 3)) ([rdC l (pos+1),[]]),BT,BT]<|J ⟨I,I,I,⟨tO,I⟩,⟨tO,UB,I,UV,UA,aa _ _ _ OM OM OM OM⟩,⟨tO,I⟩,tO,I⟩<|W.cn<|J (noT dO) fun _=>W.skip<|W.sq<|g 6 61 [.call (V.i (ac l (pos+1) 12)) ([rdC l (pos+1+1),[]])]<|J ⟨I,⟨UB,I,UV,UA,aa _ _ _ OM OM OM OM⟩,I⟩<|W.blk<|g 69 70 []<|J UB ?_
     refine W.cn<|J (noT dO) fun _=>g 68 69 []<|J UB<|W.cn<|J (noT dO) fun _=>g 74 76 []<|J UB<|W.cn<|J (noT dO) fun _=>g 80 82 []<|J UB<|W.cn<|J (noT dO) fun _=>g 88 90 []<|J UB<|W.cn<|J (noT dO) fun _=>g 94 96 []<|J UB<|W.cn<|J (noT dO) fun _=>g 100 102 []<|J UB ?_
     refine W.cn<|J (noT dO) fun _=>g 108 110 []<|J UB<|W.cn<|J (noT dO) fun _=>g 127 129 []<|J UB<|W.cn<|J (noT dO) fun _=>g 156 158 []<|J UB<|W.cn<|J (noT dO) fun _=>g 61 172 []<|J UB<|W.cn<|J (fun _=>(g 182 187 []<|J UD (W.cn<|J (fun _=>(rgd [[],[],[],[],[.call (V.i (ac l (pos+1+1) 3)) ([rdC l (pos+1+1+1),[]])],[.n (Int.toNat (ac l (pos+1+1) 3))],[.x ([T.i xs])],[.n (0)],[],[.x (aI y)]] ?_)) (noF SI)))) (noF tO)
     conv=>whnf
     refine⟨⟨I,I,UU,I,⟨UB,I,UV,UA,aa _ _ _ OM OM OM OM⟩,Zdq,AS,Zdj,I,Zef,I⟩,by kernel_rfl,?_⟩
     refine g 5 198 []<|J Zdi<|W.ret<|EndsW.rt<|J UM ?_
     exact⟨⟨b.workers,b.up,b.now,b.since,b.epoch,b.given,⟨b.log.safe,b.log.loose⟩,b.results,b.jobs,b.seats.set 0 ⟨y.free,xs⟩,b.owed⟩,_,(by simp only[ay,List.map_set,List.map_append];rfl),rfl,⟨by dsimp only;omega,by dsimp only;omega,m9,by dsimp only;(try rw[List.length_set]);omega,by dsimp only;(try rw[List.length_set]);omega,by dsimp only;(try rw[List.length_set]);omega,by dsimp only;omega⟩,by omega,by omega⟩
    ·conv=>whnf
     refine W.sq<|g 10 14 []<|J UE<|W.cn<|J (noT dO) fun _=>W.exit<|W.sq<|g 7 31 [BT,BT,.call (V.i (ac l pos 3)) ([rdC l (pos+1),[]]),BT,BT]<|J ⟨I,I,I,⟨tO,I⟩,⟨tO,UB,I,UV,UA,aa _ _ _ OM OM OM OM⟩,⟨tO,I⟩,tO,I⟩<|W.cn<|J (noT dO) fun _=>W.skip<|W.sq<|g 6 61 [.call (V.i (ac l (pos+1) 12)) ([rdC l (pos+1+1),[]])]<|J ⟨I,⟨UB,I,UV,UA,aa _ _ _ OM OM OM OM⟩,I⟩<|W.blk<|g 69 70 []<|J UB ?_
     refine W.cn<|J (noT dO) fun _=>g 68 69 []<|J UB<|W.cn<|J (noT dO) fun _=>g 74 76 []<|J UB<|W.cn<|J (noT dO) fun _=>g 80 82 []<|J UB<|W.cn<|J (noT dO) fun _=>g 88 90 []<|J UB<|W.cn<|J (noT dO) fun _=>g 94 96 []<|J UB<|W.cn<|J (noT dO) fun _=>g 100 102 []<|J UB ?_
     refine W.cn<|J (noT dO) fun _=>g 108 110 []<|J UB<|W.cn<|J (noT dO) fun _=>g 127 129 []<|J UB<|W.cn<|J (noT dO) fun _=>g 156 158 []<|J UB<|W.cn<|J (noT dO) fun _=>g 61 172 []<|J UB<|W.cn<|J (fun _=>(g 182 187 []<|J UD (W.cn<|J (noT SI) fun _=>(W.skip ?_)))) (noF tO)
     refine g 0 4 []<|J Zdi<|W.ret<|EndsW.rt<|J UM ?_
     exact⟨b,_,rfl,rfl,⟨by omega,by omega,m9,by omega,by omega,by omega,by omega⟩,by omega,by omega⟩
   ·conv=>whnf
    refine W.sq<|g 10 14 []<|J UE<|W.cn<|J (noT dO) fun _=>W.exit<|W.sq<|g 7 31 [BT,BT,.call (V.i (ac l pos 3)) ([rdC l (pos+1),[]]),BT,BT]<|J ⟨I,I,I,⟨tO,I⟩,⟨tO,UB,I,UV,UA,aa _ _ _ OM OM OM OM⟩,⟨tO,I⟩,tO,I⟩<|W.cn<|J (noT dO) fun _=>W.skip<|W.sq<|g 6 61 [.call (V.i (ac l (pos+1) 12)) ([rdC l (pos+1+1),[]])]<|J ⟨I,⟨UB,I,UV,UA,aa _ _ _ OM OM OM OM⟩,I⟩<|W.blk<|g 69 70 []<|J UB ?_
    refine W.cn<|J (noT dO) fun _=>g 68 69 []<|J UB<|W.cn<|J (noT dO) fun _=>g 74 76 []<|J UB<|W.cn<|J (noT dO) fun _=>g 80 82 []<|J UB<|W.cn<|J (noT dO) fun _=>g 88 90 []<|J UB<|W.cn<|J (noT dO) fun _=>g 94 96 []<|J UB<|W.cn<|J (noT dO) fun _=>g 100 102 []<|J UB ?_
    refine W.cn<|J (noT dO) fun _=>g 108 110 []<|J UB<|W.cn<|J (noT dO) fun _=>g 127 129 []<|J UB<|W.cn<|J (noT dO) fun _=>g 156 158 []<|J UB<|W.cn<|J (noT dO) fun _=>g 61 172 []<|J UB<|W.cn<|J (noT dO) fun _=>rg []<|J ⟨I,I,I,⟨UB,I⟩,Zdh,I,UA,I⟩<|g 5 198 []<|J Zdi<|W.ret ?_
    refine EndsW.rt<|J UM ?_
    exact⟨⟨b.workers,b.up,b.now,b.since,b.epoch,b.given,⟨b.log.safe,b.log.loose⟩,b.results,b.jobs,b.seats++ [⟨false,0⟩],b.owed⟩,_,(by simp only[ay,List.map_set,List.map_append];rfl),rfl,⟨by dsimp only;omega,by dsimp only;omega,m9,by dsimp only;omega,by dsimp only;omega,by simp only[List.length_append,List.length_singleton];omega,by dsimp only;omega⟩,by omega,by omega⟩
 ·skip
  have p12:=av l (pos) 12
  have p11:=av l (pos+1) 11
  have p4:=av l (pos+1) 4
  have p3:=av l (pos+1) 3
  have p2:=av l (pos+1+1) 2
  have p42:=av l (pos+1+1) 4
  have p43:=av l (pos+1+1+1) 4
  have p32:=av l (pos+1+1) 3
  have p15:=av l (pos+1+1+1) 15
  obtain⟨xe,hxe1,hxe2⟩:=fm [-1,1000000,999999,1000001] (ac l (pos+1) 4) p4.1 (by show _ < (4:Int);omega)
  have hxe3:([[T.i (-1)],[T.i 1000000],[T.i 999999],[T.i 1000001]]:List (List T))[(ac l (pos+1) 4).toNat]? = some [T.i xe]:=hxe2
  obtain⟨xg,hxg1,hxg2⟩:=fm [-1,0,1000000,1000001] (ac l (pos+1) 4) p4.1 (by show _ < (4:Int);omega)
  have hxg3:([[T.i (-1)],[T.i 0],[T.i 1000000],[T.i 1000001]]:List (List T))[(ac l (pos+1) 4).toNat]? = some [T.i xg]:=hxg2
  obtain⟨xs,hxs1,hxs2⟩:=fm [-1,300,301] (ac l (pos+1) 3) p3.1 (by show _ < (3:Int);omega)
  have hxs3:([[T.i (-1)],[T.i 300],[T.i 301]]:List (List T))[(ac l (pos+1) 3).toNat]? = some [T.i xs]:=hxs2
  obtain⟨xr,hxr1,hxr2⟩:=wE [emp,⟨#[49,50,51,52,53,54,55,56]⟩] (ac l (pos+1+1) 2) p2.1 (by show _ < (2:Int);omega)
  have hxr3:([[T.s emp],[T.s ⟨#[49,50,51,52,53,54,55,56]⟩]]:List (List T))[(ac l (pos+1+1) 2).toNat]? = some [T.s xr]:=hxr2
  by_cases k0:ac l (pos) 12 = 0
  ·conv=>whnf
   refine W.sq<|g 10 14 []<|J UE<|W.cn<|J (noT dO) fun _=>W.exit<|W.sq<|g 7 31 [BF,BF,BF,BF]<|J Zb0<|W.cn<|J (noT rfl) fun _=>W.skip<|W.sq<|g 6 61 [.call (V.i (ac l pos 12)) ([rdC l (pos+1),[]])]<|J ⟨I,⟨UB,I,UV,UA,aa _ _ _ OM OM OM OM⟩,I⟩<|W.blk<|g 69 70 []<|J UB ?_
   refine W.cn<|J (fun _=>(rg [.call (V.i (ac l (pos+1) 11)) ([rdC l (pos+1+1),[]]),.i (ac l (pos+1) (11:Int) - 1)]<|J ⟨I,⟨UB,I,UV,UA,aa _ _ _ OM OM OM OM⟩,wO,I,UA,I⟩ (g 5 198 []<|J Zdi (W.ret (EndsW.rt<|J UM ?_))))) (noF tO)
   exact⟨⟨ac l (pos+1) 11 - 1,b.up,b.now,b.since,b.epoch,b.given,⟨b.log.safe,b.log.loose⟩,b.results,b.jobs,b.seats,b.owed⟩,_,rfl,rfl,⟨by dsimp only;omega,by dsimp only;omega,m9,by dsimp only;omega,by dsimp only;omega,by dsimp only;omega,by dsimp only;omega⟩,by omega,by omega⟩
  by_cases k1:ac l (pos) 12 = 1
  ·conv=>whnf
   refine W.sq<|g 10 14 []<|J UE<|W.cn<|J (noT dO) fun _=>W.exit<|W.sq<|g 7 31 [BF,BF,BF,BF]<|J Zb0<|W.cn<|J (noT rfl) fun _=>W.skip<|W.sq<|g 6 61 [.call (V.i (ac l pos 12)) ([rdC l (pos+1),[]])]<|J ⟨I,⟨UB,I,UV,UA,aa _ _ _ OM OM OM OM⟩,I⟩<|W.blk<|g 69 70 []<|J UB ?_
   refine W.cn<|J (noT dO) fun _=>g 68 69 []<|J UB<|W.cn<|J (fun _=>(rg []<|J ⟨I,I,I,I,UA,I⟩ (g 5 198 []<|J Zdi (W.ret (EndsW.rt<|J UM ?_))))) (noF tO)
   exact⟨⟨b.workers,!b.up,b.now,b.since,b.epoch,b.given,⟨b.log.safe,b.log.loose⟩,b.results,b.jobs,b.seats,b.owed⟩,_,rfl,rfl,⟨by dsimp only;omega,by dsimp only;omega,m9,by dsimp only;omega,by dsimp only;omega,by dsimp only;omega,by dsimp only;omega⟩,by omega,by omega⟩
  by_cases k2:ac l (pos) 12 = 2
  ·conv=>whnf
   refine W.sq<|g 10 14 []<|J UE<|W.cn<|J (noT dO) fun _=>W.exit<|W.sq<|g 7 31 [BF,BF,BF,BF]<|J Zb0<|W.cn<|J (noT rfl) fun _=>W.skip<|W.sq<|g 6 61 [.call (V.i (ac l pos 12)) ([rdC l (pos+1),[]])]<|J ⟨I,⟨UB,I,UV,UA,aa _ _ _ OM OM OM OM⟩,I⟩<|W.blk<|g 69 70 []<|J UB ?_
   refine W.cn<|J (noT dO) fun _=>g 68 69 []<|J UB<|W.cn<|J (noT dO) fun _=>g 74 76 []<|J UB<|W.cn<|J (fun _=>(rg [.call (V.i (ac l (pos+1) 4)) ([rdC l (pos+1+1),[]]),.n (Int.toNat (ac l (pos+1) 4)),.x ([T.i xe])]<|J ⟨Zc1,I,⟨UB,I,UV,UA,aa _ _ _ OM OM OM OM⟩,Zdq,AS,I,UA,I⟩ (g 5 198 []<|J Zdi (W.ret (EndsW.rt<|J UM ?_))))) (noF tO)
   exact⟨⟨b.workers,b.up,xe,b.since,b.epoch,b.given,⟨b.log.safe,b.log.loose⟩,b.results,b.jobs,b.seats,b.owed⟩,_,rfl,rfl,⟨by dsimp only;omega,by dsimp only;omega,m9,by dsimp only;omega,by dsimp only;omega,by dsimp only;omega,by dsimp only;omega⟩,by omega,by omega⟩
  by_cases k3:ac l (pos) 12 = 3
  ·conv=>whnf
   refine W.sq<|g 10 14 []<|J UE<|W.cn<|J (noT dO) fun _=>W.exit<|W.sq<|g 7 31 [BF,BF,BF,BF]<|J Zb0<|W.cn<|J (noT rfl) fun _=>W.skip<|W.sq<|g 6 61 [.call (V.i (ac l pos 12)) ([rdC l (pos+1),[]])]<|J ⟨I,⟨UB,I,UV,UA,aa _ _ _ OM OM OM OM⟩,I⟩<|W.blk<|g 69 70 []<|J UB ?_
   refine W.cn<|J (noT dO) fun _=>g 68 69 []<|J UB<|W.cn<|J (noT dO) fun _=>g 74 76 []<|J UB<|W.cn<|J (noT dO) fun _=>g 80 82 []<|J UB<|W.cn<|J (fun _=>(rg [.call (V.i (ac l (pos+1) 4)) ([rdC l (pos+1+1),[]]),.i (ac l (pos+1) (4:Int) - 1)]<|J ⟨I,⟨UB,I,UV,UA,aa _ _ _ OM OM OM OM⟩,wO,I,UA,I⟩ (g 5 198 []<|J Zdi (W.ret (EndsW.rt<|J UM ?_))))) (noF tO)
   exact⟨⟨b.workers,b.up,b.now,ac l (pos+1) 4 - 1,b.epoch,b.given,⟨b.log.safe,b.log.loose⟩,b.results,b.jobs,b.seats,b.owed⟩,_,rfl,rfl,⟨by dsimp only;omega,by dsimp only;omega,m9,by dsimp only;omega,by dsimp only;omega,by dsimp only;omega,by dsimp only;omega⟩,by omega,by omega⟩
  by_cases k4:ac l (pos) 12 = 4
  ·conv=>whnf
   refine W.sq<|g 10 14 []<|J UE<|W.cn<|J (noT dO) fun _=>W.exit<|W.sq<|g 7 31 [BF,BF,BF,BF]<|J Zb0<|W.cn<|J (noT rfl) fun _=>W.skip<|W.sq<|g 6 61 [.call (V.i (ac l pos 12)) ([rdC l (pos+1),[]])]<|J ⟨I,⟨UB,I,UV,UA,aa _ _ _ OM OM OM OM⟩,I⟩<|W.blk<|g 69 70 []<|J UB ?_
   refine W.cn<|J (noT dO) fun _=>g 68 69 []<|J UB<|W.cn<|J (noT dO) fun _=>g 74 76 []<|J UB<|W.cn<|J (noT dO) fun _=>g 80 82 []<|J UB<|W.cn<|J (noT dO) fun _=>g 88 90 []<|J UB<|W.cn<|J (fun _=>(rg [.i (b.epoch+1)]<|J Zbb (g 5 198 []<|J Zdi (W.ret ?_)))) (noF tO)
   refine EndsW.rt<|J UM ?_
   exact⟨⟨b.workers,b.up,b.now,b.since,b.epoch+1,b.given,⟨b.log.safe,b.log.loose⟩,b.results,b.jobs,b.seats,b.owed⟩,_,rfl,rfl,⟨by dsimp only;omega,by dsimp only;omega,m9,by dsimp only;omega,by dsimp only;omega,by dsimp only;omega,by dsimp only;omega⟩,by omega,by omega⟩
  by_cases k5:ac l (pos) 12 = 5
  ·conv=>whnf
   refine W.sq<|g 10 14 []<|J UE<|W.cn<|J (noT dO) fun _=>W.exit<|W.sq<|g 7 31 [BF,BF,BF,BF]<|J Zb0<|W.cn<|J (noT rfl) fun _=>W.skip<|W.sq<|g 6 61 [.call (V.i (ac l pos 12)) ([rdC l (pos+1),[]])]<|J ⟨I,⟨UB,I,UV,UA,aa _ _ _ OM OM OM OM⟩,I⟩<|W.blk<|g 69 70 []<|J UB ?_
   refine W.cn<|J (noT dO) fun _=>g 68 69 []<|J UB<|W.cn<|J (noT dO) fun _=>g 74 76 []<|J UB<|W.cn<|J (noT dO) fun _=>g 80 82 []<|J UB<|W.cn<|J (noT dO) fun _=>g 88 90 []<|J UB<|W.cn<|J (noT dO) fun _=>g 94 96 []<|J UB<|W.cn<|J (fun _=>(rg [.call (V.i (ac l (pos+1) 4)) ([rdC l (pos+1+1),[]]),.n (Int.toNat (ac l (pos+1) 4)),.x ([T.i xg])]<|J ⟨Zc1,I,⟨UB,I,UV,UA,aa _ _ _ OM OM OM OM⟩,Zdq,AS,I,UA,I⟩ ?_)) (noF tO)
   refine g 5 198 []<|J Zdi<|W.ret<|EndsW.rt<|J UM ?_
   exact⟨⟨b.workers,b.up,b.now,b.since,b.epoch,xg,⟨b.log.safe,b.log.loose⟩,b.results,b.jobs,b.seats,b.owed⟩,_,rfl,rfl,⟨by dsimp only;omega,by dsimp only;omega,m9,by dsimp only;omega,by dsimp only;omega,by dsimp only;omega,by dsimp only;omega⟩,by omega,by omega⟩
  by_cases k6:ac l (pos) 12 = 6
  ·by_cases hr:0 < b.results.length
   ·have pr:=av l (pos+1) ((b.results.map aq).length:Int)
    have cr:=aa l (pos+1) ((b.results.map aq).length:Int) hl OM OM OM
    obtain⟨y,hy⟩:=ak (xs:=b.results) (n:=(ac l (pos+1) ((b.results.map aq).length:Int)).toNat) OM
    conv=>whnf
    refine W.sq<|g 10 14 []<|J UE<|W.cn<|J (noT dO) fun _=>W.exit<|W.sq<|g 7 31 [BF,BF,BF,BF]<|J Zb0<|W.cn<|J (noT rfl) fun _=>W.skip<|W.sq<|g 6 61 [.call (V.i (ac l pos 12)) ([rdC l (pos+1),[]])]<|J ⟨I,⟨UB,I,UV,UA,aa _ _ _ OM OM OM OM⟩,I⟩<|W.blk<|g 69 70 []<|J UB ?_
    refine W.cn<|J (noT dO) fun _=>g 68 69 []<|J UB<|W.cn<|J (noT dO) fun _=>g 74 76 []<|J UB<|W.cn<|J (noT dO) fun _=>g 80 82 []<|J UB<|W.cn<|J (noT dO) fun _=>g 88 90 []<|J UB<|W.cn<|J (noT dO) fun _=>g 94 96 []<|J UB<|W.cn<|J (noT dO) fun _=>g 100 102 []<|J UB ?_
    refine W.cn<|J (fun _=>(g 61 113 []<|J UD (W.cn<|J (fun _=>(rgd [[],[],[],[],[],[],[.call (V.i (ac l (pos+1) (↑(List.length (List.map aq b.results)):Int))) ([rdC l (pos+1+1),[]])],[],[],[.call (V.i (ac l (pos+1+1) 2)) ([rdC l (pos+1+1+1),[]])],[.n (Int.toNat (ac l (pos+1+1) 2))],[.x ([T.s xr])],[.n (Int.toNat (ac l (pos+1) (↑(List.length (List.map aq b.results)):Int)))],[.x (aq y)]] ?_)) (noF tO)))) (noF tO)
    conv=>whnf
    refine⟨⟨I,I,I,I,I,I,Zcb,UT,I,⟨UB,I,UV,UA,aa _ _ _ OM OM OM OM⟩,Zdq,AS,⟨OM,OM⟩,Zef,I⟩,by kernel_rfl,?_⟩
    refine g 5 198 []<|J Zdi<|W.ret<|EndsW.rt<|J UM ?_
    exact⟨⟨b.workers,b.up,b.now,b.since,b.epoch,b.given,⟨b.log.safe,b.log.loose⟩,b.results.set (ac l (pos+1) ((b.results.map aq).length:Int)).toNat xr,b.jobs,b.seats,b.owed⟩,_,(by simp only[ay,List.map_set,List.map_append];rfl),rfl,⟨by dsimp only;omega,by dsimp only;omega,m9,by dsimp only;(try rw[List.length_set]);omega,by dsimp only;(try rw[List.length_set]);omega,by dsimp only;(try rw[List.length_set]);omega,by dsimp only;omega⟩,by omega,by omega⟩
   ·conv=>whnf
    refine W.sq<|g 10 14 []<|J UE<|W.cn<|J (noT dO) fun _=>W.exit<|W.sq<|g 7 31 [BF,BF,BF,BF]<|J Zb0<|W.cn<|J (noT rfl) fun _=>W.skip<|W.sq<|g 6 61 [.call (V.i (ac l pos 12)) ([rdC l (pos+1),[]])]<|J ⟨I,⟨UB,I,UV,UA,aa _ _ _ OM OM OM OM⟩,I⟩<|W.blk<|g 69 70 []<|J UB ?_
    refine W.cn<|J (noT dO) fun _=>g 68 69 []<|J UB<|W.cn<|J (noT dO) fun _=>g 74 76 []<|J UB<|W.cn<|J (noT dO) fun _=>g 80 82 []<|J UB<|W.cn<|J (noT dO) fun _=>g 88 90 []<|J UB<|W.cn<|J (noT dO) fun _=>g 94 96 []<|J UB<|W.cn<|J (noT dO) fun _=>g 100 102 []<|J UB ?_
    refine W.cn<|J (fun _=>(g 61 113 []<|J UD (W.cn<|J (noT dO) fun _=>(W.skip (g 0 4 []<|J Zdi (W.ret (EndsW.rt<|J UM ?_))))))) (noF tO)
    exact⟨b,_,rfl,rfl,⟨by omega,by omega,m9,by omega,by omega,by omega,by omega⟩,by omega,by omega⟩
  by_cases k7:ac l (pos) 12 = 7
  ·by_cases hr:0 < b.jobs.length
   ·have pr:=av l (pos+1) ((b.jobs.map aH).length:Int)
    have cr:=aa l (pos+1) ((b.jobs.map aH).length:Int) hl OM OM OM
    obtain⟨y,hy⟩:=ak (xs:=b.jobs) (n:=(ac l (pos+1) ((b.jobs.map aH).length:Int)).toNat) OM
    have p44:=av l (pos+1+1+1) 4
    have p45:=av l (pos+1+1+1+1) 15
    conv=>whnf
    refine W.sq<|g 10 14 []<|J UE<|W.cn<|J (noT dO) fun _=>W.exit<|W.sq<|g 7 31 [BF,BF,BF,BF]<|J Zb0<|W.cn<|J (noT rfl) fun _=>W.skip<|W.sq<|g 6 61 [.call (V.i (ac l pos 12)) ([rdC l (pos+1),[]])]<|J ⟨I,⟨UB,I,UV,UA,aa _ _ _ OM OM OM OM⟩,I⟩<|W.blk<|g 69 70 []<|J UB ?_
    refine W.cn<|J (noT dO) fun _=>g 68 69 []<|J UB<|W.cn<|J (noT dO) fun _=>g 74 76 []<|J UB<|W.cn<|J (noT dO) fun _=>g 80 82 []<|J UB<|W.cn<|J (noT dO) fun _=>g 88 90 []<|J UB<|W.cn<|J (noT dO) fun _=>g 94 96 []<|J UB<|W.cn<|J (noT dO) fun _=>g 100 102 []<|J UB ?_
    refine W.cn<|J (noT dO) fun _=>g 108 110 []<|J UB<|W.cn<|J (fun _=>(g 61 132 []<|J UD (W.cn<|J (fun _=>(rgd [[],[],[],[],[],[],[.call (V.i (ac l (pos+1) (↑(List.length (List.map aH b.jobs)):Int))) ([rdC l (pos+1+1),[]])],[],[],[.i (b.epoch - 1)],[.i ((b.epoch - 1) * 1000000)],[],[.call (V.i (ac l (pos+1+1) 4)) ([rdC l (pos+1+1+1),[]])],[.i ((b.epoch - 1) * 1000000+ac l (pos+1+1) 4)],[],[.call (V.i (ac l (pos+1+1+1) 4)) ([rdC l (pos+1+1+1+1),[]])],[],[],[],[.call (V.i (ac l (pos+1+1+1+1) 15)) ([rdC l (pos+1+1+1+1+1),[]])],[.i (b.now+ac l (pos+1+1+1+1) 15)],[],[.n (Int.toNat (ac l (pos+1) (↑(List.length (List.map aH b.jobs)):Int)))],[.x (aH y)]] ?_)) (noF tO)))) (noF tO)
    conv=>whnf
    refine⟨⟨I,I,I,I,I,I,Zcb,I,I,wO,wO,I,⟨UB,I,UV,UA,aa _ _ _ OM OM OM OM⟩,wO,I,⟨UB,I,UV,UA,aa _ _ _ OM OM OM OM⟩,I,I,I,⟨UB,I,UV,UA,aa _ _ _ OM OM OM OM⟩,wO,I,⟨OM,OM⟩,⟨UC,xA⟩,I⟩,by kernel_rfl,?_⟩
    refine g 5 198 []<|J Zdi<|W.ret<|EndsW.rt<|J UM ?_
    exact⟨⟨b.workers,b.up,b.now,b.since,b.epoch,b.given,⟨b.log.safe,b.log.loose⟩,b.results,b.jobs.set (ac l (pos+1) ((b.jobs.map aH).length:Int)).toNat ⟨(b.epoch - 1) * 1000000+ac l (pos+1+1) 4,ac l (pos+1+1+1) 4,b.now+ac l (pos+1+1+1+1) 15⟩,b.seats,b.owed⟩,_,(by simp only[ay,List.map_set,List.map_append];rfl),rfl,⟨by dsimp only;omega,by dsimp only;omega,m9,by dsimp only;(try rw[List.length_set]);omega,by dsimp only;(try rw[List.length_set]);omega,by dsimp only;(try rw[List.length_set]);omega,by dsimp only;omega⟩,by omega,by omega⟩
   ·conv=>whnf
    refine W.sq<|g 10 14 []<|J UE<|W.cn<|J (noT dO) fun _=>W.exit<|W.sq<|g 7 31 [BF,BF,BF,BF]<|J Zb0<|W.cn<|J (noT rfl) fun _=>W.skip<|W.sq<|g 6 61 [.call (V.i (ac l pos 12)) ([rdC l (pos+1),[]])]<|J ⟨I,⟨UB,I,UV,UA,aa _ _ _ OM OM OM OM⟩,I⟩<|W.blk<|g 69 70 []<|J UB ?_
    refine W.cn<|J (noT dO) fun _=>g 68 69 []<|J UB<|W.cn<|J (noT dO) fun _=>g 74 76 []<|J UB<|W.cn<|J (noT dO) fun _=>g 80 82 []<|J UB<|W.cn<|J (noT dO) fun _=>g 88 90 []<|J UB<|W.cn<|J (noT dO) fun _=>g 94 96 []<|J UB<|W.cn<|J (noT dO) fun _=>g 100 102 []<|J UB ?_
    refine W.cn<|J (noT dO) fun _=>g 108 110 []<|J UB<|W.cn<|J (fun _=>(g 61 132 []<|J UD (W.cn<|J (noT dO) fun _=>(W.skip (g 0 4 []<|J Zdi (W.ret (EndsW.rt<|J UM ?_))))))) (noF tO)
    exact⟨b,_,rfl,rfl,⟨by omega,by omega,m9,by omega,by omega,by omega,by omega⟩,by omega,by omega⟩
  by_cases k8:ac l (pos) 12 = 8
  ·have p44:=av l (pos+1) 4
   have p45:=av l (pos+1+1) 3
   have p46:=av l (pos+1+1+1) 4
   conv=>whnf
   refine W.sq<|g 10 14 []<|J UE<|W.cn<|J (noT dO) fun _=>W.exit<|W.sq<|g 7 31 [BF,BF,BF,BF]<|J Zb0<|W.cn<|J (noT rfl) fun _=>W.skip<|W.sq<|g 6 61 [.call (V.i (ac l pos 12)) ([rdC l (pos+1),[]])]<|J ⟨I,⟨UB,I,UV,UA,aa _ _ _ OM OM OM OM⟩,I⟩<|W.blk<|g 69 70 []<|J UB ?_
   refine W.cn<|J (noT dO) fun _=>g 68 69 []<|J UB<|W.cn<|J (noT dO) fun _=>g 74 76 []<|J UB<|W.cn<|J (noT dO) fun _=>g 80 82 []<|J UB<|W.cn<|J (noT dO) fun _=>g 88 90 []<|J UB<|W.cn<|J (noT dO) fun _=>g 94 96 []<|J UB<|W.cn<|J (noT dO) fun _=>g 100 102 []<|J UB ?_
   refine W.cn<|J (noT dO) fun _=>g 108 110 []<|J UB<|W.cn<|J (noT dO) fun _=>g 127 129 []<|J UB<|W.cn<|J (fun _=>(rgd [[],[],[],[.call (V.i (ac l (pos+1) 4)) ([rdC l (pos+1+1),[]])],[],[.call (V.i (ac l (pos+1+1) 3)) ([rdC l (pos+1+1+1),[]])],[],[.call (V.i (ac l (pos+1+1+1) 4)) ([rdC l (pos+1+1+1+1),[]])],[],[],[],[],[]] ?_)) (noF tO)
   conv=>whnf
   refine⟨⟨I,I,I,⟨UB,I,UV,UA,aa _ _ _ OM OM OM OM⟩,I,⟨UB,I,UV,UA,aa _ _ _ OM OM OM OM⟩,I,⟨UB,I,UV,UA,aa _ _ _ OM OM OM OM⟩,I,⟨UC,I⟩,Zdh,I,UA,I⟩,by kernel_rfl,?_⟩
   refine g 5 198 []<|J Zdi<|W.ret<|EndsW.rt<|J UM ?_
   exact⟨⟨b.workers,b.up,b.now,b.since,b.epoch,b.given,⟨b.log.safe,b.log.loose⟩,b.results,b.jobs,b.seats,b.owed++ [⟨ac l (pos+1) 4,ac l (pos+1+1) 3,ac l (pos+1+1+1) 4⟩]⟩,_,(by simp only[ay,List.map_set,List.map_append];rfl),rfl,⟨by dsimp only;omega,by dsimp only;omega,m9,by dsimp only;omega,by dsimp only;omega,by dsimp only;omega,by simp only[List.length_append,List.length_singleton];omega⟩,by omega,by omega⟩
  by_cases k9:ac l (pos) 12 = 9
  ·have ce:=oN l (pos+1) hl OM OM
   obtain⟨e1,e2,e3,e4⟩:=DD l (pos+1)
   have hfs:=gw (eX l (pos+1)).1
   generalize(eX l (pos+1)).1 = e at ce e1 e2 hfs
   generalize(eX l (pos+1)).2 = u at ce e3 e4
   have cf:=cK e.kind e.epoch e.task e.text OM
   change F _ _ (.s (bB e)) _ at cf
   conv=>whnf
   refine W.sq<|g 10 14 []<|J UE<|W.cn<|J (noT dO) fun _=>W.exit<|W.sq<|g 7 31 [BF,BF,BF,BF]<|J Zb0<|W.cn<|J (noT rfl) fun _=>W.skip<|W.sq<|g 6 61 [.call (V.i (ac l pos 12)) ([rdC l (pos+1),[]])]<|J ⟨I,⟨UB,I,UV,UA,aa _ _ _ OM OM OM OM⟩,I⟩<|W.blk<|g 69 70 []<|J UB ?_
   refine W.cn<|J (noT dO) fun _=>g 68 69 []<|J UB<|W.cn<|J (noT dO) fun _=>g 74 76 []<|J UB<|W.cn<|J (noT dO) fun _=>g 80 82 []<|J UB<|W.cn<|J (noT dO) fun _=>g 88 90 []<|J UB<|W.cn<|J (noT dO) fun _=>g 94 96 []<|J UB<|W.cn<|J (noT dO) fun _=>g 100 102 []<|J UB ?_
   refine W.cn<|J (noT dO) fun _=>g 108 110 []<|J UB<|W.cn<|J (noT dO) fun _=>g 127 129 []<|J UB<|W.cn<|J (noT dO) fun _=>g 156 158 []<|J UB<|W.cn<|J (fun _=>(rgd [[],[],[],[],[.call (kX e.kind e.epoch e.task e.text) ([rdC l u])],[.call (V.s (bB e)) [[]]],[],[],[],[],[]] ?_)) (noF tO)
   conv=>whnf
   refine⟨⟨I,I,I,I,Zb2,Zct,US,Zdh,I,I,UA,I⟩,by kernel_rfl,?_⟩
   refine g 5 198 []<|J Zdi<|W.ret<|EndsW.rt<|J UM ?_
   exact⟨⟨b.workers,b.up,b.now,b.since,b.epoch,b.given,⟨b.log.safe,b.log.loose++ [bB e]⟩,b.results,b.jobs,b.seats,b.owed⟩,_,(by simp only[ay,List.map_set,List.map_append];rfl),rfl,⟨by dsimp only;omega,by simp only[List.length_append,List.length_singleton];omega,fun s q=>by rcases List.mem_append.1 q with q|q;exact m9 s (List.mem_append_left _ q);rcases List.mem_append.1 q with q|q;exact m9 s (List.mem_append_right _ q);rw[List.mem_singleton.1 q];omega,by dsimp only;omega,by dsimp only;omega,by dsimp only;omega,by dsimp only;omega⟩,by omega,by omega⟩
  by_cases k10:ac l (pos) 12 = 10
  ·by_cases hr:0 < b.seats.length
   ·obtain⟨y,hy⟩:=ak (xs:=b.seats) (n:=0) OM
    conv=>whnf
    refine W.sq<|g 10 14 []<|J UE<|W.cn<|J (noT dO) fun _=>W.exit<|W.sq<|g 7 31 [BF,BF,BF,BF]<|J Zb0<|W.cn<|J (noT rfl) fun _=>W.skip<|W.sq<|g 6 61 [.call (V.i (ac l pos 12)) ([rdC l (pos+1),[]])]<|J ⟨I,⟨UB,I,UV,UA,aa _ _ _ OM OM OM OM⟩,I⟩<|W.blk<|g 69 70 []<|J UB ?_
    refine W.cn<|J (noT dO) fun _=>g 68 69 []<|J UB<|W.cn<|J (noT dO) fun _=>g 74 76 []<|J UB<|W.cn<|J (noT dO) fun _=>g 80 82 []<|J UB<|W.cn<|J (noT dO) fun _=>g 88 90 []<|J UB<|W.cn<|J (noT dO) fun _=>g 94 96 []<|J UB<|W.cn<|J (noT dO) fun _=>g 100 102 []<|J UB ?_
    refine W.cn<|J (noT dO) fun _=>g 108 110 []<|J UB<|W.cn<|J (noT dO) fun _=>g 127 129 []<|J UB<|W.cn<|J (noT dO) fun _=>g 156 158 []<|J UB<|W.cn<|J (noT dO) fun _=>g 61 172 []<|J UB<|W.cn<|J (fun _=>(g 182 187 []<|J UD (W.cn<|J (fun _=>(rgd [[],[],[],[],[.call (V.i (ac l (pos+1) 3)) ([rdC l (pos+1+1),[]])],[.n (Int.toNat (ac l (pos+1) 3))],[.x ([T.i xs])],[.n (0)],[],[.x (aI y)]] ?_)) (noF SI)))) (noF tO)
    conv=>whnf
    refine⟨⟨I,I,UU,I,⟨UB,I,UV,UA,aa _ _ _ OM OM OM OM⟩,Zdq,AS,Zdj,I,Zef,I⟩,by kernel_rfl,?_⟩
    refine g 5 198 []<|J Zdi<|W.ret<|EndsW.rt<|J UM ?_
    exact⟨⟨b.workers,b.up,b.now,b.since,b.epoch,b.given,⟨b.log.safe,b.log.loose⟩,b.results,b.jobs,b.seats.set 0 ⟨y.free,xs⟩,b.owed⟩,_,(by simp only[ay,List.map_set,List.map_append];rfl),rfl,⟨by dsimp only;omega,by dsimp only;omega,m9,by dsimp only;(try rw[List.length_set]);omega,by dsimp only;(try rw[List.length_set]);omega,by dsimp only;(try rw[List.length_set]);omega,by dsimp only;omega⟩,by omega,by omega⟩
   ·conv=>whnf
    refine W.sq<|g 10 14 []<|J UE<|W.cn<|J (noT dO) fun _=>W.exit<|W.sq<|g 7 31 [BF,BF,BF,BF]<|J Zb0<|W.cn<|J (noT rfl) fun _=>W.skip<|W.sq<|g 6 61 [.call (V.i (ac l pos 12)) ([rdC l (pos+1),[]])]<|J ⟨I,⟨UB,I,UV,UA,aa _ _ _ OM OM OM OM⟩,I⟩<|W.blk<|g 69 70 []<|J UB ?_
    refine W.cn<|J (noT dO) fun _=>g 68 69 []<|J UB<|W.cn<|J (noT dO) fun _=>g 74 76 []<|J UB<|W.cn<|J (noT dO) fun _=>g 80 82 []<|J UB<|W.cn<|J (noT dO) fun _=>g 88 90 []<|J UB<|W.cn<|J (noT dO) fun _=>g 94 96 []<|J UB<|W.cn<|J (noT dO) fun _=>g 100 102 []<|J UB ?_
    refine W.cn<|J (noT dO) fun _=>g 108 110 []<|J UB<|W.cn<|J (noT dO) fun _=>g 127 129 []<|J UB<|W.cn<|J (noT dO) fun _=>g 156 158 []<|J UB<|W.cn<|J (noT dO) fun _=>g 61 172 []<|J UB<|W.cn<|J (fun _=>(g 182 187 []<|J UD (W.cn<|J (noT SI) fun _=>(W.skip ?_)))) (noF tO)
    refine g 0 4 []<|J Zdi<|W.ret<|EndsW.rt<|J UM ?_
    exact⟨b,_,rfl,rfl,⟨by omega,by omega,m9,by omega,by omega,by omega,by omega⟩,by omega,by omega⟩
  ·conv=>whnf
   refine W.sq<|g 10 14 []<|J UE<|W.cn<|J (noT dO) fun _=>W.exit<|W.sq<|g 7 31 [BF,BF,BF,BF]<|J Zb0<|W.cn<|J (noT rfl) fun _=>W.skip<|W.sq<|g 6 61 [.call (V.i (ac l pos 12)) ([rdC l (pos+1),[]])]<|J ⟨I,⟨UB,I,UV,UA,aa _ _ _ OM OM OM OM⟩,I⟩<|W.blk<|g 69 70 []<|J UB ?_
   refine W.cn<|J (noT dO) fun _=>g 68 69 []<|J UB<|W.cn<|J (noT dO) fun _=>g 74 76 []<|J UB<|W.cn<|J (noT dO) fun _=>g 80 82 []<|J UB<|W.cn<|J (noT dO) fun _=>g 88 90 []<|J UB<|W.cn<|J (noT dO) fun _=>g 94 96 []<|J UB<|W.cn<|J (noT dO) fun _=>g 100 102 []<|J UB ?_
   refine W.cn<|J (noT dO) fun _=>g 108 110 []<|J UB<|W.cn<|J (noT dO) fun _=>g 127 129 []<|J UB<|W.cn<|J (noT dO) fun _=>g 156 158 []<|J UB<|W.cn<|J (noT dO) fun _=>g 61 172 []<|J UB<|W.cn<|J (noT dO) fun _=>rg []<|J ⟨I,I,I,⟨UB,I⟩,Zdh,I,UA,I⟩<|g 5 198 []<|J Zdi<|W.ret ?_
   refine EndsW.rt<|J UM ?_
   exact⟨⟨b.workers,b.up,b.now,b.since,b.epoch,b.given,⟨b.log.safe,b.log.loose⟩,b.results,b.jobs,b.seats++ [⟨false,0⟩],b.owed⟩,_,(by simp only[ay,List.map_set,List.map_append];rfl),rfl,⟨by dsimp only;omega,by dsimp only;omega,m9,by dsimp only;omega,by dsimp only;omega,by simp only[List.length_append,List.length_singleton];omega,by dsimp only;omega⟩,by omega,by omega⟩
theorem pO(l:List Int)(pos:Int)(b:Boss)(h:BossTight b∧eP l∧0≤pos∧pos≤990000):∃ x:Boss×Int,F iB [.ptr (rdC l pos),.val (ay b)] (ay x.1) [rdC l x.2,[]]∧BossMid x.1∧pos≤x.2∧x.2≤pos+20:=by
 obtain⟨res,outs,⟨v,pos2,rfl,rfl,h1,h2,h3⟩,hF⟩:=Ik l pos b h.1 h.2.1 h.2.2.1 h.2.2.2
 exact⟨(v,pos2),hF,h1,h2,h3⟩
open Classical in
noncomputable def ja(l:List Int)(pos:Int)(b:Boss):Boss×Int:=if h:BossTight b∧eP l∧0≤pos∧pos≤990000 then(pO l pos b h).choose else(fC,pos)
theorem uW(l:List Int)(pos:Int)(b:Boss)(hb:BossTight b)(hl:eP l)(h0:0≤pos)(h1:pos≤990000):F iB [.ptr (rdC l pos),.val (ay b)] (ay (ja l pos b).1) [rdC l (ja l pos b).2,[]]:=by
 have h:BossTight b∧eP l∧0≤pos∧pos≤990000:=⟨hb,hl,h0,h1⟩
 rw[ja,dif_pos h]
 exact(pO l pos b h).choose_spec.1
theorem Iz(l:List Int)(pos:Int)(b:Boss):BossMid (ja l pos b).1∧pos≤(ja l pos b).2∧(ja l pos b).2≤pos+20:=by
 unfold ja
 split
 ·rename_i h;exact(pO l pos b h).choose_spec.2
 ·exact⟨iH (gv (w:=noWorld) (.inr rfl)),Int.le_refl _,by dsimp only;omega⟩
end Go.K
end
section
open Go Go.Tm Go.Proofs
namespace Go.K
structure EdgeOk (b:Boss) (p:Plan):Prop where
 mid:BossMid b
 small:cy p
 workers:0≤b.workers∧b.workers≤8
theorem tZ{b:Boss}(p:Plan)(h:BossTight b):BossTight (gP b p):=by
 by_cases hv:BossOk b p
 ·rw[gZ hv];exact Da (iT hv)
 ·rw[show gP b p = fC from if_neg hv]
  exact gv (w:=noWorld) (.inr rfl)
theorem NR(l:List Int)(pos:Int)(hl:eP l)(h0:0≤pos)(h1:pos≤800000):∃ res outs,(∃ (b:Boss) (p:Plan) (pos2:Int),res = .tup [ay b,db p]∧outs = [rdC l pos2]∧EdgeOk b p∧pos≤pos2∧pos2≤pos+6000)∧F jE [.ptr (rdC l pos)] res outs:=by
 have cr:=kj l pos hl h0 OM
 obtain⟨g1,_,g3,g4⟩:=C3 l pos
 generalize(iK l pos).1 = w at cr g1
 generalize(iK l pos).2 = q at cr g3 g4
 have hd:=cZ g1
 have hs:=hd.small
 have hw:=hd.plan
 have ht:=gv g1
 have hm:=iH ht
 have hlim:=kv ht
 obtain⟨⟨b1,b2⟩,⟨b3,b4⟩,⟨b5,b6⟩,b7,b8,b9,b10,b11,b12,b13⟩:=ht
 have p6:=av l q 6
 have p2:=av l (q+1) 2
 have p22:=av l (q+1+1) 2
 by_cases k0:ac l q 6 = 0
 ·obtain⟨n,hn⟩:∃ n:Nat,300 - ac l (q+1) 2 = n:=⟨(300 - ac l (q+1) 2).toNat,by omega⟩
  have hn1:n≤300:=by omega
  have ce:=lK n hn1
  rw[←hn]at ce
  have hel:=iZ n
  have hDa:∀ s∈aZ n++ [],s.size≤12:=fun s q=>by rw[List.append_nil]at q;exact tQ q
  have hD:BossTight (cq w.boss.workers w.boss.now (aZ n)):=⟨⟨b1,b2⟩,⟨b3,b4⟩,⟨Int.le_refl _,by show(0:Int)≤300;omega⟩,by show(aZ n).length≤310;omega,Nat.zero_le _,hDa,Nat.zero_le _,Nat.zero_le _,Nat.zero_le _,Nat.zero_le _⟩
  by_cases kk:ac l (q+1+1) 2 = 0
  ·have cb:F d9 [.val (.agg [.t (.i w.boss.workers),.t (.b false),.t (.i w.boss.now),.t (.i 0),.t (.i 0),.t (.i 0),.t (.slc [false] ((aZ n).map aq)),.t (.slc [false] []),.t (.slc [false] []),.t (.slc ey []),.t (.slc cz []),.t (.slc cA [])]),.val (bn w.plan)] (ay (gP (cq w.boss.workers w.boss.now (aZ n)) w.plan)) [[],[]]:=ff (cq w.boss.workers w.boss.now (aZ n)) w.plan hw (kv hD)
   have hR:=tZ w.plan hD
   generalize gP (cq w.boss.workers w.boss.now (aZ n)) w.plan = bb at cb hR
   refine dc ?_
   conv=>whnf
   refine g 0 0 []<|J UB<|g 14 16 [.call (bh w) ([rdC l q])]<|J Zej<|g 16 18 []<|J Zcm<|W.sq<|g 18 19 [.call (V.i (ac l q 6)) ([rdC l (q+1),[]])]<|J ⟨I,⟨UB,I,UV,UA,aa _ _ _ OM OM OM OM⟩,I⟩<|W.blk<|g 21 22 []<|J UB<|W.cn<|J (fun _=>(gd 19 32 [[],[],[],[],[],[.call (V.i (ac l (q+1) 2)) ([rdC l (q+1+1),[]])],[.i ((300:Int) - ac l (q+1) 2)],[.call (V.own [false] (List.map aq (aZ n))) [[]]],[],[],[]] ?_)) (noF tO)
   conv=>whnf
   refine⟨⟨I,I,I,I,I,⟨UB,I,UV,UA,aa _ _ _ OM OM OM OM⟩,wO,Zaj,I,I,UL,I⟩,by kernel_rfl,?_⟩
   refine W.sq<|g 32 34 [.call (V.i (ac l (q+1+1) 2)) ([rdC l (q+1+1+1),[]])]<|J ⟨I,⟨UB,I,UV,UA,aa _ _ _ OM OM OM OM⟩,I,I⟩<|W.cn<|J (fun _=>(rg [.call (ay bb) [[],[]]]<|J ⟨I,I,I,Zak,UL,I⟩ (gd 34 42 [[],[],[],[],[]] ?_))) (noF tO)
   conv=>whnf
   refine⟨⟨I,I,I,UL,UA,I⟩,by kernel_rfl,?_⟩
   refine W.ret<|EndsW.rt<|J Zdc ?_
   exact⟨bb,w.plan,_,rfl,rfl,⟨iH hR,hs,hR.workers⟩,by omega,by omega⟩
  ·refine dc ?_
   conv=>whnf
   refine g 0 0 []<|J UB<|g 14 16 [.call (bh w) ([rdC l q])]<|J Zej<|g 16 18 []<|J Zcm<|W.sq<|g 18 19 [.call (V.i (ac l q 6)) ([rdC l (q+1),[]])]<|J ⟨I,⟨UB,I,UV,UA,aa _ _ _ OM OM OM OM⟩,I⟩<|W.blk<|g 21 22 []<|J UB<|W.cn<|J (fun _=>(gd 19 32 [[],[],[],[],[],[.call (V.i (ac l (q+1) 2)) ([rdC l (q+1+1),[]])],[.i ((300:Int) - ac l (q+1) 2)],[.call (V.own [false] (List.map aq (aZ n))) [[]]],[],[],[]] ?_)) (noF tO)
   conv=>whnf
   refine⟨⟨I,I,I,I,I,⟨UB,I,UV,UA,aa _ _ _ OM OM OM OM⟩,wO,Zaj,I,I,UL,I⟩,by kernel_rfl,?_⟩
   refine W.sq<|g 32 34 [.call (V.i (ac l (q+1+1) 2)) ([rdC l (q+1+1+1),[]])]<|J ⟨I,⟨UB,I,UV,UA,aa _ _ _ OM OM OM OM⟩,I,I⟩<|W.cn<|J (noT dO) fun _=>W.skip<|gd 34 42 [[],[],[],[],[]] ?_
   conv=>whnf
   refine J ⟨I,I,I,UL,UA,I⟩<|J KR<|W.ret<|EndsW.rt<|J Zdc ?_
   exact⟨cq w.boss.workers w.boss.now (aZ n),w.plan,_,rfl,rfl,⟨iH hD,hs,b1,b2⟩,by omega,by omega⟩
 by_cases k1:ac l q 6 = 1
 ·refine dc ?_
  conv=>whnf
  refine g 0 0 []<|J UB<|g 14 16 [.call (bh w) ([rdC l q])]<|J Zej<|g 16 18 []<|J Zcm<|W.sq<|g 18 19 [.call (V.i (ac l q 6)) ([rdC l (q+1),[]])]<|J ⟨I,⟨UB,I,UV,UA,aa _ _ _ OM OM OM OM⟩,I⟩<|W.blk<|g 21 22 []<|J UB<|W.cn<|J (noT dO) fun _=>g 20 21 []<|J UB<|W.cn<|J (fun _=>(W.sq (g 19 20 []<|J UA ?_))) (noF tO)
  refine W.blk<|W.lp (fun s (x:Nat×List Seat×Int)=>⟨[(0,s.s 0),(2,s.s 2),(3,s.s 3),(4,s.s 4),(5,s.s 5),(6,.i x.1),(42,s.s 42)],[(2,[s.c 2 0,s.c 2 1,s.c 2 2,s.c 2 3,s.c 2 4,s.c 2 5,s.c 2 6,s.c 2 7,s.c 2 8,s.c 2 9,s.c 2 10,s.c 2 11]),(3,[s.c 3 0]),(4,[s.c 4 0,s.c 4 1,s.c 4 2,s.c 4 3,s.c 4 4,s.c 4 5,s.c 4 6,s.c 4 7,s.c 4 8,s.c 4 9,s.c 4 10,s.c 4 11,s.c 4 12,s.c 4 13,s.c 4 14,s.c 4 15,s.c 4 16]),(190,[.t (u8s l),.t (.i x.2.2)]),(5,[.t (.i w.boss.workers),.t (.b w.boss.up),.t (.i w.boss.now),.t (.i w.boss.since),.t (.i w.boss.epoch),.t (.i w.boss.given),.own [false] (w.boss.log.safe.map aq),.own [false] (w.boss.log.loose.map aq),.own [false] (w.boss.results.map aq),.own ey (w.boss.jobs.map aH),.own cz (x.2.1.map aI),.own cA (w.boss.owed.map aX)])],[]⟩) (fun(x:Nat×List Seat×Int)=>x.1≤w.boss.seats.length∧x.2.1.length = w.boss.seats.length∧x.2.2 = q+1+x.1) (fun(x:Nat×List Seat×Int)=>w.boss.seats.length - x.1) ((0,w.boss.seats,q+1)) [some 2,some 3,some 4,some 190,some 5] [] ⟨rfl,Za1,⟨Zaa,⟨Zad,⟨Zdf,⟨Zds,Zd1⟩⟩⟩⟩,I⟩ (by simp) ?_
  rintro⟨i,ss,r⟩ ⟨i1,i2,i3⟩
  dsimp only at i1 i2 i3
  by_cases hi:i < w.boss.seats.length
  ·obtain⟨x,hx⟩:=ak (xs:=ss) (n:=i) OM
   have p3:=av l r 3
   have es:(ss.map aI).set i (aI ⟨x.free,2+ac l r 3⟩) = (ss.set i ⟨x.free,2+ac l r 3⟩).map aI:=by rw[←List.map_set]
   conv=>whnf
   refine W.sq<|g 44 48 []<|J UE<|W.cn<|J (fun _=>(W.skip (W.sq (W.blk (rgd [[],[],[],[],[.call (V.i (ac l r 3)) ([rdC l (r+1),[]])],[.i (2+ac l r 3)],[.n (Prod.fst (i,ss,r))],[],[.x (aI x)]] ?_))))) (noF SI)
   conv=>whnf
   refine⟨⟨I,I,I,I,⟨UB,I,UV,UA,aa _ _ _ (by first|omega|decide|assumption|(simp only[ByteArray.size_extract,List.length_map];omega)|simp[*]) (by first|omega|decide|assumption|(simp only[ByteArray.size_extract,List.length_map];omega)|simp[*]) (by first|omega|decide|assumption|(simp only[ByteArray.size_extract,List.length_map];omega)|simp[*]) (by first|omega|decide|assumption|(simp only[ByteArray.size_extract,List.length_map];omega)|simp[*])⟩,wO,Zdj,I,Zef,I⟩,by kernel_rfl,?_⟩
   refine rg [.i ((↑(Prod.fst (i,ss,r)):Int) +1)]<|J Zdg ?_
   refine⟨(i+1,ss.set i ⟨x.free,2+ac l r 3⟩,r+1),[some 2,some 3,some 4,some 190,some 5],[],⟨rfl,Za1,⟨Zaa,⟨Zad,⟨Zdf,⟨Zds,⟨⟨rfl,⟨rfl,⟨rfl,⟨rfl,⟨rfl,⟨rfl,⟨rfl,⟨rfl,⟨rfl,⟨rfl,⟨rfl,⟨(congrArg (V.own _) (es)),Zde⟩⟩⟩⟩⟩⟩⟩⟩⟩⟩⟩⟩,I⟩⟩⟩⟩⟩,I⟩,?_,?_⟩
   rotate_left
   (dsimp only;omega)
   dsimp only
   all_goals first|exact⟨by omega,by rw[List.length_set];exact i2,by omega⟩|(dsimp only;omega)|omega
  ·conv=>whnf
   refine W.sq<|g 44 48 []<|J UE<|W.cn<|J (noT SI) fun _=>W.exit<|gd 59 62 [[],[],[],[],[]] ?_
   conv=>whnf
   refine J ⟨I,I,I,UL,UA,I⟩<|J KR<|W.ret<|EndsW.rt<|J Zdc ?_
   exact⟨⟨w.boss.workers,w.boss.up,w.boss.now,w.boss.since,w.boss.epoch,w.boss.given,⟨w.boss.log.safe,w.boss.log.loose⟩,w.boss.results,w.boss.jobs,ss,w.boss.owed⟩,w.plan,r,rfl,rfl,⟨⟨hm.safe,hm.loose,hm.all,hm.res,hm.jobs,by show ss.length≤100;omega,hm.owed⟩,hs,b1,b2⟩,by omega,by omega⟩
 by_cases k2:ac l q 6 = 2
 ·refine dc ?_
  conv=>whnf
  refine g 0 0 []<|J UB<|g 14 16 [.call (bh w) ([rdC l q])]<|J Zej<|g 16 18 []<|J Zcm<|W.sq<|g 18 19 [.call (V.i (ac l q 6)) ([rdC l (q+1),[]])]<|J ⟨I,⟨UB,I,UV,UA,aa _ _ _ OM OM OM OM⟩,I⟩<|W.blk<|g 21 22 []<|J UB<|W.cn<|J (noT dO) fun _=>g 20 21 []<|J UB<|W.cn<|J (noT dO) fun _=>g 43 44 []<|J UB<|W.cn<|J (fun _=>?_) (noF tO)
  refine W.sq<|g 62 64 []<|J UA<|W.blk ?_
  refine W.lp (fun s (x:Nat×List Owed×Int)=>⟨[(0,s.s 0),(2,s.s 2),(3,s.s 3),(4,s.s 4),(5,s.s 5),(7,.i x.1),(42,s.s 42)],[(2,[s.c 2 0,s.c 2 1,s.c 2 2,s.c 2 3,s.c 2 4,s.c 2 5,s.c 2 6,s.c 2 7,s.c 2 8,s.c 2 9,s.c 2 10,s.c 2 11]),(3,[s.c 3 0]),(4,[s.c 4 0,s.c 4 1,s.c 4 2,s.c 4 3,s.c 4 4,s.c 4 5,s.c 4 6,s.c 4 7,s.c 4 8,s.c 4 9,s.c 4 10,s.c 4 11,s.c 4 12,s.c 4 13,s.c 4 14,s.c 4 15,s.c 4 16]),(190,[.t (u8s l),.t (.i x.2.2)]),(5,[.t (.i w.boss.workers),.t (.b w.boss.up),.t (.i w.boss.now),.t (.i w.boss.since),.t (.i w.boss.epoch),.t (.i w.boss.given),.own [false] (w.boss.log.safe.map aq),.own [false] (w.boss.log.loose.map aq),.own [false] (w.boss.results.map aq),.own ey (w.boss.jobs.map aH),.own cz (w.boss.seats.map aI),.own cA (x.2.1.map aX)])],[]⟩) (fun(x:Nat×List Owed×Int)=>x.1≤w.boss.results.length∧x.2.1.length≤2000∧x.2.2 = q+1+x.1) (fun(x:Nat×List Owed×Int)=>w.boss.results.length - x.1) ((0,w.boss.owed,q+1)) [some 2,some 3,some 4,some 190,some 5] [] ⟨rfl,⟨rfl,rfl,rfl,rfl,rfl,rfl,rfl,I⟩,⟨⟨rfl,⟨rfl,⟨rfl,⟨rfl,⟨rfl,⟨rfl,⟨rfl,⟨rfl,⟨rfl,⟨rfl,⟨rfl,⟨rfl,⟨rfl,I⟩⟩⟩⟩⟩⟩⟩⟩⟩⟩⟩⟩⟩,⟨⟨rfl,⟨rfl,I⟩⟩,⟨⟨rfl,⟨rfl,⟨rfl,⟨rfl,⟨rfl,⟨rfl,⟨rfl,⟨rfl,⟨rfl,⟨rfl,⟨rfl,⟨rfl,⟨rfl,⟨rfl,⟨rfl,⟨rfl,⟨rfl,⟨rfl,I⟩⟩⟩⟩⟩⟩⟩⟩⟩⟩⟩⟩⟩⟩⟩⟩⟩⟩,⟨⟨rfl,⟨rfl,⟨rfl,I⟩⟩⟩,⟨⟨rfl,⟨rfl,⟨rfl,⟨rfl,⟨rfl,⟨rfl,⟨rfl,⟨rfl,⟨rfl,⟨rfl,⟨rfl,⟨rfl,⟨rfl,I⟩⟩⟩⟩⟩⟩⟩⟩⟩⟩⟩⟩⟩,I⟩⟩⟩⟩⟩,I⟩ ?_ ?_
  ·exact⟨Nat.zero_le _,b13,by show q+1 = q+1+ ((0:Nat):Int);omega⟩
  rintro⟨i,os,r⟩ ⟨i1,i2,i3⟩
  dsimp only at i1 i2 i3
  by_cases hi:i < w.boss.results.length
  ·obtain⟨y,hy⟩:=ak (xs:=w.boss.results) (n:=i) OM
   have p3:=av l r 2
   conv=>whnf
   refine W.sq<|g 64 68 []<|J UE<|W.cn<|J (fun _=>(W.skip (W.sq (W.blk (g 68 74 [.call (V.i (ac l r 2)) ([rdC l (r+1),[]]),.i ((2000:Int) - ac l r 2)]<|J ⟨I,⟨UB,I,UV,UA,aa _ _ _ (by first|omega|decide|assumption|(simp only[ByteArray.size_extract,List.length_map];omega)|simp[*]) (by first|omega|decide|assumption|(simp only[ByteArray.size_extract,List.length_map];omega)|simp[*]) (by first|omega|decide|assumption|(simp only[ByteArray.size_extract,List.length_map];omega)|simp[*]) (by first|omega|decide|assumption|(simp only[ByteArray.size_extract,List.length_map];omega)|simp[*])⟩,wO,I,I⟩ (g 0 0 []<|J UA (W.blk (W.lp (fun s (x:Nat×List Owed)=>⟨[(0,s.s 0),(2,s.s 2),(3,s.s 3),(4,s.s 4),(5,s.s 5),(7,s.s 7),(8,s.s 8),(9,.i (1+x.1)),(42,s.s 42)],[(190,[s.c 190 0,s.c 190 1]),(2,[s.c 2 0,s.c 2 1,s.c 2 2,s.c 2 3,s.c 2 4,s.c 2 5,s.c 2 6,s.c 2 7,s.c 2 8,s.c 2 9,s.c 2 10,s.c 2 11]),(3,[s.c 3 0]),(4,[s.c 4 0,s.c 4 1,s.c 4 2,s.c 4 3,s.c 4 4,s.c 4 5,s.c 4 6,s.c 4 7,s.c 4 8,s.c 4 9,s.c 4 10,s.c 4 11,s.c 4 12,s.c 4 13,s.c 4 14,s.c 4 15,s.c 4 16]),(5,[.t (.i w.boss.workers),.t (.b w.boss.up),.t (.i w.boss.now),.t (.i w.boss.since),.t (.i w.boss.epoch),.t (.i w.boss.given),.own [false] (w.boss.log.safe.map aq),.own [false] (w.boss.log.loose.map aq),.own [false] (w.boss.results.map aq),.own ey (w.boss.jobs.map aH),.own cz (w.boss.seats.map aI),.own cA (x.2.map aX)])],[]⟩) (fun(x:Nat×List Owed)=>x.2.length≤2000∧x.1≤x.2.length) (fun(x:Nat×List Owed)=>2000 - x.2.length) ((0,os)) [some 190,some 2,some 3,some 4,some 5] [] ⟨rfl,⟨rfl,rfl,rfl,rfl,rfl,rfl,rfl,rfl,rfl,I⟩,⟨Zds,⟨Zaa,⟨Zad,⟨Zdf,Zd1⟩⟩⟩⟩,I⟩ ⟨by omega,by simp⟩ ?_)))))))) (noF SI)
   rintro⟨j,os2⟩ ⟨j1,j2⟩
   dsimp only at j1 j2
   by_cases hE:y = emp
   ·conv=>whnf
    refine W.sq<|g 74 86 [.n (Prod.fst (i,os,r)),.x (aq y),BF,BF,BF,BF,BF,BF]<|J ⟨I,I,I,Zdj,xA,I,I,nO,nO,nO,nO,nO,nO,I⟩<|W.cn<|J (noT rfl) fun _=>W.exit<|rg [.i ((↑(Prod.fst (i,os,r)):Int) +1)]<|J Zdg ?_
    refine⟨(i+1,os2,r+1),[some 2,some 3,some 4,some 190,some 5],[],⟨rfl,Za1,⟨Zaa,⟨Zad,⟨Zdf,⟨Zds,Zd1⟩⟩⟩⟩,I⟩,?_,?_⟩
    rotate_left
    (dsimp only;omega)
    dsimp only
    omega
    all_goals first|exact⟨by omega,j1,by omega⟩|(dsimp only;omega)|omega
   ·by_cases hL:(os2.length:Int) < 2000 - ac l r 2
    ·have es:os2.map aX++ [aX ⟨1,1000+ (1+ (j:Int)),i⟩] = (os2++ [(⟨1,1000+ (1+ (j:Int)),(i:Int)⟩:Owed)]).map aX:=by rw[List.map_append];rfl
     conv=>whnf
     refine W.sq<|g 74 86 [.n (Prod.fst (i,os,r)),.x (aq y),BT,BT,BT,BT,BT,BT]<|J ⟨I,I,I,Zdj,xA,I,I,Zan,Zan,Zan,Zan,Zan,ah OM,I⟩<|W.cn<|J (fun _=>(W.skip (W.sq (W.blk (rg [.i (1000+ (1+ (↑(Prod.fst (j,os2)):Int)))]<|J ⟨I,I,I,wO,I,I,⟨UC,I⟩,Zdh,I,UA,I⟩ (rg [.i (1+ (↑(Prod.fst (j,os2)):Int) +1)]<|J Zdg ?_)))))) (noF (by simp_all))
     refine⟨(j+1,os2++ [(⟨1,1000+ (1+ (j:Int)),(i:Int)⟩:Owed)]),[some 190,some 2,some 3,some 4,some 5],[],⟨rfl,⟨rfl,rfl,rfl,rfl,rfl,rfl,rfl,rfl,rfl,I⟩,⟨Zds,⟨Zaa,⟨Zad,⟨Zdf,⟨⟨rfl,⟨rfl,⟨rfl,⟨rfl,⟨rfl,⟨rfl,⟨rfl,⟨rfl,⟨rfl,⟨rfl,⟨rfl,⟨rfl,⟨(congrArg (V.own _) (es)),I⟩⟩⟩⟩⟩⟩⟩⟩⟩⟩⟩⟩⟩,I⟩⟩⟩⟩⟩,I⟩,?_,?_⟩
     rotate_left
     rotate_right 1
     dsimp only
     all_goals first|exact⟨by rw[List.length_append,List.length_singleton];omega,by rw[List.length_append,List.length_singleton];omega⟩|(simp only[List.length_append,List.length_singleton];omega)|(dsimp only;omega)|omega
    ·conv=>whnf
     refine W.sq<|g 74 86 [.n (Prod.fst (i,os,r)),.x (aq y),BT,BT,BT,BT,BT,BT]<|J ⟨I,I,I,Zdj,xA,I,I,Zan,Zan,Zan,Zan,Zan,ah OM,I⟩<|W.cn<|J (noT (by simp_all)) fun _=>W.exit<|rg [.i ((↑(Prod.fst (i,os,r)):Int) +1)]<|J Zdg ?_
     refine⟨(i+1,os2,r+1),[some 2,some 3,some 4,some 190,some 5],[],⟨rfl,Za1,⟨Zaa,⟨Zad,⟨Zdf,⟨Zds,Zd1⟩⟩⟩⟩,I⟩,?_,?_⟩
     rotate_left
     (dsimp only;omega)
     dsimp only
     omega
     all_goals first|exact⟨by omega,j1,by omega⟩|(dsimp only;omega)|omega
  ·conv=>whnf
   refine W.sq<|g 64 68 []<|J UE<|W.cn<|J (noT SI) fun _=>W.exit<|gd 68 101 [[],[],[],[],[]] ?_
   conv=>whnf
   refine J ⟨I,I,I,UL,UA,I⟩<|J KR<|W.ret<|EndsW.rt<|J Zdc ?_
   exact⟨⟨w.boss.workers,w.boss.up,w.boss.now,w.boss.since,w.boss.epoch,w.boss.given,⟨w.boss.log.safe,w.boss.log.loose⟩,w.boss.results,w.boss.jobs,w.boss.seats,os⟩,w.plan,r,rfl,rfl,⟨⟨hm.safe,hm.loose,hm.all,hm.res,hm.jobs,hm.seats,by show os.length≤4000;omega⟩,hs,b1,b2⟩,by omega,by omega⟩
 by_cases k3:ac l q 6 = 3
 ·by_cases hup:w.boss.up = true
  ·refine dc ?_
   conv=>whnf
   refine g 0 0 []<|J UB<|g 14 16 [.call (bh w) ([rdC l q])]<|J Zej<|g 16 18 []<|J Zcm<|W.sq<|g 18 19 [.call (V.i (ac l q 6)) ([rdC l (q+1),[]])]<|J ⟨I,⟨UB,I,UV,UA,aa _ _ _ OM OM OM OM⟩,I⟩<|W.blk<|g 21 22 []<|J UB<|W.cn<|J (noT dO) fun _=>g 20 21 []<|J UB<|W.cn<|J (noT dO) fun _=>g 43 44 []<|J UB<|W.cn<|J (noT dO) fun _=>?_
   refine g 62 64 []<|J UB<|W.cn<|J (fun _=>(W.sq (g 101 104 []<|J UB (W.cn<|J (fun _=>(rg [.call (V.i (ac l (q+1) 2)) ([rdC l (q+1+1),[]]),.i ((1000000:Int) - ac l (q+1) 2)]<|J ⟨I,⟨UB,I,UV,UA,aa _ _ _ OM OM OM OM⟩,wO,I,UA,I⟩ (gd 104 112 [[],[],[],[],[]] ?_))) (noF AS))))) (noF tO)
   conv=>whnf
   refine⟨⟨I,I,I,UL,UA,I⟩,by kernel_rfl,?_⟩
   refine W.ret<|EndsW.rt<|J Zdc ?_
   exact⟨⟨w.boss.workers,w.boss.up,w.boss.now,w.boss.since,w.boss.epoch,1000000 - ac l (q+1) 2,⟨w.boss.log.safe,w.boss.log.loose⟩,w.boss.results,w.boss.jobs,w.boss.seats,w.boss.owed⟩,w.plan,_,rfl,rfl,⟨⟨hm.safe,hm.loose,hm.all,hm.res,hm.jobs,hm.seats,hm.owed⟩,hs,b1,b2⟩,by omega,by omega⟩
  ·refine dc ?_
   conv=>whnf
   refine g 0 0 []<|J UB<|g 14 16 [.call (bh w) ([rdC l q])]<|J Zej<|g 16 18 []<|J Zcm<|W.sq<|g 18 19 [.call (V.i (ac l q 6)) ([rdC l (q+1),[]])]<|J ⟨I,⟨UB,I,UV,UA,aa _ _ _ OM OM OM OM⟩,I⟩<|W.blk<|g 21 22 []<|J UB<|W.cn<|J (noT dO) fun _=>g 20 21 []<|J UB<|W.cn<|J (noT dO) fun _=>g 43 44 []<|J UB<|W.cn<|J (noT dO) fun _=>?_
   refine g 62 64 []<|J UB<|W.cn<|J (fun _=>(W.sq (g 101 104 []<|J UB (W.cn<|J (noT SI) fun _=>(W.skip (gd 104 112 [[],[],[],[],[]] ?_)))))) (noF tO)
   conv=>whnf
   refine⟨⟨I,I,I,UL,UA,I⟩,by kernel_rfl,?_⟩
   refine W.ret<|EndsW.rt<|J Zdc ?_
   exact⟨w.boss,w.plan,_,rfl,rfl,⟨hm,hs,b1,b2⟩,by omega,by omega⟩
 by_cases k4:ac l q 6 = 4
 ·refine dc ?_
  conv=>whnf
  refine g 0 0 []<|J UB<|g 14 16 [.call (bh w) ([rdC l q])]<|J Zej<|g 16 18 []<|J Zcm<|W.sq<|g 18 19 [.call (V.i (ac l q 6)) ([rdC l (q+1),[]])]<|J ⟨I,⟨UB,I,UV,UA,aa _ _ _ OM OM OM OM⟩,I⟩<|W.blk<|g 21 22 []<|J UB<|W.cn<|J (noT dO) fun _=>g 20 21 []<|J UB<|W.cn<|J (noT dO) fun _=>g 43 44 []<|J UB<|W.cn<|J (noT dO) fun _=>?_
  refine g 62 64 []<|J UB<|W.cn<|J (noT dO) fun _=>g 101 103 []<|J UB<|W.cn<|J (fun _=>(g 112 118 [.call (V.i (ac l (q+1) 2)) ([rdC l (q+1+1),[]]),.i ((1000000:Int) - ac l (q+1) 2)]<|J ⟨I,⟨UB,I,UV,UA,aa _ _ _ OM OM OM OM⟩,wO,I,UA,I⟩ (W.sq (g 19 20 []<|J UA (W.blk (W.lp (fun s (x:Nat×List Job)=>⟨[(0,s.s 0),(2,s.s 2),(3,s.s 3),(4,s.s 4),(5,s.s 5),(10,.i x.1),(42,s.s 42)],[(190,[s.c 190 0,s.c 190 1]),(2,[s.c 2 0,s.c 2 1,s.c 2 2,s.c 2 3,s.c 2 4,s.c 2 5,s.c 2 6,s.c 2 7,s.c 2 8,s.c 2 9,s.c 2 10,s.c 2 11]),(3,[s.c 3 0]),(4,[s.c 4 0,s.c 4 1,s.c 4 2,s.c 4 3,s.c 4 4,s.c 4 5,s.c 4 6,s.c 4 7,s.c 4 8,s.c 4 9,s.c 4 10,s.c 4 11,s.c 4 12,s.c 4 13,s.c 4 14,s.c 4 15,s.c 4 16]),(5,[.t (.i w.boss.workers),.t (.b w.boss.up),.t (.i (1000000 - ac l (q+1) 2)),.t (.i w.boss.since),.t (.i w.boss.epoch),.t (.i w.boss.given),.own [false] (w.boss.log.safe.map aq),.own [false] (w.boss.log.loose.map aq),.own [false] (w.boss.results.map aq),.own ey (x.2.map aH),.own cz (w.boss.seats.map aI),.own cA (w.boss.owed.map aX)])],[]⟩) (fun(x:Nat×List Job)=>x.1≤w.boss.jobs.length∧x.2.length = w.boss.jobs.length) (fun(x:Nat×List Job)=>w.boss.jobs.length - x.1) ((0,w.boss.jobs)) [some 190,some 2,some 3,some 4,some 5] [] ⟨rfl,Za1,⟨Zds,⟨Zaa,⟨Zad,⟨Zdf,Zd1⟩⟩⟩⟩,I⟩ (by simp) ?_)))))) (noF tO)
  rintro⟨i,js⟩ ⟨i1,i2⟩
  dsimp only at i1 i2
  by_cases hi:i < w.boss.jobs.length
  ·obtain⟨x,hx⟩:=ak (xs:=js) (n:=i) OM
   have es:(js.map aH).set i (aH eS) = (js.set i eS).map aH:=by rw[←List.map_set]
   conv=>whnf
   refine W.sq<|g 118 122 []<|J UE<|W.cn<|J (fun _=>(W.skip (W.sq (W.blk (rg [.n (Prod.fst (i,js)),.x (aH x)]<|J ⟨I,I,I,I,Zdj,⟨UC,xA⟩,I⟩ (rg [.i ((↑(Prod.fst (i,js)):Int) +1)]<|J Zdg ?_)))))) (noF SI)
   refine⟨(i+1,js.set i eS),[some 190,some 2,some 3,some 4,some 5],[],⟨rfl,Za1,⟨Zds,⟨Zaa,⟨Zad,⟨Zdf,⟨⟨rfl,⟨rfl,⟨rfl,⟨rfl,⟨rfl,⟨rfl,⟨rfl,⟨rfl,⟨rfl,⟨rfl,⟨(congrArg (V.own _) (es)),Zad⟩⟩⟩⟩⟩⟩⟩⟩⟩⟩⟩,I⟩⟩⟩⟩⟩,I⟩,?_,?_⟩
   rotate_left
   (dsimp only;omega)
   dsimp only
   all_goals first|exact⟨by omega,by rw[List.length_set];exact i2⟩|(dsimp only;omega)|omega
  ·conv=>whnf
   refine W.sq<|g 118 122 []<|J UE<|W.cn<|J (noT SI) fun _=>W.exit<|gd 122 133 [[],[],[],[],[]] ?_
   conv=>whnf
   refine J ⟨I,I,I,UL,UA,I⟩<|J KR<|W.ret<|EndsW.rt<|J Zdc ?_
   exact⟨⟨w.boss.workers,w.boss.up,1000000 - ac l (q+1) 2,w.boss.since,w.boss.epoch,w.boss.given,⟨w.boss.log.safe,w.boss.log.loose⟩,w.boss.results,js,w.boss.seats,w.boss.owed⟩,w.plan,_,rfl,rfl,⟨⟨hm.safe,hm.loose,hm.all,hm.res,by show js.length≤100;omega,hm.seats,hm.owed⟩,hs,b1,b2⟩,by omega,by omega⟩
 have ce:=lK 299 OM
 have ce2:F lv [.val (.i 299)] (.own [false] ((aZ 299).map aq)) [[]]:=ce
 have hel:=iZ 299
 have hf12:=nk 12
 have hpw:cy ⟨ec 12⟩:=kB rE
 have hDa:∀ s∈aZ 299++ [],s.size≤12:=fun s q=>by rw[List.append_nil]at q;exact tQ q
 have hD:BossTight Bq:=⟨⟨by show(0:Int)≤2;omega,by show(2:Int)≤8;omega⟩,⟨by show(0:Int)≤3;omega,by show(3:Int)≤1000000;omega⟩,⟨Int.le_refl _,by show(0:Int)≤300;omega⟩,by show(aZ 299).length≤310;omega,Nat.zero_le _,hDa,Nat.zero_le _,Nat.zero_le _,Nat.zero_le _,Nat.zero_le _⟩
 have hR:=tZ ⟨ec 12⟩ hD
 have cb0:=ff Bq ⟨ec 12⟩ (Bi (fF hpw)) (kv hD)
 have hrl:(gP Bq ⟨ec 12⟩).results.length = 12:=by
  rw[H8]
  show(aw ⟨ec 12⟩ (aZ 299)).results.length = 12
  rw[(jz (p:=⟨ec 12⟩) rE 299 OM).2.2,List.length_replicate,nk]
 generalize gP Bq ⟨ec 12⟩ = bb at cb0 hR hrl
 have cb:F d9 [.val (.agg [.t (.i 2),.t (.b false),.t (.i 3),.t (.i 0),.t (.i 0),.t (.i 0),.t (.slc [false] ((aZ 299).map aq)),.t (.slc [false] []),.t (.slc [false] []),.t (.slc ey []),.t (.slc cz []),.t (.slc cA [])]),.val (.agg [.t (.slc eF ((ec 12).map aD))])] (ay bb) [[],[]]:=cb0
 clear cb0
 obtain⟨⟨c1,c2⟩,⟨c3,c4⟩,⟨c5,c6⟩,c7,c8,c9,c10,c11,c12,c13⟩:=hR
 refine dc ?_
 conv=>whnf
 refine g 0 0 []<|J UB<|g 14 16 [.call (bh w) ([rdC l q])]<|J Zej<|g 16 18 []<|J Zcm<|W.sq<|g 18 19 [.call (V.i (ac l q 6)) ([rdC l (q+1),[]])]<|J ⟨I,⟨UB,I,UV,UA,aa _ _ _ OM OM OM OM⟩,I⟩<|W.blk<|g 21 22 []<|J UB<|W.cn<|J (noT dO) fun _=>g 20 21 []<|J UB<|W.cn<|J (noT dO) fun _=>g 43 44 []<|J UB<|W.cn<|J (noT dO) fun _=>?_
 refine g 62 64 []<|J UB<|W.cn<|J (noT dO) fun _=>g 101 103 []<|J UB<|W.cn<|J (noT dO) fun _=>W.skip<|g 112 134 []<|J ⟨I,I,UA,I⟩<|W.sq<|g 4 5 []<|J UA<|W.blk<|W.lp (fun s (i:Nat)=>⟨[(0,s.s 0),(2,s.s 2),(3,s.s 3),(5,s.s 5),(11,s.s 11),(12,.i i),(42,s.s 42)],[(190,[s.c 190 0,s.c 190 1]),(2,[s.c 2 0,s.c 2 1,s.c 2 2,s.c 2 3,s.c 2 4,s.c 2 5,s.c 2 6,s.c 2 7,s.c 2 8,s.c 2 9,s.c 2 10,s.c 2 11]),(3,[s.c 3 0]),(5,[s.c 5 0,s.c 5 1,s.c 5 2,s.c 5 3,s.c 5 4,s.c 5 5,s.c 5 6,s.c 5 7,s.c 5 8,s.c 5 9,s.c 5 10,s.c 5 11]),(11,[.own eF ((ec i).map aD)])],[]⟩) (fun(i:Nat)=>i≤12) (fun(i:Nat)=>12 - i) (0) [some 190,some 2,some 3,some 5,some 11] [] ⟨rfl,Za1,⟨Zds,⟨Zaa,⟨Zad,⟨Zaa,Zdv⟩⟩⟩⟩,I⟩ OM ?_
 intro i hi
 by_cases hi2:i < 12
 ·have cd:=eN i OM OM
  have hds:=eT i
  have es:=EX i
  have hfl:=nk i
  conv=>whnf
  refine W.sq<|g 134 135 []<|J UB<|W.cn<|J (fun _=>(W.skip (W.sq (W.blk (rgd [[],[],[],[.call (V.s (dX (i:Int))) [[]]],[.s ({data:=#[(102:UInt8),(117:UInt8),(108:UInt8),(108:UInt8)]:ByteArray} ++dX (i:Int))],[],[],[],[],[]] ?_))))) (noF tO)
  conv=>whnf
  refine⟨⟨I,I,I,Zaj,⟨rfl,(by simp only[bsz,bsa,ByteArray.size_append,List.size_toArray,qE];omega)⟩,I,⟨UC,I⟩,Zdh,I,UA,I⟩,by kernel_rfl,?_⟩
  refine rg [.i ((i:Int) +1)]<|J Zdg ?_
  refine⟨i+1,[some 190,some 2,some 3,some 5,some 11],[],⟨rfl,Za1,⟨Zds,⟨Zaa,⟨Zad,⟨Zaa,⟨⟨rfl,⟨(congrArg (V.own _) (es)),I⟩⟩,I⟩⟩⟩⟩⟩,I⟩,?_,?_⟩
  rotate_left
  (dsimp only;omega)
  dsimp only
  omega
 obtain rfl:i = 12:=by omega
 conv=>whnf
 refine W.sq<|g 134 135 []<|J UB<|W.cn<|J (noT rfl) fun _=>W.exit<|gd 135 152 [[.call (V.own [false] (List.map aq (aZ 299))) [[]]],[],[],[],[.call (ay bb) [[],[]]],[]] ?_
 conv=>whnf
 refine J ⟨Zaj,I,I,I,Zak,UL,I⟩<|J KR<|W.sq<|g 12 13 []<|J UA<|W.blk ?_
 refine W.lp (fun s (x:Nat×List ByteArray×List ByteArray×Int)=>⟨[(0,s.s 0),(2,s.s 2),(3,s.s 3),(5,s.s 5),(11,s.s 11),(13,.i x.1),(42,s.s 42)],[(2,[s.c 2 0,s.c 2 1,s.c 2 2,s.c 2 3,s.c 2 4,s.c 2 5,s.c 2 6,s.c 2 7,s.c 2 8,s.c 2 9,s.c 2 10,s.c 2 11]),(3,[s.c 3 0]),(11,[s.c 11 0]),(190,[.t (u8s l),.t (.i x.2.2.2)]),(5,[.t (.i bb.workers),.t (.b bb.up),.t (.i bb.now),.t (.i bb.since),.t (.i bb.epoch),.t (.i bb.given),.own [false] (bb.log.safe.map aq),.own [false] (x.2.2.1.map aq),.own [false] (x.2.1.map aq),.own ey (bb.jobs.map aH),.own cz (bb.seats.map aI),.own cA (bb.owed.map aX)])],[]⟩) (fun(x:Nat×List ByteArray×List ByteArray×Int)=>x.1≤10∧x.2.1.length = 12∧x.2.2.1.length≤bb.log.loose.length+x.1∧(∀ s∈x.2.2.1,s.size≤12)∧x.2.2.2 = q+1+x.1) (fun(x:Nat×List ByteArray×List ByteArray×Int)=>10 - x.1) ((0,bb.results,bb.log.loose,q+1)) [some 2,some 3,some 11,some 190,some 5] [] ⟨rfl,⟨rfl,rfl,rfl,rfl,rfl,rfl,rfl,I⟩,⟨⟨rfl,⟨rfl,⟨rfl,⟨rfl,⟨rfl,⟨rfl,⟨rfl,⟨rfl,⟨rfl,⟨rfl,⟨rfl,⟨rfl,⟨rfl,I⟩⟩⟩⟩⟩⟩⟩⟩⟩⟩⟩⟩⟩,⟨⟨rfl,⟨rfl,I⟩⟩,⟨⟨rfl,⟨rfl,I⟩⟩,⟨⟨rfl,⟨rfl,⟨rfl,I⟩⟩⟩,⟨⟨rfl,⟨rfl,⟨rfl,⟨rfl,⟨rfl,⟨rfl,⟨rfl,⟨rfl,⟨rfl,⟨rfl,⟨rfl,⟨rfl,⟨rfl,I⟩⟩⟩⟩⟩⟩⟩⟩⟩⟩⟩⟩⟩,I⟩⟩⟩⟩⟩,I⟩ ?_ ?_
 ·exact⟨by dsimp only;omega,hrl,by dsimp only;omega,fun s q=>c9 s (List.mem_append_right _ q),by show q+1 = q+1+ ((0:Nat):Int);omega⟩
 rintro⟨i,rs,lo,r⟩ ⟨i1,i2,i3,i4,i5⟩
 dsimp only at i1 i2 i3 i4 i5
 have p3:=av l r 2
 by_cases hi:(i:Int) < 10 - ac l r 2
 ·obtain⟨y,hy⟩:=ak (xs:=rs) (n:=i) OM
  have hg:(ec 12)[i]? = some ⟨ew i,1,[]⟩:=wK OM
  have cv:F qB [.val (.s (ew i)),.val (.t (.slc [false] []))] (.s (bm (ew i) [])) [[],[]]:=ib (ew i) [] (by have:=eT (i:Int);unfold ew;rw[ByteArray.size_append];have e:(⟨#[102,117,108,108]⟩:ByteArray).size = 4:=rfl;omega) (Nat.zero_le _) (by decide) (by intro s hs;cases hs)
  have hvs:=mz (ew i) []
  have cf:=cK 2 bb.epoch i (bm (ew i) []) OM
  have hfs:=gw ⟨2,bb.epoch,i,bm (ew i) []⟩
  dsimp only at hfs
  have e1:(rs.map aq).set i (aq (bm (ew i) [])) = (rs.set i (bm (ew i) [])).map aq:=by rw[←List.map_set]
  have e2:(rs.set i (bm (ew i) []))[i]? = some (bm (ew i) []):=List.getElem?_set_self OM
  have e3:=Kg lo (bB ⟨2,bb.epoch,i,bm (ew i) []⟩)
  have e4:=Dl lo (bB ⟨2,bb.epoch,i,bm (ew i) []⟩)
  have a1:=KU i4 (y:=bB ⟨2,bb.epoch,i,bm (ew i) []⟩) OM
  generalize bm (ew i) [] = vv at cv hvs cf hfs e1 e2 e3 e4 a1
  conv=>whnf
  refine W.sq<|g 152 156 [.call (V.i (ac l r 2)) ([rdC l (r+1),[]]),.i ((10:Int) - ac l r 2)]<|J ⟨I,I,⟨UB,I,UV,UA,aa _ _ _ (by first|omega|decide|assumption|(simp only[ByteArray.size_extract,List.length_map];omega)|simp[*]) (by first|omega|decide|assumption|(simp only[ByteArray.size_extract,List.length_map];omega)|simp[*]) (by first|omega|decide|assumption|(simp only[ByteArray.size_extract,List.length_map];omega)|simp[*]) (by first|omega|decide|assumption|(simp only[ByteArray.size_extract,List.length_map];omega)|simp[*])⟩,wO,I,I⟩<|W.cn<|J (fun _=>(W.skip (W.sq (W.blk (gd 156 171 [[],[],[],[],[],[],[.n (Prod.fst (i,rs,lo,r))],[],[.x (aD {name:=ew i,cost:=1,deps:=[]:Task})],[],[.call (V.s vv) [[],[]]],[.n (Prod.fst (i,rs,lo,r))],[.x (aq y)]] ?_))))) (noF tO)
  conv=>whnf
  refine⟨⟨I,I,I,I,I,I,Zdj,I,xA,I,Zaq,Zdj,Zef,I⟩,by kernel_rfl,?_⟩
  refine rgd [[],[],[],[],[],[],[],[],[],[.n (Prod.fst (i,rs,lo,r))],[.x (dM (aq y) 0 [T.v (Value.string vv)])],[],[.call (V.s (bB {kind:=2,epoch:=bb.epoch,task:=(i:Int),text:=vv:Entry})) [[]]],[],[],[],[],[]] ?_
  conv=>whnf
  refine J ⟨I,I,I,I,I,I,I,I,I,Zdj,jP LN,I,Zct,US,Zdh,I,I,UA,I⟩<|J KR<|rg [.i ((↑(Prod.fst (i,rs,lo,r)):Int) +1)]<|J Zdg ?_
  refine⟨(i+1,rs.set i vv,lo++ [bB ⟨2,bb.epoch,i,vv⟩],r+1),[some 2,some 3,some 11,some 190,some 5],[],⟨rfl,Za1,⟨Zaa,⟨Zad,⟨Zad,⟨Zds,⟨⟨rfl,⟨rfl,⟨rfl,⟨rfl,⟨rfl,⟨rfl,⟨rfl,⟨rfl,⟨(congrArg (V.own _) (e3)),⟨(congrArg (V.own _) (e1)),Zds⟩⟩⟩⟩⟩⟩⟩⟩⟩⟩,I⟩⟩⟩⟩⟩,I⟩,?_,?_⟩
  rotate_left
  (dsimp only;omega)
  dsimp only
  all_goals first|exact⟨by omega,by rw[List.length_set];exact i2,by rw[e4];omega,a1,by omega⟩|(dsimp only;omega)|omega
 ·conv=>whnf
  refine W.sq<|g 152 156 [.call (V.i (ac l r 2)) ([rdC l (r+1),[]]),.i ((10:Int) - ac l r 2)]<|J ⟨I,I,⟨UB,I,UV,UA,aa _ _ _ (by first|omega|decide|assumption|(simp only[ByteArray.size_extract,List.length_map];omega)|simp[*]) (by first|omega|decide|assumption|(simp only[ByteArray.size_extract,List.length_map];omega)|simp[*]) (by first|omega|decide|assumption|(simp only[ByteArray.size_extract,List.length_map];omega)|simp[*]) (by first|omega|decide|assumption|(simp only[ByteArray.size_extract,List.length_map];omega)|simp[*])⟩,wO,I,I⟩<|W.cn<|J (noT dO) fun _=>W.exit<|gd 5 14 [[],[],[],[]] ?_
  conv=>whnf
  refine J ⟨I,I,UL,UA,I⟩<|J KR<|W.ret<|EndsW.rt<|J Zdc ?_
  exact⟨⟨bb.workers,bb.up,bb.now,bb.since,bb.epoch,bb.given,⟨bb.log.safe,lo⟩,rs,bb.jobs,bb.seats,bb.owed⟩,⟨ec 12⟩,r+1,rfl,rfl,⟨⟨by show bb.log.safe.length≤400;omega,by show lo.length≤400;omega,fun s hs=>by
   rcases List.mem_append.1 hs with hs|hs
   ·have:=c9 s (List.mem_append_left _ hs);omega
   ·have:=i4 s hs;omega,by show rs.length≤100;omega,by show bb.jobs.length≤100;omega,by show bb.seats.length≤100;omega,by show bb.owed.length≤4000;omega⟩,hpw,c1,c2⟩,by omega,by omega⟩
theorem wS(l:List Int)(pos:Int)(h:eP l∧0≤pos∧pos≤800000):∃ x:(Boss×Plan)×Int,F jE [.ptr (rdC l pos)] (.tup [ay x.1.1,db x.1.2]) [rdC l x.2]∧EdgeOk x.1.1 x.1.2∧pos≤x.2∧x.2≤pos+6000:=by
 obtain⟨res,outs,⟨b,p,pos2,rfl,rfl,h1,h2,h3⟩,hF⟩:=NR l pos h.1 h.2.1 h.2.2
 exact⟨((b,p),pos2),hF,h1,h2,h3⟩
open Classical in
noncomputable def nU(l:List Int)(pos:Int):(Boss×Plan)×Int:=if h:eP l∧0≤pos∧pos≤800000 then(wS l pos h).choose else((fC,⟨[]⟩),pos)
theorem yn(l:List Int)(pos:Int)(hl:eP l)(h0:0≤pos)(h1:pos≤800000):F jE [.ptr (rdC l pos)] (.tup [ay (nU l pos).1.1,db (nU l pos).1.2]) [rdC l (nU l pos).2]:=by
 have h:eP l∧0≤pos∧pos≤800000:=⟨hl,h0,h1⟩
 rw[nU,dif_pos h]
 exact(wS l pos h).choose_spec.1
theorem NU(l:List Int)(pos:Int):EdgeOk (nU l pos).1.1 (nU l pos).1.2∧pos≤(nU l pos).2∧(nU l pos).2≤pos+6000:=by
 unfold nU
 split
 ·rename_i h;exact(wS l pos h).choose_spec.2
 ·exact⟨⟨iH (gv (w:=noWorld) (.inr rfl)),no_dolim.small,Int.le_refl _,by show(0:Int)≤8;omega⟩,Int.le_refl _,by dsimp only;omega⟩
end Go.K
end
section
open Go Go.Tm Go.Proofs
namespace Go.K
structure AnyOk (b:Boss) (p:Plan):Prop where
 mid:BossMid b
 small:cy p
theorem NT(l:List Int)(pos:Int)(hl:eP l)(h0:0≤pos)(h1:pos≤700000):∃ res outs,(∃ (b:Boss) (p:Plan) (pos2:Int),res = .tup [ay b,db p]∧outs = [rdC l pos2]∧AnyOk b p∧pos≤pos2∧pos2≤pos+7000)∧F zZ [.ptr (rdC l pos)] res outs:=by
 have p8:=av l pos 8
 by_cases k:ac l pos 8 = 0
 ·have ce:=yn l (pos+1) hl OM OM
  obtain⟨e1,e2,e3⟩:=NU l (pos+1)
  generalize(nU l (pos+1)).1.1 = b at ce e1
  generalize(nU l (pos+1)).1.2 = p at ce e1
  generalize(nU l (pos+1)).2 = u at ce e2 e3
  refine kY ?_
  conv=>whnf
  refine g 0 0 []<|J UB<|W.sq<|g 5 7 [.call (V.i (ac l pos 8)) ([rdC l (pos+1),[]])]<|J ⟨I,⟨UB,I,UV,UA,aa _ _ _ OM OM OM OM⟩,I,I⟩<|W.cn<|J (fun _=>(g 7 12 [.call (V.tup [ay b,db p]) ([rdC l u])]<|J ⟨I,Zb2,I,I,UL,UA,I⟩ (W.ret (EndsW.rt<|J Zdc ?_)))) (noF tO)
  exact⟨b,p,u,rfl,rfl,⟨e1.mid,e1.small⟩,by omega,by omega⟩
 ·have cr:=kj l (pos+1) hl OM OM
  obtain⟨g1,_,g3,g4⟩:=C3 l (pos+1)
  generalize(iK l (pos+1)).1 = w at cr g1
  generalize(iK l (pos+1)).2 = q at cr g3 g4
  have ht:=gv g1
  have hs:=(cZ g1).small
  have p7:=av l q 7
  by_cases k7:ac l q 7 = 0
  ·have cs:=uW l (q+1) w.boss ht hl OM OM
   obtain⟨s1,s2,s3⟩:=Iz l (q+1) w.boss
   generalize(ja l (q+1) w.boss).1 = b at cs s1
   generalize(ja l (q+1) w.boss).2 = u at cs s2 s3
   refine kY ?_
   conv=>whnf
   refine g 0 0 []<|J UB<|W.sq<|g 5 7 [.call (V.i (ac l pos 8)) ([rdC l (pos+1),[]])]<|J ⟨I,⟨UB,I,UV,UA,aa _ _ _ OM OM OM OM⟩,I,I⟩<|W.cn<|J (noT dO) fun _=>W.skip<|g 7 14 [.call (bh w) ([rdC l q])]<|J Zej<|W.sq<|g 14 16 [.call (V.i (ac l q 7)) ([rdC l (q+1),[]])]<|J ⟨I,⟨UB,I,UV,UA,aa _ _ _ OM OM OM OM⟩,I,I⟩<|W.cn<|J (fun _=>(gd 16 23 [[],[],[],[.call (ay b) ([rdC l u,[]])],[],[],[],[]] ?_)) (noF tO)
   conv=>whnf
   refine⟨⟨I,I,I,⟨Zdi,I,UB,UA,AS⟩,I,I,UL,UA,I⟩,by kernel_rfl,?_⟩
   refine W.ret<|EndsW.rt<|J Zdc ?_
   exact⟨b,w.plan,u,rfl,rfl,⟨s1,hs⟩,by omega,by omega⟩
  ·refine kY ?_
   conv=>whnf
   refine g 0 0 []<|J UB<|W.sq<|g 5 7 [.call (V.i (ac l pos 8)) ([rdC l (pos+1),[]])]<|J ⟨I,⟨UB,I,UV,UA,aa _ _ _ OM OM OM OM⟩,I,I⟩<|W.cn<|J (noT dO) fun _=>W.skip<|g 7 14 [.call (bh w) ([rdC l q])]<|J Zej<|W.sq<|g 14 16 [.call (V.i (ac l q 7)) ([rdC l (q+1),[]])]<|J ⟨I,⟨UB,I,UV,UA,aa _ _ _ OM OM OM OM⟩,I,I⟩<|W.cn<|J (noT dO) fun _=>W.skip<|gd 4 27 [[],[],[],[],[],[]] ?_
   conv=>whnf
   refine J ⟨I,I,I,I,UL,UA,I⟩<|J KR<|W.ret<|EndsW.rt<|J Zdc ?_
   exact⟨w.boss,w.plan,q+1,rfl,rfl,⟨iH ht,hs⟩,by omega,by omega⟩
theorem Ij(l:List Int)(hlen:l.length≤1048576)(h8:∀ x∈l,0≤x∧x≤255):∃ res outs,(∃ (b:Boss) (p:Plan) (k:Int),res = .tup [ay b,db p,.i k]∧outs = [[]]∧AnyOk b p)∧F dH [.val (.t (u8s l))] res outs:=by
 have hu:=Nf h8
 have co:=yr l OM
 obtain⟨res,outs,⟨b,p,q,rfl,rfl,h1,h2,h3⟩,hA⟩:=NT (l.take 2000) 0 hu OM OM
 have p6:=av (l.take 2000) q 6
 refine m7 ?_
 conv=>whnf
 refine g 0 0 []<|J UC<|g 8 10 [.call (V.tup [V.tup (rdC (List.take 2000 l) 0)]) [[]]]<|J ⟨I,Zaj,I,I⟩<|g 10 15 [.call (V.tup [ay b,db p]) ([rdC (List.take 2000 l) q])]<|J ⟨I,Zb2,I,I,I,I,I,UL,UA,I⟩<|gd 5 20 [[],[],[],[.call (V.i (ac (List.take 2000 l) q 6)) ([rdC (List.take 2000 l) (q+1),[]])],[.i (ac (List.take 2000 l) q (6:Int) - 1)],[],[],[]] ?_
 conv=>whnf
 refine J ⟨I,I,I,⟨UB,I,UV,UA,aa _ _ _ OM OM OM OM⟩,wO,UL,UA,I,I⟩<|J KR<|W.ret<|EndsW.rt<|J ⟨I,UL,I,UA,I,UA,I⟩ ?_
 exact⟨b,p,_,rfl,rfl,h1⟩
end Go.K
end
section
open Go Go.Tm Go.Proofs
namespace Go.K
theorem qO(a b:Boss)(ha:BossLim a):F hM [.val (cE a),.val (cE b)] (.b (decide (a = b))) [[],[]]:=by
 obtain⟨a1,a2,a3,a4,a5,a6,⟨sa,la⟩,ra,aj,ae,ao⟩:=a
 obtain⟨b1,b2,b3,b4,b5,b6,⟨sb,lb⟩,rb,bj,be,bo⟩:=b
 obtain⟨h1,h2,_,h3,h4,h5,h6⟩:=ha
 dsimp only at h1 h2 h3 h4 h5 h6
 have c1:=fS sa sb OM
 have c2:=fS la lb OM
 have c3:=fS ra rb OM
 by_cases e1:¬a1 = b1
 ·refine bO ?_
  conv=>whnf
  refine g 0 2 []<|J Zdb<|W.sq<|g 17 75 [BT,BT,BT,BT,BT,BT,BT,BT,BT,BT,BT,BT,BT,BT,BT,BT,BT,BT,BT,BT,BT,BT,BT,BT,BT,BT,BT,BT,BT,BT,BT,BT,BT,BT,BT,BT,BT,BT,BT,BT,BT,BT,BT,BT,BT,BT,BT,BT,BT,BT,BT,BT,BT,BT,BT] ?_
  conv=>whnf
  refine J ⟨I,I,I,I,I,I,ah OM,ah OM,ah OM,ah OM,ah OM,ah OM,I,rfl,rfl,rfl,rfl,rfl,rfl,I,rfl,rfl,rfl,rfl,rfl,rfl,I,rfl,rfl,rfl,rfl,rfl,rfl,I,rfl,rfl,rfl,rfl,rfl,rfl,I,rfl,rfl,rfl,rfl,rfl,rfl,rfl,rfl,rfl,I,rfl,rfl,rfl,rfl,rfl,rfl,rfl,rfl,rfl,I,rfl,rfl,rfl,rfl,rfl,rfl,rfl,I⟩<|W.cn<|J (fun _=>(g 8 16 []<|J UA (RT ?_))) (noF rfl)
  (simp[*];done)
 replace e1:=Classical.not_not.1 e1
 by_cases e2:¬a2 = b2
 ·refine bO ?_
  conv=>whnf
  refine g 0 2 []<|J Zdb<|W.sq<|g 17 75 [BF,BF,BF,BF,BF,BF,BT,BT,BT,BT,BT,BT,BT,BT,BT,BT,BT,BT,BT,BT,BT,BT,BT,BT,BT,BT,BT,BT,BT,BT,BT,BT,BT,BT,BT,BT,BT,BT,BT,BT,BT,BT,BT,BT,BT,BT,BT,BT,BT,BT,BT,BT,BT,BT,BT] ?_
  conv=>whnf
  refine J ⟨I,I,I,I,I,I,⟨nO,I⟩,⟨nO,I⟩,⟨nO,I⟩,⟨nO,I⟩,⟨nO,I⟩,nO,I,ah OM,ah OM,ah OM,ah OM,ah OM,ah OM,I,rfl,rfl,rfl,rfl,rfl,rfl,I,rfl,rfl,rfl,rfl,rfl,rfl,I,rfl,rfl,rfl,rfl,rfl,rfl,I,rfl,rfl,rfl,rfl,rfl,rfl,rfl,rfl,rfl,I,rfl,rfl,rfl,rfl,rfl,rfl,rfl,rfl,rfl,I,rfl,rfl,rfl,rfl,rfl,rfl,rfl,I⟩<|W.cn<|J (fun _=>(g 8 16 []<|J UA (RT ?_))) (noF rfl)
  (simp[*];done)
 replace e2:=Classical.not_not.1 e2
 by_cases e3:¬a3 = b3
 ·refine bO ?_
  conv=>whnf
  refine g 0 2 []<|J Zdb<|W.sq<|g 17 75 [BF,BF,BF,BF,BF,BF,BF,BF,BF,BF,BF,BF,BT,BT,BT,BT,BT,BT,BT,BT,BT,BT,BT,BT,BT,BT,BT,BT,BT,BT,BT,BT,BT,BT,BT,BT,BT,BT,BT,BT,BT,BT,BT,BT,BT,BT,BT,BT,BT,BT,BT,BT,BT,BT,BT] ?_
  conv=>whnf
  refine J ⟨I,I,I,I,I,I,⟨nO,I⟩,⟨nO,I⟩,⟨nO,I⟩,⟨nO,I⟩,⟨nO,I⟩,nO,I,⟨nO,I⟩,⟨nO,I⟩,⟨nO,I⟩,⟨nO,I⟩,⟨nO,I⟩,nO,I,ah OM,ah OM,ah OM,ah OM,ah OM,ah OM,I,rfl,rfl,rfl,rfl,rfl,rfl,I,rfl,rfl,rfl,rfl,rfl,rfl,I,rfl,rfl,rfl,rfl,rfl,rfl,rfl,rfl,rfl,I,rfl,rfl,rfl,rfl,rfl,rfl,rfl,rfl,rfl,I,rfl,rfl,rfl,rfl,rfl,rfl,rfl,I⟩<|W.cn<|J (fun _=>(g 8 16 []<|J UA (RT ?_))) (noF rfl)
  (simp[*];done)
 replace e3:=Classical.not_not.1 e3
 by_cases e4:¬a4 = b4
 ·refine bO ?_
  conv=>whnf
  refine g 0 2 []<|J Zdb<|W.sq<|g 17 75 [BF,BF,BF,BF,BF,BF,BF,BF,BF,BF,BF,BF,BF,BF,BF,BF,BF,BF,BT,BT,BT,BT,BT,BT,BT,BT,BT,BT,BT,BT,BT,BT,BT,BT,BT,BT,BT,BT,BT,BT,BT,BT,BT,BT,BT,BT,BT,BT,BT,BT,BT,BT,BT,BT,BT] ?_
  conv=>whnf
  refine J ⟨I,I,I,I,I,I,⟨nO,I⟩,⟨nO,I⟩,⟨nO,I⟩,⟨nO,I⟩,⟨nO,I⟩,nO,I,⟨nO,I⟩,⟨nO,I⟩,⟨nO,I⟩,⟨nO,I⟩,⟨nO,I⟩,nO,I,⟨nO,I⟩,⟨nO,I⟩,⟨nO,I⟩,⟨nO,I⟩,⟨nO,I⟩,nO,I,ah OM,ah OM,ah OM,ah OM,ah OM,ah OM,I,rfl,rfl,rfl,rfl,rfl,rfl,I,rfl,rfl,rfl,rfl,rfl,rfl,rfl,rfl,rfl,I,rfl,rfl,rfl,rfl,rfl,rfl,rfl,rfl,rfl,I,rfl,rfl,rfl,rfl,rfl,rfl,rfl,I⟩<|W.cn<|J (fun _=>(g 8 16 []<|J UA (RT ?_))) (noF rfl)
  (simp[*];done)
 replace e4:=Classical.not_not.1 e4
 by_cases e5:¬a5 = b5
 ·refine bO ?_
  conv=>whnf
  refine g 0 2 []<|J Zdb<|W.sq<|g 17 75 [BF,BF,BF,BF,BF,BF,BF,BF,BF,BF,BF,BF,BF,BF,BF,BF,BF,BF,BF,BF,BF,BF,BF,BF,BT,BT,BT,BT,BT,BT,BT,BT,BT,BT,BT,BT,BT,BT,BT,BT,BT,BT,BT,BT,BT,BT,BT,BT,BT,BT,BT,BT,BT,BT,BT] ?_
  conv=>whnf
  refine J ⟨I,I,I,I,I,I,⟨nO,I⟩,⟨nO,I⟩,⟨nO,I⟩,⟨nO,I⟩,⟨nO,I⟩,nO,I,⟨nO,I⟩,⟨nO,I⟩,⟨nO,I⟩,⟨nO,I⟩,⟨nO,I⟩,nO,I,⟨nO,I⟩,⟨nO,I⟩,⟨nO,I⟩,⟨nO,I⟩,⟨nO,I⟩,nO,I,⟨nO,I⟩,⟨nO,I⟩,⟨nO,I⟩,⟨nO,I⟩,⟨nO,I⟩,nO,I,ah OM,ah OM,ah OM,ah OM,ah OM,ah OM,I,rfl,rfl,rfl,rfl,rfl,rfl,rfl,rfl,rfl,I,rfl,rfl,rfl,rfl,rfl,rfl,rfl,rfl,rfl,I,rfl,rfl,rfl,rfl,rfl,rfl,rfl,I⟩<|W.cn<|J (fun _=>(g 8 16 []<|J UA (RT ?_))) (noF rfl)
  (simp[*];done)
 replace e5:=Classical.not_not.1 e5
 by_cases e6:¬a6 = b6
 ·refine bO ?_
  conv=>whnf
  refine g 0 2 []<|J Zdb<|W.sq<|g 17 75 [BF,BF,BF,BF,BF,BF,BF,BF,BF,BF,BF,BF,BF,BF,BF,BF,BF,BF,BF,BF,BF,BF,BF,BF,BF,BF,BF,BF,BF,BF,BT,BT,BT,BT,BT,BT,BT,BT,BT,BT,BT,BT,BT,BT,BT,BT,BT,BT,BT,BT,BT,BT,BT,BT,BT] ?_
  conv=>whnf
  refine J ⟨I,I,I,I,I,I,⟨nO,I⟩,⟨nO,I⟩,⟨nO,I⟩,⟨nO,I⟩,⟨nO,I⟩,nO,I,⟨nO,I⟩,⟨nO,I⟩,⟨nO,I⟩,⟨nO,I⟩,⟨nO,I⟩,nO,I,⟨nO,I⟩,⟨nO,I⟩,⟨nO,I⟩,⟨nO,I⟩,⟨nO,I⟩,nO,I,⟨nO,I⟩,⟨nO,I⟩,⟨nO,I⟩,⟨nO,I⟩,⟨nO,I⟩,nO,I,⟨nO,I⟩,⟨nO,I⟩,⟨nO,I⟩,⟨nO,I⟩,⟨nO,I⟩,nO,I,ah OM,ah OM,ah OM,ah OM,ah OM,ah OM,ah OM,ah OM,ah OM,I,rfl,rfl,rfl,rfl,rfl,rfl,rfl,rfl,rfl,I,rfl,rfl,rfl,rfl,rfl,rfl,rfl,I⟩<|W.cn<|J (fun _=>(g 8 16 []<|J UA (RT ?_))) (noF rfl)
  (simp[*];done)
 replace e6:=Classical.not_not.1 e6
 by_cases e7:¬sa = sb
 ·rw[decide_eq_false e7]at c1
  refine bO ?_
  conv=>whnf
  refine g 0 2 []<|J Zdb<|W.sq<|g 17 75 [BF,BF,BF,BF,BF,BF,BF,BF,BF,BF,BF,BF,BF,BF,BF,BF,BF,BF,BF,BF,BF,BF,BF,BF,BF,BF,BF,BF,BF,BF,BF,BF,BF,BF,BF,BF,BF,.call VF [[],[]],BF,BF,BT,BT,BT,BT,BT,BT,BT,BT,BT,BT,BT,BT,BT,BT,BT,BT] ?_
  conv=>whnf
  refine J ⟨I,I,I,I,I,I,⟨nO,I⟩,⟨nO,I⟩,⟨nO,I⟩,⟨nO,I⟩,⟨nO,I⟩,nO,I,⟨nO,I⟩,⟨nO,I⟩,⟨nO,I⟩,⟨nO,I⟩,⟨nO,I⟩,nO,I,⟨nO,I⟩,⟨nO,I⟩,⟨nO,I⟩,⟨nO,I⟩,⟨nO,I⟩,nO,I,⟨nO,I⟩,⟨nO,I⟩,⟨nO,I⟩,⟨nO,I⟩,⟨nO,I⟩,nO,I,⟨nO,I⟩,⟨nO,I⟩,⟨nO,I⟩,⟨nO,I⟩,⟨nO,I⟩,nO,I,⟨nO,I⟩,⟨nO,I⟩,⟨nO,I⟩,⟨nO,I⟩,⟨nO,I⟩,⟨nO,I⟩,Zco,⟨nO,I⟩,nO,I,rfl,rfl,rfl,rfl,rfl,rfl,rfl,rfl,rfl,I,rfl,rfl,rfl,rfl,rfl,rfl,rfl,I⟩<|W.cn<|J (fun _=>(g 8 16 []<|J UA (RT ?_))) (noF rfl)
  (simp[*];done)
 replace e7:=Classical.not_not.1 e7
 rw[decide_eq_true e7]at c1
 by_cases e8:¬la = lb
 ·rw[decide_eq_false e8]at c2
  refine bO ?_
  conv=>whnf
  refine g 0 2 []<|J Zdb<|W.sq<|g 17 75 [BF,BF,BF,BF,BF,BF,BF,BF,BF,BF,BF,BF,BF,BF,BF,BF,BF,BF,BF,BF,BF,BF,BF,BF,BF,BF,BF,BF,BF,BF,BF,BF,BF,BF,BF,BF,BF,.call VT [[],[]],BF,BF,BF,BF,BF,BF,BF,BF,BF,.call VF [[],[]],BF,BF,BT,BT,BT,BT,BT,BT,BT] ?_
  conv=>whnf
  refine J ⟨I,I,I,I,I,I,⟨nO,I⟩,⟨nO,I⟩,⟨nO,I⟩,⟨nO,I⟩,⟨nO,I⟩,nO,I,⟨nO,I⟩,⟨nO,I⟩,⟨nO,I⟩,⟨nO,I⟩,⟨nO,I⟩,nO,I,⟨nO,I⟩,⟨nO,I⟩,⟨nO,I⟩,⟨nO,I⟩,⟨nO,I⟩,nO,I,⟨nO,I⟩,⟨nO,I⟩,⟨nO,I⟩,⟨nO,I⟩,⟨nO,I⟩,nO,I,⟨nO,I⟩,⟨nO,I⟩,⟨nO,I⟩,⟨nO,I⟩,⟨nO,I⟩,nO,I,⟨nO,I⟩,⟨nO,I⟩,⟨nO,I⟩,⟨nO,I⟩,⟨nO,I⟩,⟨nO,I⟩,Zco,⟨nO,I⟩,nO,I,Zde,Zde,Zde,Zde,Zde,Zde,Zcx,Zde,rfl,I,rfl,rfl,rfl,rfl,rfl,rfl,rfl,I⟩<|W.cn<|J (fun _=>(g 8 16 []<|J UA (RT ?_))) (noF rfl)
  (simp[*];done)
 replace e8:=Classical.not_not.1 e8
 rw[decide_eq_true e8]at c2
 by_cases e9:¬ra = rb
 ·rw[decide_eq_false e9]at c3
  refine bO ?_
  conv=>whnf
  refine g 0 2 []<|J Zdb<|W.sq<|g 17 75 [BF,BF,BF,BF,BF,BF,BF,BF,BF,BF,BF,BF,BF,BF,BF,BF,BF,BF,BF,BF,BF,BF,BF,BF,BF,BF,BF,BF,BF,BF,BF,BF,BF,BF,BF,BF,BF,.call VT [[],[]],BF,BF,BF,BF,BF,BF,BF,BF,BF,.call VT [[],[]],BF,BF,BF,BF,BF,BF,BF,.call VF [[],[]],BF,BF] ?_
  conv=>whnf
  refine J Zel<|W.cn<|J (fun _=>(g 8 16 []<|J UA (RT ?_))) (noF rfl)
  (simp[*];done)
 replace e9:=Classical.not_not.1 e9
 rw[decide_eq_true e9]at c3
 by_cases f1:¬aj.length = bj.length
 ·refine bO ?_
  conv=>whnf
  refine g 0 2 []<|J Zdb<|W.sq<|g 17 75 [BF,BF,BF,BF,BF,BF,BF,BF,BF,BF,BF,BF,BF,BF,BF,BF,BF,BF,BF,BF,BF,BF,BF,BF,BF,BF,BF,BF,BF,BF,BF,BF,BF,BF,BF,BF,BF,.call VT [[],[]],BF,BF,BF,BF,BF,BF,BF,BF,BF,.call VT [[],[]],BF,BF,BF,BF,BF,BF,BF,.call VT [[],[]],BF,BF] ?_
  conv=>whnf
  refine J Zel<|W.cn<|J (noT rfl) fun _=>W.skip<|W.sq ?_
  by_cases h7:(↑(List.length (List.map aH aj)):Int) = (↑(List.length (List.map aH bj)):Int)
  simp only[LM]at h7
  omega
  simp only[LM]at h7
  refine g 8 100 [BT,BT,BT,BT,BT,BT,BT,BT,BT,BT,BT,BT,BT,BT,BT,BT]<|J ⟨I,I,I,I,I,I,I,I,SI,SI,SI,SI,SI,SI,SI,SI,I,rfl,rfl,rfl,rfl,rfl,rfl,rfl,rfl,I⟩<|W.cn<|J (fun _=>(g 100 101 []<|J UA (RT ?_))) (noF rfl)
  exact vbf (fun e=>f1 (congrArg (fun z:Boss=>z.jobs.length) e))
 replace f1:=Classical.not_not.1 f1
 by_cases f2:¬ae.length = be.length
 ·refine bO ?_
  conv=>whnf
  refine g 0 2 []<|J Zdb<|W.sq<|g 17 75 [BF,BF,BF,BF,BF,BF,BF,BF,BF,BF,BF,BF,BF,BF,BF,BF,BF,BF,BF,BF,BF,BF,BF,BF,BF,BF,BF,BF,BF,BF,BF,BF,BF,BF,BF,BF,BF,.call VT [[],[]],BF,BF,BF,BF,BF,BF,BF,BF,BF,.call VT [[],[]],BF,BF,BF,BF,BF,BF,BF,.call VT [[],[]],BF,BF] ?_
  conv=>whnf
  refine J Zel<|W.cn<|J (noT rfl) fun _=>W.skip<|W.sq ?_
  by_cases h7:(↑(List.length (List.map aI ae)):Int) = (↑(List.length (List.map aI be)):Int)
  simp only[LM]at h7
  omega
  simp only[LM]at h7
  refine g 8 100 [BF,BF,BF,BF,BF,BF,BF,BF,BT,BT,BT,BT,BT,BT,BT,BT]<|J ⟨I,I,I,I,I,I,I,I,⟨SI,I⟩,⟨SI,I⟩,⟨SI,I⟩,⟨SI,I⟩,⟨SI,I⟩,⟨SI,I⟩,⟨SI,I⟩,SI,I,SI,SI,SI,SI,SI,SI,SI,SI,I⟩<|W.cn<|J (fun _=>(g 100 101 []<|J UA (RT ?_))) (noF rfl)
  exact vbf (fun e=>f2 (congrArg (fun z:Boss=>z.seats.length) e))
 replace f2:=Classical.not_not.1 f2
 by_cases f3:¬ao.length = bo.length
 ·refine bO ?_
  conv=>whnf
  refine g 0 2 []<|J Zdb<|W.sq<|g 17 75 [BF,BF,BF,BF,BF,BF,BF,BF,BF,BF,BF,BF,BF,BF,BF,BF,BF,BF,BF,BF,BF,BF,BF,BF,BF,BF,BF,BF,BF,BF,BF,BF,BF,BF,BF,BF,BF,.call VT [[],[]],BF,BF,BF,BF,BF,BF,BF,BF,BF,.call VT [[],[]],BF,BF,BF,BF,BF,BF,BF,.call VT [[],[]],BF,BF] ?_
  conv=>whnf
  refine J Zel<|W.cn<|J (noT rfl) fun _=>W.skip<|W.sq<|g 8 100 [BF,BF,BF,BF,BF,BF,BF,BF,BF,BF,BF,BF,BF,BF,BF,BF]<|J Zbx<|W.cn<|J (fun h7=>?_) fun h7=>?_
  replace h7:=ndt h7
  simp only[LM]at h7
  refine g 100 101 []<|J UA<|RT ?_
  rotate_left
  replace h7:=ndf h7
  simp only[LM]at h7
  omega
  exact vbf (fun e=>f3 (congrArg (fun z:Boss=>z.owed.length) e))
 replace f3:=Classical.not_not.1 f3
 refine bO ?_
 conv=>whnf
 refine g 0 2 []<|J Zdb<|W.sq<|g 17 75 [BF,BF,BF,BF,BF,BF,BF,BF,BF,BF,BF,BF,BF,BF,BF,BF,BF,BF,BF,BF,BF,BF,BF,BF,BF,BF,BF,BF,BF,BF,BF,BF,BF,BF,BF,BF,BF,.call VT [[],[]],BF,BF,BF,BF,BF,BF,BF,BF,BF,.call VT [[],[]],BF,BF,BF,BF,BF,BF,BF,.call VT [[],[]],BF,BF] ?_
 conv=>whnf
 refine J Zel<|W.cn<|J (noT rfl) fun _=>W.skip<|W.sq<|g 8 100 [BF,BF,BF,BF,BF,BF,BF,BF,BF,BF,BF,BF,BF,BF,BF,BF]<|J Zbx<|W.cn<|J (noT SI) fun _=>W.skip<|W.sq<|g 100 101 []<|J UA<|W.blk<|W.lp (fun s (n:Nat)=>⟨[(2,s.s 2),(3,s.s 3),(5,.i n)],[(2,[s.c 2 0,s.c 2 1,s.c 2 2,s.c 2 3,s.c 2 4,s.c 2 5,s.c 2 6,s.c 2 7,s.c 2 8,s.c 2 9,s.c 2 10,s.c 2 11]),(3,[s.c 3 0,s.c 3 1,s.c 3 2,s.c 3 3,s.c 3 4,s.c 3 5,s.c 3 6,s.c 3 7,s.c 3 8,s.c 3 9,s.c 3 10,s.c 3 11])],[]⟩) (fun(n:Nat)=>n≤aj.length∧aj.take n = bj.take n) (fun(n:Nat)=>aj.length - n) (0) [some 2,some 3] [] Zeu (by simp) ?_
 rintro n ⟨hn,hc⟩
 by_cases hn2:n < aj.length
 ·obtain⟨x,hx⟩:=ak hn2
  obtain⟨y,hy⟩:=ak (xs:=bj) (n:=n) OM
  by_cases hg:x = y
  ·subst hg
   conv=>whnf
   refine W.sq<|g 101 105 []<|J UE<|W.cn<|J (fun _=>(W.skip (W.sq (W.blk (gd 105 118 [[],[],[],[.x (aH x)],[],[],[],[],[.x (aH x)],[],[BT]] ?_))))) (noF (by simp_all))
   conv=>whnf
   refine⟨⟨I,I,I,Zdk,I,I,I,I,Zdk,I,by simp[*],I⟩,by kernel_rfl,?_⟩
   refine W.cn<|J (noT rfl) fun _=>W.skip<|rg [.i ((n:Int) +1)]<|J Zdg ?_
   refine⟨n+1,[some 2,some 3],[],Zeu,?_,?_⟩
   rotate_left
   (dsimp only;omega)
   dsimp only
   exact⟨by omega,n6 hc hx hy⟩
  ·obtain⟨x1,x2,x3⟩:=x
   obtain⟨y1,y2,y3⟩:=y
   have q0:(decide (x1 = y1) && (decide (x2 = y2) && (decide (x3 = y3) && true))) = false:=by
    cases hq:(decide (x1 = y1) && (decide (x2 = y2) && (decide (x3 = y3) && true)))with
    |false=>rfl
    |true =>
     simp only[Bool.and_eq_true,decide_eq_true_eq]at hq
     obtain⟨rfl,rfl,rfl,_⟩:=hq
     exact absurd rfl hg
   conv=>whnf
   refine W.sq<|g 101 105 []<|J UE<|W.cn<|J (fun _=>(W.skip (W.sq (W.blk (gd 105 118 [[],[],[],[.x (aH {lease:=x1,worker:=x2,til:=x3:Job})],[],[],[],[],[.x (aH {lease:=y1,worker:=y2,til:=y3:Job})],[],[BF]] ?_))))) (noF (by simp_all))
   conv=>whnf
   refine⟨⟨I,I,I,Zdk,I,I,I,I,Zdk,I,by assumption,I⟩,by kernel_rfl,?_⟩
   refine W.cn<|J (fun _=>(g 118 119 []<|J UA (RT ?_))) (noF rfl)
   refine vbf (fun e=>?_)
   have q:=congrArg Boss.jobs e
   dsimp only at q
   rw[q,hy]at hx
   exact hg (Option.some.inj hx).symm
 have ej:aj = bj:=by rw[bc OM,bc OM]at hc;exact hc
 conv=>whnf
 refine W.sq<|g 101 105 []<|J UE<|W.cn<|J (noT (by simp_all)) fun _=>W.exit<|W.sq<|g 5 6 []<|J UA<|W.blk<|W.lp (fun s (n:Nat)=>⟨[(2,s.s 2),(3,s.s 3),(6,.i n)],[(2,[s.c 2 0,s.c 2 1,s.c 2 2,s.c 2 3,s.c 2 4,s.c 2 5,s.c 2 6,s.c 2 7,s.c 2 8,s.c 2 9,s.c 2 10,s.c 2 11]),(3,[s.c 3 0,s.c 3 1,s.c 3 2,s.c 3 3,s.c 3 4,s.c 3 5,s.c 3 6,s.c 3 7,s.c 3 8,s.c 3 9,s.c 3 10,s.c 3 11])],[]⟩) (fun(n:Nat)=>n≤ae.length∧ae.take n = be.take n) (fun(n:Nat)=>ae.length - n) (0) [some 2,some 3] [] Zeu (by simp) ?_
 rintro n ⟨hn3,hc2⟩
 by_cases hn4:n < ae.length
 ·obtain⟨x,hx⟩:=ak hn4
  obtain⟨y,hy⟩:=ak (xs:=be) (n:=n) OM
  by_cases hg:x = y
  ·subst hg
   conv=>whnf
   refine W.sq<|g 119 123 []<|J UE<|W.cn<|J (fun _=>(W.skip (W.sq (W.blk (gd 123 136 [[],[],[],[.x (aI x)],[],[],[],[],[.x (aI x)],[],[BT]] ?_))))) (noF (by simp_all))
   conv=>whnf
   refine⟨⟨I,I,I,Zdk,I,I,I,I,Zdk,I,by simp[*],I⟩,by kernel_rfl,?_⟩
   refine W.cn<|J (noT rfl) fun _=>W.skip<|rg [.i ((n:Int) +1)]<|J Zdg ?_
   refine⟨n+1,[some 2,some 3],[],Zeu,?_,?_⟩
   rotate_left
   (dsimp only;omega)
   dsimp only
   exact⟨by omega,n6 hc2 hx hy⟩
  ·obtain⟨x1,x2⟩:=x
   obtain⟨y1,y2⟩:=y
   have q0:((x1 == y1) && (decide (x2 = y2) && true)) = false:=by
    cases hq:((x1 == y1) && (decide (x2 = y2) && true))with
    |false=>rfl
    |true =>
     simp only[Bool.and_eq_true,decide_eq_true_eq,beq_iff_eq]at hq
     obtain⟨rfl,rfl,_⟩:=hq
     exact absurd rfl hg
   conv=>whnf
   refine W.sq<|g 119 123 []<|J UE<|W.cn<|J (fun _=>(W.skip (W.sq (W.blk (gd 123 136 [[],[],[],[.x (aI {free:=x1,epoch:=x2:Seat})],[],[],[],[],[.x (aI {free:=y1,epoch:=y2:Seat})],[],[BF]] ?_))))) (noF (by simp_all))
   conv=>whnf
   refine⟨⟨I,I,I,Zdk,I,I,I,I,Zdk,I,by assumption,I⟩,by kernel_rfl,?_⟩
   refine W.cn<|J (fun _=>(g 136 137 []<|J UA (RT ?_))) (noF rfl)
   refine vbf (fun e=>?_)
   have q:=congrArg Boss.seats e
   dsimp only at q
   rw[q,hy]at hx
   exact hg (Option.some.inj hx).symm
 have ee:ae = be:=by rw[bc OM,bc OM]at hc2;exact hc2
 conv=>whnf
 refine W.sq<|g 119 123 []<|J UE<|W.cn<|J (noT (by simp_all)) fun _=>W.exit<|W.sq<|g 6 7 []<|J UA<|W.blk<|W.lp (fun s (n:Nat)=>⟨[(2,s.s 2),(3,s.s 3),(7,.i n)],[(2,[s.c 2 0,s.c 2 1,s.c 2 2,s.c 2 3,s.c 2 4,s.c 2 5,s.c 2 6,s.c 2 7,s.c 2 8,s.c 2 9,s.c 2 10,s.c 2 11]),(3,[s.c 3 0,s.c 3 1,s.c 3 2,s.c 3 3,s.c 3 4,s.c 3 5,s.c 3 6,s.c 3 7,s.c 3 8,s.c 3 9,s.c 3 10,s.c 3 11])],[]⟩) (fun(n:Nat)=>n≤ao.length∧ao.take n = bo.take n) (fun(n:Nat)=>ao.length - n) (0) [some 2,some 3] [] Zeu (by simp) ?_
 rintro n ⟨hn5,hc3⟩
 by_cases hn6:n < ao.length
 ·obtain⟨x,hx⟩:=ak hn6
  obtain⟨y,hy⟩:=ak (xs:=bo) (n:=n) OM
  by_cases hg:x = y
  ·subst hg
   conv=>whnf
   refine W.sq<|g 137 141 []<|J UE<|W.cn<|J (fun _=>(W.skip (W.sq (W.blk (gd 141 154 [[],[],[],[.x (aX x)],[],[],[],[],[.x (aX x)],[],[BT]] ?_))))) (noF (by simp_all))
   conv=>whnf
   refine⟨⟨I,I,I,Zdk,I,I,I,I,Zdk,I,by simp[*],I⟩,by kernel_rfl,?_⟩
   refine W.cn<|J (noT rfl) fun _=>W.skip<|rg [.i ((n:Int) +1)]<|J Zdg ?_
   refine⟨n+1,[some 2,some 3],[],Zeu,?_,?_⟩
   rotate_left
   (dsimp only;omega)
   dsimp only
   exact⟨by omega,n6 hc3 hx hy⟩
  ·obtain⟨x1,x2,x3⟩:=x
   obtain⟨y1,y2,y3⟩:=y
   have q0:(decide (x1 = y1) && (decide (x2 = y2) && (decide (x3 = y3) && true))) = false:=by
    cases hq:(decide (x1 = y1) && (decide (x2 = y2) && (decide (x3 = y3) && true)))with
    |false=>rfl
    |true =>
     simp only[Bool.and_eq_true,decide_eq_true_eq]at hq
     obtain⟨rfl,rfl,rfl,_⟩:=hq
     exact absurd rfl hg
   conv=>whnf
   refine W.sq<|g 137 141 []<|J UE<|W.cn<|J (fun _=>(W.skip (W.sq (W.blk (gd 141 154 [[],[],[],[.x (aX {worker:=x1,lease:=x2,task:=x3:Owed})],[],[],[],[],[.x (aX {worker:=y1,lease:=y2,task:=y3:Owed})],[],[BF]] ?_))))) (noF (by simp_all))
   conv=>whnf
   refine⟨⟨I,I,I,Zdk,I,I,I,I,Zdk,I,by assumption,I⟩,by kernel_rfl,?_⟩
   refine W.cn<|J (fun _=>(g 154 155 []<|J UA (RT ?_))) (noF rfl)
   refine vbf (fun e=>?_)
   have q:=congrArg Boss.owed e
   dsimp only at q
   rw[q,hy]at hx
   exact hg (Option.some.inj hx).symm
 have eo:ao = bo:=by rw[bc OM,bc OM]at hc3;exact hc3
 conv=>whnf
 refine W.sq<|g 137 141 []<|J UE<|W.cn<|J (noT (by simp_all)) fun _=>W.exit<|g 2 4 []<|J UA<|RT ?_
 (simp[*];done)
end Go.K
end
section
open Go Go.Tm Go.Proofs
namespace Go.K
theorem Np(code:List Int)(b:Boss)(p:Plan)(k:Int)(hc:(code.length:Int)≤1048576)(hD:F dH [.val (.t (u8s code))] (.tup [ay b,db p,.i k]) [[]])(cv:F cJ [.val (cE b),.val (bn p)] (.b false) [[],[]])(ci:F ge [.val (cE b),.val (bn p)] (.b false) [[],[]])
 (cf:F dr [.val (cE b),.val (bn p),.val (.i k)] (.agg [.t (.i 0),.t (.b false),.t (.i 0),.t (.i 0),.t (.i 0),.t (.i 0),.own [false] [],.own [false] [],.own [false] [],.own ey [],.own cz [],.own cA []]) [[],[],[]]) (c4:F hM [.val (.agg [.t (.i 0),.t (.b false),.t (.i 0),.t (.i 0),.t (.i 0),.t (.i 0),.t (.slc [false] []),.t (.slc [false] []),.t (.slc [false] []),.t (.slc ey []),.t (.slc cz []),.t (.slc cA [])]),.val (.agg [.t (.i 0),.t (.b false),.t (.i 0),.t (.i 0),.t (.i 0),.t (.i 0),.t (.slc [false] []),.t (.slc [false] []),.t (.slc [false] []),.t (.slc ey []),.t (.slc cz []),.t (.slc cA [])])] (.b true) [[],[]]):F fM [.val (.t (u8s code))] (.b true) [[]]:=by
 refine fN ?_
 conv=>whnf
 refine g 0 0 []<|J UA<|W.sq<|g 13 15 []<|J UC<|W.cn<|J (noT SI) fun _=>W.skip<|g 15 18 [.call (V.tup [ay b,db p,V.i k]) [[]]]<|J ⟨I,Zaj,I,I,I,I,I,I,UL,UA,I,I⟩<|W.sq<|g 19 23 [.call VF [[],[]]]<|J Zdo<|W.cn<|J (fun _=>(g 24 38 [.call VF [[],[]],BT,BT,BT,BT,.call (V.agg [V.t (T.i 0),V.t (T.b false),V.t (T.i 0),V.t (T.i 0),V.t (T.i 0),V.t (T.i 0),V.own [false] [],V.own [false] [],V.own [false] [],V.own ey [],V.own cz [],V.own cA []]) [[],[],[]],BT,BT,.call VT [[],[]],BT]<|J ⟨I,I,Zak,I,I,Zde,Zde,Zde,⟨rfl,UC,I,⟨UL,UA,UA,I⟩,UA,AS⟩,Zde,⟨rfl,UB,I,⟨UL,UL,I⟩,UA,AS⟩,rfl,I,I⟩ (RT ?_))) (noF rfl)
 rfl
theorem Nq(code:List Int)(b xx yy:Boss)(p:Plan)(k:Int)(hc:(code.length:Int)≤1048576)(hD:F dH [.val (.t (u8s code))] (.tup [ay b,db p,.i k]) [[]])(cv0:True→F cJ [.val (cE b),.val (bn p)] (.b true) [[],[]])
 (cf:F dr [.val (cE b),.val (bn p),.val (.i k)] (ay xx) [[],[],[]]) (cg:F gN [.val (cE b),.val (bn p),.val (.i k)] (ay xx) [[],[],[]])
 (c1:F eZ [.val (cE xx),.val (bn p)] (ay yy) [[],[]]) (c2:F d9 [.val (cE xx),.val (bn p)] (ay yy) [[],[]])
 (c3:F cJ [.val (cE xx),.val (bn p)] (.b true) [[],[]]) (c4:F hM [.val (cE yy),.val (cE yy)] (.b true) [[],[]]) (hxu:xx.up = false) (hu:yy.up = false):F fM [.val (.t (u8s code))] (.b true) [[]]:=by
 refine fN ?_
 conv=>whnf
 refine g 0 0 []<|J UA<|W.sq<|g 13 15 []<|J UC<|W.cn<|J (noT SI) fun _=>W.skip<|g 15 18 [.call (V.tup [ay b,db p,V.i k]) [[]]]<|J ⟨I,Zaj,I,I,I,I,I,I,UL,UA,I,I⟩<|W.sq<|W.drop (lo:=15) (hi:=23) ?_
 conv=>whnf
 have cv:=cv0 trivial
 refine g 0 1 [.call VT [[],[]]]<|J Zdo<|W.cn<|J (noT rfl) fun _=>W.skip<|g 24 42 [.call (ay xx) [[],[],[]]]<|J ⟨I,I,I,Zcu,I,UL,I⟩<|g 42 45 [.call (ay yy) [[],[]]]<|J ⟨I,I,Zak,I,UL,I⟩<|gd 45 51 [[],[],[],[.call (ay xx) [[],[],[]]],[],[.call (ay yy) [[],[]]],[],[]] ?_
 conv=>whnf
 refine J ⟨I,I,I,Zcu,I,Zak,I,UL,I⟩<|J KR<|W.sq<|g 51 64 [.call VT [[],[]],BF,BF,BF,BF,BF,BF,.call VT [[],[]],BF,BF]<|J ⟨I,I,Zak,I,I,Zde,Zde,rfl,I,⟨AS,I⟩,⟨AS,I⟩,⟨AS,UB,I,⟨UL,UL,I⟩,UA,AS⟩,⟨AS,I⟩,AS,I⟩<|W.cn<|J (noT rfl) fun _=>W.skip<|W.sq<|g 64 67 []<|J UC<|W.cn<|J (fun _=>(g 5 6 []<|J UA (RT ?_))) (noF (nbT AS))
 rfl
theorem Nr(code:List Int)(b xx yy zz vv:Boss)(p:Plan)(k:Int)(ss:Story)(hc:(code.length:Int)≤1048576)(hD:F dH [.val (.t (u8s code))] (.tup [ay b,db p,.i k]) [[]])(cv0:True→F cJ [.val (cE b),.val (bn p)] (.b true) [[],[]])
 (cf:F dr [.val (cE b),.val (bn p),.val (.i k)] (ay xx) [[],[],[]]) (cg:F gN [.val (cE b),.val (bn p),.val (.i k)] (ay xx) [[],[],[]])
 (c1:F eZ [.val (cE xx),.val (bn p)] (ay yy) [[],[]]) (c2:F d9 [.val (cE xx),.val (bn p)] (ay yy) [[],[]])
 (c3:F cJ [.val (cE xx),.val (bn p)] (.b true) [[],[]]) (c4:F hM [.val (cE yy),.val (cE yy)] (.b true) [[],[]]) (hxu:xx.up = false) (hu:yy.up = true)
 (c5:F jJ [.val (bn p),.val (.t (n7 yy.log.safe))] (eM ⟨0,yy.epoch,yy.results⟩) [[],[]]) (c6:F le [.val (.t (n7 yy.results)),.val (.t (n7 yy.results))] (.b true) [[],[]]) (s3:yy.given = 0) (s6:yy.log.loose.length = 0)
 (c7:F jI [.val (bn p),.val (.t (n7 b.log.safe))] (eM ss) [[],[]]) (hsl:ss.results.length≤40) (hyl:yy.results.length = ss.results.length)
 (hsafe:∀ (n:Nat) (x y:ByteArray),ss.results[n]? = some x→yy.results[n]? = some y→¬x = emp→y = x)
 (d1:F dr [.val (cE b),.val (bn p),.val (.i ((b.log.loose.map aq).length:Int))] (ay vv) [[],[],[]]) (d2:F eZ [.val (cE vv),.val (bn p)] (ay zz) [[],[]])
 (d3:F le [.val (.t (n7 zz.results)),.val (.t (n7 b.results))] (.b (decide (zz.results = b.results))) [[],[]]) (hall:b.up = true→zz.up = true→zz.results = b.results) (hbl:b.log.loose.length≤1048576):F fM [.val (.t (u8s code))] (.b true) [[]]:=by
 refine fN ?_
 conv=>whnf
 refine g 0 0 []<|J UA<|W.sq<|g 13 15 []<|J UC<|W.cn<|J (noT SI) fun _=>W.skip<|g 15 18 [.call (V.tup [ay b,db p,V.i k]) [[]]]<|J ⟨I,Zaj,I,I,I,I,I,I,UL,UA,I,I⟩<|W.sq<|W.drop (lo:=15) (hi:=23) ?_
 conv=>whnf
 have cv:=cv0 trivial
 refine g 0 1 [.call VT [[],[]]]<|J Zdo<|W.cn<|J (noT rfl) fun _=>W.skip<|g 24 42 [.call (ay xx) [[],[],[]]]<|J ⟨I,I,I,Zcu,I,UL,I⟩<|g 42 45 [.call (ay yy) [[],[]]]<|J ⟨I,I,Zak,I,UL,I⟩<|gd 45 51 [[],[],[],[.call (ay xx) [[],[],[]]],[],[.call (ay yy) [[],[]]],[],[]] ?_
 conv=>whnf
 refine J ⟨I,I,I,Zcu,I,Zak,I,UL,I⟩<|J KR<|W.sq<|g 51 64 [.call VT [[],[]],BF,BF,BF,BF,BF,BF,.call VT [[],[]],BF,BF]<|J ⟨I,I,Zak,I,I,Zde,Zde,rfl,I,⟨AS,I⟩,⟨AS,I⟩,⟨AS,UB,I,⟨UL,UL,I⟩,UA,AS⟩,⟨AS,I⟩,AS,I⟩<|W.cn<|J (noT rfl) fun _=>W.skip<|W.sq<|g 64 67 []<|J UC<|W.cn<|J (noT (nbF AS)) fun _=>W.skip<|g 67 73 [.call (eM {code:=0,epoch:=yy.epoch,results:=yy.results:Story}) [[],[]]]<|J ⟨I,I,I,I,Zaq,I,UC,I⟩<|W.sq<|g 9 102 [BF,BF,BF,BF,BF,BF,BF,BF,BF,BF,BF,.call VT [[],[]],BF,BF,BF,BF,BF,BF,BF,BF,BF,BF,BF,BF]<|J ⟨I,I,I,I,Zde,Zde,Zde,Zde,Zde,rfl,I,⟨gK rfl,I⟩,⟨gK rfl,I⟩,⟨gK rfl,I⟩,⟨gK rfl,I⟩,⟨gK rfl,UB,I,UT,UA,AS⟩,⟨gK rfl,I⟩,gK rfl,I,Zde,Zde,Zde,rfl,I,⟨nO,I⟩,⟨nO,I⟩,⟨nO,I⟩,⟨nO,I⟩,⟨nO,I⟩,nO,I⟩ ?_
 refine W.cn<|J (noT SI) fun _=>W.skip<|g 102 108 [.call (eM ss) [[],[]]]<|J ⟨I,I,I,I,Zaq,I,UC,I⟩<|W.sq<|g 5 6 []<|J UA<|W.blk<|W.lp (fun s (n:Nat)=>⟨[(3,s.s 3),(4,s.s 4),(6,s.s 6),(7,s.s 7),(8,s.s 8),(10,s.s 10),(11,.i n)],[(3,[s.c 3 0,s.c 3 1,s.c 3 2,s.c 3 3,s.c 3 4,s.c 3 5,s.c 3 6,s.c 3 7,s.c 3 8,s.c 3 9,s.c 3 10,s.c 3 11]),(4,[s.c 4 0]),(6,[s.c 6 0,s.c 6 1,s.c 6 2,s.c 6 3,s.c 6 4,s.c 6 5,s.c 6 6,s.c 6 7,s.c 6 8,s.c 6 9,s.c 6 10,s.c 6 11]),(7,[s.c 7 0,s.c 7 1,s.c 7 2,s.c 7 3,s.c 7 4,s.c 7 5,s.c 7 6,s.c 7 7,s.c 7 8,s.c 7 9,s.c 7 10,s.c 7 11]),(8,[s.c 8 0,s.c 8 1,s.c 8 2,s.c 8 3,s.c 8 4,s.c 8 5,s.c 8 6,s.c 8 7,s.c 8 8,s.c 8 9,s.c 8 10,s.c 8 11]),(10,[s.c 10 0,s.c 10 1,s.c 10 2])],[]⟩) (fun(n:Nat)=>n≤ss.results.length) (fun(n:Nat)=>ss.results.length - n) (0) [some 3,some 4,some 6,some 7,some 8,some 10] [] Zd5 OM ?_
 intro n hn
 by_cases hn2:n < ss.results.length
 ·obtain⟨x,hx⟩:=ak hn2
  obtain⟨y,hy⟩:=ak (xs:=yy.results) (n:=n) OM
  have hs:=hsafe n x y hx hy
  clear hsafe hall
  by_cases hE:x = emp
  ·clear hs
   conv=>whnf
   refine W.sq<|g 108 112 []<|J UE<|W.cn<|J (fun _=>(W.skip (W.sq (W.blk (gd 112 133 [[],[],[],[.n (n)],[.x (aq x)],[],[],[BF],[BF],[BF],[BF],[BF],[BF],[BF],[BF],[BF],[BF],[BF],[BF]] ?_))))) (noF SI)
   conv=>whnf
   refine⟨⟨I,I,I,Zdj,xA,I,I,nO,nO,nO,nO,nO,nO,nO,nO,nO,nO,nO,nO,I⟩,by kernel_rfl,?_⟩
   refine W.cn<|J (noT rfl) fun _=>W.skip<|rg [.i ((n:Int) +1)]<|J Zdg ?_
   refine⟨n+1,[some 3,some 4,some 6,some 7,some 8,some 10],[],Zd5,?_,?_⟩
   rotate_left
   (dsimp only;omega)
   dsimp only
   omega
  ·have e:=hs hE
   subst e
   clear hs
   conv=>whnf
   refine W.sq<|g 108 112 []<|J UE<|W.cn<|J (fun _=>(W.skip (W.sq (W.blk (gd 112 133 [[],[],[],[.n (n)],[.x (aq y)],[],[],[BT],[BT],[BT],[BT,.n (n)],[BT,.x (aq y)],[BT],[BT],[BT],[BT,.n (n)],[BT,.x (aq y)],[BT],[BT]] ?_))))) (noF SI)
   conv=>whnf
   refine⟨⟨I,I,I,Zdj,xA,I,I,Zan,Zan,Zan,⟨ah OM,rfl,LN⟩,⟨ah OM,xA⟩,Zan,Zan,Zan,⟨ah OM,rfl,LN⟩,⟨ah OM,xA⟩,Zan,ah OM,I⟩,by kernel_rfl,?_⟩
   refine W.cn<|J (noT (gK rfl)) fun _=>W.skip<|rg [.i ((n:Int) +1)]<|J Zdg ?_
   refine⟨n+1,[some 3,some 4,some 6,some 7,some 8,some 10],[],Zd5,?_,?_⟩
   rotate_left
   (dsimp only;omega)
   dsimp only
   omega
 ·clear hsafe
  by_cases q1:b.up = true
  ·by_cases q2:zz.up = true
   ·rw[decide_eq_true (hall q1 q2)]at d3
    clear hall
    conv=>whnf
    refine W.sq<|g 108 112 []<|J UE<|W.cn<|J (noT SI) fun _=>W.exit<|gd 112 143 [[],[],[],[],[],[],[.call (ay vv) [[],[],[]]],[],[.call (ay zz) [[],[]]],[],[]] ?_
    conv=>whnf
    refine J ⟨I,I,I,I,I,I,Zcu,I,Zak,I,UL,I⟩<|J KR<|g 6 158 [BF,BF,BF,BF,BF,BF,BF,BF,BF,.call VT [[],[]],BF]<|J ⟨I,I,I,I,Zdr,Zdr,Zdr,nbF AS,I,Zdr,Zdr,Zdr,Zdr,⟨nbF AS,UB,I,UT,UA,AS⟩,nbF AS,I,I⟩<|RT ?_
    rfl
   ·clear hall
    conv=>whnf
    refine W.sq<|g 108 112 []<|J UE<|W.cn<|J (noT SI) fun _=>W.exit<|gd 112 143 [[],[],[],[],[],[],[.call (ay vv) [[],[],[]]],[],[.call (ay zz) [[],[]]],[],[]] ?_
    conv=>whnf
    refine J ⟨I,I,I,I,I,I,Zcu,I,Zak,I,UL,I⟩<|J KR<|g 6 158 [BF,BF,BF,BF,BT,BT,BT,BT,BT,BT]<|J ⟨I,I,I,I,Zdr,Zdr,Zdr,nbF AS,I,SI,SI,SI,SI,SI,SI,I,I⟩<|RT ?_
    rfl
  ·clear hall
   conv=>whnf
   refine W.sq<|g 108 112 []<|J UE<|W.cn<|J (noT SI) fun _=>W.exit<|gd 112 143 [[],[],[],[],[],[],[.call (ay vv) [[],[],[]]],[],[.call (ay zz) [[],[]]],[],[]] ?_
   conv=>whnf
   refine J ⟨I,I,I,I,I,I,Zcu,I,Zak,I,UL,I⟩<|J KR<|g 6 158 [BT,BT,BT,BT,BT,BT,BT,BT,BT,BT]<|J ⟨I,I,I,I,SI,SI,SI,SI,I,rfl,rfl,rfl,rfl,rfl,rfl,I,I⟩<|RT ?_
   rfl
end Go.K
end
section
open Go Go.Tm Go.Proofs
namespace Go.K
theorem H3(code:List Int)(hc:code.length≤9223372036854775807)(h8:∀ x∈code,0≤x∧x≤255):F fM [.val (.t (u8s code))] (.b true) [[]]:=by
 by_cases hbig:1048576 < code.length
 ·refine fN ?_
  conv=>whnf
  refine g 0 0 []<|J UA<|W.sq<|g 13 15 []<|J UC<|W.cn<|J (fun h1=>?_) fun h1=>?_
  replace h1:=dt h1
  simp only[LM]at h1
  refine g 15 16 []<|J UA<|RT ?_
  rfl
  replace h1:=df h1
  simp only[LM]at h1
  omega
 obtain⟨res,outs,⟨b,p,k,rfl,rfl,ha⟩,hD⟩:=Ij code OM h8
 have hw:=Bi (fF ha.small)
 have hl:=NF ha.mid
 have cv:=jh b p hw hl
 have ci:=rL b p hw hl
 have cf:=lO b p k hw hl
 have cg:=lM b p k hw hl
 by_cases hv:BossOk b p
 ·rw[decide_eq_true hv]at cv ci
  rw[nu hv]at cf cg
  have hX:=iY k hv
  have hXu:=(wN (k:=k) hv).2
  have hXl:=xq hX
  have c1:=lN (dN b k) p hw hXl
  have c2:=ff (dN b k) p hw hXl
  have c3:=jh (dN b k) p hw hXl
  rw[decide_eq_true hX]at c3
  rw[gZ hX]at c1 c2
  have hY:=iT hX
  have hYl:=xq hY
  have c4:=qO (aY (dN b k) p) (aY (dN b k) p) hYl
  rw[decide_eq_true rfl]at c4
  by_cases hu:(aY (dN b k) p).up = true
  ·obtain⟨s1,s2,s3,s4,s5⟩:=mH hX (wC hXu hu)
   have hYs:∀ s∈(aY (dN b k) p).log.safe,s.size≤281474976710656:=fun s hs=>hYl.all s (List.mem_append_left _ hs)
   have hYsl:=hYl.safe
   have c5:=jV p (aY (dN b k) p).log.safe hw hYs OM
   rw[s1]at c5
   have hYr:=hYl.res
   have c6:=fS (aY (dN b k) p).results (aY (dN b k) p).results OM
   rw[decide_eq_true rfl]at c6
   have hbs:=hl.safe
   have c7:=gz p b.log.safe hw (fun s hs=>hl.all s (List.mem_append_left _ hs)) OM
   have hSc:(aw p b.log.safe).code = 0:=lm (ys:=b.log.loose) hv.code
   have hSl:=(bR hSc).2.2.1
   have hYlen:=(hY.up hu).rlen
   have hpl:=(bM hv.plan).1
   have hX2:=iY (b.log.loose.length:Int) hv
   have hX2l:=xq hX2
   have d1:F dr [.val (cE b),.val (bn p),.val (.i ((b.log.loose.map aq).length:Int))] (ay (dN b (b.log.loose.length:Int))) [[],[],[]]:=by
    rw[List.length_map,←nu hv]
    exact lO b p (b.log.loose.length:Int) hw hl
   have d2:=lN (dN b (b.log.loose.length:Int)) p hw hX2l
   rw[gZ hX2]at d2
   have hZl:=(xq (iT hX2)).res
   have d3:=fS (aY (dN b (b.log.loose.length:Int)) p).results b.results OM
   exact Nr code b _ _ _ _ p k _ OM hD (fun _=>cv) cf cg c1 c2 c3 c4 hXu hu c5 c6 s3 (by rw[s4];rfl) c7 OM OM
    (fun n x y hx hy hne=>by
     have hs:=Eo (k:=k) hv hu (i:=(n:Int)) OM (by unfold atS;rw[Int.toNat_natCast,hx];exact hne)
     unfold atS at hs
     rw[Int.toNat_natCast,hx,hy]at hs
     exact hs)
    d1 d2 d3 (fun q1 q2=>HN hv q1 q2) hl.loose
  ·exact Nq code b _ _ p k OM hD (fun _=>cv) cf cg c1 c2 c3 c4 hXu (by cases q:(aY (dN b k) p).up;rfl;exact absurd q hu)
 ·rw[decide_eq_false hv]at cv ci
  rw[rP hv]at cf cg
  have c4:=qO fC fC (kv (gv (w:=noWorld) (.inr rfl)))
  rw[decide_eq_true rfl]at c4
  exact Np code b p k OM hD cv ci cf c4
end Go.K
end

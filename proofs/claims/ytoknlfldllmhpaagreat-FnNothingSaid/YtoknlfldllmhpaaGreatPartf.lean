/- Contracts of functions of the program: what each call answers. -/
import Derived.Test.YtoknlfldllmhpaaGreatParte
set_option maxHeartbeats 8000000
set_option maxRecDepth 20000
set_option linter.unusedVariables false
set_option linter.unusedSimpArgs false
section
open Go Go.Tm Go.Proofs
namespace Go.K
structure JL (ep now given workers:Int) (rs:List ByteArray) (ts:List Task) (js:List Job):Prop where
 zero:∀ (i:Nat) (j:Job),js[i]? = some j→j.lease = 0→j.worker = 0∧j.til = 0
 lease:∀ (i:Nat) (j:Job),js[i]? = some j→¬j.lease = 0→(ep - 1) * 1000000+1≤j.lease∧j.lease≤(ep - 1) * 1000000+given
 worker:∀ (i:Nat) (j:Job),js[i]? = some j→¬j.lease = 0→1≤j.worker∧j.worker≤workers
 til:∀ (i:Nat) (j:Job),js[i]? = some j→¬j.lease = 0→now+1≤j.til∧j.til≤now+12
 res:∀ (i:Nat) (j:Job),js[i]? = some j→¬j.lease = 0→atS rs (i:Int) = emp
 ready:∀ (i:Nat) (j:Job),js[i]? = some j→¬j.lease = 0→de rs (ov ts i)
 once:∀ (i k:Nat) (j l:Job),i < k→js[i]? = some j→js[k]? = some l→¬l.lease = 0→¬j.lease = l.lease
theorem It{b:Boss}{ts:List Task}(h:iJ b ts b.jobs.length):JL b.epoch b.now b.given b.workers b.results ts b.jobs:=by
 have hl:∀ {i:Nat} {j:Job},b.jobs[i]? = some j→i < b.jobs.length:=fun hj=>(List.getElem?_eq_some_iff.1 hj).1
 refine⟨fun i j hj hz=>(h i j (hl hj) hj).1 hz,fun i j hj hz=>((h i j (hl hj) hj).2 hz).lease,fun i j hj hz=>((h i j (hl hj) hj).2 hz).worker,fun i j hj hz=>((h i j (hl hj) hj).2 hz).til,fun i j hj hz=>((h i j (hl hj) hj).2 hz).res,fun i j hj hz=>((h i j (hl hj) hj).2 hz).ready,fun i k j l hik hj hk hz e=>?_⟩
 refine((h k l (hl hk) hk).2 hz).once (List.mem_map.2 ⟨j,?_,e⟩)
 exact List.mem_of_getElem? (i:=i) (by rw[List.getElem?_take];rw[if_pos hik];exact hj)
theorem E6{b:Boss}{ts:List Task}(h:JL b.epoch b.now b.given b.workers b.results ts b.jobs):iJ b ts b.jobs.length:=by
 intro i j _ hj
 refine⟨h.zero i j hj,fun hz=>⟨h.lease i j hj hz,h.worker i j hj hz,h.til i j hj hz,h.res i j hj hz,h.ready i j hj hz,fun hm=>?_⟩⟩
 obtain⟨l,hl,e⟩:=List.mem_map.1 hm
 obtain⟨k,hk⟩:=List.getElem?_of_mem hl
 rw[List.getElem?_take]at hk
 split at hk
 ·rename_i hki
  exact h.once k i l j hki hk hj hz e
 ·cases hk
theorem Nl{ep now now' given workers:Int}{rs:List ByteArray}{ts:List Task}{js:List Job}{f:Job→Job}(h:JL ep now given workers rs ts js)(hf:∀ j,f j = fm∨(f j).lease = j.lease∧(f j).worker = j.worker∧(j.lease = 0→f j = j)∧(¬j.lease = 0→(now+1≤j.til∧j.til≤now+12)→now'+1≤(f j).til∧(f j).til≤now'+12)):JL ep now' given workers rs ts (js.map f):=by
 have g:∀ {i:Nat} {x:Job},(js.map f)[i]? = some x→∃ j,js[i]? = some j∧f j = x:=fun{i x} hx=>by
  rw[List.getElem?_map]at hx
  cases hj:js[i]? with
  |none=>rw[hj]at hx;cases hx
  |some j=>rw[hj]at hx;exact⟨j,rfl,Option.some.inj hx⟩
 have k:∀ {i:Nat} {x:Job},(js.map f)[i]? = some x→¬x.lease = 0→∃ j,js[i]? = some j∧f j = x∧x.lease = j.lease∧x.worker = j.worker∧¬j.lease = 0∧now'+1≤x.til∧x.til≤now'+12:=fun{i x} hx hz=>by
  obtain⟨j,hj,e⟩:=g hx
  rcases hf j with q|⟨q1,q2,_,q3⟩
  ·rw[e]at q;rw[q]at hz;exact absurd rfl hz
  ·rw[e]at q1 q2 q3
   have hz':¬j.lease = 0:=fun w=>hz (by rw[q1];exact w)
   exact⟨j,hj,e,q1,q2,hz',q3 hz' (h.til i j hj hz')⟩
 refine⟨fun i x hx hz=>?_,fun i x hx hz=>?_,fun i x hx hz=>?_,fun i x hx hz=>?_,fun i x hx hz=>?_,fun i x hx hz=>?_,fun i m x y him hx hy hz e=>?_⟩
 ·obtain⟨j,hj,e⟩:=g hx
  rcases hf j with q|⟨q1,q2,q4,q3⟩
  ·rw[←e,q];exact⟨rfl,rfl⟩
  ·have hz':j.lease = 0:=by rw[←q1,e];exact hz
   rw[←e,q4 hz'];exact h.zero i j hj hz'
 ·obtain⟨j,hj,e,q1,q2,hz',t⟩:=k hx hz;rw[q1];exact h.lease i j hj hz'
 ·obtain⟨j,hj,e,q1,q2,hz',t⟩:=k hx hz;rw[q2];exact h.worker i j hj hz'
 ·obtain⟨j,hj,e,q1,q2,hz',t⟩:=k hx hz;exact t
 ·obtain⟨j,hj,e,q1,q2,hz',t⟩:=k hx hz;exact h.res i j hj hz'
 ·obtain⟨j,hj,e,q1,q2,hz',t⟩:=k hx hz;exact h.ready i j hj hz'
 ·obtain⟨l,hl,_,q1,_,hz',_⟩:=k hy hz
  have hzx:¬x.lease = 0:=fun w=>hz (by rw[←e];exact w)
  obtain⟨j,hj,_,p1,_,_,_⟩:=k hx hzx
  exact h.once i m j l him hj hl hz' (by rw[←p1,←q1];exact e)
theorem Zl{ep now given workers:Int}{rs:List ByteArray}{ts:List Task}{js:List Job}(h:JL ep now given workers rs ts js):JL ep (now+1) given workers rs ts (js.map (su (now+1))):=by
 refine Nl h fun j=>?_
 unfold su
 split
 ·exact .inl rfl
 ·rename_i hd
  exact .inr ⟨rfl,rfl,fun _=>rfl,fun _ q=>⟨by omega,by omega⟩⟩
theorem Xj{ep now given workers w:Int}{rs:List ByteArray}{ts:List Task}{js:List Job}(h:JL ep now given workers rs ts js):JL ep now given workers rs ts (js.map fun j=>if j.worker = w then fm else j):=by
 refine Nl h fun j=>?_
 split
 ·exact .inl rfl
 ·exact .inr ⟨rfl,rfl,fun _=>rfl,fun _ q=>q⟩
theorem Xk{ep now given workers l:Int}{rs:List ByteArray}{ts:List Task}{js:List Job}(hl:1≤l)(h:JL ep now given workers rs ts js):JL ep now given workers rs ts (js.map fun j=>if j.lease = l then⟨j.lease,j.worker,now+12⟩else j):=by
 refine Nl h fun j=>?_
 split
 ·rename_i e
  exact .inr ⟨rfl,rfl,fun z=>absurd z OM,fun _ q=>⟨by dsimp only;omega,by dsimp only;omega⟩⟩
 ·exact .inr ⟨rfl,rfl,fun _=>rfl,fun _ q=>q⟩
theorem Zj{ep now given workers s:Int}{rs:List ByteArray}{ts:List Task}{js:List Job}{n:Nat}{j0:Job}(h:JL ep now given workers rs ts js)(hj:js[n]? = some j0)(hg:0≤given)(hs:0≤s∧s < workers)(hr:atS rs (n:Int) = emp)(hd:de rs (ov ts n))(he:1≤ep):JL ep now (given+1) workers rs ts (js.set n ⟨(ep - 1) * 1000000+ (given+1),s+1,now+12⟩):=by
 have hn:=(List.getElem?_eq_some_iff.1 hj).1
 have g:∀ {i:Nat} {x:Job},(js.set n ⟨(ep - 1) * 1000000+ (given+1),s+1,now+12⟩)[i]? = some x→(i = n∧x = ⟨(ep - 1) * 1000000+ (given+1),s+1,now+12⟩)∨(¬i = n∧js[i]? = some x):=fun{i x} hx=>by
  by_cases e:i = n
  ·subst e
   rw[List.getElem?_set_self hn]at hx
   exact .inl ⟨rfl,(Option.some.inj hx).symm⟩
  ·rw[List.getElem?_set_ne (fun q=>e q.symm)]at hx
   exact .inr ⟨e,hx⟩
 refine⟨fun i x hx hz=>?_,fun i x hx hz=>?_,fun i x hx hz=>?_,fun i x hx hz=>?_,fun i x hx hz=>?_,fun i x hx hz=>?_,fun i m x y him hx hy hz e=>?_⟩
 ·rcases g hx with⟨_,rfl⟩|⟨_,q⟩
  ·dsimp only at hz;omega
  ·exact h.zero i x q hz
 ·rcases g hx with⟨_,rfl⟩|⟨_,q⟩
  ·exact⟨by dsimp only;omega,by dsimp only;omega⟩
  ·have:=h.lease i x q hz;exact⟨by omega,by omega⟩
 ·rcases g hx with⟨_,rfl⟩|⟨_,q⟩
  ·exact⟨by dsimp only;omega,by dsimp only;omega⟩
  ·exact h.worker i x q hz
 ·rcases g hx with⟨_,rfl⟩|⟨_,q⟩
  ·exact⟨by dsimp only;omega,by dsimp only;omega⟩
  ·exact h.til i x q hz
 ·rcases g hx with⟨rfl,rfl⟩|⟨_,q⟩
  ·exact hr
  ·exact h.res i x q hz
 ·rcases g hx with⟨rfl,rfl⟩|⟨_,q⟩
  ·exact hd
  ·exact h.ready i x q hz
 ·rcases g hx with⟨a,rfl⟩|⟨a,qx⟩
  ·rcases g hy with⟨b,rfl⟩|⟨_,qy⟩
   ·omega
   ·have:=(h.lease m y qy hz).2;dsimp only at e;omega
  ·rcases g hy with⟨_,rfl⟩|⟨_,qy⟩
   ·have hx0:¬x.lease = 0:=fun w=>by dsimp only at e;omega
    have:=(h.lease i x qx hx0).2;dsimp only at e;omega
   ·exact h.once i m x y him qx qy hz e
end Go.K
end
section
open Go Go.Tm Go.Proofs
namespace Go.K
theorem S8(l:List Int)(pos:Int)(hl:dN l)(h0:0≤pos)(h1:pos≤1000000):∃ res outs,(∃ k ep ta tx pos2,res = iQ k ep ta tx∧outs = [rdC l pos2]∧Entry.ok ⟨k,ep,ta,tx⟩∧tx.size≤8∧pos≤pos2∧pos2≤pos+10)∧F lw [.ptr (rdC l pos)] res outs:=by
 have p0:=aj l pos 3
 have p1:=aj l (pos+1) 4
 have p2:=aj l (pos+1) 3
 have p3:=aj l (pos+1+1) 4
 obtain⟨xe,hxe1,hxe2⟩:=cX [1,2,256,300] (ac l (pos+1) 4) p1.1 (by show _ < (4:Int);omega)
 have hxe3:([[T.i 1],[T.i 2],[T.i 256],[T.i 300]]:List (List T))[(ac l (pos+1) 4).toNat]? = some [T.i xe]:=hxe2
 obtain⟨xt,hxt1,hxt2⟩:=cX [0,1,2,39] (ac l (pos+1+1) 4) p3.1 (by show _ < (4:Int);omega)
 have hxt3:([[T.i 0],[T.i 1],[T.i 2],[T.i 39]]:List (List T))[(ac l (pos+1+1) 4).toNat]? = some [T.i xt]:=hxt2
 have be:1≤xe∧xe≤300:=by simp only[List.mem_cons,List.not_mem_nil,or_false]at hxe1;omega
 have bt:0≤xt∧xt≤39:=by simp only[List.mem_cons,List.not_mem_nil,or_false]at hxt1;omega
 by_cases h3:ac l pos 3 = 0
 ·refine pX ?_
  conv=>whnf
  refine g 0 0 []<|J UA<|Ws<|g 4 5 [.call (V.i (ac l pos 3)) ([rdC l (pos+1),[]])]<|J (QA @aa)<|Wc<|J (fun _=>(g 5 12 [.call (V.i (ac l (pos+1) 4)) ([rdC l (pos+1+1),[]]),.n (Int.toNat (ac l (pos+1) 4)),.x ([T.i xe])]<|J (QA @aa) (W.ret (EndsW.rt<|J UE ?_)))) (noF tO)
  exact⟨1,xe,0,emp,_,rfl,rfl,⟨be,⟨Int.le_refl _,by dsimp only;omega⟩,.inl ⟨rfl,rfl,rfl⟩⟩,Nat.zero_le 8,by omega,by omega⟩
 ·refine pX ?_
  conv=>whnf
  refine g 0 0 []<|J UA<|Ws<|g 4 5 [.call (V.i (ac l pos 3)) ([rdC l (pos+1),[]])]<|J (QA @aa)<|Wc<|J (noT dO) fun _=>Wk<|gd 3 23 [[],[.call (V.i (ac l (pos+1) 3)) ([rdC l (pos+1+1),[]])],[.i (1+ac l (pos+1) 3)],[],[],[.call (V.i (ac l (pos+1+1) 4)) ([rdC l (pos+1+1+1),[]])],[.n (Int.toNat (ac l (pos+1+1) 4))],[.x ([T.i xt])],[],[.call (V.s (qa (dD (ac l (pos+1+1+1) 50)))) ([rdC l (pos+1+1+1+1)])],[],[]] ?_
  conv=>whnf
  refine J (QB @aa @dS)<|J KR<|W.ret<|EndsW.rt<|J UE ?_
  exact⟨2,1+ac l (pos+1) 3,xt,qa (dD (ac l (pos+1+1+1) 50)),_,rfl,rfl,⟨⟨by dsimp only;omega,by dsimp only;omega⟩,bt,.inr ⟨rfl,by dsimp only;rw[dY];rfl⟩⟩,by rw[dY];omega,by omega,by omega⟩
theorem wU(l:List Int)(pos:Int)(h:dN l∧0≤pos∧pos≤1000000):∃ x:Entry×Int,F lw [.ptr (rdC l pos)] (iQ x.1.kind x.1.epoch x.1.task x.1.text) [rdC l x.2]∧Entry.ok x.1∧x.1.text.size≤8∧pos≤x.2∧x.2≤pos+10:=by
 obtain⟨res,outs,⟨k,ep,ta,tx,pos2,rfl,rfl,h1,h2,h3,h4⟩,hF⟩:=S8 l pos h.1 h.2.1 h.2.2
 exact⟨(⟨k,ep,ta,tx⟩,pos2),hF,h1,h2,h3,h4⟩
open Classical in
noncomputable def gl(l:List Int)(pos:Int):Entry×Int:=if h:dN l∧0≤pos∧pos≤1000000 then(wU l pos h).choose else(⟨1,1,0,emp⟩,pos)
theorem qJ(l:List Int)(pos:Int)(hl:dN l)(h0:0≤pos)(h1:pos≤1000000):F lw [.ptr (rdC l pos)] (iQ (gl l pos).1.kind (gl l pos).1.epoch (gl l pos).1.task (gl l pos).1.text) [rdC l (gl l pos).2]:=by
 have h:dN l∧0≤pos∧pos≤1000000:=⟨hl,h0,h1⟩
 rw[gl,dif_pos h]
 exact(wU l pos h).choose_spec.1
theorem K4(l:List Int)(pos:Int):Entry.ok (gl l pos).1∧(gl l pos).1.text.size≤8∧pos≤(gl l pos).2∧(gl l pos).2≤pos+10:=by
 unfold gl
 split
 ·rename_i h;exact(wU l pos h).choose_spec.2
 ·exact⟨⟨⟨by dsimp only;omega,by dsimp only;omega⟩,⟨Int.le_refl _,by dsimp only;omega⟩,.inl ⟨rfl,rfl,rfl⟩⟩,Nat.zero_le 8,Int.le_refl _,by dsimp only;omega⟩
end Go.K
end
section
open Go Go.Tm Go.Proofs
namespace Go.K
theorem iP(e:Entry):(bT e).size≤4+e.text.size:=by
 unfold bT
 split
 ·rw[ByteArray.size_append,gQ];exact Nat.le_refl _
 ·exact Nat.zero_le _
end Go.K
end
section
open Go Go.Tm Go.Proofs
namespace Go.K
theorem Za{n:Nat}{t:TypeId}{zc:List V}{b:Nat}(ht:E.ty t = some ⟨.int .u8,zc,b⟩){xs:List (List T)}(h:∀ y∈xs,wfT E (n+1) t y):∃ l:List Int,xs = l.map b1T∧∀ x∈l,0≤x∧x≤255 :=
 nh (f:=b1T) (p:=fun x=>0≤x∧x≤255) fun y hy=>by
  have h1:=h y hy
  simp only[wfT,ht]at h1
  obtain⟨m,hm,h2,h3⟩:=h1
  exact⟨m,hm,h2,h3⟩
end Go.K
end
section
open Go Go.Tm Go.Proofs
namespace Go.K
theorem SP(xs:List ByteArray)(y:ByteArray):xs.map ai++ [ai y] = (xs++ [y]).map ai:=by rw[List.map_append];rfl
theorem um(xs:List ByteArray)(y:ByteArray):(xs++ [y]).length = xs.length+1:=by rw[List.length_append];rfl
theorem CG{n:Nat}{xs:List ByteArray}{y:ByteArray}(h:∀ s∈xs,s.size≤n)(hy:y.size≤n):∀ s∈xs++ [y],s.size≤n:=by
 intro s hs
 rcases List.mem_append.1 hs with hs|hs
 ·exact h s hs
 ·rw[List.mem_singleton.1 hs];exact hy
end Go.K
end
section
open Go Go.Tm Go.Proofs
namespace Go.K
structure RepOk (p:Plan) (xs:List ByteArray):Prop where
 plan:kH p
 len:xs.length≤400
 size:∀ s∈xs,s.size≤64
end Go.K
end
section
open Go Go.Tm Go.Proofs
namespace Go.K
theorem VJ{hs:List Int}{r:ByteArray}{k:Nat}{x:Int}(hk:hs[k]? = some x)(hx:0≤x∧x≤255):byt (bl hs++r) k = x:=by
 obtain⟨⟨l⟩⟩:=r
 have e:bl hs++ ⟨⟨l⟩⟩ = ⟨⟨(hs.map fun n=>UInt8.ofNat n.toNat) ++l⟩⟩:=by
  apply ByteArray.ext
  rw[ByteArray.data_append]
  apply Array.ext'
  simp[bl]
 have h1:((hs.map fun n=>UInt8.ofNat n.toNat) ++l)[k]? = some (UInt8.ofNat x.toNat):=by
  rw[List.getElem?_append_left (by rw[List.length_map];exact(List.getElem?_eq_some_iff.1 hk).1),List.getElem?_map,hk];rfl
 rw[e,wv h1]
 simp;omega
theorem uw(a r:ByteArray):(a++r).extract a.size (a++r).size = r:=by
 have e:a.extract a.size (a.size+r.size) = emp:=ByteArray.size_eq_zero_iff.1 (by rw[ByteArray.size_extract];omega)
 rw[ByteArray.size_append,ByteArray.extract_append,e,ML]
 simp
end Go.K
end
section
open Go Go.Tm Go.Proofs
namespace Go.K
attribute [local irreducible] ByteArray.extract
theorem Ko{s key:ByteArray}{m:Message}(h:eG s key = some m):bL m:=by
 unfold eG at h
 by_cases h0:s.size < 19
 ·rw[if_pos (Or.inl h0)]at h;cases h
 ·by_cases h1:dR (rdM (s.extract 8 s.size)) key = s
  ·rw[if_neg (by rintro(h|h);exact h0 h;exact h h1)]at h
   cases h
   exact((nj h0).1 h1).1
  ·rw[if_pos (Or.inr h1)]at h;cases h
end Go.K
end
section
open Go Go.Tm Go.Proofs
namespace Go.K
attribute [local irreducible] ByteArray.extract
theorem Hs(xs ys:List ByteArray)(hl:xs.length≤9223372036854775806):F tA [.val (.t (o9 xs)),.val (.t (o9 ys))] (.b (decide (xs = ys))) [[],[]]:=by
 refine G7 ?_
 conv=>whnf
 refine g 0 0 []<|J UA<|Ws<|g 6 10 []<|J UE<|Wc<|JN (fun h1=>?_) fun h1=>?_
 simp only[LM]at h1
 refine g 10 11 []<|J UA<|RT ?_
 rotate_left
 simp only[LM]at h1
 refine Wk<|Ws<|g 10 11 []<|J UA<|Wb ?_
 rotate_left
 ·exact vbf (fun e=>h1 (by rw[e]))
 refine Wl (fun s (n:Nat)=>⟨[(0,s.s 0),(1,s.s 1),(5,.i n)],[],[]⟩) (fun(n:Nat)=>n≤xs.length∧xs.take n = ys.take n) (fun(n:Nat)=>xs.length - n) (0) [] [] FZ (by simp) ?_
 rintro n ⟨hn,hc⟩
 conv=>whnf
 refine Ws<|g 11 14 []<|J UD<|Wc<|JD (fun h2=>?_) fun h2=>?_
 simp only[LM]at h2
 refine Wk<|Ws<|Wb ?_
 obtain⟨y1,hy1⟩:=ae (xs:=xs) (n:=n) OM
 obtain⟨y2,hy2⟩:=ae (xs:=ys) (n:=n) OM
 refine gd 14 25 [[],[],[.x (ai y1)],[],[],[],[.x (ai y2)],[],[]] ?_
 conv=>whnf
 refine J QZ<|J KR<|Wc<|JN (fun h3=>?_) fun h3=>?_
 refine g 25 26 []<|J UA<|RT ?_
 rotate_left
 refine Wk<|rg [.i ((n:Int) +1)]<|J QZ ?_
 rotate_left
 simp only[LM]at h2
 refine We<|g 0 2 []<|J UA<|RT ?_
 rotate_left
 ·exact vbf (fun e=>by subst e;rw[hy1]at hy2;cases hy2;exact h3 rfl)
 ·refine⟨n+1,[],[],Zag,?_,?_⟩
  rotate_left
  (dsimp only;omega)
  dsimp only
  exact⟨by omega,kC hc hy1 (by rw[hy2];exact congrArg some (Eq.symm h3))⟩
 ·exact vbt (by rw[aH OM,aH OM]at hc;exact hc)
end Go.K
end
section
open Go Go.Tm Go.Proofs
namespace Go.K
theorem Xm{e:Entry}(h:e.ok):rdS (bT e) = e:=by
 have hok:=h
 obtain⟨⟨h1,h2⟩,⟨h3,h4⟩,h5⟩:=h
 have hk:1≤e.kind∧e.kind≤2:=by rcases h5 with q|q <;> (have:=q.1;omega)
 have d1:e.epoch.tdiv 256 = e.epoch / 256:=Int.tdiv_eq_ediv_of_nonneg OM
 have d2:e.epoch.tmod 256 = e.epoch % 256:=Int.tmod_eq_emod_of_nonneg OM
 have hf:bT e = bl [e.kind,e.epoch / 256,e.epoch % 256,e.task] ++e.text:=by
  rw[bT,if_pos hok,d1,d2,wO,wu8 OM OM,wu8 OM OM,wu8 OM OM,wu8 OM OM]
 have hl:(bl [e.kind,e.epoch / 256,e.epoch % 256,e.task]).size = 4:=by rw[gQ];rfl
 have hx:(bT e).extract 4 (bT e).size = e.text:=by rw[hf,←hl];exact uw _ _
 have b:∀ (k:Nat) (x:Int),([e.kind,e.epoch / 256,e.epoch % 256,e.task])[k]? = some x→0≤x∧x≤255→byt (bT e) k = x:=fun k x hk hx=>by rw[hf];exact VJ hk hx
 have k0:=b 0 e.kind rfl ⟨by omega,by omega⟩
 have k1:=b 1 (e.epoch / 256) rfl ⟨by omega,by omega⟩
 have k2:=b 2 (e.epoch % 256) rfl ⟨by omega,by omega⟩
 have k3:=b 3 e.task rfl ⟨by omega,by omega⟩
 unfold rdS
 rw[k0,k1,k2,k3,hx,show e.epoch / 256 * 256+e.epoch % 256 = e.epoch by omega]
theorem P2{e:Entry}(h:e.ok):(bT e).size = 4+e.text.size:=by
 rw[bT,if_pos h,ByteArray.size_append,gQ];rfl
theorem Bm{e:Entry}(h:e.ok):eR (bT e) = some e:=by
 have:=P2 h
 rw[eR,if_neg OM,Xm h,if_pos rfl]
theorem Mb{s:ByteArray}{e:Entry}(h:eR s = some e):bT e = s:=by
 unfold eR at h
 split at h
 ·cases h
 ·split at h
  ·cases h;assumption
  ·cases h
end Go.K
end
section
open Go Go.Tm Go.Proofs
namespace Go.K
theorem aan{p:Plan}(hck:am p.tasks = 0):∀ t∈p.tasks,t.deps.length≤8:=fun t ht=>by
 obtain⟨k,hk⟩:=List.getElem?_of_mem ht
 exact(cq hck hk).2.2.1
structure HandK (b:Boss) (ts:List Task) (h:Hand):Prop where
 jl:JL b.epoch b.now h.given b.workers b.results ts h.jobs
 seats:∀ s∈h.seats,0≤s.epoch∧s.epoch≤300
theorem Uk{b:Boss}{ts:List Task}(hd:∀ t∈ts,t.deps.length≤8)(he:1≤b.epoch)(h0:0≤b.given)(h1:b.given≤1000000)(hjl:b.jobs.length = ts.length)(hsl:(b.seats.length:Int) = b.workers)(hj:JL b.epoch b.now b.given b.workers b.results ts b.jobs)(hs:∀ s∈b.seats,0≤s.epoch∧s.epoch≤300):∀ n,n≤ts.length→HandK b ts (aK b ts n)
 |0,_=>⟨hj,hs⟩
 |n+1,hn=>by
  have ih:=Uk hd he h0 h1 hjl hsl hj hs n OM
  have ho:=mn hd h0 h1 n
  by_cases hc:CanHand b ts (aK b ts n) n
  ·cases hf:lG (aK b ts n).seats with
   |none=>rw[pQ hf];exact ih
   |some s =>
    rw[pP hc hf]
    obtain⟨x,hx0,hx1,hx2,_⟩:=pR hf
    have e1:=ho.jobs
    have e2:=ho.seats
    obtain⟨j,hj0⟩:=ae (xs:=(aK b ts n).jobs) (n:=n) OM
    refine⟨Zj ih.jl hj0 ho.lo ⟨by omega,by omega⟩ hc.res hc.ready he,fun y hy=>?_⟩
    rcases List.mem_or_eq_of_mem_set hy with hy|hy
    ·exact ih.seats y hy
    ·rw[hy]
     have:m7 (aK b ts n).seats s = x:=by rw[m7,hx0];rfl
     show 0≤(m7 _ _).epoch∧(m7 _ _).epoch≤300
     rw[this]
     exact ih.seats x (List.mem_of_getElem? hx0)
  ·rw[jy hc];exact ih
theorem aag{b:Boss}(h:¬b.up = false):b.up = true:=by cases hb:b.up;exact absurd hb h;rfl
theorem LU{b:Boss}{p:Plan}(hv:BossOk b p):BossOk (iw b p.tasks).boss p:=by
 by_cases h0:b.now = 1000000
 ·rw[tY h0];exact hv
 have hnow:=hv.now
 by_cases hup:b.up = false
 ·rw[A5 h0 hup]
  obtain⟨d1,d2,d3,d4,d5,d6,d7,d8⟩:=hv.down hup
  exact⟨hv.plan,hv.workers,⟨by show 0≤b.now+1;omega,by show b.now+1≤1000000;omega⟩,hv.code,(fun e=>by rw[show(ZV b).up = b.up from rfl,hup]at e;cases e),fun _=>⟨d1,d2,d3,d4,d5,d6,d7,d8⟩⟩
 have hup2:=aag hup
 obtain⟨u1,u2,u3,u4,u5,u6,⟨u7,u8⟩,⟨u9,u10⟩,u11,u12,u13,u14⟩:=hv.up hup2
 have hd:=aan hv.plan
 have hj:JL (dG b).epoch (dG b).now (dG b).given (dG b).workers (dG b).results p.tasks (dG b).jobs:=Zl (It u12)
 have hjl:(dG b).jobs.length = p.tasks.length:=by show(b.jobs.map _).length = _;rw[List.length_map];exact u4
 have hk:=Uk (b:=dG b) (ts:=p.tasks) hd u2 u9 u10 hjl u5 hj u13 p.tasks.length (Nat.le_refl _)
 have ho:=mn (b:=dG b) (ts:=p.tasks) hd u9 u10 p.tasks.length
 have e1:(endH b p.tasks).jobs.length = p.tasks.length:=by show(aK _ _ _).jobs.length = _;rw[ho.jobs];exact hjl
 have e2:((endH b p.tasks).seats.length:Int) = b.workers:=by show((aK _ _ _).seats.length:Int) = _;rw[ho.seats];exact u5
 by_cases hs:b.since+1 = 2
 ·rw[nx h0 hup hs]
  have es:cx ⟨b.workers,b.up,b.now+1,0,b.epoch,(endH b p.tasks).given,⟨b.log.safe++b.log.loose,[]⟩,b.results,(endH b p.tasks).jobs,(endH b p.tasks).seats,[]⟩ p = cx b p:=by show aw p ((b.log.safe++b.log.loose) ++ []) = aw p (b.log.safe++b.log.loose);rw[List.append_nil]
  refine⟨hv.plan,hv.workers,⟨by show 0≤b.now+1;omega,by show b.now+1≤1000000;omega⟩,by rw[es];exact hv.code,fun _=>?_,fun e=>absurd (show b.up = false from e) hup⟩
  rw[es]
  exact⟨u1,u2,u3,e1,e2,u6,⟨Int.le_refl _,by show(0:Int)≤1;omega⟩,⟨ho.lo,ho.hi⟩,Nat.zero_le _,E6 hk.jl,hk.seats,fun o ho=>by cases ho⟩
 ·rw[pz h0 hup hs]
  have es:cx ⟨b.workers,b.up,b.now+1,b.since+1,b.epoch,(endH b p.tasks).given,b.log,b.results,(endH b p.tasks).jobs,(endH b p.tasks).seats,b.owed⟩ p = cx b p:=rfl
  refine⟨hv.plan,hv.workers,⟨by show 0≤b.now+1;omega,by show b.now+1≤1000000;omega⟩,by rw[es];exact hv.code,fun _=>?_,fun e=>absurd (show b.up = false from e) hup⟩
  rw[es]
  exact⟨u1,u2,u3,e1,e2,u6,⟨by show 0≤b.since+1;omega,by show b.since+1≤1;omega⟩,⟨ho.lo,ho.hi⟩,u11,E6 hk.jl,hk.seats,fun o ho=>by obtain⟨a1,a2,a3,a4⟩:=u14 o ho;exact⟨a1,a2,a3,a4⟩⟩
end Go.K
end
section
open Go Go.Tm Go.Proofs
namespace Go.K
theorem Fy(ts:List Task)(st:Option Tale)(xs:List ByteArray)(s:ByteArray):kS ts st (xs++ [s]) = (kS ts st xs).bind fun t=>d9 ts t s:=by
 rw[pc];cases kS ts st xs with
 |none=>rfl
 |some t=>rfl
theorem I6{p:Plan}{xs:List ByteArray}{e:Entry}{t:Task}(h:(aw p xs).code = 0)(hl:xs.length < 310)(hok:e.ok)(hk:¬e.kind = 1)(he:e.epoch = (aw p xs).epoch)(ht:p.tasks[e.task.toNat]? = some t)(ht2:e.task < p.tasks.length)(hr:atS (aw p xs).results e.task = emp)(hd:de (aw p xs).results t.deps):aw p (xs++ [bT e]) = ⟨0,(aw p xs).epoch,(aw p xs).results.set e.task.toNat e.text⟩:=by
 obtain⟨hck,_,hrl,u,h1,h2⟩:=cC h
 rw[h2]at he hr hd ⊢
 dsimp only at he hr hd
 obtain⟨y,hy⟩:∃ y,u.results[e.task.toNat]? = some y:=by
  rw[h2]at hrl
  exact ae (by have:=hok.2.1.1;dsimp only at hrl;omega)
 have hs:d9 p.tasks u (bT e) = some ⟨u.epoch,u.results.set e.task.toNat e.text⟩:=Cj (Bm hok) hk he ht2 hy (by rw[kP hy]at hr;exact hr) ht hd
 unfold aw
 rw[if_pos ⟨hck,by rw[List.length_append,List.length_singleton];omega⟩,Fy,h1]
 rw[Option.bind_some,hs]
theorem nn{p:Plan}{xs:List ByteArray}{n:Int}(h:(aw p xs).code = 0)(hl:xs.length < 310)(hn:n = (aw p xs).epoch+1)(h3:n≤300):aw p (xs++ [bT (epE n)]) = ⟨0,n,(aw p xs).results⟩:=by
 obtain⟨hck,_,hrl,u,h1,h2⟩:=cC h
 have he:=(fr h).1
 rw[h2]at hn he ⊢
 dsimp only at hn he
 have hok:(epE n).ok:=⟨⟨by show 1≤n;omega,h3⟩,⟨Int.le_refl _,by show(0:Int)≤39;omega⟩,.inl ⟨rfl,rfl,rfl⟩⟩
 have hs:d9 p.tasks u (bT (epE n)) = some ⟨n,u.results⟩:=HK (Bm hok) rfl hn
 unfold aw
 rw[if_pos ⟨hck,by rw[List.length_append,List.length_singleton];omega⟩,Fy,h1]
 rw[Option.bind_some,hs]
theorem rQ{p:Plan}{xs ys:List ByteArray}(h:(aw p (xs++ys)).code = 0):(aw p xs).code = 0:=by
 obtain⟨hck,hl,_,u,h1,_⟩:=cC h
 rw[pc]at h1
 unfold aw
 rw[if_pos ⟨hck,by rw[List.length_append]at hl;omega⟩]
 cases hr:kS p.tasks (some (mC p.tasks)) xs with
 |none=>rw[hr,ja]at h1;cases h1
 |some t=>rfl
theorem sm{b:Boss}{p:Plan}(k:Int)(hv:BossOk b p):BossOk (lf b k) p:=by
 by_cases hup:b.up = false
 ·rw[pU hup];exact hv
 rw[BU hup]
 have hc:(aw p ((b.log.safe++b.log.loose.take (jL k b.log.loose.length)) ++ [])).code = 0:=by
  rw[List.append_nil]
  have h:=hv.code
  rw[cx,←List.take_append_drop (jL k b.log.loose.length) b.log.loose,←List.append_assoc]at h
  exact rQ h
 exact⟨hv.plan,hv.workers,hv.now,hc,(fun e=>by cases e),fun _=>⟨rfl,rfl,rfl,rfl,rfl,rfl,rfl,rfl⟩⟩
theorem rP{b:Boss}{p:Plan}(hv:BossOk b p):BossOk (cU b p) p:=by
 by_cases hr:qc b p
 ·rw[CT hr]
  obtain⟨h1,h2,h3⟩:=hr
  obtain⟨_,hc⟩:=Bu hv h1
  have hw:=hv.workers
  have he:=(fr hc).1
  obtain⟨hck,_,hrl,_⟩:=cC hc
  have e:=nn (p:=p) (xs:=b.log.safe) (n:=(aw p b.log.safe).epoch+1) hc h2 rfl OM
  have es:cx (upB b.workers b.now b.log.safe p (aw p b.log.safe)) p = ⟨0,(aw p b.log.safe).epoch+1,(aw p b.log.safe).results⟩:=by
   show aw p ((b.log.safe++ [bT (epE _)]) ++ []) = _
   rw[List.append_nil,e]
  refine⟨hv.plan,hw,hv.now,by rw[es],fun _=>?_,fun e=>by cases e⟩
  rw[es]
  refine⟨rfl,by show 1≤(aw p b.log.safe).epoch+1;omega,hrl,by show(List.replicate _ _).length = _;rw[List.length_replicate],by show((List.replicate b.workers.toNat iE).length:Int) = b.workers;rw[List.length_replicate];omega,rfl,⟨Int.le_refl _,by show(0:Int)≤1;omega⟩,⟨Int.le_refl _,by show(0:Int)≤1000000;omega⟩,Nat.zero_le _,?_,?_,fun o ho=>by cases ho⟩
  ·intro i j _ hj
   have:j = fm:=by
    have:=List.mem_of_getElem? hj
    exact(List.mem_replicate.1 this).2
   subst this
   exact⟨fun _=>⟨rfl,rfl⟩,fun q=>absurd rfl q⟩
  ·intro s hs
   rw[(List.mem_replicate.1 hs).2]
   exact⟨Int.le_refl _,by show(0:Int)≤300;omega⟩
 ·rw[oc hr];exact hv
end Go.K
end
section
open Go Go.Tm Go.Proofs
namespace Go.K
noncomputable def rX(key:ByteArray)(acc:List Parcel)(m:Message):List Parcel:=if bL m∧key.size≤30∧acc.length < 2000 then acc++ [⟨m.to,dR m key,dR m key⟩]else acc
noncomputable def iC(xs:List Parcel)(ms:List Message)(key:ByteArray)(n:Nat):List Parcel:=(ms.take n).foldl (rX key) xs
noncomputable def rY(xs:List Parcel)(ms:List Message)(key:ByteArray):List Parcel:=iC xs ms key ms.length
theorem Mg(xs:List Parcel)(ms:List Message)(key:ByteArray):iC xs ms key 0 = xs:=by unfold iC;rw[List.take_zero];rfl
theorem rZ{xs:List Parcel}{ms:List Message}{key:ByteArray}{n:Nat}{m:Message}(h:ms[n]? = some m):iC xs ms key (n+1) = rX key (iC xs ms key n) m:=by
 unfold iC;rw[List.take_add_one,h];simp
theorem SF{key:ByteArray}{acc:List Parcel}{m:Message}(h:acc.length≤1048576):(rX key acc m).length≤1048576:=by
 unfold rX;split
 ·rename_i h2;rw[List.length_append];simp;omega
 ·exact h
theorem uf{xs:List Parcel}(ms:List Message)(key:ByteArray)(h:xs.length≤1048576):∀ n,(iC xs ms key n).length≤1048576
 |0=>by rw[Mg];exact h
 |n+1=>by
  cases hm:ms[n]? with
  |none =>
   have:ms.take (n+1) = ms.take n:=by rw[List.take_add_one,hm];simp
   have e:iC xs ms key (n+1) = iC xs ms key n:=by unfold iC;rw[this]
   rw[e];exact uf ms key h n
  |some m=>rw[rZ hm];exact SF (uf ms key h n)
theorem Bd(b k:ByteArray):(fH b k).size = 8:=by unfold fH qa;rw[gQ,qR]
theorem P3{m:Message}{key:ByteArray}(h:bL m)(hk:key.size≤30):¬dR m key = emp:=fun e=>by
 have:=congrArg ByteArray.size e
 rw[dR,if_pos ⟨h,hk⟩,ByteArray.size_append,Bd]at this
 have h0:emp.size = 0:=by decide
 omega
theorem SZ{m:Message}{key:ByteArray}(h:¬(bL m∧key.size≤30)):dR m key = emp:=by rw[dR,if_neg h]
theorem Kt{xs:List Parcel}{ms:List Message}{key:ByteArray}{n:Nat}{m:Message}(h:ms[n]? = some m)(h1:bL m)(h2:key.size≤30)(h3:(iC xs ms key n).length < 2000) :
 (iC xs ms key n).map bh++ [bh ⟨m.to,dR m key,dR m key⟩] = (iC xs ms key (n+1)).map bh:=by
 rw[rZ h,rX,if_pos ⟨h1,h2,h3⟩,List.map_append];rfl
theorem uH{xs:List Parcel}{ms:List Message}{key:ByteArray}{n:Nat}{m:Message}(h:ms[n]? = some m)(h1:¬(bL m∧key.size≤30∧(iC xs ms key n).length < 2000)) :
 (iC xs ms key n).map bh = (iC xs ms key (n+1)).map bh:=by
 rw[rZ h,rX,if_neg h1]
theorem JO(xs:List Parcel)(ms:List Message)(key:ByteArray)(hx:xs.length≤1048576)(hl:ms.length≤1048576)(hm:∀ m∈ms,m.inputs.length≤1048576):F Ji [.val (.t (xw xs)),.val (.t (.slc cS (ms.map aL))),.val (.s key)] (.own pkd ((rY xs ms key).map bh)) [[],[],[]]:=by
 refine Jy ?_
 conv=>whnf
 refine g 0 0 []<|J UA<|g 11 13 [.call (V.own pkd (List.map bh xs)) [[]]]<|J (QA @dM)<|Ws<|g 0 0 []<|J UC<|Wb<|Wl (fun s (n:Nat)=>⟨(SK s [0,1,2,6] [(7,.ref ⟨12,none,0⟩),(13,s.s 13),(14,s.s 14),(15,.i n)]),[(12,[.own pkd ((iC xs ms key n).map bh)])],[]⟩) (fun(n:Nat)=>n≤ms.length) (fun(n:Nat)=>ms.length - n) (0) [some 12] [] FZ OM ?_
 intro n hn
 have hpl:=uf ms key hx n
 by_cases hn2:n < ms.length
 ·obtain⟨m,hm1⟩:=ae hn2
  have hmi:=hm m (List.mem_of_getElem? hm1)
  have cv:=cO m OM
  have cf:=rG m key OM
  by_cases hv:bL m
  ·rw[decide_eq_true hv]at cv
   by_cases hk:key.size≤30
   ·by_cases h3:(iC xs ms key n).length < 2000
    ·conv=>whnf
     refine g 0 0 []<|J UA<|Ws<|Wc<|J (fun _=>(Wk (Ws (Wb (g 16 19 [.x (aL m)]<|J QZ (g 19 30 (.call VT [[]]::(RL 8 BT []))<|J QZ (Wc<|J (fun h1=>?_) fun h1=>?_))))))) (noF SI)
     replace h1:=dt h1
     simp only[LM]at h1
     refine g 30 34 [.call (V.s (dR m key)) [[],[]]]<|J QZ<|rg []<|J QZ<|rg [.i ((n:Int) +1)]<|J QZ ?_
     rotate_left
     replace h1:=df h1
     simp only[LM]at h1
     omega
     refine⟨n+1,[some 41],[],⟨rfl,FZ,⟨⟨rfl,⟨(congrArg (V.own _) (Kt hm1 hv hk h3)),I⟩⟩,I⟩,I⟩,?_,?_⟩
     rotate_left
     (dsimp only;omega)
     dsimp only
     omega
    ·conv=>whnf
     refine g 0 0 []<|J UA<|Ws<|Wc<|J (fun _=>(Wk (Ws (Wb (g 16 19 [.x (aL m)]<|J QZ (g 19 30 (.call VT [[]]::(RL 8 BT []))<|J QZ (Wc<|J (fun h1=>?_) fun h1=>?_))))))) (noF SI)
     replace h1:=dt h1
     simp only[LM]at h1
     omega
     replace h1:=df h1
     simp only[LM]at h1
     refine Wk<|rg [.i ((n:Int) +1)]<|J QZ ?_
     refine⟨n+1,[some 12],[],⟨rfl,FZ,⟨⟨rfl,⟨(congrArg (V.own _) (uH hm1 (fun q=>h3 q.2.2))),I⟩⟩,I⟩,I⟩,?_,?_⟩
     rotate_left
     (dsimp only;omega)
     dsimp only
     omega
   ·conv=>whnf
    refine g 0 0 []<|J UA<|Ws<|Wc<|J (fun _=>(Wk (Ws (Wb (g 16 19 [.x (aL m)]<|J QZ (g 19 30 [.call VT [[]],BT,BT,BT,BT,BF,BF,BF,BF]<|J QZ (Wc<|J (noT rfl) fun _=>(Wk (rg [.i ((n:Int) +1)]<|J QZ ?_))))))))) (noF SI)
    refine⟨n+1,[some 12],[],⟨rfl,FZ,⟨⟨rfl,⟨(congrArg (V.own _) (uH hm1 (fun q=>hk q.2.1))),I⟩⟩,I⟩,I⟩,?_,?_⟩
    rotate_left
    (dsimp only;omega)
    dsimp only
    omega
  ·rw[decide_eq_false hv]at cv
   conv=>whnf
   refine g 0 0 []<|J UA<|Ws<|Wc<|J (fun _=>(Wk (Ws (Wb (g 16 19 [.x (aL m)]<|J QZ (g 19 30 (.call VF [[]]::(RL 8 BF []))<|J QZ (Wc<|J (noT rfl) fun _=>(Wk (rg [.i ((n:Int) +1)]<|J QZ ?_))))))))) (noF SI)
   refine⟨n+1,[some 12],[],⟨rfl,FZ,⟨⟨rfl,⟨(congrArg (V.own _) (uH hm1 (fun q=>hv q.1))),I⟩⟩,I⟩,I⟩,?_,?_⟩
   rotate_left
   (dsimp only;omega)
   dsimp only
   omega
 ·conv=>whnf
  refine g 0 0 []<|J UA<|Ws<|Wc<|J (noT SI) fun _=>We<|g 7 44 []<|J UB<|RT ?_
  rw[rY,show n = ms.length by omega]
theorem xN(xs:List Parcel)(ms:List Message)(key:ByteArray)(hx:xs.length≤1048576)(hl:ms.length≤1048576)(hm:∀ m∈ms,m.inputs.length≤1048576):F Jd [.val (.t (xw xs)),.val (.t (.slc cS (ms.map aL))),.val (.s key)] (.own pkd ((rY xs ms key).map bh)) [[],[],[]]:=by
 refine Ju ?_
 conv=>whnf
 refine g 0 0 []<|J UA<|g 10 12 [.call (V.own pkd (List.map bh xs)) [[]]]<|J (QA @dK)<|Ws<|g 0 0 []<|J UA<|Wb<|Wl (fun s (n:Nat)=>⟨(SK s [0,1,2,6] [(7,.ref ⟨11,none,0⟩),(8,.i n)]),[(11,[.own pkd ((iC xs ms key n).map bh)])],[]⟩) (fun(n:Nat)=>n≤ms.length) (fun(n:Nat)=>ms.length - n) (0) [some 11] [] FZ OM ?_
 intro n hn
 have hpl:=uf ms key hx n
 by_cases hn2:n < ms.length
 ·obtain⟨m,hm1⟩:=ae hn2
  have hmi:=hm m (List.mem_of_getElem? hm1)
  have cf:=dQ m key OM
  by_cases hv:bL m∧key.size≤30
  ·have hf:=P3 hv.1 hv.2
   by_cases h3:(iC xs ms key n).length < 2000
   ·conv=>whnf
    refine Ws<|g 12 15 []<|J UD<|Wc<|J (fun _=>(Wk (Ws (Wb (g 15 24 [.x (aL m),.call (V.s (dR m key)) [[],[]]]<|J QZ (g 24 30 [BT,BT,BT,BT]<|J QZ (Wc<|J (fun h1=>?_) fun h1=>?_))))))) (noF SI)
    replace h1:=dt h1
    simp only[LM]at h1
    refine rg [.x (aL m)]<|J QZ<|rg [.i ((n:Int) +1)]<|J QZ ?_
    rotate_left
    replace h1:=df h1
    simp only[LM]at h1
    omega
    refine⟨n+1,[some 41],[],⟨rfl,FZ,⟨⟨rfl,⟨(congrArg (V.own _) (Kt hm1 hv.1 hv.2 h3)),I⟩⟩,I⟩,I⟩,?_,?_⟩
    rotate_left
    (dsimp only;omega)
    dsimp only
    omega
   ·conv=>whnf
    refine Ws<|g 12 15 []<|J UD<|Wc<|J (fun _=>(Wk (Ws (Wb (g 15 24 [.x (aL m),.call (V.s (dR m key)) [[],[]]]<|J QZ (g 24 30 [BT,BT,BT,BT]<|J QZ (Wc<|J (fun h1=>?_) fun h1=>?_))))))) (noF SI)
    replace h1:=dt h1
    simp only[LM]at h1
    omega
    replace h1:=df h1
    simp only[LM]at h1
    refine Wk<|rg [.i ((n:Int) +1)]<|J QZ ?_
    refine⟨n+1,[some 11],[],⟨rfl,FZ,⟨⟨rfl,⟨(congrArg (V.own _) (uH hm1 (fun q=>h3 q.2.2))),I⟩⟩,I⟩,I⟩,?_,?_⟩
    rotate_left
    (dsimp only;omega)
    dsimp only
    omega
  ·rw[SZ hv]at cf
   conv=>whnf
   refine Ws<|g 12 15 []<|J UD<|Wc<|J (fun _=>(Wk (Ws (Wb (g 15 24 [.x (aL m),.call (V.s emp) [[],[]]]<|J QZ (g 24 30 [BF,BF,BF,BF]<|J QZ (Wc<|J (noT rfl) fun _=>(Wk (rg [.i ((n:Int) +1)]<|J QZ ?_))))))))) (noF SI)
   refine⟨n+1,[some 11],[],⟨rfl,FZ,⟨⟨rfl,⟨(congrArg (V.own _) (uH hm1 (fun q=>hv ⟨q.1,q.2.1⟩))),I⟩⟩,I⟩,I⟩,?_,?_⟩
   rotate_left
   (dsimp only;omega)
   dsimp only
   omega
 ·conv=>whnf
  refine Ws<|g 12 15 []<|J UD<|Wc<|J (noT SI) fun _=>We<|g 7 43 []<|J UB<|RT ?_
  rw[rY,show n = ms.length by omega]
end Go.K
end
section
open Go Go.Tm Go.Proofs
namespace Go.K
abbrev bq(p:Parcel):List T:=bh p
end Go.K
end
section
open Go Go.Tm Go.Proofs
namespace Go.K
abbrev kI:List Bool:=pkd
end Go.K
end
section
open Go Go.Tm Go.Proofs
namespace Go.K
structure World where
 plan:Plan
 key:ByteArray
 boss:Boss
 workers:List Worker
 flight:List Parcel
 forged:ByteArray
 deriving DecidableEq
abbrev gi(x:World):V:=.agg [.t (.slc cY (x.plan.tasks.map ay)),.t (.s x.key),.t (.i x.boss.workers),.t (.b x.boss.up),.t (.i x.boss.now),.t (.i x.boss.since),.t (.i x.boss.epoch),.t (.i x.boss.given),.t (.slc [false] (x.boss.log.safe.map ai)),.t (.slc [false] (x.boss.log.loose.map ai)),.t (.slc [false] (x.boss.results.map ai)),.t (.slc dU (x.boss.jobs.map aI)),.t (.slc bJ (x.boss.seats.map aE)),.t (.slc bK (x.boss.owed.map aJ)),.t (.slc cz (x.workers.map ag)),.t (.slc kI (x.flight.map bq)),.t (.s x.forged)]
abbrev ax(x:World):V:=.agg [.own cY (x.plan.tasks.map ay),.t (.s x.key),.t (.i x.boss.workers),.t (.b x.boss.up),.t (.i x.boss.now),.t (.i x.boss.since),.t (.i x.boss.epoch),.t (.i x.boss.given),.own [false] (x.boss.log.safe.map ai),.own [false] (x.boss.log.loose.map ai),.own [false] (x.boss.results.map ai),.own dU (x.boss.jobs.map aI),.own bJ (x.boss.seats.map aE),.own bK (x.boss.owed.map aJ),.own cz (x.workers.map ag),.own kI (x.flight.map bq),.t (.s x.forged)]
abbrev noWorld:World:=⟨⟨[]⟩,emp,⟨0,false,0,0,0,0,⟨[],[]⟩,[],[],[],[]⟩,[],[],emp⟩
end Go.K
end
section
open Go Go.Tm Go.Proofs
namespace Go.K
theorem pE{p:Plan}(h:am p.tasks = 0):dh p:=by
 have h1:=(bU h).1
 refine⟨by omega,fun t ht=>?_⟩
 obtain⟨n,hn⟩:=List.getElem?_of_mem ht
 have h2:=(cq h hn).2.2.1
 have h3:=(cq h hn).1
 exact⟨by omega,by omega⟩
theorem wk(p:Plan)(h:dh p):F vh [.val (cV p)] (eA p) [[]]:=by
 obtain⟨hp1,hp2⟩:=h
 refine vV ?_
 conv=>whnf
 refine g 0 0 []<|J QZ<|g 0 0 []<|J UA<|Ws<|g 1 2 []<|J UD<|Wb<|Wl (fun s (n:Nat)=>⟨(SK s [0,2,3,7,8] [(9,.i n)]),[(2,[s.c 2 0]),(3,[.own cY ((p.tasks.take n).map ay)])],[]⟩) (fun(n:Nat)=>n≤p.tasks.length) (fun(n:Nat)=>p.tasks.length - n) (0) [some 2,some 3] [] FZ OM ?_
 intro n hn
 conv=>whnf
 refine g 0 0 []<|J UA<|Ws<|Wc<|JD (fun h1=>?_) fun h1=>?_
 simp only[LM]at h1
 refine Wk<|Ws<|Wb ?_
 obtain⟨y1,hy1⟩:=ae (xs:=Plan.tasks p) (n:=n) OM
 have hm1:=hp2 y1 (List.mem_of_getElem? hy1)
 refine g 10 13 [.x (ay y1)]<|J QZ<|g 13 18 []<|J QZ<|rg []<|J QZ<|rg [.i ((n:Int) +1)]<|J QZ ?_
 rotate_left
 simp only[LM]at h1
 refine We<|g 3 26 []<|J UV<|RT ?_
 rotate_left
 ·refine⟨n+1,[some 2,some 3],[],⟨rfl,FZ,⟨FZ,⟨⟨rfl,⟨(congrArg (V.own _) (pD AS)),I⟩⟩,I⟩⟩,I⟩,?_,?_⟩
  rotate_left
  (dsimp only;omega)
  dsimp only
  omega
 ·rw[aH OM]
def E5(i:Nat):Worker:=⟨(i:Int) +1,1,true,0,0,0,0,0,[],emp,3⟩
def crew(n:Nat):List Worker:=(List.range n).map E5
theorem Gd(n:Nat):crew n++ [E5 n] = crew (n+1):=by simp[crew,List.range_succ]
theorem MM(n:Nat):(crew n).map ag++ [ag (E5 n)] = (crew (n+1)).map ag:=by rw[←Gd,List.map_append];rfl
theorem ux(n:Nat):(crew n).length = n:=by simp[crew]
structure NewOk (p:Plan) (key:ByteArray) (w:Int):Prop where
 plan:am p.tasks = 0
 w:1≤w∧w≤8
 key:key.size≤30
noncomputable instance (p:Plan) (key:ByteArray) (w:Int):Decidable (NewOk p key w):=Classical.propDecidable _
noncomputable def qh(p:Plan)(key:ByteArray)(w:Int):World:=if NewOk p key w then⟨p,key,cU (eB w 0 []) p,crew w.toNat,[],emp⟩else noWorld
theorem Ni{p:Plan}{key:ByteArray}{w:Int}(h:NewOk p key w):qh p key w = ⟨p,key,cU (eB w 0 []) p,crew w.toNat,[],emp⟩:=if_pos h
theorem Nj{p:Plan}{key:ByteArray}{w:Int}(h:¬NewOk p key w):qh p key w = noWorld:=if_neg h
theorem rR{p:Plan}(h:am p.tasks = 0):(aw p []).code = 0:=by
 rw[aw,if_pos ⟨h,by decide⟩,jn]
theorem yX(p:Plan)(key:ByteArray)(w:Int)(hp:dy p)(hk:key.size≤9223372036854775807):F xY [.val (cV p),.val (.s key),.val (.i w)] (ax (qh p key w)) [[],[],[]]:=by
 have cp:=dl p hp
 by_cases h:NewOk p key w
 ·rw[Ni h]
  obtain⟨h1,h2,h3⟩:=h
  rw[h1]at cp
  have hs:=pE h1
  have cr:=qM w 0 [] p hp h2 (fun s hs=>by cases hs) (rR h1)
  refine gr ?_
  conv=>whnf
  refine g 0 0 []<|J QZ<|Ws<|g 11 21 (.call (V.i 0) [[]]::BF::BF::.call (V.b (decide (1≤w∧w≤8))) [[],[],[]]::(RL 6 BF []))<|J (QA @av)<|Wc<|J (noT dO) fun _=>Wk<|g 21 27 [.call (eA p) [[]]]<|J (QA @lL)<|g 27 32 [.call (aF (cU (eB w 0 []) p)) [[],[]]]<|J QZ<|Ws<|g 3 4 []<|J UA<|Wb<|Wl (fun s (n:Nat)=>⟨(SK s [0,1,2,6,7] [(8,.i (n+1)),(10,s.s 10)]),[(6,(CK s 6 0 17 [])),(7,[.own cY (p.tasks.map ay),.t (.s key),.t (.i (cU (eB w 0 []) p).workers),.t (.b (cU (eB w 0 []) p).up),.t (.i (cU (eB w 0 []) p).now),.t (.i (cU (eB w 0 []) p).since),.t (.i (cU (eB w 0 []) p).epoch),.t (.i (cU (eB w 0 []) p).given),.own [false] ((cU (eB w 0 []) p).log.safe.map ai),.own [false] ((cU (eB w 0 []) p).log.loose.map ai),.own [false] ((cU (eB w 0 []) p).results.map ai),.own dU ((cU (eB w 0 []) p).jobs.map aI),.own bJ ((cU (eB w 0 []) p).seats.map aE),.own bK ((cU (eB w 0 []) p).owed.map aJ),.own cz ((crew n).map ag),.own pkd [],.t (.s emp)])],[]⟩) (fun(n:Nat)=>n≤w.toNat) (fun(n:Nat)=>w.toNat - n) (0) [some 6,some 7] [] FZ OM ?_
  intro n hn
  have e:=MM n
  have hcl:=ux n
  conv=>whnf
  refine Ws<|g 32 34 []<|J UC<|Wc<|JD (fun h4=>?_) fun h4=>?_
  refine Wk<|Ws<|Wb<|rg []<|J QZ<|rg [.i ((n:Int) +1+1)]<|J QZ ?_
  rotate_left
  refine We<|g 7 45 []<|J QZ<|RT ?_
  rotate_left
  ·refine⟨n+1,[some 6,some 7],[],⟨rfl,FZ,⟨FZ,⟨⟨rfl,⟨rfl,⟨rfl,⟨rfl,⟨rfl,⟨rfl,⟨rfl,⟨rfl,⟨rfl,⟨rfl,⟨rfl,⟨rfl,⟨rfl,⟨rfl,⟨rfl,⟨(congrArg (V.own _) (e)),FZ⟩⟩⟩⟩⟩⟩⟩⟩⟩⟩⟩⟩⟩⟩⟩⟩,I⟩⟩,I⟩,?_,?_⟩
   rotate_left
   (dsimp only;omega)
   dsimp only
   omega
  ·obtain rfl:n = w.toNat:=by omega
   rfl
 ·rw[Nj h]
  by_cases h1:am p.tasks = 0
  ·by_cases h2:1≤w∧w≤8
   ·have h3:¬key.size≤30:=fun q=>h ⟨h1,h2,q⟩
    refine gr ?_
    conv=>whnf
    refine g 0 0 []<|J QZ<|Ws<|g 11 21 (.call (V.i (am p.tasks)) [[]]::BF::BF::.call (V.b (decide (1≤w∧w≤8))) [[],[],[]]::(RL 6 BF []))<|J (QA @av)<|Wc<|J (fun _=>(g 21 23 []<|J QZ (RT ?_))) (noF tO)
    rfl
   ·refine gr ?_
    conv=>whnf
    refine g 0 0 []<|J QZ<|Ws<|g 11 21 [.call (V.i (am p.tasks)) [[]],BF,BF,.call (V.b (decide (1≤w∧w≤8))) [[],[],[]],BF,BF,BT,BT,BT,BT]<|J (QA @av)<|Wc<|J (fun _=>(g 21 23 []<|J QZ (RT ?_))) (noF rfl)
    rfl
  ·refine gr ?_
   conv=>whnf
   refine g 0 0 []<|J QZ<|Ws<|g 11 21 (.call (V.i (am p.tasks)) [[]]::(RL 8 BT []))<|J QZ<|Wc<|J (fun _=>(g 21 23 []<|J QZ (RT ?_))) (noF rfl)
   rfl
end Go.K
end
section
open Go Go.Tm Go.Proofs
namespace Go.K
structure WorkOk (i:Nat) (x:Worker):Prop where
 ok:au x
 num:x.number = (i:Int) +1
def zz(ws:List Worker)(n:Nat):Prop:=∀ (m:Nat) (x:Worker),m < n→ws[m]? = some x→WorkOk m x
theorem xJ(ws:List Worker):zz ws 0:=fun m x hm=>by omega
theorem xK{ws:List Worker}{n:Nat}{x:Worker}(h:zz ws n)(hx:ws[n]? = some x)(hw:WorkOk n x):zz ws (n+1):=fun m y hm hy=>by
 by_cases e:m = n
 ·subst e;rw[hx]at hy;cases hy;exact hw
 ·exact h m y OM hy
structure ParOk (x:Parcel):Prop where
 to:0≤x.kind∧x.kind≤8
 sent:x.frm.size≤500
 bytes:x.text.size≤500
structure WorldOk (w:World):Prop where
 plan:am w.plan.tasks = 0
 key:w.key.size≤30
 wl:1≤w.workers.length∧w.workers.length≤8
 fl:w.flight.length≤2000
 crew:zz w.workers w.workers.length
 par:∀ x∈w.flight,ParOk x
 boss:BossOk w.boss w.plan
 same:w.boss.workers = w.workers.length
noncomputable instance (w:World):Decidable (WorldOk w):=Classical.propDecidable _
structure WorldLim (w:World):Prop where
 plan:dy w.plan
 boss:BossLim w.boss
 key:w.key.size≤9223372036854775807
 wl:w.workers.length≤1048576
 wi:∀ x∈w.workers,x.inputs.length≤1048576
 fl:w.flight.length≤1048576
 fs:∀ x∈w.flight,x.frm.size≤9223372036854775807∧x.text.size≤9223372036854775807
theorem fp(w:World)(h:WorldLim w):F sV [.val (gi w)] (.b (decide (WorldOk w))) [[]]:=by
 obtain⟨l1,l2,l3,l4,l5,l6,l7⟩:=h
 have cp:=fS w.plan l1
 have cb:=Tk w.boss w.plan l1 l2
 refine td ?_
 conv=>whnf
 refine g 0 1 []<|J QZ<|Ws ?_
 by_cases h1:am (Plan.tasks (World.plan w)) = (0:Int)
 by_cases h2:(30:Int) < (↑(ByteArray.size (World.key w)):Int)
 refine g 11 29 (.call (V.i (am w.plan.tasks)) [[]]::BF::BF::BF::BF::BF::(RL 11 BT []))<|J QZ<|Wc<|J (fun _=>(g 7 10 []<|J UA (RT ?_))) (noF rfl)
 rotate_left
 by_cases h3:(1:Int)≤(↑(List.length (List.map ag (World.workers w))):Int)∧(↑(List.length (List.map ag (World.workers w))):Int)≤(8:Int)
 simp only[LM]at h3
 refine g 11 29 (.call (V.i (am w.plan.tasks)) [[]]::(RL 9 BF (.call (V.b (decide (1≤(↑(List.length (List.map ag w.workers)):Int)∧(↑(List.length (List.map ag w.workers)):Int)≤8))) [[],[],[]]::(RL 7 BF []))))<|J (QA @ah)<|Wc<|JD (fun h4=>?_) fun h4=>?_
 simp only[LM]at h4
 refine g 7 10 []<|J UA<|RT ?_
 rotate_left
 simp only[LM]at h4
 refine Wk<|Ws<|g 7 10 []<|J UD<|Wb ?_
 rotate_left
 simp only[LM]at h3
 refine g 11 29 (.call (V.i (am w.plan.tasks)) [[]]::(RL 9 BF [.call (V.b (decide (1≤(↑(List.length (List.map ag w.workers)):Int)∧(↑(List.length (List.map ag w.workers)):Int)≤8))) [[],[],[]],BF,BF,BT,BT,BT,BT,BT]))<|J (QA @ah)<|Wc<|J (fun _=>(g 7 10 []<|J UA (RT ?_))) (noF rfl)
 rotate_left
 refine g 11 29 (.call (V.i (am w.plan.tasks)) [[]]::(RL 16 BT []))<|J QZ<|Wc<|J (fun _=>(g 7 10 []<|J UA (RT ?_))) (noF rfl)
 rotate_left
 all_goals try (exact vbf (fun q=>by have e1:=q.plan;have e2:=q.key;have e3:=q.wl;have e4:=q.fl;omega))
 refine Wl (fun s (n:Nat)=>⟨(SK s [1,10,31,32] [(33,.i n)]),[(1,(CK s 1 0 17 []))],[]⟩) (fun(n:Nat)=>n≤w.workers.length∧zz w.workers n) (fun(n:Nat)=>w.workers.length - n) (0) [some 1] [] FZ ?_ ?_
 ·exact⟨Nat.zero_le _,xJ _⟩
 rintro n ⟨hn,hc⟩
 by_cases hn2:n < w.workers.length
 ·obtain⟨x,hx⟩:=ae hn2
  have hxi:=l5 x (List.mem_of_getElem? hx)
  have cw:=eY x OM
  by_cases hk:au x
  ·rw[decide_eq_true hk]at cw
   conv=>whnf
   refine g 0 0 []<|J UA<|Ws<|Wc<|J (fun _=>(Wk (Ws (Wb (g 34 38 [.x (ag x)]<|J QZ (g 38 47 [.call VT [[]],BF,BF,BF,BF,.i ((n:Int) +1),BF,BF]<|J QZ (Wc<|J (fun h5=>?_) fun h5=>?_))))))) (noF SI)
   replace h5:=ndt h5
   refine g 3 4 []<|J UA<|RT ?_
   rotate_left
   replace h5:=ndf h5
   refine Wk<|rg [.i ((n:Int) +1)]<|J QZ ?_
   rotate_left
   all_goals try (exact vbf (fun q=>by have:=(q.crew n x hn2 hx).num;omega))
   refine⟨n+1,[some 1],[],FZ,?_,?_⟩
   rotate_left
   (dsimp only;omega)
   dsimp only
   exact⟨by omega,xK hc hx ⟨hk,by omega⟩⟩
  ·rw[decide_eq_false hk]at cw
   conv=>whnf
   refine g 0 0 []<|J UA<|Ws<|Wc<|J (fun _=>(Wk (Ws (Wb (g 34 38 [.x (ag x)]<|J QZ (g 38 47 (.call VF [[]]::(RL 6 BT []))<|J QZ (Wc<|J (fun _=>(g 3 4 []<|J UA (RT ?_))) (noF rfl)))))))) (noF SI)
   exact vbf (fun q=>hk (q.crew n x hn2 hx).ok)
 obtain rfl:n = w.workers.length:=by omega
 conv=>whnf
 refine g 0 0 []<|J UA<|Ws<|Wc<|J (noT SI) fun _=>We<|Ws<|g 31 50 []<|J UD<|Wb<|Wl (fun s (n:Nat)=>⟨(SK s [1,10,50,51] [(52,.i n)]),[(1,(CK s 1 0 17 []))],[]⟩) (fun(n:Nat)=>n≤w.flight.length∧∀ x∈w.flight.take n,ParOk x) (fun(n:Nat)=>w.flight.length - n) (0) [some 1] [] FZ (by simp) ?_
 rintro n ⟨hn3,hc3⟩
 by_cases hn4:n < w.flight.length
 ·obtain⟨x,hx⟩:=ae hn4
  obtain⟨hxs,hxb⟩:=l7 x (List.mem_of_getElem? hx)
  by_cases hA:0≤x.kind∧x.kind≤8
  ·by_cases hB:x.frm.size≤500
   ·by_cases hC:x.text.size≤500
    ·conv=>whnf
     refine g 0 0 []<|J UA<|Ws<|Wc<|J (fun _=>(Wk (Ws (Wb (g 53 56 [.x (bq x)]<|J QZ (g 56 71 (.call (V.b (decide (0≤x.kind∧x.kind≤8))) [[],[],[]]::(RL 10 BF []))<|J (QA @ah) (Wc<|J (noT dO) fun _=>(Wk (rg [.i ((n:Int) +1)]<|J QZ ?_))))))))) (noF SI)
     refine⟨n+1,[some 1],[],FZ,?_,?_⟩
     rotate_left
     (dsimp only;omega)
     dsimp only
     exact⟨by omega,en hc3 hx ⟨hA,hB,hC⟩⟩
    ·conv=>whnf
     refine g 0 0 []<|J UA<|Ws<|Wc<|J (fun _=>(Wk (Ws (Wb (g 53 56 [.x (bq x)]<|J QZ (g 56 71 (.call (V.b (decide (0≤x.kind∧x.kind≤8))) [[],[],[]]::(RL 10 BF []))<|J (QA @ah) (Wc<|J (fun _=>(g 6 7 []<|J UA (RT ?_))) (noF tO)))))))) (noF SI)
     exact vbf (fun q=>hC (q.par x (List.mem_of_getElem? hx)).bytes)
   ·conv=>whnf
    refine g 0 0 []<|J UA<|Ws<|Wc<|J (fun _=>(Wk (Ws (Wb (g 53 56 [.x (bq x)]<|J QZ (g 56 71 [.call (V.b (decide (0≤x.kind∧x.kind≤8))) [[],[],[]],BF,BF,BF,BF,BF,BT,BT,BT,BT,BT]<|J (QA @ah) (Wc<|J (fun _=>(g 6 7 []<|J UA (RT ?_))) (noF rfl)))))))) (noF SI)
    exact vbf (fun q=>hB (q.par x (List.mem_of_getElem? hx)).sent)
  ·conv=>whnf
   refine g 0 0 []<|J UA<|Ws<|Wc<|J (fun _=>(Wk (Ws (Wb (g 53 56 [.x (bq x)]<|J QZ (g 56 71 (.call (V.b (decide (0≤x.kind∧x.kind≤8))) [[],[],[]]::(RL 10 BT []))<|J (QA @ah) (Wc<|J (fun _=>(g 6 7 []<|J UA (RT ?_))) (noF rfl)))))))) (noF SI)
   exact vbf (fun q=>hA (q.par x (List.mem_of_getElem? hx)).to)
 have hpar:∀ x∈w.flight,ParOk x:=by rw[aH OM]at hc3;exact hc3
 by_cases hb:BossOk w.boss w.plan
 ·rw[decide_eq_true hb]at cb
  conv=>whnf
  refine g 0 0 []<|J UA<|Ws<|Wc<|J (noT SI) fun _=>We<|g 10 87 (.call VT [[],[]]::(RL 8 BT []))<|J QZ<|RT ?_
  by_cases hs:w.boss.workers = w.workers.length
  ·simp only[List.length_map]
   rw[decide_eq_true hs]
   exact vbt ⟨by omega,by omega,by omega,by omega,hc,hpar,hb,hs⟩
  ·simp only[List.length_map]
   rw[decide_eq_false hs]
   exact vbf (fun q=>hs q.same)
 ·rw[decide_eq_false hb]at cb
  conv=>whnf
  refine g 0 0 []<|J UA<|Ws<|Wc<|J (noT SI) fun _=>We<|g 10 87 (.call VF [[],[]]::(RL 8 BF []))<|J QZ<|RT ?_
  exact vbf (fun q=>hb q.boss)
theorem eC(w:World)(h:WorldLim w):F sO [.val (gi w)] (.b (decide (WorldOk w))) [[]]:=by
 obtain⟨l1,l2,l3,l4,l5,l6,l7⟩:=h
 have cp:=dl w.plan l1
 have cb:=po w.boss w.plan l1 l2
 refine sY ?_
 conv=>whnf
 refine g 0 1 []<|J QZ<|Ws ?_
 by_cases h1:am (Plan.tasks (World.plan w)) = (0:Int)
 by_cases h2:(30:Int) < (↑(ByteArray.size (World.key w)):Int)
 refine g 11 28 (.call (V.i (am w.plan.tasks)) [[]]::BF::BF::BF::BF::BF::(RL 11 BT []))<|J QZ<|Wc<|J (fun _=>(g 8 10 []<|J UA (RT ?_))) (noF rfl)
 rotate_left
 by_cases h3:(1:Int)≤(↑(List.length (List.map ag (World.workers w))):Int)∧(↑(List.length (List.map ag (World.workers w))):Int)≤(8:Int)
 simp only[LM]at h3
 refine g 11 28 (.call (V.i (am w.plan.tasks)) [[]]::(RL 9 BF (.call (V.b (decide (1≤(↑(List.length (List.map ag w.workers)):Int)∧(↑(List.length (List.map ag w.workers)):Int)≤8))) [[],[],[]]::(RL 7 BF []))))<|J (QA @av)<|Wc<|JD (fun h4=>?_) fun h4=>?_
 simp only[LM]at h4
 refine g 8 10 []<|J UA<|RT ?_
 rotate_left
 simp only[LM]at h4
 refine Wk<|Ws<|g 8 10 []<|J UA<|Wb ?_
 rotate_left
 simp only[LM]at h3
 refine g 11 28 (.call (V.i (am w.plan.tasks)) [[]]::(RL 9 BF [.call (V.b (decide (1≤(↑(List.length (List.map ag w.workers)):Int)∧(↑(List.length (List.map ag w.workers)):Int)≤8))) [[],[],[]],BF,BF,BT,BT,BT,BT,BT]))<|J (QA @av)<|Wc<|J (fun _=>(g 8 10 []<|J UA (RT ?_))) (noF rfl)
 rotate_left
 refine g 11 28 (.call (V.i (am w.plan.tasks)) [[]]::(RL 16 BT []))<|J QZ<|Wc<|J (fun _=>(g 8 10 []<|J UA (RT ?_))) (noF rfl)
 rotate_left
 all_goals try (exact vbf (fun q=>by have e1:=q.plan;have e2:=q.key;have e3:=q.wl;have e4:=q.fl;omega))
 refine Wl (fun s (n:Nat)=>⟨[(1,s.s 1),(3,.i n),(7,s.s 7),(10,s.s 10)],[(1,(CK s 1 0 17 []))],[]⟩) (fun(n:Nat)=>n≤w.workers.length∧zz w.workers n) (fun(n:Nat)=>w.workers.length - n) (0) [some 1] [] FZ ?_ ?_
 ·exact⟨Nat.zero_le _,xJ _⟩
 rintro n ⟨hn,hc⟩
 by_cases hn2:n < w.workers.length
 ·obtain⟨x,hx⟩:=ae hn2
  have hxi:=l5 x (List.mem_of_getElem? hx)
  have cw:=ar x OM
  by_cases hk:au x
  ·rw[decide_eq_true hk]at cw
   conv=>whnf
   refine Ws<|g 29 33 []<|J UE<|Wc<|J (fun _=>(Wk (Ws (Wb (g 33 53 [.x (ag x),.call VT [[]],BF,BF,BF,BF,.x (ag x),BF,BF,BF,BF,.i ((n:Int) +1),BF,BF]<|J QZ (Wc<|J (fun h5=>?_) fun h5=>?_)))))) (noF SI)
   replace h5:=ndt h5
   refine g 53 54 []<|J UA<|RT ?_
   rotate_left
   replace h5:=ndf h5
   refine Wk<|rg [.i ((n:Int) +1)]<|J QZ ?_
   rotate_left
   all_goals try (exact vbf (fun q=>by have:=(q.crew n x hn2 hx).num;omega))
   refine⟨n+1,[some 1],[],FZ,?_,?_⟩
   rotate_left
   (dsimp only;omega)
   dsimp only
   exact⟨by omega,xK hc hx ⟨hk,by omega⟩⟩
  ·rw[decide_eq_false hk]at cw
   conv=>whnf
   refine Ws<|g 29 33 []<|J UE<|Wc<|J (fun _=>(Wk (Ws (Wb (g 33 53 (.x (ag x)::.call VF [[]]::(RL 10 BT []))<|J QZ (Wc<|J (fun _=>(g 53 54 []<|J UA (RT ?_))) (noF rfl))))))) (noF SI)
   exact vbf (fun q=>hk (q.crew n x hn2 hx).ok)
 obtain rfl:n = w.workers.length:=by omega
 conv=>whnf
 refine Ws<|g 29 33 []<|J UE<|Wc<|J (noT SI) fun _=>We<|Ws<|g 3 4 []<|J UA<|Wb<|Wl (fun s (n:Nat)=>⟨[(1,s.s 1),(4,.i n),(7,s.s 7),(10,s.s 10)],[(1,(CK s 1 0 17 []))],[]⟩) (fun(n:Nat)=>n≤w.flight.length∧∀ x∈w.flight.take n,ParOk x) (fun(n:Nat)=>w.flight.length - n) (0) [some 1] [] FZ (by simp) ?_
 rintro n ⟨hn3,hc3⟩
 by_cases hn4:n < w.flight.length
 ·obtain⟨x,hx⟩:=ae hn4
  obtain⟨hxs,hxb⟩:=l7 x (List.mem_of_getElem? hx)
  by_cases hA:0≤x.kind∧x.kind≤8
  ·by_cases hB:x.frm.size≤500
   ·by_cases hC:x.text.size≤500
    ·conv=>whnf
     refine Ws<|g 54 58 []<|J UE<|Wc<|J (fun _=>(Wk (Ws (Wb (g 58 66 [.x (bq x)]<|J QZ (g 66 81 (.call (V.b (decide (0≤x.kind∧x.kind≤8))) [[],[],[]]::(RL 10 BF []))<|J (QA @av) (Wc<|J (noT dO) fun _=>(Wk (rg [.i ((n:Int) +1)]<|J QZ ?_))))))))) (noF SI)
     refine⟨n+1,[some 1],[],FZ,?_,?_⟩
     rotate_left
     (dsimp only;omega)
     dsimp only
     exact⟨by omega,en hc3 hx ⟨hA,hB,hC⟩⟩
    ·conv=>whnf
     refine Ws<|g 54 58 []<|J UE<|Wc<|J (fun _=>(Wk (Ws (Wb (g 58 66 [.x (bq x)]<|J QZ (g 66 81 (.call (V.b (decide (0≤x.kind∧x.kind≤8))) [[],[],[]]::(RL 10 BF []))<|J (QA @av) (Wc<|J (fun _=>(g 5 6 []<|J UA (RT ?_))) (noF tO)))))))) (noF SI)
     exact vbf (fun q=>hC (q.par x (List.mem_of_getElem? hx)).bytes)
   ·conv=>whnf
    refine Ws<|g 54 58 []<|J UE<|Wc<|J (fun _=>(Wk (Ws (Wb (g 58 66 [.x (bq x)]<|J QZ (g 66 81 [.call (V.b (decide (0≤x.kind∧x.kind≤8))) [[],[],[]],BF,BF,BF,BF,BF,BT,BT,BT,BT,BT]<|J (QA @av) (Wc<|J (fun _=>(g 5 6 []<|J UA (RT ?_))) (noF rfl)))))))) (noF SI)
    exact vbf (fun q=>hB (q.par x (List.mem_of_getElem? hx)).sent)
  ·conv=>whnf
   refine Ws<|g 54 58 []<|J UE<|Wc<|J (fun _=>(Wk (Ws (Wb (g 58 66 [.x (bq x)]<|J QZ (g 66 81 (.call (V.b (decide (0≤x.kind∧x.kind≤8))) [[],[],[]]::(RL 10 BT []))<|J (QA @av) (Wc<|J (fun _=>(g 5 6 []<|J UA (RT ?_))) (noF rfl)))))))) (noF SI)
   exact vbf (fun q=>hA (q.par x (List.mem_of_getElem? hx)).to)
 have hpar:∀ x∈w.flight,ParOk x:=by rw[aH OM]at hc3;exact hc3
 by_cases hs:w.boss.workers = w.workers.length
 ·by_cases hb:BossOk w.boss w.plan
  ·rw[decide_eq_true hb]at cb
   conv=>whnf
   refine Ws<|g 54 58 []<|J UE<|Wc<|J (noT SI) fun _=>We<|g 7 96 [BT,BT,BT,BT,BT,.call VT [[],[]],BT]<|J QZ<|RT ?_
   exact vbt ⟨by omega,by omega,by omega,by omega,hc,hpar,hb,hs⟩
  ·rw[decide_eq_false hb]at cb
   conv=>whnf
   refine Ws<|g 54 58 []<|J UE<|Wc<|J (noT SI) fun _=>We<|g 7 96 [BT,BT,BT,BT,BT,.call VF [[],[]],BT]<|J QZ<|RT ?_
   exact vbf (fun q=>hb q.boss)
 ·conv=>whnf
  refine Ws<|g 54 58 []<|J UE<|Wc<|J (noT SI) fun _=>We<|g 7 96 (RL 6 BF [])<|J QZ<|RT ?_
  exact vbf (fun q=>hs q.same)
end Go.K
end
section
open Go Go.Tm Go.Proofs
namespace Go.K
structure FinOk (w:World):Prop where
 ok:WorldOk w
 up:w.boss.up = true
 all:∀ r∈w.boss.results,¬r = emp
noncomputable instance (w:World):Decidable (FinOk w):=Classical.propDecidable _
end Go.K
end
section
open Go Go.Tm Go.Proofs
namespace Go.K
structure Inv (L:Nat) (t:Tale) (ys:List ByteArray):Prop where
 len:t.results.length = L
 fwd:∀ s∈ys,∃ e,eR s = some e∧(¬e.kind = 1→e.kind = 2∧0≤e.task∧e.task < L∧atS t.results e.task = e.text∧¬e.text = emp)
 back:∀ i:Nat,¬atS t.results (i:Int) = emp→∃ s∈ys,∃ e,eR s = some e∧¬e.kind = 1∧e.task = (i:Int)∧e.text = atS t.results (i:Int)
theorem wY{rs:List ByteArray}{k:Int}{v:ByteArray}(h0:0≤k)(h:k < rs.length):atS (rs.set k.toNat v) k = v:=by
 unfold atS;rw[List.getElem?_set_self OM];rfl
theorem mS{rs:List ByteArray}{k j:Int}{v:ByteArray}(h0:0≤k)(hj:0≤j)(h:¬j = k):atS (rs.set k.toNat v) j = atS rs j:=by
 unfold atS;rw[List.getElem?_set_ne OM]
theorem SU{ts:List Task}{t u:Tale}{s:ByteArray}{ys:List ByteArray}(hi:Inv ts.length t ys)(h:d9 ts t s = some u):Inv ts.length u (ys++ [s]):=by
 obtain⟨i1,i2,i3⟩:=hi
 unfold d9 at h
 cases he:eR s with
 |none=>rw[he]at h;cases h
 |some e =>
  rw[he]at h
  have hok:=kq he
  obtain⟨o1,o2,o3⟩:=hok
  simp only at h
  by_cases hk:e.kind = 1
  ·rw[if_pos hk]at h
   split at h
   ·cases h
    refine⟨i1,fun s' hs'=>?_,fun i hi=>?_⟩
    ·rcases List.mem_append.1 hs' with hs'|hs'
     ·exact i2 s' hs'
     ·rw[List.mem_singleton.1 hs'];exact⟨e,he,fun q=>absurd hk q⟩
    ·obtain⟨s',hs',q⟩:=i3 i hi
     exact⟨s',List.mem_append_left _ hs',q⟩
   ·cases h
  ·rw[if_neg hk]at h
   split at h
   ·rename_i hc
    cases h
    obtain⟨_,c2,c3,_⟩:=hc
    have hlt:e.task < (t.results.length:Int):=by omega
    have h8:e.kind = 2∧(e.text.size:Int) = 8:=by
     rcases o3 with q|q
     ·exact absurd q.1 hk
     ·exact q
    have hne:¬e.text = emp:=fun q=>by have:=h8.2;rw[q]at this;cases this
    have c4:atS t.results e.task = emp:=c3
    refine⟨by rw[List.length_set];exact i1,fun s' hs'=>?_,fun i hi=>?_⟩
    ·rcases List.mem_append.1 hs' with hs'|hs'
     ·obtain⟨e',h1,h2⟩:=i2 s' hs'
      refine⟨e',h1,fun q=>?_⟩
      obtain⟨g0,g1,g2,g3,g4⟩:=h2 q
      have hd:¬e'.task = e.task:=fun w=>by rw[w,c4]at g3;exact g4 g3.symm
      exact⟨g0,g1,g2,by rw[mS o2.1 g1 hd];exact g3,g4⟩
     ·rw[List.mem_singleton.1 hs']
      exact⟨e,he,fun _=>⟨h8.1,o2.1,c2,wY o2.1 hlt,hne⟩⟩
    ·by_cases hd:(i:Int) = e.task
     ·refine⟨s,List.mem_append_right _ (List.mem_singleton.2 rfl),e,he,hk,hd.symm,?_⟩
      rw[hd,wY o2.1 hlt]
     ·rw[mS o2.1 OM hd]at hi ⊢
      obtain⟨s',hs',q⟩:=i3 i hi
      exact⟨s',List.mem_append_left _ hs',q⟩
   ·cases h
theorem N7{ts:List Task}:∀ {l:List ByteArray} {t u:Tale} {ys:List ByteArray},Inv ts.length t ys→kS ts (some t) l = some u→Inv ts.length u (ys++l)
 |[],t,u,ys,hi,h=>by rw[jn]at h;cases h;rw[List.append_nil];exact hi
 |s :: l,t,u,ys,hi,h=>by
  rw[pG]at h
  cases hs:d9 ts t s with
  |none=>rw[hs,ja]at h;cases h
  |some v =>
   rw[hs]at h
   have:=N7 (SU hi hs) h
   rw[List.append_assoc]at this;exact this
theorem Zz(n:Nat)(k:Int):atS (List.replicate n emp) k = emp:=by
 unfold atS;rw[List.getElem?_replicate];split <;> rfl
theorem SS(ts:List Task):Inv ts.length (mC ts) []:=⟨by rw[mC,List.length_replicate],fun s hs=>(by cases hs),fun i hi=>absurd (Zz _ _) hi⟩
theorem wG{p:Plan}{xs:List ByteArray}(h:(aw p xs).code = 0):Inv p.tasks.length ⟨(aw p xs).epoch,(aw p xs).results⟩ xs:=by
 obtain⟨_,_,_,t,h1,h2⟩:=cC h
 have:=N7 (SS p.tasks) h1
 rw[h2];exact this
end Go.K
end
section
open Go Go.Tm Go.Proofs
namespace Go.K
def nM(w:Int)(j:Job):Job:=if j.worker = w then fm else j
def ox(l t:Int)(j:Job):Job:=if j.lease = l then⟨j.lease,j.worker,t⟩else j
def gE(m:Message):Nat:=(m.frm - 1).toNat
def tu(b:Boss)(m:Message):Prop:=m.epoch < (m7 b.seats (gE m)).epoch
instance (b:Boss) (m:Message):Decidable (tu b m):=by unfold tu;infer_instance
def nN(b:Boss)(m:Message):Boss:=if tu b m then b else⟨b.workers,b.up,b.now,b.since,b.epoch,b.given,b.log,b.results,b.jobs,b.seats.set (gE m) ⟨true,m.epoch⟩,b.owed⟩
def yS(b:Boss)(m:Message):Boss:=if tu b m then b else⟨b.workers,b.up,b.now,b.since,b.epoch,b.given,b.log,b.results,b.jobs.map (nM m.frm),b.seats.set (gE m) ⟨true,m.epoch⟩,b.owed⟩
def V5(b:Boss)(m:Message):Boss:=⟨b.workers,b.up,b.now,b.since,b.epoch,b.given,b.log,b.results,b.jobs.map (ox m.lease (b.now+12)),b.seats,b.owed⟩
structure CanPut (b:Boss) (ts:List Task) (m:Message):Prop where
 res:atS b.results m.task = emp
 ready:de b.results (ov ts m.task.toNat)
 room:b.log.safe.length+b.log.loose.length < 310
noncomputable instance (b:Boss) (ts:List Task) (m:Message):Decidable (CanPut b ts m):=Classical.propDecidable _
def nB(b:Boss)(m:Message):Boss:=⟨b.workers,b.up,b.now,b.since,b.epoch,b.given,⟨b.log.safe,b.log.loose++ [bT ⟨2,b.epoch,m.task,m.text⟩]⟩,b.results.set m.task.toNat m.text,b.jobs.set m.task.toNat fm,b.seats,b.owed⟩
noncomputable def uG(b:Boss)(ts:List Task)(m:Message):Boss:=if CanPut b ts m then nB b m else b
def FA(b:Boss)(m:Message):Boss:=if atS b.results m.task = emp then nN b m else b
structure Owes (b:Boss) (m:Message):Prop where
 same:atS b.results m.task = m.text
 room:b.owed.length < 2000
 new:∀ o∈b.owed,¬(o.worker = m.frm∧o.lease = m.lease)
noncomputable instance (b:Boss) (m:Message):Decidable (Owes b m):=Classical.propDecidable _
noncomputable def CU(b:Boss)(m:Message):Boss:=if Owes b m then⟨b.workers,b.up,b.now,b.since,b.epoch,b.given,b.log,b.results,b.jobs,b.seats,b.owed++ [⟨m.frm,m.lease,m.task⟩]⟩else b
noncomputable def fq(b:Boss)(ts:List Task)(m:Message):Boss:=CU (FA (uG b ts m) m) m
structure ForB (b:Boss) (m:Message):Prop where
 up:b.up = true
 ok:bL m
 to:m.to = 0
 frm:m.frm≤b.workers
noncomputable instance (b:Boss) (m:Message):Decidable (ForB b m):=Classical.propDecidable _
noncomputable def ix(b:Boss)(ts:List Task)(m:Message):Boss :=
 if ForB b m then
  (if m.kind = 5 then yS b m else if m.kind = 2 then V5 b m else if m.kind = 3 then(if m.task < ts.length then fq b ts m else b)else b)
 else b
theorem Ib{b:Boss}{ts:List Task}{m:Message}(h:¬ForB b m):ix b ts m = b:=if_neg h
theorem pB{b:Boss}{ts:List Task}{m:Message}(h:ForB b m)(hk:m.kind = 5):ix b ts m = yS b m:=by rw[ix,if_pos h,if_pos hk]
theorem pC{b:Boss}{ts:List Task}{m:Message}(h:ForB b m)(hk:m.kind = 2):ix b ts m = V5 b m:=by rw[ix,if_pos h,if_neg OM,if_pos hk]
theorem t8{b:Boss}{ts:List Task}{m:Message}(h:ForB b m)(hk:m.kind = 3)(ht:m.task < ts.length):ix b ts m = fq b ts m:=by rw[ix,if_pos h,if_neg OM,if_neg OM,if_pos hk,if_pos ht]
theorem t9{b:Boss}{ts:List Task}{m:Message}(h:ForB b m)(hk:m.kind = 3)(ht:¬m.task < ts.length):ix b ts m = b:=by rw[ix,if_pos h,if_neg OM,if_neg OM,if_pos hk,if_neg ht]
theorem pm{b:Boss}{m:Message}(h:ForB b m):(m.kind = 2∨m.kind = 3∨m.kind = 5)∧(1≤m.frm∧m.frm≤8)∧(1≤m.epoch∧m.epoch≤300):=by
 obtain⟨h1,h2⟩:=h.ok
 have h0:=h.to
 rcases h2 with q|q|q|q|q
 ·have:=q.2.2.1;omega
 ·exact⟨.inl q.1,q.2.2.1,h1⟩
 ·exact⟨.inr (.inl q.1),q.2.2.1,h1⟩
 ·have:=q.2.2.1;omega
 ·exact⟨.inr (.inr q.1),q.2.2.1,h1⟩
theorem HW{b:Boss}{m:Message}(h:ForB b m)(hk:m.kind = 3):(1≤m.lease∧m.lease≤300000000)∧(0≤m.task∧m.task≤39)∧(m.text.size:Int) = 8:=by
 obtain⟨h1,h2⟩:=h.ok
 rcases h2 with q|q|q|q|q
 ·have:=q.1;omega
 ·have:=q.1;omega
 ·exact⟨q.2.2.2.1,q.2.2.2.2.1,q.2.2.2.2.2.1⟩
 ·have:=q.1;omega
 ·have:=q.1;omega
noncomputable def E7(b:Boss)(p:Plan)(m:Message):Led:=if BossOk b p then⟨ix b p.tasks m,[]⟩else Il
theorem pt{b:Boss}{p:Plan}{m:Message}(h:BossOk b p):E7 b p m = ⟨ix b p.tasks m,[]⟩:=if_pos h
theorem Tp{b:Boss}{p:Plan}{m:Message}(h:¬BossOk b p):E7 b p m = Il:=if_neg h
end Go.K
end
section
open Go Go.Tm Go.Proofs
namespace Go.K
theorem Zk{ep now given workers:Int}{rs:List ByteArray}{ts:List Task}{js:List Job}{k:Int}{tx:ByteArray}(h:JL ep now given workers rs ts js)(h0:0≤k)(hk:k < rs.length)(hj:k < js.length)(ht:¬tx = emp):JL ep now given workers (rs.set k.toNat tx) ts (js.set k.toNat fm):=by
 have g:∀ {i:Nat} {x:Job},(js.set k.toNat fm)[i]? = some x→¬x.lease = 0→¬(i:Int) = k∧js[i]? = some x:=fun{i x} hx hz=>by
  by_cases e:i = k.toNat
  ·subst e
   rw[List.getElem?_set_self OM]at hx
   rw[←Option.some.inj hx]at hz;exact absurd rfl hz
  ·rw[List.getElem?_set_ne (fun q=>e q.symm)]at hx
   exact⟨by omega,hx⟩
 have hat:∀ i:Int,0≤i→¬i = k→atS (rs.set k.toNat tx) i = atS rs i:=fun i hi e=>mS h0 hi e
 refine⟨fun i x hx hz=>?_,fun i x hx hz=>h.lease i x (g hx hz).2 hz,fun i x hx hz=>h.worker i x (g hx hz).2 hz,fun i x hx hz=>h.til i x (g hx hz).2 hz,fun i x hx hz=>?_,fun i x hx hz=>?_,fun i m x y him hx hy hz e=>?_⟩
 ·by_cases e:i = k.toNat
  ·subst e
   rw[List.getElem?_set_self OM]at hx
   rw[←Option.some.inj hx];exact⟨rfl,rfl⟩
  ·rw[List.getElem?_set_ne (fun q=>e q.symm)]at hx
   exact h.zero i x hx hz
 ·rw[hat i OM (g hx hz).1];exact h.res i x (g hx hz).2 hz
 ·intro d hd q
  have hr:=h.ready i x (g hx hz).2 hz d hd
  by_cases e:d.toNat = k.toNat
  ·rw[e,List.getElem?_set_self OM]at q;exact ht q
  ·rw[List.getElem?_set_ne (fun w=>e w.symm)]at q;exact hr q
 ·have hzx:¬x.lease = 0:=fun w=>hz (by rw[←e];exact w)
  exact h.once i m x y him (g hx hzx).2 (g hy hz).2 hz e
theorem MB{b:Boss}{p:Plan}{m:Message}(hv:BossOk b p)(hup:b.up = true)(he:1≤m.epoch∧m.epoch≤300):BossOk (nN b m) p:=by
 unfold nN;split
 ·exact hv
 ·obtain⟨u1,u2,u3,u4,u5,u6,u7,u9,u11,u12,u13,u14⟩:=hv.up hup
  refine⟨hv.plan,hv.workers,hv.now,hv.code,fun _=>?_,fun e=>by rw[show b.up = false from e]at hup;cases hup⟩
  refine⟨u1,u2,u3,u4,by show((b.seats.set _ _).length:Int) = _;rw[List.length_set];exact u5,u6,u7,u9,u11,E6 (show JL b.epoch b.now b.given b.workers b.results p.tasks b.jobs from It u12),fun s hs=>?_,fun o ho=>by obtain⟨a1,a2,a3,a4⟩:=u14 o ho;exact⟨a1,a2,a3,a4⟩⟩
  rcases List.mem_or_eq_of_mem_set hs with hs|hs
  ·exact u13 s hs
  ·rw[hs];exact⟨by dsimp only;omega,by dsimp only;omega⟩
theorem Mv{b:Boss}{p:Plan}{m:Message}(hv:BossOk b p)(hup:b.up = true)(he:1≤m.epoch∧m.epoch≤300):BossOk (yS b m) p:=by
 unfold yS;split
 ·exact hv
 ·obtain⟨u1,u2,u3,u4,u5,u6,u7,u9,u11,u12,u13,u14⟩:=hv.up hup
  refine⟨hv.plan,hv.workers,hv.now,hv.code,fun _=>?_,fun e=>by rw[show b.up = false from e]at hup;cases hup⟩
  refine⟨u1,u2,u3,by show(b.jobs.map _).length = _;rw[List.length_map];exact u4,by show((b.seats.set _ _).length:Int) = _;rw[List.length_set];exact u5,u6,u7,u9,u11,E6 (Xj (It u12)),fun s hs=>?_,fun o ho=>by obtain⟨a1,a2,a3,a4⟩:=u14 o ho;exact⟨a1,a2,a3,a4⟩⟩
  rcases List.mem_or_eq_of_mem_set hs with hs|hs
  ·exact u13 s hs
  ·rw[hs];exact⟨by dsimp only;omega,by dsimp only;omega⟩
theorem MR{b:Boss}{p:Plan}{m:Message}(hv:BossOk b p)(hup:b.up = true)(hl:1≤m.lease):BossOk (V5 b m) p:=by
 obtain⟨u1,u2,u3,u4,u5,u6,u7,u9,u11,u12,u13,u14⟩:=hv.up hup
 refine⟨hv.plan,hv.workers,hv.now,hv.code,fun _=>?_,fun e=>by rw[show b.up = false from e]at hup;cases hup⟩
 exact⟨u1,u2,u3,by show(b.jobs.map _).length = _;rw[List.length_map];exact u4,u5,u6,u7,u9,u11,E6 (Xk hl (It u12)),u13,fun o ho=>by obtain⟨a1,a2,a3,a4⟩:=u14 o ho;exact⟨a1,a2,a3,a4⟩⟩
theorem L9{b:Boss}{p:Plan}{m:Message}(hv:BossOk b p)(hup:b.up = true)(ht:0≤m.task∧m.task < p.tasks.length)(hx:(m.text.size:Int) = 8):BossOk (uG b p.tasks m) p:=by
 unfold uG;split
 ·rename_i hp
  obtain⟨u1,u2,u3,u4,u5,u6,u7,u9,u11,u12,u13,u14⟩:=hv.up hup
  obtain⟨c1,c2,c3⟩:=hp
  have hne:¬m.text = emp:=fun q=>by rw[q]at hx;cases hx
  obtain⟨t,ht0⟩:=ae (xs:=p.tasks) (n:=m.task.toNat) OM
  rw[eu ht0]at c2
  have hc:(aw p (b.log.safe++b.log.loose)).code = 0:=hv.code
  have h3:=(fr hc).2
  have hpl:=(bU hv.plan).1
  have hok:Entry.ok ⟨2,b.epoch,m.task,m.text⟩:=⟨⟨u2,by show b.epoch≤300;rw[u1];exact h3⟩,⟨ht.1,by show m.task≤39;omega⟩,.inr ⟨rfl,hx⟩⟩
  have e:=I6 (p:=p) (xs:=b.log.safe++b.log.loose) (e:=⟨2,b.epoch,m.task,m.text⟩) hc (by rw[List.length_append];exact c3) hok (by show ¬(2:Int) = 1;omega) u1 ht0 ht.2 (by rw[←show b.results = (aw p (b.log.safe++b.log.loose)).results from u6];exact c1) (by rw[←show b.results = (aw p (b.log.safe++b.log.loose)).results from u6];exact c2)
  have es:cx (nB b m) p = ⟨0,(cx b p).epoch,(cx b p).results.set m.task.toNat m.text⟩:=by
   show aw p (b.log.safe++ (b.log.loose++ [bT _])) = _
   rw[←List.append_assoc,e];rfl
  refine⟨hv.plan,hv.workers,hv.now,by rw[es],fun _=>?_,fun e=>by rw[show b.up = false from e]at hup;cases hup⟩
  rw[es]
  refine⟨u1,u2,by show(b.results.set _ _).length = _;rw[List.length_set];exact u3,by show(b.jobs.set _ _).length = _;rw[List.length_set];exact u4,u5,by show b.results.set _ _ = _;rw[u6],u7,u9,u11,E6 (Zk (It u12) ht.1 OM OM hne),u13,fun o ho=>?_⟩
  obtain⟨a1,a2,a3,a4⟩:=u14 o ho
  refine⟨a1,a2,a3,fun q=>?_⟩
  change atS (b.results.set m.task.toNat m.text) o.task = emp at q
  by_cases e:o.task = m.task
  ·rw[e,wY ht.1 OM]at q;exact hne q
  ·rw[mS ht.1 a3.1 e]at q;exact a4 q
 ·exact hv
theorem L7{b:Boss}{p:Plan}{m:Message}(hv:BossOk b p)(hup:b.up = true)(hf:1≤m.frm∧m.frm≤b.workers)(hl:1≤m.lease∧m.lease≤300000000)(ht:0≤m.task∧m.task < p.tasks.length)(hx:(m.text.size:Int) = 8):BossOk (CU b m) p:=by
 unfold CU;split
 ·rename_i ho
  obtain⟨u1,u2,u3,u4,u5,u6,u7,u9,u11,u12,u13,u14⟩:=hv.up hup
  have hne:¬m.text = emp:=fun q=>by rw[q]at hx;cases hx
  have hr:=ho.room
  refine⟨hv.plan,hv.workers,hv.now,hv.code,fun _=>?_,fun e=>by rw[show b.up = false from e]at hup;cases hup⟩
  refine⟨u1,u2,u3,u4,u5,u6,u7,u9,by show(b.owed++ [_]).length≤2000;rw[List.length_append,List.length_singleton];omega,E6 (show JL b.epoch b.now b.given b.workers b.results p.tasks b.jobs from It u12),u13,fun o ho2=>?_⟩
  rcases List.mem_append.1 ho2 with ho2|ho2
  ·obtain⟨a1,a2,a3,a4⟩:=u14 o ho2;exact⟨a1,a2,a3,a4⟩
  ·rw[List.mem_singleton.1 ho2]
   exact⟨hf,hl,⟨ht.1,by dsimp only;omega⟩,by show ¬atS b.results m.task = emp;rw[ho.same];exact hne⟩
 ·exact hv
theorem NA{b:Boss}{ts:List Task}{m:Message}:(uG b ts m).up = b.up∧(uG b ts m).workers = b.workers:=by unfold uG;split <;> exact⟨rfl,rfl⟩
theorem Nz{b:Boss}{m:Message}:(FA b m).up = b.up∧(FA b m).workers = b.workers:=by
 unfold FA;split
 ·unfold nN;split <;> exact⟨rfl,rfl⟩
 ·exact⟨rfl,rfl⟩
theorem LX{b:Boss}{p:Plan}(m:Message)(hv:BossOk b p):BossOk (ix b p.tasks m) p:=by
 by_cases hf:ForB b m
 ·obtain⟨hkd,⟨f1,f2⟩,he⟩:=pm hf
  have hup:=hf.up
  rcases hkd with hk|hk|hk
  ·rw[pC hf hk]
   refine MR hv hup ?_
   rcases hf.ok.2 with q|q|q|q|q
   ·have:=q.1;omega
   ·exact q.2.2.2.1.1
   ·have:=q.1;omega
   ·have:=q.1;omega
   ·have:=q.1;omega
  ·by_cases ht:m.task < p.tasks.length
   ·rw[t8 hf hk ht]
    obtain⟨r1,⟨r2,_⟩,r4⟩:=HW hf hk
    have v1:=L9 hv hup ⟨r2,ht⟩ r4
    obtain⟨w1,w2⟩:=NA (b:=b) (ts:=p.tasks) (m:=m)
    have v2:BossOk (FA (uG b p.tasks m) m) p:=by
     unfold FA;split
     ·exact MB v1 (by rw[w1];exact hup) he
     ·exact v1
    obtain⟨w3,w4⟩:=Nz (b:=uG b p.tasks m) (m:=m)
    exact L7 v2 (by rw[w3,w1];exact hup) ⟨f1,by rw[w4,w2];exact hf.frm⟩ r1 ⟨r2,ht⟩ r4
   ·rw[t9 hf hk ht];exact hv
  ·rw[pB hf hk];exact Mv hv hup he
 ·rw[Ib hf];exact hv
end Go.K
end
section
open Go Go.Tm Go.Proofs
namespace Go.K
def cB(w:Worker)(ts:List Task)(m:Message):Prop:=m.kind = 1∧(∃ t,ts[m.task.toNat]? = some t∧m.inputs.length = t.deps.length)∧(w.state = 0∨w.lease < m.lease)
def cI(w:Worker)(m:Message):Prop:=m.kind = 4∧w.state = 2∧w.lease = m.lease
def mD(w:Worker)(m:Message):Prop:=w.up = true∧bL m∧m.to = w.number
def ku(ts:List Task)(k:Int):Int:=((ts[k.toNat]?).map Task.cost).getD 0
open Classical in
noncomputable def kD(w:Worker)(ts:List Task)(m:Message):Worker :=
 if mD w m then
  if cB w ts m then⟨w.number,w.epoch,true,1,m.lease,m.task,ku ts m.task,ku ts m.task,m.inputs,emp,0⟩
  else if cI w m then⟨w.number,w.epoch,w.up,0,0,0,0,0,[],emp,3⟩else w
 else w
abbrev WS(x:Worker):V:=.agg [.t (.i x.number),.t (.i x.epoch),.t (.b x.up),.t (.i x.state),.t (.i x.lease),.t (.i x.task),.t (.i x.cost),.t (.i x.left),.t .hole,.t (.s x.text),.t (.i x.since)]
theorem nT(w:Worker)(s:Int):F qm [.val (WS w),.val (.i s)] (aA ⟨w.number,w.epoch,w.up,0,0,0,0,0,[],emp,s⟩) [[],[]]:=by
 refine qv ?_
 conv=>whnf
 refine g 0 0 []<|J QZ<|g 5 13 []<|J QZ<|RT ?_
 rfl
theorem lS{w:Worker}{ts:List Task}{m:Message}(h:¬mD w m):kD w ts m = w:=if_neg h
theorem ny{w:Worker}{ts:List Task}{m:Message}(h:mD w m)(h1:cB w ts m):kD w ts m = ⟨w.number,w.epoch,true,1,m.lease,m.task,ku ts m.task,ku ts m.task,m.inputs,emp,0⟩:=by rw[kD,if_pos h,if_pos h1]
theorem xd{w:Worker}{ts:List Task}{m:Message}(h:mD w m)(h1:cB w ts m):kD w ts m = ⟨w.number,w.epoch,w.up,1,m.lease,m.task,ku ts m.task,ku ts m.task,m.inputs,emp,0⟩:=by rw[ny h h1,h.1]
theorem oD{w:Worker}{ts:List Task}{m:Message}(h:mD w m)(h1:cI w m):kD w ts m = ⟨w.number,w.epoch,w.up,0,0,0,0,0,[],emp,3⟩:=by
 rw[kD,if_pos h,if_neg (fun q=>by have:=q.1;have:=h1.1;omega),if_pos h1]
theorem dX{w:Worker}{ts:List Task}{m:Message}(h1:¬cB w ts m)(h2:¬cI w m):kD w ts m = w:=by
 by_cases h:mD w m
 ·rw[kD,if_pos h,if_neg h1,if_neg h2]
 ·exact lS h
theorem BZ{ts:List Task}{k:Int}{t:Task}(h:ts[k.toNat]? = some t):ku ts k = t.cost:=by unfold ku;rw[h];rfl
noncomputable def xV(w:Worker)(p:Plan)(m:Message):Acted:=if au w∧am p.tasks = 0 then⟨kD w p.tasks m,[]⟩else Bx
theorem J0{w:Worker}{p:Plan}{m:Message}(h:¬(au w∧am p.tasks = 0)):xV w p m = Bx:=if_neg h
theorem eN{w:Worker}{p:Plan}{m:Message}(h:au w)(h2:am p.tasks = 0):xV w p m = ⟨kD w p.tasks m,[]⟩:=if_pos ⟨h,h2⟩
theorem rE(w:Worker)(p:Plan)(m:Message)(h:au w)(hc:am p.tasks = 0)(hm:m.inputs.length≤9223372036854775806):F rf [.val (aA w),.val (cV p),.val (eS m)] (aA (kD w p.tasks m)) [[],[],[]]:=by
 have cm:=cO m hm
 by_cases hup:w.up = true
 ·by_cases hok:bL m
  ·rw[decide_eq_true hok]at cm
   have hi:=(dp hok).1
   obtain⟨_,_,_,_,⟨r1,r2⟩,⟨r3,r4⟩⟩:=gf hok
   by_cases hto:m.to = w.number
   ·have hf:mD w m:=⟨hup,hok,hto⟩
    by_cases hk:m.kind = 1
    ·have nt:¬cI w m:=fun q=>by have:=q.1;omega
     by_cases ht:m.task < p.tasks.length
     ·obtain⟨t,ht2⟩:=ae (xs:=p.tasks) (n:=m.task.toNat) OM
      obtain⟨_,_,g3,_⟩:=cq hc ht2
      by_cases hd:m.inputs.length = t.deps.length
      ·by_cases hs:w.state = 0
       ·have ho:cB w p.tasks m:=⟨hk,⟨t,ht2,hd⟩,.inl hs⟩
        refine bc ?_
        conv=>whnf
        refine g 0 0 []<|J QZ<|Ws<|g 9 22 (BF::BF::.call VT [[]]::(RL 8 BF []))<|J QZ<|Wc<|J (noT nO) fun _=>Wk<|Ws<|g 22 25 []<|J UB<|Wb<|g 27 28 []<|J UB<|Wc<|J (fun _=>(Ws (gd 25 47 [[],[],[],[],[],[],[],[BF],[BF],[BF],[BF],[BF],[BF],[BF],[BF,.x (ay t)],[BF],[BF],[BF],[BF],[BF]] ?_))) (noF tO)
        conv=>whnf
        refine⟨Zab,by kernel_rfl,?_⟩
        refine Wc<|J (noT SI) fun _=>Wk<|g 47 58 (RL 6 BT [])<|J QZ<|Wc<|J (fun _=>(g 58 66 [.x (ay t)]<|J QZ (gd 7 80 [[],[],[],[],[],[],[],[],[],[],[],[],[.call (V.own [false] (List.map ai m.inputs)) [[]]],[],[]] ?_))) (noF rfl)
        conv=>whnf
        refine⟨⟨I,I,I,I,I,I,I,I,I,I,I,I,⟨UA,I,US,UA,fV _ OM⟩,I,UK,I⟩,by kernel_rfl,?_⟩
        refine RT ?_
        rw[ny hf ho,BZ ht2]
        all_goals rfl
       ·by_cases hl:w.lease < m.lease
        ·have ho:cB w p.tasks m:=⟨hk,⟨t,ht2,hd⟩,.inr hl⟩
         refine bc ?_
         conv=>whnf
         refine g 0 0 []<|J QZ<|Ws<|g 9 22 (BF::BF::.call VT [[]]::(RL 8 BF []))<|J QZ<|Wc<|J (noT nO) fun _=>Wk<|Ws<|g 22 25 []<|J UB<|Wb<|g 27 28 []<|J UB<|Wc<|J (fun _=>(Ws (gd 25 47 [[],[],[],[],[],[],[],[BF],[BF],[BF],[BF],[BF],[BF],[BF],[BF,.x (ay t)],[BF],[BF],[BF],[BF],[BF]] ?_))) (noF tO)
         conv=>whnf
         refine⟨Zab,by kernel_rfl,?_⟩
         refine Wc<|J (noT SI) fun _=>Wk<|g 47 58 (RL 6 BF [])<|J QZ<|Wc<|J (fun _=>(g 58 66 [.x (ay t)]<|J QZ (gd 7 80 [[],[],[],[],[],[],[],[],[],[],[],[],[.call (V.own [false] (List.map ai m.inputs)) [[]]],[],[]] ?_))) (noF tO)
         conv=>whnf
         refine⟨⟨I,I,I,I,I,I,I,I,I,I,I,I,⟨UA,I,US,UA,fV _ OM⟩,I,UK,I⟩,by kernel_rfl,?_⟩
         refine RT ?_
         rw[ny hf ho,BZ ht2]
         all_goals rfl
        ·have no:¬cB w p.tasks m:=fun q=>by have:=q.2.2;omega
         refine bc ?_
         conv=>whnf
         refine g 0 0 []<|J QZ<|Ws<|g 9 22 (BF::BF::.call VT [[]]::(RL 8 BF []))<|J QZ<|Wc<|J (noT nO) fun _=>Wk<|Ws<|g 22 25 []<|J UB<|Wb<|g 27 28 []<|J UB<|Wc<|J (fun _=>(Ws (gd 25 47 [[],[],[],[],[],[],[],[BF],[BF],[BF],[BF],[BF],[BF],[BF],[BF,.x (ay t)],[BF],[BF],[BF],[BF],[BF]] ?_))) (noF tO)
         conv=>whnf
         refine⟨Zab,by kernel_rfl,?_⟩
         refine Wc<|J (noT SI) fun _=>Wk<|g 47 58 (RL 6 BF [])<|J QZ<|Wc<|J (noT dO) fun _=>Wk<|g 0 6 []<|J QZ<|RT ?_
         rw[dX no nt];all_goals rfl
      ·have no:¬cB w p.tasks m:=fun q=>by obtain⟨t2,h2,h3⟩:=q.2.1;rw[ht2]at h2;cases h2;exact hd h3
       refine bc ?_
       conv=>whnf
       refine g 0 0 []<|J QZ<|Ws<|g 9 22 (BF::BF::.call VT [[]]::(RL 8 BF []))<|J QZ<|Wc<|J (noT nO) fun _=>Wk<|Ws<|g 22 25 []<|J UB<|Wb<|g 27 28 []<|J UB<|Wc<|J (fun _=>(Ws (gd 25 47 [[],[],[],[],[],[],[],[BF],[BF],[BF],[BF],[BF],[BF],[BF],[BF,.x (ay t)],[BF],[BF],[BF],[BF],[BF]] ?_))) (noF tO)
       conv=>whnf
       refine⟨Zab,by kernel_rfl,?_⟩
       refine Wc<|JN (fun h1=>?_) fun h1=>?_
       simp only[LM]at h1
       refine g 47 49 []<|J QZ<|RT ?_
       rotate_left
       simp only[LM]at h1
       omega
       rw[dX no nt];all_goals rfl
     ·have no:¬cB w p.tasks m:=fun q=>by obtain⟨t2,h2,h3⟩:=q.2.1;have:=(List.getElem?_eq_some_iff.1 h2).1;omega
      refine bc ?_
      conv=>whnf
      refine g 0 0 []<|J QZ<|Ws<|g 9 22 (BF::BF::.call VT [[]]::(RL 8 BF []))<|J QZ<|Wc<|J (noT nO) fun _=>Wk<|Ws<|g 22 25 []<|J UB<|Wb<|g 27 28 []<|J UB<|Wc<|J (fun _=>(Ws (gd 25 47 [[],[],[],[],[],[],[],[BT],[BT],[BT],[BT],[BT],[BT],[BT],[BT],[BT],[BT],[BT],[BT],[BT]] ?_))) (noF tO)
      conv=>whnf
      refine⟨⟨I,I,I,I,I,I,I,(by simp_all),(by simp_all),(by simp_all),(by simp_all),(by simp_all),(by simp_all),(by simp_all),(by simp_all),(by simp_all),(by simp_all),(by simp_all),(by simp_all),(by simp_all),I⟩,by kernel_rfl,?_⟩
      refine Wc<|J (fun _=>(g 47 49 []<|J QZ (RT ?_))) (noF rfl)
      rw[dX no nt];all_goals rfl
    ·have no:¬cB w p.tasks m:=fun q=>hk q.1
     by_cases hk4:m.kind = 4
     ·by_cases hs:w.state = 2
      ·by_cases hl:w.lease = m.lease
       ·have yt:cI w m:=⟨hk4,hs,hl⟩
        refine bc ?_
        conv=>whnf
        refine g 0 0 []<|J QZ<|Ws<|g 9 22 (BF::BF::.call VT [[]]::(RL 8 BF []))<|J QZ<|Wc<|J (noT nO) fun _=>Wk<|Ws<|g 22 25 []<|J UB<|Wb<|g 27 28 []<|J UB<|Wc<|J (noT dO) fun _=>g 0 3 []<|J UB<|Wc<|J (fun _=>?_) (noF tO)
        refine g 8 91 (RL 6 BT [])<|J QZ<|Wc<|J (fun _=>(g 4 6 [.call (aA {number:=w.number,epoch:=w.epoch,up:=w.up,state:=0,lease:=0,task:=0,cost:=0,left:=0,inputs:=[],text:=emp,since:=3:Worker}) [[],[]]]<|J (QA @jC) (RT ?_))) (noF tO)
        rw[oD hf yt]
        all_goals rfl
       ·have nt:¬cI w m:=fun q=>hl q.2.2
        refine bc ?_
        conv=>whnf
        refine g 0 0 []<|J QZ<|Ws<|g 9 22 (BF::BF::.call VT [[]]::(RL 8 BF []))<|J QZ<|Wc<|J (noT nO) fun _=>Wk<|Ws<|g 22 25 []<|J UB<|Wb<|g 27 28 []<|J UB<|Wc<|J (noT dO) fun _=>g 0 3 []<|J UB<|Wc<|J (fun _=>?_) (noF tO)
        refine g 8 91 (RL 6 BT [])<|J QZ<|Wc<|J (noT dO) fun _=>Wk<|g 3 6 []<|J QZ<|RT ?_
        rw[dX no nt];all_goals rfl
      ·have nt:¬cI w m:=fun q=>hs q.2.1
       refine bc ?_
       conv=>whnf
       refine g 0 0 []<|J QZ<|Ws<|g 9 22 (BF::BF::.call VT [[]]::(RL 8 BF []))<|J QZ<|Wc<|J (noT nO) fun _=>Wk<|Ws<|g 22 25 []<|J UB<|Wb<|g 27 28 []<|J UB<|Wc<|J (noT dO) fun _=>g 0 3 []<|J UB<|Wc<|J (fun _=>?_) (noF tO)
       refine g 8 91 (RL 6 BF [])<|J QZ<|Wc<|J (noT rfl) fun _=>Wk<|g 3 6 []<|J QZ<|RT ?_
       rw[dX no nt];all_goals rfl
     ·have nt:¬cI w m:=fun q=>hk4 q.1
      refine bc ?_
      conv=>whnf
      refine g 0 0 []<|J QZ<|Ws<|g 9 22 (BF::BF::.call VT [[]]::(RL 8 BF []))<|J QZ<|Wc<|J (noT nO) fun _=>Wk<|Ws<|g 22 25 []<|J UB<|Wb<|g 27 28 []<|J UB<|Wc<|J (noT dO) fun _=>g 0 3 []<|J UB<|Wc<|J (noT dO) fun _=>?_
      refine Wk<|g 8 95 []<|J QZ<|RT ?_
      rw[dX no nt];all_goals rfl
   ·have nf:¬mD w m:=fun q=>hto q.2.2
    refine bc ?_
    conv=>whnf
    refine g 0 0 []<|J QZ<|Ws<|g 9 22 (BF::BF::.call VT [[]]::(RL 8 BF []))<|J QZ<|Wc<|J (fun _=>(g 22 24 []<|J QZ (RT ?_))) (noF (dP OM))
    rw[lS nf];all_goals rfl
  ·rw[decide_eq_false hok]at cm
   have nf:¬mD w m:=fun q=>hok q.2.1
   refine bc ?_
   conv=>whnf
   refine g 0 0 []<|J QZ<|Ws<|g 9 22 (BF::BF::.call VF [[]]::BF::BF::(RL 6 BT []))<|J QZ<|Wc<|J (fun _=>(g 22 24 []<|J QZ (RT ?_))) (noF rfl)
   rw[lS nf];all_goals rfl
 ·have nf:¬mD w m:=fun q=>hup q.1
  refine bc ?_
  conv=>whnf
  refine g 0 0 []<|J QZ<|Ws<|g 9 22 (RL 10 BT [])<|J QZ<|Wc<|J (fun _=>(g 22 24 []<|J QZ (RT ?_))) (noF rfl)
  rw[lS nf];all_goals rfl
theorem tf(w:Worker)(p:Plan)(m:Message)(hp:dy p)(hll:w.inputs.length≤1048576)(hm:m.inputs.length≤9223372036854775806):F sL [.val (dI w),.val (cV p),.val (eS m)] (qT (xV w p m)) [[],[],[]]:=by
 have cp:=dl p hp
 by_cases h:au w
 ·by_cases hc:am p.tasks = 0
  ·rw[hc]at cp
   have cm:=o4 m hm
   have cf3:=nT w 3
   have cf0:=nT w 0
   by_cases hup:w.up = true
   ·by_cases hok:bL m
    ·rw[decide_eq_true hok]at cm
     have hi:=(dp hok).1
     obtain⟨_,_,_,_,⟨r1,r2⟩,⟨r3,r4⟩⟩:=gf hok
     by_cases hto:m.to = w.number
     ·have hf:mD w m:=⟨hup,hok,hto⟩
      by_cases hk:m.kind = 1
      ·have nt:¬cI w m:=fun q=>by have:=q.1;omega
       by_cases ht:m.task < p.tasks.length
       ·obtain⟨t,ht2⟩:=ae (xs:=p.tasks) (n:=m.task.toNat) OM
        obtain⟨_,_,g3,_⟩:=cq hc ht2
        by_cases hd:m.inputs.length = t.deps.length
        ·by_cases hs:w.state = 0
         ·have ho:cB w p.tasks m:=⟨hk,⟨t,ht2,hd⟩,.inl hs⟩
          refine aS ?_
          conv=>whnf
          refine g 1 3 []<|J QZ<|Ws<|g 12 17 [.call (V.b (decide (au w))) [[]],BF,BF,.call (V.i 0) [[]],BF,BF]<|J (QA @ar)<|Wc<|J (noT rfl) fun _=>Wk<|g 17 21 [.call (aA w) [[]]]<|J (QA @aG)<|g 21 23 []<|J QZ<|Ws<|g 23 37 (BF::BF::.call VT [[]]::(RL 8 BF []))<|J QZ<|Wc<|J (noT nO) fun _=>Wk<|Ws ?_
          refine g 37 53 (RL 10 BF [])<|J QZ<|Wc<|J (noT rfl) fun _=>Wk<|Ws<|gd 10 81 [[],[],[],[],[BF],[BF],[BF],[BF],[BF],[BF],[BF],[],[BF],[BF],[BF],[BF],[BF],[BF],[BF],[BF,.x (ay t)],[BF],[BF],[BF],[BF],[BF]] ?_
          conv=>whnf
          refine J QZ<|J KR<|Wc<|J (noT SI) fun _=>Wk<|Ws<|g 81 92 (RL 6 BF [])<|J QZ<|Wc<|J (noT rfl) fun _=>Wk<|g 92 96 [.call (aA {number:=w.number,epoch:=w.epoch,up:=w.up,state:=0,lease:=0,task:=0,cost:=0,left:=0,inputs:=[],text:=emp,since:=0:Worker}) [[],[]]]<|J QZ<|g 7 9 []<|J UV<|g 98 100 []<|J UW<|g 100 103 []<|J UW<|g 103 111 [.x (ay t)]<|J QZ ?_
          refine g 111 114 []<|J UW<|g 114 119 []<|J QZ<|g 0 6 []<|J QZ<|RT ?_
          rw[eN h hc,xd hf ho,BZ ht2]
          all_goals rfl
         ·by_cases hl:w.lease < m.lease
          ·have ho:cB w p.tasks m:=⟨hk,⟨t,ht2,hd⟩,.inr hl⟩
           refine aS ?_
           conv=>whnf
           refine g 1 3 []<|J QZ<|Ws<|g 12 17 [.call (V.b (decide (au w))) [[]],BF,BF,.call (V.i 0) [[]],BF,BF]<|J (QA @ar)<|Wc<|J (noT rfl) fun _=>Wk<|g 17 21 [.call (aA w) [[]]]<|J (QA @aG)<|g 21 23 []<|J QZ<|Ws<|g 23 37 (BF::BF::.call VT [[]]::(RL 8 BF []))<|J QZ<|Wc<|J (noT nO) fun _=>Wk<|Ws ?_
           refine g 37 53 (RL 10 BF [])<|J QZ<|Wc<|J (noT rfl) fun _=>Wk<|Ws<|gd 10 81 [[],[],[],[],[BF],[BF],[BF],[BF],[BF],[BF],[BF],[],[BF],[BF],[BF],[BF],[BF],[BF],[BF],[BF,.x (ay t)],[BF],[BF],[BF],[BF],[BF]] ?_
           conv=>whnf
           refine J QZ<|J KR<|Wc<|J (noT SI) fun _=>Wk<|Ws<|g 81 92 (RL 6 BT [])<|J QZ<|Wc<|J (noT dO) fun _=>Wk<|g 92 96 [.call (aA {number:=w.number,epoch:=w.epoch,up:=w.up,state:=0,lease:=0,task:=0,cost:=0,left:=0,inputs:=[],text:=emp,since:=0:Worker}) [[],[]]]<|J QZ<|g 7 9 []<|J UV<|g 98 100 []<|J UW<|g 100 103 []<|J UW<|g 103 111 [.x (ay t)]<|J QZ ?_
           refine g 111 114 []<|J UW<|g 114 119 []<|J QZ<|g 0 6 []<|J QZ<|RT ?_
           rw[eN h hc,xd hf ho,BZ ht2]
           all_goals rfl
          ·have no:¬cB w p.tasks m:=fun q=>by have:=q.2.2;omega
           refine aS ?_
           conv=>whnf
           refine g 1 3 []<|J QZ<|Ws<|g 12 17 [.call (V.b (decide (au w))) [[]],BF,BF,.call (V.i 0) [[]],BF,BF]<|J (QA @ar)<|Wc<|J (noT rfl) fun _=>Wk<|g 17 21 [.call (aA w) [[]]]<|J (QA @aG)<|g 21 23 []<|J QZ<|Ws<|g 23 37 (BF::BF::.call VT [[]]::(RL 8 BF []))<|J QZ<|Wc<|J (noT nO) fun _=>Wk<|Ws ?_
           refine g 37 53 (RL 10 BF [])<|J QZ<|Wc<|J (noT rfl) fun _=>Wk<|Ws<|gd 10 81 [[],[],[],[],[BF],[BF],[BF],[BF],[BF],[BF],[BF],[],[BF],[BF],[BF],[BF],[BF],[BF],[BF],[BF,.x (ay t)],[BF],[BF],[BF],[BF],[BF]] ?_
           conv=>whnf
           refine J QZ<|J KR<|Wc<|J (noT SI) fun _=>Wk<|Ws<|g 81 92 (RL 6 BT [])<|J QZ<|Wc<|J (fun _=>(g 8 94 []<|J QZ (RT ?_))) (noF tO)
           rw[eN h hc,dX no nt];all_goals rfl
        ·have no:¬cB w p.tasks m:=fun q=>by obtain⟨t2,h2,h3⟩:=q.2.1;rw[ht2]at h2;cases h2;exact hd h3
         refine aS ?_
         conv=>whnf
         refine g 1 3 []<|J QZ<|Ws<|g 12 17 [.call (V.b (decide (au w))) [[]],BF,BF,.call (V.i 0) [[]],BF,BF]<|J (QA @ar)<|Wc<|J (noT rfl) fun _=>Wk<|g 17 21 [.call (aA w) [[]]]<|J (QA @aG)<|g 21 23 []<|J QZ<|Ws<|g 23 37 (BF::BF::.call VT [[]]::(RL 8 BF []))<|J QZ<|Wc<|J (noT nO) fun _=>Wk<|Ws ?_
         refine g 37 53 (RL 10 BF [])<|J QZ<|Wc<|J (noT rfl) fun _=>Wk<|Ws<|gd 10 81 [[],[],[],[],[BF],[BF],[BF],[BF],[BF],[BF],[BF],[],[BF],[BF],[BF],[BF],[BF],[BF],[BF],[BF,.x (ay t)],[BF],[BF],[BF],[BF],[BF]] ?_
         conv=>whnf
         refine J QZ<|J KR<|Wc<|JN (fun h1=>?_) fun h1=>?_
         simp only[LM]at h1
         refine g 81 83 []<|J QZ<|RT ?_
         rotate_left
         simp only[LM]at h1
         omega
         rw[eN h hc,dX no nt];all_goals rfl
       ·have no:¬cB w p.tasks m:=fun q=>by obtain⟨t2,h2,h3⟩:=q.2.1;have:=(List.getElem?_eq_some_iff.1 h2).1;omega
        refine aS ?_
        conv=>whnf
        refine g 1 3 []<|J QZ<|Ws<|g 12 17 [.call (V.b (decide (au w))) [[]],BF,BF,.call (V.i 0) [[]],BF,BF]<|J (QA @ar)<|Wc<|J (noT rfl) fun _=>Wk<|g 17 21 [.call (aA w) [[]]]<|J (QA @aG)<|g 21 23 []<|J QZ<|Ws<|g 23 37 (BF::BF::.call VT [[]]::(RL 8 BF []))<|J QZ<|Wc<|J (noT nO) fun _=>Wk<|Ws ?_
        refine g 37 53 (RL 10 BF [])<|J QZ<|Wc<|J (noT rfl) fun _=>Wk<|Ws<|gd 10 81 [[],[],[],[],[BF],[BF],[BF],[BF],[BF],[BF],[BF],[],[BT],[BT],[BT],[BT],[BT],[BT],[BT],[BT],[BT],[BT],[BT],[BT],[BT]] ?_
        conv=>whnf
        refine J QZ<|J KR<|Wc<|J (fun _=>(g 81 83 []<|J QZ (RT ?_))) (noF rfl)
        rw[eN h hc,dX no nt];all_goals rfl
      ·have no:¬cB w p.tasks m:=fun q=>hk q.1
       by_cases hk4:m.kind = 4
       ·by_cases hs:w.state = 2
        ·by_cases hl:w.lease = m.lease
         ·have yt:cI w m:=⟨hk4,hs,hl⟩
          refine aS ?_
          conv=>whnf
          refine g 1 3 []<|J QZ<|Ws<|g 12 17 [.call (V.b (decide (au w))) [[]],BF,BF,.call (V.i 0) [[]],BF,BF]<|J (QA @ar)<|Wc<|J (noT rfl) fun _=>Wk<|g 17 21 [.call (aA w) [[]]]<|J (QA @aG)<|g 21 23 []<|J QZ<|Ws<|g 23 37 (BF::BF::.call VT [[]]::(RL 8 BF []))<|J QZ<|Wc<|J (noT nO) fun _=>Wk<|Ws ?_
          refine g 37 53 (RL 10 BT [])<|J QZ<|Wc<|J (fun _=>(g 53 57 [.call (aA {number:=w.number,epoch:=w.epoch,up:=w.up,state:=0,lease:=0,task:=0,cost:=0,left:=0,inputs:=[],text:=emp,since:=3:Worker}) [[],[]]]<|J QZ (RT ?_))) (noF tO)
          rw[eN h hc,oD hf yt]
          all_goals rfl
         ·have nt:¬cI w m:=fun q=>hl q.2.2
          refine aS ?_
          conv=>whnf
          refine g 1 3 []<|J QZ<|Ws<|g 12 17 [.call (V.b (decide (au w))) [[]],BF,BF,.call (V.i 0) [[]],BF,BF]<|J (QA @ar)<|Wc<|J (noT rfl) fun _=>Wk<|g 17 21 [.call (aA w) [[]]]<|J (QA @aG)<|g 21 23 []<|J QZ<|Ws<|g 23 37 (BF::BF::.call VT [[]]::(RL 8 BF []))<|J QZ<|Wc<|J (noT nO) fun _=>Wk<|Ws ?_
          refine g 37 53 (RL 10 BT [])<|J QZ<|Wc<|J (noT dO) fun _=>Wk<|Ws<|gd 10 81 [[],[],[],[],[BT],[BT],[BT],[BT],[BT],[BT],[BT],[],[BT],[BT],[BT],[BT],[BT],[BT],[BT],[BT],[BT],[BT],[BT],[BT],[BT]] ?_
          conv=>whnf
          refine J QZ<|J KR<|Wc<|J (fun _=>(g 81 83 []<|J QZ (RT ?_))) (noF rfl)
          rw[eN h hc,dX no nt];all_goals rfl
        ·have nt:¬cI w m:=fun q=>hs q.2.1
         refine aS ?_
         conv=>whnf
         refine g 1 3 []<|J QZ<|Ws<|g 12 17 [.call (V.b (decide (au w))) [[]],BF,BF,.call (V.i 0) [[]],BF,BF]<|J (QA @ar)<|Wc<|J (noT rfl) fun _=>Wk<|g 17 21 [.call (aA w) [[]]]<|J (QA @aG)<|g 21 23 []<|J QZ<|Ws<|g 23 37 (BF::BF::.call VT [[]]::(RL 8 BF []))<|J QZ<|Wc<|J (noT nO) fun _=>Wk<|Ws ?_
         refine g 37 53 (BT::BT::BT::BT::(RL 6 BF []))<|J QZ<|Wc<|J (noT rfl) fun _=>Wk<|Ws<|gd 10 81 [[],[],[],[],[BT],[BT],[BT],[BT],[BT],[BT],[BT],[],[BT],[BT],[BT],[BT],[BT],[BT],[BT],[BT],[BT],[BT],[BT],[BT],[BT]] ?_
         conv=>whnf
         refine J QZ<|J KR<|Wc<|J (fun _=>(g 81 83 []<|J QZ (RT ?_))) (noF rfl)
         rw[eN h hc,dX no nt];all_goals rfl
       ·have nt:¬cI w m:=fun q=>hk4 q.1
        refine aS ?_
        conv=>whnf
        refine g 1 3 []<|J QZ<|Ws<|g 12 17 [.call (V.b (decide (au w))) [[]],BF,BF,.call (V.i 0) [[]],BF,BF]<|J (QA @ar)<|Wc<|J (noT rfl) fun _=>Wk<|g 17 21 [.call (aA w) [[]]]<|J (QA @aG)<|g 21 23 []<|J QZ<|Ws<|g 23 37 (BF::BF::.call VT [[]]::(RL 8 BF []))<|J QZ<|Wc<|J (noT nO) fun _=>Wk<|Ws ?_
        refine g 37 53 (RL 10 BF [])<|J QZ<|Wc<|J (noT rfl) fun _=>Wk<|Ws<|gd 10 81 [[],[],[],[],[BT],[BT],[BT],[BT],[BT],[BT],[BT],[],[BT],[BT],[BT],[BT],[BT],[BT],[BT],[BT],[BT],[BT],[BT],[BT],[BT]] ?_
        conv=>whnf
        refine J QZ<|J KR<|Wc<|J (fun _=>(g 81 83 []<|J QZ (RT ?_))) (noF rfl)
        rw[eN h hc,dX no nt];all_goals rfl
     ·have nf:¬mD w m:=fun q=>hto q.2.2
      refine aS ?_
      conv=>whnf
      refine g 1 3 []<|J QZ<|Ws<|g 12 17 [.call (V.b (decide (au w))) [[]],BF,BF,.call (V.i 0) [[]],BF,BF]<|J (QA @ar)<|Wc<|J (noT rfl) fun _=>Wk<|g 17 21 [.call (aA w) [[]]]<|J (QA @aG)<|g 21 23 []<|J QZ<|Ws<|g 23 37 (BF::BF::.call VT [[]]::(RL 8 BF []))<|J QZ<|Wc<|J (fun _=>(g 37 39 []<|J QZ (RT ?_))) (noF (dP OM))
      rw[eN h hc,lS nf];all_goals rfl
    ·rw[decide_eq_false hok]at cm
     have nf:¬mD w m:=fun q=>hok q.2.1
     refine aS ?_
     conv=>whnf
     refine g 1 3 []<|J QZ<|Ws<|g 12 17 [.call (V.b (decide (au w))) [[]],BF,BF,.call (V.i 0) [[]],BF,BF]<|J (QA @ar)<|Wc<|J (noT rfl) fun _=>Wk<|g 17 21 [.call (aA w) [[]]]<|J (QA @aG)<|g 21 23 []<|J QZ<|Ws<|g 23 37 (BF::BF::.call VF [[]]::BF::BF::(RL 6 BT []))<|J QZ<|Wc<|J (fun _=>(g 37 39 []<|J QZ (RT ?_))) (noF rfl)
     rw[eN h hc,lS nf];all_goals rfl
   ·have nf:¬mD w m:=fun q=>hup q.1
    refine aS ?_
    conv=>whnf
    refine g 1 3 []<|J QZ<|Ws<|g 12 17 [.call (V.b (decide (au w))) [[]],BF,BF,.call (V.i 0) [[]],BF,BF]<|J (QA @ar)<|Wc<|J (noT rfl) fun _=>Wk<|g 17 21 [.call (aA w) [[]]]<|J (QA @aG)<|g 21 23 []<|J QZ<|Ws<|g 23 37 (RL 10 BT [])<|J QZ<|Wc<|J (fun _=>(g 37 39 []<|J QZ (RT ?_))) (noF rfl)
    rw[eN h hc,lS nf];all_goals rfl
  ·rw[J0 (fun q=>hc q.2)]
   refine aS ?_
   conv=>whnf
   refine g 1 3 []<|J QZ<|Ws<|g 12 17 [.call (V.b (decide (au w))) [[]],BF,BF,.call (V.i (am p.tasks)) [[]],BF,BF]<|J (QA @ar)<|Wc<|J (fun _=>(g 17 19 []<|J QZ (RT ?_))) (noF (dP OM))
   rfl
 ·rw[J0 (fun q=>h q.1)]
  refine aS ?_
  conv=>whnf
  refine g 1 3 []<|J QZ<|Ws<|g 12 17 [.call (V.b (decide (au w))) [[]],BT,BT,BT,BT]<|J (QA @ar)<|Wc<|J (fun _=>(g 17 19 []<|J QZ (RT ?_))) (noF rfl)
  rfl
end Go.K
end
section
open Go Go.Tm Go.Proofs
namespace Go.K
theorem Og{w:Worker}{s:Int}(h1:1≤w.number∧w.number≤8)(h2:1≤w.epoch∧w.epoch≤300)(hs:0≤s∧s≤1000000)(u:Bool)(hu:u = true∨s = 0):au ⟨w.number,w.epoch,u,0,0,0,0,0,[],emp,s⟩ :=
 ⟨h1,h2,hs,hu.imp id fun q=>⟨rfl,q⟩,.inl ⟨rfl,rfl,rfl,rfl,rfl,rfl,rfl⟩⟩
theorem S2{w:Worker}(h:au w):au (mB w)∧(mB w).number = w.number:=by
 unfold mB;rw[if_pos h]
 exact⟨Og (w:=w) h.1 h.2.1 ⟨Int.le_refl _,by omega⟩ false (.inr rfl),rfl⟩
theorem SB{w:Worker}(h:au w):au (mz w)∧(mz w).number = w.number:=by
 unfold mz;rw[if_pos h]
 split
 ·exact⟨h,rfl⟩
 ·rename_i q
  have h2:=h.2.1
  have q2:¬300≤w.epoch:=fun e=>q (.inr e)
  exact⟨⟨h.1,⟨by show 1≤w.epoch+1;omega,by show w.epoch+1≤300;omega⟩,⟨by show(0:Int)≤3;omega,by show(3:Int)≤1000000;omega⟩,.inl rfl,.inl ⟨rfl,rfl,rfl,rfl,rfl,rfl,rfl⟩⟩,rfl⟩
theorem PD{w:Worker}(h:au w):0≤aW w∧aW w≤1000000:=by
 have:=h.2.2.1
 unfold aW;split <;> omega
theorem ko{w:Worker}(h:au w)(hup:w.up = true){s:Int}(hs:0≤s∧s≤1000000):au (cT w s):=by
 obtain⟨h1,h2,h3,h4,h5⟩:=h
 exact⟨h1,h2,hs,.inl hup,h5⟩
theorem SQ{w:Worker}(h:au w)(h1:w.state = 1)(h2:¬w.left - 1 = 0):au (og w):=by
 obtain⟨b1,b2,b3,b4,b5,b6⟩:=Bv h h1
 obtain⟨g1,g2,g3,g4,g5⟩:=h
 refine⟨g1,g2,g3,g4,.inr (.inl ⟨h1,b2,b3,⟨?_,?_⟩,b5,b6⟩)⟩
 ·show 1≤w.left - 1;omega
 ·show w.left - 1≤w.cost;omega
theorem Sl(nm:ByteArray)(xs:List ByteArray):(bC nm xs).size = 8:=oz nm xs
theorem Tb{w:Worker}(ts:List Task)(h:au w)(h1:w.state = 1)(h2:w.left - 1 = 0)(hup:w.up = true):au (gZ w ts):=by
 obtain⟨b1,b2,b3,b4,b5,b6⟩:=Bv h h1
 obtain⟨g1,g2,g3,g4,g5⟩:=h
 exact⟨g1,g2,⟨Int.le_refl _,by show(0:Int)≤1000000;omega⟩,.inl hup,.inr (.inr ⟨rfl,b2,rfl,h2,rfl,by show((bC _ _).size:Int) = 8;rw[Sl];rfl⟩)⟩
theorem Sp{w:Worker}(ts:List Task)(h:au w):au (gR w ts).worker∧(gR w ts).worker.number = w.number:=by
 have hs:=PD h
 have z:(0:Int)≤0∧(0:Int)≤1000000:=⟨Int.le_refl _,by omega⟩
 by_cases hup:w.up = false
 ·rw[wD hup];exact⟨h,rfl⟩
 have hup2:w.up = true:=by cases hb:w.up;exact absurd hb hup;rfl
 rcases Cn h with h1|h1|h1
 ·by_cases h4:3≤aW w
  ·rw[mG hup h1 h4];exact⟨ko h hup2 z,rfl⟩
  ·rw[rM hup h1 h4];exact⟨ko h hup2 hs,rfl⟩
 ·by_cases h2:w.left - 1 = 0
  ·rw[mH hup h1 h2];exact⟨Tb ts h h1 h2 hup2,rfl⟩
  ·have hl:=SQ h h1 h2
   by_cases h4:4≤aW w
   ·rw[mI hup h1 h2 h4];exact⟨ko hl hup2 z,rfl⟩
   ·rw[wE hup h1 h2 h4];exact⟨ko hl hup2 hs,rfl⟩
 ·by_cases h4:4≤aW w
  ·rw[mF hup h1 h4];exact⟨ko h hup2 z,rfl⟩
  ·rw[rL hup h1 h4];exact⟨ko h hup2 hs,rfl⟩
theorem Sr{w:Worker}{ts:List Task}(m:Message)(hc:am ts = 0)(h:au w):au (kD w ts m)∧(kD w ts m).number = w.number:=by
 by_cases hf:mD w m
 ·by_cases ho:cB w ts m
  ·rw[ny hf ho]
   obtain⟨o1,⟨t,ht,ol⟩,o3⟩:=ho
   obtain⟨q1,q2⟩:=hf.2.1
   have hk:(1≤m.lease∧m.lease≤300000000)∧(0≤m.task∧m.task≤39)∧fb m.inputs:=by
    rcases q2 with q|q|q|q|q
    ·exact⟨q.2.2.2.1,q.2.2.2.2.1,q.2.2.2.2.2.2⟩
    ·have:=q.1;omega
    ·have:=q.1;omega
    ·have:=q.1;omega
    ·have:=q.1;omega
   have e:ku ts m.task = t.cost:=by unfold ku;rw[ht];rfl
   have hcst:=(cq hc ht).2.1
   obtain⟨g1,g2,g3,g4,g5⟩:=h
   exact⟨⟨g1,g2,⟨Int.le_refl _,by show(0:Int)≤1000000;omega⟩,.inl rfl,.inr (.inl ⟨rfl,⟨hk.1,hk.2.1⟩,by show 1≤ku ts m.task∧_;rw[e];exact hcst,⟨by show 1≤ku ts m.task;rw[e];omega,Int.le_refl _⟩,hk.2.2,rfl⟩)⟩,rfl⟩
  ·by_cases hth:cI w m
   ·rw[oD hf hth]
    exact⟨Og (w:=w) h.1 h.2.1 ⟨by omega,by omega⟩ w.up (.inl hf.1),rfl⟩
   ·rw[dX ho hth];exact⟨h,rfl⟩
 ·rw[lS hf];exact⟨h,rfl⟩
end Go.K
end
section
open Go Go.Tm Go.Proofs
namespace Go.K
def sy(xs:List Parcel)(k:Int):List Parcel:=if xs.length≤2000∧0≤k∧k < xs.length∧xs.length < 2000 then xs++ (xs[k.toNat]?).toList else xs
theorem zy{xs:List Parcel}{k:Int}(h:¬(xs.length≤2000∧0≤k∧k < xs.length∧xs.length < 2000)):sy xs k = xs:=if_neg h
theorem Pk{xs:List Parcel}{m:Nat}{y:Parcel}(h:xs.length≤2000∧0≤(m:Int)∧(m:Int) < xs.length∧xs.length < 2000)(hy:xs[m]? = some y):xs.map bh++ [bh y] = (sy xs m).map bh:=by
 unfold sy
 rw[if_pos h,show((m:Int)).toNat = m from rfl,hy,List.map_append];rfl
theorem Ex(xs:List Parcel)(k:Int)(hl:xs.length≤1048576):F De [.val (.t (xw xs)),.val (.i k)] (.own pkd ((sy xs k).map bh)) [[],[]]:=by
 by_cases h0:0≤k
 ·obtain⟨m,rfl⟩:=Int.eq_ofNat_of_zero_le h0
  refine qw ?_
  conv=>whnf
  refine g 0 0 []<|J UA<|g 6 8 [.call (V.own pkd (List.map bh xs)) [[]]]<|J (QA @dK)<|Ws ?_
  by_cases h1:List.length xs≤(2000:Nat)∧(0:Int)≤(↑m:Int)∧(↑m:Int) < (↑(List.length xs):Int)
  refine g 8 15 [.call (V.b (decide (xs.length≤2000∧0≤(m:Int)∧(m:Int) < (↑xs.length:Int)))) [[],[]],BT,BT,BT,BT]<|J (QA @bP)<|Wc<|JD (fun h2=>?_) fun h2=>?_
  simp only[LM]at h2
  obtain⟨y1,hy1⟩:=ae (xs:=xs) (n:=m) OM
  refine rg [.x (bh y1)]<|J QZ<|g 5 24 []<|J UB<|RT ?_
  rotate_left
  simp only[LM]at h2
  refine Wk<|g 5 24 []<|J UB<|RT ?_
  rotate_left
  refine g 8 15 [.call (V.b (decide (xs.length≤2000∧0≤(m:Int)∧(m:Int) < (↑xs.length:Int)))) [[],[]],BF,BF,BF,BF]<|J (QA @bP)<|Wc<|J (noT rfl) fun _=>Wk<|g 5 24 []<|J UB<|RT ?_
  rotate_left
  ·exact congrArg (V.own pkd) (Pk ⟨h1.1,h1.2.1,h1.2.2,by omega⟩ hy1)
  ·rw[zy OM]
  ·rw[zy OM]
 ·skip
  refine qw ?_
  conv=>whnf
  refine g 0 0 []<|J UA<|g 6 8 [.call (V.own pkd (List.map bh xs)) [[]]]<|J (QA @dK)<|Ws<|g 8 15 [.call (V.b (decide (xs.length≤2000∧0≤k∧k < (↑xs.length:Int)))) [[],[]],BF,BF,BF,BF]<|J (QA @bP)<|Wc<|J (noT rfl) fun _=>Wk<|g 5 24 []<|J UB<|RT ?_
  rw[zy OM]
theorem EV(xs:List Parcel)(k:Int)(hl:xs.length≤1048576):F DD [.val (.t (xw xs)),.val (.i k)] (.own pkd ((sy xs k).map bh)) [[],[]]:=by
 by_cases h0:0≤k
 ·obtain⟨m,rfl⟩:=Int.eq_ofNat_of_zero_le h0
  refine qz ?_
  conv=>whnf
  refine g 0 0 []<|J UA<|g 6 8 [.call (V.own pkd (List.map bh xs)) [[]]]<|J (QA @dM)<|Ws ?_
  by_cases h1:List.length xs≤(2000:Nat)∧(0:Int)≤(↑m:Int)∧(↑m:Int) < (↑(List.length xs):Int)
  refine g 8 15 [.call (V.b (decide (xs.length≤2000∧0≤(m:Int)∧(m:Int) < (↑xs.length:Int)))) [[],[]],BT,BT,BT,BT]<|J (QA @da)<|Wc<|JD (fun h2=>?_) fun h2=>?_
  simp only[LM]at h2
  obtain⟨y1,hy1⟩:=ae (xs:=xs) (n:=m) OM
  refine rg [.x (bh y1)]<|J QZ<|g 5 24 []<|J UB<|RT ?_
  rotate_left
  simp only[LM]at h2
  refine Wk<|g 5 24 []<|J UB<|RT ?_
  rotate_left
  refine g 8 15 [.call (V.b (decide (xs.length≤2000∧0≤(m:Int)∧(m:Int) < (↑xs.length:Int)))) [[],[]],BF,BF,BF,BF]<|J (QA @da)<|Wc<|J (noT rfl) fun _=>Wk<|g 5 24 []<|J UB<|RT ?_
  rotate_left
  ·exact congrArg (V.own pkd) (Pk ⟨h1.1,h1.2.1,h1.2.2,by omega⟩ hy1)
  ·rw[zy OM]
  ·rw[zy OM]
 ·skip
  refine qz ?_
  conv=>whnf
  refine g 0 0 []<|J UA<|g 6 8 [.call (V.own pkd (List.map bh xs)) [[]]]<|J (QA @dM)<|Ws<|g 8 15 [.call (V.b (decide (xs.length≤2000∧0≤k∧k < (↑xs.length:Int)))) [[],[]],BF,BF,BF,BF]<|J (QA @da)<|Wc<|J (noT rfl) fun _=>Wk<|g 5 24 []<|J UB<|RT ?_
  rw[zy OM]
end Go.K
end
section
open Go Go.Tm Go.Proofs
namespace Go.K
def xorB(c:UInt8)(ma:Int):Int:=IntKind.u8.wrap (BitVec.ofInt IntKind.u8.bits (c.toNat:Int) ^^^ BitVec.ofInt IntKind.u8.bits (IntKind.u8.wrap (ma.tmod 256))).toNat
def XF(t:ByteArray)(q:Nat)(c:UInt8)(ma:Int):ByteArray:=⟨(bV ((cL t).set q [.v (.int .u8 (xorB c ma))])).toArray⟩
def YW(p:Parcel)(pl ma:Int):Parcel:=match p.text[pl.toNat]? with
 |some c=>⟨p.kind,p.frm,XF p.text pl.toNat c ma⟩
 |none=>p
def sD(xs:List Parcel)(k pl ma:Int):List Parcel :=
 if(xs.length≤2000∧0≤k∧k < xs.length)∧0≤ma∧0≤pl then match xs[k.toNat]? with
  |some p=>xs.set k.toNat (YW p pl ma)
  |none=>xs
 else xs
theorem qQ{xs:List Parcel}{k pl ma:Int}(h:¬((xs.length≤2000∧0≤k∧k < xs.length)∧0≤ma∧0≤pl)):sD xs k pl ma = xs:=if_neg h
theorem XG{s:ByteArray}{n:Nat}(h:s.size≤n):s[n]? = none:=getElem?_neg s n OM
theorem Ld{xs:List Parcel}{m q:Nat}{ma:Int}{y:Parcel}(hy:xs[m]? = some y)(h:y.text.size≤q):sD xs m q ma = xs:=by
 unfold sD
 split
 ·rw[show((m:Int)).toNat = m from rfl,hy]
  simp only[YW,show((q:Int)).toNat = q from rfl,XG h]
  apply List.ext_getElem?
  intro i
  rw[List.getElem?_set]
  split
  ·next e=>subst e;split
           ·exact hy.symm
           ·next h2=>rw[List.getElem?_eq_none OM]
  ·rfl
 ·rfl
theorem Lc{xs:List Parcel}{m q:Nat}{ma:Int}{y:Parcel}{c:UInt8}(h:(xs.length≤2000∧0≤(m:Int)∧(m:Int) < xs.length)∧0≤ma∧0≤(q:Int))(hy:xs[m]? = some y)(hc:y.text[q]? = some c) :
 (xs.map bh).set m [T.v (.int .i64 y.kind),T.v (.string y.frm),T.v (.string (XF y.text q c ma))] = (sD xs m q ma).map bh:=by
 unfold sD
 rw[if_pos h,show((m:Int)).toNat = m from rfl,hy]
 simp only[YW,show((q:Int)).toNat = q from rfl,hc]
 rw[List.map_set]
theorem JK(xs:List Parcel)(k pl ma:Int)(hl:xs.length≤1048576)(hs:∀ p∈xs,p.text.size≤1048576):F Jf [.val (.t (xw xs)),.val (.i k),.val (.i pl),.val (.i ma)] (.own pkd ((sD xs k pl ma).map bh)) [[],[],[],[]]:=by
 by_cases h0:0≤k
 ·obtain⟨m,rfl⟩:=Int.eq_ofNat_of_zero_le h0
  by_cases h8:0≤pl
  ·obtain⟨q,rfl⟩:=Int.eq_ofNat_of_zero_le h8
   refine oQ ?_
   conv=>whnf
   refine g 0 0 []<|J UA<|g 11 12 [.call (V.own pkd (List.map bh xs)) [[]]]<|J (QA @dK)<|Ws ?_
   by_cases h1:List.length xs≤(2000:Nat)∧(0:Int)≤(↑m:Int)∧(↑m:Int) < (↑(List.length xs):Int)
   by_cases h2:ma < (0:Int)
   refine g 12 34 (.call (V.b (decide (xs.length≤2000∧0≤(m:Int)∧(m:Int) < (↑xs.length:Int)))) [[],[]]::BF::BF::BF::(RL 12 BT []))<|J (QA @bP)<|Wc<|J (fun _=>(g 34 36 []<|J UB (RT ?_))) (noF rfl)
   rotate_left
   obtain⟨y1,hy1⟩:=ae (xs:=xs) (n:=m) OM
   have hm1:=hs y1 (List.mem_of_getElem? hy1)
   refine g 12 34 (.call (V.b (decide (xs.length≤2000∧0≤(m:Int)∧(m:Int) < (↑xs.length:Int)))) [[],[]]::(RL 10 BF [.x (bh y1),BF,BF,BF,BF,BF]))<|J (QA @bP)<|Wc<|JD (fun h3=>?_) fun h3=>?_
   refine g 34 36 []<|J UB<|RT ?_
   rotate_left
   refine Wk<|g 34 42 [.x (bh y1)]<|J QZ ?_
   obtain⟨y2,hy2,hb1⟩:=bB (s:=Parcel.text y1) (n:=q) OM
   refine g 43 53 [.n (q),.x ([T.v (Value.int IntKind.u8 (↑(UInt8.toNat y2):Int))]),.i (Int.tmod ma 256),.i (IntKind.wrap IntKind.u8 (Int.tmod ma 256)),.i (IntKind.wrap IntKind.u8 (↑(BitVec.toNat (BitVec.ofInt (IntKind.bits IntKind.u8) (↑(UInt8.toNat y2):Int) ^^^ BitVec.ofInt (IntKind.bits IntKind.u8) (IntKind.wrap IntKind.u8 (Int.tmod ma 256)))):Int)),.n (q),.x ([T.v (Value.int IntKind.u8 (↑(UInt8.toNat y2):Int))])]<|J QZ<|g 53 59 [.s ({data:=List.toArray (bV (List.set (cL y1.text) q (aM [T.v (Value.int IntKind.u8 (↑(UInt8.toNat y2):Int))] 0 [T.v (Value.int IntKind.u8 (IntKind.wrap IntKind.u8 (↑(BitVec.toNat (BitVec.ofInt (IntKind.bits IntKind.u8) (↑(UInt8.toNat y2):Int) ^^^ BitVec.ofInt (IntKind.bits IntKind.u8) (IntKind.wrap IntKind.u8 (Int.tmod ma 256)))):Int)))]))):ByteArray}),.n (m),.x (bh y1)]<|J ⟨I,I,I,⟨I,Gr (jS _),rfl⟩,Zan,I,⟨UA,xA⟩,I⟩<|g 0 4 []<|J UB<|RT ?_
   rotate_left
   refine g 12 34 (.call (V.b (decide (xs.length≤2000∧0≤(m:Int)∧(m:Int) < (↑xs.length:Int)))) [[],[]]::(RL 15 BT []))<|J (QA @bP)<|Wc<|J (fun _=>(g 34 36 []<|J UB (RT ?_))) (noF rfl)
   rotate_left
   all_goals (first|rw[qQ OM]|rw[Ld AS OM]|exact congrArg (V.own pkd) (Lc OM AS AS)|skip)
  ·skip
   refine oQ ?_
   conv=>whnf
   refine g 0 0 []<|J UA<|g 11 12 [.call (V.own pkd (List.map bh xs)) [[]]]<|J (QA @dK)<|Ws ?_
   by_cases h1:List.length xs≤(2000:Nat)∧(0:Int)≤(↑m:Int)∧(↑m:Int) < (↑(List.length xs):Int)
   by_cases h2:ma < (0:Int)
   refine g 12 34 (.call (V.b (decide (xs.length≤2000∧0≤(m:Int)∧(m:Int) < (↑xs.length:Int)))) [[],[]]::BF::BF::BF::(RL 12 BT []))<|J (QA @bP)<|Wc<|J (fun _=>(g 34 36 []<|J UB (RT ?_))) (noF rfl)
   rotate_left
   refine g 12 34 (.call (V.b (decide (xs.length≤2000∧0≤(m:Int)∧(m:Int) < (↑xs.length:Int)))) [[],[]]::(RL 6 BF (RL 9 BT [])))<|J (QA @bP)<|Wc<|J (fun _=>(g 34 36 []<|J UB (RT ?_))) (noF rfl)
   rotate_left
   refine g 12 34 (.call (V.b (decide (xs.length≤2000∧0≤(m:Int)∧(m:Int) < (↑xs.length:Int)))) [[],[]]::(RL 15 BT []))<|J (QA @bP)<|Wc<|J (fun _=>(g 34 36 []<|J UB (RT ?_))) (noF rfl)
   rotate_left
   all_goals rw[qQ OM]
 ·skip
  refine oQ ?_
  conv=>whnf
  refine g 0 0 []<|J UA<|g 11 12 [.call (V.own pkd (List.map bh xs)) [[]]]<|J (QA @dK)<|Ws<|g 12 34 (.call (V.b (decide (xs.length≤2000∧0≤k∧k < (↑xs.length:Int)))) [[],[]]::(RL 15 BT []))<|J (QA @bP)<|Wc<|J (fun _=>(g 34 36 []<|J UB (RT ?_))) (noF rfl)
  all_goals rw[qQ OM]
theorem JQ(xs:List Parcel)(k pl ma:Int)(hl:xs.length≤1048576)(hs:∀ p∈xs,p.text.size≤1048576):F Jk [.val (.t (xw xs)),.val (.i k),.val (.i pl),.val (.i ma)] (.own pkd ((sD xs k pl ma).map bh)) [[],[],[],[]]:=by
 by_cases h0:0≤k
 ·obtain⟨m,rfl⟩:=Int.eq_ofNat_of_zero_le h0
  by_cases h8:0≤pl
  ·obtain⟨q,rfl⟩:=Int.eq_ofNat_of_zero_le h8
   refine oT ?_
   conv=>whnf
   refine g 0 0 []<|J UA<|g 11 13 [.call (V.own pkd (List.map bh xs)) [[]]]<|J (QA @dM)<|Ws ?_
   by_cases h1:List.length xs≤(2000:Nat)∧(0:Int)≤(↑m:Int)∧(↑m:Int) < (↑(List.length xs):Int)
   obtain⟨y1,hy1⟩:=ae (xs:=xs) (n:=m) OM
   have hm1:=hs y1 (List.mem_of_getElem? hy1)
   by_cases h2:(0:Int)≤(↑q:Int)∧(↑q:Int)≤(↑(ByteArray.size (Parcel.text y1)):Int) - (1:Int)
   refine g 13 30 [.call (V.b (decide (xs.length≤2000∧0≤(m:Int)∧(m:Int) < (↑xs.length:Int)))) [[],[]],BT,BT,BT,BT,.n (m),BT,BT,.x (bh y1),BT,BT,.i ((↑(ByteArray.size y1.text):Int) - 1),BT,.call (V.b (decide (0≤(q:Int)∧(q:Int)≤(↑(ByteArray.size y1.text):Int) - 1))) [[],[],[]],BT,BT,BT,BT]<|J (QB @da @ah)<|Wc<|JD (fun h3=>?_) fun h3=>?_
   refine g 30 37 [.n (m),.x (bh y1)]<|J QZ ?_
   obtain⟨y2,hy2,hb1⟩:=bB (s:=Parcel.text y1) (n:=q) OM
   refine g 37 42 [.n (q),.x ([T.v (Value.int IntKind.u8 (↑(UInt8.toNat y2):Int))]),.i (Int.tmod ma 256),.i (IntKind.wrap IntKind.u8 (Int.tmod ma 256)),.i (IntKind.wrap IntKind.u8 (↑(BitVec.toNat (BitVec.ofInt (IntKind.bits IntKind.u8) (↑(UInt8.toNat y2):Int) ^^^ BitVec.ofInt (IntKind.bits IntKind.u8) (IntKind.wrap IntKind.u8 (Int.tmod ma 256)))):Int)),.n (q),.x ([T.v (Value.int IntKind.u8 (↑(UInt8.toNat y2):Int))])]<|J QZ<|rg [.s ({data:=List.toArray (bV (List.set (cL y1.text) q (aM [T.v (Value.int IntKind.u8 (↑(UInt8.toNat y2):Int))] 0 [T.v (Value.int IntKind.u8 (IntKind.wrap IntKind.u8 (↑(BitVec.toNat (BitVec.ofInt (IntKind.bits IntKind.u8) (↑(UInt8.toNat y2):Int) ^^^ BitVec.ofInt (IntKind.bits IntKind.u8) (IntKind.wrap IntKind.u8 (Int.tmod ma 256)))):Int)))]))):ByteArray}),.n (m),.x (bh y1)]<|J ⟨I,I,I,⟨I,Gr (jS _),rfl⟩,Zan,I,⟨UA,xA⟩,I⟩<|g 43 53 []<|J UB<|RT ?_
   rotate_left
   refine Wk<|g 0 4 []<|J UB<|RT ?_
   rotate_left
   refine g 13 30 [.call (V.b (decide (xs.length≤2000∧0≤(m:Int)∧(m:Int) < (↑xs.length:Int)))) [[],[]],BT,BT,BT,BT,.n (m),BT,BT,.x (bh y1),BT,BT,.i ((↑(ByteArray.size y1.text):Int) - 1),BT,.call (V.b (decide (0≤(q:Int)∧(q:Int)≤(↑(ByteArray.size y1.text):Int) - 1))) [[],[],[]],BT,BF,BF,BF]<|J (QB @da @ah)<|Wc<|J (noT rfl) fun _=>Wk<|g 0 4 []<|J UB<|RT ?_
   rotate_left
   refine g 13 30 (.call (V.b (decide (xs.length≤2000∧0≤(m:Int)∧(m:Int) < (↑xs.length:Int)))) [[],[]]::(RL 13 BF []))<|J (QA @da)<|Wc<|J (noT rfl) fun _=>Wk<|g 0 4 []<|J UB<|RT ?_
   rotate_left
   all_goals (first|rw[qQ OM]|rw[Ld AS OM]|exact congrArg (V.own pkd) (Lc OM AS AS)|skip)
  ·skip
   refine oT ?_
   conv=>whnf
   refine g 0 0 []<|J UA<|g 11 13 [.call (V.own pkd (List.map bh xs)) [[]]]<|J (QA @dM)<|Ws ?_
   by_cases h1:List.length xs≤(2000:Nat)∧(0:Int)≤(↑m:Int)∧(↑m:Int) < (↑(List.length xs):Int)
   obtain⟨y1,hy1⟩:=ae (xs:=xs) (n:=m) OM
   have hm1:=hs y1 (List.mem_of_getElem? hy1)
   refine g 13 30 [.call (V.b (decide (xs.length≤2000∧0≤(m:Int)∧(m:Int) < (↑xs.length:Int)))) [[],[]],BT,BT,BT,BT,.n (m),BT,BT,.x (bh y1),BT,BT,.i ((↑(ByteArray.size y1.text):Int) - 1),BT,.call (V.b (decide (0≤pl∧pl≤(↑(ByteArray.size y1.text):Int) - 1))) [[],[],[]],BT,BF,BF,BF]<|J (QB @da @ah)<|Wc<|J (noT rfl) fun _=>Wk<|g 0 4 []<|J UB<|RT ?_
   rotate_left
   refine g 13 30 (.call (V.b (decide (xs.length≤2000∧0≤(m:Int)∧(m:Int) < (↑xs.length:Int)))) [[],[]]::(RL 13 BF []))<|J (QA @da)<|Wc<|J (noT rfl) fun _=>Wk<|g 0 4 []<|J UB<|RT ?_
   rotate_left
   all_goals rw[qQ OM]
 ·skip
  refine oT ?_
  conv=>whnf
  refine g 0 0 []<|J UA<|g 11 13 [.call (V.own pkd (List.map bh xs)) [[]]]<|J (QA @dM)<|Ws<|g 13 30 (.call (V.b (decide (xs.length≤2000∧0≤k∧k < (↑xs.length:Int)))) [[],[]]::(RL 13 BF []))<|J (QA @da)<|Wc<|J (noT rfl) fun _=>Wk<|g 0 4 []<|J UB<|RT ?_
  all_goals rw[qQ OM]
theorem Tv(xs:List Parcel)(k pl ma:Int):(sD xs k pl ma).length = xs.length:=by
 unfold sD;split
 ·split
  ·rw[List.length_set]
  ·rfl
 ·rfl
end Go.K
end
section
open Go Go.Tm Go.Proofs
namespace Go.K
structure Event where
 kind:Int
 a:Int
 b:Int
 c:Int
 deriving DecidableEq
abbrev Un(x:Event):List T:=[.i x.kind,.i x.a,.i x.b,.i x.c]
abbrev IC(x:Event):V:=.agg [.t (.i x.kind),.t (.i x.a),.t (.i x.b),.t (.i x.c)]
abbrev lI(x:Event):V:=.agg [.t (.i x.kind),.t (.i x.a),.t (.i x.b),.t (.i x.c)]
abbrev Zs:List Bool:=[false,false,false,false]
abbrev Xd:Event:=⟨0,0,0,0⟩
def jE(ws:List Worker)(k:Int):Worker:=(ws[k.toNat]?).getD fv
def aam:Parcel:=⟨0,emp,emp⟩
def Mk(xs:List Parcel)(k:Int):Parcel:=(xs[k.toNat]?).getD aam
noncomputable def jj(p:Plan)(ws:List Worker)(n:Nat):List Message:=((ws.take n).map fun x=>(gb x p).out).flatten
noncomputable def iv(w:World):World :=
 if 1000000≤w.boss.now then w else
 ⟨w.plan,w.key,(pW w.boss w.plan).boss,w.workers.map (fun x=>(gb x w.plan).worker),rY w.flight ((pW w.boss w.plan).out++jj w.plan w.workers w.workers.length) w.key,w.forged⟩
def du(w:World)(fl:List Parcel):World:=⟨w.plan,w.key,w.boss,w.workers,fl,w.forged⟩
def A0(w:World)(b:Boss):World:=⟨w.plan,w.key,b,w.workers,w.flight,w.forged⟩
def H7(w:World)(k:Int)(x:Worker):World:=⟨w.plan,w.key,w.boss,w.workers.set (k - 1).toNat x,w.flight,w.forged⟩
open Classical in
noncomputable def QE(w:World)(s:Parcel):World:=⟨w.plan,w.key,w.boss,w.workers,w.flight,if ¬s.text = s.frm∧w.forged = emp then s.text else w.forged⟩
def n6(w:World)(k:Int):Prop:=1≤k∧k≤w.workers.length
instance (w:World) (k:Int):Decidable (n6 w k):=by unfold n6;infer_instance
noncomputable def cG(w:World)(s:Parcel):World :=
 match eG s.text w.key with
 |none=>w
 |some m =>
  if s.kind = 0 then A0 (QE w s) (E7 w.boss w.plan m).boss
  else if n6 w s.kind then H7 (QE w s) s.kind (xV (jE w.workers (s.kind - 1)) w.plan m).worker
  else QE w s
def Iw(w:World)(k:Int):Prop:=w.flight.length≤2000∧0≤k∧k < w.flight.length
instance (w:World) (k:Int):Decidable (Iw w k):=by unfold Iw;infer_instance
noncomputable def eK(w:World)(k:Int):World:=if Iw w k then cG (du w (cF w.flight k)) (Mk w.flight k)else w
noncomputable def doW(w:World)(e:Event):World :=
 if e.kind = 1 then iv w
 else if e.kind = 2 then eK w e.a
 else if e.kind = 3 then du w (sy w.flight e.a)
 else if e.kind = 4 then du w (cF w.flight e.a)
 else if e.kind = 5 then du w (sD w.flight e.a e.b e.c)
 else if e.kind = 6 then(if e.a = 0 then A0 w (sE w.boss w.plan e.b)else if n6 w e.a then H7 w e.a (mB (jE w.workers (e.a - 1)))else w)
 else if e.kind = 7 then(if e.a = 0 then A0 w (jR w.boss w.plan)else if n6 w e.a then H7 w e.a (mz (jE w.workers (e.a - 1)))else w)
 else w
theorem Cb{w:World}{b:Boss}(h:WorldOk w)(hb:BossOk b w.plan)(hw:b.workers = w.boss.workers):WorldOk (A0 w b):=⟨h.plan,h.key,h.wl,h.fl,h.crew,h.par,hb,by show b.workers = _;rw[hw];exact h.same⟩
theorem Sk{w:World}{s:Parcel}(h:WorldOk w):WorldOk (QE w s):=⟨h.plan,h.key,h.wl,h.fl,h.crew,h.par,h.boss,h.same⟩
theorem jk{w:World}{fl:List Parcel}(h:WorldOk w)(h1:fl.length≤2000)(h2:∀ x∈fl,ParOk x):WorldOk (du w fl):=⟨h.plan,h.key,h.wl,h1,h.crew,h2,h.boss,h.same⟩
theorem wB{w:World}{k:Int}(h:WorldOk w)(hk:n6 w k):∃ x,w.workers[(k - 1).toNat]? = some x∧jE w.workers (k - 1) = x∧au x∧x.number = k:=by
 obtain⟨k1,k2⟩:=hk
 obtain⟨x,hx⟩:=ae (xs:=w.workers) (n:=(k - 1).toNat) OM
 have hc:=h.crew (k - 1).toNat x OM hx
 exact⟨x,hx,by unfold jE;rw[hx];rfl,hc.ok,by rw[hc.num];omega⟩
theorem Ca{w:World}{k:Int}{x y:Worker}(h:WorldOk w)(hk:n6 w k)(hx:au y)(hn:y.number = k):WorldOk (H7 w k y):=by
 refine⟨h.plan,h.key,by show 1≤(w.workers.set _ _).length∧_;rw[List.length_set];exact⟨h.wl.1,by show(w.workers.set _ _).length≤8;rw[List.length_set];exact h.wl.2⟩,h.fl,?_,h.par,h.boss,by show w.boss.workers = ((w.workers.set _ _).length:Int);rw[List.length_set];exact h.same⟩
 intro i z hi hz
 obtain⟨k1,k2⟩:=hk
 change (w.workers.set (k - 1).toNat y)[i]? = some z at hz
 by_cases e:i = (k - 1).toNat
 ·subst e
  rw[List.getElem?_set_self OM]at hz
  cases hz
  exact⟨hx,by rw[hn];omega⟩
 ·rw[List.getElem?_set_ne (fun q=>e q.symm)]at hz
  exact h.crew i z (by have:=(List.getElem?_eq_some_iff.1 hz).1;exact this) hz
theorem ul{xs:List Parcel}{k:Int}{x:Parcel}(h:x∈cF xs k):x∈xs:=by
 unfold cF at h;split at h
 ·rcases List.mem_append.1 h with h|h
  ·exact List.mem_of_mem_take h
  ·exact List.mem_of_mem_drop h
 ·exact h
theorem BC(xs:List Parcel)(k:Int):(cF xs k).length≤xs.length:=by
 unfold cF;split
 ·simp only[List.length_append,List.length_take,List.length_drop];omega
 ·exact Nat.le_refl _
theorem Xy{xs:List Parcel}{k:Int}{x:Parcel}(h:x∈sy xs k):x∈xs:=by
 unfold sy at h;split at h
 ·rcases List.mem_append.1 h with h|h
  ·exact h
  ·cases hy:xs[k.toNat]? with
   |none=>rw[hy]at h;cases h
   |some y =>
    rw[hy]at h
    rw[List.mem_singleton.1 h]
    exact List.mem_of_getElem? hy
 ·exact h
theorem Zt{xs:List Parcel}{k:Int}(hx:xs.length≤2000):(sy xs k).length≤2000:=by
 unfold sy;split
 ·rename_i q
  rw[List.length_append]
  have:((xs[k.toNat]?).toList).length≤1:=by cases xs[k.toNat]? <;> simp
  omega
 ·exact hx
end Go.K
end
section
open Go Go.Tm Go.Proofs
namespace Go.K
theorem Tt(t:ByteArray)(q:Nat)(c:UInt8)(ma:Int):(XF t q c ma).size = t.size:=by
 unfold XF
 show((bV _).toArray).size = _
 simp[bV,gI]
theorem Tu{xs:List Parcel}{k pl ma:Int}{x:Parcel}(hx:∀ y∈xs,ParOk y)(h:x∈sD xs k pl ma):ParOk x:=by
 unfold sD at h;split at h
 ·cases hy:xs[k.toNat]? with
  |none=>rw[hy]at h;exact hx x h
  |some y =>
   rw[hy]at h
   rcases List.mem_or_eq_of_mem_set h with h|h
   ·exact hx x h
   ·have hp:=hx y (List.mem_of_getElem? hy)
    rw[h];unfold YW
    split
    ·exact⟨hp.to,hp.sent,by show(XF _ _ _ _).size≤500;rw[Tt];exact hp.bytes⟩
    ·exact hp
 ·exact hx x h
theorem oU{m:Message}{key:ByteArray}(h:bL m):(dR m key).size≤500:=by
 unfold dR;split
 ·obtain⟨h1,_,h3⟩:=dp h
  rw[ByteArray.size_append,Bd,gJ h];omega
 ·exact Nat.zero_le _
theorem SE{key:ByteArray}{acc:List Parcel}{m:Message}(h:acc.length≤2000∧∀ x∈acc,ParOk x):(rX key acc m).length≤2000∧∀ x∈rX key acc m,ParOk x:=by
 unfold rX;split
 ·rename_i q
  refine⟨by rw[List.length_append,List.length_singleton];omega,fun x hx=>?_⟩
  rcases List.mem_append.1 hx with hx|hx
  ·exact h.2 x hx
  ·rw[List.mem_singleton.1 hx]
   exact⟨(gf q.1).2.2.1,oU q.1,oU q.1⟩
 ·exact h
theorem NQ{key:ByteArray}:∀ (ms:List Message) {xs:List Parcel},(xs.length≤2000∧∀ x∈xs,ParOk x)→(ms.foldl (rX key) xs).length≤2000∧∀ x∈ms.foldl (rX key) xs,ParOk x
 |[],xs,h=>h
 |m :: ms,xs,h=>NQ ms (SE h)
theorem Ku{key:ByteArray}{ms:List Message}{xs:List Parcel}(h:xs.length≤2000∧∀ x∈xs,ParOk x):(rY xs ms key).length≤2000∧∀ x∈rY xs ms key,ParOk x:=NQ _ h
theorem LS(b:Boss)(ts:List Task):(iw b ts).boss.workers = b.workers:=by
 unfold iw;split
 ·rfl
 ·split
  ·rfl
  ·split <;> rfl
theorem MI(b:Boss)(k:Int):(lf b k).workers = b.workers:=by unfold lf;split <;> rfl
theorem Bf(b:Boss)(p:Plan):(cU b p).workers = b.workers:=by unfold cU;split <;> rfl
theorem PG(b:Boss)(m:Message):(CU b m).workers = b.workers:=by unfold CU;split <;> rfl
theorem IY(b:Boss)(ts:List Task)(m:Message):(ix b ts m).workers = b.workers:=by
 unfold ix;split
 ·split
  ·unfold yS;split <;> rfl
  ·split
   ·rfl
   ·split
    ·split
     ·rw[fq,PG,(Nz (b:=uG b ts m) (m:=m)).2,(NA (b:=b) (ts:=ts) (m:=m)).2]
     ·rfl
    ·rfl
 ·rfl
theorem Cg{w:World}(h:WorldOk w):WorldOk (iv w):=by
 unfold iv;split
 ·exact h
 ·rw[pq h.boss]
  have hp:=Ku (key:=w.key) (ms:=(iw w.boss w.plan.tasks).out++jj w.plan w.workers w.workers.length) ⟨h.fl,h.par⟩
  refine⟨h.plan,h.key,⟨by show 1≤(w.workers.map _).length;rw[List.length_map];exact h.wl.1,by show(w.workers.map _).length≤8;rw[List.length_map];exact h.wl.2⟩,hp.1,?_,hp.2,LU h.boss,by show(iw w.boss w.plan.tasks).boss.workers = ((w.workers.map _).length:Int);rw[List.length_map,LS];exact h.same⟩
  intro i y hi hy
  change (w.workers.map _)[i]? = some y at hy
  rw[List.getElem?_map]at hy
  cases hx:w.workers[i]? with
  |none=>rw[hx]at hy;cases hy
  |some x =>
   rw[hx]at hy
   have hc:=h.crew i x (List.getElem?_eq_some_iff.1 hx).1 hx
   have e:=Option.some.inj hy
   dsimp only at e
   rw[eL hc.ok h.plan]at e
   have ht:=Sp w.plan.tasks hc.ok
   rw[←e]
   exact⟨ht.1,by rw[ht.2];exact hc.num⟩
theorem wW{w:World}{s:Parcel}(h:WorldOk w):WorldOk (cG w s):=by
 unfold cG
 cases hm:eG s.text w.key with
 |none=>exact h
 |some m =>
  dsimp only
  have hg:=Sk (s:=s) h
  split
  ·rw[pt h.boss]
   exact Cb hg (LX m h.boss) (IY _ _ _)
  ·split
   ·rename_i hk
    obtain⟨x,hx,e,ok,num⟩:=wB h hk
    rw[e,eN ok h.plan]
    have ht:=Sr (ts:=w.plan.tasks) m h.plan ok
    exact Ca (x:=x) hg hk ht.1 (by rw[ht.2];exact num)
   ·exact hg
theorem Gm{w:World}(k:Int)(h:WorldOk w):WorldOk (eK w k):=by
 unfold eK;split
 ·exact wW (jk h (by have:=BC w.flight k;have:=h.fl;omega) fun x hx=>h.par x (ul hx))
 ·exact h
theorem II{w:World}(e:Event)(h:WorldOk w):WorldOk (doW w e):=by
 unfold doW
 split
 ·exact Cg h
 split
 ·exact Gm _ h
 split
 ·exact jk h (Zt h.fl) fun x hx=>h.par x (Xy hx)
 split
 ·exact jk h (by have:=BC w.flight e.a;have:=h.fl;omega) fun x hx=>h.par x (ul hx)
 split
 ·exact jk h (by rw[Tv];exact h.fl) fun x hx=>Tu h.par hx
 split
 ·split
  ·rw[CE h.boss];exact Cb h (sm _ h.boss) (MI _ _)
  ·split
   ·rename_i hk
    obtain⟨x,hx,e,ok,num⟩:=wB h hk
    rw[e]
    have ht:=S2 ok
    exact Ca (x:=x) h hk ht.1 (by rw[ht.2];exact num)
   ·exact h
 split
 ·split
  ·rw[nk h.boss];exact Cb h (rP h.boss) (Bf _ _)
  ·split
   ·rename_i hk
    obtain⟨x,hx,e,ok,num⟩:=wB h hk
    rw[e]
    have ht:=SB ok
    exact Ca (x:=x) h hk ht.1 (by rw[ht.2];exact num)
   ·exact h
 ·exact h
end Go.K
end
section
open Go Go.Tm Go.Proofs
namespace Go.K
abbrev keyY:ByteArray:=⟨#[107,101,121]⟩
theorem Kw(xs:List Parcel)(y:Parcel):xs.map bh++ [bh y] = (xs++ [y]).map bh:=by rw[List.map_append];rfl
theorem S6(l:List Int)(pos:Int)(hl:dN l)(h0:0≤pos)(h1:pos≤900000):∃ res outs,(∃ (xs:List Parcel) (pos2:Int),res = .own pkd (xs.map bh)∧outs = [rdC l pos2]∧xs.length≤2001∧(∀ x∈xs,ParOk x)∧pos≤pos2∧pos2≤pos+400)∧F C3 [.ptr (rdC l pos)] res outs:=by
 have p5:=aj l pos 5
 have ek:keyY.size = 3:=rfl
 refine CI ?_
 conv=>whnf
 refine g 0 0 []<|J UA<|g 6 7 []<|J UB<|Ws<|g 7 9 [.call (V.i (ac l pos 5)) ([rdC l (pos+1),[]])]<|J (QA @aa)<|Wb ?_
 refine Wl (fun s (x:Int×List Parcel×Int)=>⟨[(0,s.s 0),(2,s.s 2),(3,.ref ⟨3,none,0⟩),(4,.i x.1)],[(41,[.t (u8s l),.t (.i x.2.2)]),(3,[.own pkd (x.2.1.map bh)])],[]⟩) (fun(x:Int×List Parcel×Int)=>0≤x.1∧x.1≤4∧x.2.1.length≤2000∧(∀ s∈x.2.1,ParOk s)∧pos+1≤x.2.2∧x.2.2≤pos+1+50 * (4 - x.1)) (fun(x:Int×List Parcel×Int)=>x.1.toNat) ((ac l pos 5,[],pos+1)) [some 41,some 6] [] FZ ?_ ?_
 ·exact⟨p5.1,by dsimp only;omega,Nat.zero_le _,fun s hs=>(by cases hs),Int.le_refl _,by dsimp only;omega⟩
 rintro⟨n,xs,q⟩ ⟨i1,i2,i3,i4,i5,i6⟩
 dsimp only at i1 i2 i3 i4 i5 i6
 by_cases hn:0 < n
 ·have cd:=Es l q hl OM OM
  obtain⟨⟨d1,d2⟩,d3,d4⟩:=SO l q
  generalize(ng l q).1 = m at cd d1 d2
  generalize(ng l q).2 = u at cd d3 d4
  have cP:=xN xs [m] keyY OM (by show 1≤_;omega) (fun y hy=>by rw[List.mem_singleton.1 hy];exact Nat.le_trans d1.1 OM)
  obtain⟨b1,b2⟩:=Ku (key:=keyY) (ms:=[m]) ⟨i3,i4⟩
  generalize rY xs [m] keyY = ys at cP b1 b2
  conv=>whnf
  refine Ws<|g 9 10 []<|J UB<|Wc<|J (fun _=>(Wk (Ws (Wb (rg [.call (bx m) ([rdC l u]),.call (V.own pkd (List.map bh ys)) [[],[],[]]]<|J QZ (rg [.i (Prod.fst (n,xs,q) - 1)]<|J QZ ?_)))))) (noF tO)
  refine⟨(n - 1,ys,u),[some 41,some 17],[],FZ,?_,?_⟩
  rotate_left
  (dsimp only;omega)
  dsimp only
  exact⟨by omega,by omega,b1,b2,by omega,by omega⟩
 ·have p10:=aj l q 10
  by_cases k10:ac l q 10 = 0
  ·by_cases kx:0 < xs.length
   ·have p3:=aj l (q+1) 3
    obtain⟨y,hy⟩:=ae (xs:=xs) (n:=0) kx
    conv=>whnf
    refine Ws<|g 9 10 []<|J UB<|Wc<|J (noT dO) fun _=>We<|Ws<|g 4 25 [.call (V.i (ac l q 10)) ([rdC l (q+1),[]]),BT,BT,BT,BT]<|J (QA @aa)<|Wc<|J (fun _=>(g 25 30 [.call (V.i (ac l (q+1) 3)) ([rdC l (q+1+1),[]]),.i (2000+ac l (q+1) 3),.i (2000+ac l (q+1) (3:Int) - 1)]<|J (QA @aa) (Wb ?_))) (noF SI)
    refine Wl (fun s (zs:List Parcel)=>⟨[(0,s.s 0),(2,s.s 2),(3,.ref ⟨3,none,0⟩),(5,s.s 5)],[(41,[s.c 41 0,s.c 41 1]),(3,[.own pkd (zs.map bh)])],[]⟩) (fun(zs:List Parcel)=>zs.length≤2001∧zs[0]? = some y∧(∀ s∈zs,ParOk s)) (fun(zs:List Parcel)=>2001 - zs.length) (xs) [some 41,some 3] [] FZ ?_ ?_
    ·exact⟨by omega,hy,i4⟩
    rintro zs ⟨z1,z2,z3⟩
    have hyo:=z3 y (List.mem_of_getElem? z2)
    have hz0:0 < zs.length:=(List.getElem?_eq_some_iff.1 z2).1
    have ez:=Kw zs y
    have el:(zs++ [y]).length = zs.length+1:=by rw[List.length_append];rfl
    by_cases kz:(zs.length:Int) < 2000+ac l (q+1) 3 - 1
    ·conv=>whnf
     refine Ws<|g 30 33 []<|J UD<|Wc<|J (fun _=>(Wk (Wb (rg [.n (0),.x (bh y)]<|J QZ ?_)))) (noF SI)
     refine⟨zs++ [y],[some 41,some 39],[],⟨rfl,FZ,⟨FZ,⟨⟨rfl,⟨(congrArg (V.own _) (ez)),I⟩⟩,I⟩⟩,I⟩,?_,?_⟩
     rotate_left
     (dsimp only;omega)
     dsimp only
     refine⟨by omega,by rw[List.getElem?_append_left hz0];exact z2,fun s hs=>?_⟩
     rcases List.mem_append.1 hs with hs|hs
     ·exact z3 s hs
     ·rw[List.mem_singleton.1 hs];exact hyo
    ·conv=>whnf
     refine Ws<|g 30 33 []<|J UD<|Wc<|J (noT SI) fun _=>We<|g 3 41 []<|J UB<|W.ret<|EndsW.rt<|J UB ?_
     exact⟨zs,q+1+1,rfl,rfl,z1,z3,by omega,by omega⟩
   ·conv=>whnf
    refine Ws<|g 9 10 []<|J UB<|Wc<|J (noT dO) fun _=>We<|Ws<|g 4 25 [.call (V.i (ac l q 10)) ([rdC l (q+1),[]]),BT,BT,BT,BT]<|J (QA @aa)<|Wc<|J (noT SI) fun _=>Wk<|g 3 41 []<|J UB<|W.ret<|EndsW.rt<|J UB ?_
    exact⟨xs,q+1,rfl,rfl,by omega,i4,by omega,by omega⟩
  ·conv=>whnf
   refine Ws<|g 9 10 []<|J UB<|Wc<|J (noT dO) fun _=>We<|Ws<|g 4 25 [.call (V.i (ac l q 10)) ([rdC l (q+1),[]]),BF,BF,BF,BF]<|J (QA @aa)<|Wc<|J (noT rfl) fun _=>Wk<|g 3 41 []<|J UB<|W.ret<|EndsW.rt<|J UB ?_
   exact⟨xs,q+1,rfl,rfl,by omega,i4,by omega,by omega⟩
end Go.K
end
section
open Go Go.Tm Go.Proofs
namespace Go.K
theorem tZ{w:World}(h:1000000≤w.boss.now):iv w = w:=if_pos h
noncomputable def wDo(w:World)(e:Event):World:=if WorldOk w then doW w e else noWorld
end Go.K
end
section
open Go Go.Tm Go.Proofs
namespace Go.K
theorem Xb{w:World}{k:Int}(h:k < 0∨(w.flight.length:Int)≤k):¬Iw w k:=fun q=>by have:=q.2;omega
theorem tC{xs:List Parcel}{k:Int}(h:k < 0∨(xs.length:Int)≤k):cF xs k = xs:=if_neg fun q=>by have:=q.2;omega
theorem xI{xs:List Parcel}{k:Int}(h:k < 0∨(xs.length:Int)≤k):sy xs k = xs:=if_neg fun q=>by have:=q.2;omega
theorem tR{xs:List Parcel}{k pl ma:Int}(h:k < 0∨(xs.length:Int)≤k):sD xs k pl ma = xs:=if_neg fun q=>by have:=q.1.2;omega
theorem Pj{w:World}{e:Event}(h:e.kind < 1∨7 < e.kind):doW w e = w:=by
 unfold doW
 rw[if_neg OM,if_neg OM,if_neg OM,if_neg OM,if_neg OM,if_neg OM,if_neg OM]
theorem qC{w:World}{k b c:Int}(h:k < 0∨(w.flight.length:Int)≤k):doW w ⟨2,k,b,c⟩ = w:=by
 show eK w k = w
 rw[eK,if_neg (Xb h)]
theorem Ay{w:World}{k b c:Int}(h:k < 0∨(w.flight.length:Int)≤k):doW w ⟨3,k,b,c⟩ = w:=by
 show du w (sy w.flight k) = w
 rw[xI h];rfl
theorem Hm{w:World}{k b c:Int}(h:k < 0∨(w.flight.length:Int)≤k):doW w ⟨4,k,b,c⟩ = w:=by
 show du w (cF w.flight k) = w
 rw[tC h];rfl
theorem Ho{w:World}{k b c:Int}(h:k < 0∨(w.flight.length:Int)≤k):doW w ⟨5,k,b,c⟩ = w:=by
 show du w (sD w.flight k b c) = w
 rw[tR h];rfl
theorem Hn{w:World}{k b c:Int}(h0:¬k = 0)(h:¬n6 w k):doW w ⟨6,k,b,c⟩ = w:=by
 show(if k = 0 then _ else if n6 w k then _ else w) = w
 rw[if_neg h0,if_neg h]
theorem Hl{w:World}{k b c:Int}(h0:¬k = 0)(h:¬n6 w k):doW w ⟨7,k,b,c⟩ = w:=by
 show(if k = 0 then _ else if n6 w k then _ else w) = w
 rw[if_neg h0,if_neg h]
structure Keeps (b c:Boss):Prop where
 up:c.up = b.up
 res:c.results = b.results
end Go.K
end
section
open Go Go.Tm Go.Proofs
namespace Go.K
def zu(n:Nat)(a:Acted):Prop:=a.worker.inputs.length≤n∧(a.out = []∨∃ m,a.out = [m]∧m.inputs = [])
theorem rN{n:Nat}{w:Worker}{k:Int}(h:w.inputs.length≤n):zu n (E1 w k):=⟨h,.inr ⟨_,rfl,rfl⟩⟩
theorem gD{n:Nat}{w:Worker}(h:w.inputs.length≤n):zu n ⟨w,[]⟩:=⟨h,.inl rfl⟩
theorem LV(w:Worker)(ts:List Task):zu w.inputs.length (gR w ts):=by
 unfold gR
 split
 ·exact gD (Nat.le_refl _)
 split
 ·split
  ·exact⟨Nat.zero_le _,.inr ⟨_,rfl,rfl⟩⟩
  ·split
   ·exact rN (Nat.le_refl _)
   ·exact gD (Nat.le_refl _)
 split
 ·split
  ·exact rN (Nat.le_refl _)
  ·exact gD (Nat.le_refl _)
 ·split
  ·exact rN (Nat.le_refl _)
  ·exact gD (Nat.le_refl _)
theorem IU(w:Worker)(p:Plan):zu w.inputs.length (gb w p):=by
 unfold gb;split
 ·exact LV _ _
 ·exact gD (Nat.zero_le _)
end Go.K
end
section
open Go Go.Tm Go.Proofs
namespace Go.K
theorem Zv{p:Plan}(h:am p.tasks = 0):dy p:=Im (ge (pE h))
theorem Ma{s:ByteArray}{e:Entry}(h:eR s = some e):s.size≤12:=by
 have e1:=iP e
 rw[Mb h]at e1
 have hok:=kq h
 rcases hok.2.2 with⟨_,_,h3⟩|⟨_,h3⟩
 ·have:e.text.size = 0:=by rw[h3];rfl
  omega
 ·omega
theorem A7{p:Plan}{xs:List ByteArray}(h:(aw p xs).code = 0):∀ s∈xs,s.size≤12:=fun s hs=>by
 obtain⟨e,he,_⟩:=(wG h).fwd s hs
 exact Ma he
theorem Zg{b:Boss}{p:Plan}(h:BossOk b p):BossLim b:=by
 have hc:=h.code
 have hl:=(cC hc).2.1
 have hs:=A7 hc
 have hp:=(bU h.plan).1
 rw[List.length_append]at hl
 have hw:=h.workers
 cases hb:b.up with
 |true =>
  obtain⟨u1,u2,u3,u4,u5,u6,u7,u8,u9,u10,u11,u12⟩:=h.up hb
  exact⟨by omega,by omega,fun s q=>by have:=hs s q;omega,by omega,by omega,by omega,by omega⟩
 |false =>
  obtain⟨d1,d2,d3,d4,d5,d6,d7,d8⟩:=h.down hb
  exact⟨by omega,by omega,fun s q=>by have:=hs s q;omega,by omega,by omega,by omega,by omega⟩
theorem Qg{l:List ByteArray}(h:fb l):l.length≤8:=h.2
theorem LP{x:Worker}(h:au x):x.inputs.length≤8:=by
 obtain⟨_,_,_,_,h|h|h⟩:=h
 ·obtain⟨_,_,_,_,_,h,_⟩:=h;omega
 ·obtain⟨_,_,_,_,h,_⟩:=h;exact Qg h
 ·obtain⟨_,_,_,_,h,_⟩:=h;omega
structure DoLim (w:World):Prop where
 plan:dy w.plan
 small:dh w.plan
 boss:BossLim w.boss
 wl:w.workers.length≤8
 wi:∀ x∈w.workers,x.inputs.length≤8
 fl:w.flight.length≤2000
 par:∀ x∈w.flight,ParOk x
 key:w.key.size≤30
def wz(w:World):Prop:=WorldOk w∨w = noWorld
theorem jp{w:World}(h:WorldOk w):DoLim w:=by
 refine⟨Zv h.plan,pE h.plan,Zg h.boss,h.wl.2,fun x hx=>?_,h.fl,h.par,h.key⟩
 obtain⟨n,hn⟩:=List.getElem?_of_mem hx
 exact LP (h.crew n x (List.getElem?_eq_some_iff.1 hn).1 hn).ok
theorem no_dolim:DoLim noWorld:=by
 refine⟨⟨Nat.zero_le _,fun y hy=>(by cases hy)⟩,⟨Nat.zero_le _,fun y hy=>(by cases hy)⟩,⟨Nat.zero_le _,Nat.zero_le _,fun s hs=>(by cases hs),Nat.zero_le _,Nat.zero_le _,Nat.zero_le _,Nat.zero_le _⟩,Nat.zero_le _,fun y hy=>(by cases hy),Nat.zero_le _,fun y hy=>(by cases hy),Nat.zero_le _⟩
theorem cJ{w:World}(h:wz w):DoLim w:=by
 rcases h with h|rfl
 ·exact jp h
 ·exact no_dolim
theorem xH{w:World}(h:DoLim w):WorldLim w:=by
 have h1:=h.key
 have h2:=h.wl
 have h3:=h.fl
 exact⟨h.plan,h.boss,by omega,by omega,fun x hx=>by have:=h.wi x hx;omega,by omega,fun x hx=>by have a:=(h.par x hx).sent;have b:=(h.par x hx).bytes;exact⟨by omega,by omega⟩⟩
theorem HQ{b:Boss}{ts:List Task}(h:ts = []):¬BossOk b ⟨ts⟩:=fun q=>by subst h;have:=(bU q.plan).1.1;exact absurd this (by decide)
theorem py:iv noWorld = noWorld:=by
 have e:pW noWorld.boss noWorld.plan = Il:=CD (HQ rfl)
 unfold iv
 rw[if_neg (by decide),e]
 rfl
theorem iW(k:Int):eK noWorld k = noWorld:=if_neg fun q=>by have:=q.2;simp only[List.length_nil]at this;omega
theorem sw(e:Event):doW noWorld e = noWorld:=by
 unfold doW
 split
 ·exact py
 split
 ·exact iW _
 have hn:∀ k:Int,k < 0∨(([]:List Parcel).length:Int)≤k:=fun k=>by simp only[List.length_nil];omega
 split
 ·show du noWorld (sy [] e.a) = _
  rw[xI (hn _)];rfl
 split
 ·show du noWorld (cF [] e.a) = _
  rw[tC (hn _)];rfl
 split
 ·show du noWorld (sD [] e.a e.b e.c) = _
  rw[tR (hn _)];rfl
 have hx:¬n6 noWorld e.a:=fun q=>by have h1:=q.1;have h2:=q.2;simp only[List.length_nil]at h2;omega
 split
 ·split
  ·show A0 noWorld (sE iG ⟨[]⟩ e.b) = _
   rw[show sE iG ⟨[]⟩ e.b = iG from Lb (HQ rfl)];rfl
  ·first|rfl|rw[if_neg hx]
 split
 ·split
  ·show A0 noWorld (jR iG ⟨[]⟩) = _
   rw[show jR iG ⟨[]⟩ = iG from if_neg (HQ rfl)];rfl
  ·first|rfl|rw[if_neg hx]
 ·rfl
theorem FS{w:World}(h:wz w):wz (iv w):=by
 rcases h with h|rfl
 ·exact .inl (Cg h)
 ·exact .inr py
theorem nL{w:World}(k:Int)(h:wz w):wz (eK w k):=by
 rcases h with h|rfl
 ·exact .inl (Gm k h)
 ·exact .inr (iW k)
theorem Oc{w:World}(e:Event)(h:wz w):wz (doW w e):=by
 rcases h with h|rfl
 ·exact .inl (II e h)
 ·exact .inr (sw e)
theorem B6(p:Plan)(ws:List Worker):jj p ws 0 = []:=rfl
theorem B7{p:Plan}{ws:List Worker}{n:Nat}{x:Worker}(h:ws[n]? = some x):jj p ws n++ (gb x p).out = jj p ws (n+1):=by
 unfold jj;rw[List.take_add_one,h];simp
theorem pv(x:Worker)(p:Plan):(gb x p).out.length≤1∧∀ m∈(gb x p).out,m.inputs = []:=by
 rcases(IU x p).2 with e|⟨m,e,e2⟩
 ·rw[e];exact⟨Nat.zero_le _,fun m hm=>by cases hm⟩
 ·rw[e];exact⟨Nat.le_refl _,fun y hy=>by rw[List.mem_singleton.1 hy];exact e2⟩
theorem Ol{α:Type}:∀ {xs:List (List α)},(∀ x∈xs,x.length≤1)→xs.flatten.length≤xs.length
 |[],_=>Nat.le_refl _
 |x :: xs,h=>by
  have h1:=h x (List.mem_cons_self ..)
  have h2:=Ol fun y hy=>h y (List.mem_cons_of_mem x hy)
  simp only[List.flatten_cons,List.length_append,List.length_cons];omega
theorem Lh(p:Plan)(ws:List Worker)(n:Nat):(jj p ws n).length≤ws.length:=by
 have h:=Ol (xs:=(ws.take n).map fun x=>(gb x p).out) (fun y hy=>by obtain⟨x,_,rfl⟩:=List.mem_map.1 hy;exact(pv x p).1)
 have:((ws.take n).map fun x=>(gb x p).out).length≤ws.length:=by rw[List.length_map,List.length_take];omega
 exact Nat.le_trans h this
theorem Li{p:Plan}{ws:List Worker}{n:Nat}{m:Message}(h:m∈jj p ws n):m.inputs = []:=by
 obtain⟨l,hl,hm⟩:=List.mem_flatten.1 h
 obtain⟨x,_,rfl⟩:=List.mem_map.1 hl
 exact(pv x p).2 m hm
theorem Gk(b:Boss)(p:Plan):(pW b p).out.length≤2040:=by
 by_cases hv:BossOk b p
 ·rw[pq hv]
  by_cases h0:b.now = 1000000
  ·rw[tY h0];exact Nat.zero_le _
  by_cases hup:b.up = false
  ·rw[A5 h0 hup];exact Nat.zero_le _
  have hup2:b.up = true:=by cases hb:b.up;exact absurd hb hup;rfl
  obtain⟨u1,u2,u3,u4,u5,u6,⟨u7,u8⟩,⟨u9,u10⟩,u11,u12,u13,u14⟩:=hv.up hup2
  have hpl:=(bU hv.plan).1
  have hdl:∀ t∈p.tasks,t.deps.length≤8:=fun t ht=>by
   obtain⟨k,hk⟩:=List.getElem?_of_mem ht
   exact(cq hv.plan hk).2.2.1
  obtain⟨k1,k2,k3,k4,k5,k6⟩:=mn (b:=dG b) (ts:=p.tasks) hdl u9 u10 p.tasks.length
  have j3:(endH b p.tasks).out.length≤40:=by show(aK _ _ _).out.length≤_;omega
  by_cases hs:b.since+1 = 2
  ·rw[nx h0 hup hs]
   simp only[List.length_append,List.length_map];omega
  ·rw[pz h0 hup hs]
   show(endH b p.tasks).out.length≤_;omega
 ·rw[CD hv];exact Nat.zero_le _
theorem NC{w:World}(h:¬1000000≤w.boss.now):iv w = ⟨w.plan,w.key,(pW w.boss w.plan).boss,w.workers.map (fun x=>(gb x w.plan).worker),rY w.flight ((pW w.boss w.plan).out++jj w.plan w.workers w.workers.length) w.key,w.forged⟩:=if_neg h
open Classical in
noncomputable def BJ(w:World)(s:Parcel):ByteArray:=if ¬s.text = s.frm∧w.forged = emp then s.text else w.forged
theorem Oe{w:World}{s:Parcel}(h1:¬s.text = s.frm)(h2:w.forged = emp):BJ w s = s.text:=if_pos ⟨h1,h2⟩
theorem KV{w:World}{s:Parcel}(h1:s.text = s.frm):BJ w s = w.forged:=if_neg fun q=>q.1 h1
theorem KW{w:World}{s:Parcel}(h2:¬w.forged = emp):BJ w s = w.forged:=if_neg fun q=>h2 q.2
theorem Gl{w:World}{k:Int}{s:Parcel}(ha:w.flight.length≤2000∧0≤k∧k < w.flight.length)(hs:w.flight[k.toNat]? = some s):eK w k = cG (du w (cF w.flight k)) s:=by
 have e:Mk w.flight k = s:=by unfold Mk;rw[hs];rfl
 rw[eK,if_pos (show Iw w k from ha),e]
theorem La{w:World}{k:Int}(ha:¬(w.flight.length≤2000∧0≤k∧k < w.flight.length)):eK w k = w:=if_neg ha
theorem Gn{w:World}{s:Parcel}(hm:eG s.text w.key = none):cG w s = w:=by unfold cG;rw[hm]
theorem xT{w:World}{s:Parcel}{m:Message}(hm:eG s.text w.key = some m)(h0:s.kind = 0):cG w s = ⟨w.plan,w.key,(E7 w.boss w.plan m).boss,w.workers,w.flight,BJ w s⟩:=by unfold cG;rw[hm];dsimp only;rw[if_pos h0];rfl
theorem xS{w:World}{s:Parcel}{m:Message}{x:Worker}(hm:eG s.text w.key = some m)(h0:¬s.kind = 0)(hx:n6 w s.kind)(hw:w.workers[(s.kind - 1).toNat]? = some x):cG w s = ⟨w.plan,w.key,w.boss,w.workers.set (s.kind - 1).toNat (xV x w.plan m).worker,w.flight,BJ w s⟩:=by
 have e:jE w.workers (s.kind - 1) = x:=by unfold jE;rw[hw];rfl
 unfold cG;rw[hm];dsimp only;rw[if_neg h0,if_pos hx,e];rfl
theorem B2{w:World}{s:Parcel}{m:Message}(hm:eG s.text w.key = some m)(h0:¬s.kind = 0)(hx:¬n6 w s.kind):cG w s = ⟨w.plan,w.key,w.boss,w.workers,w.flight,BJ w s⟩:=by
 unfold cG;rw[hm];dsimp only;rw[if_neg h0,if_neg hx];rfl
theorem aaM{w:World}{e:Event}(h:e.kind = 1):doW w e = iv w:=by rw[doW,if_pos h]
theorem aaL{w:World}{e:Event}(h:e.kind = 2):doW w e = eK w e.a:=by rw[doW,if_neg OM,if_pos h]
theorem aaK{w:World}{e:Event}(h:e.kind = 3):doW w e = ⟨w.plan,w.key,w.boss,w.workers,sy w.flight e.a,w.forged⟩:=by rw[doW,if_neg OM,if_neg OM,if_pos h];rfl
theorem aaJ{w:World}{e:Event}(h:e.kind = 4):doW w e = ⟨w.plan,w.key,w.boss,w.workers,cF w.flight e.a,w.forged⟩:=by rw[doW,if_neg OM,if_neg OM,if_neg OM,if_pos h];rfl
theorem aaI{w:World}{e:Event}(h:e.kind = 5):doW w e = ⟨w.plan,w.key,w.boss,w.workers,sD w.flight e.a e.b e.c,w.forged⟩:=by rw[doW,if_neg OM,if_neg OM,if_neg OM,if_neg OM,if_pos h];rfl
theorem Z1{w:World}{e:Event}(h:e.kind = 6):doW w e = if e.a = 0 then A0 w (sE w.boss w.plan e.b)else if n6 w e.a then H7 w e.a (mB (jE w.workers (e.a - 1)))else w:=by rw[doW,if_neg OM,if_neg OM,if_neg OM,if_neg OM,if_neg OM,if_pos h]
theorem Z0{w:World}{e:Event}(h:e.kind = 7):doW w e = if e.a = 0 then A0 w (jR w.boss w.plan)else if n6 w e.a then H7 w e.a (mz (jE w.workers (e.a - 1)))else w:=by rw[doW,if_neg OM,if_neg OM,if_neg OM,if_neg OM,if_neg OM,if_neg OM,if_pos h]
theorem YR{w:World}{e:Event}(h:e.kind = 6)(h0:e.a = 0):doW w e = ⟨w.plan,w.key,sE w.boss w.plan e.b,w.workers,w.flight,w.forged⟩:=by rw[Z1 h,if_pos h0];rfl
theorem YO{w:World}{e:Event}(h:e.kind = 7)(h0:e.a = 0):doW w e = ⟨w.plan,w.key,jR w.boss w.plan,w.workers,w.flight,w.forged⟩:=by rw[Z0 h,if_pos h0];rfl
theorem YP{w:World}{e:Event}{x:Worker}(h:e.kind = 6)(hx:n6 w e.a)(hw:w.workers[(e.a - 1).toNat]? = some x):doW w e = ⟨w.plan,w.key,w.boss,w.workers.set (e.a - 1).toNat (mB x),w.flight,w.forged⟩:=by
 have e1:jE w.workers (e.a - 1) = x:=by unfold jE;rw[hw];rfl
 rw[Z1 h,if_neg (by have:=hx.1;omega),if_pos hx,e1];rfl
theorem YM{w:World}{e:Event}{x:Worker}(h:e.kind = 7)(hx:n6 w e.a)(hw:w.workers[(e.a - 1).toNat]? = some x):doW w e = ⟨w.plan,w.key,w.boss,w.workers.set (e.a - 1).toNat (mz x),w.flight,w.forged⟩:=by
 have e1:jE w.workers (e.a - 1) = x:=by unfold jE;rw[hw];rfl
 rw[Z0 h,if_neg (by have:=hx.1;omega),if_pos hx,e1];rfl
theorem YQ{w:World}{e:Event}(h:e.kind = 6)(h0:¬e.a = 0)(hx:¬n6 w e.a):doW w e = w:=by rw[Z1 h,if_neg h0,if_neg hx]
theorem YN{w:World}{e:Event}(h:e.kind = 7)(h0:¬e.a = 0)(hx:¬n6 w e.a):doW w e = w:=by rw[Z0 h,if_neg h0,if_neg hx]
abbrev CM(p:Plan)(key:ByteArray)(b:Boss)(ws:List (List T))(fl:List Parcel)(f:ByteArray):V:=.agg [.own cY (p.tasks.map ay),.t (.s key),.t (.i b.workers),.t (.b b.up),.t (.i b.now),.t (.i b.since),.t (.i b.epoch),.t (.i b.given),.own [false] (b.log.safe.map ai),.own [false] (b.log.loose.map ai),.own [false] (b.results.map ai),.own dU (b.jobs.map aI),.own bJ (b.seats.map aE),.own bK (b.owed.map aJ),.own cz ws,.own pkd (fl.map bh),.t (.s f)]
theorem fY{xs:List Worker}{n:Nat}{x:Worker}:(xs.map ag).set n (ag x) = (xs.set n x).map ag:=by rw[←List.map_set]
theorem kj(p:Plan)(key:ByteArray)(b:Boss)(ws:List Worker)(n:Nat)(y:Worker)(fl:List Parcel)(f:ByteArray):CM p key b ((ws.map ag).set n (ag y)) fl f = ax ⟨p,key,b,ws.set n y,fl,f⟩:=by
 show CM p key b _ fl f = CM p key b ((ws.set n y).map ag) fl f
 rw[fY]
theorem kB(p:Plan)(key:ByteArray)(b:Boss)(ws:List Worker)(n:Nat)(y:Worker)(fl:List Parcel)(f:ByteArray)(os:List (List V)):cellsOf (CM p key b ((ws.map ag).set n (ag y)) fl f) :: os = cellsOf (ax ⟨p,key,b,ws.set n y,fl,f⟩) :: os:=by rw[kj]
end Go.K
end
section
open Go Go.Tm Go.Proofs
namespace Go.K
theorem ue{b:Boss}{m:Message}(h:Owes b m):CU b m = ⟨b.workers,b.up,b.now,b.since,b.epoch,b.given,b.log,b.results,b.jobs,b.seats,b.owed++ [⟨m.frm,m.lease,m.task⟩]⟩:=if_pos h
theorem ic{b:Boss}{m:Message}(h:¬Owes b m):CU b m = b:=if_neg h
theorem VN{rs:List ByteArray}{k:Int}{v:ByteArray}(h:k.toNat < rs.length):atS (rs.set k.toNat v) k = v:=by
 unfold atS;rw[List.getElem?_set_self h];rfl
theorem NK{b:Boss}{ts:List Task}{m:Message}(h:CanPut b ts m)(hk:m.task.toNat < b.results.length)(ht:¬m.text = emp):fq b ts m = CU (nB b m) m:=by
 have e1:uG b ts m = nB b m:=if_pos h
 have e2:FA (nB b m) m = nB b m:=if_neg (by rw[show(nB b m).results = b.results.set m.task.toNat m.text from rfl,VN hk];exact ht)
 rw[fq,e1,e2]
theorem NL{b:Boss}{ts:List Task}{m:Message}(h:¬CanPut b ts m)(hy:atS b.results m.task = emp)(ht:¬m.text = emp):fq b ts m = nN b m:=by
 have e1:uG b ts m = b:=if_neg h
 have e2:FA b m = nN b m:=if_pos hy
 have e3:(nN b m).results = b.results:=by unfold nN;split <;> rfl
 rw[fq,e1,e2,ic]
 intro q
 have:=q.same
 rw[e3,hy]at this
 exact ht this.symm
theorem Kj{b:Boss}{ts:List Task}{m:Message}(hy:¬atS b.results m.task = emp):fq b ts m = CU b m:=by
 have e1:uG b ts m = b:=if_neg fun q=>hy q.res
 have e2:FA b m = b:=if_neg hy
 rw[fq,e1,e2]
theorem Kr{b:Boss}{ts:List Task}{m:Message}(hk:m.task.toNat < b.results.length)(h1:b.owed.length < 2000)(h2:∀ o∈b.owed,¬(o.worker = m.frm∧o.lease = m.lease)):Owes (nB b m) m:=⟨VN hk,h1,h2⟩
theorem ui{xs:List Owed}{m:Message}{n:Nat}{o:Owed}(h:xs[n]? = some o)(ho:o.worker = m.frm∧o.lease = m.lease):¬∀ o∈xs,¬(o.worker = m.frm∧o.lease = m.lease):=fun q=>q o (List.mem_of_getElem? h) ho
theorem ut{b:Boss}{m:Message}(h:tu b m):nN b m = b:=if_pos h
theorem ni{b:Boss}{m:Message}(h:¬tu b m):nN b m = ⟨b.workers,b.up,b.now,b.since,b.epoch,b.given,b.log,b.results,b.jobs,b.seats.set (gE m) ⟨true,m.epoch⟩,b.owed⟩:=if_neg h
theorem KT{b:Boss}{m:Message}(h:tu b m):yS b m = b:=if_pos h
theorem KU{b:Boss}{m:Message}(h:¬tu b m):yS b m = ⟨b.workers,b.up,b.now,b.since,b.epoch,b.given,b.log,b.results,b.jobs.map (nM m.frm),b.seats.set (gE m) ⟨true,m.epoch⟩,b.owed⟩:=if_neg h
theorem Ij{b:Boss}{m:Message}{x:Seat}(h:b.seats[gE m]? = some x):tu b m↔m.epoch < x.epoch:=by unfold tu;rw[m7,h];exact Iff.rfl
structure ResIn (b:Boss) (ts:List Task) (m:Message):Prop where
 chk:am ts = 0
 res:b.results.length = ts.length
 jobs:b.jobs.length = ts.length
 task:0≤m.task∧m.task < ts.length
 safe:b.log.safe.length≤1048576
 loose:b.log.loose.length≤1048576
 owed:b.owed.length≤1048576
 seats:b.seats.length≤8
 frm:1≤m.frm∧m.frm≤b.seats.length
 text:(m.text.size:Int) = 8
theorem rH(b:Boss)(p:Plan)(m:Message)(h:ResIn b p.tasks m):F rm [.ptr (cellsOf (aF b)),.val (cV p),.val (eS m),.rel 0 (some (10,gE m,2)) 0] (.tup []) [cellsOf (aF (fq b p.tasks m)),[],[],[]]:=by
 obtain⟨hck,u3,u4,⟨t1,t2⟩,l1,l2,l3,l4,⟨f1,f2⟩,tx⟩:=h
 have hpl:=(bU hck).1
 have hsi:gE m < b.seats.length:=by unfold gE;omega
 have hkr:m.task.toNat < b.results.length:=by omega
 have hte:¬m.text = emp:=fun q=>by rw[q]at tx;cases tx
 obtain⟨x,hx⟩:=ae hsi
 have hold:=Ij hx
 obtain⟨t,ht0⟩:=ae (xs:=p.tasks) (n:=m.task.toNat) OM
 obtain⟨y,hy0⟩:=ae (xs:=b.results) (n:=m.task.toNat) OM
 obtain⟨j,hj0⟩:=ae (xs:=b.jobs) (n:=m.task.toNat) OM
 have hya:=kP hy0
 obtain⟨_,_,a3,a4⟩:=cq hck ht0
 have crd:=jP b.results t.deps (fun d hd=>by have:=a4 d hd;omega) OM
 have cf:=my 2 b.epoch m.task m.text OM
 rw[Oi]at cf
 by_cases hA:y = emp
 ·by_cases hP:CanPut b p.tasks m
  ·have hF:de b.results t.deps:=by have:=hP.ready;rw[eu ht0]at this;exact this
   have hR:=hP.room
   rw[decide_eq_true hF]at crd
   rw[NK hP hkr hte]
   by_cases hO:b.owed.length < 2000
   ·refine bH ?_
    conv=>whnf
    refine g 0 0 []<|J QZ<|g 11 13 []<|J UC<|Ws<|gd 13 49 [[],[],[],[],[],[.n (Int.toNat m.task)],[.x (ai y)],[],[],[BT],[BT],[BT],[BT],[BT],[BT],[BT],[BT,.x (ay t)],[BT],[BT],[BT,.call VT [[],[]]],[BT],[],[BT],[BT],[BT],[BT],[BT],[BT],[BT],[BT],[BT],[BT],[BT],[BT],[BT,.i ((↑(List.length (List.map ai b.log.safe)):Int) + (↑(List.length (List.map ai b.log.loose)):Int))],[BT],[BT]] ?_
    conv=>whnf
    refine J QZ<|J KR<|Wc<|JD (fun h1=>?_) fun h1=>?_
    simp only[LM]at h1
    refine gd 49 58 [[],[],[],[],[],[],[],[.n (Int.toNat m.task)],[.x (ai y)]] ?_
    conv=>whnf
    refine J QZ<|J KR<|gd 58 78 [[],[],[],[],[],[],[],[],[],[],[],[],[],[],[.call (V.s (bT {kind:=2,epoch:=b.epoch,task:=m.task,text:=m.text:Entry})) [[]]],[],[],[],[],[],[]] ?_
    conv=>whnf
    refine J QZ<|J KR<|rg [.n (Int.toNat m.task),.x (aI j)]<|J QZ<|Ws<|gd 78 101 [[],[],[],[],[],[.n (Int.toNat m.task)],[.x (aM (ai y) 0 [T.v (Value.string m.text)])],[],[],[BF],[BF],[BF],[BF],[BF],[BF],[BF],[BF]] ?_
    conv=>whnf
    refine J QZ<|J KR<|Wc<|J (noT rfl) fun _=>Wk<|Ws<|gd 101 124 [[],[],[],[],[],[.n (Int.toNat m.task)],[.x (aM (ai y) 0 [T.v (Value.string m.text)])],[],[],[],[],[BF],[BF],[BF],[BF],[BF],[BF],[BF]] ?_
    conv=>whnf
    refine J QZ<|J KR<|Wc<|J (fun h2=>?_) fun h2=>?_
    replace h2:=dt h2
    simp only[LM]at h2
    omega
    replace h2:=df h2
    simp only[LM]at h2
    refine Wk<|Ws<|g 124 128 []<|J UF<|Wb ?_
    rotate_left
    simp only[LM]at h1
    omega
    refine Wl (fun s (n:Nat)=>⟨(SK s [0,1,2,5,6,8,128,129] [(130,.i n)]),[(162,(CK s 162 0 12 [])),(5,[s.c 5 0]),(6,(CK s 6 0 8 []))],[]⟩) (fun(n:Nat)=>n≤b.owed.length∧∀ o∈b.owed.take n,¬(o.worker = m.frm∧o.lease = m.lease)) (fun(n:Nat)=>b.owed.length - n) (0) [some 162,some 5,some 6] [] FZ (by simp) ?_
    rintro n ⟨hn,hc⟩
    by_cases hn2:n < b.owed.length
    ·obtain⟨o,ho⟩:=ae hn2
     by_cases hw:o.worker = m.frm
     ·by_cases hl:o.lease = m.lease
      ·rw[ic (b:=nB b m) (fun q=>ui ho ⟨hw,hl⟩ q.new)]
       conv=>whnf
       refine g 0 0 []<|J UA<|Ws<|Wc<|J (fun _=>(Wk (Ws (Wb (g 131 134 [.n (n),.x (aJ o)]<|J QZ (g 134 145 (RL 6 BT [])<|J QZ (Wc<|J (fun _=>(W.ret (EndsW.rt<|J I<|J ?_ ?_))) (noF tO)))))))) (noF SI)
       rfl
       all_goals (simp only[nB,aF,cellsOf,List.map_set,List.map_append,List.map_cons,List.map_nil];rfl)
      ·conv=>whnf
       refine g 0 0 []<|J UA<|Ws<|Wc<|J (fun _=>(Wk (Ws (Wb (g 131 134 [.n (n),.x (aJ o)]<|J QZ (g 134 145 (RL 6 BT [])<|J QZ (Wc<|J (noT dO) fun _=>(Wk (rg [.i ((n:Int) +1)]<|J QZ ?_))))))))) (noF SI)
       refine⟨n+1,[some 162,some 5,some 6],[],FZ,?_,?_⟩
       rotate_left
       (dsimp only;omega)
       dsimp only
       exact⟨by omega,en hc ho fun q=>hl q.2⟩
     ·conv=>whnf
      refine g 0 0 []<|J UA<|Ws<|Wc<|J (fun _=>(Wk (Ws (Wb (g 131 134 [.n (n),.x (aJ o)]<|J QZ (g 134 145 (RL 6 BF [])<|J QZ (Wc<|J (noT rfl) fun _=>(Wk (rg [.i ((n:Int) +1)]<|J QZ ?_))))))))) (noF SI)
      refine⟨n+1,[some 162,some 5,some 6],[],FZ,?_,?_⟩
      rotate_left
      (dsimp only;omega)
      dsimp only
      exact⟨by omega,en hc ho fun q=>hw q.1⟩
    ·rw[aH OM]at hc
     rw[ue (Kr (ts:=p.tasks) hkr hO hc)]
     conv=>whnf
     refine g 0 0 []<|J UA<|Ws<|Wc<|J (noT SI) fun _=>We<|rgd [[],[],[],[],[],[],[],[],[],[],[],[],[],[],[],[]] ?_
     conv=>whnf
     refine J QZ<|J KR<|EndsW.nm<|J I<|J ?_ ?_
     rfl
     all_goals (simp only[nB,aF,cellsOf,List.map_set,List.map_append,List.map_cons,List.map_nil];rfl)
   ·rw[ic (b:=nB b m) (fun q=>hO q.room)]
    refine bH ?_
    conv=>whnf
    refine g 0 0 []<|J QZ<|g 11 13 []<|J UC<|Ws<|gd 13 49 [[],[],[],[],[],[.n (Int.toNat m.task)],[.x (ai y)],[],[],[BT],[BT],[BT],[BT],[BT],[BT],[BT],[BT,.x (ay t)],[BT],[BT],[BT,.call VT [[],[]]],[BT],[],[BT],[BT],[BT],[BT],[BT],[BT],[BT],[BT],[BT],[BT],[BT],[BT],[BT,.i ((↑(List.length (List.map ai b.log.safe)):Int) + (↑(List.length (List.map ai b.log.loose)):Int))],[BT],[BT]] ?_
    conv=>whnf
    refine J QZ<|J KR<|Wc<|J (fun h1=>?_) fun h1=>?_
    replace h1:=dt h1
    simp only[LM]at h1
    refine gd 49 58 [[],[],[],[],[],[],[],[.n (Int.toNat m.task)],[.x (ai y)]] ?_
    conv=>whnf
    refine J QZ<|J KR<|gd 58 78 [[],[],[],[],[],[],[],[],[],[],[],[],[],[],[.call (V.s (bT {kind:=2,epoch:=b.epoch,task:=m.task,text:=m.text:Entry})) [[]]],[],[],[],[],[],[]] ?_
    conv=>whnf
    refine J QZ<|J KR<|rg [.n (Int.toNat m.task),.x (aI j)]<|J QZ<|Ws<|gd 78 101 [[],[],[],[],[],[.n (Int.toNat m.task)],[.x (aM (ai y) 0 [T.v (Value.string m.text)])],[],[],[BF],[BF],[BF],[BF],[BF],[BF],[BF],[BF]] ?_
    conv=>whnf
    refine J QZ<|J KR<|Wc<|J (noT rfl) fun _=>Wk<|Ws<|gd 101 124 [[],[],[],[],[],[.n (Int.toNat m.task)],[.x (aM (ai y) 0 [T.v (Value.string m.text)])],[],[],[],[],[BF],[BF],[BF],[BF],[BF],[BF],[BF]] ?_
    conv=>whnf
    refine J QZ<|J KR<|Wc<|JD (fun h2=>?_) fun h2=>?_
    simp only[LM]at h2
    refine W.ret<|EndsW.rt<|J I<|J ?_ ?_
    rfl
    rotate_left
    simp only[LM]at h2
    omega
    replace h1:=df h1
    simp only[LM]at h1
    omega
    all_goals (simp only[nB,aF,cellsOf,List.map_set,List.map_append,List.map_cons,List.map_nil];rfl)
  ·rw[NL hP (by rw[hya];exact hA) hte]
   by_cases hF:de b.results t.deps
   ·rw[decide_eq_true hF]at crd
    have hR:¬b.log.safe.length+b.log.loose.length < 310:=fun q=>hP ⟨by rw[hya];exact hA,by rw[eu ht0];exact hF,q⟩
    by_cases ho:tu b m
    ·have ho2:=hold.1 ho
     rw[ut ho]
     refine bH ?_
     conv=>whnf
     refine g 0 0 []<|J QZ<|g 11 13 []<|J UC<|Ws<|gd 13 49 [[],[],[],[],[],[.n (Int.toNat m.task)],[.x (ai y)],[],[],[BT],[BT],[BT],[BT],[BT],[BT],[BT],[BT,.x (ay t)],[BT],[BT],[BT,.call VT [[],[]]],[BT],[],[BT],[BT],[BT],[BT],[BT],[BT],[BT],[BT],[BT],[BT],[BT],[BT],[BT,.i ((↑(List.length (List.map ai b.log.safe)):Int) + (↑(List.length (List.map ai b.log.loose)):Int))],[BT],[BT]] ?_
     conv=>whnf
     refine J QZ<|J KR<|Wc<|J (fun h1=>?_) fun h1=>?_
     replace h1:=dt h1
     simp only[LM]at h1
     omega
     replace h1:=df h1
     simp only[LM]at h1
     refine Wk<|Ws<|gd 49 101 [[],[],[],[],[],[.n (Int.toNat m.task)],[.x (ai y)],[],[],[BT],[BT],[BT],[BT],[BT],[BT,.x (aE x)],[BT],[BT]] ?_
     conv=>whnf
     refine J QZ<|J KR<|Wc<|J (noT dO) fun _=>Wk<|Ws ?_
     by_cases h2:y = Message.text m
     refine gd 101 124 [[],[],[],[],[],[.n (Int.toNat m.task)],[.x (ai y)],[],[],[],[],[BF],[BF],[BF],[BF],[BF],[BF],[BF]] ?_
     conv=>whnf
     refine J QZ<|J KR<|Wc<|J (fun _=>(RT ?_)) (noF (by simp_all))
     rfl
     refine gd 101 124 [[],[],[],[],[],[.n (Int.toNat m.task)],[.x (ai y)],[],[],[],[],[BT],[BT],[BT],[BT],[BT],[BT],[BT]] ?_
     conv=>whnf
     refine J QZ<|J KR<|Wc<|J (fun _=>(RT ?_)) (noF rfl)
     rfl
    ·have ho2:¬m.epoch < x.epoch:=fun q=>ho (hold.2 q)
     rw[ni ho]
     refine bH ?_
     conv=>whnf
     refine g 0 0 []<|J QZ<|g 11 13 []<|J UC<|Ws<|gd 13 49 [[],[],[],[],[],[.n (Int.toNat m.task)],[.x (ai y)],[],[],[BT],[BT],[BT],[BT],[BT],[BT],[BT],[BT,.x (ay t)],[BT],[BT],[BT,.call VT [[],[]]],[BT],[],[BT],[BT],[BT],[BT],[BT],[BT],[BT],[BT],[BT],[BT],[BT],[BT],[BT,.i ((↑(List.length (List.map ai b.log.safe)):Int) + (↑(List.length (List.map ai b.log.loose)):Int))],[BT],[BT]] ?_
     conv=>whnf
     refine J QZ<|J KR<|Wc<|J (fun h1=>?_) fun h1=>?_
     replace h1:=dt h1
     simp only[LM]at h1
     omega
     replace h1:=df h1
     simp only[LM]at h1
     refine Wk<|Ws<|gd 49 101 [[],[],[],[],[],[.n (Int.toNat m.task)],[.x (ai y)],[],[],[BT],[BT],[BT],[BT],[BT],[BT,.x (aE x)],[BT],[BT]] ?_
     conv=>whnf
     refine J QZ<|J KR<|Wc<|J (fun _=>(rg [.x (aE x)]<|J QZ (Ws ?_))) (noF tO)
     by_cases h2:y = Message.text m
     refine gd 101 124 [[],[],[],[],[],[.n (Int.toNat m.task)],[.x (ai y)],[],[],[],[],[BF],[BF],[BF],[BF],[BF],[BF],[BF]] ?_
     conv=>whnf
     refine J QZ<|J KR<|Wc<|J (fun _=>(W.ret (EndsW.rt<|J I<|J ?_ ?_))) (noF (by simp_all))
     rfl
     rotate_left
     refine gd 101 124 [[],[],[],[],[],[.n (Int.toNat m.task)],[.x (ai y)],[],[],[],[],[BT],[BT],[BT],[BT],[BT],[BT],[BT]] ?_
     conv=>whnf
     refine J QZ<|J KR<|Wc<|J (fun _=>(W.ret (EndsW.rt<|J I<|J ?_ ?_))) (noF rfl)
     rfl
     rotate_left
     all_goals (simp only[nB,aF,cellsOf,List.map_set,List.map_append,List.map_cons,List.map_nil];rfl)
   ·rw[decide_eq_false hF]at crd
    by_cases ho:tu b m
    ·have ho2:=hold.1 ho
     rw[ut ho]
     refine bH ?_
     conv=>whnf
     refine g 0 0 []<|J QZ<|g 11 13 []<|J UC<|Ws<|gd 13 49 [[],[],[],[],[],[.n (Int.toNat m.task)],[.x (ai y)],[],[],[BT],[BT],[BT],[BT],[BT],[BT],[BT],[BT,.x (ay t)],[BT],[BT],[BT,.call VF [[],[]]],[BT],[],[BF],[BF],[BF],[BF],[BF],[BF],[BF],[BF],[BF],[BF],[BF],[BF],[BF],[BF],[BF]] ?_
     conv=>whnf
     refine J QZ<|J KR<|Wc<|J (noT rfl) fun _=>Wk<|Ws<|gd 49 101 [[],[],[],[],[],[.n (Int.toNat m.task)],[.x (ai y)],[],[],[BT],[BT],[BT],[BT],[BT],[BT,.x (aE x)],[BT],[BT]] ?_
     conv=>whnf
     refine J QZ<|J KR<|Wc<|J (noT dO) fun _=>Wk<|Ws ?_
     by_cases h1:y = Message.text m
     refine gd 101 124 [[],[],[],[],[],[.n (Int.toNat m.task)],[.x (ai y)],[],[],[],[],[BF],[BF],[BF],[BF],[BF],[BF],[BF]] ?_
     conv=>whnf
     refine J QZ<|J KR<|Wc<|J (fun _=>(RT ?_)) (noF (by simp_all))
     rfl
     refine gd 101 124 [[],[],[],[],[],[.n (Int.toNat m.task)],[.x (ai y)],[],[],[],[],[BT],[BT],[BT],[BT],[BT],[BT],[BT]] ?_
     conv=>whnf
     refine J QZ<|J KR<|Wc<|J (fun _=>(RT ?_)) (noF rfl)
     rfl
    ·have ho2:¬m.epoch < x.epoch:=fun q=>ho (hold.2 q)
     rw[ni ho]
     refine bH ?_
     conv=>whnf
     refine g 0 0 []<|J QZ<|g 11 13 []<|J UC<|Ws<|gd 13 49 [[],[],[],[],[],[.n (Int.toNat m.task)],[.x (ai y)],[],[],[BT],[BT],[BT],[BT],[BT],[BT],[BT],[BT,.x (ay t)],[BT],[BT],[BT,.call VF [[],[]]],[BT],[],[BF],[BF],[BF],[BF],[BF],[BF],[BF],[BF],[BF],[BF],[BF],[BF],[BF],[BF],[BF]] ?_
     conv=>whnf
     refine J QZ<|J KR<|Wc<|J (noT rfl) fun _=>Wk<|Ws<|gd 49 101 [[],[],[],[],[],[.n (Int.toNat m.task)],[.x (ai y)],[],[],[BT],[BT],[BT],[BT],[BT],[BT,.x (aE x)],[BT],[BT]] ?_
     conv=>whnf
     refine J QZ<|J KR<|Wc<|J (fun _=>(rg [.x (aE x)]<|J QZ (Ws ?_))) (noF tO)
     by_cases h1:y = Message.text m
     refine gd 101 124 [[],[],[],[],[],[.n (Int.toNat m.task)],[.x (ai y)],[],[],[],[],[BF],[BF],[BF],[BF],[BF],[BF],[BF]] ?_
     conv=>whnf
     refine J QZ<|J KR<|Wc<|J (fun _=>(W.ret (EndsW.rt<|J I<|J ?_ ?_))) (noF (by simp_all))
     rfl
     rotate_left
     refine gd 101 124 [[],[],[],[],[],[.n (Int.toNat m.task)],[.x (ai y)],[],[],[],[],[BT],[BT],[BT],[BT],[BT],[BT],[BT]] ?_
     conv=>whnf
     refine J QZ<|J KR<|Wc<|J (fun _=>(W.ret (EndsW.rt<|J I<|J ?_ ?_))) (noF rfl)
     rfl
     rotate_left
     all_goals (simp only[nB,aF,cellsOf,List.map_set,List.map_append,List.map_cons,List.map_nil];rfl)
 ·rw[Kj (by rw[hya];exact hA)]
  by_cases hs:y = m.text
  ·by_cases hO:b.owed.length < 2000
   ·refine bH ?_
    conv=>whnf
    refine g 0 0 []<|J QZ<|g 11 13 []<|J UC<|Ws<|gd 13 49 [[],[],[],[],[],[.n (Int.toNat m.task)],[.x (ai y)],[],[],[BF],[BF],[BF],[BF],[BF],[BF],[BF],[BF],[BF],[BF],[BF],[BF],[],[BF],[BF],[BF],[BF],[BF],[BF],[BF],[BF],[BF],[BF],[BF],[BF],[BF],[BF],[BF]] ?_
    conv=>whnf
    refine J QZ<|J KR<|Wc<|J (noT rfl) fun _=>Wk<|Ws<|gd 49 101 [[],[],[],[],[],[.n (Int.toNat m.task)],[.x (ai y)],[],[],[BF],[BF],[BF],[BF],[BF],[BF],[BF],[BF]] ?_
    conv=>whnf
    refine J QZ<|J KR<|Wc<|J (noT rfl) fun _=>Wk<|Ws<|gd 101 124 [[],[],[],[],[],[.n (Int.toNat m.task)],[.x (ai y)],[],[],[],[],[BF],[BF],[BF],[BF],[BF],[BF],[BF]] ?_
    conv=>whnf
    refine J QZ<|J KR<|Wc<|J (fun h1=>?_) fun h1=>?_
    replace h1:=dt h1
    simp only[LM]at h1
    omega
    replace h1:=df h1
    simp only[LM]at h1
    refine Wk<|Ws<|g 124 128 []<|J UF<|Wb<|Wl (fun s (n:Nat)=>⟨(SK s [0,1,2,5,6,8,128,129] [(130,.i n)]),[(162,(CK s 162 0 12 [])),(5,[s.c 5 0]),(6,(CK s 6 0 8 []))],[]⟩) (fun(n:Nat)=>n≤b.owed.length∧∀ o∈b.owed.take n,¬(o.worker = m.frm∧o.lease = m.lease)) (fun(n:Nat)=>b.owed.length - n) (0) [some 162,some 5,some 6] [] FZ (by simp) ?_
    rintro n ⟨hn,hc⟩
    by_cases hn2:n < b.owed.length
    ·obtain⟨o,ho⟩:=ae hn2
     by_cases hw:o.worker = m.frm
     ·by_cases hl:o.lease = m.lease
      ·rw[ic (fun q=>ui ho ⟨hw,hl⟩ q.new)]
       conv=>whnf
       refine g 0 0 []<|J UA<|Ws<|Wc<|J (fun _=>(Wk (Ws (Wb (g 131 134 [.n (n),.x (aJ o)]<|J QZ (g 134 145 (RL 6 BT [])<|J QZ (Wc<|J (fun _=>(RT ?_)) (noF tO)))))))) (noF SI)
       rfl
       all_goals (simp only[nB,aF,cellsOf,List.map_set,List.map_append,List.map_cons,List.map_nil];rfl)
      ·conv=>whnf
       refine g 0 0 []<|J UA<|Ws<|Wc<|J (fun _=>(Wk (Ws (Wb (g 131 134 [.n (n),.x (aJ o)]<|J QZ (g 134 145 (RL 6 BT [])<|J QZ (Wc<|J (noT dO) fun _=>(Wk (rg [.i ((n:Int) +1)]<|J QZ ?_))))))))) (noF SI)
       refine⟨n+1,[some 162,some 5,some 6],[],FZ,?_,?_⟩
       rotate_left
       (dsimp only;omega)
       dsimp only
       exact⟨by omega,en hc ho fun q=>hl q.2⟩
     ·conv=>whnf
      refine g 0 0 []<|J UA<|Ws<|Wc<|J (fun _=>(Wk (Ws (Wb (g 131 134 [.n (n),.x (aJ o)]<|J QZ (g 134 145 (RL 6 BF [])<|J QZ (Wc<|J (noT rfl) fun _=>(Wk (rg [.i ((n:Int) +1)]<|J QZ ?_))))))))) (noF SI)
      refine⟨n+1,[some 162,some 5,some 6],[],FZ,?_,?_⟩
      rotate_left
      (dsimp only;omega)
      dsimp only
      exact⟨by omega,en hc ho fun q=>hw q.1⟩
    ·rw[aH OM]at hc
     rw[ue ⟨by rw[hya];exact hs,hO,hc⟩]
     conv=>whnf
     refine g 0 0 []<|J UA<|Ws<|Wc<|J (noT SI) fun _=>We<|rgd [[],[],[],[],[],[],[],[],[],[],[],[],[],[],[],[]] ?_
     conv=>whnf
     refine J QZ<|J KR<|EndsW.nm<|J I<|J ?_ ?_
     rfl
     all_goals (simp only[nB,aF,cellsOf,List.map_set,List.map_append,List.map_cons,List.map_nil];rfl)
   ·rw[ic (fun q=>hO q.room)]
    refine bH ?_
    conv=>whnf
    refine g 0 0 []<|J QZ<|g 11 13 []<|J UC<|Ws<|gd 13 49 [[],[],[],[],[],[.n (Int.toNat m.task)],[.x (ai y)],[],[],[BF],[BF],[BF],[BF],[BF],[BF],[BF],[BF],[BF],[BF],[BF],[BF],[],[BF],[BF],[BF],[BF],[BF],[BF],[BF],[BF],[BF],[BF],[BF],[BF],[BF],[BF],[BF]] ?_
    conv=>whnf
    refine J QZ<|J KR<|Wc<|J (noT rfl) fun _=>Wk<|Ws<|gd 49 101 [[],[],[],[],[],[.n (Int.toNat m.task)],[.x (ai y)],[],[],[BF],[BF],[BF],[BF],[BF],[BF],[BF],[BF]] ?_
    conv=>whnf
    refine J QZ<|J KR<|Wc<|J (noT rfl) fun _=>Wk<|Ws<|gd 101 124 [[],[],[],[],[],[.n (Int.toNat m.task)],[.x (ai y)],[],[],[],[],[BF],[BF],[BF],[BF],[BF],[BF],[BF]] ?_
    conv=>whnf
    refine J QZ<|J KR<|Wc<|J (fun h1=>?_) fun h1=>?_
    replace h1:=dt h1
    simp only[LM]at h1
    refine RT ?_
    rfl
    replace h1:=df h1
    simp only[LM]at h1
    omega
  ·rw[ic (fun q=>hs (by rw[←q.same,hya]))]
   refine bH ?_
   conv=>whnf
   refine g 0 0 []<|J QZ<|g 11 13 []<|J UC<|Ws<|gd 13 49 [[],[],[],[],[],[.n (Int.toNat m.task)],[.x (ai y)],[],[],[BF],[BF],[BF],[BF],[BF],[BF],[BF],[BF],[BF],[BF],[BF],[BF],[],[BF],[BF],[BF],[BF],[BF],[BF],[BF],[BF],[BF],[BF],[BF],[BF],[BF],[BF],[BF]] ?_
   conv=>whnf
   refine J QZ<|J KR<|Wc<|J (noT rfl) fun _=>Wk<|Ws<|gd 49 101 [[],[],[],[],[],[.n (Int.toNat m.task)],[.x (ai y)],[],[],[BF],[BF],[BF],[BF],[BF],[BF],[BF],[BF]] ?_
   conv=>whnf
   refine J QZ<|J KR<|Wc<|J (noT rfl) fun _=>Wk<|Ws<|gd 101 124 [[],[],[],[],[],[.n (Int.toNat m.task)],[.x (ai y)],[],[],[],[],[BT],[BT],[BT],[BT],[BT],[BT],[BT]] ?_
   conv=>whnf
   refine J QZ<|J KR<|Wc<|J (fun _=>(RT ?_)) (noF rfl)
   rfl
end Go.K
end
section
open Go Go.Tm Go.Proofs
namespace Go.K
theorem KX{w:Int}{js:List Job}{n:Nat}{j:Job}(h:js[n]? = some j)(hd:j.worker = w):((gB (nM w) js n).map aI).set n (aI fm) = (gB (nM w) js (n+1)).map aI:=by
 have:=mM (f:=nM w) (g:=aI) h
 rw[show nM w j = fm from if_pos hd]at this
 exact this
theorem Oh{w:Int}{js:List Job}{n:Nat}{j:Job}(h:js[n]? = some j)(hd:¬j.worker = w):gB (nM w) js n = gB (nM w) js (n+1):=pL h (if_neg hd)
theorem Lf{l u:Int}{js:List Job}{n:Nat}{j:Job}(h:js[n]? = some j)(hd:j.lease = l):((gB (ox l u) js n).map aI).set n (aI ⟨j.lease,j.worker,u⟩) = (gB (ox l u) js (n+1)).map aI:=by
 have:=mM (f:=ox l u) (g:=aI) h
 rw[show ox l u j = ⟨j.lease,j.worker,u⟩from if_pos hd]at this
 exact this
theorem Pq{l u:Int}{js:List Job}{n:Nat}{j:Job}(h:js[n]? = some j)(hd:¬j.lease = l):gB (ox l u) js n = gB (ox l u) js (n+1):=pL h (if_neg hd)
theorem TX{b:Boss}{p:Plan}{m:Message}(hv:BossOk b p)(h:BossLim b)(hf:ForB b m)(hk:m.kind = 3)(ht:m.task < p.tasks.length):ResIn b p.tasks m:=by
 obtain⟨u1,u2,u3,u4,u5,u6,⟨u7,u8⟩,⟨u9,u10⟩,u11,u12,u13,u14⟩:=hv.up hf.up
 obtain⟨_,⟨f1,_⟩,_⟩:=pm hf
 obtain⟨_,⟨t1,_⟩,tx⟩:=HW hf hk
 have hw:=hv.workers
 have f2:=hf.frm
 exact⟨hv.plan,u3,u4,⟨t1,ht⟩,h.safe,h.loose,h.owed,by omega,⟨f1,by omega⟩,tx⟩
theorem wo(b:Boss)(p:Plan)(m:Message)(hv:BossOk b p)(h:BossLim b)(hm:m.inputs.length≤9223372036854775806):F vo [.ptr (cellsOf (aF b)),.val (cV p),.val (eS m)] (.tup []) [cellsOf (aF (ix b p.tasks m)),[],[]]:=by
 have cm:=cO m hm
 by_cases hf:ForB b m
 ·obtain⟨u1,u2,u3,u4,u5,u6,⟨u7,u8⟩,⟨u9,u10⟩,u11,u12,u13,u14⟩:=hv.up hf.up
  obtain⟨hkd,⟨f1,f2⟩,⟨e1,e2⟩⟩:=pm hf
  have hnow:=hv.now
  have hwk:=hv.workers
  have hpl:=(bU hv.plan).1
  obtain⟨g1,g2,g3,g4⟩:=hf
  have hf:ForB b m:=⟨g1,g2,g3,g4⟩
  rw[decide_eq_true g2]at cm
  have hsi:gE m < b.seats.length:=by unfold gE;omega
  obtain⟨x,hx⟩:=ae hsi
  have hx':b.seats[(m.frm - 1).toNat]? = some x:=hx
  have hold:=Ij hx
  rcases hkd with hk|hk|hk
  ·rw[pC hf hk]
   refine cE ?_
   conv=>whnf
   refine g 2 3 []<|J QZ<|Ws<|gd 9 32 [[],[],[],[],[],[],[BF],[BF,.call VT [[]]],[BF],[BF],[],[BF],[BF],[BF],[BF],[],[BF],[BF],[BF],[BF],[BF],[BF],[BF],[BF]] ?_
   conv=>whnf
   refine J QZ<|J KR<|Wc<|J (noT dO) fun _=>Wk<|gd 32 41 [[],[],[],[],[],[],[.i (m.frm - 1)],[.n (Int.toNat (m.frm - 1))],[]] ?_
   conv=>whnf
   refine J QZ<|J KR<|g 41 42 []<|J UB<|Wb<|g 44 45 []<|J UB<|Wc<|J (noT dO) fun _=>g 1 2 []<|J UB<|Wc<|J (fun _=>(g 6 90 []<|J UF (Wb (Wl (fun s (n:Nat)=>⟨(SK s [0,5,90] [(91,.i n)]),[(5,(CK s 5 0 8 [])),(131,[.t (.i b.workers),.t (.b b.up),.t (.i b.now),.t (.i b.since),.t (.i b.epoch),.t (.i b.given),.own [false] (b.log.safe.map ai),.own [false] (b.log.loose.map ai),.own [false] (b.results.map ai),.own dU ((gB (ox m.lease (b.now+12)) b.jobs n).map aI),.own bJ (b.seats.map aE),.own bK (b.owed.map aJ)])],[]⟩) (fun(n:Nat)=>n≤b.jobs.length) (fun(n:Nat)=>b.jobs.length - n) (0) [some 5,some 131] [] FZ OM ?_)))) (noF tO)
   intro n hn
   have hl:=ju (ox m.lease (b.now+12)) b.jobs n
   by_cases hj:n < b.jobs.length
   ·obtain⟨j,hj1⟩:=ae hj
    by_cases hd:j.lease = m.lease
    ·have e:=Lf (u:=b.now+12) hj1 hd
     conv=>whnf
     refine g 0 0 []<|J UA<|Ws<|Wc<|J (fun _=>(Wk (Ws (Wb (g 92 94 []<|J UB (gd 94 104 [[],[],[],[],[],[.n (n)],[],[.x (aI j)],[],[],[]] ?_)))))) (noF (by simp_all))
     conv=>whnf
     refine⟨⟨I,I,I,I,I,Zan,I,bw AS,I,I,I,I⟩,by kernel_rfl,?_⟩
     refine Wc<|J (fun _=>(rgd [[],[],[],[],[],[],[],[],[],[.i (b.now+12)],[.n (n)],[],[.x (aI j)]] ?_)) (noF tO)
     conv=>whnf
     refine⟨⟨I,I,I,I,I,I,I,I,I,wO,Zan,I,⟨UA,bw AS⟩,I⟩,by kernel_rfl,?_⟩
     refine rg [.i ((n:Int) +1)]<|J QZ ?_
     refine⟨n+1,[some 5,some 131],[],⟨rfl,FZ,⟨FZ,⟨⟨rfl,⟨rfl,⟨rfl,⟨rfl,⟨rfl,⟨rfl,⟨rfl,⟨rfl,⟨rfl,⟨rfl,⟨(congrArg (V.own _) (e)),FZ⟩⟩⟩⟩⟩⟩⟩⟩⟩⟩⟩,I⟩⟩,I⟩,?_,?_⟩
     rotate_left
     (dsimp only;omega)
     dsimp only
     omega
    ·have e:=Pq (u:=b.now+12) hj1 hd
     conv=>whnf
     refine g 0 0 []<|J UA<|Ws<|Wc<|J (fun _=>(Wk (Ws (Wb (g 92 94 []<|J UB (gd 94 104 [[],[],[],[],[],[.n (n)],[],[.x (aI j)],[],[],[]] ?_)))))) (noF (by simp_all))
     conv=>whnf
     refine⟨⟨I,I,I,I,I,Zan,I,bw AS,I,I,I,I⟩,by kernel_rfl,?_⟩
     refine Wc<|J (noT dO) fun _=>Wk<|rg [.i ((n:Int) +1)]<|J QZ ?_
     refine⟨n+1,[some 5,some 131],[],⟨rfl,FZ,⟨FZ,⟨⟨rfl,⟨rfl,⟨rfl,⟨rfl,⟨rfl,⟨rfl,⟨rfl,⟨rfl,⟨rfl,⟨rfl,⟨(congrArg (V.own _) (by rw[←e])),FZ⟩⟩⟩⟩⟩⟩⟩⟩⟩⟩⟩,I⟩⟩,I⟩,?_,?_⟩
     rotate_left
     (dsimp only;omega)
     dsimp only
     omega
   ·have e:=jv (ox m.lease (b.now+12)) b.jobs (n:=n) OM
    conv=>whnf
    refine g 0 0 []<|J UA<|Ws<|Wc<|J (noT (by simp_all)) fun _=>We<|EndsW.nm<|J I<|J ?_ ?_
    rfl
    rw[e]
    rfl
  ·by_cases ht:m.task < p.tasks.length
   ·rw[t8 hf hk ht]
    have cr:=rH b p m (TX hv h hf hk ht)
    refine cE ?_
    conv=>whnf
    refine g 2 3 []<|J QZ<|Ws<|gd 9 32 [[],[],[],[],[],[],[BF],[BF,.call VT [[]]],[BF],[BF],[],[BF],[BF],[BF],[BF],[],[BF],[BF],[BF],[BF],[BF],[BF],[BF],[BF]] ?_
    conv=>whnf
    refine J QZ<|J KR<|Wc<|J (noT dO) fun _=>Wk<|gd 32 41 [[],[],[],[],[],[],[.i (m.frm - 1)],[.n (Int.toNat (m.frm - 1))],[]] ?_
    conv=>whnf
    refine J QZ<|J KR<|g 41 42 []<|J UB<|Wb<|g 44 45 []<|J UB<|Wc<|J (noT dO) fun _=>g 1 2 []<|J UB<|Wc<|J (noT dO) fun _=>g 42 86 []<|J UB<|Wc<|J (fun _=>(g 118 125 []<|J UF (Wc<|J (fun _=>(rg [.call (V.tup []) ([cellsOf (aF (fq b p.tasks m)),[],[],[]])]<|J QZ ?_)) (noF SI)))) (noF tO)
    refine EndsW.nm<|J I (J ?_ rfl)
    rfl
   ·rw[t9 hf hk ht]
    refine cE ?_
    conv=>whnf
    refine g 2 3 []<|J QZ<|Ws<|gd 9 32 [[],[],[],[],[],[],[BF],[BF,.call VT [[]]],[BF],[BF],[],[BF],[BF],[BF],[BF],[],[BF],[BF],[BF],[BF],[BF],[BF],[BF],[BF]] ?_
    conv=>whnf
    refine J QZ<|J KR<|Wc<|J (noT dO) fun _=>Wk<|gd 32 41 [[],[],[],[],[],[],[.i (m.frm - 1)],[.n (Int.toNat (m.frm - 1))],[]] ?_
    conv=>whnf
    refine J QZ<|J KR<|g 41 42 []<|J UB<|Wb<|g 44 45 []<|J UB<|Wc<|J (noT dO) fun _=>g 1 2 []<|J UB<|Wc<|J (noT dO) fun _=>g 42 86 []<|J UB<|Wc<|J (fun _=>(g 118 125 []<|J UF (Wc<|J (noT SI) fun _=>(Wk ?_)))) (noF tO)
    refine EndsW.nm<|J I (J ?_ rfl)
    rfl
  ·rw[pB hf hk]
   by_cases ho:tu b m
   ·rw[KT ho]
    have ho2:=hold.1 ho
    refine cE ?_
    conv=>whnf
    refine g 2 3 []<|J QZ<|Ws<|gd 9 32 [[],[],[],[],[],[],[BF],[BF,.call VT [[]]],[BF],[BF],[],[BF],[BF],[BF],[BF],[],[BF],[BF],[BF],[BF],[BF],[BF],[BF],[BF]] ?_
    conv=>whnf
    refine J QZ<|J KR<|Wc<|J (noT dO) fun _=>Wk<|gd 32 41 [[],[],[],[],[],[],[.i (m.frm - 1)],[.n (Int.toNat (m.frm - 1))],[]] ?_
    conv=>whnf
    refine J QZ<|J KR<|g 41 42 []<|J UB<|Wb<|g 44 45 []<|J UB<|Wc<|J (fun _=>(gd 42 51 [[],[],[],[],[],[.x (aE x)],[]] ?_)) (noF tO)
    conv=>whnf
    refine⟨⟨I,I,I,I,I,xA,I,I⟩,by kernel_rfl,?_⟩
    refine Wc<|J (noT dO) fun _=>Wk<|EndsW.nm<|J I (J ?_ rfl)
    rfl
   ·rw[KU ho]
    have ho2:¬m.epoch < x.epoch:=fun q=>ho (hold.2 q)
    have es:(b.seats.map aE).set (m.frm - 1).toNat (aE ⟨true,m.epoch⟩) = (b.seats.set (gE m) ⟨true,m.epoch⟩).map aE:=by rw[←List.map_set];rfl
    refine cE ?_
    conv=>whnf
    refine g 2 3 []<|J QZ<|Ws<|gd 9 32 [[],[],[],[],[],[],[BF],[BF,.call VT [[]]],[BF],[BF],[],[BF],[BF],[BF],[BF],[],[BF],[BF],[BF],[BF],[BF],[BF],[BF],[BF]] ?_
    conv=>whnf
    refine J QZ<|J KR<|Wc<|J (noT dO) fun _=>Wk<|gd 32 41 [[],[],[],[],[],[],[.i (m.frm - 1)],[.n (Int.toNat (m.frm - 1))],[]] ?_
    conv=>whnf
    refine J QZ<|J KR<|g 41 42 []<|J UB<|Wb<|g 44 45 []<|J UB<|Wc<|J (fun _=>(gd 42 51 [[],[],[],[],[],[.x (aE x)],[]] ?_)) (noF tO)
    conv=>whnf
    refine⟨⟨I,I,I,I,I,xA,I,I⟩,by kernel_rfl,?_⟩
    refine Wc<|J (fun _=>(g 6 57 [.x (aE x)]<|J QZ (g 57 61 []<|J UF (Wb (Wl (fun s (n:Nat)=>⟨(SK s [0,5,61] [(62,.i n)]),[(5,(CK s 5 0 8 [])),(131,[.t (.i b.workers),.t (.b b.up),.t (.i b.now),.t (.i b.since),.t (.i b.epoch),.t (.i b.given),.own [false] (b.log.safe.map ai),.own [false] (b.log.loose.map ai),.own [false] (b.results.map ai),.own dU ((gB (nM m.frm) b.jobs n).map aI),.own bJ ((b.seats.set (gE m) ⟨true,m.epoch⟩).map aE),.own bK (b.owed.map aJ)])],[]⟩) (fun(n:Nat)=>n≤b.jobs.length) (fun(n:Nat)=>b.jobs.length - n) (0) [some 5,some 131] [] ⟨rfl,FZ,⟨FZ,⟨⟨rfl,⟨rfl,⟨rfl,⟨rfl,⟨rfl,⟨rfl,⟨rfl,⟨rfl,⟨rfl,⟨rfl,⟨rfl,⟨(congrArg (V.own _) (es)),Zaq⟩⟩⟩⟩⟩⟩⟩⟩⟩⟩⟩⟩,I⟩⟩,I⟩ OM ?_))))) (noF tO)
    intro n hn
    have hl:=ju (nM m.frm) b.jobs n
    by_cases hj:n < b.jobs.length
    ·obtain⟨j,hj1⟩:=ae hj
     by_cases hd:j.worker = m.frm
     ·have e:=KX hj1 hd
      conv=>whnf
      refine g 0 0 []<|J UA<|Ws<|Wc<|J (fun _=>(Wk (Ws (Wb (g 63 65 []<|J UB (gd 65 75 [[],[],[],[],[],[.n (n)],[],[.x (aI j)],[],[],[]] ?_)))))) (noF (by simp_all))
      conv=>whnf
      refine⟨⟨I,I,I,I,I,Zan,I,bw AS,I,I,I,I⟩,by kernel_rfl,?_⟩
      refine Wc<|J (fun _=>(rg [.n (n),.x (aI j)]<|J (QA @bw) (rg [.i ((n:Int) +1)]<|J QZ ?_))) (noF tO)
      refine⟨n+1,[some 5,some 131],[],⟨rfl,FZ,⟨FZ,⟨⟨rfl,⟨rfl,⟨rfl,⟨rfl,⟨rfl,⟨rfl,⟨rfl,⟨rfl,⟨rfl,⟨rfl,⟨(congrArg (V.own _) (e)),FZ⟩⟩⟩⟩⟩⟩⟩⟩⟩⟩⟩,I⟩⟩,I⟩,?_,?_⟩
      rotate_left
      (dsimp only;omega)
      dsimp only
      omega
     ·have e:=Oh hj1 hd
      conv=>whnf
      refine g 0 0 []<|J UA<|Ws<|Wc<|J (fun _=>(Wk (Ws (Wb (g 63 65 []<|J UB (gd 65 75 [[],[],[],[],[],[.n (n)],[],[.x (aI j)],[],[],[]] ?_)))))) (noF (by simp_all))
      conv=>whnf
      refine⟨⟨I,I,I,I,I,Zan,I,bw AS,I,I,I,I⟩,by kernel_rfl,?_⟩
      refine Wc<|J (noT dO) fun _=>Wk<|rg [.i ((n:Int) +1)]<|J QZ ?_
      refine⟨n+1,[some 5,some 131],[],⟨rfl,FZ,⟨FZ,⟨⟨rfl,⟨rfl,⟨rfl,⟨rfl,⟨rfl,⟨rfl,⟨rfl,⟨rfl,⟨rfl,⟨rfl,⟨(congrArg (V.own _) (by rw[←e])),FZ⟩⟩⟩⟩⟩⟩⟩⟩⟩⟩⟩,I⟩⟩,I⟩,?_,?_⟩
      rotate_left
      (dsimp only;omega)
      dsimp only
      omega
    ·have e:=jv (nM m.frm) b.jobs (n:=n) OM
     conv=>whnf
     refine g 0 0 []<|J UA<|Ws<|Wc<|J (noT (by simp_all)) fun _=>We<|EndsW.nm<|J I<|J ?_ ?_
     rfl
     rw[e]
     rfl
 ·rw[Ib hf]
  by_cases g1:b.up = true
  ·by_cases g2:bL m
   ·rw[decide_eq_true g2]at cm
    by_cases g3:m.to = 0
    ·have g4:¬m.frm≤b.workers:=fun q=>hf ⟨g1,g2,g3,q⟩
     refine cE ?_
     conv=>whnf
     refine g 2 3 []<|J QZ<|Ws<|gd 9 32 [[],[],[],[],[],[],[BF],[BF,.call VT [[]]],[BF],[BF],[],[BF],[BF],[BF],[BF],[],[BF],[BF],[BF],[BF],[BF],[BF],[BF],[BF]] ?_
     conv=>whnf
     refine J QZ<|J KR<|Wc<|J (fun _=>(RT ?_)) (noF tO)
     rfl
    ·refine cE ?_
     conv=>whnf
     refine g 2 3 []<|J QZ<|Ws<|gd 9 32 [[],[],[],[],[],[],[BF],[BF,.call VT [[]]],[BF],[BF],[],[BF],[BF],[BF],[BF],[],[BT],[BT],[BT],[BT],[BT],[BT],[BT],[BT]] ?_
     conv=>whnf
     refine J QZ<|J KR<|Wc<|J (fun _=>(RT ?_)) (noF rfl)
     rfl
   ·rw[decide_eq_false g2]at cm
    refine cE ?_
    conv=>whnf
    refine g 2 3 []<|J QZ<|Ws<|gd 9 32 [[],[],[],[],[],[],[BF],[BF,.call VF [[]]],[BF],[BF],[],[BT],[BT],[BT],[BT],[],[BT],[BT],[BT],[BT],[BT],[BT],[BT],[BT]] ?_
    conv=>whnf
    refine J QZ<|J KR<|Wc<|J (fun _=>(RT ?_)) (noF rfl)
    rfl
  ·refine cE ?_
   conv=>whnf
   refine g 2 3 []<|J QZ<|Ws<|gd 9 32 [[],[],[],[],[],[],[BT],[BT],[BT],[BT],[],[BT],[BT],[BT],[BT],[],[BT],[BT],[BT],[BT],[BT],[BT],[BT],[BT]] ?_
   conv=>whnf
   refine J QZ<|J KR<|Wc<|J (fun _=>(RT ?_)) (noF rfl)
   rfl
end Go.K
end
section
open Go Go.Tm Go.Proofs
namespace Go.K
theorem ns(b:Boss)(m:Message){x:Seat}(hx:b.seats[gE m]? = some x)(f1:1≤m.frm∧m.frm≤8)(ho:tu b m):F qk [.val (aF b),.val (eS m)] (.tup [aF b,.b false]) [[],[]]:=by
 have hx':b.seats[(m.frm - 1).toNat]? = some x:=hx
 have ho2:=(Ij hx).1 ho
 have hl:=(List.getElem?_eq_some_iff.1 hx').1
 refine qu ?_
 conv=>whnf
 refine g 0 0 []<|J QZ<|Ws<|gd 6 16 [[],[],[],[],[],[],[.i (m.frm - 1)],[.n (Int.toNat (m.frm - 1))],[],[.x (aE x)],[]] ?_
 conv=>whnf
 refine J QZ<|J KR<|Wc<|J (fun _=>(g 16 18 []<|J QZ (RT ?_))) (noF tO)
 rfl
theorem nu(b:Boss)(m:Message){x:Seat}(hx:b.seats[gE m]? = some x)(f1:1≤m.frm∧m.frm≤8)(ho:¬tu b m):F qk [.val (aF b),.val (eS m)] (.tup [aF (nN b m),.b true]) [[],[]]:=by
 have hx':b.seats[(m.frm - 1).toNat]? = some x:=hx
 have ho2:¬m.epoch < x.epoch:=fun q=>ho ((Ij hx).2 q)
 have hl:=(List.getElem?_eq_some_iff.1 hx').1
 rw[ni ho]
 refine qu ?_
 conv=>whnf
 refine g 0 0 []<|J QZ<|Ws<|gd 6 16 [[],[],[],[],[],[],[.i (m.frm - 1)],[.n (Int.toNat (m.frm - 1))],[],[.x (aE x)],[]] ?_
 conv=>whnf
 refine J QZ<|J KR<|Wc<|J (noT dO) fun _=>Wk<|g 16 27 [.i (m.frm - 1),.n (Int.toNat (m.frm - 1)),.x (aE x)]<|J QZ<|g 0 4 []<|J QZ<|RT ?_
 all_goals (simp only[aF,List.map_set];rfl)
theorem AW(b:Boss)(p:Plan)(m:Message)(hl:p.tasks.length≤1048576)(ht:¬m.task < p.tasks.length):F nD [.val (aF b),.val (cV p),.val (eS m)] (aF b) [[],[],[]]:=by
 refine cg ?_
 conv=>whnf
 refine g 0 0 []<|J QZ<|Ws<|g 10 13 []<|J UF<|Wc<|J (fun _=>(g 13 15 []<|J QZ (RT ?_))) (noF (by simp_all))
 rfl
theorem yU(b:Boss)(p:Plan)(m:Message)(h:ResIn b p.tasks m)(f8:m.frm≤8):F nD [.val (aF b),.val (cV p),.val (eS m)] (aF (fq b p.tasks m)) [[],[],[]]:=by
 obtain⟨hck,u3,u4,⟨t1,t2⟩,l1,l2,l3,l4,⟨f1,f2⟩,tx⟩:=h
 have hpl:=(bU hck).1
 have hsi:gE m < b.seats.length:=by unfold gE;omega
 have hkr:m.task.toNat < b.results.length:=by omega
 have hte:¬m.text = emp:=fun q=>by rw[q]at tx;cases tx
 obtain⟨x,hx⟩:=ae hsi
 obtain⟨t,ht0⟩:=ae (xs:=p.tasks) (n:=m.task.toNat) OM
 obtain⟨y,hy0⟩:=ae (xs:=b.results) (n:=m.task.toNat) OM
 obtain⟨j,hj0⟩:=ae (xs:=b.jobs) (n:=m.task.toNat) OM
 have hya:=kP hy0
 obtain⟨_,_,a3,a4⟩:=cq hck ht0
 have crd:=iT p b.results m.task t1 ht0 (fun e he=>by have:=a4 e he;omega) OM
 have cf:=dk 2 b.epoch m.task m.text OM
 by_cases hA:y = emp
 ·by_cases hP:CanPut b p.tasks m
  ·have hF:de b.results t.deps:=by have:=hP.ready;rw[eu ht0]at this;exact this
   have hR:=hP.room
   rw[decide_eq_true hF]at crd
   rw[NK hP hkr hte]
   by_cases hO:b.owed.length < 2000
   ·refine cg ?_
    conv=>whnf
    refine g 0 0 []<|J QZ<|Ws<|g 10 13 []<|J UF<|Wc<|J (noT SI) fun _=>Wk<|Ws<|g 13 41 (.n (Int.toNat m.task)::.x (ai y)::(RL 6 BT (.call VT [[],[],[]]::(RL 10 BT [.i ((↑(List.length (List.map ai b.log.safe)):Int) + (↑(List.length (List.map ai b.log.loose)):Int)),BT,BT]))))<|J QZ<|Wc<|JD (fun h1=>?_) fun h1=>?_
    simp only[LM]at h1
    refine g 44 49 [.n (Int.toNat m.task),.x (ai y)]<|J QZ<|gd 49 64 [[],[],[],[],[],[],[],[],[],[],[.call (V.s (bT {kind:=2,epoch:=b.epoch,task:=m.task,text:=m.text:Entry})) [[]]],[],[],[],[],[]] ?_
    conv=>whnf
    refine J QZ<|J KR<|rg [.n (Int.toNat m.task),.x (aI j)]<|J QZ<|Ws<|g 64 76 [.n (Int.toNat m.task),.x (aM (ai y) 0 [T.v (Value.string m.text)])]<|J QZ<|Wc<|J (noT dO) fun _=>Wk<|Ws<|gd 76 97 [[],[],[],[],[.n (Int.toNat m.task)],[.x (aM (ai y) 0 [T.v (Value.string m.text)])],[],[],[],[],[BF],[BF],[BF],[BF],[BF]] ?_
    conv=>whnf
    refine J QZ<|J KR<|Wc<|J (fun h2=>?_) fun h2=>?_
    replace h2:=dt h2
    simp only[LM]at h2
    omega
    replace h2:=df h2
    simp only[LM]at h2
    refine Wk<|Ws<|g 41 43 []<|J UA<|Wb ?_
    rotate_left
    simp only[LM]at h1
    omega
    refine Wl (fun s (n:Nat)=>⟨(SK s [0,1,2,3,5,6] [(7,.i n),(9,s.s 9),(43,s.s 43)]),[(140,(CK s 140 0 12 [])),(3,(CK s 3 0 12 [])),(5,(CK s 5 0 8 [])),(6,(CK s 6 0 12 []))],[]⟩) (fun(n:Nat)=>n≤b.owed.length∧∀ o∈b.owed.take n,¬(o.worker = m.frm∧o.lease = m.lease)) (fun(n:Nat)=>b.owed.length - n) (0) [some 140,some 3,some 5,some 6] [] ⟨rfl,FZ,⟨Zaa,FZ⟩,I⟩ (by simp) ?_
    rintro n ⟨hn,hc⟩
    by_cases hn2:n < b.owed.length
    ·obtain⟨o,ho⟩:=ae hn2
     by_cases hw:o.worker = m.frm
     ·by_cases hl:o.lease = m.lease
      ·rw[ic (b:=nB b m) (fun q=>ui ho ⟨hw,hl⟩ q.new)]
       conv=>whnf
       refine Ws<|g 99 103 []<|J UE<|Wc<|J (fun _=>(Wk (Ws (Wb (gd 103 125 [[],[],[],[.n (n)],[],[.x (aJ o)],[],[],[],[],[BT],[BT],[BT],[BT,.n (n)],[BT],[BT,.x (aJ o)],[BT],[BT],[BT],[BT]] ?_))))) (noF SI)
       conv=>whnf
       refine⟨Zad,by kernel_rfl,?_⟩
       refine Wc<|J (fun _=>(g 125 127 []<|J QZ (RT ?_))) (noF tO)
       all_goals (simp only[nB,aF,cellsOf,List.map_set,List.map_append,List.map_cons,List.map_nil];rfl)
      ·conv=>whnf
       refine Ws<|g 99 103 []<|J UE<|Wc<|J (fun _=>(Wk (Ws (Wb (gd 103 125 [[],[],[],[.n (n)],[],[.x (aJ o)],[],[],[],[],[BT],[BT],[BT],[BT,.n (n)],[BT],[BT,.x (aJ o)],[BT],[BT],[BT],[BT]] ?_))))) (noF SI)
       conv=>whnf
       refine⟨Zad,by kernel_rfl,?_⟩
       refine Wc<|J (noT dO) fun _=>Wk<|rg [.i ((n:Int) +1)]<|J QZ ?_
       refine⟨n+1,[some 140,some 3,some 5,some 6],[],⟨rfl,FZ,⟨Zaa,FZ⟩,I⟩,?_,?_⟩
       rotate_left
       (dsimp only;omega)
       dsimp only
       exact⟨by omega,en hc ho fun q=>hl q.2⟩
     ·conv=>whnf
      refine Ws<|g 99 103 []<|J UE<|Wc<|J (fun _=>(Wk (Ws (Wb (gd 103 125 [[],[],[],[.n (n)],[],[.x (aJ o)],[],[],[],[],[BF],[BF],[BF],[BF],[BF],[BF],[BF],[BF],[BF],[BF]] ?_))))) (noF SI)
      conv=>whnf
      refine⟨⟨I,I,I,Zan,I,xA,I,I,I,I,dO,dO,dO,dO,dO,dO,dO,dO,dO,dO,I⟩,by kernel_rfl,?_⟩
      refine Wc<|J (noT rfl) fun _=>Wk<|rg [.i ((n:Int) +1)]<|J QZ ?_
      refine⟨n+1,[some 140,some 3,some 5,some 6],[],⟨rfl,FZ,⟨Zaa,FZ⟩,I⟩,?_,?_⟩
      rotate_left
      (dsimp only;omega)
      dsimp only
      exact⟨by omega,en hc ho fun q=>hw q.1⟩
    ·rw[aH OM]at hc
     rw[ue (Kr (ts:=p.tasks) hkr hO hc)]
     conv=>whnf
     refine Ws<|g 99 103 []<|J UE<|Wc<|J (noT SI) fun _=>We<|g 103 139 []<|J QZ<|g 0 6 []<|J QZ<|RT ?_
     all_goals (simp only[nB,aF,cellsOf,List.map_set,List.map_append,List.map_cons,List.map_nil];rfl)
   ·rw[ic (b:=nB b m) (fun q=>hO q.room)]
    refine cg ?_
    conv=>whnf
    refine g 0 0 []<|J QZ<|Ws<|g 10 13 []<|J UF<|Wc<|J (noT SI) fun _=>Wk<|Ws<|g 13 41 (.n (Int.toNat m.task)::.x (ai y)::(RL 6 BT (.call VT [[],[],[]]::(RL 10 BT [.i ((↑(List.length (List.map ai b.log.safe)):Int) + (↑(List.length (List.map ai b.log.loose)):Int)),BT,BT]))))<|J QZ<|Wc<|J (fun h1=>?_) fun h1=>?_
    replace h1:=dt h1
    simp only[LM]at h1
    refine g 44 49 [.n (Int.toNat m.task),.x (ai y)]<|J QZ<|gd 49 64 [[],[],[],[],[],[],[],[],[],[],[.call (V.s (bT {kind:=2,epoch:=b.epoch,task:=m.task,text:=m.text:Entry})) [[]]],[],[],[],[],[]] ?_
    conv=>whnf
    refine J QZ<|J KR<|rg [.n (Int.toNat m.task),.x (aI j)]<|J QZ<|Ws<|g 64 76 [.n (Int.toNat m.task),.x (aM (ai y) 0 [T.v (Value.string m.text)])]<|J QZ<|Wc<|J (noT dO) fun _=>Wk<|Ws<|gd 76 97 [[],[],[],[],[.n (Int.toNat m.task)],[.x (aM (ai y) 0 [T.v (Value.string m.text)])],[],[],[],[],[BF],[BF],[BF],[BF],[BF]] ?_
    conv=>whnf
    refine J QZ<|J KR<|Wc<|JD (fun h2=>?_) fun h2=>?_
    simp only[LM]at h2
    refine g 41 43 []<|J QZ<|RT ?_
    rotate_left
    simp only[LM]at h2
    omega
    replace h1:=df h1
    simp only[LM]at h1
    omega
    all_goals (simp only[nB,aF,cellsOf,List.map_set,List.map_append,List.map_cons,List.map_nil];rfl)
  ·rw[NL hP (by rw[hya];exact hA) hte]
   have hO:True:=trivial
   by_cases hF:de b.results t.deps
   ·rw[decide_eq_true hF]at crd
    have hR:¬b.log.safe.length+b.log.loose.length < 310:=fun q=>hP ⟨by rw[hya];exact hA,by rw[eu ht0];exact hF,q⟩
    by_cases ho:tu b m
    ·have cfr:=ns b m hx ⟨f1,f8⟩ ho
     rw[ut ho]
     refine cg ?_
     conv=>whnf
     refine g 0 0 []<|J QZ<|Ws<|g 10 13 []<|J UF<|Wc<|J (noT SI) fun _=>Wk<|Ws<|g 13 41 (.n (Int.toNat m.task)::.x (ai y)::(RL 6 BT (.call VT [[],[],[]]::(RL 10 BT [.i ((↑(List.length (List.map ai b.log.safe)):Int) + (↑(List.length (List.map ai b.log.loose)):Int)),BT,BT]))))<|J QZ<|Wc<|J (fun h1=>?_) fun h1=>?_
     replace h1:=dt h1
     simp only[LM]at h1
     omega
     replace h1:=df h1
     simp only[LM]at h1
     refine Wk<|Ws<|g 41 76 [.n (Int.toNat m.task),.x (ai y)]<|J QZ<|Wc<|J (fun _=>(rg [.call (V.tup [aF b,V.b false]) [[],[]]]<|J QZ (Ws ?_))) (noF tO)
     by_cases h2:y = Message.text m
     refine gd 76 97 [[],[],[],[],[.n (Int.toNat m.task)],[.x (ai y)],[],[],[],[],[BF],[BF],[BF],[BF],[BF]] ?_
     conv=>whnf
     refine J QZ<|J KR<|Wc<|J (fun _=>(g 97 99 []<|J QZ (RT ?_))) (noF (by simp_all))
     rfl
     refine gd 76 97 [[],[],[],[],[.n (Int.toNat m.task)],[.x (ai y)],[],[],[],[],[BT],[BT],[BT],[BT],[BT]] ?_
     conv=>whnf
     refine J QZ<|J KR<|Wc<|J (fun _=>(g 97 99 []<|J QZ (RT ?_))) (noF rfl)
     rfl
    ·have cfr:=nu b m hx ⟨f1,f8⟩ ho
     rw[ni ho]at cfr ⊢
     refine cg ?_
     conv=>whnf
     refine g 0 0 []<|J QZ<|Ws<|g 10 13 []<|J UF<|Wc<|J (noT SI) fun _=>Wk<|Ws<|g 13 41 (.n (Int.toNat m.task)::.x (ai y)::(RL 6 BT (.call VT [[],[],[]]::(RL 10 BT [.i ((↑(List.length (List.map ai b.log.safe)):Int) + (↑(List.length (List.map ai b.log.loose)):Int)),BT,BT]))))<|J QZ<|Wc<|J (fun h1=>?_) fun h1=>?_
     replace h1:=dt h1
     simp only[LM]at h1
     omega
     replace h1:=df h1
     simp only[LM]at h1
     refine Wk<|Ws<|g 41 76 [.n (Int.toNat m.task),.x (ai y)]<|J QZ<|Wc<|J (fun _=>(rg [.call (V.tup [aF {workers:=b.workers,up:=b.up,now:=b.now,since:=b.since,epoch:=b.epoch,given:=b.given,log:=b.log,results:=b.results,jobs:=b.jobs,seats:=List.set b.seats (gE m) {free:=true,epoch:=m.epoch:Seat},owed:=b.owed:Boss},V.b true]) [[],[]]]<|J QZ (Ws ?_))) (noF tO)
     by_cases h2:y = Message.text m
     refine gd 76 97 [[],[],[],[],[.n (Int.toNat m.task)],[.x (ai y)],[],[],[],[],[BF],[BF],[BF],[BF],[BF]] ?_
     conv=>whnf
     refine J QZ<|J KR<|Wc<|J (fun _=>(g 97 99 []<|J QZ (RT ?_))) (noF (by simp_all))
     rfl
     refine gd 76 97 [[],[],[],[],[.n (Int.toNat m.task)],[.x (ai y)],[],[],[],[],[BT],[BT],[BT],[BT],[BT]] ?_
     conv=>whnf
     refine J QZ<|J KR<|Wc<|J (fun _=>(g 97 99 []<|J QZ (RT ?_))) (noF rfl)
     rfl
   ·rw[decide_eq_false hF]at crd
    by_cases ho:tu b m
    ·have cfr:=ns b m hx ⟨f1,f8⟩ ho
     rw[ut ho]
     refine cg ?_
     conv=>whnf
     refine g 0 0 []<|J QZ<|Ws<|g 10 13 []<|J UF<|Wc<|J (noT SI) fun _=>Wk<|Ws<|g 13 41 (.n (Int.toNat m.task)::.x (ai y)::(RL 6 BT (.call VF [[],[],[]]::BT::(RL 11 BF []))))<|J QZ<|Wc<|J (noT rfl) fun _=>Wk<|Ws<|g 41 76 [.n (Int.toNat m.task),.x (ai y)]<|J QZ<|Wc<|J (fun _=>?_) (noF tO)
     refine rg [.call (V.tup [aF b,V.b false]) [[],[]]]<|J QZ<|Ws ?_
     by_cases h1:y = Message.text m
     refine gd 76 97 [[],[],[],[],[.n (Int.toNat m.task)],[.x (ai y)],[],[],[],[],[BF],[BF],[BF],[BF],[BF]] ?_
     conv=>whnf
     refine J QZ<|J KR<|Wc<|J (fun _=>(g 97 99 []<|J QZ (RT ?_))) (noF (by simp_all))
     rfl
     refine gd 76 97 [[],[],[],[],[.n (Int.toNat m.task)],[.x (ai y)],[],[],[],[],[BT],[BT],[BT],[BT],[BT]] ?_
     conv=>whnf
     refine J QZ<|J KR<|Wc<|J (fun _=>(g 97 99 []<|J QZ (RT ?_))) (noF rfl)
     rfl
    ·have cfr:=nu b m hx ⟨f1,f8⟩ ho
     rw[ni ho]at cfr ⊢
     refine cg ?_
     conv=>whnf
     refine g 0 0 []<|J QZ<|Ws<|g 10 13 []<|J UF<|Wc<|J (noT SI) fun _=>Wk<|Ws<|g 13 41 (.n (Int.toNat m.task)::.x (ai y)::(RL 6 BT (.call VF [[],[],[]]::BT::(RL 11 BF []))))<|J QZ<|Wc<|J (noT rfl) fun _=>Wk<|Ws<|g 41 76 [.n (Int.toNat m.task),.x (ai y)]<|J QZ<|Wc<|J (fun _=>?_) (noF tO)
     refine rg [.call (V.tup [aF {workers:=b.workers,up:=b.up,now:=b.now,since:=b.since,epoch:=b.epoch,given:=b.given,log:=b.log,results:=b.results,jobs:=b.jobs,seats:=List.set b.seats (gE m) {free:=true,epoch:=m.epoch:Seat},owed:=b.owed:Boss},V.b true]) [[],[]]]<|J QZ<|Ws ?_
     by_cases h1:y = Message.text m
     refine gd 76 97 [[],[],[],[],[.n (Int.toNat m.task)],[.x (ai y)],[],[],[],[],[BF],[BF],[BF],[BF],[BF]] ?_
     conv=>whnf
     refine J QZ<|J KR<|Wc<|J (fun _=>(g 97 99 []<|J QZ (RT ?_))) (noF (by simp_all))
     rfl
     refine gd 76 97 [[],[],[],[],[.n (Int.toNat m.task)],[.x (ai y)],[],[],[],[],[BT],[BT],[BT],[BT],[BT]] ?_
     conv=>whnf
     refine J QZ<|J KR<|Wc<|J (fun _=>(g 97 99 []<|J QZ (RT ?_))) (noF rfl)
     rfl
 ·rw[Kj (by rw[hya];exact hA)]
  by_cases hs:y = m.text
  ·by_cases hO:b.owed.length < 2000
   ·refine cg ?_
    conv=>whnf
    refine g 0 0 []<|J QZ<|Ws<|g 10 13 []<|J UF<|Wc<|J (noT SI) fun _=>Wk<|Ws<|g 13 41 (.n (Int.toNat m.task)::.x (ai y)::(RL 18 BF []))<|J QZ<|Wc<|J (noT rfl) fun _=>Wk<|Ws<|g 41 76 [.n (Int.toNat m.task),.x (ai y)]<|J QZ<|Wc<|J (noT dO) fun _=>?_
    refine Wk<|Ws<|gd 76 97 [[],[],[],[],[.n (Int.toNat m.task)],[.x (ai y)],[],[],[],[],[BF],[BF],[BF],[BF],[BF]] ?_
    conv=>whnf
    refine J QZ<|J KR<|Wc<|J (fun h1=>?_) fun h1=>?_
    replace h1:=dt h1
    simp only[LM]at h1
    omega
    replace h1:=df h1
    simp only[LM]at h1
    refine Wk<|Ws<|g 4 5 []<|J UA<|Wb<|Wl (fun s (n:Nat)=>⟨(SK s [0,1,2,3,5,6] [(7,.i n),(9,s.s 9)]),[(140,(CK s 140 0 12 [])),(3,(CK s 3 0 12 [])),(5,(CK s 5 0 8 [])),(6,(CK s 6 0 12 []))],[]⟩) (fun(n:Nat)=>n≤b.owed.length∧∀ o∈b.owed.take n,¬(o.worker = m.frm∧o.lease = m.lease)) (fun(n:Nat)=>b.owed.length - n) (0) [some 140,some 3,some 5,some 6] [] ⟨rfl,FZ,⟨Zaa,FZ⟩,I⟩ (by simp) ?_
    rintro n ⟨hn,hc⟩
    by_cases hn2:n < b.owed.length
    ·obtain⟨o,ho⟩:=ae hn2
     by_cases hw:o.worker = m.frm
     ·by_cases hl:o.lease = m.lease
      ·rw[ic (fun q=>ui ho ⟨hw,hl⟩ q.new)]
       conv=>whnf
       refine Ws<|g 99 103 []<|J UE<|Wc<|J (fun _=>(Wk (Ws (Wb (gd 103 125 [[],[],[],[.n (n)],[],[.x (aJ o)],[],[],[],[],[BT],[BT],[BT],[BT,.n (n)],[BT],[BT,.x (aJ o)],[BT],[BT],[BT],[BT]] ?_))))) (noF SI)
       conv=>whnf
       refine⟨Zad,by kernel_rfl,?_⟩
       refine Wc<|J (fun _=>(g 125 127 []<|J QZ (RT ?_))) (noF tO)
       rfl
       all_goals (simp only[nB,aF,cellsOf,List.map_set,List.map_append,List.map_cons,List.map_nil];rfl)
      ·conv=>whnf
       refine Ws<|g 99 103 []<|J UE<|Wc<|J (fun _=>(Wk (Ws (Wb (gd 103 125 [[],[],[],[.n (n)],[],[.x (aJ o)],[],[],[],[],[BT],[BT],[BT],[BT,.n (n)],[BT],[BT,.x (aJ o)],[BT],[BT],[BT],[BT]] ?_))))) (noF SI)
       conv=>whnf
       refine⟨Zad,by kernel_rfl,?_⟩
       refine Wc<|J (noT dO) fun _=>Wk<|rg [.i ((n:Int) +1)]<|J QZ ?_
       refine⟨n+1,[some 140,some 3,some 5,some 6],[],⟨rfl,FZ,⟨Zaa,FZ⟩,I⟩,?_,?_⟩
       rotate_left
       (dsimp only;omega)
       dsimp only
       exact⟨by omega,en hc ho fun q=>hl q.2⟩
     ·conv=>whnf
      refine Ws<|g 99 103 []<|J UE<|Wc<|J (fun _=>(Wk (Ws (Wb (gd 103 125 [[],[],[],[.n (n)],[],[.x (aJ o)],[],[],[],[],[BF],[BF],[BF],[BF],[BF],[BF],[BF],[BF],[BF],[BF]] ?_))))) (noF SI)
      conv=>whnf
      refine⟨⟨I,I,I,Zan,I,xA,I,I,I,I,dO,dO,dO,dO,dO,dO,dO,dO,dO,dO,I⟩,by kernel_rfl,?_⟩
      refine Wc<|J (noT rfl) fun _=>Wk<|rg [.i ((n:Int) +1)]<|J QZ ?_
      refine⟨n+1,[some 140,some 3,some 5,some 6],[],⟨rfl,FZ,⟨Zaa,FZ⟩,I⟩,?_,?_⟩
      rotate_left
      (dsimp only;omega)
      dsimp only
      exact⟨by omega,en hc ho fun q=>hw q.1⟩
    ·rw[aH OM]at hc
     rw[ue ⟨by rw[hya];exact hs,hO,hc⟩]
     conv=>whnf
     refine Ws<|g 99 103 []<|J UE<|Wc<|J (noT SI) fun _=>We<|g 7 139 []<|J QZ<|g 0 6 []<|J QZ<|RT ?_
     all_goals (simp only[nB,aF,cellsOf,List.map_set,List.map_append,List.map_cons,List.map_nil];rfl)
   ·rw[ic (fun q=>hO q.room)]
    refine cg ?_
    conv=>whnf
    refine g 0 0 []<|J QZ<|Ws<|g 10 13 []<|J UF<|Wc<|J (noT SI) fun _=>Wk<|Ws<|g 13 41 (.n (Int.toNat m.task)::.x (ai y)::(RL 18 BF []))<|J QZ<|Wc<|J (noT rfl) fun _=>Wk<|Ws<|g 41 76 [.n (Int.toNat m.task),.x (ai y)]<|J QZ<|Wc<|J (noT dO) fun _=>?_
    refine Wk<|Ws<|gd 76 97 [[],[],[],[],[.n (Int.toNat m.task)],[.x (ai y)],[],[],[],[],[BF],[BF],[BF],[BF],[BF]] ?_
    conv=>whnf
    refine J QZ<|J KR<|Wc<|J (fun h1=>?_) fun h1=>?_
    replace h1:=dt h1
    simp only[LM]at h1
    refine g 97 99 []<|J QZ<|RT ?_
    rfl
    replace h1:=df h1
    simp only[LM]at h1
    omega
  ·rw[ic (fun q=>hs (by rw[←q.same,hya]))]
   refine cg ?_
   conv=>whnf
   refine g 0 0 []<|J QZ<|Ws<|g 10 13 []<|J UF<|Wc<|J (noT SI) fun _=>Wk<|Ws<|g 13 41 (.n (Int.toNat m.task)::.x (ai y)::(RL 18 BF []))<|J QZ<|Wc<|J (noT rfl) fun _=>Wk<|Ws<|g 41 76 [.n (Int.toNat m.task),.x (ai y)]<|J QZ<|Wc<|J (noT dO) fun _=>?_
   refine Wk<|Ws<|gd 76 97 [[],[],[],[],[.n (Int.toNat m.task)],[.x (ai y)],[],[],[],[],[BT],[BT],[BT],[BT],[BT]] ?_
   conv=>whnf
   refine J QZ<|J KR<|Wc<|J (fun _=>(g 97 99 []<|J QZ (RT ?_))) (noF rfl)
   rfl
end Go.K
end
section
open Go Go.Tm Go.Proofs
namespace Go.K
theorem yZ(b:Boss)(p:Plan)(m:Message)(hp:dy p)(h:BossLim b)(hm:m.inputs.length≤9223372036854775806):F x8 [.val (fT b),.val (cV p),.val (eS m)] (N3 (E7 b p m)) [[],[],[]]:=by
 have cv:=po b p hp h
 by_cases hv:BossOk b p
 ·rw[decide_eq_true hv]at cv
  rw[pt hv]
  have ct:=qD b h
  have cm:=o4 m hm
  by_cases hf:ForB b m
  ·obtain⟨u1,u2,u3,u4,u5,u6,⟨u7,u8⟩,⟨u9,u10⟩,u11,u12,u13,u14⟩:=hv.up hf.up
   obtain⟨hkd,⟨f1,f2⟩,⟨e1,e2⟩⟩:=pm hf
   have hnow:=hv.now
   have hwk:=hv.workers
   have hpl:=(bU hv.plan).1
   obtain⟨g1,g2,g3,g4⟩:=hf
   have hf:ForB b m:=⟨g1,g2,g3,g4⟩
   rw[decide_eq_true g2]at cm
   have hsi:gE m < b.seats.length:=by unfold gE;omega
   obtain⟨x,hx⟩:=ae hsi
   rcases hkd with hk|hk|hk
   ·rw[pC hf hk]
    refine ci ?_
    conv=>whnf
    refine g 2 3 []<|J QZ<|Ws<|g 12 13 [.call VT [[],[]]]<|J QZ<|Wc<|J (noT rfl) fun _=>Wk<|g 14 19 [.call (aF b) [[]]]<|J QZ<|Ws<|g 13 38 (BF::BF::.call VT [[]]::(RL 12 BF []))<|J QZ<|Wc<|J (noT dO) fun _=>Wk<|Ws<|g 38 42 []<|J UB ?_
    refine Wb<|g 3 4 []<|J UB<|Wc<|J (noT dO) fun _=>g 43 45 []<|J UB<|Wc<|J (fun _=>(g 42 78 []<|J UA (Wb (Wl (fun s (n:Nat)=>⟨(SK s [0,5,6,7] [(11,.i n)]),[(5,(CK s 5 0 8 [])),(6,(CK s 6 0 13 [])),(7,[.t (.i b.workers),.t (.b b.up),.t (.i b.now),.t (.i b.since),.t (.i b.epoch),.t (.i b.given),.own [false] (b.log.safe.map ai),.own [false] (b.log.loose.map ai),.own [false] (b.results.map ai),.own dU ((gB (ox m.lease (b.now+12)) b.jobs n).map aI),.own bJ (b.seats.map aE),.own bK (b.owed.map aJ)])],[]⟩) (fun(n:Nat)=>n≤b.jobs.length) (fun(n:Nat)=>b.jobs.length - n) (0) [some 5,some 6,some 7] [] FZ OM ?_)))) (noF tO)
    intro n hn
    have hl:=ju (ox m.lease (b.now+12)) b.jobs n
    by_cases hj:n < b.jobs.length
    ·obtain⟨j,hj1⟩:=ae hj
     by_cases hd:j.lease = m.lease
     ·have e:=Lf (u:=b.now+12) hj1 hd
      conv=>whnf
      refine Ws<|g 78 82 []<|J UE<|Wc<|J (fun _=>(Wk (Ws (Wb (gd 82 93 [[],[],[],[.n (n)],[],[.x (aI j)],[],[],[]] ?_))))) (noF (by simp_all))
      conv=>whnf
      refine⟨⟨I,I,I,Zan,I,bw AS,I,I,I,I⟩,by kernel_rfl,?_⟩
      refine Wc<|J (fun _=>(rg [.i (b.now+12),.n (n),.x (aI j)]<|J (QA @bw) (rg [.i ((n:Int) +1)]<|J QZ ?_))) (noF tO)
      refine⟨n+1,[some 5,some 6,some 7],[],⟨rfl,FZ,⟨FZ,⟨FZ,⟨⟨rfl,⟨rfl,⟨rfl,⟨rfl,⟨rfl,⟨rfl,⟨rfl,⟨rfl,⟨rfl,⟨rfl,⟨(congrArg (V.own _) (e)),FZ⟩⟩⟩⟩⟩⟩⟩⟩⟩⟩⟩,I⟩⟩⟩,I⟩,?_,?_⟩
      rotate_left
      (dsimp only;omega)
      dsimp only
      omega
     ·have e:=Pq (u:=b.now+12) hj1 hd
      conv=>whnf
      refine Ws<|g 78 82 []<|J UE<|Wc<|J (fun _=>(Wk (Ws (Wb (gd 82 93 [[],[],[],[.n (n)],[],[.x (aI j)],[],[],[]] ?_))))) (noF (by simp_all))
      conv=>whnf
      refine⟨⟨I,I,I,Zan,I,bw AS,I,I,I,I⟩,by kernel_rfl,?_⟩
      refine Wc<|J (noT dO) fun _=>Wk<|rg [.i ((n:Int) +1)]<|J QZ ?_
      refine⟨n+1,[some 5,some 6,some 7],[],⟨rfl,FZ,⟨FZ,⟨FZ,⟨⟨rfl,⟨rfl,⟨rfl,⟨rfl,⟨rfl,⟨rfl,⟨rfl,⟨rfl,⟨rfl,⟨rfl,⟨(congrArg (V.own _) (by rw[←e])),FZ⟩⟩⟩⟩⟩⟩⟩⟩⟩⟩⟩,I⟩⟩⟩,I⟩,?_,?_⟩
      rotate_left
      (dsimp only;omega)
      dsimp only
      omega
    ·have e:=jv (ox m.lease (b.now+12)) b.jobs (n:=n) OM
     conv=>whnf
     refine Ws<|g 78 82 []<|J UE<|Wc<|J (noT (by simp_all)) fun _=>We<|g 7 110 []<|J QZ<|RT ?_
     rw[e]
     rfl
   ·by_cases ht:m.task < p.tasks.length
    ·rw[t8 hf hk ht]
     have cr:=yU b p m (TX hv h hf hk ht) f2
     refine ci ?_
     conv=>whnf
     refine g 2 3 []<|J QZ<|Ws<|g 12 13 [.call VT [[],[]]]<|J QZ<|Wc<|J (noT rfl) fun _=>Wk<|g 14 19 [.call (aF b) [[]]]<|J QZ<|Ws<|g 13 38 (BF::BF::.call VT [[]]::(RL 12 BF []))<|J QZ<|Wc<|J (noT dO) fun _=>Wk<|Ws<|g 38 42 []<|J UB ?_
     refine Wb<|g 3 4 []<|J UB<|Wc<|J (noT dO) fun _=>g 43 45 []<|J UB<|Wc<|J (noT dO) fun _=>g 42 78 []<|J UB<|Wc<|J (fun _=>(rg [.call (aF (fq b p.tasks m)) [[],[],[]]]<|J QZ (g 7 110 []<|J QZ (RT ?_)))) (noF tO)
     rfl
    ·rw[t9 hf hk ht]
     have cr:=AW b p m OM ht
     refine ci ?_
     conv=>whnf
     refine g 2 3 []<|J QZ<|Ws<|g 12 13 [.call VT [[],[]]]<|J QZ<|Wc<|J (noT rfl) fun _=>Wk<|g 14 19 [.call (aF b) [[]]]<|J QZ<|Ws<|g 13 38 (BF::BF::.call VT [[]]::(RL 12 BF []))<|J QZ<|Wc<|J (noT dO) fun _=>Wk<|Ws<|g 38 42 []<|J UB ?_
     refine Wb<|g 3 4 []<|J UB<|Wc<|J (noT dO) fun _=>g 43 45 []<|J UB<|Wc<|J (noT dO) fun _=>g 42 78 []<|J UB<|Wc<|J (fun _=>(rg [.call (aF b) [[],[],[]]]<|J QZ (g 7 110 []<|J QZ (RT ?_)))) (noF tO)
     rfl
   ·rw[pB hf hk]
    by_cases ho:tu b m
    ·rw[KT ho]
     have cfr:=ns b m hx ⟨f1,f2⟩ ho
     refine ci ?_
     conv=>whnf
     refine g 2 3 []<|J QZ<|Ws<|g 12 13 [.call VT [[],[]]]<|J QZ<|Wc<|J (noT rfl) fun _=>Wk<|g 14 19 [.call (aF b) [[]]]<|J QZ<|Ws<|g 13 38 (BF::BF::.call VT [[]]::(RL 12 BF []))<|J QZ<|Wc<|J (noT dO) fun _=>Wk<|Ws<|g 38 42 []<|J UB ?_
     refine Wb<|g 3 4 []<|J UB<|Wc<|J (fun _=>(g 42 46 [.call (V.tup [aF b,V.b false]) [[],[]]]<|J QZ (g 47 52 []<|J QZ (g 4 5 []<|J UA (Wb (Wl (fun s (n:Nat)=>⟨(SK s [0,1,5,6,7,9] [(10,.i n),(46,s.s 46)]),[(5,(CK s 5 0 8 [])),(6,(CK s 6 0 13 [])),(7,(CK s 7 0 12 []))],[]⟩) (fun(n:Nat)=>n = 0) (fun(n:Nat)=>0) (0) [some 5,some 6,some 7] [] FZ OM ?_)))))) (noF tO)
     intro n hn
     conv=>whnf
     refine Ws<|g 52 59 (RL 6 BF [])<|J QZ<|Wc<|J (noT rfl) fun _=>We<|g 0 6 []<|J QZ<|RT ?_
     rfl
    ·rw[KU ho]
     have cfr:=nu b m hx ⟨f1,f2⟩ ho
     rw[ni ho]at cfr
     refine ci ?_
     conv=>whnf
     refine g 2 3 []<|J QZ<|Ws<|g 12 13 [.call VT [[],[]]]<|J QZ<|Wc<|J (noT rfl) fun _=>Wk<|g 14 19 [.call (aF b) [[]]]<|J QZ<|Ws<|g 13 38 (BF::BF::.call VT [[]]::(RL 12 BF []))<|J QZ<|Wc<|J (noT dO) fun _=>Wk<|Ws<|g 38 42 []<|J UB ?_
     refine Wb<|g 3 4 []<|J UB<|Wc<|J (fun _=>(g 42 46 [.call (V.tup [aF {workers:=b.workers,up:=b.up,now:=b.now,since:=b.since,epoch:=b.epoch,given:=b.given,log:=b.log,results:=b.results,jobs:=b.jobs,seats:=List.set b.seats (gE m) {free:=true,epoch:=m.epoch:Seat},owed:=b.owed:Boss},V.b true]) [[],[]]]<|J QZ (g 47 52 []<|J QZ (g 4 5 []<|J UA (Wb (Wl (fun s (n:Nat)=>⟨(SK s [0,1,5,6,7,9] [(10,.i n),(46,s.s 46)]),[(5,(CK s 5 0 8 [])),(6,(CK s 6 0 13 [])),(7,[.t (.i b.workers),.t (.b b.up),.t (.i b.now),.t (.i b.since),.t (.i b.epoch),.t (.i b.given),.own [false] (b.log.safe.map ai),.own [false] (b.log.loose.map ai),.own [false] (b.results.map ai),.own dU ((gB (nM m.frm) b.jobs n).map aI),.own bJ ((b.seats.set (gE m) ⟨true,m.epoch⟩).map aE),.own bK (b.owed.map aJ)])],[]⟩) (fun(n:Nat)=>n≤b.jobs.length) (fun(n:Nat)=>b.jobs.length - n) (0) [some 5,some 6,some 7] [] FZ OM ?_)))))) (noF tO)
     intro n hn
     have hl:=ju (nM m.frm) b.jobs n
     by_cases hj:n < b.jobs.length
     ·obtain⟨j,hj1⟩:=ae hj
      by_cases hd:j.worker = m.frm
      ·have e:=KX hj1 hd
       conv=>whnf
       refine Ws<|g 52 59 (RL 6 BT [])<|J QZ<|Wc<|J (fun _=>(Wk (Ws (Wb (gd 59 70 [[],[],[],[.n (n)],[],[.x (aI j)],[],[],[]] ?_))))) (noF (by simp_all))
       conv=>whnf
       refine⟨⟨I,I,I,Zan,I,bw AS,I,I,I,I⟩,by kernel_rfl,?_⟩
       refine Wc<|J (fun _=>(rg [.n (n),.x (aI j)]<|J (QA @bw) (rg [.i ((n:Int) +1)]<|J QZ ?_))) (noF tO)
       refine⟨n+1,[some 5,some 6,some 7],[],⟨rfl,FZ,⟨FZ,⟨FZ,⟨⟨rfl,⟨rfl,⟨rfl,⟨rfl,⟨rfl,⟨rfl,⟨rfl,⟨rfl,⟨rfl,⟨rfl,⟨(congrArg (V.own _) (e)),FZ⟩⟩⟩⟩⟩⟩⟩⟩⟩⟩⟩,I⟩⟩⟩,I⟩,?_,?_⟩
       rotate_left
       (dsimp only;omega)
       dsimp only
       omega
      ·have e:=Oh hj1 hd
       conv=>whnf
       refine Ws<|g 52 59 (RL 6 BT [])<|J QZ<|Wc<|J (fun _=>(Wk (Ws (Wb (gd 59 70 [[],[],[],[.n (n)],[],[.x (aI j)],[],[],[]] ?_))))) (noF (by simp_all))
       conv=>whnf
       refine⟨⟨I,I,I,Zan,I,bw AS,I,I,I,I⟩,by kernel_rfl,?_⟩
       refine Wc<|J (noT dO) fun _=>Wk<|rg [.i ((n:Int) +1)]<|J QZ ?_
       refine⟨n+1,[some 5,some 6,some 7],[],⟨rfl,FZ,⟨FZ,⟨FZ,⟨⟨rfl,⟨rfl,⟨rfl,⟨rfl,⟨rfl,⟨rfl,⟨rfl,⟨rfl,⟨rfl,⟨rfl,⟨(congrArg (V.own _) (by rw[←e])),FZ⟩⟩⟩⟩⟩⟩⟩⟩⟩⟩⟩,I⟩⟩⟩,I⟩,?_,?_⟩
       rotate_left
       (dsimp only;omega)
       dsimp only
       omega
     ·have e:=jv (nM m.frm) b.jobs (n:=n) OM
      conv=>whnf
      refine Ws<|g 52 59 (RL 6 BT [])<|J QZ<|Wc<|J (noT (by simp_all)) fun _=>We<|g 0 6 []<|J QZ<|RT ?_
      (simp[*];done)
  ·rw[Ib hf]
   by_cases g1:b.up = true
   ·by_cases g2:bL m
    ·rw[decide_eq_true g2]at cm
     by_cases g3:m.to = 0
     ·have g4:¬m.frm≤b.workers:=fun q=>hf ⟨g1,g2,g3,q⟩
      refine ci ?_
      conv=>whnf
      refine g 2 3 []<|J QZ<|Ws<|g 12 13 [.call VT [[],[]]]<|J QZ<|Wc<|J (noT rfl) fun _=>Wk<|g 14 19 [.call (aF b) [[]]]<|J QZ<|Ws<|g 13 38 (BF::BF::.call VT [[]]::(RL 12 BF []))<|J QZ<|Wc<|J (fun _=>(g 38 41 []<|J QZ (RT ?_))) (noF tO)
      rfl
     ·refine ci ?_
      conv=>whnf
      refine g 2 3 []<|J QZ<|Ws<|g 12 13 [.call VT [[],[]]]<|J QZ<|Wc<|J (noT rfl) fun _=>Wk<|g 14 19 [.call (aF b) [[]]]<|J QZ<|Ws<|g 13 38 (BF::BF::.call VT [[]]::(RL 6 BF (RL 6 BT [])))<|J QZ<|Wc<|J (fun _=>(g 38 41 []<|J QZ (RT ?_))) (noF rfl)
      rfl
    ·rw[decide_eq_false g2]at cm
     refine ci ?_
     conv=>whnf
     refine g 2 3 []<|J QZ<|Ws<|g 12 13 [.call VT [[],[]]]<|J QZ<|Wc<|J (noT rfl) fun _=>Wk<|g 14 19 [.call (aF b) [[]]]<|J QZ<|Ws<|g 13 38 (BF::BF::.call VF [[]]::BF::BF::(RL 10 BT []))<|J QZ<|Wc<|J (fun _=>(g 38 41 []<|J QZ (RT ?_))) (noF rfl)
     rfl
   ·refine ci ?_
    conv=>whnf
    refine g 2 3 []<|J QZ<|Ws<|g 12 13 [.call VT [[],[]]]<|J QZ<|Wc<|J (noT rfl) fun _=>Wk<|g 14 19 [.call (aF b) [[]]]<|J QZ<|Ws<|g 13 38 (RL 14 BT [])<|J QZ<|Wc<|J (fun _=>(g 38 41 []<|J QZ (RT ?_))) (noF rfl)
    rfl
 ·rw[decide_eq_false hv]at cv
  rw[Tp hv]
  refine ci ?_
  conv=>whnf
  refine g 2 3 []<|J QZ<|Ws<|g 12 13 [.call VF [[],[]]]<|J QZ<|Wc<|J (fun _=>(g 14 17 []<|J QZ (RT ?_))) (noF rfl)
  rfl
end Go.K
end
section
open Go Go.Tm Go.Proofs
namespace Go.K
def db(a b key:ByteArray):Bool:=decide (¬b = a) && (eG b key).isSome
theorem Ew(k:Int)(a b key:ByteArray)(h:b.size≤68719476736):F Dc [.val (Mj k a b),.val (.s key)] (.b (db a b key)) [[],[]]:=by
 by_cases e:b = a
 ·have f:db a b key = false:=by unfold db;simp[e]
  rw[f]
  refine lC ?_
  conv=>whnf
  refine g 0 1 []<|J QZ<|Ws<|g 7 11 []<|J UE<|Wc<|J (fun _=>(g 11 12 []<|J UA (RT ?_))) (noF tO)
  rfl
 ·have c1:=j5 b key h
  unfold db
  cases hr:eG b key with
  |none =>
   rw[hr]at c1
   refine lC ?_
   conv=>whnf
   refine g 0 1 []<|J QZ<|Ws<|g 7 11 []<|J UE<|Wc<|J (noT dO) fun _=>Wk<|g 11 19 [.call (gA none) [[],[]]]<|J QZ<|g 5 20 []<|J UB<|RT ?_
   (simp[*];done)
  |some m =>
   rw[hr]at c1
   refine lC ?_
   conv=>whnf
   refine g 0 1 []<|J QZ<|Ws<|g 7 11 []<|J UE<|Wc<|J (noT dO) fun _=>Wk<|g 11 19 [.call (gA (some m)) [[],[]]]<|J QZ<|g 5 20 []<|J UB<|RT ?_
   (simp[*];done)
theorem gm(w:World)(h:DoLim w):F C2 [.val (gi w)] (ax w) [[]]:=by
 obtain⟨l1,l2,l3,l4,l5,l6,l7,l8⟩:=h
 have c1:=lL w.plan l2
 have c2:=qD w.boss l3
 have c3:=dK w.flight OM
 refine DJ ?_
 conv=>whnf
 refine g 0 0 []<|J QZ<|gd 5 19 [[],[],[.call (eA w.plan) [[]]],[],[],[],[],[.call (aF w.boss) [[]]],[],[],[.call (V.own pkd (List.map bh w.flight)) [[]]],[],[],[],[],[]] ?_
 conv=>whnf
 refine J QZ<|J KR<|Ws<|g 0 0 []<|J UA<|Wb<|Wl (fun s (n:Nat)=>⟨(SK s [0,1,2,3] [(4,.i n)]),[(1,(CK s 1 0 17 [])),(2,(CK s 2 0 17 [])),(3,[.own cY (w.plan.tasks.map ay),.t (.s w.key),.t (.i w.boss.workers),.t (.b w.boss.up),.t (.i w.boss.now),.t (.i w.boss.since),.t (.i w.boss.epoch),.t (.i w.boss.given),.own [false] (w.boss.log.safe.map ai),.own [false] (w.boss.log.loose.map ai),.own [false] (w.boss.results.map ai),.own dU (w.boss.jobs.map aI),.own bJ (w.boss.seats.map aE),.own bK (w.boss.owed.map aJ),.own cz ((w.workers.take n).map ag),.own pkd (w.flight.map bh),.t (.s w.forged)])],[]⟩) (fun(n:Nat)=>n≤w.workers.length) (fun(n:Nat)=>w.workers.length - n) (0) [some 1,some 2,some 3] [] FZ OM ?_
 intro n hn
 by_cases hn2:n < w.workers.length
 ·obtain⟨x,hx⟩:=ae hn2
  have hxi:=l5 x (List.mem_of_getElem? hx)
  have c4:=aG x OM
  conv=>whnf
  refine Ws<|g 19 23 []<|J UE<|Wc<|J (fun _=>(Wk (Ws (Wb (rgd [[],[],[],[],[],[.x (ag x)],[],[.call (aA x) [[]]],[],[],[],[]] ?_))))) (noF SI)
  conv=>whnf
  refine⟨⟨I,I,I,I,I,Zap,I,⟨UA,I,⟨UK,I⟩,UA,AS⟩,⟨UK,I⟩,Zao,I,UA,I⟩,by kernel_rfl,?_⟩
  refine rg [.i ((n:Int) +1)]<|J QZ ?_
  refine⟨n+1,[some 1,some 2,some 3],[],⟨rfl,FZ,⟨FZ,⟨FZ,⟨⟨rfl,⟨rfl,⟨rfl,⟨rfl,⟨rfl,⟨rfl,⟨rfl,⟨rfl,⟨rfl,⟨rfl,⟨rfl,⟨rfl,⟨rfl,⟨rfl,⟨rfl,⟨(congrArg (V.own _) (pD AS)),FZ⟩⟩⟩⟩⟩⟩⟩⟩⟩⟩⟩⟩⟩⟩⟩⟩,I⟩⟩⟩,I⟩,?_,?_⟩
  rotate_left
  (dsimp only;omega)
  dsimp only
  omega
 ·have e:w.workers.take n = w.workers:=aH OM
  conv=>whnf
  refine Ws<|g 19 23 []<|J UE<|Wc<|J (noT SI) fun _=>We<|g 3 38 []<|J QZ<|RT ?_
  (simp[*];done)
theorem lK(w:World)(h:DoLim w):F C0 [.val (ax w)] (ax (iv w)) [[]]:=by
 obtain⟨l1,l2,l3,l4,l5,l6,l7,l8⟩:=h
 by_cases h0:1000000≤w.boss.now
 ·rw[tZ h0]
  refine qs ?_
  conv=>whnf
  refine g 0 1 []<|J QZ<|Ws<|g 7 10 []<|J UD<|Wc<|J (fun _=>(g 10 12 []<|J QZ (RT ?_))) (noF tO)
  rfl
 ·rw[NC h0]
  have c1:=yY w.boss w.plan l1 l3
  obtain⟨s1,s2,s3⟩:=xQ w.plan l3
  have s4:=Gk w.boss w.plan
  generalize pW w.boss w.plan = L at c1 s1 s2 s3 s4 ⊢
  refine qs ?_
  conv=>whnf
  refine g 0 1 []<|J QZ<|Ws<|g 7 10 []<|J UD<|Wc<|J (noT dO) fun _=>Wk<|g 10 17 [.call (N3 L) [[],[]]]<|J QZ<|g 17 20 []<|J QZ<|g 20 22 [.g]<|J QZ<|Ws<|g 3 4 []<|J UA<|Wb<|Wl (fun s (n:Nat)=>⟨[(1,s.s 1),(2,s.s 2),(4,.ref ⟨4,none,0⟩),(5,.i n)],[(2,(CK s 2 0 17 [])),(4,[.own cS ((L.out++jj w.plan w.workers n).map aL)]),(1,[.own cY (w.plan.tasks.map ay),.t (.s w.key),.t (.i L.boss.workers),.t (.b L.boss.up),.t (.i L.boss.now),.t (.i L.boss.since),.t (.i L.boss.epoch),.t (.i L.boss.given),.own [false] (L.boss.log.safe.map ai),.own [false] (L.boss.log.loose.map ai),.own [false] (L.boss.results.map ai),.own dU (L.boss.jobs.map aI),.own bJ (L.boss.seats.map aE),.own bK (L.boss.owed.map aJ),.own cz ((gB (fun x=>(gb x w.plan).worker) w.workers n).map ag),.own pkd (w.flight.map bh),.t (.s w.forged)])],[]⟩) (fun(n:Nat)=>n≤w.workers.length) (fun(n:Nat)=>w.workers.length - n) (0) [some 2,some 21,some 1] [] ⟨rfl,FZ,⟨FZ,⟨⟨rfl,⟨(congrArg (V.own _) (by rw[B6,List.append_nil])),I⟩⟩,FZ⟩⟩,I⟩ OM ?_
  intro n hn
  have hl:=ju (fun x=>(gb x w.plan).worker) w.workers n
  have ha:=Lh w.plan w.workers n
  by_cases hn2:n < w.workers.length
  ·obtain⟨x,hx⟩:=ae hn2
   have hxi:=l5 x (List.mem_of_getElem? hx)
   have c4:=te x w.plan l1 OM
   have e1:=mM (f:=fun x=>(gb x w.plan).worker) (g:=ag) hx
   have e2:(L.out++jj w.plan w.workers n).map aL++ (gb x w.plan).out.map aL = (L.out++jj w.plan w.workers (n+1)).map aL:=by rw[←B7 hx,←List.map_append,List.append_assoc]
   have hxo:=(pv x w.plan).1
   generalize gb x w.plan = A at c4 e1 e2 hxo
   conv=>whnf
   refine Ws<|g 22 26 []<|J UE<|Wc<|J (fun _=>(Wk (Ws (Wb (gd 26 37 [[],[],[],[.n (n)],[.x (ag x)],[],[],[.x (ag x),.call (qT A) [[],[]]],[],[]] ?_))))) (noF SI)
   conv=>whnf
   refine⟨⟨I,I,I,Zan,bw AS,I,I,⟨UB,I,⟨⟨I,I,I,I,I,I,I,I,bw AS,I,I,I⟩,UA,I⟩,UA,AS⟩,I,UL,I⟩,by kernel_rfl,?_⟩
   refine g 37 43 [.n (n),.x (ag x)]<|J (QA @bw)<|rg []<|J QZ<|rg [.i ((n:Int) +1)]<|J QZ ?_
   refine⟨n+1,[some 2,some 46,some 1],[],⟨rfl,FZ,⟨FZ,⟨⟨rfl,⟨(congrArg (V.own _) (e2)),I⟩⟩,⟨⟨rfl,⟨rfl,⟨rfl,⟨rfl,⟨rfl,⟨rfl,⟨rfl,⟨rfl,⟨rfl,⟨rfl,⟨rfl,⟨rfl,⟨rfl,⟨rfl,⟨rfl,⟨(congrArg (V.own _) (e1)),FZ⟩⟩⟩⟩⟩⟩⟩⟩⟩⟩⟩⟩⟩⟩⟩⟩,I⟩⟩⟩,I⟩,?_,?_⟩
   rotate_left
   (dsimp only;omega)
   dsimp only
   omega
  ·obtain rfl:n = w.workers.length:=by omega
   have e:=jv (fun x=>(gb x w.plan).worker) w.workers (Nat.le_refl _)
   have c5:=xN w.flight (L.out++jj w.plan w.workers w.workers.length) w.key OM (by rw[List.length_append];omega) (fun m hm=>by
    rcases List.mem_append.1 hm with hm|hm
    ·have:=s3 m hm;omega
    ·rw[Li hm];exact Nat.zero_le _)
   conv=>whnf
   refine Ws<|g 22 26 []<|J UE<|Wc<|J (noT SI) fun _=>We<|g 4 52 [.call (V.own pkd (List.map bh (rY w.flight (Led.out L++jj w.plan w.workers (List.length w.workers)) w.key))) [[],[],[]]]<|J QZ<|g 53 55 []<|J QZ<|RT ?_
   (simp[*];done)
   all_goals (rw[e];try rfl)
theorem fz(w:World)(k:Int)(h:DoLim w):F zL [.val (ax w),.val (.i k)] (ax (eK w k)) [[],[]]:=by
 obtain⟨l1,l2,l3,l4,l5,l6,l7,l8⟩:=h
 have c1:=bP w.flight k OM
 by_cases ha:w.flight.length≤2000∧0≤k∧k < w.flight.length
 ·rw[decide_eq_true ha]at c1
  obtain⟨a1,a2,a3⟩:=ha
  obtain⟨s,hs⟩:=ae (xs:=w.flight) (n:=k.toNat) OM
  rw[Gl ⟨a1,a2,a3⟩ hs]
  obtain⟨⟨p1,p2⟩,p3,p4⟩:=l7 s (List.mem_of_getElem? hs)
  have c2:=xO w.flight k OM
  have c3:=Ew s.kind s.frm s.text w.key OM
  have c4:=j5 s.text w.key OM
  cases hm:eG s.text w.key with
  |none =>
   have hg:db s.frm s.text w.key = false:=by unfold db;rw[hm];simp
   rw[hg]at c3
   rw[hm]at c4
   rw[Gn (show eG s.text (du w (cF w.flight k)).key = none from hm)]
   refine bZ ?_
   conv=>whnf
   refine g 0 1 []<|J QZ<|Ws<|g 8 12 [.call VT [[],[]]]<|J QZ<|Wc<|J (noT rfl) fun _=>Wk<|g 12 19 [.n (Int.toNat k),.x (bq s)]<|J QZ<|g 19 24 [.call (V.own pkd (List.map bh (cF w.flight k))) [[],[]]]<|J QZ<|Ws<|g 24 32 [.call VF [[],[]],BF,BF,BF,BF]<|J QZ<|Wc<|J (noT rfl) fun _=>Wk<|g 32 44 [.call (gA none) [[],[]]]<|J QZ ?_
   refine Ws<|g 7 45 []<|J UB<|Wc<|J (fun _=>(g 45 47 []<|J QZ (RT ?_))) (noF rfl)
   rfl
  |some m =>
   rw[hm]at c4
   have hmi:=(dp (Ko hm)).1
   have hm':eG s.text (du w (cF w.flight k)).key = some m:=hm
   have cases3:∀ g:ByteArray,BJ (du w (cF w.flight k)) s = g→((s.text = s.frm∧g = w.forged)∨(¬s.text = s.frm∧¬w.forged = emp∧g = w.forged)∨(¬s.text = s.frm∧w.forged = emp∧g = s.text)):=fun g e=>by
    by_cases q1:s.text = s.frm
    ·exact .inl ⟨q1,by rw[←e,KV q1];rfl⟩
    ·by_cases q2:w.forged = emp
     ·exact .inr (.inr ⟨q1,q2,by rw[←e,Oe q1 (show(du w (cF w.flight k)).forged = emp from q2)]⟩)
     ·exact .inr (.inl ⟨q1,q2,by rw[←e,KW (show ¬(du w (cF w.flight k)).forged = emp from q2)];rfl⟩)
   by_cases h0:s.kind = 0
   ·rw[xT hm' h0]
    have c5:=yZ w.boss w.plan m l1 l3 OM
    show F _ _ (ax ⟨w.plan,w.key,(E7 w.boss w.plan m).boss,w.workers,cF w.flight k,_⟩) _
    generalize E7 w.boss w.plan m = L at c5 ⊢
    generalize hgg:BJ (du w (cF w.flight k)) s = g
    rcases cases3 g hgg with⟨q1,rfl⟩|⟨q1,q2,rfl⟩|⟨q1,q2,rfl⟩
    ·have hg:db s.frm s.text w.key = false:=by unfold db;rw[hm];simp[q1]
     rw[hg]at c3
     refine bZ ?_
     conv=>whnf
     refine g 0 1 []<|J QZ<|Ws<|g 8 12 [.call VT [[],[]]]<|J QZ<|Wc<|J (noT rfl) fun _=>Wk<|g 12 19 [.n (Int.toNat k),.x (bq s)]<|J QZ<|g 19 24 [.call (V.own pkd (List.map bh (cF w.flight k))) [[],[]]]<|J QZ<|Ws<|g 24 32 [.call VF [[],[]],BF,BF,BF,BF]<|J QZ<|Wc<|J (noT rfl) fun _=>Wk<|g 32 44 [.call (gA (some m)) [[],[]]]<|J QZ ?_
     refine Ws<|g 7 45 []<|J UB<|Wc<|J (noT rfl) fun _=>Wk<|Ws<|g 45 49 []<|J UC<|Wc<|J (fun _=>(rg [.call (N3 L) [[],[],[]]]<|J QZ (g 53 83 []<|J QZ (RT ?_)))) (noF tO)
     rfl
    ·have hg:db s.frm s.text w.key = true:=by unfold db;rw[hm];simp[q1]
     rw[hg]at c3
     refine bZ ?_
     conv=>whnf
     refine g 0 1 []<|J QZ<|Ws<|g 8 12 [.call VT [[],[]]]<|J QZ<|Wc<|J (noT rfl) fun _=>Wk<|g 12 19 [.n (Int.toNat k),.x (bq s)]<|J QZ<|g 19 24 [.call (V.own pkd (List.map bh (cF w.flight k))) [[],[]]]<|J QZ<|Ws<|g 24 32 [.call VT [[],[]],BT,BT,BT,BT]<|J QZ<|Wc<|J (noT dO) fun _=>Wk<|g 32 44 [.call (gA (some m)) [[],[]]]<|J QZ ?_
     refine Ws<|g 7 45 []<|J UB<|Wc<|J (noT rfl) fun _=>Wk<|Ws<|g 45 49 []<|J UC<|Wc<|J (fun _=>(rg [.call (N3 L) [[],[],[]]]<|J QZ (g 53 83 []<|J QZ (RT ?_)))) (noF tO)
     rfl
    ·have hg:db s.frm s.text w.key = true:=by unfold db;rw[hm];simp[q1]
     rw[hg]at c3
     refine bZ ?_
     conv=>whnf
     refine g 0 1 []<|J QZ<|Ws<|g 8 12 [.call VT [[],[]]]<|J QZ<|Wc<|J (noT rfl) fun _=>Wk<|g 12 19 [.n (Int.toNat k),.x (bq s)]<|J QZ<|g 19 24 [.call (V.own pkd (List.map bh (cF w.flight k))) [[],[]]]<|J QZ<|Ws<|g 24 32 [.call VT [[],[]],BT,BT,BT,BT]<|J QZ<|Wc<|J (fun _=>(rg []<|J UW (g 32 44 [.call (gA (some m)) [[],[]]]<|J QZ ?_))) (noF tO)
     refine Ws<|g 7 45 []<|J UB<|Wc<|J (noT rfl) fun _=>Wk<|Ws<|g 45 49 []<|J UC<|Wc<|J (fun _=>(rg [.call (N3 L) [[],[],[]]]<|J QZ (g 53 83 []<|J QZ (RT ?_)))) (noF tO)
     rfl
   ·by_cases h1:s.kind≤w.workers.length
    ·obtain⟨x,hx⟩:=ae (xs:=w.workers) (n:=(s.kind - 1).toNat) OM
     rw[xS hm' h0 ⟨by omega,h1⟩ hx]
     have hxi:=l5 x (List.mem_of_getElem? hx)
     have c5:=tf x w.plan m l1 OM OM
     show F _ _ (ax ⟨w.plan,w.key,w.boss,w.workers.set _ (xV x w.plan m).worker,cF w.flight k,_⟩) _
     generalize xV x w.plan m = L at c5 ⊢
     have es:=fY (xs:=w.workers) (n:=(s.kind - 1).toNat) (x:=L.worker)
     generalize hgg:BJ (du w (cF w.flight k)) s = g
     rcases cases3 g hgg with⟨q1,rfl⟩|⟨q1,q2,rfl⟩|⟨q1,q2,rfl⟩
     ·have hg:db s.frm s.text w.key = false:=by unfold db;rw[hm];simp[q1]
      rw[hg]at c3
      refine bZ ?_
      conv=>whnf
      refine g 0 1 []<|J QZ<|Ws<|g 8 12 [.call VT [[],[]]]<|J QZ<|Wc<|J (noT rfl) fun _=>Wk<|g 12 19 [.n (Int.toNat k),.x (bq s)]<|J QZ<|g 19 24 [.call (V.own pkd (List.map bh (cF w.flight k))) [[],[]]]<|J QZ<|Ws<|g 24 32 [.call VF [[],[]],BF,BF,BF,BF]<|J QZ<|Wc<|J (noT rfl) fun _=>Wk<|g 32 44 [.call (gA (some m)) [[],[]]]<|J QZ ?_
      refine Ws<|g 7 45 []<|J UB<|Wc<|J (noT rfl) fun _=>Wk<|Ws<|g 45 49 []<|J UC<|Wc<|J (noT dO) fun _=>g 49 63 []<|J UF<|Wc<|J (fun _=>(rgd [[],[],[],[],[.i (s.kind - 1)],[],[],[],[],[.i (s.kind - 1)],[.n (Int.toNat (s.kind - 1))],[.x (ag x)],[],[],[],[.x (ag x),.call (qT L) [[],[],[]]],[],[.n (Int.toNat (s.kind - 1))],[.x (ag x)]] ?_)) (noF SI)
      conv=>whnf
      refine⟨Zae,by kernel_rfl,?_⟩
      refine g 5 83 []<|J QZ<|RT ?_
      exact kj w.plan w.key w.boss w.workers (s.kind - 1).toNat L.worker (cF w.flight k) w.forged
     ·have hg:db s.frm s.text w.key = true:=by unfold db;rw[hm];simp[q1]
      rw[hg]at c3
      refine bZ ?_
      conv=>whnf
      refine g 0 1 []<|J QZ<|Ws<|g 8 12 [.call VT [[],[]]]<|J QZ<|Wc<|J (noT rfl) fun _=>Wk<|g 12 19 [.n (Int.toNat k),.x (bq s)]<|J QZ<|g 19 24 [.call (V.own pkd (List.map bh (cF w.flight k))) [[],[]]]<|J QZ<|Ws<|g 24 32 [.call VT [[],[]],BT,BT,BT,BT]<|J QZ<|Wc<|J (noT dO) fun _=>Wk<|g 32 44 [.call (gA (some m)) [[],[]]]<|J QZ ?_
      refine Ws<|g 7 45 []<|J UB<|Wc<|J (noT rfl) fun _=>Wk<|Ws<|g 45 49 []<|J UC<|Wc<|J (noT dO) fun _=>g 49 63 []<|J UF<|Wc<|J (fun _=>(rgd [[],[],[],[],[.i (s.kind - 1)],[],[],[],[],[.i (s.kind - 1)],[.n (Int.toNat (s.kind - 1))],[.x (ag x)],[],[],[],[.x (ag x),.call (qT L) [[],[],[]]],[],[.n (Int.toNat (s.kind - 1))],[.x (ag x)]] ?_)) (noF SI)
      conv=>whnf
      refine⟨Zae,by kernel_rfl,?_⟩
      refine g 5 83 []<|J QZ<|RT ?_
      exact kj w.plan w.key w.boss w.workers (s.kind - 1).toNat L.worker (cF w.flight k) w.forged
     ·have hg:db s.frm s.text w.key = true:=by unfold db;rw[hm];simp[q1]
      rw[hg]at c3
      refine bZ ?_
      conv=>whnf
      refine g 0 1 []<|J QZ<|Ws<|g 8 12 [.call VT [[],[]]]<|J QZ<|Wc<|J (noT rfl) fun _=>Wk<|g 12 19 [.n (Int.toNat k),.x (bq s)]<|J QZ<|g 19 24 [.call (V.own pkd (List.map bh (cF w.flight k))) [[],[]]]<|J QZ<|Ws<|g 24 32 [.call VT [[],[]],BT,BT,BT,BT]<|J QZ<|Wc<|J (fun _=>(rg []<|J UW (g 32 44 [.call (gA (some m)) [[],[]]]<|J QZ ?_))) (noF tO)
      refine Ws<|g 7 45 []<|J UB<|Wc<|J (noT rfl) fun _=>Wk<|Ws<|g 45 49 []<|J UC<|Wc<|J (noT dO) fun _=>g 49 63 []<|J UF<|Wc<|J (fun _=>(rgd [[],[],[],[],[.i (s.kind - 1)],[],[],[],[],[.i (s.kind - 1)],[.n (Int.toNat (s.kind - 1))],[.x (ag x)],[],[],[],[.x (ag x),.call (qT L) [[],[],[]]],[],[.n (Int.toNat (s.kind - 1))],[.x (ag x)]] ?_)) (noF SI)
      conv=>whnf
      refine⟨Zae,by kernel_rfl,?_⟩
      refine g 5 83 []<|J QZ<|RT ?_
      exact kj w.plan w.key w.boss w.workers (s.kind - 1).toNat L.worker (cF w.flight k) s.text
    ·rw[B2 hm' h0 (fun q=>h1 q.2)]
     show F _ _ (ax ⟨w.plan,w.key,w.boss,w.workers,cF w.flight k,_⟩) _
     generalize hgg:BJ (du w (cF w.flight k)) s = g
     rcases cases3 g hgg with⟨q1,rfl⟩|⟨q1,q2,rfl⟩|⟨q1,q2,rfl⟩
     ·have hg:db s.frm s.text w.key = false:=by unfold db;rw[hm];simp[q1]
      rw[hg]at c3
      refine bZ ?_
      conv=>whnf
      refine g 0 1 []<|J QZ<|Ws<|g 8 12 [.call VT [[],[]]]<|J QZ<|Wc<|J (noT rfl) fun _=>Wk<|g 12 19 [.n (Int.toNat k),.x (bq s)]<|J QZ<|g 19 24 [.call (V.own pkd (List.map bh (cF w.flight k))) [[],[]]]<|J QZ<|Ws<|g 24 32 [.call VF [[],[]],BF,BF,BF,BF]<|J QZ<|Wc<|J (noT rfl) fun _=>Wk<|g 32 44 [.call (gA (some m)) [[],[]]]<|J QZ ?_
      refine Ws<|g 7 45 []<|J UB<|Wc<|J (noT rfl) fun _=>Wk<|Ws<|g 45 49 []<|J UC<|Wc<|J (noT dO) fun _=>g 49 63 []<|J UF<|Wc<|J (noT SI) fun _=>Wk<|g 5 83 []<|J QZ<|RT ?_
      rfl
     ·have hg:db s.frm s.text w.key = true:=by unfold db;rw[hm];simp[q1]
      rw[hg]at c3
      refine bZ ?_
      conv=>whnf
      refine g 0 1 []<|J QZ<|Ws<|g 8 12 [.call VT [[],[]]]<|J QZ<|Wc<|J (noT rfl) fun _=>Wk<|g 12 19 [.n (Int.toNat k),.x (bq s)]<|J QZ<|g 19 24 [.call (V.own pkd (List.map bh (cF w.flight k))) [[],[]]]<|J QZ<|Ws<|g 24 32 [.call VT [[],[]],BT,BT,BT,BT]<|J QZ<|Wc<|J (noT dO) fun _=>Wk<|g 32 44 [.call (gA (some m)) [[],[]]]<|J QZ ?_
      refine Ws<|g 7 45 []<|J UB<|Wc<|J (noT rfl) fun _=>Wk<|Ws<|g 45 49 []<|J UC<|Wc<|J (noT dO) fun _=>g 49 63 []<|J UF<|Wc<|J (noT SI) fun _=>Wk<|g 5 83 []<|J QZ<|RT ?_
      rfl
     ·have hg:db s.frm s.text w.key = true:=by unfold db;rw[hm];simp[q1]
      rw[hg]at c3
      refine bZ ?_
      conv=>whnf
      refine g 0 1 []<|J QZ<|Ws<|g 8 12 [.call VT [[],[]]]<|J QZ<|Wc<|J (noT rfl) fun _=>Wk<|g 12 19 [.n (Int.toNat k),.x (bq s)]<|J QZ<|g 19 24 [.call (V.own pkd (List.map bh (cF w.flight k))) [[],[]]]<|J QZ<|Ws<|g 24 32 [.call VT [[],[]],BT,BT,BT,BT]<|J QZ<|Wc<|J (fun _=>(rg []<|J UW (g 32 44 [.call (gA (some m)) [[],[]]]<|J QZ ?_))) (noF tO)
      refine Ws<|g 7 45 []<|J UB<|Wc<|J (noT rfl) fun _=>Wk<|Ws<|g 45 49 []<|J UC<|Wc<|J (noT dO) fun _=>g 49 63 []<|J UF<|Wc<|J (noT SI) fun _=>Wk<|g 5 83 []<|J QZ<|RT ?_
      rfl
 ·rw[decide_eq_false ha]at c1
  rw[La ha]
  refine bZ ?_
  conv=>whnf
  refine g 0 1 []<|J QZ<|Ws<|g 8 12 [.call VF [[],[]]]<|J QZ<|Wc<|J (fun _=>(g 12 14 []<|J QZ (RT ?_))) (noF rfl)
  rfl
end Go.K
end
section
open Go Go.Tm Go.Proofs
namespace Go.K
theorem oZ(w:World)(e:Event)(h:DoLim w):F I9 [.val (ax w),.val (IC e)] (ax (doW w e)) [[],[]]:=by
 have ct:=lK w h
 have cb:=fz w e.a h
 obtain⟨l1,l2,l3,l4,l5,l6,l7,l8⟩:=h
 have c3:=Ex w.flight e.a OM
 have c4:=xO w.flight e.a OM
 have c5:=JK w.flight e.a e.b e.c OM (fun p hp=>by have:=(l7 p hp).bytes;omega)
 have c6:=za w.boss w.plan e.b l1 l3
 have c7:=ji w.boss w.plan l1 l3
 by_cases h1:e.kind = 1
 ·rw[aaM h1]
  refine di ?_
  conv=>whnf
  refine g 0 2 []<|J QZ ?_
  by_cases h2:(1:Int)≤Event.a e
  refine g 6 17 (RL 7 BT [])<|J QZ<|Ws<|g 17 18 []<|J UB<|Wb<|g 20 21 []<|J UB<|Wc<|J (fun _=>(g 5 23 [.call (ax (iv w)) [[]]]<|J QZ (RT ?_))) (noF tO)
  rfl
  refine g 6 17 (RL 7 BF [])<|J QZ<|Ws<|g 17 18 []<|J UB<|Wb<|g 20 21 []<|J UB<|Wc<|J (fun _=>(g 5 23 [.call (ax (iv w)) [[]]]<|J QZ (RT ?_))) (noF tO)
  rfl
 by_cases h2:e.kind = 2
 ·rw[aaL h2]
  refine di ?_
  conv=>whnf
  refine g 0 2 []<|J QZ ?_
  by_cases h3:(1:Int)≤Event.a e
  refine g 6 17 (RL 7 BT [])<|J QZ<|Ws<|g 17 18 []<|J UB<|Wb<|g 20 21 []<|J UB<|Wc<|J (noT dO) fun _=>g 19 20 []<|J UB<|Wc<|J (fun _=>(g 5 29 [.call (ax (eK w e.a)) [[],[]]]<|J QZ (RT ?_))) (noF tO)
  rfl
  refine g 6 17 (RL 7 BF [])<|J QZ<|Ws<|g 17 18 []<|J UB<|Wb<|g 20 21 []<|J UB<|Wc<|J (noT dO) fun _=>g 19 20 []<|J UB<|Wc<|J (fun _=>(g 5 29 [.call (ax (eK w e.a)) [[],[]]]<|J QZ (RT ?_))) (noF tO)
  rfl
 by_cases h3:e.kind = 3
 ·rw[aaK h3]
  refine di ?_
  conv=>whnf
  refine g 0 2 []<|J QZ ?_
  by_cases h4:(1:Int)≤Event.a e
  refine g 6 17 (RL 7 BT [])<|J QZ<|Ws<|g 17 18 []<|J UB<|Wb<|g 20 21 []<|J UB<|Wc<|J (noT dO) fun _=>g 19 20 []<|J UB<|Wc<|J (noT dO) fun _=>g 23 25 []<|J UB<|Wc<|J (fun _=>(rg [.call (V.own pkd (List.map bh (sy w.flight e.a))) [[],[]]]<|J QZ (g 5 112 []<|J QZ ?_))) (noF tO)
  refine RT ?_
  rfl
  refine g 6 17 (RL 7 BF [])<|J QZ<|Ws<|g 17 18 []<|J UB<|Wb<|g 20 21 []<|J UB<|Wc<|J (noT dO) fun _=>g 19 20 []<|J UB<|Wc<|J (noT dO) fun _=>g 23 25 []<|J UB<|Wc<|J (fun _=>(rg [.call (V.own pkd (List.map bh (sy w.flight e.a))) [[],[]]]<|J QZ (g 5 112 []<|J QZ ?_))) (noF tO)
  refine RT ?_
  rfl
 by_cases h4:e.kind = 4
 ·rw[aaJ h4]
  refine di ?_
  conv=>whnf
  refine g 0 2 []<|J QZ ?_
  by_cases h5:(1:Int)≤Event.a e
  refine g 6 17 (RL 7 BT [])<|J QZ<|Ws<|g 17 18 []<|J UB<|Wb<|g 20 21 []<|J UB<|Wc<|J (noT dO) fun _=>g 19 20 []<|J UB<|Wc<|J (noT dO) fun _=>g 23 25 []<|J UB<|Wc<|J (noT dO) fun _=>g 29 31 []<|J UB<|Wc<|J (fun _=>?_) (noF tO)
  refine rg [.call (V.own pkd (List.map bh (cF w.flight e.a))) [[],[]]]<|J QZ<|g 5 112 []<|J QZ<|RT ?_
  rfl
  refine g 6 17 (RL 7 BF [])<|J QZ<|Ws<|g 17 18 []<|J UB<|Wb<|g 20 21 []<|J UB<|Wc<|J (noT dO) fun _=>g 19 20 []<|J UB<|Wc<|J (noT dO) fun _=>g 23 25 []<|J UB<|Wc<|J (noT dO) fun _=>g 29 31 []<|J UB<|Wc<|J (fun _=>?_) (noF tO)
  refine rg [.call (V.own pkd (List.map bh (cF w.flight e.a))) [[],[]]]<|J QZ<|g 5 112 []<|J QZ<|RT ?_
  rfl
 by_cases h5:e.kind = 5
 ·rw[aaI h5]
  refine di ?_
  conv=>whnf
  refine g 0 2 []<|J QZ ?_
  by_cases h6:(1:Int)≤Event.a e
  refine g 6 17 (RL 7 BT [])<|J QZ<|Ws<|g 17 18 []<|J UB<|Wb<|g 20 21 []<|J UB<|Wc<|J (noT dO) fun _=>g 19 20 []<|J UB<|Wc<|J (noT dO) fun _=>g 23 25 []<|J UB<|Wc<|J (noT dO) fun _=>g 29 31 []<|J UB<|Wc<|J (noT dO) fun _=>?_
  refine g 37 39 []<|J UB<|Wc<|J (fun _=>(rg [.call (V.own pkd (List.map bh (sD w.flight e.a e.b e.c))) [[],[],[],[]]]<|J QZ (g 5 52 []<|J QZ (RT ?_)))) (noF tO)
  rfl
  refine g 6 17 (RL 7 BF [])<|J QZ<|Ws<|g 17 18 []<|J UB<|Wb<|g 20 21 []<|J UB<|Wc<|J (noT dO) fun _=>g 19 20 []<|J UB<|Wc<|J (noT dO) fun _=>g 23 25 []<|J UB<|Wc<|J (noT dO) fun _=>g 29 31 []<|J UB<|Wc<|J (noT dO) fun _=>?_
  refine g 37 39 []<|J UB<|Wc<|J (fun _=>(rg [.call (V.own pkd (List.map bh (sD w.flight e.a e.b e.c))) [[],[],[],[]]]<|J QZ (g 5 52 []<|J QZ (RT ?_)))) (noF tO)
  rfl
 by_cases h6:e.kind = 6
 ·by_cases ha:e.a = 0
  ·rw[YR h6 ha]
   generalize sE w.boss w.plan e.b = B at c6 ⊢
   refine di ?_
   conv=>whnf
   refine g 0 2 []<|J QZ<|g 6 17 (RL 7 BF [])<|J QZ<|Ws<|g 17 18 []<|J UB<|Wb<|g 20 21 []<|J UB<|Wc<|J (noT dO) fun _=>g 19 20 []<|J UB<|Wc<|J (noT dO) fun _=>g 23 25 []<|J UB<|Wc<|J (noT dO) fun _=>g 29 31 []<|J UB ?_
   refine Wc<|J (noT dO) fun _=>g 37 39 []<|J UB<|Wc<|J (noT dO) fun _=>g 45 47 []<|J UB<|Wc<|J (fun _=>(g 18 61 []<|J UC (Wc<|J (fun _=>(rg [.call (aF B) [[],[],[]]]<|J QZ (g 5 112 []<|J QZ (RT ?_)))) (noF tO)))) (noF tO)
   rfl
  ·by_cases hx:1≤e.a∧e.a≤w.workers.length
   ·obtain⟨x1,x2⟩:=hx
    obtain⟨x,hx⟩:=ae (xs:=w.workers) (n:=(e.a - 1).toNat) OM
    rw[YP h6 ⟨x1,x2⟩ hx]
    have hxi:=l5 x (List.mem_of_getElem? hx)
    have c8:=kX x OM
    generalize mB x = y at c8 ⊢
    have es:=fY (xs:=w.workers) (n:=(e.a - 1).toNat) (x:=y)
    refine di ?_
    conv=>whnf
    refine g 0 2 []<|J QZ<|g 6 17 (RL 7 BT [])<|J QZ<|Ws<|g 17 18 []<|J UB<|Wb<|g 20 21 []<|J UB<|Wc<|J (noT dO) fun _=>g 19 20 []<|J UB<|Wc<|J (noT dO) fun _=>g 23 25 []<|J UB<|Wc<|J (noT dO) fun _=>g 29 31 []<|J UB ?_
    refine Wc<|J (noT dO) fun _=>g 37 39 []<|J UB<|Wc<|J (noT dO) fun _=>g 45 47 []<|J UB<|Wc<|J (fun _=>(g 18 61 []<|J UC (Wc<|J (noT dO) fun _=>(g 5 62 []<|J UA (Wc<|J (fun _=>(rgd [[],[],[],[],[.i (e.a - 1)],[],[],[],[],[.i (e.a - 1)],[.n (Int.toNat (e.a - 1))],[.x (ag x)],[.x (ag x),.call (aA y) [[]]],[.n (Int.toNat (e.a - 1))],[.x (ag x)]] ?_)) (noF SI)))))) (noF tO)
    conv=>whnf
    refine⟨⟨I,I,I,I,wO,I,I,I,I,wO,Zar,xA,⟨UA,I,⟨Zak,I⟩,UA,AS⟩,Zar,⟨UK,xA⟩,I⟩,by kernel_rfl,?_⟩
    refine g 70 112 []<|J QZ<|RT ?_
    exact kj w.plan w.key w.boss w.workers (e.a - 1).toNat y w.flight w.forged
   ·rw[YQ h6 ha hx]
    refine di ?_
    conv=>whnf
    refine g 0 2 []<|J QZ ?_
    by_cases h7:(1:Int)≤Event.a e
    refine g 6 17 (RL 7 BT [])<|J QZ<|Ws<|g 17 18 []<|J UB<|Wb<|g 20 21 []<|J UB<|Wc<|J (noT dO) fun _=>g 19 20 []<|J UB<|Wc<|J (noT dO) fun _=>g 23 25 []<|J UB<|Wc<|J (noT dO) fun _=>g 29 31 []<|J UB<|Wc<|J (noT dO) fun _=>?_
    refine g 37 39 []<|J UB<|Wc<|J (noT dO) fun _=>g 45 47 []<|J UB<|Wc<|J (fun _=>(g 18 61 []<|J UC (Wc<|J (noT dO) fun _=>(g 5 62 []<|J UA (Wc<|J (noT (by simp_all)) fun _=>(Wk (g 2 4 []<|J QZ (RT ?_)))))))) (noF tO)
    rfl
    refine g 6 17 (RL 7 BF [])<|J QZ<|Ws<|g 17 18 []<|J UB<|Wb<|g 20 21 []<|J UB<|Wc<|J (noT dO) fun _=>g 19 20 []<|J UB<|Wc<|J (noT dO) fun _=>g 23 25 []<|J UB<|Wc<|J (noT dO) fun _=>g 29 31 []<|J UB<|Wc<|J (noT dO) fun _=>?_
    refine g 37 39 []<|J UB<|Wc<|J (noT dO) fun _=>g 45 47 []<|J UB<|Wc<|J (fun _=>(g 18 61 []<|J UC (Wc<|J (noT dO) fun _=>(g 5 62 []<|J UA (Wc<|J (noT rfl) fun _=>(Wk (g 2 4 []<|J QZ (RT ?_)))))))) (noF tO)
    rfl
 by_cases h7:e.kind = 7
 ·by_cases ha:e.a = 0
  ·rw[YO h7 ha]
   generalize jR w.boss w.plan = B at c7 ⊢
   refine di ?_
   conv=>whnf
   refine g 0 2 []<|J QZ<|g 6 17 (RL 7 BF [])<|J QZ<|Ws<|g 17 18 []<|J UB<|Wb<|g 20 21 []<|J UB<|Wc<|J (noT dO) fun _=>g 19 20 []<|J UB<|Wc<|J (noT dO) fun _=>g 23 25 []<|J UB<|Wc<|J (noT dO) fun _=>g 29 31 []<|J UB ?_
   refine Wc<|J (noT dO) fun _=>g 37 39 []<|J UB<|Wc<|J (noT dO) fun _=>g 45 47 []<|J UB<|Wc<|J (noT dO) fun _=>g 18 59 []<|J UB<|Wc<|J (fun _=>(g 85 89 []<|J UC (Wc<|J (fun _=>(rg [.call (aF B) [[],[]]]<|J QZ (g 5 112 []<|J QZ (RT ?_)))) (noF tO)))) (noF tO)
   rfl
  ·by_cases hx:1≤e.a∧e.a≤w.workers.length
   ·obtain⟨x1,x2⟩:=hx
    obtain⟨x,hx⟩:=ae (xs:=w.workers) (n:=(e.a - 1).toNat) OM
    rw[YM h7 ⟨x1,x2⟩ hx]
    have hxi:=l5 x (List.mem_of_getElem? hx)
    have c8:=ti x OM
    generalize mz x = y at c8 ⊢
    have es:=fY (xs:=w.workers) (n:=(e.a - 1).toNat) (x:=y)
    refine di ?_
    conv=>whnf
    refine g 0 2 []<|J QZ<|g 6 17 (RL 7 BT [])<|J QZ<|Ws<|g 17 18 []<|J UB<|Wb<|g 20 21 []<|J UB<|Wc<|J (noT dO) fun _=>g 19 20 []<|J UB<|Wc<|J (noT dO) fun _=>g 23 25 []<|J UB<|Wc<|J (noT dO) fun _=>g 29 31 []<|J UB ?_
    refine Wc<|J (noT dO) fun _=>g 37 39 []<|J UB<|Wc<|J (noT dO) fun _=>g 45 47 []<|J UB<|Wc<|J (noT dO) fun _=>g 18 59 []<|J UB<|Wc<|J (fun _=>(g 85 89 []<|J UC (Wc<|J (noT dO) fun _=>(g 5 90 []<|J UA (Wc<|J (fun _=>(rgd [[],[],[],[],[.i (e.a - 1)],[],[],[],[],[.i (e.a - 1)],[.n (Int.toNat (e.a - 1))],[.x (ag x)],[.x (ag x),.call (aA y) [[]]],[.n (Int.toNat (e.a - 1))],[.x (ag x)]] ?_)) (noF SI)))))) (noF tO)
    conv=>whnf
    refine⟨⟨I,I,I,I,wO,I,I,I,I,wO,Zar,xA,⟨UA,I,⟨Zak,I⟩,UA,AS⟩,Zar,⟨UK,xA⟩,I⟩,by kernel_rfl,?_⟩
    refine g 96 112 []<|J QZ<|RT ?_
    exact kj w.plan w.key w.boss w.workers (e.a - 1).toNat y w.flight w.forged
   ·rw[YN h7 ha hx]
    refine di ?_
    conv=>whnf
    refine g 0 2 []<|J QZ ?_
    by_cases h8:(1:Int)≤Event.a e
    refine g 6 17 (RL 7 BT [])<|J QZ<|Ws<|g 17 18 []<|J UB<|Wb<|g 20 21 []<|J UB<|Wc<|J (noT dO) fun _=>g 19 20 []<|J UB<|Wc<|J (noT dO) fun _=>g 23 25 []<|J UB<|Wc<|J (noT dO) fun _=>g 29 31 []<|J UB<|Wc<|J (noT dO) fun _=>?_
    refine g 37 39 []<|J UB<|Wc<|J (noT dO) fun _=>g 45 47 []<|J UB<|Wc<|J (noT dO) fun _=>g 18 59 []<|J UB<|Wc<|J (fun _=>(g 85 89 []<|J UC (Wc<|J (noT dO) fun _=>(g 5 90 []<|J UA (Wc<|J (noT (by simp_all)) fun _=>(Wk (g 2 4 []<|J QZ ?_))))))) (noF tO)
    refine RT ?_
    rfl
    refine g 6 17 (RL 7 BF [])<|J QZ<|Ws<|g 17 18 []<|J UB<|Wb<|g 20 21 []<|J UB<|Wc<|J (noT dO) fun _=>g 19 20 []<|J UB<|Wc<|J (noT dO) fun _=>g 23 25 []<|J UB<|Wc<|J (noT dO) fun _=>g 29 31 []<|J UB<|Wc<|J (noT dO) fun _=>?_
    refine g 37 39 []<|J UB<|Wc<|J (noT dO) fun _=>g 45 47 []<|J UB<|Wc<|J (noT dO) fun _=>g 18 59 []<|J UB<|Wc<|J (fun _=>(g 85 89 []<|J UC (Wc<|J (noT dO) fun _=>(g 5 90 []<|J UA (Wc<|J (noT rfl) fun _=>(Wk (g 2 4 []<|J QZ ?_))))))) (noF tO)
    refine RT ?_
    rfl
 ·have e0:doW w e = w:=by
   unfold doW
   rw[if_neg h1,if_neg h2,if_neg h3,if_neg h4,if_neg h5,if_neg h6,if_neg h7]
  rw[e0]
  refine di ?_
  conv=>whnf
  refine g 0 2 []<|J QZ ?_
  by_cases h8:(1:Int)≤Event.a e
  refine g 6 17 (RL 7 BT [])<|J QZ<|Ws<|g 17 18 []<|J UB<|Wb<|g 20 21 []<|J UB<|Wc<|J (noT dO) fun _=>g 19 20 []<|J UB<|Wc<|J (noT dO) fun _=>g 23 25 []<|J UB<|Wc<|J (noT dO) fun _=>g 29 31 []<|J UB<|Wc<|J (noT dO) fun _=>?_
  refine g 37 39 []<|J UB<|Wc<|J (noT dO) fun _=>g 45 47 []<|J UB<|Wc<|J (noT dO) fun _=>g 18 59 []<|J UB<|Wc<|J (noT dO) fun _=>Wk<|g 5 112 []<|J QZ<|RT ?_
  rfl
  refine g 6 17 (RL 7 BF [])<|J QZ<|Ws<|g 17 18 []<|J UB<|Wb<|g 20 21 []<|J UB<|Wc<|J (noT dO) fun _=>g 19 20 []<|J UB<|Wc<|J (noT dO) fun _=>g 23 25 []<|J UB<|Wc<|J (noT dO) fun _=>g 29 31 []<|J UB<|Wc<|J (noT dO) fun _=>?_
  refine g 37 39 []<|J UB<|Wc<|J (noT dO) fun _=>g 45 47 []<|J UB<|Wc<|J (noT dO) fun _=>g 18 59 []<|J UB<|Wc<|J (noT dO) fun _=>Wk<|g 5 112 []<|J QZ<|RT ?_
  rfl
end Go.K
end
section
open Go Go.Tm Go.Proofs
namespace Go.K
structure WSmall (w:Worker):Prop where
 len:w.inputs.length≤64
 size:∀ s∈w.inputs,s.size≤64
 text:w.text.size≤64
 num:-100≤w.number∧w.number≤1000
 cost:-100≤w.cost∧w.cost≤1000
 lease:w.lease≤1000001
end Go.K
end
section
open Go Go.Tm Go.Proofs
namespace Go.K
structure WMid (w:Worker):Prop where
 len:w.inputs.length≤100
 size:∀ s∈w.inputs,s.size≤100
 text:w.text.size≤100
 lease:w.lease≤1000001
end Go.K
end

/- Contracts of functions of the program: what each call answers. -/
import Derived.Test.YtoknlfldllmhpaaGreatParte
set_option maxHeartbeats 8000000
set_option maxRecDepth 20000
set_option linter.unusedVariables false
set_option linter.unusedSimpArgs false
section
open Go Go.Tm Go.Proofs
namespace Go.K
def gj{α:Type}(f:α→α)(l:List α)(n:Nat):List α:=(l.take n).map f++l.drop n
theorem iR{α:Type}(f:α→α)(l:List α)(n:Nat):(gj f l n).length = l.length:=by simp[gj];omega
theorem iT{α:Type}(f:α→α)(l:List α){n:Nat}(h:l.length≤n):gj f l n = l.map f:=by
 rw[gj,List.take_of_length_le h,List.drop_of_length_le h,List.append_nil]
theorem JF{α:Type}(f:α→α){l:List α}{n:Nat}{x:α}(h:l[n]? = some x):(gj f l n)[n]? = some x:=by
 have hl:n < l.length:=(List.getElem?_eq_some_iff.1 h).1
 rw[gj,List.getElem?_append_right (by simp;omega)]
 simp only[List.length_map,List.length_take,List.getElem?_drop]
 rw[show n+ (n - min n l.length) = n by omega,h]
theorem JE{α:Type}{f:α→α}{l:List α}{n:Nat}{x:α}(h:l[n]? = some x):(gj f l n).set n (f x) = gj f l (n+1):=by
 obtain⟨hl,hx⟩:=List.getElem?_eq_some_iff.1 h
 unfold gj
 rw[List.drop_eq_getElem_cons hl,hx,List.set_append_right _ _ (by simp;omega),List.take_add_one,h]
 simp only[List.length_map,List.length_take,Option.toList_some,List.map_append,List.map_cons,List.map_nil,List.append_assoc,List.cons_append,List.nil_append]
 rw[show n - min n l.length = 0 by omega,List.set_cons_zero]
theorem lP{α β:Type}{f:α→α}{g:α→β}{l:List α}{n:Nat}{x:α}(h:l[n]? = some x):((gj f l n).map g).set n (g (f x)) = (gj f l (n+1)).map g:=by
 rw[←List.map_set,JE h]
theorem br{α β:Type}{f:α→α}{g:α→β}{l:List α}{n:Nat}{x:α}(h:l[n]? = some x):((gj f l n).map g)[n]? = some (g x):=by
 rw[List.getElem?_map,JF f h];rfl
theorem oH{α:Type}{f:α→α}{l:List α}{n:Nat}{x:α}(h:l[n]? = some x)(e:f x = x):gj f l n = gj f l (n+1):=by
 rw[←JE h,e]
 obtain⟨hl,hx⟩:=List.getElem?_eq_some_iff.1 (JF f h)
 have:=List.set_getElem_self hl
 rw[hx]at this;exact this.symm
structure Hand where
 given:Int
 jobs:List Job
 seats:List Seat
 out:List Message
def qQ(now:Int)(j:Job):Job:=if j.til≤now then fR else j
def Ll(js:List Job)(i:Nat):Job:=(js[i]?).getD fR
def mc(ss:List Seat)(i:Nat):Seat:=(ss[i]?).getD ig
def kR(ss:List Seat):Option Nat:=ss.findIdx? Seat.free
def L6(b:Boss)(ts:List Task)(s i:Nat)(g:Int):Message:=⟨1,0,(s:Int) +1,b.epoch,(b.epoch - 1) * 1000000+g,i,emp,dP b.results (nv ts i)⟩
structure CanHand (b:Boss) (ts:List Task) (h:Hand) (i:Nat):Prop where
 res:atS b.results i = emp
 job:(Ll h.jobs i).lease = 0
 ready:cX b.results (nv ts i)
 given:h.given < 1000000
noncomputable instance (b:Boss) (ts:List Task) (h:Hand) (i:Nat):Decidable (CanHand b ts h i):=Classical.propDecidable _
def kQ(b:Boss)(ts:List Task)(h:Hand)(i s:Nat):Hand:=⟨h.given+1,h.jobs.set i ⟨(b.epoch - 1) * 1000000+ (h.given+1),(s:Int) +1,b.now+12⟩,h.seats.set s ⟨false,(mc h.seats s).epoch⟩,h.out++ [L6 b ts s i (h.given+1)]⟩
noncomputable def TM(b:Boss)(ts:List Task)(i:Nat)(h:Hand):Hand :=
 if CanHand b ts h i then(match kR h.seats with|none=>h|some s=>kQ b ts h i s)else h
noncomputable def aH(b:Boss)(ts:List Task):Nat→Hand
 |0=>⟨b.given,b.jobs,b.seats,[]⟩
 |n+1=>TM b ts n (aH b ts n)
theorem iV{b:Boss}{ts:List Task}{n:Nat}(h:¬CanHand b ts (aH b ts n) n):aH b ts (n+1) = aH b ts n:=if_neg h
theorem oL{b:Boss}{ts:List Task}{n:Nat}(h:kR (aH b ts n).seats = none):aH b ts (n+1) = aH b ts n:=by
 rw[aH,TM,h];simp
theorem oK{b:Boss}{ts:List Task}{n s:Nat}(h:CanHand b ts (aH b ts n) n)(hf:kR (aH b ts n).seats = some s):aH b ts (n+1) = kQ b ts (aH b ts n) n s:=by
 rw[aH,TM,if_pos h,hf]
theorem oM{ss:List Seat}{s:Nat}(h:kR ss = some s):∃ x,ss[s]? = some x∧x.free = true∧s < ss.length∧∀ (k:Nat) (y:Seat),k < s→ss[k]? = some y→y.free = false:=by
 obtain⟨h1,h2,h3⟩:=List.findIdx?_eq_some_iff_getElem.1 h
 refine⟨ss[s],List.getElem?_eq_getElem h1,h2,h1,fun k y hk hy=>?_⟩
 obtain⟨h4,h5⟩:=List.getElem?_eq_some_iff.1 hy
 have:=h3 k hk
 rw[h5]at this
 cases hb:y.free
 ·rfl
 ·exact absurd hb this
theorem ES{ss:List Seat}(h:kR ss = none):∀ (k:Nat) (y:Seat),ss[k]? = some y→y.free = false:=by
 intro k y hy
 have:=List.findIdx?_eq_none_iff.1 h y (List.mem_of_getElem? hy)
 exact this
structure HandOk (b:Boss) (ts:List Task) (h:Hand) (n:Nat):Prop where
 jobs:h.jobs.length = b.jobs.length
 seats:h.seats.length = b.seats.length
 out:h.out.length≤n
 lo:0≤h.given
 hi:h.given≤1000000
 inputs:∀ m∈h.out,m.inputs.length≤8
theorem lv{b:Boss}{ts:List Task}(hd:∀ t∈ts,t.deps.length≤8)(h0:0≤b.given)(h1:b.given≤1000000):∀ n,HandOk b ts (aH b ts n) n
 |0=>⟨rfl,rfl,Nat.le_refl _,h0,h1,fun m hm=>by cases hm⟩
 |n+1=>by
  have ih:=lv hd h0 h1 n
  have up:HandOk b ts (aH b ts n) (n+1):=⟨ih.jobs,ih.seats,by have:=ih.out;omega,ih.lo,ih.hi,ih.inputs⟩
  by_cases hc:CanHand b ts (aH b ts n) n
  ·cases hf:kR (aH b ts n).seats with
   |none=>rw[oL hf];exact up
   |some s =>
    rw[oK hc hf]
    have e1:=ih.jobs
    have e2:=ih.seats
    have e3:=ih.out
    have e4:=ih.lo
    have e5:=hc.given
    refine⟨by simp only[kQ,List.length_set];exact e1,by simp only[kQ,List.length_set];exact e2,by simp only[kQ,List.length_append,List.length_singleton];omega,by simp only[kQ];omega,by simp only[kQ];omega,fun m hm=>?_⟩
    rcases List.mem_append.1 hm with hm|hm
    ·exact ih.inputs m hm
    ·rw[List.mem_singleton.1 hm]
     show(dP _ _).length≤8
     rw[lN,nv]
     cases ht:ts[n]? with
     |none=>exact Nat.zero_le _
     |some t=>exact hd t (List.mem_of_getElem? ht)
  ·rw[iV hc];exact up
def Xz(b:Boss):Boss:=⟨b.workers,b.up,b.now+1,b.since,b.epoch,b.given,b.log,b.results,b.jobs,b.seats,b.owed⟩
def dD(b:Boss):Boss:=⟨b.workers,b.up,b.now+1,b.since,b.epoch,b.given,b.log,b.results,b.jobs.map (qQ (b.now+1)),b.seats,b.owed⟩
def mZ(ep:Int)(o:Owed):Message:=⟨4,0,o.worker,ep,o.lease,0,emp,[]⟩
noncomputable def endH(b:Boss)(ts:List Task):Hand:=aH (dD b) ts ts.length
noncomputable def hM(b:Boss)(ts:List Task):Led :=
 if b.now = 1000000 then⟨b,[]⟩else
 if b.up = false then⟨Xz b,[]⟩else
 if b.since+1 = 2 then⟨⟨b.workers,b.up,b.now+1,0,b.epoch,(endH b ts).given,⟨b.log.safe++b.log.loose,[]⟩,b.results,(endH b ts).jobs,(endH b ts).seats,[]⟩,(endH b ts).out++b.owed.map (mZ b.epoch)⟩
 else⟨⟨b.workers,b.up,b.now+1,b.since+1,b.epoch,(endH b ts).given,b.log,b.results,(endH b ts).jobs,(endH b ts).seats,b.owed⟩,(endH b ts).out⟩
theorem sn{b:Boss}{ts:List Task}(h:b.now = 1000000):hM b ts = ⟨b,[]⟩:=if_pos h
theorem zP{b:Boss}{ts:List Task}(h:¬b.now = 1000000)(h2:b.up = false):hM b ts = ⟨Xz b,[]⟩:=by rw[hM,if_neg h,if_pos h2]
theorem mD{b:Boss}{ts:List Task}(h:¬b.now = 1000000)(h2:¬b.up = false)(h3:b.since+1 = 2):hM b ts = ⟨⟨b.workers,b.up,b.now+1,0,b.epoch,(endH b ts).given,⟨b.log.safe++b.log.loose,[]⟩,b.results,(endH b ts).jobs,(endH b ts).seats,[]⟩,(endH b ts).out++b.owed.map (mZ b.epoch)⟩:=by rw[hM,if_neg h,if_neg h2,if_pos h3]
theorem ov{b:Boss}{ts:List Task}(h:¬b.now = 1000000)(h2:¬b.up = false)(h3:¬b.since+1 = 2):hM b ts = ⟨⟨b.workers,b.up,b.now+1,b.since+1,b.epoch,(endH b ts).given,b.log,b.results,(endH b ts).jobs,(endH b ts).seats,b.owed⟩,(endH b ts).out⟩:=by rw[hM,if_neg h,if_neg h2,if_neg h3]
noncomputable def oQ(b:Boss)(p:Plan):Led:=if BossOk b p then hM b p.tasks else Hg
theorem oi{b:Boss}{p:Plan}(h:BossOk b p):oQ b p = hM b p.tasks:=if_pos h
theorem Bx{b:Boss}{p:Plan}(h:¬BossOk b p):oQ b p = Hg:=if_neg h
end Go.K
end
section
open Go Go.Tm Go.Proofs
namespace Go.K
theorem NP{now:Int}{js:List Job}{n:Nat}{j:Job}(h:js[n]? = some j)(hd:j.til≤now):((gj (qQ now) js n).map aO).set n (aO fR) = (gj (qQ now) js (n+1)).map aO:=by
 have:=lP (f:=qQ now) (g:=aO) h
 rw[show qQ now j = fR from if_pos hd]at this
 exact this
theorem Tk{now:Int}{js:List Job}{n:Nat}{j:Job}(h:js[n]? = some j)(hd:¬j.til≤now):gj (qQ now) js n = gj (qQ now) js (n+1):=oH h (if_neg hd)
theorem vL{out:List Message}{ep:Int}{os:List Owed}{n:Nat}{o:Owed}(h:os[n]? = some o):(out++ (os.take n).map (mZ ep)).map aI++ [aI (mZ ep o)] = (out++ (os.take (n+1)).map (mZ ep)).map aI:=by
 rw[List.take_add_one,h];simp
theorem uU(b:Boss)(p:Plan)(hv:BossOk b p)(h:BossLim b):F tN [.ptr (cellsOf (aN b)),.val (cR p)] (.own cO ((hM b p.tasks).out.map aI)) [cellsOf (aN (hM b p.tasks).boss),[]]:=by
 have hnow:=hv.now
 by_cases h0:b.now = 1000000
 ·rw[sn h0]
  refine g8 ?_
  conv=>whnf
  refine g 0 0 []<|J Zdt<|W.sq<|g 12 16 []<|J UE<|W.cn<|J (fun _=>(g 16 17 []<|J UA (RT ?_))) (noF tO)
  rfl
 ·by_cases hup:b.up = false
  ·rw[zP h0 hup]
   refine g8 ?_
   conv=>whnf
   refine g 0 0 []<|J Zdt<|W.sq<|g 12 16 []<|J UE<|W.cn<|J (noT dO) fun _=>W.skip<|g 20 24 [.i (b.now+1)]<|J ⟨I,I,I,I,wO,I,I,UA,I⟩<|W.sq<|g 24 28 []<|J UE<|W.cn<|J (fun _=>(g 16 19 []<|J UA (RT ?_))) (noF (nbT AS))
   rfl
  ·have hup2:b.up = true:=by cases hb:b.up;exact absurd hb hup;rfl
   obtain⟨u1,u2,u3,u4,u5,u6,⟨u7,u8⟩,⟨u9,u10⟩,u11,u12,u13,u14⟩:=hv.up hup2
   have hck:=hv.plan
   have hpl:=(bU hck).1
   have hwk:=hv.workers
   obtain⟨he1,he2⟩:=fP hv.code
   change 0≤(cA b p).epoch at he1
   change (cA b p).epoch≤300 at he2
   have l1:=h.safe
   have l2:=h.loose
   refine g8 ?_
   conv=>whnf
   refine g 0 0 []<|J Zdt<|W.sq<|g 12 16 []<|J UE<|W.cn<|J (noT dO) fun _=>W.skip<|g 20 24 [.i (b.now+1)]<|J ⟨I,I,I,I,wO,I,I,UA,I⟩<|W.sq<|g 24 28 []<|J UE<|W.cn<|J (noT (nbF AS)) fun _=>W.skip<|g 16 19 []<|J UA<|W.sq ?_
   refine g 30 33 []<|J UF<|W.blk<|W.lp (fun s (n:Nat)=>⟨[(0,s.s 0),(1,s.s 1),(3,s.s 3),(4,s.s 4),(5,s.s 5),(19,s.s 19),(29,s.s 29),(33,s.s 33),(34,.i n)],[(3,[s.c 3 0]),(246,[.t (.i b.workers),.t (.b b.up),.t (.i (b.now+1)),.t (.i b.since),.t (.i b.epoch),.t (.i b.given),.own [false] (b.log.safe.map aj),.own [false] (b.log.loose.map aj),.own [false] (b.results.map aj),.own eG ((gj (qQ (b.now+1)) b.jobs n).map aO),.own cx (b.seats.map aG),.own cy (b.owed.map aL)])],[]⟩) (fun(n:Nat)=>n≤b.jobs.length) (fun(n:Nat)=>b.jobs.length - n) (0) [some 3,some 246] [] ⟨rfl,⟨rfl,Zai,rfl,rfl,rfl,rfl,rfl,rfl,rfl,I⟩,⟨Zad,⟨Zaa,I⟩⟩,I⟩ OM ?_
   intro n hn
   have hx:=iR (qQ (b.now+1)) b.jobs n
   by_cases hj:n < b.jobs.length
   ·obtain⟨j,hj1⟩:=af hj
    by_cases hd:j.til≤b.now+1
    ·have e1:=NP hj1 hd
     conv=>whnf
     refine g 0 0 []<|J UA<|W.sq<|W.cn<|J (fun _=>(W.skip (W.sq (W.blk (g 35 37 []<|J UB (gd 37 49 [[],[],[],[],[],[.n (n)],[],[.x (aO j)],[],[],[],[],[]] ?_)))))) (noF (by simp_all))
     conv=>whnf
     refine⟨⟨I,I,I,I,I,Zdj,I,br AS,I,I,I,I,I,I⟩,by kernel_rfl,?_⟩
     refine W.cn<|J (fun _=>(rg [.n (n),.x (aO j)]<|J ⟨I,I,I,I,I,I,Zdj,⟨UC,br AS⟩,I⟩ (rg [.i ((n:Int) +1)]<|J Zdn ?_))) (noF tO)
     refine⟨n+1,[some 3,some 246],[],⟨rfl,⟨rfl,Zai,rfl,rfl,rfl,rfl,rfl,rfl,rfl,I⟩,⟨Zad,⟨⟨rfl,⟨rfl,⟨rfl,⟨rfl,⟨rfl,⟨rfl,⟨rfl,⟨rfl,⟨rfl,⟨rfl,⟨(congrArg (V.own _) (e1)),Zad⟩⟩⟩⟩⟩⟩⟩⟩⟩⟩⟩,I⟩⟩,I⟩,?_,?_⟩
     rotate_left
     (dsimp only;omega)
     dsimp only
     omega
    ·have e1:=Tk hj1 hd
     conv=>whnf
     refine g 0 0 []<|J UA<|W.sq<|W.cn<|J (fun _=>(W.skip (W.sq (W.blk (g 35 37 []<|J UB (gd 37 49 [[],[],[],[],[],[.n (n)],[],[.x (aO j)],[],[],[],[],[]] ?_)))))) (noF (by simp_all))
     conv=>whnf
     refine⟨⟨I,I,I,I,I,Zdj,I,br AS,I,I,I,I,I,I⟩,by kernel_rfl,?_⟩
     refine W.cn<|J (noT dO) fun _=>W.skip<|rg [.i ((n:Int) +1)]<|J Zdn ?_
     refine⟨n+1,[some 3,some 246],[],⟨rfl,⟨rfl,Zai,rfl,rfl,rfl,rfl,rfl,rfl,rfl,I⟩,⟨Zad,⟨⟨rfl,⟨rfl,⟨rfl,⟨rfl,⟨rfl,⟨rfl,⟨rfl,⟨rfl,⟨rfl,⟨rfl,⟨(congrArg (V.own _) (by rw[←e1])),Zad⟩⟩⟩⟩⟩⟩⟩⟩⟩⟩⟩,I⟩⟩,I⟩,?_,?_⟩
     rotate_left
     (dsimp only;omega)
     dsimp only
     omega
   have e0:=iT (qQ (b.now+1)) b.jobs (n:=n) OM
   conv=>whnf
   refine g 0 0 []<|J UA<|W.sq<|W.cn<|J (noT (by simp_all)) fun _=>W.exit<|W.sq<|g 33 59 []<|J UD<|W.blk ?_
   have hdl:∀ t∈p.tasks,t.deps.length≤8:=fun t ht=>by
    obtain⟨k,hk⟩:=List.getElem?_of_mem ht
    exact(b9 hck hk).2.2.1
   refine W.lp (fun s (m:Nat)=>⟨[(0,s.s 0),(1,s.s 1),(3,s.s 3),(4,s.s 4),(5,.ref ⟨5,none,0⟩),(19,s.s 19),(29,s.s 29),(59,s.s 59),(60,s.s 60),(61,.i m)],[(3,[s.c 3 0]),(5,[.own cO ((aH (dD b) p.tasks m).out.map aI)]),(246,[.t (.i b.workers),.t (.b b.up),.t (.i (b.now+1)),.t (.i b.since),.t (.i b.epoch),.t (.i (aH (dD b) p.tasks m).given),.own [false] (b.log.safe.map aj),.own [false] (b.log.loose.map aj),.own [false] (b.results.map aj),.own eG ((aH (dD b) p.tasks m).jobs.map aO),.own cx ((aH (dD b) p.tasks m).seats.map aG),.own cy (b.owed.map aL)])],[]⟩) (fun(m:Nat)=>m≤p.tasks.length) (fun(m:Nat)=>p.tasks.length - m) (0) [some 3,none,some 246] [] ⟨rfl,⟨rfl,Zai,rfl,rfl,⟨rfl,rfl,rfl⟩,rfl,rfl,rfl,rfl,rfl,I⟩,⟨Zad,⟨I,⟨⟨rfl,⟨rfl,⟨rfl,⟨rfl,⟨rfl,⟨rfl,⟨rfl,⟨rfl,⟨rfl,⟨rfl,⟨(congrArg (V.own _) (by rw[e0];rfl)),Zad⟩⟩⟩⟩⟩⟩⟩⟩⟩⟩⟩,I⟩⟩⟩,I⟩ OM ?_
   intro m hm
   obtain⟨k1,k2,k3,k4,k5,k6⟩:=lv (b:=dD b) (ts:=p.tasks) hdl u9 u10 m
   have k7:(dD b).jobs.length = b.jobs.length:=by show(b.jobs.map _).length = _;rw[List.length_map]
   rw[k7]at k1
   change (aH (dD b) p.tasks m).seats.length = b.seats.length at k2
   by_cases hm2:m < p.tasks.length
   ·obtain⟨t,ht0⟩:=af hm2
    obtain⟨y,hy0⟩:=af (xs:=b.results) (n:=m) OM
    obtain⟨j,hj0⟩:=af (xs:=(aH (dD b) p.tasks m).jobs) (n:=m) OM
    obtain⟨_,_,a3,a4⟩:=b9 hck ht0
    have crd:=jg b.results t.deps (fun d hd=>by have:=a4 d hd;omega) OM
    have cpk:=wg b.results t.deps (fun d hd=>by have:=a4 d hd;omega) OM
    have q1:∀ q:CanHand (dD b) p.tasks (aH (dD b) p.tasks m) m,y = emp:=fun q=>by have:=q.res;rw[show(dD b).results = b.results from rfl,jQ hy0]at this;exact this
    have q2:∀ q:CanHand (dD b) p.tasks (aH (dD b) p.tasks m) m,j.lease = 0:=fun q=>by have:=q.job;rw[Ll,hj0]at this;exact this
    have q3:∀ q:CanHand (dD b) p.tasks (aH (dD b) p.tasks m) m,cX b.results t.deps:=fun q=>by have:=q.ready;rw[dW ht0]at this;exact this
    by_cases hA:y = emp
    ·by_cases hB:j.lease = 0
     ·by_cases hF:cX b.results t.deps
      ·rw[decide_eq_true hF]at crd
       by_cases hG:(aH (dD b) p.tasks m).given < 1000000
       ·have hc:CanHand (dD b) p.tasks (aH (dD b) p.tasks m) m:=⟨by rw[show(dD b).results = b.results from rfl,jQ hy0];exact hA,by rw[Ll,hj0];exact hB,by rw[dW ht0];exact hF,hG⟩
        conv=>whnf
        refine g 0 0 []<|J UA<|W.sq<|W.cn<|J (fun _=>(W.skip (W.sq (W.blk (g 62 66 [.x (ay t)]<|J Zbv (W.sq (gd 72 101 [[],[],[],[],[],[.n (m)],[.x (aj y)],[],[],[BF],[BF],[BF],[BF],[BF],[BF,.n (m)],[BF],[BF,.x (aO j)],[BF],[BF],[],[BF],[BF],[BF],[BF],[BF],[BF],[BF,.call VT [[],[]]],[BF],[BF],[],[BF],[BF],[BF],[BF],[BF],[BF]] ?_))))))) (noF SI)
        conv=>whnf
        refine⟨Za8,by kernel_rfl,?_⟩
        refine W.cn<|J (noT dO) fun _=>W.skip<|g 66 71 []<|J UF<|W.blk ?_
        cases hf:kR (aH (dD b) p.tasks m).seats with
        |none =>
         have e:=oL (b:=dD b) (ts:=p.tasks) hf
         refine W.lp (fun s (k:Nat)=>⟨[(0,s.s 0),(1,s.s 1),(3,s.s 3),(4,s.s 4),(5,.ref ⟨5,none,0⟩),(7,s.s 7),(8,s.s 8),(19,s.s 19),(29,s.s 29),(59,s.s 59),(60,s.s 60),(61,s.s 61),(71,s.s 71),(106,s.s 106),(107,.i k)],[(246,[s.c 246 0,s.c 246 1,s.c 246 2,s.c 246 3,s.c 246 4,s.c 246 5,s.c 246 6,s.c 246 7,s.c 246 8,s.c 246 9,s.c 246 10,s.c 246 11]),(3,[s.c 3 0]),(8,[s.c 8 0,s.c 8 1,s.c 8 2]),(5,[.own cO ((aH (dD b) p.tasks m).out.map aI)])],[]⟩) (fun(k:Nat)=>k≤(aH (dD b) p.tasks m).seats.length) (fun(k:Nat)=>(aH (dD b) p.tasks m).seats.length - k) (0) [some 246,some 3,some 8,some 5] [] Zdp OM ?_
         intro s hs
         by_cases hs2:s < (aH (dD b) p.tasks m).seats.length
         ·obtain⟨x,hx0⟩:=af hs2
          have hx1:=ES hf s x hx0
          conv=>whnf
          refine g 0 0 []<|J UA<|W.sq<|W.cn<|J (fun h1=>?_) fun h1=>?_
          replace h1:=dt h1
          simp only[LM]at h1
          refine W.skip<|W.sq<|W.blk<|g 108 110 []<|J UB<|W.sq<|g 110 118 [.n (s),.x (aG x)]<|J ⟨I,I,I,I,I,Zdj,I,xA,I,I⟩<|W.cn<|J (fun _=>(W.exit (rg [.i ((s:Int) +1)]<|J Zdn ?_))) (noF (nbT AS))
          rotate_left
          replace h1:=df h1
          simp only[LM]at h1
          omega
          refine⟨s+1,[some 246,some 3,some 8,some 5],[],Zdp,?_,?_⟩
          rotate_left
          (dsimp only;omega)
          dsimp only
          omega
         ·conv=>whnf
          refine g 0 0 []<|J UA<|W.sq<|W.cn<|J (fun h1=>?_) fun h1=>?_
          replace h1:=dt h1
          simp only[LM]at h1
          omega
          replace h1:=df h1
          simp only[LM]at h1
          refine W.exit<|rg [.i ((m:Int) +1)]<|J Zdn ?_
          refine⟨m+1,[some 3,some 5,some 246],[],⟨rfl,Zd2,⟨Zad,⟨⟨rfl,⟨(congrArg (V.own _) (by rw[e])),I⟩⟩,⟨⟨rfl,⟨rfl,⟨rfl,⟨rfl,⟨rfl,⟨rfl,⟨(congrArg (fun z=>V.t (T.v (Value.int _ z))) (by rw[e])),⟨rfl,⟨rfl,⟨rfl,⟨(congrArg (V.own _) (by rw[e])),⟨(congrArg (V.own _) (by rw[e])),Zdh⟩⟩⟩⟩⟩⟩⟩⟩⟩⟩⟩⟩,I⟩⟩⟩,I⟩,?_,?_⟩
          rotate_left
          (dsimp only;omega)
          dsimp only
          omega
        |some s0 =>
         obtain⟨x,hx0,hx1,hx2,hx3⟩:=oM hf
         have e:=oK hc hf
         refine W.lp (fun s (k:Nat)=>⟨[(0,s.s 0),(1,s.s 1),(3,s.s 3),(4,s.s 4),(5,.ref ⟨5,none,0⟩),(7,s.s 7),(8,s.s 8),(19,s.s 19),(29,s.s 29),(59,s.s 59),(60,s.s 60),(61,s.s 61),(71,s.s 71),(106,s.s 106),(107,.i k)],[(246,[s.c 246 0,s.c 246 1,s.c 246 2,s.c 246 3,s.c 246 4,s.c 246 5,s.c 246 6,s.c 246 7,s.c 246 8,s.c 246 9,s.c 246 10,s.c 246 11]),(3,[s.c 3 0]),(8,[s.c 8 0,s.c 8 1,s.c 8 2]),(5,[.own cO ((aH (dD b) p.tasks m).out.map aI)])],[]⟩) (fun(k:Nat)=>k≤s0) (fun(k:Nat)=>(aH (dD b) p.tasks m).seats.length - k) (0) [some 246,some 3,some 8,some 5] [] Zdp OM ?_
         intro s hs
         by_cases hs2:s < s0
         ·obtain⟨x',hx'⟩:=af (xs:=(aH (dD b) p.tasks m).seats) (n:=s) OM
          have hx4:=hx3 s x' hs2 hx'
          conv=>whnf
          refine g 0 0 []<|J UA<|W.sq<|W.cn<|J (fun h1=>?_) fun h1=>?_
          replace h1:=dt h1
          simp only[LM]at h1
          refine W.skip<|W.sq<|W.blk<|g 108 110 []<|J UB<|W.sq<|g 110 118 [.n (s),.x (aG x')]<|J ⟨I,I,I,I,I,Zdj,I,xA,I,I⟩<|W.cn<|J (fun _=>(W.exit (rg [.i ((s:Int) +1)]<|J Zdn ?_))) (noF (nbT AS))
          rotate_left
          replace h1:=df h1
          simp only[LM]at h1
          omega
          refine⟨s+1,[some 246,some 3,some 8,some 5],[],Zdp,?_,?_⟩
          rotate_left
          (dsimp only;omega)
          dsimp only
          omega
         ·obtain rfl:s = s0:=by omega
          have ej:((aH (dD b) p.tasks m).jobs.map aO).set m (aO ⟨(b.epoch - 1) * 1000000+ ((aH (dD b) p.tasks m).given+1),(s:Int) +1,b.now+1+12⟩) = (aH (dD b) p.tasks (m+1)).jobs.map aO:=by rw[e,←List.map_set];rfl
          have es:((aH (dD b) p.tasks m).seats.map aG).set s (aG ⟨false,x.epoch⟩) = (aH (dD b) p.tasks (m+1)).seats.map aG:=by rw[e,←List.map_set,kQ,mc,hx0];rfl
          have eo:(aH (dD b) p.tasks m).out.map aI++ [aI ⟨1,0,(s:Int) +1,b.epoch,(b.epoch - 1) * 1000000+ ((aH (dD b) p.tasks m).given+1),m,emp,dP b.results t.deps⟩] = (aH (dD b) p.tasks (m+1)).out.map aI:=by rw[e,kQ,L6,dW ht0,List.map_append];rfl
          have eg:(aH (dD b) p.tasks m).given+1 = (aH (dD b) p.tasks (m+1)).given:=by rw[e];rfl
          conv=>whnf
          refine g 0 0 []<|J UA<|W.sq<|W.cn<|J (fun h1=>?_) fun h1=>?_
          replace h1:=dt h1
          simp only[LM]at h1
          refine W.skip<|W.sq<|W.blk<|g 108 110 []<|J UB<|W.sq<|g 110 118 [.n (s),.x (aG x)]<|J ⟨I,I,I,I,I,Zdj,I,xA,I,I⟩<|W.cn<|J (noT (nbF AS)) fun _=>W.skip<|g 118 126 [.n (s),.x (aG x)]<|J ⟨I,I,I,I,I,Zdj,I,Zem,I⟩<|g 126 133 [.i (Hand.given (aH (dD b) p.tasks m) +1)]<|J ⟨I,I,I,I,wO,I,I,UA,I⟩<|gd 133 158 [[],[],[],[],[],[],[],[],[],[.i (b.epoch - 1)],[.i ((b.epoch - 1) * 1000000)],[],[],[],[],[.i ((b.epoch - 1) * 1000000+ (Hand.given (aH (dD b) p.tasks m) +1))],[],[.i ((s:Int) +1)],[],[],[],[],[.i (b.now+1+12)],[],[.n (m)],[.x (aO j)]] ?_
          conv=>whnf
          refine J ⟨I,I,I,I,I,I,I,I,I,wO,wO,I,I,I,I,wO,I,wO,I,I,I,I,wO,I,Zdj,⟨UC,xA⟩,I⟩<|J KR<|gd 158 184 [[],[],[.i ((s:Int) +1)],[],[],[],[],[],[],[],[],[],[.n (m)],[],[.x (aM (aO j) 0 [T.v (Value.int IntKind.i64 ((b.epoch - 1) * 1000000+ (Hand.given (aH (dD b) p.tasks m) +1))),T.v (Value.int IntKind.i64 ((s:Int) +1)),T.v (Value.int IntKind.i64 (b.now+1+12))])],[],[],[],[],[],[],[],[.call (V.own [false] (List.map aj (dP b.results t.deps))) [[],[]]],[],[],[],[]] ?_
          conv=>whnf
          refine J ⟨I,I,wO,I,I,I,I,I,I,I,I,I,Zdj,I,bS LN,I,I,I,I,I,I,I,Zan,I,⟨UH,I⟩,Zdm,I,I⟩<|J KR<|W.exit<|rg [.i ((m:Int) +1)]<|J Zdn ?_
          rotate_left
          replace h1:=df h1
          simp only[LM]at h1
          omega
          refine⟨m+1,[some 3,some 183,some 246],[],⟨rfl,Zd2,⟨Zad,⟨⟨rfl,⟨(congrArg (V.own _) (eo)),I⟩⟩,⟨⟨rfl,⟨rfl,⟨rfl,⟨rfl,⟨rfl,⟨rfl,⟨(congrArg (fun z=>V.t (T.v (Value.int _ z))) (eg)),⟨rfl,⟨rfl,⟨rfl,⟨(congrArg (V.own _) (ej)),⟨(congrArg (V.own _) (es)),Zdh⟩⟩⟩⟩⟩⟩⟩⟩⟩⟩⟩⟩,I⟩⟩⟩,I⟩,?_,?_⟩
          rotate_left
          (dsimp only;omega)
          dsimp only
          omega
       ·have e:=iV (b:=dD b) (ts:=p.tasks) (fun q=>hG q.given)
        conv=>whnf
        refine g 0 0 []<|J UA<|W.sq<|W.cn<|J (fun _=>(W.skip (W.sq (W.blk (g 62 66 [.x (ay t)]<|J Zbv (W.sq (gd 72 101 [[],[],[],[],[],[.n (m)],[.x (aj y)],[],[],[BF],[BF],[BF],[BF],[BF],[BF,.n (m)],[BF],[BF,.x (aO j)],[BF],[BF],[],[BF],[BF],[BF],[BF],[BF],[BF],[BF,.call VT [[],[]]],[BF],[BF],[],[BF],[BF],[BF],[BF],[BF],[BF]] ?_))))))) (noF SI)
        conv=>whnf
        refine⟨Za8,by kernel_rfl,?_⟩
        refine W.cn<|J (fun _=>(W.exit (rg [.i ((m:Int) +1)]<|J Zdn ?_))) (noF tO)
        refine⟨m+1,[some 3,some 5,some 246],[],⟨rfl,Zd2,⟨Zad,⟨⟨rfl,⟨(congrArg (V.own _) (by rw[e])),I⟩⟩,⟨⟨rfl,⟨rfl,⟨rfl,⟨rfl,⟨rfl,⟨rfl,⟨(congrArg (fun z=>V.t (T.v (Value.int _ z))) (by rw[e])),⟨rfl,⟨rfl,⟨rfl,⟨(congrArg (V.own _) (by rw[e])),⟨(congrArg (V.own _) (by rw[e])),Zdh⟩⟩⟩⟩⟩⟩⟩⟩⟩⟩⟩⟩,I⟩⟩⟩,I⟩,?_,?_⟩
        rotate_left
        (dsimp only;omega)
        dsimp only
        omega
      ·rw[decide_eq_false hF]at crd
       have e:=iV (b:=dD b) (ts:=p.tasks) (fun q=>hF (q3 q))
       conv=>whnf
       refine g 0 0 []<|J UA<|W.sq<|W.cn<|J (fun _=>(W.skip (W.sq (W.blk (g 62 66 [.x (ay t)]<|J Zbv (W.sq (gd 72 101 [[],[],[],[],[],[.n (m)],[.x (aj y)],[],[],[BF],[BF],[BF],[BF],[BF],[BF,.n (m)],[BF],[BF,.x (aO j)],[BF],[BF],[],[BF],[BF],[BF],[BF],[BF],[BF],[BF,.call VF [[],[]]],[BF],[BF],[],[BT],[BT],[BT],[BT],[BT],[BT]] ?_))))))) (noF SI)
       conv=>whnf
       refine⟨⟨I,I,I,I,I,Zdj,xA,I,I,⟨nO,I⟩,⟨nO,I⟩,⟨nO,I⟩,⟨nO,I⟩,⟨nO,I⟩,⟨nO,rfl,LN⟩,⟨nO,I⟩,⟨nO,xA⟩,⟨nO,I⟩,nO,I,⟨nO,I⟩,⟨nO,I⟩,⟨nO,I⟩,⟨nO,I⟩,⟨nO,I⟩,⟨nO,I⟩,⟨nO,UB,I,UT,UA,AS⟩,⟨nO,I⟩,nO,I,rfl,rfl,rfl,rfl,rfl,rfl,I⟩,by kernel_rfl,?_⟩
       refine W.cn<|J (fun _=>(W.exit (rg [.i ((m:Int) +1)]<|J Zdn ?_))) (noF rfl)
       refine⟨m+1,[some 3,some 5,some 246],[],⟨rfl,Zd2,⟨Zad,⟨⟨rfl,⟨(congrArg (V.own _) (by rw[e])),I⟩⟩,⟨⟨rfl,⟨rfl,⟨rfl,⟨rfl,⟨rfl,⟨rfl,⟨(congrArg (fun z=>V.t (T.v (Value.int _ z))) (by rw[e])),⟨rfl,⟨rfl,⟨rfl,⟨(congrArg (V.own _) (by rw[e])),⟨(congrArg (V.own _) (by rw[e])),Zdh⟩⟩⟩⟩⟩⟩⟩⟩⟩⟩⟩⟩,I⟩⟩⟩,I⟩,?_,?_⟩
       rotate_left
       (dsimp only;omega)
       dsimp only
       omega
     ·have e:=iV (b:=dD b) (ts:=p.tasks) (fun q=>hB (q2 q))
      conv=>whnf
      refine g 0 0 []<|J UA<|W.sq<|W.cn<|J (fun _=>(W.skip (W.sq (W.blk (g 62 66 [.x (ay t)]<|J Zbv (W.sq (gd 72 101 [[],[],[],[],[],[.n (m)],[.x (aj y)],[],[],[BF],[BF],[BF],[BF],[BF],[BF,.n (m)],[BF],[BF,.x (aO j)],[BF],[BF],[],[BT],[BT],[BT],[BT],[BT],[BT],[BT],[BT],[BT],[],[BT],[BT],[BT],[BT],[BT],[BT]] ?_))))))) (noF SI)
      conv=>whnf
      refine⟨⟨I,I,I,I,I,Zdj,xA,I,I,⟨nO,I⟩,⟨nO,I⟩,⟨nO,I⟩,⟨nO,I⟩,⟨nO,I⟩,⟨nO,rfl,LN⟩,⟨nO,I⟩,⟨nO,xA⟩,⟨nO,I⟩,nO,I,ag OM,ag OM,ag OM,ag OM,ag OM,ag OM,ag OM,ag OM,ag OM,I,rfl,rfl,rfl,rfl,rfl,rfl,I⟩,by kernel_rfl,?_⟩
      refine W.cn<|J (fun _=>(W.exit (rg [.i ((m:Int) +1)]<|J Zdn ?_))) (noF rfl)
      refine⟨m+1,[some 3,some 5,some 246],[],⟨rfl,Zd2,⟨Zad,⟨⟨rfl,⟨(congrArg (V.own _) (by rw[e])),I⟩⟩,⟨⟨rfl,⟨rfl,⟨rfl,⟨rfl,⟨rfl,⟨rfl,⟨(congrArg (fun z=>V.t (T.v (Value.int _ z))) (by rw[e])),⟨rfl,⟨rfl,⟨rfl,⟨(congrArg (V.own _) (by rw[e])),⟨(congrArg (V.own _) (by rw[e])),Zdh⟩⟩⟩⟩⟩⟩⟩⟩⟩⟩⟩⟩,I⟩⟩⟩,I⟩,?_,?_⟩
      rotate_left
      (dsimp only;omega)
      dsimp only
      omega
    ·have e:=iV (b:=dD b) (ts:=p.tasks) (fun q=>hA (q1 q))
     conv=>whnf
     refine g 0 0 []<|J UA<|W.sq<|W.cn<|J (fun _=>(W.skip (W.sq (W.blk (g 62 66 [.x (ay t)]<|J Zbv (W.sq (gd 72 101 [[],[],[],[],[],[.n (m)],[.x (aj y)],[],[],[BT],[BT],[BT],[BT],[BT],[BT],[BT],[BT],[BT],[BT],[],[BT],[BT],[BT],[BT],[BT],[BT],[BT],[BT],[BT],[],[BT],[BT],[BT],[BT],[BT],[BT]] ?_))))))) (noF SI)
     conv=>whnf
     refine⟨⟨I,I,I,I,I,Zdj,xA,I,I,ag OM,ag OM,ag OM,ag OM,ag OM,ag OM,ag OM,ag OM,ag OM,ag OM,I,rfl,rfl,rfl,rfl,rfl,rfl,rfl,rfl,rfl,I,rfl,rfl,rfl,rfl,rfl,rfl,I⟩,by kernel_rfl,?_⟩
     refine W.cn<|J (fun _=>(W.exit (rg [.i ((m:Int) +1)]<|J Zdn ?_))) (noF rfl)
     refine⟨m+1,[some 3,some 5,some 246],[],⟨rfl,Zd2,⟨Zad,⟨⟨rfl,⟨(congrArg (V.own _) (by rw[e])),I⟩⟩,⟨⟨rfl,⟨rfl,⟨rfl,⟨rfl,⟨rfl,⟨rfl,⟨(congrArg (fun z=>V.t (T.v (Value.int _ z))) (by rw[e])),⟨rfl,⟨rfl,⟨rfl,⟨(congrArg (V.own _) (by rw[e])),⟨(congrArg (V.own _) (by rw[e])),Zdh⟩⟩⟩⟩⟩⟩⟩⟩⟩⟩⟩⟩,I⟩⟩⟩,I⟩,?_,?_⟩
     rotate_left
     (dsimp only;omega)
     dsimp only
     omega
   obtain rfl:m = p.tasks.length:=by omega
   by_cases hs:b.since+1 = 2
   ·rw[mD h0 hup hs]
    conv=>whnf
    refine g 0 0 []<|J UA<|W.sq<|W.cn<|J (noT SI) fun _=>W.exit<|g 19 193 [.i (b.since+1)]<|J ⟨I,I,I,I,wO,I,I,UA,I⟩<|W.sq<|g 193 197 []<|J UE<|W.cn<|J (fun _=>(g 197 201 []<|J UW (gd 201 216 [[],[],[],[],[],[],[],[],[],[],[],[],[],[],[],[]] ?_))) (noF tO)
    conv=>whnf
    refine⟨⟨I,I,I,I,I,I,I,I,I,I,I,Zdm,I,I,I,UA,I⟩,by kernel_rfl,?_⟩
    refine g 216 220 []<|J ⟨I,I,I,I,UA,I⟩<|W.sq<|g 220 223 []<|J UF<|W.blk<|W.lp (fun s (n:Nat)=>⟨[(0,s.s 0),(3,s.s 3),(4,s.s 4),(5,.ref ⟨5,none,0⟩),(223,s.s 223),(224,s.s 224),(225,.i n)],[(3,[s.c 3 0]),(5,[.own cO (((endH b p.tasks).out++ (b.owed.take n).map (mZ b.epoch)).map aI)]),(246,[.t (.i b.workers),.t (.b b.up),.t (.i (b.now+1)),.t (.i 0),.t (.i b.epoch),.t (.i (endH b p.tasks).given),.own [false] ((b.log.safe++b.log.loose).map aj),.own [false] [],.own [false] (b.results.map aj),.own eG ((endH b p.tasks).jobs.map aO),.own cx ((endH b p.tasks).seats.map aG),.own cy (b.owed.map aL)])],[]⟩) (fun(n:Nat)=>n≤b.owed.length) (fun(n:Nat)=>b.owed.length - n) (0) [some 3,some 5,some 246] [] ⟨rfl,Zbb,⟨Zad,⟨⟨rfl,⟨(congrArg (V.own _) (by rw[List.take_zero,List.map_nil,List.append_nil];rfl)),I⟩⟩,⟨⟨rfl,⟨rfl,⟨rfl,⟨rfl,⟨rfl,⟨rfl,⟨rfl,⟨(congrArg (V.own _) SI),⟨rfl,Zac⟩⟩⟩⟩⟩⟩⟩⟩⟩,I⟩⟩⟩,I⟩ OM ?_
    intro n hn
    by_cases hn2:n < b.owed.length
    ·obtain⟨o,ho⟩:=af hn2
     have k9:(endH b p.tasks).out.length≤40:=by show(aH _ _ _).out.length≤40;omega
     have eo:=vL (out:=(endH b p.tasks).out) (ep:=b.epoch) ho
     conv=>whnf
     refine g 0 0 []<|J UA<|W.sq<|W.cn<|J (fun _=>(W.skip (W.sq (W.blk (g 226 229 [.n (n),.x (aL o)]<|J Zc1 (rgd [[],[],[],[],[],[],[],[],[],[],[],[],[]] ?_)))))) (noF SI)
     conv=>whnf
     refine⟨⟨I,I,I,I,I,I,I,I,I,I,⟨UH,I⟩,Zdm,I,I⟩,by kernel_rfl,?_⟩
     refine rg [.i ((n:Int) +1)]<|J Zdn ?_
     refine⟨n+1,[some 3,some 240,some 246],[],⟨rfl,Zbb,⟨Zad,⟨⟨rfl,⟨(congrArg (V.own _) (eo)),I⟩⟩,⟨Zaa,I⟩⟩⟩,I⟩,?_,?_⟩
     rotate_left
     (dsimp only;omega)
     dsimp only
     omega
    ·conv=>whnf
     refine g 0 0 []<|J UA<|W.sq<|W.cn<|J (noT SI) fun _=>W.exit<|rg []<|J UW<|g 5 246 []<|J UB<|RT ?_
     all_goals (rw[aF OM])
   ·rw[ov h0 hup hs]
    conv=>whnf
    refine g 0 0 []<|J UA<|W.sq<|W.cn<|J (noT SI) fun _=>W.exit<|g 19 193 [.i (b.since+1)]<|J ⟨I,I,I,I,wO,I,I,UA,I⟩<|W.sq<|g 193 197 []<|J UE<|W.cn<|J (noT dO) fun _=>W.skip<|g 0 4 []<|J UB<|RT ?_
    rfl
end Go.K
end
section
open Go Go.Tm Go.Proofs
namespace Go.K
def atB(d:Boss)(h:Hand):Boss:=⟨d.workers,d.up,d.now,d.since,d.epoch,h.given,d.log,d.results,h.jobs,h.seats,d.owed⟩
theorem D0(b:Boss)(hl:b.seats.length≤1048576)(hf:kR b.seats = none):F o5 [.val (f0 b)] (.i (-1)) [[]]:=by
 refine ph ?_
 conv=>whnf
 refine g 0 1 []<|J Zep<|W.sq<|g 0 0 []<|J UA<|W.blk<|W.lp (fun s (n:Nat)=>⟨[(1,s.s 1),(3,.i n)],[(1,[s.c 1 0,s.c 1 1,s.c 1 2,s.c 1 3,s.c 1 4,s.c 1 5,s.c 1 6,s.c 1 7,s.c 1 8,s.c 1 9,s.c 1 10,s.c 1 11])],[]⟩) (fun(n:Nat)=>n≤b.seats.length) (fun(n:Nat)=>b.seats.length - n) (0) [some 1] [] ⟨rfl,⟨rfl,rfl,I⟩,⟨Zaa,I⟩,I⟩ OM ?_
 intro n hn
 by_cases hn2:n < b.seats.length
 ·obtain⟨x,hx⟩:=af hn2
  have hx1:=ES hf n x hx
  conv=>whnf
  refine W.sq<|g 4 8 []<|J UE<|W.cn<|J (fun _=>(W.skip (W.sq (W.blk (g 8 16 [.x (aG x)]<|J ⟨I,I,I,Zdl,I,I,I⟩ (W.cn<|J (noT AS) fun _=>(W.skip (rg [.i ((n:Int) +1)]<|J Zdi ?_)))))))) (noF SI)
  refine⟨n+1,[some 1],[],⟨rfl,⟨rfl,rfl,I⟩,⟨Zaa,I⟩,I⟩,?_,?_⟩
  rotate_left
  (dsimp only;omega)
  dsimp only
  omega
 ·conv=>whnf
  refine W.sq<|g 4 8 []<|J UE<|W.cn<|J (noT SI) fun _=>W.exit<|g 1 2 []<|J UA<|RT ?_
  rfl
theorem DZ(b:Boss){k:Nat}(hl:b.seats.length≤1048576)(hf:kR b.seats = some k):F o5 [.val (f0 b)] (.i k) [[]]:=by
 obtain⟨x,hx0,hx1,hx2,hx3⟩:=oM hf
 refine ph ?_
 conv=>whnf
 refine g 0 1 []<|J Zep<|W.sq<|g 0 0 []<|J UA<|W.blk<|W.lp (fun s (n:Nat)=>⟨[(1,s.s 1),(3,.i n)],[(1,[s.c 1 0,s.c 1 1,s.c 1 2,s.c 1 3,s.c 1 4,s.c 1 5,s.c 1 6,s.c 1 7,s.c 1 8,s.c 1 9,s.c 1 10,s.c 1 11])],[]⟩) (fun(n:Nat)=>n≤k) (fun(n:Nat)=>b.seats.length - n) (0) [some 1] [] ⟨rfl,⟨rfl,rfl,I⟩,⟨Zaa,I⟩,I⟩ OM ?_
 intro n hn
 by_cases hn2:n < k
 ·obtain⟨y,hy⟩:=af (xs:=b.seats) (n:=n) OM
  have hy1:=hx3 n y hn2 hy
  conv=>whnf
  refine W.sq<|g 4 8 []<|J UE<|W.cn<|J (fun h1=>?_) fun h1=>?_
  replace h1:=dt h1
  simp only[LM]at h1
  refine W.skip<|W.sq<|W.blk<|g 8 16 [.x (aG y)]<|J ⟨I,I,I,Zdl,I,I,I⟩<|W.cn<|J (noT AS) fun _=>W.skip<|rg [.i ((n:Int) +1)]<|J Zdi ?_
  rotate_left
  replace h1:=df h1
  simp only[LM]at h1
  omega
  refine⟨n+1,[some 1],[],⟨rfl,⟨rfl,rfl,I⟩,⟨Zaa,I⟩,I⟩,?_,?_⟩
  rotate_left
  (dsimp only;omega)
  dsimp only
  omega
 ·obtain rfl:n = k:=by omega
  conv=>whnf
  refine W.sq<|g 4 8 []<|J UE<|W.cn<|J (fun _=>(W.skip (W.sq (W.blk (g 8 16 [.x (aG x)]<|J ⟨I,I,I,Zdl,I,I,I⟩ (W.cn<|J (fun _=>(g 16 18 []<|J UB (RT ?_))) (noF AS))))))) (noF SI)
  rfl
structure HandIn (d:Boss) (ts:List Task):Prop where
 chk:aq ts = 0
 res:d.results.length = ts.length
 jobs:d.jobs.length = ts.length
 seats:d.seats.length≤8
 ep:1≤d.epoch∧d.epoch≤300
 given:0≤d.given∧d.given≤1000000
 now:0≤d.now∧d.now≤1000000
theorem DB(d:Boss)(p:Plan)(h:HandIn d p.tasks):F kG [.val (aN d),.val (cR p)] (MO ⟨atB d (aH d p.tasks p.tasks.length),(aH d p.tasks p.tasks.length).out⟩) [[],[]]:=by
 obtain⟨hck,u3,u4,u5,⟨ue1,ue2⟩,⟨u9,u10⟩,⟨hn1,hn2⟩⟩:=h
 have hpl:=(bU hck).1
 have hdl:∀ t∈p.tasks,t.deps.length≤8:=fun t ht=>by
  obtain⟨k,hk⟩:=List.getElem?_of_mem ht
  exact(b9 hck hk).2.2.1
 refine CB ?_
 conv=>whnf
 refine g 0 0 []<|J Zcr<|g 11 13 []<|J ⟨I,I,I,UM,I⟩<|W.sq<|g 0 0 []<|J UA<|W.blk<|W.lp (fun s (m:Nat)=>⟨[(0,s.s 0),(1,s.s 1),(2,s.s 2),(3,s.s 3),(4,s.s 4),(5,s.s 5),(6,.i m)],[(138,[s.c 138 0,s.c 138 1,s.c 138 2,s.c 138 3,s.c 138 4,s.c 138 5,s.c 138 6,s.c 138 7,s.c 138 8,s.c 138 9,s.c 138 10,s.c 138 11]),(2,[s.c 2 0,s.c 2 1,s.c 2 2,s.c 2 3,s.c 2 4,s.c 2 5,s.c 2 6,s.c 2 7,s.c 2 8,s.c 2 9,s.c 2 10,s.c 2 11]),(3,[s.c 3 0]),(4,[s.c 4 0,s.c 4 1,s.c 4 2,s.c 4 3,s.c 4 4,s.c 4 5,s.c 4 6,s.c 4 7,s.c 4 8,s.c 4 9,s.c 4 10,s.c 4 11,s.c 4 12]),(5,[.t (.i (atB d (aH d p.tasks m)).workers),.t (.b (atB d (aH d p.tasks m)).up),.t (.i (atB d (aH d p.tasks m)).now),.t (.i (atB d (aH d p.tasks m)).since),.t (.i (atB d (aH d p.tasks m)).epoch),.t (.i (atB d (aH d p.tasks m)).given),.own [false] ((atB d (aH d p.tasks m)).log.safe.map aj),.own [false] ((atB d (aH d p.tasks m)).log.loose.map aj),.own [false] ((atB d (aH d p.tasks m)).results.map aj),.own eG ((atB d (aH d p.tasks m)).jobs.map aO),.own cx ((atB d (aH d p.tasks m)).seats.map aG),.own cy ((atB d (aH d p.tasks m)).owed.map aL),.own cO ((aH d p.tasks m).out.map aI)])],[]⟩) (fun(m:Nat)=>m≤p.tasks.length) (fun(m:Nat)=>p.tasks.length - m) (0) [some 138,some 2,some 3,some 4,some 5] [] ⟨rfl,⟨Zae,Zai,rfl,rfl,rfl,rfl,rfl,I⟩,⟨Zal,⟨Zaa,⟨Zad,⟨Zdk,⟨Zdk,I⟩⟩⟩⟩⟩,I⟩ OM ?_
 intro m hm
 obtain⟨k1,k2,k3,k4,k5,k6⟩:=lv (b:=d) (ts:=p.tasks) hdl u9 u10 m
 generalize hX:atB d (aH d p.tasks m) = X
 have x1:X.results = d.results:=by rw[←hX];rfl
 have x2:X.jobs = (aH d p.tasks m).jobs:=by rw[←hX];rfl
 have x3:X.seats = (aH d p.tasks m).seats:=by rw[←hX];rfl
 have x4:X.given = (aH d p.tasks m).given:=by rw[←hX];rfl
 have x5:X.epoch = d.epoch:=by rw[←hX];rfl
 have x6:X.now = d.now:=by rw[←hX];rfl
 have y1:X.results.length = p.tasks.length:=by rw[x1];exact u3
 have y2:X.jobs.length = p.tasks.length:=by rw[x2,k1];exact u4
 have y3:X.seats.length≤8:=by rw[x3,k2];exact u5
 by_cases hm2:m < p.tasks.length
 ·obtain⟨t,ht0⟩:=af hm2
  obtain⟨y,hy0⟩:=af (xs:=X.results) (n:=m) OM
  obtain⟨j,hj0⟩:=af (xs:=X.jobs) (n:=m) OM
  obtain⟨_,_,a3,a4⟩:=b9 hck ht0
  have crd:=im p X.results (m:Int) OM (t:=t) (by rw[Int.toNat_natCast];exact ht0) (fun e he=>by have:=a4 e he;omega) OM
  have q1:∀ q:CanHand d p.tasks (aH d p.tasks m) m,y = emp:=fun q=>by have:=q.res;rw[←x1,jQ hy0]at this;exact this
  have q2:∀ q:CanHand d p.tasks (aH d p.tasks m) m,j.lease = 0:=fun q=>by have:=q.job;rw[←x2,Ll,hj0]at this;exact this
  have q3:∀ q:CanHand d p.tasks (aH d p.tasks m) m,cX X.results t.deps:=fun q=>by have:=q.ready;rw[←x1,dW ht0]at this;exact this
  cases hf:kR X.seats with
  |none =>
   have e:=oL (b:=d) (ts:=p.tasks) (n:=m) (by rw[←x3];exact hf)
   have cs:=D0 X OM hf
   conv=>whnf
   refine W.sq<|g 13 17 []<|J UE<|W.cn<|J (fun _=>(W.skip (W.sq (W.blk (g 20 23 [.call (V.i (-1)) [[]]]<|J ⟨I,I,Za3,I,I⟩ (W.sq (g 17 58 [BT,BT,BT,BT,BT,BT,BT,BT,BT,BT,BT,BT,BT,BT,BT,BT,BT,BT,BT,BT,BT,BT,BT,BT,BT,BT,BT,BT,BT,BT] ?_))))))) (noF SI)
   conv=>whnf
   refine⟨⟨I,I,I,rfl,rfl,rfl,rfl,rfl,I,rfl,rfl,rfl,rfl,rfl,rfl,rfl,rfl,I,rfl,rfl,rfl,rfl,rfl,rfl,rfl,rfl,rfl,I,rfl,rfl,rfl,rfl,rfl,rfl,rfl,rfl,I⟩,?_⟩
   refine W.cn<|J (fun _=>(W.exit (rg [.i ((m:Int) +1)]<|J Zdi ?_))) (noF rfl)
   refine⟨m+1,[some 138,some 2,some 3,some 4,some 5],[],⟨rfl,⟨Zae,Zai,rfl,rfl,rfl,rfl,rfl,I⟩,⟨Zal,⟨Zaa,⟨Zad,⟨Zdk,⟨⟨rfl,⟨(congrArg (fun z=>V.t (T.v (Value.int _ z))) (by rw[e,←hX])),⟨(congrArg (fun z=>V.t (T.v (Value.bool z))) (by rw[e,←hX])),⟨(congrArg (fun z=>V.t (T.v (Value.int _ z))) (by rw[e,←hX])),⟨(congrArg (fun z=>V.t (T.v (Value.int _ z))) (by rw[e,←hX])),⟨(congrArg (fun z=>V.t (T.v (Value.int _ z))) (by rw[e,←hX])),⟨(congrArg (fun z=>V.t (T.v (Value.int _ z))) (by rw[e,←hX])),⟨(congrArg (V.own _) (by rw[e,←hX])),⟨(congrArg (V.own _) (by rw[e,←hX])),⟨(congrArg (V.own _) (by rw[e,←hX])),⟨(congrArg (V.own _) (by rw[e,←hX])),⟨(congrArg (V.own _) (by rw[e,←hX])),⟨(congrArg (V.own _) (by rw[e,←hX])),⟨(congrArg (V.own _) SI),I⟩⟩⟩⟩⟩⟩⟩⟩⟩⟩⟩⟩⟩⟩,I⟩⟩⟩⟩⟩,I⟩,?_,?_⟩
   rotate_left
   (dsimp only;omega)
   dsimp only
   omega
  |some sx =>
   have cs:=DZ X OM hf
   obtain⟨x,hx0,hx1,hx2,hx3⟩:=oM hf
   by_cases hA:y = emp
   ·by_cases hB:j.lease = 0
    ·by_cases hF:cX X.results t.deps
     ·rw[decide_eq_true hF]at crd
      by_cases hG:X.given < 1000000
      ·have hc:CanHand d p.tasks (aH d p.tasks m) m:=⟨by rw[←x1,jQ hy0];exact hA,by rw[←x2,Ll,hj0];exact hB,by rw[←x1,dW ht0];exact hF,by rw[←x4];exact hG⟩
       have e:=oK hc (by rw[←x3];exact hf)
       have ej:(X.jobs.map aO).set m (aO ⟨(X.epoch - 1) * 1000000+ (X.given+1),(sx:Int) +1,X.now+12⟩) = (atB d (aH d p.tasks (m+1))).jobs.map aO:=by rw[e,←List.map_set,x2,x4,x5,x6];rfl
       have es:(X.seats.map aG).set sx (aG ⟨false,x.epoch⟩) = (atB d (aH d p.tasks (m+1))).seats.map aG:=by
        have e9:mc (aH d p.tasks m).seats sx = x:=by rw[mc,←x3,hx0];rfl
        rw[e,←List.map_set,x3,atB,kQ,e9]
       have eo:(aH d p.tasks m).out.map aI++ [aI ⟨1,0,(sx:Int) +1,X.epoch,(X.epoch - 1) * 1000000+ (X.given+1),m,emp,dP X.results t.deps⟩] = (aH d p.tasks (m+1)).out.map aI:=by rw[e,kQ,L6,dW ht0,List.map_append,x1,x4,x5];rfl
       have eg:X.given+1 = (atB d (aH d p.tasks (m+1))).given:=by rw[e,x4];rfl
       have e1:X.workers = (atB d (aH d p.tasks (m+1))).workers:=by rw[←hX];rfl
       have e2:X.up = (atB d (aH d p.tasks (m+1))).up:=by rw[←hX];rfl
       have e3:X.now = (atB d (aH d p.tasks (m+1))).now:=by rw[←hX];rfl
       have e4:X.since = (atB d (aH d p.tasks (m+1))).since:=by rw[←hX];rfl
       have e5:X.epoch = (atB d (aH d p.tasks (m+1))).epoch:=by rw[←hX];rfl
       have e6:X.log = (atB d (aH d p.tasks (m+1))).log:=by rw[←hX];rfl
       have e7:X.results = (atB d (aH d p.tasks (m+1))).results:=by rw[←hX];rfl
       have e8:X.owed = (atB d (aH d p.tasks (m+1))).owed:=by rw[←hX];rfl
       conv=>whnf
       refine W.sq<|g 13 17 []<|J UE<|W.cn<|J (fun _=>(W.skip (W.sq (W.blk (g 20 23 [.call (V.i (sx:Int)) [[]]]<|J ⟨I,I,Za3,I,I⟩ (W.sq (g 17 58 [BF,BF,BF,BF,BF,BF,BF,BF,BF,BF,.n (m),BF,.x (aj y),BF,BF,BF,BF,BF,BF,BF,.n (m),BF,BF,.x (aO j),BF,BF,BF,BF,BF,BF,BF,BF,.call VT [[],[],[]],BF,BF] ?_))))))) (noF SI)
       conv=>whnf
       refine⟨Zaz,?_⟩
       refine W.cn<|J (noT rfl) fun _=>W.skip<|g 58 65 [.i (Boss.given X+1)]<|J ⟨I,I,I,wO,I,I,UA,I⟩<|g 65 73 [.i (Boss.epoch X - 1),.i ((Boss.epoch X - 1) * 1000000),.i ((Boss.epoch X - 1) * 1000000+ (Boss.given X+1))]<|J ⟨I,I,I,wO,wO,I,I,I,wO,I,I⟩<|g 74 87 [.i ((sx:Int) +1),.i (Boss.now X+12),.n (m),.x (aO j)]<|J ⟨I,I,I,I,I,I,wO,I,I,I,wO,I,Zdj,⟨UC,xA⟩,I⟩<|g 87 93 [.n (sx),.x (aG x)]<|J ⟨I,I,I,I,Zdj,I,Zem,I⟩<|g 93 101 [.i ((sx:Int) +1)]<|J ⟨I,wO,I,I,I,I,I,I,I,UH,I⟩<|W.sq<|g 7 9 []<|J UA<|W.blk<|W.lp (fun s (k:Nat)=>⟨[(0,s.s 0),(1,s.s 1),(2,s.s 2),(3,s.s 3),(4,s.s 4),(5,s.s 5),(6,s.s 6),(9,s.s 9),(10,.i k),(73,s.s 73)],[(138,[s.c 138 0,s.c 138 1,s.c 138 2,s.c 138 3,s.c 138 4,s.c 138 5,s.c 138 6,s.c 138 7,s.c 138 8,s.c 138 9,s.c 138 10,s.c 138 11]),(2,[s.c 2 0,s.c 2 1,s.c 2 2,s.c 2 3,s.c 2 4,s.c 2 5,s.c 2 6,s.c 2 7,s.c 2 8,s.c 2 9,s.c 2 10,s.c 2 11]),(3,[s.c 3 0]),(4,[s.c 4 0,s.c 4 1,s.c 4 2,s.c 4 3,s.c 4 4,s.c 4 5,s.c 4 6,s.c 4 7,s.c 4 8,s.c 4 9,s.c 4 10,s.c 4 11,s.c 4 12]),(5,[s.c 5 0,s.c 5 1,s.c 5 2,s.c 5 3,s.c 5 4,s.c 5 5,s.c 5 6,s.c 5 7,s.c 5 8,s.c 5 9,s.c 5 10,s.c 5 11,s.c 5 12]),(9,[.t (.i 1),.t (.i 0),.t (.i ((sx:Int) +1)),.t (.i X.epoch),.t (.i ((X.epoch - 1) * 1000000+ (X.given+1))),.t (.i m),.t (.s emp),.own [false] ((dP X.results (t.deps.take k)).map aj)])],[]⟩) (fun(k:Nat)=>k≤t.deps.length) (fun(k:Nat)=>t.deps.length - k) (0) [some 138,some 2,some 3,some 4,some 5,some 9] [] ⟨rfl,⟨Zae,Zai,rfl,rfl,rfl,rfl,rfl,rfl,rfl,rfl,I⟩,⟨Zal,⟨Zaa,⟨Zad,⟨Zdk,⟨Zdk,⟨Zab,I⟩⟩⟩⟩⟩⟩,I⟩ OM ?_
       intro k hk
       by_cases hk2:k < t.deps.length
       ·obtain⟨d0,hd0⟩:=af hk2
        have hdr:=a4 d0 (List.mem_of_getElem? hd0)
        obtain⟨z,hz⟩:=af (xs:=X.results) (n:=d0.toNat) OM
        have ez:(dP X.results (t.deps.take k)).map aj++ [aj z] = (dP X.results (t.deps.take (k+1))).map aj:=by rw[Aj hd0 hz,List.map_append];rfl
        have hpk:=lN X.results (t.deps.take k)
        have htk:(t.deps.take k).length≤k:=by rw[List.length_take];omega
        conv=>whnf
        refine W.sq<|g 101 109 [.x (ay t)]<|J ⟨I,I,I,I,Zdl,I,I,I,I,I⟩<|W.cn<|J (fun _=>(W.skip (W.sq (W.blk (rgd [[],[],[],[],[],[],[],[],[.x (ay t)],[],[],[],[.x (dR d0)],[],[.n (Int.toNat d0)],[.x (aj z)],[],[],[],[]] ?_))))) (noF SI)
        conv=>whnf
        refine⟨⟨I,I,I,I,I,I,I,I,Zdl,I,I,I,Zdl,I,Zdr,xA,US,Zdm,I,UA,I⟩,by kernel_rfl,?_⟩
        refine rg [.i ((k:Int) +1)]<|J Zdi ?_
        refine⟨k+1,[some 138,some 2,some 3,some 4,some 5,some 9],[],⟨rfl,⟨Zae,Zai,rfl,rfl,rfl,rfl,rfl,rfl,rfl,rfl,I⟩,⟨Zal,⟨Zaa,⟨Zad,⟨Zdk,⟨Zdk,⟨⟨rfl,⟨rfl,⟨rfl,⟨rfl,⟨rfl,⟨rfl,⟨rfl,⟨rfl,⟨(congrArg (V.own _) (ez)),I⟩⟩⟩⟩⟩⟩⟩⟩⟩,I⟩⟩⟩⟩⟩⟩,I⟩,?_,?_⟩
        rotate_left
        (dsimp only;omega)
        dsimp only
        omega
       ·have ek:t.deps.take k = t.deps:=aF OM
        rw[←ek]at eo
        conv=>whnf
        refine W.sq<|g 101 109 [.x (ay t)]<|J ⟨I,I,I,I,Zdl,I,I,I,I,I⟩<|W.cn<|J (noT SI) fun _=>W.exit<|rg []<|J ⟨I,I,I,⟨UH,I⟩,Zdm,I,UA,I⟩<|rg [.i ((m:Int) +1)]<|J Zdi ?_
        refine⟨m+1,[some 138,some 2,some 3,some 4,some 5],[],⟨rfl,⟨Zae,Zai,rfl,rfl,rfl,rfl,rfl,I⟩,⟨Zal,⟨Zaa,⟨Zad,⟨Zdk,⟨⟨rfl,⟨(congrArg (fun z=>V.t (T.v (Value.int _ z))) (e1)),⟨(congrArg (fun z=>V.t (T.v (Value.bool z))) (e2)),⟨(congrArg (fun z=>V.t (T.v (Value.int _ z))) (e3)),⟨(congrArg (fun z=>V.t (T.v (Value.int _ z))) (e4)),⟨(congrArg (fun z=>V.t (T.v (Value.int _ z))) (e5)),⟨(congrArg (fun z=>V.t (T.v (Value.int _ z))) (eg)),⟨(congrArg (V.own _) (by rw[e6])),⟨(congrArg (V.own _) (by rw[e6])),⟨(congrArg (V.own _) (by rw[e7])),⟨(congrArg (V.own _) (ej)),⟨(congrArg (V.own _) (es)),⟨(congrArg (V.own _) (by rw[e8])),⟨(congrArg (V.own _) (eo)),I⟩⟩⟩⟩⟩⟩⟩⟩⟩⟩⟩⟩⟩⟩,I⟩⟩⟩⟩⟩,I⟩,?_,?_⟩
        rotate_left
        (dsimp only;omega)
        dsimp only
        omega
      ·have e:=iV (b:=d) (ts:=p.tasks) (fun q=>hG (by rw[x4];exact q.given))
       conv=>whnf
       refine W.sq<|g 13 17 []<|J UE<|W.cn<|J (fun _=>(W.skip (W.sq (W.blk (g 20 23 [.call (V.i (sx:Int)) [[]]]<|J ⟨I,I,Za3,I,I⟩ (W.sq (g 17 58 [BF,BF,BF,BF,BF,BT,BT,BT,BT,BT,BT,BT,BT,BT,BT,BT,BT,BT,BT,BT,BT,BT,BT,BT,BT,BT,BT,BT,BT,BT] ?_))))))) (noF SI)
       conv=>whnf
       refine⟨Za5,?_⟩
       refine W.cn<|J (fun _=>(W.exit (rg [.i ((m:Int) +1)]<|J Zdi ?_))) (noF rfl)
       refine⟨m+1,[some 138,some 2,some 3,some 4,some 5],[],⟨rfl,⟨Zae,Zai,rfl,rfl,rfl,rfl,rfl,I⟩,⟨Zal,⟨Zaa,⟨Zad,⟨Zdk,⟨⟨rfl,⟨(congrArg (fun z=>V.t (T.v (Value.int _ z))) (by rw[e,←hX])),⟨(congrArg (fun z=>V.t (T.v (Value.bool z))) (by rw[e,←hX])),⟨(congrArg (fun z=>V.t (T.v (Value.int _ z))) (by rw[e,←hX])),⟨(congrArg (fun z=>V.t (T.v (Value.int _ z))) (by rw[e,←hX])),⟨(congrArg (fun z=>V.t (T.v (Value.int _ z))) (by rw[e,←hX])),⟨(congrArg (fun z=>V.t (T.v (Value.int _ z))) (by rw[e,←hX])),⟨(congrArg (V.own _) (by rw[e,←hX])),⟨(congrArg (V.own _) (by rw[e,←hX])),⟨(congrArg (V.own _) (by rw[e,←hX])),⟨(congrArg (V.own _) (by rw[e,←hX])),⟨(congrArg (V.own _) (by rw[e,←hX])),⟨(congrArg (V.own _) (by rw[e,←hX])),⟨(congrArg (V.own _) SI),I⟩⟩⟩⟩⟩⟩⟩⟩⟩⟩⟩⟩⟩⟩,I⟩⟩⟩⟩⟩,I⟩,?_,?_⟩
       rotate_left
       (dsimp only;omega)
       dsimp only
       omega
     ·rw[decide_eq_false hF]at crd
      have e:=iV (b:=d) (ts:=p.tasks) (fun q=>hF (q3 q))
      conv=>whnf
      refine W.sq<|g 13 17 []<|J UE<|W.cn<|J (fun _=>(W.skip (W.sq (W.blk (g 20 23 [.call (V.i (sx:Int)) [[]]]<|J ⟨I,I,Za3,I,I⟩ (W.sq ?_)))))) (noF SI)
      by_cases h1:(1000000:Int)≤Boss.given X
      refine g 17 58 [BF,BF,BF,BF,BF,BT,BT,BT,BT,BT,BT,BT,BT,BT,BT,BT,BT,BT,BT,BT,BT,BT,BT,BT,BT,BT,BT,BT,BT,BT] ?_
      conv=>whnf
      refine J Za5<|W.cn<|J (fun _=>(W.exit (rg [.i ((m:Int) +1)]<|J Zdi ?_))) (noF rfl)
      rotate_left
      refine g 17 58 [BF,BF,BF,BF,BF,BF,BF,BF,BF,BF,.n (m),BF,.x (aj y),BF,BF,BF,BF,BF,BF,BF,.n (m),BF,BF,.x (aO j),BF,BF,BF,BF,BF,BF,BF,BF,.call VF [[],[],[]],BF,BF] ?_
      conv=>whnf
      refine J Zaz<|W.cn<|J (fun _=>(W.exit (rg [.i ((m:Int) +1)]<|J Zdi ?_))) (noF rfl)
      rotate_left
      all_goals refine⟨m+1,[some 138,some 2,some 3,some 4,some 5],[],⟨rfl,⟨⟨_,rfl,_,_,rfl,rfl,_,_,rfl,rfl,_,_,rfl,rfl,_,_,rfl,rfl,_,_,rfl,rfl,_,_,rfl,rfl,_,_,rfl,rfl,_,_,rfl,rfl,_,_,rfl,rfl,_,_,rfl,rfl,_,_,rfl,rfl,_,_,rfl,rfl,rfl⟩,⟨_,rfl,_,_,rfl,rfl,rfl⟩,rfl,rfl,rfl,rfl,rfl,I⟩,⟨⟨rfl,⟨rfl,⟨rfl,⟨rfl,⟨rfl,⟨rfl,⟨rfl,⟨I,⟨I,⟨I,⟨I,⟨I,UA⟩⟩⟩⟩⟩⟩⟩⟩⟩⟩⟩⟩,⟨⟨rfl,⟨rfl,⟨rfl,⟨rfl,⟨rfl,⟨rfl,⟨rfl,⟨rfl,⟨rfl,⟨rfl,⟨rfl,⟨rfl,⟨rfl,I⟩⟩⟩⟩⟩⟩⟩⟩⟩⟩⟩⟩⟩,⟨⟨rfl,⟨rfl,I⟩⟩,⟨⟨rfl,⟨rfl,⟨rfl,⟨rfl,⟨rfl,⟨rfl,⟨rfl,⟨rfl,⟨rfl,⟨rfl,⟨rfl,⟨rfl,⟨rfl,⟨rfl,I⟩⟩⟩⟩⟩⟩⟩⟩⟩⟩⟩⟩⟩⟩,⟨⟨rfl,⟨(congrArg (fun z=>V.t (T.v (Value.int _ z))) (by rw[e,←hX])),⟨(congrArg (fun z=>V.t (T.v (Value.bool z))) (by rw[e,←hX])),⟨(congrArg (fun z=>V.t (T.v (Value.int _ z))) (by rw[e,←hX])),⟨(congrArg (fun z=>V.t (T.v (Value.int _ z))) (by rw[e,←hX])),⟨(congrArg (fun z=>V.t (T.v (Value.int _ z))) (by rw[e,←hX])),⟨(congrArg (fun z=>V.t (T.v (Value.int _ z))) (by rw[e,←hX])),⟨(congrArg (V.own _) (by rw[e,←hX])),⟨(congrArg (V.own _) (by rw[e,←hX])),⟨(congrArg (V.own _) (by rw[e,←hX])),⟨(congrArg (V.own _) (by rw[e,←hX])),⟨(congrArg (V.own _) (by rw[e,←hX])),⟨(congrArg (V.own _) (by rw[e,←hX])),⟨(congrArg (V.own _) SI),I⟩⟩⟩⟩⟩⟩⟩⟩⟩⟩⟩⟩⟩⟩,I⟩⟩⟩⟩⟩,I⟩,?_,?_⟩
                rotate_left
                (dsimp only;omega)
                dsimp only
                omega
    ·have e:=iV (b:=d) (ts:=p.tasks) (fun q=>hB (q2 q))
     conv=>whnf
     refine W.sq<|g 13 17 []<|J UE<|W.cn<|J (fun _=>(W.skip (W.sq (W.blk (g 20 23 [.call (V.i (sx:Int)) [[]]]<|J ⟨I,I,Za3,I,I⟩ (W.sq ?_)))))) (noF SI)
     by_cases h1:(1000000:Int)≤Boss.given X
     refine g 17 58 [BF,BF,BF,BF,BF,BT,BT,BT,BT,BT,BT,BT,BT,BT,BT,BT,BT,BT,BT,BT,BT,BT,BT,BT,BT,BT,BT,BT,BT,BT] ?_
     conv=>whnf
     refine J Za5<|W.cn<|J (fun _=>(W.exit (rg [.i ((m:Int) +1)]<|J Zdi ?_))) (noF rfl)
     rotate_left
     refine g 17 58 [BF,BF,BF,BF,BF,BF,BF,BF,BF,BF,.n (m),BF,.x (aj y),BF,BF,BF,BF,BF,BF,BF,.n (m),BF,BF,.x (aO j),BF,BF,BT,BT,BT,BT,BT,BT,BT,BT] ?_
     conv=>whnf
     refine J ⟨I,I,I,Zdh,Zdh,Zdh,Zdh,rfl,I,⟨dO,I⟩,⟨dO,I⟩,⟨dO,I⟩,⟨dO,I⟩,⟨dO,rfl,LN⟩,⟨dO,xA⟩,⟨dO,I⟩,dO,I,⟨nO,I⟩,⟨nO,I⟩,⟨nO,I⟩,⟨nO,I⟩,⟨nO,rfl,LN⟩,⟨nO,I⟩,⟨nO,xA⟩,⟨nO,I⟩,nO,I,ag OM,ag OM,ag OM,ag OM,ag OM,ag OM,ag OM,ag OM,I⟩<|W.cn<|J (fun _=>(W.exit (rg [.i ((m:Int) +1)]<|J Zdi ?_))) (noF rfl)
     rotate_left
     all_goals refine⟨m+1,[some 138,some 2,some 3,some 4,some 5],[],⟨rfl,⟨⟨_,rfl,_,_,rfl,rfl,_,_,rfl,rfl,_,_,rfl,rfl,_,_,rfl,rfl,_,_,rfl,rfl,_,_,rfl,rfl,_,_,rfl,rfl,_,_,rfl,rfl,_,_,rfl,rfl,_,_,rfl,rfl,_,_,rfl,rfl,_,_,rfl,rfl,rfl⟩,⟨_,rfl,_,_,rfl,rfl,rfl⟩,rfl,rfl,rfl,rfl,rfl,I⟩,⟨⟨rfl,⟨rfl,⟨rfl,⟨rfl,⟨rfl,⟨rfl,⟨rfl,⟨I,⟨I,⟨I,⟨I,⟨I,UA⟩⟩⟩⟩⟩⟩⟩⟩⟩⟩⟩⟩,⟨⟨rfl,⟨rfl,⟨rfl,⟨rfl,⟨rfl,⟨rfl,⟨rfl,⟨rfl,⟨rfl,⟨rfl,⟨rfl,⟨rfl,⟨rfl,I⟩⟩⟩⟩⟩⟩⟩⟩⟩⟩⟩⟩⟩,⟨⟨rfl,⟨rfl,I⟩⟩,⟨⟨rfl,⟨rfl,⟨rfl,⟨rfl,⟨rfl,⟨rfl,⟨rfl,⟨rfl,⟨rfl,⟨rfl,⟨rfl,⟨rfl,⟨rfl,⟨rfl,I⟩⟩⟩⟩⟩⟩⟩⟩⟩⟩⟩⟩⟩⟩,⟨⟨rfl,⟨(congrArg (fun z=>V.t (T.v (Value.int _ z))) (by rw[e,←hX])),⟨(congrArg (fun z=>V.t (T.v (Value.bool z))) (by rw[e,←hX])),⟨(congrArg (fun z=>V.t (T.v (Value.int _ z))) (by rw[e,←hX])),⟨(congrArg (fun z=>V.t (T.v (Value.int _ z))) (by rw[e,←hX])),⟨(congrArg (fun z=>V.t (T.v (Value.int _ z))) (by rw[e,←hX])),⟨(congrArg (fun z=>V.t (T.v (Value.int _ z))) (by rw[e,←hX])),⟨(congrArg (V.own _) (by rw[e,←hX])),⟨(congrArg (V.own _) (by rw[e,←hX])),⟨(congrArg (V.own _) (by rw[e,←hX])),⟨(congrArg (V.own _) (by rw[e,←hX])),⟨(congrArg (V.own _) (by rw[e,←hX])),⟨(congrArg (V.own _) (by rw[e,←hX])),⟨(congrArg (V.own _) SI),I⟩⟩⟩⟩⟩⟩⟩⟩⟩⟩⟩⟩⟩⟩,I⟩⟩⟩⟩⟩,I⟩,?_,?_⟩
               rotate_left
               (dsimp only;omega)
               dsimp only
               omega
   ·have e:=iV (b:=d) (ts:=p.tasks) (fun q=>hA (q1 q))
    conv=>whnf
    refine W.sq<|g 13 17 []<|J UE<|W.cn<|J (fun _=>(W.skip (W.sq (W.blk (g 20 23 [.call (V.i (sx:Int)) [[]]]<|J ⟨I,I,Za3,I,I⟩ (W.sq ?_)))))) (noF SI)
    by_cases h1:(1000000:Int)≤Boss.given X
    refine g 17 58 [BF,BF,BF,BF,BF,BT,BT,BT,BT,BT,BT,BT,BT,BT,BT,BT,BT,BT,BT,BT,BT,BT,BT,BT,BT,BT,BT,BT,BT,BT] ?_
    conv=>whnf
    refine J Za5<|W.cn<|J (fun _=>(W.exit (rg [.i ((m:Int) +1)]<|J Zdi ?_))) (noF rfl)
    rotate_left
    refine g 17 58 [BF,BF,BF,BF,BF,BF,BF,BF,BF,BF,.n (m),BF,.x (aj y),BF,BF,BT,BT,BT,BT,BT,BT,BT,BT,BT,BT,BT,BT,BT,BT,BT,BT,BT] ?_
    conv=>whnf
    refine J ⟨I,I,I,Zdh,Zdh,Zdh,Zdh,rfl,I,⟨dO,I⟩,⟨dO,I⟩,⟨dO,I⟩,⟨dO,I⟩,⟨dO,rfl,LN⟩,⟨dO,xA⟩,⟨dO,I⟩,dO,I,ag OM,ag OM,ag OM,ag OM,ag OM,ag OM,ag OM,ag OM,ag OM,I,rfl,rfl,rfl,rfl,rfl,rfl,rfl,rfl,I⟩<|W.cn<|J (fun _=>(W.exit (rg [.i ((m:Int) +1)]<|J Zdi ?_))) (noF rfl)
    rotate_left
    all_goals refine⟨m+1,[some 138,some 2,some 3,some 4,some 5],[],⟨rfl,⟨⟨_,rfl,_,_,rfl,rfl,_,_,rfl,rfl,_,_,rfl,rfl,_,_,rfl,rfl,_,_,rfl,rfl,_,_,rfl,rfl,_,_,rfl,rfl,_,_,rfl,rfl,_,_,rfl,rfl,_,_,rfl,rfl,_,_,rfl,rfl,_,_,rfl,rfl,rfl⟩,⟨_,rfl,_,_,rfl,rfl,rfl⟩,rfl,rfl,rfl,rfl,rfl,I⟩,⟨⟨rfl,⟨rfl,⟨rfl,⟨rfl,⟨rfl,⟨rfl,⟨rfl,⟨I,⟨I,⟨I,⟨I,⟨I,UA⟩⟩⟩⟩⟩⟩⟩⟩⟩⟩⟩⟩,⟨⟨rfl,⟨rfl,⟨rfl,⟨rfl,⟨rfl,⟨rfl,⟨rfl,⟨rfl,⟨rfl,⟨rfl,⟨rfl,⟨rfl,⟨rfl,I⟩⟩⟩⟩⟩⟩⟩⟩⟩⟩⟩⟩⟩,⟨⟨rfl,⟨rfl,I⟩⟩,⟨⟨rfl,⟨rfl,⟨rfl,⟨rfl,⟨rfl,⟨rfl,⟨rfl,⟨rfl,⟨rfl,⟨rfl,⟨rfl,⟨rfl,⟨rfl,⟨rfl,I⟩⟩⟩⟩⟩⟩⟩⟩⟩⟩⟩⟩⟩⟩,⟨⟨rfl,⟨(congrArg (fun z=>V.t (T.v (Value.int _ z))) (by rw[e,←hX])),⟨(congrArg (fun z=>V.t (T.v (Value.bool z))) (by rw[e,←hX])),⟨(congrArg (fun z=>V.t (T.v (Value.int _ z))) (by rw[e,←hX])),⟨(congrArg (fun z=>V.t (T.v (Value.int _ z))) (by rw[e,←hX])),⟨(congrArg (fun z=>V.t (T.v (Value.int _ z))) (by rw[e,←hX])),⟨(congrArg (fun z=>V.t (T.v (Value.int _ z))) (by rw[e,←hX])),⟨(congrArg (V.own _) (by rw[e,←hX])),⟨(congrArg (V.own _) (by rw[e,←hX])),⟨(congrArg (V.own _) (by rw[e,←hX])),⟨(congrArg (V.own _) (by rw[e,←hX])),⟨(congrArg (V.own _) (by rw[e,←hX])),⟨(congrArg (V.own _) (by rw[e,←hX])),⟨(congrArg (V.own _) SI),I⟩⟩⟩⟩⟩⟩⟩⟩⟩⟩⟩⟩⟩⟩,I⟩⟩⟩⟩⟩,I⟩,?_,?_⟩
              rotate_left
              (dsimp only;omega)
              dsimp only
              omega
 obtain rfl:m = p.tasks.length:=by omega
 subst hX
 conv=>whnf
 refine W.sq<|g 13 17 []<|J UE<|W.cn<|J (noT SI) fun _=>W.exit<|g 0 4 []<|J ⟨I,UM,I⟩<|RT ?_
 rfl
end Go.K
end
section
open Go Go.Tm Go.Proofs
namespace Go.K
theorem Vo{b:Boss}{ts:List Task}{n:Nat}{j:Job}(h:ij b ts b.jobs.length)(hj:b.jobs[n]? = some j)(hz:j.lease = 0)(now:Int):gj (qQ now) b.jobs n = gj (qQ now) b.jobs (n+1):=by
 refine oH hj ?_
 obtain⟨h1,h2⟩:=(h n j (List.getElem?_eq_some_iff.1 hj).1 hj).1 hz
 obtain⟨l,w,t⟩:=j
 simp only at hz h1 h2
 subst hz h1 h2
 unfold qQ;split <;> rfl
theorem xG(b:Boss)(p:Plan)(hp:dv p)(h:BossLim b):F wx [.val (f0 b),.val (cR p)] (MO (oQ b p)) [[],[]]:=by
 have cv:=og b p hp h
 by_cases hv:BossOk b p
 ·rw[decide_eq_true hv]at cv
  rw[oi hv]
  have ct:=uC b h
  have hnow:=hv.now
  by_cases h0:b.now = 1000000
  ·rw[sn h0]
   refine fY ?_
   conv=>whnf
   refine g 1 2 []<|J Zcr<|W.sq<|g 10 13 [.call VT [[],[]]]<|J Zas<|W.cn<|J (noT rfl) fun _=>W.skip<|g 13 17 [.call (aN b) [[]]]<|J Zec<|W.sq<|g 17 19 []<|J UC<|W.cn<|J (fun _=>(g 19 22 []<|J ⟨I,I,UM,I⟩ (RT ?_))) (noF tO)
   rfl
  ·by_cases hup:b.up = false
   ·rw[zP h0 hup]
    refine fY ?_
    conv=>whnf
    refine g 1 2 []<|J Zcr<|W.sq<|g 10 13 [.call VT [[],[]]]<|J Zas<|W.cn<|J (noT rfl) fun _=>W.skip<|g 13 17 [.call (aN b) [[]]]<|J Zec<|W.sq<|g 17 19 []<|J UC<|W.cn<|J (noT dO) fun _=>W.skip<|g 19 26 [.i (b.now+1)]<|J Zbi<|W.sq ?_
    refine g 26 28 []<|J UC<|W.cn<|J (fun _=>(g 28 31 []<|J ⟨I,I,UM,I⟩ (RT ?_))) (noF (nbT AS))
    rfl
   ·have hup2:b.up = true:=by cases hb:b.up;exact absurd hb hup;rfl
    obtain⟨u1,u2,u3,u4,u5,u6,⟨u7,u8⟩,⟨u9,u10⟩,u11,u12,u13,u14⟩:=hv.up hup2
    have hck:=hv.plan
    have hpl:=(bU hck).1
    have hwk:=hv.workers
    obtain⟨he1,he2⟩:=fP hv.code
    change 0≤(cA b p).epoch at he1
    change (cA b p).epoch≤300 at he2
    have l1:=h.safe
    have l2:=h.loose
    have hin:HandIn (dD b) p.tasks:=⟨hck,u3,by show(b.jobs.map _).length = _;rw[List.length_map];exact u4,by show b.seats.length≤8;omega,⟨u2,by show b.epoch≤300;omega⟩,⟨u9,u10⟩,⟨by show 0≤b.now+1;omega,by show b.now+1≤1000000;omega⟩⟩
    have ch:F kG [.val (aN ⟨b.workers,b.up,b.now+1,b.since,b.epoch,b.given,b.log,b.results,gj (qQ (b.now+1)) b.jobs b.jobs.length,b.seats,b.owed⟩),.val (cR p)] (MO ⟨atB (dD b) (endH b p.tasks),(endH b p.tasks).out⟩) [[],[]]:=by
     rw[iT _ _ (Nat.le_refl _)];exact DB (dD b) p hin
    have hdl:∀ t∈p.tasks,t.deps.length≤8:=fun t ht=>by
     obtain⟨k,hk⟩:=List.getElem?_of_mem ht
     exact(b9 hck hk).2.2.1
    have hho:=lv (b:=dD b) (ts:=p.tasks) hdl u9 u10 p.tasks.length
    have k3:(endH b p.tasks).out.length≤40:=by have:=hho.out;show(aH _ _ _).out.length≤40;omega
    generalize hX:atB (dD b) (endH b p.tasks) = X at ch
    have ch2:F kG [.val (aN ⟨b.workers,b.up,b.now+1,b.since,b.epoch,b.given,b.log,b.results,gj (qQ (b.now+1)) b.jobs b.jobs.length,b.seats,b.owed⟩),.val (cR p)] (.agg [.t (.i X.workers),.t (.b X.up),.t (.i X.now),.t (.i X.since),.t (.i X.epoch),.t (.i X.given),.own [false] (X.log.safe.map aj),.own [false] (X.log.loose.map aj),.own [false] (X.results.map aj),.own eG (X.jobs.map aO),.own cx (X.seats.map aG),.own cy (X.owed.map aL),.own cO ((endH b p.tasks).out.map aI)]) [[],[]]:=ch
    clear ch
    have x1:X.since = b.since:=by rw[←hX];rfl
    have x2:X.log = b.log:=by rw[←hX];rfl
    have x3:X.owed = b.owed:=by rw[←hX];rfl
    have cl:=mr X.log (by rw[x2];exact l1) (by rw[x2];exact l2)
    refine fY ?_
    conv=>whnf
    refine g 1 2 []<|J Zcr<|W.sq<|g 10 13 [.call VT [[],[]]]<|J Zas<|W.cn<|J (noT rfl) fun _=>W.skip<|g 13 17 [.call (aN b) [[]]]<|J Zec<|W.sq<|g 17 19 []<|J UC<|W.cn<|J (noT dO) fun _=>W.skip<|g 19 26 [.i (b.now+1)]<|J Zbi<|W.sq ?_
    refine g 26 28 []<|J UC<|W.cn<|J (noT (nbF AS)) fun _=>W.skip<|W.sq<|g 28 29 []<|J UA<|W.blk<|W.lp (fun s (n:Nat)=>⟨[(0,s.s 0),(2,s.s 2),(3,s.s 3),(4,s.s 4),(5,s.s 5),(6,.i n)],[(2,[s.c 2 0,s.c 2 1,s.c 2 2,s.c 2 3,s.c 2 4,s.c 2 5,s.c 2 6,s.c 2 7,s.c 2 8,s.c 2 9,s.c 2 10,s.c 2 11]),(3,[s.c 3 0]),(4,[s.c 4 0,s.c 4 1,s.c 4 2,s.c 4 3,s.c 4 4,s.c 4 5,s.c 4 6,s.c 4 7,s.c 4 8,s.c 4 9,s.c 4 10,s.c 4 11,s.c 4 12]),(5,[.t (.i b.workers),.t (.b b.up),.t (.i (b.now+1)),.t (.i b.since),.t (.i b.epoch),.t (.i b.given),.own [false] (b.log.safe.map aj),.own [false] (b.log.loose.map aj),.own [false] (b.results.map aj),.own eG ((gj (qQ (b.now+1)) b.jobs n).map aO),.own cx (b.seats.map aG),.own cy (b.owed.map aL)])],[]⟩) (fun(n:Nat)=>n≤b.jobs.length) (fun(n:Nat)=>b.jobs.length - n) (0) [some 2,some 3,some 4,some 5] [] ⟨rfl,Zej,⟨Zaa,⟨Zad,⟨Zdk,⟨Zaa,I⟩⟩⟩⟩,I⟩ OM ?_
    intro n hn
    have hx:=iR (qQ (b.now+1)) b.jobs n
    by_cases hj:n < b.jobs.length
    ·obtain⟨j,hj1⟩:=af hj
     by_cases hz:j.lease = 0
     ·have e1:=Vo u12 hj1 hz (b.now+1)
      conv=>whnf
      refine W.sq<|g 31 35 []<|J UE<|W.cn<|J (fun _=>(W.skip (W.sq (W.blk (gd 35 55 [[],[],[],[.n (n)],[],[.x (aO j)],[],[],[BF],[BF],[BF],[BF],[BF],[BF],[BF],[BF],[BF],[BF]] ?_))))) (noF (by simp_all))
      conv=>whnf
      refine⟨⟨I,I,I,Zdj,I,br AS,I,I,nO,nO,nO,nO,nO,nO,nO,nO,nO,nO,I⟩,by kernel_rfl,?_⟩
      refine W.cn<|J (noT rfl) fun _=>W.skip<|rg [.i ((n:Int) +1)]<|J Zdi ?_
      refine⟨n+1,[some 2,some 3,some 4,some 5],[],⟨rfl,Zej,⟨Zaa,⟨Zad,⟨Zdk,⟨⟨rfl,⟨rfl,⟨rfl,⟨rfl,⟨rfl,⟨rfl,⟨rfl,⟨rfl,⟨rfl,⟨rfl,⟨(congrArg (V.own _) (by rw[←e1])),Zad⟩⟩⟩⟩⟩⟩⟩⟩⟩⟩⟩,I⟩⟩⟩⟩,I⟩,?_,?_⟩
      rotate_left
      (dsimp only;omega)
      dsimp only
      omega
     ·by_cases hd:j.til≤b.now+1
      ·have e1:=NP hj1 hd
       conv=>whnf
       refine W.sq<|g 31 35 []<|J UE<|W.cn<|J (fun _=>(W.skip (W.sq (W.blk (gd 35 55 [[],[],[],[.n (n)],[],[.x (aO j)],[],[],[BT],[BT],[BT],[BT,.n (n)],[BT],[BT,.x (aO j)],[BT],[BT],[BT],[BT]] ?_))))) (noF (by simp_all))
       conv=>whnf
       refine⟨⟨I,I,I,Zdj,I,br AS,I,I,Zah,Zah,Zah,Zdf,Zah,⟨ag OM,br AS⟩,Zah,Zah,Zah,ag OM,I⟩,by kernel_rfl,?_⟩
       refine W.cn<|J (fun _=>(rg [.n (n),.x (aO j)]<|J ⟨I,I,I,I,Zdj,⟨UC,br AS⟩,I⟩ (rg [.i ((n:Int) +1)]<|J Zdi ?_))) (noF tO)
       refine⟨n+1,[some 2,some 3,some 4,some 5],[],⟨rfl,Zej,⟨Zaa,⟨Zad,⟨Zdk,⟨⟨rfl,⟨rfl,⟨rfl,⟨rfl,⟨rfl,⟨rfl,⟨rfl,⟨rfl,⟨rfl,⟨rfl,⟨(congrArg (V.own _) (e1)),Zad⟩⟩⟩⟩⟩⟩⟩⟩⟩⟩⟩,I⟩⟩⟩⟩,I⟩,?_,?_⟩
       rotate_left
       (dsimp only;omega)
       dsimp only
       omega
      ·have e1:=Tk hj1 hd
       conv=>whnf
       refine W.sq<|g 31 35 []<|J UE<|W.cn<|J (fun _=>(W.skip (W.sq (W.blk (gd 35 55 [[],[],[],[.n (n)],[],[.x (aO j)],[],[],[BT],[BT],[BT],[BT,.n (n)],[BT],[BT,.x (aO j)],[BT],[BT],[BT],[BT]] ?_))))) (noF (by simp_all))
       conv=>whnf
       refine⟨⟨I,I,I,Zdj,I,br AS,I,I,Zah,Zah,Zah,Zdf,Zah,⟨ag OM,br AS⟩,Zah,Zah,Zah,ag OM,I⟩,by kernel_rfl,?_⟩
       refine W.cn<|J (noT dO) fun _=>W.skip<|rg [.i ((n:Int) +1)]<|J Zdi ?_
       refine⟨n+1,[some 2,some 3,some 4,some 5],[],⟨rfl,Zej,⟨Zaa,⟨Zad,⟨Zdk,⟨⟨rfl,⟨rfl,⟨rfl,⟨rfl,⟨rfl,⟨rfl,⟨rfl,⟨rfl,⟨rfl,⟨rfl,⟨(congrArg (V.own _) (by rw[←e1])),Zad⟩⟩⟩⟩⟩⟩⟩⟩⟩⟩⟩,I⟩⟩⟩⟩,I⟩,?_,?_⟩
       rotate_left
       (dsimp only;omega)
       dsimp only
       omega
    obtain rfl:n = b.jobs.length:=by omega
    have x4:X.epoch = b.epoch:=by rw[←hX];rfl
    have x5:X.owed.length≤2000:=by rw[x3];exact u11
    by_cases hs:b.since+1 = 2
    ·rw[mD h0 hup hs]
     conv=>whnf
     refine W.sq<|g 31 35 []<|J UE<|W.cn<|J (noT (by simp_all)) fun _=>W.exit<|g 35 64 [.call (V.agg [V.t (T.i (Boss.workers X)),V.t (T.b (Boss.up X)),V.t (T.i (Boss.now X)),V.t (T.i (Boss.since X)),V.t (T.i (Boss.epoch X)),V.t (T.i (Boss.given X)),V.own [false] (List.map aj (Log.safe (Boss.log X))),V.own [false] (List.map aj (Log.loose (Boss.log X))),V.own [false] (List.map aj (Boss.results X)),V.own eG (List.map aO (Boss.jobs X)),V.own cx (List.map aG (Boss.seats X)),V.own cy (List.map aL (Boss.owed X)),V.own cO (List.map aI (Hand.out (endH b p.tasks)))]) [[],[]]]<|J ⟨I,I,⟨Zep,I,UV,UA,AS⟩,I,UM,I⟩<|g 64 70 [.i (Boss.since X+1)]<|J ⟨I,I,I,wO,I,I,UA,I⟩<|W.sq<|g 70 73 []<|J UD<|W.cn<|J (noT dO) fun _=>W.skip<|g 5 7 []<|J Zek<|g 75 84 [.call (V.own [false] (List.map aj (Log.safe (Boss.log X) ++Log.loose (Boss.log X)))) [[]]]<|J ⟨I,I,I,⟨UA,I,⟨UB,I⟩,UA,AS⟩,I,I,I,UB,I⟩ ?_
     refine W.sq<|g 0 0 []<|J UA<|W.blk<|W.lp (fun s (n:Nat)=>⟨[(0,s.s 0),(2,s.s 2),(3,s.s 3),(4,s.s 4),(7,s.s 7),(8,.i n),(73,s.s 73)],[(2,[s.c 2 0,s.c 2 1,s.c 2 2,s.c 2 3,s.c 2 4,s.c 2 5,s.c 2 6,s.c 2 7,s.c 2 8,s.c 2 9,s.c 2 10,s.c 2 11]),(3,[s.c 3 0]),(4,[s.c 4 0,s.c 4 1,s.c 4 2,s.c 4 3,s.c 4 4,s.c 4 5,s.c 4 6,s.c 4 7,s.c 4 8,s.c 4 9,s.c 4 10,s.c 4 11,s.c 4 12]),(7,[.t (.i X.workers),.t (.b X.up),.t (.i X.now),.t (.i 0),.t (.i X.epoch),.t (.i X.given),.own [false] ((X.log.safe++X.log.loose).map aj),.own [false] [],.own [false] (X.results.map aj),.own eG (X.jobs.map aO),.own cx (X.seats.map aG),.own cy (X.owed.map aL),.own cO (((endH b p.tasks).out++ (X.owed.take n).map (mZ X.epoch)).map aI)])],[]⟩) (fun(n:Nat)=>n≤X.owed.length) (fun(n:Nat)=>X.owed.length - n) (0) [some 2,some 3,some 4,some 7] [] ⟨rfl,⟨Zae,rfl,rfl,rfl,rfl,rfl,rfl,I⟩,⟨Zaa,⟨Zad,⟨Zdk,⟨⟨rfl,⟨rfl,⟨rfl,⟨rfl,⟨rfl,⟨rfl,⟨rfl,⟨rfl,⟨rfl,⟨rfl,⟨rfl,⟨rfl,⟨rfl,⟨(congrArg (V.own _) (by rw[List.take_zero,List.map_nil,List.append_nil])),I⟩⟩⟩⟩⟩⟩⟩⟩⟩⟩⟩⟩⟩⟩,I⟩⟩⟩⟩,I⟩ OM ?_
     intro n hn3
     by_cases hn2:n < X.owed.length
     ·obtain⟨o,ho⟩:=af hn2
      have eo:=vL (out:=(endH b p.tasks).out) (ep:=X.epoch) ho
      conv=>whnf
      refine W.sq<|g 84 89 []<|J UF<|W.cn<|J (fun _=>(W.skip (W.sq (W.blk (g 89 98 [.n (n),.x (aL o)]<|J ⟨I,I,I,I,Zdj,xA,I,UC,I⟩ (rg []<|J ⟨I,I,I,I,I,I,I,I,I,I,⟨UH,I⟩,Zdm,I,UA,I⟩ (rg [.i ((n:Int) +1)]<|J Zdi ?_))))))) (noF (by simp_all))
      refine⟨n+1,[some 2,some 3,some 4,some 7],[],⟨rfl,⟨Zae,rfl,rfl,rfl,rfl,rfl,rfl,I⟩,⟨Zaa,⟨Zad,⟨Zdk,⟨⟨rfl,⟨rfl,⟨rfl,⟨rfl,⟨rfl,⟨rfl,⟨rfl,⟨rfl,⟨rfl,⟨rfl,⟨rfl,⟨rfl,⟨rfl,⟨(congrArg (V.own _) (eo)),I⟩⟩⟩⟩⟩⟩⟩⟩⟩⟩⟩⟩⟩⟩,I⟩⟩⟩⟩,I⟩,?_,?_⟩
      rotate_left
      (dsimp only;omega)
      dsimp only
      omega
     ·have et:X.owed.take n = X.owed:=aF OM
      conv=>whnf
      refine W.sq<|g 84 89 []<|J UF<|W.cn<|J (noT (by simp_all)) fun _=>W.exit<|g 89 114 []<|J UW<|g 0 4 []<|J ⟨I,UM,I⟩<|RT ?_
      rw[et]
      subst hX
      rfl
    ·rw[ov h0 hup hs]
     conv=>whnf
     refine W.sq<|g 31 35 []<|J UE<|W.cn<|J (noT (by simp_all)) fun _=>W.exit<|g 35 64 [.call (V.agg [V.t (T.i (Boss.workers X)),V.t (T.b (Boss.up X)),V.t (T.i (Boss.now X)),V.t (T.i (Boss.since X)),V.t (T.i (Boss.epoch X)),V.t (T.i (Boss.given X)),V.own [false] (List.map aj (Log.safe (Boss.log X))),V.own [false] (List.map aj (Log.loose (Boss.log X))),V.own [false] (List.map aj (Boss.results X)),V.own eG (List.map aO (Boss.jobs X)),V.own cx (List.map aG (Boss.seats X)),V.own cy (List.map aL (Boss.owed X)),V.own cO (List.map aI (Hand.out (endH b p.tasks)))]) [[],[]]]<|J ⟨I,I,⟨Zep,I,UV,UA,AS⟩,I,UM,I⟩<|g 64 70 [.i (Boss.since X+1)]<|J ⟨I,I,I,wO,I,I,UA,I⟩<|W.sq<|g 70 73 []<|J UD<|W.cn<|J (fun _=>(g 5 7 []<|J ⟨I,UM,I⟩ (RT ?_))) (noF tO)
     subst hX
     rfl
 ·rw[decide_eq_false hv]at cv
  rw[Bx hv]
  refine fY ?_
  conv=>whnf
  refine g 1 2 []<|J Zcr<|W.sq<|g 10 13 [.call VF [[],[]]]<|J Zas<|W.cn<|J (fun _=>(g 13 15 []<|J ⟨I,UM,I⟩ (RT ?_))) (noF rfl)
  rfl
end Go.K
end
section
open Go Go.Tm Go.Proofs
namespace Go.K
structure LedSmall (x:Led):Prop where
 boss:BossSmall x.boss
 out:x.out.length≤2097152
 inp:∀ m∈x.out,m.inputs.length≤8
theorem Ib:LedSmall Hg:=⟨sy,Nat.zero_le _,fun m hm=>by cases hm⟩
theorem wh{b:Boss}(p:Plan)(h:BossLim b):LedSmall (oQ b p):=by
 unfold oQ;split
 ·rename_i hv
  have hs:=lK h
  unfold hM;split
  ·exact⟨hs,Nat.zero_le _,fun m hm=>by cases hm⟩
  ·split
   ·exact⟨⟨hs.1,hs.2,hs.3,hs.4,hs.5,hs.6⟩,Nat.zero_le _,fun m hm=>by cases hm⟩
   ·rename_i hup
    have hup2:b.up = true:=by cases hb:b.up;exact absurd hb hup;rfl
    obtain⟨u1,u2,u3,u4,u5,u6,⟨u7,u8⟩,⟨u9,u10⟩,u11,u12,u13,u14⟩:=hv.up hup2
    have hck:=hv.plan
    have hpl:=(bU hck).1
    have hdl:∀ t∈p.tasks,t.deps.length≤8:=fun t ht=>by
     obtain⟨k,hk⟩:=List.getElem?_of_mem ht
     exact(b9 hck hk).2.2.1
    obtain⟨k1,k2,k3,k4,k5,k6⟩:=lv (b:=dD b) (ts:=p.tasks) hdl u9 u10 p.tasks.length
    have k7:(dD b).jobs.length = b.jobs.length:=by show(b.jobs.map _).length = _;rw[List.length_map]
    have k8:(dD b).seats.length = b.seats.length:=rfl
    have g1:=h.safe
    have g2:=h.loose
    have g3:=h.seats
    have g4:=h.res
    have j1:(endH b p.tasks).jobs.length≤4194304:=by show(aH _ _ _).jobs.length≤_;omega
    have j2:(endH b p.tasks).seats.length≤4194304:=by show(aH _ _ _).seats.length≤_;omega
    have j3:(endH b p.tasks).out.length≤40:=by show(aH _ _ _).out.length≤_;omega
    split
    ·refine⟨⟨?_,Nat.zero_le _,by show b.results.length≤_;omega,j1,j2,Nat.zero_le _⟩,?_,?_⟩
     ·simp only[List.length_append];omega
     ·simp only[List.length_append,List.length_map];omega
     ·intro m hm
      rcases List.mem_append.1 hm with hm|hm
      ·exact k6 m hm
      ·obtain⟨o,_,rfl⟩:=List.mem_map.1 hm
       exact Nat.zero_le _
    ·exact⟨⟨by show b.log.safe.length≤_;omega,by show b.log.loose.length≤_;omega,by show b.results.length≤_;omega,j1,j2,by show b.owed.length≤_;omega⟩,by show(endH b p.tasks).out.length≤_;omega,k6⟩
 ·exact Ib
end Go.K
end
section
open Go Go.Tm Go.Proofs
namespace Go.K
structure JL (ep now given workers:Int) (rs:List ByteArray) (ts:List Task) (js:List Job):Prop where
 zero:∀ (i:Nat) (j:Job),js[i]? = some j→j.lease = 0→j.worker = 0∧j.til = 0
 lease:∀ (i:Nat) (j:Job),js[i]? = some j→¬j.lease = 0→(ep - 1) * 1000000+1≤j.lease∧j.lease≤(ep - 1) * 1000000+given
 worker:∀ (i:Nat) (j:Job),js[i]? = some j→¬j.lease = 0→1≤j.worker∧j.worker≤workers
 til:∀ (i:Nat) (j:Job),js[i]? = some j→¬j.lease = 0→now+1≤j.til∧j.til≤now+12
 res:∀ (i:Nat) (j:Job),js[i]? = some j→¬j.lease = 0→atS rs (i:Int) = emp
 ready:∀ (i:Nat) (j:Job),js[i]? = some j→¬j.lease = 0→cX rs (nv ts i)
 once:∀ (i k:Nat) (j l:Job),i < k→js[i]? = some j→js[k]? = some l→¬l.lease = 0→¬j.lease = l.lease
theorem Hk{b:Boss}{ts:List Task}(h:ij b ts b.jobs.length):JL b.epoch b.now b.given b.workers b.results ts b.jobs:=by
 have hl:∀ {i:Nat} {j:Job},b.jobs[i]? = some j→i < b.jobs.length:=fun hj=>(List.getElem?_eq_some_iff.1 hj).1
 refine⟨fun i j hj hz=>(h i j (hl hj) hj).1 hz,fun i j hj hz=>((h i j (hl hj) hj).2 hz).lease,fun i j hj hz=>((h i j (hl hj) hj).2 hz).worker,fun i j hj hz=>((h i j (hl hj) hj).2 hz).til,fun i j hj hz=>((h i j (hl hj) hj).2 hz).res,fun i j hj hz=>((h i j (hl hj) hj).2 hz).ready,fun i k j l hik hj hk hz e=>?_⟩
 refine((h k l (hl hk) hk).2 hz).once (List.mem_map.2 ⟨j,?_,e⟩)
 exact List.mem_of_getElem? (i:=i) (by rw[List.getElem?_take];rw[if_pos hik];exact hj)
theorem Eb{b:Boss}{ts:List Task}(h:JL b.epoch b.now b.given b.workers b.results ts b.jobs):ij b ts b.jobs.length:=by
 intro i j _ hj
 refine⟨h.zero i j hj,fun hz=>⟨h.lease i j hj hz,h.worker i j hj hz,h.til i j hj hz,h.res i j hj hz,h.ready i j hj hz,fun hm=>?_⟩⟩
 obtain⟨l,hl,e⟩:=List.mem_map.1 hm
 obtain⟨k,hk⟩:=List.getElem?_of_mem hl
 rw[List.getElem?_take]at hk
 split at hk
 ·rename_i hki
  exact h.once k i l j hki hk hj hz e
 ·cases hk
theorem Ma{ep now now' given workers:Int}{rs:List ByteArray}{ts:List Task}{js:List Job}{f:Job→Job}(h:JL ep now given workers rs ts js)(hf:∀ j,f j = fR∨(f j).lease = j.lease∧(f j).worker = j.worker∧(j.lease = 0→f j = j)∧(¬j.lease = 0→(now+1≤j.til∧j.til≤now+12)→now'+1≤(f j).til∧(f j).til≤now'+12)):JL ep now' given workers rs ts (js.map f):=by
 have g:∀ {i:Nat} {x:Job},(js.map f)[i]? = some x→∃ j,js[i]? = some j∧f j = x:=fun{i x} hx=>by
  rw[List.getElem?_map]at hx
  cases hj:js[i]? with
  |none=>rw[hj]at hx;cases hx
  |some j=>rw[hj]at hx;exact⟨j,rfl,Option.some.inj hx⟩
 have k:∀ {i:Nat} {x:Job},(js.map f)[i]? = some x→¬x.lease = 0→∃ j,js[i]? = some j∧f j = x∧x.lease = j.lease∧x.worker = j.worker∧¬j.lease = 0∧now'+1≤x.til∧x.til≤now'+12:=fun{i x} hx hz=>by
  obtain⟨j,hj,e⟩:=g hx
  rcases hf j with q|⟨q1,q2,_,q3⟩
  ·rw[e]at q;rw[q]at hz;exact absurd rfl hz
  ·rw[e]at q1 q2 q3
   have hz':¬j.lease = 0:=fun w=>hz (by rw[q1];exact w)
   exact⟨j,hj,e,q1,q2,hz',q3 hz' (h.til i j hj hz')⟩
 refine⟨fun i x hx hz=>?_,fun i x hx hz=>?_,fun i x hx hz=>?_,fun i x hx hz=>?_,fun i x hx hz=>?_,fun i x hx hz=>?_,fun i m x y him hx hy hz e=>?_⟩
 ·obtain⟨j,hj,e⟩:=g hx
  rcases hf j with q|⟨q1,q2,q4,q3⟩
  ·rw[←e,q];exact⟨rfl,rfl⟩
  ·have hz':j.lease = 0:=by rw[←q1,e];exact hz
   rw[←e,q4 hz'];exact h.zero i j hj hz'
 ·obtain⟨j,hj,e,q1,q2,hz',t⟩:=k hx hz;rw[q1];exact h.lease i j hj hz'
 ·obtain⟨j,hj,e,q1,q2,hz',t⟩:=k hx hz;rw[q2];exact h.worker i j hj hz'
 ·obtain⟨j,hj,e,q1,q2,hz',t⟩:=k hx hz;exact t
 ·obtain⟨j,hj,e,q1,q2,hz',t⟩:=k hx hz;exact h.res i j hj hz'
 ·obtain⟨j,hj,e,q1,q2,hz',t⟩:=k hx hz;exact h.ready i j hj hz'
 ·obtain⟨l,hl,_,q1,_,hz',_⟩:=k hy hz
  have hzx:¬x.lease = 0:=fun w=>hz (by rw[←e];exact w)
  obtain⟨j,hj,_,p1,_,_,_⟩:=k hx hzx
  exact h.once i m j l him hj hl hz' (by rw[←p1,←q1];exact e)
theorem W2{ep now given workers:Int}{rs:List ByteArray}{ts:List Task}{js:List Job}(h:JL ep now given workers rs ts js):JL ep (now+1) given workers rs ts (js.map (qQ (now+1))):=by
 refine Ma h fun j=>?_
 unfold qQ
 split
 ·exact .inl rfl
 ·rename_i hd
  exact .inr ⟨rfl,rfl,fun _=>rfl,fun _ q=>⟨by omega,by omega⟩⟩
theorem Vg{ep now given workers w:Int}{rs:List ByteArray}{ts:List Task}{js:List Job}(h:JL ep now given workers rs ts js):JL ep now given workers rs ts (js.map fun j=>if j.worker = w then fR else j):=by
 refine Ma h fun j=>?_
 split
 ·exact .inl rfl
 ·exact .inr ⟨rfl,rfl,fun _=>rfl,fun _ q=>q⟩
theorem Vh{ep now given workers l:Int}{rs:List ByteArray}{ts:List Task}{js:List Job}(hl:1≤l)(h:JL ep now given workers rs ts js):JL ep now given workers rs ts (js.map fun j=>if j.lease = l then⟨j.lease,j.worker,now+12⟩else j):=by
 refine Ma h fun j=>?_
 split
 ·rename_i e
  exact .inr ⟨rfl,rfl,fun z=>absurd z OM,fun _ q=>⟨by dsimp only;omega,by dsimp only;omega⟩⟩
 ·exact .inr ⟨rfl,rfl,fun _=>rfl,fun _ q=>q⟩
theorem W0{ep now given workers s:Int}{rs:List ByteArray}{ts:List Task}{js:List Job}{n:Nat}{j0:Job}(h:JL ep now given workers rs ts js)(hj:js[n]? = some j0)(hg:0≤given)(hs:0≤s∧s < workers)(hr:atS rs (n:Int) = emp)(hd:cX rs (nv ts n))(he:1≤ep):JL ep now (given+1) workers rs ts (js.set n ⟨(ep - 1) * 1000000+ (given+1),s+1,now+12⟩):=by
 have hn:=(List.getElem?_eq_some_iff.1 hj).1
 have g:∀ {i:Nat} {x:Job},(js.set n ⟨(ep - 1) * 1000000+ (given+1),s+1,now+12⟩)[i]? = some x→(i = n∧x = ⟨(ep - 1) * 1000000+ (given+1),s+1,now+12⟩)∨(¬i = n∧js[i]? = some x):=fun{i x} hx=>by
  by_cases e:i = n
  ·subst e
   rw[List.getElem?_set_self hn]at hx
   exact .inl ⟨rfl,(Option.some.inj hx).symm⟩
  ·rw[List.getElem?_set_ne (fun q=>e q.symm)]at hx
   exact .inr ⟨e,hx⟩
 refine⟨fun i x hx hz=>?_,fun i x hx hz=>?_,fun i x hx hz=>?_,fun i x hx hz=>?_,fun i x hx hz=>?_,fun i x hx hz=>?_,fun i m x y him hx hy hz e=>?_⟩
 ·rcases g hx with⟨_,rfl⟩|⟨_,q⟩
  ·dsimp only at hz;omega
  ·exact h.zero i x q hz
 ·rcases g hx with⟨_,rfl⟩|⟨_,q⟩
  ·exact⟨by dsimp only;omega,by dsimp only;omega⟩
  ·have:=h.lease i x q hz;exact⟨by omega,by omega⟩
 ·rcases g hx with⟨_,rfl⟩|⟨_,q⟩
  ·exact⟨by dsimp only;omega,by dsimp only;omega⟩
  ·exact h.worker i x q hz
 ·rcases g hx with⟨_,rfl⟩|⟨_,q⟩
  ·exact⟨by dsimp only;omega,by dsimp only;omega⟩
  ·exact h.til i x q hz
 ·rcases g hx with⟨rfl,rfl⟩|⟨_,q⟩
  ·exact hr
  ·exact h.res i x q hz
 ·rcases g hx with⟨rfl,rfl⟩|⟨_,q⟩
  ·exact hd
  ·exact h.ready i x q hz
 ·rcases g hx with⟨a,rfl⟩|⟨a,qx⟩
  ·rcases g hy with⟨b,rfl⟩|⟨_,qy⟩
   ·omega
   ·have:=(h.lease m y qy hz).2;dsimp only at e;omega
  ·rcases g hy with⟨_,rfl⟩|⟨_,qy⟩
   ·have hx0:¬x.lease = 0:=fun w=>by dsimp only at e;omega
    have:=(h.lease i x qx hx0).2;dsimp only at e;omega
   ·exact h.once i m x y him qx qy hz e
end Go.K
end
section
open Go Go.Tm Go.Proofs
namespace Go.K
def dC(p:Plan):Prop:=p.tasks.length≤64∧∀ t∈p.tasks,t.name.size≤64∧t.deps.length≤64
theorem kU(p:Plan)(h:dC p):F B1 [.val (cR p)] (fj p) [[]]:=by
 obtain⟨hp1,hp2⟩:=h
 refine CH ?_
 conv=>whnf
 refine g 0 0 []<|J Zdt<|g 6 7 []<|J Zek<|W.sq<|g 0 0 []<|J UA<|W.blk<|W.lp (fun s (n:Nat)=>⟨[(0,s.s 0),(1,s.s 1),(2,s.s 2),(3,s.s 3),(4,.i n)],[(1,[s.c 1 0]),(2,[s.c 2 0]),(34,[s.c 34 0]),(3,[.own dg ((p.tasks.take n).map ay)])],[]⟩) (fun(n:Nat)=>n≤p.tasks.length) (fun(n:Nat)=>p.tasks.length - n) (0) [some 1,some 2,some 34,some 3] [] ⟨rfl,⟨Zai,rfl,rfl,rfl,rfl,I⟩,⟨Zad,⟨Zad,⟨Zad,Zdq⟩⟩⟩,I⟩ OM ?_
 intro n hn
 conv=>whnf
 refine W.sq<|g 7 11 []<|J UE<|W.cn<|J (fun h1=>?_) fun h1=>?_
 replace h1:=dt h1
 simp only[LM]at h1
 refine W.skip<|W.sq<|W.blk ?_
 obtain⟨y1,hy1⟩:=af (xs:=Plan.tasks p) (n:=n) OM
 have hm1:=hp2 y1 (List.mem_of_getElem? hy1)
 refine g 11 19 [.x (ay y1)]<|J Zbj<|rgd [[],[],[],[],[],[],[],[],[],[],[],[],[],[],[]] ?_
 conv=>whnf
 refine J ⟨I,I,I,I,I,I,I,I,I,Zdm,I,⟨UC,I⟩,Zdm,I,UA,I⟩<|J KR<|rg [.i ((n:Int) +1)]<|J Zdi ?_
 rotate_left
 replace h1:=df h1
 simp only[LM]at h1
 refine W.exit<|g 3 34 []<|J UV<|RT ?_
 rotate_left
 ·refine⟨n+1,[some 1,some 2,some 34,some 3],[],⟨rfl,⟨Zai,rfl,rfl,rfl,rfl,I⟩,⟨Zad,⟨Zad,⟨Zad,⟨⟨rfl,⟨(congrArg (V.own _) (oA AS)),I⟩⟩,I⟩⟩⟩⟩,I⟩,?_,?_⟩
  rotate_left
  (dsimp only;omega)
  dsimp only
  omega
 ·rw[aF OM]
end Go.K
end
section
open Go Go.Tm Go.Proofs
namespace Go.K
def iI(t:Task):Prop:=t.name.size≤8192∧t.deps.length≤128
def lc(p:Plan):Prop:=p.tasks.length≤64∧∀ t∈p.tasks,iI t
theorem lJ{p:Plan}(h:dC p):lc p:=⟨h.1,fun t ht=>⟨by have:=(h.2 t ht).1;omega,by have:=(h.2 t ht).2;omega⟩⟩
theorem WZ{p:Plan}(h:lc p):dv p:=⟨by have:=h.1;omega,fun t ht=>⟨by have:=(h.2 t ht).1;omega,by have:=(h.2 t ht).2;omega⟩⟩
end Go.K
end
section
open Go Go.Tm Go.Proofs
namespace Go.K
attribute [local irreducible] ByteArray.extract
theorem OY{m:Message}{n:Nat}{x:ByteArray}(h:m.inputs[n]? = some x):gH m n++x = gH m (n+1):=by
 unfold gH;rw[E7 h];simp only[ByteArray.append_assoc]
theorem TD(x:Int):IntKind.u8.wrap x = x % 256:=by simp[IntKind.wrap,IntKind.bits,IntKind.signed]
theorem sz{x:Int}(k:Nat)(d:Int)(hk:(2:Int) ^ min k IntKind.i64.bits = d)(h:0≤d):IntKind.u8.wrap (x.fdiv (2 ^ min (Int.toNat (k:Int)) IntKind.i64.bits)) = x / d % 256:=by
 rw[Int.toNat_natCast,hk,TD,Int.fdiv_eq_ediv_of_nonneg _ h]
theorem IW{m:Message}(h:bP m):(⟨(bR ([m.kind,m.frm,m.to,IntKind.u8.wrap (m.epoch.fdiv (2 ^ min (Int.toNat 8) IntKind.i64.bits)),IntKind.u8.wrap m.epoch,IntKind.u8.wrap (m.lease.fdiv (2 ^ min (Int.toNat 24) IntKind.i64.bits)),IntKind.u8.wrap (m.lease.fdiv (2 ^ min (Int.toNat 16) IntKind.i64.bits)),IntKind.u8.wrap (m.lease.fdiv (2 ^ min (Int.toNat 8) IntKind.i64.bits)),IntKind.u8.wrap m.lease,m.task,IntKind.u8.wrap ((m.inputs.map aj).length:Int)].map b1T)).toArray⟩:ByteArray) ++m.text = gH m 0:=by
 obtain⟨h1,h2,h3,h4,h5,h6⟩:=fQ h
 have h7:=(dl h).1
 have e:[m.kind,m.frm,m.to,IntKind.u8.wrap (m.epoch.fdiv (2 ^ min (Int.toNat 8) IntKind.i64.bits)),IntKind.u8.wrap m.epoch,IntKind.u8.wrap (m.lease.fdiv (2 ^ min (Int.toNat 24) IntKind.i64.bits)),IntKind.u8.wrap (m.lease.fdiv (2 ^ min (Int.toNat 16) IntKind.i64.bits)),IntKind.u8.wrap (m.lease.fdiv (2 ^ min (Int.toNat 8) IntKind.i64.bits)),IntKind.u8.wrap m.lease,m.task,IntKind.u8.wrap ((m.inputs.map aj).length:Int)] = AB m:=by
  have a1:IntKind.u8.wrap (m.epoch.fdiv (2 ^ min (Int.toNat 8) IntKind.i64.bits)) = m.epoch / 256 % 256:=sz 8 256 (by decide) (by decide)
  have a2:IntKind.u8.wrap (m.lease.fdiv (2 ^ min (Int.toNat 24) IntKind.i64.bits)) = m.lease / 16777216 % 256:=sz 24 16777216 (by decide) (by decide)
  have a3:IntKind.u8.wrap (m.lease.fdiv (2 ^ min (Int.toNat 16) IntKind.i64.bits)) = m.lease / 65536 % 256:=sz 16 65536 (by decide) (by decide)
  have a4:IntKind.u8.wrap (m.lease.fdiv (2 ^ min (Int.toNat 8) IntKind.i64.bits)) = m.lease / 256 % 256:=sz 8 256 (by decide) (by decide)
  have b1:m.epoch / 256 % 256 = m.epoch / 256:=by omega
  have b2:m.lease / 16777216 % 256 = m.lease / 16777216:=by omega
  unfold AB
  rw[List.length_map]
  rw[a1,a2,a3,a4,b1,b2,TD,TD,wu8 (z:=(m.inputs.length:Int)) OM OM]
 rw[e,qV,←E9 (ER h),jF]
theorem qi(m:Message)(key:ByteArray)(hl:m.inputs.length≤9223372036854775806):F pT [.val (eC m),.val (.s key)] (.s (eD m key)) [[],[]]:=by
 have c1:=cL m hl
 by_cases h:bP m
 ·have hb:=gv h
  obtain⟨h1,h2,h3,h4,h5,h6⟩:=fQ h
  obtain⟨h7,h8,h9⟩:=dl h
  rw[show decide (bP m) = true from decide_eq_true h]at c1
  by_cases hk:key.size≤30
  ·have c4:=nU (dx m) key OM OM
   have hs:(fr (dx m) key).size = 8:=fg _
   refine gf ?_
   conv=>whnf
   refine g 0 0 []<|J ⟨UH,I,I⟩<|W.sq<|g 11 16 [.call VT [[]],BF,BF,BF,BF]<|J Zca<|W.cn<|J (noT dO) fun _=>W.skip<|g 10 56 [.i m.kind,.i m.frm,.i m.to,.i (Int.fdiv m.epoch (2 ^ min (Int.toNat 8) (IntKind.bits IntKind.i64))),.i (IntKind.wrap IntKind.u8 (Int.fdiv m.epoch (2 ^ min (Int.toNat 8) (IntKind.bits IntKind.i64)))),.i (IntKind.wrap IntKind.u8 m.epoch),.i (Int.fdiv m.lease (2 ^ min (Int.toNat 24) (IntKind.bits IntKind.i64))),.i (IntKind.wrap IntKind.u8 (Int.fdiv m.lease (2 ^ min (Int.toNat 24) (IntKind.bits IntKind.i64)))),.i (Int.fdiv m.lease (2 ^ min (Int.toNat 16) (IntKind.bits IntKind.i64))),.i (IntKind.wrap IntKind.u8 (Int.fdiv m.lease (2 ^ min (Int.toNat 16) (IntKind.bits IntKind.i64)))),.i (Int.fdiv m.lease (2 ^ min (Int.toNat 8) (IntKind.bits IntKind.i64))),.i (IntKind.wrap IntKind.u8 (Int.fdiv m.lease (2 ^ min (Int.toNat 8) (IntKind.bits IntKind.i64)))),.i (IntKind.wrap IntKind.u8 m.lease),.i m.task,.i (IntKind.wrap IntKind.u8 (↑(List.length (List.map aj m.inputs)):Int))]<|J ⟨I,I,wu8 OM OM,I,I,wu8 OM OM,I,I,wu8 OM OM,I,I,Zds,rfl,I,I,rfl,I,I,Zds,rfl,I,I,Zds,rfl,I,I,Zds,rfl,I,I,rfl,I,I,wu8 OM OM,I,I,I,rfl,⟨UA,UA,UA,UA,UA,UA,UA,UA,UA,UA,UA,I⟩,I,I⟩<|g 56 61 [.s ({data:=List.toArray (bR [[T.v (Value.int IntKind.u8 m.kind)],[T.v (Value.int IntKind.u8 m.frm)],[T.v (Value.int IntKind.u8 m.to)],[T.v (Value.int IntKind.u8 (IntKind.wrap IntKind.u8 (Int.fdiv m.epoch (2 ^ min (Int.toNat 8) (IntKind.bits IntKind.i64)))))],[T.v (Value.int IntKind.u8 (IntKind.wrap IntKind.u8 m.epoch))],[T.v (Value.int IntKind.u8 (IntKind.wrap IntKind.u8 (Int.fdiv m.lease (2 ^ min (Int.toNat 24) (IntKind.bits IntKind.i64)))))],[T.v (Value.int IntKind.u8 (IntKind.wrap IntKind.u8 (Int.fdiv m.lease (2 ^ min (Int.toNat 16) (IntKind.bits IntKind.i64)))))],[T.v (Value.int IntKind.u8 (IntKind.wrap IntKind.u8 (Int.fdiv m.lease (2 ^ min (Int.toNat 8) (IntKind.bits IntKind.i64)))))],[T.v (Value.int IntKind.u8 (IntKind.wrap IntKind.u8 m.lease))],[T.v (Value.int IntKind.u8 m.task)],[T.v (Value.int IntKind.u8 (IntKind.wrap IntKind.u8 (↑(List.length (List.map aj m.inputs)):Int)))]]):ByteArray}),.s ({data:=List.toArray (bR [[T.v (Value.int IntKind.u8 m.kind)],[T.v (Value.int IntKind.u8 m.frm)],[T.v (Value.int IntKind.u8 m.to)],[T.v (Value.int IntKind.u8 (IntKind.wrap IntKind.u8 (Int.fdiv m.epoch (2 ^ min (Int.toNat 8) (IntKind.bits IntKind.i64)))))],[T.v (Value.int IntKind.u8 (IntKind.wrap IntKind.u8 m.epoch))],[T.v (Value.int IntKind.u8 (IntKind.wrap IntKind.u8 (Int.fdiv m.lease (2 ^ min (Int.toNat 24) (IntKind.bits IntKind.i64)))))],[T.v (Value.int IntKind.u8 (IntKind.wrap IntKind.u8 (Int.fdiv m.lease (2 ^ min (Int.toNat 16) (IntKind.bits IntKind.i64)))))],[T.v (Value.int IntKind.u8 (IntKind.wrap IntKind.u8 (Int.fdiv m.lease (2 ^ min (Int.toNat 8) (IntKind.bits IntKind.i64)))))],[T.v (Value.int IntKind.u8 (IntKind.wrap IntKind.u8 m.lease))],[T.v (Value.int IntKind.u8 m.task)],[T.v (Value.int IntKind.u8 (IntKind.wrap IntKind.u8 (↑(List.length (List.map aj m.inputs)):Int)))]]):ByteArray} ++m.text)]<|J ⟨I,⟨I,(by repeat (first|exact jR|refine iu ?_)),rfl⟩,I,I,⟨rfl,(by simp only[bsz,ByteArray.size_append,na];omega)⟩,I,I⟩ ?_
   refine W.sq<|g 0 1 []<|J UD<|W.blk<|W.lp (fun s (n:Nat)=>⟨[(1,s.s 1),(4,s.s 4),(6,.s (gH m n)),(9,s.s 9),(62,s.s 62),(63,s.s 63),(64,.i n)],[],[]⟩) (fun(n:Nat)=>n≤m.inputs.length) (fun(n:Nat)=>m.inputs.length - n) (0) [] [] ⟨rfl,⟨rfl,rfl,(congrArg (fun z=>V.t (T.v (Value.string z))) (IW h)),Zaj,rfl,rfl,rfl,I⟩,I,I⟩ OM ?_
   intro n hn
   have hc:=qW h n hn
   have hs2:(fr (gH m n) key).size = 8:=fg _
   conv=>whnf
   refine g 0 0 []<|J UA<|W.sq<|W.cn<|J (fun h10=>?_) fun h10=>?_
   replace h10:=dt h10
   simp only[LM]at h10
   refine W.skip<|W.sq<|W.blk ?_
   obtain⟨y1,hy1⟩:=af (xs:=Message.inputs m) (n:=n) OM
   have hm1:=h8 y1 (List.mem_of_getElem? hy1)
   refine g 65 68 [.x (aj y1)]<|J Zb6<|rg [.s (gH m n++y1)]<|J ⟨I,I,⟨rfl,OM⟩,I,I⟩<|rg [.i ((n:Int) +1)]<|J Zdn ?_
   rotate_left
   replace h10:=df h10
   simp only[LM]at h10
   refine W.exit<|g 62 77 [.call (V.s (fr (gH m n) key)) [[],[]],.s (fr (gH m n) key++gH m n)]<|J ⟨I,I,⟨UB,I,UT,UA,nU _ _ OM OM⟩,I,⟨rfl,OM⟩,I,I⟩<|RT ?_
   rotate_left
   ·refine⟨n+1,[],[],⟨rfl,⟨rfl,rfl,(congrArg (fun z=>V.t (T.v (Value.string z))) (OY AS)),Zaj,rfl,rfl,rfl,I⟩,I,I⟩,?_,?_⟩
    rotate_left
    (dsimp only;omega)
    dsimp only
    omega
   ·exact vs (by rw[show n = m.inputs.length by omega,vF];exact(if_pos ⟨h,hk⟩).symm)
  ·refine gf ?_
   conv=>whnf
   refine g 0 0 []<|J ⟨UH,I,I⟩<|W.sq<|g 11 16 [.call VT [[]],BF,BF,BF,BF]<|J Zca<|W.cn<|J (fun _=>(g 16 17 []<|J UA (RT ?_))) (noF tO)
   exact vs (if_neg (fun h=>hk h.2)).symm
 ·rw[show decide (bP m) = false from decide_eq_false h]at c1
  refine gf ?_
  conv=>whnf
  refine g 0 0 []<|J ⟨UH,I,I⟩<|W.sq<|g 11 16 [.call VF [[]],BT,BT,BT,BT]<|J ⟨I,Zcb,I,I,rfl,rfl,rfl,rfl,I⟩<|W.cn<|J (fun _=>(g 16 17 []<|J UA (RT ?_))) (noF rfl)
  exact vs (if_neg (fun x=>h x.1)).symm
end Go.K
end
section
open Go Go.Tm Go.Proofs
namespace Go.K
attribute [local irreducible] ByteArray.extract
end Go.K
end
section
open Go Go.Tm Go.Proofs
namespace Go.K
theorem Lw(e:Entry):(dk e).size≤4+e.text.size:=by
 unfold dk
 split
 ·rw[ByteArray.size_append,gD];exact Nat.le_refl _
 ·exact Nat.zero_le _
end Go.K
end
section
open Go Go.Tm Go.Proofs
namespace Go.K
structure RepOk (p:Plan) (xs:List ByteArray):Prop where
 plan:lc p
 len:xs.length≤400
 size:∀ s∈xs,s.size≤64
end Go.K
end
section
open Go Go.Tm Go.Proofs
namespace Go.K
attribute [local irreducible] ByteArray.extract
end Go.K
end
section
open Go Go.Tm Go.Proofs
namespace Go.K
theorem Tt{hs:List Int}{r:ByteArray}{k:Nat}{x:Int}(hk:hs[k]? = some x)(hx:0≤x∧x≤255):byt (bl hs++r) k = x:=by
 obtain⟨⟨l⟩⟩:=r
 have e:bl hs++ ⟨⟨l⟩⟩ = ⟨⟨(hs.map fun n=>UInt8.ofNat n.toNat) ++l⟩⟩:=by
  apply ByteArray.ext
  rw[ByteArray.data_append]
  apply Array.ext'
  simp[bl]
 have h1:((hs.map fun n=>UInt8.ofNat n.toNat) ++l)[k]? = some (UInt8.ofNat x.toNat):=by
  rw[List.getElem?_append_left (by rw[List.length_map];exact(List.getElem?_eq_some_iff.1 hk).1),List.getElem?_map,hk];rfl
 rw[e,uZ h1]
 simp;omega
theorem sO(a r:ByteArray):(a++r).extract a.size (a++r).size = r:=by
 have e:a.extract a.size (a.size+r.size) = emp:=ByteArray.size_eq_zero_iff.1 (by rw[ByteArray.size_extract];omega)
 rw[ByteArray.size_append,ByteArray.extract_append,e,LD]
 simp
end Go.K
end
section
open Go Go.Tm Go.Proofs
namespace Go.K
attribute [local irreducible] ByteArray.extract
theorem Jo{s key:ByteArray}{m:Message}(h:eA s key = some m):bP m:=by
 unfold eA at h
 by_cases h0:s.size < 19
 ·rw[if_pos (Or.inl h0)]at h;cases h
 ·by_cases h1:eD (rdM (s.extract 8 s.size)) key = s
  ·rw[if_neg (by rintro(h|h);exact h0 h;exact h h1)]at h
   cases h
   exact((mn h0).1 h1).1
  ·rw[if_pos (Or.inr h1)]at h;cases h
end Go.K
end
section
open Go Go.Tm Go.Proofs
namespace Go.K
attribute [local irreducible] ByteArray.extract
end Go.K
end
section
open Go Go.Tm Go.Proofs
namespace Go.K
theorem Vj{e:Entry}(h:e.ok):rdS (dk e) = e:=by
 have hok:=h
 obtain⟨⟨h1,h2⟩,⟨h3,h4⟩,h5⟩:=h
 have hk:1≤e.kind∧e.kind≤2:=by rcases h5 with q|q <;> (have:=q.1;omega)
 have d1:e.epoch.tdiv 256 = e.epoch / 256:=Int.tdiv_eq_ediv_of_nonneg OM
 have d2:e.epoch.tmod 256 = e.epoch % 256:=Int.tmod_eq_emod_of_nonneg OM
 have hf:dk e = bl [e.kind,e.epoch / 256,e.epoch % 256,e.task] ++e.text:=by
  rw[dk,if_pos hok,d1,d2,wO,wu8 OM OM,wu8 OM OM,wu8 OM OM,wu8 OM OM]
 have hl:(bl [e.kind,e.epoch / 256,e.epoch % 256,e.task]).size = 4:=by rw[gD];rfl
 have hx:(dk e).extract 4 (dk e).size = e.text:=by rw[hf,←hl];exact sO _ _
 have b:∀ (k:Nat) (x:Int),([e.kind,e.epoch / 256,e.epoch % 256,e.task])[k]? = some x→0≤x∧x≤255→byt (dk e) k = x:=fun k x hk hx=>by rw[hf];exact Tt hk hx
 have k0:=b 0 e.kind rfl ⟨by omega,by omega⟩
 have k1:=b 1 (e.epoch / 256) rfl ⟨by omega,by omega⟩
 have k2:=b 2 (e.epoch % 256) rfl ⟨by omega,by omega⟩
 have k3:=b 3 e.task rfl ⟨by omega,by omega⟩
 unfold rdS
 rw[k0,k1,k2,k3,hx,show e.epoch / 256 * 256+e.epoch % 256 = e.epoch by omega]
theorem OB{e:Entry}(h:e.ok):(dk e).size = 4+e.text.size:=by
 rw[dk,if_pos h,ByteArray.size_append,gD];rfl
theorem Af{e:Entry}(h:e.ok):ey (dk e) = some e:=by
 have:=OB h
 rw[ey,if_neg OM,Vj h,if_pos rfl]
theorem K6{s:ByteArray}{e:Entry}(h:ey s = some e):dk e = s:=by
 unfold ey at h
 split at h
 ·cases h
 ·split at h
  ·cases h;assumption
  ·cases h
end Go.K
end
section
open Go Go.Tm Go.Proofs
namespace Go.K
theorem X7{p:Plan}(hck:aq p.tasks = 0):∀ t∈p.tasks,t.deps.length≤8:=fun t ht=>by
 obtain⟨k,hk⟩:=List.getElem?_of_mem ht
 exact(b9 hck hk).2.2.1
structure HandK (b:Boss) (ts:List Task) (h:Hand):Prop where
 jl:JL b.epoch b.now h.given b.workers b.results ts h.jobs
 seats:∀ s∈h.seats,0≤s.epoch∧s.epoch≤300
theorem SL{b:Boss}{ts:List Task}(hd:∀ t∈ts,t.deps.length≤8)(he:1≤b.epoch)(h0:0≤b.given)(h1:b.given≤1000000)(hjl:b.jobs.length = ts.length)(hsl:(b.seats.length:Int) = b.workers)(hj:JL b.epoch b.now b.given b.workers b.results ts b.jobs)(hs:∀ s∈b.seats,0≤s.epoch∧s.epoch≤300):∀ n,n≤ts.length→HandK b ts (aH b ts n)
 |0,_=>⟨hj,hs⟩
 |n+1,hn=>by
  have ih:=SL hd he h0 h1 hjl hsl hj hs n OM
  have ho:=lv hd h0 h1 n
  by_cases hc:CanHand b ts (aH b ts n) n
  ·cases hf:kR (aH b ts n).seats with
   |none=>rw[oL hf];exact ih
   |some s =>
    rw[oK hc hf]
    obtain⟨x,hx0,hx1,hx2,_⟩:=oM hf
    have e1:=ho.jobs
    have e2:=ho.seats
    obtain⟨j,hj0⟩:=af (xs:=(aH b ts n).jobs) (n:=n) OM
    refine⟨W0 ih.jl hj0 ho.lo ⟨by omega,by omega⟩ hc.res hc.ready he,fun y hy=>?_⟩
    rcases List.mem_or_eq_of_mem_set hy with hy|hy
    ·exact ih.seats y hy
    ·rw[hy]
     have:mc (aH b ts n).seats s = x:=by rw[mc,hx0];rfl
     show 0≤(mc _ _).epoch∧(mc _ _).epoch≤300
     rw[this]
     exact ih.seats x (List.mem_of_getElem? hx0)
  ·rw[iV hc];exact ih
theorem XZ{b:Boss}(h:¬b.up = false):b.up = true:=by cases hb:b.up;exact absurd hb h;rfl
theorem KK{b:Boss}{p:Plan}(hv:BossOk b p):BossOk (hM b p.tasks).boss p:=by
 by_cases h0:b.now = 1000000
 ·rw[sn h0];exact hv
 have hnow:=hv.now
 by_cases hup:b.up = false
 ·rw[zP h0 hup]
  obtain⟨d1,d2,d3,d4,d5,d6,d7,d8⟩:=hv.down hup
  exact⟨hv.plan,hv.workers,⟨by show 0≤b.now+1;omega,by show b.now+1≤1000000;omega⟩,hv.code,(fun e=>by rw[show(Xz b).up = b.up from rfl,hup]at e;cases e),fun _=>⟨d1,d2,d3,d4,d5,d6,d7,d8⟩⟩
 have hup2:=XZ hup
 obtain⟨u1,u2,u3,u4,u5,u6,⟨u7,u8⟩,⟨u9,u10⟩,u11,u12,u13,u14⟩:=hv.up hup2
 have hd:=X7 hv.plan
 have hj:JL (dD b).epoch (dD b).now (dD b).given (dD b).workers (dD b).results p.tasks (dD b).jobs:=W2 (Hk u12)
 have hjl:(dD b).jobs.length = p.tasks.length:=by show(b.jobs.map _).length = _;rw[List.length_map];exact u4
 have hk:=SL (b:=dD b) (ts:=p.tasks) hd u2 u9 u10 hjl u5 hj u13 p.tasks.length (Nat.le_refl _)
 have ho:=lv (b:=dD b) (ts:=p.tasks) hd u9 u10 p.tasks.length
 have e1:(endH b p.tasks).jobs.length = p.tasks.length:=by show(aH _ _ _).jobs.length = _;rw[ho.jobs];exact hjl
 have e2:((endH b p.tasks).seats.length:Int) = b.workers:=by show((aH _ _ _).seats.length:Int) = _;rw[ho.seats];exact u5
 by_cases hs:b.since+1 = 2
 ·rw[mD h0 hup hs]
  have es:cA ⟨b.workers,b.up,b.now+1,0,b.epoch,(endH b p.tasks).given,⟨b.log.safe++b.log.loose,[]⟩,b.results,(endH b p.tasks).jobs,(endH b p.tasks).seats,[]⟩ p = cA b p:=by show aw p ((b.log.safe++b.log.loose) ++ []) = aw p (b.log.safe++b.log.loose);rw[List.append_nil]
  refine⟨hv.plan,hv.workers,⟨by show 0≤b.now+1;omega,by show b.now+1≤1000000;omega⟩,by rw[es];exact hv.code,fun _=>?_,fun e=>absurd (show b.up = false from e) hup⟩
  rw[es]
  exact⟨u1,u2,u3,e1,e2,u6,⟨Int.le_refl _,by show(0:Int)≤1;omega⟩,⟨ho.lo,ho.hi⟩,Nat.zero_le _,Eb hk.jl,hk.seats,fun o ho=>by cases ho⟩
 ·rw[ov h0 hup hs]
  have es:cA ⟨b.workers,b.up,b.now+1,b.since+1,b.epoch,(endH b p.tasks).given,b.log,b.results,(endH b p.tasks).jobs,(endH b p.tasks).seats,b.owed⟩ p = cA b p:=rfl
  refine⟨hv.plan,hv.workers,⟨by show 0≤b.now+1;omega,by show b.now+1≤1000000;omega⟩,by rw[es];exact hv.code,fun _=>?_,fun e=>absurd (show b.up = false from e) hup⟩
  rw[es]
  exact⟨u1,u2,u3,e1,e2,u6,⟨by show 0≤b.since+1;omega,by show b.since+1≤1;omega⟩,⟨ho.lo,ho.hi⟩,u11,Eb hk.jl,hk.seats,fun o ho=>by obtain⟨a1,a2,a3,a4⟩:=u14 o ho;exact⟨a1,a2,a3,a4⟩⟩
end Go.K
end
section
open Go Go.Tm Go.Proofs
namespace Go.K
theorem EA(ts:List Task)(st:Option Tale)(xs:List ByteArray)(s:ByteArray):ke ts st (xs++ [s]) = (ke ts st xs).bind fun t=>dM ts t s:=by
 rw[n0];cases ke ts st xs with
 |none=>rfl
 |some t=>rfl
theorem HQ{p:Plan}{xs:List ByteArray}{e:Entry}{t:Task}(h:(aw p xs).code = 0)(hl:xs.length < 310)(hok:e.ok)(hk:¬e.kind = 1)(he:e.epoch = (aw p xs).epoch)(ht:p.tasks[e.task.toNat]? = some t)(ht2:e.task < p.tasks.length)(hr:atS (aw p xs).results e.task = emp)(hd:cX (aw p xs).results t.deps):aw p (xs++ [dk e]) = ⟨0,(aw p xs).epoch,(aw p xs).results.set e.task.toNat e.text⟩:=by
 obtain⟨hck,_,hrl,u,h1,h2⟩:=cE h
 rw[h2]at he hr hd ⊢
 dsimp only at he hr hd
 obtain⟨y,hy⟩:∃ y,u.results[e.task.toNat]? = some y:=by
  rw[h2]at hrl
  exact af (by have:=hok.2.1.1;dsimp only at hrl;omega)
 have hs:dM p.tasks u (dk e) = some ⟨u.epoch,u.results.set e.task.toNat e.text⟩:=Bi (Af hok) hk he ht2 hy (by rw[j7 hy]at hr;exact hr) ht hd
 unfold aw
 rw[if_pos ⟨hck,by rw[List.length_append,List.length_singleton];omega⟩,EA,h1]
 rw[Option.bind_some,hs]
end Go.K
end
section
open Go Go.Tm Go.Proofs
namespace Go.K
noncomputable def qB(key:ByteArray)(acc:List Parcel)(m:Message):List Parcel:=if bP m∧key.size≤30∧acc.length < 2000 then acc++ [⟨m.to,eD m key,eD m key⟩]else acc
noncomputable def ic(xs:List Parcel)(ms:List Message)(key:ByteArray)(n:Nat):List Parcel:=(ms.take n).foldl (qB key) xs
noncomputable def sC(xs:List Parcel)(ms:List Message)(key:ByteArray):List Parcel:=ic xs ms key ms.length
theorem La(xs:List Parcel)(ms:List Message)(key:ByteArray):ic xs ms key 0 = xs:=by unfold ic;rw[List.take_zero];rfl
theorem qC{xs:List Parcel}{ms:List Message}{key:ByteArray}{n:Nat}{m:Message}(h:ms[n]? = some m):ic xs ms key (n+1) = qB key (ic xs ms key n) m:=by
 unfold ic;rw[List.take_add_one,h];simp
theorem QT{key:ByteArray}{acc:List Parcel}{m:Message}(h:acc.length≤1048576):(qB key acc m).length≤1048576:=by
 unfold qB;split
 ·rename_i h2;rw[List.length_append];simp;omega
 ·exact h
theorem sD{xs:List Parcel}(ms:List Message)(key:ByteArray)(h:xs.length≤1048576):∀ n,(ic xs ms key n).length≤1048576
 |0=>by rw[La];exact h
 |n+1=>by
  cases hm:ms[n]? with
  |none =>
   have:ms.take (n+1) = ms.take n:=by rw[List.take_add_one,hm];simp
   have e:ic xs ms key (n+1) = ic xs ms key n:=by unfold ic;rw[this]
   rw[e];exact sD ms key h n
  |some m=>rw[qC hm];exact QT (sD ms key h n)
theorem zX(b k:ByteArray):(fr b k).size = 8:=by unfold fr Ev;rw[gD,pC]
theorem OC{m:Message}{key:ByteArray}(h:bP m)(hk:key.size≤30):¬eD m key = emp:=fun e=>by
 have:=congrArg ByteArray.size e
 rw[eD,if_pos ⟨h,hk⟩,ByteArray.size_append,zX]at this
 have h0:emp.size = 0:=by decide
 omega
theorem Rd{m:Message}{key:ByteArray}(h:¬(bP m∧key.size≤30)):eD m key = emp:=by rw[eD,if_neg h]
theorem Jt{xs:List Parcel}{ms:List Message}{key:ByteArray}{n:Nat}{m:Message}(h:ms[n]? = some m)(h1:bP m)(h2:key.size≤30)(h3:(ic xs ms key n).length < 2000) :
 (ic xs ms key n).map bv++ [bv ⟨m.to,eD m key,eD m key⟩] = (ic xs ms key (n+1)).map bv:=by
 rw[qC h,qB,if_pos ⟨h1,h2,h3⟩,List.map_append];rfl
theorem tb{xs:List Parcel}{ms:List Message}{key:ByteArray}{n:Nat}{m:Message}(h:ms[n]? = some m)(h1:¬(bP m∧key.size≤30∧(ic xs ms key n).length < 2000)) :
 (ic xs ms key n).map bv = (ic xs ms key (n+1)).map bv:=by
 rw[qC h,qB,if_neg h1]
theorem IM(xs:List Parcel)(ms:List Message)(key:ByteArray)(hx:xs.length≤1048576)(hl:ms.length≤1048576)(hm:∀ m∈ms,m.inputs.length≤1048576):F H6 [.val (.t (vV xs)),.val (.t (.slc cO (ms.map aI))),.val (.s key)] (.own pkd ((sC xs ms key).map bv)) [[],[],[]]:=by
 refine Io ?_
 conv=>whnf
 refine g 0 0 []<|J UA<|g 11 13 [.call (V.own pkd (List.map bv xs)) [[]]]<|J ⟨I,⟨UA,I,US,UA,dI _ OM⟩,I,I⟩<|W.sq<|g 0 0 []<|J UC<|W.blk<|W.lp (fun s (n:Nat)=>⟨[(0,s.s 0),(1,s.s 1),(2,s.s 2),(6,s.s 6),(7,.ref ⟨12,none,0⟩),(13,s.s 13),(14,s.s 14),(15,.i n)],[(12,[.own pkd ((ic xs ms key n).map bv)])],[]⟩) (fun(n:Nat)=>n≤ms.length) (fun(n:Nat)=>ms.length - n) (0) [some 12] [] ⟨rfl,Zat,Zdq,I⟩ OM ?_
 intro n hn
 have hpl:=sD ms key hx n
 by_cases hn2:n < ms.length
 ·obtain⟨m,hm1⟩:=af hn2
  have hmi:=hm m (List.mem_of_getElem? hm1)
  have cv:=cL m OM
  have cf:=qi m key OM
  by_cases hv:bP m
  ·rw[decide_eq_true hv]at cv
   by_cases hk:key.size≤30
   ·by_cases h3:(ic xs ms key n).length < 2000
    ·conv=>whnf
     refine g 0 0 []<|J UA<|W.sq<|W.cn<|J (fun _=>(W.skip (W.sq (W.blk (g 16 19 [.x (aI m)]<|J ⟨Zdl,I,I,UH,I⟩ (g 19 30 [.call VT [[]],BT,BT,BT,BT,BT,BT,BT,BT]<|J ⟨I,Zcb,I,Zdh,Zdh,Zdh,rfl,I,⟨tO,I⟩,⟨tO,I⟩,⟨tO,I⟩,tO,I⟩ (W.cn<|J (fun h1=>?_) fun h1=>?_))))))) (noF SI)
     replace h1:=dt h1
     simp only[LM]at h1
     refine g 30 34 [.call (V.s (eD m key)) [[],[]]]<|J ⟨I,I,Zc7,I,I⟩<|rg []<|J ⟨I,I,I,I,I,I,⟨UC,I⟩,Zdm,I,I⟩<|rg [.i ((n:Int) +1)]<|J Zdn ?_
     rotate_left
     replace h1:=df h1
     simp only[LM]at h1
     omega
     refine⟨n+1,[some 41],[],⟨rfl,Zat,⟨⟨rfl,⟨(congrArg (V.own _) (Jt hm1 hv hk h3)),I⟩⟩,I⟩,I⟩,?_,?_⟩
     rotate_left
     (dsimp only;omega)
     dsimp only
     omega
    ·conv=>whnf
     refine g 0 0 []<|J UA<|W.sq<|W.cn<|J (fun _=>(W.skip (W.sq (W.blk (g 16 19 [.x (aI m)]<|J ⟨Zdl,I,I,UH,I⟩ (g 19 30 [.call VT [[]],BT,BT,BT,BT,BT,BT,BT,BT]<|J ⟨I,Zcb,I,Zdh,Zdh,Zdh,rfl,I,⟨tO,I⟩,⟨tO,I⟩,⟨tO,I⟩,tO,I⟩ (W.cn<|J (fun h1=>?_) fun h1=>?_))))))) (noF SI)
     replace h1:=dt h1
     simp only[LM]at h1
     omega
     replace h1:=df h1
     simp only[LM]at h1
     refine W.skip<|rg [.i ((n:Int) +1)]<|J Zdn ?_
     refine⟨n+1,[some 12],[],⟨rfl,Zat,⟨⟨rfl,⟨(congrArg (V.own _) (tb hm1 (fun q=>h3 q.2.2))),I⟩⟩,I⟩,I⟩,?_,?_⟩
     rotate_left
     (dsimp only;omega)
     dsimp only
     omega
   ·conv=>whnf
    refine g 0 0 []<|J UA<|W.sq<|W.cn<|J (fun _=>(W.skip (W.sq (W.blk (g 16 19 [.x (aI m)]<|J ⟨Zdl,I,I,UH,I⟩ (g 19 30 [.call VT [[]],BT,BT,BT,BT,BF,BF,BF,BF]<|J ⟨I,Zcb,I,Zdh,Zdh,Zdh,rfl,I,dO,dO,dO,dO,I⟩ (W.cn<|J (noT rfl) fun _=>(W.skip (rg [.i ((n:Int) +1)]<|J Zdn ?_))))))))) (noF SI)
    refine⟨n+1,[some 12],[],⟨rfl,Zat,⟨⟨rfl,⟨(congrArg (V.own _) (tb hm1 (fun q=>hk q.2.1))),I⟩⟩,I⟩,I⟩,?_,?_⟩
    rotate_left
    (dsimp only;omega)
    dsimp only
    omega
  ·rw[decide_eq_false hv]at cv
   conv=>whnf
   refine g 0 0 []<|J UA<|W.sq<|W.cn<|J (fun _=>(W.skip (W.sq (W.blk (g 16 19 [.x (aI m)]<|J ⟨Zdl,I,I,UH,I⟩ (g 19 30 [.call VF [[]],BF,BF,BF,BF,BF,BF,BF,BF]<|J ⟨I,Zcb,I,rfl,rfl,rfl,rfl,I,rfl,rfl,rfl,rfl,I⟩ (W.cn<|J (noT rfl) fun _=>(W.skip (rg [.i ((n:Int) +1)]<|J Zdn ?_))))))))) (noF SI)
   refine⟨n+1,[some 12],[],⟨rfl,Zat,⟨⟨rfl,⟨(congrArg (V.own _) (tb hm1 (fun q=>hv q.1))),I⟩⟩,I⟩,I⟩,?_,?_⟩
   rotate_left
   (dsimp only;omega)
   dsimp only
   omega
 ·conv=>whnf
  refine g 0 0 []<|J UA<|W.sq<|W.cn<|J (noT SI) fun _=>W.exit<|g 7 44 []<|J UB<|RT ?_
  rw[sC,show n = ms.length by omega]
theorem II(xs:List Parcel)(ms:List Message)(key:ByteArray)(hx:xs.length≤1048576)(hl:ms.length≤1048576)(hm:∀ m∈ms,m.inputs.length≤1048576):F HX [.val (.t (vV xs)),.val (.t (.slc cO (ms.map aI))),.val (.s key)] (.own pkd ((sC xs ms key).map bv)) [[],[],[]]:=by
 refine Ij ?_
 conv=>whnf
 refine g 0 0 []<|J UA<|g 10 12 [.call (V.own pkd (List.map bv xs)) [[]]]<|J ⟨I,⟨UA,I,US,UA,dG _ OM⟩,I,I⟩<|W.sq<|g 0 0 []<|J UA<|W.blk<|W.lp (fun s (n:Nat)=>⟨[(0,s.s 0),(1,s.s 1),(2,s.s 2),(6,s.s 6),(7,.ref ⟨11,none,0⟩),(8,.i n)],[(11,[.own pkd ((ic xs ms key n).map bv)])],[]⟩) (fun(n:Nat)=>n≤ms.length) (fun(n:Nat)=>ms.length - n) (0) [some 11] [] ⟨rfl,Za0,Zdq,I⟩ OM ?_
 intro n hn
 have hpl:=sD ms key hx n
 by_cases hn2:n < ms.length
 ·obtain⟨m,hm1⟩:=af hn2
  have hmi:=hm m (List.mem_of_getElem? hm1)
  have cf:=gg m key OM
  by_cases hv:bP m∧key.size≤30
  ·have hf:=OC hv.1 hv.2
   by_cases h3:(ic xs ms key n).length < 2000
   ·conv=>whnf
    refine W.sq<|g 12 15 []<|J UD<|W.cn<|J (fun _=>(W.skip (W.sq (W.blk (g 15 24 [.x (aI m),.call (V.s (eD m key)) [[],[]]]<|J ⟨I,I,Zdl,I,I,Zc7,I,I⟩ (g 24 30 [BT,BT,BT,BT]<|J ⟨I,I,I,Zah,Zah,Zah,ag OM,I⟩ (W.cn<|J (fun h1=>?_) fun h1=>?_))))))) (noF SI)
    replace h1:=dt h1
    simp only[LM]at h1
    refine rg [.x (aI m)]<|J ⟨I,I,I,Zdl,I,I,I,I,I,⟨UC,I⟩,Zdm,I,I⟩<|rg [.i ((n:Int) +1)]<|J Zdi ?_
    rotate_left
    replace h1:=df h1
    simp only[LM]at h1
    omega
    refine⟨n+1,[some 41],[],⟨rfl,Za0,⟨⟨rfl,⟨(congrArg (V.own _) (Jt hm1 hv.1 hv.2 h3)),I⟩⟩,I⟩,I⟩,?_,?_⟩
    rotate_left
    (dsimp only;omega)
    dsimp only
    omega
   ·conv=>whnf
    refine W.sq<|g 12 15 []<|J UD<|W.cn<|J (fun _=>(W.skip (W.sq (W.blk (g 15 24 [.x (aI m),.call (V.s (eD m key)) [[],[]]]<|J ⟨I,I,Zdl,I,I,Zc7,I,I⟩ (g 24 30 [BT,BT,BT,BT]<|J ⟨I,I,I,Zah,Zah,Zah,ag OM,I⟩ (W.cn<|J (fun h1=>?_) fun h1=>?_))))))) (noF SI)
    replace h1:=dt h1
    simp only[LM]at h1
    omega
    replace h1:=df h1
    simp only[LM]at h1
    refine W.skip<|rg [.i ((n:Int) +1)]<|J Zdi ?_
    refine⟨n+1,[some 11],[],⟨rfl,Za0,⟨⟨rfl,⟨(congrArg (V.own _) (tb hm1 (fun q=>h3 q.2.2))),I⟩⟩,I⟩,I⟩,?_,?_⟩
    rotate_left
    (dsimp only;omega)
    dsimp only
    omega
  ·rw[Rd hv]at cf
   conv=>whnf
   refine W.sq<|g 12 15 []<|J UD<|W.cn<|J (fun _=>(W.skip (W.sq (W.blk (g 15 24 [.x (aI m),.call (V.s emp) [[],[]]]<|J ⟨I,I,Zdl,I,I,Zc7,I,I⟩ (g 24 30 [BF,BF,BF,BF]<|J ⟨I,I,I,rfl,rfl,rfl,rfl,I⟩ (W.cn<|J (noT rfl) fun _=>(W.skip (rg [.i ((n:Int) +1)]<|J Zdi ?_))))))))) (noF SI)
   refine⟨n+1,[some 11],[],⟨rfl,Za0,⟨⟨rfl,⟨(congrArg (V.own _) (tb hm1 (fun q=>hv ⟨q.1,q.2.1⟩))),I⟩⟩,I⟩,I⟩,?_,?_⟩
   rotate_left
   (dsimp only;omega)
   dsimp only
   omega
 ·conv=>whnf
  refine W.sq<|g 12 15 []<|J UD<|W.cn<|J (noT SI) fun _=>W.exit<|g 7 43 []<|J UB<|RT ?_
  rw[sC,show n = ms.length by omega]
end Go.K
end
section
open Go Go.Tm Go.Proofs
namespace Go.K
def sF(p:Parcel):Prop:=p.frm.size≤9223372036854775807∧p.text.size≤9223372036854775807
abbrev bz(p:Parcel):List T:=bv p
theorem N3{n:Nat}{x:List T}(h:wfT E (n+3) yp x):∃ v:Parcel,x = bv v∧sF v:=by
 obtain⟨y1,z1,e1,⟨k,rfl,_⟩,y2,z2,e2,⟨a,rfl,ha⟩,y3,z3,e3,⟨b,rfl,hb⟩,e4⟩:=h
 subst e4;subst e3;subst e2;subst e1
 exact⟨⟨k,a,b⟩,rfl,ha,hb⟩
end Go.K
end
section
open Go Go.Tm Go.Proofs
namespace Go.K
abbrev jY:List Bool:=pkd
def eM(x:Parcel):Int:=(x.frm.size:Int) + (x.text.size:Int)
theorem gx(x:Parcel):0≤eM x:=by
 simp only[eM];omega
theorem Be:∀ xs:List Parcel,jc xs = ak eM xs
 |[]=>rfl
 |x :: xs=>by have:=Be xs;simp only[jc,ak,eM]at *;omega
theorem xV(xs:List Int)(k:Int)(hl:xs.length≤9223372036854775806)(h0:0≤k)(hk:k+xs.length≤1099511627776):F wM [.val (.t (.slc [false] ((mkL (fun k _=>k) (fun _=>1) k xs).map dR))),.val (.i k)] (.i (k+xs.length)) [[],[]]:=by
 have hx:=fw (fun k _=>k) (fun _=>1) k xs
 refine xn ?_
 conv=>whnf
 refine g 0 0 []<|J UA<|W.sq<|g 0 0 []<|J UA<|W.blk<|W.lp (fun s (n:Nat)=>⟨[(0,s.s 0),(1,.i (k+n)),(5,.i n)],[],[]⟩) (fun(n:Nat)=>n≤xs.length) (fun(n:Nat)=>xs.length - n) (0) [] [] ⟨rfl,⟨rfl,(congrArg (fun z=>V.t (T.v (Value.int _ z))) (by simp[ak])),rfl,I⟩,I,I⟩ OM ?_
 intro n hn
 have hs1:∀ x,xs[n]? = some x→(mkL (fun k _=>k) (fun _=>1) k xs)[n]? = some (k+n):=fun x hx=>by
  have:=jZ (f:=(fun k _=>k)) (c:=(fun _=>1)) (k:=k) hx
  rw[sY,List.length_take,Nat.min_eq_left hn]at this;exact this
 conv=>whnf
 refine W.sq<|g 6 9 []<|J UD<|W.cn<|J (fun h1=>?_) fun h1=>?_
 replace h1:=dt h1
 simp only[LM]at h1
 refine W.skip<|W.sq<|W.blk<|W.sq ?_
 obtain⟨y1,hy1⟩:=af (xs:=xs) (n:=n) OM
 have hk1:=hs1 _ hy1
 refine g 9 17 [.x (dR (k+ (n:Int)))]<|J ⟨I,I,Zdl,I,I,I,I⟩<|W.cn<|J (noT nO) fun _=>W.skip<|rg [.i (k+ (n:Int) +1)]<|J Zdi<|rg [.i ((n:Int) +1)]<|J Zdi ?_
 rotate_left
 replace h1:=df h1
 simp only[LM]at h1
 refine W.exit<|g 5 21 []<|J UB<|RT ?_
 exact vi OM
 refine⟨n+1,[],[],⟨rfl,⟨rfl,(congrArg (fun z=>V.t (T.v (Value.int _ z))) OM),rfl,I⟩,I,I⟩,?_,?_⟩
 rotate_left
 (dsimp only;omega)
 dsimp only
 omega
theorem uM(xs:List Task)(k:Int)(hl:xs.length≤9223372036854775806)(h0:0≤k)(hk:k+ak cJ xs≤1099511627776):F tC [.val (.t (.slc dg ((mkL ja cJ k xs).map ay))),.val (.i k)] (.i (k+ak cJ xs)) [[],[]]:=by
 have hx:=fw ja cJ k xs
 refine ui ?_
 conv=>whnf
 refine g 0 0 []<|J UA<|W.sq<|g 0 0 []<|J UA<|W.blk<|W.lp (fun s (n:Nat)=>⟨[(0,s.s 0),(1,.i (k+ak cJ (xs.take n))),(5,.i n)],[],[]⟩) (fun(n:Nat)=>n≤xs.length) (fun(n:Nat)=>xs.length - n) (0) [] [] ⟨rfl,⟨rfl,(congrArg (fun z=>V.t (T.v (Value.int _ z))) (by simp[ak])),rfl,I⟩,I,I⟩ OM ?_
 intro n hn
 have hq:=aJ fK (xs.take n)
 have hle:=dE fK xs (n+1)
 have hle0:=dE fK xs n
 conv=>whnf
 refine W.sq<|g 6 9 []<|J UD<|W.cn<|J (fun h1=>?_) fun h1=>?_
 replace h1:=dt h1
 simp only[LM]at h1
 refine W.skip<|W.sq<|W.blk<|W.sq ?_
 obtain⟨y1,hy1⟩:=af (xs:=xs) (n:=n) OM
 have hk1:=bD (f:=cJ) hy1
 have hk2:=fK y1
 have hk3:=Bg y1
 have hk4:=jZ (f:=ja) (c:=cJ) (k:=k) hy1
 refine gd 9 19 [[],[],[.x (ay (ja (k+ak cJ (List.take n xs)) y1))],[],[],[],[.call (V.s (bG (k+ak cJ (List.take n xs)))) [[]]],[]] ?_
 conv=>whnf
 refine J ⟨I,I,Zdl,I,I,I,⟨UA,I,US,UA,bn _ OM⟩,I,I⟩<|J KR<|W.cn<|J (noT (ea rfl)) fun _=>W.skip<|g 19 22 [.i (k+ak cJ (List.take n xs) +1)]<|J Zdi<|W.sq<|g 22 28 [.x (ay (ja (k+ak cJ (List.take n xs)) y1))]<|J Zbq<|W.cn<|J (noT (ea rfl)) fun _=>W.skip<|g 28 31 [.i (k+ak cJ (List.take n xs) +1+1)]<|J Zdi<|g 31 38 [.x (ay (ja (k+ak cJ (List.take n xs)) y1)),.call (V.i (k+ak cJ (List.take n xs) +1+1+ (↑(List.length y1.deps):Int))) [[],[]]]<|J ⟨I,I,Zdl,I,I,I,⟨UB,I,UT,UA,xV _ _ OM OM OM⟩,I,I⟩<|g 38 39 []<|J UB<|W.cn<|J (noT dO) fun _=>?_
 refine W.skip<|rg [.i ((n:Int) +1)]<|J Zdi ?_
 rotate_left
 replace h1:=df h1
 simp only[LM]at h1
 refine W.exit<|g 5 41 []<|J UB<|RT ?_
 rotate_left
 ·refine⟨n+1,[],[],⟨rfl,⟨rfl,(congrArg (fun z=>V.t (T.v (Value.int _ z))) (by rw[bD AS];omega)),rfl,I⟩,I,I⟩,?_,?_⟩
  rotate_left
  (dsimp only;omega)
  dsimp only
  omega
 ·rw[aF OM]
theorem xT(x:Plan)(k:Int)(hl:x.tasks.length≤9223372036854775806)(h0:0≤k)(hk:k+bb x≤1099511627776):F wK [.val (cR (Ah k x)),.val (.i k)] (.i (k+bb x)) [[],[]]:=by
 have hn0:=aJ fK x.tasks
 have hz:bb x = ak cJ x.tasks:=rfl
 refine xi ?_
 conv=>whnf
 refine g 0 1 []<|J Zdt<|g 5 9 [.call (V.i (k+ak cJ x.tasks)) [[],[]]]<|J ⟨I,I,I,⟨UB,I,UT,UA,uM _ _ OM OM OM⟩,I,I⟩<|W.sq<|g 2 3 []<|J UB<|W.cn<|J (noT dO) fun _=>W.skip<|g 9 12 []<|J UB<|RT ?_
 rfl
def ai(x:Worker):Int:=10+ (x.inputs.length:Int)
theorem zJ(x:Worker):ai x = 10+ (x.inputs.length:Int):=rfl
theorem dh(x:Worker):0≤ai x:=by
 simp only[ai];omega
def cN(k:Int)(x:Worker):Worker:=⟨k,k+1,decide (Int.tmod (k+1+1) 3 = 0),k+1+1+1,k+1+1+1+1,k+1+1+1+1+1,k+1+1+1+1+1+1,k+1+1+1+1+1+1+1,mkL (fun k _=>bG k) (fun _=>1) (k+1+1+1+1+1+1+1+1) x.inputs,bG (k+1+1+1+1+1+1+1+1+x.inputs.length),k+1+1+1+1+1+1+1+1+x.inputs.length+1⟩
def aR(x:Parcel):Int:=3
theorem Am(x:Parcel):aR x = 3:=rfl
theorem dQ(x:Parcel):0≤aR x:=by
 simp only[aR];omega
def eN(k:Int)(x:Parcel):Parcel:=⟨k,bG (k+1),bG (k+1+1)⟩
theorem uI(xs:List Worker)(left:Int)(hl:xs.length≤9223372036854775807)(hs:∀ y∈xs,lY y)(h:left≤1048576)(h0:0≤left):F tp [.val (.t (.slc cB (xs.map ar))),.val (.i left)] (.i (if left - (xs.length+ak aS xs) < 0 then -1 else left - (xs.length+ak aS xs))) [[],[]]:=by
 have hnn:=aJ cg xs
 refine ua ?_
 conv=>whnf
 refine g 0 0 []<|J UA<|g 6 10 [.i (left - (↑(List.length (List.map ar xs)):Int))]<|J ⟨I,I,I,w64 LN LN,I,I⟩<|W.sq<|g 10 11 []<|J UB<|W.cn<|J (fun h1=>?_) fun h1=>?_
 replace h1:=dt h1
 simp only[LM]at h1
 refine g 11 12 []<|J UA<|RT ?_
 exact vi OM
 replace h1:=df h1
 simp only[LM]at h1
 refine W.skip<|W.sq<|g 11 12 []<|J UA<|W.blk ?_
 refine W.lp (fun s (n:Nat)=>⟨[(0,s.s 0),(1,.i (left - xs.length - ak aS (xs.take n))),(5,.i n)],[],[]⟩) (fun(n:Nat)=>n≤xs.length∧0≤left - xs.length - ak aS (xs.take n)) (fun(n:Nat)=>xs.length - n) (0) [] [] ⟨rfl,⟨rfl,(congrArg (fun z=>V.t (T.v (Value.int _ z))) (by simp[ak])),rfl,I⟩,I,I⟩ ?_ ?_
 ·simp[ak];omega
 rintro n ⟨hn,hc⟩
 have hq:=aJ cg (xs.take n)
 have hle:=dE cg xs (n+1)
 conv=>whnf
 refine W.sq<|g 12 15 []<|J UD<|W.cn<|J (fun h2=>?_) fun h2=>?_
 replace h2:=dt h2
 simp only[LM]at h2
 refine W.skip<|W.sq<|W.blk ?_
 obtain⟨y1,hy1⟩:=af (xs:=xs) (n:=n) OM
 have hm1:=hs y1 (List.mem_of_getElem? hy1)
 have hk1:=bD (f:=aS) hy1
 have hk2:=cg y1
 refine g 15 24 [.x (ar y1),.call (V.i (if left - (↑xs.length:Int) - ak aS (List.take n xs) - aS y1 < 0 then(-1)else left - (↑xs.length:Int) - ak aS (List.take n xs) - aS y1)) [[],[]]]<|J ⟨I,I,Zdl,I,I,⟨UB,I,⟨UK,UA,I⟩,UA,xN _ _ OM OM OM⟩,I,I⟩<|g 24 25 []<|J UB<|W.cn<|J (fun h3=>?_) fun h3=>?_
 replace h3:=dt h3
 refine g 25 26 []<|J UA<|RT ?_
 exact vi OM
 replace h3:=df h3
 refine W.skip<|rg [.i ((n:Int) +1)]<|J Zdi ?_
 rotate_left
 replace h2:=df h2
 simp only[LM]at h2
 refine W.exit<|g 5 27 []<|J UB<|RT ?_
 rotate_left
 ·refine⟨n+1,[],[],⟨rfl,⟨rfl,(congrArg (fun z=>V.t (T.v (Value.int _ z))) (by rw[bD AS];omega)),rfl,I⟩,I,I⟩,?_,?_⟩
  rotate_left
  (dsimp only;omega)
  dsimp only
  omega
 ·have e:xs.take n = xs:=aF OM
  rw[e]at hc ⊢
  exact vi (by split <;> omega)
theorem uG(xs:List Worker)(h:(xs.length:Int) +ak aS xs≤1048576):F tl [.val (.t (.slc cB (xs.map ar)))] (.own cB (xs.map ar)) [[]]:=by
 have hnn:=aJ cg xs
 refine tZ ?_
 conv=>whnf
 refine g 0 0 []<|J UA<|g 5 8 [.n (List.length (List.map ar xs))]<|J Zcu<|W.sq<|g 0 0 []<|J UA<|W.blk<|W.lp (fun s (n:Nat)=>⟨[(0,s.s 0),(2,s.s 2),(3,s.s 3),(4,.i n)],[(7,[.own cB (fill ar (ar iK) xs n)])],[]⟩) (fun(n:Nat)=>n≤xs.length) (fun(n:Nat)=>xs.length - n) (0) [some 7] [] ⟨rfl,Zay,⟨⟨rfl,⟨(congrArg (V.own _) (fB (by simp) rfl)),I⟩⟩,I⟩,I⟩ OM ?_
 intro n hn
 conv=>whnf
 refine W.sq<|g 0 0 []<|J UD<|W.cn<|J (fun h1=>?_) fun h1=>?_
 replace h1:=dt h1
 simp only[LM]at h1
 refine W.skip<|W.sq<|W.blk ?_
 obtain⟨y1,hy1⟩:=af (xs:=xs) (n:=n) OM
 have hk1:=gW cg (List.mem_of_getElem? hy1)
 refine rg [.x (ar y1),.call (aD y1) [[]],.n (n),.x (ar iK)]<|J ⟨I,I,I,I,Zdl,I,⟨UA,I,⟨UK,I⟩,UA,xK _ OM⟩,Zdj,⟨UK,gT OM⟩,I⟩<|rg [.i ((n:Int) +1)]<|J Zdi ?_
 rotate_left
 replace h1:=df h1
 simp only[LM]at h1
 refine W.exit<|g 3 23 []<|J UB<|RT ?_
 rotate_left
 ·refine⟨n+1,[some 7],[],⟨rfl,Zay,⟨⟨rfl,⟨(congrArg (V.own _) (gS AS)),I⟩⟩,I⟩,I⟩,?_,?_⟩
  rotate_left
  (dsimp only;omega)
  dsimp only
  omega
 ·have e:fill ar (ar iK) xs n = xs.map ar:=gU _ _ _ OM
  rw[←e]
theorem uP(xs ys:List Worker)(hl:xs.length≤9223372036854775806)(hs:∀ y∈xs,iv y):F tF [.val (.t (.slc cB (xs.map ar))),.val (.t (.slc cB (ys.map ar)))] (.b (decide (xs = ys))) [[],[]]:=by
 refine ul ?_
 conv=>whnf
 refine g 0 0 []<|J UA<|W.sq<|g 6 10 []<|J UE<|W.cn<|J (fun h1=>?_) fun h1=>?_
 replace h1:=ndt h1
 simp only[LM]at h1
 refine g 10 11 []<|J UA<|RT ?_
 rotate_left
 replace h1:=ndf h1
 simp only[LM]at h1
 refine W.skip<|W.sq<|g 10 11 []<|J UA<|W.blk ?_
 rotate_left
 ·exact vbf (fun e=>h1 (by rw[e]))
 refine W.lp (fun s (n:Nat)=>⟨[(0,s.s 0),(1,s.s 1),(5,.i n)],[],[]⟩) (fun(n:Nat)=>n≤xs.length∧xs.take n = ys.take n) (fun(n:Nat)=>xs.length - n) (0) [] [] Zbe (by simp) ?_
 rintro n ⟨hn,hc⟩
 conv=>whnf
 refine W.sq<|g 11 14 []<|J UD<|W.cn<|J (fun h2=>?_) fun h2=>?_
 replace h2:=dt h2
 simp only[LM]at h2
 refine W.skip<|W.sq<|W.blk ?_
 obtain⟨y1,hy1⟩:=af (xs:=xs) (n:=n) OM
 have hm1:=hs y1 (List.mem_of_getElem? hy1)
 obtain⟨y2,hy2⟩:=af (xs:=ys) (n:=n) OM
 refine gd 14 26 [[],[],[.x (ar y1)],[],[],[],[.x (ar y2)],[],[.call (V.b (decide (y1 = y2))) [[],[]]],[]] ?_
 conv=>whnf
 refine J ⟨I,I,Zdl,I,I,I,Zdl,I,⟨UB,I,⟨UK,UK,I⟩,UA,xX _ _ OM⟩,I,I⟩<|J KR<|W.cn<|J (fun h3=>?_) fun h3=>?_
 replace h3:=ndt h3
 refine g 26 27 []<|J UA<|RT ?_
 rotate_left
 replace h3:=ndf h3
 refine W.skip<|rg [.i ((n:Int) +1)]<|J Zdi ?_
 rotate_left
 replace h2:=df h2
 simp only[LM]at h2
 refine W.exit<|g 0 2 []<|J UA<|RT ?_
 rotate_left
 ·exact vbf (fun e=>by subst e;rw[hy1]at hy2;cases hy2;exact h3 rfl)
 ·refine⟨n+1,[],[],Zbe,?_,?_⟩
  rotate_left
  (dsimp only;omega)
  dsimp only
  exact⟨by omega,jT hc hy1 (by rw[hy2];exact congrArg some (Eq.symm h3))⟩
 ·exact vbt (by rw[aF OM,aF OM]at hc;exact hc)
theorem qd(xs:List Worker)(k:Int)(hl:xs.length≤9223372036854775806)(h0:0≤k)(hk:k+ak ai xs≤1099511627776):F pI [.bor (.own cB (xs.map ar)),.val (.i k)] (.i (k+ak ai xs)) [[.own cB ((mkL cN ai k xs).map ar)],[]]:=by
 refine pX ?_
 conv=>whnf
 refine g 0 0 []<|J UA<|W.sq<|g 0 0 []<|J UA<|W.blk<|W.lp (fun s (n:Nat)=>⟨[(0,s.s 0),(1,.i (k+ak ai (xs.take n))),(4,s.s 4),(5,.i n)],[(93,[.own cB ((mkN cN ai k xs n).map ar)])],[]⟩) (fun(n:Nat)=>n≤xs.length) (fun(n:Nat)=>xs.length - n) (0) [some 93] [] ⟨rfl,⟨rfl,(congrArg (fun z=>V.t (T.v (Value.int _ z))) (by simp[ak])),rfl,rfl,I⟩,Zdq,I⟩ OM ?_
 intro n hn
 have hx:=lj cN ai k xs n
 have hq:=aJ dh (xs.take n)
 have hle:=dE dh xs (n+1)
 have hle0:=dE dh xs n
 conv=>whnf
 refine W.sq<|g 6 9 []<|J UD<|W.cn<|J (fun h1=>?_) fun h1=>?_
 replace h1:=dt h1
 simp only[LM]at h1
 refine W.skip<|W.sq<|W.blk ?_
 obtain⟨y1,hy1⟩:=af (xs:=xs) (n:=n) OM
 have hk1:=bD (f:=ai) hy1
 have hk2:=dh y1
 have hk3:=zJ y1
 refine g 9 17 [.n (n),.x (ar y1)]<|J ⟨I,I,I,Zdj,I,⟨UA,iQ AS⟩,I⟩<|g 17 19 [.i (k+ak ai (List.take n xs) +1)]<|J Zdi<|g 19 24 [.n (n),.x (aM (ar y1) (0+0) [T.v (Value.int IntKind.i64 (k+ak ai (List.take n xs)))])]<|J ⟨I,I,I,Zdj,I,⟨UA,bS LN⟩,I⟩ ?_
 rw[List.set_set]
 refine g 24 26 [.i (k+ak ai (List.take n xs) +1+1)]<|J Zdi<|g 26 33 [.i (Int.tmod (k+ak ai (List.take n xs) +1+1) 3),.n (n),.x (aM (aM (ar y1) (0+0) [T.v (Value.int IntKind.i64 (k+ak ai (List.take n xs)))]) (0+1) [T.v (Value.int IntKind.i64 (k+ak ai (List.take n xs) +1))])]<|J ⟨I,I,I,Zds,I,Zdj,I,⟨UA,bS LN⟩,I⟩ ?_
 rw[List.set_set]
 refine g 33 35 [.i (k+ak ai (List.take n xs) +1+1+1)]<|J Zdi<|g 35 40 [.n (n),.x (aM (aM (aM (ar y1) (0+0) [T.v (Value.int IntKind.i64 (k+ak ai (List.take n xs)))]) (0+1) [T.v (Value.int IntKind.i64 (k+ak ai (List.take n xs) +1))]) (0+2) [T.v (Value.bool (decide (Int.tmod (k+ak ai (List.take n xs) +1+1) 3 = 0)))])]<|J ⟨I,I,I,Zdj,I,⟨UA,bS LN⟩,I⟩ ?_
 rw[List.set_set]
 refine g 40 42 [.i (k+ak ai (List.take n xs) +1+1+1+1)]<|J Zdi<|g 42 47 [.n (n),.x (aM (aM (aM (aM (ar y1) (0+0) [T.v (Value.int IntKind.i64 (k+ak ai (List.take n xs)))]) (0+1) [T.v (Value.int IntKind.i64 (k+ak ai (List.take n xs) +1))]) (0+2) [T.v (Value.bool (decide (Int.tmod (k+ak ai (List.take n xs) +1+1) 3 = 0)))]) (0+3) [T.v (Value.int IntKind.i64 (k+ak ai (List.take n xs) +1+1+1))])]<|J ⟨I,I,I,Zdj,I,⟨UA,bS LN⟩,I⟩ ?_
 rw[List.set_set]
 refine g 47 49 [.i (k+ak ai (List.take n xs) +1+1+1+1+1)]<|J Zdi<|g 49 54 [.n (n),.x (aM (aM (aM (aM (aM (ar y1) (0+0) [T.v (Value.int IntKind.i64 (k+ak ai (List.take n xs)))]) (0+1) [T.v (Value.int IntKind.i64 (k+ak ai (List.take n xs) +1))]) (0+2) [T.v (Value.bool (decide (Int.tmod (k+ak ai (List.take n xs) +1+1) 3 = 0)))]) (0+3) [T.v (Value.int IntKind.i64 (k+ak ai (List.take n xs) +1+1+1))]) (0+4) [T.v (Value.int IntKind.i64 (k+ak ai (List.take n xs) +1+1+1+1))])]<|J ⟨I,I,I,Zdj,I,⟨UA,bS LN⟩,I⟩ ?_
 rw[List.set_set]
 refine g 54 56 [.i (k+ak ai (List.take n xs) +1+1+1+1+1+1)]<|J Zdi<|g 56 61 [.n (n),.x (aM (aM (aM (aM (aM (aM (ar y1) (0+0) [T.v (Value.int IntKind.i64 (k+ak ai (List.take n xs)))]) (0+1) [T.v (Value.int IntKind.i64 (k+ak ai (List.take n xs) +1))]) (0+2) [T.v (Value.bool (decide (Int.tmod (k+ak ai (List.take n xs) +1+1) 3 = 0)))]) (0+3) [T.v (Value.int IntKind.i64 (k+ak ai (List.take n xs) +1+1+1))]) (0+4) [T.v (Value.int IntKind.i64 (k+ak ai (List.take n xs) +1+1+1+1))]) (0+5) [T.v (Value.int IntKind.i64 (k+ak ai (List.take n xs) +1+1+1+1+1))])]<|J ⟨I,I,I,Zdj,I,⟨UA,bS LN⟩,I⟩ ?_
 rw[List.set_set]
 refine g 61 63 [.i (k+ak ai (List.take n xs) +1+1+1+1+1+1+1)]<|J Zdi<|g 63 68 [.n (n),.x (aM (aM (aM (aM (aM (aM (aM (ar y1) (0+0) [T.v (Value.int IntKind.i64 (k+ak ai (List.take n xs)))]) (0+1) [T.v (Value.int IntKind.i64 (k+ak ai (List.take n xs) +1))]) (0+2) [T.v (Value.bool (decide (Int.tmod (k+ak ai (List.take n xs) +1+1) 3 = 0)))]) (0+3) [T.v (Value.int IntKind.i64 (k+ak ai (List.take n xs) +1+1+1))]) (0+4) [T.v (Value.int IntKind.i64 (k+ak ai (List.take n xs) +1+1+1+1))]) (0+5) [T.v (Value.int IntKind.i64 (k+ak ai (List.take n xs) +1+1+1+1+1))]) (0+6) [T.v (Value.int IntKind.i64 (k+ak ai (List.take n xs) +1+1+1+1+1+1))])]<|J ⟨I,I,I,Zdj,I,⟨UA,bS LN⟩,I⟩ ?_
 rw[List.set_set]
 refine g 68 70 [.i (k+ak ai (List.take n xs) +1+1+1+1+1+1+1+1)]<|J Zdi<|g 70 77 [.n (n),.x (aM (aM (aM (aM (aM (aM (aM (aM (ar y1) (0+0) [T.v (Value.int IntKind.i64 (k+ak ai (List.take n xs)))]) (0+1) [T.v (Value.int IntKind.i64 (k+ak ai (List.take n xs) +1))]) (0+2) [T.v (Value.bool (decide (Int.tmod (k+ak ai (List.take n xs) +1+1) 3 = 0)))]) (0+3) [T.v (Value.int IntKind.i64 (k+ak ai (List.take n xs) +1+1+1))]) (0+4) [T.v (Value.int IntKind.i64 (k+ak ai (List.take n xs) +1+1+1+1))]) (0+5) [T.v (Value.int IntKind.i64 (k+ak ai (List.take n xs) +1+1+1+1+1))]) (0+6) [T.v (Value.int IntKind.i64 (k+ak ai (List.take n xs) +1+1+1+1+1+1))]) (0+7) [T.v (Value.int IntKind.i64 (k+ak ai (List.take n xs) +1+1+1+1+1+1+1))]),.x (aM (aM (aM (aM (aM (aM (aM (aM (ar y1) (0+0) [T.v (Value.int IntKind.i64 (k+ak ai (List.take n xs)))]) (0+1) [T.v (Value.int IntKind.i64 (k+ak ai (List.take n xs) +1))]) (0+2) [T.v (Value.bool (decide (Int.tmod (k+ak ai (List.take n xs) +1+1) 3 = 0)))]) (0+3) [T.v (Value.int IntKind.i64 (k+ak ai (List.take n xs) +1+1+1))]) (0+4) [T.v (Value.int IntKind.i64 (k+ak ai (List.take n xs) +1+1+1+1))]) (0+5) [T.v (Value.int IntKind.i64 (k+ak ai (List.take n xs) +1+1+1+1+1))]) (0+6) [T.v (Value.int IntKind.i64 (k+ak ai (List.take n xs) +1+1+1+1+1+1))]) (0+7) [T.v (Value.int IntKind.i64 (k+ak ai (List.take n xs) +1+1+1+1+1+1+1))]),.call (V.i (k+ak ai (List.take n xs) +1+1+1+1+1+1+1+1+ (↑(List.length y1.inputs):Int))) ([[V.own [false] (List.map aj (mkL (fun k x=>bG k) (fun x=>1) (k+ak ai (List.take n xs) +1+1+1+1+1+1+1+1) y1.inputs))],[]]),.x ([T.v (Value.int IntKind.i64 (k+ak ai (List.take n xs))),T.v (Value.int IntKind.i64 (k+ak ai (List.take n xs) +1)),T.v (Value.bool (decide (Int.tmod (k+ak ai (List.take n xs) +1+1) 3 = 0))),T.v (Value.int IntKind.i64 (k+ak ai (List.take n xs) +1+1+1)),T.v (Value.int IntKind.i64 (k+ak ai (List.take n xs) +1+1+1+1)),T.v (Value.int IntKind.i64 (k+ak ai (List.take n xs) +1+1+1+1+1)),T.v (Value.int IntKind.i64 (k+ak ai (List.take n xs) +1+1+1+1+1+1)),T.v (Value.int IntKind.i64 (k+ak ai (List.take n xs) +1+1+1+1+1+1+1)),T.hole,T.v (Value.string y1.text),T.v (Value.int IntKind.i64 y1.since)])]<|J ⟨I,I,Zdj,I,bS LN,I,⟨⟨⟨bS LN,I⟩,I,I⟩,I,UV,⟨⟨bS LN,I⟩,I⟩,eJ _ _ OM OM OM⟩,I,I⟩ ?_
 rw[List.set_set]
 rw[List.set_set]
 refine g 77 83 [.call (V.s (bG (k+ak ai (List.take n xs) +1+1+1+1+1+1+1+1+ (↑(List.length y1.inputs):Int)))) [[]],.n (n),.x (List.set [T.v (Value.int IntKind.i64 (k+ak ai (List.take n xs))),T.v (Value.int IntKind.i64 (k+ak ai (List.take n xs) +1)),T.v (Value.bool (decide (Int.tmod (k+ak ai (List.take n xs) +1+1) 3 = 0))),T.v (Value.int IntKind.i64 (k+ak ai (List.take n xs) +1+1+1)),T.v (Value.int IntKind.i64 (k+ak ai (List.take n xs) +1+1+1+1)),T.v (Value.int IntKind.i64 (k+ak ai (List.take n xs) +1+1+1+1+1)),T.v (Value.int IntKind.i64 (k+ak ai (List.take n xs) +1+1+1+1+1+1)),T.v (Value.int IntKind.i64 (k+ak ai (List.take n xs) +1+1+1+1+1+1+1)),T.hole,T.v (Value.string y1.text),T.v (Value.int IntKind.i64 y1.since)] (0+8) (T.slc [false] (List.map aj (mkL (fun k x=>bG k) (fun x=>1) (k+ak ai (List.take n xs) +1+1+1+1+1+1+1+1) y1.inputs))))]<|J ⟨I,I,I,⟨UA,I,US,UA,bn _ OM⟩,Zdj,I,⟨UA,bS LN⟩,I⟩ ?_
 rw[List.set_set]
 refine g 83 85 [.i (k+ak ai (List.take n xs) +1+1+1+1+1+1+1+1+ (↑(List.length y1.inputs):Int) +1)]<|J Zdi<|g 85 90 [.n (n),.x (aM (List.set [T.v (Value.int IntKind.i64 (k+ak ai (List.take n xs))),T.v (Value.int IntKind.i64 (k+ak ai (List.take n xs) +1)),T.v (Value.bool (decide (Int.tmod (k+ak ai (List.take n xs) +1+1) 3 = 0))),T.v (Value.int IntKind.i64 (k+ak ai (List.take n xs) +1+1+1)),T.v (Value.int IntKind.i64 (k+ak ai (List.take n xs) +1+1+1+1)),T.v (Value.int IntKind.i64 (k+ak ai (List.take n xs) +1+1+1+1+1)),T.v (Value.int IntKind.i64 (k+ak ai (List.take n xs) +1+1+1+1+1+1)),T.v (Value.int IntKind.i64 (k+ak ai (List.take n xs) +1+1+1+1+1+1+1)),T.hole,T.v (Value.string y1.text),T.v (Value.int IntKind.i64 y1.since)] (0+8) (T.slc [false] (List.map aj (mkL (fun k x=>bG k) (fun x=>1) (k+ak ai (List.take n xs) +1+1+1+1+1+1+1+1) y1.inputs)))) (0+9) [T.v (Value.string (bG (k+ak ai (List.take n xs) +1+1+1+1+1+1+1+1+ (↑(List.length y1.inputs):Int))))])]<|J ⟨I,I,I,Zdj,I,⟨UA,bS LN⟩,I⟩ ?_
 rw[List.set_set]
 refine rg [.i (k+ak ai (List.take n xs) +1+1+1+1+1+1+1+1+ (↑(List.length y1.inputs):Int) +1+1)]<|J Zdi<|rg [.i ((n:Int) +1)]<|J Zdi ?_
 rotate_left
 replace h1:=df h1
 simp only[LM]at h1
 refine W.exit<|g 5 93 []<|J UB<|W.ret<|EndsW.rt<|J UB<|J ?_ ?_
 rotate_left
 rotate_left
 ·refine⟨n+1,[some 93],[],⟨rfl,⟨rfl,(congrArg (fun z=>V.t (T.v (Value.int _ z))) (by rw[bD AS];omega)),rfl,rfl,I⟩,⟨⟨rfl,⟨(congrArg (V.own _) (iP (f:=cN) (c:=ai) AS)),I⟩⟩,I⟩,I⟩,?_,?_⟩
  rotate_left
  (dsimp only;omega)
  dsimp only
  omega
 ·rw[aF OM]
 ·rw[lk cN ai k xs (n:=n) OM]
theorem zp(xs:List Parcel)(k:Int)(hl:xs.length≤9223372036854775806)(h0:0≤k)(hk:k+ak aR xs≤1099511627776):F jm [.bor (.own jY (xs.map bz)),.val (.i k)] (.i (k+ak aR xs)) [[.own jY ((mkL eN aR k xs).map bz)],[]]:=by
 refine jp ?_
 conv=>whnf
 refine g 0 0 []<|J UA<|W.sq<|g 0 0 []<|J UA<|W.blk<|W.lp (fun s (n:Nat)=>⟨[(0,s.s 0),(1,.i (k+ak aR (xs.take n))),(4,s.s 4),(5,.i n)],[(36,[.own jY ((mkN eN aR k xs n).map bz)])],[]⟩) (fun(n:Nat)=>n≤xs.length) (fun(n:Nat)=>xs.length - n) (0) [some 36] [] ⟨rfl,⟨rfl,(congrArg (fun z=>V.t (T.v (Value.int _ z))) (by simp[ak])),rfl,rfl,I⟩,Zdq,I⟩ OM ?_
 intro n hn
 have hx:=lj eN aR k xs n
 have hq:=aJ dQ (xs.take n)
 have hle:=dE dQ xs (n+1)
 have hle0:=dE dQ xs n
 conv=>whnf
 refine W.sq<|g 6 9 []<|J UD<|W.cn<|J (fun h1=>?_) fun h1=>?_
 replace h1:=dt h1
 simp only[LM]at h1
 refine W.skip<|W.sq<|W.blk ?_
 obtain⟨y1,hy1⟩:=af (xs:=xs) (n:=n) OM
 have hk1:=bD (f:=aR) hy1
 have hk2:=dQ y1
 have hk3:=Am y1
 refine g 9 17 [.n (n),.x (bz y1)]<|J ⟨I,I,I,Zdj,I,⟨UA,iQ AS⟩,I⟩<|g 17 19 [.i (k+ak aR (List.take n xs) +1)]<|J Zdi<|g 19 25 [.call (V.s (bG (k+ak aR (List.take n xs) +1))) [[]],.n (n),.x (aM (bz y1) (0+0) [T.v (Value.int IntKind.i64 (k+ak aR (List.take n xs)))])]<|J ⟨I,I,I,⟨UA,I,US,UA,bn _ OM⟩,Zdj,I,⟨UA,bS LN⟩,I⟩ ?_
 rw[List.set_set]
 refine g 25 27 [.i (k+ak aR (List.take n xs) +1+1)]<|J Zdi<|g 27 33 [.call (V.s (bG (k+ak aR (List.take n xs) +1+1))) [[]],.n (n),.x (aM (aM (bz y1) (0+0) [T.v (Value.int IntKind.i64 (k+ak aR (List.take n xs)))]) (0+1) [T.v (Value.string (bG (k+ak aR (List.take n xs) +1)))])]<|J ⟨I,I,I,⟨UA,I,US,UA,bn _ OM⟩,Zdj,I,⟨UA,bS LN⟩,I⟩ ?_
 rw[List.set_set]
 refine rg [.i (k+ak aR (List.take n xs) +1+1+1)]<|J Zdi<|rg [.i ((n:Int) +1)]<|J Zdi ?_
 rotate_left
 replace h1:=df h1
 simp only[LM]at h1
 refine W.exit<|g 5 36 []<|J UB<|W.ret<|EndsW.rt<|J UB<|J ?_ ?_
 rotate_left
 rotate_left
 ·refine⟨n+1,[some 36],[],⟨rfl,⟨rfl,(congrArg (fun z=>V.t (T.v (Value.int _ z))) (by rw[bD AS];omega)),rfl,rfl,I⟩,⟨⟨rfl,⟨(congrArg (V.own _) (iP (f:=eN) (c:=aR) AS)),I⟩⟩,I⟩,I⟩,?_,?_⟩
  rotate_left
  (dsimp only;omega)
  dsimp only
  omega
 ·rw[aF OM]
 ·rw[lk eN aR k xs (n:=n) OM]
theorem qe(xs:List Worker)(k:Int)(hl:xs.length≤9223372036854775806)(h0:0≤k)(hk:k+ak ai xs≤1099511627776):F pK [.val (.t (.slc cB ((mkL cN ai k xs).map ar))),.val (.i k)] (.i (k+ak ai xs)) [[],[]]:=by
 have hx:=fw cN ai k xs
 refine pZ ?_
 conv=>whnf
 refine g 0 0 []<|J UA<|W.sq<|g 0 0 []<|J UA<|W.blk<|W.lp (fun s (n:Nat)=>⟨[(0,s.s 0),(1,.i (k+ak ai (xs.take n))),(5,.i n)],[],[]⟩) (fun(n:Nat)=>n≤xs.length) (fun(n:Nat)=>xs.length - n) (0) [] [] ⟨rfl,⟨rfl,(congrArg (fun z=>V.t (T.v (Value.int _ z))) (by simp[ak])),rfl,I⟩,I,I⟩ OM ?_
 intro n hn
 have hq:=aJ dh (xs.take n)
 have hle:=dE dh xs (n+1)
 have hle0:=dE dh xs n
 conv=>whnf
 refine W.sq<|g 6 9 []<|J UD<|W.cn<|J (fun h1=>?_) fun h1=>?_
 replace h1:=dt h1
 simp only[LM]at h1
 refine W.skip<|W.sq<|W.blk<|W.sq ?_
 obtain⟨y1,hy1⟩:=af (xs:=xs) (n:=n) OM
 have hk1:=bD (f:=ai) hy1
 have hk2:=dh y1
 have hk3:=zJ y1
 have hk4:=jZ (f:=cN) (c:=ai) (k:=k) hy1
 refine g 9 18 [.x (ar (cN (k+ak ai (List.take n xs)) y1))]<|J Zbq<|W.cn<|J (noT (ea rfl)) fun _=>W.skip<|g 18 21 [.i (k+ak ai (List.take n xs) +1)]<|J Zdi<|W.sq<|g 21 27 [.x (ar (cN (k+ak ai (List.take n xs)) y1))]<|J Zbq<|W.cn<|J (noT (ea rfl)) fun _=>W.skip<|g 27 30 [.i (k+ak ai (List.take n xs) +1+1)]<|J Zdi<|W.sq<|g 30 38 [.x (ar (cN (k+ak ai (List.take n xs)) y1)),.i (Int.tmod (k+ak ai (List.take n xs) +1+1) 3)]<|J ⟨I,I,Zdl,I,I,I,Zds,I,I,I⟩<|W.cn<|J (noT (ea rfl)) fun _=>?_
 refine W.skip<|g 38 41 [.i (k+ak ai (List.take n xs) +1+1+1)]<|J Zdi<|W.sq<|g 41 47 [.x (ar (cN (k+ak ai (List.take n xs)) y1))]<|J Zbq<|W.cn<|J (noT (ea rfl)) fun _=>W.skip<|g 47 50 [.i (k+ak ai (List.take n xs) +1+1+1+1)]<|J Zdi<|W.sq<|g 50 56 [.x (ar (cN (k+ak ai (List.take n xs)) y1))]<|J Zbq<|W.cn<|J (noT (ea rfl)) fun _=>W.skip<|g 56 59 [.i (k+ak ai (List.take n xs) +1+1+1+1+1)]<|J Zdi ?_
 refine W.sq<|g 59 65 [.x (ar (cN (k+ak ai (List.take n xs)) y1))]<|J Zbq<|W.cn<|J (noT (ea rfl)) fun _=>W.skip<|g 65 68 [.i (k+ak ai (List.take n xs) +1+1+1+1+1+1)]<|J Zdi<|W.sq<|g 68 74 [.x (ar (cN (k+ak ai (List.take n xs)) y1))]<|J Zbq<|W.cn<|J (noT (ea rfl)) fun _=>W.skip<|g 74 77 [.i (k+ak ai (List.take n xs) +1+1+1+1+1+1+1)]<|J Zdi<|W.sq<|g 77 83 [.x (ar (cN (k+ak ai (List.take n xs)) y1))]<|J Zbq ?_
 refine W.cn<|J (noT (ea rfl)) fun _=>W.skip<|g 83 86 [.i (k+ak ai (List.take n xs) +1+1+1+1+1+1+1+1)]<|J Zdi<|g 86 93 [.x (ar (cN (k+ak ai (List.take n xs)) y1)),.call (V.i (k+ak ai (List.take n xs) +1+1+1+1+1+1+1+1+ (↑(List.length y1.inputs):Int))) [[],[]]]<|J ⟨I,I,Zdl,I,I,I,⟨UB,I,UT,UA,eK _ _ OM OM OM⟩,I,I⟩<|W.sq<|g 93 94 []<|J UB<|W.cn<|J (noT dO) fun _=>W.skip<|W.sq<|gd 94 102 [[],[],[.x (ar (cN (k+ak ai (List.take n xs)) y1))],[],[],[],[.call (V.s (bG (k+ak ai (List.take n xs) +1+1+1+1+1+1+1+1+ (↑(List.length y1.inputs):Int)))) [[]]],[]] ?_
 conv=>whnf
 refine J ⟨I,I,Zdl,I,I,I,⟨UA,I,US,UA,bn _ OM⟩,I,I⟩<|J KR<|W.cn<|J (noT (ea rfl)) fun _=>W.skip<|g 102 105 [.i (k+ak ai (List.take n xs) +1+1+1+1+1+1+1+1+ (↑(List.length y1.inputs):Int) +1)]<|J Zdi<|W.sq<|g 105 111 [.x (ar (cN (k+ak ai (List.take n xs)) y1))]<|J Zbq<|W.cn<|J (noT (ea rfl)) fun _=>W.skip<|rg [.i (k+ak ai (List.take n xs) +1+1+1+1+1+1+1+1+ (↑(List.length y1.inputs):Int) +1+1)]<|J Zdi<|rg [.i ((n:Int) +1)]<|J Zdi ?_
 rotate_left
 replace h1:=df h1
 simp only[LM]at h1
 refine W.exit<|g 5 115 []<|J UB<|RT ?_
 rotate_left
 ·refine⟨n+1,[],[],⟨rfl,⟨rfl,(congrArg (fun z=>V.t (T.v (Value.int _ z))) (by rw[bD AS];omega)),rfl,I⟩,I,I⟩,?_,?_⟩
  rotate_left
  (dsimp only;omega)
  dsimp only
  omega
 ·rw[aF OM]
theorem zq(xs:List Parcel)(k:Int)(hl:xs.length≤9223372036854775806)(h0:0≤k)(hk:k+ak aR xs≤1099511627776):F jn [.val (.t (.slc jY ((mkL eN aR k xs).map bz))),.val (.i k)] (.i (k+ak aR xs)) [[],[]]:=by
 have hx:=fw eN aR k xs
 refine jq ?_
 conv=>whnf
 refine g 0 0 []<|J UA<|W.sq<|g 0 0 []<|J UA<|W.blk<|W.lp (fun s (n:Nat)=>⟨[(0,s.s 0),(1,.i (k+ak aR (xs.take n))),(5,.i n)],[],[]⟩) (fun(n:Nat)=>n≤xs.length) (fun(n:Nat)=>xs.length - n) (0) [] [] ⟨rfl,⟨rfl,(congrArg (fun z=>V.t (T.v (Value.int _ z))) (by simp[ak])),rfl,I⟩,I,I⟩ OM ?_
 intro n hn
 have hq:=aJ dQ (xs.take n)
 have hle:=dE dQ xs (n+1)
 have hle0:=dE dQ xs n
 conv=>whnf
 refine W.sq<|g 6 9 []<|J UD<|W.cn<|J (fun h1=>?_) fun h1=>?_
 replace h1:=dt h1
 simp only[LM]at h1
 refine W.skip<|W.sq<|W.blk<|W.sq ?_
 obtain⟨y1,hy1⟩:=af (xs:=xs) (n:=n) OM
 have hk1:=bD (f:=aR) hy1
 have hk2:=dQ y1
 have hk3:=Am y1
 have hk4:=jZ (f:=eN) (c:=aR) (k:=k) hy1
 refine g 9 18 [.x (bz (eN (k+ak aR (List.take n xs)) y1))]<|J Zbq<|W.cn<|J (noT (ea rfl)) fun _=>W.skip<|g 18 21 [.i (k+ak aR (List.take n xs) +1)]<|J Zdi<|W.sq<|gd 21 28 [[],[],[.x (bz (eN (k+ak aR (List.take n xs)) y1))],[],[],[],[.call (V.s (bG (k+ak aR (List.take n xs) +1))) [[]]],[]] ?_
 conv=>whnf
 refine J ⟨I,I,Zdl,I,I,I,⟨UA,I,US,UA,bn _ OM⟩,I,I⟩<|J KR<|W.cn<|J (noT (ea rfl)) fun _=>W.skip<|g 28 31 [.i (k+ak aR (List.take n xs) +1+1)]<|J Zdi<|W.sq<|gd 31 38 [[],[],[.x (bz (eN (k+ak aR (List.take n xs)) y1))],[],[],[],[.call (V.s (bG (k+ak aR (List.take n xs) +1+1))) [[]]],[]] ?_
 conv=>whnf
 refine J ⟨I,I,Zdl,I,I,I,⟨UA,I,US,UA,bn _ OM⟩,I,I⟩<|J KR<|W.cn<|J (noT (ea rfl)) fun _=>W.skip<|rg [.i (k+ak aR (List.take n xs) +1+1+1)]<|J Zdi<|rg [.i ((n:Int) +1)]<|J Zdi ?_
 rotate_left
 replace h1:=df h1
 simp only[LM]at h1
 refine W.exit<|g 5 42 []<|J UB<|RT ?_
 rotate_left
 ·refine⟨n+1,[],[],⟨rfl,⟨rfl,(congrArg (fun z=>V.t (T.v (Value.int _ z))) (by rw[bD AS];omega)),rfl,I⟩,I,I⟩,?_,?_⟩
  rotate_left
  (dsimp only;omega)
  dsimp only
  omega
 ·rw[aF OM]
end Go.K
end
section
open Go Go.Tm Go.Proofs
namespace Go.K
structure World where
 plan:Plan
 key:ByteArray
 boss:Boss
 workers:List Worker
 flight:List Parcel
 forged:ByteArray
 deriving DecidableEq
abbrev WQ(x:World):List T:=[.slc dg (x.plan.tasks.map ay),.s x.key,.i x.boss.workers,.b x.boss.up,.i x.boss.now,.i x.boss.since,.i x.boss.epoch,.i x.boss.given,.slc [false] (x.boss.log.safe.map aj),.slc [false] (x.boss.log.loose.map aj),.slc [false] (x.boss.results.map aj),.slc eG (x.boss.jobs.map aO),.slc cx (x.boss.seats.map aG),.slc cy (x.boss.owed.map aL),.slc cB (x.workers.map ar),.slc jY (x.flight.map bz),.s x.forged]
abbrev fi(x:World):V:=.agg [.t (.slc dg (x.plan.tasks.map ay)),.t (.s x.key),.t (.i x.boss.workers),.t (.b x.boss.up),.t (.i x.boss.now),.t (.i x.boss.since),.t (.i x.boss.epoch),.t (.i x.boss.given),.t (.slc [false] (x.boss.log.safe.map aj)),.t (.slc [false] (x.boss.log.loose.map aj)),.t (.slc [false] (x.boss.results.map aj)),.t (.slc eG (x.boss.jobs.map aO)),.t (.slc cx (x.boss.seats.map aG)),.t (.slc cy (x.boss.owed.map aL)),.t (.slc cB (x.workers.map ar)),.t (.slc jY (x.flight.map bz)),.t (.s x.forged)]
abbrev aC(x:World):V:=.agg [.own dg (x.plan.tasks.map ay),.t (.s x.key),.t (.i x.boss.workers),.t (.b x.boss.up),.t (.i x.boss.now),.t (.i x.boss.since),.t (.i x.boss.epoch),.t (.i x.boss.given),.own [false] (x.boss.log.safe.map aj),.own [false] (x.boss.log.loose.map aj),.own [false] (x.boss.results.map aj),.own eG (x.boss.jobs.map aO),.own cx (x.boss.seats.map aG),.own cy (x.boss.owed.map aL),.own cB (x.workers.map ar),.own jY (x.flight.map bz),.t (.s x.forged)]
abbrev noWorld:World:=⟨⟨[]⟩,emp,⟨0,false,0,0,0,0,⟨[],[]⟩,[],[],[],[]⟩,[],[],emp⟩
def eE(x:World):Int:=aK x.plan+ (x.key.size:Int) +bJ x.boss+ ((x.workers.length:Int) +ak aS x.workers) + ((x.flight.length:Int) +ak eM x.flight) + (x.forged.size:Int)
theorem zI(x:World):0≤eE x:=by
 have hn0:=lM x.plan
 have hn1:=jP x.boss
 have hn2:=aJ cg x.workers
 have hn3:=aJ gx x.flight
 simp only[eE];omega
def sW(x:World):Prop:=dv x.plan∧x.key.size≤9223372036854775807∧Hw x.boss∧x.workers.length≤9223372036854775807∧(∀ y∈x.workers,lY y)∧x.flight.length≤9223372036854775807∧(∀ y∈x.flight,sF y)∧x.forged.size≤9223372036854775807
theorem nx(x:World)(left:Int)(hw:sW x)(h:left≤1048576)(h0:0≤left):F yE [.val (fi x),.val (.i left)] (.i (if left - eE x < 0 then -1 else left - eE x)) [[],[]]:=by
 have ht:=Be x.flight
 have hn0:=lM x.plan
 have hn1:=jP x.boss
 have hn2:=aJ cg x.workers
 have hn3:=aJ gx x.flight
 obtain⟨hw0,hw1,hw2,hw3,hw4,hw5,hw6,hw7⟩:=hw
 have hz:eE x = aK x.plan+ (x.key.size:Int) +bJ x.boss+ ((x.workers.length:Int) +ak aS x.workers) + ((x.flight.length:Int) +ak eM x.flight) + (x.forged.size:Int):=rfl
 refine yV ?_
 conv=>whnf
 refine g 0 1 []<|J Zdv<|g 5 9 [.call (V.i (if left - aK x.plan < 0 then(-1)else left - aK x.plan)) [[],[]]]<|J ⟨I,I,I,⟨UB,I,UT,UA,DN _ _ OM OM OM⟩,I,I⟩<|W.sq<|g 9 10 []<|J UB<|W.cn<|J (fun h1=>?_) fun h1=>?_
 replace h1:=dt h1
 refine g 10 11 []<|J UA<|RT ?_
 exact vi OM
 replace h1:=df h1
 refine W.skip<|g 10 16 [.i ((if left - aK x.plan < 0 then(-1)else left - aK x.plan) - (↑(ByteArray.size x.key):Int))]<|J Zdb<|W.sq<|g 16 17 []<|J UB<|W.cn<|J (fun h2=>?_) fun h2=>?_
 replace h2:=dt h2
 refine g 17 18 []<|J UA<|RT ?_
 exact vi OM
 replace h2:=df h2
 refine W.skip<|g 17 22 [.call (V.i (if(if left - aK x.plan < 0 then(-1)else left - aK x.plan) - (↑(ByteArray.size x.key):Int) - bJ x.boss < 0 then(-1)else(if left - aK x.plan < 0 then(-1)else left - aK x.plan) - (↑(ByteArray.size x.key):Int) - bJ x.boss)) [[],[]]]<|J ⟨I,I,I,⟨UB,I,⟨UL,UA,I⟩,UA,DR _ _ OM OM OM⟩,I,I⟩<|W.sq<|g 22 23 []<|J UB<|W.cn<|J (fun h3=>?_) fun h3=>?_
 replace h3:=dt h3
 refine g 23 24 []<|J UA<|RT ?_
 exact vi OM
 replace h3:=df h3
 refine W.skip<|g 23 28 [.call (V.i (if(if(if left - aK x.plan < 0 then(-1)else left - aK x.plan) - (↑(ByteArray.size x.key):Int) - bJ x.boss < 0 then(-1)else(if left - aK x.plan < 0 then(-1)else left - aK x.plan) - (↑(ByteArray.size x.key):Int) - bJ x.boss) - ((↑(List.length x.workers):Int) +ak aS x.workers) < 0 then(-1)else(if(if left - aK x.plan < 0 then(-1)else left - aK x.plan) - (↑(ByteArray.size x.key):Int) - bJ x.boss < 0 then(-1)else(if left - aK x.plan < 0 then(-1)else left - aK x.plan) - (↑(ByteArray.size x.key):Int) - bJ x.boss) - ((↑(List.length x.workers):Int) +ak aS x.workers))) [[],[]]]<|J ⟨I,I,I,⟨UB,I,UT,UA,uI _ _ OM OM OM OM⟩,I,I⟩<|W.sq<|g 28 29 []<|J UB<|W.cn<|J (fun h4=>?_) fun h4=>?_
 replace h4:=dt h4
 refine g 29 30 []<|J UA<|RT ?_
 exact vi OM
 replace h4:=df h4
 refine W.skip<|g 29 34 [.call (V.i (if(if(if(if left - aK x.plan < 0 then(-1)else left - aK x.plan) - (↑(ByteArray.size x.key):Int) - bJ x.boss < 0 then(-1)else(if left - aK x.plan < 0 then(-1)else left - aK x.plan) - (↑(ByteArray.size x.key):Int) - bJ x.boss) - ((↑(List.length x.workers):Int) +ak aS x.workers) < 0 then(-1)else(if(if left - aK x.plan < 0 then(-1)else left - aK x.plan) - (↑(ByteArray.size x.key):Int) - bJ x.boss < 0 then(-1)else(if left - aK x.plan < 0 then(-1)else left - aK x.plan) - (↑(ByteArray.size x.key):Int) - bJ x.boss) - ((↑(List.length x.workers):Int) +ak aS x.workers)) - (↑(List.length x.flight):Int) - jc x.flight < 0 then(-1)else(if(if(if left - aK x.plan < 0 then(-1)else left - aK x.plan) - (↑(ByteArray.size x.key):Int) - bJ x.boss < 0 then(-1)else(if left - aK x.plan < 0 then(-1)else left - aK x.plan) - (↑(ByteArray.size x.key):Int) - bJ x.boss) - ((↑(List.length x.workers):Int) +ak aS x.workers) < 0 then(-1)else(if(if left - aK x.plan < 0 then(-1)else left - aK x.plan) - (↑(ByteArray.size x.key):Int) - bJ x.boss < 0 then(-1)else(if left - aK x.plan < 0 then(-1)else left - aK x.plan) - (↑(ByteArray.size x.key):Int) - bJ x.boss) - ((↑(List.length x.workers):Int) +ak aS x.workers)) - (↑(List.length x.flight):Int) - jc x.flight)) [[],[]]]<|J ⟨I,I,I,⟨UB,I,UT,UA,lx _ _ (by first|omega|assumption) (by first|omega|assumption) (by first|omega|assumption) (by first|omega|assumption)⟩,I,I⟩<|W.sq<|g 34 35 []<|J UB<|W.cn<|J (fun h5=>?_) fun h5=>?_
 replace h5:=dt h5
 refine g 35 36 []<|J UA<|RT ?_
 exact vi OM
 replace h5:=df h5
 refine W.skip<|g 35 41 [.i ((if(if(if(if left - aK x.plan < 0 then(-1)else left - aK x.plan) - (↑(ByteArray.size x.key):Int) - bJ x.boss < 0 then(-1)else(if left - aK x.plan < 0 then(-1)else left - aK x.plan) - (↑(ByteArray.size x.key):Int) - bJ x.boss) - ((↑(List.length x.workers):Int) +ak aS x.workers) < 0 then(-1)else(if(if left - aK x.plan < 0 then(-1)else left - aK x.plan) - (↑(ByteArray.size x.key):Int) - bJ x.boss < 0 then(-1)else(if left - aK x.plan < 0 then(-1)else left - aK x.plan) - (↑(ByteArray.size x.key):Int) - bJ x.boss) - ((↑(List.length x.workers):Int) +ak aS x.workers)) - (↑(List.length x.flight):Int) - jc x.flight < 0 then(-1)else(if(if(if left - aK x.plan < 0 then(-1)else left - aK x.plan) - (↑(ByteArray.size x.key):Int) - bJ x.boss < 0 then(-1)else(if left - aK x.plan < 0 then(-1)else left - aK x.plan) - (↑(ByteArray.size x.key):Int) - bJ x.boss) - ((↑(List.length x.workers):Int) +ak aS x.workers) < 0 then(-1)else(if(if left - aK x.plan < 0 then(-1)else left - aK x.plan) - (↑(ByteArray.size x.key):Int) - bJ x.boss < 0 then(-1)else(if left - aK x.plan < 0 then(-1)else left - aK x.plan) - (↑(ByteArray.size x.key):Int) - bJ x.boss) - ((↑(List.length x.workers):Int) +ak aS x.workers)) - (↑(List.length x.flight):Int) - jc x.flight) - (↑(ByteArray.size x.forged):Int))]<|J Zdb<|W.sq<|g 2 3 []<|J UB<|W.cn<|J (fun h6=>?_) fun h6=>?_
 replace h6:=dt h6
 refine g 41 43 []<|J UA<|RT ?_
 exact vi OM
 replace h6:=df h6
 refine W.skip<|g 41 44 []<|J UB<|RT ?_
 exact vi OM
theorem dn(x:World)(h:eE x≤1048576):F yz [.val (fi x)] (aC x) [[]]:=by
 have hn0:=lM x.plan
 have hn1:=jP x.boss
 have hn2:=aJ cg x.workers
 have hn3:=aJ gx x.flight
 have hz:eE x = aK x.plan+ (x.key.size:Int) +bJ x.boss+ ((x.workers.length:Int) +ak aS x.workers) + ((x.flight.length:Int) +ak eM x.flight) + (x.forged.size:Int):=rfl
 refine yQ ?_
 conv=>whnf
 refine g 0 1 []<|J Zdv<|g 0 0 []<|J UA<|g 4 8 [.call (fj x.plan) [[]]]<|J ⟨I,I,⟨UA,I,US,UA,DH _ OM⟩,I,UA,I⟩<|g 8 11 []<|J UW<|g 11 15 [.call (aN x.boss) [[]]]<|J ⟨I,I,⟨UA,I,⟨UL,I⟩,UA,DL _ OM⟩,I,UL,I⟩<|g 15 19 [.call (V.own cB (List.map ar x.workers)) [[]]]<|J ⟨I,I,⟨UA,I,US,UA,uG _ OM⟩,I,UA,I⟩<|g 19 23 [.call (V.own pkd (List.map bv x.flight)) [[]]]<|J ⟨I,I,⟨UA,I,US,UA,uH _ OM⟩,I,UA,I⟩<|g 23 26 []<|J UW<|g 3 27 []<|J Zdu<|RT ?_
 rfl
def j8(a:World):Prop:=a.plan.tasks.length≤9223372036854775806∧(∀ y∈a.plan.tasks,m7 y)∧a.boss.log.safe.length≤9223372036854775806∧a.boss.log.loose.length≤9223372036854775806∧a.boss.results.length≤9223372036854775806∧a.boss.jobs.length≤9223372036854775806∧a.boss.seats.length≤9223372036854775806∧a.boss.owed.length≤9223372036854775806∧a.workers.length≤9223372036854775806∧(∀ y∈a.workers,iv y)∧a.flight.length≤9223372036854775806
theorem vH{a:World}(h:eE a≤1048576):j8 a:=by
 have:=aJ cZ a.plan.tasks
 have:=bm a.boss.log.safe
 have:=bm a.boss.log.loose
 have:=bm a.boss.results
 have:=aJ cg a.workers
 have:=aJ gx a.flight
 simp only[eE,aK,bJ,bh]at h
 simp only[j8]
 exact⟨by omega,fun y hy=>zQ (by have:=gW cZ hy;omega),by omega,by omega,by omega,by omega,by omega,by omega,by omega,fun y hy=>Fl (by have:=gW cg hy;omega),by omega⟩
theorem dp(a b:World)(hl:j8 a):F yK [.val (fi a),.val (fi b)] (.b (decide (a = b))) [[],[]]:=by
 obtain⟨a_plan,a_key,a_boss,a_workers,a_flight,a_forged⟩:=a
 obtain⟨b_plan,b_key,b_boss,b_workers,b_flight,b_forged⟩:=b
 simp only[j8]at hl
 obtain⟨hl0,hl1,hl2,hl3,hl4,hl5,hl6,hl7,hl8,hl9,hl10⟩:=hl
 have hx0:m9 a_plan:=⟨hl0,hl1⟩
 have hx2:pA a_boss:=⟨hl2,hl3,hl4,hl5,hl6,hl7⟩
 refine zb ?_
 conv=>whnf
 refine g 0 2 []<|J ⟨UQ,UQ,I,I⟩<|W.sq<|g 5 10 [.call (V.b (decide (a_plan = b_plan))) [[],[]]]<|J ⟨I,I,I,I,⟨UB,I,UT,UA,DU _ _ OM⟩,I,I⟩<|W.cn<|J (fun h1=>?_) fun h1=>?_
 replace h1:=ndt h1
 refine g 10 11 []<|J UA<|RT ?_
 rotate_left
 replace h1:=ndf h1
 refine W.skip<|W.sq<|g 10 15 []<|J UE<|W.cn<|J (fun h2=>?_) fun h2=>?_
 replace h2:=ndt h2
 refine g 15 16 []<|J UA<|RT ?_
 rotate_left
 replace h2:=ndf h2
 refine W.skip<|W.sq<|g 15 21 [.call (V.b (decide (a_boss = b_boss))) [[],[]]]<|J ⟨I,I,I,I,⟨UB,I,⟨UL,UL,I⟩,UA,DY _ _ OM⟩,I,I⟩<|W.cn<|J (fun h3=>?_) fun h3=>?_
 replace h3:=ndt h3
 refine g 21 22 []<|J UA<|RT ?_
 rotate_left
 replace h3:=ndf h3
 refine W.skip<|W.sq<|g 21 27 [.call (V.b (decide (a_workers = b_workers))) [[],[]]]<|J ⟨I,I,I,I,⟨UB,I,UT,UA,uP _ _ OM OM⟩,I,I⟩<|W.cn<|J (fun h4=>?_) fun h4=>?_
 replace h4:=ndt h4
 refine g 27 28 []<|J UA<|RT ?_
 rotate_left
 replace h4:=ndf h4
 refine W.skip<|W.sq<|g 27 33 [.call (V.b (decide (a_flight = b_flight))) [[],[]]]<|J ⟨I,I,I,I,⟨UB,I,UT,UA,uQ _ _ OM⟩,I,I⟩<|W.cn<|J (fun h5=>?_) fun h5=>?_
 replace h5:=ndt h5
 refine g 33 34 []<|J UA<|RT ?_
 rotate_left
 replace h5:=ndf h5
 refine W.skip<|W.sq<|g 33 38 []<|J UE<|W.cn<|J (fun h6=>?_) fun h6=>?_
 replace h6:=ndt h6
 refine g 2 4 []<|J UA<|RT ?_
 rotate_left
 replace h6:=ndf h6
 refine W.skip<|g 2 4 []<|J UA<|RT ?_
 rotate_left
 all_goals (first|exact vbt (by simp_all;done)|exact vbf (by simp_all;done))
def lX(k:Int)(x:World):World:=⟨Ah (k) x.plan,x.key,va (k+bb x.plan) x.boss,mkL cN ai (k+bb x.plan+bq x.boss) x.workers,mkL eN aR (k+bb x.plan+bq x.boss+ak ai x.workers) x.flight,x.forged⟩
def bo(x:World):Int:=bb x.plan+bq x.boss+ak ai x.workers+ak aR x.flight
theorem fF(x:World)(k:Int)(hl:x.plan.tasks.length≤9223372036854775806∧x.boss.log.safe.length≤9223372036854775806∧x.boss.log.loose.length≤9223372036854775806∧x.boss.results.length≤9223372036854775806∧x.boss.jobs.length≤9223372036854775806∧x.boss.seats.length≤9223372036854775806∧x.boss.owed.length≤9223372036854775806∧x.workers.length≤9223372036854775806∧x.flight.length≤9223372036854775806)(h0:0≤k)(hk:k+bo x≤1099511627776):F tt [.bor (aC x),.val (.i k)] (.i (k+bo x)) [cellsOf (aC (lX k x)),[]]:=by
 obtain⟨hl0,hl1,hl2,hl3,hl4,hl5,hl6,hl7,hl8⟩:=hl
 have hn0:=iD x.plan
 have hn1:=ky x.boss
 have hn2:=aJ dh x.workers
 have hn3:=aJ dQ x.flight
 have hz:bo x = bb x.plan+bq x.boss+ak ai x.workers+ak aR x.flight:=rfl
 refine ud ?_
 conv=>whnf
 refine g 0 1 []<|J ⟨UH,I,I⟩<|g 5 9 [.call (V.i (k+bb x.plan)) ([cellsOf (fj (Ah k x.plan)),[]])]<|J ⟨I,I,I,⟨Zdt,I,UV,UA,xP _ _ OM OM OM⟩,I,I⟩<|g 9 13 [.call (V.i (k+bb x.plan+bq x.boss)) ([cellsOf (aN (va (k+bb x.plan) x.boss)),[]])]<|J ⟨I,I,I,⟨Zep,I,UV,UA,xS _ _ OM OM OM⟩,I,I⟩<|g 13 17 [.call (V.i (k+bb x.plan+bq x.boss+ak ai x.workers)) ([[V.own cB (List.map ar (mkL cN ai (k+bb x.plan+bq x.boss) x.workers))],[]])]<|J ⟨I,I,I,⟨Zdt,I,UV,UA,qd _ _ OM OM OM⟩,I,I⟩<|g 17 21 [.call (V.i (k+bb x.plan+bq x.boss+ak ai x.workers+ak aR x.flight)) ([[V.own jY (List.map bz (mkL eN aR (k+bb x.plan+bq x.boss+ak ai x.workers) x.flight))],[]])]<|J ⟨I,I,I,⟨Zdt,I,UV,UA,zp _ _ OM OM OM⟩,I,I⟩<|g 1 3 []<|J UB<|RT ?_
 exact vi OM
theorem fG(x:World)(k:Int)(hl:x.plan.tasks.length≤9223372036854775806∧x.boss.log.safe.length≤9223372036854775806∧x.boss.log.loose.length≤9223372036854775806∧x.boss.results.length≤9223372036854775806∧x.boss.jobs.length≤9223372036854775806∧x.boss.seats.length≤9223372036854775806∧x.boss.owed.length≤9223372036854775806∧x.workers.length≤9223372036854775806∧x.flight.length≤9223372036854775806)(h0:0≤k)(hk:k+bo x≤1099511627776):F tB [.val (fi (lX k x)),.val (.i k)] (.i (k+bo x)) [[],[]]:=by
 obtain⟨hl0,hl1,hl2,hl3,hl4,hl5,hl6,hl7,hl8⟩:=hl
 have hn0:=iD x.plan
 have hn1:=ky x.boss
 have hn2:=aJ dh x.workers
 have hn3:=aJ dQ x.flight
 have hz:bo x = bb x.plan+bq x.boss+ak ai x.workers+ak aR x.flight:=rfl
 refine uh ?_
 conv=>whnf
 refine g 0 1 []<|J Zdv<|g 5 9 [.call (V.i (k+bb x.plan)) [[],[]]]<|J ⟨I,I,I,⟨UB,I,UT,UA,xT _ _ OM OM OM⟩,I,I⟩<|W.sq<|g 9 10 []<|J UB<|W.cn<|J (noT dO) fun _=>W.skip<|g 10 15 [.call (V.i (k+bb x.plan+bq x.boss)) [[],[]]]<|J ⟨I,I,I,⟨UB,I,⟨UL,UA,I⟩,UA,xW _ _ OM OM OM⟩,I,I⟩<|W.sq<|g 15 16 []<|J UB<|W.cn<|J (noT dO) fun _=>W.skip<|g 16 21 [.call (V.i (k+bb x.plan+bq x.boss+ak ai x.workers)) [[],[]]]<|J ⟨I,I,I,⟨UB,I,UT,UA,qe _ _ OM OM OM⟩,I,I⟩ ?_
 refine W.sq<|g 21 22 []<|J UB<|W.cn<|J (noT dO) fun _=>W.skip<|g 22 27 [.call (V.i (k+bb x.plan+bq x.boss+ak ai x.workers+ak aR x.flight)) [[],[]]]<|J ⟨I,I,I,⟨UB,I,UT,UA,zq _ _ OM OM OM⟩,I,I⟩<|W.sq<|g 2 3 []<|J UB<|W.cn<|J (noT dO) fun _=>W.skip<|g 27 30 []<|J UB<|RT ?_
 exact vi OM
theorem QA{n:Nat}{x:List T}(h:wfT E (n+6) BG x):∃ v:World,x = WQ v∧sW v:=by
 obtain⟨y0,z0,e0,wplan0,y1,z1,e1,⟨key,rfl,hkey⟩,y2,z2,e2,wboss0,y3,z3,e3,⟨lworkers,rfl,hworkers,gworkers⟩,y4,z4,e4,⟨lflight,rfl,hflight,gflight⟩,y5,z5,e5,⟨forged,rfl,hforged⟩,e6⟩:=h
 subst e6
 subst e5
 subst e4
 subst e3
 subst e2
 subst e1
 obtain⟨plan,rfl,wplan⟩:=Uz wplan0
 obtain⟨boss,rfl,wboss⟩:=UY wboss0
 obtain⟨workers,rfl,wworkers⟩:=mj (f:=ar) (p:=lY) (xs:=lworkers) fun y hy=>N1 (gworkers y hy)
 obtain⟨flight,rfl,wflight⟩:=mj (f:=bz) (p:=sF) (xs:=lflight) fun y hy=>N3 (gflight y hy)
 subst e0
 exact⟨⟨plan,key,boss,workers,flight,forged⟩,rfl,⟨wplan,hkey,wboss,by rw[List.length_map]at hworkers;exact hworkers,wworkers,by rw[List.length_map]at hflight;exact hflight,wflight,hforged⟩⟩
end Go.K
end
section
open Go Go.Tm Go.Proofs
namespace Go.K
theorem vm{p:Plan}(h:aq p.tasks = 0):dC p:=by
 have h1:=(bU h).1
 refine⟨by omega,fun t ht=>?_⟩
 obtain⟨n,hn⟩:=List.getElem?_of_mem ht
 have h2:=(b9 h hn).2.2.1
 have h3:=(b9 h hn).1
 exact⟨by omega,by omega⟩
theorem uS(p:Plan)(h:dC p):F tK [.val (cR p)] (fj p) [[]]:=by
 obtain⟨hp1,hp2⟩:=h
 refine ut ?_
 conv=>whnf
 refine g 0 0 []<|J Zdt<|g 0 0 []<|J UA<|W.sq<|g 1 2 []<|J UD<|W.blk<|W.lp (fun s (n:Nat)=>⟨[(0,s.s 0),(2,s.s 2),(3,s.s 3),(7,s.s 7),(8,s.s 8),(9,.i n)],[(2,[s.c 2 0]),(3,[.own dg ((p.tasks.take n).map ay)])],[]⟩) (fun(n:Nat)=>n≤p.tasks.length) (fun(n:Nat)=>p.tasks.length - n) (0) [some 2,some 3] [] ⟨rfl,⟨Zai,rfl,rfl,rfl,rfl,rfl,I⟩,⟨Zad,Zdq⟩,I⟩ OM ?_
 intro n hn
 conv=>whnf
 refine g 0 0 []<|J UA<|W.sq<|W.cn<|J (fun h1=>?_) fun h1=>?_
 replace h1:=dt h1
 simp only[LM]at h1
 refine W.skip<|W.sq<|W.blk ?_
 obtain⟨y1,hy1⟩:=af (xs:=Plan.tasks p) (n:=n) OM
 have hm1:=hp2 y1 (List.mem_of_getElem? hy1)
 refine g 10 13 [.x (ay y1)]<|J Zck<|g 13 18 []<|J Zce<|rg []<|J Zcd<|rg [.i ((n:Int) +1)]<|J Zdn ?_
 rotate_left
 replace h1:=df h1
 simp only[LM]at h1
 refine W.exit<|g 3 26 []<|J UV<|RT ?_
 rotate_left
 ·refine⟨n+1,[some 2,some 3],[],⟨rfl,⟨Zai,rfl,rfl,rfl,rfl,rfl,I⟩,⟨Zad,⟨⟨rfl,⟨(congrArg (V.own _) (oA AS)),I⟩⟩,I⟩⟩,I⟩,?_,?_⟩
  rotate_left
  (dsimp only;omega)
  dsimp only
  omega
 ·rw[aF OM]
def Pf(i:Nat):Worker:=⟨(i:Int) +1,1,true,0,0,0,0,0,[],emp,3⟩
def crew(n:Nat):List Worker:=(List.range n).map Pf
structure NewOk (p:Plan) (key:ByteArray) (w:Int):Prop where
 plan:aq p.tasks = 0
 w:1≤w∧w≤8
 key:key.size≤30
noncomputable instance (p:Plan) (key:ByteArray) (w:Int):Decidable (NewOk p key w):=Classical.propDecidable _
end Go.K
end
section
open Go Go.Tm Go.Proofs
namespace Go.K
structure WorkOk (i:Nat) (x:Worker):Prop where
 ok:av x
 num:x.number = (i:Int) +1
def yg(ws:List Worker)(n:Nat):Prop:=∀ (m:Nat) (x:Worker),m < n→ws[m]? = some x→WorkOk m x
theorem wb(ws:List Worker):yg ws 0:=fun m x hm=>by omega
theorem wc{ws:List Worker}{n:Nat}{x:Worker}(h:yg ws n)(hx:ws[n]? = some x)(hw:WorkOk n x):yg ws (n+1):=fun m y hm hy=>by
 by_cases e:m = n
 ·subst e;rw[hx]at hy;cases hy;exact hw
 ·exact h m y OM hy
structure ParOk (x:Parcel):Prop where
 to:0≤x.kind∧x.kind≤8
 sent:x.frm.size≤500
 bytes:x.text.size≤500
structure WorldOk (w:World):Prop where
 plan:aq w.plan.tasks = 0
 key:w.key.size≤30
 wl:1≤w.workers.length∧w.workers.length≤8
 fl:w.flight.length≤2000
 crew:yg w.workers w.workers.length
 par:∀ x∈w.flight,ParOk x
 boss:BossOk w.boss w.plan
 same:w.boss.workers = w.workers.length
noncomputable instance (w:World):Decidable (WorldOk w):=Classical.propDecidable _
structure WorldLim (w:World):Prop where
 plan:dv w.plan
 boss:BossLim w.boss
 key:w.key.size≤9223372036854775807
 wl:w.workers.length≤1048576
 wi:∀ x∈w.workers,x.inputs.length≤1048576
 fl:w.flight.length≤1048576
 fs:∀ x∈w.flight,x.frm.size≤9223372036854775807∧x.text.size≤9223372036854775807
theorem fe(w:World)(h:WorldLim w):F rx [.val (fi w)] (.b (decide (WorldOk w))) [[]]:=by
 obtain⟨l1,l2,l3,l4,l5,l6,l7⟩:=h
 have cp:=fI w.plan l1
 have cb:=Rw w.boss w.plan l1 l2
 refine rE ?_
 conv=>whnf
 refine g 0 1 []<|J Zdv<|W.sq ?_
 by_cases h1:aq (Plan.tasks (World.plan w)) = (0:Int)
 by_cases h2:(30:Int) < (↑(ByteArray.size (World.key w)):Int)
 refine g 11 29 [.call (V.i (aq w.plan.tasks)) [[]],BF,BF,BF,BF,BF,BT,BT,BT,BT,BT,BT,BT,BT,BT,BT,BT]<|J ⟨I,I,Zak,I,I,⟨nO,I⟩,⟨nO,I⟩,⟨nO,I⟩,⟨nO,I⟩,nO,I,tO,tO,tO,tO,tO,tO,I,rfl,rfl,rfl,rfl,rfl,I⟩<|W.cn<|J (fun _=>(g 7 10 []<|J UA (RT ?_))) (noF rfl)
 rotate_left
 by_cases h3:(1:Int)≤(↑(List.length (List.map ar (World.workers w))):Int)∧(↑(List.length (List.map ar (World.workers w))):Int)≤(8:Int)
 simp only[LM]at h3
 refine g 11 29 [.call (V.i (aq w.plan.tasks)) [[]],BF,BF,BF,BF,BF,BF,BF,BF,BF,.call (V.b (decide (1≤(↑(List.length (List.map ar w.workers)):Int)∧(↑(List.length (List.map ar w.workers)):Int)≤8))) [[],[],[]],BF,BF,BF,BF,BF,BF,BF]<|J ⟨I,I,Zak,I,I,⟨nO,I⟩,⟨nO,I⟩,⟨nO,I⟩,⟨nO,I⟩,nO,I,⟨dO,I⟩,⟨dO,I⟩,⟨dO,I⟩,⟨dO,UC,I,UU,UA,aa _ _ _⟩,⟨dO,I⟩,dO,I,⟨SI,I⟩,⟨SI,I⟩,⟨SI,I⟩,⟨SI,I⟩,SI,I⟩<|W.cn<|J (fun h4=>?_) fun h4=>?_
 replace h4:=dt h4
 simp only[LM]at h4
 refine g 7 10 []<|J UA<|RT ?_
 rotate_left
 replace h4:=df h4
 simp only[LM]at h4
 refine W.skip<|W.sq<|g 7 10 []<|J UD<|W.blk ?_
 rotate_left
 simp only[LM]at h3
 refine g 11 29 [.call (V.i (aq w.plan.tasks)) [[]],BF,BF,BF,BF,BF,BF,BF,BF,BF,.call (V.b (decide (1≤(↑(List.length (List.map ar w.workers)):Int)∧(↑(List.length (List.map ar w.workers)):Int)≤8))) [[],[],[]],BF,BF,BT,BT,BT,BT,BT]<|J ⟨I,I,Zak,I,I,⟨nO,I⟩,⟨nO,I⟩,⟨nO,I⟩,⟨nO,I⟩,nO,I,⟨dO,I⟩,⟨dO,I⟩,⟨dO,I⟩,⟨dO,UC,I,UU,UA,aa _ _ _⟩,⟨dO,I⟩,dO,I,SI,SI,SI,SI,SI,I⟩<|W.cn<|J (fun _=>(g 7 10 []<|J UA (RT ?_))) (noF rfl)
 rotate_left
 refine g 11 29 [.call (V.i (aq w.plan.tasks)) [[]],BT,BT,BT,BT,BT,BT,BT,BT,BT,BT,BT,BT,BT,BT,BT,BT]<|J ⟨I,I,Zak,I,I,ag OM,ag OM,ag OM,ag OM,ag OM,I,rfl,rfl,rfl,rfl,rfl,rfl,I,rfl,rfl,rfl,rfl,rfl,I⟩<|W.cn<|J (fun _=>(g 7 10 []<|J UA (RT ?_))) (noF rfl)
 rotate_left
 all_goals try (exact vbf (fun q=>by have e1:=q.plan;have e2:=q.key;have e3:=q.wl;have e4:=q.fl;omega))
 refine W.lp (fun s (n:Nat)=>⟨[(1,s.s 1),(10,s.s 10),(31,s.s 31),(32,s.s 32),(33,.i n)],[(1,[s.c 1 0,s.c 1 1,s.c 1 2,s.c 1 3,s.c 1 4,s.c 1 5,s.c 1 6,s.c 1 7,s.c 1 8,s.c 1 9,s.c 1 10,s.c 1 11,s.c 1 12,s.c 1 13,s.c 1 14,s.c 1 15,s.c 1 16])],[]⟩) (fun(n:Nat)=>n≤w.workers.length∧yg w.workers n) (fun(n:Nat)=>w.workers.length - n) (0) [some 1] [] ⟨rfl,⟨rfl,rfl,rfl,rfl,rfl,I⟩,⟨⟨rfl,⟨rfl,⟨rfl,⟨rfl,⟨rfl,⟨rfl,⟨rfl,⟨rfl,⟨rfl,⟨rfl,⟨rfl,⟨rfl,⟨rfl,⟨rfl,⟨rfl,⟨rfl,⟨rfl,⟨rfl,I⟩⟩⟩⟩⟩⟩⟩⟩⟩⟩⟩⟩⟩⟩⟩⟩⟩⟩,I⟩,I⟩ ?_ ?_
 ·exact⟨Nat.zero_le _,wb _⟩
 rintro n ⟨hn,hc⟩
 by_cases hn2:n < w.workers.length
 ·obtain⟨x,hx⟩:=af hn2
  have hxi:=l5 x (List.mem_of_getElem? hx)
  have cw:=eL x OM
  by_cases hk:av x
  ·rw[decide_eq_true hk]at cw
   conv=>whnf
   refine g 0 0 []<|J UA<|W.sq<|W.cn<|J (fun _=>(W.skip (W.sq (W.blk (g 34 38 [.x (ar x)]<|J ⟨I,Zdl,I,I,I,UK,I⟩ (g 38 47 [.call VT [[]],BF,BF,BF,BF,.i ((n:Int) +1),BF,BF]<|J ⟨I,Zde,I,I,Zdh,Zdh,Zdh,⟨rfl,wO⟩,Zdh,rfl,I⟩ (W.cn<|J (fun h5=>?_) fun h5=>?_))))))) (noF SI)
   replace h5:=ndt h5
   refine g 3 4 []<|J UA<|RT ?_
   rotate_left
   replace h5:=ndf h5
   refine W.skip<|rg [.i ((n:Int) +1)]<|J Zdn ?_
   rotate_left
   all_goals try (exact vbf (fun q=>by have:=(q.crew n x hn2 hx).num;omega))
   refine⟨n+1,[some 1],[],⟨rfl,Zbg,⟨Zdg,I⟩,I⟩,?_,?_⟩
   rotate_left
   (dsimp only;omega)
   dsimp only
   exact⟨by omega,wc hc hx ⟨hk,by omega⟩⟩
  ·rw[decide_eq_false hk]at cw
   conv=>whnf
   refine g 0 0 []<|J UA<|W.sq<|W.cn<|J (fun _=>(W.skip (W.sq (W.blk (g 34 38 [.x (ar x)]<|J ⟨I,Zdl,I,I,I,UK,I⟩ (g 38 47 [.call VF [[]],BT,BT,BT,BT,BT,BT]<|J ⟨I,Zde,I,I,rfl,rfl,rfl,rfl,rfl,rfl,I⟩ (W.cn<|J (fun _=>(g 3 4 []<|J UA (RT ?_))) (noF rfl)))))))) (noF SI)
   exact vbf (fun q=>hk (q.crew n x hn2 hx).ok)
 obtain rfl:n = w.workers.length:=by omega
 conv=>whnf
 refine g 0 0 []<|J UA<|W.sq<|W.cn<|J (noT SI) fun _=>W.exit<|W.sq<|g 31 50 []<|J UD<|W.blk<|W.lp (fun s (n:Nat)=>⟨[(1,s.s 1),(10,s.s 10),(50,s.s 50),(51,s.s 51),(52,.i n)],[(1,[s.c 1 0,s.c 1 1,s.c 1 2,s.c 1 3,s.c 1 4,s.c 1 5,s.c 1 6,s.c 1 7,s.c 1 8,s.c 1 9,s.c 1 10,s.c 1 11,s.c 1 12,s.c 1 13,s.c 1 14,s.c 1 15,s.c 1 16])],[]⟩) (fun(n:Nat)=>n≤w.flight.length∧∀ x∈w.flight.take n,ParOk x) (fun(n:Nat)=>w.flight.length - n) (0) [some 1] [] ⟨rfl,Zbg,⟨Zdg,I⟩,I⟩ (by simp) ?_
 rintro n ⟨hn3,hc3⟩
 by_cases hn4:n < w.flight.length
 ·obtain⟨x,hx⟩:=af hn4
  obtain⟨hxs,hxb⟩:=l7 x (List.mem_of_getElem? hx)
  by_cases hA:0≤x.kind∧x.kind≤8
  ·by_cases hB:x.frm.size≤500
   ·by_cases hC:x.text.size≤500
    ·conv=>whnf
     refine g 0 0 []<|J UA<|W.sq<|W.cn<|J (fun _=>(W.skip (W.sq (W.blk (g 53 56 [.x (bz x)]<|J Zck (g 56 71 [.call (V.b (decide (0≤x.kind∧x.kind≤8))) [[],[],[]],BF,BF,BF,BF,BF,BF,BF,BF,BF,BF]<|J ⟨I,I,⟨UC,I,UU,UA,aa _ _ _⟩,I,I,⟨nO,I⟩,⟨nO,I⟩,⟨nO,I⟩,⟨nO,I⟩,nO,I,⟨dO,I⟩,⟨dO,I⟩,⟨dO,I⟩,⟨dO,I⟩,dO,I⟩ (W.cn<|J (noT dO) fun _=>(W.skip (rg [.i ((n:Int) +1)]<|J Zdn ?_))))))))) (noF SI)
     refine⟨n+1,[some 1],[],⟨rfl,Zbg,⟨Zdg,I⟩,I⟩,?_,?_⟩
     rotate_left
     (dsimp only;omega)
     dsimp only
     exact⟨by omega,dV hc3 hx ⟨hA,hB,hC⟩⟩
    ·conv=>whnf
     refine g 0 0 []<|J UA<|W.sq<|W.cn<|J (fun _=>(W.skip (W.sq (W.blk (g 53 56 [.x (bz x)]<|J Zck (g 56 71 [.call (V.b (decide (0≤x.kind∧x.kind≤8))) [[],[],[]],BF,BF,BF,BF,BF,BF,BF,BF,BF,BF]<|J ⟨I,I,⟨UC,I,UU,UA,aa _ _ _⟩,I,I,⟨nO,I⟩,⟨nO,I⟩,⟨nO,I⟩,⟨nO,I⟩,nO,I,⟨dO,I⟩,⟨dO,I⟩,⟨dO,I⟩,⟨dO,I⟩,dO,I⟩ (W.cn<|J (fun _=>(g 6 7 []<|J UA (RT ?_))) (noF tO)))))))) (noF SI)
     exact vbf (fun q=>hC (q.par x (List.mem_of_getElem? hx)).bytes)
   ·conv=>whnf
    refine g 0 0 []<|J UA<|W.sq<|W.cn<|J (fun _=>(W.skip (W.sq (W.blk (g 53 56 [.x (bz x)]<|J Zck (g 56 71 [.call (V.b (decide (0≤x.kind∧x.kind≤8))) [[],[],[]],BF,BF,BF,BF,BF,BT,BT,BT,BT,BT]<|J ⟨I,I,⟨UC,I,UU,UA,aa _ _ _⟩,I,I,⟨nO,I⟩,⟨nO,I⟩,⟨nO,I⟩,⟨nO,I⟩,nO,I,tO,tO,tO,tO,tO,I⟩ (W.cn<|J (fun _=>(g 6 7 []<|J UA (RT ?_))) (noF rfl)))))))) (noF SI)
    exact vbf (fun q=>hB (q.par x (List.mem_of_getElem? hx)).sent)
  ·conv=>whnf
   refine g 0 0 []<|J UA<|W.sq<|W.cn<|J (fun _=>(W.skip (W.sq (W.blk (g 53 56 [.x (bz x)]<|J Zck (g 56 71 [.call (V.b (decide (0≤x.kind∧x.kind≤8))) [[],[],[]],BT,BT,BT,BT,BT,BT,BT,BT,BT,BT]<|J ⟨I,I,⟨UC,I,UU,UA,aa _ _ _⟩,I,I,ag OM,ag OM,ag OM,ag OM,ag OM,I,rfl,rfl,rfl,rfl,rfl,I⟩ (W.cn<|J (fun _=>(g 6 7 []<|J UA (RT ?_))) (noF rfl)))))))) (noF SI)
   exact vbf (fun q=>hA (q.par x (List.mem_of_getElem? hx)).to)
 have hpar:∀ x∈w.flight,ParOk x:=by rw[aF OM]at hc3;exact hc3
 by_cases hb:BossOk w.boss w.plan
 ·rw[decide_eq_true hb]at cb
  conv=>whnf
  refine g 0 0 []<|J UA<|W.sq<|W.cn<|J (noT SI) fun _=>W.exit<|g 10 87 [.call VT [[],[]],BT,BT,BT,BT,BT,BT,BT,BT]<|J ⟨I,I,I,I,Zax,I,Zdh,Zdh,Zdh,Zdh,Zdh,Zdh,Zdh,rfl,I,I⟩<|RT ?_
  by_cases hs:w.boss.workers = w.workers.length
  ·simp only[List.length_map]
   rw[decide_eq_true hs]
   exact vbt ⟨by omega,by omega,by omega,by omega,hc,hpar,hb,hs⟩
  ·simp only[List.length_map]
   rw[decide_eq_false hs]
   exact vbf (fun q=>hs q.same)
 ·rw[decide_eq_false hb]at cb
  conv=>whnf
  refine g 0 0 []<|J UA<|W.sq<|W.cn<|J (noT SI) fun _=>W.exit<|g 10 87 [.call VF [[],[]],BF,BF,BF,BF,BF,BF,BF,BF]<|J ⟨I,I,I,I,Zax,I,rfl,rfl,rfl,rfl,rfl,rfl,rfl,rfl,I,I⟩<|RT ?_
  exact vbf (fun q=>hb q.boss)
theorem fc(w:World)(h:WorldLim w):F rm [.val (fi w)] (.b (decide (WorldOk w))) [[]]:=by
 obtain⟨l1,l2,l3,l4,l5,l6,l7⟩:=h
 have cp:=de w.plan l1
 have cb:=og w.boss w.plan l1 l2
 refine rA ?_
 conv=>whnf
 refine g 0 1 []<|J Zdv<|W.sq ?_
 by_cases h1:aq (Plan.tasks (World.plan w)) = (0:Int)
 by_cases h2:(30:Int) < (↑(ByteArray.size (World.key w)):Int)
 refine g 11 28 [.call (V.i (aq w.plan.tasks)) [[]],BF,BF,BF,BF,BF,BT,BT,BT,BT,BT,BT,BT,BT,BT,BT,BT]<|J ⟨I,I,Zak,I,I,⟨nO,I⟩,⟨nO,I⟩,⟨nO,I⟩,⟨nO,I⟩,nO,I,tO,tO,tO,tO,tO,tO,I,rfl,rfl,rfl,rfl,rfl,I⟩<|W.cn<|J (fun _=>(g 8 10 []<|J UA (RT ?_))) (noF rfl)
 rotate_left
 by_cases h3:(1:Int)≤(↑(List.length (List.map ar (World.workers w))):Int)∧(↑(List.length (List.map ar (World.workers w))):Int)≤(8:Int)
 simp only[LM]at h3
 refine g 11 28 [.call (V.i (aq w.plan.tasks)) [[]],BF,BF,BF,BF,BF,BF,BF,BF,BF,.call (V.b (decide (1≤(↑(List.length (List.map ar w.workers)):Int)∧(↑(List.length (List.map ar w.workers)):Int)≤8))) [[],[],[]],BF,BF,BF,BF,BF,BF,BF]<|J ⟨I,I,Zak,I,I,⟨nO,I⟩,⟨nO,I⟩,⟨nO,I⟩,⟨nO,I⟩,nO,I,⟨dO,I⟩,⟨dO,I⟩,⟨dO,I⟩,⟨dO,UC,I,UU,UA,ah _ _ _⟩,⟨dO,I⟩,dO,I,⟨SI,I⟩,⟨SI,I⟩,⟨SI,I⟩,⟨SI,I⟩,SI,I⟩<|W.cn<|J (fun h4=>?_) fun h4=>?_
 replace h4:=dt h4
 simp only[LM]at h4
 refine g 8 10 []<|J UA<|RT ?_
 rotate_left
 replace h4:=df h4
 simp only[LM]at h4
 refine W.skip<|W.sq<|g 8 10 []<|J UA<|W.blk ?_
 rotate_left
 simp only[LM]at h3
 refine g 11 28 [.call (V.i (aq w.plan.tasks)) [[]],BF,BF,BF,BF,BF,BF,BF,BF,BF,.call (V.b (decide (1≤(↑(List.length (List.map ar w.workers)):Int)∧(↑(List.length (List.map ar w.workers)):Int)≤8))) [[],[],[]],BF,BF,BT,BT,BT,BT,BT]<|J ⟨I,I,Zak,I,I,⟨nO,I⟩,⟨nO,I⟩,⟨nO,I⟩,⟨nO,I⟩,nO,I,⟨dO,I⟩,⟨dO,I⟩,⟨dO,I⟩,⟨dO,UC,I,UU,UA,ah _ _ _⟩,⟨dO,I⟩,dO,I,SI,SI,SI,SI,SI,I⟩<|W.cn<|J (fun _=>(g 8 10 []<|J UA (RT ?_))) (noF rfl)
 rotate_left
 refine g 11 28 [.call (V.i (aq w.plan.tasks)) [[]],BT,BT,BT,BT,BT,BT,BT,BT,BT,BT,BT,BT,BT,BT,BT,BT]<|J ⟨I,I,Zak,I,I,ag OM,ag OM,ag OM,ag OM,ag OM,I,rfl,rfl,rfl,rfl,rfl,rfl,I,rfl,rfl,rfl,rfl,rfl,I⟩<|W.cn<|J (fun _=>(g 8 10 []<|J UA (RT ?_))) (noF rfl)
 rotate_left
 all_goals try (exact vbf (fun q=>by have e1:=q.plan;have e2:=q.key;have e3:=q.wl;have e4:=q.fl;omega))
 refine W.lp (fun s (n:Nat)=>⟨[(1,s.s 1),(3,.i n),(7,s.s 7),(10,s.s 10)],[(1,[s.c 1 0,s.c 1 1,s.c 1 2,s.c 1 3,s.c 1 4,s.c 1 5,s.c 1 6,s.c 1 7,s.c 1 8,s.c 1 9,s.c 1 10,s.c 1 11,s.c 1 12,s.c 1 13,s.c 1 14,s.c 1 15,s.c 1 16])],[]⟩) (fun(n:Nat)=>n≤w.workers.length∧yg w.workers n) (fun(n:Nat)=>w.workers.length - n) (0) [some 1] [] ⟨rfl,⟨rfl,rfl,⟨_,rfl,_,_,rfl,rfl,rfl⟩,rfl,I⟩,⟨⟨rfl,⟨rfl,⟨rfl,⟨rfl,⟨rfl,⟨rfl,⟨rfl,⟨rfl,⟨rfl,⟨rfl,⟨rfl,⟨rfl,⟨rfl,⟨rfl,⟨rfl,⟨rfl,⟨rfl,⟨rfl,I⟩⟩⟩⟩⟩⟩⟩⟩⟩⟩⟩⟩⟩⟩⟩⟩⟩⟩,I⟩,I⟩ ?_ ?_
 ·exact⟨Nat.zero_le _,wb _⟩
 rintro n ⟨hn,hc⟩
 by_cases hn2:n < w.workers.length
 ·obtain⟨x,hx⟩:=af hn2
  have hxi:=l5 x (List.mem_of_getElem? hx)
  have cw:=au x OM
  by_cases hk:av x
  ·rw[decide_eq_true hk]at cw
   conv=>whnf
   refine W.sq<|g 29 33 []<|J UE<|W.cn<|J (fun _=>(W.skip (W.sq (W.blk (g 33 53 [.x (ar x),.call VT [[]],BF,BF,BF,BF,.x (ar x),BF,BF,BF,BF,.i ((n:Int) +1),BF,BF]<|J ⟨I,I,I,Zdl,I,Zde,I,I,Zdh,Zdh,Zdh,⟨rfl,OM,xA⟩,Zdh,Zdh,Zdh,⟨rfl,wO⟩,Zdh,rfl,I⟩ (W.cn<|J (fun h5=>?_) fun h5=>?_)))))) (noF SI)
   replace h5:=ndt h5
   refine g 53 54 []<|J UA<|RT ?_
   rotate_left
   replace h5:=ndf h5
   refine W.skip<|rg [.i ((n:Int) +1)]<|J Zdi ?_
   rotate_left
   all_goals try (exact vbf (fun q=>by have:=(q.crew n x hn2 hx).num;omega))
   refine⟨n+1,[some 1],[],⟨rfl,⟨rfl,rfl,Zai,rfl,I⟩,⟨Zdg,I⟩,I⟩,?_,?_⟩
   rotate_left
   (dsimp only;omega)
   dsimp only
   exact⟨by omega,wc hc hx ⟨hk,by omega⟩⟩
  ·rw[decide_eq_false hk]at cw
   conv=>whnf
   refine W.sq<|g 29 33 []<|J UE<|W.cn<|J (fun _=>(W.skip (W.sq (W.blk (g 33 53 [.x (ar x),.call VF [[]],BT,BT,BT,BT,BT,BT,BT,BT,BT,BT]<|J ⟨I,I,I,Zdl,I,Zde,I,I,rfl,rfl,rfl,rfl,rfl,rfl,rfl,rfl,rfl,rfl,I⟩ (W.cn<|J (fun _=>(g 53 54 []<|J UA (RT ?_))) (noF rfl))))))) (noF SI)
   exact vbf (fun q=>hk (q.crew n x hn2 hx).ok)
 obtain rfl:n = w.workers.length:=by omega
 conv=>whnf
 refine W.sq<|g 29 33 []<|J UE<|W.cn<|J (noT SI) fun _=>W.exit<|W.sq<|g 3 4 []<|J UA<|W.blk<|W.lp (fun s (n:Nat)=>⟨[(1,s.s 1),(4,.i n),(7,s.s 7),(10,s.s 10)],[(1,[s.c 1 0,s.c 1 1,s.c 1 2,s.c 1 3,s.c 1 4,s.c 1 5,s.c 1 6,s.c 1 7,s.c 1 8,s.c 1 9,s.c 1 10,s.c 1 11,s.c 1 12,s.c 1 13,s.c 1 14,s.c 1 15,s.c 1 16])],[]⟩) (fun(n:Nat)=>n≤w.flight.length∧∀ x∈w.flight.take n,ParOk x) (fun(n:Nat)=>w.flight.length - n) (0) [some 1] [] ⟨rfl,⟨rfl,rfl,Zai,rfl,I⟩,⟨Zdg,I⟩,I⟩ (by simp) ?_
 rintro n ⟨hn3,hc3⟩
 by_cases hn4:n < w.flight.length
 ·obtain⟨x,hx⟩:=af hn4
  obtain⟨hxs,hxb⟩:=l7 x (List.mem_of_getElem? hx)
  by_cases hA:0≤x.kind∧x.kind≤8
  ·by_cases hB:x.frm.size≤500
   ·by_cases hC:x.text.size≤500
    ·conv=>whnf
     refine W.sq<|g 54 58 []<|J UE<|W.cn<|J (fun _=>(W.skip (W.sq (W.blk (g 58 66 [.x (bz x)]<|J Zbj (g 66 81 [.call (V.b (decide (0≤x.kind∧x.kind≤8))) [[],[],[]],BF,BF,BF,BF,BF,BF,BF,BF,BF,BF]<|J ⟨I,I,⟨UC,I,UU,UA,ah _ _ _⟩,I,I,⟨nO,I⟩,⟨nO,I⟩,⟨nO,I⟩,⟨nO,I⟩,nO,I,⟨dO,I⟩,⟨dO,I⟩,⟨dO,I⟩,⟨dO,I⟩,dO,I⟩ (W.cn<|J (noT dO) fun _=>(W.skip (rg [.i ((n:Int) +1)]<|J Zdi ?_))))))))) (noF SI)
     refine⟨n+1,[some 1],[],⟨rfl,⟨rfl,rfl,Zai,rfl,I⟩,⟨Zdg,I⟩,I⟩,?_,?_⟩
     rotate_left
     (dsimp only;omega)
     dsimp only
     exact⟨by omega,dV hc3 hx ⟨hA,hB,hC⟩⟩
    ·conv=>whnf
     refine W.sq<|g 54 58 []<|J UE<|W.cn<|J (fun _=>(W.skip (W.sq (W.blk (g 58 66 [.x (bz x)]<|J Zbj (g 66 81 [.call (V.b (decide (0≤x.kind∧x.kind≤8))) [[],[],[]],BF,BF,BF,BF,BF,BF,BF,BF,BF,BF]<|J ⟨I,I,⟨UC,I,UU,UA,ah _ _ _⟩,I,I,⟨nO,I⟩,⟨nO,I⟩,⟨nO,I⟩,⟨nO,I⟩,nO,I,⟨dO,I⟩,⟨dO,I⟩,⟨dO,I⟩,⟨dO,I⟩,dO,I⟩ (W.cn<|J (fun _=>(g 5 6 []<|J UA (RT ?_))) (noF tO)))))))) (noF SI)
     exact vbf (fun q=>hC (q.par x (List.mem_of_getElem? hx)).bytes)
   ·conv=>whnf
    refine W.sq<|g 54 58 []<|J UE<|W.cn<|J (fun _=>(W.skip (W.sq (W.blk (g 58 66 [.x (bz x)]<|J Zbj (g 66 81 [.call (V.b (decide (0≤x.kind∧x.kind≤8))) [[],[],[]],BF,BF,BF,BF,BF,BT,BT,BT,BT,BT]<|J ⟨I,I,⟨UC,I,UU,UA,ah _ _ _⟩,I,I,⟨nO,I⟩,⟨nO,I⟩,⟨nO,I⟩,⟨nO,I⟩,nO,I,tO,tO,tO,tO,tO,I⟩ (W.cn<|J (fun _=>(g 5 6 []<|J UA (RT ?_))) (noF rfl)))))))) (noF SI)
    exact vbf (fun q=>hB (q.par x (List.mem_of_getElem? hx)).sent)
  ·conv=>whnf
   refine W.sq<|g 54 58 []<|J UE<|W.cn<|J (fun _=>(W.skip (W.sq (W.blk (g 58 66 [.x (bz x)]<|J Zbj (g 66 81 [.call (V.b (decide (0≤x.kind∧x.kind≤8))) [[],[],[]],BT,BT,BT,BT,BT,BT,BT,BT,BT,BT]<|J ⟨I,I,⟨UC,I,UU,UA,ah _ _ _⟩,I,I,ag OM,ag OM,ag OM,ag OM,ag OM,I,rfl,rfl,rfl,rfl,rfl,I⟩ (W.cn<|J (fun _=>(g 5 6 []<|J UA (RT ?_))) (noF rfl)))))))) (noF SI)
   exact vbf (fun q=>hA (q.par x (List.mem_of_getElem? hx)).to)
 have hpar:∀ x∈w.flight,ParOk x:=by rw[aF OM]at hc3;exact hc3
 by_cases hs:w.boss.workers = w.workers.length
 ·by_cases hb:BossOk w.boss w.plan
  ·rw[decide_eq_true hb]at cb
   conv=>whnf
   refine W.sq<|g 54 58 []<|J UE<|W.cn<|J (noT SI) fun _=>W.exit<|g 7 96 [BT,BT,BT,BT,BT,.call VT [[],[]],BT]<|J ⟨I,I,I,I,I,I,I,I,⟨SI,I⟩,⟨SI,I⟩,⟨SI,I⟩,⟨SI,I⟩,⟨SI,UB,I,⟨UL,UA,I⟩,UA,AS⟩,SI,I,I⟩<|RT ?_
   exact vbt ⟨by omega,by omega,by omega,by omega,hc,hpar,hb,hs⟩
  ·rw[decide_eq_false hb]at cb
   conv=>whnf
   refine W.sq<|g 54 58 []<|J UE<|W.cn<|J (noT SI) fun _=>W.exit<|g 7 96 [BT,BT,BT,BT,BT,.call VF [[],[]],BT]<|J ⟨I,I,I,I,I,I,I,I,⟨SI,I⟩,⟨SI,I⟩,⟨SI,I⟩,⟨SI,I⟩,⟨SI,UB,I,⟨UL,UA,I⟩,UA,AS⟩,SI,I,I⟩<|RT ?_
   exact vbf (fun q=>hb q.boss)
 ·conv=>whnf
  refine W.sq<|g 54 58 []<|J UE<|W.cn<|J (noT SI) fun _=>W.exit<|g 7 96 [BF,BF,BF,BF,BF,BF]<|J ⟨I,I,I,I,I,I,I,I,SI,SI,SI,SI,SI,SI,I,I⟩<|RT ?_
  exact vbf (fun q=>hs q.same)
end Go.K
end
section
open Go Go.Tm Go.Proofs
namespace Go.K
structure FinOk (w:World):Prop where
 ok:WorldOk w
 up:w.boss.up = true
 all:∀ r∈w.boss.results,¬r = emp
noncomputable instance (w:World):Decidable (FinOk w):=Classical.propDecidable _
end Go.K
end
section
open Go Go.Tm Go.Proofs
namespace Go.K
theorem Eh{w:World}(hw:sW w)(h:eE w≤1048576):WorldLim w:=by
 obtain⟨w0,w1,w2,w3,w4,w5,w6,w7⟩:=hw
 have e:eE w = aK w.plan+ (w.key.size:Int) +bJ w.boss+ ((w.workers.length:Int) +ak aS w.workers) + ((w.flight.length:Int) +ak eM w.flight) + (w.forged.size:Int):=rfl
 have h1:=lM w.plan
 have h2:=jP w.boss
 have h3:=aJ cg w.workers
 have h4:=aJ gx w.flight
 refine⟨w0,J6 OM,w1,by omega,fun x hx=>?_,by omega,w6⟩
 have h5:=gW cg hx
 have h6:aS x = (x.inputs.length+bQ x.inputs) +x.text.size:=rfl
 have h7:=bm x.inputs
 omega
end Go.K
end
section
open Go Go.Tm Go.Proofs
namespace Go.K
structure Inv (L:Nat) (t:Tale) (ys:List ByteArray):Prop where
 len:t.results.length = L
 fwd:∀ s∈ys,∃ e,ey s = some e∧(¬e.kind = 1→e.kind = 2∧0≤e.task∧e.task < L∧atS t.results e.task = e.text∧¬e.text = emp)
 back:∀ i:Nat,¬atS t.results (i:Int) = emp→∃ s∈ys,∃ e,ey s = some e∧¬e.kind = 1∧e.task = (i:Int)∧e.text = atS t.results (i:Int)
theorem vG{rs:List ByteArray}{k:Int}{v:ByteArray}(h0:0≤k)(h:k < rs.length):atS (rs.set k.toNat v) k = v:=by
 unfold atS;rw[List.getElem?_set_self OM];rfl
theorem lU{rs:List ByteArray}{k j:Int}{v:ByteArray}(h0:0≤k)(hj:0≤j)(h:¬j = k):atS (rs.set k.toNat v) j = atS rs j:=by
 unfold atS;rw[List.getElem?_set_ne OM]
theorem Q9{ts:List Task}{t u:Tale}{s:ByteArray}{ys:List ByteArray}(hi:Inv ts.length t ys)(h:dM ts t s = some u):Inv ts.length u (ys++ [s]):=by
 obtain⟨i1,i2,i3⟩:=hi
 unfold dM at h
 cases he:ey s with
 |none=>rw[he]at h;cases h
 |some e =>
  rw[he]at h
  have hok:=jK he
  obtain⟨o1,o2,o3⟩:=hok
  simp only at h
  by_cases hk:e.kind = 1
  ·rw[if_pos hk]at h
   split at h
   ·cases h
    refine⟨i1,fun s' hs'=>?_,fun i hi=>?_⟩
    ·rcases List.mem_append.1 hs' with hs'|hs'
     ·exact i2 s' hs'
     ·rw[List.mem_singleton.1 hs'];exact⟨e,he,fun q=>absurd hk q⟩
    ·obtain⟨s',hs',q⟩:=i3 i hi
     exact⟨s',List.mem_append_left _ hs',q⟩
   ·cases h
  ·rw[if_neg hk]at h
   split at h
   ·rename_i hc
    cases h
    obtain⟨_,c2,c3,_⟩:=hc
    have hlt:e.task < (t.results.length:Int):=by omega
    have h8:e.kind = 2∧(e.text.size:Int) = 8:=by
     rcases o3 with q|q
     ·exact absurd q.1 hk
     ·exact q
    have hne:¬e.text = emp:=fun q=>by have:=h8.2;rw[q]at this;cases this
    have c4:atS t.results e.task = emp:=c3
    refine⟨by rw[List.length_set];exact i1,fun s' hs'=>?_,fun i hi=>?_⟩
    ·rcases List.mem_append.1 hs' with hs'|hs'
     ·obtain⟨e',h1,h2⟩:=i2 s' hs'
      refine⟨e',h1,fun q=>?_⟩
      obtain⟨g0,g1,g2,g3,g4⟩:=h2 q
      have hd:¬e'.task = e.task:=fun w=>by rw[w,c4]at g3;exact g4 g3.symm
      exact⟨g0,g1,g2,by rw[lU o2.1 g1 hd];exact g3,g4⟩
     ·rw[List.mem_singleton.1 hs']
      exact⟨e,he,fun _=>⟨h8.1,o2.1,c2,vG o2.1 hlt,hne⟩⟩
    ·by_cases hd:(i:Int) = e.task
     ·refine⟨s,List.mem_append_right _ (List.mem_singleton.2 rfl),e,he,hk,hd.symm,?_⟩
      rw[hd,vG o2.1 hlt]
     ·rw[lU o2.1 OM hd]at hi ⊢
      obtain⟨s',hs',q⟩:=i3 i hi
      exact⟨s',List.mem_append_left _ hs',q⟩
   ·cases h
theorem MS{ts:List Task}:∀ {l:List ByteArray} {t u:Tale} {ys:List ByteArray},Inv ts.length t ys→ke ts (some t) l = some u→Inv ts.length u (ys++l)
 |[],t,u,ys,hi,h=>by rw[ka]at h;cases h;rw[List.append_nil];exact hi
 |s :: l,t,u,ys,hi,h=>by
  rw[oC]at h
  cases hs:dM ts t s with
  |none=>rw[hs,iy]at h;cases h
  |some v =>
   rw[hs]at h
   have:=MS (Q9 hi hs) h
   rw[List.append_assoc]at this;exact this
theorem Xe(n:Nat)(k:Int):atS (List.replicate n emp) k = emp:=by
 unfold atS;rw[List.getElem?_replicate];split <;> rfl
theorem Q8(ts:List Task):Inv ts.length (lC ts) []:=⟨by rw[lC,List.length_replicate],fun s hs=>(by cases hs),fun i hi=>absurd (Xe _ _) hi⟩
theorem vj{p:Plan}{xs:List ByteArray}(h:(aw p xs).code = 0):Inv p.tasks.length ⟨(aw p xs).epoch,(aw p xs).results⟩ xs:=by
 obtain⟨_,_,_,t,h1,h2⟩:=cE h
 have:=MS (Q8 p.tasks) h1
 rw[h2];exact this
end Go.K
end
section
open Go Go.Tm Go.Proofs
namespace Go.K
def mQ(w:Int)(j:Job):Job:=if j.worker = w then fR else j
def nw(l t:Int)(j:Job):Job:=if j.lease = l then⟨j.lease,j.worker,t⟩else j
def gp(m:Message):Nat:=(m.frm - 1).toNat
def rR(b:Boss)(m:Message):Prop:=m.epoch < (mc b.seats (gp m)).epoch
instance (b:Boss) (m:Message):Decidable (rR b m):=by unfold rR;infer_instance
def mR(b:Boss)(m:Message):Boss:=if rR b m then b else⟨b.workers,b.up,b.now,b.since,b.epoch,b.given,b.log,b.results,b.jobs,b.seats.set (gp m) ⟨true,m.epoch⟩,b.owed⟩
def xu(b:Boss)(m:Message):Boss:=if rR b m then b else⟨b.workers,b.up,b.now,b.since,b.epoch,b.given,b.log,b.results,b.jobs.map (mQ m.frm),b.seats.set (gp m) ⟨true,m.epoch⟩,b.owed⟩
def TO(b:Boss)(m:Message):Boss:=⟨b.workers,b.up,b.now,b.since,b.epoch,b.given,b.log,b.results,b.jobs.map (nw m.lease (b.now+12)),b.seats,b.owed⟩
structure CanPut (b:Boss) (ts:List Task) (m:Message):Prop where
 res:atS b.results m.task = emp
 ready:cX b.results (nv ts m.task.toNat)
 room:b.log.safe.length+b.log.loose.length < 310
noncomputable instance (b:Boss) (ts:List Task) (m:Message):Decidable (CanPut b ts m):=Classical.propDecidable _
def mI(b:Boss)(m:Message):Boss:=⟨b.workers,b.up,b.now,b.since,b.epoch,b.given,⟨b.log.safe,b.log.loose++ [dk ⟨2,b.epoch,m.task,m.text⟩]⟩,b.results.set m.task.toNat m.text,b.jobs.set m.task.toNat fR,b.seats,b.owed⟩
noncomputable def sZ(b:Boss)(ts:List Task)(m:Message):Boss:=if CanPut b ts m then mI b m else b
def EC(b:Boss)(m:Message):Boss:=if atS b.results m.task = emp then mR b m else b
structure Owes (b:Boss) (m:Message):Prop where
 same:atS b.results m.task = m.text
 room:b.owed.length < 2000
 new:∀ o∈b.owed,¬(o.worker = m.frm∧o.lease = m.lease)
noncomputable instance (b:Boss) (m:Message):Decidable (Owes b m):=Classical.propDecidable _
noncomputable def BL(b:Boss)(m:Message):Boss:=if Owes b m then⟨b.workers,b.up,b.now,b.since,b.epoch,b.given,b.log,b.results,b.jobs,b.seats,b.owed++ [⟨m.frm,m.lease,m.task⟩]⟩else b
noncomputable def ff(b:Boss)(ts:List Task)(m:Message):Boss:=BL (EC (sZ b ts m) m) m
structure ForB (b:Boss) (m:Message):Prop where
 up:b.up = true
 ok:bP m
 to:m.to = 0
 frm:m.frm≤b.workers
noncomputable instance (b:Boss) (m:Message):Decidable (ForB b m):=Classical.propDecidable _
noncomputable def hY(b:Boss)(ts:List Task)(m:Message):Boss :=
 if ForB b m then
  (if m.kind = 5 then xu b m else if m.kind = 2 then TO b m else if m.kind = 3 then(if m.task < ts.length then ff b ts m else b)else b)
 else b
theorem G8{b:Boss}{ts:List Task}{m:Message}(h:¬ForB b m):hY b ts m = b:=if_neg h
theorem oy{b:Boss}{ts:List Task}{m:Message}(h:ForB b m)(hk:m.kind = 5):hY b ts m = xu b m:=by rw[hY,if_pos h,if_pos hk]
theorem oz{b:Boss}{ts:List Task}{m:Message}(h:ForB b m)(hk:m.kind = 2):hY b ts m = TO b m:=by rw[hY,if_pos h,if_neg OM,if_pos hk]
theorem su{b:Boss}{ts:List Task}{m:Message}(h:ForB b m)(hk:m.kind = 3)(ht:m.task < ts.length):hY b ts m = ff b ts m:=by rw[hY,if_pos h,if_neg OM,if_neg OM,if_pos hk,if_pos ht]
theorem sv{b:Boss}{ts:List Task}{m:Message}(h:ForB b m)(hk:m.kind = 3)(ht:¬m.task < ts.length):hY b ts m = b:=by rw[hY,if_pos h,if_neg OM,if_neg OM,if_pos hk,if_neg ht]
theorem oc{b:Boss}{m:Message}(h:ForB b m):(m.kind = 2∨m.kind = 3∨m.kind = 5)∧(1≤m.frm∧m.frm≤8)∧(1≤m.epoch∧m.epoch≤300):=by
 obtain⟨h1,h2⟩:=h.ok
 have h0:=h.to
 rcases h2 with q|q|q|q|q
 ·have:=q.2.2.1;omega
 ·exact⟨.inl q.1,q.2.2.1,h1⟩
 ·exact⟨.inr (.inl q.1),q.2.2.1,h1⟩
 ·have:=q.2.2.1;omega
 ·exact⟨.inr (.inr q.1),q.2.2.1,h1⟩
theorem GT{b:Boss}{m:Message}(h:ForB b m)(hk:m.kind = 3):(1≤m.lease∧m.lease≤300000000)∧(0≤m.task∧m.task≤39)∧(m.text.size:Int) = 8:=by
 obtain⟨h1,h2⟩:=h.ok
 rcases h2 with q|q|q|q|q
 ·have:=q.1;omega
 ·have:=q.1;omega
 ·exact⟨q.2.2.2.1,q.2.2.2.2.1,q.2.2.2.2.2.1⟩
 ·have:=q.1;omega
 ·have:=q.1;omega
noncomputable def Ec(b:Boss)(p:Plan)(m:Message):Led:=if BossOk b p then⟨hY b p.tasks m,[]⟩else Hg
theorem om{b:Boss}{p:Plan}{m:Message}(h:BossOk b p):Ec b p m = ⟨hY b p.tasks m,[]⟩:=if_pos h
theorem Rz{b:Boss}{p:Plan}{m:Message}(h:¬BossOk b p):Ec b p m = Hg:=if_neg h
end Go.K
end
section
open Go Go.Tm Go.Proofs
namespace Go.K
theorem W1{ep now given workers:Int}{rs:List ByteArray}{ts:List Task}{js:List Job}{k:Int}{tx:ByteArray}(h:JL ep now given workers rs ts js)(h0:0≤k)(hk:k < rs.length)(hj:k < js.length)(ht:¬tx = emp):JL ep now given workers (rs.set k.toNat tx) ts (js.set k.toNat fR):=by
 have g:∀ {i:Nat} {x:Job},(js.set k.toNat fR)[i]? = some x→¬x.lease = 0→¬(i:Int) = k∧js[i]? = some x:=fun{i x} hx hz=>by
  by_cases e:i = k.toNat
  ·subst e
   rw[List.getElem?_set_self OM]at hx
   rw[←Option.some.inj hx]at hz;exact absurd rfl hz
  ·rw[List.getElem?_set_ne (fun q=>e q.symm)]at hx
   exact⟨by omega,hx⟩
 have hat:∀ i:Int,0≤i→¬i = k→atS (rs.set k.toNat tx) i = atS rs i:=fun i hi e=>lU h0 hi e
 refine⟨fun i x hx hz=>?_,fun i x hx hz=>h.lease i x (g hx hz).2 hz,fun i x hx hz=>h.worker i x (g hx hz).2 hz,fun i x hx hz=>h.til i x (g hx hz).2 hz,fun i x hx hz=>?_,fun i x hx hz=>?_,fun i m x y him hx hy hz e=>?_⟩
 ·by_cases e:i = k.toNat
  ·subst e
   rw[List.getElem?_set_self OM]at hx
   rw[←Option.some.inj hx];exact⟨rfl,rfl⟩
  ·rw[List.getElem?_set_ne (fun q=>e q.symm)]at hx
   exact h.zero i x hx hz
 ·rw[hat i OM (g hx hz).1];exact h.res i x (g hx hz).2 hz
 ·intro d hd q
  have hr:=h.ready i x (g hx hz).2 hz d hd
  by_cases e:d.toNat = k.toNat
  ·rw[e,List.getElem?_set_self OM]at q;exact ht q
  ·rw[List.getElem?_set_ne (fun w=>e w.symm)]at q;exact hr q
 ·have hzx:¬x.lease = 0:=fun w=>hz (by rw[←e];exact w)
  exact h.once i m x y him (g hx hzx).2 (g hy hz).2 hz e
theorem Lu{b:Boss}{p:Plan}{m:Message}(hv:BossOk b p)(hup:b.up = true)(he:1≤m.epoch∧m.epoch≤300):BossOk (mR b m) p:=by
 unfold mR;split
 ·exact hv
 ·obtain⟨u1,u2,u3,u4,u5,u6,u7,u9,u11,u12,u13,u14⟩:=hv.up hup
  refine⟨hv.plan,hv.workers,hv.now,hv.code,fun _=>?_,fun e=>by rw[show b.up = false from e]at hup;cases hup⟩
  refine⟨u1,u2,u3,u4,by show((b.seats.set _ _).length:Int) = _;rw[List.length_set];exact u5,u6,u7,u9,u11,Eb (show JL b.epoch b.now b.given b.workers b.results p.tasks b.jobs from Hk u12),fun s hs=>?_,fun o ho=>by obtain⟨a1,a2,a3,a4⟩:=u14 o ho;exact⟨a1,a2,a3,a4⟩⟩
  rcases List.mem_or_eq_of_mem_set hs with hs|hs
  ·exact u13 s hs
  ·rw[hs];exact⟨by dsimp only;omega,by dsimp only;omega⟩
theorem Lo{b:Boss}{p:Plan}{m:Message}(hv:BossOk b p)(hup:b.up = true)(he:1≤m.epoch∧m.epoch≤300):BossOk (xu b m) p:=by
 unfold xu;split
 ·exact hv
 ·obtain⟨u1,u2,u3,u4,u5,u6,u7,u9,u11,u12,u13,u14⟩:=hv.up hup
  refine⟨hv.plan,hv.workers,hv.now,hv.code,fun _=>?_,fun e=>by rw[show b.up = false from e]at hup;cases hup⟩
  refine⟨u1,u2,u3,by show(b.jobs.map _).length = _;rw[List.length_map];exact u4,by show((b.seats.set _ _).length:Int) = _;rw[List.length_set];exact u5,u6,u7,u9,u11,Eb (Vg (Hk u12)),fun s hs=>?_,fun o ho=>by obtain⟨a1,a2,a3,a4⟩:=u14 o ho;exact⟨a1,a2,a3,a4⟩⟩
  rcases List.mem_or_eq_of_mem_set hs with hs|hs
  ·exact u13 s hs
  ·rw[hs];exact⟨by dsimp only;omega,by dsimp only;omega⟩
theorem LL{b:Boss}{p:Plan}{m:Message}(hv:BossOk b p)(hup:b.up = true)(hl:1≤m.lease):BossOk (TO b m) p:=by
 obtain⟨u1,u2,u3,u4,u5,u6,u7,u9,u11,u12,u13,u14⟩:=hv.up hup
 refine⟨hv.plan,hv.workers,hv.now,hv.code,fun _=>?_,fun e=>by rw[show b.up = false from e]at hup;cases hup⟩
 exact⟨u1,u2,u3,by show(b.jobs.map _).length = _;rw[List.length_map];exact u4,u5,u6,u7,u9,u11,Eb (Vh hl (Hk u12)),u13,fun o ho=>by obtain⟨a1,a2,a3,a4⟩:=u14 o ho;exact⟨a1,a2,a3,a4⟩⟩
theorem K3{b:Boss}{p:Plan}{m:Message}(hv:BossOk b p)(hup:b.up = true)(ht:0≤m.task∧m.task < p.tasks.length)(hx:(m.text.size:Int) = 8):BossOk (sZ b p.tasks m) p:=by
 unfold sZ;split
 ·rename_i hp
  obtain⟨u1,u2,u3,u4,u5,u6,u7,u9,u11,u12,u13,u14⟩:=hv.up hup
  obtain⟨c1,c2,c3⟩:=hp
  have hne:¬m.text = emp:=fun q=>by rw[q]at hx;cases hx
  obtain⟨t,ht0⟩:=af (xs:=p.tasks) (n:=m.task.toNat) OM
  rw[dW ht0]at c2
  have hc:(aw p (b.log.safe++b.log.loose)).code = 0:=hv.code
  have h3:=(fP hc).2
  have hpl:=(bU hv.plan).1
  have hok:Entry.ok ⟨2,b.epoch,m.task,m.text⟩:=⟨⟨u2,by show b.epoch≤300;rw[u1];exact h3⟩,⟨ht.1,by show m.task≤39;omega⟩,.inr ⟨rfl,hx⟩⟩
  have e:=HQ (p:=p) (xs:=b.log.safe++b.log.loose) (e:=⟨2,b.epoch,m.task,m.text⟩) hc (by rw[List.length_append];exact c3) hok (by show ¬(2:Int) = 1;omega) u1 ht0 ht.2 (by rw[←show b.results = (aw p (b.log.safe++b.log.loose)).results from u6];exact c1) (by rw[←show b.results = (aw p (b.log.safe++b.log.loose)).results from u6];exact c2)
  have es:cA (mI b m) p = ⟨0,(cA b p).epoch,(cA b p).results.set m.task.toNat m.text⟩:=by
   show aw p (b.log.safe++ (b.log.loose++ [dk _])) = _
   rw[←List.append_assoc,e];rfl
  refine⟨hv.plan,hv.workers,hv.now,by rw[es],fun _=>?_,fun e=>by rw[show b.up = false from e]at hup;cases hup⟩
  rw[es]
  refine⟨u1,u2,by show(b.results.set _ _).length = _;rw[List.length_set];exact u3,by show(b.jobs.set _ _).length = _;rw[List.length_set];exact u4,u5,by show b.results.set _ _ = _;rw[u6],u7,u9,u11,Eb (W1 (Hk u12) ht.1 OM OM hne),u13,fun o ho=>?_⟩
  obtain⟨a1,a2,a3,a4⟩:=u14 o ho
  refine⟨a1,a2,a3,fun q=>?_⟩
  change atS (b.results.set m.task.toNat m.text) o.task = emp at q
  by_cases e:o.task = m.task
  ·rw[e,vG ht.1 OM]at q;exact hne q
  ·rw[lU ht.1 a3.1 e]at q;exact a4 q
 ·exact hv
theorem K1{b:Boss}{p:Plan}{m:Message}(hv:BossOk b p)(hup:b.up = true)(hf:1≤m.frm∧m.frm≤b.workers)(hl:1≤m.lease∧m.lease≤300000000)(ht:0≤m.task∧m.task < p.tasks.length)(hx:(m.text.size:Int) = 8):BossOk (BL b m) p:=by
 unfold BL;split
 ·rename_i ho
  obtain⟨u1,u2,u3,u4,u5,u6,u7,u9,u11,u12,u13,u14⟩:=hv.up hup
  have hne:¬m.text = emp:=fun q=>by rw[q]at hx;cases hx
  have hr:=ho.room
  refine⟨hv.plan,hv.workers,hv.now,hv.code,fun _=>?_,fun e=>by rw[show b.up = false from e]at hup;cases hup⟩
  refine⟨u1,u2,u3,u4,u5,u6,u7,u9,by show(b.owed++ [_]).length≤2000;rw[List.length_append,List.length_singleton];omega,Eb (show JL b.epoch b.now b.given b.workers b.results p.tasks b.jobs from Hk u12),u13,fun o ho2=>?_⟩
  rcases List.mem_append.1 ho2 with ho2|ho2
  ·obtain⟨a1,a2,a3,a4⟩:=u14 o ho2;exact⟨a1,a2,a3,a4⟩
  ·rw[List.mem_singleton.1 ho2]
   exact⟨hf,hl,⟨ht.1,by dsimp only;omega⟩,by show ¬atS b.results m.task = emp;rw[ho.same];exact hne⟩
 ·exact hv
theorem Mp{b:Boss}{ts:List Task}{m:Message}:(sZ b ts m).up = b.up∧(sZ b ts m).workers = b.workers:=by unfold sZ;split <;> exact⟨rfl,rfl⟩
theorem Mo{b:Boss}{m:Message}:(EC b m).up = b.up∧(EC b m).workers = b.workers:=by
 unfold EC;split
 ·unfold mR;split <;> exact⟨rfl,rfl⟩
 ·exact⟨rfl,rfl⟩
theorem KN{b:Boss}{p:Plan}(m:Message)(hv:BossOk b p):BossOk (hY b p.tasks m) p:=by
 by_cases hf:ForB b m
 ·obtain⟨hkd,⟨f1,f2⟩,he⟩:=oc hf
  have hup:=hf.up
  rcases hkd with hk|hk|hk
  ·rw[oz hf hk]
   refine LL hv hup ?_
   rcases hf.ok.2 with q|q|q|q|q
   ·have:=q.1;omega
   ·exact q.2.2.2.1.1
   ·have:=q.1;omega
   ·have:=q.1;omega
   ·have:=q.1;omega
  ·by_cases ht:m.task < p.tasks.length
   ·rw[su hf hk ht]
    obtain⟨r1,⟨r2,_⟩,r4⟩:=GT hf hk
    have v1:=K3 hv hup ⟨r2,ht⟩ r4
    obtain⟨w1,w2⟩:=Mp (b:=b) (ts:=p.tasks) (m:=m)
    have v2:BossOk (EC (sZ b p.tasks m) m) p:=by
     unfold EC;split
     ·exact Lu v1 (by rw[w1];exact hup) he
     ·exact v1
    obtain⟨w3,w4⟩:=Mo (b:=sZ b p.tasks m) (m:=m)
    exact K1 v2 (by rw[w3,w1];exact hup) ⟨f1,by rw[w4,w2];exact hf.frm⟩ r1 ⟨r2,ht⟩ r4
   ·rw[sv hf hk ht];exact hv
  ·rw[oy hf hk];exact Lo hv hup he
 ·rw[G8 hf];exact hv
end Go.K
end
section
open Go Go.Tm Go.Proofs
namespace Go.K
def co(w:Worker)(ts:List Task)(m:Message):Prop:=m.kind = 1∧(∃ t,ts[m.task.toNat]? = some t∧m.inputs.length = t.deps.length)∧(w.state = 0∨w.lease < m.lease)
def cD(w:Worker)(m:Message):Prop:=m.kind = 4∧w.state = 2∧w.lease = m.lease
def lD(w:Worker)(m:Message):Prop:=w.up = true∧bP m∧m.to = w.number
def jN(ts:List Task)(k:Int):Int:=((ts[k.toNat]?).map Task.cost).getD 0
open Classical in
noncomputable def jU(w:Worker)(ts:List Task)(m:Message):Worker :=
 if lD w m then
  if co w ts m then⟨w.number,w.epoch,true,1,m.lease,m.task,jN ts m.task,jN ts m.task,m.inputs,emp,0⟩
  else if cD w m then⟨w.number,w.epoch,w.up,0,0,0,0,0,[],emp,3⟩else w
 else w
abbrev Uw(x:Worker):V:=.agg [.t (.i x.number),.t (.i x.epoch),.t (.b x.up),.t (.i x.state),.t (.i x.lease),.t (.i x.task),.t (.i x.cost),.t (.i x.left),.t .hole,.t (.s x.text),.t (.i x.since)]
theorem mV(w:Worker)(s:Int):F o8 [.val (Uw w),.val (.i s)] (aD ⟨w.number,w.epoch,w.up,0,0,0,0,0,[],emp,s⟩) [[],[]]:=by
 refine pj ?_
 conv=>whnf
 refine g 0 0 []<|J Zd9<|g 5 13 []<|J ⟨I,I,I,I,I,I,I,I,UK,I⟩<|RT ?_
 rfl
theorem kZ{w:Worker}{ts:List Task}{m:Message}(h:¬lD w m):jU w ts m = w:=if_neg h
theorem mE{w:Worker}{ts:List Task}{m:Message}(h:lD w m)(h1:co w ts m):jU w ts m = ⟨w.number,w.epoch,true,1,m.lease,m.task,jN ts m.task,jN ts m.task,m.inputs,emp,0⟩:=by rw[jU,if_pos h,if_pos h1]
theorem vN{w:Worker}{ts:List Task}{m:Message}(h:lD w m)(h1:co w ts m):jU w ts m = ⟨w.number,w.epoch,w.up,1,m.lease,m.task,jN ts m.task,jN ts m.task,m.inputs,emp,0⟩:=by rw[mE h h1,h.1]
theorem nC{w:Worker}{ts:List Task}{m:Message}(h:lD w m)(h1:cD w m):jU w ts m = ⟨w.number,w.epoch,w.up,0,0,0,0,0,[],emp,3⟩:=by
 rw[jU,if_pos h,if_neg (fun q=>by have:=q.1;have:=h1.1;omega),if_pos h1]
theorem dL{w:Worker}{ts:List Task}{m:Message}(h1:¬co w ts m)(h2:¬cD w m):jU w ts m = w:=by
 by_cases h:lD w m
 ·rw[jU,if_pos h,if_neg h1,if_neg h2]
 ·exact kZ h
theorem AX{ts:List Task}{k:Int}{t:Task}(h:ts[k.toNat]? = some t):jN ts k = t.cost:=by unfold jN;rw[h];rfl
noncomputable def wn(w:Worker)(p:Plan)(m:Message):Acted:=if av w∧aq p.tasks = 0 then⟨jU w p.tasks m,[]⟩else Ar
theorem I2{w:Worker}{p:Plan}{m:Message}(h:¬(av w∧aq p.tasks = 0)):wn w p m = Ar:=if_neg h
theorem eu{w:Worker}{p:Plan}{m:Message}(h:av w)(h2:aq p.tasks = 0):wn w p m = ⟨jU w p.tasks m,[]⟩:=if_pos ⟨h,h2⟩
theorem qg(w:Worker)(p:Plan)(m:Message)(h:av w)(hc:aq p.tasks = 0)(hm:m.inputs.length≤9223372036854775806):F pQ [.val (aD w),.val (cR p),.val (eC m)] (aD (jU w p.tasks m)) [[],[],[]]:=by
 have cm:=cL m hm
 by_cases hup:w.up = true
 ·by_cases hok:bP m
  ·rw[decide_eq_true hok]at cm
   have hi:=(dl hok).1
   obtain⟨_,_,_,_,⟨r1,r2⟩,⟨r3,r4⟩⟩:=fQ hok
   by_cases hto:m.to = w.number
   ·have hf:lD w m:=⟨hup,hok,hto⟩
    by_cases hk:m.kind = 1
    ·have nt:¬cD w m:=fun q=>by have:=q.1;omega
     by_cases ht:m.task < p.tasks.length
     ·obtain⟨t,ht2⟩:=af (xs:=p.tasks) (n:=m.task.toNat) OM
      obtain⟨_,_,g3,_⟩:=b9 hc ht2
      by_cases hd:m.inputs.length = t.deps.length
      ·by_cases hs:w.state = 0
       ·have ho:co w p.tasks m:=⟨hk,⟨t,ht2,hd⟩,.inl hs⟩
        refine bf ?_
        conv=>whnf
        refine g 0 0 []<|J Zby<|W.sq<|g 9 22 [BF,BF,.call VT [[]],BF,BF,BF,BF,BF,BF,BF,BF]<|J Zaf<|W.cn<|J (noT nO) fun _=>W.skip<|W.sq<|g 22 25 []<|J UB<|W.blk<|g 27 28 []<|J UB<|W.cn<|J (fun _=>(W.sq (gd 25 47 [[],[],[],[],[],[],[],[BF],[BF],[BF],[BF],[BF],[BF],[BF],[BF,.x (ay t)],[BF],[BF],[BF],[BF],[BF]] ?_))) (noF tO)
        conv=>whnf
        refine⟨Za7,by kernel_rfl,?_⟩
        refine W.cn<|J (noT SI) fun _=>W.skip<|g 47 58 [BT,BT,BT,BT,BT,BT]<|J ⟨I,I,I,I,tO,tO,tO,tO,tO,tO,I⟩<|W.cn<|J (fun _=>(g 58 66 [.x (ay t)]<|J Zc3 (gd 7 80 [[],[],[],[],[],[],[],[],[],[],[],[],[.call (V.own [false] (List.map aj m.inputs)) [[]]],[],[]] ?_))) (noF rfl)
        conv=>whnf
        refine⟨⟨I,I,I,I,I,I,I,I,I,I,I,I,⟨UA,I,US,UA,eS _ OM⟩,I,UK,I⟩,by kernel_rfl,?_⟩
        refine RT ?_
        rw[mE hf ho,AX ht2]
        all_goals rfl
       ·by_cases hl:w.lease < m.lease
        ·have ho:co w p.tasks m:=⟨hk,⟨t,ht2,hd⟩,.inr hl⟩
         refine bf ?_
         conv=>whnf
         refine g 0 0 []<|J Zby<|W.sq<|g 9 22 [BF,BF,.call VT [[]],BF,BF,BF,BF,BF,BF,BF,BF]<|J Zaf<|W.cn<|J (noT nO) fun _=>W.skip<|W.sq<|g 22 25 []<|J UB<|W.blk<|g 27 28 []<|J UB<|W.cn<|J (fun _=>(W.sq (gd 25 47 [[],[],[],[],[],[],[],[BF],[BF],[BF],[BF],[BF],[BF],[BF],[BF,.x (ay t)],[BF],[BF],[BF],[BF],[BF]] ?_))) (noF tO)
         conv=>whnf
         refine⟨Za7,by kernel_rfl,?_⟩
         refine W.cn<|J (noT SI) fun _=>W.skip<|g 47 58 [BF,BF,BF,BF,BF,BF]<|J ⟨I,I,I,I,⟨dO,I⟩,⟨dO,I⟩,⟨dO,I⟩,⟨dO,I⟩,⟨dO,I⟩,dO,I⟩<|W.cn<|J (fun _=>(g 58 66 [.x (ay t)]<|J Zc3 (gd 7 80 [[],[],[],[],[],[],[],[],[],[],[],[],[.call (V.own [false] (List.map aj m.inputs)) [[]]],[],[]] ?_))) (noF tO)
         conv=>whnf
         refine⟨⟨I,I,I,I,I,I,I,I,I,I,I,I,⟨UA,I,US,UA,eS _ OM⟩,I,UK,I⟩,by kernel_rfl,?_⟩
         refine RT ?_
         rw[mE hf ho,AX ht2]
         all_goals rfl
        ·have no:¬co w p.tasks m:=fun q=>by have:=q.2.2;omega
         refine bf ?_
         conv=>whnf
         refine g 0 0 []<|J Zby<|W.sq<|g 9 22 [BF,BF,.call VT [[]],BF,BF,BF,BF,BF,BF,BF,BF]<|J Zaf<|W.cn<|J (noT nO) fun _=>W.skip<|W.sq<|g 22 25 []<|J UB<|W.blk<|g 27 28 []<|J UB<|W.cn<|J (fun _=>(W.sq (gd 25 47 [[],[],[],[],[],[],[],[BF],[BF],[BF],[BF],[BF],[BF],[BF],[BF,.x (ay t)],[BF],[BF],[BF],[BF],[BF]] ?_))) (noF tO)
         conv=>whnf
         refine⟨Za7,by kernel_rfl,?_⟩
         refine W.cn<|J (noT SI) fun _=>W.skip<|g 47 58 [BF,BF,BF,BF,BF,BF]<|J ⟨I,I,I,I,⟨dO,I⟩,⟨dO,I⟩,⟨dO,I⟩,⟨dO,I⟩,⟨dO,I⟩,dO,I⟩<|W.cn<|J (noT dO) fun _=>W.skip<|g 0 6 []<|J Zeh<|RT ?_
         rw[dL no nt];all_goals rfl
      ·have no:¬co w p.tasks m:=fun q=>by obtain⟨t2,h2,h3⟩:=q.2.1;rw[ht2]at h2;cases h2;exact hd h3
       refine bf ?_
       conv=>whnf
       refine g 0 0 []<|J Zby<|W.sq<|g 9 22 [BF,BF,.call VT [[]],BF,BF,BF,BF,BF,BF,BF,BF]<|J Zaf<|W.cn<|J (noT nO) fun _=>W.skip<|W.sq<|g 22 25 []<|J UB<|W.blk<|g 27 28 []<|J UB<|W.cn<|J (fun _=>(W.sq (gd 25 47 [[],[],[],[],[],[],[],[BF],[BF],[BF],[BF],[BF],[BF],[BF],[BF,.x (ay t)],[BF],[BF],[BF],[BF],[BF]] ?_))) (noF tO)
       conv=>whnf
       refine⟨Za7,by kernel_rfl,?_⟩
       refine W.cn<|J (fun h1=>?_) fun h1=>?_
       replace h1:=ndt h1
       simp only[LM]at h1
       refine g 47 49 []<|J Zeh<|RT ?_
       rotate_left
       replace h1:=ndf h1
       simp only[LM]at h1
       omega
       rw[dL no nt];all_goals rfl
     ·have no:¬co w p.tasks m:=fun q=>by obtain⟨t2,h2,h3⟩:=q.2.1;have:=(List.getElem?_eq_some_iff.1 h2).1;omega
      refine bf ?_
      conv=>whnf
      refine g 0 0 []<|J Zby<|W.sq<|g 9 22 [BF,BF,.call VT [[]],BF,BF,BF,BF,BF,BF,BF,BF]<|J Zaf<|W.cn<|J (noT nO) fun _=>W.skip<|W.sq<|g 22 25 []<|J UB<|W.blk<|g 27 28 []<|J UB<|W.cn<|J (fun _=>(W.sq (gd 25 47 [[],[],[],[],[],[],[],[BT],[BT],[BT],[BT],[BT],[BT],[BT],[BT],[BT],[BT],[BT],[BT],[BT]] ?_))) (noF tO)
      conv=>whnf
      refine⟨⟨I,I,I,I,I,I,I,(by simp_all),(by simp_all),(by simp_all),(by simp_all),(by simp_all),(by simp_all),(by simp_all),(by simp_all),(by simp_all),(by simp_all),(by simp_all),(by simp_all),(by simp_all),I⟩,by kernel_rfl,?_⟩
      refine W.cn<|J (fun _=>(g 47 49 []<|J Zeh (RT ?_))) (noF rfl)
      rw[dL no nt];all_goals rfl
    ·have no:¬co w p.tasks m:=fun q=>hk q.1
     by_cases hk4:m.kind = 4
     ·by_cases hs:w.state = 2
      ·by_cases hl:w.lease = m.lease
       ·have yt:cD w m:=⟨hk4,hs,hl⟩
        refine bf ?_
        conv=>whnf
        refine g 0 0 []<|J Zby<|W.sq<|g 9 22 [BF,BF,.call VT [[]],BF,BF,BF,BF,BF,BF,BF,BF]<|J Zaf<|W.cn<|J (noT nO) fun _=>W.skip<|W.sq<|g 22 25 []<|J UB<|W.blk<|g 27 28 []<|J UB<|W.cn<|J (noT dO) fun _=>g 0 3 []<|J UB<|W.cn<|J (fun _=>?_) (noF tO)
        refine g 8 91 [BT,BT,BT,BT,BT,BT]<|J ⟨I,I,I,I,⟨tO,I⟩,⟨tO,I⟩,⟨tO,I⟩,⟨tO,I⟩,⟨tO,I⟩,tO,I⟩<|W.cn<|J (fun _=>(g 4 6 [.call (aD {number:=w.number,epoch:=w.epoch,up:=w.up,state:=0,lease:=0,task:=0,cost:=0,left:=0,inputs:=[],text:=emp,since:=3:Worker}) [[],[]]]<|J ⟨I,⟨UB,I,⟨UK,UA,I⟩,UA,iY _ _⟩,UK,I⟩ (RT ?_))) (noF tO)
        rw[nC hf yt]
        all_goals rfl
       ·have nt:¬cD w m:=fun q=>hl q.2.2
        refine bf ?_
        conv=>whnf
        refine g 0 0 []<|J Zby<|W.sq<|g 9 22 [BF,BF,.call VT [[]],BF,BF,BF,BF,BF,BF,BF,BF]<|J Zaf<|W.cn<|J (noT nO) fun _=>W.skip<|W.sq<|g 22 25 []<|J UB<|W.blk<|g 27 28 []<|J UB<|W.cn<|J (noT dO) fun _=>g 0 3 []<|J UB<|W.cn<|J (fun _=>?_) (noF tO)
        refine g 8 91 [BT,BT,BT,BT,BT,BT]<|J ⟨I,I,I,I,⟨tO,I⟩,⟨tO,I⟩,⟨tO,I⟩,⟨tO,I⟩,⟨tO,I⟩,tO,I⟩<|W.cn<|J (noT dO) fun _=>W.skip<|g 3 6 []<|J Zeh<|RT ?_
        rw[dL no nt];all_goals rfl
      ·have nt:¬cD w m:=fun q=>hs q.2.1
       refine bf ?_
       conv=>whnf
       refine g 0 0 []<|J Zby<|W.sq<|g 9 22 [BF,BF,.call VT [[]],BF,BF,BF,BF,BF,BF,BF,BF]<|J Zaf<|W.cn<|J (noT nO) fun _=>W.skip<|W.sq<|g 22 25 []<|J UB<|W.blk<|g 27 28 []<|J UB<|W.cn<|J (noT dO) fun _=>g 0 3 []<|J UB<|W.cn<|J (fun _=>?_) (noF tO)
       refine g 8 91 [BF,BF,BF,BF,BF,BF]<|J ⟨I,I,I,I,dO,dO,dO,dO,dO,dO,I⟩<|W.cn<|J (noT rfl) fun _=>W.skip<|g 3 6 []<|J Zeh<|RT ?_
       rw[dL no nt];all_goals rfl
     ·have nt:¬cD w m:=fun q=>hk4 q.1
      refine bf ?_
      conv=>whnf
      refine g 0 0 []<|J Zby<|W.sq<|g 9 22 [BF,BF,.call VT [[]],BF,BF,BF,BF,BF,BF,BF,BF]<|J Zaf<|W.cn<|J (noT nO) fun _=>W.skip<|W.sq<|g 22 25 []<|J UB<|W.blk<|g 27 28 []<|J UB<|W.cn<|J (noT dO) fun _=>g 0 3 []<|J UB<|W.cn<|J (noT dO) fun _=>?_
      refine W.skip<|g 8 95 []<|J Zeh<|RT ?_
      rw[dL no nt];all_goals rfl
   ·have nf:¬lD w m:=fun q=>hto q.2.2
    refine bf ?_
    conv=>whnf
    refine g 0 0 []<|J Zby<|W.sq<|g 9 22 [BF,BF,.call VT [[]],BF,BF,BF,BF,BF,BF,BF,BF]<|J Zaf<|W.cn<|J (fun _=>(g 22 24 []<|J Zeh (RT ?_))) (noF (ag OM))
    rw[kZ nf];all_goals rfl
  ·rw[decide_eq_false hok]at cm
   have nf:¬lD w m:=fun q=>hok q.2.1
   refine bf ?_
   conv=>whnf
   refine g 0 0 []<|J Zby<|W.sq<|g 9 22 [BF,BF,.call VF [[]],BF,BF,BT,BT,BT,BT,BT,BT]<|J ⟨I,I,I,I,Zd3,Zao,Zd3,nbF AS,I,rfl,rfl,rfl,rfl,rfl,rfl,I⟩<|W.cn<|J (fun _=>(g 22 24 []<|J Zeh (RT ?_))) (noF rfl)
   rw[kZ nf];all_goals rfl
 ·have nf:¬lD w m:=fun q=>hup q.1
  refine bf ?_
  conv=>whnf
  refine g 0 0 []<|J Zby<|W.sq<|g 9 22 [BT,BT,BT,BT,BT,BT,BT,BT,BT,BT]<|J ⟨I,I,I,I,SI,SI,SI,SI,I,rfl,rfl,rfl,rfl,rfl,rfl,I⟩<|W.cn<|J (fun _=>(g 22 24 []<|J Zeh (RT ?_))) (noF rfl)
  rw[kZ nf];all_goals rfl
theorem rI(w:Worker)(p:Plan)(m:Message)(hp:dv p)(hll:w.inputs.length≤1048576)(hm:m.inputs.length≤9223372036854775806):F rj [.val (dZ w),.val (cR p),.val (eC m)] (pE (wn w p m)) [[],[],[]]:=by
 have cp:=de p hp
 by_cases h:av w
 ·by_cases hc:aq p.tasks = 0
  ·rw[hc]at cp
   have cm:=nT m hm
   have cf3:=mV w 3
   have cf0:=mV w 0
   by_cases hup:w.up = true
   ·by_cases hok:bP m
    ·rw[decide_eq_true hok]at cm
     have hi:=(dl hok).1
     obtain⟨_,_,_,_,⟨r1,r2⟩,⟨r3,r4⟩⟩:=fQ hok
     by_cases hto:m.to = w.number
     ·have hf:lD w m:=⟨hup,hok,hto⟩
      by_cases hk:m.kind = 1
      ·have nt:¬cD w m:=fun q=>by have:=q.1;omega
       by_cases ht:m.task < p.tasks.length
       ·obtain⟨t,ht2⟩:=af (xs:=p.tasks) (n:=m.task.toNat) OM
        obtain⟨_,_,g3,_⟩:=b9 hc ht2
        by_cases hd:m.inputs.length = t.deps.length
        ·by_cases hs:w.state = 0
         ·have ho:co w p.tasks m:=⟨hk,⟨t,ht2,hd⟩,.inl hs⟩
          refine aV ?_
          conv=>whnf
          refine g 1 3 []<|J Zby<|W.sq<|g 12 17 [.call (V.b (decide (av w))) [[]],BF,BF,.call (V.i 0) [[]],BF,BF]<|J ⟨I,⟨UA,I,⟨UK,I⟩,UA,au _ OM⟩,I,I,⟨nO,I⟩,Zbn,⟨nO,I⟩,nO,I⟩<|W.cn<|J (noT rfl) fun _=>W.skip<|g 17 21 [.call (aD w) [[]]]<|J ⟨I,⟨UA,I,⟨UK,I⟩,UA,aE _ OM⟩,I,UK,I⟩<|g 21 23 []<|J Zc4<|W.sq<|g 23 37 [BF,BF,.call VT [[]],BF,BF,BF,BF,BF,BF,BF,BF]<|J Zaf<|W.cn<|J (noT nO) fun _=>W.skip<|W.sq ?_
          refine g 37 53 [BF,BF,BF,BF,BF,BF,BF,BF,BF,BF]<|J Zch<|W.cn<|J (noT rfl) fun _=>W.skip<|W.sq<|gd 10 81 [[],[],[],[],[BF],[BF],[BF],[BF],[BF],[BF],[BF],[],[BF],[BF],[BF],[BF],[BF],[BF],[BF],[BF,.x (ay t)],[BF],[BF],[BF],[BF],[BF]] ?_
          conv=>whnf
          refine J Zau<|J KR<|W.cn<|J (noT SI) fun _=>W.skip<|W.sq<|g 81 92 [BF,BF,BF,BF,BF,BF]<|J ⟨I,I,I,I,nO,nO,nO,nO,nO,nO,I⟩<|W.cn<|J (noT rfl) fun _=>W.skip<|g 92 96 [.call (aD {number:=w.number,epoch:=w.epoch,up:=w.up,state:=0,lease:=0,task:=0,cost:=0,left:=0,inputs:=[],text:=emp,since:=0:Worker}) [[],[]]]<|J ⟨I,⟨UB,I,⟨UK,UA,I⟩,UA,AS⟩,I,UK,I⟩<|g 7 9 []<|J UV<|g 98 100 []<|J UW<|g 100 103 []<|J UW<|g 103 111 [.x (ay t)]<|J ⟨I,I,I,I,⟨AS,xA⟩,I,I,I,UA,I⟩ ?_
          refine g 111 114 []<|J UW<|g 114 119 []<|J Zce<|g 0 6 []<|J ⟨I,I,UL,I⟩<|RT ?_
          rw[eu h hc,vN hf ho,AX ht2]
          all_goals rfl
         ·by_cases hl:w.lease < m.lease
          ·have ho:co w p.tasks m:=⟨hk,⟨t,ht2,hd⟩,.inr hl⟩
           refine aV ?_
           conv=>whnf
           refine g 1 3 []<|J Zby<|W.sq<|g 12 17 [.call (V.b (decide (av w))) [[]],BF,BF,.call (V.i 0) [[]],BF,BF]<|J ⟨I,⟨UA,I,⟨UK,I⟩,UA,au _ OM⟩,I,I,⟨nO,I⟩,Zbn,⟨nO,I⟩,nO,I⟩<|W.cn<|J (noT rfl) fun _=>W.skip<|g 17 21 [.call (aD w) [[]]]<|J ⟨I,⟨UA,I,⟨UK,I⟩,UA,aE _ OM⟩,I,UK,I⟩<|g 21 23 []<|J Zc4<|W.sq<|g 23 37 [BF,BF,.call VT [[]],BF,BF,BF,BF,BF,BF,BF,BF]<|J Zaf<|W.cn<|J (noT nO) fun _=>W.skip<|W.sq ?_
           refine g 37 53 [BF,BF,BF,BF,BF,BF,BF,BF,BF,BF]<|J Zch<|W.cn<|J (noT rfl) fun _=>W.skip<|W.sq<|gd 10 81 [[],[],[],[],[BF],[BF],[BF],[BF],[BF],[BF],[BF],[],[BF],[BF],[BF],[BF],[BF],[BF],[BF],[BF,.x (ay t)],[BF],[BF],[BF],[BF],[BF]] ?_
           conv=>whnf
           refine J Zau<|J KR<|W.cn<|J (noT SI) fun _=>W.skip<|W.sq<|g 81 92 [BT,BT,BT,BT,BT,BT]<|J ⟨I,I,I,I,Zah,Zah,Zah,Zah,Zah,ag OM,I⟩<|W.cn<|J (noT dO) fun _=>W.skip<|g 92 96 [.call (aD {number:=w.number,epoch:=w.epoch,up:=w.up,state:=0,lease:=0,task:=0,cost:=0,left:=0,inputs:=[],text:=emp,since:=0:Worker}) [[],[]]]<|J ⟨I,⟨UB,I,⟨UK,UA,I⟩,UA,AS⟩,I,UK,I⟩<|g 7 9 []<|J UV<|g 98 100 []<|J UW<|g 100 103 []<|J UW<|g 103 111 [.x (ay t)]<|J ⟨I,I,I,I,⟨AS,xA⟩,I,I,I,UA,I⟩ ?_
           refine g 111 114 []<|J UW<|g 114 119 []<|J Zce<|g 0 6 []<|J ⟨I,I,UL,I⟩<|RT ?_
           rw[eu h hc,vN hf ho,AX ht2]
           all_goals rfl
          ·have no:¬co w p.tasks m:=fun q=>by have:=q.2.2;omega
           refine aV ?_
           conv=>whnf
           refine g 1 3 []<|J Zby<|W.sq<|g 12 17 [.call (V.b (decide (av w))) [[]],BF,BF,.call (V.i 0) [[]],BF,BF]<|J ⟨I,⟨UA,I,⟨UK,I⟩,UA,au _ OM⟩,I,I,⟨nO,I⟩,Zbn,⟨nO,I⟩,nO,I⟩<|W.cn<|J (noT rfl) fun _=>W.skip<|g 17 21 [.call (aD w) [[]]]<|J ⟨I,⟨UA,I,⟨UK,I⟩,UA,aE _ OM⟩,I,UK,I⟩<|g 21 23 []<|J Zc4<|W.sq<|g 23 37 [BF,BF,.call VT [[]],BF,BF,BF,BF,BF,BF,BF,BF]<|J Zaf<|W.cn<|J (noT nO) fun _=>W.skip<|W.sq ?_
           refine g 37 53 [BF,BF,BF,BF,BF,BF,BF,BF,BF,BF]<|J Zch<|W.cn<|J (noT rfl) fun _=>W.skip<|W.sq<|gd 10 81 [[],[],[],[],[BF],[BF],[BF],[BF],[BF],[BF],[BF],[],[BF],[BF],[BF],[BF],[BF],[BF],[BF],[BF,.x (ay t)],[BF],[BF],[BF],[BF],[BF]] ?_
           conv=>whnf
           refine J Zau<|J KR<|W.cn<|J (noT SI) fun _=>W.skip<|W.sq<|g 81 92 [BT,BT,BT,BT,BT,BT]<|J ⟨I,I,I,I,Zah,Zah,Zah,Zah,Zah,ag OM,I⟩<|W.cn<|J (fun _=>(g 8 94 []<|J Zdw (RT ?_))) (noF tO)
           rw[eu h hc,dL no nt];all_goals rfl
        ·have no:¬co w p.tasks m:=fun q=>by obtain⟨t2,h2,h3⟩:=q.2.1;rw[ht2]at h2;cases h2;exact hd h3
         refine aV ?_
         conv=>whnf
         refine g 1 3 []<|J Zby<|W.sq<|g 12 17 [.call (V.b (decide (av w))) [[]],BF,BF,.call (V.i 0) [[]],BF,BF]<|J ⟨I,⟨UA,I,⟨UK,I⟩,UA,au _ OM⟩,I,I,⟨nO,I⟩,Zbn,⟨nO,I⟩,nO,I⟩<|W.cn<|J (noT rfl) fun _=>W.skip<|g 17 21 [.call (aD w) [[]]]<|J ⟨I,⟨UA,I,⟨UK,I⟩,UA,aE _ OM⟩,I,UK,I⟩<|g 21 23 []<|J Zc4<|W.sq<|g 23 37 [BF,BF,.call VT [[]],BF,BF,BF,BF,BF,BF,BF,BF]<|J Zaf<|W.cn<|J (noT nO) fun _=>W.skip<|W.sq ?_
         refine g 37 53 [BF,BF,BF,BF,BF,BF,BF,BF,BF,BF]<|J Zch<|W.cn<|J (noT rfl) fun _=>W.skip<|W.sq<|gd 10 81 [[],[],[],[],[BF],[BF],[BF],[BF],[BF],[BF],[BF],[],[BF],[BF],[BF],[BF],[BF],[BF],[BF],[BF,.x (ay t)],[BF],[BF],[BF],[BF],[BF]] ?_
         conv=>whnf
         refine J Zau<|J KR<|W.cn<|J (fun h1=>?_) fun h1=>?_
         replace h1:=ndt h1
         simp only[LM]at h1
         refine g 81 83 []<|J Zdw<|RT ?_
         rotate_left
         replace h1:=ndf h1
         simp only[LM]at h1
         omega
         rw[eu h hc,dL no nt];all_goals rfl
       ·have no:¬co w p.tasks m:=fun q=>by obtain⟨t2,h2,h3⟩:=q.2.1;have:=(List.getElem?_eq_some_iff.1 h2).1;omega
        refine aV ?_
        conv=>whnf
        refine g 1 3 []<|J Zby<|W.sq<|g 12 17 [.call (V.b (decide (av w))) [[]],BF,BF,.call (V.i 0) [[]],BF,BF]<|J ⟨I,⟨UA,I,⟨UK,I⟩,UA,au _ OM⟩,I,I,⟨nO,I⟩,Zbn,⟨nO,I⟩,nO,I⟩<|W.cn<|J (noT rfl) fun _=>W.skip<|g 17 21 [.call (aD w) [[]]]<|J ⟨I,⟨UA,I,⟨UK,I⟩,UA,aE _ OM⟩,I,UK,I⟩<|g 21 23 []<|J Zc4<|W.sq<|g 23 37 [BF,BF,.call VT [[]],BF,BF,BF,BF,BF,BF,BF,BF]<|J Zaf<|W.cn<|J (noT nO) fun _=>W.skip<|W.sq ?_
        refine g 37 53 [BF,BF,BF,BF,BF,BF,BF,BF,BF,BF]<|J Zch<|W.cn<|J (noT rfl) fun _=>W.skip<|W.sq<|gd 10 81 [[],[],[],[],[BF],[BF],[BF],[BF],[BF],[BF],[BF],[],[BT],[BT],[BT],[BT],[BT],[BT],[BT],[BT],[BT],[BT],[BT],[BT],[BT]] ?_
        conv=>whnf
        refine J ⟨I,I,I,I,⟨nO,I⟩,⟨nO,I⟩,⟨nO,I⟩,⟨nO,I⟩,⟨nO,I⟩,⟨nO,I⟩,nO,I,(by simp_all),(by simp_all),(by simp_all),(by simp_all),(by simp_all),(by simp_all),(by simp_all),(by simp_all),(by simp_all),(by simp_all),(by simp_all),(by simp_all),(by simp_all),I⟩<|J KR<|W.cn<|J (fun _=>(g 81 83 []<|J Zdw (RT ?_))) (noF rfl)
        rw[eu h hc,dL no nt];all_goals rfl
      ·have no:¬co w p.tasks m:=fun q=>hk q.1
       by_cases hk4:m.kind = 4
       ·by_cases hs:w.state = 2
        ·by_cases hl:w.lease = m.lease
         ·have yt:cD w m:=⟨hk4,hs,hl⟩
          refine aV ?_
          conv=>whnf
          refine g 1 3 []<|J Zby<|W.sq<|g 12 17 [.call (V.b (decide (av w))) [[]],BF,BF,.call (V.i 0) [[]],BF,BF]<|J ⟨I,⟨UA,I,⟨UK,I⟩,UA,au _ OM⟩,I,I,⟨nO,I⟩,Zbn,⟨nO,I⟩,nO,I⟩<|W.cn<|J (noT rfl) fun _=>W.skip<|g 17 21 [.call (aD w) [[]]]<|J ⟨I,⟨UA,I,⟨UK,I⟩,UA,aE _ OM⟩,I,UK,I⟩<|g 21 23 []<|J Zc4<|W.sq<|g 23 37 [BF,BF,.call VT [[]],BF,BF,BF,BF,BF,BF,BF,BF]<|J Zaf<|W.cn<|J (noT nO) fun _=>W.skip<|W.sq ?_
          refine g 37 53 [BT,BT,BT,BT,BT,BT,BT,BT,BT,BT]<|J ⟨I,I,I,I,⟨tO,I⟩,⟨tO,I⟩,⟨tO,I⟩,tO,I,⟨tO,I⟩,⟨tO,I⟩,⟨tO,I⟩,⟨tO,I⟩,⟨tO,I⟩,tO,I⟩<|W.cn<|J (fun _=>(g 53 57 [.call (aD {number:=w.number,epoch:=w.epoch,up:=w.up,state:=0,lease:=0,task:=0,cost:=0,left:=0,inputs:=[],text:=emp,since:=3:Worker}) [[],[]]]<|J ⟨I,⟨UB,I,⟨UK,UA,I⟩,UA,AS⟩,I,UL,I⟩ (RT ?_))) (noF tO)
          rw[eu h hc,nC hf yt]
          all_goals rfl
         ·have nt:¬cD w m:=fun q=>hl q.2.2
          refine aV ?_
          conv=>whnf
          refine g 1 3 []<|J Zby<|W.sq<|g 12 17 [.call (V.b (decide (av w))) [[]],BF,BF,.call (V.i 0) [[]],BF,BF]<|J ⟨I,⟨UA,I,⟨UK,I⟩,UA,au _ OM⟩,I,I,⟨nO,I⟩,Zbn,⟨nO,I⟩,nO,I⟩<|W.cn<|J (noT rfl) fun _=>W.skip<|g 17 21 [.call (aD w) [[]]]<|J ⟨I,⟨UA,I,⟨UK,I⟩,UA,aE _ OM⟩,I,UK,I⟩<|g 21 23 []<|J Zc4<|W.sq<|g 23 37 [BF,BF,.call VT [[]],BF,BF,BF,BF,BF,BF,BF,BF]<|J Zaf<|W.cn<|J (noT nO) fun _=>W.skip<|W.sq ?_
          refine g 37 53 [BT,BT,BT,BT,BT,BT,BT,BT,BT,BT]<|J ⟨I,I,I,I,⟨tO,I⟩,⟨tO,I⟩,⟨tO,I⟩,tO,I,⟨tO,I⟩,⟨tO,I⟩,⟨tO,I⟩,⟨tO,I⟩,⟨tO,I⟩,tO,I⟩<|W.cn<|J (noT dO) fun _=>W.skip<|W.sq<|gd 10 81 [[],[],[],[],[BT],[BT],[BT],[BT],[BT],[BT],[BT],[],[BT],[BT],[BT],[BT],[BT],[BT],[BT],[BT],[BT],[BT],[BT],[BT],[BT]] ?_
          conv=>whnf
          refine J Zb2<|J KR<|W.cn<|J (fun _=>(g 81 83 []<|J Zdw (RT ?_))) (noF rfl)
          rw[eu h hc,dL no nt];all_goals rfl
        ·have nt:¬cD w m:=fun q=>hs q.2.1
         refine aV ?_
         conv=>whnf
         refine g 1 3 []<|J Zby<|W.sq<|g 12 17 [.call (V.b (decide (av w))) [[]],BF,BF,.call (V.i 0) [[]],BF,BF]<|J ⟨I,⟨UA,I,⟨UK,I⟩,UA,au _ OM⟩,I,I,⟨nO,I⟩,Zbn,⟨nO,I⟩,nO,I⟩<|W.cn<|J (noT rfl) fun _=>W.skip<|g 17 21 [.call (aD w) [[]]]<|J ⟨I,⟨UA,I,⟨UK,I⟩,UA,aE _ OM⟩,I,UK,I⟩<|g 21 23 []<|J Zc4<|W.sq<|g 23 37 [BF,BF,.call VT [[]],BF,BF,BF,BF,BF,BF,BF,BF]<|J Zaf<|W.cn<|J (noT nO) fun _=>W.skip<|W.sq ?_
         refine g 37 53 [BT,BT,BT,BT,BF,BF,BF,BF,BF,BF]<|J ⟨I,I,I,I,⟨tO,I⟩,⟨tO,I⟩,⟨tO,I⟩,tO,I,dO,dO,dO,dO,dO,dO,I⟩<|W.cn<|J (noT rfl) fun _=>W.skip<|W.sq<|gd 10 81 [[],[],[],[],[BT],[BT],[BT],[BT],[BT],[BT],[BT],[],[BT],[BT],[BT],[BT],[BT],[BT],[BT],[BT],[BT],[BT],[BT],[BT],[BT]] ?_
         conv=>whnf
         refine J Zb2<|J KR<|W.cn<|J (fun _=>(g 81 83 []<|J Zdw (RT ?_))) (noF rfl)
         rw[eu h hc,dL no nt];all_goals rfl
       ·have nt:¬cD w m:=fun q=>hk4 q.1
        refine aV ?_
        conv=>whnf
        refine g 1 3 []<|J Zby<|W.sq<|g 12 17 [.call (V.b (decide (av w))) [[]],BF,BF,.call (V.i 0) [[]],BF,BF]<|J ⟨I,⟨UA,I,⟨UK,I⟩,UA,au _ OM⟩,I,I,⟨nO,I⟩,Zbn,⟨nO,I⟩,nO,I⟩<|W.cn<|J (noT rfl) fun _=>W.skip<|g 17 21 [.call (aD w) [[]]]<|J ⟨I,⟨UA,I,⟨UK,I⟩,UA,aE _ OM⟩,I,UK,I⟩<|g 21 23 []<|J Zc4<|W.sq<|g 23 37 [BF,BF,.call VT [[]],BF,BF,BF,BF,BF,BF,BF,BF]<|J Zaf<|W.cn<|J (noT nO) fun _=>W.skip<|W.sq ?_
        refine g 37 53 [BF,BF,BF,BF,BF,BF,BF,BF,BF,BF]<|J Zch<|W.cn<|J (noT rfl) fun _=>W.skip<|W.sq<|gd 10 81 [[],[],[],[],[BT],[BT],[BT],[BT],[BT],[BT],[BT],[],[BT],[BT],[BT],[BT],[BT],[BT],[BT],[BT],[BT],[BT],[BT],[BT],[BT]] ?_
        conv=>whnf
        refine J Zb2<|J KR<|W.cn<|J (fun _=>(g 81 83 []<|J Zdw (RT ?_))) (noF rfl)
        rw[eu h hc,dL no nt];all_goals rfl
     ·have nf:¬lD w m:=fun q=>hto q.2.2
      refine aV ?_
      conv=>whnf
      refine g 1 3 []<|J Zby<|W.sq<|g 12 17 [.call (V.b (decide (av w))) [[]],BF,BF,.call (V.i 0) [[]],BF,BF]<|J ⟨I,⟨UA,I,⟨UK,I⟩,UA,au _ OM⟩,I,I,⟨nO,I⟩,Zbn,⟨nO,I⟩,nO,I⟩<|W.cn<|J (noT rfl) fun _=>W.skip<|g 17 21 [.call (aD w) [[]]]<|J ⟨I,⟨UA,I,⟨UK,I⟩,UA,aE _ OM⟩,I,UK,I⟩<|g 21 23 []<|J Zc4<|W.sq<|g 23 37 [BF,BF,.call VT [[]],BF,BF,BF,BF,BF,BF,BF,BF]<|J Zaf<|W.cn<|J (fun _=>(g 37 39 []<|J Zdw (RT ?_))) (noF (ag OM))
      rw[eu h hc,kZ nf];all_goals rfl
    ·rw[decide_eq_false hok]at cm
     have nf:¬lD w m:=fun q=>hok q.2.1
     refine aV ?_
     conv=>whnf
     refine g 1 3 []<|J Zby<|W.sq<|g 12 17 [.call (V.b (decide (av w))) [[]],BF,BF,.call (V.i 0) [[]],BF,BF]<|J ⟨I,⟨UA,I,⟨UK,I⟩,UA,au _ OM⟩,I,I,⟨nO,I⟩,Zbn,⟨nO,I⟩,nO,I⟩<|W.cn<|J (noT rfl) fun _=>W.skip<|g 17 21 [.call (aD w) [[]]]<|J ⟨I,⟨UA,I,⟨UK,I⟩,UA,aE _ OM⟩,I,UK,I⟩<|g 21 23 []<|J Zc4<|W.sq<|g 23 37 [BF,BF,.call VF [[]],BF,BF,BT,BT,BT,BT,BT,BT]<|J ⟨I,I,I,I,Zd3,Zao,Zd3,nbF AS,I,rfl,rfl,rfl,rfl,rfl,rfl,I⟩<|W.cn<|J (fun _=>(g 37 39 []<|J Zdw (RT ?_))) (noF rfl)
     rw[eu h hc,kZ nf];all_goals rfl
   ·have nf:¬lD w m:=fun q=>hup q.1
    refine aV ?_
    conv=>whnf
    refine g 1 3 []<|J Zby<|W.sq<|g 12 17 [.call (V.b (decide (av w))) [[]],BF,BF,.call (V.i 0) [[]],BF,BF]<|J ⟨I,⟨UA,I,⟨UK,I⟩,UA,au _ OM⟩,I,I,⟨nO,I⟩,Zbn,⟨nO,I⟩,nO,I⟩<|W.cn<|J (noT rfl) fun _=>W.skip<|g 17 21 [.call (aD w) [[]]]<|J ⟨I,⟨UA,I,⟨UK,I⟩,UA,aE _ OM⟩,I,UK,I⟩<|g 21 23 []<|J Zc4<|W.sq<|g 23 37 [BT,BT,BT,BT,BT,BT,BT,BT,BT,BT]<|J ⟨I,I,I,I,SI,SI,SI,SI,I,rfl,rfl,rfl,rfl,rfl,rfl,I⟩<|W.cn<|J (fun _=>(g 37 39 []<|J Zdw (RT ?_))) (noF rfl)
    rw[eu h hc,kZ nf];all_goals rfl
  ·rw[I2 (fun q=>hc q.2)]
   refine aV ?_
   conv=>whnf
   refine g 1 3 []<|J Zby<|W.sq<|g 12 17 [.call (V.b (decide (av w))) [[]],BF,BF,.call (V.i (aq p.tasks)) [[]],BF,BF]<|J ⟨I,⟨UA,I,⟨UK,I⟩,UA,au _ OM⟩,I,I,⟨nO,I⟩,Zbn,⟨nO,I⟩,nO,I⟩<|W.cn<|J (fun _=>(g 17 19 []<|J Zdw (RT ?_))) (noF (ag OM))
   rfl
 ·rw[I2 (fun q=>h q.1)]
  refine aV ?_
  conv=>whnf
  refine g 1 3 []<|J Zby<|W.sq<|g 12 17 [.call (V.b (decide (av w))) [[]],BT,BT,BT,BT]<|J ⟨I,⟨UA,I,⟨UK,I⟩,UA,au _ OM⟩,I,I,ag OM,ag OM,ag OM,ag OM,I⟩<|W.cn<|J (fun _=>(g 17 19 []<|J Zdw (RT ?_))) (noF rfl)
  rfl
end Go.K
end
section
open Go Go.Tm Go.Proofs
namespace Go.K
theorem MY{w:Worker}{s:Int}(h1:1≤w.number∧w.number≤8)(h2:1≤w.epoch∧w.epoch≤300)(hs:0≤s∧s≤1000000)(u:Bool)(hu:u = true∨s = 0):av ⟨w.number,w.epoch,u,0,0,0,0,0,[],emp,s⟩ :=
 ⟨h1,h2,hs,hu.imp id fun q=>⟨rfl,q⟩,.inl ⟨rfl,rfl,rfl,rfl,rfl,rfl,rfl⟩⟩
theorem Oa{w:Worker}(h:av w):0≤aZ w∧aZ w≤1000000:=by
 have:=h.2.2.1
 unfold aZ;split <;> omega
theorem jI{w:Worker}(h:av w)(hup:w.up = true){s:Int}(hs:0≤s∧s≤1000000):av (cP w s):=by
 obtain⟨h1,h2,h3,h4,h5⟩:=h
 exact⟨h1,h2,hs,.inl hup,h5⟩
theorem Q6{w:Worker}(h:av w)(h1:w.state = 1)(h2:¬w.left - 1 = 0):av (nl w):=by
 obtain⟨b1,b2,b3,b4,b5,b6⟩:=Ap h h1
 obtain⟨g1,g2,g3,g4,g5⟩:=h
 refine⟨g1,g2,g3,g4,.inr (.inl ⟨h1,b2,b3,⟨?_,?_⟩,b5,b6⟩)⟩
 ·show 1≤w.left - 1;omega
 ·show w.left - 1≤w.cost;omega
theorem QB(nm:ByteArray)(xs:List ByteArray):(cI nm xs).size = 8:=vI nm xs
theorem Rm{w:Worker}(ts:List Task)(h:av w)(h1:w.state = 1)(h2:w.left - 1 = 0)(hup:w.up = true):av (gO w ts):=by
 obtain⟨b1,b2,b3,b4,b5,b6⟩:=Ap h h1
 obtain⟨g1,g2,g3,g4,g5⟩:=h
 exact⟨g1,g2,⟨Int.le_refl _,by show(0:Int)≤1000000;omega⟩,.inl hup,.inr (.inr ⟨rfl,b2,rfl,h2,rfl,by show((cI _ _).size:Int) = 8;rw[QB];rfl⟩)⟩
theorem QF{w:Worker}(ts:List Task)(h:av w):av (gE w ts).worker∧(gE w ts).worker.number = w.number:=by
 have hs:=Oa h
 have z:(0:Int)≤0∧(0:Int)≤1000000:=⟨Int.le_refl _,by omega⟩
 by_cases hup:w.up = false
 ·rw[vf hup];exact⟨h,rfl⟩
 have hup2:w.up = true:=by cases hb:w.up;exact absurd hb hup;rfl
 rcases Bl h with h1|h1|h1
 ·by_cases h4:3≤aZ w
  ·rw[lG hup h1 h4];exact⟨jI h hup2 z,rfl⟩
  ·rw[qp hup h1 h4];exact⟨jI h hup2 hs,rfl⟩
 ·by_cases h2:w.left - 1 = 0
  ·rw[lH hup h1 h2];exact⟨Rm ts h h1 h2 hup2,rfl⟩
  ·have hl:=Q6 h h1 h2
   by_cases h4:4≤aZ w
   ·rw[lI hup h1 h2 h4];exact⟨jI hl hup2 z,rfl⟩
   ·rw[vg hup h1 h2 h4];exact⟨jI hl hup2 hs,rfl⟩
 ·by_cases h4:4≤aZ w
  ·rw[lF hup h1 h4];exact⟨jI h hup2 z,rfl⟩
  ·rw[qo hup h1 h4];exact⟨jI h hup2 hs,rfl⟩
theorem QH{w:Worker}{ts:List Task}(m:Message)(hc:aq ts = 0)(h:av w):av (jU w ts m)∧(jU w ts m).number = w.number:=by
 by_cases hf:lD w m
 ·by_cases ho:co w ts m
  ·rw[mE hf ho]
   obtain⟨o1,⟨t,ht,ol⟩,o3⟩:=ho
   obtain⟨q1,q2⟩:=hf.2.1
   have hk:(1≤m.lease∧m.lease≤300000000)∧(0≤m.task∧m.task≤39)∧eP m.inputs:=by
    rcases q2 with q|q|q|q|q
    ·exact⟨q.2.2.2.1,q.2.2.2.2.1,q.2.2.2.2.2.2⟩
    ·have:=q.1;omega
    ·have:=q.1;omega
    ·have:=q.1;omega
    ·have:=q.1;omega
   have e:jN ts m.task = t.cost:=by unfold jN;rw[ht];rfl
   have hcst:=(b9 hc ht).2.1
   obtain⟨g1,g2,g3,g4,g5⟩:=h
   exact⟨⟨g1,g2,⟨Int.le_refl _,by show(0:Int)≤1000000;omega⟩,.inl rfl,.inr (.inl ⟨rfl,⟨hk.1,hk.2.1⟩,by show 1≤jN ts m.task∧_;rw[e];exact hcst,⟨by show 1≤jN ts m.task;rw[e];omega,Int.le_refl _⟩,hk.2.2,rfl⟩)⟩,rfl⟩
  ·by_cases hth:cD w m
   ·rw[nC hf hth]
    exact⟨MY (w:=w) h.1 h.2.1 ⟨by omega,by omega⟩ w.up (.inl hf.1),rfl⟩
   ·rw[dL ho hth];exact⟨h,rfl⟩
 ·rw[kZ hf];exact⟨h,rfl⟩
end Go.K
end
section
open Go Go.Tm Go.Proofs
namespace Go.K
structure Event where
 kind:Int
 a:Int
 b:Int
 c:Int
 deriving DecidableEq
def i7(ws:List Worker)(k:Int):Worker:=(ws[k.toNat]?).getD iK
def X6:Parcel:=⟨0,emp,emp⟩
def Le(xs:List Parcel)(k:Int):Parcel:=(xs[k.toNat]?).getD X6
noncomputable def iH(p:Plan)(ws:List Worker)(n:Nat):List Message:=((ws.take n).map fun x=>(fN x p).out).flatten
noncomputable def hL(w:World):World :=
 if 1000000≤w.boss.now then w else
 ⟨w.plan,w.key,(oQ w.boss w.plan).boss,w.workers.map (fun x=>(fN x w.plan).worker),sC w.flight ((oQ w.boss w.plan).out++iH w.plan w.workers w.workers.length) w.key,w.forged⟩
def db(w:World)(fl:List Parcel):World:=⟨w.plan,w.key,w.boss,w.workers,fl,w.forged⟩
def zK(w:World)(b:Boss):World:=⟨w.plan,w.key,b,w.workers,w.flight,w.forged⟩
def G4(w:World)(k:Int)(x:Worker):World:=⟨w.plan,w.key,w.boss,w.workers.set (k - 1).toNat x,w.flight,w.forged⟩
open Classical in
noncomputable def O9(w:World)(s:Parcel):World:=⟨w.plan,w.key,w.boss,w.workers,w.flight,if ¬s.text = s.frm∧w.forged = emp then s.text else w.forged⟩
def nc(w:World)(k:Int):Prop:=1≤k∧k≤w.workers.length
instance (w:World) (k:Int):Decidable (nc w k):=by unfold nc;infer_instance
noncomputable def cC(w:World)(s:Parcel):World :=
 match eA s.text w.key with
 |none=>w
 |some m =>
  if s.kind = 0 then zK (O9 w s) (Ec w.boss w.plan m).boss
  else if nc w s.kind then G4 (O9 w s) s.kind (wn (i7 w.workers (s.kind - 1)) w.plan m).worker
  else O9 w s
def Hn(w:World)(k:Int):Prop:=w.flight.length≤2000∧0≤k∧k < w.flight.length
instance (w:World) (k:Int):Decidable (Hn w k):=by unfold Hn;infer_instance
noncomputable def cY(w:World)(k:Int):World:=if Hn w k then cC (db w (cz w.flight k)) (Le w.flight k)else w
theorem Ba{w:World}{b:Boss}(h:WorldOk w)(hb:BossOk b w.plan)(hw:b.workers = w.boss.workers):WorldOk (zK w b):=⟨h.plan,h.key,h.wl,h.fl,h.crew,h.par,hb,by show b.workers = _;rw[hw];exact h.same⟩
theorem Qz{w:World}{s:Parcel}(h:WorldOk w):WorldOk (O9 w s):=⟨h.plan,h.key,h.wl,h.fl,h.crew,h.par,h.boss,h.same⟩
theorem gN{w:World}{fl:List Parcel}(h:WorldOk w)(h1:fl.length≤2000)(h2:∀ x∈fl,ParOk x):WorldOk (db w fl):=⟨h.plan,h.key,h.wl,h1,h.crew,h2,h.boss,h.same⟩
theorem ve{w:World}{k:Int}(h:WorldOk w)(hk:nc w k):∃ x,w.workers[(k - 1).toNat]? = some x∧i7 w.workers (k - 1) = x∧av x∧x.number = k:=by
 obtain⟨k1,k2⟩:=hk
 obtain⟨x,hx⟩:=af (xs:=w.workers) (n:=(k - 1).toNat) OM
 have hc:=h.crew (k - 1).toNat x OM hx
 exact⟨x,hx,by unfold i7;rw[hx];rfl,hc.ok,by rw[hc.num];omega⟩
theorem A9{w:World}{k:Int}{x y:Worker}(h:WorldOk w)(hk:nc w k)(hx:av y)(hn:y.number = k):WorldOk (G4 w k y):=by
 refine⟨h.plan,h.key,by show 1≤(w.workers.set _ _).length∧_;rw[List.length_set];exact⟨h.wl.1,by show(w.workers.set _ _).length≤8;rw[List.length_set];exact h.wl.2⟩,h.fl,?_,h.par,h.boss,by show w.boss.workers = ((w.workers.set _ _).length:Int);rw[List.length_set];exact h.same⟩
 intro i z hi hz
 obtain⟨k1,k2⟩:=hk
 change (w.workers.set (k - 1).toNat y)[i]? = some z at hz
 by_cases e:i = (k - 1).toNat
 ·subst e
  rw[List.getElem?_set_self OM]at hz
  cases hz
  exact⟨hx,by rw[hn];omega⟩
 ·rw[List.getElem?_set_ne (fun q=>e q.symm)]at hz
  exact h.crew i z (by have:=(List.getElem?_eq_some_iff.1 hz).1;exact this) hz
theorem sJ{xs:List Parcel}{k:Int}{x:Parcel}(h:x∈cz xs k):x∈xs:=by
 unfold cz at h;split at h
 ·rcases List.mem_append.1 h with h|h
  ·exact List.mem_of_mem_take h
  ·exact List.mem_of_mem_drop h
 ·exact h
theorem Aw(xs:List Parcel)(k:Int):(cz xs k).length≤xs.length:=by
 unfold cz;split
 ·simp only[List.length_append,List.length_take,List.length_drop];omega
 ·exact Nat.le_refl _
end Go.K
end
section
open Go Go.Tm Go.Proofs
namespace Go.K
theorem v6{m:Message}{key:ByteArray}(h:bP m):(eD m key).size≤500:=by
 unfold eD;split
 ·obtain⟨h1,_,h3⟩:=dl h
  rw[ByteArray.size_append,zX,gv h];omega
 ·exact Nat.zero_le _
theorem QS{key:ByteArray}{acc:List Parcel}{m:Message}(h:acc.length≤2000∧∀ x∈acc,ParOk x):(qB key acc m).length≤2000∧∀ x∈qB key acc m,ParOk x:=by
 unfold qB;split
 ·rename_i q
  refine⟨by rw[List.length_append,List.length_singleton];omega,fun x hx=>?_⟩
  rcases List.mem_append.1 hx with hx|hx
  ·exact h.2 x hx
  ·rw[List.mem_singleton.1 hx]
   exact⟨(fQ q.1).2.2.1,v6 q.1,v6 q.1⟩
 ·exact h
theorem MD{key:ByteArray}:∀ (ms:List Message) {xs:List Parcel},(xs.length≤2000∧∀ x∈xs,ParOk x)→(ms.foldl (qB key) xs).length≤2000∧∀ x∈ms.foldl (qB key) xs,ParOk x
 |[],xs,h=>h
 |m :: ms,xs,h=>MD ms (QS h)
theorem QU{key:ByteArray}{ms:List Message}{xs:List Parcel}(h:xs.length≤2000∧∀ x∈xs,ParOk x):(sC xs ms key).length≤2000∧∀ x∈sC xs ms key,ParOk x:=MD _ h
theorem KJ(b:Boss)(ts:List Task):(hM b ts).boss.workers = b.workers:=by
 unfold hM;split
 ·rfl
 ·split
  ·rfl
  ·split <;> rfl
theorem Oe(b:Boss)(m:Message):(BL b m).workers = b.workers:=by unfold BL;split <;> rfl
theorem HI(b:Boss)(ts:List Task)(m:Message):(hY b ts m).workers = b.workers:=by
 unfold hY;split
 ·split
  ·unfold xu;split <;> rfl
  ·split
   ·rfl
   ·split
    ·split
     ·rw[ff,Oe,(Mo (b:=sZ b ts m) (m:=m)).2,(Mp (b:=b) (ts:=ts) (m:=m)).2]
     ·rfl
    ·rfl
 ·rfl
theorem nY{w:World}(h:WorldOk w):WorldOk (hL w):=by
 unfold hL;split
 ·exact h
 ·rw[oi h.boss]
  have hp:=QU (key:=w.key) (ms:=(hM w.boss w.plan.tasks).out++iH w.plan w.workers w.workers.length) ⟨h.fl,h.par⟩
  refine⟨h.plan,h.key,⟨by show 1≤(w.workers.map _).length;rw[List.length_map];exact h.wl.1,by show(w.workers.map _).length≤8;rw[List.length_map];exact h.wl.2⟩,hp.1,?_,hp.2,KK h.boss,by show(hM w.boss w.plan.tasks).boss.workers = ((w.workers.map _).length:Int);rw[List.length_map,KJ];exact h.same⟩
  intro i y hi hy
  change (w.workers.map _)[i]? = some y at hy
  rw[List.getElem?_map]at hy
  cases hx:w.workers[i]? with
  |none=>rw[hx]at hy;cases hy
  |some x =>
   rw[hx]at hy
   have hc:=h.crew i x (List.getElem?_eq_some_iff.1 hx).1 hx
   have e:=Option.some.inj hy
   dsimp only at e
   rw[er hc.ok h.plan]at e
   have ht:=QF w.plan.tasks hc.ok
   rw[←e]
   exact⟨ht.1,by rw[ht.2];exact hc.num⟩
theorem vE{w:World}{s:Parcel}(h:WorldOk w):WorldOk (cC w s):=by
 unfold cC
 cases hm:eA s.text w.key with
 |none=>exact h
 |some m =>
  dsimp only
  have hg:=Qz (s:=s) h
  split
  ·rw[om h.boss]
   exact Ba hg (KN m h.boss) (HI _ _ _)
  ·split
   ·rename_i hk
    obtain⟨x,hx,e,ok,num⟩:=ve h hk
    rw[e,eu ok h.plan]
    have ht:=QH (ts:=w.plan.tasks) m h.plan ok
    exact A9 (x:=x) hg hk ht.1 (by rw[ht.2];exact num)
   ·exact hg
theorem jO{w:World}(k:Int)(h:WorldOk w):WorldOk (cY w k):=by
 unfold cY;split
 ·exact vE (gN h (by have:=Aw w.flight k;have:=h.fl;omega) fun x hx=>h.par x (sJ hx))
 ·exact h
end Go.K
end
section
open Go Go.Tm Go.Proofs
namespace Go.K
theorem KH(w:World):db w w.flight = w:=rfl
theorem HF(w:World)(a b:List Parcel):db (db w a) b = db w b:=rfl
theorem D2(w:World)(s:Parcel):(cC w s).flight = w.flight:=by
 unfold cC
 cases eA s.text w.key with
 |none=>rfl
 |some m=>dsimp only;split;rfl;split <;> rfl
theorem sb(w:World)(s:Parcel)(fl:List Parcel):cC (db w fl) s = db (cC w s) fl:=by
 unfold cC
 show(match eA s.text w.key with|none=>_|some m=>_) = _
 cases eA s.text w.key with
 |none=>rfl
 |some m =>
  dsimp only
  by_cases h0:s.kind = 0
  ·rw[if_pos h0,if_pos h0];rfl
  ·rw[if_neg h0,if_neg h0]
   by_cases h1:nc w s.kind
   ·rw[if_pos (show nc (db w fl) s.kind from h1),if_pos h1];rfl
   ·rw[if_neg (show ¬nc (db w fl) s.kind from h1),if_neg h1];rfl
theorem IU{w:World}{s:Parcel}{fl:List Parcel}(h:w.flight = s :: fl)(hl:w.flight.length≤2000):cY w 0 = db (cC w s) fl:=by
 have ha:Hn w 0:=⟨hl,Int.le_refl _,by rw[h];simp only[List.length_cons];omega⟩
 have e1:cz w.flight 0 = fl:=by
  rw[cz,if_pos (show w.flight.length≤2000∧(0:Int)≤0∧(0:Int) < w.flight.length from ha),h];rfl
 have e2:Le w.flight 0 = s:=by unfold Le;rw[h];rfl
 rw[cY,if_pos ha,e1,e2,sb]
noncomputable def dA(w:World):World:=w.flight.foldl cC (db w [])
theorem jM{w:World}(h:w.flight = []):dA w = w:=by
 unfold dA;rw[h]
 show db w [] = w
 rw[←h];exact KH w
theorem LE{w:World}{s:Parcel}{fl:List Parcel}(h:w.flight = s :: fl):dA w = dA (db (cC w s) fl):=by
 unfold dA
 rw[h]
 show fl.foldl cC (cC (db w []) s) = fl.foldl cC (db (db (cC w s) fl) [])
 rw[sb,HF]
theorem GU:∀ (fl:List Parcel) {w:World},WorldOk w→WorldOk (fl.foldl cC w)
 |[],w,h=>h
 |s :: fl,w,h=>GU fl (vE (s:=s) h)
theorem Rk{w:World}(h:WorldOk w):WorldOk (dA w):=GU _ (gN h (Nat.zero_le _) fun x hx=>by cases hx)
theorem nP:∀ (fl:List Parcel) (w:World),(fl.foldl cC w).flight = w.flight
 |[],w=>rfl
 |s :: fl,w=>by rw[List.foldl_cons,nP fl,D2]
theorem r8(w:World):(dA w).flight = []:=by unfold dA;rw[nP];rfl
noncomputable def oW(w:World):World:=dA (hL w)
noncomputable def bc(w:World):Nat→World
 |0=>w
 |n+1=>oW (bc w n)
theorem QO{w:World}(h:WorldOk w):WorldOk (oW w):=Rk (nY h)
theorem uD{w:World}(h:WorldOk w):∀ n,WorldOk (bc w n)
 |0=>h
 |n+1=>QO (uD h n)
theorem sr{w:World}(h:1000000≤w.boss.now):hL w = w:=if_pos h
theorem ID(w:World)(n:Nat):(bc w (n+1)).flight = []:=r8 _
theorem LJ{w:World}{s:Parcel}(h:WorldOk w):(cC w s).boss.now = w.boss.now:=by
 unfold cC
 cases eA s.text w.key with
 |none=>rfl
 |some m =>
  dsimp only
  split
  ·rw[om h.boss]
   show(hY w.boss w.plan.tasks m).now = _
   have e3:∀ (b:Boss),(BL b m).now = b.now:=fun b=>by unfold BL;split <;> rfl
   have e2:∀ (b:Boss),(EC b m).now = b.now:=fun b=>by
    unfold EC;split
    ·unfold mR;split <;> rfl
    ·rfl
   have e1:∀ (b:Boss) (ts:List Task),(sZ b ts m).now = b.now:=fun b ts=>by unfold sZ;split <;> rfl
   unfold hY;split
   ·split
    ·unfold xu;split <;> rfl
    ·split
     ·rfl
     ·split
      ·split
       ·rw[ff,e3,e2,e1]
       ·rfl
      ·rfl
   ·rfl
  ·split <;> rfl
theorem JU:∀ (fl:List Parcel) {w:World},WorldOk w→(fl.foldl cC w).boss.now = w.boss.now
 |[],w,h=>rfl
 |s :: fl,w,h=>by rw[List.foldl_cons,JU fl (vE (s:=s) h),LJ h]
theorem OO{w:World}(h:WorldOk w):(dA w).boss.now = w.boss.now:=JU _ (gN h (Nat.zero_le _) fun x hx=>by cases hx)
theorem J4{w:World}{n:Nat}(hok:WorldOk w)(h:1000000≤(bc w n).boss.now):∀ k,bc w (n+k+1) = dA (bc w n)
 |0=>by show oW (bc w n) = _;rw[oW,sr h]
 |k+1=>by
  have ih:=J4 hok h k
  show oW (bc w (n+k+1)) = _
  have hn:1000000≤(dA (bc w n)).boss.now:=by rw[OO (uD hok n)];exact h
  rw[ih,oW,sr hn,jM (r8 _)]
noncomputable def wo(w:World)(rounds:Int):World:=if WorldOk w then bc w (min rounds.toNat 2000)else noWorld
end Go.K
end
section
open Go Go.Tm Go.Proofs
namespace Go.K
structure Keeps (b c:Boss):Prop where
 up:c.up = b.up
 res:c.results = b.results
end Go.K
end
section
open Go Go.Tm Go.Proofs
namespace Go.K
def ya(n:Nat)(a:Acted):Prop:=a.worker.inputs.length≤n∧(a.out = []∨∃ m,a.out = [m]∧m.inputs = [])
theorem qr{n:Nat}{w:Worker}{k:Int}(h:w.inputs.length≤n):ya n (D7 w k):=⟨h,.inr ⟨_,rfl,rfl⟩⟩
theorem gm{n:Nat}{w:Worker}(h:w.inputs.length≤n):ya n ⟨w,[]⟩:=⟨h,.inl rfl⟩
theorem KL(w:Worker)(ts:List Task):ya w.inputs.length (gE w ts):=by
 unfold gE
 split
 ·exact gm (Nat.le_refl _)
 split
 ·split
  ·exact⟨Nat.zero_le _,.inr ⟨_,rfl,rfl⟩⟩
  ·split
   ·exact qr (Nat.le_refl _)
   ·exact gm (Nat.le_refl _)
 split
 ·split
  ·exact qr (Nat.le_refl _)
  ·exact gm (Nat.le_refl _)
 ·split
  ·exact qr (Nat.le_refl _)
  ·exact gm (Nat.le_refl _)
theorem HE(w:Worker)(p:Plan):ya w.inputs.length (fN w p):=by
 unfold fN;split
 ·exact KL _ _
 ·exact gm (Nat.zero_le _)
end Go.K
end
section
open Go Go.Tm Go.Proofs
namespace Go.K
theorem Xb{p:Plan}(h:aq p.tasks = 0):dv p:=WZ (lJ (vm h))
theorem K5{s:ByteArray}{e:Entry}(h:ey s = some e):s.size≤12:=by
 have e1:=Lw e
 rw[K6 h]at e1
 have hok:=jK h
 rcases hok.2.2 with⟨_,_,h3⟩|⟨_,h3⟩
 ·have:e.text.size = 0:=by rw[h3];rfl
  omega
 ·omega
theorem KP{p:Plan}{xs:List ByteArray}(h:(aw p xs).code = 0):∀ s∈xs,s.size≤12:=fun s hs=>by
 obtain⟨e,he,_⟩:=(vj h).fwd s hs
 exact K5 he
theorem WW{b:Boss}{p:Plan}(h:BossOk b p):BossLim b:=by
 have hc:=h.code
 have hl:=(cE hc).2.1
 have hs:=KP hc
 have hp:=(bU h.plan).1
 rw[List.length_append]at hl
 have hw:=h.workers
 cases hb:b.up with
 |true =>
  obtain⟨u1,u2,u3,u4,u5,u6,u7,u8,u9,u10,u11,u12⟩:=h.up hb
  exact⟨by omega,by omega,fun s q=>by have:=hs s q;omega,by omega,by omega,by omega,by omega⟩
 |false =>
  obtain⟨d1,d2,d3,d4,d5,d6,d7,d8⟩:=h.down hb
  exact⟨by omega,by omega,fun s q=>by have:=hs s q;omega,by omega,by omega,by omega,by omega⟩
theorem ON{l:List ByteArray}(h:eP l):l.length≤8:=h.2
theorem KG{x:Worker}(h:av x):x.inputs.length≤8:=by
 obtain⟨_,_,_,_,h|h|h⟩:=h
 ·obtain⟨_,_,_,_,_,h,_⟩:=h;omega
 ·obtain⟨_,_,_,_,h,_⟩:=h;exact ON h
 ·obtain⟨_,_,_,_,h,_⟩:=h;omega
structure DoLim (w:World):Prop where
 plan:dv w.plan
 small:dC w.plan
 boss:BossLim w.boss
 wl:w.workers.length≤8
 wi:∀ x∈w.workers,x.inputs.length≤8
 fl:w.flight.length≤2000
 par:∀ x∈w.flight,ParOk x
 key:w.key.size≤30
def Ke(w:World):Prop:=WorldOk w∨w = noWorld
theorem eB{w:World}(h:WorldOk w):DoLim w:=by
 refine⟨Xb h.plan,vm h.plan,WW h.boss,h.wl.2,fun x hx=>?_,h.fl,h.par,h.key⟩
 obtain⟨n,hn⟩:=List.getElem?_of_mem hx
 exact KG (h.crew n x (List.getElem?_eq_some_iff.1 hn).1 hn).ok
theorem Q2:DoLim noWorld:=by
 refine⟨⟨Nat.zero_le _,fun y hy=>(by cases hy)⟩,⟨Nat.zero_le _,fun y hy=>(by cases hy)⟩,⟨Nat.zero_le _,Nat.zero_le _,fun s hs=>(by cases hs),Nat.zero_le _,Nat.zero_le _,Nat.zero_le _,Nat.zero_le _⟩,Nat.zero_le _,fun y hy=>(by cases hy),Nat.zero_le _,fun y hy=>(by cases hy),Nat.zero_le _⟩
theorem Lt{w:World}(h:Ke w):DoLim w:=by
 rcases h with h|rfl
 ·exact eB h
 ·exact Q2
theorem A5(p:Plan)(ws:List Worker):iH p ws 0 = []:=rfl
theorem A6{p:Plan}{ws:List Worker}{n:Nat}{x:Worker}(h:ws[n]? = some x):iH p ws n++ (fN x p).out = iH p ws (n+1):=by
 unfold iH;rw[List.take_add_one,h];simp
theorem oq(x:Worker)(p:Plan):(fN x p).out.length≤1∧∀ m∈(fN x p).out,m.inputs = []:=by
 rcases(HE x p).2 with e|⟨m,e,e2⟩
 ·rw[e];exact⟨Nat.zero_le _,fun m hm=>by cases hm⟩
 ·rw[e];exact⟨Nat.le_refl _,fun y hy=>by rw[List.mem_singleton.1 hy];exact e2⟩
theorem M2{α:Type}:∀ {xs:List (List α)},(∀ x∈xs,x.length≤1)→xs.flatten.length≤xs.length
 |[],_=>Nat.le_refl _
 |x :: xs,h=>by
  have h1:=h x (List.mem_cons_self ..)
  have h2:=M2 fun y hy=>h y (List.mem_cons_of_mem x hy)
  simp only[List.flatten_cons,List.length_append,List.length_cons];omega
theorem Kc(p:Plan)(ws:List Worker)(n:Nat):(iH p ws n).length≤ws.length:=by
 have h:=M2 (xs:=(ws.take n).map fun x=>(fN x p).out) (fun y hy=>by obtain⟨x,_,rfl⟩:=List.mem_map.1 hy;exact(oq x p).1)
 have:((ws.take n).map fun x=>(fN x p).out).length≤ws.length:=by rw[List.length_map,List.length_take];omega
 exact Nat.le_trans h this
theorem Kd{p:Plan}{ws:List Worker}{n:Nat}{m:Message}(h:m∈iH p ws n):m.inputs = []:=by
 obtain⟨l,hl,hm⟩:=List.mem_flatten.1 h
 obtain⟨x,_,rfl⟩:=List.mem_map.1 hl
 exact(oq x p).2 m hm
theorem Fd(b:Boss)(p:Plan):(oQ b p).out.length≤2040:=by
 by_cases hv:BossOk b p
 ·rw[oi hv]
  by_cases h0:b.now = 1000000
  ·rw[sn h0];exact Nat.zero_le _
  by_cases hup:b.up = false
  ·rw[zP h0 hup];exact Nat.zero_le _
  have hup2:b.up = true:=by cases hb:b.up;exact absurd hb hup;rfl
  obtain⟨u1,u2,u3,u4,u5,u6,⟨u7,u8⟩,⟨u9,u10⟩,u11,u12,u13,u14⟩:=hv.up hup2
  have hpl:=(bU hv.plan).1
  have hdl:∀ t∈p.tasks,t.deps.length≤8:=fun t ht=>by
   obtain⟨k,hk⟩:=List.getElem?_of_mem ht
   exact(b9 hv.plan hk).2.2.1
  obtain⟨k1,k2,k3,k4,k5,k6⟩:=lv (b:=dD b) (ts:=p.tasks) hdl u9 u10 p.tasks.length
  have j3:(endH b p.tasks).out.length≤40:=by show(aH _ _ _).out.length≤_;omega
  by_cases hs:b.since+1 = 2
  ·rw[mD h0 hup hs]
   simp only[List.length_append,List.length_map];omega
  ·rw[ov h0 hup hs]
   show(endH b p.tasks).out.length≤_;omega
 ·rw[Bx hv];exact Nat.zero_le _
theorem Mr{w:World}(h:¬1000000≤w.boss.now):hL w = ⟨w.plan,w.key,(oQ w.boss w.plan).boss,w.workers.map (fun x=>(fN x w.plan).worker),sC w.flight ((oQ w.boss w.plan).out++iH w.plan w.workers w.workers.length) w.key,w.forged⟩:=if_neg h
open Classical in
noncomputable def AC(w:World)(s:Parcel):ByteArray:=if ¬s.text = s.frm∧w.forged = emp then s.text else w.forged
theorem MX{w:World}{s:Parcel}(h1:¬s.text = s.frm)(h2:w.forged = emp):AC w s = s.text:=if_pos ⟨h1,h2⟩
theorem JR{w:World}{s:Parcel}(h1:s.text = s.frm):AC w s = w.forged:=if_neg fun q=>q.1 h1
theorem JS{w:World}{s:Parcel}(h2:¬w.forged = emp):AC w s = w.forged:=if_neg fun q=>h2 q.2
theorem Ff{w:World}{k:Int}{s:Parcel}(ha:w.flight.length≤2000∧0≤k∧k < w.flight.length)(hs:w.flight[k.toNat]? = some s):cY w k = cC (db w (cz w.flight k)) s:=by
 have e:Le w.flight k = s:=by unfold Le;rw[hs];rfl
 rw[cY,if_pos (show Hn w k from ha),e]
theorem J5{w:World}{k:Int}(ha:¬(w.flight.length≤2000∧0≤k∧k < w.flight.length)):cY w k = w:=if_neg ha
theorem Fg{w:World}{s:Parcel}(hm:eA s.text w.key = none):cC w s = w:=by unfold cC;rw[hm]
theorem wk{w:World}{s:Parcel}{m:Message}(hm:eA s.text w.key = some m)(h0:s.kind = 0):cC w s = ⟨w.plan,w.key,(Ec w.boss w.plan m).boss,w.workers,w.flight,AC w s⟩:=by unfold cC;rw[hm];dsimp only;rw[if_pos h0];rfl
theorem wj{w:World}{s:Parcel}{m:Message}{x:Worker}(hm:eA s.text w.key = some m)(h0:¬s.kind = 0)(hx:nc w s.kind)(hw:w.workers[(s.kind - 1).toNat]? = some x):cC w s = ⟨w.plan,w.key,w.boss,w.workers.set (s.kind - 1).toNat (wn x w.plan m).worker,w.flight,AC w s⟩:=by
 have e:i7 w.workers (s.kind - 1) = x:=by unfold i7;rw[hw];rfl
 unfold cC;rw[hm];dsimp only;rw[if_neg h0,if_pos hx,e];rfl
theorem A1{w:World}{s:Parcel}{m:Message}(hm:eA s.text w.key = some m)(h0:¬s.kind = 0)(hx:¬nc w s.kind):cC w s = ⟨w.plan,w.key,w.boss,w.workers,w.flight,AC w s⟩:=by
 unfold cC;rw[hm];dsimp only;rw[if_neg h0,if_neg hx];rfl
abbrev G3(p:Plan)(key:ByteArray)(b:Boss)(ws:List (List T))(fl:List Parcel)(f:ByteArray):V:=.agg [.own dg (p.tasks.map ay),.t (.s key),.t (.i b.workers),.t (.b b.up),.t (.i b.now),.t (.i b.since),.t (.i b.epoch),.t (.i b.given),.own [false] (b.log.safe.map aj),.own [false] (b.log.loose.map aj),.own [false] (b.results.map aj),.own eG (b.jobs.map aO),.own cx (b.seats.map aG),.own cy (b.owed.map aL),.own cB ws,.own pkd (fl.map bv),.t (.s f)]
theorem j9{xs:List Worker}{n:Nat}{x:Worker}:(xs.map ar).set n (ar x) = (xs.set n x).map ar:=by rw[←List.map_set]
theorem jG(p:Plan)(key:ByteArray)(b:Boss)(ws:List Worker)(n:Nat)(y:Worker)(fl:List Parcel)(f:ByteArray):G3 p key b ((ws.map ar).set n (ar y)) fl f = aC ⟨p,key,b,ws.set n y,fl,f⟩:=by
 show G3 p key b _ fl f = G3 p key b ((ws.set n y).map ar) fl f
 rw[j9]
theorem jS(p:Plan)(key:ByteArray)(b:Boss)(ws:List Worker)(n:Nat)(y:Worker)(fl:List Parcel)(f:ByteArray)(os:List (List V)):cellsOf (G3 p key b ((ws.map ar).set n (ar y)) fl f) :: os = cellsOf (aC ⟨p,key,b,ws.set n y,fl,f⟩) :: os:=by rw[jG]
end Go.K
end

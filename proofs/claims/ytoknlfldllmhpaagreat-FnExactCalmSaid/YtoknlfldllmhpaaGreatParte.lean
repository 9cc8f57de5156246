/- Contracts of functions of the program: what each call answers. -/
import Derived.Test.YtoknlfldllmhpaaGreatPartd
set_option maxHeartbeats 8000000
set_option maxRecDepth 20000
set_option linter.unusedVariables false
set_option linter.unusedSimpArgs false
section
open Go Go.Tm Go.Proofs
namespace Go.K
theorem uR(b:Boss)(p:Plan)(hp:dv p)(hl1:b.log.safe.length≤1048576)(hl2:b.log.loose.length≤1048576)(hs:∀ s∈b.log.safe++b.log.loose,s.size≤281474976710656)(hr:b.results.length≤1048576)(hj:b.jobs.length≤1048576)(hse:b.seats.length≤1048576)(ho:b.owed.length≤1048576):F lg [.val (f0 b),.val (cR p)] (.b (decide (BossOk b p))) [[],[]]:=by
 have cp:=fI p hp
 have ce:=iZ b hl1 hl2
 have cr:F o9 [.val (cR p),.val (.t (qq (b.log.safe++b.log.loose)))] (gw (cA b p)) [[],[]]:=pz p (b.log.safe++b.log.loose) hp hs (by rw[List.length_append];omega)
 by_cases hup:b.up = true
 rotate_left
 ·rw[Bool.not_eq_true]at hup
  refine ls ?_
  conv=>whnf
  refine g 0 2 []<|J Zcr<|W.sq ?_
  by_cases h1:aq (Plan.tasks p) = (0:Int)
  by_cases h2:(1:Int)≤Boss.workers b∧Boss.workers b≤(8:Int)
  refine g 17 19 [.call (V.i (aq p.tasks)) [[]],BF,BF,BF,.call (V.b (decide (1≤b.workers∧b.workers≤8))) [[],[],[]],BF,BF,BF,BF,BF,.call (V.b (decide (0≤b.now∧b.now≤1000000))) [[],[],[]],BF,BF]<|J ⟨I,Zak,I,I,⟨nO,I⟩,⟨nO,I⟩,⟨nO,UC,I,UU,UA,aa _ _ _⟩,⟨nO,I⟩,nO,I,⟨nO,I⟩,⟨nO,I⟩,⟨nO,UC,I,UU,UA,aa _ _ _⟩,⟨nO,I⟩,nO,I⟩<|W.cn<|J (fun h3=>?_) fun h3=>?_
  replace h3:=ndt h3
  refine g 29 31 []<|J UA<|RT ?_
  rotate_left
  replace h3:=ndf h3
  refine W.skip<|gd 29 32 [[],[],[.call (V.own [false] (List.map aj (b.log.safe++b.log.loose))) [[]]],[.call (gw (cA b p)) [[],[]]],[],[]] ?_
  conv=>whnf
  refine J ⟨I,I,Za3,Zan,I,UC,I⟩<|J KR<|W.sq<|g 33 37 []<|J UC<|W.cn<|J (fun h4=>?_) fun h4=>?_
  replace h4:=ndt h4
  refine g 21 22 []<|J UA<|RT ?_
  rotate_left
  replace h4:=ndf h4
  refine W.skip<|W.sq<|g 21 22 []<|J UC<|W.cn<|J (fun _=>?_) (noF (nbT AS))
  by_cases h5:(↑(List.length (List.map aj (Log.loose (Boss.log b)))):Int) = (0:Int)
  simp only[LM]at h5
  by_cases h6:Boss.since b = (0:Int)
  by_cases h7:Boss.epoch b = (0:Int)
  by_cases h8:Boss.given b = (0:Int)
  by_cases h9:(↑(List.length (List.map aj (Boss.results b))):Int) = (0:Int)
  simp only[LM]at h9
  by_cases h10:(↑(List.length (List.map aO (Boss.jobs b))):Int) = (0:Int)
  simp only[LM]at h10
  by_cases h11:(↑(List.length (List.map aG (Boss.seats b))):Int) = (0:Int)
  simp only[LM]at h11
  refine g 32 85 [BT,BT,BT,BT,BT,BT,BT,BT,BT,BT,BT,BT,BT,BT,BT,BT,BT,BT,BT,BT,BT,BT,BT,BT,BT,BT,BT,BT,BT,BT,BT,BT] ?_
  conv=>whnf
  refine J Za2<|RT ?_
  rotate_left
  simp only[LM]at h11
  refine g 32 85 [BT,BT,BT,BT,BT,BT,BT,BT,BT,BT,BT,BT,BT,BT,BT,BT,BT,BT,BT,BT,BT,BT,BT,BT,BT,BT,BT,BF,BF,BF,BF,BF] ?_
  conv=>whnf
  refine J ⟨I,I,I,I,I,I,⟨SI,I⟩,⟨SI,I⟩,⟨SI,I⟩,SI,I,⟨tO,I⟩,⟨tO,I⟩,⟨tO,I⟩,tO,I,⟨tO,I⟩,⟨tO,I⟩,⟨tO,I⟩,tO,I,⟨tO,I⟩,⟨tO,I⟩,⟨tO,I⟩,⟨tO,I⟩,tO,I,⟨SI,I⟩,⟨SI,I⟩,⟨SI,I⟩,⟨SI,I⟩,SI,I,⟨SI,I⟩,⟨SI,I⟩,⟨SI,I⟩,⟨SI,I⟩,SI,I,(by simp_all),(by simp_all),(by simp_all),(by simp_all),(by simp_all),I,I⟩<|RT ?_
  rotate_left
  simp only[LM]at h10
  refine g 32 85 [BT,BT,BT,BT,BT,BT,BT,BT,BT,BT,BT,BT,BT,BT,BT,BT,BT,BT,BT,BT,BT,BT,BF,BF,BF,BF,BF,BF,BF,BF,BF,BF] ?_
  conv=>whnf
  refine J ⟨I,I,I,I,I,I,⟨SI,I⟩,⟨SI,I⟩,⟨SI,I⟩,SI,I,⟨tO,I⟩,⟨tO,I⟩,⟨tO,I⟩,tO,I,⟨tO,I⟩,⟨tO,I⟩,⟨tO,I⟩,tO,I,⟨tO,I⟩,⟨tO,I⟩,⟨tO,I⟩,⟨tO,I⟩,tO,I,⟨SI,I⟩,⟨SI,I⟩,⟨SI,I⟩,⟨SI,I⟩,SI,I,(by simp_all),(by simp_all),(by simp_all),(by simp_all),(by simp_all),I,rfl,rfl,rfl,rfl,rfl,I,I⟩<|RT ?_
  rotate_left
  simp only[LM]at h9
  refine g 32 85 [BT,BT,BT,BT,BT,BT,BT,BT,BT,BT,BT,BT,BT,BT,BT,BT,BT,BF,BF,BF,BF,BF,BF,BF,BF,BF,BF,BF,BF,BF,BF,BF] ?_
  conv=>whnf
  refine J ⟨I,I,I,I,I,I,⟨SI,I⟩,⟨SI,I⟩,⟨SI,I⟩,SI,I,⟨tO,I⟩,⟨tO,I⟩,⟨tO,I⟩,tO,I,⟨tO,I⟩,⟨tO,I⟩,⟨tO,I⟩,tO,I,⟨tO,I⟩,⟨tO,I⟩,⟨tO,I⟩,⟨tO,I⟩,tO,I,(by simp_all),(by simp_all),(by simp_all),(by simp_all),(by simp_all),I,rfl,rfl,rfl,rfl,rfl,I,rfl,rfl,rfl,rfl,rfl,I,I⟩<|RT ?_
  rotate_left
  refine g 32 85 [BT,BT,BT,BT,BT,BT,BT,BT,BT,BT,BT,BT,BF,BF,BF,BF,BF,BF,BF,BF,BF,BF,BF,BF,BF,BF,BF,BF,BF,BF,BF,BF] ?_
  conv=>whnf
  refine J Zbu<|RT ?_
  rotate_left
  refine g 32 85 [BT,BT,BT,BT,BT,BT,BT,BT,BF,BF,BF,BF,BF,BF,BF,BF,BF,BF,BF,BF,BF,BF,BF,BF,BF,BF,BF,BF,BF,BF,BF,BF] ?_
  conv=>whnf
  refine J Zbz<|RT ?_
  rotate_left
  refine g 32 85 [BT,BT,BT,BT,BF,BF,BF,BF,BF,BF,BF,BF,BF,BF,BF,BF,BF,BF,BF,BF,BF,BF,BF,BF,BF,BF,BF,BF,BF,BF,BF,BF] ?_
  conv=>whnf
  refine J Zb4<|RT ?_
  rotate_left
  simp only[LM]at h5
  refine g 32 85 [BF,BF,BF,BF,BF,BF,BF,BF,BF,BF,BF,BF,BF,BF,BF,BF,BF,BF,BF,BF,BF,BF,BF,BF,BF,BF,BF,BF,BF,BF,BF,BF] ?_
  conv=>whnf
  refine J ⟨I,I,I,I,I,I,(by simp_all),(by simp_all),(by simp_all),(by simp_all),I,rfl,rfl,rfl,rfl,I,rfl,rfl,rfl,rfl,I,rfl,rfl,rfl,rfl,rfl,I,rfl,rfl,rfl,rfl,rfl,I,rfl,rfl,rfl,rfl,rfl,I,rfl,rfl,rfl,rfl,rfl,I,I⟩<|RT ?_
  rotate_left
  refine g 17 19 [.call (V.i (aq p.tasks)) [[]],BF,BF,BF,.call (V.b (decide (1≤b.workers∧b.workers≤8))) [[],[],[]],BF,BF,BT,BT,BT,BT,BT]<|J ⟨I,Zak,I,I,⟨nO,I⟩,⟨nO,I⟩,⟨nO,UC,I,UU,UA,aa _ _ _⟩,⟨nO,I⟩,nO,I,ag OM,ag OM,ag OM,ag OM,ag OM,I⟩<|W.cn<|J (fun _=>(g 29 31 []<|J UA (RT ?_))) (noF rfl)
  rotate_left
  refine g 17 19 [.call (V.i (aq p.tasks)) [[]],BT,BT,BT,BT,BT,BT,BT,BT,BT,BT]<|J ⟨I,Zak,I,I,ag OM,ag OM,ag OM,ag OM,ag OM,I,rfl,rfl,rfl,rfl,rfl,I⟩<|W.cn<|J (fun _=>(g 29 31 []<|J UA (RT ?_))) (noF rfl)
  rotate_left
  all_goals first
   |exact vbf (fun q=>by have e1:=q.plan;have e2:=q.workers;have e3:=q.now;have e4:=q.code;omega)
   |exact vbf (Aq hup fun q=>by have e1:=q.loose;have e2:=q.since;have e3:=q.epoch;have e4:=q.given;have e5:=q.res;have e6:=q.jobs;have e7:=q.seats;omega)
   |(rename_i h8
     simp only[List.length_map]
     by_cases h9:(b.owed.length:Int) = 0
     ·rw[decide_eq_true h9];exact vbt ⟨by omega,by omega,by omega,by omega,(fun q=>by rw[hup]at q;cases q),fun _=>⟨by omega,by omega,by omega,by omega,by omega,by omega,by omega,by omega⟩⟩
     ·rw[decide_eq_false h9];exact vbf (Aq hup fun q=>by have e8:=q.owed;omega))
   |skip
 refine ls ?_
 conv=>whnf
 refine g 0 2 []<|J Zcr<|W.sq ?_
 by_cases h1:aq (Plan.tasks p) = (0:Int)
 by_cases h2:(1:Int)≤Boss.workers b∧Boss.workers b≤(8:Int)
 refine g 17 19 [.call (V.i (aq p.tasks)) [[]],BF,BF,BF,.call (V.b (decide (1≤b.workers∧b.workers≤8))) [[],[],[]],BF,BF,BF,BF,BF,.call (V.b (decide (0≤b.now∧b.now≤1000000))) [[],[],[]],BF,BF]<|J ⟨I,Zak,I,I,⟨nO,I⟩,⟨nO,I⟩,⟨nO,UC,I,UU,UA,aa _ _ _⟩,⟨nO,I⟩,nO,I,⟨nO,I⟩,⟨nO,I⟩,⟨nO,UC,I,UU,UA,aa _ _ _⟩,⟨nO,I⟩,nO,I⟩<|W.cn<|J (fun h3=>?_) fun h3=>?_
 replace h3:=ndt h3
 refine g 29 31 []<|J UA<|RT ?_
 rotate_left
 replace h3:=ndf h3
 refine W.skip<|gd 29 32 [[],[],[.call (V.own [false] (List.map aj (b.log.safe++b.log.loose))) [[]]],[.call (gw (cA b p)) [[],[]]],[],[]] ?_
 conv=>whnf
 refine J ⟨I,I,Za3,Zan,I,UC,I⟩<|J KR<|W.sq<|g 33 37 []<|J UC<|W.cn<|J (fun h4=>?_) fun h4=>?_
 replace h4:=ndt h4
 refine g 21 22 []<|J UA<|RT ?_
 rotate_left
 replace h4:=ndf h4
 refine W.skip<|W.sq<|g 21 22 []<|J UC<|W.cn<|J (noT (nbF AS)) fun _=>W.skip<|W.sq ?_
 by_cases h5:Boss.epoch b = Story.epoch (cA b p)
 by_cases h6:Boss.epoch b < (1:Int)
 refine g 25 120 [BF,BF,BF,BF,BT,BT,BT,BT,BT,BT,BT,BT,BT,BT,BT,BT,BT,BT,BT,BT,BT,BT,BT,BT,BT,BT,BT]<|J ⟨I,I,I,I,I,I,⟨nO,I⟩,⟨nO,I⟩,⟨nO,I⟩,nO,I,tO,tO,tO,tO,tO,tO,tO,tO,I,rfl,rfl,rfl,rfl,rfl,rfl,rfl,rfl,I,rfl,rfl,rfl,rfl,rfl,rfl,rfl,I⟩<|W.cn<|J (fun _=>(g 19 21 []<|J UA (RT ?_))) (noF rfl)
 rotate_left
 by_cases h7:(↑(List.length (List.map aj (Boss.results b))):Int) = (↑(List.length (List.map ay (Plan.tasks p))):Int)
 simp only[LM]at h7
 by_cases h8:(↑(List.length (List.map aO (Boss.jobs b))):Int) = (↑(List.length (List.map ay (Plan.tasks p))):Int)
 simp only[LM]at h8
 refine g 25 120 [BF,BF,BF,BF,BF,BF,BF,BF,BF,BF,BF,BF,BF,BF,BF,BF,BF,BF,BF,BF,BF,BF,BF,BF,BF,BF,BF]<|J ⟨I,I,I,I,I,I,⟨nO,I⟩,⟨nO,I⟩,⟨nO,I⟩,nO,I,⟨dO,I⟩,⟨dO,I⟩,⟨dO,I⟩,⟨dO,I⟩,⟨dO,I⟩,⟨dO,I⟩,⟨dO,I⟩,dO,I,⟨SI,I⟩,⟨SI,I⟩,⟨SI,I⟩,⟨SI,I⟩,⟨SI,I⟩,⟨SI,I⟩,⟨SI,I⟩,SI,I,⟨SI,I⟩,⟨SI,I⟩,⟨SI,I⟩,⟨SI,I⟩,⟨SI,I⟩,⟨SI,I⟩,SI,I⟩<|W.cn<|J (fun h9=>?_) fun h9=>?_
 replace h9:=ndt h9
 simp only[LM]at h9
 refine g 19 21 []<|J UA<|RT ?_
 rotate_left
 replace h9:=ndf h9
 simp only[LM]at h9
 refine W.skip<|W.sq<|g 19 21 []<|J UD<|W.blk ?_
 rotate_left
 simp only[LM]at h8
 refine g 25 120 [BF,BF,BF,BF,BF,BF,BF,BF,BF,BF,BF,BF,BF,BF,BF,BF,BF,BF,BF,BF,BT,BT,BT,BT,BT,BT,BT]<|J ⟨I,I,I,I,I,I,⟨nO,I⟩,⟨nO,I⟩,⟨nO,I⟩,nO,I,⟨dO,I⟩,⟨dO,I⟩,⟨dO,I⟩,⟨dO,I⟩,⟨dO,I⟩,⟨dO,I⟩,⟨dO,I⟩,dO,I,⟨SI,I⟩,⟨SI,I⟩,⟨SI,I⟩,⟨SI,I⟩,⟨SI,I⟩,⟨SI,I⟩,⟨SI,I⟩,SI,I,SI,SI,SI,SI,SI,SI,SI,I⟩<|W.cn<|J (fun _=>(g 19 21 []<|J UA (RT ?_))) (noF rfl)
 rotate_left
 simp only[LM]at h7
 refine g 25 120 [BF,BF,BF,BF,BF,BF,BF,BF,BF,BF,BF,BF,BT,BT,BT,BT,BT,BT,BT,BT,BT,BT,BT,BT,BT,BT,BT]<|J ⟨I,I,I,I,I,I,⟨nO,I⟩,⟨nO,I⟩,⟨nO,I⟩,nO,I,⟨dO,I⟩,⟨dO,I⟩,⟨dO,I⟩,⟨dO,I⟩,⟨dO,I⟩,⟨dO,I⟩,⟨dO,I⟩,dO,I,SI,SI,SI,SI,SI,SI,SI,SI,I,rfl,rfl,rfl,rfl,rfl,rfl,rfl,I⟩<|W.cn<|J (fun _=>(g 19 21 []<|J UA (RT ?_))) (noF rfl)
 rotate_left
 refine g 25 120 [BT,BT,BT,BT,BT,BT,BT,BT,BT,BT,BT,BT,BT,BT,BT,BT,BT,BT,BT,BT,BT,BT,BT,BT,BT,BT,BT]<|J ⟨I,I,I,I,I,I,ag OM,ag OM,ag OM,ag OM,I,rfl,rfl,rfl,rfl,rfl,rfl,rfl,rfl,I,rfl,rfl,rfl,rfl,rfl,rfl,rfl,rfl,I,rfl,rfl,rfl,rfl,rfl,rfl,rfl,I⟩<|W.cn<|J (fun _=>(g 19 21 []<|J UA (RT ?_))) (noF rfl)
 rotate_left
 refine g 17 19 [.call (V.i (aq p.tasks)) [[]],BF,BF,BF,.call (V.b (decide (1≤b.workers∧b.workers≤8))) [[],[],[]],BF,BF,BT,BT,BT,BT,BT]<|J ⟨I,Zak,I,I,⟨nO,I⟩,⟨nO,I⟩,⟨nO,UC,I,UU,UA,aa _ _ _⟩,⟨nO,I⟩,nO,I,ag OM,ag OM,ag OM,ag OM,ag OM,I⟩<|W.cn<|J (fun _=>(g 29 31 []<|J UA (RT ?_))) (noF rfl)
 rotate_left
 refine g 17 19 [.call (V.i (aq p.tasks)) [[]],BT,BT,BT,BT,BT,BT,BT,BT,BT,BT]<|J ⟨I,Zak,I,I,ag OM,ag OM,ag OM,ag OM,ag OM,I,rfl,rfl,rfl,rfl,rfl,I⟩<|W.cn<|J (fun _=>(g 29 31 []<|J UA (RT ?_))) (noF rfl)
 rotate_left
 all_goals try first
  |exact vbf (fun q=>by have e1:=q.plan;have e2:=q.workers;have e3:=q.now;have e4:=q.code;omega)
  |exact vbf (gr hup fun q=>by have e1:=q.epoch;have e2:=q.pos;have e3:=q.rlen;have e4:=q.jlen;have e5:=q.slen;omega)
 have hk:(cA b p).code = 0:=by assumption
 have hc0:aq p.tasks = 0:=by assumption
 obtain⟨_,_,hsl,_⟩:=cE (p:=p) (xs:=b.log.safe++b.log.loose) hk
 obtain⟨hep1,hep2⟩:=fP (p:=p) (xs:=b.log.safe++b.log.loose) hk
 change (cA b p).results.length = _ at hsl
 change 0≤(cA b p).epoch at hep1
 change (cA b p).epoch≤300 at hep2
 have f1:b.epoch = (cA b p).epoch:=by assumption
 have f2:1≤b.epoch:=by omega
 have f3:b.results.length = p.tasks.length:=by omega
 have f4:b.jobs.length = p.tasks.length:=by omega
 have f5:(b.seats.length:Int) = b.workers:=by omega
 have f6:1≤b.workers∧b.workers≤8:=by assumption
 have f7:0≤b.now∧b.now≤1000000:=by assumption
 have hpl:=(bU hc0).1
 refine W.lp (fun s (n:Nat)=>⟨[(2,s.s 2),(3,s.s 3),(5,s.s 5),(16,s.s 16),(22,s.s 22),(24,s.s 24),(122,s.s 122),(123,s.s 123),(124,.i n)],[(2,[s.c 2 0,s.c 2 1,s.c 2 2,s.c 2 3,s.c 2 4,s.c 2 5,s.c 2 6,s.c 2 7,s.c 2 8,s.c 2 9,s.c 2 10,s.c 2 11]),(3,[s.c 3 0]),(5,[s.c 5 0,s.c 5 1,s.c 5 2])],[]⟩) (fun(n:Nat)=>n≤b.results.length∧b.results.take n = (cA b p).results.take n) (fun(n:Nat)=>b.results.length - n) (0) [some 2,some 3,some 5] [] ⟨rfl,⟨rfl,rfl,rfl,Zai,rfl,rfl,rfl,rfl,rfl,I⟩,⟨Zaa,⟨Zad,Zee⟩⟩,I⟩ (by simp) ?_
 rintro n ⟨hn,hc⟩
 conv=>whnf
 refine g 0 0 []<|J UA<|W.sq<|W.cn<|J (fun h10=>?_) fun h10=>?_
 replace h10:=dt h10
 simp only[LM]at h10
 refine W.skip<|W.sq<|W.blk ?_
 obtain⟨y1,hy1⟩:=af (xs:=Boss.results b) (n:=n) OM
 refine g 125 129 [.x (aj y1)]<|J ⟨I,Zdl,I,I,I,I⟩ ?_
 obtain⟨y2,hy2⟩:=af (xs:=Story.results (cA b p)) (n:=n) OM
 refine g 129 135 [.n (n),.x (aj y2)]<|J ⟨I,I,I,Zdj,xA,I,I,I⟩<|W.cn<|J (fun h11=>?_) fun h11=>?_
 replace h11:=ndt h11
 refine g 7 8 []<|J UA<|RT ?_
 rotate_left
 replace h11:=ndf h11
 refine W.skip<|rg [.i ((n:Int) +1)]<|J Zdn ?_
 rotate_left
 replace h10:=df h10
 simp only[LM]at h10
 refine W.exit<|W.sq ?_
 by_cases h11:(0:Int)≤Boss.since b∧Boss.since b≤(1:Int)
 by_cases h12:(0:Int)≤Boss.given b∧Boss.given b≤(1000000:Int)
 refine g 122 152 [.call (V.b (decide (0≤b.since∧b.since≤1))) [[],[],[]],BF,BF,BF,.call (V.b (decide (0≤b.given∧b.given≤1000000))) [[],[],[]],BF,BF,BF,BF,BF,BF,BF]<|J ⟨I,I,⟨UC,I,UU,UA,aa _ _ _⟩,I,I,⟨nO,I⟩,⟨nO,I⟩,⟨nO,UC,I,UU,UA,aa _ _ _⟩,⟨nO,I⟩,nO,I,⟨nO,I⟩,⟨nO,I⟩,⟨nO,I⟩,⟨nO,I⟩,nO,I⟩<|W.cn<|J (fun h13=>?_) fun h13=>?_
 replace h13:=dt h13
 simp only[LM]at h13
 refine g 5 6 []<|J UA<|RT ?_
 rotate_left
 replace h13:=df h13
 simp only[LM]at h13
 refine W.skip<|g 152 154 []<|J UB<|g 154 158 [.i (b.epoch - 1),.i ((b.epoch - 1) * 1000000)]<|J ⟨I,I,wO,wO,I,I⟩<|W.sq<|g 5 6 []<|J UD<|W.blk ?_
 rotate_left
 refine g 122 152 [.call (V.b (decide (0≤b.since∧b.since≤1))) [[],[],[]],BF,BF,BF,.call (V.b (decide (0≤b.given∧b.given≤1000000))) [[],[],[]],BF,BF,BT,BT,BT,BT,BT]<|J ⟨I,I,⟨UC,I,UU,UA,aa _ _ _⟩,I,I,⟨nO,I⟩,⟨nO,I⟩,⟨nO,UC,I,UU,UA,aa _ _ _⟩,⟨nO,I⟩,nO,I,ag OM,ag OM,ag OM,ag OM,ag OM,I⟩<|W.cn<|J (fun _=>(g 5 6 []<|J UA (RT ?_))) (noF rfl)
 rotate_left
 refine g 122 152 [.call (V.b (decide (0≤b.since∧b.since≤1))) [[],[],[]],BT,BT,BT,BT,BT,BT,BT,BT,BT,BT]<|J ⟨I,I,⟨UC,I,UU,UA,aa _ _ _⟩,I,I,ag OM,ag OM,ag OM,ag OM,ag OM,I,rfl,rfl,rfl,rfl,rfl,I⟩<|W.cn<|J (fun _=>(g 5 6 []<|J UA (RT ?_))) (noF rfl)
 rotate_left
 all_goals try first
  |exact vbf (gr hup fun q=>by have e1:=q.res;rw[e1]at hy1;rw[hy1]at hy2;cases hy2;contradiction)
  |exact vbf (gr hup fun q=>by have e1:=q.since;have e2:=q.given;have e3:=q.olen;omega)
 ·refine⟨n+1,[some 2,some 3,some 5],[],⟨rfl,⟨rfl,rfl,rfl,Zai,rfl,rfl,rfl,rfl,rfl,I⟩,⟨Zaa,⟨Zad,Zee⟩⟩,I⟩,?_,?_⟩
  rotate_left
  (dsimp only;omega)
  dsimp only
  exact⟨by omega,jT hc hy1 (by rw[hy2];simp_all)⟩
 have g1:b.results = (cA b p).results:=by rw[aF OM,aF OM]at hc;exact hc
 have g2:0≤b.since∧b.since≤1:=by omega
 have g3:0≤b.given∧b.given≤1000000:=by omega
 have g4:b.owed.length≤2000:=by omega
 refine W.lp (fun s (n:Nat)=>⟨[(2,s.s 2),(3,s.s 3),(8,s.s 8),(9,s.s 9),(16,s.s 16),(22,s.s 22),(24,s.s 24),(159,s.s 159),(160,s.s 160),(161,.i n)],[(2,[s.c 2 0,s.c 2 1,s.c 2 2,s.c 2 3,s.c 2 4,s.c 2 5,s.c 2 6,s.c 2 7,s.c 2 8,s.c 2 9,s.c 2 10,s.c 2 11]),(3,[s.c 3 0])],[(153,mM b n)]⟩) (fun(n:Nat)=>n≤b.jobs.length∧ij b p.tasks n) (fun(n:Nat)=>b.jobs.length - n) (0) [some 2,some 3] [153] ⟨rfl,⟨rfl,rfl,rfl,rfl,⟨_,rfl,_,_,rfl,rfl,rfl⟩,rfl,rfl,rfl,rfl,rfl,I⟩,⟨⟨rfl,⟨rfl,⟨rfl,⟨rfl,⟨rfl,⟨rfl,⟨rfl,⟨rfl,⟨rfl,⟨rfl,⟨rfl,⟨rfl,⟨rfl,I⟩⟩⟩⟩⟩⟩⟩⟩⟩⟩⟩⟩⟩,⟨⟨rfl,⟨rfl,I⟩⟩,I⟩⟩,⟨rfl,I⟩⟩ ?_ ?_
 ·exact⟨Nat.zero_le _,fun m j hm=>by omega⟩
 rintro n1 ⟨hn1,hc1⟩
 have hrl:b.results.length = p.tasks.length:=f3
 by_cases hj2:n1 < b.jobs.length
 ·obtain⟨j,hj1⟩:=af hj2
  obtain⟨y,hy0⟩:=af (xs:=b.results) (n:=n1) OM
  obtain⟨t,ht0⟩:=af (xs:=p.tasks) (n:=n1) OM
  have hkin:=Ox b n1 j.lease
  obtain⟨_,_,a3,a4⟩:=b9 hc0 ht0
  have crd:=jg b.results t.deps (fun d hd=>by have:=a4 d hd;omega) OM
  by_cases hz:j.lease = 0
  ·by_cases hz2:j.worker = 0∧j.til = 0
   ·have hjo:Hj b p.tasks n1 j:=⟨fun _=>hz2,fun e=>absurd hz e⟩
    obtain⟨hz3,hz4⟩:=hz2
    conv=>whnf
    refine g 0 0 []<|J UA<|W.sq<|W.cn<|J (fun _=>(W.skip (W.sq (W.blk (g 162 166 [.x (aO j)]<|J Zbv (W.sq (g 166 168 []<|J UC (W.cn<|J (fun _=>(W.sq (g 168 171 [BT]<|J ⟨I,I,by simp[*],I⟩ ?_))) (noF tO))))))))) (noF (by simp_all))
    refine W.cn<|J (noT rfl) fun _=>W.skip<|W.exit<|rg [.i ((n1:Int) +1)]<|J Zdn ?_
    refine⟨n1+1,[some 2,some 3],[153],⟨rfl,⟨rfl,rfl,rfl,rfl,Zai,rfl,rfl,rfl,rfl,rfl,I⟩,⟨Zaa,Zdq⟩,⟨(congrArg some (Lj hj1 hz).symm),I⟩⟩,?_,?_⟩
    rotate_left
    (dsimp only;omega)
    dsimp only
    exact⟨by omega,oI hc1 hj1 hjo⟩
   ·conv=>whnf
    refine g 0 0 []<|J UA<|W.sq<|W.cn<|J (fun _=>(W.skip (W.sq (W.blk (g 162 166 [.x (aO j)]<|J Zbv (W.sq (g 166 168 []<|J UC (W.cn<|J (fun _=>(W.sq (g 168 171 [BF]<|J ⟨I,I,by simp_all,I⟩ ?_))) (noF tO))))))))) (noF (by simp_all))
    refine W.cn<|J (fun _=>(g 171 172 []<|J UA (RT ?_))) (noF rfl)
    all_goals exact vbf (gr hup (nb hj1 (fun q=>by have:=q.1 hz;omega)))
  ·by_cases hA:(b.epoch - 1) * 1000000+1≤j.lease∧j.lease≤(b.epoch - 1) * 1000000+b.given
   ·by_cases hB:j.lease∈(b.jobs.take n1).map Job.lease
    ·have hkm:Value.int IntKind.i64 j.lease∈mM b n1:=(EM hz).2 hB
     conv=>whnf
     refine g 0 0 []<|J UA<|W.sq<|W.cn<|J (fun _=>(W.skip (W.sq (W.blk (g 162 166 [.x (aO j)]<|J Zbv (W.sq (g 166 168 []<|J UC (W.cn<|J (noT dO) fun _=>(W.skip (W.sq ?_)))))))))) (noF (by simp_all))
     refine g 168 207 [.i ((b.epoch - 1) * 1000000+1),.i ((b.epoch - 1) * 1000000+b.given),.call (V.b (decide ((b.epoch - 1) * 1000000+1≤j.lease∧j.lease≤(b.epoch - 1) * 1000000+b.given))) [[],[],[]],BF,BF,BF,BF,.b (decide (j.lease∈List.map (fun l=>l) (List.filter (fun l=>decide ¬l = 0) (List.map Job.lease (List.take n1 b.jobs))))),BF,BT,BT,BT,BT,BT,BT,BT,BT,BT,BT,BT,BT,BT,BT,BT,BT,BT,BT]<|J ⟨I,I,I,wO,I,I,I,wO,⟨UC,I,UU,UA,aa _ _ _⟩,I,I,⟨nO,I⟩,⟨nO,I⟩,⟨nO,I⟩,⟨nO,mi,gQ⟩,nO,I,(by simp_all),(by simp_all),(by simp_all),(by simp_all),(by simp_all),(by simp_all),(by simp_all),I,rfl,rfl,rfl,rfl,rfl,rfl,rfl,rfl,rfl,rfl,rfl,I⟩<|W.cn<|J (fun _=>(g 207 208 []<|J UA (RT ?_))) (noF rfl)
     exact vbf (gr hup (nb hj1 (fun q=>(q.2 hz).once hB)))
    ·have hkm:¬Value.int IntKind.i64 j.lease∈mM b n1:=fun e=>hB ((EM hz).1 e)
     by_cases hC:1≤j.worker∧j.worker≤b.workers
     ·by_cases hD:b.now+1≤j.til∧j.til≤b.now+12
      ·by_cases hE:y = emp
       ·by_cases hF:cX b.results t.deps
        ·rw[decide_eq_true hF]at crd
         conv=>whnf
         refine g 0 0 []<|J UA<|W.sq<|W.cn<|J (fun _=>(W.skip (W.sq (W.blk (g 162 166 [.x (aO j)]<|J Zbv (W.sq (g 166 168 []<|J UC (W.cn<|J (noT dO) fun _=>(W.skip (W.sq ?_)))))))))) (noF (by simp_all))
         refine g 168 207 [.i ((b.epoch - 1) * 1000000+1),.i ((b.epoch - 1) * 1000000+b.given),.call (V.b (decide ((b.epoch - 1) * 1000000+1≤j.lease∧j.lease≤(b.epoch - 1) * 1000000+b.given))) [[],[],[]],BF,BF,BF,BF,.b (decide (j.lease∈List.map (fun l=>l) (List.filter (fun l=>decide ¬l = 0) (List.map Job.lease (List.take n1 b.jobs))))),BF,BF,BF,BF,BF,BF,.call (V.b (decide (1≤j.worker∧j.worker≤b.workers))) [[],[],[]],BF,BF,BF,BF,BF,BF,BF,.i (b.now+1),BF,BF,BF,.i (b.now+12),BF,.call (V.b (decide (b.now+1≤j.til∧j.til≤b.now+12))) [[],[],[]],BF,BF] ?_
         conv=>whnf
         refine J ⟨I,I,I,wO,I,I,I,wO,⟨UC,I,UU,UA,aa _ _ _⟩,I,I,⟨nO,I⟩,⟨nO,I⟩,⟨nO,I⟩,⟨nO,mi,gQ⟩,nO,I,⟨(by simp_all),I⟩,⟨(by simp_all),I⟩,⟨(by simp_all),I⟩,⟨(by simp_all),I⟩,⟨(by simp_all),UC,I,UU,UA,aa _ _ _⟩,⟨(by simp_all),I⟩,(by simp_all),I,⟨nO,I⟩,⟨nO,I⟩,⟨nO,I⟩,⟨nO,I⟩,Zeo,⟨nO,I⟩,⟨nO,I⟩,Zeo,⟨nO,UC,I,UU,UA,aa _ _ _⟩,⟨nO,I⟩,nO,I⟩<|W.cn<|J (noT nO) fun _=>W.skip<|g 207 211 []<|J ⟨I,I,I,gQ,I⟩<|gd 211 228 [[],[],[],[.x (aj y)],[],[],[],[BF],[BF],[BF],[BF],[BF],[BF,.x (ay t)],[BF],[BF],[BF,.call VT [[],[]]],[BF],[BF]] ?_
         conv=>whnf
         refine J Zb9<|J KR<|W.cn<|J (noT rfl) fun _=>W.skip<|rg [.i ((n1:Int) +1)]<|J Zdn ?_
         refine⟨n1+1,[some 2,some 3],[153],⟨rfl,⟨rfl,rfl,rfl,rfl,Zai,rfl,rfl,rfl,rfl,rfl,I⟩,⟨Zaa,Zdq⟩,⟨(congrArg some (Li hj1 hz)),I⟩⟩,?_,?_⟩
         rotate_left
         (dsimp only;omega)
         dsimp only
         exact⟨by omega,oI hc1 hj1 ⟨fun e=>absurd e hz,fun _=>⟨hA,hC,hD,by rw[jQ hy0];exact hE,by rw[dW ht0];exact hF,hB⟩⟩⟩
        ·rw[decide_eq_false hF]at crd
         conv=>whnf
         refine g 0 0 []<|J UA<|W.sq<|W.cn<|J (fun _=>(W.skip (W.sq (W.blk (g 162 166 [.x (aO j)]<|J Zbv (W.sq (g 166 168 []<|J UC (W.cn<|J (noT dO) fun _=>(W.skip (W.sq ?_)))))))))) (noF (by simp_all))
         refine g 168 207 [.i ((b.epoch - 1) * 1000000+1),.i ((b.epoch - 1) * 1000000+b.given),.call (V.b (decide ((b.epoch - 1) * 1000000+1≤j.lease∧j.lease≤(b.epoch - 1) * 1000000+b.given))) [[],[],[]],BF,BF,BF,BF,.b (decide (j.lease∈List.map (fun l=>l) (List.filter (fun l=>decide ¬l = 0) (List.map Job.lease (List.take n1 b.jobs))))),BF,BF,BF,BF,BF,BF,.call (V.b (decide (1≤j.worker∧j.worker≤b.workers))) [[],[],[]],BF,BF,BF,BF,BF,BF,BF,.i (b.now+1),BF,BF,BF,.i (b.now+12),BF,.call (V.b (decide (b.now+1≤j.til∧j.til≤b.now+12))) [[],[],[]],BF,BF] ?_
         conv=>whnf
         refine J ⟨I,I,I,wO,I,I,I,wO,⟨UC,I,UU,UA,aa _ _ _⟩,I,I,⟨nO,I⟩,⟨nO,I⟩,⟨nO,I⟩,⟨nO,mi,gQ⟩,nO,I,⟨(by simp_all),I⟩,⟨(by simp_all),I⟩,⟨(by simp_all),I⟩,⟨(by simp_all),I⟩,⟨(by simp_all),UC,I,UU,UA,aa _ _ _⟩,⟨(by simp_all),I⟩,(by simp_all),I,⟨nO,I⟩,⟨nO,I⟩,⟨nO,I⟩,⟨nO,I⟩,Zeo,⟨nO,I⟩,⟨nO,I⟩,Zeo,⟨nO,UC,I,UU,UA,aa _ _ _⟩,⟨nO,I⟩,nO,I⟩<|W.cn<|J (noT nO) fun _=>W.skip<|g 207 211 []<|J ⟨I,I,I,gQ,I⟩<|gd 211 228 [[],[],[],[.x (aj y)],[],[],[],[BF],[BF],[BF],[BF],[BF],[BF,.x (ay t)],[BF],[BF],[BF,.call VF [[],[]]],[BF],[BF]] ?_
         conv=>whnf
         refine J Zb9<|J KR<|W.cn<|J (fun _=>(g 10 12 []<|J UA (RT ?_))) (noF rfl)
         exact vbf (gr hup (nb hj1 (fun q=>hF (by have:=(q.2 hz).ready;rw[dW ht0]at this;exact this))))
       ·conv=>whnf
        refine g 0 0 []<|J UA<|W.sq<|W.cn<|J (fun _=>(W.skip (W.sq (W.blk (g 162 166 [.x (aO j)]<|J Zbv (W.sq (g 166 168 []<|J UC (W.cn<|J (noT dO) fun _=>(W.skip (W.sq ?_)))))))))) (noF (by simp_all))
        refine g 168 207 [.i ((b.epoch - 1) * 1000000+1),.i ((b.epoch - 1) * 1000000+b.given),.call (V.b (decide ((b.epoch - 1) * 1000000+1≤j.lease∧j.lease≤(b.epoch - 1) * 1000000+b.given))) [[],[],[]],BF,BF,BF,BF,.b (decide (j.lease∈List.map (fun l=>l) (List.filter (fun l=>decide ¬l = 0) (List.map Job.lease (List.take n1 b.jobs))))),BF,BF,BF,BF,BF,BF,.call (V.b (decide (1≤j.worker∧j.worker≤b.workers))) [[],[],[]],BF,BF,BF,BF,BF,BF,BF,.i (b.now+1),BF,BF,BF,.i (b.now+12),BF,.call (V.b (decide (b.now+1≤j.til∧j.til≤b.now+12))) [[],[],[]],BF,BF] ?_
        conv=>whnf
        refine J ⟨I,I,I,wO,I,I,I,wO,⟨UC,I,UU,UA,aa _ _ _⟩,I,I,⟨nO,I⟩,⟨nO,I⟩,⟨nO,I⟩,⟨nO,mi,gQ⟩,nO,I,⟨(by simp_all),I⟩,⟨(by simp_all),I⟩,⟨(by simp_all),I⟩,⟨(by simp_all),I⟩,⟨(by simp_all),UC,I,UU,UA,aa _ _ _⟩,⟨(by simp_all),I⟩,(by simp_all),I,⟨nO,I⟩,⟨nO,I⟩,⟨nO,I⟩,⟨nO,I⟩,Zeo,⟨nO,I⟩,⟨nO,I⟩,Zeo,⟨nO,UC,I,UU,UA,aa _ _ _⟩,⟨nO,I⟩,nO,I⟩<|W.cn<|J (noT nO) fun _=>W.skip<|g 207 211 []<|J ⟨I,I,I,gQ,I⟩<|gd 211 228 [[],[],[],[.x (aj y)],[],[],[],[BT],[BT],[BT],[BT],[BT],[BT],[BT],[BT],[BT],[BT],[BT]] ?_
        conv=>whnf
        refine J ⟨I,I,I,Zdl,I,I,I,ag OM,ag OM,ag OM,ag OM,ag OM,ag OM,ag OM,ag OM,ag OM,ag OM,ag OM,I⟩<|J KR<|W.cn<|J (fun _=>(g 10 12 []<|J UA (RT ?_))) (noF rfl)
        exact vbf (gr hup (nb hj1 (fun q=>hE (by have:=(q.2 hz).res;rw[jQ hy0]at this;exact this))))
      ·conv=>whnf
       refine g 0 0 []<|J UA<|W.sq<|W.cn<|J (fun _=>(W.skip (W.sq (W.blk (g 162 166 [.x (aO j)]<|J Zbv (W.sq (g 166 168 []<|J UC (W.cn<|J (noT dO) fun _=>(W.skip (W.sq ?_)))))))))) (noF (by simp_all))
       refine g 168 207 [.i ((b.epoch - 1) * 1000000+1),.i ((b.epoch - 1) * 1000000+b.given),.call (V.b (decide ((b.epoch - 1) * 1000000+1≤j.lease∧j.lease≤(b.epoch - 1) * 1000000+b.given))) [[],[],[]],BF,BF,BF,BF,.b (decide (j.lease∈List.map (fun l=>l) (List.filter (fun l=>decide ¬l = 0) (List.map Job.lease (List.take n1 b.jobs))))),BF,BF,BF,BF,BF,BF,.call (V.b (decide (1≤j.worker∧j.worker≤b.workers))) [[],[],[]],BF,BF,BF,BF,BF,BF,BF,.i (b.now+1),BF,BF,BF,.i (b.now+12),BF,.call (V.b (decide (b.now+1≤j.til∧j.til≤b.now+12))) [[],[],[]],BF,BF] ?_
       conv=>whnf
       refine J ⟨I,I,I,wO,I,I,I,wO,⟨UC,I,UU,UA,aa _ _ _⟩,I,I,⟨nO,I⟩,⟨nO,I⟩,⟨nO,I⟩,⟨nO,mi,gQ⟩,nO,I,⟨(by simp_all),I⟩,⟨(by simp_all),I⟩,⟨(by simp_all),I⟩,⟨(by simp_all),I⟩,⟨(by simp_all),UC,I,UU,UA,aa _ _ _⟩,⟨(by simp_all),I⟩,(by simp_all),I,⟨nO,I⟩,⟨nO,I⟩,⟨nO,I⟩,⟨nO,I⟩,Zeo,⟨nO,I⟩,⟨nO,I⟩,Zeo,⟨nO,UC,I,UU,UA,aa _ _ _⟩,⟨nO,I⟩,nO,I⟩<|W.cn<|J (fun _=>(g 207 208 []<|J UA (RT ?_))) (noF (ag OM))
       exact vbf (gr hup (nb hj1 (fun q=>hD (q.2 hz).til)))
     ·conv=>whnf
      refine g 0 0 []<|J UA<|W.sq<|W.cn<|J (fun _=>(W.skip (W.sq (W.blk (g 162 166 [.x (aO j)]<|J Zbv (W.sq (g 166 168 []<|J UC (W.cn<|J (noT dO) fun _=>(W.skip (W.sq ?_)))))))))) (noF (by simp_all))
      refine g 168 207 [.i ((b.epoch - 1) * 1000000+1),.i ((b.epoch - 1) * 1000000+b.given),.call (V.b (decide ((b.epoch - 1) * 1000000+1≤j.lease∧j.lease≤(b.epoch - 1) * 1000000+b.given))) [[],[],[]],BF,BF,BF,BF,.b (decide (j.lease∈List.map (fun l=>l) (List.filter (fun l=>decide ¬l = 0) (List.map Job.lease (List.take n1 b.jobs))))),BF,BF,BF,BF,BF,BF,.call (V.b (decide (1≤j.worker∧j.worker≤b.workers))) [[],[],[]],BF,BF,BT,BT,BT,BT,BT,BT,BT,BT,BT,BT,BT] ?_
      conv=>whnf
      refine J ⟨I,I,I,wO,I,I,I,wO,⟨UC,I,UU,UA,aa _ _ _⟩,I,I,⟨nO,I⟩,⟨nO,I⟩,⟨nO,I⟩,⟨nO,mi,gQ⟩,nO,I,⟨(by simp_all),I⟩,⟨(by simp_all),I⟩,⟨(by simp_all),I⟩,⟨(by simp_all),I⟩,⟨(by simp_all),UC,I,UU,UA,aa _ _ _⟩,⟨(by simp_all),I⟩,(by simp_all),I,ag OM,ag OM,ag OM,ag OM,ag OM,ag OM,ag OM,ag OM,ag OM,ag OM,ag OM,I⟩<|W.cn<|J (fun _=>(g 207 208 []<|J UA (RT ?_))) (noF rfl)
      exact vbf (gr hup (nb hj1 (fun q=>hC (q.2 hz).worker)))
   ·conv=>whnf
    refine g 0 0 []<|J UA<|W.sq<|W.cn<|J (fun _=>(W.skip (W.sq (W.blk (g 162 166 [.x (aO j)]<|J Zbv (W.sq (g 166 168 []<|J UC (W.cn<|J (noT dO) fun _=>(W.skip (W.sq ?_)))))))))) (noF (by simp_all))
    refine g 168 207 [.i ((b.epoch - 1) * 1000000+1),.i ((b.epoch - 1) * 1000000+b.given),.call (V.b (decide ((b.epoch - 1) * 1000000+1≤j.lease∧j.lease≤(b.epoch - 1) * 1000000+b.given))) [[],[],[]],BT,BT,BT,BT,BT,BT,BT,BT,BT,BT,BT,BT,BT,BT,BT,BT,BT,BT,BT,BT,BT,BT,BT]<|J ⟨I,I,I,wO,I,I,I,wO,⟨UC,I,UU,UA,aa _ _ _⟩,I,I,ag OM,ag OM,ag OM,ag OM,ag OM,I,rfl,rfl,rfl,rfl,rfl,rfl,rfl,I,rfl,rfl,rfl,rfl,rfl,rfl,rfl,rfl,rfl,rfl,rfl,I⟩<|W.cn<|J (fun _=>(g 207 208 []<|J UA (RT ?_))) (noF rfl)
    exact vbf (gr hup (nb hj1 (fun q=>hA (q.2 hz).lease)))
 have hjobs:ij b p.tasks b.jobs.length:=by rw[show b.jobs.length = n1 by omega];exact hc1
 conv=>whnf
 refine g 0 0 []<|J UA<|W.sq<|W.cn<|J (noT (by simp_all)) fun _=>W.exit<|W.sq<|g 24 231 []<|J UD<|W.blk<|W.lp (fun s (n:Nat)=>⟨[(2,s.s 2),(3,s.s 3),(22,s.s 22),(231,s.s 231),(232,s.s 232),(233,.i n)],[(2,[s.c 2 0,s.c 2 1,s.c 2 2,s.c 2 3,s.c 2 4,s.c 2 5,s.c 2 6,s.c 2 7,s.c 2 8,s.c 2 9,s.c 2 10,s.c 2 11]),(3,[s.c 3 0])],[]⟩) (fun(n:Nat)=>n≤b.seats.length∧∀ s∈b.seats.take n,0≤s.epoch∧s.epoch≤300) (fun(n:Nat)=>b.seats.length - n) (0) [some 2,some 3] [] Zew (by simp) ?_
 rintro n2 ⟨hn2,hc2⟩
 by_cases hs2:n2 < b.seats.length
 ·obtain⟨s,hs1⟩:=af hs2
  by_cases hA:0≤s.epoch∧s.epoch≤300
  ·conv=>whnf
   refine g 0 0 []<|J UA<|W.sq<|W.cn<|J (fun h14=>?_) fun h14=>?_
   replace h14:=dt h14
   simp only[LM]at h14
   refine W.skip<|W.sq<|W.blk<|g 234 237 [.x (aG s)]<|J ⟨Zdl,I,I,UB,I⟩<|g 237 240 [.call (V.b (decide (0≤s.epoch∧s.epoch≤300))) [[],[],[]]]<|J ⟨I,I,⟨UC,I,UU,UA,aa _ _ _⟩,I,I⟩<|W.cn<|J (noT nO) fun _=>W.skip<|rg [.i ((n2:Int) +1)]<|J Zdn ?_
   rotate_left
   replace h14:=df h14
   simp only[LM]at h14
   omega
   refine⟨n2+1,[some 2,some 3],[],Zew,?_,?_⟩
   rotate_left
   (dsimp only;omega)
   dsimp only
   exact⟨by omega,dV hc2 hs1 hA⟩
  ·conv=>whnf
   refine g 0 0 []<|J UA<|W.sq<|W.cn<|J (fun h14=>?_) fun h14=>?_
   replace h14:=dt h14
   simp only[LM]at h14
   refine W.skip<|W.sq<|W.blk<|g 234 237 [.x (aG s)]<|J ⟨Zdl,I,I,UB,I⟩<|g 237 240 [.call (V.b (decide (0≤s.epoch∧s.epoch≤300))) [[],[],[]]]<|J ⟨I,I,⟨UC,I,UU,UA,aa _ _ _⟩,I,I⟩<|W.cn<|J (fun _=>(g 13 14 []<|J UA (RT ?_))) (noF (ag OM))
   rotate_left
   replace h14:=df h14
   simp only[LM]at h14
   omega
   exact vbf (gr hup (Je hs1 hA))
 have hseats:∀ s∈b.seats,0≤s.epoch∧s.epoch≤300:=by rw[aF OM]at hc2;exact hc2
 conv=>whnf
 refine g 0 0 []<|J UA<|W.sq<|W.cn<|J (fun h14=>?_) fun h14=>?_
 replace h14:=dt h14
 simp only[LM]at h14
 omega
 replace h14:=df h14
 simp only[LM]at h14
 refine W.exit<|W.sq<|g 231 243 []<|J UD<|W.blk<|W.lp (fun s (n:Nat)=>⟨[(2,s.s 2),(3,s.s 3),(22,s.s 22),(243,s.s 243),(244,s.s 244),(245,.i n)],[(2,[s.c 2 0,s.c 2 1,s.c 2 2,s.c 2 3,s.c 2 4,s.c 2 5,s.c 2 6,s.c 2 7,s.c 2 8,s.c 2 9,s.c 2 10,s.c 2 11]),(3,[s.c 3 0])],[]⟩) (fun(n:Nat)=>n≤b.owed.length∧∀ o∈b.owed.take n,OwedOk b p.tasks o) (fun(n:Nat)=>b.owed.length - n) (0) [some 2,some 3] [] Zew (by simp) ?_
 rintro n3 ⟨hn3,hc3⟩
 by_cases ho2:n3 < b.owed.length
 ·obtain⟨o,ho1⟩:=af ho2
  by_cases hA:1≤o.worker∧o.worker≤b.workers
  ·by_cases hB:1≤o.lease∧o.lease≤300000000
   ·by_cases hC:0≤o.task∧o.task≤(p.tasks.length:Int) - 1
    ·obtain⟨y,hy0⟩:=af (xs:=b.results) (n:=o.task.toNat) OM
     by_cases hD:y = emp
     ·conv=>whnf
      refine g 0 0 []<|J UA<|W.sq<|W.cn<|J (fun _=>(W.skip (W.sq (W.blk (g 246 249 [.x (aL o)]<|J Zck (g 249 279 [.call (V.b (decide (1≤o.worker∧o.worker≤b.workers))) [[],[],[]],BF,BF,BF,.call (V.b (decide (1≤o.lease∧o.lease≤300000000))) [[],[],[]],BF,BF,BF,BF,BF,BF,BF,BF,.i ((↑(List.length (List.map ay p.tasks)):Int) - 1),BF,.call (V.b (decide (0≤o.task∧o.task≤(↑(List.length (List.map ay p.tasks)):Int) - 1))) [[],[],[]],BF,BF,BF,BF,BF,BF,BF,.x (aj y),BF,BF,BF]<|J ⟨I,I,I,I,⟨UC,I,UU,UA,aa _ _ _⟩,I,I,⟨nO,I⟩,⟨nO,I⟩,⟨nO,UC,I,UU,UA,aa _ _ _⟩,⟨nO,I⟩,nO,I,⟨nO,I⟩,⟨nO,I⟩,⟨nO,I⟩,⟨nO,I⟩,⟨nO,I⟩,⟨nO,w64 LN LN⟩,⟨nO,UC,I,UU,UA,aa _ _ _⟩,⟨nO,I⟩,nO,I,⟨SI,I⟩,⟨SI,I⟩,⟨SI,I⟩,⟨SI,I⟩,⟨SI,OM,xA⟩,⟨SI,I⟩,⟨SI,I⟩,SI,I⟩ (W.cn<|J (fun _=>(g 15 16 []<|J UA (RT ?_))) (noF tO)))))))) (noF SI)
      exact vbf (gr hup (ld ho1 (fun q=>q.res (by rw[j7 hy0];exact hD))))
     ·conv=>whnf
      refine g 0 0 []<|J UA<|W.sq<|W.cn<|J (fun _=>(W.skip (W.sq (W.blk (g 246 249 [.x (aL o)]<|J Zck (g 249 279 [.call (V.b (decide (1≤o.worker∧o.worker≤b.workers))) [[],[],[]],BF,BF,BF,.call (V.b (decide (1≤o.lease∧o.lease≤300000000))) [[],[],[]],BF,BF,BF,BF,BF,BF,BF,BF,.i ((↑(List.length (List.map ay p.tasks)):Int) - 1),BF,.call (V.b (decide (0≤o.task∧o.task≤(↑(List.length (List.map ay p.tasks)):Int) - 1))) [[],[],[]],BF,BF,BF,BF,BF,BF,BF,.x (aj y),BF,BF,BF]<|J ⟨I,I,I,I,⟨UC,I,UU,UA,aa _ _ _⟩,I,I,⟨nO,I⟩,⟨nO,I⟩,⟨nO,UC,I,UU,UA,aa _ _ _⟩,⟨nO,I⟩,nO,I,⟨nO,I⟩,⟨nO,I⟩,⟨nO,I⟩,⟨nO,I⟩,⟨nO,I⟩,⟨nO,w64 LN LN⟩,⟨nO,UC,I,UU,UA,aa _ _ _⟩,⟨nO,I⟩,nO,I,⟨SI,I⟩,⟨SI,I⟩,⟨SI,I⟩,⟨SI,I⟩,⟨SI,OM,xA⟩,⟨SI,I⟩,⟨SI,I⟩,SI,I⟩ (W.cn<|J (noT dO) fun _=>(W.skip (rg [.i ((n3:Int) +1)]<|J Zdn ?_))))))))) (noF SI)
      refine⟨n3+1,[some 2,some 3],[],Zew,?_,?_⟩
      rotate_left
      (dsimp only;omega)
      dsimp only
      exact⟨by omega,dV hc3 ho1 ⟨hA,hB,hC,by rw[j7 hy0];exact hD⟩⟩
    ·conv=>whnf
     refine g 0 0 []<|J UA<|W.sq<|W.cn<|J (fun _=>(W.skip (W.sq (W.blk (g 246 249 [.x (aL o)]<|J Zck (g 249 279 [.call (V.b (decide (1≤o.worker∧o.worker≤b.workers))) [[],[],[]],BF,BF,BF,.call (V.b (decide (1≤o.lease∧o.lease≤300000000))) [[],[],[]],BF,BF,BF,BF,BF,BF,BF,BF,.i ((↑(List.length (List.map ay p.tasks)):Int) - 1),BF,.call (V.b (decide (0≤o.task∧o.task≤(↑(List.length (List.map ay p.tasks)):Int) - 1))) [[],[],[]],BF,BF,BT,BT,BT,BT,BT,BT,BT,BT]<|J ⟨I,I,I,I,⟨UC,I,UU,UA,aa _ _ _⟩,I,I,⟨nO,I⟩,⟨nO,I⟩,⟨nO,UC,I,UU,UA,aa _ _ _⟩,⟨nO,I⟩,nO,I,⟨nO,I⟩,⟨nO,I⟩,⟨nO,I⟩,⟨nO,I⟩,⟨nO,I⟩,⟨nO,w64 LN LN⟩,⟨nO,UC,I,UU,UA,aa _ _ _⟩,⟨nO,I⟩,nO,I,SI,SI,SI,SI,SI,SI,SI,SI,I⟩ (W.cn<|J (fun _=>(g 15 16 []<|J UA (RT ?_))) (noF rfl)))))))) (noF SI)
     exact vbf (gr hup (ld ho1 (fun q=>hC q.task)))
   ·conv=>whnf
    refine g 0 0 []<|J UA<|W.sq<|W.cn<|J (fun _=>(W.skip (W.sq (W.blk (g 246 249 [.x (aL o)]<|J Zck (g 249 279 [.call (V.b (decide (1≤o.worker∧o.worker≤b.workers))) [[],[],[]],BF,BF,BF,.call (V.b (decide (1≤o.lease∧o.lease≤300000000))) [[],[],[]],BF,BF,BT,BT,BT,BT,BT,BT,BT,BT,BT,BT,BT,BT,BT,BT,BT,BT,BT]<|J ⟨I,I,I,I,⟨UC,I,UU,UA,aa _ _ _⟩,I,I,⟨nO,I⟩,⟨nO,I⟩,⟨nO,UC,I,UU,UA,aa _ _ _⟩,⟨nO,I⟩,nO,I,ag OM,ag OM,ag OM,ag OM,ag OM,ag OM,ag OM,ag OM,ag OM,I,rfl,rfl,rfl,rfl,rfl,rfl,rfl,rfl,I⟩ (W.cn<|J (fun _=>(g 15 16 []<|J UA (RT ?_))) (noF rfl)))))))) (noF SI)
    exact vbf (gr hup (ld ho1 (fun q=>hB q.lease)))
  ·conv=>whnf
   refine g 0 0 []<|J UA<|W.sq<|W.cn<|J (fun _=>(W.skip (W.sq (W.blk (g 246 249 [.x (aL o)]<|J Zck (g 249 279 [.call (V.b (decide (1≤o.worker∧o.worker≤b.workers))) [[],[],[]],BT,BT,BT,BT,BT,BT,BT,BT,BT,BT,BT,BT,BT,BT,BT,BT,BT,BT,BT,BT,BT,BT]<|J ⟨I,I,I,I,⟨UC,I,UU,UA,aa _ _ _⟩,I,I,ag OM,ag OM,ag OM,ag OM,ag OM,I,rfl,rfl,rfl,rfl,rfl,rfl,rfl,rfl,rfl,I,rfl,rfl,rfl,rfl,rfl,rfl,rfl,rfl,I⟩ (W.cn<|J (fun _=>(g 15 16 []<|J UA (RT ?_))) (noF rfl)))))))) (noF SI)
   exact vbf (gr hup (ld ho1 (fun q=>hA q.worker)))
 have howed:∀ o∈b.owed,OwedOk b p.tasks o:=by rw[aF OM]at hc3;exact hc3
 conv=>whnf
 refine g 0 0 []<|J UA<|W.sq<|W.cn<|J (noT SI) fun _=>W.exit<|g 22 247 []<|J UA<|RT ?_
 exact vbt ⟨hc0,f6,f7,hk,fun _=>⟨f1,f2,f3,f4,f5,g1,g2,g3,g4,hjobs,hseats,howed⟩,fun e=>by rw[hup]at e;cases e⟩
end Go.K
end
section
open Go Go.Tm Go.Proofs
namespace Go.K
theorem Ol{b:Boss}{k:Nat}{j2:Job}{l:Int}(hc:l ∉ (b.jobs.take k).map Job.lease)(h:b.jobs[k]? = some j2)(hn:¬j2.lease = l):l ∉ (b.jobs.take (k+1)).map Job.lease:=fun e=>by
 rw[List.take_add_one,h,List.map_append]at e
 rcases List.mem_append.1 e with e|e
 ·exact hc e
 ·simp at e;exact hn e.symm
theorem Va{b:Boss}{k n:Nat}{j2:Job}{l:Int}(hk:k < n)(h:b.jobs[k]? = some j2)(hn:j2.lease = l):l∈(b.jobs.take n).map Job.lease :=
 List.mem_map.2 ⟨j2,List.mem_of_getElem? (i:=k) (by rw[List.getElem?_take,if_pos hk];exact h),hn⟩
theorem kc{b:Boss}{ts:List Task}{n:Nat}{j:Job}(hj:b.jobs[n]? = some j)(h:¬Hj b ts n j):¬ij b ts b.jobs.length:=fun q=>h (q n j (List.getElem?_eq_some_iff.1 hj).1 hj)
noncomputable instance (b:Boss) (ts:List Task) (n:Nat):Decidable (ij b ts n):=Classical.propDecidable _
theorem xE(b:Boss)(p:Plan)(hc0:aq p.tasks = 0)(f1:1≤b.epoch)(f2:b.epoch≤300)(f3:b.results.length = p.tasks.length)(f4:b.jobs.length = p.tasks.length)(f7:0≤b.now∧b.now≤1000000)(f8:0≤b.given∧b.given≤1000000):F wq [.val (f0 b),.val (cR p)] (.b (decide (ij b p.tasks b.jobs.length))) [[],[]]:=by
 have hpl:=(bU hc0).1
 refine wW ?_
 conv=>whnf
 refine g 0 2 []<|J Zcr<|g 11 13 [.i (b.epoch - 1),.i ((b.epoch - 1) * 1000000)]<|J ⟨I,I,wO,wO,I,I⟩<|W.sq<|g 9 10 []<|J UA<|W.blk ?_
 refine W.lp (fun s (n:Nat)=>⟨[(2,s.s 2),(3,s.s 3),(5,s.s 5),(6,.i n),(10,s.s 10)],[(2,[s.c 2 0,s.c 2 1,s.c 2 2,s.c 2 3,s.c 2 4,s.c 2 5,s.c 2 6,s.c 2 7,s.c 2 8,s.c 2 9,s.c 2 10,s.c 2 11]),(3,[s.c 3 0])],[]⟩) (fun(n:Nat)=>n≤b.jobs.length∧ij b p.tasks n) (fun(n:Nat)=>b.jobs.length - n) (0) [some 2,some 3] [] ⟨rfl,⟨rfl,rfl,rfl,rfl,rfl,I⟩,⟨⟨rfl,⟨rfl,⟨rfl,⟨rfl,⟨rfl,⟨rfl,⟨rfl,⟨rfl,⟨rfl,⟨rfl,⟨rfl,⟨rfl,⟨rfl,I⟩⟩⟩⟩⟩⟩⟩⟩⟩⟩⟩⟩⟩,⟨⟨rfl,⟨rfl,I⟩⟩,I⟩⟩,I⟩ ?_ ?_
 ·exact⟨Nat.zero_le _,fun m j hm=>by omega⟩
 rintro n1 ⟨hn1,hc1⟩
 by_cases hj2:n1 < b.jobs.length
 ·obtain⟨j,hj1⟩:=af hj2
  obtain⟨y,hy0⟩:=af (xs:=b.results) (n:=n1) OM
  obtain⟨t,ht0⟩:=af (xs:=p.tasks) (n:=n1) OM
  obtain⟨_,_,a3,a4⟩:=b9 hc0 ht0
  have crd:=im p b.results (n1:Int) (t:=t) OM (by rw[Int.toNat_natCast];exact ht0) (fun d hd=>by have:=a4 d hd;omega) OM
  by_cases hz:j.lease = 0
  ·by_cases hz2:j.worker = 0∧j.til = 0
   ·have hjo:Hj b p.tasks n1 j:=⟨fun _=>hz2,fun e=>absurd hz e⟩
    obtain⟨hz3,hz4⟩:=hz2
    conv=>whnf
    refine W.sq<|g 13 17 []<|J UE<|W.cn<|J (fun _=>(W.skip (W.sq (W.blk (g 17 25 [.x (aO j)]<|J Zbj (W.sq (g 25 27 []<|J UC (W.cn<|J (fun _=>(W.sq (g 31 35 [BF,BF,BF,BF]<|J ⟨I,I,I,I,⟨nO,I⟩,⟨nO,I⟩,⟨nO,I⟩,nO,I⟩ ?_))) (noF tO))))))))) (noF (by simp_all))
    refine W.cn<|J (noT nO) fun _=>W.skip<|W.exit<|rg [.i ((n1:Int) +1)]<|J Zdi ?_
    refine⟨n1+1,[some 2,some 3],[],⟨rfl,Zbg,⟨Zaa,Zdq⟩,I⟩,?_,?_⟩
    rotate_left
    (dsimp only;omega)
    dsimp only
    exact⟨by omega,oI hc1 hj1 hjo⟩
   ·conv=>whnf
    refine W.sq<|g 13 17 []<|J UE<|W.cn<|J (fun _=>(W.skip (W.sq (W.blk (g 17 25 [.x (aO j)]<|J Zbj (W.sq (g 25 27 []<|J UC (W.cn<|J (fun _=>(W.sq ?_)) (noF tO))))))))) (noF (by simp_all))
    by_cases h1:Job.worker j = (0:Int)
    refine g 31 35 [BF,BF,BF,BF]<|J ⟨I,I,I,I,⟨nO,I⟩,⟨nO,I⟩,⟨nO,I⟩,nO,I⟩<|W.cn<|J (fun _=>(g 27 30 []<|J UA (RT ?_))) (noF (ag OM))
    rotate_left
    refine g 31 35 [BT,BT,BT,BT]<|J ⟨I,I,I,I,ag OM,ag OM,ag OM,ag OM,I⟩<|W.cn<|J (fun _=>(g 27 30 []<|J UA (RT ?_))) (noF rfl)
    rotate_left
    all_goals exact vbf (kc hj1 (fun q=>by have:=q.1 hz;omega))
  ·by_cases hA:(b.epoch - 1) * 1000000+1≤j.lease∧j.lease≤(b.epoch - 1) * 1000000+b.given
   ·by_cases hC:1≤j.worker∧j.worker≤b.workers
    ·by_cases hD:b.now+1≤j.til∧j.til≤b.now+12
     ·by_cases hE:y = emp
      ·by_cases hF:cX b.results t.deps
       ·rw[decide_eq_true hF]at crd
        conv=>whnf
        refine W.sq<|g 13 17 []<|J UE<|W.cn<|J (fun _=>(W.skip (W.sq (W.blk (g 17 25 [.x (aO j)]<|J Zbj (W.sq (g 25 27 []<|J UC (W.cn<|J (noT dO) fun _=>(W.skip (W.sq ?_)))))))))) (noF (by simp_all))
        refine g 27 81 [.i ((b.epoch - 1) * 1000000+1),.i ((b.epoch - 1) * 1000000+b.given),.call (V.b (decide ((b.epoch - 1) * 1000000+1≤j.lease∧j.lease≤(b.epoch - 1) * 1000000+b.given))) [[],[],[]],BF,BF,BF,BF,BF,.call (V.b (decide (1≤j.worker∧j.worker≤b.workers))) [[],[],[]],BF,BF,BF,BF,BF,BF,BF,.i (b.now+1),BF,BF,BF,.i (b.now+12),BF,.call (V.b (decide (b.now+1≤j.til∧j.til≤b.now+12))) [[],[],[]],BF,BF,BF,BF,BF,BF,.x (aj y),BF,BF,BF,BF,BF,BF,BF,BF,.call VT [[],[],[]],BF,BF] ?_
        conv=>whnf
        refine J ⟨I,I,I,wO,I,I,I,wO,⟨UC,I,UU,UA,ah _ _ _⟩,I,I,⟨nO,I⟩,⟨nO,I⟩,⟨nO,I⟩,⟨nO,I⟩,⟨nO,UC,I,UU,UA,ah _ _ _⟩,⟨nO,I⟩,nO,I,⟨nO,I⟩,⟨nO,I⟩,⟨nO,I⟩,⟨nO,I⟩,Zeo,⟨nO,I⟩,⟨nO,I⟩,Zeo,⟨nO,UC,I,UU,UA,ah _ _ _⟩,⟨nO,I⟩,nO,I,⟨nO,I⟩,⟨nO,I⟩,⟨nO,I⟩,⟨nO,OM,xA⟩,⟨nO,I⟩,⟨nO,I⟩,nO,I,⟨nO,I⟩,⟨nO,I⟩,⟨nO,I⟩,⟨nO,I⟩,⟨nO,UC,I,UU,UA,AS⟩,⟨nO,I⟩,nO,I⟩<|W.cn<|J (noT rfl) fun _=>W.skip<|g 81 82 []<|J UA<|W.blk<|W.lp (fun s (k:Nat)=>⟨[(2,s.s 2),(3,s.s 3),(5,s.s 5),(6,s.s 6),(7,s.s 7),(8,.i k),(10,s.s 10)],[(2,[s.c 2 0,s.c 2 1,s.c 2 2,s.c 2 3,s.c 2 4,s.c 2 5,s.c 2 6,s.c 2 7,s.c 2 8,s.c 2 9,s.c 2 10,s.c 2 11]),(3,[s.c 3 0]),(7,[s.c 7 0,s.c 7 1,s.c 7 2])],[]⟩) (fun(k:Nat)=>k≤n1∧j.lease ∉ (b.jobs.take k).map Job.lease) (fun(k:Nat)=>n1 - k) (0) [some 2,some 3,some 7] [] ⟨rfl,Zbb,⟨Zaa,⟨Zad,Zee⟩⟩,I⟩ (by simp) ?_
        rintro k ⟨hk,hB⟩
        by_cases hk2:k < n1
        ·obtain⟨j2,hj3⟩:=af (xs:=b.jobs) (n:=k) OM
         by_cases hq:j2.lease = j.lease
         ·conv=>whnf
          refine W.sq<|g 82 84 []<|J UC<|W.cn<|J (fun _=>(W.skip (W.sq (W.blk (gd 84 95 [[],[],[],[.x (aO j2)],[],[],[],[],[]] ?_))))) (noF tO)
          conv=>whnf
          refine⟨⟨I,I,I,Zdl,I,I,I,I,I,I⟩,by kernel_rfl,?_⟩
          refine W.cn<|J (fun _=>(g 95 96 []<|J UA (RT ?_))) (noF tO)
          exact vbf (kc hj1 (fun q=>(q.2 hz).once (Va hk2 hj3 hq)))
         ·conv=>whnf
          refine W.sq<|g 82 84 []<|J UC<|W.cn<|J (fun _=>(W.skip (W.sq (W.blk (gd 84 95 [[],[],[],[.x (aO j2)],[],[],[],[],[]] ?_))))) (noF tO)
          conv=>whnf
          refine⟨⟨I,I,I,Zdl,I,I,I,I,I,I⟩,by kernel_rfl,?_⟩
          refine W.cn<|J (noT dO) fun _=>W.skip<|rg [.i ((k:Int) +1)]<|J Zdi ?_
          refine⟨k+1,[some 2,some 3,some 7],[],⟨rfl,Zbb,⟨Zaa,⟨Zad,Zee⟩⟩,I⟩,?_,?_⟩
          rotate_left
          (dsimp only;omega)
          dsimp only
          exact⟨by omega,Ol hB hj3 hq⟩
        ·rw[show k = n1 by omega]at hB
         conv=>whnf
         refine W.sq<|g 82 84 []<|J UC<|W.cn<|J (noT dO) fun _=>W.exit<|rg [.i ((n1:Int) +1)]<|J Zdi ?_
         refine⟨n1+1,[some 2,some 3],[],⟨rfl,Zbg,⟨Zaa,Zdq⟩,I⟩,?_,?_⟩
         rotate_left
         (dsimp only;omega)
         dsimp only
         exact⟨by omega,oI hc1 hj1 ⟨fun e=>absurd e hz,fun _=>⟨hA,hC,hD,by rw[jQ hy0];exact hE,by rw[dW ht0];exact hF,hB⟩⟩⟩
       ·rw[decide_eq_false hF]at crd
        conv=>whnf
        refine W.sq<|g 13 17 []<|J UE<|W.cn<|J (fun _=>(W.skip (W.sq (W.blk (g 17 25 [.x (aO j)]<|J Zbj (W.sq (g 25 27 []<|J UC (W.cn<|J (noT dO) fun _=>(W.skip (W.sq ?_)))))))))) (noF (by simp_all))
        refine g 27 81 [.i ((b.epoch - 1) * 1000000+1),.i ((b.epoch - 1) * 1000000+b.given),.call (V.b (decide ((b.epoch - 1) * 1000000+1≤j.lease∧j.lease≤(b.epoch - 1) * 1000000+b.given))) [[],[],[]],BF,BF,BF,BF,BF,.call (V.b (decide (1≤j.worker∧j.worker≤b.workers))) [[],[],[]],BF,BF,BF,BF,BF,BF,BF,.i (b.now+1),BF,BF,BF,.i (b.now+12),BF,.call (V.b (decide (b.now+1≤j.til∧j.til≤b.now+12))) [[],[],[]],BF,BF,BF,BF,BF,BF,.x (aj y),BF,BF,BF,BF,BF,BF,BF,BF,.call VF [[],[],[]],BF,BF] ?_
        conv=>whnf
        refine J ⟨I,I,I,wO,I,I,I,wO,⟨UC,I,UU,UA,ah _ _ _⟩,I,I,⟨nO,I⟩,⟨nO,I⟩,⟨nO,I⟩,⟨nO,I⟩,⟨nO,UC,I,UU,UA,ah _ _ _⟩,⟨nO,I⟩,nO,I,⟨nO,I⟩,⟨nO,I⟩,⟨nO,I⟩,⟨nO,I⟩,Zeo,⟨nO,I⟩,⟨nO,I⟩,Zeo,⟨nO,UC,I,UU,UA,ah _ _ _⟩,⟨nO,I⟩,nO,I,⟨nO,I⟩,⟨nO,I⟩,⟨nO,I⟩,⟨nO,OM,xA⟩,⟨nO,I⟩,⟨nO,I⟩,nO,I,⟨nO,I⟩,⟨nO,I⟩,⟨nO,I⟩,⟨nO,I⟩,⟨nO,UC,I,UU,UA,AS⟩,⟨nO,I⟩,nO,I⟩<|W.cn<|J (fun _=>(g 81 82 []<|J UA (RT ?_))) (noF rfl)
        exact vbf (kc hj1 (fun q=>hF (by have:=(q.2 hz).ready;rw[dW ht0]at this;exact this)))
      ·conv=>whnf
       refine W.sq<|g 13 17 []<|J UE<|W.cn<|J (fun _=>(W.skip (W.sq (W.blk (g 17 25 [.x (aO j)]<|J Zbj (W.sq (g 25 27 []<|J UC (W.cn<|J (noT dO) fun _=>(W.skip (W.sq ?_)))))))))) (noF (by simp_all))
       refine g 27 81 [.i ((b.epoch - 1) * 1000000+1),.i ((b.epoch - 1) * 1000000+b.given),.call (V.b (decide ((b.epoch - 1) * 1000000+1≤j.lease∧j.lease≤(b.epoch - 1) * 1000000+b.given))) [[],[],[]],BF,BF,BF,BF,BF,.call (V.b (decide (1≤j.worker∧j.worker≤b.workers))) [[],[],[]],BF,BF,BF,BF,BF,BF,BF,.i (b.now+1),BF,BF,BF,.i (b.now+12),BF,.call (V.b (decide (b.now+1≤j.til∧j.til≤b.now+12))) [[],[],[]],BF,BF,BF,BF,BF,BF,.x (aj y),BF,BF,BF,BT,BT,BT,BT,BT,BT,BT] ?_
       conv=>whnf
       refine J ⟨I,I,I,wO,I,I,I,wO,⟨UC,I,UU,UA,ah _ _ _⟩,I,I,⟨nO,I⟩,⟨nO,I⟩,⟨nO,I⟩,⟨nO,I⟩,⟨nO,UC,I,UU,UA,ah _ _ _⟩,⟨nO,I⟩,nO,I,⟨nO,I⟩,⟨nO,I⟩,⟨nO,I⟩,⟨nO,I⟩,Zeo,⟨nO,I⟩,⟨nO,I⟩,Zeo,⟨nO,UC,I,UU,UA,ah _ _ _⟩,⟨nO,I⟩,nO,I,⟨nO,I⟩,⟨nO,I⟩,⟨nO,I⟩,⟨nO,OM,xA⟩,⟨nO,I⟩,⟨nO,I⟩,nO,I,ag OM,ag OM,ag OM,ag OM,ag OM,ag OM,ag OM,I⟩<|W.cn<|J (fun _=>(g 81 82 []<|J UA (RT ?_))) (noF rfl)
       exact vbf (kc hj1 (fun q=>hE (by have:=(q.2 hz).res;rw[jQ hy0]at this;exact this)))
     ·conv=>whnf
      refine W.sq<|g 13 17 []<|J UE<|W.cn<|J (fun _=>(W.skip (W.sq (W.blk (g 17 25 [.x (aO j)]<|J Zbj (W.sq (g 25 27 []<|J UC (W.cn<|J (noT dO) fun _=>(W.skip (W.sq ?_)))))))))) (noF (by simp_all))
      refine g 27 81 [.i ((b.epoch - 1) * 1000000+1),.i ((b.epoch - 1) * 1000000+b.given),.call (V.b (decide ((b.epoch - 1) * 1000000+1≤j.lease∧j.lease≤(b.epoch - 1) * 1000000+b.given))) [[],[],[]],BF,BF,BF,BF,BF,.call (V.b (decide (1≤j.worker∧j.worker≤b.workers))) [[],[],[]],BF,BF,BF,BF,BF,BF,BF,.i (b.now+1),BF,BF,BF,.i (b.now+12),BF,.call (V.b (decide (b.now+1≤j.til∧j.til≤b.now+12))) [[],[],[]],BF,BF,BT,BT,BT,BT,BT,BT,BT,BT,BT,BT,BT,BT,BT,BT] ?_
      conv=>whnf
      refine J ⟨I,I,I,wO,I,I,I,wO,⟨UC,I,UU,UA,ah _ _ _⟩,I,I,⟨nO,I⟩,⟨nO,I⟩,⟨nO,I⟩,⟨nO,I⟩,⟨nO,UC,I,UU,UA,ah _ _ _⟩,⟨nO,I⟩,nO,I,⟨nO,I⟩,⟨nO,I⟩,⟨nO,I⟩,⟨nO,I⟩,Zeo,⟨nO,I⟩,⟨nO,I⟩,Zeo,⟨nO,UC,I,UU,UA,ah _ _ _⟩,⟨nO,I⟩,nO,I,ag OM,ag OM,ag OM,ag OM,ag OM,ag OM,ag OM,I,rfl,rfl,rfl,rfl,rfl,rfl,rfl,I⟩<|W.cn<|J (fun _=>(g 81 82 []<|J UA (RT ?_))) (noF rfl)
      exact vbf (kc hj1 (fun q=>hD (q.2 hz).til))
    ·conv=>whnf
     refine W.sq<|g 13 17 []<|J UE<|W.cn<|J (fun _=>(W.skip (W.sq (W.blk (g 17 25 [.x (aO j)]<|J Zbj (W.sq (g 25 27 []<|J UC (W.cn<|J (noT dO) fun _=>(W.skip (W.sq ?_)))))))))) (noF (by simp_all))
     refine g 27 81 [.i ((b.epoch - 1) * 1000000+1),.i ((b.epoch - 1) * 1000000+b.given),.call (V.b (decide ((b.epoch - 1) * 1000000+1≤j.lease∧j.lease≤(b.epoch - 1) * 1000000+b.given))) [[],[],[]],BF,BF,BF,BF,BF,.call (V.b (decide (1≤j.worker∧j.worker≤b.workers))) [[],[],[]],BF,BF,BT,BT,BT,BT,BT,BT,BT,BT,BT,BT,BT,BT,BT,BT,BT,BT,BT,BT,BT,BT,BT,BT,BT,BT,BT] ?_
     conv=>whnf
     refine J ⟨I,I,I,wO,I,I,I,wO,⟨UC,I,UU,UA,ah _ _ _⟩,I,I,⟨nO,I⟩,⟨nO,I⟩,⟨nO,I⟩,⟨nO,I⟩,⟨nO,UC,I,UU,UA,ah _ _ _⟩,⟨nO,I⟩,nO,I,ag OM,ag OM,ag OM,ag OM,ag OM,ag OM,ag OM,ag OM,ag OM,ag OM,ag OM,I,rfl,rfl,rfl,rfl,rfl,rfl,rfl,I,rfl,rfl,rfl,rfl,rfl,rfl,rfl,I⟩<|W.cn<|J (fun _=>(g 81 82 []<|J UA (RT ?_))) (noF rfl)
     exact vbf (kc hj1 (fun q=>hC (q.2 hz).worker))
   ·conv=>whnf
    refine W.sq<|g 13 17 []<|J UE<|W.cn<|J (fun _=>(W.skip (W.sq (W.blk (g 17 25 [.x (aO j)]<|J Zbj (W.sq (g 25 27 []<|J UC (W.cn<|J (noT dO) fun _=>(W.skip (W.sq ?_)))))))))) (noF (by simp_all))
    refine g 27 81 [.i ((b.epoch - 1) * 1000000+1),.i ((b.epoch - 1) * 1000000+b.given),.call (V.b (decide ((b.epoch - 1) * 1000000+1≤j.lease∧j.lease≤(b.epoch - 1) * 1000000+b.given))) [[],[],[]],BT,BT,BT,BT,BT,BT,BT,BT,BT,BT,BT,BT,BT,BT,BT,BT,BT,BT,BT,BT,BT,BT,BT,BT,BT,BT,BT,BT,BT,BT,BT,BT] ?_
    conv=>whnf
    refine J ⟨I,I,I,wO,I,I,I,wO,⟨UC,I,UU,UA,ah _ _ _⟩,I,I,ag OM,ag OM,ag OM,ag OM,ag OM,ag OM,ag OM,I,rfl,rfl,rfl,rfl,rfl,rfl,rfl,rfl,rfl,rfl,rfl,I,rfl,rfl,rfl,rfl,rfl,rfl,rfl,I,rfl,rfl,rfl,rfl,rfl,rfl,rfl,I⟩<|W.cn<|J (fun _=>(g 81 82 []<|J UA (RT ?_))) (noF rfl)
    exact vbf (kc hj1 (fun q=>hA (q.2 hz).lease))
 have hjobs:ij b p.tasks b.jobs.length:=by rw[show b.jobs.length = n1 by omega];exact hc1
 conv=>whnf
 refine W.sq<|g 13 17 []<|J UE<|W.cn<|J (noT (by simp_all)) fun _=>W.exit<|g 5 18 []<|J UA<|RT ?_
 exact vbt OM
theorem uE(b:Boss)(p:Plan)(hp:dv p)(hl1:b.log.safe.length≤1048576)(hl2:b.log.loose.length≤1048576)(hs:∀ s∈b.log.safe++b.log.loose,s.size≤281474976710656)(hr:b.results.length≤1048576)(hj:b.jobs.length≤1048576)(hse:b.seats.length≤1048576)(ho:b.owed.length≤1048576):F le [.val (f0 b),.val (cR p)] (.b (decide (BossOk b p))) [[],[]]:=by
 have cp:=de p hp
 have ce:=mr b.log hl1 hl2
 have cr:F kL [.val (cR p),.val (.t (qq (b.log.safe++b.log.loose)))] (gw (cA b p)) [[],[]]:=io p (b.log.safe++b.log.loose) hp hs (by rw[List.length_append];omega)
 have h310:(cA b p).code = 0→b.log.safe.length+b.log.loose.length≤310:=fun q=>by have:=(cE (p:=p) (xs:=b.log.safe++b.log.loose) q).2.1;rw[List.length_append]at this;exact this
 by_cases hup:b.up = true
 rotate_left
 ·rw[Bool.not_eq_true]at hup
  refine lq ?_
  conv=>whnf
  refine g 0 2 []<|J Zcr<|W.sq ?_
  by_cases h1:aq (Plan.tasks p) = (0:Int)
  by_cases h2:(1:Int)≤Boss.workers b∧Boss.workers b≤(8:Int)
  by_cases h3:(0:Int)≤Boss.now b∧Boss.now b≤(1000000:Int)
  refine g 21 26 [.call (V.i (aq p.tasks)) [[]],BF,BF,BF,.call (V.b (decide (1≤b.workers∧b.workers≤8))) [[],[],[]],BF,BF,BF,BF,BF,.call (V.b (decide (0≤b.now∧b.now≤1000000))) [[],[],[]],BF,BF,BF,BF,BF,BF,BF,BF,BF,BF,BF,.i ((↑(List.length (List.map aj b.log.safe)):Int) + (↑(List.length (List.map aj b.log.loose)):Int)),BF,BF]<|J ⟨I,Zak,I,I,⟨nO,I⟩,⟨nO,I⟩,⟨nO,UC,I,UU,UA,ah _ _ _⟩,⟨nO,I⟩,nO,I,⟨nO,I⟩,⟨nO,I⟩,⟨nO,UC,I,UU,UA,ah _ _ _⟩,⟨nO,I⟩,nO,I,⟨nO,I⟩,⟨nO,I⟩,⟨nO,I⟩,⟨nO,I⟩,⟨nO,I⟩,⟨nO,I⟩,⟨nO,I⟩,⟨nO,I⟩,⟨nO,w64 LN LN⟩,⟨nO,I⟩,nO,I⟩<|W.cn<|J (fun h4=>?_) fun h4=>?_
  replace h4:=dt h4
  simp only[LM]at h4
  refine g 27 32 []<|J UA<|RT ?_
  rotate_left
  replace h4:=df h4
  simp only[LM]at h4
  refine W.skip<|gd 27 32 [[],[],[],[.call (V.own [false] (List.map aj (b.log.safe++b.log.loose))) [[]]],[.call (gw (cA b p)) [[],[]]],[],[]] ?_
  conv=>whnf
  refine J ⟨I,I,I,⟨UA,I,⟨UB,I⟩,UA,AS⟩,Zan,I,UC,I⟩<|J KR<|W.sq<|g 39 45 []<|J UC<|W.cn<|J (fun h5=>?_) fun h5=>?_
  replace h5:=ndt h5
  refine g 33 38 []<|J UA<|RT ?_
  rotate_left
  replace h5:=ndf h5
  refine W.skip<|W.sq<|g 33 38 []<|J UC<|W.cn<|J (fun _=>?_) (noF (nbT AS))
  by_cases h6:(↑(List.length (List.map aj (Log.loose (Boss.log b)))):Int) = (0:Int)
  simp only[LM]at h6
  by_cases h7:Boss.since b = (0:Int)
  by_cases h8:Boss.epoch b = (0:Int)
  by_cases h9:Boss.given b = (0:Int)
  by_cases h10:(↑(List.length (List.map aj (Boss.results b))):Int) = (0:Int)
  simp only[LM]at h10
  by_cases h11:(↑(List.length (List.map aO (Boss.jobs b))):Int) = (0:Int)
  simp only[LM]at h11
  by_cases h12:(↑(List.length (List.map aG (Boss.seats b))):Int) = (0:Int)
  simp only[LM]at h12
  refine g 26 93 [BT,BT,BT,BT,BT,BT,BT,BT,BT,BT,BT,BT,BT,BT,BT,BT,BT,BT,BT,BT,BT,BT,BT,BT,BT,BT,BT,BT,BT,BT,BT,BT] ?_
  conv=>whnf
  refine J Za2<|RT ?_
  rotate_left
  simp only[LM]at h12
  refine g 26 93 [BT,BT,BT,BT,BT,BT,BT,BT,BT,BT,BT,BT,BT,BT,BT,BT,BT,BT,BT,BT,BT,BT,BT,BT,BT,BT,BT,BF,BF,BF,BF,BF] ?_
  conv=>whnf
  refine J ⟨I,I,I,I,I,I,⟨SI,I⟩,⟨SI,I⟩,⟨SI,I⟩,SI,I,⟨tO,I⟩,⟨tO,I⟩,⟨tO,I⟩,tO,I,⟨tO,I⟩,⟨tO,I⟩,⟨tO,I⟩,tO,I,⟨tO,I⟩,⟨tO,I⟩,⟨tO,I⟩,⟨tO,I⟩,tO,I,⟨SI,I⟩,⟨SI,I⟩,⟨SI,I⟩,⟨SI,I⟩,SI,I,⟨SI,I⟩,⟨SI,I⟩,⟨SI,I⟩,⟨SI,I⟩,SI,I,(by simp_all),(by simp_all),(by simp_all),(by simp_all),(by simp_all),I,I⟩<|RT ?_
  rotate_left
  simp only[LM]at h11
  refine g 26 93 [BT,BT,BT,BT,BT,BT,BT,BT,BT,BT,BT,BT,BT,BT,BT,BT,BT,BT,BT,BT,BT,BT,BF,BF,BF,BF,BF,BF,BF,BF,BF,BF] ?_
  conv=>whnf
  refine J ⟨I,I,I,I,I,I,⟨SI,I⟩,⟨SI,I⟩,⟨SI,I⟩,SI,I,⟨tO,I⟩,⟨tO,I⟩,⟨tO,I⟩,tO,I,⟨tO,I⟩,⟨tO,I⟩,⟨tO,I⟩,tO,I,⟨tO,I⟩,⟨tO,I⟩,⟨tO,I⟩,⟨tO,I⟩,tO,I,⟨SI,I⟩,⟨SI,I⟩,⟨SI,I⟩,⟨SI,I⟩,SI,I,(by simp_all),(by simp_all),(by simp_all),(by simp_all),(by simp_all),I,rfl,rfl,rfl,rfl,rfl,I,I⟩<|RT ?_
  rotate_left
  simp only[LM]at h10
  refine g 26 93 [BT,BT,BT,BT,BT,BT,BT,BT,BT,BT,BT,BT,BT,BT,BT,BT,BT,BF,BF,BF,BF,BF,BF,BF,BF,BF,BF,BF,BF,BF,BF,BF] ?_
  conv=>whnf
  refine J ⟨I,I,I,I,I,I,⟨SI,I⟩,⟨SI,I⟩,⟨SI,I⟩,SI,I,⟨tO,I⟩,⟨tO,I⟩,⟨tO,I⟩,tO,I,⟨tO,I⟩,⟨tO,I⟩,⟨tO,I⟩,tO,I,⟨tO,I⟩,⟨tO,I⟩,⟨tO,I⟩,⟨tO,I⟩,tO,I,(by simp_all),(by simp_all),(by simp_all),(by simp_all),(by simp_all),I,rfl,rfl,rfl,rfl,rfl,I,rfl,rfl,rfl,rfl,rfl,I,I⟩<|RT ?_
  rotate_left
  refine g 26 93 [BT,BT,BT,BT,BT,BT,BT,BT,BT,BT,BT,BT,BF,BF,BF,BF,BF,BF,BF,BF,BF,BF,BF,BF,BF,BF,BF,BF,BF,BF,BF,BF] ?_
  conv=>whnf
  refine J Zbu<|RT ?_
  rotate_left
  refine g 26 93 [BT,BT,BT,BT,BT,BT,BT,BT,BF,BF,BF,BF,BF,BF,BF,BF,BF,BF,BF,BF,BF,BF,BF,BF,BF,BF,BF,BF,BF,BF,BF,BF] ?_
  conv=>whnf
  refine J Zbz<|RT ?_
  rotate_left
  refine g 26 93 [BT,BT,BT,BT,BF,BF,BF,BF,BF,BF,BF,BF,BF,BF,BF,BF,BF,BF,BF,BF,BF,BF,BF,BF,BF,BF,BF,BF,BF,BF,BF,BF] ?_
  conv=>whnf
  refine J Zb4<|RT ?_
  rotate_left
  simp only[LM]at h6
  refine g 26 93 [BF,BF,BF,BF,BF,BF,BF,BF,BF,BF,BF,BF,BF,BF,BF,BF,BF,BF,BF,BF,BF,BF,BF,BF,BF,BF,BF,BF,BF,BF,BF,BF] ?_
  conv=>whnf
  refine J ⟨I,I,I,I,I,I,(by simp_all),(by simp_all),(by simp_all),(by simp_all),I,rfl,rfl,rfl,rfl,I,rfl,rfl,rfl,rfl,I,rfl,rfl,rfl,rfl,rfl,I,rfl,rfl,rfl,rfl,rfl,I,rfl,rfl,rfl,rfl,rfl,I,rfl,rfl,rfl,rfl,rfl,I,I⟩<|RT ?_
  rotate_left
  refine g 21 26 [.call (V.i (aq p.tasks)) [[]],BF,BF,BF,.call (V.b (decide (1≤b.workers∧b.workers≤8))) [[],[],[]],BF,BF,BF,BF,BF,.call (V.b (decide (0≤b.now∧b.now≤1000000))) [[],[],[]],BF,BF,BT,BT,BT,BT,BT,BT,BT,BT,BT,BT,BT]<|J ⟨I,Zak,I,I,⟨nO,I⟩,⟨nO,I⟩,⟨nO,UC,I,UU,UA,ah _ _ _⟩,⟨nO,I⟩,nO,I,⟨nO,I⟩,⟨nO,I⟩,⟨nO,UC,I,UU,UA,ah _ _ _⟩,⟨nO,I⟩,nO,I,ag OM,ag OM,ag OM,ag OM,ag OM,ag OM,ag OM,ag OM,ag OM,ag OM,ag OM,I⟩<|W.cn<|J (fun _=>(g 27 32 []<|J UA (RT ?_))) (noF rfl)
  rotate_left
  refine g 21 26 [.call (V.i (aq p.tasks)) [[]],BF,BF,BF,.call (V.b (decide (1≤b.workers∧b.workers≤8))) [[],[],[]],BF,BF,BT,BT,BT,BT,BT,BT,BT,BT,BT,BT,BT,BT,BT,BT,BT,BT]<|J ⟨I,Zak,I,I,⟨nO,I⟩,⟨nO,I⟩,⟨nO,UC,I,UU,UA,ah _ _ _⟩,⟨nO,I⟩,nO,I,ag OM,ag OM,ag OM,ag OM,ag OM,I,rfl,rfl,rfl,rfl,rfl,rfl,rfl,rfl,rfl,rfl,rfl,I⟩<|W.cn<|J (fun _=>(g 27 32 []<|J UA (RT ?_))) (noF rfl)
  rotate_left
  refine g 21 26 [.call (V.i (aq p.tasks)) [[]],BT,BT,BT,BT,BT,BT,BT,BT,BT,BT,BT,BT,BT,BT,BT,BT,BT,BT,BT,BT,BT]<|J Zd7<|W.cn<|J (fun _=>(g 27 32 []<|J UA (RT ?_))) (noF rfl)
  rotate_left
  all_goals first
   |exact vbf (fun q=>by have e1:=q.plan;have e2:=q.workers;have e3:=q.now;have e4:=q.code;have e5:=h310 e4;omega)
   |exact vbf (Aq hup fun q=>by have e1:=q.loose;have e2:=q.since;have e3:=q.epoch;have e4:=q.given;have e5:=q.res;have e6:=q.jobs;have e7:=q.seats;omega)
   |(rename_i h8
     simp only[List.length_map]
     by_cases h9:(b.owed.length:Int) = 0
     ·rw[decide_eq_true h9];exact vbt ⟨by omega,by omega,by omega,by omega,(fun q=>by rw[hup]at q;cases q),fun _=>⟨by omega,by omega,by omega,by omega,by omega,by omega,by omega,by omega⟩⟩
     ·rw[decide_eq_false h9];exact vbf (Aq hup fun q=>by have e8:=q.owed;omega))
   |skip
 refine lq ?_
 conv=>whnf
 refine g 0 2 []<|J Zcr<|W.sq ?_
 by_cases h1:aq (Plan.tasks p) = (0:Int)
 by_cases h2:(1:Int)≤Boss.workers b∧Boss.workers b≤(8:Int)
 by_cases h3:(0:Int)≤Boss.now b∧Boss.now b≤(1000000:Int)
 refine g 21 26 [.call (V.i (aq p.tasks)) [[]],BF,BF,BF,.call (V.b (decide (1≤b.workers∧b.workers≤8))) [[],[],[]],BF,BF,BF,BF,BF,.call (V.b (decide (0≤b.now∧b.now≤1000000))) [[],[],[]],BF,BF,BF,BF,BF,BF,BF,BF,BF,BF,BF,.i ((↑(List.length (List.map aj b.log.safe)):Int) + (↑(List.length (List.map aj b.log.loose)):Int)),BF,BF]<|J ⟨I,Zak,I,I,⟨nO,I⟩,⟨nO,I⟩,⟨nO,UC,I,UU,UA,ah _ _ _⟩,⟨nO,I⟩,nO,I,⟨nO,I⟩,⟨nO,I⟩,⟨nO,UC,I,UU,UA,ah _ _ _⟩,⟨nO,I⟩,nO,I,⟨nO,I⟩,⟨nO,I⟩,⟨nO,I⟩,⟨nO,I⟩,⟨nO,I⟩,⟨nO,I⟩,⟨nO,I⟩,⟨nO,I⟩,⟨nO,w64 LN LN⟩,⟨nO,I⟩,nO,I⟩<|W.cn<|J (fun h4=>?_) fun h4=>?_
 replace h4:=dt h4
 simp only[LM]at h4
 refine g 27 32 []<|J UA<|RT ?_
 rotate_left
 replace h4:=df h4
 simp only[LM]at h4
 refine W.skip<|gd 27 32 [[],[],[],[.call (V.own [false] (List.map aj (b.log.safe++b.log.loose))) [[]]],[.call (gw (cA b p)) [[],[]]],[],[]] ?_
 conv=>whnf
 refine J ⟨I,I,I,⟨UA,I,⟨UB,I⟩,UA,AS⟩,Zan,I,UC,I⟩<|J KR<|W.sq<|g 39 45 []<|J UC<|W.cn<|J (fun h5=>?_) fun h5=>?_
 replace h5:=ndt h5
 refine g 33 38 []<|J UA<|RT ?_
 rotate_left
 replace h5:=ndf h5
 refine W.skip<|W.sq<|g 33 38 []<|J UC<|W.cn<|J (noT (nbF AS)) fun _=>W.skip<|W.sq ?_
 by_cases h6:Boss.epoch b = Story.epoch (cA b p)
 by_cases h7:Boss.epoch b < (1:Int)
 refine g 26 114 [BF,BF,BF,BF,BT,BT,BT,BT,BT,BT,BT,BT,BT,BT]<|J ⟨I,I,I,I,I,I,⟨nO,I⟩,⟨nO,I⟩,⟨nO,I⟩,nO,I,tO,tO,tO,tO,tO,I,rfl,rfl,rfl,rfl,rfl,I⟩<|W.cn<|J (fun _=>(g 13 20 []<|J UA (RT ?_))) (noF rfl)
 rotate_left
 by_cases h8:(0:Int)≤Boss.since b∧Boss.since b≤(1:Int)
 refine g 26 114 [BF,BF,BF,BF,BF,BF,BF,.call (V.b (decide (0≤b.since∧b.since≤1))) [[],[],[]],BF,BF,BF,BF,BF,.call (V.b (decide (0≤b.given∧b.given≤1000000))) [[],[],[]],BF,BF]<|J ⟨I,I,I,I,I,I,⟨nO,I⟩,⟨nO,I⟩,⟨nO,I⟩,nO,I,⟨dO,I⟩,⟨dO,I⟩,⟨dO,UC,I,UU,UA,ah _ _ _⟩,⟨dO,I⟩,dO,I,⟨nO,I⟩,⟨nO,I⟩,⟨nO,UC,I,UU,UA,ah _ _ _⟩,⟨nO,I⟩,nO,I⟩<|W.cn<|J (fun h9=>?_) fun h9=>?_
 replace h9:=ndt h9
 refine g 13 20 []<|J UA<|RT ?_
 rotate_left
 replace h9:=ndf h9
 refine W.skip<|g 13 20 []<|J UD<|W.sq ?_
 by_cases h10:(↑(List.length (List.map aj (Boss.results b))):Int) = (↑(List.length (List.map ay (Plan.tasks p))):Int)
 simp only[LM]at h10
 by_cases h11:(↑(List.length (List.map aO (Boss.jobs b))):Int) = (↑(List.length (List.map ay (Plan.tasks p))):Int)
 simp only[LM]at h11
 by_cases h12:(↑(List.length (List.map aG (Boss.seats b))):Int) = Boss.workers b
 simp only[LM]at h12
 refine g 114 143 [BF,BF,BF,BF,BF,BF,BF,BF,BF,BF,BF,BF,BF,BF,BF,BF,BF,BF]<|J ⟨I,I,I,I,I,I,⟨SI,I⟩,⟨SI,I⟩,⟨SI,I⟩,⟨SI,I⟩,⟨SI,I⟩,SI,I,⟨SI,I⟩,⟨SI,I⟩,⟨SI,I⟩,⟨SI,I⟩,⟨SI,I⟩,⟨SI,I⟩,SI,I,⟨SI,I⟩,⟨SI,I⟩,⟨SI,I⟩,⟨SI,I⟩,SI,I⟩<|W.cn<|J (fun h13=>?_) fun h13=>?_
 replace h13:=dt h13
 simp only[LM]at h13
 refine g 11 12 []<|J UA<|RT ?_
 rotate_left
 replace h13:=df h13
 simp only[LM]at h13
 refine W.skip<|W.sq<|g 11 12 []<|J UA<|W.blk ?_
 rotate_left
 simp only[LM]at h12
 refine g 114 143 [BF,BF,BF,BF,BF,BF,BF,BF,BF,BF,BF,BF,BF,BT,BT,BT,BT,BT]<|J ⟨I,I,I,I,I,I,⟨SI,I⟩,⟨SI,I⟩,⟨SI,I⟩,⟨SI,I⟩,⟨SI,I⟩,SI,I,⟨SI,I⟩,⟨SI,I⟩,⟨SI,I⟩,⟨SI,I⟩,⟨SI,I⟩,⟨SI,I⟩,SI,I,SI,SI,SI,SI,SI,I⟩<|W.cn<|J (fun _=>(g 11 12 []<|J UA (RT ?_))) (noF rfl)
 rotate_left
 simp only[LM]at h11
 refine g 114 143 [BF,BF,BF,BF,BF,BF,BT,BT,BT,BT,BT,BT,BT,BT,BT,BT,BT,BT]<|J ⟨I,I,I,I,I,I,⟨SI,I⟩,⟨SI,I⟩,⟨SI,I⟩,⟨SI,I⟩,⟨SI,I⟩,SI,I,SI,SI,SI,SI,SI,SI,SI,I,rfl,rfl,rfl,rfl,rfl,I⟩<|W.cn<|J (fun _=>(g 11 12 []<|J UA (RT ?_))) (noF rfl)
 rotate_left
 simp only[LM]at h10
 refine g 114 143 [BT,BT,BT,BT,BT,BT,BT,BT,BT,BT,BT,BT,BT,BT,BT,BT,BT,BT]<|J ⟨I,I,I,I,I,I,SI,SI,SI,SI,SI,SI,I,rfl,rfl,rfl,rfl,rfl,rfl,rfl,I,rfl,rfl,rfl,rfl,rfl,I⟩<|W.cn<|J (fun _=>(g 11 12 []<|J UA (RT ?_))) (noF rfl)
 rotate_left
 refine g 26 114 [BF,BF,BF,BF,BF,BF,BF,.call (V.b (decide (0≤b.since∧b.since≤1))) [[],[],[]],BF,BF,BT,BT,BT,BT,BT]<|J ⟨I,I,I,I,I,I,⟨nO,I⟩,⟨nO,I⟩,⟨nO,I⟩,nO,I,⟨dO,I⟩,⟨dO,I⟩,⟨dO,UC,I,UU,UA,ah _ _ _⟩,⟨dO,I⟩,dO,I,ag OM,ag OM,ag OM,ag OM,ag OM,I⟩<|W.cn<|J (fun _=>(g 13 20 []<|J UA (RT ?_))) (noF rfl)
 rotate_left
 refine g 26 114 [BT,BT,BT,BT,BT,BT,BT,BT,BT,BT,BT,BT,BT,BT]<|J ⟨I,I,I,I,I,I,ag OM,ag OM,ag OM,ag OM,I,rfl,rfl,rfl,rfl,rfl,I,rfl,rfl,rfl,rfl,rfl,I⟩<|W.cn<|J (fun _=>(g 13 20 []<|J UA (RT ?_))) (noF rfl)
 rotate_left
 refine g 21 26 [.call (V.i (aq p.tasks)) [[]],BF,BF,BF,.call (V.b (decide (1≤b.workers∧b.workers≤8))) [[],[],[]],BF,BF,BF,BF,BF,.call (V.b (decide (0≤b.now∧b.now≤1000000))) [[],[],[]],BF,BF,BT,BT,BT,BT,BT,BT,BT,BT,BT,BT,BT]<|J ⟨I,Zak,I,I,⟨nO,I⟩,⟨nO,I⟩,⟨nO,UC,I,UU,UA,ah _ _ _⟩,⟨nO,I⟩,nO,I,⟨nO,I⟩,⟨nO,I⟩,⟨nO,UC,I,UU,UA,ah _ _ _⟩,⟨nO,I⟩,nO,I,ag OM,ag OM,ag OM,ag OM,ag OM,ag OM,ag OM,ag OM,ag OM,ag OM,ag OM,I⟩<|W.cn<|J (fun _=>(g 27 32 []<|J UA (RT ?_))) (noF rfl)
 rotate_left
 refine g 21 26 [.call (V.i (aq p.tasks)) [[]],BF,BF,BF,.call (V.b (decide (1≤b.workers∧b.workers≤8))) [[],[],[]],BF,BF,BT,BT,BT,BT,BT,BT,BT,BT,BT,BT,BT,BT,BT,BT,BT,BT]<|J ⟨I,Zak,I,I,⟨nO,I⟩,⟨nO,I⟩,⟨nO,UC,I,UU,UA,ah _ _ _⟩,⟨nO,I⟩,nO,I,ag OM,ag OM,ag OM,ag OM,ag OM,I,rfl,rfl,rfl,rfl,rfl,rfl,rfl,rfl,rfl,rfl,rfl,I⟩<|W.cn<|J (fun _=>(g 27 32 []<|J UA (RT ?_))) (noF rfl)
 rotate_left
 refine g 21 26 [.call (V.i (aq p.tasks)) [[]],BT,BT,BT,BT,BT,BT,BT,BT,BT,BT,BT,BT,BT,BT,BT,BT,BT,BT,BT,BT,BT]<|J Zd7<|W.cn<|J (fun _=>(g 27 32 []<|J UA (RT ?_))) (noF rfl)
 rotate_left
 all_goals try first
  |exact vbf (fun q=>by have e1:=q.plan;have e2:=q.workers;have e3:=q.now;have e4:=q.code;have e5:=h310 e4;omega)
  |exact vbf (gr hup fun q=>by have e1:=q.epoch;have e2:=q.pos;have e3:=q.rlen;have e4:=q.jlen;have e5:=q.slen;have e6:=q.since;have e7:=q.given;have e8:=q.olen;omega)
 have hk:(cA b p).code = 0:=by assumption
 have hc0:aq p.tasks = 0:=by assumption
 obtain⟨_,_,hsl,_⟩:=cE (p:=p) (xs:=b.log.safe++b.log.loose) hk
 obtain⟨hep1,hep2⟩:=fP (p:=p) (xs:=b.log.safe++b.log.loose) hk
 change (cA b p).results.length = _ at hsl
 change 0≤(cA b p).epoch at hep1
 change (cA b p).epoch≤300 at hep2
 have f1:b.epoch = (cA b p).epoch:=by assumption
 have f2:1≤b.epoch:=by omega
 have f3:b.results.length = p.tasks.length:=by omega
 have f4:b.jobs.length = p.tasks.length:=by omega
 have f5:(b.seats.length:Int) = b.workers:=by omega
 have f6:1≤b.workers∧b.workers≤8:=by assumption
 have f7:0≤b.now∧b.now≤1000000:=by assumption
 have g2:0≤b.since∧b.since≤1:=by omega
 have g3:0≤b.given∧b.given≤1000000:=by omega
 have g4:b.owed.length≤2000:=by omega
 have hpl:=(bU hc0).1
 refine W.lp (fun s (n:Nat)=>⟨[(2,s.s 2),(3,s.s 3),(5,s.s 5),(6,s.s 6),(7,.i n),(12,s.s 12),(20,s.s 20)],[(2,[s.c 2 0,s.c 2 1,s.c 2 2,s.c 2 3,s.c 2 4,s.c 2 5,s.c 2 6,s.c 2 7,s.c 2 8,s.c 2 9,s.c 2 10,s.c 2 11]),(3,[s.c 3 0]),(5,[s.c 5 0,s.c 5 1,s.c 5 2])],[]⟩) (fun(n:Nat)=>n≤b.results.length∧b.results.take n = (cA b p).results.take n) (fun(n:Nat)=>b.results.length - n) (0) [some 2,some 3,some 5] [] ⟨rfl,Zbb,⟨Zaa,⟨Zad,Zee⟩⟩,I⟩ (by simp) ?_
 rintro n ⟨hn,hc⟩
 conv=>whnf
 refine W.sq<|g 144 146 []<|J UC<|W.cn<|J (fun h14=>?_) fun h14=>?_
 replace h14:=dt h14
 simp only[LM]at h14
 refine W.skip<|W.sq<|W.blk ?_
 obtain⟨y1,hy1⟩:=af (xs:=Boss.results b) (n:=n) OM
 obtain⟨y2,hy2⟩:=af (xs:=Story.results (cA b p)) (n:=n) OM
 refine gd 146 159 [[],[],[],[.x (aj y1)],[],[],[],[],[.n (n)],[.x (aj y2)],[]] ?_
 conv=>whnf
 refine J ⟨I,I,I,Zdl,I,I,I,I,Zdj,xA,I,I⟩<|J KR<|W.cn<|J (fun h15=>?_) fun h15=>?_
 replace h15:=ndt h15
 refine g 159 160 []<|J UA<|RT ?_
 rotate_left
 replace h15:=ndf h15
 refine W.skip<|rg [.i ((n:Int) +1)]<|J Zdi ?_
 rotate_left
 replace h14:=df h14
 simp only[LM]at h14
 refine W.exit<|W.sq<|g 5 6 []<|J UA<|W.blk ?_
 rotate_left
 all_goals try
  exact vbf (gr hup fun q=>by have e1:=q.res;rw[e1]at hy1;rw[hy1]at hy2;cases hy2;contradiction)
 ·refine⟨n+1,[some 2,some 3,some 5],[],⟨rfl,Zbb,⟨Zaa,⟨Zad,Zee⟩⟩,I⟩,?_,?_⟩
  rotate_left
  (dsimp only;omega)
  dsimp only
  exact⟨by omega,jT hc hy1 (by rw[hy2];simp_all)⟩
 have g1:b.results = (cA b p).results:=by rw[aF OM,aF OM]at hc;exact hc
 refine W.lp (fun s (n:Nat)=>⟨[(2,s.s 2),(3,s.s 3),(6,s.s 6),(8,.i n),(12,s.s 12),(20,s.s 20)],[(2,[s.c 2 0,s.c 2 1,s.c 2 2,s.c 2 3,s.c 2 4,s.c 2 5,s.c 2 6,s.c 2 7,s.c 2 8,s.c 2 9,s.c 2 10,s.c 2 11]),(3,[s.c 3 0])],[]⟩) (fun(n:Nat)=>n≤b.seats.length∧∀ s∈b.seats.take n,0≤s.epoch∧s.epoch≤300) (fun(n:Nat)=>b.seats.length - n) (0) [some 2,some 3] [] Zew (by simp) ?_
 rintro n2 ⟨hn2,hc2⟩
 by_cases hs2:n2 < b.seats.length
 ·obtain⟨s,hs1⟩:=af hs2
  by_cases hA:0≤s.epoch∧s.epoch≤300
  ·conv=>whnf
   refine W.sq<|g 160 164 []<|J UE<|W.cn<|J (fun h15=>?_) fun h15=>?_
   replace h15:=dt h15
   simp only[LM]at h15
   refine W.skip<|W.sq<|W.blk<|g 164 174 [.x (aG s),.call (V.b (decide (0≤s.epoch∧s.epoch≤300))) [[],[],[]]]<|J ⟨I,I,I,Zdl,I,I,⟨UC,I,UU,UA,ah _ _ _⟩,I,I⟩<|W.cn<|J (noT nO) fun _=>W.skip<|rg [.i ((n2:Int) +1)]<|J Zdi ?_
   rotate_left
   replace h15:=df h15
   simp only[LM]at h15
   omega
   refine⟨n2+1,[some 2,some 3],[],Zew,?_,?_⟩
   rotate_left
   (dsimp only;omega)
   dsimp only
   exact⟨by omega,dV hc2 hs1 hA⟩
  ·conv=>whnf
   refine W.sq<|g 160 164 []<|J UE<|W.cn<|J (fun h15=>?_) fun h15=>?_
   replace h15:=dt h15
   simp only[LM]at h15
   refine W.skip<|W.sq<|W.blk<|g 164 174 [.x (aG s),.call (V.b (decide (0≤s.epoch∧s.epoch≤300))) [[],[],[]]]<|J ⟨I,I,I,Zdl,I,I,⟨UC,I,UU,UA,ah _ _ _⟩,I,I⟩<|W.cn<|J (fun _=>(g 174 175 []<|J UA (RT ?_))) (noF (ag OM))
   rotate_left
   replace h15:=df h15
   simp only[LM]at h15
   omega
   exact vbf (gr hup (Je hs1 hA))
 have hseats:∀ s∈b.seats,0≤s.epoch∧s.epoch≤300:=by rw[aF OM]at hc2;exact hc2
 conv=>whnf
 refine W.sq<|g 160 164 []<|J UE<|W.cn<|J (fun h15=>?_) fun h15=>?_
 replace h15:=dt h15
 simp only[LM]at h15
 omega
 replace h15:=df h15
 simp only[LM]at h15
 refine W.exit<|W.sq<|g 8 9 []<|J UA<|W.blk<|W.lp (fun s (n:Nat)=>⟨[(2,s.s 2),(3,s.s 3),(6,s.s 6),(9,.i n),(12,s.s 12),(20,s.s 20)],[(2,[s.c 2 0,s.c 2 1,s.c 2 2,s.c 2 3,s.c 2 4,s.c 2 5,s.c 2 6,s.c 2 7,s.c 2 8,s.c 2 9,s.c 2 10,s.c 2 11]),(3,[s.c 3 0])],[]⟩) (fun(n:Nat)=>n≤b.owed.length∧∀ o∈b.owed.take n,OwedOk b p.tasks o) (fun(n:Nat)=>b.owed.length - n) (0) [some 2,some 3] [] Zew (by simp) ?_
 rintro n3 ⟨hn3,hc3⟩
 by_cases ho2:n3 < b.owed.length
 ·obtain⟨o,ho1⟩:=af ho2
  by_cases hA:1≤o.worker∧o.worker≤b.workers
  ·by_cases hB:1≤o.lease∧o.lease≤300000000
   ·by_cases hC:0≤o.task∧o.task≤(p.tasks.length:Int) - 1
    ·obtain⟨y,hy0⟩:=af (xs:=b.results) (n:=o.task.toNat) OM
     by_cases hD:y = emp
     ·conv=>whnf
      refine W.sq<|g 175 179 []<|J UE<|W.cn<|J (fun _=>(W.skip (W.sq (W.blk (g 179 187 [.x (aL o)]<|J Zbj (g 187 215 [.call (V.b (decide (1≤o.worker∧o.worker≤b.workers))) [[],[],[]],BF,BF,BF,.call (V.b (decide (1≤o.lease∧o.lease≤300000000))) [[]],BF,BF,BF,BF,BF,BF,.i ((↑(List.length (List.map ay p.tasks)):Int) - 1),BF,.call (V.b (decide (0≤o.task∧o.task≤(↑(List.length (List.map ay p.tasks)):Int) - 1))) [[],[],[]],BF,BF,BF,BF,BF,BF,BF,.x (aj y),BF,BF,BF]<|J ⟨I,I,I,I,⟨UC,I,UU,UA,ah _ _ _⟩,I,I,⟨nO,I⟩,⟨nO,I⟩,⟨nO,UA,I,US,UA,aA _⟩,⟨nO,I⟩,nO,I,⟨nO,I⟩,⟨nO,I⟩,⟨nO,I⟩,⟨nO,w64 LN LN⟩,⟨nO,UC,I,UU,UA,ah _ _ _⟩,⟨nO,I⟩,nO,I,⟨SI,I⟩,⟨SI,I⟩,⟨SI,I⟩,⟨SI,I⟩,⟨SI,OM,xA⟩,⟨SI,I⟩,⟨SI,I⟩,SI,I⟩ (W.cn<|J (fun _=>(g 10 11 []<|J UA (RT ?_))) (noF tO)))))))) (noF SI)
      exact vbf (gr hup (ld ho1 (fun q=>q.res (by rw[j7 hy0];exact hD))))
     ·conv=>whnf
      refine W.sq<|g 175 179 []<|J UE<|W.cn<|J (fun _=>(W.skip (W.sq (W.blk (g 179 187 [.x (aL o)]<|J Zbj (g 187 215 [.call (V.b (decide (1≤o.worker∧o.worker≤b.workers))) [[],[],[]],BF,BF,BF,.call (V.b (decide (1≤o.lease∧o.lease≤300000000))) [[]],BF,BF,BF,BF,BF,BF,.i ((↑(List.length (List.map ay p.tasks)):Int) - 1),BF,.call (V.b (decide (0≤o.task∧o.task≤(↑(List.length (List.map ay p.tasks)):Int) - 1))) [[],[],[]],BF,BF,BF,BF,BF,BF,BF,.x (aj y),BF,BF,BF]<|J ⟨I,I,I,I,⟨UC,I,UU,UA,ah _ _ _⟩,I,I,⟨nO,I⟩,⟨nO,I⟩,⟨nO,UA,I,US,UA,aA _⟩,⟨nO,I⟩,nO,I,⟨nO,I⟩,⟨nO,I⟩,⟨nO,I⟩,⟨nO,w64 LN LN⟩,⟨nO,UC,I,UU,UA,ah _ _ _⟩,⟨nO,I⟩,nO,I,⟨SI,I⟩,⟨SI,I⟩,⟨SI,I⟩,⟨SI,I⟩,⟨SI,OM,xA⟩,⟨SI,I⟩,⟨SI,I⟩,SI,I⟩ (W.cn<|J (noT dO) fun _=>(W.skip (rg [.i ((n3:Int) +1)]<|J Zdi ?_))))))))) (noF SI)
      refine⟨n3+1,[some 2,some 3],[],Zew,?_,?_⟩
      rotate_left
      (dsimp only;omega)
      dsimp only
      exact⟨by omega,dV hc3 ho1 ⟨hA,hB,hC,by rw[j7 hy0];exact hD⟩⟩
    ·conv=>whnf
     refine W.sq<|g 175 179 []<|J UE<|W.cn<|J (fun _=>(W.skip (W.sq (W.blk (g 179 187 [.x (aL o)]<|J Zbj (g 187 215 [.call (V.b (decide (1≤o.worker∧o.worker≤b.workers))) [[],[],[]],BF,BF,BF,.call (V.b (decide (1≤o.lease∧o.lease≤300000000))) [[]],BF,BF,BF,BF,BF,BF,.i ((↑(List.length (List.map ay p.tasks)):Int) - 1),BF,.call (V.b (decide (0≤o.task∧o.task≤(↑(List.length (List.map ay p.tasks)):Int) - 1))) [[],[],[]],BF,BF,BT,BT,BT,BT,BT,BT,BT,BT]<|J ⟨I,I,I,I,⟨UC,I,UU,UA,ah _ _ _⟩,I,I,⟨nO,I⟩,⟨nO,I⟩,⟨nO,UA,I,US,UA,aA _⟩,⟨nO,I⟩,nO,I,⟨nO,I⟩,⟨nO,I⟩,⟨nO,I⟩,⟨nO,w64 LN LN⟩,⟨nO,UC,I,UU,UA,ah _ _ _⟩,⟨nO,I⟩,nO,I,SI,SI,SI,SI,SI,SI,SI,SI,I⟩ (W.cn<|J (fun _=>(g 10 11 []<|J UA (RT ?_))) (noF rfl)))))))) (noF SI)
     exact vbf (gr hup (ld ho1 (fun q=>hC q.task)))
   ·conv=>whnf
    refine W.sq<|g 175 179 []<|J UE<|W.cn<|J (fun _=>(W.skip (W.sq (W.blk (g 179 187 [.x (aL o)]<|J Zbj (g 187 215 [.call (V.b (decide (1≤o.worker∧o.worker≤b.workers))) [[],[],[]],BF,BF,BF,.call (V.b (decide (1≤o.lease∧o.lease≤300000000))) [[]],BF,BF,BT,BT,BT,BT,BT,BT,BT,BT,BT,BT,BT,BT,BT,BT,BT]<|J ⟨I,I,I,I,⟨UC,I,UU,UA,ah _ _ _⟩,I,I,⟨nO,I⟩,⟨nO,I⟩,⟨nO,UA,I,US,UA,aA _⟩,⟨nO,I⟩,nO,I,ag OM,ag OM,ag OM,ag OM,ag OM,ag OM,ag OM,I,rfl,rfl,rfl,rfl,rfl,rfl,rfl,rfl,I⟩ (W.cn<|J (fun _=>(g 10 11 []<|J UA (RT ?_))) (noF rfl)))))))) (noF SI)
    exact vbf (gr hup (ld ho1 (fun q=>hB q.lease)))
  ·conv=>whnf
   refine W.sq<|g 175 179 []<|J UE<|W.cn<|J (fun _=>(W.skip (W.sq (W.blk (g 179 187 [.x (aL o)]<|J Zbj (g 187 215 [.call (V.b (decide (1≤o.worker∧o.worker≤b.workers))) [[],[],[]],BT,BT,BT,BT,BT,BT,BT,BT,BT,BT,BT,BT,BT,BT,BT,BT,BT,BT,BT,BT]<|J ⟨I,I,I,I,⟨UC,I,UU,UA,ah _ _ _⟩,I,I,ag OM,ag OM,ag OM,ag OM,ag OM,I,rfl,rfl,rfl,rfl,rfl,rfl,rfl,I,rfl,rfl,rfl,rfl,rfl,rfl,rfl,rfl,I⟩ (W.cn<|J (fun _=>(g 10 11 []<|J UA (RT ?_))) (noF rfl)))))))) (noF SI)
   exact vbf (gr hup (ld ho1 (fun q=>hA q.worker)))
 have howed:∀ o∈b.owed,OwedOk b p.tasks o:=by rw[aF OM]at hc3;exact hc3
 have cj:=xE b p hc0 OM OM f3 f4 f7 g3
 by_cases hjobs:ij b p.tasks b.jobs.length
 ·rw[decide_eq_true hjobs]at cj
  conv=>whnf
  refine W.sq<|g 175 179 []<|J UE<|W.cn<|J (noT SI) fun _=>W.exit<|g 6 219 [.call VT [[],[]]]<|J Zas<|RT ?_
  exact vbt ⟨hc0,f6,f7,hk,fun _=>⟨f1,f2,f3,f4,f5,g1,g2,g3,g4,hjobs,hseats,howed⟩,fun e=>by rw[hup]at e;cases e⟩
 ·rw[decide_eq_false hjobs]at cj
  conv=>whnf
  refine W.sq<|g 175 179 []<|J UE<|W.cn<|J (noT SI) fun _=>W.exit<|g 6 219 [.call VF [[],[]]]<|J Zas<|RT ?_
  exact vbf (gr hup fun q=>hjobs q.jobs)
end Go.K
end
section
open Go Go.Tm Go.Proofs
namespace Go.K
structure Message where
 kind:Int
 frm:Int
 to:Int
 epoch:Int
 lease:Int
 task:Int
 text:ByteArray
 inputs:List ByteArray
 deriving DecidableEq
abbrev aI(x:Message):List T:=[.i x.kind,.i x.frm,.i x.to,.i x.epoch,.i x.lease,.i x.task,.s x.text,.slc [false] (x.inputs.map aj)]
abbrev eC(x:Message):V:=.agg [.t (.i x.kind),.t (.i x.frm),.t (.i x.to),.t (.i x.epoch),.t (.i x.lease),.t (.i x.task),.t (.s x.text),.t (.slc [false] (x.inputs.map aj))]
abbrev bE(x:Message):V:=.agg [.t (.i x.kind),.t (.i x.frm),.t (.i x.to),.t (.i x.epoch),.t (.i x.lease),.t (.i x.task),.t (.s x.text),.own [false] (x.inputs.map aj)]
abbrev cO:List Bool:=[false,false,false,false,false,false,false,true]
abbrev Om:Message:=⟨0,0,0,0,0,0,emp,[]⟩
def Ev(s:ByteArray):ByteArray:=bl (beL (gt h0v s) 8)
theorem fg(s:ByteArray):(Ev s).size = 8:=by unfold Ev;rw[gD,pC]
def nul:ByteArray:=⟨#[0]⟩
def fr(body key:ByteArray):ByteArray:=Ev (key++nul++body)
theorem QL(body key:ByteArray):bl (beL (gt (gt (gt h0v key) nul) body) 8) = fr body key:=by unfold fr Ev;rw[sM,sM]
theorem JV(v:Int)(s:ByteArray)(h:0≤v∧v≤18446744073709551615):0≤gt v s∧gt v s≤18446744073709551615:=AJ _ _ h
theorem nU(body key:ByteArray)(h1:body.size≤9223372036854775807)(h2:key.size≤9223372036854775807):F H4 [.val (.s body),.val (.s key)] (.s (fr body key)) [[],[]]:=by
 have hb:=JV (gt (gt h0v key) nul) body (JV _ _ (M1 key))
 have e1:=gR h0v key
 have e2:=gR (gt h0v key) nul
 have e3:=gR (gt (gt h0v key) nul) body
 have c1:=dw h0v key h2
 rw[e1]at c1
 have c2:=dw (gt h0v key) nul (by decide)
 rw[e2]at c2
 have c3:=dw (gt (gt h0v key) nul) body h1
 rw[e3]at c3
 have c4:=ly (gt (gt (gt h0v key) nul) body) hb.1 hb.2
 rw[QL]at c4
 refine Il ?_
 conv=>whnf
 refine g 0 0 []<|J UA<|g 0 0 []<|J UV<|g 6 8 [.call (V.tup []) ([[u8v (gt h0v key)],[]])]<|J ⟨I,Zb0,I⟩<|g 1 2 [.call (V.tup []) ([[u8v (gt (gt h0v key) nul)],[]])]<|J ⟨Zb0,I⟩<|g 0 1 [.call (V.tup []) ([[u8v (gt (gt (gt h0v key) nul) body)],[]])]<|J ⟨I,Zb0,I⟩<|g 10 13 [.call (V.s (fr body key)) [[]]]<|J ⟨I,Zak,I,I⟩<|RT ?_
 rfl
def bP(m:Message):Prop:=(1≤m.epoch∧m.epoch≤300)∧
 ((m.kind = 1∧m.frm = 0∧(1≤m.to∧m.to≤8)∧(1≤m.lease∧m.lease≤300000000)∧(0≤m.task∧m.task≤39)∧m.text = emp∧eP m.inputs)∨
  (m.kind = 2∧m.to = 0∧(1≤m.frm∧m.frm≤8)∧(1≤m.lease∧m.lease≤300000000)∧m.task = 0∧m.text = emp∧(m.inputs.length:Int) = 0)∨
  (m.kind = 3∧m.to = 0∧(1≤m.frm∧m.frm≤8)∧(1≤m.lease∧m.lease≤300000000)∧(0≤m.task∧m.task≤39)∧(m.text.size:Int) = 8∧(m.inputs.length:Int) = 0)∨
  (m.kind = 4∧m.frm = 0∧(1≤m.to∧m.to≤8)∧(1≤m.lease∧m.lease≤300000000)∧m.task = 0∧m.text = emp∧(m.inputs.length:Int) = 0)∨
  (m.kind = 5∧m.to = 0∧(1≤m.frm∧m.frm≤8)∧m.lease = 0∧m.task = 0∧m.text = emp∧(m.inputs.length:Int) = 0))
instance (m:Message):Decidable (bP m):=by unfold bP;infer_instance
theorem cL(m:Message)(hl:m.inputs.length≤9223372036854775806):F nk [.val (eC m)] (.b (decide (bP m))) [[]]:=by
 refine nq ?_
 conv=>whnf
 refine g 0 1 []<|J ⟨UH,I,I⟩<|g 0 0 []<|J UE<|W.sq<|g 0 0 []<|J UB<|W.blk<|g 13 14 []<|J UB<|W.cn<|J (fun h1=>?_) fun h1=>?_
 replace h1:=dt h1
 refine rg []<|J UD<|gd 11 26 [[],[],[],[],[],[]] ?_
 conv=>whnf
 refine J UF<|J KR<|W.sq<|g 0 0 []<|J UA<|W.cn<|J (fun _=>(rgd [[],[],[],[],[],[]] ?_)) (noF rfl)
 conv=>whnf
 refine⟨UF,by kernel_rfl,?_⟩
 refine W.sq ?_
 by_cases h2:Message.frm m = (0:Int)
 by_cases h3:(1:Int)≤Message.to m∧Message.to m≤(8:Int)
 refine g 26 43 [BF,BF,.call (V.b (decide (1≤m.to∧m.to≤8))) [[],[],[]],BF,BF,BF,BF,BF,.call (V.b (decide (1≤m.epoch∧m.epoch≤300))) [[],[],[]],BF,BF]<|J ⟨I,I,I,⟨nO,I⟩,⟨nO,UC,I,UU,UA,aa _ _ _⟩,⟨nO,I⟩,nO,I,⟨nO,I⟩,⟨nO,I⟩,⟨nO,UC,I,UU,UA,aa _ _ _⟩,⟨nO,I⟩,nO,I⟩<|W.cn<|J (fun h4=>?_) fun h4=>?_
 replace h4:=ndt h4
 refine g 8 9 []<|J UA<|RT ?_
 rotate_left
 replace h4:=ndf h4
 refine W.skip<|W.sq ?_
 by_cases h5:(1:Int)≤Message.lease m∧Message.lease m≤(300000000:Int)
 refine g 43 59 [BT,BT,BT,.call (V.b (decide (1≤m.lease∧m.lease≤300000000))) [[],[],[]],BT,BT,BF,BF,BF,BF,BF,BF,BF,BF,BF]<|J ⟨I,I,Zdh,Zdh,⟨rfl,UC,I,UU,UA,aa _ _ _⟩,Zdh,rfl,I,⟨nO,I⟩,⟨nO,I⟩,⟨nO,I⟩,rfl,rfl,rfl,⟨nO,rfl⟩,nO,I⟩<|W.cn<|J (noT rfl) fun _=>W.skip<|W.sq ?_
 by_cases h6:(0:Int)≤Message.task m∧Message.task m≤(39:Int)
 refine g 59 75 [BT,BT,BT,.call (V.b (decide (0≤m.task∧m.task≤39))) [[],[],[]],BT,BT,BF,BF,BF,BF,BF,BF,BF,BF,BF]<|J ⟨I,I,Zdh,Zdh,⟨rfl,UC,I,UU,UA,aa _ _ _⟩,Zdh,rfl,I,⟨nO,I⟩,⟨nO,I⟩,⟨nO,I⟩,rfl,rfl,rfl,⟨nO,rfl⟩,nO,I⟩<|W.cn<|J (noT rfl) fun _=>W.skip<|W.sq<|g 10 91 [BF,BF,BF,BF,BF,BF,BF,BF,BT,BT,BT,BF,BT,BF]<|J Zar<|W.cn<|J (fun h7=>?_) fun h7=>?_
 replace h7:=ndt h7
 refine g 7 9 []<|J UA<|RT ?_
 rotate_left
 replace h7:=ndf h7
 refine W.skip ?_
 by_cases h8:eP (Message.inputs m)
 refine g 5 108 [BT,BT,BT,.call (V.b (decide (eP m.inputs))) [[]],BT,BT,BT,BT,BF,BF,BF,BF,BT,BT]<|J ⟨I,I,Zdh,Zdh,⟨rfl,UA,I,US,UA,ir _ OM⟩,rfl,I,tO,tO,tO,I,I,I,I,tO,tO,I,I⟩<|RT ?_
 rotate_left
 refine g 5 108 [BT,BT,BT,.call (V.b (decide (eP m.inputs))) [[]],BT,BF,BF,BF,BF,BF,BF,BF,BF,BF,BF]<|J ⟨I,I,Zdh,Zdh,⟨rfl,UA,I,US,UA,ir _ OM⟩,rfl,I,⟨dO,I⟩,⟨dO,I⟩,⟨dO,I⟩,rfl,rfl,rfl,rfl,⟨dO,rfl⟩,dO,I,I⟩<|RT ?_
 rotate_left
 refine g 59 75 [BT,BT,BT,.call (V.b (decide (0≤m.task∧m.task≤39))) [[],[],[]],BT,BT,BT,BT,BT,BF,BF,BF,BT,BT]<|J ⟨I,I,Zdh,Zdh,⟨rfl,UC,I,UU,UA,aa _ _ _⟩,Zdh,rfl,I,ag OM,ag OM,ag OM,I,I,I,ag OM,ag OM,I⟩<|W.cn<|J (fun _=>(g 3 4 []<|J UA (RT ?_))) (noF rfl)
 rotate_left
 refine g 43 59 [BT,BT,BT,.call (V.b (decide (1≤m.lease∧m.lease≤300000000))) [[],[],[]],BT,BT,BT,BT,BT,BF,BF,BF,BT,BT]<|J ⟨I,I,Zdh,Zdh,⟨rfl,UC,I,UU,UA,aa _ _ _⟩,Zdh,rfl,I,ag OM,ag OM,ag OM,I,I,I,ag OM,ag OM,I⟩<|W.cn<|J (fun _=>(g 3 4 []<|J UA (RT ?_))) (noF rfl)
 rotate_left
 refine g 26 43 [BF,BF,.call (V.b (decide (1≤m.to∧m.to≤8))) [[],[],[]],BF,BF,BT,BT,BT,BT,BT]<|J ⟨I,I,I,⟨nO,I⟩,⟨nO,UC,I,UU,UA,aa _ _ _⟩,⟨nO,I⟩,nO,I,ag OM,ag OM,ag OM,ag OM,ag OM,I⟩<|W.cn<|J (fun _=>(g 8 9 []<|J UA (RT ?_))) (noF rfl)
 rotate_left
 refine g 26 43 [BT,BT,BT,BT,BT,BT,BT,BT,BT]<|J Zb7<|W.cn<|J (fun _=>(g 8 9 []<|J UA (RT ?_))) (noF rfl)
 rotate_left
 replace h1:=df h1
 refine g 12 13 []<|J UB<|W.cn<|J (fun h2=>?_) fun h2=>?_
 replace h2:=dt h2
 refine rg []<|J UA<|gd 11 26 [[],[],[],[],[],[]] ?_
 conv=>whnf
 refine J UF<|J KR<|W.sq<|g 0 0 []<|J UA<|W.cn<|J (noT rfl) fun _=>W.skip<|W.sq ?_
 by_cases h3:Message.to m = (0:Int)
 by_cases h4:(1:Int)≤Message.frm m∧Message.frm m≤(8:Int)
 refine g 26 43 [BF,BF,.call (V.b (decide (1≤m.frm∧m.frm≤8))) [[],[],[]],BF,BF,BF,BF,BF,.call (V.b (decide (1≤m.epoch∧m.epoch≤300))) [[],[],[]],BF,BF]<|J ⟨I,I,I,⟨nO,I⟩,⟨nO,UC,I,UU,UA,aa _ _ _⟩,⟨nO,I⟩,nO,I,⟨nO,I⟩,⟨nO,I⟩,⟨nO,UC,I,UU,UA,aa _ _ _⟩,⟨nO,I⟩,nO,I⟩<|W.cn<|J (fun h5=>?_) fun h5=>?_
 replace h5:=ndt h5
 refine g 8 9 []<|J UA<|RT ?_
 rotate_left
 replace h5:=ndf h5
 refine W.skip<|W.sq ?_
 by_cases h6:(1:Int)≤Message.lease m∧Message.lease m≤(300000000:Int)
 refine g 43 59 [BT,BT,BT,.call (V.b (decide (1≤m.lease∧m.lease≤300000000))) [[],[],[]],BT,BT,BF,BF,BF,BF,BF,BF,BF,BF,BF]<|J ⟨I,I,Zdh,Zdh,⟨rfl,UC,I,UU,UA,aa _ _ _⟩,Zdh,rfl,I,⟨nO,I⟩,⟨nO,I⟩,⟨nO,I⟩,rfl,rfl,rfl,⟨nO,rfl⟩,nO,I⟩<|W.cn<|J (noT rfl) fun _=>W.skip<|W.sq<|g 59 75 [BF,BF,BF,BF,BF,BF,BF,BF,BT,BT,BT,BF,BT,BF]<|J Zar<|W.cn<|J (fun h7=>?_) fun h7=>?_
 replace h7:=ndt h7
 refine g 3 4 []<|J UA<|RT ?_
 rotate_left
 replace h7:=ndf h7
 refine W.skip<|W.sq<|g 10 91 [BF,BF,BF,BF,BF,BF,BF,BF,BT,BT,BT,BF,BT,BF]<|J Zar<|W.cn<|J (fun h8=>?_) fun h8=>?_
 replace h8:=ndt h8
 refine g 7 9 []<|J UA<|RT ?_
 rotate_left
 replace h8:=ndf h8
 refine W.skip<|g 5 108 [BF,BF,BF,BF,BF,BF,BF,BT,BT,BT,BT,BF,BT,BF]<|J Zbk<|RT ?_
 rotate_left
 refine g 43 59 [BT,BT,BT,.call (V.b (decide (1≤m.lease∧m.lease≤300000000))) [[],[],[]],BT,BT,BT,BT,BT,BF,BF,BF,BT,BT]<|J ⟨I,I,Zdh,Zdh,⟨rfl,UC,I,UU,UA,aa _ _ _⟩,Zdh,rfl,I,ag OM,ag OM,ag OM,I,I,I,ag OM,ag OM,I⟩<|W.cn<|J (fun _=>(g 3 4 []<|J UA (RT ?_))) (noF rfl)
 rotate_left
 refine g 26 43 [BF,BF,.call (V.b (decide (1≤m.frm∧m.frm≤8))) [[],[],[]],BF,BF,BT,BT,BT,BT,BT]<|J ⟨I,I,I,⟨nO,I⟩,⟨nO,UC,I,UU,UA,aa _ _ _⟩,⟨nO,I⟩,nO,I,ag OM,ag OM,ag OM,ag OM,ag OM,I⟩<|W.cn<|J (fun _=>(g 8 9 []<|J UA (RT ?_))) (noF rfl)
 rotate_left
 refine g 26 43 [BT,BT,BT,BT,BT,BT,BT,BT,BT]<|J Zb7<|W.cn<|J (fun _=>(g 8 9 []<|J UA (RT ?_))) (noF rfl)
 rotate_left
 replace h2:=df h2
 refine g 14 16 []<|J UB<|W.cn<|J (fun h3=>?_) fun h3=>?_
 replace h3:=dt h3
 refine rg []<|J UC<|gd 11 26 [[],[],[],[],[],[]] ?_
 conv=>whnf
 refine J UF<|J KR<|W.sq<|g 0 0 []<|J UA<|W.cn<|J (noT rfl) fun _=>W.skip<|W.sq ?_
 by_cases h4:Message.to m = (0:Int)
 by_cases h5:(1:Int)≤Message.frm m∧Message.frm m≤(8:Int)
 refine g 26 43 [BF,BF,.call (V.b (decide (1≤m.frm∧m.frm≤8))) [[],[],[]],BF,BF,BF,BF,BF,.call (V.b (decide (1≤m.epoch∧m.epoch≤300))) [[],[],[]],BF,BF]<|J ⟨I,I,I,⟨nO,I⟩,⟨nO,UC,I,UU,UA,aa _ _ _⟩,⟨nO,I⟩,nO,I,⟨nO,I⟩,⟨nO,I⟩,⟨nO,UC,I,UU,UA,aa _ _ _⟩,⟨nO,I⟩,nO,I⟩<|W.cn<|J (fun h6=>?_) fun h6=>?_
 replace h6:=ndt h6
 refine g 8 9 []<|J UA<|RT ?_
 rotate_left
 replace h6:=ndf h6
 refine W.skip<|W.sq ?_
 by_cases h7:(1:Int)≤Message.lease m∧Message.lease m≤(300000000:Int)
 refine g 43 59 [BT,BT,BT,.call (V.b (decide (1≤m.lease∧m.lease≤300000000))) [[],[],[]],BT,BT,BF,BF,BF,BF,BF,BF,BF,BF,BF]<|J ⟨I,I,Zdh,Zdh,⟨rfl,UC,I,UU,UA,aa _ _ _⟩,Zdh,rfl,I,⟨nO,I⟩,⟨nO,I⟩,⟨nO,I⟩,rfl,rfl,rfl,⟨nO,rfl⟩,nO,I⟩<|W.cn<|J (noT rfl) fun _=>W.skip<|W.sq ?_
 by_cases h8:(0:Int)≤Message.task m∧Message.task m≤(39:Int)
 refine g 59 75 [BT,BT,BT,.call (V.b (decide (0≤m.task∧m.task≤39))) [[],[],[]],BT,BT,BF,BF,BF,BF,BF,BF,BF,BF,BF]<|J ⟨I,I,Zdh,Zdh,⟨rfl,UC,I,UU,UA,aa _ _ _⟩,Zdh,rfl,I,⟨nO,I⟩,⟨nO,I⟩,⟨nO,I⟩,rfl,rfl,rfl,⟨nO,rfl⟩,nO,I⟩<|W.cn<|J (noT rfl) fun _=>W.skip<|W.sq ?_
 by_cases h9:(↑(ByteArray.size (Message.text m)):Int) = (8:Int)
 refine g 10 91 [BT,BT,BT,BT,BT,BF,BF,BF,BF,BF,BF,BF,BF,BF]<|J ⟨I,I,Zdh,Zdh,Zdh,Zdh,rfl,I,⟨nO,I⟩,⟨nO,I⟩,⟨nO,I⟩,rfl,rfl,rfl,⟨nO,rfl⟩,nO,I⟩<|W.cn<|J (noT rfl) fun _=>W.skip<|g 5 108 [BF,BF,BF,BF,BF,BF,BF,BT,BT,BT,BT,BF,BT,BF]<|J Zbk<|RT ?_
 rotate_left
 refine g 10 91 [BT,BT,BT,BT,BT,BT,BT,BT,BF,BF,BF,BT,BT]<|J ⟨I,I,Zdh,Zdh,Zdh,Zdh,rfl,I,ag OM,ag OM,ag OM,I,I,I,ag OM,ag OM,I⟩<|W.cn<|J (fun _=>(g 7 9 []<|J UA (RT ?_))) (noF rfl)
 rotate_left
 refine g 59 75 [BT,BT,BT,.call (V.b (decide (0≤m.task∧m.task≤39))) [[],[],[]],BT,BT,BT,BT,BT,BF,BF,BF,BT,BT]<|J ⟨I,I,Zdh,Zdh,⟨rfl,UC,I,UU,UA,aa _ _ _⟩,Zdh,rfl,I,ag OM,ag OM,ag OM,I,I,I,ag OM,ag OM,I⟩<|W.cn<|J (fun _=>(g 3 4 []<|J UA (RT ?_))) (noF rfl)
 rotate_left
 refine g 43 59 [BT,BT,BT,.call (V.b (decide (1≤m.lease∧m.lease≤300000000))) [[],[],[]],BT,BT,BT,BT,BT,BF,BF,BF,BT,BT]<|J ⟨I,I,Zdh,Zdh,⟨rfl,UC,I,UU,UA,aa _ _ _⟩,Zdh,rfl,I,ag OM,ag OM,ag OM,I,I,I,ag OM,ag OM,I⟩<|W.cn<|J (fun _=>(g 3 4 []<|J UA (RT ?_))) (noF rfl)
 rotate_left
 refine g 26 43 [BF,BF,.call (V.b (decide (1≤m.frm∧m.frm≤8))) [[],[],[]],BF,BF,BT,BT,BT,BT,BT]<|J ⟨I,I,I,⟨nO,I⟩,⟨nO,UC,I,UU,UA,aa _ _ _⟩,⟨nO,I⟩,nO,I,ag OM,ag OM,ag OM,ag OM,ag OM,I⟩<|W.cn<|J (fun _=>(g 8 9 []<|J UA (RT ?_))) (noF rfl)
 rotate_left
 refine g 26 43 [BT,BT,BT,BT,BT,BT,BT,BT,BT]<|J Zb7<|W.cn<|J (fun _=>(g 8 9 []<|J UA (RT ?_))) (noF rfl)
 rotate_left
 replace h3:=df h3
 refine g 16 18 []<|J UB<|W.cn<|J (fun h4=>?_) fun h4=>?_
 replace h4:=dt h4
 refine rg []<|J UB<|gd 11 26 [[],[],[],[],[],[]] ?_
 conv=>whnf
 refine J UF<|J KR<|W.sq<|g 0 0 []<|J UA<|W.cn<|J (fun _=>(rgd [[],[],[],[],[],[]] ?_)) (noF rfl)
 conv=>whnf
 refine⟨UF,by kernel_rfl,?_⟩
 refine W.sq ?_
 by_cases h5:Message.frm m = (0:Int)
 by_cases h6:(1:Int)≤Message.to m∧Message.to m≤(8:Int)
 refine g 26 43 [BF,BF,.call (V.b (decide (1≤m.to∧m.to≤8))) [[],[],[]],BF,BF,BF,BF,BF,.call (V.b (decide (1≤m.epoch∧m.epoch≤300))) [[],[],[]],BF,BF]<|J ⟨I,I,I,⟨nO,I⟩,⟨nO,UC,I,UU,UA,aa _ _ _⟩,⟨nO,I⟩,nO,I,⟨nO,I⟩,⟨nO,I⟩,⟨nO,UC,I,UU,UA,aa _ _ _⟩,⟨nO,I⟩,nO,I⟩<|W.cn<|J (fun h7=>?_) fun h7=>?_
 replace h7:=ndt h7
 refine g 8 9 []<|J UA<|RT ?_
 rotate_left
 replace h7:=ndf h7
 refine W.skip<|W.sq ?_
 by_cases h8:(1:Int)≤Message.lease m∧Message.lease m≤(300000000:Int)
 refine g 43 59 [BT,BT,BT,.call (V.b (decide (1≤m.lease∧m.lease≤300000000))) [[],[],[]],BT,BT,BF,BF,BF,BF,BF,BF,BF,BF,BF]<|J ⟨I,I,Zdh,Zdh,⟨rfl,UC,I,UU,UA,aa _ _ _⟩,Zdh,rfl,I,⟨nO,I⟩,⟨nO,I⟩,⟨nO,I⟩,rfl,rfl,rfl,⟨nO,rfl⟩,nO,I⟩<|W.cn<|J (noT rfl) fun _=>W.skip<|W.sq<|g 59 75 [BF,BF,BF,BF,BF,BF,BF,BF,BT,BT,BT,BF,BT,BF]<|J Zar<|W.cn<|J (fun h9=>?_) fun h9=>?_
 replace h9:=ndt h9
 refine g 3 4 []<|J UA<|RT ?_
 rotate_left
 replace h9:=ndf h9
 refine W.skip<|W.sq<|g 10 91 [BF,BF,BF,BF,BF,BF,BF,BF,BT,BT,BT,BF,BT,BF]<|J Zar<|W.cn<|J (fun h10=>?_) fun h10=>?_
 replace h10:=ndt h10
 refine g 7 9 []<|J UA<|RT ?_
 rotate_left
 replace h10:=ndf h10
 refine W.skip<|g 5 108 [BF,BF,BF,BF,BF,BF,BF,BT,BT,BT,BT,BF,BT,BF]<|J Zbk<|RT ?_
 rotate_left
 refine g 43 59 [BT,BT,BT,.call (V.b (decide (1≤m.lease∧m.lease≤300000000))) [[],[],[]],BT,BT,BT,BT,BT,BF,BF,BF,BT,BT]<|J ⟨I,I,Zdh,Zdh,⟨rfl,UC,I,UU,UA,aa _ _ _⟩,Zdh,rfl,I,ag OM,ag OM,ag OM,I,I,I,ag OM,ag OM,I⟩<|W.cn<|J (fun _=>(g 3 4 []<|J UA (RT ?_))) (noF rfl)
 rotate_left
 refine g 26 43 [BF,BF,.call (V.b (decide (1≤m.to∧m.to≤8))) [[],[],[]],BF,BF,BT,BT,BT,BT,BT]<|J ⟨I,I,I,⟨nO,I⟩,⟨nO,UC,I,UU,UA,aa _ _ _⟩,⟨nO,I⟩,nO,I,ag OM,ag OM,ag OM,ag OM,ag OM,I⟩<|W.cn<|J (fun _=>(g 8 9 []<|J UA (RT ?_))) (noF rfl)
 rotate_left
 refine g 26 43 [BT,BT,BT,BT,BT,BT,BT,BT,BT]<|J Zb7<|W.cn<|J (fun _=>(g 8 9 []<|J UA (RT ?_))) (noF rfl)
 rotate_left
 replace h4:=df h4
 refine g 11 20 []<|J UB<|W.cn<|J (fun h5=>?_) fun h5=>?_
 replace h5:=dt h5
 refine W.skip<|gd 20 26 [[],[],[],[],[],[]] ?_
 conv=>whnf
 refine J UF<|J KR<|W.sq<|g 0 0 []<|J UA<|W.cn<|J (noT rfl) fun _=>W.skip<|W.sq ?_
 by_cases h6:Message.to m = (0:Int)
 by_cases h7:(1:Int)≤Message.frm m∧Message.frm m≤(8:Int)
 refine g 26 43 [BF,BF,.call (V.b (decide (1≤m.frm∧m.frm≤8))) [[],[],[]],BF,BF,BF,BF,BF,.call (V.b (decide (1≤m.epoch∧m.epoch≤300))) [[],[],[]],BF,BF]<|J ⟨I,I,I,⟨nO,I⟩,⟨nO,UC,I,UU,UA,aa _ _ _⟩,⟨nO,I⟩,nO,I,⟨nO,I⟩,⟨nO,I⟩,⟨nO,UC,I,UU,UA,aa _ _ _⟩,⟨nO,I⟩,nO,I⟩<|W.cn<|J (fun h8=>?_) fun h8=>?_
 replace h8:=ndt h8
 refine g 8 9 []<|J UA<|RT ?_
 rotate_left
 replace h8:=ndf h8
 refine W.skip<|W.sq<|g 43 59 [BF,BF,BF,BF,BF,BF,BF,BF,BT,BT,BT,BF,BT,BF]<|J Zar<|W.cn<|J (fun h9=>?_) fun h9=>?_
 replace h9:=ndt h9
 refine g 3 4 []<|J UA<|RT ?_
 rotate_left
 replace h9:=ndf h9
 refine W.skip<|W.sq<|g 59 75 [BF,BF,BF,BF,BF,BF,BF,BF,BT,BT,BT,BF,BT,BF]<|J Zar<|W.cn<|J (fun h10=>?_) fun h10=>?_
 replace h10:=ndt h10
 refine g 3 4 []<|J UA<|RT ?_
 rotate_left
 replace h10:=ndf h10
 refine W.skip<|W.sq<|g 10 91 [BF,BF,BF,BF,BF,BF,BF,BF,BT,BT,BT,BF,BT,BF]<|J Zar<|W.cn<|J (fun h11=>?_) fun h11=>?_
 replace h11:=ndt h11
 refine g 7 9 []<|J UA<|RT ?_
 rotate_left
 replace h11:=ndf h11
 refine W.skip<|g 5 108 [BF,BF,BF,BF,BF,BF,BF,BT,BT,BT,BT,BF,BT,BF]<|J Zbk<|RT ?_
 rotate_left
 refine g 26 43 [BF,BF,.call (V.b (decide (1≤m.frm∧m.frm≤8))) [[],[],[]],BF,BF,BT,BT,BT,BT,BT]<|J ⟨I,I,I,⟨nO,I⟩,⟨nO,UC,I,UU,UA,aa _ _ _⟩,⟨nO,I⟩,nO,I,ag OM,ag OM,ag OM,ag OM,ag OM,I⟩<|W.cn<|J (fun _=>(g 8 9 []<|J UA (RT ?_))) (noF rfl)
 rotate_left
 refine g 26 43 [BT,BT,BT,BT,BT,BT,BT,BT,BT]<|J Zb7<|W.cn<|J (fun _=>(g 8 9 []<|J UA (RT ?_))) (noF rfl)
 rotate_left
 replace h5:=df h5
 refine g 20 22 []<|J UA<|RT ?_
 rotate_left
 all_goals (try simp only[List.length_map,decide_eq_true_eq,Bool.not_eq_true,Bool.not_eq_true',decide_eq_false_iff_not]at *)
 all_goals first
  |exact vbf (by unfold bP;grind)
  |exact vbt (by unfold bP;grind)
  |exact vbd (by unfold bP;grind)
theorem tup5{a b c d e a' b' c' d' e':Bool}(h1:a = a')(h2:b = b')(h3:c = c')(h4:d = d')(h5:e = e'):V.tup [V.t (T.v (Value.bool a)),V.t (T.v (Value.bool b)),V.t (T.v (Value.bool c)),V.t (T.v (Value.bool d)),V.t (T.v (Value.bool e))] = V.tup [.b a',.b b',.b c',.b d',.b e']:=by subst h1;subst h2;subst h3;subst h4;subst h5;rfl
theorem pw(k:Int):F BZ [.val (.i k)] (.tup [.b (decide (1≤k∧k≤4)),.b (decide (k = 1∨k = 3)),.b (decide (k = 3)),.b (decide (k = 1)),.b (decide (k = 1∨k = 4))]) [[]]:=by
 refine CF ?_
 conv=>whnf
 refine g 0 0 []<|J UE<|W.sq<|g 0 1 []<|J UA<|W.blk<|g 9 10 []<|J UB<|W.cn<|J (fun h1=>?_) fun h1=>?_
 replace h1:=dt h1
 refine g 7 9 []<|J UE<|RT ?_
 rotate_left
 replace h1:=df h1
 refine g 8 9 []<|J UB<|W.cn<|J (fun h2=>?_) fun h2=>?_
 replace h2:=dt h2
 refine g 7 12 []<|J UE<|RT ?_
 rotate_left
 replace h2:=df h2
 refine g 10 12 []<|J UB<|W.cn<|J (fun h3=>?_) fun h3=>?_
 replace h3:=dt h3
 refine g 7 14 []<|J UE<|RT ?_
 rotate_left
 replace h3:=df h3
 refine g 7 14 []<|J UB<|W.cn<|J (fun h4=>?_) fun h4=>?_
 replace h4:=dt h4
 refine g 14 16 []<|J UE<|RT ?_
 rotate_left
 replace h4:=df h4
 refine W.skip<|g 14 16 []<|J UE<|RT ?_
 rotate_left
 all_goals exact tup5 (by grind) (by grind) (by grind) (by grind) (by grind)
end Go.K
end
section
open Go Go.Tm Go.Proofs
namespace Go.K
theorem nT(m:Message)(hl:m.inputs.length≤9223372036854775806):F HV [.val (eC m)] (.b (decide (bP m))) [[]]:=by
 refine Ih ?_
 conv=>whnf
 refine g 0 1 []<|J ⟨UH,I,I⟩<|W.sq ?_
 by_cases h1:(1:Int)≤Message.kind m∧Message.kind m≤(5:Int)
 refine g 13 15 [.call (V.b (decide (1≤m.kind∧m.kind≤5))) [[],[],[]],BF,BF,BF,.call (V.b (decide (1≤m.epoch∧m.epoch≤300))) [[],[],[]],BF,BF]<|J ⟨I,I,⟨UC,I,UU,UA,ah _ _ _⟩,I,I,⟨nO,I⟩,⟨nO,I⟩,⟨nO,UC,I,UU,UA,ah _ _ _⟩,⟨nO,I⟩,nO,I⟩<|W.cn<|J (fun h2=>?_) fun h2=>?_
 replace h2:=ndt h2
 refine g 8 9 []<|J UA<|RT ?_
 rotate_left
 replace h2:=ndf h2
 refine W.skip<|g 20 25 [.call (V.tup [V.b (decide (1≤m.kind∧m.kind≤4)),V.b (decide (m.kind = 1∨m.kind = 3)),V.b (decide (m.kind = 3)),V.b (decide (m.kind = 1)),V.b (decide (m.kind = 1∨m.kind = 4))]) [[]]]<|J ⟨I,I,⟨UA,I,US,UA,pw _⟩,I,I,I,I,I,I,I,I,I,I,I,I⟩<|W.sq ?_
 by_cases h3:Message.kind m = (1:Int)∨Message.kind m = (4:Int)
 by_cases h4:Message.frm m = (0:Int)
 by_cases h5:(1:Int)≤Message.to m∧Message.to m≤(8:Int)
 refine g 29 53 [BT,BT,BT,BT,BF,BF,BF,.call (V.b (decide (1≤m.to∧m.to≤8))) [[],[],[]],BF,BT,BF,BT,BF,BF,BF,BF,BF,BF,BF,BF,BF,BF,BF,BF,BF,BF,BF]<|J ⟨I,I,⟨tO,I⟩,⟨tO,I⟩,⟨tO,I⟩,⟨tO,I⟩,⟨nO,I⟩,⟨nO,I⟩,⟨nO,UC,I,UU,UA,ah _ _ _⟩,⟨nO,I⟩,⟨tO,nO⟩,tO,I,⟨nO,I⟩,⟨nO,I⟩,⟨nO,I⟩,nO,nO,nO,nO,I,I,I,I,nO,⟨nO,nO⟩,nO,I⟩<|W.cn<|J (noT rfl) fun _=>W.skip<|W.sq ?_
 by_cases h6:(1:Int)≤Message.lease m∧Message.lease m≤(300000000:Int)
 by_cases h7:Message.kind m = (1:Int)∨Message.kind m = (3:Int)
 by_cases h8:(0:Int)≤Message.task m∧Message.task m≤(39:Int)
 refine g 11 87 [BT,BT,BT,.call (V.b (decide (1≤m.lease∧m.lease≤300000000))) [[]],BT,BT,BF,BF,BF,BF,BF,BF,BF,BF,BF,BF,BF,BT,BT,BT,.call (V.b (decide (0≤m.task∧m.task≤39))) [[],[],[]],BT,BF,BT,BF,BF,BF,BF,BF,BF,BF,BF,BF,BF] ?_
 conv=>whnf
 refine J ⟨I,I,⟨tO,I⟩,⟨tO,I⟩,⟨tO,UA,I,US,UA,aA _⟩,⟨tO,I⟩,tO,I,⟨nO,I⟩,⟨nO,I⟩,⟨nO,I⟩,nO,nO,nO,⟨nO,nO⟩,nO,I,Zdh,Zdh,⟨tO,I⟩,⟨tO,I⟩,⟨tO,UC,I,UU,UA,ah _ _ _⟩,⟨tO,I⟩,⟨rfl,tO⟩,rfl,I,⟨nO,I⟩,⟨nO,I⟩,⟨nO,I⟩,nO,nO,nO,⟨nO,nO⟩,nO,I⟩<|W.cn<|J (noT rfl) fun _=>W.skip<|W.sq<|g 10 103 [BF,BF,BF,BF,BF,BF,BF,BF,BT,BT,BT,BF,BT,BF]<|J Zev<|W.cn<|J (fun h9=>?_) fun h9=>?_
 replace h9:=ndt h9
 refine g 7 9 []<|J UA<|RT ?_
 rotate_left
 replace h9:=ndf h9
 refine W.skip ?_
 by_cases h10:eP (Message.inputs m)
 refine g 5 120 [BT,BT,BT,.call (V.b (decide (eP m.inputs))) [[]],BT,BT,BT,BT,BF,BF,BF,BF,BT,BT]<|J ⟨I,I,⟨tO,I⟩,⟨tO,I⟩,⟨tO,UA,I,US,UA,fb _ OM⟩,tO,I,tO,tO,tO,I,I,I,I,tO,tO,I,I⟩<|RT ?_
 rotate_left
 refine g 5 120 [BT,BT,BT,.call (V.b (decide (eP m.inputs))) [[]],BT,BF,BF,BF,BF,BF,BF,BF,BF,BF,BF]<|J ⟨I,I,⟨tO,I⟩,⟨tO,I⟩,⟨tO,UA,I,US,UA,fb _ OM⟩,tO,I,⟨dO,I⟩,⟨dO,I⟩,⟨dO,I⟩,nO,nO,nO,nO,⟨dO,nO⟩,dO,I,I⟩<|RT ?_
 rotate_left
 refine g 11 87 [BT,BT,BT,.call (V.b (decide (1≤m.lease∧m.lease≤300000000))) [[]],BT,BT,BF,BF,BF,BF,BF,BF,BF,BF,BF,BF,BF,BT,BT,BT,.call (V.b (decide (0≤m.task∧m.task≤39))) [[],[],[]],BT,BF,BT,BF,BT,BT,BT,BF,BF,BF,BT,BT] ?_
 conv=>whnf
 refine J ⟨I,I,⟨tO,I⟩,⟨tO,I⟩,⟨tO,UA,I,US,UA,aA _⟩,⟨tO,I⟩,tO,I,⟨nO,I⟩,⟨nO,I⟩,⟨nO,I⟩,nO,nO,nO,⟨nO,nO⟩,nO,I,Zdh,Zdh,⟨tO,I⟩,⟨tO,I⟩,⟨tO,UC,I,UU,UA,ah _ _ _⟩,⟨tO,I⟩,⟨rfl,tO⟩,rfl,I,ag OM,ag OM,ag OM,I,I,I,ag OM,ag OM,I⟩<|W.cn<|J (fun _=>(g 3 4 []<|J UA (RT ?_))) (noF rfl)
 rotate_left
 refine g 11 87 [BT,BT,BT,.call (V.b (decide (1≤m.lease∧m.lease≤300000000))) [[]],BT,BT,BF,BF,BF,BF,BF,BF,BF,BF,BF,BF,BF,BF,BF,BF,BF,BF,BF,BF,BF,BF,BF,BT,BT,BT,BF,BT,BF] ?_
 conv=>whnf
 refine J ⟨I,I,⟨tO,I⟩,⟨tO,I⟩,⟨tO,UA,I,US,UA,aA _⟩,⟨tO,I⟩,tO,I,⟨nO,I⟩,⟨nO,I⟩,⟨nO,I⟩,nO,nO,nO,⟨nO,nO⟩,nO,I,Zdh,Zdh,dO,dO,dO,dO,⟨rfl,dO⟩,rfl,I,Zdh,Zdh,Zdh,Zah,Zah,Zah,Zcz,rfl,I⟩<|W.cn<|J (fun h8=>?_) fun h8=>?_
 replace h8:=ndt h8
 refine g 3 4 []<|J UA<|RT ?_
 rotate_left
 replace h8:=ndf h8
 refine W.skip<|W.sq<|g 10 103 [BF,BF,BF,BF,BF,BF,BF,BF,BT,BT,BT,BF,BT,BF]<|J Zev<|W.cn<|J (fun h9=>?_) fun h9=>?_
 replace h9:=ndt h9
 refine g 7 9 []<|J UA<|RT ?_
 rotate_left
 replace h9:=ndf h9
 refine W.skip<|g 5 120 [BF,BF,BF,BF,BF,BF,BF,BT,BT,BT,BT,BF,BT,BF]<|J Zeu<|RT ?_
 rotate_left
 refine g 11 87 [BT,BT,BT,.call (V.b (decide (1≤m.lease∧m.lease≤300000000))) [[]],BT,BT,BT,BT,BT,BF,BF,BF,BT,BT,BT,BT,BF,BF,BF,BF,BT,BT,BT,BT,BT,BF,BF,BF,BT,BT] ?_
 conv=>whnf
 refine J ⟨I,I,⟨tO,I⟩,⟨tO,I⟩,⟨tO,UA,I,US,UA,aA _⟩,⟨tO,I⟩,tO,I,ag OM,ag OM,ag OM,I,I,I,ag OM,ag OM,I,rfl,rfl,I,I,I,I,rfl,rfl,I,rfl,rfl,rfl,I,I,I,rfl,rfl,I⟩<|W.cn<|J (fun _=>(g 3 4 []<|J UA (RT ?_))) (noF rfl)
 rotate_left
 refine g 29 53 [BT,BT,BT,BT,BF,BF,BF,.call (V.b (decide (1≤m.to∧m.to≤8))) [[],[],[]],BF,BT,BF,BT,BT,BT,BT,BF,BF,BF,BF,BF,BF,BF,BF,BF,BT,BT]<|J ⟨I,I,⟨tO,I⟩,⟨tO,I⟩,⟨tO,I⟩,⟨tO,I⟩,⟨nO,I⟩,⟨nO,I⟩,⟨nO,UC,I,UU,UA,ah _ _ _⟩,⟨nO,I⟩,⟨tO,nO⟩,tO,I,ag OM,ag OM,ag OM,I,I,I,I,I,I,I,I,I,ag OM,ag OM,I⟩<|W.cn<|J (fun _=>(g 11 16 []<|J UA (RT ?_))) (noF rfl)
 rotate_left
 refine g 29 53 [BT,BT,BT,BT,BT,BT,BT,BT,BT,BT,BT,BT,BT,BT,BF,BF,BF,BF,BF,BF,BF,BF,BF,BT,BT]<|J ⟨I,I,⟨tO,I⟩,⟨tO,I⟩,⟨tO,I⟩,⟨tO,I⟩,ag OM,ag OM,ag OM,ag OM,⟨tO,ag OM⟩,tO,I,rfl,rfl,rfl,I,I,I,I,I,I,I,I,I,rfl,rfl,I⟩<|W.cn<|J (fun _=>(g 11 16 []<|J UA (RT ?_))) (noF rfl)
 rotate_left
 by_cases h4:Message.to m = (0:Int)
 refine g 29 53 [BF,BF,BF,BF,BF,BF,BF,BF,BF,BF,BF,BF,BF,BT,BT,BT,BT,BF,BF,BF,.call (V.b (decide (1≤m.frm∧m.frm≤8))) [[],[],[]],BF,BT,BF,BF,BT,BF]<|J ⟨I,I,dO,dO,dO,dO,I,I,I,I,dO,dO,I,Zdh,Zdh,Zdh,Zah,Zah,Zah,Zah,⟨nO,I⟩,⟨nO,I⟩,⟨nO,UC,I,UU,UA,ah _ _ _⟩,⟨nO,I⟩,⟨ag OM,nO⟩,Zcz,rfl,I⟩<|W.cn<|J (fun h5=>?_) fun h5=>?_
 replace h5:=ndt h5
 refine g 11 16 []<|J UA<|RT ?_
 rotate_left
 replace h5:=ndf h5
 refine W.skip<|W.sq ?_
 by_cases h6:(1:Int)≤Message.kind m∧Message.kind m≤(4:Int)
 by_cases h7:(1:Int)≤Message.lease m∧Message.lease m≤(300000000:Int)
 by_cases h8:Message.kind m = (1:Int)∨Message.kind m = (3:Int)
 by_cases h9:(0:Int)≤Message.task m∧Message.task m≤(39:Int)
 refine g 11 87 [BT,BT,BT,.call (V.b (decide (1≤m.lease∧m.lease≤300000000))) [[]],BT,BT,BF,BF,BF,BF,BF,BF,BF,BF,BF,BF,BF,BT,BT,BT,.call (V.b (decide (0≤m.task∧m.task≤39))) [[],[],[]],BT,BF,BT,BF,BF,BF,BF,BF,BF,BF,BF,BF,BF] ?_
 conv=>whnf
 refine J ⟨I,I,⟨tO,I⟩,⟨tO,I⟩,⟨tO,UA,I,US,UA,aA _⟩,⟨tO,I⟩,tO,I,⟨nO,I⟩,⟨nO,I⟩,⟨nO,I⟩,nO,nO,nO,⟨nO,nO⟩,nO,I,Zdh,Zdh,⟨tO,I⟩,⟨tO,I⟩,⟨tO,UC,I,UU,UA,ah _ _ _⟩,⟨tO,I⟩,⟨rfl,tO⟩,rfl,I,⟨nO,I⟩,⟨nO,I⟩,⟨nO,I⟩,nO,nO,nO,⟨nO,nO⟩,nO,I⟩<|W.cn<|J (noT rfl) fun _=>W.skip<|W.sq ?_
 by_cases h10:(↑(ByteArray.size (Message.text m)):Int) = (8:Int)
 refine g 10 103 [BT,BT,BT,BT,BT,BF,BF,BF,BF,BF,BF,BF,BF,BF]<|J ⟨I,I,⟨tO,I⟩,⟨tO,I⟩,⟨tO,I⟩,⟨tO,I⟩,tO,I,⟨nO,I⟩,⟨nO,I⟩,⟨nO,I⟩,nO,nO,nO,⟨nO,nO⟩,nO,I⟩<|W.cn<|J (noT rfl) fun _=>W.skip<|g 5 120 [BF,BF,BF,BF,BF,BF,BF,BT,BT,BT,BT,BF,BT,BF]<|J Zeu<|RT ?_
 rotate_left
 refine g 10 103 [BT,BT,BT,BT,BT,BT,BT,BT,BF,BF,BF,BT,BT]<|J ⟨I,I,⟨tO,I⟩,⟨tO,I⟩,⟨tO,I⟩,⟨tO,I⟩,tO,I,ag OM,ag OM,ag OM,I,I,I,ag OM,ag OM,I⟩<|W.cn<|J (fun _=>(g 7 9 []<|J UA (RT ?_))) (noF rfl)
 rotate_left
 refine g 11 87 [BT,BT,BT,.call (V.b (decide (1≤m.lease∧m.lease≤300000000))) [[]],BT,BT,BF,BF,BF,BF,BF,BF,BF,BF,BF,BF,BF,BT,BT,BT,.call (V.b (decide (0≤m.task∧m.task≤39))) [[],[],[]],BT,BF,BT,BF,BT,BT,BT,BF,BF,BF,BT,BT] ?_
 conv=>whnf
 refine J ⟨I,I,⟨tO,I⟩,⟨tO,I⟩,⟨tO,UA,I,US,UA,aA _⟩,⟨tO,I⟩,tO,I,⟨nO,I⟩,⟨nO,I⟩,⟨nO,I⟩,nO,nO,nO,⟨nO,nO⟩,nO,I,Zdh,Zdh,⟨tO,I⟩,⟨tO,I⟩,⟨tO,UC,I,UU,UA,ah _ _ _⟩,⟨tO,I⟩,⟨rfl,tO⟩,rfl,I,ag OM,ag OM,ag OM,I,I,I,ag OM,ag OM,I⟩<|W.cn<|J (fun _=>(g 3 4 []<|J UA (RT ?_))) (noF rfl)
 rotate_left
 refine g 11 87 [BT,BT,BT,.call (V.b (decide (1≤m.lease∧m.lease≤300000000))) [[]],BT,BT,BF,BF,BF,BF,BF,BF,BF,BF,BF,BF,BF,BF,BF,BF,BF,BF,BF,BF,BF,BF,BF,BT,BT,BT,BF,BT,BF] ?_
 conv=>whnf
 refine J ⟨I,I,⟨tO,I⟩,⟨tO,I⟩,⟨tO,UA,I,US,UA,aA _⟩,⟨tO,I⟩,tO,I,⟨nO,I⟩,⟨nO,I⟩,⟨nO,I⟩,nO,nO,nO,⟨nO,nO⟩,nO,I,Zdh,Zdh,dO,dO,dO,dO,⟨rfl,dO⟩,rfl,I,Zdh,Zdh,Zdh,Zah,Zah,Zah,Zcz,rfl,I⟩<|W.cn<|J (fun h9=>?_) fun h9=>?_
 replace h9:=ndt h9
 refine g 3 4 []<|J UA<|RT ?_
 rotate_left
 replace h9:=ndf h9
 refine W.skip<|W.sq<|g 10 103 [BF,BF,BF,BF,BF,BF,BF,BF,BT,BT,BT,BF,BT,BF]<|J Zev<|W.cn<|J (fun h10=>?_) fun h10=>?_
 replace h10:=ndt h10
 refine g 7 9 []<|J UA<|RT ?_
 rotate_left
 replace h10:=ndf h10
 refine W.skip<|g 5 120 [BF,BF,BF,BF,BF,BF,BF,BT,BT,BT,BT,BF,BT,BF]<|J Zeu<|RT ?_
 rotate_left
 refine g 11 87 [BT,BT,BT,.call (V.b (decide (1≤m.lease∧m.lease≤300000000))) [[]],BT,BT,BT,BT,BT,BF,BF,BF,BT,BT,BT,BT,BF,BF,BF,BF,BT,BT,BT,BT,BT,BF,BF,BF,BT,BT] ?_
 conv=>whnf
 refine J ⟨I,I,⟨tO,I⟩,⟨tO,I⟩,⟨tO,UA,I,US,UA,aA _⟩,⟨tO,I⟩,tO,I,ag OM,ag OM,ag OM,I,I,I,ag OM,ag OM,I,rfl,rfl,I,I,I,I,rfl,rfl,I,rfl,rfl,rfl,I,I,I,rfl,rfl,I⟩<|W.cn<|J (fun _=>(g 3 4 []<|J UA (RT ?_))) (noF rfl)
 rotate_left
 by_cases h7:Message.lease m = (0:Int)
 refine g 11 87 [BF,BF,BF,BF,BF,BF,BF,BF,BT,BT,BT,BF,BT,BF,BF,BF,BF,BF,BF,BF,BF,BF,BF,BF,BF,BF,BT,BT,BT,BF,BT,BF] ?_
 conv=>whnf
 refine J ⟨I,I,dO,dO,dO,dO,dO,I,Zdh,Zdh,Zdh,Zah,Zah,Zah,Zcz,rfl,I,⟨nO,I⟩,⟨nO,I⟩,dO,dO,dO,dO,⟨nO,dO⟩,nO,I,Zdh,Zdh,Zdh,Zah,Zah,Zah,Zcz,rfl,I⟩<|W.cn<|J (fun h8=>?_) fun h8=>?_
 replace h8:=ndt h8
 refine g 3 4 []<|J UA<|RT ?_
 rotate_left
 replace h8:=ndf h8
 refine W.skip<|W.sq<|g 10 103 [BF,BF,BF,BF,BF,BF,BF,BF,BT,BT,BT,BF,BT,BF]<|J Zev<|W.cn<|J (fun h9=>?_) fun h9=>?_
 replace h9:=ndt h9
 refine g 7 9 []<|J UA<|RT ?_
 rotate_left
 replace h9:=ndf h9
 refine W.skip<|g 5 120 [BF,BF,BF,BF,BF,BF,BF,BT,BT,BT,BT,BF,BT,BF]<|J Zeu<|RT ?_
 rotate_left
 refine g 11 87 [BF,BF,BF,BF,BF,BF,BF,BF,BT,BT,BT,BF,BT,BF,BT,BT,BF,BF,BF,BF,BT,BT,BT,BT,BT,BF,BF,BF,BT,BT] ?_
 conv=>whnf
 refine J ⟨I,I,dO,dO,dO,dO,dO,I,Zdh,Zdh,Zdh,Zah,Zah,Zah,Zcz,rfl,I,ag OM,ag OM,I,I,I,I,ag OM,ag OM,I,rfl,rfl,rfl,I,I,I,rfl,rfl,I⟩<|W.cn<|J (fun _=>(g 3 4 []<|J UA (RT ?_))) (noF rfl)
 rotate_left
 refine g 29 53 [BF,BF,BF,BF,BF,BF,BF,BF,BF,BF,BF,BF,BF,BT,BT,BT,BT,BT,BT,BT,BT,BT,BT,BF,BT,BF]<|J ⟨I,I,dO,dO,dO,dO,I,I,I,I,dO,dO,I,Zdh,Zdh,Zdh,Zah,Zah,Zah,Zah,ag OM,ag OM,ag OM,ag OM,⟨ag OM,ag OM⟩,Zcz,rfl,I⟩<|W.cn<|J (fun _=>(g 11 16 []<|J UA (RT ?_))) (noF rfl)
 rotate_left
 refine g 13 15 [.call (V.b (decide (1≤m.kind∧m.kind≤5))) [[],[],[]],BT,BT,BT,BT,BT]<|J ⟨I,I,⟨UC,I,UU,UA,ah _ _ _⟩,I,I,ag OM,ag OM,ag OM,ag OM,ag OM,I⟩<|W.cn<|J (fun _=>(g 8 9 []<|J UA (RT ?_))) (noF rfl)
 rotate_left
 all_goals (try simp only[List.length_map,decide_eq_true_eq,Bool.not_eq_true,Bool.not_eq_true',decide_eq_false_iff_not]at *)
 all_goals first
  |exact vbf (by unfold bP;grind)
  |exact vbt (by unfold bP;grind)
  |exact vbd (by unfold bP;grind)
end Go.K
end
section
open Go Go.Tm Go.Proofs
namespace Go.K
def AB(m:Message):List Int:=[m.kind,m.frm,m.to,m.epoch / 256,m.epoch % 256,m.lease / 16777216,m.lease / 65536 % 256,m.lease / 256 % 256,m.lease % 256,m.task,m.inputs.length]
def iX:List ByteArray→ByteArray
 |[]=>emp
 |x :: l=>x++iX l
theorem LD(s:ByteArray):emp++s = s:=by apply ByteArray.ext;simp[emp]
theorem Ht(s:ByteArray):s++emp = s:=by apply ByteArray.ext;simp[emp]
theorem Bw:∀ a b,iX (a++b) = iX a++iX b
 |[],b=>by simp only[List.nil_append,iX,LD]
 |x :: a,b=>by simp only[List.cons_append,iX,Bw a b,ByteArray.append_assoc]
theorem E7{xs:List ByteArray}{n:Nat}{x:ByteArray}(h:xs[n]? = some x):iX (xs.take (n+1)) = iX (xs.take n) ++x:=by
 rw[List.take_add_one,h,Bw];simp only[Option.toList,iX,Ht]
def dx(m:Message):ByteArray:=bl (AB m) ++m.text++iX m.inputs
theorem E9{l:List Int}(h:∀ n∈l,0≤n∧n≤255):cG (bl l) = l.map b1T:=by
 unfold cG bl b1T
 simp only[List.map_map]
 apply List.map_congr_left
 intro n hn
 obtain⟨h1,h2⟩:=h n hn
 simp only[Function.comp]
 congr 4
 simp;omega
theorem dl{m:Message}(h:bP m):m.inputs.length≤8∧(∀ s∈m.inputs,s.size = 8)∧m.text.size≤8:=by
 have he:emp.size = 0:=rfl
 obtain⟨_,h|h|h|h|h⟩:=h
 ·obtain⟨_,_,_,_,_,h1,h2,h3⟩:=h
  exact⟨h3,h2,by rw[h1];omega⟩
 all_goals
  obtain⟨_,_,_,_,_,h1,h2⟩:=h
  have:m.inputs = []:=List.eq_nil_of_length_eq_zero OM
  rw[this]
  refine⟨by simp,(fun s hs=>nomatch hs),?_⟩
  first
   |(rw[h1];omega)
   |omega
theorem fQ{m:Message}(h:bP m):(1≤m.kind∧m.kind≤5)∧(0≤m.frm∧m.frm≤8)∧(0≤m.to∧m.to≤8)∧(1≤m.epoch∧m.epoch≤300)∧(0≤m.lease∧m.lease≤300000000)∧(0≤m.task∧m.task≤39):=by
 obtain⟨h0,h|h|h|h|h⟩:=h
 all_goals
  obtain⟨h1,h2,h3,h4,h5,_⟩:=h
  refine⟨?_,?_,?_,h0,?_,?_⟩ <;> omega
theorem ER{m:Message}(h:bP m):∀ n∈AB m,0≤n∧n≤255:=by
 obtain⟨h1,h2,h3,h4,h5,h6⟩:=fQ h
 have h7:=(dl h).1
 intro n hn
 simp only[AB,List.mem_cons,List.not_mem_nil,or_false]at hn
 rcases hn with rfl|rfl|rfl|rfl|rfl|rfl|rfl|rfl|rfl|rfl|rfl <;> omega
def gH(m:Message)(n:Nat):ByteArray:=bl (AB m) ++m.text++iX (m.inputs.take n)
theorem qV(m:Message):gH m 0 = bl (AB m) ++m.text:=by unfold gH;rw[List.take_zero,iX,Ht]
theorem A3{m:Message}{n:Nat}{x:ByteArray}(h:m.inputs[n]? = some x):cG (gH m n) ++cG x = cG (gH m (n+1)):=by
 unfold gH;rw[E7 h,←mX];simp only[ByteArray.append_assoc]
theorem vF(m:Message):gH m m.inputs.length = dx m:=by unfold gH dx;rw[List.take_length]
theorem qW{m:Message}(h:bP m)(n:Nat)(hn:n≤m.inputs.length):(gH m n).size = 11+m.text.size+8 * n:=by
 obtain⟨h7,h8,h9⟩:=dl h
 induction n with
 |zero=>rw[qV,ByteArray.size_append,gD];rfl
 |succ k ih =>
  have hk:k < m.inputs.length:=by omega
  have:=congrArg List.length (A3 (List.getElem?_eq_getElem hk))
  rw[List.length_append,gu,gu,gu,ih OM,h8 _ (List.getElem_mem hk)]at this
  omega
theorem LK{m:Message}(h:bP m):[m.kind,m.frm,m.to,IntKind.u8.wrap (IntKind.i64.wrap (m.epoch.tdiv 256)),IntKind.u8.wrap (m.epoch.tmod 256),IntKind.u8.wrap (IntKind.i64.wrap (m.lease.tdiv 16777216)),IntKind.u8.wrap ((IntKind.i64.wrap (m.lease.tdiv 65536)).tmod 256),IntKind.u8.wrap ((IntKind.i64.wrap (m.lease.tdiv 256)).tmod 256),IntKind.u8.wrap (m.lease.tmod 256),m.task,IntKind.u8.wrap ((m.inputs.map aj).length:Int)].map b1T++cG m.text = cG (gH m 0):=by
 obtain⟨h1,h2,h3,h4,h5,h6⟩:=fQ h
 have h7:=(dl h).1
 rw[qV,mX,E9 (ER h)]
 unfold AB
 rw[List.length_map,Int.tdiv_eq_ediv_of_nonneg OM,Int.tdiv_eq_ediv_of_nonneg OM,Int.tdiv_eq_ediv_of_nonneg OM,Int.tdiv_eq_ediv_of_nonneg OM,w64 (z:=m.lease / 65536) OM OM,w64 (z:=m.lease / 256) OM OM,w64 (z:=m.lease / 16777216) OM OM,w64 (z:=m.epoch / 256) OM OM,Int.tmod_eq_emod_of_nonneg OM,Int.tmod_eq_emod_of_nonneg OM,Int.tmod_eq_emod_of_nonneg OM,Int.tmod_eq_emod_of_nonneg OM,wu8 OM OM,wu8 OM OM,wu8 OM OM,wu8 OM OM,wu8 OM OM,wu8 OM OM,wu8 OM OM]
theorem DC(m:Message)(h:bP m):F B0 [.val (eC m)] (.s (dx m)) [[]]:=by
 obtain⟨h1,h2,h3,h4,h5,h6⟩:=fQ h
 obtain⟨h7,h8,h9⟩:=dl h
 refine CG ?_
 conv=>whnf
 refine g 0 0 []<|J ⟨UH,I,I⟩<|g 0 0 []<|J UC<|g 10 47 [.i m.kind,.i m.frm,.i m.to,.i (IntKind.wrap IntKind.i64 (Int.tdiv m.epoch 256)),.i (IntKind.wrap IntKind.u8 (IntKind.wrap IntKind.i64 (Int.tdiv m.epoch 256))),.i (Int.tmod m.epoch 256),.i (IntKind.wrap IntKind.u8 (Int.tmod m.epoch 256)),.i (IntKind.wrap IntKind.i64 (Int.tdiv m.lease 16777216)),.i (IntKind.wrap IntKind.u8 (IntKind.wrap IntKind.i64 (Int.tdiv m.lease 16777216))),.i (IntKind.wrap IntKind.i64 (Int.tdiv m.lease 65536)),.i (Int.tmod (IntKind.wrap IntKind.i64 (Int.tdiv m.lease 65536)) 256),.i (IntKind.wrap IntKind.u8 (Int.tmod (IntKind.wrap IntKind.i64 (Int.tdiv m.lease 65536)) 256)),.i (IntKind.wrap IntKind.i64 (Int.tdiv m.lease 256)),.i (Int.tmod (IntKind.wrap IntKind.i64 (Int.tdiv m.lease 256)) 256),.i (IntKind.wrap IntKind.u8 (Int.tmod (IntKind.wrap IntKind.i64 (Int.tdiv m.lease 256)) 256)),.i (Int.tmod m.lease 256),.i (IntKind.wrap IntKind.u8 (Int.tmod m.lease 256)),.i m.task,.i (IntKind.wrap IntKind.u8 (↑(List.length (List.map aj m.inputs)):Int))]<|J ⟨I,I,wu8 OM OM,I,I,wu8 OM OM,I,I,wu8 OM OM,I,I,Zds,rfl,I,I,Zds,rfl,I,Zds,rfl,I,Zds,Zds,rfl,I,Zds,Zds,rfl,I,Zds,rfl,I,I,wu8 OM OM,I,I,I,rfl,⟨UA,UA,UA,UA,UA,UA,UA,UA,UA,UA,UA,I⟩,I,I⟩<|g 47 51 []<|J ⟨I,I,I,Zdm,I,I⟩<|W.sq<|g 6 9 []<|J UA<|W.blk<|W.lp (fun s (n:Nat)=>⟨[(1,s.s 1),(2,s.s 2),(4,.ref ⟨4,none,0⟩),(5,.i n),(9,s.s 9)],[(1,[s.c 1 0,s.c 1 1,s.c 1 2,s.c 1 3,s.c 1 4,s.c 1 5,s.c 1 6,s.c 1 7]),(4,[.own [false] (cG (gH m n))])],[]⟩) (fun(n:Nat)=>n≤m.inputs.length) (fun(n:Nat)=>m.inputs.length - n) (0) [some 1,some 50] [] ⟨rfl,Zbg,⟨Zab,⟨⟨rfl,⟨(congrArg (V.own _) (LK h)),I⟩⟩,I⟩⟩,I⟩ OM ?_
 intro n hn
 have hc:=qW h n hn
 have hb:=gu (gH m n)
 conv=>whnf
 refine W.sq<|g 51 55 []<|J UE<|W.cn<|J (fun h10=>?_) fun h10=>?_
 replace h10:=dt h10
 simp only[LM]at h10
 refine W.skip<|W.sq<|W.blk ?_
 obtain⟨y1,hy1⟩:=af (xs:=Message.inputs m) (n:=n) OM
 have hm1:=h8 y1 (List.mem_of_getElem? hy1)
 refine rg [.x (aj y1)]<|J ⟨I,I,I,I,Zdl,I,Zdm,I,I⟩<|rg [.i ((n:Int) +1)]<|J Zdi ?_
 rotate_left
 replace h10:=df h10
 simp only[LM]at h10
 refine W.exit<|g 55 67 [.s (gH m n)]<|J ⟨I,⟨I,ji _,(jF _).symm⟩,I,I⟩<|RT ?_
 rotate_left
 ·refine⟨n+1,[some 1,some 64],[],⟨rfl,Zbg,⟨Zab,⟨⟨rfl,⟨(congrArg (V.own _) (A3 AS)),I⟩⟩,I⟩⟩,I⟩,?_,?_⟩
  rotate_left
  (dsimp only;omega)
  dsimp only
  omega
 ·exact vs (by rw[show n = m.inputs.length from by omega,vF])
end Go.K
end
section
open Go Go.Tm Go.Proofs
namespace Go.K
attribute [local irreducible] ByteArray.extract
def eD(m:Message)(key:ByteArray):ByteArray:=if bP m∧key.size≤30 then fr (dx m) key++dx m else emp
theorem gv{m:Message}(h:bP m):(dx m).size = 11+m.text.size+8 * m.inputs.length:=by
 rw[←vF,qW h _ (Nat.le_refl _)]
theorem gg(m:Message)(key:ByteArray)(hl:m.inputs.length≤9223372036854775806):F pH [.val (eC m),.val (.s key)] (.s (eD m key)) [[],[]]:=by
 have c1:=nT m hl
 have c2:=DC m
 by_cases h:bP m
 ·have hb:=gv h
  obtain⟨h7,h8,h9⟩:=dl h
  rw[show decide (bP m) = true from decide_eq_true h]at c1
  have c3:=c2 h
  clear c2
  by_cases hk:key.size≤30
  ·have c4:=mt (key++nul++dx m) (by rw[ByteArray.size_append,ByteArray.size_append];have:nul.size = 1:=rfl;omega)
   rw[gR,show bl (beL (gt h0v (key++nul++dx m)) 8) = fr (dx m) key from rfl]at c4
   have hn:nul.size = 1:=rfl
   have h2:(fr (dx m) key).size = 8:=fg _
   refine gc ?_
   conv=>whnf
   refine g 0 1 []<|J ⟨UH,I,I⟩<|W.sq<|g 6 9 [.call VT [[]],BF,BF,BF,BF]<|J Zca<|W.cn<|J (noT dO) fun _=>W.skip<|g 10 16 [.call (V.s (dx m)) [[]]]<|J ⟨I,Zcb,I,I⟩<|g 16 23 [.s (key++ {data:=#[(0:UInt8)]:ByteArray}),.s (key++ {data:=#[(0:UInt8)]:ByteArray} ++dx m),.call (V.s (fr (dx m) key)) [[]],.s (fr (dx m) key++dx m)]<|J ⟨I,⟨rfl,(by simp only[bsz,bsa,ByteArray.size_append,List.size_toArray,na];omega)⟩,I,⟨rfl,(by simp only[bsz,bsa,ByteArray.size_append,List.size_toArray,na];omega)⟩,Zak,I,⟨rfl,OM⟩,I,I⟩<|RT ?_
   exact vs (if_pos ⟨h,hk⟩).symm
  ·refine gc ?_
   conv=>whnf
   refine g 0 1 []<|J ⟨UH,I,I⟩<|W.sq<|g 6 9 [.call VT [[]],BF,BF,BF,BF]<|J Zca<|W.cn<|J (fun _=>(g 10 14 []<|J UA (RT ?_))) (noF tO)
   exact vs (if_neg (fun h=>hk h.2)).symm
 ·rw[show decide (bP m) = false from decide_eq_false h]at c1
  clear c2
  refine gc ?_
  conv=>whnf
  refine g 0 1 []<|J ⟨UH,I,I⟩<|W.sq<|g 6 9 [.call VF [[]],BT,BT,BT,BT]<|J ⟨I,Zcb,I,I,rfl,rfl,rfl,rfl,I⟩<|W.cn<|J (fun _=>(g 10 14 []<|J UA (RT ?_))) (noF rfl)
  exact vs (if_neg (fun x=>h x.1)).symm
def cF(r:ByteArray)(n:Nat):List ByteArray:=(List.range n).map fun k=>r.extract (8 * k) (8 * k+8)
def rdM(b:ByteArray):Message :=
 ⟨byt b 0,byt b 1,byt b 2,byt b 3 * 256+byt b 4,byt b 5 * 16777216+byt b 6 * 65536+byt b 7 * 256+byt b 8,byt b 9,if byt b 0 = 3 then b.extract 11 b.size else emp,if byt b 0 = 3 then []else cF (b.extract 11 b.size) ((b.size - 11) / 8)⟩
def eA(s key:ByteArray):Option Message:=if s.size < 19∨eD (rdM (s.extract 8 s.size)) key≠s then none else some (rdM (s.extract 8 s.size))
def gi:Option Message→V
 |none=>.tup [bE Om,.b false]
 |some m=>.tup [bE m,.b true]
theorem nS(r:ByteArray)(n:Nat):cF r (n+1) = cF r n++ [r.extract (8 * n) (8 * n+8)]:=by
 unfold cF;rw[List.range_succ,List.map_append];rfl
def rdF(b:ByteArray)(t:ByteArray)(l:List ByteArray):Message :=
 ⟨byt b 0,byt b 1,byt b 2,byt b 3 * 256+byt b 4,byt b 5 * 16777216+byt b 6 * 65536+byt b 7 * 256+byt b 8,byt b 9,t,l⟩
theorem nG{s key:ByteArray}(h:s.size < 19):eA s key = none:=if_pos (Or.inl h)
theorem Jp{s key:ByteArray}{m:Message}(h:rdM (s.extract 8 s.size) = m)(h2:¬eD m key = s):eA s key = none:=if_pos (Or.inr (by rw[h];exact h2))
theorem oG{s key:ByteArray}{m:Message}(h0:¬s.size < 19)(h:rdM (s.extract 8 s.size) = m)(h2:eD m key = s):eA s key = some m:=by
 unfold eA;rw[h,if_neg];rintro(h|h);exact h0 h;exact h h2
def bA(s:ByteArray):ByteArray:=(s.extract 8 s.size).extract 11 (s.extract 8 s.size).size
def jW(s:ByteArray)(n:Nat):ByteArray:=(bA s).extract (8 * n) (bA s).size
theorem KW(s:ByteArray):bA s = jW s 0:=by unfold jW;rw[Nat.mul_zero,ByteArray.extract_zero_size]
theorem KY{s:ByteArray}{n:Nat}(hz:(bA s).size = s.size - 19)(h:8 * n≤s.size - 19):(jW s n).size = s.size - 19 - 8 * n:=by
 unfold jW;rw[ByteArray.size_extract];omega
theorem KZ{s:ByteArray}{n:Nat}(h:8 * n+8≤(bA s).size):(jW s n).extract 0 8 = (bA s).extract (8 * n) (8 * n+8):=by
 unfold jW;rw[ByteArray.extract_extract,Nat.min_eq_left OM,Nat.add_zero]
theorem KX(s:ByteArray)(n:Nat)(h:8 * n+8≤(bA s).size):(jW s n).extract 8 (jW s n).size = jW s (n+1):=by
 have:(jW s n).size = (bA s).size - 8 * n:=by unfold jW;rw[ByteArray.size_extract];omega
 rw[this]
 unfold jW;rw[ByteArray.extract_extract,show 8 * n+8 = 8 * (n+1) by omega,show min (8 * n+ ((bA s).size - 8 * n)) (bA s).size = (bA s).size by omega]
theorem qT(r:ByteArray)(n:Nat):(cF r n).length = n:=by unfold cF;rw[List.length_map,List.length_range]
theorem IA{s:ByteArray}{n:Nat}(h:8 * n+8≤(bA s).size):(cF (bA s) n).map aj++ [aj ((jW s n).extract 0 8)] = (cF (bA s) (n+1)).map aj:=by
 rw[nS,List.map_append,KZ h];rfl
theorem jt(tx key:ByteArray)(ht:tx.size≤68719476736):F pG [.val (.s tx),.val (.s key)] (gi (eA tx key)) [[],[]]:=by
 by_cases h0:tx.size < 19
 ·refine gb ?_
  conv=>whnf
  refine g 0 0 []<|J UB<|W.sq<|g 9 11 []<|J UC<|W.cn<|J (fun _=>(g 11 13 []<|J Zef (RT ?_))) (noF tO)
  exact congrArg gi (nG h0).symm
 have hx:(tx.extract 8 tx.size).size = tx.size - 8:=by rw[ByteArray.size_extract];omega
 obtain⟨y1,hy1,hb1⟩:=bB (s:=tx.extract 8 tx.size) (n:=0) OM
 obtain⟨y2,hy2,hb2⟩:=bB (s:=tx.extract 8 tx.size) (n:=1) OM
 obtain⟨y3,hy3,hb3⟩:=bB (s:=tx.extract 8 tx.size) (n:=2) OM
 obtain⟨y4,hy4,hb4⟩:=bB (s:=tx.extract 8 tx.size) (n:=3) OM
 obtain⟨y5,hy5,hb5⟩:=bB (s:=tx.extract 8 tx.size) (n:=4) OM
 obtain⟨y6,hy6,hb6⟩:=bB (s:=tx.extract 8 tx.size) (n:=5) OM
 obtain⟨y7,hy7,hb7⟩:=bB (s:=tx.extract 8 tx.size) (n:=6) OM
 obtain⟨y8,hy8,hb8⟩:=bB (s:=tx.extract 8 tx.size) (n:=7) OM
 obtain⟨y9,hy9,hb9⟩:=bB (s:=tx.extract 8 tx.size) (n:=8) OM
 obtain⟨y10,hy10,hb10⟩:=bB (s:=tx.extract 8 tx.size) (n:=9) OM
 have e:∀ t l,rdF (tx.extract 8 tx.size) t l = ⟨y1.toNat,y2.toNat,y3.toNat,(y4.toNat:Int) * 256+y5.toNat,(y6.toNat:Int) * 16777216+ (y7.toNat:Int) * 65536+ (y8.toNat:Int) * 256+y9.toNat,y10.toNat,t,l⟩:=by
  intro t l;simp only[rdF,bI hy1,bI hy2,bI hy3,bI hy4,bI hy5,bI hy6,bI hy7,bI hy8,bI hy9,bI hy10]
 by_cases h3:(y1.toNat:Int) = 3
 ·have e1:rdM (tx.extract 8 tx.size) = ⟨y1.toNat,y2.toNat,y3.toNat,(y4.toNat:Int) * 256+y5.toNat,(y6.toNat:Int) * 16777216+ (y7.toNat:Int) * 65536+ (y8.toNat:Int) * 256+y9.toNat,y10.toNat,(tx.extract 8 tx.size).extract 11 (tx.extract 8 tx.size).size,[]⟩:=by
   rw[←e];unfold rdM rdF;rw[bI hy1,if_pos h3,if_pos h3]
  have c1:=gg (rdM (tx.extract 8 tx.size)) key (by rw[e1];simp)
  rw[e1]at c1
  refine gb ?_
  conv=>whnf
  refine g 0 0 []<|J UB<|W.sq<|g 9 11 []<|J UC<|W.cn<|J (noT dO) fun _=>W.skip<|g 11 15 [.n (8),.s (ByteArray.extract tx 8 (ByteArray.size tx))]<|J Zco<|gd 15 36 [[],[.i ((↑(UInt8.toNat y1):Int))],[.i ((↑(UInt8.toNat y1):Int))],[],[.i ((↑(UInt8.toNat y2):Int))],[.i ((↑(UInt8.toNat y2):Int))],[],[.i ((↑(UInt8.toNat y3):Int))],[.i ((↑(UInt8.toNat y3):Int))],[],[.i ((↑(UInt8.toNat y4):Int))],[.i ((↑(UInt8.toNat y4):Int))],[.i ((↑(UInt8.toNat y4):Int) * 256)],[],[.i ((↑(UInt8.toNat y5):Int))],[.i ((↑(UInt8.toNat y5):Int))],[.i ((↑(UInt8.toNat y4):Int) * 256+ (↑(UInt8.toNat y5):Int))],[],[.i ((↑(UInt8.toNat y10):Int))],[.i ((↑(UInt8.toNat y10):Int))],[],[],[]] ?_
  conv=>whnf
  refine J ⟨I,⟨OM,ixb hy1⟩,w8 _,I,⟨OM,ixb hy2⟩,w8 _,I,⟨OM,ixb hy3⟩,w8 _,I,⟨OM,ixb hy4⟩,w8 _,wO,I,⟨OM,ixb hy5⟩,w8 _,wO,I,⟨OM,ixb hy10⟩,w8 _,I,I,UH,I⟩<|J KR<|gd 36 55 [[],[.i ((↑(UInt8.toNat y6):Int))],[.i ((↑(UInt8.toNat y6):Int))],[.i ((↑(UInt8.toNat y6):Int) * 16777216)],[],[.i ((↑(UInt8.toNat y7):Int))],[.i ((↑(UInt8.toNat y7):Int))],[.i ((↑(UInt8.toNat y7):Int) * 65536)],[.i ((↑(UInt8.toNat y6):Int) * 16777216+ (↑(UInt8.toNat y7):Int) * 65536)],[],[.i ((↑(UInt8.toNat y8):Int))],[.i ((↑(UInt8.toNat y8):Int))],[.i ((↑(UInt8.toNat y8):Int) * 256)],[.i ((↑(UInt8.toNat y6):Int) * 16777216+ (↑(UInt8.toNat y7):Int) * 65536+ (↑(UInt8.toNat y8):Int) * 256)],[],[.i ((↑(UInt8.toNat y9):Int))],[.i ((↑(UInt8.toNat y9):Int))],[.i ((↑(UInt8.toNat y6):Int) * 16777216+ (↑(UInt8.toNat y7):Int) * 65536+ (↑(UInt8.toNat y8):Int) * 256+ (↑(UInt8.toNat y9):Int))],[],[]] ?_
  conv=>whnf
  refine J ⟨I,⟨OM,ixb hy6⟩,w8 _,wO,I,⟨OM,ixb hy7⟩,w8 _,wO,wO,I,⟨OM,ixb hy8⟩,w8 _,wO,wO,I,⟨OM,ixb hy9⟩,w8 _,wO,I,UA,I⟩<|J KR<|g 55 57 [.n (11),.s (ByteArray.extract (ByteArray.extract tx 8 (ByteArray.size tx)) 11 (ByteArray.size (ByteArray.extract tx 8 (ByteArray.size tx))))]<|J Zco<|W.sq<|g 57 59 []<|J UC<|W.cn<|J (fun _=>(rg []<|J Zek (W.sq (g 8 78 [.call (V.s (eD {kind:=(↑(UInt8.toNat y1):Int),frm:=(↑(UInt8.toNat y2):Int),to:=(↑(UInt8.toNat y3):Int),epoch:=(↑(UInt8.toNat y4):Int) * 256+ (↑(UInt8.toNat y5):Int),lease:=(↑(UInt8.toNat y6):Int) * 16777216+ (↑(UInt8.toNat y7):Int) * 65536+ (↑(UInt8.toNat y8):Int) * 256+ (↑(UInt8.toNat y9):Int),task:=(↑(UInt8.toNat y10):Int),text:=ByteArray.extract (ByteArray.extract tx 8 (ByteArray.size tx)) 11 (ByteArray.size (ByteArray.extract tx 8 (ByteArray.size tx))),inputs:=[]:Message} key)) [[],[]]]<|J ⟨I,I,Zc7,I,I,I⟩ (W.cn<|J (fun h1=>?_) fun h1=>?_))))) (noF tO)
  replace h1:=ndt h1
  refine g 0 2 []<|J Zef<|RT ?_
  rotate_left
  replace h1:=ndf h1
  refine W.skip<|g 6 81 []<|J Zef<|RT ?_
  rotate_left
  ·exact congrArg gi (Jp e1 AS).symm
  ·exact congrArg gi (oG h0 e1 AS).symm
 ·have e1:∀ n,n = (tx.size - 19) / 8→rdM (tx.extract 8 tx.size) = ⟨y1.toNat,y2.toNat,y3.toNat,(y4.toNat:Int) * 256+y5.toNat,(y6.toNat:Int) * 16777216+ (y7.toNat:Int) * 65536+ (y8.toNat:Int) * 256+y9.toNat,y10.toNat,emp,cF (bA tx) n⟩:=by
   intro n hn;rw[←e];unfold rdM rdF;rw[bI hy1,if_neg h3,if_neg h3,hn,hx,bA,hx,show tx.size - 8 - 11 = tx.size - 19 by omega]
  have hz:(bA tx).size = tx.size - 19:=by unfold bA;rw[ByteArray.size_extract,hx];omega
  refine gb ?_
  conv=>whnf
  refine g 0 0 []<|J UB<|W.sq<|g 9 11 []<|J UC<|W.cn<|J (noT dO) fun _=>W.skip<|g 11 15 [.n (8),.s (ByteArray.extract tx 8 (ByteArray.size tx))]<|J Zco<|gd 15 36 [[],[.i ((↑(UInt8.toNat y1):Int))],[.i ((↑(UInt8.toNat y1):Int))],[],[.i ((↑(UInt8.toNat y2):Int))],[.i ((↑(UInt8.toNat y2):Int))],[],[.i ((↑(UInt8.toNat y3):Int))],[.i ((↑(UInt8.toNat y3):Int))],[],[.i ((↑(UInt8.toNat y4):Int))],[.i ((↑(UInt8.toNat y4):Int))],[.i ((↑(UInt8.toNat y4):Int) * 256)],[],[.i ((↑(UInt8.toNat y5):Int))],[.i ((↑(UInt8.toNat y5):Int))],[.i ((↑(UInt8.toNat y4):Int) * 256+ (↑(UInt8.toNat y5):Int))],[],[.i ((↑(UInt8.toNat y10):Int))],[.i ((↑(UInt8.toNat y10):Int))],[],[],[]] ?_
  conv=>whnf
  refine J ⟨I,⟨OM,ixb hy1⟩,w8 _,I,⟨OM,ixb hy2⟩,w8 _,I,⟨OM,ixb hy3⟩,w8 _,I,⟨OM,ixb hy4⟩,w8 _,wO,I,⟨OM,ixb hy5⟩,w8 _,wO,I,⟨OM,ixb hy10⟩,w8 _,I,I,UH,I⟩<|J KR<|gd 36 55 [[],[.i ((↑(UInt8.toNat y6):Int))],[.i ((↑(UInt8.toNat y6):Int))],[.i ((↑(UInt8.toNat y6):Int) * 16777216)],[],[.i ((↑(UInt8.toNat y7):Int))],[.i ((↑(UInt8.toNat y7):Int))],[.i ((↑(UInt8.toNat y7):Int) * 65536)],[.i ((↑(UInt8.toNat y6):Int) * 16777216+ (↑(UInt8.toNat y7):Int) * 65536)],[],[.i ((↑(UInt8.toNat y8):Int))],[.i ((↑(UInt8.toNat y8):Int))],[.i ((↑(UInt8.toNat y8):Int) * 256)],[.i ((↑(UInt8.toNat y6):Int) * 16777216+ (↑(UInt8.toNat y7):Int) * 65536+ (↑(UInt8.toNat y8):Int) * 256)],[],[.i ((↑(UInt8.toNat y9):Int))],[.i ((↑(UInt8.toNat y9):Int))],[.i ((↑(UInt8.toNat y6):Int) * 16777216+ (↑(UInt8.toNat y7):Int) * 65536+ (↑(UInt8.toNat y8):Int) * 256+ (↑(UInt8.toNat y9):Int))],[],[]] ?_
  conv=>whnf
  refine J ⟨I,⟨OM,ixb hy6⟩,w8 _,wO,I,⟨OM,ixb hy7⟩,w8 _,wO,wO,I,⟨OM,ixb hy8⟩,w8 _,wO,wO,I,⟨OM,ixb hy9⟩,w8 _,wO,I,UA,I⟩<|J KR<|g 55 57 [.n (11),.s (ByteArray.extract (ByteArray.extract tx 8 (ByteArray.size tx)) 11 (ByteArray.size (ByteArray.extract tx 8 (ByteArray.size tx))))]<|J Zco<|W.sq<|g 57 59 []<|J UC<|W.cn<|J (noT dO) fun _=>W.blk<|W.lp (fun s (n:Nat)=>⟨[(0,s.s 0),(1,s.s 1),(4,s.s 4),(5,s.s 5),(7,s.s 7),(8,.s (jW tx n))],[(4,[s.c 4 0,s.c 4 1,s.c 4 2,s.c 4 3,s.c 4 4,s.c 4 5,s.c 4 6,s.c 4 7]),(7,[.t (.i y1.toNat),.t (.i y2.toNat),.t (.i y3.toNat),.t (.i ((y4.toNat:Int) * 256+y5.toNat)),.t (.i ((y6.toNat:Int) * 16777216+ (y7.toNat:Int) * 65536+ (y8.toNat:Int) * 256+y9.toNat)),.t (.i y10.toNat),.t (.s emp),.own [false] ((cF (bA tx) n).map aj)])],[]⟩) (fun(n:Nat)=>8 * n≤tx.size - 19) (fun(n:Nat)=>tx.size - 8 * n) (0) [some 4,some 7] [] ⟨rfl,⟨rfl,rfl,rfl,rfl,rfl,(congrArg (fun z=>V.t (T.v (Value.string z))) (KW tx)),I⟩,⟨Zab,⟨Zab,I⟩⟩,I⟩ OM ?_
  intro n hn
  have hs:=KY (s:=tx) (n:=n) hz hn
  have c1:=fun n=>gg ⟨y1.toNat,y2.toNat,y3.toNat,(y4.toNat:Int) * 256+y5.toNat,(y6.toNat:Int) * 16777216+ (y7.toNat:Int) * 65536+ (y8.toNat:Int) * 256+y9.toNat,y10.toNat,emp,cF (bA tx) n⟩ key
  have c2:=c1 n (by simp only[cF,List.length_map,List.length_range];omega)
  clear c1
  have hcl:=qT (bA tx) n
  conv=>whnf
  refine W.sq<|g 62 64 []<|J UC<|W.cn<|J (fun h1=>?_) fun h1=>?_
  replace h1:=dt h1
  refine W.skip<|W.blk<|gd 64 72 [[],[],[],[.n (8),.s (ByteArray.extract (jW tx n) 0 8)],[],[],[],[]] ?_
  conv=>whnf
  refine J ⟨I,I,I,⟨rfl,I,OM,OM,rfl⟩,US,Zdm,I,UA,I⟩<|J KR<|rg [.n (8),.s (ByteArray.extract (jW tx n) 8 (ByteArray.size (jW tx n)))]<|J Zco ?_
  rotate_left
  replace h1:=df h1
  refine W.exit<|W.sq<|g 8 78 [.call (V.s (eD {kind:=(↑(UInt8.toNat y1):Int),frm:=(↑(UInt8.toNat y2):Int),to:=(↑(UInt8.toNat y3):Int),epoch:=(↑(UInt8.toNat y4):Int) * 256+ (↑(UInt8.toNat y5):Int),lease:=(↑(UInt8.toNat y6):Int) * 16777216+ (↑(UInt8.toNat y7):Int) * 65536+ (↑(UInt8.toNat y8):Int) * 256+ (↑(UInt8.toNat y9):Int),task:=(↑(UInt8.toNat y10):Int),text:=emp,inputs:=cF (bA tx) n:Message} key)) [[],[]]]<|J ⟨I,I,Zc7,I,I,I⟩<|W.cn<|J (fun h2=>?_) fun h2=>?_
  replace h2:=ndt h2
  refine g 0 2 []<|J Zef<|RT ?_
  rotate_left
  replace h2:=ndf h2
  refine W.skip<|g 7 81 []<|J Zef<|RT ?_
  rotate_left
  ·refine⟨n+1,[some 4,some 7],[],⟨rfl,⟨rfl,rfl,rfl,rfl,rfl,(congrArg (fun z=>V.t (T.v (Value.string z))) (KX tx n OM)),I⟩,⟨Zab,⟨⟨rfl,⟨rfl,⟨rfl,⟨rfl,⟨rfl,⟨rfl,⟨rfl,⟨rfl,⟨(congrArg (V.own _) (IA OM)),I⟩⟩⟩⟩⟩⟩⟩⟩⟩,I⟩⟩,I⟩,?_,?_⟩
   rotate_left
   (dsimp only;omega)
   dsimp only
   omega
  ·exact congrArg gi (Jp (e1 n OM) AS).symm
  ·exact congrArg gi (oG h0 (e1 n OM) AS).symm
end Go.K
end
section
open Go Go.Tm Go.Proofs
namespace Go.K
attribute [local irreducible] ByteArray.extract
theorem Bk(a i y:Nat)(hy:y < 2 ^ i)(h:a * 2 ^ i+y < 9223372036854775808):GL ((a * 2 ^ i:Nat):Int) (y:Int) = ((a * 2 ^ i+y:Nat):Int):=by
 unfold GL
 have e:((BitVec.ofInt IntKind.i64.bits ((a * 2 ^ i:Nat):Int))|||BitVec.ofInt IntKind.i64.bits (y:Int)).toNat = a * 2 ^ i+y:=by
  rw[BitVec.ofInt_natCast,BitVec.ofInt_natCast]
  have hb64:IntKind.i64.bits = 64:=rfl
  rw[BitVec.toNat_or,BitVec.toNat_ofNat,BitVec.toNat_ofNat,hb64,Nat.mod_eq_of_lt OM,Nat.mod_eq_of_lt OM]
  have:=Nat.two_pow_add_eq_or_of_lt (i:=i) (b:=y) hy a
  rw[Nat.mul_comm]at this
  exact this.symm
 rw[e]
 rw[wO]
theorem Q0(a b:Nat)(ha:a < 256)(hb:b < 256):GL (IntKind.i64.wrap ((a:Int) * 256)) b = (a:Int) * 256+b:=Jw a b ha hb
theorem QZ(a b c d:Nat)(ha:a < 256)(hb:b < 256)(hc:c < 256)(hd:d < 256):GL (GL (GL (IntKind.i64.wrap ((a:Int) * 16777216)) (IntKind.i64.wrap ((b:Int) * 65536))) (IntKind.i64.wrap ((c:Int) * 256))) d = (a:Int) * 16777216+ (b:Int) * 65536+ (c:Int) * 256+d:=by
 rw[wO,wO,wO]
 have f1:((a * 16777216:Nat):Int) = (a:Int) * 16777216:=by rw[Int.natCast_mul];rfl
 have f2:((b * 65536:Nat):Int) = (b:Int) * 65536:=by rw[Int.natCast_mul];rfl
 have f3:a * 16777216+b * 65536 = (a * 256+b) * 65536:=by rw[Nat.add_mul,Nat.mul_assoc]
 have f4:((c * 256:Nat):Int) = (c:Int) * 256:=by rw[Int.natCast_mul];rfl
 have f5:(a * 256+b) * 65536+c * 256 = ((a * 256+b) * 256+c) * 256:=by rw[Nat.add_mul ((a * 256+b) * 256) c 256,Nat.mul_assoc (a * 256+b) 256 256]
 have f6:((((a * 256+b) * 256+c) * 256+d:Nat):Int) = (a:Int) * 16777216+ (b:Int) * 65536+ (c:Int) * 256+d:=by omega
 have e1:=Bk a 24 (b * 65536) OM OM
 have e2:=Bk (a * 256+b) 16 (c * 256) OM (by clear e1;omega)
 have e3:=Bk ((a * 256+b) * 256+c) 8 d (by clear e1 e2;omega) (by clear e1 e2;omega)
 simp only[Nat.reducePow]at e1 e2 e3
 rw[f1,f2]at e1
 rw[e1]
 rw[f4]at e2
 rw[f3,e2]
 rw[f5,e3,f6]
theorem mn{m:Message}{s key:ByteArray}(h:¬s.size < 19):eD m key = s↔bP m∧key.size≤30∧dx m = s.extract 8 s.size∧s.extract 0 8 = fr (s.extract 8 s.size) key:=by
 unfold eD
 constructor
 ·intro e
  by_cases hc:bP m∧key.size≤30
  ·rw[if_pos hc]at e
   have h8:(fr (dx m) key).size = 8:=fg _
   have hb:s.extract 8 s.size = dx m:=by
    rw[←e,ByteArray.size_append,h8,ByteArray.extract_append_eq_right h8.symm OM]
   have hs:s.extract 0 8 = fr (dx m) key:=by
    rw[←e,ByteArray.extract_append_eq_left h8.symm]
   exact⟨hc.1,hc.2,hb.symm,by rw[hs,hb]⟩
  ·rw[if_neg hc]at e
   rw[←e]at h
   exact absurd (show emp.size < 19 by decide) h
 ·rintro⟨h1,h2,h3,h4⟩
  rw[if_pos ⟨h1,h2⟩,h3,←h4,ByteArray.extract_append_extract,Nat.min_eq_left OM,Nat.max_eq_right OM,ByteArray.extract_zero_size]
theorem wd(r:ByteArray):∀ n,8 * n≤r.size→iX (cF r n) = r.extract 0 (8 * n)
 |0,_=>by
  have:(r.extract 0 (8 * 0)).size = 0:=by rw[ByteArray.size_extract];omega
  rw[show cF r 0 = []from rfl,iX];exact(ByteArray.size_eq_zero_iff.1 this).symm
 |n+1,h=>by
  rw[nS,Bw,wd r n OM,iX,iX,Ht,ByteArray.extract_append_extract,Nat.min_eq_left OM,Nat.max_eq_right OM]
  rfl
theorem U4(s:ByteArray)(h:11≤s.size):bl [byt s 0,byt s 1,byt s 2,byt s 3,byt s 4,byt s 5,byt s 6,byt s 7,byt s 8,byt s 9,byt s 10] ++s.extract 11 s.size = s:=by
 obtain⟨⟨l⟩⟩:=s
 match l,h with
 |a :: b :: c :: d :: e :: f :: g :: i :: j :: k :: q :: r,_ =>
  rw[uZ (c:=a) rfl,uZ (c:=b) rfl,uZ (c:=c) rfl,uZ (c:=d) rfl,uZ (c:=e) rfl,uZ (c:=f) rfl,uZ (c:=g) rfl,uZ (c:=i) rfl,uZ (c:=j) rfl,uZ (c:=k) rfl,uZ (c:=q) rfl]
  apply ByteArray.ext
  rw[ByteArray.data_append,ByteArray.data_extract]
  apply Array.ext'
  simp[bl,ByteArray.size]
theorem Xc{a0 a1 a2 a3 a4 a5 a6 a7 a8 a9 a10:Int}{r:ByteArray}(h:0≤a10∧a10≤255):byt (bl [a0,a1,a2,a3,a4,a5,a6,a7,a8,a9,a10] ++r) 10 = a10:=by
 obtain⟨⟨l⟩⟩:=r
 have e:bl [a0,a1,a2,a3,a4,a5,a6,a7,a8,a9,a10] ++ ⟨⟨l⟩⟩ = ⟨⟨(bl [a0,a1,a2,a3,a4,a5,a6,a7,a8,a9,a10]).data.toList++l⟩⟩:=by
  apply ByteArray.ext
  rw[ByteArray.data_append]
  apply Array.ext'
  simp
 rw[e,uZ (c:=UInt8.ofNat a10.toNat) rfl]
 simp;omega
theorem oY(b:ByteArray):(rdM b).inputs.length = if byt b 0 = 3 then 0 else(b.size - 11) / 8:=by
 unfold rdM;dsimp only;split <;> simp[cF]
theorem RB{b:ByteArray}(h:11≤b.size)(hok:bP (rdM b)):dx (rdM b) = b↔byt b 10 = (rdM b).inputs.length∧(byt b 0≠3→b.size - 11 = 8 * ((b.size - 11) / 8)):=by
 have hx:(b.extract 11 b.size).size = b.size - 11:=by rw[ByteArray.size_extract];omega
 have hh:AB (rdM b) = [byt b 0,byt b 1,byt b 2,byt b 3,byt b 4,byt b 5,byt b 6,byt b 7,byt b 8,byt b 9,((rdM b).inputs.length:Int)]:=by
  obtain⟨a3,e3,l3⟩:=ef b 3
  obtain⟨a4,e4,l4⟩:=ef b 4
  obtain⟨a5,e5,l5⟩:=ef b 5
  obtain⟨a6,e6,l6⟩:=ef b 6
  obtain⟨a7,e7,l7⟩:=ef b 7
  obtain⟨a8,e8,l8⟩:=ef b 8
  have f1:(rdM b).epoch = byt b 3 * 256+byt b 4:=rfl
  have f2:(rdM b).lease = byt b 5 * 16777216+byt b 6 * 65536+byt b 7 * 256+byt b 8:=rfl
  unfold AB
  rw[f1,f2,show(rdM b).kind = byt b 0 from rfl,show(rdM b).frm = byt b 1 from rfl,show(rdM b).to = byt b 2 from rfl,show(rdM b).task = byt b 9 from rfl]
  rw[e3,e4,e5,e6,e7,e8]
  congr 3
  congr 1;omega
  congr 1;omega
  congr 1;omega
  congr 1;omega
  congr 1;omega
  congr 1;omega
 have hsp:=U4 b h
 have htl:byt b 0 = 3∨b.size - 11 = 8 * ((b.size - 11) / 8)→(rdM b).text++iX (rdM b).inputs = b.extract 11 b.size:=by
  intro h3
  unfold rdM;dsimp only
  by_cases hk:byt b 0 = 3
  ·rw[if_pos hk,if_pos hk,iX,Ht]
  ·have h3:=h3.resolve_left hk
   rw[if_neg hk,if_neg hk,LD,wd _ _ OM,←h3,←hx,ByteArray.extract_zero_size]
 have hbody:dx (rdM b) = bl (AB (rdM b)) ++ ((rdM b).text++iX (rdM b).inputs):=by unfold dx;rw[ByteArray.append_assoc]
 constructor
 ·intro e
  have hn:(rdM b).inputs.length≤8:=(dl hok).1
  constructor
  ·have h1:=congrArg (fun x=>byt x 10) e
   rw[←h1,hbody,hh]
   exact Xc OM
  ·intro hk
   have h2:=congrArg ByteArray.size e
   rw[gv hok,oY,if_neg hk]at h2
   have ht:(rdM b).text = emp:=if_neg hk
   rw[ht]at h2
   have h0:emp.size = 0:=rfl
   omega
 ·rintro⟨h1,h2⟩
  rw[hbody,htl (by by_cases hk:byt b 0 = 3;exact Or.inl hk;exact Or.inr (h2 hk)),hh,←h1]
  exact hsp
end Go.K
end
section
open Go Go.Tm Go.Proofs
namespace Go.K
attribute [local irreducible] ByteArray.extract
def gP(q:ByteArray)(n:Nat):ByteArray:=q.extract (8 * n) q.size
theorem zZ(q:ByteArray):q = gP q 0:=by unfold gP;rw[Nat.mul_zero,ByteArray.extract_zero_size]
theorem jX(q:ByteArray)(n:Nat):(gP q n).size = q.size - 8 * n:=by unfold gP;rw[ByteArray.size_extract];omega
theorem K0{q:ByteArray}{n:Nat}(h:8 * n+8≤q.size):(gP q n).extract 0 8 = q.extract (8 * n) (8 * n+8):=by
 unfold gP;rw[ByteArray.extract_extract,Nat.min_eq_left OM,Nat.add_zero]
theorem Aa(q:ByteArray)(n:Nat)(h:8 * n+8≤q.size):(gP q n).extract 8 (gP q n).size = gP q (n+1):=by
 rw[jX]
 unfold gP;rw[ByteArray.extract_extract,show 8 * n+8 = 8 * (n+1) by omega,show min (8 * n+ (q.size - 8 * n)) q.size = q.size by omega]
theorem Tn{q:ByteArray}{n:Nat}(h:8 * n+8≤q.size):(cF q n).map aj++ [aj ((gP q n).extract 0 8)] = (cF q (n+1)).map aj:=by
 rw[nS,List.map_append,K0 h];rfl
theorem EB{q:ByteArray}{n:Nat}(h:¬8 * n < q.size):gP q n = ⟨#[]⟩:=ByteArray.size_eq_zero_iff.1 (by rw[jX];omega)
theorem Ab{q:ByteArray}{n:Nat}(h:8 * n < q.size):¬gP q n = ⟨#[]⟩:=by
 intro e
 have:=congrArg ByteArray.size e
 rw[jX]at this
 have h0:(ByteArray.mk #[]).size = 0:=rfl
 omega
def fV(tx:ByteArray):ByteArray:=(bA tx).extract 8 (bA tx).size
theorem lL{tx key:ByteArray}(h0:¬tx.size < 19)(h:¬(bP (rdM (tx.extract 8 tx.size))∧dx (rdM (tx.extract 8 tx.size)) = tx.extract 8 tx.size)):eA tx key = none :=
 if_pos (Or.inr (fun e=>h ⟨((mn h0).1 e).1,((mn h0).1 e).2.2.1⟩))
theorem Ag{tx key:ByteArray}{m:Message}(h0:¬tx.size < 19)(hk:key.size≤30)(hs:tx.extract 0 8 = fr (tx.extract 8 tx.size) key)(e:rdM (tx.extract 8 tx.size) = m)(h1:bP m)(h2:dx (rdM (tx.extract 8 tx.size)) = tx.extract 8 tx.size):eA tx key = some m :=
 oG h0 e ((mn h0).2 ⟨h1,hk,e ▸ h2,hs⟩)
theorem qh(tx key:ByteArray)(ht:tx.size≤68719476736):F pS [.val (.s tx),.val (.s key)] (gi (eA tx key)) [[],[]]:=by
 by_cases h0:tx.size < 19
 ·by_cases hk:key.size≤30
  ·refine dc ?_
   conv=>whnf
   refine g 0 0 []<|J UB<|W.sq<|gd 9 25 [[],[],[],[],[BF],[BF],[BF],[BF],[],[BT],[BT],[BT],[BT],[BT],[BT],[BT],[BT]] ?_
   conv=>whnf
   refine J ⟨I,I,I,I,⟨dO,I⟩,⟨dO,I⟩,⟨dO,I⟩,dO,I,tO,tO,tO,tO,tO,tO,tO,tO,I⟩<|J KR<|W.cn<|J (fun _=>(g 25 27 []<|J Zef (RT ?_))) (noF rfl)
   exact congrArg gi (nG h0).symm
  ·refine dc ?_
   conv=>whnf
   refine g 0 0 []<|J UB<|W.sq<|gd 9 25 [[],[],[],[],[BT],[BT],[BT],[BT],[],[BT],[BT],[BT],[BT],[BT],[BT],[BT],[BT]] ?_
   conv=>whnf
   refine J ⟨I,I,I,I,tO,tO,tO,tO,I,rfl,rfl,rfl,rfl,rfl,rfl,rfl,rfl,I⟩<|J KR<|W.cn<|J (fun _=>(g 25 27 []<|J Zef (RT ?_))) (noF rfl)
   exact congrArg gi (nG h0).symm
 by_cases hk:¬key.size≤30
 ·have e:eA tx key = none:=if_pos (Or.inr (fun h=>hk ((mn h0).1 h).2.1))
  refine dc ?_
  conv=>whnf
  refine g 0 0 []<|J UB<|W.sq<|gd 9 25 [[],[],[],[],[BT],[BT],[BT],[BT],[],[BT],[BT],[BT],[BT],[BT],[BT],[BT],[BT]] ?_
  conv=>whnf
  refine J ⟨I,I,I,I,tO,tO,tO,tO,I,rfl,rfl,rfl,rfl,rfl,rfl,rfl,rfl,I⟩<|J KR<|W.cn<|J (fun _=>(g 25 27 []<|J Zef (RT ?_))) (noF rfl)
  exact congrArg gi e.symm
 have hx:(tx.extract 8 tx.size).size = tx.size - 8:=by rw[ByteArray.size_extract];omega
 have c1:=nU (tx.extract 8 tx.size) key OM OM
 by_cases hs:¬tx.extract 0 8 = fr (tx.extract 8 tx.size) key
 ·have e:eA tx key = none:=if_pos (Or.inr (fun h=>hs ((mn h0).1 h).2.2.2))
  refine dc ?_
  conv=>whnf
  refine g 0 0 []<|J UB<|W.sq<|gd 9 25 [[],[],[],[],[BF],[BF],[BF],[BF],[],[BF],[BF,.n (8),.s (ByteArray.extract tx 0 8)],[BF],[BF,.n (8),.s (ByteArray.extract tx 8 (ByteArray.size tx))],[BF],[BF,.call (V.s (fr (ByteArray.extract tx 8 (ByteArray.size tx)) key)) [[],[]]],[BF],[BF]] ?_
  conv=>whnf
  refine J Zbl<|J KR<|W.cn<|J (fun _=>(g 25 27 []<|J Zef (RT ?_))) (noF (ag OM))
  exact congrArg gi e.symm
 obtain⟨y1,hy1,hb1⟩:=bB (s:=tx.extract 8 tx.size) (n:=0) OM
 obtain⟨y2,hy2,hb2⟩:=bB (s:=tx.extract 8 tx.size) (n:=1) OM
 obtain⟨y3,hy3,hb3⟩:=bB (s:=tx.extract 8 tx.size) (n:=2) OM
 obtain⟨y4,hy4,hb4⟩:=bB (s:=tx.extract 8 tx.size) (n:=3) OM
 obtain⟨y5,hy5,hb5⟩:=bB (s:=tx.extract 8 tx.size) (n:=4) OM
 obtain⟨y6,hy6,hb6⟩:=bB (s:=tx.extract 8 tx.size) (n:=5) OM
 obtain⟨y7,hy7,hb7⟩:=bB (s:=tx.extract 8 tx.size) (n:=6) OM
 obtain⟨y8,hy8,hb8⟩:=bB (s:=tx.extract 8 tx.size) (n:=7) OM
 obtain⟨y9,hy9,hb9⟩:=bB (s:=tx.extract 8 tx.size) (n:=8) OM
 obtain⟨y10,hy10,hb10⟩:=bB (s:=tx.extract 8 tx.size) (n:=9) OM
 obtain⟨y11,hy11,hb11⟩:=bB (s:=tx.extract 8 tx.size) (n:=10) OM
 have f1:=Q0 y4.toNat y5.toNat hb4 hb5
 have f2:=QZ y6.toNat y7.toNat y8.toNat y9.toNat hb6 hb7 hb8 hb9
 have hz:(bA tx).size = tx.size - 19:=by unfold bA;rw[ByteArray.size_extract,hx];omega
 have e:∀ t l,rdF (tx.extract 8 tx.size) t l = ⟨y1.toNat,y2.toNat,y3.toNat,(y4.toNat:Int) * 256+y5.toNat,(y6.toNat:Int) * 16777216+ (y7.toNat:Int) * 65536+ (y8.toNat:Int) * 256+y9.toNat,y10.toNat,t,l⟩:=by
  intro t l;simp only[rdF,bI hy1,bI hy2,bI hy3,bI hy4,bI hy5,bI hy6,bI hy7,bI hy8,bI hy9,bI hy10]
 have hb:=bI hy11
 have hbi:=@RB (tx.extract 8 tx.size) OM
 rw[hb,oY,bI hy1,hx]at hbi
 by_cases h3:(y1.toNat:Int) = 3
 ·have e1:rdM (tx.extract 8 tx.size) = ⟨y1.toNat,y2.toNat,y3.toNat,(y4.toNat:Int) * 256+y5.toNat,(y6.toNat:Int) * 16777216+ (y7.toNat:Int) * 65536+ (y8.toNat:Int) * 256+y9.toNat,y10.toNat,bA tx,[]⟩:=by
   rw[←e];unfold rdM rdF;rw[bI hy1,if_pos h3,if_pos h3];rfl
  rw[if_pos h3]at hbi
  have ho:bP (rdM (tx.extract 8 tx.size))→(bA tx).size = 8:=by
   rw[e1];unfold bP;dsimp only;omega
  have hq:8≤(bA tx).size→(fV tx).size = (bA tx).size - 8:=by intro h;unfold fV;rw[ByteArray.size_extract];omega
  refine dc ?_
  conv=>whnf
  refine g 0 0 []<|J UB<|W.sq<|gd 9 25 [[],[],[],[],[BF],[BF],[BF],[BF],[],[BF],[BF,.n (8),.s (ByteArray.extract tx 0 8)],[BF],[BF,.n (8),.s (ByteArray.extract tx 8 (ByteArray.size tx))],[BF],[BF,.call (V.s (fr (ByteArray.extract tx 8 (ByteArray.size tx)) key)) [[],[]]],[BF],[BF]] ?_
  conv=>whnf
  refine J Zbl<|J KR<|W.cn<|J (noT (by simp_all)) fun _=>W.skip<|g 25 29 [.n (8),.s (ByteArray.extract tx 8 (ByteArray.size tx))]<|J Zco<|gd 29 68 [[],[.i ((↑(UInt8.toNat y1):Int))],[.i ((↑(UInt8.toNat y1):Int))],[],[.i ((↑(UInt8.toNat y2):Int))],[.i ((↑(UInt8.toNat y2):Int))],[],[.i ((↑(UInt8.toNat y3):Int))],[.i ((↑(UInt8.toNat y3):Int))],[],[.i ((↑(UInt8.toNat y4):Int))],[.i ((↑(UInt8.toNat y4):Int))],[.i (IntKind.wrap IntKind.i64 ((↑(UInt8.toNat y4):Int) * 2 ^ min (Int.toNat 8) (IntKind.bits IntKind.i64)))],[],[.i ((↑(UInt8.toNat y5):Int))],[.i ((↑(UInt8.toNat y5):Int))],[.i (IntKind.wrap IntKind.i64 (↑(BitVec.toNat (BitVec.ofInt (IntKind.bits IntKind.i64) (IntKind.wrap IntKind.i64 ((↑(UInt8.toNat y4):Int) * 2 ^ min (Int.toNat 8) (IntKind.bits IntKind.i64)))|||BitVec.ofInt (IntKind.bits IntKind.i64) (↑(UInt8.toNat y5):Int))):Int))],[],[.i ((↑(UInt8.toNat y6):Int))],[.i ((↑(UInt8.toNat y6):Int))],[.i (IntKind.wrap IntKind.i64 ((↑(UInt8.toNat y6):Int) * 2 ^ min (Int.toNat 24) (IntKind.bits IntKind.i64)))],[],[.i ((↑(UInt8.toNat y7):Int))],[.i ((↑(UInt8.toNat y7):Int))],[.i (IntKind.wrap IntKind.i64 ((↑(UInt8.toNat y7):Int) * 2 ^ min (Int.toNat 16) (IntKind.bits IntKind.i64)))],[.i (IntKind.wrap IntKind.i64 (↑(BitVec.toNat (BitVec.ofInt (IntKind.bits IntKind.i64) (IntKind.wrap IntKind.i64 ((↑(UInt8.toNat y6):Int) * 2 ^ min (Int.toNat 24) (IntKind.bits IntKind.i64)))|||BitVec.ofInt (IntKind.bits IntKind.i64) (IntKind.wrap IntKind.i64 ((↑(UInt8.toNat y7):Int) * 2 ^ min (Int.toNat 16) (IntKind.bits IntKind.i64))))):Int))],[],[.i ((↑(UInt8.toNat y8):Int))],[.i ((↑(UInt8.toNat y8):Int))],[.i (IntKind.wrap IntKind.i64 ((↑(UInt8.toNat y8):Int) * 2 ^ min (Int.toNat 8) (IntKind.bits IntKind.i64)))],[.i (IntKind.wrap IntKind.i64 (↑(BitVec.toNat (BitVec.ofInt (IntKind.bits IntKind.i64) (IntKind.wrap IntKind.i64 (↑(BitVec.toNat (BitVec.ofInt (IntKind.bits IntKind.i64) (IntKind.wrap IntKind.i64 ((↑(UInt8.toNat y6):Int) * 2 ^ min (Int.toNat 24) (IntKind.bits IntKind.i64)))|||BitVec.ofInt (IntKind.bits IntKind.i64) (IntKind.wrap IntKind.i64 ((↑(UInt8.toNat y7):Int) * 2 ^ min (Int.toNat 16) (IntKind.bits IntKind.i64))))):Int))|||BitVec.ofInt (IntKind.bits IntKind.i64) (IntKind.wrap IntKind.i64 ((↑(UInt8.toNat y8):Int) * 2 ^ min (Int.toNat 8) (IntKind.bits IntKind.i64))))):Int))],[],[.i ((↑(UInt8.toNat y9):Int))],[.i ((↑(UInt8.toNat y9):Int))],[.i (IntKind.wrap IntKind.i64 (↑(BitVec.toNat (BitVec.ofInt (IntKind.bits IntKind.i64) (IntKind.wrap IntKind.i64 (↑(BitVec.toNat (BitVec.ofInt (IntKind.bits IntKind.i64) (IntKind.wrap IntKind.i64 (↑(BitVec.toNat (BitVec.ofInt (IntKind.bits IntKind.i64) (IntKind.wrap IntKind.i64 ((↑(UInt8.toNat y6):Int) * 2 ^ min (Int.toNat 24) (IntKind.bits IntKind.i64)))|||BitVec.ofInt (IntKind.bits IntKind.i64) (IntKind.wrap IntKind.i64 ((↑(UInt8.toNat y7):Int) * 2 ^ min (Int.toNat 16) (IntKind.bits IntKind.i64))))):Int))|||BitVec.ofInt (IntKind.bits IntKind.i64) (IntKind.wrap IntKind.i64 ((↑(UInt8.toNat y8):Int) * 2 ^ min (Int.toNat 8) (IntKind.bits IntKind.i64))))):Int))|||BitVec.ofInt (IntKind.bits IntKind.i64) (↑(UInt8.toNat y9):Int))):Int))],[],[.i ((↑(UInt8.toNat y10):Int))],[.i ((↑(UInt8.toNat y10):Int))],[],[],[]] ?_
  conv=>whnf
  refine J ⟨I,⟨OM,ixb hy1⟩,w8 _,I,⟨OM,ixb hy2⟩,w8 _,I,⟨OM,ixb hy3⟩,w8 _,I,⟨OM,ixb hy4⟩,w8 _,Zds,I,⟨OM,ixb hy5⟩,w8 _,rfl,I,⟨OM,ixb hy6⟩,w8 _,Zds,I,⟨OM,ixb hy7⟩,w8 _,Zds,rfl,I,⟨OM,ixb hy8⟩,w8 _,Zds,rfl,I,⟨OM,ixb hy9⟩,w8 _,rfl,I,⟨OM,ixb hy10⟩,w8 _,I,I,UH,I⟩<|J KR<|g 68 71 [.i ((↑(UInt8.toNat y11):Int)),.i ((↑(UInt8.toNat y11):Int))]<|J ⟨I,⟨OM,ixb hy11⟩,w8 _,I,I⟩<|g 71 73 [.n (11),.s (ByteArray.extract (ByteArray.extract tx 8 (ByteArray.size tx)) 11 (ByteArray.size (ByteArray.extract tx 8 (ByteArray.size tx))))]<|J Zco<|W.sq<|g 73 75 []<|J UC<|W.cn<|J (fun _=>(W.sq (g 75 78 []<|J UC (W.cn<|J (fun h1=>?_) fun h1=>?_)))) (noF tO)
  replace h1:=dt h1
  refine g 78 80 []<|J Zef<|RT ?_
  rotate_left
  replace h1:=df h1
  refine W.skip<|rgd [[],[.n (8),.s (ByteArray.extract (ByteArray.extract (ByteArray.extract tx 8 (ByteArray.size tx)) 11 (ByteArray.size (ByteArray.extract tx 8 (ByteArray.size tx)))) 0 8)],[],[.n (8),.s (ByteArray.extract (ByteArray.extract (ByteArray.extract tx 8 (ByteArray.size tx)) 11 (ByteArray.size (ByteArray.extract tx 8 (ByteArray.size tx)))) 8 (ByteArray.size (ByteArray.extract (ByteArray.extract tx 8 (ByteArray.size tx)) 11 (ByteArray.size (ByteArray.extract tx 8 (ByteArray.size tx))))))],[],[],[]] ?_
  conv=>whnf
  refine J ⟨I,⟨rfl,I,OM,OM,rfl⟩,I,⟨I,rfl,OM,OM,rfl⟩,I,UA,I,I⟩<|J KR<|W.sq<|g 8 89 [.i (8 * (↑(UInt8.toNat y11):Int))]<|J ⟨I,I,I,wO,I,I⟩<|W.cn<|J (fun h2=>?_) fun h2=>?_
  replace h2:=ndt h2
  refine g 89 91 []<|J Zef<|RT ?_
  rotate_left
  replace h2:=ndf h2
  refine W.skip<|W.sq<|W.blk ?_
  rotate_left
  ·replace h1:((bA tx).size:Int) < 8:=h1
   exact congrArg gi (lL h0 (fun h=>by have:=ho h.1;omega)).symm
  ·replace h1:¬((bA tx).size:Int) < 8:=h1
   replace h2:¬((fV tx).size:Int) = 8 * (y11.toNat:Int):=h2
   exact congrArg gi (lL h0 (fun h=>by have:=ho h.1;have:=((hbi h.1).1 h.2).1;omega)).symm
  ·replace h1:¬((bA tx).size:Int) < 8:=h1
   replace h2:((fV tx).size:Int) = 8 * (y11.toNat:Int):=h2
   refine W.lp (fun s (n:Nat)=>⟨[(0,s.s 0),(4,s.s 4),(5,s.s 5),(6,.s (gP (fV tx) n)),(7,s.s 7)],[(4,[s.c 4 0,s.c 4 1,s.c 4 2,s.c 4 3,s.c 4 4,s.c 4 5,s.c 4 6,s.c 4 7]),(7,[.t (.i y1.toNat),.t (.i y2.toNat),.t (.i y3.toNat),.t (.i ((y4.toNat:Int) * 256+y5.toNat)),.t (.i ((y6.toNat:Int) * 16777216+ (y7.toNat:Int) * 65536+ (y8.toNat:Int) * 256+y9.toNat)),.t (.i y10.toNat),.t (.s ((bA tx).extract 0 8)),.own [false] ((cF (fV tx) n).map aj)])],[]⟩) (fun(n:Nat)=>8 * n≤(fV tx).size) (fun(n:Nat)=>(fV tx).size - 8 * n) (0) [some 4,some 7] [] ⟨rfl,⟨rfl,rfl,rfl,(congrArg (fun z=>V.t (T.v (Value.string z))) (zZ (fV tx))),rfl,I⟩,⟨Zab,⟨⟨rfl,⟨rfl,⟨rfl,⟨rfl,⟨(congrArg (fun z=>V.t (T.v (Value.int _ z))) (f1)),⟨(congrArg (fun z=>V.t (T.v (Value.int _ z))) (f2)),Zeb⟩⟩⟩⟩⟩⟩,I⟩⟩,I⟩ OM ?_
   intro n hn
   have hrz:=jX (fV tx) n
   have hcl:=qT (fV tx) n
   have c2:=cL ⟨y1.toNat,y2.toNat,y3.toNat,(y4.toNat:Int) * 256+y5.toNat,(y6.toNat:Int) * 16777216+ (y7.toNat:Int) * 65536+ (y8.toNat:Int) * 256+y9.toNat,y10.toNat,(bA tx).extract 0 8,cF (fV tx) n⟩ (by rw[show(Message.inputs ⟨y1.toNat,y2.toNat,y3.toNat,(y4.toNat:Int) * 256+y5.toNat,(y6.toNat:Int) * 16777216+ (y7.toNat:Int) * 65536+ (y8.toNat:Int) * 256+y9.toNat,y10.toNat,(bA tx).extract 0 8,cF (fV tx) n⟩) = cF (fV tx) n from rfl,hcl];omega)
   by_cases hn8:8 * n < (fV tx).size
   ·have hne:=Ab hn8
    conv=>whnf
    refine W.sq<|g 91 92 []<|J UB<|W.cn<|J (fun _=>(W.skip (W.sq (W.blk (rgd [[],[],[],[.n (8),.s (ByteArray.extract (gP (fV tx) n) 0 8)],[],[],[],[]] ?_))))) (noF (ag OM))
    conv=>whnf
    refine⟨⟨I,I,I,⟨rfl,I,OM,OM,rfl⟩,US,Zdm,I,UA,I⟩,by kernel_rfl,?_⟩
    refine rg [.n (8),.s (ByteArray.extract (gP (fV tx) n) 8 (ByteArray.size (gP (fV tx) n)))] ?_
    conv=>whnf
    refine⟨⟨I,⟨I,rfl,OM,OM,rfl⟩,I,I⟩,?_⟩
    ·refine⟨n+1,[some 4,some 7],[],⟨rfl,⟨rfl,rfl,rfl,(congrArg (fun z=>V.t (T.v (Value.string z))) (Aa (fV tx) n OM)),rfl,I⟩,⟨Zab,⟨⟨rfl,⟨rfl,⟨rfl,⟨rfl,⟨rfl,⟨rfl,⟨rfl,⟨rfl,⟨(congrArg (V.own _) (Tn OM)),I⟩⟩⟩⟩⟩⟩⟩⟩⟩,I⟩⟩,I⟩,?_,?_⟩
     rotate_left
     (dsimp only;omega)
     dsimp only
     omega
   ·have heq:=EB hn8
    have em:n = 0→(bA tx).size = 8→rdM (tx.extract 8 tx.size) = ⟨y1.toNat,y2.toNat,y3.toNat,(y4.toNat:Int) * 256+y5.toNat,(y6.toNat:Int) * 16777216+ (y7.toNat:Int) * 65536+ (y8.toNat:Int) * 256+y9.toNat,y10.toNat,(bA tx).extract 0 8,cF (fV tx) n⟩:=by
     intro hn0 h8
     rw[e1,hn0,show cF (fV tx) 0 = []from rfl]
     rw[show(bA tx).extract 0 8 = bA tx by rw[←h8,ByteArray.extract_zero_size]]
    conv=>whnf
    refine W.sq<|g 91 92 []<|J UB<|W.cn<|J (noT nO) fun _=>W.exit<|W.sq<|g 92 104 [.call (V.b (decide (bP {kind:=(↑(UInt8.toNat y1):Int),frm:=(↑(UInt8.toNat y2):Int),to:=(↑(UInt8.toNat y3):Int),epoch:=(↑(UInt8.toNat y4):Int) * 256+ (↑(UInt8.toNat y5):Int),lease:=(↑(UInt8.toNat y6):Int) * 16777216+ (↑(UInt8.toNat y7):Int) * 65536+ (↑(UInt8.toNat y8):Int) * 256+ (↑(UInt8.toNat y9):Int),task:=(↑(UInt8.toNat y10):Int),text:=ByteArray.extract (bA tx) 0 8,inputs:=cF (fV tx) n:Message}))) [[]]]<|J ⟨I,Zcb,I,I⟩<|W.cn<|J (fun h4=>?_) fun h4=>?_
    replace h4:=ndt h4
    refine g 104 106 []<|J Zef<|RT ?_
    rotate_left
    replace h4:=ndf h4
    refine W.skip<|g 6 107 []<|J Zef<|RT ?_
    rotate_left
    ·exact congrArg gi (lL h0 (fun h=>by
      have h4:=ho h.1
      have h5:=((hbi h.1).1 h.2).1
      rw[em OM h4]at h
      exact absurd h.1 AS)).symm
    ·have hok:bP ⟨y1.toNat,y2.toNat,y3.toNat,(y4.toNat:Int) * 256+y5.toNat,(y6.toNat:Int) * 16777216+ (y7.toNat:Int) * 65536+ (y8.toNat:Int) * 256+y9.toNat,y10.toNat,(bA tx).extract 0 8,cF (fV tx) n⟩:=by assumption
     have hn0:n = 0:=by
      have:(cF (fV tx) n).length = 0:=by
       unfold bP at hok;dsimp only at hok;omega
      omega
     have h8:(bA tx).size = 8:=by omega
     exact congrArg gi (Ag h0 OM (Decidable.not_not.1 hs) (em hn0 h8) hok ((hbi (by rw[em hn0 h8];exact hok)).2 ⟨by omega,fun h=>absurd h3 h⟩)).symm
 ·rw[if_neg h3]at hbi
  have e1:∀ n,n = (tx.size - 19) / 8→rdM (tx.extract 8 tx.size) = ⟨y1.toNat,y2.toNat,y3.toNat,(y4.toNat:Int) * 256+y5.toNat,(y6.toNat:Int) * 16777216+ (y7.toNat:Int) * 65536+ (y8.toNat:Int) * 256+y9.toNat,y10.toNat,emp,cF (bA tx) n⟩:=by
   intro n hn;rw[←e];unfold rdM rdF;rw[bI hy1,if_neg h3,if_neg h3,hn,hx,bA,hx,show tx.size - 8 - 11 = tx.size - 19 by omega]
  refine dc ?_
  conv=>whnf
  refine g 0 0 []<|J UB<|W.sq<|gd 9 25 [[],[],[],[],[BF],[BF],[BF],[BF],[],[BF],[BF,.n (8),.s (ByteArray.extract tx 0 8)],[BF],[BF,.n (8),.s (ByteArray.extract tx 8 (ByteArray.size tx))],[BF],[BF,.call (V.s (fr (ByteArray.extract tx 8 (ByteArray.size tx)) key)) [[],[]]],[BF],[BF]] ?_
  conv=>whnf
  refine J Zbl<|J KR<|W.cn<|J (noT (by simp_all)) fun _=>W.skip<|g 25 29 [.n (8),.s (ByteArray.extract tx 8 (ByteArray.size tx))]<|J Zco<|gd 29 68 [[],[.i ((↑(UInt8.toNat y1):Int))],[.i ((↑(UInt8.toNat y1):Int))],[],[.i ((↑(UInt8.toNat y2):Int))],[.i ((↑(UInt8.toNat y2):Int))],[],[.i ((↑(UInt8.toNat y3):Int))],[.i ((↑(UInt8.toNat y3):Int))],[],[.i ((↑(UInt8.toNat y4):Int))],[.i ((↑(UInt8.toNat y4):Int))],[.i (IntKind.wrap IntKind.i64 ((↑(UInt8.toNat y4):Int) * 2 ^ min (Int.toNat 8) (IntKind.bits IntKind.i64)))],[],[.i ((↑(UInt8.toNat y5):Int))],[.i ((↑(UInt8.toNat y5):Int))],[.i (IntKind.wrap IntKind.i64 (↑(BitVec.toNat (BitVec.ofInt (IntKind.bits IntKind.i64) (IntKind.wrap IntKind.i64 ((↑(UInt8.toNat y4):Int) * 2 ^ min (Int.toNat 8) (IntKind.bits IntKind.i64)))|||BitVec.ofInt (IntKind.bits IntKind.i64) (↑(UInt8.toNat y5):Int))):Int))],[],[.i ((↑(UInt8.toNat y6):Int))],[.i ((↑(UInt8.toNat y6):Int))],[.i (IntKind.wrap IntKind.i64 ((↑(UInt8.toNat y6):Int) * 2 ^ min (Int.toNat 24) (IntKind.bits IntKind.i64)))],[],[.i ((↑(UInt8.toNat y7):Int))],[.i ((↑(UInt8.toNat y7):Int))],[.i (IntKind.wrap IntKind.i64 ((↑(UInt8.toNat y7):Int) * 2 ^ min (Int.toNat 16) (IntKind.bits IntKind.i64)))],[.i (IntKind.wrap IntKind.i64 (↑(BitVec.toNat (BitVec.ofInt (IntKind.bits IntKind.i64) (IntKind.wrap IntKind.i64 ((↑(UInt8.toNat y6):Int) * 2 ^ min (Int.toNat 24) (IntKind.bits IntKind.i64)))|||BitVec.ofInt (IntKind.bits IntKind.i64) (IntKind.wrap IntKind.i64 ((↑(UInt8.toNat y7):Int) * 2 ^ min (Int.toNat 16) (IntKind.bits IntKind.i64))))):Int))],[],[.i ((↑(UInt8.toNat y8):Int))],[.i ((↑(UInt8.toNat y8):Int))],[.i (IntKind.wrap IntKind.i64 ((↑(UInt8.toNat y8):Int) * 2 ^ min (Int.toNat 8) (IntKind.bits IntKind.i64)))],[.i (IntKind.wrap IntKind.i64 (↑(BitVec.toNat (BitVec.ofInt (IntKind.bits IntKind.i64) (IntKind.wrap IntKind.i64 (↑(BitVec.toNat (BitVec.ofInt (IntKind.bits IntKind.i64) (IntKind.wrap IntKind.i64 ((↑(UInt8.toNat y6):Int) * 2 ^ min (Int.toNat 24) (IntKind.bits IntKind.i64)))|||BitVec.ofInt (IntKind.bits IntKind.i64) (IntKind.wrap IntKind.i64 ((↑(UInt8.toNat y7):Int) * 2 ^ min (Int.toNat 16) (IntKind.bits IntKind.i64))))):Int))|||BitVec.ofInt (IntKind.bits IntKind.i64) (IntKind.wrap IntKind.i64 ((↑(UInt8.toNat y8):Int) * 2 ^ min (Int.toNat 8) (IntKind.bits IntKind.i64))))):Int))],[],[.i ((↑(UInt8.toNat y9):Int))],[.i ((↑(UInt8.toNat y9):Int))],[.i (IntKind.wrap IntKind.i64 (↑(BitVec.toNat (BitVec.ofInt (IntKind.bits IntKind.i64) (IntKind.wrap IntKind.i64 (↑(BitVec.toNat (BitVec.ofInt (IntKind.bits IntKind.i64) (IntKind.wrap IntKind.i64 (↑(BitVec.toNat (BitVec.ofInt (IntKind.bits IntKind.i64) (IntKind.wrap IntKind.i64 ((↑(UInt8.toNat y6):Int) * 2 ^ min (Int.toNat 24) (IntKind.bits IntKind.i64)))|||BitVec.ofInt (IntKind.bits IntKind.i64) (IntKind.wrap IntKind.i64 ((↑(UInt8.toNat y7):Int) * 2 ^ min (Int.toNat 16) (IntKind.bits IntKind.i64))))):Int))|||BitVec.ofInt (IntKind.bits IntKind.i64) (IntKind.wrap IntKind.i64 ((↑(UInt8.toNat y8):Int) * 2 ^ min (Int.toNat 8) (IntKind.bits IntKind.i64))))):Int))|||BitVec.ofInt (IntKind.bits IntKind.i64) (↑(UInt8.toNat y9):Int))):Int))],[],[.i ((↑(UInt8.toNat y10):Int))],[.i ((↑(UInt8.toNat y10):Int))],[],[],[]] ?_
  conv=>whnf
  refine J ⟨I,⟨OM,ixb hy1⟩,w8 _,I,⟨OM,ixb hy2⟩,w8 _,I,⟨OM,ixb hy3⟩,w8 _,I,⟨OM,ixb hy4⟩,w8 _,Zds,I,⟨OM,ixb hy5⟩,w8 _,rfl,I,⟨OM,ixb hy6⟩,w8 _,Zds,I,⟨OM,ixb hy7⟩,w8 _,Zds,rfl,I,⟨OM,ixb hy8⟩,w8 _,Zds,rfl,I,⟨OM,ixb hy9⟩,w8 _,rfl,I,⟨OM,ixb hy10⟩,w8 _,I,I,UH,I⟩<|J KR<|g 68 71 [.i ((↑(UInt8.toNat y11):Int)),.i ((↑(UInt8.toNat y11):Int))]<|J ⟨I,⟨OM,ixb hy11⟩,w8 _,I,I⟩<|g 71 73 [.n (11),.s (ByteArray.extract (ByteArray.extract tx 8 (ByteArray.size tx)) 11 (ByteArray.size (ByteArray.extract tx 8 (ByteArray.size tx))))]<|J Zco<|W.sq<|g 73 75 []<|J UC<|W.cn<|J (noT dO) fun _=>W.skip<|W.sq<|g 8 89 [.i (8 * (↑(UInt8.toNat y11):Int))]<|J ⟨I,I,I,wO,I,I⟩<|W.cn<|J (fun h1=>?_) fun h1=>?_
  replace h1:=ndt h1
  refine g 89 91 []<|J Zef<|RT ?_
  rotate_left
  replace h1:=ndf h1
  refine W.skip<|W.sq<|W.blk ?_
  rotate_left
  ·replace h1:¬((bA tx).size:Int) = 8 * (y11.toNat:Int):=h1
   exact congrArg gi (lL h0 (fun h=>by have h5:=(hbi h.1).1 h.2;have:=h5.2 h3;omega)).symm
  ·replace h1:((bA tx).size:Int) = 8 * (y11.toNat:Int):=h1
   refine W.lp (fun s (n:Nat)=>⟨[(0,s.s 0),(4,s.s 4),(5,s.s 5),(6,.s (gP (bA tx) n)),(7,s.s 7)],[(4,[s.c 4 0,s.c 4 1,s.c 4 2,s.c 4 3,s.c 4 4,s.c 4 5,s.c 4 6,s.c 4 7]),(7,[.t (.i y1.toNat),.t (.i y2.toNat),.t (.i y3.toNat),.t (.i ((y4.toNat:Int) * 256+y5.toNat)),.t (.i ((y6.toNat:Int) * 16777216+ (y7.toNat:Int) * 65536+ (y8.toNat:Int) * 256+y9.toNat)),.t (.i y10.toNat),.t (.s emp),.own [false] ((cF (bA tx) n).map aj)])],[]⟩) (fun(n:Nat)=>8 * n≤(bA tx).size) (fun(n:Nat)=>(bA tx).size - 8 * n) (0) [some 4,some 7] [] ⟨rfl,⟨rfl,rfl,rfl,(congrArg (fun z=>V.t (T.v (Value.string z))) (zZ (bA tx))),rfl,I⟩,⟨Zab,⟨⟨rfl,⟨rfl,⟨rfl,⟨rfl,⟨(congrArg (fun z=>V.t (T.v (Value.int _ z))) (f1)),⟨(congrArg (fun z=>V.t (T.v (Value.int _ z))) (f2)),Zeb⟩⟩⟩⟩⟩⟩,I⟩⟩,I⟩ OM ?_
   intro n hn
   have hrz:=jX (bA tx) n
   have hcl:=qT (bA tx) n
   have c2:=cL ⟨y1.toNat,y2.toNat,y3.toNat,(y4.toNat:Int) * 256+y5.toNat,(y6.toNat:Int) * 16777216+ (y7.toNat:Int) * 65536+ (y8.toNat:Int) * 256+y9.toNat,y10.toNat,emp,cF (bA tx) n⟩ (by rw[show(Message.inputs ⟨y1.toNat,y2.toNat,y3.toNat,(y4.toNat:Int) * 256+y5.toNat,(y6.toNat:Int) * 16777216+ (y7.toNat:Int) * 65536+ (y8.toNat:Int) * 256+y9.toNat,y10.toNat,emp,cF (bA tx) n⟩) = cF (bA tx) n from rfl,hcl];omega)
   by_cases hn8:8 * n < (bA tx).size
   ·have hne:=Ab hn8
    conv=>whnf
    refine W.sq<|g 91 92 []<|J UB<|W.cn<|J (fun _=>(W.skip (W.sq (W.blk (rgd [[],[],[],[.n (8),.s (ByteArray.extract (gP (bA tx) n) 0 8)],[],[],[],[]] ?_))))) (noF (ag OM))
    conv=>whnf
    refine⟨⟨I,I,I,⟨rfl,I,OM,OM,rfl⟩,US,Zdm,I,UA,I⟩,by kernel_rfl,?_⟩
    refine rg [.n (8),.s (ByteArray.extract (gP (bA tx) n) 8 (ByteArray.size (gP (bA tx) n)))] ?_
    conv=>whnf
    refine⟨⟨I,⟨I,rfl,OM,OM,rfl⟩,I,I⟩,?_⟩
    ·refine⟨n+1,[some 4,some 7],[],⟨rfl,⟨rfl,rfl,rfl,(congrArg (fun z=>V.t (T.v (Value.string z))) (Aa (bA tx) n OM)),rfl,I⟩,⟨Zab,⟨⟨rfl,⟨rfl,⟨rfl,⟨rfl,⟨rfl,⟨rfl,⟨rfl,⟨rfl,⟨(congrArg (V.own _) (Tn OM)),I⟩⟩⟩⟩⟩⟩⟩⟩⟩,I⟩⟩,I⟩,?_,?_⟩
     rotate_left
     (dsimp only;omega)
     dsimp only
     omega
   ·have heq:=EB hn8
    have em:=e1 n OM
    conv=>whnf
    refine W.sq<|g 91 92 []<|J UB<|W.cn<|J (noT nO) fun _=>W.exit<|W.sq<|g 92 104 [.call (V.b (decide (bP {kind:=(↑(UInt8.toNat y1):Int),frm:=(↑(UInt8.toNat y2):Int),to:=(↑(UInt8.toNat y3):Int),epoch:=(↑(UInt8.toNat y4):Int) * 256+ (↑(UInt8.toNat y5):Int),lease:=(↑(UInt8.toNat y6):Int) * 16777216+ (↑(UInt8.toNat y7):Int) * 65536+ (↑(UInt8.toNat y8):Int) * 256+ (↑(UInt8.toNat y9):Int),task:=(↑(UInt8.toNat y10):Int),text:=emp,inputs:=cF (bA tx) n:Message}))) [[]]]<|J ⟨I,Zcb,I,I⟩<|W.cn<|J (fun h2=>?_) fun h2=>?_
    replace h2:=ndt h2
    refine g 104 106 []<|J Zef<|RT ?_
    rotate_left
    replace h2:=ndf h2
    refine W.skip<|g 6 107 []<|J Zef<|RT ?_
    rotate_left
    ·exact congrArg gi (lL h0 (fun h=>by rw[em]at h;exact absurd h.1 AS)).symm
    ·have hok:bP ⟨y1.toNat,y2.toNat,y3.toNat,(y4.toNat:Int) * 256+y5.toNat,(y6.toNat:Int) * 16777216+ (y7.toNat:Int) * 65536+ (y8.toNat:Int) * 256+y9.toNat,y10.toNat,emp,cF (bA tx) n⟩:=by assumption
     exact congrArg gi (Ag h0 OM (Decidable.not_not.1 hs) em hok ((hbi (by rw[em];exact hok)).2 ⟨by omega,fun h=>by omega⟩)).symm
end Go.K
end
section
open Go Go.Tm Go.Proofs
namespace Go.K
structure Acted where
 worker:Worker
 out:List Message
 deriving DecidableEq
abbrev pE(x:Acted):V:=.agg [.t (.i x.worker.number),.t (.i x.worker.epoch),.t (.b x.worker.up),.t (.i x.worker.state),.t (.i x.worker.lease),.t (.i x.worker.task),.t (.i x.worker.cost),.t (.i x.worker.left),.own [false] (x.worker.inputs.map aj),.t (.s x.worker.text),.t (.i x.worker.since),.own cO (x.out.map aI)]
abbrev Ar:Acted:=⟨⟨0,0,false,0,0,0,0,0,[],emp,0⟩,[]⟩
def fO(w:Worker)(k:Int):Message:=⟨k,w.number,0,w.epoch,if k = 5 then 0 else w.lease,if k = 3 then w.task else 0,if k = 3 then w.text else emp,[]⟩
theorem bV(w:Worker)(k:Int)(hk:k = 2∨k = 3∨k = 5):F pP [.val (dZ w),.val (.i k)] (bE (fO w k)) [[],[]]:=by
 rcases hk with rfl|rfl|rfl
 ·refine ge ?_
  conv=>whnf
  refine g 0 0 []<|J Zd9<|g 6 12 []<|J ⟨I,I,I,I,I,I,I,UH,I⟩<|W.sq<|g 0 1 []<|J UB<|W.cn<|J (fun _=>(rg []<|J UW (W.sq (g 12 18 []<|J UB (W.cn<|J (noT rfl) fun _=>(W.skip (g 5 26 []<|J ⟨I,UH,I⟩ (RT ?_)))))))) (noF rfl)
  rfl
 ·refine ge ?_
  conv=>whnf
  refine g 0 0 []<|J Zd9<|g 6 12 []<|J ⟨I,I,I,I,I,I,I,UH,I⟩<|W.sq<|g 0 1 []<|J UB<|W.cn<|J (fun _=>(rg []<|J UW (W.sq (g 12 18 []<|J UB (W.cn<|J (fun _=>(rgd [[],[],[],[],[],[],[],[]] ?_)) (noF rfl)))))) (noF rfl)
  conv=>whnf
  refine⟨⟨I,I,I,I,I,UA,I,UA,I⟩,by kernel_rfl,?_⟩
  refine g 5 26 []<|J ⟨I,UH,I⟩<|RT ?_
  rfl
 ·refine ge ?_
  conv=>whnf
  refine g 0 0 []<|J Zd9<|g 6 12 []<|J ⟨I,I,I,I,I,I,I,UH,I⟩<|W.sq<|g 0 1 []<|J UB<|W.cn<|J (noT rfl) fun _=>W.skip<|W.sq<|g 12 18 []<|J UB<|W.cn<|J (noT rfl) fun _=>W.skip<|g 5 26 []<|J ⟨I,UH,I⟩<|RT ?_
  rfl
theorem dH(w:Worker)(k:Int)(hk:k = 2∨k = 3∨k = 5):F BW [.val (dZ w),.val (.i k)] (bE (fO w k)) [[],[]]:=by
 rcases hk with rfl|rfl|rfl
 ·refine kM ?_
  conv=>whnf
  refine g 0 0 []<|J Zd9<|g 6 12 []<|J ⟨I,I,I,I,I,I,I,UH,I⟩<|W.sq<|g 0 1 []<|J UB<|W.cn<|J (fun _=>(rg []<|J UW (W.sq (g 12 18 []<|J UB (W.cn<|J (noT rfl) fun _=>(W.skip (g 5 26 []<|J ⟨I,UH,I⟩ (RT ?_)))))))) (noF rfl)
  rfl
 ·refine kM ?_
  conv=>whnf
  refine g 0 0 []<|J Zd9<|g 6 12 []<|J ⟨I,I,I,I,I,I,I,UH,I⟩<|W.sq<|g 0 1 []<|J UB<|W.cn<|J (fun _=>(rg []<|J UW (W.sq (g 12 18 []<|J UB (W.cn<|J (fun _=>(g 18 22 []<|J UW (rg []<|J UW (g 5 26 []<|J ⟨I,UH,I⟩ ?_)))) (noF rfl)))))) (noF rfl)
  refine RT ?_
  rfl
 ·refine kM ?_
  conv=>whnf
  refine g 0 0 []<|J Zd9<|g 6 12 []<|J ⟨I,I,I,I,I,I,I,UH,I⟩<|W.sq<|g 0 1 []<|J UB<|W.cn<|J (noT rfl) fun _=>W.skip<|W.sq<|g 12 18 []<|J UB<|W.cn<|J (noT rfl) fun _=>W.skip<|g 5 26 []<|J ⟨I,UH,I⟩<|RT ?_
  rfl
def BQ(ts:List Task)(k:Int):ByteArray:=((ts[k.toNat]?).map Task.name).getD emp
def aZ(w:Worker):Int:=if w.since < 1000000 then w.since+1 else w.since
def gO(w:Worker)(ts:List Task):Worker:=⟨w.number,w.epoch,w.up,2,w.lease,w.task,0,w.left - 1,[],cI (BQ ts w.task) w.inputs,0⟩
def cP(w:Worker)(s:Int):Worker:=⟨w.number,w.epoch,w.up,w.state,w.lease,w.task,w.cost,w.left,w.inputs,w.text,s⟩
def nl(w:Worker):Worker:=⟨w.number,w.epoch,w.up,w.state,w.lease,w.task,w.cost,w.left - 1,w.inputs,w.text,w.since⟩
def D7(w:Worker)(k:Int):Acted:=⟨cP w 0,[fO (cP w 0) k]⟩
def gE(w:Worker)(ts:List Task):Acted :=
 if w.up = false then⟨w,[]⟩else
 if w.state = 1 then
  if w.left - 1 = 0 then⟨gO w ts,[fO (gO w ts) 3]⟩
  else if 4≤aZ w then D7 (nl w) 2 else⟨cP (nl w) (aZ w),[]⟩
 else if w.state = 2 then(if 4≤aZ w then D7 w 3 else⟨cP w (aZ w),[]⟩)
 else if 3≤aZ w then D7 w 5 else⟨cP w (aZ w),[]⟩
theorem Jx{w:Worker}(h:av w):(1≤w.number∧w.number≤8)∧(1≤w.epoch∧w.epoch≤300)∧(0≤w.since∧w.since≤1000000):=⟨h.1,h.2.1,h.2.2.1⟩
theorem Ap{w:Worker}(h:av w)(h1:w.state = 1):ev w:=by
 rcases h.2.2.2.2 with q|q|q
 ·have:=q.1;omega
 ·exact q
 ·have:=q.1;omega
theorem Bl{w:Worker}(h:av w):w.state = 0∨w.state = 1∨w.state = 2:=by
 rcases h.2.2.2.2 with q|q|q
 ·exact .inl q.1
 ·exact .inr (.inl q.1)
 ·exact .inr (.inr q.1)
theorem vf{w:Worker}{ts:List Task}(h:w.up = false):gE w ts = ⟨w,[]⟩:=if_pos h
theorem lH{w:Worker}{ts:List Task}(h:¬w.up = false)(h1:w.state = 1)(h2:w.left - 1 = 0):gE w ts = ⟨gO w ts,[fO (gO w ts) 3]⟩:=by rw[gE,if_neg h,if_pos h1,if_pos h2]
theorem lI{w:Worker}{ts:List Task}(h:¬w.up = false)(h1:w.state = 1)(h2:¬w.left - 1 = 0)(h4:4≤aZ w):gE w ts = D7 (nl w) 2:=by rw[gE,if_neg h,if_pos h1,if_neg h2,if_pos h4]
theorem vg{w:Worker}{ts:List Task}(h:¬w.up = false)(h1:w.state = 1)(h2:¬w.left - 1 = 0)(h4:¬4≤aZ w):gE w ts = ⟨cP (nl w) (aZ w),[]⟩:=by rw[gE,if_neg h,if_pos h1,if_neg h2,if_neg h4]
theorem lF{w:Worker}{ts:List Task}(h:¬w.up = false)(h1:w.state = 2)(h4:4≤aZ w):gE w ts = D7 w 3:=by rw[gE,if_neg h,if_neg OM,if_pos h1,if_pos h4]
theorem qo{w:Worker}{ts:List Task}(h:¬w.up = false)(h1:w.state = 2)(h4:¬4≤aZ w):gE w ts = ⟨cP w (aZ w),[]⟩:=by rw[gE,if_neg h,if_neg OM,if_pos h1,if_neg h4]
theorem lG{w:Worker}{ts:List Task}(h:¬w.up = false)(h1:w.state = 0)(h4:3≤aZ w):gE w ts = D7 w 5:=by rw[gE,if_neg h,if_neg OM,if_neg OM,if_pos h4]
theorem qp{w:Worker}{ts:List Task}(h:¬w.up = false)(h1:w.state = 0)(h4:¬3≤aZ w):gE w ts = ⟨cP w (aZ w),[]⟩:=by rw[gE,if_neg h,if_neg OM,if_neg OM,if_neg h4]
theorem MK{ts:List Task}{k:Int}{t:Task}(h:ts[k.toNat]? = some t):BQ ts k = t.name:=by unfold BQ;rw[h];rfl
theorem JC{ts:List Task}{k:Int}(h:ts[k.toNat]? = none):BQ ts k = emp:=by unfold BQ;rw[h];rfl
theorem E3{w:Worker}(h:ev w):w.inputs.length≤8∧(∀ s∈w.inputs,s.size≤1048576)∧bQ w.inputs≤64:=by
 obtain⟨h1,h2⟩:=h.2.2.2.2.1
 have:=Bd (xs:=w.inputs) fun s hs=>Nat.le_of_eq (h1 s hs)
 exact⟨h2,fun s hs=>by have:=h1 s hs;omega,by omega⟩
noncomputable def fN(w:Worker)(p:Plan):Acted:=if av w∧aq p.tasks = 0 then gE w p.tasks else Ar
theorem I1{w:Worker}{p:Plan}(h:¬(av w∧aq p.tasks = 0)):fN w p = Ar:=if_neg h
theorem er{w:Worker}{p:Plan}(h:av w)(h2:aq p.tasks = 0):fN w p = gE w p.tasks:=if_pos ⟨h,h2⟩
theorem qf(w:Worker)(p:Plan)(h:av w)(hc:aq p.tasks = 0):F pO [.val (aD w),.val (cR p)] (pE (gE w p.tasks)) [[],[]]:=by
 obtain⟨⟨f1,f2⟩,⟨f3,f4⟩,f5,f6⟩:=Jx h
 by_cases hup:w.up = false
 ·refine bd ?_
  conv=>whnf
  refine g 0 0 []<|J Zcc<|W.sq<|g 7 9 []<|J UC<|W.cn<|J (fun _=>(g 9 12 []<|J ⟨I,I,UL,I⟩ (RT ?_))) (noF (nbT AS))
  rw[vf hup];rfl
 ·rcases Bl h with h1|h1|h1
  ·skip
   by_cases hs:w.since < 1000000
   ·have e:aZ w = w.since+1:=if_pos hs
    by_cases h4:3≤aZ w
    ·have ct:=bV (cP w 0) 5 OM
     have h5:=h4
     rw[e]at h5
     refine bd ?_
     conv=>whnf
     refine g 0 0 []<|J Zcc<|W.sq<|g 7 9 []<|J UC<|W.cn<|J (noT SI) fun _=>W.skip<|W.sq<|g 9 14 []<|J UC<|W.cn<|J (fun _=>(rg [.i (w.since+1)]<|J Zbi (g 14 19 []<|J UA (W.sq (g 19 20 []<|J UB ?_))))) (noF tO)
     refine W.blk<|g 22 23 []<|J UB<|W.cn<|J (noT dO) fun _=>g 3 4 []<|J UB<|W.cn<|J (noT dO) fun _=>g 20 56 []<|J UB<|W.cn<|J (fun _=>(g 59 63 []<|J UC (W.cn<|J (fun _=>(rg []<|J UA (W.sq (g 63 65 []<|J UB ?_)))) (noF tO)))) (noF tO)
     refine W.cn<|J (noT rfl) fun _=>W.skip<|g 65 69 []<|J UV<|gd 5 75 [[],[],[],[.call (bE (fO (cP w 0) 5)) [[],[]]],[],[],[]] ?_
     conv=>whnf
     refine J Zap<|J KR<|RT ?_
     rw[lG hup h1 h4];rfl
    ·have h5:=h4
     rw[e]at h5
     refine bd ?_
     conv=>whnf
     refine g 0 0 []<|J Zcc<|W.sq<|g 7 9 []<|J UC<|W.cn<|J (noT SI) fun _=>W.skip<|W.sq<|g 9 14 []<|J UC<|W.cn<|J (fun _=>(rg [.i (w.since+1)]<|J Zbi (g 14 19 []<|J UA (W.sq (g 19 20 []<|J UB ?_))))) (noF tO)
     refine W.blk<|g 22 23 []<|J UB<|W.cn<|J (noT dO) fun _=>g 3 4 []<|J UB<|W.cn<|J (noT dO) fun _=>g 20 56 []<|J UB<|W.cn<|J (fun _=>(g 59 63 []<|J UC (W.cn<|J (noT dO) fun _=>(W.skip (W.sq (g 63 65 []<|J UB ?_)))))) (noF tO)
     refine W.cn<|J (fun _=>(g 65 68 []<|J ⟨I,I,UL,I⟩ (RT ?_))) (noF rfl)
     rw[qp hup h1 h4,e];rfl
   ·have e:aZ w = w.since:=if_neg hs
    by_cases h4:3≤aZ w
    ·have ct:=bV (cP w 0) 5 OM
     have h5:=h4
     rw[e]at h5
     refine bd ?_
     conv=>whnf
     refine g 0 0 []<|J Zcc<|W.sq<|g 7 9 []<|J UC<|W.cn<|J (noT SI) fun _=>W.skip<|W.sq<|g 9 14 []<|J UC<|W.cn<|J (noT dO) fun _=>W.skip<|g 14 15 []<|J UA<|W.sq<|g 19 20 []<|J UB ?_
     refine W.blk<|g 22 23 []<|J UB<|W.cn<|J (noT dO) fun _=>g 3 4 []<|J UB<|W.cn<|J (noT dO) fun _=>g 20 56 []<|J UB<|W.cn<|J (fun _=>(g 59 63 []<|J UC (W.cn<|J (fun _=>(rg []<|J UA (W.sq (g 63 65 []<|J UB ?_)))) (noF tO)))) (noF tO)
     refine W.cn<|J (noT rfl) fun _=>W.skip<|g 65 69 []<|J UV<|gd 5 75 [[],[],[],[.call (bE (fO (cP w 0) 5)) [[],[]]],[],[],[]] ?_
     conv=>whnf
     refine J Zap<|J KR<|RT ?_
     rw[lG hup h1 h4];rfl
    ·exfalso;omega
  ·have hb:=Ap h h1
   obtain⟨hl8,hes,htt⟩:=E3 hb
   obtain⟨_,⟨_,b3,b4⟩,⟨b5,b6⟩,⟨b7,b8⟩,_⟩:=hb
   by_cases hl:w.left - 1 = 0
   ·by_cases ht:w.task < p.tasks.length
    ·obtain⟨t,ht2⟩:=af (xs:=p.tasks) (n:=w.task.toNat) OM
     obtain⟨⟨g1,g2⟩,_⟩:=b9 hc ht2
     have cv:=mB t.name w.inputs OM OM hes
     have ct:=bV ⟨w.number,w.epoch,w.up,2,w.lease,w.task,0,w.left - 1,[],cI t.name w.inputs,0⟩ 3 OM
     refine bd ?_
     conv=>whnf
     refine g 0 0 []<|J Zcc<|W.sq<|g 7 9 []<|J UC<|W.cn<|J (noT SI) fun _=>W.skip<|W.sq<|g 9 14 []<|J UC<|W.cn<|J (fun h2=>?_) fun h2=>?_
     replace h2:=dt h2
     refine rg [.i (w.since+1)]<|J Zbi<|g 14 19 []<|J UA<|W.sq<|g 19 20 []<|J UB<|W.blk<|g 22 23 []<|J UB<|W.cn<|J (fun _=>(g 20 27 [.i (w.left - 1)]<|J Zbi (g 27 29 []<|J UC (W.cn<|J (fun _=>(g 29 30 []<|J UA (W.sq ?_))) (noF tO))))) (noF tO)
     refine g 30 35 []<|J UF<|W.cn<|J (fun _=>(rg [.x (ay t)]<|J Zc3 (g 6 51 [.call (V.s (cI t.name w.inputs)) [[],[]]]<|J ⟨I,I,I,Zan,I,UA,I,UA,I,UA,I,UA,I⟩ (rg []<|J UA (W.sq (g 3 4 []<|J UB (W.cn<|J (noT rfl) fun _=>(W.skip (g 64 69 []<|J UV (gd 5 75 [[],[],[],[.call (bE (fO {number:=w.number,epoch:=w.epoch,up:=w.up,state:=2,lease:=w.lease,task:=w.task,cost:=0,left:=w.left - 1,inputs:=[],text:=cI t.name w.inputs,since:=0:Worker} 3)) [[],[]]],[],[],[]] ?_)))))))))) (noF SI)
     conv=>whnf
     refine⟨Zap,by kernel_rfl,?_⟩
     refine RT ?_
     rotate_left
     replace h2:=df h2
     refine W.skip<|g 14 15 []<|J UA<|W.sq<|g 19 20 []<|J UB<|W.blk<|g 22 23 []<|J UB<|W.cn<|J (fun _=>(g 20 27 [.i (w.left - 1)]<|J Zbi (g 27 29 []<|J UC (W.cn<|J (fun _=>(g 29 30 []<|J UA (W.sq ?_))) (noF tO))))) (noF tO)
     refine g 30 35 []<|J UF<|W.cn<|J (fun _=>(rg [.x (ay t)]<|J Zc3 (g 6 51 [.call (V.s (cI t.name w.inputs)) [[],[]]]<|J ⟨I,I,I,Zan,I,UA,I,UA,I,UA,I,UA,I⟩ (rg []<|J UA (W.sq (g 3 4 []<|J UB (W.cn<|J (noT rfl) fun _=>(W.skip (g 64 69 []<|J UV (gd 5 75 [[],[],[],[.call (bE (fO {number:=w.number,epoch:=w.epoch,up:=w.up,state:=2,lease:=w.lease,task:=w.task,cost:=0,left:=w.left - 1,inputs:=[],text:=cI t.name w.inputs,since:=0:Worker} 3)) [[],[]]],[],[],[]] ?_)))))))))) (noF SI)
     conv=>whnf
     refine⟨Zap,by kernel_rfl,?_⟩
     refine RT ?_
     rotate_left
     all_goals (rw[lH hup h1 hl,gO,MK ht2];rfl)
    ·have ht2:p.tasks[w.task.toNat]? = none:=List.getElem?_eq_none OM
     have cv:=mB emp w.inputs (by decide) OM hes
     have ct:=bV ⟨w.number,w.epoch,w.up,2,w.lease,w.task,0,w.left - 1,[],cI emp w.inputs,0⟩ 3 OM
     refine bd ?_
     conv=>whnf
     refine g 0 0 []<|J Zcc<|W.sq<|g 7 9 []<|J UC<|W.cn<|J (noT SI) fun _=>W.skip<|W.sq<|g 9 14 []<|J UC<|W.cn<|J (fun h2=>?_) fun h2=>?_
     replace h2:=dt h2
     refine rg [.i (w.since+1)]<|J Zbi<|g 14 19 []<|J UA<|W.sq<|g 19 20 []<|J UB<|W.blk<|g 22 23 []<|J UB<|W.cn<|J (fun _=>(g 20 27 [.i (w.left - 1)]<|J Zbi (g 27 29 []<|J UC (W.cn<|J (fun _=>(g 29 30 []<|J UA (W.sq ?_))) (noF tO))))) (noF tO)
     refine g 30 35 []<|J UF<|W.cn<|J (noT SI) fun _=>W.skip<|g 6 51 [.call (V.s (cI emp w.inputs)) [[],[]]]<|J ⟨I,I,I,Zan,I,UA,I,UA,I,UA,I,UA,I⟩<|rg []<|J UA<|W.sq<|g 3 4 []<|J UB<|W.cn<|J (noT rfl) fun _=>W.skip<|g 64 69 []<|J UV<|gd 5 75 [[],[],[],[.call (bE (fO {number:=w.number,epoch:=w.epoch,up:=w.up,state:=2,lease:=w.lease,task:=w.task,cost:=0,left:=w.left - 1,inputs:=[],text:=cI emp w.inputs,since:=0:Worker} 3)) [[],[]]],[],[],[]] ?_
     conv=>whnf
     refine J Zap<|J KR<|RT ?_
     rotate_left
     replace h2:=df h2
     refine W.skip<|g 14 15 []<|J UA<|W.sq<|g 19 20 []<|J UB<|W.blk<|g 22 23 []<|J UB<|W.cn<|J (fun _=>(g 20 27 [.i (w.left - 1)]<|J Zbi (g 27 29 []<|J UC (W.cn<|J (fun _=>(g 29 30 []<|J UA (W.sq ?_))) (noF tO))))) (noF tO)
     refine g 30 35 []<|J UF<|W.cn<|J (noT SI) fun _=>W.skip<|g 6 51 [.call (V.s (cI emp w.inputs)) [[],[]]]<|J ⟨I,I,I,Zan,I,UA,I,UA,I,UA,I,UA,I⟩<|rg []<|J UA<|W.sq<|g 3 4 []<|J UB<|W.cn<|J (noT rfl) fun _=>W.skip<|g 64 69 []<|J UV<|gd 5 75 [[],[],[],[.call (bE (fO {number:=w.number,epoch:=w.epoch,up:=w.up,state:=2,lease:=w.lease,task:=w.task,cost:=0,left:=w.left - 1,inputs:=[],text:=cI emp w.inputs,since:=0:Worker} 3)) [[],[]]],[],[],[]] ?_
     conv=>whnf
     refine J Zap<|J KR<|RT ?_
     rotate_left
     all_goals (rw[lH hup h1 hl,gO,JC ht2];rfl)
   ·skip
    by_cases hs:w.since < 1000000
    ·have e:aZ w = w.since+1:=if_pos hs
     by_cases h4:4≤aZ w
     ·have ct:=bV (cP (nl w) 0) 2 OM
      have h5:=h4
      rw[e]at h5
      refine bd ?_
      conv=>whnf
      refine g 0 0 []<|J Zcc<|W.sq<|g 7 9 []<|J UC<|W.cn<|J (noT SI) fun _=>W.skip<|W.sq<|g 9 14 []<|J UC<|W.cn<|J (fun _=>(rg [.i (w.since+1)]<|J Zbi (g 14 19 []<|J UA (W.sq (g 19 20 []<|J UB ?_))))) (noF tO)
      refine W.blk<|g 22 23 []<|J UB<|W.cn<|J (fun _=>(g 20 27 [.i (w.left - 1)]<|J Zbi (g 27 29 []<|J UC (W.cn<|J (noT dO) fun _=>(g 29 53 []<|J UC (W.cn<|J (fun _=>(rg []<|J UA (W.sq (g 53 65 []<|J UB (W.cn<|J (noT rfl) fun _=>?_))))) (noF tO))))))) (noF tO)
      refine W.skip<|g 65 69 []<|J UV<|gd 5 75 [[],[],[],[.call (bE (fO (cP (nl w) 0) 2)) [[],[]]],[],[],[]] ?_
      conv=>whnf
      refine J Zap<|J KR<|RT ?_
      rw[lI hup h1 hl h4];rfl
     ·have h5:=h4
      rw[e]at h5
      refine bd ?_
      conv=>whnf
      refine g 0 0 []<|J Zcc<|W.sq<|g 7 9 []<|J UC<|W.cn<|J (noT SI) fun _=>W.skip<|W.sq<|g 9 14 []<|J UC<|W.cn<|J (fun _=>(rg [.i (w.since+1)]<|J Zbi (g 14 19 []<|J UA (W.sq (g 19 20 []<|J UB ?_))))) (noF tO)
      refine W.blk<|g 22 23 []<|J UB<|W.cn<|J (fun _=>(g 20 27 [.i (w.left - 1)]<|J Zbi (g 27 29 []<|J UC (W.cn<|J (noT dO) fun _=>(g 29 53 []<|J UC (W.cn<|J (noT dO) fun _=>(W.skip (W.sq (g 53 65 []<|J UB (W.cn<|J (fun _=>?_) (noF rfl))))))))))) (noF tO)
      refine g 65 68 []<|J ⟨I,I,UL,I⟩<|RT ?_
      rw[vg hup h1 hl h4,e];rfl
    ·have e:aZ w = w.since:=if_neg hs
     by_cases h4:4≤aZ w
     ·have ct:=bV (cP (nl w) 0) 2 OM
      have h5:=h4
      rw[e]at h5
      refine bd ?_
      conv=>whnf
      refine g 0 0 []<|J Zcc<|W.sq<|g 7 9 []<|J UC<|W.cn<|J (noT SI) fun _=>W.skip<|W.sq<|g 9 14 []<|J UC<|W.cn<|J (noT dO) fun _=>W.skip<|g 14 15 []<|J UA<|W.sq<|g 19 20 []<|J UB ?_
      refine W.blk<|g 22 23 []<|J UB<|W.cn<|J (fun _=>(g 20 27 [.i (w.left - 1)]<|J Zbi (g 27 29 []<|J UC (W.cn<|J (noT dO) fun _=>(g 29 53 []<|J UC (W.cn<|J (fun _=>(rg []<|J UA (W.sq (g 53 65 []<|J UB (W.cn<|J (noT rfl) fun _=>?_))))) (noF tO))))))) (noF tO)
      refine W.skip<|g 65 69 []<|J UV<|gd 5 75 [[],[],[],[.call (bE (fO (cP (nl w) 0) 2)) [[],[]]],[],[],[]] ?_
      conv=>whnf
      refine J Zap<|J KR<|RT ?_
      rw[lI hup h1 hl h4];rfl
     ·exfalso;omega
  ·skip
   by_cases hs:w.since < 1000000
   ·have e:aZ w = w.since+1:=if_pos hs
    by_cases h4:4≤aZ w
    ·have ct:=bV (cP w 0) 3 OM
     have h5:=h4
     rw[e]at h5
     refine bd ?_
     conv=>whnf
     refine g 0 0 []<|J Zcc<|W.sq<|g 7 9 []<|J UC<|W.cn<|J (noT SI) fun _=>W.skip<|W.sq<|g 9 14 []<|J UC<|W.cn<|J (fun _=>(rg [.i (w.since+1)]<|J Zbi (g 14 19 []<|J UA (W.sq (g 19 20 []<|J UB ?_))))) (noF tO)
     refine W.blk<|g 22 23 []<|J UB<|W.cn<|J (noT dO) fun _=>g 3 4 []<|J UB<|W.cn<|J (fun _=>(g 20 58 []<|J UC (W.cn<|J (fun _=>(rg []<|J UA (W.sq (g 58 65 []<|J UB (W.cn<|J (noT rfl) fun _=>(W.skip ?_)))))) (noF tO)))) (noF tO)
     refine g 65 69 []<|J UV<|gd 5 75 [[],[],[],[.call (bE (fO (cP w 0) 3)) [[],[]]],[],[],[]] ?_
     conv=>whnf
     refine J Zap<|J KR<|RT ?_
     rw[lF hup h1 h4];rfl
    ·have h5:=h4
     rw[e]at h5
     refine bd ?_
     conv=>whnf
     refine g 0 0 []<|J Zcc<|W.sq<|g 7 9 []<|J UC<|W.cn<|J (noT SI) fun _=>W.skip<|W.sq<|g 9 14 []<|J UC<|W.cn<|J (fun _=>(rg [.i (w.since+1)]<|J Zbi (g 14 19 []<|J UA (W.sq (g 19 20 []<|J UB ?_))))) (noF tO)
     refine W.blk<|g 22 23 []<|J UB<|W.cn<|J (noT dO) fun _=>g 3 4 []<|J UB<|W.cn<|J (fun _=>(g 20 58 []<|J UC (W.cn<|J (noT dO) fun _=>(W.skip (W.sq (g 58 65 []<|J UB (W.cn<|J (fun _=>(g 65 68 []<|J ⟨I,I,UL,I⟩ ?_)) (noF rfl)))))))) (noF tO)
     refine RT ?_
     rw[qo hup h1 h4,e];rfl
   ·have e:aZ w = w.since:=if_neg hs
    by_cases h4:4≤aZ w
    ·have ct:=bV (cP w 0) 3 OM
     have h5:=h4
     rw[e]at h5
     refine bd ?_
     conv=>whnf
     refine g 0 0 []<|J Zcc<|W.sq<|g 7 9 []<|J UC<|W.cn<|J (noT SI) fun _=>W.skip<|W.sq<|g 9 14 []<|J UC<|W.cn<|J (noT dO) fun _=>W.skip<|g 14 15 []<|J UA<|W.sq<|g 19 20 []<|J UB ?_
     refine W.blk<|g 22 23 []<|J UB<|W.cn<|J (noT dO) fun _=>g 3 4 []<|J UB<|W.cn<|J (fun _=>(g 20 58 []<|J UC (W.cn<|J (fun _=>(rg []<|J UA (W.sq (g 58 65 []<|J UB (W.cn<|J (noT rfl) fun _=>(W.skip ?_)))))) (noF tO)))) (noF tO)
     refine g 65 69 []<|J UV<|gd 5 75 [[],[],[],[.call (bE (fO (cP w 0) 3)) [[],[]]],[],[],[]] ?_
     conv=>whnf
     refine J Zap<|J KR<|RT ?_
     rw[lF hup h1 h4];rfl
    ·exfalso;omega
theorem rH(w:Worker)(p:Plan)(hp:dv p)(hll:w.inputs.length≤1048576):F ri [.val (dZ w),.val (cR p)] (pE (fN w p)) [[],[]]:=by
 have cp:=de p hp
 by_cases h:av w
 ·by_cases hc:aq p.tasks = 0
  ·rw[hc]at cp
   obtain⟨⟨f1,f2⟩,⟨f3,f4⟩,f5,f6⟩:=Jx h
   by_cases hup:w.up = false
   ·refine aU ?_
    conv=>whnf
    refine g 0 0 []<|J Zcc<|W.sq<|g 8 15 [.call (V.b (decide (av w))) [[]],BF,BF,.call (V.i 0) [[]],BF,BF]<|J ⟨I,⟨UA,I,⟨UK,I⟩,UA,au _ OM⟩,I,I,⟨nO,I⟩,Zbn,⟨nO,I⟩,nO,I⟩<|W.cn<|J (noT rfl) fun _=>W.skip<|g 15 19 [.call (aD w) [[]]]<|J ⟨I,⟨UA,I,⟨UK,I⟩,UA,aE _ OM⟩,I,UK,I⟩<|W.sq<|g 19 21 []<|J UC<|W.cn<|J (fun _=>(g 21 24 []<|J ⟨I,I,UL,I⟩ (RT ?_))) (noF (nbT AS))
    rw[er h hc,vf hup];rfl
   ·rcases Bl h with h1|h1|h1
    ·skip
     by_cases hs:w.since < 1000000
     ·have e:aZ w = w.since+1:=if_pos hs
      by_cases h4:3≤aZ w
      ·have ct:=dH (cP w 0) 5 OM
       have h5:=h4
       rw[e]at h5
       refine aU ?_
       conv=>whnf
       refine g 0 0 []<|J Zcc<|W.sq<|g 8 15 [.call (V.b (decide (av w))) [[]],BF,BF,.call (V.i 0) [[]],BF,BF]<|J ⟨I,⟨UA,I,⟨UK,I⟩,UA,au _ OM⟩,I,I,⟨nO,I⟩,Zbn,⟨nO,I⟩,nO,I⟩<|W.cn<|J (noT rfl) fun _=>W.skip<|g 15 19 [.call (aD w) [[]]]<|J ⟨I,⟨UA,I,⟨UK,I⟩,UA,aE _ OM⟩,I,UK,I⟩<|W.sq<|g 19 21 []<|J UC<|W.cn<|J (noT SI) fun _=>W.skip<|W.sq<|g 21 26 []<|J UC ?_
       refine W.cn<|J (fun _=>(rg [.i (w.since+1)]<|J Zbi (g 26 31 []<|J UA (W.sq (g 2 3 []<|J UB (W.blk (g 31 32 []<|J UB (W.cn<|J (noT dO) fun _=>(g 32 38 []<|J UB (W.cn<|J (noT dO) fun _=>(g 33 35 []<|J UC (W.cn<|J (fun _=>?_) (noF tO))))))))))))) (noF tO)
       refine rg []<|J UA<|W.sq<|g 35 76 []<|J UB<|W.cn<|J (noT rfl) fun _=>W.skip<|g 76 80 []<|J UV<|gd 5 86 [[],[],[],[.call (bE (fO (cP w 0) 5)) [[],[]]],[],[],[]] ?_
       conv=>whnf
       refine J Zap<|J KR<|RT ?_
       rw[er h hc,lG hup h1 h4];rfl
      ·have h5:=h4
       rw[e]at h5
       refine aU ?_
       conv=>whnf
       refine g 0 0 []<|J Zcc<|W.sq<|g 8 15 [.call (V.b (decide (av w))) [[]],BF,BF,.call (V.i 0) [[]],BF,BF]<|J ⟨I,⟨UA,I,⟨UK,I⟩,UA,au _ OM⟩,I,I,⟨nO,I⟩,Zbn,⟨nO,I⟩,nO,I⟩<|W.cn<|J (noT rfl) fun _=>W.skip<|g 15 19 [.call (aD w) [[]]]<|J ⟨I,⟨UA,I,⟨UK,I⟩,UA,aE _ OM⟩,I,UK,I⟩<|W.sq<|g 19 21 []<|J UC<|W.cn<|J (noT SI) fun _=>W.skip<|W.sq<|g 21 26 []<|J UC ?_
       refine W.cn<|J (fun _=>(rg [.i (w.since+1)]<|J Zbi (g 26 31 []<|J UA (W.sq (g 2 3 []<|J UB (W.blk (g 31 32 []<|J UB (W.cn<|J (noT dO) fun _=>(g 32 38 []<|J UB (W.cn<|J (noT dO) fun _=>(g 33 35 []<|J UC (W.cn<|J (noT dO) fun _=>?_)))))))))))) (noF tO)
       refine W.skip<|W.sq<|g 35 76 []<|J UB<|W.cn<|J (fun _=>(g 76 79 []<|J ⟨I,I,UL,I⟩ (RT ?_))) (noF rfl)
       rw[er h hc,qp hup h1 h4,e];rfl
     ·have e:aZ w = w.since:=if_neg hs
      by_cases h4:3≤aZ w
      ·have ct:=dH (cP w 0) 5 OM
       have h5:=h4
       rw[e]at h5
       refine aU ?_
       conv=>whnf
       refine g 0 0 []<|J Zcc<|W.sq<|g 8 15 [.call (V.b (decide (av w))) [[]],BF,BF,.call (V.i 0) [[]],BF,BF]<|J ⟨I,⟨UA,I,⟨UK,I⟩,UA,au _ OM⟩,I,I,⟨nO,I⟩,Zbn,⟨nO,I⟩,nO,I⟩<|W.cn<|J (noT rfl) fun _=>W.skip<|g 15 19 [.call (aD w) [[]]]<|J ⟨I,⟨UA,I,⟨UK,I⟩,UA,aE _ OM⟩,I,UK,I⟩<|W.sq<|g 19 21 []<|J UC<|W.cn<|J (noT SI) fun _=>W.skip<|W.sq<|g 21 26 []<|J UC ?_
       refine W.cn<|J (noT dO) fun _=>W.skip<|g 2 3 []<|J UA<|W.sq<|g 26 32 []<|J UB<|W.blk<|g 37 38 []<|J UB<|W.cn<|J (noT dO) fun _=>g 32 37 []<|J UB<|W.cn<|J (noT dO) fun _=>g 33 35 []<|J UC<|W.cn<|J (fun _=>?_) (noF tO)
       refine rg []<|J UA<|W.sq<|g 35 76 []<|J UB<|W.cn<|J (noT rfl) fun _=>W.skip<|g 76 80 []<|J UV<|gd 5 86 [[],[],[],[.call (bE (fO (cP w 0) 5)) [[],[]]],[],[],[]] ?_
       conv=>whnf
       refine J Zap<|J KR<|RT ?_
       rw[er h hc,lG hup h1 h4];rfl
      ·exfalso;omega
    ·have hb:=Ap h h1
     obtain⟨hl8,hes,htt⟩:=E3 hb
     obtain⟨_,⟨_,b3,b4⟩,⟨b5,b6⟩,⟨b7,b8⟩,_⟩:=hb
     by_cases hl:w.left - 1 = 0
     ·by_cases ht:w.task < p.tasks.length
      ·obtain⟨t,ht2⟩:=af (xs:=p.tasks) (n:=w.task.toNat) OM
       obtain⟨⟨g1,g2⟩,_⟩:=b9 hc ht2
       have cv:=mw t.name w.inputs OM OM OM hes
       have ct:=dH ⟨w.number,w.epoch,w.up,2,w.lease,w.task,0,w.left - 1,[],cI t.name w.inputs,0⟩ 3 OM
       refine aU ?_
       conv=>whnf
       refine g 0 0 []<|J Zcc<|W.sq<|g 8 15 [.call (V.b (decide (av w))) [[]],BF,BF,.call (V.i 0) [[]],BF,BF]<|J ⟨I,⟨UA,I,⟨UK,I⟩,UA,au _ OM⟩,I,I,⟨nO,I⟩,Zbn,⟨nO,I⟩,nO,I⟩<|W.cn<|J (noT rfl) fun _=>W.skip<|g 15 19 [.call (aD w) [[]]]<|J ⟨I,⟨UA,I,⟨UK,I⟩,UA,aE _ OM⟩,I,UK,I⟩<|W.sq<|g 19 21 []<|J UC<|W.cn<|J (noT SI) fun _=>W.skip<|W.sq<|g 21 26 []<|J UC ?_
       refine W.cn<|J (fun h2=>?_) fun h2=>?_
       replace h2:=dt h2
       refine rg [.i (w.since+1)]<|J Zbi<|g 26 31 []<|J UA<|W.sq<|g 2 3 []<|J UB<|W.blk<|g 31 32 []<|J UB<|W.cn<|J (fun _=>(g 32 42 [.i (w.left - 1)]<|J Zbi (g 42 44 []<|J UC (W.cn<|J (fun _=>(g 44 45 []<|J UA (W.sq ?_))) (noF tO))))) (noF tO)
       refine g 45 50 []<|J UF<|W.cn<|J (fun _=>(rg [.x (ay t)]<|J Zc3 (g 7 63 [.call (V.s (cI t.name w.inputs)) [[],[]]]<|J Zd1 (g 3 4 []<|J UV (g 63 65 []<|J UV (g 65 67 []<|J Zek (rg []<|J UA (W.sq (g 75 76 []<|J UB (W.cn<|J (noT rfl) fun _=>(W.skip ?_))))))))))) (noF SI)
       refine g 76 80 []<|J UV<|gd 5 86 [[],[],[],[.call (bE (fO {number:=w.number,epoch:=w.epoch,up:=w.up,state:=2,lease:=w.lease,task:=w.task,cost:=0,left:=w.left - 1,inputs:=[],text:=cI t.name w.inputs,since:=0:Worker} 3)) [[],[]]],[],[],[]] ?_
       conv=>whnf
       refine J Zap<|J KR<|RT ?_
       rotate_left
       replace h2:=df h2
       refine W.skip<|g 2 3 []<|J UA<|W.sq<|g 26 32 []<|J UB<|W.blk<|g 37 38 []<|J UB<|W.cn<|J (fun _=>(g 32 42 [.i (w.left - 1)]<|J Zbi (g 42 44 []<|J UC (W.cn<|J (fun _=>(g 44 45 []<|J UA (W.sq ?_))) (noF tO))))) (noF tO)
       refine g 45 50 []<|J UF<|W.cn<|J (fun _=>(rg [.x (ay t)]<|J Zc3 (g 7 63 [.call (V.s (cI t.name w.inputs)) [[],[]]]<|J Zd1 (g 3 4 []<|J UV (g 63 65 []<|J UV (g 65 67 []<|J Zek (rg []<|J UA (W.sq (g 75 76 []<|J UB (W.cn<|J (noT rfl) fun _=>(W.skip ?_))))))))))) (noF SI)
       refine g 76 80 []<|J UV<|gd 5 86 [[],[],[],[.call (bE (fO {number:=w.number,epoch:=w.epoch,up:=w.up,state:=2,lease:=w.lease,task:=w.task,cost:=0,left:=w.left - 1,inputs:=[],text:=cI t.name w.inputs,since:=0:Worker} 3)) [[],[]]],[],[],[]] ?_
       conv=>whnf
       refine J Zap<|J KR<|RT ?_
       rotate_left
       all_goals (rw[er h hc,lH hup h1 hl,gO,MK ht2];rfl)
      ·have ht2:p.tasks[w.task.toNat]? = none:=List.getElem?_eq_none OM
       have cv:=mw emp w.inputs (by decide) OM OM hes
       have ct:=dH ⟨w.number,w.epoch,w.up,2,w.lease,w.task,0,w.left - 1,[],cI emp w.inputs,0⟩ 3 OM
       refine aU ?_
       conv=>whnf
       refine g 0 0 []<|J Zcc<|W.sq<|g 8 15 [.call (V.b (decide (av w))) [[]],BF,BF,.call (V.i 0) [[]],BF,BF]<|J ⟨I,⟨UA,I,⟨UK,I⟩,UA,au _ OM⟩,I,I,⟨nO,I⟩,Zbn,⟨nO,I⟩,nO,I⟩<|W.cn<|J (noT rfl) fun _=>W.skip<|g 15 19 [.call (aD w) [[]]]<|J ⟨I,⟨UA,I,⟨UK,I⟩,UA,aE _ OM⟩,I,UK,I⟩<|W.sq<|g 19 21 []<|J UC<|W.cn<|J (noT SI) fun _=>W.skip<|W.sq<|g 21 26 []<|J UC ?_
       refine W.cn<|J (fun h2=>?_) fun h2=>?_
       replace h2:=dt h2
       refine rg [.i (w.since+1)]<|J Zbi<|g 26 31 []<|J UA<|W.sq<|g 2 3 []<|J UB<|W.blk<|g 31 32 []<|J UB<|W.cn<|J (fun _=>(g 32 42 [.i (w.left - 1)]<|J Zbi (g 42 44 []<|J UC (W.cn<|J (fun _=>(g 44 45 []<|J UA (W.sq ?_))) (noF tO))))) (noF tO)
       refine g 45 50 []<|J UF<|W.cn<|J (noT SI) fun _=>W.skip<|g 7 63 [.call (V.s (cI emp w.inputs)) [[],[]]]<|J Zd1<|g 3 4 []<|J UV<|g 63 65 []<|J UV<|g 65 67 []<|J Zek<|rg []<|J UA<|W.sq<|g 75 76 []<|J UB<|W.cn<|J (noT rfl) fun _=>W.skip ?_
       refine g 76 80 []<|J UV<|gd 5 86 [[],[],[],[.call (bE (fO {number:=w.number,epoch:=w.epoch,up:=w.up,state:=2,lease:=w.lease,task:=w.task,cost:=0,left:=w.left - 1,inputs:=[],text:=cI emp w.inputs,since:=0:Worker} 3)) [[],[]]],[],[],[]] ?_
       conv=>whnf
       refine J Zap<|J KR<|RT ?_
       rotate_left
       replace h2:=df h2
       refine W.skip<|g 2 3 []<|J UA<|W.sq<|g 26 32 []<|J UB<|W.blk<|g 37 38 []<|J UB<|W.cn<|J (fun _=>(g 32 42 [.i (w.left - 1)]<|J Zbi (g 42 44 []<|J UC (W.cn<|J (fun _=>(g 44 45 []<|J UA (W.sq ?_))) (noF tO))))) (noF tO)
       refine g 45 50 []<|J UF<|W.cn<|J (noT SI) fun _=>W.skip<|g 7 63 [.call (V.s (cI emp w.inputs)) [[],[]]]<|J Zd1<|g 3 4 []<|J UV<|g 63 65 []<|J UV<|g 65 67 []<|J Zek<|rg []<|J UA<|W.sq<|g 75 76 []<|J UB<|W.cn<|J (noT rfl) fun _=>W.skip ?_
       refine g 76 80 []<|J UV<|gd 5 86 [[],[],[],[.call (bE (fO {number:=w.number,epoch:=w.epoch,up:=w.up,state:=2,lease:=w.lease,task:=w.task,cost:=0,left:=w.left - 1,inputs:=[],text:=cI emp w.inputs,since:=0:Worker} 3)) [[],[]]],[],[],[]] ?_
       conv=>whnf
       refine J Zap<|J KR<|RT ?_
       rotate_left
       all_goals (rw[er h hc,lH hup h1 hl,gO,JC ht2];rfl)
     ·skip
      by_cases hs:w.since < 1000000
      ·have e:aZ w = w.since+1:=if_pos hs
       by_cases h4:4≤aZ w
       ·have ct:=dH (cP (nl w) 0) 2 OM
        have h5:=h4
        rw[e]at h5
        refine aU ?_
        conv=>whnf
        refine g 0 0 []<|J Zcc<|W.sq<|g 8 15 [.call (V.b (decide (av w))) [[]],BF,BF,.call (V.i 0) [[]],BF,BF]<|J ⟨I,⟨UA,I,⟨UK,I⟩,UA,au _ OM⟩,I,I,⟨nO,I⟩,Zbn,⟨nO,I⟩,nO,I⟩<|W.cn<|J (noT rfl) fun _=>W.skip<|g 15 19 [.call (aD w) [[]]]<|J ⟨I,⟨UA,I,⟨UK,I⟩,UA,aE _ OM⟩,I,UK,I⟩<|W.sq<|g 19 21 []<|J UC<|W.cn<|J (noT SI) fun _=>W.skip<|W.sq<|g 21 26 []<|J UC ?_
        refine W.cn<|J (fun _=>(rg [.i (w.since+1)]<|J Zbi (g 26 31 []<|J UA (W.sq (g 2 3 []<|J UB (W.blk (g 31 32 []<|J UB (W.cn<|J (fun _=>(g 32 42 [.i (w.left - 1)]<|J Zbi (g 42 44 []<|J UC (W.cn<|J (noT dO) fun _=>(g 44 69 []<|J UC ?_))))) (noF tO))))))))) (noF tO)
        refine W.cn<|J (fun _=>(rg []<|J UA (W.sq (g 69 76 []<|J UB (W.cn<|J (noT rfl) fun _=>(W.skip (g 76 80 []<|J UV (gd 5 86 [[],[],[],[.call (bE (fO (cP (nl w) 0) 2)) [[],[]]],[],[],[]] ?_)))))))) (noF tO)
        conv=>whnf
        refine⟨Zap,by kernel_rfl,?_⟩
        refine RT ?_
        rw[er h hc,lI hup h1 hl h4];rfl
       ·have h5:=h4
        rw[e]at h5
        refine aU ?_
        conv=>whnf
        refine g 0 0 []<|J Zcc<|W.sq<|g 8 15 [.call (V.b (decide (av w))) [[]],BF,BF,.call (V.i 0) [[]],BF,BF]<|J ⟨I,⟨UA,I,⟨UK,I⟩,UA,au _ OM⟩,I,I,⟨nO,I⟩,Zbn,⟨nO,I⟩,nO,I⟩<|W.cn<|J (noT rfl) fun _=>W.skip<|g 15 19 [.call (aD w) [[]]]<|J ⟨I,⟨UA,I,⟨UK,I⟩,UA,aE _ OM⟩,I,UK,I⟩<|W.sq<|g 19 21 []<|J UC<|W.cn<|J (noT SI) fun _=>W.skip<|W.sq<|g 21 26 []<|J UC ?_
        refine W.cn<|J (fun _=>(rg [.i (w.since+1)]<|J Zbi (g 26 31 []<|J UA (W.sq (g 2 3 []<|J UB (W.blk (g 31 32 []<|J UB (W.cn<|J (fun _=>(g 32 42 [.i (w.left - 1)]<|J Zbi (g 42 44 []<|J UC (W.cn<|J (noT dO) fun _=>(g 44 69 []<|J UC ?_))))) (noF tO))))))))) (noF tO)
        refine W.cn<|J (noT dO) fun _=>W.skip<|W.sq<|g 69 76 []<|J UB<|W.cn<|J (fun _=>(g 76 79 []<|J ⟨I,I,UL,I⟩ (RT ?_))) (noF rfl)
        rw[er h hc,vg hup h1 hl h4,e];rfl
      ·have e:aZ w = w.since:=if_neg hs
       by_cases h4:4≤aZ w
       ·have ct:=dH (cP (nl w) 0) 2 OM
        have h5:=h4
        rw[e]at h5
        refine aU ?_
        conv=>whnf
        refine g 0 0 []<|J Zcc<|W.sq<|g 8 15 [.call (V.b (decide (av w))) [[]],BF,BF,.call (V.i 0) [[]],BF,BF]<|J ⟨I,⟨UA,I,⟨UK,I⟩,UA,au _ OM⟩,I,I,⟨nO,I⟩,Zbn,⟨nO,I⟩,nO,I⟩<|W.cn<|J (noT rfl) fun _=>W.skip<|g 15 19 [.call (aD w) [[]]]<|J ⟨I,⟨UA,I,⟨UK,I⟩,UA,aE _ OM⟩,I,UK,I⟩<|W.sq<|g 19 21 []<|J UC<|W.cn<|J (noT SI) fun _=>W.skip<|W.sq<|g 21 26 []<|J UC ?_
        refine W.cn<|J (noT dO) fun _=>W.skip<|g 2 3 []<|J UA<|W.sq<|g 26 32 []<|J UB<|W.blk<|g 37 38 []<|J UB<|W.cn<|J (fun _=>(g 32 42 [.i (w.left - 1)]<|J Zbi (g 42 44 []<|J UC (W.cn<|J (noT dO) fun _=>(g 44 69 []<|J UC ?_))))) (noF tO)
        refine W.cn<|J (fun _=>(rg []<|J UA (W.sq (g 69 76 []<|J UB (W.cn<|J (noT rfl) fun _=>(W.skip (g 76 80 []<|J UV (gd 5 86 [[],[],[],[.call (bE (fO (cP (nl w) 0) 2)) [[],[]]],[],[],[]] ?_)))))))) (noF tO)
        conv=>whnf
        refine⟨Zap,by kernel_rfl,?_⟩
        refine RT ?_
        rw[er h hc,lI hup h1 hl h4];rfl
       ·exfalso;omega
    ·skip
     by_cases hs:w.since < 1000000
     ·have e:aZ w = w.since+1:=if_pos hs
      by_cases h4:4≤aZ w
      ·have ct:=dH (cP w 0) 3 OM
       have h5:=h4
       rw[e]at h5
       refine aU ?_
       conv=>whnf
       refine g 0 0 []<|J Zcc<|W.sq<|g 8 15 [.call (V.b (decide (av w))) [[]],BF,BF,.call (V.i 0) [[]],BF,BF]<|J ⟨I,⟨UA,I,⟨UK,I⟩,UA,au _ OM⟩,I,I,⟨nO,I⟩,Zbn,⟨nO,I⟩,nO,I⟩<|W.cn<|J (noT rfl) fun _=>W.skip<|g 15 19 [.call (aD w) [[]]]<|J ⟨I,⟨UA,I,⟨UK,I⟩,UA,aE _ OM⟩,I,UK,I⟩<|W.sq<|g 19 21 []<|J UC<|W.cn<|J (noT SI) fun _=>W.skip<|W.sq<|g 21 26 []<|J UC ?_
       refine W.cn<|J (fun _=>(rg [.i (w.since+1)]<|J Zbi (g 26 31 []<|J UA (W.sq (g 2 3 []<|J UB (W.blk (g 31 32 []<|J UB (W.cn<|J (noT dO) fun _=>(g 32 38 []<|J UB (W.cn<|J (fun _=>(g 70 74 []<|J UC (W.cn<|J (fun _=>?_) (noF tO)))) (noF tO))))))))))) (noF tO)
       refine rg []<|J UA<|W.sq<|g 74 76 []<|J UB<|W.cn<|J (noT rfl) fun _=>W.skip<|g 76 80 []<|J UV<|gd 5 86 [[],[],[],[.call (bE (fO (cP w 0) 3)) [[],[]]],[],[],[]] ?_
       conv=>whnf
       refine J Zap<|J KR<|RT ?_
       rw[er h hc,lF hup h1 h4];rfl
      ·have h5:=h4
       rw[e]at h5
       refine aU ?_
       conv=>whnf
       refine g 0 0 []<|J Zcc<|W.sq<|g 8 15 [.call (V.b (decide (av w))) [[]],BF,BF,.call (V.i 0) [[]],BF,BF]<|J ⟨I,⟨UA,I,⟨UK,I⟩,UA,au _ OM⟩,I,I,⟨nO,I⟩,Zbn,⟨nO,I⟩,nO,I⟩<|W.cn<|J (noT rfl) fun _=>W.skip<|g 15 19 [.call (aD w) [[]]]<|J ⟨I,⟨UA,I,⟨UK,I⟩,UA,aE _ OM⟩,I,UK,I⟩<|W.sq<|g 19 21 []<|J UC<|W.cn<|J (noT SI) fun _=>W.skip<|W.sq<|g 21 26 []<|J UC ?_
       refine W.cn<|J (fun _=>(rg [.i (w.since+1)]<|J Zbi (g 26 31 []<|J UA (W.sq (g 2 3 []<|J UB (W.blk (g 31 32 []<|J UB (W.cn<|J (noT dO) fun _=>(g 32 38 []<|J UB (W.cn<|J (fun _=>(g 70 74 []<|J UC (W.cn<|J (noT dO) fun _=>?_))) (noF tO))))))))))) (noF tO)
       refine W.skip<|W.sq<|g 74 76 []<|J UB<|W.cn<|J (fun _=>(g 76 79 []<|J ⟨I,I,UL,I⟩ (RT ?_))) (noF rfl)
       rw[er h hc,qo hup h1 h4,e];rfl
     ·have e:aZ w = w.since:=if_neg hs
      by_cases h4:4≤aZ w
      ·have ct:=dH (cP w 0) 3 OM
       have h5:=h4
       rw[e]at h5
       refine aU ?_
       conv=>whnf
       refine g 0 0 []<|J Zcc<|W.sq<|g 8 15 [.call (V.b (decide (av w))) [[]],BF,BF,.call (V.i 0) [[]],BF,BF]<|J ⟨I,⟨UA,I,⟨UK,I⟩,UA,au _ OM⟩,I,I,⟨nO,I⟩,Zbn,⟨nO,I⟩,nO,I⟩<|W.cn<|J (noT rfl) fun _=>W.skip<|g 15 19 [.call (aD w) [[]]]<|J ⟨I,⟨UA,I,⟨UK,I⟩,UA,aE _ OM⟩,I,UK,I⟩<|W.sq<|g 19 21 []<|J UC<|W.cn<|J (noT SI) fun _=>W.skip<|W.sq<|g 21 26 []<|J UC ?_
       refine W.cn<|J (noT dO) fun _=>W.skip<|g 2 3 []<|J UA<|W.sq<|g 26 32 []<|J UB<|W.blk<|g 37 38 []<|J UB<|W.cn<|J (noT dO) fun _=>g 32 37 []<|J UB<|W.cn<|J (fun _=>(g 70 74 []<|J UC (W.cn<|J (fun _=>?_) (noF tO)))) (noF tO)
       refine rg []<|J UA<|W.sq<|g 74 76 []<|J UB<|W.cn<|J (noT rfl) fun _=>W.skip<|g 76 80 []<|J UV<|gd 5 86 [[],[],[],[.call (bE (fO (cP w 0) 3)) [[],[]]],[],[],[]] ?_
       conv=>whnf
       refine J Zap<|J KR<|RT ?_
       rw[er h hc,lF hup h1 h4];rfl
      ·exfalso;omega
  ·rw[I1 (fun q=>hc q.2)]
   refine aU ?_
   conv=>whnf
   refine g 0 0 []<|J Zcc<|W.sq<|g 8 15 [.call (V.b (decide (av w))) [[]],BF,BF,.call (V.i (aq p.tasks)) [[]],BF,BF]<|J ⟨I,⟨UA,I,⟨UK,I⟩,UA,au _ OM⟩,I,I,⟨nO,I⟩,Zbn,⟨nO,I⟩,nO,I⟩<|W.cn<|J (fun _=>(g 15 17 []<|J Zdw (RT ?_))) (noF (ag OM))
   rfl
 ·rw[I1 (fun q=>h q.1)]
  refine aU ?_
  conv=>whnf
  refine g 0 0 []<|J Zcc<|W.sq<|g 8 15 [.call (V.b (decide (av w))) [[]],BT,BT,BT,BT]<|J ⟨I,⟨UA,I,⟨UK,I⟩,UA,au _ OM⟩,I,I,ag OM,ag OM,ag OM,ag OM,I⟩<|W.cn<|J (fun _=>(g 15 17 []<|J Zdw (RT ?_))) (noF rfl)
  rfl
end Go.K
end
section
open Go Go.Tm Go.Proofs
namespace Go.K
theorem Gw(x:Log)(left:Int)(hw:TK x)(h:left≤1048576)(h0:0≤left):F FM [.val (PT x),.val (.i left)] (.i (if left - bh x < 0 then -1 else left - bh x)) [[],[]]:=by
 have hn0:=bm x.safe
 have hn1:=bm x.loose
 obtain⟨hw0,hw1,hw2,hw3⟩:=hw
 have hz:bh x = ((x.safe.length:Int) +bQ x.safe) + ((x.loose.length:Int) +bQ x.loose):=rfl
 refine Gc ?_
 conv=>whnf
 refine g 0 1 []<|J ⟨UB,I,I⟩<|g 5 9 [.call (V.i (if left - (↑(List.length x.safe):Int) - bQ x.safe < 0 then(-1)else left - (↑(List.length x.safe):Int) - bQ x.safe)) [[],[]]]<|J ⟨I,I,I,⟨UB,I,UT,UA,fE _ _ OM OM OM OM⟩,I,I⟩<|W.sq<|g 9 10 []<|J UB<|W.cn<|J (fun h1=>?_) fun h1=>?_
 replace h1:=dt h1
 refine g 10 11 []<|J UA<|RT ?_
 exact vi OM
 replace h1:=df h1
 refine W.skip<|g 10 15 [.call (V.i (if(if left - (↑(List.length x.safe):Int) - bQ x.safe < 0 then(-1)else left - (↑(List.length x.safe):Int) - bQ x.safe) - (↑(List.length x.loose):Int) - bQ x.loose < 0 then(-1)else(if left - (↑(List.length x.safe):Int) - bQ x.safe < 0 then(-1)else left - (↑(List.length x.safe):Int) - bQ x.safe) - (↑(List.length x.loose):Int) - bQ x.loose)) [[],[]]]<|J ⟨I,I,I,⟨UB,I,UT,UA,fE _ _ OM OM OM OM⟩,I,I⟩<|W.sq<|g 2 3 []<|J UB<|W.cn<|J (fun h2=>?_) fun h2=>?_
 replace h2:=dt h2
 refine g 15 17 []<|J UA<|RT ?_
 exact vi OM
 replace h2:=df h2
 refine W.skip<|g 15 18 []<|J UB<|RT ?_
 exact vi OM
theorem DP(xs:List Job)(left:Int)(hl:xs.length≤9223372036854775807)(h:left≤1048576)(h0:0≤left):F Ce [.val (.t (.slc eG (xs.map aO))),.val (.i left)] (.i (if left - xs.length < 0 then -1 else left - xs.length)) [[],[]]:=by
 refine CS ?_
 conv=>whnf
 refine g 0 0 []<|J UA<|g 5 9 [.i (left - (↑(List.length (List.map aO xs)):Int))]<|J ⟨I,I,I,w64 LN LN,I,I⟩<|W.sq<|g 0 1 []<|J UB<|W.cn<|J (fun h1=>?_) fun h1=>?_
 replace h1:=dt h1
 simp only[LM]at h1
 refine g 9 11 []<|J UA<|RT ?_
 exact vi OM
 replace h1:=df h1
 simp only[LM]at h1
 refine W.skip<|g 9 12 []<|J UB<|RT ?_
 (simp[*];done)
theorem zy(xs:List Seat)(left:Int)(hl:xs.length≤9223372036854775807)(h:left≤1048576)(h0:0≤left):F yG [.val (.t (.slc cx (xs.map aG))),.val (.i left)] (.i (if left - xs.length < 0 then -1 else left - xs.length)) [[],[]]:=by
 refine yX ?_
 conv=>whnf
 refine g 0 0 []<|J UA<|g 5 9 [.i (left - (↑(List.length (List.map aG xs)):Int))]<|J ⟨I,I,I,w64 LN LN,I,I⟩<|W.sq<|g 0 1 []<|J UB<|W.cn<|J (fun h1=>?_) fun h1=>?_
 replace h1:=dt h1
 simp only[LM]at h1
 refine g 9 11 []<|J UA<|RT ?_
 exact vi OM
 replace h1:=df h1
 simp only[LM]at h1
 refine W.skip<|g 9 12 []<|J UB<|RT ?_
 (simp[*];done)
theorem zz(xs:List Owed)(left:Int)(hl:xs.length≤9223372036854775807)(h:left≤1048576)(h0:0≤left):F yH [.val (.t (.slc cy (xs.map aL))),.val (.i left)] (.i (if left - xs.length < 0 then -1 else left - xs.length)) [[],[]]:=by
 refine yY ?_
 conv=>whnf
 refine g 0 0 []<|J UA<|g 5 9 [.i (left - (↑(List.length (List.map aL xs)):Int))]<|J ⟨I,I,I,w64 LN LN,I,I⟩<|W.sq<|g 0 1 []<|J UB<|W.cn<|J (fun h1=>?_) fun h1=>?_
 replace h1:=dt h1
 simp only[LM]at h1
 refine g 9 11 []<|J UA<|RT ?_
 exact vi OM
 replace h1:=df h1
 simp only[LM]at h1
 refine W.skip<|g 9 12 []<|J UB<|RT ?_
 (simp[*];done)
theorem DR(x:Boss)(left:Int)(hw:Hw x)(h:left≤1048576)(h0:0≤left):F Cg [.val (f0 x),.val (.i left)] (.i (if left - bJ x < 0 then -1 else left - bJ x)) [[],[]]:=by
 have hn0:=Bn x.log
 have hn1:=bm x.results
 obtain⟨hw0,hw1,hw2,hw3,hw4,hw5⟩:=hw
 have hz:bJ x = bh x.log+ ((x.results.length:Int) +bQ x.results) + ((x.jobs.length:Int)) + ((x.seats.length:Int)) + ((x.owed.length:Int)):=rfl
 refine CU ?_
 conv=>whnf
 refine g 0 1 []<|J Zep<|g 5 9 [.call (V.i (if left - bh x.log < 0 then(-1)else left - bh x.log)) [[],[]]]<|J ⟨I,I,I,⟨UB,I,⟨UB,UA,I⟩,UA,Gw _ _ OM OM OM⟩,I,I⟩<|W.sq<|g 9 10 []<|J UB<|W.cn<|J (fun h1=>?_) fun h1=>?_
 replace h1:=dt h1
 refine g 10 11 []<|J UA<|RT ?_
 exact vi OM
 replace h1:=df h1
 refine W.skip<|g 10 15 [.call (V.i (if(if left - bh x.log < 0 then(-1)else left - bh x.log) - (↑(List.length x.results):Int) - bQ x.results < 0 then(-1)else(if left - bh x.log < 0 then(-1)else left - bh x.log) - (↑(List.length x.results):Int) - bQ x.results)) [[],[]]]<|J ⟨I,I,I,⟨UB,I,UT,UA,fE _ _ OM OM OM OM⟩,I,I⟩<|W.sq<|g 15 16 []<|J UB<|W.cn<|J (fun h2=>?_) fun h2=>?_
 replace h2:=dt h2
 refine g 16 17 []<|J UA<|RT ?_
 exact vi OM
 replace h2:=df h2
 refine W.skip<|g 16 21 [.call (V.i (if(if(if left - bh x.log < 0 then(-1)else left - bh x.log) - (↑(List.length x.results):Int) - bQ x.results < 0 then(-1)else(if left - bh x.log < 0 then(-1)else left - bh x.log) - (↑(List.length x.results):Int) - bQ x.results) - (↑(List.length x.jobs):Int) < 0 then(-1)else(if(if left - bh x.log < 0 then(-1)else left - bh x.log) - (↑(List.length x.results):Int) - bQ x.results < 0 then(-1)else(if left - bh x.log < 0 then(-1)else left - bh x.log) - (↑(List.length x.results):Int) - bQ x.results) - (↑(List.length x.jobs):Int))) [[],[]]]<|J ⟨I,I,I,⟨UB,I,UT,UA,DP _ _ OM OM OM⟩,I,I⟩<|W.sq<|g 21 22 []<|J UB<|W.cn<|J (fun h3=>?_) fun h3=>?_
 replace h3:=dt h3
 refine g 22 23 []<|J UA<|RT ?_
 exact vi OM
 replace h3:=df h3
 refine W.skip<|g 22 27 [.call (V.i (if(if(if(if left - bh x.log < 0 then(-1)else left - bh x.log) - (↑(List.length x.results):Int) - bQ x.results < 0 then(-1)else(if left - bh x.log < 0 then(-1)else left - bh x.log) - (↑(List.length x.results):Int) - bQ x.results) - (↑(List.length x.jobs):Int) < 0 then(-1)else(if(if left - bh x.log < 0 then(-1)else left - bh x.log) - (↑(List.length x.results):Int) - bQ x.results < 0 then(-1)else(if left - bh x.log < 0 then(-1)else left - bh x.log) - (↑(List.length x.results):Int) - bQ x.results) - (↑(List.length x.jobs):Int)) - (↑(List.length x.seats):Int) < 0 then(-1)else(if(if(if left - bh x.log < 0 then(-1)else left - bh x.log) - (↑(List.length x.results):Int) - bQ x.results < 0 then(-1)else(if left - bh x.log < 0 then(-1)else left - bh x.log) - (↑(List.length x.results):Int) - bQ x.results) - (↑(List.length x.jobs):Int) < 0 then(-1)else(if(if left - bh x.log < 0 then(-1)else left - bh x.log) - (↑(List.length x.results):Int) - bQ x.results < 0 then(-1)else(if left - bh x.log < 0 then(-1)else left - bh x.log) - (↑(List.length x.results):Int) - bQ x.results) - (↑(List.length x.jobs):Int)) - (↑(List.length x.seats):Int))) [[],[]]]<|J ⟨I,I,I,⟨UB,I,UT,UA,zy _ _ OM OM OM⟩,I,I⟩<|W.sq<|g 27 28 []<|J UB<|W.cn<|J (fun h4=>?_) fun h4=>?_
 replace h4:=dt h4
 refine g 28 29 []<|J UA<|RT ?_
 exact vi OM
 replace h4:=df h4
 refine W.skip<|g 28 33 [.call (V.i (if(if(if(if(if left - bh x.log < 0 then(-1)else left - bh x.log) - (↑(List.length x.results):Int) - bQ x.results < 0 then(-1)else(if left - bh x.log < 0 then(-1)else left - bh x.log) - (↑(List.length x.results):Int) - bQ x.results) - (↑(List.length x.jobs):Int) < 0 then(-1)else(if(if left - bh x.log < 0 then(-1)else left - bh x.log) - (↑(List.length x.results):Int) - bQ x.results < 0 then(-1)else(if left - bh x.log < 0 then(-1)else left - bh x.log) - (↑(List.length x.results):Int) - bQ x.results) - (↑(List.length x.jobs):Int)) - (↑(List.length x.seats):Int) < 0 then(-1)else(if(if(if left - bh x.log < 0 then(-1)else left - bh x.log) - (↑(List.length x.results):Int) - bQ x.results < 0 then(-1)else(if left - bh x.log < 0 then(-1)else left - bh x.log) - (↑(List.length x.results):Int) - bQ x.results) - (↑(List.length x.jobs):Int) < 0 then(-1)else(if(if left - bh x.log < 0 then(-1)else left - bh x.log) - (↑(List.length x.results):Int) - bQ x.results < 0 then(-1)else(if left - bh x.log < 0 then(-1)else left - bh x.log) - (↑(List.length x.results):Int) - bQ x.results) - (↑(List.length x.jobs):Int)) - (↑(List.length x.seats):Int)) - (↑(List.length x.owed):Int) < 0 then(-1)else(if(if(if(if left - bh x.log < 0 then(-1)else left - bh x.log) - (↑(List.length x.results):Int) - bQ x.results < 0 then(-1)else(if left - bh x.log < 0 then(-1)else left - bh x.log) - (↑(List.length x.results):Int) - bQ x.results) - (↑(List.length x.jobs):Int) < 0 then(-1)else(if(if left - bh x.log < 0 then(-1)else left - bh x.log) - (↑(List.length x.results):Int) - bQ x.results < 0 then(-1)else(if left - bh x.log < 0 then(-1)else left - bh x.log) - (↑(List.length x.results):Int) - bQ x.results) - (↑(List.length x.jobs):Int)) - (↑(List.length x.seats):Int) < 0 then(-1)else(if(if(if left - bh x.log < 0 then(-1)else left - bh x.log) - (↑(List.length x.results):Int) - bQ x.results < 0 then(-1)else(if left - bh x.log < 0 then(-1)else left - bh x.log) - (↑(List.length x.results):Int) - bQ x.results) - (↑(List.length x.jobs):Int) < 0 then(-1)else(if(if left - bh x.log < 0 then(-1)else left - bh x.log) - (↑(List.length x.results):Int) - bQ x.results < 0 then(-1)else(if left - bh x.log < 0 then(-1)else left - bh x.log) - (↑(List.length x.results):Int) - bQ x.results) - (↑(List.length x.jobs):Int)) - (↑(List.length x.seats):Int)) - (↑(List.length x.owed):Int))) [[],[]]]<|J ⟨I,I,I,⟨UB,I,UT,UA,zz _ _ OM OM OM⟩,I,I⟩<|W.sq<|g 2 3 []<|J UB<|W.cn<|J (fun h5=>?_) fun h5=>?_
 replace h5:=dt h5
 refine g 33 35 []<|J UA<|RT ?_
 exact vi OM
 replace h5:=df h5
 refine W.skip<|g 33 36 []<|J UB<|RT ?_
 exact vi OM
theorem Gu(x:Log)(h:bh x≤1048576):F FK [.val (PT x)] (PU x) [[]]:=by
 have hn0:=bm x.safe
 have hn1:=bm x.loose
 have hz:bh x = ((x.safe.length:Int) +bQ x.safe) + ((x.loose.length:Int) +bQ x.loose):=rfl
 refine Ga ?_
 conv=>whnf
 refine g 0 1 []<|J ⟨UB,I,I⟩<|g 0 0 []<|J UA<|g 4 8 [.call (V.own [false] (List.map aj x.safe)) [[]]]<|J ⟨I,I,⟨UA,I,US,UA,fD _ OM⟩,I,UA,I⟩<|g 8 12 [.call (V.own [false] (List.map aj x.loose)) [[]]]<|J ⟨I,I,⟨UA,I,US,UA,fD _ OM⟩,I,UA,I⟩<|g 3 13 []<|J ⟨I,UB,I⟩<|RT ?_
 rfl
theorem Gv(x:Job):F FL [.val (XB x)] (Yp x) [[]]:=by
 refine Gb ?_
 conv=>whnf
 refine g 0 1 []<|J ⟨UC,I,I⟩<|g 0 0 []<|J UA<|g 4 7 []<|J UW<|g 7 10 []<|J UW<|g 10 13 []<|J UW<|g 3 14 []<|J Zd8<|RT ?_
 rfl
theorem DJ(xs:List Job)(h:(xs.length:Int)≤1048576):F B9 [.val (.t (.slc eG (xs.map aO)))] (.own eG (xs.map aO)) [[]]:=by
 refine CN ?_
 conv=>whnf
 refine g 0 0 []<|J UA<|g 5 8 [.n (List.length (List.map aO xs))]<|J Zcu<|W.sq<|g 0 0 []<|J UA<|W.blk<|W.lp (fun s (n:Nat)=>⟨[(0,s.s 0),(2,s.s 2),(3,s.s 3),(4,.i n)],[(7,[.own eG (fill aO (aO fR) xs n)])],[]⟩) (fun(n:Nat)=>n≤xs.length) (fun(n:Nat)=>xs.length - n) (0) [some 7] [] ⟨rfl,Zay,⟨⟨rfl,⟨(congrArg (V.own _) (fB (by simp) rfl)),I⟩⟩,I⟩,I⟩ OM ?_
 intro n hn
 conv=>whnf
 refine W.sq<|g 8 11 []<|J UD<|W.cn<|J (fun h1=>?_) fun h1=>?_
 replace h1:=dt h1
 simp only[LM]at h1
 refine W.skip<|W.sq<|W.blk ?_
 obtain⟨y1,hy1⟩:=af (xs:=xs) (n:=n) OM
 refine rg [.x (aO y1),.call (Yp y1) [[]],.n (n),.x (aO fR)]<|J ⟨I,I,I,I,Zdl,I,⟨UA,I,⟨UC,I⟩,UA,Gv _⟩,Zdj,⟨UC,gT OM⟩,I⟩<|rg [.i ((n:Int) +1)]<|J Zdi ?_
 rotate_left
 replace h1:=df h1
 simp only[LM]at h1
 refine W.exit<|g 3 23 []<|J UB<|RT ?_
 rotate_left
 ·refine⟨n+1,[some 7],[],⟨rfl,Zay,⟨⟨rfl,⟨(congrArg (V.own _) (gS AS)),I⟩⟩,I⟩,I⟩,?_,?_⟩
  rotate_left
  (dsimp only;omega)
  dsimp only
  omega
 ·have e:fill aO (aO fR) xs n = xs.map aO:=gU _ _ _ OM
  rw[←e]
theorem DG(x:Seat):F B6 [.val (TF x)] (Wc x) [[]]:=by
 refine CK ?_
 conv=>whnf
 refine g 0 1 []<|J ⟨UB,I,I⟩<|g 0 0 []<|J UA<|g 4 7 []<|J UW<|g 7 10 []<|J UW<|g 3 11 []<|J ⟨I,UB,I⟩<|RT ?_
 rfl
theorem zu(xs:List Seat)(h:(xs.length:Int)≤1048576):F yB [.val (.t (.slc cx (xs.map aG)))] (.own cx (xs.map aG)) [[]]:=by
 refine yS ?_
 conv=>whnf
 refine g 0 0 []<|J UA<|g 5 8 [.n (List.length (List.map aG xs))]<|J Zcu<|W.sq<|g 0 0 []<|J UA<|W.blk<|W.lp (fun s (n:Nat)=>⟨[(0,s.s 0),(2,s.s 2),(3,s.s 3),(4,.i n)],[(7,[.own cx (fill aG (aG ig) xs n)])],[]⟩) (fun(n:Nat)=>n≤xs.length) (fun(n:Nat)=>xs.length - n) (0) [some 7] [] ⟨rfl,Zay,⟨⟨rfl,⟨(congrArg (V.own _) (fB (by simp) rfl)),I⟩⟩,I⟩,I⟩ OM ?_
 intro n hn
 conv=>whnf
 refine W.sq<|g 8 11 []<|J UD<|W.cn<|J (fun h1=>?_) fun h1=>?_
 replace h1:=dt h1
 simp only[LM]at h1
 refine W.skip<|W.sq<|W.blk ?_
 obtain⟨y1,hy1⟩:=af (xs:=xs) (n:=n) OM
 refine rg [.x (aG y1),.call (Wc y1) [[]],.n (n),.x (aG ig)]<|J ⟨I,I,I,I,Zdl,I,⟨UA,I,⟨UB,I⟩,UA,DG _⟩,Zdj,⟨UB,gT OM⟩,I⟩<|rg [.i ((n:Int) +1)]<|J Zdi ?_
 rotate_left
 replace h1:=df h1
 simp only[LM]at h1
 refine W.exit<|g 3 23 []<|J UB<|RT ?_
 rotate_left
 ·refine⟨n+1,[some 7],[],⟨rfl,Zay,⟨⟨rfl,⟨(congrArg (V.own _) (gS AS)),I⟩⟩,I⟩,I⟩,?_,?_⟩
  rotate_left
  (dsimp only;omega)
  dsimp only
  omega
 ·have e:fill aG (aG ig) xs n = xs.map aG:=gU _ _ _ OM
  rw[←e]
theorem DI(x:Owed):F B8 [.val (TJ x)] (Wh x) [[]]:=by
 refine CM ?_
 conv=>whnf
 refine g 0 1 []<|J ⟨UC,I,I⟩<|g 0 0 []<|J UA<|g 4 7 []<|J UW<|g 7 10 []<|J UW<|g 10 13 []<|J UW<|g 3 14 []<|J Zd8<|RT ?_
 rfl
theorem zw(xs:List Owed)(h:(xs.length:Int)≤1048576):F yC [.val (.t (.slc cy (xs.map aL)))] (.own cy (xs.map aL)) [[]]:=by
 refine yT ?_
 conv=>whnf
 refine g 0 0 []<|J UA<|g 5 8 [.n (List.length (List.map aL xs))]<|J Zcu<|W.sq<|g 0 0 []<|J UA<|W.blk<|W.lp (fun s (n:Nat)=>⟨[(0,s.s 0),(2,s.s 2),(3,s.s 3),(4,.i n)],[(7,[.own cy (fill aL (aL L8) xs n)])],[]⟩) (fun(n:Nat)=>n≤xs.length) (fun(n:Nat)=>xs.length - n) (0) [some 7] [] ⟨rfl,Zay,⟨⟨rfl,⟨(congrArg (V.own _) (fB (by simp) rfl)),I⟩⟩,I⟩,I⟩ OM ?_
 intro n hn
 conv=>whnf
 refine W.sq<|g 8 11 []<|J UD<|W.cn<|J (fun h1=>?_) fun h1=>?_
 replace h1:=dt h1
 simp only[LM]at h1
 refine W.skip<|W.sq<|W.blk ?_
 obtain⟨y1,hy1⟩:=af (xs:=xs) (n:=n) OM
 refine rg [.x (aL y1),.call (Wh y1) [[]],.n (n),.x (aL L8)]<|J ⟨I,I,I,I,Zdl,I,⟨UA,I,⟨UC,I⟩,UA,DI _⟩,Zdj,⟨UC,gT OM⟩,I⟩<|rg [.i ((n:Int) +1)]<|J Zdi ?_
 rotate_left
 replace h1:=df h1
 simp only[LM]at h1
 refine W.exit<|g 3 23 []<|J UB<|RT ?_
 rotate_left
 ·refine⟨n+1,[some 7],[],⟨rfl,Zay,⟨⟨rfl,⟨(congrArg (V.own _) (gS AS)),I⟩⟩,I⟩,I⟩,?_,?_⟩
  rotate_left
  (dsimp only;omega)
  dsimp only
  omega
 ·have e:fill aL (aL L8) xs n = xs.map aL:=gU _ _ _ OM
  rw[←e]
theorem DL(x:Boss)(h:bJ x≤1048576):F Cb [.val (f0 x)] (aN x) [[]]:=by
 have hn0:=Bn x.log
 have hn1:=bm x.results
 have hz:bJ x = bh x.log+ ((x.results.length:Int) +bQ x.results) + ((x.jobs.length:Int)) + ((x.seats.length:Int)) + ((x.owed.length:Int)):=rfl
 refine CP ?_
 conv=>whnf
 refine g 0 1 []<|J Zep<|g 0 0 []<|J UA<|g 4 7 []<|J UW<|g 7 10 []<|J UW<|g 10 13 []<|J UW<|g 13 16 []<|J UW<|g 16 19 []<|J UW<|g 19 22 []<|J UW<|g 22 26 [.call (PU x.log) [[]]]<|J ⟨I,I,⟨UA,I,⟨UB,I⟩,UA,Gu _ OM⟩,I,UB,I⟩<|g 26 30 [.call (V.own [false] (List.map aj x.results)) [[]]]<|J ⟨I,I,⟨UA,I,US,UA,fD _ OM⟩,I,UA,I⟩<|g 30 34 [.call (V.own eG (List.map aO x.jobs)) [[]]]<|J ⟨I,I,⟨UA,I,US,UA,DJ _ OM⟩,I,UA,I⟩<|g 34 38 [.call (V.own cx (List.map aG x.seats)) [[]]]<|J ⟨I,I,⟨UA,I,US,UA,zu _ OM⟩,I,UA,I⟩ ?_
 refine g 38 40 [.call (V.own cy (List.map aL x.owed)) [[]]]<|J ⟨I,I,⟨UA,I,US,UA,zw _ OM⟩,I,UA,I⟩<|g 41 43 []<|J Zdw<|RT ?_
 rfl
def Ct(a:Log):Prop:=a.safe.length≤9223372036854775806∧a.loose.length≤9223372036854775806
theorem Gx(a b:Log)(hl:Ct a):F FN [.val (PT a),.val (PT b)] (.b (decide (a = b))) [[],[]]:=by
 obtain⟨a_safe,a_loose⟩:=a
 obtain⟨b_safe,b_loose⟩:=b
 simp only[Ct]at hl
 obtain⟨hl0,hl1⟩:=hl
 refine Gd ?_
 conv=>whnf
 refine g 0 2 []<|J ⟨UB,UB,I,I⟩<|W.sq<|g 5 10 [.call (V.b (decide (a_safe = b_safe))) [[],[]]]<|J ⟨I,I,I,I,⟨UB,I,UT,UA,fH _ _ OM⟩,I,I⟩<|W.cn<|J (fun h1=>?_) fun h1=>?_
 replace h1:=ndt h1
 refine g 10 11 []<|J UA<|RT ?_
 rotate_left
 replace h1:=ndf h1
 refine W.skip<|W.sq<|g 10 16 [.call (V.b (decide (a_loose = b_loose))) [[],[]]]<|J ⟨I,I,I,I,⟨UB,I,UT,UA,fH _ _ OM⟩,I,I⟩<|W.cn<|J (fun h2=>?_) fun h2=>?_
 replace h2:=ndt h2
 refine g 2 4 []<|J UA<|RT ?_
 rotate_left
 replace h2:=ndf h2
 refine W.skip<|g 2 4 []<|J UA<|RT ?_
 rotate_left
 all_goals (first|exact vbt (by simp_all;done)|exact vbf (by simp_all;done))
theorem Gy(a b:Job):F FO [.val (XB a),.val (XB b)] (.b (decide (a = b))) [[],[]]:=by
 obtain⟨a_lease,a_worker,a_til⟩:=a
 obtain⟨b_lease,b_worker,b_til⟩:=b
 refine Ge ?_
 conv=>whnf
 refine g 0 2 []<|J ⟨UC,UC,I,I⟩<|W.sq<|g 5 9 []<|J UE<|W.cn<|J (fun h1=>?_) fun h1=>?_
 replace h1:=ndt h1
 refine g 9 10 []<|J UA<|RT ?_
 rotate_left
 replace h1:=ndf h1
 refine W.skip<|W.sq<|g 9 14 []<|J UE<|W.cn<|J (fun h2=>?_) fun h2=>?_
 replace h2:=ndt h2
 refine g 14 15 []<|J UA<|RT ?_
 rotate_left
 replace h2:=ndf h2
 refine W.skip<|W.sq<|g 14 19 []<|J UE<|W.cn<|J (fun h3=>?_) fun h3=>?_
 replace h3:=ndt h3
 refine g 2 4 []<|J UA<|RT ?_
 rotate_left
 replace h3:=ndf h3
 refine W.skip<|g 2 4 []<|J UA<|RT ?_
 rotate_left
 all_goals (first|exact vbt (by simp_all;done)|exact vbf (by simp_all;done))
theorem DW(xs ys:List Job)(hl:xs.length≤9223372036854775806):F Cl [.val (.t (.slc eG (xs.map aO))),.val (.t (.slc eG (ys.map aO)))] (.b (decide (xs = ys))) [[],[]]:=by
 refine CZ ?_
 conv=>whnf
 refine g 0 0 []<|J UA<|W.sq<|g 6 10 []<|J UE<|W.cn<|J (fun h1=>?_) fun h1=>?_
 replace h1:=ndt h1
 simp only[LM]at h1
 refine g 10 11 []<|J UA<|RT ?_
 rotate_left
 replace h1:=ndf h1
 simp only[LM]at h1
 refine W.skip<|W.sq<|g 10 11 []<|J UA<|W.blk ?_
 rotate_left
 ·exact vbf (fun e=>h1 (by rw[e]))
 refine W.lp (fun s (n:Nat)=>⟨[(0,s.s 0),(1,s.s 1),(5,.i n)],[],[]⟩) (fun(n:Nat)=>n≤xs.length∧xs.take n = ys.take n) (fun(n:Nat)=>xs.length - n) (0) [] [] Zbe (by simp) ?_
 rintro n ⟨hn,hc⟩
 conv=>whnf
 refine W.sq<|g 11 14 []<|J UD<|W.cn<|J (fun h2=>?_) fun h2=>?_
 replace h2:=dt h2
 simp only[LM]at h2
 refine W.skip<|W.sq<|W.blk ?_
 obtain⟨y1,hy1⟩:=af (xs:=xs) (n:=n) OM
 obtain⟨y2,hy2⟩:=af (xs:=ys) (n:=n) OM
 refine gd 14 26 [[],[],[.x (aO y1)],[],[],[],[.x (aO y2)],[],[.call (V.b (decide (y1 = y2))) [[],[]]],[]] ?_
 conv=>whnf
 refine J ⟨I,I,Zdl,I,I,I,Zdl,I,⟨UB,I,⟨UC,UC,I⟩,UA,Gy _ _⟩,I,I⟩<|J KR<|W.cn<|J (fun h3=>?_) fun h3=>?_
 replace h3:=ndt h3
 refine g 26 27 []<|J UA<|RT ?_
 rotate_left
 replace h3:=ndf h3
 refine W.skip<|rg [.i ((n:Int) +1)]<|J Zdi ?_
 rotate_left
 replace h2:=df h2
 simp only[LM]at h2
 refine W.exit<|g 0 2 []<|J UA<|RT ?_
 rotate_left
 ·exact vbf (fun e=>by subst e;rw[hy1]at hy2;cases hy2;exact h3 rfl)
 ·refine⟨n+1,[],[],Zbe,?_,?_⟩
  rotate_left
  (dsimp only;omega)
  dsimp only
  exact⟨by omega,jT hc hy1 (by rw[hy2];exact congrArg some (Eq.symm h3))⟩
 ·exact vbt (by rw[aF OM,aF OM]at hc;exact hc)
theorem DT(a b:Seat):F Ci [.val (TF a),.val (TF b)] (.b (decide (a = b))) [[],[]]:=by
 obtain⟨a_free,a_epoch⟩:=a
 obtain⟨b_free,b_epoch⟩:=b
 refine CW ?_
 conv=>whnf
 refine g 0 2 []<|J ⟨UB,UB,I,I⟩<|W.sq<|g 5 9 []<|J UE<|W.cn<|J (fun h1=>?_) fun h1=>?_
 replace h1:=nbt h1
 refine g 9 10 []<|J UA<|RT ?_
 rotate_left
 replace h1:=nbf h1
 refine W.skip<|W.sq<|g 9 14 []<|J UE<|W.cn<|J (fun h2=>?_) fun h2=>?_
 replace h2:=ndt h2
 refine g 2 4 []<|J UA<|RT ?_
 rotate_left
 replace h2:=ndf h2
 refine W.skip<|g 2 4 []<|J UA<|RT ?_
 rotate_left
 all_goals (first|exact vbt (by simp_all;done)|exact vbf (by simp_all;done))
theorem zD(xs ys:List Seat)(hl:xs.length≤9223372036854775806):F yM [.val (.t (.slc cx (xs.map aG))),.val (.t (.slc cx (ys.map aG)))] (.b (decide (xs = ys))) [[],[]]:=by
 refine ze ?_
 conv=>whnf
 refine g 0 0 []<|J UA<|W.sq<|g 6 10 []<|J UE<|W.cn<|J (fun h1=>?_) fun h1=>?_
 replace h1:=ndt h1
 simp only[LM]at h1
 refine g 10 11 []<|J UA<|RT ?_
 rotate_left
 replace h1:=ndf h1
 simp only[LM]at h1
 refine W.skip<|W.sq<|g 10 11 []<|J UA<|W.blk ?_
 rotate_left
 ·exact vbf (fun e=>h1 (by rw[e]))
 refine W.lp (fun s (n:Nat)=>⟨[(0,s.s 0),(1,s.s 1),(5,.i n)],[],[]⟩) (fun(n:Nat)=>n≤xs.length∧xs.take n = ys.take n) (fun(n:Nat)=>xs.length - n) (0) [] [] Zbe (by simp) ?_
 rintro n ⟨hn,hc⟩
 conv=>whnf
 refine W.sq<|g 11 14 []<|J UD<|W.cn<|J (fun h2=>?_) fun h2=>?_
 replace h2:=dt h2
 simp only[LM]at h2
 refine W.skip<|W.sq<|W.blk ?_
 obtain⟨y1,hy1⟩:=af (xs:=xs) (n:=n) OM
 obtain⟨y2,hy2⟩:=af (xs:=ys) (n:=n) OM
 refine gd 14 26 [[],[],[.x (aG y1)],[],[],[],[.x (aG y2)],[],[.call (V.b (decide (y1 = y2))) [[],[]]],[]] ?_
 conv=>whnf
 refine J ⟨I,I,Zdl,I,I,I,Zdl,I,⟨UB,I,⟨UB,UB,I⟩,UA,DT _ _⟩,I,I⟩<|J KR<|W.cn<|J (fun h3=>?_) fun h3=>?_
 replace h3:=ndt h3
 refine g 26 27 []<|J UA<|RT ?_
 rotate_left
 replace h3:=ndf h3
 refine W.skip<|rg [.i ((n:Int) +1)]<|J Zdi ?_
 rotate_left
 replace h2:=df h2
 simp only[LM]at h2
 refine W.exit<|g 0 2 []<|J UA<|RT ?_
 rotate_left
 ·exact vbf (fun e=>by subst e;rw[hy1]at hy2;cases hy2;exact h3 rfl)
 ·refine⟨n+1,[],[],Zbe,?_,?_⟩
  rotate_left
  (dsimp only;omega)
  dsimp only
  exact⟨by omega,jT hc hy1 (by rw[hy2];exact congrArg some (Eq.symm h3))⟩
 ·exact vbt (by rw[aF OM,aF OM]at hc;exact hc)
theorem DV(a b:Owed):F Ck [.val (TJ a),.val (TJ b)] (.b (decide (a = b))) [[],[]]:=by
 obtain⟨a_worker,a_lease,a_task⟩:=a
 obtain⟨b_worker,b_lease,b_task⟩:=b
 refine CY ?_
 conv=>whnf
 refine g 0 2 []<|J ⟨UC,UC,I,I⟩<|W.sq<|g 5 9 []<|J UE<|W.cn<|J (fun h1=>?_) fun h1=>?_
 replace h1:=ndt h1
 refine g 9 10 []<|J UA<|RT ?_
 rotate_left
 replace h1:=ndf h1
 refine W.skip<|W.sq<|g 9 14 []<|J UE<|W.cn<|J (fun h2=>?_) fun h2=>?_
 replace h2:=ndt h2
 refine g 14 15 []<|J UA<|RT ?_
 rotate_left
 replace h2:=ndf h2
 refine W.skip<|W.sq<|g 14 19 []<|J UE<|W.cn<|J (fun h3=>?_) fun h3=>?_
 replace h3:=ndt h3
 refine g 2 4 []<|J UA<|RT ?_
 rotate_left
 replace h3:=ndf h3
 refine W.skip<|g 2 4 []<|J UA<|RT ?_
 rotate_left
 all_goals (first|exact vbt (by simp_all;done)|exact vbf (by simp_all;done))
theorem zE(xs ys:List Owed)(hl:xs.length≤9223372036854775806):F yN [.val (.t (.slc cy (xs.map aL))),.val (.t (.slc cy (ys.map aL)))] (.b (decide (xs = ys))) [[],[]]:=by
 refine zf ?_
 conv=>whnf
 refine g 0 0 []<|J UA<|W.sq<|g 6 10 []<|J UE<|W.cn<|J (fun h1=>?_) fun h1=>?_
 replace h1:=ndt h1
 simp only[LM]at h1
 refine g 10 11 []<|J UA<|RT ?_
 rotate_left
 replace h1:=ndf h1
 simp only[LM]at h1
 refine W.skip<|W.sq<|g 10 11 []<|J UA<|W.blk ?_
 rotate_left
 ·exact vbf (fun e=>h1 (by rw[e]))
 refine W.lp (fun s (n:Nat)=>⟨[(0,s.s 0),(1,s.s 1),(5,.i n)],[],[]⟩) (fun(n:Nat)=>n≤xs.length∧xs.take n = ys.take n) (fun(n:Nat)=>xs.length - n) (0) [] [] Zbe (by simp) ?_
 rintro n ⟨hn,hc⟩
 conv=>whnf
 refine W.sq<|g 11 14 []<|J UD<|W.cn<|J (fun h2=>?_) fun h2=>?_
 replace h2:=dt h2
 simp only[LM]at h2
 refine W.skip<|W.sq<|W.blk ?_
 obtain⟨y1,hy1⟩:=af (xs:=xs) (n:=n) OM
 obtain⟨y2,hy2⟩:=af (xs:=ys) (n:=n) OM
 refine gd 14 26 [[],[],[.x (aL y1)],[],[],[],[.x (aL y2)],[],[.call (V.b (decide (y1 = y2))) [[],[]]],[]] ?_
 conv=>whnf
 refine J ⟨I,I,Zdl,I,I,I,Zdl,I,⟨UB,I,⟨UC,UC,I⟩,UA,DV _ _⟩,I,I⟩<|J KR<|W.cn<|J (fun h3=>?_) fun h3=>?_
 replace h3:=ndt h3
 refine g 26 27 []<|J UA<|RT ?_
 rotate_left
 replace h3:=ndf h3
 refine W.skip<|rg [.i ((n:Int) +1)]<|J Zdi ?_
 rotate_left
 replace h2:=df h2
 simp only[LM]at h2
 refine W.exit<|g 0 2 []<|J UA<|RT ?_
 rotate_left
 ·exact vbf (fun e=>by subst e;rw[hy1]at hy2;cases hy2;exact h3 rfl)
 ·refine⟨n+1,[],[],Zbe,?_,?_⟩
  rotate_left
  (dsimp only;omega)
  dsimp only
  exact⟨by omega,jT hc hy1 (by rw[hy2];exact congrArg some (Eq.symm h3))⟩
 ·exact vbt (by rw[aF OM,aF OM]at hc;exact hc)
def pA(a:Boss):Prop:=a.log.safe.length≤9223372036854775806∧a.log.loose.length≤9223372036854775806∧a.results.length≤9223372036854775806∧a.jobs.length≤9223372036854775806∧a.seats.length≤9223372036854775806∧a.owed.length≤9223372036854775806
theorem DY(a b:Boss)(hl:pA a):F Cn [.val (f0 a),.val (f0 b)] (.b (decide (a = b))) [[],[]]:=by
 obtain⟨a_workers,a_up,a_now,a_since,a_epoch,a_given,a_log,a_results,a_jobs,a_seats,a_owed⟩:=a
 obtain⟨b_workers,b_up,b_now,b_since,b_epoch,b_given,b_log,b_results,b_jobs,b_seats,b_owed⟩:=b
 simp only[pA]at hl
 obtain⟨hl0,hl1,hl2,hl3,hl4,hl5⟩:=hl
 have hx0:Ct a_log:=⟨hl0,hl1⟩
 refine C1 ?_
 conv=>whnf
 refine g 0 2 []<|J ⟨UL,UL,I,I⟩<|W.sq<|g 5 9 []<|J UE<|W.cn<|J (fun h1=>?_) fun h1=>?_
 replace h1:=ndt h1
 refine g 9 10 []<|J UA<|RT ?_
 rotate_left
 replace h1:=ndf h1
 refine W.skip<|W.sq<|g 9 14 []<|J UE<|W.cn<|J (fun h2=>?_) fun h2=>?_
 replace h2:=nbt h2
 refine g 14 15 []<|J UA<|RT ?_
 rotate_left
 replace h2:=nbf h2
 refine W.skip<|W.sq<|g 14 19 []<|J UE<|W.cn<|J (fun h3=>?_) fun h3=>?_
 replace h3:=ndt h3
 refine g 19 20 []<|J UA<|RT ?_
 rotate_left
 replace h3:=ndf h3
 refine W.skip<|W.sq<|g 19 24 []<|J UE<|W.cn<|J (fun h4=>?_) fun h4=>?_
 replace h4:=ndt h4
 refine g 24 25 []<|J UA<|RT ?_
 rotate_left
 replace h4:=ndf h4
 refine W.skip<|W.sq<|g 24 29 []<|J UE<|W.cn<|J (fun h5=>?_) fun h5=>?_
 replace h5:=ndt h5
 refine g 29 30 []<|J UA<|RT ?_
 rotate_left
 replace h5:=ndf h5
 refine W.skip<|W.sq<|g 29 34 []<|J UE<|W.cn<|J (fun h6=>?_) fun h6=>?_
 replace h6:=ndt h6
 refine g 34 35 []<|J UA<|RT ?_
 rotate_left
 replace h6:=ndf h6
 refine W.skip<|W.sq<|g 34 40 [.call (V.b (decide (a_log = b_log))) [[],[]]]<|J ⟨I,I,I,I,⟨UB,I,⟨UB,UB,I⟩,UA,Gx _ _ OM⟩,I,I⟩<|W.cn<|J (fun h7=>?_) fun h7=>?_
 replace h7:=ndt h7
 refine g 40 41 []<|J UA<|RT ?_
 rotate_left
 replace h7:=ndf h7
 refine W.skip<|W.sq<|g 40 46 [.call (V.b (decide (a_results = b_results))) [[],[]]]<|J ⟨I,I,I,I,⟨UB,I,UT,UA,fH _ _ OM⟩,I,I⟩<|W.cn<|J (fun h8=>?_) fun h8=>?_
 replace h8:=ndt h8
 refine g 46 47 []<|J UA<|RT ?_
 rotate_left
 replace h8:=ndf h8
 refine W.skip<|W.sq<|g 46 52 [.call (V.b (decide (a_jobs = b_jobs))) [[],[]]]<|J ⟨I,I,I,I,⟨UB,I,UT,UA,DW _ _ OM⟩,I,I⟩<|W.cn<|J (fun h9=>?_) fun h9=>?_
 replace h9:=ndt h9
 refine g 52 53 []<|J UA<|RT ?_
 rotate_left
 replace h9:=ndf h9
 refine W.skip<|W.sq<|g 52 58 [.call (V.b (decide (a_seats = b_seats))) [[],[]]]<|J ⟨I,I,I,I,⟨UB,I,UT,UA,zD _ _ OM⟩,I,I⟩<|W.cn<|J (fun h10=>?_) fun h10=>?_
 replace h10:=ndt h10
 refine g 58 59 []<|J UA<|RT ?_
 rotate_left
 replace h10:=ndf h10
 refine W.skip<|W.sq<|g 58 64 [.call (V.b (decide (a_owed = b_owed))) [[],[]]]<|J ⟨I,I,I,I,⟨UB,I,UT,UA,zE _ _ OM⟩,I,I⟩<|W.cn<|J (fun h11=>?_) fun h11=>?_
 replace h11:=ndt h11
 refine g 2 4 []<|J UA<|RT ?_
 rotate_left
 replace h11:=ndf h11
 refine W.skip<|g 2 4 []<|J UA<|RT ?_
 rotate_left
 all_goals (first|exact vbt (by simp_all;done)|exact vbf (by simp_all;done))
theorem WR{n:Nat}{x:List T}(h:wfT E (n+3) HG x):∃ v:Log,x = logT v∧TK v:=by
 obtain⟨y0,z0,e0,⟨lsafe,rfl,hsafe,gsafe⟩,y1,z1,e1,⟨lloose,rfl,hloose,gloose⟩,e2⟩:=h
 subst e2
 subst e1
 obtain⟨safe,rfl,wsafe⟩:=zL gsafe
 obtain⟨loose,rfl,wloose⟩:=zL gloose
 subst e0
 exact⟨⟨safe,loose⟩,rfl,⟨by rw[List.length_map]at hsafe;exact hsafe,wsafe,by rw[List.length_map]at hloose;exact hloose,wloose⟩⟩
theorem WS{n:Nat}{x:List T}(h:wfT E (n+2) HH x):∃ v:Job,x = aO v∧Wq v:=by
 obtain⟨y0,z0,e0,⟨lease,rfl,_,_⟩,y1,z1,e1,⟨worker,rfl,_,_⟩,y2,z2,e2,⟨til,rfl,_,_⟩,e3⟩:=h
 subst e3
 subst e2
 subst e1
 subst e0
 exact⟨⟨lease,worker,til⟩,rfl,trivial⟩
theorem Uy{n:Nat}{x:List T}(h:wfT E (n+2) Ft x):∃ v:Seat,x = aG v∧Sb v:=by
 obtain⟨y0,z0,e0,⟨free,rfl⟩,y1,z1,e1,⟨epoch,rfl,_,_⟩,e2⟩:=h
 subst e2
 subst e1
 subst e0
 exact⟨⟨free,epoch⟩,rfl,trivial⟩
theorem UX{n:Nat}{x:List T}(h:wfT E (n+2) Fv x):∃ v:Owed,x = aL v∧Si v:=by
 obtain⟨y0,z0,e0,⟨worker,rfl,_,_⟩,y1,z1,e1,⟨lease,rfl,_,_⟩,y2,z2,e2,⟨task,rfl,_,_⟩,e3⟩:=h
 subst e3
 subst e2
 subst e1
 subst e0
 exact⟨⟨worker,lease,task⟩,rfl,trivial⟩
theorem UY{n:Nat}{x:List T}(h:wfT E (n+4) Fw x):∃ v:Boss,x = X8 v∧Hw v:=by
 obtain⟨y0,z0,e0,⟨workers,rfl,_,_⟩,y1,z1,e1,⟨up,rfl⟩,y2,z2,e2,⟨now,rfl,_,_⟩,y3,z3,e3,⟨since,rfl,_,_⟩,y4,z4,e4,⟨epoch,rfl,_,_⟩,y5,z5,e5,⟨given,rfl,_,_⟩,y6,z6,e6,wlog0,y7,z7,e7,⟨lresults,rfl,hresults,gresults⟩,y8,z8,e8,⟨ljobs,rfl,hjobs,gjobs⟩,y9,z9,e9,⟨lseats,rfl,hseats,gseats⟩,y10,z10,e10,⟨lowed,rfl,howed,gowed⟩,e11⟩:=h
 subst e11
 subst e10
 subst e9
 subst e8
 subst e7
 subst e6
 subst e5
 subst e4
 subst e3
 subst e2
 subst e1
 obtain⟨log,rfl,wlog⟩:=WR wlog0
 obtain⟨results,rfl,wresults⟩:=zL gresults
 obtain⟨jobs,rfl,wjobs⟩:=mj (f:=aO) (p:=Wq) (xs:=ljobs) fun y hy=>WS (gjobs y hy)
 obtain⟨seats,rfl,wseats⟩:=mj (f:=aG) (p:=Sb) (xs:=lseats) fun y hy=>Uy (gseats y hy)
 obtain⟨owed,rfl,wowed⟩:=mj (f:=aL) (p:=Si) (xs:=lowed) fun y hy=>UX (gowed y hy)
 subst e0
 exact⟨⟨workers,up,now,since,epoch,given,log,results,jobs,seats,owed⟩,rfl,⟨wlog,by rw[List.length_map]at hresults;exact hresults,wresults,by rw[List.length_map]at hjobs;exact hjobs,by rw[List.length_map]at hseats;exact hseats,by rw[List.length_map]at howed;exact howed⟩⟩
end Go.K
end
section
open Go Go.Tm Go.Proofs
namespace Go.K
theorem xR(xs:List Int)(k:Int)(hl:xs.length≤9223372036854775806)(h0:0≤k)(hk:k+xs.length≤1099511627776):F wI [.bor (.own [false] (xs.map dR)),.val (.i k)] (.i (k+xs.length)) [[.own [false] ((mkL (fun k _=>k) (fun _=>1) k xs).map dR)],[]]:=by
 refine xg ?_
 conv=>whnf
 refine g 0 0 []<|J UA<|W.sq<|g 0 0 []<|J UA<|W.blk<|W.lp (fun s (n:Nat)=>⟨[(0,s.s 0),(1,.i (k+n)),(4,s.s 4),(5,.i n)],[(19,[.own [false] ((mkN (fun k _=>k) (fun _=>1) k xs n).map dR)])],[]⟩) (fun(n:Nat)=>n≤xs.length) (fun(n:Nat)=>xs.length - n) (0) [some 19] [] ⟨rfl,⟨rfl,(congrArg (fun z=>V.t (T.v (Value.int _ z))) (by simp[ak])),rfl,rfl,I⟩,Zdq,I⟩ OM ?_
 intro n hn
 have hx:=lj (fun k _=>k) (fun _=>1) k xs n
 have hs1:∀ x,xs[n]? = some x→((mkN (fun k _=>k) (fun _=>1) k xs n).map dR).set n (dR (k+n)) = (mkN (fun k _=>k) (fun _=>1) k xs (n+1)).map dR:=fun x hx=>by
  have:=iP (f:=(fun k _=>k)) (c:=(fun _=>1)) (g:=dR) (k:=k) hx
  rw[sY,List.length_take,Nat.min_eq_left hn]at this;exact this
 conv=>whnf
 refine W.sq<|g 6 9 []<|J UD<|W.cn<|J (fun h1=>?_) fun h1=>?_
 replace h1:=dt h1
 simp only[LM]at h1
 refine W.skip<|W.sq<|W.blk ?_
 obtain⟨y1,hy1⟩:=af (xs:=xs) (n:=n) OM
 refine g 9 16 [.n (n),.x (dR y1)]<|J ⟨I,I,I,Zdj,⟨UA,iQ AS⟩,I⟩<|rg [.i (k+ (n:Int) +1)]<|J Zdi<|rg [.i ((n:Int) +1)]<|J Zdi ?_
 rotate_left
 replace h1:=df h1
 simp only[LM]at h1
 refine W.exit<|g 5 19 []<|J UB<|W.ret<|EndsW.rt<|J UB<|J ?_ ?_
 exact vi OM
 rotate_left
 ·refine⟨n+1,[some 19],[],⟨rfl,⟨rfl,(congrArg (fun z=>V.t (T.v (Value.int _ z))) OM),rfl,rfl,I⟩,⟨⟨rfl,⟨(congrArg (V.own _) (hs1 _ AS)),I⟩⟩,I⟩,I⟩,?_,?_⟩
  rotate_left
  (dsimp only;omega)
  dsimp only
  omega
 ·have e:=lk (fun k _=>k) (fun _=>1) k xs (n:=n) OM
  rw[show n = xs.length by omega]at e ⊢
  rw[e]
def cJ(x:Task):Int:=2+ (x.deps.length:Int)
theorem Bg(x:Task):cJ x = 2+ (x.deps.length:Int):=rfl
theorem fK(x:Task):0≤cJ x:=by
 simp only[cJ];omega
def ja(k:Int)(x:Task):Task:=⟨bG (k),k+1,mkL (fun k _=>k) (fun _=>1) (k+1+1) x.deps⟩
theorem uJ(xs:List Task)(k:Int)(hl:xs.length≤9223372036854775806)(h0:0≤k)(hk:k+ak cJ xs≤1099511627776):F tu [.bor (.own dg (xs.map ay)),.val (.i k)] (.i (k+ak cJ xs)) [[.own dg ((mkL ja cJ k xs).map ay)],[]]:=by
 refine ue ?_
 conv=>whnf
 refine g 0 0 []<|J UA<|W.sq<|g 0 0 []<|J UA<|W.blk<|W.lp (fun s (n:Nat)=>⟨[(0,s.s 0),(1,.i (k+ak cJ (xs.take n))),(4,s.s 4),(5,.i n)],[(35,[.own dg ((mkN ja cJ k xs n).map ay)])],[]⟩) (fun(n:Nat)=>n≤xs.length) (fun(n:Nat)=>xs.length - n) (0) [some 35] [] ⟨rfl,⟨rfl,(congrArg (fun z=>V.t (T.v (Value.int _ z))) (by simp[ak])),rfl,rfl,I⟩,Zdq,I⟩ OM ?_
 intro n hn
 have hx:=lj ja cJ k xs n
 have hq:=aJ fK (xs.take n)
 have hle:=dE fK xs (n+1)
 have hle0:=dE fK xs n
 conv=>whnf
 refine W.sq<|g 6 9 []<|J UD<|W.cn<|J (fun h1=>?_) fun h1=>?_
 replace h1:=dt h1
 simp only[LM]at h1
 refine W.skip<|W.sq<|W.blk ?_
 obtain⟨y1,hy1⟩:=af (xs:=xs) (n:=n) OM
 have hk1:=bD (f:=cJ) hy1
 have hk2:=fK y1
 have hk3:=Bg y1
 refine g 9 18 [.call (V.s (bG (k+ak cJ (List.take n xs)))) [[]],.n (n),.x (ay y1)]<|J ⟨I,I,I,⟨UA,I,US,UA,bn _ OM⟩,Zdj,I,⟨UA,iQ AS⟩,I⟩<|g 18 20 [.i (k+ak cJ (List.take n xs) +1)]<|J Zdi<|g 20 25 [.n (n),.x (aM (ay y1) (0+0) [T.v (Value.string (bG (k+ak cJ (List.take n xs))))])]<|J ⟨I,I,I,Zdj,I,⟨UA,bS LN⟩,I⟩<|g 25 27 [.i (k+ak cJ (List.take n xs) +1+1)]<|J Zdi<|rg [.n (n),.x (aM (aM (ay y1) (0+0) [T.v (Value.string (bG (k+ak cJ (List.take n xs))))]) (0+1) [T.v (Value.int IntKind.i64 (k+ak cJ (List.take n xs) +1))]),.x (aM (aM (ay y1) (0+0) [T.v (Value.string (bG (k+ak cJ (List.take n xs))))]) (0+1) [T.v (Value.int IntKind.i64 (k+ak cJ (List.take n xs) +1))]),.call (V.i (k+ak cJ (List.take n xs) +1+1+ (↑(List.length y1.deps):Int))) ([[V.own [false] (List.map dR (mkL (fun k x=>k) (fun x=>1) (k+ak cJ (List.take n xs) +1+1) y1.deps))],[]]),.x ([T.v (Value.string (bG (k+ak cJ (List.take n xs)))),T.v (Value.int IntKind.i64 (k+ak cJ (List.take n xs) +1)),T.hole])]<|J ⟨I,I,Zdj,I,bS LN,I,⟨⟨⟨bS LN,I⟩,I,I⟩,I,UV,⟨⟨bS LN,I⟩,I⟩,xR _ _ OM OM OM⟩,I,I⟩<|rg [.i ((n:Int) +1)]<|J Zdi ?_
 rotate_left
 replace h1:=df h1
 simp only[LM]at h1
 refine W.exit<|g 5 35 []<|J UB<|W.ret<|EndsW.rt<|J UB<|J ?_ ?_
 rotate_left
 rotate_left
 ·refine⟨n+1,[some 35],[],⟨rfl,⟨rfl,(congrArg (fun z=>V.t (T.v (Value.int _ z))) (by rw[bD AS];omega)),rfl,rfl,I⟩,⟨⟨rfl,⟨(congrArg (V.own _) (by simp only[List.set_set];exact iP (f:=ja) (c:=cJ) AS)),I⟩⟩,I⟩,I⟩,?_,?_⟩
  rotate_left
  (dsimp only;omega)
  dsimp only
  omega
 ·rw[aF OM]
 ·rw[lk ja cJ k xs (n:=n) OM]
def Ah(k:Int)(x:Plan):Plan:=⟨mkL ja cJ (k) x.tasks⟩
def bb(x:Plan):Int:=ak cJ x.tasks
theorem iD(x:Plan):0≤bb x:=by
 have:=aJ fK x.tasks
 simp only[bb];omega
theorem xP(x:Plan)(k:Int)(hl:x.tasks.length≤9223372036854775806)(h0:0≤k)(hk:k+bb x≤1099511627776):F wG [.bor (fj x),.val (.i k)] (.i (k+bb x)) [cellsOf (fj (Ah k x)),[]]:=by
 have hn0:=aJ fK x.tasks
 have hz:bb x = _:=rfl
 simp only[bb]at hz
 refine xd ?_
 conv=>whnf
 refine g 0 1 []<|J UB<|g 5 9 [.call (V.i (k+ak cJ x.tasks)) ([[V.own dg (List.map ay (mkL ja cJ k x.tasks))],[]])]<|J ⟨I,I,I,⟨Zdt,I,UV,UA,uJ _ _ AS AS AS⟩,I,I⟩<|g 1 3 []<|J UB<|RT ?_
 rfl
end Go.K
end
section
open Go Go.Tm Go.Proofs
namespace Go.K
theorem QV{p:Plan}(h:aK p≤1048576):p.tasks.length≤1048576∧bb p≤4194304:=by
 have hn:=aJ cZ p.tasks
 have e:aK p = p.tasks.length+ak du p.tasks:=rfl
 refine⟨by omega,?_⟩
 have:∀ xs:List Task,ak cJ xs≤2 * xs.length+ak du xs:=by
  intro xs
  induction xs with
  |nil=>simp[ak]
  |cons x xs ih =>
   have:=Bg x
   have e:du x = x.name.size+x.deps.length:=rfl
   simp only[ak,List.length_cons];omega
 have:=this p.tasks
 unfold bb;omega
end Go.K
end
section
open Go Go.Tm Go.Proofs
namespace Go.K
theorem IV{b:Boss}(h:bJ b≤1048576):b.log.safe.length≤1048576∧b.log.loose.length≤1048576∧(∀ s∈b.log.safe++b.log.loose,s.size≤281474976710656)∧b.results.length≤1048576∧b.jobs.length≤1048576∧b.seats.length≤1048576∧b.owed.length≤1048576:=by
 have h1:=bm b.log.safe
 have h2:=bm b.log.loose
 have h3:=bm b.results
 have e:bh b.log = (b.log.safe.length+bQ b.log.safe) + (b.log.loose.length+bQ b.log.loose):=rfl
 simp only[bJ]at h
 refine⟨by omega,by omega,fun s hs=>?_,by omega,by omega,by omega,by omega⟩
 rcases List.mem_append.1 hs with hs|hs
 ·have:=Bc hs;omega
 ·have:=Bc hs;omega
end Go.K
end
section
open Go Go.Tm Go.Proofs
namespace Go.K
def eZ(x:Job):Int:=3
theorem MQ(x:Job):eZ x = 3:=rfl
theorem gZ(x:Job):0≤eZ x:=by
 simp only[eZ];omega
def nn(k:Int)(x:Job):Job:=⟨k,k+1,k+1+1⟩
def dj(x:Seat):Int:=2
theorem Jf(x:Seat):dj x = 2:=rfl
theorem fL(x:Seat):0≤dj x:=by
 simp only[dj];omega
def jJ(k:Int)(x:Seat):Seat:=⟨decide (Int.tmod (k) 3 = 0),k+1⟩
def dq(x:Owed):Int:=3
theorem Jv(x:Owed):dq x = 3:=rfl
theorem fM(x:Owed):0≤dq x:=by
 simp only[dq];omega
def jb(k:Int)(x:Owed):Owed:=⟨k,k+1,k+1+1⟩
theorem xQ(xs:List Job)(k:Int)(hl:xs.length≤9223372036854775806)(h0:0≤k)(hk:k+ak eZ xs≤1099511627776):F wH [.bor (.own eG (xs.map aO)),.val (.i k)] (.i (k+ak eZ xs)) [[.own eG ((mkL nn eZ k xs).map aO)],[]]:=by
 refine xf ?_
 conv=>whnf
 refine g 0 0 []<|J UA<|W.sq<|g 0 0 []<|J UA<|W.blk<|W.lp (fun s (n:Nat)=>⟨[(0,s.s 0),(1,.i (k+ak eZ (xs.take n))),(4,s.s 4),(5,.i n)],[(34,[.own eG ((mkN nn eZ k xs n).map aO)])],[]⟩) (fun(n:Nat)=>n≤xs.length) (fun(n:Nat)=>xs.length - n) (0) [some 34] [] ⟨rfl,⟨rfl,(congrArg (fun z=>V.t (T.v (Value.int _ z))) (by simp[ak])),rfl,rfl,I⟩,Zdq,I⟩ OM ?_
 intro n hn
 have hx:=lj nn eZ k xs n
 have hq:=aJ gZ (xs.take n)
 have hle:=dE gZ xs (n+1)
 have hle0:=dE gZ xs n
 conv=>whnf
 refine W.sq<|g 6 9 []<|J UD<|W.cn<|J (fun h1=>?_) fun h1=>?_
 replace h1:=dt h1
 simp only[LM]at h1
 refine W.skip<|W.sq<|W.blk ?_
 obtain⟨y1,hy1⟩:=af (xs:=xs) (n:=n) OM
 have hk1:=bD (f:=eZ) hy1
 have hk2:=gZ y1
 have hk3:=MQ y1
 refine g 9 17 [.n (n),.x (aO y1)]<|J ⟨I,I,I,Zdj,I,⟨UA,iQ AS⟩,I⟩<|g 17 19 [.i (k+ak eZ (List.take n xs) +1)]<|J Zdi<|g 19 24 [.n (n),.x (aM (aO y1) (0+0) [T.v (Value.int IntKind.i64 (k+ak eZ (List.take n xs)))])]<|J ⟨I,I,I,Zdj,I,⟨UA,bS LN⟩,I⟩ ?_
 rw[List.set_set]
 refine g 24 26 [.i (k+ak eZ (List.take n xs) +1+1)]<|J Zdi<|g 26 31 [.n (n),.x (aM (aM (aO y1) (0+0) [T.v (Value.int IntKind.i64 (k+ak eZ (List.take n xs)))]) (0+1) [T.v (Value.int IntKind.i64 (k+ak eZ (List.take n xs) +1))])]<|J ⟨I,I,I,Zdj,I,⟨UA,bS LN⟩,I⟩ ?_
 rw[List.set_set]
 refine rg [.i (k+ak eZ (List.take n xs) +1+1+1)]<|J Zdi<|rg [.i ((n:Int) +1)]<|J Zdi ?_
 rotate_left
 replace h1:=df h1
 simp only[LM]at h1
 refine W.exit<|g 5 34 []<|J UB<|W.ret<|EndsW.rt<|J UB<|J ?_ ?_
 rotate_left
 rotate_left
 ·refine⟨n+1,[some 34],[],⟨rfl,⟨rfl,(congrArg (fun z=>V.t (T.v (Value.int _ z))) (by rw[bD AS];omega)),rfl,rfl,I⟩,⟨⟨rfl,⟨(congrArg (V.own _) (iP (f:=nn) (c:=eZ) AS)),I⟩⟩,I⟩,I⟩,?_,?_⟩
  rotate_left
  (dsimp only;omega)
  dsimp only
  omega
 ·rw[aF OM]
 ·rw[lk nn eZ k xs (n:=n) OM]
theorem uK(xs:List Seat)(k:Int)(hl:xs.length≤9223372036854775806)(h0:0≤k)(hk:k+ak dj xs≤1099511627776):F tz [.bor (.own cx (xs.map aG)),.val (.i k)] (.i (k+ak dj xs)) [[.own cx ((mkL jJ dj k xs).map aG)],[]]:=by
 refine uf ?_
 conv=>whnf
 refine g 0 0 []<|J UA<|W.sq<|g 0 0 []<|J UA<|W.blk<|W.lp (fun s (n:Nat)=>⟨[(0,s.s 0),(1,.i (k+ak dj (xs.take n))),(4,s.s 4),(5,.i n)],[(29,[.own cx ((mkN jJ dj k xs n).map aG)])],[]⟩) (fun(n:Nat)=>n≤xs.length) (fun(n:Nat)=>xs.length - n) (0) [some 29] [] ⟨rfl,⟨rfl,(congrArg (fun z=>V.t (T.v (Value.int _ z))) (by simp[ak])),rfl,rfl,I⟩,Zdq,I⟩ OM ?_
 intro n hn
 have hx:=lj jJ dj k xs n
 have hq:=aJ fL (xs.take n)
 have hle:=dE fL xs (n+1)
 have hle0:=dE fL xs n
 conv=>whnf
 refine W.sq<|g 6 9 []<|J UD<|W.cn<|J (fun h1=>?_) fun h1=>?_
 replace h1:=dt h1
 simp only[LM]at h1
 refine W.skip<|W.sq<|W.blk ?_
 obtain⟨y1,hy1⟩:=af (xs:=xs) (n:=n) OM
 have hk1:=bD (f:=dj) hy1
 have hk2:=fL y1
 have hk3:=Jf y1
 refine g 9 19 [.i (Int.tmod (k+ak dj (List.take n xs)) 3),.n (n),.x (aG y1)]<|J ⟨I,I,I,Zds,I,Zdj,I,⟨UA,iQ AS⟩,I⟩<|g 19 21 [.i (k+ak dj (List.take n xs) +1)]<|J Zdi<|g 21 26 [.n (n),.x (aM (aG y1) (0+0) [T.v (Value.bool (decide (Int.tmod (k+ak dj (List.take n xs)) 3 = 0)))])]<|J ⟨I,I,I,Zdj,I,⟨UA,bS LN⟩,I⟩ ?_
 rw[List.set_set]
 refine rg [.i (k+ak dj (List.take n xs) +1+1)]<|J Zdi<|rg [.i ((n:Int) +1)]<|J Zdi ?_
 rotate_left
 replace h1:=df h1
 simp only[LM]at h1
 refine W.exit<|g 5 29 []<|J UB<|W.ret<|EndsW.rt<|J UB<|J ?_ ?_
 rotate_left
 rotate_left
 ·refine⟨n+1,[some 29],[],⟨rfl,⟨rfl,(congrArg (fun z=>V.t (T.v (Value.int _ z))) (by rw[bD AS];omega)),rfl,rfl,I⟩,⟨⟨rfl,⟨(congrArg (V.own _) (iP (f:=jJ) (c:=dj) AS)),I⟩⟩,I⟩,I⟩,?_,?_⟩
  rotate_left
  (dsimp only;omega)
  dsimp only
  omega
 ·rw[aF OM]
 ·rw[lk jJ dj k xs (n:=n) OM]
theorem uL(xs:List Owed)(k:Int)(hl:xs.length≤9223372036854775806)(h0:0≤k)(hk:k+ak dq xs≤1099511627776):F tA [.bor (.own cy (xs.map aL)),.val (.i k)] (.i (k+ak dq xs)) [[.own cy ((mkL jb dq k xs).map aL)],[]]:=by
 refine ug ?_
 conv=>whnf
 refine g 0 0 []<|J UA<|W.sq<|g 0 0 []<|J UA<|W.blk<|W.lp (fun s (n:Nat)=>⟨[(0,s.s 0),(1,.i (k+ak dq (xs.take n))),(4,s.s 4),(5,.i n)],[(34,[.own cy ((mkN jb dq k xs n).map aL)])],[]⟩) (fun(n:Nat)=>n≤xs.length) (fun(n:Nat)=>xs.length - n) (0) [some 34] [] ⟨rfl,⟨rfl,(congrArg (fun z=>V.t (T.v (Value.int _ z))) (by simp[ak])),rfl,rfl,I⟩,Zdq,I⟩ OM ?_
 intro n hn
 have hx:=lj jb dq k xs n
 have hq:=aJ fM (xs.take n)
 have hle:=dE fM xs (n+1)
 have hle0:=dE fM xs n
 conv=>whnf
 refine W.sq<|g 6 9 []<|J UD<|W.cn<|J (fun h1=>?_) fun h1=>?_
 replace h1:=dt h1
 simp only[LM]at h1
 refine W.skip<|W.sq<|W.blk ?_
 obtain⟨y1,hy1⟩:=af (xs:=xs) (n:=n) OM
 have hk1:=bD (f:=dq) hy1
 have hk2:=fM y1
 have hk3:=Jv y1
 refine g 9 17 [.n (n),.x (aL y1)]<|J ⟨I,I,I,Zdj,I,⟨UA,iQ AS⟩,I⟩<|g 17 19 [.i (k+ak dq (List.take n xs) +1)]<|J Zdi<|g 19 24 [.n (n),.x (aM (aL y1) (0+0) [T.v (Value.int IntKind.i64 (k+ak dq (List.take n xs)))])]<|J ⟨I,I,I,Zdj,I,⟨UA,bS LN⟩,I⟩ ?_
 rw[List.set_set]
 refine g 24 26 [.i (k+ak dq (List.take n xs) +1+1)]<|J Zdi<|g 26 31 [.n (n),.x (aM (aM (aL y1) (0+0) [T.v (Value.int IntKind.i64 (k+ak dq (List.take n xs)))]) (0+1) [T.v (Value.int IntKind.i64 (k+ak dq (List.take n xs) +1))])]<|J ⟨I,I,I,Zdj,I,⟨UA,bS LN⟩,I⟩ ?_
 rw[List.set_set]
 refine rg [.i (k+ak dq (List.take n xs) +1+1+1)]<|J Zdi<|rg [.i ((n:Int) +1)]<|J Zdi ?_
 rotate_left
 replace h1:=df h1
 simp only[LM]at h1
 refine W.exit<|g 5 34 []<|J UB<|W.ret<|EndsW.rt<|J UB<|J ?_ ?_
 rotate_left
 rotate_left
 ·refine⟨n+1,[some 34],[],⟨rfl,⟨rfl,(congrArg (fun z=>V.t (T.v (Value.int _ z))) (by rw[bD AS];omega)),rfl,rfl,I⟩,⟨⟨rfl,⟨(congrArg (V.own _) (iP (f:=jb) (c:=dq) AS)),I⟩⟩,I⟩,I⟩,?_,?_⟩
  rotate_left
  (dsimp only;omega)
  dsimp only
  omega
 ·rw[aF OM]
 ·rw[lk jb dq k xs (n:=n) OM]
theorem xU(xs:List Job)(k:Int)(hl:xs.length≤9223372036854775806)(h0:0≤k)(hk:k+ak eZ xs≤1099511627776):F wL [.val (.t (.slc eG ((mkL nn eZ k xs).map aO))),.val (.i k)] (.i (k+ak eZ xs)) [[],[]]:=by
 have hx:=fw nn eZ k xs
 refine xm ?_
 conv=>whnf
 refine g 0 0 []<|J UA<|W.sq<|g 0 0 []<|J UA<|W.blk<|W.lp (fun s (n:Nat)=>⟨[(0,s.s 0),(1,.i (k+ak eZ (xs.take n))),(5,.i n)],[],[]⟩) (fun(n:Nat)=>n≤xs.length) (fun(n:Nat)=>xs.length - n) (0) [] [] ⟨rfl,⟨rfl,(congrArg (fun z=>V.t (T.v (Value.int _ z))) (by simp[ak])),rfl,I⟩,I,I⟩ OM ?_
 intro n hn
 have hq:=aJ gZ (xs.take n)
 have hle:=dE gZ xs (n+1)
 have hle0:=dE gZ xs n
 conv=>whnf
 refine W.sq<|g 6 9 []<|J UD<|W.cn<|J (fun h1=>?_) fun h1=>?_
 replace h1:=dt h1
 simp only[LM]at h1
 refine W.skip<|W.sq<|W.blk<|W.sq ?_
 obtain⟨y1,hy1⟩:=af (xs:=xs) (n:=n) OM
 have hk1:=bD (f:=eZ) hy1
 have hk2:=gZ y1
 have hk3:=MQ y1
 have hk4:=jZ (f:=nn) (c:=eZ) (k:=k) hy1
 refine g 9 18 [.x (aO (nn (k+ak eZ (List.take n xs)) y1))]<|J Zbq<|W.cn<|J (noT (ea rfl)) fun _=>W.skip<|g 18 21 [.i (k+ak eZ (List.take n xs) +1)]<|J Zdi<|W.sq<|g 21 27 [.x (aO (nn (k+ak eZ (List.take n xs)) y1))]<|J Zbq<|W.cn<|J (noT (ea rfl)) fun _=>W.skip<|g 27 30 [.i (k+ak eZ (List.take n xs) +1+1)]<|J Zdi<|W.sq<|g 30 36 [.x (aO (nn (k+ak eZ (List.take n xs)) y1))]<|J Zbq<|W.cn<|J (noT (ea rfl)) fun _=>?_
 refine W.skip<|rg [.i (k+ak eZ (List.take n xs) +1+1+1)]<|J Zdi<|rg [.i ((n:Int) +1)]<|J Zdi ?_
 rotate_left
 replace h1:=df h1
 simp only[LM]at h1
 refine W.exit<|g 5 40 []<|J UB<|RT ?_
 rotate_left
 ·refine⟨n+1,[],[],⟨rfl,⟨rfl,(congrArg (fun z=>V.t (T.v (Value.int _ z))) (by rw[bD AS];omega)),rfl,I⟩,I,I⟩,?_,?_⟩
  rotate_left
  (dsimp only;omega)
  dsimp only
  omega
 ·rw[aF OM]
theorem uN(xs:List Seat)(k:Int)(hl:xs.length≤9223372036854775806)(h0:0≤k)(hk:k+ak dj xs≤1099511627776):F tD [.val (.t (.slc cx ((mkL jJ dj k xs).map aG))),.val (.i k)] (.i (k+ak dj xs)) [[],[]]:=by
 have hx:=fw jJ dj k xs
 refine uj ?_
 conv=>whnf
 refine g 0 0 []<|J UA<|W.sq<|g 0 0 []<|J UA<|W.blk<|W.lp (fun s (n:Nat)=>⟨[(0,s.s 0),(1,.i (k+ak dj (xs.take n))),(5,.i n)],[],[]⟩) (fun(n:Nat)=>n≤xs.length) (fun(n:Nat)=>xs.length - n) (0) [] [] ⟨rfl,⟨rfl,(congrArg (fun z=>V.t (T.v (Value.int _ z))) (by simp[ak])),rfl,I⟩,I,I⟩ OM ?_
 intro n hn
 have hq:=aJ fL (xs.take n)
 have hle:=dE fL xs (n+1)
 have hle0:=dE fL xs n
 conv=>whnf
 refine W.sq<|g 6 9 []<|J UD<|W.cn<|J (fun h1=>?_) fun h1=>?_
 replace h1:=dt h1
 simp only[LM]at h1
 refine W.skip<|W.sq<|W.blk<|W.sq ?_
 obtain⟨y1,hy1⟩:=af (xs:=xs) (n:=n) OM
 have hk1:=bD (f:=dj) hy1
 have hk2:=fL y1
 have hk3:=Jf y1
 have hk4:=jZ (f:=jJ) (c:=dj) (k:=k) hy1
 refine g 9 20 [.x (aG (jJ (k+ak dj (List.take n xs)) y1)),.i (Int.tmod (k+ak dj (List.take n xs)) 3)]<|J ⟨I,I,Zdl,I,I,I,Zds,I,I,I⟩<|W.cn<|J (noT (ea rfl)) fun _=>W.skip<|g 20 23 [.i (k+ak dj (List.take n xs) +1)]<|J Zdi<|W.sq<|g 23 29 [.x (aG (jJ (k+ak dj (List.take n xs)) y1))]<|J Zbq<|W.cn<|J (noT (ea rfl)) fun _=>W.skip<|rg [.i (k+ak dj (List.take n xs) +1+1)]<|J Zdi<|rg [.i ((n:Int) +1)]<|J Zdi ?_
 rotate_left
 replace h1:=df h1
 simp only[LM]at h1
 refine W.exit<|g 5 33 []<|J UB<|RT ?_
 rotate_left
 ·refine⟨n+1,[],[],⟨rfl,⟨rfl,(congrArg (fun z=>V.t (T.v (Value.int _ z))) (by rw[bD AS];omega)),rfl,I⟩,I,I⟩,?_,?_⟩
  rotate_left
  (dsimp only;omega)
  dsimp only
  omega
 ·rw[aF OM]
theorem uO(xs:List Owed)(k:Int)(hl:xs.length≤9223372036854775806)(h0:0≤k)(hk:k+ak dq xs≤1099511627776):F tE [.val (.t (.slc cy ((mkL jb dq k xs).map aL))),.val (.i k)] (.i (k+ak dq xs)) [[],[]]:=by
 have hx:=fw jb dq k xs
 refine uk ?_
 conv=>whnf
 refine g 0 0 []<|J UA<|W.sq<|g 0 0 []<|J UA<|W.blk<|W.lp (fun s (n:Nat)=>⟨[(0,s.s 0),(1,.i (k+ak dq (xs.take n))),(5,.i n)],[],[]⟩) (fun(n:Nat)=>n≤xs.length) (fun(n:Nat)=>xs.length - n) (0) [] [] ⟨rfl,⟨rfl,(congrArg (fun z=>V.t (T.v (Value.int _ z))) (by simp[ak])),rfl,I⟩,I,I⟩ OM ?_
 intro n hn
 have hq:=aJ fM (xs.take n)
 have hle:=dE fM xs (n+1)
 have hle0:=dE fM xs n
 conv=>whnf
 refine W.sq<|g 6 9 []<|J UD<|W.cn<|J (fun h1=>?_) fun h1=>?_
 replace h1:=dt h1
 simp only[LM]at h1
 refine W.skip<|W.sq<|W.blk<|W.sq ?_
 obtain⟨y1,hy1⟩:=af (xs:=xs) (n:=n) OM
 have hk1:=bD (f:=dq) hy1
 have hk2:=fM y1
 have hk3:=Jv y1
 have hk4:=jZ (f:=jb) (c:=dq) (k:=k) hy1
 refine g 9 18 [.x (aL (jb (k+ak dq (List.take n xs)) y1))]<|J Zbq<|W.cn<|J (noT (ea rfl)) fun _=>W.skip<|g 18 21 [.i (k+ak dq (List.take n xs) +1)]<|J Zdi<|W.sq<|g 21 27 [.x (aL (jb (k+ak dq (List.take n xs)) y1))]<|J Zbq<|W.cn<|J (noT (ea rfl)) fun _=>W.skip<|g 27 30 [.i (k+ak dq (List.take n xs) +1+1)]<|J Zdi<|W.sq<|g 30 36 [.x (aL (jb (k+ak dq (List.take n xs)) y1))]<|J Zbq<|W.cn<|J (noT (ea rfl)) fun _=>?_
 refine W.skip<|rg [.i (k+ak dq (List.take n xs) +1+1+1)]<|J Zdi<|rg [.i ((n:Int) +1)]<|J Zdi ?_
 rotate_left
 replace h1:=df h1
 simp only[LM]at h1
 refine W.exit<|g 5 40 []<|J UB<|RT ?_
 rotate_left
 ·refine⟨n+1,[],[],⟨rfl,⟨rfl,(congrArg (fun z=>V.t (T.v (Value.int _ z))) (by rw[bD AS];omega)),rfl,I⟩,I,I⟩,?_,?_⟩
  rotate_left
  (dsimp only;omega)
  dsimp only
  omega
 ·rw[aF OM]
def Hh(k:Int)(x:Log):Log:=⟨mkL (fun k _=>bG k) (fun _=>1) (k) x.safe,mkL (fun k _=>bG k) (fun _=>1) (k+x.safe.length) x.loose⟩
def bT(x:Log):Int:=x.safe.length+x.loose.length
theorem qJ(x:Log):0≤bT x:=by
 simp only[bT];omega
theorem zA(x:Log)(k:Int)(hl:x.safe.length≤9223372036854775806∧x.loose.length≤9223372036854775806)(h0:0≤k)(hk:k+bT x≤1099511627776):F yI [.bor (PU x),.val (.i k)] (.i (k+bT x)) [cellsOf (PU (Hh k x)),[]]:=by
 obtain⟨hl0,hl1⟩:=hl
 have hz:bT x = x.safe.length+x.loose.length:=rfl
 refine yZ ?_
 conv=>whnf
 refine g 0 1 []<|J UB<|g 5 9 [.call (V.i (k+ (↑(List.length x.safe):Int))) ([[V.own [false] (List.map aj (mkL (fun k x=>bG k) (fun x=>1) k x.safe))],[]])]<|J ⟨I,I,I,⟨Zdt,I,UV,UA,eJ _ _ OM OM OM⟩,I,I⟩<|g 9 13 [.call (V.i (k+ (↑(List.length x.safe):Int) + (↑(List.length x.loose):Int))) ([[V.own [false] (List.map aj (mkL (fun k x=>bG k) (fun x=>1) (k+ (↑(List.length x.safe):Int)) x.loose))],[]])]<|J ⟨I,I,I,⟨Zdt,I,UV,UA,eJ _ _ OM OM OM⟩,I,I⟩<|g 1 3 []<|J UB<|RT ?_
 exact vi OM
theorem zB(x:Log)(k:Int)(hl:x.safe.length≤9223372036854775806∧x.loose.length≤9223372036854775806)(h0:0≤k)(hk:k+bT x≤1099511627776):F yJ [.val (PT (Hh k x)),.val (.i k)] (.i (k+bT x)) [[],[]]:=by
 obtain⟨hl0,hl1⟩:=hl
 have hz:bT x = x.safe.length+x.loose.length:=rfl
 refine za ?_
 conv=>whnf
 refine g 0 1 []<|J ⟨UB,I,I⟩<|g 5 9 [.call (V.i (k+ (↑(List.length x.safe):Int))) [[],[]]]<|J ⟨I,I,I,⟨UB,I,UT,UA,eK _ _ OM OM OM⟩,I,I⟩<|W.sq<|g 9 10 []<|J UB<|W.cn<|J (noT dO) fun _=>W.skip<|g 10 15 [.call (V.i (k+ (↑(List.length x.safe):Int) + (↑(List.length x.loose):Int))) [[],[]]]<|J ⟨I,I,I,⟨UB,I,UT,UA,eK _ _ OM OM OM⟩,I,I⟩<|W.sq<|g 2 3 []<|J UB<|W.cn<|J (noT dO) fun _=>W.skip<|g 15 18 []<|J UB ?_
 refine RT ?_
 exact vi OM
def va(k:Int)(x:Boss):Boss:=⟨x.workers,x.up,x.now,x.since,x.epoch,x.given,Hh (k) x.log,mkL (fun k _=>bG k) (fun _=>1) (k+bT x.log) x.results,mkL nn eZ (k+bT x.log+x.results.length) x.jobs,mkL jJ dj (k+bT x.log+x.results.length+ak eZ x.jobs) x.seats,mkL jb dq (k+bT x.log+x.results.length+ak eZ x.jobs+ak dj x.seats) x.owed⟩
def bq(x:Boss):Int:=bT x.log+x.results.length+ak eZ x.jobs+ak dj x.seats+ak dq x.owed
theorem ky(x:Boss):0≤bq x:=by
 have:=qJ x.log
 have:=aJ gZ x.jobs
 have:=aJ fL x.seats
 have:=aJ fM x.owed
 simp only[bq];omega
theorem xS(x:Boss)(k:Int)(hl:x.log.safe.length≤9223372036854775806∧x.log.loose.length≤9223372036854775806∧x.results.length≤9223372036854775806∧x.jobs.length≤9223372036854775806∧x.seats.length≤9223372036854775806∧x.owed.length≤9223372036854775806)(h0:0≤k)(hk:k+bq x≤1099511627776):F wJ [.bor (aN x),.val (.i k)] (.i (k+bq x)) [cellsOf (aN (va k x)),[]]:=by
 obtain⟨hl0,hl1,hl2,hl3,hl4,hl5⟩:=hl
 have hn0:=qJ x.log
 have hn1:=aJ gZ x.jobs
 have hn2:=aJ fL x.seats
 have hn3:=aJ fM x.owed
 have hz:bq x = bT x.log+x.results.length+ak eZ x.jobs+ak dj x.seats+ak dq x.owed:=rfl
 refine xh ?_
 conv=>whnf
 refine g 0 1 []<|J ⟨UF,I,I⟩<|g 5 9 [.call (V.i (k+bT x.log)) ([cellsOf (PU (Hh k x.log)),[]])]<|J ⟨I,I,I,⟨⟨UB,I,I⟩,I,UV,UA,zA _ _ OM OM OM⟩,I,I⟩<|g 9 13 [.call (V.i (k+bT x.log+ (↑(List.length x.results):Int))) ([[V.own [false] (List.map aj (mkL (fun k x=>bG k) (fun x=>1) (k+bT x.log) x.results))],[]])]<|J ⟨I,I,I,⟨Zdt,I,UV,UA,eJ _ _ OM OM OM⟩,I,I⟩<|g 13 17 [.call (V.i (k+bT x.log+ (↑(List.length x.results):Int) +ak eZ x.jobs)) ([[V.own eG (List.map aO (mkL nn eZ (k+bT x.log+ (↑(List.length x.results):Int)) x.jobs))],[]])]<|J ⟨I,I,I,⟨Zdt,I,UV,UA,xQ _ _ OM OM OM⟩,I,I⟩<|g 17 21 [.call (V.i (k+bT x.log+ (↑(List.length x.results):Int) +ak eZ x.jobs+ak dj x.seats)) ([[V.own cx (List.map aG (mkL jJ dj (k+bT x.log+ (↑(List.length x.results):Int) +ak eZ x.jobs) x.seats))],[]])]<|J ⟨I,I,I,⟨Zdt,I,UV,UA,uK _ _ OM OM OM⟩,I,I⟩<|g 21 25 [.call (V.i (k+bT x.log+ (↑(List.length x.results):Int) +ak eZ x.jobs+ak dj x.seats+ak dq x.owed)) ([[V.own cy (List.map aL (mkL jb dq (k+bT x.log+ (↑(List.length x.results):Int) +ak eZ x.jobs+ak dj x.seats) x.owed))],[]])]<|J ⟨I,I,I,⟨Zdt,I,UV,UA,uL _ _ OM OM OM⟩,I,I⟩<|g 1 3 []<|J UB<|RT ?_
 exact vi OM
theorem xW(x:Boss)(k:Int)(hl:x.log.safe.length≤9223372036854775806∧x.log.loose.length≤9223372036854775806∧x.results.length≤9223372036854775806∧x.jobs.length≤9223372036854775806∧x.seats.length≤9223372036854775806∧x.owed.length≤9223372036854775806)(h0:0≤k)(hk:k+bq x≤1099511627776):F wN [.val (f0 (va k x)),.val (.i k)] (.i (k+bq x)) [[],[]]:=by
 obtain⟨hl0,hl1,hl2,hl3,hl4,hl5⟩:=hl
 have hn0:=qJ x.log
 have hn1:=aJ gZ x.jobs
 have hn2:=aJ fL x.seats
 have hn3:=aJ fM x.owed
 have hz:bq x = bT x.log+x.results.length+ak eZ x.jobs+ak dj x.seats+ak dq x.owed:=rfl
 refine xp ?_
 conv=>whnf
 refine g 0 1 []<|J Zep<|g 5 9 [.call (V.i (k+bT x.log)) [[],[]]]<|J ⟨I,I,I,⟨UB,I,⟨UB,UA,I⟩,UA,zB _ _ OM OM OM⟩,I,I⟩<|W.sq<|g 9 10 []<|J UB<|W.cn<|J (noT dO) fun _=>W.skip<|g 10 15 [.call (V.i (k+bT x.log+ (↑(List.length x.results):Int))) [[],[]]]<|J ⟨I,I,I,⟨UB,I,UT,UA,eK _ _ OM OM OM⟩,I,I⟩<|W.sq<|g 15 16 []<|J UB<|W.cn<|J (noT dO) fun _=>W.skip<|g 16 21 [.call (V.i (k+bT x.log+ (↑(List.length x.results):Int) +ak eZ x.jobs)) [[],[]]]<|J ⟨I,I,I,⟨UB,I,UT,UA,xU _ _ OM OM OM⟩,I,I⟩ ?_
 refine W.sq<|g 21 22 []<|J UB<|W.cn<|J (noT dO) fun _=>W.skip<|g 22 27 [.call (V.i (k+bT x.log+ (↑(List.length x.results):Int) +ak eZ x.jobs+ak dj x.seats)) [[],[]]]<|J ⟨I,I,I,⟨UB,I,UT,UA,uN _ _ OM OM OM⟩,I,I⟩<|W.sq<|g 27 28 []<|J UB<|W.cn<|J (noT dO) fun _=>W.skip<|g 28 33 [.call (V.i (k+bT x.log+ (↑(List.length x.results):Int) +ak eZ x.jobs+ak dj x.seats+ak dq x.owed)) [[],[]]]<|J ⟨I,I,I,⟨UB,I,UT,UA,uO _ _ OM OM OM⟩,I,I⟩<|W.sq<|g 2 3 []<|J UB ?_
 refine W.cn<|J (noT dO) fun _=>W.skip<|g 33 36 []<|J UB<|RT ?_
 exact vi OM
end Go.K
end
section
open Go Go.Tm Go.Proofs
namespace Go.K
theorem uT(b:Boss)(h1:b.log.safe.length≤1048576)(h2:b.log.loose.length≤1048576)(h3:b.results.length≤1048576)(h4:b.jobs.length≤1048576)(h5:b.seats.length≤1048576)(h6:b.owed.length≤1048576):F li [.val (f0 b)] (aN b) [[]]:=by
 refine uw ?_
 conv=>whnf
 refine g 0 0 []<|J Zep<|gd 3 13 [[],[],[],[.call (V.own [false] (List.map aj b.log.safe)) [[]]],[],[],[],[.call (V.own [false] (List.map aj b.log.loose)) [[]]],[],[],[]] ?_
 conv=>whnf
 refine J ⟨I,I,I,⟨UA,I,US,UA,eS _ OM⟩,I,I,I,⟨UA,I,US,UA,eS _ OM⟩,I,I,UB,I⟩<|J KR<|g 13 17 [.call (V.own [false] (List.map aj b.results)) [[]]]<|J ⟨I,I,⟨UA,I,US,UA,eS _ OM⟩,I,UA,I⟩<|g 17 22 []<|J Zce<|g 22 27 []<|J Zce<|g 27 32 []<|J Zce<|g 0 2 []<|J Zdw<|RT ?_
 rfl
theorem Gs(l:Log)(h1:l.safe.length≤1048576)(h2:l.loose.length≤1048576):F FD [.val (PT l)] (PU l) [[]]:=by
 refine FY ?_
 conv=>whnf
 refine g 0 0 []<|J ⟨UB,I,I⟩<|gd 3 12 [[],[],[],[],[],[],[],[],[],[]] ?_
 conv=>whnf
 refine J ⟨I,I,I,Zdm,I,I,I,Zdm,I,UB,I⟩<|J KR<|RT ?_
 rfl
theorem pu(b:Boss)(h1:b.log.safe.length≤1048576)(h2:b.log.loose.length≤1048576)(h3:b.results.length≤1048576)(h4:b.jobs.length≤1048576)(h5:b.seats.length≤1048576)(h6:b.owed.length≤1048576):F o7 [.val (f0 b)] (aN b) [[]]:=by
 have c1:=Gs b.log h1 h2
 refine CC ?_
 conv=>whnf
 refine g 0 1 []<|J Zep<|g 3 7 [.call (PU b.log) [[]]]<|J ⟨I,I,⟨UA,I,⟨UB,I⟩,UA,AS⟩,I,UB,I⟩<|g 7 12 []<|J Zce<|g 12 17 []<|J Zce<|g 17 22 []<|J Zce<|g 22 27 []<|J Zce<|g 1 2 []<|J Zdw<|RT ?_
 rfl
structure BossLim (b:Boss):Prop where
 safe:b.log.safe.length≤1048576
 loose:b.log.loose.length≤1048576
 all:∀ s∈b.log.safe++b.log.loose,s.size≤281474976710656
 res:b.results.length≤1048576
 jobs:b.jobs.length≤1048576
 seats:b.seats.length≤1048576
 owed:b.owed.length≤1048576
theorem J6{b:Boss}(h:bJ b≤1048576):BossLim b:=by
 obtain⟨b1,b2,b3,b4,b5,b6,b7⟩:=IV h
 exact⟨b1,b2,b3,b4,b5,b6,b7⟩
theorem Rw(b:Boss)(p:Plan)(hp:dv p)(h:BossLim b):F lg [.val (f0 b),.val (cR p)] (.b (decide (BossOk b p))) [[],[]]:=uR b p hp h.safe h.loose h.all h.res h.jobs h.seats h.owed
theorem og(b:Boss)(p:Plan)(hp:dv p)(h:BossLim b):F le [.val (f0 b),.val (cR p)] (.b (decide (BossOk b p))) [[],[]]:=uE b p hp h.safe h.loose h.all h.res h.jobs h.seats h.owed
theorem Vu(b:Boss)(h:BossLim b):F li [.val (f0 b)] (aN b) [[]]:=uT b h.safe h.loose h.res h.jobs h.seats h.owed
theorem uC(b:Boss)(h:BossLim b):F o7 [.val (f0 b)] (aN b) [[]]:=pu b h.safe h.loose h.res h.jobs h.seats h.owed
end Go.K
end
section
open Go Go.Tm Go.Proofs
namespace Go.K
theorem Ja:∀ l:List Job,ak eZ l = 3 * (l.length:Int)
 |[]=>by simp[ak]
 |x :: l=>by have:=Ja l;simp only[ak,eZ,List.length_cons];omega
theorem Et:∀ l:List Seat,ak dj l = 2 * (l.length:Int)
 |[]=>by simp[ak]
 |x :: l=>by have:=Et l;simp only[ak,dj,List.length_cons];omega
theorem Eu:∀ l:List Owed,ak dq l = 3 * (l.length:Int)
 |[]=>by simp[ak]
 |x :: l=>by have:=Eu l;simp only[ak,dq,List.length_cons];omega
theorem GC(x:Boss):bq x = x.log.safe.length+x.log.loose.length+x.results.length+3 * x.jobs.length+2 * x.seats.length+3 * x.owed.length:=by
 simp only[bq,bT,Ja,Et,Eu]
structure BossSmall (b:Boss):Prop where
 safe:b.log.safe.length≤4194304
 loose:b.log.loose.length≤4194304
 res:b.results.length≤4194304
 jobs:b.jobs.length≤4194304
 seats:b.seats.length≤4194304
 owed:b.owed.length≤4194304
theorem sy:BossSmall kE:=⟨by decide,by decide,by decide,by decide,by decide,by decide⟩
theorem lK{b:Boss}(h:BossLim b):BossSmall b:=by
 obtain⟨h1,h2,h3,h4,h5,h6,h7⟩:=h
 exact⟨by omega,by omega,by omega,by omega,by omega,by omega⟩
theorem mG{b:Boss}(h:BossSmall b):pA b∧(b.log.safe.length≤9223372036854775806∧b.log.loose.length≤9223372036854775806∧b.results.length≤9223372036854775806∧b.jobs.length≤9223372036854775806∧b.seats.length≤9223372036854775806∧b.owed.length≤9223372036854775806)∧bq b≤100000000∧0≤bq b:=by
 obtain⟨h1,h2,h3,h4,h5,h6⟩:=h
 have e:=GC b
 exact⟨⟨by omega,by omega,by omega,by omega,by omega,by omega⟩,⟨by omega,by omega,by omega,by omega,by omega,by omega⟩,by omega,by omega⟩
end Go.K
end
section
open Go Go.Tm Go.Proofs
namespace Go.K
structure Led where
 boss:Boss
 out:List Message
 deriving DecidableEq
abbrev MO(x:Led):V:=.agg [.t (.i x.boss.workers),.t (.b x.boss.up),.t (.i x.boss.now),.t (.i x.boss.since),.t (.i x.boss.epoch),.t (.i x.boss.given),.own [false] (x.boss.log.safe.map aj),.own [false] (x.boss.log.loose.map aj),.own [false] (x.boss.results.map aj),.own eG (x.boss.jobs.map aO),.own cx (x.boss.seats.map aG),.own cy (x.boss.owed.map aL),.own cO (x.out.map aI)]
abbrev Hg:Led:=⟨⟨0,false,0,0,0,0,⟨[],[]⟩,[],[],[],[]⟩,[]⟩
end Go.K
end

/- Contracts of functions of the program: what each call answers. -/
import Derived.Test.YtoknlfldllmhpaaGreatPartd
set_option maxHeartbeats 8000000
set_option maxRecDepth 20000
set_option linter.unusedVariables false
set_option linter.unusedSimpArgs false
section
open Go Go.Tm Go.Proofs
namespace Go.K
theorem uz(b:Boss)(p:Plan)(hp:dl p)(hl1:b.log.safe.length≤1048576)(hl2:b.log.loose.length≤1048576)(hs:∀ s∈b.log.safe++b.log.loose,s.size≤281474976710656)(hr:b.results.length≤1048576)(hj:b.jobs.length≤1048576)(hse:b.seats.length≤1048576)(ho:b.owed.length≤1048576):F kQ [.val (fJ b),.val (cO p)] (.b (decide (BossOk b p))) [[],[]]:=by
 have cp:=fm p hp
 have ce:=iJ b hl1 hl2
 have cr:F oN [.val (cO p),.val (.t (pZ (b.log.safe++b.log.loose)))] (gc (cx b p)) [[],[]]:=pg p (b.log.safe++b.log.loose) hp hs (by rw[List.length_append];omega)
 by_cases hup:b.up = true
 rotate_left
 ·rw[Bool.not_eq_true]at hup
  refine lb ?_
  conv=>whnf
  refine g 0 2 []<|J Zcp<|W.sq ?_
  by_cases h1:aq (Plan.tasks p) = (0:Int)
  by_cases h2:(1:Int)≤Boss.workers b∧Boss.workers b≤(8:Int)
  refine g 17 19 [.call (V.i (aq p.tasks)) [[]],BF,BF,BF,.call (V.b (decide (1≤b.workers∧b.workers≤8))) [[],[],[]],BF,BF,BF,BF,BF,.call (V.b (decide (0≤b.now∧b.now≤1000000))) [[],[],[]],BF,BF]<|J ⟨I,Zai,I,I,⟨nO,I⟩,⟨nO,I⟩,⟨nO,UC,I,UU,UA,aa _ _ _⟩,⟨nO,I⟩,nO,I,⟨nO,I⟩,⟨nO,I⟩,⟨nO,UC,I,UU,UA,aa _ _ _⟩,⟨nO,I⟩,nO,I⟩<|W.cn<|J (fun h3=>?_) fun h3=>?_
  replace h3:=ndt h3
  refine g 29 31 []<|J UA<|RT ?_
  rotate_left
  replace h3:=ndf h3
  refine W.skip<|gd 29 32 [[],[],[.call (V.own [false] (List.map ak (b.log.safe++b.log.loose))) [[]]],[.call (gc (cx b p)) [[],[]]],[],[]] ?_
  conv=>whnf
  refine J ⟨I,I,Za0,Zam,I,UC,I⟩<|J KR<|W.sq<|g 33 37 []<|J UC<|W.cn<|J (fun h4=>?_) fun h4=>?_
  replace h4:=ndt h4
  refine g 21 22 []<|J UA<|RT ?_
  rotate_left
  replace h4:=ndf h4
  refine W.skip<|W.sq<|g 21 22 []<|J UC<|W.cn<|J (fun _=>?_) (noF (nbT AS))
  by_cases h5:(↑(List.length (List.map ak (Log.loose (Boss.log b)))):Int) = (0:Int)
  simp only[LM]at h5
  by_cases h6:Boss.since b = (0:Int)
  by_cases h7:Boss.epoch b = (0:Int)
  by_cases h8:Boss.given b = (0:Int)
  by_cases h9:(↑(List.length (List.map ak (Boss.results b))):Int) = (0:Int)
  simp only[LM]at h9
  by_cases h10:(↑(List.length (List.map aV (Boss.jobs b))):Int) = (0:Int)
  simp only[LM]at h10
  by_cases h11:(↑(List.length (List.map aF (Boss.seats b))):Int) = (0:Int)
  simp only[LM]at h11
  refine g 32 85 [BT,BT,BT,BT,BT,BT,BT,BT,BT,BT,BT,BT,BT,BT,BT,BT,BT,BT,BT,BT,BT,BT,BT,BT,BT,BT,BT,BT,BT,BT,BT,BT] ?_
  conv=>whnf
  refine J Zaz<|RT ?_
  rotate_left
  simp only[LM]at h11
  refine g 32 85 [BT,BT,BT,BT,BT,BT,BT,BT,BT,BT,BT,BT,BT,BT,BT,BT,BT,BT,BT,BT,BT,BT,BT,BT,BT,BT,BT,BF,BF,BF,BF,BF] ?_
  conv=>whnf
  refine J ⟨I,I,I,I,I,I,⟨SI,I⟩,⟨SI,I⟩,⟨SI,I⟩,SI,I,⟨tO,I⟩,⟨tO,I⟩,⟨tO,I⟩,tO,I,⟨tO,I⟩,⟨tO,I⟩,⟨tO,I⟩,tO,I,⟨tO,I⟩,⟨tO,I⟩,⟨tO,I⟩,⟨tO,I⟩,tO,I,⟨SI,I⟩,⟨SI,I⟩,⟨SI,I⟩,⟨SI,I⟩,SI,I,⟨SI,I⟩,⟨SI,I⟩,⟨SI,I⟩,⟨SI,I⟩,SI,I,(by simp_all),(by simp_all),(by simp_all),(by simp_all),(by simp_all),I,I⟩<|RT ?_
  rotate_left
  simp only[LM]at h10
  refine g 32 85 [BT,BT,BT,BT,BT,BT,BT,BT,BT,BT,BT,BT,BT,BT,BT,BT,BT,BT,BT,BT,BT,BT,BF,BF,BF,BF,BF,BF,BF,BF,BF,BF] ?_
  conv=>whnf
  refine J ⟨I,I,I,I,I,I,⟨SI,I⟩,⟨SI,I⟩,⟨SI,I⟩,SI,I,⟨tO,I⟩,⟨tO,I⟩,⟨tO,I⟩,tO,I,⟨tO,I⟩,⟨tO,I⟩,⟨tO,I⟩,tO,I,⟨tO,I⟩,⟨tO,I⟩,⟨tO,I⟩,⟨tO,I⟩,tO,I,⟨SI,I⟩,⟨SI,I⟩,⟨SI,I⟩,⟨SI,I⟩,SI,I,(by simp_all),(by simp_all),(by simp_all),(by simp_all),(by simp_all),I,rfl,rfl,rfl,rfl,rfl,I,I⟩<|RT ?_
  rotate_left
  simp only[LM]at h9
  refine g 32 85 [BT,BT,BT,BT,BT,BT,BT,BT,BT,BT,BT,BT,BT,BT,BT,BT,BT,BF,BF,BF,BF,BF,BF,BF,BF,BF,BF,BF,BF,BF,BF,BF] ?_
  conv=>whnf
  refine J ⟨I,I,I,I,I,I,⟨SI,I⟩,⟨SI,I⟩,⟨SI,I⟩,SI,I,⟨tO,I⟩,⟨tO,I⟩,⟨tO,I⟩,tO,I,⟨tO,I⟩,⟨tO,I⟩,⟨tO,I⟩,tO,I,⟨tO,I⟩,⟨tO,I⟩,⟨tO,I⟩,⟨tO,I⟩,tO,I,(by simp_all),(by simp_all),(by simp_all),(by simp_all),(by simp_all),I,rfl,rfl,rfl,rfl,rfl,I,rfl,rfl,rfl,rfl,rfl,I,I⟩<|RT ?_
  rotate_left
  refine g 32 85 [BT,BT,BT,BT,BT,BT,BT,BT,BT,BT,BT,BT,BF,BF,BF,BF,BF,BF,BF,BF,BF,BF,BF,BF,BF,BF,BF,BF,BF,BF,BF,BF] ?_
  conv=>whnf
  refine J Zbt<|RT ?_
  rotate_left
  refine g 32 85 [BT,BT,BT,BT,BT,BT,BT,BT,BF,BF,BF,BF,BF,BF,BF,BF,BF,BF,BF,BF,BF,BF,BF,BF,BF,BF,BF,BF,BF,BF,BF,BF] ?_
  conv=>whnf
  refine J Zby<|RT ?_
  rotate_left
  refine g 32 85 [BT,BT,BT,BT,BF,BF,BF,BF,BF,BF,BF,BF,BF,BF,BF,BF,BF,BF,BF,BF,BF,BF,BF,BF,BF,BF,BF,BF,BF,BF,BF,BF] ?_
  conv=>whnf
  refine J Zb3<|RT ?_
  rotate_left
  simp only[LM]at h5
  refine g 32 85 [BF,BF,BF,BF,BF,BF,BF,BF,BF,BF,BF,BF,BF,BF,BF,BF,BF,BF,BF,BF,BF,BF,BF,BF,BF,BF,BF,BF,BF,BF,BF,BF] ?_
  conv=>whnf
  refine J ⟨I,I,I,I,I,I,(by simp_all),(by simp_all),(by simp_all),(by simp_all),I,rfl,rfl,rfl,rfl,I,rfl,rfl,rfl,rfl,I,rfl,rfl,rfl,rfl,rfl,I,rfl,rfl,rfl,rfl,rfl,I,rfl,rfl,rfl,rfl,rfl,I,rfl,rfl,rfl,rfl,rfl,I,I⟩<|RT ?_
  rotate_left
  refine g 17 19 [.call (V.i (aq p.tasks)) [[]],BF,BF,BF,.call (V.b (decide (1≤b.workers∧b.workers≤8))) [[],[],[]],BF,BF,BT,BT,BT,BT,BT]<|J ⟨I,Zai,I,I,⟨nO,I⟩,⟨nO,I⟩,⟨nO,UC,I,UU,UA,aa _ _ _⟩,⟨nO,I⟩,nO,I,ag OM,ag OM,ag OM,ag OM,ag OM,I⟩<|W.cn<|J (fun _=>(g 29 31 []<|J UA (RT ?_))) (noF rfl)
  rotate_left
  refine g 17 19 [.call (V.i (aq p.tasks)) [[]],BT,BT,BT,BT,BT,BT,BT,BT,BT,BT]<|J ⟨I,Zai,I,I,ag OM,ag OM,ag OM,ag OM,ag OM,I,rfl,rfl,rfl,rfl,rfl,I⟩<|W.cn<|J (fun _=>(g 29 31 []<|J UA (RT ?_))) (noF rfl)
  rotate_left
  all_goals first
   |exact vbf (fun q=>by have e1:=q.plan;have e2:=q.workers;have e3:=q.now;have e4:=q.code;omega)
   |exact vbf (zU hup fun q=>by have e1:=q.loose;have e2:=q.since;have e3:=q.epoch;have e4:=q.given;have e5:=q.res;have e6:=q.jobs;have e7:=q.seats;omega)
   |(rename_i h8
     simp only[List.length_map]
     by_cases h9:(b.owed.length:Int) = 0
     ·rw[decide_eq_true h9];exact vbt ⟨by omega,by omega,by omega,by omega,(fun q=>by rw[hup]at q;cases q),fun _=>⟨by omega,by omega,by omega,by omega,by omega,by omega,by omega,by omega⟩⟩
     ·rw[decide_eq_false h9];exact vbf (zU hup fun q=>by have e8:=q.owed;omega))
   |skip
 refine lb ?_
 conv=>whnf
 refine g 0 2 []<|J Zcp<|W.sq ?_
 by_cases h1:aq (Plan.tasks p) = (0:Int)
 by_cases h2:(1:Int)≤Boss.workers b∧Boss.workers b≤(8:Int)
 refine g 17 19 [.call (V.i (aq p.tasks)) [[]],BF,BF,BF,.call (V.b (decide (1≤b.workers∧b.workers≤8))) [[],[],[]],BF,BF,BF,BF,BF,.call (V.b (decide (0≤b.now∧b.now≤1000000))) [[],[],[]],BF,BF]<|J ⟨I,Zai,I,I,⟨nO,I⟩,⟨nO,I⟩,⟨nO,UC,I,UU,UA,aa _ _ _⟩,⟨nO,I⟩,nO,I,⟨nO,I⟩,⟨nO,I⟩,⟨nO,UC,I,UU,UA,aa _ _ _⟩,⟨nO,I⟩,nO,I⟩<|W.cn<|J (fun h3=>?_) fun h3=>?_
 replace h3:=ndt h3
 refine g 29 31 []<|J UA<|RT ?_
 rotate_left
 replace h3:=ndf h3
 refine W.skip<|gd 29 32 [[],[],[.call (V.own [false] (List.map ak (b.log.safe++b.log.loose))) [[]]],[.call (gc (cx b p)) [[],[]]],[],[]] ?_
 conv=>whnf
 refine J ⟨I,I,Za0,Zam,I,UC,I⟩<|J KR<|W.sq<|g 33 37 []<|J UC<|W.cn<|J (fun h4=>?_) fun h4=>?_
 replace h4:=ndt h4
 refine g 21 22 []<|J UA<|RT ?_
 rotate_left
 replace h4:=ndf h4
 refine W.skip<|W.sq<|g 21 22 []<|J UC<|W.cn<|J (noT (nbF AS)) fun _=>W.skip<|W.sq ?_
 by_cases h5:Boss.epoch b = Story.epoch (cx b p)
 by_cases h6:Boss.epoch b < (1:Int)
 refine g 25 120 [BF,BF,BF,BF,BT,BT,BT,BT,BT,BT,BT,BT,BT,BT,BT,BT,BT,BT,BT,BT,BT,BT,BT,BT,BT,BT,BT]<|J ⟨I,I,I,I,I,I,⟨nO,I⟩,⟨nO,I⟩,⟨nO,I⟩,nO,I,tO,tO,tO,tO,tO,tO,tO,tO,I,rfl,rfl,rfl,rfl,rfl,rfl,rfl,rfl,I,rfl,rfl,rfl,rfl,rfl,rfl,rfl,I⟩<|W.cn<|J (fun _=>(g 19 21 []<|J UA (RT ?_))) (noF rfl)
 rotate_left
 by_cases h7:(↑(List.length (List.map ak (Boss.results b))):Int) = (↑(List.length (List.map ay (Plan.tasks p))):Int)
 simp only[LM]at h7
 by_cases h8:(↑(List.length (List.map aV (Boss.jobs b))):Int) = (↑(List.length (List.map ay (Plan.tasks p))):Int)
 simp only[LM]at h8
 refine g 25 120 [BF,BF,BF,BF,BF,BF,BF,BF,BF,BF,BF,BF,BF,BF,BF,BF,BF,BF,BF,BF,BF,BF,BF,BF,BF,BF,BF]<|J ⟨I,I,I,I,I,I,⟨nO,I⟩,⟨nO,I⟩,⟨nO,I⟩,nO,I,⟨dO,I⟩,⟨dO,I⟩,⟨dO,I⟩,⟨dO,I⟩,⟨dO,I⟩,⟨dO,I⟩,⟨dO,I⟩,dO,I,⟨SI,I⟩,⟨SI,I⟩,⟨SI,I⟩,⟨SI,I⟩,⟨SI,I⟩,⟨SI,I⟩,⟨SI,I⟩,SI,I,⟨SI,I⟩,⟨SI,I⟩,⟨SI,I⟩,⟨SI,I⟩,⟨SI,I⟩,⟨SI,I⟩,SI,I⟩<|W.cn<|J (fun h9=>?_) fun h9=>?_
 replace h9:=ndt h9
 simp only[LM]at h9
 refine g 19 21 []<|J UA<|RT ?_
 rotate_left
 replace h9:=ndf h9
 simp only[LM]at h9
 refine W.skip<|W.sq<|g 19 21 []<|J UD<|W.blk ?_
 rotate_left
 simp only[LM]at h8
 refine g 25 120 [BF,BF,BF,BF,BF,BF,BF,BF,BF,BF,BF,BF,BF,BF,BF,BF,BF,BF,BF,BF,BT,BT,BT,BT,BT,BT,BT]<|J ⟨I,I,I,I,I,I,⟨nO,I⟩,⟨nO,I⟩,⟨nO,I⟩,nO,I,⟨dO,I⟩,⟨dO,I⟩,⟨dO,I⟩,⟨dO,I⟩,⟨dO,I⟩,⟨dO,I⟩,⟨dO,I⟩,dO,I,⟨SI,I⟩,⟨SI,I⟩,⟨SI,I⟩,⟨SI,I⟩,⟨SI,I⟩,⟨SI,I⟩,⟨SI,I⟩,SI,I,SI,SI,SI,SI,SI,SI,SI,I⟩<|W.cn<|J (fun _=>(g 19 21 []<|J UA (RT ?_))) (noF rfl)
 rotate_left
 simp only[LM]at h7
 refine g 25 120 [BF,BF,BF,BF,BF,BF,BF,BF,BF,BF,BF,BF,BT,BT,BT,BT,BT,BT,BT,BT,BT,BT,BT,BT,BT,BT,BT]<|J ⟨I,I,I,I,I,I,⟨nO,I⟩,⟨nO,I⟩,⟨nO,I⟩,nO,I,⟨dO,I⟩,⟨dO,I⟩,⟨dO,I⟩,⟨dO,I⟩,⟨dO,I⟩,⟨dO,I⟩,⟨dO,I⟩,dO,I,SI,SI,SI,SI,SI,SI,SI,SI,I,rfl,rfl,rfl,rfl,rfl,rfl,rfl,I⟩<|W.cn<|J (fun _=>(g 19 21 []<|J UA (RT ?_))) (noF rfl)
 rotate_left
 refine g 25 120 [BT,BT,BT,BT,BT,BT,BT,BT,BT,BT,BT,BT,BT,BT,BT,BT,BT,BT,BT,BT,BT,BT,BT,BT,BT,BT,BT]<|J ⟨I,I,I,I,I,I,ag OM,ag OM,ag OM,ag OM,I,rfl,rfl,rfl,rfl,rfl,rfl,rfl,rfl,I,rfl,rfl,rfl,rfl,rfl,rfl,rfl,rfl,I,rfl,rfl,rfl,rfl,rfl,rfl,rfl,I⟩<|W.cn<|J (fun _=>(g 19 21 []<|J UA (RT ?_))) (noF rfl)
 rotate_left
 refine g 17 19 [.call (V.i (aq p.tasks)) [[]],BF,BF,BF,.call (V.b (decide (1≤b.workers∧b.workers≤8))) [[],[],[]],BF,BF,BT,BT,BT,BT,BT]<|J ⟨I,Zai,I,I,⟨nO,I⟩,⟨nO,I⟩,⟨nO,UC,I,UU,UA,aa _ _ _⟩,⟨nO,I⟩,nO,I,ag OM,ag OM,ag OM,ag OM,ag OM,I⟩<|W.cn<|J (fun _=>(g 29 31 []<|J UA (RT ?_))) (noF rfl)
 rotate_left
 refine g 17 19 [.call (V.i (aq p.tasks)) [[]],BT,BT,BT,BT,BT,BT,BT,BT,BT,BT]<|J ⟨I,Zai,I,I,ag OM,ag OM,ag OM,ag OM,ag OM,I,rfl,rfl,rfl,rfl,rfl,I⟩<|W.cn<|J (fun _=>(g 29 31 []<|J UA (RT ?_))) (noF rfl)
 rotate_left
 all_goals try first
  |exact vbf (fun q=>by have e1:=q.plan;have e2:=q.workers;have e3:=q.now;have e4:=q.code;omega)
  |exact vbf (fX hup fun q=>by have e1:=q.epoch;have e2:=q.pos;have e3:=q.rlen;have e4:=q.jlen;have e5:=q.slen;omega)
 have hk:(cx b p).code = 0:=by assumption
 have hc0:aq p.tasks = 0:=by assumption
 obtain⟨_,_,hsl,_⟩:=cz (p:=p) (xs:=b.log.safe++b.log.loose) hk
 obtain⟨hep1,hep2⟩:=fw (p:=p) (xs:=b.log.safe++b.log.loose) hk
 change (cx b p).results.length = _ at hsl
 change 0≤(cx b p).epoch at hep1
 change (cx b p).epoch≤300 at hep2
 have f1:b.epoch = (cx b p).epoch:=by assumption
 have f2:1≤b.epoch:=by omega
 have f3:b.results.length = p.tasks.length:=by omega
 have f4:b.jobs.length = p.tasks.length:=by omega
 have f5:(b.seats.length:Int) = b.workers:=by omega
 have f6:1≤b.workers∧b.workers≤8:=by assumption
 have f7:0≤b.now∧b.now≤1000000:=by assumption
 have hpl:=(bT hc0).1
 refine W.lp (fun s (n:Nat)=>⟨[(2,s.s 2),(3,s.s 3),(5,s.s 5),(16,s.s 16),(22,s.s 22),(24,s.s 24),(122,s.s 122),(123,s.s 123),(124,.i n)],[(2,[s.c 2 0,s.c 2 1,s.c 2 2,s.c 2 3,s.c 2 4,s.c 2 5,s.c 2 6,s.c 2 7,s.c 2 8,s.c 2 9,s.c 2 10,s.c 2 11]),(3,[s.c 3 0]),(5,[s.c 5 0,s.c 5 1,s.c 5 2])],[]⟩) (fun(n:Nat)=>n≤b.results.length∧b.results.take n = (cx b p).results.take n) (fun(n:Nat)=>b.results.length - n) (0) [some 2,some 3,some 5] [] ⟨rfl,⟨rfl,rfl,rfl,Zag,rfl,rfl,rfl,rfl,rfl,I⟩,⟨Zaa,⟨Zac,Zes⟩⟩,I⟩ (by simp) ?_
 rintro n ⟨hn,hc⟩
 conv=>whnf
 refine g 0 0 []<|J UA<|W.sq<|W.cn<|J (fun h10=>?_) fun h10=>?_
 replace h10:=dt h10
 simp only[LM]at h10
 refine W.skip<|W.sq<|W.blk ?_
 obtain⟨y1,hy1⟩:=af (xs:=Boss.results b) (n:=n) OM
 refine g 125 129 [.x (ak y1)]<|J ⟨I,Zdg,I,I,I,I⟩ ?_
 obtain⟨y2,hy2⟩:=af (xs:=Story.results (cx b p)) (n:=n) OM
 refine g 129 135 [.n (n),.x (ak y2)]<|J ⟨I,I,I,Zdf,xA,I,I,I⟩<|W.cn<|J (fun h11=>?_) fun h11=>?_
 replace h11:=ndt h11
 refine g 7 8 []<|J UA<|RT ?_
 rotate_left
 replace h11:=ndf h11
 refine W.skip<|rg [.i ((n:Int) +1)]<|J Zdm ?_
 rotate_left
 replace h10:=df h10
 simp only[LM]at h10
 refine W.exit<|W.sq ?_
 by_cases h11:(0:Int)≤Boss.since b∧Boss.since b≤(1:Int)
 by_cases h12:(0:Int)≤Boss.given b∧Boss.given b≤(1000000:Int)
 refine g 122 152 [.call (V.b (decide (0≤b.since∧b.since≤1))) [[],[],[]],BF,BF,BF,.call (V.b (decide (0≤b.given∧b.given≤1000000))) [[],[],[]],BF,BF,BF,BF,BF,BF,BF]<|J ⟨I,I,⟨UC,I,UU,UA,aa _ _ _⟩,I,I,⟨nO,I⟩,⟨nO,I⟩,⟨nO,UC,I,UU,UA,aa _ _ _⟩,⟨nO,I⟩,nO,I,⟨nO,I⟩,⟨nO,I⟩,⟨nO,I⟩,⟨nO,I⟩,nO,I⟩<|W.cn<|J (fun h13=>?_) fun h13=>?_
 replace h13:=dt h13
 simp only[LM]at h13
 refine g 5 6 []<|J UA<|RT ?_
 rotate_left
 replace h13:=df h13
 simp only[LM]at h13
 refine W.skip<|g 152 154 []<|J UB<|g 154 158 [.i (b.epoch - 1),.i ((b.epoch - 1) * 1000000)]<|J ⟨I,I,wO,wO,I,I⟩<|W.sq<|g 5 6 []<|J UD<|W.blk ?_
 rotate_left
 refine g 122 152 [.call (V.b (decide (0≤b.since∧b.since≤1))) [[],[],[]],BF,BF,BF,.call (V.b (decide (0≤b.given∧b.given≤1000000))) [[],[],[]],BF,BF,BT,BT,BT,BT,BT]<|J ⟨I,I,⟨UC,I,UU,UA,aa _ _ _⟩,I,I,⟨nO,I⟩,⟨nO,I⟩,⟨nO,UC,I,UU,UA,aa _ _ _⟩,⟨nO,I⟩,nO,I,ag OM,ag OM,ag OM,ag OM,ag OM,I⟩<|W.cn<|J (fun _=>(g 5 6 []<|J UA (RT ?_))) (noF rfl)
 rotate_left
 refine g 122 152 [.call (V.b (decide (0≤b.since∧b.since≤1))) [[],[],[]],BT,BT,BT,BT,BT,BT,BT,BT,BT,BT]<|J ⟨I,I,⟨UC,I,UU,UA,aa _ _ _⟩,I,I,ag OM,ag OM,ag OM,ag OM,ag OM,I,rfl,rfl,rfl,rfl,rfl,I⟩<|W.cn<|J (fun _=>(g 5 6 []<|J UA (RT ?_))) (noF rfl)
 rotate_left
 all_goals try first
  |exact vbf (fX hup fun q=>by have e1:=q.res;rw[e1]at hy1;rw[hy1]at hy2;cases hy2;contradiction)
  |exact vbf (fX hup fun q=>by have e1:=q.since;have e2:=q.given;have e3:=q.olen;omega)
 ·refine⟨n+1,[some 2,some 3,some 5],[],⟨rfl,⟨rfl,rfl,rfl,Zag,rfl,rfl,rfl,rfl,rfl,I⟩,⟨Zaa,⟨Zac,Zes⟩⟩,I⟩,?_,?_⟩
  rotate_left
  (dsimp only;omega)
  dsimp only
  exact⟨by omega,jD hc hy1 (by rw[hy2];simp_all)⟩
 have g1:b.results = (cx b p).results:=by rw[aE OM,aE OM]at hc;exact hc
 have g2:0≤b.since∧b.since≤1:=by omega
 have g3:0≤b.given∧b.given≤1000000:=by omega
 have g4:b.owed.length≤2000:=by omega
 refine W.lp (fun s (n:Nat)=>⟨[(2,s.s 2),(3,s.s 3),(8,s.s 8),(9,s.s 9),(16,s.s 16),(22,s.s 22),(24,s.s 24),(159,s.s 159),(160,s.s 160),(161,.i n)],[(2,[s.c 2 0,s.c 2 1,s.c 2 2,s.c 2 3,s.c 2 4,s.c 2 5,s.c 2 6,s.c 2 7,s.c 2 8,s.c 2 9,s.c 2 10,s.c 2 11]),(3,[s.c 3 0])],[(153,mw b n)]⟩) (fun(n:Nat)=>n≤b.jobs.length∧gY b p.tasks n) (fun(n:Nat)=>b.jobs.length - n) (0) [some 2,some 3] [153] ⟨rfl,⟨rfl,rfl,rfl,rfl,⟨_,rfl,_,_,rfl,rfl,rfl⟩,rfl,rfl,rfl,rfl,rfl,I⟩,⟨⟨rfl,⟨rfl,⟨rfl,⟨rfl,⟨rfl,⟨rfl,⟨rfl,⟨rfl,⟨rfl,⟨rfl,⟨rfl,⟨rfl,⟨rfl,I⟩⟩⟩⟩⟩⟩⟩⟩⟩⟩⟩⟩⟩,⟨⟨rfl,⟨rfl,I⟩⟩,I⟩⟩,⟨rfl,I⟩⟩ ?_ ?_
 ·exact⟨Nat.zero_le _,fun m j hm=>by omega⟩
 rintro n1 ⟨hn1,hc1⟩
 have hrl:b.results.length = p.tasks.length:=f3
 by_cases hj2:n1 < b.jobs.length
 ·obtain⟨j,hj1⟩:=af hj2
  obtain⟨y,hy0⟩:=af (xs:=b.results) (n:=n1) OM
  obtain⟨t,ht0⟩:=af (xs:=p.tasks) (n:=n1) OM
  have hkin:=N6 b n1 j.lease
  obtain⟨_,_,a3,a4⟩:=bZ hc0 ht0
  have crd:=iU b.results t.deps (fun d hd=>by have:=a4 d hd;omega) OM
  by_cases hz:j.lease = 0
  ·by_cases hz2:j.worker = 0∧j.til = 0
   ·have hjo:GU b p.tasks n1 j:=⟨fun _=>hz2,fun e=>absurd hz e⟩
    obtain⟨hz3,hz4⟩:=hz2
    conv=>whnf
    refine g 0 0 []<|J UA<|W.sq<|W.cn<|J (fun _=>(W.skip (W.sq (W.blk (g 162 166 [.x (aV j)]<|J Zbu (W.sq (g 166 168 []<|J UC (W.cn<|J (fun _=>(W.sq (g 168 171 [BT]<|J ⟨I,I,by simp[*],I⟩ ?_))) (noF tO))))))))) (noF (by simp_all))
    refine W.cn<|J (noT rfl) fun _=>W.skip<|W.exit<|rg [.i ((n1:Int) +1)]<|J Zdm ?_
    refine⟨n1+1,[some 2,some 3],[153],⟨rfl,⟨rfl,rfl,rfl,rfl,Zag,rfl,rfl,rfl,rfl,rfl,I⟩,⟨Zaa,Zdn⟩,⟨(congrArg some (KV hj1 hz).symm),I⟩⟩,?_,?_⟩
    rotate_left
    (dsimp only;omega)
    dsimp only
    exact⟨by omega,oi hc1 hj1 hjo⟩
   ·conv=>whnf
    refine g 0 0 []<|J UA<|W.sq<|W.cn<|J (fun _=>(W.skip (W.sq (W.blk (g 162 166 [.x (aV j)]<|J Zbu (W.sq (g 166 168 []<|J UC (W.cn<|J (fun _=>(W.sq (g 168 171 [BF]<|J ⟨I,I,by simp_all,I⟩ ?_))) (noF tO))))))))) (noF (by simp_all))
    refine W.cn<|J (fun _=>(g 171 172 []<|J UA (RT ?_))) (noF rfl)
    all_goals exact vbf (fX hup (mQ hj1 (fun q=>by have:=q.1 hz;omega)))
  ·by_cases hA:(b.epoch - 1) * 1000000+1≤j.lease∧j.lease≤(b.epoch - 1) * 1000000+b.given
   ·by_cases hB:j.lease∈(b.jobs.take n1).map Job.lease
    ·have hkm:Value.int IntKind.i64 j.lease∈mw b n1:=(Ep hz).2 hB
     conv=>whnf
     refine g 0 0 []<|J UA<|W.sq<|W.cn<|J (fun _=>(W.skip (W.sq (W.blk (g 162 166 [.x (aV j)]<|J Zbu (W.sq (g 166 168 []<|J UC (W.cn<|J (noT dO) fun _=>(W.skip (W.sq ?_)))))))))) (noF (by simp_all))
     refine g 168 207 [.i ((b.epoch - 1) * 1000000+1),.i ((b.epoch - 1) * 1000000+b.given),.call (V.b (decide ((b.epoch - 1) * 1000000+1≤j.lease∧j.lease≤(b.epoch - 1) * 1000000+b.given))) [[],[],[]],BF,BF,BF,BF,.b (decide (j.lease∈List.map (fun l=>l) (List.filter (fun l=>decide ¬l = 0) (List.map Job.lease (List.take n1 b.jobs))))),BF,BT,BT,BT,BT,BT,BT,BT,BT,BT,BT,BT,BT,BT,BT,BT,BT,BT,BT]<|J ⟨I,I,I,wO,I,I,I,wO,⟨UC,I,UU,UA,aa _ _ _⟩,I,I,⟨nO,I⟩,⟨nO,I⟩,⟨nO,I⟩,⟨nO,lS,gD⟩,nO,I,(by simp_all),(by simp_all),(by simp_all),(by simp_all),(by simp_all),(by simp_all),(by simp_all),I,rfl,rfl,rfl,rfl,rfl,rfl,rfl,rfl,rfl,rfl,rfl,I⟩<|W.cn<|J (fun _=>(g 207 208 []<|J UA (RT ?_))) (noF rfl)
     exact vbf (fX hup (mQ hj1 (fun q=>(q.2 hz).once hB)))
    ·have hkm:¬Value.int IntKind.i64 j.lease∈mw b n1:=fun e=>hB ((Ep hz).1 e)
     by_cases hC:1≤j.worker∧j.worker≤b.workers
     ·by_cases hD:b.now+1≤j.til∧j.til≤b.now+12
      ·by_cases hE:y = emp
       ·by_cases hF:cU b.results t.deps
        ·rw[decide_eq_true hF]at crd
         conv=>whnf
         refine g 0 0 []<|J UA<|W.sq<|W.cn<|J (fun _=>(W.skip (W.sq (W.blk (g 162 166 [.x (aV j)]<|J Zbu (W.sq (g 166 168 []<|J UC (W.cn<|J (noT dO) fun _=>(W.skip (W.sq ?_)))))))))) (noF (by simp_all))
         refine g 168 207 [.i ((b.epoch - 1) * 1000000+1),.i ((b.epoch - 1) * 1000000+b.given),.call (V.b (decide ((b.epoch - 1) * 1000000+1≤j.lease∧j.lease≤(b.epoch - 1) * 1000000+b.given))) [[],[],[]],BF,BF,BF,BF,.b (decide (j.lease∈List.map (fun l=>l) (List.filter (fun l=>decide ¬l = 0) (List.map Job.lease (List.take n1 b.jobs))))),BF,BF,BF,BF,BF,BF,.call (V.b (decide (1≤j.worker∧j.worker≤b.workers))) [[],[],[]],BF,BF,BF,BF,BF,BF,BF,.i (b.now+1),BF,BF,BF,.i (b.now+12),BF,.call (V.b (decide (b.now+1≤j.til∧j.til≤b.now+12))) [[],[],[]],BF,BF] ?_
         conv=>whnf
         refine J ⟨I,I,I,wO,I,I,I,wO,⟨UC,I,UU,UA,aa _ _ _⟩,I,I,⟨nO,I⟩,⟨nO,I⟩,⟨nO,I⟩,⟨nO,lS,gD⟩,nO,I,⟨(by simp_all),I⟩,⟨(by simp_all),I⟩,⟨(by simp_all),I⟩,⟨(by simp_all),I⟩,⟨(by simp_all),UC,I,UU,UA,aa _ _ _⟩,⟨(by simp_all),I⟩,(by simp_all),I,⟨nO,I⟩,⟨nO,I⟩,⟨nO,I⟩,⟨nO,I⟩,Zei,⟨nO,I⟩,⟨nO,I⟩,Zei,⟨nO,UC,I,UU,UA,aa _ _ _⟩,⟨nO,I⟩,nO,I⟩<|W.cn<|J (noT nO) fun _=>W.skip<|g 207 211 []<|J ⟨I,I,I,gD,I⟩<|gd 211 228 [[],[],[],[.x (ak y)],[],[],[],[BF],[BF],[BF],[BF],[BF],[BF,.x (ay t)],[BF],[BF],[BF,.call VT [[],[]]],[BF],[BF]] ?_
         conv=>whnf
         refine J Zb7<|J KR<|W.cn<|J (noT rfl) fun _=>W.skip<|rg [.i ((n1:Int) +1)]<|J Zdm ?_
         refine⟨n1+1,[some 2,some 3],[153],⟨rfl,⟨rfl,rfl,rfl,rfl,Zag,rfl,rfl,rfl,rfl,rfl,I⟩,⟨Zaa,Zdn⟩,⟨(congrArg some (KU hj1 hz)),I⟩⟩,?_,?_⟩
         rotate_left
         (dsimp only;omega)
         dsimp only
         exact⟨by omega,oi hc1 hj1 ⟨fun e=>absurd e hz,fun _=>⟨hA,hC,hD,by rw[jA hy0];exact hE,by rw[dP ht0];exact hF,hB⟩⟩⟩
        ·rw[decide_eq_false hF]at crd
         conv=>whnf
         refine g 0 0 []<|J UA<|W.sq<|W.cn<|J (fun _=>(W.skip (W.sq (W.blk (g 162 166 [.x (aV j)]<|J Zbu (W.sq (g 166 168 []<|J UC (W.cn<|J (noT dO) fun _=>(W.skip (W.sq ?_)))))))))) (noF (by simp_all))
         refine g 168 207 [.i ((b.epoch - 1) * 1000000+1),.i ((b.epoch - 1) * 1000000+b.given),.call (V.b (decide ((b.epoch - 1) * 1000000+1≤j.lease∧j.lease≤(b.epoch - 1) * 1000000+b.given))) [[],[],[]],BF,BF,BF,BF,.b (decide (j.lease∈List.map (fun l=>l) (List.filter (fun l=>decide ¬l = 0) (List.map Job.lease (List.take n1 b.jobs))))),BF,BF,BF,BF,BF,BF,.call (V.b (decide (1≤j.worker∧j.worker≤b.workers))) [[],[],[]],BF,BF,BF,BF,BF,BF,BF,.i (b.now+1),BF,BF,BF,.i (b.now+12),BF,.call (V.b (decide (b.now+1≤j.til∧j.til≤b.now+12))) [[],[],[]],BF,BF] ?_
         conv=>whnf
         refine J ⟨I,I,I,wO,I,I,I,wO,⟨UC,I,UU,UA,aa _ _ _⟩,I,I,⟨nO,I⟩,⟨nO,I⟩,⟨nO,I⟩,⟨nO,lS,gD⟩,nO,I,⟨(by simp_all),I⟩,⟨(by simp_all),I⟩,⟨(by simp_all),I⟩,⟨(by simp_all),I⟩,⟨(by simp_all),UC,I,UU,UA,aa _ _ _⟩,⟨(by simp_all),I⟩,(by simp_all),I,⟨nO,I⟩,⟨nO,I⟩,⟨nO,I⟩,⟨nO,I⟩,Zei,⟨nO,I⟩,⟨nO,I⟩,Zei,⟨nO,UC,I,UU,UA,aa _ _ _⟩,⟨nO,I⟩,nO,I⟩<|W.cn<|J (noT nO) fun _=>W.skip<|g 207 211 []<|J ⟨I,I,I,gD,I⟩<|gd 211 228 [[],[],[],[.x (ak y)],[],[],[],[BF],[BF],[BF],[BF],[BF],[BF,.x (ay t)],[BF],[BF],[BF,.call VF [[],[]]],[BF],[BF]] ?_
         conv=>whnf
         refine J Zb7<|J KR<|W.cn<|J (fun _=>(g 10 12 []<|J UA (RT ?_))) (noF rfl)
         exact vbf (fX hup (mQ hj1 (fun q=>hF (by have:=(q.2 hz).ready;rw[dP ht0]at this;exact this))))
       ·conv=>whnf
        refine g 0 0 []<|J UA<|W.sq<|W.cn<|J (fun _=>(W.skip (W.sq (W.blk (g 162 166 [.x (aV j)]<|J Zbu (W.sq (g 166 168 []<|J UC (W.cn<|J (noT dO) fun _=>(W.skip (W.sq ?_)))))))))) (noF (by simp_all))
        refine g 168 207 [.i ((b.epoch - 1) * 1000000+1),.i ((b.epoch - 1) * 1000000+b.given),.call (V.b (decide ((b.epoch - 1) * 1000000+1≤j.lease∧j.lease≤(b.epoch - 1) * 1000000+b.given))) [[],[],[]],BF,BF,BF,BF,.b (decide (j.lease∈List.map (fun l=>l) (List.filter (fun l=>decide ¬l = 0) (List.map Job.lease (List.take n1 b.jobs))))),BF,BF,BF,BF,BF,BF,.call (V.b (decide (1≤j.worker∧j.worker≤b.workers))) [[],[],[]],BF,BF,BF,BF,BF,BF,BF,.i (b.now+1),BF,BF,BF,.i (b.now+12),BF,.call (V.b (decide (b.now+1≤j.til∧j.til≤b.now+12))) [[],[],[]],BF,BF] ?_
        conv=>whnf
        refine J ⟨I,I,I,wO,I,I,I,wO,⟨UC,I,UU,UA,aa _ _ _⟩,I,I,⟨nO,I⟩,⟨nO,I⟩,⟨nO,I⟩,⟨nO,lS,gD⟩,nO,I,⟨(by simp_all),I⟩,⟨(by simp_all),I⟩,⟨(by simp_all),I⟩,⟨(by simp_all),I⟩,⟨(by simp_all),UC,I,UU,UA,aa _ _ _⟩,⟨(by simp_all),I⟩,(by simp_all),I,⟨nO,I⟩,⟨nO,I⟩,⟨nO,I⟩,⟨nO,I⟩,Zei,⟨nO,I⟩,⟨nO,I⟩,Zei,⟨nO,UC,I,UU,UA,aa _ _ _⟩,⟨nO,I⟩,nO,I⟩<|W.cn<|J (noT nO) fun _=>W.skip<|g 207 211 []<|J ⟨I,I,I,gD,I⟩<|gd 211 228 [[],[],[],[.x (ak y)],[],[],[],[BT],[BT],[BT],[BT],[BT],[BT],[BT],[BT],[BT],[BT],[BT]] ?_
        conv=>whnf
        refine J ⟨I,I,I,Zdg,I,I,I,ag OM,ag OM,ag OM,ag OM,ag OM,ag OM,ag OM,ag OM,ag OM,ag OM,ag OM,I⟩<|J KR<|W.cn<|J (fun _=>(g 10 12 []<|J UA (RT ?_))) (noF rfl)
        exact vbf (fX hup (mQ hj1 (fun q=>hE (by have:=(q.2 hz).res;rw[jA hy0]at this;exact this))))
      ·conv=>whnf
       refine g 0 0 []<|J UA<|W.sq<|W.cn<|J (fun _=>(W.skip (W.sq (W.blk (g 162 166 [.x (aV j)]<|J Zbu (W.sq (g 166 168 []<|J UC (W.cn<|J (noT dO) fun _=>(W.skip (W.sq ?_)))))))))) (noF (by simp_all))
       refine g 168 207 [.i ((b.epoch - 1) * 1000000+1),.i ((b.epoch - 1) * 1000000+b.given),.call (V.b (decide ((b.epoch - 1) * 1000000+1≤j.lease∧j.lease≤(b.epoch - 1) * 1000000+b.given))) [[],[],[]],BF,BF,BF,BF,.b (decide (j.lease∈List.map (fun l=>l) (List.filter (fun l=>decide ¬l = 0) (List.map Job.lease (List.take n1 b.jobs))))),BF,BF,BF,BF,BF,BF,.call (V.b (decide (1≤j.worker∧j.worker≤b.workers))) [[],[],[]],BF,BF,BF,BF,BF,BF,BF,.i (b.now+1),BF,BF,BF,.i (b.now+12),BF,.call (V.b (decide (b.now+1≤j.til∧j.til≤b.now+12))) [[],[],[]],BF,BF] ?_
       conv=>whnf
       refine J ⟨I,I,I,wO,I,I,I,wO,⟨UC,I,UU,UA,aa _ _ _⟩,I,I,⟨nO,I⟩,⟨nO,I⟩,⟨nO,I⟩,⟨nO,lS,gD⟩,nO,I,⟨(by simp_all),I⟩,⟨(by simp_all),I⟩,⟨(by simp_all),I⟩,⟨(by simp_all),I⟩,⟨(by simp_all),UC,I,UU,UA,aa _ _ _⟩,⟨(by simp_all),I⟩,(by simp_all),I,⟨nO,I⟩,⟨nO,I⟩,⟨nO,I⟩,⟨nO,I⟩,Zei,⟨nO,I⟩,⟨nO,I⟩,Zei,⟨nO,UC,I,UU,UA,aa _ _ _⟩,⟨nO,I⟩,nO,I⟩<|W.cn<|J (fun _=>(g 207 208 []<|J UA (RT ?_))) (noF (ag OM))
       exact vbf (fX hup (mQ hj1 (fun q=>hD (q.2 hz).til)))
     ·conv=>whnf
      refine g 0 0 []<|J UA<|W.sq<|W.cn<|J (fun _=>(W.skip (W.sq (W.blk (g 162 166 [.x (aV j)]<|J Zbu (W.sq (g 166 168 []<|J UC (W.cn<|J (noT dO) fun _=>(W.skip (W.sq ?_)))))))))) (noF (by simp_all))
      refine g 168 207 [.i ((b.epoch - 1) * 1000000+1),.i ((b.epoch - 1) * 1000000+b.given),.call (V.b (decide ((b.epoch - 1) * 1000000+1≤j.lease∧j.lease≤(b.epoch - 1) * 1000000+b.given))) [[],[],[]],BF,BF,BF,BF,.b (decide (j.lease∈List.map (fun l=>l) (List.filter (fun l=>decide ¬l = 0) (List.map Job.lease (List.take n1 b.jobs))))),BF,BF,BF,BF,BF,BF,.call (V.b (decide (1≤j.worker∧j.worker≤b.workers))) [[],[],[]],BF,BF,BT,BT,BT,BT,BT,BT,BT,BT,BT,BT,BT] ?_
      conv=>whnf
      refine J ⟨I,I,I,wO,I,I,I,wO,⟨UC,I,UU,UA,aa _ _ _⟩,I,I,⟨nO,I⟩,⟨nO,I⟩,⟨nO,I⟩,⟨nO,lS,gD⟩,nO,I,⟨(by simp_all),I⟩,⟨(by simp_all),I⟩,⟨(by simp_all),I⟩,⟨(by simp_all),I⟩,⟨(by simp_all),UC,I,UU,UA,aa _ _ _⟩,⟨(by simp_all),I⟩,(by simp_all),I,ag OM,ag OM,ag OM,ag OM,ag OM,ag OM,ag OM,ag OM,ag OM,ag OM,ag OM,I⟩<|W.cn<|J (fun _=>(g 207 208 []<|J UA (RT ?_))) (noF rfl)
      exact vbf (fX hup (mQ hj1 (fun q=>hC (q.2 hz).worker)))
   ·conv=>whnf
    refine g 0 0 []<|J UA<|W.sq<|W.cn<|J (fun _=>(W.skip (W.sq (W.blk (g 162 166 [.x (aV j)]<|J Zbu (W.sq (g 166 168 []<|J UC (W.cn<|J (noT dO) fun _=>(W.skip (W.sq ?_)))))))))) (noF (by simp_all))
    refine g 168 207 [.i ((b.epoch - 1) * 1000000+1),.i ((b.epoch - 1) * 1000000+b.given),.call (V.b (decide ((b.epoch - 1) * 1000000+1≤j.lease∧j.lease≤(b.epoch - 1) * 1000000+b.given))) [[],[],[]],BT,BT,BT,BT,BT,BT,BT,BT,BT,BT,BT,BT,BT,BT,BT,BT,BT,BT,BT,BT,BT,BT,BT]<|J ⟨I,I,I,wO,I,I,I,wO,⟨UC,I,UU,UA,aa _ _ _⟩,I,I,ag OM,ag OM,ag OM,ag OM,ag OM,I,rfl,rfl,rfl,rfl,rfl,rfl,rfl,I,rfl,rfl,rfl,rfl,rfl,rfl,rfl,rfl,rfl,rfl,rfl,I⟩<|W.cn<|J (fun _=>(g 207 208 []<|J UA (RT ?_))) (noF rfl)
    exact vbf (fX hup (mQ hj1 (fun q=>hA (q.2 hz).lease)))
 have hjobs:gY b p.tasks b.jobs.length:=by rw[show b.jobs.length = n1 by omega];exact hc1
 conv=>whnf
 refine g 0 0 []<|J UA<|W.sq<|W.cn<|J (noT (by simp_all)) fun _=>W.exit<|W.sq<|g 24 231 []<|J UD<|W.blk<|W.lp (fun s (n:Nat)=>⟨[(2,s.s 2),(3,s.s 3),(22,s.s 22),(231,s.s 231),(232,s.s 232),(233,.i n)],[(2,[s.c 2 0,s.c 2 1,s.c 2 2,s.c 2 3,s.c 2 4,s.c 2 5,s.c 2 6,s.c 2 7,s.c 2 8,s.c 2 9,s.c 2 10,s.c 2 11]),(3,[s.c 3 0])],[]⟩) (fun(n:Nat)=>n≤b.seats.length∧∀ s∈b.seats.take n,0≤s.epoch∧s.epoch≤300) (fun(n:Nat)=>b.seats.length - n) (0) [some 2,some 3] [] Zeq (by simp) ?_
 rintro n2 ⟨hn2,hc2⟩
 by_cases hs2:n2 < b.seats.length
 ·obtain⟨s,hs1⟩:=af hs2
  by_cases hA:0≤s.epoch∧s.epoch≤300
  ·conv=>whnf
   refine g 0 0 []<|J UA<|W.sq<|W.cn<|J (fun h14=>?_) fun h14=>?_
   replace h14:=dt h14
   simp only[LM]at h14
   refine W.skip<|W.sq<|W.blk<|g 234 237 [.x (aF s)]<|J ⟨Zdg,I,I,UB,I⟩<|g 237 240 [.call (V.b (decide (0≤s.epoch∧s.epoch≤300))) [[],[],[]]]<|J ⟨I,I,⟨UC,I,UU,UA,aa _ _ _⟩,I,I⟩<|W.cn<|J (noT nO) fun _=>W.skip<|rg [.i ((n2:Int) +1)]<|J Zdm ?_
   rotate_left
   replace h14:=df h14
   simp only[LM]at h14
   omega
   refine⟨n2+1,[some 2,some 3],[],Zeq,?_,?_⟩
   rotate_left
   (dsimp only;omega)
   dsimp only
   exact⟨by omega,dN hc2 hs1 hA⟩
  ·conv=>whnf
   refine g 0 0 []<|J UA<|W.sq<|W.cn<|J (fun h14=>?_) fun h14=>?_
   replace h14:=dt h14
   simp only[LM]at h14
   refine W.skip<|W.sq<|W.blk<|g 234 237 [.x (aF s)]<|J ⟨Zdg,I,I,UB,I⟩<|g 237 240 [.call (V.b (decide (0≤s.epoch∧s.epoch≤300))) [[],[],[]]]<|J ⟨I,I,⟨UC,I,UU,UA,aa _ _ _⟩,I,I⟩<|W.cn<|J (fun _=>(g 13 14 []<|J UA (RT ?_))) (noF (ag OM))
   rotate_left
   replace h14:=df h14
   simp only[LM]at h14
   omega
   exact vbf (fX hup (IM hs1 hA))
 have hseats:∀ s∈b.seats,0≤s.epoch∧s.epoch≤300:=by rw[aE OM]at hc2;exact hc2
 conv=>whnf
 refine g 0 0 []<|J UA<|W.sq<|W.cn<|J (fun h14=>?_) fun h14=>?_
 replace h14:=dt h14
 simp only[LM]at h14
 omega
 replace h14:=df h14
 simp only[LM]at h14
 refine W.exit<|W.sq<|g 231 243 []<|J UD<|W.blk<|W.lp (fun s (n:Nat)=>⟨[(2,s.s 2),(3,s.s 3),(22,s.s 22),(243,s.s 243),(244,s.s 244),(245,.i n)],[(2,[s.c 2 0,s.c 2 1,s.c 2 2,s.c 2 3,s.c 2 4,s.c 2 5,s.c 2 6,s.c 2 7,s.c 2 8,s.c 2 9,s.c 2 10,s.c 2 11]),(3,[s.c 3 0])],[]⟩) (fun(n:Nat)=>n≤b.owed.length∧∀ o∈b.owed.take n,OwedOk b p.tasks o) (fun(n:Nat)=>b.owed.length - n) (0) [some 2,some 3] [] Zeq (by simp) ?_
 rintro n3 ⟨hn3,hc3⟩
 by_cases ho2:n3 < b.owed.length
 ·obtain⟨o,ho1⟩:=af ho2
  by_cases hA:1≤o.worker∧o.worker≤b.workers
  ·by_cases hB:1≤o.lease∧o.lease≤300000000
   ·by_cases hC:0≤o.task∧o.task≤(p.tasks.length:Int) - 1
    ·obtain⟨y,hy0⟩:=af (xs:=b.results) (n:=o.task.toNat) OM
     by_cases hD:y = emp
     ·conv=>whnf
      refine g 0 0 []<|J UA<|W.sq<|W.cn<|J (fun _=>(W.skip (W.sq (W.blk (g 246 249 [.x (aR o)]<|J Zci (g 249 279 [.call (V.b (decide (1≤o.worker∧o.worker≤b.workers))) [[],[],[]],BF,BF,BF,.call (V.b (decide (1≤o.lease∧o.lease≤300000000))) [[],[],[]],BF,BF,BF,BF,BF,BF,BF,BF,.i ((↑(List.length (List.map ay p.tasks)):Int) - 1),BF,.call (V.b (decide (0≤o.task∧o.task≤(↑(List.length (List.map ay p.tasks)):Int) - 1))) [[],[],[]],BF,BF,BF,BF,BF,BF,BF,.x (ak y),BF,BF,BF]<|J ⟨I,I,I,I,⟨UC,I,UU,UA,aa _ _ _⟩,I,I,⟨nO,I⟩,⟨nO,I⟩,⟨nO,UC,I,UU,UA,aa _ _ _⟩,⟨nO,I⟩,nO,I,⟨nO,I⟩,⟨nO,I⟩,⟨nO,I⟩,⟨nO,I⟩,⟨nO,I⟩,⟨nO,w64 LN LN⟩,⟨nO,UC,I,UU,UA,aa _ _ _⟩,⟨nO,I⟩,nO,I,⟨SI,I⟩,⟨SI,I⟩,⟨SI,I⟩,⟨SI,I⟩,⟨SI,OM,xA⟩,⟨SI,I⟩,⟨SI,I⟩,SI,I⟩ (W.cn<|J (fun _=>(g 15 16 []<|J UA (RT ?_))) (noF tO)))))))) (noF SI)
      exact vbf (fX hup (kN ho1 (fun q=>q.res (by rw[jN hy0];exact hD))))
     ·conv=>whnf
      refine g 0 0 []<|J UA<|W.sq<|W.cn<|J (fun _=>(W.skip (W.sq (W.blk (g 246 249 [.x (aR o)]<|J Zci (g 249 279 [.call (V.b (decide (1≤o.worker∧o.worker≤b.workers))) [[],[],[]],BF,BF,BF,.call (V.b (decide (1≤o.lease∧o.lease≤300000000))) [[],[],[]],BF,BF,BF,BF,BF,BF,BF,BF,.i ((↑(List.length (List.map ay p.tasks)):Int) - 1),BF,.call (V.b (decide (0≤o.task∧o.task≤(↑(List.length (List.map ay p.tasks)):Int) - 1))) [[],[],[]],BF,BF,BF,BF,BF,BF,BF,.x (ak y),BF,BF,BF]<|J ⟨I,I,I,I,⟨UC,I,UU,UA,aa _ _ _⟩,I,I,⟨nO,I⟩,⟨nO,I⟩,⟨nO,UC,I,UU,UA,aa _ _ _⟩,⟨nO,I⟩,nO,I,⟨nO,I⟩,⟨nO,I⟩,⟨nO,I⟩,⟨nO,I⟩,⟨nO,I⟩,⟨nO,w64 LN LN⟩,⟨nO,UC,I,UU,UA,aa _ _ _⟩,⟨nO,I⟩,nO,I,⟨SI,I⟩,⟨SI,I⟩,⟨SI,I⟩,⟨SI,I⟩,⟨SI,OM,xA⟩,⟨SI,I⟩,⟨SI,I⟩,SI,I⟩ (W.cn<|J (noT dO) fun _=>(W.skip (rg [.i ((n3:Int) +1)]<|J Zdm ?_))))))))) (noF SI)
      refine⟨n3+1,[some 2,some 3],[],Zeq,?_,?_⟩
      rotate_left
      (dsimp only;omega)
      dsimp only
      exact⟨by omega,dN hc3 ho1 ⟨hA,hB,hC,by rw[jN hy0];exact hD⟩⟩
    ·conv=>whnf
     refine g 0 0 []<|J UA<|W.sq<|W.cn<|J (fun _=>(W.skip (W.sq (W.blk (g 246 249 [.x (aR o)]<|J Zci (g 249 279 [.call (V.b (decide (1≤o.worker∧o.worker≤b.workers))) [[],[],[]],BF,BF,BF,.call (V.b (decide (1≤o.lease∧o.lease≤300000000))) [[],[],[]],BF,BF,BF,BF,BF,BF,BF,BF,.i ((↑(List.length (List.map ay p.tasks)):Int) - 1),BF,.call (V.b (decide (0≤o.task∧o.task≤(↑(List.length (List.map ay p.tasks)):Int) - 1))) [[],[],[]],BF,BF,BT,BT,BT,BT,BT,BT,BT,BT]<|J ⟨I,I,I,I,⟨UC,I,UU,UA,aa _ _ _⟩,I,I,⟨nO,I⟩,⟨nO,I⟩,⟨nO,UC,I,UU,UA,aa _ _ _⟩,⟨nO,I⟩,nO,I,⟨nO,I⟩,⟨nO,I⟩,⟨nO,I⟩,⟨nO,I⟩,⟨nO,I⟩,⟨nO,w64 LN LN⟩,⟨nO,UC,I,UU,UA,aa _ _ _⟩,⟨nO,I⟩,nO,I,SI,SI,SI,SI,SI,SI,SI,SI,I⟩ (W.cn<|J (fun _=>(g 15 16 []<|J UA (RT ?_))) (noF rfl)))))))) (noF SI)
     exact vbf (fX hup (kN ho1 (fun q=>hC q.task)))
   ·conv=>whnf
    refine g 0 0 []<|J UA<|W.sq<|W.cn<|J (fun _=>(W.skip (W.sq (W.blk (g 246 249 [.x (aR o)]<|J Zci (g 249 279 [.call (V.b (decide (1≤o.worker∧o.worker≤b.workers))) [[],[],[]],BF,BF,BF,.call (V.b (decide (1≤o.lease∧o.lease≤300000000))) [[],[],[]],BF,BF,BT,BT,BT,BT,BT,BT,BT,BT,BT,BT,BT,BT,BT,BT,BT,BT,BT]<|J ⟨I,I,I,I,⟨UC,I,UU,UA,aa _ _ _⟩,I,I,⟨nO,I⟩,⟨nO,I⟩,⟨nO,UC,I,UU,UA,aa _ _ _⟩,⟨nO,I⟩,nO,I,ag OM,ag OM,ag OM,ag OM,ag OM,ag OM,ag OM,ag OM,ag OM,I,rfl,rfl,rfl,rfl,rfl,rfl,rfl,rfl,I⟩ (W.cn<|J (fun _=>(g 15 16 []<|J UA (RT ?_))) (noF rfl)))))))) (noF SI)
    exact vbf (fX hup (kN ho1 (fun q=>hB q.lease)))
  ·conv=>whnf
   refine g 0 0 []<|J UA<|W.sq<|W.cn<|J (fun _=>(W.skip (W.sq (W.blk (g 246 249 [.x (aR o)]<|J Zci (g 249 279 [.call (V.b (decide (1≤o.worker∧o.worker≤b.workers))) [[],[],[]],BT,BT,BT,BT,BT,BT,BT,BT,BT,BT,BT,BT,BT,BT,BT,BT,BT,BT,BT,BT,BT,BT]<|J ⟨I,I,I,I,⟨UC,I,UU,UA,aa _ _ _⟩,I,I,ag OM,ag OM,ag OM,ag OM,ag OM,I,rfl,rfl,rfl,rfl,rfl,rfl,rfl,rfl,rfl,I,rfl,rfl,rfl,rfl,rfl,rfl,rfl,rfl,I⟩ (W.cn<|J (fun _=>(g 15 16 []<|J UA (RT ?_))) (noF rfl)))))))) (noF SI)
   exact vbf (fX hup (kN ho1 (fun q=>hA q.worker)))
 have howed:∀ o∈b.owed,OwedOk b p.tasks o:=by rw[aE OM]at hc3;exact hc3
 conv=>whnf
 refine g 0 0 []<|J UA<|W.sq<|W.cn<|J (noT SI) fun _=>W.exit<|g 22 247 []<|J UA<|RT ?_
 exact vbt ⟨hc0,f6,f7,hk,fun _=>⟨f1,f2,f3,f4,f5,g1,g2,g3,g4,hjobs,hseats,howed⟩,fun e=>by rw[hup]at e;cases e⟩
end Go.K
end
section
open Go Go.Tm Go.Proofs
namespace Go.K
theorem NV{b:Boss}{k:Nat}{j2:Job}{l:Int}(hc:l ∉ (b.jobs.take k).map Job.lease)(h:b.jobs[k]? = some j2)(hn:¬j2.lease = l):l ∉ (b.jobs.take (k+1)).map Job.lease:=fun e=>by
 rw[List.take_add_one,h,List.map_append]at e
 rcases List.mem_append.1 e with e|e
 ·exact hc e
 ·simp at e;exact hn e.symm
theorem Us{b:Boss}{k n:Nat}{j2:Job}{l:Int}(hk:k < n)(h:b.jobs[k]? = some j2)(hn:j2.lease = l):l∈(b.jobs.take n).map Job.lease :=
 List.mem_map.2 ⟨j2,List.mem_of_getElem? (i:=k) (by rw[List.getElem?_take,if_pos hk];exact h),hn⟩
theorem jT{b:Boss}{ts:List Task}{n:Nat}{j:Job}(hj:b.jobs[n]? = some j)(h:¬GU b ts n j):¬gY b ts b.jobs.length:=fun q=>h (q n j (List.getElem?_eq_some_iff.1 hj).1 hj)
noncomputable instance (b:Boss) (ts:List Task) (n:Nat):Decidable (gY b ts n):=Classical.propDecidable _
theorem wY(b:Boss)(p:Plan)(hc0:aq p.tasks = 0)(f1:1≤b.epoch)(f2:b.epoch≤300)(f3:b.results.length = p.tasks.length)(f4:b.jobs.length = p.tasks.length)(f7:0≤b.now∧b.now≤1000000)(f8:0≤b.given∧b.given≤1000000):F vV [.val (fJ b),.val (cO p)] (.b (decide (gY b p.tasks b.jobs.length))) [[],[]]:=by
 have hpl:=(bT hc0).1
 refine wy ?_
 conv=>whnf
 refine g 0 2 []<|J Zcp<|g 11 13 [.i (b.epoch - 1),.i ((b.epoch - 1) * 1000000)]<|J ⟨I,I,wO,wO,I,I⟩<|W.sq<|g 9 10 []<|J UA<|W.blk ?_
 refine W.lp (fun s (n:Nat)=>⟨[(2,s.s 2),(3,s.s 3),(5,s.s 5),(6,.i n),(10,s.s 10)],[(2,[s.c 2 0,s.c 2 1,s.c 2 2,s.c 2 3,s.c 2 4,s.c 2 5,s.c 2 6,s.c 2 7,s.c 2 8,s.c 2 9,s.c 2 10,s.c 2 11]),(3,[s.c 3 0])],[]⟩) (fun(n:Nat)=>n≤b.jobs.length∧gY b p.tasks n) (fun(n:Nat)=>b.jobs.length - n) (0) [some 2,some 3] [] ⟨rfl,⟨rfl,rfl,rfl,rfl,rfl,I⟩,⟨⟨rfl,⟨rfl,⟨rfl,⟨rfl,⟨rfl,⟨rfl,⟨rfl,⟨rfl,⟨rfl,⟨rfl,⟨rfl,⟨rfl,⟨rfl,I⟩⟩⟩⟩⟩⟩⟩⟩⟩⟩⟩⟩⟩,⟨⟨rfl,⟨rfl,I⟩⟩,I⟩⟩,I⟩ ?_ ?_
 ·exact⟨Nat.zero_le _,fun m j hm=>by omega⟩
 rintro n1 ⟨hn1,hc1⟩
 by_cases hj2:n1 < b.jobs.length
 ·obtain⟨j,hj1⟩:=af hj2
  obtain⟨y,hy0⟩:=af (xs:=b.results) (n:=n1) OM
  obtain⟨t,ht0⟩:=af (xs:=p.tasks) (n:=n1) OM
  obtain⟨_,_,a3,a4⟩:=bZ hc0 ht0
  have crd:=g9 p b.results (n1:Int) (t:=t) OM (by rw[Int.toNat_natCast];exact ht0) (fun d hd=>by have:=a4 d hd;omega) OM
  by_cases hz:j.lease = 0
  ·by_cases hz2:j.worker = 0∧j.til = 0
   ·have hjo:GU b p.tasks n1 j:=⟨fun _=>hz2,fun e=>absurd hz e⟩
    obtain⟨hz3,hz4⟩:=hz2
    conv=>whnf
    refine W.sq<|g 13 17 []<|J UE<|W.cn<|J (fun _=>(W.skip (W.sq (W.blk (g 17 25 [.x (aV j)]<|J Zbg (W.sq (g 25 27 []<|J UC (W.cn<|J (fun _=>(W.sq (g 31 35 [BF,BF,BF,BF]<|J ⟨I,I,I,I,⟨nO,I⟩,⟨nO,I⟩,⟨nO,I⟩,nO,I⟩ ?_))) (noF tO))))))))) (noF (by simp_all))
    refine W.cn<|J (noT nO) fun _=>W.skip<|W.exit<|rg [.i ((n1:Int) +1)]<|J Zdd ?_
    refine⟨n1+1,[some 2,some 3],[],⟨rfl,Zbd,⟨Zaa,Zdn⟩,I⟩,?_,?_⟩
    rotate_left
    (dsimp only;omega)
    dsimp only
    exact⟨by omega,oi hc1 hj1 hjo⟩
   ·conv=>whnf
    refine W.sq<|g 13 17 []<|J UE<|W.cn<|J (fun _=>(W.skip (W.sq (W.blk (g 17 25 [.x (aV j)]<|J Zbg (W.sq (g 25 27 []<|J UC (W.cn<|J (fun _=>(W.sq ?_)) (noF tO))))))))) (noF (by simp_all))
    by_cases h1:Job.worker j = (0:Int)
    refine g 31 35 [BF,BF,BF,BF]<|J ⟨I,I,I,I,⟨nO,I⟩,⟨nO,I⟩,⟨nO,I⟩,nO,I⟩<|W.cn<|J (fun _=>(g 27 30 []<|J UA (RT ?_))) (noF (ag OM))
    rotate_left
    refine g 31 35 [BT,BT,BT,BT]<|J ⟨I,I,I,I,ag OM,ag OM,ag OM,ag OM,I⟩<|W.cn<|J (fun _=>(g 27 30 []<|J UA (RT ?_))) (noF rfl)
    rotate_left
    all_goals exact vbf (jT hj1 (fun q=>by have:=q.1 hz;omega))
  ·by_cases hA:(b.epoch - 1) * 1000000+1≤j.lease∧j.lease≤(b.epoch - 1) * 1000000+b.given
   ·by_cases hC:1≤j.worker∧j.worker≤b.workers
    ·by_cases hD:b.now+1≤j.til∧j.til≤b.now+12
     ·by_cases hE:y = emp
      ·by_cases hF:cU b.results t.deps
       ·rw[decide_eq_true hF]at crd
        conv=>whnf
        refine W.sq<|g 13 17 []<|J UE<|W.cn<|J (fun _=>(W.skip (W.sq (W.blk (g 17 25 [.x (aV j)]<|J Zbg (W.sq (g 25 27 []<|J UC (W.cn<|J (noT dO) fun _=>(W.skip (W.sq ?_)))))))))) (noF (by simp_all))
        refine g 27 81 [.i ((b.epoch - 1) * 1000000+1),.i ((b.epoch - 1) * 1000000+b.given),.call (V.b (decide ((b.epoch - 1) * 1000000+1≤j.lease∧j.lease≤(b.epoch - 1) * 1000000+b.given))) [[],[],[]],BF,BF,BF,BF,BF,.call (V.b (decide (1≤j.worker∧j.worker≤b.workers))) [[],[],[]],BF,BF,BF,BF,BF,BF,BF,.i (b.now+1),BF,BF,BF,.i (b.now+12),BF,.call (V.b (decide (b.now+1≤j.til∧j.til≤b.now+12))) [[],[],[]],BF,BF,BF,BF,BF,BF,.x (ak y),BF,BF,BF,BF,BF,BF,BF,BF,.call VT [[],[],[]],BF,BF] ?_
        conv=>whnf
        refine J ⟨I,I,I,wO,I,I,I,wO,⟨UC,I,UU,UA,ah _ _ _⟩,I,I,⟨nO,I⟩,⟨nO,I⟩,⟨nO,I⟩,⟨nO,I⟩,⟨nO,UC,I,UU,UA,ah _ _ _⟩,⟨nO,I⟩,nO,I,⟨nO,I⟩,⟨nO,I⟩,⟨nO,I⟩,⟨nO,I⟩,Zei,⟨nO,I⟩,⟨nO,I⟩,Zei,⟨nO,UC,I,UU,UA,ah _ _ _⟩,⟨nO,I⟩,nO,I,⟨nO,I⟩,⟨nO,I⟩,⟨nO,I⟩,⟨nO,OM,xA⟩,⟨nO,I⟩,⟨nO,I⟩,nO,I,⟨nO,I⟩,⟨nO,I⟩,⟨nO,I⟩,⟨nO,I⟩,⟨nO,UC,I,UU,UA,AS⟩,⟨nO,I⟩,nO,I⟩<|W.cn<|J (noT rfl) fun _=>W.skip<|g 81 82 []<|J UA<|W.blk<|W.lp (fun s (k:Nat)=>⟨[(2,s.s 2),(3,s.s 3),(5,s.s 5),(6,s.s 6),(7,s.s 7),(8,.i k),(10,s.s 10)],[(2,[s.c 2 0,s.c 2 1,s.c 2 2,s.c 2 3,s.c 2 4,s.c 2 5,s.c 2 6,s.c 2 7,s.c 2 8,s.c 2 9,s.c 2 10,s.c 2 11]),(3,[s.c 3 0]),(7,[s.c 7 0,s.c 7 1,s.c 7 2])],[]⟩) (fun(k:Nat)=>k≤n1∧j.lease ∉ (b.jobs.take k).map Job.lease) (fun(k:Nat)=>n1 - k) (0) [some 2,some 3,some 7] [] ⟨rfl,Zbi,⟨Zaa,⟨Zac,Zes⟩⟩,I⟩ (by simp) ?_
        rintro k ⟨hk,hB⟩
        by_cases hk2:k < n1
        ·obtain⟨j2,hj3⟩:=af (xs:=b.jobs) (n:=k) OM
         by_cases hq:j2.lease = j.lease
         ·conv=>whnf
          refine W.sq<|g 82 84 []<|J UC<|W.cn<|J (fun _=>(W.skip (W.sq (W.blk (gd 84 95 [[],[],[],[.x (aV j2)],[],[],[],[],[]] ?_))))) (noF tO)
          conv=>whnf
          refine⟨⟨I,I,I,Zdg,I,I,I,I,I,I⟩,by kernel_rfl,?_⟩
          refine W.cn<|J (fun _=>(g 95 96 []<|J UA (RT ?_))) (noF tO)
          exact vbf (jT hj1 (fun q=>(q.2 hz).once (Us hk2 hj3 hq)))
         ·conv=>whnf
          refine W.sq<|g 82 84 []<|J UC<|W.cn<|J (fun _=>(W.skip (W.sq (W.blk (gd 84 95 [[],[],[],[.x (aV j2)],[],[],[],[],[]] ?_))))) (noF tO)
          conv=>whnf
          refine⟨⟨I,I,I,Zdg,I,I,I,I,I,I⟩,by kernel_rfl,?_⟩
          refine W.cn<|J (noT dO) fun _=>W.skip<|rg [.i ((k:Int) +1)]<|J Zdd ?_
          refine⟨k+1,[some 2,some 3,some 7],[],⟨rfl,Zbi,⟨Zaa,⟨Zac,Zes⟩⟩,I⟩,?_,?_⟩
          rotate_left
          (dsimp only;omega)
          dsimp only
          exact⟨by omega,NV hB hj3 hq⟩
        ·rw[show k = n1 by omega]at hB
         conv=>whnf
         refine W.sq<|g 82 84 []<|J UC<|W.cn<|J (noT dO) fun _=>W.exit<|rg [.i ((n1:Int) +1)]<|J Zdd ?_
         refine⟨n1+1,[some 2,some 3],[],⟨rfl,Zbd,⟨Zaa,Zdn⟩,I⟩,?_,?_⟩
         rotate_left
         (dsimp only;omega)
         dsimp only
         exact⟨by omega,oi hc1 hj1 ⟨fun e=>absurd e hz,fun _=>⟨hA,hC,hD,by rw[jA hy0];exact hE,by rw[dP ht0];exact hF,hB⟩⟩⟩
       ·rw[decide_eq_false hF]at crd
        conv=>whnf
        refine W.sq<|g 13 17 []<|J UE<|W.cn<|J (fun _=>(W.skip (W.sq (W.blk (g 17 25 [.x (aV j)]<|J Zbg (W.sq (g 25 27 []<|J UC (W.cn<|J (noT dO) fun _=>(W.skip (W.sq ?_)))))))))) (noF (by simp_all))
        refine g 27 81 [.i ((b.epoch - 1) * 1000000+1),.i ((b.epoch - 1) * 1000000+b.given),.call (V.b (decide ((b.epoch - 1) * 1000000+1≤j.lease∧j.lease≤(b.epoch - 1) * 1000000+b.given))) [[],[],[]],BF,BF,BF,BF,BF,.call (V.b (decide (1≤j.worker∧j.worker≤b.workers))) [[],[],[]],BF,BF,BF,BF,BF,BF,BF,.i (b.now+1),BF,BF,BF,.i (b.now+12),BF,.call (V.b (decide (b.now+1≤j.til∧j.til≤b.now+12))) [[],[],[]],BF,BF,BF,BF,BF,BF,.x (ak y),BF,BF,BF,BF,BF,BF,BF,BF,.call VF [[],[],[]],BF,BF] ?_
        conv=>whnf
        refine J ⟨I,I,I,wO,I,I,I,wO,⟨UC,I,UU,UA,ah _ _ _⟩,I,I,⟨nO,I⟩,⟨nO,I⟩,⟨nO,I⟩,⟨nO,I⟩,⟨nO,UC,I,UU,UA,ah _ _ _⟩,⟨nO,I⟩,nO,I,⟨nO,I⟩,⟨nO,I⟩,⟨nO,I⟩,⟨nO,I⟩,Zei,⟨nO,I⟩,⟨nO,I⟩,Zei,⟨nO,UC,I,UU,UA,ah _ _ _⟩,⟨nO,I⟩,nO,I,⟨nO,I⟩,⟨nO,I⟩,⟨nO,I⟩,⟨nO,OM,xA⟩,⟨nO,I⟩,⟨nO,I⟩,nO,I,⟨nO,I⟩,⟨nO,I⟩,⟨nO,I⟩,⟨nO,I⟩,⟨nO,UC,I,UU,UA,AS⟩,⟨nO,I⟩,nO,I⟩<|W.cn<|J (fun _=>(g 81 82 []<|J UA (RT ?_))) (noF rfl)
        exact vbf (jT hj1 (fun q=>hF (by have:=(q.2 hz).ready;rw[dP ht0]at this;exact this)))
      ·conv=>whnf
       refine W.sq<|g 13 17 []<|J UE<|W.cn<|J (fun _=>(W.skip (W.sq (W.blk (g 17 25 [.x (aV j)]<|J Zbg (W.sq (g 25 27 []<|J UC (W.cn<|J (noT dO) fun _=>(W.skip (W.sq ?_)))))))))) (noF (by simp_all))
       refine g 27 81 [.i ((b.epoch - 1) * 1000000+1),.i ((b.epoch - 1) * 1000000+b.given),.call (V.b (decide ((b.epoch - 1) * 1000000+1≤j.lease∧j.lease≤(b.epoch - 1) * 1000000+b.given))) [[],[],[]],BF,BF,BF,BF,BF,.call (V.b (decide (1≤j.worker∧j.worker≤b.workers))) [[],[],[]],BF,BF,BF,BF,BF,BF,BF,.i (b.now+1),BF,BF,BF,.i (b.now+12),BF,.call (V.b (decide (b.now+1≤j.til∧j.til≤b.now+12))) [[],[],[]],BF,BF,BF,BF,BF,BF,.x (ak y),BF,BF,BF,BT,BT,BT,BT,BT,BT,BT] ?_
       conv=>whnf
       refine J ⟨I,I,I,wO,I,I,I,wO,⟨UC,I,UU,UA,ah _ _ _⟩,I,I,⟨nO,I⟩,⟨nO,I⟩,⟨nO,I⟩,⟨nO,I⟩,⟨nO,UC,I,UU,UA,ah _ _ _⟩,⟨nO,I⟩,nO,I,⟨nO,I⟩,⟨nO,I⟩,⟨nO,I⟩,⟨nO,I⟩,Zei,⟨nO,I⟩,⟨nO,I⟩,Zei,⟨nO,UC,I,UU,UA,ah _ _ _⟩,⟨nO,I⟩,nO,I,⟨nO,I⟩,⟨nO,I⟩,⟨nO,I⟩,⟨nO,OM,xA⟩,⟨nO,I⟩,⟨nO,I⟩,nO,I,ag OM,ag OM,ag OM,ag OM,ag OM,ag OM,ag OM,I⟩<|W.cn<|J (fun _=>(g 81 82 []<|J UA (RT ?_))) (noF rfl)
       exact vbf (jT hj1 (fun q=>hE (by have:=(q.2 hz).res;rw[jA hy0]at this;exact this)))
     ·conv=>whnf
      refine W.sq<|g 13 17 []<|J UE<|W.cn<|J (fun _=>(W.skip (W.sq (W.blk (g 17 25 [.x (aV j)]<|J Zbg (W.sq (g 25 27 []<|J UC (W.cn<|J (noT dO) fun _=>(W.skip (W.sq ?_)))))))))) (noF (by simp_all))
      refine g 27 81 [.i ((b.epoch - 1) * 1000000+1),.i ((b.epoch - 1) * 1000000+b.given),.call (V.b (decide ((b.epoch - 1) * 1000000+1≤j.lease∧j.lease≤(b.epoch - 1) * 1000000+b.given))) [[],[],[]],BF,BF,BF,BF,BF,.call (V.b (decide (1≤j.worker∧j.worker≤b.workers))) [[],[],[]],BF,BF,BF,BF,BF,BF,BF,.i (b.now+1),BF,BF,BF,.i (b.now+12),BF,.call (V.b (decide (b.now+1≤j.til∧j.til≤b.now+12))) [[],[],[]],BF,BF,BT,BT,BT,BT,BT,BT,BT,BT,BT,BT,BT,BT,BT,BT] ?_
      conv=>whnf
      refine J ⟨I,I,I,wO,I,I,I,wO,⟨UC,I,UU,UA,ah _ _ _⟩,I,I,⟨nO,I⟩,⟨nO,I⟩,⟨nO,I⟩,⟨nO,I⟩,⟨nO,UC,I,UU,UA,ah _ _ _⟩,⟨nO,I⟩,nO,I,⟨nO,I⟩,⟨nO,I⟩,⟨nO,I⟩,⟨nO,I⟩,Zei,⟨nO,I⟩,⟨nO,I⟩,Zei,⟨nO,UC,I,UU,UA,ah _ _ _⟩,⟨nO,I⟩,nO,I,ag OM,ag OM,ag OM,ag OM,ag OM,ag OM,ag OM,I,rfl,rfl,rfl,rfl,rfl,rfl,rfl,I⟩<|W.cn<|J (fun _=>(g 81 82 []<|J UA (RT ?_))) (noF rfl)
      exact vbf (jT hj1 (fun q=>hD (q.2 hz).til))
    ·conv=>whnf
     refine W.sq<|g 13 17 []<|J UE<|W.cn<|J (fun _=>(W.skip (W.sq (W.blk (g 17 25 [.x (aV j)]<|J Zbg (W.sq (g 25 27 []<|J UC (W.cn<|J (noT dO) fun _=>(W.skip (W.sq ?_)))))))))) (noF (by simp_all))
     refine g 27 81 [.i ((b.epoch - 1) * 1000000+1),.i ((b.epoch - 1) * 1000000+b.given),.call (V.b (decide ((b.epoch - 1) * 1000000+1≤j.lease∧j.lease≤(b.epoch - 1) * 1000000+b.given))) [[],[],[]],BF,BF,BF,BF,BF,.call (V.b (decide (1≤j.worker∧j.worker≤b.workers))) [[],[],[]],BF,BF,BT,BT,BT,BT,BT,BT,BT,BT,BT,BT,BT,BT,BT,BT,BT,BT,BT,BT,BT,BT,BT,BT,BT,BT,BT] ?_
     conv=>whnf
     refine J ⟨I,I,I,wO,I,I,I,wO,⟨UC,I,UU,UA,ah _ _ _⟩,I,I,⟨nO,I⟩,⟨nO,I⟩,⟨nO,I⟩,⟨nO,I⟩,⟨nO,UC,I,UU,UA,ah _ _ _⟩,⟨nO,I⟩,nO,I,ag OM,ag OM,ag OM,ag OM,ag OM,ag OM,ag OM,ag OM,ag OM,ag OM,ag OM,I,rfl,rfl,rfl,rfl,rfl,rfl,rfl,I,rfl,rfl,rfl,rfl,rfl,rfl,rfl,I⟩<|W.cn<|J (fun _=>(g 81 82 []<|J UA (RT ?_))) (noF rfl)
     exact vbf (jT hj1 (fun q=>hC (q.2 hz).worker))
   ·conv=>whnf
    refine W.sq<|g 13 17 []<|J UE<|W.cn<|J (fun _=>(W.skip (W.sq (W.blk (g 17 25 [.x (aV j)]<|J Zbg (W.sq (g 25 27 []<|J UC (W.cn<|J (noT dO) fun _=>(W.skip (W.sq ?_)))))))))) (noF (by simp_all))
    refine g 27 81 [.i ((b.epoch - 1) * 1000000+1),.i ((b.epoch - 1) * 1000000+b.given),.call (V.b (decide ((b.epoch - 1) * 1000000+1≤j.lease∧j.lease≤(b.epoch - 1) * 1000000+b.given))) [[],[],[]],BT,BT,BT,BT,BT,BT,BT,BT,BT,BT,BT,BT,BT,BT,BT,BT,BT,BT,BT,BT,BT,BT,BT,BT,BT,BT,BT,BT,BT,BT,BT,BT] ?_
    conv=>whnf
    refine J ⟨I,I,I,wO,I,I,I,wO,⟨UC,I,UU,UA,ah _ _ _⟩,I,I,ag OM,ag OM,ag OM,ag OM,ag OM,ag OM,ag OM,I,rfl,rfl,rfl,rfl,rfl,rfl,rfl,rfl,rfl,rfl,rfl,I,rfl,rfl,rfl,rfl,rfl,rfl,rfl,I,rfl,rfl,rfl,rfl,rfl,rfl,rfl,I⟩<|W.cn<|J (fun _=>(g 81 82 []<|J UA (RT ?_))) (noF rfl)
    exact vbf (jT hj1 (fun q=>hA (q.2 hz).lease))
 have hjobs:gY b p.tasks b.jobs.length:=by rw[show b.jobs.length = n1 by omega];exact hc1
 conv=>whnf
 refine W.sq<|g 13 17 []<|J UE<|W.cn<|J (noT (by simp_all)) fun _=>W.exit<|g 5 18 []<|J UA<|RT ?_
 exact vbt OM
theorem ui(b:Boss)(p:Plan)(hp:dl p)(hl1:b.log.safe.length≤1048576)(hl2:b.log.loose.length≤1048576)(hs:∀ s∈b.log.safe++b.log.loose,s.size≤281474976710656)(hr:b.results.length≤1048576)(hj:b.jobs.length≤1048576)(hse:b.seats.length≤1048576)(ho:b.owed.length≤1048576):F kO [.val (fJ b),.val (cO p)] (.b (decide (BossOk b p))) [[],[]]:=by
 have cp:=cY p hp
 have ce:=lY b.log hl1 hl2
 have cr:F kv [.val (cO p),.val (.t (pZ (b.log.safe++b.log.loose)))] (gc (cx b p)) [[],[]]:=hJ p (b.log.safe++b.log.loose) hp hs (by rw[List.length_append];omega)
 have h310:(cx b p).code = 0→b.log.safe.length+b.log.loose.length≤310:=fun q=>by have:=(cz (p:=p) (xs:=b.log.safe++b.log.loose) q).2.1;rw[List.length_append]at this;exact this
 by_cases hup:b.up = true
 rotate_left
 ·rw[Bool.not_eq_true]at hup
  refine kY ?_
  conv=>whnf
  refine g 0 2 []<|J Zcp<|W.sq ?_
  by_cases h1:aq (Plan.tasks p) = (0:Int)
  by_cases h2:(1:Int)≤Boss.workers b∧Boss.workers b≤(8:Int)
  by_cases h3:(0:Int)≤Boss.now b∧Boss.now b≤(1000000:Int)
  refine g 21 26 [.call (V.i (aq p.tasks)) [[]],BF,BF,BF,.call (V.b (decide (1≤b.workers∧b.workers≤8))) [[],[],[]],BF,BF,BF,BF,BF,.call (V.b (decide (0≤b.now∧b.now≤1000000))) [[],[],[]],BF,BF,BF,BF,BF,BF,BF,BF,BF,BF,BF,.i ((↑(List.length (List.map ak b.log.safe)):Int) + (↑(List.length (List.map ak b.log.loose)):Int)),BF,BF]<|J ⟨I,Zai,I,I,⟨nO,I⟩,⟨nO,I⟩,⟨nO,UC,I,UU,UA,ah _ _ _⟩,⟨nO,I⟩,nO,I,⟨nO,I⟩,⟨nO,I⟩,⟨nO,UC,I,UU,UA,ah _ _ _⟩,⟨nO,I⟩,nO,I,⟨nO,I⟩,⟨nO,I⟩,⟨nO,I⟩,⟨nO,I⟩,⟨nO,I⟩,⟨nO,I⟩,⟨nO,I⟩,⟨nO,I⟩,⟨nO,w64 LN LN⟩,⟨nO,I⟩,nO,I⟩<|W.cn<|J (fun h4=>?_) fun h4=>?_
  replace h4:=dt h4
  simp only[LM]at h4
  refine g 27 32 []<|J UA<|RT ?_
  rotate_left
  replace h4:=df h4
  simp only[LM]at h4
  refine W.skip<|gd 27 32 [[],[],[],[.call (V.own [false] (List.map ak (b.log.safe++b.log.loose))) [[]]],[.call (gc (cx b p)) [[],[]]],[],[]] ?_
  conv=>whnf
  refine J ⟨I,I,I,⟨UA,I,⟨UB,I⟩,UA,AS⟩,Zam,I,UC,I⟩<|J KR<|W.sq<|g 39 45 []<|J UC<|W.cn<|J (fun h5=>?_) fun h5=>?_
  replace h5:=ndt h5
  refine g 33 38 []<|J UA<|RT ?_
  rotate_left
  replace h5:=ndf h5
  refine W.skip<|W.sq<|g 33 38 []<|J UC<|W.cn<|J (fun _=>?_) (noF (nbT AS))
  by_cases h6:(↑(List.length (List.map ak (Log.loose (Boss.log b)))):Int) = (0:Int)
  simp only[LM]at h6
  by_cases h7:Boss.since b = (0:Int)
  by_cases h8:Boss.epoch b = (0:Int)
  by_cases h9:Boss.given b = (0:Int)
  by_cases h10:(↑(List.length (List.map ak (Boss.results b))):Int) = (0:Int)
  simp only[LM]at h10
  by_cases h11:(↑(List.length (List.map aV (Boss.jobs b))):Int) = (0:Int)
  simp only[LM]at h11
  by_cases h12:(↑(List.length (List.map aF (Boss.seats b))):Int) = (0:Int)
  simp only[LM]at h12
  refine g 26 93 [BT,BT,BT,BT,BT,BT,BT,BT,BT,BT,BT,BT,BT,BT,BT,BT,BT,BT,BT,BT,BT,BT,BT,BT,BT,BT,BT,BT,BT,BT,BT,BT] ?_
  conv=>whnf
  refine J Zaz<|RT ?_
  rotate_left
  simp only[LM]at h12
  refine g 26 93 [BT,BT,BT,BT,BT,BT,BT,BT,BT,BT,BT,BT,BT,BT,BT,BT,BT,BT,BT,BT,BT,BT,BT,BT,BT,BT,BT,BF,BF,BF,BF,BF] ?_
  conv=>whnf
  refine J ⟨I,I,I,I,I,I,⟨SI,I⟩,⟨SI,I⟩,⟨SI,I⟩,SI,I,⟨tO,I⟩,⟨tO,I⟩,⟨tO,I⟩,tO,I,⟨tO,I⟩,⟨tO,I⟩,⟨tO,I⟩,tO,I,⟨tO,I⟩,⟨tO,I⟩,⟨tO,I⟩,⟨tO,I⟩,tO,I,⟨SI,I⟩,⟨SI,I⟩,⟨SI,I⟩,⟨SI,I⟩,SI,I,⟨SI,I⟩,⟨SI,I⟩,⟨SI,I⟩,⟨SI,I⟩,SI,I,(by simp_all),(by simp_all),(by simp_all),(by simp_all),(by simp_all),I,I⟩<|RT ?_
  rotate_left
  simp only[LM]at h11
  refine g 26 93 [BT,BT,BT,BT,BT,BT,BT,BT,BT,BT,BT,BT,BT,BT,BT,BT,BT,BT,BT,BT,BT,BT,BF,BF,BF,BF,BF,BF,BF,BF,BF,BF] ?_
  conv=>whnf
  refine J ⟨I,I,I,I,I,I,⟨SI,I⟩,⟨SI,I⟩,⟨SI,I⟩,SI,I,⟨tO,I⟩,⟨tO,I⟩,⟨tO,I⟩,tO,I,⟨tO,I⟩,⟨tO,I⟩,⟨tO,I⟩,tO,I,⟨tO,I⟩,⟨tO,I⟩,⟨tO,I⟩,⟨tO,I⟩,tO,I,⟨SI,I⟩,⟨SI,I⟩,⟨SI,I⟩,⟨SI,I⟩,SI,I,(by simp_all),(by simp_all),(by simp_all),(by simp_all),(by simp_all),I,rfl,rfl,rfl,rfl,rfl,I,I⟩<|RT ?_
  rotate_left
  simp only[LM]at h10
  refine g 26 93 [BT,BT,BT,BT,BT,BT,BT,BT,BT,BT,BT,BT,BT,BT,BT,BT,BT,BF,BF,BF,BF,BF,BF,BF,BF,BF,BF,BF,BF,BF,BF,BF] ?_
  conv=>whnf
  refine J ⟨I,I,I,I,I,I,⟨SI,I⟩,⟨SI,I⟩,⟨SI,I⟩,SI,I,⟨tO,I⟩,⟨tO,I⟩,⟨tO,I⟩,tO,I,⟨tO,I⟩,⟨tO,I⟩,⟨tO,I⟩,tO,I,⟨tO,I⟩,⟨tO,I⟩,⟨tO,I⟩,⟨tO,I⟩,tO,I,(by simp_all),(by simp_all),(by simp_all),(by simp_all),(by simp_all),I,rfl,rfl,rfl,rfl,rfl,I,rfl,rfl,rfl,rfl,rfl,I,I⟩<|RT ?_
  rotate_left
  refine g 26 93 [BT,BT,BT,BT,BT,BT,BT,BT,BT,BT,BT,BT,BF,BF,BF,BF,BF,BF,BF,BF,BF,BF,BF,BF,BF,BF,BF,BF,BF,BF,BF,BF] ?_
  conv=>whnf
  refine J Zbt<|RT ?_
  rotate_left
  refine g 26 93 [BT,BT,BT,BT,BT,BT,BT,BT,BF,BF,BF,BF,BF,BF,BF,BF,BF,BF,BF,BF,BF,BF,BF,BF,BF,BF,BF,BF,BF,BF,BF,BF] ?_
  conv=>whnf
  refine J Zby<|RT ?_
  rotate_left
  refine g 26 93 [BT,BT,BT,BT,BF,BF,BF,BF,BF,BF,BF,BF,BF,BF,BF,BF,BF,BF,BF,BF,BF,BF,BF,BF,BF,BF,BF,BF,BF,BF,BF,BF] ?_
  conv=>whnf
  refine J Zb3<|RT ?_
  rotate_left
  simp only[LM]at h6
  refine g 26 93 [BF,BF,BF,BF,BF,BF,BF,BF,BF,BF,BF,BF,BF,BF,BF,BF,BF,BF,BF,BF,BF,BF,BF,BF,BF,BF,BF,BF,BF,BF,BF,BF] ?_
  conv=>whnf
  refine J ⟨I,I,I,I,I,I,(by simp_all),(by simp_all),(by simp_all),(by simp_all),I,rfl,rfl,rfl,rfl,I,rfl,rfl,rfl,rfl,I,rfl,rfl,rfl,rfl,rfl,I,rfl,rfl,rfl,rfl,rfl,I,rfl,rfl,rfl,rfl,rfl,I,rfl,rfl,rfl,rfl,rfl,I,I⟩<|RT ?_
  rotate_left
  refine g 21 26 [.call (V.i (aq p.tasks)) [[]],BF,BF,BF,.call (V.b (decide (1≤b.workers∧b.workers≤8))) [[],[],[]],BF,BF,BF,BF,BF,.call (V.b (decide (0≤b.now∧b.now≤1000000))) [[],[],[]],BF,BF,BT,BT,BT,BT,BT,BT,BT,BT,BT,BT,BT]<|J ⟨I,Zai,I,I,⟨nO,I⟩,⟨nO,I⟩,⟨nO,UC,I,UU,UA,ah _ _ _⟩,⟨nO,I⟩,nO,I,⟨nO,I⟩,⟨nO,I⟩,⟨nO,UC,I,UU,UA,ah _ _ _⟩,⟨nO,I⟩,nO,I,ag OM,ag OM,ag OM,ag OM,ag OM,ag OM,ag OM,ag OM,ag OM,ag OM,ag OM,I⟩<|W.cn<|J (fun _=>(g 27 32 []<|J UA (RT ?_))) (noF rfl)
  rotate_left
  refine g 21 26 [.call (V.i (aq p.tasks)) [[]],BF,BF,BF,.call (V.b (decide (1≤b.workers∧b.workers≤8))) [[],[],[]],BF,BF,BT,BT,BT,BT,BT,BT,BT,BT,BT,BT,BT,BT,BT,BT,BT,BT]<|J ⟨I,Zai,I,I,⟨nO,I⟩,⟨nO,I⟩,⟨nO,UC,I,UU,UA,ah _ _ _⟩,⟨nO,I⟩,nO,I,ag OM,ag OM,ag OM,ag OM,ag OM,I,rfl,rfl,rfl,rfl,rfl,rfl,rfl,rfl,rfl,rfl,rfl,I⟩<|W.cn<|J (fun _=>(g 27 32 []<|J UA (RT ?_))) (noF rfl)
  rotate_left
  refine g 21 26 [.call (V.i (aq p.tasks)) [[]],BT,BT,BT,BT,BT,BT,BT,BT,BT,BT,BT,BT,BT,BT,BT,BT,BT,BT,BT,BT,BT]<|J Zd4<|W.cn<|J (fun _=>(g 27 32 []<|J UA (RT ?_))) (noF rfl)
  rotate_left
  all_goals first
   |exact vbf (fun q=>by have e1:=q.plan;have e2:=q.workers;have e3:=q.now;have e4:=q.code;have e5:=h310 e4;omega)
   |exact vbf (zU hup fun q=>by have e1:=q.loose;have e2:=q.since;have e3:=q.epoch;have e4:=q.given;have e5:=q.res;have e6:=q.jobs;have e7:=q.seats;omega)
   |(rename_i h8
     simp only[List.length_map]
     by_cases h9:(b.owed.length:Int) = 0
     ·rw[decide_eq_true h9];exact vbt ⟨by omega,by omega,by omega,by omega,(fun q=>by rw[hup]at q;cases q),fun _=>⟨by omega,by omega,by omega,by omega,by omega,by omega,by omega,by omega⟩⟩
     ·rw[decide_eq_false h9];exact vbf (zU hup fun q=>by have e8:=q.owed;omega))
   |skip
 refine kY ?_
 conv=>whnf
 refine g 0 2 []<|J Zcp<|W.sq ?_
 by_cases h1:aq (Plan.tasks p) = (0:Int)
 by_cases h2:(1:Int)≤Boss.workers b∧Boss.workers b≤(8:Int)
 by_cases h3:(0:Int)≤Boss.now b∧Boss.now b≤(1000000:Int)
 refine g 21 26 [.call (V.i (aq p.tasks)) [[]],BF,BF,BF,.call (V.b (decide (1≤b.workers∧b.workers≤8))) [[],[],[]],BF,BF,BF,BF,BF,.call (V.b (decide (0≤b.now∧b.now≤1000000))) [[],[],[]],BF,BF,BF,BF,BF,BF,BF,BF,BF,BF,BF,.i ((↑(List.length (List.map ak b.log.safe)):Int) + (↑(List.length (List.map ak b.log.loose)):Int)),BF,BF]<|J ⟨I,Zai,I,I,⟨nO,I⟩,⟨nO,I⟩,⟨nO,UC,I,UU,UA,ah _ _ _⟩,⟨nO,I⟩,nO,I,⟨nO,I⟩,⟨nO,I⟩,⟨nO,UC,I,UU,UA,ah _ _ _⟩,⟨nO,I⟩,nO,I,⟨nO,I⟩,⟨nO,I⟩,⟨nO,I⟩,⟨nO,I⟩,⟨nO,I⟩,⟨nO,I⟩,⟨nO,I⟩,⟨nO,I⟩,⟨nO,w64 LN LN⟩,⟨nO,I⟩,nO,I⟩<|W.cn<|J (fun h4=>?_) fun h4=>?_
 replace h4:=dt h4
 simp only[LM]at h4
 refine g 27 32 []<|J UA<|RT ?_
 rotate_left
 replace h4:=df h4
 simp only[LM]at h4
 refine W.skip<|gd 27 32 [[],[],[],[.call (V.own [false] (List.map ak (b.log.safe++b.log.loose))) [[]]],[.call (gc (cx b p)) [[],[]]],[],[]] ?_
 conv=>whnf
 refine J ⟨I,I,I,⟨UA,I,⟨UB,I⟩,UA,AS⟩,Zam,I,UC,I⟩<|J KR<|W.sq<|g 39 45 []<|J UC<|W.cn<|J (fun h5=>?_) fun h5=>?_
 replace h5:=ndt h5
 refine g 33 38 []<|J UA<|RT ?_
 rotate_left
 replace h5:=ndf h5
 refine W.skip<|W.sq<|g 33 38 []<|J UC<|W.cn<|J (noT (nbF AS)) fun _=>W.skip<|W.sq ?_
 by_cases h6:Boss.epoch b = Story.epoch (cx b p)
 by_cases h7:Boss.epoch b < (1:Int)
 refine g 26 114 [BF,BF,BF,BF,BT,BT,BT,BT,BT,BT,BT,BT,BT,BT]<|J ⟨I,I,I,I,I,I,⟨nO,I⟩,⟨nO,I⟩,⟨nO,I⟩,nO,I,tO,tO,tO,tO,tO,I,rfl,rfl,rfl,rfl,rfl,I⟩<|W.cn<|J (fun _=>(g 13 20 []<|J UA (RT ?_))) (noF rfl)
 rotate_left
 by_cases h8:(0:Int)≤Boss.since b∧Boss.since b≤(1:Int)
 refine g 26 114 [BF,BF,BF,BF,BF,BF,BF,.call (V.b (decide (0≤b.since∧b.since≤1))) [[],[],[]],BF,BF,BF,BF,BF,.call (V.b (decide (0≤b.given∧b.given≤1000000))) [[],[],[]],BF,BF]<|J ⟨I,I,I,I,I,I,⟨nO,I⟩,⟨nO,I⟩,⟨nO,I⟩,nO,I,⟨dO,I⟩,⟨dO,I⟩,⟨dO,UC,I,UU,UA,ah _ _ _⟩,⟨dO,I⟩,dO,I,⟨nO,I⟩,⟨nO,I⟩,⟨nO,UC,I,UU,UA,ah _ _ _⟩,⟨nO,I⟩,nO,I⟩<|W.cn<|J (fun h9=>?_) fun h9=>?_
 replace h9:=ndt h9
 refine g 13 20 []<|J UA<|RT ?_
 rotate_left
 replace h9:=ndf h9
 refine W.skip<|g 13 20 []<|J UD<|W.sq ?_
 by_cases h10:(↑(List.length (List.map ak (Boss.results b))):Int) = (↑(List.length (List.map ay (Plan.tasks p))):Int)
 simp only[LM]at h10
 by_cases h11:(↑(List.length (List.map aV (Boss.jobs b))):Int) = (↑(List.length (List.map ay (Plan.tasks p))):Int)
 simp only[LM]at h11
 by_cases h12:(↑(List.length (List.map aF (Boss.seats b))):Int) = Boss.workers b
 simp only[LM]at h12
 refine g 114 143 [BF,BF,BF,BF,BF,BF,BF,BF,BF,BF,BF,BF,BF,BF,BF,BF,BF,BF]<|J ⟨I,I,I,I,I,I,⟨SI,I⟩,⟨SI,I⟩,⟨SI,I⟩,⟨SI,I⟩,⟨SI,I⟩,SI,I,⟨SI,I⟩,⟨SI,I⟩,⟨SI,I⟩,⟨SI,I⟩,⟨SI,I⟩,⟨SI,I⟩,SI,I,⟨SI,I⟩,⟨SI,I⟩,⟨SI,I⟩,⟨SI,I⟩,SI,I⟩<|W.cn<|J (fun h13=>?_) fun h13=>?_
 replace h13:=dt h13
 simp only[LM]at h13
 refine g 11 12 []<|J UA<|RT ?_
 rotate_left
 replace h13:=df h13
 simp only[LM]at h13
 refine W.skip<|W.sq<|g 11 12 []<|J UA<|W.blk ?_
 rotate_left
 simp only[LM]at h12
 refine g 114 143 [BF,BF,BF,BF,BF,BF,BF,BF,BF,BF,BF,BF,BF,BT,BT,BT,BT,BT]<|J ⟨I,I,I,I,I,I,⟨SI,I⟩,⟨SI,I⟩,⟨SI,I⟩,⟨SI,I⟩,⟨SI,I⟩,SI,I,⟨SI,I⟩,⟨SI,I⟩,⟨SI,I⟩,⟨SI,I⟩,⟨SI,I⟩,⟨SI,I⟩,SI,I,SI,SI,SI,SI,SI,I⟩<|W.cn<|J (fun _=>(g 11 12 []<|J UA (RT ?_))) (noF rfl)
 rotate_left
 simp only[LM]at h11
 refine g 114 143 [BF,BF,BF,BF,BF,BF,BT,BT,BT,BT,BT,BT,BT,BT,BT,BT,BT,BT]<|J ⟨I,I,I,I,I,I,⟨SI,I⟩,⟨SI,I⟩,⟨SI,I⟩,⟨SI,I⟩,⟨SI,I⟩,SI,I,SI,SI,SI,SI,SI,SI,SI,I,rfl,rfl,rfl,rfl,rfl,I⟩<|W.cn<|J (fun _=>(g 11 12 []<|J UA (RT ?_))) (noF rfl)
 rotate_left
 simp only[LM]at h10
 refine g 114 143 [BT,BT,BT,BT,BT,BT,BT,BT,BT,BT,BT,BT,BT,BT,BT,BT,BT,BT]<|J ⟨I,I,I,I,I,I,SI,SI,SI,SI,SI,SI,I,rfl,rfl,rfl,rfl,rfl,rfl,rfl,I,rfl,rfl,rfl,rfl,rfl,I⟩<|W.cn<|J (fun _=>(g 11 12 []<|J UA (RT ?_))) (noF rfl)
 rotate_left
 refine g 26 114 [BF,BF,BF,BF,BF,BF,BF,.call (V.b (decide (0≤b.since∧b.since≤1))) [[],[],[]],BF,BF,BT,BT,BT,BT,BT]<|J ⟨I,I,I,I,I,I,⟨nO,I⟩,⟨nO,I⟩,⟨nO,I⟩,nO,I,⟨dO,I⟩,⟨dO,I⟩,⟨dO,UC,I,UU,UA,ah _ _ _⟩,⟨dO,I⟩,dO,I,ag OM,ag OM,ag OM,ag OM,ag OM,I⟩<|W.cn<|J (fun _=>(g 13 20 []<|J UA (RT ?_))) (noF rfl)
 rotate_left
 refine g 26 114 [BT,BT,BT,BT,BT,BT,BT,BT,BT,BT,BT,BT,BT,BT]<|J ⟨I,I,I,I,I,I,ag OM,ag OM,ag OM,ag OM,I,rfl,rfl,rfl,rfl,rfl,I,rfl,rfl,rfl,rfl,rfl,I⟩<|W.cn<|J (fun _=>(g 13 20 []<|J UA (RT ?_))) (noF rfl)
 rotate_left
 refine g 21 26 [.call (V.i (aq p.tasks)) [[]],BF,BF,BF,.call (V.b (decide (1≤b.workers∧b.workers≤8))) [[],[],[]],BF,BF,BF,BF,BF,.call (V.b (decide (0≤b.now∧b.now≤1000000))) [[],[],[]],BF,BF,BT,BT,BT,BT,BT,BT,BT,BT,BT,BT,BT]<|J ⟨I,Zai,I,I,⟨nO,I⟩,⟨nO,I⟩,⟨nO,UC,I,UU,UA,ah _ _ _⟩,⟨nO,I⟩,nO,I,⟨nO,I⟩,⟨nO,I⟩,⟨nO,UC,I,UU,UA,ah _ _ _⟩,⟨nO,I⟩,nO,I,ag OM,ag OM,ag OM,ag OM,ag OM,ag OM,ag OM,ag OM,ag OM,ag OM,ag OM,I⟩<|W.cn<|J (fun _=>(g 27 32 []<|J UA (RT ?_))) (noF rfl)
 rotate_left
 refine g 21 26 [.call (V.i (aq p.tasks)) [[]],BF,BF,BF,.call (V.b (decide (1≤b.workers∧b.workers≤8))) [[],[],[]],BF,BF,BT,BT,BT,BT,BT,BT,BT,BT,BT,BT,BT,BT,BT,BT,BT,BT]<|J ⟨I,Zai,I,I,⟨nO,I⟩,⟨nO,I⟩,⟨nO,UC,I,UU,UA,ah _ _ _⟩,⟨nO,I⟩,nO,I,ag OM,ag OM,ag OM,ag OM,ag OM,I,rfl,rfl,rfl,rfl,rfl,rfl,rfl,rfl,rfl,rfl,rfl,I⟩<|W.cn<|J (fun _=>(g 27 32 []<|J UA (RT ?_))) (noF rfl)
 rotate_left
 refine g 21 26 [.call (V.i (aq p.tasks)) [[]],BT,BT,BT,BT,BT,BT,BT,BT,BT,BT,BT,BT,BT,BT,BT,BT,BT,BT,BT,BT,BT]<|J Zd4<|W.cn<|J (fun _=>(g 27 32 []<|J UA (RT ?_))) (noF rfl)
 rotate_left
 all_goals try first
  |exact vbf (fun q=>by have e1:=q.plan;have e2:=q.workers;have e3:=q.now;have e4:=q.code;have e5:=h310 e4;omega)
  |exact vbf (fX hup fun q=>by have e1:=q.epoch;have e2:=q.pos;have e3:=q.rlen;have e4:=q.jlen;have e5:=q.slen;have e6:=q.since;have e7:=q.given;have e8:=q.olen;omega)
 have hk:(cx b p).code = 0:=by assumption
 have hc0:aq p.tasks = 0:=by assumption
 obtain⟨_,_,hsl,_⟩:=cz (p:=p) (xs:=b.log.safe++b.log.loose) hk
 obtain⟨hep1,hep2⟩:=fw (p:=p) (xs:=b.log.safe++b.log.loose) hk
 change (cx b p).results.length = _ at hsl
 change 0≤(cx b p).epoch at hep1
 change (cx b p).epoch≤300 at hep2
 have f1:b.epoch = (cx b p).epoch:=by assumption
 have f2:1≤b.epoch:=by omega
 have f3:b.results.length = p.tasks.length:=by omega
 have f4:b.jobs.length = p.tasks.length:=by omega
 have f5:(b.seats.length:Int) = b.workers:=by omega
 have f6:1≤b.workers∧b.workers≤8:=by assumption
 have f7:0≤b.now∧b.now≤1000000:=by assumption
 have g2:0≤b.since∧b.since≤1:=by omega
 have g3:0≤b.given∧b.given≤1000000:=by omega
 have g4:b.owed.length≤2000:=by omega
 have hpl:=(bT hc0).1
 refine W.lp (fun s (n:Nat)=>⟨[(2,s.s 2),(3,s.s 3),(5,s.s 5),(6,s.s 6),(7,.i n),(12,s.s 12),(20,s.s 20)],[(2,[s.c 2 0,s.c 2 1,s.c 2 2,s.c 2 3,s.c 2 4,s.c 2 5,s.c 2 6,s.c 2 7,s.c 2 8,s.c 2 9,s.c 2 10,s.c 2 11]),(3,[s.c 3 0]),(5,[s.c 5 0,s.c 5 1,s.c 5 2])],[]⟩) (fun(n:Nat)=>n≤b.results.length∧b.results.take n = (cx b p).results.take n) (fun(n:Nat)=>b.results.length - n) (0) [some 2,some 3,some 5] [] ⟨rfl,Zbi,⟨Zaa,⟨Zac,Zes⟩⟩,I⟩ (by simp) ?_
 rintro n ⟨hn,hc⟩
 conv=>whnf
 refine W.sq<|g 144 146 []<|J UC<|W.cn<|J (fun h14=>?_) fun h14=>?_
 replace h14:=dt h14
 simp only[LM]at h14
 refine W.skip<|W.sq<|W.blk ?_
 obtain⟨y1,hy1⟩:=af (xs:=Boss.results b) (n:=n) OM
 obtain⟨y2,hy2⟩:=af (xs:=Story.results (cx b p)) (n:=n) OM
 refine gd 146 159 [[],[],[],[.x (ak y1)],[],[],[],[],[.n (n)],[.x (ak y2)],[]] ?_
 conv=>whnf
 refine J ⟨I,I,I,Zdg,I,I,I,I,Zdf,xA,I,I⟩<|J KR<|W.cn<|J (fun h15=>?_) fun h15=>?_
 replace h15:=ndt h15
 refine g 159 160 []<|J UA<|RT ?_
 rotate_left
 replace h15:=ndf h15
 refine W.skip<|rg [.i ((n:Int) +1)]<|J Zdd ?_
 rotate_left
 replace h14:=df h14
 simp only[LM]at h14
 refine W.exit<|W.sq<|g 5 6 []<|J UA<|W.blk ?_
 rotate_left
 all_goals try
  exact vbf (fX hup fun q=>by have e1:=q.res;rw[e1]at hy1;rw[hy1]at hy2;cases hy2;contradiction)
 ·refine⟨n+1,[some 2,some 3,some 5],[],⟨rfl,Zbi,⟨Zaa,⟨Zac,Zes⟩⟩,I⟩,?_,?_⟩
  rotate_left
  (dsimp only;omega)
  dsimp only
  exact⟨by omega,jD hc hy1 (by rw[hy2];simp_all)⟩
 have g1:b.results = (cx b p).results:=by rw[aE OM,aE OM]at hc;exact hc
 refine W.lp (fun s (n:Nat)=>⟨[(2,s.s 2),(3,s.s 3),(6,s.s 6),(8,.i n),(12,s.s 12),(20,s.s 20)],[(2,[s.c 2 0,s.c 2 1,s.c 2 2,s.c 2 3,s.c 2 4,s.c 2 5,s.c 2 6,s.c 2 7,s.c 2 8,s.c 2 9,s.c 2 10,s.c 2 11]),(3,[s.c 3 0])],[]⟩) (fun(n:Nat)=>n≤b.seats.length∧∀ s∈b.seats.take n,0≤s.epoch∧s.epoch≤300) (fun(n:Nat)=>b.seats.length - n) (0) [some 2,some 3] [] Zeq (by simp) ?_
 rintro n2 ⟨hn2,hc2⟩
 by_cases hs2:n2 < b.seats.length
 ·obtain⟨s,hs1⟩:=af hs2
  by_cases hA:0≤s.epoch∧s.epoch≤300
  ·conv=>whnf
   refine W.sq<|g 160 164 []<|J UE<|W.cn<|J (fun h15=>?_) fun h15=>?_
   replace h15:=dt h15
   simp only[LM]at h15
   refine W.skip<|W.sq<|W.blk<|g 164 174 [.x (aF s),.call (V.b (decide (0≤s.epoch∧s.epoch≤300))) [[],[],[]]]<|J ⟨I,I,I,Zdg,I,I,⟨UC,I,UU,UA,ah _ _ _⟩,I,I⟩<|W.cn<|J (noT nO) fun _=>W.skip<|rg [.i ((n2:Int) +1)]<|J Zdd ?_
   rotate_left
   replace h15:=df h15
   simp only[LM]at h15
   omega
   refine⟨n2+1,[some 2,some 3],[],Zeq,?_,?_⟩
   rotate_left
   (dsimp only;omega)
   dsimp only
   exact⟨by omega,dN hc2 hs1 hA⟩
  ·conv=>whnf
   refine W.sq<|g 160 164 []<|J UE<|W.cn<|J (fun h15=>?_) fun h15=>?_
   replace h15:=dt h15
   simp only[LM]at h15
   refine W.skip<|W.sq<|W.blk<|g 164 174 [.x (aF s),.call (V.b (decide (0≤s.epoch∧s.epoch≤300))) [[],[],[]]]<|J ⟨I,I,I,Zdg,I,I,⟨UC,I,UU,UA,ah _ _ _⟩,I,I⟩<|W.cn<|J (fun _=>(g 174 175 []<|J UA (RT ?_))) (noF (ag OM))
   rotate_left
   replace h15:=df h15
   simp only[LM]at h15
   omega
   exact vbf (fX hup (IM hs1 hA))
 have hseats:∀ s∈b.seats,0≤s.epoch∧s.epoch≤300:=by rw[aE OM]at hc2;exact hc2
 conv=>whnf
 refine W.sq<|g 160 164 []<|J UE<|W.cn<|J (fun h15=>?_) fun h15=>?_
 replace h15:=dt h15
 simp only[LM]at h15
 omega
 replace h15:=df h15
 simp only[LM]at h15
 refine W.exit<|W.sq<|g 8 9 []<|J UA<|W.blk<|W.lp (fun s (n:Nat)=>⟨[(2,s.s 2),(3,s.s 3),(6,s.s 6),(9,.i n),(12,s.s 12),(20,s.s 20)],[(2,[s.c 2 0,s.c 2 1,s.c 2 2,s.c 2 3,s.c 2 4,s.c 2 5,s.c 2 6,s.c 2 7,s.c 2 8,s.c 2 9,s.c 2 10,s.c 2 11]),(3,[s.c 3 0])],[]⟩) (fun(n:Nat)=>n≤b.owed.length∧∀ o∈b.owed.take n,OwedOk b p.tasks o) (fun(n:Nat)=>b.owed.length - n) (0) [some 2,some 3] [] Zeq (by simp) ?_
 rintro n3 ⟨hn3,hc3⟩
 by_cases ho2:n3 < b.owed.length
 ·obtain⟨o,ho1⟩:=af ho2
  by_cases hA:1≤o.worker∧o.worker≤b.workers
  ·by_cases hB:1≤o.lease∧o.lease≤300000000
   ·by_cases hC:0≤o.task∧o.task≤(p.tasks.length:Int) - 1
    ·obtain⟨y,hy0⟩:=af (xs:=b.results) (n:=o.task.toNat) OM
     by_cases hD:y = emp
     ·conv=>whnf
      refine W.sq<|g 175 179 []<|J UE<|W.cn<|J (fun _=>(W.skip (W.sq (W.blk (g 179 187 [.x (aR o)]<|J Zbg (g 187 215 [.call (V.b (decide (1≤o.worker∧o.worker≤b.workers))) [[],[],[]],BF,BF,BF,.call (V.b (decide (1≤o.lease∧o.lease≤300000000))) [[]],BF,BF,BF,BF,BF,BF,.i ((↑(List.length (List.map ay p.tasks)):Int) - 1),BF,.call (V.b (decide (0≤o.task∧o.task≤(↑(List.length (List.map ay p.tasks)):Int) - 1))) [[],[],[]],BF,BF,BF,BF,BF,BF,BF,.x (ak y),BF,BF,BF]<|J ⟨I,I,I,I,⟨UC,I,UU,UA,ah _ _ _⟩,I,I,⟨nO,I⟩,⟨nO,I⟩,⟨nO,UA,I,US,UA,aA _⟩,⟨nO,I⟩,nO,I,⟨nO,I⟩,⟨nO,I⟩,⟨nO,I⟩,⟨nO,w64 LN LN⟩,⟨nO,UC,I,UU,UA,ah _ _ _⟩,⟨nO,I⟩,nO,I,⟨SI,I⟩,⟨SI,I⟩,⟨SI,I⟩,⟨SI,I⟩,⟨SI,OM,xA⟩,⟨SI,I⟩,⟨SI,I⟩,SI,I⟩ (W.cn<|J (fun _=>(g 10 11 []<|J UA (RT ?_))) (noF tO)))))))) (noF SI)
      exact vbf (fX hup (kN ho1 (fun q=>q.res (by rw[jN hy0];exact hD))))
     ·conv=>whnf
      refine W.sq<|g 175 179 []<|J UE<|W.cn<|J (fun _=>(W.skip (W.sq (W.blk (g 179 187 [.x (aR o)]<|J Zbg (g 187 215 [.call (V.b (decide (1≤o.worker∧o.worker≤b.workers))) [[],[],[]],BF,BF,BF,.call (V.b (decide (1≤o.lease∧o.lease≤300000000))) [[]],BF,BF,BF,BF,BF,BF,.i ((↑(List.length (List.map ay p.tasks)):Int) - 1),BF,.call (V.b (decide (0≤o.task∧o.task≤(↑(List.length (List.map ay p.tasks)):Int) - 1))) [[],[],[]],BF,BF,BF,BF,BF,BF,BF,.x (ak y),BF,BF,BF]<|J ⟨I,I,I,I,⟨UC,I,UU,UA,ah _ _ _⟩,I,I,⟨nO,I⟩,⟨nO,I⟩,⟨nO,UA,I,US,UA,aA _⟩,⟨nO,I⟩,nO,I,⟨nO,I⟩,⟨nO,I⟩,⟨nO,I⟩,⟨nO,w64 LN LN⟩,⟨nO,UC,I,UU,UA,ah _ _ _⟩,⟨nO,I⟩,nO,I,⟨SI,I⟩,⟨SI,I⟩,⟨SI,I⟩,⟨SI,I⟩,⟨SI,OM,xA⟩,⟨SI,I⟩,⟨SI,I⟩,SI,I⟩ (W.cn<|J (noT dO) fun _=>(W.skip (rg [.i ((n3:Int) +1)]<|J Zdd ?_))))))))) (noF SI)
      refine⟨n3+1,[some 2,some 3],[],Zeq,?_,?_⟩
      rotate_left
      (dsimp only;omega)
      dsimp only
      exact⟨by omega,dN hc3 ho1 ⟨hA,hB,hC,by rw[jN hy0];exact hD⟩⟩
    ·conv=>whnf
     refine W.sq<|g 175 179 []<|J UE<|W.cn<|J (fun _=>(W.skip (W.sq (W.blk (g 179 187 [.x (aR o)]<|J Zbg (g 187 215 [.call (V.b (decide (1≤o.worker∧o.worker≤b.workers))) [[],[],[]],BF,BF,BF,.call (V.b (decide (1≤o.lease∧o.lease≤300000000))) [[]],BF,BF,BF,BF,BF,BF,.i ((↑(List.length (List.map ay p.tasks)):Int) - 1),BF,.call (V.b (decide (0≤o.task∧o.task≤(↑(List.length (List.map ay p.tasks)):Int) - 1))) [[],[],[]],BF,BF,BT,BT,BT,BT,BT,BT,BT,BT]<|J ⟨I,I,I,I,⟨UC,I,UU,UA,ah _ _ _⟩,I,I,⟨nO,I⟩,⟨nO,I⟩,⟨nO,UA,I,US,UA,aA _⟩,⟨nO,I⟩,nO,I,⟨nO,I⟩,⟨nO,I⟩,⟨nO,I⟩,⟨nO,w64 LN LN⟩,⟨nO,UC,I,UU,UA,ah _ _ _⟩,⟨nO,I⟩,nO,I,SI,SI,SI,SI,SI,SI,SI,SI,I⟩ (W.cn<|J (fun _=>(g 10 11 []<|J UA (RT ?_))) (noF rfl)))))))) (noF SI)
     exact vbf (fX hup (kN ho1 (fun q=>hC q.task)))
   ·conv=>whnf
    refine W.sq<|g 175 179 []<|J UE<|W.cn<|J (fun _=>(W.skip (W.sq (W.blk (g 179 187 [.x (aR o)]<|J Zbg (g 187 215 [.call (V.b (decide (1≤o.worker∧o.worker≤b.workers))) [[],[],[]],BF,BF,BF,.call (V.b (decide (1≤o.lease∧o.lease≤300000000))) [[]],BF,BF,BT,BT,BT,BT,BT,BT,BT,BT,BT,BT,BT,BT,BT,BT,BT]<|J ⟨I,I,I,I,⟨UC,I,UU,UA,ah _ _ _⟩,I,I,⟨nO,I⟩,⟨nO,I⟩,⟨nO,UA,I,US,UA,aA _⟩,⟨nO,I⟩,nO,I,ag OM,ag OM,ag OM,ag OM,ag OM,ag OM,ag OM,I,rfl,rfl,rfl,rfl,rfl,rfl,rfl,rfl,I⟩ (W.cn<|J (fun _=>(g 10 11 []<|J UA (RT ?_))) (noF rfl)))))))) (noF SI)
    exact vbf (fX hup (kN ho1 (fun q=>hB q.lease)))
  ·conv=>whnf
   refine W.sq<|g 175 179 []<|J UE<|W.cn<|J (fun _=>(W.skip (W.sq (W.blk (g 179 187 [.x (aR o)]<|J Zbg (g 187 215 [.call (V.b (decide (1≤o.worker∧o.worker≤b.workers))) [[],[],[]],BT,BT,BT,BT,BT,BT,BT,BT,BT,BT,BT,BT,BT,BT,BT,BT,BT,BT,BT,BT]<|J ⟨I,I,I,I,⟨UC,I,UU,UA,ah _ _ _⟩,I,I,ag OM,ag OM,ag OM,ag OM,ag OM,I,rfl,rfl,rfl,rfl,rfl,rfl,rfl,I,rfl,rfl,rfl,rfl,rfl,rfl,rfl,rfl,I⟩ (W.cn<|J (fun _=>(g 10 11 []<|J UA (RT ?_))) (noF rfl)))))))) (noF SI)
   exact vbf (fX hup (kN ho1 (fun q=>hA q.worker)))
 have howed:∀ o∈b.owed,OwedOk b p.tasks o:=by rw[aE OM]at hc3;exact hc3
 have cj:=wY b p hc0 OM OM f3 f4 f7 g3
 by_cases hjobs:gY b p.tasks b.jobs.length
 ·rw[decide_eq_true hjobs]at cj
  conv=>whnf
  refine W.sq<|g 175 179 []<|J UE<|W.cn<|J (noT SI) fun _=>W.exit<|g 6 219 [.call VT [[],[]]]<|J Zar<|RT ?_
  exact vbt ⟨hc0,f6,f7,hk,fun _=>⟨f1,f2,f3,f4,f5,g1,g2,g3,g4,hjobs,hseats,howed⟩,fun e=>by rw[hup]at e;cases e⟩
 ·rw[decide_eq_false hjobs]at cj
  conv=>whnf
  refine W.sq<|g 175 179 []<|J UE<|W.cn<|J (noT SI) fun _=>W.exit<|g 6 219 [.call VF [[],[]]]<|J Zar<|RT ?_
  exact vbf (fX hup fun q=>hjobs q.jobs)
end Go.K
end
section
open Go Go.Tm Go.Proofs
namespace Go.K
structure Message where
 kind:Int
 frm:Int
 to:Int
 epoch:Int
 lease:Int
 task:Int
 text:ByteArray
 inputs:List ByteArray
 deriving DecidableEq
abbrev aH(x:Message):List T:=[.i x.kind,.i x.frm,.i x.to,.i x.epoch,.i x.lease,.i x.task,.s x.text,.slc [false] (x.inputs.map ak)]
abbrev en(x:Message):V:=.agg [.t (.i x.kind),.t (.i x.frm),.t (.i x.to),.t (.i x.epoch),.t (.i x.lease),.t (.i x.task),.t (.s x.text),.t (.slc [false] (x.inputs.map ak))]
abbrev bC(x:Message):V:=.agg [.t (.i x.kind),.t (.i x.frm),.t (.i x.to),.t (.i x.epoch),.t (.i x.lease),.t (.i x.task),.t (.s x.text),.own [false] (x.inputs.map ak)]
abbrev cK:List Bool:=[false,false,false,false,false,false,false,true]
abbrev NW:Message:=⟨0,0,0,0,0,0,emp,[]⟩
def D8(s:ByteArray):ByteArray:=bl (beL (fY h0v s) 8)
theorem eQ(s:ByteArray):(D8 s).size = 8:=by unfold D8;rw[gk,pj]
def nul:ByteArray:=⟨#[0]⟩
def eY(body key:ByteArray):ByteArray:=D8 (key++nul++body)
theorem Qr(body key:ByteArray):bl (beL (fY (fY (fY h0v key) nul) body) 8) = eY body key:=by unfold eY D8;rw[sy,sy]
theorem Jv(v:Int)(s:ByteArray)(h:0≤v∧v≤18446744073709551615):0≤fY v s∧fY v s≤18446744073709551615:=Ak _ _ h
theorem nD(body key:ByteArray)(h1:body.size≤9223372036854775807)(h2:key.size≤9223372036854775807):F HF [.val (.s body),.val (.s key)] (.s (eY body key)) [[],[]]:=by
 have hb:=Jv (fY (fY h0v key) nul) body (Jv _ _ (MD key))
 have e1:=gE h0v key
 have e2:=gE (fY h0v key) nul
 have e3:=gE (fY (fY h0v key) nul) body
 have c1:=dm h0v key h2
 rw[e1]at c1
 have c2:=dm (fY h0v key) nul (by decide)
 rw[e2]at c2
 have c3:=dm (fY (fY h0v key) nul) body h1
 rw[e3]at c3
 have c4:=li (fY (fY (fY h0v key) nul) body) hb.1 hb.2
 rw[Qr]at c4
 refine HV ?_
 conv=>whnf
 refine g 0 0 []<|J UA<|g 0 0 []<|J UV<|g 6 8 [.call (V.tup []) ([[u8v (fY h0v key)],[]])]<|J ⟨I,Zbz,I⟩<|g 1 2 [.call (V.tup []) ([[u8v (fY (fY h0v key) nul)],[]])]<|J ⟨Zbz,I⟩<|g 0 1 [.call (V.tup []) ([[u8v (fY (fY (fY h0v key) nul) body)],[]])]<|J ⟨I,Zbz,I⟩<|g 10 13 [.call (V.s (eY body key)) [[]]]<|J ⟨I,Zai,I,I⟩<|RT ?_
 rfl
def bO(m:Message):Prop:=(1≤m.epoch∧m.epoch≤300)∧
 ((m.kind = 1∧m.frm = 0∧(1≤m.to∧m.to≤8)∧(1≤m.lease∧m.lease≤300000000)∧(0≤m.task∧m.task≤39)∧m.text = emp∧eE m.inputs)∨
  (m.kind = 2∧m.to = 0∧(1≤m.frm∧m.frm≤8)∧(1≤m.lease∧m.lease≤300000000)∧m.task = 0∧m.text = emp∧(m.inputs.length:Int) = 0)∨
  (m.kind = 3∧m.to = 0∧(1≤m.frm∧m.frm≤8)∧(1≤m.lease∧m.lease≤300000000)∧(0≤m.task∧m.task≤39)∧(m.text.size:Int) = 8∧(m.inputs.length:Int) = 0)∨
  (m.kind = 4∧m.frm = 0∧(1≤m.to∧m.to≤8)∧(1≤m.lease∧m.lease≤300000000)∧m.task = 0∧m.text = emp∧(m.inputs.length:Int) = 0)∨
  (m.kind = 5∧m.to = 0∧(1≤m.frm∧m.frm≤8)∧m.lease = 0∧m.task = 0∧m.text = emp∧(m.inputs.length:Int) = 0))
instance (m:Message):Decidable (bO m):=by unfold bO;infer_instance
theorem cG(m:Message)(hl:m.inputs.length≤9223372036854775806):F mX [.val (en m)] (.b (decide (bO m))) [[]]:=by
 refine m8 ?_
 conv=>whnf
 refine g 0 1 []<|J ⟨UH,I,I⟩<|g 0 0 []<|J UE<|W.sq<|g 0 0 []<|J UB<|W.blk<|g 13 14 []<|J UB<|W.cn<|J (fun h1=>?_) fun h1=>?_
 replace h1:=dt h1
 refine rg []<|J UD<|gd 11 26 [[],[],[],[],[],[]] ?_
 conv=>whnf
 refine J UF<|J KR<|W.sq<|g 0 0 []<|J UA<|W.cn<|J (fun _=>(rgd [[],[],[],[],[],[]] ?_)) (noF rfl)
 conv=>whnf
 refine⟨UF,by kernel_rfl,?_⟩
 refine W.sq ?_
 by_cases h2:Message.frm m = (0:Int)
 by_cases h3:(1:Int)≤Message.to m∧Message.to m≤(8:Int)
 refine g 26 43 [BF,BF,.call (V.b (decide (1≤m.to∧m.to≤8))) [[],[],[]],BF,BF,BF,BF,BF,.call (V.b (decide (1≤m.epoch∧m.epoch≤300))) [[],[],[]],BF,BF]<|J ⟨I,I,I,⟨nO,I⟩,⟨nO,UC,I,UU,UA,aa _ _ _⟩,⟨nO,I⟩,nO,I,⟨nO,I⟩,⟨nO,I⟩,⟨nO,UC,I,UU,UA,aa _ _ _⟩,⟨nO,I⟩,nO,I⟩<|W.cn<|J (fun h4=>?_) fun h4=>?_
 replace h4:=ndt h4
 refine g 8 9 []<|J UA<|RT ?_
 rotate_left
 replace h4:=ndf h4
 refine W.skip<|W.sq ?_
 by_cases h5:(1:Int)≤Message.lease m∧Message.lease m≤(300000000:Int)
 refine g 43 59 [BT,BT,BT,.call (V.b (decide (1≤m.lease∧m.lease≤300000000))) [[],[],[]],BT,BT,BF,BF,BF,BF,BF,BF,BF,BF,BF]<|J ⟨I,I,Zdc,Zdc,⟨rfl,UC,I,UU,UA,aa _ _ _⟩,Zdc,rfl,I,⟨nO,I⟩,⟨nO,I⟩,⟨nO,I⟩,rfl,rfl,rfl,⟨nO,rfl⟩,nO,I⟩<|W.cn<|J (noT rfl) fun _=>W.skip<|W.sq ?_
 by_cases h6:(0:Int)≤Message.task m∧Message.task m≤(39:Int)
 refine g 59 75 [BT,BT,BT,.call (V.b (decide (0≤m.task∧m.task≤39))) [[],[],[]],BT,BT,BF,BF,BF,BF,BF,BF,BF,BF,BF]<|J ⟨I,I,Zdc,Zdc,⟨rfl,UC,I,UU,UA,aa _ _ _⟩,Zdc,rfl,I,⟨nO,I⟩,⟨nO,I⟩,⟨nO,I⟩,rfl,rfl,rfl,⟨nO,rfl⟩,nO,I⟩<|W.cn<|J (noT rfl) fun _=>W.skip<|W.sq<|g 10 91 [BF,BF,BF,BF,BF,BF,BF,BF,BT,BT,BT,BF,BT,BF]<|J Zaq<|W.cn<|J (fun h7=>?_) fun h7=>?_
 replace h7:=ndt h7
 refine g 7 9 []<|J UA<|RT ?_
 rotate_left
 replace h7:=ndf h7
 refine W.skip ?_
 by_cases h8:eE (Message.inputs m)
 refine g 5 108 [BT,BT,BT,.call (V.b (decide (eE m.inputs))) [[]],BT,BT,BT,BT,BF,BF,BF,BF,BT,BT]<|J ⟨I,I,Zdc,Zdc,⟨rfl,UA,I,US,UA,hL _ OM⟩,rfl,I,tO,tO,tO,I,I,I,I,tO,tO,I,I⟩<|RT ?_
 rotate_left
 refine g 5 108 [BT,BT,BT,.call (V.b (decide (eE m.inputs))) [[]],BT,BF,BF,BF,BF,BF,BF,BF,BF,BF,BF]<|J ⟨I,I,Zdc,Zdc,⟨rfl,UA,I,US,UA,hL _ OM⟩,rfl,I,⟨dO,I⟩,⟨dO,I⟩,⟨dO,I⟩,rfl,rfl,rfl,rfl,⟨dO,rfl⟩,dO,I,I⟩<|RT ?_
 rotate_left
 refine g 59 75 [BT,BT,BT,.call (V.b (decide (0≤m.task∧m.task≤39))) [[],[],[]],BT,BT,BT,BT,BT,BF,BF,BF,BT,BT]<|J ⟨I,I,Zdc,Zdc,⟨rfl,UC,I,UU,UA,aa _ _ _⟩,Zdc,rfl,I,ag OM,ag OM,ag OM,I,I,I,ag OM,ag OM,I⟩<|W.cn<|J (fun _=>(g 3 4 []<|J UA (RT ?_))) (noF rfl)
 rotate_left
 refine g 43 59 [BT,BT,BT,.call (V.b (decide (1≤m.lease∧m.lease≤300000000))) [[],[],[]],BT,BT,BT,BT,BT,BF,BF,BF,BT,BT]<|J ⟨I,I,Zdc,Zdc,⟨rfl,UC,I,UU,UA,aa _ _ _⟩,Zdc,rfl,I,ag OM,ag OM,ag OM,I,I,I,ag OM,ag OM,I⟩<|W.cn<|J (fun _=>(g 3 4 []<|J UA (RT ?_))) (noF rfl)
 rotate_left
 refine g 26 43 [BF,BF,.call (V.b (decide (1≤m.to∧m.to≤8))) [[],[],[]],BF,BF,BT,BT,BT,BT,BT]<|J ⟨I,I,I,⟨nO,I⟩,⟨nO,UC,I,UU,UA,aa _ _ _⟩,⟨nO,I⟩,nO,I,ag OM,ag OM,ag OM,ag OM,ag OM,I⟩<|W.cn<|J (fun _=>(g 8 9 []<|J UA (RT ?_))) (noF rfl)
 rotate_left
 refine g 26 43 [BT,BT,BT,BT,BT,BT,BT,BT,BT]<|J Zb5<|W.cn<|J (fun _=>(g 8 9 []<|J UA (RT ?_))) (noF rfl)
 rotate_left
 replace h1:=df h1
 refine g 12 13 []<|J UB<|W.cn<|J (fun h2=>?_) fun h2=>?_
 replace h2:=dt h2
 refine rg []<|J UA<|gd 11 26 [[],[],[],[],[],[]] ?_
 conv=>whnf
 refine J UF<|J KR<|W.sq<|g 0 0 []<|J UA<|W.cn<|J (noT rfl) fun _=>W.skip<|W.sq ?_
 by_cases h3:Message.to m = (0:Int)
 by_cases h4:(1:Int)≤Message.frm m∧Message.frm m≤(8:Int)
 refine g 26 43 [BF,BF,.call (V.b (decide (1≤m.frm∧m.frm≤8))) [[],[],[]],BF,BF,BF,BF,BF,.call (V.b (decide (1≤m.epoch∧m.epoch≤300))) [[],[],[]],BF,BF]<|J ⟨I,I,I,⟨nO,I⟩,⟨nO,UC,I,UU,UA,aa _ _ _⟩,⟨nO,I⟩,nO,I,⟨nO,I⟩,⟨nO,I⟩,⟨nO,UC,I,UU,UA,aa _ _ _⟩,⟨nO,I⟩,nO,I⟩<|W.cn<|J (fun h5=>?_) fun h5=>?_
 replace h5:=ndt h5
 refine g 8 9 []<|J UA<|RT ?_
 rotate_left
 replace h5:=ndf h5
 refine W.skip<|W.sq ?_
 by_cases h6:(1:Int)≤Message.lease m∧Message.lease m≤(300000000:Int)
 refine g 43 59 [BT,BT,BT,.call (V.b (decide (1≤m.lease∧m.lease≤300000000))) [[],[],[]],BT,BT,BF,BF,BF,BF,BF,BF,BF,BF,BF]<|J ⟨I,I,Zdc,Zdc,⟨rfl,UC,I,UU,UA,aa _ _ _⟩,Zdc,rfl,I,⟨nO,I⟩,⟨nO,I⟩,⟨nO,I⟩,rfl,rfl,rfl,⟨nO,rfl⟩,nO,I⟩<|W.cn<|J (noT rfl) fun _=>W.skip<|W.sq<|g 59 75 [BF,BF,BF,BF,BF,BF,BF,BF,BT,BT,BT,BF,BT,BF]<|J Zaq<|W.cn<|J (fun h7=>?_) fun h7=>?_
 replace h7:=ndt h7
 refine g 3 4 []<|J UA<|RT ?_
 rotate_left
 replace h7:=ndf h7
 refine W.skip<|W.sq<|g 10 91 [BF,BF,BF,BF,BF,BF,BF,BF,BT,BT,BT,BF,BT,BF]<|J Zaq<|W.cn<|J (fun h8=>?_) fun h8=>?_
 replace h8:=ndt h8
 refine g 7 9 []<|J UA<|RT ?_
 rotate_left
 replace h8:=ndf h8
 refine W.skip<|g 5 108 [BF,BF,BF,BF,BF,BF,BF,BT,BT,BT,BT,BF,BT,BF]<|J Zbh<|RT ?_
 rotate_left
 refine g 43 59 [BT,BT,BT,.call (V.b (decide (1≤m.lease∧m.lease≤300000000))) [[],[],[]],BT,BT,BT,BT,BT,BF,BF,BF,BT,BT]<|J ⟨I,I,Zdc,Zdc,⟨rfl,UC,I,UU,UA,aa _ _ _⟩,Zdc,rfl,I,ag OM,ag OM,ag OM,I,I,I,ag OM,ag OM,I⟩<|W.cn<|J (fun _=>(g 3 4 []<|J UA (RT ?_))) (noF rfl)
 rotate_left
 refine g 26 43 [BF,BF,.call (V.b (decide (1≤m.frm∧m.frm≤8))) [[],[],[]],BF,BF,BT,BT,BT,BT,BT]<|J ⟨I,I,I,⟨nO,I⟩,⟨nO,UC,I,UU,UA,aa _ _ _⟩,⟨nO,I⟩,nO,I,ag OM,ag OM,ag OM,ag OM,ag OM,I⟩<|W.cn<|J (fun _=>(g 8 9 []<|J UA (RT ?_))) (noF rfl)
 rotate_left
 refine g 26 43 [BT,BT,BT,BT,BT,BT,BT,BT,BT]<|J Zb5<|W.cn<|J (fun _=>(g 8 9 []<|J UA (RT ?_))) (noF rfl)
 rotate_left
 replace h2:=df h2
 refine g 14 16 []<|J UB<|W.cn<|J (fun h3=>?_) fun h3=>?_
 replace h3:=dt h3
 refine rg []<|J UC<|gd 11 26 [[],[],[],[],[],[]] ?_
 conv=>whnf
 refine J UF<|J KR<|W.sq<|g 0 0 []<|J UA<|W.cn<|J (noT rfl) fun _=>W.skip<|W.sq ?_
 by_cases h4:Message.to m = (0:Int)
 by_cases h5:(1:Int)≤Message.frm m∧Message.frm m≤(8:Int)
 refine g 26 43 [BF,BF,.call (V.b (decide (1≤m.frm∧m.frm≤8))) [[],[],[]],BF,BF,BF,BF,BF,.call (V.b (decide (1≤m.epoch∧m.epoch≤300))) [[],[],[]],BF,BF]<|J ⟨I,I,I,⟨nO,I⟩,⟨nO,UC,I,UU,UA,aa _ _ _⟩,⟨nO,I⟩,nO,I,⟨nO,I⟩,⟨nO,I⟩,⟨nO,UC,I,UU,UA,aa _ _ _⟩,⟨nO,I⟩,nO,I⟩<|W.cn<|J (fun h6=>?_) fun h6=>?_
 replace h6:=ndt h6
 refine g 8 9 []<|J UA<|RT ?_
 rotate_left
 replace h6:=ndf h6
 refine W.skip<|W.sq ?_
 by_cases h7:(1:Int)≤Message.lease m∧Message.lease m≤(300000000:Int)
 refine g 43 59 [BT,BT,BT,.call (V.b (decide (1≤m.lease∧m.lease≤300000000))) [[],[],[]],BT,BT,BF,BF,BF,BF,BF,BF,BF,BF,BF]<|J ⟨I,I,Zdc,Zdc,⟨rfl,UC,I,UU,UA,aa _ _ _⟩,Zdc,rfl,I,⟨nO,I⟩,⟨nO,I⟩,⟨nO,I⟩,rfl,rfl,rfl,⟨nO,rfl⟩,nO,I⟩<|W.cn<|J (noT rfl) fun _=>W.skip<|W.sq ?_
 by_cases h8:(0:Int)≤Message.task m∧Message.task m≤(39:Int)
 refine g 59 75 [BT,BT,BT,.call (V.b (decide (0≤m.task∧m.task≤39))) [[],[],[]],BT,BT,BF,BF,BF,BF,BF,BF,BF,BF,BF]<|J ⟨I,I,Zdc,Zdc,⟨rfl,UC,I,UU,UA,aa _ _ _⟩,Zdc,rfl,I,⟨nO,I⟩,⟨nO,I⟩,⟨nO,I⟩,rfl,rfl,rfl,⟨nO,rfl⟩,nO,I⟩<|W.cn<|J (noT rfl) fun _=>W.skip<|W.sq ?_
 by_cases h9:(↑(ByteArray.size (Message.text m)):Int) = (8:Int)
 refine g 10 91 [BT,BT,BT,BT,BT,BF,BF,BF,BF,BF,BF,BF,BF,BF]<|J ⟨I,I,Zdc,Zdc,Zdc,Zdc,rfl,I,⟨nO,I⟩,⟨nO,I⟩,⟨nO,I⟩,rfl,rfl,rfl,⟨nO,rfl⟩,nO,I⟩<|W.cn<|J (noT rfl) fun _=>W.skip<|g 5 108 [BF,BF,BF,BF,BF,BF,BF,BT,BT,BT,BT,BF,BT,BF]<|J Zbh<|RT ?_
 rotate_left
 refine g 10 91 [BT,BT,BT,BT,BT,BT,BT,BT,BF,BF,BF,BT,BT]<|J ⟨I,I,Zdc,Zdc,Zdc,Zdc,rfl,I,ag OM,ag OM,ag OM,I,I,I,ag OM,ag OM,I⟩<|W.cn<|J (fun _=>(g 7 9 []<|J UA (RT ?_))) (noF rfl)
 rotate_left
 refine g 59 75 [BT,BT,BT,.call (V.b (decide (0≤m.task∧m.task≤39))) [[],[],[]],BT,BT,BT,BT,BT,BF,BF,BF,BT,BT]<|J ⟨I,I,Zdc,Zdc,⟨rfl,UC,I,UU,UA,aa _ _ _⟩,Zdc,rfl,I,ag OM,ag OM,ag OM,I,I,I,ag OM,ag OM,I⟩<|W.cn<|J (fun _=>(g 3 4 []<|J UA (RT ?_))) (noF rfl)
 rotate_left
 refine g 43 59 [BT,BT,BT,.call (V.b (decide (1≤m.lease∧m.lease≤300000000))) [[],[],[]],BT,BT,BT,BT,BT,BF,BF,BF,BT,BT]<|J ⟨I,I,Zdc,Zdc,⟨rfl,UC,I,UU,UA,aa _ _ _⟩,Zdc,rfl,I,ag OM,ag OM,ag OM,I,I,I,ag OM,ag OM,I⟩<|W.cn<|J (fun _=>(g 3 4 []<|J UA (RT ?_))) (noF rfl)
 rotate_left
 refine g 26 43 [BF,BF,.call (V.b (decide (1≤m.frm∧m.frm≤8))) [[],[],[]],BF,BF,BT,BT,BT,BT,BT]<|J ⟨I,I,I,⟨nO,I⟩,⟨nO,UC,I,UU,UA,aa _ _ _⟩,⟨nO,I⟩,nO,I,ag OM,ag OM,ag OM,ag OM,ag OM,I⟩<|W.cn<|J (fun _=>(g 8 9 []<|J UA (RT ?_))) (noF rfl)
 rotate_left
 refine g 26 43 [BT,BT,BT,BT,BT,BT,BT,BT,BT]<|J Zb5<|W.cn<|J (fun _=>(g 8 9 []<|J UA (RT ?_))) (noF rfl)
 rotate_left
 replace h3:=df h3
 refine g 16 18 []<|J UB<|W.cn<|J (fun h4=>?_) fun h4=>?_
 replace h4:=dt h4
 refine rg []<|J UB<|gd 11 26 [[],[],[],[],[],[]] ?_
 conv=>whnf
 refine J UF<|J KR<|W.sq<|g 0 0 []<|J UA<|W.cn<|J (fun _=>(rgd [[],[],[],[],[],[]] ?_)) (noF rfl)
 conv=>whnf
 refine⟨UF,by kernel_rfl,?_⟩
 refine W.sq ?_
 by_cases h5:Message.frm m = (0:Int)
 by_cases h6:(1:Int)≤Message.to m∧Message.to m≤(8:Int)
 refine g 26 43 [BF,BF,.call (V.b (decide (1≤m.to∧m.to≤8))) [[],[],[]],BF,BF,BF,BF,BF,.call (V.b (decide (1≤m.epoch∧m.epoch≤300))) [[],[],[]],BF,BF]<|J ⟨I,I,I,⟨nO,I⟩,⟨nO,UC,I,UU,UA,aa _ _ _⟩,⟨nO,I⟩,nO,I,⟨nO,I⟩,⟨nO,I⟩,⟨nO,UC,I,UU,UA,aa _ _ _⟩,⟨nO,I⟩,nO,I⟩<|W.cn<|J (fun h7=>?_) fun h7=>?_
 replace h7:=ndt h7
 refine g 8 9 []<|J UA<|RT ?_
 rotate_left
 replace h7:=ndf h7
 refine W.skip<|W.sq ?_
 by_cases h8:(1:Int)≤Message.lease m∧Message.lease m≤(300000000:Int)
 refine g 43 59 [BT,BT,BT,.call (V.b (decide (1≤m.lease∧m.lease≤300000000))) [[],[],[]],BT,BT,BF,BF,BF,BF,BF,BF,BF,BF,BF]<|J ⟨I,I,Zdc,Zdc,⟨rfl,UC,I,UU,UA,aa _ _ _⟩,Zdc,rfl,I,⟨nO,I⟩,⟨nO,I⟩,⟨nO,I⟩,rfl,rfl,rfl,⟨nO,rfl⟩,nO,I⟩<|W.cn<|J (noT rfl) fun _=>W.skip<|W.sq<|g 59 75 [BF,BF,BF,BF,BF,BF,BF,BF,BT,BT,BT,BF,BT,BF]<|J Zaq<|W.cn<|J (fun h9=>?_) fun h9=>?_
 replace h9:=ndt h9
 refine g 3 4 []<|J UA<|RT ?_
 rotate_left
 replace h9:=ndf h9
 refine W.skip<|W.sq<|g 10 91 [BF,BF,BF,BF,BF,BF,BF,BF,BT,BT,BT,BF,BT,BF]<|J Zaq<|W.cn<|J (fun h10=>?_) fun h10=>?_
 replace h10:=ndt h10
 refine g 7 9 []<|J UA<|RT ?_
 rotate_left
 replace h10:=ndf h10
 refine W.skip<|g 5 108 [BF,BF,BF,BF,BF,BF,BF,BT,BT,BT,BT,BF,BT,BF]<|J Zbh<|RT ?_
 rotate_left
 refine g 43 59 [BT,BT,BT,.call (V.b (decide (1≤m.lease∧m.lease≤300000000))) [[],[],[]],BT,BT,BT,BT,BT,BF,BF,BF,BT,BT]<|J ⟨I,I,Zdc,Zdc,⟨rfl,UC,I,UU,UA,aa _ _ _⟩,Zdc,rfl,I,ag OM,ag OM,ag OM,I,I,I,ag OM,ag OM,I⟩<|W.cn<|J (fun _=>(g 3 4 []<|J UA (RT ?_))) (noF rfl)
 rotate_left
 refine g 26 43 [BF,BF,.call (V.b (decide (1≤m.to∧m.to≤8))) [[],[],[]],BF,BF,BT,BT,BT,BT,BT]<|J ⟨I,I,I,⟨nO,I⟩,⟨nO,UC,I,UU,UA,aa _ _ _⟩,⟨nO,I⟩,nO,I,ag OM,ag OM,ag OM,ag OM,ag OM,I⟩<|W.cn<|J (fun _=>(g 8 9 []<|J UA (RT ?_))) (noF rfl)
 rotate_left
 refine g 26 43 [BT,BT,BT,BT,BT,BT,BT,BT,BT]<|J Zb5<|W.cn<|J (fun _=>(g 8 9 []<|J UA (RT ?_))) (noF rfl)
 rotate_left
 replace h4:=df h4
 refine g 11 20 []<|J UB<|W.cn<|J (fun h5=>?_) fun h5=>?_
 replace h5:=dt h5
 refine W.skip<|gd 20 26 [[],[],[],[],[],[]] ?_
 conv=>whnf
 refine J UF<|J KR<|W.sq<|g 0 0 []<|J UA<|W.cn<|J (noT rfl) fun _=>W.skip<|W.sq ?_
 by_cases h6:Message.to m = (0:Int)
 by_cases h7:(1:Int)≤Message.frm m∧Message.frm m≤(8:Int)
 refine g 26 43 [BF,BF,.call (V.b (decide (1≤m.frm∧m.frm≤8))) [[],[],[]],BF,BF,BF,BF,BF,.call (V.b (decide (1≤m.epoch∧m.epoch≤300))) [[],[],[]],BF,BF]<|J ⟨I,I,I,⟨nO,I⟩,⟨nO,UC,I,UU,UA,aa _ _ _⟩,⟨nO,I⟩,nO,I,⟨nO,I⟩,⟨nO,I⟩,⟨nO,UC,I,UU,UA,aa _ _ _⟩,⟨nO,I⟩,nO,I⟩<|W.cn<|J (fun h8=>?_) fun h8=>?_
 replace h8:=ndt h8
 refine g 8 9 []<|J UA<|RT ?_
 rotate_left
 replace h8:=ndf h8
 refine W.skip<|W.sq<|g 43 59 [BF,BF,BF,BF,BF,BF,BF,BF,BT,BT,BT,BF,BT,BF]<|J Zaq<|W.cn<|J (fun h9=>?_) fun h9=>?_
 replace h9:=ndt h9
 refine g 3 4 []<|J UA<|RT ?_
 rotate_left
 replace h9:=ndf h9
 refine W.skip<|W.sq<|g 59 75 [BF,BF,BF,BF,BF,BF,BF,BF,BT,BT,BT,BF,BT,BF]<|J Zaq<|W.cn<|J (fun h10=>?_) fun h10=>?_
 replace h10:=ndt h10
 refine g 3 4 []<|J UA<|RT ?_
 rotate_left
 replace h10:=ndf h10
 refine W.skip<|W.sq<|g 10 91 [BF,BF,BF,BF,BF,BF,BF,BF,BT,BT,BT,BF,BT,BF]<|J Zaq<|W.cn<|J (fun h11=>?_) fun h11=>?_
 replace h11:=ndt h11
 refine g 7 9 []<|J UA<|RT ?_
 rotate_left
 replace h11:=ndf h11
 refine W.skip<|g 5 108 [BF,BF,BF,BF,BF,BF,BF,BT,BT,BT,BT,BF,BT,BF]<|J Zbh<|RT ?_
 rotate_left
 refine g 26 43 [BF,BF,.call (V.b (decide (1≤m.frm∧m.frm≤8))) [[],[],[]],BF,BF,BT,BT,BT,BT,BT]<|J ⟨I,I,I,⟨nO,I⟩,⟨nO,UC,I,UU,UA,aa _ _ _⟩,⟨nO,I⟩,nO,I,ag OM,ag OM,ag OM,ag OM,ag OM,I⟩<|W.cn<|J (fun _=>(g 8 9 []<|J UA (RT ?_))) (noF rfl)
 rotate_left
 refine g 26 43 [BT,BT,BT,BT,BT,BT,BT,BT,BT]<|J Zb5<|W.cn<|J (fun _=>(g 8 9 []<|J UA (RT ?_))) (noF rfl)
 rotate_left
 replace h5:=df h5
 refine g 20 22 []<|J UA<|RT ?_
 rotate_left
 all_goals (try simp only[List.length_map,decide_eq_true_eq,Bool.not_eq_true,Bool.not_eq_true',decide_eq_false_iff_not]at *)
 all_goals first
  |exact vbf (by unfold bO;grind)
  |exact vbt (by unfold bO;grind)
  |exact vbd (by unfold bO;grind)
theorem tup5{a b c d e a' b' c' d' e':Bool}(h1:a = a')(h2:b = b')(h3:c = c')(h4:d = d')(h5:e = e'):V.tup [V.t (T.v (Value.bool a)),V.t (T.v (Value.bool b)),V.t (T.v (Value.bool c)),V.t (T.v (Value.bool d)),V.t (T.v (Value.bool e))] = V.tup [.b a',.b b',.b c',.b d',.b e']:=by subst h1;subst h2;subst h3;subst h4;subst h5;rfl
theorem pd(k:Int):F BC [.val (.i k)] (.tup [.b (decide (1≤k∧k≤4)),.b (decide (k = 1∨k = 3)),.b (decide (k = 3)),.b (decide (k = 1)),.b (decide (k = 1∨k = 4))]) [[]]:=by
 refine Cj ?_
 conv=>whnf
 refine g 0 0 []<|J UE<|W.sq<|g 0 1 []<|J UA<|W.blk<|g 9 10 []<|J UB<|W.cn<|J (fun h1=>?_) fun h1=>?_
 replace h1:=dt h1
 refine g 7 9 []<|J UE<|RT ?_
 rotate_left
 replace h1:=df h1
 refine g 8 9 []<|J UB<|W.cn<|J (fun h2=>?_) fun h2=>?_
 replace h2:=dt h2
 refine g 7 12 []<|J UE<|RT ?_
 rotate_left
 replace h2:=df h2
 refine g 10 12 []<|J UB<|W.cn<|J (fun h3=>?_) fun h3=>?_
 replace h3:=dt h3
 refine g 7 14 []<|J UE<|RT ?_
 rotate_left
 replace h3:=df h3
 refine g 7 14 []<|J UB<|W.cn<|J (fun h4=>?_) fun h4=>?_
 replace h4:=dt h4
 refine g 14 16 []<|J UE<|RT ?_
 rotate_left
 replace h4:=df h4
 refine W.skip<|g 14 16 []<|J UE<|RT ?_
 rotate_left
 all_goals exact tup5 (by grind) (by grind) (by grind) (by grind) (by grind)
end Go.K
end
section
open Go Go.Tm Go.Proofs
namespace Go.K
theorem nC(m:Message)(hl:m.inputs.length≤9223372036854775806):F Hz [.val (en m)] (.b (decide (bO m))) [[]]:=by
 refine HR ?_
 conv=>whnf
 refine g 0 1 []<|J ⟨UH,I,I⟩<|W.sq ?_
 by_cases h1:(1:Int)≤Message.kind m∧Message.kind m≤(5:Int)
 refine g 13 15 [.call (V.b (decide (1≤m.kind∧m.kind≤5))) [[],[],[]],BF,BF,BF,.call (V.b (decide (1≤m.epoch∧m.epoch≤300))) [[],[],[]],BF,BF]<|J ⟨I,I,⟨UC,I,UU,UA,ah _ _ _⟩,I,I,⟨nO,I⟩,⟨nO,I⟩,⟨nO,UC,I,UU,UA,ah _ _ _⟩,⟨nO,I⟩,nO,I⟩<|W.cn<|J (fun h2=>?_) fun h2=>?_
 replace h2:=ndt h2
 refine g 8 9 []<|J UA<|RT ?_
 rotate_left
 replace h2:=ndf h2
 refine W.skip<|g 20 25 [.call (V.tup [V.b (decide (1≤m.kind∧m.kind≤4)),V.b (decide (m.kind = 1∨m.kind = 3)),V.b (decide (m.kind = 3)),V.b (decide (m.kind = 1)),V.b (decide (m.kind = 1∨m.kind = 4))]) [[]]]<|J ⟨I,I,⟨UA,I,US,UA,pd _⟩,I,I,I,I,I,I,I,I,I,I,I,I⟩<|W.sq ?_
 by_cases h3:Message.kind m = (1:Int)∨Message.kind m = (4:Int)
 by_cases h4:Message.frm m = (0:Int)
 by_cases h5:(1:Int)≤Message.to m∧Message.to m≤(8:Int)
 refine g 29 53 [BT,BT,BT,BT,BF,BF,BF,.call (V.b (decide (1≤m.to∧m.to≤8))) [[],[],[]],BF,BT,BF,BT,BF,BF,BF,BF,BF,BF,BF,BF,BF,BF,BF,BF,BF,BF,BF]<|J ⟨I,I,⟨tO,I⟩,⟨tO,I⟩,⟨tO,I⟩,⟨tO,I⟩,⟨nO,I⟩,⟨nO,I⟩,⟨nO,UC,I,UU,UA,ah _ _ _⟩,⟨nO,I⟩,⟨tO,nO⟩,tO,I,⟨nO,I⟩,⟨nO,I⟩,⟨nO,I⟩,nO,nO,nO,nO,I,I,I,I,nO,⟨nO,nO⟩,nO,I⟩<|W.cn<|J (noT rfl) fun _=>W.skip<|W.sq ?_
 by_cases h6:(1:Int)≤Message.lease m∧Message.lease m≤(300000000:Int)
 by_cases h7:Message.kind m = (1:Int)∨Message.kind m = (3:Int)
 by_cases h8:(0:Int)≤Message.task m∧Message.task m≤(39:Int)
 refine g 11 87 [BT,BT,BT,.call (V.b (decide (1≤m.lease∧m.lease≤300000000))) [[]],BT,BT,BF,BF,BF,BF,BF,BF,BF,BF,BF,BF,BF,BT,BT,BT,.call (V.b (decide (0≤m.task∧m.task≤39))) [[],[],[]],BT,BF,BT,BF,BF,BF,BF,BF,BF,BF,BF,BF,BF] ?_
 conv=>whnf
 refine J ⟨I,I,⟨tO,I⟩,⟨tO,I⟩,⟨tO,UA,I,US,UA,aA _⟩,⟨tO,I⟩,tO,I,⟨nO,I⟩,⟨nO,I⟩,⟨nO,I⟩,nO,nO,nO,⟨nO,nO⟩,nO,I,Zdc,Zdc,⟨tO,I⟩,⟨tO,I⟩,⟨tO,UC,I,UU,UA,ah _ _ _⟩,⟨tO,I⟩,⟨rfl,tO⟩,rfl,I,⟨nO,I⟩,⟨nO,I⟩,⟨nO,I⟩,nO,nO,nO,⟨nO,nO⟩,nO,I⟩<|W.cn<|J (noT rfl) fun _=>W.skip<|W.sq<|g 10 103 [BF,BF,BF,BF,BF,BF,BF,BF,BT,BT,BT,BF,BT,BF]<|J Zeo<|W.cn<|J (fun h9=>?_) fun h9=>?_
 replace h9:=ndt h9
 refine g 7 9 []<|J UA<|RT ?_
 rotate_left
 replace h9:=ndf h9
 refine W.skip ?_
 by_cases h10:eE (Message.inputs m)
 refine g 5 120 [BT,BT,BT,.call (V.b (decide (eE m.inputs))) [[]],BT,BT,BT,BT,BF,BF,BF,BF,BT,BT]<|J ⟨I,I,⟨tO,I⟩,⟨tO,I⟩,⟨tO,UA,I,US,UA,eN _ OM⟩,tO,I,tO,tO,tO,I,I,I,I,tO,tO,I,I⟩<|RT ?_
 rotate_left
 refine g 5 120 [BT,BT,BT,.call (V.b (decide (eE m.inputs))) [[]],BT,BF,BF,BF,BF,BF,BF,BF,BF,BF,BF]<|J ⟨I,I,⟨tO,I⟩,⟨tO,I⟩,⟨tO,UA,I,US,UA,eN _ OM⟩,tO,I,⟨dO,I⟩,⟨dO,I⟩,⟨dO,I⟩,nO,nO,nO,nO,⟨dO,nO⟩,dO,I,I⟩<|RT ?_
 rotate_left
 refine g 11 87 [BT,BT,BT,.call (V.b (decide (1≤m.lease∧m.lease≤300000000))) [[]],BT,BT,BF,BF,BF,BF,BF,BF,BF,BF,BF,BF,BF,BT,BT,BT,.call (V.b (decide (0≤m.task∧m.task≤39))) [[],[],[]],BT,BF,BT,BF,BT,BT,BT,BF,BF,BF,BT,BT] ?_
 conv=>whnf
 refine J ⟨I,I,⟨tO,I⟩,⟨tO,I⟩,⟨tO,UA,I,US,UA,aA _⟩,⟨tO,I⟩,tO,I,⟨nO,I⟩,⟨nO,I⟩,⟨nO,I⟩,nO,nO,nO,⟨nO,nO⟩,nO,I,Zdc,Zdc,⟨tO,I⟩,⟨tO,I⟩,⟨tO,UC,I,UU,UA,ah _ _ _⟩,⟨tO,I⟩,⟨rfl,tO⟩,rfl,I,ag OM,ag OM,ag OM,I,I,I,ag OM,ag OM,I⟩<|W.cn<|J (fun _=>(g 3 4 []<|J UA (RT ?_))) (noF rfl)
 rotate_left
 refine g 11 87 [BT,BT,BT,.call (V.b (decide (1≤m.lease∧m.lease≤300000000))) [[]],BT,BT,BF,BF,BF,BF,BF,BF,BF,BF,BF,BF,BF,BF,BF,BF,BF,BF,BF,BF,BF,BF,BF,BT,BT,BT,BF,BT,BF] ?_
 conv=>whnf
 refine J ⟨I,I,⟨tO,I⟩,⟨tO,I⟩,⟨tO,UA,I,US,UA,aA _⟩,⟨tO,I⟩,tO,I,⟨nO,I⟩,⟨nO,I⟩,⟨nO,I⟩,nO,nO,nO,⟨nO,nO⟩,nO,I,Zdc,Zdc,dO,dO,dO,dO,⟨rfl,dO⟩,rfl,I,Zdc,Zdc,Zdc,Zaf,Zaf,Zaf,Zcx,rfl,I⟩<|W.cn<|J (fun h8=>?_) fun h8=>?_
 replace h8:=ndt h8
 refine g 3 4 []<|J UA<|RT ?_
 rotate_left
 replace h8:=ndf h8
 refine W.skip<|W.sq<|g 10 103 [BF,BF,BF,BF,BF,BF,BF,BF,BT,BT,BT,BF,BT,BF]<|J Zeo<|W.cn<|J (fun h9=>?_) fun h9=>?_
 replace h9:=ndt h9
 refine g 7 9 []<|J UA<|RT ?_
 rotate_left
 replace h9:=ndf h9
 refine W.skip<|g 5 120 [BF,BF,BF,BF,BF,BF,BF,BT,BT,BT,BT,BF,BT,BF]<|J Zen<|RT ?_
 rotate_left
 refine g 11 87 [BT,BT,BT,.call (V.b (decide (1≤m.lease∧m.lease≤300000000))) [[]],BT,BT,BT,BT,BT,BF,BF,BF,BT,BT,BT,BT,BF,BF,BF,BF,BT,BT,BT,BT,BT,BF,BF,BF,BT,BT] ?_
 conv=>whnf
 refine J ⟨I,I,⟨tO,I⟩,⟨tO,I⟩,⟨tO,UA,I,US,UA,aA _⟩,⟨tO,I⟩,tO,I,ag OM,ag OM,ag OM,I,I,I,ag OM,ag OM,I,rfl,rfl,I,I,I,I,rfl,rfl,I,rfl,rfl,rfl,I,I,I,rfl,rfl,I⟩<|W.cn<|J (fun _=>(g 3 4 []<|J UA (RT ?_))) (noF rfl)
 rotate_left
 refine g 29 53 [BT,BT,BT,BT,BF,BF,BF,.call (V.b (decide (1≤m.to∧m.to≤8))) [[],[],[]],BF,BT,BF,BT,BT,BT,BT,BF,BF,BF,BF,BF,BF,BF,BF,BF,BT,BT]<|J ⟨I,I,⟨tO,I⟩,⟨tO,I⟩,⟨tO,I⟩,⟨tO,I⟩,⟨nO,I⟩,⟨nO,I⟩,⟨nO,UC,I,UU,UA,ah _ _ _⟩,⟨nO,I⟩,⟨tO,nO⟩,tO,I,ag OM,ag OM,ag OM,I,I,I,I,I,I,I,I,I,ag OM,ag OM,I⟩<|W.cn<|J (fun _=>(g 11 16 []<|J UA (RT ?_))) (noF rfl)
 rotate_left
 refine g 29 53 [BT,BT,BT,BT,BT,BT,BT,BT,BT,BT,BT,BT,BT,BT,BF,BF,BF,BF,BF,BF,BF,BF,BF,BT,BT]<|J ⟨I,I,⟨tO,I⟩,⟨tO,I⟩,⟨tO,I⟩,⟨tO,I⟩,ag OM,ag OM,ag OM,ag OM,⟨tO,ag OM⟩,tO,I,rfl,rfl,rfl,I,I,I,I,I,I,I,I,I,rfl,rfl,I⟩<|W.cn<|J (fun _=>(g 11 16 []<|J UA (RT ?_))) (noF rfl)
 rotate_left
 by_cases h4:Message.to m = (0:Int)
 refine g 29 53 [BF,BF,BF,BF,BF,BF,BF,BF,BF,BF,BF,BF,BF,BT,BT,BT,BT,BF,BF,BF,.call (V.b (decide (1≤m.frm∧m.frm≤8))) [[],[],[]],BF,BT,BF,BF,BT,BF]<|J ⟨I,I,dO,dO,dO,dO,I,I,I,I,dO,dO,I,Zdc,Zdc,Zdc,Zaf,Zaf,Zaf,Zaf,⟨nO,I⟩,⟨nO,I⟩,⟨nO,UC,I,UU,UA,ah _ _ _⟩,⟨nO,I⟩,⟨ag OM,nO⟩,Zcx,rfl,I⟩<|W.cn<|J (fun h5=>?_) fun h5=>?_
 replace h5:=ndt h5
 refine g 11 16 []<|J UA<|RT ?_
 rotate_left
 replace h5:=ndf h5
 refine W.skip<|W.sq ?_
 by_cases h6:(1:Int)≤Message.kind m∧Message.kind m≤(4:Int)
 by_cases h7:(1:Int)≤Message.lease m∧Message.lease m≤(300000000:Int)
 by_cases h8:Message.kind m = (1:Int)∨Message.kind m = (3:Int)
 by_cases h9:(0:Int)≤Message.task m∧Message.task m≤(39:Int)
 refine g 11 87 [BT,BT,BT,.call (V.b (decide (1≤m.lease∧m.lease≤300000000))) [[]],BT,BT,BF,BF,BF,BF,BF,BF,BF,BF,BF,BF,BF,BT,BT,BT,.call (V.b (decide (0≤m.task∧m.task≤39))) [[],[],[]],BT,BF,BT,BF,BF,BF,BF,BF,BF,BF,BF,BF,BF] ?_
 conv=>whnf
 refine J ⟨I,I,⟨tO,I⟩,⟨tO,I⟩,⟨tO,UA,I,US,UA,aA _⟩,⟨tO,I⟩,tO,I,⟨nO,I⟩,⟨nO,I⟩,⟨nO,I⟩,nO,nO,nO,⟨nO,nO⟩,nO,I,Zdc,Zdc,⟨tO,I⟩,⟨tO,I⟩,⟨tO,UC,I,UU,UA,ah _ _ _⟩,⟨tO,I⟩,⟨rfl,tO⟩,rfl,I,⟨nO,I⟩,⟨nO,I⟩,⟨nO,I⟩,nO,nO,nO,⟨nO,nO⟩,nO,I⟩<|W.cn<|J (noT rfl) fun _=>W.skip<|W.sq ?_
 by_cases h10:(↑(ByteArray.size (Message.text m)):Int) = (8:Int)
 refine g 10 103 [BT,BT,BT,BT,BT,BF,BF,BF,BF,BF,BF,BF,BF,BF]<|J ⟨I,I,⟨tO,I⟩,⟨tO,I⟩,⟨tO,I⟩,⟨tO,I⟩,tO,I,⟨nO,I⟩,⟨nO,I⟩,⟨nO,I⟩,nO,nO,nO,⟨nO,nO⟩,nO,I⟩<|W.cn<|J (noT rfl) fun _=>W.skip<|g 5 120 [BF,BF,BF,BF,BF,BF,BF,BT,BT,BT,BT,BF,BT,BF]<|J Zen<|RT ?_
 rotate_left
 refine g 10 103 [BT,BT,BT,BT,BT,BT,BT,BT,BF,BF,BF,BT,BT]<|J ⟨I,I,⟨tO,I⟩,⟨tO,I⟩,⟨tO,I⟩,⟨tO,I⟩,tO,I,ag OM,ag OM,ag OM,I,I,I,ag OM,ag OM,I⟩<|W.cn<|J (fun _=>(g 7 9 []<|J UA (RT ?_))) (noF rfl)
 rotate_left
 refine g 11 87 [BT,BT,BT,.call (V.b (decide (1≤m.lease∧m.lease≤300000000))) [[]],BT,BT,BF,BF,BF,BF,BF,BF,BF,BF,BF,BF,BF,BT,BT,BT,.call (V.b (decide (0≤m.task∧m.task≤39))) [[],[],[]],BT,BF,BT,BF,BT,BT,BT,BF,BF,BF,BT,BT] ?_
 conv=>whnf
 refine J ⟨I,I,⟨tO,I⟩,⟨tO,I⟩,⟨tO,UA,I,US,UA,aA _⟩,⟨tO,I⟩,tO,I,⟨nO,I⟩,⟨nO,I⟩,⟨nO,I⟩,nO,nO,nO,⟨nO,nO⟩,nO,I,Zdc,Zdc,⟨tO,I⟩,⟨tO,I⟩,⟨tO,UC,I,UU,UA,ah _ _ _⟩,⟨tO,I⟩,⟨rfl,tO⟩,rfl,I,ag OM,ag OM,ag OM,I,I,I,ag OM,ag OM,I⟩<|W.cn<|J (fun _=>(g 3 4 []<|J UA (RT ?_))) (noF rfl)
 rotate_left
 refine g 11 87 [BT,BT,BT,.call (V.b (decide (1≤m.lease∧m.lease≤300000000))) [[]],BT,BT,BF,BF,BF,BF,BF,BF,BF,BF,BF,BF,BF,BF,BF,BF,BF,BF,BF,BF,BF,BF,BF,BT,BT,BT,BF,BT,BF] ?_
 conv=>whnf
 refine J ⟨I,I,⟨tO,I⟩,⟨tO,I⟩,⟨tO,UA,I,US,UA,aA _⟩,⟨tO,I⟩,tO,I,⟨nO,I⟩,⟨nO,I⟩,⟨nO,I⟩,nO,nO,nO,⟨nO,nO⟩,nO,I,Zdc,Zdc,dO,dO,dO,dO,⟨rfl,dO⟩,rfl,I,Zdc,Zdc,Zdc,Zaf,Zaf,Zaf,Zcx,rfl,I⟩<|W.cn<|J (fun h9=>?_) fun h9=>?_
 replace h9:=ndt h9
 refine g 3 4 []<|J UA<|RT ?_
 rotate_left
 replace h9:=ndf h9
 refine W.skip<|W.sq<|g 10 103 [BF,BF,BF,BF,BF,BF,BF,BF,BT,BT,BT,BF,BT,BF]<|J Zeo<|W.cn<|J (fun h10=>?_) fun h10=>?_
 replace h10:=ndt h10
 refine g 7 9 []<|J UA<|RT ?_
 rotate_left
 replace h10:=ndf h10
 refine W.skip<|g 5 120 [BF,BF,BF,BF,BF,BF,BF,BT,BT,BT,BT,BF,BT,BF]<|J Zen<|RT ?_
 rotate_left
 refine g 11 87 [BT,BT,BT,.call (V.b (decide (1≤m.lease∧m.lease≤300000000))) [[]],BT,BT,BT,BT,BT,BF,BF,BF,BT,BT,BT,BT,BF,BF,BF,BF,BT,BT,BT,BT,BT,BF,BF,BF,BT,BT] ?_
 conv=>whnf
 refine J ⟨I,I,⟨tO,I⟩,⟨tO,I⟩,⟨tO,UA,I,US,UA,aA _⟩,⟨tO,I⟩,tO,I,ag OM,ag OM,ag OM,I,I,I,ag OM,ag OM,I,rfl,rfl,I,I,I,I,rfl,rfl,I,rfl,rfl,rfl,I,I,I,rfl,rfl,I⟩<|W.cn<|J (fun _=>(g 3 4 []<|J UA (RT ?_))) (noF rfl)
 rotate_left
 by_cases h7:Message.lease m = (0:Int)
 refine g 11 87 [BF,BF,BF,BF,BF,BF,BF,BF,BT,BT,BT,BF,BT,BF,BF,BF,BF,BF,BF,BF,BF,BF,BF,BF,BF,BF,BT,BT,BT,BF,BT,BF] ?_
 conv=>whnf
 refine J ⟨I,I,dO,dO,dO,dO,dO,I,Zdc,Zdc,Zdc,Zaf,Zaf,Zaf,Zcx,rfl,I,⟨nO,I⟩,⟨nO,I⟩,dO,dO,dO,dO,⟨nO,dO⟩,nO,I,Zdc,Zdc,Zdc,Zaf,Zaf,Zaf,Zcx,rfl,I⟩<|W.cn<|J (fun h8=>?_) fun h8=>?_
 replace h8:=ndt h8
 refine g 3 4 []<|J UA<|RT ?_
 rotate_left
 replace h8:=ndf h8
 refine W.skip<|W.sq<|g 10 103 [BF,BF,BF,BF,BF,BF,BF,BF,BT,BT,BT,BF,BT,BF]<|J Zeo<|W.cn<|J (fun h9=>?_) fun h9=>?_
 replace h9:=ndt h9
 refine g 7 9 []<|J UA<|RT ?_
 rotate_left
 replace h9:=ndf h9
 refine W.skip<|g 5 120 [BF,BF,BF,BF,BF,BF,BF,BT,BT,BT,BT,BF,BT,BF]<|J Zen<|RT ?_
 rotate_left
 refine g 11 87 [BF,BF,BF,BF,BF,BF,BF,BF,BT,BT,BT,BF,BT,BF,BT,BT,BF,BF,BF,BF,BT,BT,BT,BT,BT,BF,BF,BF,BT,BT] ?_
 conv=>whnf
 refine J ⟨I,I,dO,dO,dO,dO,dO,I,Zdc,Zdc,Zdc,Zaf,Zaf,Zaf,Zcx,rfl,I,ag OM,ag OM,I,I,I,I,ag OM,ag OM,I,rfl,rfl,rfl,I,I,I,rfl,rfl,I⟩<|W.cn<|J (fun _=>(g 3 4 []<|J UA (RT ?_))) (noF rfl)
 rotate_left
 refine g 29 53 [BF,BF,BF,BF,BF,BF,BF,BF,BF,BF,BF,BF,BF,BT,BT,BT,BT,BT,BT,BT,BT,BT,BT,BF,BT,BF]<|J ⟨I,I,dO,dO,dO,dO,I,I,I,I,dO,dO,I,Zdc,Zdc,Zdc,Zaf,Zaf,Zaf,Zaf,ag OM,ag OM,ag OM,ag OM,⟨ag OM,ag OM⟩,Zcx,rfl,I⟩<|W.cn<|J (fun _=>(g 11 16 []<|J UA (RT ?_))) (noF rfl)
 rotate_left
 refine g 13 15 [.call (V.b (decide (1≤m.kind∧m.kind≤5))) [[],[],[]],BT,BT,BT,BT,BT]<|J ⟨I,I,⟨UC,I,UU,UA,ah _ _ _⟩,I,I,ag OM,ag OM,ag OM,ag OM,ag OM,I⟩<|W.cn<|J (fun _=>(g 8 9 []<|J UA (RT ?_))) (noF rfl)
 rotate_left
 all_goals (try simp only[List.length_map,decide_eq_true_eq,Bool.not_eq_true,Bool.not_eq_true',decide_eq_false_iff_not]at *)
 all_goals first
  |exact vbf (by unfold bO;grind)
  |exact vbt (by unfold bO;grind)
  |exact vbd (by unfold bO;grind)
end Go.K
end
section
open Go Go.Tm Go.Proofs
namespace Go.K
def Ae(m:Message):List Int:=[m.kind,m.frm,m.to,m.epoch / 256,m.epoch % 256,m.lease / 16777216,m.lease / 65536 % 256,m.lease / 256 % 256,m.lease % 256,m.task,m.inputs.length]
def iH:List ByteArray→ByteArray
 |[]=>emp
 |x :: l=>x++iH l
theorem Le(s:ByteArray):emp++s = s:=by apply ByteArray.ext;simp[emp]
theorem G7(s:ByteArray):s++emp = s:=by apply ByteArray.ext;simp[emp]
theorem Bc:∀ a b,iH (a++b) = iH a++iH b
 |[],b=>by simp only[List.nil_append,iH,Le]
 |x :: a,b=>by simp only[List.cons_append,iH,Bc a b,ByteArray.append_assoc]
theorem EL{xs:List ByteArray}{n:Nat}{x:ByteArray}(h:xs[n]? = some x):iH (xs.take (n+1)) = iH (xs.take n) ++x:=by
 rw[List.take_add_one,h,Bc];simp only[Option.toList,iH,G7]
def dn(m:Message):ByteArray:=bl (Ae m) ++m.text++iH m.inputs
theorem EN{l:List Int}(h:∀ n∈l,0≤n∧n≤255):cB (bl l) = l.map b1T:=by
 unfold cB bl b1T
 simp only[List.map_map]
 apply List.map_congr_left
 intro n hn
 obtain⟨h1,h2⟩:=h n hn
 simp only[Function.comp]
 congr 4
 simp;omega
theorem de{m:Message}(h:bO m):m.inputs.length≤8∧(∀ s∈m.inputs,s.size = 8)∧m.text.size≤8:=by
 have he:emp.size = 0:=rfl
 obtain⟨_,h|h|h|h|h⟩:=h
 ·obtain⟨_,_,_,_,_,h1,h2,h3⟩:=h
  exact⟨h3,h2,by rw[h1];omega⟩
 all_goals
  obtain⟨_,_,_,_,_,h1,h2⟩:=h
  have:m.inputs = []:=List.eq_nil_of_length_eq_zero OM
  rw[this]
  refine⟨by simp,(fun s hs=>nomatch hs),?_⟩
  first
   |(rw[h1];omega)
   |omega
theorem fy{m:Message}(h:bO m):(1≤m.kind∧m.kind≤5)∧(0≤m.frm∧m.frm≤8)∧(0≤m.to∧m.to≤8)∧(1≤m.epoch∧m.epoch≤300)∧(0≤m.lease∧m.lease≤300000000)∧(0≤m.task∧m.task≤39):=by
 obtain⟨h0,h|h|h|h|h⟩:=h
 all_goals
  obtain⟨h1,h2,h3,h4,h5,_⟩:=h
  refine⟨?_,?_,?_,h0,?_,?_⟩ <;> omega
theorem Ev{m:Message}(h:bO m):∀ n∈Ae m,0≤n∧n≤255:=by
 obtain⟨h1,h2,h3,h4,h5,h6⟩:=fy h
 have h7:=(de h).1
 intro n hn
 simp only[Ae,List.mem_cons,List.not_mem_nil,or_false]at hn
 rcases hn with rfl|rfl|rfl|rfl|rfl|rfl|rfl|rfl|rfl|rfl|rfl <;> omega
def gv(m:Message)(n:Nat):ByteArray:=bl (Ae m) ++m.text++iH (m.inputs.take n)
theorem qE(m:Message):gv m 0 = bl (Ae m) ++m.text:=by unfold gv;rw[List.take_zero,iH,G7]
theorem AC{m:Message}{n:Nat}{x:ByteArray}(h:m.inputs[n]? = some x):cB (gv m n) ++cB x = cB (gv m (n+1)):=by
 unfold gv;rw[EL h,←mJ];simp only[ByteArray.append_assoc]
theorem vf(m:Message):gv m m.inputs.length = dn m:=by unfold gv dn;rw[List.take_length]
theorem qF{m:Message}(h:bO m)(n:Nat)(hn:n≤m.inputs.length):(gv m n).size = 11+m.text.size+8 * n:=by
 obtain⟨h7,h8,h9⟩:=de h
 induction n with
 |zero=>rw[qE,ByteArray.size_append,gk];rfl
 |succ k ih =>
  have hk:k < m.inputs.length:=by omega
  have:=congrArg List.length (AC (List.getElem?_eq_getElem hk))
  rw[List.length_append,fZ,fZ,fZ,ih OM,h8 _ (List.getElem_mem hk)]at this
  omega
theorem Lk{m:Message}(h:bO m):[m.kind,m.frm,m.to,IntKind.u8.wrap (IntKind.i64.wrap (m.epoch.tdiv 256)),IntKind.u8.wrap (m.epoch.tmod 256),IntKind.u8.wrap (IntKind.i64.wrap (m.lease.tdiv 16777216)),IntKind.u8.wrap ((IntKind.i64.wrap (m.lease.tdiv 65536)).tmod 256),IntKind.u8.wrap ((IntKind.i64.wrap (m.lease.tdiv 256)).tmod 256),IntKind.u8.wrap (m.lease.tmod 256),m.task,IntKind.u8.wrap ((m.inputs.map ak).length:Int)].map b1T++cB m.text = cB (gv m 0):=by
 obtain⟨h1,h2,h3,h4,h5,h6⟩:=fy h
 have h7:=(de h).1
 rw[qE,mJ,EN (Ev h)]
 unfold Ae
 rw[List.length_map,Int.tdiv_eq_ediv_of_nonneg OM,Int.tdiv_eq_ediv_of_nonneg OM,Int.tdiv_eq_ediv_of_nonneg OM,Int.tdiv_eq_ediv_of_nonneg OM,w64 (z:=m.lease / 65536) OM OM,w64 (z:=m.lease / 256) OM OM,w64 (z:=m.lease / 16777216) OM OM,w64 (z:=m.epoch / 256) OM OM,Int.tmod_eq_emod_of_nonneg OM,Int.tmod_eq_emod_of_nonneg OM,Int.tmod_eq_emod_of_nonneg OM,Int.tmod_eq_emod_of_nonneg OM,wu8 OM OM,wu8 OM OM,wu8 OM OM,wu8 OM OM,wu8 OM OM,wu8 OM OM,wu8 OM OM]
theorem Dh(m:Message)(h:bO m):F BD [.val (en m)] (.s (dn m)) [[]]:=by
 obtain⟨h1,h2,h3,h4,h5,h6⟩:=fy h
 obtain⟨h7,h8,h9⟩:=de h
 refine Ck ?_
 conv=>whnf
 refine g 0 0 []<|J ⟨UH,I,I⟩<|g 0 0 []<|J UC<|g 10 47 [.i m.kind,.i m.frm,.i m.to,.i (IntKind.wrap IntKind.i64 (Int.tdiv m.epoch 256)),.i (IntKind.wrap IntKind.u8 (IntKind.wrap IntKind.i64 (Int.tdiv m.epoch 256))),.i (Int.tmod m.epoch 256),.i (IntKind.wrap IntKind.u8 (Int.tmod m.epoch 256)),.i (IntKind.wrap IntKind.i64 (Int.tdiv m.lease 16777216)),.i (IntKind.wrap IntKind.u8 (IntKind.wrap IntKind.i64 (Int.tdiv m.lease 16777216))),.i (IntKind.wrap IntKind.i64 (Int.tdiv m.lease 65536)),.i (Int.tmod (IntKind.wrap IntKind.i64 (Int.tdiv m.lease 65536)) 256),.i (IntKind.wrap IntKind.u8 (Int.tmod (IntKind.wrap IntKind.i64 (Int.tdiv m.lease 65536)) 256)),.i (IntKind.wrap IntKind.i64 (Int.tdiv m.lease 256)),.i (Int.tmod (IntKind.wrap IntKind.i64 (Int.tdiv m.lease 256)) 256),.i (IntKind.wrap IntKind.u8 (Int.tmod (IntKind.wrap IntKind.i64 (Int.tdiv m.lease 256)) 256)),.i (Int.tmod m.lease 256),.i (IntKind.wrap IntKind.u8 (Int.tmod m.lease 256)),.i m.task,.i (IntKind.wrap IntKind.u8 (↑(List.length (List.map ak m.inputs)):Int))]<|J ⟨I,I,wu8 OM OM,I,I,wu8 OM OM,I,I,wu8 OM OM,I,I,Zdp,rfl,I,I,Zdp,rfl,I,Zdp,rfl,I,Zdp,Zdp,rfl,I,Zdp,Zdp,rfl,I,Zdp,rfl,I,I,wu8 OM OM,I,I,I,rfl,⟨UA,UA,UA,UA,UA,UA,UA,UA,UA,UA,UA,I⟩,I,I⟩<|g 47 51 []<|J ⟨I,I,I,Zdi,I,I⟩<|W.sq<|g 6 9 []<|J UA<|W.blk<|W.lp (fun s (n:Nat)=>⟨[(1,s.s 1),(2,s.s 2),(4,.ref ⟨4,none,0⟩),(5,.i n),(9,s.s 9)],[(1,[s.c 1 0,s.c 1 1,s.c 1 2,s.c 1 3,s.c 1 4,s.c 1 5,s.c 1 6,s.c 1 7]),(4,[.own [false] (cB (gv m n))])],[]⟩) (fun(n:Nat)=>n≤m.inputs.length) (fun(n:Nat)=>m.inputs.length - n) (0) [some 1,some 50] [] ⟨rfl,Zbd,⟨Zab,⟨⟨rfl,⟨(congrArg (V.own _) (Lk h)),I⟩⟩,I⟩⟩,I⟩ OM ?_
 intro n hn
 have hc:=qF h n hn
 have hb:=fZ (gv m n)
 conv=>whnf
 refine W.sq<|g 51 55 []<|J UE<|W.cn<|J (fun h10=>?_) fun h10=>?_
 replace h10:=dt h10
 simp only[LM]at h10
 refine W.skip<|W.sq<|W.blk ?_
 obtain⟨y1,hy1⟩:=af (xs:=Message.inputs m) (n:=n) OM
 have hm1:=h8 y1 (List.mem_of_getElem? hy1)
 refine rg [.x (ak y1)]<|J ⟨I,I,I,I,Zdg,I,Zdi,I,I⟩<|rg [.i ((n:Int) +1)]<|J Zdd ?_
 rotate_left
 replace h10:=df h10
 simp only[LM]at h10
 refine W.exit<|g 55 67 [.s (gv m n)]<|J ⟨I,⟨I,iW _,(jo _).symm⟩,I,I⟩<|RT ?_
 rotate_left
 ·refine⟨n+1,[some 1,some 64],[],⟨rfl,Zbd,⟨Zab,⟨⟨rfl,⟨(congrArg (V.own _) (AC AS)),I⟩⟩,I⟩⟩,I⟩,?_,?_⟩
  rotate_left
  (dsimp only;omega)
  dsimp only
  omega
 ·exact vs (by rw[show n = m.inputs.length from by omega,vf])
end Go.K
end
section
open Go Go.Tm Go.Proofs
namespace Go.K
attribute [local irreducible] ByteArray.extract
def er(m:Message)(key:ByteArray):ByteArray:=if bO m∧key.size≤30 then eY (dn m) key++dn m else emp
theorem f0{m:Message}(h:bO m):(dn m).size = 11+m.text.size+8 * m.inputs.length:=by
 rw[←vf,qF h _ (Nat.le_refl _)]
theorem fO(m:Message)(key:ByteArray)(hl:m.inputs.length≤9223372036854775806):F pp [.val (en m),.val (.s key)] (.s (er m key)) [[],[]]:=by
 have c1:=nC m hl
 have c2:=Dh m
 by_cases h:bO m
 ·have hb:=f0 h
  obtain⟨h7,h8,h9⟩:=de h
  rw[show decide (bO m) = true from decide_eq_true h]at c1
  have c3:=c2 h
  clear c2
  by_cases hk:key.size≤30
  ·have c4:=lZ (key++nul++dn m) (by rw[ByteArray.size_append,ByteArray.size_append];have:nul.size = 1:=rfl;omega)
   rw[gE,show bl (beL (fY h0v (key++nul++dn m)) 8) = eY (dn m) key from rfl]at c4
   have hn:nul.size = 1:=rfl
   have h2:(eY (dn m) key).size = 8:=eQ _
   refine fL ?_
   conv=>whnf
   refine g 0 1 []<|J ⟨UH,I,I⟩<|W.sq<|g 6 9 [.call VT [[]],BF,BF,BF,BF]<|J Zb8<|W.cn<|J (noT dO) fun _=>W.skip<|g 10 16 [.call (V.s (dn m)) [[]]]<|J ⟨I,Zb9,I,I⟩<|g 16 23 [.s (key++ {data:=#[(0:UInt8)]:ByteArray}),.s (key++ {data:=#[(0:UInt8)]:ByteArray} ++dn m),.call (V.s (eY (dn m) key)) [[]],.s (eY (dn m) key++dn m)]<|J ⟨I,⟨rfl,(by simp only[bsz,bsa,ByteArray.size_append,List.size_toArray,mP];omega)⟩,I,⟨rfl,(by simp only[bsz,bsa,ByteArray.size_append,List.size_toArray,mP];omega)⟩,Zai,I,⟨rfl,OM⟩,I,I⟩<|RT ?_
   exact vs (if_pos ⟨h,hk⟩).symm
  ·refine fL ?_
   conv=>whnf
   refine g 0 1 []<|J ⟨UH,I,I⟩<|W.sq<|g 6 9 [.call VT [[]],BF,BF,BF,BF]<|J Zb8<|W.cn<|J (fun _=>(g 10 14 []<|J UA (RT ?_))) (noF tO)
   exact vs (if_neg (fun h=>hk h.2)).symm
 ·rw[show decide (bO m) = false from decide_eq_false h]at c1
  clear c2
  refine fL ?_
  conv=>whnf
  refine g 0 1 []<|J ⟨UH,I,I⟩<|W.sq<|g 6 9 [.call VF [[]],BT,BT,BT,BT]<|J ⟨I,Zb9,I,I,rfl,rfl,rfl,rfl,I⟩<|W.cn<|J (fun _=>(g 10 14 []<|J UA (RT ?_))) (noF rfl)
  exact vs (if_neg (fun x=>h x.1)).symm
def cA(r:ByteArray)(n:Nat):List ByteArray:=(List.range n).map fun k=>r.extract (8 * k) (8 * k+8)
def rdM(b:ByteArray):Message :=
 ⟨byt b 0,byt b 1,byt b 2,byt b 3 * 256+byt b 4,byt b 5 * 16777216+byt b 6 * 65536+byt b 7 * 256+byt b 8,byt b 9,if byt b 0 = 3 then b.extract 11 b.size else emp,if byt b 0 = 3 then []else cA (b.extract 11 b.size) ((b.size - 11) / 8)⟩
def ef(s key:ByteArray):Option Message:=if s.size < 19∨er (rdM (s.extract 8 s.size)) key≠s then none else some (rdM (s.extract 8 s.size))
def fQ:Option Message→V
 |none=>.tup [bC NW,.b false]
 |some m=>.tup [bC m,.b true]
theorem nB(r:ByteArray)(n:Nat):cA r (n+1) = cA r n++ [r.extract (8 * n) (8 * n+8)]:=by
 unfold cA;rw[List.range_succ,List.map_append];rfl
def rdF(b:ByteArray)(t:ByteArray)(l:List ByteArray):Message :=
 ⟨byt b 0,byt b 1,byt b 2,byt b 3 * 256+byt b 4,byt b 5 * 16777216+byt b 6 * 65536+byt b 7 * 256+byt b 8,byt b 9,t,l⟩
theorem nq{s key:ByteArray}(h:s.size < 19):ef s key = none:=if_pos (Or.inl h)
theorem I0{s key:ByteArray}{m:Message}(h:rdM (s.extract 8 s.size) = m)(h2:¬er m key = s):ef s key = none:=if_pos (Or.inr (by rw[h];exact h2))
theorem og{s key:ByteArray}{m:Message}(h0:¬s.size < 19)(h:rdM (s.extract 8 s.size) = m)(h2:er m key = s):ef s key = some m:=by
 unfold ef;rw[h,if_neg];rintro(h|h);exact h0 h;exact h h2
def bv(s:ByteArray):ByteArray:=(s.extract 8 s.size).extract 11 (s.extract 8 s.size).size
def jG(s:ByteArray)(n:Nat):ByteArray:=(bv s).extract (8 * n) (bv s).size
theorem Kw(s:ByteArray):bv s = jG s 0:=by unfold jG;rw[Nat.mul_zero,ByteArray.extract_zero_size]
theorem Kz{s:ByteArray}{n:Nat}(hz:(bv s).size = s.size - 19)(h:8 * n≤s.size - 19):(jG s n).size = s.size - 19 - 8 * n:=by
 unfold jG;rw[ByteArray.size_extract];omega
theorem KA{s:ByteArray}{n:Nat}(h:8 * n+8≤(bv s).size):(jG s n).extract 0 8 = (bv s).extract (8 * n) (8 * n+8):=by
 unfold jG;rw[ByteArray.extract_extract,Nat.min_eq_left OM,Nat.add_zero]
theorem Ky(s:ByteArray)(n:Nat)(h:8 * n+8≤(bv s).size):(jG s n).extract 8 (jG s n).size = jG s (n+1):=by
 have:(jG s n).size = (bv s).size - 8 * n:=by unfold jG;rw[ByteArray.size_extract];omega
 rw[this]
 unfold jG;rw[ByteArray.extract_extract,show 8 * n+8 = 8 * (n+1) by omega,show min (8 * n+ ((bv s).size - 8 * n)) (bv s).size = (bv s).size by omega]
theorem qC(r:ByteArray)(n:Nat):(cA r n).length = n:=by unfold cA;rw[List.length_map,List.length_range]
theorem Ib{s:ByteArray}{n:Nat}(h:8 * n+8≤(bv s).size):(cA (bv s) n).map ak++ [ak ((jG s n).extract 0 8)] = (cA (bv s) (n+1)).map ak:=by
 rw[nB,List.map_append,KA h];rfl
theorem jd(tx key:ByteArray)(ht:tx.size≤68719476736):F po [.val (.s tx),.val (.s key)] (fQ (ef tx key)) [[],[]]:=by
 by_cases h0:tx.size < 19
 ·refine fK ?_
  conv=>whnf
  refine g 0 0 []<|J UB<|W.sq<|g 9 11 []<|J UC<|W.cn<|J (fun _=>(g 11 13 []<|J Zea (RT ?_))) (noF tO)
  exact congrArg fQ (nq h0).symm
 have hx:(tx.extract 8 tx.size).size = tx.size - 8:=by rw[ByteArray.size_extract];omega
 obtain⟨y1,hy1,hb1⟩:=bz (s:=tx.extract 8 tx.size) (n:=0) OM
 obtain⟨y2,hy2,hb2⟩:=bz (s:=tx.extract 8 tx.size) (n:=1) OM
 obtain⟨y3,hy3,hb3⟩:=bz (s:=tx.extract 8 tx.size) (n:=2) OM
 obtain⟨y4,hy4,hb4⟩:=bz (s:=tx.extract 8 tx.size) (n:=3) OM
 obtain⟨y5,hy5,hb5⟩:=bz (s:=tx.extract 8 tx.size) (n:=4) OM
 obtain⟨y6,hy6,hb6⟩:=bz (s:=tx.extract 8 tx.size) (n:=5) OM
 obtain⟨y7,hy7,hb7⟩:=bz (s:=tx.extract 8 tx.size) (n:=6) OM
 obtain⟨y8,hy8,hb8⟩:=bz (s:=tx.extract 8 tx.size) (n:=7) OM
 obtain⟨y9,hy9,hb9⟩:=bz (s:=tx.extract 8 tx.size) (n:=8) OM
 obtain⟨y10,hy10,hb10⟩:=bz (s:=tx.extract 8 tx.size) (n:=9) OM
 have e:∀ t l,rdF (tx.extract 8 tx.size) t l = ⟨y1.toNat,y2.toNat,y3.toNat,(y4.toNat:Int) * 256+y5.toNat,(y6.toNat:Int) * 16777216+ (y7.toNat:Int) * 65536+ (y8.toNat:Int) * 256+y9.toNat,y10.toNat,t,l⟩:=by
  intro t l;simp only[rdF,bH hy1,bH hy2,bH hy3,bH hy4,bH hy5,bH hy6,bH hy7,bH hy8,bH hy9,bH hy10]
 by_cases h3:(y1.toNat:Int) = 3
 ·have e1:rdM (tx.extract 8 tx.size) = ⟨y1.toNat,y2.toNat,y3.toNat,(y4.toNat:Int) * 256+y5.toNat,(y6.toNat:Int) * 16777216+ (y7.toNat:Int) * 65536+ (y8.toNat:Int) * 256+y9.toNat,y10.toNat,(tx.extract 8 tx.size).extract 11 (tx.extract 8 tx.size).size,[]⟩:=by
   rw[←e];unfold rdM rdF;rw[bH hy1,if_pos h3,if_pos h3]
  have c1:=fO (rdM (tx.extract 8 tx.size)) key (by rw[e1];simp)
  rw[e1]at c1
  refine fK ?_
  conv=>whnf
  refine g 0 0 []<|J UB<|W.sq<|g 9 11 []<|J UC<|W.cn<|J (noT dO) fun _=>W.skip<|g 11 15 [.n (8),.s (ByteArray.extract tx 8 (ByteArray.size tx))]<|J Zcm<|gd 15 36 [[],[.i ((↑(UInt8.toNat y1):Int))],[.i ((↑(UInt8.toNat y1):Int))],[],[.i ((↑(UInt8.toNat y2):Int))],[.i ((↑(UInt8.toNat y2):Int))],[],[.i ((↑(UInt8.toNat y3):Int))],[.i ((↑(UInt8.toNat y3):Int))],[],[.i ((↑(UInt8.toNat y4):Int))],[.i ((↑(UInt8.toNat y4):Int))],[.i ((↑(UInt8.toNat y4):Int) * 256)],[],[.i ((↑(UInt8.toNat y5):Int))],[.i ((↑(UInt8.toNat y5):Int))],[.i ((↑(UInt8.toNat y4):Int) * 256+ (↑(UInt8.toNat y5):Int))],[],[.i ((↑(UInt8.toNat y10):Int))],[.i ((↑(UInt8.toNat y10):Int))],[],[],[]] ?_
  conv=>whnf
  refine J ⟨I,⟨OM,ixb hy1⟩,w8 _,I,⟨OM,ixb hy2⟩,w8 _,I,⟨OM,ixb hy3⟩,w8 _,I,⟨OM,ixb hy4⟩,w8 _,wO,I,⟨OM,ixb hy5⟩,w8 _,wO,I,⟨OM,ixb hy10⟩,w8 _,I,I,UH,I⟩<|J KR<|gd 36 55 [[],[.i ((↑(UInt8.toNat y6):Int))],[.i ((↑(UInt8.toNat y6):Int))],[.i ((↑(UInt8.toNat y6):Int) * 16777216)],[],[.i ((↑(UInt8.toNat y7):Int))],[.i ((↑(UInt8.toNat y7):Int))],[.i ((↑(UInt8.toNat y7):Int) * 65536)],[.i ((↑(UInt8.toNat y6):Int) * 16777216+ (↑(UInt8.toNat y7):Int) * 65536)],[],[.i ((↑(UInt8.toNat y8):Int))],[.i ((↑(UInt8.toNat y8):Int))],[.i ((↑(UInt8.toNat y8):Int) * 256)],[.i ((↑(UInt8.toNat y6):Int) * 16777216+ (↑(UInt8.toNat y7):Int) * 65536+ (↑(UInt8.toNat y8):Int) * 256)],[],[.i ((↑(UInt8.toNat y9):Int))],[.i ((↑(UInt8.toNat y9):Int))],[.i ((↑(UInt8.toNat y6):Int) * 16777216+ (↑(UInt8.toNat y7):Int) * 65536+ (↑(UInt8.toNat y8):Int) * 256+ (↑(UInt8.toNat y9):Int))],[],[]] ?_
  conv=>whnf
  refine J ⟨I,⟨OM,ixb hy6⟩,w8 _,wO,I,⟨OM,ixb hy7⟩,w8 _,wO,wO,I,⟨OM,ixb hy8⟩,w8 _,wO,wO,I,⟨OM,ixb hy9⟩,w8 _,wO,I,UA,I⟩<|J KR<|g 55 57 [.n (11),.s (ByteArray.extract (ByteArray.extract tx 8 (ByteArray.size tx)) 11 (ByteArray.size (ByteArray.extract tx 8 (ByteArray.size tx))))]<|J Zcm<|W.sq<|g 57 59 []<|J UC<|W.cn<|J (fun _=>(rg []<|J Zef (W.sq (g 8 78 [.call (V.s (er {kind:=(↑(UInt8.toNat y1):Int),frm:=(↑(UInt8.toNat y2):Int),to:=(↑(UInt8.toNat y3):Int),epoch:=(↑(UInt8.toNat y4):Int) * 256+ (↑(UInt8.toNat y5):Int),lease:=(↑(UInt8.toNat y6):Int) * 16777216+ (↑(UInt8.toNat y7):Int) * 65536+ (↑(UInt8.toNat y8):Int) * 256+ (↑(UInt8.toNat y9):Int),task:=(↑(UInt8.toNat y10):Int),text:=ByteArray.extract (ByteArray.extract tx 8 (ByteArray.size tx)) 11 (ByteArray.size (ByteArray.extract tx 8 (ByteArray.size tx))),inputs:=[]:Message} key)) [[],[]]]<|J ⟨I,I,Zc4,I,I,I⟩ (W.cn<|J (fun h1=>?_) fun h1=>?_))))) (noF tO)
  replace h1:=ndt h1
  refine g 0 2 []<|J Zea<|RT ?_
  rotate_left
  replace h1:=ndf h1
  refine W.skip<|g 6 81 []<|J Zea<|RT ?_
  rotate_left
  ·exact congrArg fQ (I0 e1 AS).symm
  ·exact congrArg fQ (og h0 e1 AS).symm
 ·have e1:∀ n,n = (tx.size - 19) / 8→rdM (tx.extract 8 tx.size) = ⟨y1.toNat,y2.toNat,y3.toNat,(y4.toNat:Int) * 256+y5.toNat,(y6.toNat:Int) * 16777216+ (y7.toNat:Int) * 65536+ (y8.toNat:Int) * 256+y9.toNat,y10.toNat,emp,cA (bv tx) n⟩:=by
   intro n hn;rw[←e];unfold rdM rdF;rw[bH hy1,if_neg h3,if_neg h3,hn,hx,bv,hx,show tx.size - 8 - 11 = tx.size - 19 by omega]
  have hz:(bv tx).size = tx.size - 19:=by unfold bv;rw[ByteArray.size_extract,hx];omega
  refine fK ?_
  conv=>whnf
  refine g 0 0 []<|J UB<|W.sq<|g 9 11 []<|J UC<|W.cn<|J (noT dO) fun _=>W.skip<|g 11 15 [.n (8),.s (ByteArray.extract tx 8 (ByteArray.size tx))]<|J Zcm<|gd 15 36 [[],[.i ((↑(UInt8.toNat y1):Int))],[.i ((↑(UInt8.toNat y1):Int))],[],[.i ((↑(UInt8.toNat y2):Int))],[.i ((↑(UInt8.toNat y2):Int))],[],[.i ((↑(UInt8.toNat y3):Int))],[.i ((↑(UInt8.toNat y3):Int))],[],[.i ((↑(UInt8.toNat y4):Int))],[.i ((↑(UInt8.toNat y4):Int))],[.i ((↑(UInt8.toNat y4):Int) * 256)],[],[.i ((↑(UInt8.toNat y5):Int))],[.i ((↑(UInt8.toNat y5):Int))],[.i ((↑(UInt8.toNat y4):Int) * 256+ (↑(UInt8.toNat y5):Int))],[],[.i ((↑(UInt8.toNat y10):Int))],[.i ((↑(UInt8.toNat y10):Int))],[],[],[]] ?_
  conv=>whnf
  refine J ⟨I,⟨OM,ixb hy1⟩,w8 _,I,⟨OM,ixb hy2⟩,w8 _,I,⟨OM,ixb hy3⟩,w8 _,I,⟨OM,ixb hy4⟩,w8 _,wO,I,⟨OM,ixb hy5⟩,w8 _,wO,I,⟨OM,ixb hy10⟩,w8 _,I,I,UH,I⟩<|J KR<|gd 36 55 [[],[.i ((↑(UInt8.toNat y6):Int))],[.i ((↑(UInt8.toNat y6):Int))],[.i ((↑(UInt8.toNat y6):Int) * 16777216)],[],[.i ((↑(UInt8.toNat y7):Int))],[.i ((↑(UInt8.toNat y7):Int))],[.i ((↑(UInt8.toNat y7):Int) * 65536)],[.i ((↑(UInt8.toNat y6):Int) * 16777216+ (↑(UInt8.toNat y7):Int) * 65536)],[],[.i ((↑(UInt8.toNat y8):Int))],[.i ((↑(UInt8.toNat y8):Int))],[.i ((↑(UInt8.toNat y8):Int) * 256)],[.i ((↑(UInt8.toNat y6):Int) * 16777216+ (↑(UInt8.toNat y7):Int) * 65536+ (↑(UInt8.toNat y8):Int) * 256)],[],[.i ((↑(UInt8.toNat y9):Int))],[.i ((↑(UInt8.toNat y9):Int))],[.i ((↑(UInt8.toNat y6):Int) * 16777216+ (↑(UInt8.toNat y7):Int) * 65536+ (↑(UInt8.toNat y8):Int) * 256+ (↑(UInt8.toNat y9):Int))],[],[]] ?_
  conv=>whnf
  refine J ⟨I,⟨OM,ixb hy6⟩,w8 _,wO,I,⟨OM,ixb hy7⟩,w8 _,wO,wO,I,⟨OM,ixb hy8⟩,w8 _,wO,wO,I,⟨OM,ixb hy9⟩,w8 _,wO,I,UA,I⟩<|J KR<|g 55 57 [.n (11),.s (ByteArray.extract (ByteArray.extract tx 8 (ByteArray.size tx)) 11 (ByteArray.size (ByteArray.extract tx 8 (ByteArray.size tx))))]<|J Zcm<|W.sq<|g 57 59 []<|J UC<|W.cn<|J (noT dO) fun _=>W.blk<|W.lp (fun s (n:Nat)=>⟨[(0,s.s 0),(1,s.s 1),(4,s.s 4),(5,s.s 5),(7,s.s 7),(8,.s (jG tx n))],[(4,[s.c 4 0,s.c 4 1,s.c 4 2,s.c 4 3,s.c 4 4,s.c 4 5,s.c 4 6,s.c 4 7]),(7,[.t (.i y1.toNat),.t (.i y2.toNat),.t (.i y3.toNat),.t (.i ((y4.toNat:Int) * 256+y5.toNat)),.t (.i ((y6.toNat:Int) * 16777216+ (y7.toNat:Int) * 65536+ (y8.toNat:Int) * 256+y9.toNat)),.t (.i y10.toNat),.t (.s emp),.own [false] ((cA (bv tx) n).map ak)])],[]⟩) (fun(n:Nat)=>8 * n≤tx.size - 19) (fun(n:Nat)=>tx.size - 8 * n) (0) [some 4,some 7] [] ⟨rfl,⟨rfl,rfl,rfl,rfl,rfl,(congrArg (fun z=>V.t (T.v (Value.string z))) (Kw tx)),I⟩,⟨Zab,⟨Zab,I⟩⟩,I⟩ OM ?_
  intro n hn
  have hs:=Kz (s:=tx) (n:=n) hz hn
  have c1:=fun n=>fO ⟨y1.toNat,y2.toNat,y3.toNat,(y4.toNat:Int) * 256+y5.toNat,(y6.toNat:Int) * 16777216+ (y7.toNat:Int) * 65536+ (y8.toNat:Int) * 256+y9.toNat,y10.toNat,emp,cA (bv tx) n⟩ key
  have c2:=c1 n (by simp only[cA,List.length_map,List.length_range];omega)
  clear c1
  have hcl:=qC (bv tx) n
  conv=>whnf
  refine W.sq<|g 62 64 []<|J UC<|W.cn<|J (fun h1=>?_) fun h1=>?_
  replace h1:=dt h1
  refine W.skip<|W.blk<|gd 64 72 [[],[],[],[.n (8),.s (ByteArray.extract (jG tx n) 0 8)],[],[],[],[]] ?_
  conv=>whnf
  refine J ⟨I,I,I,⟨rfl,I,OM,OM,rfl⟩,US,Zdi,I,UA,I⟩<|J KR<|rg [.n (8),.s (ByteArray.extract (jG tx n) 8 (ByteArray.size (jG tx n)))]<|J Zcm ?_
  rotate_left
  replace h1:=df h1
  refine W.exit<|W.sq<|g 8 78 [.call (V.s (er {kind:=(↑(UInt8.toNat y1):Int),frm:=(↑(UInt8.toNat y2):Int),to:=(↑(UInt8.toNat y3):Int),epoch:=(↑(UInt8.toNat y4):Int) * 256+ (↑(UInt8.toNat y5):Int),lease:=(↑(UInt8.toNat y6):Int) * 16777216+ (↑(UInt8.toNat y7):Int) * 65536+ (↑(UInt8.toNat y8):Int) * 256+ (↑(UInt8.toNat y9):Int),task:=(↑(UInt8.toNat y10):Int),text:=emp,inputs:=cA (bv tx) n:Message} key)) [[],[]]]<|J ⟨I,I,Zc4,I,I,I⟩<|W.cn<|J (fun h2=>?_) fun h2=>?_
  replace h2:=ndt h2
  refine g 0 2 []<|J Zea<|RT ?_
  rotate_left
  replace h2:=ndf h2
  refine W.skip<|g 7 81 []<|J Zea<|RT ?_
  rotate_left
  ·refine⟨n+1,[some 4,some 7],[],⟨rfl,⟨rfl,rfl,rfl,rfl,rfl,(congrArg (fun z=>V.t (T.v (Value.string z))) (Ky tx n OM)),I⟩,⟨Zab,⟨⟨rfl,⟨rfl,⟨rfl,⟨rfl,⟨rfl,⟨rfl,⟨rfl,⟨rfl,⟨(congrArg (V.own _) (Ib OM)),I⟩⟩⟩⟩⟩⟩⟩⟩⟩,I⟩⟩,I⟩,?_,?_⟩
   rotate_left
   (dsimp only;omega)
   dsimp only
   omega
  ·exact congrArg fQ (I0 (e1 n OM) AS).symm
  ·exact congrArg fQ (og h0 (e1 n OM) AS).symm
end Go.K
end
section
open Go Go.Tm Go.Proofs
namespace Go.K
attribute [local irreducible] ByteArray.extract
theorem A0(a i y:Nat)(hy:y < 2 ^ i)(h:a * 2 ^ i+y < 9223372036854775808):Gq ((a * 2 ^ i:Nat):Int) (y:Int) = ((a * 2 ^ i+y:Nat):Int):=by
 unfold Gq
 have e:((BitVec.ofInt IntKind.i64.bits ((a * 2 ^ i:Nat):Int))|||BitVec.ofInt IntKind.i64.bits (y:Int)).toNat = a * 2 ^ i+y:=by
  rw[BitVec.ofInt_natCast,BitVec.ofInt_natCast]
  have hb64:IntKind.i64.bits = 64:=rfl
  rw[BitVec.toNat_or,BitVec.toNat_ofNat,BitVec.toNat_ofNat,hb64,Nat.mod_eq_of_lt OM,Nat.mod_eq_of_lt OM]
  have:=Nat.two_pow_add_eq_or_of_lt (i:=i) (b:=y) hy a
  rw[Nat.mul_comm]at this
  exact this.symm
 rw[e]
 rw[wO]
theorem QF(a b:Nat)(ha:a < 256)(hb:b < 256):Gq (IntKind.i64.wrap ((a:Int) * 256)) b = (a:Int) * 256+b:=I7 a b ha hb
theorem QE(a b c d:Nat)(ha:a < 256)(hb:b < 256)(hc:c < 256)(hd:d < 256):Gq (Gq (Gq (IntKind.i64.wrap ((a:Int) * 16777216)) (IntKind.i64.wrap ((b:Int) * 65536))) (IntKind.i64.wrap ((c:Int) * 256))) d = (a:Int) * 16777216+ (b:Int) * 65536+ (c:Int) * 256+d:=by
 rw[wO,wO,wO]
 have f1:((a * 16777216:Nat):Int) = (a:Int) * 16777216:=by rw[Int.natCast_mul];rfl
 have f2:((b * 65536:Nat):Int) = (b:Int) * 65536:=by rw[Int.natCast_mul];rfl
 have f3:a * 16777216+b * 65536 = (a * 256+b) * 65536:=by rw[Nat.add_mul,Nat.mul_assoc]
 have f4:((c * 256:Nat):Int) = (c:Int) * 256:=by rw[Int.natCast_mul];rfl
 have f5:(a * 256+b) * 65536+c * 256 = ((a * 256+b) * 256+c) * 256:=by rw[Nat.add_mul ((a * 256+b) * 256) c 256,Nat.mul_assoc (a * 256+b) 256 256]
 have f6:((((a * 256+b) * 256+c) * 256+d:Nat):Int) = (a:Int) * 16777216+ (b:Int) * 65536+ (c:Int) * 256+d:=by omega
 have e1:=A0 a 24 (b * 65536) OM OM
 have e2:=A0 (a * 256+b) 16 (c * 256) OM (by clear e1;omega)
 have e3:=A0 ((a * 256+b) * 256+c) 8 d (by clear e1 e2;omega) (by clear e1 e2;omega)
 simp only[Nat.reducePow]at e1 e2 e3
 rw[f1,f2]at e1
 rw[e1]
 rw[f4]at e2
 rw[f3,e2]
 rw[f5,e3,f6]
theorem lV{m:Message}{s key:ByteArray}(h:¬s.size < 19):er m key = s↔bO m∧key.size≤30∧dn m = s.extract 8 s.size∧s.extract 0 8 = eY (s.extract 8 s.size) key:=by
 unfold er
 constructor
 ·intro e
  by_cases hc:bO m∧key.size≤30
  ·rw[if_pos hc]at e
   have h8:(eY (dn m) key).size = 8:=eQ _
   have hb:s.extract 8 s.size = dn m:=by
    rw[←e,ByteArray.size_append,h8,ByteArray.extract_append_eq_right h8.symm OM]
   have hs:s.extract 0 8 = eY (dn m) key:=by
    rw[←e,ByteArray.extract_append_eq_left h8.symm]
   exact⟨hc.1,hc.2,hb.symm,by rw[hs,hb]⟩
  ·rw[if_neg hc]at e
   rw[←e]at h
   exact absurd (show emp.size < 19 by decide) h
 ·rintro⟨h1,h2,h3,h4⟩
  rw[if_pos ⟨h1,h2⟩,h3,←h4,ByteArray.extract_append_extract,Nat.min_eq_left OM,Nat.max_eq_right OM,ByteArray.extract_zero_size]
theorem vN(r:ByteArray):∀ n,8 * n≤r.size→iH (cA r n) = r.extract 0 (8 * n)
 |0,_=>by
  have:(r.extract 0 (8 * 0)).size = 0:=by rw[ByteArray.size_extract];omega
  rw[show cA r 0 = []from rfl,iH];exact(ByteArray.size_eq_zero_iff.1 this).symm
 |n+1,h=>by
  rw[nB,Bc,vN r n OM,iH,iH,G7,ByteArray.extract_append_extract,Nat.min_eq_left OM,Nat.max_eq_right OM]
  rfl
theorem Un(s:ByteArray)(h:11≤s.size):bl [byt s 0,byt s 1,byt s 2,byt s 3,byt s 4,byt s 5,byt s 6,byt s 7,byt s 8,byt s 9,byt s 10] ++s.extract 11 s.size = s:=by
 obtain⟨⟨l⟩⟩:=s
 match l,h with
 |a :: b :: c :: d :: e :: f :: g :: i :: j :: k :: q :: r,_ =>
  rw[uH (c:=a) rfl,uH (c:=b) rfl,uH (c:=c) rfl,uH (c:=d) rfl,uH (c:=e) rfl,uH (c:=f) rfl,uH (c:=g) rfl,uH (c:=i) rfl,uH (c:=j) rfl,uH (c:=k) rfl,uH (c:=q) rfl]
  apply ByteArray.ext
  rw[ByteArray.data_append,ByteArray.data_extract]
  apply Array.ext'
  simp[bl,ByteArray.size]
theorem WW{a0 a1 a2 a3 a4 a5 a6 a7 a8 a9 a10:Int}{r:ByteArray}(h:0≤a10∧a10≤255):byt (bl [a0,a1,a2,a3,a4,a5,a6,a7,a8,a9,a10] ++r) 10 = a10:=by
 obtain⟨⟨l⟩⟩:=r
 have e:bl [a0,a1,a2,a3,a4,a5,a6,a7,a8,a9,a10] ++ ⟨⟨l⟩⟩ = ⟨⟨(bl [a0,a1,a2,a3,a4,a5,a6,a7,a8,a9,a10]).data.toList++l⟩⟩:=by
  apply ByteArray.ext
  rw[ByteArray.data_append]
  apply Array.ext'
  simp
 rw[e,uH (c:=UInt8.ofNat a10.toNat) rfl]
 simp;omega
theorem oG(b:ByteArray):(rdM b).inputs.length = if byt b 0 = 3 then 0 else(b.size - 11) / 8:=by
 unfold rdM;dsimp only;split <;> simp[cA]
theorem Rg{b:ByteArray}(h:11≤b.size)(hok:bO (rdM b)):dn (rdM b) = b↔byt b 10 = (rdM b).inputs.length∧(byt b 0≠3→b.size - 11 = 8 * ((b.size - 11) / 8)):=by
 have hx:(b.extract 11 b.size).size = b.size - 11:=by rw[ByteArray.size_extract];omega
 have hh:Ae (rdM b) = [byt b 0,byt b 1,byt b 2,byt b 3,byt b 4,byt b 5,byt b 6,byt b 7,byt b 8,byt b 9,((rdM b).inputs.length:Int)]:=by
  obtain⟨a3,e3,l3⟩:=dY b 3
  obtain⟨a4,e4,l4⟩:=dY b 4
  obtain⟨a5,e5,l5⟩:=dY b 5
  obtain⟨a6,e6,l6⟩:=dY b 6
  obtain⟨a7,e7,l7⟩:=dY b 7
  obtain⟨a8,e8,l8⟩:=dY b 8
  have f1:(rdM b).epoch = byt b 3 * 256+byt b 4:=rfl
  have f2:(rdM b).lease = byt b 5 * 16777216+byt b 6 * 65536+byt b 7 * 256+byt b 8:=rfl
  unfold Ae
  rw[f1,f2,show(rdM b).kind = byt b 0 from rfl,show(rdM b).frm = byt b 1 from rfl,show(rdM b).to = byt b 2 from rfl,show(rdM b).task = byt b 9 from rfl]
  rw[e3,e4,e5,e6,e7,e8]
  congr 3
  congr 1;omega
  congr 1;omega
  congr 1;omega
  congr 1;omega
  congr 1;omega
  congr 1;omega
 have hsp:=Un b h
 have htl:byt b 0 = 3∨b.size - 11 = 8 * ((b.size - 11) / 8)→(rdM b).text++iH (rdM b).inputs = b.extract 11 b.size:=by
  intro h3
  unfold rdM;dsimp only
  by_cases hk:byt b 0 = 3
  ·rw[if_pos hk,if_pos hk,iH,G7]
  ·have h3:=h3.resolve_left hk
   rw[if_neg hk,if_neg hk,Le,vN _ _ OM,←h3,←hx,ByteArray.extract_zero_size]
 have hbody:dn (rdM b) = bl (Ae (rdM b)) ++ ((rdM b).text++iH (rdM b).inputs):=by unfold dn;rw[ByteArray.append_assoc]
 constructor
 ·intro e
  have hn:(rdM b).inputs.length≤8:=(de hok).1
  constructor
  ·have h1:=congrArg (fun x=>byt x 10) e
   rw[←h1,hbody,hh]
   exact WW OM
  ·intro hk
   have h2:=congrArg ByteArray.size e
   rw[f0 hok,oG,if_neg hk]at h2
   have ht:(rdM b).text = emp:=if_neg hk
   rw[ht]at h2
   have h0:emp.size = 0:=rfl
   omega
 ·rintro⟨h1,h2⟩
  rw[hbody,htl (by by_cases hk:byt b 0 = 3;exact Or.inl hk;exact Or.inr (h2 hk)),hh,←h1]
  exact hsp
end Go.K
end
section
open Go Go.Tm Go.Proofs
namespace Go.K
attribute [local irreducible] ByteArray.extract
def gC(q:ByteArray)(n:Nat):ByteArray:=q.extract (8 * n) q.size
theorem zD(q:ByteArray):q = gC q 0:=by unfold gC;rw[Nat.mul_zero,ByteArray.extract_zero_size]
theorem jH(q:ByteArray)(n:Nat):(gC q n).size = q.size - 8 * n:=by unfold gC;rw[ByteArray.size_extract];omega
theorem KB{q:ByteArray}{n:Nat}(h:8 * n+8≤q.size):(gC q n).extract 0 8 = q.extract (8 * n) (8 * n+8):=by
 unfold gC;rw[ByteArray.extract_extract,Nat.min_eq_left OM,Nat.add_zero]
theorem zE(q:ByteArray)(n:Nat)(h:8 * n+8≤q.size):(gC q n).extract 8 (gC q n).size = gC q (n+1):=by
 rw[jH]
 unfold gC;rw[ByteArray.extract_extract,show 8 * n+8 = 8 * (n+1) by omega,show min (8 * n+ (q.size - 8 * n)) q.size = q.size by omega]
theorem S2{q:ByteArray}{n:Nat}(h:8 * n+8≤q.size):(cA q n).map ak++ [ak ((gC q n).extract 0 8)] = (cA q (n+1)).map ak:=by
 rw[nB,List.map_append,KB h];rfl
theorem Ee{q:ByteArray}{n:Nat}(h:¬8 * n < q.size):gC q n = ⟨#[]⟩:=ByteArray.size_eq_zero_iff.1 (by rw[jH];omega)
theorem zF{q:ByteArray}{n:Nat}(h:8 * n < q.size):¬gC q n = ⟨#[]⟩:=by
 intro e
 have:=congrArg ByteArray.size e
 rw[jH]at this
 have h0:(ByteArray.mk #[]).size = 0:=rfl
 omega
def fE(tx:ByteArray):ByteArray:=(bv tx).extract 8 (bv tx).size
theorem ly{tx key:ByteArray}(h0:¬tx.size < 19)(h:¬(bO (rdM (tx.extract 8 tx.size))∧dn (rdM (tx.extract 8 tx.size)) = tx.extract 8 tx.size)):ef tx key = none :=
 if_pos (Or.inr (fun e=>h ⟨((lV h0).1 e).1,((lV h0).1 e).2.2.1⟩))
theorem zK{tx key:ByteArray}{m:Message}(h0:¬tx.size < 19)(hk:key.size≤30)(hs:tx.extract 0 8 = eY (tx.extract 8 tx.size) key)(e:rdM (tx.extract 8 tx.size) = m)(h1:bO m)(h2:dn (rdM (tx.extract 8 tx.size)) = tx.extract 8 tx.size):ef tx key = some m :=
 og h0 e ((lV h0).2 ⟨h1,hk,e ▸ h2,hs⟩)
theorem pR(tx key:ByteArray)(ht:tx.size≤68719476736):F pA [.val (.s tx),.val (.s key)] (fQ (ef tx key)) [[],[]]:=by
 by_cases h0:tx.size < 19
 ·by_cases hk:key.size≤30
  ·refine cX ?_
   conv=>whnf
   refine g 0 0 []<|J UB<|W.sq<|gd 9 25 [[],[],[],[],[BF],[BF],[BF],[BF],[],[BT],[BT],[BT],[BT],[BT],[BT],[BT],[BT]] ?_
   conv=>whnf
   refine J ⟨I,I,I,I,⟨dO,I⟩,⟨dO,I⟩,⟨dO,I⟩,dO,I,tO,tO,tO,tO,tO,tO,tO,tO,I⟩<|J KR<|W.cn<|J (fun _=>(g 25 27 []<|J Zea (RT ?_))) (noF rfl)
   exact congrArg fQ (nq h0).symm
  ·refine cX ?_
   conv=>whnf
   refine g 0 0 []<|J UB<|W.sq<|gd 9 25 [[],[],[],[],[BT],[BT],[BT],[BT],[],[BT],[BT],[BT],[BT],[BT],[BT],[BT],[BT]] ?_
   conv=>whnf
   refine J ⟨I,I,I,I,tO,tO,tO,tO,I,rfl,rfl,rfl,rfl,rfl,rfl,rfl,rfl,I⟩<|J KR<|W.cn<|J (fun _=>(g 25 27 []<|J Zea (RT ?_))) (noF rfl)
   exact congrArg fQ (nq h0).symm
 by_cases hk:¬key.size≤30
 ·have e:ef tx key = none:=if_pos (Or.inr (fun h=>hk ((lV h0).1 h).2.1))
  refine cX ?_
  conv=>whnf
  refine g 0 0 []<|J UB<|W.sq<|gd 9 25 [[],[],[],[],[BT],[BT],[BT],[BT],[],[BT],[BT],[BT],[BT],[BT],[BT],[BT],[BT]] ?_
  conv=>whnf
  refine J ⟨I,I,I,I,tO,tO,tO,tO,I,rfl,rfl,rfl,rfl,rfl,rfl,rfl,rfl,I⟩<|J KR<|W.cn<|J (fun _=>(g 25 27 []<|J Zea (RT ?_))) (noF rfl)
  exact congrArg fQ e.symm
 have hx:(tx.extract 8 tx.size).size = tx.size - 8:=by rw[ByteArray.size_extract];omega
 have c1:=nD (tx.extract 8 tx.size) key OM OM
 by_cases hs:¬tx.extract 0 8 = eY (tx.extract 8 tx.size) key
 ·have e:ef tx key = none:=if_pos (Or.inr (fun h=>hs ((lV h0).1 h).2.2.2))
  refine cX ?_
  conv=>whnf
  refine g 0 0 []<|J UB<|W.sq<|gd 9 25 [[],[],[],[],[BF],[BF],[BF],[BF],[],[BF],[BF,.n (8),.s (ByteArray.extract tx 0 8)],[BF],[BF,.n (8),.s (ByteArray.extract tx 8 (ByteArray.size tx))],[BF],[BF,.call (V.s (eY (ByteArray.extract tx 8 (ByteArray.size tx)) key)) [[],[]]],[BF],[BF]] ?_
  conv=>whnf
  refine J Zbj<|J KR<|W.cn<|J (fun _=>(g 25 27 []<|J Zea (RT ?_))) (noF (ag OM))
  exact congrArg fQ e.symm
 obtain⟨y1,hy1,hb1⟩:=bz (s:=tx.extract 8 tx.size) (n:=0) OM
 obtain⟨y2,hy2,hb2⟩:=bz (s:=tx.extract 8 tx.size) (n:=1) OM
 obtain⟨y3,hy3,hb3⟩:=bz (s:=tx.extract 8 tx.size) (n:=2) OM
 obtain⟨y4,hy4,hb4⟩:=bz (s:=tx.extract 8 tx.size) (n:=3) OM
 obtain⟨y5,hy5,hb5⟩:=bz (s:=tx.extract 8 tx.size) (n:=4) OM
 obtain⟨y6,hy6,hb6⟩:=bz (s:=tx.extract 8 tx.size) (n:=5) OM
 obtain⟨y7,hy7,hb7⟩:=bz (s:=tx.extract 8 tx.size) (n:=6) OM
 obtain⟨y8,hy8,hb8⟩:=bz (s:=tx.extract 8 tx.size) (n:=7) OM
 obtain⟨y9,hy9,hb9⟩:=bz (s:=tx.extract 8 tx.size) (n:=8) OM
 obtain⟨y10,hy10,hb10⟩:=bz (s:=tx.extract 8 tx.size) (n:=9) OM
 obtain⟨y11,hy11,hb11⟩:=bz (s:=tx.extract 8 tx.size) (n:=10) OM
 have f1:=QF y4.toNat y5.toNat hb4 hb5
 have f2:=QE y6.toNat y7.toNat y8.toNat y9.toNat hb6 hb7 hb8 hb9
 have hz:(bv tx).size = tx.size - 19:=by unfold bv;rw[ByteArray.size_extract,hx];omega
 have e:∀ t l,rdF (tx.extract 8 tx.size) t l = ⟨y1.toNat,y2.toNat,y3.toNat,(y4.toNat:Int) * 256+y5.toNat,(y6.toNat:Int) * 16777216+ (y7.toNat:Int) * 65536+ (y8.toNat:Int) * 256+y9.toNat,y10.toNat,t,l⟩:=by
  intro t l;simp only[rdF,bH hy1,bH hy2,bH hy3,bH hy4,bH hy5,bH hy6,bH hy7,bH hy8,bH hy9,bH hy10]
 have hb:=bH hy11
 have hbi:=@Rg (tx.extract 8 tx.size) OM
 rw[hb,oG,bH hy1,hx]at hbi
 by_cases h3:(y1.toNat:Int) = 3
 ·have e1:rdM (tx.extract 8 tx.size) = ⟨y1.toNat,y2.toNat,y3.toNat,(y4.toNat:Int) * 256+y5.toNat,(y6.toNat:Int) * 16777216+ (y7.toNat:Int) * 65536+ (y8.toNat:Int) * 256+y9.toNat,y10.toNat,bv tx,[]⟩:=by
   rw[←e];unfold rdM rdF;rw[bH hy1,if_pos h3,if_pos h3];rfl
  rw[if_pos h3]at hbi
  have ho:bO (rdM (tx.extract 8 tx.size))→(bv tx).size = 8:=by
   rw[e1];unfold bO;dsimp only;omega
  have hq:8≤(bv tx).size→(fE tx).size = (bv tx).size - 8:=by intro h;unfold fE;rw[ByteArray.size_extract];omega
  refine cX ?_
  conv=>whnf
  refine g 0 0 []<|J UB<|W.sq<|gd 9 25 [[],[],[],[],[BF],[BF],[BF],[BF],[],[BF],[BF,.n (8),.s (ByteArray.extract tx 0 8)],[BF],[BF,.n (8),.s (ByteArray.extract tx 8 (ByteArray.size tx))],[BF],[BF,.call (V.s (eY (ByteArray.extract tx 8 (ByteArray.size tx)) key)) [[],[]]],[BF],[BF]] ?_
  conv=>whnf
  refine J Zbj<|J KR<|W.cn<|J (noT (by simp_all)) fun _=>W.skip<|g 25 29 [.n (8),.s (ByteArray.extract tx 8 (ByteArray.size tx))]<|J Zcm<|gd 29 68 [[],[.i ((↑(UInt8.toNat y1):Int))],[.i ((↑(UInt8.toNat y1):Int))],[],[.i ((↑(UInt8.toNat y2):Int))],[.i ((↑(UInt8.toNat y2):Int))],[],[.i ((↑(UInt8.toNat y3):Int))],[.i ((↑(UInt8.toNat y3):Int))],[],[.i ((↑(UInt8.toNat y4):Int))],[.i ((↑(UInt8.toNat y4):Int))],[.i (IntKind.wrap IntKind.i64 ((↑(UInt8.toNat y4):Int) * 2 ^ min (Int.toNat 8) (IntKind.bits IntKind.i64)))],[],[.i ((↑(UInt8.toNat y5):Int))],[.i ((↑(UInt8.toNat y5):Int))],[.i (IntKind.wrap IntKind.i64 (↑(BitVec.toNat (BitVec.ofInt (IntKind.bits IntKind.i64) (IntKind.wrap IntKind.i64 ((↑(UInt8.toNat y4):Int) * 2 ^ min (Int.toNat 8) (IntKind.bits IntKind.i64)))|||BitVec.ofInt (IntKind.bits IntKind.i64) (↑(UInt8.toNat y5):Int))):Int))],[],[.i ((↑(UInt8.toNat y6):Int))],[.i ((↑(UInt8.toNat y6):Int))],[.i (IntKind.wrap IntKind.i64 ((↑(UInt8.toNat y6):Int) * 2 ^ min (Int.toNat 24) (IntKind.bits IntKind.i64)))],[],[.i ((↑(UInt8.toNat y7):Int))],[.i ((↑(UInt8.toNat y7):Int))],[.i (IntKind.wrap IntKind.i64 ((↑(UInt8.toNat y7):Int) * 2 ^ min (Int.toNat 16) (IntKind.bits IntKind.i64)))],[.i (IntKind.wrap IntKind.i64 (↑(BitVec.toNat (BitVec.ofInt (IntKind.bits IntKind.i64) (IntKind.wrap IntKind.i64 ((↑(UInt8.toNat y6):Int) * 2 ^ min (Int.toNat 24) (IntKind.bits IntKind.i64)))|||BitVec.ofInt (IntKind.bits IntKind.i64) (IntKind.wrap IntKind.i64 ((↑(UInt8.toNat y7):Int) * 2 ^ min (Int.toNat 16) (IntKind.bits IntKind.i64))))):Int))],[],[.i ((↑(UInt8.toNat y8):Int))],[.i ((↑(UInt8.toNat y8):Int))],[.i (IntKind.wrap IntKind.i64 ((↑(UInt8.toNat y8):Int) * 2 ^ min (Int.toNat 8) (IntKind.bits IntKind.i64)))],[.i (IntKind.wrap IntKind.i64 (↑(BitVec.toNat (BitVec.ofInt (IntKind.bits IntKind.i64) (IntKind.wrap IntKind.i64 (↑(BitVec.toNat (BitVec.ofInt (IntKind.bits IntKind.i64) (IntKind.wrap IntKind.i64 ((↑(UInt8.toNat y6):Int) * 2 ^ min (Int.toNat 24) (IntKind.bits IntKind.i64)))|||BitVec.ofInt (IntKind.bits IntKind.i64) (IntKind.wrap IntKind.i64 ((↑(UInt8.toNat y7):Int) * 2 ^ min (Int.toNat 16) (IntKind.bits IntKind.i64))))):Int))|||BitVec.ofInt (IntKind.bits IntKind.i64) (IntKind.wrap IntKind.i64 ((↑(UInt8.toNat y8):Int) * 2 ^ min (Int.toNat 8) (IntKind.bits IntKind.i64))))):Int))],[],[.i ((↑(UInt8.toNat y9):Int))],[.i ((↑(UInt8.toNat y9):Int))],[.i (IntKind.wrap IntKind.i64 (↑(BitVec.toNat (BitVec.ofInt (IntKind.bits IntKind.i64) (IntKind.wrap IntKind.i64 (↑(BitVec.toNat (BitVec.ofInt (IntKind.bits IntKind.i64) (IntKind.wrap IntKind.i64 (↑(BitVec.toNat (BitVec.ofInt (IntKind.bits IntKind.i64) (IntKind.wrap IntKind.i64 ((↑(UInt8.toNat y6):Int) * 2 ^ min (Int.toNat 24) (IntKind.bits IntKind.i64)))|||BitVec.ofInt (IntKind.bits IntKind.i64) (IntKind.wrap IntKind.i64 ((↑(UInt8.toNat y7):Int) * 2 ^ min (Int.toNat 16) (IntKind.bits IntKind.i64))))):Int))|||BitVec.ofInt (IntKind.bits IntKind.i64) (IntKind.wrap IntKind.i64 ((↑(UInt8.toNat y8):Int) * 2 ^ min (Int.toNat 8) (IntKind.bits IntKind.i64))))):Int))|||BitVec.ofInt (IntKind.bits IntKind.i64) (↑(UInt8.toNat y9):Int))):Int))],[],[.i ((↑(UInt8.toNat y10):Int))],[.i ((↑(UInt8.toNat y10):Int))],[],[],[]] ?_
  conv=>whnf
  refine J ⟨I,⟨OM,ixb hy1⟩,w8 _,I,⟨OM,ixb hy2⟩,w8 _,I,⟨OM,ixb hy3⟩,w8 _,I,⟨OM,ixb hy4⟩,w8 _,Zdp,I,⟨OM,ixb hy5⟩,w8 _,rfl,I,⟨OM,ixb hy6⟩,w8 _,Zdp,I,⟨OM,ixb hy7⟩,w8 _,Zdp,rfl,I,⟨OM,ixb hy8⟩,w8 _,Zdp,rfl,I,⟨OM,ixb hy9⟩,w8 _,rfl,I,⟨OM,ixb hy10⟩,w8 _,I,I,UH,I⟩<|J KR<|g 68 71 [.i ((↑(UInt8.toNat y11):Int)),.i ((↑(UInt8.toNat y11):Int))]<|J ⟨I,⟨OM,ixb hy11⟩,w8 _,I,I⟩<|g 71 73 [.n (11),.s (ByteArray.extract (ByteArray.extract tx 8 (ByteArray.size tx)) 11 (ByteArray.size (ByteArray.extract tx 8 (ByteArray.size tx))))]<|J Zcm<|W.sq<|g 73 75 []<|J UC<|W.cn<|J (fun _=>(W.sq (g 75 78 []<|J UC (W.cn<|J (fun h1=>?_) fun h1=>?_)))) (noF tO)
  replace h1:=dt h1
  refine g 78 80 []<|J Zea<|RT ?_
  rotate_left
  replace h1:=df h1
  refine W.skip<|rgd [[],[.n (8),.s (ByteArray.extract (ByteArray.extract (ByteArray.extract tx 8 (ByteArray.size tx)) 11 (ByteArray.size (ByteArray.extract tx 8 (ByteArray.size tx)))) 0 8)],[],[.n (8),.s (ByteArray.extract (ByteArray.extract (ByteArray.extract tx 8 (ByteArray.size tx)) 11 (ByteArray.size (ByteArray.extract tx 8 (ByteArray.size tx)))) 8 (ByteArray.size (ByteArray.extract (ByteArray.extract tx 8 (ByteArray.size tx)) 11 (ByteArray.size (ByteArray.extract tx 8 (ByteArray.size tx))))))],[],[],[]] ?_
  conv=>whnf
  refine J ⟨I,⟨rfl,I,OM,OM,rfl⟩,I,⟨I,rfl,OM,OM,rfl⟩,I,UA,I,I⟩<|J KR<|W.sq<|g 8 89 [.i (8 * (↑(UInt8.toNat y11):Int))]<|J ⟨I,I,I,wO,I,I⟩<|W.cn<|J (fun h2=>?_) fun h2=>?_
  replace h2:=ndt h2
  refine g 89 91 []<|J Zea<|RT ?_
  rotate_left
  replace h2:=ndf h2
  refine W.skip<|W.sq<|W.blk ?_
  rotate_left
  ·replace h1:((bv tx).size:Int) < 8:=h1
   exact congrArg fQ (ly h0 (fun h=>by have:=ho h.1;omega)).symm
  ·replace h1:¬((bv tx).size:Int) < 8:=h1
   replace h2:¬((fE tx).size:Int) = 8 * (y11.toNat:Int):=h2
   exact congrArg fQ (ly h0 (fun h=>by have:=ho h.1;have:=((hbi h.1).1 h.2).1;omega)).symm
  ·replace h1:¬((bv tx).size:Int) < 8:=h1
   replace h2:((fE tx).size:Int) = 8 * (y11.toNat:Int):=h2
   refine W.lp (fun s (n:Nat)=>⟨[(0,s.s 0),(4,s.s 4),(5,s.s 5),(6,.s (gC (fE tx) n)),(7,s.s 7)],[(4,[s.c 4 0,s.c 4 1,s.c 4 2,s.c 4 3,s.c 4 4,s.c 4 5,s.c 4 6,s.c 4 7]),(7,[.t (.i y1.toNat),.t (.i y2.toNat),.t (.i y3.toNat),.t (.i ((y4.toNat:Int) * 256+y5.toNat)),.t (.i ((y6.toNat:Int) * 16777216+ (y7.toNat:Int) * 65536+ (y8.toNat:Int) * 256+y9.toNat)),.t (.i y10.toNat),.t (.s ((bv tx).extract 0 8)),.own [false] ((cA (fE tx) n).map ak)])],[]⟩) (fun(n:Nat)=>8 * n≤(fE tx).size) (fun(n:Nat)=>(fE tx).size - 8 * n) (0) [some 4,some 7] [] ⟨rfl,⟨rfl,rfl,rfl,(congrArg (fun z=>V.t (T.v (Value.string z))) (zD (fE tx))),rfl,I⟩,⟨Zab,⟨⟨rfl,⟨rfl,⟨rfl,⟨rfl,⟨(congrArg (fun z=>V.t (T.v (Value.int _ z))) (f1)),⟨(congrArg (fun z=>V.t (T.v (Value.int _ z))) (f2)),Zdk⟩⟩⟩⟩⟩⟩,I⟩⟩,I⟩ OM ?_
   intro n hn
   have hrz:=jH (fE tx) n
   have hcl:=qC (fE tx) n
   have c2:=cG ⟨y1.toNat,y2.toNat,y3.toNat,(y4.toNat:Int) * 256+y5.toNat,(y6.toNat:Int) * 16777216+ (y7.toNat:Int) * 65536+ (y8.toNat:Int) * 256+y9.toNat,y10.toNat,(bv tx).extract 0 8,cA (fE tx) n⟩ (by rw[show(Message.inputs ⟨y1.toNat,y2.toNat,y3.toNat,(y4.toNat:Int) * 256+y5.toNat,(y6.toNat:Int) * 16777216+ (y7.toNat:Int) * 65536+ (y8.toNat:Int) * 256+y9.toNat,y10.toNat,(bv tx).extract 0 8,cA (fE tx) n⟩) = cA (fE tx) n from rfl,hcl];omega)
   by_cases hn8:8 * n < (fE tx).size
   ·have hne:=zF hn8
    conv=>whnf
    refine W.sq<|g 91 92 []<|J UB<|W.cn<|J (fun _=>(W.skip (W.sq (W.blk (rgd [[],[],[],[.n (8),.s (ByteArray.extract (gC (fE tx) n) 0 8)],[],[],[],[]] ?_))))) (noF (ag OM))
    conv=>whnf
    refine⟨⟨I,I,I,⟨rfl,I,OM,OM,rfl⟩,US,Zdi,I,UA,I⟩,by kernel_rfl,?_⟩
    refine rg [.n (8),.s (ByteArray.extract (gC (fE tx) n) 8 (ByteArray.size (gC (fE tx) n)))] ?_
    conv=>whnf
    refine⟨⟨I,⟨I,rfl,OM,OM,rfl⟩,I,I⟩,?_⟩
    ·refine⟨n+1,[some 4,some 7],[],⟨rfl,⟨rfl,rfl,rfl,(congrArg (fun z=>V.t (T.v (Value.string z))) (zE (fE tx) n OM)),rfl,I⟩,⟨Zab,⟨⟨rfl,⟨rfl,⟨rfl,⟨rfl,⟨rfl,⟨rfl,⟨rfl,⟨rfl,⟨(congrArg (V.own _) (S2 OM)),I⟩⟩⟩⟩⟩⟩⟩⟩⟩,I⟩⟩,I⟩,?_,?_⟩
     rotate_left
     (dsimp only;omega)
     dsimp only
     omega
   ·have heq:=Ee hn8
    have em:n = 0→(bv tx).size = 8→rdM (tx.extract 8 tx.size) = ⟨y1.toNat,y2.toNat,y3.toNat,(y4.toNat:Int) * 256+y5.toNat,(y6.toNat:Int) * 16777216+ (y7.toNat:Int) * 65536+ (y8.toNat:Int) * 256+y9.toNat,y10.toNat,(bv tx).extract 0 8,cA (fE tx) n⟩:=by
     intro hn0 h8
     rw[e1,hn0,show cA (fE tx) 0 = []from rfl]
     rw[show(bv tx).extract 0 8 = bv tx by rw[←h8,ByteArray.extract_zero_size]]
    conv=>whnf
    refine W.sq<|g 91 92 []<|J UB<|W.cn<|J (noT nO) fun _=>W.exit<|W.sq<|g 92 104 [.call (V.b (decide (bO {kind:=(↑(UInt8.toNat y1):Int),frm:=(↑(UInt8.toNat y2):Int),to:=(↑(UInt8.toNat y3):Int),epoch:=(↑(UInt8.toNat y4):Int) * 256+ (↑(UInt8.toNat y5):Int),lease:=(↑(UInt8.toNat y6):Int) * 16777216+ (↑(UInt8.toNat y7):Int) * 65536+ (↑(UInt8.toNat y8):Int) * 256+ (↑(UInt8.toNat y9):Int),task:=(↑(UInt8.toNat y10):Int),text:=ByteArray.extract (bv tx) 0 8,inputs:=cA (fE tx) n:Message}))) [[]]]<|J ⟨I,Zb9,I,I⟩<|W.cn<|J (fun h4=>?_) fun h4=>?_
    replace h4:=ndt h4
    refine g 104 106 []<|J Zea<|RT ?_
    rotate_left
    replace h4:=ndf h4
    refine W.skip<|g 6 107 []<|J Zea<|RT ?_
    rotate_left
    ·exact congrArg fQ (ly h0 (fun h=>by
      have h4:=ho h.1
      have h5:=((hbi h.1).1 h.2).1
      rw[em OM h4]at h
      exact absurd h.1 AS)).symm
    ·have hok:bO ⟨y1.toNat,y2.toNat,y3.toNat,(y4.toNat:Int) * 256+y5.toNat,(y6.toNat:Int) * 16777216+ (y7.toNat:Int) * 65536+ (y8.toNat:Int) * 256+y9.toNat,y10.toNat,(bv tx).extract 0 8,cA (fE tx) n⟩:=by assumption
     have hn0:n = 0:=by
      have:(cA (fE tx) n).length = 0:=by
       unfold bO at hok;dsimp only at hok;omega
      omega
     have h8:(bv tx).size = 8:=by omega
     exact congrArg fQ (zK h0 OM (Decidable.not_not.1 hs) (em hn0 h8) hok ((hbi (by rw[em hn0 h8];exact hok)).2 ⟨by omega,fun h=>absurd h3 h⟩)).symm
 ·rw[if_neg h3]at hbi
  have e1:∀ n,n = (tx.size - 19) / 8→rdM (tx.extract 8 tx.size) = ⟨y1.toNat,y2.toNat,y3.toNat,(y4.toNat:Int) * 256+y5.toNat,(y6.toNat:Int) * 16777216+ (y7.toNat:Int) * 65536+ (y8.toNat:Int) * 256+y9.toNat,y10.toNat,emp,cA (bv tx) n⟩:=by
   intro n hn;rw[←e];unfold rdM rdF;rw[bH hy1,if_neg h3,if_neg h3,hn,hx,bv,hx,show tx.size - 8 - 11 = tx.size - 19 by omega]
  refine cX ?_
  conv=>whnf
  refine g 0 0 []<|J UB<|W.sq<|gd 9 25 [[],[],[],[],[BF],[BF],[BF],[BF],[],[BF],[BF,.n (8),.s (ByteArray.extract tx 0 8)],[BF],[BF,.n (8),.s (ByteArray.extract tx 8 (ByteArray.size tx))],[BF],[BF,.call (V.s (eY (ByteArray.extract tx 8 (ByteArray.size tx)) key)) [[],[]]],[BF],[BF]] ?_
  conv=>whnf
  refine J Zbj<|J KR<|W.cn<|J (noT (by simp_all)) fun _=>W.skip<|g 25 29 [.n (8),.s (ByteArray.extract tx 8 (ByteArray.size tx))]<|J Zcm<|gd 29 68 [[],[.i ((↑(UInt8.toNat y1):Int))],[.i ((↑(UInt8.toNat y1):Int))],[],[.i ((↑(UInt8.toNat y2):Int))],[.i ((↑(UInt8.toNat y2):Int))],[],[.i ((↑(UInt8.toNat y3):Int))],[.i ((↑(UInt8.toNat y3):Int))],[],[.i ((↑(UInt8.toNat y4):Int))],[.i ((↑(UInt8.toNat y4):Int))],[.i (IntKind.wrap IntKind.i64 ((↑(UInt8.toNat y4):Int) * 2 ^ min (Int.toNat 8) (IntKind.bits IntKind.i64)))],[],[.i ((↑(UInt8.toNat y5):Int))],[.i ((↑(UInt8.toNat y5):Int))],[.i (IntKind.wrap IntKind.i64 (↑(BitVec.toNat (BitVec.ofInt (IntKind.bits IntKind.i64) (IntKind.wrap IntKind.i64 ((↑(UInt8.toNat y4):Int) * 2 ^ min (Int.toNat 8) (IntKind.bits IntKind.i64)))|||BitVec.ofInt (IntKind.bits IntKind.i64) (↑(UInt8.toNat y5):Int))):Int))],[],[.i ((↑(UInt8.toNat y6):Int))],[.i ((↑(UInt8.toNat y6):Int))],[.i (IntKind.wrap IntKind.i64 ((↑(UInt8.toNat y6):Int) * 2 ^ min (Int.toNat 24) (IntKind.bits IntKind.i64)))],[],[.i ((↑(UInt8.toNat y7):Int))],[.i ((↑(UInt8.toNat y7):Int))],[.i (IntKind.wrap IntKind.i64 ((↑(UInt8.toNat y7):Int) * 2 ^ min (Int.toNat 16) (IntKind.bits IntKind.i64)))],[.i (IntKind.wrap IntKind.i64 (↑(BitVec.toNat (BitVec.ofInt (IntKind.bits IntKind.i64) (IntKind.wrap IntKind.i64 ((↑(UInt8.toNat y6):Int) * 2 ^ min (Int.toNat 24) (IntKind.bits IntKind.i64)))|||BitVec.ofInt (IntKind.bits IntKind.i64) (IntKind.wrap IntKind.i64 ((↑(UInt8.toNat y7):Int) * 2 ^ min (Int.toNat 16) (IntKind.bits IntKind.i64))))):Int))],[],[.i ((↑(UInt8.toNat y8):Int))],[.i ((↑(UInt8.toNat y8):Int))],[.i (IntKind.wrap IntKind.i64 ((↑(UInt8.toNat y8):Int) * 2 ^ min (Int.toNat 8) (IntKind.bits IntKind.i64)))],[.i (IntKind.wrap IntKind.i64 (↑(BitVec.toNat (BitVec.ofInt (IntKind.bits IntKind.i64) (IntKind.wrap IntKind.i64 (↑(BitVec.toNat (BitVec.ofInt (IntKind.bits IntKind.i64) (IntKind.wrap IntKind.i64 ((↑(UInt8.toNat y6):Int) * 2 ^ min (Int.toNat 24) (IntKind.bits IntKind.i64)))|||BitVec.ofInt (IntKind.bits IntKind.i64) (IntKind.wrap IntKind.i64 ((↑(UInt8.toNat y7):Int) * 2 ^ min (Int.toNat 16) (IntKind.bits IntKind.i64))))):Int))|||BitVec.ofInt (IntKind.bits IntKind.i64) (IntKind.wrap IntKind.i64 ((↑(UInt8.toNat y8):Int) * 2 ^ min (Int.toNat 8) (IntKind.bits IntKind.i64))))):Int))],[],[.i ((↑(UInt8.toNat y9):Int))],[.i ((↑(UInt8.toNat y9):Int))],[.i (IntKind.wrap IntKind.i64 (↑(BitVec.toNat (BitVec.ofInt (IntKind.bits IntKind.i64) (IntKind.wrap IntKind.i64 (↑(BitVec.toNat (BitVec.ofInt (IntKind.bits IntKind.i64) (IntKind.wrap IntKind.i64 (↑(BitVec.toNat (BitVec.ofInt (IntKind.bits IntKind.i64) (IntKind.wrap IntKind.i64 ((↑(UInt8.toNat y6):Int) * 2 ^ min (Int.toNat 24) (IntKind.bits IntKind.i64)))|||BitVec.ofInt (IntKind.bits IntKind.i64) (IntKind.wrap IntKind.i64 ((↑(UInt8.toNat y7):Int) * 2 ^ min (Int.toNat 16) (IntKind.bits IntKind.i64))))):Int))|||BitVec.ofInt (IntKind.bits IntKind.i64) (IntKind.wrap IntKind.i64 ((↑(UInt8.toNat y8):Int) * 2 ^ min (Int.toNat 8) (IntKind.bits IntKind.i64))))):Int))|||BitVec.ofInt (IntKind.bits IntKind.i64) (↑(UInt8.toNat y9):Int))):Int))],[],[.i ((↑(UInt8.toNat y10):Int))],[.i ((↑(UInt8.toNat y10):Int))],[],[],[]] ?_
  conv=>whnf
  refine J ⟨I,⟨OM,ixb hy1⟩,w8 _,I,⟨OM,ixb hy2⟩,w8 _,I,⟨OM,ixb hy3⟩,w8 _,I,⟨OM,ixb hy4⟩,w8 _,Zdp,I,⟨OM,ixb hy5⟩,w8 _,rfl,I,⟨OM,ixb hy6⟩,w8 _,Zdp,I,⟨OM,ixb hy7⟩,w8 _,Zdp,rfl,I,⟨OM,ixb hy8⟩,w8 _,Zdp,rfl,I,⟨OM,ixb hy9⟩,w8 _,rfl,I,⟨OM,ixb hy10⟩,w8 _,I,I,UH,I⟩<|J KR<|g 68 71 [.i ((↑(UInt8.toNat y11):Int)),.i ((↑(UInt8.toNat y11):Int))]<|J ⟨I,⟨OM,ixb hy11⟩,w8 _,I,I⟩<|g 71 73 [.n (11),.s (ByteArray.extract (ByteArray.extract tx 8 (ByteArray.size tx)) 11 (ByteArray.size (ByteArray.extract tx 8 (ByteArray.size tx))))]<|J Zcm<|W.sq<|g 73 75 []<|J UC<|W.cn<|J (noT dO) fun _=>W.skip<|W.sq<|g 8 89 [.i (8 * (↑(UInt8.toNat y11):Int))]<|J ⟨I,I,I,wO,I,I⟩<|W.cn<|J (fun h1=>?_) fun h1=>?_
  replace h1:=ndt h1
  refine g 89 91 []<|J Zea<|RT ?_
  rotate_left
  replace h1:=ndf h1
  refine W.skip<|W.sq<|W.blk ?_
  rotate_left
  ·replace h1:¬((bv tx).size:Int) = 8 * (y11.toNat:Int):=h1
   exact congrArg fQ (ly h0 (fun h=>by have h5:=(hbi h.1).1 h.2;have:=h5.2 h3;omega)).symm
  ·replace h1:((bv tx).size:Int) = 8 * (y11.toNat:Int):=h1
   refine W.lp (fun s (n:Nat)=>⟨[(0,s.s 0),(4,s.s 4),(5,s.s 5),(6,.s (gC (bv tx) n)),(7,s.s 7)],[(4,[s.c 4 0,s.c 4 1,s.c 4 2,s.c 4 3,s.c 4 4,s.c 4 5,s.c 4 6,s.c 4 7]),(7,[.t (.i y1.toNat),.t (.i y2.toNat),.t (.i y3.toNat),.t (.i ((y4.toNat:Int) * 256+y5.toNat)),.t (.i ((y6.toNat:Int) * 16777216+ (y7.toNat:Int) * 65536+ (y8.toNat:Int) * 256+y9.toNat)),.t (.i y10.toNat),.t (.s emp),.own [false] ((cA (bv tx) n).map ak)])],[]⟩) (fun(n:Nat)=>8 * n≤(bv tx).size) (fun(n:Nat)=>(bv tx).size - 8 * n) (0) [some 4,some 7] [] ⟨rfl,⟨rfl,rfl,rfl,(congrArg (fun z=>V.t (T.v (Value.string z))) (zD (bv tx))),rfl,I⟩,⟨Zab,⟨⟨rfl,⟨rfl,⟨rfl,⟨rfl,⟨(congrArg (fun z=>V.t (T.v (Value.int _ z))) (f1)),⟨(congrArg (fun z=>V.t (T.v (Value.int _ z))) (f2)),Zdk⟩⟩⟩⟩⟩⟩,I⟩⟩,I⟩ OM ?_
   intro n hn
   have hrz:=jH (bv tx) n
   have hcl:=qC (bv tx) n
   have c2:=cG ⟨y1.toNat,y2.toNat,y3.toNat,(y4.toNat:Int) * 256+y5.toNat,(y6.toNat:Int) * 16777216+ (y7.toNat:Int) * 65536+ (y8.toNat:Int) * 256+y9.toNat,y10.toNat,emp,cA (bv tx) n⟩ (by rw[show(Message.inputs ⟨y1.toNat,y2.toNat,y3.toNat,(y4.toNat:Int) * 256+y5.toNat,(y6.toNat:Int) * 16777216+ (y7.toNat:Int) * 65536+ (y8.toNat:Int) * 256+y9.toNat,y10.toNat,emp,cA (bv tx) n⟩) = cA (bv tx) n from rfl,hcl];omega)
   by_cases hn8:8 * n < (bv tx).size
   ·have hne:=zF hn8
    conv=>whnf
    refine W.sq<|g 91 92 []<|J UB<|W.cn<|J (fun _=>(W.skip (W.sq (W.blk (rgd [[],[],[],[.n (8),.s (ByteArray.extract (gC (bv tx) n) 0 8)],[],[],[],[]] ?_))))) (noF (ag OM))
    conv=>whnf
    refine⟨⟨I,I,I,⟨rfl,I,OM,OM,rfl⟩,US,Zdi,I,UA,I⟩,by kernel_rfl,?_⟩
    refine rg [.n (8),.s (ByteArray.extract (gC (bv tx) n) 8 (ByteArray.size (gC (bv tx) n)))] ?_
    conv=>whnf
    refine⟨⟨I,⟨I,rfl,OM,OM,rfl⟩,I,I⟩,?_⟩
    ·refine⟨n+1,[some 4,some 7],[],⟨rfl,⟨rfl,rfl,rfl,(congrArg (fun z=>V.t (T.v (Value.string z))) (zE (bv tx) n OM)),rfl,I⟩,⟨Zab,⟨⟨rfl,⟨rfl,⟨rfl,⟨rfl,⟨rfl,⟨rfl,⟨rfl,⟨rfl,⟨(congrArg (V.own _) (S2 OM)),I⟩⟩⟩⟩⟩⟩⟩⟩⟩,I⟩⟩,I⟩,?_,?_⟩
     rotate_left
     (dsimp only;omega)
     dsimp only
     omega
   ·have heq:=Ee hn8
    have em:=e1 n OM
    conv=>whnf
    refine W.sq<|g 91 92 []<|J UB<|W.cn<|J (noT nO) fun _=>W.exit<|W.sq<|g 92 104 [.call (V.b (decide (bO {kind:=(↑(UInt8.toNat y1):Int),frm:=(↑(UInt8.toNat y2):Int),to:=(↑(UInt8.toNat y3):Int),epoch:=(↑(UInt8.toNat y4):Int) * 256+ (↑(UInt8.toNat y5):Int),lease:=(↑(UInt8.toNat y6):Int) * 16777216+ (↑(UInt8.toNat y7):Int) * 65536+ (↑(UInt8.toNat y8):Int) * 256+ (↑(UInt8.toNat y9):Int),task:=(↑(UInt8.toNat y10):Int),text:=emp,inputs:=cA (bv tx) n:Message}))) [[]]]<|J ⟨I,Zb9,I,I⟩<|W.cn<|J (fun h2=>?_) fun h2=>?_
    replace h2:=ndt h2
    refine g 104 106 []<|J Zea<|RT ?_
    rotate_left
    replace h2:=ndf h2
    refine W.skip<|g 6 107 []<|J Zea<|RT ?_
    rotate_left
    ·exact congrArg fQ (ly h0 (fun h=>by rw[em]at h;exact absurd h.1 AS)).symm
    ·have hok:bO ⟨y1.toNat,y2.toNat,y3.toNat,(y4.toNat:Int) * 256+y5.toNat,(y6.toNat:Int) * 16777216+ (y7.toNat:Int) * 65536+ (y8.toNat:Int) * 256+y9.toNat,y10.toNat,emp,cA (bv tx) n⟩:=by assumption
     exact congrArg fQ (zK h0 OM (Decidable.not_not.1 hs) em hok ((hbi (by rw[em];exact hok)).2 ⟨by omega,fun h=>by omega⟩)).symm
end Go.K
end
section
open Go Go.Tm Go.Proofs
namespace Go.K
structure Acted where
 worker:Worker
 out:List Message
 deriving DecidableEq
abbrev pm(x:Acted):V:=.agg [.t (.i x.worker.number),.t (.i x.worker.epoch),.t (.b x.worker.up),.t (.i x.worker.state),.t (.i x.worker.lease),.t (.i x.worker.task),.t (.i x.worker.cost),.t (.i x.worker.left),.own [false] (x.worker.inputs.map ak),.t (.s x.worker.text),.t (.i x.worker.since),.own cK (x.out.map aH)]
abbrev zV:Acted:=⟨⟨0,0,false,0,0,0,0,0,[],emp,0⟩,[]⟩
def fv(w:Worker)(k:Int):Message:=⟨k,w.number,0,w.epoch,if k = 5 then 0 else w.lease,if k = 3 then w.task else 0,if k = 3 then w.text else emp,[]⟩
theorem bU(w:Worker)(k:Int)(hk:k = 2∨k = 3∨k = 5):F px [.val (dS w),.val (.i k)] (bC (fv w k)) [[],[]]:=by
 rcases hk with rfl|rfl|rfl
 ·refine fM ?_
  conv=>whnf
  refine g 0 0 []<|J Zd6<|g 6 12 []<|J ⟨I,I,I,I,I,I,I,UH,I⟩<|W.sq<|g 0 1 []<|J UB<|W.cn<|J (fun _=>(rg []<|J UW (W.sq (g 12 18 []<|J UB (W.cn<|J (noT rfl) fun _=>(W.skip (g 5 26 []<|J ⟨I,UH,I⟩ (RT ?_)))))))) (noF rfl)
  rfl
 ·refine fM ?_
  conv=>whnf
  refine g 0 0 []<|J Zd6<|g 6 12 []<|J ⟨I,I,I,I,I,I,I,UH,I⟩<|W.sq<|g 0 1 []<|J UB<|W.cn<|J (fun _=>(rg []<|J UW (W.sq (g 12 18 []<|J UB (W.cn<|J (fun _=>(rgd [[],[],[],[],[],[],[],[]] ?_)) (noF rfl)))))) (noF rfl)
  conv=>whnf
  refine⟨⟨I,I,I,I,I,UA,I,UA,I⟩,by kernel_rfl,?_⟩
  refine g 5 26 []<|J ⟨I,UH,I⟩<|RT ?_
  rfl
 ·refine fM ?_
  conv=>whnf
  refine g 0 0 []<|J Zd6<|g 6 12 []<|J ⟨I,I,I,I,I,I,I,UH,I⟩<|W.sq<|g 0 1 []<|J UB<|W.cn<|J (noT rfl) fun _=>W.skip<|W.sq<|g 12 18 []<|J UB<|W.cn<|J (noT rfl) fun _=>W.skip<|g 5 26 []<|J ⟨I,UH,I⟩<|RT ?_
  rfl
theorem dz(w:Worker)(k:Int)(hk:k = 2∨k = 3∨k = 5):F BA [.val (dS w),.val (.i k)] (bC (fv w k)) [[],[]]:=by
 rcases hk with rfl|rfl|rfl
 ·refine kw ?_
  conv=>whnf
  refine g 0 0 []<|J Zd6<|g 6 12 []<|J ⟨I,I,I,I,I,I,I,UH,I⟩<|W.sq<|g 0 1 []<|J UB<|W.cn<|J (fun _=>(rg []<|J UW (W.sq (g 12 18 []<|J UB (W.cn<|J (noT rfl) fun _=>(W.skip (g 5 26 []<|J ⟨I,UH,I⟩ (RT ?_)))))))) (noF rfl)
  rfl
 ·refine kw ?_
  conv=>whnf
  refine g 0 0 []<|J Zd6<|g 6 12 []<|J ⟨I,I,I,I,I,I,I,UH,I⟩<|W.sq<|g 0 1 []<|J UB<|W.cn<|J (fun _=>(rg []<|J UW (W.sq (g 12 18 []<|J UB (W.cn<|J (fun _=>(g 18 22 []<|J UW (rg []<|J UW (g 5 26 []<|J ⟨I,UH,I⟩ ?_)))) (noF rfl)))))) (noF rfl)
  refine RT ?_
  rfl
 ·refine kw ?_
  conv=>whnf
  refine g 0 0 []<|J Zd6<|g 6 12 []<|J ⟨I,I,I,I,I,I,I,UH,I⟩<|W.sq<|g 0 1 []<|J UB<|W.cn<|J (noT rfl) fun _=>W.skip<|W.sq<|g 12 18 []<|J UB<|W.cn<|J (noT rfl) fun _=>W.skip<|g 5 26 []<|J ⟨I,UH,I⟩<|RT ?_
  rfl
def Bu(ts:List Task)(k:Int):ByteArray:=((ts[k.toNat]?).map Task.name).getD emp
def aZ(w:Worker):Int:=if w.since < 1000000 then w.since+1 else w.since
def gB(w:Worker)(ts:List Task):Worker:=⟨w.number,w.epoch,w.up,2,w.lease,w.task,0,w.left - 1,[],cD (Bu ts w.task) w.inputs,0⟩
def cL(w:Worker)(s:Int):Worker:=⟨w.number,w.epoch,w.up,w.state,w.lease,w.task,w.cost,w.left,w.inputs,w.text,s⟩
def mY(w:Worker):Worker:=⟨w.number,w.epoch,w.up,w.state,w.lease,w.task,w.cost,w.left - 1,w.inputs,w.text,w.since⟩
def DM(w:Worker)(k:Int):Acted:=⟨cL w 0,[fv (cL w 0) k]⟩
def gp(w:Worker)(ts:List Task):Acted :=
 if w.up = false then⟨w,[]⟩else
 if w.state = 1 then
  if w.left - 1 = 0 then⟨gB w ts,[fv (gB w ts) 3]⟩
  else if 4≤aZ w then DM (mY w) 2 else⟨cL (mY w) (aZ w),[]⟩
 else if w.state = 2 then(if 4≤aZ w then DM w 3 else⟨cL w (aZ w),[]⟩)
 else if 3≤aZ w then DM w 5 else⟨cL w (aZ w),[]⟩
theorem I8{w:Worker}(h:av w):(1≤w.number∧w.number≤8)∧(1≤w.epoch∧w.epoch≤300)∧(0≤w.since∧w.since≤1000000):=⟨h.1,h.2.1,h.2.2.1⟩
theorem zS{w:Worker}(h:av w)(h1:w.state = 1):eb w:=by
 rcases h.2.2.2.2 with q|q|q
 ·have:=q.1;omega
 ·exact q
 ·have:=q.1;omega
theorem A1{w:Worker}(h:av w):w.state = 0∨w.state = 1∨w.state = 2:=by
 rcases h.2.2.2.2 with q|q|q
 ·exact .inl q.1
 ·exact .inr (.inl q.1)
 ·exact .inr (.inr q.1)
theorem uM{w:Worker}{ts:List Task}(h:w.up = false):gp w ts = ⟨w,[]⟩:=if_pos h
theorem lu{w:Worker}{ts:List Task}(h:¬w.up = false)(h1:w.state = 1)(h2:w.left - 1 = 0):gp w ts = ⟨gB w ts,[fv (gB w ts) 3]⟩:=by rw[gp,if_neg h,if_pos h1,if_pos h2]
theorem lv{w:Worker}{ts:List Task}(h:¬w.up = false)(h1:w.state = 1)(h2:¬w.left - 1 = 0)(h4:4≤aZ w):gp w ts = DM (mY w) 2:=by rw[gp,if_neg h,if_pos h1,if_neg h2,if_pos h4]
theorem uN{w:Worker}{ts:List Task}(h:¬w.up = false)(h1:w.state = 1)(h2:¬w.left - 1 = 0)(h4:¬4≤aZ w):gp w ts = ⟨cL (mY w) (aZ w),[]⟩:=by rw[gp,if_neg h,if_pos h1,if_neg h2,if_neg h4]
theorem lr{w:Worker}{ts:List Task}(h:¬w.up = false)(h1:w.state = 2)(h4:4≤aZ w):gp w ts = DM w 3:=by rw[gp,if_neg h,if_neg OM,if_pos h1,if_pos h4]
theorem pX{w:Worker}{ts:List Task}(h:¬w.up = false)(h1:w.state = 2)(h4:¬4≤aZ w):gp w ts = ⟨cL w (aZ w),[]⟩:=by rw[gp,if_neg h,if_neg OM,if_pos h1,if_neg h4]
theorem ls{w:Worker}{ts:List Task}(h:¬w.up = false)(h1:w.state = 0)(h4:3≤aZ w):gp w ts = DM w 5:=by rw[gp,if_neg h,if_neg OM,if_neg OM,if_pos h4]
theorem pY{w:Worker}{ts:List Task}(h:¬w.up = false)(h1:w.state = 0)(h4:¬3≤aZ w):gp w ts = ⟨cL w (aZ w),[]⟩:=by rw[gp,if_neg h,if_neg OM,if_neg OM,if_neg h4]
theorem Ml{ts:List Task}{k:Int}{t:Task}(h:ts[k.toNat]? = some t):Bu ts k = t.name:=by unfold Bu;rw[h];rfl
theorem Jd{ts:List Task}{k:Int}(h:ts[k.toNat]? = none):Bu ts k = emp:=by unfold Bu;rw[h];rfl
theorem EH{w:Worker}(h:eb w):w.inputs.length≤8∧(∀ s∈w.inputs,s.size≤1048576)∧bP w.inputs≤64:=by
 obtain⟨h1,h2⟩:=h.2.2.2.2.1
 have:=AO (xs:=w.inputs) fun s hs=>Nat.le_of_eq (h1 s hs)
 exact⟨h2,fun s hs=>by have:=h1 s hs;omega,by omega⟩
noncomputable def fu(w:Worker)(p:Plan):Acted:=if av w∧aq p.tasks = 0 then gp w p.tasks else zV
theorem Iy{w:Worker}{p:Plan}(h:¬(av w∧aq p.tasks = 0)):fu w p = zV:=if_neg h
theorem d9{w:Worker}{p:Plan}(h:av w)(h2:aq p.tasks = 0):fu w p = gp w p.tasks:=if_pos ⟨h,h2⟩
theorem pP(w:Worker)(p:Plan)(h:av w)(hc:aq p.tasks = 0):F pw [.val (aC w),.val (cO p)] (pm (gp w p.tasks)) [[],[]]:=by
 obtain⟨⟨f1,f2⟩,⟨f3,f4⟩,f5,f6⟩:=I8 h
 by_cases hup:w.up = false
 ·refine bc ?_
  conv=>whnf
  refine g 0 0 []<|J Zca<|W.sq<|g 7 9 []<|J UC<|W.cn<|J (fun _=>(g 9 12 []<|J ⟨I,I,UL,I⟩ (RT ?_))) (noF (nbT AS))
  rw[uM hup];rfl
 ·rcases A1 h with h1|h1|h1
  ·skip
   by_cases hs:w.since < 1000000
   ·have e:aZ w = w.since+1:=if_pos hs
    by_cases h4:3≤aZ w
    ·have ct:=bU (cL w 0) 5 OM
     have h5:=h4
     rw[e]at h5
     refine bc ?_
     conv=>whnf
     refine g 0 0 []<|J Zca<|W.sq<|g 7 9 []<|J UC<|W.cn<|J (noT SI) fun _=>W.skip<|W.sq<|g 9 14 []<|J UC<|W.cn<|J (fun _=>(rg [.i (w.since+1)]<|J Zbf (g 14 19 []<|J UA (W.sq (g 19 20 []<|J UB ?_))))) (noF tO)
     refine W.blk<|g 22 23 []<|J UB<|W.cn<|J (noT dO) fun _=>g 3 4 []<|J UB<|W.cn<|J (noT dO) fun _=>g 20 56 []<|J UB<|W.cn<|J (fun _=>(g 59 63 []<|J UC (W.cn<|J (fun _=>(rg []<|J UA (W.sq (g 63 65 []<|J UB ?_)))) (noF tO)))) (noF tO)
     refine W.cn<|J (noT rfl) fun _=>W.skip<|g 65 69 []<|J UV<|gd 5 75 [[],[],[],[.call (bC (fv (cL w 0) 5)) [[],[]]],[],[],[]] ?_
     conv=>whnf
     refine J Zao<|J KR<|RT ?_
     rw[ls hup h1 h4];rfl
    ·have h5:=h4
     rw[e]at h5
     refine bc ?_
     conv=>whnf
     refine g 0 0 []<|J Zca<|W.sq<|g 7 9 []<|J UC<|W.cn<|J (noT SI) fun _=>W.skip<|W.sq<|g 9 14 []<|J UC<|W.cn<|J (fun _=>(rg [.i (w.since+1)]<|J Zbf (g 14 19 []<|J UA (W.sq (g 19 20 []<|J UB ?_))))) (noF tO)
     refine W.blk<|g 22 23 []<|J UB<|W.cn<|J (noT dO) fun _=>g 3 4 []<|J UB<|W.cn<|J (noT dO) fun _=>g 20 56 []<|J UB<|W.cn<|J (fun _=>(g 59 63 []<|J UC (W.cn<|J (noT dO) fun _=>(W.skip (W.sq (g 63 65 []<|J UB ?_)))))) (noF tO)
     refine W.cn<|J (fun _=>(g 65 68 []<|J ⟨I,I,UL,I⟩ (RT ?_))) (noF rfl)
     rw[pY hup h1 h4,e];rfl
   ·have e:aZ w = w.since:=if_neg hs
    by_cases h4:3≤aZ w
    ·have ct:=bU (cL w 0) 5 OM
     have h5:=h4
     rw[e]at h5
     refine bc ?_
     conv=>whnf
     refine g 0 0 []<|J Zca<|W.sq<|g 7 9 []<|J UC<|W.cn<|J (noT SI) fun _=>W.skip<|W.sq<|g 9 14 []<|J UC<|W.cn<|J (noT dO) fun _=>W.skip<|g 14 15 []<|J UA<|W.sq<|g 19 20 []<|J UB ?_
     refine W.blk<|g 22 23 []<|J UB<|W.cn<|J (noT dO) fun _=>g 3 4 []<|J UB<|W.cn<|J (noT dO) fun _=>g 20 56 []<|J UB<|W.cn<|J (fun _=>(g 59 63 []<|J UC (W.cn<|J (fun _=>(rg []<|J UA (W.sq (g 63 65 []<|J UB ?_)))) (noF tO)))) (noF tO)
     refine W.cn<|J (noT rfl) fun _=>W.skip<|g 65 69 []<|J UV<|gd 5 75 [[],[],[],[.call (bC (fv (cL w 0) 5)) [[],[]]],[],[],[]] ?_
     conv=>whnf
     refine J Zao<|J KR<|RT ?_
     rw[ls hup h1 h4];rfl
    ·exfalso;omega
  ·have hb:=zS h h1
   obtain⟨hl8,hes,htt⟩:=EH hb
   obtain⟨_,⟨_,b3,b4⟩,⟨b5,b6⟩,⟨b7,b8⟩,_⟩:=hb
   by_cases hl:w.left - 1 = 0
   ·by_cases ht:w.task < p.tasks.length
    ·obtain⟨t,ht2⟩:=af (xs:=p.tasks) (n:=w.task.toNat) OM
     obtain⟨⟨g1,g2⟩,_⟩:=bZ hc ht2
     have cv:=mf t.name w.inputs OM OM hes
     have ct:=bU ⟨w.number,w.epoch,w.up,2,w.lease,w.task,0,w.left - 1,[],cD t.name w.inputs,0⟩ 3 OM
     refine bc ?_
     conv=>whnf
     refine g 0 0 []<|J Zca<|W.sq<|g 7 9 []<|J UC<|W.cn<|J (noT SI) fun _=>W.skip<|W.sq<|g 9 14 []<|J UC<|W.cn<|J (fun h2=>?_) fun h2=>?_
     replace h2:=dt h2
     refine rg [.i (w.since+1)]<|J Zbf<|g 14 19 []<|J UA<|W.sq<|g 19 20 []<|J UB<|W.blk<|g 22 23 []<|J UB<|W.cn<|J (fun _=>(g 20 27 [.i (w.left - 1)]<|J Zbf (g 27 29 []<|J UC (W.cn<|J (fun _=>(g 29 30 []<|J UA (W.sq ?_))) (noF tO))))) (noF tO)
     refine g 30 35 []<|J UF<|W.cn<|J (fun _=>(rg [.x (ay t)]<|J Zcz (g 6 51 [.call (V.s (cD t.name w.inputs)) [[],[]]]<|J ⟨I,I,I,Zam,I,UA,I,UA,I,UA,I,UA,I⟩ (rg []<|J UA (W.sq (g 3 4 []<|J UB (W.cn<|J (noT rfl) fun _=>(W.skip (g 64 69 []<|J UV (gd 5 75 [[],[],[],[.call (bC (fv {number:=w.number,epoch:=w.epoch,up:=w.up,state:=2,lease:=w.lease,task:=w.task,cost:=0,left:=w.left - 1,inputs:=[],text:=cD t.name w.inputs,since:=0:Worker} 3)) [[],[]]],[],[],[]] ?_)))))))))) (noF SI)
     conv=>whnf
     refine⟨Zao,by kernel_rfl,?_⟩
     refine RT ?_
     rotate_left
     replace h2:=df h2
     refine W.skip<|g 14 15 []<|J UA<|W.sq<|g 19 20 []<|J UB<|W.blk<|g 22 23 []<|J UB<|W.cn<|J (fun _=>(g 20 27 [.i (w.left - 1)]<|J Zbf (g 27 29 []<|J UC (W.cn<|J (fun _=>(g 29 30 []<|J UA (W.sq ?_))) (noF tO))))) (noF tO)
     refine g 30 35 []<|J UF<|W.cn<|J (fun _=>(rg [.x (ay t)]<|J Zcz (g 6 51 [.call (V.s (cD t.name w.inputs)) [[],[]]]<|J ⟨I,I,I,Zam,I,UA,I,UA,I,UA,I,UA,I⟩ (rg []<|J UA (W.sq (g 3 4 []<|J UB (W.cn<|J (noT rfl) fun _=>(W.skip (g 64 69 []<|J UV (gd 5 75 [[],[],[],[.call (bC (fv {number:=w.number,epoch:=w.epoch,up:=w.up,state:=2,lease:=w.lease,task:=w.task,cost:=0,left:=w.left - 1,inputs:=[],text:=cD t.name w.inputs,since:=0:Worker} 3)) [[],[]]],[],[],[]] ?_)))))))))) (noF SI)
     conv=>whnf
     refine⟨Zao,by kernel_rfl,?_⟩
     refine RT ?_
     rotate_left
     all_goals (rw[lu hup h1 hl,gB,Ml ht2];rfl)
    ·have ht2:p.tasks[w.task.toNat]? = none:=List.getElem?_eq_none OM
     have cv:=mf emp w.inputs (by decide) OM hes
     have ct:=bU ⟨w.number,w.epoch,w.up,2,w.lease,w.task,0,w.left - 1,[],cD emp w.inputs,0⟩ 3 OM
     refine bc ?_
     conv=>whnf
     refine g 0 0 []<|J Zca<|W.sq<|g 7 9 []<|J UC<|W.cn<|J (noT SI) fun _=>W.skip<|W.sq<|g 9 14 []<|J UC<|W.cn<|J (fun h2=>?_) fun h2=>?_
     replace h2:=dt h2
     refine rg [.i (w.since+1)]<|J Zbf<|g 14 19 []<|J UA<|W.sq<|g 19 20 []<|J UB<|W.blk<|g 22 23 []<|J UB<|W.cn<|J (fun _=>(g 20 27 [.i (w.left - 1)]<|J Zbf (g 27 29 []<|J UC (W.cn<|J (fun _=>(g 29 30 []<|J UA (W.sq ?_))) (noF tO))))) (noF tO)
     refine g 30 35 []<|J UF<|W.cn<|J (noT SI) fun _=>W.skip<|g 6 51 [.call (V.s (cD emp w.inputs)) [[],[]]]<|J ⟨I,I,I,Zam,I,UA,I,UA,I,UA,I,UA,I⟩<|rg []<|J UA<|W.sq<|g 3 4 []<|J UB<|W.cn<|J (noT rfl) fun _=>W.skip<|g 64 69 []<|J UV<|gd 5 75 [[],[],[],[.call (bC (fv {number:=w.number,epoch:=w.epoch,up:=w.up,state:=2,lease:=w.lease,task:=w.task,cost:=0,left:=w.left - 1,inputs:=[],text:=cD emp w.inputs,since:=0:Worker} 3)) [[],[]]],[],[],[]] ?_
     conv=>whnf
     refine J Zao<|J KR<|RT ?_
     rotate_left
     replace h2:=df h2
     refine W.skip<|g 14 15 []<|J UA<|W.sq<|g 19 20 []<|J UB<|W.blk<|g 22 23 []<|J UB<|W.cn<|J (fun _=>(g 20 27 [.i (w.left - 1)]<|J Zbf (g 27 29 []<|J UC (W.cn<|J (fun _=>(g 29 30 []<|J UA (W.sq ?_))) (noF tO))))) (noF tO)
     refine g 30 35 []<|J UF<|W.cn<|J (noT SI) fun _=>W.skip<|g 6 51 [.call (V.s (cD emp w.inputs)) [[],[]]]<|J ⟨I,I,I,Zam,I,UA,I,UA,I,UA,I,UA,I⟩<|rg []<|J UA<|W.sq<|g 3 4 []<|J UB<|W.cn<|J (noT rfl) fun _=>W.skip<|g 64 69 []<|J UV<|gd 5 75 [[],[],[],[.call (bC (fv {number:=w.number,epoch:=w.epoch,up:=w.up,state:=2,lease:=w.lease,task:=w.task,cost:=0,left:=w.left - 1,inputs:=[],text:=cD emp w.inputs,since:=0:Worker} 3)) [[],[]]],[],[],[]] ?_
     conv=>whnf
     refine J Zao<|J KR<|RT ?_
     rotate_left
     all_goals (rw[lu hup h1 hl,gB,Jd ht2];rfl)
   ·skip
    by_cases hs:w.since < 1000000
    ·have e:aZ w = w.since+1:=if_pos hs
     by_cases h4:4≤aZ w
     ·have ct:=bU (cL (mY w) 0) 2 OM
      have h5:=h4
      rw[e]at h5
      refine bc ?_
      conv=>whnf
      refine g 0 0 []<|J Zca<|W.sq<|g 7 9 []<|J UC<|W.cn<|J (noT SI) fun _=>W.skip<|W.sq<|g 9 14 []<|J UC<|W.cn<|J (fun _=>(rg [.i (w.since+1)]<|J Zbf (g 14 19 []<|J UA (W.sq (g 19 20 []<|J UB ?_))))) (noF tO)
      refine W.blk<|g 22 23 []<|J UB<|W.cn<|J (fun _=>(g 20 27 [.i (w.left - 1)]<|J Zbf (g 27 29 []<|J UC (W.cn<|J (noT dO) fun _=>(g 29 53 []<|J UC (W.cn<|J (fun _=>(rg []<|J UA (W.sq (g 53 65 []<|J UB (W.cn<|J (noT rfl) fun _=>?_))))) (noF tO))))))) (noF tO)
      refine W.skip<|g 65 69 []<|J UV<|gd 5 75 [[],[],[],[.call (bC (fv (cL (mY w) 0) 2)) [[],[]]],[],[],[]] ?_
      conv=>whnf
      refine J Zao<|J KR<|RT ?_
      rw[lv hup h1 hl h4];rfl
     ·have h5:=h4
      rw[e]at h5
      refine bc ?_
      conv=>whnf
      refine g 0 0 []<|J Zca<|W.sq<|g 7 9 []<|J UC<|W.cn<|J (noT SI) fun _=>W.skip<|W.sq<|g 9 14 []<|J UC<|W.cn<|J (fun _=>(rg [.i (w.since+1)]<|J Zbf (g 14 19 []<|J UA (W.sq (g 19 20 []<|J UB ?_))))) (noF tO)
      refine W.blk<|g 22 23 []<|J UB<|W.cn<|J (fun _=>(g 20 27 [.i (w.left - 1)]<|J Zbf (g 27 29 []<|J UC (W.cn<|J (noT dO) fun _=>(g 29 53 []<|J UC (W.cn<|J (noT dO) fun _=>(W.skip (W.sq (g 53 65 []<|J UB (W.cn<|J (fun _=>?_) (noF rfl))))))))))) (noF tO)
      refine g 65 68 []<|J ⟨I,I,UL,I⟩<|RT ?_
      rw[uN hup h1 hl h4,e];rfl
    ·have e:aZ w = w.since:=if_neg hs
     by_cases h4:4≤aZ w
     ·have ct:=bU (cL (mY w) 0) 2 OM
      have h5:=h4
      rw[e]at h5
      refine bc ?_
      conv=>whnf
      refine g 0 0 []<|J Zca<|W.sq<|g 7 9 []<|J UC<|W.cn<|J (noT SI) fun _=>W.skip<|W.sq<|g 9 14 []<|J UC<|W.cn<|J (noT dO) fun _=>W.skip<|g 14 15 []<|J UA<|W.sq<|g 19 20 []<|J UB ?_
      refine W.blk<|g 22 23 []<|J UB<|W.cn<|J (fun _=>(g 20 27 [.i (w.left - 1)]<|J Zbf (g 27 29 []<|J UC (W.cn<|J (noT dO) fun _=>(g 29 53 []<|J UC (W.cn<|J (fun _=>(rg []<|J UA (W.sq (g 53 65 []<|J UB (W.cn<|J (noT rfl) fun _=>?_))))) (noF tO))))))) (noF tO)
      refine W.skip<|g 65 69 []<|J UV<|gd 5 75 [[],[],[],[.call (bC (fv (cL (mY w) 0) 2)) [[],[]]],[],[],[]] ?_
      conv=>whnf
      refine J Zao<|J KR<|RT ?_
      rw[lv hup h1 hl h4];rfl
     ·exfalso;omega
  ·skip
   by_cases hs:w.since < 1000000
   ·have e:aZ w = w.since+1:=if_pos hs
    by_cases h4:4≤aZ w
    ·have ct:=bU (cL w 0) 3 OM
     have h5:=h4
     rw[e]at h5
     refine bc ?_
     conv=>whnf
     refine g 0 0 []<|J Zca<|W.sq<|g 7 9 []<|J UC<|W.cn<|J (noT SI) fun _=>W.skip<|W.sq<|g 9 14 []<|J UC<|W.cn<|J (fun _=>(rg [.i (w.since+1)]<|J Zbf (g 14 19 []<|J UA (W.sq (g 19 20 []<|J UB ?_))))) (noF tO)
     refine W.blk<|g 22 23 []<|J UB<|W.cn<|J (noT dO) fun _=>g 3 4 []<|J UB<|W.cn<|J (fun _=>(g 20 58 []<|J UC (W.cn<|J (fun _=>(rg []<|J UA (W.sq (g 58 65 []<|J UB (W.cn<|J (noT rfl) fun _=>(W.skip ?_)))))) (noF tO)))) (noF tO)
     refine g 65 69 []<|J UV<|gd 5 75 [[],[],[],[.call (bC (fv (cL w 0) 3)) [[],[]]],[],[],[]] ?_
     conv=>whnf
     refine J Zao<|J KR<|RT ?_
     rw[lr hup h1 h4];rfl
    ·have h5:=h4
     rw[e]at h5
     refine bc ?_
     conv=>whnf
     refine g 0 0 []<|J Zca<|W.sq<|g 7 9 []<|J UC<|W.cn<|J (noT SI) fun _=>W.skip<|W.sq<|g 9 14 []<|J UC<|W.cn<|J (fun _=>(rg [.i (w.since+1)]<|J Zbf (g 14 19 []<|J UA (W.sq (g 19 20 []<|J UB ?_))))) (noF tO)
     refine W.blk<|g 22 23 []<|J UB<|W.cn<|J (noT dO) fun _=>g 3 4 []<|J UB<|W.cn<|J (fun _=>(g 20 58 []<|J UC (W.cn<|J (noT dO) fun _=>(W.skip (W.sq (g 58 65 []<|J UB (W.cn<|J (fun _=>(g 65 68 []<|J ⟨I,I,UL,I⟩ ?_)) (noF rfl)))))))) (noF tO)
     refine RT ?_
     rw[pX hup h1 h4,e];rfl
   ·have e:aZ w = w.since:=if_neg hs
    by_cases h4:4≤aZ w
    ·have ct:=bU (cL w 0) 3 OM
     have h5:=h4
     rw[e]at h5
     refine bc ?_
     conv=>whnf
     refine g 0 0 []<|J Zca<|W.sq<|g 7 9 []<|J UC<|W.cn<|J (noT SI) fun _=>W.skip<|W.sq<|g 9 14 []<|J UC<|W.cn<|J (noT dO) fun _=>W.skip<|g 14 15 []<|J UA<|W.sq<|g 19 20 []<|J UB ?_
     refine W.blk<|g 22 23 []<|J UB<|W.cn<|J (noT dO) fun _=>g 3 4 []<|J UB<|W.cn<|J (fun _=>(g 20 58 []<|J UC (W.cn<|J (fun _=>(rg []<|J UA (W.sq (g 58 65 []<|J UB (W.cn<|J (noT rfl) fun _=>(W.skip ?_)))))) (noF tO)))) (noF tO)
     refine g 65 69 []<|J UV<|gd 5 75 [[],[],[],[.call (bC (fv (cL w 0) 3)) [[],[]]],[],[],[]] ?_
     conv=>whnf
     refine J Zao<|J KR<|RT ?_
     rw[lr hup h1 h4];rfl
    ·exfalso;omega
theorem rl(w:Worker)(p:Plan)(hp:dl p)(hll:w.inputs.length≤1048576):F qO [.val (dS w),.val (cO p)] (pm (fu w p)) [[],[]]:=by
 have cp:=cY p hp
 by_cases h:av w
 ·by_cases hc:aq p.tasks = 0
  ·rw[hc]at cp
   obtain⟨⟨f1,f2⟩,⟨f3,f4⟩,f5,f6⟩:=I8 h
   by_cases hup:w.up = false
   ·refine aS ?_
    conv=>whnf
    refine g 0 0 []<|J Zca<|W.sq<|g 8 15 [.call (V.b (decide (av w))) [[]],BF,BF,.call (V.i 0) [[]],BF,BF]<|J ⟨I,⟨UA,I,⟨UK,I⟩,UA,au _ OM⟩,I,I,⟨nO,I⟩,Zbl,⟨nO,I⟩,nO,I⟩<|W.cn<|J (noT rfl) fun _=>W.skip<|g 15 19 [.call (aC w) [[]]]<|J ⟨I,⟨UA,I,⟨UK,I⟩,UA,aD _ OM⟩,I,UK,I⟩<|W.sq<|g 19 21 []<|J UC<|W.cn<|J (fun _=>(g 21 24 []<|J ⟨I,I,UL,I⟩ (RT ?_))) (noF (nbT AS))
    rw[d9 h hc,uM hup];rfl
   ·rcases A1 h with h1|h1|h1
    ·skip
     by_cases hs:w.since < 1000000
     ·have e:aZ w = w.since+1:=if_pos hs
      by_cases h4:3≤aZ w
      ·have ct:=dz (cL w 0) 5 OM
       have h5:=h4
       rw[e]at h5
       refine aS ?_
       conv=>whnf
       refine g 0 0 []<|J Zca<|W.sq<|g 8 15 [.call (V.b (decide (av w))) [[]],BF,BF,.call (V.i 0) [[]],BF,BF]<|J ⟨I,⟨UA,I,⟨UK,I⟩,UA,au _ OM⟩,I,I,⟨nO,I⟩,Zbl,⟨nO,I⟩,nO,I⟩<|W.cn<|J (noT rfl) fun _=>W.skip<|g 15 19 [.call (aC w) [[]]]<|J ⟨I,⟨UA,I,⟨UK,I⟩,UA,aD _ OM⟩,I,UK,I⟩<|W.sq<|g 19 21 []<|J UC<|W.cn<|J (noT SI) fun _=>W.skip<|W.sq<|g 21 26 []<|J UC ?_
       refine W.cn<|J (fun _=>(rg [.i (w.since+1)]<|J Zbf (g 26 31 []<|J UA (W.sq (g 2 3 []<|J UB (W.blk (g 31 32 []<|J UB (W.cn<|J (noT dO) fun _=>(g 32 38 []<|J UB (W.cn<|J (noT dO) fun _=>(g 33 35 []<|J UC (W.cn<|J (fun _=>?_) (noF tO))))))))))))) (noF tO)
       refine rg []<|J UA<|W.sq<|g 35 76 []<|J UB<|W.cn<|J (noT rfl) fun _=>W.skip<|g 76 80 []<|J UV<|gd 5 86 [[],[],[],[.call (bC (fv (cL w 0) 5)) [[],[]]],[],[],[]] ?_
       conv=>whnf
       refine J Zao<|J KR<|RT ?_
       rw[d9 h hc,ls hup h1 h4];rfl
      ·have h5:=h4
       rw[e]at h5
       refine aS ?_
       conv=>whnf
       refine g 0 0 []<|J Zca<|W.sq<|g 8 15 [.call (V.b (decide (av w))) [[]],BF,BF,.call (V.i 0) [[]],BF,BF]<|J ⟨I,⟨UA,I,⟨UK,I⟩,UA,au _ OM⟩,I,I,⟨nO,I⟩,Zbl,⟨nO,I⟩,nO,I⟩<|W.cn<|J (noT rfl) fun _=>W.skip<|g 15 19 [.call (aC w) [[]]]<|J ⟨I,⟨UA,I,⟨UK,I⟩,UA,aD _ OM⟩,I,UK,I⟩<|W.sq<|g 19 21 []<|J UC<|W.cn<|J (noT SI) fun _=>W.skip<|W.sq<|g 21 26 []<|J UC ?_
       refine W.cn<|J (fun _=>(rg [.i (w.since+1)]<|J Zbf (g 26 31 []<|J UA (W.sq (g 2 3 []<|J UB (W.blk (g 31 32 []<|J UB (W.cn<|J (noT dO) fun _=>(g 32 38 []<|J UB (W.cn<|J (noT dO) fun _=>(g 33 35 []<|J UC (W.cn<|J (noT dO) fun _=>?_)))))))))))) (noF tO)
       refine W.skip<|W.sq<|g 35 76 []<|J UB<|W.cn<|J (fun _=>(g 76 79 []<|J ⟨I,I,UL,I⟩ (RT ?_))) (noF rfl)
       rw[d9 h hc,pY hup h1 h4,e];rfl
     ·have e:aZ w = w.since:=if_neg hs
      by_cases h4:3≤aZ w
      ·have ct:=dz (cL w 0) 5 OM
       have h5:=h4
       rw[e]at h5
       refine aS ?_
       conv=>whnf
       refine g 0 0 []<|J Zca<|W.sq<|g 8 15 [.call (V.b (decide (av w))) [[]],BF,BF,.call (V.i 0) [[]],BF,BF]<|J ⟨I,⟨UA,I,⟨UK,I⟩,UA,au _ OM⟩,I,I,⟨nO,I⟩,Zbl,⟨nO,I⟩,nO,I⟩<|W.cn<|J (noT rfl) fun _=>W.skip<|g 15 19 [.call (aC w) [[]]]<|J ⟨I,⟨UA,I,⟨UK,I⟩,UA,aD _ OM⟩,I,UK,I⟩<|W.sq<|g 19 21 []<|J UC<|W.cn<|J (noT SI) fun _=>W.skip<|W.sq<|g 21 26 []<|J UC ?_
       refine W.cn<|J (noT dO) fun _=>W.skip<|g 2 3 []<|J UA<|W.sq<|g 26 32 []<|J UB<|W.blk<|g 37 38 []<|J UB<|W.cn<|J (noT dO) fun _=>g 32 37 []<|J UB<|W.cn<|J (noT dO) fun _=>g 33 35 []<|J UC<|W.cn<|J (fun _=>?_) (noF tO)
       refine rg []<|J UA<|W.sq<|g 35 76 []<|J UB<|W.cn<|J (noT rfl) fun _=>W.skip<|g 76 80 []<|J UV<|gd 5 86 [[],[],[],[.call (bC (fv (cL w 0) 5)) [[],[]]],[],[],[]] ?_
       conv=>whnf
       refine J Zao<|J KR<|RT ?_
       rw[d9 h hc,ls hup h1 h4];rfl
      ·exfalso;omega
    ·have hb:=zS h h1
     obtain⟨hl8,hes,htt⟩:=EH hb
     obtain⟨_,⟨_,b3,b4⟩,⟨b5,b6⟩,⟨b7,b8⟩,_⟩:=hb
     by_cases hl:w.left - 1 = 0
     ·by_cases ht:w.task < p.tasks.length
      ·obtain⟨t,ht2⟩:=af (xs:=p.tasks) (n:=w.task.toNat) OM
       obtain⟨⟨g1,g2⟩,_⟩:=bZ hc ht2
       have cv:=l9 t.name w.inputs OM OM OM hes
       have ct:=dz ⟨w.number,w.epoch,w.up,2,w.lease,w.task,0,w.left - 1,[],cD t.name w.inputs,0⟩ 3 OM
       refine aS ?_
       conv=>whnf
       refine g 0 0 []<|J Zca<|W.sq<|g 8 15 [.call (V.b (decide (av w))) [[]],BF,BF,.call (V.i 0) [[]],BF,BF]<|J ⟨I,⟨UA,I,⟨UK,I⟩,UA,au _ OM⟩,I,I,⟨nO,I⟩,Zbl,⟨nO,I⟩,nO,I⟩<|W.cn<|J (noT rfl) fun _=>W.skip<|g 15 19 [.call (aC w) [[]]]<|J ⟨I,⟨UA,I,⟨UK,I⟩,UA,aD _ OM⟩,I,UK,I⟩<|W.sq<|g 19 21 []<|J UC<|W.cn<|J (noT SI) fun _=>W.skip<|W.sq<|g 21 26 []<|J UC ?_
       refine W.cn<|J (fun h2=>?_) fun h2=>?_
       replace h2:=dt h2
       refine rg [.i (w.since+1)]<|J Zbf<|g 26 31 []<|J UA<|W.sq<|g 2 3 []<|J UB<|W.blk<|g 31 32 []<|J UB<|W.cn<|J (fun _=>(g 32 42 [.i (w.left - 1)]<|J Zbf (g 42 44 []<|J UC (W.cn<|J (fun _=>(g 44 45 []<|J UA (W.sq ?_))) (noF tO))))) (noF tO)
       refine g 45 50 []<|J UF<|W.cn<|J (fun _=>(rg [.x (ay t)]<|J Zcz (g 7 63 [.call (V.s (cD t.name w.inputs)) [[],[]]]<|J Zdy (g 3 4 []<|J UV (g 63 65 []<|J UV (g 65 67 []<|J Zef (rg []<|J UA (W.sq (g 75 76 []<|J UB (W.cn<|J (noT rfl) fun _=>(W.skip ?_))))))))))) (noF SI)
       refine g 76 80 []<|J UV<|gd 5 86 [[],[],[],[.call (bC (fv {number:=w.number,epoch:=w.epoch,up:=w.up,state:=2,lease:=w.lease,task:=w.task,cost:=0,left:=w.left - 1,inputs:=[],text:=cD t.name w.inputs,since:=0:Worker} 3)) [[],[]]],[],[],[]] ?_
       conv=>whnf
       refine J Zao<|J KR<|RT ?_
       rotate_left
       replace h2:=df h2
       refine W.skip<|g 2 3 []<|J UA<|W.sq<|g 26 32 []<|J UB<|W.blk<|g 37 38 []<|J UB<|W.cn<|J (fun _=>(g 32 42 [.i (w.left - 1)]<|J Zbf (g 42 44 []<|J UC (W.cn<|J (fun _=>(g 44 45 []<|J UA (W.sq ?_))) (noF tO))))) (noF tO)
       refine g 45 50 []<|J UF<|W.cn<|J (fun _=>(rg [.x (ay t)]<|J Zcz (g 7 63 [.call (V.s (cD t.name w.inputs)) [[],[]]]<|J Zdy (g 3 4 []<|J UV (g 63 65 []<|J UV (g 65 67 []<|J Zef (rg []<|J UA (W.sq (g 75 76 []<|J UB (W.cn<|J (noT rfl) fun _=>(W.skip ?_))))))))))) (noF SI)
       refine g 76 80 []<|J UV<|gd 5 86 [[],[],[],[.call (bC (fv {number:=w.number,epoch:=w.epoch,up:=w.up,state:=2,lease:=w.lease,task:=w.task,cost:=0,left:=w.left - 1,inputs:=[],text:=cD t.name w.inputs,since:=0:Worker} 3)) [[],[]]],[],[],[]] ?_
       conv=>whnf
       refine J Zao<|J KR<|RT ?_
       rotate_left
       all_goals (rw[d9 h hc,lu hup h1 hl,gB,Ml ht2];rfl)
      ·have ht2:p.tasks[w.task.toNat]? = none:=List.getElem?_eq_none OM
       have cv:=l9 emp w.inputs (by decide) OM OM hes
       have ct:=dz ⟨w.number,w.epoch,w.up,2,w.lease,w.task,0,w.left - 1,[],cD emp w.inputs,0⟩ 3 OM
       refine aS ?_
       conv=>whnf
       refine g 0 0 []<|J Zca<|W.sq<|g 8 15 [.call (V.b (decide (av w))) [[]],BF,BF,.call (V.i 0) [[]],BF,BF]<|J ⟨I,⟨UA,I,⟨UK,I⟩,UA,au _ OM⟩,I,I,⟨nO,I⟩,Zbl,⟨nO,I⟩,nO,I⟩<|W.cn<|J (noT rfl) fun _=>W.skip<|g 15 19 [.call (aC w) [[]]]<|J ⟨I,⟨UA,I,⟨UK,I⟩,UA,aD _ OM⟩,I,UK,I⟩<|W.sq<|g 19 21 []<|J UC<|W.cn<|J (noT SI) fun _=>W.skip<|W.sq<|g 21 26 []<|J UC ?_
       refine W.cn<|J (fun h2=>?_) fun h2=>?_
       replace h2:=dt h2
       refine rg [.i (w.since+1)]<|J Zbf<|g 26 31 []<|J UA<|W.sq<|g 2 3 []<|J UB<|W.blk<|g 31 32 []<|J UB<|W.cn<|J (fun _=>(g 32 42 [.i (w.left - 1)]<|J Zbf (g 42 44 []<|J UC (W.cn<|J (fun _=>(g 44 45 []<|J UA (W.sq ?_))) (noF tO))))) (noF tO)
       refine g 45 50 []<|J UF<|W.cn<|J (noT SI) fun _=>W.skip<|g 7 63 [.call (V.s (cD emp w.inputs)) [[],[]]]<|J Zdy<|g 3 4 []<|J UV<|g 63 65 []<|J UV<|g 65 67 []<|J Zef<|rg []<|J UA<|W.sq<|g 75 76 []<|J UB<|W.cn<|J (noT rfl) fun _=>W.skip ?_
       refine g 76 80 []<|J UV<|gd 5 86 [[],[],[],[.call (bC (fv {number:=w.number,epoch:=w.epoch,up:=w.up,state:=2,lease:=w.lease,task:=w.task,cost:=0,left:=w.left - 1,inputs:=[],text:=cD emp w.inputs,since:=0:Worker} 3)) [[],[]]],[],[],[]] ?_
       conv=>whnf
       refine J Zao<|J KR<|RT ?_
       rotate_left
       replace h2:=df h2
       refine W.skip<|g 2 3 []<|J UA<|W.sq<|g 26 32 []<|J UB<|W.blk<|g 37 38 []<|J UB<|W.cn<|J (fun _=>(g 32 42 [.i (w.left - 1)]<|J Zbf (g 42 44 []<|J UC (W.cn<|J (fun _=>(g 44 45 []<|J UA (W.sq ?_))) (noF tO))))) (noF tO)
       refine g 45 50 []<|J UF<|W.cn<|J (noT SI) fun _=>W.skip<|g 7 63 [.call (V.s (cD emp w.inputs)) [[],[]]]<|J Zdy<|g 3 4 []<|J UV<|g 63 65 []<|J UV<|g 65 67 []<|J Zef<|rg []<|J UA<|W.sq<|g 75 76 []<|J UB<|W.cn<|J (noT rfl) fun _=>W.skip ?_
       refine g 76 80 []<|J UV<|gd 5 86 [[],[],[],[.call (bC (fv {number:=w.number,epoch:=w.epoch,up:=w.up,state:=2,lease:=w.lease,task:=w.task,cost:=0,left:=w.left - 1,inputs:=[],text:=cD emp w.inputs,since:=0:Worker} 3)) [[],[]]],[],[],[]] ?_
       conv=>whnf
       refine J Zao<|J KR<|RT ?_
       rotate_left
       all_goals (rw[d9 h hc,lu hup h1 hl,gB,Jd ht2];rfl)
     ·skip
      by_cases hs:w.since < 1000000
      ·have e:aZ w = w.since+1:=if_pos hs
       by_cases h4:4≤aZ w
       ·have ct:=dz (cL (mY w) 0) 2 OM
        have h5:=h4
        rw[e]at h5
        refine aS ?_
        conv=>whnf
        refine g 0 0 []<|J Zca<|W.sq<|g 8 15 [.call (V.b (decide (av w))) [[]],BF,BF,.call (V.i 0) [[]],BF,BF]<|J ⟨I,⟨UA,I,⟨UK,I⟩,UA,au _ OM⟩,I,I,⟨nO,I⟩,Zbl,⟨nO,I⟩,nO,I⟩<|W.cn<|J (noT rfl) fun _=>W.skip<|g 15 19 [.call (aC w) [[]]]<|J ⟨I,⟨UA,I,⟨UK,I⟩,UA,aD _ OM⟩,I,UK,I⟩<|W.sq<|g 19 21 []<|J UC<|W.cn<|J (noT SI) fun _=>W.skip<|W.sq<|g 21 26 []<|J UC ?_
        refine W.cn<|J (fun _=>(rg [.i (w.since+1)]<|J Zbf (g 26 31 []<|J UA (W.sq (g 2 3 []<|J UB (W.blk (g 31 32 []<|J UB (W.cn<|J (fun _=>(g 32 42 [.i (w.left - 1)]<|J Zbf (g 42 44 []<|J UC (W.cn<|J (noT dO) fun _=>(g 44 69 []<|J UC ?_))))) (noF tO))))))))) (noF tO)
        refine W.cn<|J (fun _=>(rg []<|J UA (W.sq (g 69 76 []<|J UB (W.cn<|J (noT rfl) fun _=>(W.skip (g 76 80 []<|J UV (gd 5 86 [[],[],[],[.call (bC (fv (cL (mY w) 0) 2)) [[],[]]],[],[],[]] ?_)))))))) (noF tO)
        conv=>whnf
        refine⟨Zao,by kernel_rfl,?_⟩
        refine RT ?_
        rw[d9 h hc,lv hup h1 hl h4];rfl
       ·have h5:=h4
        rw[e]at h5
        refine aS ?_
        conv=>whnf
        refine g 0 0 []<|J Zca<|W.sq<|g 8 15 [.call (V.b (decide (av w))) [[]],BF,BF,.call (V.i 0) [[]],BF,BF]<|J ⟨I,⟨UA,I,⟨UK,I⟩,UA,au _ OM⟩,I,I,⟨nO,I⟩,Zbl,⟨nO,I⟩,nO,I⟩<|W.cn<|J (noT rfl) fun _=>W.skip<|g 15 19 [.call (aC w) [[]]]<|J ⟨I,⟨UA,I,⟨UK,I⟩,UA,aD _ OM⟩,I,UK,I⟩<|W.sq<|g 19 21 []<|J UC<|W.cn<|J (noT SI) fun _=>W.skip<|W.sq<|g 21 26 []<|J UC ?_
        refine W.cn<|J (fun _=>(rg [.i (w.since+1)]<|J Zbf (g 26 31 []<|J UA (W.sq (g 2 3 []<|J UB (W.blk (g 31 32 []<|J UB (W.cn<|J (fun _=>(g 32 42 [.i (w.left - 1)]<|J Zbf (g 42 44 []<|J UC (W.cn<|J (noT dO) fun _=>(g 44 69 []<|J UC ?_))))) (noF tO))))))))) (noF tO)
        refine W.cn<|J (noT dO) fun _=>W.skip<|W.sq<|g 69 76 []<|J UB<|W.cn<|J (fun _=>(g 76 79 []<|J ⟨I,I,UL,I⟩ (RT ?_))) (noF rfl)
        rw[d9 h hc,uN hup h1 hl h4,e];rfl
      ·have e:aZ w = w.since:=if_neg hs
       by_cases h4:4≤aZ w
       ·have ct:=dz (cL (mY w) 0) 2 OM
        have h5:=h4
        rw[e]at h5
        refine aS ?_
        conv=>whnf
        refine g 0 0 []<|J Zca<|W.sq<|g 8 15 [.call (V.b (decide (av w))) [[]],BF,BF,.call (V.i 0) [[]],BF,BF]<|J ⟨I,⟨UA,I,⟨UK,I⟩,UA,au _ OM⟩,I,I,⟨nO,I⟩,Zbl,⟨nO,I⟩,nO,I⟩<|W.cn<|J (noT rfl) fun _=>W.skip<|g 15 19 [.call (aC w) [[]]]<|J ⟨I,⟨UA,I,⟨UK,I⟩,UA,aD _ OM⟩,I,UK,I⟩<|W.sq<|g 19 21 []<|J UC<|W.cn<|J (noT SI) fun _=>W.skip<|W.sq<|g 21 26 []<|J UC ?_
        refine W.cn<|J (noT dO) fun _=>W.skip<|g 2 3 []<|J UA<|W.sq<|g 26 32 []<|J UB<|W.blk<|g 37 38 []<|J UB<|W.cn<|J (fun _=>(g 32 42 [.i (w.left - 1)]<|J Zbf (g 42 44 []<|J UC (W.cn<|J (noT dO) fun _=>(g 44 69 []<|J UC ?_))))) (noF tO)
        refine W.cn<|J (fun _=>(rg []<|J UA (W.sq (g 69 76 []<|J UB (W.cn<|J (noT rfl) fun _=>(W.skip (g 76 80 []<|J UV (gd 5 86 [[],[],[],[.call (bC (fv (cL (mY w) 0) 2)) [[],[]]],[],[],[]] ?_)))))))) (noF tO)
        conv=>whnf
        refine⟨Zao,by kernel_rfl,?_⟩
        refine RT ?_
        rw[d9 h hc,lv hup h1 hl h4];rfl
       ·exfalso;omega
    ·skip
     by_cases hs:w.since < 1000000
     ·have e:aZ w = w.since+1:=if_pos hs
      by_cases h4:4≤aZ w
      ·have ct:=dz (cL w 0) 3 OM
       have h5:=h4
       rw[e]at h5
       refine aS ?_
       conv=>whnf
       refine g 0 0 []<|J Zca<|W.sq<|g 8 15 [.call (V.b (decide (av w))) [[]],BF,BF,.call (V.i 0) [[]],BF,BF]<|J ⟨I,⟨UA,I,⟨UK,I⟩,UA,au _ OM⟩,I,I,⟨nO,I⟩,Zbl,⟨nO,I⟩,nO,I⟩<|W.cn<|J (noT rfl) fun _=>W.skip<|g 15 19 [.call (aC w) [[]]]<|J ⟨I,⟨UA,I,⟨UK,I⟩,UA,aD _ OM⟩,I,UK,I⟩<|W.sq<|g 19 21 []<|J UC<|W.cn<|J (noT SI) fun _=>W.skip<|W.sq<|g 21 26 []<|J UC ?_
       refine W.cn<|J (fun _=>(rg [.i (w.since+1)]<|J Zbf (g 26 31 []<|J UA (W.sq (g 2 3 []<|J UB (W.blk (g 31 32 []<|J UB (W.cn<|J (noT dO) fun _=>(g 32 38 []<|J UB (W.cn<|J (fun _=>(g 70 74 []<|J UC (W.cn<|J (fun _=>?_) (noF tO)))) (noF tO))))))))))) (noF tO)
       refine rg []<|J UA<|W.sq<|g 74 76 []<|J UB<|W.cn<|J (noT rfl) fun _=>W.skip<|g 76 80 []<|J UV<|gd 5 86 [[],[],[],[.call (bC (fv (cL w 0) 3)) [[],[]]],[],[],[]] ?_
       conv=>whnf
       refine J Zao<|J KR<|RT ?_
       rw[d9 h hc,lr hup h1 h4];rfl
      ·have h5:=h4
       rw[e]at h5
       refine aS ?_
       conv=>whnf
       refine g 0 0 []<|J Zca<|W.sq<|g 8 15 [.call (V.b (decide (av w))) [[]],BF,BF,.call (V.i 0) [[]],BF,BF]<|J ⟨I,⟨UA,I,⟨UK,I⟩,UA,au _ OM⟩,I,I,⟨nO,I⟩,Zbl,⟨nO,I⟩,nO,I⟩<|W.cn<|J (noT rfl) fun _=>W.skip<|g 15 19 [.call (aC w) [[]]]<|J ⟨I,⟨UA,I,⟨UK,I⟩,UA,aD _ OM⟩,I,UK,I⟩<|W.sq<|g 19 21 []<|J UC<|W.cn<|J (noT SI) fun _=>W.skip<|W.sq<|g 21 26 []<|J UC ?_
       refine W.cn<|J (fun _=>(rg [.i (w.since+1)]<|J Zbf (g 26 31 []<|J UA (W.sq (g 2 3 []<|J UB (W.blk (g 31 32 []<|J UB (W.cn<|J (noT dO) fun _=>(g 32 38 []<|J UB (W.cn<|J (fun _=>(g 70 74 []<|J UC (W.cn<|J (noT dO) fun _=>?_))) (noF tO))))))))))) (noF tO)
       refine W.skip<|W.sq<|g 74 76 []<|J UB<|W.cn<|J (fun _=>(g 76 79 []<|J ⟨I,I,UL,I⟩ (RT ?_))) (noF rfl)
       rw[d9 h hc,pX hup h1 h4,e];rfl
     ·have e:aZ w = w.since:=if_neg hs
      by_cases h4:4≤aZ w
      ·have ct:=dz (cL w 0) 3 OM
       have h5:=h4
       rw[e]at h5
       refine aS ?_
       conv=>whnf
       refine g 0 0 []<|J Zca<|W.sq<|g 8 15 [.call (V.b (decide (av w))) [[]],BF,BF,.call (V.i 0) [[]],BF,BF]<|J ⟨I,⟨UA,I,⟨UK,I⟩,UA,au _ OM⟩,I,I,⟨nO,I⟩,Zbl,⟨nO,I⟩,nO,I⟩<|W.cn<|J (noT rfl) fun _=>W.skip<|g 15 19 [.call (aC w) [[]]]<|J ⟨I,⟨UA,I,⟨UK,I⟩,UA,aD _ OM⟩,I,UK,I⟩<|W.sq<|g 19 21 []<|J UC<|W.cn<|J (noT SI) fun _=>W.skip<|W.sq<|g 21 26 []<|J UC ?_
       refine W.cn<|J (noT dO) fun _=>W.skip<|g 2 3 []<|J UA<|W.sq<|g 26 32 []<|J UB<|W.blk<|g 37 38 []<|J UB<|W.cn<|J (noT dO) fun _=>g 32 37 []<|J UB<|W.cn<|J (fun _=>(g 70 74 []<|J UC (W.cn<|J (fun _=>?_) (noF tO)))) (noF tO)
       refine rg []<|J UA<|W.sq<|g 74 76 []<|J UB<|W.cn<|J (noT rfl) fun _=>W.skip<|g 76 80 []<|J UV<|gd 5 86 [[],[],[],[.call (bC (fv (cL w 0) 3)) [[],[]]],[],[],[]] ?_
       conv=>whnf
       refine J Zao<|J KR<|RT ?_
       rw[d9 h hc,lr hup h1 h4];rfl
      ·exfalso;omega
  ·rw[Iy (fun q=>hc q.2)]
   refine aS ?_
   conv=>whnf
   refine g 0 0 []<|J Zca<|W.sq<|g 8 15 [.call (V.b (decide (av w))) [[]],BF,BF,.call (V.i (aq p.tasks)) [[]],BF,BF]<|J ⟨I,⟨UA,I,⟨UK,I⟩,UA,au _ OM⟩,I,I,⟨nO,I⟩,Zbl,⟨nO,I⟩,nO,I⟩<|W.cn<|J (fun _=>(g 15 17 []<|J Zds (RT ?_))) (noF (ag OM))
   rfl
 ·rw[Iy (fun q=>h q.1)]
  refine aS ?_
  conv=>whnf
  refine g 0 0 []<|J Zca<|W.sq<|g 8 15 [.call (V.b (decide (av w))) [[]],BT,BT,BT,BT]<|J ⟨I,⟨UA,I,⟨UK,I⟩,UA,au _ OM⟩,I,I,ag OM,ag OM,ag OM,ag OM,I⟩<|W.cn<|J (fun _=>(g 15 17 []<|J Zds (RT ?_))) (noF rfl)
  rfl
end Go.K
end
section
open Go Go.Tm Go.Proofs
namespace Go.K
theorem Ga(x:Log)(left:Int)(hw:To x)(h:left≤1048576)(h0:0≤left):F Fl [.val (Py x),.val (.i left)] (.i (if left - bg x < 0 then -1 else left - bg x)) [[],[]]:=by
 have hn0:=bi x.safe
 have hn1:=bi x.loose
 obtain⟨hw0,hw1,hw2,hw3⟩:=hw
 have hz:bg x = ((x.safe.length:Int) +bP x.safe) + ((x.loose.length:Int) +bP x.loose):=rfl
 refine FK ?_
 conv=>whnf
 refine g 0 1 []<|J ⟨UB,I,I⟩<|g 5 9 [.call (V.i (if left - (↑(List.length x.safe):Int) - bP x.safe < 0 then(-1)else left - (↑(List.length x.safe):Int) - bP x.safe)) [[],[]]]<|J ⟨I,I,I,⟨UB,I,UT,UA,fj _ _ OM OM OM OM⟩,I,I⟩<|W.sq<|g 9 10 []<|J UB<|W.cn<|J (fun h1=>?_) fun h1=>?_
 replace h1:=dt h1
 refine g 10 11 []<|J UA<|RT ?_
 exact vi OM
 replace h1:=df h1
 refine W.skip<|g 10 15 [.call (V.i (if(if left - (↑(List.length x.safe):Int) - bP x.safe < 0 then(-1)else left - (↑(List.length x.safe):Int) - bP x.safe) - (↑(List.length x.loose):Int) - bP x.loose < 0 then(-1)else(if left - (↑(List.length x.safe):Int) - bP x.safe < 0 then(-1)else left - (↑(List.length x.safe):Int) - bP x.safe) - (↑(List.length x.loose):Int) - bP x.loose)) [[],[]]]<|J ⟨I,I,I,⟨UB,I,UT,UA,fj _ _ OM OM OM OM⟩,I,I⟩<|W.sq<|g 2 3 []<|J UB<|W.cn<|J (fun h2=>?_) fun h2=>?_
 replace h2:=dt h2
 refine g 15 17 []<|J UA<|RT ?_
 exact vi OM
 replace h2:=df h2
 refine W.skip<|g 15 18 []<|J UB<|RT ?_
 exact vi OM
theorem Du(xs:List Job)(left:Int)(hl:xs.length≤9223372036854775807)(h:left≤1048576)(h0:0≤left):F BS [.val (.t (.slc eT (xs.map aV))),.val (.i left)] (.i (if left - xs.length < 0 then -1 else left - xs.length)) [[],[]]:=by
 refine Cw ?_
 conv=>whnf
 refine g 0 0 []<|J UA<|g 5 9 [.i (left - (↑(List.length (List.map aV xs)):Int))]<|J ⟨I,I,I,w64 LN LN,I,I⟩<|W.sq<|g 0 1 []<|J UB<|W.cn<|J (fun h1=>?_) fun h1=>?_
 replace h1:=dt h1
 simp only[LM]at h1
 refine g 9 11 []<|J UA<|RT ?_
 exact vi OM
 replace h1:=df h1
 simp only[LM]at h1
 refine W.skip<|g 9 12 []<|J UB<|RT ?_
 (simp[*];done)
theorem za(xs:List Seat)(left:Int)(hl:xs.length≤9223372036854775807)(h:left≤1048576)(h0:0≤left):F ye [.val (.t (.slc cM (xs.map aF))),.val (.i left)] (.i (if left - xs.length < 0 then -1 else left - xs.length)) [[],[]]:=by
 refine yA ?_
 conv=>whnf
 refine g 0 0 []<|J UA<|g 5 9 [.i (left - (↑(List.length (List.map aF xs)):Int))]<|J ⟨I,I,I,w64 LN LN,I,I⟩<|W.sq<|g 0 1 []<|J UB<|W.cn<|J (fun h1=>?_) fun h1=>?_
 replace h1:=dt h1
 simp only[LM]at h1
 refine g 9 11 []<|J UA<|RT ?_
 exact vi OM
 replace h1:=df h1
 simp only[LM]at h1
 refine W.skip<|g 9 12 []<|J UB<|RT ?_
 (simp[*];done)
theorem zb(xs:List Owed)(left:Int)(hl:xs.length≤9223372036854775807)(h:left≤1048576)(h0:0≤left):F yf [.val (.t (.slc cP (xs.map aR))),.val (.i left)] (.i (if left - xs.length < 0 then -1 else left - xs.length)) [[],[]]:=by
 refine yB ?_
 conv=>whnf
 refine g 0 0 []<|J UA<|g 5 9 [.i (left - (↑(List.length (List.map aR xs)):Int))]<|J ⟨I,I,I,w64 LN LN,I,I⟩<|W.sq<|g 0 1 []<|J UB<|W.cn<|J (fun h1=>?_) fun h1=>?_
 replace h1:=dt h1
 simp only[LM]at h1
 refine g 9 11 []<|J UA<|RT ?_
 exact vi OM
 replace h1:=df h1
 simp only[LM]at h1
 refine W.skip<|g 9 12 []<|J UB<|RT ?_
 (simp[*];done)
theorem Dw(x:Boss)(left:Int)(hw:Ha x)(h:left≤1048576)(h0:0≤left):F BV [.val (fJ x),.val (.i left)] (.i (if left - bI x < 0 then -1 else left - bI x)) [[],[]]:=by
 have hn0:=A3 x.log
 have hn1:=bi x.results
 obtain⟨hw0,hw1,hw2,hw3,hw4,hw5⟩:=hw
 have hz:bI x = bg x.log+ ((x.results.length:Int) +bP x.results) + ((x.jobs.length:Int)) + ((x.seats.length:Int)) + ((x.owed.length:Int)):=rfl
 refine Cz ?_
 conv=>whnf
 refine g 0 1 []<|J Zej<|g 5 9 [.call (V.i (if left - bg x.log < 0 then(-1)else left - bg x.log)) [[],[]]]<|J ⟨I,I,I,⟨UB,I,⟨UB,UA,I⟩,UA,Ga _ _ OM OM OM⟩,I,I⟩<|W.sq<|g 9 10 []<|J UB<|W.cn<|J (fun h1=>?_) fun h1=>?_
 replace h1:=dt h1
 refine g 10 11 []<|J UA<|RT ?_
 exact vi OM
 replace h1:=df h1
 refine W.skip<|g 10 15 [.call (V.i (if(if left - bg x.log < 0 then(-1)else left - bg x.log) - (↑(List.length x.results):Int) - bP x.results < 0 then(-1)else(if left - bg x.log < 0 then(-1)else left - bg x.log) - (↑(List.length x.results):Int) - bP x.results)) [[],[]]]<|J ⟨I,I,I,⟨UB,I,UT,UA,fj _ _ OM OM OM OM⟩,I,I⟩<|W.sq<|g 15 16 []<|J UB<|W.cn<|J (fun h2=>?_) fun h2=>?_
 replace h2:=dt h2
 refine g 16 17 []<|J UA<|RT ?_
 exact vi OM
 replace h2:=df h2
 refine W.skip<|g 16 21 [.call (V.i (if(if(if left - bg x.log < 0 then(-1)else left - bg x.log) - (↑(List.length x.results):Int) - bP x.results < 0 then(-1)else(if left - bg x.log < 0 then(-1)else left - bg x.log) - (↑(List.length x.results):Int) - bP x.results) - (↑(List.length x.jobs):Int) < 0 then(-1)else(if(if left - bg x.log < 0 then(-1)else left - bg x.log) - (↑(List.length x.results):Int) - bP x.results < 0 then(-1)else(if left - bg x.log < 0 then(-1)else left - bg x.log) - (↑(List.length x.results):Int) - bP x.results) - (↑(List.length x.jobs):Int))) [[],[]]]<|J ⟨I,I,I,⟨UB,I,UT,UA,Du _ _ OM OM OM⟩,I,I⟩<|W.sq<|g 21 22 []<|J UB<|W.cn<|J (fun h3=>?_) fun h3=>?_
 replace h3:=dt h3
 refine g 22 23 []<|J UA<|RT ?_
 exact vi OM
 replace h3:=df h3
 refine W.skip<|g 22 27 [.call (V.i (if(if(if(if left - bg x.log < 0 then(-1)else left - bg x.log) - (↑(List.length x.results):Int) - bP x.results < 0 then(-1)else(if left - bg x.log < 0 then(-1)else left - bg x.log) - (↑(List.length x.results):Int) - bP x.results) - (↑(List.length x.jobs):Int) < 0 then(-1)else(if(if left - bg x.log < 0 then(-1)else left - bg x.log) - (↑(List.length x.results):Int) - bP x.results < 0 then(-1)else(if left - bg x.log < 0 then(-1)else left - bg x.log) - (↑(List.length x.results):Int) - bP x.results) - (↑(List.length x.jobs):Int)) - (↑(List.length x.seats):Int) < 0 then(-1)else(if(if(if left - bg x.log < 0 then(-1)else left - bg x.log) - (↑(List.length x.results):Int) - bP x.results < 0 then(-1)else(if left - bg x.log < 0 then(-1)else left - bg x.log) - (↑(List.length x.results):Int) - bP x.results) - (↑(List.length x.jobs):Int) < 0 then(-1)else(if(if left - bg x.log < 0 then(-1)else left - bg x.log) - (↑(List.length x.results):Int) - bP x.results < 0 then(-1)else(if left - bg x.log < 0 then(-1)else left - bg x.log) - (↑(List.length x.results):Int) - bP x.results) - (↑(List.length x.jobs):Int)) - (↑(List.length x.seats):Int))) [[],[]]]<|J ⟨I,I,I,⟨UB,I,UT,UA,za _ _ OM OM OM⟩,I,I⟩<|W.sq<|g 27 28 []<|J UB<|W.cn<|J (fun h4=>?_) fun h4=>?_
 replace h4:=dt h4
 refine g 28 29 []<|J UA<|RT ?_
 exact vi OM
 replace h4:=df h4
 refine W.skip<|g 28 33 [.call (V.i (if(if(if(if(if left - bg x.log < 0 then(-1)else left - bg x.log) - (↑(List.length x.results):Int) - bP x.results < 0 then(-1)else(if left - bg x.log < 0 then(-1)else left - bg x.log) - (↑(List.length x.results):Int) - bP x.results) - (↑(List.length x.jobs):Int) < 0 then(-1)else(if(if left - bg x.log < 0 then(-1)else left - bg x.log) - (↑(List.length x.results):Int) - bP x.results < 0 then(-1)else(if left - bg x.log < 0 then(-1)else left - bg x.log) - (↑(List.length x.results):Int) - bP x.results) - (↑(List.length x.jobs):Int)) - (↑(List.length x.seats):Int) < 0 then(-1)else(if(if(if left - bg x.log < 0 then(-1)else left - bg x.log) - (↑(List.length x.results):Int) - bP x.results < 0 then(-1)else(if left - bg x.log < 0 then(-1)else left - bg x.log) - (↑(List.length x.results):Int) - bP x.results) - (↑(List.length x.jobs):Int) < 0 then(-1)else(if(if left - bg x.log < 0 then(-1)else left - bg x.log) - (↑(List.length x.results):Int) - bP x.results < 0 then(-1)else(if left - bg x.log < 0 then(-1)else left - bg x.log) - (↑(List.length x.results):Int) - bP x.results) - (↑(List.length x.jobs):Int)) - (↑(List.length x.seats):Int)) - (↑(List.length x.owed):Int) < 0 then(-1)else(if(if(if(if left - bg x.log < 0 then(-1)else left - bg x.log) - (↑(List.length x.results):Int) - bP x.results < 0 then(-1)else(if left - bg x.log < 0 then(-1)else left - bg x.log) - (↑(List.length x.results):Int) - bP x.results) - (↑(List.length x.jobs):Int) < 0 then(-1)else(if(if left - bg x.log < 0 then(-1)else left - bg x.log) - (↑(List.length x.results):Int) - bP x.results < 0 then(-1)else(if left - bg x.log < 0 then(-1)else left - bg x.log) - (↑(List.length x.results):Int) - bP x.results) - (↑(List.length x.jobs):Int)) - (↑(List.length x.seats):Int) < 0 then(-1)else(if(if(if left - bg x.log < 0 then(-1)else left - bg x.log) - (↑(List.length x.results):Int) - bP x.results < 0 then(-1)else(if left - bg x.log < 0 then(-1)else left - bg x.log) - (↑(List.length x.results):Int) - bP x.results) - (↑(List.length x.jobs):Int) < 0 then(-1)else(if(if left - bg x.log < 0 then(-1)else left - bg x.log) - (↑(List.length x.results):Int) - bP x.results < 0 then(-1)else(if left - bg x.log < 0 then(-1)else left - bg x.log) - (↑(List.length x.results):Int) - bP x.results) - (↑(List.length x.jobs):Int)) - (↑(List.length x.seats):Int)) - (↑(List.length x.owed):Int))) [[],[]]]<|J ⟨I,I,I,⟨UB,I,UT,UA,zb _ _ OM OM OM⟩,I,I⟩<|W.sq<|g 2 3 []<|J UB<|W.cn<|J (fun h5=>?_) fun h5=>?_
 replace h5:=dt h5
 refine g 33 35 []<|J UA<|RT ?_
 exact vi OM
 replace h5:=df h5
 refine W.skip<|g 33 36 []<|J UB<|RT ?_
 exact vi OM
theorem F8(x:Log)(h:bg x≤1048576):F Fj [.val (Py x)] (Pz x) [[]]:=by
 have hn0:=bi x.safe
 have hn1:=bi x.loose
 have hz:bg x = ((x.safe.length:Int) +bP x.safe) + ((x.loose.length:Int) +bP x.loose):=rfl
 refine FI ?_
 conv=>whnf
 refine g 0 1 []<|J ⟨UB,I,I⟩<|g 0 0 []<|J UA<|g 4 8 [.call (V.own [false] (List.map ak x.safe)) [[]]]<|J ⟨I,I,⟨UA,I,US,UA,fi _ OM⟩,I,UA,I⟩<|g 8 12 [.call (V.own [false] (List.map ak x.loose)) [[]]]<|J ⟨I,I,⟨UA,I,US,UA,fi _ OM⟩,I,UA,I⟩<|g 3 13 []<|J ⟨I,UB,I⟩<|RT ?_
 rfl
theorem F9(x:Job):F Fk [.val (Xk x)] (X7 x) [[]]:=by
 refine FJ ?_
 conv=>whnf
 refine g 0 1 []<|J ⟨UC,I,I⟩<|g 0 0 []<|J UA<|g 4 7 []<|J UW<|g 7 10 []<|J UW<|g 10 13 []<|J UW<|g 3 14 []<|J Zd5<|RT ?_
 rfl
theorem Dp(xs:List Job)(h:(xs.length:Int)≤1048576):F BN [.val (.t (.slc eT (xs.map aV)))] (.own eT (xs.map aV)) [[]]:=by
 refine Cr ?_
 conv=>whnf
 refine g 0 0 []<|J UA<|g 5 8 [.n (List.length (List.map aV xs))]<|J Zcs<|W.sq<|g 0 0 []<|J UA<|W.blk<|W.lp (fun s (n:Nat)=>⟨[(0,s.s 0),(2,s.s 2),(3,s.s 3),(4,.i n)],[(7,[.own eT (fill aV (aV fz) xs n)])],[]⟩) (fun(n:Nat)=>n≤xs.length) (fun(n:Nat)=>xs.length - n) (0) [some 7] [] ⟨rfl,Za6,⟨⟨rfl,⟨(congrArg (V.own _) (fg (by simp) rfl)),I⟩⟩,I⟩,I⟩ OM ?_
 intro n hn
 conv=>whnf
 refine W.sq<|g 8 11 []<|J UD<|W.cn<|J (fun h1=>?_) fun h1=>?_
 replace h1:=dt h1
 simp only[LM]at h1
 refine W.skip<|W.sq<|W.blk ?_
 obtain⟨y1,hy1⟩:=af (xs:=xs) (n:=n) OM
 refine rg [.x (aV y1),.call (X7 y1) [[]],.n (n),.x (aV fz)]<|J ⟨I,I,I,I,Zdg,I,⟨UA,I,⟨UC,I⟩,UA,F9 _⟩,Zdf,⟨UC,gG OM⟩,I⟩<|rg [.i ((n:Int) +1)]<|J Zdd ?_
 rotate_left
 replace h1:=df h1
 simp only[LM]at h1
 refine W.exit<|g 3 23 []<|J UB<|RT ?_
 rotate_left
 ·refine⟨n+1,[some 7],[],⟨rfl,Za6,⟨⟨rfl,⟨(congrArg (V.own _) (gF AS)),I⟩⟩,I⟩,I⟩,?_,?_⟩
  rotate_left
  (dsimp only;omega)
  dsimp only
  omega
 ·have e:fill aV (aV fz) xs n = xs.map aV:=gH _ _ _ OM
  rw[←e]
theorem Dl(x:Seat):F BK [.val (Tj x)] (VV x) [[]]:=by
 refine Co ?_
 conv=>whnf
 refine g 0 1 []<|J ⟨UB,I,I⟩<|g 0 0 []<|J UA<|g 4 7 []<|J UW<|g 7 10 []<|J UW<|g 3 11 []<|J ⟨I,UB,I⟩<|RT ?_
 rfl
theorem yW(xs:List Seat)(h:(xs.length:Int)≤1048576):F x8 [.val (.t (.slc cM (xs.map aF)))] (.own cM (xs.map aF)) [[]]:=by
 refine yu ?_
 conv=>whnf
 refine g 0 0 []<|J UA<|g 5 8 [.n (List.length (List.map aF xs))]<|J Zcs<|W.sq<|g 0 0 []<|J UA<|W.blk<|W.lp (fun s (n:Nat)=>⟨[(0,s.s 0),(2,s.s 2),(3,s.s 3),(4,.i n)],[(7,[.own cM (fill aF (aF gW) xs n)])],[]⟩) (fun(n:Nat)=>n≤xs.length) (fun(n:Nat)=>xs.length - n) (0) [some 7] [] ⟨rfl,Za6,⟨⟨rfl,⟨(congrArg (V.own _) (fg (by simp) rfl)),I⟩⟩,I⟩,I⟩ OM ?_
 intro n hn
 conv=>whnf
 refine W.sq<|g 8 11 []<|J UD<|W.cn<|J (fun h1=>?_) fun h1=>?_
 replace h1:=dt h1
 simp only[LM]at h1
 refine W.skip<|W.sq<|W.blk ?_
 obtain⟨y1,hy1⟩:=af (xs:=xs) (n:=n) OM
 refine rg [.x (aF y1),.call (VV y1) [[]],.n (n),.x (aF gW)]<|J ⟨I,I,I,I,Zdg,I,⟨UA,I,⟨UB,I⟩,UA,Dl _⟩,Zdf,⟨UB,gG OM⟩,I⟩<|rg [.i ((n:Int) +1)]<|J Zdd ?_
 rotate_left
 replace h1:=df h1
 simp only[LM]at h1
 refine W.exit<|g 3 23 []<|J UB<|RT ?_
 rotate_left
 ·refine⟨n+1,[some 7],[],⟨rfl,Za6,⟨⟨rfl,⟨(congrArg (V.own _) (gF AS)),I⟩⟩,I⟩,I⟩,?_,?_⟩
  rotate_left
  (dsimp only;omega)
  dsimp only
  omega
 ·have e:fill aF (aF gW) xs n = xs.map aF:=gH _ _ _ OM
  rw[←e]
theorem Dn(x:Owed):F BM [.val (Tn x)] (V0 x) [[]]:=by
 refine Cq ?_
 conv=>whnf
 refine g 0 1 []<|J ⟨UC,I,I⟩<|g 0 0 []<|J UA<|g 4 7 []<|J UW<|g 7 10 []<|J UW<|g 10 13 []<|J UW<|g 3 14 []<|J Zd5<|RT ?_
 rfl
theorem yX(xs:List Owed)(h:(xs.length:Int)≤1048576):F ya [.val (.t (.slc cP (xs.map aR)))] (.own cP (xs.map aR)) [[]]:=by
 refine yw ?_
 conv=>whnf
 refine g 0 0 []<|J UA<|g 5 8 [.n (List.length (List.map aR xs))]<|J Zcs<|W.sq<|g 0 0 []<|J UA<|W.blk<|W.lp (fun s (n:Nat)=>⟨[(0,s.s 0),(2,s.s 2),(3,s.s 3),(4,.i n)],[(7,[.own cP (fill aR (aR LH) xs n)])],[]⟩) (fun(n:Nat)=>n≤xs.length) (fun(n:Nat)=>xs.length - n) (0) [some 7] [] ⟨rfl,Za6,⟨⟨rfl,⟨(congrArg (V.own _) (fg (by simp) rfl)),I⟩⟩,I⟩,I⟩ OM ?_
 intro n hn
 conv=>whnf
 refine W.sq<|g 8 11 []<|J UD<|W.cn<|J (fun h1=>?_) fun h1=>?_
 replace h1:=dt h1
 simp only[LM]at h1
 refine W.skip<|W.sq<|W.blk ?_
 obtain⟨y1,hy1⟩:=af (xs:=xs) (n:=n) OM
 refine rg [.x (aR y1),.call (V0 y1) [[]],.n (n),.x (aR LH)]<|J ⟨I,I,I,I,Zdg,I,⟨UA,I,⟨UC,I⟩,UA,Dn _⟩,Zdf,⟨UC,gG OM⟩,I⟩<|rg [.i ((n:Int) +1)]<|J Zdd ?_
 rotate_left
 replace h1:=df h1
 simp only[LM]at h1
 refine W.exit<|g 3 23 []<|J UB<|RT ?_
 rotate_left
 ·refine⟨n+1,[some 7],[],⟨rfl,Za6,⟨⟨rfl,⟨(congrArg (V.own _) (gF AS)),I⟩⟩,I⟩,I⟩,?_,?_⟩
  rotate_left
  (dsimp only;omega)
  dsimp only
  omega
 ·have e:fill aR (aR LH) xs n = xs.map aR:=gH _ _ _ OM
  rw[←e]
theorem Dr(x:Boss)(h:bI x≤1048576):F BP [.val (fJ x)] (aL x) [[]]:=by
 have hn0:=A3 x.log
 have hn1:=bi x.results
 have hz:bI x = bg x.log+ ((x.results.length:Int) +bP x.results) + ((x.jobs.length:Int)) + ((x.seats.length:Int)) + ((x.owed.length:Int)):=rfl
 refine Ct ?_
 conv=>whnf
 refine g 0 1 []<|J Zej<|g 0 0 []<|J UA<|g 4 7 []<|J UW<|g 7 10 []<|J UW<|g 10 13 []<|J UW<|g 13 16 []<|J UW<|g 16 19 []<|J UW<|g 19 22 []<|J UW<|g 22 26 [.call (Pz x.log) [[]]]<|J ⟨I,I,⟨UA,I,⟨UB,I⟩,UA,F8 _ OM⟩,I,UB,I⟩<|g 26 30 [.call (V.own [false] (List.map ak x.results)) [[]]]<|J ⟨I,I,⟨UA,I,US,UA,fi _ OM⟩,I,UA,I⟩<|g 30 34 [.call (V.own eT (List.map aV x.jobs)) [[]]]<|J ⟨I,I,⟨UA,I,US,UA,Dp _ OM⟩,I,UA,I⟩<|g 34 38 [.call (V.own cM (List.map aF x.seats)) [[]]]<|J ⟨I,I,⟨UA,I,US,UA,yW _ OM⟩,I,UA,I⟩ ?_
 refine g 38 40 [.call (V.own cP (List.map aR x.owed)) [[]]]<|J ⟨I,I,⟨UA,I,US,UA,yX _ OM⟩,I,UA,I⟩<|g 41 43 []<|J Zds<|RT ?_
 rfl
def B9(a:Log):Prop:=a.safe.length≤9223372036854775806∧a.loose.length≤9223372036854775806
theorem Gb(a b:Log)(hl:B9 a):F Fs [.val (Py a),.val (Py b)] (.b (decide (a = b))) [[],[]]:=by
 obtain⟨a_safe,a_loose⟩:=a
 obtain⟨b_safe,b_loose⟩:=b
 simp only[B9]at hl
 obtain⟨hl0,hl1⟩:=hl
 refine FL ?_
 conv=>whnf
 refine g 0 2 []<|J ⟨UB,UB,I,I⟩<|W.sq<|g 5 10 [.call (V.b (decide (a_safe = b_safe))) [[],[]]]<|J ⟨I,I,I,I,⟨UB,I,UT,UA,fk _ _ OM⟩,I,I⟩<|W.cn<|J (fun h1=>?_) fun h1=>?_
 replace h1:=ndt h1
 refine g 10 11 []<|J UA<|RT ?_
 rotate_left
 replace h1:=ndf h1
 refine W.skip<|W.sq<|g 10 16 [.call (V.b (decide (a_loose = b_loose))) [[],[]]]<|J ⟨I,I,I,I,⟨UB,I,UT,UA,fk _ _ OM⟩,I,I⟩<|W.cn<|J (fun h2=>?_) fun h2=>?_
 replace h2:=ndt h2
 refine g 2 4 []<|J UA<|RT ?_
 rotate_left
 replace h2:=ndf h2
 refine W.skip<|g 2 4 []<|J UA<|RT ?_
 rotate_left
 all_goals (first|exact vbt (by simp_all;done)|exact vbf (by simp_all;done))
theorem Gc(a b:Job):F Ft [.val (Xk a),.val (Xk b)] (.b (decide (a = b))) [[],[]]:=by
 obtain⟨a_lease,a_worker,a_til⟩:=a
 obtain⟨b_lease,b_worker,b_til⟩:=b
 refine FM ?_
 conv=>whnf
 refine g 0 2 []<|J ⟨UC,UC,I,I⟩<|W.sq<|g 5 9 []<|J UE<|W.cn<|J (fun h1=>?_) fun h1=>?_
 replace h1:=ndt h1
 refine g 9 10 []<|J UA<|RT ?_
 rotate_left
 replace h1:=ndf h1
 refine W.skip<|W.sq<|g 9 14 []<|J UE<|W.cn<|J (fun h2=>?_) fun h2=>?_
 replace h2:=ndt h2
 refine g 14 15 []<|J UA<|RT ?_
 rotate_left
 replace h2:=ndf h2
 refine W.skip<|W.sq<|g 14 19 []<|J UE<|W.cn<|J (fun h3=>?_) fun h3=>?_
 replace h3:=ndt h3
 refine g 2 4 []<|J UA<|RT ?_
 rotate_left
 replace h3:=ndf h3
 refine W.skip<|g 2 4 []<|J UA<|RT ?_
 rotate_left
 all_goals (first|exact vbt (by simp_all;done)|exact vbf (by simp_all;done))
theorem DB(xs ys:List Job)(hl:xs.length≤9223372036854775806):F B1 [.val (.t (.slc eT (xs.map aV))),.val (.t (.slc eT (ys.map aV)))] (.b (decide (xs = ys))) [[],[]]:=by
 refine CE ?_
 conv=>whnf
 refine g 0 0 []<|J UA<|W.sq<|g 6 10 []<|J UE<|W.cn<|J (fun h1=>?_) fun h1=>?_
 replace h1:=ndt h1
 simp only[LM]at h1
 refine g 10 11 []<|J UA<|RT ?_
 rotate_left
 replace h1:=ndf h1
 simp only[LM]at h1
 refine W.skip<|W.sq<|g 10 11 []<|J UA<|W.blk ?_
 rotate_left
 ·exact vbf (fun e=>h1 (by rw[e]))
 refine W.lp (fun s (n:Nat)=>⟨[(0,s.s 0),(1,s.s 1),(5,.i n)],[],[]⟩) (fun(n:Nat)=>n≤xs.length∧xs.take n = ys.take n) (fun(n:Nat)=>xs.length - n) (0) [] [] Zbb (by simp) ?_
 rintro n ⟨hn,hc⟩
 conv=>whnf
 refine W.sq<|g 11 14 []<|J UD<|W.cn<|J (fun h2=>?_) fun h2=>?_
 replace h2:=dt h2
 simp only[LM]at h2
 refine W.skip<|W.sq<|W.blk ?_
 obtain⟨y1,hy1⟩:=af (xs:=xs) (n:=n) OM
 obtain⟨y2,hy2⟩:=af (xs:=ys) (n:=n) OM
 refine gd 14 26 [[],[],[.x (aV y1)],[],[],[],[.x (aV y2)],[],[.call (V.b (decide (y1 = y2))) [[],[]]],[]] ?_
 conv=>whnf
 refine J ⟨I,I,Zdg,I,I,I,Zdg,I,⟨UB,I,⟨UC,UC,I⟩,UA,Gc _ _⟩,I,I⟩<|J KR<|W.cn<|J (fun h3=>?_) fun h3=>?_
 replace h3:=ndt h3
 refine g 26 27 []<|J UA<|RT ?_
 rotate_left
 replace h3:=ndf h3
 refine W.skip<|rg [.i ((n:Int) +1)]<|J Zdd ?_
 rotate_left
 replace h2:=df h2
 simp only[LM]at h2
 refine W.exit<|g 0 2 []<|J UA<|RT ?_
 rotate_left
 ·exact vbf (fun e=>by subst e;rw[hy1]at hy2;cases hy2;exact h3 rfl)
 ·refine⟨n+1,[],[],Zbb,?_,?_⟩
  rotate_left
  (dsimp only;omega)
  dsimp only
  exact⟨by omega,jD hc hy1 (by rw[hy2];exact congrArg some (Eq.symm h3))⟩
 ·exact vbt (by rw[aE OM,aE OM]at hc;exact hc)
theorem Dy(a b:Seat):F BX [.val (Tj a),.val (Tj b)] (.b (decide (a = b))) [[],[]]:=by
 obtain⟨a_free,a_epoch⟩:=a
 obtain⟨b_free,b_epoch⟩:=b
 refine CB ?_
 conv=>whnf
 refine g 0 2 []<|J ⟨UB,UB,I,I⟩<|W.sq<|g 5 9 []<|J UE<|W.cn<|J (fun h1=>?_) fun h1=>?_
 replace h1:=nbt h1
 refine g 9 10 []<|J UA<|RT ?_
 rotate_left
 replace h1:=nbf h1
 refine W.skip<|W.sq<|g 9 14 []<|J UE<|W.cn<|J (fun h2=>?_) fun h2=>?_
 replace h2:=ndt h2
 refine g 2 4 []<|J UA<|RT ?_
 rotate_left
 replace h2:=ndf h2
 refine W.skip<|g 2 4 []<|J UA<|RT ?_
 rotate_left
 all_goals (first|exact vbt (by simp_all;done)|exact vbf (by simp_all;done))
theorem zg(xs ys:List Seat)(hl:xs.length≤9223372036854775806):F yl [.val (.t (.slc cM (xs.map aF))),.val (.t (.slc cM (ys.map aF)))] (.b (decide (xs = ys))) [[],[]]:=by
 refine yG ?_
 conv=>whnf
 refine g 0 0 []<|J UA<|W.sq<|g 6 10 []<|J UE<|W.cn<|J (fun h1=>?_) fun h1=>?_
 replace h1:=ndt h1
 simp only[LM]at h1
 refine g 10 11 []<|J UA<|RT ?_
 rotate_left
 replace h1:=ndf h1
 simp only[LM]at h1
 refine W.skip<|W.sq<|g 10 11 []<|J UA<|W.blk ?_
 rotate_left
 ·exact vbf (fun e=>h1 (by rw[e]))
 refine W.lp (fun s (n:Nat)=>⟨[(0,s.s 0),(1,s.s 1),(5,.i n)],[],[]⟩) (fun(n:Nat)=>n≤xs.length∧xs.take n = ys.take n) (fun(n:Nat)=>xs.length - n) (0) [] [] Zbb (by simp) ?_
 rintro n ⟨hn,hc⟩
 conv=>whnf
 refine W.sq<|g 11 14 []<|J UD<|W.cn<|J (fun h2=>?_) fun h2=>?_
 replace h2:=dt h2
 simp only[LM]at h2
 refine W.skip<|W.sq<|W.blk ?_
 obtain⟨y1,hy1⟩:=af (xs:=xs) (n:=n) OM
 obtain⟨y2,hy2⟩:=af (xs:=ys) (n:=n) OM
 refine gd 14 26 [[],[],[.x (aF y1)],[],[],[],[.x (aF y2)],[],[.call (V.b (decide (y1 = y2))) [[],[]]],[]] ?_
 conv=>whnf
 refine J ⟨I,I,Zdg,I,I,I,Zdg,I,⟨UB,I,⟨UB,UB,I⟩,UA,Dy _ _⟩,I,I⟩<|J KR<|W.cn<|J (fun h3=>?_) fun h3=>?_
 replace h3:=ndt h3
 refine g 26 27 []<|J UA<|RT ?_
 rotate_left
 replace h3:=ndf h3
 refine W.skip<|rg [.i ((n:Int) +1)]<|J Zdd ?_
 rotate_left
 replace h2:=df h2
 simp only[LM]at h2
 refine W.exit<|g 0 2 []<|J UA<|RT ?_
 rotate_left
 ·exact vbf (fun e=>by subst e;rw[hy1]at hy2;cases hy2;exact h3 rfl)
 ·refine⟨n+1,[],[],Zbb,?_,?_⟩
  rotate_left
  (dsimp only;omega)
  dsimp only
  exact⟨by omega,jD hc hy1 (by rw[hy2];exact congrArg some (Eq.symm h3))⟩
 ·exact vbt (by rw[aE OM,aE OM]at hc;exact hc)
theorem DA(a b:Owed):F B0 [.val (Tn a),.val (Tn b)] (.b (decide (a = b))) [[],[]]:=by
 obtain⟨a_worker,a_lease,a_task⟩:=a
 obtain⟨b_worker,b_lease,b_task⟩:=b
 refine CD ?_
 conv=>whnf
 refine g 0 2 []<|J ⟨UC,UC,I,I⟩<|W.sq<|g 5 9 []<|J UE<|W.cn<|J (fun h1=>?_) fun h1=>?_
 replace h1:=ndt h1
 refine g 9 10 []<|J UA<|RT ?_
 rotate_left
 replace h1:=ndf h1
 refine W.skip<|W.sq<|g 9 14 []<|J UE<|W.cn<|J (fun h2=>?_) fun h2=>?_
 replace h2:=ndt h2
 refine g 14 15 []<|J UA<|RT ?_
 rotate_left
 replace h2:=ndf h2
 refine W.skip<|W.sq<|g 14 19 []<|J UE<|W.cn<|J (fun h3=>?_) fun h3=>?_
 replace h3:=ndt h3
 refine g 2 4 []<|J UA<|RT ?_
 rotate_left
 replace h3:=ndf h3
 refine W.skip<|g 2 4 []<|J UA<|RT ?_
 rotate_left
 all_goals (first|exact vbt (by simp_all;done)|exact vbf (by simp_all;done))
theorem zh(xs ys:List Owed)(hl:xs.length≤9223372036854775806):F ym [.val (.t (.slc cP (xs.map aR))),.val (.t (.slc cP (ys.map aR)))] (.b (decide (xs = ys))) [[],[]]:=by
 refine yH ?_
 conv=>whnf
 refine g 0 0 []<|J UA<|W.sq<|g 6 10 []<|J UE<|W.cn<|J (fun h1=>?_) fun h1=>?_
 replace h1:=ndt h1
 simp only[LM]at h1
 refine g 10 11 []<|J UA<|RT ?_
 rotate_left
 replace h1:=ndf h1
 simp only[LM]at h1
 refine W.skip<|W.sq<|g 10 11 []<|J UA<|W.blk ?_
 rotate_left
 ·exact vbf (fun e=>h1 (by rw[e]))
 refine W.lp (fun s (n:Nat)=>⟨[(0,s.s 0),(1,s.s 1),(5,.i n)],[],[]⟩) (fun(n:Nat)=>n≤xs.length∧xs.take n = ys.take n) (fun(n:Nat)=>xs.length - n) (0) [] [] Zbb (by simp) ?_
 rintro n ⟨hn,hc⟩
 conv=>whnf
 refine W.sq<|g 11 14 []<|J UD<|W.cn<|J (fun h2=>?_) fun h2=>?_
 replace h2:=dt h2
 simp only[LM]at h2
 refine W.skip<|W.sq<|W.blk ?_
 obtain⟨y1,hy1⟩:=af (xs:=xs) (n:=n) OM
 obtain⟨y2,hy2⟩:=af (xs:=ys) (n:=n) OM
 refine gd 14 26 [[],[],[.x (aR y1)],[],[],[],[.x (aR y2)],[],[.call (V.b (decide (y1 = y2))) [[],[]]],[]] ?_
 conv=>whnf
 refine J ⟨I,I,Zdg,I,I,I,Zdg,I,⟨UB,I,⟨UC,UC,I⟩,UA,DA _ _⟩,I,I⟩<|J KR<|W.cn<|J (fun h3=>?_) fun h3=>?_
 replace h3:=ndt h3
 refine g 26 27 []<|J UA<|RT ?_
 rotate_left
 replace h3:=ndf h3
 refine W.skip<|rg [.i ((n:Int) +1)]<|J Zdd ?_
 rotate_left
 replace h2:=df h2
 simp only[LM]at h2
 refine W.exit<|g 0 2 []<|J UA<|RT ?_
 rotate_left
 ·exact vbf (fun e=>by subst e;rw[hy1]at hy2;cases hy2;exact h3 rfl)
 ·refine⟨n+1,[],[],Zbb,?_,?_⟩
  rotate_left
  (dsimp only;omega)
  dsimp only
  exact⟨by omega,jD hc hy1 (by rw[hy2];exact congrArg some (Eq.symm h3))⟩
 ·exact vbt (by rw[aE OM,aE OM]at hc;exact hc)
def ph(a:Boss):Prop:=a.log.safe.length≤9223372036854775806∧a.log.loose.length≤9223372036854775806∧a.results.length≤9223372036854775806∧a.jobs.length≤9223372036854775806∧a.seats.length≤9223372036854775806∧a.owed.length≤9223372036854775806
theorem DD(a b:Boss)(hl:ph a):F B3 [.val (fJ a),.val (fJ b)] (.b (decide (a = b))) [[],[]]:=by
 obtain⟨a_workers,a_up,a_now,a_since,a_epoch,a_given,a_log,a_results,a_jobs,a_seats,a_owed⟩:=a
 obtain⟨b_workers,b_up,b_now,b_since,b_epoch,b_given,b_log,b_results,b_jobs,b_seats,b_owed⟩:=b
 simp only[ph]at hl
 obtain⟨hl0,hl1,hl2,hl3,hl4,hl5⟩:=hl
 have hx0:B9 a_log:=⟨hl0,hl1⟩
 refine CG ?_
 conv=>whnf
 refine g 0 2 []<|J ⟨UL,UL,I,I⟩<|W.sq<|g 5 9 []<|J UE<|W.cn<|J (fun h1=>?_) fun h1=>?_
 replace h1:=ndt h1
 refine g 9 10 []<|J UA<|RT ?_
 rotate_left
 replace h1:=ndf h1
 refine W.skip<|W.sq<|g 9 14 []<|J UE<|W.cn<|J (fun h2=>?_) fun h2=>?_
 replace h2:=nbt h2
 refine g 14 15 []<|J UA<|RT ?_
 rotate_left
 replace h2:=nbf h2
 refine W.skip<|W.sq<|g 14 19 []<|J UE<|W.cn<|J (fun h3=>?_) fun h3=>?_
 replace h3:=ndt h3
 refine g 19 20 []<|J UA<|RT ?_
 rotate_left
 replace h3:=ndf h3
 refine W.skip<|W.sq<|g 19 24 []<|J UE<|W.cn<|J (fun h4=>?_) fun h4=>?_
 replace h4:=ndt h4
 refine g 24 25 []<|J UA<|RT ?_
 rotate_left
 replace h4:=ndf h4
 refine W.skip<|W.sq<|g 24 29 []<|J UE<|W.cn<|J (fun h5=>?_) fun h5=>?_
 replace h5:=ndt h5
 refine g 29 30 []<|J UA<|RT ?_
 rotate_left
 replace h5:=ndf h5
 refine W.skip<|W.sq<|g 29 34 []<|J UE<|W.cn<|J (fun h6=>?_) fun h6=>?_
 replace h6:=ndt h6
 refine g 34 35 []<|J UA<|RT ?_
 rotate_left
 replace h6:=ndf h6
 refine W.skip<|W.sq<|g 34 40 [.call (V.b (decide (a_log = b_log))) [[],[]]]<|J ⟨I,I,I,I,⟨UB,I,⟨UB,UB,I⟩,UA,Gb _ _ OM⟩,I,I⟩<|W.cn<|J (fun h7=>?_) fun h7=>?_
 replace h7:=ndt h7
 refine g 40 41 []<|J UA<|RT ?_
 rotate_left
 replace h7:=ndf h7
 refine W.skip<|W.sq<|g 40 46 [.call (V.b (decide (a_results = b_results))) [[],[]]]<|J ⟨I,I,I,I,⟨UB,I,UT,UA,fk _ _ OM⟩,I,I⟩<|W.cn<|J (fun h8=>?_) fun h8=>?_
 replace h8:=ndt h8
 refine g 46 47 []<|J UA<|RT ?_
 rotate_left
 replace h8:=ndf h8
 refine W.skip<|W.sq<|g 46 52 [.call (V.b (decide (a_jobs = b_jobs))) [[],[]]]<|J ⟨I,I,I,I,⟨UB,I,UT,UA,DB _ _ OM⟩,I,I⟩<|W.cn<|J (fun h9=>?_) fun h9=>?_
 replace h9:=ndt h9
 refine g 52 53 []<|J UA<|RT ?_
 rotate_left
 replace h9:=ndf h9
 refine W.skip<|W.sq<|g 52 58 [.call (V.b (decide (a_seats = b_seats))) [[],[]]]<|J ⟨I,I,I,I,⟨UB,I,UT,UA,zg _ _ OM⟩,I,I⟩<|W.cn<|J (fun h10=>?_) fun h10=>?_
 replace h10:=ndt h10
 refine g 58 59 []<|J UA<|RT ?_
 rotate_left
 replace h10:=ndf h10
 refine W.skip<|W.sq<|g 58 64 [.call (V.b (decide (a_owed = b_owed))) [[],[]]]<|J ⟨I,I,I,I,⟨UB,I,UT,UA,zh _ _ OM⟩,I,I⟩<|W.cn<|J (fun h11=>?_) fun h11=>?_
 replace h11:=ndt h11
 refine g 2 4 []<|J UA<|RT ?_
 rotate_left
 replace h11:=ndf h11
 refine W.skip<|g 2 4 []<|J UA<|RT ?_
 rotate_left
 all_goals (first|exact vbt (by simp_all;done)|exact vbf (by simp_all;done))
theorem WB{n:Nat}{x:List T}(h:wfT E (n+3) Hk x):∃ v:Log,x = logT v∧To v:=by
 obtain⟨y0,z0,e0,⟨lsafe,rfl,hsafe,gsafe⟩,y1,z1,e1,⟨lloose,rfl,hloose,gloose⟩,e2⟩:=h
 subst e2
 subst e1
 obtain⟨safe,rfl,wsafe⟩:=zo gsafe
 obtain⟨loose,rfl,wloose⟩:=zo gloose
 subst e0
 exact⟨⟨safe,loose⟩,rfl,⟨by rw[List.length_map]at hsafe;exact hsafe,wsafe,by rw[List.length_map]at hloose;exact hloose,wloose⟩⟩
theorem WC{n:Nat}{x:List T}(h:wfT E (n+2) Hl x):∃ v:Job,x = aV v∧V9 v:=by
 obtain⟨y0,z0,e0,⟨lease,rfl,_,_⟩,y1,z1,e1,⟨worker,rfl,_,_⟩,y2,z2,e2,⟨til,rfl,_,_⟩,e3⟩:=h
 subst e3
 subst e2
 subst e1
 subst e0
 exact⟨⟨lease,worker,til⟩,rfl,trivial⟩
theorem Ue{n:Nat}{x:List T}(h:wfT E (n+2) EY x):∃ v:Seat,x = aF v∧RJ v:=by
 obtain⟨y0,z0,e0,⟨free,rfl⟩,y1,z1,e1,⟨epoch,rfl,_,_⟩,e2⟩:=h
 subst e2
 subst e1
 subst e0
 exact⟨⟨free,epoch⟩,rfl,trivial⟩
theorem Ug{n:Nat}{x:List T}(h:wfT E (n+2) E0 x):∃ v:Owed,x = aR v∧RQ v:=by
 obtain⟨y0,z0,e0,⟨worker,rfl,_,_⟩,y1,z1,e1,⟨lease,rfl,_,_⟩,y2,z2,e2,⟨task,rfl,_,_⟩,e3⟩:=h
 subst e3
 subst e2
 subst e1
 subst e0
 exact⟨⟨worker,lease,task⟩,rfl,trivial⟩
theorem Uh{n:Nat}{x:List T}(h:wfT E (n+4) E1 x):∃ v:Boss,x = XO v∧Ha v:=by
 obtain⟨y0,z0,e0,⟨workers,rfl,_,_⟩,y1,z1,e1,⟨up,rfl⟩,y2,z2,e2,⟨now,rfl,_,_⟩,y3,z3,e3,⟨since,rfl,_,_⟩,y4,z4,e4,⟨epoch,rfl,_,_⟩,y5,z5,e5,⟨given,rfl,_,_⟩,y6,z6,e6,wlog0,y7,z7,e7,⟨lresults,rfl,hresults,gresults⟩,y8,z8,e8,⟨ljobs,rfl,hjobs,gjobs⟩,y9,z9,e9,⟨lseats,rfl,hseats,gseats⟩,y10,z10,e10,⟨lowed,rfl,howed,gowed⟩,e11⟩:=h
 subst e11
 subst e10
 subst e9
 subst e8
 subst e7
 subst e6
 subst e5
 subst e4
 subst e3
 subst e2
 subst e1
 obtain⟨log,rfl,wlog⟩:=WB wlog0
 obtain⟨results,rfl,wresults⟩:=zo gresults
 obtain⟨jobs,rfl,wjobs⟩:=lT (f:=aV) (p:=V9) (xs:=ljobs) fun y hy=>WC (gjobs y hy)
 obtain⟨seats,rfl,wseats⟩:=lT (f:=aF) (p:=RJ) (xs:=lseats) fun y hy=>Ue (gseats y hy)
 obtain⟨owed,rfl,wowed⟩:=lT (f:=aR) (p:=RQ) (xs:=lowed) fun y hy=>Ug (gowed y hy)
 subst e0
 exact⟨⟨workers,up,now,since,epoch,given,log,results,jobs,seats,owed⟩,rfl,⟨wlog,by rw[List.length_map]at hresults;exact hresults,wresults,by rw[List.length_map]at hjobs;exact hjobs,by rw[List.length_map]at hseats;exact hseats,by rw[List.length_map]at howed;exact howed⟩⟩
end Go.K
end
section
open Go Go.Tm Go.Proofs
namespace Go.K
theorem xp(xs:List Int)(k:Int)(hl:xs.length≤9223372036854775806)(h0:0≤k)(hk:k+xs.length≤1099511627776):F we [.bor (.own [false] (xs.map dK)),.val (.i k)] (.i (k+xs.length)) [[.own [false] ((mkL (fun k _=>k) (fun _=>1) k xs).map dK)],[]]:=by
 refine wH ?_
 conv=>whnf
 refine g 0 0 []<|J UA<|W.sq<|g 0 0 []<|J UA<|W.blk<|W.lp (fun s (n:Nat)=>⟨[(0,s.s 0),(1,.i (k+n)),(4,s.s 4),(5,.i n)],[(19,[.own [false] ((mkN (fun k _=>k) (fun _=>1) k xs n).map dK)])],[]⟩) (fun(n:Nat)=>n≤xs.length) (fun(n:Nat)=>xs.length - n) (0) [some 19] [] ⟨rfl,⟨rfl,(congrArg (fun z=>V.t (T.v (Value.int _ z))) (by simp[aj])),rfl,rfl,I⟩,Zdn,I⟩ OM ?_
 intro n hn
 have hx:=kT (fun k _=>k) (fun _=>1) k xs n
 have hs1:∀ x,xs[n]? = some x→((mkN (fun k _=>k) (fun _=>1) k xs n).map dK).set n (dK (k+n)) = (mkN (fun k _=>k) (fun _=>1) k xs (n+1)).map dK:=fun x hx=>by
  have:=iz (f:=(fun k _=>k)) (c:=(fun _=>1)) (g:=dK) (k:=k) hx
  rw[sI,List.length_take,Nat.min_eq_left hn]at this;exact this
 conv=>whnf
 refine W.sq<|g 6 9 []<|J UD<|W.cn<|J (fun h1=>?_) fun h1=>?_
 replace h1:=dt h1
 simp only[LM]at h1
 refine W.skip<|W.sq<|W.blk ?_
 obtain⟨y1,hy1⟩:=af (xs:=xs) (n:=n) OM
 refine g 9 16 [.n (n),.x (dK y1)]<|J ⟨I,I,I,Zdf,⟨UA,iA AS⟩,I⟩<|rg [.i (k+ (n:Int) +1)]<|J Zdd<|rg [.i ((n:Int) +1)]<|J Zdd ?_
 rotate_left
 replace h1:=df h1
 simp only[LM]at h1
 refine W.exit<|g 5 19 []<|J UB<|W.ret<|EndsW.rt<|J UB<|J ?_ ?_
 exact vi OM
 rotate_left
 ·refine⟨n+1,[some 19],[],⟨rfl,⟨rfl,(congrArg (fun z=>V.t (T.v (Value.int _ z))) OM),rfl,rfl,I⟩,⟨⟨rfl,⟨(congrArg (V.own _) (hs1 _ AS)),I⟩⟩,I⟩,I⟩,?_,?_⟩
  rotate_left
  (dsimp only;omega)
  dsimp only
  omega
 ·have e:=kU (fun k _=>k) (fun _=>1) k xs (n:=n) OM
  rw[show n = xs.length by omega]at e ⊢
  rw[e]
def cE(x:Task):Int:=2+ (x.deps.length:Int)
theorem AW(x:Task):cE x = 2+ (x.deps.length:Int):=rfl
theorem fp(x:Task):0≤cE x:=by
 simp only[cE];omega
def iL(k:Int)(x:Task):Task:=⟨bF (k),k+1,mkL (fun k _=>k) (fun _=>1) (k+1+1) x.deps⟩
theorem uo(xs:List Task)(k:Int)(hl:xs.length≤9223372036854775806)(h0:0≤k)(hk:k+aj cE xs≤1099511627776):F sX [.bor (.own dE (xs.map ay)),.val (.i k)] (.i (k+aj cE xs)) [[.own dE ((mkL iL cE k xs).map ay)],[]]:=by
 refine tP ?_
 conv=>whnf
 refine g 0 0 []<|J UA<|W.sq<|g 0 0 []<|J UA<|W.blk<|W.lp (fun s (n:Nat)=>⟨[(0,s.s 0),(1,.i (k+aj cE (xs.take n))),(4,s.s 4),(5,.i n)],[(35,[.own dE ((mkN iL cE k xs n).map ay)])],[]⟩) (fun(n:Nat)=>n≤xs.length) (fun(n:Nat)=>xs.length - n) (0) [some 35] [] ⟨rfl,⟨rfl,(congrArg (fun z=>V.t (T.v (Value.int _ z))) (by simp[aj])),rfl,rfl,I⟩,Zdn,I⟩ OM ?_
 intro n hn
 have hx:=kT iL cE k xs n
 have hq:=aI fp (xs.take n)
 have hle:=dx fp xs (n+1)
 have hle0:=dx fp xs n
 conv=>whnf
 refine W.sq<|g 6 9 []<|J UD<|W.cn<|J (fun h1=>?_) fun h1=>?_
 replace h1:=dt h1
 simp only[LM]at h1
 refine W.skip<|W.sq<|W.blk ?_
 obtain⟨y1,hy1⟩:=af (xs:=xs) (n:=n) OM
 have hk1:=bB (f:=cE) hy1
 have hk2:=fp y1
 have hk3:=AW y1
 refine g 9 18 [.call (V.s (bF (k+aj cE (List.take n xs)))) [[]],.n (n),.x (ay y1)]<|J ⟨I,I,I,⟨UA,I,US,UA,bm _ OM⟩,Zdf,I,⟨UA,iA AS⟩,I⟩<|g 18 20 [.i (k+aj cE (List.take n xs) +1)]<|J Zdd<|g 20 25 [.n (n),.x (aK (ay y1) (0+0) [T.v (Value.string (bF (k+aj cE (List.take n xs))))])]<|J ⟨I,I,I,Zdf,I,⟨UA,bR LN⟩,I⟩<|g 25 27 [.i (k+aj cE (List.take n xs) +1+1)]<|J Zdd<|rg [.n (n),.x (aK (aK (ay y1) (0+0) [T.v (Value.string (bF (k+aj cE (List.take n xs))))]) (0+1) [T.v (Value.int IntKind.i64 (k+aj cE (List.take n xs) +1))]),.x (aK (aK (ay y1) (0+0) [T.v (Value.string (bF (k+aj cE (List.take n xs))))]) (0+1) [T.v (Value.int IntKind.i64 (k+aj cE (List.take n xs) +1))]),.call (V.i (k+aj cE (List.take n xs) +1+1+ (↑(List.length y1.deps):Int))) ([[V.own [false] (List.map dK (mkL (fun k x=>k) (fun x=>1) (k+aj cE (List.take n xs) +1+1) y1.deps))],[]]),.x ([T.v (Value.string (bF (k+aj cE (List.take n xs)))),T.v (Value.int IntKind.i64 (k+aj cE (List.take n xs) +1)),T.hole])]<|J ⟨I,I,Zdf,I,bR LN,I,⟨⟨⟨bR LN,I⟩,I,I⟩,I,UV,⟨⟨bR LN,I⟩,I⟩,xp _ _ OM OM OM⟩,I,I⟩<|rg [.i ((n:Int) +1)]<|J Zdd ?_
 rotate_left
 replace h1:=df h1
 simp only[LM]at h1
 refine W.exit<|g 5 35 []<|J UB<|W.ret<|EndsW.rt<|J UB<|J ?_ ?_
 rotate_left
 rotate_left
 ·refine⟨n+1,[some 35],[],⟨rfl,⟨rfl,(congrArg (fun z=>V.t (T.v (Value.int _ z))) (by rw[bB AS];omega)),rfl,rfl,I⟩,⟨⟨rfl,⟨(congrArg (V.own _) (by simp only[List.set_set];exact iz (f:=iL) (c:=cE) AS)),I⟩⟩,I⟩,I⟩,?_,?_⟩
  rotate_left
  (dsimp only;omega)
  dsimp only
  omega
 ·rw[aE OM]
 ·rw[kU iL cE k xs (n:=n) OM]
def zL(k:Int)(x:Plan):Plan:=⟨mkL iL cE (k) x.tasks⟩
def bb(x:Plan):Int:=aj cE x.tasks
theorem ik(x:Plan):0≤bb x:=by
 have:=aI fp x.tasks
 simp only[bb];omega
theorem xm(x:Plan)(k:Int)(hl:x.tasks.length≤9223372036854775806)(h0:0≤k)(hk:k+bb x≤1099511627776):F wc [.bor (eS x),.val (.i k)] (.i (k+bb x)) [cellsOf (eS (zL k x)),[]]:=by
 have hn0:=aI fp x.tasks
 have hz:bb x = _:=rfl
 simp only[bb]at hz
 refine wF ?_
 conv=>whnf
 refine g 0 1 []<|J UB<|g 5 9 [.call (V.i (k+aj cE x.tasks)) ([[V.own dE (List.map ay (mkL iL cE k x.tasks))],[]])]<|J ⟨I,I,I,⟨Zdq,I,UV,UA,uo _ _ AS AS AS⟩,I,I⟩<|g 1 3 []<|J UB<|RT ?_
 rfl
end Go.K
end
section
open Go Go.Tm Go.Proofs
namespace Go.K
theorem QB{p:Plan}(h:aJ p≤1048576):p.tasks.length≤1048576∧bb p≤4194304:=by
 have hn:=aI cV p.tasks
 have e:aJ p = p.tasks.length+aj dk p.tasks:=rfl
 refine⟨by omega,?_⟩
 have:∀ xs:List Task,aj cE xs≤2 * xs.length+aj dk xs:=by
  intro xs
  induction xs with
  |nil=>simp[aj]
  |cons x xs ih =>
   have:=AW x
   have e:dk x = x.name.size+x.deps.length:=rfl
   simp only[aj,List.length_cons];omega
 have:=this p.tasks
 unfold bb;omega
end Go.K
end
section
open Go Go.Tm Go.Proofs
namespace Go.K
theorem Iq{b:Boss}(h:bI b≤1048576):b.log.safe.length≤1048576∧b.log.loose.length≤1048576∧(∀ s∈b.log.safe++b.log.loose,s.size≤281474976710656)∧b.results.length≤1048576∧b.jobs.length≤1048576∧b.seats.length≤1048576∧b.owed.length≤1048576:=by
 have h1:=bi b.log.safe
 have h2:=bi b.log.loose
 have h3:=bi b.results
 have e:bg b.log = (b.log.safe.length+bP b.log.safe) + (b.log.loose.length+bP b.log.loose):=rfl
 simp only[bI]at h
 refine⟨by omega,by omega,fun s hs=>?_,by omega,by omega,by omega,by omega⟩
 rcases List.mem_append.1 hs with hs|hs
 ·have:=AN hs;omega
 ·have:=AN hs;omega
end Go.K
end
section
open Go Go.Tm Go.Proofs
namespace Go.K
def eL(x:Job):Int:=3
theorem Mr(x:Job):eL x = 3:=rfl
theorem gM(x:Job):0≤eL x:=by
 simp only[eL];omega
def mZ(k:Int)(x:Job):Job:=⟨k,k+1,k+1+1⟩
def db(x:Seat):Int:=2
theorem IO(x:Seat):db x = 2:=rfl
theorem fq(x:Seat):0≤db x:=by
 simp only[db];omega
def jt(k:Int)(x:Seat):Seat:=⟨decide (Int.tmod (k) 3 = 0),k+1⟩
def di(x:Owed):Int:=3
theorem I6(x:Owed):di x = 3:=rfl
theorem fr(x:Owed):0≤di x:=by
 simp only[di];omega
def iO(k:Int)(x:Owed):Owed:=⟨k,k+1,k+1+1⟩
theorem xn(xs:List Job)(k:Int)(hl:xs.length≤9223372036854775806)(h0:0≤k)(hk:k+aj eL xs≤1099511627776):F wd [.bor (.own eT (xs.map aV)),.val (.i k)] (.i (k+aj eL xs)) [[.own eT ((mkL mZ eL k xs).map aV)],[]]:=by
 refine wG ?_
 conv=>whnf
 refine g 0 0 []<|J UA<|W.sq<|g 0 0 []<|J UA<|W.blk<|W.lp (fun s (n:Nat)=>⟨[(0,s.s 0),(1,.i (k+aj eL (xs.take n))),(4,s.s 4),(5,.i n)],[(34,[.own eT ((mkN mZ eL k xs n).map aV)])],[]⟩) (fun(n:Nat)=>n≤xs.length) (fun(n:Nat)=>xs.length - n) (0) [some 34] [] ⟨rfl,⟨rfl,(congrArg (fun z=>V.t (T.v (Value.int _ z))) (by simp[aj])),rfl,rfl,I⟩,Zdn,I⟩ OM ?_
 intro n hn
 have hx:=kT mZ eL k xs n
 have hq:=aI gM (xs.take n)
 have hle:=dx gM xs (n+1)
 have hle0:=dx gM xs n
 conv=>whnf
 refine W.sq<|g 6 9 []<|J UD<|W.cn<|J (fun h1=>?_) fun h1=>?_
 replace h1:=dt h1
 simp only[LM]at h1
 refine W.skip<|W.sq<|W.blk ?_
 obtain⟨y1,hy1⟩:=af (xs:=xs) (n:=n) OM
 have hk1:=bB (f:=eL) hy1
 have hk2:=gM y1
 have hk3:=Mr y1
 refine g 9 17 [.n (n),.x (aV y1)]<|J ⟨I,I,I,Zdf,I,⟨UA,iA AS⟩,I⟩<|g 17 19 [.i (k+aj eL (List.take n xs) +1)]<|J Zdd<|g 19 24 [.n (n),.x (aK (aV y1) (0+0) [T.v (Value.int IntKind.i64 (k+aj eL (List.take n xs)))])]<|J ⟨I,I,I,Zdf,I,⟨UA,bR LN⟩,I⟩ ?_
 rw[List.set_set]
 refine g 24 26 [.i (k+aj eL (List.take n xs) +1+1)]<|J Zdd<|g 26 31 [.n (n),.x (aK (aK (aV y1) (0+0) [T.v (Value.int IntKind.i64 (k+aj eL (List.take n xs)))]) (0+1) [T.v (Value.int IntKind.i64 (k+aj eL (List.take n xs) +1))])]<|J ⟨I,I,I,Zdf,I,⟨UA,bR LN⟩,I⟩ ?_
 rw[List.set_set]
 refine rg [.i (k+aj eL (List.take n xs) +1+1+1)]<|J Zdd<|rg [.i ((n:Int) +1)]<|J Zdd ?_
 rotate_left
 replace h1:=df h1
 simp only[LM]at h1
 refine W.exit<|g 5 34 []<|J UB<|W.ret<|EndsW.rt<|J UB<|J ?_ ?_
 rotate_left
 rotate_left
 ·refine⟨n+1,[some 34],[],⟨rfl,⟨rfl,(congrArg (fun z=>V.t (T.v (Value.int _ z))) (by rw[bB AS];omega)),rfl,rfl,I⟩,⟨⟨rfl,⟨(congrArg (V.own _) (iz (f:=mZ) (c:=eL) AS)),I⟩⟩,I⟩,I⟩,?_,?_⟩
  rotate_left
  (dsimp only;omega)
  dsimp only
  omega
 ·rw[aE OM]
 ·rw[kU mZ eL k xs (n:=n) OM]
theorem uq(xs:List Seat)(k:Int)(hl:xs.length≤9223372036854775806)(h0:0≤k)(hk:k+aj db xs≤1099511627776):F sY [.bor (.own cM (xs.map aF)),.val (.i k)] (.i (k+aj db xs)) [[.own cM ((mkL jt db k xs).map aF)],[]]:=by
 refine tQ ?_
 conv=>whnf
 refine g 0 0 []<|J UA<|W.sq<|g 0 0 []<|J UA<|W.blk<|W.lp (fun s (n:Nat)=>⟨[(0,s.s 0),(1,.i (k+aj db (xs.take n))),(4,s.s 4),(5,.i n)],[(29,[.own cM ((mkN jt db k xs n).map aF)])],[]⟩) (fun(n:Nat)=>n≤xs.length) (fun(n:Nat)=>xs.length - n) (0) [some 29] [] ⟨rfl,⟨rfl,(congrArg (fun z=>V.t (T.v (Value.int _ z))) (by simp[aj])),rfl,rfl,I⟩,Zdn,I⟩ OM ?_
 intro n hn
 have hx:=kT jt db k xs n
 have hq:=aI fq (xs.take n)
 have hle:=dx fq xs (n+1)
 have hle0:=dx fq xs n
 conv=>whnf
 refine W.sq<|g 6 9 []<|J UD<|W.cn<|J (fun h1=>?_) fun h1=>?_
 replace h1:=dt h1
 simp only[LM]at h1
 refine W.skip<|W.sq<|W.blk ?_
 obtain⟨y1,hy1⟩:=af (xs:=xs) (n:=n) OM
 have hk1:=bB (f:=db) hy1
 have hk2:=fq y1
 have hk3:=IO y1
 refine g 9 19 [.i (Int.tmod (k+aj db (List.take n xs)) 3),.n (n),.x (aF y1)]<|J ⟨I,I,I,Zdp,I,Zdf,I,⟨UA,iA AS⟩,I⟩<|g 19 21 [.i (k+aj db (List.take n xs) +1)]<|J Zdd<|g 21 26 [.n (n),.x (aK (aF y1) (0+0) [T.v (Value.bool (decide (Int.tmod (k+aj db (List.take n xs)) 3 = 0)))])]<|J ⟨I,I,I,Zdf,I,⟨UA,bR LN⟩,I⟩ ?_
 rw[List.set_set]
 refine rg [.i (k+aj db (List.take n xs) +1+1)]<|J Zdd<|rg [.i ((n:Int) +1)]<|J Zdd ?_
 rotate_left
 replace h1:=df h1
 simp only[LM]at h1
 refine W.exit<|g 5 29 []<|J UB<|W.ret<|EndsW.rt<|J UB<|J ?_ ?_
 rotate_left
 rotate_left
 ·refine⟨n+1,[some 29],[],⟨rfl,⟨rfl,(congrArg (fun z=>V.t (T.v (Value.int _ z))) (by rw[bB AS];omega)),rfl,rfl,I⟩,⟨⟨rfl,⟨(congrArg (V.own _) (iz (f:=jt) (c:=db) AS)),I⟩⟩,I⟩,I⟩,?_,?_⟩
  rotate_left
  (dsimp only;omega)
  dsimp only
  omega
 ·rw[aE OM]
 ·rw[kU jt db k xs (n:=n) OM]
theorem ur(xs:List Owed)(k:Int)(hl:xs.length≤9223372036854775806)(h0:0≤k)(hk:k+aj di xs≤1099511627776):F sZ [.bor (.own cP (xs.map aR)),.val (.i k)] (.i (k+aj di xs)) [[.own cP ((mkL iO di k xs).map aR)],[]]:=by
 refine tR ?_
 conv=>whnf
 refine g 0 0 []<|J UA<|W.sq<|g 0 0 []<|J UA<|W.blk<|W.lp (fun s (n:Nat)=>⟨[(0,s.s 0),(1,.i (k+aj di (xs.take n))),(4,s.s 4),(5,.i n)],[(34,[.own cP ((mkN iO di k xs n).map aR)])],[]⟩) (fun(n:Nat)=>n≤xs.length) (fun(n:Nat)=>xs.length - n) (0) [some 34] [] ⟨rfl,⟨rfl,(congrArg (fun z=>V.t (T.v (Value.int _ z))) (by simp[aj])),rfl,rfl,I⟩,Zdn,I⟩ OM ?_
 intro n hn
 have hx:=kT iO di k xs n
 have hq:=aI fr (xs.take n)
 have hle:=dx fr xs (n+1)
 have hle0:=dx fr xs n
 conv=>whnf
 refine W.sq<|g 6 9 []<|J UD<|W.cn<|J (fun h1=>?_) fun h1=>?_
 replace h1:=dt h1
 simp only[LM]at h1
 refine W.skip<|W.sq<|W.blk ?_
 obtain⟨y1,hy1⟩:=af (xs:=xs) (n:=n) OM
 have hk1:=bB (f:=di) hy1
 have hk2:=fr y1
 have hk3:=I6 y1
 refine g 9 17 [.n (n),.x (aR y1)]<|J ⟨I,I,I,Zdf,I,⟨UA,iA AS⟩,I⟩<|g 17 19 [.i (k+aj di (List.take n xs) +1)]<|J Zdd<|g 19 24 [.n (n),.x (aK (aR y1) (0+0) [T.v (Value.int IntKind.i64 (k+aj di (List.take n xs)))])]<|J ⟨I,I,I,Zdf,I,⟨UA,bR LN⟩,I⟩ ?_
 rw[List.set_set]
 refine g 24 26 [.i (k+aj di (List.take n xs) +1+1)]<|J Zdd<|g 26 31 [.n (n),.x (aK (aK (aR y1) (0+0) [T.v (Value.int IntKind.i64 (k+aj di (List.take n xs)))]) (0+1) [T.v (Value.int IntKind.i64 (k+aj di (List.take n xs) +1))])]<|J ⟨I,I,I,Zdf,I,⟨UA,bR LN⟩,I⟩ ?_
 rw[List.set_set]
 refine rg [.i (k+aj di (List.take n xs) +1+1+1)]<|J Zdd<|rg [.i ((n:Int) +1)]<|J Zdd ?_
 rotate_left
 replace h1:=df h1
 simp only[LM]at h1
 refine W.exit<|g 5 34 []<|J UB<|W.ret<|EndsW.rt<|J UB<|J ?_ ?_
 rotate_left
 rotate_left
 ·refine⟨n+1,[some 34],[],⟨rfl,⟨rfl,(congrArg (fun z=>V.t (T.v (Value.int _ z))) (by rw[bB AS];omega)),rfl,rfl,I⟩,⟨⟨rfl,⟨(congrArg (V.own _) (iz (f:=iO) (c:=di) AS)),I⟩⟩,I⟩,I⟩,?_,?_⟩
  rotate_left
  (dsimp only;omega)
  dsimp only
  omega
 ·rw[aE OM]
 ·rw[kU iO di k xs (n:=n) OM]
theorem xu(xs:List Job)(k:Int)(hl:xs.length≤9223372036854775806)(h0:0≤k)(hk:k+aj eL xs≤1099511627776):F wj [.val (.t (.slc eT ((mkL mZ eL k xs).map aV))),.val (.i k)] (.i (k+aj eL xs)) [[],[]]:=by
 have hx:=fb mZ eL k xs
 refine wK ?_
 conv=>whnf
 refine g 0 0 []<|J UA<|W.sq<|g 0 0 []<|J UA<|W.blk<|W.lp (fun s (n:Nat)=>⟨[(0,s.s 0),(1,.i (k+aj eL (xs.take n))),(5,.i n)],[],[]⟩) (fun(n:Nat)=>n≤xs.length) (fun(n:Nat)=>xs.length - n) (0) [] [] ⟨rfl,⟨rfl,(congrArg (fun z=>V.t (T.v (Value.int _ z))) (by simp[aj])),rfl,I⟩,I,I⟩ OM ?_
 intro n hn
 have hq:=aI gM (xs.take n)
 have hle:=dx gM xs (n+1)
 have hle0:=dx gM xs n
 conv=>whnf
 refine W.sq<|g 6 9 []<|J UD<|W.cn<|J (fun h1=>?_) fun h1=>?_
 replace h1:=dt h1
 simp only[LM]at h1
 refine W.skip<|W.sq<|W.blk<|W.sq ?_
 obtain⟨y1,hy1⟩:=af (xs:=xs) (n:=n) OM
 have hk1:=bB (f:=eL) hy1
 have hk2:=gM y1
 have hk3:=Mr y1
 have hk4:=jJ (f:=mZ) (c:=eL) (k:=k) hy1
 refine g 9 18 [.x (aV (mZ (k+aj eL (List.take n xs)) y1))]<|J Zbo<|W.cn<|J (noT (eh rfl)) fun _=>W.skip<|g 18 21 [.i (k+aj eL (List.take n xs) +1)]<|J Zdd<|W.sq<|g 21 27 [.x (aV (mZ (k+aj eL (List.take n xs)) y1))]<|J Zbo<|W.cn<|J (noT (eh rfl)) fun _=>W.skip<|g 27 30 [.i (k+aj eL (List.take n xs) +1+1)]<|J Zdd<|W.sq<|g 30 36 [.x (aV (mZ (k+aj eL (List.take n xs)) y1))]<|J Zbo<|W.cn<|J (noT (eh rfl)) fun _=>?_
 refine W.skip<|rg [.i (k+aj eL (List.take n xs) +1+1+1)]<|J Zdd<|rg [.i ((n:Int) +1)]<|J Zdd ?_
 rotate_left
 replace h1:=df h1
 simp only[LM]at h1
 refine W.exit<|g 5 40 []<|J UB<|RT ?_
 rotate_left
 ·refine⟨n+1,[],[],⟨rfl,⟨rfl,(congrArg (fun z=>V.t (T.v (Value.int _ z))) (by rw[bB AS];omega)),rfl,I⟩,I,I⟩,?_,?_⟩
  rotate_left
  (dsimp only;omega)
  dsimp only
  omega
 ·rw[aE OM]
theorem uu(xs:List Seat)(k:Int)(hl:xs.length≤9223372036854775806)(h0:0≤k)(hk:k+aj db xs≤1099511627776):F td [.val (.t (.slc cM ((mkL jt db k xs).map aF))),.val (.i k)] (.i (k+aj db xs)) [[],[]]:=by
 have hx:=fb jt db k xs
 refine tU ?_
 conv=>whnf
 refine g 0 0 []<|J UA<|W.sq<|g 0 0 []<|J UA<|W.blk<|W.lp (fun s (n:Nat)=>⟨[(0,s.s 0),(1,.i (k+aj db (xs.take n))),(5,.i n)],[],[]⟩) (fun(n:Nat)=>n≤xs.length) (fun(n:Nat)=>xs.length - n) (0) [] [] ⟨rfl,⟨rfl,(congrArg (fun z=>V.t (T.v (Value.int _ z))) (by simp[aj])),rfl,I⟩,I,I⟩ OM ?_
 intro n hn
 have hq:=aI fq (xs.take n)
 have hle:=dx fq xs (n+1)
 have hle0:=dx fq xs n
 conv=>whnf
 refine W.sq<|g 6 9 []<|J UD<|W.cn<|J (fun h1=>?_) fun h1=>?_
 replace h1:=dt h1
 simp only[LM]at h1
 refine W.skip<|W.sq<|W.blk<|W.sq ?_
 obtain⟨y1,hy1⟩:=af (xs:=xs) (n:=n) OM
 have hk1:=bB (f:=db) hy1
 have hk2:=fq y1
 have hk3:=IO y1
 have hk4:=jJ (f:=jt) (c:=db) (k:=k) hy1
 refine g 9 20 [.x (aF (jt (k+aj db (List.take n xs)) y1)),.i (Int.tmod (k+aj db (List.take n xs)) 3)]<|J ⟨I,I,Zdg,I,I,I,Zdp,I,I,I⟩<|W.cn<|J (noT (eh rfl)) fun _=>W.skip<|g 20 23 [.i (k+aj db (List.take n xs) +1)]<|J Zdd<|W.sq<|g 23 29 [.x (aF (jt (k+aj db (List.take n xs)) y1))]<|J Zbo<|W.cn<|J (noT (eh rfl)) fun _=>W.skip<|rg [.i (k+aj db (List.take n xs) +1+1)]<|J Zdd<|rg [.i ((n:Int) +1)]<|J Zdd ?_
 rotate_left
 replace h1:=df h1
 simp only[LM]at h1
 refine W.exit<|g 5 33 []<|J UB<|RT ?_
 rotate_left
 ·refine⟨n+1,[],[],⟨rfl,⟨rfl,(congrArg (fun z=>V.t (T.v (Value.int _ z))) (by rw[bB AS];omega)),rfl,I⟩,I,I⟩,?_,?_⟩
  rotate_left
  (dsimp only;omega)
  dsimp only
  omega
 ·rw[aE OM]
theorem uv(xs:List Owed)(k:Int)(hl:xs.length≤9223372036854775806)(h0:0≤k)(hk:k+aj di xs≤1099511627776):F te [.val (.t (.slc cP ((mkL iO di k xs).map aR))),.val (.i k)] (.i (k+aj di xs)) [[],[]]:=by
 have hx:=fb iO di k xs
 refine tV ?_
 conv=>whnf
 refine g 0 0 []<|J UA<|W.sq<|g 0 0 []<|J UA<|W.blk<|W.lp (fun s (n:Nat)=>⟨[(0,s.s 0),(1,.i (k+aj di (xs.take n))),(5,.i n)],[],[]⟩) (fun(n:Nat)=>n≤xs.length) (fun(n:Nat)=>xs.length - n) (0) [] [] ⟨rfl,⟨rfl,(congrArg (fun z=>V.t (T.v (Value.int _ z))) (by simp[aj])),rfl,I⟩,I,I⟩ OM ?_
 intro n hn
 have hq:=aI fr (xs.take n)
 have hle:=dx fr xs (n+1)
 have hle0:=dx fr xs n
 conv=>whnf
 refine W.sq<|g 6 9 []<|J UD<|W.cn<|J (fun h1=>?_) fun h1=>?_
 replace h1:=dt h1
 simp only[LM]at h1
 refine W.skip<|W.sq<|W.blk<|W.sq ?_
 obtain⟨y1,hy1⟩:=af (xs:=xs) (n:=n) OM
 have hk1:=bB (f:=di) hy1
 have hk2:=fr y1
 have hk3:=I6 y1
 have hk4:=jJ (f:=iO) (c:=di) (k:=k) hy1
 refine g 9 18 [.x (aR (iO (k+aj di (List.take n xs)) y1))]<|J Zbo<|W.cn<|J (noT (eh rfl)) fun _=>W.skip<|g 18 21 [.i (k+aj di (List.take n xs) +1)]<|J Zdd<|W.sq<|g 21 27 [.x (aR (iO (k+aj di (List.take n xs)) y1))]<|J Zbo<|W.cn<|J (noT (eh rfl)) fun _=>W.skip<|g 27 30 [.i (k+aj di (List.take n xs) +1+1)]<|J Zdd<|W.sq<|g 30 36 [.x (aR (iO (k+aj di (List.take n xs)) y1))]<|J Zbo<|W.cn<|J (noT (eh rfl)) fun _=>?_
 refine W.skip<|rg [.i (k+aj di (List.take n xs) +1+1+1)]<|J Zdd<|rg [.i ((n:Int) +1)]<|J Zdd ?_
 rotate_left
 replace h1:=df h1
 simp only[LM]at h1
 refine W.exit<|g 5 40 []<|J UB<|RT ?_
 rotate_left
 ·refine⟨n+1,[],[],⟨rfl,⟨rfl,(congrArg (fun z=>V.t (T.v (Value.int _ z))) (by rw[bB AS];omega)),rfl,I⟩,I,I⟩,?_,?_⟩
  rotate_left
  (dsimp only;omega)
  dsimp only
  omega
 ·rw[aE OM]
def GS(k:Int)(x:Log):Log:=⟨mkL (fun k _=>bF k) (fun _=>1) (k) x.safe,mkL (fun k _=>bF k) (fun _=>1) (k+x.safe.length) x.loose⟩
def bS(x:Log):Int:=x.safe.length+x.loose.length
theorem qq(x:Log):0≤bS x:=by
 simp only[bS];omega
theorem zd(x:Log)(k:Int)(hl:x.safe.length≤9223372036854775806∧x.loose.length≤9223372036854775806)(h0:0≤k)(hk:k+bS x≤1099511627776):F yg [.bor (Pz x),.val (.i k)] (.i (k+bS x)) [cellsOf (Pz (GS k x)),[]]:=by
 obtain⟨hl0,hl1⟩:=hl
 have hz:bS x = x.safe.length+x.loose.length:=rfl
 refine yC ?_
 conv=>whnf
 refine g 0 1 []<|J UB<|g 5 9 [.call (V.i (k+ (↑(List.length x.safe):Int))) ([[V.own [false] (List.map ak (mkL (fun k x=>bF k) (fun x=>1) k x.safe))],[]])]<|J ⟨I,I,I,⟨Zdq,I,UV,UA,ew _ _ OM OM OM⟩,I,I⟩<|g 9 13 [.call (V.i (k+ (↑(List.length x.safe):Int) + (↑(List.length x.loose):Int))) ([[V.own [false] (List.map ak (mkL (fun k x=>bF k) (fun x=>1) (k+ (↑(List.length x.safe):Int)) x.loose))],[]])]<|J ⟨I,I,I,⟨Zdq,I,UV,UA,ew _ _ OM OM OM⟩,I,I⟩<|g 1 3 []<|J UB<|RT ?_
 exact vi OM
theorem ze(x:Log)(k:Int)(hl:x.safe.length≤9223372036854775806∧x.loose.length≤9223372036854775806)(h0:0≤k)(hk:k+bS x≤1099511627776):F yh [.val (Py (GS k x)),.val (.i k)] (.i (k+bS x)) [[],[]]:=by
 obtain⟨hl0,hl1⟩:=hl
 have hz:bS x = x.safe.length+x.loose.length:=rfl
 refine yD ?_
 conv=>whnf
 refine g 0 1 []<|J ⟨UB,I,I⟩<|g 5 9 [.call (V.i (k+ (↑(List.length x.safe):Int))) [[],[]]]<|J ⟨I,I,I,⟨UB,I,UT,UA,ey _ _ OM OM OM⟩,I,I⟩<|W.sq<|g 9 10 []<|J UB<|W.cn<|J (noT dO) fun _=>W.skip<|g 10 15 [.call (V.i (k+ (↑(List.length x.safe):Int) + (↑(List.length x.loose):Int))) [[],[]]]<|J ⟨I,I,I,⟨UB,I,UT,UA,ey _ _ OM OM OM⟩,I,I⟩<|W.sq<|g 2 3 []<|J UB<|W.cn<|J (noT dO) fun _=>W.skip<|g 15 18 []<|J UB ?_
 refine RT ?_
 exact vi OM
def uJ(k:Int)(x:Boss):Boss:=⟨x.workers,x.up,x.now,x.since,x.epoch,x.given,GS (k) x.log,mkL (fun k _=>bF k) (fun _=>1) (k+bS x.log) x.results,mkL mZ eL (k+bS x.log+x.results.length) x.jobs,mkL jt db (k+bS x.log+x.results.length+aj eL x.jobs) x.seats,mkL iO di (k+bS x.log+x.results.length+aj eL x.jobs+aj db x.seats) x.owed⟩
def bo(x:Boss):Int:=bS x.log+x.results.length+aj eL x.jobs+aj db x.seats+aj di x.owed
theorem ke(x:Boss):0≤bo x:=by
 have:=qq x.log
 have:=aI gM x.jobs
 have:=aI fq x.seats
 have:=aI fr x.owed
 simp only[bo];omega
theorem xq(x:Boss)(k:Int)(hl:x.log.safe.length≤9223372036854775806∧x.log.loose.length≤9223372036854775806∧x.results.length≤9223372036854775806∧x.jobs.length≤9223372036854775806∧x.seats.length≤9223372036854775806∧x.owed.length≤9223372036854775806)(h0:0≤k)(hk:k+bo x≤1099511627776):F wg [.bor (aL x),.val (.i k)] (.i (k+bo x)) [cellsOf (aL (uJ k x)),[]]:=by
 obtain⟨hl0,hl1,hl2,hl3,hl4,hl5⟩:=hl
 have hn0:=qq x.log
 have hn1:=aI gM x.jobs
 have hn2:=aI fq x.seats
 have hn3:=aI fr x.owed
 have hz:bo x = bS x.log+x.results.length+aj eL x.jobs+aj db x.seats+aj di x.owed:=rfl
 refine wI ?_
 conv=>whnf
 refine g 0 1 []<|J ⟨UF,I,I⟩<|g 5 9 [.call (V.i (k+bS x.log)) ([cellsOf (Pz (GS k x.log)),[]])]<|J ⟨I,I,I,⟨⟨UB,I,I⟩,I,UV,UA,zd _ _ OM OM OM⟩,I,I⟩<|g 9 13 [.call (V.i (k+bS x.log+ (↑(List.length x.results):Int))) ([[V.own [false] (List.map ak (mkL (fun k x=>bF k) (fun x=>1) (k+bS x.log) x.results))],[]])]<|J ⟨I,I,I,⟨Zdq,I,UV,UA,ew _ _ OM OM OM⟩,I,I⟩<|g 13 17 [.call (V.i (k+bS x.log+ (↑(List.length x.results):Int) +aj eL x.jobs)) ([[V.own eT (List.map aV (mkL mZ eL (k+bS x.log+ (↑(List.length x.results):Int)) x.jobs))],[]])]<|J ⟨I,I,I,⟨Zdq,I,UV,UA,xn _ _ OM OM OM⟩,I,I⟩<|g 17 21 [.call (V.i (k+bS x.log+ (↑(List.length x.results):Int) +aj eL x.jobs+aj db x.seats)) ([[V.own cM (List.map aF (mkL jt db (k+bS x.log+ (↑(List.length x.results):Int) +aj eL x.jobs) x.seats))],[]])]<|J ⟨I,I,I,⟨Zdq,I,UV,UA,uq _ _ OM OM OM⟩,I,I⟩<|g 21 25 [.call (V.i (k+bS x.log+ (↑(List.length x.results):Int) +aj eL x.jobs+aj db x.seats+aj di x.owed)) ([[V.own cP (List.map aR (mkL iO di (k+bS x.log+ (↑(List.length x.results):Int) +aj eL x.jobs+aj db x.seats) x.owed))],[]])]<|J ⟨I,I,I,⟨Zdq,I,UV,UA,ur _ _ OM OM OM⟩,I,I⟩<|g 1 3 []<|J UB<|RT ?_
 exact vi OM
theorem xx(x:Boss)(k:Int)(hl:x.log.safe.length≤9223372036854775806∧x.log.loose.length≤9223372036854775806∧x.results.length≤9223372036854775806∧x.jobs.length≤9223372036854775806∧x.seats.length≤9223372036854775806∧x.owed.length≤9223372036854775806)(h0:0≤k)(hk:k+bo x≤1099511627776):F wm [.val (fJ (uJ k x)),.val (.i k)] (.i (k+bo x)) [[],[]]:=by
 obtain⟨hl0,hl1,hl2,hl3,hl4,hl5⟩:=hl
 have hn0:=qq x.log
 have hn1:=aI gM x.jobs
 have hn2:=aI fq x.seats
 have hn3:=aI fr x.owed
 have hz:bo x = bS x.log+x.results.length+aj eL x.jobs+aj db x.seats+aj di x.owed:=rfl
 refine wM ?_
 conv=>whnf
 refine g 0 1 []<|J Zej<|g 5 9 [.call (V.i (k+bS x.log)) [[],[]]]<|J ⟨I,I,I,⟨UB,I,⟨UB,UA,I⟩,UA,ze _ _ OM OM OM⟩,I,I⟩<|W.sq<|g 9 10 []<|J UB<|W.cn<|J (noT dO) fun _=>W.skip<|g 10 15 [.call (V.i (k+bS x.log+ (↑(List.length x.results):Int))) [[],[]]]<|J ⟨I,I,I,⟨UB,I,UT,UA,ey _ _ OM OM OM⟩,I,I⟩<|W.sq<|g 15 16 []<|J UB<|W.cn<|J (noT dO) fun _=>W.skip<|g 16 21 [.call (V.i (k+bS x.log+ (↑(List.length x.results):Int) +aj eL x.jobs)) [[],[]]]<|J ⟨I,I,I,⟨UB,I,UT,UA,xu _ _ OM OM OM⟩,I,I⟩ ?_
 refine W.sq<|g 21 22 []<|J UB<|W.cn<|J (noT dO) fun _=>W.skip<|g 22 27 [.call (V.i (k+bS x.log+ (↑(List.length x.results):Int) +aj eL x.jobs+aj db x.seats)) [[],[]]]<|J ⟨I,I,I,⟨UB,I,UT,UA,uu _ _ OM OM OM⟩,I,I⟩<|W.sq<|g 27 28 []<|J UB<|W.cn<|J (noT dO) fun _=>W.skip<|g 28 33 [.call (V.i (k+bS x.log+ (↑(List.length x.results):Int) +aj eL x.jobs+aj db x.seats+aj di x.owed)) [[],[]]]<|J ⟨I,I,I,⟨UB,I,UT,UA,uv _ _ OM OM OM⟩,I,I⟩<|W.sq<|g 2 3 []<|J UB ?_
 refine W.cn<|J (noT dO) fun _=>W.skip<|g 33 36 []<|J UB<|RT ?_
 exact vi OM
end Go.K
end
section
open Go Go.Tm Go.Proofs
namespace Go.K
theorem uB(b:Boss)(h1:b.log.safe.length≤1048576)(h2:b.log.loose.length≤1048576)(h3:b.results.length≤1048576)(h4:b.jobs.length≤1048576)(h5:b.seats.length≤1048576)(h6:b.owed.length≤1048576):F kS [.val (fJ b)] (aL b) [[]]:=by
 refine uc ?_
 conv=>whnf
 refine g 0 0 []<|J Zej<|gd 3 13 [[],[],[],[.call (V.own [false] (List.map ak b.log.safe)) [[]]],[],[],[],[.call (V.own [false] (List.map ak b.log.loose)) [[]]],[],[],[]] ?_
 conv=>whnf
 refine J ⟨I,I,I,⟨UA,I,US,UA,eG _ OM⟩,I,I,I,⟨UA,I,US,UA,eG _ OM⟩,I,I,UB,I⟩<|J KR<|g 13 17 [.call (V.own [false] (List.map ak b.results)) [[]]]<|J ⟨I,I,⟨UA,I,US,UA,eG _ OM⟩,I,UA,I⟩<|g 17 22 []<|J Zcc<|g 22 27 []<|J Zcc<|g 27 32 []<|J Zcc<|g 0 2 []<|J Zds<|RT ?_
 rfl
theorem FZ(l:Log)(h1:l.safe.length≤1048576)(h2:l.loose.length≤1048576):F E8 [.val (Py l)] (Pz l) [[]]:=by
 refine FD ?_
 conv=>whnf
 refine g 0 0 []<|J ⟨UB,I,I⟩<|gd 3 12 [[],[],[],[],[],[],[],[],[],[]] ?_
 conv=>whnf
 refine J ⟨I,I,I,Zdi,I,I,I,Zdi,I,UB,I⟩<|J KR<|RT ?_
 rfl
theorem pb(b:Boss)(h1:b.log.safe.length≤1048576)(h2:b.log.loose.length≤1048576)(h3:b.results.length≤1048576)(h4:b.jobs.length≤1048576)(h5:b.seats.length≤1048576)(h6:b.owed.length≤1048576):F oL [.val (fJ b)] (aL b) [[]]:=by
 have c1:=FZ b.log h1 h2
 refine Cg ?_
 conv=>whnf
 refine g 0 1 []<|J Zej<|g 3 7 [.call (Pz b.log) [[]]]<|J ⟨I,I,⟨UA,I,⟨UB,I⟩,UA,AS⟩,I,UB,I⟩<|g 7 12 []<|J Zcc<|g 12 17 []<|J Zcc<|g 17 22 []<|J Zcc<|g 22 27 []<|J Zcc<|g 1 2 []<|J Zds<|RT ?_
 rfl
def iR(k:Int)(n:Nat):Nat:=if k < 0 then 0 else if k < n then k.toNat else n
theorem Q8{k:Int}{n:Nat}(h:k < 0):iR k n = 0:=if_pos h
theorem Q9{k:Int}{n:Nat}(h:0≤k)(h2:k < n):iR k n = k.toNat:=by rw[iR,if_neg OM,if_pos h2]
theorem JD{k:Int}{n:Nat}(h2:(n:Int)≤k):iR k n = n:=by rw[iR,if_neg OM,if_neg OM]
theorem GA(k:Int)(n:Nat):iR k n≤n:=by
 unfold iR;split
 ·omega
 ·split <;> omega
theorem U8(k:Int)(n:Nat):max 0 (min k (n:Int)) = (iR k n:Int):=by
 unfold iR;split
 ·omega
 ·split <;> omega
theorem WU(k:Int)(n:Nat)(h:n≤1048576):IntKind.i64.wrap (max 0 (min k (n:Int))) = (iR k n:Int):=by
 rw[U8]
 have:=GA k n
 exact wO
def j8(b:Boss)(k:Int):Boss:=if b.up = false then b else⟨b.workers,false,b.now,0,0,0,⟨b.log.safe++b.log.loose.take (iR k b.log.loose.length),[]⟩,[],[],[],[]⟩
theorem ox{b:Boss}{k:Int}(h:b.up = false):j8 b k = b:=if_pos h
theorem Aq{b:Boss}{k:Int}(h:¬b.up = false):j8 b k = ⟨b.workers,false,b.now,0,0,0,⟨b.log.safe++b.log.loose.take (iR k b.log.loose.length),[]⟩,[],[],[],[]⟩:=if_neg h
theorem uF(b:Boss)(k:Int)(h1:b.log.safe.length≤1048576)(h2:b.log.loose.length≤1048576):F tw [.ptr (cellsOf (aL b)),.val (.i k)] (.tup []) [cellsOf (aL (j8 b k)),[]]:=by
 by_cases hup:b.up = false
 ·rw[ox hup]
  refine lc ?_
  conv=>whnf
  refine g 4 6 []<|J UD<|W.cn<|J (noT AS) fun _=>W.skip<|EndsW.nm<|J I (J ?_ rfl)
  rfl
 ·rw[Aq hup]
  have hcl:=GA k b.log.loose.length
  have hw:IntKind.i64.wrap (max 0 (min k ((List.map ak b.log.loose).length:Int))) = (iR k b.log.loose.length:Int):=by rw[List.length_map];exact WU _ _ h2
  refine lc ?_
  conv=>whnf
  refine g 4 6 []<|J UD<|W.cn<|J (fun _=>(g 7 17 [.i (match false with|true=>max k (↑(List.length (List.map ak b.log.loose)):Int)|false=>min k (↑(List.length (List.map ak b.log.loose)):Int)),.i (IntKind.wrap IntKind.i64   (match true with   |true =>     max 0       (match false with       |true=>max k (↑(List.length (List.map ak b.log.loose)):Int)       |false=>min k (↑(List.length (List.map ak b.log.loose)):Int))   |false =>     min 0       (match false with       |true=>max k (↑(List.length (List.map ak b.log.loose)):Int)       |false=>min k (↑(List.length (List.map ak b.log.loose)):Int))))]<|J ⟨I,I,I,I,I,I,I,rfl,w64 LN LN,I,I⟩ (rgd [[],[],[],[],[],[],[],[],[],[],[],[],[],[],[],[],[],[],[],[],[.n (iR k (List.length b.log.loose))],[],[],[],[],[]] ?_))) (noF SI)
  conv=>whnf
  refine⟨⟨I,I,I,I,I,I,I,I,I,I,I,I,I,I,I,I,I,I,I,I,⟨I,hw,I,OM,LN⟩,Zdi,I,I,I,UL,I⟩,by kernel_rfl,?_⟩
  refine EndsW.nm<|J I<|J ?_ ?_
  rfl
  all_goals (simp only[List.nil_append,List.drop_zero,List.length_map,←List.map_take,←List.map_append];rfl)
structure BossLim (b:Boss):Prop where
 safe:b.log.safe.length≤1048576
 loose:b.log.loose.length≤1048576
 all:∀ s∈b.log.safe++b.log.loose,s.size≤281474976710656
 res:b.results.length≤1048576
 jobs:b.jobs.length≤1048576
 seats:b.seats.length≤1048576
 owed:b.owed.length≤1048576
theorem JF{b:Boss}(h:bI b≤1048576):BossLim b:=by
 obtain⟨b1,b2,b3,b4,b5,b6,b7⟩:=Iq h
 exact⟨b1,b2,b3,b4,b5,b6,b7⟩
theorem Ra(b:Boss)(p:Plan)(hp:dl p)(h:BossLim b):F kQ [.val (fJ b),.val (cO p)] (.b (decide (BossOk b p))) [[],[]]:=uz b p hp h.safe h.loose h.all h.res h.jobs h.seats h.owed
theorem nU(b:Boss)(p:Plan)(hp:dl p)(h:BossLim b):F kO [.val (fJ b),.val (cO p)] (.b (decide (BossOk b p))) [[],[]]:=ui b p hp h.safe h.loose h.all h.res h.jobs h.seats h.owed
theorem U9(b:Boss)(h:BossLim b):F kS [.val (fJ b)] (aL b) [[]]:=uB b h.safe h.loose h.res h.jobs h.seats h.owed
theorem uh(b:Boss)(h:BossLim b):F oL [.val (fJ b)] (aL b) [[]]:=pb b h.safe h.loose h.res h.jobs h.seats h.owed
noncomputable def qI(b:Boss)(p:Plan)(k:Int):Boss:=if BossOk b p then j8 b k else km
theorem Be{b:Boss}{p:Plan}{k:Int}(h:BossOk b p):qI b p k = j8 b k:=if_pos h
theorem JG{b:Boss}{p:Plan}{k:Int}(h:¬BossOk b p):qI b p k = km:=if_neg h
theorem xd(b:Boss)(p:Plan)(k:Int)(hp:dl p)(h:BossLim b):F v6 [.val (fJ b),.val (cO p),.val (.i k)] (aL (qI b p k)) [[],[],[]]:=by
 have cv:=nU b p hp h
 have h1:=h.safe
 have h2:=h.loose
 by_cases hv:BossOk b p
 ·rw[decide_eq_true hv]at cv
  rw[Be hv]
  have ct:=uh b h
  by_cases hup:b.up = false
  ·rw[ox hup]
   refine eI ?_
   conv=>whnf
   refine g 1 2 []<|J Zcp<|W.sq<|g 7 10 [.call VT [[],[]]]<|J Zar<|W.cn<|J (noT rfl) fun _=>W.skip<|W.sq<|g 10 14 []<|J UC<|W.cn<|J (fun _=>(g 14 17 [.call (aL b) [[]]]<|J ⟨I,Za0,UL,I⟩ (RT ?_))) (noF (nbT AS))
   rfl
  ·rw[Aq hup]
   by_cases hk:k < 0
   ·rw[Q8 hk]
    refine eI ?_
    conv=>whnf
    refine g 1 2 []<|J Zcp<|W.sq<|g 7 10 [.call VT [[],[]]]<|J Zar<|W.cn<|J (noT rfl) fun _=>W.skip<|W.sq<|g 10 14 []<|J UC<|W.cn<|J (noT SI) fun _=>W.skip<|W.sq<|g 14 18 []<|J UB<|W.cn<|J (fun _=>?_) (noF tO)
    refine rg []<|J UA<|W.sq<|g 18 24 []<|J UF<|W.cn<|J (noT rfl) fun _=>W.skip<|gd 24 40 [[],[],[],[],[],[],[],[],[],[],[],[],[],[.n (0)],[],[],[],[]] ?_
    conv=>whnf
    refine J ⟨I,I,I,I,I,I,I,I,Zdi,I,I,I,I,⟨I,rfl,I,OM,OM⟩,Zdi,I,I,UL,I⟩<|J KR<|RT ?_
    all_goals (simp only[List.nil_append,List.drop_zero,List.length_map,←List.map_take,←List.map_append];rfl)
   ·by_cases hk2:k < b.log.loose.length
    ·rw[Q9 OM hk2]
     refine eI ?_
     conv=>whnf
     refine g 1 2 []<|J Zcp<|W.sq<|g 7 10 [.call VT [[],[]]]<|J Zar<|W.cn<|J (noT rfl) fun _=>W.skip<|W.sq<|g 10 14 []<|J UC<|W.cn<|J (noT SI) fun _=>W.skip<|W.sq<|g 14 18 []<|J UB<|W.cn<|J (noT dO) fun _=>?_
     refine W.skip<|W.sq<|g 18 24 []<|J UF<|W.cn<|J (fun h3=>?_) fun h3=>?_
     replace h3:=dt h3
     simp only[LM]at h3
     omega
     replace h3:=df h3
     simp only[LM]at h3
     refine W.skip<|gd 24 40 [[],[],[],[],[],[],[],[],[],[],[],[],[],[.n (Int.toNat k)],[],[],[],[]] ?_
     conv=>whnf
     refine J ⟨I,I,I,I,I,I,I,I,Zdi,I,I,I,I,⟨I,OM,I,OM,LN⟩,Zdi,I,I,UL,I⟩<|J KR<|RT ?_
     all_goals first|(exfalso;omega)|(simp only[List.nil_append,List.drop_zero,List.length_map,←List.map_take,←List.map_append];rfl)
    ·rw[JD OM]
     refine eI ?_
     conv=>whnf
     refine g 1 2 []<|J Zcp<|W.sq<|g 7 10 [.call VT [[],[]]]<|J Zar<|W.cn<|J (noT rfl) fun _=>W.skip<|W.sq<|g 10 14 []<|J UC<|W.cn<|J (noT SI) fun _=>W.skip<|W.sq<|g 14 18 []<|J UB<|W.cn<|J (noT dO) fun _=>?_
     refine W.skip<|W.sq<|g 18 24 []<|J UF<|W.cn<|J (fun h3=>?_) fun h3=>?_
     replace h3:=dt h3
     simp only[LM]at h3
     refine rg []<|J UE<|gd 24 40 [[],[],[],[],[],[],[],[],[],[],[],[],[],[.n (List.length (List.map ak b.log.loose))],[],[],[],[]] ?_
     conv=>whnf
     refine J ⟨I,I,I,I,I,I,I,I,Zdi,I,I,I,I,⟨I,rfl,I,OM,OM⟩,Zdi,I,I,UL,I⟩<|J KR<|RT ?_
     rotate_left
     replace h3:=df h3
     simp only[LM]at h3
     refine W.skip<|gd 24 40 [[],[],[],[],[],[],[],[],[],[],[],[],[],[.n (Int.toNat k)],[],[],[],[]] ?_
     conv=>whnf
     refine J ⟨I,I,I,I,I,I,I,I,Zdi,I,I,I,I,⟨I,OM,I,OM,LN⟩,Zdi,I,I,UL,I⟩<|J KR<|RT ?_
     rotate_left
     ·simp only[List.nil_append,List.drop_zero,List.length_map,←List.map_take,←List.map_append];rfl
     ·have e:k = b.log.loose.length:=by omega
      subst e
      simp only[List.nil_append,List.drop_zero,List.length_map,Int.toNat_natCast,←List.map_take,←List.map_append];rfl
 ·rw[decide_eq_false hv]at cv
  rw[JG hv]
  refine eI ?_
  conv=>whnf
  refine g 1 2 []<|J Zcp<|W.sq<|g 7 10 [.call VF [[],[]]]<|J Zar<|W.cn<|J (fun _=>(g 10 12 []<|J Zds (RT ?_))) (noF rfl)
  rfl
end Go.K
end

/- Contracts of functions of the program: what each call answers. -/
import Derived.Test.YtoknlfldllmhpaaGreatParte
set_option maxHeartbeats 8000000
set_option maxRecDepth 20000
set_option linter.unusedVariables false
set_option linter.unusedSimpArgs false
section
open Go Go.Tm Go.Proofs
namespace Go.K
abbrev fh(w now:Int)(safe:List ByteArray):Boss:=⟨w,false,now,0,0,0,⟨safe,[]⟩,[],[],[],[]⟩
theorem Ns{b:Boss}(hup:b.up = false)(d:DownOk b):b = fh b.workers b.now b.log.safe:=by
 obtain⟨w,up,now,since,ep,given,⟨safe,loose⟩,rs,js,ss,ow⟩:=b
 obtain⟨d1,d2,d3,d4,d5,d6,d7,d8⟩:=d
 simp only at hup d1 d2 d3 d4 d5 d6 d7 d8
 subst hup d2 d3 d4
 rw[List.eq_nil_of_length_eq_zero d1,List.eq_nil_of_length_eq_zero d5,List.eq_nil_of_length_eq_zero d6,List.eq_nil_of_length_eq_zero d7,List.eq_nil_of_length_eq_zero d8]
def epE(n:Int):Entry:=⟨1,n,0,emp⟩
def upB(w now:Int)(safe:List ByteArray)(p:Plan)(st:Story):Boss:=⟨w,true,now,0,st.epoch+1,0,⟨safe++ [dc (epE (st.epoch+1))],[]⟩,st.results,List.replicate p.tasks.length fz,List.replicate w.toNat gW,[]⟩
def oE(b:Boss)(p:Plan):Prop:=b.up = false∧b.log.safe.length < 310∧(aw p b.log.safe).epoch < 300
noncomputable instance (b:Boss) (p:Plan):Decidable (oE b p):=Classical.propDecidable _
noncomputable def cN(b:Boss)(p:Plan):Boss:=if oE b p then upB b.workers b.now b.log.safe p (aw p b.log.safe)else b
theorem mV{b:Boss}{p:Plan}(h:¬oE b p):cN b p = b:=if_neg h
theorem GL{b:Boss}{p:Plan}(h:oE b p):cN b p = upB b.workers b.now b.log.safe p (aw p b.log.safe):=if_pos h
theorem Uo(n:Nat):(List.replicate n fz).map aV = List.replicate n (aV fz):=List.map_replicate
theorem Qw(n:Nat):(List.replicate n gW).map aF = List.replicate n (aF gW):=List.map_replicate
theorem NS(n:Nat):(List.replicate n fz).map aV++ [aV fz] = (List.replicate (n+1) fz).map aV:=by simp[List.replicate_succ']
theorem NR(n:Nat):(List.replicate n gW).map aF++ [aF gW] = (List.replicate (n+1) gW).map aF:=by simp[List.replicate_succ']
theorem ID(w now:Int)(safe:List ByteArray)(p:Plan)(st:Story):aL (upB w now safe p st) = .agg [.t (.i w),.t (.b true),.t (.i now),.t (.i 0),.t (.i (st.epoch+1)),.t (.i 0),.own [false] (safe.map ak++ [ak (dc ⟨1,st.epoch+1,0,emp⟩)]),.own [false] [],.own [false] (st.results.map ak),.own eT ((List.replicate p.tasks.length fz).map aV),.own cM ((List.replicate w.toNat gW).map aF),.own cP []]:=by
 simp only[aL,upB,List.map_append];rfl
theorem Ik(w now:Int)(safe:List ByteArray)(p:Plan)(hp:dl p)(hw:1≤w∧w≤8)(hs:∀ s∈safe,s.size≤281474976710656)(hc:(aw p safe).code = 0):F gL [.ptr [.t (.i w),.t (.b false),.t (.i now),.t (.i 0),.t (.i 0),.t (.i 0),.own [false] (safe.map ak),.own [false] [],.own [false] [],.own eT [],.own cM [],.own cP []],.val (cO p)] (.tup []) [cellsOf (aL (cN (fh w now safe) p)),[]]:=by
 obtain⟨hck,hl,_,_⟩:=cz hc
 obtain⟨he1,he2⟩:=fw hc
 have hpl:=(bT hck).1
 have cr:=pg p safe hp hs OM
 by_cases hl2:safe.length < 310
 ·by_cases he:(aw p safe).epoch < 300
  ·rw[GL ⟨rfl,hl2,he⟩]
   have cf:=lk 1 ((aw p safe).epoch+1) 0 emp (by decide)
   rw[MB]at cf
   rw[ID]
   refine fe ?_
   conv=>whnf
   refine g 0 0 []<|J US<|W.sq<|g 5 17 [BF,BF,BF,BF,BF,BF,BF,BF]<|J Zcd<|W.cn<|J (fun h1=>?_) fun h1=>?_
   replace h1:=dt h1
   simp only[LM]at h1
   omega
   replace h1:=df h1
   simp only[LM]at h1
   refine W.skip<|gd 17 25 [[],[],[],[],[],[],[.call (gc (aw p safe)) [[],[]]],[],[]] ?_
   conv=>whnf
   refine J ⟨I,I,I,I,I,I,Zam,I,UC,I⟩<|J KR<|W.sq<|g 25 27 []<|J UC<|W.cn<|J (noT dO) fun _=>W.skip<|gd 4 42 [[],[],[],[],[],[.i (Story.epoch (aw p safe) +1)],[],[],[],[],[],[],[],[],[],[],[]] ?_
   conv=>whnf
   refine J ⟨I,I,I,I,I,wO,I,I,I,I,UA,I,I,UA,I,I,UA,I⟩<|J KR<|gd 42 59 [[],[],[],[],[],[],[],[],[],[],[],[.call (V.s (dc {kind:=1,epoch:=Story.epoch (aw p safe) +1,task:=0,text:=emp:Entry})) [[]]],[],[],[],[],[],[]] ?_
   conv=>whnf
   refine J ⟨I,I,I,I,I,I,I,I,I,I,I,Zc9,US,Zdi,I,I,I,UA,I⟩<|J KR<|rgd [[],[],[],[],[],[.n (List.length (List.map ay p.tasks))],[],[],[],[],[.n (Int.toNat w)],[],[],[],[],[],[]] ?_
   conv=>whnf
   refine J ⟨I,I,I,I,I,⟨rfl,rfl,LN⟩,I,I,I,I,⟨OM,OM,LN⟩,I,I,UA,I,I,UA,I⟩<|J KR<|EndsW.nm<|J I<|J ?_ ?_
   rfl
   simp only[List.length_map,Uo,Qw]
   rfl
  ·rw[mV (fun q=>he q.2.2)]
   refine fe ?_
   conv=>whnf
   refine g 0 0 []<|J US<|W.sq<|g 5 17 [BF,BF,BF,BF,BF,BF,BF,BF]<|J Zcd<|W.cn<|J (fun h1=>?_) fun h1=>?_
   replace h1:=dt h1
   simp only[LM]at h1
   omega
   replace h1:=df h1
   simp only[LM]at h1
   refine W.skip<|gd 17 25 [[],[],[],[],[],[],[.call (gc (aw p safe)) [[],[]]],[],[]] ?_
   conv=>whnf
   refine J ⟨I,I,I,I,I,I,Zam,I,UC,I⟩<|J KR<|W.sq<|g 25 27 []<|J UC<|W.cn<|J (fun _=>(RT ?_)) (noF tO)
   rfl
 ·rw[mV (fun q=>hl2 q.2.1)]
  refine fe ?_
  conv=>whnf
  refine g 0 0 []<|J US<|W.sq<|g 5 17 [BF,BF,BF,BF,BF,BF,BF,BF]<|J Zcd<|W.cn<|J (fun h1=>?_) fun h1=>?_
  replace h1:=dt h1
  simp only[LM]at h1
  refine RT ?_
  rfl
  replace h1:=df h1
  simp only[LM]at h1
  omega
theorem uE(b:Boss)(p:Plan)(hp:dl p)(hw:1≤b.workers∧b.workers≤8)(hs:∀ s∈b.log.safe,s.size≤281474976710656)(hd:b.up = false→DownOk b∧(aw p b.log.safe).code = 0):F gL [.ptr (cellsOf (aL b)),.val (cO p)] (.tup []) [cellsOf (aL (cN b p)),[]]:=by
 by_cases hup:b.up = false
 ·obtain⟨d,hc⟩:=hd hup
  have e:=Ns hup d
  have:F gL [.ptr (cellsOf (aL (fh b.workers b.now b.log.safe))),.val (cO p)] (.tup []) [cellsOf (aL (cN (fh b.workers b.now b.log.safe) p)),[]]:=Ik b.workers b.now b.log.safe p hp hw hs hc
  rw[←e]at this
  exact this
 ·rw[mV (fun q=>hup q.1)]
  refine fe ?_
  conv=>whnf
  refine g 0 0 []<|J US<|W.sq<|g 5 17 [BT,BT,BT,BT,BT,BT,BT,BT]<|J ⟨I,I,I,I,I,SI,SI,SI,SI,SI,SI,SI,SI,I⟩<|W.cn<|J (fun _=>(RT ?_)) (noF rfl)
  rfl
theorem pf(w now:Int)(safe:List ByteArray)(p:Plan)(hp:dl p)(hw:1≤w∧w≤8)(hs:∀ s∈safe,s.size≤281474976710656)(hc:(aw p safe).code = 0):F kn [.val (.agg [.t (.i w),.t (.b false),.t (.i now),.t (.i 0),.t (.i 0),.t (.i 0),.t (.slc [false] (safe.map ak)),.t (.slc [false] []),.t (.slc [false] []),.t (.slc eT []),.t (.slc cM []),.t (.slc cP [])]),.val (cO p)] (aL (cN (fh w now safe) p)) [[],[]]:=by
 obtain⟨hck,hl,_,_⟩:=cz hc
 obtain⟨he1,he2⟩:=fw hc
 have hpl:=(bT hck).1
 have cr:=hJ p safe hp hs OM
 have cc:=pb (fh w now safe) (by show safe.length≤1048576;omega) (Nat.zero_le _) (Nat.zero_le _) (Nat.zero_le _) (Nat.zero_le _) (Nat.zero_le _)
 by_cases hl2:safe.length < 310
 ·by_cases he:(aw p safe).epoch < 300
  ·rw[GL ⟨rfl,hl2,he⟩]
   have cf:=gO 1 ((aw p safe).epoch+1) 0 emp (by decide)
   refine gZ ?_
   conv=>whnf
   refine g 0 0 []<|J Zcp<|g 10 14 [.call (gc (aw p safe)) [[],[]]]<|J ⟨I,I,I,I,Zam,I,UC,I⟩<|W.sq ?_
   by_cases h1:(310:Int)≤(↑(List.length (List.map ak safe)):Int)
   simp only[LM]at h1
   omega
   simp only[LM]at h1
   refine g 9 27 [BF,BF,BF,BF,BF,BF,BF,BF,BF,BF]<|J ⟨I,I,I,Zdc,Zdc,Zdc,Zdc,Zdc,rfl,I,⟨SI,I⟩,⟨SI,I⟩,⟨SI,I⟩,SI,I⟩<|W.cn<|J (noT dO) fun _=>W.skip<|g 27 40 [.i (Story.epoch (aw p safe) +1)]<|J ⟨I,I,I,I,I,I,wO,I,I,I,I,UL,I⟩<|gd 41 53 [[],[],[],[],[],[],[],[],[.call (V.s (dc {kind:=1,epoch:=Story.epoch (aw p safe) +1,task:=0,text:=emp:Entry})) [[]]],[],[],[],[],[]] ?_
   conv=>whnf
   refine J ⟨I,I,I,I,Zdi,I,I,I,Zc9,US,Zdi,I,I,UA,I⟩<|J KR<|W.sq<|g 1 2 []<|J UA<|W.blk<|W.lp (fun s (n:Nat)=>⟨[(0,s.s 0),(2,s.s 2),(3,s.s 3),(4,s.s 4),(6,s.s 6),(7,.i n),(40,s.s 40)],[(2,[s.c 2 0,s.c 2 1,s.c 2 2,s.c 2 3,s.c 2 4,s.c 2 5,s.c 2 6,s.c 2 7,s.c 2 8,s.c 2 9,s.c 2 10,s.c 2 11]),(3,[s.c 3 0]),(4,[s.c 4 0,s.c 4 1,s.c 4 2,s.c 4 3,s.c 4 4,s.c 4 5,s.c 4 6,s.c 4 7,s.c 4 8,s.c 4 9,s.c 4 10,s.c 4 11]),(40,[s.c 40 0]),(6,[.t (.i w),.t (.b true),.t (.i now),.t (.i 0),.t (.i ((aw p safe).epoch+1)),.t (.i 0),.own [false] (safe.map ak++ [ak (dc ⟨1,(aw p safe).epoch+1,0,emp⟩)]),.own [false] [],.own [false] ((aw p safe).results.map ak),.own eT ((List.replicate n fz).map aV),.own cM ((List.replicate 0 gW).map aF),.own cP []])],[]⟩) (fun(n:Nat)=>n≤p.tasks.length) (fun(n:Nat)=>p.tasks.length - n) (0) [some 2,some 3,some 4,some 40,some 6] [] ⟨rfl,⟨Zad,rfl,rfl,rfl,rfl,rfl,rfl,I⟩,⟨Zaa,⟨Zac,⟨Zaa,⟨⟨rfl,UA⟩,⟨Zaa,I⟩⟩⟩⟩⟩,I⟩ OM ?_
   intro n hn
   conv=>whnf
   refine W.sq<|g 53 57 []<|J UE<|W.cn<|J (fun h2=>?_) fun h2=>?_
   replace h2:=dt h2
   simp only[LM]at h2
   refine W.skip<|W.sq<|W.blk<|rg []<|J Zcb<|rg [.i ((n:Int) +1)]<|J Zdd ?_
   rotate_left
   replace h2:=df h2
   simp only[LM]at h2
   refine W.exit<|W.sq<|g 3 4 []<|J UA<|W.blk ?_
   rotate_left
   ·refine⟨n+1,[some 2,some 3,some 4,some 40,some 6],[],⟨rfl,⟨Zad,rfl,rfl,rfl,rfl,rfl,rfl,I⟩,⟨Zaa,⟨Zac,⟨Zaa,⟨⟨rfl,UA⟩,⟨⟨rfl,⟨rfl,⟨rfl,⟨rfl,⟨rfl,⟨rfl,⟨rfl,⟨rfl,⟨rfl,⟨rfl,⟨(congrArg (V.own _) (NS n)),Zac⟩⟩⟩⟩⟩⟩⟩⟩⟩⟩⟩,I⟩⟩⟩⟩⟩,I⟩,?_,?_⟩
    rotate_left
    (dsimp only;omega)
    dsimp only
    omega
   obtain rfl:n = p.tasks.length:=by omega
   refine W.lp (fun s (n:Nat)=>⟨[(0,s.s 0),(2,s.s 2),(4,s.s 4),(6,s.s 6),(8,.i n),(40,s.s 40)],[(2,[s.c 2 0,s.c 2 1,s.c 2 2,s.c 2 3,s.c 2 4,s.c 2 5,s.c 2 6,s.c 2 7,s.c 2 8,s.c 2 9,s.c 2 10,s.c 2 11]),(4,[s.c 4 0,s.c 4 1,s.c 4 2,s.c 4 3,s.c 4 4,s.c 4 5,s.c 4 6,s.c 4 7,s.c 4 8,s.c 4 9,s.c 4 10,s.c 4 11]),(40,[s.c 40 0]),(6,[.t (.i w),.t (.b true),.t (.i now),.t (.i 0),.t (.i ((aw p safe).epoch+1)),.t (.i 0),.own [false] (safe.map ak++ [ak (dc ⟨1,(aw p safe).epoch+1,0,emp⟩)]),.own [false] [],.own [false] ((aw p safe).results.map ak),.own eT ((List.replicate p.tasks.length fz).map aV),.own cM ((List.replicate n gW).map aF),.own cP []])],[]⟩) (fun(n:Nat)=>n≤w.toNat) (fun(n:Nat)=>w.toNat - n) (0) [some 2,some 4,some 40,some 6] [] ⟨rfl,Zee,⟨Zaa,⟨Zaa,⟨⟨rfl,UA⟩,⟨Zaa,I⟩⟩⟩⟩,I⟩ OM ?_
   intro n hn
   conv=>whnf
   refine W.sq<|g 66 69 []<|J UD<|W.cn<|J (fun h3=>?_) fun h3=>?_
   replace h3:=dt h3
   refine W.skip<|W.sq<|W.blk<|rg []<|J ⟨I,I,I,⟨UB,I⟩,Zdi,I,UA,I⟩<|rg [.i ((n:Int) +1)]<|J Zdd ?_
   rotate_left
   replace h3:=df h3
   refine W.exit<|g 0 3 []<|J Zds<|RT ?_
   rotate_left
   ·refine⟨n+1,[some 2,some 4,some 40,some 6],[],⟨rfl,Zee,⟨Zaa,⟨Zaa,⟨⟨rfl,UA⟩,⟨⟨rfl,⟨rfl,⟨rfl,⟨rfl,⟨rfl,⟨rfl,⟨rfl,⟨rfl,⟨rfl,⟨rfl,⟨rfl,⟨(congrArg (V.own _) (NR n)),Zdc⟩⟩⟩⟩⟩⟩⟩⟩⟩⟩⟩⟩,I⟩⟩⟩⟩,I⟩,?_,?_⟩
    rotate_left
    (dsimp only;omega)
    dsimp only
    omega
   obtain rfl:n = w.toNat:=by omega
   exact(ID w now safe p (aw p safe)).symm
  ·rw[mV (fun q=>he q.2.2)]
   refine gZ ?_
   conv=>whnf
   refine g 0 0 []<|J Zcp<|g 10 14 [.call (gc (aw p safe)) [[],[]]]<|J ⟨I,I,I,I,Zam,I,UC,I⟩<|W.sq ?_
   by_cases h1:(310:Int)≤(↑(List.length (List.map ak safe)):Int)
   simp only[LM]at h1
   omega
   simp only[LM]at h1
   refine g 9 27 [BF,BF,BF,BF,BF,BF,BF,BF,BF,BF]<|J ⟨I,I,I,Zdc,Zdc,Zdc,Zdc,Zdc,rfl,I,⟨SI,I⟩,⟨SI,I⟩,⟨SI,I⟩,SI,I⟩<|W.cn<|J (fun _=>(g 27 30 [.call (aL (fh w now safe)) [[]]]<|J ⟨I,Za0,UL,I⟩ (RT ?_))) (noF tO)
   rfl
 ·rw[mV (fun q=>hl2 q.2.1)]
  refine gZ ?_
  conv=>whnf
  refine g 0 0 []<|J Zcp<|g 10 14 [.call (gc (aw p safe)) [[],[]]]<|J ⟨I,I,I,I,Zam,I,UC,I⟩<|W.sq ?_
  by_cases h1:(310:Int)≤(↑(List.length (List.map ak safe)):Int)
  simp only[LM]at h1
  refine g 9 27 [BF,BF,BF,BF,BF,BF,BT,BT,BT,BT]<|J ⟨I,I,I,Zdc,Zdc,Zdc,Zdc,Zdc,rfl,I,SI,SI,SI,SI,I⟩<|W.cn<|J (fun _=>(g 27 30 [.call (aL (fh w now safe)) [[]]]<|J ⟨I,Za0,UL,I⟩ (RT ?_))) (noF rfl)
  rfl
  simp only[LM]at h1
  omega
theorem Df(b:Boss)(p:Plan)(hp:dl p)(h:BossLim b)(hw:1≤b.workers∧b.workers≤8)(hc:aq p.tasks = 0)(hd:b.up = false→DownOk b∧(aw p b.log.safe).code = 0):F kn [.val (fJ b),.val (cO p)] (aL (cN b p)) [[],[]]:=by
 by_cases hup:b.up = false
 ·obtain⟨d,hc2⟩:=hd hup
  have e:=Ns hup d
  have:F kn [.val (fJ (fh b.workers b.now b.log.safe)),.val (cO p)] (aL (cN (fh b.workers b.now b.log.safe) p)) [[],[]]:=pf b.workers b.now b.log.safe p hp hw (fun s hs=>h.all s (List.mem_append_left _ hs)) hc2
  rw[←e]at this
  exact this
 ·rw[mV (fun q=>hup q.1)]
  have ct:=uh b h
  have hss:∀ s∈b.log.safe,s.size≤281474976710656:=fun s hs=>h.all s (List.mem_append_left _ hs)
  have hs1:=h.safe
  have cr:=hJ p b.log.safe hp hss OM
  refine gZ ?_
  conv=>whnf
  refine g 0 0 []<|J Zcp<|g 10 14 [.call (gc (aw p b.log.safe)) [[],[]]]<|J ⟨I,I,I,I,Zam,I,UC,I⟩<|W.sq<|g 9 27 [BT,BT,BT,BT,BT,BT,BT,BT,BT,BT]<|J ⟨I,I,I,SI,SI,SI,SI,SI,SI,I,rfl,rfl,rfl,rfl,I⟩<|W.cn<|J (fun _=>(g 27 30 [.call (aL b) [[]]]<|J ⟨I,Za0,UL,I⟩ (RT ?_))) (noF rfl)
  rfl
noncomputable def qH(b:Boss)(p:Plan):Boss:=if BossOk b p then cN b p else km
theorem sE{b:Boss}{p:Plan}(h:BossOk b p):qH b p = cN b p:=if_pos h
theorem Rf{b:Boss}{p:Plan}(h:¬BossOk b p):qH b p = km:=if_neg h
theorem zR{b:Boss}{p:Plan}(h:BossOk b p):b.up = false→DownOk b∧(aw p b.log.safe).code = 0:=by
 intro hup
 have d:=h.down hup
 have hc:=h.code
 have e:=List.eq_nil_of_length_eq_zero d.loose
 rw[cx,e,List.append_nil]at hc
 exact⟨d,hc⟩
theorem xb(b:Boss)(p:Plan)(hp:dl p)(h:BossLim b):F v5 [.val (fJ b),.val (cO p)] (aL (qH b p)) [[],[]]:=by
 have cv:=nU b p hp h
 by_cases hv:BossOk b p
 ·rw[decide_eq_true hv]at cv
  rw[sE hv]
  have cf:=Df b p hp h hv.workers hv.plan (zR hv)
  refine my ?_
  conv=>whnf
  refine g 0 2 []<|J Zcp<|W.sq<|g 5 8 [.call VT [[],[]]]<|J Zar<|W.cn<|J (noT rfl) fun _=>W.skip<|g 8 13 [.call (aL (cN b p)) [[],[]]]<|J ⟨I,I,Zaw,UL,I⟩<|RT ?_
  rfl
 ·rw[decide_eq_false hv]at cv
  rw[Rf hv]
  refine my ?_
  conv=>whnf
  refine g 0 2 []<|J Zcp<|W.sq<|g 5 8 [.call VF [[],[]]]<|J Zar<|W.cn<|J (fun _=>(g 8 10 []<|J Zds (RT ?_))) (noF rfl)
  rfl
end Go.K
end
section
open Go Go.Tm Go.Proofs
namespace Go.K
theorem II:∀ l:List Job,aj eL l = 3 * (l.length:Int)
 |[]=>by simp[aj]
 |x :: l=>by have:=II l;simp only[aj,eL,List.length_cons];omega
theorem D6:∀ l:List Seat,aj db l = 2 * (l.length:Int)
 |[]=>by simp[aj]
 |x :: l=>by have:=D6 l;simp only[aj,db,List.length_cons];omega
theorem D7:∀ l:List Owed,aj di l = 3 * (l.length:Int)
 |[]=>by simp[aj]
 |x :: l=>by have:=D7 l;simp only[aj,di,List.length_cons];omega
theorem Gg(x:Boss):bo x = x.log.safe.length+x.log.loose.length+x.results.length+3 * x.jobs.length+2 * x.seats.length+3 * x.owed.length:=by
 simp only[bo,bS,II,D6,D7]
structure BossSmall (b:Boss):Prop where
 safe:b.log.safe.length≤4194304
 loose:b.log.loose.length≤4194304
 res:b.results.length≤4194304
 jobs:b.jobs.length≤4194304
 seats:b.seats.length≤4194304
 owed:b.owed.length≤4194304
theorem sa:BossSmall km:=⟨by decide,by decide,by decide,by decide,by decide,by decide⟩
theorem lx{b:Boss}(h:BossLim b):BossSmall b:=by
 obtain⟨h1,h2,h3,h4,h5,h6,h7⟩:=h
 exact⟨by omega,by omega,by omega,by omega,by omega,by omega⟩
theorem ml{b:Boss}(h:BossSmall b):ph b∧(b.log.safe.length≤9223372036854775806∧b.log.loose.length≤9223372036854775806∧b.results.length≤9223372036854775806∧b.jobs.length≤9223372036854775806∧b.seats.length≤9223372036854775806∧b.owed.length≤9223372036854775806)∧bo b≤100000000∧0≤bo b:=by
 obtain⟨h1,h2,h3,h4,h5,h6⟩:=h
 have e:=Gg b
 exact⟨⟨by omega,by omega,by omega,by omega,by omega,by omega⟩,⟨by omega,by omega,by omega,by omega,by omega,by omega⟩,by omega,by omega⟩
end Go.K
end
section
open Go Go.Tm Go.Proofs
namespace Go.K
structure Led where
 boss:Boss
 out:List Message
 deriving DecidableEq
abbrev Mp(x:Led):V:=.agg [.t (.i x.boss.workers),.t (.b x.boss.up),.t (.i x.boss.now),.t (.i x.boss.since),.t (.i x.boss.epoch),.t (.i x.boss.given),.own [false] (x.boss.log.safe.map ak),.own [false] (x.boss.log.loose.map ak),.own [false] (x.boss.results.map ak),.own eT (x.boss.jobs.map aV),.own cM (x.boss.seats.map aF),.own cP (x.boss.owed.map aR),.own cK (x.out.map aH)]
abbrev GR:Led:=⟨⟨0,false,0,0,0,0,⟨[],[]⟩,[],[],[],[]⟩,[]⟩
end Go.K
end
section
open Go Go.Tm Go.Proofs
namespace Go.K
def fR{α:Type}(f:α→α)(l:List α)(n:Nat):List α:=(l.take n).map f++l.drop n
theorem iB{α:Type}(f:α→α)(l:List α)(n:Nat):(fR f l n).length = l.length:=by simp[fR];omega
theorem iC{α:Type}(f:α→α)(l:List α){n:Nat}(h:l.length≤n):fR f l n = l.map f:=by
 rw[fR,List.take_of_length_le h,List.drop_of_length_le h,List.append_nil]
theorem Jg{α:Type}(f:α→α){l:List α}{n:Nat}{x:α}(h:l[n]? = some x):(fR f l n)[n]? = some x:=by
 have hl:n < l.length:=(List.getElem?_eq_some_iff.1 h).1
 rw[fR,List.getElem?_append_right (by simp;omega)]
 simp only[List.length_map,List.length_take,List.getElem?_drop]
 rw[show n+ (n - min n l.length) = n by omega,h]
theorem Jf{α:Type}{f:α→α}{l:List α}{n:Nat}{x:α}(h:l[n]? = some x):(fR f l n).set n (f x) = fR f l (n+1):=by
 obtain⟨hl,hx⟩:=List.getElem?_eq_some_iff.1 h
 unfold fR
 rw[List.drop_eq_getElem_cons hl,hx,List.set_append_right _ _ (by simp;omega),List.take_add_one,h]
 simp only[List.length_map,List.length_take,Option.toList_some,List.map_append,List.map_cons,List.map_nil,List.append_assoc,List.cons_append,List.nil_append]
 rw[show n - min n l.length = 0 by omega,List.set_cons_zero]
theorem lC{α β:Type}{f:α→α}{g:α→β}{l:List α}{n:Nat}{x:α}(h:l[n]? = some x):((fR f l n).map g).set n (g (f x)) = (fR f l (n+1)).map g:=by
 rw[←List.map_set,Jf h]
theorem bp{α β:Type}{f:α→α}{g:α→β}{l:List α}{n:Nat}{x:α}(h:l[n]? = some x):((fR f l n).map g)[n]? = some (g x):=by
 rw[List.getElem?_map,Jg f h];rfl
theorem oh{α:Type}{f:α→α}{l:List α}{n:Nat}{x:α}(h:l[n]? = some x)(e:f x = x):fR f l n = fR f l (n+1):=by
 rw[←Jf h,e]
 obtain⟨hl,hx⟩:=List.getElem?_eq_some_iff.1 (Jg f h)
 have:=List.set_getElem_self hl
 rw[hx]at this;exact this.symm
structure Hand where
 given:Int
 jobs:List Job
 seats:List Seat
 out:List Message
def qz(now:Int)(j:Job):Job:=if j.til≤now then fz else j
def KX(js:List Job)(i:Nat):Job:=(js[i]?).getD fz
def lN(ss:List Seat)(i:Nat):Seat:=(ss[i]?).getD gW
def kC(ss:List Seat):Option Nat:=ss.findIdx? Seat.free
def LF(b:Boss)(ts:List Task)(s i:Nat)(g:Int):Message:=⟨1,0,(s:Int) +1,b.epoch,(b.epoch - 1) * 1000000+g,i,emp,dI b.results (nc ts i)⟩
structure CanHand (b:Boss) (ts:List Task) (h:Hand) (i:Nat):Prop where
 res:atS b.results i = emp
 job:(KX h.jobs i).lease = 0
 ready:cU b.results (nc ts i)
 given:h.given < 1000000
noncomputable instance (b:Boss) (ts:List Task) (h:Hand) (i:Nat):Decidable (CanHand b ts h i):=Classical.propDecidable _
def kB(b:Boss)(ts:List Task)(h:Hand)(i s:Nat):Hand:=⟨h.given+1,h.jobs.set i ⟨(b.epoch - 1) * 1000000+ (h.given+1),(s:Int) +1,b.now+12⟩,h.seats.set s ⟨false,(lN h.seats s).epoch⟩,h.out++ [LF b ts s i (h.given+1)]⟩
noncomputable def Tq(b:Boss)(ts:List Task)(i:Nat)(h:Hand):Hand :=
 if CanHand b ts h i then(match kC h.seats with|none=>h|some s=>kB b ts h i s)else h
noncomputable def aG(b:Boss)(ts:List Task):Nat→Hand
 |0=>⟨b.given,b.jobs,b.seats,[]⟩
 |n+1=>Tq b ts n (aG b ts n)
theorem iE{b:Boss}{ts:List Task}{n:Nat}(h:¬CanHand b ts (aG b ts n) n):aG b ts (n+1) = aG b ts n:=if_neg h
theorem oq{b:Boss}{ts:List Task}{n:Nat}(h:kC (aG b ts n).seats = none):aG b ts (n+1) = aG b ts n:=by
 rw[aG,Tq,h];simp
theorem oo{b:Boss}{ts:List Task}{n s:Nat}(h:CanHand b ts (aG b ts n) n)(hf:kC (aG b ts n).seats = some s):aG b ts (n+1) = kB b ts (aG b ts n) n s:=by
 rw[aG,Tq,if_pos h,hf]
theorem ot{ss:List Seat}{s:Nat}(h:kC ss = some s):∃ x,ss[s]? = some x∧x.free = true∧s < ss.length∧∀ (k:Nat) (y:Seat),k < s→ss[k]? = some y→y.free = false:=by
 obtain⟨h1,h2,h3⟩:=List.findIdx?_eq_some_iff_getElem.1 h
 refine⟨ss[s],List.getElem?_eq_getElem h1,h2,h1,fun k y hk hy=>?_⟩
 obtain⟨h4,h5⟩:=List.getElem?_eq_some_iff.1 hy
 have:=h3 k hk
 rw[h5]at this
 cases hb:y.free
 ·rfl
 ·exact absurd hb this
theorem Ew{ss:List Seat}(h:kC ss = none):∀ (k:Nat) (y:Seat),ss[k]? = some y→y.free = false:=by
 intro k y hy
 have:=List.findIdx?_eq_none_iff.1 h y (List.mem_of_getElem? hy)
 exact this
structure HandOk (b:Boss) (ts:List Task) (h:Hand) (n:Nat):Prop where
 jobs:h.jobs.length = b.jobs.length
 seats:h.seats.length = b.seats.length
 out:h.out.length≤n
 lo:0≤h.given
 hi:h.given≤1000000
 inputs:∀ m∈h.out,m.inputs.length≤8
theorem ld{b:Boss}{ts:List Task}(hd:∀ t∈ts,t.deps.length≤8)(h0:0≤b.given)(h1:b.given≤1000000):∀ n,HandOk b ts (aG b ts n) n
 |0=>⟨rfl,rfl,Nat.le_refl _,h0,h1,fun m hm=>by cases hm⟩
 |n+1=>by
  have ih:=ld hd h0 h1 n
  have up:HandOk b ts (aG b ts n) (n+1):=⟨ih.jobs,ih.seats,by have:=ih.out;omega,ih.lo,ih.hi,ih.inputs⟩
  by_cases hc:CanHand b ts (aG b ts n) n
  ·cases hf:kC (aG b ts n).seats with
   |none=>rw[oq hf];exact up
   |some s =>
    rw[oo hc hf]
    have e1:=ih.jobs
    have e2:=ih.seats
    have e3:=ih.out
    have e4:=ih.lo
    have e5:=hc.given
    refine⟨by simp only[kB,List.length_set];exact e1,by simp only[kB,List.length_set];exact e2,by simp only[kB,List.length_append,List.length_singleton];omega,by simp only[kB];omega,by simp only[kB];omega,fun m hm=>?_⟩
    rcases List.mem_append.1 hm with hm|hm
    ·exact ih.inputs m hm
    ·rw[List.mem_singleton.1 hm]
     show(dI _ _).length≤8
     rw[lA,nc]
     cases ht:ts[n]? with
     |none=>exact Nat.zero_le _
     |some t=>exact hd t (List.mem_of_getElem? ht)
  ·rw[iE hc];exact up
def Xi(b:Boss):Boss:=⟨b.workers,b.up,b.now+1,b.since,b.epoch,b.given,b.log,b.results,b.jobs,b.seats,b.owed⟩
def dw(b:Boss):Boss:=⟨b.workers,b.up,b.now+1,b.since,b.epoch,b.given,b.log,b.results,b.jobs.map (qz (b.now+1)),b.seats,b.owed⟩
def mL(ep:Int)(o:Owed):Message:=⟨4,0,o.worker,ep,o.lease,0,emp,[]⟩
noncomputable def endH(b:Boss)(ts:List Task):Hand:=aG (dw b) ts ts.length
noncomputable def gQ(b:Boss)(ts:List Task):Led :=
 if b.now = 1000000 then⟨b,[]⟩else
 if b.up = false then⟨Xi b,[]⟩else
 if b.since+1 = 2 then⟨⟨b.workers,b.up,b.now+1,0,b.epoch,(endH b ts).given,⟨b.log.safe++b.log.loose,[]⟩,b.results,(endH b ts).jobs,(endH b ts).seats,[]⟩,(endH b ts).out++b.owed.map (mL b.epoch)⟩
 else⟨⟨b.workers,b.up,b.now+1,b.since+1,b.epoch,(endH b ts).given,b.log,b.results,(endH b ts).jobs,(endH b ts).seats,b.owed⟩,(endH b ts).out⟩
theorem r5{b:Boss}{ts:List Task}(h:b.now = 1000000):gQ b ts = ⟨b,[]⟩:=if_pos h
theorem zt{b:Boss}{ts:List Task}(h:¬b.now = 1000000)(h2:b.up = false):gQ b ts = ⟨Xi b,[]⟩:=by rw[gQ,if_neg h,if_pos h2]
theorem mh{b:Boss}{ts:List Task}(h:¬b.now = 1000000)(h2:¬b.up = false)(h3:b.since+1 = 2):gQ b ts = ⟨⟨b.workers,b.up,b.now+1,0,b.epoch,(endH b ts).given,⟨b.log.safe++b.log.loose,[]⟩,b.results,(endH b ts).jobs,(endH b ts).seats,[]⟩,(endH b ts).out++b.owed.map (mL b.epoch)⟩:=by rw[gQ,if_neg h,if_neg h2,if_pos h3]
theorem n5{b:Boss}{ts:List Task}(h:¬b.now = 1000000)(h2:¬b.up = false)(h3:¬b.since+1 = 2):gQ b ts = ⟨⟨b.workers,b.up,b.now+1,b.since+1,b.epoch,(endH b ts).given,b.log,b.results,(endH b ts).jobs,(endH b ts).seats,b.owed⟩,(endH b ts).out⟩:=by rw[gQ,if_neg h,if_neg h2,if_neg h3]
noncomputable def oy(b:Boss)(p:Plan):Led:=if BossOk b p then gQ b p.tasks else GR
theorem nW{b:Boss}{p:Plan}(h:BossOk b p):oy b p = gQ b p.tasks:=if_pos h
theorem Bd{b:Boss}{p:Plan}(h:¬BossOk b p):oy b p = GR:=if_neg h
end Go.K
end
section
open Go Go.Tm Go.Proofs
namespace Go.K
theorem Nq{now:Int}{js:List Job}{n:Nat}{j:Job}(h:js[n]? = some j)(hd:j.til≤now):((fR (qz now) js n).map aV).set n (aV fz) = (fR (qz now) js (n+1)).map aV:=by
 have:=lC (f:=qz now) (g:=aV) h
 rw[show qz now j = fz from if_pos hd]at this
 exact this
theorem S0{now:Int}{js:List Job}{n:Nat}{j:Job}(h:js[n]? = some j)(hd:¬j.til≤now):fR (qz now) js n = fR (qz now) js (n+1):=oh h (if_neg hd)
theorem vn{out:List Message}{ep:Int}{os:List Owed}{n:Nat}{o:Owed}(h:os[n]? = some o):(out++ (os.take n).map (mL ep)).map aH++ [aH (mL ep o)] = (out++ (os.take (n+1)).map (mL ep)).map aH:=by
 rw[List.take_add_one,h];simp
theorem uC(b:Boss)(p:Plan)(hv:BossOk b p)(h:BossLim b):F tt [.ptr (cellsOf (aL b)),.val (cO p)] (.own cK ((gQ b p.tasks).out.map aH)) [cellsOf (aL (gQ b p.tasks).boss),[]]:=by
 have hnow:=hv.now
 by_cases h0:b.now = 1000000
 ·rw[r5 h0]
  refine gN ?_
  conv=>whnf
  refine g 0 0 []<|J Zdq<|W.sq<|g 12 16 []<|J UE<|W.cn<|J (fun _=>(g 16 17 []<|J UA (RT ?_))) (noF tO)
  rfl
 ·by_cases hup:b.up = false
  ·rw[zt h0 hup]
   refine gN ?_
   conv=>whnf
   refine g 0 0 []<|J Zdq<|W.sq<|g 12 16 []<|J UE<|W.cn<|J (noT dO) fun _=>W.skip<|g 20 24 [.i (b.now+1)]<|J ⟨I,I,I,I,wO,I,I,UA,I⟩<|W.sq<|g 24 28 []<|J UE<|W.cn<|J (fun _=>(g 16 19 []<|J UA (RT ?_))) (noF (nbT AS))
   rfl
  ·have hup2:b.up = true:=by cases hb:b.up;exact absurd hb hup;rfl
   obtain⟨u1,u2,u3,u4,u5,u6,⟨u7,u8⟩,⟨u9,u10⟩,u11,u12,u13,u14⟩:=hv.up hup2
   have hck:=hv.plan
   have hpl:=(bT hck).1
   have hwk:=hv.workers
   obtain⟨he1,he2⟩:=fw hv.code
   change 0≤(cx b p).epoch at he1
   change (cx b p).epoch≤300 at he2
   have l1:=h.safe
   have l2:=h.loose
   refine gN ?_
   conv=>whnf
   refine g 0 0 []<|J Zdq<|W.sq<|g 12 16 []<|J UE<|W.cn<|J (noT dO) fun _=>W.skip<|g 20 24 [.i (b.now+1)]<|J ⟨I,I,I,I,wO,I,I,UA,I⟩<|W.sq<|g 24 28 []<|J UE<|W.cn<|J (noT (nbF AS)) fun _=>W.skip<|g 16 19 []<|J UA<|W.sq ?_
   refine g 30 33 []<|J UF<|W.blk<|W.lp (fun s (n:Nat)=>⟨[(0,s.s 0),(1,s.s 1),(3,s.s 3),(4,s.s 4),(5,s.s 5),(19,s.s 19),(29,s.s 29),(33,s.s 33),(34,.i n)],[(3,[s.c 3 0]),(246,[.t (.i b.workers),.t (.b b.up),.t (.i (b.now+1)),.t (.i b.since),.t (.i b.epoch),.t (.i b.given),.own [false] (b.log.safe.map ak),.own [false] (b.log.loose.map ak),.own [false] (b.results.map ak),.own eT ((fR (qz (b.now+1)) b.jobs n).map aV),.own cM (b.seats.map aF),.own cP (b.owed.map aR)])],[]⟩) (fun(n:Nat)=>n≤b.jobs.length) (fun(n:Nat)=>b.jobs.length - n) (0) [some 3,some 246] [] ⟨rfl,⟨rfl,Zag,rfl,rfl,rfl,rfl,rfl,rfl,rfl,I⟩,⟨Zac,⟨Zaa,I⟩⟩,I⟩ OM ?_
   intro n hn
   have hx:=iB (qz (b.now+1)) b.jobs n
   by_cases hj:n < b.jobs.length
   ·obtain⟨j,hj1⟩:=af hj
    by_cases hd:j.til≤b.now+1
    ·have e1:=Nq hj1 hd
     conv=>whnf
     refine g 0 0 []<|J UA<|W.sq<|W.cn<|J (fun _=>(W.skip (W.sq (W.blk (g 35 37 []<|J UB (gd 37 49 [[],[],[],[],[],[.n (n)],[],[.x (aV j)],[],[],[],[],[]] ?_)))))) (noF (by simp_all))
     conv=>whnf
     refine⟨⟨I,I,I,I,I,Zdf,I,bp AS,I,I,I,I,I,I⟩,by kernel_rfl,?_⟩
     refine W.cn<|J (fun _=>(rg [.n (n),.x (aV j)]<|J ⟨I,I,I,I,I,I,Zdf,⟨UC,bp AS⟩,I⟩ (rg [.i ((n:Int) +1)]<|J Zdm ?_))) (noF tO)
     refine⟨n+1,[some 3,some 246],[],⟨rfl,⟨rfl,Zag,rfl,rfl,rfl,rfl,rfl,rfl,rfl,I⟩,⟨Zac,⟨⟨rfl,⟨rfl,⟨rfl,⟨rfl,⟨rfl,⟨rfl,⟨rfl,⟨rfl,⟨rfl,⟨rfl,⟨(congrArg (V.own _) (e1)),Zac⟩⟩⟩⟩⟩⟩⟩⟩⟩⟩⟩,I⟩⟩,I⟩,?_,?_⟩
     rotate_left
     (dsimp only;omega)
     dsimp only
     omega
    ·have e1:=S0 hj1 hd
     conv=>whnf
     refine g 0 0 []<|J UA<|W.sq<|W.cn<|J (fun _=>(W.skip (W.sq (W.blk (g 35 37 []<|J UB (gd 37 49 [[],[],[],[],[],[.n (n)],[],[.x (aV j)],[],[],[],[],[]] ?_)))))) (noF (by simp_all))
     conv=>whnf
     refine⟨⟨I,I,I,I,I,Zdf,I,bp AS,I,I,I,I,I,I⟩,by kernel_rfl,?_⟩
     refine W.cn<|J (noT dO) fun _=>W.skip<|rg [.i ((n:Int) +1)]<|J Zdm ?_
     refine⟨n+1,[some 3,some 246],[],⟨rfl,⟨rfl,Zag,rfl,rfl,rfl,rfl,rfl,rfl,rfl,I⟩,⟨Zac,⟨⟨rfl,⟨rfl,⟨rfl,⟨rfl,⟨rfl,⟨rfl,⟨rfl,⟨rfl,⟨rfl,⟨rfl,⟨(congrArg (V.own _) (by rw[←e1])),Zac⟩⟩⟩⟩⟩⟩⟩⟩⟩⟩⟩,I⟩⟩,I⟩,?_,?_⟩
     rotate_left
     (dsimp only;omega)
     dsimp only
     omega
   have e0:=iC (qz (b.now+1)) b.jobs (n:=n) OM
   conv=>whnf
   refine g 0 0 []<|J UA<|W.sq<|W.cn<|J (noT (by simp_all)) fun _=>W.exit<|W.sq<|g 33 59 []<|J UD<|W.blk ?_
   have hdl:∀ t∈p.tasks,t.deps.length≤8:=fun t ht=>by
    obtain⟨k,hk⟩:=List.getElem?_of_mem ht
    exact(bZ hck hk).2.2.1
   refine W.lp (fun s (m:Nat)=>⟨[(0,s.s 0),(1,s.s 1),(3,s.s 3),(4,s.s 4),(5,.ref ⟨5,none,0⟩),(19,s.s 19),(29,s.s 29),(59,s.s 59),(60,s.s 60),(61,.i m)],[(3,[s.c 3 0]),(5,[.own cK ((aG (dw b) p.tasks m).out.map aH)]),(246,[.t (.i b.workers),.t (.b b.up),.t (.i (b.now+1)),.t (.i b.since),.t (.i b.epoch),.t (.i (aG (dw b) p.tasks m).given),.own [false] (b.log.safe.map ak),.own [false] (b.log.loose.map ak),.own [false] (b.results.map ak),.own eT ((aG (dw b) p.tasks m).jobs.map aV),.own cM ((aG (dw b) p.tasks m).seats.map aF),.own cP (b.owed.map aR)])],[]⟩) (fun(m:Nat)=>m≤p.tasks.length) (fun(m:Nat)=>p.tasks.length - m) (0) [some 3,none,some 246] [] ⟨rfl,⟨rfl,Zag,rfl,rfl,⟨rfl,rfl,rfl⟩,rfl,rfl,rfl,rfl,rfl,I⟩,⟨Zac,⟨I,⟨⟨rfl,⟨rfl,⟨rfl,⟨rfl,⟨rfl,⟨rfl,⟨rfl,⟨rfl,⟨rfl,⟨rfl,⟨(congrArg (V.own _) (by rw[e0];rfl)),Zac⟩⟩⟩⟩⟩⟩⟩⟩⟩⟩⟩,I⟩⟩⟩,I⟩ OM ?_
   intro m hm
   obtain⟨k1,k2,k3,k4,k5,k6⟩:=ld (b:=dw b) (ts:=p.tasks) hdl u9 u10 m
   have k7:(dw b).jobs.length = b.jobs.length:=by show(b.jobs.map _).length = _;rw[List.length_map]
   rw[k7]at k1
   change (aG (dw b) p.tasks m).seats.length = b.seats.length at k2
   by_cases hm2:m < p.tasks.length
   ·obtain⟨t,ht0⟩:=af hm2
    obtain⟨y,hy0⟩:=af (xs:=b.results) (n:=m) OM
    obtain⟨j,hj0⟩:=af (xs:=(aG (dw b) p.tasks m).jobs) (n:=m) OM
    obtain⟨_,_,a3,a4⟩:=bZ hck ht0
    have crd:=iU b.results t.deps (fun d hd=>by have:=a4 d hd;omega) OM
    have cpk:=vP b.results t.deps (fun d hd=>by have:=a4 d hd;omega) OM
    have q1:∀ q:CanHand (dw b) p.tasks (aG (dw b) p.tasks m) m,y = emp:=fun q=>by have:=q.res;rw[show(dw b).results = b.results from rfl,jA hy0]at this;exact this
    have q2:∀ q:CanHand (dw b) p.tasks (aG (dw b) p.tasks m) m,j.lease = 0:=fun q=>by have:=q.job;rw[KX,hj0]at this;exact this
    have q3:∀ q:CanHand (dw b) p.tasks (aG (dw b) p.tasks m) m,cU b.results t.deps:=fun q=>by have:=q.ready;rw[dP ht0]at this;exact this
    by_cases hA:y = emp
    ·by_cases hB:j.lease = 0
     ·by_cases hF:cU b.results t.deps
      ·rw[decide_eq_true hF]at crd
       by_cases hG:(aG (dw b) p.tasks m).given < 1000000
       ·have hc:CanHand (dw b) p.tasks (aG (dw b) p.tasks m) m:=⟨by rw[show(dw b).results = b.results from rfl,jA hy0];exact hA,by rw[KX,hj0];exact hB,by rw[dP ht0];exact hF,hG⟩
        conv=>whnf
        refine g 0 0 []<|J UA<|W.sq<|W.cn<|J (fun _=>(W.skip (W.sq (W.blk (g 62 66 [.x (ay t)]<|J Zbu (W.sq (gd 72 101 [[],[],[],[],[],[.n (m)],[.x (ak y)],[],[],[BF],[BF],[BF],[BF],[BF],[BF,.n (m)],[BF],[BF,.x (aV j)],[BF],[BF],[],[BF],[BF],[BF],[BF],[BF],[BF],[BF,.call VT [[],[]]],[BF],[BF],[],[BF],[BF],[BF],[BF],[BF],[BF]] ?_))))))) (noF SI)
        conv=>whnf
        refine⟨Za5,by kernel_rfl,?_⟩
        refine W.cn<|J (noT dO) fun _=>W.skip<|g 66 71 []<|J UF<|W.blk ?_
        cases hf:kC (aG (dw b) p.tasks m).seats with
        |none =>
         have e:=oq (b:=dw b) (ts:=p.tasks) hf
         refine W.lp (fun s (k:Nat)=>⟨[(0,s.s 0),(1,s.s 1),(3,s.s 3),(4,s.s 4),(5,.ref ⟨5,none,0⟩),(7,s.s 7),(8,s.s 8),(19,s.s 19),(29,s.s 29),(59,s.s 59),(60,s.s 60),(61,s.s 61),(71,s.s 71),(106,s.s 106),(107,.i k)],[(246,[s.c 246 0,s.c 246 1,s.c 246 2,s.c 246 3,s.c 246 4,s.c 246 5,s.c 246 6,s.c 246 7,s.c 246 8,s.c 246 9,s.c 246 10,s.c 246 11]),(3,[s.c 3 0]),(8,[s.c 8 0,s.c 8 1,s.c 8 2]),(5,[.own cK ((aG (dw b) p.tasks m).out.map aH)])],[]⟩) (fun(k:Nat)=>k≤(aG (dw b) p.tasks m).seats.length) (fun(k:Nat)=>(aG (dw b) p.tasks m).seats.length - k) (0) [some 246,some 3,some 8,some 5] [] Zer OM ?_
         intro s hs
         by_cases hs2:s < (aG (dw b) p.tasks m).seats.length
         ·obtain⟨x,hx0⟩:=af hs2
          have hx1:=Ew hf s x hx0
          conv=>whnf
          refine g 0 0 []<|J UA<|W.sq<|W.cn<|J (fun h1=>?_) fun h1=>?_
          replace h1:=dt h1
          simp only[LM]at h1
          refine W.skip<|W.sq<|W.blk<|g 108 110 []<|J UB<|W.sq<|g 110 118 [.n (s),.x (aF x)]<|J ⟨I,I,I,I,I,Zdf,I,xA,I,I⟩<|W.cn<|J (fun _=>(W.exit (rg [.i ((s:Int) +1)]<|J Zdm ?_))) (noF (nbT AS))
          rotate_left
          replace h1:=df h1
          simp only[LM]at h1
          omega
          refine⟨s+1,[some 246,some 3,some 8,some 5],[],Zer,?_,?_⟩
          rotate_left
          (dsimp only;omega)
          dsimp only
          omega
         ·conv=>whnf
          refine g 0 0 []<|J UA<|W.sq<|W.cn<|J (fun h1=>?_) fun h1=>?_
          replace h1:=dt h1
          simp only[LM]at h1
          omega
          replace h1:=df h1
          simp only[LM]at h1
          refine W.exit<|rg [.i ((m:Int) +1)]<|J Zdm ?_
          refine⟨m+1,[some 3,some 5,some 246],[],⟨rfl,Zdz,⟨Zac,⟨⟨rfl,⟨(congrArg (V.own _) (by rw[e])),I⟩⟩,⟨⟨rfl,⟨rfl,⟨rfl,⟨rfl,⟨rfl,⟨rfl,⟨(congrArg (fun z=>V.t (T.v (Value.int _ z))) (by rw[e])),⟨rfl,⟨rfl,⟨rfl,⟨(congrArg (V.own _) (by rw[e])),⟨(congrArg (V.own _) (by rw[e])),Zdc⟩⟩⟩⟩⟩⟩⟩⟩⟩⟩⟩⟩,I⟩⟩⟩,I⟩,?_,?_⟩
          rotate_left
          (dsimp only;omega)
          dsimp only
          omega
        |some s0 =>
         obtain⟨x,hx0,hx1,hx2,hx3⟩:=ot hf
         have e:=oo hc hf
         refine W.lp (fun s (k:Nat)=>⟨[(0,s.s 0),(1,s.s 1),(3,s.s 3),(4,s.s 4),(5,.ref ⟨5,none,0⟩),(7,s.s 7),(8,s.s 8),(19,s.s 19),(29,s.s 29),(59,s.s 59),(60,s.s 60),(61,s.s 61),(71,s.s 71),(106,s.s 106),(107,.i k)],[(246,[s.c 246 0,s.c 246 1,s.c 246 2,s.c 246 3,s.c 246 4,s.c 246 5,s.c 246 6,s.c 246 7,s.c 246 8,s.c 246 9,s.c 246 10,s.c 246 11]),(3,[s.c 3 0]),(8,[s.c 8 0,s.c 8 1,s.c 8 2]),(5,[.own cK ((aG (dw b) p.tasks m).out.map aH)])],[]⟩) (fun(k:Nat)=>k≤s0) (fun(k:Nat)=>(aG (dw b) p.tasks m).seats.length - k) (0) [some 246,some 3,some 8,some 5] [] Zer OM ?_
         intro s hs
         by_cases hs2:s < s0
         ·obtain⟨x',hx'⟩:=af (xs:=(aG (dw b) p.tasks m).seats) (n:=s) OM
          have hx4:=hx3 s x' hs2 hx'
          conv=>whnf
          refine g 0 0 []<|J UA<|W.sq<|W.cn<|J (fun h1=>?_) fun h1=>?_
          replace h1:=dt h1
          simp only[LM]at h1
          refine W.skip<|W.sq<|W.blk<|g 108 110 []<|J UB<|W.sq<|g 110 118 [.n (s),.x (aF x')]<|J ⟨I,I,I,I,I,Zdf,I,xA,I,I⟩<|W.cn<|J (fun _=>(W.exit (rg [.i ((s:Int) +1)]<|J Zdm ?_))) (noF (nbT AS))
          rotate_left
          replace h1:=df h1
          simp only[LM]at h1
          omega
          refine⟨s+1,[some 246,some 3,some 8,some 5],[],Zer,?_,?_⟩
          rotate_left
          (dsimp only;omega)
          dsimp only
          omega
         ·obtain rfl:s = s0:=by omega
          have ej:((aG (dw b) p.tasks m).jobs.map aV).set m (aV ⟨(b.epoch - 1) * 1000000+ ((aG (dw b) p.tasks m).given+1),(s:Int) +1,b.now+1+12⟩) = (aG (dw b) p.tasks (m+1)).jobs.map aV:=by rw[e,←List.map_set];rfl
          have es:((aG (dw b) p.tasks m).seats.map aF).set s (aF ⟨false,x.epoch⟩) = (aG (dw b) p.tasks (m+1)).seats.map aF:=by rw[e,←List.map_set,kB,lN,hx0];rfl
          have eo:(aG (dw b) p.tasks m).out.map aH++ [aH ⟨1,0,(s:Int) +1,b.epoch,(b.epoch - 1) * 1000000+ ((aG (dw b) p.tasks m).given+1),m,emp,dI b.results t.deps⟩] = (aG (dw b) p.tasks (m+1)).out.map aH:=by rw[e,kB,LF,dP ht0,List.map_append];rfl
          have eg:(aG (dw b) p.tasks m).given+1 = (aG (dw b) p.tasks (m+1)).given:=by rw[e];rfl
          conv=>whnf
          refine g 0 0 []<|J UA<|W.sq<|W.cn<|J (fun h1=>?_) fun h1=>?_
          replace h1:=dt h1
          simp only[LM]at h1
          refine W.skip<|W.sq<|W.blk<|g 108 110 []<|J UB<|W.sq<|g 110 118 [.n (s),.x (aF x)]<|J ⟨I,I,I,I,I,Zdf,I,xA,I,I⟩<|W.cn<|J (noT (nbF AS)) fun _=>W.skip<|g 118 126 [.n (s),.x (aF x)]<|J ⟨I,I,I,I,I,Zdf,I,Zeh,I⟩<|g 126 133 [.i (Hand.given (aG (dw b) p.tasks m) +1)]<|J ⟨I,I,I,I,wO,I,I,UA,I⟩<|gd 133 158 [[],[],[],[],[],[],[],[],[],[.i (b.epoch - 1)],[.i ((b.epoch - 1) * 1000000)],[],[],[],[],[.i ((b.epoch - 1) * 1000000+ (Hand.given (aG (dw b) p.tasks m) +1))],[],[.i ((s:Int) +1)],[],[],[],[],[.i (b.now+1+12)],[],[.n (m)],[.x (aV j)]] ?_
          conv=>whnf
          refine J ⟨I,I,I,I,I,I,I,I,I,wO,wO,I,I,I,I,wO,I,wO,I,I,I,I,wO,I,Zdf,⟨UC,xA⟩,I⟩<|J KR<|gd 158 184 [[],[],[.i ((s:Int) +1)],[],[],[],[],[],[],[],[],[],[.n (m)],[],[.x (aK (aV j) 0 [T.v (Value.int IntKind.i64 ((b.epoch - 1) * 1000000+ (Hand.given (aG (dw b) p.tasks m) +1))),T.v (Value.int IntKind.i64 ((s:Int) +1)),T.v (Value.int IntKind.i64 (b.now+1+12))])],[],[],[],[],[],[],[],[.call (V.own [false] (List.map ak (dI b.results t.deps))) [[],[]]],[],[],[],[]] ?_
          conv=>whnf
          refine J ⟨I,I,wO,I,I,I,I,I,I,I,I,I,Zdf,I,bR LN,I,I,I,I,I,I,I,Zam,I,⟨UH,I⟩,Zdi,I,I⟩<|J KR<|W.exit<|rg [.i ((m:Int) +1)]<|J Zdm ?_
          rotate_left
          replace h1:=df h1
          simp only[LM]at h1
          omega
          refine⟨m+1,[some 3,some 183,some 246],[],⟨rfl,Zdz,⟨Zac,⟨⟨rfl,⟨(congrArg (V.own _) (eo)),I⟩⟩,⟨⟨rfl,⟨rfl,⟨rfl,⟨rfl,⟨rfl,⟨rfl,⟨(congrArg (fun z=>V.t (T.v (Value.int _ z))) (eg)),⟨rfl,⟨rfl,⟨rfl,⟨(congrArg (V.own _) (ej)),⟨(congrArg (V.own _) (es)),Zdc⟩⟩⟩⟩⟩⟩⟩⟩⟩⟩⟩⟩,I⟩⟩⟩,I⟩,?_,?_⟩
          rotate_left
          (dsimp only;omega)
          dsimp only
          omega
       ·have e:=iE (b:=dw b) (ts:=p.tasks) (fun q=>hG q.given)
        conv=>whnf
        refine g 0 0 []<|J UA<|W.sq<|W.cn<|J (fun _=>(W.skip (W.sq (W.blk (g 62 66 [.x (ay t)]<|J Zbu (W.sq (gd 72 101 [[],[],[],[],[],[.n (m)],[.x (ak y)],[],[],[BF],[BF],[BF],[BF],[BF],[BF,.n (m)],[BF],[BF,.x (aV j)],[BF],[BF],[],[BF],[BF],[BF],[BF],[BF],[BF],[BF,.call VT [[],[]]],[BF],[BF],[],[BF],[BF],[BF],[BF],[BF],[BF]] ?_))))))) (noF SI)
        conv=>whnf
        refine⟨Za5,by kernel_rfl,?_⟩
        refine W.cn<|J (fun _=>(W.exit (rg [.i ((m:Int) +1)]<|J Zdm ?_))) (noF tO)
        refine⟨m+1,[some 3,some 5,some 246],[],⟨rfl,Zdz,⟨Zac,⟨⟨rfl,⟨(congrArg (V.own _) (by rw[e])),I⟩⟩,⟨⟨rfl,⟨rfl,⟨rfl,⟨rfl,⟨rfl,⟨rfl,⟨(congrArg (fun z=>V.t (T.v (Value.int _ z))) (by rw[e])),⟨rfl,⟨rfl,⟨rfl,⟨(congrArg (V.own _) (by rw[e])),⟨(congrArg (V.own _) (by rw[e])),Zdc⟩⟩⟩⟩⟩⟩⟩⟩⟩⟩⟩⟩,I⟩⟩⟩,I⟩,?_,?_⟩
        rotate_left
        (dsimp only;omega)
        dsimp only
        omega
      ·rw[decide_eq_false hF]at crd
       have e:=iE (b:=dw b) (ts:=p.tasks) (fun q=>hF (q3 q))
       conv=>whnf
       refine g 0 0 []<|J UA<|W.sq<|W.cn<|J (fun _=>(W.skip (W.sq (W.blk (g 62 66 [.x (ay t)]<|J Zbu (W.sq (gd 72 101 [[],[],[],[],[],[.n (m)],[.x (ak y)],[],[],[BF],[BF],[BF],[BF],[BF],[BF,.n (m)],[BF],[BF,.x (aV j)],[BF],[BF],[],[BF],[BF],[BF],[BF],[BF],[BF],[BF,.call VF [[],[]]],[BF],[BF],[],[BT],[BT],[BT],[BT],[BT],[BT]] ?_))))))) (noF SI)
       conv=>whnf
       refine⟨⟨I,I,I,I,I,Zdf,xA,I,I,⟨nO,I⟩,⟨nO,I⟩,⟨nO,I⟩,⟨nO,I⟩,⟨nO,I⟩,⟨nO,rfl,LN⟩,⟨nO,I⟩,⟨nO,xA⟩,⟨nO,I⟩,nO,I,⟨nO,I⟩,⟨nO,I⟩,⟨nO,I⟩,⟨nO,I⟩,⟨nO,I⟩,⟨nO,I⟩,⟨nO,UB,I,UT,UA,AS⟩,⟨nO,I⟩,nO,I,rfl,rfl,rfl,rfl,rfl,rfl,I⟩,by kernel_rfl,?_⟩
       refine W.cn<|J (fun _=>(W.exit (rg [.i ((m:Int) +1)]<|J Zdm ?_))) (noF rfl)
       refine⟨m+1,[some 3,some 5,some 246],[],⟨rfl,Zdz,⟨Zac,⟨⟨rfl,⟨(congrArg (V.own _) (by rw[e])),I⟩⟩,⟨⟨rfl,⟨rfl,⟨rfl,⟨rfl,⟨rfl,⟨rfl,⟨(congrArg (fun z=>V.t (T.v (Value.int _ z))) (by rw[e])),⟨rfl,⟨rfl,⟨rfl,⟨(congrArg (V.own _) (by rw[e])),⟨(congrArg (V.own _) (by rw[e])),Zdc⟩⟩⟩⟩⟩⟩⟩⟩⟩⟩⟩⟩,I⟩⟩⟩,I⟩,?_,?_⟩
       rotate_left
       (dsimp only;omega)
       dsimp only
       omega
     ·have e:=iE (b:=dw b) (ts:=p.tasks) (fun q=>hB (q2 q))
      conv=>whnf
      refine g 0 0 []<|J UA<|W.sq<|W.cn<|J (fun _=>(W.skip (W.sq (W.blk (g 62 66 [.x (ay t)]<|J Zbu (W.sq (gd 72 101 [[],[],[],[],[],[.n (m)],[.x (ak y)],[],[],[BF],[BF],[BF],[BF],[BF],[BF,.n (m)],[BF],[BF,.x (aV j)],[BF],[BF],[],[BT],[BT],[BT],[BT],[BT],[BT],[BT],[BT],[BT],[],[BT],[BT],[BT],[BT],[BT],[BT]] ?_))))))) (noF SI)
      conv=>whnf
      refine⟨⟨I,I,I,I,I,Zdf,xA,I,I,⟨nO,I⟩,⟨nO,I⟩,⟨nO,I⟩,⟨nO,I⟩,⟨nO,I⟩,⟨nO,rfl,LN⟩,⟨nO,I⟩,⟨nO,xA⟩,⟨nO,I⟩,nO,I,ag OM,ag OM,ag OM,ag OM,ag OM,ag OM,ag OM,ag OM,ag OM,I,rfl,rfl,rfl,rfl,rfl,rfl,I⟩,by kernel_rfl,?_⟩
      refine W.cn<|J (fun _=>(W.exit (rg [.i ((m:Int) +1)]<|J Zdm ?_))) (noF rfl)
      refine⟨m+1,[some 3,some 5,some 246],[],⟨rfl,Zdz,⟨Zac,⟨⟨rfl,⟨(congrArg (V.own _) (by rw[e])),I⟩⟩,⟨⟨rfl,⟨rfl,⟨rfl,⟨rfl,⟨rfl,⟨rfl,⟨(congrArg (fun z=>V.t (T.v (Value.int _ z))) (by rw[e])),⟨rfl,⟨rfl,⟨rfl,⟨(congrArg (V.own _) (by rw[e])),⟨(congrArg (V.own _) (by rw[e])),Zdc⟩⟩⟩⟩⟩⟩⟩⟩⟩⟩⟩⟩,I⟩⟩⟩,I⟩,?_,?_⟩
      rotate_left
      (dsimp only;omega)
      dsimp only
      omega
    ·have e:=iE (b:=dw b) (ts:=p.tasks) (fun q=>hA (q1 q))
     conv=>whnf
     refine g 0 0 []<|J UA<|W.sq<|W.cn<|J (fun _=>(W.skip (W.sq (W.blk (g 62 66 [.x (ay t)]<|J Zbu (W.sq (gd 72 101 [[],[],[],[],[],[.n (m)],[.x (ak y)],[],[],[BT],[BT],[BT],[BT],[BT],[BT],[BT],[BT],[BT],[BT],[],[BT],[BT],[BT],[BT],[BT],[BT],[BT],[BT],[BT],[],[BT],[BT],[BT],[BT],[BT],[BT]] ?_))))))) (noF SI)
     conv=>whnf
     refine⟨⟨I,I,I,I,I,Zdf,xA,I,I,ag OM,ag OM,ag OM,ag OM,ag OM,ag OM,ag OM,ag OM,ag OM,ag OM,I,rfl,rfl,rfl,rfl,rfl,rfl,rfl,rfl,rfl,I,rfl,rfl,rfl,rfl,rfl,rfl,I⟩,by kernel_rfl,?_⟩
     refine W.cn<|J (fun _=>(W.exit (rg [.i ((m:Int) +1)]<|J Zdm ?_))) (noF rfl)
     refine⟨m+1,[some 3,some 5,some 246],[],⟨rfl,Zdz,⟨Zac,⟨⟨rfl,⟨(congrArg (V.own _) (by rw[e])),I⟩⟩,⟨⟨rfl,⟨rfl,⟨rfl,⟨rfl,⟨rfl,⟨rfl,⟨(congrArg (fun z=>V.t (T.v (Value.int _ z))) (by rw[e])),⟨rfl,⟨rfl,⟨rfl,⟨(congrArg (V.own _) (by rw[e])),⟨(congrArg (V.own _) (by rw[e])),Zdc⟩⟩⟩⟩⟩⟩⟩⟩⟩⟩⟩⟩,I⟩⟩⟩,I⟩,?_,?_⟩
     rotate_left
     (dsimp only;omega)
     dsimp only
     omega
   obtain rfl:m = p.tasks.length:=by omega
   by_cases hs:b.since+1 = 2
   ·rw[mh h0 hup hs]
    conv=>whnf
    refine g 0 0 []<|J UA<|W.sq<|W.cn<|J (noT SI) fun _=>W.exit<|g 19 193 [.i (b.since+1)]<|J ⟨I,I,I,I,wO,I,I,UA,I⟩<|W.sq<|g 193 197 []<|J UE<|W.cn<|J (fun _=>(g 197 201 []<|J UW (gd 201 216 [[],[],[],[],[],[],[],[],[],[],[],[],[],[],[],[]] ?_))) (noF tO)
    conv=>whnf
    refine⟨⟨I,I,I,I,I,I,I,I,I,I,I,Zdi,I,I,I,UA,I⟩,by kernel_rfl,?_⟩
    refine g 216 220 []<|J ⟨I,I,I,I,UA,I⟩<|W.sq<|g 220 223 []<|J UF<|W.blk<|W.lp (fun s (n:Nat)=>⟨[(0,s.s 0),(3,s.s 3),(4,s.s 4),(5,.ref ⟨5,none,0⟩),(223,s.s 223),(224,s.s 224),(225,.i n)],[(3,[s.c 3 0]),(5,[.own cK (((endH b p.tasks).out++ (b.owed.take n).map (mL b.epoch)).map aH)]),(246,[.t (.i b.workers),.t (.b b.up),.t (.i (b.now+1)),.t (.i 0),.t (.i b.epoch),.t (.i (endH b p.tasks).given),.own [false] ((b.log.safe++b.log.loose).map ak),.own [false] [],.own [false] (b.results.map ak),.own eT ((endH b p.tasks).jobs.map aV),.own cM ((endH b p.tasks).seats.map aF),.own cP (b.owed.map aR)])],[]⟩) (fun(n:Nat)=>n≤b.owed.length) (fun(n:Nat)=>b.owed.length - n) (0) [some 3,some 5,some 246] [] ⟨rfl,Zbi,⟨Zac,⟨⟨rfl,⟨(congrArg (V.own _) (by rw[List.take_zero,List.map_nil,List.append_nil];rfl)),I⟩⟩,⟨⟨rfl,⟨rfl,⟨rfl,⟨rfl,⟨rfl,⟨rfl,⟨rfl,⟨(congrArg (V.own _) SI),⟨rfl,Zdh⟩⟩⟩⟩⟩⟩⟩⟩⟩,I⟩⟩⟩,I⟩ OM ?_
    intro n hn
    by_cases hn2:n < b.owed.length
    ·obtain⟨o,ho⟩:=af hn2
     have k9:(endH b p.tasks).out.length≤40:=by show(aG _ _ _).out.length≤40;omega
     have eo:=vn (out:=(endH b p.tasks).out) (ep:=b.epoch) ho
     conv=>whnf
     refine g 0 0 []<|J UA<|W.sq<|W.cn<|J (fun _=>(W.skip (W.sq (W.blk (g 226 229 [.n (n),.x (aR o)]<|J Zc0 (rgd [[],[],[],[],[],[],[],[],[],[],[],[],[]] ?_)))))) (noF SI)
     conv=>whnf
     refine⟨⟨I,I,I,I,I,I,I,I,I,I,⟨UH,I⟩,Zdi,I,I⟩,by kernel_rfl,?_⟩
     refine rg [.i ((n:Int) +1)]<|J Zdm ?_
     refine⟨n+1,[some 3,some 240,some 246],[],⟨rfl,Zbi,⟨Zac,⟨⟨rfl,⟨(congrArg (V.own _) (eo)),I⟩⟩,⟨Zaa,I⟩⟩⟩,I⟩,?_,?_⟩
     rotate_left
     (dsimp only;omega)
     dsimp only
     omega
    ·conv=>whnf
     refine g 0 0 []<|J UA<|W.sq<|W.cn<|J (noT SI) fun _=>W.exit<|rg []<|J UW<|g 5 246 []<|J UB<|RT ?_
     all_goals (rw[aE OM])
   ·rw[n5 h0 hup hs]
    conv=>whnf
    refine g 0 0 []<|J UA<|W.sq<|W.cn<|J (noT SI) fun _=>W.exit<|g 19 193 [.i (b.since+1)]<|J ⟨I,I,I,I,wO,I,I,UA,I⟩<|W.sq<|g 193 197 []<|J UE<|W.cn<|J (noT dO) fun _=>W.skip<|g 0 4 []<|J UB<|RT ?_
    rfl
end Go.K
end
section
open Go Go.Tm Go.Proofs
namespace Go.K
def atB(d:Boss)(h:Hand):Boss:=⟨d.workers,d.up,d.now,d.since,d.epoch,h.given,d.log,d.results,h.jobs,h.seats,d.owed⟩
theorem DF(b:Boss)(hl:b.seats.length≤1048576)(hf:kC b.seats = none):F oJ [.val (fJ b)] (.i (-1)) [[]]:=by
 refine oV ?_
 conv=>whnf
 refine g 0 1 []<|J Zej<|W.sq<|g 0 0 []<|J UA<|W.blk<|W.lp (fun s (n:Nat)=>⟨[(1,s.s 1),(3,.i n)],[(1,[s.c 1 0,s.c 1 1,s.c 1 2,s.c 1 3,s.c 1 4,s.c 1 5,s.c 1 6,s.c 1 7,s.c 1 8,s.c 1 9,s.c 1 10,s.c 1 11])],[]⟩) (fun(n:Nat)=>n≤b.seats.length) (fun(n:Nat)=>b.seats.length - n) (0) [some 1] [] ⟨rfl,⟨rfl,rfl,I⟩,⟨Zaa,I⟩,I⟩ OM ?_
 intro n hn
 by_cases hn2:n < b.seats.length
 ·obtain⟨x,hx⟩:=af hn2
  have hx1:=Ew hf n x hx
  conv=>whnf
  refine W.sq<|g 4 8 []<|J UE<|W.cn<|J (fun _=>(W.skip (W.sq (W.blk (g 8 16 [.x (aF x)]<|J ⟨I,I,I,Zdg,I,I,I⟩ (W.cn<|J (noT AS) fun _=>(W.skip (rg [.i ((n:Int) +1)]<|J Zdd ?_)))))))) (noF SI)
  refine⟨n+1,[some 1],[],⟨rfl,⟨rfl,rfl,I⟩,⟨Zaa,I⟩,I⟩,?_,?_⟩
  rotate_left
  (dsimp only;omega)
  dsimp only
  omega
 ·conv=>whnf
  refine W.sq<|g 4 8 []<|J UE<|W.cn<|J (noT SI) fun _=>W.exit<|g 1 2 []<|J UA<|RT ?_
  rfl
theorem DE(b:Boss){k:Nat}(hl:b.seats.length≤1048576)(hf:kC b.seats = some k):F oJ [.val (fJ b)] (.i k) [[]]:=by
 obtain⟨x,hx0,hx1,hx2,hx3⟩:=ot hf
 refine oV ?_
 conv=>whnf
 refine g 0 1 []<|J Zej<|W.sq<|g 0 0 []<|J UA<|W.blk<|W.lp (fun s (n:Nat)=>⟨[(1,s.s 1),(3,.i n)],[(1,[s.c 1 0,s.c 1 1,s.c 1 2,s.c 1 3,s.c 1 4,s.c 1 5,s.c 1 6,s.c 1 7,s.c 1 8,s.c 1 9,s.c 1 10,s.c 1 11])],[]⟩) (fun(n:Nat)=>n≤k) (fun(n:Nat)=>b.seats.length - n) (0) [some 1] [] ⟨rfl,⟨rfl,rfl,I⟩,⟨Zaa,I⟩,I⟩ OM ?_
 intro n hn
 by_cases hn2:n < k
 ·obtain⟨y,hy⟩:=af (xs:=b.seats) (n:=n) OM
  have hy1:=hx3 n y hn2 hy
  conv=>whnf
  refine W.sq<|g 4 8 []<|J UE<|W.cn<|J (fun h1=>?_) fun h1=>?_
  replace h1:=dt h1
  simp only[LM]at h1
  refine W.skip<|W.sq<|W.blk<|g 8 16 [.x (aF y)]<|J ⟨I,I,I,Zdg,I,I,I⟩<|W.cn<|J (noT AS) fun _=>W.skip<|rg [.i ((n:Int) +1)]<|J Zdd ?_
  rotate_left
  replace h1:=df h1
  simp only[LM]at h1
  omega
  refine⟨n+1,[some 1],[],⟨rfl,⟨rfl,rfl,I⟩,⟨Zaa,I⟩,I⟩,?_,?_⟩
  rotate_left
  (dsimp only;omega)
  dsimp only
  omega
 ·obtain rfl:n = k:=by omega
  conv=>whnf
  refine W.sq<|g 4 8 []<|J UE<|W.cn<|J (fun _=>(W.skip (W.sq (W.blk (g 8 16 [.x (aF x)]<|J ⟨I,I,I,Zdg,I,I,I⟩ (W.cn<|J (fun _=>(g 16 18 []<|J UB (RT ?_))) (noF AS))))))) (noF SI)
  rfl
structure HandIn (d:Boss) (ts:List Task):Prop where
 chk:aq ts = 0
 res:d.results.length = ts.length
 jobs:d.jobs.length = ts.length
 seats:d.seats.length≤8
 ep:1≤d.epoch∧d.epoch≤300
 given:0≤d.given∧d.given≤1000000
 now:0≤d.now∧d.now≤1000000
theorem Dg(d:Boss)(p:Plan)(h:HandIn d p.tasks):F ko [.val (aL d),.val (cO p)] (Mp ⟨atB d (aG d p.tasks p.tasks.length),(aG d p.tasks p.tasks.length).out⟩) [[],[]]:=by
 obtain⟨hck,u3,u4,u5,⟨ue1,ue2⟩,⟨u9,u10⟩,⟨hn1,hn2⟩⟩:=h
 have hpl:=(bT hck).1
 have hdl:∀ t∈p.tasks,t.deps.length≤8:=fun t ht=>by
  obtain⟨k,hk⟩:=List.getElem?_of_mem ht
  exact(bZ hck hk).2.2.1
 refine Cf ?_
 conv=>whnf
 refine g 0 0 []<|J Zcp<|g 11 13 []<|J ⟨I,I,I,UM,I⟩<|W.sq<|g 0 0 []<|J UA<|W.blk<|W.lp (fun s (m:Nat)=>⟨[(0,s.s 0),(1,s.s 1),(2,s.s 2),(3,s.s 3),(4,s.s 4),(5,s.s 5),(6,.i m)],[(138,[s.c 138 0,s.c 138 1,s.c 138 2,s.c 138 3,s.c 138 4,s.c 138 5,s.c 138 6,s.c 138 7,s.c 138 8,s.c 138 9,s.c 138 10,s.c 138 11]),(2,[s.c 2 0,s.c 2 1,s.c 2 2,s.c 2 3,s.c 2 4,s.c 2 5,s.c 2 6,s.c 2 7,s.c 2 8,s.c 2 9,s.c 2 10,s.c 2 11]),(3,[s.c 3 0]),(4,[s.c 4 0,s.c 4 1,s.c 4 2,s.c 4 3,s.c 4 4,s.c 4 5,s.c 4 6,s.c 4 7,s.c 4 8,s.c 4 9,s.c 4 10,s.c 4 11,s.c 4 12]),(5,[.t (.i (atB d (aG d p.tasks m)).workers),.t (.b (atB d (aG d p.tasks m)).up),.t (.i (atB d (aG d p.tasks m)).now),.t (.i (atB d (aG d p.tasks m)).since),.t (.i (atB d (aG d p.tasks m)).epoch),.t (.i (atB d (aG d p.tasks m)).given),.own [false] ((atB d (aG d p.tasks m)).log.safe.map ak),.own [false] ((atB d (aG d p.tasks m)).log.loose.map ak),.own [false] ((atB d (aG d p.tasks m)).results.map ak),.own eT ((atB d (aG d p.tasks m)).jobs.map aV),.own cM ((atB d (aG d p.tasks m)).seats.map aF),.own cP ((atB d (aG d p.tasks m)).owed.map aR),.own cK ((aG d p.tasks m).out.map aH)])],[]⟩) (fun(m:Nat)=>m≤p.tasks.length) (fun(m:Nat)=>p.tasks.length - m) (0) [some 138,some 2,some 3,some 4,some 5] [] ⟨rfl,⟨Zad,Zag,rfl,rfl,rfl,rfl,rfl,I⟩,⟨Zaj,⟨Zaa,⟨Zac,⟨Zdj,⟨Zdj,I⟩⟩⟩⟩⟩,I⟩ OM ?_
 intro m hm
 obtain⟨k1,k2,k3,k4,k5,k6⟩:=ld (b:=d) (ts:=p.tasks) hdl u9 u10 m
 generalize hX:atB d (aG d p.tasks m) = X
 have x1:X.results = d.results:=by rw[←hX];rfl
 have x2:X.jobs = (aG d p.tasks m).jobs:=by rw[←hX];rfl
 have x3:X.seats = (aG d p.tasks m).seats:=by rw[←hX];rfl
 have x4:X.given = (aG d p.tasks m).given:=by rw[←hX];rfl
 have x5:X.epoch = d.epoch:=by rw[←hX];rfl
 have x6:X.now = d.now:=by rw[←hX];rfl
 have y1:X.results.length = p.tasks.length:=by rw[x1];exact u3
 have y2:X.jobs.length = p.tasks.length:=by rw[x2,k1];exact u4
 have y3:X.seats.length≤8:=by rw[x3,k2];exact u5
 by_cases hm2:m < p.tasks.length
 ·obtain⟨t,ht0⟩:=af hm2
  obtain⟨y,hy0⟩:=af (xs:=X.results) (n:=m) OM
  obtain⟨j,hj0⟩:=af (xs:=X.jobs) (n:=m) OM
  obtain⟨_,_,a3,a4⟩:=bZ hck ht0
  have crd:=g9 p X.results (m:Int) OM (t:=t) (by rw[Int.toNat_natCast];exact ht0) (fun e he=>by have:=a4 e he;omega) OM
  have q1:∀ q:CanHand d p.tasks (aG d p.tasks m) m,y = emp:=fun q=>by have:=q.res;rw[←x1,jA hy0]at this;exact this
  have q2:∀ q:CanHand d p.tasks (aG d p.tasks m) m,j.lease = 0:=fun q=>by have:=q.job;rw[←x2,KX,hj0]at this;exact this
  have q3:∀ q:CanHand d p.tasks (aG d p.tasks m) m,cU X.results t.deps:=fun q=>by have:=q.ready;rw[←x1,dP ht0]at this;exact this
  cases hf:kC X.seats with
  |none =>
   have e:=oq (b:=d) (ts:=p.tasks) (n:=m) (by rw[←x3];exact hf)
   have cs:=DF X OM hf
   conv=>whnf
   refine W.sq<|g 13 17 []<|J UE<|W.cn<|J (fun _=>(W.skip (W.sq (W.blk (g 20 23 [.call (V.i (-1)) [[]]]<|J ⟨I,I,Za0,I,I⟩ (W.sq (g 17 58 [BT,BT,BT,BT,BT,BT,BT,BT,BT,BT,BT,BT,BT,BT,BT,BT,BT,BT,BT,BT,BT,BT,BT,BT,BT,BT,BT,BT,BT,BT] ?_))))))) (noF SI)
   conv=>whnf
   refine⟨⟨I,I,I,rfl,rfl,rfl,rfl,rfl,I,rfl,rfl,rfl,rfl,rfl,rfl,rfl,rfl,I,rfl,rfl,rfl,rfl,rfl,rfl,rfl,rfl,rfl,I,rfl,rfl,rfl,rfl,rfl,rfl,rfl,rfl,I⟩,?_⟩
   refine W.cn<|J (fun _=>(W.exit (rg [.i ((m:Int) +1)]<|J Zdd ?_))) (noF rfl)
   refine⟨m+1,[some 138,some 2,some 3,some 4,some 5],[],⟨rfl,⟨Zad,Zag,rfl,rfl,rfl,rfl,rfl,I⟩,⟨Zaj,⟨Zaa,⟨Zac,⟨Zdj,⟨⟨rfl,⟨(congrArg (fun z=>V.t (T.v (Value.int _ z))) (by rw[e,←hX])),⟨(congrArg (fun z=>V.t (T.v (Value.bool z))) (by rw[e,←hX])),⟨(congrArg (fun z=>V.t (T.v (Value.int _ z))) (by rw[e,←hX])),⟨(congrArg (fun z=>V.t (T.v (Value.int _ z))) (by rw[e,←hX])),⟨(congrArg (fun z=>V.t (T.v (Value.int _ z))) (by rw[e,←hX])),⟨(congrArg (fun z=>V.t (T.v (Value.int _ z))) (by rw[e,←hX])),⟨(congrArg (V.own _) (by rw[e,←hX])),⟨(congrArg (V.own _) (by rw[e,←hX])),⟨(congrArg (V.own _) (by rw[e,←hX])),⟨(congrArg (V.own _) (by rw[e,←hX])),⟨(congrArg (V.own _) (by rw[e,←hX])),⟨(congrArg (V.own _) (by rw[e,←hX])),⟨(congrArg (V.own _) SI),I⟩⟩⟩⟩⟩⟩⟩⟩⟩⟩⟩⟩⟩⟩,I⟩⟩⟩⟩⟩,I⟩,?_,?_⟩
   rotate_left
   (dsimp only;omega)
   dsimp only
   omega
  |some sx =>
   have cs:=DE X OM hf
   obtain⟨x,hx0,hx1,hx2,hx3⟩:=ot hf
   by_cases hA:y = emp
   ·by_cases hB:j.lease = 0
    ·by_cases hF:cU X.results t.deps
     ·rw[decide_eq_true hF]at crd
      by_cases hG:X.given < 1000000
      ·have hc:CanHand d p.tasks (aG d p.tasks m) m:=⟨by rw[←x1,jA hy0];exact hA,by rw[←x2,KX,hj0];exact hB,by rw[←x1,dP ht0];exact hF,by rw[←x4];exact hG⟩
       have e:=oo hc (by rw[←x3];exact hf)
       have ej:(X.jobs.map aV).set m (aV ⟨(X.epoch - 1) * 1000000+ (X.given+1),(sx:Int) +1,X.now+12⟩) = (atB d (aG d p.tasks (m+1))).jobs.map aV:=by rw[e,←List.map_set,x2,x4,x5,x6];rfl
       have es:(X.seats.map aF).set sx (aF ⟨false,x.epoch⟩) = (atB d (aG d p.tasks (m+1))).seats.map aF:=by
        have e9:lN (aG d p.tasks m).seats sx = x:=by rw[lN,←x3,hx0];rfl
        rw[e,←List.map_set,x3,atB,kB,e9]
       have eo:(aG d p.tasks m).out.map aH++ [aH ⟨1,0,(sx:Int) +1,X.epoch,(X.epoch - 1) * 1000000+ (X.given+1),m,emp,dI X.results t.deps⟩] = (aG d p.tasks (m+1)).out.map aH:=by rw[e,kB,LF,dP ht0,List.map_append,x1,x4,x5];rfl
       have eg:X.given+1 = (atB d (aG d p.tasks (m+1))).given:=by rw[e,x4];rfl
       have e1:X.workers = (atB d (aG d p.tasks (m+1))).workers:=by rw[←hX];rfl
       have e2:X.up = (atB d (aG d p.tasks (m+1))).up:=by rw[←hX];rfl
       have e3:X.now = (atB d (aG d p.tasks (m+1))).now:=by rw[←hX];rfl
       have e4:X.since = (atB d (aG d p.tasks (m+1))).since:=by rw[←hX];rfl
       have e5:X.epoch = (atB d (aG d p.tasks (m+1))).epoch:=by rw[←hX];rfl
       have e6:X.log = (atB d (aG d p.tasks (m+1))).log:=by rw[←hX];rfl
       have e7:X.results = (atB d (aG d p.tasks (m+1))).results:=by rw[←hX];rfl
       have e8:X.owed = (atB d (aG d p.tasks (m+1))).owed:=by rw[←hX];rfl
       conv=>whnf
       refine W.sq<|g 13 17 []<|J UE<|W.cn<|J (fun _=>(W.skip (W.sq (W.blk (g 20 23 [.call (V.i (sx:Int)) [[]]]<|J ⟨I,I,Za0,I,I⟩ (W.sq (g 17 58 [BF,BF,BF,BF,BF,BF,BF,BF,BF,BF,.n (m),BF,.x (ak y),BF,BF,BF,BF,BF,BF,BF,.n (m),BF,BF,.x (aV j),BF,BF,BF,BF,BF,BF,BF,BF,.call VT [[],[],[]],BF,BF] ?_))))))) (noF SI)
       conv=>whnf
       refine⟨Zax,?_⟩
       refine W.cn<|J (noT rfl) fun _=>W.skip<|g 58 65 [.i (Boss.given X+1)]<|J ⟨I,I,I,wO,I,I,UA,I⟩<|g 65 73 [.i (Boss.epoch X - 1),.i ((Boss.epoch X - 1) * 1000000),.i ((Boss.epoch X - 1) * 1000000+ (Boss.given X+1))]<|J ⟨I,I,I,wO,wO,I,I,I,wO,I,I⟩<|g 74 87 [.i ((sx:Int) +1),.i (Boss.now X+12),.n (m),.x (aV j)]<|J ⟨I,I,I,I,I,I,wO,I,I,I,wO,I,Zdf,⟨UC,xA⟩,I⟩<|g 87 93 [.n (sx),.x (aF x)]<|J ⟨I,I,I,I,Zdf,I,Zeh,I⟩<|g 93 101 [.i ((sx:Int) +1)]<|J ⟨I,wO,I,I,I,I,I,I,I,UH,I⟩<|W.sq<|g 7 9 []<|J UA<|W.blk<|W.lp (fun s (k:Nat)=>⟨[(0,s.s 0),(1,s.s 1),(2,s.s 2),(3,s.s 3),(4,s.s 4),(5,s.s 5),(6,s.s 6),(9,s.s 9),(10,.i k),(73,s.s 73)],[(138,[s.c 138 0,s.c 138 1,s.c 138 2,s.c 138 3,s.c 138 4,s.c 138 5,s.c 138 6,s.c 138 7,s.c 138 8,s.c 138 9,s.c 138 10,s.c 138 11]),(2,[s.c 2 0,s.c 2 1,s.c 2 2,s.c 2 3,s.c 2 4,s.c 2 5,s.c 2 6,s.c 2 7,s.c 2 8,s.c 2 9,s.c 2 10,s.c 2 11]),(3,[s.c 3 0]),(4,[s.c 4 0,s.c 4 1,s.c 4 2,s.c 4 3,s.c 4 4,s.c 4 5,s.c 4 6,s.c 4 7,s.c 4 8,s.c 4 9,s.c 4 10,s.c 4 11,s.c 4 12]),(5,[s.c 5 0,s.c 5 1,s.c 5 2,s.c 5 3,s.c 5 4,s.c 5 5,s.c 5 6,s.c 5 7,s.c 5 8,s.c 5 9,s.c 5 10,s.c 5 11,s.c 5 12]),(9,[.t (.i 1),.t (.i 0),.t (.i ((sx:Int) +1)),.t (.i X.epoch),.t (.i ((X.epoch - 1) * 1000000+ (X.given+1))),.t (.i m),.t (.s emp),.own [false] ((dI X.results (t.deps.take k)).map ak)])],[]⟩) (fun(k:Nat)=>k≤t.deps.length) (fun(k:Nat)=>t.deps.length - k) (0) [some 138,some 2,some 3,some 4,some 5,some 9] [] ⟨rfl,⟨Zad,Zag,rfl,rfl,rfl,rfl,rfl,rfl,rfl,rfl,I⟩,⟨Zaj,⟨Zaa,⟨Zac,⟨Zdj,⟨Zdj,⟨Zab,I⟩⟩⟩⟩⟩⟩,I⟩ OM ?_
       intro k hk
       by_cases hk2:k < t.deps.length
       ·obtain⟨d0,hd0⟩:=af hk2
        have hdr:=a4 d0 (List.mem_of_getElem? hd0)
        obtain⟨z,hz⟩:=af (xs:=X.results) (n:=d0.toNat) OM
        have ez:(dI X.results (t.deps.take k)).map ak++ [ak z] = (dI X.results (t.deps.take (k+1))).map ak:=by rw[zN hd0 hz,List.map_append];rfl
        have hpk:=lA X.results (t.deps.take k)
        have htk:(t.deps.take k).length≤k:=by rw[List.length_take];omega
        conv=>whnf
        refine W.sq<|g 101 109 [.x (ay t)]<|J ⟨I,I,I,I,Zdg,I,I,I,I,I⟩<|W.cn<|J (fun _=>(W.skip (W.sq (W.blk (rgd [[],[],[],[],[],[],[],[],[.x (ay t)],[],[],[],[.x (dK d0)],[],[.n (Int.toNat d0)],[.x (ak z)],[],[],[],[]] ?_))))) (noF SI)
        conv=>whnf
        refine⟨⟨I,I,I,I,I,I,I,I,Zdg,I,I,I,Zdg,I,Zdo,xA,US,Zdi,I,UA,I⟩,by kernel_rfl,?_⟩
        refine rg [.i ((k:Int) +1)]<|J Zdd ?_
        refine⟨k+1,[some 138,some 2,some 3,some 4,some 5,some 9],[],⟨rfl,⟨Zad,Zag,rfl,rfl,rfl,rfl,rfl,rfl,rfl,rfl,I⟩,⟨Zaj,⟨Zaa,⟨Zac,⟨Zdj,⟨Zdj,⟨⟨rfl,⟨rfl,⟨rfl,⟨rfl,⟨rfl,⟨rfl,⟨rfl,⟨rfl,⟨(congrArg (V.own _) (ez)),I⟩⟩⟩⟩⟩⟩⟩⟩⟩,I⟩⟩⟩⟩⟩⟩,I⟩,?_,?_⟩
        rotate_left
        (dsimp only;omega)
        dsimp only
        omega
       ·have ek:t.deps.take k = t.deps:=aE OM
        rw[←ek]at eo
        conv=>whnf
        refine W.sq<|g 101 109 [.x (ay t)]<|J ⟨I,I,I,I,Zdg,I,I,I,I,I⟩<|W.cn<|J (noT SI) fun _=>W.exit<|rg []<|J ⟨I,I,I,⟨UH,I⟩,Zdi,I,UA,I⟩<|rg [.i ((m:Int) +1)]<|J Zdd ?_
        refine⟨m+1,[some 138,some 2,some 3,some 4,some 5],[],⟨rfl,⟨Zad,Zag,rfl,rfl,rfl,rfl,rfl,I⟩,⟨Zaj,⟨Zaa,⟨Zac,⟨Zdj,⟨⟨rfl,⟨(congrArg (fun z=>V.t (T.v (Value.int _ z))) (e1)),⟨(congrArg (fun z=>V.t (T.v (Value.bool z))) (e2)),⟨(congrArg (fun z=>V.t (T.v (Value.int _ z))) (e3)),⟨(congrArg (fun z=>V.t (T.v (Value.int _ z))) (e4)),⟨(congrArg (fun z=>V.t (T.v (Value.int _ z))) (e5)),⟨(congrArg (fun z=>V.t (T.v (Value.int _ z))) (eg)),⟨(congrArg (V.own _) (by rw[e6])),⟨(congrArg (V.own _) (by rw[e6])),⟨(congrArg (V.own _) (by rw[e7])),⟨(congrArg (V.own _) (ej)),⟨(congrArg (V.own _) (es)),⟨(congrArg (V.own _) (by rw[e8])),⟨(congrArg (V.own _) (eo)),I⟩⟩⟩⟩⟩⟩⟩⟩⟩⟩⟩⟩⟩⟩,I⟩⟩⟩⟩⟩,I⟩,?_,?_⟩
        rotate_left
        (dsimp only;omega)
        dsimp only
        omega
      ·have e:=iE (b:=d) (ts:=p.tasks) (fun q=>hG (by rw[x4];exact q.given))
       conv=>whnf
       refine W.sq<|g 13 17 []<|J UE<|W.cn<|J (fun _=>(W.skip (W.sq (W.blk (g 20 23 [.call (V.i (sx:Int)) [[]]]<|J ⟨I,I,Za0,I,I⟩ (W.sq (g 17 58 [BF,BF,BF,BF,BF,BT,BT,BT,BT,BT,BT,BT,BT,BT,BT,BT,BT,BT,BT,BT,BT,BT,BT,BT,BT,BT,BT,BT,BT,BT] ?_))))))) (noF SI)
       conv=>whnf
       refine⟨Za2,?_⟩
       refine W.cn<|J (fun _=>(W.exit (rg [.i ((m:Int) +1)]<|J Zdd ?_))) (noF rfl)
       refine⟨m+1,[some 138,some 2,some 3,some 4,some 5],[],⟨rfl,⟨Zad,Zag,rfl,rfl,rfl,rfl,rfl,I⟩,⟨Zaj,⟨Zaa,⟨Zac,⟨Zdj,⟨⟨rfl,⟨(congrArg (fun z=>V.t (T.v (Value.int _ z))) (by rw[e,←hX])),⟨(congrArg (fun z=>V.t (T.v (Value.bool z))) (by rw[e,←hX])),⟨(congrArg (fun z=>V.t (T.v (Value.int _ z))) (by rw[e,←hX])),⟨(congrArg (fun z=>V.t (T.v (Value.int _ z))) (by rw[e,←hX])),⟨(congrArg (fun z=>V.t (T.v (Value.int _ z))) (by rw[e,←hX])),⟨(congrArg (fun z=>V.t (T.v (Value.int _ z))) (by rw[e,←hX])),⟨(congrArg (V.own _) (by rw[e,←hX])),⟨(congrArg (V.own _) (by rw[e,←hX])),⟨(congrArg (V.own _) (by rw[e,←hX])),⟨(congrArg (V.own _) (by rw[e,←hX])),⟨(congrArg (V.own _) (by rw[e,←hX])),⟨(congrArg (V.own _) (by rw[e,←hX])),⟨(congrArg (V.own _) SI),I⟩⟩⟩⟩⟩⟩⟩⟩⟩⟩⟩⟩⟩⟩,I⟩⟩⟩⟩⟩,I⟩,?_,?_⟩
       rotate_left
       (dsimp only;omega)
       dsimp only
       omega
     ·rw[decide_eq_false hF]at crd
      have e:=iE (b:=d) (ts:=p.tasks) (fun q=>hF (q3 q))
      conv=>whnf
      refine W.sq<|g 13 17 []<|J UE<|W.cn<|J (fun _=>(W.skip (W.sq (W.blk (g 20 23 [.call (V.i (sx:Int)) [[]]]<|J ⟨I,I,Za0,I,I⟩ (W.sq ?_)))))) (noF SI)
      by_cases h1:(1000000:Int)≤Boss.given X
      refine g 17 58 [BF,BF,BF,BF,BF,BT,BT,BT,BT,BT,BT,BT,BT,BT,BT,BT,BT,BT,BT,BT,BT,BT,BT,BT,BT,BT,BT,BT,BT,BT] ?_
      conv=>whnf
      refine J Za2<|W.cn<|J (fun _=>(W.exit (rg [.i ((m:Int) +1)]<|J Zdd ?_))) (noF rfl)
      rotate_left
      refine g 17 58 [BF,BF,BF,BF,BF,BF,BF,BF,BF,BF,.n (m),BF,.x (ak y),BF,BF,BF,BF,BF,BF,BF,.n (m),BF,BF,.x (aV j),BF,BF,BF,BF,BF,BF,BF,BF,.call VF [[],[],[]],BF,BF] ?_
      conv=>whnf
      refine J Zax<|W.cn<|J (fun _=>(W.exit (rg [.i ((m:Int) +1)]<|J Zdd ?_))) (noF rfl)
      rotate_left
      all_goals refine⟨m+1,[some 138,some 2,some 3,some 4,some 5],[],⟨rfl,⟨⟨_,rfl,_,_,rfl,rfl,_,_,rfl,rfl,_,_,rfl,rfl,_,_,rfl,rfl,_,_,rfl,rfl,_,_,rfl,rfl,_,_,rfl,rfl,_,_,rfl,rfl,_,_,rfl,rfl,_,_,rfl,rfl,_,_,rfl,rfl,_,_,rfl,rfl,rfl⟩,⟨_,rfl,_,_,rfl,rfl,rfl⟩,rfl,rfl,rfl,rfl,rfl,I⟩,⟨⟨rfl,⟨rfl,⟨rfl,⟨rfl,⟨rfl,⟨rfl,⟨rfl,⟨I,⟨I,⟨I,⟨I,⟨I,UA⟩⟩⟩⟩⟩⟩⟩⟩⟩⟩⟩⟩,⟨⟨rfl,⟨rfl,⟨rfl,⟨rfl,⟨rfl,⟨rfl,⟨rfl,⟨rfl,⟨rfl,⟨rfl,⟨rfl,⟨rfl,⟨rfl,I⟩⟩⟩⟩⟩⟩⟩⟩⟩⟩⟩⟩⟩,⟨⟨rfl,⟨rfl,I⟩⟩,⟨⟨rfl,⟨rfl,⟨rfl,⟨rfl,⟨rfl,⟨rfl,⟨rfl,⟨rfl,⟨rfl,⟨rfl,⟨rfl,⟨rfl,⟨rfl,⟨rfl,I⟩⟩⟩⟩⟩⟩⟩⟩⟩⟩⟩⟩⟩⟩,⟨⟨rfl,⟨(congrArg (fun z=>V.t (T.v (Value.int _ z))) (by rw[e,←hX])),⟨(congrArg (fun z=>V.t (T.v (Value.bool z))) (by rw[e,←hX])),⟨(congrArg (fun z=>V.t (T.v (Value.int _ z))) (by rw[e,←hX])),⟨(congrArg (fun z=>V.t (T.v (Value.int _ z))) (by rw[e,←hX])),⟨(congrArg (fun z=>V.t (T.v (Value.int _ z))) (by rw[e,←hX])),⟨(congrArg (fun z=>V.t (T.v (Value.int _ z))) (by rw[e,←hX])),⟨(congrArg (V.own _) (by rw[e,←hX])),⟨(congrArg (V.own _) (by rw[e,←hX])),⟨(congrArg (V.own _) (by rw[e,←hX])),⟨(congrArg (V.own _) (by rw[e,←hX])),⟨(congrArg (V.own _) (by rw[e,←hX])),⟨(congrArg (V.own _) (by rw[e,←hX])),⟨(congrArg (V.own _) SI),I⟩⟩⟩⟩⟩⟩⟩⟩⟩⟩⟩⟩⟩⟩,I⟩⟩⟩⟩⟩,I⟩,?_,?_⟩
                rotate_left
                (dsimp only;omega)
                dsimp only
                omega
    ·have e:=iE (b:=d) (ts:=p.tasks) (fun q=>hB (q2 q))
     conv=>whnf
     refine W.sq<|g 13 17 []<|J UE<|W.cn<|J (fun _=>(W.skip (W.sq (W.blk (g 20 23 [.call (V.i (sx:Int)) [[]]]<|J ⟨I,I,Za0,I,I⟩ (W.sq ?_)))))) (noF SI)
     by_cases h1:(1000000:Int)≤Boss.given X
     refine g 17 58 [BF,BF,BF,BF,BF,BT,BT,BT,BT,BT,BT,BT,BT,BT,BT,BT,BT,BT,BT,BT,BT,BT,BT,BT,BT,BT,BT,BT,BT,BT] ?_
     conv=>whnf
     refine J Za2<|W.cn<|J (fun _=>(W.exit (rg [.i ((m:Int) +1)]<|J Zdd ?_))) (noF rfl)
     rotate_left
     refine g 17 58 [BF,BF,BF,BF,BF,BF,BF,BF,BF,BF,.n (m),BF,.x (ak y),BF,BF,BF,BF,BF,BF,BF,.n (m),BF,BF,.x (aV j),BF,BF,BT,BT,BT,BT,BT,BT,BT,BT] ?_
     conv=>whnf
     refine J ⟨I,I,I,Zdc,Zdc,Zdc,Zdc,rfl,I,⟨dO,I⟩,⟨dO,I⟩,⟨dO,I⟩,⟨dO,I⟩,⟨dO,rfl,LN⟩,⟨dO,xA⟩,⟨dO,I⟩,dO,I,⟨nO,I⟩,⟨nO,I⟩,⟨nO,I⟩,⟨nO,I⟩,⟨nO,rfl,LN⟩,⟨nO,I⟩,⟨nO,xA⟩,⟨nO,I⟩,nO,I,ag OM,ag OM,ag OM,ag OM,ag OM,ag OM,ag OM,ag OM,I⟩<|W.cn<|J (fun _=>(W.exit (rg [.i ((m:Int) +1)]<|J Zdd ?_))) (noF rfl)
     rotate_left
     all_goals refine⟨m+1,[some 138,some 2,some 3,some 4,some 5],[],⟨rfl,⟨⟨_,rfl,_,_,rfl,rfl,_,_,rfl,rfl,_,_,rfl,rfl,_,_,rfl,rfl,_,_,rfl,rfl,_,_,rfl,rfl,_,_,rfl,rfl,_,_,rfl,rfl,_,_,rfl,rfl,_,_,rfl,rfl,_,_,rfl,rfl,_,_,rfl,rfl,rfl⟩,⟨_,rfl,_,_,rfl,rfl,rfl⟩,rfl,rfl,rfl,rfl,rfl,I⟩,⟨⟨rfl,⟨rfl,⟨rfl,⟨rfl,⟨rfl,⟨rfl,⟨rfl,⟨I,⟨I,⟨I,⟨I,⟨I,UA⟩⟩⟩⟩⟩⟩⟩⟩⟩⟩⟩⟩,⟨⟨rfl,⟨rfl,⟨rfl,⟨rfl,⟨rfl,⟨rfl,⟨rfl,⟨rfl,⟨rfl,⟨rfl,⟨rfl,⟨rfl,⟨rfl,I⟩⟩⟩⟩⟩⟩⟩⟩⟩⟩⟩⟩⟩,⟨⟨rfl,⟨rfl,I⟩⟩,⟨⟨rfl,⟨rfl,⟨rfl,⟨rfl,⟨rfl,⟨rfl,⟨rfl,⟨rfl,⟨rfl,⟨rfl,⟨rfl,⟨rfl,⟨rfl,⟨rfl,I⟩⟩⟩⟩⟩⟩⟩⟩⟩⟩⟩⟩⟩⟩,⟨⟨rfl,⟨(congrArg (fun z=>V.t (T.v (Value.int _ z))) (by rw[e,←hX])),⟨(congrArg (fun z=>V.t (T.v (Value.bool z))) (by rw[e,←hX])),⟨(congrArg (fun z=>V.t (T.v (Value.int _ z))) (by rw[e,←hX])),⟨(congrArg (fun z=>V.t (T.v (Value.int _ z))) (by rw[e,←hX])),⟨(congrArg (fun z=>V.t (T.v (Value.int _ z))) (by rw[e,←hX])),⟨(congrArg (fun z=>V.t (T.v (Value.int _ z))) (by rw[e,←hX])),⟨(congrArg (V.own _) (by rw[e,←hX])),⟨(congrArg (V.own _) (by rw[e,←hX])),⟨(congrArg (V.own _) (by rw[e,←hX])),⟨(congrArg (V.own _) (by rw[e,←hX])),⟨(congrArg (V.own _) (by rw[e,←hX])),⟨(congrArg (V.own _) (by rw[e,←hX])),⟨(congrArg (V.own _) SI),I⟩⟩⟩⟩⟩⟩⟩⟩⟩⟩⟩⟩⟩⟩,I⟩⟩⟩⟩⟩,I⟩,?_,?_⟩
               rotate_left
               (dsimp only;omega)
               dsimp only
               omega
   ·have e:=iE (b:=d) (ts:=p.tasks) (fun q=>hA (q1 q))
    conv=>whnf
    refine W.sq<|g 13 17 []<|J UE<|W.cn<|J (fun _=>(W.skip (W.sq (W.blk (g 20 23 [.call (V.i (sx:Int)) [[]]]<|J ⟨I,I,Za0,I,I⟩ (W.sq ?_)))))) (noF SI)
    by_cases h1:(1000000:Int)≤Boss.given X
    refine g 17 58 [BF,BF,BF,BF,BF,BT,BT,BT,BT,BT,BT,BT,BT,BT,BT,BT,BT,BT,BT,BT,BT,BT,BT,BT,BT,BT,BT,BT,BT,BT] ?_
    conv=>whnf
    refine J Za2<|W.cn<|J (fun _=>(W.exit (rg [.i ((m:Int) +1)]<|J Zdd ?_))) (noF rfl)
    rotate_left
    refine g 17 58 [BF,BF,BF,BF,BF,BF,BF,BF,BF,BF,.n (m),BF,.x (ak y),BF,BF,BT,BT,BT,BT,BT,BT,BT,BT,BT,BT,BT,BT,BT,BT,BT,BT,BT] ?_
    conv=>whnf
    refine J ⟨I,I,I,Zdc,Zdc,Zdc,Zdc,rfl,I,⟨dO,I⟩,⟨dO,I⟩,⟨dO,I⟩,⟨dO,I⟩,⟨dO,rfl,LN⟩,⟨dO,xA⟩,⟨dO,I⟩,dO,I,ag OM,ag OM,ag OM,ag OM,ag OM,ag OM,ag OM,ag OM,ag OM,I,rfl,rfl,rfl,rfl,rfl,rfl,rfl,rfl,I⟩<|W.cn<|J (fun _=>(W.exit (rg [.i ((m:Int) +1)]<|J Zdd ?_))) (noF rfl)
    rotate_left
    all_goals refine⟨m+1,[some 138,some 2,some 3,some 4,some 5],[],⟨rfl,⟨⟨_,rfl,_,_,rfl,rfl,_,_,rfl,rfl,_,_,rfl,rfl,_,_,rfl,rfl,_,_,rfl,rfl,_,_,rfl,rfl,_,_,rfl,rfl,_,_,rfl,rfl,_,_,rfl,rfl,_,_,rfl,rfl,_,_,rfl,rfl,_,_,rfl,rfl,rfl⟩,⟨_,rfl,_,_,rfl,rfl,rfl⟩,rfl,rfl,rfl,rfl,rfl,I⟩,⟨⟨rfl,⟨rfl,⟨rfl,⟨rfl,⟨rfl,⟨rfl,⟨rfl,⟨I,⟨I,⟨I,⟨I,⟨I,UA⟩⟩⟩⟩⟩⟩⟩⟩⟩⟩⟩⟩,⟨⟨rfl,⟨rfl,⟨rfl,⟨rfl,⟨rfl,⟨rfl,⟨rfl,⟨rfl,⟨rfl,⟨rfl,⟨rfl,⟨rfl,⟨rfl,I⟩⟩⟩⟩⟩⟩⟩⟩⟩⟩⟩⟩⟩,⟨⟨rfl,⟨rfl,I⟩⟩,⟨⟨rfl,⟨rfl,⟨rfl,⟨rfl,⟨rfl,⟨rfl,⟨rfl,⟨rfl,⟨rfl,⟨rfl,⟨rfl,⟨rfl,⟨rfl,⟨rfl,I⟩⟩⟩⟩⟩⟩⟩⟩⟩⟩⟩⟩⟩⟩,⟨⟨rfl,⟨(congrArg (fun z=>V.t (T.v (Value.int _ z))) (by rw[e,←hX])),⟨(congrArg (fun z=>V.t (T.v (Value.bool z))) (by rw[e,←hX])),⟨(congrArg (fun z=>V.t (T.v (Value.int _ z))) (by rw[e,←hX])),⟨(congrArg (fun z=>V.t (T.v (Value.int _ z))) (by rw[e,←hX])),⟨(congrArg (fun z=>V.t (T.v (Value.int _ z))) (by rw[e,←hX])),⟨(congrArg (fun z=>V.t (T.v (Value.int _ z))) (by rw[e,←hX])),⟨(congrArg (V.own _) (by rw[e,←hX])),⟨(congrArg (V.own _) (by rw[e,←hX])),⟨(congrArg (V.own _) (by rw[e,←hX])),⟨(congrArg (V.own _) (by rw[e,←hX])),⟨(congrArg (V.own _) (by rw[e,←hX])),⟨(congrArg (V.own _) (by rw[e,←hX])),⟨(congrArg (V.own _) SI),I⟩⟩⟩⟩⟩⟩⟩⟩⟩⟩⟩⟩⟩⟩,I⟩⟩⟩⟩⟩,I⟩,?_,?_⟩
              rotate_left
              (dsimp only;omega)
              dsimp only
              omega
 obtain rfl:m = p.tasks.length:=by omega
 subst hX
 conv=>whnf
 refine W.sq<|g 13 17 []<|J UE<|W.cn<|J (noT SI) fun _=>W.exit<|g 0 4 []<|J ⟨I,UM,I⟩<|RT ?_
 rfl
end Go.K
end
section
open Go Go.Tm Go.Proofs
namespace Go.K
theorem U3{b:Boss}{ts:List Task}{n:Nat}{j:Job}(h:gY b ts b.jobs.length)(hj:b.jobs[n]? = some j)(hz:j.lease = 0)(now:Int):fR (qz now) b.jobs n = fR (qz now) b.jobs (n+1):=by
 refine oh hj ?_
 obtain⟨h1,h2⟩:=(h n j (List.getElem?_eq_some_iff.1 hj).1 hj).1 hz
 obtain⟨l,w,t⟩:=j
 simp only at hz h1 h2
 subst hz h1 h2
 unfold qz;split <;> rfl
theorem w9(b:Boss)(p:Plan)(hp:dl p)(h:BossLim b):F vZ [.val (fJ b),.val (cO p)] (Mp (oy b p)) [[],[]]:=by
 have cv:=nU b p hp h
 by_cases hv:BossOk b p
 ·rw[decide_eq_true hv]at cv
  rw[nW hv]
  have ct:=uh b h
  have hnow:=hv.now
  by_cases h0:b.now = 1000000
  ·rw[r5 h0]
   refine fH ?_
   conv=>whnf
   refine g 1 2 []<|J Zcp<|W.sq<|g 10 13 [.call VT [[],[]]]<|J Zar<|W.cn<|J (noT rfl) fun _=>W.skip<|g 13 17 [.call (aL b) [[]]]<|J Zd8<|W.sq<|g 17 19 []<|J UC<|W.cn<|J (fun _=>(g 19 22 []<|J ⟨I,I,UM,I⟩ (RT ?_))) (noF tO)
   rfl
  ·by_cases hup:b.up = false
   ·rw[zt h0 hup]
    refine fH ?_
    conv=>whnf
    refine g 1 2 []<|J Zcp<|W.sq<|g 10 13 [.call VT [[],[]]]<|J Zar<|W.cn<|J (noT rfl) fun _=>W.skip<|g 13 17 [.call (aL b) [[]]]<|J Zd8<|W.sq<|g 17 19 []<|J UC<|W.cn<|J (noT dO) fun _=>W.skip<|g 19 26 [.i (b.now+1)]<|J Zbf<|W.sq ?_
    refine g 26 28 []<|J UC<|W.cn<|J (fun _=>(g 28 31 []<|J ⟨I,I,UM,I⟩ (RT ?_))) (noF (nbT AS))
    rfl
   ·have hup2:b.up = true:=by cases hb:b.up;exact absurd hb hup;rfl
    obtain⟨u1,u2,u3,u4,u5,u6,⟨u7,u8⟩,⟨u9,u10⟩,u11,u12,u13,u14⟩:=hv.up hup2
    have hck:=hv.plan
    have hpl:=(bT hck).1
    have hwk:=hv.workers
    obtain⟨he1,he2⟩:=fw hv.code
    change 0≤(cx b p).epoch at he1
    change (cx b p).epoch≤300 at he2
    have l1:=h.safe
    have l2:=h.loose
    have hin:HandIn (dw b) p.tasks:=⟨hck,u3,by show(b.jobs.map _).length = _;rw[List.length_map];exact u4,by show b.seats.length≤8;omega,⟨u2,by show b.epoch≤300;omega⟩,⟨u9,u10⟩,⟨by show 0≤b.now+1;omega,by show b.now+1≤1000000;omega⟩⟩
    have ch:F ko [.val (aL ⟨b.workers,b.up,b.now+1,b.since,b.epoch,b.given,b.log,b.results,fR (qz (b.now+1)) b.jobs b.jobs.length,b.seats,b.owed⟩),.val (cO p)] (Mp ⟨atB (dw b) (endH b p.tasks),(endH b p.tasks).out⟩) [[],[]]:=by
     rw[iC _ _ (Nat.le_refl _)];exact Dg (dw b) p hin
    have hdl:∀ t∈p.tasks,t.deps.length≤8:=fun t ht=>by
     obtain⟨k,hk⟩:=List.getElem?_of_mem ht
     exact(bZ hck hk).2.2.1
    have hho:=ld (b:=dw b) (ts:=p.tasks) hdl u9 u10 p.tasks.length
    have k3:(endH b p.tasks).out.length≤40:=by have:=hho.out;show(aG _ _ _).out.length≤40;omega
    generalize hX:atB (dw b) (endH b p.tasks) = X at ch
    have ch2:F ko [.val (aL ⟨b.workers,b.up,b.now+1,b.since,b.epoch,b.given,b.log,b.results,fR (qz (b.now+1)) b.jobs b.jobs.length,b.seats,b.owed⟩),.val (cO p)] (.agg [.t (.i X.workers),.t (.b X.up),.t (.i X.now),.t (.i X.since),.t (.i X.epoch),.t (.i X.given),.own [false] (X.log.safe.map ak),.own [false] (X.log.loose.map ak),.own [false] (X.results.map ak),.own eT (X.jobs.map aV),.own cM (X.seats.map aF),.own cP (X.owed.map aR),.own cK ((endH b p.tasks).out.map aH)]) [[],[]]:=ch
    clear ch
    have x1:X.since = b.since:=by rw[←hX];rfl
    have x2:X.log = b.log:=by rw[←hX];rfl
    have x3:X.owed = b.owed:=by rw[←hX];rfl
    have cl:=lY X.log (by rw[x2];exact l1) (by rw[x2];exact l2)
    refine fH ?_
    conv=>whnf
    refine g 1 2 []<|J Zcp<|W.sq<|g 10 13 [.call VT [[],[]]]<|J Zar<|W.cn<|J (noT rfl) fun _=>W.skip<|g 13 17 [.call (aL b) [[]]]<|J Zd8<|W.sq<|g 17 19 []<|J UC<|W.cn<|J (noT dO) fun _=>W.skip<|g 19 26 [.i (b.now+1)]<|J Zbf<|W.sq ?_
    refine g 26 28 []<|J UC<|W.cn<|J (noT (nbF AS)) fun _=>W.skip<|W.sq<|g 28 29 []<|J UA<|W.blk<|W.lp (fun s (n:Nat)=>⟨[(0,s.s 0),(2,s.s 2),(3,s.s 3),(4,s.s 4),(5,s.s 5),(6,.i n)],[(2,[s.c 2 0,s.c 2 1,s.c 2 2,s.c 2 3,s.c 2 4,s.c 2 5,s.c 2 6,s.c 2 7,s.c 2 8,s.c 2 9,s.c 2 10,s.c 2 11]),(3,[s.c 3 0]),(4,[s.c 4 0,s.c 4 1,s.c 4 2,s.c 4 3,s.c 4 4,s.c 4 5,s.c 4 6,s.c 4 7,s.c 4 8,s.c 4 9,s.c 4 10,s.c 4 11,s.c 4 12]),(5,[.t (.i b.workers),.t (.b b.up),.t (.i (b.now+1)),.t (.i b.since),.t (.i b.epoch),.t (.i b.given),.own [false] (b.log.safe.map ak),.own [false] (b.log.loose.map ak),.own [false] (b.results.map ak),.own eT ((fR (qz (b.now+1)) b.jobs n).map aV),.own cM (b.seats.map aF),.own cP (b.owed.map aR)])],[]⟩) (fun(n:Nat)=>n≤b.jobs.length) (fun(n:Nat)=>b.jobs.length - n) (0) [some 2,some 3,some 4,some 5] [] ⟨rfl,Zee,⟨Zaa,⟨Zac,⟨Zdj,⟨Zaa,I⟩⟩⟩⟩,I⟩ OM ?_
    intro n hn
    have hx:=iB (qz (b.now+1)) b.jobs n
    by_cases hj:n < b.jobs.length
    ·obtain⟨j,hj1⟩:=af hj
     by_cases hz:j.lease = 0
     ·have e1:=U3 u12 hj1 hz (b.now+1)
      conv=>whnf
      refine W.sq<|g 31 35 []<|J UE<|W.cn<|J (fun _=>(W.skip (W.sq (W.blk (gd 35 55 [[],[],[],[.n (n)],[],[.x (aV j)],[],[],[BF],[BF],[BF],[BF],[BF],[BF],[BF],[BF],[BF],[BF]] ?_))))) (noF (by simp_all))
      conv=>whnf
      refine⟨⟨I,I,I,Zdf,I,bp AS,I,I,nO,nO,nO,nO,nO,nO,nO,nO,nO,nO,I⟩,by kernel_rfl,?_⟩
      refine W.cn<|J (noT rfl) fun _=>W.skip<|rg [.i ((n:Int) +1)]<|J Zdd ?_
      refine⟨n+1,[some 2,some 3,some 4,some 5],[],⟨rfl,Zee,⟨Zaa,⟨Zac,⟨Zdj,⟨⟨rfl,⟨rfl,⟨rfl,⟨rfl,⟨rfl,⟨rfl,⟨rfl,⟨rfl,⟨rfl,⟨rfl,⟨(congrArg (V.own _) (by rw[←e1])),Zac⟩⟩⟩⟩⟩⟩⟩⟩⟩⟩⟩,I⟩⟩⟩⟩,I⟩,?_,?_⟩
      rotate_left
      (dsimp only;omega)
      dsimp only
      omega
     ·by_cases hd:j.til≤b.now+1
      ·have e1:=Nq hj1 hd
       conv=>whnf
       refine W.sq<|g 31 35 []<|J UE<|W.cn<|J (fun _=>(W.skip (W.sq (W.blk (gd 35 55 [[],[],[],[.n (n)],[],[.x (aV j)],[],[],[BT],[BT],[BT],[BT,.n (n)],[BT],[BT,.x (aV j)],[BT],[BT],[BT],[BT]] ?_))))) (noF (by simp_all))
       conv=>whnf
       refine⟨⟨I,I,I,Zdf,I,bp AS,I,I,Zaf,Zaf,Zaf,Zdb,Zaf,⟨ag OM,bp AS⟩,Zaf,Zaf,Zaf,ag OM,I⟩,by kernel_rfl,?_⟩
       refine W.cn<|J (fun _=>(rg [.n (n),.x (aV j)]<|J ⟨I,I,I,I,Zdf,⟨UC,bp AS⟩,I⟩ (rg [.i ((n:Int) +1)]<|J Zdd ?_))) (noF tO)
       refine⟨n+1,[some 2,some 3,some 4,some 5],[],⟨rfl,Zee,⟨Zaa,⟨Zac,⟨Zdj,⟨⟨rfl,⟨rfl,⟨rfl,⟨rfl,⟨rfl,⟨rfl,⟨rfl,⟨rfl,⟨rfl,⟨rfl,⟨(congrArg (V.own _) (e1)),Zac⟩⟩⟩⟩⟩⟩⟩⟩⟩⟩⟩,I⟩⟩⟩⟩,I⟩,?_,?_⟩
       rotate_left
       (dsimp only;omega)
       dsimp only
       omega
      ·have e1:=S0 hj1 hd
       conv=>whnf
       refine W.sq<|g 31 35 []<|J UE<|W.cn<|J (fun _=>(W.skip (W.sq (W.blk (gd 35 55 [[],[],[],[.n (n)],[],[.x (aV j)],[],[],[BT],[BT],[BT],[BT,.n (n)],[BT],[BT,.x (aV j)],[BT],[BT],[BT],[BT]] ?_))))) (noF (by simp_all))
       conv=>whnf
       refine⟨⟨I,I,I,Zdf,I,bp AS,I,I,Zaf,Zaf,Zaf,Zdb,Zaf,⟨ag OM,bp AS⟩,Zaf,Zaf,Zaf,ag OM,I⟩,by kernel_rfl,?_⟩
       refine W.cn<|J (noT dO) fun _=>W.skip<|rg [.i ((n:Int) +1)]<|J Zdd ?_
       refine⟨n+1,[some 2,some 3,some 4,some 5],[],⟨rfl,Zee,⟨Zaa,⟨Zac,⟨Zdj,⟨⟨rfl,⟨rfl,⟨rfl,⟨rfl,⟨rfl,⟨rfl,⟨rfl,⟨rfl,⟨rfl,⟨rfl,⟨(congrArg (V.own _) (by rw[←e1])),Zac⟩⟩⟩⟩⟩⟩⟩⟩⟩⟩⟩,I⟩⟩⟩⟩,I⟩,?_,?_⟩
       rotate_left
       (dsimp only;omega)
       dsimp only
       omega
    obtain rfl:n = b.jobs.length:=by omega
    have x4:X.epoch = b.epoch:=by rw[←hX];rfl
    have x5:X.owed.length≤2000:=by rw[x3];exact u11
    by_cases hs:b.since+1 = 2
    ·rw[mh h0 hup hs]
     conv=>whnf
     refine W.sq<|g 31 35 []<|J UE<|W.cn<|J (noT (by simp_all)) fun _=>W.exit<|g 35 64 [.call (V.agg [V.t (T.i (Boss.workers X)),V.t (T.b (Boss.up X)),V.t (T.i (Boss.now X)),V.t (T.i (Boss.since X)),V.t (T.i (Boss.epoch X)),V.t (T.i (Boss.given X)),V.own [false] (List.map ak (Log.safe (Boss.log X))),V.own [false] (List.map ak (Log.loose (Boss.log X))),V.own [false] (List.map ak (Boss.results X)),V.own eT (List.map aV (Boss.jobs X)),V.own cM (List.map aF (Boss.seats X)),V.own cP (List.map aR (Boss.owed X)),V.own cK (List.map aH (Hand.out (endH b p.tasks)))]) [[],[]]]<|J ⟨I,I,⟨Zej,I,UV,UA,AS⟩,I,UM,I⟩<|g 64 70 [.i (Boss.since X+1)]<|J ⟨I,I,I,wO,I,I,UA,I⟩<|W.sq<|g 70 73 []<|J UD<|W.cn<|J (noT dO) fun _=>W.skip<|g 5 7 []<|J Zef<|g 75 84 [.call (V.own [false] (List.map ak (Log.safe (Boss.log X) ++Log.loose (Boss.log X)))) [[]]]<|J ⟨I,I,I,⟨UA,I,⟨UB,I⟩,UA,AS⟩,I,I,I,UB,I⟩ ?_
     refine W.sq<|g 0 0 []<|J UA<|W.blk<|W.lp (fun s (n:Nat)=>⟨[(0,s.s 0),(2,s.s 2),(3,s.s 3),(4,s.s 4),(7,s.s 7),(8,.i n),(73,s.s 73)],[(2,[s.c 2 0,s.c 2 1,s.c 2 2,s.c 2 3,s.c 2 4,s.c 2 5,s.c 2 6,s.c 2 7,s.c 2 8,s.c 2 9,s.c 2 10,s.c 2 11]),(3,[s.c 3 0]),(4,[s.c 4 0,s.c 4 1,s.c 4 2,s.c 4 3,s.c 4 4,s.c 4 5,s.c 4 6,s.c 4 7,s.c 4 8,s.c 4 9,s.c 4 10,s.c 4 11,s.c 4 12]),(7,[.t (.i X.workers),.t (.b X.up),.t (.i X.now),.t (.i 0),.t (.i X.epoch),.t (.i X.given),.own [false] ((X.log.safe++X.log.loose).map ak),.own [false] [],.own [false] (X.results.map ak),.own eT (X.jobs.map aV),.own cM (X.seats.map aF),.own cP (X.owed.map aR),.own cK (((endH b p.tasks).out++ (X.owed.take n).map (mL X.epoch)).map aH)])],[]⟩) (fun(n:Nat)=>n≤X.owed.length) (fun(n:Nat)=>X.owed.length - n) (0) [some 2,some 3,some 4,some 7] [] ⟨rfl,⟨Zad,rfl,rfl,rfl,rfl,rfl,rfl,I⟩,⟨Zaa,⟨Zac,⟨Zdj,⟨⟨rfl,⟨rfl,⟨rfl,⟨rfl,⟨rfl,⟨rfl,⟨rfl,⟨rfl,⟨rfl,⟨rfl,⟨rfl,⟨rfl,⟨rfl,⟨(congrArg (V.own _) (by rw[List.take_zero,List.map_nil,List.append_nil])),I⟩⟩⟩⟩⟩⟩⟩⟩⟩⟩⟩⟩⟩⟩,I⟩⟩⟩⟩,I⟩ OM ?_
     intro n hn3
     by_cases hn2:n < X.owed.length
     ·obtain⟨o,ho⟩:=af hn2
      have eo:=vn (out:=(endH b p.tasks).out) (ep:=X.epoch) ho
      conv=>whnf
      refine W.sq<|g 84 89 []<|J UF<|W.cn<|J (fun _=>(W.skip (W.sq (W.blk (g 89 98 [.n (n),.x (aR o)]<|J ⟨I,I,I,I,Zdf,xA,I,UC,I⟩ (rg []<|J ⟨I,I,I,I,I,I,I,I,I,I,⟨UH,I⟩,Zdi,I,UA,I⟩ (rg [.i ((n:Int) +1)]<|J Zdd ?_))))))) (noF (by simp_all))
      refine⟨n+1,[some 2,some 3,some 4,some 7],[],⟨rfl,⟨Zad,rfl,rfl,rfl,rfl,rfl,rfl,I⟩,⟨Zaa,⟨Zac,⟨Zdj,⟨⟨rfl,⟨rfl,⟨rfl,⟨rfl,⟨rfl,⟨rfl,⟨rfl,⟨rfl,⟨rfl,⟨rfl,⟨rfl,⟨rfl,⟨rfl,⟨(congrArg (V.own _) (eo)),I⟩⟩⟩⟩⟩⟩⟩⟩⟩⟩⟩⟩⟩⟩,I⟩⟩⟩⟩,I⟩,?_,?_⟩
      rotate_left
      (dsimp only;omega)
      dsimp only
      omega
     ·have et:X.owed.take n = X.owed:=aE OM
      conv=>whnf
      refine W.sq<|g 84 89 []<|J UF<|W.cn<|J (noT (by simp_all)) fun _=>W.exit<|g 89 114 []<|J UW<|g 0 4 []<|J ⟨I,UM,I⟩<|RT ?_
      rw[et]
      subst hX
      rfl
    ·rw[n5 h0 hup hs]
     conv=>whnf
     refine W.sq<|g 31 35 []<|J UE<|W.cn<|J (noT (by simp_all)) fun _=>W.exit<|g 35 64 [.call (V.agg [V.t (T.i (Boss.workers X)),V.t (T.b (Boss.up X)),V.t (T.i (Boss.now X)),V.t (T.i (Boss.since X)),V.t (T.i (Boss.epoch X)),V.t (T.i (Boss.given X)),V.own [false] (List.map ak (Log.safe (Boss.log X))),V.own [false] (List.map ak (Log.loose (Boss.log X))),V.own [false] (List.map ak (Boss.results X)),V.own eT (List.map aV (Boss.jobs X)),V.own cM (List.map aF (Boss.seats X)),V.own cP (List.map aR (Boss.owed X)),V.own cK (List.map aH (Hand.out (endH b p.tasks)))]) [[],[]]]<|J ⟨I,I,⟨Zej,I,UV,UA,AS⟩,I,UM,I⟩<|g 64 70 [.i (Boss.since X+1)]<|J ⟨I,I,I,wO,I,I,UA,I⟩<|W.sq<|g 70 73 []<|J UD<|W.cn<|J (fun _=>(g 5 7 []<|J ⟨I,UM,I⟩ (RT ?_))) (noF tO)
     subst hX
     rfl
 ·rw[decide_eq_false hv]at cv
  rw[Bd hv]
  refine fH ?_
  conv=>whnf
  refine g 1 2 []<|J Zcp<|W.sq<|g 10 13 [.call VF [[],[]]]<|J Zar<|W.cn<|J (fun _=>(g 13 15 []<|J ⟨I,UM,I⟩ (RT ?_))) (noF rfl)
  rfl
end Go.K
end
section
open Go Go.Tm Go.Proofs
namespace Go.K
structure LedSmall (x:Led):Prop where
 boss:BossSmall x.boss
 out:x.out.length≤2097152
 inp:∀ m∈x.out,m.inputs.length≤8
theorem HL:LedSmall GR:=⟨sa,Nat.zero_le _,fun m hm=>by cases hm⟩
theorem vQ{b:Boss}(p:Plan)(h:BossLim b):LedSmall (oy b p):=by
 unfold oy;split
 ·rename_i hv
  have hs:=lx h
  unfold gQ;split
  ·exact⟨hs,Nat.zero_le _,fun m hm=>by cases hm⟩
  ·split
   ·exact⟨⟨hs.1,hs.2,hs.3,hs.4,hs.5,hs.6⟩,Nat.zero_le _,fun m hm=>by cases hm⟩
   ·rename_i hup
    have hup2:b.up = true:=by cases hb:b.up;exact absurd hb hup;rfl
    obtain⟨u1,u2,u3,u4,u5,u6,⟨u7,u8⟩,⟨u9,u10⟩,u11,u12,u13,u14⟩:=hv.up hup2
    have hck:=hv.plan
    have hpl:=(bT hck).1
    have hdl:∀ t∈p.tasks,t.deps.length≤8:=fun t ht=>by
     obtain⟨k,hk⟩:=List.getElem?_of_mem ht
     exact(bZ hck hk).2.2.1
    obtain⟨k1,k2,k3,k4,k5,k6⟩:=ld (b:=dw b) (ts:=p.tasks) hdl u9 u10 p.tasks.length
    have k7:(dw b).jobs.length = b.jobs.length:=by show(b.jobs.map _).length = _;rw[List.length_map]
    have k8:(dw b).seats.length = b.seats.length:=rfl
    have g1:=h.safe
    have g2:=h.loose
    have g3:=h.seats
    have g4:=h.res
    have j1:(endH b p.tasks).jobs.length≤4194304:=by show(aG _ _ _).jobs.length≤_;omega
    have j2:(endH b p.tasks).seats.length≤4194304:=by show(aG _ _ _).seats.length≤_;omega
    have j3:(endH b p.tasks).out.length≤40:=by show(aG _ _ _).out.length≤_;omega
    split
    ·refine⟨⟨?_,Nat.zero_le _,by show b.results.length≤_;omega,j1,j2,Nat.zero_le _⟩,?_,?_⟩
     ·simp only[List.length_append];omega
     ·simp only[List.length_append,List.length_map];omega
     ·intro m hm
      rcases List.mem_append.1 hm with hm|hm
      ·exact k6 m hm
      ·obtain⟨o,_,rfl⟩:=List.mem_map.1 hm
       exact Nat.zero_le _
    ·exact⟨⟨by show b.log.safe.length≤_;omega,by show b.log.loose.length≤_;omega,by show b.results.length≤_;omega,j1,j2,by show b.owed.length≤_;omega⟩,by show(endH b p.tasks).out.length≤_;omega,k6⟩
 ·exact HL
end Go.K
end
section
open Go Go.Tm Go.Proofs
namespace Go.K
structure JL (ep now given workers:Int) (rs:List ByteArray) (ts:List Task) (js:List Job):Prop where
 zero:∀ (i:Nat) (j:Job),js[i]? = some j→j.lease = 0→j.worker = 0∧j.til = 0
 lease:∀ (i:Nat) (j:Job),js[i]? = some j→¬j.lease = 0→(ep - 1) * 1000000+1≤j.lease∧j.lease≤(ep - 1) * 1000000+given
 worker:∀ (i:Nat) (j:Job),js[i]? = some j→¬j.lease = 0→1≤j.worker∧j.worker≤workers
 til:∀ (i:Nat) (j:Job),js[i]? = some j→¬j.lease = 0→now+1≤j.til∧j.til≤now+12
 res:∀ (i:Nat) (j:Job),js[i]? = some j→¬j.lease = 0→atS rs (i:Int) = emp
 ready:∀ (i:Nat) (j:Job),js[i]? = some j→¬j.lease = 0→cU rs (nc ts i)
 once:∀ (i k:Nat) (j l:Job),i < k→js[i]? = some j→js[k]? = some l→¬l.lease = 0→¬j.lease = l.lease
theorem GV{b:Boss}{ts:List Task}(h:gY b ts b.jobs.length):JL b.epoch b.now b.given b.workers b.results ts b.jobs:=by
 have hl:∀ {i:Nat} {j:Job},b.jobs[i]? = some j→i < b.jobs.length:=fun hj=>(List.getElem?_eq_some_iff.1 hj).1
 refine⟨fun i j hj hz=>(h i j (hl hj) hj).1 hz,fun i j hj hz=>((h i j (hl hj) hj).2 hz).lease,fun i j hj hz=>((h i j (hl hj) hj).2 hz).worker,fun i j hj hz=>((h i j (hl hj) hj).2 hz).til,fun i j hj hz=>((h i j (hl hj) hj).2 hz).res,fun i j hj hz=>((h i j (hl hj) hj).2 hz).ready,fun i k j l hik hj hk hz e=>?_⟩
 refine((h k l (hl hk) hk).2 hz).once (List.mem_map.2 ⟨j,?_,e⟩)
 exact List.mem_of_getElem? (i:=i) (by rw[List.getElem?_take];rw[if_pos hik];exact hj)
theorem DR{b:Boss}{ts:List Task}(h:JL b.epoch b.now b.given b.workers b.results ts b.jobs):gY b ts b.jobs.length:=by
 intro i j _ hj
 refine⟨h.zero i j hj,fun hz=>⟨h.lease i j hj hz,h.worker i j hj hz,h.til i j hj hz,h.res i j hj hz,h.ready i j hj hz,fun hm=>?_⟩⟩
 obtain⟨l,hl,e⟩:=List.mem_map.1 hm
 obtain⟨k,hk⟩:=List.getElem?_of_mem hl
 rw[List.getElem?_take]at hk
 split at hk
 ·rename_i hki
  exact h.once k i l j hki hk hj hz e
 ·cases hk
theorem LJ{ep now now' given workers:Int}{rs:List ByteArray}{ts:List Task}{js:List Job}{f:Job→Job}(h:JL ep now given workers rs ts js)(hf:∀ j,f j = fz∨(f j).lease = j.lease∧(f j).worker = j.worker∧(j.lease = 0→f j = j)∧(¬j.lease = 0→(now+1≤j.til∧j.til≤now+12)→now'+1≤(f j).til∧(f j).til≤now'+12)):JL ep now' given workers rs ts (js.map f):=by
 have g:∀ {i:Nat} {x:Job},(js.map f)[i]? = some x→∃ j,js[i]? = some j∧f j = x:=fun{i x} hx=>by
  rw[List.getElem?_map]at hx
  cases hj:js[i]? with
  |none=>rw[hj]at hx;cases hx
  |some j=>rw[hj]at hx;exact⟨j,rfl,Option.some.inj hx⟩
 have k:∀ {i:Nat} {x:Job},(js.map f)[i]? = some x→¬x.lease = 0→∃ j,js[i]? = some j∧f j = x∧x.lease = j.lease∧x.worker = j.worker∧¬j.lease = 0∧now'+1≤x.til∧x.til≤now'+12:=fun{i x} hx hz=>by
  obtain⟨j,hj,e⟩:=g hx
  rcases hf j with q|⟨q1,q2,_,q3⟩
  ·rw[e]at q;rw[q]at hz;exact absurd rfl hz
  ·rw[e]at q1 q2 q3
   have hz':¬j.lease = 0:=fun w=>hz (by rw[q1];exact w)
   exact⟨j,hj,e,q1,q2,hz',q3 hz' (h.til i j hj hz')⟩
 refine⟨fun i x hx hz=>?_,fun i x hx hz=>?_,fun i x hx hz=>?_,fun i x hx hz=>?_,fun i x hx hz=>?_,fun i x hx hz=>?_,fun i m x y him hx hy hz e=>?_⟩
 ·obtain⟨j,hj,e⟩:=g hx
  rcases hf j with q|⟨q1,q2,q4,q3⟩
  ·rw[←e,q];exact⟨rfl,rfl⟩
  ·have hz':j.lease = 0:=by rw[←q1,e];exact hz
   rw[←e,q4 hz'];exact h.zero i j hj hz'
 ·obtain⟨j,hj,e,q1,q2,hz',t⟩:=k hx hz;rw[q1];exact h.lease i j hj hz'
 ·obtain⟨j,hj,e,q1,q2,hz',t⟩:=k hx hz;rw[q2];exact h.worker i j hj hz'
 ·obtain⟨j,hj,e,q1,q2,hz',t⟩:=k hx hz;exact t
 ·obtain⟨j,hj,e,q1,q2,hz',t⟩:=k hx hz;exact h.res i j hj hz'
 ·obtain⟨j,hj,e,q1,q2,hz',t⟩:=k hx hz;exact h.ready i j hj hz'
 ·obtain⟨l,hl,_,q1,_,hz',_⟩:=k hy hz
  have hzx:¬x.lease = 0:=fun w=>hz (by rw[←e];exact w)
  obtain⟨j,hj,_,p1,_,_,_⟩:=k hx hzx
  exact h.once i m j l him hj hl hz' (by rw[←p1,←q1];exact e)
theorem WM{ep now given workers:Int}{rs:List ByteArray}{ts:List Task}{js:List Job}(h:JL ep now given workers rs ts js):JL ep (now+1) given workers rs ts (js.map (qz (now+1))):=by
 refine LJ h fun j=>?_
 unfold qz
 split
 ·exact .inl rfl
 ·rename_i hd
  exact .inr ⟨rfl,rfl,fun _=>rfl,fun _ q=>⟨by omega,by omega⟩⟩
theorem Uy{ep now given workers w:Int}{rs:List ByteArray}{ts:List Task}{js:List Job}(h:JL ep now given workers rs ts js):JL ep now given workers rs ts (js.map fun j=>if j.worker = w then fz else j):=by
 refine LJ h fun j=>?_
 split
 ·exact .inl rfl
 ·exact .inr ⟨rfl,rfl,fun _=>rfl,fun _ q=>q⟩
theorem Uz{ep now given workers l:Int}{rs:List ByteArray}{ts:List Task}{js:List Job}(hl:1≤l)(h:JL ep now given workers rs ts js):JL ep now given workers rs ts (js.map fun j=>if j.lease = l then⟨j.lease,j.worker,now+12⟩else j):=by
 refine LJ h fun j=>?_
 split
 ·rename_i e
  exact .inr ⟨rfl,rfl,fun z=>absurd z OM,fun _ q=>⟨by dsimp only;omega,by dsimp only;omega⟩⟩
 ·exact .inr ⟨rfl,rfl,fun _=>rfl,fun _ q=>q⟩
theorem WK{ep now given workers s:Int}{rs:List ByteArray}{ts:List Task}{js:List Job}{n:Nat}{j0:Job}(h:JL ep now given workers rs ts js)(hj:js[n]? = some j0)(hg:0≤given)(hs:0≤s∧s < workers)(hr:atS rs (n:Int) = emp)(hd:cU rs (nc ts n))(he:1≤ep):JL ep now (given+1) workers rs ts (js.set n ⟨(ep - 1) * 1000000+ (given+1),s+1,now+12⟩):=by
 have hn:=(List.getElem?_eq_some_iff.1 hj).1
 have g:∀ {i:Nat} {x:Job},(js.set n ⟨(ep - 1) * 1000000+ (given+1),s+1,now+12⟩)[i]? = some x→(i = n∧x = ⟨(ep - 1) * 1000000+ (given+1),s+1,now+12⟩)∨(¬i = n∧js[i]? = some x):=fun{i x} hx=>by
  by_cases e:i = n
  ·subst e
   rw[List.getElem?_set_self hn]at hx
   exact .inl ⟨rfl,(Option.some.inj hx).symm⟩
  ·rw[List.getElem?_set_ne (fun q=>e q.symm)]at hx
   exact .inr ⟨e,hx⟩
 refine⟨fun i x hx hz=>?_,fun i x hx hz=>?_,fun i x hx hz=>?_,fun i x hx hz=>?_,fun i x hx hz=>?_,fun i x hx hz=>?_,fun i m x y him hx hy hz e=>?_⟩
 ·rcases g hx with⟨_,rfl⟩|⟨_,q⟩
  ·dsimp only at hz;omega
  ·exact h.zero i x q hz
 ·rcases g hx with⟨_,rfl⟩|⟨_,q⟩
  ·exact⟨by dsimp only;omega,by dsimp only;omega⟩
  ·have:=h.lease i x q hz;exact⟨by omega,by omega⟩
 ·rcases g hx with⟨_,rfl⟩|⟨_,q⟩
  ·exact⟨by dsimp only;omega,by dsimp only;omega⟩
  ·exact h.worker i x q hz
 ·rcases g hx with⟨_,rfl⟩|⟨_,q⟩
  ·exact⟨by dsimp only;omega,by dsimp only;omega⟩
  ·exact h.til i x q hz
 ·rcases g hx with⟨rfl,rfl⟩|⟨_,q⟩
  ·exact hr
  ·exact h.res i x q hz
 ·rcases g hx with⟨rfl,rfl⟩|⟨_,q⟩
  ·exact hd
  ·exact h.ready i x q hz
 ·rcases g hx with⟨a,rfl⟩|⟨a,qx⟩
  ·rcases g hy with⟨b,rfl⟩|⟨_,qy⟩
   ·omega
   ·have:=(h.lease m y qy hz).2;dsimp only at e;omega
  ·rcases g hy with⟨_,rfl⟩|⟨_,qy⟩
   ·have hx0:¬x.lease = 0:=fun w=>by dsimp only at e;omega
    have:=(h.lease i x qx hx0).2;dsimp only at e;omega
   ·exact h.once i m x y him qx qy hz e
end Go.K
end
section
open Go Go.Tm Go.Proofs
namespace Go.K
def dv(p:Plan):Prop:=p.tasks.length≤64∧∀ t∈p.tasks,t.name.size≤64∧t.deps.length≤64
theorem kF(p:Plan)(h:dv p):F BE [.val (cO p)] (eS p) [[]]:=by
 obtain⟨hp1,hp2⟩:=h
 refine Cl ?_
 conv=>whnf
 refine g 0 0 []<|J Zdq<|g 6 7 []<|J Zef<|W.sq<|g 0 0 []<|J UA<|W.blk<|W.lp (fun s (n:Nat)=>⟨[(0,s.s 0),(1,s.s 1),(2,s.s 2),(3,s.s 3),(4,.i n)],[(1,[s.c 1 0]),(2,[s.c 2 0]),(34,[s.c 34 0]),(3,[.own dE ((p.tasks.take n).map ay)])],[]⟩) (fun(n:Nat)=>n≤p.tasks.length) (fun(n:Nat)=>p.tasks.length - n) (0) [some 1,some 2,some 34,some 3] [] ⟨rfl,⟨Zag,rfl,rfl,rfl,rfl,I⟩,⟨Zac,⟨Zac,⟨Zac,Zdn⟩⟩⟩,I⟩ OM ?_
 intro n hn
 conv=>whnf
 refine W.sq<|g 7 11 []<|J UE<|W.cn<|J (fun h1=>?_) fun h1=>?_
 replace h1:=dt h1
 simp only[LM]at h1
 refine W.skip<|W.sq<|W.blk ?_
 obtain⟨y1,hy1⟩:=af (xs:=Plan.tasks p) (n:=n) OM
 have hm1:=hp2 y1 (List.mem_of_getElem? hy1)
 refine g 11 19 [.x (ay y1)]<|J Zbg<|rgd [[],[],[],[],[],[],[],[],[],[],[],[],[],[],[]] ?_
 conv=>whnf
 refine J ⟨I,I,I,I,I,I,I,I,I,Zdi,I,⟨UC,I⟩,Zdi,I,UA,I⟩<|J KR<|rg [.i ((n:Int) +1)]<|J Zdd ?_
 rotate_left
 replace h1:=df h1
 simp only[LM]at h1
 refine W.exit<|g 3 34 []<|J UV<|RT ?_
 rotate_left
 ·refine⟨n+1,[some 1,some 2,some 34,some 3],[],⟨rfl,⟨Zag,rfl,rfl,rfl,rfl,I⟩,⟨Zac,⟨Zac,⟨Zac,⟨⟨rfl,⟨(congrArg (V.own _) (n9 AS)),I⟩⟩,I⟩⟩⟩⟩,I⟩,?_,?_⟩
  rotate_left
  (dsimp only;omega)
  dsimp only
  omega
 ·rw[aE OM]
end Go.K
end
section
open Go Go.Tm Go.Proofs
namespace Go.K
def iu(t:Task):Prop:=t.name.size≤8192∧t.deps.length≤128
def kM(p:Plan):Prop:=p.tasks.length≤64∧∀ t∈p.tasks,iu t
theorem lw{p:Plan}(h:dv p):kM p:=⟨h.1,fun t ht=>⟨by have:=(h.2 t ht).1;omega,by have:=(h.2 t ht).2;omega⟩⟩
theorem WJ{p:Plan}(h:kM p):dl p:=⟨by have:=h.1;omega,fun t ht=>⟨by have:=(h.2 t ht).1;omega,by have:=(h.2 t ht).2;omega⟩⟩
end Go.K
end
section
open Go Go.Tm Go.Proofs
namespace Go.K
attribute [local irreducible] ByteArray.extract
theorem OA{m:Message}{n:Nat}{x:ByteArray}(h:m.inputs[n]? = some x):gv m n++x = gv m (n+1):=by
 unfold gv;rw[EL h];simp only[ByteArray.append_assoc]
theorem Th(x:Int):IntKind.u8.wrap x = x % 256:=by simp[IntKind.wrap,IntKind.bits,IntKind.signed]
theorem sb{x:Int}(k:Nat)(d:Int)(hk:(2:Int) ^ min k IntKind.i64.bits = d)(h:0≤d):IntKind.u8.wrap (x.fdiv (2 ^ min (Int.toNat (k:Int)) IntKind.i64.bits)) = x / d % 256:=by
 rw[Int.toNat_natCast,hk,Th,Int.fdiv_eq_ediv_of_nonneg _ h]
theorem Ir{m:Message}(h:bO m):(⟨(bQ ([m.kind,m.frm,m.to,IntKind.u8.wrap (m.epoch.fdiv (2 ^ min (Int.toNat 8) IntKind.i64.bits)),IntKind.u8.wrap m.epoch,IntKind.u8.wrap (m.lease.fdiv (2 ^ min (Int.toNat 24) IntKind.i64.bits)),IntKind.u8.wrap (m.lease.fdiv (2 ^ min (Int.toNat 16) IntKind.i64.bits)),IntKind.u8.wrap (m.lease.fdiv (2 ^ min (Int.toNat 8) IntKind.i64.bits)),IntKind.u8.wrap m.lease,m.task,IntKind.u8.wrap ((m.inputs.map ak).length:Int)].map b1T)).toArray⟩:ByteArray) ++m.text = gv m 0:=by
 obtain⟨h1,h2,h3,h4,h5,h6⟩:=fy h
 have h7:=(de h).1
 have e:[m.kind,m.frm,m.to,IntKind.u8.wrap (m.epoch.fdiv (2 ^ min (Int.toNat 8) IntKind.i64.bits)),IntKind.u8.wrap m.epoch,IntKind.u8.wrap (m.lease.fdiv (2 ^ min (Int.toNat 24) IntKind.i64.bits)),IntKind.u8.wrap (m.lease.fdiv (2 ^ min (Int.toNat 16) IntKind.i64.bits)),IntKind.u8.wrap (m.lease.fdiv (2 ^ min (Int.toNat 8) IntKind.i64.bits)),IntKind.u8.wrap m.lease,m.task,IntKind.u8.wrap ((m.inputs.map ak).length:Int)] = Ae m:=by
  have a1:IntKind.u8.wrap (m.epoch.fdiv (2 ^ min (Int.toNat 8) IntKind.i64.bits)) = m.epoch / 256 % 256:=sb 8 256 (by decide) (by decide)
  have a2:IntKind.u8.wrap (m.lease.fdiv (2 ^ min (Int.toNat 24) IntKind.i64.bits)) = m.lease / 16777216 % 256:=sb 24 16777216 (by decide) (by decide)
  have a3:IntKind.u8.wrap (m.lease.fdiv (2 ^ min (Int.toNat 16) IntKind.i64.bits)) = m.lease / 65536 % 256:=sb 16 65536 (by decide) (by decide)
  have a4:IntKind.u8.wrap (m.lease.fdiv (2 ^ min (Int.toNat 8) IntKind.i64.bits)) = m.lease / 256 % 256:=sb 8 256 (by decide) (by decide)
  have b1:m.epoch / 256 % 256 = m.epoch / 256:=by omega
  have b2:m.lease / 16777216 % 256 = m.lease / 16777216:=by omega
  unfold Ae
  rw[List.length_map]
  rw[a1,a2,a3,a4,b1,b2,Th,Th,wu8 (z:=(m.inputs.length:Int)) OM OM]
 rw[e,qE,←EN (Ev h),jo]
theorem pS(m:Message)(key:ByteArray)(hl:m.inputs.length≤9223372036854775806):F pB [.val (en m),.val (.s key)] (.s (er m key)) [[],[]]:=by
 have c1:=cG m hl
 by_cases h:bO m
 ·have hb:=f0 h
  obtain⟨h1,h2,h3,h4,h5,h6⟩:=fy h
  obtain⟨h7,h8,h9⟩:=de h
  rw[show decide (bO m) = true from decide_eq_true h]at c1
  by_cases hk:key.size≤30
  ·have c4:=nD (dn m) key OM OM
   have hs:(eY (dn m) key).size = 8:=eQ _
   refine fN ?_
   conv=>whnf
   refine g 0 0 []<|J ⟨UH,I,I⟩<|W.sq<|g 11 16 [.call VT [[]],BF,BF,BF,BF]<|J Zb8<|W.cn<|J (noT dO) fun _=>W.skip<|g 10 56 [.i m.kind,.i m.frm,.i m.to,.i (Int.fdiv m.epoch (2 ^ min (Int.toNat 8) (IntKind.bits IntKind.i64))),.i (IntKind.wrap IntKind.u8 (Int.fdiv m.epoch (2 ^ min (Int.toNat 8) (IntKind.bits IntKind.i64)))),.i (IntKind.wrap IntKind.u8 m.epoch),.i (Int.fdiv m.lease (2 ^ min (Int.toNat 24) (IntKind.bits IntKind.i64))),.i (IntKind.wrap IntKind.u8 (Int.fdiv m.lease (2 ^ min (Int.toNat 24) (IntKind.bits IntKind.i64)))),.i (Int.fdiv m.lease (2 ^ min (Int.toNat 16) (IntKind.bits IntKind.i64))),.i (IntKind.wrap IntKind.u8 (Int.fdiv m.lease (2 ^ min (Int.toNat 16) (IntKind.bits IntKind.i64)))),.i (Int.fdiv m.lease (2 ^ min (Int.toNat 8) (IntKind.bits IntKind.i64))),.i (IntKind.wrap IntKind.u8 (Int.fdiv m.lease (2 ^ min (Int.toNat 8) (IntKind.bits IntKind.i64)))),.i (IntKind.wrap IntKind.u8 m.lease),.i m.task,.i (IntKind.wrap IntKind.u8 (↑(List.length (List.map ak m.inputs)):Int))]<|J ⟨I,I,wu8 OM OM,I,I,wu8 OM OM,I,I,wu8 OM OM,I,I,Zdp,rfl,I,I,rfl,I,I,Zdp,rfl,I,I,Zdp,rfl,I,I,Zdp,rfl,I,I,rfl,I,I,wu8 OM OM,I,I,I,rfl,⟨UA,UA,UA,UA,UA,UA,UA,UA,UA,UA,UA,I⟩,I,I⟩<|g 56 61 [.s ({data:=List.toArray (bQ [[T.v (Value.int IntKind.u8 m.kind)],[T.v (Value.int IntKind.u8 m.frm)],[T.v (Value.int IntKind.u8 m.to)],[T.v (Value.int IntKind.u8 (IntKind.wrap IntKind.u8 (Int.fdiv m.epoch (2 ^ min (Int.toNat 8) (IntKind.bits IntKind.i64)))))],[T.v (Value.int IntKind.u8 (IntKind.wrap IntKind.u8 m.epoch))],[T.v (Value.int IntKind.u8 (IntKind.wrap IntKind.u8 (Int.fdiv m.lease (2 ^ min (Int.toNat 24) (IntKind.bits IntKind.i64)))))],[T.v (Value.int IntKind.u8 (IntKind.wrap IntKind.u8 (Int.fdiv m.lease (2 ^ min (Int.toNat 16) (IntKind.bits IntKind.i64)))))],[T.v (Value.int IntKind.u8 (IntKind.wrap IntKind.u8 (Int.fdiv m.lease (2 ^ min (Int.toNat 8) (IntKind.bits IntKind.i64)))))],[T.v (Value.int IntKind.u8 (IntKind.wrap IntKind.u8 m.lease))],[T.v (Value.int IntKind.u8 m.task)],[T.v (Value.int IntKind.u8 (IntKind.wrap IntKind.u8 (↑(List.length (List.map ak m.inputs)):Int)))]]):ByteArray}),.s ({data:=List.toArray (bQ [[T.v (Value.int IntKind.u8 m.kind)],[T.v (Value.int IntKind.u8 m.frm)],[T.v (Value.int IntKind.u8 m.to)],[T.v (Value.int IntKind.u8 (IntKind.wrap IntKind.u8 (Int.fdiv m.epoch (2 ^ min (Int.toNat 8) (IntKind.bits IntKind.i64)))))],[T.v (Value.int IntKind.u8 (IntKind.wrap IntKind.u8 m.epoch))],[T.v (Value.int IntKind.u8 (IntKind.wrap IntKind.u8 (Int.fdiv m.lease (2 ^ min (Int.toNat 24) (IntKind.bits IntKind.i64)))))],[T.v (Value.int IntKind.u8 (IntKind.wrap IntKind.u8 (Int.fdiv m.lease (2 ^ min (Int.toNat 16) (IntKind.bits IntKind.i64)))))],[T.v (Value.int IntKind.u8 (IntKind.wrap IntKind.u8 (Int.fdiv m.lease (2 ^ min (Int.toNat 8) (IntKind.bits IntKind.i64)))))],[T.v (Value.int IntKind.u8 (IntKind.wrap IntKind.u8 m.lease))],[T.v (Value.int IntKind.u8 m.task)],[T.v (Value.int IntKind.u8 (IntKind.wrap IntKind.u8 (↑(List.length (List.map ak m.inputs)):Int)))]]):ByteArray} ++m.text)]<|J ⟨I,⟨I,(by repeat (first|exact jB|refine hM ?_)),rfl⟩,I,I,⟨rfl,(by simp only[bsz,ByteArray.size_append,mP];omega)⟩,I,I⟩ ?_
   refine W.sq<|g 0 1 []<|J UD<|W.blk<|W.lp (fun s (n:Nat)=>⟨[(1,s.s 1),(4,s.s 4),(6,.s (gv m n)),(9,s.s 9),(62,s.s 62),(63,s.s 63),(64,.i n)],[],[]⟩) (fun(n:Nat)=>n≤m.inputs.length) (fun(n:Nat)=>m.inputs.length - n) (0) [] [] ⟨rfl,⟨rfl,rfl,(congrArg (fun z=>V.t (T.v (Value.string z))) (Ir h)),Zah,rfl,rfl,rfl,I⟩,I,I⟩ OM ?_
   intro n hn
   have hc:=qF h n hn
   have hs2:(eY (gv m n) key).size = 8:=eQ _
   conv=>whnf
   refine g 0 0 []<|J UA<|W.sq<|W.cn<|J (fun h10=>?_) fun h10=>?_
   replace h10:=dt h10
   simp only[LM]at h10
   refine W.skip<|W.sq<|W.blk ?_
   obtain⟨y1,hy1⟩:=af (xs:=Message.inputs m) (n:=n) OM
   have hm1:=h8 y1 (List.mem_of_getElem? hy1)
   refine g 65 68 [.x (ak y1)]<|J Zb4<|rg [.s (gv m n++y1)]<|J ⟨I,I,⟨rfl,OM⟩,I,I⟩<|rg [.i ((n:Int) +1)]<|J Zdm ?_
   rotate_left
   replace h10:=df h10
   simp only[LM]at h10
   refine W.exit<|g 62 77 [.call (V.s (eY (gv m n) key)) [[],[]],.s (eY (gv m n) key++gv m n)]<|J ⟨I,I,⟨UB,I,UT,UA,nD _ _ OM OM⟩,I,⟨rfl,OM⟩,I,I⟩<|RT ?_
   rotate_left
   ·refine⟨n+1,[],[],⟨rfl,⟨rfl,rfl,(congrArg (fun z=>V.t (T.v (Value.string z))) (OA AS)),Zah,rfl,rfl,rfl,I⟩,I,I⟩,?_,?_⟩
    rotate_left
    (dsimp only;omega)
    dsimp only
    omega
   ·exact vs (by rw[show n = m.inputs.length by omega,vf];exact(if_pos ⟨h,hk⟩).symm)
  ·refine fN ?_
   conv=>whnf
   refine g 0 0 []<|J ⟨UH,I,I⟩<|W.sq<|g 11 16 [.call VT [[]],BF,BF,BF,BF]<|J Zb8<|W.cn<|J (fun _=>(g 16 17 []<|J UA (RT ?_))) (noF tO)
   exact vs (if_neg (fun h=>hk h.2)).symm
 ·rw[show decide (bO m) = false from decide_eq_false h]at c1
  refine fN ?_
  conv=>whnf
  refine g 0 0 []<|J ⟨UH,I,I⟩<|W.sq<|g 11 16 [.call VF [[]],BT,BT,BT,BT]<|J ⟨I,Zb9,I,I,rfl,rfl,rfl,rfl,I⟩<|W.cn<|J (fun _=>(g 16 17 []<|J UA (RT ?_))) (noF rfl)
  exact vs (if_neg (fun x=>h x.1)).symm
end Go.K
end
section
open Go Go.Tm Go.Proofs
namespace Go.K
attribute [local irreducible] ByteArray.extract
end Go.K
end
section
open Go Go.Tm Go.Proofs
namespace Go.K
theorem K7(e:Entry):(dc e).size≤4+e.text.size:=by
 unfold dc
 split
 ·rw[ByteArray.size_append,gk];exact Nat.le_refl _
 ·exact Nat.zero_le _
end Go.K
end
section
open Go Go.Tm Go.Proofs
namespace Go.K
structure RepOk (p:Plan) (xs:List ByteArray):Prop where
 plan:kM p
 len:xs.length≤400
 size:∀ s∈xs,s.size≤64
end Go.K
end
section
open Go Go.Tm Go.Proofs
namespace Go.K
attribute [local irreducible] ByteArray.extract
end Go.K
end
section
open Go Go.Tm Go.Proofs
namespace Go.K
theorem S8{hs:List Int}{r:ByteArray}{k:Nat}{x:Int}(hk:hs[k]? = some x)(hx:0≤x∧x≤255):byt (bl hs++r) k = x:=by
 obtain⟨⟨l⟩⟩:=r
 have e:bl hs++ ⟨⟨l⟩⟩ = ⟨⟨(hs.map fun n=>UInt8.ofNat n.toNat) ++l⟩⟩:=by
  apply ByteArray.ext
  rw[ByteArray.data_append]
  apply Array.ext'
  simp[bl]
 have h1:((hs.map fun n=>UInt8.ofNat n.toNat) ++l)[k]? = some (UInt8.ofNat x.toNat):=by
  rw[List.getElem?_append_left (by rw[List.length_map];exact(List.getElem?_eq_some_iff.1 hk).1),List.getElem?_map,hk];rfl
 rw[e,uH h1]
 simp;omega
theorem sA(a r:ByteArray):(a++r).extract a.size (a++r).size = r:=by
 have e:a.extract a.size (a.size+r.size) = emp:=ByteArray.size_eq_zero_iff.1 (by rw[ByteArray.size_extract];omega)
 rw[ByteArray.size_append,ByteArray.extract_append,e,Le]
 simp
end Go.K
end
section
open Go Go.Tm Go.Proofs
namespace Go.K
attribute [local irreducible] ByteArray.extract
theorem IZ{s key:ByteArray}{m:Message}(h:ef s key = some m):bO m:=by
 unfold ef at h
 by_cases h0:s.size < 19
 ·rw[if_pos (Or.inl h0)]at h;cases h
 ·by_cases h1:er (rdM (s.extract 8 s.size)) key = s
  ·rw[if_neg (by rintro(h|h);exact h0 h;exact h h1)]at h
   cases h
   exact((lV h0).1 h1).1
  ·rw[if_pos (Or.inr h1)]at h;cases h
end Go.K
end
section
open Go Go.Tm Go.Proofs
namespace Go.K
attribute [local irreducible] ByteArray.extract
end Go.K
end
section
open Go Go.Tm Go.Proofs
namespace Go.K
theorem UY{e:Entry}(h:e.ok):rdS (dc e) = e:=by
 have hok:=h
 obtain⟨⟨h1,h2⟩,⟨h3,h4⟩,h5⟩:=h
 have hk:1≤e.kind∧e.kind≤2:=by rcases h5 with q|q <;> (have:=q.1;omega)
 have d1:e.epoch.tdiv 256 = e.epoch / 256:=Int.tdiv_eq_ediv_of_nonneg OM
 have d2:e.epoch.tmod 256 = e.epoch % 256:=Int.tmod_eq_emod_of_nonneg OM
 have hf:dc e = bl [e.kind,e.epoch / 256,e.epoch % 256,e.task] ++e.text:=by
  rw[dc,if_pos hok,d1,d2,wO,wu8 OM OM,wu8 OM OM,wu8 OM OM,wu8 OM OM]
 have hl:(bl [e.kind,e.epoch / 256,e.epoch % 256,e.task]).size = 4:=by rw[gk];rfl
 have hx:(dc e).extract 4 (dc e).size = e.text:=by rw[hf,←hl];exact sA _ _
 have b:∀ (k:Nat) (x:Int),([e.kind,e.epoch / 256,e.epoch % 256,e.task])[k]? = some x→0≤x∧x≤255→byt (dc e) k = x:=fun k x hk hx=>by rw[hf];exact S8 hk hx
 have k0:=b 0 e.kind rfl ⟨by omega,by omega⟩
 have k1:=b 1 (e.epoch / 256) rfl ⟨by omega,by omega⟩
 have k2:=b 2 (e.epoch % 256) rfl ⟨by omega,by omega⟩
 have k3:=b 3 e.task rfl ⟨by omega,by omega⟩
 unfold rdS
 rw[k0,k1,k2,k3,hx,show e.epoch / 256 * 256+e.epoch % 256 = e.epoch by omega]
theorem Oa{e:Entry}(h:e.ok):(dc e).size = 4+e.text.size:=by
 rw[dc,if_pos h,ByteArray.size_append,gk];rfl
theorem zJ{e:Entry}(h:e.ok):ed (dc e) = some e:=by
 have:=Oa h
 rw[ed,if_neg OM,UY h,if_pos rfl]
theorem KH{s:ByteArray}{e:Entry}(h:ed s = some e):dc e = s:=by
 unfold ed at h
 split at h
 ·cases h
 ·split at h
  ·cases h;assumption
  ·cases h
end Go.K
end
section
open Go Go.Tm Go.Proofs
namespace Go.K
theorem XN{p:Plan}(hck:aq p.tasks = 0):∀ t∈p.tasks,t.deps.length≤8:=fun t ht=>by
 obtain⟨k,hk⟩:=List.getElem?_of_mem ht
 exact(bZ hck hk).2.2.1
structure HandK (b:Boss) (ts:List Task) (h:Hand):Prop where
 jl:JL b.epoch b.now h.given b.workers b.results ts h.jobs
 seats:∀ s∈h.seats,0≤s.epoch∧s.epoch≤300
theorem Sp{b:Boss}{ts:List Task}(hd:∀ t∈ts,t.deps.length≤8)(he:1≤b.epoch)(h0:0≤b.given)(h1:b.given≤1000000)(hjl:b.jobs.length = ts.length)(hsl:(b.seats.length:Int) = b.workers)(hj:JL b.epoch b.now b.given b.workers b.results ts b.jobs)(hs:∀ s∈b.seats,0≤s.epoch∧s.epoch≤300):∀ n,n≤ts.length→HandK b ts (aG b ts n)
 |0,_=>⟨hj,hs⟩
 |n+1,hn=>by
  have ih:=Sp hd he h0 h1 hjl hsl hj hs n OM
  have ho:=ld hd h0 h1 n
  by_cases hc:CanHand b ts (aG b ts n) n
  ·cases hf:kC (aG b ts n).seats with
   |none=>rw[oq hf];exact ih
   |some s =>
    rw[oo hc hf]
    obtain⟨x,hx0,hx1,hx2,_⟩:=ot hf
    have e1:=ho.jobs
    have e2:=ho.seats
    obtain⟨j,hj0⟩:=af (xs:=(aG b ts n).jobs) (n:=n) OM
    refine⟨WK ih.jl hj0 ho.lo ⟨by omega,by omega⟩ hc.res hc.ready he,fun y hy=>?_⟩
    rcases List.mem_or_eq_of_mem_set hy with hy|hy
    ·exact ih.seats y hy
    ·rw[hy]
     have:lN (aG b ts n).seats s = x:=by rw[lN,hx0];rfl
     show 0≤(lN _ _).epoch∧(lN _ _).epoch≤300
     rw[this]
     exact ih.seats x (List.mem_of_getElem? hx0)
  ·rw[iE hc];exact ih
theorem XG{b:Boss}(h:¬b.up = false):b.up = true:=by cases hb:b.up;exact absurd hb h;rfl
theorem Kk{b:Boss}{p:Plan}(hv:BossOk b p):BossOk (gQ b p.tasks).boss p:=by
 by_cases h0:b.now = 1000000
 ·rw[r5 h0];exact hv
 have hnow:=hv.now
 by_cases hup:b.up = false
 ·rw[zt h0 hup]
  obtain⟨d1,d2,d3,d4,d5,d6,d7,d8⟩:=hv.down hup
  exact⟨hv.plan,hv.workers,⟨by show 0≤b.now+1;omega,by show b.now+1≤1000000;omega⟩,hv.code,(fun e=>by rw[show(Xi b).up = b.up from rfl,hup]at e;cases e),fun _=>⟨d1,d2,d3,d4,d5,d6,d7,d8⟩⟩
 have hup2:=XG hup
 obtain⟨u1,u2,u3,u4,u5,u6,⟨u7,u8⟩,⟨u9,u10⟩,u11,u12,u13,u14⟩:=hv.up hup2
 have hd:=XN hv.plan
 have hj:JL (dw b).epoch (dw b).now (dw b).given (dw b).workers (dw b).results p.tasks (dw b).jobs:=WM (GV u12)
 have hjl:(dw b).jobs.length = p.tasks.length:=by show(b.jobs.map _).length = _;rw[List.length_map];exact u4
 have hk:=Sp (b:=dw b) (ts:=p.tasks) hd u2 u9 u10 hjl u5 hj u13 p.tasks.length (Nat.le_refl _)
 have ho:=ld (b:=dw b) (ts:=p.tasks) hd u9 u10 p.tasks.length
 have e1:(endH b p.tasks).jobs.length = p.tasks.length:=by show(aG _ _ _).jobs.length = _;rw[ho.jobs];exact hjl
 have e2:((endH b p.tasks).seats.length:Int) = b.workers:=by show((aG _ _ _).seats.length:Int) = _;rw[ho.seats];exact u5
 by_cases hs:b.since+1 = 2
 ·rw[mh h0 hup hs]
  have es:cx ⟨b.workers,b.up,b.now+1,0,b.epoch,(endH b p.tasks).given,⟨b.log.safe++b.log.loose,[]⟩,b.results,(endH b p.tasks).jobs,(endH b p.tasks).seats,[]⟩ p = cx b p:=by show aw p ((b.log.safe++b.log.loose) ++ []) = aw p (b.log.safe++b.log.loose);rw[List.append_nil]
  refine⟨hv.plan,hv.workers,⟨by show 0≤b.now+1;omega,by show b.now+1≤1000000;omega⟩,by rw[es];exact hv.code,fun _=>?_,fun e=>absurd (show b.up = false from e) hup⟩
  rw[es]
  exact⟨u1,u2,u3,e1,e2,u6,⟨Int.le_refl _,by show(0:Int)≤1;omega⟩,⟨ho.lo,ho.hi⟩,Nat.zero_le _,DR hk.jl,hk.seats,fun o ho=>by cases ho⟩
 ·rw[n5 h0 hup hs]
  have es:cx ⟨b.workers,b.up,b.now+1,b.since+1,b.epoch,(endH b p.tasks).given,b.log,b.results,(endH b p.tasks).jobs,(endH b p.tasks).seats,b.owed⟩ p = cx b p:=rfl
  refine⟨hv.plan,hv.workers,⟨by show 0≤b.now+1;omega,by show b.now+1≤1000000;omega⟩,by rw[es];exact hv.code,fun _=>?_,fun e=>absurd (show b.up = false from e) hup⟩
  rw[es]
  exact⟨u1,u2,u3,e1,e2,u6,⟨by show 0≤b.since+1;omega,by show b.since+1≤1;omega⟩,⟨ho.lo,ho.hi⟩,u11,DR hk.jl,hk.seats,fun o ho=>by obtain⟨a1,a2,a3,a4⟩:=u14 o ho;exact⟨a1,a2,a3,a4⟩⟩
end Go.K
end
section
open Go Go.Tm Go.Proofs
namespace Go.K
theorem Ed(ts:List Task)(st:Option Tale)(xs:List ByteArray)(s:ByteArray):jU ts st (xs++ [s]) = (jU ts st xs).bind fun t=>dG ts t s:=by
 rw[nI];cases jU ts st xs with
 |none=>rfl
 |some t=>rfl
theorem Hu{p:Plan}{xs:List ByteArray}{e:Entry}{t:Task}(h:(aw p xs).code = 0)(hl:xs.length < 310)(hok:e.ok)(hk:¬e.kind = 1)(he:e.epoch = (aw p xs).epoch)(ht:p.tasks[e.task.toNat]? = some t)(ht2:e.task < p.tasks.length)(hr:atS (aw p xs).results e.task = emp)(hd:cU (aw p xs).results t.deps):aw p (xs++ [dc e]) = ⟨0,(aw p xs).epoch,(aw p xs).results.set e.task.toNat e.text⟩:=by
 obtain⟨hck,_,hrl,u,h1,h2⟩:=cz h
 rw[h2]at he hr hd ⊢
 dsimp only at he hr hd
 obtain⟨y,hy⟩:∃ y,u.results[e.task.toNat]? = some y:=by
  rw[h2]at hrl
  exact af (by have:=hok.2.1.1;dsimp only at hrl;omega)
 have hs:dG p.tasks u (dc e) = some ⟨u.epoch,u.results.set e.task.toNat e.text⟩:=AY (zJ hok) hk he ht2 hy (by rw[jN hy]at hr;exact hr) ht hd
 unfold aw
 rw[if_pos ⟨hck,by rw[List.length_append,List.length_singleton];omega⟩,Ed,h1]
 rw[Option.bind_some,hs]
theorem rB{p:Plan}{xs:List ByteArray}{n:Int}(h:(aw p xs).code = 0)(hl:xs.length < 310)(hn:n = (aw p xs).epoch+1)(h3:n≤300):aw p (xs++ [dc (epE n)]) = ⟨0,n,(aw p xs).results⟩:=by
 obtain⟨hck,_,hrl,u,h1,h2⟩:=cz h
 have he:=(fw h).1
 rw[h2]at hn he ⊢
 dsimp only at hn he
 have hok:(epE n).ok:=⟨⟨by show 1≤n;omega,h3⟩,⟨Int.le_refl _,by show(0:Int)≤39;omega⟩,.inl ⟨rfl,rfl,rfl⟩⟩
 have hs:dG p.tasks u (dc (epE n)) = some ⟨n,u.results⟩:=Gl (zJ hok) rfl hn
 unfold aw
 rw[if_pos ⟨hck,by rw[List.length_append,List.length_singleton];omega⟩,Ed,h1]
 rw[Option.bind_some,hs]
theorem qb{p:Plan}{xs ys:List ByteArray}(h:(aw p (xs++ys)).code = 0):(aw p xs).code = 0:=by
 obtain⟨hck,hl,_,u,h1,_⟩:=cz h
 rw[nI]at h1
 unfold aw
 rw[if_pos ⟨hck,by rw[List.length_append]at hl;omega⟩]
 cases hr:jU p.tasks (some (lm p.tasks)) xs with
 |none=>rw[hr,ib]at h1;cases h1
 |some t=>rfl
theorem qw{b:Boss}{p:Plan}(k:Int)(hv:BossOk b p):BossOk (j8 b k) p:=by
 by_cases hup:b.up = false
 ·rw[ox hup];exact hv
 rw[Aq hup]
 have hc:(aw p ((b.log.safe++b.log.loose.take (iR k b.log.loose.length)) ++ [])).code = 0:=by
  rw[List.append_nil]
  have h:=hv.code
  rw[cx,←List.take_append_drop (iR k b.log.loose.length) b.log.loose,←List.append_assoc]at h
  exact qb h
 exact⟨hv.plan,hv.workers,hv.now,hc,(fun e=>by cases e),fun _=>⟨rfl,rfl,rfl,rfl,rfl,rfl,rfl,rfl⟩⟩
theorem Kv{b:Boss}{p:Plan}(hv:BossOk b p):BossOk (cN b p) p:=by
 by_cases hr:oE b p
 ·rw[GL hr]
  obtain⟨h1,h2,h3⟩:=hr
  obtain⟨_,hc⟩:=zR hv h1
  have hw:=hv.workers
  have he:=(fw hc).1
  obtain⟨hck,_,hrl,_⟩:=cz hc
  have e:=rB (p:=p) (xs:=b.log.safe) (n:=(aw p b.log.safe).epoch+1) hc h2 rfl OM
  have es:cx (upB b.workers b.now b.log.safe p (aw p b.log.safe)) p = ⟨0,(aw p b.log.safe).epoch+1,(aw p b.log.safe).results⟩:=by
   show aw p ((b.log.safe++ [dc (epE _)]) ++ []) = _
   rw[List.append_nil,e]
  refine⟨hv.plan,hw,hv.now,by rw[es],fun _=>?_,fun e=>by cases e⟩
  rw[es]
  refine⟨rfl,by show 1≤(aw p b.log.safe).epoch+1;omega,hrl,by show(List.replicate _ _).length = _;rw[List.length_replicate],by show((List.replicate b.workers.toNat gW).length:Int) = b.workers;rw[List.length_replicate];omega,rfl,⟨Int.le_refl _,by show(0:Int)≤1;omega⟩,⟨Int.le_refl _,by show(0:Int)≤1000000;omega⟩,Nat.zero_le _,?_,?_,fun o ho=>by cases ho⟩
  ·intro i j _ hj
   have:j = fz:=by
    have:=List.mem_of_getElem? hj
    exact(List.mem_replicate.1 this).2
   subst this
   exact⟨fun _=>⟨rfl,rfl⟩,fun q=>absurd rfl q⟩
  ·intro s hs
   rw[(List.mem_replicate.1 hs).2]
   exact⟨Int.le_refl _,by show(0:Int)≤300;omega⟩
 ·rw[mV hr];exact hv
end Go.K
end
section
open Go Go.Tm Go.Proofs
namespace Go.K
noncomputable def qh(key:ByteArray)(acc:List Parcel)(m:Message):List Parcel:=if bO m∧key.size≤30∧acc.length < 2000 then acc++ [⟨m.to,er m key,er m key⟩]else acc
noncomputable def gV(xs:List Parcel)(ms:List Message)(key:ByteArray)(n:Nat):List Parcel:=(ms.take n).foldl (qh key) xs
noncomputable def sf(xs:List Parcel)(ms:List Message)(key:ByteArray):List Parcel:=gV xs ms key ms.length
theorem KL(xs:List Parcel)(ms:List Message)(key:ByteArray):gV xs ms key 0 = xs:=by unfold gV;rw[List.take_zero];rfl
theorem qi{xs:List Parcel}{ms:List Message}{key:ByteArray}{n:Nat}{m:Message}(h:ms[n]? = some m):gV xs ms key (n+1) = qh key (gV xs ms key n) m:=by
 unfold gV;rw[List.take_add_one,h];simp
theorem Qz{key:ByteArray}{acc:List Parcel}{m:Message}(h:acc.length≤1048576):(qh key acc m).length≤1048576:=by
 unfold qh;split
 ·rename_i h2;rw[List.length_append];simp;omega
 ·exact h
theorem si{xs:List Parcel}(ms:List Message)(key:ByteArray)(h:xs.length≤1048576):∀ n,(gV xs ms key n).length≤1048576
 |0=>by rw[KL];exact h
 |n+1=>by
  cases hm:ms[n]? with
  |none =>
   have:ms.take (n+1) = ms.take n:=by rw[List.take_add_one,hm];simp
   have e:gV xs ms key (n+1) = gV xs ms key n:=by unfold gV;rw[this]
   rw[e];exact si ms key h n
  |some m=>rw[qi hm];exact Qz (si ms key h n)
theorem zB(b k:ByteArray):(eY b k).size = 8:=by unfold eY D8;rw[gk,pj]
theorem Oc{m:Message}{key:ByteArray}(h:bO m)(hk:key.size≤30):¬er m key = emp:=fun e=>by
 have:=congrArg ByteArray.size e
 rw[er,if_pos ⟨h,hk⟩,ByteArray.size_append,zB]at this
 have h0:emp.size = 0:=by decide
 omega
theorem QR{m:Message}{key:ByteArray}(h:¬(bO m∧key.size≤30)):er m key = emp:=by rw[er,if_neg h]
theorem I4{xs:List Parcel}{ms:List Message}{key:ByteArray}{n:Nat}{m:Message}(h:ms[n]? = some m)(h1:bO m)(h2:key.size≤30)(h3:(gV xs ms key n).length < 2000) :
 (gV xs ms key n).map bx++ [bx ⟨m.to,er m key,er m key⟩] = (gV xs ms key (n+1)).map bx:=by
 rw[qi h,qh,if_pos ⟨h1,h2,h3⟩,List.map_append];rfl
theorem sK{xs:List Parcel}{ms:List Message}{key:ByteArray}{n:Nat}{m:Message}(h:ms[n]? = some m)(h1:¬(bO m∧key.size≤30∧(gV xs ms key n).length < 2000)) :
 (gV xs ms key n).map bx = (gV xs ms key (n+1)).map bx:=by
 rw[qi h,qh,if_neg h1]
theorem Il(xs:List Parcel)(ms:List Message)(key:ByteArray)(hx:xs.length≤1048576)(hl:ms.length≤1048576)(hm:∀ m∈ms,m.inputs.length≤1048576):F HH [.val (.t (vB xs)),.val (.t (.slc cK (ms.map aH))),.val (.s key)] (.own pkd ((sf xs ms key).map bx)) [[],[],[]]:=by
 refine HX ?_
 conv=>whnf
 refine g 0 0 []<|J UA<|g 11 13 [.call (V.own pkd (List.map bx xs)) [[]]]<|J ⟨I,⟨UA,I,US,UA,dA _ OM⟩,I,I⟩<|W.sq<|g 0 0 []<|J UC<|W.blk<|W.lp (fun s (n:Nat)=>⟨[(0,s.s 0),(1,s.s 1),(2,s.s 2),(6,s.s 6),(7,.ref ⟨12,none,0⟩),(13,s.s 13),(14,s.s 14),(15,.i n)],[(12,[.own pkd ((gV xs ms key n).map bx)])],[]⟩) (fun(n:Nat)=>n≤ms.length) (fun(n:Nat)=>ms.length - n) (0) [some 12] [] ⟨rfl,Zas,Zdn,I⟩ OM ?_
 intro n hn
 have hpl:=si ms key hx n
 by_cases hn2:n < ms.length
 ·obtain⟨m,hm1⟩:=af hn2
  have hmi:=hm m (List.mem_of_getElem? hm1)
  have cv:=cG m OM
  have cf:=pS m key OM
  by_cases hv:bO m
  ·rw[decide_eq_true hv]at cv
   by_cases hk:key.size≤30
   ·by_cases h3:(gV xs ms key n).length < 2000
    ·conv=>whnf
     refine g 0 0 []<|J UA<|W.sq<|W.cn<|J (fun _=>(W.skip (W.sq (W.blk (g 16 19 [.x (aH m)]<|J ⟨Zdg,I,I,UH,I⟩ (g 19 30 [.call VT [[]],BT,BT,BT,BT,BT,BT,BT,BT]<|J ⟨I,Zb9,I,Zdc,Zdc,Zdc,rfl,I,⟨tO,I⟩,⟨tO,I⟩,⟨tO,I⟩,tO,I⟩ (W.cn<|J (fun h1=>?_) fun h1=>?_))))))) (noF SI)
     replace h1:=dt h1
     simp only[LM]at h1
     refine g 30 34 [.call (V.s (er m key)) [[],[]]]<|J ⟨I,I,Zc4,I,I⟩<|rg []<|J ⟨I,I,I,I,I,I,⟨UC,I⟩,Zdi,I,I⟩<|rg [.i ((n:Int) +1)]<|J Zdm ?_
     rotate_left
     replace h1:=df h1
     simp only[LM]at h1
     omega
     refine⟨n+1,[some 41],[],⟨rfl,Zas,⟨⟨rfl,⟨(congrArg (V.own _) (I4 hm1 hv hk h3)),I⟩⟩,I⟩,I⟩,?_,?_⟩
     rotate_left
     (dsimp only;omega)
     dsimp only
     omega
    ·conv=>whnf
     refine g 0 0 []<|J UA<|W.sq<|W.cn<|J (fun _=>(W.skip (W.sq (W.blk (g 16 19 [.x (aH m)]<|J ⟨Zdg,I,I,UH,I⟩ (g 19 30 [.call VT [[]],BT,BT,BT,BT,BT,BT,BT,BT]<|J ⟨I,Zb9,I,Zdc,Zdc,Zdc,rfl,I,⟨tO,I⟩,⟨tO,I⟩,⟨tO,I⟩,tO,I⟩ (W.cn<|J (fun h1=>?_) fun h1=>?_))))))) (noF SI)
     replace h1:=dt h1
     simp only[LM]at h1
     omega
     replace h1:=df h1
     simp only[LM]at h1
     refine W.skip<|rg [.i ((n:Int) +1)]<|J Zdm ?_
     refine⟨n+1,[some 12],[],⟨rfl,Zas,⟨⟨rfl,⟨(congrArg (V.own _) (sK hm1 (fun q=>h3 q.2.2))),I⟩⟩,I⟩,I⟩,?_,?_⟩
     rotate_left
     (dsimp only;omega)
     dsimp only
     omega
   ·conv=>whnf
    refine g 0 0 []<|J UA<|W.sq<|W.cn<|J (fun _=>(W.skip (W.sq (W.blk (g 16 19 [.x (aH m)]<|J ⟨Zdg,I,I,UH,I⟩ (g 19 30 [.call VT [[]],BT,BT,BT,BT,BF,BF,BF,BF]<|J ⟨I,Zb9,I,Zdc,Zdc,Zdc,rfl,I,dO,dO,dO,dO,I⟩ (W.cn<|J (noT rfl) fun _=>(W.skip (rg [.i ((n:Int) +1)]<|J Zdm ?_))))))))) (noF SI)
    refine⟨n+1,[some 12],[],⟨rfl,Zas,⟨⟨rfl,⟨(congrArg (V.own _) (sK hm1 (fun q=>hk q.2.1))),I⟩⟩,I⟩,I⟩,?_,?_⟩
    rotate_left
    (dsimp only;omega)
    dsimp only
    omega
  ·rw[decide_eq_false hv]at cv
   conv=>whnf
   refine g 0 0 []<|J UA<|W.sq<|W.cn<|J (fun _=>(W.skip (W.sq (W.blk (g 16 19 [.x (aH m)]<|J ⟨Zdg,I,I,UH,I⟩ (g 19 30 [.call VF [[]],BF,BF,BF,BF,BF,BF,BF,BF]<|J ⟨I,Zb9,I,rfl,rfl,rfl,rfl,I,rfl,rfl,rfl,rfl,I⟩ (W.cn<|J (noT rfl) fun _=>(W.skip (rg [.i ((n:Int) +1)]<|J Zdm ?_))))))))) (noF SI)
   refine⟨n+1,[some 12],[],⟨rfl,Zas,⟨⟨rfl,⟨(congrArg (V.own _) (sK hm1 (fun q=>hv q.1))),I⟩⟩,I⟩,I⟩,?_,?_⟩
   rotate_left
   (dsimp only;omega)
   dsimp only
   omega
 ·conv=>whnf
  refine g 0 0 []<|J UA<|W.sq<|W.cn<|J (noT SI) fun _=>W.exit<|g 7 44 []<|J UB<|RT ?_
  rw[sf,show n = ms.length by omega]
theorem Ii(xs:List Parcel)(ms:List Message)(key:ByteArray)(hx:xs.length≤1048576)(hl:ms.length≤1048576)(hm:∀ m∈ms,m.inputs.length≤1048576):F HB [.val (.t (vB xs)),.val (.t (.slc cK (ms.map aH))),.val (.s key)] (.own pkd ((sf xs ms key).map bx)) [[],[],[]]:=by
 refine HT ?_
 conv=>whnf
 refine g 0 0 []<|J UA<|g 10 12 [.call (V.own pkd (List.map bx xs)) [[]]]<|J ⟨I,⟨UA,I,US,UA,dy _ OM⟩,I,I⟩<|W.sq<|g 0 0 []<|J UA<|W.blk<|W.lp (fun s (n:Nat)=>⟨[(0,s.s 0),(1,s.s 1),(2,s.s 2),(6,s.s 6),(7,.ref ⟨11,none,0⟩),(8,.i n)],[(11,[.own pkd ((gV xs ms key n).map bx)])],[]⟩) (fun(n:Nat)=>n≤ms.length) (fun(n:Nat)=>ms.length - n) (0) [some 11] [] ⟨rfl,Zay,Zdn,I⟩ OM ?_
 intro n hn
 have hpl:=si ms key hx n
 by_cases hn2:n < ms.length
 ·obtain⟨m,hm1⟩:=af hn2
  have hmi:=hm m (List.mem_of_getElem? hm1)
  have cf:=fO m key OM
  by_cases hv:bO m∧key.size≤30
  ·have hf:=Oc hv.1 hv.2
   by_cases h3:(gV xs ms key n).length < 2000
   ·conv=>whnf
    refine W.sq<|g 12 15 []<|J UD<|W.cn<|J (fun _=>(W.skip (W.sq (W.blk (g 15 24 [.x (aH m),.call (V.s (er m key)) [[],[]]]<|J ⟨I,I,Zdg,I,I,Zc4,I,I⟩ (g 24 30 [BT,BT,BT,BT]<|J ⟨I,I,I,Zaf,Zaf,Zaf,ag OM,I⟩ (W.cn<|J (fun h1=>?_) fun h1=>?_))))))) (noF SI)
    replace h1:=dt h1
    simp only[LM]at h1
    refine rg [.x (aH m)]<|J ⟨I,I,I,Zdg,I,I,I,I,I,⟨UC,I⟩,Zdi,I,I⟩<|rg [.i ((n:Int) +1)]<|J Zdd ?_
    rotate_left
    replace h1:=df h1
    simp only[LM]at h1
    omega
    refine⟨n+1,[some 41],[],⟨rfl,Zay,⟨⟨rfl,⟨(congrArg (V.own _) (I4 hm1 hv.1 hv.2 h3)),I⟩⟩,I⟩,I⟩,?_,?_⟩
    rotate_left
    (dsimp only;omega)
    dsimp only
    omega
   ·conv=>whnf
    refine W.sq<|g 12 15 []<|J UD<|W.cn<|J (fun _=>(W.skip (W.sq (W.blk (g 15 24 [.x (aH m),.call (V.s (er m key)) [[],[]]]<|J ⟨I,I,Zdg,I,I,Zc4,I,I⟩ (g 24 30 [BT,BT,BT,BT]<|J ⟨I,I,I,Zaf,Zaf,Zaf,ag OM,I⟩ (W.cn<|J (fun h1=>?_) fun h1=>?_))))))) (noF SI)
    replace h1:=dt h1
    simp only[LM]at h1
    omega
    replace h1:=df h1
    simp only[LM]at h1
    refine W.skip<|rg [.i ((n:Int) +1)]<|J Zdd ?_
    refine⟨n+1,[some 11],[],⟨rfl,Zay,⟨⟨rfl,⟨(congrArg (V.own _) (sK hm1 (fun q=>h3 q.2.2))),I⟩⟩,I⟩,I⟩,?_,?_⟩
    rotate_left
    (dsimp only;omega)
    dsimp only
    omega
  ·rw[QR hv]at cf
   conv=>whnf
   refine W.sq<|g 12 15 []<|J UD<|W.cn<|J (fun _=>(W.skip (W.sq (W.blk (g 15 24 [.x (aH m),.call (V.s emp) [[],[]]]<|J ⟨I,I,Zdg,I,I,Zc4,I,I⟩ (g 24 30 [BF,BF,BF,BF]<|J ⟨I,I,I,rfl,rfl,rfl,rfl,I⟩ (W.cn<|J (noT rfl) fun _=>(W.skip (rg [.i ((n:Int) +1)]<|J Zdd ?_))))))))) (noF SI)
   refine⟨n+1,[some 11],[],⟨rfl,Zay,⟨⟨rfl,⟨(congrArg (V.own _) (sK hm1 (fun q=>hv ⟨q.1,q.2.1⟩))),I⟩⟩,I⟩,I⟩,?_,?_⟩
   rotate_left
   (dsimp only;omega)
   dsimp only
   omega
 ·conv=>whnf
  refine W.sq<|g 12 15 []<|J UD<|W.cn<|J (noT SI) fun _=>W.exit<|g 7 43 []<|J UB<|RT ?_
  rw[sf,show n = ms.length by omega]
end Go.K
end
section
open Go Go.Tm Go.Proofs
namespace Go.K
def sk(p:Parcel):Prop:=p.frm.size≤9223372036854775807∧p.text.size≤9223372036854775807
abbrev bw(p:Parcel):List T:=bx p
theorem NF{n:Nat}{x:List T}(h:wfT E (n+3) xS x):∃ v:Parcel,x = bx v∧sk v:=by
 obtain⟨y1,z1,e1,⟨k,rfl,_⟩,y2,z2,e2,⟨a,rfl,ha⟩,y3,z3,e3,⟨b,rfl,hb⟩,e4⟩:=h
 subst e4;subst e3;subst e2;subst e1
 exact⟨⟨k,a,b⟩,rfl,ha,hb⟩
end Go.K
end
section
open Go Go.Tm Go.Proofs
namespace Go.K
abbrev jI:List Bool:=pkd
def eB(x:Parcel):Int:=(x.frm.size:Int) + (x.text.size:Int)
theorem ge(x:Parcel):0≤eB x:=by
 simp only[eB];omega
theorem AP:∀ xs:List Parcel,iP xs = aj eB xs
 |[]=>rfl
 |x :: xs=>by have:=AP xs;simp only[iP,aj,eB]at *;omega
theorem xw(xs:List Int)(k:Int)(hl:xs.length≤9223372036854775806)(h0:0≤k)(hk:k+xs.length≤1099511627776):F wk [.val (.t (.slc [false] ((mkL (fun k _=>k) (fun _=>1) k xs).map dK))),.val (.i k)] (.i (k+xs.length)) [[],[]]:=by
 have hx:=fb (fun k _=>k) (fun _=>1) k xs
 refine wL ?_
 conv=>whnf
 refine g 0 0 []<|J UA<|W.sq<|g 0 0 []<|J UA<|W.blk<|W.lp (fun s (n:Nat)=>⟨[(0,s.s 0),(1,.i (k+n)),(5,.i n)],[],[]⟩) (fun(n:Nat)=>n≤xs.length) (fun(n:Nat)=>xs.length - n) (0) [] [] ⟨rfl,⟨rfl,(congrArg (fun z=>V.t (T.v (Value.int _ z))) (by simp[aj])),rfl,I⟩,I,I⟩ OM ?_
 intro n hn
 have hs1:∀ x,xs[n]? = some x→(mkL (fun k _=>k) (fun _=>1) k xs)[n]? = some (k+n):=fun x hx=>by
  have:=jJ (f:=(fun k _=>k)) (c:=(fun _=>1)) (k:=k) hx
  rw[sI,List.length_take,Nat.min_eq_left hn]at this;exact this
 conv=>whnf
 refine W.sq<|g 6 9 []<|J UD<|W.cn<|J (fun h1=>?_) fun h1=>?_
 replace h1:=dt h1
 simp only[LM]at h1
 refine W.skip<|W.sq<|W.blk<|W.sq ?_
 obtain⟨y1,hy1⟩:=af (xs:=xs) (n:=n) OM
 have hk1:=hs1 _ hy1
 refine g 9 17 [.x (dK (k+ (n:Int)))]<|J ⟨I,I,Zdg,I,I,I,I⟩<|W.cn<|J (noT nO) fun _=>W.skip<|rg [.i (k+ (n:Int) +1)]<|J Zdd<|rg [.i ((n:Int) +1)]<|J Zdd ?_
 rotate_left
 replace h1:=df h1
 simp only[LM]at h1
 refine W.exit<|g 5 21 []<|J UB<|RT ?_
 exact vi OM
 refine⟨n+1,[],[],⟨rfl,⟨rfl,(congrArg (fun z=>V.t (T.v (Value.int _ z))) OM),rfl,I⟩,I,I⟩,?_,?_⟩
 rotate_left
 (dsimp only;omega)
 dsimp only
 omega
theorem ut(xs:List Task)(k:Int)(hl:xs.length≤9223372036854775806)(h0:0≤k)(hk:k+aj cE xs≤1099511627776):F tc [.val (.t (.slc dE ((mkL iL cE k xs).map ay))),.val (.i k)] (.i (k+aj cE xs)) [[],[]]:=by
 have hx:=fb iL cE k xs
 refine tT ?_
 conv=>whnf
 refine g 0 0 []<|J UA<|W.sq<|g 0 0 []<|J UA<|W.blk<|W.lp (fun s (n:Nat)=>⟨[(0,s.s 0),(1,.i (k+aj cE (xs.take n))),(5,.i n)],[],[]⟩) (fun(n:Nat)=>n≤xs.length) (fun(n:Nat)=>xs.length - n) (0) [] [] ⟨rfl,⟨rfl,(congrArg (fun z=>V.t (T.v (Value.int _ z))) (by simp[aj])),rfl,I⟩,I,I⟩ OM ?_
 intro n hn
 have hq:=aI fp (xs.take n)
 have hle:=dx fp xs (n+1)
 have hle0:=dx fp xs n
 conv=>whnf
 refine W.sq<|g 6 9 []<|J UD<|W.cn<|J (fun h1=>?_) fun h1=>?_
 replace h1:=dt h1
 simp only[LM]at h1
 refine W.skip<|W.sq<|W.blk<|W.sq ?_
 obtain⟨y1,hy1⟩:=af (xs:=xs) (n:=n) OM
 have hk1:=bB (f:=cE) hy1
 have hk2:=fp y1
 have hk3:=AW y1
 have hk4:=jJ (f:=iL) (c:=cE) (k:=k) hy1
 refine gd 9 19 [[],[],[.x (ay (iL (k+aj cE (List.take n xs)) y1))],[],[],[],[.call (V.s (bF (k+aj cE (List.take n xs)))) [[]]],[]] ?_
 conv=>whnf
 refine J ⟨I,I,Zdg,I,I,I,⟨UA,I,US,UA,bm _ OM⟩,I,I⟩<|J KR<|W.cn<|J (noT (eh rfl)) fun _=>W.skip<|g 19 22 [.i (k+aj cE (List.take n xs) +1)]<|J Zdd<|W.sq<|g 22 28 [.x (ay (iL (k+aj cE (List.take n xs)) y1))]<|J Zbo<|W.cn<|J (noT (eh rfl)) fun _=>W.skip<|g 28 31 [.i (k+aj cE (List.take n xs) +1+1)]<|J Zdd<|g 31 38 [.x (ay (iL (k+aj cE (List.take n xs)) y1)),.call (V.i (k+aj cE (List.take n xs) +1+1+ (↑(List.length y1.deps):Int))) [[],[]]]<|J ⟨I,I,Zdg,I,I,I,⟨UB,I,UT,UA,xw _ _ OM OM OM⟩,I,I⟩<|g 38 39 []<|J UB<|W.cn<|J (noT dO) fun _=>?_
 refine W.skip<|rg [.i ((n:Int) +1)]<|J Zdd ?_
 rotate_left
 replace h1:=df h1
 simp only[LM]at h1
 refine W.exit<|g 5 41 []<|J UB<|RT ?_
 rotate_left
 ·refine⟨n+1,[],[],⟨rfl,⟨rfl,(congrArg (fun z=>V.t (T.v (Value.int _ z))) (by rw[bB AS];omega)),rfl,I⟩,I,I⟩,?_,?_⟩
  rotate_left
  (dsimp only;omega)
  dsimp only
  omega
 ·rw[aE OM]
theorem xr(x:Plan)(k:Int)(hl:x.tasks.length≤9223372036854775806)(h0:0≤k)(hk:k+bb x≤1099511627776):F wh [.val (cO (zL k x)),.val (.i k)] (.i (k+bb x)) [[],[]]:=by
 have hn0:=aI fp x.tasks
 have hz:bb x = aj cE x.tasks:=rfl
 refine wJ ?_
 conv=>whnf
 refine g 0 1 []<|J Zdq<|g 5 9 [.call (V.i (k+aj cE x.tasks)) [[],[]]]<|J ⟨I,I,I,⟨UB,I,UT,UA,ut _ _ OM OM OM⟩,I,I⟩<|W.sq<|g 2 3 []<|J UB<|W.cn<|J (noT dO) fun _=>W.skip<|g 9 12 []<|J UB<|RT ?_
 rfl
def ai(x:Worker):Int:=10+ (x.inputs.length:Int)
theorem zm(x:Worker):ai x = 10+ (x.inputs.length:Int):=rfl
theorem cZ(x:Worker):0≤ai x:=by
 simp only[ai];omega
def cJ(k:Int)(x:Worker):Worker:=⟨k,k+1,decide (Int.tmod (k+1+1) 3 = 0),k+1+1+1,k+1+1+1+1,k+1+1+1+1+1,k+1+1+1+1+1+1,k+1+1+1+1+1+1+1,mkL (fun k _=>bF k) (fun _=>1) (k+1+1+1+1+1+1+1+1) x.inputs,bF (k+1+1+1+1+1+1+1+1+x.inputs.length),k+1+1+1+1+1+1+1+1+x.inputs.length+1⟩
def aP(x:Parcel):Int:=3
theorem zQ(x:Parcel):aP x = 3:=rfl
theorem dJ(x:Parcel):0≤aP x:=by
 simp only[aP];omega
def eC(k:Int)(x:Parcel):Parcel:=⟨k,bF (k+1),bF (k+1+1)⟩
theorem um(xs:List Worker)(left:Int)(hl:xs.length≤9223372036854775807)(hs:∀ y∈xs,lK y)(h:left≤1048576)(h0:0≤left):F sU [.val (.t (.slc dp (xs.map ar))),.val (.i left)] (.i (if left - (xs.length+aj aQ xs) < 0 then -1 else left - (xs.length+aj aQ xs))) [[],[]]:=by
 have hnn:=aI b9 xs
 refine tK ?_
 conv=>whnf
 refine g 0 0 []<|J UA<|g 6 10 [.i (left - (↑(List.length (List.map ar xs)):Int))]<|J ⟨I,I,I,w64 LN LN,I,I⟩<|W.sq<|g 10 11 []<|J UB<|W.cn<|J (fun h1=>?_) fun h1=>?_
 replace h1:=dt h1
 simp only[LM]at h1
 refine g 11 12 []<|J UA<|RT ?_
 exact vi OM
 replace h1:=df h1
 simp only[LM]at h1
 refine W.skip<|W.sq<|g 11 12 []<|J UA<|W.blk ?_
 refine W.lp (fun s (n:Nat)=>⟨[(0,s.s 0),(1,.i (left - xs.length - aj aQ (xs.take n))),(5,.i n)],[],[]⟩) (fun(n:Nat)=>n≤xs.length∧0≤left - xs.length - aj aQ (xs.take n)) (fun(n:Nat)=>xs.length - n) (0) [] [] ⟨rfl,⟨rfl,(congrArg (fun z=>V.t (T.v (Value.int _ z))) (by simp[aj])),rfl,I⟩,I,I⟩ ?_ ?_
 ·simp[aj];omega
 rintro n ⟨hn,hc⟩
 have hq:=aI b9 (xs.take n)
 have hle:=dx b9 xs (n+1)
 conv=>whnf
 refine W.sq<|g 12 15 []<|J UD<|W.cn<|J (fun h2=>?_) fun h2=>?_
 replace h2:=dt h2
 simp only[LM]at h2
 refine W.skip<|W.sq<|W.blk ?_
 obtain⟨y1,hy1⟩:=af (xs:=xs) (n:=n) OM
 have hm1:=hs y1 (List.mem_of_getElem? hy1)
 have hk1:=bB (f:=aQ) hy1
 have hk2:=b9 y1
 refine g 15 24 [.x (ar y1),.call (V.i (if left - (↑xs.length:Int) - aj aQ (List.take n xs) - aQ y1 < 0 then(-1)else left - (↑xs.length:Int) - aj aQ (List.take n xs) - aQ y1)) [[],[]]]<|J ⟨I,I,Zdg,I,I,⟨UB,I,⟨UK,UA,I⟩,UA,xh _ _ OM OM OM⟩,I,I⟩<|g 24 25 []<|J UB<|W.cn<|J (fun h3=>?_) fun h3=>?_
 replace h3:=dt h3
 refine g 25 26 []<|J UA<|RT ?_
 exact vi OM
 replace h3:=df h3
 refine W.skip<|rg [.i ((n:Int) +1)]<|J Zdd ?_
 rotate_left
 replace h2:=df h2
 simp only[LM]at h2
 refine W.exit<|g 5 27 []<|J UB<|RT ?_
 rotate_left
 ·refine⟨n+1,[],[],⟨rfl,⟨rfl,(congrArg (fun z=>V.t (T.v (Value.int _ z))) (by rw[bB AS];omega)),rfl,I⟩,I,I⟩,?_,?_⟩
  rotate_left
  (dsimp only;omega)
  dsimp only
  omega
 ·have e:xs.take n = xs:=aE OM
  rw[e]at hc ⊢
  exact vi (by split <;> omega)
theorem uk(xs:List Worker)(h:(xs.length:Int) +aj aQ xs≤1048576):F sR [.val (.t (.slc dp (xs.map ar)))] (.own dp (xs.map ar)) [[]]:=by
 have hnn:=aI b9 xs
 refine tH ?_
 conv=>whnf
 refine g 0 0 []<|J UA<|g 5 8 [.n (List.length (List.map ar xs))]<|J Zcs<|W.sq<|g 0 0 []<|J UA<|W.blk<|W.lp (fun s (n:Nat)=>⟨[(0,s.s 0),(2,s.s 2),(3,s.s 3),(4,.i n)],[(7,[.own dp (fill ar (ar iw) xs n)])],[]⟩) (fun(n:Nat)=>n≤xs.length) (fun(n:Nat)=>xs.length - n) (0) [some 7] [] ⟨rfl,Za6,⟨⟨rfl,⟨(congrArg (V.own _) (fg (by simp) rfl)),I⟩⟩,I⟩,I⟩ OM ?_
 intro n hn
 conv=>whnf
 refine W.sq<|g 0 0 []<|J UD<|W.cn<|J (fun h1=>?_) fun h1=>?_
 replace h1:=dt h1
 simp only[LM]at h1
 refine W.skip<|W.sq<|W.blk ?_
 obtain⟨y1,hy1⟩:=af (xs:=xs) (n:=n) OM
 have hk1:=gJ b9 (List.mem_of_getElem? hy1)
 refine rg [.x (ar y1),.call (aC y1) [[]],.n (n),.x (ar iw)]<|J ⟨I,I,I,I,Zdg,I,⟨UA,I,⟨UK,I⟩,UA,xf _ OM⟩,Zdf,⟨UK,gG OM⟩,I⟩<|rg [.i ((n:Int) +1)]<|J Zdd ?_
 rotate_left
 replace h1:=df h1
 simp only[LM]at h1
 refine W.exit<|g 3 23 []<|J UB<|RT ?_
 rotate_left
 ·refine⟨n+1,[some 7],[],⟨rfl,Za6,⟨⟨rfl,⟨(congrArg (V.own _) (gF AS)),I⟩⟩,I⟩,I⟩,?_,?_⟩
  rotate_left
  (dsimp only;omega)
  dsimp only
  omega
 ·have e:fill ar (ar iw) xs n = xs.map ar:=gH _ _ _ OM
  rw[←e]
theorem uw(xs ys:List Worker)(hl:xs.length≤9223372036854775806)(hs:∀ y∈xs,hY y):F tf [.val (.t (.slc dp (xs.map ar))),.val (.t (.slc dp (ys.map ar)))] (.b (decide (xs = ys))) [[],[]]:=by
 refine tW ?_
 conv=>whnf
 refine g 0 0 []<|J UA<|W.sq<|g 6 10 []<|J UE<|W.cn<|J (fun h1=>?_) fun h1=>?_
 replace h1:=ndt h1
 simp only[LM]at h1
 refine g 10 11 []<|J UA<|RT ?_
 rotate_left
 replace h1:=ndf h1
 simp only[LM]at h1
 refine W.skip<|W.sq<|g 10 11 []<|J UA<|W.blk ?_
 rotate_left
 ·exact vbf (fun e=>h1 (by rw[e]))
 refine W.lp (fun s (n:Nat)=>⟨[(0,s.s 0),(1,s.s 1),(5,.i n)],[],[]⟩) (fun(n:Nat)=>n≤xs.length∧xs.take n = ys.take n) (fun(n:Nat)=>xs.length - n) (0) [] [] Zbb (by simp) ?_
 rintro n ⟨hn,hc⟩
 conv=>whnf
 refine W.sq<|g 11 14 []<|J UD<|W.cn<|J (fun h2=>?_) fun h2=>?_
 replace h2:=dt h2
 simp only[LM]at h2
 refine W.skip<|W.sq<|W.blk ?_
 obtain⟨y1,hy1⟩:=af (xs:=xs) (n:=n) OM
 have hm1:=hs y1 (List.mem_of_getElem? hy1)
 obtain⟨y2,hy2⟩:=af (xs:=ys) (n:=n) OM
 refine gd 14 26 [[],[],[.x (ar y1)],[],[],[],[.x (ar y2)],[],[.call (V.b (decide (y1 = y2))) [[],[]]],[]] ?_
 conv=>whnf
 refine J ⟨I,I,Zdg,I,I,I,Zdg,I,⟨UB,I,⟨UK,UK,I⟩,UA,xy _ _ OM⟩,I,I⟩<|J KR<|W.cn<|J (fun h3=>?_) fun h3=>?_
 replace h3:=ndt h3
 refine g 26 27 []<|J UA<|RT ?_
 rotate_left
 replace h3:=ndf h3
 refine W.skip<|rg [.i ((n:Int) +1)]<|J Zdd ?_
 rotate_left
 replace h2:=df h2
 simp only[LM]at h2
 refine W.exit<|g 0 2 []<|J UA<|RT ?_
 rotate_left
 ·exact vbf (fun e=>by subst e;rw[hy1]at hy2;cases hy2;exact h3 rfl)
 ·refine⟨n+1,[],[],Zbb,?_,?_⟩
  rotate_left
  (dsimp only;omega)
  dsimp only
  exact⟨by omega,jD hc hy1 (by rw[hy2];exact congrArg some (Eq.symm h3))⟩
 ·exact vbt (by rw[aE OM,aE OM]at hc;exact hc)
theorem pM(xs:List Worker)(k:Int)(hl:xs.length≤9223372036854775806)(h0:0≤k)(hk:k+aj ai xs≤1099511627776):F pq [.bor (.own dp (xs.map ar)),.val (.i k)] (.i (k+aj ai xs)) [[.own dp ((mkL cJ ai k xs).map ar)],[]]:=by
 refine pF ?_
 conv=>whnf
 refine g 0 0 []<|J UA<|W.sq<|g 0 0 []<|J UA<|W.blk<|W.lp (fun s (n:Nat)=>⟨[(0,s.s 0),(1,.i (k+aj ai (xs.take n))),(4,s.s 4),(5,.i n)],[(93,[.own dp ((mkN cJ ai k xs n).map ar)])],[]⟩) (fun(n:Nat)=>n≤xs.length) (fun(n:Nat)=>xs.length - n) (0) [some 93] [] ⟨rfl,⟨rfl,(congrArg (fun z=>V.t (T.v (Value.int _ z))) (by simp[aj])),rfl,rfl,I⟩,Zdn,I⟩ OM ?_
 intro n hn
 have hx:=kT cJ ai k xs n
 have hq:=aI cZ (xs.take n)
 have hle:=dx cZ xs (n+1)
 have hle0:=dx cZ xs n
 conv=>whnf
 refine W.sq<|g 6 9 []<|J UD<|W.cn<|J (fun h1=>?_) fun h1=>?_
 replace h1:=dt h1
 simp only[LM]at h1
 refine W.skip<|W.sq<|W.blk ?_
 obtain⟨y1,hy1⟩:=af (xs:=xs) (n:=n) OM
 have hk1:=bB (f:=ai) hy1
 have hk2:=cZ y1
 have hk3:=zm y1
 refine g 9 17 [.n (n),.x (ar y1)]<|J ⟨I,I,I,Zdf,I,⟨UA,iA AS⟩,I⟩<|g 17 19 [.i (k+aj ai (List.take n xs) +1)]<|J Zdd<|g 19 24 [.n (n),.x (aK (ar y1) (0+0) [T.v (Value.int IntKind.i64 (k+aj ai (List.take n xs)))])]<|J ⟨I,I,I,Zdf,I,⟨UA,bR LN⟩,I⟩ ?_
 rw[List.set_set]
 refine g 24 26 [.i (k+aj ai (List.take n xs) +1+1)]<|J Zdd<|g 26 33 [.i (Int.tmod (k+aj ai (List.take n xs) +1+1) 3),.n (n),.x (aK (aK (ar y1) (0+0) [T.v (Value.int IntKind.i64 (k+aj ai (List.take n xs)))]) (0+1) [T.v (Value.int IntKind.i64 (k+aj ai (List.take n xs) +1))])]<|J ⟨I,I,I,Zdp,I,Zdf,I,⟨UA,bR LN⟩,I⟩ ?_
 rw[List.set_set]
 refine g 33 35 [.i (k+aj ai (List.take n xs) +1+1+1)]<|J Zdd<|g 35 40 [.n (n),.x (aK (aK (aK (ar y1) (0+0) [T.v (Value.int IntKind.i64 (k+aj ai (List.take n xs)))]) (0+1) [T.v (Value.int IntKind.i64 (k+aj ai (List.take n xs) +1))]) (0+2) [T.v (Value.bool (decide (Int.tmod (k+aj ai (List.take n xs) +1+1) 3 = 0)))])]<|J ⟨I,I,I,Zdf,I,⟨UA,bR LN⟩,I⟩ ?_
 rw[List.set_set]
 refine g 40 42 [.i (k+aj ai (List.take n xs) +1+1+1+1)]<|J Zdd<|g 42 47 [.n (n),.x (aK (aK (aK (aK (ar y1) (0+0) [T.v (Value.int IntKind.i64 (k+aj ai (List.take n xs)))]) (0+1) [T.v (Value.int IntKind.i64 (k+aj ai (List.take n xs) +1))]) (0+2) [T.v (Value.bool (decide (Int.tmod (k+aj ai (List.take n xs) +1+1) 3 = 0)))]) (0+3) [T.v (Value.int IntKind.i64 (k+aj ai (List.take n xs) +1+1+1))])]<|J ⟨I,I,I,Zdf,I,⟨UA,bR LN⟩,I⟩ ?_
 rw[List.set_set]
 refine g 47 49 [.i (k+aj ai (List.take n xs) +1+1+1+1+1)]<|J Zdd<|g 49 54 [.n (n),.x (aK (aK (aK (aK (aK (ar y1) (0+0) [T.v (Value.int IntKind.i64 (k+aj ai (List.take n xs)))]) (0+1) [T.v (Value.int IntKind.i64 (k+aj ai (List.take n xs) +1))]) (0+2) [T.v (Value.bool (decide (Int.tmod (k+aj ai (List.take n xs) +1+1) 3 = 0)))]) (0+3) [T.v (Value.int IntKind.i64 (k+aj ai (List.take n xs) +1+1+1))]) (0+4) [T.v (Value.int IntKind.i64 (k+aj ai (List.take n xs) +1+1+1+1))])]<|J ⟨I,I,I,Zdf,I,⟨UA,bR LN⟩,I⟩ ?_
 rw[List.set_set]
 refine g 54 56 [.i (k+aj ai (List.take n xs) +1+1+1+1+1+1)]<|J Zdd<|g 56 61 [.n (n),.x (aK (aK (aK (aK (aK (aK (ar y1) (0+0) [T.v (Value.int IntKind.i64 (k+aj ai (List.take n xs)))]) (0+1) [T.v (Value.int IntKind.i64 (k+aj ai (List.take n xs) +1))]) (0+2) [T.v (Value.bool (decide (Int.tmod (k+aj ai (List.take n xs) +1+1) 3 = 0)))]) (0+3) [T.v (Value.int IntKind.i64 (k+aj ai (List.take n xs) +1+1+1))]) (0+4) [T.v (Value.int IntKind.i64 (k+aj ai (List.take n xs) +1+1+1+1))]) (0+5) [T.v (Value.int IntKind.i64 (k+aj ai (List.take n xs) +1+1+1+1+1))])]<|J ⟨I,I,I,Zdf,I,⟨UA,bR LN⟩,I⟩ ?_
 rw[List.set_set]
 refine g 61 63 [.i (k+aj ai (List.take n xs) +1+1+1+1+1+1+1)]<|J Zdd<|g 63 68 [.n (n),.x (aK (aK (aK (aK (aK (aK (aK (ar y1) (0+0) [T.v (Value.int IntKind.i64 (k+aj ai (List.take n xs)))]) (0+1) [T.v (Value.int IntKind.i64 (k+aj ai (List.take n xs) +1))]) (0+2) [T.v (Value.bool (decide (Int.tmod (k+aj ai (List.take n xs) +1+1) 3 = 0)))]) (0+3) [T.v (Value.int IntKind.i64 (k+aj ai (List.take n xs) +1+1+1))]) (0+4) [T.v (Value.int IntKind.i64 (k+aj ai (List.take n xs) +1+1+1+1))]) (0+5) [T.v (Value.int IntKind.i64 (k+aj ai (List.take n xs) +1+1+1+1+1))]) (0+6) [T.v (Value.int IntKind.i64 (k+aj ai (List.take n xs) +1+1+1+1+1+1))])]<|J ⟨I,I,I,Zdf,I,⟨UA,bR LN⟩,I⟩ ?_
 rw[List.set_set]
 refine g 68 70 [.i (k+aj ai (List.take n xs) +1+1+1+1+1+1+1+1)]<|J Zdd<|g 70 77 [.n (n),.x (aK (aK (aK (aK (aK (aK (aK (aK (ar y1) (0+0) [T.v (Value.int IntKind.i64 (k+aj ai (List.take n xs)))]) (0+1) [T.v (Value.int IntKind.i64 (k+aj ai (List.take n xs) +1))]) (0+2) [T.v (Value.bool (decide (Int.tmod (k+aj ai (List.take n xs) +1+1) 3 = 0)))]) (0+3) [T.v (Value.int IntKind.i64 (k+aj ai (List.take n xs) +1+1+1))]) (0+4) [T.v (Value.int IntKind.i64 (k+aj ai (List.take n xs) +1+1+1+1))]) (0+5) [T.v (Value.int IntKind.i64 (k+aj ai (List.take n xs) +1+1+1+1+1))]) (0+6) [T.v (Value.int IntKind.i64 (k+aj ai (List.take n xs) +1+1+1+1+1+1))]) (0+7) [T.v (Value.int IntKind.i64 (k+aj ai (List.take n xs) +1+1+1+1+1+1+1))]),.x (aK (aK (aK (aK (aK (aK (aK (aK (ar y1) (0+0) [T.v (Value.int IntKind.i64 (k+aj ai (List.take n xs)))]) (0+1) [T.v (Value.int IntKind.i64 (k+aj ai (List.take n xs) +1))]) (0+2) [T.v (Value.bool (decide (Int.tmod (k+aj ai (List.take n xs) +1+1) 3 = 0)))]) (0+3) [T.v (Value.int IntKind.i64 (k+aj ai (List.take n xs) +1+1+1))]) (0+4) [T.v (Value.int IntKind.i64 (k+aj ai (List.take n xs) +1+1+1+1))]) (0+5) [T.v (Value.int IntKind.i64 (k+aj ai (List.take n xs) +1+1+1+1+1))]) (0+6) [T.v (Value.int IntKind.i64 (k+aj ai (List.take n xs) +1+1+1+1+1+1))]) (0+7) [T.v (Value.int IntKind.i64 (k+aj ai (List.take n xs) +1+1+1+1+1+1+1))]),.call (V.i (k+aj ai (List.take n xs) +1+1+1+1+1+1+1+1+ (↑(List.length y1.inputs):Int))) ([[V.own [false] (List.map ak (mkL (fun k x=>bF k) (fun x=>1) (k+aj ai (List.take n xs) +1+1+1+1+1+1+1+1) y1.inputs))],[]]),.x ([T.v (Value.int IntKind.i64 (k+aj ai (List.take n xs))),T.v (Value.int IntKind.i64 (k+aj ai (List.take n xs) +1)),T.v (Value.bool (decide (Int.tmod (k+aj ai (List.take n xs) +1+1) 3 = 0))),T.v (Value.int IntKind.i64 (k+aj ai (List.take n xs) +1+1+1)),T.v (Value.int IntKind.i64 (k+aj ai (List.take n xs) +1+1+1+1)),T.v (Value.int IntKind.i64 (k+aj ai (List.take n xs) +1+1+1+1+1)),T.v (Value.int IntKind.i64 (k+aj ai (List.take n xs) +1+1+1+1+1+1)),T.v (Value.int IntKind.i64 (k+aj ai (List.take n xs) +1+1+1+1+1+1+1)),T.hole,T.v (Value.string y1.text),T.v (Value.int IntKind.i64 y1.since)])]<|J ⟨I,I,Zdf,I,bR LN,I,⟨⟨⟨bR LN,I⟩,I,I⟩,I,UV,⟨⟨bR LN,I⟩,I⟩,ew _ _ OM OM OM⟩,I,I⟩ ?_
 rw[List.set_set]
 rw[List.set_set]
 refine g 77 83 [.call (V.s (bF (k+aj ai (List.take n xs) +1+1+1+1+1+1+1+1+ (↑(List.length y1.inputs):Int)))) [[]],.n (n),.x (List.set [T.v (Value.int IntKind.i64 (k+aj ai (List.take n xs))),T.v (Value.int IntKind.i64 (k+aj ai (List.take n xs) +1)),T.v (Value.bool (decide (Int.tmod (k+aj ai (List.take n xs) +1+1) 3 = 0))),T.v (Value.int IntKind.i64 (k+aj ai (List.take n xs) +1+1+1)),T.v (Value.int IntKind.i64 (k+aj ai (List.take n xs) +1+1+1+1)),T.v (Value.int IntKind.i64 (k+aj ai (List.take n xs) +1+1+1+1+1)),T.v (Value.int IntKind.i64 (k+aj ai (List.take n xs) +1+1+1+1+1+1)),T.v (Value.int IntKind.i64 (k+aj ai (List.take n xs) +1+1+1+1+1+1+1)),T.hole,T.v (Value.string y1.text),T.v (Value.int IntKind.i64 y1.since)] (0+8) (T.slc [false] (List.map ak (mkL (fun k x=>bF k) (fun x=>1) (k+aj ai (List.take n xs) +1+1+1+1+1+1+1+1) y1.inputs))))]<|J ⟨I,I,I,⟨UA,I,US,UA,bm _ OM⟩,Zdf,I,⟨UA,bR LN⟩,I⟩ ?_
 rw[List.set_set]
 refine g 83 85 [.i (k+aj ai (List.take n xs) +1+1+1+1+1+1+1+1+ (↑(List.length y1.inputs):Int) +1)]<|J Zdd<|g 85 90 [.n (n),.x (aK (List.set [T.v (Value.int IntKind.i64 (k+aj ai (List.take n xs))),T.v (Value.int IntKind.i64 (k+aj ai (List.take n xs) +1)),T.v (Value.bool (decide (Int.tmod (k+aj ai (List.take n xs) +1+1) 3 = 0))),T.v (Value.int IntKind.i64 (k+aj ai (List.take n xs) +1+1+1)),T.v (Value.int IntKind.i64 (k+aj ai (List.take n xs) +1+1+1+1)),T.v (Value.int IntKind.i64 (k+aj ai (List.take n xs) +1+1+1+1+1)),T.v (Value.int IntKind.i64 (k+aj ai (List.take n xs) +1+1+1+1+1+1)),T.v (Value.int IntKind.i64 (k+aj ai (List.take n xs) +1+1+1+1+1+1+1)),T.hole,T.v (Value.string y1.text),T.v (Value.int IntKind.i64 y1.since)] (0+8) (T.slc [false] (List.map ak (mkL (fun k x=>bF k) (fun x=>1) (k+aj ai (List.take n xs) +1+1+1+1+1+1+1+1) y1.inputs)))) (0+9) [T.v (Value.string (bF (k+aj ai (List.take n xs) +1+1+1+1+1+1+1+1+ (↑(List.length y1.inputs):Int))))])]<|J ⟨I,I,I,Zdf,I,⟨UA,bR LN⟩,I⟩ ?_
 rw[List.set_set]
 refine rg [.i (k+aj ai (List.take n xs) +1+1+1+1+1+1+1+1+ (↑(List.length y1.inputs):Int) +1+1)]<|J Zdd<|rg [.i ((n:Int) +1)]<|J Zdd ?_
 rotate_left
 replace h1:=df h1
 simp only[LM]at h1
 refine W.exit<|g 5 93 []<|J UB<|W.ret<|EndsW.rt<|J UB<|J ?_ ?_
 rotate_left
 rotate_left
 ·refine⟨n+1,[some 93],[],⟨rfl,⟨rfl,(congrArg (fun z=>V.t (T.v (Value.int _ z))) (by rw[bB AS];omega)),rfl,rfl,I⟩,⟨⟨rfl,⟨(congrArg (V.own _) (iz (f:=cJ) (c:=ai) AS)),I⟩⟩,I⟩,I⟩,?_,?_⟩
  rotate_left
  (dsimp only;omega)
  dsimp only
  omega
 ·rw[aE OM]
 ·rw[kU cJ ai k xs (n:=n) OM]
theorem yR(xs:List Parcel)(k:Int)(hl:xs.length≤9223372036854775806)(h0:0≤k)(hk:k+aj aP xs≤1099511627776):F iZ [.bor (.own jI (xs.map bw)),.val (.i k)] (.i (k+aj aP xs)) [[.own jI ((mkL eC aP k xs).map bw)],[]]:=by
 refine jb ?_
 conv=>whnf
 refine g 0 0 []<|J UA<|W.sq<|g 0 0 []<|J UA<|W.blk<|W.lp (fun s (n:Nat)=>⟨[(0,s.s 0),(1,.i (k+aj aP (xs.take n))),(4,s.s 4),(5,.i n)],[(36,[.own jI ((mkN eC aP k xs n).map bw)])],[]⟩) (fun(n:Nat)=>n≤xs.length) (fun(n:Nat)=>xs.length - n) (0) [some 36] [] ⟨rfl,⟨rfl,(congrArg (fun z=>V.t (T.v (Value.int _ z))) (by simp[aj])),rfl,rfl,I⟩,Zdn,I⟩ OM ?_
 intro n hn
 have hx:=kT eC aP k xs n
 have hq:=aI dJ (xs.take n)
 have hle:=dx dJ xs (n+1)
 have hle0:=dx dJ xs n
 conv=>whnf
 refine W.sq<|g 6 9 []<|J UD<|W.cn<|J (fun h1=>?_) fun h1=>?_
 replace h1:=dt h1
 simp only[LM]at h1
 refine W.skip<|W.sq<|W.blk ?_
 obtain⟨y1,hy1⟩:=af (xs:=xs) (n:=n) OM
 have hk1:=bB (f:=aP) hy1
 have hk2:=dJ y1
 have hk3:=zQ y1
 refine g 9 17 [.n (n),.x (bw y1)]<|J ⟨I,I,I,Zdf,I,⟨UA,iA AS⟩,I⟩<|g 17 19 [.i (k+aj aP (List.take n xs) +1)]<|J Zdd<|g 19 25 [.call (V.s (bF (k+aj aP (List.take n xs) +1))) [[]],.n (n),.x (aK (bw y1) (0+0) [T.v (Value.int IntKind.i64 (k+aj aP (List.take n xs)))])]<|J ⟨I,I,I,⟨UA,I,US,UA,bm _ OM⟩,Zdf,I,⟨UA,bR LN⟩,I⟩ ?_
 rw[List.set_set]
 refine g 25 27 [.i (k+aj aP (List.take n xs) +1+1)]<|J Zdd<|g 27 33 [.call (V.s (bF (k+aj aP (List.take n xs) +1+1))) [[]],.n (n),.x (aK (aK (bw y1) (0+0) [T.v (Value.int IntKind.i64 (k+aj aP (List.take n xs)))]) (0+1) [T.v (Value.string (bF (k+aj aP (List.take n xs) +1)))])]<|J ⟨I,I,I,⟨UA,I,US,UA,bm _ OM⟩,Zdf,I,⟨UA,bR LN⟩,I⟩ ?_
 rw[List.set_set]
 refine rg [.i (k+aj aP (List.take n xs) +1+1+1)]<|J Zdd<|rg [.i ((n:Int) +1)]<|J Zdd ?_
 rotate_left
 replace h1:=df h1
 simp only[LM]at h1
 refine W.exit<|g 5 36 []<|J UB<|W.ret<|EndsW.rt<|J UB<|J ?_ ?_
 rotate_left
 rotate_left
 ·refine⟨n+1,[some 36],[],⟨rfl,⟨rfl,(congrArg (fun z=>V.t (T.v (Value.int _ z))) (by rw[bB AS];omega)),rfl,rfl,I⟩,⟨⟨rfl,⟨(congrArg (V.own _) (iz (f:=eC) (c:=aP) AS)),I⟩⟩,I⟩,I⟩,?_,?_⟩
  rotate_left
  (dsimp only;omega)
  dsimp only
  omega
 ·rw[aE OM]
 ·rw[kU eC aP k xs (n:=n) OM]
theorem pN(xs:List Worker)(k:Int)(hl:xs.length≤9223372036854775806)(h0:0≤k)(hk:k+aj ai xs≤1099511627776):F pt [.val (.t (.slc dp ((mkL cJ ai k xs).map ar))),.val (.i k)] (.i (k+aj ai xs)) [[],[]]:=by
 have hx:=fb cJ ai k xs
 refine pH ?_
 conv=>whnf
 refine g 0 0 []<|J UA<|W.sq<|g 0 0 []<|J UA<|W.blk<|W.lp (fun s (n:Nat)=>⟨[(0,s.s 0),(1,.i (k+aj ai (xs.take n))),(5,.i n)],[],[]⟩) (fun(n:Nat)=>n≤xs.length) (fun(n:Nat)=>xs.length - n) (0) [] [] ⟨rfl,⟨rfl,(congrArg (fun z=>V.t (T.v (Value.int _ z))) (by simp[aj])),rfl,I⟩,I,I⟩ OM ?_
 intro n hn
 have hq:=aI cZ (xs.take n)
 have hle:=dx cZ xs (n+1)
 have hle0:=dx cZ xs n
 conv=>whnf
 refine W.sq<|g 6 9 []<|J UD<|W.cn<|J (fun h1=>?_) fun h1=>?_
 replace h1:=dt h1
 simp only[LM]at h1
 refine W.skip<|W.sq<|W.blk<|W.sq ?_
 obtain⟨y1,hy1⟩:=af (xs:=xs) (n:=n) OM
 have hk1:=bB (f:=ai) hy1
 have hk2:=cZ y1
 have hk3:=zm y1
 have hk4:=jJ (f:=cJ) (c:=ai) (k:=k) hy1
 refine g 9 18 [.x (ar (cJ (k+aj ai (List.take n xs)) y1))]<|J Zbo<|W.cn<|J (noT (eh rfl)) fun _=>W.skip<|g 18 21 [.i (k+aj ai (List.take n xs) +1)]<|J Zdd<|W.sq<|g 21 27 [.x (ar (cJ (k+aj ai (List.take n xs)) y1))]<|J Zbo<|W.cn<|J (noT (eh rfl)) fun _=>W.skip<|g 27 30 [.i (k+aj ai (List.take n xs) +1+1)]<|J Zdd<|W.sq<|g 30 38 [.x (ar (cJ (k+aj ai (List.take n xs)) y1)),.i (Int.tmod (k+aj ai (List.take n xs) +1+1) 3)]<|J ⟨I,I,Zdg,I,I,I,Zdp,I,I,I⟩<|W.cn<|J (noT (eh rfl)) fun _=>?_
 refine W.skip<|g 38 41 [.i (k+aj ai (List.take n xs) +1+1+1)]<|J Zdd<|W.sq<|g 41 47 [.x (ar (cJ (k+aj ai (List.take n xs)) y1))]<|J Zbo<|W.cn<|J (noT (eh rfl)) fun _=>W.skip<|g 47 50 [.i (k+aj ai (List.take n xs) +1+1+1+1)]<|J Zdd<|W.sq<|g 50 56 [.x (ar (cJ (k+aj ai (List.take n xs)) y1))]<|J Zbo<|W.cn<|J (noT (eh rfl)) fun _=>W.skip<|g 56 59 [.i (k+aj ai (List.take n xs) +1+1+1+1+1)]<|J Zdd ?_
 refine W.sq<|g 59 65 [.x (ar (cJ (k+aj ai (List.take n xs)) y1))]<|J Zbo<|W.cn<|J (noT (eh rfl)) fun _=>W.skip<|g 65 68 [.i (k+aj ai (List.take n xs) +1+1+1+1+1+1)]<|J Zdd<|W.sq<|g 68 74 [.x (ar (cJ (k+aj ai (List.take n xs)) y1))]<|J Zbo<|W.cn<|J (noT (eh rfl)) fun _=>W.skip<|g 74 77 [.i (k+aj ai (List.take n xs) +1+1+1+1+1+1+1)]<|J Zdd<|W.sq<|g 77 83 [.x (ar (cJ (k+aj ai (List.take n xs)) y1))]<|J Zbo ?_
 refine W.cn<|J (noT (eh rfl)) fun _=>W.skip<|g 83 86 [.i (k+aj ai (List.take n xs) +1+1+1+1+1+1+1+1)]<|J Zdd<|g 86 93 [.x (ar (cJ (k+aj ai (List.take n xs)) y1)),.call (V.i (k+aj ai (List.take n xs) +1+1+1+1+1+1+1+1+ (↑(List.length y1.inputs):Int))) [[],[]]]<|J ⟨I,I,Zdg,I,I,I,⟨UB,I,UT,UA,ey _ _ OM OM OM⟩,I,I⟩<|W.sq<|g 93 94 []<|J UB<|W.cn<|J (noT dO) fun _=>W.skip<|W.sq<|gd 94 102 [[],[],[.x (ar (cJ (k+aj ai (List.take n xs)) y1))],[],[],[],[.call (V.s (bF (k+aj ai (List.take n xs) +1+1+1+1+1+1+1+1+ (↑(List.length y1.inputs):Int)))) [[]]],[]] ?_
 conv=>whnf
 refine J ⟨I,I,Zdg,I,I,I,⟨UA,I,US,UA,bm _ OM⟩,I,I⟩<|J KR<|W.cn<|J (noT (eh rfl)) fun _=>W.skip<|g 102 105 [.i (k+aj ai (List.take n xs) +1+1+1+1+1+1+1+1+ (↑(List.length y1.inputs):Int) +1)]<|J Zdd<|W.sq<|g 105 111 [.x (ar (cJ (k+aj ai (List.take n xs)) y1))]<|J Zbo<|W.cn<|J (noT (eh rfl)) fun _=>W.skip<|rg [.i (k+aj ai (List.take n xs) +1+1+1+1+1+1+1+1+ (↑(List.length y1.inputs):Int) +1+1)]<|J Zdd<|rg [.i ((n:Int) +1)]<|J Zdd ?_
 rotate_left
 replace h1:=df h1
 simp only[LM]at h1
 refine W.exit<|g 5 115 []<|J UB<|RT ?_
 rotate_left
 ·refine⟨n+1,[],[],⟨rfl,⟨rfl,(congrArg (fun z=>V.t (T.v (Value.int _ z))) (by rw[bB AS];omega)),rfl,I⟩,I,I⟩,?_,?_⟩
  rotate_left
  (dsimp only;omega)
  dsimp only
  omega
 ·rw[aE OM]
theorem yS(xs:List Parcel)(k:Int)(hl:xs.length≤9223372036854775806)(h0:0≤k)(hk:k+aj aP xs≤1099511627776):F i7 [.val (.t (.slc jI ((mkL eC aP k xs).map bw))),.val (.i k)] (.i (k+aj aP xs)) [[],[]]:=by
 have hx:=fb eC aP k xs
 refine jc ?_
 conv=>whnf
 refine g 0 0 []<|J UA<|W.sq<|g 0 0 []<|J UA<|W.blk<|W.lp (fun s (n:Nat)=>⟨[(0,s.s 0),(1,.i (k+aj aP (xs.take n))),(5,.i n)],[],[]⟩) (fun(n:Nat)=>n≤xs.length) (fun(n:Nat)=>xs.length - n) (0) [] [] ⟨rfl,⟨rfl,(congrArg (fun z=>V.t (T.v (Value.int _ z))) (by simp[aj])),rfl,I⟩,I,I⟩ OM ?_
 intro n hn
 have hq:=aI dJ (xs.take n)
 have hle:=dx dJ xs (n+1)
 have hle0:=dx dJ xs n
 conv=>whnf
 refine W.sq<|g 6 9 []<|J UD<|W.cn<|J (fun h1=>?_) fun h1=>?_
 replace h1:=dt h1
 simp only[LM]at h1
 refine W.skip<|W.sq<|W.blk<|W.sq ?_
 obtain⟨y1,hy1⟩:=af (xs:=xs) (n:=n) OM
 have hk1:=bB (f:=aP) hy1
 have hk2:=dJ y1
 have hk3:=zQ y1
 have hk4:=jJ (f:=eC) (c:=aP) (k:=k) hy1
 refine g 9 18 [.x (bw (eC (k+aj aP (List.take n xs)) y1))]<|J Zbo<|W.cn<|J (noT (eh rfl)) fun _=>W.skip<|g 18 21 [.i (k+aj aP (List.take n xs) +1)]<|J Zdd<|W.sq<|gd 21 28 [[],[],[.x (bw (eC (k+aj aP (List.take n xs)) y1))],[],[],[],[.call (V.s (bF (k+aj aP (List.take n xs) +1))) [[]]],[]] ?_
 conv=>whnf
 refine J ⟨I,I,Zdg,I,I,I,⟨UA,I,US,UA,bm _ OM⟩,I,I⟩<|J KR<|W.cn<|J (noT (eh rfl)) fun _=>W.skip<|g 28 31 [.i (k+aj aP (List.take n xs) +1+1)]<|J Zdd<|W.sq<|gd 31 38 [[],[],[.x (bw (eC (k+aj aP (List.take n xs)) y1))],[],[],[],[.call (V.s (bF (k+aj aP (List.take n xs) +1+1))) [[]]],[]] ?_
 conv=>whnf
 refine J ⟨I,I,Zdg,I,I,I,⟨UA,I,US,UA,bm _ OM⟩,I,I⟩<|J KR<|W.cn<|J (noT (eh rfl)) fun _=>W.skip<|rg [.i (k+aj aP (List.take n xs) +1+1+1)]<|J Zdd<|rg [.i ((n:Int) +1)]<|J Zdd ?_
 rotate_left
 replace h1:=df h1
 simp only[LM]at h1
 refine W.exit<|g 5 42 []<|J UB<|RT ?_
 rotate_left
 ·refine⟨n+1,[],[],⟨rfl,⟨rfl,(congrArg (fun z=>V.t (T.v (Value.int _ z))) (by rw[bB AS];omega)),rfl,I⟩,I,I⟩,?_,?_⟩
  rotate_left
  (dsimp only;omega)
  dsimp only
  omega
 ·rw[aE OM]
end Go.K
end
section
open Go Go.Tm Go.Proofs
namespace Go.K
structure World where
 plan:Plan
 key:ByteArray
 boss:Boss
 workers:List Worker
 flight:List Parcel
 forged:ByteArray
 deriving DecidableEq
abbrev WA(x:World):List T:=[.slc dE (x.plan.tasks.map ay),.s x.key,.i x.boss.workers,.b x.boss.up,.i x.boss.now,.i x.boss.since,.i x.boss.epoch,.i x.boss.given,.slc [false] (x.boss.log.safe.map ak),.slc [false] (x.boss.log.loose.map ak),.slc [false] (x.boss.results.map ak),.slc eT (x.boss.jobs.map aV),.slc cM (x.boss.seats.map aF),.slc cP (x.boss.owed.map aR),.slc dp (x.workers.map ar),.slc jI (x.flight.map bw),.s x.forged]
abbrev gb(x:World):V:=.agg [.t (.slc dE (x.plan.tasks.map ay)),.t (.s x.key),.t (.i x.boss.workers),.t (.b x.boss.up),.t (.i x.boss.now),.t (.i x.boss.since),.t (.i x.boss.epoch),.t (.i x.boss.given),.t (.slc [false] (x.boss.log.safe.map ak)),.t (.slc [false] (x.boss.log.loose.map ak)),.t (.slc [false] (x.boss.results.map ak)),.t (.slc eT (x.boss.jobs.map aV)),.t (.slc cM (x.boss.seats.map aF)),.t (.slc cP (x.boss.owed.map aR)),.t (.slc dp (x.workers.map ar)),.t (.slc jI (x.flight.map bw)),.t (.s x.forged)]
abbrev aM(x:World):V:=.agg [.own dE (x.plan.tasks.map ay),.t (.s x.key),.t (.i x.boss.workers),.t (.b x.boss.up),.t (.i x.boss.now),.t (.i x.boss.since),.t (.i x.boss.epoch),.t (.i x.boss.given),.own [false] (x.boss.log.safe.map ak),.own [false] (x.boss.log.loose.map ak),.own [false] (x.boss.results.map ak),.own eT (x.boss.jobs.map aV),.own cM (x.boss.seats.map aF),.own cP (x.boss.owed.map aR),.own dp (x.workers.map ar),.own jI (x.flight.map bw),.t (.s x.forged)]
abbrev noWorld:World:=⟨⟨[]⟩,emp,⟨0,false,0,0,0,0,⟨[],[]⟩,[],[],[],[]⟩,[],[],emp⟩
def eO(x:World):Int:=aJ x.plan+ (x.key.size:Int) +bI x.boss+ ((x.workers.length:Int) +aj aQ x.workers) + ((x.flight.length:Int) +aj eB x.flight) + (x.forged.size:Int)
theorem Kf(x:World):0≤eO x:=by
 have hn0:=lz x.plan
 have hn1:=jz x.boss
 have hn2:=aI b9 x.workers
 have hn3:=aI ge x.flight
 simp only[eO];omega
def zl(x:World):Prop:=dl x.plan∧x.key.size≤9223372036854775807∧Ha x.boss∧x.workers.length≤9223372036854775807∧(∀ y∈x.workers,lK y)∧x.flight.length≤9223372036854775807∧(∀ y∈x.flight,sk y)∧x.forged.size≤9223372036854775807
theorem yY(x:World)(left:Int)(hw:zl x)(h:left≤1048576)(h0:0≤left):F yc [.val (gb x),.val (.i left)] (.i (if left - eO x < 0 then -1 else left - eO x)) [[],[]]:=by
 have ht:=AP x.flight
 have hn0:=lz x.plan
 have hn1:=jz x.boss
 have hn2:=aI b9 x.workers
 have hn3:=aI ge x.flight
 obtain⟨hw0,hw1,hw2,hw3,hw4,hw5,hw6,hw7⟩:=hw
 have hz:eO x = aJ x.plan+ (x.key.size:Int) +bI x.boss+ ((x.workers.length:Int) +aj aQ x.workers) + ((x.flight.length:Int) +aj eB x.flight) + (x.forged.size:Int):=rfl
 refine yy ?_
 conv=>whnf
 refine g 0 1 []<|J Zdu<|g 5 9 [.call (V.i (if left - aJ x.plan < 0 then(-1)else left - aJ x.plan)) [[],[]]]<|J ⟨I,I,I,⟨UB,I,UT,UA,Dt _ _ OM OM OM⟩,I,I⟩<|W.sq<|g 9 10 []<|J UB<|W.cn<|J (fun h1=>?_) fun h1=>?_
 replace h1:=dt h1
 refine g 10 11 []<|J UA<|RT ?_
 exact vi OM
 replace h1:=df h1
 refine W.skip<|g 10 16 [.i ((if left - aJ x.plan < 0 then(-1)else left - aJ x.plan) - (↑(ByteArray.size x.key):Int))]<|J Zc7<|W.sq<|g 16 17 []<|J UB<|W.cn<|J (fun h2=>?_) fun h2=>?_
 replace h2:=dt h2
 refine g 17 18 []<|J UA<|RT ?_
 exact vi OM
 replace h2:=df h2
 refine W.skip<|g 17 22 [.call (V.i (if(if left - aJ x.plan < 0 then(-1)else left - aJ x.plan) - (↑(ByteArray.size x.key):Int) - bI x.boss < 0 then(-1)else(if left - aJ x.plan < 0 then(-1)else left - aJ x.plan) - (↑(ByteArray.size x.key):Int) - bI x.boss)) [[],[]]]<|J ⟨I,I,I,⟨UB,I,⟨UL,UA,I⟩,UA,Dw _ _ OM OM OM⟩,I,I⟩<|W.sq<|g 22 23 []<|J UB<|W.cn<|J (fun h3=>?_) fun h3=>?_
 replace h3:=dt h3
 refine g 23 24 []<|J UA<|RT ?_
 exact vi OM
 replace h3:=df h3
 refine W.skip<|g 23 28 [.call (V.i (if(if(if left - aJ x.plan < 0 then(-1)else left - aJ x.plan) - (↑(ByteArray.size x.key):Int) - bI x.boss < 0 then(-1)else(if left - aJ x.plan < 0 then(-1)else left - aJ x.plan) - (↑(ByteArray.size x.key):Int) - bI x.boss) - ((↑(List.length x.workers):Int) +aj aQ x.workers) < 0 then(-1)else(if(if left - aJ x.plan < 0 then(-1)else left - aJ x.plan) - (↑(ByteArray.size x.key):Int) - bI x.boss < 0 then(-1)else(if left - aJ x.plan < 0 then(-1)else left - aJ x.plan) - (↑(ByteArray.size x.key):Int) - bI x.boss) - ((↑(List.length x.workers):Int) +aj aQ x.workers))) [[],[]]]<|J ⟨I,I,I,⟨UB,I,UT,UA,um _ _ OM OM OM OM⟩,I,I⟩<|W.sq<|g 28 29 []<|J UB<|W.cn<|J (fun h4=>?_) fun h4=>?_
 replace h4:=dt h4
 refine g 29 30 []<|J UA<|RT ?_
 exact vi OM
 replace h4:=df h4
 refine W.skip<|g 29 34 [.call (V.i (if(if(if(if left - aJ x.plan < 0 then(-1)else left - aJ x.plan) - (↑(ByteArray.size x.key):Int) - bI x.boss < 0 then(-1)else(if left - aJ x.plan < 0 then(-1)else left - aJ x.plan) - (↑(ByteArray.size x.key):Int) - bI x.boss) - ((↑(List.length x.workers):Int) +aj aQ x.workers) < 0 then(-1)else(if(if left - aJ x.plan < 0 then(-1)else left - aJ x.plan) - (↑(ByteArray.size x.key):Int) - bI x.boss < 0 then(-1)else(if left - aJ x.plan < 0 then(-1)else left - aJ x.plan) - (↑(ByteArray.size x.key):Int) - bI x.boss) - ((↑(List.length x.workers):Int) +aj aQ x.workers)) - (↑(List.length x.flight):Int) - iP x.flight < 0 then(-1)else(if(if(if left - aJ x.plan < 0 then(-1)else left - aJ x.plan) - (↑(ByteArray.size x.key):Int) - bI x.boss < 0 then(-1)else(if left - aJ x.plan < 0 then(-1)else left - aJ x.plan) - (↑(ByteArray.size x.key):Int) - bI x.boss) - ((↑(List.length x.workers):Int) +aj aQ x.workers) < 0 then(-1)else(if(if left - aJ x.plan < 0 then(-1)else left - aJ x.plan) - (↑(ByteArray.size x.key):Int) - bI x.boss < 0 then(-1)else(if left - aJ x.plan < 0 then(-1)else left - aJ x.plan) - (↑(ByteArray.size x.key):Int) - bI x.boss) - ((↑(List.length x.workers):Int) +aj aQ x.workers)) - (↑(List.length x.flight):Int) - iP x.flight)) [[],[]]]<|J ⟨I,I,I,⟨UB,I,UT,UA,lf _ _ (by first|omega|assumption) (by first|omega|assumption) (by first|omega|assumption) (by first|omega|assumption)⟩,I,I⟩<|W.sq<|g 34 35 []<|J UB<|W.cn<|J (fun h5=>?_) fun h5=>?_
 replace h5:=dt h5
 refine g 35 36 []<|J UA<|RT ?_
 exact vi OM
 replace h5:=df h5
 refine W.skip<|g 35 41 [.i ((if(if(if(if left - aJ x.plan < 0 then(-1)else left - aJ x.plan) - (↑(ByteArray.size x.key):Int) - bI x.boss < 0 then(-1)else(if left - aJ x.plan < 0 then(-1)else left - aJ x.plan) - (↑(ByteArray.size x.key):Int) - bI x.boss) - ((↑(List.length x.workers):Int) +aj aQ x.workers) < 0 then(-1)else(if(if left - aJ x.plan < 0 then(-1)else left - aJ x.plan) - (↑(ByteArray.size x.key):Int) - bI x.boss < 0 then(-1)else(if left - aJ x.plan < 0 then(-1)else left - aJ x.plan) - (↑(ByteArray.size x.key):Int) - bI x.boss) - ((↑(List.length x.workers):Int) +aj aQ x.workers)) - (↑(List.length x.flight):Int) - iP x.flight < 0 then(-1)else(if(if(if left - aJ x.plan < 0 then(-1)else left - aJ x.plan) - (↑(ByteArray.size x.key):Int) - bI x.boss < 0 then(-1)else(if left - aJ x.plan < 0 then(-1)else left - aJ x.plan) - (↑(ByteArray.size x.key):Int) - bI x.boss) - ((↑(List.length x.workers):Int) +aj aQ x.workers) < 0 then(-1)else(if(if left - aJ x.plan < 0 then(-1)else left - aJ x.plan) - (↑(ByteArray.size x.key):Int) - bI x.boss < 0 then(-1)else(if left - aJ x.plan < 0 then(-1)else left - aJ x.plan) - (↑(ByteArray.size x.key):Int) - bI x.boss) - ((↑(List.length x.workers):Int) +aj aQ x.workers)) - (↑(List.length x.flight):Int) - iP x.flight) - (↑(ByteArray.size x.forged):Int))]<|J Zc7<|W.sq<|g 2 3 []<|J UB<|W.cn<|J (fun h6=>?_) fun h6=>?_
 replace h6:=dt h6
 refine g 41 43 []<|J UA<|RT ?_
 exact vi OM
 replace h6:=df h6
 refine W.skip<|g 41 44 []<|J UB<|RT ?_
 exact vi OM
theorem gt(x:World)(h:eO x≤1048576):F xZ [.val (gb x)] (aM x) [[]]:=by
 have hn0:=lz x.plan
 have hn1:=jz x.boss
 have hn2:=aI b9 x.workers
 have hn3:=aI ge x.flight
 have hz:eO x = aJ x.plan+ (x.key.size:Int) +bI x.boss+ ((x.workers.length:Int) +aj aQ x.workers) + ((x.flight.length:Int) +aj eB x.flight) + (x.forged.size:Int):=rfl
 refine yq ?_
 conv=>whnf
 refine g 0 1 []<|J Zdu<|g 0 0 []<|J UA<|g 4 8 [.call (eS x.plan) [[]]]<|J ⟨I,I,⟨UA,I,US,UA,Dm _ OM⟩,I,UA,I⟩<|g 8 11 []<|J UW<|g 11 15 [.call (aL x.boss) [[]]]<|J ⟨I,I,⟨UA,I,⟨UL,I⟩,UA,Dr _ OM⟩,I,UL,I⟩<|g 15 19 [.call (V.own dp (List.map ar x.workers)) [[]]]<|J ⟨I,I,⟨UA,I,US,UA,uk _ OM⟩,I,UA,I⟩<|g 19 23 [.call (V.own pkd (List.map bx x.flight)) [[]]]<|J ⟨I,I,⟨UA,I,US,UA,ul _ OM⟩,I,UA,I⟩<|g 23 26 []<|J UW<|g 3 27 []<|J Zdr<|RT ?_
 rfl
def jO(a:World):Prop:=a.plan.tasks.length≤9223372036854775806∧(∀ y∈a.plan.tasks,mM y)∧a.boss.log.safe.length≤9223372036854775806∧a.boss.log.loose.length≤9223372036854775806∧a.boss.results.length≤9223372036854775806∧a.boss.jobs.length≤9223372036854775806∧a.boss.seats.length≤9223372036854775806∧a.boss.owed.length≤9223372036854775806∧a.workers.length≤9223372036854775806∧(∀ y∈a.workers,hY y)∧a.flight.length≤9223372036854775806
theorem Hi{a:World}(h:eO a≤1048576):jO a:=by
 have:=aI cV a.plan.tasks
 have:=bi a.boss.log.safe
 have:=bi a.boss.log.loose
 have:=bi a.boss.results
 have:=aI b9 a.workers
 have:=aI ge a.flight
 simp only[eO,aJ,bI,bg]at h
 simp only[jO]
 exact⟨by omega,fun y hy=>zu (by have:=gJ cV hy;omega),by omega,by omega,by omega,by omega,by omega,by omega,by omega,fun y hy=>EW (by have:=gJ b9 hy;omega),by omega⟩
theorem gu(a b:World)(hl:jO a):F yi [.val (gb a),.val (gb b)] (.b (decide (a = b))) [[],[]]:=by
 obtain⟨a_plan,a_key,a_boss,a_workers,a_flight,a_forged⟩:=a
 obtain⟨b_plan,b_key,b_boss,b_workers,b_flight,b_forged⟩:=b
 simp only[jO]at hl
 obtain⟨hl0,hl1,hl2,hl3,hl4,hl5,hl6,hl7,hl8,hl9,hl10⟩:=hl
 have hx0:mO a_plan:=⟨hl0,hl1⟩
 have hx2:ph a_boss:=⟨hl2,hl3,hl4,hl5,hl6,hl7⟩
 refine yE ?_
 conv=>whnf
 refine g 0 2 []<|J ⟨UQ,UQ,I,I⟩<|W.sq<|g 5 10 [.call (V.b (decide (a_plan = b_plan))) [[],[]]]<|J ⟨I,I,I,I,⟨UB,I,UT,UA,Dz _ _ OM⟩,I,I⟩<|W.cn<|J (fun h1=>?_) fun h1=>?_
 replace h1:=ndt h1
 refine g 10 11 []<|J UA<|RT ?_
 rotate_left
 replace h1:=ndf h1
 refine W.skip<|W.sq<|g 10 15 []<|J UE<|W.cn<|J (fun h2=>?_) fun h2=>?_
 replace h2:=ndt h2
 refine g 15 16 []<|J UA<|RT ?_
 rotate_left
 replace h2:=ndf h2
 refine W.skip<|W.sq<|g 15 21 [.call (V.b (decide (a_boss = b_boss))) [[],[]]]<|J ⟨I,I,I,I,⟨UB,I,⟨UL,UL,I⟩,UA,DD _ _ OM⟩,I,I⟩<|W.cn<|J (fun h3=>?_) fun h3=>?_
 replace h3:=ndt h3
 refine g 21 22 []<|J UA<|RT ?_
 rotate_left
 replace h3:=ndf h3
 refine W.skip<|W.sq<|g 21 27 [.call (V.b (decide (a_workers = b_workers))) [[],[]]]<|J ⟨I,I,I,I,⟨UB,I,UT,UA,uw _ _ OM OM⟩,I,I⟩<|W.cn<|J (fun h4=>?_) fun h4=>?_
 replace h4:=ndt h4
 refine g 27 28 []<|J UA<|RT ?_
 rotate_left
 replace h4:=ndf h4
 refine W.skip<|W.sq<|g 27 33 [.call (V.b (decide (a_flight = b_flight))) [[],[]]]<|J ⟨I,I,I,I,⟨UB,I,UT,UA,ux _ _ OM⟩,I,I⟩<|W.cn<|J (fun h5=>?_) fun h5=>?_
 replace h5:=ndt h5
 refine g 33 34 []<|J UA<|RT ?_
 rotate_left
 replace h5:=ndf h5
 refine W.skip<|W.sq<|g 33 38 []<|J UE<|W.cn<|J (fun h6=>?_) fun h6=>?_
 replace h6:=ndt h6
 refine g 2 4 []<|J UA<|RT ?_
 rotate_left
 replace h6:=ndf h6
 refine W.skip<|g 2 4 []<|J UA<|RT ?_
 rotate_left
 all_goals (first|exact vbt (by simp_all;done)|exact vbf (by simp_all;done))
def rY(k:Int)(x:World):World:=⟨zL (k) x.plan,x.key,uJ (k+bb x.plan) x.boss,mkL cJ ai (k+bb x.plan+bo x.boss) x.workers,mkL eC aP (k+bb x.plan+bo x.boss+aj ai x.workers) x.flight,x.forged⟩
def bD(x:World):Int:=bb x.plan+bo x.boss+aj ai x.workers+aj aP x.flight
theorem lg(x:World)(k:Int)(hl:x.plan.tasks.length≤9223372036854775806∧x.boss.log.safe.length≤9223372036854775806∧x.boss.log.loose.length≤9223372036854775806∧x.boss.results.length≤9223372036854775806∧x.boss.jobs.length≤9223372036854775806∧x.boss.seats.length≤9223372036854775806∧x.boss.owed.length≤9223372036854775806∧x.workers.length≤9223372036854775806∧x.flight.length≤9223372036854775806)(h0:0≤k)(hk:k+bD x≤1099511627776):F sW [.bor (aM x),.val (.i k)] (.i (k+bD x)) [cellsOf (aM (rY k x)),[]]:=by
 obtain⟨hl0,hl1,hl2,hl3,hl4,hl5,hl6,hl7,hl8⟩:=hl
 have hn0:=ik x.plan
 have hn1:=ke x.boss
 have hn2:=aI cZ x.workers
 have hn3:=aI dJ x.flight
 have hz:bD x = bb x.plan+bo x.boss+aj ai x.workers+aj aP x.flight:=rfl
 refine tN ?_
 conv=>whnf
 refine g 0 1 []<|J ⟨UH,I,I⟩<|g 5 9 [.call (V.i (k+bb x.plan)) ([cellsOf (eS (zL k x.plan)),[]])]<|J ⟨I,I,I,⟨Zdq,I,UV,UA,xm _ _ OM OM OM⟩,I,I⟩<|g 9 13 [.call (V.i (k+bb x.plan+bo x.boss)) ([cellsOf (aL (uJ (k+bb x.plan) x.boss)),[]])]<|J ⟨I,I,I,⟨Zej,I,UV,UA,xq _ _ OM OM OM⟩,I,I⟩<|g 13 17 [.call (V.i (k+bb x.plan+bo x.boss+aj ai x.workers)) ([[V.own dp (List.map ar (mkL cJ ai (k+bb x.plan+bo x.boss) x.workers))],[]])]<|J ⟨I,I,I,⟨Zdq,I,UV,UA,pM _ _ OM OM OM⟩,I,I⟩<|g 17 21 [.call (V.i (k+bb x.plan+bo x.boss+aj ai x.workers+aj aP x.flight)) ([[V.own jI (List.map bw (mkL eC aP (k+bb x.plan+bo x.boss+aj ai x.workers) x.flight))],[]])]<|J ⟨I,I,I,⟨Zdq,I,UV,UA,yR _ _ OM OM OM⟩,I,I⟩<|g 1 3 []<|J UB<|RT ?_
 exact vi OM
theorem lh(x:World)(k:Int)(hl:x.plan.tasks.length≤9223372036854775806∧x.boss.log.safe.length≤9223372036854775806∧x.boss.log.loose.length≤9223372036854775806∧x.boss.results.length≤9223372036854775806∧x.boss.jobs.length≤9223372036854775806∧x.boss.seats.length≤9223372036854775806∧x.boss.owed.length≤9223372036854775806∧x.workers.length≤9223372036854775806∧x.flight.length≤9223372036854775806)(h0:0≤k)(hk:k+bD x≤1099511627776):F tb [.val (gb (rY k x)),.val (.i k)] (.i (k+bD x)) [[],[]]:=by
 obtain⟨hl0,hl1,hl2,hl3,hl4,hl5,hl6,hl7,hl8⟩:=hl
 have hn0:=ik x.plan
 have hn1:=ke x.boss
 have hn2:=aI cZ x.workers
 have hn3:=aI dJ x.flight
 have hz:bD x = bb x.plan+bo x.boss+aj ai x.workers+aj aP x.flight:=rfl
 refine tS ?_
 conv=>whnf
 refine g 0 1 []<|J Zdu<|g 5 9 [.call (V.i (k+bb x.plan)) [[],[]]]<|J ⟨I,I,I,⟨UB,I,UT,UA,xr _ _ OM OM OM⟩,I,I⟩<|W.sq<|g 9 10 []<|J UB<|W.cn<|J (noT dO) fun _=>W.skip<|g 10 15 [.call (V.i (k+bb x.plan+bo x.boss)) [[],[]]]<|J ⟨I,I,I,⟨UB,I,⟨UL,UA,I⟩,UA,xx _ _ OM OM OM⟩,I,I⟩<|W.sq<|g 15 16 []<|J UB<|W.cn<|J (noT dO) fun _=>W.skip<|g 16 21 [.call (V.i (k+bb x.plan+bo x.boss+aj ai x.workers)) [[],[]]]<|J ⟨I,I,I,⟨UB,I,UT,UA,pN _ _ OM OM OM⟩,I,I⟩ ?_
 refine W.sq<|g 21 22 []<|J UB<|W.cn<|J (noT dO) fun _=>W.skip<|g 22 27 [.call (V.i (k+bb x.plan+bo x.boss+aj ai x.workers+aj aP x.flight)) [[],[]]]<|J ⟨I,I,I,⟨UB,I,UT,UA,yS _ _ OM OM OM⟩,I,I⟩<|W.sq<|g 2 3 []<|J UB<|W.cn<|J (noT dO) fun _=>W.skip<|g 27 30 []<|J UB<|RT ?_
 exact vi OM
theorem Qf{n:Nat}{x:List T}(h:wfT E (n+6) Bk x):∃ v:World,x = WA v∧zl v:=by
 obtain⟨y0,z0,e0,wplan0,y1,z1,e1,⟨key,rfl,hkey⟩,y2,z2,e2,wboss0,y3,z3,e3,⟨lworkers,rfl,hworkers,gworkers⟩,y4,z4,e4,⟨lflight,rfl,hflight,gflight⟩,y5,z5,e5,⟨forged,rfl,hforged⟩,e6⟩:=h
 subst e6
 subst e5
 subst e4
 subst e3
 subst e2
 subst e1
 obtain⟨plan,rfl,wplan⟩:=Uf wplan0
 obtain⟨boss,rfl,wboss⟩:=Uh wboss0
 obtain⟨workers,rfl,wworkers⟩:=lT (f:=ar) (p:=lK) (xs:=lworkers) fun y hy=>NE (gworkers y hy)
 obtain⟨flight,rfl,wflight⟩:=lT (f:=bw) (p:=sk) (xs:=lflight) fun y hy=>NF (gflight y hy)
 subst e0
 exact⟨⟨plan,key,boss,workers,flight,forged⟩,rfl,⟨wplan,hkey,wboss,by rw[List.length_map]at hworkers;exact hworkers,wworkers,by rw[List.length_map]at hflight;exact hflight,wflight,hforged⟩⟩
end Go.K
end
section
open Go Go.Tm Go.Proofs
namespace Go.K
theorem uQ{p:Plan}(h:aq p.tasks = 0):dv p:=by
 have h1:=(bT h).1
 refine⟨by omega,fun t ht=>?_⟩
 obtain⟨n,hn⟩:=List.getElem?_of_mem ht
 have h2:=(bZ h hn).2.2.1
 have h3:=(bZ h hn).1
 exact⟨by omega,by omega⟩
theorem uA(p:Plan)(h:dv p):F tn [.val (cO p)] (eS p) [[]]:=by
 obtain⟨hp1,hp2⟩:=h
 refine t9 ?_
 conv=>whnf
 refine g 0 0 []<|J Zdq<|g 0 0 []<|J UA<|W.sq<|g 1 2 []<|J UD<|W.blk<|W.lp (fun s (n:Nat)=>⟨[(0,s.s 0),(2,s.s 2),(3,s.s 3),(7,s.s 7),(8,s.s 8),(9,.i n)],[(2,[s.c 2 0]),(3,[.own dE ((p.tasks.take n).map ay)])],[]⟩) (fun(n:Nat)=>n≤p.tasks.length) (fun(n:Nat)=>p.tasks.length - n) (0) [some 2,some 3] [] ⟨rfl,⟨Zag,rfl,rfl,rfl,rfl,rfl,I⟩,⟨Zac,Zdn⟩,I⟩ OM ?_
 intro n hn
 conv=>whnf
 refine g 0 0 []<|J UA<|W.sq<|W.cn<|J (fun h1=>?_) fun h1=>?_
 replace h1:=dt h1
 simp only[LM]at h1
 refine W.skip<|W.sq<|W.blk ?_
 obtain⟨y1,hy1⟩:=af (xs:=Plan.tasks p) (n:=n) OM
 have hm1:=hp2 y1 (List.mem_of_getElem? hy1)
 refine g 10 13 [.x (ay y1)]<|J Zci<|g 13 18 []<|J Zcc<|rg []<|J Zcb<|rg [.i ((n:Int) +1)]<|J Zdm ?_
 rotate_left
 replace h1:=df h1
 simp only[LM]at h1
 refine W.exit<|g 3 26 []<|J UV<|RT ?_
 rotate_left
 ·refine⟨n+1,[some 2,some 3],[],⟨rfl,⟨Zag,rfl,rfl,rfl,rfl,rfl,I⟩,⟨Zac,⟨⟨rfl,⟨(congrArg (V.own _) (n9 AS)),I⟩⟩,I⟩⟩,I⟩,?_,?_⟩
  rotate_left
  (dsimp only;omega)
  dsimp only
  omega
 ·rw[aE OM]
def OU(i:Nat):Worker:=⟨(i:Int) +1,1,true,0,0,0,0,0,[],emp,3⟩
def crew(n:Nat):List Worker:=(List.range n).map OU
structure NewOk (p:Plan) (key:ByteArray) (w:Int):Prop where
 plan:aq p.tasks = 0
 w:1≤w∧w≤8
 key:key.size≤30
noncomputable instance (p:Plan) (key:ByteArray) (w:Int):Decidable (NewOk p key w):=Classical.propDecidable _
end Go.K
end
section
open Go Go.Tm Go.Proofs
namespace Go.K
structure WorkOk (i:Nat) (x:Worker):Prop where
 ok:av x
 num:x.number = (i:Int) +1
def xK(ws:List Worker)(n:Nat):Prop:=∀ (m:Nat) (x:Worker),m < n→ws[m]? = some x→WorkOk m x
theorem vL(ws:List Worker):xK ws 0:=fun m x hm=>by omega
theorem vM{ws:List Worker}{n:Nat}{x:Worker}(h:xK ws n)(hx:ws[n]? = some x)(hw:WorkOk n x):xK ws (n+1):=fun m y hm hy=>by
 by_cases e:m = n
 ·subst e;rw[hx]at hy;cases hy;exact hw
 ·exact h m y OM hy
structure ParOk (x:Parcel):Prop where
 to:0≤x.kind∧x.kind≤8
 sent:x.frm.size≤500
 bytes:x.text.size≤500
structure WorldOk (w:World):Prop where
 plan:aq w.plan.tasks = 0
 key:w.key.size≤30
 wl:1≤w.workers.length∧w.workers.length≤8
 fl:w.flight.length≤2000
 crew:xK w.workers w.workers.length
 par:∀ x∈w.flight,ParOk x
 boss:BossOk w.boss w.plan
 same:w.boss.workers = w.workers.length
noncomputable instance (w:World):Decidable (WorldOk w):=Classical.propDecidable _
structure WorldLim (w:World):Prop where
 plan:dl w.plan
 boss:BossLim w.boss
 key:w.key.size≤9223372036854775807
 wl:w.workers.length≤1048576
 wi:∀ x∈w.workers,x.inputs.length≤1048576
 fl:w.flight.length≤1048576
 fs:∀ x∈w.flight,x.frm.size≤9223372036854775807∧x.text.size≤9223372036854775807
theorem gm(w:World)(h:WorldLim w):F qY [.val (gb w)] (.b (decide (WorldOk w))) [[]]:=by
 obtain⟨l1,l2,l3,l4,l5,l6,l7⟩:=h
 have cp:=fm w.plan l1
 have cb:=Ra w.boss w.plan l1 l2
 refine ri ?_
 conv=>whnf
 refine g 0 1 []<|J Zdu<|W.sq ?_
 by_cases h1:aq (Plan.tasks (World.plan w)) = (0:Int)
 by_cases h2:(30:Int) < (↑(ByteArray.size (World.key w)):Int)
 refine g 11 29 [.call (V.i (aq w.plan.tasks)) [[]],BF,BF,BF,BF,BF,BT,BT,BT,BT,BT,BT,BT,BT,BT,BT,BT]<|J ⟨I,I,Zai,I,I,⟨nO,I⟩,⟨nO,I⟩,⟨nO,I⟩,⟨nO,I⟩,nO,I,tO,tO,tO,tO,tO,tO,I,rfl,rfl,rfl,rfl,rfl,I⟩<|W.cn<|J (fun _=>(g 7 10 []<|J UA (RT ?_))) (noF rfl)
 rotate_left
 by_cases h3:(1:Int)≤(↑(List.length (List.map ar (World.workers w))):Int)∧(↑(List.length (List.map ar (World.workers w))):Int)≤(8:Int)
 simp only[LM]at h3
 refine g 11 29 [.call (V.i (aq w.plan.tasks)) [[]],BF,BF,BF,BF,BF,BF,BF,BF,BF,.call (V.b (decide (1≤(↑(List.length (List.map ar w.workers)):Int)∧(↑(List.length (List.map ar w.workers)):Int)≤8))) [[],[],[]],BF,BF,BF,BF,BF,BF,BF]<|J ⟨I,I,Zai,I,I,⟨nO,I⟩,⟨nO,I⟩,⟨nO,I⟩,⟨nO,I⟩,nO,I,⟨dO,I⟩,⟨dO,I⟩,⟨dO,I⟩,⟨dO,UC,I,UU,UA,aa _ _ _⟩,⟨dO,I⟩,dO,I,⟨SI,I⟩,⟨SI,I⟩,⟨SI,I⟩,⟨SI,I⟩,SI,I⟩<|W.cn<|J (fun h4=>?_) fun h4=>?_
 replace h4:=dt h4
 simp only[LM]at h4
 refine g 7 10 []<|J UA<|RT ?_
 rotate_left
 replace h4:=df h4
 simp only[LM]at h4
 refine W.skip<|W.sq<|g 7 10 []<|J UD<|W.blk ?_
 rotate_left
 simp only[LM]at h3
 refine g 11 29 [.call (V.i (aq w.plan.tasks)) [[]],BF,BF,BF,BF,BF,BF,BF,BF,BF,.call (V.b (decide (1≤(↑(List.length (List.map ar w.workers)):Int)∧(↑(List.length (List.map ar w.workers)):Int)≤8))) [[],[],[]],BF,BF,BT,BT,BT,BT,BT]<|J ⟨I,I,Zai,I,I,⟨nO,I⟩,⟨nO,I⟩,⟨nO,I⟩,⟨nO,I⟩,nO,I,⟨dO,I⟩,⟨dO,I⟩,⟨dO,I⟩,⟨dO,UC,I,UU,UA,aa _ _ _⟩,⟨dO,I⟩,dO,I,SI,SI,SI,SI,SI,I⟩<|W.cn<|J (fun _=>(g 7 10 []<|J UA (RT ?_))) (noF rfl)
 rotate_left
 refine g 11 29 [.call (V.i (aq w.plan.tasks)) [[]],BT,BT,BT,BT,BT,BT,BT,BT,BT,BT,BT,BT,BT,BT,BT,BT]<|J ⟨I,I,Zai,I,I,ag OM,ag OM,ag OM,ag OM,ag OM,I,rfl,rfl,rfl,rfl,rfl,rfl,I,rfl,rfl,rfl,rfl,rfl,I⟩<|W.cn<|J (fun _=>(g 7 10 []<|J UA (RT ?_))) (noF rfl)
 rotate_left
 all_goals try (exact vbf (fun q=>by have e1:=q.plan;have e2:=q.key;have e3:=q.wl;have e4:=q.fl;omega))
 refine W.lp (fun s (n:Nat)=>⟨[(1,s.s 1),(10,s.s 10),(31,s.s 31),(32,s.s 32),(33,.i n)],[(1,[s.c 1 0,s.c 1 1,s.c 1 2,s.c 1 3,s.c 1 4,s.c 1 5,s.c 1 6,s.c 1 7,s.c 1 8,s.c 1 9,s.c 1 10,s.c 1 11,s.c 1 12,s.c 1 13,s.c 1 14,s.c 1 15,s.c 1 16])],[]⟩) (fun(n:Nat)=>n≤w.workers.length∧xK w.workers n) (fun(n:Nat)=>w.workers.length - n) (0) [some 1] [] ⟨rfl,⟨rfl,rfl,rfl,rfl,rfl,I⟩,⟨⟨rfl,⟨rfl,⟨rfl,⟨rfl,⟨rfl,⟨rfl,⟨rfl,⟨rfl,⟨rfl,⟨rfl,⟨rfl,⟨rfl,⟨rfl,⟨rfl,⟨rfl,⟨rfl,⟨rfl,⟨rfl,I⟩⟩⟩⟩⟩⟩⟩⟩⟩⟩⟩⟩⟩⟩⟩⟩⟩⟩,I⟩,I⟩ ?_ ?_
 ·exact⟨Nat.zero_le _,vL _⟩
 rintro n ⟨hn,hc⟩
 by_cases hn2:n < w.workers.length
 ·obtain⟨x,hx⟩:=af hn2
  have hxi:=l5 x (List.mem_of_getElem? hx)
  have cw:=eA x OM
  by_cases hk:av x
  ·rw[decide_eq_true hk]at cw
   conv=>whnf
   refine g 0 0 []<|J UA<|W.sq<|W.cn<|J (fun _=>(W.skip (W.sq (W.blk (g 34 38 [.x (ar x)]<|J ⟨I,Zdg,I,I,I,UK,I⟩ (g 38 47 [.call VT [[]],BF,BF,BF,BF,.i ((n:Int) +1),BF,BF]<|J ⟨I,Zda,I,I,Zdc,Zdc,Zdc,⟨rfl,wO⟩,Zdc,rfl,I⟩ (W.cn<|J (fun h5=>?_) fun h5=>?_))))))) (noF SI)
   replace h5:=ndt h5
   refine g 3 4 []<|J UA<|RT ?_
   rotate_left
   replace h5:=ndf h5
   refine W.skip<|rg [.i ((n:Int) +1)]<|J Zdm ?_
   rotate_left
   all_goals try (exact vbf (fun q=>by have:=(q.crew n x hn2 hx).num;omega))
   refine⟨n+1,[some 1],[],⟨rfl,Zbd,⟨Zde,I⟩,I⟩,?_,?_⟩
   rotate_left
   (dsimp only;omega)
   dsimp only
   exact⟨by omega,vM hc hx ⟨hk,by omega⟩⟩
  ·rw[decide_eq_false hk]at cw
   conv=>whnf
   refine g 0 0 []<|J UA<|W.sq<|W.cn<|J (fun _=>(W.skip (W.sq (W.blk (g 34 38 [.x (ar x)]<|J ⟨I,Zdg,I,I,I,UK,I⟩ (g 38 47 [.call VF [[]],BT,BT,BT,BT,BT,BT]<|J ⟨I,Zda,I,I,rfl,rfl,rfl,rfl,rfl,rfl,I⟩ (W.cn<|J (fun _=>(g 3 4 []<|J UA (RT ?_))) (noF rfl)))))))) (noF SI)
   exact vbf (fun q=>hk (q.crew n x hn2 hx).ok)
 obtain rfl:n = w.workers.length:=by omega
 conv=>whnf
 refine g 0 0 []<|J UA<|W.sq<|W.cn<|J (noT SI) fun _=>W.exit<|W.sq<|g 31 50 []<|J UD<|W.blk<|W.lp (fun s (n:Nat)=>⟨[(1,s.s 1),(10,s.s 10),(50,s.s 50),(51,s.s 51),(52,.i n)],[(1,[s.c 1 0,s.c 1 1,s.c 1 2,s.c 1 3,s.c 1 4,s.c 1 5,s.c 1 6,s.c 1 7,s.c 1 8,s.c 1 9,s.c 1 10,s.c 1 11,s.c 1 12,s.c 1 13,s.c 1 14,s.c 1 15,s.c 1 16])],[]⟩) (fun(n:Nat)=>n≤w.flight.length∧∀ x∈w.flight.take n,ParOk x) (fun(n:Nat)=>w.flight.length - n) (0) [some 1] [] ⟨rfl,Zbd,⟨Zde,I⟩,I⟩ (by simp) ?_
 rintro n ⟨hn3,hc3⟩
 by_cases hn4:n < w.flight.length
 ·obtain⟨x,hx⟩:=af hn4
  obtain⟨hxs,hxb⟩:=l7 x (List.mem_of_getElem? hx)
  by_cases hA:0≤x.kind∧x.kind≤8
  ·by_cases hB:x.frm.size≤500
   ·by_cases hC:x.text.size≤500
    ·conv=>whnf
     refine g 0 0 []<|J UA<|W.sq<|W.cn<|J (fun _=>(W.skip (W.sq (W.blk (g 53 56 [.x (bw x)]<|J Zci (g 56 71 [.call (V.b (decide (0≤x.kind∧x.kind≤8))) [[],[],[]],BF,BF,BF,BF,BF,BF,BF,BF,BF,BF]<|J ⟨I,I,⟨UC,I,UU,UA,aa _ _ _⟩,I,I,⟨nO,I⟩,⟨nO,I⟩,⟨nO,I⟩,⟨nO,I⟩,nO,I,⟨dO,I⟩,⟨dO,I⟩,⟨dO,I⟩,⟨dO,I⟩,dO,I⟩ (W.cn<|J (noT dO) fun _=>(W.skip (rg [.i ((n:Int) +1)]<|J Zdm ?_))))))))) (noF SI)
     refine⟨n+1,[some 1],[],⟨rfl,Zbd,⟨Zde,I⟩,I⟩,?_,?_⟩
     rotate_left
     (dsimp only;omega)
     dsimp only
     exact⟨by omega,dN hc3 hx ⟨hA,hB,hC⟩⟩
    ·conv=>whnf
     refine g 0 0 []<|J UA<|W.sq<|W.cn<|J (fun _=>(W.skip (W.sq (W.blk (g 53 56 [.x (bw x)]<|J Zci (g 56 71 [.call (V.b (decide (0≤x.kind∧x.kind≤8))) [[],[],[]],BF,BF,BF,BF,BF,BF,BF,BF,BF,BF]<|J ⟨I,I,⟨UC,I,UU,UA,aa _ _ _⟩,I,I,⟨nO,I⟩,⟨nO,I⟩,⟨nO,I⟩,⟨nO,I⟩,nO,I,⟨dO,I⟩,⟨dO,I⟩,⟨dO,I⟩,⟨dO,I⟩,dO,I⟩ (W.cn<|J (fun _=>(g 6 7 []<|J UA (RT ?_))) (noF tO)))))))) (noF SI)
     exact vbf (fun q=>hC (q.par x (List.mem_of_getElem? hx)).bytes)
   ·conv=>whnf
    refine g 0 0 []<|J UA<|W.sq<|W.cn<|J (fun _=>(W.skip (W.sq (W.blk (g 53 56 [.x (bw x)]<|J Zci (g 56 71 [.call (V.b (decide (0≤x.kind∧x.kind≤8))) [[],[],[]],BF,BF,BF,BF,BF,BT,BT,BT,BT,BT]<|J ⟨I,I,⟨UC,I,UU,UA,aa _ _ _⟩,I,I,⟨nO,I⟩,⟨nO,I⟩,⟨nO,I⟩,⟨nO,I⟩,nO,I,tO,tO,tO,tO,tO,I⟩ (W.cn<|J (fun _=>(g 6 7 []<|J UA (RT ?_))) (noF rfl)))))))) (noF SI)
    exact vbf (fun q=>hB (q.par x (List.mem_of_getElem? hx)).sent)
  ·conv=>whnf
   refine g 0 0 []<|J UA<|W.sq<|W.cn<|J (fun _=>(W.skip (W.sq (W.blk (g 53 56 [.x (bw x)]<|J Zci (g 56 71 [.call (V.b (decide (0≤x.kind∧x.kind≤8))) [[],[],[]],BT,BT,BT,BT,BT,BT,BT,BT,BT,BT]<|J ⟨I,I,⟨UC,I,UU,UA,aa _ _ _⟩,I,I,ag OM,ag OM,ag OM,ag OM,ag OM,I,rfl,rfl,rfl,rfl,rfl,I⟩ (W.cn<|J (fun _=>(g 6 7 []<|J UA (RT ?_))) (noF rfl)))))))) (noF SI)
   exact vbf (fun q=>hA (q.par x (List.mem_of_getElem? hx)).to)
 have hpar:∀ x∈w.flight,ParOk x:=by rw[aE OM]at hc3;exact hc3
 by_cases hb:BossOk w.boss w.plan
 ·rw[decide_eq_true hb]at cb
  conv=>whnf
  refine g 0 0 []<|J UA<|W.sq<|W.cn<|J (noT SI) fun _=>W.exit<|g 10 87 [.call VT [[],[]],BT,BT,BT,BT,BT,BT,BT,BT]<|J ⟨I,I,I,I,Zaw,I,Zdc,Zdc,Zdc,Zdc,Zdc,Zdc,Zdc,rfl,I,I⟩<|RT ?_
  by_cases hs:w.boss.workers = w.workers.length
  ·simp only[List.length_map]
   rw[decide_eq_true hs]
   exact vbt ⟨by omega,by omega,by omega,by omega,hc,hpar,hb,hs⟩
  ·simp only[List.length_map]
   rw[decide_eq_false hs]
   exact vbf (fun q=>hs q.same)
 ·rw[decide_eq_false hb]at cb
  conv=>whnf
  refine g 0 0 []<|J UA<|W.sq<|W.cn<|J (noT SI) fun _=>W.exit<|g 10 87 [.call VF [[],[]],BF,BF,BF,BF,BF,BF,BF,BF]<|J ⟨I,I,I,I,Zaw,I,rfl,rfl,rfl,rfl,rfl,rfl,rfl,rfl,I,I⟩<|RT ?_
  exact vbf (fun q=>hb q.boss)
theorem gl(w:World)(h:WorldLim w):F qS [.val (gb w)] (.b (decide (WorldOk w))) [[]]:=by
 obtain⟨l1,l2,l3,l4,l5,l6,l7⟩:=h
 have cp:=cY w.plan l1
 have cb:=nU w.boss w.plan l1 l2
 refine rb ?_
 conv=>whnf
 refine g 0 1 []<|J Zdu<|W.sq ?_
 by_cases h1:aq (Plan.tasks (World.plan w)) = (0:Int)
 by_cases h2:(30:Int) < (↑(ByteArray.size (World.key w)):Int)
 refine g 11 28 [.call (V.i (aq w.plan.tasks)) [[]],BF,BF,BF,BF,BF,BT,BT,BT,BT,BT,BT,BT,BT,BT,BT,BT]<|J ⟨I,I,Zai,I,I,⟨nO,I⟩,⟨nO,I⟩,⟨nO,I⟩,⟨nO,I⟩,nO,I,tO,tO,tO,tO,tO,tO,I,rfl,rfl,rfl,rfl,rfl,I⟩<|W.cn<|J (fun _=>(g 8 10 []<|J UA (RT ?_))) (noF rfl)
 rotate_left
 by_cases h3:(1:Int)≤(↑(List.length (List.map ar (World.workers w))):Int)∧(↑(List.length (List.map ar (World.workers w))):Int)≤(8:Int)
 simp only[LM]at h3
 refine g 11 28 [.call (V.i (aq w.plan.tasks)) [[]],BF,BF,BF,BF,BF,BF,BF,BF,BF,.call (V.b (decide (1≤(↑(List.length (List.map ar w.workers)):Int)∧(↑(List.length (List.map ar w.workers)):Int)≤8))) [[],[],[]],BF,BF,BF,BF,BF,BF,BF]<|J ⟨I,I,Zai,I,I,⟨nO,I⟩,⟨nO,I⟩,⟨nO,I⟩,⟨nO,I⟩,nO,I,⟨dO,I⟩,⟨dO,I⟩,⟨dO,I⟩,⟨dO,UC,I,UU,UA,ah _ _ _⟩,⟨dO,I⟩,dO,I,⟨SI,I⟩,⟨SI,I⟩,⟨SI,I⟩,⟨SI,I⟩,SI,I⟩<|W.cn<|J (fun h4=>?_) fun h4=>?_
 replace h4:=dt h4
 simp only[LM]at h4
 refine g 8 10 []<|J UA<|RT ?_
 rotate_left
 replace h4:=df h4
 simp only[LM]at h4
 refine W.skip<|W.sq<|g 8 10 []<|J UA<|W.blk ?_
 rotate_left
 simp only[LM]at h3
 refine g 11 28 [.call (V.i (aq w.plan.tasks)) [[]],BF,BF,BF,BF,BF,BF,BF,BF,BF,.call (V.b (decide (1≤(↑(List.length (List.map ar w.workers)):Int)∧(↑(List.length (List.map ar w.workers)):Int)≤8))) [[],[],[]],BF,BF,BT,BT,BT,BT,BT]<|J ⟨I,I,Zai,I,I,⟨nO,I⟩,⟨nO,I⟩,⟨nO,I⟩,⟨nO,I⟩,nO,I,⟨dO,I⟩,⟨dO,I⟩,⟨dO,I⟩,⟨dO,UC,I,UU,UA,ah _ _ _⟩,⟨dO,I⟩,dO,I,SI,SI,SI,SI,SI,I⟩<|W.cn<|J (fun _=>(g 8 10 []<|J UA (RT ?_))) (noF rfl)
 rotate_left
 refine g 11 28 [.call (V.i (aq w.plan.tasks)) [[]],BT,BT,BT,BT,BT,BT,BT,BT,BT,BT,BT,BT,BT,BT,BT,BT]<|J ⟨I,I,Zai,I,I,ag OM,ag OM,ag OM,ag OM,ag OM,I,rfl,rfl,rfl,rfl,rfl,rfl,I,rfl,rfl,rfl,rfl,rfl,I⟩<|W.cn<|J (fun _=>(g 8 10 []<|J UA (RT ?_))) (noF rfl)
 rotate_left
 all_goals try (exact vbf (fun q=>by have e1:=q.plan;have e2:=q.key;have e3:=q.wl;have e4:=q.fl;omega))
 refine W.lp (fun s (n:Nat)=>⟨[(1,s.s 1),(3,.i n),(7,s.s 7),(10,s.s 10)],[(1,[s.c 1 0,s.c 1 1,s.c 1 2,s.c 1 3,s.c 1 4,s.c 1 5,s.c 1 6,s.c 1 7,s.c 1 8,s.c 1 9,s.c 1 10,s.c 1 11,s.c 1 12,s.c 1 13,s.c 1 14,s.c 1 15,s.c 1 16])],[]⟩) (fun(n:Nat)=>n≤w.workers.length∧xK w.workers n) (fun(n:Nat)=>w.workers.length - n) (0) [some 1] [] ⟨rfl,⟨rfl,rfl,⟨_,rfl,_,_,rfl,rfl,rfl⟩,rfl,I⟩,⟨⟨rfl,⟨rfl,⟨rfl,⟨rfl,⟨rfl,⟨rfl,⟨rfl,⟨rfl,⟨rfl,⟨rfl,⟨rfl,⟨rfl,⟨rfl,⟨rfl,⟨rfl,⟨rfl,⟨rfl,⟨rfl,I⟩⟩⟩⟩⟩⟩⟩⟩⟩⟩⟩⟩⟩⟩⟩⟩⟩⟩,I⟩,I⟩ ?_ ?_
 ·exact⟨Nat.zero_le _,vL _⟩
 rintro n ⟨hn,hc⟩
 by_cases hn2:n < w.workers.length
 ·obtain⟨x,hx⟩:=af hn2
  have hxi:=l5 x (List.mem_of_getElem? hx)
  have cw:=au x OM
  by_cases hk:av x
  ·rw[decide_eq_true hk]at cw
   conv=>whnf
   refine W.sq<|g 29 33 []<|J UE<|W.cn<|J (fun _=>(W.skip (W.sq (W.blk (g 33 53 [.x (ar x),.call VT [[]],BF,BF,BF,BF,.x (ar x),BF,BF,BF,BF,.i ((n:Int) +1),BF,BF]<|J ⟨I,I,I,Zdg,I,Zda,I,I,Zdc,Zdc,Zdc,⟨rfl,OM,xA⟩,Zdc,Zdc,Zdc,⟨rfl,wO⟩,Zdc,rfl,I⟩ (W.cn<|J (fun h5=>?_) fun h5=>?_)))))) (noF SI)
   replace h5:=ndt h5
   refine g 53 54 []<|J UA<|RT ?_
   rotate_left
   replace h5:=ndf h5
   refine W.skip<|rg [.i ((n:Int) +1)]<|J Zdd ?_
   rotate_left
   all_goals try (exact vbf (fun q=>by have:=(q.crew n x hn2 hx).num;omega))
   refine⟨n+1,[some 1],[],⟨rfl,⟨rfl,rfl,Zag,rfl,I⟩,⟨Zde,I⟩,I⟩,?_,?_⟩
   rotate_left
   (dsimp only;omega)
   dsimp only
   exact⟨by omega,vM hc hx ⟨hk,by omega⟩⟩
  ·rw[decide_eq_false hk]at cw
   conv=>whnf
   refine W.sq<|g 29 33 []<|J UE<|W.cn<|J (fun _=>(W.skip (W.sq (W.blk (g 33 53 [.x (ar x),.call VF [[]],BT,BT,BT,BT,BT,BT,BT,BT,BT,BT]<|J ⟨I,I,I,Zdg,I,Zda,I,I,rfl,rfl,rfl,rfl,rfl,rfl,rfl,rfl,rfl,rfl,I⟩ (W.cn<|J (fun _=>(g 53 54 []<|J UA (RT ?_))) (noF rfl))))))) (noF SI)
   exact vbf (fun q=>hk (q.crew n x hn2 hx).ok)
 obtain rfl:n = w.workers.length:=by omega
 conv=>whnf
 refine W.sq<|g 29 33 []<|J UE<|W.cn<|J (noT SI) fun _=>W.exit<|W.sq<|g 3 4 []<|J UA<|W.blk<|W.lp (fun s (n:Nat)=>⟨[(1,s.s 1),(4,.i n),(7,s.s 7),(10,s.s 10)],[(1,[s.c 1 0,s.c 1 1,s.c 1 2,s.c 1 3,s.c 1 4,s.c 1 5,s.c 1 6,s.c 1 7,s.c 1 8,s.c 1 9,s.c 1 10,s.c 1 11,s.c 1 12,s.c 1 13,s.c 1 14,s.c 1 15,s.c 1 16])],[]⟩) (fun(n:Nat)=>n≤w.flight.length∧∀ x∈w.flight.take n,ParOk x) (fun(n:Nat)=>w.flight.length - n) (0) [some 1] [] ⟨rfl,⟨rfl,rfl,Zag,rfl,I⟩,⟨Zde,I⟩,I⟩ (by simp) ?_
 rintro n ⟨hn3,hc3⟩
 by_cases hn4:n < w.flight.length
 ·obtain⟨x,hx⟩:=af hn4
  obtain⟨hxs,hxb⟩:=l7 x (List.mem_of_getElem? hx)
  by_cases hA:0≤x.kind∧x.kind≤8
  ·by_cases hB:x.frm.size≤500
   ·by_cases hC:x.text.size≤500
    ·conv=>whnf
     refine W.sq<|g 54 58 []<|J UE<|W.cn<|J (fun _=>(W.skip (W.sq (W.blk (g 58 66 [.x (bw x)]<|J Zbg (g 66 81 [.call (V.b (decide (0≤x.kind∧x.kind≤8))) [[],[],[]],BF,BF,BF,BF,BF,BF,BF,BF,BF,BF]<|J ⟨I,I,⟨UC,I,UU,UA,ah _ _ _⟩,I,I,⟨nO,I⟩,⟨nO,I⟩,⟨nO,I⟩,⟨nO,I⟩,nO,I,⟨dO,I⟩,⟨dO,I⟩,⟨dO,I⟩,⟨dO,I⟩,dO,I⟩ (W.cn<|J (noT dO) fun _=>(W.skip (rg [.i ((n:Int) +1)]<|J Zdd ?_))))))))) (noF SI)
     refine⟨n+1,[some 1],[],⟨rfl,⟨rfl,rfl,Zag,rfl,I⟩,⟨Zde,I⟩,I⟩,?_,?_⟩
     rotate_left
     (dsimp only;omega)
     dsimp only
     exact⟨by omega,dN hc3 hx ⟨hA,hB,hC⟩⟩
    ·conv=>whnf
     refine W.sq<|g 54 58 []<|J UE<|W.cn<|J (fun _=>(W.skip (W.sq (W.blk (g 58 66 [.x (bw x)]<|J Zbg (g 66 81 [.call (V.b (decide (0≤x.kind∧x.kind≤8))) [[],[],[]],BF,BF,BF,BF,BF,BF,BF,BF,BF,BF]<|J ⟨I,I,⟨UC,I,UU,UA,ah _ _ _⟩,I,I,⟨nO,I⟩,⟨nO,I⟩,⟨nO,I⟩,⟨nO,I⟩,nO,I,⟨dO,I⟩,⟨dO,I⟩,⟨dO,I⟩,⟨dO,I⟩,dO,I⟩ (W.cn<|J (fun _=>(g 5 6 []<|J UA (RT ?_))) (noF tO)))))))) (noF SI)
     exact vbf (fun q=>hC (q.par x (List.mem_of_getElem? hx)).bytes)
   ·conv=>whnf
    refine W.sq<|g 54 58 []<|J UE<|W.cn<|J (fun _=>(W.skip (W.sq (W.blk (g 58 66 [.x (bw x)]<|J Zbg (g 66 81 [.call (V.b (decide (0≤x.kind∧x.kind≤8))) [[],[],[]],BF,BF,BF,BF,BF,BT,BT,BT,BT,BT]<|J ⟨I,I,⟨UC,I,UU,UA,ah _ _ _⟩,I,I,⟨nO,I⟩,⟨nO,I⟩,⟨nO,I⟩,⟨nO,I⟩,nO,I,tO,tO,tO,tO,tO,I⟩ (W.cn<|J (fun _=>(g 5 6 []<|J UA (RT ?_))) (noF rfl)))))))) (noF SI)
    exact vbf (fun q=>hB (q.par x (List.mem_of_getElem? hx)).sent)
  ·conv=>whnf
   refine W.sq<|g 54 58 []<|J UE<|W.cn<|J (fun _=>(W.skip (W.sq (W.blk (g 58 66 [.x (bw x)]<|J Zbg (g 66 81 [.call (V.b (decide (0≤x.kind∧x.kind≤8))) [[],[],[]],BT,BT,BT,BT,BT,BT,BT,BT,BT,BT]<|J ⟨I,I,⟨UC,I,UU,UA,ah _ _ _⟩,I,I,ag OM,ag OM,ag OM,ag OM,ag OM,I,rfl,rfl,rfl,rfl,rfl,I⟩ (W.cn<|J (fun _=>(g 5 6 []<|J UA (RT ?_))) (noF rfl)))))))) (noF SI)
   exact vbf (fun q=>hA (q.par x (List.mem_of_getElem? hx)).to)
 have hpar:∀ x∈w.flight,ParOk x:=by rw[aE OM]at hc3;exact hc3
 by_cases hs:w.boss.workers = w.workers.length
 ·by_cases hb:BossOk w.boss w.plan
  ·rw[decide_eq_true hb]at cb
   conv=>whnf
   refine W.sq<|g 54 58 []<|J UE<|W.cn<|J (noT SI) fun _=>W.exit<|g 7 96 [BT,BT,BT,BT,BT,.call VT [[],[]],BT]<|J ⟨I,I,I,I,I,I,I,I,⟨SI,I⟩,⟨SI,I⟩,⟨SI,I⟩,⟨SI,I⟩,⟨SI,UB,I,⟨UL,UA,I⟩,UA,AS⟩,SI,I,I⟩<|RT ?_
   exact vbt ⟨by omega,by omega,by omega,by omega,hc,hpar,hb,hs⟩
  ·rw[decide_eq_false hb]at cb
   conv=>whnf
   refine W.sq<|g 54 58 []<|J UE<|W.cn<|J (noT SI) fun _=>W.exit<|g 7 96 [BT,BT,BT,BT,BT,.call VF [[],[]],BT]<|J ⟨I,I,I,I,I,I,I,I,⟨SI,I⟩,⟨SI,I⟩,⟨SI,I⟩,⟨SI,I⟩,⟨SI,UB,I,⟨UL,UA,I⟩,UA,AS⟩,SI,I,I⟩<|RT ?_
   exact vbf (fun q=>hb q.boss)
 ·conv=>whnf
  refine W.sq<|g 54 58 []<|J UE<|W.cn<|J (noT SI) fun _=>W.exit<|g 7 96 [BF,BF,BF,BF,BF,BF]<|J ⟨I,I,I,I,I,I,I,I,SI,SI,SI,SI,SI,SI,I,I⟩<|RT ?_
  exact vbf (fun q=>hs q.same)
end Go.K
end
section
open Go Go.Tm Go.Proofs
namespace Go.K
structure FinOk (w:World):Prop where
 ok:WorldOk w
 up:w.boss.up = true
 all:∀ r∈w.boss.results,¬r = emp
noncomputable instance (w:World):Decidable (FinOk w):=Classical.propDecidable _
end Go.K
end
section
open Go Go.Tm Go.Proofs
namespace Go.K
theorem NB{w:World}(hw:zl w)(h:eO w≤1048576):WorldLim w:=by
 obtain⟨w0,w1,w2,w3,w4,w5,w6,w7⟩:=hw
 have e:eO w = aJ w.plan+ (w.key.size:Int) +bI w.boss+ ((w.workers.length:Int) +aj aQ w.workers) + ((w.flight.length:Int) +aj eB w.flight) + (w.forged.size:Int):=rfl
 have h1:=lz w.plan
 have h2:=jz w.boss
 have h3:=aI b9 w.workers
 have h4:=aI ge w.flight
 refine⟨w0,JF OM,w1,by omega,fun x hx=>?_,by omega,w6⟩
 have h5:=gJ b9 hx
 have h6:aQ x = (x.inputs.length+bP x.inputs) +x.text.size:=rfl
 have h7:=bi x.inputs
 omega
end Go.K
end
section
open Go Go.Tm Go.Proofs
namespace Go.K
structure Inv (L:Nat) (t:Tale) (ys:List ByteArray):Prop where
 len:t.results.length = L
 fwd:∀ s∈ys,∃ e,ed s = some e∧(¬e.kind = 1→e.kind = 2∧0≤e.task∧e.task < L∧atS t.results e.task = e.text∧¬e.text = emp)
 back:∀ i:Nat,¬atS t.results (i:Int) = emp→∃ s∈ys,∃ e,ed s = some e∧¬e.kind = 1∧e.task = (i:Int)∧e.text = atS t.results (i:Int)
theorem vg{rs:List ByteArray}{k:Int}{v:ByteArray}(h0:0≤k)(h:k < rs.length):atS (rs.set k.toNat v) k = v:=by
 unfold atS;rw[List.getElem?_set_self OM];rfl
theorem lH{rs:List ByteArray}{k j:Int}{v:ByteArray}(h0:0≤k)(hj:0≤j)(h:¬j = k):atS (rs.set k.toNat v) j = atS rs j:=by
 unfold atS;rw[List.getElem?_set_ne OM]
theorem QN{ts:List Task}{t u:Tale}{s:ByteArray}{ys:List ByteArray}(hi:Inv ts.length t ys)(h:dG ts t s = some u):Inv ts.length u (ys++ [s]):=by
 obtain⟨i1,i2,i3⟩:=hi
 unfold dG at h
 cases he:ed s with
 |none=>rw[he]at h;cases h
 |some e =>
  rw[he]at h
  have hok:=ju he
  obtain⟨o1,o2,o3⟩:=hok
  simp only at h
  by_cases hk:e.kind = 1
  ·rw[if_pos hk]at h
   split at h
   ·cases h
    refine⟨i1,fun s' hs'=>?_,fun i hi=>?_⟩
    ·rcases List.mem_append.1 hs' with hs'|hs'
     ·exact i2 s' hs'
     ·rw[List.mem_singleton.1 hs'];exact⟨e,he,fun q=>absurd hk q⟩
    ·obtain⟨s',hs',q⟩:=i3 i hi
     exact⟨s',List.mem_append_left _ hs',q⟩
   ·cases h
  ·rw[if_neg hk]at h
   split at h
   ·rename_i hc
    cases h
    obtain⟨_,c2,c3,_⟩:=hc
    have hlt:e.task < (t.results.length:Int):=by omega
    have h8:e.kind = 2∧(e.text.size:Int) = 8:=by
     rcases o3 with q|q
     ·exact absurd q.1 hk
     ·exact q
    have hne:¬e.text = emp:=fun q=>by have:=h8.2;rw[q]at this;cases this
    have c4:atS t.results e.task = emp:=c3
    refine⟨by rw[List.length_set];exact i1,fun s' hs'=>?_,fun i hi=>?_⟩
    ·rcases List.mem_append.1 hs' with hs'|hs'
     ·obtain⟨e',h1,h2⟩:=i2 s' hs'
      refine⟨e',h1,fun q=>?_⟩
      obtain⟨g0,g1,g2,g3,g4⟩:=h2 q
      have hd:¬e'.task = e.task:=fun w=>by rw[w,c4]at g3;exact g4 g3.symm
      exact⟨g0,g1,g2,by rw[lH o2.1 g1 hd];exact g3,g4⟩
     ·rw[List.mem_singleton.1 hs']
      exact⟨e,he,fun _=>⟨h8.1,o2.1,c2,vg o2.1 hlt,hne⟩⟩
    ·by_cases hd:(i:Int) = e.task
     ·refine⟨s,List.mem_append_right _ (List.mem_singleton.2 rfl),e,he,hk,hd.symm,?_⟩
      rw[hd,vg o2.1 hlt]
     ·rw[lH o2.1 OM hd]at hi ⊢
      obtain⟨s',hs',q⟩:=i3 i hi
      exact⟨s',List.mem_append_left _ hs',q⟩
   ·cases h
theorem Mt{ts:List Task}:∀ {l:List ByteArray} {t u:Tale} {ys:List ByteArray},Inv ts.length t ys→jU ts (some t) l = some u→Inv ts.length u (ys++l)
 |[],t,u,ys,hi,h=>by rw[jQ]at h;cases h;rw[List.append_nil];exact hi
 |s :: l,t,u,ys,hi,h=>by
  rw[oc]at h
  cases hs:dG ts t s with
  |none=>rw[hs,ib]at h;cases h
  |some v =>
   rw[hs]at h
   have:=Mt (QN hi hs) h
   rw[List.append_assoc]at this;exact this
theorem WY(n:Nat)(k:Int):atS (List.replicate n emp) k = emp:=by
 unfold atS;rw[List.getElem?_replicate];split <;> rfl
theorem QM(ts:List Task):Inv ts.length (lm ts) []:=⟨by rw[lm,List.length_replicate],fun s hs=>(by cases hs),fun i hi=>absurd (WY _ _) hi⟩
theorem uP{p:Plan}{xs:List ByteArray}(h:(aw p xs).code = 0):Inv p.tasks.length ⟨(aw p xs).epoch,(aw p xs).results⟩ xs:=by
 obtain⟨_,_,_,t,h1,h2⟩:=cz h
 have:=Mt (QM p.tasks) h1
 rw[h2];exact this
end Go.K
end
section
open Go Go.Tm Go.Proofs
namespace Go.K
def mC(w:Int)(j:Job):Job:=if j.worker = w then fz else j
def nd(l t:Int)(j:Job):Job:=if j.lease = l then⟨j.lease,j.worker,t⟩else j
def fV(m:Message):Nat:=(m.frm - 1).toNat
def rC(b:Boss)(m:Message):Prop:=m.epoch < (lN b.seats (fV m)).epoch
instance (b:Boss) (m:Message):Decidable (rC b m):=by unfold rC;infer_instance
def mD(b:Boss)(m:Message):Boss:=if rC b m then b else⟨b.workers,b.up,b.now,b.since,b.epoch,b.given,b.log,b.results,b.jobs,b.seats.set (fV m) ⟨true,m.epoch⟩,b.owed⟩
def wQ(b:Boss)(m:Message):Boss:=if rC b m then b else⟨b.workers,b.up,b.now,b.since,b.epoch,b.given,b.log,b.results,b.jobs.map (mC m.frm),b.seats.set (fV m) ⟨true,m.epoch⟩,b.owed⟩
def Ts(b:Boss)(m:Message):Boss:=⟨b.workers,b.up,b.now,b.since,b.epoch,b.given,b.log,b.results,b.jobs.map (nd m.lease (b.now+12)),b.seats,b.owed⟩
structure CanPut (b:Boss) (ts:List Task) (m:Message):Prop where
 res:atS b.results m.task = emp
 ready:cU b.results (nc ts m.task.toNat)
 room:b.log.safe.length+b.log.loose.length < 310
noncomputable instance (b:Boss) (ts:List Task) (m:Message):Decidable (CanPut b ts m):=Classical.propDecidable _
def mo(b:Boss)(m:Message):Boss:=⟨b.workers,b.up,b.now,b.since,b.epoch,b.given,⟨b.log.safe,b.log.loose++ [dc ⟨2,b.epoch,m.task,m.text⟩]⟩,b.results.set m.task.toNat m.text,b.jobs.set m.task.toNat fz,b.seats,b.owed⟩
noncomputable def sJ(b:Boss)(ts:List Task)(m:Message):Boss:=if CanPut b ts m then mo b m else b
def Ef(b:Boss)(m:Message):Boss:=if atS b.results m.task = emp then mD b m else b
structure Owes (b:Boss) (m:Message):Prop where
 same:atS b.results m.task = m.text
 room:b.owed.length < 2000
 new:∀ o∈b.owed,¬(o.worker = m.frm∧o.lease = m.lease)
noncomputable instance (b:Boss) (m:Message):Decidable (Owes b m):=Classical.propDecidable _
noncomputable def Bp(b:Boss)(m:Message):Boss:=if Owes b m then⟨b.workers,b.up,b.now,b.since,b.epoch,b.given,b.log,b.results,b.jobs,b.seats,b.owed++ [⟨m.frm,m.lease,m.task⟩]⟩else b
noncomputable def eP(b:Boss)(ts:List Task)(m:Message):Boss:=Bp (Ef (sJ b ts m) m) m
structure ForB (b:Boss) (m:Message):Prop where
 up:b.up = true
 ok:bO m
 to:m.to = 0
 frm:m.frm≤b.workers
noncomputable instance (b:Boss) (m:Message):Decidable (ForB b m):=Classical.propDecidable _
noncomputable def gR(b:Boss)(ts:List Task)(m:Message):Boss :=
 if ForB b m then
  (if m.kind = 5 then wQ b m else if m.kind = 2 then Ts b m else if m.kind = 3 then(if m.task < ts.length then eP b ts m else b)else b)
 else b
theorem GJ{b:Boss}{ts:List Task}{m:Message}(h:¬ForB b m):gR b ts m = b:=if_neg h
theorem n7{b:Boss}{ts:List Task}{m:Message}(h:ForB b m)(hk:m.kind = 5):gR b ts m = wQ b m:=by rw[gR,if_pos h,if_pos hk]
theorem n8{b:Boss}{ts:List Task}{m:Message}(h:ForB b m)(hk:m.kind = 2):gR b ts m = Ts b m:=by rw[gR,if_pos h,if_neg OM,if_pos hk]
theorem r7{b:Boss}{ts:List Task}{m:Message}(h:ForB b m)(hk:m.kind = 3)(ht:m.task < ts.length):gR b ts m = eP b ts m:=by rw[gR,if_pos h,if_neg OM,if_neg OM,if_pos hk,if_pos ht]
theorem r8{b:Boss}{ts:List Task}{m:Message}(h:ForB b m)(hk:m.kind = 3)(ht:¬m.task < ts.length):gR b ts m = b:=by rw[gR,if_pos h,if_neg OM,if_neg OM,if_pos hk,if_neg ht]
theorem nR{b:Boss}{m:Message}(h:ForB b m):(m.kind = 2∨m.kind = 3∨m.kind = 5)∧(1≤m.frm∧m.frm≤8)∧(1≤m.epoch∧m.epoch≤300):=by
 obtain⟨h1,h2⟩:=h.ok
 have h0:=h.to
 rcases h2 with q|q|q|q|q
 ·have:=q.2.2.1;omega
 ·exact⟨.inl q.1,q.2.2.1,h1⟩
 ·exact⟨.inr (.inl q.1),q.2.2.1,h1⟩
 ·have:=q.2.2.1;omega
 ·exact⟨.inr (.inr q.1),q.2.2.1,h1⟩
theorem Gy{b:Boss}{m:Message}(h:ForB b m)(hk:m.kind = 3):(1≤m.lease∧m.lease≤300000000)∧(0≤m.task∧m.task≤39)∧(m.text.size:Int) = 8:=by
 obtain⟨h1,h2⟩:=h.ok
 rcases h2 with q|q|q|q|q
 ·have:=q.1;omega
 ·have:=q.1;omega
 ·exact⟨q.2.2.2.1,q.2.2.2.2.1,q.2.2.2.2.2.1⟩
 ·have:=q.1;omega
 ·have:=q.1;omega
noncomputable def DS(b:Boss)(p:Plan)(m:Message):Led:=if BossOk b p then⟨gR b p.tasks m,[]⟩else GR
theorem nX{b:Boss}{p:Plan}{m:Message}(h:BossOk b p):DS b p m = ⟨gR b p.tasks m,[]⟩:=if_pos h
theorem Re{b:Boss}{p:Plan}{m:Message}(h:¬BossOk b p):DS b p m = GR:=if_neg h
end Go.K
end
section
open Go Go.Tm Go.Proofs
namespace Go.K
theorem WL{ep now given workers:Int}{rs:List ByteArray}{ts:List Task}{js:List Job}{k:Int}{tx:ByteArray}(h:JL ep now given workers rs ts js)(h0:0≤k)(hk:k < rs.length)(hj:k < js.length)(ht:¬tx = emp):JL ep now given workers (rs.set k.toNat tx) ts (js.set k.toNat fz):=by
 have g:∀ {i:Nat} {x:Job},(js.set k.toNat fz)[i]? = some x→¬x.lease = 0→¬(i:Int) = k∧js[i]? = some x:=fun{i x} hx hz=>by
  by_cases e:i = k.toNat
  ·subst e
   rw[List.getElem?_set_self OM]at hx
   rw[←Option.some.inj hx]at hz;exact absurd rfl hz
  ·rw[List.getElem?_set_ne (fun q=>e q.symm)]at hx
   exact⟨by omega,hx⟩
 have hat:∀ i:Int,0≤i→¬i = k→atS (rs.set k.toNat tx) i = atS rs i:=fun i hi e=>lH h0 hi e
 refine⟨fun i x hx hz=>?_,fun i x hx hz=>h.lease i x (g hx hz).2 hz,fun i x hx hz=>h.worker i x (g hx hz).2 hz,fun i x hx hz=>h.til i x (g hx hz).2 hz,fun i x hx hz=>?_,fun i x hx hz=>?_,fun i m x y him hx hy hz e=>?_⟩
 ·by_cases e:i = k.toNat
  ·subst e
   rw[List.getElem?_set_self OM]at hx
   rw[←Option.some.inj hx];exact⟨rfl,rfl⟩
  ·rw[List.getElem?_set_ne (fun q=>e q.symm)]at hx
   exact h.zero i x hx hz
 ·rw[hat i OM (g hx hz).1];exact h.res i x (g hx hz).2 hz
 ·intro d hd q
  have hr:=h.ready i x (g hx hz).2 hz d hd
  by_cases e:d.toNat = k.toNat
  ·rw[e,List.getElem?_set_self OM]at q;exact ht q
  ·rw[List.getElem?_set_ne (fun w=>e w.symm)]at q;exact hr q
 ·have hzx:¬x.lease = 0:=fun w=>hz (by rw[←e];exact w)
  exact h.once i m x y him (g hx hzx).2 (g hy hz).2 hz e
theorem K5{b:Boss}{p:Plan}{m:Message}(hv:BossOk b p)(hup:b.up = true)(he:1≤m.epoch∧m.epoch≤300):BossOk (mD b m) p:=by
 unfold mD;split
 ·exact hv
 ·obtain⟨u1,u2,u3,u4,u5,u6,u7,u9,u11,u12,u13,u14⟩:=hv.up hup
  refine⟨hv.plan,hv.workers,hv.now,hv.code,fun _=>?_,fun e=>by rw[show b.up = false from e]at hup;cases hup⟩
  refine⟨u1,u2,u3,u4,by show((b.seats.set _ _).length:Int) = _;rw[List.length_set];exact u5,u6,u7,u9,u11,DR (show JL b.epoch b.now b.given b.workers b.results p.tasks b.jobs from GV u12),fun s hs=>?_,fun o ho=>by obtain⟨a1,a2,a3,a4⟩:=u14 o ho;exact⟨a1,a2,a3,a4⟩⟩
  rcases List.mem_or_eq_of_mem_set hs with hs|hs
  ·exact u13 s hs
  ·rw[hs];exact⟨by dsimp only;omega,by dsimp only;omega⟩
theorem K0{b:Boss}{p:Plan}{m:Message}(hv:BossOk b p)(hup:b.up = true)(he:1≤m.epoch∧m.epoch≤300):BossOk (wQ b m) p:=by
 unfold wQ;split
 ·exact hv
 ·obtain⟨u1,u2,u3,u4,u5,u6,u7,u9,u11,u12,u13,u14⟩:=hv.up hup
  refine⟨hv.plan,hv.workers,hv.now,hv.code,fun _=>?_,fun e=>by rw[show b.up = false from e]at hup;cases hup⟩
  refine⟨u1,u2,u3,by show(b.jobs.map _).length = _;rw[List.length_map];exact u4,by show((b.seats.set _ _).length:Int) = _;rw[List.length_set];exact u5,u6,u7,u9,u11,DR (Uy (GV u12)),fun s hs=>?_,fun o ho=>by obtain⟨a1,a2,a3,a4⟩:=u14 o ho;exact⟨a1,a2,a3,a4⟩⟩
  rcases List.mem_or_eq_of_mem_set hs with hs|hs
  ·exact u13 s hs
  ·rw[hs];exact⟨by dsimp only;omega,by dsimp only;omega⟩
theorem Ll{b:Boss}{p:Plan}{m:Message}(hv:BossOk b p)(hup:b.up = true)(hl:1≤m.lease):BossOk (Ts b m) p:=by
 obtain⟨u1,u2,u3,u4,u5,u6,u7,u9,u11,u12,u13,u14⟩:=hv.up hup
 refine⟨hv.plan,hv.workers,hv.now,hv.code,fun _=>?_,fun e=>by rw[show b.up = false from e]at hup;cases hup⟩
 exact⟨u1,u2,u3,by show(b.jobs.map _).length = _;rw[List.length_map];exact u4,u5,u6,u7,u9,u11,DR (Uz hl (GV u12)),u13,fun o ho=>by obtain⟨a1,a2,a3,a4⟩:=u14 o ho;exact⟨a1,a2,a3,a4⟩⟩
theorem KE{b:Boss}{p:Plan}{m:Message}(hv:BossOk b p)(hup:b.up = true)(ht:0≤m.task∧m.task < p.tasks.length)(hx:(m.text.size:Int) = 8):BossOk (sJ b p.tasks m) p:=by
 unfold sJ;split
 ·rename_i hp
  obtain⟨u1,u2,u3,u4,u5,u6,u7,u9,u11,u12,u13,u14⟩:=hv.up hup
  obtain⟨c1,c2,c3⟩:=hp
  have hne:¬m.text = emp:=fun q=>by rw[q]at hx;cases hx
  obtain⟨t,ht0⟩:=af (xs:=p.tasks) (n:=m.task.toNat) OM
  rw[dP ht0]at c2
  have hc:(aw p (b.log.safe++b.log.loose)).code = 0:=hv.code
  have h3:=(fw hc).2
  have hpl:=(bT hv.plan).1
  have hok:Entry.ok ⟨2,b.epoch,m.task,m.text⟩:=⟨⟨u2,by show b.epoch≤300;rw[u1];exact h3⟩,⟨ht.1,by show m.task≤39;omega⟩,.inr ⟨rfl,hx⟩⟩
  have e:=Hu (p:=p) (xs:=b.log.safe++b.log.loose) (e:=⟨2,b.epoch,m.task,m.text⟩) hc (by rw[List.length_append];exact c3) hok (by show ¬(2:Int) = 1;omega) u1 ht0 ht.2 (by rw[←show b.results = (aw p (b.log.safe++b.log.loose)).results from u6];exact c1) (by rw[←show b.results = (aw p (b.log.safe++b.log.loose)).results from u6];exact c2)
  have es:cx (mo b m) p = ⟨0,(cx b p).epoch,(cx b p).results.set m.task.toNat m.text⟩:=by
   show aw p (b.log.safe++ (b.log.loose++ [dc _])) = _
   rw[←List.append_assoc,e];rfl
  refine⟨hv.plan,hv.workers,hv.now,by rw[es],fun _=>?_,fun e=>by rw[show b.up = false from e]at hup;cases hup⟩
  rw[es]
  refine⟨u1,u2,by show(b.results.set _ _).length = _;rw[List.length_set];exact u3,by show(b.jobs.set _ _).length = _;rw[List.length_set];exact u4,u5,by show b.results.set _ _ = _;rw[u6],u7,u9,u11,DR (WL (GV u12) ht.1 OM OM hne),u13,fun o ho=>?_⟩
  obtain⟨a1,a2,a3,a4⟩:=u14 o ho
  refine⟨a1,a2,a3,fun q=>?_⟩
  change atS (b.results.set m.task.toNat m.text) o.task = emp at q
  by_cases e:o.task = m.task
  ·rw[e,vg ht.1 OM]at q;exact hne q
  ·rw[lH ht.1 a3.1 e]at q;exact a4 q
 ·exact hv
theorem KC{b:Boss}{p:Plan}{m:Message}(hv:BossOk b p)(hup:b.up = true)(hf:1≤m.frm∧m.frm≤b.workers)(hl:1≤m.lease∧m.lease≤300000000)(ht:0≤m.task∧m.task < p.tasks.length)(hx:(m.text.size:Int) = 8):BossOk (Bp b m) p:=by
 unfold Bp;split
 ·rename_i ho
  obtain⟨u1,u2,u3,u4,u5,u6,u7,u9,u11,u12,u13,u14⟩:=hv.up hup
  have hne:¬m.text = emp:=fun q=>by rw[q]at hx;cases hx
  have hr:=ho.room
  refine⟨hv.plan,hv.workers,hv.now,hv.code,fun _=>?_,fun e=>by rw[show b.up = false from e]at hup;cases hup⟩
  refine⟨u1,u2,u3,u4,u5,u6,u7,u9,by show(b.owed++ [_]).length≤2000;rw[List.length_append,List.length_singleton];omega,DR (show JL b.epoch b.now b.given b.workers b.results p.tasks b.jobs from GV u12),u13,fun o ho2=>?_⟩
  rcases List.mem_append.1 ho2 with ho2|ho2
  ·obtain⟨a1,a2,a3,a4⟩:=u14 o ho2;exact⟨a1,a2,a3,a4⟩
  ·rw[List.mem_singleton.1 ho2]
   exact⟨hf,hl,⟨ht.1,by dsimp only;omega⟩,by show ¬atS b.results m.task = emp;rw[ho.same];exact hne⟩
 ·exact hv
theorem LZ{b:Boss}{ts:List Task}{m:Message}:(sJ b ts m).up = b.up∧(sJ b ts m).workers = b.workers:=by unfold sJ;split <;> exact⟨rfl,rfl⟩
theorem LY{b:Boss}{m:Message}:(Ef b m).up = b.up∧(Ef b m).workers = b.workers:=by
 unfold Ef;split
 ·unfold mD;split <;> exact⟨rfl,rfl⟩
 ·exact⟨rfl,rfl⟩
theorem Ko{b:Boss}{p:Plan}(m:Message)(hv:BossOk b p):BossOk (gR b p.tasks m) p:=by
 by_cases hf:ForB b m
 ·obtain⟨hkd,⟨f1,f2⟩,he⟩:=nR hf
  have hup:=hf.up
  rcases hkd with hk|hk|hk
  ·rw[n8 hf hk]
   refine Ll hv hup ?_
   rcases hf.ok.2 with q|q|q|q|q
   ·have:=q.1;omega
   ·exact q.2.2.2.1.1
   ·have:=q.1;omega
   ·have:=q.1;omega
   ·have:=q.1;omega
  ·by_cases ht:m.task < p.tasks.length
   ·rw[r7 hf hk ht]
    obtain⟨r1,⟨r2,_⟩,r4⟩:=Gy hf hk
    have v1:=KE hv hup ⟨r2,ht⟩ r4
    obtain⟨w1,w2⟩:=LZ (b:=b) (ts:=p.tasks) (m:=m)
    have v2:BossOk (Ef (sJ b p.tasks m) m) p:=by
     unfold Ef;split
     ·exact K5 v1 (by rw[w1];exact hup) he
     ·exact v1
    obtain⟨w3,w4⟩:=LY (b:=sJ b p.tasks m) (m:=m)
    exact KC v2 (by rw[w3,w1];exact hup) ⟨f1,by rw[w4,w2];exact hf.frm⟩ r1 ⟨r2,ht⟩ r4
   ·rw[r8 hf hk ht];exact hv
  ·rw[n7 hf hk];exact K0 hv hup he
 ·rw[GJ hf];exact hv
end Go.K
end
section
open Go Go.Tm Go.Proofs
namespace Go.K
def ci(w:Worker)(ts:List Task)(m:Message):Prop:=m.kind = 1∧(∃ t,ts[m.task.toNat]? = some t∧m.inputs.length = t.deps.length)∧(w.state = 0∨w.lease < m.lease)
def cy(w:Worker)(m:Message):Prop:=m.kind = 4∧w.state = 2∧w.lease = m.lease
def ln(w:Worker)(m:Message):Prop:=w.up = true∧bO m∧m.to = w.number
def jy(ts:List Task)(k:Int):Int:=((ts[k.toNat]?).map Task.cost).getD 0
open Classical in
noncomputable def jE(w:Worker)(ts:List Task)(m:Message):Worker :=
 if ln w m then
  if ci w ts m then⟨w.number,w.epoch,true,1,m.lease,m.task,jy ts m.task,jy ts m.task,m.inputs,emp,0⟩
  else if cy w m then⟨w.number,w.epoch,w.up,0,0,0,0,0,[],emp,3⟩else w
 else w
abbrev Uc(x:Worker):V:=.agg [.t (.i x.number),.t (.i x.epoch),.t (.b x.up),.t (.i x.state),.t (.i x.lease),.t (.i x.task),.t (.i x.cost),.t (.i x.left),.t .hole,.t (.s x.text),.t (.i x.since)]
theorem mH(w:Worker)(s:Int):F oM [.val (Uc w),.val (.i s)] (aC ⟨w.number,w.epoch,w.up,0,0,0,0,0,[],emp,s⟩) [[],[]]:=by
 refine oX ?_
 conv=>whnf
 refine g 0 0 []<|J Zd6<|g 5 13 []<|J ⟨I,I,I,I,I,I,I,I,UK,I⟩<|RT ?_
 rfl
theorem kK{w:Worker}{ts:List Task}{m:Message}(h:¬ln w m):jE w ts m = w:=if_neg h
theorem mi{w:Worker}{ts:List Task}{m:Message}(h:ln w m)(h1:ci w ts m):jE w ts m = ⟨w.number,w.epoch,true,1,m.lease,m.task,jy ts m.task,jy ts m.task,m.inputs,emp,0⟩:=by rw[jE,if_pos h,if_pos h1]
theorem vp{w:Worker}{ts:List Task}{m:Message}(h:ln w m)(h1:ci w ts m):jE w ts m = ⟨w.number,w.epoch,w.up,1,m.lease,m.task,jy ts m.task,jy ts m.task,m.inputs,emp,0⟩:=by rw[mi h h1,h.1]
theorem nk{w:Worker}{ts:List Task}{m:Message}(h:ln w m)(h1:cy w m):jE w ts m = ⟨w.number,w.epoch,w.up,0,0,0,0,0,[],emp,3⟩:=by
 rw[jE,if_pos h,if_neg (fun q=>by have:=q.1;have:=h1.1;omega),if_pos h1]
theorem dD{w:Worker}{ts:List Task}{m:Message}(h1:¬ci w ts m)(h2:¬cy w m):jE w ts m = w:=by
 by_cases h:ln w m
 ·rw[jE,if_pos h,if_neg h1,if_neg h2]
 ·exact kK h
theorem Aw{ts:List Task}{k:Int}{t:Task}(h:ts[k.toNat]? = some t):jy ts k = t.cost:=by unfold jy;rw[h];rfl
noncomputable def vU(w:Worker)(p:Plan)(m:Message):Acted:=if av w∧aq p.tasks = 0 then⟨jE w p.tasks m,[]⟩else zV
theorem Iz{w:Worker}{p:Plan}{m:Message}(h:¬(av w∧aq p.tasks = 0)):vU w p m = zV:=if_neg h
theorem ea{w:Worker}{p:Plan}{m:Message}(h:av w)(h2:aq p.tasks = 0):vU w p m = ⟨jE w p.tasks m,[]⟩:=if_pos ⟨h,h2⟩
theorem pQ(w:Worker)(p:Plan)(m:Message)(h:av w)(hc:aq p.tasks = 0)(hm:m.inputs.length≤9223372036854775806):F py [.val (aC w),.val (cO p),.val (en m)] (aC (jE w p.tasks m)) [[],[],[]]:=by
 have cm:=cG m hm
 by_cases hup:w.up = true
 ·by_cases hok:bO m
  ·rw[decide_eq_true hok]at cm
   have hi:=(de hok).1
   obtain⟨_,_,_,_,⟨r1,r2⟩,⟨r3,r4⟩⟩:=fy hok
   by_cases hto:m.to = w.number
   ·have hf:ln w m:=⟨hup,hok,hto⟩
    by_cases hk:m.kind = 1
    ·have nt:¬cy w m:=fun q=>by have:=q.1;omega
     by_cases ht:m.task < p.tasks.length
     ·obtain⟨t,ht2⟩:=af (xs:=p.tasks) (n:=m.task.toNat) OM
      obtain⟨_,_,g3,_⟩:=bZ hc ht2
      by_cases hd:m.inputs.length = t.deps.length
      ·by_cases hs:w.state = 0
       ·have ho:ci w p.tasks m:=⟨hk,⟨t,ht2,hd⟩,.inl hs⟩
        refine bd ?_
        conv=>whnf
        refine g 0 0 []<|J Zbx<|W.sq<|g 9 22 [BF,BF,.call VT [[]],BF,BF,BF,BF,BF,BF,BF,BF]<|J Zae<|W.cn<|J (noT nO) fun _=>W.skip<|W.sq<|g 22 25 []<|J UB<|W.blk<|g 27 28 []<|J UB<|W.cn<|J (fun _=>(W.sq (gd 25 47 [[],[],[],[],[],[],[],[BF],[BF],[BF],[BF],[BF],[BF],[BF],[BF,.x (ay t)],[BF],[BF],[BF],[BF],[BF]] ?_))) (noF tO)
        conv=>whnf
        refine⟨Za4,by kernel_rfl,?_⟩
        refine W.cn<|J (noT SI) fun _=>W.skip<|g 47 58 [BT,BT,BT,BT,BT,BT]<|J ⟨I,I,I,I,tO,tO,tO,tO,tO,tO,I⟩<|W.cn<|J (fun _=>(g 58 66 [.x (ay t)]<|J Zcz (gd 7 80 [[],[],[],[],[],[],[],[],[],[],[],[],[.call (V.own [false] (List.map ak m.inputs)) [[]]],[],[]] ?_))) (noF rfl)
        conv=>whnf
        refine⟨⟨I,I,I,I,I,I,I,I,I,I,I,I,⟨UA,I,US,UA,eG _ OM⟩,I,UK,I⟩,by kernel_rfl,?_⟩
        refine RT ?_
        rw[mi hf ho,Aw ht2]
        all_goals rfl
       ·by_cases hl:w.lease < m.lease
        ·have ho:ci w p.tasks m:=⟨hk,⟨t,ht2,hd⟩,.inr hl⟩
         refine bd ?_
         conv=>whnf
         refine g 0 0 []<|J Zbx<|W.sq<|g 9 22 [BF,BF,.call VT [[]],BF,BF,BF,BF,BF,BF,BF,BF]<|J Zae<|W.cn<|J (noT nO) fun _=>W.skip<|W.sq<|g 22 25 []<|J UB<|W.blk<|g 27 28 []<|J UB<|W.cn<|J (fun _=>(W.sq (gd 25 47 [[],[],[],[],[],[],[],[BF],[BF],[BF],[BF],[BF],[BF],[BF],[BF,.x (ay t)],[BF],[BF],[BF],[BF],[BF]] ?_))) (noF tO)
         conv=>whnf
         refine⟨Za4,by kernel_rfl,?_⟩
         refine W.cn<|J (noT SI) fun _=>W.skip<|g 47 58 [BF,BF,BF,BF,BF,BF]<|J ⟨I,I,I,I,⟨dO,I⟩,⟨dO,I⟩,⟨dO,I⟩,⟨dO,I⟩,⟨dO,I⟩,dO,I⟩<|W.cn<|J (fun _=>(g 58 66 [.x (ay t)]<|J Zcz (gd 7 80 [[],[],[],[],[],[],[],[],[],[],[],[],[.call (V.own [false] (List.map ak m.inputs)) [[]]],[],[]] ?_))) (noF tO)
         conv=>whnf
         refine⟨⟨I,I,I,I,I,I,I,I,I,I,I,I,⟨UA,I,US,UA,eG _ OM⟩,I,UK,I⟩,by kernel_rfl,?_⟩
         refine RT ?_
         rw[mi hf ho,Aw ht2]
         all_goals rfl
        ·have no:¬ci w p.tasks m:=fun q=>by have:=q.2.2;omega
         refine bd ?_
         conv=>whnf
         refine g 0 0 []<|J Zbx<|W.sq<|g 9 22 [BF,BF,.call VT [[]],BF,BF,BF,BF,BF,BF,BF,BF]<|J Zae<|W.cn<|J (noT nO) fun _=>W.skip<|W.sq<|g 22 25 []<|J UB<|W.blk<|g 27 28 []<|J UB<|W.cn<|J (fun _=>(W.sq (gd 25 47 [[],[],[],[],[],[],[],[BF],[BF],[BF],[BF],[BF],[BF],[BF],[BF,.x (ay t)],[BF],[BF],[BF],[BF],[BF]] ?_))) (noF tO)
         conv=>whnf
         refine⟨Za4,by kernel_rfl,?_⟩
         refine W.cn<|J (noT SI) fun _=>W.skip<|g 47 58 [BF,BF,BF,BF,BF,BF]<|J ⟨I,I,I,I,⟨dO,I⟩,⟨dO,I⟩,⟨dO,I⟩,⟨dO,I⟩,⟨dO,I⟩,dO,I⟩<|W.cn<|J (noT dO) fun _=>W.skip<|g 0 6 []<|J Zec<|RT ?_
         rw[dD no nt];all_goals rfl
      ·have no:¬ci w p.tasks m:=fun q=>by obtain⟨t2,h2,h3⟩:=q.2.1;rw[ht2]at h2;cases h2;exact hd h3
       refine bd ?_
       conv=>whnf
       refine g 0 0 []<|J Zbx<|W.sq<|g 9 22 [BF,BF,.call VT [[]],BF,BF,BF,BF,BF,BF,BF,BF]<|J Zae<|W.cn<|J (noT nO) fun _=>W.skip<|W.sq<|g 22 25 []<|J UB<|W.blk<|g 27 28 []<|J UB<|W.cn<|J (fun _=>(W.sq (gd 25 47 [[],[],[],[],[],[],[],[BF],[BF],[BF],[BF],[BF],[BF],[BF],[BF,.x (ay t)],[BF],[BF],[BF],[BF],[BF]] ?_))) (noF tO)
       conv=>whnf
       refine⟨Za4,by kernel_rfl,?_⟩
       refine W.cn<|J (fun h1=>?_) fun h1=>?_
       replace h1:=ndt h1
       simp only[LM]at h1
       refine g 47 49 []<|J Zec<|RT ?_
       rotate_left
       replace h1:=ndf h1
       simp only[LM]at h1
       omega
       rw[dD no nt];all_goals rfl
     ·have no:¬ci w p.tasks m:=fun q=>by obtain⟨t2,h2,h3⟩:=q.2.1;have:=(List.getElem?_eq_some_iff.1 h2).1;omega
      refine bd ?_
      conv=>whnf
      refine g 0 0 []<|J Zbx<|W.sq<|g 9 22 [BF,BF,.call VT [[]],BF,BF,BF,BF,BF,BF,BF,BF]<|J Zae<|W.cn<|J (noT nO) fun _=>W.skip<|W.sq<|g 22 25 []<|J UB<|W.blk<|g 27 28 []<|J UB<|W.cn<|J (fun _=>(W.sq (gd 25 47 [[],[],[],[],[],[],[],[BT],[BT],[BT],[BT],[BT],[BT],[BT],[BT],[BT],[BT],[BT],[BT],[BT]] ?_))) (noF tO)
      conv=>whnf
      refine⟨⟨I,I,I,I,I,I,I,(by simp_all),(by simp_all),(by simp_all),(by simp_all),(by simp_all),(by simp_all),(by simp_all),(by simp_all),(by simp_all),(by simp_all),(by simp_all),(by simp_all),(by simp_all),I⟩,by kernel_rfl,?_⟩
      refine W.cn<|J (fun _=>(g 47 49 []<|J Zec (RT ?_))) (noF rfl)
      rw[dD no nt];all_goals rfl
    ·have no:¬ci w p.tasks m:=fun q=>hk q.1
     by_cases hk4:m.kind = 4
     ·by_cases hs:w.state = 2
      ·by_cases hl:w.lease = m.lease
       ·have yt:cy w m:=⟨hk4,hs,hl⟩
        refine bd ?_
        conv=>whnf
        refine g 0 0 []<|J Zbx<|W.sq<|g 9 22 [BF,BF,.call VT [[]],BF,BF,BF,BF,BF,BF,BF,BF]<|J Zae<|W.cn<|J (noT nO) fun _=>W.skip<|W.sq<|g 22 25 []<|J UB<|W.blk<|g 27 28 []<|J UB<|W.cn<|J (noT dO) fun _=>g 0 3 []<|J UB<|W.cn<|J (fun _=>?_) (noF tO)
        refine g 8 91 [BT,BT,BT,BT,BT,BT]<|J ⟨I,I,I,I,⟨tO,I⟩,⟨tO,I⟩,⟨tO,I⟩,⟨tO,I⟩,⟨tO,I⟩,tO,I⟩<|W.cn<|J (fun _=>(g 4 6 [.call (aC {number:=w.number,epoch:=w.epoch,up:=w.up,state:=0,lease:=0,task:=0,cost:=0,left:=0,inputs:=[],text:=emp,since:=3:Worker}) [[],[]]]<|J ⟨I,⟨UB,I,⟨UK,UA,I⟩,UA,iI _ _⟩,UK,I⟩ (RT ?_))) (noF tO)
        rw[nk hf yt]
        all_goals rfl
       ·have nt:¬cy w m:=fun q=>hl q.2.2
        refine bd ?_
        conv=>whnf
        refine g 0 0 []<|J Zbx<|W.sq<|g 9 22 [BF,BF,.call VT [[]],BF,BF,BF,BF,BF,BF,BF,BF]<|J Zae<|W.cn<|J (noT nO) fun _=>W.skip<|W.sq<|g 22 25 []<|J UB<|W.blk<|g 27 28 []<|J UB<|W.cn<|J (noT dO) fun _=>g 0 3 []<|J UB<|W.cn<|J (fun _=>?_) (noF tO)
        refine g 8 91 [BT,BT,BT,BT,BT,BT]<|J ⟨I,I,I,I,⟨tO,I⟩,⟨tO,I⟩,⟨tO,I⟩,⟨tO,I⟩,⟨tO,I⟩,tO,I⟩<|W.cn<|J (noT dO) fun _=>W.skip<|g 3 6 []<|J Zec<|RT ?_
        rw[dD no nt];all_goals rfl
      ·have nt:¬cy w m:=fun q=>hs q.2.1
       refine bd ?_
       conv=>whnf
       refine g 0 0 []<|J Zbx<|W.sq<|g 9 22 [BF,BF,.call VT [[]],BF,BF,BF,BF,BF,BF,BF,BF]<|J Zae<|W.cn<|J (noT nO) fun _=>W.skip<|W.sq<|g 22 25 []<|J UB<|W.blk<|g 27 28 []<|J UB<|W.cn<|J (noT dO) fun _=>g 0 3 []<|J UB<|W.cn<|J (fun _=>?_) (noF tO)
       refine g 8 91 [BF,BF,BF,BF,BF,BF]<|J ⟨I,I,I,I,dO,dO,dO,dO,dO,dO,I⟩<|W.cn<|J (noT rfl) fun _=>W.skip<|g 3 6 []<|J Zec<|RT ?_
       rw[dD no nt];all_goals rfl
     ·have nt:¬cy w m:=fun q=>hk4 q.1
      refine bd ?_
      conv=>whnf
      refine g 0 0 []<|J Zbx<|W.sq<|g 9 22 [BF,BF,.call VT [[]],BF,BF,BF,BF,BF,BF,BF,BF]<|J Zae<|W.cn<|J (noT nO) fun _=>W.skip<|W.sq<|g 22 25 []<|J UB<|W.blk<|g 27 28 []<|J UB<|W.cn<|J (noT dO) fun _=>g 0 3 []<|J UB<|W.cn<|J (noT dO) fun _=>?_
      refine W.skip<|g 8 95 []<|J Zec<|RT ?_
      rw[dD no nt];all_goals rfl
   ·have nf:¬ln w m:=fun q=>hto q.2.2
    refine bd ?_
    conv=>whnf
    refine g 0 0 []<|J Zbx<|W.sq<|g 9 22 [BF,BF,.call VT [[]],BF,BF,BF,BF,BF,BF,BF,BF]<|J Zae<|W.cn<|J (fun _=>(g 22 24 []<|J Zec (RT ?_))) (noF (ag OM))
    rw[kK nf];all_goals rfl
  ·rw[decide_eq_false hok]at cm
   have nf:¬ln w m:=fun q=>hok q.2.1
   refine bd ?_
   conv=>whnf
   refine g 0 0 []<|J Zbx<|W.sq<|g 9 22 [BF,BF,.call VF [[]],BF,BF,BT,BT,BT,BT,BT,BT]<|J ⟨I,I,I,I,Zd0,Zan,Zd0,nbF AS,I,rfl,rfl,rfl,rfl,rfl,rfl,I⟩<|W.cn<|J (fun _=>(g 22 24 []<|J Zec (RT ?_))) (noF rfl)
   rw[kK nf];all_goals rfl
 ·have nf:¬ln w m:=fun q=>hup q.1
  refine bd ?_
  conv=>whnf
  refine g 0 0 []<|J Zbx<|W.sq<|g 9 22 [BT,BT,BT,BT,BT,BT,BT,BT,BT,BT]<|J ⟨I,I,I,I,SI,SI,SI,SI,I,rfl,rfl,rfl,rfl,rfl,rfl,I⟩<|W.cn<|J (fun _=>(g 22 24 []<|J Zec (RT ?_))) (noF rfl)
  rw[kK nf];all_goals rfl
theorem rm(w:Worker)(p:Plan)(m:Message)(hp:dl p)(hll:w.inputs.length≤1048576)(hm:m.inputs.length≤9223372036854775806):F qP [.val (dS w),.val (cO p),.val (en m)] (pm (vU w p m)) [[],[],[]]:=by
 have cp:=cY p hp
 by_cases h:av w
 ·by_cases hc:aq p.tasks = 0
  ·rw[hc]at cp
   have cm:=nC m hm
   have cf3:=mH w 3
   have cf0:=mH w 0
   by_cases hup:w.up = true
   ·by_cases hok:bO m
    ·rw[decide_eq_true hok]at cm
     have hi:=(de hok).1
     obtain⟨_,_,_,_,⟨r1,r2⟩,⟨r3,r4⟩⟩:=fy hok
     by_cases hto:m.to = w.number
     ·have hf:ln w m:=⟨hup,hok,hto⟩
      by_cases hk:m.kind = 1
      ·have nt:¬cy w m:=fun q=>by have:=q.1;omega
       by_cases ht:m.task < p.tasks.length
       ·obtain⟨t,ht2⟩:=af (xs:=p.tasks) (n:=m.task.toNat) OM
        obtain⟨_,_,g3,_⟩:=bZ hc ht2
        by_cases hd:m.inputs.length = t.deps.length
        ·by_cases hs:w.state = 0
         ·have ho:ci w p.tasks m:=⟨hk,⟨t,ht2,hd⟩,.inl hs⟩
          refine aU ?_
          conv=>whnf
          refine g 1 3 []<|J Zbx<|W.sq<|g 12 17 [.call (V.b (decide (av w))) [[]],BF,BF,.call (V.i 0) [[]],BF,BF]<|J ⟨I,⟨UA,I,⟨UK,I⟩,UA,au _ OM⟩,I,I,⟨nO,I⟩,Zbl,⟨nO,I⟩,nO,I⟩<|W.cn<|J (noT rfl) fun _=>W.skip<|g 17 21 [.call (aC w) [[]]]<|J ⟨I,⟨UA,I,⟨UK,I⟩,UA,aD _ OM⟩,I,UK,I⟩<|g 21 23 []<|J Zc1<|W.sq<|g 23 37 [BF,BF,.call VT [[]],BF,BF,BF,BF,BF,BF,BF,BF]<|J Zae<|W.cn<|J (noT nO) fun _=>W.skip<|W.sq ?_
          refine g 37 53 [BF,BF,BF,BF,BF,BF,BF,BF,BF,BF]<|J Zcf<|W.cn<|J (noT rfl) fun _=>W.skip<|W.sq<|gd 10 81 [[],[],[],[],[BF],[BF],[BF],[BF],[BF],[BF],[BF],[],[BF],[BF],[BF],[BF],[BF],[BF],[BF],[BF,.x (ay t)],[BF],[BF],[BF],[BF],[BF]] ?_
          conv=>whnf
          refine J Zat<|J KR<|W.cn<|J (noT SI) fun _=>W.skip<|W.sq<|g 81 92 [BF,BF,BF,BF,BF,BF]<|J ⟨I,I,I,I,nO,nO,nO,nO,nO,nO,I⟩<|W.cn<|J (noT rfl) fun _=>W.skip<|g 92 96 [.call (aC {number:=w.number,epoch:=w.epoch,up:=w.up,state:=0,lease:=0,task:=0,cost:=0,left:=0,inputs:=[],text:=emp,since:=0:Worker}) [[],[]]]<|J ⟨I,⟨UB,I,⟨UK,UA,I⟩,UA,AS⟩,I,UK,I⟩<|g 7 9 []<|J UV<|g 98 100 []<|J UW<|g 100 103 []<|J UW<|g 103 111 [.x (ay t)]<|J ⟨I,I,I,I,⟨AS,xA⟩,I,I,I,UA,I⟩ ?_
          refine g 111 114 []<|J UW<|g 114 119 []<|J Zcc<|g 0 6 []<|J ⟨I,I,UL,I⟩<|RT ?_
          rw[ea h hc,vp hf ho,Aw ht2]
          all_goals rfl
         ·by_cases hl:w.lease < m.lease
          ·have ho:ci w p.tasks m:=⟨hk,⟨t,ht2,hd⟩,.inr hl⟩
           refine aU ?_
           conv=>whnf
           refine g 1 3 []<|J Zbx<|W.sq<|g 12 17 [.call (V.b (decide (av w))) [[]],BF,BF,.call (V.i 0) [[]],BF,BF]<|J ⟨I,⟨UA,I,⟨UK,I⟩,UA,au _ OM⟩,I,I,⟨nO,I⟩,Zbl,⟨nO,I⟩,nO,I⟩<|W.cn<|J (noT rfl) fun _=>W.skip<|g 17 21 [.call (aC w) [[]]]<|J ⟨I,⟨UA,I,⟨UK,I⟩,UA,aD _ OM⟩,I,UK,I⟩<|g 21 23 []<|J Zc1<|W.sq<|g 23 37 [BF,BF,.call VT [[]],BF,BF,BF,BF,BF,BF,BF,BF]<|J Zae<|W.cn<|J (noT nO) fun _=>W.skip<|W.sq ?_
           refine g 37 53 [BF,BF,BF,BF,BF,BF,BF,BF,BF,BF]<|J Zcf<|W.cn<|J (noT rfl) fun _=>W.skip<|W.sq<|gd 10 81 [[],[],[],[],[BF],[BF],[BF],[BF],[BF],[BF],[BF],[],[BF],[BF],[BF],[BF],[BF],[BF],[BF],[BF,.x (ay t)],[BF],[BF],[BF],[BF],[BF]] ?_
           conv=>whnf
           refine J Zat<|J KR<|W.cn<|J (noT SI) fun _=>W.skip<|W.sq<|g 81 92 [BT,BT,BT,BT,BT,BT]<|J ⟨I,I,I,I,Zaf,Zaf,Zaf,Zaf,Zaf,ag OM,I⟩<|W.cn<|J (noT dO) fun _=>W.skip<|g 92 96 [.call (aC {number:=w.number,epoch:=w.epoch,up:=w.up,state:=0,lease:=0,task:=0,cost:=0,left:=0,inputs:=[],text:=emp,since:=0:Worker}) [[],[]]]<|J ⟨I,⟨UB,I,⟨UK,UA,I⟩,UA,AS⟩,I,UK,I⟩<|g 7 9 []<|J UV<|g 98 100 []<|J UW<|g 100 103 []<|J UW<|g 103 111 [.x (ay t)]<|J ⟨I,I,I,I,⟨AS,xA⟩,I,I,I,UA,I⟩ ?_
           refine g 111 114 []<|J UW<|g 114 119 []<|J Zcc<|g 0 6 []<|J ⟨I,I,UL,I⟩<|RT ?_
           rw[ea h hc,vp hf ho,Aw ht2]
           all_goals rfl
          ·have no:¬ci w p.tasks m:=fun q=>by have:=q.2.2;omega
           refine aU ?_
           conv=>whnf
           refine g 1 3 []<|J Zbx<|W.sq<|g 12 17 [.call (V.b (decide (av w))) [[]],BF,BF,.call (V.i 0) [[]],BF,BF]<|J ⟨I,⟨UA,I,⟨UK,I⟩,UA,au _ OM⟩,I,I,⟨nO,I⟩,Zbl,⟨nO,I⟩,nO,I⟩<|W.cn<|J (noT rfl) fun _=>W.skip<|g 17 21 [.call (aC w) [[]]]<|J ⟨I,⟨UA,I,⟨UK,I⟩,UA,aD _ OM⟩,I,UK,I⟩<|g 21 23 []<|J Zc1<|W.sq<|g 23 37 [BF,BF,.call VT [[]],BF,BF,BF,BF,BF,BF,BF,BF]<|J Zae<|W.cn<|J (noT nO) fun _=>W.skip<|W.sq ?_
           refine g 37 53 [BF,BF,BF,BF,BF,BF,BF,BF,BF,BF]<|J Zcf<|W.cn<|J (noT rfl) fun _=>W.skip<|W.sq<|gd 10 81 [[],[],[],[],[BF],[BF],[BF],[BF],[BF],[BF],[BF],[],[BF],[BF],[BF],[BF],[BF],[BF],[BF],[BF,.x (ay t)],[BF],[BF],[BF],[BF],[BF]] ?_
           conv=>whnf
           refine J Zat<|J KR<|W.cn<|J (noT SI) fun _=>W.skip<|W.sq<|g 81 92 [BT,BT,BT,BT,BT,BT]<|J ⟨I,I,I,I,Zaf,Zaf,Zaf,Zaf,Zaf,ag OM,I⟩<|W.cn<|J (fun _=>(g 8 94 []<|J Zds (RT ?_))) (noF tO)
           rw[ea h hc,dD no nt];all_goals rfl
        ·have no:¬ci w p.tasks m:=fun q=>by obtain⟨t2,h2,h3⟩:=q.2.1;rw[ht2]at h2;cases h2;exact hd h3
         refine aU ?_
         conv=>whnf
         refine g 1 3 []<|J Zbx<|W.sq<|g 12 17 [.call (V.b (decide (av w))) [[]],BF,BF,.call (V.i 0) [[]],BF,BF]<|J ⟨I,⟨UA,I,⟨UK,I⟩,UA,au _ OM⟩,I,I,⟨nO,I⟩,Zbl,⟨nO,I⟩,nO,I⟩<|W.cn<|J (noT rfl) fun _=>W.skip<|g 17 21 [.call (aC w) [[]]]<|J ⟨I,⟨UA,I,⟨UK,I⟩,UA,aD _ OM⟩,I,UK,I⟩<|g 21 23 []<|J Zc1<|W.sq<|g 23 37 [BF,BF,.call VT [[]],BF,BF,BF,BF,BF,BF,BF,BF]<|J Zae<|W.cn<|J (noT nO) fun _=>W.skip<|W.sq ?_
         refine g 37 53 [BF,BF,BF,BF,BF,BF,BF,BF,BF,BF]<|J Zcf<|W.cn<|J (noT rfl) fun _=>W.skip<|W.sq<|gd 10 81 [[],[],[],[],[BF],[BF],[BF],[BF],[BF],[BF],[BF],[],[BF],[BF],[BF],[BF],[BF],[BF],[BF],[BF,.x (ay t)],[BF],[BF],[BF],[BF],[BF]] ?_
         conv=>whnf
         refine J Zat<|J KR<|W.cn<|J (fun h1=>?_) fun h1=>?_
         replace h1:=ndt h1
         simp only[LM]at h1
         refine g 81 83 []<|J Zds<|RT ?_
         rotate_left
         replace h1:=ndf h1
         simp only[LM]at h1
         omega
         rw[ea h hc,dD no nt];all_goals rfl
       ·have no:¬ci w p.tasks m:=fun q=>by obtain⟨t2,h2,h3⟩:=q.2.1;have:=(List.getElem?_eq_some_iff.1 h2).1;omega
        refine aU ?_
        conv=>whnf
        refine g 1 3 []<|J Zbx<|W.sq<|g 12 17 [.call (V.b (decide (av w))) [[]],BF,BF,.call (V.i 0) [[]],BF,BF]<|J ⟨I,⟨UA,I,⟨UK,I⟩,UA,au _ OM⟩,I,I,⟨nO,I⟩,Zbl,⟨nO,I⟩,nO,I⟩<|W.cn<|J (noT rfl) fun _=>W.skip<|g 17 21 [.call (aC w) [[]]]<|J ⟨I,⟨UA,I,⟨UK,I⟩,UA,aD _ OM⟩,I,UK,I⟩<|g 21 23 []<|J Zc1<|W.sq<|g 23 37 [BF,BF,.call VT [[]],BF,BF,BF,BF,BF,BF,BF,BF]<|J Zae<|W.cn<|J (noT nO) fun _=>W.skip<|W.sq ?_
        refine g 37 53 [BF,BF,BF,BF,BF,BF,BF,BF,BF,BF]<|J Zcf<|W.cn<|J (noT rfl) fun _=>W.skip<|W.sq<|gd 10 81 [[],[],[],[],[BF],[BF],[BF],[BF],[BF],[BF],[BF],[],[BT],[BT],[BT],[BT],[BT],[BT],[BT],[BT],[BT],[BT],[BT],[BT],[BT]] ?_
        conv=>whnf
        refine J ⟨I,I,I,I,⟨nO,I⟩,⟨nO,I⟩,⟨nO,I⟩,⟨nO,I⟩,⟨nO,I⟩,⟨nO,I⟩,nO,I,(by simp_all),(by simp_all),(by simp_all),(by simp_all),(by simp_all),(by simp_all),(by simp_all),(by simp_all),(by simp_all),(by simp_all),(by simp_all),(by simp_all),(by simp_all),I⟩<|J KR<|W.cn<|J (fun _=>(g 81 83 []<|J Zds (RT ?_))) (noF rfl)
        rw[ea h hc,dD no nt];all_goals rfl
      ·have no:¬ci w p.tasks m:=fun q=>hk q.1
       by_cases hk4:m.kind = 4
       ·by_cases hs:w.state = 2
        ·by_cases hl:w.lease = m.lease
         ·have yt:cy w m:=⟨hk4,hs,hl⟩
          refine aU ?_
          conv=>whnf
          refine g 1 3 []<|J Zbx<|W.sq<|g 12 17 [.call (V.b (decide (av w))) [[]],BF,BF,.call (V.i 0) [[]],BF,BF]<|J ⟨I,⟨UA,I,⟨UK,I⟩,UA,au _ OM⟩,I,I,⟨nO,I⟩,Zbl,⟨nO,I⟩,nO,I⟩<|W.cn<|J (noT rfl) fun _=>W.skip<|g 17 21 [.call (aC w) [[]]]<|J ⟨I,⟨UA,I,⟨UK,I⟩,UA,aD _ OM⟩,I,UK,I⟩<|g 21 23 []<|J Zc1<|W.sq<|g 23 37 [BF,BF,.call VT [[]],BF,BF,BF,BF,BF,BF,BF,BF]<|J Zae<|W.cn<|J (noT nO) fun _=>W.skip<|W.sq ?_
          refine g 37 53 [BT,BT,BT,BT,BT,BT,BT,BT,BT,BT]<|J ⟨I,I,I,I,⟨tO,I⟩,⟨tO,I⟩,⟨tO,I⟩,tO,I,⟨tO,I⟩,⟨tO,I⟩,⟨tO,I⟩,⟨tO,I⟩,⟨tO,I⟩,tO,I⟩<|W.cn<|J (fun _=>(g 53 57 [.call (aC {number:=w.number,epoch:=w.epoch,up:=w.up,state:=0,lease:=0,task:=0,cost:=0,left:=0,inputs:=[],text:=emp,since:=3:Worker}) [[],[]]]<|J ⟨I,⟨UB,I,⟨UK,UA,I⟩,UA,AS⟩,I,UL,I⟩ (RT ?_))) (noF tO)
          rw[ea h hc,nk hf yt]
          all_goals rfl
         ·have nt:¬cy w m:=fun q=>hl q.2.2
          refine aU ?_
          conv=>whnf
          refine g 1 3 []<|J Zbx<|W.sq<|g 12 17 [.call (V.b (decide (av w))) [[]],BF,BF,.call (V.i 0) [[]],BF,BF]<|J ⟨I,⟨UA,I,⟨UK,I⟩,UA,au _ OM⟩,I,I,⟨nO,I⟩,Zbl,⟨nO,I⟩,nO,I⟩<|W.cn<|J (noT rfl) fun _=>W.skip<|g 17 21 [.call (aC w) [[]]]<|J ⟨I,⟨UA,I,⟨UK,I⟩,UA,aD _ OM⟩,I,UK,I⟩<|g 21 23 []<|J Zc1<|W.sq<|g 23 37 [BF,BF,.call VT [[]],BF,BF,BF,BF,BF,BF,BF,BF]<|J Zae<|W.cn<|J (noT nO) fun _=>W.skip<|W.sq ?_
          refine g 37 53 [BT,BT,BT,BT,BT,BT,BT,BT,BT,BT]<|J ⟨I,I,I,I,⟨tO,I⟩,⟨tO,I⟩,⟨tO,I⟩,tO,I,⟨tO,I⟩,⟨tO,I⟩,⟨tO,I⟩,⟨tO,I⟩,⟨tO,I⟩,tO,I⟩<|W.cn<|J (noT dO) fun _=>W.skip<|W.sq<|gd 10 81 [[],[],[],[],[BT],[BT],[BT],[BT],[BT],[BT],[BT],[],[BT],[BT],[BT],[BT],[BT],[BT],[BT],[BT],[BT],[BT],[BT],[BT],[BT]] ?_
          conv=>whnf
          refine J Zb1<|J KR<|W.cn<|J (fun _=>(g 81 83 []<|J Zds (RT ?_))) (noF rfl)
          rw[ea h hc,dD no nt];all_goals rfl
        ·have nt:¬cy w m:=fun q=>hs q.2.1
         refine aU ?_
         conv=>whnf
         refine g 1 3 []<|J Zbx<|W.sq<|g 12 17 [.call (V.b (decide (av w))) [[]],BF,BF,.call (V.i 0) [[]],BF,BF]<|J ⟨I,⟨UA,I,⟨UK,I⟩,UA,au _ OM⟩,I,I,⟨nO,I⟩,Zbl,⟨nO,I⟩,nO,I⟩<|W.cn<|J (noT rfl) fun _=>W.skip<|g 17 21 [.call (aC w) [[]]]<|J ⟨I,⟨UA,I,⟨UK,I⟩,UA,aD _ OM⟩,I,UK,I⟩<|g 21 23 []<|J Zc1<|W.sq<|g 23 37 [BF,BF,.call VT [[]],BF,BF,BF,BF,BF,BF,BF,BF]<|J Zae<|W.cn<|J (noT nO) fun _=>W.skip<|W.sq ?_
         refine g 37 53 [BT,BT,BT,BT,BF,BF,BF,BF,BF,BF]<|J ⟨I,I,I,I,⟨tO,I⟩,⟨tO,I⟩,⟨tO,I⟩,tO,I,dO,dO,dO,dO,dO,dO,I⟩<|W.cn<|J (noT rfl) fun _=>W.skip<|W.sq<|gd 10 81 [[],[],[],[],[BT],[BT],[BT],[BT],[BT],[BT],[BT],[],[BT],[BT],[BT],[BT],[BT],[BT],[BT],[BT],[BT],[BT],[BT],[BT],[BT]] ?_
         conv=>whnf
         refine J Zb1<|J KR<|W.cn<|J (fun _=>(g 81 83 []<|J Zds (RT ?_))) (noF rfl)
         rw[ea h hc,dD no nt];all_goals rfl
       ·have nt:¬cy w m:=fun q=>hk4 q.1
        refine aU ?_
        conv=>whnf
        refine g 1 3 []<|J Zbx<|W.sq<|g 12 17 [.call (V.b (decide (av w))) [[]],BF,BF,.call (V.i 0) [[]],BF,BF]<|J ⟨I,⟨UA,I,⟨UK,I⟩,UA,au _ OM⟩,I,I,⟨nO,I⟩,Zbl,⟨nO,I⟩,nO,I⟩<|W.cn<|J (noT rfl) fun _=>W.skip<|g 17 21 [.call (aC w) [[]]]<|J ⟨I,⟨UA,I,⟨UK,I⟩,UA,aD _ OM⟩,I,UK,I⟩<|g 21 23 []<|J Zc1<|W.sq<|g 23 37 [BF,BF,.call VT [[]],BF,BF,BF,BF,BF,BF,BF,BF]<|J Zae<|W.cn<|J (noT nO) fun _=>W.skip<|W.sq ?_
        refine g 37 53 [BF,BF,BF,BF,BF,BF,BF,BF,BF,BF]<|J Zcf<|W.cn<|J (noT rfl) fun _=>W.skip<|W.sq<|gd 10 81 [[],[],[],[],[BT],[BT],[BT],[BT],[BT],[BT],[BT],[],[BT],[BT],[BT],[BT],[BT],[BT],[BT],[BT],[BT],[BT],[BT],[BT],[BT]] ?_
        conv=>whnf
        refine J Zb1<|J KR<|W.cn<|J (fun _=>(g 81 83 []<|J Zds (RT ?_))) (noF rfl)
        rw[ea h hc,dD no nt];all_goals rfl
     ·have nf:¬ln w m:=fun q=>hto q.2.2
      refine aU ?_
      conv=>whnf
      refine g 1 3 []<|J Zbx<|W.sq<|g 12 17 [.call (V.b (decide (av w))) [[]],BF,BF,.call (V.i 0) [[]],BF,BF]<|J ⟨I,⟨UA,I,⟨UK,I⟩,UA,au _ OM⟩,I,I,⟨nO,I⟩,Zbl,⟨nO,I⟩,nO,I⟩<|W.cn<|J (noT rfl) fun _=>W.skip<|g 17 21 [.call (aC w) [[]]]<|J ⟨I,⟨UA,I,⟨UK,I⟩,UA,aD _ OM⟩,I,UK,I⟩<|g 21 23 []<|J Zc1<|W.sq<|g 23 37 [BF,BF,.call VT [[]],BF,BF,BF,BF,BF,BF,BF,BF]<|J Zae<|W.cn<|J (fun _=>(g 37 39 []<|J Zds (RT ?_))) (noF (ag OM))
      rw[ea h hc,kK nf];all_goals rfl
    ·rw[decide_eq_false hok]at cm
     have nf:¬ln w m:=fun q=>hok q.2.1
     refine aU ?_
     conv=>whnf
     refine g 1 3 []<|J Zbx<|W.sq<|g 12 17 [.call (V.b (decide (av w))) [[]],BF,BF,.call (V.i 0) [[]],BF,BF]<|J ⟨I,⟨UA,I,⟨UK,I⟩,UA,au _ OM⟩,I,I,⟨nO,I⟩,Zbl,⟨nO,I⟩,nO,I⟩<|W.cn<|J (noT rfl) fun _=>W.skip<|g 17 21 [.call (aC w) [[]]]<|J ⟨I,⟨UA,I,⟨UK,I⟩,UA,aD _ OM⟩,I,UK,I⟩<|g 21 23 []<|J Zc1<|W.sq<|g 23 37 [BF,BF,.call VF [[]],BF,BF,BT,BT,BT,BT,BT,BT]<|J ⟨I,I,I,I,Zd0,Zan,Zd0,nbF AS,I,rfl,rfl,rfl,rfl,rfl,rfl,I⟩<|W.cn<|J (fun _=>(g 37 39 []<|J Zds (RT ?_))) (noF rfl)
     rw[ea h hc,kK nf];all_goals rfl
   ·have nf:¬ln w m:=fun q=>hup q.1
    refine aU ?_
    conv=>whnf
    refine g 1 3 []<|J Zbx<|W.sq<|g 12 17 [.call (V.b (decide (av w))) [[]],BF,BF,.call (V.i 0) [[]],BF,BF]<|J ⟨I,⟨UA,I,⟨UK,I⟩,UA,au _ OM⟩,I,I,⟨nO,I⟩,Zbl,⟨nO,I⟩,nO,I⟩<|W.cn<|J (noT rfl) fun _=>W.skip<|g 17 21 [.call (aC w) [[]]]<|J ⟨I,⟨UA,I,⟨UK,I⟩,UA,aD _ OM⟩,I,UK,I⟩<|g 21 23 []<|J Zc1<|W.sq<|g 23 37 [BT,BT,BT,BT,BT,BT,BT,BT,BT,BT]<|J ⟨I,I,I,I,SI,SI,SI,SI,I,rfl,rfl,rfl,rfl,rfl,rfl,I⟩<|W.cn<|J (fun _=>(g 37 39 []<|J Zds (RT ?_))) (noF rfl)
    rw[ea h hc,kK nf];all_goals rfl
  ·rw[Iz (fun q=>hc q.2)]
   refine aU ?_
   conv=>whnf
   refine g 1 3 []<|J Zbx<|W.sq<|g 12 17 [.call (V.b (decide (av w))) [[]],BF,BF,.call (V.i (aq p.tasks)) [[]],BF,BF]<|J ⟨I,⟨UA,I,⟨UK,I⟩,UA,au _ OM⟩,I,I,⟨nO,I⟩,Zbl,⟨nO,I⟩,nO,I⟩<|W.cn<|J (fun _=>(g 17 19 []<|J Zds (RT ?_))) (noF (ag OM))
   rfl
 ·rw[Iz (fun q=>h q.1)]
  refine aU ?_
  conv=>whnf
  refine g 1 3 []<|J Zbx<|W.sq<|g 12 17 [.call (V.b (decide (av w))) [[]],BT,BT,BT,BT]<|J ⟨I,⟨UA,I,⟨UK,I⟩,UA,au _ OM⟩,I,I,ag OM,ag OM,ag OM,ag OM,I⟩<|W.cn<|J (fun _=>(g 17 19 []<|J Zds (RT ?_))) (noF rfl)
  rfl
end Go.K
end
section
open Go Go.Tm Go.Proofs
namespace Go.K
theorem Mz{w:Worker}{s:Int}(h1:1≤w.number∧w.number≤8)(h2:1≤w.epoch∧w.epoch≤300)(hs:0≤s∧s≤1000000)(u:Bool)(hu:u = true∨s = 0):av ⟨w.number,w.epoch,u,0,0,0,0,0,[],emp,s⟩ :=
 ⟨h1,h2,hs,hu.imp id fun q=>⟨rfl,q⟩,.inl ⟨rfl,rfl,rfl,rfl,rfl,rfl,rfl⟩⟩
theorem QU{w:Worker}(h:av w):av (n4 w)∧(n4 w).number = w.number:=by
 unfold n4;rw[if_pos h]
 exact⟨Mz (w:=w) h.1 h.2.1 ⟨Int.le_refl _,by omega⟩ false (.inr rfl),rfl⟩
theorem Qv{w:Worker}(h:av w):av (ll w)∧(ll w).number = w.number:=by
 unfold ll;rw[if_pos h]
 split
 ·exact⟨h,rfl⟩
 ·rename_i q
  have h2:=h.2.1
  have q2:¬300≤w.epoch:=fun e=>q (.inr e)
  exact⟨⟨h.1,⟨by show 1≤w.epoch+1;omega,by show w.epoch+1≤300;omega⟩,⟨by show(0:Int)≤3;omega,by show(3:Int)≤1000000;omega⟩,.inl rfl,.inl ⟨rfl,rfl,rfl,rfl,rfl,rfl,rfl⟩⟩,rfl⟩
theorem NM{w:Worker}(h:av w):0≤aZ w∧aZ w≤1000000:=by
 have:=h.2.2.1
 unfold aZ;split <;> omega
theorem jr{w:Worker}(h:av w)(hup:w.up = true){s:Int}(hs:0≤s∧s≤1000000):av (cL w s):=by
 obtain⟨h1,h2,h3,h4,h5⟩:=h
 exact⟨h1,h2,hs,.inl hup,h5⟩
theorem QK{w:Worker}(h:av w)(h1:w.state = 1)(h2:¬w.left - 1 = 0):av (mY w):=by
 obtain⟨b1,b2,b3,b4,b5,b6⟩:=zS h h1
 obtain⟨g1,g2,g3,g4,g5⟩:=h
 refine⟨g1,g2,g3,g4,.inr (.inl ⟨h1,b2,b3,⟨?_,?_⟩,b5,b6⟩)⟩
 ·show 1≤w.left - 1;omega
 ·show w.left - 1≤w.cost;omega
theorem Qh(nm:ByteArray)(xs:List ByteArray):(cD nm xs).size = 8:=vh nm xs
theorem Q0{w:Worker}(ts:List Task)(h:av w)(h1:w.state = 1)(h2:w.left - 1 = 0)(hup:w.up = true):av (gB w ts):=by
 obtain⟨b1,b2,b3,b4,b5,b6⟩:=zS h h1
 obtain⟨g1,g2,g3,g4,g5⟩:=h
 exact⟨g1,g2,⟨Int.le_refl _,by show(0:Int)≤1000000;omega⟩,.inl hup,.inr (.inr ⟨rfl,b2,rfl,h2,rfl,by show((cD _ _).size:Int) = 8;rw[Qh];rfl⟩)⟩
theorem Ql{w:Worker}(ts:List Task)(h:av w):av (gp w ts).worker∧(gp w ts).worker.number = w.number:=by
 have hs:=NM h
 have z:(0:Int)≤0∧(0:Int)≤1000000:=⟨Int.le_refl _,by omega⟩
 by_cases hup:w.up = false
 ·rw[uM hup];exact⟨h,rfl⟩
 have hup2:w.up = true:=by cases hb:w.up;exact absurd hb hup;rfl
 rcases A1 h with h1|h1|h1
 ·by_cases h4:3≤aZ w
  ·rw[ls hup h1 h4];exact⟨jr h hup2 z,rfl⟩
  ·rw[pY hup h1 h4];exact⟨jr h hup2 hs,rfl⟩
 ·by_cases h2:w.left - 1 = 0
  ·rw[lu hup h1 h2];exact⟨Q0 ts h h1 h2 hup2,rfl⟩
  ·have hl:=QK h h1 h2
   by_cases h4:4≤aZ w
   ·rw[lv hup h1 h2 h4];exact⟨jr hl hup2 z,rfl⟩
   ·rw[uN hup h1 h2 h4];exact⟨jr hl hup2 hs,rfl⟩
 ·by_cases h4:4≤aZ w
  ·rw[lr hup h1 h4];exact⟨jr h hup2 z,rfl⟩
  ·rw[pX hup h1 h4];exact⟨jr h hup2 hs,rfl⟩
theorem Qn{w:Worker}{ts:List Task}(m:Message)(hc:aq ts = 0)(h:av w):av (jE w ts m)∧(jE w ts m).number = w.number:=by
 by_cases hf:ln w m
 ·by_cases ho:ci w ts m
  ·rw[mi hf ho]
   obtain⟨o1,⟨t,ht,ol⟩,o3⟩:=ho
   obtain⟨q1,q2⟩:=hf.2.1
   have hk:(1≤m.lease∧m.lease≤300000000)∧(0≤m.task∧m.task≤39)∧eE m.inputs:=by
    rcases q2 with q|q|q|q|q
    ·exact⟨q.2.2.2.1,q.2.2.2.2.1,q.2.2.2.2.2.2⟩
    ·have:=q.1;omega
    ·have:=q.1;omega
    ·have:=q.1;omega
    ·have:=q.1;omega
   have e:jy ts m.task = t.cost:=by unfold jy;rw[ht];rfl
   have hcst:=(bZ hc ht).2.1
   obtain⟨g1,g2,g3,g4,g5⟩:=h
   exact⟨⟨g1,g2,⟨Int.le_refl _,by show(0:Int)≤1000000;omega⟩,.inl rfl,.inr (.inl ⟨rfl,⟨hk.1,hk.2.1⟩,by show 1≤jy ts m.task∧_;rw[e];exact hcst,⟨by show 1≤jy ts m.task;rw[e];omega,Int.le_refl _⟩,hk.2.2,rfl⟩)⟩,rfl⟩
  ·by_cases hth:cy w m
   ·rw[nk hf hth]
    exact⟨Mz (w:=w) h.1 h.2.1 ⟨by omega,by omega⟩ w.up (.inl hf.1),rfl⟩
   ·rw[dD ho hth];exact⟨h,rfl⟩
 ·rw[kK hf];exact⟨h,rfl⟩
end Go.K
end
section
open Go Go.Tm Go.Proofs
namespace Go.K
def qB(xs:List Parcel)(k:Int):List Parcel:=if xs.length≤2000∧0≤k∧k < xs.length∧xs.length < 2000 then xs++ (xs[k.toNat]?).toList else xs
theorem xJ{xs:List Parcel}{k:Int}(h:¬(xs.length≤2000∧0≤k∧k < xs.length∧xs.length < 2000)):qB xs k = xs:=if_neg h
theorem Nt{xs:List Parcel}{m:Nat}{y:Parcel}(h:xs.length≤2000∧0≤(m:Int)∧(m:Int) < xs.length∧xs.length < 2000)(hy:xs[m]? = some y):xs.map bx++ [bx y] = (qB xs m).map bx:=by
 unfold qB
 rw[if_pos h,show((m:Int)).toNat = m from rfl,hy,List.map_append];rfl
theorem Dj(xs:List Parcel)(k:Int)(hl:xs.length≤1048576):F BI [.val (.t (vB xs)),.val (.i k)] (.own pkd ((qB xs k).map bx)) [[],[]]:=by
 by_cases h0:0≤k
 ·obtain⟨m,rfl⟩:=Int.eq_ofNat_of_zero_le h0
  refine oY ?_
  conv=>whnf
  refine g 0 0 []<|J UA<|g 6 8 [.call (V.own pkd (List.map bx xs)) [[]]]<|J ⟨I,⟨UA,I,US,UA,dy _ OM⟩,I,I⟩<|W.sq ?_
  by_cases h1:List.length xs≤(2000:Nat)∧(0:Int)≤(↑m:Int)∧(↑m:Int) < (↑(List.length xs):Int)
  refine g 8 15 [.call (V.b (decide (xs.length≤2000∧0≤(m:Int)∧(m:Int) < (↑xs.length:Int)))) [[],[]],BT,BT,BT,BT]<|J ⟨I,I,⟨UB,I,UT,UA,bM _ _ OM⟩,I,⟨tO,I⟩,⟨tO,I⟩,⟨tO,I⟩,tO,I⟩<|W.cn<|J (fun h2=>?_) fun h2=>?_
  replace h2:=dt h2
  simp only[LM]at h2
  obtain⟨y1,hy1⟩:=af (xs:=xs) (n:=m) OM
  refine rg [.x (bx y1)]<|J ⟨I,I,I,⟨AS,xA⟩,I,⟨UC,I⟩,Zdi,I,I⟩<|g 5 24 []<|J UB<|RT ?_
  rotate_left
  replace h2:=df h2
  simp only[LM]at h2
  refine W.skip<|g 5 24 []<|J UB<|RT ?_
  rotate_left
  refine g 8 15 [.call (V.b (decide (xs.length≤2000∧0≤(m:Int)∧(m:Int) < (↑xs.length:Int)))) [[],[]],BF,BF,BF,BF]<|J ⟨I,I,⟨UB,I,UT,UA,bM _ _ OM⟩,I,dO,dO,dO,dO,I⟩<|W.cn<|J (noT rfl) fun _=>W.skip<|g 5 24 []<|J UB<|RT ?_
  rotate_left
  ·exact congrArg (V.own pkd) (Nt ⟨h1.1,h1.2.1,h1.2.2,by omega⟩ hy1)
  ·rw[xJ OM]
  ·rw[xJ OM]
 ·skip
  refine oY ?_
  conv=>whnf
  refine g 0 0 []<|J UA<|g 6 8 [.call (V.own pkd (List.map bx xs)) [[]]]<|J ⟨I,⟨UA,I,US,UA,dy _ OM⟩,I,I⟩<|W.sq<|g 8 15 [.call (V.b (decide (xs.length≤2000∧0≤k∧k < (↑xs.length:Int)))) [[],[]],BF,BF,BF,BF]<|J ⟨I,I,⟨UB,I,UT,UA,bM _ _ OM⟩,I,dO,dO,dO,dO,I⟩<|W.cn<|J (noT rfl) fun _=>W.skip<|g 5 24 []<|J UB<|RT ?_
  rw[xJ OM]
theorem DG(xs:List Parcel)(k:Int)(hl:xs.length≤1048576):F B7 [.val (.t (vB xs)),.val (.i k)] (.own pkd ((qB xs k).map bx)) [[],[]]:=by
 by_cases h0:0≤k
 ·obtain⟨m,rfl⟩:=Int.eq_ofNat_of_zero_le h0
  refine oZ ?_
  conv=>whnf
  refine g 0 0 []<|J UA<|g 6 8 [.call (V.own pkd (List.map bx xs)) [[]]]<|J ⟨I,⟨UA,I,US,UA,dA _ OM⟩,I,I⟩<|W.sq ?_
  by_cases h1:List.length xs≤(2000:Nat)∧(0:Int)≤(↑m:Int)∧(↑m:Int) < (↑(List.length xs):Int)
  refine g 8 15 [.call (V.b (decide (xs.length≤2000∧0≤(m:Int)∧(m:Int) < (↑xs.length:Int)))) [[],[]],BT,BT,BT,BT]<|J ⟨I,I,⟨UB,I,UT,UA,cQ _ _ OM⟩,I,⟨tO,I⟩,⟨tO,I⟩,⟨tO,I⟩,tO,I⟩<|W.cn<|J (fun h2=>?_) fun h2=>?_
  replace h2:=dt h2
  simp only[LM]at h2
  obtain⟨y1,hy1⟩:=af (xs:=xs) (n:=m) OM
  refine rg [.x (bx y1)]<|J ⟨I,I,I,⟨AS,xA⟩,I,⟨UC,I⟩,Zdi,I,I⟩<|g 5 24 []<|J UB<|RT ?_
  rotate_left
  replace h2:=df h2
  simp only[LM]at h2
  refine W.skip<|g 5 24 []<|J UB<|RT ?_
  rotate_left
  refine g 8 15 [.call (V.b (decide (xs.length≤2000∧0≤(m:Int)∧(m:Int) < (↑xs.length:Int)))) [[],[]],BF,BF,BF,BF]<|J ⟨I,I,⟨UB,I,UT,UA,cQ _ _ OM⟩,I,dO,dO,dO,dO,I⟩<|W.cn<|J (noT rfl) fun _=>W.skip<|g 5 24 []<|J UB<|RT ?_
  rotate_left
  ·exact congrArg (V.own pkd) (Nt ⟨h1.1,h1.2.1,h1.2.2,by omega⟩ hy1)
  ·rw[xJ OM]
  ·rw[xJ OM]
 ·skip
  refine oZ ?_
  conv=>whnf
  refine g 0 0 []<|J UA<|g 6 8 [.call (V.own pkd (List.map bx xs)) [[]]]<|J ⟨I,⟨UA,I,US,UA,dA _ OM⟩,I,I⟩<|W.sq<|g 8 15 [.call (V.b (decide (xs.length≤2000∧0≤k∧k < (↑xs.length:Int)))) [[],[]],BF,BF,BF,BF]<|J ⟨I,I,⟨UB,I,UT,UA,cQ _ _ OM⟩,I,dO,dO,dO,dO,I⟩<|W.cn<|J (noT rfl) fun _=>W.skip<|g 5 24 []<|J UB<|RT ?_
  rw[xJ OM]
end Go.K
end

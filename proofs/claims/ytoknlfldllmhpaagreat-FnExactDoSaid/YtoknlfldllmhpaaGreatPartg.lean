/- Contracts of functions of the program: what each call answers. -/
import Derived.Test.YtoknlfldllmhpaaGreatPartf
set_option maxHeartbeats 8000000
set_option maxRecDepth 20000
set_option linter.unusedVariables false
set_option linter.unusedSimpArgs false
section
open Go Go.Tm Go.Proofs
namespace Go.K
def xorB(c:UInt8)(ma:Int):Int:=IntKind.u8.wrap (BitVec.ofInt IntKind.u8.bits (c.toNat:Int) ^^^ BitVec.ofInt IntKind.u8.bits (IntKind.u8.wrap (ma.tmod 256))).toNat
def Vd(t:ByteArray)(q:Nat)(c:UInt8)(ma:Int):ByteArray:=⟨(bQ ((cB t).set q [.v (.int .u8 (xorB c ma))])).toArray⟩
def Wq(p:Parcel)(pl ma:Int):Parcel:=match p.text[pl.toNat]? with
 |some c=>⟨p.kind,p.frm,Vd p.text pl.toNat c ma⟩
 |none=>p
def qG(xs:List Parcel)(k pl ma:Int):List Parcel :=
 if(xs.length≤2000∧0≤k∧k < xs.length)∧0≤ma∧0≤pl then match xs[k.toNat]? with
  |some p=>xs.set k.toNat (Wq p pl ma)
  |none=>xs
 else xs
theorem pi{xs:List Parcel}{k pl ma:Int}(h:¬((xs.length≤2000∧0≤k∧k < xs.length)∧0≤ma∧0≤pl)):qG xs k pl ma = xs:=if_neg h
theorem Ve{s:ByteArray}{n:Nat}(h:s.size≤n):s[n]? = none:=getElem?_neg s n OM
theorem JI{xs:List Parcel}{m q:Nat}{ma:Int}{y:Parcel}(hy:xs[m]? = some y)(h:y.text.size≤q):qG xs m q ma = xs:=by
 unfold qG
 split
 ·rw[show((m:Int)).toNat = m from rfl,hy]
  simp only[Wq,show((q:Int)).toNat = q from rfl,Ve h]
  apply List.ext_getElem?
  intro i
  rw[List.getElem?_set]
  split
  ·next e=>subst e;split
           ·exact hy.symm
           ·next h2=>rw[List.getElem?_eq_none OM]
  ·rfl
 ·rfl
theorem JH{xs:List Parcel}{m q:Nat}{ma:Int}{y:Parcel}{c:UInt8}(h:(xs.length≤2000∧0≤(m:Int)∧(m:Int) < xs.length)∧0≤ma∧0≤(q:Int))(hy:xs[m]? = some y)(hc:y.text[q]? = some c) :
 (xs.map bx).set m [T.v (.int .i64 y.kind),T.v (.string y.frm),T.v (.string (Vd y.text q c ma))] = (qG xs m q ma).map bx:=by
 unfold qG
 rw[if_pos h,show((m:Int)).toNat = m from rfl,hy]
 simp only[Wq,show((q:Int)).toNat = q from rfl,hc]
 rw[List.map_set]
theorem Ij(xs:List Parcel)(k pl ma:Int)(hl:xs.length≤1048576)(hs:∀ p∈xs,p.text.size≤1048576):F HE [.val (.t (vB xs)),.val (.i k),.val (.i pl),.val (.i ma)] (.own pkd ((qG xs k pl ma).map bx)) [[],[],[],[]]:=by
 by_cases h0:0≤k
 ·obtain⟨m,rfl⟩:=Int.eq_ofNat_of_zero_le h0
  by_cases h8:0≤pl
  ·obtain⟨q,rfl⟩:=Int.eq_ofNat_of_zero_le h8
   refine nx ?_
   conv=>whnf
   refine g 0 0 []<|J UA<|g 11 12 [.call (V.own pkd (List.map bx xs)) [[]]]<|J ⟨I,⟨UA,I,US,UA,dy _ OM⟩,I,I⟩<|W.sq ?_
   by_cases h1:List.length xs≤(2000:Nat)∧(0:Int)≤(↑m:Int)∧(↑m:Int) < (↑(List.length xs):Int)
   by_cases h2:ma < (0:Int)
   refine g 12 34 [.call (V.b (decide (xs.length≤2000∧0≤(m:Int)∧(m:Int) < (↑xs.length:Int)))) [[],[]],BF,BF,BF,BT,BT,BT,BT,BT,BT,BT,BT,BT,BT,BT,BT]<|J ⟨I,I,⟨UB,I,UT,UA,bM _ _ OM⟩,I,I,⟨nO,I⟩,⟨nO,I⟩,nO,I,tO,tO,tO,I,rfl,rfl,rfl,rfl,rfl,rfl,rfl,rfl,rfl,I⟩<|W.cn<|J (fun _=>(g 34 36 []<|J UB (RT ?_))) (noF rfl)
   rotate_left
   obtain⟨y1,hy1⟩:=af (xs:=xs) (n:=m) OM
   have hm1:=hs y1 (List.mem_of_getElem? hy1)
   refine g 12 34 [.call (V.b (decide (xs.length≤2000∧0≤(m:Int)∧(m:Int) < (↑xs.length:Int)))) [[],[]],BF,BF,BF,BF,BF,BF,BF,BF,BF,BF,.x (bx y1),BF,BF,BF,BF,BF]<|J ⟨I,I,⟨UB,I,UT,UA,bM _ _ OM⟩,I,I,⟨nO,I⟩,⟨nO,I⟩,nO,I,⟨dO,I⟩,⟨dO,I⟩,dO,I,Zdc,Zdc,Zdc,⟨rfl,AS,xA⟩,Zdc,Zdc,Zdc,Zdc,rfl,I⟩<|W.cn<|J (fun h3=>?_) fun h3=>?_
   replace h3:=dt h3
   refine g 34 36 []<|J UB<|RT ?_
   rotate_left
   replace h3:=df h3
   refine W.skip<|g 34 42 [.x (bx y1)]<|J ⟨I,I,⟨AS,xA⟩,I,I,OM,I,I⟩ ?_
   obtain⟨y2,hy2,hb1⟩:=bz (s:=Parcel.text y1) (n:=q) OM
   refine g 43 53 [.n (q),.x ([T.v (Value.int IntKind.u8 (↑(UInt8.toNat y2):Int))]),.i (Int.tmod ma 256),.i (IntKind.wrap IntKind.u8 (Int.tmod ma 256)),.i (IntKind.wrap IntKind.u8 (↑(BitVec.toNat (BitVec.ofInt (IntKind.bits IntKind.u8) (↑(UInt8.toNat y2):Int) ^^^ BitVec.ofInt (IntKind.bits IntKind.u8) (IntKind.wrap IntKind.u8 (Int.tmod ma 256)))):Int)),.n (q),.x ([T.v (Value.int IntKind.u8 (↑(UInt8.toNat y2):Int))])]<|J ⟨I,I,I,I,Zdf,(mI AS),I,Zdp,rfl,rfl,Zdf,⟨UA,(mI AS)⟩,I⟩<|g 53 59 [.s ({data:=List.toArray (bQ (List.set (cB y1.text) q (aK [T.v (Value.int IntKind.u8 (↑(UInt8.toNat y2):Int))] 0 [T.v (Value.int IntKind.u8 (IntKind.wrap IntKind.u8 (↑(BitVec.toNat (BitVec.ofInt (IntKind.bits IntKind.u8) (↑(UInt8.toNat y2):Int) ^^^ BitVec.ofInt (IntKind.bits IntKind.u8) (IntKind.wrap IntKind.u8 (Int.tmod ma 256)))):Int)))]))):ByteArray}),.n (m),.x (bx y1)]<|J ⟨I,I,I,⟨I,EU (iW _),rfl⟩,Zdf,I,Zeh,I⟩<|g 0 4 []<|J UB<|RT ?_
   rotate_left
   refine g 12 34 [.call (V.b (decide (xs.length≤2000∧0≤(m:Int)∧(m:Int) < (↑xs.length:Int)))) [[],[]],BT,BT,BT,BT,BT,BT,BT,BT,BT,BT,BT,BT,BT,BT,BT]<|J ⟨I,I,⟨UB,I,UT,UA,bM _ _ OM⟩,I,I,ag OM,ag OM,ag OM,I,rfl,rfl,rfl,I,rfl,rfl,rfl,rfl,rfl,rfl,rfl,rfl,rfl,I⟩<|W.cn<|J (fun _=>(g 34 36 []<|J UB (RT ?_))) (noF rfl)
   rotate_left
   all_goals (first|rw[pi OM]|rw[JI AS OM]|exact congrArg (V.own pkd) (JH OM AS AS)|skip)
  ·skip
   refine nx ?_
   conv=>whnf
   refine g 0 0 []<|J UA<|g 11 12 [.call (V.own pkd (List.map bx xs)) [[]]]<|J ⟨I,⟨UA,I,US,UA,dy _ OM⟩,I,I⟩<|W.sq ?_
   by_cases h1:List.length xs≤(2000:Nat)∧(0:Int)≤(↑m:Int)∧(↑m:Int) < (↑(List.length xs):Int)
   by_cases h2:ma < (0:Int)
   refine g 12 34 [.call (V.b (decide (xs.length≤2000∧0≤(m:Int)∧(m:Int) < (↑xs.length:Int)))) [[],[]],BF,BF,BF,BT,BT,BT,BT,BT,BT,BT,BT,BT,BT,BT,BT]<|J ⟨I,I,⟨UB,I,UT,UA,bM _ _ OM⟩,I,I,⟨nO,I⟩,⟨nO,I⟩,nO,I,tO,tO,tO,I,rfl,rfl,rfl,rfl,rfl,rfl,rfl,rfl,rfl,I⟩<|W.cn<|J (fun _=>(g 34 36 []<|J UB (RT ?_))) (noF rfl)
   rotate_left
   refine g 12 34 [.call (V.b (decide (xs.length≤2000∧0≤(m:Int)∧(m:Int) < (↑xs.length:Int)))) [[],[]],BF,BF,BF,BF,BF,BF,BT,BT,BT,BT,BT,BT,BT,BT,BT]<|J ⟨I,I,⟨UB,I,UT,UA,bM _ _ OM⟩,I,I,⟨nO,I⟩,⟨nO,I⟩,nO,I,⟨dO,I⟩,⟨dO,I⟩,dO,I,tO,tO,tO,tO,tO,tO,tO,tO,tO,I⟩<|W.cn<|J (fun _=>(g 34 36 []<|J UB (RT ?_))) (noF rfl)
   rotate_left
   refine g 12 34 [.call (V.b (decide (xs.length≤2000∧0≤(m:Int)∧(m:Int) < (↑xs.length:Int)))) [[],[]],BT,BT,BT,BT,BT,BT,BT,BT,BT,BT,BT,BT,BT,BT,BT]<|J ⟨I,I,⟨UB,I,UT,UA,bM _ _ OM⟩,I,I,ag OM,ag OM,ag OM,I,rfl,rfl,rfl,I,rfl,rfl,rfl,rfl,rfl,rfl,rfl,rfl,rfl,I⟩<|W.cn<|J (fun _=>(g 34 36 []<|J UB (RT ?_))) (noF rfl)
   rotate_left
   all_goals rw[pi OM]
 ·skip
  refine nx ?_
  conv=>whnf
  refine g 0 0 []<|J UA<|g 11 12 [.call (V.own pkd (List.map bx xs)) [[]]]<|J ⟨I,⟨UA,I,US,UA,dy _ OM⟩,I,I⟩<|W.sq<|g 12 34 [.call (V.b (decide (xs.length≤2000∧0≤k∧k < (↑xs.length:Int)))) [[],[]],BT,BT,BT,BT,BT,BT,BT,BT,BT,BT,BT,BT,BT,BT,BT]<|J ⟨I,I,⟨UB,I,UT,UA,bM _ _ OM⟩,I,I,ag OM,ag OM,ag OM,I,rfl,rfl,rfl,I,rfl,rfl,rfl,rfl,rfl,rfl,rfl,rfl,rfl,I⟩<|W.cn<|J (fun _=>(g 34 36 []<|J UB (RT ?_))) (noF rfl)
  all_goals rw[pi OM]
theorem Io(xs:List Parcel)(k pl ma:Int)(hl:xs.length≤1048576)(hs:∀ p∈xs,p.text.size≤1048576):F HJ [.val (.t (vB xs)),.val (.i k),.val (.i pl),.val (.i ma)] (.own pkd ((qG xs k pl ma).map bx)) [[],[],[],[]]:=by
 by_cases h0:0≤k
 ·obtain⟨m,rfl⟩:=Int.eq_ofNat_of_zero_le h0
  by_cases h8:0≤pl
  ·obtain⟨q,rfl⟩:=Int.eq_ofNat_of_zero_le h8
   refine ny ?_
   conv=>whnf
   refine g 0 0 []<|J UA<|g 11 13 [.call (V.own pkd (List.map bx xs)) [[]]]<|J ⟨I,⟨UA,I,US,UA,dA _ OM⟩,I,I⟩<|W.sq ?_
   by_cases h1:List.length xs≤(2000:Nat)∧(0:Int)≤(↑m:Int)∧(↑m:Int) < (↑(List.length xs):Int)
   obtain⟨y1,hy1⟩:=af (xs:=xs) (n:=m) OM
   have hm1:=hs y1 (List.mem_of_getElem? hy1)
   by_cases h2:(0:Int)≤(↑q:Int)∧(↑q:Int)≤(↑(ByteArray.size (Parcel.text y1)):Int) - (1:Int)
   refine g 13 30 [.call (V.b (decide (xs.length≤2000∧0≤(m:Int)∧(m:Int) < (↑xs.length:Int)))) [[],[]],BT,BT,BT,BT,.n (m),BT,BT,.x (bx y1),BT,BT,.i ((↑(ByteArray.size y1.text):Int) - 1),BT,.call (V.b (decide (0≤(q:Int)∧(q:Int)≤(↑(ByteArray.size y1.text):Int) - 1))) [[],[],[]],BT,BT,BT,BT]<|J ⟨I,I,⟨UB,I,UT,UA,cQ _ _ OM⟩,I,⟨tO,I⟩,⟨tO,I⟩,⟨tO,I⟩,⟨tO,rfl,LN⟩,⟨tO,I⟩,⟨tO,xA⟩,⟨tO,I⟩,⟨tO,wO⟩,⟨tO,UC,I,UU,UA,aa _ _ _⟩,tO,I,⟨tO,I⟩,⟨tO,I⟩,tO,I⟩<|W.cn<|J (fun h3=>?_) fun h3=>?_
   replace h3:=dt h3
   refine g 30 37 [.n (m),.x (bx y1)]<|J ⟨I,I,Zdf,I,xA,OM,I,I⟩ ?_
   obtain⟨y2,hy2,hb1⟩:=bz (s:=Parcel.text y1) (n:=q) OM
   refine g 37 42 [.n (q),.x ([T.v (Value.int IntKind.u8 (↑(UInt8.toNat y2):Int))]),.i (Int.tmod ma 256),.i (IntKind.wrap IntKind.u8 (Int.tmod ma 256)),.i (IntKind.wrap IntKind.u8 (↑(BitVec.toNat (BitVec.ofInt (IntKind.bits IntKind.u8) (↑(UInt8.toNat y2):Int) ^^^ BitVec.ofInt (IntKind.bits IntKind.u8) (IntKind.wrap IntKind.u8 (Int.tmod ma 256)))):Int)),.n (q),.x ([T.v (Value.int IntKind.u8 (↑(UInt8.toNat y2):Int))])]<|J ⟨I,I,Zdf,(mI AS),I,Zdp,rfl,rfl,Zdf,⟨UA,(mI AS)⟩,I⟩<|rg [.s ({data:=List.toArray (bQ (List.set (cB y1.text) q (aK [T.v (Value.int IntKind.u8 (↑(UInt8.toNat y2):Int))] 0 [T.v (Value.int IntKind.u8 (IntKind.wrap IntKind.u8 (↑(BitVec.toNat (BitVec.ofInt (IntKind.bits IntKind.u8) (↑(UInt8.toNat y2):Int) ^^^ BitVec.ofInt (IntKind.bits IntKind.u8) (IntKind.wrap IntKind.u8 (Int.tmod ma 256)))):Int)))]))):ByteArray}),.n (m),.x (bx y1)]<|J ⟨I,I,I,⟨I,EU (iW _),rfl⟩,Zdf,I,Zeh,I⟩<|g 43 53 []<|J UB<|RT ?_
   rotate_left
   replace h3:=df h3
   refine W.skip<|g 0 4 []<|J UB<|RT ?_
   rotate_left
   refine g 13 30 [.call (V.b (decide (xs.length≤2000∧0≤(m:Int)∧(m:Int) < (↑xs.length:Int)))) [[],[]],BT,BT,BT,BT,.n (m),BT,BT,.x (bx y1),BT,BT,.i ((↑(ByteArray.size y1.text):Int) - 1),BT,.call (V.b (decide (0≤(q:Int)∧(q:Int)≤(↑(ByteArray.size y1.text):Int) - 1))) [[],[],[]],BT,BF,BF,BF]<|J ⟨I,I,⟨UB,I,UT,UA,cQ _ _ OM⟩,I,⟨tO,I⟩,⟨tO,I⟩,⟨tO,I⟩,⟨tO,rfl,LN⟩,⟨tO,I⟩,⟨tO,xA⟩,⟨tO,I⟩,⟨tO,wO⟩,⟨tO,UC,I,UU,UA,aa _ _ _⟩,tO,I,dO,dO,dO,I⟩<|W.cn<|J (noT rfl) fun _=>W.skip<|g 0 4 []<|J UB<|RT ?_
   rotate_left
   refine g 13 30 [.call (V.b (decide (xs.length≤2000∧0≤(m:Int)∧(m:Int) < (↑xs.length:Int)))) [[],[]],BF,BF,BF,BF,BF,BF,BF,BF,BF,BF,BF,BF,BF]<|J ⟨I,I,⟨UB,I,UT,UA,cQ _ _ OM⟩,I,dO,dO,dO,dO,dO,dO,dO,dO,dO,dO,I,rfl,rfl,rfl,I⟩<|W.cn<|J (noT rfl) fun _=>W.skip<|g 0 4 []<|J UB<|RT ?_
   rotate_left
   all_goals (first|rw[pi OM]|rw[JI AS OM]|exact congrArg (V.own pkd) (JH OM AS AS)|skip)
  ·skip
   refine ny ?_
   conv=>whnf
   refine g 0 0 []<|J UA<|g 11 13 [.call (V.own pkd (List.map bx xs)) [[]]]<|J ⟨I,⟨UA,I,US,UA,dA _ OM⟩,I,I⟩<|W.sq ?_
   by_cases h1:List.length xs≤(2000:Nat)∧(0:Int)≤(↑m:Int)∧(↑m:Int) < (↑(List.length xs):Int)
   obtain⟨y1,hy1⟩:=af (xs:=xs) (n:=m) OM
   have hm1:=hs y1 (List.mem_of_getElem? hy1)
   refine g 13 30 [.call (V.b (decide (xs.length≤2000∧0≤(m:Int)∧(m:Int) < (↑xs.length:Int)))) [[],[]],BT,BT,BT,BT,.n (m),BT,BT,.x (bx y1),BT,BT,.i ((↑(ByteArray.size y1.text):Int) - 1),BT,.call (V.b (decide (0≤pl∧pl≤(↑(ByteArray.size y1.text):Int) - 1))) [[],[],[]],BT,BF,BF,BF]<|J ⟨I,I,⟨UB,I,UT,UA,cQ _ _ OM⟩,I,⟨tO,I⟩,⟨tO,I⟩,⟨tO,I⟩,⟨tO,rfl,LN⟩,⟨tO,I⟩,⟨tO,xA⟩,⟨tO,I⟩,⟨tO,wO⟩,⟨tO,UC,I,UU,UA,aa _ _ _⟩,tO,I,dO,dO,dO,I⟩<|W.cn<|J (noT rfl) fun _=>W.skip<|g 0 4 []<|J UB<|RT ?_
   rotate_left
   refine g 13 30 [.call (V.b (decide (xs.length≤2000∧0≤(m:Int)∧(m:Int) < (↑xs.length:Int)))) [[],[]],BF,BF,BF,BF,BF,BF,BF,BF,BF,BF,BF,BF,BF]<|J ⟨I,I,⟨UB,I,UT,UA,cQ _ _ OM⟩,I,dO,dO,dO,dO,dO,dO,dO,dO,dO,dO,I,rfl,rfl,rfl,I⟩<|W.cn<|J (noT rfl) fun _=>W.skip<|g 0 4 []<|J UB<|RT ?_
   rotate_left
   all_goals rw[pi OM]
 ·skip
  refine ny ?_
  conv=>whnf
  refine g 0 0 []<|J UA<|g 11 13 [.call (V.own pkd (List.map bx xs)) [[]]]<|J ⟨I,⟨UA,I,US,UA,dA _ OM⟩,I,I⟩<|W.sq<|g 13 30 [.call (V.b (decide (xs.length≤2000∧0≤k∧k < (↑xs.length:Int)))) [[],[]],BF,BF,BF,BF,BF,BF,BF,BF,BF,BF,BF,BF,BF]<|J ⟨I,I,⟨UB,I,UT,UA,cQ _ _ OM⟩,I,dO,dO,dO,dO,dO,dO,dO,dO,dO,dO,I,rfl,rfl,rfl,I⟩<|W.cn<|J (noT rfl) fun _=>W.skip<|g 0 4 []<|J UB<|RT ?_
  all_goals rw[pi OM]
theorem Rj(xs:List Parcel)(k pl ma:Int):(qG xs k pl ma).length = xs.length:=by
 unfold qG;split
 ·split
  ·rw[List.length_set]
  ·rfl
 ·rfl
end Go.K
end
section
open Go Go.Tm Go.Proofs
namespace Go.K
structure Event where
 kind:Int
 a:Int
 b:Int
 c:Int
 deriving DecidableEq
abbrev WS(x:Event):List T:=[.i x.kind,.i x.a,.i x.b,.i x.c]
abbrev xH(x:Event):V:=.agg [.t (.i x.kind),.t (.i x.a),.t (.i x.b),.t (.i x.c)]
abbrev G5(x:Event):V:=.agg [.t (.i x.kind),.t (.i x.a),.t (.i x.b),.t (.i x.c)]
def MJ(x:Event):Prop:=True
def iK(ws:List Worker)(k:Int):Worker:=(ws[k.toNat]?).getD iw
def XM:Parcel:=⟨0,emp,emp⟩
def KP(xs:List Parcel)(k:Int):Parcel:=(xs[k.toNat]?).getD XM
noncomputable def io(p:Plan)(ws:List Worker)(n:Nat):List Message:=((ws.take n).map fun x=>(fu x p).out).flatten
noncomputable def jY(w:World):World :=
 if 1000000≤w.boss.now then w else
 ⟨w.plan,w.key,(oy w.boss w.plan).boss,w.workers.map (fun x=>(fu x w.plan).worker),sf w.flight ((oy w.boss w.plan).out++io w.plan w.workers w.workers.length) w.key,w.forged⟩
def dh(w:World)(fl:List Parcel):World:=⟨w.plan,w.key,w.boss,w.workers,fl,w.forged⟩
def zn(w:World)(b:Boss):World:=⟨w.plan,w.key,b,w.workers,w.flight,w.forged⟩
def GF(w:World)(k:Int)(x:Worker):World:=⟨w.plan,w.key,w.boss,w.workers.set (k - 1).toNat x,w.flight,w.forged⟩
open Classical in
noncomputable def ON(w:World)(s:Parcel):World:=⟨w.plan,w.key,w.boss,w.workers,w.flight,if ¬s.text = s.frm∧w.forged = emp then s.text else w.forged⟩
def mR(w:World)(k:Int):Prop:=1≤k∧k≤w.workers.length
instance (w:World) (k:Int):Decidable (mR w k):=by unfold mR;infer_instance
noncomputable def cH(w:World)(s:Parcel):World :=
 match ef s.text w.key with
 |none=>w
 |some m =>
  if s.kind = 0 then zn (ON w s) (DS w.boss w.plan m).boss
  else if mR w s.kind then GF (ON w s) s.kind (vU (iK w.workers (s.kind - 1)) w.plan m).worker
  else ON w s
def GY(w:World)(k:Int):Prop:=w.flight.length≤2000∧0≤k∧k < w.flight.length
instance (w:World) (k:Int):Decidable (GY w k):=by unfold GY;infer_instance
noncomputable def fD(w:World)(k:Int):World:=if GY w k then cH (dh w (cq w.flight k)) (KP w.flight k)else w
noncomputable def doW(w:World)(e:Event):World :=
 if e.kind = 1 then jY w
 else if e.kind = 2 then fD w e.a
 else if e.kind = 3 then dh w (qB w.flight e.a)
 else if e.kind = 4 then dh w (cq w.flight e.a)
 else if e.kind = 5 then dh w (qG w.flight e.a e.b e.c)
 else if e.kind = 6 then(if e.a = 0 then zn w (qI w.boss w.plan e.b)else if mR w e.a then GF w e.a (n4 (iK w.workers (e.a - 1)))else w)
 else if e.kind = 7 then(if e.a = 0 then zn w (qH w.boss w.plan)else if mR w e.a then GF w e.a (ll (iK w.workers (e.a - 1)))else w)
 else w
theorem AL{w:World}{b:Boss}(h:WorldOk w)(hb:BossOk b w.plan)(hw:b.workers = w.boss.workers):WorldOk (zn w b):=⟨h.plan,h.key,h.wl,h.fl,h.crew,h.par,hb,by show b.workers = _;rw[hw];exact h.same⟩
theorem Qe{w:World}{s:Parcel}(h:WorldOk w):WorldOk (ON w s):=⟨h.plan,h.key,h.wl,h.fl,h.crew,h.par,h.boss,h.same⟩
theorem ir{w:World}{fl:List Parcel}(h:WorldOk w)(h1:fl.length≤2000)(h2:∀ x∈fl,ParOk x):WorldOk (dh w fl):=⟨h.plan,h.key,h.wl,h1,h.crew,h2,h.boss,h.same⟩
theorem uL{w:World}{k:Int}(h:WorldOk w)(hk:mR w k):∃ x,w.workers[(k - 1).toNat]? = some x∧iK w.workers (k - 1) = x∧av x∧x.number = k:=by
 obtain⟨k1,k2⟩:=hk
 obtain⟨x,hx⟩:=af (xs:=w.workers) (n:=(k - 1).toNat) OM
 have hc:=h.crew (k - 1).toNat x OM hx
 exact⟨x,hx,by unfold iK;rw[hx];rfl,hc.ok,by rw[hc.num];omega⟩
theorem AK{w:World}{k:Int}{x y:Worker}(h:WorldOk w)(hk:mR w k)(hx:av y)(hn:y.number = k):WorldOk (GF w k y):=by
 refine⟨h.plan,h.key,by show 1≤(w.workers.set _ _).length∧_;rw[List.length_set];exact⟨h.wl.1,by show(w.workers.set _ _).length≤8;rw[List.length_set];exact h.wl.2⟩,h.fl,?_,h.par,h.boss,by show w.boss.workers = ((w.workers.set _ _).length:Int);rw[List.length_set];exact h.same⟩
 intro i z hi hz
 obtain⟨k1,k2⟩:=hk
 change (w.workers.set (k - 1).toNat y)[i]? = some z at hz
 by_cases e:i = (k - 1).toNat
 ·subst e
  rw[List.getElem?_set_self OM]at hz
  cases hz
  exact⟨hx,by rw[hn];omega⟩
 ·rw[List.getElem?_set_ne (fun q=>e q.symm)]at hz
  exact h.crew i z (by have:=(List.getElem?_eq_some_iff.1 hz).1;exact this) hz
theorem su{xs:List Parcel}{k:Int}{x:Parcel}(h:x∈cq xs k):x∈xs:=by
 unfold cq at h;split at h
 ·rcases List.mem_append.1 h with h|h
  ·exact List.mem_of_mem_take h
  ·exact List.mem_of_mem_drop h
 ·exact h
theorem zZ(xs:List Parcel)(k:Int):(cq xs k).length≤xs.length:=by
 unfold cq;split
 ·simp only[List.length_append,List.length_take,List.length_drop];omega
 ·exact Nat.le_refl _
theorem U6{xs:List Parcel}{k:Int}{x:Parcel}(h:x∈qB xs k):x∈xs:=by
 unfold qB at h;split at h
 ·rcases List.mem_append.1 h with h|h
  ·exact h
  ·cases hy:xs[k.toNat]? with
   |none=>rw[hy]at h;cases h
   |some y =>
    rw[hy]at h
    rw[List.mem_singleton.1 h]
    exact List.mem_of_getElem? hy
 ·exact h
theorem WT{xs:List Parcel}{k:Int}(hx:xs.length≤2000):(qB xs k).length≤2000:=by
 unfold qB;split
 ·rename_i q
  rw[List.length_append]
  have:((xs[k.toNat]?).toList).length≤1:=by cases xs[k.toNat]? <;> simp
  omega
 ·exact hx
end Go.K
end
section
open Go Go.Tm Go.Proofs
namespace Go.K
theorem Rh(t:ByteArray)(q:Nat)(c:UInt8)(ma:Int):(Vd t q c ma).size = t.size:=by
 unfold Vd
 show((bQ _).toArray).size = _
 simp[bQ,fZ]
theorem Ri{xs:List Parcel}{k pl ma:Int}{x:Parcel}(hx:∀ y∈xs,ParOk y)(h:x∈qG xs k pl ma):ParOk x:=by
 unfold qG at h;split at h
 ·cases hy:xs[k.toNat]? with
  |none=>rw[hy]at h;exact hx x h
  |some y =>
   rw[hy]at h
   rcases List.mem_or_eq_of_mem_set h with h|h
   ·exact hx x h
   ·have hp:=hx y (List.mem_of_getElem? hy)
    rw[h];unfold Wq
    split
    ·exact⟨hp.to,hp.sent,by show(Vd _ _ _ _).size≤500;rw[Rh];exact hp.bytes⟩
    ·exact hp
 ·exact hx x h
theorem vF{m:Message}{key:ByteArray}(h:bO m):(er m key).size≤500:=by
 unfold er;split
 ·obtain⟨h1,_,h3⟩:=de h
  rw[ByteArray.size_append,zB,f0 h];omega
 ·exact Nat.zero_le _
theorem Qy{key:ByteArray}{acc:List Parcel}{m:Message}(h:acc.length≤2000∧∀ x∈acc,ParOk x):(qh key acc m).length≤2000∧∀ x∈qh key acc m,ParOk x:=by
 unfold qh;split
 ·rename_i q
  refine⟨by rw[List.length_append,List.length_singleton];omega,fun x hx=>?_⟩
  rcases List.mem_append.1 hx with hx|hx
  ·exact h.2 x hx
  ·rw[List.mem_singleton.1 hx]
   exact⟨(fy q.1).2.2.1,vF q.1,vF q.1⟩
 ·exact h
theorem Me{key:ByteArray}:∀ (ms:List Message) {xs:List Parcel},(xs.length≤2000∧∀ x∈xs,ParOk x)→(ms.foldl (qh key) xs).length≤2000∧∀ x∈ms.foldl (qh key) xs,ParOk x
 |[],xs,h=>h
 |m :: ms,xs,h=>Me ms (Qy h)
theorem QA{key:ByteArray}{ms:List Message}{xs:List Parcel}(h:xs.length≤2000∧∀ x∈xs,ParOk x):(sf xs ms key).length≤2000∧∀ x∈sf xs ms key,ParOk x:=Me _ h
theorem Kj(b:Boss)(ts:List Task):(gQ b ts).boss.workers = b.workers:=by
 unfold gQ;split
 ·rfl
 ·split
  ·rfl
  ·split <;> rfl
theorem Ld(b:Boss)(k:Int):(j8 b k).workers = b.workers:=by unfold j8;split <;> rfl
theorem Ku(b:Boss)(p:Plan):(cN b p).workers = b.workers:=by unfold cN;split <;> rfl
theorem NQ(b:Boss)(m:Message):(Bp b m).workers = b.workers:=by unfold Bp;split <;> rfl
theorem Hm(b:Boss)(ts:List Task)(m:Message):(gR b ts m).workers = b.workers:=by
 unfold gR;split
 ·split
  ·unfold wQ;split <;> rfl
  ·split
   ·rfl
   ·split
    ·split
     ·rw[eP,NQ,(LY (b:=sJ b ts m) (m:=m)).2,(LZ (b:=b) (ts:=ts) (m:=m)).2]
     ·rfl
    ·rfl
 ·rfl
theorem AQ{w:World}(h:WorldOk w):WorldOk (jY w):=by
 unfold jY;split
 ·exact h
 ·rw[nW h.boss]
  have hp:=QA (key:=w.key) (ms:=(gQ w.boss w.plan.tasks).out++io w.plan w.workers w.workers.length) ⟨h.fl,h.par⟩
  refine⟨h.plan,h.key,⟨by show 1≤(w.workers.map _).length;rw[List.length_map];exact h.wl.1,by show(w.workers.map _).length≤8;rw[List.length_map];exact h.wl.2⟩,hp.1,?_,hp.2,Kk h.boss,by show(gQ w.boss w.plan.tasks).boss.workers = ((w.workers.map _).length:Int);rw[List.length_map,Kj];exact h.same⟩
  intro i y hi hy
  change (w.workers.map _)[i]? = some y at hy
  rw[List.getElem?_map]at hy
  cases hx:w.workers[i]? with
  |none=>rw[hx]at hy;cases hy
  |some x =>
   rw[hx]at hy
   have hc:=h.crew i x (List.getElem?_eq_some_iff.1 hx).1 hx
   have e:=Option.some.inj hy
   dsimp only at e
   rw[d9 hc.ok h.plan]at e
   have ht:=Ql w.plan.tasks hc.ok
   rw[←e]
   exact⟨ht.1,by rw[ht.2];exact hc.num⟩
theorem ve{w:World}{s:Parcel}(h:WorldOk w):WorldOk (cH w s):=by
 unfold cH
 cases hm:ef s.text w.key with
 |none=>exact h
 |some m =>
  dsimp only
  have hg:=Qe (s:=s) h
  split
  ·rw[nX h.boss]
   exact AL hg (Ko m h.boss) (Hm _ _ _)
  ·split
   ·rename_i hk
    obtain⟨x,hx,e,ok,num⟩:=uL h hk
    rw[e,ea ok h.plan]
    have ht:=Qn (ts:=w.plan.tasks) m h.plan ok
    exact AK (x:=x) hg hk ht.1 (by rw[ht.2];exact num)
   ·exact hg
theorem EQ{w:World}(k:Int)(h:WorldOk w):WorldOk (fD w k):=by
 unfold fD;split
 ·exact ve (ir h (by have:=zZ w.flight k;have:=h.fl;omega) fun x hx=>h.par x (su hx))
 ·exact h
theorem G9{w:World}(e:Event)(h:WorldOk w):WorldOk (doW w e):=by
 unfold doW
 split
 ·exact AQ h
 split
 ·exact EQ _ h
 split
 ·exact ir h (WT h.fl) fun x hx=>h.par x (U6 hx)
 split
 ·exact ir h (by have:=zZ w.flight e.a;have:=h.fl;omega) fun x hx=>h.par x (su hx)
 split
 ·exact ir h (by rw[Rj];exact h.fl) fun x hx=>Ri h.par hx
 split
 ·split
  ·rw[Be h.boss];exact AL h (qw _ h.boss) (Ld _ _)
  ·split
   ·rename_i hk
    obtain⟨x,hx,e,ok,num⟩:=uL h hk
    rw[e]
    have ht:=QU ok
    exact AK (x:=x) h hk ht.1 (by rw[ht.2];exact num)
   ·exact h
 split
 ·split
  ·rw[sE h.boss];exact AL h (Kv h.boss) (Ku _ _)
  ·split
   ·rename_i hk
    obtain⟨x,hx,e,ok,num⟩:=uL h hk
    rw[e]
    have ht:=Qv ok
    exact AK (x:=x) h hk ht.1 (by rw[ht.2];exact num)
   ·exact h
 ·exact h
end Go.K
end
section
open Go Go.Tm Go.Proofs
namespace Go.K
theorem r6{w:World}(h:1000000≤w.boss.now):jY w = w:=if_pos h
noncomputable def wDo(w:World)(e:Event):World:=if WorldOk w then doW w e else noWorld
end Go.K
end
section
open Go Go.Tm Go.Proofs
namespace Go.K
structure Keeps (b c:Boss):Prop where
 up:c.up = b.up
 res:c.results = b.results
end Go.K
end
section
open Go Go.Tm Go.Proofs
namespace Go.K
def xE(n:Nat)(a:Acted):Prop:=a.worker.inputs.length≤n∧(a.out = []∨∃ m,a.out = [m]∧m.inputs = [])
theorem p9{n:Nat}{w:Worker}{k:Int}(h:w.inputs.length≤n):xE n (DM w k):=⟨h,.inr ⟨_,rfl,rfl⟩⟩
theorem fU{n:Nat}{w:Worker}(h:w.inputs.length≤n):xE n ⟨w,[]⟩:=⟨h,.inl rfl⟩
theorem Km(w:Worker)(ts:List Task):xE w.inputs.length (gp w ts):=by
 unfold gp
 split
 ·exact fU (Nat.le_refl _)
 split
 ·split
  ·exact⟨Nat.zero_le _,.inr ⟨_,rfl,rfl⟩⟩
  ·split
   ·exact p9 (Nat.le_refl _)
   ·exact fU (Nat.le_refl _)
 split
 ·split
  ·exact p9 (Nat.le_refl _)
  ·exact fU (Nat.le_refl _)
 ·split
  ·exact p9 (Nat.le_refl _)
  ·exact fU (Nat.le_refl _)
theorem Hh(w:Worker)(p:Plan):xE w.inputs.length (fu w p):=by
 unfold fu;split
 ·exact Km _ _
 ·exact fU (Nat.zero_le _)
end Go.K
end
section
open Go Go.Tm Go.Proofs
namespace Go.K
theorem WV{p:Plan}(h:aq p.tasks = 0):dl p:=WJ (lw (uQ h))
theorem KG{s:ByteArray}{e:Entry}(h:ed s = some e):s.size≤12:=by
 have e1:=K7 e
 rw[KH h]at e1
 have hok:=ju h
 rcases hok.2.2 with⟨_,_,h3⟩|⟨_,h3⟩
 ·have:e.text.size = 0:=by rw[h3];rfl
  omega
 ·omega
theorem Kq{p:Plan}{xs:List ByteArray}(h:(aw p xs).code = 0):∀ s∈xs,s.size≤12:=fun s hs=>by
 obtain⟨e,he,_⟩:=(uP h).fwd s hs
 exact KG he
theorem WG{b:Boss}{p:Plan}(h:BossOk b p):BossLim b:=by
 have hc:=h.code
 have hl:=(cz hc).2.1
 have hs:=Kq hc
 have hp:=(bT h.plan).1
 rw[List.length_append]at hl
 have hw:=h.workers
 cases hb:b.up with
 |true =>
  obtain⟨u1,u2,u3,u4,u5,u6,u7,u8,u9,u10,u11,u12⟩:=h.up hb
  exact⟨by omega,by omega,fun s q=>by have:=hs s q;omega,by omega,by omega,by omega,by omega⟩
 |false =>
  obtain⟨d1,d2,d3,d4,d5,d6,d7,d8⟩:=h.down hb
  exact⟨by omega,by omega,fun s q=>by have:=hs s q;omega,by omega,by omega,by omega,by omega⟩
theorem Om{l:List ByteArray}(h:eE l):l.length≤8:=h.2
theorem Kg{x:Worker}(h:av x):x.inputs.length≤8:=by
 obtain⟨_,_,_,_,h|h|h⟩:=h
 ·obtain⟨_,_,_,_,_,h,_⟩:=h;omega
 ·obtain⟨_,_,_,_,h,_⟩:=h;exact Om h
 ·obtain⟨_,_,_,_,h,_⟩:=h;omega
structure DoLim (w:World):Prop where
 plan:dl w.plan
 small:dv w.plan
 boss:BossLim w.boss
 wl:w.workers.length≤8
 wi:∀ x∈w.workers,x.inputs.length≤8
 fl:w.flight.length≤2000
 par:∀ x∈w.flight,ParOk x
 key:w.key.size≤30
def Ln(w:World):Prop:=WorldOk w∨w = noWorld
theorem jR{w:World}(h:WorldOk w):DoLim w:=by
 refine⟨WV h.plan,uQ h.plan,WG h.boss,h.wl.2,fun x hx=>?_,h.fl,h.par,h.key⟩
 obtain⟨n,hn⟩:=List.getElem?_of_mem hx
 exact Kg (h.crew n x (List.getElem?_eq_some_iff.1 hn).1 hn).ok
theorem QG:DoLim noWorld:=by
 refine⟨⟨Nat.zero_le _,fun y hy=>(by cases hy)⟩,⟨Nat.zero_le _,fun y hy=>(by cases hy)⟩,⟨Nat.zero_le _,Nat.zero_le _,fun s hs=>(by cases hs),Nat.zero_le _,Nat.zero_le _,Nat.zero_le _,Nat.zero_le _⟩,Nat.zero_le _,fun y hy=>(by cases hy),Nat.zero_le _,fun y hy=>(by cases hy),Nat.zero_le _⟩
theorem K4{w:World}(h:Ln w):DoLim w:=by
 rcases h with h|rfl
 ·exact jR h
 ·exact QG
theorem AE(p:Plan)(ws:List Worker):io p ws 0 = []:=rfl
theorem AG{p:Plan}{ws:List Worker}{n:Nat}{x:Worker}(h:ws[n]? = some x):io p ws n++ (fu x p).out = io p ws (n+1):=by
 unfold io;rw[List.take_add_one,h];simp
theorem nZ(x:Worker)(p:Plan):(fu x p).out.length≤1∧∀ m∈(fu x p).out,m.inputs = []:=by
 rcases(Hh x p).2 with e|⟨m,e,e2⟩
 ·rw[e];exact⟨Nat.zero_le _,fun m hm=>by cases hm⟩
 ·rw[e];exact⟨Nat.le_refl _,fun y hy=>by rw[List.mem_singleton.1 hy];exact e2⟩
theorem ME{α:Type}:∀ {xs:List (List α)},(∀ x∈xs,x.length≤1)→xs.flatten.length≤xs.length
 |[],_=>Nat.le_refl _
 |x :: xs,h=>by
  have h1:=h x (List.mem_cons_self ..)
  have h2:=ME fun y hy=>h y (List.mem_cons_of_mem x hy)
  simp only[List.flatten_cons,List.length_append,List.length_cons];omega
theorem JM(p:Plan)(ws:List Worker)(n:Nat):(io p ws n).length≤ws.length:=by
 have h:=ME (xs:=(ws.take n).map fun x=>(fu x p).out) (fun y hy=>by obtain⟨x,_,rfl⟩:=List.mem_map.1 hy;exact(nZ x p).1)
 have:((ws.take n).map fun x=>(fu x p).out).length≤ws.length:=by rw[List.length_map,List.length_take];omega
 exact Nat.le_trans h this
theorem JN{p:Plan}{ws:List Worker}{n:Nat}{m:Message}(h:m∈io p ws n):m.inputs = []:=by
 obtain⟨l,hl,hm⟩:=List.mem_flatten.1 h
 obtain⟨x,_,rfl⟩:=List.mem_map.1 hl
 exact(nZ x p).2 m hm
theorem EO(b:Boss)(p:Plan):(oy b p).out.length≤2040:=by
 by_cases hv:BossOk b p
 ·rw[nW hv]
  by_cases h0:b.now = 1000000
  ·rw[r5 h0];exact Nat.zero_le _
  by_cases hup:b.up = false
  ·rw[zt h0 hup];exact Nat.zero_le _
  have hup2:b.up = true:=by cases hb:b.up;exact absurd hb hup;rfl
  obtain⟨u1,u2,u3,u4,u5,u6,⟨u7,u8⟩,⟨u9,u10⟩,u11,u12,u13,u14⟩:=hv.up hup2
  have hpl:=(bT hv.plan).1
  have hdl:∀ t∈p.tasks,t.deps.length≤8:=fun t ht=>by
   obtain⟨k,hk⟩:=List.getElem?_of_mem ht
   exact(bZ hv.plan hk).2.2.1
  obtain⟨k1,k2,k3,k4,k5,k6⟩:=ld (b:=dw b) (ts:=p.tasks) hdl u9 u10 p.tasks.length
  have j3:(endH b p.tasks).out.length≤40:=by show(aG _ _ _).out.length≤_;omega
  by_cases hs:b.since+1 = 2
  ·rw[mh h0 hup hs]
   simp only[List.length_append,List.length_map];omega
  ·rw[n5 h0 hup hs]
   show(endH b p.tasks).out.length≤_;omega
 ·rw[Bd hv];exact Nat.zero_le _
theorem L1{w:World}(h:¬1000000≤w.boss.now):jY w = ⟨w.plan,w.key,(oy w.boss w.plan).boss,w.workers.map (fun x=>(fu x w.plan).worker),sf w.flight ((oy w.boss w.plan).out++io w.plan w.workers w.workers.length) w.key,w.forged⟩:=if_neg h
open Classical in
noncomputable def Af(w:World)(s:Parcel):ByteArray:=if ¬s.text = s.frm∧w.forged = emp then s.text else w.forged
theorem My{w:World}{s:Parcel}(h1:¬s.text = s.frm)(h2:w.forged = emp):Af w s = s.text:=if_pos ⟨h1,h2⟩
theorem Jr{w:World}{s:Parcel}(h1:s.text = s.frm):Af w s = w.forged:=if_neg fun q=>q.1 h1
theorem Js{w:World}{s:Parcel}(h2:¬w.forged = emp):Af w s = w.forged:=if_neg fun q=>h2 q.2
theorem EP{w:World}{k:Int}{s:Parcel}(ha:w.flight.length≤2000∧0≤k∧k < w.flight.length)(hs:w.flight[k.toNat]? = some s):fD w k = cH (dh w (cq w.flight k)) s:=by
 have e:KP w.flight k = s:=by unfold KP;rw[hs];rfl
 rw[fD,if_pos (show GY w k from ha),e]
theorem JE{w:World}{k:Int}(ha:¬(w.flight.length≤2000∧0≤k∧k < w.flight.length)):fD w k = w:=if_neg ha
theorem ER{w:World}{s:Parcel}(hm:ef s.text w.key = none):cH w s = w:=by unfold cH;rw[hm]
theorem vS{w:World}{s:Parcel}{m:Message}(hm:ef s.text w.key = some m)(h0:s.kind = 0):cH w s = ⟨w.plan,w.key,(DS w.boss w.plan m).boss,w.workers,w.flight,Af w s⟩:=by unfold cH;rw[hm];dsimp only;rw[if_pos h0];rfl
theorem vR{w:World}{s:Parcel}{m:Message}{x:Worker}(hm:ef s.text w.key = some m)(h0:¬s.kind = 0)(hx:mR w s.kind)(hw:w.workers[(s.kind - 1).toNat]? = some x):cH w s = ⟨w.plan,w.key,w.boss,w.workers.set (s.kind - 1).toNat (vU x w.plan m).worker,w.flight,Af w s⟩:=by
 have e:iK w.workers (s.kind - 1) = x:=by unfold iK;rw[hw];rfl
 unfold cH;rw[hm];dsimp only;rw[if_neg h0,if_pos hx,e];rfl
theorem AA{w:World}{s:Parcel}{m:Message}(hm:ef s.text w.key = some m)(h0:¬s.kind = 0)(hx:¬mR w s.kind):cH w s = ⟨w.plan,w.key,w.boss,w.workers,w.flight,Af w s⟩:=by
 unfold cH;rw[hm];dsimp only;rw[if_neg h0,if_neg hx];rfl
theorem Yi{w:World}{e:Event}(h:e.kind = 1):doW w e = jY w:=by rw[doW,if_pos h]
theorem Yh{w:World}{e:Event}(h:e.kind = 2):doW w e = fD w e.a:=by rw[doW,if_neg OM,if_pos h]
theorem Yg{w:World}{e:Event}(h:e.kind = 3):doW w e = ⟨w.plan,w.key,w.boss,w.workers,qB w.flight e.a,w.forged⟩:=by rw[doW,if_neg OM,if_neg OM,if_pos h];rfl
theorem Yf{w:World}{e:Event}(h:e.kind = 4):doW w e = ⟨w.plan,w.key,w.boss,w.workers,cq w.flight e.a,w.forged⟩:=by rw[doW,if_neg OM,if_neg OM,if_neg OM,if_pos h];rfl
theorem Ye{w:World}{e:Event}(h:e.kind = 5):doW w e = ⟨w.plan,w.key,w.boss,w.workers,qG w.flight e.a e.b e.c,w.forged⟩:=by rw[doW,if_neg OM,if_neg OM,if_neg OM,if_neg OM,if_pos h];rfl
theorem Xo{w:World}{e:Event}(h:e.kind = 6):doW w e = if e.a = 0 then zn w (qI w.boss w.plan e.b)else if mR w e.a then GF w e.a (n4 (iK w.workers (e.a - 1)))else w:=by rw[doW,if_neg OM,if_neg OM,if_neg OM,if_neg OM,if_neg OM,if_pos h]
theorem Xn{w:World}{e:Event}(h:e.kind = 7):doW w e = if e.a = 0 then zn w (qH w.boss w.plan)else if mR w e.a then GF w e.a (ll (iK w.workers (e.a - 1)))else w:=by rw[doW,if_neg OM,if_neg OM,if_neg OM,if_neg OM,if_neg OM,if_neg OM,if_pos h]
theorem Wl{w:World}{e:Event}(h:e.kind = 6)(h0:e.a = 0):doW w e = ⟨w.plan,w.key,qI w.boss w.plan e.b,w.workers,w.flight,w.forged⟩:=by rw[Xo h,if_pos h0];rfl
theorem Wi{w:World}{e:Event}(h:e.kind = 7)(h0:e.a = 0):doW w e = ⟨w.plan,w.key,qH w.boss w.plan,w.workers,w.flight,w.forged⟩:=by rw[Xn h,if_pos h0];rfl
theorem Wj{w:World}{e:Event}{x:Worker}(h:e.kind = 6)(hx:mR w e.a)(hw:w.workers[(e.a - 1).toNat]? = some x):doW w e = ⟨w.plan,w.key,w.boss,w.workers.set (e.a - 1).toNat (n4 x),w.flight,w.forged⟩:=by
 have e1:iK w.workers (e.a - 1) = x:=by unfold iK;rw[hw];rfl
 rw[Xo h,if_neg (by have:=hx.1;omega),if_pos hx,e1];rfl
theorem Wg{w:World}{e:Event}{x:Worker}(h:e.kind = 7)(hx:mR w e.a)(hw:w.workers[(e.a - 1).toNat]? = some x):doW w e = ⟨w.plan,w.key,w.boss,w.workers.set (e.a - 1).toNat (ll x),w.flight,w.forged⟩:=by
 have e1:iK w.workers (e.a - 1) = x:=by unfold iK;rw[hw];rfl
 rw[Xn h,if_neg (by have:=hx.1;omega),if_pos hx,e1];rfl
theorem Wk{w:World}{e:Event}(h:e.kind = 6)(h0:¬e.a = 0)(hx:¬mR w e.a):doW w e = w:=by rw[Xo h,if_neg h0,if_neg hx]
theorem Wh{w:World}{e:Event}(h:e.kind = 7)(h0:¬e.a = 0)(hx:¬mR w e.a):doW w e = w:=by rw[Xn h,if_neg h0,if_neg hx]
abbrev GE(p:Plan)(key:ByteArray)(b:Boss)(ws:List (List T))(fl:List Parcel)(f:ByteArray):V:=.agg [.own dE (p.tasks.map ay),.t (.s key),.t (.i b.workers),.t (.b b.up),.t (.i b.now),.t (.i b.since),.t (.i b.epoch),.t (.i b.given),.own [false] (b.log.safe.map ak),.own [false] (b.log.loose.map ak),.own [false] (b.results.map ak),.own eT (b.jobs.map aV),.own cM (b.seats.map aF),.own cP (b.owed.map aR),.own dp ws,.own pkd (fl.map bx),.t (.s f)]
theorem jP{xs:List Worker}{n:Nat}{x:Worker}:(xs.map ar).set n (ar x) = (xs.set n x).map ar:=by rw[←List.map_set]
theorem jp(p:Plan)(key:ByteArray)(b:Boss)(ws:List Worker)(n:Nat)(y:Worker)(fl:List Parcel)(f:ByteArray):GE p key b ((ws.map ar).set n (ar y)) fl f = aM ⟨p,key,b,ws.set n y,fl,f⟩:=by
 show GE p key b _ fl f = GE p key b ((ws.set n y).map ar) fl f
 rw[jP]
theorem jC(p:Plan)(key:ByteArray)(b:Boss)(ws:List Worker)(n:Nat)(y:Worker)(fl:List Parcel)(f:ByteArray)(os:List (List V)):cellsOf (GE p key b ((ws.map ar).set n (ar y)) fl f) :: os = cellsOf (aM ⟨p,key,b,ws.set n y,fl,f⟩) :: os:=by rw[jp]
end Go.K
end
section
open Go Go.Tm Go.Proofs
namespace Go.K
theorem se{b:Boss}{m:Message}(h:Owes b m):Bp b m = ⟨b.workers,b.up,b.now,b.since,b.epoch,b.given,b.log,b.results,b.jobs,b.seats,b.owed++ [⟨m.frm,m.lease,m.task⟩]⟩:=if_pos h
theorem gK{b:Boss}{m:Message}(h:¬Owes b m):Bp b m = b:=if_neg h
theorem Tc{rs:List ByteArray}{k:Int}{v:ByteArray}(h:k.toNat < rs.length):atS (rs.set k.toNat v) k = v:=by
 unfold atS;rw[List.getElem?_set_self h];rfl
theorem L8{b:Boss}{ts:List Task}{m:Message}(h:CanPut b ts m)(hk:m.task.toNat < b.results.length)(ht:¬m.text = emp):eP b ts m = Bp (mo b m) m:=by
 have e1:sJ b ts m = mo b m:=if_pos h
 have e2:Ef (mo b m) m = mo b m:=if_neg (by rw[show(mo b m).results = b.results.set m.task.toNat m.text from rfl,Tc hk];exact ht)
 rw[eP,e1,e2]
theorem L9{b:Boss}{ts:List Task}{m:Message}(h:¬CanPut b ts m)(hy:atS b.results m.task = emp)(ht:¬m.text = emp):eP b ts m = mD b m:=by
 have e1:sJ b ts m = b:=if_neg h
 have e2:Ef b m = mD b m:=if_pos hy
 have e3:(mD b m).results = b.results:=by unfold mD;split <;> rfl
 rw[eP,e1,e2,gK]
 intro q
 have:=q.same
 rw[e3,hy]at this
 exact ht this.symm
theorem IV{b:Boss}{ts:List Task}{m:Message}(hy:¬atS b.results m.task = emp):eP b ts m = Bp b m:=by
 have e1:sJ b ts m = b:=if_neg fun q=>hy q.res
 have e2:Ef b m = b:=if_neg hy
 rw[eP,e1,e2]
theorem I2{b:Boss}{ts:List Task}{m:Message}(hk:m.task.toNat < b.results.length)(h1:b.owed.length < 2000)(h2:∀ o∈b.owed,¬(o.worker = m.frm∧o.lease = m.lease)):Owes (mo b m) m:=⟨Tc hk,h1,h2⟩
theorem sm{xs:List Owed}{m:Message}{n:Nat}{o:Owed}(h:xs[n]? = some o)(ho:o.worker = m.frm∧o.lease = m.lease):¬∀ o∈xs,¬(o.worker = m.frm∧o.lease = m.lease):=fun q=>q o (List.mem_of_getElem? h) ho
theorem sw{b:Boss}{m:Message}(h:rC b m):mD b m = b:=if_pos h
theorem lU{b:Boss}{m:Message}(h:¬rC b m):mD b m = ⟨b.workers,b.up,b.now,b.since,b.epoch,b.given,b.log,b.results,b.jobs,b.seats.set (fV m) ⟨true,m.epoch⟩,b.owed⟩:=if_neg h
theorem Jp{b:Boss}{m:Message}(h:rC b m):wQ b m = b:=if_pos h
theorem Jq{b:Boss}{m:Message}(h:¬rC b m):wQ b m = ⟨b.workers,b.up,b.now,b.since,b.epoch,b.given,b.log,b.results,b.jobs.map (mC m.frm),b.seats.set (fV m) ⟨true,m.epoch⟩,b.owed⟩:=if_neg h
theorem GQ{b:Boss}{m:Message}{x:Seat}(h:b.seats[fV m]? = some x):rC b m↔m.epoch < x.epoch:=by unfold rC;rw[lN,h];exact Iff.rfl
structure ResIn (b:Boss) (ts:List Task) (m:Message):Prop where
 chk:aq ts = 0
 res:b.results.length = ts.length
 jobs:b.jobs.length = ts.length
 task:0≤m.task∧m.task < ts.length
 safe:b.log.safe.length≤1048576
 loose:b.log.loose.length≤1048576
 owed:b.owed.length≤1048576
 seats:b.seats.length≤8
 frm:1≤m.frm∧m.frm≤b.seats.length
 text:(m.text.size:Int) = 8
theorem pT(b:Boss)(p:Plan)(m:Message)(h:ResIn b p.tasks m):F pD [.ptr (cellsOf (aL b)),.val (cO p),.val (en m),.rel 0 (some (10,fV m,2)) 0] (.tup []) [cellsOf (aL (eP b p.tasks m)),[],[],[]]:=by
 obtain⟨hck,u3,u4,⟨t1,t2⟩,l1,l2,l3,l4,⟨f1,f2⟩,tx⟩:=h
 have hpl:=(bT hck).1
 have hsi:fV m < b.seats.length:=by unfold fV;omega
 have hkr:m.task.toNat < b.results.length:=by omega
 have hte:¬m.text = emp:=fun q=>by rw[q]at tx;cases tx
 obtain⟨x,hx⟩:=af hsi
 have hold:=GQ hx
 obtain⟨t,ht0⟩:=af (xs:=p.tasks) (n:=m.task.toNat) OM
 obtain⟨y,hy0⟩:=af (xs:=b.results) (n:=m.task.toNat) OM
 obtain⟨j,hj0⟩:=af (xs:=b.jobs) (n:=m.task.toNat) OM
 have hya:=jN hy0
 obtain⟨_,_,a3,a4⟩:=bZ hck ht0
 have crd:=iU b.results t.deps (fun d hd=>by have:=a4 d hd;omega) OM
 have cf:=lk 2 b.epoch m.task m.text OM
 rw[MB]at cf
 by_cases hA:y = emp
 ·by_cases hP:CanPut b p.tasks m
  ·have hF:cU b.results t.deps:=by have:=hP.ready;rw[dP ht0]at this;exact this
   have hR:=hP.room
   rw[decide_eq_true hF]at crd
   rw[L8 hP hkr hte]
   by_cases hO:b.owed.length < 2000
   ·refine bG ?_
    conv=>whnf
    refine g 0 0 []<|J Zd9<|g 11 13 []<|J UC<|W.sq<|gd 13 49 [[],[],[],[],[],[.n (Int.toNat m.task)],[.x (ak y)],[],[],[BT],[BT],[BT],[BT],[BT],[BT],[BT],[BT,.x (ay t)],[BT],[BT],[BT,.call VT [[],[]]],[BT],[],[BT],[BT],[BT],[BT],[BT],[BT],[BT],[BT],[BT],[BT],[BT],[BT],[BT,.i ((↑(List.length (List.map ak b.log.safe)):Int) + (↑(List.length (List.map ak b.log.loose)):Int))],[BT],[BT]] ?_
    conv=>whnf
    refine J ⟨I,I,I,I,I,Zdo,xA,I,I,⟨tO,I⟩,⟨tO,I⟩,⟨tO,I⟩,⟨tO,I⟩,⟨tO,I⟩,⟨tO,I⟩,⟨tO,I⟩,⟨tO,AS,xA⟩,⟨tO,I⟩,⟨tO,I⟩,⟨tO,UB,I,UT,UA,AS⟩,tO,I,Zdc,Zdc,Zdc,Zdc,Zdc,Zdc,Zdc,Zdc,Zdc,Zdc,Zdc,Zdc,⟨rfl,w64 LN LN⟩,Zdc,rfl,I⟩<|J KR<|W.cn<|J (fun h1=>?_) fun h1=>?_
    replace h1:=dt h1
    simp only[LM]at h1
    refine gd 49 58 [[],[],[],[],[],[],[],[.n (Int.toNat m.task)],[.x (ak y)]] ?_
    conv=>whnf
    refine J ⟨I,I,I,I,I,I,I,Zdo,Zeh,I⟩<|J KR<|gd 58 78 [[],[],[],[],[],[],[],[],[],[],[],[],[],[],[.call (V.s (dc {kind:=2,epoch:=b.epoch,task:=m.task,text:=m.text:Entry})) [[]]],[],[],[],[],[],[]] ?_
    conv=>whnf
    refine J ⟨I,I,I,I,I,I,I,I,I,I,I,I,I,I,Zc9,US,Zdi,I,I,I,UA,I⟩<|J KR<|rg [.n (Int.toNat m.task),.x (aV j)]<|J ⟨I,I,I,I,I,I,Zdo,⟨UC,xA⟩,I⟩<|W.sq<|gd 78 101 [[],[],[],[],[],[.n (Int.toNat m.task)],[.x (aK (ak y) 0 [T.v (Value.string m.text)])],[],[],[BF],[BF],[BF],[BF],[BF],[BF],[BF],[BF]] ?_
    conv=>whnf
    refine J ⟨I,I,I,I,I,Zdo,bR LN,I,I,dO,dO,dO,dO,dO,dO,dO,dO,I⟩<|J KR<|W.cn<|J (noT rfl) fun _=>W.skip<|W.sq<|gd 101 124 [[],[],[],[],[],[.n (Int.toNat m.task)],[.x (aK (ak y) 0 [T.v (Value.string m.text)])],[],[],[],[],[BF],[BF],[BF],[BF],[BF],[BF],[BF]] ?_
    conv=>whnf
    refine J ⟨I,I,I,I,I,Zdo,bR LN,I,I,I,I,⟨eh rfl,I⟩,⟨eh rfl,I⟩,⟨eh rfl,I⟩,⟨eh rfl,I⟩,⟨eh rfl,I⟩,⟨eh rfl,I⟩,eh rfl,I⟩<|J KR<|W.cn<|J (fun h2=>?_) fun h2=>?_
    replace h2:=dt h2
    simp only[LM]at h2
    omega
    replace h2:=df h2
    simp only[LM]at h2
    refine W.skip<|W.sq<|g 124 128 []<|J UF<|W.blk ?_
    rotate_left
    replace h1:=df h1
    simp only[LM]at h1
    omega
    refine W.lp (fun s (n:Nat)=>⟨[(0,s.s 0),(1,s.s 1),(2,s.s 2),(5,s.s 5),(6,s.s 6),(8,s.s 8),(128,s.s 128),(129,s.s 129),(130,.i n)],[(162,[s.c 162 0,s.c 162 1,s.c 162 2,s.c 162 3,s.c 162 4,s.c 162 5,s.c 162 6,s.c 162 7,s.c 162 8,s.c 162 9,s.c 162 10,s.c 162 11]),(5,[s.c 5 0]),(6,[s.c 6 0,s.c 6 1,s.c 6 2,s.c 6 3,s.c 6 4,s.c 6 5,s.c 6 6,s.c 6 7])],[]⟩) (fun(n:Nat)=>n≤b.owed.length∧∀ o∈b.owed.take n,¬(o.worker = m.frm∧o.lease = m.lease)) (fun(n:Nat)=>b.owed.length - n) (0) [some 162,some 5,some 6] [] Zdl (by simp) ?_
    rintro n ⟨hn,hc⟩
    by_cases hn2:n < b.owed.length
    ·obtain⟨o,ho⟩:=af hn2
     by_cases hw:o.worker = m.frm
     ·by_cases hl:o.lease = m.lease
      ·rw[gK (b:=mo b m) (fun q=>sm ho ⟨hw,hl⟩ q.new)]
       conv=>whnf
       refine g 0 0 []<|J UA<|W.sq<|W.cn<|J (fun _=>(W.skip (W.sq (W.blk (g 131 134 [.n (n),.x (aR o)]<|J Zc0 (g 134 145 [BT,BT,BT,BT,BT,BT]<|J Zcj (W.cn<|J (fun _=>(W.ret (EndsW.rt<|J I<|J ?_ ?_))) (noF tO)))))))) (noF SI)
       rfl
       all_goals (simp only[mo,aL,cellsOf,List.map_set,List.map_append,List.map_cons,List.map_nil];rfl)
      ·conv=>whnf
       refine g 0 0 []<|J UA<|W.sq<|W.cn<|J (fun _=>(W.skip (W.sq (W.blk (g 131 134 [.n (n),.x (aR o)]<|J Zc0 (g 134 145 [BT,BT,BT,BT,BT,BT]<|J Zcj (W.cn<|J (noT dO) fun _=>(W.skip (rg [.i ((n:Int) +1)]<|J Zdm ?_))))))))) (noF SI)
       refine⟨n+1,[some 162,some 5,some 6],[],Zdl,?_,?_⟩
       rotate_left
       (dsimp only;omega)
       dsimp only
       exact⟨by omega,dN hc ho fun q=>hl q.2⟩
     ·conv=>whnf
      refine g 0 0 []<|J UA<|W.sq<|W.cn<|J (fun _=>(W.skip (W.sq (W.blk (g 131 134 [.n (n),.x (aR o)]<|J Zc0 (g 134 145 [BF,BF,BF,BF,BF,BF]<|J ⟨I,I,I,I,I,I,dO,dO,dO,dO,dO,dO,I⟩ (W.cn<|J (noT rfl) fun _=>(W.skip (rg [.i ((n:Int) +1)]<|J Zdm ?_))))))))) (noF SI)
      refine⟨n+1,[some 162,some 5,some 6],[],Zdl,?_,?_⟩
      rotate_left
      (dsimp only;omega)
      dsimp only
      exact⟨by omega,dN hc ho fun q=>hw q.1⟩
    ·rw[aE OM]at hc
     rw[se (I2 (ts:=p.tasks) hkr hO hc)]
     conv=>whnf
     refine g 0 0 []<|J UA<|W.sq<|W.cn<|J (noT SI) fun _=>W.exit<|rgd [[],[],[],[],[],[],[],[],[],[],[],[],[],[],[],[]] ?_
     conv=>whnf
     refine J ⟨I,I,I,I,I,I,I,I,I,I,I,⟨UC,I⟩,Zdi,I,I,UA,I⟩<|J KR<|EndsW.nm<|J I<|J ?_ ?_
     rfl
     all_goals (simp only[mo,aL,cellsOf,List.map_set,List.map_append,List.map_cons,List.map_nil];rfl)
   ·rw[gK (b:=mo b m) (fun q=>hO q.room)]
    refine bG ?_
    conv=>whnf
    refine g 0 0 []<|J Zd9<|g 11 13 []<|J UC<|W.sq<|gd 13 49 [[],[],[],[],[],[.n (Int.toNat m.task)],[.x (ak y)],[],[],[BT],[BT],[BT],[BT],[BT],[BT],[BT],[BT,.x (ay t)],[BT],[BT],[BT,.call VT [[],[]]],[BT],[],[BT],[BT],[BT],[BT],[BT],[BT],[BT],[BT],[BT],[BT],[BT],[BT],[BT,.i ((↑(List.length (List.map ak b.log.safe)):Int) + (↑(List.length (List.map ak b.log.loose)):Int))],[BT],[BT]] ?_
    conv=>whnf
    refine J ⟨I,I,I,I,I,Zdo,xA,I,I,⟨tO,I⟩,⟨tO,I⟩,⟨tO,I⟩,⟨tO,I⟩,⟨tO,I⟩,⟨tO,I⟩,⟨tO,I⟩,⟨tO,AS,xA⟩,⟨tO,I⟩,⟨tO,I⟩,⟨tO,UB,I,UT,UA,AS⟩,tO,I,Zdc,Zdc,Zdc,Zdc,Zdc,Zdc,Zdc,Zdc,Zdc,Zdc,Zdc,Zdc,⟨rfl,w64 LN LN⟩,Zdc,rfl,I⟩<|J KR<|W.cn<|J (fun h1=>?_) fun h1=>?_
    replace h1:=dt h1
    simp only[LM]at h1
    refine gd 49 58 [[],[],[],[],[],[],[],[.n (Int.toNat m.task)],[.x (ak y)]] ?_
    conv=>whnf
    refine J ⟨I,I,I,I,I,I,I,Zdo,Zeh,I⟩<|J KR<|gd 58 78 [[],[],[],[],[],[],[],[],[],[],[],[],[],[],[.call (V.s (dc {kind:=2,epoch:=b.epoch,task:=m.task,text:=m.text:Entry})) [[]]],[],[],[],[],[],[]] ?_
    conv=>whnf
    refine J ⟨I,I,I,I,I,I,I,I,I,I,I,I,I,I,Zc9,US,Zdi,I,I,I,UA,I⟩<|J KR<|rg [.n (Int.toNat m.task),.x (aV j)]<|J ⟨I,I,I,I,I,I,Zdo,⟨UC,xA⟩,I⟩<|W.sq<|gd 78 101 [[],[],[],[],[],[.n (Int.toNat m.task)],[.x (aK (ak y) 0 [T.v (Value.string m.text)])],[],[],[BF],[BF],[BF],[BF],[BF],[BF],[BF],[BF]] ?_
    conv=>whnf
    refine J ⟨I,I,I,I,I,Zdo,bR LN,I,I,dO,dO,dO,dO,dO,dO,dO,dO,I⟩<|J KR<|W.cn<|J (noT rfl) fun _=>W.skip<|W.sq<|gd 101 124 [[],[],[],[],[],[.n (Int.toNat m.task)],[.x (aK (ak y) 0 [T.v (Value.string m.text)])],[],[],[],[],[BF],[BF],[BF],[BF],[BF],[BF],[BF]] ?_
    conv=>whnf
    refine J ⟨I,I,I,I,I,Zdo,bR LN,I,I,I,I,⟨eh rfl,I⟩,⟨eh rfl,I⟩,⟨eh rfl,I⟩,⟨eh rfl,I⟩,⟨eh rfl,I⟩,⟨eh rfl,I⟩,eh rfl,I⟩<|J KR<|W.cn<|J (fun h2=>?_) fun h2=>?_
    replace h2:=dt h2
    simp only[LM]at h2
    refine W.ret<|EndsW.rt<|J I<|J ?_ ?_
    rfl
    rotate_left
    replace h2:=df h2
    simp only[LM]at h2
    omega
    replace h1:=df h1
    simp only[LM]at h1
    omega
    all_goals (simp only[mo,aL,cellsOf,List.map_set,List.map_append,List.map_cons,List.map_nil];rfl)
  ·rw[L9 hP (by rw[hya];exact hA) hte]
   by_cases hF:cU b.results t.deps
   ·rw[decide_eq_true hF]at crd
    have hR:¬b.log.safe.length+b.log.loose.length < 310:=fun q=>hP ⟨by rw[hya];exact hA,by rw[dP ht0];exact hF,q⟩
    by_cases ho:rC b m
    ·have ho2:=hold.1 ho
     rw[sw ho]
     refine bG ?_
     conv=>whnf
     refine g 0 0 []<|J Zd9<|g 11 13 []<|J UC<|W.sq<|gd 13 49 [[],[],[],[],[],[.n (Int.toNat m.task)],[.x (ak y)],[],[],[BT],[BT],[BT],[BT],[BT],[BT],[BT],[BT,.x (ay t)],[BT],[BT],[BT,.call VT [[],[]]],[BT],[],[BT],[BT],[BT],[BT],[BT],[BT],[BT],[BT],[BT],[BT],[BT],[BT],[BT,.i ((↑(List.length (List.map ak b.log.safe)):Int) + (↑(List.length (List.map ak b.log.loose)):Int))],[BT],[BT]] ?_
     conv=>whnf
     refine J ⟨I,I,I,I,I,Zdo,xA,I,I,⟨tO,I⟩,⟨tO,I⟩,⟨tO,I⟩,⟨tO,I⟩,⟨tO,I⟩,⟨tO,I⟩,⟨tO,I⟩,⟨tO,AS,xA⟩,⟨tO,I⟩,⟨tO,I⟩,⟨tO,UB,I,UT,UA,AS⟩,tO,I,Zdc,Zdc,Zdc,Zdc,Zdc,Zdc,Zdc,Zdc,Zdc,Zdc,Zdc,Zdc,⟨rfl,w64 LN LN⟩,Zdc,rfl,I⟩<|J KR<|W.cn<|J (fun h1=>?_) fun h1=>?_
     replace h1:=dt h1
     simp only[LM]at h1
     omega
     replace h1:=df h1
     simp only[LM]at h1
     refine W.skip<|W.sq<|gd 49 101 [[],[],[],[],[],[.n (Int.toNat m.task)],[.x (ak y)],[],[],[BT],[BT],[BT],[BT],[BT],[BT,.x (aF x)],[BT],[BT]] ?_
     conv=>whnf
     refine J Zbr<|J KR<|W.cn<|J (noT dO) fun _=>W.skip<|W.sq ?_
     by_cases h2:y = Message.text m
     refine gd 101 124 [[],[],[],[],[],[.n (Int.toNat m.task)],[.x (ak y)],[],[],[],[],[BF],[BF],[BF],[BF],[BF],[BF],[BF]] ?_
     conv=>whnf
     refine J Za3<|J KR<|W.cn<|J (fun _=>(RT ?_)) (noF (by simp_all))
     rfl
     refine gd 101 124 [[],[],[],[],[],[.n (Int.toNat m.task)],[.x (ak y)],[],[],[],[],[BT],[BT],[BT],[BT],[BT],[BT],[BT]] ?_
     conv=>whnf
     refine J Zbq<|J KR<|W.cn<|J (fun _=>(RT ?_)) (noF rfl)
     rfl
    ·have ho2:¬m.epoch < x.epoch:=fun q=>ho (hold.2 q)
     rw[lU ho]
     refine bG ?_
     conv=>whnf
     refine g 0 0 []<|J Zd9<|g 11 13 []<|J UC<|W.sq<|gd 13 49 [[],[],[],[],[],[.n (Int.toNat m.task)],[.x (ak y)],[],[],[BT],[BT],[BT],[BT],[BT],[BT],[BT],[BT,.x (ay t)],[BT],[BT],[BT,.call VT [[],[]]],[BT],[],[BT],[BT],[BT],[BT],[BT],[BT],[BT],[BT],[BT],[BT],[BT],[BT],[BT,.i ((↑(List.length (List.map ak b.log.safe)):Int) + (↑(List.length (List.map ak b.log.loose)):Int))],[BT],[BT]] ?_
     conv=>whnf
     refine J ⟨I,I,I,I,I,Zdo,xA,I,I,⟨tO,I⟩,⟨tO,I⟩,⟨tO,I⟩,⟨tO,I⟩,⟨tO,I⟩,⟨tO,I⟩,⟨tO,I⟩,⟨tO,AS,xA⟩,⟨tO,I⟩,⟨tO,I⟩,⟨tO,UB,I,UT,UA,AS⟩,tO,I,Zdc,Zdc,Zdc,Zdc,Zdc,Zdc,Zdc,Zdc,Zdc,Zdc,Zdc,Zdc,⟨rfl,w64 LN LN⟩,Zdc,rfl,I⟩<|J KR<|W.cn<|J (fun h1=>?_) fun h1=>?_
     replace h1:=dt h1
     simp only[LM]at h1
     omega
     replace h1:=df h1
     simp only[LM]at h1
     refine W.skip<|W.sq<|gd 49 101 [[],[],[],[],[],[.n (Int.toNat m.task)],[.x (ak y)],[],[],[BT],[BT],[BT],[BT],[BT],[BT,.x (aF x)],[BT],[BT]] ?_
     conv=>whnf
     refine J Zbr<|J KR<|W.cn<|J (fun _=>(rg [.x (aF x)]<|J ⟨I,I,I,I,I,⟨UB,xA⟩,I⟩ (W.sq ?_))) (noF tO)
     by_cases h2:y = Message.text m
     refine gd 101 124 [[],[],[],[],[],[.n (Int.toNat m.task)],[.x (ak y)],[],[],[],[],[BF],[BF],[BF],[BF],[BF],[BF],[BF]] ?_
     conv=>whnf
     refine J Za3<|J KR<|W.cn<|J (fun _=>(W.ret (EndsW.rt<|J I<|J ?_ ?_))) (noF (by simp_all))
     rfl
     rotate_left
     refine gd 101 124 [[],[],[],[],[],[.n (Int.toNat m.task)],[.x (ak y)],[],[],[],[],[BT],[BT],[BT],[BT],[BT],[BT],[BT]] ?_
     conv=>whnf
     refine J Zbq<|J KR<|W.cn<|J (fun _=>(W.ret (EndsW.rt<|J I<|J ?_ ?_))) (noF rfl)
     rfl
     rotate_left
     all_goals (simp only[mo,aL,cellsOf,List.map_set,List.map_append,List.map_cons,List.map_nil];rfl)
   ·rw[decide_eq_false hF]at crd
    by_cases ho:rC b m
    ·have ho2:=hold.1 ho
     rw[sw ho]
     refine bG ?_
     conv=>whnf
     refine g 0 0 []<|J Zd9<|g 11 13 []<|J UC<|W.sq<|gd 13 49 [[],[],[],[],[],[.n (Int.toNat m.task)],[.x (ak y)],[],[],[BT],[BT],[BT],[BT],[BT],[BT],[BT],[BT,.x (ay t)],[BT],[BT],[BT,.call VF [[],[]]],[BT],[],[BF],[BF],[BF],[BF],[BF],[BF],[BF],[BF],[BF],[BF],[BF],[BF],[BF],[BF],[BF]] ?_
     conv=>whnf
     refine J Zbp<|J KR<|W.cn<|J (noT rfl) fun _=>W.skip<|W.sq<|gd 49 101 [[],[],[],[],[],[.n (Int.toNat m.task)],[.x (ak y)],[],[],[BT],[BT],[BT],[BT],[BT],[BT,.x (aF x)],[BT],[BT]] ?_
     conv=>whnf
     refine J Zbr<|J KR<|W.cn<|J (noT dO) fun _=>W.skip<|W.sq ?_
     by_cases h1:y = Message.text m
     refine gd 101 124 [[],[],[],[],[],[.n (Int.toNat m.task)],[.x (ak y)],[],[],[],[],[BF],[BF],[BF],[BF],[BF],[BF],[BF]] ?_
     conv=>whnf
     refine J Za3<|J KR<|W.cn<|J (fun _=>(RT ?_)) (noF (by simp_all))
     rfl
     refine gd 101 124 [[],[],[],[],[],[.n (Int.toNat m.task)],[.x (ak y)],[],[],[],[],[BT],[BT],[BT],[BT],[BT],[BT],[BT]] ?_
     conv=>whnf
     refine J Zbq<|J KR<|W.cn<|J (fun _=>(RT ?_)) (noF rfl)
     rfl
    ·have ho2:¬m.epoch < x.epoch:=fun q=>ho (hold.2 q)
     rw[lU ho]
     refine bG ?_
     conv=>whnf
     refine g 0 0 []<|J Zd9<|g 11 13 []<|J UC<|W.sq<|gd 13 49 [[],[],[],[],[],[.n (Int.toNat m.task)],[.x (ak y)],[],[],[BT],[BT],[BT],[BT],[BT],[BT],[BT],[BT,.x (ay t)],[BT],[BT],[BT,.call VF [[],[]]],[BT],[],[BF],[BF],[BF],[BF],[BF],[BF],[BF],[BF],[BF],[BF],[BF],[BF],[BF],[BF],[BF]] ?_
     conv=>whnf
     refine J Zbp<|J KR<|W.cn<|J (noT rfl) fun _=>W.skip<|W.sq<|gd 49 101 [[],[],[],[],[],[.n (Int.toNat m.task)],[.x (ak y)],[],[],[BT],[BT],[BT],[BT],[BT],[BT,.x (aF x)],[BT],[BT]] ?_
     conv=>whnf
     refine J Zbr<|J KR<|W.cn<|J (fun _=>(rg [.x (aF x)]<|J ⟨I,I,I,I,I,⟨UB,xA⟩,I⟩ (W.sq ?_))) (noF tO)
     by_cases h1:y = Message.text m
     refine gd 101 124 [[],[],[],[],[],[.n (Int.toNat m.task)],[.x (ak y)],[],[],[],[],[BF],[BF],[BF],[BF],[BF],[BF],[BF]] ?_
     conv=>whnf
     refine J Za3<|J KR<|W.cn<|J (fun _=>(W.ret (EndsW.rt<|J I<|J ?_ ?_))) (noF (by simp_all))
     rfl
     rotate_left
     refine gd 101 124 [[],[],[],[],[],[.n (Int.toNat m.task)],[.x (ak y)],[],[],[],[],[BT],[BT],[BT],[BT],[BT],[BT],[BT]] ?_
     conv=>whnf
     refine J Zbq<|J KR<|W.cn<|J (fun _=>(W.ret (EndsW.rt<|J I<|J ?_ ?_))) (noF rfl)
     rfl
     rotate_left
     all_goals (simp only[mo,aL,cellsOf,List.map_set,List.map_append,List.map_cons,List.map_nil];rfl)
 ·rw[IV (by rw[hya];exact hA)]
  by_cases hs:y = m.text
  ·by_cases hO:b.owed.length < 2000
   ·refine bG ?_
    conv=>whnf
    refine g 0 0 []<|J Zd9<|g 11 13 []<|J UC<|W.sq<|gd 13 49 [[],[],[],[],[],[.n (Int.toNat m.task)],[.x (ak y)],[],[],[BF],[BF],[BF],[BF],[BF],[BF],[BF],[BF],[BF],[BF],[BF],[BF],[],[BF],[BF],[BF],[BF],[BF],[BF],[BF],[BF],[BF],[BF],[BF],[BF],[BF],[BF],[BF]] ?_
    conv=>whnf
    refine J Zbw<|J KR<|W.cn<|J (noT rfl) fun _=>W.skip<|W.sq<|gd 49 101 [[],[],[],[],[],[.n (Int.toNat m.task)],[.x (ak y)],[],[],[BF],[BF],[BF],[BF],[BF],[BF],[BF],[BF]] ?_
    conv=>whnf
    refine J ⟨I,I,I,I,I,Zdo,xA,I,I,dO,dO,dO,dO,dO,dO,dO,dO,I⟩<|J KR<|W.cn<|J (noT rfl) fun _=>W.skip<|W.sq<|gd 101 124 [[],[],[],[],[],[.n (Int.toNat m.task)],[.x (ak y)],[],[],[],[],[BF],[BF],[BF],[BF],[BF],[BF],[BF]] ?_
    conv=>whnf
    refine J Za3<|J KR<|W.cn<|J (fun h1=>?_) fun h1=>?_
    replace h1:=dt h1
    simp only[LM]at h1
    omega
    replace h1:=df h1
    simp only[LM]at h1
    refine W.skip<|W.sq<|g 124 128 []<|J UF<|W.blk<|W.lp (fun s (n:Nat)=>⟨[(0,s.s 0),(1,s.s 1),(2,s.s 2),(5,s.s 5),(6,s.s 6),(8,s.s 8),(128,s.s 128),(129,s.s 129),(130,.i n)],[(162,[s.c 162 0,s.c 162 1,s.c 162 2,s.c 162 3,s.c 162 4,s.c 162 5,s.c 162 6,s.c 162 7,s.c 162 8,s.c 162 9,s.c 162 10,s.c 162 11]),(5,[s.c 5 0]),(6,[s.c 6 0,s.c 6 1,s.c 6 2,s.c 6 3,s.c 6 4,s.c 6 5,s.c 6 6,s.c 6 7])],[]⟩) (fun(n:Nat)=>n≤b.owed.length∧∀ o∈b.owed.take n,¬(o.worker = m.frm∧o.lease = m.lease)) (fun(n:Nat)=>b.owed.length - n) (0) [some 162,some 5,some 6] [] Zdl (by simp) ?_
    rintro n ⟨hn,hc⟩
    by_cases hn2:n < b.owed.length
    ·obtain⟨o,ho⟩:=af hn2
     by_cases hw:o.worker = m.frm
     ·by_cases hl:o.lease = m.lease
      ·rw[gK (fun q=>sm ho ⟨hw,hl⟩ q.new)]
       conv=>whnf
       refine g 0 0 []<|J UA<|W.sq<|W.cn<|J (fun _=>(W.skip (W.sq (W.blk (g 131 134 [.n (n),.x (aR o)]<|J Zc0 (g 134 145 [BT,BT,BT,BT,BT,BT]<|J Zcj (W.cn<|J (fun _=>(RT ?_)) (noF tO)))))))) (noF SI)
       rfl
       all_goals (simp only[mo,aL,cellsOf,List.map_set,List.map_append,List.map_cons,List.map_nil];rfl)
      ·conv=>whnf
       refine g 0 0 []<|J UA<|W.sq<|W.cn<|J (fun _=>(W.skip (W.sq (W.blk (g 131 134 [.n (n),.x (aR o)]<|J Zc0 (g 134 145 [BT,BT,BT,BT,BT,BT]<|J Zcj (W.cn<|J (noT dO) fun _=>(W.skip (rg [.i ((n:Int) +1)]<|J Zdm ?_))))))))) (noF SI)
       refine⟨n+1,[some 162,some 5,some 6],[],Zdl,?_,?_⟩
       rotate_left
       (dsimp only;omega)
       dsimp only
       exact⟨by omega,dN hc ho fun q=>hl q.2⟩
     ·conv=>whnf
      refine g 0 0 []<|J UA<|W.sq<|W.cn<|J (fun _=>(W.skip (W.sq (W.blk (g 131 134 [.n (n),.x (aR o)]<|J Zc0 (g 134 145 [BF,BF,BF,BF,BF,BF]<|J ⟨I,I,I,I,I,I,dO,dO,dO,dO,dO,dO,I⟩ (W.cn<|J (noT rfl) fun _=>(W.skip (rg [.i ((n:Int) +1)]<|J Zdm ?_))))))))) (noF SI)
      refine⟨n+1,[some 162,some 5,some 6],[],Zdl,?_,?_⟩
      rotate_left
      (dsimp only;omega)
      dsimp only
      exact⟨by omega,dN hc ho fun q=>hw q.1⟩
    ·rw[aE OM]at hc
     rw[se ⟨by rw[hya];exact hs,hO,hc⟩]
     conv=>whnf
     refine g 0 0 []<|J UA<|W.sq<|W.cn<|J (noT SI) fun _=>W.exit<|rgd [[],[],[],[],[],[],[],[],[],[],[],[],[],[],[],[]] ?_
     conv=>whnf
     refine J ⟨I,I,I,I,I,I,I,I,I,I,I,⟨UC,I⟩,Zdi,I,I,UA,I⟩<|J KR<|EndsW.nm<|J I<|J ?_ ?_
     rfl
     all_goals (simp only[mo,aL,cellsOf,List.map_set,List.map_append,List.map_cons,List.map_nil];rfl)
   ·rw[gK (fun q=>hO q.room)]
    refine bG ?_
    conv=>whnf
    refine g 0 0 []<|J Zd9<|g 11 13 []<|J UC<|W.sq<|gd 13 49 [[],[],[],[],[],[.n (Int.toNat m.task)],[.x (ak y)],[],[],[BF],[BF],[BF],[BF],[BF],[BF],[BF],[BF],[BF],[BF],[BF],[BF],[],[BF],[BF],[BF],[BF],[BF],[BF],[BF],[BF],[BF],[BF],[BF],[BF],[BF],[BF],[BF]] ?_
    conv=>whnf
    refine J Zbw<|J KR<|W.cn<|J (noT rfl) fun _=>W.skip<|W.sq<|gd 49 101 [[],[],[],[],[],[.n (Int.toNat m.task)],[.x (ak y)],[],[],[BF],[BF],[BF],[BF],[BF],[BF],[BF],[BF]] ?_
    conv=>whnf
    refine J ⟨I,I,I,I,I,Zdo,xA,I,I,dO,dO,dO,dO,dO,dO,dO,dO,I⟩<|J KR<|W.cn<|J (noT rfl) fun _=>W.skip<|W.sq<|gd 101 124 [[],[],[],[],[],[.n (Int.toNat m.task)],[.x (ak y)],[],[],[],[],[BF],[BF],[BF],[BF],[BF],[BF],[BF]] ?_
    conv=>whnf
    refine J Za3<|J KR<|W.cn<|J (fun h1=>?_) fun h1=>?_
    replace h1:=dt h1
    simp only[LM]at h1
    refine RT ?_
    rfl
    replace h1:=df h1
    simp only[LM]at h1
    omega
  ·rw[gK (fun q=>hs (by rw[←q.same,hya]))]
   refine bG ?_
   conv=>whnf
   refine g 0 0 []<|J Zd9<|g 11 13 []<|J UC<|W.sq<|gd 13 49 [[],[],[],[],[],[.n (Int.toNat m.task)],[.x (ak y)],[],[],[BF],[BF],[BF],[BF],[BF],[BF],[BF],[BF],[BF],[BF],[BF],[BF],[],[BF],[BF],[BF],[BF],[BF],[BF],[BF],[BF],[BF],[BF],[BF],[BF],[BF],[BF],[BF]] ?_
   conv=>whnf
   refine J Zbw<|J KR<|W.cn<|J (noT rfl) fun _=>W.skip<|W.sq<|gd 49 101 [[],[],[],[],[],[.n (Int.toNat m.task)],[.x (ak y)],[],[],[BF],[BF],[BF],[BF],[BF],[BF],[BF],[BF]] ?_
   conv=>whnf
   refine J ⟨I,I,I,I,I,Zdo,xA,I,I,dO,dO,dO,dO,dO,dO,dO,dO,I⟩<|J KR<|W.cn<|J (noT rfl) fun _=>W.skip<|W.sq<|gd 101 124 [[],[],[],[],[],[.n (Int.toNat m.task)],[.x (ak y)],[],[],[],[],[BT],[BT],[BT],[BT],[BT],[BT],[BT]] ?_
   conv=>whnf
   refine J Zbq<|J KR<|W.cn<|J (fun _=>(RT ?_)) (noF rfl)
   rfl
end Go.K
end
section
open Go Go.Tm Go.Proofs
namespace Go.K
theorem Jt{w:Int}{js:List Job}{n:Nat}{j:Job}(h:js[n]? = some j)(hd:j.worker = w):((fR (mC w) js n).map aV).set n (aV fz) = (fR (mC w) js (n+1)).map aV:=by
 have:=lC (f:=mC w) (g:=aV) h
 rw[show mC w j = fz from if_pos hd]at this
 exact this
theorem MA{w:Int}{js:List Job}{n:Nat}{j:Job}(h:js[n]? = some j)(hd:¬j.worker = w):fR (mC w) js n = fR (mC w) js (n+1):=oh h (if_neg hd)
theorem JJ{l u:Int}{js:List Job}{n:Nat}{j:Job}(h:js[n]? = some j)(hd:j.lease = l):((fR (nd l u) js n).map aV).set n (aV ⟨j.lease,j.worker,u⟩) = (fR (nd l u) js (n+1)).map aV:=by
 have:=lC (f:=nd l u) (g:=aV) h
 rw[show nd l u j = ⟨j.lease,j.worker,u⟩from if_pos hd]at this
 exact this
theorem Nx{l u:Int}{js:List Job}{n:Nat}{j:Job}(h:js[n]? = some j)(hd:¬j.lease = l):fR (nd l u) js n = fR (nd l u) js (n+1):=oh h (if_neg hd)
theorem RM{b:Boss}{p:Plan}{m:Message}(hv:BossOk b p)(h:BossLim b)(hf:ForB b m)(hk:m.kind = 3)(ht:m.task < p.tasks.length):ResIn b p.tasks m:=by
 obtain⟨u1,u2,u3,u4,u5,u6,⟨u7,u8⟩,⟨u9,u10⟩,u11,u12,u13,u14⟩:=hv.up hf.up
 obtain⟨_,⟨f1,_⟩,_⟩:=nR hf
 obtain⟨_,⟨t1,_⟩,tx⟩:=Gy hf hk
 have hw:=hv.workers
 have f2:=hf.frm
 exact⟨hv.plan,u3,u4,⟨t1,ht⟩,h.safe,h.loose,h.owed,by omega,⟨f1,by omega⟩,tx⟩
theorem uD(b:Boss)(p:Plan)(m:Message)(hv:BossOk b p)(h:BossLim b)(hm:m.inputs.length≤9223372036854775806):F tu [.ptr (cellsOf (aL b)),.val (cO p),.val (en m)] (.tup []) [cellsOf (aL (gR b p.tasks m)),[],[]]:=by
 have cm:=cG m hm
 by_cases hf:ForB b m
 ·obtain⟨u1,u2,u3,u4,u5,u6,⟨u7,u8⟩,⟨u9,u10⟩,u11,u12,u13,u14⟩:=hv.up hf.up
  obtain⟨hkd,⟨f1,f2⟩,⟨e1,e2⟩⟩:=nR hf
  have hnow:=hv.now
  have hwk:=hv.workers
  have hpl:=(bT hv.plan).1
  obtain⟨g1,g2,g3,g4⟩:=hf
  have hf:ForB b m:=⟨g1,g2,g3,g4⟩
  rw[decide_eq_true g2]at cm
  have hsi:fV m < b.seats.length:=by unfold fV;omega
  obtain⟨x,hx⟩:=af hsi
  have hx':b.seats[(m.frm - 1).toNat]? = some x:=hx
  have hold:=GQ hx
  rcases hkd with hk|hk|hk
  ·rw[n8 hf hk]
   refine co ?_
   conv=>whnf
   refine g 2 3 []<|J Zd9<|W.sq<|gd 9 32 [[],[],[],[],[],[],[BF],[BF,.call VT [[]]],[BF],[BF],[],[BF],[BF],[BF],[BF],[],[BF],[BF],[BF],[BF],[BF],[BF],[BF],[BF]] ?_
   conv=>whnf
   refine J Zal<|J KR<|W.cn<|J (noT dO) fun _=>W.skip<|gd 32 41 [[],[],[],[],[],[],[.i (m.frm - 1)],[.n (Int.toNat (m.frm - 1))],[]] ?_
   conv=>whnf
   refine J Zc3<|J KR<|g 41 42 []<|J UB<|W.blk<|g 44 45 []<|J UB<|W.cn<|J (noT dO) fun _=>g 1 2 []<|J UB<|W.cn<|J (fun _=>(g 6 90 []<|J UF (W.blk (W.lp (fun s (n:Nat)=>⟨[(0,s.s 0),(5,s.s 5),(90,s.s 90),(91,.i n)],[(5,[s.c 5 0,s.c 5 1,s.c 5 2,s.c 5 3,s.c 5 4,s.c 5 5,s.c 5 6,s.c 5 7]),(131,[.t (.i b.workers),.t (.b b.up),.t (.i b.now),.t (.i b.since),.t (.i b.epoch),.t (.i b.given),.own [false] (b.log.safe.map ak),.own [false] (b.log.loose.map ak),.own [false] (b.results.map ak),.own eT ((fR (nd m.lease (b.now+12)) b.jobs n).map aV),.own cM (b.seats.map aF),.own cP (b.owed.map aR)])],[]⟩) (fun(n:Nat)=>n≤b.jobs.length) (fun(n:Nat)=>b.jobs.length - n) (0) [some 5,some 131] [] ⟨rfl,Za6,⟨Zab,⟨Zaa,I⟩⟩,I⟩ OM ?_)))) (noF tO)
   intro n hn
   have hl:=iB (nd m.lease (b.now+12)) b.jobs n
   by_cases hj:n < b.jobs.length
   ·obtain⟨j,hj1⟩:=af hj
    by_cases hd:j.lease = m.lease
    ·have e:=JJ (u:=b.now+12) hj1 hd
     conv=>whnf
     refine g 0 0 []<|J UA<|W.sq<|W.cn<|J (fun _=>(W.skip (W.sq (W.blk (g 92 94 []<|J UB (gd 94 104 [[],[],[],[],[],[.n (n)],[],[.x (aV j)],[],[],[]] ?_)))))) (noF (by simp_all))
     conv=>whnf
     refine⟨⟨I,I,I,I,I,Zdf,I,bp AS,I,I,I,I⟩,by kernel_rfl,?_⟩
     refine W.cn<|J (fun _=>(rgd [[],[],[],[],[],[],[],[],[],[.i (b.now+12)],[.n (n)],[],[.x (aV j)]] ?_)) (noF tO)
     conv=>whnf
     refine⟨⟨I,I,I,I,I,I,I,I,I,wO,Zdf,I,⟨UA,bp AS⟩,I⟩,by kernel_rfl,?_⟩
     refine rg [.i ((n:Int) +1)]<|J Zdm ?_
     refine⟨n+1,[some 5,some 131],[],⟨rfl,Za6,⟨Zab,⟨⟨rfl,⟨rfl,⟨rfl,⟨rfl,⟨rfl,⟨rfl,⟨rfl,⟨rfl,⟨rfl,⟨rfl,⟨(congrArg (V.own _) (e)),Zac⟩⟩⟩⟩⟩⟩⟩⟩⟩⟩⟩,I⟩⟩,I⟩,?_,?_⟩
     rotate_left
     (dsimp only;omega)
     dsimp only
     omega
    ·have e:=Nx (u:=b.now+12) hj1 hd
     conv=>whnf
     refine g 0 0 []<|J UA<|W.sq<|W.cn<|J (fun _=>(W.skip (W.sq (W.blk (g 92 94 []<|J UB (gd 94 104 [[],[],[],[],[],[.n (n)],[],[.x (aV j)],[],[],[]] ?_)))))) (noF (by simp_all))
     conv=>whnf
     refine⟨⟨I,I,I,I,I,Zdf,I,bp AS,I,I,I,I⟩,by kernel_rfl,?_⟩
     refine W.cn<|J (noT dO) fun _=>W.skip<|rg [.i ((n:Int) +1)]<|J Zdm ?_
     refine⟨n+1,[some 5,some 131],[],⟨rfl,Za6,⟨Zab,⟨⟨rfl,⟨rfl,⟨rfl,⟨rfl,⟨rfl,⟨rfl,⟨rfl,⟨rfl,⟨rfl,⟨rfl,⟨(congrArg (V.own _) (by rw[←e])),Zac⟩⟩⟩⟩⟩⟩⟩⟩⟩⟩⟩,I⟩⟩,I⟩,?_,?_⟩
     rotate_left
     (dsimp only;omega)
     dsimp only
     omega
   ·have e:=iC (nd m.lease (b.now+12)) b.jobs (n:=n) OM
    conv=>whnf
    refine g 0 0 []<|J UA<|W.sq<|W.cn<|J (noT (by simp_all)) fun _=>W.exit<|EndsW.nm<|J I<|J ?_ ?_
    rfl
    rw[e]
    rfl
  ·by_cases ht:m.task < p.tasks.length
   ·rw[r7 hf hk ht]
    have cr:=pT b p m (RM hv h hf hk ht)
    refine co ?_
    conv=>whnf
    refine g 2 3 []<|J Zd9<|W.sq<|gd 9 32 [[],[],[],[],[],[],[BF],[BF,.call VT [[]]],[BF],[BF],[],[BF],[BF],[BF],[BF],[],[BF],[BF],[BF],[BF],[BF],[BF],[BF],[BF]] ?_
    conv=>whnf
    refine J Zal<|J KR<|W.cn<|J (noT dO) fun _=>W.skip<|gd 32 41 [[],[],[],[],[],[],[.i (m.frm - 1)],[.n (Int.toNat (m.frm - 1))],[]] ?_
    conv=>whnf
    refine J Zc3<|J KR<|g 41 42 []<|J UB<|W.blk<|g 44 45 []<|J UB<|W.cn<|J (noT dO) fun _=>g 1 2 []<|J UB<|W.cn<|J (noT dO) fun _=>g 42 86 []<|J UB<|W.cn<|J (fun _=>(g 118 125 []<|J UF (W.cn<|J (fun _=>(rg [.call (V.tup []) ([cellsOf (aL (eP b p.tasks m)),[],[],[]])]<|J ⟨I,I,I,I,⟨UD,I,⟨I,UA,UH,I,I⟩,UA,AS⟩,I⟩ ?_)) (noF SI)))) (noF tO)
    refine EndsW.nm<|J I (J ?_ rfl)
    rfl
   ·rw[r8 hf hk ht]
    refine co ?_
    conv=>whnf
    refine g 2 3 []<|J Zd9<|W.sq<|gd 9 32 [[],[],[],[],[],[],[BF],[BF,.call VT [[]]],[BF],[BF],[],[BF],[BF],[BF],[BF],[],[BF],[BF],[BF],[BF],[BF],[BF],[BF],[BF]] ?_
    conv=>whnf
    refine J Zal<|J KR<|W.cn<|J (noT dO) fun _=>W.skip<|gd 32 41 [[],[],[],[],[],[],[.i (m.frm - 1)],[.n (Int.toNat (m.frm - 1))],[]] ?_
    conv=>whnf
    refine J Zc3<|J KR<|g 41 42 []<|J UB<|W.blk<|g 44 45 []<|J UB<|W.cn<|J (noT dO) fun _=>g 1 2 []<|J UB<|W.cn<|J (noT dO) fun _=>g 42 86 []<|J UB<|W.cn<|J (fun _=>(g 118 125 []<|J UF (W.cn<|J (noT SI) fun _=>(W.skip ?_)))) (noF tO)
    refine EndsW.nm<|J I (J ?_ rfl)
    rfl
  ·rw[n7 hf hk]
   by_cases ho:rC b m
   ·rw[Jp ho]
    have ho2:=hold.1 ho
    refine co ?_
    conv=>whnf
    refine g 2 3 []<|J Zd9<|W.sq<|gd 9 32 [[],[],[],[],[],[],[BF],[BF,.call VT [[]]],[BF],[BF],[],[BF],[BF],[BF],[BF],[],[BF],[BF],[BF],[BF],[BF],[BF],[BF],[BF]] ?_
    conv=>whnf
    refine J Zal<|J KR<|W.cn<|J (noT dO) fun _=>W.skip<|gd 32 41 [[],[],[],[],[],[],[.i (m.frm - 1)],[.n (Int.toNat (m.frm - 1))],[]] ?_
    conv=>whnf
    refine J Zc3<|J KR<|g 41 42 []<|J UB<|W.blk<|g 44 45 []<|J UB<|W.cn<|J (fun _=>(gd 42 51 [[],[],[],[],[],[.x (aF x)],[]] ?_)) (noF tO)
    conv=>whnf
    refine⟨⟨I,I,I,I,I,xA,I,I⟩,by kernel_rfl,?_⟩
    refine W.cn<|J (noT dO) fun _=>W.skip<|EndsW.nm<|J I (J ?_ rfl)
    rfl
   ·rw[Jq ho]
    have ho2:¬m.epoch < x.epoch:=fun q=>ho (hold.2 q)
    have es:(b.seats.map aF).set (m.frm - 1).toNat (aF ⟨true,m.epoch⟩) = (b.seats.set (fV m) ⟨true,m.epoch⟩).map aF:=by rw[←List.map_set];rfl
    refine co ?_
    conv=>whnf
    refine g 2 3 []<|J Zd9<|W.sq<|gd 9 32 [[],[],[],[],[],[],[BF],[BF,.call VT [[]]],[BF],[BF],[],[BF],[BF],[BF],[BF],[],[BF],[BF],[BF],[BF],[BF],[BF],[BF],[BF]] ?_
    conv=>whnf
    refine J Zal<|J KR<|W.cn<|J (noT dO) fun _=>W.skip<|gd 32 41 [[],[],[],[],[],[],[.i (m.frm - 1)],[.n (Int.toNat (m.frm - 1))],[]] ?_
    conv=>whnf
    refine J Zc3<|J KR<|g 41 42 []<|J UB<|W.blk<|g 44 45 []<|J UB<|W.cn<|J (fun _=>(gd 42 51 [[],[],[],[],[],[.x (aF x)],[]] ?_)) (noF tO)
    conv=>whnf
    refine⟨⟨I,I,I,I,I,xA,I,I⟩,by kernel_rfl,?_⟩
    refine W.cn<|J (fun _=>(g 6 57 [.x (aF x)]<|J ⟨I,I,I,I,I,⟨UB,xA⟩,I⟩ (g 57 61 []<|J UF (W.blk (W.lp (fun s (n:Nat)=>⟨[(0,s.s 0),(5,s.s 5),(61,s.s 61),(62,.i n)],[(5,[s.c 5 0,s.c 5 1,s.c 5 2,s.c 5 3,s.c 5 4,s.c 5 5,s.c 5 6,s.c 5 7]),(131,[.t (.i b.workers),.t (.b b.up),.t (.i b.now),.t (.i b.since),.t (.i b.epoch),.t (.i b.given),.own [false] (b.log.safe.map ak),.own [false] (b.log.loose.map ak),.own [false] (b.results.map ak),.own eT ((fR (mC m.frm) b.jobs n).map aV),.own cM ((b.seats.set (fV m) ⟨true,m.epoch⟩).map aF),.own cP (b.owed.map aR)])],[]⟩) (fun(n:Nat)=>n≤b.jobs.length) (fun(n:Nat)=>b.jobs.length - n) (0) [some 5,some 131] [] ⟨rfl,Za6,⟨Zab,⟨⟨rfl,⟨rfl,⟨rfl,⟨rfl,⟨rfl,⟨rfl,⟨rfl,⟨rfl,⟨rfl,⟨rfl,⟨rfl,⟨(congrArg (V.own _) (es)),Zdc⟩⟩⟩⟩⟩⟩⟩⟩⟩⟩⟩⟩,I⟩⟩,I⟩ OM ?_))))) (noF tO)
    intro n hn
    have hl:=iB (mC m.frm) b.jobs n
    by_cases hj:n < b.jobs.length
    ·obtain⟨j,hj1⟩:=af hj
     by_cases hd:j.worker = m.frm
     ·have e:=Jt hj1 hd
      conv=>whnf
      refine g 0 0 []<|J UA<|W.sq<|W.cn<|J (fun _=>(W.skip (W.sq (W.blk (g 63 65 []<|J UB (gd 65 75 [[],[],[],[],[],[.n (n)],[],[.x (aV j)],[],[],[]] ?_)))))) (noF (by simp_all))
      conv=>whnf
      refine⟨⟨I,I,I,I,I,Zdf,I,bp AS,I,I,I,I⟩,by kernel_rfl,?_⟩
      refine W.cn<|J (fun _=>(rg [.n (n),.x (aV j)]<|J ⟨I,I,I,I,I,I,Zdf,⟨UC,bp AS⟩,I⟩ (rg [.i ((n:Int) +1)]<|J Zdm ?_))) (noF tO)
      refine⟨n+1,[some 5,some 131],[],⟨rfl,Za6,⟨Zab,⟨⟨rfl,⟨rfl,⟨rfl,⟨rfl,⟨rfl,⟨rfl,⟨rfl,⟨rfl,⟨rfl,⟨rfl,⟨(congrArg (V.own _) (e)),Zac⟩⟩⟩⟩⟩⟩⟩⟩⟩⟩⟩,I⟩⟩,I⟩,?_,?_⟩
      rotate_left
      (dsimp only;omega)
      dsimp only
      omega
     ·have e:=MA hj1 hd
      conv=>whnf
      refine g 0 0 []<|J UA<|W.sq<|W.cn<|J (fun _=>(W.skip (W.sq (W.blk (g 63 65 []<|J UB (gd 65 75 [[],[],[],[],[],[.n (n)],[],[.x (aV j)],[],[],[]] ?_)))))) (noF (by simp_all))
      conv=>whnf
      refine⟨⟨I,I,I,I,I,Zdf,I,bp AS,I,I,I,I⟩,by kernel_rfl,?_⟩
      refine W.cn<|J (noT dO) fun _=>W.skip<|rg [.i ((n:Int) +1)]<|J Zdm ?_
      refine⟨n+1,[some 5,some 131],[],⟨rfl,Za6,⟨Zab,⟨⟨rfl,⟨rfl,⟨rfl,⟨rfl,⟨rfl,⟨rfl,⟨rfl,⟨rfl,⟨rfl,⟨rfl,⟨(congrArg (V.own _) (by rw[←e])),Zac⟩⟩⟩⟩⟩⟩⟩⟩⟩⟩⟩,I⟩⟩,I⟩,?_,?_⟩
      rotate_left
      (dsimp only;omega)
      dsimp only
      omega
    ·have e:=iC (mC m.frm) b.jobs (n:=n) OM
     conv=>whnf
     refine g 0 0 []<|J UA<|W.sq<|W.cn<|J (noT (by simp_all)) fun _=>W.exit<|EndsW.nm<|J I<|J ?_ ?_
     rfl
     rw[e]
     rfl
 ·rw[GJ hf]
  by_cases g1:b.up = true
  ·by_cases g2:bO m
   ·rw[decide_eq_true g2]at cm
    by_cases g3:m.to = 0
    ·have g4:¬m.frm≤b.workers:=fun q=>hf ⟨g1,g2,g3,q⟩
     refine co ?_
     conv=>whnf
     refine g 2 3 []<|J Zd9<|W.sq<|gd 9 32 [[],[],[],[],[],[],[BF],[BF,.call VT [[]]],[BF],[BF],[],[BF],[BF],[BF],[BF],[],[BF],[BF],[BF],[BF],[BF],[BF],[BF],[BF]] ?_
     conv=>whnf
     refine J Zal<|J KR<|W.cn<|J (fun _=>(RT ?_)) (noF tO)
     rfl
    ·refine co ?_
     conv=>whnf
     refine g 2 3 []<|J Zd9<|W.sq<|gd 9 32 [[],[],[],[],[],[],[BF],[BF,.call VT [[]]],[BF],[BF],[],[BF],[BF],[BF],[BF],[],[BT],[BT],[BT],[BT],[BT],[BT],[BT],[BT]] ?_
     conv=>whnf
     refine J ⟨I,I,I,I,I,I,Zd0,Zan,Zd0,nbF AS,I,Zdc,Zdc,Zdc,rfl,I,ag OM,ag OM,ag OM,ag OM,ag OM,ag OM,ag OM,ag OM,I⟩<|J KR<|W.cn<|J (fun _=>(RT ?_)) (noF rfl)
     rfl
   ·rw[decide_eq_false g2]at cm
    refine co ?_
    conv=>whnf
    refine g 2 3 []<|J Zd9<|W.sq<|gd 9 32 [[],[],[],[],[],[],[BF],[BF,.call VF [[]]],[BF],[BF],[],[BT],[BT],[BT],[BT],[],[BT],[BT],[BT],[BT],[BT],[BT],[BT],[BT]] ?_
    conv=>whnf
    refine J ⟨I,I,I,I,I,I,Zd0,Zan,Zd0,nbF AS,I,rfl,rfl,rfl,rfl,I,rfl,rfl,rfl,rfl,rfl,rfl,rfl,rfl,I⟩<|J KR<|W.cn<|J (fun _=>(RT ?_)) (noF rfl)
    rfl
  ·refine co ?_
   conv=>whnf
   refine g 2 3 []<|J Zd9<|W.sq<|gd 9 32 [[],[],[],[],[],[],[BT],[BT],[BT],[BT],[],[BT],[BT],[BT],[BT],[],[BT],[BT],[BT],[BT],[BT],[BT],[BT],[BT]] ?_
   conv=>whnf
   refine J ⟨I,I,I,I,I,I,SI,SI,SI,SI,I,rfl,rfl,rfl,rfl,I,rfl,rfl,rfl,rfl,rfl,rfl,rfl,rfl,I⟩<|J KR<|W.cn<|J (fun _=>(RT ?_)) (noF rfl)
   rfl
end Go.K
end
section
open Go Go.Tm Go.Proofs
namespace Go.K
theorem mc(b:Boss)(m:Message){x:Seat}(hx:b.seats[fV m]? = some x)(f1:1≤m.frm∧m.frm≤8)(ho:rC b m):F oK [.val (aL b),.val (en m)] (.tup [aL b,.b false]) [[],[]]:=by
 have hx':b.seats[(m.frm - 1).toNat]? = some x:=hx
 have ho2:=(GQ hx).1 ho
 have hl:=(List.getElem?_eq_some_iff.1 hx').1
 refine oW ?_
 conv=>whnf
 refine g 0 0 []<|J ⟨UL,UH,I,I,I⟩<|W.sq<|gd 6 16 [[],[],[],[],[],[],[.i (m.frm - 1)],[.n (Int.toNat (m.frm - 1))],[],[.x (aF x)],[]] ?_
 conv=>whnf
 refine J ⟨I,I,I,I,I,I,wO,Zdo,I,xA,I,I⟩<|J KR<|W.cn<|J (fun _=>(g 16 18 []<|J ⟨I,UL,I,I⟩ (RT ?_))) (noF tO)
 rfl
theorem me(b:Boss)(m:Message){x:Seat}(hx:b.seats[fV m]? = some x)(f1:1≤m.frm∧m.frm≤8)(ho:¬rC b m):F oK [.val (aL b),.val (en m)] (.tup [aL (mD b m),.b true]) [[],[]]:=by
 have hx':b.seats[(m.frm - 1).toNat]? = some x:=hx
 have ho2:¬m.epoch < x.epoch:=fun q=>ho ((GQ hx).2 q)
 have hl:=(List.getElem?_eq_some_iff.1 hx').1
 rw[lU ho]
 refine oW ?_
 conv=>whnf
 refine g 0 0 []<|J ⟨UL,UH,I,I,I⟩<|W.sq<|gd 6 16 [[],[],[],[],[],[],[.i (m.frm - 1)],[.n (Int.toNat (m.frm - 1))],[],[.x (aF x)],[]] ?_
 conv=>whnf
 refine J ⟨I,I,I,I,I,I,wO,Zdo,I,xA,I,I⟩<|J KR<|W.cn<|J (noT dO) fun _=>W.skip<|g 16 27 [.i (m.frm - 1),.n (Int.toNat (m.frm - 1)),.x (aF x)]<|J ⟨I,I,I,I,wO,I,I,I,Zdo,⟨UB,xA⟩,I⟩<|g 0 4 []<|J ⟨I,UL,I,I⟩<|RT ?_
 all_goals (simp only[aL,List.map_set];rfl)
theorem zi(b:Boss)(p:Plan)(m:Message)(hl:p.tasks.length≤1048576)(ht:¬m.task < p.tasks.length):F mr [.val (aL b),.val (cO p),.val (en m)] (aL b) [[],[],[]]:=by
 refine bW ?_
 conv=>whnf
 refine g 0 0 []<|J Zcg<|W.sq<|g 10 13 []<|J UF<|W.cn<|J (fun _=>(g 13 15 []<|J Zds (RT ?_))) (noF (by simp_all))
 rfl
theorem wX(b:Boss)(p:Plan)(m:Message)(h:ResIn b p.tasks m)(f8:m.frm≤8):F mr [.val (aL b),.val (cO p),.val (en m)] (aL (eP b p.tasks m)) [[],[],[]]:=by
 obtain⟨hck,u3,u4,⟨t1,t2⟩,l1,l2,l3,l4,⟨f1,f2⟩,tx⟩:=h
 have hpl:=(bT hck).1
 have hsi:fV m < b.seats.length:=by unfold fV;omega
 have hkr:m.task.toNat < b.results.length:=by omega
 have hte:¬m.text = emp:=fun q=>by rw[q]at tx;cases tx
 obtain⟨x,hx⟩:=af hsi
 obtain⟨t,ht0⟩:=af (xs:=p.tasks) (n:=m.task.toNat) OM
 obtain⟨y,hy0⟩:=af (xs:=b.results) (n:=m.task.toNat) OM
 obtain⟨j,hj0⟩:=af (xs:=b.jobs) (n:=m.task.toNat) OM
 have hya:=jN hy0
 obtain⟨_,_,a3,a4⟩:=bZ hck ht0
 have crd:=g9 p b.results m.task t1 ht0 (fun e he=>by have:=a4 e he;omega) OM
 have cf:=gO 2 b.epoch m.task m.text OM
 by_cases hA:y = emp
 ·by_cases hP:CanPut b p.tasks m
  ·have hF:cU b.results t.deps:=by have:=hP.ready;rw[dP ht0]at this;exact this
   have hR:=hP.room
   rw[decide_eq_true hF]at crd
   rw[L8 hP hkr hte]
   by_cases hO:b.owed.length < 2000
   ·refine bW ?_
    conv=>whnf
    refine g 0 0 []<|J Zcg<|W.sq<|g 10 13 []<|J UF<|W.cn<|J (noT SI) fun _=>W.skip<|W.sq<|g 13 41 [.n (Int.toNat m.task),.x (ak y),BT,BT,BT,BT,BT,BT,.call VT [[],[],[]],BT,BT,BT,BT,BT,BT,BT,BT,BT,BT,.i ((↑(List.length (List.map ak b.log.safe)):Int) + (↑(List.length (List.map ak b.log.loose)):Int)),BT,BT]<|J ⟨I,I,I,I,Zdo,xA,I,I,⟨tO,I⟩,⟨tO,I⟩,⟨tO,I⟩,⟨tO,I⟩,⟨tO,I⟩,⟨tO,UC,I,UU,UA,AS⟩,tO,I,Zdc,Zdc,Zdc,Zdc,Zdc,Zdc,Zdc,Zdc,⟨rfl,w64 LN LN⟩,Zdc,rfl,I⟩<|W.cn<|J (fun h1=>?_) fun h1=>?_
    replace h1:=dt h1
    simp only[LM]at h1
    refine g 44 49 [.n (Int.toNat m.task),.x (ak y)]<|J ⟨I,I,I,I,I,I,Zdo,Zeh,I⟩<|gd 49 64 [[],[],[],[],[],[],[],[],[],[],[.call (V.s (dc {kind:=2,epoch:=b.epoch,task:=m.task,text:=m.text:Entry})) [[]]],[],[],[],[],[]] ?_
    conv=>whnf
    refine J ⟨I,I,I,I,I,I,I,I,I,I,Zc9,US,Zdi,I,I,UA,I⟩<|J KR<|rg [.n (Int.toNat m.task),.x (aV j)]<|J ⟨I,I,I,I,I,Zdo,⟨UC,xA⟩,I⟩<|W.sq<|g 64 76 [.n (Int.toNat m.task),.x (aK (ak y) 0 [T.v (Value.string m.text)])]<|J ⟨I,I,I,I,Zdo,bR LN,I,I⟩<|W.cn<|J (noT dO) fun _=>W.skip<|W.sq<|gd 76 97 [[],[],[],[],[.n (Int.toNat m.task)],[.x (aK (ak y) 0 [T.v (Value.string m.text)])],[],[],[],[],[BF],[BF],[BF],[BF],[BF]] ?_
    conv=>whnf
    refine J ⟨I,I,I,I,Zdo,bR LN,I,I,I,I,⟨eh rfl,I⟩,⟨eh rfl,I⟩,⟨eh rfl,I⟩,⟨eh rfl,I⟩,eh rfl,I⟩<|J KR<|W.cn<|J (fun h2=>?_) fun h2=>?_
    replace h2:=dt h2
    simp only[LM]at h2
    omega
    replace h2:=df h2
    simp only[LM]at h2
    refine W.skip<|W.sq<|g 41 43 []<|J UA<|W.blk ?_
    rotate_left
    replace h1:=df h1
    simp only[LM]at h1
    omega
    refine W.lp (fun s (n:Nat)=>⟨[(0,s.s 0),(1,s.s 1),(2,s.s 2),(3,s.s 3),(5,s.s 5),(6,s.s 6),(7,.i n),(9,s.s 9),(43,s.s 43)],[(140,[s.c 140 0,s.c 140 1,s.c 140 2,s.c 140 3,s.c 140 4,s.c 140 5,s.c 140 6,s.c 140 7,s.c 140 8,s.c 140 9,s.c 140 10,s.c 140 11]),(3,[s.c 3 0,s.c 3 1,s.c 3 2,s.c 3 3,s.c 3 4,s.c 3 5,s.c 3 6,s.c 3 7,s.c 3 8,s.c 3 9,s.c 3 10,s.c 3 11]),(5,[s.c 5 0,s.c 5 1,s.c 5 2,s.c 5 3,s.c 5 4,s.c 5 5,s.c 5 6,s.c 5 7]),(6,[s.c 6 0,s.c 6 1,s.c 6 2,s.c 6 3,s.c 6 4,s.c 6 5,s.c 6 6,s.c 6 7,s.c 6 8,s.c 6 9,s.c 6 10,s.c 6 11])],[]⟩) (fun(n:Nat)=>n≤b.owed.length∧∀ o∈b.owed.take n,¬(o.worker = m.frm∧o.lease = m.lease)) (fun(n:Nat)=>b.owed.length - n) (0) [some 140,some 3,some 5,some 6] [] Zdw (by simp) ?_
    rintro n ⟨hn,hc⟩
    by_cases hn2:n < b.owed.length
    ·obtain⟨o,ho⟩:=af hn2
     by_cases hw:o.worker = m.frm
     ·by_cases hl:o.lease = m.lease
      ·rw[gK (b:=mo b m) (fun q=>sm ho ⟨hw,hl⟩ q.new)]
       conv=>whnf
       refine W.sq<|g 99 103 []<|J UE<|W.cn<|J (fun _=>(W.skip (W.sq (W.blk (gd 103 125 [[],[],[],[.n (n)],[],[.x (aR o)],[],[],[],[],[BT],[BT],[BT],[BT,.n (n)],[BT],[BT,.x (aR o)],[BT],[BT],[BT],[BT]] ?_))))) (noF SI)
       conv=>whnf
       refine⟨Za9,by kernel_rfl,?_⟩
       refine W.cn<|J (fun _=>(g 125 127 []<|J Zds (RT ?_))) (noF tO)
       all_goals (simp only[mo,aL,cellsOf,List.map_set,List.map_append,List.map_cons,List.map_nil];rfl)
      ·conv=>whnf
       refine W.sq<|g 99 103 []<|J UE<|W.cn<|J (fun _=>(W.skip (W.sq (W.blk (gd 103 125 [[],[],[],[.n (n)],[],[.x (aR o)],[],[],[],[],[BT],[BT],[BT],[BT,.n (n)],[BT],[BT,.x (aR o)],[BT],[BT],[BT],[BT]] ?_))))) (noF SI)
       conv=>whnf
       refine⟨Za9,by kernel_rfl,?_⟩
       refine W.cn<|J (noT dO) fun _=>W.skip<|rg [.i ((n:Int) +1)]<|J Zdd ?_
       refine⟨n+1,[some 140,some 3,some 5,some 6],[],Zdw,?_,?_⟩
       rotate_left
       (dsimp only;omega)
       dsimp only
       exact⟨by omega,dN hc ho fun q=>hl q.2⟩
     ·conv=>whnf
      refine W.sq<|g 99 103 []<|J UE<|W.cn<|J (fun _=>(W.skip (W.sq (W.blk (gd 103 125 [[],[],[],[.n (n)],[],[.x (aR o)],[],[],[],[],[BF],[BF],[BF],[BF],[BF],[BF],[BF],[BF],[BF],[BF]] ?_))))) (noF SI)
      conv=>whnf
      refine⟨⟨I,I,I,Zdf,I,xA,I,I,I,I,dO,dO,dO,dO,dO,dO,dO,dO,dO,dO,I⟩,by kernel_rfl,?_⟩
      refine W.cn<|J (noT rfl) fun _=>W.skip<|rg [.i ((n:Int) +1)]<|J Zdd ?_
      refine⟨n+1,[some 140,some 3,some 5,some 6],[],Zdw,?_,?_⟩
      rotate_left
      (dsimp only;omega)
      dsimp only
      exact⟨by omega,dN hc ho fun q=>hw q.1⟩
    ·rw[aE OM]at hc
     rw[se (I2 (ts:=p.tasks) hkr hO hc)]
     conv=>whnf
     refine W.sq<|g 99 103 []<|J UE<|W.cn<|J (noT SI) fun _=>W.exit<|g 103 139 []<|J ⟨I,I,I,I,I,I,I,I,I,⟨UC,I⟩,Zdi,I,UA,I⟩<|g 0 6 []<|J Zds<|RT ?_
     all_goals (simp only[mo,aL,cellsOf,List.map_set,List.map_append,List.map_cons,List.map_nil];rfl)
   ·rw[gK (b:=mo b m) (fun q=>hO q.room)]
    refine bW ?_
    conv=>whnf
    refine g 0 0 []<|J Zcg<|W.sq<|g 10 13 []<|J UF<|W.cn<|J (noT SI) fun _=>W.skip<|W.sq<|g 13 41 [.n (Int.toNat m.task),.x (ak y),BT,BT,BT,BT,BT,BT,.call VT [[],[],[]],BT,BT,BT,BT,BT,BT,BT,BT,BT,BT,.i ((↑(List.length (List.map ak b.log.safe)):Int) + (↑(List.length (List.map ak b.log.loose)):Int)),BT,BT]<|J ⟨I,I,I,I,Zdo,xA,I,I,⟨tO,I⟩,⟨tO,I⟩,⟨tO,I⟩,⟨tO,I⟩,⟨tO,I⟩,⟨tO,UC,I,UU,UA,AS⟩,tO,I,Zdc,Zdc,Zdc,Zdc,Zdc,Zdc,Zdc,Zdc,⟨rfl,w64 LN LN⟩,Zdc,rfl,I⟩<|W.cn<|J (fun h1=>?_) fun h1=>?_
    replace h1:=dt h1
    simp only[LM]at h1
    refine g 44 49 [.n (Int.toNat m.task),.x (ak y)]<|J ⟨I,I,I,I,I,I,Zdo,Zeh,I⟩<|gd 49 64 [[],[],[],[],[],[],[],[],[],[],[.call (V.s (dc {kind:=2,epoch:=b.epoch,task:=m.task,text:=m.text:Entry})) [[]]],[],[],[],[],[]] ?_
    conv=>whnf
    refine J ⟨I,I,I,I,I,I,I,I,I,I,Zc9,US,Zdi,I,I,UA,I⟩<|J KR<|rg [.n (Int.toNat m.task),.x (aV j)]<|J ⟨I,I,I,I,I,Zdo,⟨UC,xA⟩,I⟩<|W.sq<|g 64 76 [.n (Int.toNat m.task),.x (aK (ak y) 0 [T.v (Value.string m.text)])]<|J ⟨I,I,I,I,Zdo,bR LN,I,I⟩<|W.cn<|J (noT dO) fun _=>W.skip<|W.sq<|gd 76 97 [[],[],[],[],[.n (Int.toNat m.task)],[.x (aK (ak y) 0 [T.v (Value.string m.text)])],[],[],[],[],[BF],[BF],[BF],[BF],[BF]] ?_
    conv=>whnf
    refine J ⟨I,I,I,I,Zdo,bR LN,I,I,I,I,⟨eh rfl,I⟩,⟨eh rfl,I⟩,⟨eh rfl,I⟩,⟨eh rfl,I⟩,eh rfl,I⟩<|J KR<|W.cn<|J (fun h2=>?_) fun h2=>?_
    replace h2:=dt h2
    simp only[LM]at h2
    refine g 41 43 []<|J Zds<|RT ?_
    rotate_left
    replace h2:=df h2
    simp only[LM]at h2
    omega
    replace h1:=df h1
    simp only[LM]at h1
    omega
    all_goals (simp only[mo,aL,cellsOf,List.map_set,List.map_append,List.map_cons,List.map_nil];rfl)
  ·rw[L9 hP (by rw[hya];exact hA) hte]
   have hO:True:=trivial
   by_cases hF:cU b.results t.deps
   ·rw[decide_eq_true hF]at crd
    have hR:¬b.log.safe.length+b.log.loose.length < 310:=fun q=>hP ⟨by rw[hya];exact hA,by rw[dP ht0];exact hF,q⟩
    by_cases ho:rC b m
    ·have cfr:=mc b m hx ⟨f1,f8⟩ ho
     rw[sw ho]
     refine bW ?_
     conv=>whnf
     refine g 0 0 []<|J Zcg<|W.sq<|g 10 13 []<|J UF<|W.cn<|J (noT SI) fun _=>W.skip<|W.sq<|g 13 41 [.n (Int.toNat m.task),.x (ak y),BT,BT,BT,BT,BT,BT,.call VT [[],[],[]],BT,BT,BT,BT,BT,BT,BT,BT,BT,BT,.i ((↑(List.length (List.map ak b.log.safe)):Int) + (↑(List.length (List.map ak b.log.loose)):Int)),BT,BT]<|J ⟨I,I,I,I,Zdo,xA,I,I,⟨tO,I⟩,⟨tO,I⟩,⟨tO,I⟩,⟨tO,I⟩,⟨tO,I⟩,⟨tO,UC,I,UU,UA,AS⟩,tO,I,Zdc,Zdc,Zdc,Zdc,Zdc,Zdc,Zdc,Zdc,⟨rfl,w64 LN LN⟩,Zdc,rfl,I⟩<|W.cn<|J (fun h1=>?_) fun h1=>?_
     replace h1:=dt h1
     simp only[LM]at h1
     omega
     replace h1:=df h1
     simp only[LM]at h1
     refine W.skip<|W.sq<|g 41 76 [.n (Int.toNat m.task),.x (ak y)]<|J Zcy<|W.cn<|J (fun _=>(rg [.call (V.tup [aL b,V.b false]) [[],[]]]<|J Zcu (W.sq ?_))) (noF tO)
     by_cases h2:y = Message.text m
     refine gd 76 97 [[],[],[],[],[.n (Int.toNat m.task)],[.x (ak y)],[],[],[],[],[BF],[BF],[BF],[BF],[BF]] ?_
     conv=>whnf
     refine J Zbm<|J KR<|W.cn<|J (fun _=>(g 97 99 []<|J Zds (RT ?_))) (noF (by simp_all))
     rfl
     refine gd 76 97 [[],[],[],[],[.n (Int.toNat m.task)],[.x (ak y)],[],[],[],[],[BT],[BT],[BT],[BT],[BT]] ?_
     conv=>whnf
     refine J Zb0<|J KR<|W.cn<|J (fun _=>(g 97 99 []<|J Zds (RT ?_))) (noF rfl)
     rfl
    ·have cfr:=me b m hx ⟨f1,f8⟩ ho
     rw[lU ho]at cfr ⊢
     refine bW ?_
     conv=>whnf
     refine g 0 0 []<|J Zcg<|W.sq<|g 10 13 []<|J UF<|W.cn<|J (noT SI) fun _=>W.skip<|W.sq<|g 13 41 [.n (Int.toNat m.task),.x (ak y),BT,BT,BT,BT,BT,BT,.call VT [[],[],[]],BT,BT,BT,BT,BT,BT,BT,BT,BT,BT,.i ((↑(List.length (List.map ak b.log.safe)):Int) + (↑(List.length (List.map ak b.log.loose)):Int)),BT,BT]<|J ⟨I,I,I,I,Zdo,xA,I,I,⟨tO,I⟩,⟨tO,I⟩,⟨tO,I⟩,⟨tO,I⟩,⟨tO,I⟩,⟨tO,UC,I,UU,UA,AS⟩,tO,I,Zdc,Zdc,Zdc,Zdc,Zdc,Zdc,Zdc,Zdc,⟨rfl,w64 LN LN⟩,Zdc,rfl,I⟩<|W.cn<|J (fun h1=>?_) fun h1=>?_
     replace h1:=dt h1
     simp only[LM]at h1
     omega
     replace h1:=df h1
     simp only[LM]at h1
     refine W.skip<|W.sq<|g 41 76 [.n (Int.toNat m.task),.x (ak y)]<|J Zcy<|W.cn<|J (fun _=>(rg [.call (V.tup [aL {workers:=b.workers,up:=b.up,now:=b.now,since:=b.since,epoch:=b.epoch,given:=b.given,log:=b.log,results:=b.results,jobs:=b.jobs,seats:=List.set b.seats (fV m) {free:=true,epoch:=m.epoch:Seat},owed:=b.owed:Boss},V.b true]) [[],[]]]<|J Zcu (W.sq ?_))) (noF tO)
     by_cases h2:y = Message.text m
     refine gd 76 97 [[],[],[],[],[.n (Int.toNat m.task)],[.x (ak y)],[],[],[],[],[BF],[BF],[BF],[BF],[BF]] ?_
     conv=>whnf
     refine J Zbm<|J KR<|W.cn<|J (fun _=>(g 97 99 []<|J Zds (RT ?_))) (noF (by simp_all))
     rfl
     refine gd 76 97 [[],[],[],[],[.n (Int.toNat m.task)],[.x (ak y)],[],[],[],[],[BT],[BT],[BT],[BT],[BT]] ?_
     conv=>whnf
     refine J Zb0<|J KR<|W.cn<|J (fun _=>(g 97 99 []<|J Zds (RT ?_))) (noF rfl)
     rfl
   ·rw[decide_eq_false hF]at crd
    by_cases ho:rC b m
    ·have cfr:=mc b m hx ⟨f1,f8⟩ ho
     rw[sw ho]
     refine bW ?_
     conv=>whnf
     refine g 0 0 []<|J Zcg<|W.sq<|g 10 13 []<|J UF<|W.cn<|J (noT SI) fun _=>W.skip<|W.sq<|g 13 41 [.n (Int.toNat m.task),.x (ak y),BT,BT,BT,BT,BT,BT,.call VF [[],[],[]],BT,BF,BF,BF,BF,BF,BF,BF,BF,BF,BF,BF]<|J Zb6<|W.cn<|J (noT rfl) fun _=>W.skip<|W.sq<|g 41 76 [.n (Int.toNat m.task),.x (ak y)]<|J Zcy<|W.cn<|J (fun _=>?_) (noF tO)
     refine rg [.call (V.tup [aL b,V.b false]) [[],[]]]<|J Zcu<|W.sq ?_
     by_cases h1:y = Message.text m
     refine gd 76 97 [[],[],[],[],[.n (Int.toNat m.task)],[.x (ak y)],[],[],[],[],[BF],[BF],[BF],[BF],[BF]] ?_
     conv=>whnf
     refine J Zbm<|J KR<|W.cn<|J (fun _=>(g 97 99 []<|J Zds (RT ?_))) (noF (by simp_all))
     rfl
     refine gd 76 97 [[],[],[],[],[.n (Int.toNat m.task)],[.x (ak y)],[],[],[],[],[BT],[BT],[BT],[BT],[BT]] ?_
     conv=>whnf
     refine J Zb0<|J KR<|W.cn<|J (fun _=>(g 97 99 []<|J Zds (RT ?_))) (noF rfl)
     rfl
    ·have cfr:=me b m hx ⟨f1,f8⟩ ho
     rw[lU ho]at cfr ⊢
     refine bW ?_
     conv=>whnf
     refine g 0 0 []<|J Zcg<|W.sq<|g 10 13 []<|J UF<|W.cn<|J (noT SI) fun _=>W.skip<|W.sq<|g 13 41 [.n (Int.toNat m.task),.x (ak y),BT,BT,BT,BT,BT,BT,.call VF [[],[],[]],BT,BF,BF,BF,BF,BF,BF,BF,BF,BF,BF,BF]<|J Zb6<|W.cn<|J (noT rfl) fun _=>W.skip<|W.sq<|g 41 76 [.n (Int.toNat m.task),.x (ak y)]<|J Zcy<|W.cn<|J (fun _=>?_) (noF tO)
     refine rg [.call (V.tup [aL {workers:=b.workers,up:=b.up,now:=b.now,since:=b.since,epoch:=b.epoch,given:=b.given,log:=b.log,results:=b.results,jobs:=b.jobs,seats:=List.set b.seats (fV m) {free:=true,epoch:=m.epoch:Seat},owed:=b.owed:Boss},V.b true]) [[],[]]]<|J Zcu<|W.sq ?_
     by_cases h1:y = Message.text m
     refine gd 76 97 [[],[],[],[],[.n (Int.toNat m.task)],[.x (ak y)],[],[],[],[],[BF],[BF],[BF],[BF],[BF]] ?_
     conv=>whnf
     refine J Zbm<|J KR<|W.cn<|J (fun _=>(g 97 99 []<|J Zds (RT ?_))) (noF (by simp_all))
     rfl
     refine gd 76 97 [[],[],[],[],[.n (Int.toNat m.task)],[.x (ak y)],[],[],[],[],[BT],[BT],[BT],[BT],[BT]] ?_
     conv=>whnf
     refine J Zb0<|J KR<|W.cn<|J (fun _=>(g 97 99 []<|J Zds (RT ?_))) (noF rfl)
     rfl
 ·rw[IV (by rw[hya];exact hA)]
  by_cases hs:y = m.text
  ·by_cases hO:b.owed.length < 2000
   ·refine bW ?_
    conv=>whnf
    refine g 0 0 []<|J Zcg<|W.sq<|g 10 13 []<|J UF<|W.cn<|J (noT SI) fun _=>W.skip<|W.sq<|g 13 41 [.n (Int.toNat m.task),.x (ak y),BF,BF,BF,BF,BF,BF,BF,BF,BF,BF,BF,BF,BF,BF,BF,BF,BF,BF]<|J Zck<|W.cn<|J (noT rfl) fun _=>W.skip<|W.sq<|g 41 76 [.n (Int.toNat m.task),.x (ak y)]<|J Zcy<|W.cn<|J (noT dO) fun _=>?_
    refine W.skip<|W.sq<|gd 76 97 [[],[],[],[],[.n (Int.toNat m.task)],[.x (ak y)],[],[],[],[],[BF],[BF],[BF],[BF],[BF]] ?_
    conv=>whnf
    refine J Zbm<|J KR<|W.cn<|J (fun h1=>?_) fun h1=>?_
    replace h1:=dt h1
    simp only[LM]at h1
    omega
    replace h1:=df h1
    simp only[LM]at h1
    refine W.skip<|W.sq<|g 4 5 []<|J UA<|W.blk<|W.lp (fun s (n:Nat)=>⟨[(0,s.s 0),(1,s.s 1),(2,s.s 2),(3,s.s 3),(5,s.s 5),(6,s.s 6),(7,.i n),(9,s.s 9)],[(140,[s.c 140 0,s.c 140 1,s.c 140 2,s.c 140 3,s.c 140 4,s.c 140 5,s.c 140 6,s.c 140 7,s.c 140 8,s.c 140 9,s.c 140 10,s.c 140 11]),(3,[s.c 3 0,s.c 3 1,s.c 3 2,s.c 3 3,s.c 3 4,s.c 3 5,s.c 3 6,s.c 3 7,s.c 3 8,s.c 3 9,s.c 3 10,s.c 3 11]),(5,[s.c 5 0,s.c 5 1,s.c 5 2,s.c 5 3,s.c 5 4,s.c 5 5,s.c 5 6,s.c 5 7]),(6,[s.c 6 0,s.c 6 1,s.c 6 2,s.c 6 3,s.c 6 4,s.c 6 5,s.c 6 6,s.c 6 7,s.c 6 8,s.c 6 9,s.c 6 10,s.c 6 11])],[]⟩) (fun(n:Nat)=>n≤b.owed.length∧∀ o∈b.owed.take n,¬(o.worker = m.frm∧o.lease = m.lease)) (fun(n:Nat)=>b.owed.length - n) (0) [some 140,some 3,some 5,some 6] [] Zdx (by simp) ?_
    rintro n ⟨hn,hc⟩
    by_cases hn2:n < b.owed.length
    ·obtain⟨o,ho⟩:=af hn2
     by_cases hw:o.worker = m.frm
     ·by_cases hl:o.lease = m.lease
      ·rw[gK (fun q=>sm ho ⟨hw,hl⟩ q.new)]
       conv=>whnf
       refine W.sq<|g 99 103 []<|J UE<|W.cn<|J (fun _=>(W.skip (W.sq (W.blk (gd 103 125 [[],[],[],[.n (n)],[],[.x (aR o)],[],[],[],[],[BT],[BT],[BT],[BT,.n (n)],[BT],[BT,.x (aR o)],[BT],[BT],[BT],[BT]] ?_))))) (noF SI)
       conv=>whnf
       refine⟨Za9,by kernel_rfl,?_⟩
       refine W.cn<|J (fun _=>(g 125 127 []<|J Zds (RT ?_))) (noF tO)
       rfl
       all_goals (simp only[mo,aL,cellsOf,List.map_set,List.map_append,List.map_cons,List.map_nil];rfl)
      ·conv=>whnf
       refine W.sq<|g 99 103 []<|J UE<|W.cn<|J (fun _=>(W.skip (W.sq (W.blk (gd 103 125 [[],[],[],[.n (n)],[],[.x (aR o)],[],[],[],[],[BT],[BT],[BT],[BT,.n (n)],[BT],[BT,.x (aR o)],[BT],[BT],[BT],[BT]] ?_))))) (noF SI)
       conv=>whnf
       refine⟨Za9,by kernel_rfl,?_⟩
       refine W.cn<|J (noT dO) fun _=>W.skip<|rg [.i ((n:Int) +1)]<|J Zdd ?_
       refine⟨n+1,[some 140,some 3,some 5,some 6],[],Zdx,?_,?_⟩
       rotate_left
       (dsimp only;omega)
       dsimp only
       exact⟨by omega,dN hc ho fun q=>hl q.2⟩
     ·conv=>whnf
      refine W.sq<|g 99 103 []<|J UE<|W.cn<|J (fun _=>(W.skip (W.sq (W.blk (gd 103 125 [[],[],[],[.n (n)],[],[.x (aR o)],[],[],[],[],[BF],[BF],[BF],[BF],[BF],[BF],[BF],[BF],[BF],[BF]] ?_))))) (noF SI)
      conv=>whnf
      refine⟨⟨I,I,I,Zdf,I,xA,I,I,I,I,dO,dO,dO,dO,dO,dO,dO,dO,dO,dO,I⟩,by kernel_rfl,?_⟩
      refine W.cn<|J (noT rfl) fun _=>W.skip<|rg [.i ((n:Int) +1)]<|J Zdd ?_
      refine⟨n+1,[some 140,some 3,some 5,some 6],[],Zdx,?_,?_⟩
      rotate_left
      (dsimp only;omega)
      dsimp only
      exact⟨by omega,dN hc ho fun q=>hw q.1⟩
    ·rw[aE OM]at hc
     rw[se ⟨by rw[hya];exact hs,hO,hc⟩]
     conv=>whnf
     refine W.sq<|g 99 103 []<|J UE<|W.cn<|J (noT SI) fun _=>W.exit<|g 7 139 []<|J ⟨I,I,I,I,I,I,I,I,I,⟨UC,I⟩,Zdi,I,UA,I⟩<|g 0 6 []<|J Zds<|RT ?_
     all_goals (simp only[mo,aL,cellsOf,List.map_set,List.map_append,List.map_cons,List.map_nil];rfl)
   ·rw[gK (fun q=>hO q.room)]
    refine bW ?_
    conv=>whnf
    refine g 0 0 []<|J Zcg<|W.sq<|g 10 13 []<|J UF<|W.cn<|J (noT SI) fun _=>W.skip<|W.sq<|g 13 41 [.n (Int.toNat m.task),.x (ak y),BF,BF,BF,BF,BF,BF,BF,BF,BF,BF,BF,BF,BF,BF,BF,BF,BF,BF]<|J Zck<|W.cn<|J (noT rfl) fun _=>W.skip<|W.sq<|g 41 76 [.n (Int.toNat m.task),.x (ak y)]<|J Zcy<|W.cn<|J (noT dO) fun _=>?_
    refine W.skip<|W.sq<|gd 76 97 [[],[],[],[],[.n (Int.toNat m.task)],[.x (ak y)],[],[],[],[],[BF],[BF],[BF],[BF],[BF]] ?_
    conv=>whnf
    refine J Zbm<|J KR<|W.cn<|J (fun h1=>?_) fun h1=>?_
    replace h1:=dt h1
    simp only[LM]at h1
    refine g 97 99 []<|J Zds<|RT ?_
    rfl
    replace h1:=df h1
    simp only[LM]at h1
    omega
  ·rw[gK (fun q=>hs (by rw[←q.same,hya]))]
   refine bW ?_
   conv=>whnf
   refine g 0 0 []<|J Zcg<|W.sq<|g 10 13 []<|J UF<|W.cn<|J (noT SI) fun _=>W.skip<|W.sq<|g 13 41 [.n (Int.toNat m.task),.x (ak y),BF,BF,BF,BF,BF,BF,BF,BF,BF,BF,BF,BF,BF,BF,BF,BF,BF,BF]<|J Zck<|W.cn<|J (noT rfl) fun _=>W.skip<|W.sq<|g 41 76 [.n (Int.toNat m.task),.x (ak y)]<|J Zcy<|W.cn<|J (noT dO) fun _=>?_
   refine W.skip<|W.sq<|gd 76 97 [[],[],[],[],[.n (Int.toNat m.task)],[.x (ak y)],[],[],[],[],[BT],[BT],[BT],[BT],[BT]] ?_
   conv=>whnf
   refine J Zb0<|J KR<|W.cn<|J (fun _=>(g 97 99 []<|J Zds (RT ?_))) (noF rfl)
   rfl
end Go.K
end
section
open Go Go.Tm Go.Proofs
namespace Go.K
theorem xa(b:Boss)(p:Plan)(m:Message)(hp:dl p)(h:BossLim b)(hm:m.inputs.length≤9223372036854775806):F v4 [.val (fJ b),.val (cO p),.val (en m)] (Mp (DS b p m)) [[],[],[]]:=by
 have cv:=nU b p hp h
 by_cases hv:BossOk b p
 ·rw[decide_eq_true hv]at cv
  rw[nX hv]
  have ct:=uh b h
  have cm:=nC m hm
  by_cases hf:ForB b m
  ·obtain⟨u1,u2,u3,u4,u5,u6,⟨u7,u8⟩,⟨u9,u10⟩,u11,u12,u13,u14⟩:=hv.up hf.up
   obtain⟨hkd,⟨f1,f2⟩,⟨e1,e2⟩⟩:=nR hf
   have hnow:=hv.now
   have hwk:=hv.workers
   have hpl:=(bT hv.plan).1
   obtain⟨g1,g2,g3,g4⟩:=hf
   have hf:ForB b m:=⟨g1,g2,g3,g4⟩
   rw[decide_eq_true g2]at cm
   have hsi:fV m < b.seats.length:=by unfold fV;omega
   obtain⟨x,hx⟩:=af hsi
   rcases hkd with hk|hk|hk
   ·rw[n8 hf hk]
    refine bX ?_
    conv=>whnf
    refine g 2 3 []<|J Zcg<|W.sq<|g 12 13 [.call VT [[],[]]]<|J Zar<|W.cn<|J (noT rfl) fun _=>W.skip<|g 14 19 [.call (aL b) [[]]]<|J Zd8<|W.sq<|g 13 38 [BF,BF,.call VT [[]],BF,BF,BF,BF,BF,BF,BF,BF,BF,BF,BF,BF]<|J Zek<|W.cn<|J (noT dO) fun _=>W.skip<|W.sq<|g 38 42 []<|J UB ?_
    refine W.blk<|g 3 4 []<|J UB<|W.cn<|J (noT dO) fun _=>g 43 45 []<|J UB<|W.cn<|J (fun _=>(g 42 78 []<|J UA (W.blk (W.lp (fun s (n:Nat)=>⟨[(0,s.s 0),(5,s.s 5),(6,s.s 6),(7,s.s 7),(11,.i n)],[(5,[s.c 5 0,s.c 5 1,s.c 5 2,s.c 5 3,s.c 5 4,s.c 5 5,s.c 5 6,s.c 5 7]),(6,[s.c 6 0,s.c 6 1,s.c 6 2,s.c 6 3,s.c 6 4,s.c 6 5,s.c 6 6,s.c 6 7,s.c 6 8,s.c 6 9,s.c 6 10,s.c 6 11,s.c 6 12]),(7,[.t (.i b.workers),.t (.b b.up),.t (.i b.now),.t (.i b.since),.t (.i b.epoch),.t (.i b.given),.own [false] (b.log.safe.map ak),.own [false] (b.log.loose.map ak),.own [false] (b.results.map ak),.own eT ((fR (nd m.lease (b.now+12)) b.jobs n).map aV),.own cM (b.seats.map aF),.own cP (b.owed.map aR)])],[]⟩) (fun(n:Nat)=>n≤b.jobs.length) (fun(n:Nat)=>b.jobs.length - n) (0) [some 5,some 6,some 7] [] ⟨rfl,⟨Zad,rfl,rfl,rfl,rfl,I⟩,⟨Zab,⟨Zdj,⟨Zaa,I⟩⟩⟩,I⟩ OM ?_)))) (noF tO)
    intro n hn
    have hl:=iB (nd m.lease (b.now+12)) b.jobs n
    by_cases hj:n < b.jobs.length
    ·obtain⟨j,hj1⟩:=af hj
     by_cases hd:j.lease = m.lease
     ·have e:=JJ (u:=b.now+12) hj1 hd
      conv=>whnf
      refine W.sq<|g 78 82 []<|J UE<|W.cn<|J (fun _=>(W.skip (W.sq (W.blk (gd 82 93 [[],[],[],[.n (n)],[],[.x (aV j)],[],[],[]] ?_))))) (noF (by simp_all))
      conv=>whnf
      refine⟨⟨I,I,I,Zdf,I,bp AS,I,I,I,I⟩,by kernel_rfl,?_⟩
      refine W.cn<|J (fun _=>(rg [.i (b.now+12),.n (n),.x (aV j)]<|J ⟨I,I,I,I,I,wO,Zdf,I,⟨UA,bp AS⟩,I⟩ (rg [.i ((n:Int) +1)]<|J Zdd ?_))) (noF tO)
      refine⟨n+1,[some 5,some 6,some 7],[],⟨rfl,⟨Zad,rfl,rfl,rfl,rfl,I⟩,⟨Zab,⟨Zdj,⟨⟨rfl,⟨rfl,⟨rfl,⟨rfl,⟨rfl,⟨rfl,⟨rfl,⟨rfl,⟨rfl,⟨rfl,⟨(congrArg (V.own _) (e)),Zac⟩⟩⟩⟩⟩⟩⟩⟩⟩⟩⟩,I⟩⟩⟩,I⟩,?_,?_⟩
      rotate_left
      (dsimp only;omega)
      dsimp only
      omega
     ·have e:=Nx (u:=b.now+12) hj1 hd
      conv=>whnf
      refine W.sq<|g 78 82 []<|J UE<|W.cn<|J (fun _=>(W.skip (W.sq (W.blk (gd 82 93 [[],[],[],[.n (n)],[],[.x (aV j)],[],[],[]] ?_))))) (noF (by simp_all))
      conv=>whnf
      refine⟨⟨I,I,I,Zdf,I,bp AS,I,I,I,I⟩,by kernel_rfl,?_⟩
      refine W.cn<|J (noT dO) fun _=>W.skip<|rg [.i ((n:Int) +1)]<|J Zdd ?_
      refine⟨n+1,[some 5,some 6,some 7],[],⟨rfl,⟨Zad,rfl,rfl,rfl,rfl,I⟩,⟨Zab,⟨Zdj,⟨⟨rfl,⟨rfl,⟨rfl,⟨rfl,⟨rfl,⟨rfl,⟨rfl,⟨rfl,⟨rfl,⟨rfl,⟨(congrArg (V.own _) (by rw[←e])),Zac⟩⟩⟩⟩⟩⟩⟩⟩⟩⟩⟩,I⟩⟩⟩,I⟩,?_,?_⟩
      rotate_left
      (dsimp only;omega)
      dsimp only
      omega
    ·have e:=iC (nd m.lease (b.now+12)) b.jobs (n:=n) OM
     conv=>whnf
     refine W.sq<|g 78 82 []<|J UE<|W.cn<|J (noT (by simp_all)) fun _=>W.exit<|g 7 110 []<|J ⟨I,I,UM,I⟩<|RT ?_
     rw[e]
     rfl
   ·by_cases ht:m.task < p.tasks.length
    ·rw[r7 hf hk ht]
     have cr:=wX b p m (RM hv h hf hk ht) f2
     refine bX ?_
     conv=>whnf
     refine g 2 3 []<|J Zcg<|W.sq<|g 12 13 [.call VT [[],[]]]<|J Zar<|W.cn<|J (noT rfl) fun _=>W.skip<|g 14 19 [.call (aL b) [[]]]<|J Zd8<|W.sq<|g 13 38 [BF,BF,.call VT [[]],BF,BF,BF,BF,BF,BF,BF,BF,BF,BF,BF,BF]<|J Zek<|W.cn<|J (noT dO) fun _=>W.skip<|W.sq<|g 38 42 []<|J UB ?_
     refine W.blk<|g 3 4 []<|J UB<|W.cn<|J (noT dO) fun _=>g 43 45 []<|J UB<|W.cn<|J (noT dO) fun _=>g 42 78 []<|J UB<|W.cn<|J (fun _=>(rg [.call (aL (eP b p.tasks m)) [[],[],[]]]<|J ⟨I,I,I,⟨⟨UL,I,I,I⟩,I,⟨I,UA,UH,I⟩,UA,AS⟩,UL,I⟩ (g 7 110 []<|J ⟨I,I,UM,I⟩ (RT ?_)))) (noF tO)
     rfl
    ·rw[r8 hf hk ht]
     have cr:=zi b p m OM ht
     refine bX ?_
     conv=>whnf
     refine g 2 3 []<|J Zcg<|W.sq<|g 12 13 [.call VT [[],[]]]<|J Zar<|W.cn<|J (noT rfl) fun _=>W.skip<|g 14 19 [.call (aL b) [[]]]<|J Zd8<|W.sq<|g 13 38 [BF,BF,.call VT [[]],BF,BF,BF,BF,BF,BF,BF,BF,BF,BF,BF,BF]<|J Zek<|W.cn<|J (noT dO) fun _=>W.skip<|W.sq<|g 38 42 []<|J UB ?_
     refine W.blk<|g 3 4 []<|J UB<|W.cn<|J (noT dO) fun _=>g 43 45 []<|J UB<|W.cn<|J (noT dO) fun _=>g 42 78 []<|J UB<|W.cn<|J (fun _=>(rg [.call (aL b) [[],[],[]]]<|J ⟨I,I,I,⟨⟨UL,I,I,I⟩,I,⟨I,UA,UH,I⟩,UA,AS⟩,UL,I⟩ (g 7 110 []<|J ⟨I,I,UM,I⟩ (RT ?_)))) (noF tO)
     rfl
   ·rw[n7 hf hk]
    by_cases ho:rC b m
    ·rw[Jp ho]
     have cfr:=mc b m hx ⟨f1,f2⟩ ho
     refine bX ?_
     conv=>whnf
     refine g 2 3 []<|J Zcg<|W.sq<|g 12 13 [.call VT [[],[]]]<|J Zar<|W.cn<|J (noT rfl) fun _=>W.skip<|g 14 19 [.call (aL b) [[]]]<|J Zd8<|W.sq<|g 13 38 [BF,BF,.call VT [[]],BF,BF,BF,BF,BF,BF,BF,BF,BF,BF,BF,BF]<|J Zek<|W.cn<|J (noT dO) fun _=>W.skip<|W.sq<|g 38 42 []<|J UB ?_
     refine W.blk<|g 3 4 []<|J UB<|W.cn<|J (fun _=>(g 42 46 [.call (V.tup [aL b,V.b false]) [[],[]]]<|J ⟨I,I,⟨Zej,I,⟨I,UH,I⟩,UA,AS⟩,I,I,I,I,UL,I,I⟩ (g 47 52 []<|J Zds (g 4 5 []<|J UA (W.blk (W.lp (fun s (n:Nat)=>⟨[(0,s.s 0),(1,s.s 1),(5,s.s 5),(6,s.s 6),(7,s.s 7),(9,s.s 9),(10,.i n),(46,s.s 46)],[(5,[s.c 5 0,s.c 5 1,s.c 5 2,s.c 5 3,s.c 5 4,s.c 5 5,s.c 5 6,s.c 5 7]),(6,[s.c 6 0,s.c 6 1,s.c 6 2,s.c 6 3,s.c 6 4,s.c 6 5,s.c 6 6,s.c 6 7,s.c 6 8,s.c 6 9,s.c 6 10,s.c 6 11,s.c 6 12]),(7,[s.c 7 0,s.c 7 1,s.c 7 2,s.c 7 3,s.c 7 4,s.c 7 5,s.c 7 6,s.c 7 7,s.c 7 8,s.c 7 9,s.c 7 10,s.c 7 11])],[]⟩) (fun(n:Nat)=>n = 0) (fun(n:Nat)=>0) (0) [some 5,some 6,some 7] [] ⟨rfl,⟨Zad,Zag,rfl,rfl,rfl,rfl,rfl,Zba,I⟩,⟨Zab,⟨Zdj,⟨Zaa,I⟩⟩⟩,I⟩ OM ?_)))))) (noF tO)
     intro n hn
     conv=>whnf
     refine W.sq<|g 52 59 [BF,BF,BF,BF,BF,BF]<|J ⟨I,I,rfl,rfl,rfl,rfl,rfl,rfl,I⟩<|W.cn<|J (noT rfl) fun _=>W.exit<|g 0 6 []<|J ⟨I,I,UM,I⟩<|RT ?_
     rfl
    ·rw[Jq ho]
     have cfr:=me b m hx ⟨f1,f2⟩ ho
     rw[lU ho]at cfr
     refine bX ?_
     conv=>whnf
     refine g 2 3 []<|J Zcg<|W.sq<|g 12 13 [.call VT [[],[]]]<|J Zar<|W.cn<|J (noT rfl) fun _=>W.skip<|g 14 19 [.call (aL b) [[]]]<|J Zd8<|W.sq<|g 13 38 [BF,BF,.call VT [[]],BF,BF,BF,BF,BF,BF,BF,BF,BF,BF,BF,BF]<|J Zek<|W.cn<|J (noT dO) fun _=>W.skip<|W.sq<|g 38 42 []<|J UB ?_
     refine W.blk<|g 3 4 []<|J UB<|W.cn<|J (fun _=>(g 42 46 [.call (V.tup [aL {workers:=b.workers,up:=b.up,now:=b.now,since:=b.since,epoch:=b.epoch,given:=b.given,log:=b.log,results:=b.results,jobs:=b.jobs,seats:=List.set b.seats (fV m) {free:=true,epoch:=m.epoch:Seat},owed:=b.owed:Boss},V.b true]) [[],[]]]<|J ⟨I,I,⟨Zej,I,⟨I,UH,I⟩,UA,AS⟩,I,I,I,I,UL,I,I⟩ (g 47 52 []<|J Zds (g 4 5 []<|J UA (W.blk (W.lp (fun s (n:Nat)=>⟨[(0,s.s 0),(1,s.s 1),(5,s.s 5),(6,s.s 6),(7,s.s 7),(9,s.s 9),(10,.i n),(46,s.s 46)],[(5,[s.c 5 0,s.c 5 1,s.c 5 2,s.c 5 3,s.c 5 4,s.c 5 5,s.c 5 6,s.c 5 7]),(6,[s.c 6 0,s.c 6 1,s.c 6 2,s.c 6 3,s.c 6 4,s.c 6 5,s.c 6 6,s.c 6 7,s.c 6 8,s.c 6 9,s.c 6 10,s.c 6 11,s.c 6 12]),(7,[.t (.i b.workers),.t (.b b.up),.t (.i b.now),.t (.i b.since),.t (.i b.epoch),.t (.i b.given),.own [false] (b.log.safe.map ak),.own [false] (b.log.loose.map ak),.own [false] (b.results.map ak),.own eT ((fR (mC m.frm) b.jobs n).map aV),.own cM ((b.seats.set (fV m) ⟨true,m.epoch⟩).map aF),.own cP (b.owed.map aR)])],[]⟩) (fun(n:Nat)=>n≤b.jobs.length) (fun(n:Nat)=>b.jobs.length - n) (0) [some 5,some 6,some 7] [] ⟨rfl,⟨Zad,Zag,rfl,rfl,rfl,rfl,rfl,Zba,I⟩,⟨Zab,⟨Zdj,⟨Zaa,I⟩⟩⟩,I⟩ OM ?_)))))) (noF tO)
     intro n hn
     have hl:=iB (mC m.frm) b.jobs n
     by_cases hj:n < b.jobs.length
     ·obtain⟨j,hj1⟩:=af hj
      by_cases hd:j.worker = m.frm
      ·have e:=Jt hj1 hd
       conv=>whnf
       refine W.sq<|g 52 59 [BT,BT,BT,BT,BT,BT]<|J Zcv<|W.cn<|J (fun _=>(W.skip (W.sq (W.blk (gd 59 70 [[],[],[],[.n (n)],[],[.x (aV j)],[],[],[]] ?_))))) (noF (by simp_all))
       conv=>whnf
       refine⟨⟨I,I,I,Zdf,I,bp AS,I,I,I,I⟩,by kernel_rfl,?_⟩
       refine W.cn<|J (fun _=>(rg [.n (n),.x (aV j)]<|J ⟨I,I,I,I,Zdf,⟨UC,bp AS⟩,I⟩ (rg [.i ((n:Int) +1)]<|J Zdd ?_))) (noF tO)
       refine⟨n+1,[some 5,some 6,some 7],[],⟨rfl,⟨Zad,Zag,rfl,rfl,rfl,rfl,rfl,Zba,I⟩,⟨Zab,⟨Zdj,⟨⟨rfl,⟨rfl,⟨rfl,⟨rfl,⟨rfl,⟨rfl,⟨rfl,⟨rfl,⟨rfl,⟨rfl,⟨(congrArg (V.own _) (e)),Zac⟩⟩⟩⟩⟩⟩⟩⟩⟩⟩⟩,I⟩⟩⟩,I⟩,?_,?_⟩
       rotate_left
       (dsimp only;omega)
       dsimp only
       omega
      ·have e:=MA hj1 hd
       conv=>whnf
       refine W.sq<|g 52 59 [BT,BT,BT,BT,BT,BT]<|J Zcv<|W.cn<|J (fun _=>(W.skip (W.sq (W.blk (gd 59 70 [[],[],[],[.n (n)],[],[.x (aV j)],[],[],[]] ?_))))) (noF (by simp_all))
       conv=>whnf
       refine⟨⟨I,I,I,Zdf,I,bp AS,I,I,I,I⟩,by kernel_rfl,?_⟩
       refine W.cn<|J (noT dO) fun _=>W.skip<|rg [.i ((n:Int) +1)]<|J Zdd ?_
       refine⟨n+1,[some 5,some 6,some 7],[],⟨rfl,⟨Zad,Zag,rfl,rfl,rfl,rfl,rfl,Zba,I⟩,⟨Zab,⟨Zdj,⟨⟨rfl,⟨rfl,⟨rfl,⟨rfl,⟨rfl,⟨rfl,⟨rfl,⟨rfl,⟨rfl,⟨rfl,⟨(congrArg (V.own _) (by rw[←e])),Zac⟩⟩⟩⟩⟩⟩⟩⟩⟩⟩⟩,I⟩⟩⟩,I⟩,?_,?_⟩
       rotate_left
       (dsimp only;omega)
       dsimp only
       omega
     ·have e:=iC (mC m.frm) b.jobs (n:=n) OM
      conv=>whnf
      refine W.sq<|g 52 59 [BT,BT,BT,BT,BT,BT]<|J Zcv<|W.cn<|J (noT (by simp_all)) fun _=>W.exit<|g 0 6 []<|J ⟨I,I,UM,I⟩<|RT ?_
      (simp[*];done)
  ·rw[GJ hf]
   by_cases g1:b.up = true
   ·by_cases g2:bO m
    ·rw[decide_eq_true g2]at cm
     by_cases g3:m.to = 0
     ·have g4:¬m.frm≤b.workers:=fun q=>hf ⟨g1,g2,g3,q⟩
      refine bX ?_
      conv=>whnf
      refine g 2 3 []<|J Zcg<|W.sq<|g 12 13 [.call VT [[],[]]]<|J Zar<|W.cn<|J (noT rfl) fun _=>W.skip<|g 14 19 [.call (aL b) [[]]]<|J Zd8<|W.sq<|g 13 38 [BF,BF,.call VT [[]],BF,BF,BF,BF,BF,BF,BF,BF,BF,BF,BF,BF]<|J Zek<|W.cn<|J (fun _=>(g 38 41 []<|J ⟨I,I,UM,I⟩ (RT ?_))) (noF tO)
      rfl
     ·refine bX ?_
      conv=>whnf
      refine g 2 3 []<|J Zcg<|W.sq<|g 12 13 [.call VT [[],[]]]<|J Zar<|W.cn<|J (noT rfl) fun _=>W.skip<|g 14 19 [.call (aL b) [[]]]<|J Zd8<|W.sq<|g 13 38 [BF,BF,.call VT [[]],BF,BF,BF,BF,BF,BF,BT,BT,BT,BT,BT,BT]<|J ⟨I,I,I,I,Zd0,Zan,Zd0,nbF AS,I,Zdc,Zdc,Zdc,rfl,I,ag OM,ag OM,ag OM,ag OM,ag OM,ag OM,I⟩<|W.cn<|J (fun _=>(g 38 41 []<|J ⟨I,I,UM,I⟩ (RT ?_))) (noF rfl)
      rfl
    ·rw[decide_eq_false g2]at cm
     refine bX ?_
     conv=>whnf
     refine g 2 3 []<|J Zcg<|W.sq<|g 12 13 [.call VT [[],[]]]<|J Zar<|W.cn<|J (noT rfl) fun _=>W.skip<|g 14 19 [.call (aL b) [[]]]<|J Zd8<|W.sq<|g 13 38 [BF,BF,.call VF [[]],BF,BF,BT,BT,BT,BT,BT,BT,BT,BT,BT,BT]<|J ⟨I,I,I,I,Zd0,Zan,Zd0,nbF AS,I,rfl,rfl,rfl,rfl,I,rfl,rfl,rfl,rfl,rfl,rfl,I⟩<|W.cn<|J (fun _=>(g 38 41 []<|J ⟨I,I,UM,I⟩ (RT ?_))) (noF rfl)
     rfl
   ·refine bX ?_
    conv=>whnf
    refine g 2 3 []<|J Zcg<|W.sq<|g 12 13 [.call VT [[],[]]]<|J Zar<|W.cn<|J (noT rfl) fun _=>W.skip<|g 14 19 [.call (aL b) [[]]]<|J Zd8<|W.sq<|g 13 38 [BT,BT,BT,BT,BT,BT,BT,BT,BT,BT,BT,BT,BT,BT]<|J ⟨I,I,I,I,SI,SI,SI,SI,I,rfl,rfl,rfl,rfl,I,rfl,rfl,rfl,rfl,rfl,rfl,I⟩<|W.cn<|J (fun _=>(g 38 41 []<|J ⟨I,I,UM,I⟩ (RT ?_))) (noF rfl)
    rfl
 ·rw[decide_eq_false hv]at cv
  rw[Re hv]
  refine bX ?_
  conv=>whnf
  refine g 2 3 []<|J Zcg<|W.sq<|g 12 13 [.call VF [[],[]]]<|J Zar<|W.cn<|J (fun _=>(g 14 17 []<|J ⟨I,UM,I⟩ (RT ?_))) (noF rfl)
  rfl
end Go.K
end
section
open Go Go.Tm Go.Proofs
namespace Go.K
def cR(a b key:ByteArray):Bool:=decide (¬b = a) && (ef b key).isSome
theorem Di(k:Int)(a b key:ByteArray)(h:b.size≤68719476736):F BH [.val (KO k a b),.val (.s key)] (.b (cR a b key)) [[],[]]:=by
 by_cases e:b = a
 ·have f:cR a b key = false:=by unfold cR;simp[e]
  rw[f]
  refine kz ?_
  conv=>whnf
  refine g 0 1 []<|J ⟨UC,I,I⟩<|W.sq<|g 7 11 []<|J UE<|W.cn<|J (fun _=>(g 11 12 []<|J UA (RT ?_))) (noF tO)
  rfl
 ·have c1:=jd b key h
  unfold cR
  cases hr:ef b key with
  |none =>
   rw[hr]at c1
   refine kz ?_
   conv=>whnf
   refine g 0 1 []<|J ⟨UC,I,I⟩<|W.sq<|g 7 11 []<|J UE<|W.cn<|J (noT dO) fun _=>W.skip<|g 11 19 [.call (fQ none) [[],[]]]<|J ⟨I,I,I,Zam,I,I,I,I,UH,I,I⟩<|g 5 20 []<|J UB<|RT ?_
   (simp[*];done)
  |some m =>
   rw[hr]at c1
   refine kz ?_
   conv=>whnf
   refine g 0 1 []<|J ⟨UC,I,I⟩<|W.sq<|g 7 11 []<|J UE<|W.cn<|J (noT dO) fun _=>W.skip<|g 11 19 [.call (fQ (some m)) [[],[]]]<|J ⟨I,I,I,Zam,I,I,I,I,UH,I,I⟩<|g 5 20 []<|J UB<|RT ?_
   (simp[*];done)
theorem o9(w:World)(h:DoLim w):F Bw [.val (gb w)] (aM w) [[]]:=by
 obtain⟨l1,l2,l3,l4,l5,l6,l7,l8⟩:=h
 have c1:=kF w.plan l2
 have c2:=uh w.boss l3
 have c3:=dy w.flight OM
 refine Cd ?_
 conv=>whnf
 refine g 0 0 []<|J Zdu<|gd 5 19 [[],[],[.call (eS w.plan) [[]]],[],[],[],[],[.call (aL w.boss) [[]]],[],[],[.call (V.own pkd (List.map bx w.flight)) [[]]],[],[],[],[],[]] ?_
 conv=>whnf
 refine J ⟨I,I,Zai,I,I,I,I,Za0,I,I,Zai,I,I,I,I,UQ,I⟩<|J KR<|W.sq<|g 0 0 []<|J UA<|W.blk<|W.lp (fun s (n:Nat)=>⟨[(0,s.s 0),(1,s.s 1),(2,s.s 2),(3,s.s 3),(4,.i n)],[(1,[s.c 1 0,s.c 1 1,s.c 1 2,s.c 1 3,s.c 1 4,s.c 1 5,s.c 1 6,s.c 1 7,s.c 1 8,s.c 1 9,s.c 1 10,s.c 1 11,s.c 1 12,s.c 1 13,s.c 1 14,s.c 1 15,s.c 1 16]),(2,[s.c 2 0,s.c 2 1,s.c 2 2,s.c 2 3,s.c 2 4,s.c 2 5,s.c 2 6,s.c 2 7,s.c 2 8,s.c 2 9,s.c 2 10,s.c 2 11,s.c 2 12,s.c 2 13,s.c 2 14,s.c 2 15,s.c 2 16]),(3,[.own dE (w.plan.tasks.map ay),.t (.s w.key),.t (.i w.boss.workers),.t (.b w.boss.up),.t (.i w.boss.now),.t (.i w.boss.since),.t (.i w.boss.epoch),.t (.i w.boss.given),.own [false] (w.boss.log.safe.map ak),.own [false] (w.boss.log.loose.map ak),.own [false] (w.boss.results.map ak),.own eT (w.boss.jobs.map aV),.own cM (w.boss.seats.map aF),.own cP (w.boss.owed.map aR),.own dp ((w.workers.take n).map ar),.own pkd (w.flight.map bx),.t (.s w.forged)])],[]⟩) (fun(n:Nat)=>n≤w.workers.length) (fun(n:Nat)=>w.workers.length - n) (0) [some 1,some 2,some 3] [] ⟨rfl,⟨Zak,rfl,rfl,rfl,rfl,I⟩,⟨Zde,⟨Zde,⟨Zde,I⟩⟩⟩,I⟩ OM ?_
 intro n hn
 by_cases hn2:n < w.workers.length
 ·obtain⟨x,hx⟩:=af hn2
  have hxi:=l5 x (List.mem_of_getElem? hx)
  have c4:=aD x OM
  conv=>whnf
  refine W.sq<|g 19 23 []<|J UE<|W.cn<|J (fun _=>(W.skip (W.sq (W.blk (rgd [[],[],[],[],[],[.x (ar x)],[],[.call (aC x) [[]]],[],[],[],[]] ?_))))) (noF SI)
  conv=>whnf
  refine⟨⟨I,I,I,I,I,Zdg,I,Zda,⟨UK,I⟩,Zdi,I,UA,I⟩,by kernel_rfl,?_⟩
  refine rg [.i ((n:Int) +1)]<|J Zdd ?_
  refine⟨n+1,[some 1,some 2,some 3],[],⟨rfl,⟨Zak,rfl,rfl,rfl,rfl,I⟩,⟨Zde,⟨Zde,⟨⟨rfl,⟨rfl,⟨rfl,⟨rfl,⟨rfl,⟨rfl,⟨rfl,⟨rfl,⟨rfl,⟨rfl,⟨rfl,⟨rfl,⟨rfl,⟨rfl,⟨rfl,⟨(congrArg (V.own _) (n9 AS)),Zac⟩⟩⟩⟩⟩⟩⟩⟩⟩⟩⟩⟩⟩⟩⟩⟩,I⟩⟩⟩,I⟩,?_,?_⟩
  rotate_left
  (dsimp only;omega)
  dsimp only
  omega
 ·have e:w.workers.take n = w.workers:=aE OM
  conv=>whnf
  refine W.sq<|g 19 23 []<|J UE<|W.cn<|J (noT SI) fun _=>W.exit<|g 3 38 []<|J Zdr<|RT ?_
  (simp[*];done)
theorem De(w:World)(h:DoLim w):F Bv [.val (aM w)] (aM (jY w)) [[]]:=by
 obtain⟨l1,l2,l3,l4,l5,l6,l7,l8⟩:=h
 by_cases h0:1000000≤w.boss.now
 ·rw[r6 h0]
  refine oU ?_
  conv=>whnf
  refine g 0 1 []<|J Zdu<|W.sq<|g 7 10 []<|J UD<|W.cn<|J (fun _=>(g 10 12 []<|J Zdr (RT ?_))) (noF tO)
  rfl
 ·rw[L1 h0]
  have c1:=w9 w.boss w.plan l1 l3
  obtain⟨s1,s2,s3⟩:=vQ w.plan l3
  have s4:=EO w.boss w.plan
  generalize oy w.boss w.plan = L at c1 s1 s2 s3 s4 ⊢
  refine oU ?_
  conv=>whnf
  refine g 0 1 []<|J Zdu<|W.sq<|g 7 10 []<|J UD<|W.cn<|J (noT dO) fun _=>W.skip<|g 10 17 [.call (Mp L) [[],[]]]<|J ⟨I,I,I,I,Zaw,I,UM,I⟩<|g 17 20 []<|J Zc1<|g 20 22 [.g]<|J ⟨I,UA,I,I⟩<|W.sq<|g 3 4 []<|J UA<|W.blk<|W.lp (fun s (n:Nat)=>⟨[(1,s.s 1),(2,s.s 2),(4,.ref ⟨4,none,0⟩),(5,.i n)],[(2,[s.c 2 0,s.c 2 1,s.c 2 2,s.c 2 3,s.c 2 4,s.c 2 5,s.c 2 6,s.c 2 7,s.c 2 8,s.c 2 9,s.c 2 10,s.c 2 11,s.c 2 12,s.c 2 13,s.c 2 14,s.c 2 15,s.c 2 16]),(4,[.own cK ((L.out++io w.plan w.workers n).map aH)]),(1,[.own dE (w.plan.tasks.map ay),.t (.s w.key),.t (.i L.boss.workers),.t (.b L.boss.up),.t (.i L.boss.now),.t (.i L.boss.since),.t (.i L.boss.epoch),.t (.i L.boss.given),.own [false] (L.boss.log.safe.map ak),.own [false] (L.boss.log.loose.map ak),.own [false] (L.boss.results.map ak),.own eT (L.boss.jobs.map aV),.own cM (L.boss.seats.map aF),.own cP (L.boss.owed.map aR),.own dp ((fR (fun x=>(fu x w.plan).worker) w.workers n).map ar),.own pkd (w.flight.map bx),.t (.s w.forged)])],[]⟩) (fun(n:Nat)=>n≤w.workers.length) (fun(n:Nat)=>w.workers.length - n) (0) [some 2,some 21,some 1] [] ⟨rfl,Za6,⟨Zde,⟨⟨rfl,⟨(congrArg (V.own _) (by rw[AE,List.append_nil])),I⟩⟩,⟨Zde,I⟩⟩⟩,I⟩ OM ?_
  intro n hn
  have hl:=iB (fun x=>(fu x w.plan).worker) w.workers n
  have ha:=JM w.plan w.workers n
  by_cases hn2:n < w.workers.length
  ·obtain⟨x,hx⟩:=af hn2
   have hxi:=l5 x (List.mem_of_getElem? hx)
   have c4:=rl x w.plan l1 OM
   have e1:=lC (f:=fun x=>(fu x w.plan).worker) (g:=ar) hx
   have e2:(L.out++io w.plan w.workers n).map aH++ (fu x w.plan).out.map aH = (L.out++io w.plan w.workers (n+1)).map aH:=by rw[←AG hx,←List.map_append,List.append_assoc]
   have hxo:=(nZ x w.plan).1
   generalize fu x w.plan = A at c4 e1 e2 hxo
   conv=>whnf
   refine W.sq<|g 22 26 []<|J UE<|W.cn<|J (fun _=>(W.skip (W.sq (W.blk (gd 26 37 [[],[],[],[.n (n)],[.x (ar x)],[],[],[.x (ar x),.call (pm A) [[],[]]],[],[]] ?_))))) (noF SI)
   conv=>whnf
   refine⟨⟨I,I,I,Zdf,bp AS,I,I,⟨UB,I,⟨⟨I,I,I,I,I,I,I,I,bp AS,I,I,I⟩,UA,I⟩,UA,AS⟩,I,UL,I⟩,by kernel_rfl,?_⟩
   refine g 37 43 [.n (n),.x (ar x)]<|J ⟨I,I,I,I,I,Zdf,⟨UK,bp AS⟩,I⟩<|rg []<|J ⟨I,I,I,Zdi,I,I⟩<|rg [.i ((n:Int) +1)]<|J Zdd ?_
   refine⟨n+1,[some 2,some 46,some 1],[],⟨rfl,Za6,⟨Zde,⟨⟨rfl,⟨(congrArg (V.own _) (e2)),I⟩⟩,⟨⟨rfl,⟨rfl,⟨rfl,⟨rfl,⟨rfl,⟨rfl,⟨rfl,⟨rfl,⟨rfl,⟨rfl,⟨rfl,⟨rfl,⟨rfl,⟨rfl,⟨rfl,⟨(congrArg (V.own _) (e1)),Zac⟩⟩⟩⟩⟩⟩⟩⟩⟩⟩⟩⟩⟩⟩⟩⟩,I⟩⟩⟩,I⟩,?_,?_⟩
   rotate_left
   (dsimp only;omega)
   dsimp only
   omega
  ·obtain rfl:n = w.workers.length:=by omega
   have e:=iC (fun x=>(fu x w.plan).worker) w.workers (Nat.le_refl _)
   have c5:=Ii w.flight (L.out++io w.plan w.workers w.workers.length) w.key OM (by rw[List.length_append];omega) (fun m hm=>by
    rcases List.mem_append.1 hm with hm|hm
    ·have:=s3 m hm;omega
    ·rw[JN hm];exact Nat.zero_le _)
   conv=>whnf
   refine W.sq<|g 22 26 []<|J UE<|W.cn<|J (noT SI) fun _=>W.exit<|g 4 52 [.call (V.own pkd (List.map bx (sf w.flight (Led.out L++io w.plan w.workers (List.length w.workers)) w.key))) [[],[],[]]]<|J ⟨I,I,I,I,I,⟨UC,I,UU,UA,AS⟩,I,UA,I⟩<|g 53 55 []<|J Zdr<|RT ?_
   (simp[*];done)
   all_goals (rw[e];try rfl)
theorem yU(w:World)(k:Int)(h:DoLim w):F xW [.val (aM w),.val (.i k)] (aM (fD w k)) [[],[]]:=by
 obtain⟨l1,l2,l3,l4,l5,l6,l7,l8⟩:=h
 have c1:=bM w.flight k OM
 by_cases ha:w.flight.length≤2000∧0≤k∧k < w.flight.length
 ·rw[decide_eq_true ha]at c1
  obtain⟨a1,a2,a3⟩:=ha
  obtain⟨s,hs⟩:=af (xs:=w.flight) (n:=k.toNat) OM
  rw[EP ⟨a1,a2,a3⟩ hs]
  obtain⟨⟨p1,p2⟩,p3,p4⟩:=l7 s (List.mem_of_getElem? hs)
  have c2:=vO w.flight k OM
  have c3:=Di s.kind s.frm s.text w.key OM
  have c4:=jd s.text w.key OM
  cases hm:ef s.text w.key with
  |none =>
   have hg:cR s.frm s.text w.key = false:=by unfold cR;rw[hm];simp
   rw[hg]at c3
   rw[hm]at c4
   rw[ER (show ef s.text (dh w (cq w.flight k)).key = none from hm)]
   refine bV ?_
   conv=>whnf
   refine g 0 1 []<|J Zdu<|W.sq<|g 8 12 [.call VT [[],[]]]<|J Zeb<|W.cn<|J (noT rfl) fun _=>W.skip<|g 12 19 [.n (Int.toNat k),.x (bw s)]<|J Zch<|g 19 24 [.call (V.own pkd (List.map bx (cq w.flight k))) [[],[]]]<|J Zdy<|W.sq<|g 24 32 [.call VF [[],[]],BF,BF,BF,BF]<|J Zct<|W.cn<|J (noT rfl) fun _=>W.skip<|g 32 44 [.call (fQ none) [[],[]]]<|J Zdv ?_
   refine W.sq<|g 7 45 []<|J UB<|W.cn<|J (fun _=>(g 45 47 []<|J Zdr (RT ?_))) (noF rfl)
   rfl
  |some m =>
   rw[hm]at c4
   have hmi:=(de (IZ hm)).1
   have hm':ef s.text (dh w (cq w.flight k)).key = some m:=hm
   have cases3:∀ g:ByteArray,Af (dh w (cq w.flight k)) s = g→((s.text = s.frm∧g = w.forged)∨(¬s.text = s.frm∧¬w.forged = emp∧g = w.forged)∨(¬s.text = s.frm∧w.forged = emp∧g = s.text)):=fun g e=>by
    by_cases q1:s.text = s.frm
    ·exact .inl ⟨q1,by rw[←e,Jr q1];rfl⟩
    ·by_cases q2:w.forged = emp
     ·exact .inr (.inr ⟨q1,q2,by rw[←e,My q1 (show(dh w (cq w.flight k)).forged = emp from q2)]⟩)
     ·exact .inr (.inl ⟨q1,q2,by rw[←e,Js (show ¬(dh w (cq w.flight k)).forged = emp from q2)];rfl⟩)
   by_cases h0:s.kind = 0
   ·rw[vS hm' h0]
    have c5:=xa w.boss w.plan m l1 l3 OM
    show F _ _ (aM ⟨w.plan,w.key,(DS w.boss w.plan m).boss,w.workers,cq w.flight k,_⟩) _
    generalize DS w.boss w.plan m = L at c5 ⊢
    generalize hgg:Af (dh w (cq w.flight k)) s = g
    rcases cases3 g hgg with⟨q1,rfl⟩|⟨q1,q2,rfl⟩|⟨q1,q2,rfl⟩
    ·have hg:cR s.frm s.text w.key = false:=by unfold cR;rw[hm];simp[q1]
     rw[hg]at c3
     refine bV ?_
     conv=>whnf
     refine g 0 1 []<|J Zdu<|W.sq<|g 8 12 [.call VT [[],[]]]<|J Zeb<|W.cn<|J (noT rfl) fun _=>W.skip<|g 12 19 [.n (Int.toNat k),.x (bw s)]<|J Zch<|g 19 24 [.call (V.own pkd (List.map bx (cq w.flight k))) [[],[]]]<|J Zdy<|W.sq<|g 24 32 [.call VF [[],[]],BF,BF,BF,BF]<|J Zct<|W.cn<|J (noT rfl) fun _=>W.skip<|g 32 44 [.call (fQ (some m)) [[],[]]]<|J Zdv ?_
     refine W.sq<|g 7 45 []<|J UB<|W.cn<|J (noT rfl) fun _=>W.skip<|W.sq<|g 45 49 []<|J UC<|W.cn<|J (fun _=>(rg [.call (Mp L) [[],[],[]]]<|J ⟨I,I,I,I,I,⟨UC,I,⟨UL,UA,UH,I⟩,UA,AS⟩,I,I,UL,I⟩ (g 53 83 []<|J Zdr (RT ?_)))) (noF tO)
     rfl
    ·have hg:cR s.frm s.text w.key = true:=by unfold cR;rw[hm];simp[q1]
     rw[hg]at c3
     refine bV ?_
     conv=>whnf
     refine g 0 1 []<|J Zdu<|W.sq<|g 8 12 [.call VT [[],[]]]<|J Zeb<|W.cn<|J (noT rfl) fun _=>W.skip<|g 12 19 [.n (Int.toNat k),.x (bw s)]<|J Zch<|g 19 24 [.call (V.own pkd (List.map bx (cq w.flight k))) [[],[]]]<|J Zdy<|W.sq<|g 24 32 [.call VT [[],[]],BT,BT,BT,BT]<|J Zbk<|W.cn<|J (noT dO) fun _=>W.skip<|g 32 44 [.call (fQ (some m)) [[],[]]]<|J Zdv ?_
     refine W.sq<|g 7 45 []<|J UB<|W.cn<|J (noT rfl) fun _=>W.skip<|W.sq<|g 45 49 []<|J UC<|W.cn<|J (fun _=>(rg [.call (Mp L) [[],[],[]]]<|J ⟨I,I,I,I,I,⟨UC,I,⟨UL,UA,UH,I⟩,UA,AS⟩,I,I,UL,I⟩ (g 53 83 []<|J Zdr (RT ?_)))) (noF tO)
     rfl
    ·have hg:cR s.frm s.text w.key = true:=by unfold cR;rw[hm];simp[q1]
     rw[hg]at c3
     refine bV ?_
     conv=>whnf
     refine g 0 1 []<|J Zdu<|W.sq<|g 8 12 [.call VT [[],[]]]<|J Zeb<|W.cn<|J (noT rfl) fun _=>W.skip<|g 12 19 [.n (Int.toNat k),.x (bw s)]<|J Zch<|g 19 24 [.call (V.own pkd (List.map bx (cq w.flight k))) [[],[]]]<|J Zdy<|W.sq<|g 24 32 [.call VT [[],[]],BT,BT,BT,BT]<|J Zbk<|W.cn<|J (fun _=>(rg []<|J UW (g 32 44 [.call (fQ (some m)) [[],[]]]<|J Zdv ?_))) (noF tO)
     refine W.sq<|g 7 45 []<|J UB<|W.cn<|J (noT rfl) fun _=>W.skip<|W.sq<|g 45 49 []<|J UC<|W.cn<|J (fun _=>(rg [.call (Mp L) [[],[],[]]]<|J ⟨I,I,I,I,I,⟨UC,I,⟨UL,UA,UH,I⟩,UA,AS⟩,I,I,UL,I⟩ (g 53 83 []<|J Zdr (RT ?_)))) (noF tO)
     rfl
   ·by_cases h1:s.kind≤w.workers.length
    ·obtain⟨x,hx⟩:=af (xs:=w.workers) (n:=(s.kind - 1).toNat) OM
     rw[vR hm' h0 ⟨by omega,h1⟩ hx]
     have hxi:=l5 x (List.mem_of_getElem? hx)
     have c5:=rm x w.plan m l1 OM OM
     show F _ _ (aM ⟨w.plan,w.key,w.boss,w.workers.set _ (vU x w.plan m).worker,cq w.flight k,_⟩) _
     generalize vU x w.plan m = L at c5 ⊢
     have es:=jP (xs:=w.workers) (n:=(s.kind - 1).toNat) (x:=L.worker)
     generalize hgg:Af (dh w (cq w.flight k)) s = g
     rcases cases3 g hgg with⟨q1,rfl⟩|⟨q1,q2,rfl⟩|⟨q1,q2,rfl⟩
     ·have hg:cR s.frm s.text w.key = false:=by unfold cR;rw[hm];simp[q1]
      rw[hg]at c3
      refine bV ?_
      conv=>whnf
      refine g 0 1 []<|J Zdu<|W.sq<|g 8 12 [.call VT [[],[]]]<|J Zeb<|W.cn<|J (noT rfl) fun _=>W.skip<|g 12 19 [.n (Int.toNat k),.x (bw s)]<|J Zch<|g 19 24 [.call (V.own pkd (List.map bx (cq w.flight k))) [[],[]]]<|J Zdy<|W.sq<|g 24 32 [.call VF [[],[]],BF,BF,BF,BF]<|J Zct<|W.cn<|J (noT rfl) fun _=>W.skip<|g 32 44 [.call (fQ (some m)) [[],[]]]<|J Zdv ?_
      refine W.sq<|g 7 45 []<|J UB<|W.cn<|J (noT rfl) fun _=>W.skip<|W.sq<|g 45 49 []<|J UC<|W.cn<|J (noT dO) fun _=>g 49 63 []<|J UF<|W.cn<|J (fun _=>(rgd [[],[],[],[],[.i (s.kind - 1)],[],[],[],[],[.i (s.kind - 1)],[.n (Int.toNat (s.kind - 1))],[.x (ar x)],[],[],[],[.x (ar x),.call (pm L) [[],[],[]]],[],[.n (Int.toNat (s.kind - 1))],[.x (ar x)]] ?_)) (noF SI)
      conv=>whnf
      refine⟨Zbv,by kernel_rfl,?_⟩
      refine g 5 83 []<|J Zdr<|RT ?_
      exact jp w.plan w.key w.boss w.workers (s.kind - 1).toNat L.worker (cq w.flight k) w.forged
     ·have hg:cR s.frm s.text w.key = true:=by unfold cR;rw[hm];simp[q1]
      rw[hg]at c3
      refine bV ?_
      conv=>whnf
      refine g 0 1 []<|J Zdu<|W.sq<|g 8 12 [.call VT [[],[]]]<|J Zeb<|W.cn<|J (noT rfl) fun _=>W.skip<|g 12 19 [.n (Int.toNat k),.x (bw s)]<|J Zch<|g 19 24 [.call (V.own pkd (List.map bx (cq w.flight k))) [[],[]]]<|J Zdy<|W.sq<|g 24 32 [.call VT [[],[]],BT,BT,BT,BT]<|J Zbk<|W.cn<|J (noT dO) fun _=>W.skip<|g 32 44 [.call (fQ (some m)) [[],[]]]<|J Zdv ?_
      refine W.sq<|g 7 45 []<|J UB<|W.cn<|J (noT rfl) fun _=>W.skip<|W.sq<|g 45 49 []<|J UC<|W.cn<|J (noT dO) fun _=>g 49 63 []<|J UF<|W.cn<|J (fun _=>(rgd [[],[],[],[],[.i (s.kind - 1)],[],[],[],[],[.i (s.kind - 1)],[.n (Int.toNat (s.kind - 1))],[.x (ar x)],[],[],[],[.x (ar x),.call (pm L) [[],[],[]]],[],[.n (Int.toNat (s.kind - 1))],[.x (ar x)]] ?_)) (noF SI)
      conv=>whnf
      refine⟨Zbv,by kernel_rfl,?_⟩
      refine g 5 83 []<|J Zdr<|RT ?_
      exact jp w.plan w.key w.boss w.workers (s.kind - 1).toNat L.worker (cq w.flight k) w.forged
     ·have hg:cR s.frm s.text w.key = true:=by unfold cR;rw[hm];simp[q1]
      rw[hg]at c3
      refine bV ?_
      conv=>whnf
      refine g 0 1 []<|J Zdu<|W.sq<|g 8 12 [.call VT [[],[]]]<|J Zeb<|W.cn<|J (noT rfl) fun _=>W.skip<|g 12 19 [.n (Int.toNat k),.x (bw s)]<|J Zch<|g 19 24 [.call (V.own pkd (List.map bx (cq w.flight k))) [[],[]]]<|J Zdy<|W.sq<|g 24 32 [.call VT [[],[]],BT,BT,BT,BT]<|J Zbk<|W.cn<|J (fun _=>(rg []<|J UW (g 32 44 [.call (fQ (some m)) [[],[]]]<|J Zdv ?_))) (noF tO)
      refine W.sq<|g 7 45 []<|J UB<|W.cn<|J (noT rfl) fun _=>W.skip<|W.sq<|g 45 49 []<|J UC<|W.cn<|J (noT dO) fun _=>g 49 63 []<|J UF<|W.cn<|J (fun _=>(rgd [[],[],[],[],[.i (s.kind - 1)],[],[],[],[],[.i (s.kind - 1)],[.n (Int.toNat (s.kind - 1))],[.x (ar x)],[],[],[],[.x (ar x),.call (pm L) [[],[],[]]],[],[.n (Int.toNat (s.kind - 1))],[.x (ar x)]] ?_)) (noF SI)
      conv=>whnf
      refine⟨Zbv,by kernel_rfl,?_⟩
      refine g 5 83 []<|J Zdr<|RT ?_
      exact jp w.plan w.key w.boss w.workers (s.kind - 1).toNat L.worker (cq w.flight k) s.text
    ·rw[AA hm' h0 (fun q=>h1 q.2)]
     show F _ _ (aM ⟨w.plan,w.key,w.boss,w.workers,cq w.flight k,_⟩) _
     generalize hgg:Af (dh w (cq w.flight k)) s = g
     rcases cases3 g hgg with⟨q1,rfl⟩|⟨q1,q2,rfl⟩|⟨q1,q2,rfl⟩
     ·have hg:cR s.frm s.text w.key = false:=by unfold cR;rw[hm];simp[q1]
      rw[hg]at c3
      refine bV ?_
      conv=>whnf
      refine g 0 1 []<|J Zdu<|W.sq<|g 8 12 [.call VT [[],[]]]<|J Zeb<|W.cn<|J (noT rfl) fun _=>W.skip<|g 12 19 [.n (Int.toNat k),.x (bw s)]<|J Zch<|g 19 24 [.call (V.own pkd (List.map bx (cq w.flight k))) [[],[]]]<|J Zdy<|W.sq<|g 24 32 [.call VF [[],[]],BF,BF,BF,BF]<|J Zct<|W.cn<|J (noT rfl) fun _=>W.skip<|g 32 44 [.call (fQ (some m)) [[],[]]]<|J Zdv ?_
      refine W.sq<|g 7 45 []<|J UB<|W.cn<|J (noT rfl) fun _=>W.skip<|W.sq<|g 45 49 []<|J UC<|W.cn<|J (noT dO) fun _=>g 49 63 []<|J UF<|W.cn<|J (noT SI) fun _=>W.skip<|g 5 83 []<|J Zdr<|RT ?_
      rfl
     ·have hg:cR s.frm s.text w.key = true:=by unfold cR;rw[hm];simp[q1]
      rw[hg]at c3
      refine bV ?_
      conv=>whnf
      refine g 0 1 []<|J Zdu<|W.sq<|g 8 12 [.call VT [[],[]]]<|J Zeb<|W.cn<|J (noT rfl) fun _=>W.skip<|g 12 19 [.n (Int.toNat k),.x (bw s)]<|J Zch<|g 19 24 [.call (V.own pkd (List.map bx (cq w.flight k))) [[],[]]]<|J Zdy<|W.sq<|g 24 32 [.call VT [[],[]],BT,BT,BT,BT]<|J Zbk<|W.cn<|J (noT dO) fun _=>W.skip<|g 32 44 [.call (fQ (some m)) [[],[]]]<|J Zdv ?_
      refine W.sq<|g 7 45 []<|J UB<|W.cn<|J (noT rfl) fun _=>W.skip<|W.sq<|g 45 49 []<|J UC<|W.cn<|J (noT dO) fun _=>g 49 63 []<|J UF<|W.cn<|J (noT SI) fun _=>W.skip<|g 5 83 []<|J Zdr<|RT ?_
      rfl
     ·have hg:cR s.frm s.text w.key = true:=by unfold cR;rw[hm];simp[q1]
      rw[hg]at c3
      refine bV ?_
      conv=>whnf
      refine g 0 1 []<|J Zdu<|W.sq<|g 8 12 [.call VT [[],[]]]<|J Zeb<|W.cn<|J (noT rfl) fun _=>W.skip<|g 12 19 [.n (Int.toNat k),.x (bw s)]<|J Zch<|g 19 24 [.call (V.own pkd (List.map bx (cq w.flight k))) [[],[]]]<|J Zdy<|W.sq<|g 24 32 [.call VT [[],[]],BT,BT,BT,BT]<|J Zbk<|W.cn<|J (fun _=>(rg []<|J UW (g 32 44 [.call (fQ (some m)) [[],[]]]<|J Zdv ?_))) (noF tO)
      refine W.sq<|g 7 45 []<|J UB<|W.cn<|J (noT rfl) fun _=>W.skip<|W.sq<|g 45 49 []<|J UC<|W.cn<|J (noT dO) fun _=>g 49 63 []<|J UF<|W.cn<|J (noT SI) fun _=>W.skip<|g 5 83 []<|J Zdr<|RT ?_
      rfl
 ·rw[decide_eq_false ha]at c1
  rw[JE ha]
  refine bV ?_
  conv=>whnf
  refine g 0 1 []<|J Zdu<|W.sq<|g 8 12 [.call VF [[],[]]]<|J Zeb<|W.cn<|J (fun _=>(g 12 14 []<|J Zdr (RT ?_))) (noF rfl)
  rfl
end Go.K
end
section
open Go Go.Tm Go.Proofs
namespace Go.K
theorem Ig(w:World)(e:Event)(h:DoLim w):F Hx [.val (aM w),.val (xH e)] (aM (doW w e)) [[],[]]:=by
 have ct:=De w h
 have cb:=yU w e.a h
 obtain⟨l1,l2,l3,l4,l5,l6,l7,l8⟩:=h
 have c3:=Dj w.flight e.a OM
 have c4:=vO w.flight e.a OM
 have c5:=Ij w.flight e.a e.b e.c OM (fun p hp=>by have:=(l7 p hp).bytes;omega)
 have c6:=xd w.boss w.plan e.b l1 l3
 have c7:=xb w.boss w.plan l1 l3
 by_cases h1:e.kind = 1
 ·rw[Yi h1]
  refine cW ?_
  conv=>whnf
  refine g 0 2 []<|J Zcw ?_
  by_cases h2:(1:Int)≤Event.a e
  refine g 6 17 [BT,BT,BT,BT,BT,BT,BT]<|J Zav<|W.sq<|g 17 18 []<|J UB<|W.blk<|g 20 21 []<|J UB<|W.cn<|J (fun _=>(g 5 23 [.call (aM (jY w)) [[]]]<|J ⟨I,⟨⟨UQ,I⟩,I,UA,UA,AS⟩,UQ,I⟩ (RT ?_))) (noF tO)
  rfl
  refine g 6 17 [BF,BF,BF,BF,BF,BF,BF]<|J Zb2<|W.sq<|g 17 18 []<|J UB<|W.blk<|g 20 21 []<|J UB<|W.cn<|J (fun _=>(g 5 23 [.call (aM (jY w)) [[]]]<|J ⟨I,⟨⟨UQ,I⟩,I,UA,UA,AS⟩,UQ,I⟩ (RT ?_))) (noF tO)
  rfl
 by_cases h2:e.kind = 2
 ·rw[Yh h2]
  refine cW ?_
  conv=>whnf
  refine g 0 2 []<|J Zcw ?_
  by_cases h3:(1:Int)≤Event.a e
  refine g 6 17 [BT,BT,BT,BT,BT,BT,BT]<|J Zav<|W.sq<|g 17 18 []<|J UB<|W.blk<|g 20 21 []<|J UB<|W.cn<|J (noT dO) fun _=>g 19 20 []<|J UB<|W.cn<|J (fun _=>(g 5 29 [.call (aM (fD w e.a)) [[],[]]]<|J ⟨I,I,I,⟨Zdu,I,UV,UA,AS⟩,UQ,I⟩ (RT ?_))) (noF tO)
  rfl
  refine g 6 17 [BF,BF,BF,BF,BF,BF,BF]<|J Zb2<|W.sq<|g 17 18 []<|J UB<|W.blk<|g 20 21 []<|J UB<|W.cn<|J (noT dO) fun _=>g 19 20 []<|J UB<|W.cn<|J (fun _=>(g 5 29 [.call (aM (fD w e.a)) [[],[]]]<|J ⟨I,I,I,⟨Zdu,I,UV,UA,AS⟩,UQ,I⟩ (RT ?_))) (noF tO)
  rfl
 by_cases h3:e.kind = 3
 ·rw[Yg h3]
  refine cW ?_
  conv=>whnf
  refine g 0 2 []<|J Zcw ?_
  by_cases h4:(1:Int)≤Event.a e
  refine g 6 17 [BT,BT,BT,BT,BT,BT,BT]<|J Zav<|W.sq<|g 17 18 []<|J UB<|W.blk<|g 20 21 []<|J UB<|W.cn<|J (noT dO) fun _=>g 19 20 []<|J UB<|W.cn<|J (noT dO) fun _=>g 23 25 []<|J UB<|W.cn<|J (fun _=>(rg [.call (V.own pkd (List.map bx (qB w.flight e.a))) [[],[]]]<|J ⟨I,I,I,I,Zam,I,UA,I⟩ (g 5 112 []<|J Zdr ?_))) (noF tO)
  refine RT ?_
  rfl
  refine g 6 17 [BF,BF,BF,BF,BF,BF,BF]<|J Zb2<|W.sq<|g 17 18 []<|J UB<|W.blk<|g 20 21 []<|J UB<|W.cn<|J (noT dO) fun _=>g 19 20 []<|J UB<|W.cn<|J (noT dO) fun _=>g 23 25 []<|J UB<|W.cn<|J (fun _=>(rg [.call (V.own pkd (List.map bx (qB w.flight e.a))) [[],[]]]<|J ⟨I,I,I,I,Zam,I,UA,I⟩ (g 5 112 []<|J Zdr ?_))) (noF tO)
  refine RT ?_
  rfl
 by_cases h4:e.kind = 4
 ·rw[Yf h4]
  refine cW ?_
  conv=>whnf
  refine g 0 2 []<|J Zcw ?_
  by_cases h5:(1:Int)≤Event.a e
  refine g 6 17 [BT,BT,BT,BT,BT,BT,BT]<|J Zav<|W.sq<|g 17 18 []<|J UB<|W.blk<|g 20 21 []<|J UB<|W.cn<|J (noT dO) fun _=>g 19 20 []<|J UB<|W.cn<|J (noT dO) fun _=>g 23 25 []<|J UB<|W.cn<|J (noT dO) fun _=>g 29 31 []<|J UB<|W.cn<|J (fun _=>?_) (noF tO)
  refine rg [.call (V.own pkd (List.map bx (cq w.flight e.a))) [[],[]]]<|J ⟨I,I,I,I,Zam,I,UA,I⟩<|g 5 112 []<|J Zdr<|RT ?_
  rfl
  refine g 6 17 [BF,BF,BF,BF,BF,BF,BF]<|J Zb2<|W.sq<|g 17 18 []<|J UB<|W.blk<|g 20 21 []<|J UB<|W.cn<|J (noT dO) fun _=>g 19 20 []<|J UB<|W.cn<|J (noT dO) fun _=>g 23 25 []<|J UB<|W.cn<|J (noT dO) fun _=>g 29 31 []<|J UB<|W.cn<|J (fun _=>?_) (noF tO)
  refine rg [.call (V.own pkd (List.map bx (cq w.flight e.a))) [[],[]]]<|J ⟨I,I,I,I,Zam,I,UA,I⟩<|g 5 112 []<|J Zdr<|RT ?_
  rfl
 by_cases h5:e.kind = 5
 ·rw[Ye h5]
  refine cW ?_
  conv=>whnf
  refine g 0 2 []<|J Zcw ?_
  by_cases h6:(1:Int)≤Event.a e
  refine g 6 17 [BT,BT,BT,BT,BT,BT,BT]<|J Zav<|W.sq<|g 17 18 []<|J UB<|W.blk<|g 20 21 []<|J UB<|W.cn<|J (noT dO) fun _=>g 19 20 []<|J UB<|W.cn<|J (noT dO) fun _=>g 23 25 []<|J UB<|W.cn<|J (noT dO) fun _=>g 29 31 []<|J UB<|W.cn<|J (noT dO) fun _=>?_
  refine g 37 39 []<|J UB<|W.cn<|J (fun _=>(rg [.call (V.own pkd (List.map bx (qG w.flight e.a e.b e.c))) [[],[],[],[]]]<|J ⟨I,I,I,I,I,I,I,I,⟨UD,I,Zc8,UA,AS⟩,I,UA,I⟩ (g 5 52 []<|J Zdr (RT ?_)))) (noF tO)
  rfl
  refine g 6 17 [BF,BF,BF,BF,BF,BF,BF]<|J Zb2<|W.sq<|g 17 18 []<|J UB<|W.blk<|g 20 21 []<|J UB<|W.cn<|J (noT dO) fun _=>g 19 20 []<|J UB<|W.cn<|J (noT dO) fun _=>g 23 25 []<|J UB<|W.cn<|J (noT dO) fun _=>g 29 31 []<|J UB<|W.cn<|J (noT dO) fun _=>?_
  refine g 37 39 []<|J UB<|W.cn<|J (fun _=>(rg [.call (V.own pkd (List.map bx (qG w.flight e.a e.b e.c))) [[],[],[],[]]]<|J ⟨I,I,I,I,I,I,I,I,⟨UD,I,Zc8,UA,AS⟩,I,UA,I⟩ (g 5 52 []<|J Zdr (RT ?_)))) (noF tO)
  rfl
 by_cases h6:e.kind = 6
 ·by_cases ha:e.a = 0
  ·rw[Wl h6 ha]
   generalize qI w.boss w.plan e.b = B at c6 ⊢
   refine cW ?_
   conv=>whnf
   refine g 0 2 []<|J Zcw<|g 6 17 [BF,BF,BF,BF,BF,BF,BF]<|J Zb2<|W.sq<|g 17 18 []<|J UB<|W.blk<|g 20 21 []<|J UB<|W.cn<|J (noT dO) fun _=>g 19 20 []<|J UB<|W.cn<|J (noT dO) fun _=>g 23 25 []<|J UB<|W.cn<|J (noT dO) fun _=>g 29 31 []<|J UB ?_
   refine W.cn<|J (noT dO) fun _=>g 37 39 []<|J UB<|W.cn<|J (noT dO) fun _=>g 45 47 []<|J UB<|W.cn<|J (fun _=>(g 18 61 []<|J UC (W.cn<|J (fun _=>(rg [.call (aL B) [[],[],[]]]<|J ⟨I,I,I,I,I,I,⟨UC,I,⟨UL,UA,UA,I⟩,UA,AS⟩,I,UL,I⟩ (g 5 112 []<|J Zdr (RT ?_)))) (noF tO)))) (noF tO)
   rfl
  ·by_cases hx:1≤e.a∧e.a≤w.workers.length
   ·obtain⟨x1,x2⟩:=hx
    obtain⟨x,hx⟩:=af (xs:=w.workers) (n:=(e.a - 1).toNat) OM
    rw[Wj h6 ⟨x1,x2⟩ hx]
    have hxi:=l5 x (List.mem_of_getElem? hx)
    have c8:=rp x OM
    generalize n4 x = y at c8 ⊢
    have es:=jP (xs:=w.workers) (n:=(e.a - 1).toNat) (x:=y)
    refine cW ?_
    conv=>whnf
    refine g 0 2 []<|J Zcw<|g 6 17 [BT,BT,BT,BT,BT,BT,BT]<|J Zav<|W.sq<|g 17 18 []<|J UB<|W.blk<|g 20 21 []<|J UB<|W.cn<|J (noT dO) fun _=>g 19 20 []<|J UB<|W.cn<|J (noT dO) fun _=>g 23 25 []<|J UB<|W.cn<|J (noT dO) fun _=>g 29 31 []<|J UB ?_
    refine W.cn<|J (noT dO) fun _=>g 37 39 []<|J UB<|W.cn<|J (noT dO) fun _=>g 45 47 []<|J UB<|W.cn<|J (fun _=>(g 18 61 []<|J UC (W.cn<|J (noT dO) fun _=>(g 5 62 []<|J UA (W.cn<|J (fun _=>(rgd [[],[],[],[],[.i (e.a - 1)],[],[],[],[],[.i (e.a - 1)],[.n (Int.toNat (e.a - 1))],[.x (ar x)],[.x (ar x),.call (aC y) [[]]],[.n (Int.toNat (e.a - 1))],[.x (ar x)]] ?_)) (noF SI)))))) (noF tO)
    conv=>whnf
    refine⟨⟨I,I,I,I,wO,I,I,I,I,wO,Zdo,xA,⟨UA,I,⟨Zcn,I⟩,UA,AS⟩,Zdo,⟨UK,xA⟩,I⟩,by kernel_rfl,?_⟩
    refine g 70 112 []<|J Zdr<|RT ?_
    exact jp w.plan w.key w.boss w.workers (e.a - 1).toNat y w.flight w.forged
   ·rw[Wk h6 ha hx]
    refine cW ?_
    conv=>whnf
    refine g 0 2 []<|J Zcw ?_
    by_cases h7:(1:Int)≤Event.a e
    refine g 6 17 [BT,BT,BT,BT,BT,BT,BT]<|J Zav<|W.sq<|g 17 18 []<|J UB<|W.blk<|g 20 21 []<|J UB<|W.cn<|J (noT dO) fun _=>g 19 20 []<|J UB<|W.cn<|J (noT dO) fun _=>g 23 25 []<|J UB<|W.cn<|J (noT dO) fun _=>g 29 31 []<|J UB<|W.cn<|J (noT dO) fun _=>?_
    refine g 37 39 []<|J UB<|W.cn<|J (noT dO) fun _=>g 45 47 []<|J UB<|W.cn<|J (fun _=>(g 18 61 []<|J UC (W.cn<|J (noT dO) fun _=>(g 5 62 []<|J UA (W.cn<|J (noT (by simp_all)) fun _=>(W.skip (g 2 4 []<|J Zdr (RT ?_)))))))) (noF tO)
    rfl
    refine g 6 17 [BF,BF,BF,BF,BF,BF,BF]<|J Zb2<|W.sq<|g 17 18 []<|J UB<|W.blk<|g 20 21 []<|J UB<|W.cn<|J (noT dO) fun _=>g 19 20 []<|J UB<|W.cn<|J (noT dO) fun _=>g 23 25 []<|J UB<|W.cn<|J (noT dO) fun _=>g 29 31 []<|J UB<|W.cn<|J (noT dO) fun _=>?_
    refine g 37 39 []<|J UB<|W.cn<|J (noT dO) fun _=>g 45 47 []<|J UB<|W.cn<|J (fun _=>(g 18 61 []<|J UC (W.cn<|J (noT dO) fun _=>(g 5 62 []<|J UA (W.cn<|J (noT rfl) fun _=>(W.skip (g 2 4 []<|J Zdr (RT ?_)))))))) (noF tO)
    rfl
 by_cases h7:e.kind = 7
 ·by_cases ha:e.a = 0
  ·rw[Wi h7 ha]
   generalize qH w.boss w.plan = B at c7 ⊢
   refine cW ?_
   conv=>whnf
   refine g 0 2 []<|J Zcw<|g 6 17 [BF,BF,BF,BF,BF,BF,BF]<|J Zb2<|W.sq<|g 17 18 []<|J UB<|W.blk<|g 20 21 []<|J UB<|W.cn<|J (noT dO) fun _=>g 19 20 []<|J UB<|W.cn<|J (noT dO) fun _=>g 23 25 []<|J UB<|W.cn<|J (noT dO) fun _=>g 29 31 []<|J UB ?_
   refine W.cn<|J (noT dO) fun _=>g 37 39 []<|J UB<|W.cn<|J (noT dO) fun _=>g 45 47 []<|J UB<|W.cn<|J (noT dO) fun _=>g 18 59 []<|J UB<|W.cn<|J (fun _=>(g 85 89 []<|J UC (W.cn<|J (fun _=>(rg [.call (aL B) [[],[]]]<|J ⟨I,I,I,I,Zaw,I,UL,I⟩ (g 5 112 []<|J Zdr (RT ?_)))) (noF tO)))) (noF tO)
   rfl
  ·by_cases hx:1≤e.a∧e.a≤w.workers.length
   ·obtain⟨x1,x2⟩:=hx
    obtain⟨x,hx⟩:=af (xs:=w.workers) (n:=(e.a - 1).toNat) OM
    rw[Wg h7 ⟨x1,x2⟩ hx]
    have hxi:=l5 x (List.mem_of_getElem? hx)
    have c8:=ro x OM
    generalize ll x = y at c8 ⊢
    have es:=jP (xs:=w.workers) (n:=(e.a - 1).toNat) (x:=y)
    refine cW ?_
    conv=>whnf
    refine g 0 2 []<|J Zcw<|g 6 17 [BT,BT,BT,BT,BT,BT,BT]<|J Zav<|W.sq<|g 17 18 []<|J UB<|W.blk<|g 20 21 []<|J UB<|W.cn<|J (noT dO) fun _=>g 19 20 []<|J UB<|W.cn<|J (noT dO) fun _=>g 23 25 []<|J UB<|W.cn<|J (noT dO) fun _=>g 29 31 []<|J UB ?_
    refine W.cn<|J (noT dO) fun _=>g 37 39 []<|J UB<|W.cn<|J (noT dO) fun _=>g 45 47 []<|J UB<|W.cn<|J (noT dO) fun _=>g 18 59 []<|J UB<|W.cn<|J (fun _=>(g 85 89 []<|J UC (W.cn<|J (noT dO) fun _=>(g 5 90 []<|J UA (W.cn<|J (fun _=>(rgd [[],[],[],[],[.i (e.a - 1)],[],[],[],[],[.i (e.a - 1)],[.n (Int.toNat (e.a - 1))],[.x (ar x)],[.x (ar x),.call (aC y) [[]]],[.n (Int.toNat (e.a - 1))],[.x (ar x)]] ?_)) (noF SI)))))) (noF tO)
    conv=>whnf
    refine⟨⟨I,I,I,I,wO,I,I,I,I,wO,Zdo,xA,⟨UA,I,⟨Zcn,I⟩,UA,AS⟩,Zdo,⟨UK,xA⟩,I⟩,by kernel_rfl,?_⟩
    refine g 96 112 []<|J Zdr<|RT ?_
    exact jp w.plan w.key w.boss w.workers (e.a - 1).toNat y w.flight w.forged
   ·rw[Wh h7 ha hx]
    refine cW ?_
    conv=>whnf
    refine g 0 2 []<|J Zcw ?_
    by_cases h8:(1:Int)≤Event.a e
    refine g 6 17 [BT,BT,BT,BT,BT,BT,BT]<|J Zav<|W.sq<|g 17 18 []<|J UB<|W.blk<|g 20 21 []<|J UB<|W.cn<|J (noT dO) fun _=>g 19 20 []<|J UB<|W.cn<|J (noT dO) fun _=>g 23 25 []<|J UB<|W.cn<|J (noT dO) fun _=>g 29 31 []<|J UB<|W.cn<|J (noT dO) fun _=>?_
    refine g 37 39 []<|J UB<|W.cn<|J (noT dO) fun _=>g 45 47 []<|J UB<|W.cn<|J (noT dO) fun _=>g 18 59 []<|J UB<|W.cn<|J (fun _=>(g 85 89 []<|J UC (W.cn<|J (noT dO) fun _=>(g 5 90 []<|J UA (W.cn<|J (noT (by simp_all)) fun _=>(W.skip (g 2 4 []<|J Zdr ?_))))))) (noF tO)
    refine RT ?_
    rfl
    refine g 6 17 [BF,BF,BF,BF,BF,BF,BF]<|J Zb2<|W.sq<|g 17 18 []<|J UB<|W.blk<|g 20 21 []<|J UB<|W.cn<|J (noT dO) fun _=>g 19 20 []<|J UB<|W.cn<|J (noT dO) fun _=>g 23 25 []<|J UB<|W.cn<|J (noT dO) fun _=>g 29 31 []<|J UB<|W.cn<|J (noT dO) fun _=>?_
    refine g 37 39 []<|J UB<|W.cn<|J (noT dO) fun _=>g 45 47 []<|J UB<|W.cn<|J (noT dO) fun _=>g 18 59 []<|J UB<|W.cn<|J (fun _=>(g 85 89 []<|J UC (W.cn<|J (noT dO) fun _=>(g 5 90 []<|J UA (W.cn<|J (noT rfl) fun _=>(W.skip (g 2 4 []<|J Zdr ?_))))))) (noF tO)
    refine RT ?_
    rfl
 ·have e0:doW w e = w:=by
   unfold doW
   rw[if_neg h1,if_neg h2,if_neg h3,if_neg h4,if_neg h5,if_neg h6,if_neg h7]
  rw[e0]
  refine cW ?_
  conv=>whnf
  refine g 0 2 []<|J Zcw ?_
  by_cases h8:(1:Int)≤Event.a e
  refine g 6 17 [BT,BT,BT,BT,BT,BT,BT]<|J Zav<|W.sq<|g 17 18 []<|J UB<|W.blk<|g 20 21 []<|J UB<|W.cn<|J (noT dO) fun _=>g 19 20 []<|J UB<|W.cn<|J (noT dO) fun _=>g 23 25 []<|J UB<|W.cn<|J (noT dO) fun _=>g 29 31 []<|J UB<|W.cn<|J (noT dO) fun _=>?_
  refine g 37 39 []<|J UB<|W.cn<|J (noT dO) fun _=>g 45 47 []<|J UB<|W.cn<|J (noT dO) fun _=>g 18 59 []<|J UB<|W.cn<|J (noT dO) fun _=>W.skip<|g 5 112 []<|J Zdr<|RT ?_
  rfl
  refine g 6 17 [BF,BF,BF,BF,BF,BF,BF]<|J Zb2<|W.sq<|g 17 18 []<|J UB<|W.blk<|g 20 21 []<|J UB<|W.cn<|J (noT dO) fun _=>g 19 20 []<|J UB<|W.cn<|J (noT dO) fun _=>g 23 25 []<|J UB<|W.cn<|J (noT dO) fun _=>g 29 31 []<|J UB<|W.cn<|J (noT dO) fun _=>?_
  refine g 37 39 []<|J UB<|W.cn<|J (noT dO) fun _=>g 45 47 []<|J UB<|W.cn<|J (noT dO) fun _=>g 18 59 []<|J UB<|W.cn<|J (noT dO) fun _=>W.skip<|g 5 112 []<|J Zdr<|RT ?_
  rfl
theorem Ox(w:World)(e:Event)(h:WorldLim w):F NY [.val (gb w),.val (xH e)] (aM (wDo w e)) [[],[]]:=by
 have cv:=gl w h
 by_cases hv:WorldOk w
 ·rw[decide_eq_true hv]at cv
  have e0:wDo w e = doW w e:=if_pos hv
  rw[e0]
  have hd:=jR hv
  have c1:=o9 w hd
  have c2:=Ig w e hd
  have c3:=o9 (doW w e) (jR (G9 e hv))
  refine Es ?_
  conv=>whnf
  refine g 0 2 []<|J Zcw<|W.sq<|g 5 7 [.call VT [[]]]<|J ⟨I,Zbs,I,I⟩<|W.cn<|J (noT rfl) fun _=>W.skip<|gd 7 14 [[],[.call (aM w) [[]]],[],[.call (aM (doW w e)) [[],[]]],[.call (aM (doW w e)) [[]]],[]] ?_
  conv=>whnf
  refine J ⟨I,Zbs,I,⟨Zdu,I,⟨I,UD,I⟩,UA,AS⟩,Zbs,UQ,I⟩<|J KR<|RT ?_
  rfl
 ·rw[decide_eq_false hv]at cv
  have e0:wDo w e = noWorld:=if_neg hv
  rw[e0]
  refine Es ?_
  conv=>whnf
  refine g 0 2 []<|J Zcw<|W.sq<|g 5 7 [.call VF [[]]]<|J ⟨I,Zbs,I,I⟩<|W.cn<|J (fun _=>(g 7 9 []<|J Zdr (RT ?_))) (noF rfl)
  rfl
end Go.K
end
section
open Go Go.Tm Go.Proofs
namespace Go.K
theorem rq(w:World)(h:DoLim w):F qU [.val (gb w)] (aM w) [[]]:=by
 obtain⟨l1,l2,l3,l4,l5,l6,l7,l8⟩:=h
 have c1:=uA w.plan l2
 have c2:=U9 w.boss l3
 have c3:=dA w.flight OM
 refine re ?_
 conv=>whnf
 refine g 0 0 []<|J Zdu<|gd 6 18 [[],[],[.call (eS w.plan) [[]]],[],[],[.call (aL w.boss) [[]]],[],[],[.call (V.own pkd (List.map bx w.flight)) [[]]],[],[],[],[],[],[]] ?_
 conv=>whnf
 refine J ⟨I,I,Zai,I,I,Za0,I,I,Zai,I,UA,I,UL,I,UA,I⟩<|J KR<|g 18 20 []<|J UC<|g 20 21 []<|J UV<|W.sq<|g 3 4 []<|J UC<|W.blk<|W.lp (fun s (n:Nat)=>⟨[(0,s.s 0),(1,s.s 1),(2,s.s 2),(21,s.s 21),(22,s.s 22),(23,.i n)],[(2,[s.c 2 0,s.c 2 1,s.c 2 2,s.c 2 3,s.c 2 4,s.c 2 5,s.c 2 6,s.c 2 7,s.c 2 8,s.c 2 9,s.c 2 10,s.c 2 11,s.c 2 12,s.c 2 13,s.c 2 14,s.c 2 15,s.c 2 16]),(1,[.own dE (w.plan.tasks.map ay),.t (.s w.key),.t (.i w.boss.workers),.t (.b w.boss.up),.t (.i w.boss.now),.t (.i w.boss.since),.t (.i w.boss.epoch),.t (.i w.boss.given),.own [false] (w.boss.log.safe.map ak),.own [false] (w.boss.log.loose.map ak),.own [false] (w.boss.results.map ak),.own eT (w.boss.jobs.map aV),.own cM (w.boss.seats.map aF),.own cP (w.boss.owed.map aR),.own dp ((w.workers.take n).map ar),.own pkd (w.flight.map bx),.t (.s w.forged)])],[]⟩) (fun(n:Nat)=>n≤w.workers.length) (fun(n:Nat)=>w.workers.length - n) (0) [some 2,some 1] [] ⟨rfl,⟨Zak,rfl,rfl,rfl,rfl,rfl,I⟩,⟨Zde,⟨Zde,I⟩⟩,I⟩ OM ?_
 intro n hn
 by_cases hn2:n < w.workers.length
 ·obtain⟨x,hx⟩:=af hn2
  have hxi:=l5 x (List.mem_of_getElem? hx)
  have c4:=fP x OM
  conv=>whnf
  refine g 0 0 []<|J UA<|W.sq<|W.cn<|J (fun _=>(W.skip (W.sq (W.blk (g 24 27 [.x (ar x)]<|J ⟨Zdg,I,I,UK,I⟩ (rgd [[],[],[],[.call (aC x) [[]]],[],[],[],[]] ?_)))))) (noF SI)
  conv=>whnf
  refine⟨⟨I,I,I,Zda,⟨UK,I⟩,Zdi,I,UA,I⟩,by kernel_rfl,?_⟩
  refine rg [.i ((n:Int) +1)]<|J Zdm ?_
  refine⟨n+1,[some 2,some 1],[],⟨rfl,⟨Zak,rfl,rfl,rfl,rfl,rfl,I⟩,⟨Zde,⟨⟨rfl,⟨rfl,⟨rfl,⟨rfl,⟨rfl,⟨rfl,⟨rfl,⟨rfl,⟨rfl,⟨rfl,⟨rfl,⟨rfl,⟨rfl,⟨rfl,⟨rfl,⟨(congrArg (V.own _) (n9 AS)),Zac⟩⟩⟩⟩⟩⟩⟩⟩⟩⟩⟩⟩⟩⟩⟩⟩,I⟩⟩,I⟩,?_,?_⟩
  rotate_left
  (dsimp only;omega)
  dsimp only
  omega
 ·have e:w.workers.take n = w.workers:=aE OM
  conv=>whnf
  refine g 0 0 []<|J UA<|W.sq<|W.cn<|J (noT SI) fun _=>W.exit<|g 21 36 []<|J Zdr<|RT ?_
  (simp[*];done)
theorem eU(w:World)(k:Int)(h:w.workers.length≤8)(hk:1≤k∧k≤w.workers.length):F iy [.ptr (cellsOf (aM w)),.val (.i k)] (.ptr ⟨0,some (14,(k - 1).toNat,11),0⟩) [cellsOf (aM w),[]]:=by
 obtain⟨x,hx⟩:=af (xs:=w.workers) (n:=(k - 1).toNat) OM
 refine iD ?_
 conv=>whnf
 refine g 0 0 []<|J UA<|W.sq<|g 5 11 [.call (V.b (decide (1≤k∧k≤(↑(List.length (List.map ar w.workers)):Int)))) [[],[],[]]]<|J ⟨I,I,I,I,I,I,⟨UC,I,UU,UA,aa _ _ _⟩,I⟩<|W.cn<|J (fun _=>(g 15 19 [.i (k - 1),.n (Int.toNat (k - 1))]<|J ⟨I,I,I,I,I,wO,Zdo,I,I⟩ (RT ?_))) (noF SI)
 rfl
theorem dR(w:World)(k:Int)(h:w.workers.length≤8)(hk:¬(1≤k∧k≤w.workers.length)):F iy [.ptr (cellsOf (aM w)),.val (.i k)] (.t (.v (.pointer none))) [cellsOf (aM w),[]]:=by
 refine iD ?_
 conv=>whnf
 refine g 0 0 []<|J UA<|W.sq<|g 5 11 [.call (V.b (decide (1≤k∧k≤(↑(List.length (List.map ar w.workers)):Int)))) [[],[],[]]]<|J ⟨I,I,I,I,I,I,⟨UC,I,UU,UA,aa _ _ _⟩,I⟩<|W.cn<|J (noT SI) fun _=>W.skip<|g 0 2 []<|J UA<|RT ?_
 rfl
theorem ru(w:World)(h:WorldOk w):F qV [.ptr (cellsOf (aM w))] (.tup []) [cellsOf (aM (jY w))]:=by
 obtain⟨l1,l2,l3,l4,l5,l6,l7,l8⟩:=jR h
 have hnow:=h.boss.now
 by_cases h0:1000000≤w.boss.now
 ·rw[r6 h0]
  have h1:w.boss.now = 1000000:=by omega
  refine jW ?_
  conv=>whnf
  refine W.sq<|g 6 11 []<|J UF<|W.cn<|J (fun _=>(RT ?_)) (noF tO)
  rfl
 ·rw[L1 h0]
  have c1:=uC w.boss w.plan h.boss l3
  obtain⟨s1,s2,s3⟩:=vQ w.plan l3
  have s4:=EO w.boss w.plan
  rw[nW h.boss]at s1 s2 s3 s4 ⊢
  generalize gQ w.boss w.plan.tasks = L at c1 s1 s2 s3 s4 ⊢
  refine jW ?_
  conv=>whnf
  refine W.sq<|g 6 11 []<|J UF<|W.cn<|J (noT dO) fun _=>W.skip<|gd 11 20 [[],[],[],[],[],[],[],[.call (V.own cK (List.map aH (Led.out L))) ([cellsOf (aL (Led.boss L)),[]])],[]] ?_
  conv=>whnf
  refine J ⟨I,I,I,I,I,I,I,Zbz,I,I⟩<|J KR<|W.sq<|g 20 23 []<|J UF<|W.blk<|W.lp (fun s (n:Nat)=>⟨[(0,s.s 0),(2,.ref ⟨2,none,0⟩),(23,s.s 23),(24,s.s 24),(25,.i n)],[(2,[.own cK ((L.out++io w.plan w.workers n).map aH)]),(62,[.own dE (w.plan.tasks.map ay),.t (.s w.key),.t (.i L.boss.workers),.t (.b L.boss.up),.t (.i L.boss.now),.t (.i L.boss.since),.t (.i L.boss.epoch),.t (.i L.boss.given),.own [false] (L.boss.log.safe.map ak),.own [false] (L.boss.log.loose.map ak),.own [false] (L.boss.results.map ak),.own eT (L.boss.jobs.map aV),.own cM (L.boss.seats.map aF),.own cP (L.boss.owed.map aR),.own dp ((fR (fun x=>(fu x w.plan).worker) w.workers n).map ar),.own pkd (w.flight.map bx),.t (.s w.forged)])],[]⟩) (fun(n:Nat)=>n≤w.workers.length) (fun(n:Nat)=>w.workers.length - n) (0) [some 19,some 62] [] ⟨rfl,Zbd,⟨⟨rfl,⟨(congrArg (V.own _) (by rw[AE,List.append_nil])),I⟩⟩,⟨Zde,I⟩⟩,I⟩ OM ?_
  intro n hn
  have hl:=iB (fun x=>(fu x w.plan).worker) w.workers n
  have ha:=JM w.plan w.workers n
  by_cases hn2:n < w.workers.length
  ·obtain⟨x,hx⟩:=af hn2
   have hxi:=l5 x (List.mem_of_getElem? hx)
   have hwk:=(h.crew n x hn2 hx).ok
   have c4:=pP x w.plan hwk h.plan
   rw[←d9 hwk h.plan]at c4
   have e1:=lC (f:=fun x=>(fu x w.plan).worker) (g:=ar) hx
   have e2:(L.out++io w.plan w.workers n).map aH++ (fu x w.plan).out.map aH = (L.out++io w.plan w.workers (n+1)).map aH:=by rw[←AG hx,←List.map_append,List.append_assoc]
   have hxo:=(nZ x w.plan).1
   generalize fu x w.plan = A at c4 e1 e2 hxo
   conv=>whnf
   refine g 0 0 []<|J UA<|W.sq<|W.cn<|J (fun _=>(W.skip (W.sq (W.blk (g 26 30 [.n (n),.x (ar x),.x (ar x)]<|J ⟨I,Zdf,bp AS,I,I,⟨I,I,I,I,I,I,I,I,bp AS,I,I,I⟩,I⟩ (gd 30 36 [[],[],[],[],[],[.call (pm A) [[],[]]],[],[]] ?_)))))) (noF SI)
   conv=>whnf
   refine⟨⟨I,I,I,I,I,⟨Zd6,I,UV,UA,AS⟩,I,UL,I⟩,by kernel_rfl,?_⟩
   refine gd 36 44 [[],[],[],[],[],[],[],[.n (n)],[.x (List.set (ar x) (0+1+1+1+1+1+1+1+1) T.hole)]] ?_
   conv=>whnf
   refine J ⟨I,I,I,I,I,I,I,Zdf,⟨UK,bR LN⟩,I⟩<|J KR ?_
   rw[List.set_set]
   refine rg []<|J ⟨I,I,I,Zdi,I,I⟩<|rg [.i ((n:Int) +1)]<|J Zdm ?_
   refine⟨n+1,[some 47,some 62],[],⟨rfl,Zbd,⟨⟨rfl,⟨(congrArg (V.own _) (e2)),I⟩⟩,⟨⟨rfl,⟨rfl,⟨rfl,⟨rfl,⟨rfl,⟨rfl,⟨rfl,⟨rfl,⟨rfl,⟨rfl,⟨rfl,⟨rfl,⟨rfl,⟨rfl,⟨rfl,⟨(congrArg (V.own _) (e1)),Zac⟩⟩⟩⟩⟩⟩⟩⟩⟩⟩⟩⟩⟩⟩⟩⟩,I⟩⟩,I⟩,?_,?_⟩
   rotate_left
   (dsimp only;omega)
   dsimp only
   omega
  ·obtain rfl:n = w.workers.length:=by omega
   have e:=iC (fun x=>(fu x w.plan).worker) w.workers (Nat.le_refl _)
   have c5:=Il w.flight (L.out++io w.plan w.workers w.workers.length) w.key OM (by rw[List.length_append];omega) (fun m hm=>by
    rcases List.mem_append.1 hm with hm|hm
    ·have:=s3 m hm;omega
    ·rw[JN hm];exact Nat.zero_le _)
   conv=>whnf
   refine g 0 0 []<|J UA<|W.sq<|W.cn<|J (noT SI) fun _=>W.exit<|rgd [[],[],[],[],[],[],[],[],[],[],[.call (V.own pkd (List.map bx (sf w.flight (Led.out L++io w.plan w.workers (List.length w.workers)) w.key))) [[],[],[]]],[],[],[]] ?_
   conv=>whnf
   refine J ⟨I,I,I,I,I,I,I,I,I,I,⟨UC,I,UU,UA,AS⟩,I,I,UA,I⟩<|J KR<|EndsW.nm<|J I<|J ?_ ?_
   rfl
   all_goals (rw[e];try rfl)
theorem pO(w:World)(s:Parcel)(h:WorldOk w)(hs:ParOk s):F ja [.ptr (cellsOf (aM w)),.val (KO s.kind s.frm s.text)] (.tup []) [cellsOf (aM (cH w s)),[]]:=by
 obtain⟨l1,l2,l3,l4,l5,l6,l7,l8⟩:=jR h
 obtain⟨⟨p1,p2⟩,p3,p4⟩:=hs
 have c4:=pR s.text w.key OM
 cases hm:ef s.text w.key with
 |none =>
  rw[hm]at c4
  rw[ER hm]
  refine br ?_
  conv=>whnf
  refine g 1 2 []<|J ⟨UC,I⟩<|gd 7 17 [[],[],[],[],[],[],[.call (fQ none) [[],[]]],[],[],[],[],[],[]] ?_
  conv=>whnf
  refine J Zdt<|J KR<|W.sq<|g 17 18 []<|J UB<|W.cn<|J (fun _=>(RT ?_)) (noF rfl)
  rfl
 |some m =>
  rw[hm]at c4
  have hmi:=(de (IZ hm)).1
  have cases3:∀ g:ByteArray,Af w s = g→((s.text = s.frm∧g = w.forged)∨(¬s.text = s.frm∧¬w.forged = emp∧g = w.forged)∨(¬s.text = s.frm∧w.forged = emp∧g = s.text)):=fun g e=>by
   by_cases q1:s.text = s.frm
   ·exact .inl ⟨q1,by rw[←e,Jr q1]⟩
   ·by_cases q2:w.forged = emp
    ·exact .inr (.inr ⟨q1,q2,by rw[←e,My q1 q2]⟩)
    ·exact .inr (.inl ⟨q1,q2,by rw[←e,Js q2]⟩)
  by_cases h0:s.kind = 0
  ·rw[vS hm h0]
   have c5:=uD w.boss w.plan m h.boss l3 OM
   rw[nX h.boss]
   show F _ _ _ [cellsOf (aM ⟨w.plan,w.key,gR w.boss w.plan.tasks m,w.workers,w.flight,_⟩),_]
   generalize gR w.boss w.plan.tasks m = L at c5 ⊢
   generalize hgg:Af w s = g
   rcases cases3 g hgg with⟨q1,rfl⟩|⟨q1,q2,rfl⟩|⟨q1,q2,rfl⟩
   ·refine br ?_
    conv=>whnf
    refine g 1 2 []<|J ⟨UC,I⟩<|gd 7 17 [[],[],[],[],[],[],[.call (fQ (some m)) [[],[]]],[],[],[],[],[],[]] ?_
    conv=>whnf
    refine J Zdt<|J KR<|W.sq<|g 17 18 []<|J UB<|W.cn<|J (noT rfl) fun _=>W.skip<|W.sq<|g 5 30 [BF,BF,BF,BF,BF,BF]<|J ⟨I,I,I,I,I,I,nO,nO,nO,nO,nO,nO,I⟩<|W.cn<|J (noT rfl) fun _=>W.skip<|g 30 38 []<|J UC<|W.cn<|J (fun _=>(rgd [[],[],[],[],[],[],[],[],[.call (V.tup []) ([cellsOf (aL L),[],[]])]] ?_)) (noF tO)
    conv=>whnf
    refine⟨⟨I,I,I,I,I,I,I,I,⟨UC,I,⟨I,UA,UH,I⟩,UA,AS⟩,I⟩,by kernel_rfl,?_⟩
    refine EndsW.nm<|J I (J ?_ rfl)
    rfl
   ·refine br ?_
    conv=>whnf
    refine g 1 2 []<|J ⟨UC,I⟩<|gd 7 17 [[],[],[],[],[],[],[.call (fQ (some m)) [[],[]]],[],[],[],[],[],[]] ?_
    conv=>whnf
    refine J Zdt<|J KR<|W.sq<|g 17 18 []<|J UB<|W.cn<|J (noT rfl) fun _=>W.skip<|W.sq<|g 5 30 [BT,BT,BT,BT,BT,BT]<|J Zd1<|W.cn<|J (noT dO) fun _=>W.skip<|g 30 38 []<|J UC<|W.cn<|J (fun _=>(rgd [[],[],[],[],[],[],[],[],[.call (V.tup []) ([cellsOf (aL L),[],[]])]] ?_)) (noF tO)
    conv=>whnf
    refine⟨⟨I,I,I,I,I,I,I,I,⟨UC,I,⟨I,UA,UH,I⟩,UA,AS⟩,I⟩,by kernel_rfl,?_⟩
    refine EndsW.nm<|J I (J ?_ rfl)
    rfl
   ·refine br ?_
    conv=>whnf
    refine g 1 2 []<|J ⟨UC,I⟩<|gd 7 17 [[],[],[],[],[],[],[.call (fQ (some m)) [[],[]]],[],[],[],[],[],[]] ?_
    conv=>whnf
    refine J Zdt<|J KR<|W.sq<|g 17 18 []<|J UB<|W.cn<|J (noT rfl) fun _=>W.skip<|W.sq<|g 5 30 [BT,BT,BT,BT,BT,BT]<|J Zd1<|W.cn<|J (fun _=>(rg []<|J ⟨I,I,I,I,I,UA,I⟩ (g 30 38 []<|J UC (W.cn<|J (fun _=>(rgd [[],[],[],[],[],[],[],[],[.call (V.tup []) ([cellsOf (aL L),[],[]])]] ?_)) (noF tO))))) (noF tO)
    conv=>whnf
    refine⟨⟨I,I,I,I,I,I,I,I,⟨UC,I,⟨I,UA,UH,I⟩,UA,AS⟩,I⟩,by kernel_rfl,?_⟩
    refine EndsW.nm<|J I (J ?_ rfl)
    rfl
  ·by_cases h1:s.kind≤w.workers.length
   ·obtain⟨x,hx⟩:=af (xs:=w.workers) (n:=(s.kind - 1).toNat) OM
    rw[vR hm h0 ⟨by omega,h1⟩ hx]
    have hwk:=(h.crew _ x OM hx).ok
    have hxi:=l5 x (List.mem_of_getElem? hx)
    have c5:=pQ x w.plan m hwk h.plan OM
    rw[ea hwk h.plan]
    show F _ _ _ [cellsOf (aM ⟨w.plan,w.key,w.boss,w.workers.set _ (jE x w.plan.tasks m),w.flight,_⟩),_]
    generalize jE x w.plan.tasks m = L at c5 ⊢
    have es:=jP (xs:=w.workers) (n:=(s.kind - 1).toNat) (x:=L)
    generalize hgg:Af w s = g
    rcases cases3 g hgg with⟨q1,rfl⟩|⟨q1,q2,rfl⟩|⟨q1,q2,rfl⟩
    ·have cw:=eU w s.kind l4 ⟨by omega,h1⟩
     refine br ?_
     conv=>whnf
     refine g 1 2 []<|J ⟨UC,I⟩<|gd 7 17 [[],[],[],[],[],[],[.call (fQ (some m)) [[],[]]],[],[],[],[],[],[]] ?_
     conv=>whnf
     refine J Zdt<|J KR<|W.sq<|g 17 18 []<|J UB<|W.cn<|J (noT rfl) fun _=>W.skip<|W.sq<|g 5 30 [BF,BF,BF,BF,BF,BF]<|J ⟨I,I,I,I,I,I,nO,nO,nO,nO,nO,nO,I⟩<|W.cn<|J (noT rfl) fun _=>W.skip<|g 30 38 []<|J UC<|W.cn<|J (noT dO) fun _=>g 38 52 [.call (V.ptr {root:=0,step:=some (14,Int.toNat (s.kind - 1),11),off:=0:Tm.Place}) ([cellsOf (aM w),[]])]<|J Zeg ?_
     refine g 3 4 []<|J UB<|W.cn<|J (fun _=>(rgd [[],[],[],[.x (ar x)],[],[],[],[],[],[.x (ar x),.call (aC L) [[],[],[]]],[],[.x (List.set (ar x) (0+1+1+1+1+1+1+1+1) T.hole)]] ?_)) (noF rfl)
     conv=>whnf
     refine⟨⟨I,I,I,xA,I,I,I,I,I,⟨⟨Zcn,I,I,I⟩,I,⟨I,UA,UH,I⟩,UA,AS⟩,I,⟨UK,bR LN⟩,I⟩,by kernel_rfl,?_⟩
     refine EndsW.nm<|J I<|J ?_ ?_
     rfl
     rw[List.set_set]
     exact jC w.plan w.key w.boss w.workers (s.kind - 1).toNat L w.flight w.forged [[]]
    ·have cw:=eU w s.kind l4 ⟨by omega,h1⟩
     refine br ?_
     conv=>whnf
     refine g 1 2 []<|J ⟨UC,I⟩<|gd 7 17 [[],[],[],[],[],[],[.call (fQ (some m)) [[],[]]],[],[],[],[],[],[]] ?_
     conv=>whnf
     refine J Zdt<|J KR<|W.sq<|g 17 18 []<|J UB<|W.cn<|J (noT rfl) fun _=>W.skip<|W.sq<|g 5 30 [BT,BT,BT,BT,BT,BT]<|J Zd1<|W.cn<|J (noT dO) fun _=>W.skip<|g 30 38 []<|J UC<|W.cn<|J (noT dO) fun _=>g 38 52 [.call (V.ptr {root:=0,step:=some (14,Int.toNat (s.kind - 1),11),off:=0:Tm.Place}) ([cellsOf (aM w),[]])]<|J Zeg ?_
     refine g 3 4 []<|J UB<|W.cn<|J (fun _=>(rgd [[],[],[],[.x (ar x)],[],[],[],[],[],[.x (ar x),.call (aC L) [[],[],[]]],[],[.x (List.set (ar x) (0+1+1+1+1+1+1+1+1) T.hole)]] ?_)) (noF rfl)
     conv=>whnf
     refine⟨⟨I,I,I,xA,I,I,I,I,I,⟨⟨Zcn,I,I,I⟩,I,⟨I,UA,UH,I⟩,UA,AS⟩,I,⟨UK,bR LN⟩,I⟩,by kernel_rfl,?_⟩
     refine EndsW.nm<|J I<|J ?_ ?_
     rfl
     rw[List.set_set]
     exact jC w.plan w.key w.boss w.workers (s.kind - 1).toNat L w.flight w.forged [[]]
    ·have cw:=eU ⟨w.plan,w.key,w.boss,w.workers,w.flight,s.text⟩ s.kind l4 ⟨by omega,h1⟩
     refine br ?_
     conv=>whnf
     refine g 1 2 []<|J ⟨UC,I⟩<|gd 7 17 [[],[],[],[],[],[],[.call (fQ (some m)) [[],[]]],[],[],[],[],[],[]] ?_
     conv=>whnf
     refine J Zdt<|J KR<|W.sq<|g 17 18 []<|J UB<|W.cn<|J (noT rfl) fun _=>W.skip<|W.sq<|g 5 30 [BT,BT,BT,BT,BT,BT]<|J Zd1<|W.cn<|J (fun _=>(rg []<|J ⟨I,I,I,I,I,UA,I⟩ (g 30 38 []<|J UC (W.cn<|J (noT dO) fun _=>(g 38 52 [.call (V.ptr {root:=0,step:=some (14,Int.toNat (s.kind - 1),11),off:=0:Tm.Place}) ([cellsOf (aM {plan:=w.plan,key:=w.key,boss:=w.boss,workers:=w.workers,flight:=w.flight,forged:=s.text:World}),[]])]<|J Zeg ?_))))) (noF tO)
     refine g 3 4 []<|J UB<|W.cn<|J (fun _=>(rgd [[],[],[],[.x (ar x)],[],[],[],[],[],[.x (ar x),.call (aC L) [[],[],[]]],[],[.x (List.set (ar x) (0+1+1+1+1+1+1+1+1) T.hole)]] ?_)) (noF rfl)
     conv=>whnf
     refine⟨⟨I,I,I,xA,I,I,I,I,I,⟨⟨Zcn,I,I,I⟩,I,⟨I,UA,UH,I⟩,UA,AS⟩,I,⟨UK,bR LN⟩,I⟩,by kernel_rfl,?_⟩
     refine EndsW.nm<|J I<|J ?_ ?_
     rfl
     rw[List.set_set]
     exact jC w.plan w.key w.boss w.workers (s.kind - 1).toNat L w.flight s.text [[]]
   ·rw[AA hm h0 (fun q=>h1 q.2)]
    generalize hgg:Af w s = g
    rcases cases3 g hgg with⟨q1,rfl⟩|⟨q1,q2,rfl⟩|⟨q1,q2,rfl⟩
    ·have cw:=dR w s.kind l4 (fun q=>h1 q.2)
     refine br ?_
     conv=>whnf
     refine g 1 2 []<|J ⟨UC,I⟩<|gd 7 17 [[],[],[],[],[],[],[.call (fQ (some m)) [[],[]]],[],[],[],[],[],[]] ?_
     conv=>whnf
     refine J Zdt<|J KR<|W.sq<|g 17 18 []<|J UB<|W.cn<|J (noT rfl) fun _=>W.skip<|W.sq<|g 5 30 [BF,BF,BF,BF,BF,BF]<|J ⟨I,I,I,I,I,I,nO,nO,nO,nO,nO,nO,I⟩<|W.cn<|J (noT rfl) fun _=>W.skip<|g 30 38 []<|J UC<|W.cn<|J (noT dO) fun _=>g 38 52 [.call (V.t (T.v (Value.pointer none))) ([cellsOf (aM w),[]])]<|J Zeg ?_
     refine g 3 4 []<|J UB<|W.cn<|J (noT rfl) fun _=>W.skip<|EndsW.nm<|J I (J ?_ rfl)
     rfl
    ·have cw:=dR w s.kind l4 (fun q=>h1 q.2)
     refine br ?_
     conv=>whnf
     refine g 1 2 []<|J ⟨UC,I⟩<|gd 7 17 [[],[],[],[],[],[],[.call (fQ (some m)) [[],[]]],[],[],[],[],[],[]] ?_
     conv=>whnf
     refine J Zdt<|J KR<|W.sq<|g 17 18 []<|J UB<|W.cn<|J (noT rfl) fun _=>W.skip<|W.sq<|g 5 30 [BT,BT,BT,BT,BT,BT]<|J Zd1<|W.cn<|J (noT dO) fun _=>W.skip<|g 30 38 []<|J UC<|W.cn<|J (noT dO) fun _=>g 38 52 [.call (V.t (T.v (Value.pointer none))) ([cellsOf (aM w),[]])]<|J Zeg ?_
     refine g 3 4 []<|J UB<|W.cn<|J (noT rfl) fun _=>W.skip<|EndsW.nm<|J I (J ?_ rfl)
     rfl
    ·have cw:=dR ⟨w.plan,w.key,w.boss,w.workers,w.flight,s.text⟩ s.kind l4 (fun q=>h1 q.2)
     refine br ?_
     conv=>whnf
     refine g 1 2 []<|J ⟨UC,I⟩<|gd 7 17 [[],[],[],[],[],[],[.call (fQ (some m)) [[],[]]],[],[],[],[],[],[]] ?_
     conv=>whnf
     refine J Zdt<|J KR<|W.sq<|g 17 18 []<|J UB<|W.cn<|J (noT rfl) fun _=>W.skip<|W.sq<|g 5 30 [BT,BT,BT,BT,BT,BT]<|J Zd1<|W.cn<|J (fun _=>(rg []<|J ⟨I,I,I,I,I,UA,I⟩ (g 30 38 []<|J UC (W.cn<|J (noT dO) fun _=>(g 38 52 [.call (V.t (T.v (Value.pointer none))) ([cellsOf (aM {plan:=w.plan,key:=w.key,boss:=w.boss,workers:=w.workers,flight:=w.flight,forged:=s.text:World}),[]])]<|J Zeg ?_))))) (noF tO)
     refine g 3 4 []<|J UB<|W.cn<|J (noT rfl) fun _=>W.skip<|EndsW.nm<|J I (J ?_ rfl)
     rfl
end Go.K
end
section
open Go Go.Tm Go.Proofs
namespace Go.K
theorem xB(w:World)(e:Event)(h:WorldOk w):F wq [.ptr (cellsOf (aM w)),.val (xH e)] (.tup []) [cellsOf (aM (doW w e)),[]]:=by
 have ct:=ru w h
 obtain⟨l1,l2,l3,l4,l5,l6,l7,l8⟩:=jR h
 have c1:=cQ w.flight e.a OM
 have c3:=DG w.flight e.a OM
 have c4:=Im w.flight e.a OM
 have c5:=Io w.flight e.a e.b e.c OM (fun p hp=>by have:=(l7 p hp).bytes;omega)
 have c6:=uF w.boss e.b l3.safe l3.loose
 have c7:=uE w.boss w.plan l1 h.boss.workers (fun s hs=>l3.all s (List.mem_append_left _ hs)) (zR h.boss)
 by_cases h1:e.kind = 1
 ·rw[Yi h1]
  refine bq ?_
  conv=>whnf
  refine g 1 2 []<|J ⟨UD,I⟩<|g 7 8 []<|J UB<|W.blk<|g 10 11 []<|J UB<|W.cn<|J (fun _=>(rg [.call (V.tup []) ([cellsOf (aM (jY w))])]<|J ⟨I,⟨UA,I,UA,UA,AS⟩,I⟩ (EndsW.nm<|J I (J ?_ rfl)))) (noF tO)
  rfl
 by_cases h2:e.kind = 2
 ·rw[Yh h2]
  by_cases ha:w.flight.length≤2000∧0≤e.a∧e.a < w.flight.length
  ·rw[decide_eq_true ha]at c1
   obtain⟨a1,a2,a3⟩:=ha
   obtain⟨s,hs⟩:=af (xs:=w.flight) (n:=e.a.toNat) OM
   rw[EP ⟨a1,a2,a3⟩ hs]
   have hp:=l7 s (List.mem_of_getElem? hs)
   have hw2:WorldOk (dh w (cq w.flight e.a)):=ir h (by have:=zZ w.flight e.a;omega) fun x hx=>l7 x (su hx)
   have cb:=pO (dh w (cq w.flight e.a)) s hw2 hp
   have cb2:F ja [.ptr (cellsOf (aM ⟨w.plan,w.key,w.boss,w.workers,cq w.flight e.a,w.forged⟩)),.val (KO s.kind s.frm s.text)] (.tup []) [cellsOf (aM (cH (dh w (cq w.flight e.a)) s)),[]]:=cb
   clear cb
   generalize cH (dh w (cq w.flight e.a)) s = ww at cb2 ⊢
   refine bq ?_
   conv=>whnf
   refine g 1 2 []<|J ⟨UD,I⟩<|g 7 8 []<|J UB<|W.blk<|g 10 11 []<|J UB<|W.cn<|J (noT dO) fun _=>g 9 10 []<|J UB<|W.cn<|J (fun _=>(gd 8 21 [[],[],[],[],[],[],[.call VT [[],[]]]] ?_)) (noF tO)
   conv=>whnf
   refine⟨⟨I,I,I,I,I,I,Zam,I⟩,by kernel_rfl,?_⟩
   refine W.cn<|J (fun _=>(gd 21 30 [[],[],[],[],[],[],[.n (Int.toNat e.a)],[.x (bw s)],[],[]] ?_)) (noF rfl)
   conv=>whnf
   refine⟨⟨I,I,I,I,I,I,Zdo,xA,I,UC,I⟩,by kernel_rfl,?_⟩
   refine gd 30 40 [[],[],[],[],[],[],[],[.call (V.own pkd (List.map bx (cq w.flight e.a))) [[],[]]],[],[],[]] ?_
   conv=>whnf
   refine J ⟨I,I,I,I,I,I,I,Zam,I,I,UA,I⟩<|J KR<|rg [.call (V.tup []) ([cellsOf (aM ww),[]])]<|J ⟨I,I,⟨UB,I,Zd5,UA,AS⟩,I⟩<|EndsW.nm<|J I (J ?_ rfl)
   rfl
  ·rw[decide_eq_false ha]at c1
   rw[JE ha]
   refine bq ?_
   conv=>whnf
   refine g 1 2 []<|J ⟨UD,I⟩<|g 7 8 []<|J UB<|W.blk<|g 10 11 []<|J UB<|W.cn<|J (noT dO) fun _=>g 9 10 []<|J UB<|W.cn<|J (fun _=>(gd 8 21 [[],[],[],[],[],[],[.call VF [[],[]]]] ?_)) (noF tO)
   conv=>whnf
   refine⟨⟨I,I,I,I,I,I,Zam,I⟩,by kernel_rfl,?_⟩
   refine W.cn<|J (noT rfl) fun _=>W.skip<|EndsW.nm<|J I (J ?_ rfl)
   rfl
 by_cases h3:e.kind = 3
 ·rw[Yg h3]
  refine bq ?_
  conv=>whnf
  refine g 1 2 []<|J ⟨UD,I⟩<|g 7 8 []<|J UB<|W.blk<|g 10 11 []<|J UB<|W.cn<|J (noT dO) fun _=>g 9 10 []<|J UB<|W.cn<|J (noT dO) fun _=>g 13 15 []<|J UB<|W.cn<|J (fun _=>(rgd [[],[],[],[],[],[],[],[.call (V.own pkd (List.map bx (qB w.flight e.a))) [[],[]]],[],[],[]] ?_)) (noF tO)
  conv=>whnf
  refine⟨⟨I,I,I,I,I,I,I,Zam,I,I,UA,I⟩,by kernel_rfl,?_⟩
  refine EndsW.nm<|J I (J ?_ rfl)
  rfl
 by_cases h4:e.kind = 4
 ·rw[Yf h4]
  refine bq ?_
  conv=>whnf
  refine g 1 2 []<|J ⟨UD,I⟩<|g 7 8 []<|J UB<|W.blk<|g 10 11 []<|J UB<|W.cn<|J (noT dO) fun _=>g 9 10 []<|J UB<|W.cn<|J (noT dO) fun _=>g 13 15 []<|J UB<|W.cn<|J (noT dO) fun _=>g 43 45 []<|J UB<|W.cn<|J (fun _=>(rgd [[],[],[],[],[],[],[],[.call (V.own pkd (List.map bx (cq w.flight e.a))) [[],[]]],[],[],[]] ?_)) (noF tO)
  conv=>whnf
  refine⟨⟨I,I,I,I,I,I,I,Zam,I,I,UA,I⟩,by kernel_rfl,?_⟩
  refine EndsW.nm<|J I (J ?_ rfl)
  rfl
 by_cases h5:e.kind = 5
 ·rw[Ye h5]
  refine bq ?_
  conv=>whnf
  refine g 1 2 []<|J ⟨UD,I⟩<|g 7 8 []<|J UB<|W.blk<|g 10 11 []<|J UB<|W.cn<|J (noT dO) fun _=>g 9 10 []<|J UB<|W.cn<|J (noT dO) fun _=>g 13 15 []<|J UB<|W.cn<|J (noT dO) fun _=>g 43 45 []<|J UB<|W.cn<|J (noT dO) fun _=>g 55 57 []<|J UB ?_
  refine W.cn<|J (fun _=>(rgd [[],[],[],[],[],[],[],[],[],[],[],[.call (V.own pkd (List.map bx (qG w.flight e.a e.b e.c))) [[],[],[],[]]],[],[],[]] ?_)) (noF tO)
  conv=>whnf
  refine⟨⟨I,I,I,I,I,I,I,I,I,I,I,⟨UD,I,Zc8,UA,AS⟩,I,I,UA,I⟩,by kernel_rfl,?_⟩
  refine EndsW.nm<|J I (J ?_ rfl)
  rfl
 by_cases h6:e.kind = 6
 ·by_cases ha:e.a = 0
  ·rw[Wl h6 ha,Be h.boss]
   generalize j8 w.boss e.b = B at c6 ⊢
   refine bq ?_
   conv=>whnf
   refine g 1 2 []<|J ⟨UD,I⟩<|g 7 8 []<|J UB<|W.blk<|g 10 11 []<|J UB<|W.cn<|J (noT dO) fun _=>g 9 10 []<|J UB<|W.cn<|J (noT dO) fun _=>g 13 15 []<|J UB<|W.cn<|J (noT dO) fun _=>g 43 45 []<|J UB<|W.cn<|J (noT dO) fun _=>g 55 57 []<|J UB ?_
   refine W.cn<|J (noT dO) fun _=>g 67 69 []<|J UB<|W.cn<|J (fun _=>(g 8 87 []<|J UC (W.cn<|J (fun _=>(rgd [[],[],[],[],[],[.call (V.tup []) ([cellsOf (aL B),[]])]] ?_)) (noF tO)))) (noF tO)
   conv=>whnf
   refine⟨⟨I,I,I,I,I,Zbz,I⟩,by kernel_rfl,?_⟩
   refine EndsW.nm<|J I (J ?_ rfl)
   rfl
  ·by_cases hx:1≤e.a∧e.a≤w.workers.length
   ·have cw:=eU w e.a l4 hx
    obtain⟨x1,x2⟩:=hx
    obtain⟨x,hx⟩:=af (xs:=w.workers) (n:=(e.a - 1).toNat) OM
    rw[Wj h6 ⟨x1,x2⟩ hx]
    have hxi:=l5 x (List.mem_of_getElem? hx)
    have c8:=rx x OM
    generalize n4 x = y at c8 ⊢
    have es:=jP (xs:=w.workers) (n:=(e.a - 1).toNat) (x:=y)
    refine bq ?_
    conv=>whnf
    refine g 1 2 []<|J ⟨UD,I⟩<|g 7 8 []<|J UB<|W.blk<|g 10 11 []<|J UB<|W.cn<|J (noT dO) fun _=>g 9 10 []<|J UB<|W.cn<|J (noT dO) fun _=>g 13 15 []<|J UB<|W.cn<|J (noT dO) fun _=>g 43 45 []<|J UB<|W.cn<|J (noT dO) fun _=>g 55 57 []<|J UB ?_
    refine W.cn<|J (noT dO) fun _=>g 67 69 []<|J UB<|W.cn<|J (fun _=>(g 8 87 []<|J UC (W.cn<|J (noT dO) fun _=>(g 87 98 [.call (V.ptr {root:=0,step:=some (14,Int.toNat (e.a - 1),11),off:=0:Tm.Place}) ([cellsOf (aM w),[]])]<|J Zeg (g 0 4 []<|J UB (W.cn<|J (fun _=>(rg [.x (ar x),.x (ar x),.call (aC y) [[]],.x (ar x)]<|J ⟨I,I,I,xA,⟨UA,I,⟨Zcn,I⟩,UA,AS⟩,I,⟨UK,xA⟩,I⟩ (EndsW.nm<|J I<|J ?_ ?_))) (noF rfl))))))) (noF tO)
    rfl
    exact jC w.plan w.key w.boss w.workers (e.a - 1).toNat y w.flight w.forged [[]]
   ·have cw:=dR w e.a l4 hx
    rw[Wk h6 ha hx]
    refine bq ?_
    conv=>whnf
    refine g 1 2 []<|J ⟨UD,I⟩<|g 7 8 []<|J UB<|W.blk<|g 10 11 []<|J UB<|W.cn<|J (noT dO) fun _=>g 9 10 []<|J UB<|W.cn<|J (noT dO) fun _=>g 13 15 []<|J UB<|W.cn<|J (noT dO) fun _=>g 43 45 []<|J UB<|W.cn<|J (noT dO) fun _=>g 55 57 []<|J UB ?_
    refine W.cn<|J (noT dO) fun _=>g 67 69 []<|J UB<|W.cn<|J (fun _=>(g 8 87 []<|J UC (W.cn<|J (noT dO) fun _=>(g 87 98 [.call (V.t (T.v (Value.pointer none))) ([cellsOf (aM w),[]])]<|J Zeg (g 0 4 []<|J UB (W.cn<|J (noT rfl) fun _=>(W.skip (EndsW.nm<|J I (J ?_ rfl))))))))) (noF tO)
    rfl
 by_cases h7:e.kind = 7
 ·by_cases ha:e.a = 0
  ·rw[Wi h7 ha,sE h.boss]
   generalize cN w.boss w.plan = B at c7 ⊢
   refine bq ?_
   conv=>whnf
   refine g 1 2 []<|J ⟨UD,I⟩<|g 7 8 []<|J UB<|W.blk<|g 10 11 []<|J UB<|W.cn<|J (noT dO) fun _=>g 9 10 []<|J UB<|W.cn<|J (noT dO) fun _=>g 13 15 []<|J UB<|W.cn<|J (noT dO) fun _=>g 43 45 []<|J UB<|W.cn<|J (noT dO) fun _=>g 55 57 []<|J UB ?_
   refine W.cn<|J (noT dO) fun _=>g 67 69 []<|J UB<|W.cn<|J (noT dO) fun _=>g 8 85 []<|J UB<|W.cn<|J (fun _=>(g 106 110 []<|J UC (W.cn<|J (fun _=>(rgd [[],[],[],[],[],[],[],[.call (V.tup []) ([cellsOf (aL B),[]])]] ?_)) (noF tO)))) (noF tO)
   conv=>whnf
   refine⟨⟨I,I,I,I,I,I,I,Zbz,I⟩,by kernel_rfl,?_⟩
   refine EndsW.nm<|J I (J ?_ rfl)
   rfl
  ·by_cases hx:1≤e.a∧e.a≤w.workers.length
   ·have cw:=eU w e.a l4 hx
    obtain⟨x1,x2⟩:=hx
    obtain⟨x,hx⟩:=af (xs:=w.workers) (n:=(e.a - 1).toNat) OM
    rw[Wg h7 ⟨x1,x2⟩ hx]
    have hxi:=l5 x (List.mem_of_getElem? hx)
    have c8:=rv x OM
    generalize ll x = y at c8 ⊢
    have es:=jP (xs:=w.workers) (n:=(e.a - 1).toNat) (x:=y)
    refine bq ?_
    conv=>whnf
    refine g 1 2 []<|J ⟨UD,I⟩<|g 7 8 []<|J UB<|W.blk<|g 10 11 []<|J UB<|W.cn<|J (noT dO) fun _=>g 9 10 []<|J UB<|W.cn<|J (noT dO) fun _=>g 13 15 []<|J UB<|W.cn<|J (noT dO) fun _=>g 43 45 []<|J UB<|W.cn<|J (noT dO) fun _=>g 55 57 []<|J UB ?_
    refine W.cn<|J (noT dO) fun _=>g 67 69 []<|J UB<|W.cn<|J (noT dO) fun _=>g 8 85 []<|J UB<|W.cn<|J (fun _=>(g 106 110 []<|J UC (W.cn<|J (noT dO) fun _=>(g 110 123 [.call (V.ptr {root:=0,step:=some (14,Int.toNat (e.a - 1),11),off:=0:Tm.Place}) ([cellsOf (aM w),[]])]<|J Zeg (g 0 4 []<|J UB (W.cn<|J (fun _=>(rg [.x (ar x),.x (ar x),.call (aC y) [[]],.x (ar x)]<|J ⟨I,I,I,xA,⟨UA,I,⟨Zcn,I⟩,UA,AS⟩,I,⟨UK,xA⟩,I⟩ (EndsW.nm<|J I<|J ?_ ?_))) (noF rfl))))))) (noF tO)
    rfl
    exact jC w.plan w.key w.boss w.workers (e.a - 1).toNat y w.flight w.forged [[]]
   ·have cw:=dR w e.a l4 hx
    rw[Wh h7 ha hx]
    refine bq ?_
    conv=>whnf
    refine g 1 2 []<|J ⟨UD,I⟩<|g 7 8 []<|J UB<|W.blk<|g 10 11 []<|J UB<|W.cn<|J (noT dO) fun _=>g 9 10 []<|J UB<|W.cn<|J (noT dO) fun _=>g 13 15 []<|J UB<|W.cn<|J (noT dO) fun _=>g 43 45 []<|J UB<|W.cn<|J (noT dO) fun _=>g 55 57 []<|J UB ?_
    refine W.cn<|J (noT dO) fun _=>g 67 69 []<|J UB<|W.cn<|J (noT dO) fun _=>g 8 85 []<|J UB<|W.cn<|J (fun _=>(g 106 110 []<|J UC (W.cn<|J (noT dO) fun _=>(g 110 123 [.call (V.t (T.v (Value.pointer none))) ([cellsOf (aM w),[]])]<|J Zeg (g 0 4 []<|J UB (W.cn<|J (noT rfl) fun _=>(W.skip (EndsW.nm<|J I (J ?_ rfl))))))))) (noF tO)
    rfl
 ·have e0:doW w e = w:=by
   unfold doW
   rw[if_neg h1,if_neg h2,if_neg h3,if_neg h4,if_neg h5,if_neg h6,if_neg h7]
  rw[e0]
  refine bq ?_
  conv=>whnf
  refine g 1 2 []<|J ⟨UD,I⟩<|g 7 8 []<|J UB<|W.blk<|g 10 11 []<|J UB<|W.cn<|J (noT dO) fun _=>g 9 10 []<|J UB<|W.cn<|J (noT dO) fun _=>g 13 15 []<|J UB<|W.cn<|J (noT dO) fun _=>g 43 45 []<|J UB<|W.cn<|J (noT dO) fun _=>g 55 57 []<|J UB ?_
  refine W.cn<|J (noT dO) fun _=>g 67 69 []<|J UB<|W.cn<|J (noT dO) fun _=>g 8 85 []<|J UB<|W.cn<|J (noT dO) fun _=>W.skip<|EndsW.nm<|J I (J ?_ rfl)
  rfl
theorem Oy(w:World)(e:Event)(h:WorldLim w):F NZ [.val (gb w),.val (xH e)] (aM (wDo w e)) [[],[]]:=by
 have cv:=gm w h
 by_cases hv:WorldOk w
 ·rw[decide_eq_true hv]at cv
  have e0:wDo w e = doW w e:=if_pos hv
  rw[e0]
  have hd:=jR hv
  have c1:=rq w hd
  have c2:=xB w e hv
  generalize doW w e = ww at c2 ⊢
  refine Et ?_
  conv=>whnf
  refine g 0 2 []<|J Zcw<|W.sq<|g 5 7 [.call VT [[]]]<|J ⟨I,Zbs,I,I⟩<|W.cn<|J (noT rfl) fun _=>W.skip<|g 7 11 [.call (aM w) [[]]]<|J ⟨I,Zbs,UQ,I⟩<|g 11 13 [.call (V.tup []) ([cellsOf (aM ww),[]])]<|J ⟨I,⟨UB,I,⟨I,UD,I⟩,UA,AS⟩,I⟩<|g 2 4 []<|J Zdr<|RT ?_
  rfl
 ·rw[decide_eq_false hv]at cv
  have e0:wDo w e = noWorld:=if_neg hv
  rw[e0]
  refine Et ?_
  conv=>whnf
  refine g 0 2 []<|J Zcw<|W.sq<|g 5 7 [.call VF [[]]]<|J ⟨I,Zbs,I,I⟩<|W.cn<|J (fun _=>(g 7 9 []<|J Zdr (RT ?_))) (noF rfl)
  rfl
end Go.K
end
section
open Go Go.Tm Go.Proofs
namespace Go.K
theorem Qg{n:Nat}{x:List T}(h:wfT E (n+2) Bl x):∃ v:Event,x = WS v∧MJ v:=by
 obtain⟨y0,z0,e0,⟨kind,rfl,_⟩,y1,z1,e1,⟨a,rfl,_⟩,y2,z2,e2,⟨b,rfl,_⟩,y3,z3,e3,⟨c,rfl,_⟩,e4⟩:=h
 subst e4
 subst e3
 subst e2
 subst e1
 subst e0
 exact⟨⟨kind,a,b,c⟩,rfl,trivial⟩
theorem jn(x:Event):F yb [.val (xH x)] (G5 x) [[]]:=by
 refine yx ?_
 conv=>whnf
 refine g 0 1 []<|J ⟨UD,I,I⟩<|g 0 0 []<|J UA<|g 4 7 []<|J UW<|g 7 10 []<|J UW<|g 10 13 []<|J UW<|g 13 16 []<|J UW<|g 3 17 []<|J ⟨I,UD,I⟩<|RT ?_
 rfl
theorem D5:∀ {l:List Task},(∀ t∈l,t.deps.length≤64)→aj cE l≤66 * (l.length:Int)
 |[],_=>by simp[aj]
 |x :: l,h=>by
  have h1:=D5 (l:=l) fun m hm=>h m (List.mem_cons_of_mem _ hm)
  have h2:=h x (List.mem_cons_self ..)
  simp only[aj,cE,List.length_cons];omega
theorem D4:∀ {l:List Worker},(∀ t∈l,t.inputs.length≤1048576)→aj ai l≤1048586 * (l.length:Int)
 |[],_=>by simp[aj]
 |x :: l,h=>by
  have h1:=D4 (l:=l) fun m hm=>h m (List.mem_cons_of_mem _ hm)
  have h2:=h x (List.mem_cons_self ..)
  simp only[aj,ai,List.length_cons];omega
theorem zw:∀ (l:List Worker),aj ai l≤10 * (l.length:Int) +aj aQ l
 |[]=>by simp[aj]
 |x :: l=>by
  have h1:=zw l
  have h2:aQ x = (x.inputs.length+bP x.inputs) +x.text.size:=rfl
  have h3:=bi x.inputs
  simp only[aj,ai,List.length_cons];omega
theorem AX:∀ (l:List Parcel),aj aP l = 3 * (l.length:Int)
 |[]=>by simp[aj]
 |x :: l=>by
  have h1:=AX l
  simp only[aj,aP,List.length_cons];omega
abbrev DX(x:World):Prop:=x.plan.tasks.length≤9223372036854775806∧x.boss.log.safe.length≤9223372036854775806∧x.boss.log.loose.length≤9223372036854775806∧x.boss.results.length≤9223372036854775806∧x.boss.jobs.length≤9223372036854775806∧x.boss.seats.length≤9223372036854775806∧x.boss.owed.length≤9223372036854775806∧x.workers.length≤9223372036854775806∧x.flight.length≤9223372036854775806
theorem H3{x:World}(h:Ln x):jO x∧DX x∧0≤bD x∧bD x≤200000000:=by
 obtain⟨l1,l2,l3,l4,l5,l6,l7,l8⟩:=K4 h
 obtain⟨⟨c1,c2,c3,c4,c5,c6⟩,_,b3,b4⟩:=ml (lx l3)
 have e:bD x = bb x.plan+bo x.boss+aj ai x.workers+aj aP x.flight:=rfl
 have e2:bb x.plan = aj cE x.plan.tasks:=rfl
 have h1:=D5 (l:=x.plan.tasks) fun t ht=>(l2.2 t ht).2
 have h2:=ik x.plan
 have h3:=D4 (l:=x.workers) fun t ht=>by have:=l5 t ht;omega
 have h4:=AX x.flight
 have h5:=aI cZ x.workers
 have h6:=l2.1
 have hp:x.plan.tasks.length≤9223372036854775806:=by omega
 have hf:x.flight.length≤9223372036854775806:=by omega
 have hw:x.workers.length≤9223372036854775806:=by omega
 refine⟨⟨hp,fun t ht=>by have:=(l2.2 t ht).2;show t.deps.length≤_;omega,c1,c2,c3,c4,c5,c6,hw,fun y hy=>by have:=l5 y hy;show y.inputs.length≤_;omega,hf⟩,⟨hp,c1,c2,c3,c4,c5,c6,hw,hf⟩,by omega,?_⟩
 have h7:aj ai x.workers≤8388688:=by omega
 omega
theorem NC{w:World}(h:eO w≤1048576):DX w∧0≤bD w∧bD w≤400000000:=by
 have e:eO w = aJ w.plan+ (w.key.size:Int) +bI w.boss+ ((w.workers.length:Int) +aj aQ w.workers) + ((w.flight.length:Int) +aj eB w.flight) + (w.forged.size:Int):=rfl
 have h1:=lz w.plan
 have h2:=jz w.boss
 have h3:=aI b9 w.workers
 have h4:=aI ge w.flight
 obtain⟨p1,p2⟩:=QB (p:=w.plan) OM
 obtain⟨⟨c1,c2,c3,c4,c5,c6⟩,_,b3,b4⟩:=ml (lx (JF (b:=w.boss) OM))
 have h5:=zw w.workers
 have h6:=AX w.flight
 have h7:=aI cZ w.workers
 have h8:=ik w.plan
 have e2:bD w = bb w.plan+bo w.boss+aj ai w.workers+aj aP w.flight:=rfl
 exact⟨⟨by omega,c1,c2,c3,c4,c5,c6,by omega,by omega⟩,by omega,by omega⟩
theorem QP(w:World)(e:Event):Ln (wDo w e):=by
 unfold wDo;split
 ·rename_i h;exact .inl (G9 e h)
 ·exact .inr rfl
theorem HM(w:World)(hw:zl w)(e:Event)(he:MJ e):F tl [.val (gb w),.val (xH e)] (.b true) [[],[]]:=by
 have c0:=yY w 1048576 hw OM OM
 have hbn:=Kf w
 by_cases hq:(1048576:Int) - eO w < 0
 ·rw[if_pos hq]at c0
  refine kZ ?_
  conv=>whnf
  refine g 0 2 []<|J Zcw<|g 0 0 []<|J UA<|g 13 16 [.call (V.i (-1)) [[],[]]]<|J ⟨I,I,⟨UB,I,⟨UQ,UA,I⟩,UA,AS⟩,I,I⟩<|W.sq<|g 5 17 []<|J UB<|W.cn<|J (fun _=>(g 17 18 []<|J UA (RT ?_))) (noF rfl)
  rfl
 ·rw[if_neg hq]at c0
  have hl:=Hi (a:=w) OM
  have hlim:=NB hw OM
  obtain⟨q1,q2,q3⟩:=NC (w:=w) OM
  obtain⟨r1,r2,r3,r4⟩:=H3 (QP w e)
  have ca:=Ox w e hlim
  have cb:=Oy w e hlim
  generalize wDo w e = ww at r1 r2 r3 r4 ca cb
  refine kZ ?_
  conv=>whnf
  refine g 0 2 []<|J Zcw<|g 0 0 []<|J UA<|g 13 16 [.call (V.i (1048576 - eO w)) [[],[]]]<|J ⟨I,I,⟨UB,I,⟨UQ,UA,I⟩,UA,AS⟩,I,I⟩<|W.sq<|g 5 17 []<|J UB<|W.cn<|J (noT dO) fun _=>W.skip<|gd 17 23 [[],[.call (aM w) [[]]],[],[.call (G5 e) [[]]],[.call (aM ww) [[],[]]],[],[]] ?_
  conv=>whnf
  refine J ⟨I,⟨UA,I,⟨UQ,I⟩,UA,gt _ OM⟩,I,⟨UA,I,⟨UD,I⟩,UA,jn _⟩,⟨UB,I,⟨UQ,UD,I⟩,UA,AS⟩,I,UQ,I⟩<|J KR<|g 23 25 [.call (aM w) [[]]]<|J ⟨I,⟨UA,I,⟨UQ,I⟩,UA,gt _ OM⟩,I,UQ,I⟩<|gd 25 29 [[],[],[.call (G5 e) [[]]],[.call (aM ww) [[],[]]],[],[]] ?_
  conv=>whnf
  refine J ⟨I,I,⟨UA,I,⟨UD,I⟩,UA,jn _⟩,⟨UB,I,⟨UQ,UD,I⟩,UA,AS⟩,I,UQ,I⟩<|J KR<|W.sq<|g 29 32 [.call (V.b (decide (ww = ww))) [[],[]]]<|J ⟨I,I,⟨UB,I,⟨UQ,UQ,I⟩,UA,gu _ _ OM⟩,I,I⟩<|W.cn<|J (noT (eh rfl)) fun _=>W.skip<|W.sq<|gd 32 37 [[],[],[.call (aM w) [[]]],[.call (V.b (decide (w = w))) [[],[]]],[]] ?_
  conv=>whnf
  refine J ⟨I,I,⟨UA,I,⟨UQ,I⟩,UA,gt _ OM⟩,⟨UB,I,⟨UQ,UQ,I⟩,UA,gu _ _ OM⟩,I,I⟩<|J KR<|W.cn<|J (noT (eh rfl)) fun _=>W.skip<|g 37 38 []<|J UA<|g 38 41 [.call (V.i (1+bD w)) ([cellsOf (aM (rY 1 w)),[]])]<|J ⟨I,I,⟨Zdu,I,UV,UA,lg _ _ OM OM OM⟩,I,I⟩<|W.sq<|g 9 48 [BF,BF,BF,.call (V.b (decide (ww = ww))) [[],[]],BF,BF]<|J ⟨I,I,I,⟨dO,I⟩,⟨dO,I⟩,⟨dO,UB,I,⟨UQ,UQ,I⟩,UA,gu _ _ OM⟩,⟨dO,I⟩,dO,I⟩<|W.cn<|J (noT AS) fun _=>W.skip<|g 7 8 []<|J UA<|g 48 52 [.call (V.i (1+bD ww)) ([cellsOf (aM (rY 1 ww)),[]])]<|J ⟨I,I,⟨Zdu,I,UV,UA,lg _ _ OM OM OM⟩,I,I⟩<|g 0 0 []<|J UA ?_
  refine g 52 55 [.call (V.i (1+bD ww)) [[],[]]]<|J ⟨I,I,⟨UB,I,⟨UQ,UA,I⟩,UA,lh _ _ OM OM OM⟩,I,I⟩<|W.sq<|g 55 56 []<|J UB<|W.cn<|J (noT dO) fun _=>W.skip<|W.sq<|g 56 59 []<|J UC<|W.cn<|J (noT nO) fun _=>W.skip<|gd 59 65 [[],[.call (aM w) [[]]],[],[.call (G5 e) [[]]],[.call (aM ww) [[],[]]],[],[]] ?_
  conv=>whnf
  refine J ⟨I,⟨UA,I,⟨UQ,I⟩,UA,gt _ OM⟩,I,⟨UA,I,⟨UD,I⟩,UA,jn _⟩,⟨UB,I,⟨UQ,UD,I⟩,UA,AS⟩,I,UQ,I⟩<|J KR<|W.sq<|g 12 68 [.call (V.b (decide (ww = ww))) [[],[]]]<|J ⟨I,I,⟨UB,I,⟨UQ,UQ,I⟩,UA,gu _ _ OM⟩,I,I⟩<|W.cn<|J (noT AS) fun _=>W.skip<|g 2 4 []<|J UA<|g 68 72 [.call (V.i (1+bD ww)) [[],[]]]<|J ⟨I,I,⟨UB,I,⟨UQ,UA,I⟩,UA,lh _ _ OM OM OM⟩,I,I⟩<|W.sq<|g 6 9 []<|J UB<|W.cn<|J (noT AS) fun _=>W.skip<|W.sq ?_
  refine g 10 76 []<|J UC<|W.cn<|J (noT AS) fun _=>W.skip<|g 76 77 []<|J UA<|RT ?_
  rfl
end Go.K
end

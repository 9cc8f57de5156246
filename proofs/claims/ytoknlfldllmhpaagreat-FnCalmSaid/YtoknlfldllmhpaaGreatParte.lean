/- Contracts of functions of the program: what each call answers. -/
import Derived.Test.YtoknlfldllmhpaaGreatPartd
set_option maxHeartbeats 8000000
set_option maxRecDepth 20000
set_option linter.unusedVariables false
set_option linter.unusedSimpArgs false
section
open Go Go.Tm Go.Proofs
namespace Go.K
attribute [local irreducible] ByteArray.extract
def ij(q:ByteArray)(n:Nat):ByteArray:=q.extract (8 * n) q.size
theorem BE(q:ByteArray):q = ij q 0:=by unfold ij;rw[Nat.mul_zero,ByteArray.extract_zero_size]
theorem kQ(q:ByteArray)(n:Nat):(ij q n).size = q.size - 8 * n:=by unfold ij;rw[ByteArray.size_extract];omega
theorem Mw{q:ByteArray}{n:Nat}(h:8 * n+8≤q.size):(ij q n).extract 0 8 = q.extract (8 * n) (8 * n+8):=by
 unfold ij;rw[ByteArray.extract_extract,Nat.min_eq_left OM,Nat.add_zero]
theorem BG(q:ByteArray)(n:Nat)(h:8 * n+8≤q.size):(ij q n).extract 8 (ij q n).size = ij q (n+1):=by
 rw[kQ]
 unfold ij;rw[ByteArray.extract_extract,show 8 * n+8 = 8 * (n+1) by omega,show min (8 * n+ (q.size - 8 * n)) q.size = q.size by omega]
theorem Wn{q:ByteArray}{n:Nat}(h:8 * n+8≤q.size):(cM q n).map ah++ [ah ((ij q n).extract 0 8)] = (cM q (n+1)).map ah:=by
 rw[pg,List.map_append,Mw h];rfl
theorem FT{q:ByteArray}{n:Nat}(h:¬8 * n < q.size):ij q n = ⟨#[]⟩:=ByteArray.size_eq_zero_iff.1 (by rw[kQ];omega)
theorem BH{q:ByteArray}{n:Nat}(h:8 * n < q.size):¬ij q n = ⟨#[]⟩:=by
 intro e
 have:=congrArg ByteArray.size e
 rw[kQ]at this
 have h0:(ByteArray.mk #[]).size = 0:=rfl
 omega
def gz(tx:ByteArray):ByteArray:=(bE tx).extract 8 (bE tx).size
theorem mX{tx key:ByteArray}(h0:¬tx.size < 19)(h:¬(bN (rdM (tx.extract 8 tx.size))∧dG (rdM (tx.extract 8 tx.size)) = tx.extract 8 tx.size)):eO tx key = none :=
 if_pos (Or.inr (fun e=>h ⟨((nz h0).1 e).1,((nz h0).1 e).2.2.1⟩))
theorem BM{tx key:ByteArray}{m:Message}(h0:¬tx.size < 19)(hk:key.size≤30)(hs:tx.extract 0 8 = fS (tx.extract 8 tx.size) key)(e:rdM (tx.extract 8 tx.size) = m)(h1:bN m)(h2:dG (rdM (tx.extract 8 tx.size)) = tx.extract 8 tx.size):eO tx key = some m :=
 pX h0 e ((nz h0).2 ⟨h1,hk,e ▸ h2,hs⟩)
theorem rU(tx key:ByteArray)(ht:tx.size≤68719476736):F rE [.val (.s tx),.val (.s key)] (gJ (eO tx key)) O2:=by
 by_cases h0:tx.size < 19
 ·by_cases hk:key.size≤30
  ·refine dp ?_
   conv=>whnf
   refine g 0 0 []<|J UB<|Ws<|gd 9 25 [[],[],[],[],[BF],[BF],[BF],[BF],[],[BT],[BT],[BT],[BT],[BT],[BT],[BT],[BT]] ?_
   conv=>whnf
   refine J QZ<|J KR<|Wc<|Kr (g 25 27 []<|J QZ (RT ?_))
   exact congrArg gJ (oX h0).symm
  ·refine dp ?_
   conv=>whnf
   refine g 0 0 []<|J UB<|Ws<|gd 9 25 [[],[],[],[],[BT],[BT],[BT],[BT],[],[BT],[BT],[BT],[BT],[BT],[BT],[BT],[BT]] ?_
   conv=>whnf
   refine J QZ<|J KR<|Wc<|Kr (g 25 27 []<|J QZ (RT ?_))
   exact congrArg gJ (oX h0).symm
 by_cases hk:¬key.size≤30
 ·have e:eO tx key = none:=if_pos (Or.inr (fun h=>hk ((nz h0).1 h).2.1))
  refine dp ?_
  conv=>whnf
  refine g 0 0 []<|J UB<|Ws<|gd 9 25 [[],[],[],[],[BT],[BT],[BT],[BT],[],[BT],[BT],[BT],[BT],[BT],[BT],[BT],[BT]] ?_
  conv=>whnf
  refine J QZ<|J KR<|Wc<|Kr (g 25 27 []<|J QZ (RT ?_))
  exact congrArg gJ e.symm
 have hx:(tx.extract 8 tx.size).size = tx.size - 8:=by rw[ByteArray.size_extract];omega
 have c1:=pj (tx.extract 8 tx.size) key OM OM
 by_cases hs:¬tx.extract 0 8 = fS (tx.extract 8 tx.size) key
 ·have e:eO tx key = none:=if_pos (Or.inr (fun h=>hs ((nz h0).1 h).2.2.2))
  refine dp ?_
  conv=>whnf
  refine g 0 0 []<|J UB<|Ws<|gd 9 25 [[],[],[],[],[BF],[BF],[BF],[BF],[],[BF],[BF,.n (8),.s (ByteArray.extract tx 0 8)],[BF],[BF,.n (8),.s (ByteArray.extract tx 8 (ByteArray.size tx))],[BF],[BF,.call (V.s (fS (ByteArray.extract tx 8 (ByteArray.size tx)) key)) O2],[BF],[BF]] ?_
  conv=>whnf
  refine J QZ<|J KR<|Wc<|Kn (g 25 27 []<|J QZ (RT ?_))
  exact congrArg gJ e.symm
 obtain⟨y1,hy1,hb1⟩:=bF (s:=tx.extract 8 tx.size) (n:=0) OM
 obtain⟨y2,hy2,hb2⟩:=bF (s:=tx.extract 8 tx.size) (n:=1) OM
 obtain⟨y3,hy3,hb3⟩:=bF (s:=tx.extract 8 tx.size) (n:=2) OM
 obtain⟨y4,hy4,hb4⟩:=bF (s:=tx.extract 8 tx.size) (n:=3) OM
 obtain⟨y5,hy5,hb5⟩:=bF (s:=tx.extract 8 tx.size) (n:=4) OM
 obtain⟨y6,hy6,hb6⟩:=bF (s:=tx.extract 8 tx.size) (n:=5) OM
 obtain⟨y7,hy7,hb7⟩:=bF (s:=tx.extract 8 tx.size) (n:=6) OM
 obtain⟨y8,hy8,hb8⟩:=bF (s:=tx.extract 8 tx.size) (n:=7) OM
 obtain⟨y9,hy9,hb9⟩:=bF (s:=tx.extract 8 tx.size) (n:=8) OM
 obtain⟨y10,hy10,hb10⟩:=bF (s:=tx.extract 8 tx.size) (n:=9) OM
 obtain⟨y11,hy11,hb11⟩:=bF (s:=tx.extract 8 tx.size) (n:=10) OM
 have f1:=Ti y4.toNat y5.toNat hb4 hb5
 have f2:=Th y6.toNat y7.toNat y8.toNat y9.toNat hb6 hb7 hb8 hb9
 have hz:(bE tx).size = tx.size - 19:=by unfold bE;rw[ByteArray.size_extract,hx];omega
 have e:∀ t l,rdF (tx.extract 8 tx.size) t l = ⟨y1.toNat,y2.toNat,y3.toNat,(y4.toNat:Int) * 256+y5.toNat,(y6.toNat:Int) * 16777216+ (y7.toNat:Int) * 65536+ (y8.toNat:Int) * 256+y9.toNat,y10.toNat,t,l⟩:=by
  intro t l;simp only[rdF,bM hy1,bM hy2,bM hy3,bM hy4,bM hy5,bM hy6,bM hy7,bM hy8,bM hy9,bM hy10]
 have hb:=bM hy11
 have hbi:=@T0 (tx.extract 8 tx.size) OM
 rw[hb,qs,bM hy1,hx]at hbi
 by_cases h3:(y1.toNat:Int) = 3
 ·have e1:rdM (tx.extract 8 tx.size) = ⟨y1.toNat,y2.toNat,y3.toNat,(y4.toNat:Int) * 256+y5.toNat,(y6.toNat:Int) * 16777216+ (y7.toNat:Int) * 65536+ (y8.toNat:Int) * 256+y9.toNat,y10.toNat,bE tx,[]⟩:=by
   rw[←e];unfold rdM rdF;rw[bM hy1,if_pos h3,if_pos h3];rfl
  rw[if_pos h3]at hbi
  have ho:bN (rdM (tx.extract 8 tx.size))→(bE tx).size = 8:=by
   rw[e1];unfold bN;dsimp only;omega
  have hq:8≤(bE tx).size→(gz tx).size = (bE tx).size - 8:=by intro h;unfold gz;rw[ByteArray.size_extract];omega
  refine dp ?_
  conv=>whnf
  refine g 0 0 []<|J UB<|Ws<|gd 9 25 [[],[],[],[],[BF],[BF],[BF],[BF],[],[BF],[BF,.n (8),.s (ByteArray.extract tx 0 8)],[BF],[BF,.n (8),.s (ByteArray.extract tx 8 (ByteArray.size tx))],[BF],[BF,.call (V.s (fS (ByteArray.extract tx 8 (ByteArray.size tx)) key)) O2],[BF],[BF]] ?_
  conv=>whnf
  refine J QZ<|J KR<|Wc<|J (noT (by simp_all)) fun _=>Wk<|g 25 29 [.n (8),.s (ByteArray.extract tx 8 (ByteArray.size tx))]<|J QZ<|gd 29 68 [[],[.i ((↑(UInt8.toNat y1):Int))],[.i ((↑(UInt8.toNat y1):Int))],[],[.i ((↑(UInt8.toNat y2):Int))],[.i ((↑(UInt8.toNat y2):Int))],[],[.i ((↑(UInt8.toNat y3):Int))],[.i ((↑(UInt8.toNat y3):Int))],[],[.i ((↑(UInt8.toNat y4):Int))],[.i ((↑(UInt8.toNat y4):Int))],[.i (IntKind.wrap IntKind.i64 ((↑(UInt8.toNat y4):Int) * 2 ^ min (Int.toNat 8) (IntKind.bits IntKind.i64)))],[],[.i ((↑(UInt8.toNat y5):Int))],[.i ((↑(UInt8.toNat y5):Int))],[.i (IntKind.wrap IntKind.i64 (↑(BitVec.toNat (BitVec.ofInt (IntKind.bits IntKind.i64) (IntKind.wrap IntKind.i64 ((↑(UInt8.toNat y4):Int) * 2 ^ min (Int.toNat 8) (IntKind.bits IntKind.i64)))|||BitVec.ofInt (IntKind.bits IntKind.i64) (↑(UInt8.toNat y5):Int))):Int))],[],[.i ((↑(UInt8.toNat y6):Int))],[.i ((↑(UInt8.toNat y6):Int))],[.i (IntKind.wrap IntKind.i64 ((↑(UInt8.toNat y6):Int) * 2 ^ min (Int.toNat 24) (IntKind.bits IntKind.i64)))],[],[.i ((↑(UInt8.toNat y7):Int))],[.i ((↑(UInt8.toNat y7):Int))],[.i (IntKind.wrap IntKind.i64 ((↑(UInt8.toNat y7):Int) * 2 ^ min (Int.toNat 16) (IntKind.bits IntKind.i64)))],[.i (IntKind.wrap IntKind.i64 (↑(BitVec.toNat (BitVec.ofInt (IntKind.bits IntKind.i64) (IntKind.wrap IntKind.i64 ((↑(UInt8.toNat y6):Int) * 2 ^ min (Int.toNat 24) (IntKind.bits IntKind.i64)))|||BitVec.ofInt (IntKind.bits IntKind.i64) (IntKind.wrap IntKind.i64 ((↑(UInt8.toNat y7):Int) * 2 ^ min (Int.toNat 16) (IntKind.bits IntKind.i64))))):Int))],[],[.i ((↑(UInt8.toNat y8):Int))],[.i ((↑(UInt8.toNat y8):Int))],[.i (IntKind.wrap IntKind.i64 ((↑(UInt8.toNat y8):Int) * 2 ^ min (Int.toNat 8) (IntKind.bits IntKind.i64)))],[.i (IntKind.wrap IntKind.i64 (↑(BitVec.toNat (BitVec.ofInt (IntKind.bits IntKind.i64) (IntKind.wrap IntKind.i64 (↑(BitVec.toNat (BitVec.ofInt (IntKind.bits IntKind.i64) (IntKind.wrap IntKind.i64 ((↑(UInt8.toNat y6):Int) * 2 ^ min (Int.toNat 24) (IntKind.bits IntKind.i64)))|||BitVec.ofInt (IntKind.bits IntKind.i64) (IntKind.wrap IntKind.i64 ((↑(UInt8.toNat y7):Int) * 2 ^ min (Int.toNat 16) (IntKind.bits IntKind.i64))))):Int))|||BitVec.ofInt (IntKind.bits IntKind.i64) (IntKind.wrap IntKind.i64 ((↑(UInt8.toNat y8):Int) * 2 ^ min (Int.toNat 8) (IntKind.bits IntKind.i64))))):Int))],[],[.i ((↑(UInt8.toNat y9):Int))],[.i ((↑(UInt8.toNat y9):Int))],[.i (IntKind.wrap IntKind.i64 (↑(BitVec.toNat (BitVec.ofInt (IntKind.bits IntKind.i64) (IntKind.wrap IntKind.i64 (↑(BitVec.toNat (BitVec.ofInt (IntKind.bits IntKind.i64) (IntKind.wrap IntKind.i64 (↑(BitVec.toNat (BitVec.ofInt (IntKind.bits IntKind.i64) (IntKind.wrap IntKind.i64 ((↑(UInt8.toNat y6):Int) * 2 ^ min (Int.toNat 24) (IntKind.bits IntKind.i64)))|||BitVec.ofInt (IntKind.bits IntKind.i64) (IntKind.wrap IntKind.i64 ((↑(UInt8.toNat y7):Int) * 2 ^ min (Int.toNat 16) (IntKind.bits IntKind.i64))))):Int))|||BitVec.ofInt (IntKind.bits IntKind.i64) (IntKind.wrap IntKind.i64 ((↑(UInt8.toNat y8):Int) * 2 ^ min (Int.toNat 8) (IntKind.bits IntKind.i64))))):Int))|||BitVec.ofInt (IntKind.bits IntKind.i64) (↑(UInt8.toNat y9):Int))):Int))],[],[.i ((↑(UInt8.toNat y10):Int))],[.i ((↑(UInt8.toNat y10):Int))],[],[],[]] ?_
  conv=>whnf
  refine J QZ<|J KR<|g 68 71 [.i ((↑(UInt8.toNat y11):Int)),.i ((↑(UInt8.toNat y11):Int))]<|J QZ<|g 71 73 [.n (11),.s (ByteArray.extract (ByteArray.extract tx 8 (ByteArray.size tx)) 11 (ByteArray.size (ByteArray.extract tx 8 (ByteArray.size tx))))]<|J QZ<|Ws<|g 73 75 []<|J UC<|Wc<|Kt (Ws (g 75 78 []<|J UC (Wc<|J (fun h1=>?_) fun h1=>?_)))
  replace h1:=dt h1
  refine g 78 80 []<|J QZ<|RT ?_
  rotate_left
  replace h1:=df h1
  refine Wk<|rgd [[],[.n (8),.s (ByteArray.extract (ByteArray.extract (ByteArray.extract tx 8 (ByteArray.size tx)) 11 (ByteArray.size (ByteArray.extract tx 8 (ByteArray.size tx)))) 0 8)],[],[.n (8),.s (ByteArray.extract (ByteArray.extract (ByteArray.extract tx 8 (ByteArray.size tx)) 11 (ByteArray.size (ByteArray.extract tx 8 (ByteArray.size tx)))) 8 (ByteArray.size (ByteArray.extract (ByteArray.extract tx 8 (ByteArray.size tx)) 11 (ByteArray.size (ByteArray.extract tx 8 (ByteArray.size tx))))))],[],[],[]] ?_
  conv=>whnf
  refine J QZ<|J KR<|Ws<|g 8 89 [.i (8 * (↑(UInt8.toNat y11):Int))]<|J QZ<|Wc<|JN (fun h2=>?_) fun h2=>?_
  refine g 89 91 []<|J QZ<|RT ?_
  rotate_left
  refine Wk<|Ws<|Wb ?_
  rotate_left
  ·replace h1:((bE tx).size:Int) < 8:=h1
   exact congrArg gJ (mX h0 (fun h=>by have:=ho h.1;omega)).symm
  ·replace h1:¬((bE tx).size:Int) < 8:=h1
   replace h2:¬((gz tx).size:Int) = 8 * (y11.toNat:Int):=h2
   exact congrArg gJ (mX h0 (fun h=>by have:=ho h.1;have:=((hbi h.1).1 h.2).1;omega)).symm
  ·replace h1:¬((bE tx).size:Int) < 8:=h1
   replace h2:((gz tx).size:Int) = 8 * (y11.toNat:Int):=h2
   refine Wl (fun s (n:Nat)=>⟨(SK s [0,4,5] [(6,.s (ij (gz tx) n)),(7,s.s 7)]),[(4,(CK s 4 0 8 [])),(7,[.t (.i y1.toNat),.t (.i y2.toNat),.t (.i y3.toNat),.t (.i ((y4.toNat:Int) * 256+y5.toNat)),.t (.i ((y6.toNat:Int) * 16777216+ (y7.toNat:Int) * 65536+ (y8.toNat:Int) * 256+y9.toNat)),.t (.i y10.toNat),.t (.s ((bE tx).extract 0 8)),.own [false] ((cM (gz tx) n).map ah)])],[]⟩) (fun(n:Nat)=>8 * n≤(gz tx).size) (fun(n:Nat)=>(gz tx).size - 8 * n) (0) [some 4,some 7] [] ⟨rfl,⟨rfl,rfl,rfl,(congrArg (fun z=>V.t (T.v (Value.string z))) (BE (gz tx))),rfl,I⟩,⟨FZ,⟨(R4 ⟨(congrArg (fun z=>V.t (T.v (Value.int _ z))) (f1)),⟨(congrArg (fun z=>V.t (T.v (Value.int _ z))) (f2)),FZ⟩⟩),I⟩⟩,I⟩ OM ?_
   intro n hn
   have hrz:=kQ (gz tx) n
   have hcl:=sO (gz tx) n
   have c2:=cR ⟨y1.toNat,y2.toNat,y3.toNat,(y4.toNat:Int) * 256+y5.toNat,(y6.toNat:Int) * 16777216+ (y7.toNat:Int) * 65536+ (y8.toNat:Int) * 256+y9.toNat,y10.toNat,(bE tx).extract 0 8,cM (gz tx) n⟩ (by rw[show(Message.inputs ⟨y1.toNat,y2.toNat,y3.toNat,(y4.toNat:Int) * 256+y5.toNat,(y6.toNat:Int) * 16777216+ (y7.toNat:Int) * 65536+ (y8.toNat:Int) * 256+y9.toNat,y10.toNat,(bE tx).extract 0 8,cM (gz tx) n⟩) = cM (gz tx) n from rfl,hcl];omega)
   by_cases hn8:8 * n < (gz tx).size
   ·have hne:=BH hn8
    conv=>whnf
    refine Ws<|g 91 92 []<|J UB<|Wc<|Kn (Wk (Ws (Wb (rgd [[],[],[],[.n (8),.s (ByteArray.extract (ij (gz tx) n) 0 8)],[],[],[],[]] ?_))))
    conv=>whnf
    refine⟨⟨I,I,I,⟨rfl,I,OM,OM,rfl⟩,US,Zap,I,UA,I⟩,by kernel_rfl,?_⟩
    refine rg [.n (8),.s (ByteArray.extract (ij (gz tx) n) 8 (ByteArray.size (ij (gz tx) n)))] ?_
    conv=>whnf
    refine⟨⟨I,⟨I,rfl,OM,OM,rfl⟩,I,I⟩,?_⟩
    ·refine⟨n+1,[some 4,some 7],[],⟨rfl,⟨rfl,rfl,rfl,(congrArg (fun z=>V.t (T.v (Value.string z))) (BG (gz tx) n OM)),rfl,I⟩,⟨FZ,⟨(R8 ⟨(congrArg (V.own _) (Wn OM)),I⟩),I⟩⟩,I⟩,?_,?_⟩
     rotate_left
     (dsimp only;omega)
     dsimp only
     omega
   ·have heq:=FT hn8
    have em:n = 0→(bE tx).size = 8→rdM (tx.extract 8 tx.size) = ⟨y1.toNat,y2.toNat,y3.toNat,(y4.toNat:Int) * 256+y5.toNat,(y6.toNat:Int) * 16777216+ (y7.toNat:Int) * 65536+ (y8.toNat:Int) * 256+y9.toNat,y10.toNat,(bE tx).extract 0 8,cM (gz tx) n⟩:=by
     intro hn0 h8
     rw[e1,hn0,show cM (gz tx) 0 = []from rfl]
     rw[show(bE tx).extract 0 8 = bE tx by rw[←h8,ByteArray.extract_zero_size]]
    conv=>whnf
    refine Ws<|g 91 92 []<|J UB<|Wc<|Jn<|We<|Ws<|g 92 104 [.call (V.b (decide (bN {kind:=(↑(UInt8.toNat y1):Int),frm:=(↑(UInt8.toNat y2):Int),to:=(↑(UInt8.toNat y3):Int),epoch:=(↑(UInt8.toNat y4):Int) * 256+ (↑(UInt8.toNat y5):Int),lease:=(↑(UInt8.toNat y6):Int) * 16777216+ (↑(UInt8.toNat y7):Int) * 65536+ (↑(UInt8.toNat y8):Int) * 256+ (↑(UInt8.toNat y9):Int),task:=(↑(UInt8.toNat y10):Int),text:=ByteArray.extract (bE tx) 0 8,inputs:=cM (gz tx) n:Message}))) O1]<|J QZ<|Wc<|JN (fun h4=>?_) fun h4=>?_
    refine g 104 106 []<|J QZ<|RT ?_
    rotate_left
    refine Wk<|g 6 107 []<|J QZ<|RT ?_
    rotate_left
    ·exact congrArg gJ (mX h0 (fun h=>by
      have h4:=ho h.1
      have h5:=((hbi h.1).1 h.2).1
      rw[em OM h4]at h
      exact absurd h.1 AS)).symm
    ·have hok:bN ⟨y1.toNat,y2.toNat,y3.toNat,(y4.toNat:Int) * 256+y5.toNat,(y6.toNat:Int) * 16777216+ (y7.toNat:Int) * 65536+ (y8.toNat:Int) * 256+y9.toNat,y10.toNat,(bE tx).extract 0 8,cM (gz tx) n⟩:=by assumption
     have hn0:n = 0:=by
      have:(cM (gz tx) n).length = 0:=by
       unfold bN at hok;dsimp only at hok;omega
      omega
     have h8:(bE tx).size = 8:=by omega
     exact congrArg gJ (BM h0 OM (Decidable.not_not.1 hs) (em hn0 h8) hok ((hbi (by rw[em hn0 h8];exact hok)).2 ⟨by omega,fun h=>absurd h3 h⟩)).symm
 ·rw[if_neg h3]at hbi
  have e1:∀ n,n = (tx.size - 19) / 8→rdM (tx.extract 8 tx.size) = ⟨y1.toNat,y2.toNat,y3.toNat,(y4.toNat:Int) * 256+y5.toNat,(y6.toNat:Int) * 16777216+ (y7.toNat:Int) * 65536+ (y8.toNat:Int) * 256+y9.toNat,y10.toNat,emp,cM (bE tx) n⟩:=by
   intro n hn;rw[←e];unfold rdM rdF;rw[bM hy1,if_neg h3,if_neg h3,hn,hx,bE,hx,show tx.size - 8 - 11 = tx.size - 19 by omega]
  refine dp ?_
  conv=>whnf
  refine g 0 0 []<|J UB<|Ws<|gd 9 25 [[],[],[],[],[BF],[BF],[BF],[BF],[],[BF],[BF,.n (8),.s (ByteArray.extract tx 0 8)],[BF],[BF,.n (8),.s (ByteArray.extract tx 8 (ByteArray.size tx))],[BF],[BF,.call (V.s (fS (ByteArray.extract tx 8 (ByteArray.size tx)) key)) O2],[BF],[BF]] ?_
  conv=>whnf
  refine J QZ<|J KR<|Wc<|J (noT (by simp_all)) fun _=>Wk<|g 25 29 [.n (8),.s (ByteArray.extract tx 8 (ByteArray.size tx))]<|J QZ<|gd 29 68 [[],[.i ((↑(UInt8.toNat y1):Int))],[.i ((↑(UInt8.toNat y1):Int))],[],[.i ((↑(UInt8.toNat y2):Int))],[.i ((↑(UInt8.toNat y2):Int))],[],[.i ((↑(UInt8.toNat y3):Int))],[.i ((↑(UInt8.toNat y3):Int))],[],[.i ((↑(UInt8.toNat y4):Int))],[.i ((↑(UInt8.toNat y4):Int))],[.i (IntKind.wrap IntKind.i64 ((↑(UInt8.toNat y4):Int) * 2 ^ min (Int.toNat 8) (IntKind.bits IntKind.i64)))],[],[.i ((↑(UInt8.toNat y5):Int))],[.i ((↑(UInt8.toNat y5):Int))],[.i (IntKind.wrap IntKind.i64 (↑(BitVec.toNat (BitVec.ofInt (IntKind.bits IntKind.i64) (IntKind.wrap IntKind.i64 ((↑(UInt8.toNat y4):Int) * 2 ^ min (Int.toNat 8) (IntKind.bits IntKind.i64)))|||BitVec.ofInt (IntKind.bits IntKind.i64) (↑(UInt8.toNat y5):Int))):Int))],[],[.i ((↑(UInt8.toNat y6):Int))],[.i ((↑(UInt8.toNat y6):Int))],[.i (IntKind.wrap IntKind.i64 ((↑(UInt8.toNat y6):Int) * 2 ^ min (Int.toNat 24) (IntKind.bits IntKind.i64)))],[],[.i ((↑(UInt8.toNat y7):Int))],[.i ((↑(UInt8.toNat y7):Int))],[.i (IntKind.wrap IntKind.i64 ((↑(UInt8.toNat y7):Int) * 2 ^ min (Int.toNat 16) (IntKind.bits IntKind.i64)))],[.i (IntKind.wrap IntKind.i64 (↑(BitVec.toNat (BitVec.ofInt (IntKind.bits IntKind.i64) (IntKind.wrap IntKind.i64 ((↑(UInt8.toNat y6):Int) * 2 ^ min (Int.toNat 24) (IntKind.bits IntKind.i64)))|||BitVec.ofInt (IntKind.bits IntKind.i64) (IntKind.wrap IntKind.i64 ((↑(UInt8.toNat y7):Int) * 2 ^ min (Int.toNat 16) (IntKind.bits IntKind.i64))))):Int))],[],[.i ((↑(UInt8.toNat y8):Int))],[.i ((↑(UInt8.toNat y8):Int))],[.i (IntKind.wrap IntKind.i64 ((↑(UInt8.toNat y8):Int) * 2 ^ min (Int.toNat 8) (IntKind.bits IntKind.i64)))],[.i (IntKind.wrap IntKind.i64 (↑(BitVec.toNat (BitVec.ofInt (IntKind.bits IntKind.i64) (IntKind.wrap IntKind.i64 (↑(BitVec.toNat (BitVec.ofInt (IntKind.bits IntKind.i64) (IntKind.wrap IntKind.i64 ((↑(UInt8.toNat y6):Int) * 2 ^ min (Int.toNat 24) (IntKind.bits IntKind.i64)))|||BitVec.ofInt (IntKind.bits IntKind.i64) (IntKind.wrap IntKind.i64 ((↑(UInt8.toNat y7):Int) * 2 ^ min (Int.toNat 16) (IntKind.bits IntKind.i64))))):Int))|||BitVec.ofInt (IntKind.bits IntKind.i64) (IntKind.wrap IntKind.i64 ((↑(UInt8.toNat y8):Int) * 2 ^ min (Int.toNat 8) (IntKind.bits IntKind.i64))))):Int))],[],[.i ((↑(UInt8.toNat y9):Int))],[.i ((↑(UInt8.toNat y9):Int))],[.i (IntKind.wrap IntKind.i64 (↑(BitVec.toNat (BitVec.ofInt (IntKind.bits IntKind.i64) (IntKind.wrap IntKind.i64 (↑(BitVec.toNat (BitVec.ofInt (IntKind.bits IntKind.i64) (IntKind.wrap IntKind.i64 (↑(BitVec.toNat (BitVec.ofInt (IntKind.bits IntKind.i64) (IntKind.wrap IntKind.i64 ((↑(UInt8.toNat y6):Int) * 2 ^ min (Int.toNat 24) (IntKind.bits IntKind.i64)))|||BitVec.ofInt (IntKind.bits IntKind.i64) (IntKind.wrap IntKind.i64 ((↑(UInt8.toNat y7):Int) * 2 ^ min (Int.toNat 16) (IntKind.bits IntKind.i64))))):Int))|||BitVec.ofInt (IntKind.bits IntKind.i64) (IntKind.wrap IntKind.i64 ((↑(UInt8.toNat y8):Int) * 2 ^ min (Int.toNat 8) (IntKind.bits IntKind.i64))))):Int))|||BitVec.ofInt (IntKind.bits IntKind.i64) (↑(UInt8.toNat y9):Int))):Int))],[],[.i ((↑(UInt8.toNat y10):Int))],[.i ((↑(UInt8.toNat y10):Int))],[],[],[]] ?_
  conv=>whnf
  refine J QZ<|J KR<|g 68 71 [.i ((↑(UInt8.toNat y11):Int)),.i ((↑(UInt8.toNat y11):Int))]<|J QZ<|g 71 73 [.n (11),.s (ByteArray.extract (ByteArray.extract tx 8 (ByteArray.size tx)) 11 (ByteArray.size (ByteArray.extract tx 8 (ByteArray.size tx))))]<|J QZ<|Ws<|g 73 75 []<|J UC<|Wc<|Jf<|Wk<|Ws<|g 8 89 [.i (8 * (↑(UInt8.toNat y11):Int))]<|J QZ<|Wc<|JN (fun h1=>?_) fun h1=>?_
  refine g 89 91 []<|J QZ<|RT ?_
  rotate_left
  refine Wk<|Ws<|Wb ?_
  rotate_left
  ·replace h1:¬((bE tx).size:Int) = 8 * (y11.toNat:Int):=h1
   exact congrArg gJ (mX h0 (fun h=>by have h5:=(hbi h.1).1 h.2;have:=h5.2 h3;omega)).symm
  ·replace h1:((bE tx).size:Int) = 8 * (y11.toNat:Int):=h1
   refine Wl (fun s (n:Nat)=>⟨(SK s [0,4,5] [(6,.s (ij (bE tx) n)),(7,s.s 7)]),[(4,(CK s 4 0 8 [])),(7,[.t (.i y1.toNat),.t (.i y2.toNat),.t (.i y3.toNat),.t (.i ((y4.toNat:Int) * 256+y5.toNat)),.t (.i ((y6.toNat:Int) * 16777216+ (y7.toNat:Int) * 65536+ (y8.toNat:Int) * 256+y9.toNat)),.t (.i y10.toNat),.t (.s emp),.own [false] ((cM (bE tx) n).map ah)])],[]⟩) (fun(n:Nat)=>8 * n≤(bE tx).size) (fun(n:Nat)=>(bE tx).size - 8 * n) (0) [some 4,some 7] [] ⟨rfl,⟨rfl,rfl,rfl,(congrArg (fun z=>V.t (T.v (Value.string z))) (BE (bE tx))),rfl,I⟩,⟨FZ,⟨(R4 ⟨(congrArg (fun z=>V.t (T.v (Value.int _ z))) (f1)),⟨(congrArg (fun z=>V.t (T.v (Value.int _ z))) (f2)),FZ⟩⟩),I⟩⟩,I⟩ OM ?_
   intro n hn
   have hrz:=kQ (bE tx) n
   have hcl:=sO (bE tx) n
   have c2:=cR ⟨y1.toNat,y2.toNat,y3.toNat,(y4.toNat:Int) * 256+y5.toNat,(y6.toNat:Int) * 16777216+ (y7.toNat:Int) * 65536+ (y8.toNat:Int) * 256+y9.toNat,y10.toNat,emp,cM (bE tx) n⟩ (by rw[show(Message.inputs ⟨y1.toNat,y2.toNat,y3.toNat,(y4.toNat:Int) * 256+y5.toNat,(y6.toNat:Int) * 16777216+ (y7.toNat:Int) * 65536+ (y8.toNat:Int) * 256+y9.toNat,y10.toNat,emp,cM (bE tx) n⟩) = cM (bE tx) n from rfl,hcl];omega)
   by_cases hn8:8 * n < (bE tx).size
   ·have hne:=BH hn8
    conv=>whnf
    refine Ws<|g 91 92 []<|J UB<|Wc<|Kn (Wk (Ws (Wb (rgd [[],[],[],[.n (8),.s (ByteArray.extract (ij (bE tx) n) 0 8)],[],[],[],[]] ?_))))
    conv=>whnf
    refine⟨⟨I,I,I,⟨rfl,I,OM,OM,rfl⟩,US,Zap,I,UA,I⟩,by kernel_rfl,?_⟩
    refine rg [.n (8),.s (ByteArray.extract (ij (bE tx) n) 8 (ByteArray.size (ij (bE tx) n)))] ?_
    conv=>whnf
    refine⟨⟨I,⟨I,rfl,OM,OM,rfl⟩,I,I⟩,?_⟩
    ·refine⟨n+1,[some 4,some 7],[],⟨rfl,⟨rfl,rfl,rfl,(congrArg (fun z=>V.t (T.v (Value.string z))) (BG (bE tx) n OM)),rfl,I⟩,⟨FZ,⟨(R8 ⟨(congrArg (V.own _) (Wn OM)),I⟩),I⟩⟩,I⟩,?_,?_⟩
     rotate_left
     (dsimp only;omega)
     dsimp only
     omega
   ·have heq:=FT hn8
    have em:=e1 n OM
    conv=>whnf
    refine Ws<|g 91 92 []<|J UB<|Wc<|Jn<|We<|Ws<|g 92 104 [.call (V.b (decide (bN {kind:=(↑(UInt8.toNat y1):Int),frm:=(↑(UInt8.toNat y2):Int),to:=(↑(UInt8.toNat y3):Int),epoch:=(↑(UInt8.toNat y4):Int) * 256+ (↑(UInt8.toNat y5):Int),lease:=(↑(UInt8.toNat y6):Int) * 16777216+ (↑(UInt8.toNat y7):Int) * 65536+ (↑(UInt8.toNat y8):Int) * 256+ (↑(UInt8.toNat y9):Int),task:=(↑(UInt8.toNat y10):Int),text:=emp,inputs:=cM (bE tx) n:Message}))) O1]<|J QZ<|Wc<|JN (fun h2=>?_) fun h2=>?_
    refine g 104 106 []<|J QZ<|RT ?_
    rotate_left
    refine Wk<|g 6 107 []<|J QZ<|RT ?_
    rotate_left
    ·exact congrArg gJ (mX h0 (fun h=>by rw[em]at h;exact absurd h.1 AS)).symm
    ·have hok:bN ⟨y1.toNat,y2.toNat,y3.toNat,(y4.toNat:Int) * 256+y5.toNat,(y6.toNat:Int) * 16777216+ (y7.toNat:Int) * 65536+ (y8.toNat:Int) * 256+y9.toNat,y10.toNat,emp,cM (bE tx) n⟩:=by assumption
     exact congrArg gJ (BM h0 OM (Decidable.not_not.1 hs) em hok ((hbi (by rw[em];exact hok)).2 ⟨by omega,fun h=>by omega⟩)).symm
end Go.K
end
section
open Go Go.Tm Go.Proofs
namespace Go.K
attribute [local irreducible] ByteArray.extract
theorem QX{m:Message}{n:Nat}{x:ByteArray}(h:m.inputs[n]? = some x):hY m n++x = hY m (n+1):=by
 unfold hY;rw[Gz h];simp only[ByteArray.append_assoc]
theorem WA(x:Int):IntKind.u8.wrap x = x % 256:=by simp[IntKind.wrap,IntKind.bits,IntKind.signed]
theorem uv{x:Int}(k:Nat)(d:Int)(hk:(2:Int) ^ min k IntKind.i64.bits = d)(h:0≤d):IntKind.u8.wrap (x.fdiv (2 ^ min (Int.toNat (k:Int)) IntKind.i64.bits)) = x / d % 256:=by
 rw[Int.toNat_natCast,hk,WA,Int.fdiv_eq_ediv_of_nonneg _ h]
theorem Kc{m:Message}(h:bN m):(⟨(bZ ([m.kind,m.frm,m.to,IntKind.u8.wrap (m.epoch.fdiv (2 ^ min (Int.toNat 8) IntKind.i64.bits)),IntKind.u8.wrap m.epoch,IntKind.u8.wrap (m.lease.fdiv (2 ^ min (Int.toNat 24) IntKind.i64.bits)),IntKind.u8.wrap (m.lease.fdiv (2 ^ min (Int.toNat 16) IntKind.i64.bits)),IntKind.u8.wrap (m.lease.fdiv (2 ^ min (Int.toNat 8) IntKind.i64.bits)),IntKind.u8.wrap m.lease,m.task,IntKind.u8.wrap ((m.inputs.map ah).length:Int)].map b1T)).toArray⟩:ByteArray) ++m.text = hY m 0:=by
 obtain⟨h1,h2,h3,h4,h5,h6⟩:=gr h
 have h7:=(dw h).1
 have e:[m.kind,m.frm,m.to,IntKind.u8.wrap (m.epoch.fdiv (2 ^ min (Int.toNat 8) IntKind.i64.bits)),IntKind.u8.wrap m.epoch,IntKind.u8.wrap (m.lease.fdiv (2 ^ min (Int.toNat 24) IntKind.i64.bits)),IntKind.u8.wrap (m.lease.fdiv (2 ^ min (Int.toNat 16) IntKind.i64.bits)),IntKind.u8.wrap (m.lease.fdiv (2 ^ min (Int.toNat 8) IntKind.i64.bits)),IntKind.u8.wrap m.lease,m.task,IntKind.u8.wrap ((m.inputs.map ah).length:Int)] = B7 m:=by
  have a1:IntKind.u8.wrap (m.epoch.fdiv (2 ^ min (Int.toNat 8) IntKind.i64.bits)) = m.epoch / 256 % 256:=uv 8 256 (by decide) (by decide)
  have a2:IntKind.u8.wrap (m.lease.fdiv (2 ^ min (Int.toNat 24) IntKind.i64.bits)) = m.lease / 16777216 % 256:=uv 24 16777216 (by decide) (by decide)
  have a3:IntKind.u8.wrap (m.lease.fdiv (2 ^ min (Int.toNat 16) IntKind.i64.bits)) = m.lease / 65536 % 256:=uv 16 65536 (by decide) (by decide)
  have a4:IntKind.u8.wrap (m.lease.fdiv (2 ^ min (Int.toNat 8) IntKind.i64.bits)) = m.lease / 256 % 256:=uv 8 256 (by decide) (by decide)
  have b1:m.epoch / 256 % 256 = m.epoch / 256:=by omega
  have b2:m.lease / 16777216 % 256 = m.lease / 16777216:=by omega
  unfold B7
  rw[List.length_map]
  rw[a1,a2,a3,a4,b1,b2,WA,WA,wu8 (z:=(m.inputs.length:Int)) OM OM]
 rw[e,sQ,←GB (Gh h),ku]
theorem rV(m:Message)(key:ByteArray)(hl:m.inputs.length≤9223372036854775806):F rF [.val (fb m),.val (.s key)] (.s (dY m key)) O2:=by
 have c1:=cR m hl
 by_cases h:bN m
 ·have hb:=gS h
  obtain⟨h1,h2,h3,h4,h5,h6⟩:=gr h
  obtain⟨h7,h8,h9⟩:=dw h
  rw[show decide (bN m) = true from decide_eq_true h]at c1
  by_cases hk:key.size≤30
  ·have c4:=pj (dG m) key OM OM
   have hs:(fS (dG m) key).size = 8:=ef _
   refine gH ?_
   conv=>whnf
   refine g 0 0 []<|J QZ<|Ws<|g 11 16 [.call VT O1,BF,BF,BF,BF]<|J QZ<|Wc<|Jf<|Wk<|g 10 56 [.i m.kind,.i m.frm,.i m.to,.i (Int.fdiv m.epoch (2 ^ min (Int.toNat 8) (IntKind.bits IntKind.i64))),.i (IntKind.wrap IntKind.u8 (Int.fdiv m.epoch (2 ^ min (Int.toNat 8) (IntKind.bits IntKind.i64)))),.i (IntKind.wrap IntKind.u8 m.epoch),.i (Int.fdiv m.lease (2 ^ min (Int.toNat 24) (IntKind.bits IntKind.i64))),.i (IntKind.wrap IntKind.u8 (Int.fdiv m.lease (2 ^ min (Int.toNat 24) (IntKind.bits IntKind.i64)))),.i (Int.fdiv m.lease (2 ^ min (Int.toNat 16) (IntKind.bits IntKind.i64))),.i (IntKind.wrap IntKind.u8 (Int.fdiv m.lease (2 ^ min (Int.toNat 16) (IntKind.bits IntKind.i64)))),.i (Int.fdiv m.lease (2 ^ min (Int.toNat 8) (IntKind.bits IntKind.i64))),.i (IntKind.wrap IntKind.u8 (Int.fdiv m.lease (2 ^ min (Int.toNat 8) (IntKind.bits IntKind.i64)))),.i (IntKind.wrap IntKind.u8 m.lease),.i m.task,.i (IntKind.wrap IntKind.u8 (↑(List.length (List.map ah m.inputs)):Int))]<|J QZ<|g 56 61 [.s ({data:=List.toArray (bZ [[T.v (Value.int IntKind.u8 m.kind)],[T.v (Value.int IntKind.u8 m.frm)],[T.v (Value.int IntKind.u8 m.to)],[T.v (Value.int IntKind.u8 (IntKind.wrap IntKind.u8 (Int.fdiv m.epoch (2 ^ min (Int.toNat 8) (IntKind.bits IntKind.i64)))))],[T.v (Value.int IntKind.u8 (IntKind.wrap IntKind.u8 m.epoch))],[T.v (Value.int IntKind.u8 (IntKind.wrap IntKind.u8 (Int.fdiv m.lease (2 ^ min (Int.toNat 24) (IntKind.bits IntKind.i64)))))],[T.v (Value.int IntKind.u8 (IntKind.wrap IntKind.u8 (Int.fdiv m.lease (2 ^ min (Int.toNat 16) (IntKind.bits IntKind.i64)))))],[T.v (Value.int IntKind.u8 (IntKind.wrap IntKind.u8 (Int.fdiv m.lease (2 ^ min (Int.toNat 8) (IntKind.bits IntKind.i64)))))],[T.v (Value.int IntKind.u8 (IntKind.wrap IntKind.u8 m.lease))],[T.v (Value.int IntKind.u8 m.task)],[T.v (Value.int IntKind.u8 (IntKind.wrap IntKind.u8 (↑(List.length (List.map ah m.inputs)):Int)))]]):ByteArray}),.s ({data:=List.toArray (bZ [[T.v (Value.int IntKind.u8 m.kind)],[T.v (Value.int IntKind.u8 m.frm)],[T.v (Value.int IntKind.u8 m.to)],[T.v (Value.int IntKind.u8 (IntKind.wrap IntKind.u8 (Int.fdiv m.epoch (2 ^ min (Int.toNat 8) (IntKind.bits IntKind.i64)))))],[T.v (Value.int IntKind.u8 (IntKind.wrap IntKind.u8 m.epoch))],[T.v (Value.int IntKind.u8 (IntKind.wrap IntKind.u8 (Int.fdiv m.lease (2 ^ min (Int.toNat 24) (IntKind.bits IntKind.i64)))))],[T.v (Value.int IntKind.u8 (IntKind.wrap IntKind.u8 (Int.fdiv m.lease (2 ^ min (Int.toNat 16) (IntKind.bits IntKind.i64)))))],[T.v (Value.int IntKind.u8 (IntKind.wrap IntKind.u8 (Int.fdiv m.lease (2 ^ min (Int.toNat 8) (IntKind.bits IntKind.i64)))))],[T.v (Value.int IntKind.u8 (IntKind.wrap IntKind.u8 m.lease))],[T.v (Value.int IntKind.u8 m.task)],[T.v (Value.int IntKind.u8 (IntKind.wrap IntKind.u8 (↑(List.length (List.map ah m.inputs)):Int)))]]):ByteArray} ++m.text)]<|J ⟨I,⟨I,(by repeat (first|exact kK|refine jg ?_)),rfl⟩,I,I,⟨rfl,(by simp only[bsz,ByteArray.size_append,ka];omega)⟩,I,I⟩ ?_
   refine Ws<|g 0 1 []<|J UD<|Wb<|Wl (fun s (n:Nat)=>⟨((1,s.s 1)::(4,s.s 4)::(6,.s (hY m n))::(SK s [9,62,63] [(64,.i n)])),[],[]⟩) (fun(n:Nat)=>n≤m.inputs.length) (fun(n:Nat)=>m.inputs.length - n) (0) [] [] ⟨rfl,⟨rfl,rfl,(congrArg (fun z=>V.t (T.v (Value.string z))) (Kc h)),FZ,rfl,rfl,rfl,I⟩,I,I⟩ OM ?_
   intro n hn
   have hc:=sR h n hn
   have hs2:(fS (hY m n) key).size = 8:=ef _
   conv=>whnf
   refine g 0 0 []<|J UA<|Ws<|Wc<|JD (fun h10=>?_) fun h10=>?_
   simp only[LM]at h10
   refine Wk<|Ws<|Wb ?_
   obtain⟨y1,hy1⟩:=ae (xs:=Message.inputs m) (n:=n) OM
   have hm1:=h8 y1 (List.mem_of_getElem? hy1)
   refine g 65 68 [.x (ah y1)]<|J QZ<|rg [.s (hY m n++y1)]<|J QZ<|rg [.i ((n:Int) +1)]<|J QZ ?_
   rotate_left
   simp only[LM]at h10
   refine We<|g 62 77 [.call (V.s (fS (hY m n) key)) O2,.s (fS (hY m n) key++hY m n)]<|J (QA @pj)<|RT ?_
   rotate_left
   ·refine⟨n+1,[],[],⟨rfl,⟨rfl,rfl,(congrArg (fun z=>V.t (T.v (Value.string z))) (QX AS)),⟨_,rfl,_,_,rfl,rfl,_,_,rfl,rfl,_,_,rfl,rfl,_,_,rfl,rfl,_,_,rfl,rfl,_,_,rfl,rfl,_,_,rfl,rfl,_,_,rfl,rfl,rfl⟩,rfl,rfl,rfl,I⟩,I,I⟩,?_,?_⟩
    rotate_left
    (dsimp only;omega)
    dsimp only
    omega
   ·exact vs (by rw[show n = m.inputs.length by omega,xB];exact(if_pos ⟨h,hk⟩).symm)
  ·refine gH ?_
   conv=>whnf
   refine g 0 0 []<|J QZ<|Ws<|g 11 16 [.call VT O1,BF,BF,BF,BF]<|J QZ<|Wc<|Kt (g 16 17 []<|J UA (RT ?_))
   exact vs (if_neg (fun h=>hk h.2)).symm
 ·rw[show decide (bN m) = false from decide_eq_false h]at c1
  refine gH ?_
  conv=>whnf
  refine g 0 0 []<|J QZ<|Ws<|g 11 16 [.call VF O1,BT,BT,BT,BT]<|J QZ<|Wc<|Kr (g 16 17 []<|J UA (RT ?_))
  exact vs (if_neg (fun x=>h x.1)).symm
end Go.K
end
section
open Go Go.Tm Go.Proofs
namespace Go.K
def lb(m:Message):Prop:=m.inputs.length≤64∧m.text.size≤64∧∀ s∈m.inputs,s.size≤64
theorem XJ{xs:List ByteArray}{x:ByteArray}:xs.map ah++ [ah x] = (xs++ [x]).map ah:=by rw[List.map_append];rfl
theorem Z4{xs:List ByteArray}{x:ByteArray}{n:Nat}(h:∀ s∈xs,s.size = n)(hx:x.size = n):∀ s∈xs++ [x],s.size = n:=fun s hs=>by
 rcases List.mem_append.1 hs with hs|hs
 ·exact h s hs
 ·rw[List.mem_singleton.1 hs];exact hx
abbrev aa0(l:List Int)(pos:Int)(o:List (List V)):V→List (List V)→Prop:=fun res outs=>∃ m pos2,res = bC m∧outs = rdC l pos2 :: o∧(lb m∧bN m)∧pos≤pos2∧pos2≤pos+40
theorem TF(l:List Int)(pos:Int)(hl:dM l)(h0:0≤pos)(h1:pos≤1000000):∃ res outs,aa0 l pos [] res outs∧F lL [.ptr (rdC l pos)] res outs:=by
 have p0:=ak l pos 5
 have p1:=ak l (pos+1) 3
 have p2:=ak l (pos+1+1) 3
 have p3:=ak l (pos+1+1+1) 7
 have p4:=ak l (pos+1+1+1+1) 6
 have p5:=ak l (pos+1+1+1+1+1) 3
 obtain⟨x,hx1,hx2⟩:=cZ [1,2,3,256,1000000,1000001,300000000] (ac l (pos+1+1+1) 7) p3.1 (by show _ < (7:Int);omega)
 have hx3:([[T.i 1],[T.i 2],[T.i 3],[T.i 256],[T.i 1000000],[T.i 1000001],[T.i 300000000]]:List (List T))[(ac l (pos+1+1+1) 7).toNat]? = some [T.i x]:=hx2
 have e0:emp.size = 0:=rfl
 have hxb:1≤x∧x≤300000000:=by
  simp only[List.mem_cons,List.not_mem_nil,or_false]at hx1
  omega
 have e0i:(([]:List ByteArray).length:Int) = 0:=rfl
 have cu:=rb (1+ac l pos 5)
 have sm0:∀ t:ByteArray,t.size≤64→∀ a b c d e f:Int,lb ⟨a,b,c,d,e,f,t,[]⟩:=fun t ht a b c d e f=>⟨Nat.zero_le _,ht,fun s hs=>by cases hs⟩
 by_cases k0:ac l pos 5 = 0
 ·refine gu ?_
  conv=>whnf
  refine g 0 0 []<|J UA<|g 11 18 [.call (V.i (ac l pos 5)) ([rdC l (pos+1),[]]),.i (1+ac l pos 5),.call (V.i (ac l (pos+1) 3)) ([rdC l (pos+1+1),[]]),.i (1+ac l (pos+1) 3)]<|J (QA @aa)<|g 18 27 [.call (V.tup [V.b (decide (1≤1+ac l pos 5∧1+ac l pos 5≤4)),V.b (decide (1+ac l pos 5 = 1∨1+ac l pos 5 = 3)),V.b (decide (1+ac l pos 5 = 3)),V.b (decide (1+ac l pos 5 = 1)),V.b (decide (1+ac l pos 5 = 1∨1+ac l pos 5 = 4))]) O1]<|J QZ<|g 28 30 [.call (V.i (ac l (pos+1+1) 3)) ([rdC l (pos+1+1+1),[]]),.i (1+ac l (pos+1+1) 3)]<|J (QA @aa)<|Ws<|g 8 9 []<|J UA<|Wc<|Kt (rg []<|J QZ (Ws (g 30 33 []<|J UA (Wc<|Kt (rg [.call (V.i (ac l (pos+1+1+1) 7)) ([rdC l (pos+1+1+1+1),[]]),.n (Int.toNat (ac l (pos+1+1+1) 7)),.x ([T.i x])]<|J (QA @aa) ?_)))))
  refine Ws<|g 35 42 []<|J UA<|Wc<|Kt (rg [.call (V.i (ac l (pos+1+1+1+1) 6)) ([rdC l (pos+1+1+1+1+1),[]])]<|J (QA @aa) (Ws (g 42 46 []<|J UA (Wc<|Jf<|(Wk (Ws (g 4 10 []<|J UA (Wc<|Kt (g 46 53 [.call (V.i (ac l (pos+1+1+1+1+1) 3)) ([rdC l (pos+1+1+1+1+1+1),[]])]<|J (QA @aa) ?_)))))))))
  refine Wb ?_
  refine Wl (fun s (x2:List ByteArray×Int×Int)=>⟨(SK s [0,2,3] [(10,.i x2.2.1),(27,s.s 27)]),[(2,(CK s 2 0 8 [])),(65,[.t (u8s l),.t (.i x2.2.2)]),(3,[.t (.i (1+ac l pos 5)),.t (.i 0),.t (.i (1+ac l (pos+1+1) 3)),.t (.i (1+ac l (pos+1) 3)),.t (.i x),.t (.i (ac l (pos+1+1+1+1) 6)),.t (.s emp),.own [false] (x2.1.map ah)])],[]⟩) (fun(x2:List ByteArray×Int×Int)=>0≤x2.2.1∧x2.1.length+x2.2.1≤3∧(∀ s∈x2.1,s.size = 8)∧pos+6≤x2.2.2∧x2.2.2≤pos+6+x2.1.length) (fun(x2:List ByteArray×Int×Int)=>x2.2.1.toNat) (([],ac l (pos+1+1+1+1+1) 3,pos+6)) [some 2,some 65,some 3] [] ⟨rfl,FZ,⟨FZ,⟨(R2 ⟨(congrArg (fun z=>V.t (T.v (Value.int _ z))) (by show pos+1+1+1+1+1+1 = pos+6;omega)),I⟩),FZ⟩⟩,I⟩ ?_ ?_
  ·exact⟨p5.1,by show((0:Nat):Int) +ac l (pos+1+1+1+1+1) 3≤3;omega,(fun s hs=>by cases hs),Int.le_refl _,by show pos+6≤pos+6+ ((0:Nat):Int);omega⟩
  rintro⟨ts,c,q⟩ ⟨i1,i2,i3,i4,i5⟩
  dsimp only at i1 i2 i3 i4 i5
  by_cases hc:0 < c
  ·conv=>whnf
   refine Ws<|g 53 54 []<|J UB<|Wc<|Kt (Wk (Ws (Wb (rgd [[],[],[],[.call (V.s (qp (dS (ac l q 50)))) ([rdC l (q+1)])],[],[],[],[]] ?_))))
   conv=>whnf
   refine⟨⟨I,I,I,⟨UA,I,UA,UA,dZ _ _ OX OX OX⟩,US,Zap,I,UA,I⟩,by kernel_rfl,?_⟩
   refine rg [.i (Prod.fst (Prod.snd (ts,c,q)) - 1)]<|J QZ ?_
   refine⟨(ts++ [qp (dS (ac l q 50))],c - 1,q+1),[some 2,some 65,some 3],[],⟨rfl,FZ,⟨FZ,⟨FZ,⟨(R8 ⟨(congrArg (V.own _) (XJ)),I⟩),I⟩⟩⟩,I⟩,?_,?_⟩
   rotate_left
   (dsimp only;omega)
   dsimp only
   exact⟨by omega,by rw[my];omega,Z4 i3 (ef _),by omega,by rw[my];omega⟩
  ·conv=>whnf
   refine Ws<|g 53 54 []<|J UB<|Wc<|Jf<|We<|g 3 11 []<|J QZ<|W.ret<|EndsW.rt<|J UI ?_
   refine⟨⟨1+ac l pos 5,0,1+ac l (pos+1+1) 3,1+ac l (pos+1) 3,x,ac l (pos+1+1+1+1) 6,emp,ts⟩,q,rfl,rfl,⟨⟨by dsimp only;omega,Nat.zero_le 64,fun s hs=>by have:=i3 s hs;omega⟩,?_⟩,by omega,by omega⟩
   exact⟨⟨by dsimp only;omega,by dsimp only;omega⟩,.inl ⟨by dsimp only;omega,rfl,⟨by dsimp only;omega,by dsimp only;omega⟩,hxb,⟨by dsimp only;omega,by dsimp only;omega⟩,rfl,⟨i3,by dsimp only;omega⟩⟩⟩
 ·by_cases k1:ac l pos 5 = 1
  ·refine gu ?_
   conv=>whnf
   refine g 0 0 []<|J UA<|g 11 18 [.call (V.i (ac l pos 5)) ([rdC l (pos+1),[]]),.i (1+ac l pos 5),.call (V.i (ac l (pos+1) 3)) ([rdC l (pos+1+1),[]]),.i (1+ac l (pos+1) 3)]<|J (QA @aa)<|g 18 27 [.call (V.tup [V.b (decide (1≤1+ac l pos 5∧1+ac l pos 5≤4)),V.b (decide (1+ac l pos 5 = 1∨1+ac l pos 5 = 3)),V.b (decide (1+ac l pos 5 = 3)),V.b (decide (1+ac l pos 5 = 1)),V.b (decide (1+ac l pos 5 = 1∨1+ac l pos 5 = 4))]) O1]<|J QZ<|g 28 30 [.call (V.i (ac l (pos+1+1) 3)) ([rdC l (pos+1+1+1),[]]),.i (1+ac l (pos+1+1) 3)]<|J (QA @aa)<|Ws<|g 8 9 []<|J UA<|Wc<|Jf<|rg []<|J QZ<|Ws<|g 30 35 []<|J UA<|Wc<|Kt (rg [.call (V.i (ac l (pos+1+1+1) 7)) ([rdC l (pos+1+1+1+1),[]]),.n (Int.toNat (ac l (pos+1+1+1) 7)),.x ([T.i x])]<|J (QA @aa) ?_)
   refine Ws<|g 35 42 []<|J UA<|Wc<|Jf<|Wk<|Ws<|g 4 7 []<|J UA<|Wc<|Jf<|Wk<|Ws<|g 7 10 []<|J UA<|Wc<|Jf<|Wk ?_
   refine g 42 65 []<|J QZ<|W.ret<|EndsW.rt<|J UI ?_
   exact⟨⟨1+ac l pos 5,1+ac l (pos+1+1) 3,0,1+ac l (pos+1) 3,x,0,emp,[]⟩,_,rfl,rfl,⟨sm0 emp (Nat.zero_le 64) _ _ _ _ _ _,⟨⟨by dsimp only;omega,by dsimp only;omega⟩,.inr (.inl ⟨by dsimp only;omega,rfl,⟨by dsimp only;omega,by dsimp only;omega⟩,hxb,rfl,rfl,rfl⟩)⟩⟩,by omega,by omega⟩
  ·by_cases k2:ac l pos 5 = 2
   ·refine gu ?_
    conv=>whnf
    refine g 0 0 []<|J UA<|g 11 18 [.call (V.i (ac l pos 5)) ([rdC l (pos+1),[]]),.i (1+ac l pos 5),.call (V.i (ac l (pos+1) 3)) ([rdC l (pos+1+1),[]]),.i (1+ac l (pos+1) 3)]<|J (QA @aa)<|g 18 27 [.call (V.tup [V.b (decide (1≤1+ac l pos 5∧1+ac l pos 5≤4)),V.b (decide (1+ac l pos 5 = 1∨1+ac l pos 5 = 3)),V.b (decide (1+ac l pos 5 = 3)),V.b (decide (1+ac l pos 5 = 1)),V.b (decide (1+ac l pos 5 = 1∨1+ac l pos 5 = 4))]) O1]<|J QZ<|g 28 30 [.call (V.i (ac l (pos+1+1) 3)) ([rdC l (pos+1+1+1),[]]),.i (1+ac l (pos+1+1) 3)]<|J (QA @aa)<|Ws<|g 8 9 []<|J UA<|Wc<|Jf<|rg []<|J QZ<|Ws<|g 30 35 []<|J UA<|Wc<|Kt (rg [.call (V.i (ac l (pos+1+1+1) 7)) ([rdC l (pos+1+1+1+1),[]]),.n (Int.toNat (ac l (pos+1+1+1) 7)),.x ([T.i x])]<|J (QA @aa) ?_)
    refine Ws<|g 35 42 []<|J UA<|Wc<|Kt (rg [.call (V.i (ac l (pos+1+1+1+1) 6)) ([rdC l (pos+1+1+1+1+1),[]])]<|J (QA @aa) (Ws (g 42 46 []<|J UA (Wc<|Kt (rg [.call (V.s (qp (dS (ac l (pos+1+1+1+1+1) 50)))) ([rdC l (pos+1+1+1+1+1+1)])]<|J (QA @dZ) (Ws (g 4 10 []<|J UA (Wc<|Jf<|(Wk ?_)))))))))
    refine g 46 65 []<|J QZ<|W.ret<|EndsW.rt<|J UI ?_
    exact⟨⟨1+ac l pos 5,1+ac l (pos+1+1) 3,0,1+ac l (pos+1) 3,x,ac l (pos+1+1+1+1) 6,qp (dS (ac l (pos+1+1+1+1+1) 50)),[]⟩,_,rfl,rfl,⟨sm0 _ (by rw[ef];omega) _ _ _ _ _ _,⟨⟨by dsimp only;omega,by dsimp only;omega⟩,.inr (.inr (.inl ⟨by dsimp only;omega,rfl,⟨by dsimp only;omega,by dsimp only;omega⟩,hxb,⟨by dsimp only;omega,by dsimp only;omega⟩,by dsimp only;rw[ef];rfl,rfl⟩))⟩⟩,by omega,by omega⟩
   ·by_cases k3:ac l pos 5 = 3
    ·refine gu ?_
     conv=>whnf
     refine g 0 0 []<|J UA<|g 11 18 [.call (V.i (ac l pos 5)) ([rdC l (pos+1),[]]),.i (1+ac l pos 5),.call (V.i (ac l (pos+1) 3)) ([rdC l (pos+1+1),[]]),.i (1+ac l (pos+1) 3)]<|J (QA @aa)<|g 18 27 [.call (V.tup [V.b (decide (1≤1+ac l pos 5∧1+ac l pos 5≤4)),V.b (decide (1+ac l pos 5 = 1∨1+ac l pos 5 = 3)),V.b (decide (1+ac l pos 5 = 3)),V.b (decide (1+ac l pos 5 = 1)),V.b (decide (1+ac l pos 5 = 1∨1+ac l pos 5 = 4))]) O1]<|J QZ<|g 28 30 [.call (V.i (ac l (pos+1+1) 3)) ([rdC l (pos+1+1+1),[]]),.i (1+ac l (pos+1+1) 3)]<|J (QA @aa)<|Ws<|g 8 9 []<|J UA<|Wc<|Kt (rg []<|J QZ (Ws (g 30 33 []<|J UA (Wc<|Kt (rg [.call (V.i (ac l (pos+1+1+1) 7)) ([rdC l (pos+1+1+1+1),[]]),.n (Int.toNat (ac l (pos+1+1+1) 7)),.x ([T.i x])]<|J (QA @aa) ?_)))))
     refine Ws<|g 35 42 []<|J UA<|Wc<|Jf<|Wk<|Ws<|g 4 7 []<|J UA<|Wc<|Jf<|Wk<|Ws<|g 7 10 []<|J UA<|Wc<|Jf<|Wk ?_
     refine g 42 65 []<|J QZ<|W.ret<|EndsW.rt<|J UI ?_
     exact⟨⟨1+ac l pos 5,0,1+ac l (pos+1+1) 3,1+ac l (pos+1) 3,x,0,emp,[]⟩,_,rfl,rfl,⟨sm0 emp (Nat.zero_le 64) _ _ _ _ _ _,⟨⟨by dsimp only;omega,by dsimp only;omega⟩,.inr (.inr (.inr (.inl ⟨by dsimp only;omega,rfl,⟨by dsimp only;omega,by dsimp only;omega⟩,hxb,rfl,rfl,rfl⟩)))⟩⟩,by omega,by omega⟩
    ·refine gu ?_
     conv=>whnf
     refine g 0 0 []<|J UA<|g 11 18 [.call (V.i (ac l pos 5)) ([rdC l (pos+1),[]]),.i (1+ac l pos 5),.call (V.i (ac l (pos+1) 3)) ([rdC l (pos+1+1),[]]),.i (1+ac l (pos+1) 3)]<|J (QA @aa)<|g 18 27 [.call (V.tup [V.b (decide (1≤1+ac l pos 5∧1+ac l pos 5≤4)),V.b (decide (1+ac l pos 5 = 1∨1+ac l pos 5 = 3)),V.b (decide (1+ac l pos 5 = 3)),V.b (decide (1+ac l pos 5 = 1)),V.b (decide (1+ac l pos 5 = 1∨1+ac l pos 5 = 4))]) O1]<|J QZ<|g 28 30 [.call (V.i (ac l (pos+1+1) 3)) ([rdC l (pos+1+1+1),[]]),.i (1+ac l (pos+1+1) 3)]<|J (QA @aa)<|Ws<|g 8 9 []<|J UA<|Wc<|Jf<|rg []<|J QZ<|Ws<|g 30 35 []<|J UA<|Wc<|Jf<|Wk ?_
     refine Ws<|g 4 6 []<|J UA<|Wc<|Jf<|Wk<|Ws<|g 35 43 []<|J UA<|Wc<|Jf<|Wk<|Ws<|g 6 10 []<|J UA<|Wc<|Jf<|Wk ?_
     refine g 46 65 []<|J QZ<|W.ret<|EndsW.rt<|J UI ?_
     exact⟨⟨1+ac l pos 5,1+ac l (pos+1+1) 3,0,1+ac l (pos+1) 3,0,0,emp,[]⟩,_,rfl,rfl,⟨sm0 emp (Nat.zero_le 64) _ _ _ _ _ _,⟨⟨by dsimp only;omega,by dsimp only;omega⟩,.inr (.inr (.inr (.inr ⟨by dsimp only;omega,rfl,⟨by dsimp only;omega,by dsimp only;omega⟩,rfl,rfl,rfl,rfl⟩)))⟩⟩,by omega,by omega⟩
theorem xq(l:List Int)(pos:Int)(h:dM l∧0≤pos∧pos≤1000000):∃ x:Message×Int,F lL [.ptr (rdC l pos)] (bC x.1) [rdC l x.2]∧(lb x.1∧bN x.1)∧pos≤x.2∧x.2≤pos+40:=by
 obtain⟨res,outs,⟨q,pos2,rfl,rfl,h1,h2,h3⟩,hF⟩:=TF l pos h.1 h.2.1 h.2.2
 exact⟨(q,pos2),hF,h1,h2,h3⟩
open Classical in
noncomputable def nw(l:List Int)(pos:Int):Message×Int:=if h:dM l∧0≤pos∧pos≤1000000 then(xq l pos h).choose else(⟨5,1,0,1,0,0,emp,[]⟩,pos)
theorem EK(l:List Int)(pos:Int)(hl:dM l)(h0:0≤pos)(h1:pos≤1000000):F lL [.ptr (rdC l pos)] (bC (nw l pos).1) [rdC l (nw l pos).2]:=by
 have h:dM l∧0≤pos∧pos≤1000000:=⟨hl,h0,h1⟩
 rw[nw,dif_pos h]
 exact(xq l pos h).choose_spec.1
theorem Tn(l:List Int)(pos:Int):(lb (nw l pos).1∧bN (nw l pos).1)∧pos≤(nw l pos).2∧(nw l pos).2≤pos+40:=by
 unfold nw
 split
 ·rename_i h;exact(xq l pos h).choose_spec.2
 ·exact⟨⟨⟨Nat.zero_le _,Nat.zero_le 64,fun s hs=>by cases hs⟩,⟨⟨by dsimp only;omega,by dsimp only;omega⟩,.inr (.inr (.inr (.inr ⟨rfl,rfl,⟨by dsimp only;omega,by dsimp only;omega⟩,rfl,rfl,rfl,rfl⟩)))⟩⟩,Int.le_refl _,by dsimp only;omega⟩
end Go.K
end
section
open Go Go.Tm Go.Proofs
namespace Go.K
attribute [local irreducible] ByteArray.extract
end Go.K
end
section
open Go Go.Tm Go.Proofs
namespace Go.K
theorem Xy{l:List Int}(h8:∀ x∈l,0≤x∧x≤255):dM (l.take 2000):=⟨by rw[List.length_take];omega,fun x hx=>h8 x (List.mem_of_mem_take hx)⟩
end Go.K
end
section
open Go Go.Tm Go.Proofs
namespace Go.K
attribute [local irreducible] ByteArray.extract
end Go.K
end
section
open Go Go.Tm Go.Proofs
namespace Go.K
def ic(w:Worker):Prop:=(1≤w.lease∧w.lease≤300000000)∧(0≤w.task∧w.task≤39)
def fQ(w:Worker):Prop:=w.state = 0∧w.lease = 0∧w.task = 0∧w.cost = 0∧w.left = 0∧(w.inputs.length:Int) = 0∧w.text = emp
def eW(w:Worker):Prop:=w.state = 1∧ic w∧(1≤w.cost∧w.cost≤20)∧(1≤w.left∧w.left≤w.cost)∧fm w.inputs∧w.text = emp
def fP(w:Worker):Prop:=w.state = 2∧ic w∧w.cost = 0∧w.left = 0∧(w.inputs.length:Int) = 0∧(w.text.size:Int) = 8
def av(w:Worker):Prop:=(1≤w.number∧w.number≤8)∧(1≤w.epoch∧w.epoch≤300)∧(0≤w.since∧w.since≤1000000)∧(w.up = true∨(w.state = 0∧w.since = 0))∧(fQ w∨eW w∨fP w)
instance (w:Worker):Decidable (av w):=by unfold av fQ eW fP ic;infer_instance
theorem fi(w:Worker)(hl:w.inputs.length≤9223372036854775806):F rD [.val (dP w)] (.b (decide (av w))) O1:=by
 refine rO ?_
 conv=>whnf
 refine g 0 1 []<|J QZ<|Ws ?_
 by_cases h1:(1:Int)≤Worker.number w∧Worker.number w≤(8:Int)
 by_cases h2:(1:Int)≤Worker.epoch w∧Worker.epoch w≤(300:Int)
 refine g 14 17 [.call (V.b (decide (1≤w.number∧w.number≤8))) O3,BF,BF,BF,.call (V.b (decide (1≤w.epoch∧w.epoch≤300))) O3,BF,BF,BF,BF,BF,.call (V.b (decide (0≤w.since∧w.since≤1000000))) O3,BF,BF]<|J (QA @ai)<|Wc<|JN (fun h3=>?_) fun h3=>?_
 refine g 9 11 []<|J UA<|RT ?_
 rotate_left
 refine Wk<|Ws ?_
 by_cases h4:Worker.up w = true
 refine g 25 32 (RL 9 BF [])<|J QZ<|Wc<|Jr<|Wk ?_
 by_cases h5:(1:Int)≤Worker.lease w∧Worker.lease w≤(300000000:Int)
 refine g 32 41 [.call (V.b (decide (1≤w.lease∧w.lease≤300000000))) O3,BT,BT,BT,.call (V.b (decide (0≤w.task∧w.task≤39))) O3,BT]<|J (QA @ai)<|Ws<|g 19 24 []<|J UB<|Wb<|g 9 11 []<|J UB<|Wc<|JD (fun h6=>?_) fun h6=>?_
 refine g 5 74 (RL 21 BF [])<|J QZ<|RT ?_
 rotate_left
 refine g 7 9 []<|J UB<|Wc<|JD (fun h7=>?_) fun h7=>?_
 by_cases h8:(0:Int)≤Worker.task w∧Worker.task w≤(39:Int)
 by_cases h9:(1:Int)≤Worker.cost w∧Worker.cost w≤(20:Int)
 by_cases h10:(1:Int)≤Worker.left w∧Worker.left w≤Worker.cost w
 by_cases h11:fm (Worker.inputs w)
 refine g 5 99 (BT::BT::BT::.call (V.b (decide (1≤w.cost∧w.cost≤20))) O3::(RL 6 BT [.call (V.b (decide (1≤w.left∧w.left≤w.cost))) O3,BT,BT,BT,BT,.call (V.b (decide (fm w.inputs))) O1,BT,BT,BT,BT,BT]))<|J (QB @ai @je)<|RT ?_
 rotate_left
 refine g 5 99 (BT::BT::BT::.call (V.b (decide (1≤w.cost∧w.cost≤20))) O3::(RL 6 BT [.call (V.b (decide (1≤w.left∧w.left≤w.cost))) O3,BT,BT,BT,BT,.call (V.b (decide (fm w.inputs))) O1,BT,BF,BF,BF,BF]))<|J (QB @ai @je)<|RT ?_
 rotate_left
 refine g 5 99 (BT::BT::BT::.call (V.b (decide (1≤w.cost∧w.cost≤20))) O3::(RL 6 BT (.call (V.b (decide (1≤w.left∧w.left≤w.cost))) O3::BT::(RL 8 BF []))))<|J (QA @ai)<|RT ?_
 rotate_left
 refine g 5 99 (BT::BT::BT::.call (V.b (decide (1≤w.cost∧w.cost≤20))) O3::BT::(RL 14 BF []))<|J (QA @ai)<|RT ?_
 rotate_left
 refine g 5 99 (RL 18 BF [])<|J QZ<|RT ?_
 rotate_left
 refine g 18 76 []<|J UB<|Wc<|JD (fun h8=>?_) fun h8=>?_
 by_cases h9:(0:Int)≤Worker.task w∧Worker.task w≤(39:Int)
 by_cases h10:Worker.cost w = (0:Int)
 by_cases h11:Worker.left w = (0:Int)
 by_cases h12:(↑(List.length (List.map ah (Worker.inputs w))):Int) = (0:Int)
 simp only[LM]at h12
 refine g 5 124 (RL 18 BT [])<|J QZ<|RT ?_
 rotate_left
 simp only[LM]at h12
 refine g 5 124 (RL 13 BT [BF,BF,BF,BF,BF])<|J QZ<|RT ?_
 rotate_left
 refine g 5 124 (RL 8 BT (RL 10 BF []))<|J QZ<|RT ?_
 rotate_left
 refine g 5 124 (BT::BT::BT::BT::(RL 14 BF []))<|J QZ<|RT ?_
 rotate_left
 refine g 5 124 (RL 18 BF [])<|J QZ<|RT ?_
 rotate_left
 refine Wk<|g 5 101 []<|J UA<|RT ?_
 rotate_left
 refine g 32 41 [.call (V.b (decide (1≤w.lease∧w.lease≤300000000))) O3,BF,BF,BF,BF]<|J (QA @ai)<|Ws<|g 19 24 []<|J UB<|Wb<|g 9 11 []<|J UB<|Wc<|JD (fun h6=>?_) fun h6=>?_
 by_cases h7:Worker.lease w = (0:Int)
 by_cases h8:Worker.task w = (0:Int)
 by_cases h9:Worker.cost w = (0:Int)
 by_cases h10:Worker.left w = (0:Int)
 by_cases h11:(↑(List.length (List.map ah (Worker.inputs w))):Int) = (0:Int)
 simp only[LM]at h11
 refine g 5 74 (RL 21 BT [])<|J QZ<|RT ?_
 rotate_left
 simp only[LM]at h11
 refine g 5 74 (RL 17 BT [BF,BF,BF,BF])<|J QZ<|RT ?_
 rotate_left
 refine g 5 74 (RL 12 BT (RL 9 BF []))<|J QZ<|RT ?_
 rotate_left
 refine g 5 74 (RL 8 BT (RL 13 BF []))<|J QZ<|RT ?_
 rotate_left
 refine g 5 74 (BT::BT::BT::BT::(RL 17 BF []))<|J QZ<|RT ?_
 rotate_left
 refine g 5 74 (RL 21 BF [])<|J QZ<|RT ?_
 rotate_left
 refine g 7 9 []<|J UB<|Wc<|JD (fun h7=>?_) fun h7=>?_
 refine g 5 99 (RL 18 BF [])<|J QZ<|RT ?_
 rotate_left
 refine g 18 76 []<|J UB<|Wc<|JD (fun h8=>?_) fun h8=>?_
 refine g 5 124 (RL 18 BF [])<|J QZ<|RT ?_
 rotate_left
 refine Wk<|g 5 101 []<|J UA<|RT ?_
 rotate_left
 replace h4:=Bool.eq_false_iff.2 h4
 by_cases h5:Worker.state w = (0:Int)
 refine g 25 32 [BT,BT,BT,BT,BF,BF,BF,BT,BF,BT]<|J QZ<|Wc<|JN (fun h6=>?_) fun h6=>?_
 refine g 19 24 []<|J UA<|RT ?_
 rotate_left
 refine Wk ?_
 by_cases h7:(1:Int)≤Worker.lease w∧Worker.lease w≤(300000000:Int)
 refine g 32 41 [.call (V.b (decide (1≤w.lease∧w.lease≤300000000))) O3,BT,BT,BT,.call (V.b (decide (0≤w.task∧w.task≤39))) O3,BT]<|J (QA @ai)<|Ws<|g 19 24 []<|J UB<|Wb<|g 9 11 []<|J UB<|Wc<|Kt (g 5 74 (RL 21 BF [])<|J QZ (RT ?_))
 rotate_left
 refine g 32 41 [.call (V.b (decide (1≤w.lease∧w.lease≤300000000))) O3,BF,BF,BF,BF]<|J (QA @ai)<|Ws<|g 19 24 []<|J UB<|Wb<|g 9 11 []<|J UB<|Wc<|Kt ?_
 by_cases h8:Worker.lease w = (0:Int)
 by_cases h9:Worker.task w = (0:Int)
 by_cases h10:Worker.cost w = (0:Int)
 by_cases h11:Worker.left w = (0:Int)
 by_cases h12:(↑(List.length (List.map ah (Worker.inputs w))):Int) = (0:Int)
 simp only[LM]at h12
 refine g 5 74 (RL 21 BT [])<|J QZ<|RT ?_
 rotate_left
 simp only[LM]at h12
 refine g 5 74 (RL 17 BT [BF,BF,BF,BF])<|J QZ<|RT ?_
 rotate_left
 refine g 5 74 (RL 12 BT (RL 9 BF []))<|J QZ<|RT ?_
 rotate_left
 refine g 5 74 (RL 8 BT (RL 13 BF []))<|J QZ<|RT ?_
 rotate_left
 refine g 5 74 (BT::BT::BT::BT::(RL 17 BF []))<|J QZ<|RT ?_
 rotate_left
 refine g 5 74 (RL 21 BF [])<|J QZ<|RT ?_
 rotate_left
 refine g 25 32 (RL 10 BT [])<|J QZ<|Wc<|Kr (g 19 24 []<|J UA (RT ?_))
 rotate_left
 refine g 14 17 [.call (V.b (decide (1≤w.number∧w.number≤8))) O3,BF,BF,BF,.call (V.b (decide (1≤w.epoch∧w.epoch≤300))) O3,BF,BF,BT,BT,BT,BT,BT]<|J (QA @ai)<|Wc<|Kr (g 9 11 []<|J UA (RT ?_))
 rotate_left
 refine g 14 17 (.call (V.b (decide (1≤w.number∧w.number≤8))) O3::(RL 10 BT []))<|J (QA @ai)<|Wc<|Kr (g 9 11 []<|J UA (RT ?_))
 rotate_left
 all_goals (try simp only[List.length_map,decide_eq_true_eq,Bool.not_eq_true,Bool.not_eq_true',decide_eq_false_iff_not]at *)
 all_goals first
  |exact vbf (by unfold av fQ eW fP ic;grind)
  |exact vbt (by unfold av fQ eW fP ic;grind)
  |exact vbd (by unfold av fQ eW fP ic;grind)
theorem au(w:Worker)(hl:w.inputs.length≤9223372036854775806):F ro [.val (dP w)] (.b (decide (av w))) O1:=by
 refine rI ?_
 conv=>whnf
 refine g 0 1 []<|J QZ<|Ws ?_
 by_cases h1:(1:Int)≤Worker.number w∧Worker.number w≤(8:Int)
 by_cases h2:(1:Int)≤Worker.epoch w∧Worker.epoch w≤(300:Int)
 refine g 9 13 [.call (V.b (decide (1≤w.number∧w.number≤8))) O3,BF,BF,BF,.call (V.b (decide (1≤w.epoch∧w.epoch≤300))) O3,BF,BF,BF,BF,BF,.call (V.b (decide (0≤w.since∧w.since≤1000000))) O3,BF,BF]<|J (QA @aw)<|Wc<|JN (fun h3=>?_) fun h3=>?_
 refine g 15 18 []<|J UA<|RT ?_
 rotate_left
 refine Wk<|Ws ?_
 by_cases h4:Worker.up w = true
 refine g 26 31 (RL 9 BF [])<|J QZ<|Wc<|Jr<|Wk<|Ws<|g 5 8 []<|J UB<|Wb<|g 15 18 []<|J UB<|Wc<|JD (fun h5=>?_) fun h5=>?_
 by_cases h6:Worker.lease w = (0:Int)
 by_cases h7:Worker.task w = (0:Int)
 by_cases h8:Worker.cost w = (0:Int)
 by_cases h9:Worker.left w = (0:Int)
 by_cases h10:(↑(List.length (List.map ah (Worker.inputs w))):Int) = (0:Int)
 simp only[LM]at h10
 refine g 8 65 (RL 21 BT [])<|J QZ<|RT ?_
 rotate_left
 simp only[LM]at h10
 refine g 8 65 (RL 17 BT [BF,BF,BF,BF])<|J QZ<|RT ?_
 rotate_left
 refine g 8 65 (RL 12 BT (RL 9 BF []))<|J QZ<|RT ?_
 rotate_left
 refine g 8 65 (RL 8 BT (RL 13 BF []))<|J QZ<|RT ?_
 rotate_left
 refine g 8 65 (BT::BT::BT::BT::(RL 17 BF []))<|J QZ<|RT ?_
 rotate_left
 refine g 8 65 (RL 21 BF [])<|J QZ<|RT ?_
 rotate_left
 refine g 21 24 []<|J UB<|Wc<|JD (fun h6=>?_) fun h6=>?_
 by_cases h7:(1:Int)≤Worker.lease w∧Worker.lease w≤(300000000:Int)
 by_cases h8:(0:Int)≤Worker.task w∧Worker.task w≤(39:Int)
 by_cases h9:(1:Int)≤Worker.cost w∧Worker.cost w≤(20:Int)
 by_cases h10:(1:Int)≤Worker.left w∧Worker.left w≤Worker.cost w
 by_cases h11:fm (Worker.inputs w)
 refine g 8 97 (.call (V.b (decide (1≤w.lease∧w.lease≤300000000))) O1::BT::BT::BT::.call (V.b (decide (0≤w.task∧w.task≤39))) O3::BT::BT::BT::BT::.call (V.b (decide (1≤w.cost∧w.cost≤20))) O3::(RL 6 BT [.call (V.b (decide (1≤w.left∧w.left≤w.cost))) O3,BT,BT,BT,BT,.call (V.b (decide (fm w.inputs))) O1,BT,BT,BT,BT,BT]))<|J (QC @aC @aw @fB)<|RT ?_
 rotate_left
 refine g 8 97 (.call (V.b (decide (1≤w.lease∧w.lease≤300000000))) O1::BT::BT::BT::.call (V.b (decide (0≤w.task∧w.task≤39))) O3::BT::BT::BT::BT::.call (V.b (decide (1≤w.cost∧w.cost≤20))) O3::(RL 6 BT [.call (V.b (decide (1≤w.left∧w.left≤w.cost))) O3,BT,BT,BT,BT,.call (V.b (decide (fm w.inputs))) O1,BT,BF,BF,BF,BF]))<|J (QC @aC @aw @fB)<|RT ?_
 rotate_left
 refine g 8 97 (.call (V.b (decide (1≤w.lease∧w.lease≤300000000))) O1::BT::BT::BT::.call (V.b (decide (0≤w.task∧w.task≤39))) O3::BT::BT::BT::BT::.call (V.b (decide (1≤w.cost∧w.cost≤20))) O3::(RL 6 BT (.call (V.b (decide (1≤w.left∧w.left≤w.cost))) O3::BT::(RL 8 BF []))))<|J (QB @aC @aw)<|RT ?_
 rotate_left
 refine g 8 97 (.call (V.b (decide (1≤w.lease∧w.lease≤300000000))) O1::BT::BT::BT::.call (V.b (decide (0≤w.task∧w.task≤39))) O3::BT::BT::BT::BT::.call (V.b (decide (1≤w.cost∧w.cost≤20))) O3::BT::(RL 14 BF []))<|J (QB @aC @aw)<|RT ?_
 rotate_left
 refine g 8 97 (.call (V.b (decide (1≤w.lease∧w.lease≤300000000))) O1::BT::BT::BT::.call (V.b (decide (0≤w.task∧w.task≤39))) O3::BT::(RL 18 BF []))<|J (QB @aC @aw)<|RT ?_
 rotate_left
 refine g 8 97 (.call (V.b (decide (1≤w.lease∧w.lease≤300000000))) O1::(RL 22 BF []))<|J (QA @aC)<|RT ?_
 rotate_left
 refine g 25 67 []<|J UB<|Wc<|JD (fun h7=>?_) fun h7=>?_
 by_cases h8:(1:Int)≤Worker.lease w∧Worker.lease w≤(300000000:Int)
 by_cases h9:(0:Int)≤Worker.task w∧Worker.task w≤(39:Int)
 by_cases h10:(↑(ByteArray.size (Worker.text w)):Int) = (8:Int)
 by_cases h11:Worker.cost w = (0:Int)
 by_cases h12:Worker.left w = (0:Int)
 refine g 8 129 (.call (V.b (decide (1≤w.lease∧w.lease≤300000000))) O1::BT::BT::BT::.call (V.b (decide (0≤w.task∧w.task≤39))) O3::(RL 19 BT []))<|J (QB @aC @aw)<|RT ?_
 rotate_left
 refine g 8 129 (.call (V.b (decide (1≤w.lease∧w.lease≤300000000))) O1::BT::BT::BT::.call (V.b (decide (0≤w.task∧w.task≤39))) O3::(RL 14 BT [BF,BF,BF,BF,BF]))<|J (QB @aC @aw)<|RT ?_
 rotate_left
 refine g 8 129 (.call (V.b (decide (1≤w.lease∧w.lease≤300000000))) O1::BT::BT::BT::.call (V.b (decide (0≤w.task∧w.task≤39))) O3::(RL 10 BT (RL 9 BF [])))<|J (QB @aC @aw)<|RT ?_
 rotate_left
 refine g 8 129 (.call (V.b (decide (1≤w.lease∧w.lease≤300000000))) O1::BT::BT::BT::.call (V.b (decide (0≤w.task∧w.task≤39))) O3::(RL 6 BT (RL 13 BF [])))<|J (QB @aC @aw)<|RT ?_
 rotate_left
 refine g 8 129 (.call (V.b (decide (1≤w.lease∧w.lease≤300000000))) O1::BT::BT::BT::.call (V.b (decide (0≤w.task∧w.task≤39))) O3::BT::(RL 18 BF []))<|J (QB @aC @aw)<|RT ?_
 rotate_left
 refine g 8 129 (.call (V.b (decide (1≤w.lease∧w.lease≤300000000))) O1::(RL 22 BF []))<|J (QA @aC)<|RT ?_
 rotate_left
 refine Wk<|g 8 99 []<|J UA<|RT ?_
 rotate_left
 replace h4:=Bool.eq_false_iff.2 h4
 by_cases h5:Worker.state w = (0:Int)
 refine g 26 31 [BT,BT,BT,BT,BF,BF,BF,BT,BF,BT]<|J QZ<|Wc<|JN (fun h6=>?_) fun h6=>?_
 refine g 5 8 []<|J UA<|RT ?_
 rotate_left
 refine Wk<|Ws<|g 5 8 []<|J UB<|Wb<|g 15 18 []<|J UB<|Wc<|Kt ?_
 by_cases h7:Worker.lease w = (0:Int)
 by_cases h8:Worker.task w = (0:Int)
 by_cases h9:Worker.cost w = (0:Int)
 by_cases h10:Worker.left w = (0:Int)
 by_cases h11:(↑(List.length (List.map ah (Worker.inputs w))):Int) = (0:Int)
 simp only[LM]at h11
 refine g 8 65 (RL 21 BT [])<|J QZ<|RT ?_
 rotate_left
 simp only[LM]at h11
 refine g 8 65 (RL 17 BT [BF,BF,BF,BF])<|J QZ<|RT ?_
 rotate_left
 refine g 8 65 (RL 12 BT (RL 9 BF []))<|J QZ<|RT ?_
 rotate_left
 refine g 8 65 (RL 8 BT (RL 13 BF []))<|J QZ<|RT ?_
 rotate_left
 refine g 8 65 (BT::BT::BT::BT::(RL 17 BF []))<|J QZ<|RT ?_
 rotate_left
 refine g 8 65 (RL 21 BF [])<|J QZ<|RT ?_
 rotate_left
 refine g 26 31 (RL 10 BT [])<|J QZ<|Wc<|Kr (g 5 8 []<|J UA (RT ?_))
 rotate_left
 refine g 9 13 [.call (V.b (decide (1≤w.number∧w.number≤8))) O3,BF,BF,BF,.call (V.b (decide (1≤w.epoch∧w.epoch≤300))) O3,BF,BF,BT,BT,BT,BT,BT]<|J (QA @aw)<|Wc<|Kr (g 15 18 []<|J UA (RT ?_))
 rotate_left
 refine g 9 13 (.call (V.b (decide (1≤w.number∧w.number≤8))) O3::(RL 10 BT []))<|J (QA @aw)<|Wc<|Kr (g 15 18 []<|J UA (RT ?_))
 rotate_left
 all_goals (try simp only[List.length_map,decide_eq_true_eq,Bool.not_eq_true,Bool.not_eq_true',decide_eq_false_iff_not]at *)
 all_goals first
  |exact vbf (by unfold av fQ eW fP ic;grind)
  |exact vbt (by unfold av fQ eW fP ic;grind)
  |exact vbd (by unfold av fQ eW fP ic;grind)
end Go.K
end
section
open Go Go.Tm Go.Proofs
namespace Go.K
theorem ra(w:Worker)(s:Int):F qC [.val (dP w),.val (.i s)] (aA ⟨w.number,w.epoch,w.up,0,0,0,0,0,[],emp,s⟩) O2:=by
 refine qN ?_
 conv=>whnf
 refine g 0 0 []<|J QZ<|g 5 13 []<|J QZ<|RT ?_
 rfl
theorem jK(w:Worker)(s:Int):F pw [.val (dP w),.val (.i s)] (aA ⟨w.number,w.epoch,w.up,0,0,0,0,0,[],emp,s⟩) O2:=by
 refine py ?_
 conv=>whnf
 refine g 0 0 []<|J QZ<|g 5 13 []<|J QZ<|RT ?_
 rfl
theorem gg(xs:List ByteArray)(hl:xs.length≤1048576):F Hd [.val (.t (pp xs))] (.own [false] (xs.map ah)) O1:=by
 refine Hx ?_
 conv=>whnf
 refine g 0 0 []<|J UA<|g 3 6 []<|J QZ<|RT ?_
 rfl
theorem aG(w:Worker)(hl:w.inputs.length≤1048576):F Ds [.val (dP w)] (aA w) O1:=by
 refine D7 ?_
 conv=>whnf
 refine g 0 1 []<|J QZ<|g 3 8 []<|J QZ<|g 1 2 []<|J QZ<|RT ?_
 rfl
theorem gI(w:Worker)(hl:w.inputs.length≤1048576):F rz [.val (dP w)] (aA w) O1:=by
 refine rN ?_
 conv=>whnf
 refine g 0 1 []<|J QZ<|g 3 7 [.call (V.own [false] (List.map ah w.inputs)) O1]<|J (QA @gg)<|g 1 2 []<|J QZ<|RT ?_
 rfl
def mM(w:Worker):Worker:=if av w then⟨w.number,w.epoch,false,0,0,0,0,0,[],emp,0⟩else fI
def mL(w:Worker):Worker:=if av w then(if w.up = true∨300≤w.epoch then w else⟨w.number,w.epoch+1,true,0,0,0,0,0,[],emp,3⟩)else fI
theorem OZ{w:Worker}(h:¬av w):mM w = fI:=if_neg h
theorem OY{w:Worker}(h:av w):mM w = ⟨w.number,w.epoch,false,0,0,0,0,0,[],emp,0⟩:=if_pos h
theorem lj(w:Worker)(hl:w.inputs.length≤1048576):F tf [.val (dP w)] (aA (mM w)) O1:=by
 refine tu ?_
 conv=>whnf
 refine g 0 1 []<|J QZ<|Ws<|g 4 6 [.call (V.b (decide (av w))) O1]<|J (QA @au)<|Wc<|JN (fun h1=>?_) fun h1=>?_
 refine g 6 8 []<|J QZ<|RT ?_
 rotate_left
 refine Wk<|g 6 10 [.call (aA {number:=w.number,epoch:=w.epoch,up:=w.up,state:=0,lease:=0,task:=0,cost:=0,left:=0,inputs:=[],text:=emp,since:=0:Worker}) O2]<|J (QA @ra)<|g 1 2 []<|J UV<|g 3 12 []<|J QZ<|RT ?_
 rotate_left
 ·exact congrArg aA (Eq.symm (OZ h1))
 ·exact congrArg aA (Eq.symm (OY h1))
theorem KY{w:Worker}(h:av w):1≤w.epoch∧w.epoch≤300:=h.2.1
theorem N9{w:Worker}(h:¬av w):mL w = fI:=if_neg h
theorem pV{w:Worker}(h:av w)(h1:w.up = true∨300≤w.epoch):mL w = w:=by rw[mL,if_pos h,if_pos h1]
theorem N8{w:Worker}(h:av w)(h1:¬(w.up = true∨300≤w.epoch)):mL w = ⟨w.number,w.epoch+1,true,0,0,0,0,0,[],emp,3⟩:=by rw[mL,if_pos h,if_neg h1]
theorem tG(w:Worker)(hl:w.inputs.length≤1048576):F te [.val (dP w)] (aA (mL w)) O1:=by
 by_cases h:av w
 ·have he:=KY h
  refine lg ?_
  conv=>whnf
  refine g 0 1 []<|J QZ<|Ws<|g 4 6 [.call (V.b (decide (av w))) O1]<|J (QA @au)<|Wc<|Jn<|Wk<|Ws ?_
  by_cases h1:Worker.up w = true
  refine g 6 14 [BT,BT,BT,BT]<|J QZ<|Wc<|Kr (g 14 17 [.call (aA w) O1]<|J (QA @aG) (RT ?_))
  rotate_left
  replace h1:=Bool.eq_false_iff.2 h1
  refine g 6 14 [BF,BF,BF,BF]<|J QZ<|Wc<|JD (fun h2=>?_) fun h2=>?_
  refine g 14 17 [.call (aA w) O1]<|J (QA @aG)<|RT ?_
  rotate_left
  refine Wk<|g 14 19 [.call (aA {number:=w.number,epoch:=w.epoch,up:=w.up,state:=0,lease:=0,task:=0,cost:=0,left:=0,inputs:=[],text:=emp,since:=3:Worker}) O2]<|J (QA @ra)<|g 19 20 []<|J UV<|g 20 24 [.i (w.epoch+1)]<|J QZ<|g 3 25 []<|J QZ<|RT ?_
  rotate_left
  ·rw[pV h (by grind)]
  ·rw[pV h (by grind)]
  ·exact congrArg aA (Eq.symm (N8 h (by grind)))
 ·refine lg ?_
  conv=>whnf
  refine g 0 1 []<|J QZ<|Ws<|g 4 6 [.call (V.b (decide (av w))) O1]<|J (QA @au)<|Wc<|Kn (g 6 8 []<|J QZ (RT ?_))
  exact congrArg aA (Eq.symm (N9 h))
end Go.K
end
section
open Go Go.Tm Go.Proofs
namespace Go.K
structure Log where
 safe:List ByteArray
 loose:List ByteArray
 deriving DecidableEq
abbrev RW(x:Log):V:=.agg [.t (.slc [false] (x.safe.map ah)),.t (.slc [false] (x.loose.map ah))]
abbrev RX(x:Log):V:=.agg [.own [false] (x.safe.map ah),.own [false] (x.loose.map ah)]
structure Job where
 lease:Int
 worker:Int
 til:Int
 deriving DecidableEq
abbrev aH(x:Job):List T:=[.i x.lease,.i x.worker,.i x.til]
abbrev dB:List Bool:=[false,false,false]
abbrev fA:Job:=⟨0,0,0⟩
structure Seat where
 free:Bool
 epoch:Int
 deriving DecidableEq
abbrev aE(x:Seat):List T:=[.b x.free,.i x.epoch]
abbrev bw:List Bool:=[false,false]
abbrev iR:Seat:=⟨false,0⟩
structure Owed where
 worker:Int
 lease:Int
 task:Int
 deriving DecidableEq
abbrev aJ(x:Owed):List T:=[.i x.worker,.i x.lease,.i x.task]
abbrev bx:List Bool:=[false,false,false]
structure Boss where
 workers:Int
 up:Bool
 now:Int
 since:Int
 epoch:Int
 given:Int
 log:Log
 results:List ByteArray
 jobs:List Job
 seats:List Seat
 owed:List Owed
 deriving DecidableEq
abbrev ge(x:Boss):V:=.agg [.t (.i x.workers),.t (.b x.up),.t (.i x.now),.t (.i x.since),.t (.i x.epoch),.t (.i x.given),.t (.slc [false] (x.log.safe.map ah)),.t (.slc [false] (x.log.loose.map ah)),.t (.slc [false] (x.results.map ah)),.t (.slc dB (x.jobs.map aH)),.t (.slc bw (x.seats.map aE)),.t (.slc bx (x.owed.map aJ))]
abbrev aF(x:Boss):V:=.agg [.t (.i x.workers),.t (.b x.up),.t (.i x.now),.t (.i x.since),.t (.i x.epoch),.t (.i x.given),.own [false] (x.log.safe.map ah),.own [false] (x.log.loose.map ah),.own [false] (x.results.map ah),.own dB (x.jobs.map aH),.own bw (x.seats.map aE),.own bx (x.owed.map aJ)]
abbrev iT:Boss:=⟨0,false,0,0,0,0,⟨[],[]⟩,[],[],[],[]⟩
def atS(rs:List ByteArray)(k:Int):ByteArray:=(rs[k.toNat]?).getD emp
def oI(ts:List Task)(n:Nat):List Int:=((ts[n]?).map Task.deps).getD []
structure JobOk (b:Boss) (ts:List Task) (i:Nat) (j:Job):Prop where
 lease:(b.epoch - 1) * 1000000+1≤j.lease∧j.lease≤(b.epoch - 1) * 1000000+b.given
 worker:1≤j.worker∧j.worker≤b.workers
 til:b.now+1≤j.til∧j.til≤b.now+12
 res:atS b.results (i:Int) = emp
 ready:dj b.results (oI ts i)
 once:j.lease ∉ (b.jobs.take i).map Job.lease
def II(b:Boss)(ts:List Task)(i:Nat)(j:Job):Prop:=(j.lease = 0→j.worker = 0∧j.til = 0)∧(¬j.lease = 0→JobOk b ts i j)
def iW(b:Boss)(ts:List Task)(n:Nat):Prop:=∀ (m:Nat) (j:Job),m < n→b.jobs[m]? = some j→II b ts m j
structure OwedOk (b:Boss) (ts:List Task) (o:Owed):Prop where
 worker:1≤o.worker∧o.worker≤b.workers
 lease:1≤o.lease∧o.lease≤300000000
 task:0≤o.task∧o.task≤(ts.length:Int) - 1
 res:¬atS b.results o.task = emp
structure UpOk (b:Boss) (ts:List Task) (st:Story):Prop where
 epoch:b.epoch = st.epoch
 pos:1≤b.epoch
 rlen:b.results.length = ts.length
 jlen:b.jobs.length = ts.length
 slen:(b.seats.length:Int) = b.workers
 res:b.results = st.results
 since:0≤b.since∧b.since≤1
 given:0≤b.given∧b.given≤1000000
 olen:b.owed.length≤2000
 jobs:iW b ts b.jobs.length
 seats:∀ s∈b.seats,0≤s.epoch∧s.epoch≤300
 owed:∀ o∈b.owed,OwedOk b ts o
structure DownOk (b:Boss):Prop where
 loose:b.log.loose.length = 0
 since:b.since = 0
 epoch:b.epoch = 0
 given:b.given = 0
 res:b.results.length = 0
 jobs:b.jobs.length = 0
 seats:b.seats.length = 0
 owed:b.owed.length = 0
noncomputable def cA(b:Boss)(p:Plan):Story:=ax p (b.log.safe++b.log.loose)
structure BossOk (b:Boss) (p:Plan):Prop where
 plan:am p.tasks = 0
 workers:1≤b.workers∧b.workers≤8
 now:0≤b.now∧b.now≤1000000
 code:(cA b p).code = 0
 up:b.up = true→UpOk b p.tasks (cA b p)
 down:b.up = false→DownOk b
noncomputable instance (b:Boss) (p:Plan):Decidable (BossOk b p):=Classical.propDecidable _
theorem gP{b:Boss}{p:Plan}(hup:b.up = true)(h:¬UpOk b p.tasks (cA b p)):¬BossOk b p:=fun q=>h (q.up hup)
theorem BW{b:Boss}{p:Plan}(hup:b.up = false)(h:¬DownOk b):¬BossOk b p:=fun q=>h (q.down hup)
theorem cF{p:Plan}{xs:List ByteArray}(h:(ax p xs).code = 0):am p.tasks = 0∧xs.length≤310∧(ax p xs).results.length = p.tasks.length∧∃ t,ld p.tasks (some (mN p.tasks)) xs = some t∧ax p xs = ⟨0,t.epoch,t.results⟩:=by
 unfold ax at h ⊢
 by_cases hq:am p.tasks = 0∧xs.length≤310
 ·rw[if_pos hq]at h ⊢
  cases hr:ld p.tasks (some (mN p.tasks)) xs with
  |none=>rw[hr]at h;cases h
  |some t =>
   refine⟨hq.1,hq.2,?_,t,rfl,rfl⟩
   have:=uw p.tasks xs _ _ hr
   rw[mN,List.length_replicate]at this
   exact this
 ·rw[if_neg hq]at h;cases h
theorem S4{ts:List Task}{t t':Tale}{s:ByteArray}(h:en ts t s = some t')(h0:0≤t.epoch∧t.epoch≤300):0≤t'.epoch∧t'.epoch≤300:=by
 unfold en at h
 split at h
 ·cases h
 ·rename_i e he
  have hr:=kF he
  split at h
  ·split at h
   ·cases h;have:=hr.1;exact⟨by dsimp only;omega,this.2⟩
   ·cases h
  ·split at h
   ·cases h;exact h0
   ·cases h
theorem N7{ts:List Task}:∀ {l:List ByteArray} {t t':Tale},ld ts (some t) l = some t'→0≤t.epoch∧t.epoch≤300→0≤t'.epoch∧t'.epoch≤300
 |[],t,t',h,h0=>by rw[jy]at h;cases h;exact h0
 |s :: l,t,t',h,h0=>by
  rw[pU]at h
  cases hs:en ts t s with
  |none=>rw[hs,jk]at h;cases h
  |some u=>rw[hs]at h;exact N7 h (S4 hs h0)
theorem fG{p:Plan}{xs:List ByteArray}(h:(ax p xs).code = 0):0≤(ax p xs).epoch∧(ax p xs).epoch≤300:=by
 obtain⟨_,_,_,t,h1,h2⟩:=cF h
 rw[h2]
 exact N7 h1 ⟨Int.le_refl _,by show(0:Int)≤300;omega⟩
theorem oo{b:Boss}{ts:List Task}{st:Story}{n:Nat}{j:Job}(hj:b.jobs[n]? = some j)(h:¬II b ts n j):¬UpOk b ts st:=fun q=>h (q.jobs n j (List.getElem?_eq_some_iff.1 hj).1 hj)
theorem qa{b:Boss}{ts:List Task}{n:Nat}{j:Job}(hc:iW b ts n)(hj:b.jobs[n]? = some j)(h:II b ts n j):iW b ts (n+1):=fun m k hm hk=>by
 by_cases e:m = n
 ·subst e;rw[hj]at hk;cases hk;exact h
 ·exact hc m k OM hk
theorem kJ{rs:List ByteArray}{n:Nat}{y:ByteArray}(h:rs[n]? = some y):atS rs (n:Int) = y:=by unfold atS;rw[Int.toNat_natCast,h];rfl
theorem kZ{rs:List ByteArray}{k:Int}{y:ByteArray}(h:rs[k.toNat]? = some y):atS rs k = y:=by unfold atS;rw[h];rfl
theorem eD{ts:List Task}{n:Nat}{t:Task}(h:ts[n]? = some t):oI ts n = t.deps:=by unfold oI;rw[h];rfl
def nV(b:Boss)(n:Nat):List Value:=(((b.jobs.take n).map Job.lease).filter (fun l=>decide (¬l = 0))).map fun l=>Value.int .i64 l
theorem Gc{b:Boss}{n:Nat}{l:Int}(h:¬l = 0):Value.int .i64 l∈nV b n↔l∈(b.jobs.take n).map Job.lease:=by
 simp[nV,h]
theorem Qq(b:Boss)(n:Nat)(l0:Int):∀ x∈nV b n,kin (.int .i64 l0) x:=by
 intro x hx
 obtain⟨l,_,rfl⟩:=List.mem_map.1 hx
 rfl
theorem MO{b:Boss}{n:Nat}{j:Job}(h:b.jobs[n]? = some j)(h0:j.lease = 0):nV b (n+1) = nV b n:=by
 unfold nV;rw[List.take_add_one,h];simp[h0]
theorem MN{b:Boss}{n:Nat}{j:Job}(h:b.jobs[n]? = some j)(h0:¬j.lease = 0):nV b n++ [Value.int .i64 j.lease] = nV b (n+1):=by
 unfold nV;rw[List.take_add_one,h];simp[h0]
theorem KA{b:Boss}{ts:List Task}{st:Story}{n:Nat}{s:Seat}(hs:b.seats[n]? = some s)(h:¬(0≤s.epoch∧s.epoch≤300)):¬UpOk b ts st:=fun q=>h (q.seats s (List.mem_of_getElem? hs))
theorem mi{b:Boss}{ts:List Task}{st:Story}{n:Nat}{o:Owed}(hs:b.owed[n]? = some o)(h:¬OwedOk b ts o):¬UpOk b ts st:=fun q=>h (q.owed o (List.mem_of_getElem? hs))
theorem eC{α:Type}{p:α→Prop}{xs:List α}{n:Nat}{x:α}(hc:∀ y∈xs.take n,p y)(h:xs[n]? = some x)(hp:p x):∀ y∈xs.take (n+1),p y:=by
 intro y hy
 rw[List.take_add_one,h]at hy
 rcases List.mem_append.1 hy with hy|hy
 ·exact hc y hy
 ·rw[Option.toList,List.mem_singleton]at hy;subst hy;exact hp
theorem jL(b:Boss)(h1:b.log.safe.length≤1048576)(h2:b.log.loose.length≤1048576):F px [.val (ge b)] (.own [false] ((b.log.safe++b.log.loose).map ah)) O1:=by
 refine pz ?_
 conv=>whnf
 refine g 0 1 []<|J QZ<|gd 3 11 [[],[],[],[.call (V.own [false] (List.map ah b.log.safe)) O1],[],[],[],[],[]] ?_
 conv=>whnf
 refine J (QA @gg)<|J KR<|RT ?_
 rw[List.map_append];rfl
theorem nF(l:Log)(h1:l.safe.length≤1048576)(h2:l.loose.length≤1048576):F GX [.val (RW l)] (.own [false] ((l.safe++l.loose).map ah)) O1:=by
 refine Hk ?_
 conv=>whnf
 refine g 0 1 []<|J QZ<|gd 3 10 [[],[],[],[],[],[],[],[]] ?_
 conv=>whnf
 refine J QZ<|J KR<|RT ?_
 rw[List.map_append];rfl
end Go.K
end
section
open Go Go.Tm Go.Proofs
namespace Go.K
theorem wG(b:Boss)(p:Plan)(hp:dD p)(hl1:b.log.safe.length≤1048576)(hl2:b.log.loose.length≤1048576)(hs:∀ s∈b.log.safe++b.log.loose,s.size≤281474976710656)(hr:b.results.length≤1048576)(hj:b.jobs.length≤1048576)(hse:b.seats.length≤1048576)(ho:b.owed.length≤1048576):F mn [.val (ge b),.val (cX p)] (.b (decide (BossOk b p))) O2:=by
 have cp:=gc p hp
 have ce:=jL b hl1 hl2
 have cr:F qF [.val (cX p),.val (.t (pp (b.log.safe++b.log.loose)))] (gT (cA b p)) O2:=re p (b.log.safe++b.log.loose) hp hs (by rw[List.length_append];omega)
 by_cases hup:b.up = true
 rotate_left
 ·rw[Bool.not_eq_true]at hup
  refine mD ?_
  conv=>whnf
  refine g 0 2 []<|J QZ<|Ws ?_
  by_cases h1:am (Plan.tasks p) = (0:Int)
  by_cases h2:(1:Int)≤Boss.workers b∧Boss.workers b≤(8:Int)
  refine g 17 19 [.call (V.i (am p.tasks)) O1,BF,BF,BF,.call (V.b (decide (1≤b.workers∧b.workers≤8))) O3,BF,BF,BF,BF,BF,.call (V.b (decide (0≤b.now∧b.now≤1000000))) O3,BF,BF]<|J (QA @ai)<|Wc<|JN (fun h3=>?_) fun h3=>?_
  refine g 29 31 []<|J UA<|RT ?_
  rotate_left
  refine Wk<|gd 29 32 [[],[],[.call (V.own [false] (List.map ah (b.log.safe++b.log.loose))) O1],[.call (gT (cA b p)) O2],[],[]] ?_
  conv=>whnf
  refine J QZ<|J KR<|Ws<|g 33 37 []<|J UC<|Wc<|JN (fun h4=>?_) fun h4=>?_
  refine g 21 22 []<|J UA<|RT ?_
  rotate_left
  refine Wk<|Ws<|g 21 22 []<|J UC<|Wc<|J (fun _=>?_) (noF (nbT AS))
  by_cases h5:(↑(List.length (List.map ah (Log.loose (Boss.log b)))):Int) = (0:Int)
  simp only[LM]at h5
  by_cases h6:Boss.since b = (0:Int)
  by_cases h7:Boss.epoch b = (0:Int)
  by_cases h8:Boss.given b = (0:Int)
  by_cases h9:(↑(List.length (List.map ah (Boss.results b))):Int) = (0:Int)
  simp only[LM]at h9
  by_cases h10:(↑(List.length (List.map aH (Boss.jobs b))):Int) = (0:Int)
  simp only[LM]at h10
  by_cases h11:(↑(List.length (List.map aE (Boss.seats b))):Int) = (0:Int)
  simp only[LM]at h11
  refine g 32 85 (RL 32 BT []) ?_
  conv=>whnf
  refine J QZ<|RT ?_
  rotate_left
  simp only[LM]at h11
  refine g 32 85 (RL 27 BT [BF,BF,BF,BF,BF]) ?_
  conv=>whnf
  refine J QZ<|RT ?_
  rotate_left
  simp only[LM]at h10
  refine g 32 85 (RL 22 BT (RL 10 BF [])) ?_
  conv=>whnf
  refine J QZ<|RT ?_
  rotate_left
  simp only[LM]at h9
  refine g 32 85 (RL 17 BT (RL 15 BF [])) ?_
  conv=>whnf
  refine J QZ<|RT ?_
  rotate_left
  refine g 32 85 (RL 12 BT (RL 20 BF [])) ?_
  conv=>whnf
  refine J QZ<|RT ?_
  rotate_left
  refine g 32 85 (RL 8 BT (RL 24 BF [])) ?_
  conv=>whnf
  refine J QZ<|RT ?_
  rotate_left
  refine g 32 85 (BT::BT::BT::BT::(RL 28 BF [])) ?_
  conv=>whnf
  refine J QZ<|RT ?_
  rotate_left
  simp only[LM]at h5
  refine g 32 85 (RL 32 BF []) ?_
  conv=>whnf
  refine J QZ<|RT ?_
  rotate_left
  refine g 17 19 [.call (V.i (am p.tasks)) O1,BF,BF,BF,.call (V.b (decide (1≤b.workers∧b.workers≤8))) O3,BF,BF,BT,BT,BT,BT,BT]<|J (QA @ai)<|Wc<|Kr (g 29 31 []<|J UA (RT ?_))
  rotate_left
  refine g 17 19 (.call (V.i (am p.tasks)) O1::(RL 10 BT []))<|J QZ<|Wc<|Kr (g 29 31 []<|J UA (RT ?_))
  rotate_left
  all_goals first
   |exact vbf (fun q=>by have e1:=q.plan;have e2:=q.workers;have e3:=q.now;have e4:=q.code;omega)
   |exact vbf (BW hup fun q=>by have e1:=q.loose;have e2:=q.since;have e3:=q.epoch;have e4:=q.given;have e5:=q.res;have e6:=q.jobs;have e7:=q.seats;omega)
   |(rename_i h8
     simp only[List.length_map]
     by_cases h9:(b.owed.length:Int) = 0
     ·rw[decide_eq_true h9];exact vbt ⟨by omega,by omega,by omega,by omega,(fun q=>by rw[hup]at q;cases q),fun _=>⟨by omega,by omega,by omega,by omega,by omega,by omega,by omega,by omega⟩⟩
     ·rw[decide_eq_false h9];exact vbf (BW hup fun q=>by have e8:=q.owed;omega))
   |skip
 refine mD ?_
 conv=>whnf
 refine g 0 2 []<|J QZ<|Ws ?_
 by_cases h1:am (Plan.tasks p) = (0:Int)
 by_cases h2:(1:Int)≤Boss.workers b∧Boss.workers b≤(8:Int)
 refine g 17 19 [.call (V.i (am p.tasks)) O1,BF,BF,BF,.call (V.b (decide (1≤b.workers∧b.workers≤8))) O3,BF,BF,BF,BF,BF,.call (V.b (decide (0≤b.now∧b.now≤1000000))) O3,BF,BF]<|J (QA @ai)<|Wc<|JN (fun h3=>?_) fun h3=>?_
 refine g 29 31 []<|J UA<|RT ?_
 rotate_left
 refine Wk<|gd 29 32 [[],[],[.call (V.own [false] (List.map ah (b.log.safe++b.log.loose))) O1],[.call (gT (cA b p)) O2],[],[]] ?_
 conv=>whnf
 refine J QZ<|J KR<|Ws<|g 33 37 []<|J UC<|Wc<|JN (fun h4=>?_) fun h4=>?_
 refine g 21 22 []<|J UA<|RT ?_
 rotate_left
 refine Wk<|Ws<|g 21 22 []<|J UC<|Wc<|J (noT (nbF AS)) fun _=>Wk<|Ws ?_
 by_cases h5:Boss.epoch b = Story.epoch (cA b p)
 by_cases h6:Boss.epoch b < (1:Int)
 refine g 25 120 (BF::BF::BF::BF::(RL 23 BT []))<|J QZ<|Wc<|Kr (g 19 21 []<|J UA (RT ?_))
 rotate_left
 by_cases h7:(↑(List.length (List.map ah (Boss.results b))):Int) = (↑(List.length (List.map ay (Plan.tasks p))):Int)
 simp only[LM]at h7
 by_cases h8:(↑(List.length (List.map aH (Boss.jobs b))):Int) = (↑(List.length (List.map ay (Plan.tasks p))):Int)
 simp only[LM]at h8
 refine g 25 120 (RL 27 BF [])<|J QZ<|Wc<|JN (fun h9=>?_) fun h9=>?_
 simp only[LM]at h9
 refine g 19 21 []<|J UA<|RT ?_
 rotate_left
 simp only[LM]at h9
 refine Wk<|Ws<|g 19 21 []<|J UD<|Wb ?_
 rotate_left
 simp only[LM]at h8
 refine g 25 120 (RL 20 BF (RL 7 BT []))<|J QZ<|Wc<|Kr (g 19 21 []<|J UA (RT ?_))
 rotate_left
 simp only[LM]at h7
 refine g 25 120 (RL 12 BF (RL 15 BT []))<|J QZ<|Wc<|Kr (g 19 21 []<|J UA (RT ?_))
 rotate_left
 refine g 25 120 (RL 27 BT [])<|J QZ<|Wc<|Kr (g 19 21 []<|J UA (RT ?_))
 rotate_left
 refine g 17 19 [.call (V.i (am p.tasks)) O1,BF,BF,BF,.call (V.b (decide (1≤b.workers∧b.workers≤8))) O3,BF,BF,BT,BT,BT,BT,BT]<|J (QA @ai)<|Wc<|Kr (g 29 31 []<|J UA (RT ?_))
 rotate_left
 refine g 17 19 (.call (V.i (am p.tasks)) O1::(RL 10 BT []))<|J QZ<|Wc<|Kr (g 29 31 []<|J UA (RT ?_))
 rotate_left
 all_goals try first
  |exact vbf (fun q=>by have e1:=q.plan;have e2:=q.workers;have e3:=q.now;have e4:=q.code;omega)
  |exact vbf (gP hup fun q=>by have e1:=q.epoch;have e2:=q.pos;have e3:=q.rlen;have e4:=q.jlen;have e5:=q.slen;omega)
 have hk:(cA b p).code = 0:=by assumption
 have hc0:am p.tasks = 0:=by assumption
 obtain⟨_,_,hsl,_⟩:=cF (p:=p) (xs:=b.log.safe++b.log.loose) hk
 obtain⟨hep1,hep2⟩:=fG (p:=p) (xs:=b.log.safe++b.log.loose) hk
 change (cA b p).results.length = _ at hsl
 change 0≤(cA b p).epoch at hep1
 change (cA b p).epoch≤300 at hep2
 have f1:b.epoch = (cA b p).epoch:=by assumption
 have f2:1≤b.epoch:=by omega
 have f3:b.results.length = p.tasks.length:=by omega
 have f4:b.jobs.length = p.tasks.length:=by omega
 have f5:(b.seats.length:Int) = b.workers:=by omega
 have f6:1≤b.workers∧b.workers≤8:=by assumption
 have f7:0≤b.now∧b.now≤1000000:=by assumption
 have hpl:=(bX hc0).1
 refine Wl (fun s (n:Nat)=>⟨(SK s [2,3,5,16,22,24,122,123] [(124,.i n)]),[(2,(CK s 2 0 12 [])),(3,[s.c 3 0]),(5,(CK s 5 0 3 []))],[]⟩) (fun(n:Nat)=>n≤b.results.length∧b.results.take n = (cA b p).results.take n) (fun(n:Nat)=>b.results.length - n) (0) [some 2,some 3,some 5] [] FZ (by simp) ?_
 rintro n ⟨hn,hc⟩
 conv=>whnf
 refine g 0 0 []<|J UA<|Ws<|Wc<|JD (fun h10=>?_) fun h10=>?_
 simp only[LM]at h10
 refine Wk<|Ws<|Wb ?_
 obtain⟨y1,hy1⟩:=ae (xs:=Boss.results b) (n:=n) OM
 refine g 125 129 [.x (ah y1)]<|J QZ ?_
 obtain⟨y2,hy2⟩:=ae (xs:=Story.results (cA b p)) (n:=n) OM
 refine g 129 135 [.n (n),.x (ah y2)]<|J QZ<|Wc<|JN (fun h11=>?_) fun h11=>?_
 refine g 7 8 []<|J UA<|RT ?_
 rotate_left
 refine Wk<|rg [.i ((n:Int) +1)]<|J QZ ?_
 rotate_left
 simp only[LM]at h10
 refine We<|Ws ?_
 by_cases h11:(0:Int)≤Boss.since b∧Boss.since b≤(1:Int)
 by_cases h12:(0:Int)≤Boss.given b∧Boss.given b≤(1000000:Int)
 refine g 122 152 (.call (V.b (decide (0≤b.since∧b.since≤1))) O3::BF::BF::BF::.call (V.b (decide (0≤b.given∧b.given≤1000000))) O3::(RL 7 BF []))<|J (QA @ai)<|Wc<|JD (fun h13=>?_) fun h13=>?_
 simp only[LM]at h13
 refine g 5 6 []<|J UA<|RT ?_
 rotate_left
 simp only[LM]at h13
 refine Wk<|g 152 154 []<|J UB<|g 154 158 [.i (b.epoch - 1),.i ((b.epoch - 1) * 1000000)]<|J QZ<|Ws<|g 5 6 []<|J UD<|Wb ?_
 rotate_left
 refine g 122 152 [.call (V.b (decide (0≤b.since∧b.since≤1))) O3,BF,BF,BF,.call (V.b (decide (0≤b.given∧b.given≤1000000))) O3,BF,BF,BT,BT,BT,BT,BT]<|J (QA @ai)<|Wc<|Kr (g 5 6 []<|J UA (RT ?_))
 rotate_left
 refine g 122 152 (.call (V.b (decide (0≤b.since∧b.since≤1))) O3::(RL 10 BT []))<|J (QA @ai)<|Wc<|Kr (g 5 6 []<|J UA (RT ?_))
 rotate_left
 all_goals try first
  |exact vbf (gP hup fun q=>by have e1:=q.res;rw[e1]at hy1;rw[hy1]at hy2;cases hy2;contradiction)
  |exact vbf (gP hup fun q=>by have e1:=q.since;have e2:=q.given;have e3:=q.olen;omega)
 ·refine⟨n+1,[some 2,some 3,some 5],[],FZ,?_,?_⟩
  rotate_left
  (dsimp only;omega)
  dsimp only
  exact⟨by omega,kM hc hy1 (by rw[hy2];simp_all)⟩
 have g1:b.results = (cA b p).results:=by rw[aI OM,aI OM]at hc;exact hc
 have g2:0≤b.since∧b.since≤1:=by omega
 have g3:0≤b.given∧b.given≤1000000:=by omega
 have g4:b.owed.length≤2000:=by omega
 refine Wl (fun s (n:Nat)=>⟨(SK s [2,3,8,9,16,22,24,159,160] [(161,.i n)]),[(2,(CK s 2 0 12 [])),(3,[s.c 3 0])],[(153,nV b n)]⟩) (fun(n:Nat)=>n≤b.jobs.length∧iW b p.tasks n) (fun(n:Nat)=>b.jobs.length - n) (0) [some 2,some 3] [153] FZ ?_ ?_
 ·exact⟨Nat.zero_le _,fun m j hm=>by omega⟩
 rintro n1 ⟨hn1,hc1⟩
 have hrl:b.results.length = p.tasks.length:=f3
 by_cases hj2:n1 < b.jobs.length
 ·obtain⟨j,hj1⟩:=ae hj2
  obtain⟨y,hy0⟩:=ae (xs:=b.results) (n:=n1) OM
  obtain⟨t,ht0⟩:=ae (xs:=p.tasks) (n:=n1) OM
  have hkin:=Qq b n1 j.lease
  obtain⟨_,_,a3,a4⟩:=cz hc0 ht0
  have crd:=jX b.results t.deps (fun d hd=>by have:=a4 d hd;omega) OM
  by_cases hz:j.lease = 0
  ·by_cases hz2:j.worker = 0∧j.til = 0
   ·have hjo:II b p.tasks n1 j:=⟨fun _=>hz2,fun e=>absurd hz e⟩
    obtain⟨hz3,hz4⟩:=hz2
    conv=>whnf
    refine g 0 0 []<|J UA<|Ws<|Wc<|J (fun _=>(Wk (Ws (Wb (g 162 166 [.x (aH j)]<|J QZ (Ws (g 166 168 []<|J UC (Wc<|Kt (Ws (g 168 171 [BT]<|J QZ ?_)))))))))) (noF (by simp_all))
    refine Wc<|Jr<|Wk<|We<|rg [.i ((n1:Int) +1)]<|J QZ ?_
    refine⟨n1+1,[some 2,some 3],[153],⟨rfl,FZ,FZ,⟨(congrArg some (MO hj1 hz).symm),I⟩⟩,?_,?_⟩
    rotate_left
    (dsimp only;omega)
    dsimp only
    exact⟨by omega,qa hc1 hj1 hjo⟩
   ·conv=>whnf
    refine g 0 0 []<|J UA<|Ws<|Wc<|J (fun _=>(Wk (Ws (Wb (g 162 166 [.x (aH j)]<|J QZ (Ws (g 166 168 []<|J UC (Wc<|Kt (Ws (g 168 171 [BF]<|J QZ ?_)))))))))) (noF (by simp_all))
    refine Wc<|Kr (g 171 172 []<|J UA (RT ?_))
    all_goals exact vbf (gP hup (oo hj1 (fun q=>by have:=q.1 hz;omega)))
  ·by_cases hA:(b.epoch - 1) * 1000000+1≤j.lease∧j.lease≤(b.epoch - 1) * 1000000+b.given
   ·by_cases hB:j.lease∈(b.jobs.take n1).map Job.lease
    ·have hkm:Value.int IntKind.i64 j.lease∈nV b n1:=(Gc hz).2 hB
     conv=>whnf
     refine g 0 0 []<|J UA<|Ws<|Wc<|J (fun _=>(Wk (Ws (Wb (g 162 166 [.x (aH j)]<|J QZ (Ws (g 166 168 []<|J UC (Wc<|Jf<|(Wk (Ws ?_)))))))))) (noF (by simp_all))
     refine g 168 207 (.i ((b.epoch - 1) * 1000000+1)::.i ((b.epoch - 1) * 1000000+b.given)::.call (V.b (decide ((b.epoch - 1) * 1000000+1≤j.lease∧j.lease≤(b.epoch - 1) * 1000000+b.given))) O3::BF::BF::BF::BF::.b (decide (j.lease∈List.map (fun l=>l) (List.filter (fun l=>decide ¬l = 0) (List.map Job.lease (List.take n1 b.jobs)))))::BF::(RL 18 BT []))<|J (QA @ai)<|Wc<|Kr (g 207 208 []<|J UA (RT ?_))
     exact vbf (gP hup (oo hj1 (fun q=>(q.2 hz).once hB)))
    ·have hkm:¬Value.int IntKind.i64 j.lease∈nV b n1:=fun e=>hB ((Gc hz).1 e)
     by_cases hC:1≤j.worker∧j.worker≤b.workers
     ·by_cases hD:b.now+1≤j.til∧j.til≤b.now+12
      ·by_cases hE:y = emp
       ·by_cases hF:dj b.results t.deps
        ·rw[decide_eq_true hF]at crd
         conv=>whnf
         refine g 0 0 []<|J UA<|Ws<|Wc<|J (fun _=>(Wk (Ws (Wb (g 162 166 [.x (aH j)]<|J QZ (Ws (g 166 168 []<|J UC (Wc<|Jf<|(Wk (Ws ?_)))))))))) (noF (by simp_all))
         refine g 168 207 (.i ((b.epoch - 1) * 1000000+1)::.i ((b.epoch - 1) * 1000000+b.given)::.call (V.b (decide ((b.epoch - 1) * 1000000+1≤j.lease∧j.lease≤(b.epoch - 1) * 1000000+b.given))) O3::BF::BF::BF::BF::.b (decide (j.lease∈List.map (fun l=>l) (List.filter (fun l=>decide ¬l = 0) (List.map Job.lease (List.take n1 b.jobs)))))::(RL 6 BF (.call (V.b (decide (1≤j.worker∧j.worker≤b.workers))) O3::(RL 7 BF [.i (b.now+1),BF,BF,BF,.i (b.now+12),BF,.call (V.b (decide (b.now+1≤j.til∧j.til≤b.now+12))) O3,BF,BF])))) ?_
         conv=>whnf
         refine J (QA @ai)<|Wc<|Jn<|Wk<|g 207 211 []<|J QZ<|gd 211 228 [[],[],[],[.x (ah y)],[],[],[],[BF],[BF],[BF],[BF],[BF],[BF,.x (ay t)],[BF],[BF],[BF,.call VT O2],[BF],[BF]] ?_
         conv=>whnf
         refine J QZ<|J KR<|Wc<|Jr<|Wk<|rg [.i ((n1:Int) +1)]<|J QZ ?_
         refine⟨n1+1,[some 2,some 3],[153],⟨rfl,FZ,FZ,⟨(congrArg some (MN hj1 hz)),I⟩⟩,?_,?_⟩
         rotate_left
         (dsimp only;omega)
         dsimp only
         exact⟨by omega,qa hc1 hj1 ⟨fun e=>absurd e hz,fun _=>⟨hA,hC,hD,by rw[kJ hy0];exact hE,by rw[eD ht0];exact hF,hB⟩⟩⟩
        ·rw[decide_eq_false hF]at crd
         conv=>whnf
         refine g 0 0 []<|J UA<|Ws<|Wc<|J (fun _=>(Wk (Ws (Wb (g 162 166 [.x (aH j)]<|J QZ (Ws (g 166 168 []<|J UC (Wc<|Jf<|(Wk (Ws ?_)))))))))) (noF (by simp_all))
         refine g 168 207 (.i ((b.epoch - 1) * 1000000+1)::.i ((b.epoch - 1) * 1000000+b.given)::.call (V.b (decide ((b.epoch - 1) * 1000000+1≤j.lease∧j.lease≤(b.epoch - 1) * 1000000+b.given))) O3::BF::BF::BF::BF::.b (decide (j.lease∈List.map (fun l=>l) (List.filter (fun l=>decide ¬l = 0) (List.map Job.lease (List.take n1 b.jobs)))))::(RL 6 BF (.call (V.b (decide (1≤j.worker∧j.worker≤b.workers))) O3::(RL 7 BF [.i (b.now+1),BF,BF,BF,.i (b.now+12),BF,.call (V.b (decide (b.now+1≤j.til∧j.til≤b.now+12))) O3,BF,BF])))) ?_
         conv=>whnf
         refine J (QA @ai)<|Wc<|Jn<|Wk<|g 207 211 []<|J QZ<|gd 211 228 [[],[],[],[.x (ah y)],[],[],[],[BF],[BF],[BF],[BF],[BF],[BF,.x (ay t)],[BF],[BF],[BF,.call VF O2],[BF],[BF]] ?_
         conv=>whnf
         refine J QZ<|J KR<|Wc<|Kr (g 10 12 []<|J UA (RT ?_))
         exact vbf (gP hup (oo hj1 (fun q=>hF (by have:=(q.2 hz).ready;rw[eD ht0]at this;exact this))))
       ·conv=>whnf
        refine g 0 0 []<|J UA<|Ws<|Wc<|J (fun _=>(Wk (Ws (Wb (g 162 166 [.x (aH j)]<|J QZ (Ws (g 166 168 []<|J UC (Wc<|Jf<|(Wk (Ws ?_)))))))))) (noF (by simp_all))
        refine g 168 207 (.i ((b.epoch - 1) * 1000000+1)::.i ((b.epoch - 1) * 1000000+b.given)::.call (V.b (decide ((b.epoch - 1) * 1000000+1≤j.lease∧j.lease≤(b.epoch - 1) * 1000000+b.given))) O3::BF::BF::BF::BF::.b (decide (j.lease∈List.map (fun l=>l) (List.filter (fun l=>decide ¬l = 0) (List.map Job.lease (List.take n1 b.jobs)))))::(RL 6 BF (.call (V.b (decide (1≤j.worker∧j.worker≤b.workers))) O3::(RL 7 BF [.i (b.now+1),BF,BF,BF,.i (b.now+12),BF,.call (V.b (decide (b.now+1≤j.til∧j.til≤b.now+12))) O3,BF,BF])))) ?_
        conv=>whnf
        refine J (QA @ai)<|Wc<|Jn<|Wk<|g 207 211 []<|J QZ<|gd 211 228 [[],[],[],[.x (ah y)],[],[],[],[BT],[BT],[BT],[BT],[BT],[BT],[BT],[BT],[BT],[BT],[BT]] ?_
        conv=>whnf
        refine J QZ<|J KR<|Wc<|Kr (g 10 12 []<|J UA (RT ?_))
        exact vbf (gP hup (oo hj1 (fun q=>hE (by have:=(q.2 hz).res;rw[kJ hy0]at this;exact this))))
      ·conv=>whnf
       refine g 0 0 []<|J UA<|Ws<|Wc<|J (fun _=>(Wk (Ws (Wb (g 162 166 [.x (aH j)]<|J QZ (Ws (g 166 168 []<|J UC (Wc<|Jf<|(Wk (Ws ?_)))))))))) (noF (by simp_all))
       refine g 168 207 (.i ((b.epoch - 1) * 1000000+1)::.i ((b.epoch - 1) * 1000000+b.given)::.call (V.b (decide ((b.epoch - 1) * 1000000+1≤j.lease∧j.lease≤(b.epoch - 1) * 1000000+b.given))) O3::BF::BF::BF::BF::.b (decide (j.lease∈List.map (fun l=>l) (List.filter (fun l=>decide ¬l = 0) (List.map Job.lease (List.take n1 b.jobs)))))::(RL 6 BF (.call (V.b (decide (1≤j.worker∧j.worker≤b.workers))) O3::(RL 7 BF [.i (b.now+1),BF,BF,BF,.i (b.now+12),BF,.call (V.b (decide (b.now+1≤j.til∧j.til≤b.now+12))) O3,BF,BF])))) ?_
       conv=>whnf
       refine J (QA @ai)<|Wc<|Kn (g 207 208 []<|J UA (RT ?_))
       exact vbf (gP hup (oo hj1 (fun q=>hD (q.2 hz).til)))
     ·conv=>whnf
      refine g 0 0 []<|J UA<|Ws<|Wc<|J (fun _=>(Wk (Ws (Wb (g 162 166 [.x (aH j)]<|J QZ (Ws (g 166 168 []<|J UC (Wc<|Jf<|(Wk (Ws ?_)))))))))) (noF (by simp_all))
      refine g 168 207 (.i ((b.epoch - 1) * 1000000+1)::.i ((b.epoch - 1) * 1000000+b.given)::.call (V.b (decide ((b.epoch - 1) * 1000000+1≤j.lease∧j.lease≤(b.epoch - 1) * 1000000+b.given))) O3::BF::BF::BF::BF::.b (decide (j.lease∈List.map (fun l=>l) (List.filter (fun l=>decide ¬l = 0) (List.map Job.lease (List.take n1 b.jobs)))))::(RL 6 BF (.call (V.b (decide (1≤j.worker∧j.worker≤b.workers))) O3::BF::BF::(RL 11 BT [])))) ?_
      conv=>whnf
      refine J (QA @ai)<|Wc<|Kr (g 207 208 []<|J UA (RT ?_))
      exact vbf (gP hup (oo hj1 (fun q=>hC (q.2 hz).worker)))
   ·conv=>whnf
    refine g 0 0 []<|J UA<|Ws<|Wc<|J (fun _=>(Wk (Ws (Wb (g 162 166 [.x (aH j)]<|J QZ (Ws (g 166 168 []<|J UC (Wc<|Jf<|(Wk (Ws ?_)))))))))) (noF (by simp_all))
    refine g 168 207 (.i ((b.epoch - 1) * 1000000+1)::.i ((b.epoch - 1) * 1000000+b.given)::.call (V.b (decide ((b.epoch - 1) * 1000000+1≤j.lease∧j.lease≤(b.epoch - 1) * 1000000+b.given))) O3::(RL 23 BT []))<|J (QA @ai)<|Wc<|Kr (g 207 208 []<|J UA (RT ?_))
    exact vbf (gP hup (oo hj1 (fun q=>hA (q.2 hz).lease)))
 have hjobs:iW b p.tasks b.jobs.length:=by rw[show b.jobs.length = n1 by omega];exact hc1
 conv=>whnf
 refine g 0 0 []<|J UA<|Ws<|Wc<|J (noT (by simp_all)) fun _=>We<|Ws<|g 24 231 []<|J UD<|Wb<|Wl (fun s (n:Nat)=>⟨(SK s [2,3,22,231,232] [(233,.i n)]),[(2,(CK s 2 0 12 [])),(3,[s.c 3 0])],[]⟩) (fun(n:Nat)=>n≤b.seats.length∧∀ s∈b.seats.take n,0≤s.epoch∧s.epoch≤300) (fun(n:Nat)=>b.seats.length - n) (0) [some 2,some 3] [] FZ (by simp) ?_
 rintro n2 ⟨hn2,hc2⟩
 by_cases hs2:n2 < b.seats.length
 ·obtain⟨s,hs1⟩:=ae hs2
  by_cases hA:0≤s.epoch∧s.epoch≤300
  ·conv=>whnf
   refine g 0 0 []<|J UA<|Ws<|Wc<|JD (fun h14=>?_) fun h14=>?_
   simp only[LM]at h14
   refine Wk<|Ws<|Wb<|g 234 237 [.x (aE s)]<|J QZ<|g 237 240 [.call (V.b (decide (0≤s.epoch∧s.epoch≤300))) O3]<|J (QA @ai)<|Wc<|Jn<|Wk<|rg [.i ((n2:Int) +1)]<|J QZ ?_
   rotate_left
   simp only[LM]at h14
   omega
   refine⟨n2+1,[some 2,some 3],[],FZ,?_,?_⟩
   rotate_left
   (dsimp only;omega)
   dsimp only
   exact⟨by omega,eC hc2 hs1 hA⟩
  ·conv=>whnf
   refine g 0 0 []<|J UA<|Ws<|Wc<|JD (fun h14=>?_) fun h14=>?_
   simp only[LM]at h14
   refine Wk<|Ws<|Wb<|g 234 237 [.x (aE s)]<|J QZ<|g 237 240 [.call (V.b (decide (0≤s.epoch∧s.epoch≤300))) O3]<|J (QA @ai)<|Wc<|Kn (g 13 14 []<|J UA (RT ?_))
   rotate_left
   simp only[LM]at h14
   omega
   exact vbf (gP hup (KA hs1 hA))
 have hseats:∀ s∈b.seats,0≤s.epoch∧s.epoch≤300:=by rw[aI OM]at hc2;exact hc2
 conv=>whnf
 refine g 0 0 []<|J UA<|Ws<|Wc<|J (fun h14=>?_) fun h14=>?_
 replace h14:=dt h14
 simp only[LM]at h14
 omega
 replace h14:=df h14
 simp only[LM]at h14
 refine We<|Ws<|g 231 243 []<|J UD<|Wb<|Wl (fun s (n:Nat)=>⟨(SK s [2,3,22,243,244] [(245,.i n)]),[(2,(CK s 2 0 12 [])),(3,[s.c 3 0])],[]⟩) (fun(n:Nat)=>n≤b.owed.length∧∀ o∈b.owed.take n,OwedOk b p.tasks o) (fun(n:Nat)=>b.owed.length - n) (0) [some 2,some 3] [] FZ (by simp) ?_
 rintro n3 ⟨hn3,hc3⟩
 by_cases ho2:n3 < b.owed.length
 ·obtain⟨o,ho1⟩:=ae ho2
  by_cases hA:1≤o.worker∧o.worker≤b.workers
  ·by_cases hB:1≤o.lease∧o.lease≤300000000
   ·by_cases hC:0≤o.task∧o.task≤(p.tasks.length:Int) - 1
    ·obtain⟨y,hy0⟩:=ae (xs:=b.results) (n:=o.task.toNat) OM
     by_cases hD:y = emp
     ·conv=>whnf
      refine g 0 0 []<|J UA<|Ws<|Wc<|J (fun _=>(Wk (Ws (Wb (g 246 249 [.x (aJ o)]<|J QZ (g 249 279 (.call (V.b (decide (1≤o.worker∧o.worker≤b.workers))) O3::BF::BF::BF::.call (V.b (decide (1≤o.lease∧o.lease≤300000000))) O3::(RL 8 BF (.i ((↑(List.length (List.map ay p.tasks)):Int) - 1)::BF::.call (V.b (decide (0≤o.task∧o.task≤(↑(List.length (List.map ay p.tasks)):Int) - 1))) O3::(RL 7 BF [.x (ah y),BF,BF,BF]))))<|J (QA @ai) (Wc<|Kt (g 15 16 []<|J UA (RT ?_))))))))) (noF SI)
      exact vbf (gP hup (mi ho1 (fun q=>q.res (by rw[kZ hy0];exact hD))))
     ·conv=>whnf
      refine g 0 0 []<|J UA<|Ws<|Wc<|J (fun _=>(Wk (Ws (Wb (g 246 249 [.x (aJ o)]<|J QZ (g 249 279 (.call (V.b (decide (1≤o.worker∧o.worker≤b.workers))) O3::BF::BF::BF::.call (V.b (decide (1≤o.lease∧o.lease≤300000000))) O3::(RL 8 BF (.i ((↑(List.length (List.map ay p.tasks)):Int) - 1)::BF::.call (V.b (decide (0≤o.task∧o.task≤(↑(List.length (List.map ay p.tasks)):Int) - 1))) O3::(RL 7 BF [.x (ah y),BF,BF,BF]))))<|J (QA @ai) (Wc<|Jf<|(Wk (rg [.i ((n3:Int) +1)]<|J QZ ?_))))))))) (noF SI)
      refine⟨n3+1,[some 2,some 3],[],FZ,?_,?_⟩
      rotate_left
      (dsimp only;omega)
      dsimp only
      exact⟨by omega,eC hc3 ho1 ⟨hA,hB,hC,by rw[kZ hy0];exact hD⟩⟩
    ·conv=>whnf
     refine g 0 0 []<|J UA<|Ws<|Wc<|J (fun _=>(Wk (Ws (Wb (g 246 249 [.x (aJ o)]<|J QZ (g 249 279 (.call (V.b (decide (1≤o.worker∧o.worker≤b.workers))) O3::BF::BF::BF::.call (V.b (decide (1≤o.lease∧o.lease≤300000000))) O3::(RL 8 BF (.i ((↑(List.length (List.map ay p.tasks)):Int) - 1)::BF::.call (V.b (decide (0≤o.task∧o.task≤(↑(List.length (List.map ay p.tasks)):Int) - 1))) O3::BF::BF::(RL 8 BT []))))<|J (QA @ai) (Wc<|Kr (g 15 16 []<|J UA (RT ?_))))))))) (noF SI)
     exact vbf (gP hup (mi ho1 (fun q=>hC q.task)))
   ·conv=>whnf
    refine g 0 0 []<|J UA<|Ws<|Wc<|J (fun _=>(Wk (Ws (Wb (g 246 249 [.x (aJ o)]<|J QZ (g 249 279 (.call (V.b (decide (1≤o.worker∧o.worker≤b.workers))) O3::BF::BF::BF::.call (V.b (decide (1≤o.lease∧o.lease≤300000000))) O3::BF::BF::(RL 17 BT []))<|J (QA @ai) (Wc<|Kr (g 15 16 []<|J UA (RT ?_))))))))) (noF SI)
    exact vbf (gP hup (mi ho1 (fun q=>hB q.lease)))
  ·conv=>whnf
   refine g 0 0 []<|J UA<|Ws<|Wc<|J (fun _=>(Wk (Ws (Wb (g 246 249 [.x (aJ o)]<|J QZ (g 249 279 (.call (V.b (decide (1≤o.worker∧o.worker≤b.workers))) O3::(RL 22 BT []))<|J (QA @ai) (Wc<|Kr (g 15 16 []<|J UA (RT ?_))))))))) (noF SI)
   exact vbf (gP hup (mi ho1 (fun q=>hA q.worker)))
 have howed:∀ o∈b.owed,OwedOk b p.tasks o:=by rw[aI OM]at hc3;exact hc3
 conv=>whnf
 refine g 0 0 []<|J UA<|Ws<|Wc<|J (noT SI) fun _=>We<|g 22 247 []<|J UA<|RT ?_
 exact vbt ⟨hc0,f6,f7,hk,fun _=>⟨f1,f2,f3,f4,f5,g1,g2,g3,g4,hjobs,hseats,howed⟩,fun e=>by rw[hup]at e;cases e⟩
end Go.K
end
section
open Go Go.Tm Go.Proofs
namespace Go.K
theorem Qh{b:Boss}{k:Nat}{j2:Job}{l:Int}(hc:l ∉ (b.jobs.take k).map Job.lease)(h:b.jobs[k]? = some j2)(hn:¬j2.lease = l):l ∉ (b.jobs.take (k+1)).map Job.lease:=fun e=>by
 rw[List.take_add_one,h,List.map_append]at e
 rcases List.mem_append.1 e with e|e
 ·exact hc e
 ·simp at e;exact hn e.symm
theorem XK{b:Boss}{k n:Nat}{j2:Job}{l:Int}(hk:k < n)(h:b.jobs[k]? = some j2)(hn:j2.lease = l):l∈(b.jobs.take n).map Job.lease :=
 List.mem_map.2 ⟨j2,List.mem_of_getElem? (i:=k) (by rw[List.getElem?_take,if_pos hk];exact h),hn⟩
theorem lc{b:Boss}{ts:List Task}{n:Nat}{j:Job}(hj:b.jobs[n]? = some j)(h:¬II b ts n j):¬iW b ts b.jobs.length:=fun q=>h (q n j (List.getElem?_eq_some_iff.1 hj).1 hj)
noncomputable instance (b:Boss) (ts:List Task) (n:Nat):Decidable (iW b ts n):=Classical.propDecidable _
theorem zu(b:Boss)(p:Plan)(hc0:am p.tasks = 0)(f1:1≤b.epoch)(f2:b.epoch≤300)(f3:b.results.length = p.tasks.length)(f4:b.jobs.length = p.tasks.length)(f7:0≤b.now∧b.now≤1000000)(f8:0≤b.given∧b.given≤1000000):F yu [.val (ge b),.val (cX p)] (.b (decide (iW b p.tasks b.jobs.length))) O2:=by
 have hpl:=(bX hc0).1
 refine yX ?_
 conv=>whnf
 refine g 0 2 []<|J QZ<|g 11 13 [.i (b.epoch - 1),.i ((b.epoch - 1) * 1000000)]<|J QZ<|Ws<|g 9 10 []<|J UA<|Wb ?_
 refine Wl (fun s (n:Nat)=>⟨(SK s [2,3,5] [(6,.i n),(10,s.s 10)]),[(2,(CK s 2 0 12 [])),(3,[s.c 3 0])],[]⟩) (fun(n:Nat)=>n≤b.jobs.length∧iW b p.tasks n) (fun(n:Nat)=>b.jobs.length - n) (0) [some 2,some 3] [] FZ ?_ ?_
 ·exact⟨Nat.zero_le _,fun m j hm=>by omega⟩
 rintro n1 ⟨hn1,hc1⟩
 by_cases hj2:n1 < b.jobs.length
 ·obtain⟨j,hj1⟩:=ae hj2
  obtain⟨y,hy0⟩:=ae (xs:=b.results) (n:=n1) OM
  obtain⟨t,ht0⟩:=ae (xs:=p.tasks) (n:=n1) OM
  obtain⟨_,_,a3,a4⟩:=cz hc0 ht0
  have crd:=jc p b.results (n1:Int) (t:=t) OM (by rw[Int.toNat_natCast];exact ht0) (fun d hd=>by have:=a4 d hd;omega) OM
  by_cases hz:j.lease = 0
  ·by_cases hz2:j.worker = 0∧j.til = 0
   ·have hjo:II b p.tasks n1 j:=⟨fun _=>hz2,fun e=>absurd hz e⟩
    obtain⟨hz3,hz4⟩:=hz2
    conv=>whnf
    refine Ws<|g 13 17 []<|J UE<|Wc<|J (fun _=>(Wk (Ws (Wb (g 17 25 [.x (aH j)]<|J QZ (Ws (g 25 27 []<|J UC (Wc<|Kt (Ws (g 31 35 [BF,BF,BF,BF]<|J QZ ?_)))))))))) (noF (by simp_all))
    refine Wc<|Jn<|Wk<|We<|rg [.i ((n1:Int) +1)]<|J QZ ?_
    refine⟨n1+1,[some 2,some 3],[],FZ,?_,?_⟩
    rotate_left
    (dsimp only;omega)
    dsimp only
    exact⟨by omega,qa hc1 hj1 hjo⟩
   ·conv=>whnf
    refine Ws<|g 13 17 []<|J UE<|Wc<|J (fun _=>(Wk (Ws (Wb (g 17 25 [.x (aH j)]<|J QZ (Ws (g 25 27 []<|J UC (Wc<|Kt (Ws ?_))))))))) (noF (by simp_all))
    by_cases h1:Job.worker j = (0:Int)
    refine g 31 35 [BF,BF,BF,BF]<|J QZ<|Wc<|Kn (g 27 30 []<|J UA (RT ?_))
    rotate_left
    refine g 31 35 [BT,BT,BT,BT]<|J QZ<|Wc<|Kr (g 27 30 []<|J UA (RT ?_))
    rotate_left
    all_goals exact vbf (lc hj1 (fun q=>by have:=q.1 hz;omega))
  ·by_cases hA:(b.epoch - 1) * 1000000+1≤j.lease∧j.lease≤(b.epoch - 1) * 1000000+b.given
   ·by_cases hC:1≤j.worker∧j.worker≤b.workers
    ·by_cases hD:b.now+1≤j.til∧j.til≤b.now+12
     ·by_cases hE:y = emp
      ·by_cases hF:dj b.results t.deps
       ·rw[decide_eq_true hF]at crd
        conv=>whnf
        refine Ws<|g 13 17 []<|J UE<|Wc<|J (fun _=>(Wk (Ws (Wb (g 17 25 [.x (aH j)]<|J QZ (Ws (g 25 27 []<|J UC (Wc<|Jf<|(Wk (Ws ?_)))))))))) (noF (by simp_all))
        refine g 27 81 (.i ((b.epoch - 1) * 1000000+1)::.i ((b.epoch - 1) * 1000000+b.given)::.call (V.b (decide ((b.epoch - 1) * 1000000+1≤j.lease∧j.lease≤(b.epoch - 1) * 1000000+b.given))) O3::BF::BF::BF::BF::BF::.call (V.b (decide (1≤j.worker∧j.worker≤b.workers))) O3::(RL 7 BF (.i (b.now+1)::BF::BF::BF::.i (b.now+12)::BF::.call (V.b (decide (b.now+1≤j.til∧j.til≤b.now+12))) O3::(RL 6 BF (.x (ah y)::(RL 8 BF [.call VT O3,BF,BF])))))) ?_
        conv=>whnf
        refine J (QA @aw)<|Wc<|Jr<|Wk<|g 81 82 []<|J UA<|Wb<|Wl (fun s (k:Nat)=>⟨(SK s [2,3,5,6,7] [(8,.i k),(10,s.s 10)]),[(2,(CK s 2 0 12 [])),(3,[s.c 3 0]),(7,(CK s 7 0 3 []))],[]⟩) (fun(k:Nat)=>k≤n1∧j.lease ∉ (b.jobs.take k).map Job.lease) (fun(k:Nat)=>n1 - k) (0) [some 2,some 3,some 7] [] FZ (by simp) ?_
        rintro k ⟨hk,hB⟩
        by_cases hk2:k < n1
        ·obtain⟨j2,hj3⟩:=ae (xs:=b.jobs) (n:=k) OM
         by_cases hq:j2.lease = j.lease
         ·conv=>whnf
          refine Ws<|g 82 84 []<|J UC<|Wc<|Kt (Wk (Ws (Wb (gd 84 95 [[],[],[],[.x (aH j2)],[],[],[],[],[]] ?_))))
          conv=>whnf
          refine⟨⟨I,I,I,Zaq,I,I,I,I,I,I⟩,by kernel_rfl,?_⟩
          refine Wc<|Kt (g 95 96 []<|J UA (RT ?_))
          exact vbf (lc hj1 (fun q=>(q.2 hz).once (XK hk2 hj3 hq)))
         ·conv=>whnf
          refine Ws<|g 82 84 []<|J UC<|Wc<|Kt (Wk (Ws (Wb (gd 84 95 [[],[],[],[.x (aH j2)],[],[],[],[],[]] ?_))))
          conv=>whnf
          refine⟨⟨I,I,I,Zaq,I,I,I,I,I,I⟩,by kernel_rfl,?_⟩
          refine Wc<|Jf<|Wk<|rg [.i ((k:Int) +1)]<|J QZ ?_
          refine⟨k+1,[some 2,some 3,some 7],[],FZ,?_,?_⟩
          rotate_left
          (dsimp only;omega)
          dsimp only
          exact⟨by omega,Qh hB hj3 hq⟩
        ·rw[show k = n1 by omega]at hB
         conv=>whnf
         refine Ws<|g 82 84 []<|J UC<|Wc<|Jf<|We<|rg [.i ((n1:Int) +1)]<|J QZ ?_
         refine⟨n1+1,[some 2,some 3],[],FZ,?_,?_⟩
         rotate_left
         (dsimp only;omega)
         dsimp only
         exact⟨by omega,qa hc1 hj1 ⟨fun e=>absurd e hz,fun _=>⟨hA,hC,hD,by rw[kJ hy0];exact hE,by rw[eD ht0];exact hF,hB⟩⟩⟩
       ·rw[decide_eq_false hF]at crd
        conv=>whnf
        refine Ws<|g 13 17 []<|J UE<|Wc<|J (fun _=>(Wk (Ws (Wb (g 17 25 [.x (aH j)]<|J QZ (Ws (g 25 27 []<|J UC (Wc<|Jf<|(Wk (Ws ?_)))))))))) (noF (by simp_all))
        refine g 27 81 (.i ((b.epoch - 1) * 1000000+1)::.i ((b.epoch - 1) * 1000000+b.given)::.call (V.b (decide ((b.epoch - 1) * 1000000+1≤j.lease∧j.lease≤(b.epoch - 1) * 1000000+b.given))) O3::BF::BF::BF::BF::BF::.call (V.b (decide (1≤j.worker∧j.worker≤b.workers))) O3::(RL 7 BF (.i (b.now+1)::BF::BF::BF::.i (b.now+12)::BF::.call (V.b (decide (b.now+1≤j.til∧j.til≤b.now+12))) O3::(RL 6 BF (.x (ah y)::(RL 8 BF [.call VF O3,BF,BF])))))) ?_
        conv=>whnf
        refine J (QA @aw)<|Wc<|Kr (g 81 82 []<|J UA (RT ?_))
        exact vbf (lc hj1 (fun q=>hF (by have:=(q.2 hz).ready;rw[eD ht0]at this;exact this)))
      ·conv=>whnf
       refine Ws<|g 13 17 []<|J UE<|Wc<|J (fun _=>(Wk (Ws (Wb (g 17 25 [.x (aH j)]<|J QZ (Ws (g 25 27 []<|J UC (Wc<|Jf<|(Wk (Ws ?_)))))))))) (noF (by simp_all))
       refine g 27 81 (.i ((b.epoch - 1) * 1000000+1)::.i ((b.epoch - 1) * 1000000+b.given)::.call (V.b (decide ((b.epoch - 1) * 1000000+1≤j.lease∧j.lease≤(b.epoch - 1) * 1000000+b.given))) O3::BF::BF::BF::BF::BF::.call (V.b (decide (1≤j.worker∧j.worker≤b.workers))) O3::(RL 7 BF (.i (b.now+1)::BF::BF::BF::.i (b.now+12)::BF::.call (V.b (decide (b.now+1≤j.til∧j.til≤b.now+12))) O3::(RL 6 BF (.x (ah y)::BF::BF::BF::(RL 7 BT [])))))) ?_
       conv=>whnf
       refine J (QA @aw)<|Wc<|Kr (g 81 82 []<|J UA (RT ?_))
       exact vbf (lc hj1 (fun q=>hE (by have:=(q.2 hz).res;rw[kJ hy0]at this;exact this)))
     ·conv=>whnf
      refine Ws<|g 13 17 []<|J UE<|Wc<|J (fun _=>(Wk (Ws (Wb (g 17 25 [.x (aH j)]<|J QZ (Ws (g 25 27 []<|J UC (Wc<|Jf<|(Wk (Ws ?_)))))))))) (noF (by simp_all))
      refine g 27 81 (.i ((b.epoch - 1) * 1000000+1)::.i ((b.epoch - 1) * 1000000+b.given)::.call (V.b (decide ((b.epoch - 1) * 1000000+1≤j.lease∧j.lease≤(b.epoch - 1) * 1000000+b.given))) O3::BF::BF::BF::BF::BF::.call (V.b (decide (1≤j.worker∧j.worker≤b.workers))) O3::(RL 7 BF (.i (b.now+1)::BF::BF::BF::.i (b.now+12)::BF::.call (V.b (decide (b.now+1≤j.til∧j.til≤b.now+12))) O3::BF::BF::(RL 14 BT [])))) ?_
      conv=>whnf
      refine J (QA @aw)<|Wc<|Kr (g 81 82 []<|J UA (RT ?_))
      exact vbf (lc hj1 (fun q=>hD (q.2 hz).til))
    ·conv=>whnf
     refine Ws<|g 13 17 []<|J UE<|Wc<|J (fun _=>(Wk (Ws (Wb (g 17 25 [.x (aH j)]<|J QZ (Ws (g 25 27 []<|J UC (Wc<|Jf<|(Wk (Ws ?_)))))))))) (noF (by simp_all))
     refine g 27 81 (.i ((b.epoch - 1) * 1000000+1)::.i ((b.epoch - 1) * 1000000+b.given)::.call (V.b (decide ((b.epoch - 1) * 1000000+1≤j.lease∧j.lease≤(b.epoch - 1) * 1000000+b.given))) O3::BF::BF::BF::BF::BF::.call (V.b (decide (1≤j.worker∧j.worker≤b.workers))) O3::BF::BF::(RL 25 BT [])) ?_
     conv=>whnf
     refine J (QA @aw)<|Wc<|Kr (g 81 82 []<|J UA (RT ?_))
     exact vbf (lc hj1 (fun q=>hC (q.2 hz).worker))
   ·conv=>whnf
    refine Ws<|g 13 17 []<|J UE<|Wc<|J (fun _=>(Wk (Ws (Wb (g 17 25 [.x (aH j)]<|J QZ (Ws (g 25 27 []<|J UC (Wc<|Jf<|(Wk (Ws ?_)))))))))) (noF (by simp_all))
    refine g 27 81 (.i ((b.epoch - 1) * 1000000+1)::.i ((b.epoch - 1) * 1000000+b.given)::.call (V.b (decide ((b.epoch - 1) * 1000000+1≤j.lease∧j.lease≤(b.epoch - 1) * 1000000+b.given))) O3::(RL 32 BT [])) ?_
    conv=>whnf
    refine J (QA @aw)<|Wc<|Kr (g 81 82 []<|J UA (RT ?_))
    exact vbf (lc hj1 (fun q=>hA (q.2 hz).lease))
 have hjobs:iW b p.tasks b.jobs.length:=by rw[show b.jobs.length = n1 by omega];exact hc1
 conv=>whnf
 refine Ws<|g 13 17 []<|J UE<|Wc<|J (noT (by simp_all)) fun _=>We<|g 5 18 []<|J UA<|RT ?_
 exact vbt OM
theorem wq(b:Boss)(p:Plan)(hp:dD p)(hl1:b.log.safe.length≤1048576)(hl2:b.log.loose.length≤1048576)(hs:∀ s∈b.log.safe++b.log.loose,s.size≤281474976710656)(hr:b.results.length≤1048576)(hj:b.jobs.length≤1048576)(hse:b.seats.length≤1048576)(ho:b.owed.length≤1048576):F mj [.val (ge b),.val (cX p)] (.b (decide (BossOk b p))) O2:=by
 have cp:=dr p hp
 have ce:=nF b.log hl1 hl2
 have cr:F lN [.val (cX p),.val (.t (pp (b.log.safe++b.log.loose)))] (gT (cA b p)) O2:=jd p (b.log.safe++b.log.loose) hp hs (by rw[List.length_append];omega)
 have h310:(cA b p).code = 0→b.log.safe.length+b.log.loose.length≤310:=fun q=>by have:=(cF (p:=p) (xs:=b.log.safe++b.log.loose) q).2.1;rw[List.length_append]at this;exact this
 by_cases hup:b.up = true
 rotate_left
 ·rw[Bool.not_eq_true]at hup
  refine mC ?_
  conv=>whnf
  refine g 0 2 []<|J QZ<|Ws ?_
  by_cases h1:am (Plan.tasks p) = (0:Int)
  by_cases h2:(1:Int)≤Boss.workers b∧Boss.workers b≤(8:Int)
  by_cases h3:(0:Int)≤Boss.now b∧Boss.now b≤(1000000:Int)
  refine g 21 26 (.call (V.i (am p.tasks)) O1::BF::BF::BF::.call (V.b (decide (1≤b.workers∧b.workers≤8))) O3::BF::BF::BF::BF::BF::.call (V.b (decide (0≤b.now∧b.now≤1000000))) O3::(RL 11 BF [.i ((↑(List.length (List.map ah b.log.safe)):Int) + (↑(List.length (List.map ah b.log.loose)):Int)),BF,BF]))<|J (QA @aw)<|Wc<|JD (fun h4=>?_) fun h4=>?_
  simp only[LM]at h4
  refine g 27 32 []<|J UA<|RT ?_
  rotate_left
  simp only[LM]at h4
  refine Wk<|gd 27 32 [[],[],[],[.call (V.own [false] (List.map ah (b.log.safe++b.log.loose))) O1],[.call (gT (cA b p)) O2],[],[]] ?_
  conv=>whnf
  refine J QZ<|J KR<|Ws<|g 39 45 []<|J UC<|Wc<|JN (fun h5=>?_) fun h5=>?_
  refine g 33 38 []<|J UA<|RT ?_
  rotate_left
  refine Wk<|Ws<|g 33 38 []<|J UC<|Wc<|J (fun _=>?_) (noF (nbT AS))
  by_cases h6:(↑(List.length (List.map ah (Log.loose (Boss.log b)))):Int) = (0:Int)
  simp only[LM]at h6
  by_cases h7:Boss.since b = (0:Int)
  by_cases h8:Boss.epoch b = (0:Int)
  by_cases h9:Boss.given b = (0:Int)
  by_cases h10:(↑(List.length (List.map ah (Boss.results b))):Int) = (0:Int)
  simp only[LM]at h10
  by_cases h11:(↑(List.length (List.map aH (Boss.jobs b))):Int) = (0:Int)
  simp only[LM]at h11
  by_cases h12:(↑(List.length (List.map aE (Boss.seats b))):Int) = (0:Int)
  simp only[LM]at h12
  refine g 26 93 (RL 32 BT []) ?_
  conv=>whnf
  refine J QZ<|RT ?_
  rotate_left
  simp only[LM]at h12
  refine g 26 93 (RL 27 BT [BF,BF,BF,BF,BF]) ?_
  conv=>whnf
  refine J QZ<|RT ?_
  rotate_left
  simp only[LM]at h11
  refine g 26 93 (RL 22 BT (RL 10 BF [])) ?_
  conv=>whnf
  refine J QZ<|RT ?_
  rotate_left
  simp only[LM]at h10
  refine g 26 93 (RL 17 BT (RL 15 BF [])) ?_
  conv=>whnf
  refine J QZ<|RT ?_
  rotate_left
  refine g 26 93 (RL 12 BT (RL 20 BF [])) ?_
  conv=>whnf
  refine J QZ<|RT ?_
  rotate_left
  refine g 26 93 (RL 8 BT (RL 24 BF [])) ?_
  conv=>whnf
  refine J QZ<|RT ?_
  rotate_left
  refine g 26 93 (BT::BT::BT::BT::(RL 28 BF [])) ?_
  conv=>whnf
  refine J QZ<|RT ?_
  rotate_left
  simp only[LM]at h6
  refine g 26 93 (RL 32 BF []) ?_
  conv=>whnf
  refine J QZ<|RT ?_
  rotate_left
  refine g 21 26 (.call (V.i (am p.tasks)) O1::BF::BF::BF::.call (V.b (decide (1≤b.workers∧b.workers≤8))) O3::BF::BF::BF::BF::BF::.call (V.b (decide (0≤b.now∧b.now≤1000000))) O3::BF::BF::(RL 11 BT []))<|J (QA @aw)<|Wc<|Kr (g 27 32 []<|J UA (RT ?_))
  rotate_left
  refine g 21 26 (.call (V.i (am p.tasks)) O1::BF::BF::BF::.call (V.b (decide (1≤b.workers∧b.workers≤8))) O3::BF::BF::(RL 16 BT []))<|J (QA @aw)<|Wc<|Kr (g 27 32 []<|J UA (RT ?_))
  rotate_left
  refine g 21 26 (.call (V.i (am p.tasks)) O1::(RL 21 BT []))<|J QZ<|Wc<|Kr (g 27 32 []<|J UA (RT ?_))
  rotate_left
  all_goals first
   |exact vbf (fun q=>by have e1:=q.plan;have e2:=q.workers;have e3:=q.now;have e4:=q.code;have e5:=h310 e4;omega)
   |exact vbf (BW hup fun q=>by have e1:=q.loose;have e2:=q.since;have e3:=q.epoch;have e4:=q.given;have e5:=q.res;have e6:=q.jobs;have e7:=q.seats;omega)
   |(rename_i h8
     simp only[List.length_map]
     by_cases h9:(b.owed.length:Int) = 0
     ·rw[decide_eq_true h9];exact vbt ⟨by omega,by omega,by omega,by omega,(fun q=>by rw[hup]at q;cases q),fun _=>⟨by omega,by omega,by omega,by omega,by omega,by omega,by omega,by omega⟩⟩
     ·rw[decide_eq_false h9];exact vbf (BW hup fun q=>by have e8:=q.owed;omega))
   |skip
 refine mC ?_
 conv=>whnf
 refine g 0 2 []<|J QZ<|Ws ?_
 by_cases h1:am (Plan.tasks p) = (0:Int)
 by_cases h2:(1:Int)≤Boss.workers b∧Boss.workers b≤(8:Int)
 by_cases h3:(0:Int)≤Boss.now b∧Boss.now b≤(1000000:Int)
 refine g 21 26 (.call (V.i (am p.tasks)) O1::BF::BF::BF::.call (V.b (decide (1≤b.workers∧b.workers≤8))) O3::BF::BF::BF::BF::BF::.call (V.b (decide (0≤b.now∧b.now≤1000000))) O3::(RL 11 BF [.i ((↑(List.length (List.map ah b.log.safe)):Int) + (↑(List.length (List.map ah b.log.loose)):Int)),BF,BF]))<|J (QA @aw)<|Wc<|JD (fun h4=>?_) fun h4=>?_
 simp only[LM]at h4
 refine g 27 32 []<|J UA<|RT ?_
 rotate_left
 simp only[LM]at h4
 refine Wk<|gd 27 32 [[],[],[],[.call (V.own [false] (List.map ah (b.log.safe++b.log.loose))) O1],[.call (gT (cA b p)) O2],[],[]] ?_
 conv=>whnf
 refine J QZ<|J KR<|Ws<|g 39 45 []<|J UC<|Wc<|JN (fun h5=>?_) fun h5=>?_
 refine g 33 38 []<|J UA<|RT ?_
 rotate_left
 refine Wk<|Ws<|g 33 38 []<|J UC<|Wc<|J (noT (nbF AS)) fun _=>Wk<|Ws ?_
 by_cases h6:Boss.epoch b = Story.epoch (cA b p)
 by_cases h7:Boss.epoch b < (1:Int)
 refine g 26 114 (BF::BF::BF::BF::(RL 10 BT []))<|J QZ<|Wc<|Kr (g 13 20 []<|J UA (RT ?_))
 rotate_left
 by_cases h8:(0:Int)≤Boss.since b∧Boss.since b≤(1:Int)
 refine g 26 114 (RL 7 BF [.call (V.b (decide (0≤b.since∧b.since≤1))) O3,BF,BF,BF,BF,BF,.call (V.b (decide (0≤b.given∧b.given≤1000000))) O3,BF,BF])<|J (QA @aw)<|Wc<|JN (fun h9=>?_) fun h9=>?_
 refine g 13 20 []<|J UA<|RT ?_
 rotate_left
 refine Wk<|g 13 20 []<|J UD<|Ws ?_
 by_cases h10:(↑(List.length (List.map ah (Boss.results b))):Int) = (↑(List.length (List.map ay (Plan.tasks p))):Int)
 simp only[LM]at h10
 by_cases h11:(↑(List.length (List.map aH (Boss.jobs b))):Int) = (↑(List.length (List.map ay (Plan.tasks p))):Int)
 simp only[LM]at h11
 by_cases h12:(↑(List.length (List.map aE (Boss.seats b))):Int) = Boss.workers b
 simp only[LM]at h12
 refine g 114 143 (RL 18 BF [])<|J QZ<|Wc<|JD (fun h13=>?_) fun h13=>?_
 simp only[LM]at h13
 refine g 11 12 []<|J UA<|RT ?_
 rotate_left
 simp only[LM]at h13
 refine Wk<|Ws<|g 11 12 []<|J UA<|Wb ?_
 rotate_left
 simp only[LM]at h12
 refine g 114 143 (RL 13 BF [BT,BT,BT,BT,BT])<|J QZ<|Wc<|Kr (g 11 12 []<|J UA (RT ?_))
 rotate_left
 simp only[LM]at h11
 refine g 114 143 (RL 6 BF (RL 12 BT []))<|J QZ<|Wc<|Kr (g 11 12 []<|J UA (RT ?_))
 rotate_left
 simp only[LM]at h10
 refine g 114 143 (RL 18 BT [])<|J QZ<|Wc<|Kr (g 11 12 []<|J UA (RT ?_))
 rotate_left
 refine g 26 114 (RL 7 BF [.call (V.b (decide (0≤b.since∧b.since≤1))) O3,BF,BF,BT,BT,BT,BT,BT])<|J (QA @aw)<|Wc<|Kr (g 13 20 []<|J UA (RT ?_))
 rotate_left
 refine g 26 114 (RL 14 BT [])<|J QZ<|Wc<|Kr (g 13 20 []<|J UA (RT ?_))
 rotate_left
 refine g 21 26 (.call (V.i (am p.tasks)) O1::BF::BF::BF::.call (V.b (decide (1≤b.workers∧b.workers≤8))) O3::BF::BF::BF::BF::BF::.call (V.b (decide (0≤b.now∧b.now≤1000000))) O3::BF::BF::(RL 11 BT []))<|J (QA @aw)<|Wc<|Kr (g 27 32 []<|J UA (RT ?_))
 rotate_left
 refine g 21 26 (.call (V.i (am p.tasks)) O1::BF::BF::BF::.call (V.b (decide (1≤b.workers∧b.workers≤8))) O3::BF::BF::(RL 16 BT []))<|J (QA @aw)<|Wc<|Kr (g 27 32 []<|J UA (RT ?_))
 rotate_left
 refine g 21 26 (.call (V.i (am p.tasks)) O1::(RL 21 BT []))<|J QZ<|Wc<|Kr (g 27 32 []<|J UA (RT ?_))
 rotate_left
 all_goals try first
  |exact vbf (fun q=>by have e1:=q.plan;have e2:=q.workers;have e3:=q.now;have e4:=q.code;have e5:=h310 e4;omega)
  |exact vbf (gP hup fun q=>by have e1:=q.epoch;have e2:=q.pos;have e3:=q.rlen;have e4:=q.jlen;have e5:=q.slen;have e6:=q.since;have e7:=q.given;have e8:=q.olen;omega)
 have hk:(cA b p).code = 0:=by assumption
 have hc0:am p.tasks = 0:=by assumption
 obtain⟨_,_,hsl,_⟩:=cF (p:=p) (xs:=b.log.safe++b.log.loose) hk
 obtain⟨hep1,hep2⟩:=fG (p:=p) (xs:=b.log.safe++b.log.loose) hk
 change (cA b p).results.length = _ at hsl
 change 0≤(cA b p).epoch at hep1
 change (cA b p).epoch≤300 at hep2
 have f1:b.epoch = (cA b p).epoch:=by assumption
 have f2:1≤b.epoch:=by omega
 have f3:b.results.length = p.tasks.length:=by omega
 have f4:b.jobs.length = p.tasks.length:=by omega
 have f5:(b.seats.length:Int) = b.workers:=by omega
 have f6:1≤b.workers∧b.workers≤8:=by assumption
 have f7:0≤b.now∧b.now≤1000000:=by assumption
 have g2:0≤b.since∧b.since≤1:=by omega
 have g3:0≤b.given∧b.given≤1000000:=by omega
 have g4:b.owed.length≤2000:=by omega
 have hpl:=(bX hc0).1
 refine Wl (fun s (n:Nat)=>⟨(SK s [2,3,5,6] [(7,.i n),(12,s.s 12),(20,s.s 20)]),[(2,(CK s 2 0 12 [])),(3,[s.c 3 0]),(5,(CK s 5 0 3 []))],[]⟩) (fun(n:Nat)=>n≤b.results.length∧b.results.take n = (cA b p).results.take n) (fun(n:Nat)=>b.results.length - n) (0) [some 2,some 3,some 5] [] FZ (by simp) ?_
 rintro n ⟨hn,hc⟩
 conv=>whnf
 refine Ws<|g 144 146 []<|J UC<|Wc<|JD (fun h14=>?_) fun h14=>?_
 simp only[LM]at h14
 refine Wk<|Ws<|Wb ?_
 obtain⟨y1,hy1⟩:=ae (xs:=Boss.results b) (n:=n) OM
 obtain⟨y2,hy2⟩:=ae (xs:=Story.results (cA b p)) (n:=n) OM
 refine gd 146 159 [[],[],[],[.x (ah y1)],[],[],[],[],[.n (n)],[.x (ah y2)],[]] ?_
 conv=>whnf
 refine J QZ<|J KR<|Wc<|JN (fun h15=>?_) fun h15=>?_
 refine g 159 160 []<|J UA<|RT ?_
 rotate_left
 refine Wk<|rg [.i ((n:Int) +1)]<|J QZ ?_
 rotate_left
 simp only[LM]at h14
 refine We<|Ws<|g 5 6 []<|J UA<|Wb ?_
 rotate_left
 all_goals try
  exact vbf (gP hup fun q=>by have e1:=q.res;rw[e1]at hy1;rw[hy1]at hy2;cases hy2;contradiction)
 ·refine⟨n+1,[some 2,some 3,some 5],[],FZ,?_,?_⟩
  rotate_left
  (dsimp only;omega)
  dsimp only
  exact⟨by omega,kM hc hy1 (by rw[hy2];simp_all)⟩
 have g1:b.results = (cA b p).results:=by rw[aI OM,aI OM]at hc;exact hc
 refine Wl (fun s (n:Nat)=>⟨(SK s [2,3,6] [(8,.i n),(12,s.s 12),(20,s.s 20)]),[(2,(CK s 2 0 12 [])),(3,[s.c 3 0])],[]⟩) (fun(n:Nat)=>n≤b.seats.length∧∀ s∈b.seats.take n,0≤s.epoch∧s.epoch≤300) (fun(n:Nat)=>b.seats.length - n) (0) [some 2,some 3] [] FZ (by simp) ?_
 rintro n2 ⟨hn2,hc2⟩
 by_cases hs2:n2 < b.seats.length
 ·obtain⟨s,hs1⟩:=ae hs2
  by_cases hA:0≤s.epoch∧s.epoch≤300
  ·conv=>whnf
   refine Ws<|g 160 164 []<|J UE<|Wc<|JD (fun h15=>?_) fun h15=>?_
   simp only[LM]at h15
   refine Wk<|Ws<|Wb<|g 164 174 [.x (aE s),.call (V.b (decide (0≤s.epoch∧s.epoch≤300))) O3]<|J (QA @aw)<|Wc<|Jn<|Wk<|rg [.i ((n2:Int) +1)]<|J QZ ?_
   rotate_left
   simp only[LM]at h15
   omega
   refine⟨n2+1,[some 2,some 3],[],FZ,?_,?_⟩
   rotate_left
   (dsimp only;omega)
   dsimp only
   exact⟨by omega,eC hc2 hs1 hA⟩
  ·conv=>whnf
   refine Ws<|g 160 164 []<|J UE<|Wc<|JD (fun h15=>?_) fun h15=>?_
   simp only[LM]at h15
   refine Wk<|Ws<|Wb<|g 164 174 [.x (aE s),.call (V.b (decide (0≤s.epoch∧s.epoch≤300))) O3]<|J (QA @aw)<|Wc<|Kn (g 174 175 []<|J UA (RT ?_))
   rotate_left
   simp only[LM]at h15
   omega
   exact vbf (gP hup (KA hs1 hA))
 have hseats:∀ s∈b.seats,0≤s.epoch∧s.epoch≤300:=by rw[aI OM]at hc2;exact hc2
 conv=>whnf
 refine Ws<|g 160 164 []<|J UE<|Wc<|J (fun h15=>?_) fun h15=>?_
 replace h15:=dt h15
 simp only[LM]at h15
 omega
 replace h15:=df h15
 simp only[LM]at h15
 refine We<|Ws<|g 8 9 []<|J UA<|Wb<|Wl (fun s (n:Nat)=>⟨(SK s [2,3,6] [(9,.i n),(12,s.s 12),(20,s.s 20)]),[(2,(CK s 2 0 12 [])),(3,[s.c 3 0])],[]⟩) (fun(n:Nat)=>n≤b.owed.length∧∀ o∈b.owed.take n,OwedOk b p.tasks o) (fun(n:Nat)=>b.owed.length - n) (0) [some 2,some 3] [] FZ (by simp) ?_
 rintro n3 ⟨hn3,hc3⟩
 by_cases ho2:n3 < b.owed.length
 ·obtain⟨o,ho1⟩:=ae ho2
  by_cases hA:1≤o.worker∧o.worker≤b.workers
  ·by_cases hB:1≤o.lease∧o.lease≤300000000
   ·by_cases hC:0≤o.task∧o.task≤(p.tasks.length:Int) - 1
    ·obtain⟨y,hy0⟩:=ae (xs:=b.results) (n:=o.task.toNat) OM
     by_cases hD:y = emp
     ·conv=>whnf
      refine Ws<|g 175 179 []<|J UE<|Wc<|J (fun _=>(Wk (Ws (Wb (g 179 187 [.x (aJ o)]<|J QZ (g 187 215 (.call (V.b (decide (1≤o.worker∧o.worker≤b.workers))) O3::BF::BF::BF::.call (V.b (decide (1≤o.lease∧o.lease≤300000000))) O1::(RL 6 BF (.i ((↑(List.length (List.map ay p.tasks)):Int) - 1)::BF::.call (V.b (decide (0≤o.task∧o.task≤(↑(List.length (List.map ay p.tasks)):Int) - 1))) O3::(RL 7 BF [.x (ah y),BF,BF,BF]))))<|J (QB @aw @aC) (Wc<|Kt (g 10 11 []<|J UA (RT ?_))))))))) (noF SI)
      exact vbf (gP hup (mi ho1 (fun q=>q.res (by rw[kZ hy0];exact hD))))
     ·conv=>whnf
      refine Ws<|g 175 179 []<|J UE<|Wc<|J (fun _=>(Wk (Ws (Wb (g 179 187 [.x (aJ o)]<|J QZ (g 187 215 (.call (V.b (decide (1≤o.worker∧o.worker≤b.workers))) O3::BF::BF::BF::.call (V.b (decide (1≤o.lease∧o.lease≤300000000))) O1::(RL 6 BF (.i ((↑(List.length (List.map ay p.tasks)):Int) - 1)::BF::.call (V.b (decide (0≤o.task∧o.task≤(↑(List.length (List.map ay p.tasks)):Int) - 1))) O3::(RL 7 BF [.x (ah y),BF,BF,BF]))))<|J (QB @aw @aC) (Wc<|Jf<|(Wk (rg [.i ((n3:Int) +1)]<|J QZ ?_))))))))) (noF SI)
      refine⟨n3+1,[some 2,some 3],[],FZ,?_,?_⟩
      rotate_left
      (dsimp only;omega)
      dsimp only
      exact⟨by omega,eC hc3 ho1 ⟨hA,hB,hC,by rw[kZ hy0];exact hD⟩⟩
    ·conv=>whnf
     refine Ws<|g 175 179 []<|J UE<|Wc<|J (fun _=>(Wk (Ws (Wb (g 179 187 [.x (aJ o)]<|J QZ (g 187 215 (.call (V.b (decide (1≤o.worker∧o.worker≤b.workers))) O3::BF::BF::BF::.call (V.b (decide (1≤o.lease∧o.lease≤300000000))) O1::(RL 6 BF (.i ((↑(List.length (List.map ay p.tasks)):Int) - 1)::BF::.call (V.b (decide (0≤o.task∧o.task≤(↑(List.length (List.map ay p.tasks)):Int) - 1))) O3::BF::BF::(RL 8 BT []))))<|J (QB @aw @aC) (Wc<|Kr (g 10 11 []<|J UA (RT ?_))))))))) (noF SI)
     exact vbf (gP hup (mi ho1 (fun q=>hC q.task)))
   ·conv=>whnf
    refine Ws<|g 175 179 []<|J UE<|Wc<|J (fun _=>(Wk (Ws (Wb (g 179 187 [.x (aJ o)]<|J QZ (g 187 215 (.call (V.b (decide (1≤o.worker∧o.worker≤b.workers))) O3::BF::BF::BF::.call (V.b (decide (1≤o.lease∧o.lease≤300000000))) O1::BF::BF::(RL 15 BT []))<|J (QB @aw @aC) (Wc<|Kr (g 10 11 []<|J UA (RT ?_))))))))) (noF SI)
    exact vbf (gP hup (mi ho1 (fun q=>hB q.lease)))
  ·conv=>whnf
   refine Ws<|g 175 179 []<|J UE<|Wc<|J (fun _=>(Wk (Ws (Wb (g 179 187 [.x (aJ o)]<|J QZ (g 187 215 (.call (V.b (decide (1≤o.worker∧o.worker≤b.workers))) O3::(RL 20 BT []))<|J (QA @aw) (Wc<|Kr (g 10 11 []<|J UA (RT ?_))))))))) (noF SI)
   exact vbf (gP hup (mi ho1 (fun q=>hA q.worker)))
 have howed:∀ o∈b.owed,OwedOk b p.tasks o:=by rw[aI OM]at hc3;exact hc3
 have cj:=zu b p hc0 OM OM f3 f4 f7 g3
 by_cases hjobs:iW b p.tasks b.jobs.length
 ·rw[decide_eq_true hjobs]at cj
  conv=>whnf
  refine Ws<|g 175 179 []<|J UE<|Wc<|J (noT SI) fun _=>We<|g 6 219 [.call VT O2]<|J QZ<|RT ?_
  exact vbt ⟨hc0,f6,f7,hk,fun _=>⟨f1,f2,f3,f4,f5,g1,g2,g3,g4,hjobs,hseats,howed⟩,fun e=>by rw[hup]at e;cases e⟩
 ·rw[decide_eq_false hjobs]at cj
  conv=>whnf
  refine Ws<|g 175 179 []<|J UE<|Wc<|J (noT SI) fun _=>We<|g 6 219 [.call VF O2]<|J QZ<|RT ?_
  exact vbf (gP hup fun q=>hjobs q.jobs)
end Go.K
end
section
open Go Go.Tm Go.Proofs
namespace Go.K
structure Acted where
 worker:Worker
 out:List Message
 deriving DecidableEq
abbrev rm(x:Acted):V:=.agg [.t (.i x.worker.number),.t (.i x.worker.epoch),.t (.b x.worker.up),.t (.i x.worker.state),.t (.i x.worker.lease),.t (.i x.worker.task),.t (.i x.worker.cost),.t (.i x.worker.left),.own [false] (x.worker.inputs.map ah),.t (.s x.worker.text),.t (.i x.worker.since),.own cU (x.out.map aL)]
abbrev BX:Acted:=⟨⟨0,0,false,0,0,0,0,0,[],emp,0⟩,[]⟩
def gp(w:Worker)(k:Int):Message:=⟨k,w.number,0,w.epoch,if k = 5 then 0 else w.lease,if k = 3 then w.task else 0,if k = 3 then w.text else emp,[]⟩
theorem ci(w:Worker)(k:Int)(hk:k = 2∨k = 3∨k = 5):F rB [.val (dP w),.val (.i k)] (bC (gp w k)) O2:=by
 rcases hk with rfl|rfl|rfl
 ·refine gG ?_
  conv=>whnf
  refine g 0 0 []<|J QZ<|g 6 12 []<|J QZ<|Ws<|g 0 1 []<|J UB<|Wc<|Kr (rg []<|J UW (Ws (g 12 18 []<|J UB (Wc<|Jr<|(Wk (g 5 26 []<|J QZ (RT ?_)))))))
  rfl
 ·refine gG ?_
  conv=>whnf
  refine g 0 0 []<|J QZ<|g 6 12 []<|J QZ<|Ws<|g 0 1 []<|J UB<|Wc<|Kr (rg []<|J UW (Ws (g 12 18 []<|J UB (Wc<|Kr (rgd [[],[],[],[],[],[],[],[]] ?_)))))
  conv=>whnf
  refine⟨⟨I,I,I,I,I,UA,I,UA,I⟩,by kernel_rfl,?_⟩
  refine g 5 26 []<|J QZ<|RT ?_
  rfl
 ·refine gG ?_
  conv=>whnf
  refine g 0 0 []<|J QZ<|g 6 12 []<|J QZ<|Ws<|g 0 1 []<|J UB<|Wc<|Jr<|Wk<|Ws<|g 12 18 []<|J UB<|Wc<|Jr<|Wk<|g 5 26 []<|J QZ<|RT ?_
  rfl
theorem dV(w:Worker)(k:Int)(hk:k = 2∨k = 3∨k = 5):F Dr [.val (dP w),.val (.i k)] (bC (gp w k)) O2:=by
 rcases hk with rfl|rfl|rfl
 ·refine lO ?_
  conv=>whnf
  refine g 0 0 []<|J QZ<|g 6 12 []<|J QZ<|Ws<|g 0 1 []<|J UB<|Wc<|Kr (rg []<|J UW (Ws (g 12 18 []<|J UB (Wc<|Jr<|(Wk (g 5 26 []<|J QZ (RT ?_)))))))
  rfl
 ·refine lO ?_
  conv=>whnf
  refine g 0 0 []<|J QZ<|g 6 12 []<|J QZ<|Ws<|g 0 1 []<|J UB<|Wc<|Kr (rg []<|J UW (Ws (g 12 18 []<|J UB (Wc<|Kr (g 18 22 []<|J UW (rg []<|J UW (g 5 26 []<|J QZ ?_)))))))
  refine RT ?_
  rfl
 ·refine lO ?_
  conv=>whnf
  refine g 0 0 []<|J QZ<|g 6 12 []<|J QZ<|Ws<|g 0 1 []<|J UB<|Wc<|Jr<|Wk<|Ws<|g 12 18 []<|J UB<|Wc<|Jr<|Wk<|g 5 26 []<|J QZ<|RT ?_
  rfl
def Dj(ts:List Task)(k:Int):ByteArray:=((ts[k.toNat]?).map Task.name).getD emp
def aX(w:Worker):Int:=if w.since < 1000000 then w.since+1 else w.since
def ii(w:Worker)(ts:List Task):Worker:=⟨w.number,w.epoch,w.up,2,w.lease,w.task,0,w.left - 1,[],bG (Dj ts w.task) w.inputs,0⟩
def cV(w:Worker)(s:Int):Worker:=⟨w.number,w.epoch,w.up,w.state,w.lease,w.task,w.cost,w.left,w.inputs,w.text,s⟩
def oA(w:Worker):Worker:=⟨w.number,w.epoch,w.up,w.state,w.lease,w.task,w.cost,w.left - 1,w.inputs,w.text,w.since⟩
def Fu(w:Worker)(k:Int):Acted:=⟨cV w 0,[gp (cV w 0) k]⟩
def g9(w:Worker)(ts:List Task):Acted :=
 if w.up = false then⟨w,[]⟩else
 if w.state = 1 then
  if w.left - 1 = 0 then⟨ii w ts,[gp (ii w ts) 3]⟩
  else if 4≤aX w then Fu (oA w) 2 else⟨cV (oA w) (aX w),[]⟩
 else if w.state = 2 then(if 4≤aX w then Fu w 3 else⟨cV w (aX w),[]⟩)
 else if 3≤aX w then Fu w 5 else⟨cV w (aX w),[]⟩
theorem KX{w:Worker}(h:av w):(1≤w.number∧w.number≤8)∧(1≤w.epoch∧w.epoch≤300)∧(0≤w.since∧w.since≤1000000):=⟨h.1,h.2.1,h.2.2.1⟩
theorem BV{w:Worker}(h:av w)(h1:w.state = 1):eW w:=by
 rcases h.2.2.2.2 with q|q|q
 ·have:=q.1;omega
 ·exact q
 ·have:=q.1;omega
theorem CM{w:Worker}(h:av w):w.state = 0∨w.state = 1∨w.state = 2:=by
 rcases h.2.2.2.2 with q|q|q
 ·exact .inl q.1
 ·exact .inr (.inl q.1)
 ·exact .inr (.inr q.1)
theorem wV{w:Worker}{ts:List Task}(h:w.up = false):g9 w ts = ⟨w,[]⟩:=if_pos h
theorem mV{w:Worker}{ts:List Task}(h:¬w.up = false)(h1:w.state = 1)(h2:w.left - 1 = 0):g9 w ts = ⟨ii w ts,[gp (ii w ts) 3]⟩:=by rw[g9,if_neg h,if_pos h1,if_pos h2]
theorem mW{w:Worker}{ts:List Task}(h:¬w.up = false)(h1:w.state = 1)(h2:¬w.left - 1 = 0)(h4:4≤aX w):g9 w ts = Fu (oA w) 2:=by rw[g9,if_neg h,if_pos h1,if_neg h2,if_pos h4]
theorem wW{w:Worker}{ts:List Task}(h:¬w.up = false)(h1:w.state = 1)(h2:¬w.left - 1 = 0)(h4:¬4≤aX w):g9 w ts = ⟨cV (oA w) (aX w),[]⟩:=by rw[g9,if_neg h,if_pos h1,if_neg h2,if_neg h4]
theorem mS{w:Worker}{ts:List Task}(h:¬w.up = false)(h1:w.state = 2)(h4:4≤aX w):g9 w ts = Fu w 3:=by rw[g9,if_neg h,if_neg OM,if_pos h1,if_pos h4]
theorem r5{w:Worker}{ts:List Task}(h:¬w.up = false)(h1:w.state = 2)(h4:¬4≤aX w):g9 w ts = ⟨cV w (aX w),[]⟩:=by rw[g9,if_neg h,if_neg OM,if_pos h1,if_neg h4]
theorem mU{w:Worker}{ts:List Task}(h:¬w.up = false)(h1:w.state = 0)(h4:3≤aX w):g9 w ts = Fu w 5:=by rw[g9,if_neg h,if_neg OM,if_neg OM,if_pos h4]
theorem r6{w:Worker}{ts:List Task}(h:¬w.up = false)(h1:w.state = 0)(h4:¬3≤aX w):g9 w ts = ⟨cV w (aX w),[]⟩:=by rw[g9,if_neg h,if_neg OM,if_neg OM,if_neg h4]
theorem Ov{ts:List Task}{k:Int}{t:Task}(h:ts[k.toNat]? = some t):Dj ts k = t.name:=by unfold Dj;rw[h];rfl
theorem K2{ts:List Task}{k:Int}(h:ts[k.toNat]? = none):Dj ts k = emp:=by unfold Dj;rw[h];rfl
theorem Gv{w:Worker}(h:eW w):w.inputs.length≤8∧(∀ s∈w.inputs,s.size≤1048576)∧bV w.inputs≤64:=by
 obtain⟨h1,h2⟩:=h.2.2.2.2.1
 have:=CC (xs:=w.inputs) fun s hs=>Nat.le_of_eq (h1 s hs)
 exact⟨h2,fun s hs=>by have:=h1 s hs;omega,by omega⟩
noncomputable def gm(w:Worker)(p:Plan):Acted:=if av w∧am p.tasks = 0 then g9 w p.tasks else BX
theorem Kh{w:Worker}{p:Plan}(h:¬(av w∧am p.tasks = 0)):gm w p = BX:=if_neg h
theorem eU{w:Worker}{p:Plan}(h:av w)(h2:am p.tasks = 0):gm w p = g9 w p.tasks:=if_pos ⟨h,h2⟩
theorem rS(w:Worker)(p:Plan)(h:av w)(hc:am p.tasks = 0):F rA [.val (aA w),.val (cX p)] (rm (g9 w p.tasks)) O2:=by
 obtain⟨⟨f1,f2⟩,⟨f3,f4⟩,f5,f6⟩:=KX h
 by_cases hup:w.up = false
 ·refine bd ?_
  conv=>whnf
  refine g 0 0 []<|J QZ<|Ws<|g 7 9 []<|J UC<|Wc<|J (fun _=>(g 9 12 []<|J QZ (RT ?_))) (noF (nbT AS))
  rw[wV hup];rfl
 ·rcases CM h with h1|h1|h1
  ·skip
   by_cases hs:w.since < 1000000
   ·have e:aX w = w.since+1:=if_pos hs
    by_cases h4:3≤aX w
    ·have ct:=ci (cV w 0) 5 OM
     have h5:=h4
     rw[e]at h5
     refine bd ?_
     conv=>whnf
     refine g 0 0 []<|J QZ<|Ws<|g 7 9 []<|J UC<|Wc<|J (noT SI) fun _=>Wk<|Ws<|g 9 14 []<|J UC<|Wc<|Kt (rg [.i (w.since+1)]<|J QZ (g 14 19 []<|J UA (Ws (g 19 20 []<|J UB ?_))))
     refine Wb<|g 22 23 []<|J UB<|Wc<|Jf<|g 3 4 []<|J UB<|Wc<|Jf<|g 20 56 []<|J UB<|Wc<|Kt (g 59 63 []<|J UC (Wc<|Kt (rg []<|J UA (Ws (g 63 65 []<|J UB ?_)))))
     refine Wc<|Jr<|Wk<|g 65 69 []<|J UV<|gd 5 75 [[],[],[],[.call (bC (gp (cV w 0) 5)) O2],[],[],[]] ?_
     conv=>whnf
     refine J QZ<|J KR<|RT ?_
     rw[mU hup h1 h4];rfl
    ·have h5:=h4
     rw[e]at h5
     refine bd ?_
     conv=>whnf
     refine g 0 0 []<|J QZ<|Ws<|g 7 9 []<|J UC<|Wc<|J (noT SI) fun _=>Wk<|Ws<|g 9 14 []<|J UC<|Wc<|Kt (rg [.i (w.since+1)]<|J QZ (g 14 19 []<|J UA (Ws (g 19 20 []<|J UB ?_))))
     refine Wb<|g 22 23 []<|J UB<|Wc<|Jf<|g 3 4 []<|J UB<|Wc<|Jf<|g 20 56 []<|J UB<|Wc<|Kt (g 59 63 []<|J UC (Wc<|Jf<|(Wk (Ws (g 63 65 []<|J UB ?_)))))
     refine Wc<|Kr (g 65 68 []<|J QZ (RT ?_))
     rw[r6 hup h1 h4,e];rfl
   ·have e:aX w = w.since:=if_neg hs
    by_cases h4:3≤aX w
    ·have ct:=ci (cV w 0) 5 OM
     have h5:=h4
     rw[e]at h5
     refine bd ?_
     conv=>whnf
     refine g 0 0 []<|J QZ<|Ws<|g 7 9 []<|J UC<|Wc<|J (noT SI) fun _=>Wk<|Ws<|g 9 14 []<|J UC<|Wc<|Jf<|Wk<|g 14 15 []<|J UA<|Ws<|g 19 20 []<|J UB ?_
     refine Wb<|g 22 23 []<|J UB<|Wc<|Jf<|g 3 4 []<|J UB<|Wc<|Jf<|g 20 56 []<|J UB<|Wc<|Kt (g 59 63 []<|J UC (Wc<|Kt (rg []<|J UA (Ws (g 63 65 []<|J UB ?_)))))
     refine Wc<|Jr<|Wk<|g 65 69 []<|J UV<|gd 5 75 [[],[],[],[.call (bC (gp (cV w 0) 5)) O2],[],[],[]] ?_
     conv=>whnf
     refine J QZ<|J KR<|RT ?_
     rw[mU hup h1 h4];rfl
    ·exfalso;omega
  ·have hb:=BV h h1
   obtain⟨hl8,hes,htt⟩:=Gv hb
   obtain⟨_,⟨_,b3,b4⟩,⟨b5,b6⟩,⟨b7,b8⟩,_⟩:=hb
   by_cases hl:w.left - 1 = 0
   ·by_cases ht:w.task < p.tasks.length
    ·obtain⟨t,ht2⟩:=ae (xs:=p.tasks) (n:=w.task.toNat) OM
     obtain⟨⟨g1,g2⟩,_⟩:=cz hc ht2
     have cv:=nJ t.name w.inputs OM OM hes
     have ct:=ci ⟨w.number,w.epoch,w.up,2,w.lease,w.task,0,w.left - 1,[],bG t.name w.inputs,0⟩ 3 OM
     refine bd ?_
     conv=>whnf
     refine g 0 0 []<|J QZ<|Ws<|g 7 9 []<|J UC<|Wc<|J (noT SI) fun _=>Wk<|Ws<|g 9 14 []<|J UC<|Wc<|JD (fun h2=>?_) fun h2=>?_
     refine rg [.i (w.since+1)]<|J QZ<|g 14 19 []<|J UA<|Ws<|g 19 20 []<|J UB<|Wb<|g 22 23 []<|J UB<|Wc<|Kt (g 20 27 [.i (w.left - 1)]<|J QZ (g 27 29 []<|J UC (Wc<|Kt (g 29 30 []<|J UA (Ws ?_)))))
     refine g 30 35 []<|J UF<|Wc<|J (fun _=>(rg [.x (ay t)]<|J QZ (g 6 51 [.call (V.s (bG t.name w.inputs)) O2]<|J QZ (rg []<|J UA (Ws (g 3 4 []<|J UB (Wc<|Jr<|(Wk (g 64 69 []<|J UV (gd 5 75 [[],[],[],[.call (bC (gp {number:=w.number,epoch:=w.epoch,up:=w.up,state:=2,lease:=w.lease,task:=w.task,cost:=0,left:=w.left - 1,inputs:=[],text:=bG t.name w.inputs,since:=0:Worker} 3)) O2],[],[],[]] ?_)))))))))) (noF SI)
     conv=>whnf
     refine⟨Zam,by kernel_rfl,?_⟩
     refine RT ?_
     rotate_left
     refine Wk<|g 14 15 []<|J UA<|Ws<|g 19 20 []<|J UB<|Wb<|g 22 23 []<|J UB<|Wc<|Kt (g 20 27 [.i (w.left - 1)]<|J QZ (g 27 29 []<|J UC (Wc<|Kt (g 29 30 []<|J UA (Ws ?_)))))
     refine g 30 35 []<|J UF<|Wc<|J (fun _=>(rg [.x (ay t)]<|J QZ (g 6 51 [.call (V.s (bG t.name w.inputs)) O2]<|J QZ (rg []<|J UA (Ws (g 3 4 []<|J UB (Wc<|Jr<|(Wk (g 64 69 []<|J UV (gd 5 75 [[],[],[],[.call (bC (gp {number:=w.number,epoch:=w.epoch,up:=w.up,state:=2,lease:=w.lease,task:=w.task,cost:=0,left:=w.left - 1,inputs:=[],text:=bG t.name w.inputs,since:=0:Worker} 3)) O2],[],[],[]] ?_)))))))))) (noF SI)
     conv=>whnf
     refine⟨Zam,by kernel_rfl,?_⟩
     refine RT ?_
     rotate_left
     all_goals (rw[mV hup h1 hl,ii,Ov ht2];rfl)
    ·have ht2:p.tasks[w.task.toNat]? = none:=List.getElem?_eq_none OM
     have cv:=nJ emp w.inputs (by decide) OM hes
     have ct:=ci ⟨w.number,w.epoch,w.up,2,w.lease,w.task,0,w.left - 1,[],bG emp w.inputs,0⟩ 3 OM
     refine bd ?_
     conv=>whnf
     refine g 0 0 []<|J QZ<|Ws<|g 7 9 []<|J UC<|Wc<|J (noT SI) fun _=>Wk<|Ws<|g 9 14 []<|J UC<|Wc<|JD (fun h2=>?_) fun h2=>?_
     refine rg [.i (w.since+1)]<|J QZ<|g 14 19 []<|J UA<|Ws<|g 19 20 []<|J UB<|Wb<|g 22 23 []<|J UB<|Wc<|Kt (g 20 27 [.i (w.left - 1)]<|J QZ (g 27 29 []<|J UC (Wc<|Kt (g 29 30 []<|J UA (Ws ?_)))))
     refine g 30 35 []<|J UF<|Wc<|J (noT SI) fun _=>Wk<|g 6 51 [.call (V.s (bG emp w.inputs)) O2]<|J QZ<|rg []<|J UA<|Ws<|g 3 4 []<|J UB<|Wc<|Jr<|Wk<|g 64 69 []<|J UV<|gd 5 75 [[],[],[],[.call (bC (gp {number:=w.number,epoch:=w.epoch,up:=w.up,state:=2,lease:=w.lease,task:=w.task,cost:=0,left:=w.left - 1,inputs:=[],text:=bG emp w.inputs,since:=0:Worker} 3)) O2],[],[],[]] ?_
     conv=>whnf
     refine J QZ<|J KR<|RT ?_
     rotate_left
     refine Wk<|g 14 15 []<|J UA<|Ws<|g 19 20 []<|J UB<|Wb<|g 22 23 []<|J UB<|Wc<|Kt (g 20 27 [.i (w.left - 1)]<|J QZ (g 27 29 []<|J UC (Wc<|Kt (g 29 30 []<|J UA (Ws ?_)))))
     refine g 30 35 []<|J UF<|Wc<|J (noT SI) fun _=>Wk<|g 6 51 [.call (V.s (bG emp w.inputs)) O2]<|J QZ<|rg []<|J UA<|Ws<|g 3 4 []<|J UB<|Wc<|Jr<|Wk<|g 64 69 []<|J UV<|gd 5 75 [[],[],[],[.call (bC (gp {number:=w.number,epoch:=w.epoch,up:=w.up,state:=2,lease:=w.lease,task:=w.task,cost:=0,left:=w.left - 1,inputs:=[],text:=bG emp w.inputs,since:=0:Worker} 3)) O2],[],[],[]] ?_
     conv=>whnf
     refine J QZ<|J KR<|RT ?_
     rotate_left
     all_goals (rw[mV hup h1 hl,ii,K2 ht2];rfl)
   ·skip
    by_cases hs:w.since < 1000000
    ·have e:aX w = w.since+1:=if_pos hs
     by_cases h4:4≤aX w
     ·have ct:=ci (cV (oA w) 0) 2 OM
      have h5:=h4
      rw[e]at h5
      refine bd ?_
      conv=>whnf
      refine g 0 0 []<|J QZ<|Ws<|g 7 9 []<|J UC<|Wc<|J (noT SI) fun _=>Wk<|Ws<|g 9 14 []<|J UC<|Wc<|Kt (rg [.i (w.since+1)]<|J QZ (g 14 19 []<|J UA (Ws (g 19 20 []<|J UB ?_))))
      refine Wb<|g 22 23 []<|J UB<|Wc<|Kt (g 20 27 [.i (w.left - 1)]<|J QZ (g 27 29 []<|J UC (Wc<|Jf<|(g 29 53 []<|J UC (Wc<|Kt (rg []<|J UA (Ws (g 53 65 []<|J UB (Wc<|Jr ?_)))))))))
      refine Wk<|g 65 69 []<|J UV<|gd 5 75 [[],[],[],[.call (bC (gp (cV (oA w) 0) 2)) O2],[],[],[]] ?_
      conv=>whnf
      refine J QZ<|J KR<|RT ?_
      rw[mW hup h1 hl h4];rfl
     ·have h5:=h4
      rw[e]at h5
      refine bd ?_
      conv=>whnf
      refine g 0 0 []<|J QZ<|Ws<|g 7 9 []<|J UC<|Wc<|J (noT SI) fun _=>Wk<|Ws<|g 9 14 []<|J UC<|Wc<|Kt (rg [.i (w.since+1)]<|J QZ (g 14 19 []<|J UA (Ws (g 19 20 []<|J UB ?_))))
      refine Wb<|g 22 23 []<|J UB<|Wc<|Kt (g 20 27 [.i (w.left - 1)]<|J QZ (g 27 29 []<|J UC (Wc<|Jf<|(g 29 53 []<|J UC (Wc<|Jf<|(Wk (Ws (g 53 65 []<|J UB (Wc<|Kr ?_)))))))))
      refine g 65 68 []<|J QZ<|RT ?_
      rw[wW hup h1 hl h4,e];rfl
    ·have e:aX w = w.since:=if_neg hs
     by_cases h4:4≤aX w
     ·have ct:=ci (cV (oA w) 0) 2 OM
      have h5:=h4
      rw[e]at h5
      refine bd ?_
      conv=>whnf
      refine g 0 0 []<|J QZ<|Ws<|g 7 9 []<|J UC<|Wc<|J (noT SI) fun _=>Wk<|Ws<|g 9 14 []<|J UC<|Wc<|Jf<|Wk<|g 14 15 []<|J UA<|Ws<|g 19 20 []<|J UB ?_
      refine Wb<|g 22 23 []<|J UB<|Wc<|Kt (g 20 27 [.i (w.left - 1)]<|J QZ (g 27 29 []<|J UC (Wc<|Jf<|(g 29 53 []<|J UC (Wc<|Kt (rg []<|J UA (Ws (g 53 65 []<|J UB (Wc<|Jr ?_)))))))))
      refine Wk<|g 65 69 []<|J UV<|gd 5 75 [[],[],[],[.call (bC (gp (cV (oA w) 0) 2)) O2],[],[],[]] ?_
      conv=>whnf
      refine J QZ<|J KR<|RT ?_
      rw[mW hup h1 hl h4];rfl
     ·exfalso;omega
  ·skip
   by_cases hs:w.since < 1000000
   ·have e:aX w = w.since+1:=if_pos hs
    by_cases h4:4≤aX w
    ·have ct:=ci (cV w 0) 3 OM
     have h5:=h4
     rw[e]at h5
     refine bd ?_
     conv=>whnf
     refine g 0 0 []<|J QZ<|Ws<|g 7 9 []<|J UC<|Wc<|J (noT SI) fun _=>Wk<|Ws<|g 9 14 []<|J UC<|Wc<|Kt (rg [.i (w.since+1)]<|J QZ (g 14 19 []<|J UA (Ws (g 19 20 []<|J UB ?_))))
     refine Wb<|g 22 23 []<|J UB<|Wc<|Jf<|g 3 4 []<|J UB<|Wc<|Kt (g 20 58 []<|J UC (Wc<|Kt (rg []<|J UA (Ws (g 58 65 []<|J UB (Wc<|Jr<|(Wk ?_)))))))
     refine g 65 69 []<|J UV<|gd 5 75 [[],[],[],[.call (bC (gp (cV w 0) 3)) O2],[],[],[]] ?_
     conv=>whnf
     refine J QZ<|J KR<|RT ?_
     rw[mS hup h1 h4];rfl
    ·have h5:=h4
     rw[e]at h5
     refine bd ?_
     conv=>whnf
     refine g 0 0 []<|J QZ<|Ws<|g 7 9 []<|J UC<|Wc<|J (noT SI) fun _=>Wk<|Ws<|g 9 14 []<|J UC<|Wc<|Kt (rg [.i (w.since+1)]<|J QZ (g 14 19 []<|J UA (Ws (g 19 20 []<|J UB ?_))))
     refine Wb<|g 22 23 []<|J UB<|Wc<|Jf<|g 3 4 []<|J UB<|Wc<|Kt (g 20 58 []<|J UC (Wc<|Jf<|(Wk (Ws (g 58 65 []<|J UB (Wc<|Kr (g 65 68 []<|J QZ ?_)))))))
     refine RT ?_
     rw[r5 hup h1 h4,e];rfl
   ·have e:aX w = w.since:=if_neg hs
    by_cases h4:4≤aX w
    ·have ct:=ci (cV w 0) 3 OM
     have h5:=h4
     rw[e]at h5
     refine bd ?_
     conv=>whnf
     refine g 0 0 []<|J QZ<|Ws<|g 7 9 []<|J UC<|Wc<|J (noT SI) fun _=>Wk<|Ws<|g 9 14 []<|J UC<|Wc<|Jf<|Wk<|g 14 15 []<|J UA<|Ws<|g 19 20 []<|J UB ?_
     refine Wb<|g 22 23 []<|J UB<|Wc<|Jf<|g 3 4 []<|J UB<|Wc<|Kt (g 20 58 []<|J UC (Wc<|Kt (rg []<|J UA (Ws (g 58 65 []<|J UB (Wc<|Jr<|(Wk ?_)))))))
     refine g 65 69 []<|J UV<|gd 5 75 [[],[],[],[.call (bC (gp (cV w 0) 3)) O2],[],[],[]] ?_
     conv=>whnf
     refine J QZ<|J KR<|RT ?_
     rw[mS hup h1 h4];rfl
    ·exfalso;omega
theorem tE(w:Worker)(p:Plan)(hp:dD p)(hll:w.inputs.length≤1048576):F tc [.val (dP w),.val (cX p)] (rm (gm w p)) O2:=by
 have cp:=dr p hp
 by_cases h:av w
 ·by_cases hc:am p.tasks = 0
  ·rw[hc]at cp
   obtain⟨⟨f1,f2⟩,⟨f3,f4⟩,f5,f6⟩:=KX h
   by_cases hup:w.up = false
   ·refine aR ?_
    conv=>whnf
    refine g 0 0 []<|J QZ<|Ws<|g 8 15 [.call (V.b (decide (av w))) O1,BF,BF,.call (V.i 0) O1,BF,BF]<|J (QA @au)<|Wc<|Jr<|Wk<|g 15 19 [.call (aA w) O1]<|J (QA @aG)<|Ws<|g 19 21 []<|J UC<|Wc<|J (fun _=>(g 21 24 []<|J QZ (RT ?_))) (noF (nbT AS))
    rw[eU h hc,wV hup];rfl
   ·rcases CM h with h1|h1|h1
    ·skip
     by_cases hs:w.since < 1000000
     ·have e:aX w = w.since+1:=if_pos hs
      by_cases h4:3≤aX w
      ·have ct:=dV (cV w 0) 5 OM
       have h5:=h4
       rw[e]at h5
       refine aR ?_
       conv=>whnf
       refine g 0 0 []<|J QZ<|Ws<|g 8 15 [.call (V.b (decide (av w))) O1,BF,BF,.call (V.i 0) O1,BF,BF]<|J (QA @au)<|Wc<|Jr<|Wk<|g 15 19 [.call (aA w) O1]<|J (QA @aG)<|Ws<|g 19 21 []<|J UC<|Wc<|J (noT SI) fun _=>Wk<|Ws<|g 21 26 []<|J UC ?_
       refine Wc<|Kt (rg [.i (w.since+1)]<|J QZ (g 26 31 []<|J UA (Ws (g 2 3 []<|J UB (Wb (g 31 32 []<|J UB (Wc<|Jf<|(g 32 38 []<|J UB (Wc<|Jf<|(g 33 35 []<|J UC (Wc<|Kt ?_)))))))))))
       refine rg []<|J UA<|Ws<|g 35 76 []<|J UB<|Wc<|Jr<|Wk<|g 76 80 []<|J UV<|gd 5 86 [[],[],[],[.call (bC (gp (cV w 0) 5)) O2],[],[],[]] ?_
       conv=>whnf
       refine J QZ<|J KR<|RT ?_
       rw[eU h hc,mU hup h1 h4];rfl
      ·have h5:=h4
       rw[e]at h5
       refine aR ?_
       conv=>whnf
       refine g 0 0 []<|J QZ<|Ws<|g 8 15 [.call (V.b (decide (av w))) O1,BF,BF,.call (V.i 0) O1,BF,BF]<|J (QA @au)<|Wc<|Jr<|Wk<|g 15 19 [.call (aA w) O1]<|J (QA @aG)<|Ws<|g 19 21 []<|J UC<|Wc<|J (noT SI) fun _=>Wk<|Ws<|g 21 26 []<|J UC ?_
       refine Wc<|Kt (rg [.i (w.since+1)]<|J QZ (g 26 31 []<|J UA (Ws (g 2 3 []<|J UB (Wb (g 31 32 []<|J UB (Wc<|Jf<|(g 32 38 []<|J UB (Wc<|Jf<|(g 33 35 []<|J UC (Wc<|Jf ?_)))))))))))
       refine Wk<|Ws<|g 35 76 []<|J UB<|Wc<|Kr (g 76 79 []<|J QZ (RT ?_))
       rw[eU h hc,r6 hup h1 h4,e];rfl
     ·have e:aX w = w.since:=if_neg hs
      by_cases h4:3≤aX w
      ·have ct:=dV (cV w 0) 5 OM
       have h5:=h4
       rw[e]at h5
       refine aR ?_
       conv=>whnf
       refine g 0 0 []<|J QZ<|Ws<|g 8 15 [.call (V.b (decide (av w))) O1,BF,BF,.call (V.i 0) O1,BF,BF]<|J (QA @au)<|Wc<|Jr<|Wk<|g 15 19 [.call (aA w) O1]<|J (QA @aG)<|Ws<|g 19 21 []<|J UC<|Wc<|J (noT SI) fun _=>Wk<|Ws<|g 21 26 []<|J UC ?_
       refine Wc<|Jf<|Wk<|g 2 3 []<|J UA<|Ws<|g 26 32 []<|J UB<|Wb<|g 37 38 []<|J UB<|Wc<|Jf<|g 32 37 []<|J UB<|Wc<|Jf<|g 33 35 []<|J UC<|Wc<|Kt ?_
       refine rg []<|J UA<|Ws<|g 35 76 []<|J UB<|Wc<|Jr<|Wk<|g 76 80 []<|J UV<|gd 5 86 [[],[],[],[.call (bC (gp (cV w 0) 5)) O2],[],[],[]] ?_
       conv=>whnf
       refine J QZ<|J KR<|RT ?_
       rw[eU h hc,mU hup h1 h4];rfl
      ·exfalso;omega
    ·have hb:=BV h h1
     obtain⟨hl8,hes,htt⟩:=Gv hb
     obtain⟨_,⟨_,b3,b4⟩,⟨b5,b6⟩,⟨b7,b8⟩,_⟩:=hb
     by_cases hl:w.left - 1 = 0
     ·by_cases ht:w.task < p.tasks.length
      ·obtain⟨t,ht2⟩:=ae (xs:=p.tasks) (n:=w.task.toNat) OM
       obtain⟨⟨g1,g2⟩,_⟩:=cz hc ht2
       have cv:=jW t.name w.inputs OM OM OM hes
       have ct:=dV ⟨w.number,w.epoch,w.up,2,w.lease,w.task,0,w.left - 1,[],bG t.name w.inputs,0⟩ 3 OM
       refine aR ?_
       conv=>whnf
       refine g 0 0 []<|J QZ<|Ws<|g 8 15 [.call (V.b (decide (av w))) O1,BF,BF,.call (V.i 0) O1,BF,BF]<|J (QA @au)<|Wc<|Jr<|Wk<|g 15 19 [.call (aA w) O1]<|J (QA @aG)<|Ws<|g 19 21 []<|J UC<|Wc<|J (noT SI) fun _=>Wk<|Ws<|g 21 26 []<|J UC ?_
       refine Wc<|JD (fun h2=>?_) fun h2=>?_
       refine rg [.i (w.since+1)]<|J QZ<|g 26 31 []<|J UA<|Ws<|g 2 3 []<|J UB<|Wb<|g 31 32 []<|J UB<|Wc<|Kt (g 32 42 [.i (w.left - 1)]<|J QZ (g 42 44 []<|J UC (Wc<|Kt (g 44 45 []<|J UA (Ws ?_)))))
       refine g 45 50 []<|J UF<|Wc<|J (fun _=>(rg [.x (ay t)]<|J QZ (g 7 63 [.call (V.s (bG t.name w.inputs)) O2]<|J QZ (g 3 4 []<|J UV (g 63 65 []<|J UV (g 65 67 []<|J QZ (rg []<|J UA (Ws (g 75 76 []<|J UB (Wc<|Jr<|(Wk ?_))))))))))) (noF SI)
       refine g 76 80 []<|J UV<|gd 5 86 [[],[],[],[.call (bC (gp {number:=w.number,epoch:=w.epoch,up:=w.up,state:=2,lease:=w.lease,task:=w.task,cost:=0,left:=w.left - 1,inputs:=[],text:=bG t.name w.inputs,since:=0:Worker} 3)) O2],[],[],[]] ?_
       conv=>whnf
       refine J QZ<|J KR<|RT ?_
       rotate_left
       refine Wk<|g 2 3 []<|J UA<|Ws<|g 26 32 []<|J UB<|Wb<|g 37 38 []<|J UB<|Wc<|Kt (g 32 42 [.i (w.left - 1)]<|J QZ (g 42 44 []<|J UC (Wc<|Kt (g 44 45 []<|J UA (Ws ?_)))))
       refine g 45 50 []<|J UF<|Wc<|J (fun _=>(rg [.x (ay t)]<|J QZ (g 7 63 [.call (V.s (bG t.name w.inputs)) O2]<|J QZ (g 3 4 []<|J UV (g 63 65 []<|J UV (g 65 67 []<|J QZ (rg []<|J UA (Ws (g 75 76 []<|J UB (Wc<|Jr<|(Wk ?_))))))))))) (noF SI)
       refine g 76 80 []<|J UV<|gd 5 86 [[],[],[],[.call (bC (gp {number:=w.number,epoch:=w.epoch,up:=w.up,state:=2,lease:=w.lease,task:=w.task,cost:=0,left:=w.left - 1,inputs:=[],text:=bG t.name w.inputs,since:=0:Worker} 3)) O2],[],[],[]] ?_
       conv=>whnf
       refine J QZ<|J KR<|RT ?_
       rotate_left
       all_goals (rw[eU h hc,mV hup h1 hl,ii,Ov ht2];rfl)
      ·have ht2:p.tasks[w.task.toNat]? = none:=List.getElem?_eq_none OM
       have cv:=jW emp w.inputs (by decide) OM OM hes
       have ct:=dV ⟨w.number,w.epoch,w.up,2,w.lease,w.task,0,w.left - 1,[],bG emp w.inputs,0⟩ 3 OM
       refine aR ?_
       conv=>whnf
       refine g 0 0 []<|J QZ<|Ws<|g 8 15 [.call (V.b (decide (av w))) O1,BF,BF,.call (V.i 0) O1,BF,BF]<|J (QA @au)<|Wc<|Jr<|Wk<|g 15 19 [.call (aA w) O1]<|J (QA @aG)<|Ws<|g 19 21 []<|J UC<|Wc<|J (noT SI) fun _=>Wk<|Ws<|g 21 26 []<|J UC ?_
       refine Wc<|JD (fun h2=>?_) fun h2=>?_
       refine rg [.i (w.since+1)]<|J QZ<|g 26 31 []<|J UA<|Ws<|g 2 3 []<|J UB<|Wb<|g 31 32 []<|J UB<|Wc<|Kt (g 32 42 [.i (w.left - 1)]<|J QZ (g 42 44 []<|J UC (Wc<|Kt (g 44 45 []<|J UA (Ws ?_)))))
       refine g 45 50 []<|J UF<|Wc<|J (noT SI) fun _=>Wk<|g 7 63 [.call (V.s (bG emp w.inputs)) O2]<|J QZ<|g 3 4 []<|J UV<|g 63 65 []<|J UV<|g 65 67 []<|J QZ<|rg []<|J UA<|Ws<|g 75 76 []<|J UB<|Wc<|Jr<|Wk ?_
       refine g 76 80 []<|J UV<|gd 5 86 [[],[],[],[.call (bC (gp {number:=w.number,epoch:=w.epoch,up:=w.up,state:=2,lease:=w.lease,task:=w.task,cost:=0,left:=w.left - 1,inputs:=[],text:=bG emp w.inputs,since:=0:Worker} 3)) O2],[],[],[]] ?_
       conv=>whnf
       refine J QZ<|J KR<|RT ?_
       rotate_left
       refine Wk<|g 2 3 []<|J UA<|Ws<|g 26 32 []<|J UB<|Wb<|g 37 38 []<|J UB<|Wc<|Kt (g 32 42 [.i (w.left - 1)]<|J QZ (g 42 44 []<|J UC (Wc<|Kt (g 44 45 []<|J UA (Ws ?_)))))
       refine g 45 50 []<|J UF<|Wc<|J (noT SI) fun _=>Wk<|g 7 63 [.call (V.s (bG emp w.inputs)) O2]<|J QZ<|g 3 4 []<|J UV<|g 63 65 []<|J UV<|g 65 67 []<|J QZ<|rg []<|J UA<|Ws<|g 75 76 []<|J UB<|Wc<|Jr<|Wk ?_
       refine g 76 80 []<|J UV<|gd 5 86 [[],[],[],[.call (bC (gp {number:=w.number,epoch:=w.epoch,up:=w.up,state:=2,lease:=w.lease,task:=w.task,cost:=0,left:=w.left - 1,inputs:=[],text:=bG emp w.inputs,since:=0:Worker} 3)) O2],[],[],[]] ?_
       conv=>whnf
       refine J QZ<|J KR<|RT ?_
       rotate_left
       all_goals (rw[eU h hc,mV hup h1 hl,ii,K2 ht2];rfl)
     ·skip
      by_cases hs:w.since < 1000000
      ·have e:aX w = w.since+1:=if_pos hs
       by_cases h4:4≤aX w
       ·have ct:=dV (cV (oA w) 0) 2 OM
        have h5:=h4
        rw[e]at h5
        refine aR ?_
        conv=>whnf
        refine g 0 0 []<|J QZ<|Ws<|g 8 15 [.call (V.b (decide (av w))) O1,BF,BF,.call (V.i 0) O1,BF,BF]<|J (QA @au)<|Wc<|Jr<|Wk<|g 15 19 [.call (aA w) O1]<|J (QA @aG)<|Ws<|g 19 21 []<|J UC<|Wc<|J (noT SI) fun _=>Wk<|Ws<|g 21 26 []<|J UC ?_
        refine Wc<|Kt (rg [.i (w.since+1)]<|J QZ (g 26 31 []<|J UA (Ws (g 2 3 []<|J UB (Wb (g 31 32 []<|J UB (Wc<|Kt (g 32 42 [.i (w.left - 1)]<|J QZ (g 42 44 []<|J UC (Wc<|Jf<|(g 44 69 []<|J UC ?_)))))))))))
        refine Wc<|Kt (rg []<|J UA (Ws (g 69 76 []<|J UB (Wc<|Jr<|(Wk (g 76 80 []<|J UV (gd 5 86 [[],[],[],[.call (bC (gp (cV (oA w) 0) 2)) O2],[],[],[]] ?_)))))))
        conv=>whnf
        refine⟨Zam,by kernel_rfl,?_⟩
        refine RT ?_
        rw[eU h hc,mW hup h1 hl h4];rfl
       ·have h5:=h4
        rw[e]at h5
        refine aR ?_
        conv=>whnf
        refine g 0 0 []<|J QZ<|Ws<|g 8 15 [.call (V.b (decide (av w))) O1,BF,BF,.call (V.i 0) O1,BF,BF]<|J (QA @au)<|Wc<|Jr<|Wk<|g 15 19 [.call (aA w) O1]<|J (QA @aG)<|Ws<|g 19 21 []<|J UC<|Wc<|J (noT SI) fun _=>Wk<|Ws<|g 21 26 []<|J UC ?_
        refine Wc<|Kt (rg [.i (w.since+1)]<|J QZ (g 26 31 []<|J UA (Ws (g 2 3 []<|J UB (Wb (g 31 32 []<|J UB (Wc<|Kt (g 32 42 [.i (w.left - 1)]<|J QZ (g 42 44 []<|J UC (Wc<|Jf<|(g 44 69 []<|J UC ?_)))))))))))
        refine Wc<|Jf<|Wk<|Ws<|g 69 76 []<|J UB<|Wc<|Kr (g 76 79 []<|J QZ (RT ?_))
        rw[eU h hc,wW hup h1 hl h4,e];rfl
      ·have e:aX w = w.since:=if_neg hs
       by_cases h4:4≤aX w
       ·have ct:=dV (cV (oA w) 0) 2 OM
        have h5:=h4
        rw[e]at h5
        refine aR ?_
        conv=>whnf
        refine g 0 0 []<|J QZ<|Ws<|g 8 15 [.call (V.b (decide (av w))) O1,BF,BF,.call (V.i 0) O1,BF,BF]<|J (QA @au)<|Wc<|Jr<|Wk<|g 15 19 [.call (aA w) O1]<|J (QA @aG)<|Ws<|g 19 21 []<|J UC<|Wc<|J (noT SI) fun _=>Wk<|Ws<|g 21 26 []<|J UC ?_
        refine Wc<|Jf<|Wk<|g 2 3 []<|J UA<|Ws<|g 26 32 []<|J UB<|Wb<|g 37 38 []<|J UB<|Wc<|Kt (g 32 42 [.i (w.left - 1)]<|J QZ (g 42 44 []<|J UC (Wc<|Jf<|(g 44 69 []<|J UC ?_))))
        refine Wc<|Kt (rg []<|J UA (Ws (g 69 76 []<|J UB (Wc<|Jr<|(Wk (g 76 80 []<|J UV (gd 5 86 [[],[],[],[.call (bC (gp (cV (oA w) 0) 2)) O2],[],[],[]] ?_)))))))
        conv=>whnf
        refine⟨Zam,by kernel_rfl,?_⟩
        refine RT ?_
        rw[eU h hc,mW hup h1 hl h4];rfl
       ·exfalso;omega
    ·skip
     by_cases hs:w.since < 1000000
     ·have e:aX w = w.since+1:=if_pos hs
      by_cases h4:4≤aX w
      ·have ct:=dV (cV w 0) 3 OM
       have h5:=h4
       rw[e]at h5
       refine aR ?_
       conv=>whnf
       refine g 0 0 []<|J QZ<|Ws<|g 8 15 [.call (V.b (decide (av w))) O1,BF,BF,.call (V.i 0) O1,BF,BF]<|J (QA @au)<|Wc<|Jr<|Wk<|g 15 19 [.call (aA w) O1]<|J (QA @aG)<|Ws<|g 19 21 []<|J UC<|Wc<|J (noT SI) fun _=>Wk<|Ws<|g 21 26 []<|J UC ?_
       refine Wc<|Kt (rg [.i (w.since+1)]<|J QZ (g 26 31 []<|J UA (Ws (g 2 3 []<|J UB (Wb (g 31 32 []<|J UB (Wc<|Jf<|(g 32 38 []<|J UB (Wc<|Kt (g 70 74 []<|J UC (Wc<|Kt ?_)))))))))))
       refine rg []<|J UA<|Ws<|g 74 76 []<|J UB<|Wc<|Jr<|Wk<|g 76 80 []<|J UV<|gd 5 86 [[],[],[],[.call (bC (gp (cV w 0) 3)) O2],[],[],[]] ?_
       conv=>whnf
       refine J QZ<|J KR<|RT ?_
       rw[eU h hc,mS hup h1 h4];rfl
      ·have h5:=h4
       rw[e]at h5
       refine aR ?_
       conv=>whnf
       refine g 0 0 []<|J QZ<|Ws<|g 8 15 [.call (V.b (decide (av w))) O1,BF,BF,.call (V.i 0) O1,BF,BF]<|J (QA @au)<|Wc<|Jr<|Wk<|g 15 19 [.call (aA w) O1]<|J (QA @aG)<|Ws<|g 19 21 []<|J UC<|Wc<|J (noT SI) fun _=>Wk<|Ws<|g 21 26 []<|J UC ?_
       refine Wc<|Kt (rg [.i (w.since+1)]<|J QZ (g 26 31 []<|J UA (Ws (g 2 3 []<|J UB (Wb (g 31 32 []<|J UB (Wc<|Jf<|(g 32 38 []<|J UB (Wc<|Kt (g 70 74 []<|J UC (Wc<|Jf ?_)))))))))))
       refine Wk<|Ws<|g 74 76 []<|J UB<|Wc<|Kr (g 76 79 []<|J QZ (RT ?_))
       rw[eU h hc,r5 hup h1 h4,e];rfl
     ·have e:aX w = w.since:=if_neg hs
      by_cases h4:4≤aX w
      ·have ct:=dV (cV w 0) 3 OM
       have h5:=h4
       rw[e]at h5
       refine aR ?_
       conv=>whnf
       refine g 0 0 []<|J QZ<|Ws<|g 8 15 [.call (V.b (decide (av w))) O1,BF,BF,.call (V.i 0) O1,BF,BF]<|J (QA @au)<|Wc<|Jr<|Wk<|g 15 19 [.call (aA w) O1]<|J (QA @aG)<|Ws<|g 19 21 []<|J UC<|Wc<|J (noT SI) fun _=>Wk<|Ws<|g 21 26 []<|J UC ?_
       refine Wc<|Jf<|Wk<|g 2 3 []<|J UA<|Ws<|g 26 32 []<|J UB<|Wb<|g 37 38 []<|J UB<|Wc<|Jf<|g 32 37 []<|J UB<|Wc<|Kt (g 70 74 []<|J UC (Wc<|Kt ?_))
       refine rg []<|J UA<|Ws<|g 74 76 []<|J UB<|Wc<|Jr<|Wk<|g 76 80 []<|J UV<|gd 5 86 [[],[],[],[.call (bC (gp (cV w 0) 3)) O2],[],[],[]] ?_
       conv=>whnf
       refine J QZ<|J KR<|RT ?_
       rw[eU h hc,mS hup h1 h4];rfl
      ·exfalso;omega
  ·rw[Kh (fun q=>hc q.2)]
   refine aR ?_
   conv=>whnf
   refine g 0 0 []<|J QZ<|Ws<|g 8 15 [.call (V.b (decide (av w))) O1,BF,BF,.call (V.i (am p.tasks)) O1,BF,BF]<|J (QA @au)<|Wc<|Kn (g 15 17 []<|J QZ (RT ?_))
   rfl
 ·rw[Kh (fun q=>h q.1)]
  refine aR ?_
  conv=>whnf
  refine g 0 0 []<|J QZ<|Ws<|g 8 15 [.call (V.b (decide (av w))) O1,BT,BT,BT,BT]<|J (QA @au)<|Wc<|Kr (g 15 17 []<|J QZ (RT ?_))
  rfl
end Go.K
end
section
open Go Go.Tm Go.Proofs
namespace Go.K
theorem wI(b:Boss)(h1:b.log.safe.length≤1048576)(h2:b.log.loose.length≤1048576)(h3:b.results.length≤1048576)(h4:b.jobs.length≤1048576)(h5:b.seats.length≤1048576)(h6:b.owed.length≤1048576):F mq [.val (ge b)] (aF b) O1:=by
 refine wn ?_
 conv=>whnf
 refine g 0 0 []<|J QZ<|gd 3 13 [[],[],[],[.call (V.own [false] (List.map ah b.log.safe)) O1],[],[],[],[.call (V.own [false] (List.map ah b.log.loose)) O1],[],[],[]] ?_
 conv=>whnf
 refine J (QA @gg)<|J KR<|g 13 17 [.call (V.own [false] (List.map ah b.results)) O1]<|J (QA @gg)<|g 17 22 []<|J QZ<|g 22 27 []<|J QZ<|g 27 32 []<|J QZ<|g 0 2 []<|J QZ<|RT ?_
 rfl
theorem HE(l:Log)(h1:l.safe.length≤1048576)(h2:l.loose.length≤1048576):F GW [.val (RW l)] (RX l) O1:=by
 refine Hj ?_
 conv=>whnf
 refine g 0 0 []<|J QZ<|gd 3 12 [[],[],[],[],[],[],[],[],[],[]] ?_
 conv=>whnf
 refine J QZ<|J KR<|RT ?_
 rfl
theorem qY(b:Boss)(h1:b.log.safe.length≤1048576)(h2:b.log.loose.length≤1048576)(h3:b.results.length≤1048576)(h4:b.jobs.length≤1048576)(h5:b.seats.length≤1048576)(h6:b.owed.length≤1048576):F qB [.val (ge b)] (aF b) O1:=by
 have c1:=HE b.log h1 h2
 refine D5 ?_
 conv=>whnf
 refine g 0 1 []<|J QZ<|g 3 7 [.call (RX b.log) O1]<|J QZ<|g 7 12 []<|J QZ<|g 12 17 []<|J QZ<|g 17 22 []<|J QZ<|g 22 27 []<|J QZ<|g 1 2 []<|J QZ<|RT ?_
 rfl
def jT(k:Int)(n:Nat):Nat:=if k < 0 then 0 else if k < n then k.toNat else n
theorem TT{k:Int}{n:Nat}(h:k < 0):jT k n = 0:=if_pos h
theorem TU{k:Int}{n:Nat}(h:0≤k)(h2:k < n):jT k n = k.toNat:=by rw[jT,if_neg OM,if_pos h2]
theorem Lw{k:Int}{n:Nat}(h2:(n:Int)≤k):jT k n = n:=by rw[jT,if_neg OM,if_neg OM]
def lv(b:Boss)(k:Int):Boss:=if b.up = false then b else⟨b.workers,false,b.now,0,0,0,⟨b.log.safe++b.log.loose.take (jT k b.log.loose.length),[]⟩,[],[],[],[]⟩
theorem qh{b:Boss}{k:Int}(h:b.up = false):lv b k = b:=if_pos h
theorem Ci{b:Boss}{k:Int}(h:¬b.up = false):lv b k = ⟨b.workers,false,b.now,0,0,0,⟨b.log.safe++b.log.loose.take (jT k b.log.loose.length),[]⟩,[],[],[],[]⟩:=if_neg h
structure BossLim (b:Boss):Prop where
 safe:b.log.safe.length≤1048576
 loose:b.log.loose.length≤1048576
 all:∀ s∈b.log.safe++b.log.loose,s.size≤281474976710656
 res:b.results.length≤1048576
 jobs:b.jobs.length≤1048576
 seats:b.seats.length≤1048576
 owed:b.owed.length≤1048576
theorem TV(b:Boss)(p:Plan)(hp:dD p)(h:BossLim b):F mn [.val (ge b),.val (cX p)] (.b (decide (BossOk b p))) O2:=wG b p hp h.safe h.loose h.all h.res h.jobs h.seats h.owed
theorem pE(b:Boss)(p:Plan)(hp:dD p)(h:BossLim b):F mj [.val (ge b),.val (cX p)] (.b (decide (BossOk b p))) O2:=wq b p hp h.safe h.loose h.all h.res h.jobs h.seats h.owed
theorem Ye(b:Boss)(h:BossLim b):F mq [.val (ge b)] (aF b) O1:=wI b h.safe h.loose h.res h.jobs h.seats h.owed
theorem qS(b:Boss)(h:BossLim b):F qB [.val (ge b)] (aF b) O1:=qY b h.safe h.loose h.res h.jobs h.seats h.owed
noncomputable def sU(b:Boss)(p:Plan)(k:Int):Boss:=if BossOk b p then lv b k else iT
theorem C0{b:Boss}{p:Plan}{k:Int}(h:BossOk b p):sU b p k = lv b k:=if_pos h
theorem LA{b:Boss}{p:Plan}{k:Int}(h:¬BossOk b p):sU b p k = iT:=if_neg h
theorem zA(b:Boss)(p:Plan)(k:Int)(hp:dD p)(h:BossLim b):F yC [.val (ge b),.val (cX p),.val (.i k)] (aF (sU b p k)) O3:=by
 have cv:=pE b p hp h
 have h1:=h.safe
 have h2:=h.loose
 by_cases hv:BossOk b p
 ·rw[decide_eq_true hv]at cv
  rw[C0 hv]
  have ct:=qS b h
  by_cases hup:b.up = false
  ·rw[qh hup]
   refine fr ?_
   conv=>whnf
   refine g 1 2 []<|J QZ<|Ws<|g 7 10 [.call VT O2]<|J QZ<|Wc<|Jr<|Wk<|Ws<|g 10 14 []<|J UC<|Wc<|J (fun _=>(g 14 17 [.call (aF b) O1]<|J QZ (RT ?_))) (noF (nbT AS))
   rfl
  ·rw[Ci hup]
   by_cases hk:k < 0
   ·rw[TT hk]
    refine fr ?_
    conv=>whnf
    refine g 1 2 []<|J QZ<|Ws<|g 7 10 [.call VT O2]<|J QZ<|Wc<|Jr<|Wk<|Ws<|g 10 14 []<|J UC<|Wc<|J (noT SI) fun _=>Wk<|Ws<|g 14 18 []<|J UB<|Wc<|Kt ?_
    refine rg []<|J UA<|Ws<|g 18 24 []<|J UF<|Wc<|Jr<|Wk<|gd 24 40 [[],[],[],[],[],[],[],[],[],[],[],[],[],[.n (0)],[],[],[],[]] ?_
    conv=>whnf
    refine J QZ<|J KR<|RT ?_
    all_goals (simp only[List.nil_append,List.drop_zero,List.length_map,←List.map_take,←List.map_append];rfl)
   ·by_cases hk2:k < b.log.loose.length
    ·rw[TU OM hk2]
     refine fr ?_
     conv=>whnf
     refine g 1 2 []<|J QZ<|Ws<|g 7 10 [.call VT O2]<|J QZ<|Wc<|Jr<|Wk<|Ws<|g 10 14 []<|J UC<|Wc<|J (noT SI) fun _=>Wk<|Ws<|g 14 18 []<|J UB<|Wc<|Jf ?_
     refine Wk<|Ws<|g 18 24 []<|J UF<|Wc<|J (fun h3=>?_) fun h3=>?_
     replace h3:=dt h3
     simp only[LM]at h3
     omega
     replace h3:=df h3
     simp only[LM]at h3
     refine Wk<|gd 24 40 [[],[],[],[],[],[],[],[],[],[],[],[],[],[.n (Int.toNat k)],[],[],[],[]] ?_
     conv=>whnf
     refine J QZ<|J KR<|RT ?_
     all_goals first|(exfalso;omega)|(simp only[List.nil_append,List.drop_zero,List.length_map,←List.map_take,←List.map_append];rfl)
    ·rw[Lw OM]
     refine fr ?_
     conv=>whnf
     refine g 1 2 []<|J QZ<|Ws<|g 7 10 [.call VT O2]<|J QZ<|Wc<|Jr<|Wk<|Ws<|g 10 14 []<|J UC<|Wc<|J (noT SI) fun _=>Wk<|Ws<|g 14 18 []<|J UB<|Wc<|Jf ?_
     refine Wk<|Ws<|g 18 24 []<|J UF<|Wc<|JD (fun h3=>?_) fun h3=>?_
     simp only[LM]at h3
     refine rg []<|J UE<|gd 24 40 [[],[],[],[],[],[],[],[],[],[],[],[],[],[.n (List.length (List.map ah b.log.loose))],[],[],[],[]] ?_
     conv=>whnf
     refine J QZ<|J KR<|RT ?_
     rotate_left
     simp only[LM]at h3
     refine Wk<|gd 24 40 [[],[],[],[],[],[],[],[],[],[],[],[],[],[.n (Int.toNat k)],[],[],[],[]] ?_
     conv=>whnf
     refine J QZ<|J KR<|RT ?_
     rotate_left
     ·simp only[List.nil_append,List.drop_zero,List.length_map,←List.map_take,←List.map_append];rfl
     ·have e:k = b.log.loose.length:=by omega
      subst e
      simp only[List.nil_append,List.drop_zero,List.length_map,Int.toNat_natCast,←List.map_take,←List.map_append];rfl
 ·rw[decide_eq_false hv]at cv
  rw[LA hv]
  refine fr ?_
  conv=>whnf
  refine g 1 2 []<|J QZ<|Ws<|g 7 10 [.call VF O2]<|J QZ<|Wc<|Kr (g 10 12 []<|J QZ (RT ?_))
  rfl
end Go.K
end
section
open Go Go.Tm Go.Proofs
namespace Go.K
abbrev eI(w now:Int)(safe:List ByteArray):Boss:=⟨w,false,now,0,0,0,⟨safe,[]⟩,[],[],[],[]⟩
theorem PM{b:Boss}(hup:b.up = false)(d:DownOk b):b = eI b.workers b.now b.log.safe:=by
 obtain⟨w,up,now,since,ep,given,⟨safe,loose⟩,rs,js,ss,ow⟩:=b
 obtain⟨d1,d2,d3,d4,d5,d6,d7,d8⟩:=d
 simp only at hup d1 d2 d3 d4 d5 d6 d7 d8
 subst hup d2 d3 d4
 rw[List.eq_nil_of_length_eq_zero d1,List.eq_nil_of_length_eq_zero d5,List.eq_nil_of_length_eq_zero d6,List.eq_nil_of_length_eq_zero d7,List.eq_nil_of_length_eq_zero d8]
def epE(n:Int):Entry:=⟨1,n,0,emp⟩
def upB(w now:Int)(safe:List ByteArray)(p:Plan)(st:Story):Boss:=⟨w,true,now,0,st.epoch+1,0,⟨safe++ [bW (epE (st.epoch+1))],[]⟩,st.results,List.replicate p.tasks.length fA,List.replicate w.toNat iR,[]⟩
def qr(b:Boss)(p:Plan):Prop:=b.up = false∧b.log.safe.length < 310∧(ax p b.log.safe).epoch < 300
noncomputable instance (b:Boss) (p:Plan):Decidable (qr b p):=Classical.propDecidable _
noncomputable def cW(b:Boss)(p:Plan):Boss:=if qr b p then upB b.workers b.now b.log.safe p (ax p b.log.safe)else b
theorem oy{b:Boss}{p:Plan}(h:¬qr b p):cW b p = b:=if_neg h
theorem Dd{b:Boss}{p:Plan}(h:qr b p):cW b p = upB b.workers b.now b.log.safe p (ax p b.log.safe):=if_pos h
theorem Qc(n:Nat):(List.replicate n fA).map aH++ [aH fA] = (List.replicate (n+1) fA).map aH:=by simp[List.replicate_succ']
theorem Qb(n:Nat):(List.replicate n iR).map aE++ [aE iR] = (List.replicate (n+1) iR).map aE:=by simp[List.replicate_succ']
theorem Kp(w now:Int)(safe:List ByteArray)(p:Plan)(st:Story):aF (upB w now safe p st) = .agg [.t (.i w),.t (.b true),.t (.i now),.t (.i 0),.t (.i (st.epoch+1)),.t (.i 0),.own [false] (safe.map ah++ [ah (bW ⟨1,st.epoch+1,0,emp⟩)]),.own [false] [],.own [false] (st.results.map ah),.own dB ((List.replicate p.tasks.length fA).map aH),.own bw ((List.replicate w.toNat iR).map aE),.own bx []]:=by
 simp only[aF,upB,List.map_append];rfl
theorem rd(w now:Int)(safe:List ByteArray)(p:Plan)(hp:dD p)(hw:1≤w∧w≤8)(hs:∀ s∈safe,s.size≤281474976710656)(hc:(ax p safe).code = 0):F lH [.val (.agg [.t (.i w),.t (.b false),.t (.i now),.t (.i 0),.t (.i 0),.t (.i 0),.t (.slc [false] (safe.map ah)),.t (.slc [false] []),.t (.slc [false] []),.t (.slc dB []),.t (.slc bw []),.t (.slc bx [])]),.val (cX p)] (aF (cW (eI w now safe) p)) O2:=by
 obtain⟨hck,hl,_,_⟩:=cF hc
 obtain⟨he1,he2⟩:=fG hc
 have hpl:=(bX hck).1
 have cr:=jd p safe hp hs OM
 have cc:=qY (eI w now safe) (by show safe.length≤1048576;omega) (Nat.zero_le _) (Nat.zero_le _) (Nat.zero_le _) (Nat.zero_le _) (Nat.zero_le _)
 by_cases hl2:safe.length < 310
 ·by_cases he:(ax p safe).epoch < 300
  ·rw[Dd ⟨rfl,hl2,he⟩]
   have cf:=dq 1 ((ax p safe).epoch+1) 0 emp (by decide)
   refine iX ?_
   conv=>whnf
   refine g 0 0 []<|J QZ<|g 10 14 [.call (gT (ax p safe)) O2]<|J QZ<|Ws ?_
   by_cases h1:(310:Int)≤(↑(List.length (List.map ah safe)):Int)
   simp only[LM]at h1
   omega
   simp only[LM]at h1
   refine g 9 27 (RL 10 BF [])<|J QZ<|Wc<|Jf<|Wk<|g 27 40 [.i (Story.epoch (ax p safe) +1)]<|J QZ<|gd 41 53 [[],[],[],[],[],[],[],[],[.call (V.s (bW {kind:=1,epoch:=Story.epoch (ax p safe) +1,task:=0,text:=emp:Entry})) O1],[],[],[],[],[]] ?_
   conv=>whnf
   refine J QZ<|J KR<|Ws<|g 1 2 []<|J UA<|Wb<|Wl (fun s (n:Nat)=>⟨(SK s [0,2,3,4,6] [(7,.i n),(40,s.s 40)]),[(2,(CK s 2 0 12 [])),(3,[s.c 3 0]),(4,(CK s 4 0 12 [])),(40,[s.c 40 0]),(6,[.t (.i w),.t (.b true),.t (.i now),.t (.i 0),.t (.i ((ax p safe).epoch+1)),.t (.i 0),.own [false] (safe.map ah++ [ah (bW ⟨1,(ax p safe).epoch+1,0,emp⟩)]),.own [false] [],.own [false] ((ax p safe).results.map ah),.own dB ((List.replicate n fA).map aH),.own bw ((List.replicate 0 iR).map aE),.own bx []])],[]⟩) (fun(n:Nat)=>n≤p.tasks.length) (fun(n:Nat)=>p.tasks.length - n) (0) [some 2,some 3,some 4,some 40,some 6] [] ⟨rfl,FZ,⟨FZ,⟨FZ,⟨FZ,⟨⟨rfl,UA⟩,FZ⟩⟩⟩⟩,I⟩ OM ?_
   intro n hn
   conv=>whnf
   refine Ws<|g 53 57 []<|J UE<|Wc<|JD (fun h2=>?_) fun h2=>?_
   simp only[LM]at h2
   refine Wk<|Ws<|Wb<|rg []<|J QZ<|rg [.i ((n:Int) +1)]<|J QZ ?_
   rotate_left
   simp only[LM]at h2
   refine We<|Ws<|g 3 4 []<|J UA<|Wb ?_
   rotate_left
   ·refine⟨n+1,[some 2,some 3,some 4,some 40,some 6],[],⟨rfl,FZ,⟨FZ,⟨FZ,⟨FZ,⟨⟨rfl,UA⟩,⟨(R10 ⟨(congrArg (V.own _) (Qc n)),FZ⟩),I⟩⟩⟩⟩⟩,I⟩,?_,?_⟩
    rotate_left
    (dsimp only;omega)
    dsimp only
    omega
   obtain rfl:n = p.tasks.length:=by omega
   refine Wl (fun s (n:Nat)=>⟨(SK s [0,2,4,6] [(8,.i n),(40,s.s 40)]),[(2,(CK s 2 0 12 [])),(4,(CK s 4 0 12 [])),(40,[s.c 40 0]),(6,[.t (.i w),.t (.b true),.t (.i now),.t (.i 0),.t (.i ((ax p safe).epoch+1)),.t (.i 0),.own [false] (safe.map ah++ [ah (bW ⟨1,(ax p safe).epoch+1,0,emp⟩)]),.own [false] [],.own [false] ((ax p safe).results.map ah),.own dB ((List.replicate p.tasks.length fA).map aH),.own bw ((List.replicate n iR).map aE),.own bx []])],[]⟩) (fun(n:Nat)=>n≤w.toNat) (fun(n:Nat)=>w.toNat - n) (0) [some 2,some 4,some 40,some 6] [] ⟨rfl,FZ,⟨FZ,⟨FZ,⟨⟨rfl,UA⟩,FZ⟩⟩⟩,I⟩ OM ?_
   intro n hn
   conv=>whnf
   refine Ws<|g 66 69 []<|J UD<|Wc<|JD (fun h3=>?_) fun h3=>?_
   refine Wk<|Ws<|Wb<|rg []<|J QZ<|rg [.i ((n:Int) +1)]<|J QZ ?_
   rotate_left
   refine We<|g 0 3 []<|J QZ<|RT ?_
   rotate_left
   ·refine⟨n+1,[some 2,some 4,some 40,some 6],[],⟨rfl,FZ,⟨FZ,⟨FZ,⟨⟨rfl,UA⟩,⟨(R11 ⟨(congrArg (V.own _) (Qb n)),Zar⟩),I⟩⟩⟩⟩,I⟩,?_,?_⟩
    rotate_left
    (dsimp only;omega)
    dsimp only
    omega
   obtain rfl:n = w.toNat:=by omega
   exact(Kp w now safe p (ax p safe)).symm
  ·rw[oy (fun q=>he q.2.2)]
   refine iX ?_
   conv=>whnf
   refine g 0 0 []<|J QZ<|g 10 14 [.call (gT (ax p safe)) O2]<|J QZ<|Ws ?_
   by_cases h1:(310:Int)≤(↑(List.length (List.map ah safe)):Int)
   simp only[LM]at h1
   omega
   simp only[LM]at h1
   refine g 9 27 (RL 10 BF [])<|J QZ<|Wc<|Kt (g 27 30 [.call (aF (eI w now safe)) O1]<|J QZ (RT ?_))
   rfl
 ·rw[oy (fun q=>hl2 q.2.1)]
  refine iX ?_
  conv=>whnf
  refine g 0 0 []<|J QZ<|g 10 14 [.call (gT (ax p safe)) O2]<|J QZ<|Ws ?_
  by_cases h1:(310:Int)≤(↑(List.length (List.map ah safe)):Int)
  simp only[LM]at h1
  refine g 9 27 (RL 6 BF [BT,BT,BT,BT])<|J QZ<|Wc<|Kr (g 27 30 [.call (aF (eI w now safe)) O1]<|J QZ (RT ?_))
  rfl
  simp only[LM]at h1
  omega
theorem EH(b:Boss)(p:Plan)(hp:dD p)(h:BossLim b)(hw:1≤b.workers∧b.workers≤8)(hc:am p.tasks = 0)(hd:b.up = false→DownOk b∧(ax p b.log.safe).code = 0):F lH [.val (ge b),.val (cX p)] (aF (cW b p)) O2:=by
 by_cases hup:b.up = false
 ·obtain⟨d,hc2⟩:=hd hup
  have e:=PM hup d
  have:F lH [.val (ge (eI b.workers b.now b.log.safe)),.val (cX p)] (aF (cW (eI b.workers b.now b.log.safe) p)) O2:=rd b.workers b.now b.log.safe p hp hw (fun s hs=>h.all s (List.mem_append_left _ hs)) hc2
  rw[←e]at this
  exact this
 ·rw[oy (fun q=>hup q.1)]
  have ct:=qS b h
  have hss:∀ s∈b.log.safe,s.size≤281474976710656:=fun s hs=>h.all s (List.mem_append_left _ hs)
  have hs1:=h.safe
  have cr:=jd p b.log.safe hp hss OM
  refine iX ?_
  conv=>whnf
  refine g 0 0 []<|J QZ<|g 10 14 [.call (gT (ax p b.log.safe)) O2]<|J QZ<|Ws<|g 9 27 (RL 10 BT [])<|J QZ<|Wc<|Kr (g 27 30 [.call (aF b) O1]<|J QZ (RT ?_))
  rfl
noncomputable def jZ(b:Boss)(p:Plan):Boss:=if BossOk b p then cW b p else iT
theorem nA{b:Boss}{p:Plan}(h:BossOk b p):jZ b p = cW b p:=if_pos h
theorem TY{b:Boss}{p:Plan}(h:¬BossOk b p):jZ b p = iT:=if_neg h
theorem BU{b:Boss}{p:Plan}(h:BossOk b p):b.up = false→DownOk b∧(ax p b.log.safe).code = 0:=by
 intro hup
 have d:=h.down hup
 have hc:=h.code
 have e:=List.eq_nil_of_length_eq_zero d.loose
 rw[cA,e,List.append_nil]at hc
 exact⟨d,hc⟩
theorem ju(b:Boss)(p:Plan)(hp:dD p)(h:BossLim b):F jq [.val (ge b),.val (cX p)] (aF (jZ b p)) O2:=by
 have cv:=pE b p hp h
 by_cases hv:BossOk b p
 ·rw[decide_eq_true hv]at cv
  rw[nA hv]
  have cf:=EH b p hp h hv.workers hv.plan (BU hv)
  refine nW ?_
  conv=>whnf
  refine g 0 2 []<|J QZ<|Ws<|g 5 8 [.call VT O2]<|J QZ<|Wc<|Jr<|Wk<|g 8 13 [.call (aF (cW b p)) O2]<|J QZ<|RT ?_
  rfl
 ·rw[decide_eq_false hv]at cv
  rw[TY hv]
  refine nW ?_
  conv=>whnf
  refine g 0 2 []<|J QZ<|Ws<|g 5 8 [.call VF O2]<|J QZ<|Wc<|Kr (g 8 10 []<|J QZ (RT ?_))
  rfl
end Go.K
end
section
open Go Go.Tm Go.Proofs
namespace Go.K
structure BossSmall (b:Boss):Prop where
 safe:b.log.safe.length≤4194304
 loose:b.log.loose.length≤4194304
 res:b.results.length≤4194304
 jobs:b.jobs.length≤4194304
 seats:b.seats.length≤4194304
 owed:b.owed.length≤4194304
theorem uu:BossSmall iT:=⟨by decide,by decide,by decide,by decide,by decide,by decide⟩
theorem wZ{b:Boss}(h:BossLim b):BossSmall b:=by
 obtain⟨h1,h2,h3,h4,h5,h6,h7⟩:=h
 exact⟨by omega,by omega,by omega,by omega,by omega,by omega⟩
end Go.K
end
section
open Go Go.Tm Go.Proofs
namespace Go.K
structure Led where
 boss:Boss
 out:List Message
 deriving DecidableEq
abbrev Oz(x:Led):V:=.agg [.t (.i x.boss.workers),.t (.b x.boss.up),.t (.i x.boss.now),.t (.i x.boss.since),.t (.i x.boss.epoch),.t (.i x.boss.given),.own [false] (x.boss.log.safe.map ah),.own [false] (x.boss.log.loose.map ah),.own [false] (x.boss.results.map ah),.own dB (x.boss.jobs.map aH),.own bw (x.boss.seats.map aE),.own bx (x.boss.owed.map aJ),.own cU (x.out.map aL)]
abbrev IC:Led:=⟨⟨0,false,0,0,0,0,⟨[],[]⟩,[],[],[],[]⟩,[]⟩
end Go.K
end
section
open Go Go.Tm Go.Proofs
namespace Go.K
def gK{α:Type}(f:α→α)(l:List α)(n:Nat):List α:=(l.take n).map f++l.drop n
theorem jD{α:Type}(f:α→α)(l:List α)(n:Nat):(gK f l n).length = l.length:=by simp[gK];omega
theorem jE{α:Type}(f:α→α)(l:List α){n:Nat}(h:l.length≤n):gK f l n = l.map f:=by
 rw[gK,List.take_of_length_le h,List.drop_of_length_le h,List.append_nil]
theorem K5{α:Type}(f:α→α){l:List α}{n:Nat}{x:α}(h:l[n]? = some x):(gK f l n)[n]? = some x:=by
 have hl:n < l.length:=(List.getElem?_eq_some_iff.1 h).1
 rw[gK,List.getElem?_append_right (by simp;omega)]
 simp only[List.length_map,List.length_take,List.getElem?_drop]
 rw[show n+ (n - min n l.length) = n by omega,h]
theorem K4{α:Type}{f:α→α}{l:List α}{n:Nat}{x:α}(h:l[n]? = some x):(gK f l n).set n (f x) = gK f l (n+1):=by
 obtain⟨hl,hx⟩:=List.getElem?_eq_some_iff.1 h
 unfold gK
 rw[List.drop_eq_getElem_cons hl,hx,List.set_append_right _ _ (by simp;omega),List.take_add_one,h]
 simp only[List.length_map,List.length_take,Option.toList_some,List.map_append,List.map_cons,List.map_nil,List.append_assoc,List.cons_append,List.nil_append]
 rw[show n - min n l.length = 0 by omega,List.set_cons_zero]
theorem m7{α β:Type}{f:α→α}{g:α→β}{l:List α}{n:Nat}{x:α}(h:l[n]? = some x):((gK f l n).map g).set n (g (f x)) = (gK f l (n+1)).map g:=by
 rw[←List.map_set,K4 h]
theorem bA{α β:Type}{f:α→α}{g:α→β}{l:List α}{n:Nat}{x:α}(h:l[n]? = some x):((gK f l n).map g)[n]? = some (g x):=by
 rw[List.getElem?_map,K5 f h];rfl
theorem pZ{α:Type}{f:α→α}{l:List α}{n:Nat}{x:α}(h:l[n]? = some x)(e:f x = x):gK f l n = gK f l (n+1):=by
 rw[←K4 h,e]
 obtain⟨hl,hx⟩:=List.getElem?_eq_some_iff.1 (K5 f h)
 have:=List.set_getElem_self hl
 rw[hx]at this;exact this.symm
structure Hand where
 given:Int
 jobs:List Job
 seats:List Seat
 out:List Message
def sK(now:Int)(j:Job):Job:=if j.til≤now then fA else j
def MQ(js:List Job)(i:Nat):Job:=(js[i]?).getD fA
def np(ss:List Seat)(i:Nat):Seat:=(ss[i]?).getD iR
def lU(ss:List Seat):Option Nat:=ss.findIdx? Seat.free
def NG(b:Boss)(ts:List Task)(s i:Nat)(g:Int):Message:=⟨1,0,(s:Int) +1,b.epoch,(b.epoch - 1) * 1000000+g,i,emp,ev b.results (oI ts i)⟩
structure CanHand (b:Boss) (ts:List Task) (h:Hand) (i:Nat):Prop where
 res:atS b.results i = emp
 job:(MQ h.jobs i).lease = 0
 ready:dj b.results (oI ts i)
 given:h.given < 1000000
noncomputable instance (b:Boss) (ts:List Task) (h:Hand) (i:Nat):Decidable (CanHand b ts h i):=Classical.propDecidable _
def lS(b:Boss)(ts:List Task)(h:Hand)(i s:Nat):Hand:=⟨h.given+1,h.jobs.set i ⟨(b.epoch - 1) * 1000000+ (h.given+1),(s:Int) +1,b.now+12⟩,h.seats.set s ⟨false,(np h.seats s).epoch⟩,h.out++ [NG b ts s i (h.given+1)]⟩
noncomputable def WI(b:Boss)(ts:List Task)(i:Nat)(h:Hand):Hand :=
 if CanHand b ts h i then(match lU h.seats with|none=>h|some s=>lS b ts h i s)else h
noncomputable def aK(b:Boss)(ts:List Task):Nat→Hand
 |0=>⟨b.given,b.jobs,b.seats,[]⟩
 |n+1=>WI b ts n (aK b ts n)
theorem jG{b:Boss}{ts:List Task}{n:Nat}(h:¬CanHand b ts (aK b ts n) n):aK b ts (n+1) = aK b ts n:=if_neg h
theorem qd{b:Boss}{ts:List Task}{n:Nat}(h:lU (aK b ts n).seats = none):aK b ts (n+1) = aK b ts n:=by
 rw[aK,WI,h];simp
theorem qc{b:Boss}{ts:List Task}{n s:Nat}(h:CanHand b ts (aK b ts n) n)(hf:lU (aK b ts n).seats = some s):aK b ts (n+1) = lS b ts (aK b ts n) n s:=by
 rw[aK,WI,if_pos h,hf]
theorem qe{ss:List Seat}{s:Nat}(h:lU ss = some s):∃ x,ss[s]? = some x∧x.free = true∧s < ss.length∧∀ (k:Nat) (y:Seat),k < s→ss[k]? = some y→y.free = false:=by
 obtain⟨h1,h2,h3⟩:=List.findIdx?_eq_some_iff_getElem.1 h
 refine⟨ss[s],List.getElem?_eq_getElem h1,h2,h1,fun k y hk hy=>?_⟩
 obtain⟨h4,h5⟩:=List.getElem?_eq_some_iff.1 hy
 have:=h3 k hk
 rw[h5]at this
 cases hb:y.free
 ·rfl
 ·exact absurd hb this
theorem Gj{ss:List Seat}(h:lU ss = none):∀ (k:Nat) (y:Seat),ss[k]? = some y→y.free = false:=by
 intro k y hy
 have:=List.findIdx?_eq_none_iff.1 h y (List.mem_of_getElem? hy)
 exact this
structure HandOk (b:Boss) (ts:List Task) (h:Hand) (n:Nat):Prop where
 jobs:h.jobs.length = b.jobs.length
 seats:h.seats.length = b.seats.length
 out:h.out.length≤n
 lo:0≤h.given
 hi:h.given≤1000000
 inputs:∀ m∈h.out,m.inputs.length≤8
theorem mF{b:Boss}{ts:List Task}(hd:∀ t∈ts,t.deps.length≤8)(h0:0≤b.given)(h1:b.given≤1000000):∀ n,HandOk b ts (aK b ts n) n
 |0=>⟨rfl,rfl,Nat.le_refl _,h0,h1,fun m hm=>by cases hm⟩
 |n+1=>by
  have ih:=mF hd h0 h1 n
  have up:HandOk b ts (aK b ts n) (n+1):=⟨ih.jobs,ih.seats,by have:=ih.out;omega,ih.lo,ih.hi,ih.inputs⟩
  by_cases hc:CanHand b ts (aK b ts n) n
  ·cases hf:lU (aK b ts n).seats with
   |none=>rw[qd hf];exact up
   |some s =>
    rw[qc hc hf]
    have e1:=ih.jobs
    have e2:=ih.seats
    have e3:=ih.out
    have e4:=ih.lo
    have e5:=hc.given
    refine⟨by simp only[lS,List.length_set];exact e1,by simp only[lS,List.length_set];exact e2,by simp only[lS,List.length_append,List.length_singleton];omega,by simp only[lS];omega,by simp only[lS];omega,fun m hm=>?_⟩
    rcases List.mem_append.1 hm with hm|hm
    ·exact ih.inputs m hm
    ·rw[List.mem_singleton.1 hm]
     show(ev _ _).length≤8
     rw[mY,oI]
     cases ht:ts[n]? with
     |none=>exact Nat.zero_le _
     |some t=>exact hd t (List.mem_of_getElem? ht)
  ·rw[jG hc];exact up
def aas(b:Boss):Boss:=⟨b.workers,b.up,b.now+1,b.since,b.epoch,b.given,b.log,b.results,b.jobs,b.seats,b.owed⟩
def dL(b:Boss):Boss:=⟨b.workers,b.up,b.now+1,b.since,b.epoch,b.given,b.log,b.results,b.jobs.map (sK (b.now+1)),b.seats,b.owed⟩
def og(ep:Int)(o:Owed):Message:=⟨4,0,o.worker,ep,o.lease,0,emp,[]⟩
noncomputable def endH(b:Boss)(ts:List Task):Hand:=aK (dL b) ts ts.length
noncomputable def iH(b:Boss)(ts:List Task):Led :=
 if b.now = 1000000 then⟨b,[]⟩else
 if b.up = false then⟨aas b,[]⟩else
 if b.since+1 = 2 then⟨⟨b.workers,b.up,b.now+1,0,b.epoch,(endH b ts).given,⟨b.log.safe++b.log.loose,[]⟩,b.results,(endH b ts).jobs,(endH b ts).seats,[]⟩,(endH b ts).out++b.owed.map (og b.epoch)⟩
 else⟨⟨b.workers,b.up,b.now+1,b.since+1,b.epoch,(endH b ts).given,b.log,b.results,(endH b ts).jobs,(endH b ts).seats,b.owed⟩,(endH b ts).out⟩
theorem um{b:Boss}{ts:List Task}(h:b.now = 1000000):iH b ts = ⟨b,[]⟩:=if_pos h
theorem Bs{b:Boss}{ts:List Task}(h:¬b.now = 1000000)(h2:b.up = false):iH b ts = ⟨aas b,[]⟩:=by rw[iH,if_neg h,if_pos h2]
theorem nL{b:Boss}{ts:List Task}(h:¬b.now = 1000000)(h2:¬b.up = false)(h3:b.since+1 = 2):iH b ts = ⟨⟨b.workers,b.up,b.now+1,0,b.epoch,(endH b ts).given,⟨b.log.safe++b.log.loose,[]⟩,b.results,(endH b ts).jobs,(endH b ts).seats,[]⟩,(endH b ts).out++b.owed.map (og b.epoch)⟩:=by rw[iH,if_neg h,if_neg h2,if_pos h3]
theorem pN{b:Boss}{ts:List Task}(h:¬b.now = 1000000)(h2:¬b.up = false)(h3:¬b.since+1 = 2):iH b ts = ⟨⟨b.workers,b.up,b.now+1,b.since+1,b.epoch,(endH b ts).given,b.log,b.results,(endH b ts).jobs,(endH b ts).seats,b.owed⟩,(endH b ts).out⟩:=by rw[iH,if_neg h,if_neg h2,if_neg h3]
noncomputable def qk(b:Boss)(p:Plan):Led:=if BossOk b p then iH b p.tasks else IC
theorem pG{b:Boss}{p:Plan}(h:BossOk b p):qk b p = iH b p.tasks:=if_pos h
theorem CZ{b:Boss}{p:Plan}(h:¬BossOk b p):qk b p = IC:=if_neg h
end Go.K
end
section
open Go Go.Tm Go.Proofs
namespace Go.K
theorem PK{now:Int}{js:List Job}{n:Nat}{j:Job}(h:js[n]? = some j)(hd:j.til≤now):((gK (sK now) js n).map aH).set n (aH fA) = (gK (sK now) js (n+1)).map aH:=by
 have:=m7 (f:=sK now) (g:=aH) h
 rw[show sK now j = fA from if_pos hd]at this
 exact this
theorem Wj{now:Int}{js:List Job}{n:Nat}{j:Job}(h:js[n]? = some j)(hd:¬j.til≤now):gK (sK now) js n = gK (sK now) js (n+1):=pZ h (if_neg hd)
theorem xF{out:List Message}{ep:Int}{os:List Owed}{n:Nat}{o:Owed}(h:os[n]? = some o):(out++ (os.take n).map (og ep)).map aL++ [aL (og ep o)] = (out++ (os.take (n+1)).map (og ep)).map aL:=by
 rw[List.take_add_one,h];simp
theorem wJ(b:Boss)(p:Plan)(hv:BossOk b p)(h:BossLim b):F vJ [.ptr (cellsOf (aF b)),.val (cX p)] (.own cU ((iH b p.tasks).out.map aL)) [cellsOf (aF (iH b p.tasks).boss),[]]:=by
 have hnow:=hv.now
 by_cases h0:b.now = 1000000
 ·rw[um h0]
  refine iC ?_
  conv=>whnf
  refine g 0 0 []<|J QZ<|Ws<|g 12 16 []<|J UE<|Wc<|Kt (g 16 17 []<|J UA (RT ?_))
  rfl
 ·by_cases hup:b.up = false
  ·rw[Bs h0 hup]
   refine iC ?_
   conv=>whnf
   refine g 0 0 []<|J QZ<|Ws<|g 12 16 []<|J UE<|Wc<|Jf<|Wk<|g 20 24 [.i (b.now+1)]<|J QZ<|Ws<|g 24 28 []<|J UE<|Wc<|J (fun _=>(g 16 19 []<|J UA (RT ?_))) (noF (nbT AS))
   rfl
  ·have hup2:b.up = true:=by cases hb:b.up;exact absurd hb hup;rfl
   obtain⟨u1,u2,u3,u4,u5,u6,⟨u7,u8⟩,⟨u9,u10⟩,u11,u12,u13,u14⟩:=hv.up hup2
   have hck:=hv.plan
   have hpl:=(bX hck).1
   have hwk:=hv.workers
   obtain⟨he1,he2⟩:=fG hv.code
   change 0≤(cA b p).epoch at he1
   change (cA b p).epoch≤300 at he2
   have l1:=h.safe
   have l2:=h.loose
   refine iC ?_
   conv=>whnf
   refine g 0 0 []<|J QZ<|Ws<|g 12 16 []<|J UE<|Wc<|Jf<|Wk<|g 20 24 [.i (b.now+1)]<|J QZ<|Ws<|g 24 28 []<|J UE<|Wc<|J (noT (nbF AS)) fun _=>Wk<|g 16 19 []<|J UA<|Ws ?_
   refine g 30 33 []<|J UF<|Wb<|Wl (fun s (n:Nat)=>⟨(SK s [0,1,3,4,5,19,29,33] [(34,.i n)]),[(3,[s.c 3 0]),(246,[.t (.i b.workers),.t (.b b.up),.t (.i (b.now+1)),.t (.i b.since),.t (.i b.epoch),.t (.i b.given),.own [false] (b.log.safe.map ah),.own [false] (b.log.loose.map ah),.own [false] (b.results.map ah),.own dB ((gK (sK (b.now+1)) b.jobs n).map aH),.own bw (b.seats.map aE),.own bx (b.owed.map aJ)])],[]⟩) (fun(n:Nat)=>n≤b.jobs.length) (fun(n:Nat)=>b.jobs.length - n) (0) [some 3,some 246] [] FZ OM ?_
   intro n hn
   have hx:=jD (sK (b.now+1)) b.jobs n
   by_cases hj:n < b.jobs.length
   ·obtain⟨j,hj1⟩:=ae hj
    by_cases hd:j.til≤b.now+1
    ·have e1:=PK hj1 hd
     conv=>whnf
     refine g 0 0 []<|J UA<|Ws<|Wc<|J (fun _=>(Wk (Ws (Wb (g 35 37 []<|J UB (gd 37 49 [[],[],[],[],[],[.n (n)],[],[.x (aH j)],[],[],[],[],[]] ?_)))))) (noF (by simp_all))
     conv=>whnf
     refine⟨⟨I,I,I,I,I,Zao,I,bA AS,I,I,I,I,I,I⟩,by kernel_rfl,?_⟩
     refine Wc<|Kt (rg [.n (n),.x (aH j)]<|J (QA @bA) (rg [.i ((n:Int) +1)]<|J QZ ?_))
     refine⟨n+1,[some 3,some 246],[],⟨rfl,FZ,⟨FZ,⟨(R10 ⟨(congrArg (V.own _) (e1)),FZ⟩),I⟩⟩,I⟩,?_,?_⟩
     rotate_left
     (dsimp only;omega)
     dsimp only
     omega
    ·have e1:=Wj hj1 hd
     conv=>whnf
     refine g 0 0 []<|J UA<|Ws<|Wc<|J (fun _=>(Wk (Ws (Wb (g 35 37 []<|J UB (gd 37 49 [[],[],[],[],[],[.n (n)],[],[.x (aH j)],[],[],[],[],[]] ?_)))))) (noF (by simp_all))
     conv=>whnf
     refine⟨⟨I,I,I,I,I,Zao,I,bA AS,I,I,I,I,I,I⟩,by kernel_rfl,?_⟩
     refine Wc<|Jf<|Wk<|rg [.i ((n:Int) +1)]<|J QZ ?_
     refine⟨n+1,[some 3,some 246],[],⟨rfl,FZ,⟨FZ,⟨(R10 ⟨(congrArg (V.own _) (by rw[←e1])),FZ⟩),I⟩⟩,I⟩,?_,?_⟩
     rotate_left
     (dsimp only;omega)
     dsimp only
     omega
   have e0:=jE (sK (b.now+1)) b.jobs (n:=n) OM
   conv=>whnf
   refine g 0 0 []<|J UA<|Ws<|Wc<|J (noT (by simp_all)) fun _=>We<|Ws<|g 33 59 []<|J UD<|Wb ?_
   have hdl:∀ t∈p.tasks,t.deps.length≤8:=fun t ht=>by
    obtain⟨k,hk⟩:=List.getElem?_of_mem ht
    exact(cz hck hk).2.2.1
   refine Wl (fun s (m:Nat)=>⟨(SK s [0,1,3,4] ((5,.ref ⟨5,none,0⟩)::(SK s [19,29,59,60] [(61,.i m)]))),[(3,[s.c 3 0]),(5,[.own cU ((aK (dL b) p.tasks m).out.map aL)]),(246,[.t (.i b.workers),.t (.b b.up),.t (.i (b.now+1)),.t (.i b.since),.t (.i b.epoch),.t (.i (aK (dL b) p.tasks m).given),.own [false] (b.log.safe.map ah),.own [false] (b.log.loose.map ah),.own [false] (b.results.map ah),.own dB ((aK (dL b) p.tasks m).jobs.map aH),.own bw ((aK (dL b) p.tasks m).seats.map aE),.own bx (b.owed.map aJ)])],[]⟩) (fun(m:Nat)=>m≤p.tasks.length) (fun(m:Nat)=>p.tasks.length - m) (0) [some 3,none,some 246] [] ⟨rfl,FZ,⟨FZ,⟨I,⟨(R10 ⟨(congrArg (V.own _) (by rw[e0];rfl)),FZ⟩),I⟩⟩⟩,I⟩ OM ?_
   intro m hm
   obtain⟨k1,k2,k3,k4,k5,k6⟩:=mF (b:=dL b) (ts:=p.tasks) hdl u9 u10 m
   have k7:(dL b).jobs.length = b.jobs.length:=by show(b.jobs.map _).length = _;rw[List.length_map]
   rw[k7]at k1
   change (aK (dL b) p.tasks m).seats.length = b.seats.length at k2
   by_cases hm2:m < p.tasks.length
   ·obtain⟨t,ht0⟩:=ae hm2
    obtain⟨y,hy0⟩:=ae (xs:=b.results) (n:=m) OM
    obtain⟨j,hj0⟩:=ae (xs:=(aK (dL b) p.tasks m).jobs) (n:=m) OM
    obtain⟨_,_,a3,a4⟩:=cz hck ht0
    have crd:=jX b.results t.deps (fun d hd=>by have:=a4 d hd;omega) OM
    have cpk:=yi b.results t.deps (fun d hd=>by have:=a4 d hd;omega) OM
    have q1:∀ q:CanHand (dL b) p.tasks (aK (dL b) p.tasks m) m,y = emp:=fun q=>by have:=q.res;rw[show(dL b).results = b.results from rfl,kJ hy0]at this;exact this
    have q2:∀ q:CanHand (dL b) p.tasks (aK (dL b) p.tasks m) m,j.lease = 0:=fun q=>by have:=q.job;rw[MQ,hj0]at this;exact this
    have q3:∀ q:CanHand (dL b) p.tasks (aK (dL b) p.tasks m) m,dj b.results t.deps:=fun q=>by have:=q.ready;rw[eD ht0]at this;exact this
    by_cases hA:y = emp
    ·by_cases hB:j.lease = 0
     ·by_cases hF:dj b.results t.deps
      ·rw[decide_eq_true hF]at crd
       by_cases hG:(aK (dL b) p.tasks m).given < 1000000
       ·have hc:CanHand (dL b) p.tasks (aK (dL b) p.tasks m) m:=⟨by rw[show(dL b).results = b.results from rfl,kJ hy0];exact hA,by rw[MQ,hj0];exact hB,by rw[eD ht0];exact hF,hG⟩
        conv=>whnf
        refine g 0 0 []<|J UA<|Ws<|Wc<|J (fun _=>(Wk (Ws (Wb (g 62 66 [.x (ay t)]<|J QZ (Ws (gd 72 101 [[],[],[],[],[],[.n (m)],[.x (ah y)],[],[],[BF],[BF],[BF],[BF],[BF],[BF,.n (m)],[BF],[BF,.x (aH j)],[BF],[BF],[],[BF],[BF],[BF],[BF],[BF],[BF],[BF,.call VT O2],[BF],[BF],[],[BF],[BF],[BF],[BF],[BF],[BF]] ?_))))))) (noF SI)
        conv=>whnf
        refine⟨Zab,by kernel_rfl,?_⟩
        refine Wc<|Jf<|Wk<|g 66 71 []<|J UF<|Wb ?_
        cases hf:lU (aK (dL b) p.tasks m).seats with
        |none =>
         have e:=qd (b:=dL b) (ts:=p.tasks) hf
         refine Wl (fun s (k:Nat)=>⟨(SK s [0,1,3,4] ((5,.ref ⟨5,none,0⟩)::(SK s [7,8,19,29,59,60,61,71,106] [(107,.i k)]))),[(246,(CK s 246 0 12 [])),(3,[s.c 3 0]),(8,(CK s 8 0 3 [])),(5,[.own cU ((aK (dL b) p.tasks m).out.map aL)])],[]⟩) (fun(k:Nat)=>k≤(aK (dL b) p.tasks m).seats.length) (fun(k:Nat)=>(aK (dL b) p.tasks m).seats.length - k) (0) [some 246,some 3,some 8,some 5] [] FZ OM ?_
         intro s hs
         by_cases hs2:s < (aK (dL b) p.tasks m).seats.length
         ·obtain⟨x,hx0⟩:=ae hs2
          have hx1:=Gj hf s x hx0
          conv=>whnf
          refine g 0 0 []<|J UA<|Ws<|Wc<|JD (fun h1=>?_) fun h1=>?_
          simp only[LM]at h1
          refine Wk<|Ws<|Wb<|g 108 110 []<|J UB<|Ws<|g 110 118 [.n (s),.x (aE x)]<|J QZ<|Wc<|J (fun _=>(We (rg [.i ((s:Int) +1)]<|J QZ ?_))) (noF (nbT AS))
          rotate_left
          simp only[LM]at h1
          omega
          refine⟨s+1,[some 246,some 3,some 8,some 5],[],FZ,?_,?_⟩
          rotate_left
          (dsimp only;omega)
          dsimp only
          omega
         ·conv=>whnf
          refine g 0 0 []<|J UA<|Ws<|Wc<|J (fun h1=>?_) fun h1=>?_
          replace h1:=dt h1
          simp only[LM]at h1
          omega
          replace h1:=df h1
          simp only[LM]at h1
          refine We<|rg [.i ((m:Int) +1)]<|J QZ ?_
          refine⟨m+1,[some 3,some 5,some 246],[],⟨rfl,FZ,⟨FZ,⟨⟨rfl,⟨(congrArg (V.own _) (by rw[e])),I⟩⟩,⟨(R6 ⟨(congrArg (fun z=>V.t (T.v (Value.int _ z))) (by rw[e])),(R3 ⟨(congrArg (V.own _) (by rw[e])),⟨(congrArg (V.own _) (by rw[e])),Zar⟩⟩)⟩),I⟩⟩⟩,I⟩,?_,?_⟩
          rotate_left
          (dsimp only;omega)
          dsimp only
          omega
        |some s0 =>
         obtain⟨x,hx0,hx1,hx2,hx3⟩:=qe hf
         have e:=qc hc hf
         refine Wl (fun s (k:Nat)=>⟨(SK s [0,1,3,4] ((5,.ref ⟨5,none,0⟩)::(SK s [7,8,19,29,59,60,61,71,106] [(107,.i k)]))),[(246,(CK s 246 0 12 [])),(3,[s.c 3 0]),(8,(CK s 8 0 3 [])),(5,[.own cU ((aK (dL b) p.tasks m).out.map aL)])],[]⟩) (fun(k:Nat)=>k≤s0) (fun(k:Nat)=>(aK (dL b) p.tasks m).seats.length - k) (0) [some 246,some 3,some 8,some 5] [] FZ OM ?_
         intro s hs
         by_cases hs2:s < s0
         ·obtain⟨x',hx'⟩:=ae (xs:=(aK (dL b) p.tasks m).seats) (n:=s) OM
          have hx4:=hx3 s x' hs2 hx'
          conv=>whnf
          refine g 0 0 []<|J UA<|Ws<|Wc<|JD (fun h1=>?_) fun h1=>?_
          simp only[LM]at h1
          refine Wk<|Ws<|Wb<|g 108 110 []<|J UB<|Ws<|g 110 118 [.n (s),.x (aE x')]<|J QZ<|Wc<|J (fun _=>(We (rg [.i ((s:Int) +1)]<|J QZ ?_))) (noF (nbT AS))
          rotate_left
          simp only[LM]at h1
          omega
          refine⟨s+1,[some 246,some 3,some 8,some 5],[],FZ,?_,?_⟩
          rotate_left
          (dsimp only;omega)
          dsimp only
          omega
         ·obtain rfl:s = s0:=by omega
          have ej:((aK (dL b) p.tasks m).jobs.map aH).set m (aH ⟨(b.epoch - 1) * 1000000+ ((aK (dL b) p.tasks m).given+1),(s:Int) +1,b.now+1+12⟩) = (aK (dL b) p.tasks (m+1)).jobs.map aH:=by rw[e,←List.map_set];rfl
          have es:((aK (dL b) p.tasks m).seats.map aE).set s (aE ⟨false,x.epoch⟩) = (aK (dL b) p.tasks (m+1)).seats.map aE:=by rw[e,←List.map_set,lS,np,hx0];rfl
          have eo:(aK (dL b) p.tasks m).out.map aL++ [aL ⟨1,0,(s:Int) +1,b.epoch,(b.epoch - 1) * 1000000+ ((aK (dL b) p.tasks m).given+1),m,emp,ev b.results t.deps⟩] = (aK (dL b) p.tasks (m+1)).out.map aL:=by rw[e,lS,NG,eD ht0,List.map_append];rfl
          have eg:(aK (dL b) p.tasks m).given+1 = (aK (dL b) p.tasks (m+1)).given:=by rw[e];rfl
          conv=>whnf
          refine g 0 0 []<|J UA<|Ws<|Wc<|JD (fun h1=>?_) fun h1=>?_
          simp only[LM]at h1
          refine Wk<|Ws<|Wb<|g 108 110 []<|J UB<|Ws<|g 110 118 [.n (s),.x (aE x)]<|J QZ<|Wc<|J (noT (nbF AS)) fun _=>Wk<|g 118 126 [.n (s),.x (aE x)]<|J QZ<|g 126 133 [.i (Hand.given (aK (dL b) p.tasks m) +1)]<|J QZ<|gd 133 158 [[],[],[],[],[],[],[],[],[],[.i (b.epoch - 1)],[.i ((b.epoch - 1) * 1000000)],[],[],[],[],[.i ((b.epoch - 1) * 1000000+ (Hand.given (aK (dL b) p.tasks m) +1))],[],[.i ((s:Int) +1)],[],[],[],[],[.i (b.now+1+12)],[],[.n (m)],[.x (aH j)]] ?_
          conv=>whnf
          refine J QZ<|J KR<|gd 158 184 [[],[],[.i ((s:Int) +1)],[],[],[],[],[],[],[],[],[],[.n (m)],[],[.x (aM (aH j) 0 [T.v (Value.int IntKind.i64 ((b.epoch - 1) * 1000000+ (Hand.given (aK (dL b) p.tasks m) +1))),T.v (Value.int IntKind.i64 ((s:Int) +1)),T.v (Value.int IntKind.i64 (b.now+1+12))])],[],[],[],[],[],[],[],[.call (V.own [false] (List.map ah (ev b.results t.deps))) O2],[],[],[],[]] ?_
          conv=>whnf
          refine J QZ<|J KR<|We<|rg [.i ((m:Int) +1)]<|J QZ ?_
          rotate_left
          simp only[LM]at h1
          omega
          refine⟨m+1,[some 3,some 183,some 246],[],⟨rfl,FZ,⟨FZ,⟨⟨rfl,⟨(congrArg (V.own _) (eo)),I⟩⟩,⟨(R6 ⟨(congrArg (fun z=>V.t (T.v (Value.int _ z))) (eg)),(R3 ⟨(congrArg (V.own _) (ej)),⟨(congrArg (V.own _) (es)),Zar⟩⟩)⟩),I⟩⟩⟩,I⟩,?_,?_⟩
          rotate_left
          (dsimp only;omega)
          dsimp only
          omega
       ·have e:=jG (b:=dL b) (ts:=p.tasks) (fun q=>hG q.given)
        conv=>whnf
        refine g 0 0 []<|J UA<|Ws<|Wc<|J (fun _=>(Wk (Ws (Wb (g 62 66 [.x (ay t)]<|J QZ (Ws (gd 72 101 [[],[],[],[],[],[.n (m)],[.x (ah y)],[],[],[BF],[BF],[BF],[BF],[BF],[BF,.n (m)],[BF],[BF,.x (aH j)],[BF],[BF],[],[BF],[BF],[BF],[BF],[BF],[BF],[BF,.call VT O2],[BF],[BF],[],[BF],[BF],[BF],[BF],[BF],[BF]] ?_))))))) (noF SI)
        conv=>whnf
        refine⟨Zab,by kernel_rfl,?_⟩
        refine Wc<|Kt (We (rg [.i ((m:Int) +1)]<|J QZ ?_))
        refine⟨m+1,[some 3,some 5,some 246],[],⟨rfl,FZ,⟨FZ,⟨⟨rfl,⟨(congrArg (V.own _) (by rw[e])),I⟩⟩,⟨(R6 ⟨(congrArg (fun z=>V.t (T.v (Value.int _ z))) (by rw[e])),(R3 ⟨(congrArg (V.own _) (by rw[e])),⟨(congrArg (V.own _) (by rw[e])),Zar⟩⟩)⟩),I⟩⟩⟩,I⟩,?_,?_⟩
        rotate_left
        (dsimp only;omega)
        dsimp only
        omega
      ·rw[decide_eq_false hF]at crd
       have e:=jG (b:=dL b) (ts:=p.tasks) (fun q=>hF (q3 q))
       conv=>whnf
       refine g 0 0 []<|J UA<|Ws<|Wc<|J (fun _=>(Wk (Ws (Wb (g 62 66 [.x (ay t)]<|J QZ (Ws (gd 72 101 [[],[],[],[],[],[.n (m)],[.x (ah y)],[],[],[BF],[BF],[BF],[BF],[BF],[BF,.n (m)],[BF],[BF,.x (aH j)],[BF],[BF],[],[BF],[BF],[BF],[BF],[BF],[BF],[BF,.call VF O2],[BF],[BF],[],[BT],[BT],[BT],[BT],[BT],[BT]] ?_))))))) (noF SI)
       conv=>whnf
       refine⟨⟨I,I,I,I,I,Zao,xA,I,I,⟨nO,I⟩,⟨nO,I⟩,⟨nO,I⟩,⟨nO,I⟩,⟨nO,I⟩,⟨nO,rfl,LN⟩,⟨nO,I⟩,⟨nO,xA⟩,⟨nO,I⟩,nO,I,⟨nO,I⟩,⟨nO,I⟩,⟨nO,I⟩,⟨nO,I⟩,⟨nO,I⟩,⟨nO,I⟩,⟨nO,UB,I,UT,UA,AS⟩,⟨nO,I⟩,nO,I,rfl,rfl,rfl,rfl,rfl,rfl,I⟩,by kernel_rfl,?_⟩
       refine Wc<|Kr (We (rg [.i ((m:Int) +1)]<|J QZ ?_))
       refine⟨m+1,[some 3,some 5,some 246],[],⟨rfl,FZ,⟨FZ,⟨⟨rfl,⟨(congrArg (V.own _) (by rw[e])),I⟩⟩,⟨(R6 ⟨(congrArg (fun z=>V.t (T.v (Value.int _ z))) (by rw[e])),(R3 ⟨(congrArg (V.own _) (by rw[e])),⟨(congrArg (V.own _) (by rw[e])),Zar⟩⟩)⟩),I⟩⟩⟩,I⟩,?_,?_⟩
       rotate_left
       (dsimp only;omega)
       dsimp only
       omega
     ·have e:=jG (b:=dL b) (ts:=p.tasks) (fun q=>hB (q2 q))
      conv=>whnf
      refine g 0 0 []<|J UA<|Ws<|Wc<|J (fun _=>(Wk (Ws (Wb (g 62 66 [.x (ay t)]<|J QZ (Ws (gd 72 101 [[],[],[],[],[],[.n (m)],[.x (ah y)],[],[],[BF],[BF],[BF],[BF],[BF],[BF,.n (m)],[BF],[BF,.x (aH j)],[BF],[BF],[],[BT],[BT],[BT],[BT],[BT],[BT],[BT],[BT],[BT],[],[BT],[BT],[BT],[BT],[BT],[BT]] ?_))))))) (noF SI)
      conv=>whnf
      refine⟨⟨I,I,I,I,I,Zao,xA,I,I,⟨nO,I⟩,⟨nO,I⟩,⟨nO,I⟩,⟨nO,I⟩,⟨nO,I⟩,⟨nO,rfl,LN⟩,⟨nO,I⟩,⟨nO,xA⟩,⟨nO,I⟩,nO,I,gt OM,gt OM,gt OM,gt OM,gt OM,gt OM,gt OM,gt OM,gt OM,I,rfl,rfl,rfl,rfl,rfl,rfl,I⟩,by kernel_rfl,?_⟩
      refine Wc<|Kr (We (rg [.i ((m:Int) +1)]<|J QZ ?_))
      refine⟨m+1,[some 3,some 5,some 246],[],⟨rfl,FZ,⟨FZ,⟨⟨rfl,⟨(congrArg (V.own _) (by rw[e])),I⟩⟩,⟨(R6 ⟨(congrArg (fun z=>V.t (T.v (Value.int _ z))) (by rw[e])),(R3 ⟨(congrArg (V.own _) (by rw[e])),⟨(congrArg (V.own _) (by rw[e])),Zar⟩⟩)⟩),I⟩⟩⟩,I⟩,?_,?_⟩
      rotate_left
      (dsimp only;omega)
      dsimp only
      omega
    ·have e:=jG (b:=dL b) (ts:=p.tasks) (fun q=>hA (q1 q))
     conv=>whnf
     refine g 0 0 []<|J UA<|Ws<|Wc<|J (fun _=>(Wk (Ws (Wb (g 62 66 [.x (ay t)]<|J QZ (Ws (gd 72 101 [[],[],[],[],[],[.n (m)],[.x (ah y)],[],[],[BT],[BT],[BT],[BT],[BT],[BT],[BT],[BT],[BT],[BT],[],[BT],[BT],[BT],[BT],[BT],[BT],[BT],[BT],[BT],[],[BT],[BT],[BT],[BT],[BT],[BT]] ?_))))))) (noF SI)
     conv=>whnf
     refine⟨⟨I,I,I,I,I,Zao,xA,I,I,gt OM,gt OM,gt OM,gt OM,gt OM,gt OM,gt OM,gt OM,gt OM,gt OM,I,rfl,rfl,rfl,rfl,rfl,rfl,rfl,rfl,rfl,I,rfl,rfl,rfl,rfl,rfl,rfl,I⟩,by kernel_rfl,?_⟩
     refine Wc<|Kr (We (rg [.i ((m:Int) +1)]<|J QZ ?_))
     refine⟨m+1,[some 3,some 5,some 246],[],⟨rfl,FZ,⟨FZ,⟨⟨rfl,⟨(congrArg (V.own _) (by rw[e])),I⟩⟩,⟨(R6 ⟨(congrArg (fun z=>V.t (T.v (Value.int _ z))) (by rw[e])),(R3 ⟨(congrArg (V.own _) (by rw[e])),⟨(congrArg (V.own _) (by rw[e])),Zar⟩⟩)⟩),I⟩⟩⟩,I⟩,?_,?_⟩
     rotate_left
     (dsimp only;omega)
     dsimp only
     omega
   obtain rfl:m = p.tasks.length:=by omega
   by_cases hs:b.since+1 = 2
   ·rw[nL h0 hup hs]
    conv=>whnf
    refine g 0 0 []<|J UA<|Ws<|Wc<|J (noT SI) fun _=>We<|g 19 193 [.i (b.since+1)]<|J QZ<|Ws<|g 193 197 []<|J UE<|Wc<|Kt (g 197 201 []<|J UW (gd 201 216 [[],[],[],[],[],[],[],[],[],[],[],[],[],[],[],[]] ?_))
    conv=>whnf
    refine⟨⟨I,I,I,I,I,I,I,I,I,I,I,Zap,I,I,I,UA,I⟩,by kernel_rfl,?_⟩
    refine g 216 220 []<|J QZ<|Ws<|g 220 223 []<|J UF<|Wb<|Wl (fun s (n:Nat)=>⟨(SK s [0,3,4] [(5,.ref ⟨5,none,0⟩),(223,s.s 223),(224,s.s 224),(225,.i n)]),[(3,[s.c 3 0]),(5,[.own cU (((endH b p.tasks).out++ (b.owed.take n).map (og b.epoch)).map aL)]),(246,[.t (.i b.workers),.t (.b b.up),.t (.i (b.now+1)),.t (.i 0),.t (.i b.epoch),.t (.i (endH b p.tasks).given),.own [false] ((b.log.safe++b.log.loose).map ah),.own [false] [],.own [false] (b.results.map ah),.own dB ((endH b p.tasks).jobs.map aH),.own bw ((endH b p.tasks).seats.map aE),.own bx (b.owed.map aJ)])],[]⟩) (fun(n:Nat)=>n≤b.owed.length) (fun(n:Nat)=>b.owed.length - n) (0) [some 3,some 5,some 246] [] ⟨rfl,FZ,⟨FZ,⟨⟨rfl,⟨(congrArg (V.own _) (by rw[List.take_zero,List.map_nil,List.append_nil];rfl)),I⟩⟩,⟨(R7 ⟨(congrArg (V.own _) SI),FZ⟩),I⟩⟩⟩,I⟩ OM ?_
    intro n hn
    by_cases hn2:n < b.owed.length
    ·obtain⟨o,ho⟩:=ae hn2
     have k9:(endH b p.tasks).out.length≤40:=by show(aK _ _ _).out.length≤40;omega
     have eo:=xF (out:=(endH b p.tasks).out) (ep:=b.epoch) ho
     conv=>whnf
     refine g 0 0 []<|J UA<|Ws<|Wc<|J (fun _=>(Wk (Ws (Wb (g 226 229 [.n (n),.x (aJ o)]<|J QZ (rgd [[],[],[],[],[],[],[],[],[],[],[],[],[]] ?_)))))) (noF SI)
     conv=>whnf
     refine⟨⟨I,I,I,I,I,I,I,I,I,I,⟨UH,I⟩,Zap,I,I⟩,by kernel_rfl,?_⟩
     refine rg [.i ((n:Int) +1)]<|J QZ ?_
     refine⟨n+1,[some 3,some 240,some 246],[],⟨rfl,FZ,⟨FZ,⟨⟨rfl,⟨(congrArg (V.own _) (eo)),I⟩⟩,FZ⟩⟩,I⟩,?_,?_⟩
     rotate_left
     (dsimp only;omega)
     dsimp only
     omega
    ·conv=>whnf
     refine g 0 0 []<|J UA<|Ws<|Wc<|J (noT SI) fun _=>We<|rg []<|J UW<|g 5 246 []<|J UB<|RT ?_
     all_goals (rw[aI OM])
   ·rw[pN h0 hup hs]
    conv=>whnf
    refine g 0 0 []<|J UA<|Ws<|Wc<|J (noT SI) fun _=>We<|g 19 193 [.i (b.since+1)]<|J QZ<|Ws<|g 193 197 []<|J UE<|Wc<|Jf<|Wk<|g 0 4 []<|J UB<|RT ?_
    rfl
end Go.K
end
section
open Go Go.Tm Go.Proofs
namespace Go.K
def atB(d:Boss)(h:Hand):Boss:=⟨d.workers,d.up,d.now,d.since,d.epoch,h.given,d.log,d.results,h.jobs,h.seats,d.owed⟩
theorem Fh(b:Boss)(hl:b.seats.length≤1048576)(hf:lU b.seats = none):F qz [.val (ge b)] (.i (-1)) O1:=by
 refine qL ?_
 conv=>whnf
 refine g 0 1 []<|J QZ<|Ws<|g 0 0 []<|J UA<|Wb<|Wl (fun s (n:Nat)=>⟨[(1,s.s 1),(3,.i n)],[(1,(CK s 1 0 12 []))],[]⟩) (fun(n:Nat)=>n≤b.seats.length) (fun(n:Nat)=>b.seats.length - n) (0) [some 1] [] FZ OM ?_
 intro n hn
 by_cases hn2:n < b.seats.length
 ·obtain⟨x,hx⟩:=ae hn2
  have hx1:=Gj hf n x hx
  conv=>whnf
  refine Ws<|g 4 8 []<|J UE<|Wc<|J (fun _=>(Wk (Ws (Wb (g 8 16 [.x (aE x)]<|J QZ (Wc<|J (noT AS) fun _=>(Wk (rg [.i ((n:Int) +1)]<|J QZ ?_)))))))) (noF SI)
  refine⟨n+1,[some 1],[],FZ,?_,?_⟩
  rotate_left
  (dsimp only;omega)
  dsimp only
  omega
 ·conv=>whnf
  refine Ws<|g 4 8 []<|J UE<|Wc<|J (noT SI) fun _=>We<|g 1 2 []<|J UA<|RT ?_
  rfl
theorem Fg(b:Boss){k:Nat}(hl:b.seats.length≤1048576)(hf:lU b.seats = some k):F qz [.val (ge b)] (.i k) O1:=by
 obtain⟨x,hx0,hx1,hx2,hx3⟩:=qe hf
 refine qL ?_
 conv=>whnf
 refine g 0 1 []<|J QZ<|Ws<|g 0 0 []<|J UA<|Wb<|Wl (fun s (n:Nat)=>⟨[(1,s.s 1),(3,.i n)],[(1,(CK s 1 0 12 []))],[]⟩) (fun(n:Nat)=>n≤k) (fun(n:Nat)=>b.seats.length - n) (0) [some 1] [] FZ OM ?_
 intro n hn
 by_cases hn2:n < k
 ·obtain⟨y,hy⟩:=ae (xs:=b.seats) (n:=n) OM
  have hy1:=hx3 n y hn2 hy
  conv=>whnf
  refine Ws<|g 4 8 []<|J UE<|Wc<|JD (fun h1=>?_) fun h1=>?_
  simp only[LM]at h1
  refine Wk<|Ws<|Wb<|g 8 16 [.x (aE y)]<|J QZ<|Wc<|J (noT AS) fun _=>Wk<|rg [.i ((n:Int) +1)]<|J QZ ?_
  rotate_left
  simp only[LM]at h1
  omega
  refine⟨n+1,[some 1],[],FZ,?_,?_⟩
  rotate_left
  (dsimp only;omega)
  dsimp only
  omega
 ·obtain rfl:n = k:=by omega
  conv=>whnf
  refine Ws<|g 4 8 []<|J UE<|Wc<|J (fun _=>(Wk (Ws (Wb (g 8 16 [.x (aE x)]<|J QZ (Wc<|J (fun _=>(g 16 18 []<|J UB (RT ?_))) (noF AS))))))) (noF SI)
  rfl
structure HandIn (d:Boss) (ts:List Task):Prop where
 chk:am ts = 0
 res:d.results.length = ts.length
 jobs:d.jobs.length = ts.length
 seats:d.seats.length≤8
 ep:1≤d.epoch∧d.epoch≤300
 given:0≤d.given∧d.given≤1000000
 now:0≤d.now∧d.now≤1000000
theorem EI(d:Boss)(p:Plan)(h:HandIn d p.tasks):F lI [.val (aF d),.val (cX p)] (Oz ⟨atB d (aK d p.tasks p.tasks.length),(aK d p.tasks p.tasks.length).out⟩) O2:=by
 obtain⟨hck,u3,u4,u5,⟨ue1,ue2⟩,⟨u9,u10⟩,⟨hn1,hn2⟩⟩:=h
 have hpl:=(bX hck).1
 have hdl:∀ t∈p.tasks,t.deps.length≤8:=fun t ht=>by
  obtain⟨k,hk⟩:=List.getElem?_of_mem ht
  exact(cz hck hk).2.2.1
 refine D4 ?_
 conv=>whnf
 refine g 0 0 []<|J QZ<|g 11 13 []<|J QZ<|Ws<|g 0 0 []<|J UA<|Wb<|Wl (fun s (m:Nat)=>⟨(SK s [0,1,2,3,4,5] [(6,.i m)]),[(138,(CK s 138 0 12 [])),(2,(CK s 2 0 12 [])),(3,[s.c 3 0]),(4,(CK s 4 0 13 [])),(5,[.t (.i (atB d (aK d p.tasks m)).workers),.t (.b (atB d (aK d p.tasks m)).up),.t (.i (atB d (aK d p.tasks m)).now),.t (.i (atB d (aK d p.tasks m)).since),.t (.i (atB d (aK d p.tasks m)).epoch),.t (.i (atB d (aK d p.tasks m)).given),.own [false] ((atB d (aK d p.tasks m)).log.safe.map ah),.own [false] ((atB d (aK d p.tasks m)).log.loose.map ah),.own [false] ((atB d (aK d p.tasks m)).results.map ah),.own dB ((atB d (aK d p.tasks m)).jobs.map aH),.own bw ((atB d (aK d p.tasks m)).seats.map aE),.own bx ((atB d (aK d p.tasks m)).owed.map aJ),.own cU ((aK d p.tasks m).out.map aL)])],[]⟩) (fun(m:Nat)=>m≤p.tasks.length) (fun(m:Nat)=>p.tasks.length - m) (0) [some 138,some 2,some 3,some 4,some 5] [] ⟨rfl,FZ,⟨(R7 Zac),FZ⟩,I⟩ OM ?_
 intro m hm
 obtain⟨k1,k2,k3,k4,k5,k6⟩:=mF (b:=d) (ts:=p.tasks) hdl u9 u10 m
 generalize hX:atB d (aK d p.tasks m) = X
 have x1:X.results = d.results:=by rw[←hX];rfl
 have x2:X.jobs = (aK d p.tasks m).jobs:=by rw[←hX];rfl
 have x3:X.seats = (aK d p.tasks m).seats:=by rw[←hX];rfl
 have x4:X.given = (aK d p.tasks m).given:=by rw[←hX];rfl
 have x5:X.epoch = d.epoch:=by rw[←hX];rfl
 have x6:X.now = d.now:=by rw[←hX];rfl
 have y1:X.results.length = p.tasks.length:=by rw[x1];exact u3
 have y2:X.jobs.length = p.tasks.length:=by rw[x2,k1];exact u4
 have y3:X.seats.length≤8:=by rw[x3,k2];exact u5
 by_cases hm2:m < p.tasks.length
 ·obtain⟨t,ht0⟩:=ae hm2
  obtain⟨y,hy0⟩:=ae (xs:=X.results) (n:=m) OM
  obtain⟨j,hj0⟩:=ae (xs:=X.jobs) (n:=m) OM
  obtain⟨_,_,a3,a4⟩:=cz hck ht0
  have crd:=jc p X.results (m:Int) OM (t:=t) (by rw[Int.toNat_natCast];exact ht0) (fun e he=>by have:=a4 e he;omega) OM
  have q1:∀ q:CanHand d p.tasks (aK d p.tasks m) m,y = emp:=fun q=>by have:=q.res;rw[←x1,kJ hy0]at this;exact this
  have q2:∀ q:CanHand d p.tasks (aK d p.tasks m) m,j.lease = 0:=fun q=>by have:=q.job;rw[←x2,MQ,hj0]at this;exact this
  have q3:∀ q:CanHand d p.tasks (aK d p.tasks m) m,dj X.results t.deps:=fun q=>by have:=q.ready;rw[←x1,eD ht0]at this;exact this
  cases hf:lU X.seats with
  |none =>
   have e:=qd (b:=d) (ts:=p.tasks) (n:=m) (by rw[←x3];exact hf)
   have cs:=Fh X OM hf
   conv=>whnf
   refine Ws<|g 13 17 []<|J UE<|Wc<|J (fun _=>(Wk (Ws (Wb (g 20 23 [.call (V.i (-1)) O1]<|J QZ (Ws (g 17 58 (RL 30 BT []) ?_))))))) (noF SI)
   conv=>whnf
   refine⟨⟨I,I,I,rfl,rfl,rfl,rfl,rfl,I,rfl,rfl,rfl,rfl,rfl,rfl,rfl,rfl,I,rfl,rfl,rfl,rfl,rfl,rfl,rfl,rfl,rfl,I,rfl,rfl,rfl,rfl,rfl,rfl,rfl,rfl,I⟩,?_⟩
   refine Wc<|Kr (We (rg [.i ((m:Int) +1)]<|J QZ ?_))
   refine⟨m+1,[some 138,some 2,some 3,some 4,some 5],[],⟨rfl,FZ,⟨(R7 Zac),⟨FZ,⟨FZ,⟨FZ,⟨⟨rfl,⟨(congrArg (fun z=>V.t (T.v (Value.int _ z))) (by rw[e,←hX])),⟨(congrArg (fun z=>V.t (T.v (Value.bool z))) (by rw[e,←hX])),⟨(congrArg (fun z=>V.t (T.v (Value.int _ z))) (by rw[e,←hX])),⟨(congrArg (fun z=>V.t (T.v (Value.int _ z))) (by rw[e,←hX])),⟨(congrArg (fun z=>V.t (T.v (Value.int _ z))) (by rw[e,←hX])),⟨(congrArg (fun z=>V.t (T.v (Value.int _ z))) (by rw[e,←hX])),⟨(congrArg (V.own _) (by rw[e,←hX])),⟨(congrArg (V.own _) (by rw[e,←hX])),⟨(congrArg (V.own _) (by rw[e,←hX])),⟨(congrArg (V.own _) (by rw[e,←hX])),⟨(congrArg (V.own _) (by rw[e,←hX])),⟨(congrArg (V.own _) (by rw[e,←hX])),⟨(congrArg (V.own _) SI),I⟩⟩⟩⟩⟩⟩⟩⟩⟩⟩⟩⟩⟩⟩,I⟩⟩⟩⟩⟩,I⟩,?_,?_⟩
   rotate_left
   (dsimp only;omega)
   dsimp only
   omega
  |some sx =>
   have cs:=Fg X OM hf
   obtain⟨x,hx0,hx1,hx2,hx3⟩:=qe hf
   by_cases hA:y = emp
   ·by_cases hB:j.lease = 0
    ·by_cases hF:dj X.results t.deps
     ·rw[decide_eq_true hF]at crd
      by_cases hG:X.given < 1000000
      ·have hc:CanHand d p.tasks (aK d p.tasks m) m:=⟨by rw[←x1,kJ hy0];exact hA,by rw[←x2,MQ,hj0];exact hB,by rw[←x1,eD ht0];exact hF,by rw[←x4];exact hG⟩
       have e:=qc hc (by rw[←x3];exact hf)
       have ej:(X.jobs.map aH).set m (aH ⟨(X.epoch - 1) * 1000000+ (X.given+1),(sx:Int) +1,X.now+12⟩) = (atB d (aK d p.tasks (m+1))).jobs.map aH:=by rw[e,←List.map_set,x2,x4,x5,x6];rfl
       have es:(X.seats.map aE).set sx (aE ⟨false,x.epoch⟩) = (atB d (aK d p.tasks (m+1))).seats.map aE:=by
        have e9:np (aK d p.tasks m).seats sx = x:=by rw[np,←x3,hx0];rfl
        rw[e,←List.map_set,x3,atB,lS,e9]
       have eo:(aK d p.tasks m).out.map aL++ [aL ⟨1,0,(sx:Int) +1,X.epoch,(X.epoch - 1) * 1000000+ (X.given+1),m,emp,ev X.results t.deps⟩] = (aK d p.tasks (m+1)).out.map aL:=by rw[e,lS,NG,eD ht0,List.map_append,x1,x4,x5];rfl
       have eg:X.given+1 = (atB d (aK d p.tasks (m+1))).given:=by rw[e,x4];rfl
       have e1:X.workers = (atB d (aK d p.tasks (m+1))).workers:=by rw[←hX];rfl
       have e2:X.up = (atB d (aK d p.tasks (m+1))).up:=by rw[←hX];rfl
       have e3:X.now = (atB d (aK d p.tasks (m+1))).now:=by rw[←hX];rfl
       have e4:X.since = (atB d (aK d p.tasks (m+1))).since:=by rw[←hX];rfl
       have e5:X.epoch = (atB d (aK d p.tasks (m+1))).epoch:=by rw[←hX];rfl
       have e6:X.log = (atB d (aK d p.tasks (m+1))).log:=by rw[←hX];rfl
       have e7:X.results = (atB d (aK d p.tasks (m+1))).results:=by rw[←hX];rfl
       have e8:X.owed = (atB d (aK d p.tasks (m+1))).owed:=by rw[←hX];rfl
       conv=>whnf
       refine Ws<|g 13 17 []<|J UE<|Wc<|J (fun _=>(Wk (Ws (Wb (g 20 23 [.call (V.i (sx:Int)) O1]<|J QZ (Ws (g 17 58 (RL 10 BF (.n (m)::BF::.x (ah y)::(RL 7 BF (.n (m)::BF::BF::.x (aH j)::(RL 8 BF [.call VT O3,BF,BF]))))) ?_))))))) (noF SI)
       conv=>whnf
       refine⟨⟨I,I,I,Zar,Zar,Zar,Zar,rfl,I,⟨dO,I⟩,⟨dO,I⟩,⟨dO,I⟩,⟨dO,I⟩,⟨dO,rfl,LN⟩,⟨dO,xA⟩,⟨dO,I⟩,dO,I,⟨nO,I⟩,⟨nO,I⟩,⟨nO,I⟩,⟨nO,I⟩,⟨nO,rfl,LN⟩,⟨nO,I⟩,⟨nO,xA⟩,⟨nO,I⟩,nO,I,⟨nO,I⟩,⟨nO,I⟩,⟨nO,I⟩,⟨nO,I⟩,⟨nO,I⟩,⟨nO,UC,I,UU,UA,AS⟩,⟨nO,I⟩,nO,I⟩,?_⟩
       refine Wc<|Jr<|Wk<|g 58 65 [.i (Boss.given X+1)]<|J QZ<|g 65 73 [.i (Boss.epoch X - 1),.i ((Boss.epoch X - 1) * 1000000),.i ((Boss.epoch X - 1) * 1000000+ (Boss.given X+1))]<|J QZ<|g 74 87 [.i ((sx:Int) +1),.i (Boss.now X+12),.n (m),.x (aH j)]<|J QZ<|g 87 93 [.n (sx),.x (aE x)]<|J QZ<|g 93 101 [.i ((sx:Int) +1)]<|J QZ<|Ws<|g 7 9 []<|J UA<|Wb<|Wl (fun s (k:Nat)=>⟨(SK s [0,1,2,3,4,5,6,9] [(10,.i k),(73,s.s 73)]),[(138,(CK s 138 0 12 [])),(2,(CK s 2 0 12 [])),(3,[s.c 3 0]),(4,(CK s 4 0 13 [])),(5,(CK s 5 0 13 [])),(9,[.t (.i 1),.t (.i 0),.t (.i ((sx:Int) +1)),.t (.i X.epoch),.t (.i ((X.epoch - 1) * 1000000+ (X.given+1))),.t (.i m),.t (.s emp),.own [false] ((ev X.results (t.deps.take k)).map ah)])],[]⟩) (fun(k:Nat)=>k≤t.deps.length) (fun(k:Nat)=>t.deps.length - k) (0) [some 138,some 2,some 3,some 4,some 5,some 9] [] ⟨rfl,FZ,⟨(R7 Zac),FZ⟩,I⟩ OM ?_
       intro k hk
       by_cases hk2:k < t.deps.length
       ·obtain⟨d0,hd0⟩:=ae hk2
        have hdr:=a4 d0 (List.mem_of_getElem? hd0)
        obtain⟨z,hz⟩:=ae (xs:=X.results) (n:=d0.toNat) OM
        have ez:(ev X.results (t.deps.take k)).map ah++ [ah z] = (ev X.results (t.deps.take (k+1))).map ah:=by rw[BP hd0 hz,List.map_append];rfl
        have hpk:=mY X.results (t.deps.take k)
        have htk:(t.deps.take k).length≤k:=by rw[List.length_take];omega
        conv=>whnf
        refine Ws<|g 101 109 [.x (ay t)]<|J QZ<|Wc<|J (fun _=>(Wk (Ws (Wb (rgd [[],[],[],[],[],[],[],[],[.x (ay t)],[],[],[],[.x (eA d0)],[],[.n (Int.toNat d0)],[.x (ah z)],[],[],[],[]] ?_))))) (noF SI)
        conv=>whnf
        refine⟨⟨I,I,I,I,I,I,I,I,Zaq,I,I,I,Zaq,I,Zas,xA,US,Zap,I,UA,I⟩,by kernel_rfl,?_⟩
        refine rg [.i ((k:Int) +1)]<|J QZ ?_
        refine⟨k+1,[some 138,some 2,some 3,some 4,some 5,some 9],[],⟨rfl,FZ,⟨(R7 Zac),⟨FZ,⟨FZ,⟨FZ,⟨FZ,⟨(R8 ⟨(congrArg (V.own _) (ez)),I⟩),I⟩⟩⟩⟩⟩⟩,I⟩,?_,?_⟩
        rotate_left
        (dsimp only;omega)
        dsimp only
        omega
       ·have ek:t.deps.take k = t.deps:=aI OM
        rw[←ek]at eo
        conv=>whnf
        refine Ws<|g 101 109 [.x (ay t)]<|J QZ<|Wc<|J (noT SI) fun _=>We<|rg []<|J QZ<|rg [.i ((m:Int) +1)]<|J QZ ?_
        refine⟨m+1,[some 138,some 2,some 3,some 4,some 5],[],⟨rfl,FZ,⟨(R7 Zac),⟨FZ,⟨FZ,⟨FZ,⟨⟨rfl,⟨(congrArg (fun z=>V.t (T.v (Value.int _ z))) (e1)),⟨(congrArg (fun z=>V.t (T.v (Value.bool z))) (e2)),⟨(congrArg (fun z=>V.t (T.v (Value.int _ z))) (e3)),⟨(congrArg (fun z=>V.t (T.v (Value.int _ z))) (e4)),⟨(congrArg (fun z=>V.t (T.v (Value.int _ z))) (e5)),⟨(congrArg (fun z=>V.t (T.v (Value.int _ z))) (eg)),⟨(congrArg (V.own _) (by rw[e6])),⟨(congrArg (V.own _) (by rw[e6])),⟨(congrArg (V.own _) (by rw[e7])),⟨(congrArg (V.own _) (ej)),⟨(congrArg (V.own _) (es)),⟨(congrArg (V.own _) (by rw[e8])),⟨(congrArg (V.own _) (eo)),I⟩⟩⟩⟩⟩⟩⟩⟩⟩⟩⟩⟩⟩⟩,I⟩⟩⟩⟩⟩,I⟩,?_,?_⟩
        rotate_left
        (dsimp only;omega)
        dsimp only
        omega
      ·have e:=jG (b:=d) (ts:=p.tasks) (fun q=>hG (by rw[x4];exact q.given))
       conv=>whnf
       refine Ws<|g 13 17 []<|J UE<|Wc<|J (fun _=>(Wk (Ws (Wb (g 20 23 [.call (V.i (sx:Int)) O1]<|J QZ (Ws (g 17 58 (BF::BF::BF::BF::BF::(RL 25 BT [])) ?_))))))) (noF SI)
       conv=>whnf
       refine⟨⟨I,I,I,Zar,Zar,Zar,Zar,rfl,I,tO,tO,tO,tO,tO,tO,tO,tO,I,rfl,rfl,rfl,rfl,rfl,rfl,rfl,rfl,rfl,I,rfl,rfl,rfl,rfl,rfl,rfl,rfl,rfl,I⟩,?_⟩
       refine Wc<|Kr (We (rg [.i ((m:Int) +1)]<|J QZ ?_))
       refine⟨m+1,[some 138,some 2,some 3,some 4,some 5],[],⟨rfl,FZ,⟨(R7 Zac),⟨FZ,⟨FZ,⟨FZ,⟨⟨rfl,⟨(congrArg (fun z=>V.t (T.v (Value.int _ z))) (by rw[e,←hX])),⟨(congrArg (fun z=>V.t (T.v (Value.bool z))) (by rw[e,←hX])),⟨(congrArg (fun z=>V.t (T.v (Value.int _ z))) (by rw[e,←hX])),⟨(congrArg (fun z=>V.t (T.v (Value.int _ z))) (by rw[e,←hX])),⟨(congrArg (fun z=>V.t (T.v (Value.int _ z))) (by rw[e,←hX])),⟨(congrArg (fun z=>V.t (T.v (Value.int _ z))) (by rw[e,←hX])),⟨(congrArg (V.own _) (by rw[e,←hX])),⟨(congrArg (V.own _) (by rw[e,←hX])),⟨(congrArg (V.own _) (by rw[e,←hX])),⟨(congrArg (V.own _) (by rw[e,←hX])),⟨(congrArg (V.own _) (by rw[e,←hX])),⟨(congrArg (V.own _) (by rw[e,←hX])),⟨(congrArg (V.own _) SI),I⟩⟩⟩⟩⟩⟩⟩⟩⟩⟩⟩⟩⟩⟩,I⟩⟩⟩⟩⟩,I⟩,?_,?_⟩
       rotate_left
       (dsimp only;omega)
       dsimp only
       omega
     ·rw[decide_eq_false hF]at crd
      have e:=jG (b:=d) (ts:=p.tasks) (fun q=>hF (q3 q))
      conv=>whnf
      refine Ws<|g 13 17 []<|J UE<|Wc<|J (fun _=>(Wk (Ws (Wb (g 20 23 [.call (V.i (sx:Int)) O1]<|J QZ (Ws ?_)))))) (noF SI)
      by_cases h1:(1000000:Int)≤Boss.given X
      refine g 17 58 (BF::BF::BF::BF::BF::(RL 25 BT [])) ?_
      conv=>whnf
      refine J QZ<|Wc<|Kr (We (rg [.i ((m:Int) +1)]<|J QZ ?_))
      rotate_left
      refine g 17 58 (RL 10 BF (.n (m)::BF::.x (ah y)::(RL 7 BF (.n (m)::BF::BF::.x (aH j)::(RL 8 BF [.call VF O3,BF,BF]))))) ?_
      conv=>whnf
      refine J QZ<|Wc<|Kr (We (rg [.i ((m:Int) +1)]<|J QZ ?_))
      rotate_left
      all_goals refine⟨m+1,[some 138,some 2,some 3,some 4,some 5],[],⟨rfl,FZ,⟨(R7 ⟨I,⟨I,⟨I,⟨I,⟨I,UA⟩⟩⟩⟩⟩),⟨FZ,⟨FZ,⟨FZ,⟨⟨rfl,⟨(congrArg (fun z=>V.t (T.v (Value.int _ z))) (by rw[e,←hX])),⟨(congrArg (fun z=>V.t (T.v (Value.bool z))) (by rw[e,←hX])),⟨(congrArg (fun z=>V.t (T.v (Value.int _ z))) (by rw[e,←hX])),⟨(congrArg (fun z=>V.t (T.v (Value.int _ z))) (by rw[e,←hX])),⟨(congrArg (fun z=>V.t (T.v (Value.int _ z))) (by rw[e,←hX])),⟨(congrArg (fun z=>V.t (T.v (Value.int _ z))) (by rw[e,←hX])),⟨(congrArg (V.own _) (by rw[e,←hX])),⟨(congrArg (V.own _) (by rw[e,←hX])),⟨(congrArg (V.own _) (by rw[e,←hX])),⟨(congrArg (V.own _) (by rw[e,←hX])),⟨(congrArg (V.own _) (by rw[e,←hX])),⟨(congrArg (V.own _) (by rw[e,←hX])),⟨(congrArg (V.own _) SI),I⟩⟩⟩⟩⟩⟩⟩⟩⟩⟩⟩⟩⟩⟩,I⟩⟩⟩⟩⟩,I⟩,?_,?_⟩
                rotate_left
                (dsimp only;omega)
                dsimp only
                omega
    ·have e:=jG (b:=d) (ts:=p.tasks) (fun q=>hB (q2 q))
     conv=>whnf
     refine Ws<|g 13 17 []<|J UE<|Wc<|J (fun _=>(Wk (Ws (Wb (g 20 23 [.call (V.i (sx:Int)) O1]<|J QZ (Ws ?_)))))) (noF SI)
     by_cases h1:(1000000:Int)≤Boss.given X
     refine g 17 58 (BF::BF::BF::BF::BF::(RL 25 BT [])) ?_
     conv=>whnf
     refine J QZ<|Wc<|Kr (We (rg [.i ((m:Int) +1)]<|J QZ ?_))
     rotate_left
     refine g 17 58 (RL 10 BF (.n (m)::BF::.x (ah y)::(RL 7 BF (.n (m)::BF::BF::.x (aH j)::BF::BF::(RL 8 BT []))))) ?_
     conv=>whnf
     refine J QZ<|Wc<|Kr (We (rg [.i ((m:Int) +1)]<|J QZ ?_))
     rotate_left
     all_goals refine⟨m+1,[some 138,some 2,some 3,some 4,some 5],[],⟨rfl,FZ,⟨(R7 ⟨I,⟨I,⟨I,⟨I,⟨I,UA⟩⟩⟩⟩⟩),⟨FZ,⟨FZ,⟨FZ,⟨⟨rfl,⟨(congrArg (fun z=>V.t (T.v (Value.int _ z))) (by rw[e,←hX])),⟨(congrArg (fun z=>V.t (T.v (Value.bool z))) (by rw[e,←hX])),⟨(congrArg (fun z=>V.t (T.v (Value.int _ z))) (by rw[e,←hX])),⟨(congrArg (fun z=>V.t (T.v (Value.int _ z))) (by rw[e,←hX])),⟨(congrArg (fun z=>V.t (T.v (Value.int _ z))) (by rw[e,←hX])),⟨(congrArg (fun z=>V.t (T.v (Value.int _ z))) (by rw[e,←hX])),⟨(congrArg (V.own _) (by rw[e,←hX])),⟨(congrArg (V.own _) (by rw[e,←hX])),⟨(congrArg (V.own _) (by rw[e,←hX])),⟨(congrArg (V.own _) (by rw[e,←hX])),⟨(congrArg (V.own _) (by rw[e,←hX])),⟨(congrArg (V.own _) (by rw[e,←hX])),⟨(congrArg (V.own _) SI),I⟩⟩⟩⟩⟩⟩⟩⟩⟩⟩⟩⟩⟩⟩,I⟩⟩⟩⟩⟩,I⟩,?_,?_⟩
               rotate_left
               (dsimp only;omega)
               dsimp only
               omega
   ·have e:=jG (b:=d) (ts:=p.tasks) (fun q=>hA (q1 q))
    conv=>whnf
    refine Ws<|g 13 17 []<|J UE<|Wc<|J (fun _=>(Wk (Ws (Wb (g 20 23 [.call (V.i (sx:Int)) O1]<|J QZ (Ws ?_)))))) (noF SI)
    by_cases h1:(1000000:Int)≤Boss.given X
    refine g 17 58 (BF::BF::BF::BF::BF::(RL 25 BT [])) ?_
    conv=>whnf
    refine J QZ<|Wc<|Kr (We (rg [.i ((m:Int) +1)]<|J QZ ?_))
    rotate_left
    refine g 17 58 (RL 10 BF (.n (m)::BF::.x (ah y)::BF::BF::(RL 17 BT []))) ?_
    conv=>whnf
    refine J QZ<|Wc<|Kr (We (rg [.i ((m:Int) +1)]<|J QZ ?_))
    rotate_left
    all_goals refine⟨m+1,[some 138,some 2,some 3,some 4,some 5],[],⟨rfl,FZ,⟨(R7 ⟨I,⟨I,⟨I,⟨I,⟨I,UA⟩⟩⟩⟩⟩),⟨FZ,⟨FZ,⟨FZ,⟨⟨rfl,⟨(congrArg (fun z=>V.t (T.v (Value.int _ z))) (by rw[e,←hX])),⟨(congrArg (fun z=>V.t (T.v (Value.bool z))) (by rw[e,←hX])),⟨(congrArg (fun z=>V.t (T.v (Value.int _ z))) (by rw[e,←hX])),⟨(congrArg (fun z=>V.t (T.v (Value.int _ z))) (by rw[e,←hX])),⟨(congrArg (fun z=>V.t (T.v (Value.int _ z))) (by rw[e,←hX])),⟨(congrArg (fun z=>V.t (T.v (Value.int _ z))) (by rw[e,←hX])),⟨(congrArg (V.own _) (by rw[e,←hX])),⟨(congrArg (V.own _) (by rw[e,←hX])),⟨(congrArg (V.own _) (by rw[e,←hX])),⟨(congrArg (V.own _) (by rw[e,←hX])),⟨(congrArg (V.own _) (by rw[e,←hX])),⟨(congrArg (V.own _) (by rw[e,←hX])),⟨(congrArg (V.own _) SI),I⟩⟩⟩⟩⟩⟩⟩⟩⟩⟩⟩⟩⟩⟩,I⟩⟩⟩⟩⟩,I⟩,?_,?_⟩
              rotate_left
              (dsimp only;omega)
              dsimp only
              omega
 obtain rfl:m = p.tasks.length:=by omega
 subst hX
 conv=>whnf
 refine Ws<|g 13 17 []<|J UE<|Wc<|J (noT SI) fun _=>We<|g 0 4 []<|J QZ<|RT ?_
 rfl
end Go.K
end
section
open Go Go.Tm Go.Proofs
namespace Go.K
theorem X6{b:Boss}{ts:List Task}{n:Nat}{j:Job}(h:iW b ts b.jobs.length)(hj:b.jobs[n]? = some j)(hz:j.lease = 0)(now:Int):gK (sK now) b.jobs n = gK (sK now) b.jobs (n+1):=by
 refine pZ hj ?_
 obtain⟨h1,h2⟩:=(h n j (List.getElem?_eq_some_iff.1 hj).1 hj).1 hz
 obtain⟨l,w,t⟩:=j
 simp only at hz h1 h2
 subst hz h1 h2
 unfold sK;split <;> rfl
theorem zy(b:Boss)(p:Plan)(hp:dD p)(h:BossLim b):F yA [.val (ge b),.val (cX p)] (Oz (qk b p)) O2:=by
 have cv:=pE b p hp h
 by_cases hv:BossOk b p
 ·rw[decide_eq_true hv]at cv
  rw[pG hv]
  have ct:=qS b h
  have hnow:=hv.now
  by_cases h0:b.now = 1000000
  ·rw[um h0]
   refine gC ?_
   conv=>whnf
   refine g 1 2 []<|J QZ<|Ws<|g 10 13 [.call VT O2]<|J QZ<|Wc<|Jr<|Wk<|g 13 17 [.call (aF b) O1]<|J QZ<|Ws<|g 17 19 []<|J UC<|Wc<|Kt (g 19 22 []<|J QZ (RT ?_))
   rfl
  ·by_cases hup:b.up = false
   ·rw[Bs h0 hup]
    refine gC ?_
    conv=>whnf
    refine g 1 2 []<|J QZ<|Ws<|g 10 13 [.call VT O2]<|J QZ<|Wc<|Jr<|Wk<|g 13 17 [.call (aF b) O1]<|J QZ<|Ws<|g 17 19 []<|J UC<|Wc<|Jf<|Wk<|g 19 26 [.i (b.now+1)]<|J QZ<|Ws ?_
    refine g 26 28 []<|J UC<|Wc<|J (fun _=>(g 28 31 []<|J QZ (RT ?_))) (noF (nbT AS))
    rfl
   ·have hup2:b.up = true:=by cases hb:b.up;exact absurd hb hup;rfl
    obtain⟨u1,u2,u3,u4,u5,u6,⟨u7,u8⟩,⟨u9,u10⟩,u11,u12,u13,u14⟩:=hv.up hup2
    have hck:=hv.plan
    have hpl:=(bX hck).1
    have hwk:=hv.workers
    obtain⟨he1,he2⟩:=fG hv.code
    change 0≤(cA b p).epoch at he1
    change (cA b p).epoch≤300 at he2
    have l1:=h.safe
    have l2:=h.loose
    have hin:HandIn (dL b) p.tasks:=⟨hck,u3,by show(b.jobs.map _).length = _;rw[List.length_map];exact u4,by show b.seats.length≤8;omega,⟨u2,by show b.epoch≤300;omega⟩,⟨u9,u10⟩,⟨by show 0≤b.now+1;omega,by show b.now+1≤1000000;omega⟩⟩
    have ch:F lI [.val (aF ⟨b.workers,b.up,b.now+1,b.since,b.epoch,b.given,b.log,b.results,gK (sK (b.now+1)) b.jobs b.jobs.length,b.seats,b.owed⟩),.val (cX p)] (Oz ⟨atB (dL b) (endH b p.tasks),(endH b p.tasks).out⟩) O2:=by
     rw[jE _ _ (Nat.le_refl _)];exact EI (dL b) p hin
    have hdl:∀ t∈p.tasks,t.deps.length≤8:=fun t ht=>by
     obtain⟨k,hk⟩:=List.getElem?_of_mem ht
     exact(cz hck hk).2.2.1
    have hho:=mF (b:=dL b) (ts:=p.tasks) hdl u9 u10 p.tasks.length
    have k3:(endH b p.tasks).out.length≤40:=by have:=hho.out;show(aK _ _ _).out.length≤40;omega
    generalize hX:atB (dL b) (endH b p.tasks) = X at ch
    have ch2:F lI [.val (aF ⟨b.workers,b.up,b.now+1,b.since,b.epoch,b.given,b.log,b.results,gK (sK (b.now+1)) b.jobs b.jobs.length,b.seats,b.owed⟩),.val (cX p)] (.agg [.t (.i X.workers),.t (.b X.up),.t (.i X.now),.t (.i X.since),.t (.i X.epoch),.t (.i X.given),.own [false] (X.log.safe.map ah),.own [false] (X.log.loose.map ah),.own [false] (X.results.map ah),.own dB (X.jobs.map aH),.own bw (X.seats.map aE),.own bx (X.owed.map aJ),.own cU ((endH b p.tasks).out.map aL)]) O2:=ch
    clear ch
    have x1:X.since = b.since:=by rw[←hX];rfl
    have x2:X.log = b.log:=by rw[←hX];rfl
    have x3:X.owed = b.owed:=by rw[←hX];rfl
    have cl:=nF X.log (by rw[x2];exact l1) (by rw[x2];exact l2)
    refine gC ?_
    conv=>whnf
    refine g 1 2 []<|J QZ<|Ws<|g 10 13 [.call VT O2]<|J QZ<|Wc<|Jr<|Wk<|g 13 17 [.call (aF b) O1]<|J QZ<|Ws<|g 17 19 []<|J UC<|Wc<|Jf<|Wk<|g 19 26 [.i (b.now+1)]<|J QZ<|Ws ?_
    refine g 26 28 []<|J UC<|Wc<|J (noT (nbF AS)) fun _=>Wk<|Ws<|g 28 29 []<|J UA<|Wb<|Wl (fun s (n:Nat)=>⟨(SK s [0,2,3,4,5] [(6,.i n)]),[(2,(CK s 2 0 12 [])),(3,[s.c 3 0]),(4,(CK s 4 0 13 [])),(5,[.t (.i b.workers),.t (.b b.up),.t (.i (b.now+1)),.t (.i b.since),.t (.i b.epoch),.t (.i b.given),.own [false] (b.log.safe.map ah),.own [false] (b.log.loose.map ah),.own [false] (b.results.map ah),.own dB ((gK (sK (b.now+1)) b.jobs n).map aH),.own bw (b.seats.map aE),.own bx (b.owed.map aJ)])],[]⟩) (fun(n:Nat)=>n≤b.jobs.length) (fun(n:Nat)=>b.jobs.length - n) (0) [some 2,some 3,some 4,some 5] [] FZ OM ?_
    intro n hn
    have hx:=jD (sK (b.now+1)) b.jobs n
    by_cases hj:n < b.jobs.length
    ·obtain⟨j,hj1⟩:=ae hj
     by_cases hz:j.lease = 0
     ·have e1:=X6 u12 hj1 hz (b.now+1)
      conv=>whnf
      refine Ws<|g 31 35 []<|J UE<|Wc<|J (fun _=>(Wk (Ws (Wb (gd 35 55 [[],[],[],[.n (n)],[],[.x (aH j)],[],[],[BF],[BF],[BF],[BF],[BF],[BF],[BF],[BF],[BF],[BF]] ?_))))) (noF (by simp_all))
      conv=>whnf
      refine⟨⟨I,I,I,Zao,I,bA AS,I,I,nO,nO,nO,nO,nO,nO,nO,nO,nO,nO,I⟩,by kernel_rfl,?_⟩
      refine Wc<|Jr<|Wk<|rg [.i ((n:Int) +1)]<|J QZ ?_
      refine⟨n+1,[some 2,some 3,some 4,some 5],[],⟨rfl,FZ,⟨FZ,⟨FZ,⟨FZ,⟨(R10 ⟨(congrArg (V.own _) (by rw[←e1])),FZ⟩),I⟩⟩⟩⟩,I⟩,?_,?_⟩
      rotate_left
      (dsimp only;omega)
      dsimp only
      omega
     ·by_cases hd:j.til≤b.now+1
      ·have e1:=PK hj1 hd
       conv=>whnf
       refine Ws<|g 31 35 []<|J UE<|Wc<|J (fun _=>(Wk (Ws (Wb (gd 35 55 [[],[],[],[.n (n)],[],[.x (aH j)],[],[],[BT],[BT],[BT],[BT,.n (n)],[BT],[BT,.x (aH j)],[BT],[BT],[BT],[BT]] ?_))))) (noF (by simp_all))
       conv=>whnf
       refine⟨⟨I,I,I,Zao,I,bA AS,I,I,Zaj,Zaj,Zaj,⟨gt OM,rfl,LN⟩,Zaj,⟨gt OM,bA AS⟩,Zaj,Zaj,Zaj,gt OM,I⟩,by kernel_rfl,?_⟩
       refine Wc<|Kt (rg [.n (n),.x (aH j)]<|J (QA @bA) (rg [.i ((n:Int) +1)]<|J QZ ?_))
       refine⟨n+1,[some 2,some 3,some 4,some 5],[],⟨rfl,FZ,⟨FZ,⟨FZ,⟨FZ,⟨(R10 ⟨(congrArg (V.own _) (e1)),FZ⟩),I⟩⟩⟩⟩,I⟩,?_,?_⟩
       rotate_left
       (dsimp only;omega)
       dsimp only
       omega
      ·have e1:=Wj hj1 hd
       conv=>whnf
       refine Ws<|g 31 35 []<|J UE<|Wc<|J (fun _=>(Wk (Ws (Wb (gd 35 55 [[],[],[],[.n (n)],[],[.x (aH j)],[],[],[BT],[BT],[BT],[BT,.n (n)],[BT],[BT,.x (aH j)],[BT],[BT],[BT],[BT]] ?_))))) (noF (by simp_all))
       conv=>whnf
       refine⟨⟨I,I,I,Zao,I,bA AS,I,I,Zaj,Zaj,Zaj,⟨gt OM,rfl,LN⟩,Zaj,⟨gt OM,bA AS⟩,Zaj,Zaj,Zaj,gt OM,I⟩,by kernel_rfl,?_⟩
       refine Wc<|Jf<|Wk<|rg [.i ((n:Int) +1)]<|J QZ ?_
       refine⟨n+1,[some 2,some 3,some 4,some 5],[],⟨rfl,FZ,⟨FZ,⟨FZ,⟨FZ,⟨(R10 ⟨(congrArg (V.own _) (by rw[←e1])),FZ⟩),I⟩⟩⟩⟩,I⟩,?_,?_⟩
       rotate_left
       (dsimp only;omega)
       dsimp only
       omega
    obtain rfl:n = b.jobs.length:=by omega
    have x4:X.epoch = b.epoch:=by rw[←hX];rfl
    have x5:X.owed.length≤2000:=by rw[x3];exact u11
    by_cases hs:b.since+1 = 2
    ·rw[nL h0 hup hs]
     conv=>whnf
     refine Ws<|g 31 35 []<|J UE<|Wc<|J (noT (by simp_all)) fun _=>We<|g 35 64 [.call (V.agg [V.t (T.i (Boss.workers X)),V.t (T.b (Boss.up X)),V.t (T.i (Boss.now X)),V.t (T.i (Boss.since X)),V.t (T.i (Boss.epoch X)),V.t (T.i (Boss.given X)),V.own [false] (List.map ah (Log.safe (Boss.log X))),V.own [false] (List.map ah (Log.loose (Boss.log X))),V.own [false] (List.map ah (Boss.results X)),V.own dB (List.map aH (Boss.jobs X)),V.own bw (List.map aE (Boss.seats X)),V.own bx (List.map aJ (Boss.owed X)),V.own cU (List.map aL (Hand.out (endH b p.tasks)))]) O2]<|J QZ<|g 64 70 [.i (Boss.since X+1)]<|J QZ<|Ws<|g 70 73 []<|J UD<|Wc<|Jf<|Wk<|g 5 7 []<|J QZ<|g 75 84 [.call (V.own [false] (List.map ah (Log.safe (Boss.log X) ++Log.loose (Boss.log X)))) O1]<|J QZ ?_
     refine Ws<|g 0 0 []<|J UA<|Wb<|Wl (fun s (n:Nat)=>⟨(SK s [0,2,3,4,7] [(8,.i n),(73,s.s 73)]),[(2,(CK s 2 0 12 [])),(3,[s.c 3 0]),(4,(CK s 4 0 13 [])),(7,[.t (.i X.workers),.t (.b X.up),.t (.i X.now),.t (.i 0),.t (.i X.epoch),.t (.i X.given),.own [false] ((X.log.safe++X.log.loose).map ah),.own [false] [],.own [false] (X.results.map ah),.own dB (X.jobs.map aH),.own bw (X.seats.map aE),.own bx (X.owed.map aJ),.own cU (((endH b p.tasks).out++ (X.owed.take n).map (og X.epoch)).map aL)])],[]⟩) (fun(n:Nat)=>n≤X.owed.length) (fun(n:Nat)=>X.owed.length - n) (0) [some 2,some 3,some 4,some 7] [] ⟨rfl,FZ,⟨FZ,⟨FZ,⟨FZ,⟨(R13 ⟨(congrArg (V.own _) (by rw[List.take_zero,List.map_nil,List.append_nil])),I⟩),I⟩⟩⟩⟩,I⟩ OM ?_
     intro n hn3
     by_cases hn2:n < X.owed.length
     ·obtain⟨o,ho⟩:=ae hn2
      have eo:=xF (out:=(endH b p.tasks).out) (ep:=X.epoch) ho
      conv=>whnf
      refine Ws<|g 84 89 []<|J UF<|Wc<|J (fun _=>(Wk (Ws (Wb (g 89 98 [.n (n),.x (aJ o)]<|J QZ (rg []<|J QZ (rg [.i ((n:Int) +1)]<|J QZ ?_))))))) (noF (by simp_all))
      refine⟨n+1,[some 2,some 3,some 4,some 7],[],⟨rfl,FZ,⟨FZ,⟨FZ,⟨FZ,⟨(R13 ⟨(congrArg (V.own _) (eo)),I⟩),I⟩⟩⟩⟩,I⟩,?_,?_⟩
      rotate_left
      (dsimp only;omega)
      dsimp only
      omega
     ·have et:X.owed.take n = X.owed:=aI OM
      conv=>whnf
      refine Ws<|g 84 89 []<|J UF<|Wc<|J (noT (by simp_all)) fun _=>We<|g 89 114 []<|J UW<|g 0 4 []<|J QZ<|RT ?_
      rw[et]
      subst hX
      rfl
    ·rw[pN h0 hup hs]
     conv=>whnf
     refine Ws<|g 31 35 []<|J UE<|Wc<|J (noT (by simp_all)) fun _=>We<|g 35 64 [.call (V.agg [V.t (T.i (Boss.workers X)),V.t (T.b (Boss.up X)),V.t (T.i (Boss.now X)),V.t (T.i (Boss.since X)),V.t (T.i (Boss.epoch X)),V.t (T.i (Boss.given X)),V.own [false] (List.map ah (Log.safe (Boss.log X))),V.own [false] (List.map ah (Log.loose (Boss.log X))),V.own [false] (List.map ah (Boss.results X)),V.own dB (List.map aH (Boss.jobs X)),V.own bw (List.map aE (Boss.seats X)),V.own bx (List.map aJ (Boss.owed X)),V.own cU (List.map aL (Hand.out (endH b p.tasks)))]) O2]<|J QZ<|g 64 70 [.i (Boss.since X+1)]<|J QZ<|Ws<|g 70 73 []<|J UD<|Wc<|Kt (g 5 7 []<|J QZ (RT ?_))
     subst hX
     rfl
 ·rw[decide_eq_false hv]at cv
  rw[CZ hv]
  refine gC ?_
  conv=>whnf
  refine g 1 2 []<|J QZ<|Ws<|g 10 13 [.call VF O2]<|J QZ<|Wc<|Kr (g 13 15 []<|J QZ (RT ?_))
  rfl
end Go.K
end
section
open Go Go.Tm Go.Proofs
namespace Go.K
structure LedSmall (x:Led):Prop where
 boss:BossSmall x.boss
 out:x.out.length≤2097152
 inp:∀ m∈x.out,m.inputs.length≤8
theorem JC:LedSmall IC:=⟨uu,Nat.zero_le _,fun m hm=>by cases hm⟩
theorem yk{b:Boss}(p:Plan)(h:BossLim b):LedSmall (qk b p):=by
 unfold qk;split
 ·rename_i hv
  have hs:=wZ h
  unfold iH;split
  ·exact⟨hs,Nat.zero_le _,fun m hm=>by cases hm⟩
  ·split
   ·exact⟨⟨hs.1,hs.2,hs.3,hs.4,hs.5,hs.6⟩,Nat.zero_le _,fun m hm=>by cases hm⟩
   ·rename_i hup
    have hup2:b.up = true:=by cases hb:b.up;exact absurd hb hup;rfl
    obtain⟨u1,u2,u3,u4,u5,u6,⟨u7,u8⟩,⟨u9,u10⟩,u11,u12,u13,u14⟩:=hv.up hup2
    have hck:=hv.plan
    have hpl:=(bX hck).1
    have hdl:∀ t∈p.tasks,t.deps.length≤8:=fun t ht=>by
     obtain⟨k,hk⟩:=List.getElem?_of_mem ht
     exact(cz hck hk).2.2.1
    obtain⟨k1,k2,k3,k4,k5,k6⟩:=mF (b:=dL b) (ts:=p.tasks) hdl u9 u10 p.tasks.length
    have k7:(dL b).jobs.length = b.jobs.length:=by show(b.jobs.map _).length = _;rw[List.length_map]
    have k8:(dL b).seats.length = b.seats.length:=rfl
    have g1:=h.safe
    have g2:=h.loose
    have g3:=h.seats
    have g4:=h.res
    have j1:(endH b p.tasks).jobs.length≤4194304:=by show(aK _ _ _).jobs.length≤_;omega
    have j2:(endH b p.tasks).seats.length≤4194304:=by show(aK _ _ _).seats.length≤_;omega
    have j3:(endH b p.tasks).out.length≤40:=by show(aK _ _ _).out.length≤_;omega
    split
    ·refine⟨⟨?_,Nat.zero_le _,by show b.results.length≤_;omega,j1,j2,Nat.zero_le _⟩,?_,?_⟩
     ·simp only[List.length_append];omega
     ·simp only[List.length_append,List.length_map];omega
     ·intro m hm
      rcases List.mem_append.1 hm with hm|hm
      ·exact k6 m hm
      ·obtain⟨o,_,rfl⟩:=List.mem_map.1 hm
       exact Nat.zero_le _
    ·exact⟨⟨by show b.log.safe.length≤_;omega,by show b.log.loose.length≤_;omega,by show b.results.length≤_;omega,j1,j2,by show b.owed.length≤_;omega⟩,by show(endH b p.tasks).out.length≤_;omega,k6⟩
 ·exact JC
end Go.K
end
section
open Go Go.Tm Go.Proofs
namespace Go.K
structure JL (ep now given workers:Int) (rs:List ByteArray) (ts:List Task) (js:List Job):Prop where
 zero:∀ (i:Nat) (j:Job),js[i]? = some j→j.lease = 0→j.worker = 0∧j.til = 0
 lease:∀ (i:Nat) (j:Job),js[i]? = some j→¬j.lease = 0→(ep - 1) * 1000000+1≤j.lease∧j.lease≤(ep - 1) * 1000000+given
 worker:∀ (i:Nat) (j:Job),js[i]? = some j→¬j.lease = 0→1≤j.worker∧j.worker≤workers
 til:∀ (i:Nat) (j:Job),js[i]? = some j→¬j.lease = 0→now+1≤j.til∧j.til≤now+12
 res:∀ (i:Nat) (j:Job),js[i]? = some j→¬j.lease = 0→atS rs (i:Int) = emp
 ready:∀ (i:Nat) (j:Job),js[i]? = some j→¬j.lease = 0→dj rs (oI ts i)
 once:∀ (i k:Nat) (j l:Job),i < k→js[i]? = some j→js[k]? = some l→¬l.lease = 0→¬j.lease = l.lease
theorem IJ{b:Boss}{ts:List Task}(h:iW b ts b.jobs.length):JL b.epoch b.now b.given b.workers b.results ts b.jobs:=by
 have hl:∀ {i:Nat} {j:Job},b.jobs[i]? = some j→i < b.jobs.length:=fun hj=>(List.getElem?_eq_some_iff.1 hj).1
 refine⟨fun i j hj hz=>(h i j (hl hj) hj).1 hz,fun i j hj hz=>((h i j (hl hj) hj).2 hz).lease,fun i j hj hz=>((h i j (hl hj) hj).2 hz).worker,fun i j hj hz=>((h i j (hl hj) hj).2 hz).til,fun i j hj hz=>((h i j (hl hj) hj).2 hz).res,fun i j hj hz=>((h i j (hl hj) hj).2 hz).ready,fun i k j l hik hj hk hz e=>?_⟩
 refine((h k l (hl hk) hk).2 hz).once (List.mem_map.2 ⟨j,?_,e⟩)
 exact List.mem_of_getElem? (i:=i) (by rw[List.getElem?_take];rw[if_pos hik];exact hj)
theorem Fz{b:Boss}{ts:List Task}(h:JL b.epoch b.now b.given b.workers b.results ts b.jobs):iW b ts b.jobs.length:=by
 intro i j _ hj
 refine⟨h.zero i j hj,fun hz=>⟨h.lease i j hj hz,h.worker i j hj hz,h.til i j hj hz,h.res i j hj hz,h.ready i j hj hz,fun hm=>?_⟩⟩
 obtain⟨l,hl,e⟩:=List.mem_map.1 hm
 obtain⟨k,hk⟩:=List.getElem?_of_mem hl
 rw[List.getElem?_take]at hk
 split at hk
 ·rename_i hki
  exact h.once k i l j hki hk hj hz e
 ·cases hk
theorem NM{ep now now' given workers:Int}{rs:List ByteArray}{ts:List Task}{js:List Job}{f:Job→Job}(h:JL ep now given workers rs ts js)(hf:∀ j,f j = fA∨(f j).lease = j.lease∧(f j).worker = j.worker∧(j.lease = 0→f j = j)∧(¬j.lease = 0→(now+1≤j.til∧j.til≤now+12)→now'+1≤(f j).til∧(f j).til≤now'+12)):JL ep now' given workers rs ts (js.map f):=by
 have g:∀ {i:Nat} {x:Job},(js.map f)[i]? = some x→∃ j,js[i]? = some j∧f j = x:=fun{i x} hx=>by
  rw[List.getElem?_map]at hx
  cases hj:js[i]? with
  |none=>rw[hj]at hx;cases hx
  |some j=>rw[hj]at hx;exact⟨j,rfl,Option.some.inj hx⟩
 have k:∀ {i:Nat} {x:Job},(js.map f)[i]? = some x→¬x.lease = 0→∃ j,js[i]? = some j∧f j = x∧x.lease = j.lease∧x.worker = j.worker∧¬j.lease = 0∧now'+1≤x.til∧x.til≤now'+12:=fun{i x} hx hz=>by
  obtain⟨j,hj,e⟩:=g hx
  rcases hf j with q|⟨q1,q2,_,q3⟩
  ·rw[e]at q;rw[q]at hz;exact absurd rfl hz
  ·rw[e]at q1 q2 q3
   have hz':¬j.lease = 0:=fun w=>hz (by rw[q1];exact w)
   exact⟨j,hj,e,q1,q2,hz',q3 hz' (h.til i j hj hz')⟩
 refine⟨fun i x hx hz=>?_,fun i x hx hz=>?_,fun i x hx hz=>?_,fun i x hx hz=>?_,fun i x hx hz=>?_,fun i x hx hz=>?_,fun i m x y him hx hy hz e=>?_⟩
 ·obtain⟨j,hj,e⟩:=g hx
  rcases hf j with q|⟨q1,q2,q4,q3⟩
  ·rw[←e,q];exact⟨rfl,rfl⟩
  ·have hz':j.lease = 0:=by rw[←q1,e];exact hz
   rw[←e,q4 hz'];exact h.zero i j hj hz'
 ·obtain⟨j,hj,e,q1,q2,hz',t⟩:=k hx hz;rw[q1];exact h.lease i j hj hz'
 ·obtain⟨j,hj,e,q1,q2,hz',t⟩:=k hx hz;rw[q2];exact h.worker i j hj hz'
 ·obtain⟨j,hj,e,q1,q2,hz',t⟩:=k hx hz;exact t
 ·obtain⟨j,hj,e,q1,q2,hz',t⟩:=k hx hz;exact h.res i j hj hz'
 ·obtain⟨j,hj,e,q1,q2,hz',t⟩:=k hx hz;exact h.ready i j hj hz'
 ·obtain⟨l,hl,_,q1,_,hz',_⟩:=k hy hz
  have hzx:¬x.lease = 0:=fun w=>hz (by rw[←e];exact w)
  obtain⟨j,hj,_,p1,_,_,_⟩:=k hx hzx
  exact h.once i m j l him hj hl hz' (by rw[←p1,←q1];exact e)
theorem ZQ{ep now given workers:Int}{rs:List ByteArray}{ts:List Task}{js:List Job}(h:JL ep now given workers rs ts js):JL ep (now+1) given workers rs ts (js.map (sK (now+1))):=by
 refine NM h fun j=>?_
 unfold sK
 split
 ·exact .inl rfl
 ·rename_i hd
  exact .inr ⟨rfl,rfl,fun _=>rfl,fun _ q=>⟨by omega,by omega⟩⟩
theorem XU{ep now given workers w:Int}{rs:List ByteArray}{ts:List Task}{js:List Job}(h:JL ep now given workers rs ts js):JL ep now given workers rs ts (js.map fun j=>if j.worker = w then fA else j):=by
 refine NM h fun j=>?_
 split
 ·exact .inl rfl
 ·exact .inr ⟨rfl,rfl,fun _=>rfl,fun _ q=>q⟩
theorem XV{ep now given workers l:Int}{rs:List ByteArray}{ts:List Task}{js:List Job}(hl:1≤l)(h:JL ep now given workers rs ts js):JL ep now given workers rs ts (js.map fun j=>if j.lease = l then⟨j.lease,j.worker,now+12⟩else j):=by
 refine NM h fun j=>?_
 split
 ·rename_i e
  exact .inr ⟨rfl,rfl,fun z=>absurd z OM,fun _ q=>⟨by dsimp only;omega,by dsimp only;omega⟩⟩
 ·exact .inr ⟨rfl,rfl,fun _=>rfl,fun _ q=>q⟩
theorem ZO{ep now given workers s:Int}{rs:List ByteArray}{ts:List Task}{js:List Job}{n:Nat}{j0:Job}(h:JL ep now given workers rs ts js)(hj:js[n]? = some j0)(hg:0≤given)(hs:0≤s∧s < workers)(hr:atS rs (n:Int) = emp)(hd:dj rs (oI ts n))(he:1≤ep):JL ep now (given+1) workers rs ts (js.set n ⟨(ep - 1) * 1000000+ (given+1),s+1,now+12⟩):=by
 have hn:=(List.getElem?_eq_some_iff.1 hj).1
 have g:∀ {i:Nat} {x:Job},(js.set n ⟨(ep - 1) * 1000000+ (given+1),s+1,now+12⟩)[i]? = some x→(i = n∧x = ⟨(ep - 1) * 1000000+ (given+1),s+1,now+12⟩)∨(¬i = n∧js[i]? = some x):=fun{i x} hx=>by
  by_cases e:i = n
  ·subst e
   rw[List.getElem?_set_self hn]at hx
   exact .inl ⟨rfl,(Option.some.inj hx).symm⟩
  ·rw[List.getElem?_set_ne (fun q=>e q.symm)]at hx
   exact .inr ⟨e,hx⟩
 refine⟨fun i x hx hz=>?_,fun i x hx hz=>?_,fun i x hx hz=>?_,fun i x hx hz=>?_,fun i x hx hz=>?_,fun i x hx hz=>?_,fun i m x y him hx hy hz e=>?_⟩
 ·rcases g hx with⟨_,rfl⟩|⟨_,q⟩
  ·dsimp only at hz;omega
  ·exact h.zero i x q hz
 ·rcases g hx with⟨_,rfl⟩|⟨_,q⟩
  ·exact⟨by dsimp only;omega,by dsimp only;omega⟩
  ·have:=h.lease i x q hz;exact⟨by omega,by omega⟩
 ·rcases g hx with⟨_,rfl⟩|⟨_,q⟩
  ·exact⟨by dsimp only;omega,by dsimp only;omega⟩
  ·exact h.worker i x q hz
 ·rcases g hx with⟨_,rfl⟩|⟨_,q⟩
  ·exact⟨by dsimp only;omega,by dsimp only;omega⟩
  ·exact h.til i x q hz
 ·rcases g hx with⟨rfl,rfl⟩|⟨_,q⟩
  ·exact hr
  ·exact h.res i x q hz
 ·rcases g hx with⟨rfl,rfl⟩|⟨_,q⟩
  ·exact hd
  ·exact h.ready i x q hz
 ·rcases g hx with⟨a,rfl⟩|⟨a,qx⟩
  ·rcases g hy with⟨b,rfl⟩|⟨_,qy⟩
   ·omega
   ·have:=(h.lease m y qy hz).2;dsimp only at e;omega
  ·rcases g hy with⟨_,rfl⟩|⟨_,qy⟩
   ·have hx0:¬x.lease = 0:=fun w=>by dsimp only at e;omega
    have:=(h.lease i x qx hx0).2;dsimp only at e;omega
   ·exact h.once i m x y him qx qy hz e
end Go.K
end
section
open Go Go.Tm Go.Proofs
namespace Go.K
theorem TJ(l:List Int)(pos:Int)(hl:dM l)(h0:0≤pos)(h1:pos≤1000000):∃ res outs,(∃ k ep ta tx pos2,res = i7 k ep ta tx∧outs = [rdC l pos2]∧Entry.ok ⟨k,ep,ta,tx⟩∧tx.size≤8∧pos≤pos2∧pos2≤pos+10)∧F lK [.ptr (rdC l pos)] res outs:=by
 have p0:=ak l pos 3
 have p1:=ak l (pos+1) 4
 have p2:=ak l (pos+1) 3
 have p3:=ak l (pos+1+1) 4
 obtain⟨xe,hxe1,hxe2⟩:=cZ [1,2,256,300] (ac l (pos+1) 4) p1.1 (by show _ < (4:Int);omega)
 have hxe3:([[T.i 1],[T.i 2],[T.i 256],[T.i 300]]:List (List T))[(ac l (pos+1) 4).toNat]? = some [T.i xe]:=hxe2
 obtain⟨xt,hxt1,hxt2⟩:=cZ [0,1,2,39] (ac l (pos+1+1) 4) p3.1 (by show _ < (4:Int);omega)
 have hxt3:([[T.i 0],[T.i 1],[T.i 2],[T.i 39]]:List (List T))[(ac l (pos+1+1) 4).toNat]? = some [T.i xt]:=hxt2
 have be:1≤xe∧xe≤300:=by simp only[List.mem_cons,List.not_mem_nil,or_false]at hxe1;omega
 have bt:0≤xt∧xt≤39:=by simp only[List.mem_cons,List.not_mem_nil,or_false]at hxt1;omega
 by_cases h3:ac l pos 3 = 0
 ·refine ql ?_
  conv=>whnf
  refine g 0 0 []<|J UA<|Ws<|g 4 5 [.call (V.i (ac l pos 3)) ([rdC l (pos+1),[]])]<|J (QA @aa)<|Wc<|Kt (g 5 12 [.call (V.i (ac l (pos+1) 4)) ([rdC l (pos+1+1),[]]),.n (Int.toNat (ac l (pos+1) 4)),.x ([T.i xe])]<|J (QA @aa) (W.ret (EndsW.rt<|J UE ?_)))
  exact⟨1,xe,0,emp,_,rfl,rfl,⟨be,⟨Int.le_refl _,by dsimp only;omega⟩,.inl ⟨rfl,rfl,rfl⟩⟩,Nat.zero_le 8,by omega,by omega⟩
 ·refine ql ?_
  conv=>whnf
  refine g 0 0 []<|J UA<|Ws<|g 4 5 [.call (V.i (ac l pos 3)) ([rdC l (pos+1),[]])]<|J (QA @aa)<|Wc<|Jf<|Wk<|gd 3 23 [[],[.call (V.i (ac l (pos+1) 3)) ([rdC l (pos+1+1),[]])],[.i (1+ac l (pos+1) 3)],[],[],[.call (V.i (ac l (pos+1+1) 4)) ([rdC l (pos+1+1+1),[]])],[.n (Int.toNat (ac l (pos+1+1) 4))],[.x ([T.i xt])],[],[.call (V.s (qp (dS (ac l (pos+1+1+1) 50)))) ([rdC l (pos+1+1+1+1)])],[],[]] ?_
  conv=>whnf
  refine J (QB @aa @dZ)<|J KR<|W.ret<|EndsW.rt<|J UE ?_
  exact⟨2,1+ac l (pos+1) 3,xt,qp (dS (ac l (pos+1+1+1) 50)),_,rfl,rfl,⟨⟨by dsimp only;omega,by dsimp only;omega⟩,bt,.inr ⟨rfl,by dsimp only;rw[ef];rfl⟩⟩,by rw[ef];omega,by omega,by omega⟩
theorem xw(l:List Int)(pos:Int)(h:dM l∧0≤pos∧pos≤1000000):∃ x:Entry×Int,F lK [.ptr (rdC l pos)] (i7 x.1.kind x.1.epoch x.1.task x.1.text) [rdC l x.2]∧Entry.ok x.1∧x.1.text.size≤8∧pos≤x.2∧x.2≤pos+10:=by
 obtain⟨res,outs,⟨k,ep,ta,tx,pos2,rfl,rfl,h1,h2,h3,h4⟩,hF⟩:=TJ l pos h.1 h.2.1 h.2.2
 exact⟨(⟨k,ep,ta,tx⟩,pos2),hF,h1,h2,h3,h4⟩
open Classical in
noncomputable def gx(l:List Int)(pos:Int):Entry×Int:=if h:dM l∧0≤pos∧pos≤1000000 then(xw l pos h).choose else(⟨1,1,0,emp⟩,pos)
theorem qZ(l:List Int)(pos:Int)(hl:dM l)(h0:0≤pos)(h1:pos≤1000000):F lK [.ptr (rdC l pos)] (i7 (gx l pos).1.kind (gx l pos).1.epoch (gx l pos).1.task (gx l pos).1.text) [rdC l (gx l pos).2]:=by
 have h:dM l∧0≤pos∧pos≤1000000:=⟨hl,h0,h1⟩
 rw[gx,dif_pos h]
 exact(xw l pos h).choose_spec.1
theorem Lq(l:List Int)(pos:Int):Entry.ok (gx l pos).1∧(gx l pos).1.text.size≤8∧pos≤(gx l pos).2∧(gx l pos).2≤pos+10:=by
 unfold gx
 split
 ·rename_i h;exact(xw l pos h).choose_spec.2
 ·exact⟨⟨⟨by dsimp only;omega,by dsimp only;omega⟩,⟨Int.le_refl _,by dsimp only;omega⟩,.inl ⟨rfl,rfl,rfl⟩⟩,Nat.zero_le 8,Int.le_refl _,by dsimp only;omega⟩
end Go.K
end
section
open Go Go.Tm Go.Proofs
namespace Go.K
theorem iZ(e:Entry):(bW e).size≤4+e.text.size:=by
 unfold bW
 split
 ·rw[ByteArray.size_append,gZ];exact Nat.le_refl _
 ·exact Nat.zero_le _
end Go.K
end
section
open Go Go.Tm Go.Proofs
namespace Go.K
theorem Un{n:Nat}{t:TypeId}{zc:List V}{b:Nat}(ht:E.ty t = some ⟨.int .u8,zc,b⟩){xs:List (List T)}(h:∀ y∈xs,wfT E (n+1) t y):∃ l:List Int,xs = l.map b1T∧∀ x∈l,0≤x∧x≤255 :=
 nx (f:=b1T) (p:=fun x=>0≤x∧x≤255) fun y hy=>by
  have h1:=h y hy
  simp only[wfT,ht]at h1
  obtain⟨m,hm,h2,h3⟩:=h1
  exact⟨m,hm,h2,h3⟩
end Go.K
end
section
open Go Go.Tm Go.Proofs
namespace Go.K
theorem To(xs:List ByteArray)(y:ByteArray):xs.map ah++ [ah y] = (xs++ [y]).map ah:=by rw[List.map_append];rfl
theorem uG(xs:List ByteArray)(y:ByteArray):(xs++ [y]).length = xs.length+1:=by rw[List.length_append];rfl
theorem C2{n:Nat}{xs:List ByteArray}{y:ByteArray}(h:∀ s∈xs,s.size≤n)(hy:y.size≤n):∀ s∈xs++ [y],s.size≤n:=by
 intro s hs
 rcases List.mem_append.1 hs with hs|hs
 ·exact h s hs
 ·rw[List.mem_singleton.1 hs];exact hy
end Go.K
end
section
open Go Go.Tm Go.Proofs
namespace Go.K
structure RepOk (p:Plan) (xs:List ByteArray):Prop where
 plan:kR p
 len:xs.length≤400
 size:∀ s∈xs,s.size≤64
end Go.K
end
section
open Go Go.Tm Go.Proofs
namespace Go.K
theorem Wp{hs:List Int}{r:ByteArray}{k:Nat}{x:Int}(hk:hs[k]? = some x)(hx:0≤x∧x≤255):byt (bl hs++r) k = x:=by
 obtain⟨⟨l⟩⟩:=r
 have e:bl hs++ ⟨⟨l⟩⟩ = ⟨⟨(hs.map fun n=>UInt8.ofNat n.toNat) ++l⟩⟩:=by
  apply ByteArray.ext
  rw[ByteArray.data_append]
  apply Array.ext'
  simp[bl]
 have h1:((hs.map fun n=>UInt8.ofNat n.toNat) ++l)[k]? = some (UInt8.ofNat x.toNat):=by
  rw[List.getElem?_append_left (by rw[List.length_map];exact(List.getElem?_eq_some_iff.1 hk).1),List.getElem?_map,hk];rfl
 rw[e,wP h1]
 simp;omega
theorem uN(a r:ByteArray):(a++r).extract a.size (a++r).size = r:=by
 have e:a.extract a.size (a.size+r.size) = emp:=ByteArray.size_eq_zero_iff.1 (by rw[ByteArray.size_extract];omega)
 rw[ByteArray.size_append,ByteArray.extract_append,e,Na]
 simp
end Go.K
end
section
open Go Go.Tm Go.Proofs
namespace Go.K
attribute [local irreducible] ByteArray.extract
theorem KK{s key:ByteArray}{m:Message}(h:eO s key = some m):bN m:=by
 unfold eO at h
 by_cases h0:s.size < 19
 ·rw[if_pos (Or.inl h0)]at h;cases h
 ·by_cases h1:dY (rdM (s.extract 8 s.size)) key = s
  ·rw[if_neg (by rintro(h|h);exact h0 h;exact h h1)]at h
   cases h
   exact((nz h0).1 h1).1
  ·rw[if_pos (Or.inr h1)]at h;cases h
end Go.K
end
section
open Go Go.Tm Go.Proofs
namespace Go.K
attribute [local irreducible] ByteArray.extract
theorem HF(xs ys:List ByteArray)(hl:xs.length≤9223372036854775806):F tQ [.val (.t (pp xs)),.val (.t (pp ys))] (.b (decide (xs = ys))) O2:=by
 refine Hn ?_
 conv=>whnf
 refine g 0 0 []<|J UA<|Ws<|g 6 10 []<|J UE<|Wc<|JN (fun h1=>?_) fun h1=>?_
 simp only[LM]at h1
 refine g 10 11 []<|J UA<|RT ?_
 rotate_left
 simp only[LM]at h1
 refine Wk<|Ws<|g 10 11 []<|J UA<|Wb ?_
 rotate_left
 ·exact vbf (fun e=>h1 (by rw[e]))
 refine Wl (fun s (n:Nat)=>⟨[(0,s.s 0),(1,s.s 1),(5,.i n)],[],[]⟩) (fun(n:Nat)=>n≤xs.length∧xs.take n = ys.take n) (fun(n:Nat)=>xs.length - n) (0) [] [] FZ (by simp) ?_
 rintro n ⟨hn,hc⟩
 conv=>whnf
 refine Ws<|g 11 14 []<|J UD<|Wc<|JD (fun h2=>?_) fun h2=>?_
 simp only[LM]at h2
 refine Wk<|Ws<|Wb ?_
 obtain⟨y1,hy1⟩:=ae (xs:=xs) (n:=n) OM
 obtain⟨y2,hy2⟩:=ae (xs:=ys) (n:=n) OM
 refine gd 14 25 [[],[],[.x (ah y1)],[],[],[],[.x (ah y2)],[],[]] ?_
 conv=>whnf
 refine J QZ<|J KR<|Wc<|JN (fun h3=>?_) fun h3=>?_
 refine g 25 26 []<|J UA<|RT ?_
 rotate_left
 refine Wk<|rg [.i ((n:Int) +1)]<|J QZ ?_
 rotate_left
 simp only[LM]at h2
 refine We<|g 0 2 []<|J UA<|RT ?_
 rotate_left
 ·exact vbf (fun e=>by subst e;rw[hy1]at hy2;cases hy2;exact h3 rfl)
 ·refine⟨n+1,[],[],Zah,?_,?_⟩
  rotate_left
  (dsimp only;omega)
  dsimp only
  exact⟨by omega,kM hc hy1 (by rw[hy2];exact congrArg some (Eq.symm h3))⟩
 ·exact vbt (by rw[aI OM,aI OM]at hc;exact hc)
end Go.K
end
section
open Go Go.Tm Go.Proofs
namespace Go.K
theorem XX{e:Entry}(h:e.ok):rdS (bW e) = e:=by
 have hok:=h
 obtain⟨⟨h1,h2⟩,⟨h3,h4⟩,h5⟩:=h
 have hk:1≤e.kind∧e.kind≤2:=by rcases h5 with q|q <;> (have:=q.1;omega)
 have d1:e.epoch.tdiv 256 = e.epoch / 256:=Int.tdiv_eq_ediv_of_nonneg OM
 have d2:e.epoch.tmod 256 = e.epoch % 256:=Int.tmod_eq_emod_of_nonneg OM
 have hf:bW e = bl [e.kind,e.epoch / 256,e.epoch % 256,e.task] ++e.text:=by
  rw[bW,if_pos hok,d1,d2,wO,wu8 OM OM,wu8 OM OM,wu8 OM OM,wu8 OM OM]
 have hl:(bl [e.kind,e.epoch / 256,e.epoch % 256,e.task]).size = 4:=by rw[gZ];rfl
 have hx:(bW e).extract 4 (bW e).size = e.text:=by rw[hf,←hl];exact uN _ _
 have b:∀ (k:Nat) (x:Int),([e.kind,e.epoch / 256,e.epoch % 256,e.task])[k]? = some x→0≤x∧x≤255→byt (bW e) k = x:=fun k x hk hx=>by rw[hf];exact Wp hk hx
 have k0:=b 0 e.kind rfl ⟨by omega,by omega⟩
 have k1:=b 1 (e.epoch / 256) rfl ⟨by omega,by omega⟩
 have k2:=b 2 (e.epoch % 256) rfl ⟨by omega,by omega⟩
 have k3:=b 3 e.task rfl ⟨by omega,by omega⟩
 unfold rdS
 rw[k0,k1,k2,k3,hx,show e.epoch / 256 * 256+e.epoch % 256 = e.epoch by omega]
theorem Qx{e:Entry}(h:e.ok):(bW e).size = 4+e.text.size:=by
 rw[bW,if_pos h,ByteArray.size_append,gZ];rfl
theorem BL{e:Entry}(h:e.ok):eZ (bW e) = some e:=by
 have:=Qx h
 rw[eZ,if_neg OM,XX h,if_pos rfl]
theorem MB{s:ByteArray}{e:Entry}(h:eZ s = some e):bW e = s:=by
 unfold eZ at h
 split at h
 ·cases h
 ·split at h
  ·cases h;assumption
  ·cases h
end Go.K
end
section
open Go Go.Tm Go.Proofs
namespace Go.K
theorem aaV{p:Plan}(hck:am p.tasks = 0):∀ t∈p.tasks,t.deps.length≤8:=fun t ht=>by
 obtain⟨k,hk⟩:=List.getElem?_of_mem ht
 exact(cz hck hk).2.2.1
structure HandK (b:Boss) (ts:List Task) (h:Hand):Prop where
 jl:JL b.epoch b.now h.given b.workers b.results ts h.jobs
 seats:∀ s∈h.seats,0≤s.epoch∧s.epoch≤300
theorem Ve{b:Boss}{ts:List Task}(hd:∀ t∈ts,t.deps.length≤8)(he:1≤b.epoch)(h0:0≤b.given)(h1:b.given≤1000000)(hjl:b.jobs.length = ts.length)(hsl:(b.seats.length:Int) = b.workers)(hj:JL b.epoch b.now b.given b.workers b.results ts b.jobs)(hs:∀ s∈b.seats,0≤s.epoch∧s.epoch≤300):∀ n,n≤ts.length→HandK b ts (aK b ts n)
 |0,_=>⟨hj,hs⟩
 |n+1,hn=>by
  have ih:=Ve hd he h0 h1 hjl hsl hj hs n OM
  have ho:=mF hd h0 h1 n
  by_cases hc:CanHand b ts (aK b ts n) n
  ·cases hf:lU (aK b ts n).seats with
   |none=>rw[qd hf];exact ih
   |some s =>
    rw[qc hc hf]
    obtain⟨x,hx0,hx1,hx2,_⟩:=qe hf
    have e1:=ho.jobs
    have e2:=ho.seats
    obtain⟨j,hj0⟩:=ae (xs:=(aK b ts n).jobs) (n:=n) OM
    refine⟨ZO ih.jl hj0 ho.lo ⟨by omega,by omega⟩ hc.res hc.ready he,fun y hy=>?_⟩
    rcases List.mem_or_eq_of_mem_set hy with hy|hy
    ·exact ih.seats y hy
    ·rw[hy]
     have:np (aK b ts n).seats s = x:=by rw[np,hx0];rfl
     show 0≤(np _ _).epoch∧(np _ _).epoch≤300
     rw[this]
     exact ih.seats x (List.mem_of_getElem? hx0)
  ·rw[jG hc];exact ih
theorem aaN{b:Boss}(h:¬b.up = false):b.up = true:=by cases hb:b.up;exact absurd hb h;rfl
theorem Mj{b:Boss}{p:Plan}(hv:BossOk b p):BossOk (iH b p.tasks).boss p:=by
 by_cases h0:b.now = 1000000
 ·rw[um h0];exact hv
 have hnow:=hv.now
 by_cases hup:b.up = false
 ·rw[Bs h0 hup]
  obtain⟨d1,d2,d3,d4,d5,d6,d7,d8⟩:=hv.down hup
  exact⟨hv.plan,hv.workers,⟨by show 0≤b.now+1;omega,by show b.now+1≤1000000;omega⟩,hv.code,(fun e=>by rw[show(aas b).up = b.up from rfl,hup]at e;cases e),fun _=>⟨d1,d2,d3,d4,d5,d6,d7,d8⟩⟩
 have hup2:=aaN hup
 obtain⟨u1,u2,u3,u4,u5,u6,⟨u7,u8⟩,⟨u9,u10⟩,u11,u12,u13,u14⟩:=hv.up hup2
 have hd:=aaV hv.plan
 have hj:JL (dL b).epoch (dL b).now (dL b).given (dL b).workers (dL b).results p.tasks (dL b).jobs:=ZQ (IJ u12)
 have hjl:(dL b).jobs.length = p.tasks.length:=by show(b.jobs.map _).length = _;rw[List.length_map];exact u4
 have hk:=Ve (b:=dL b) (ts:=p.tasks) hd u2 u9 u10 hjl u5 hj u13 p.tasks.length (Nat.le_refl _)
 have ho:=mF (b:=dL b) (ts:=p.tasks) hd u9 u10 p.tasks.length
 have e1:(endH b p.tasks).jobs.length = p.tasks.length:=by show(aK _ _ _).jobs.length = _;rw[ho.jobs];exact hjl
 have e2:((endH b p.tasks).seats.length:Int) = b.workers:=by show((aK _ _ _).seats.length:Int) = _;rw[ho.seats];exact u5
 by_cases hs:b.since+1 = 2
 ·rw[nL h0 hup hs]
  have es:cA ⟨b.workers,b.up,b.now+1,0,b.epoch,(endH b p.tasks).given,⟨b.log.safe++b.log.loose,[]⟩,b.results,(endH b p.tasks).jobs,(endH b p.tasks).seats,[]⟩ p = cA b p:=by show ax p ((b.log.safe++b.log.loose) ++ []) = ax p (b.log.safe++b.log.loose);rw[List.append_nil]
  refine⟨hv.plan,hv.workers,⟨by show 0≤b.now+1;omega,by show b.now+1≤1000000;omega⟩,by rw[es];exact hv.code,fun _=>?_,fun e=>absurd (show b.up = false from e) hup⟩
  rw[es]
  exact⟨u1,u2,u3,e1,e2,u6,⟨Int.le_refl _,by show(0:Int)≤1;omega⟩,⟨ho.lo,ho.hi⟩,Nat.zero_le _,Fz hk.jl,hk.seats,fun o ho=>by cases ho⟩
 ·rw[pN h0 hup hs]
  have es:cA ⟨b.workers,b.up,b.now+1,b.since+1,b.epoch,(endH b p.tasks).given,b.log,b.results,(endH b p.tasks).jobs,(endH b p.tasks).seats,b.owed⟩ p = cA b p:=rfl
  refine⟨hv.plan,hv.workers,⟨by show 0≤b.now+1;omega,by show b.now+1≤1000000;omega⟩,by rw[es];exact hv.code,fun _=>?_,fun e=>absurd (show b.up = false from e) hup⟩
  rw[es]
  exact⟨u1,u2,u3,e1,e2,u6,⟨by show 0≤b.since+1;omega,by show b.since+1≤1;omega⟩,⟨ho.lo,ho.hi⟩,u11,Fz hk.jl,hk.seats,fun o ho=>by obtain⟨a1,a2,a3,a4⟩:=u14 o ho;exact⟨a1,a2,a3,a4⟩⟩
end Go.K
end
section
open Go Go.Tm Go.Proofs
namespace Go.K
theorem FS(ts:List Task)(st:Option Tale)(xs:List ByteArray)(s:ByteArray):ld ts st (xs++ [s]) = (ld ts st xs).bind fun t=>en ts t s:=by
 rw[pt];cases ld ts st xs with
 |none=>rfl
 |some t=>rfl
theorem Jk{p:Plan}{xs:List ByteArray}{e:Entry}{t:Task}(h:(ax p xs).code = 0)(hl:xs.length < 310)(hok:e.ok)(hk:¬e.kind = 1)(he:e.epoch = (ax p xs).epoch)(ht:p.tasks[e.task.toNat]? = some t)(ht2:e.task < p.tasks.length)(hr:atS (ax p xs).results e.task = emp)(hd:dj (ax p xs).results t.deps):ax p (xs++ [bW e]) = ⟨0,(ax p xs).epoch,(ax p xs).results.set e.task.toNat e.text⟩:=by
 obtain⟨hck,_,hrl,u,h1,h2⟩:=cF h
 rw[h2]at he hr hd ⊢
 dsimp only at he hr hd
 obtain⟨y,hy⟩:∃ y,u.results[e.task.toNat]? = some y:=by
  rw[h2]at hrl
  exact ae (by have:=hok.2.1.1;dsimp only at hrl;omega)
 have hs:en p.tasks u (bW e) = some ⟨u.epoch,u.results.set e.task.toNat e.text⟩:=CG (BL hok) hk he ht2 hy (by rw[kZ hy]at hr;exact hr) ht hd
 unfold ax
 rw[if_pos ⟨hck,by rw[List.length_append,List.length_singleton];omega⟩,FS,h1]
 rw[Option.bind_some,hs]
theorem nC{p:Plan}{xs:List ByteArray}{n:Int}(h:(ax p xs).code = 0)(hl:xs.length < 310)(hn:n = (ax p xs).epoch+1)(h3:n≤300):ax p (xs++ [bW (epE n)]) = ⟨0,n,(ax p xs).results⟩:=by
 obtain⟨hck,_,hrl,u,h1,h2⟩:=cF h
 have he:=(fG h).1
 rw[h2]at hn he ⊢
 dsimp only at hn he
 have hok:(epE n).ok:=⟨⟨by show 1≤n;omega,h3⟩,⟨Int.le_refl _,by show(0:Int)≤39;omega⟩,.inl ⟨rfl,rfl,rfl⟩⟩
 have hs:en p.tasks u (bW (epE n)) = some ⟨n,u.results⟩:=HW (BL hok) rfl hn
 unfold ax
 rw[if_pos ⟨hck,by rw[List.length_append,List.length_singleton];omega⟩,FS,h1]
 rw[Option.bind_some,hs]
theorem sb{p:Plan}{xs ys:List ByteArray}(h:(ax p (xs++ys)).code = 0):(ax p xs).code = 0:=by
 obtain⟨hck,hl,_,u,h1,_⟩:=cF h
 rw[pt]at h1
 unfold ax
 rw[if_pos ⟨hck,by rw[List.length_append]at hl;omega⟩]
 cases hr:ld p.tasks (some (mN p.tasks)) xs with
 |none=>rw[hr,jk]at h1;cases h1
 |some t=>rfl
theorem sH{b:Boss}{p:Plan}(k:Int)(hv:BossOk b p):BossOk (lv b k) p:=by
 by_cases hup:b.up = false
 ·rw[qh hup];exact hv
 rw[Ci hup]
 have hc:(ax p ((b.log.safe++b.log.loose.take (jT k b.log.loose.length)) ++ [])).code = 0:=by
  rw[List.append_nil]
  have h:=hv.code
  rw[cA,←List.take_append_drop (jT k b.log.loose.length) b.log.loose,←List.append_assoc]at h
  exact sb h
 exact⟨hv.plan,hv.workers,hv.now,hc,(fun e=>by cases e),fun _=>⟨rfl,rfl,rfl,rfl,rfl,rfl,rfl,rfl⟩⟩
theorem sa{b:Boss}{p:Plan}(hv:BossOk b p):BossOk (cW b p) p:=by
 by_cases hr:qr b p
 ·rw[Dd hr]
  obtain⟨h1,h2,h3⟩:=hr
  obtain⟨_,hc⟩:=BU hv h1
  have hw:=hv.workers
  have he:=(fG hc).1
  obtain⟨hck,_,hrl,_⟩:=cF hc
  have e:=nC (p:=p) (xs:=b.log.safe) (n:=(ax p b.log.safe).epoch+1) hc h2 rfl OM
  have es:cA (upB b.workers b.now b.log.safe p (ax p b.log.safe)) p = ⟨0,(ax p b.log.safe).epoch+1,(ax p b.log.safe).results⟩:=by
   show ax p ((b.log.safe++ [bW (epE _)]) ++ []) = _
   rw[List.append_nil,e]
  refine⟨hv.plan,hw,hv.now,by rw[es],fun _=>?_,fun e=>by cases e⟩
  rw[es]
  refine⟨rfl,by show 1≤(ax p b.log.safe).epoch+1;omega,hrl,by show(List.replicate _ _).length = _;rw[List.length_replicate],by show((List.replicate b.workers.toNat iR).length:Int) = b.workers;rw[List.length_replicate];omega,rfl,⟨Int.le_refl _,by show(0:Int)≤1;omega⟩,⟨Int.le_refl _,by show(0:Int)≤1000000;omega⟩,Nat.zero_le _,?_,?_,fun o ho=>by cases ho⟩
  ·intro i j _ hj
   have:j = fA:=by
    have:=List.mem_of_getElem? hj
    exact(List.mem_replicate.1 this).2
   subst this
   exact⟨fun _=>⟨rfl,rfl⟩,fun q=>absurd rfl q⟩
  ·intro s hs
   rw[(List.mem_replicate.1 hs).2]
   exact⟨Int.le_refl _,by show(0:Int)≤300;omega⟩
 ·rw[oy hr];exact hv
end Go.K
end

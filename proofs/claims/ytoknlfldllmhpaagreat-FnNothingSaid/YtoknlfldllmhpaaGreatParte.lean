/- Contracts of functions of the program: what each call answers. -/
import Derived.Test.YtoknlfldllmhpaaGreatPartd
set_option maxHeartbeats 8000000
set_option maxRecDepth 20000
set_option linter.unusedVariables false
set_option linter.unusedSimpArgs false
section
open Go Go.Tm Go.Proofs
namespace Go.K
attribute [local irreducible] ByteArray.extract
theorem Cm(a i y:Nat)(hy:y < 2 ^ i)(h:a * 2 ^ i+y < 9223372036854775808):HO ((a * 2 ^ i:Nat):Int) (y:Int) = ((a * 2 ^ i+y:Nat):Int):=by
 unfold HO
 have e:((BitVec.ofInt IntKind.i64.bits ((a * 2 ^ i:Nat):Int))|||BitVec.ofInt IntKind.i64.bits (y:Int)).toNat = a * 2 ^ i+y:=by
  rw[BitVec.ofInt_natCast,BitVec.ofInt_natCast]
  have hb64:IntKind.i64.bits = 64:=rfl
  rw[BitVec.toNat_or,BitVec.toNat_ofNat,BitVec.toNat_ofNat,hb64,Nat.mod_eq_of_lt OM,Nat.mod_eq_of_lt OM]
  have:=Nat.two_pow_add_eq_or_of_lt (i:=i) (b:=y) hy a
  rw[Nat.mul_comm]at this
  exact this.symm
 rw[e]
 rw[wO]
theorem SJ(a b:Nat)(ha:a < 256)(hb:b < 256):HO (IntKind.i64.wrap ((a:Int) * 256)) b = (a:Int) * 256+b:=Kz a b ha hb
theorem SH(a b c d:Nat)(ha:a < 256)(hb:b < 256)(hc:c < 256)(hd:d < 256):HO (HO (HO (IntKind.i64.wrap ((a:Int) * 16777216)) (IntKind.i64.wrap ((b:Int) * 65536))) (IntKind.i64.wrap ((c:Int) * 256))) d = (a:Int) * 16777216+ (b:Int) * 65536+ (c:Int) * 256+d:=by
 rw[wO,wO,wO]
 have f1:((a * 16777216:Nat):Int) = (a:Int) * 16777216:=by rw[Int.natCast_mul];rfl
 have f2:((b * 65536:Nat):Int) = (b:Int) * 65536:=by rw[Int.natCast_mul];rfl
 have f3:a * 16777216+b * 65536 = (a * 256+b) * 65536:=by rw[Nat.add_mul,Nat.mul_assoc]
 have f4:((c * 256:Nat):Int) = (c:Int) * 256:=by rw[Int.natCast_mul];rfl
 have f5:(a * 256+b) * 65536+c * 256 = ((a * 256+b) * 256+c) * 256:=by rw[Nat.add_mul ((a * 256+b) * 256) c 256,Nat.mul_assoc (a * 256+b) 256 256]
 have f6:((((a * 256+b) * 256+c) * 256+d:Nat):Int) = (a:Int) * 16777216+ (b:Int) * 65536+ (c:Int) * 256+d:=by omega
 have e1:=Cm a 24 (b * 65536) OM OM
 have e2:=Cm (a * 256+b) 16 (c * 256) OM (by clear e1;omega)
 have e3:=Cm ((a * 256+b) * 256+c) 8 d (by clear e1 e2;omega) (by clear e1 e2;omega)
 simp only[Nat.reducePow]at e1 e2 e3
 rw[f1,f2]at e1
 rw[e1]
 rw[f4]at e2
 rw[f3,e2]
 rw[f5,e3,f6]
theorem nj{m:Message}{s key:ByteArray}(h:¬s.size < 19):dR m key = s↔bL m∧key.size≤30∧dA m = s.extract 8 s.size∧s.extract 0 8 = fH (s.extract 8 s.size) key:=by
 unfold dR
 constructor
 ·intro e
  by_cases hc:bL m∧key.size≤30
  ·rw[if_pos hc]at e
   have h8:(fH (dA m) key).size = 8:=dY _
   have hb:s.extract 8 s.size = dA m:=by
    rw[←e,ByteArray.size_append,h8,ByteArray.extract_append_eq_right h8.symm OM]
   have hs:s.extract 0 8 = fH (dA m) key:=by
    rw[←e,ByteArray.extract_append_eq_left h8.symm]
   exact⟨hc.1,hc.2,hb.symm,by rw[hs,hb]⟩
  ·rw[if_neg hc]at e
   rw[←e]at h
   exact absurd (show emp.size < 19 by decide) h
 ·rintro⟨h1,h2,h3,h4⟩
  rw[if_pos ⟨h1,h2⟩,h3,←h4,ByteArray.extract_append_extract,Nat.min_eq_left OM,Nat.max_eq_right OM,ByteArray.extract_zero_size]
theorem xL(r:ByteArray):∀ n,8 * n≤r.size→jB (cK r n) = r.extract 0 (8 * n)
 |0,_=>by
  have:(r.extract 0 (8 * 0)).size = 0:=by rw[ByteArray.size_extract];omega
  rw[show cK r 0 = []from rfl,jB];exact(ByteArray.size_eq_zero_iff.1 this).symm
 |n+1,h=>by
  rw[oY,CC,xL r n OM,jB,jB,IG,ByteArray.extract_append_extract,Nat.min_eq_left OM,Nat.max_eq_right OM]
  rfl
theorem W4(s:ByteArray)(h:11≤s.size):bl [byt s 0,byt s 1,byt s 2,byt s 3,byt s 4,byt s 5,byt s 6,byt s 7,byt s 8,byt s 9,byt s 10] ++s.extract 11 s.size = s:=by
 obtain⟨⟨l⟩⟩:=s
 match l,h with
 |a :: b :: c :: d :: e :: f :: g :: i :: j :: k :: q :: r,_ =>
  rw[wv (c:=a) rfl,wv (c:=b) rfl,wv (c:=c) rfl,wv (c:=d) rfl,wv (c:=e) rfl,wv (c:=f) rfl,wv (c:=g) rfl,wv (c:=i) rfl,wv (c:=j) rfl,wv (c:=k) rfl,wv (c:=q) rfl]
  apply ByteArray.ext
  rw[ByteArray.data_append,ByteArray.data_extract]
  apply Array.ext'
  simp[bl,ByteArray.size]
theorem Zx{a0 a1 a2 a3 a4 a5 a6 a7 a8 a9 a10:Int}{r:ByteArray}(h:0≤a10∧a10≤255):byt (bl [a0,a1,a2,a3,a4,a5,a6,a7,a8,a9,a10] ++r) 10 = a10:=by
 obtain⟨⟨l⟩⟩:=r
 have e:bl [a0,a1,a2,a3,a4,a5,a6,a7,a8,a9,a10] ++ ⟨⟨l⟩⟩ = ⟨⟨(bl [a0,a1,a2,a3,a4,a5,a6,a7,a8,a9,a10]).data.toList++l⟩⟩:=by
  apply ByteArray.ext
  rw[ByteArray.data_append]
  apply Array.ext'
  simp
 rw[e,wv (c:=UInt8.ofNat a10.toNat) rfl]
 simp;omega
theorem qd(b:ByteArray):(rdM b).inputs.length = if byt b 0 = 3 then 0 else(b.size - 11) / 8:=by
 unfold rdM;dsimp only;split <;> simp[cK]
theorem Ts{b:ByteArray}(h:11≤b.size)(hok:bL (rdM b)):dA (rdM b) = b↔byt b 10 = (rdM b).inputs.length∧(byt b 0≠3→b.size - 11 = 8 * ((b.size - 11) / 8)):=by
 have hx:(b.extract 11 b.size).size = b.size - 11:=by rw[ByteArray.size_extract];omega
 have hh:BI (rdM b) = [byt b 0,byt b 1,byt b 2,byt b 3,byt b 4,byt b 5,byt b 6,byt b 7,byt b 8,byt b 9,((rdM b).inputs.length:Int)]:=by
  obtain⟨a3,e3,l3⟩:=eI b 3
  obtain⟨a4,e4,l4⟩:=eI b 4
  obtain⟨a5,e5,l5⟩:=eI b 5
  obtain⟨a6,e6,l6⟩:=eI b 6
  obtain⟨a7,e7,l7⟩:=eI b 7
  obtain⟨a8,e8,l8⟩:=eI b 8
  have f1:(rdM b).epoch = byt b 3 * 256+byt b 4:=rfl
  have f2:(rdM b).lease = byt b 5 * 16777216+byt b 6 * 65536+byt b 7 * 256+byt b 8:=rfl
  unfold BI
  rw[f1,f2,show(rdM b).kind = byt b 0 from rfl,show(rdM b).frm = byt b 1 from rfl,show(rdM b).to = byt b 2 from rfl,show(rdM b).task = byt b 9 from rfl]
  rw[e3,e4,e5,e6,e7,e8]
  congr 3
  congr 1;omega
  congr 1;omega
  congr 1;omega
  congr 1;omega
  congr 1;omega
  congr 1;omega
 have hsp:=W4 b h
 have htl:byt b 0 = 3∨b.size - 11 = 8 * ((b.size - 11) / 8)→(rdM b).text++jB (rdM b).inputs = b.extract 11 b.size:=by
  intro h3
  unfold rdM;dsimp only
  by_cases hk:byt b 0 = 3
  ·rw[if_pos hk,if_pos hk,jB,IG]
  ·have h3:=h3.resolve_left hk
   rw[if_neg hk,if_neg hk,ML,xL _ _ OM,←h3,←hx,ByteArray.extract_zero_size]
 have hbody:dA (rdM b) = bl (BI (rdM b)) ++ ((rdM b).text++jB (rdM b).inputs):=by unfold dA;rw[ByteArray.append_assoc]
 constructor
 ·intro e
  have hn:(rdM b).inputs.length≤8:=(dp hok).1
  constructor
  ·have h1:=congrArg (fun x=>byt x 10) e
   rw[←h1,hbody,hh]
   exact Zx OM
  ·intro hk
   have h2:=congrArg ByteArray.size e
   rw[gJ hok,qd,if_neg hk]at h2
   have ht:(rdM b).text = emp:=if_neg hk
   rw[ht]at h2
   have h0:emp.size = 0:=rfl
   omega
 ·rintro⟨h1,h2⟩
  rw[hbody,htl (by by_cases hk:byt b 0 = 3;exact Or.inl hk;exact Or.inr (h2 hk)),hh,←h1]
  exact hsp
end Go.K
end
section
open Go Go.Tm Go.Proofs
namespace Go.K
attribute [local irreducible] ByteArray.extract
def g8(q:ByteArray)(n:Nat):ByteArray:=q.extract (8 * n) q.size
theorem Bg(q:ByteArray):q = g8 q 0:=by unfold g8;rw[Nat.mul_zero,ByteArray.extract_zero_size]
theorem kG(q:ByteArray)(n:Nat):(g8 q n).size = q.size - 8 * n:=by unfold g8;rw[ByteArray.size_extract];omega
theorem L6{q:ByteArray}{n:Nat}(h:8 * n+8≤q.size):(g8 q n).extract 0 8 = q.extract (8 * n) (8 * n+8):=by
 unfold g8;rw[ByteArray.extract_extract,Nat.min_eq_left OM,Nat.add_zero]
theorem Bh(q:ByteArray)(n:Nat)(h:8 * n+8≤q.size):(g8 q n).extract 8 (g8 q n).size = g8 q (n+1):=by
 rw[kG]
 unfold g8;rw[ByteArray.extract_extract,show 8 * n+8 = 8 * (n+1) by omega,show min (8 * n+ (q.size - 8 * n)) q.size = q.size by omega]
theorem VH{q:ByteArray}{n:Nat}(h:8 * n+8≤q.size):(cK q n).map ai++ [ai ((g8 q n).extract 0 8)] = (cK q (n+1)).map ai:=by
 rw[oY,List.map_append,L6 h];rfl
theorem Fz{q:ByteArray}{n:Nat}(h:¬8 * n < q.size):g8 q n = ⟨#[]⟩:=ByteArray.size_eq_zero_iff.1 (by rw[kG];omega)
theorem Bi{q:ByteArray}{n:Nat}(h:8 * n < q.size):¬g8 q n = ⟨#[]⟩:=by
 intro e
 have:=congrArg ByteArray.size e
 rw[kG]at this
 have h0:(ByteArray.mk #[]).size = 0:=rfl
 omega
def gp(tx:ByteArray):ByteArray:=(bA tx).extract 8 (bA tx).size
theorem mJ{tx key:ByteArray}(h0:¬tx.size < 19)(h:¬(bL (rdM (tx.extract 8 tx.size))∧dA (rdM (tx.extract 8 tx.size)) = tx.extract 8 tx.size)):eG tx key = none :=
 if_pos (Or.inr (fun e=>h ⟨((nj h0).1 e).1,((nj h0).1 e).2.2.1⟩))
theorem Bn{tx key:ByteArray}{m:Message}(h0:¬tx.size < 19)(hk:key.size≤30)(hs:tx.extract 0 8 = fH (tx.extract 8 tx.size) key)(e:rdM (tx.extract 8 tx.size) = m)(h1:bL m)(h2:dA (rdM (tx.extract 8 tx.size)) = tx.extract 8 tx.size):eG tx key = some m :=
 pJ h0 e ((nj h0).2 ⟨h1,hk,e ▸ h2,hs⟩)
theorem rF(tx key:ByteArray)(ht:tx.size≤68719476736):F rj [.val (.s tx),.val (.s key)] (gA (eG tx key)) [[],[]]:=by
 by_cases h0:tx.size < 19
 ·by_cases hk:key.size≤30
  ·refine dj ?_
   conv=>whnf
   refine g 0 0 []<|J UB<|Ws<|gd 9 25 [[],[],[],[],[BF],[BF],[BF],[BF],[],[BT],[BT],[BT],[BT],[BT],[BT],[BT],[BT]] ?_
   conv=>whnf
   refine J QZ<|J KR<|Wc<|J (fun _=>(g 25 27 []<|J QZ (RT ?_))) (noF rfl)
   exact congrArg gA (oI h0).symm
  ·refine dj ?_
   conv=>whnf
   refine g 0 0 []<|J UB<|Ws<|gd 9 25 [[],[],[],[],[BT],[BT],[BT],[BT],[],[BT],[BT],[BT],[BT],[BT],[BT],[BT],[BT]] ?_
   conv=>whnf
   refine J QZ<|J KR<|Wc<|J (fun _=>(g 25 27 []<|J QZ (RT ?_))) (noF rfl)
   exact congrArg gA (oI h0).symm
 by_cases hk:¬key.size≤30
 ·have e:eG tx key = none:=if_pos (Or.inr (fun h=>hk ((nj h0).1 h).2.1))
  refine dj ?_
  conv=>whnf
  refine g 0 0 []<|J UB<|Ws<|gd 9 25 [[],[],[],[],[BT],[BT],[BT],[BT],[],[BT],[BT],[BT],[BT],[BT],[BT],[BT],[BT]] ?_
  conv=>whnf
  refine J QZ<|J KR<|Wc<|J (fun _=>(g 25 27 []<|J QZ (RT ?_))) (noF rfl)
  exact congrArg gA e.symm
 have hx:(tx.extract 8 tx.size).size = tx.size - 8:=by rw[ByteArray.size_extract];omega
 have c1:=o5 (tx.extract 8 tx.size) key OM OM
 by_cases hs:¬tx.extract 0 8 = fH (tx.extract 8 tx.size) key
 ·have e:eG tx key = none:=if_pos (Or.inr (fun h=>hs ((nj h0).1 h).2.2.2))
  refine dj ?_
  conv=>whnf
  refine g 0 0 []<|J UB<|Ws<|gd 9 25 [[],[],[],[],[BF],[BF],[BF],[BF],[],[BF],[BF,.n (8),.s (ByteArray.extract tx 0 8)],[BF],[BF,.n (8),.s (ByteArray.extract tx 8 (ByteArray.size tx))],[BF],[BF,.call (V.s (fH (ByteArray.extract tx 8 (ByteArray.size tx)) key)) [[],[]]],[BF],[BF]] ?_
  conv=>whnf
  refine J QZ<|J KR<|Wc<|J (fun _=>(g 25 27 []<|J QZ (RT ?_))) (noF (dP OM))
  exact congrArg gA e.symm
 obtain⟨y1,hy1,hb1⟩:=bB (s:=tx.extract 8 tx.size) (n:=0) OM
 obtain⟨y2,hy2,hb2⟩:=bB (s:=tx.extract 8 tx.size) (n:=1) OM
 obtain⟨y3,hy3,hb3⟩:=bB (s:=tx.extract 8 tx.size) (n:=2) OM
 obtain⟨y4,hy4,hb4⟩:=bB (s:=tx.extract 8 tx.size) (n:=3) OM
 obtain⟨y5,hy5,hb5⟩:=bB (s:=tx.extract 8 tx.size) (n:=4) OM
 obtain⟨y6,hy6,hb6⟩:=bB (s:=tx.extract 8 tx.size) (n:=5) OM
 obtain⟨y7,hy7,hb7⟩:=bB (s:=tx.extract 8 tx.size) (n:=6) OM
 obtain⟨y8,hy8,hb8⟩:=bB (s:=tx.extract 8 tx.size) (n:=7) OM
 obtain⟨y9,hy9,hb9⟩:=bB (s:=tx.extract 8 tx.size) (n:=8) OM
 obtain⟨y10,hy10,hb10⟩:=bB (s:=tx.extract 8 tx.size) (n:=9) OM
 obtain⟨y11,hy11,hb11⟩:=bB (s:=tx.extract 8 tx.size) (n:=10) OM
 have f1:=SJ y4.toNat y5.toNat hb4 hb5
 have f2:=SH y6.toNat y7.toNat y8.toNat y9.toNat hb6 hb7 hb8 hb9
 have hz:(bA tx).size = tx.size - 19:=by unfold bA;rw[ByteArray.size_extract,hx];omega
 have e:∀ t l,rdF (tx.extract 8 tx.size) t l = ⟨y1.toNat,y2.toNat,y3.toNat,(y4.toNat:Int) * 256+y5.toNat,(y6.toNat:Int) * 16777216+ (y7.toNat:Int) * 65536+ (y8.toNat:Int) * 256+y9.toNat,y10.toNat,t,l⟩:=by
  intro t l;simp only[rdF,bI hy1,bI hy2,bI hy3,bI hy4,bI hy5,bI hy6,bI hy7,bI hy8,bI hy9,bI hy10]
 have hb:=bI hy11
 have hbi:=@Ts (tx.extract 8 tx.size) OM
 rw[hb,qd,bI hy1,hx]at hbi
 by_cases h3:(y1.toNat:Int) = 3
 ·have e1:rdM (tx.extract 8 tx.size) = ⟨y1.toNat,y2.toNat,y3.toNat,(y4.toNat:Int) * 256+y5.toNat,(y6.toNat:Int) * 16777216+ (y7.toNat:Int) * 65536+ (y8.toNat:Int) * 256+y9.toNat,y10.toNat,bA tx,[]⟩:=by
   rw[←e];unfold rdM rdF;rw[bI hy1,if_pos h3,if_pos h3];rfl
  rw[if_pos h3]at hbi
  have ho:bL (rdM (tx.extract 8 tx.size))→(bA tx).size = 8:=by
   rw[e1];unfold bL;dsimp only;omega
  have hq:8≤(bA tx).size→(gp tx).size = (bA tx).size - 8:=by intro h;unfold gp;rw[ByteArray.size_extract];omega
  refine dj ?_
  conv=>whnf
  refine g 0 0 []<|J UB<|Ws<|gd 9 25 [[],[],[],[],[BF],[BF],[BF],[BF],[],[BF],[BF,.n (8),.s (ByteArray.extract tx 0 8)],[BF],[BF,.n (8),.s (ByteArray.extract tx 8 (ByteArray.size tx))],[BF],[BF,.call (V.s (fH (ByteArray.extract tx 8 (ByteArray.size tx)) key)) [[],[]]],[BF],[BF]] ?_
  conv=>whnf
  refine J QZ<|J KR<|Wc<|J (noT (by simp_all)) fun _=>Wk<|g 25 29 [.n (8),.s (ByteArray.extract tx 8 (ByteArray.size tx))]<|J QZ<|gd 29 68 [[],[.i ((↑(UInt8.toNat y1):Int))],[.i ((↑(UInt8.toNat y1):Int))],[],[.i ((↑(UInt8.toNat y2):Int))],[.i ((↑(UInt8.toNat y2):Int))],[],[.i ((↑(UInt8.toNat y3):Int))],[.i ((↑(UInt8.toNat y3):Int))],[],[.i ((↑(UInt8.toNat y4):Int))],[.i ((↑(UInt8.toNat y4):Int))],[.i (IntKind.wrap IntKind.i64 ((↑(UInt8.toNat y4):Int) * 2 ^ min (Int.toNat 8) (IntKind.bits IntKind.i64)))],[],[.i ((↑(UInt8.toNat y5):Int))],[.i ((↑(UInt8.toNat y5):Int))],[.i (IntKind.wrap IntKind.i64 (↑(BitVec.toNat (BitVec.ofInt (IntKind.bits IntKind.i64) (IntKind.wrap IntKind.i64 ((↑(UInt8.toNat y4):Int) * 2 ^ min (Int.toNat 8) (IntKind.bits IntKind.i64)))|||BitVec.ofInt (IntKind.bits IntKind.i64) (↑(UInt8.toNat y5):Int))):Int))],[],[.i ((↑(UInt8.toNat y6):Int))],[.i ((↑(UInt8.toNat y6):Int))],[.i (IntKind.wrap IntKind.i64 ((↑(UInt8.toNat y6):Int) * 2 ^ min (Int.toNat 24) (IntKind.bits IntKind.i64)))],[],[.i ((↑(UInt8.toNat y7):Int))],[.i ((↑(UInt8.toNat y7):Int))],[.i (IntKind.wrap IntKind.i64 ((↑(UInt8.toNat y7):Int) * 2 ^ min (Int.toNat 16) (IntKind.bits IntKind.i64)))],[.i (IntKind.wrap IntKind.i64 (↑(BitVec.toNat (BitVec.ofInt (IntKind.bits IntKind.i64) (IntKind.wrap IntKind.i64 ((↑(UInt8.toNat y6):Int) * 2 ^ min (Int.toNat 24) (IntKind.bits IntKind.i64)))|||BitVec.ofInt (IntKind.bits IntKind.i64) (IntKind.wrap IntKind.i64 ((↑(UInt8.toNat y7):Int) * 2 ^ min (Int.toNat 16) (IntKind.bits IntKind.i64))))):Int))],[],[.i ((↑(UInt8.toNat y8):Int))],[.i ((↑(UInt8.toNat y8):Int))],[.i (IntKind.wrap IntKind.i64 ((↑(UInt8.toNat y8):Int) * 2 ^ min (Int.toNat 8) (IntKind.bits IntKind.i64)))],[.i (IntKind.wrap IntKind.i64 (↑(BitVec.toNat (BitVec.ofInt (IntKind.bits IntKind.i64) (IntKind.wrap IntKind.i64 (↑(BitVec.toNat (BitVec.ofInt (IntKind.bits IntKind.i64) (IntKind.wrap IntKind.i64 ((↑(UInt8.toNat y6):Int) * 2 ^ min (Int.toNat 24) (IntKind.bits IntKind.i64)))|||BitVec.ofInt (IntKind.bits IntKind.i64) (IntKind.wrap IntKind.i64 ((↑(UInt8.toNat y7):Int) * 2 ^ min (Int.toNat 16) (IntKind.bits IntKind.i64))))):Int))|||BitVec.ofInt (IntKind.bits IntKind.i64) (IntKind.wrap IntKind.i64 ((↑(UInt8.toNat y8):Int) * 2 ^ min (Int.toNat 8) (IntKind.bits IntKind.i64))))):Int))],[],[.i ((↑(UInt8.toNat y9):Int))],[.i ((↑(UInt8.toNat y9):Int))],[.i (IntKind.wrap IntKind.i64 (↑(BitVec.toNat (BitVec.ofInt (IntKind.bits IntKind.i64) (IntKind.wrap IntKind.i64 (↑(BitVec.toNat (BitVec.ofInt (IntKind.bits IntKind.i64) (IntKind.wrap IntKind.i64 (↑(BitVec.toNat (BitVec.ofInt (IntKind.bits IntKind.i64) (IntKind.wrap IntKind.i64 ((↑(UInt8.toNat y6):Int) * 2 ^ min (Int.toNat 24) (IntKind.bits IntKind.i64)))|||BitVec.ofInt (IntKind.bits IntKind.i64) (IntKind.wrap IntKind.i64 ((↑(UInt8.toNat y7):Int) * 2 ^ min (Int.toNat 16) (IntKind.bits IntKind.i64))))):Int))|||BitVec.ofInt (IntKind.bits IntKind.i64) (IntKind.wrap IntKind.i64 ((↑(UInt8.toNat y8):Int) * 2 ^ min (Int.toNat 8) (IntKind.bits IntKind.i64))))):Int))|||BitVec.ofInt (IntKind.bits IntKind.i64) (↑(UInt8.toNat y9):Int))):Int))],[],[.i ((↑(UInt8.toNat y10):Int))],[.i ((↑(UInt8.toNat y10):Int))],[],[],[]] ?_
  conv=>whnf
  refine J QZ<|J KR<|g 68 71 [.i ((↑(UInt8.toNat y11):Int)),.i ((↑(UInt8.toNat y11):Int))]<|J QZ<|g 71 73 [.n (11),.s (ByteArray.extract (ByteArray.extract tx 8 (ByteArray.size tx)) 11 (ByteArray.size (ByteArray.extract tx 8 (ByteArray.size tx))))]<|J QZ<|Ws<|g 73 75 []<|J UC<|Wc<|J (fun _=>(Ws (g 75 78 []<|J UC (Wc<|J (fun h1=>?_) fun h1=>?_)))) (noF tO)
  replace h1:=dt h1
  refine g 78 80 []<|J QZ<|RT ?_
  rotate_left
  replace h1:=df h1
  refine Wk<|rgd [[],[.n (8),.s (ByteArray.extract (ByteArray.extract (ByteArray.extract tx 8 (ByteArray.size tx)) 11 (ByteArray.size (ByteArray.extract tx 8 (ByteArray.size tx)))) 0 8)],[],[.n (8),.s (ByteArray.extract (ByteArray.extract (ByteArray.extract tx 8 (ByteArray.size tx)) 11 (ByteArray.size (ByteArray.extract tx 8 (ByteArray.size tx)))) 8 (ByteArray.size (ByteArray.extract (ByteArray.extract tx 8 (ByteArray.size tx)) 11 (ByteArray.size (ByteArray.extract tx 8 (ByteArray.size tx))))))],[],[],[]] ?_
  conv=>whnf
  refine J QZ<|J KR<|Ws<|g 8 89 [.i (8 * (↑(UInt8.toNat y11):Int))]<|J QZ<|Wc<|JN (fun h2=>?_) fun h2=>?_
  refine g 89 91 []<|J QZ<|RT ?_
  rotate_left
  refine Wk<|Ws<|Wb ?_
  rotate_left
  ·replace h1:((bA tx).size:Int) < 8:=h1
   exact congrArg gA (mJ h0 (fun h=>by have:=ho h.1;omega)).symm
  ·replace h1:¬((bA tx).size:Int) < 8:=h1
   replace h2:¬((gp tx).size:Int) = 8 * (y11.toNat:Int):=h2
   exact congrArg gA (mJ h0 (fun h=>by have:=ho h.1;have:=((hbi h.1).1 h.2).1;omega)).symm
  ·replace h1:¬((bA tx).size:Int) < 8:=h1
   replace h2:((gp tx).size:Int) = 8 * (y11.toNat:Int):=h2
   refine Wl (fun s (n:Nat)=>⟨(SK s [0,4,5] [(6,.s (g8 (gp tx) n)),(7,s.s 7)]),[(4,(CK s 4 0 8 [])),(7,[.t (.i y1.toNat),.t (.i y2.toNat),.t (.i y3.toNat),.t (.i ((y4.toNat:Int) * 256+y5.toNat)),.t (.i ((y6.toNat:Int) * 16777216+ (y7.toNat:Int) * 65536+ (y8.toNat:Int) * 256+y9.toNat)),.t (.i y10.toNat),.t (.s ((bA tx).extract 0 8)),.own [false] ((cK (gp tx) n).map ai)])],[]⟩) (fun(n:Nat)=>8 * n≤(gp tx).size) (fun(n:Nat)=>(gp tx).size - 8 * n) (0) [some 4,some 7] [] ⟨rfl,⟨rfl,rfl,rfl,(congrArg (fun z=>V.t (T.v (Value.string z))) (Bg (gp tx))),rfl,I⟩,⟨FZ,⟨⟨rfl,⟨rfl,⟨rfl,⟨rfl,⟨(congrArg (fun z=>V.t (T.v (Value.int _ z))) (f1)),⟨(congrArg (fun z=>V.t (T.v (Value.int _ z))) (f2)),FZ⟩⟩⟩⟩⟩⟩,I⟩⟩,I⟩ OM ?_
   intro n hn
   have hrz:=kG (gp tx) n
   have hcl:=sz (gp tx) n
   have c2:=cO ⟨y1.toNat,y2.toNat,y3.toNat,(y4.toNat:Int) * 256+y5.toNat,(y6.toNat:Int) * 16777216+ (y7.toNat:Int) * 65536+ (y8.toNat:Int) * 256+y9.toNat,y10.toNat,(bA tx).extract 0 8,cK (gp tx) n⟩ (by rw[show(Message.inputs ⟨y1.toNat,y2.toNat,y3.toNat,(y4.toNat:Int) * 256+y5.toNat,(y6.toNat:Int) * 16777216+ (y7.toNat:Int) * 65536+ (y8.toNat:Int) * 256+y9.toNat,y10.toNat,(bA tx).extract 0 8,cK (gp tx) n⟩) = cK (gp tx) n from rfl,hcl];omega)
   by_cases hn8:8 * n < (gp tx).size
   ·have hne:=Bi hn8
    conv=>whnf
    refine Ws<|g 91 92 []<|J UB<|Wc<|J (fun _=>(Wk (Ws (Wb (rgd [[],[],[],[.n (8),.s (ByteArray.extract (g8 (gp tx) n) 0 8)],[],[],[],[]] ?_))))) (noF (dP OM))
    conv=>whnf
    refine⟨⟨I,I,I,⟨rfl,I,OM,OM,rfl⟩,US,Zao,I,UA,I⟩,by kernel_rfl,?_⟩
    refine rg [.n (8),.s (ByteArray.extract (g8 (gp tx) n) 8 (ByteArray.size (g8 (gp tx) n)))] ?_
    conv=>whnf
    refine⟨⟨I,⟨I,rfl,OM,OM,rfl⟩,I,I⟩,?_⟩
    ·refine⟨n+1,[some 4,some 7],[],⟨rfl,⟨rfl,rfl,rfl,(congrArg (fun z=>V.t (T.v (Value.string z))) (Bh (gp tx) n OM)),rfl,I⟩,⟨FZ,⟨⟨rfl,⟨rfl,⟨rfl,⟨rfl,⟨rfl,⟨rfl,⟨rfl,⟨rfl,⟨(congrArg (V.own _) (VH OM)),I⟩⟩⟩⟩⟩⟩⟩⟩⟩,I⟩⟩,I⟩,?_,?_⟩
     rotate_left
     (dsimp only;omega)
     dsimp only
     omega
   ·have heq:=Fz hn8
    have em:n = 0→(bA tx).size = 8→rdM (tx.extract 8 tx.size) = ⟨y1.toNat,y2.toNat,y3.toNat,(y4.toNat:Int) * 256+y5.toNat,(y6.toNat:Int) * 16777216+ (y7.toNat:Int) * 65536+ (y8.toNat:Int) * 256+y9.toNat,y10.toNat,(bA tx).extract 0 8,cK (gp tx) n⟩:=by
     intro hn0 h8
     rw[e1,hn0,show cK (gp tx) 0 = []from rfl]
     rw[show(bA tx).extract 0 8 = bA tx by rw[←h8,ByteArray.extract_zero_size]]
    conv=>whnf
    refine Ws<|g 91 92 []<|J UB<|Wc<|J (noT nO) fun _=>We<|Ws<|g 92 104 [.call (V.b (decide (bL {kind:=(↑(UInt8.toNat y1):Int),frm:=(↑(UInt8.toNat y2):Int),to:=(↑(UInt8.toNat y3):Int),epoch:=(↑(UInt8.toNat y4):Int) * 256+ (↑(UInt8.toNat y5):Int),lease:=(↑(UInt8.toNat y6):Int) * 16777216+ (↑(UInt8.toNat y7):Int) * 65536+ (↑(UInt8.toNat y8):Int) * 256+ (↑(UInt8.toNat y9):Int),task:=(↑(UInt8.toNat y10):Int),text:=ByteArray.extract (bA tx) 0 8,inputs:=cK (gp tx) n:Message}))) [[]]]<|J QZ<|Wc<|JN (fun h4=>?_) fun h4=>?_
    refine g 104 106 []<|J QZ<|RT ?_
    rotate_left
    refine Wk<|g 6 107 []<|J QZ<|RT ?_
    rotate_left
    ·exact congrArg gA (mJ h0 (fun h=>by
      have h4:=ho h.1
      have h5:=((hbi h.1).1 h.2).1
      rw[em OM h4]at h
      exact absurd h.1 AS)).symm
    ·have hok:bL ⟨y1.toNat,y2.toNat,y3.toNat,(y4.toNat:Int) * 256+y5.toNat,(y6.toNat:Int) * 16777216+ (y7.toNat:Int) * 65536+ (y8.toNat:Int) * 256+y9.toNat,y10.toNat,(bA tx).extract 0 8,cK (gp tx) n⟩:=by assumption
     have hn0:n = 0:=by
      have:(cK (gp tx) n).length = 0:=by
       unfold bL at hok;dsimp only at hok;omega
      omega
     have h8:(bA tx).size = 8:=by omega
     exact congrArg gA (Bn h0 OM (Decidable.not_not.1 hs) (em hn0 h8) hok ((hbi (by rw[em hn0 h8];exact hok)).2 ⟨by omega,fun h=>absurd h3 h⟩)).symm
 ·rw[if_neg h3]at hbi
  have e1:∀ n,n = (tx.size - 19) / 8→rdM (tx.extract 8 tx.size) = ⟨y1.toNat,y2.toNat,y3.toNat,(y4.toNat:Int) * 256+y5.toNat,(y6.toNat:Int) * 16777216+ (y7.toNat:Int) * 65536+ (y8.toNat:Int) * 256+y9.toNat,y10.toNat,emp,cK (bA tx) n⟩:=by
   intro n hn;rw[←e];unfold rdM rdF;rw[bI hy1,if_neg h3,if_neg h3,hn,hx,bA,hx,show tx.size - 8 - 11 = tx.size - 19 by omega]
  refine dj ?_
  conv=>whnf
  refine g 0 0 []<|J UB<|Ws<|gd 9 25 [[],[],[],[],[BF],[BF],[BF],[BF],[],[BF],[BF,.n (8),.s (ByteArray.extract tx 0 8)],[BF],[BF,.n (8),.s (ByteArray.extract tx 8 (ByteArray.size tx))],[BF],[BF,.call (V.s (fH (ByteArray.extract tx 8 (ByteArray.size tx)) key)) [[],[]]],[BF],[BF]] ?_
  conv=>whnf
  refine J QZ<|J KR<|Wc<|J (noT (by simp_all)) fun _=>Wk<|g 25 29 [.n (8),.s (ByteArray.extract tx 8 (ByteArray.size tx))]<|J QZ<|gd 29 68 [[],[.i ((↑(UInt8.toNat y1):Int))],[.i ((↑(UInt8.toNat y1):Int))],[],[.i ((↑(UInt8.toNat y2):Int))],[.i ((↑(UInt8.toNat y2):Int))],[],[.i ((↑(UInt8.toNat y3):Int))],[.i ((↑(UInt8.toNat y3):Int))],[],[.i ((↑(UInt8.toNat y4):Int))],[.i ((↑(UInt8.toNat y4):Int))],[.i (IntKind.wrap IntKind.i64 ((↑(UInt8.toNat y4):Int) * 2 ^ min (Int.toNat 8) (IntKind.bits IntKind.i64)))],[],[.i ((↑(UInt8.toNat y5):Int))],[.i ((↑(UInt8.toNat y5):Int))],[.i (IntKind.wrap IntKind.i64 (↑(BitVec.toNat (BitVec.ofInt (IntKind.bits IntKind.i64) (IntKind.wrap IntKind.i64 ((↑(UInt8.toNat y4):Int) * 2 ^ min (Int.toNat 8) (IntKind.bits IntKind.i64)))|||BitVec.ofInt (IntKind.bits IntKind.i64) (↑(UInt8.toNat y5):Int))):Int))],[],[.i ((↑(UInt8.toNat y6):Int))],[.i ((↑(UInt8.toNat y6):Int))],[.i (IntKind.wrap IntKind.i64 ((↑(UInt8.toNat y6):Int) * 2 ^ min (Int.toNat 24) (IntKind.bits IntKind.i64)))],[],[.i ((↑(UInt8.toNat y7):Int))],[.i ((↑(UInt8.toNat y7):Int))],[.i (IntKind.wrap IntKind.i64 ((↑(UInt8.toNat y7):Int) * 2 ^ min (Int.toNat 16) (IntKind.bits IntKind.i64)))],[.i (IntKind.wrap IntKind.i64 (↑(BitVec.toNat (BitVec.ofInt (IntKind.bits IntKind.i64) (IntKind.wrap IntKind.i64 ((↑(UInt8.toNat y6):Int) * 2 ^ min (Int.toNat 24) (IntKind.bits IntKind.i64)))|||BitVec.ofInt (IntKind.bits IntKind.i64) (IntKind.wrap IntKind.i64 ((↑(UInt8.toNat y7):Int) * 2 ^ min (Int.toNat 16) (IntKind.bits IntKind.i64))))):Int))],[],[.i ((↑(UInt8.toNat y8):Int))],[.i ((↑(UInt8.toNat y8):Int))],[.i (IntKind.wrap IntKind.i64 ((↑(UInt8.toNat y8):Int) * 2 ^ min (Int.toNat 8) (IntKind.bits IntKind.i64)))],[.i (IntKind.wrap IntKind.i64 (↑(BitVec.toNat (BitVec.ofInt (IntKind.bits IntKind.i64) (IntKind.wrap IntKind.i64 (↑(BitVec.toNat (BitVec.ofInt (IntKind.bits IntKind.i64) (IntKind.wrap IntKind.i64 ((↑(UInt8.toNat y6):Int) * 2 ^ min (Int.toNat 24) (IntKind.bits IntKind.i64)))|||BitVec.ofInt (IntKind.bits IntKind.i64) (IntKind.wrap IntKind.i64 ((↑(UInt8.toNat y7):Int) * 2 ^ min (Int.toNat 16) (IntKind.bits IntKind.i64))))):Int))|||BitVec.ofInt (IntKind.bits IntKind.i64) (IntKind.wrap IntKind.i64 ((↑(UInt8.toNat y8):Int) * 2 ^ min (Int.toNat 8) (IntKind.bits IntKind.i64))))):Int))],[],[.i ((↑(UInt8.toNat y9):Int))],[.i ((↑(UInt8.toNat y9):Int))],[.i (IntKind.wrap IntKind.i64 (↑(BitVec.toNat (BitVec.ofInt (IntKind.bits IntKind.i64) (IntKind.wrap IntKind.i64 (↑(BitVec.toNat (BitVec.ofInt (IntKind.bits IntKind.i64) (IntKind.wrap IntKind.i64 (↑(BitVec.toNat (BitVec.ofInt (IntKind.bits IntKind.i64) (IntKind.wrap IntKind.i64 ((↑(UInt8.toNat y6):Int) * 2 ^ min (Int.toNat 24) (IntKind.bits IntKind.i64)))|||BitVec.ofInt (IntKind.bits IntKind.i64) (IntKind.wrap IntKind.i64 ((↑(UInt8.toNat y7):Int) * 2 ^ min (Int.toNat 16) (IntKind.bits IntKind.i64))))):Int))|||BitVec.ofInt (IntKind.bits IntKind.i64) (IntKind.wrap IntKind.i64 ((↑(UInt8.toNat y8):Int) * 2 ^ min (Int.toNat 8) (IntKind.bits IntKind.i64))))):Int))|||BitVec.ofInt (IntKind.bits IntKind.i64) (↑(UInt8.toNat y9):Int))):Int))],[],[.i ((↑(UInt8.toNat y10):Int))],[.i ((↑(UInt8.toNat y10):Int))],[],[],[]] ?_
  conv=>whnf
  refine J QZ<|J KR<|g 68 71 [.i ((↑(UInt8.toNat y11):Int)),.i ((↑(UInt8.toNat y11):Int))]<|J QZ<|g 71 73 [.n (11),.s (ByteArray.extract (ByteArray.extract tx 8 (ByteArray.size tx)) 11 (ByteArray.size (ByteArray.extract tx 8 (ByteArray.size tx))))]<|J QZ<|Ws<|g 73 75 []<|J UC<|Wc<|J (noT dO) fun _=>Wk<|Ws<|g 8 89 [.i (8 * (↑(UInt8.toNat y11):Int))]<|J QZ<|Wc<|JN (fun h1=>?_) fun h1=>?_
  refine g 89 91 []<|J QZ<|RT ?_
  rotate_left
  refine Wk<|Ws<|Wb ?_
  rotate_left
  ·replace h1:¬((bA tx).size:Int) = 8 * (y11.toNat:Int):=h1
   exact congrArg gA (mJ h0 (fun h=>by have h5:=(hbi h.1).1 h.2;have:=h5.2 h3;omega)).symm
  ·replace h1:((bA tx).size:Int) = 8 * (y11.toNat:Int):=h1
   refine Wl (fun s (n:Nat)=>⟨(SK s [0,4,5] [(6,.s (g8 (bA tx) n)),(7,s.s 7)]),[(4,(CK s 4 0 8 [])),(7,[.t (.i y1.toNat),.t (.i y2.toNat),.t (.i y3.toNat),.t (.i ((y4.toNat:Int) * 256+y5.toNat)),.t (.i ((y6.toNat:Int) * 16777216+ (y7.toNat:Int) * 65536+ (y8.toNat:Int) * 256+y9.toNat)),.t (.i y10.toNat),.t (.s emp),.own [false] ((cK (bA tx) n).map ai)])],[]⟩) (fun(n:Nat)=>8 * n≤(bA tx).size) (fun(n:Nat)=>(bA tx).size - 8 * n) (0) [some 4,some 7] [] ⟨rfl,⟨rfl,rfl,rfl,(congrArg (fun z=>V.t (T.v (Value.string z))) (Bg (bA tx))),rfl,I⟩,⟨FZ,⟨⟨rfl,⟨rfl,⟨rfl,⟨rfl,⟨(congrArg (fun z=>V.t (T.v (Value.int _ z))) (f1)),⟨(congrArg (fun z=>V.t (T.v (Value.int _ z))) (f2)),FZ⟩⟩⟩⟩⟩⟩,I⟩⟩,I⟩ OM ?_
   intro n hn
   have hrz:=kG (bA tx) n
   have hcl:=sz (bA tx) n
   have c2:=cO ⟨y1.toNat,y2.toNat,y3.toNat,(y4.toNat:Int) * 256+y5.toNat,(y6.toNat:Int) * 16777216+ (y7.toNat:Int) * 65536+ (y8.toNat:Int) * 256+y9.toNat,y10.toNat,emp,cK (bA tx) n⟩ (by rw[show(Message.inputs ⟨y1.toNat,y2.toNat,y3.toNat,(y4.toNat:Int) * 256+y5.toNat,(y6.toNat:Int) * 16777216+ (y7.toNat:Int) * 65536+ (y8.toNat:Int) * 256+y9.toNat,y10.toNat,emp,cK (bA tx) n⟩) = cK (bA tx) n from rfl,hcl];omega)
   by_cases hn8:8 * n < (bA tx).size
   ·have hne:=Bi hn8
    conv=>whnf
    refine Ws<|g 91 92 []<|J UB<|Wc<|J (fun _=>(Wk (Ws (Wb (rgd [[],[],[],[.n (8),.s (ByteArray.extract (g8 (bA tx) n) 0 8)],[],[],[],[]] ?_))))) (noF (dP OM))
    conv=>whnf
    refine⟨⟨I,I,I,⟨rfl,I,OM,OM,rfl⟩,US,Zao,I,UA,I⟩,by kernel_rfl,?_⟩
    refine rg [.n (8),.s (ByteArray.extract (g8 (bA tx) n) 8 (ByteArray.size (g8 (bA tx) n)))] ?_
    conv=>whnf
    refine⟨⟨I,⟨I,rfl,OM,OM,rfl⟩,I,I⟩,?_⟩
    ·refine⟨n+1,[some 4,some 7],[],⟨rfl,⟨rfl,rfl,rfl,(congrArg (fun z=>V.t (T.v (Value.string z))) (Bh (bA tx) n OM)),rfl,I⟩,⟨FZ,⟨⟨rfl,⟨rfl,⟨rfl,⟨rfl,⟨rfl,⟨rfl,⟨rfl,⟨rfl,⟨(congrArg (V.own _) (VH OM)),I⟩⟩⟩⟩⟩⟩⟩⟩⟩,I⟩⟩,I⟩,?_,?_⟩
     rotate_left
     (dsimp only;omega)
     dsimp only
     omega
   ·have heq:=Fz hn8
    have em:=e1 n OM
    conv=>whnf
    refine Ws<|g 91 92 []<|J UB<|Wc<|J (noT nO) fun _=>We<|Ws<|g 92 104 [.call (V.b (decide (bL {kind:=(↑(UInt8.toNat y1):Int),frm:=(↑(UInt8.toNat y2):Int),to:=(↑(UInt8.toNat y3):Int),epoch:=(↑(UInt8.toNat y4):Int) * 256+ (↑(UInt8.toNat y5):Int),lease:=(↑(UInt8.toNat y6):Int) * 16777216+ (↑(UInt8.toNat y7):Int) * 65536+ (↑(UInt8.toNat y8):Int) * 256+ (↑(UInt8.toNat y9):Int),task:=(↑(UInt8.toNat y10):Int),text:=emp,inputs:=cK (bA tx) n:Message}))) [[]]]<|J QZ<|Wc<|JN (fun h2=>?_) fun h2=>?_
    refine g 104 106 []<|J QZ<|RT ?_
    rotate_left
    refine Wk<|g 6 107 []<|J QZ<|RT ?_
    rotate_left
    ·exact congrArg gA (mJ h0 (fun h=>by rw[em]at h;exact absurd h.1 AS)).symm
    ·have hok:bL ⟨y1.toNat,y2.toNat,y3.toNat,(y4.toNat:Int) * 256+y5.toNat,(y6.toNat:Int) * 16777216+ (y7.toNat:Int) * 65536+ (y8.toNat:Int) * 256+y9.toNat,y10.toNat,emp,cK (bA tx) n⟩:=by assumption
     exact congrArg gA (Bn h0 OM (Decidable.not_not.1 hs) em hok ((hbi (by rw[em];exact hok)).2 ⟨by omega,fun h=>by omega⟩)).symm
end Go.K
end
section
open Go Go.Tm Go.Proofs
namespace Go.K
attribute [local irreducible] ByteArray.extract
theorem Qq{m:Message}{n:Nat}{x:ByteArray}(h:m.inputs[n]? = some x):gU m n++x = gU m (n+1):=by
 unfold gU;rw[Gg h];simp only[ByteArray.append_assoc]
theorem VU(x:Int):IntKind.u8.wrap x = x % 256:=by simp[IntKind.wrap,IntKind.bits,IntKind.signed]
theorem uc{x:Int}(k:Nat)(d:Int)(hk:(2:Int) ^ min k IntKind.i64.bits = d)(h:0≤d):IntKind.u8.wrap (x.fdiv (2 ^ min (Int.toNat (k:Int)) IntKind.i64.bits)) = x / d % 256:=by
 rw[Int.toNat_natCast,hk,VU,Int.fdiv_eq_ediv_of_nonneg _ h]
theorem JU{m:Message}(h:bL m):(⟨(bV ([m.kind,m.frm,m.to,IntKind.u8.wrap (m.epoch.fdiv (2 ^ min (Int.toNat 8) IntKind.i64.bits)),IntKind.u8.wrap m.epoch,IntKind.u8.wrap (m.lease.fdiv (2 ^ min (Int.toNat 24) IntKind.i64.bits)),IntKind.u8.wrap (m.lease.fdiv (2 ^ min (Int.toNat 16) IntKind.i64.bits)),IntKind.u8.wrap (m.lease.fdiv (2 ^ min (Int.toNat 8) IntKind.i64.bits)),IntKind.u8.wrap m.lease,m.task,IntKind.u8.wrap ((m.inputs.map ai).length:Int)].map b1T)).toArray⟩:ByteArray) ++m.text = gU m 0:=by
 obtain⟨h1,h2,h3,h4,h5,h6⟩:=gf h
 have h7:=(dp h).1
 have e:[m.kind,m.frm,m.to,IntKind.u8.wrap (m.epoch.fdiv (2 ^ min (Int.toNat 8) IntKind.i64.bits)),IntKind.u8.wrap m.epoch,IntKind.u8.wrap (m.lease.fdiv (2 ^ min (Int.toNat 24) IntKind.i64.bits)),IntKind.u8.wrap (m.lease.fdiv (2 ^ min (Int.toNat 16) IntKind.i64.bits)),IntKind.u8.wrap (m.lease.fdiv (2 ^ min (Int.toNat 8) IntKind.i64.bits)),IntKind.u8.wrap m.lease,m.task,IntKind.u8.wrap ((m.inputs.map ai).length:Int)] = BI m:=by
  have a1:IntKind.u8.wrap (m.epoch.fdiv (2 ^ min (Int.toNat 8) IntKind.i64.bits)) = m.epoch / 256 % 256:=uc 8 256 (by decide) (by decide)
  have a2:IntKind.u8.wrap (m.lease.fdiv (2 ^ min (Int.toNat 24) IntKind.i64.bits)) = m.lease / 16777216 % 256:=uc 24 16777216 (by decide) (by decide)
  have a3:IntKind.u8.wrap (m.lease.fdiv (2 ^ min (Int.toNat 16) IntKind.i64.bits)) = m.lease / 65536 % 256:=uc 16 65536 (by decide) (by decide)
  have a4:IntKind.u8.wrap (m.lease.fdiv (2 ^ min (Int.toNat 8) IntKind.i64.bits)) = m.lease / 256 % 256:=uc 8 256 (by decide) (by decide)
  have b1:m.epoch / 256 % 256 = m.epoch / 256:=by omega
  have b2:m.lease / 16777216 % 256 = m.lease / 16777216:=by omega
  unfold BI
  rw[List.length_map]
  rw[a1,a2,a3,a4,b1,b2,VU,VU,wu8 (z:=(m.inputs.length:Int)) OM OM]
 rw[e,sB,←Gj (FR h),ki]
theorem rG(m:Message)(key:ByteArray)(hl:m.inputs.length≤9223372036854775806):F rk [.val (eS m),.val (.s key)] (.s (dR m key)) [[],[]]:=by
 have c1:=cO m hl
 by_cases h:bL m
 ·have hb:=gJ h
  obtain⟨h1,h2,h3,h4,h5,h6⟩:=gf h
  obtain⟨h7,h8,h9⟩:=dp h
  rw[show decide (bL m) = true from decide_eq_true h]at c1
  by_cases hk:key.size≤30
  ·have c4:=o5 (dA m) key OM OM
   have hs:(fH (dA m) key).size = 8:=dY _
   refine gy ?_
   conv=>whnf
   refine g 0 0 []<|J QZ<|Ws<|g 11 16 [.call VT [[]],BF,BF,BF,BF]<|J QZ<|Wc<|J (noT dO) fun _=>Wk<|g 10 56 [.i m.kind,.i m.frm,.i m.to,.i (Int.fdiv m.epoch (2 ^ min (Int.toNat 8) (IntKind.bits IntKind.i64))),.i (IntKind.wrap IntKind.u8 (Int.fdiv m.epoch (2 ^ min (Int.toNat 8) (IntKind.bits IntKind.i64)))),.i (IntKind.wrap IntKind.u8 m.epoch),.i (Int.fdiv m.lease (2 ^ min (Int.toNat 24) (IntKind.bits IntKind.i64))),.i (IntKind.wrap IntKind.u8 (Int.fdiv m.lease (2 ^ min (Int.toNat 24) (IntKind.bits IntKind.i64)))),.i (Int.fdiv m.lease (2 ^ min (Int.toNat 16) (IntKind.bits IntKind.i64))),.i (IntKind.wrap IntKind.u8 (Int.fdiv m.lease (2 ^ min (Int.toNat 16) (IntKind.bits IntKind.i64)))),.i (Int.fdiv m.lease (2 ^ min (Int.toNat 8) (IntKind.bits IntKind.i64))),.i (IntKind.wrap IntKind.u8 (Int.fdiv m.lease (2 ^ min (Int.toNat 8) (IntKind.bits IntKind.i64)))),.i (IntKind.wrap IntKind.u8 m.lease),.i m.task,.i (IntKind.wrap IntKind.u8 (↑(List.length (List.map ai m.inputs)):Int))]<|J QZ<|g 56 61 [.s ({data:=List.toArray (bV [[T.v (Value.int IntKind.u8 m.kind)],[T.v (Value.int IntKind.u8 m.frm)],[T.v (Value.int IntKind.u8 m.to)],[T.v (Value.int IntKind.u8 (IntKind.wrap IntKind.u8 (Int.fdiv m.epoch (2 ^ min (Int.toNat 8) (IntKind.bits IntKind.i64)))))],[T.v (Value.int IntKind.u8 (IntKind.wrap IntKind.u8 m.epoch))],[T.v (Value.int IntKind.u8 (IntKind.wrap IntKind.u8 (Int.fdiv m.lease (2 ^ min (Int.toNat 24) (IntKind.bits IntKind.i64)))))],[T.v (Value.int IntKind.u8 (IntKind.wrap IntKind.u8 (Int.fdiv m.lease (2 ^ min (Int.toNat 16) (IntKind.bits IntKind.i64)))))],[T.v (Value.int IntKind.u8 (IntKind.wrap IntKind.u8 (Int.fdiv m.lease (2 ^ min (Int.toNat 8) (IntKind.bits IntKind.i64)))))],[T.v (Value.int IntKind.u8 (IntKind.wrap IntKind.u8 m.lease))],[T.v (Value.int IntKind.u8 m.task)],[T.v (Value.int IntKind.u8 (IntKind.wrap IntKind.u8 (↑(List.length (List.map ai m.inputs)):Int)))]]):ByteArray}),.s ({data:=List.toArray (bV [[T.v (Value.int IntKind.u8 m.kind)],[T.v (Value.int IntKind.u8 m.frm)],[T.v (Value.int IntKind.u8 m.to)],[T.v (Value.int IntKind.u8 (IntKind.wrap IntKind.u8 (Int.fdiv m.epoch (2 ^ min (Int.toNat 8) (IntKind.bits IntKind.i64)))))],[T.v (Value.int IntKind.u8 (IntKind.wrap IntKind.u8 m.epoch))],[T.v (Value.int IntKind.u8 (IntKind.wrap IntKind.u8 (Int.fdiv m.lease (2 ^ min (Int.toNat 24) (IntKind.bits IntKind.i64)))))],[T.v (Value.int IntKind.u8 (IntKind.wrap IntKind.u8 (Int.fdiv m.lease (2 ^ min (Int.toNat 16) (IntKind.bits IntKind.i64)))))],[T.v (Value.int IntKind.u8 (IntKind.wrap IntKind.u8 (Int.fdiv m.lease (2 ^ min (Int.toNat 8) (IntKind.bits IntKind.i64)))))],[T.v (Value.int IntKind.u8 (IntKind.wrap IntKind.u8 m.lease))],[T.v (Value.int IntKind.u8 m.task)],[T.v (Value.int IntKind.u8 (IntKind.wrap IntKind.u8 (↑(List.length (List.map ai m.inputs)):Int)))]]):ByteArray} ++m.text)]<|J ⟨I,⟨I,(by repeat (first|exact kA|refine iX ?_)),rfl⟩,I,I,⟨rfl,(by simp only[bsz,ByteArray.size_append,jY];omega)⟩,I,I⟩ ?_
   refine Ws<|g 0 1 []<|J UD<|Wb<|Wl (fun s (n:Nat)=>⟨((1,s.s 1)::(4,s.s 4)::(6,.s (gU m n))::(SK s [9,62,63] [(64,.i n)])),[],[]⟩) (fun(n:Nat)=>n≤m.inputs.length) (fun(n:Nat)=>m.inputs.length - n) (0) [] [] ⟨rfl,⟨rfl,rfl,(congrArg (fun z=>V.t (T.v (Value.string z))) (JU h)),FZ,rfl,rfl,rfl,I⟩,I,I⟩ OM ?_
   intro n hn
   have hc:=sC h n hn
   have hs2:(fH (gU m n) key).size = 8:=dY _
   conv=>whnf
   refine g 0 0 []<|J UA<|Ws<|Wc<|JD (fun h10=>?_) fun h10=>?_
   simp only[LM]at h10
   refine Wk<|Ws<|Wb ?_
   obtain⟨y1,hy1⟩:=ae (xs:=Message.inputs m) (n:=n) OM
   have hm1:=h8 y1 (List.mem_of_getElem? hy1)
   refine g 65 68 [.x (ai y1)]<|J QZ<|rg [.s (gU m n++y1)]<|J QZ<|rg [.i ((n:Int) +1)]<|J QZ ?_
   rotate_left
   simp only[LM]at h10
   refine We<|g 62 77 [.call (V.s (fH (gU m n) key)) [[],[]],.s (fH (gU m n) key++gU m n)]<|J (QA @o5)<|RT ?_
   rotate_left
   ·refine⟨n+1,[],[],⟨rfl,⟨rfl,rfl,(congrArg (fun z=>V.t (T.v (Value.string z))) (Qq AS)),⟨_,rfl,_,_,rfl,rfl,_,_,rfl,rfl,_,_,rfl,rfl,_,_,rfl,rfl,_,_,rfl,rfl,_,_,rfl,rfl,_,_,rfl,rfl,_,_,rfl,rfl,rfl⟩,rfl,rfl,rfl,I⟩,I,I⟩,?_,?_⟩
    rotate_left
    (dsimp only;omega)
    dsimp only
    omega
   ·exact vs (by rw[show n = m.inputs.length by omega,wX];exact(if_pos ⟨h,hk⟩).symm)
  ·refine gy ?_
   conv=>whnf
   refine g 0 0 []<|J QZ<|Ws<|g 11 16 [.call VT [[]],BF,BF,BF,BF]<|J QZ<|Wc<|J (fun _=>(g 16 17 []<|J UA (RT ?_))) (noF tO)
   exact vs (if_neg (fun h=>hk h.2)).symm
 ·rw[show decide (bL m) = false from decide_eq_false h]at c1
  refine gy ?_
  conv=>whnf
  refine g 0 0 []<|J QZ<|Ws<|g 11 16 [.call VF [[]],BT,BT,BT,BT]<|J QZ<|Wc<|J (fun _=>(g 16 17 []<|J UA (RT ?_))) (noF rfl)
  exact vs (if_neg (fun x=>h x.1)).symm
end Go.K
end
section
open Go Go.Tm Go.Proofs
namespace Go.K
def kQ(m:Message):Prop:=m.inputs.length≤64∧m.text.size≤64∧∀ s∈m.inputs,s.size≤64
theorem W8{xs:List ByteArray}{x:ByteArray}:xs.map ai++ [ai x] = (xs++ [x]).map ai:=by rw[List.map_append];rfl
theorem ZA{xs:List ByteArray}{x:ByteArray}{n:Nat}(h:∀ s∈xs,s.size = n)(hx:x.size = n):∀ s∈xs++ [x],s.size = n:=fun s hs=>by
 rcases List.mem_append.1 hs with hs|hs
 ·exact h s hs
 ·rw[List.mem_singleton.1 hs];exact hx
abbrev aas(l:List Int)(pos:Int)(o:List (List V)):V→List (List V)→Prop:=fun res outs=>∃ m pos2,res = bx m∧outs = rdC l pos2 :: o∧(kQ m∧bL m)∧pos≤pos2∧pos2≤pos+40
theorem S5(l:List Int)(pos:Int)(hl:dN l)(h0:0≤pos)(h1:pos≤1000000):∃ res outs,aas l pos [] res outs∧F lx [.ptr (rdC l pos)] res outs:=by
 have p0:=aj l pos 5
 have p1:=aj l (pos+1) 3
 have p2:=aj l (pos+1+1) 3
 have p3:=aj l (pos+1+1+1) 7
 have p4:=aj l (pos+1+1+1+1) 6
 have p5:=aj l (pos+1+1+1+1+1) 3
 obtain⟨x,hx1,hx2⟩:=cX [1,2,3,256,1000000,1000001,300000000] (ac l (pos+1+1+1) 7) p3.1 (by show _ < (7:Int);omega)
 have hx3:([[T.i 1],[T.i 2],[T.i 3],[T.i 256],[T.i 1000000],[T.i 1000001],[T.i 300000000]]:List (List T))[(ac l (pos+1+1+1) 7).toNat]? = some [T.i x]:=hx2
 have e0:emp.size = 0:=rfl
 have hxb:1≤x∧x≤300000000:=by
  simp only[List.mem_cons,List.not_mem_nil,or_false]at hx1
  omega
 have e0i:(([]:List ByteArray).length:Int) = 0:=rfl
 have cu:=qL (1+ac l pos 5)
 have sm0:∀ t:ByteArray,t.size≤64→∀ a b c d e f:Int,kQ ⟨a,b,c,d,e,f,t,[]⟩:=fun t ht a b c d e f=>⟨Nat.zero_le _,ht,fun s hs=>by cases hs⟩
 by_cases k0:ac l pos 5 = 0
 ·refine gh ?_
  conv=>whnf
  refine g 0 0 []<|J UA<|g 11 18 [.call (V.i (ac l pos 5)) ([rdC l (pos+1),[]]),.i (1+ac l pos 5),.call (V.i (ac l (pos+1) 3)) ([rdC l (pos+1+1),[]]),.i (1+ac l (pos+1) 3)]<|J (QA @aa)<|g 18 27 [.call (V.tup [V.b (decide (1≤1+ac l pos 5∧1+ac l pos 5≤4)),V.b (decide (1+ac l pos 5 = 1∨1+ac l pos 5 = 3)),V.b (decide (1+ac l pos 5 = 3)),V.b (decide (1+ac l pos 5 = 1)),V.b (decide (1+ac l pos 5 = 1∨1+ac l pos 5 = 4))]) [[]]]<|J QZ<|g 28 30 [.call (V.i (ac l (pos+1+1) 3)) ([rdC l (pos+1+1+1),[]]),.i (1+ac l (pos+1+1) 3)]<|J (QA @aa)<|Ws<|g 8 9 []<|J UA<|Wc<|J (fun _=>(rg []<|J QZ (Ws (g 30 33 []<|J UA (Wc<|J (fun _=>(rg [.call (V.i (ac l (pos+1+1+1) 7)) ([rdC l (pos+1+1+1+1),[]]),.n (Int.toNat (ac l (pos+1+1+1) 7)),.x ([T.i x])]<|J (QA @aa) ?_)) (noF tO)))))) (noF tO)
  refine Ws<|g 35 42 []<|J UA<|Wc<|J (fun _=>(rg [.call (V.i (ac l (pos+1+1+1+1) 6)) ([rdC l (pos+1+1+1+1+1),[]])]<|J (QA @aa) (Ws (g 42 46 []<|J UA (Wc<|J (noT dO) fun _=>(Wk (Ws (g 4 10 []<|J UA (Wc<|J (fun _=>(g 46 53 [.call (V.i (ac l (pos+1+1+1+1+1) 3)) ([rdC l (pos+1+1+1+1+1+1),[]])]<|J (QA @aa) ?_)) (noF tO)))))))))) (noF tO)
  refine Wb ?_
  refine Wl (fun s (x2:List ByteArray×Int×Int)=>⟨(SK s [0,2,3] [(10,.i x2.2.1),(27,s.s 27)]),[(2,(CK s 2 0 8 [])),(65,[.t (u8s l),.t (.i x2.2.2)]),(3,[.t (.i (1+ac l pos 5)),.t (.i 0),.t (.i (1+ac l (pos+1+1) 3)),.t (.i (1+ac l (pos+1) 3)),.t (.i x),.t (.i (ac l (pos+1+1+1+1) 6)),.t (.s emp),.own [false] (x2.1.map ai)])],[]⟩) (fun(x2:List ByteArray×Int×Int)=>0≤x2.2.1∧x2.1.length+x2.2.1≤3∧(∀ s∈x2.1,s.size = 8)∧pos+6≤x2.2.2∧x2.2.2≤pos+6+x2.1.length) (fun(x2:List ByteArray×Int×Int)=>x2.2.1.toNat) (([],ac l (pos+1+1+1+1+1) 3,pos+6)) [some 2,some 65,some 3] [] ⟨rfl,FZ,⟨FZ,⟨⟨rfl,⟨rfl,⟨(congrArg (fun z=>V.t (T.v (Value.int _ z))) (by show pos+1+1+1+1+1+1 = pos+6;omega)),I⟩⟩⟩,FZ⟩⟩,I⟩ ?_ ?_
  ·exact⟨p5.1,by show((0:Nat):Int) +ac l (pos+1+1+1+1+1) 3≤3;omega,(fun s hs=>by cases hs),Int.le_refl _,by show pos+6≤pos+6+ ((0:Nat):Int);omega⟩
  rintro⟨ts,c,q⟩ ⟨i1,i2,i3,i4,i5⟩
  dsimp only at i1 i2 i3 i4 i5
  by_cases hc:0 < c
  ·conv=>whnf
   refine Ws<|g 53 54 []<|J UB<|Wc<|J (fun _=>(Wk (Ws (Wb (rgd [[],[],[],[.call (V.s (qa (dD (ac l q 50)))) ([rdC l (q+1)])],[],[],[],[]] ?_))))) (noF tO)
   conv=>whnf
   refine⟨⟨I,I,I,⟨UA,I,UA,UA,dS _ _ OX OX OX⟩,US,Zao,I,UA,I⟩,by kernel_rfl,?_⟩
   refine rg [.i (Prod.fst (Prod.snd (ts,c,q)) - 1)]<|J QZ ?_
   refine⟨(ts++ [qa (dD (ac l q 50))],c - 1,q+1),[some 2,some 65,some 3],[],⟨rfl,FZ,⟨FZ,⟨FZ,⟨⟨rfl,⟨rfl,⟨rfl,⟨rfl,⟨rfl,⟨rfl,⟨rfl,⟨rfl,⟨(congrArg (V.own _) (W8)),I⟩⟩⟩⟩⟩⟩⟩⟩⟩,I⟩⟩⟩,I⟩,?_,?_⟩
   rotate_left
   (dsimp only;omega)
   dsimp only
   exact⟨by omega,by rw[mf];omega,ZA i3 (dY _),by omega,by rw[mf];omega⟩
  ·conv=>whnf
   refine Ws<|g 53 54 []<|J UB<|Wc<|J (noT dO) fun _=>We<|g 3 11 []<|J QZ<|W.ret<|EndsW.rt<|J UI ?_
   refine⟨⟨1+ac l pos 5,0,1+ac l (pos+1+1) 3,1+ac l (pos+1) 3,x,ac l (pos+1+1+1+1) 6,emp,ts⟩,q,rfl,rfl,⟨⟨by dsimp only;omega,Nat.zero_le 64,fun s hs=>by have:=i3 s hs;omega⟩,?_⟩,by omega,by omega⟩
   exact⟨⟨by dsimp only;omega,by dsimp only;omega⟩,.inl ⟨by dsimp only;omega,rfl,⟨by dsimp only;omega,by dsimp only;omega⟩,hxb,⟨by dsimp only;omega,by dsimp only;omega⟩,rfl,⟨i3,by dsimp only;omega⟩⟩⟩
 ·by_cases k1:ac l pos 5 = 1
  ·refine gh ?_
   conv=>whnf
   refine g 0 0 []<|J UA<|g 11 18 [.call (V.i (ac l pos 5)) ([rdC l (pos+1),[]]),.i (1+ac l pos 5),.call (V.i (ac l (pos+1) 3)) ([rdC l (pos+1+1),[]]),.i (1+ac l (pos+1) 3)]<|J (QA @aa)<|g 18 27 [.call (V.tup [V.b (decide (1≤1+ac l pos 5∧1+ac l pos 5≤4)),V.b (decide (1+ac l pos 5 = 1∨1+ac l pos 5 = 3)),V.b (decide (1+ac l pos 5 = 3)),V.b (decide (1+ac l pos 5 = 1)),V.b (decide (1+ac l pos 5 = 1∨1+ac l pos 5 = 4))]) [[]]]<|J QZ<|g 28 30 [.call (V.i (ac l (pos+1+1) 3)) ([rdC l (pos+1+1+1),[]]),.i (1+ac l (pos+1+1) 3)]<|J (QA @aa)<|Ws<|g 8 9 []<|J UA<|Wc<|J (noT dO) fun _=>rg []<|J QZ<|Ws<|g 30 35 []<|J UA<|Wc<|J (fun _=>(rg [.call (V.i (ac l (pos+1+1+1) 7)) ([rdC l (pos+1+1+1+1),[]]),.n (Int.toNat (ac l (pos+1+1+1) 7)),.x ([T.i x])]<|J (QA @aa) ?_)) (noF tO)
   refine Ws<|g 35 42 []<|J UA<|Wc<|J (noT dO) fun _=>Wk<|Ws<|g 4 7 []<|J UA<|Wc<|J (noT dO) fun _=>Wk<|Ws<|g 7 10 []<|J UA<|Wc<|J (noT dO) fun _=>Wk ?_
   refine g 42 65 []<|J QZ<|W.ret<|EndsW.rt<|J UI ?_
   exact⟨⟨1+ac l pos 5,1+ac l (pos+1+1) 3,0,1+ac l (pos+1) 3,x,0,emp,[]⟩,_,rfl,rfl,⟨sm0 emp (Nat.zero_le 64) _ _ _ _ _ _,⟨⟨by dsimp only;omega,by dsimp only;omega⟩,.inr (.inl ⟨by dsimp only;omega,rfl,⟨by dsimp only;omega,by dsimp only;omega⟩,hxb,rfl,rfl,rfl⟩)⟩⟩,by omega,by omega⟩
  ·by_cases k2:ac l pos 5 = 2
   ·refine gh ?_
    conv=>whnf
    refine g 0 0 []<|J UA<|g 11 18 [.call (V.i (ac l pos 5)) ([rdC l (pos+1),[]]),.i (1+ac l pos 5),.call (V.i (ac l (pos+1) 3)) ([rdC l (pos+1+1),[]]),.i (1+ac l (pos+1) 3)]<|J (QA @aa)<|g 18 27 [.call (V.tup [V.b (decide (1≤1+ac l pos 5∧1+ac l pos 5≤4)),V.b (decide (1+ac l pos 5 = 1∨1+ac l pos 5 = 3)),V.b (decide (1+ac l pos 5 = 3)),V.b (decide (1+ac l pos 5 = 1)),V.b (decide (1+ac l pos 5 = 1∨1+ac l pos 5 = 4))]) [[]]]<|J QZ<|g 28 30 [.call (V.i (ac l (pos+1+1) 3)) ([rdC l (pos+1+1+1),[]]),.i (1+ac l (pos+1+1) 3)]<|J (QA @aa)<|Ws<|g 8 9 []<|J UA<|Wc<|J (noT dO) fun _=>rg []<|J QZ<|Ws<|g 30 35 []<|J UA<|Wc<|J (fun _=>(rg [.call (V.i (ac l (pos+1+1+1) 7)) ([rdC l (pos+1+1+1+1),[]]),.n (Int.toNat (ac l (pos+1+1+1) 7)),.x ([T.i x])]<|J (QA @aa) ?_)) (noF tO)
    refine Ws<|g 35 42 []<|J UA<|Wc<|J (fun _=>(rg [.call (V.i (ac l (pos+1+1+1+1) 6)) ([rdC l (pos+1+1+1+1+1),[]])]<|J (QA @aa) (Ws (g 42 46 []<|J UA (Wc<|J (fun _=>(rg [.call (V.s (qa (dD (ac l (pos+1+1+1+1+1) 50)))) ([rdC l (pos+1+1+1+1+1+1)])]<|J (QA @dS) (Ws (g 4 10 []<|J UA (Wc<|J (noT dO) fun _=>(Wk ?_)))))) (noF tO)))))) (noF tO)
    refine g 46 65 []<|J QZ<|W.ret<|EndsW.rt<|J UI ?_
    exact⟨⟨1+ac l pos 5,1+ac l (pos+1+1) 3,0,1+ac l (pos+1) 3,x,ac l (pos+1+1+1+1) 6,qa (dD (ac l (pos+1+1+1+1+1) 50)),[]⟩,_,rfl,rfl,⟨sm0 _ (by rw[dY];omega) _ _ _ _ _ _,⟨⟨by dsimp only;omega,by dsimp only;omega⟩,.inr (.inr (.inl ⟨by dsimp only;omega,rfl,⟨by dsimp only;omega,by dsimp only;omega⟩,hxb,⟨by dsimp only;omega,by dsimp only;omega⟩,by dsimp only;rw[dY];rfl,rfl⟩))⟩⟩,by omega,by omega⟩
   ·by_cases k3:ac l pos 5 = 3
    ·refine gh ?_
     conv=>whnf
     refine g 0 0 []<|J UA<|g 11 18 [.call (V.i (ac l pos 5)) ([rdC l (pos+1),[]]),.i (1+ac l pos 5),.call (V.i (ac l (pos+1) 3)) ([rdC l (pos+1+1),[]]),.i (1+ac l (pos+1) 3)]<|J (QA @aa)<|g 18 27 [.call (V.tup [V.b (decide (1≤1+ac l pos 5∧1+ac l pos 5≤4)),V.b (decide (1+ac l pos 5 = 1∨1+ac l pos 5 = 3)),V.b (decide (1+ac l pos 5 = 3)),V.b (decide (1+ac l pos 5 = 1)),V.b (decide (1+ac l pos 5 = 1∨1+ac l pos 5 = 4))]) [[]]]<|J QZ<|g 28 30 [.call (V.i (ac l (pos+1+1) 3)) ([rdC l (pos+1+1+1),[]]),.i (1+ac l (pos+1+1) 3)]<|J (QA @aa)<|Ws<|g 8 9 []<|J UA<|Wc<|J (fun _=>(rg []<|J QZ (Ws (g 30 33 []<|J UA (Wc<|J (fun _=>(rg [.call (V.i (ac l (pos+1+1+1) 7)) ([rdC l (pos+1+1+1+1),[]]),.n (Int.toNat (ac l (pos+1+1+1) 7)),.x ([T.i x])]<|J (QA @aa) ?_)) (noF tO)))))) (noF tO)
     refine Ws<|g 35 42 []<|J UA<|Wc<|J (noT dO) fun _=>Wk<|Ws<|g 4 7 []<|J UA<|Wc<|J (noT dO) fun _=>Wk<|Ws<|g 7 10 []<|J UA<|Wc<|J (noT dO) fun _=>Wk ?_
     refine g 42 65 []<|J QZ<|W.ret<|EndsW.rt<|J UI ?_
     exact⟨⟨1+ac l pos 5,0,1+ac l (pos+1+1) 3,1+ac l (pos+1) 3,x,0,emp,[]⟩,_,rfl,rfl,⟨sm0 emp (Nat.zero_le 64) _ _ _ _ _ _,⟨⟨by dsimp only;omega,by dsimp only;omega⟩,.inr (.inr (.inr (.inl ⟨by dsimp only;omega,rfl,⟨by dsimp only;omega,by dsimp only;omega⟩,hxb,rfl,rfl,rfl⟩)))⟩⟩,by omega,by omega⟩
    ·refine gh ?_
     conv=>whnf
     refine g 0 0 []<|J UA<|g 11 18 [.call (V.i (ac l pos 5)) ([rdC l (pos+1),[]]),.i (1+ac l pos 5),.call (V.i (ac l (pos+1) 3)) ([rdC l (pos+1+1),[]]),.i (1+ac l (pos+1) 3)]<|J (QA @aa)<|g 18 27 [.call (V.tup [V.b (decide (1≤1+ac l pos 5∧1+ac l pos 5≤4)),V.b (decide (1+ac l pos 5 = 1∨1+ac l pos 5 = 3)),V.b (decide (1+ac l pos 5 = 3)),V.b (decide (1+ac l pos 5 = 1)),V.b (decide (1+ac l pos 5 = 1∨1+ac l pos 5 = 4))]) [[]]]<|J QZ<|g 28 30 [.call (V.i (ac l (pos+1+1) 3)) ([rdC l (pos+1+1+1),[]]),.i (1+ac l (pos+1+1) 3)]<|J (QA @aa)<|Ws<|g 8 9 []<|J UA<|Wc<|J (noT dO) fun _=>rg []<|J QZ<|Ws<|g 30 35 []<|J UA<|Wc<|J (noT dO) fun _=>Wk ?_
     refine Ws<|g 4 6 []<|J UA<|Wc<|J (noT dO) fun _=>Wk<|Ws<|g 35 43 []<|J UA<|Wc<|J (noT dO) fun _=>Wk<|Ws<|g 6 10 []<|J UA<|Wc<|J (noT dO) fun _=>Wk ?_
     refine g 46 65 []<|J QZ<|W.ret<|EndsW.rt<|J UI ?_
     exact⟨⟨1+ac l pos 5,1+ac l (pos+1+1) 3,0,1+ac l (pos+1) 3,0,0,emp,[]⟩,_,rfl,rfl,⟨sm0 emp (Nat.zero_le 64) _ _ _ _ _ _,⟨⟨by dsimp only;omega,by dsimp only;omega⟩,.inr (.inr (.inr (.inr ⟨by dsimp only;omega,rfl,⟨by dsimp only;omega,by dsimp only;omega⟩,rfl,rfl,rfl,rfl⟩)))⟩⟩,by omega,by omega⟩
theorem wS(l:List Int)(pos:Int)(h:dN l∧0≤pos∧pos≤1000000):∃ x:Message×Int,F lx [.ptr (rdC l pos)] (bx x.1) [rdC l x.2]∧(kQ x.1∧bL x.1)∧pos≤x.2∧x.2≤pos+40:=by
 obtain⟨res,outs,⟨q,pos2,rfl,rfl,h1,h2,h3⟩,hF⟩:=S5 l pos h.1 h.2.1 h.2.2
 exact⟨(q,pos2),hF,h1,h2,h3⟩
open Classical in
noncomputable def ng(l:List Int)(pos:Int):Message×Int:=if h:dN l∧0≤pos∧pos≤1000000 then(wS l pos h).choose else(⟨5,1,0,1,0,0,emp,[]⟩,pos)
theorem Es(l:List Int)(pos:Int)(hl:dN l)(h0:0≤pos)(h1:pos≤1000000):F lx [.ptr (rdC l pos)] (bx (ng l pos).1) [rdC l (ng l pos).2]:=by
 have h:dN l∧0≤pos∧pos≤1000000:=⟨hl,h0,h1⟩
 rw[ng,dif_pos h]
 exact(wS l pos h).choose_spec.1
theorem SO(l:List Int)(pos:Int):(kQ (ng l pos).1∧bL (ng l pos).1)∧pos≤(ng l pos).2∧(ng l pos).2≤pos+40:=by
 unfold ng
 split
 ·rename_i h;exact(wS l pos h).choose_spec.2
 ·exact⟨⟨⟨Nat.zero_le _,Nat.zero_le 64,fun s hs=>by cases hs⟩,⟨⟨by dsimp only;omega,by dsimp only;omega⟩,.inr (.inr (.inr (.inr ⟨rfl,rfl,⟨by dsimp only;omega,by dsimp only;omega⟩,rfl,rfl,rfl,rfl⟩)))⟩⟩,Int.le_refl _,by dsimp only;omega⟩
end Go.K
end
section
open Go Go.Tm Go.Proofs
namespace Go.K
attribute [local irreducible] ByteArray.extract
end Go.K
end
section
open Go Go.Tm Go.Proofs
namespace Go.K
theorem WY{l:List Int}(h8:∀ x∈l,0≤x∧x≤255):dN (l.take 2000):=⟨by rw[List.length_take];omega,fun x hx=>h8 x (List.mem_of_mem_take hx)⟩
end Go.K
end
section
open Go Go.Tm Go.Proofs
namespace Go.K
attribute [local irreducible] ByteArray.extract
end Go.K
end
section
open Go Go.Tm Go.Proofs
namespace Go.K
def gY(w:Worker):Prop:=(1≤w.lease∧w.lease≤300000000)∧(0≤w.task∧w.task≤39)
def fE(w:Worker):Prop:=w.state = 0∧w.lease = 0∧w.task = 0∧w.cost = 0∧w.left = 0∧(w.inputs.length:Int) = 0∧w.text = emp
def eO(w:Worker):Prop:=w.state = 1∧gY w∧(1≤w.cost∧w.cost≤20)∧(1≤w.left∧w.left≤w.cost)∧fb w.inputs∧w.text = emp
def fC(w:Worker):Prop:=w.state = 2∧gY w∧w.cost = 0∧w.left = 0∧(w.inputs.length:Int) = 0∧(w.text.size:Int) = 8
def au(w:Worker):Prop:=(1≤w.number∧w.number≤8)∧(1≤w.epoch∧w.epoch≤300)∧(0≤w.since∧w.since≤1000000)∧(w.up = true∨(w.state = 0∧w.since = 0))∧(fE w∨eO w∨fC w)
instance (w:Worker):Decidable (au w):=by unfold au fE eO fC gY;infer_instance
theorem eY(w:Worker)(hl:w.inputs.length≤9223372036854775806):F ri [.val (dI w)] (.b (decide (au w))) [[]]:=by
 refine ry ?_
 conv=>whnf
 refine g 0 1 []<|J QZ<|Ws ?_
 by_cases h1:(1:Int)≤Worker.number w∧Worker.number w≤(8:Int)
 by_cases h2:(1:Int)≤Worker.epoch w∧Worker.epoch w≤(300:Int)
 refine g 14 17 [.call (V.b (decide (1≤w.number∧w.number≤8))) [[],[],[]],BF,BF,BF,.call (V.b (decide (1≤w.epoch∧w.epoch≤300))) [[],[],[]],BF,BF,BF,BF,BF,.call (V.b (decide (0≤w.since∧w.since≤1000000))) [[],[],[]],BF,BF]<|J (QA @ah)<|Wc<|JN (fun h3=>?_) fun h3=>?_
 refine g 9 11 []<|J UA<|RT ?_
 rotate_left
 refine Wk<|Ws ?_
 by_cases h4:Worker.up w = true
 refine g 25 32 (RL 9 BF [])<|J QZ<|Wc<|J (noT rfl) fun _=>Wk ?_
 by_cases h5:(1:Int)≤Worker.lease w∧Worker.lease w≤(300000000:Int)
 refine g 32 41 [.call (V.b (decide (1≤w.lease∧w.lease≤300000000))) [[],[],[]],BT,BT,BT,.call (V.b (decide (0≤w.task∧w.task≤39))) [[],[],[]],BT]<|J (QA @ah)<|Ws<|g 19 24 []<|J UB<|Wb<|g 9 11 []<|J UB<|Wc<|JD (fun h6=>?_) fun h6=>?_
 refine g 5 74 (RL 21 BF [])<|J QZ<|RT ?_
 rotate_left
 refine g 7 9 []<|J UB<|Wc<|JD (fun h7=>?_) fun h7=>?_
 by_cases h8:(0:Int)≤Worker.task w∧Worker.task w≤(39:Int)
 by_cases h9:(1:Int)≤Worker.cost w∧Worker.cost w≤(20:Int)
 by_cases h10:(1:Int)≤Worker.left w∧Worker.left w≤Worker.cost w
 by_cases h11:fb (Worker.inputs w)
 refine g 5 99 (BT::BT::BT::.call (V.b (decide (1≤w.cost∧w.cost≤20))) [[],[],[]]::(RL 6 BT [.call (V.b (decide (1≤w.left∧w.left≤w.cost))) [[],[],[]],BT,BT,BT,BT,.call (V.b (decide (fb w.inputs))) [[]],BT,BT,BT,BT,BT]))<|J (QB @ah @iV)<|RT ?_
 rotate_left
 refine g 5 99 (BT::BT::BT::.call (V.b (decide (1≤w.cost∧w.cost≤20))) [[],[],[]]::(RL 6 BT [.call (V.b (decide (1≤w.left∧w.left≤w.cost))) [[],[],[]],BT,BT,BT,BT,.call (V.b (decide (fb w.inputs))) [[]],BT,BF,BF,BF,BF]))<|J (QB @ah @iV)<|RT ?_
 rotate_left
 refine g 5 99 (BT::BT::BT::.call (V.b (decide (1≤w.cost∧w.cost≤20))) [[],[],[]]::(RL 6 BT (.call (V.b (decide (1≤w.left∧w.left≤w.cost))) [[],[],[]]::BT::(RL 8 BF []))))<|J (QA @ah)<|RT ?_
 rotate_left
 refine g 5 99 (BT::BT::BT::.call (V.b (decide (1≤w.cost∧w.cost≤20))) [[],[],[]]::BT::(RL 14 BF []))<|J (QA @ah)<|RT ?_
 rotate_left
 refine g 5 99 (RL 18 BF [])<|J QZ<|RT ?_
 rotate_left
 refine g 18 76 []<|J UB<|Wc<|JD (fun h8=>?_) fun h8=>?_
 by_cases h9:(0:Int)≤Worker.task w∧Worker.task w≤(39:Int)
 by_cases h10:Worker.cost w = (0:Int)
 by_cases h11:Worker.left w = (0:Int)
 by_cases h12:(↑(List.length (List.map ai (Worker.inputs w))):Int) = (0:Int)
 simp only[LM]at h12
 refine g 5 124 (RL 18 BT [])<|J QZ<|RT ?_
 rotate_left
 simp only[LM]at h12
 refine g 5 124 (RL 13 BT [BF,BF,BF,BF,BF])<|J QZ<|RT ?_
 rotate_left
 refine g 5 124 (RL 8 BT (RL 10 BF []))<|J QZ<|RT ?_
 rotate_left
 refine g 5 124 (BT::BT::BT::BT::(RL 14 BF []))<|J QZ<|RT ?_
 rotate_left
 refine g 5 124 (RL 18 BF [])<|J QZ<|RT ?_
 rotate_left
 refine Wk<|g 5 101 []<|J UA<|RT ?_
 rotate_left
 refine g 32 41 [.call (V.b (decide (1≤w.lease∧w.lease≤300000000))) [[],[],[]],BF,BF,BF,BF]<|J (QA @ah)<|Ws<|g 19 24 []<|J UB<|Wb<|g 9 11 []<|J UB<|Wc<|JD (fun h6=>?_) fun h6=>?_
 by_cases h7:Worker.lease w = (0:Int)
 by_cases h8:Worker.task w = (0:Int)
 by_cases h9:Worker.cost w = (0:Int)
 by_cases h10:Worker.left w = (0:Int)
 by_cases h11:(↑(List.length (List.map ai (Worker.inputs w))):Int) = (0:Int)
 simp only[LM]at h11
 refine g 5 74 (RL 21 BT [])<|J QZ<|RT ?_
 rotate_left
 simp only[LM]at h11
 refine g 5 74 (RL 17 BT [BF,BF,BF,BF])<|J QZ<|RT ?_
 rotate_left
 refine g 5 74 (RL 12 BT (RL 9 BF []))<|J QZ<|RT ?_
 rotate_left
 refine g 5 74 (RL 8 BT (RL 13 BF []))<|J QZ<|RT ?_
 rotate_left
 refine g 5 74 (BT::BT::BT::BT::(RL 17 BF []))<|J QZ<|RT ?_
 rotate_left
 refine g 5 74 (RL 21 BF [])<|J QZ<|RT ?_
 rotate_left
 refine g 7 9 []<|J UB<|Wc<|JD (fun h7=>?_) fun h7=>?_
 refine g 5 99 (RL 18 BF [])<|J QZ<|RT ?_
 rotate_left
 refine g 18 76 []<|J UB<|Wc<|JD (fun h8=>?_) fun h8=>?_
 refine g 5 124 (RL 18 BF [])<|J QZ<|RT ?_
 rotate_left
 refine Wk<|g 5 101 []<|J UA<|RT ?_
 rotate_left
 replace h4:=Bool.eq_false_iff.2 h4
 by_cases h5:Worker.state w = (0:Int)
 refine g 25 32 [BT,BT,BT,BT,BF,BF,BF,BT,BF,BT]<|J QZ<|Wc<|JN (fun h6=>?_) fun h6=>?_
 refine g 19 24 []<|J UA<|RT ?_
 rotate_left
 refine Wk ?_
 by_cases h7:(1:Int)≤Worker.lease w∧Worker.lease w≤(300000000:Int)
 refine g 32 41 [.call (V.b (decide (1≤w.lease∧w.lease≤300000000))) [[],[],[]],BT,BT,BT,.call (V.b (decide (0≤w.task∧w.task≤39))) [[],[],[]],BT]<|J (QA @ah)<|Ws<|g 19 24 []<|J UB<|Wb<|g 9 11 []<|J UB<|Wc<|J (fun _=>(g 5 74 (RL 21 BF [])<|J QZ (RT ?_))) (noF tO)
 rotate_left
 refine g 32 41 [.call (V.b (decide (1≤w.lease∧w.lease≤300000000))) [[],[],[]],BF,BF,BF,BF]<|J (QA @ah)<|Ws<|g 19 24 []<|J UB<|Wb<|g 9 11 []<|J UB<|Wc<|J (fun _=>?_) (noF tO)
 by_cases h8:Worker.lease w = (0:Int)
 by_cases h9:Worker.task w = (0:Int)
 by_cases h10:Worker.cost w = (0:Int)
 by_cases h11:Worker.left w = (0:Int)
 by_cases h12:(↑(List.length (List.map ai (Worker.inputs w))):Int) = (0:Int)
 simp only[LM]at h12
 refine g 5 74 (RL 21 BT [])<|J QZ<|RT ?_
 rotate_left
 simp only[LM]at h12
 refine g 5 74 (RL 17 BT [BF,BF,BF,BF])<|J QZ<|RT ?_
 rotate_left
 refine g 5 74 (RL 12 BT (RL 9 BF []))<|J QZ<|RT ?_
 rotate_left
 refine g 5 74 (RL 8 BT (RL 13 BF []))<|J QZ<|RT ?_
 rotate_left
 refine g 5 74 (BT::BT::BT::BT::(RL 17 BF []))<|J QZ<|RT ?_
 rotate_left
 refine g 5 74 (RL 21 BF [])<|J QZ<|RT ?_
 rotate_left
 refine g 25 32 (RL 10 BT [])<|J QZ<|Wc<|J (fun _=>(g 19 24 []<|J UA (RT ?_))) (noF rfl)
 rotate_left
 refine g 14 17 [.call (V.b (decide (1≤w.number∧w.number≤8))) [[],[],[]],BF,BF,BF,.call (V.b (decide (1≤w.epoch∧w.epoch≤300))) [[],[],[]],BF,BF,BT,BT,BT,BT,BT]<|J (QA @ah)<|Wc<|J (fun _=>(g 9 11 []<|J UA (RT ?_))) (noF rfl)
 rotate_left
 refine g 14 17 (.call (V.b (decide (1≤w.number∧w.number≤8))) [[],[],[]]::(RL 10 BT []))<|J (QA @ah)<|Wc<|J (fun _=>(g 9 11 []<|J UA (RT ?_))) (noF rfl)
 rotate_left
 all_goals (try simp only[List.length_map,decide_eq_true_eq,Bool.not_eq_true,Bool.not_eq_true',decide_eq_false_iff_not]at *)
 all_goals first
  |exact vbf (by unfold au fE eO fC gY;grind)
  |exact vbt (by unfold au fE eO fC gY;grind)
  |exact vbd (by unfold au fE eO fC gY;grind)
theorem ar(w:Worker)(hl:w.inputs.length≤9223372036854775806):F qU [.val (dI w)] (.b (decide (au w))) [[]]:=by
 refine ro ?_
 conv=>whnf
 refine g 0 1 []<|J QZ<|Ws ?_
 by_cases h1:(1:Int)≤Worker.number w∧Worker.number w≤(8:Int)
 by_cases h2:(1:Int)≤Worker.epoch w∧Worker.epoch w≤(300:Int)
 refine g 9 13 [.call (V.b (decide (1≤w.number∧w.number≤8))) [[],[],[]],BF,BF,BF,.call (V.b (decide (1≤w.epoch∧w.epoch≤300))) [[],[],[]],BF,BF,BF,BF,BF,.call (V.b (decide (0≤w.since∧w.since≤1000000))) [[],[],[]],BF,BF]<|J (QA @av)<|Wc<|JN (fun h3=>?_) fun h3=>?_
 refine g 15 18 []<|J UA<|RT ?_
 rotate_left
 refine Wk<|Ws ?_
 by_cases h4:Worker.up w = true
 refine g 26 31 (RL 9 BF [])<|J QZ<|Wc<|J (noT rfl) fun _=>Wk<|Ws<|g 5 8 []<|J UB<|Wb<|g 15 18 []<|J UB<|Wc<|JD (fun h5=>?_) fun h5=>?_
 by_cases h6:Worker.lease w = (0:Int)
 by_cases h7:Worker.task w = (0:Int)
 by_cases h8:Worker.cost w = (0:Int)
 by_cases h9:Worker.left w = (0:Int)
 by_cases h10:(↑(List.length (List.map ai (Worker.inputs w))):Int) = (0:Int)
 simp only[LM]at h10
 refine g 8 65 (RL 21 BT [])<|J QZ<|RT ?_
 rotate_left
 simp only[LM]at h10
 refine g 8 65 (RL 17 BT [BF,BF,BF,BF])<|J QZ<|RT ?_
 rotate_left
 refine g 8 65 (RL 12 BT (RL 9 BF []))<|J QZ<|RT ?_
 rotate_left
 refine g 8 65 (RL 8 BT (RL 13 BF []))<|J QZ<|RT ?_
 rotate_left
 refine g 8 65 (BT::BT::BT::BT::(RL 17 BF []))<|J QZ<|RT ?_
 rotate_left
 refine g 8 65 (RL 21 BF [])<|J QZ<|RT ?_
 rotate_left
 refine g 21 24 []<|J UB<|Wc<|JD (fun h6=>?_) fun h6=>?_
 by_cases h7:(1:Int)≤Worker.lease w∧Worker.lease w≤(300000000:Int)
 by_cases h8:(0:Int)≤Worker.task w∧Worker.task w≤(39:Int)
 by_cases h9:(1:Int)≤Worker.cost w∧Worker.cost w≤(20:Int)
 by_cases h10:(1:Int)≤Worker.left w∧Worker.left w≤Worker.cost w
 by_cases h11:fb (Worker.inputs w)
 refine g 8 97 (.call (V.b (decide (1≤w.lease∧w.lease≤300000000))) [[]]::BT::BT::BT::.call (V.b (decide (0≤w.task∧w.task≤39))) [[],[],[]]::BT::BT::BT::BT::.call (V.b (decide (1≤w.cost∧w.cost≤20))) [[],[],[]]::(RL 6 BT [.call (V.b (decide (1≤w.left∧w.left≤w.cost))) [[],[],[]],BT,BT,BT,BT,.call (V.b (decide (fb w.inputs))) [[]],BT,BT,BT,BT,BT]))<|J (QC @aC @av @fo)<|RT ?_
 rotate_left
 refine g 8 97 (.call (V.b (decide (1≤w.lease∧w.lease≤300000000))) [[]]::BT::BT::BT::.call (V.b (decide (0≤w.task∧w.task≤39))) [[],[],[]]::BT::BT::BT::BT::.call (V.b (decide (1≤w.cost∧w.cost≤20))) [[],[],[]]::(RL 6 BT [.call (V.b (decide (1≤w.left∧w.left≤w.cost))) [[],[],[]],BT,BT,BT,BT,.call (V.b (decide (fb w.inputs))) [[]],BT,BF,BF,BF,BF]))<|J (QC @aC @av @fo)<|RT ?_
 rotate_left
 refine g 8 97 (.call (V.b (decide (1≤w.lease∧w.lease≤300000000))) [[]]::BT::BT::BT::.call (V.b (decide (0≤w.task∧w.task≤39))) [[],[],[]]::BT::BT::BT::BT::.call (V.b (decide (1≤w.cost∧w.cost≤20))) [[],[],[]]::(RL 6 BT (.call (V.b (decide (1≤w.left∧w.left≤w.cost))) [[],[],[]]::BT::(RL 8 BF []))))<|J (QB @aC @av)<|RT ?_
 rotate_left
 refine g 8 97 (.call (V.b (decide (1≤w.lease∧w.lease≤300000000))) [[]]::BT::BT::BT::.call (V.b (decide (0≤w.task∧w.task≤39))) [[],[],[]]::BT::BT::BT::BT::.call (V.b (decide (1≤w.cost∧w.cost≤20))) [[],[],[]]::BT::(RL 14 BF []))<|J (QB @aC @av)<|RT ?_
 rotate_left
 refine g 8 97 (.call (V.b (decide (1≤w.lease∧w.lease≤300000000))) [[]]::BT::BT::BT::.call (V.b (decide (0≤w.task∧w.task≤39))) [[],[],[]]::BT::(RL 18 BF []))<|J (QB @aC @av)<|RT ?_
 rotate_left
 refine g 8 97 (.call (V.b (decide (1≤w.lease∧w.lease≤300000000))) [[]]::(RL 22 BF []))<|J (QA @aC)<|RT ?_
 rotate_left
 refine g 25 67 []<|J UB<|Wc<|JD (fun h7=>?_) fun h7=>?_
 by_cases h8:(1:Int)≤Worker.lease w∧Worker.lease w≤(300000000:Int)
 by_cases h9:(0:Int)≤Worker.task w∧Worker.task w≤(39:Int)
 by_cases h10:(↑(ByteArray.size (Worker.text w)):Int) = (8:Int)
 by_cases h11:Worker.cost w = (0:Int)
 by_cases h12:Worker.left w = (0:Int)
 refine g 8 129 (.call (V.b (decide (1≤w.lease∧w.lease≤300000000))) [[]]::BT::BT::BT::.call (V.b (decide (0≤w.task∧w.task≤39))) [[],[],[]]::(RL 19 BT []))<|J (QB @aC @av)<|RT ?_
 rotate_left
 refine g 8 129 (.call (V.b (decide (1≤w.lease∧w.lease≤300000000))) [[]]::BT::BT::BT::.call (V.b (decide (0≤w.task∧w.task≤39))) [[],[],[]]::(RL 14 BT [BF,BF,BF,BF,BF]))<|J (QB @aC @av)<|RT ?_
 rotate_left
 refine g 8 129 (.call (V.b (decide (1≤w.lease∧w.lease≤300000000))) [[]]::BT::BT::BT::.call (V.b (decide (0≤w.task∧w.task≤39))) [[],[],[]]::(RL 10 BT (RL 9 BF [])))<|J (QB @aC @av)<|RT ?_
 rotate_left
 refine g 8 129 (.call (V.b (decide (1≤w.lease∧w.lease≤300000000))) [[]]::BT::BT::BT::.call (V.b (decide (0≤w.task∧w.task≤39))) [[],[],[]]::(RL 6 BT (RL 13 BF [])))<|J (QB @aC @av)<|RT ?_
 rotate_left
 refine g 8 129 (.call (V.b (decide (1≤w.lease∧w.lease≤300000000))) [[]]::BT::BT::BT::.call (V.b (decide (0≤w.task∧w.task≤39))) [[],[],[]]::BT::(RL 18 BF []))<|J (QB @aC @av)<|RT ?_
 rotate_left
 refine g 8 129 (.call (V.b (decide (1≤w.lease∧w.lease≤300000000))) [[]]::(RL 22 BF []))<|J (QA @aC)<|RT ?_
 rotate_left
 refine Wk<|g 8 99 []<|J UA<|RT ?_
 rotate_left
 replace h4:=Bool.eq_false_iff.2 h4
 by_cases h5:Worker.state w = (0:Int)
 refine g 26 31 [BT,BT,BT,BT,BF,BF,BF,BT,BF,BT]<|J QZ<|Wc<|JN (fun h6=>?_) fun h6=>?_
 refine g 5 8 []<|J UA<|RT ?_
 rotate_left
 refine Wk<|Ws<|g 5 8 []<|J UB<|Wb<|g 15 18 []<|J UB<|Wc<|J (fun _=>?_) (noF tO)
 by_cases h7:Worker.lease w = (0:Int)
 by_cases h8:Worker.task w = (0:Int)
 by_cases h9:Worker.cost w = (0:Int)
 by_cases h10:Worker.left w = (0:Int)
 by_cases h11:(↑(List.length (List.map ai (Worker.inputs w))):Int) = (0:Int)
 simp only[LM]at h11
 refine g 8 65 (RL 21 BT [])<|J QZ<|RT ?_
 rotate_left
 simp only[LM]at h11
 refine g 8 65 (RL 17 BT [BF,BF,BF,BF])<|J QZ<|RT ?_
 rotate_left
 refine g 8 65 (RL 12 BT (RL 9 BF []))<|J QZ<|RT ?_
 rotate_left
 refine g 8 65 (RL 8 BT (RL 13 BF []))<|J QZ<|RT ?_
 rotate_left
 refine g 8 65 (BT::BT::BT::BT::(RL 17 BF []))<|J QZ<|RT ?_
 rotate_left
 refine g 8 65 (RL 21 BF [])<|J QZ<|RT ?_
 rotate_left
 refine g 26 31 (RL 10 BT [])<|J QZ<|Wc<|J (fun _=>(g 5 8 []<|J UA (RT ?_))) (noF rfl)
 rotate_left
 refine g 9 13 [.call (V.b (decide (1≤w.number∧w.number≤8))) [[],[],[]],BF,BF,BF,.call (V.b (decide (1≤w.epoch∧w.epoch≤300))) [[],[],[]],BF,BF,BT,BT,BT,BT,BT]<|J (QA @av)<|Wc<|J (fun _=>(g 15 18 []<|J UA (RT ?_))) (noF rfl)
 rotate_left
 refine g 9 13 (.call (V.b (decide (1≤w.number∧w.number≤8))) [[],[],[]]::(RL 10 BT []))<|J (QA @av)<|Wc<|J (fun _=>(g 15 18 []<|J UA (RT ?_))) (noF rfl)
 rotate_left
 all_goals (try simp only[List.length_map,decide_eq_true_eq,Bool.not_eq_true,Bool.not_eq_true',decide_eq_false_iff_not]at *)
 all_goals first
  |exact vbf (by unfold au fE eO fC gY;grind)
  |exact vbt (by unfold au fE eO fC gY;grind)
  |exact vbd (by unfold au fE eO fC gY;grind)
end Go.K
end
section
open Go Go.Tm Go.Proofs
namespace Go.K
theorem qK(w:Worker)(s:Int):F qm [.val (dI w),.val (.i s)] (aA ⟨w.number,w.epoch,w.up,0,0,0,0,0,[],emp,s⟩) [[],[]]:=by
 refine qv ?_
 conv=>whnf
 refine g 0 0 []<|J QZ<|g 5 13 []<|J QZ<|RT ?_
 rfl
theorem jC(w:Worker)(s:Int):F pf [.val (dI w),.val (.i s)] (aA ⟨w.number,w.epoch,w.up,0,0,0,0,0,[],emp,s⟩) [[],[]]:=by
 refine ph ?_
 conv=>whnf
 refine g 0 0 []<|J QZ<|g 5 13 []<|J QZ<|RT ?_
 rfl
theorem fV(xs:List ByteArray)(hl:xs.length≤1048576):F GU [.val (.t (o9 xs))] (.own [false] (xs.map ai)) [[]]:=by
 refine Hh ?_
 conv=>whnf
 refine g 0 0 []<|J UA<|g 3 6 []<|J QZ<|RT ?_
 rfl
theorem aG(w:Worker)(hl:w.inputs.length≤1048576):F C7 [.val (dI w)] (aA w) [[]]:=by
 refine DP ?_
 conv=>whnf
 refine g 0 1 []<|J QZ<|g 3 8 []<|J QZ<|g 1 2 []<|J QZ<|RT ?_
 rfl
theorem gz(w:Worker)(hl:w.inputs.length≤1048576):F rb [.val (dI w)] (aA w) [[]]:=by
 refine rx ?_
 conv=>whnf
 refine g 0 1 []<|J QZ<|g 3 7 [.call (V.own [false] (List.map ai w.inputs)) [[]]]<|J (QA @fV)<|g 1 2 []<|J QZ<|RT ?_
 rfl
def mB(w:Worker):Worker:=if au w then⟨w.number,w.epoch,false,0,0,0,0,0,[],emp,0⟩else fv
def mz(w:Worker):Worker:=if au w then(if w.up = true∨300≤w.epoch then w else⟨w.number,w.epoch+1,true,0,0,0,0,0,[],emp,3⟩)else fv
theorem Oq{w:Worker}(h:¬au w):mB w = fv:=if_neg h
theorem Oo{w:Worker}(h:au w):mB w = ⟨w.number,w.epoch,false,0,0,0,0,0,[],emp,0⟩:=if_pos h
theorem tn(w:Worker)(hl:w.inputs.length≤1048576):F sU [.val (dI w)] (aA (mB w)) [[]]:=by
 refine tc ?_
 conv=>whnf
 refine g 0 1 []<|J QZ<|Ws<|g 3 5 [.call (V.b (decide (au w))) [[]]]<|J (QA @eY)<|Wc<|JN (fun h1=>?_) fun h1=>?_
 refine g 5 7 []<|J QZ<|RT ?_
 rotate_left
 refine Wk<|g 5 9 [.call (aA {number:=w.number,epoch:=w.epoch,up:=w.up,state:=0,lease:=0,task:=0,cost:=0,left:=0,inputs:=[],text:=emp,since:=0:Worker}) [[],[]]]<|J (QA @jC)<|g 9 10 []<|J UV<|g 1 2 []<|J QZ<|RT ?_
 rotate_left
 ·exact congrArg aA (Eq.symm (Oq h1))
 ·exact congrArg aA (Eq.symm (Oo h1))
theorem kX(w:Worker)(hl:w.inputs.length≤1048576):F sN [.val (dI w)] (aA (mB w)) [[]]:=by
 refine sX ?_
 conv=>whnf
 refine g 0 1 []<|J QZ<|Ws<|g 4 6 [.call (V.b (decide (au w))) [[]]]<|J (QA @ar)<|Wc<|JN (fun h1=>?_) fun h1=>?_
 refine g 6 8 []<|J QZ<|RT ?_
 rotate_left
 refine Wk<|g 6 10 [.call (aA {number:=w.number,epoch:=w.epoch,up:=w.up,state:=0,lease:=0,task:=0,cost:=0,left:=0,inputs:=[],text:=emp,since:=0:Worker}) [[],[]]]<|J (QA @qK)<|g 1 2 []<|J UV<|g 3 12 []<|J QZ<|RT ?_
 rotate_left
 ·exact congrArg aA (Eq.symm (Oq h1))
 ·exact congrArg aA (Eq.symm (Oo h1))
theorem KC{w:Worker}(h:au w):1≤w.epoch∧w.epoch≤300:=h.2.1
theorem NG{w:Worker}(h:¬au w):mz w = fv:=if_neg h
theorem pH{w:Worker}(h:au w)(h1:w.up = true∨300≤w.epoch):mz w = w:=by rw[mz,if_pos h,if_pos h1]
theorem NF{w:Worker}(h:au w)(h1:¬(w.up = true∨300≤w.epoch)):mz w = ⟨w.number,w.epoch+1,true,0,0,0,0,0,[],emp,3⟩:=by rw[mz,if_pos h,if_neg h1]
theorem tm(w:Worker)(hl:w.inputs.length≤1048576):F sS [.val (dI w)] (aA (mz w)) [[]]:=by
 by_cases h:au w
 ·have he:=KC h
  refine kW ?_
  conv=>whnf
  refine g 0 0 []<|J QZ<|Ws<|g 3 5 [.call (V.b (decide (au w))) [[]]]<|J (QA @eY)<|Wc<|J (noT nO) fun _=>Wk<|Ws ?_
  by_cases h1:Worker.up w = true
  refine g 5 10 [BT,BT,BT,BT]<|J QZ<|Wc<|J (fun _=>(g 11 16 [.call (aA w) [[]]]<|J (QA @gz) (RT ?_))) (noF rfl)
  rotate_left
  replace h1:=Bool.eq_false_iff.2 h1
  refine g 5 10 [BF,BF,BF,BF]<|J QZ<|Wc<|JD (fun h2=>?_) fun h2=>?_
  refine g 11 16 [.call (aA w) [[]]]<|J (QA @gz)<|RT ?_
  rotate_left
  refine Wk<|g 10 22 [.i (w.epoch+1)]<|J QZ<|RT ?_
  rotate_left
  ·rw[pH h (by grind)]
  ·rw[pH h (by grind)]
  ·exact congrArg aA (Eq.symm (NF h (by grind)))
 ·refine kW ?_
  conv=>whnf
  refine g 0 0 []<|J QZ<|Ws<|g 3 5 [.call (V.b (decide (au w))) [[]]]<|J (QA @eY)<|Wc<|J (fun _=>(g 5 7 []<|J QZ (RT ?_))) (noF (dP OM))
  exact congrArg aA (Eq.symm (NG h))
theorem ti(w:Worker)(hl:w.inputs.length≤1048576):F sM [.val (dI w)] (aA (mz w)) [[]]:=by
 by_cases h:au w
 ·have he:=KC h
  refine kU ?_
  conv=>whnf
  refine g 0 1 []<|J QZ<|Ws<|g 4 6 [.call (V.b (decide (au w))) [[]]]<|J (QA @ar)<|Wc<|J (noT nO) fun _=>Wk<|Ws ?_
  by_cases h1:Worker.up w = true
  refine g 6 14 [BT,BT,BT,BT]<|J QZ<|Wc<|J (fun _=>(g 14 17 [.call (aA w) [[]]]<|J (QA @aG) (RT ?_))) (noF rfl)
  rotate_left
  replace h1:=Bool.eq_false_iff.2 h1
  refine g 6 14 [BF,BF,BF,BF]<|J QZ<|Wc<|JD (fun h2=>?_) fun h2=>?_
  refine g 14 17 [.call (aA w) [[]]]<|J (QA @aG)<|RT ?_
  rotate_left
  refine Wk<|g 14 19 [.call (aA {number:=w.number,epoch:=w.epoch,up:=w.up,state:=0,lease:=0,task:=0,cost:=0,left:=0,inputs:=[],text:=emp,since:=3:Worker}) [[],[]]]<|J (QA @qK)<|g 19 20 []<|J UV<|g 20 24 [.i (w.epoch+1)]<|J QZ<|g 3 25 []<|J QZ<|RT ?_
  rotate_left
  ·rw[pH h (by grind)]
  ·rw[pH h (by grind)]
  ·exact congrArg aA (Eq.symm (NF h (by grind)))
 ·refine kU ?_
  conv=>whnf
  refine g 0 1 []<|J QZ<|Ws<|g 4 6 [.call (V.b (decide (au w))) [[]]]<|J (QA @ar)<|Wc<|J (fun _=>(g 6 8 []<|J QZ (RT ?_))) (noF (dP OM))
  exact congrArg aA (Eq.symm (NG h))
end Go.K
end
section
open Go Go.Tm Go.Proofs
namespace Go.K
structure Log where
 safe:List ByteArray
 loose:List ByteArray
 deriving DecidableEq
abbrev Rr(x:Log):V:=.agg [.t (.slc [false] (x.safe.map ai)),.t (.slc [false] (x.loose.map ai))]
abbrev Rt(x:Log):V:=.agg [.own [false] (x.safe.map ai),.own [false] (x.loose.map ai)]
structure Job where
 lease:Int
 worker:Int
 til:Int
 deriving DecidableEq
abbrev aI(x:Job):List T:=[.i x.lease,.i x.worker,.i x.til]
abbrev dU:List Bool:=[false,false,false]
abbrev fm:Job:=⟨0,0,0⟩
structure Seat where
 free:Bool
 epoch:Int
 deriving DecidableEq
abbrev aE(x:Seat):List T:=[.b x.free,.i x.epoch]
abbrev bJ:List Bool:=[false,false]
abbrev iE:Seat:=⟨false,0⟩
structure Owed where
 worker:Int
 lease:Int
 task:Int
 deriving DecidableEq
abbrev aJ(x:Owed):List T:=[.i x.worker,.i x.lease,.i x.task]
abbrev bK:List Bool:=[false,false,false]
structure Boss where
 workers:Int
 up:Bool
 now:Int
 since:Int
 epoch:Int
 given:Int
 log:Log
 results:List ByteArray
 jobs:List Job
 seats:List Seat
 owed:List Owed
 deriving DecidableEq
abbrev fT(x:Boss):V:=.agg [.t (.i x.workers),.t (.b x.up),.t (.i x.now),.t (.i x.since),.t (.i x.epoch),.t (.i x.given),.t (.slc [false] (x.log.safe.map ai)),.t (.slc [false] (x.log.loose.map ai)),.t (.slc [false] (x.results.map ai)),.t (.slc dU (x.jobs.map aI)),.t (.slc bJ (x.seats.map aE)),.t (.slc bK (x.owed.map aJ))]
abbrev aF(x:Boss):V:=.agg [.t (.i x.workers),.t (.b x.up),.t (.i x.now),.t (.i x.since),.t (.i x.epoch),.t (.i x.given),.own [false] (x.log.safe.map ai),.own [false] (x.log.loose.map ai),.own [false] (x.results.map ai),.own dU (x.jobs.map aI),.own bJ (x.seats.map aE),.own bK (x.owed.map aJ)]
abbrev iG:Boss:=⟨0,false,0,0,0,0,⟨[],[]⟩,[],[],[],[]⟩
def atS(rs:List ByteArray)(k:Int):ByteArray:=(rs[k.toNat]?).getD emp
def ov(ts:List Task)(n:Nat):List Int:=((ts[n]?).map Task.deps).getD []
structure JobOk (b:Boss) (ts:List Task) (i:Nat) (j:Job):Prop where
 lease:(b.epoch - 1) * 1000000+1≤j.lease∧j.lease≤(b.epoch - 1) * 1000000+b.given
 worker:1≤j.worker∧j.worker≤b.workers
 til:b.now+1≤j.til∧j.til≤b.now+12
 res:atS b.results (i:Int) = emp
 ready:de b.results (ov ts i)
 once:j.lease ∉ (b.jobs.take i).map Job.lease
def Ir(b:Boss)(ts:List Task)(i:Nat)(j:Job):Prop:=(j.lease = 0→j.worker = 0∧j.til = 0)∧(¬j.lease = 0→JobOk b ts i j)
def iJ(b:Boss)(ts:List Task)(n:Nat):Prop:=∀ (m:Nat) (j:Job),m < n→b.jobs[m]? = some j→Ir b ts m j
structure OwedOk (b:Boss) (ts:List Task) (o:Owed):Prop where
 worker:1≤o.worker∧o.worker≤b.workers
 lease:1≤o.lease∧o.lease≤300000000
 task:0≤o.task∧o.task≤(ts.length:Int) - 1
 res:¬atS b.results o.task = emp
structure UpOk (b:Boss) (ts:List Task) (st:Story):Prop where
 epoch:b.epoch = st.epoch
 pos:1≤b.epoch
 rlen:b.results.length = ts.length
 jlen:b.jobs.length = ts.length
 slen:(b.seats.length:Int) = b.workers
 res:b.results = st.results
 since:0≤b.since∧b.since≤1
 given:0≤b.given∧b.given≤1000000
 olen:b.owed.length≤2000
 jobs:iJ b ts b.jobs.length
 seats:∀ s∈b.seats,0≤s.epoch∧s.epoch≤300
 owed:∀ o∈b.owed,OwedOk b ts o
structure DownOk (b:Boss):Prop where
 loose:b.log.loose.length = 0
 since:b.since = 0
 epoch:b.epoch = 0
 given:b.given = 0
 res:b.results.length = 0
 jobs:b.jobs.length = 0
 seats:b.seats.length = 0
 owed:b.owed.length = 0
noncomputable def cx(b:Boss)(p:Plan):Story:=aw p (b.log.safe++b.log.loose)
structure BossOk (b:Boss) (p:Plan):Prop where
 plan:am p.tasks = 0
 workers:1≤b.workers∧b.workers≤8
 now:0≤b.now∧b.now≤1000000
 code:(cx b p).code = 0
 up:b.up = true→UpOk b p.tasks (cx b p)
 down:b.up = false→DownOk b
noncomputable instance (b:Boss) (p:Plan):Decidable (BossOk b p):=Classical.propDecidable _
theorem gG{b:Boss}{p:Plan}(hup:b.up = true)(h:¬UpOk b p.tasks (cx b p)):¬BossOk b p:=fun q=>h (q.up hup)
theorem Bw{b:Boss}{p:Plan}(hup:b.up = false)(h:¬DownOk b):¬BossOk b p:=fun q=>h (q.down hup)
theorem cC{p:Plan}{xs:List ByteArray}(h:(aw p xs).code = 0):am p.tasks = 0∧xs.length≤310∧(aw p xs).results.length = p.tasks.length∧∃ t,kS p.tasks (some (mC p.tasks)) xs = some t∧aw p xs = ⟨0,t.epoch,t.results⟩:=by
 unfold aw at h ⊢
 by_cases hq:am p.tasks = 0∧xs.length≤310
 ·rw[if_pos hq]at h ⊢
  cases hr:kS p.tasks (some (mC p.tasks)) xs with
  |none=>rw[hr]at h;cases h
  |some t =>
   refine⟨hq.1,hq.2,?_,t,rfl,rfl⟩
   have:=ud p.tasks xs _ _ hr
   rw[mC,List.length_replicate]at this
   exact this
 ·rw[if_neg hq]at h;cases h
theorem Sv{ts:List Task}{t t':Tale}{s:ByteArray}(h:d9 ts t s = some t')(h0:0≤t.epoch∧t.epoch≤300):0≤t'.epoch∧t'.epoch≤300:=by
 unfold d9 at h
 split at h
 ·cases h
 ·rename_i e he
  have hr:=kq he
  split at h
  ·split at h
   ·cases h;have:=hr.1;exact⟨by dsimp only;omega,this.2⟩
   ·cases h
  ·split at h
   ·cases h;exact h0
   ·cases h
theorem ND{ts:List Task}:∀ {l:List ByteArray} {t t':Tale},kS ts (some t) l = some t'→0≤t.epoch∧t.epoch≤300→0≤t'.epoch∧t'.epoch≤300
 |[],t,t',h,h0=>by rw[jn]at h;cases h;exact h0
 |s :: l,t,t',h,h0=>by
  rw[pG]at h
  cases hs:d9 ts t s with
  |none=>rw[hs,ja]at h;cases h
  |some u=>rw[hs]at h;exact ND h (Sv hs h0)
theorem fr{p:Plan}{xs:List ByteArray}(h:(aw p xs).code = 0):0≤(aw p xs).epoch∧(aw p xs).epoch≤300:=by
 obtain⟨_,_,_,t,h1,h2⟩:=cC h
 rw[h2]
 exact ND h1 ⟨Int.le_refl _,by show(0:Int)≤300;omega⟩
theorem n5{b:Boss}{ts:List Task}{st:Story}{n:Nat}{j:Job}(hj:b.jobs[n]? = some j)(h:¬Ir b ts n j):¬UpOk b ts st:=fun q=>h (q.jobs n j (List.getElem?_eq_some_iff.1 hj).1 hj)
theorem pN{b:Boss}{ts:List Task}{n:Nat}{j:Job}(hc:iJ b ts n)(hj:b.jobs[n]? = some j)(h:Ir b ts n j):iJ b ts (n+1):=fun m k hm hk=>by
 by_cases e:m = n
 ·subst e;rw[hj]at hk;cases hk;exact h
 ·exact hc m k OM hk
theorem ky{rs:List ByteArray}{n:Nat}{y:ByteArray}(h:rs[n]? = some y):atS rs (n:Int) = y:=by unfold atS;rw[Int.toNat_natCast,h];rfl
theorem kP{rs:List ByteArray}{k:Int}{y:ByteArray}(h:rs[k.toNat]? = some y):atS rs k = y:=by unfold atS;rw[h];rfl
theorem eu{ts:List Task}{n:Nat}{t:Task}(h:ts[n]? = some t):ov ts n = t.deps:=by unfold ov;rw[h];rfl
def nH(b:Boss)(n:Nat):List Value:=(((b.jobs.take n).map Job.lease).filter (fun l=>decide (¬l = 0))).map fun l=>Value.int .i64 l
theorem FL{b:Boss}{n:Nat}{l:Int}(h:¬l = 0):Value.int .i64 l∈nH b n↔l∈(b.jobs.take n).map Job.lease:=by
 simp[nH,h]
theorem PV(b:Boss)(n:Nat)(l0:Int):∀ x∈nH b n,kin (.int .i64 l0) x:=by
 intro x hx
 obtain⟨l,_,rfl⟩:=List.mem_map.1 hx
 rfl
theorem Mp{b:Boss}{n:Nat}{j:Job}(h:b.jobs[n]? = some j)(h0:j.lease = 0):nH b (n+1) = nH b n:=by
 unfold nH;rw[List.take_add_one,h];simp[h0]
theorem Mo{b:Boss}{n:Nat}{j:Job}(h:b.jobs[n]? = some j)(h0:¬j.lease = 0):nH b n++ [Value.int .i64 j.lease] = nH b (n+1):=by
 unfold nH;rw[List.take_add_one,h];simp[h0]
theorem Kd{b:Boss}{ts:List Task}{st:Story}{n:Nat}{s:Seat}(hs:b.seats[n]? = some s)(h:¬(0≤s.epoch∧s.epoch≤300)):¬UpOk b ts st:=fun q=>h (q.seats s (List.mem_of_getElem? hs))
theorem lV{b:Boss}{ts:List Task}{st:Story}{n:Nat}{o:Owed}(hs:b.owed[n]? = some o)(h:¬OwedOk b ts o):¬UpOk b ts st:=fun q=>h (q.owed o (List.mem_of_getElem? hs))
theorem en{α:Type}{p:α→Prop}{xs:List α}{n:Nat}{x:α}(hc:∀ y∈xs.take n,p y)(h:xs[n]? = some x)(hp:p x):∀ y∈xs.take (n+1),p y:=by
 intro y hy
 rw[List.take_add_one,h]at hy
 rcases List.mem_append.1 hy with hy|hy
 ·exact hc y hy
 ·rw[Option.toList,List.mem_singleton]at hy;subst hy;exact hp
theorem jD(b:Boss)(h1:b.log.safe.length≤1048576)(h2:b.log.loose.length≤1048576):F pg [.val (fT b)] (.own [false] ((b.log.safe++b.log.loose).map ai)) [[]]:=by
 refine pi ?_
 conv=>whnf
 refine g 0 1 []<|J QZ<|gd 3 11 [[],[],[],[.call (V.own [false] (List.map ai b.log.safe)) [[]]],[],[],[],[],[]] ?_
 conv=>whnf
 refine J (QA @fV)<|J KR<|RT ?_
 rw[List.map_append];rfl
theorem nq(l:Log)(h1:l.safe.length≤1048576)(h2:l.loose.length≤1048576):F GH [.val (Rr l)] (.own [false] ((l.safe++l.loose).map ai)) [[]]:=by
 refine G4 ?_
 conv=>whnf
 refine g 0 1 []<|J QZ<|gd 3 10 [[],[],[],[],[],[],[],[]] ?_
 conv=>whnf
 refine J QZ<|J KR<|RT ?_
 rw[List.map_append];rfl
end Go.K
end
section
open Go Go.Tm Go.Proofs
namespace Go.K
theorem wj(b:Boss)(p:Plan)(hp:dy p)(hl1:b.log.safe.length≤1048576)(hl2:b.log.loose.length≤1048576)(hs:∀ s∈b.log.safe++b.log.loose,s.size≤281474976710656)(hr:b.results.length≤1048576)(hj:b.jobs.length≤1048576)(hse:b.seats.length≤1048576)(ho:b.owed.length≤1048576):F lY [.val (fT b),.val (cV p)] (.b (decide (BossOk b p))) [[],[]]:=by
 have cp:=fS p hp
 have ce:=jD b hl1 hl2
 have cr:F qn [.val (cV p),.val (.t (o9 (b.log.safe++b.log.loose)))] (gK (cx b p)) [[],[]]:=qN p (b.log.safe++b.log.loose) hp hs (by rw[List.length_append];omega)
 by_cases hup:b.up = true
 rotate_left
 ·rw[Bool.not_eq_true]at hup
  refine mj ?_
  conv=>whnf
  refine g 0 2 []<|J QZ<|Ws ?_
  by_cases h1:am (Plan.tasks p) = (0:Int)
  by_cases h2:(1:Int)≤Boss.workers b∧Boss.workers b≤(8:Int)
  refine g 17 19 [.call (V.i (am p.tasks)) [[]],BF,BF,BF,.call (V.b (decide (1≤b.workers∧b.workers≤8))) [[],[],[]],BF,BF,BF,BF,BF,.call (V.b (decide (0≤b.now∧b.now≤1000000))) [[],[],[]],BF,BF]<|J (QA @ah)<|Wc<|JN (fun h3=>?_) fun h3=>?_
  refine g 29 31 []<|J UA<|RT ?_
  rotate_left
  refine Wk<|gd 29 32 [[],[],[.call (V.own [false] (List.map ai (b.log.safe++b.log.loose))) [[]]],[.call (gK (cx b p)) [[],[]]],[],[]] ?_
  conv=>whnf
  refine J QZ<|J KR<|Ws<|g 33 37 []<|J UC<|Wc<|JN (fun h4=>?_) fun h4=>?_
  refine g 21 22 []<|J UA<|RT ?_
  rotate_left
  refine Wk<|Ws<|g 21 22 []<|J UC<|Wc<|J (fun _=>?_) (noF (nbT AS))
  by_cases h5:(↑(List.length (List.map ai (Log.loose (Boss.log b)))):Int) = (0:Int)
  simp only[LM]at h5
  by_cases h6:Boss.since b = (0:Int)
  by_cases h7:Boss.epoch b = (0:Int)
  by_cases h8:Boss.given b = (0:Int)
  by_cases h9:(↑(List.length (List.map ai (Boss.results b))):Int) = (0:Int)
  simp only[LM]at h9
  by_cases h10:(↑(List.length (List.map aI (Boss.jobs b))):Int) = (0:Int)
  simp only[LM]at h10
  by_cases h11:(↑(List.length (List.map aE (Boss.seats b))):Int) = (0:Int)
  simp only[LM]at h11
  refine g 32 85 (RL 32 BT []) ?_
  conv=>whnf
  refine J QZ<|RT ?_
  rotate_left
  simp only[LM]at h11
  refine g 32 85 (RL 27 BT [BF,BF,BF,BF,BF]) ?_
  conv=>whnf
  refine J QZ<|RT ?_
  rotate_left
  simp only[LM]at h10
  refine g 32 85 (RL 22 BT (RL 10 BF [])) ?_
  conv=>whnf
  refine J QZ<|RT ?_
  rotate_left
  simp only[LM]at h9
  refine g 32 85 (RL 17 BT (RL 15 BF [])) ?_
  conv=>whnf
  refine J QZ<|RT ?_
  rotate_left
  refine g 32 85 (RL 12 BT (RL 20 BF [])) ?_
  conv=>whnf
  refine J QZ<|RT ?_
  rotate_left
  refine g 32 85 (RL 8 BT (RL 24 BF [])) ?_
  conv=>whnf
  refine J QZ<|RT ?_
  rotate_left
  refine g 32 85 (BT::BT::BT::BT::(RL 28 BF [])) ?_
  conv=>whnf
  refine J QZ<|RT ?_
  rotate_left
  simp only[LM]at h5
  refine g 32 85 (RL 32 BF []) ?_
  conv=>whnf
  refine J QZ<|RT ?_
  rotate_left
  refine g 17 19 [.call (V.i (am p.tasks)) [[]],BF,BF,BF,.call (V.b (decide (1≤b.workers∧b.workers≤8))) [[],[],[]],BF,BF,BT,BT,BT,BT,BT]<|J (QA @ah)<|Wc<|J (fun _=>(g 29 31 []<|J UA (RT ?_))) (noF rfl)
  rotate_left
  refine g 17 19 (.call (V.i (am p.tasks)) [[]]::(RL 10 BT []))<|J QZ<|Wc<|J (fun _=>(g 29 31 []<|J UA (RT ?_))) (noF rfl)
  rotate_left
  all_goals first
   |exact vbf (fun q=>by have e1:=q.plan;have e2:=q.workers;have e3:=q.now;have e4:=q.code;omega)
   |exact vbf (Bw hup fun q=>by have e1:=q.loose;have e2:=q.since;have e3:=q.epoch;have e4:=q.given;have e5:=q.res;have e6:=q.jobs;have e7:=q.seats;omega)
   |(rename_i h8
     simp only[List.length_map]
     by_cases h9:(b.owed.length:Int) = 0
     ·rw[decide_eq_true h9];exact vbt ⟨by omega,by omega,by omega,by omega,(fun q=>by rw[hup]at q;cases q),fun _=>⟨by omega,by omega,by omega,by omega,by omega,by omega,by omega,by omega⟩⟩
     ·rw[decide_eq_false h9];exact vbf (Bw hup fun q=>by have e8:=q.owed;omega))
   |skip
 refine mj ?_
 conv=>whnf
 refine g 0 2 []<|J QZ<|Ws ?_
 by_cases h1:am (Plan.tasks p) = (0:Int)
 by_cases h2:(1:Int)≤Boss.workers b∧Boss.workers b≤(8:Int)
 refine g 17 19 [.call (V.i (am p.tasks)) [[]],BF,BF,BF,.call (V.b (decide (1≤b.workers∧b.workers≤8))) [[],[],[]],BF,BF,BF,BF,BF,.call (V.b (decide (0≤b.now∧b.now≤1000000))) [[],[],[]],BF,BF]<|J (QA @ah)<|Wc<|JN (fun h3=>?_) fun h3=>?_
 refine g 29 31 []<|J UA<|RT ?_
 rotate_left
 refine Wk<|gd 29 32 [[],[],[.call (V.own [false] (List.map ai (b.log.safe++b.log.loose))) [[]]],[.call (gK (cx b p)) [[],[]]],[],[]] ?_
 conv=>whnf
 refine J QZ<|J KR<|Ws<|g 33 37 []<|J UC<|Wc<|JN (fun h4=>?_) fun h4=>?_
 refine g 21 22 []<|J UA<|RT ?_
 rotate_left
 refine Wk<|Ws<|g 21 22 []<|J UC<|Wc<|J (noT (nbF AS)) fun _=>Wk<|Ws ?_
 by_cases h5:Boss.epoch b = Story.epoch (cx b p)
 by_cases h6:Boss.epoch b < (1:Int)
 refine g 25 120 (BF::BF::BF::BF::(RL 23 BT []))<|J QZ<|Wc<|J (fun _=>(g 19 21 []<|J UA (RT ?_))) (noF rfl)
 rotate_left
 by_cases h7:(↑(List.length (List.map ai (Boss.results b))):Int) = (↑(List.length (List.map ay (Plan.tasks p))):Int)
 simp only[LM]at h7
 by_cases h8:(↑(List.length (List.map aI (Boss.jobs b))):Int) = (↑(List.length (List.map ay (Plan.tasks p))):Int)
 simp only[LM]at h8
 refine g 25 120 (RL 27 BF [])<|J QZ<|Wc<|JN (fun h9=>?_) fun h9=>?_
 simp only[LM]at h9
 refine g 19 21 []<|J UA<|RT ?_
 rotate_left
 simp only[LM]at h9
 refine Wk<|Ws<|g 19 21 []<|J UD<|Wb ?_
 rotate_left
 simp only[LM]at h8
 refine g 25 120 (RL 20 BF (RL 7 BT []))<|J QZ<|Wc<|J (fun _=>(g 19 21 []<|J UA (RT ?_))) (noF rfl)
 rotate_left
 simp only[LM]at h7
 refine g 25 120 (RL 12 BF (RL 15 BT []))<|J QZ<|Wc<|J (fun _=>(g 19 21 []<|J UA (RT ?_))) (noF rfl)
 rotate_left
 refine g 25 120 (RL 27 BT [])<|J QZ<|Wc<|J (fun _=>(g 19 21 []<|J UA (RT ?_))) (noF rfl)
 rotate_left
 refine g 17 19 [.call (V.i (am p.tasks)) [[]],BF,BF,BF,.call (V.b (decide (1≤b.workers∧b.workers≤8))) [[],[],[]],BF,BF,BT,BT,BT,BT,BT]<|J (QA @ah)<|Wc<|J (fun _=>(g 29 31 []<|J UA (RT ?_))) (noF rfl)
 rotate_left
 refine g 17 19 (.call (V.i (am p.tasks)) [[]]::(RL 10 BT []))<|J QZ<|Wc<|J (fun _=>(g 29 31 []<|J UA (RT ?_))) (noF rfl)
 rotate_left
 all_goals try first
  |exact vbf (fun q=>by have e1:=q.plan;have e2:=q.workers;have e3:=q.now;have e4:=q.code;omega)
  |exact vbf (gG hup fun q=>by have e1:=q.epoch;have e2:=q.pos;have e3:=q.rlen;have e4:=q.jlen;have e5:=q.slen;omega)
 have hk:(cx b p).code = 0:=by assumption
 have hc0:am p.tasks = 0:=by assumption
 obtain⟨_,_,hsl,_⟩:=cC (p:=p) (xs:=b.log.safe++b.log.loose) hk
 obtain⟨hep1,hep2⟩:=fr (p:=p) (xs:=b.log.safe++b.log.loose) hk
 change (cx b p).results.length = _ at hsl
 change 0≤(cx b p).epoch at hep1
 change (cx b p).epoch≤300 at hep2
 have f1:b.epoch = (cx b p).epoch:=by assumption
 have f2:1≤b.epoch:=by omega
 have f3:b.results.length = p.tasks.length:=by omega
 have f4:b.jobs.length = p.tasks.length:=by omega
 have f5:(b.seats.length:Int) = b.workers:=by omega
 have f6:1≤b.workers∧b.workers≤8:=by assumption
 have f7:0≤b.now∧b.now≤1000000:=by assumption
 have hpl:=(bU hc0).1
 refine Wl (fun s (n:Nat)=>⟨(SK s [2,3,5,16,22,24,122,123] [(124,.i n)]),[(2,(CK s 2 0 12 [])),(3,[s.c 3 0]),(5,(CK s 5 0 3 []))],[]⟩) (fun(n:Nat)=>n≤b.results.length∧b.results.take n = (cx b p).results.take n) (fun(n:Nat)=>b.results.length - n) (0) [some 2,some 3,some 5] [] FZ (by simp) ?_
 rintro n ⟨hn,hc⟩
 conv=>whnf
 refine g 0 0 []<|J UA<|Ws<|Wc<|JD (fun h10=>?_) fun h10=>?_
 simp only[LM]at h10
 refine Wk<|Ws<|Wb ?_
 obtain⟨y1,hy1⟩:=ae (xs:=Boss.results b) (n:=n) OM
 refine g 125 129 [.x (ai y1)]<|J QZ ?_
 obtain⟨y2,hy2⟩:=ae (xs:=Story.results (cx b p)) (n:=n) OM
 refine g 129 135 [.n (n),.x (ai y2)]<|J QZ<|Wc<|JN (fun h11=>?_) fun h11=>?_
 refine g 7 8 []<|J UA<|RT ?_
 rotate_left
 refine Wk<|rg [.i ((n:Int) +1)]<|J QZ ?_
 rotate_left
 simp only[LM]at h10
 refine We<|Ws ?_
 by_cases h11:(0:Int)≤Boss.since b∧Boss.since b≤(1:Int)
 by_cases h12:(0:Int)≤Boss.given b∧Boss.given b≤(1000000:Int)
 refine g 122 152 (.call (V.b (decide (0≤b.since∧b.since≤1))) [[],[],[]]::BF::BF::BF::.call (V.b (decide (0≤b.given∧b.given≤1000000))) [[],[],[]]::(RL 7 BF []))<|J (QA @ah)<|Wc<|JD (fun h13=>?_) fun h13=>?_
 simp only[LM]at h13
 refine g 5 6 []<|J UA<|RT ?_
 rotate_left
 simp only[LM]at h13
 refine Wk<|g 152 154 []<|J UB<|g 154 158 [.i (b.epoch - 1),.i ((b.epoch - 1) * 1000000)]<|J QZ<|Ws<|g 5 6 []<|J UD<|Wb ?_
 rotate_left
 refine g 122 152 [.call (V.b (decide (0≤b.since∧b.since≤1))) [[],[],[]],BF,BF,BF,.call (V.b (decide (0≤b.given∧b.given≤1000000))) [[],[],[]],BF,BF,BT,BT,BT,BT,BT]<|J (QA @ah)<|Wc<|J (fun _=>(g 5 6 []<|J UA (RT ?_))) (noF rfl)
 rotate_left
 refine g 122 152 (.call (V.b (decide (0≤b.since∧b.since≤1))) [[],[],[]]::(RL 10 BT []))<|J (QA @ah)<|Wc<|J (fun _=>(g 5 6 []<|J UA (RT ?_))) (noF rfl)
 rotate_left
 all_goals try first
  |exact vbf (gG hup fun q=>by have e1:=q.res;rw[e1]at hy1;rw[hy1]at hy2;cases hy2;contradiction)
  |exact vbf (gG hup fun q=>by have e1:=q.since;have e2:=q.given;have e3:=q.olen;omega)
 ·refine⟨n+1,[some 2,some 3,some 5],[],FZ,?_,?_⟩
  rotate_left
  (dsimp only;omega)
  dsimp only
  exact⟨by omega,kC hc hy1 (by rw[hy2];simp_all)⟩
 have g1:b.results = (cx b p).results:=by rw[aH OM,aH OM]at hc;exact hc
 have g2:0≤b.since∧b.since≤1:=by omega
 have g3:0≤b.given∧b.given≤1000000:=by omega
 have g4:b.owed.length≤2000:=by omega
 refine Wl (fun s (n:Nat)=>⟨(SK s [2,3,8,9,16,22,24,159,160] [(161,.i n)]),[(2,(CK s 2 0 12 [])),(3,[s.c 3 0])],[(153,nH b n)]⟩) (fun(n:Nat)=>n≤b.jobs.length∧iJ b p.tasks n) (fun(n:Nat)=>b.jobs.length - n) (0) [some 2,some 3] [153] FZ ?_ ?_
 ·exact⟨Nat.zero_le _,fun m j hm=>by omega⟩
 rintro n1 ⟨hn1,hc1⟩
 have hrl:b.results.length = p.tasks.length:=f3
 by_cases hj2:n1 < b.jobs.length
 ·obtain⟨j,hj1⟩:=ae hj2
  obtain⟨y,hy0⟩:=ae (xs:=b.results) (n:=n1) OM
  obtain⟨t,ht0⟩:=ae (xs:=p.tasks) (n:=n1) OM
  have hkin:=PV b n1 j.lease
  obtain⟨_,_,a3,a4⟩:=cq hc0 ht0
  have crd:=jP b.results t.deps (fun d hd=>by have:=a4 d hd;omega) OM
  by_cases hz:j.lease = 0
  ·by_cases hz2:j.worker = 0∧j.til = 0
   ·have hjo:Ir b p.tasks n1 j:=⟨fun _=>hz2,fun e=>absurd hz e⟩
    obtain⟨hz3,hz4⟩:=hz2
    conv=>whnf
    refine g 0 0 []<|J UA<|Ws<|Wc<|J (fun _=>(Wk (Ws (Wb (g 162 166 [.x (aI j)]<|J QZ (Ws (g 166 168 []<|J UC (Wc<|J (fun _=>(Ws (g 168 171 [BT]<|J QZ ?_))) (noF tO))))))))) (noF (by simp_all))
    refine Wc<|J (noT rfl) fun _=>Wk<|We<|rg [.i ((n1:Int) +1)]<|J QZ ?_
    refine⟨n1+1,[some 2,some 3],[153],⟨rfl,FZ,FZ,⟨(congrArg some (Mp hj1 hz).symm),I⟩⟩,?_,?_⟩
    rotate_left
    (dsimp only;omega)
    dsimp only
    exact⟨by omega,pN hc1 hj1 hjo⟩
   ·conv=>whnf
    refine g 0 0 []<|J UA<|Ws<|Wc<|J (fun _=>(Wk (Ws (Wb (g 162 166 [.x (aI j)]<|J QZ (Ws (g 166 168 []<|J UC (Wc<|J (fun _=>(Ws (g 168 171 [BF]<|J QZ ?_))) (noF tO))))))))) (noF (by simp_all))
    refine Wc<|J (fun _=>(g 171 172 []<|J UA (RT ?_))) (noF rfl)
    all_goals exact vbf (gG hup (n5 hj1 (fun q=>by have:=q.1 hz;omega)))
  ·by_cases hA:(b.epoch - 1) * 1000000+1≤j.lease∧j.lease≤(b.epoch - 1) * 1000000+b.given
   ·by_cases hB:j.lease∈(b.jobs.take n1).map Job.lease
    ·have hkm:Value.int IntKind.i64 j.lease∈nH b n1:=(FL hz).2 hB
     conv=>whnf
     refine g 0 0 []<|J UA<|Ws<|Wc<|J (fun _=>(Wk (Ws (Wb (g 162 166 [.x (aI j)]<|J QZ (Ws (g 166 168 []<|J UC (Wc<|J (noT dO) fun _=>(Wk (Ws ?_)))))))))) (noF (by simp_all))
     refine g 168 207 (.i ((b.epoch - 1) * 1000000+1)::.i ((b.epoch - 1) * 1000000+b.given)::.call (V.b (decide ((b.epoch - 1) * 1000000+1≤j.lease∧j.lease≤(b.epoch - 1) * 1000000+b.given))) [[],[],[]]::BF::BF::BF::BF::.b (decide (j.lease∈List.map (fun l=>l) (List.filter (fun l=>decide ¬l = 0) (List.map Job.lease (List.take n1 b.jobs)))))::BF::(RL 18 BT []))<|J (QA @ah)<|Wc<|J (fun _=>(g 207 208 []<|J UA (RT ?_))) (noF rfl)
     exact vbf (gG hup (n5 hj1 (fun q=>(q.2 hz).once hB)))
    ·have hkm:¬Value.int IntKind.i64 j.lease∈nH b n1:=fun e=>hB ((FL hz).1 e)
     by_cases hC:1≤j.worker∧j.worker≤b.workers
     ·by_cases hD:b.now+1≤j.til∧j.til≤b.now+12
      ·by_cases hE:y = emp
       ·by_cases hF:de b.results t.deps
        ·rw[decide_eq_true hF]at crd
         conv=>whnf
         refine g 0 0 []<|J UA<|Ws<|Wc<|J (fun _=>(Wk (Ws (Wb (g 162 166 [.x (aI j)]<|J QZ (Ws (g 166 168 []<|J UC (Wc<|J (noT dO) fun _=>(Wk (Ws ?_)))))))))) (noF (by simp_all))
         refine g 168 207 (.i ((b.epoch - 1) * 1000000+1)::.i ((b.epoch - 1) * 1000000+b.given)::.call (V.b (decide ((b.epoch - 1) * 1000000+1≤j.lease∧j.lease≤(b.epoch - 1) * 1000000+b.given))) [[],[],[]]::BF::BF::BF::BF::.b (decide (j.lease∈List.map (fun l=>l) (List.filter (fun l=>decide ¬l = 0) (List.map Job.lease (List.take n1 b.jobs)))))::(RL 6 BF (.call (V.b (decide (1≤j.worker∧j.worker≤b.workers))) [[],[],[]]::(RL 7 BF [.i (b.now+1),BF,BF,BF,.i (b.now+12),BF,.call (V.b (decide (b.now+1≤j.til∧j.til≤b.now+12))) [[],[],[]],BF,BF])))) ?_
         conv=>whnf
         refine J (QA @ah)<|Wc<|J (noT nO) fun _=>Wk<|g 207 211 []<|J QZ<|gd 211 228 [[],[],[],[.x (ai y)],[],[],[],[BF],[BF],[BF],[BF],[BF],[BF,.x (ay t)],[BF],[BF],[BF,.call VT [[],[]]],[BF],[BF]] ?_
         conv=>whnf
         refine J QZ<|J KR<|Wc<|J (noT rfl) fun _=>Wk<|rg [.i ((n1:Int) +1)]<|J QZ ?_
         refine⟨n1+1,[some 2,some 3],[153],⟨rfl,FZ,FZ,⟨(congrArg some (Mo hj1 hz)),I⟩⟩,?_,?_⟩
         rotate_left
         (dsimp only;omega)
         dsimp only
         exact⟨by omega,pN hc1 hj1 ⟨fun e=>absurd e hz,fun _=>⟨hA,hC,hD,by rw[ky hy0];exact hE,by rw[eu ht0];exact hF,hB⟩⟩⟩
        ·rw[decide_eq_false hF]at crd
         conv=>whnf
         refine g 0 0 []<|J UA<|Ws<|Wc<|J (fun _=>(Wk (Ws (Wb (g 162 166 [.x (aI j)]<|J QZ (Ws (g 166 168 []<|J UC (Wc<|J (noT dO) fun _=>(Wk (Ws ?_)))))))))) (noF (by simp_all))
         refine g 168 207 (.i ((b.epoch - 1) * 1000000+1)::.i ((b.epoch - 1) * 1000000+b.given)::.call (V.b (decide ((b.epoch - 1) * 1000000+1≤j.lease∧j.lease≤(b.epoch - 1) * 1000000+b.given))) [[],[],[]]::BF::BF::BF::BF::.b (decide (j.lease∈List.map (fun l=>l) (List.filter (fun l=>decide ¬l = 0) (List.map Job.lease (List.take n1 b.jobs)))))::(RL 6 BF (.call (V.b (decide (1≤j.worker∧j.worker≤b.workers))) [[],[],[]]::(RL 7 BF [.i (b.now+1),BF,BF,BF,.i (b.now+12),BF,.call (V.b (decide (b.now+1≤j.til∧j.til≤b.now+12))) [[],[],[]],BF,BF])))) ?_
         conv=>whnf
         refine J (QA @ah)<|Wc<|J (noT nO) fun _=>Wk<|g 207 211 []<|J QZ<|gd 211 228 [[],[],[],[.x (ai y)],[],[],[],[BF],[BF],[BF],[BF],[BF],[BF,.x (ay t)],[BF],[BF],[BF,.call VF [[],[]]],[BF],[BF]] ?_
         conv=>whnf
         refine J QZ<|J KR<|Wc<|J (fun _=>(g 10 12 []<|J UA (RT ?_))) (noF rfl)
         exact vbf (gG hup (n5 hj1 (fun q=>hF (by have:=(q.2 hz).ready;rw[eu ht0]at this;exact this))))
       ·conv=>whnf
        refine g 0 0 []<|J UA<|Ws<|Wc<|J (fun _=>(Wk (Ws (Wb (g 162 166 [.x (aI j)]<|J QZ (Ws (g 166 168 []<|J UC (Wc<|J (noT dO) fun _=>(Wk (Ws ?_)))))))))) (noF (by simp_all))
        refine g 168 207 (.i ((b.epoch - 1) * 1000000+1)::.i ((b.epoch - 1) * 1000000+b.given)::.call (V.b (decide ((b.epoch - 1) * 1000000+1≤j.lease∧j.lease≤(b.epoch - 1) * 1000000+b.given))) [[],[],[]]::BF::BF::BF::BF::.b (decide (j.lease∈List.map (fun l=>l) (List.filter (fun l=>decide ¬l = 0) (List.map Job.lease (List.take n1 b.jobs)))))::(RL 6 BF (.call (V.b (decide (1≤j.worker∧j.worker≤b.workers))) [[],[],[]]::(RL 7 BF [.i (b.now+1),BF,BF,BF,.i (b.now+12),BF,.call (V.b (decide (b.now+1≤j.til∧j.til≤b.now+12))) [[],[],[]],BF,BF])))) ?_
        conv=>whnf
        refine J (QA @ah)<|Wc<|J (noT nO) fun _=>Wk<|g 207 211 []<|J QZ<|gd 211 228 [[],[],[],[.x (ai y)],[],[],[],[BT],[BT],[BT],[BT],[BT],[BT],[BT],[BT],[BT],[BT],[BT]] ?_
        conv=>whnf
        refine J QZ<|J KR<|Wc<|J (fun _=>(g 10 12 []<|J UA (RT ?_))) (noF rfl)
        exact vbf (gG hup (n5 hj1 (fun q=>hE (by have:=(q.2 hz).res;rw[ky hy0]at this;exact this))))
      ·conv=>whnf
       refine g 0 0 []<|J UA<|Ws<|Wc<|J (fun _=>(Wk (Ws (Wb (g 162 166 [.x (aI j)]<|J QZ (Ws (g 166 168 []<|J UC (Wc<|J (noT dO) fun _=>(Wk (Ws ?_)))))))))) (noF (by simp_all))
       refine g 168 207 (.i ((b.epoch - 1) * 1000000+1)::.i ((b.epoch - 1) * 1000000+b.given)::.call (V.b (decide ((b.epoch - 1) * 1000000+1≤j.lease∧j.lease≤(b.epoch - 1) * 1000000+b.given))) [[],[],[]]::BF::BF::BF::BF::.b (decide (j.lease∈List.map (fun l=>l) (List.filter (fun l=>decide ¬l = 0) (List.map Job.lease (List.take n1 b.jobs)))))::(RL 6 BF (.call (V.b (decide (1≤j.worker∧j.worker≤b.workers))) [[],[],[]]::(RL 7 BF [.i (b.now+1),BF,BF,BF,.i (b.now+12),BF,.call (V.b (decide (b.now+1≤j.til∧j.til≤b.now+12))) [[],[],[]],BF,BF])))) ?_
       conv=>whnf
       refine J (QA @ah)<|Wc<|J (fun _=>(g 207 208 []<|J UA (RT ?_))) (noF (dP OM))
       exact vbf (gG hup (n5 hj1 (fun q=>hD (q.2 hz).til)))
     ·conv=>whnf
      refine g 0 0 []<|J UA<|Ws<|Wc<|J (fun _=>(Wk (Ws (Wb (g 162 166 [.x (aI j)]<|J QZ (Ws (g 166 168 []<|J UC (Wc<|J (noT dO) fun _=>(Wk (Ws ?_)))))))))) (noF (by simp_all))
      refine g 168 207 (.i ((b.epoch - 1) * 1000000+1)::.i ((b.epoch - 1) * 1000000+b.given)::.call (V.b (decide ((b.epoch - 1) * 1000000+1≤j.lease∧j.lease≤(b.epoch - 1) * 1000000+b.given))) [[],[],[]]::BF::BF::BF::BF::.b (decide (j.lease∈List.map (fun l=>l) (List.filter (fun l=>decide ¬l = 0) (List.map Job.lease (List.take n1 b.jobs)))))::(RL 6 BF (.call (V.b (decide (1≤j.worker∧j.worker≤b.workers))) [[],[],[]]::BF::BF::(RL 11 BT [])))) ?_
      conv=>whnf
      refine J (QA @ah)<|Wc<|J (fun _=>(g 207 208 []<|J UA (RT ?_))) (noF rfl)
      exact vbf (gG hup (n5 hj1 (fun q=>hC (q.2 hz).worker)))
   ·conv=>whnf
    refine g 0 0 []<|J UA<|Ws<|Wc<|J (fun _=>(Wk (Ws (Wb (g 162 166 [.x (aI j)]<|J QZ (Ws (g 166 168 []<|J UC (Wc<|J (noT dO) fun _=>(Wk (Ws ?_)))))))))) (noF (by simp_all))
    refine g 168 207 (.i ((b.epoch - 1) * 1000000+1)::.i ((b.epoch - 1) * 1000000+b.given)::.call (V.b (decide ((b.epoch - 1) * 1000000+1≤j.lease∧j.lease≤(b.epoch - 1) * 1000000+b.given))) [[],[],[]]::(RL 23 BT []))<|J (QA @ah)<|Wc<|J (fun _=>(g 207 208 []<|J UA (RT ?_))) (noF rfl)
    exact vbf (gG hup (n5 hj1 (fun q=>hA (q.2 hz).lease)))
 have hjobs:iJ b p.tasks b.jobs.length:=by rw[show b.jobs.length = n1 by omega];exact hc1
 conv=>whnf
 refine g 0 0 []<|J UA<|Ws<|Wc<|J (noT (by simp_all)) fun _=>We<|Ws<|g 24 231 []<|J UD<|Wb<|Wl (fun s (n:Nat)=>⟨(SK s [2,3,22,231,232] [(233,.i n)]),[(2,(CK s 2 0 12 [])),(3,[s.c 3 0])],[]⟩) (fun(n:Nat)=>n≤b.seats.length∧∀ s∈b.seats.take n,0≤s.epoch∧s.epoch≤300) (fun(n:Nat)=>b.seats.length - n) (0) [some 2,some 3] [] FZ (by simp) ?_
 rintro n2 ⟨hn2,hc2⟩
 by_cases hs2:n2 < b.seats.length
 ·obtain⟨s,hs1⟩:=ae hs2
  by_cases hA:0≤s.epoch∧s.epoch≤300
  ·conv=>whnf
   refine g 0 0 []<|J UA<|Ws<|Wc<|JD (fun h14=>?_) fun h14=>?_
   simp only[LM]at h14
   refine Wk<|Ws<|Wb<|g 234 237 [.x (aE s)]<|J QZ<|g 237 240 [.call (V.b (decide (0≤s.epoch∧s.epoch≤300))) [[],[],[]]]<|J (QA @ah)<|Wc<|J (noT nO) fun _=>Wk<|rg [.i ((n2:Int) +1)]<|J QZ ?_
   rotate_left
   simp only[LM]at h14
   omega
   refine⟨n2+1,[some 2,some 3],[],FZ,?_,?_⟩
   rotate_left
   (dsimp only;omega)
   dsimp only
   exact⟨by omega,en hc2 hs1 hA⟩
  ·conv=>whnf
   refine g 0 0 []<|J UA<|Ws<|Wc<|JD (fun h14=>?_) fun h14=>?_
   simp only[LM]at h14
   refine Wk<|Ws<|Wb<|g 234 237 [.x (aE s)]<|J QZ<|g 237 240 [.call (V.b (decide (0≤s.epoch∧s.epoch≤300))) [[],[],[]]]<|J (QA @ah)<|Wc<|J (fun _=>(g 13 14 []<|J UA (RT ?_))) (noF (dP OM))
   rotate_left
   simp only[LM]at h14
   omega
   exact vbf (gG hup (Kd hs1 hA))
 have hseats:∀ s∈b.seats,0≤s.epoch∧s.epoch≤300:=by rw[aH OM]at hc2;exact hc2
 conv=>whnf
 refine g 0 0 []<|J UA<|Ws<|Wc<|J (fun h14=>?_) fun h14=>?_
 replace h14:=dt h14
 simp only[LM]at h14
 omega
 replace h14:=df h14
 simp only[LM]at h14
 refine We<|Ws<|g 231 243 []<|J UD<|Wb<|Wl (fun s (n:Nat)=>⟨(SK s [2,3,22,243,244] [(245,.i n)]),[(2,(CK s 2 0 12 [])),(3,[s.c 3 0])],[]⟩) (fun(n:Nat)=>n≤b.owed.length∧∀ o∈b.owed.take n,OwedOk b p.tasks o) (fun(n:Nat)=>b.owed.length - n) (0) [some 2,some 3] [] FZ (by simp) ?_
 rintro n3 ⟨hn3,hc3⟩
 by_cases ho2:n3 < b.owed.length
 ·obtain⟨o,ho1⟩:=ae ho2
  by_cases hA:1≤o.worker∧o.worker≤b.workers
  ·by_cases hB:1≤o.lease∧o.lease≤300000000
   ·by_cases hC:0≤o.task∧o.task≤(p.tasks.length:Int) - 1
    ·obtain⟨y,hy0⟩:=ae (xs:=b.results) (n:=o.task.toNat) OM
     by_cases hD:y = emp
     ·conv=>whnf
      refine g 0 0 []<|J UA<|Ws<|Wc<|J (fun _=>(Wk (Ws (Wb (g 246 249 [.x (aJ o)]<|J QZ (g 249 279 (.call (V.b (decide (1≤o.worker∧o.worker≤b.workers))) [[],[],[]]::BF::BF::BF::.call (V.b (decide (1≤o.lease∧o.lease≤300000000))) [[],[],[]]::(RL 8 BF (.i ((↑(List.length (List.map ay p.tasks)):Int) - 1)::BF::.call (V.b (decide (0≤o.task∧o.task≤(↑(List.length (List.map ay p.tasks)):Int) - 1))) [[],[],[]]::(RL 7 BF [.x (ai y),BF,BF,BF]))))<|J (QA @ah) (Wc<|J (fun _=>(g 15 16 []<|J UA (RT ?_))) (noF tO)))))))) (noF SI)
      exact vbf (gG hup (lV ho1 (fun q=>q.res (by rw[kP hy0];exact hD))))
     ·conv=>whnf
      refine g 0 0 []<|J UA<|Ws<|Wc<|J (fun _=>(Wk (Ws (Wb (g 246 249 [.x (aJ o)]<|J QZ (g 249 279 (.call (V.b (decide (1≤o.worker∧o.worker≤b.workers))) [[],[],[]]::BF::BF::BF::.call (V.b (decide (1≤o.lease∧o.lease≤300000000))) [[],[],[]]::(RL 8 BF (.i ((↑(List.length (List.map ay p.tasks)):Int) - 1)::BF::.call (V.b (decide (0≤o.task∧o.task≤(↑(List.length (List.map ay p.tasks)):Int) - 1))) [[],[],[]]::(RL 7 BF [.x (ai y),BF,BF,BF]))))<|J (QA @ah) (Wc<|J (noT dO) fun _=>(Wk (rg [.i ((n3:Int) +1)]<|J QZ ?_))))))))) (noF SI)
      refine⟨n3+1,[some 2,some 3],[],FZ,?_,?_⟩
      rotate_left
      (dsimp only;omega)
      dsimp only
      exact⟨by omega,en hc3 ho1 ⟨hA,hB,hC,by rw[kP hy0];exact hD⟩⟩
    ·conv=>whnf
     refine g 0 0 []<|J UA<|Ws<|Wc<|J (fun _=>(Wk (Ws (Wb (g 246 249 [.x (aJ o)]<|J QZ (g 249 279 (.call (V.b (decide (1≤o.worker∧o.worker≤b.workers))) [[],[],[]]::BF::BF::BF::.call (V.b (decide (1≤o.lease∧o.lease≤300000000))) [[],[],[]]::(RL 8 BF (.i ((↑(List.length (List.map ay p.tasks)):Int) - 1)::BF::.call (V.b (decide (0≤o.task∧o.task≤(↑(List.length (List.map ay p.tasks)):Int) - 1))) [[],[],[]]::BF::BF::(RL 8 BT []))))<|J (QA @ah) (Wc<|J (fun _=>(g 15 16 []<|J UA (RT ?_))) (noF rfl)))))))) (noF SI)
     exact vbf (gG hup (lV ho1 (fun q=>hC q.task)))
   ·conv=>whnf
    refine g 0 0 []<|J UA<|Ws<|Wc<|J (fun _=>(Wk (Ws (Wb (g 246 249 [.x (aJ o)]<|J QZ (g 249 279 (.call (V.b (decide (1≤o.worker∧o.worker≤b.workers))) [[],[],[]]::BF::BF::BF::.call (V.b (decide (1≤o.lease∧o.lease≤300000000))) [[],[],[]]::BF::BF::(RL 17 BT []))<|J (QA @ah) (Wc<|J (fun _=>(g 15 16 []<|J UA (RT ?_))) (noF rfl)))))))) (noF SI)
    exact vbf (gG hup (lV ho1 (fun q=>hB q.lease)))
  ·conv=>whnf
   refine g 0 0 []<|J UA<|Ws<|Wc<|J (fun _=>(Wk (Ws (Wb (g 246 249 [.x (aJ o)]<|J QZ (g 249 279 (.call (V.b (decide (1≤o.worker∧o.worker≤b.workers))) [[],[],[]]::(RL 22 BT []))<|J (QA @ah) (Wc<|J (fun _=>(g 15 16 []<|J UA (RT ?_))) (noF rfl)))))))) (noF SI)
   exact vbf (gG hup (lV ho1 (fun q=>hA q.worker)))
 have howed:∀ o∈b.owed,OwedOk b p.tasks o:=by rw[aH OM]at hc3;exact hc3
 conv=>whnf
 refine g 0 0 []<|J UA<|Ws<|Wc<|J (noT SI) fun _=>We<|g 22 247 []<|J UA<|RT ?_
 exact vbt ⟨hc0,f6,f7,hk,fun _=>⟨f1,f2,f3,f4,f5,g1,g2,g3,g4,hjobs,hseats,howed⟩,fun e=>by rw[hup]at e;cases e⟩
end Go.K
end
section
open Go Go.Tm Go.Proofs
namespace Go.K
theorem PM{b:Boss}{k:Nat}{j2:Job}{l:Int}(hc:l ∉ (b.jobs.take k).map Job.lease)(h:b.jobs[k]? = some j2)(hn:¬j2.lease = l):l ∉ (b.jobs.take (k+1)).map Job.lease:=fun e=>by
 rw[List.take_add_one,h,List.map_append]at e
 rcases List.mem_append.1 e with e|e
 ·exact hc e
 ·simp at e;exact hn e.symm
theorem W9{b:Boss}{k n:Nat}{j2:Job}{l:Int}(hk:k < n)(h:b.jobs[k]? = some j2)(hn:j2.lease = l):l∈(b.jobs.take n).map Job.lease :=
 List.mem_map.2 ⟨j2,List.mem_of_getElem? (i:=k) (by rw[List.getElem?_take,if_pos hk];exact h),hn⟩
theorem kR{b:Boss}{ts:List Task}{n:Nat}{j:Job}(hj:b.jobs[n]? = some j)(h:¬Ir b ts n j):¬iJ b ts b.jobs.length:=fun q=>h (q n j (List.getElem?_eq_some_iff.1 hj).1 hj)
noncomputable instance (b:Boss) (ts:List Task) (n:Nat):Decidable (iJ b ts n):=Classical.propDecidable _
theorem yV(b:Boss)(p:Plan)(hc0:am p.tasks = 0)(f1:1≤b.epoch)(f2:b.epoch≤300)(f3:b.results.length = p.tasks.length)(f4:b.jobs.length = p.tasks.length)(f7:0≤b.now∧b.now≤1000000)(f8:0≤b.given∧b.given≤1000000):F xW [.val (fT b),.val (cV p)] (.b (decide (iJ b p.tasks b.jobs.length))) [[],[]]:=by
 have hpl:=(bU hc0).1
 refine yA ?_
 conv=>whnf
 refine g 0 2 []<|J QZ<|g 11 13 [.i (b.epoch - 1),.i ((b.epoch - 1) * 1000000)]<|J QZ<|Ws<|g 9 10 []<|J UA<|Wb ?_
 refine Wl (fun s (n:Nat)=>⟨(SK s [2,3,5] [(6,.i n),(10,s.s 10)]),[(2,(CK s 2 0 12 [])),(3,[s.c 3 0])],[]⟩) (fun(n:Nat)=>n≤b.jobs.length∧iJ b p.tasks n) (fun(n:Nat)=>b.jobs.length - n) (0) [some 2,some 3] [] FZ ?_ ?_
 ·exact⟨Nat.zero_le _,fun m j hm=>by omega⟩
 rintro n1 ⟨hn1,hc1⟩
 by_cases hj2:n1 < b.jobs.length
 ·obtain⟨j,hj1⟩:=ae hj2
  obtain⟨y,hy0⟩:=ae (xs:=b.results) (n:=n1) OM
  obtain⟨t,ht0⟩:=ae (xs:=p.tasks) (n:=n1) OM
  obtain⟨_,_,a3,a4⟩:=cq hc0 ht0
  have crd:=iT p b.results (n1:Int) (t:=t) OM (by rw[Int.toNat_natCast];exact ht0) (fun d hd=>by have:=a4 d hd;omega) OM
  by_cases hz:j.lease = 0
  ·by_cases hz2:j.worker = 0∧j.til = 0
   ·have hjo:Ir b p.tasks n1 j:=⟨fun _=>hz2,fun e=>absurd hz e⟩
    obtain⟨hz3,hz4⟩:=hz2
    conv=>whnf
    refine Ws<|g 13 17 []<|J UE<|Wc<|J (fun _=>(Wk (Ws (Wb (g 17 25 [.x (aI j)]<|J QZ (Ws (g 25 27 []<|J UC (Wc<|J (fun _=>(Ws (g 31 35 [BF,BF,BF,BF]<|J QZ ?_))) (noF tO))))))))) (noF (by simp_all))
    refine Wc<|J (noT nO) fun _=>Wk<|We<|rg [.i ((n1:Int) +1)]<|J QZ ?_
    refine⟨n1+1,[some 2,some 3],[],FZ,?_,?_⟩
    rotate_left
    (dsimp only;omega)
    dsimp only
    exact⟨by omega,pN hc1 hj1 hjo⟩
   ·conv=>whnf
    refine Ws<|g 13 17 []<|J UE<|Wc<|J (fun _=>(Wk (Ws (Wb (g 17 25 [.x (aI j)]<|J QZ (Ws (g 25 27 []<|J UC (Wc<|J (fun _=>(Ws ?_)) (noF tO))))))))) (noF (by simp_all))
    by_cases h1:Job.worker j = (0:Int)
    refine g 31 35 [BF,BF,BF,BF]<|J QZ<|Wc<|J (fun _=>(g 27 30 []<|J UA (RT ?_))) (noF (dP OM))
    rotate_left
    refine g 31 35 [BT,BT,BT,BT]<|J QZ<|Wc<|J (fun _=>(g 27 30 []<|J UA (RT ?_))) (noF rfl)
    rotate_left
    all_goals exact vbf (kR hj1 (fun q=>by have:=q.1 hz;omega))
  ·by_cases hA:(b.epoch - 1) * 1000000+1≤j.lease∧j.lease≤(b.epoch - 1) * 1000000+b.given
   ·by_cases hC:1≤j.worker∧j.worker≤b.workers
    ·by_cases hD:b.now+1≤j.til∧j.til≤b.now+12
     ·by_cases hE:y = emp
      ·by_cases hF:de b.results t.deps
       ·rw[decide_eq_true hF]at crd
        conv=>whnf
        refine Ws<|g 13 17 []<|J UE<|Wc<|J (fun _=>(Wk (Ws (Wb (g 17 25 [.x (aI j)]<|J QZ (Ws (g 25 27 []<|J UC (Wc<|J (noT dO) fun _=>(Wk (Ws ?_)))))))))) (noF (by simp_all))
        refine g 27 81 (.i ((b.epoch - 1) * 1000000+1)::.i ((b.epoch - 1) * 1000000+b.given)::.call (V.b (decide ((b.epoch - 1) * 1000000+1≤j.lease∧j.lease≤(b.epoch - 1) * 1000000+b.given))) [[],[],[]]::BF::BF::BF::BF::BF::.call (V.b (decide (1≤j.worker∧j.worker≤b.workers))) [[],[],[]]::(RL 7 BF (.i (b.now+1)::BF::BF::BF::.i (b.now+12)::BF::.call (V.b (decide (b.now+1≤j.til∧j.til≤b.now+12))) [[],[],[]]::(RL 6 BF (.x (ai y)::(RL 8 BF [.call VT [[],[],[]],BF,BF])))))) ?_
        conv=>whnf
        refine J (QA @av)<|Wc<|J (noT rfl) fun _=>Wk<|g 81 82 []<|J UA<|Wb<|Wl (fun s (k:Nat)=>⟨(SK s [2,3,5,6,7] [(8,.i k),(10,s.s 10)]),[(2,(CK s 2 0 12 [])),(3,[s.c 3 0]),(7,(CK s 7 0 3 []))],[]⟩) (fun(k:Nat)=>k≤n1∧j.lease ∉ (b.jobs.take k).map Job.lease) (fun(k:Nat)=>n1 - k) (0) [some 2,some 3,some 7] [] FZ (by simp) ?_
        rintro k ⟨hk,hB⟩
        by_cases hk2:k < n1
        ·obtain⟨j2,hj3⟩:=ae (xs:=b.jobs) (n:=k) OM
         by_cases hq:j2.lease = j.lease
         ·conv=>whnf
          refine Ws<|g 82 84 []<|J UC<|Wc<|J (fun _=>(Wk (Ws (Wb (gd 84 95 [[],[],[],[.x (aI j2)],[],[],[],[],[]] ?_))))) (noF tO)
          conv=>whnf
          refine⟨⟨I,I,I,Zap,I,I,I,I,I,I⟩,by kernel_rfl,?_⟩
          refine Wc<|J (fun _=>(g 95 96 []<|J UA (RT ?_))) (noF tO)
          exact vbf (kR hj1 (fun q=>(q.2 hz).once (W9 hk2 hj3 hq)))
         ·conv=>whnf
          refine Ws<|g 82 84 []<|J UC<|Wc<|J (fun _=>(Wk (Ws (Wb (gd 84 95 [[],[],[],[.x (aI j2)],[],[],[],[],[]] ?_))))) (noF tO)
          conv=>whnf
          refine⟨⟨I,I,I,Zap,I,I,I,I,I,I⟩,by kernel_rfl,?_⟩
          refine Wc<|J (noT dO) fun _=>Wk<|rg [.i ((k:Int) +1)]<|J QZ ?_
          refine⟨k+1,[some 2,some 3,some 7],[],FZ,?_,?_⟩
          rotate_left
          (dsimp only;omega)
          dsimp only
          exact⟨by omega,PM hB hj3 hq⟩
        ·rw[show k = n1 by omega]at hB
         conv=>whnf
         refine Ws<|g 82 84 []<|J UC<|Wc<|J (noT dO) fun _=>We<|rg [.i ((n1:Int) +1)]<|J QZ ?_
         refine⟨n1+1,[some 2,some 3],[],FZ,?_,?_⟩
         rotate_left
         (dsimp only;omega)
         dsimp only
         exact⟨by omega,pN hc1 hj1 ⟨fun e=>absurd e hz,fun _=>⟨hA,hC,hD,by rw[ky hy0];exact hE,by rw[eu ht0];exact hF,hB⟩⟩⟩
       ·rw[decide_eq_false hF]at crd
        conv=>whnf
        refine Ws<|g 13 17 []<|J UE<|Wc<|J (fun _=>(Wk (Ws (Wb (g 17 25 [.x (aI j)]<|J QZ (Ws (g 25 27 []<|J UC (Wc<|J (noT dO) fun _=>(Wk (Ws ?_)))))))))) (noF (by simp_all))
        refine g 27 81 (.i ((b.epoch - 1) * 1000000+1)::.i ((b.epoch - 1) * 1000000+b.given)::.call (V.b (decide ((b.epoch - 1) * 1000000+1≤j.lease∧j.lease≤(b.epoch - 1) * 1000000+b.given))) [[],[],[]]::BF::BF::BF::BF::BF::.call (V.b (decide (1≤j.worker∧j.worker≤b.workers))) [[],[],[]]::(RL 7 BF (.i (b.now+1)::BF::BF::BF::.i (b.now+12)::BF::.call (V.b (decide (b.now+1≤j.til∧j.til≤b.now+12))) [[],[],[]]::(RL 6 BF (.x (ai y)::(RL 8 BF [.call VF [[],[],[]],BF,BF])))))) ?_
        conv=>whnf
        refine J (QA @av)<|Wc<|J (fun _=>(g 81 82 []<|J UA (RT ?_))) (noF rfl)
        exact vbf (kR hj1 (fun q=>hF (by have:=(q.2 hz).ready;rw[eu ht0]at this;exact this)))
      ·conv=>whnf
       refine Ws<|g 13 17 []<|J UE<|Wc<|J (fun _=>(Wk (Ws (Wb (g 17 25 [.x (aI j)]<|J QZ (Ws (g 25 27 []<|J UC (Wc<|J (noT dO) fun _=>(Wk (Ws ?_)))))))))) (noF (by simp_all))
       refine g 27 81 (.i ((b.epoch - 1) * 1000000+1)::.i ((b.epoch - 1) * 1000000+b.given)::.call (V.b (decide ((b.epoch - 1) * 1000000+1≤j.lease∧j.lease≤(b.epoch - 1) * 1000000+b.given))) [[],[],[]]::BF::BF::BF::BF::BF::.call (V.b (decide (1≤j.worker∧j.worker≤b.workers))) [[],[],[]]::(RL 7 BF (.i (b.now+1)::BF::BF::BF::.i (b.now+12)::BF::.call (V.b (decide (b.now+1≤j.til∧j.til≤b.now+12))) [[],[],[]]::(RL 6 BF (.x (ai y)::BF::BF::BF::(RL 7 BT [])))))) ?_
       conv=>whnf
       refine J (QA @av)<|Wc<|J (fun _=>(g 81 82 []<|J UA (RT ?_))) (noF rfl)
       exact vbf (kR hj1 (fun q=>hE (by have:=(q.2 hz).res;rw[ky hy0]at this;exact this)))
     ·conv=>whnf
      refine Ws<|g 13 17 []<|J UE<|Wc<|J (fun _=>(Wk (Ws (Wb (g 17 25 [.x (aI j)]<|J QZ (Ws (g 25 27 []<|J UC (Wc<|J (noT dO) fun _=>(Wk (Ws ?_)))))))))) (noF (by simp_all))
      refine g 27 81 (.i ((b.epoch - 1) * 1000000+1)::.i ((b.epoch - 1) * 1000000+b.given)::.call (V.b (decide ((b.epoch - 1) * 1000000+1≤j.lease∧j.lease≤(b.epoch - 1) * 1000000+b.given))) [[],[],[]]::BF::BF::BF::BF::BF::.call (V.b (decide (1≤j.worker∧j.worker≤b.workers))) [[],[],[]]::(RL 7 BF (.i (b.now+1)::BF::BF::BF::.i (b.now+12)::BF::.call (V.b (decide (b.now+1≤j.til∧j.til≤b.now+12))) [[],[],[]]::BF::BF::(RL 14 BT [])))) ?_
      conv=>whnf
      refine J (QA @av)<|Wc<|J (fun _=>(g 81 82 []<|J UA (RT ?_))) (noF rfl)
      exact vbf (kR hj1 (fun q=>hD (q.2 hz).til))
    ·conv=>whnf
     refine Ws<|g 13 17 []<|J UE<|Wc<|J (fun _=>(Wk (Ws (Wb (g 17 25 [.x (aI j)]<|J QZ (Ws (g 25 27 []<|J UC (Wc<|J (noT dO) fun _=>(Wk (Ws ?_)))))))))) (noF (by simp_all))
     refine g 27 81 (.i ((b.epoch - 1) * 1000000+1)::.i ((b.epoch - 1) * 1000000+b.given)::.call (V.b (decide ((b.epoch - 1) * 1000000+1≤j.lease∧j.lease≤(b.epoch - 1) * 1000000+b.given))) [[],[],[]]::BF::BF::BF::BF::BF::.call (V.b (decide (1≤j.worker∧j.worker≤b.workers))) [[],[],[]]::BF::BF::(RL 25 BT [])) ?_
     conv=>whnf
     refine J (QA @av)<|Wc<|J (fun _=>(g 81 82 []<|J UA (RT ?_))) (noF rfl)
     exact vbf (kR hj1 (fun q=>hC (q.2 hz).worker))
   ·conv=>whnf
    refine Ws<|g 13 17 []<|J UE<|Wc<|J (fun _=>(Wk (Ws (Wb (g 17 25 [.x (aI j)]<|J QZ (Ws (g 25 27 []<|J UC (Wc<|J (noT dO) fun _=>(Wk (Ws ?_)))))))))) (noF (by simp_all))
    refine g 27 81 (.i ((b.epoch - 1) * 1000000+1)::.i ((b.epoch - 1) * 1000000+b.given)::.call (V.b (decide ((b.epoch - 1) * 1000000+1≤j.lease∧j.lease≤(b.epoch - 1) * 1000000+b.given))) [[],[],[]]::(RL 32 BT [])) ?_
    conv=>whnf
    refine J (QA @av)<|Wc<|J (fun _=>(g 81 82 []<|J UA (RT ?_))) (noF rfl)
    exact vbf (kR hj1 (fun q=>hA (q.2 hz).lease))
 have hjobs:iJ b p.tasks b.jobs.length:=by rw[show b.jobs.length = n1 by omega];exact hc1
 conv=>whnf
 refine Ws<|g 13 17 []<|J UE<|Wc<|J (noT (by simp_all)) fun _=>We<|g 5 18 []<|J UA<|RT ?_
 exact vbt OM
theorem v4(b:Boss)(p:Plan)(hp:dy p)(hl1:b.log.safe.length≤1048576)(hl2:b.log.loose.length≤1048576)(hs:∀ s∈b.log.safe++b.log.loose,s.size≤281474976710656)(hr:b.results.length≤1048576)(hj:b.jobs.length≤1048576)(hse:b.seats.length≤1048576)(ho:b.owed.length≤1048576):F lW [.val (fT b),.val (cV p)] (.b (decide (BossOk b p))) [[],[]]:=by
 have cp:=dl p hp
 have ce:=nq b.log hl1 hl2
 have cr:F lz [.val (cV p),.val (.t (o9 (b.log.safe++b.log.loose)))] (gK (cx b p)) [[],[]]:=iU p (b.log.safe++b.log.loose) hp hs (by rw[List.length_append];omega)
 have h310:(cx b p).code = 0→b.log.safe.length+b.log.loose.length≤310:=fun q=>by have:=(cC (p:=p) (xs:=b.log.safe++b.log.loose) q).2.1;rw[List.length_append]at this;exact this
 by_cases hup:b.up = true
 rotate_left
 ·rw[Bool.not_eq_true]at hup
  refine mi ?_
  conv=>whnf
  refine g 0 2 []<|J QZ<|Ws ?_
  by_cases h1:am (Plan.tasks p) = (0:Int)
  by_cases h2:(1:Int)≤Boss.workers b∧Boss.workers b≤(8:Int)
  by_cases h3:(0:Int)≤Boss.now b∧Boss.now b≤(1000000:Int)
  refine g 21 26 (.call (V.i (am p.tasks)) [[]]::BF::BF::BF::.call (V.b (decide (1≤b.workers∧b.workers≤8))) [[],[],[]]::BF::BF::BF::BF::BF::.call (V.b (decide (0≤b.now∧b.now≤1000000))) [[],[],[]]::(RL 11 BF [.i ((↑(List.length (List.map ai b.log.safe)):Int) + (↑(List.length (List.map ai b.log.loose)):Int)),BF,BF]))<|J (QA @av)<|Wc<|JD (fun h4=>?_) fun h4=>?_
  simp only[LM]at h4
  refine g 27 32 []<|J UA<|RT ?_
  rotate_left
  simp only[LM]at h4
  refine Wk<|gd 27 32 [[],[],[],[.call (V.own [false] (List.map ai (b.log.safe++b.log.loose))) [[]]],[.call (gK (cx b p)) [[],[]]],[],[]] ?_
  conv=>whnf
  refine J QZ<|J KR<|Ws<|g 39 45 []<|J UC<|Wc<|JN (fun h5=>?_) fun h5=>?_
  refine g 33 38 []<|J UA<|RT ?_
  rotate_left
  refine Wk<|Ws<|g 33 38 []<|J UC<|Wc<|J (fun _=>?_) (noF (nbT AS))
  by_cases h6:(↑(List.length (List.map ai (Log.loose (Boss.log b)))):Int) = (0:Int)
  simp only[LM]at h6
  by_cases h7:Boss.since b = (0:Int)
  by_cases h8:Boss.epoch b = (0:Int)
  by_cases h9:Boss.given b = (0:Int)
  by_cases h10:(↑(List.length (List.map ai (Boss.results b))):Int) = (0:Int)
  simp only[LM]at h10
  by_cases h11:(↑(List.length (List.map aI (Boss.jobs b))):Int) = (0:Int)
  simp only[LM]at h11
  by_cases h12:(↑(List.length (List.map aE (Boss.seats b))):Int) = (0:Int)
  simp only[LM]at h12
  refine g 26 93 (RL 32 BT []) ?_
  conv=>whnf
  refine J QZ<|RT ?_
  rotate_left
  simp only[LM]at h12
  refine g 26 93 (RL 27 BT [BF,BF,BF,BF,BF]) ?_
  conv=>whnf
  refine J QZ<|RT ?_
  rotate_left
  simp only[LM]at h11
  refine g 26 93 (RL 22 BT (RL 10 BF [])) ?_
  conv=>whnf
  refine J QZ<|RT ?_
  rotate_left
  simp only[LM]at h10
  refine g 26 93 (RL 17 BT (RL 15 BF [])) ?_
  conv=>whnf
  refine J QZ<|RT ?_
  rotate_left
  refine g 26 93 (RL 12 BT (RL 20 BF [])) ?_
  conv=>whnf
  refine J QZ<|RT ?_
  rotate_left
  refine g 26 93 (RL 8 BT (RL 24 BF [])) ?_
  conv=>whnf
  refine J QZ<|RT ?_
  rotate_left
  refine g 26 93 (BT::BT::BT::BT::(RL 28 BF [])) ?_
  conv=>whnf
  refine J QZ<|RT ?_
  rotate_left
  simp only[LM]at h6
  refine g 26 93 (RL 32 BF []) ?_
  conv=>whnf
  refine J QZ<|RT ?_
  rotate_left
  refine g 21 26 (.call (V.i (am p.tasks)) [[]]::BF::BF::BF::.call (V.b (decide (1≤b.workers∧b.workers≤8))) [[],[],[]]::BF::BF::BF::BF::BF::.call (V.b (decide (0≤b.now∧b.now≤1000000))) [[],[],[]]::BF::BF::(RL 11 BT []))<|J (QA @av)<|Wc<|J (fun _=>(g 27 32 []<|J UA (RT ?_))) (noF rfl)
  rotate_left
  refine g 21 26 (.call (V.i (am p.tasks)) [[]]::BF::BF::BF::.call (V.b (decide (1≤b.workers∧b.workers≤8))) [[],[],[]]::BF::BF::(RL 16 BT []))<|J (QA @av)<|Wc<|J (fun _=>(g 27 32 []<|J UA (RT ?_))) (noF rfl)
  rotate_left
  refine g 21 26 (.call (V.i (am p.tasks)) [[]]::(RL 21 BT []))<|J QZ<|Wc<|J (fun _=>(g 27 32 []<|J UA (RT ?_))) (noF rfl)
  rotate_left
  all_goals first
   |exact vbf (fun q=>by have e1:=q.plan;have e2:=q.workers;have e3:=q.now;have e4:=q.code;have e5:=h310 e4;omega)
   |exact vbf (Bw hup fun q=>by have e1:=q.loose;have e2:=q.since;have e3:=q.epoch;have e4:=q.given;have e5:=q.res;have e6:=q.jobs;have e7:=q.seats;omega)
   |(rename_i h8
     simp only[List.length_map]
     by_cases h9:(b.owed.length:Int) = 0
     ·rw[decide_eq_true h9];exact vbt ⟨by omega,by omega,by omega,by omega,(fun q=>by rw[hup]at q;cases q),fun _=>⟨by omega,by omega,by omega,by omega,by omega,by omega,by omega,by omega⟩⟩
     ·rw[decide_eq_false h9];exact vbf (Bw hup fun q=>by have e8:=q.owed;omega))
   |skip
 refine mi ?_
 conv=>whnf
 refine g 0 2 []<|J QZ<|Ws ?_
 by_cases h1:am (Plan.tasks p) = (0:Int)
 by_cases h2:(1:Int)≤Boss.workers b∧Boss.workers b≤(8:Int)
 by_cases h3:(0:Int)≤Boss.now b∧Boss.now b≤(1000000:Int)
 refine g 21 26 (.call (V.i (am p.tasks)) [[]]::BF::BF::BF::.call (V.b (decide (1≤b.workers∧b.workers≤8))) [[],[],[]]::BF::BF::BF::BF::BF::.call (V.b (decide (0≤b.now∧b.now≤1000000))) [[],[],[]]::(RL 11 BF [.i ((↑(List.length (List.map ai b.log.safe)):Int) + (↑(List.length (List.map ai b.log.loose)):Int)),BF,BF]))<|J (QA @av)<|Wc<|JD (fun h4=>?_) fun h4=>?_
 simp only[LM]at h4
 refine g 27 32 []<|J UA<|RT ?_
 rotate_left
 simp only[LM]at h4
 refine Wk<|gd 27 32 [[],[],[],[.call (V.own [false] (List.map ai (b.log.safe++b.log.loose))) [[]]],[.call (gK (cx b p)) [[],[]]],[],[]] ?_
 conv=>whnf
 refine J QZ<|J KR<|Ws<|g 39 45 []<|J UC<|Wc<|JN (fun h5=>?_) fun h5=>?_
 refine g 33 38 []<|J UA<|RT ?_
 rotate_left
 refine Wk<|Ws<|g 33 38 []<|J UC<|Wc<|J (noT (nbF AS)) fun _=>Wk<|Ws ?_
 by_cases h6:Boss.epoch b = Story.epoch (cx b p)
 by_cases h7:Boss.epoch b < (1:Int)
 refine g 26 114 (BF::BF::BF::BF::(RL 10 BT []))<|J QZ<|Wc<|J (fun _=>(g 13 20 []<|J UA (RT ?_))) (noF rfl)
 rotate_left
 by_cases h8:(0:Int)≤Boss.since b∧Boss.since b≤(1:Int)
 refine g 26 114 (RL 7 BF [.call (V.b (decide (0≤b.since∧b.since≤1))) [[],[],[]],BF,BF,BF,BF,BF,.call (V.b (decide (0≤b.given∧b.given≤1000000))) [[],[],[]],BF,BF])<|J (QA @av)<|Wc<|JN (fun h9=>?_) fun h9=>?_
 refine g 13 20 []<|J UA<|RT ?_
 rotate_left
 refine Wk<|g 13 20 []<|J UD<|Ws ?_
 by_cases h10:(↑(List.length (List.map ai (Boss.results b))):Int) = (↑(List.length (List.map ay (Plan.tasks p))):Int)
 simp only[LM]at h10
 by_cases h11:(↑(List.length (List.map aI (Boss.jobs b))):Int) = (↑(List.length (List.map ay (Plan.tasks p))):Int)
 simp only[LM]at h11
 by_cases h12:(↑(List.length (List.map aE (Boss.seats b))):Int) = Boss.workers b
 simp only[LM]at h12
 refine g 114 143 (RL 18 BF [])<|J QZ<|Wc<|JD (fun h13=>?_) fun h13=>?_
 simp only[LM]at h13
 refine g 11 12 []<|J UA<|RT ?_
 rotate_left
 simp only[LM]at h13
 refine Wk<|Ws<|g 11 12 []<|J UA<|Wb ?_
 rotate_left
 simp only[LM]at h12
 refine g 114 143 (RL 13 BF [BT,BT,BT,BT,BT])<|J QZ<|Wc<|J (fun _=>(g 11 12 []<|J UA (RT ?_))) (noF rfl)
 rotate_left
 simp only[LM]at h11
 refine g 114 143 (RL 6 BF (RL 12 BT []))<|J QZ<|Wc<|J (fun _=>(g 11 12 []<|J UA (RT ?_))) (noF rfl)
 rotate_left
 simp only[LM]at h10
 refine g 114 143 (RL 18 BT [])<|J QZ<|Wc<|J (fun _=>(g 11 12 []<|J UA (RT ?_))) (noF rfl)
 rotate_left
 refine g 26 114 (RL 7 BF [.call (V.b (decide (0≤b.since∧b.since≤1))) [[],[],[]],BF,BF,BT,BT,BT,BT,BT])<|J (QA @av)<|Wc<|J (fun _=>(g 13 20 []<|J UA (RT ?_))) (noF rfl)
 rotate_left
 refine g 26 114 (RL 14 BT [])<|J QZ<|Wc<|J (fun _=>(g 13 20 []<|J UA (RT ?_))) (noF rfl)
 rotate_left
 refine g 21 26 (.call (V.i (am p.tasks)) [[]]::BF::BF::BF::.call (V.b (decide (1≤b.workers∧b.workers≤8))) [[],[],[]]::BF::BF::BF::BF::BF::.call (V.b (decide (0≤b.now∧b.now≤1000000))) [[],[],[]]::BF::BF::(RL 11 BT []))<|J (QA @av)<|Wc<|J (fun _=>(g 27 32 []<|J UA (RT ?_))) (noF rfl)
 rotate_left
 refine g 21 26 (.call (V.i (am p.tasks)) [[]]::BF::BF::BF::.call (V.b (decide (1≤b.workers∧b.workers≤8))) [[],[],[]]::BF::BF::(RL 16 BT []))<|J (QA @av)<|Wc<|J (fun _=>(g 27 32 []<|J UA (RT ?_))) (noF rfl)
 rotate_left
 refine g 21 26 (.call (V.i (am p.tasks)) [[]]::(RL 21 BT []))<|J QZ<|Wc<|J (fun _=>(g 27 32 []<|J UA (RT ?_))) (noF rfl)
 rotate_left
 all_goals try first
  |exact vbf (fun q=>by have e1:=q.plan;have e2:=q.workers;have e3:=q.now;have e4:=q.code;have e5:=h310 e4;omega)
  |exact vbf (gG hup fun q=>by have e1:=q.epoch;have e2:=q.pos;have e3:=q.rlen;have e4:=q.jlen;have e5:=q.slen;have e6:=q.since;have e7:=q.given;have e8:=q.olen;omega)
 have hk:(cx b p).code = 0:=by assumption
 have hc0:am p.tasks = 0:=by assumption
 obtain⟨_,_,hsl,_⟩:=cC (p:=p) (xs:=b.log.safe++b.log.loose) hk
 obtain⟨hep1,hep2⟩:=fr (p:=p) (xs:=b.log.safe++b.log.loose) hk
 change (cx b p).results.length = _ at hsl
 change 0≤(cx b p).epoch at hep1
 change (cx b p).epoch≤300 at hep2
 have f1:b.epoch = (cx b p).epoch:=by assumption
 have f2:1≤b.epoch:=by omega
 have f3:b.results.length = p.tasks.length:=by omega
 have f4:b.jobs.length = p.tasks.length:=by omega
 have f5:(b.seats.length:Int) = b.workers:=by omega
 have f6:1≤b.workers∧b.workers≤8:=by assumption
 have f7:0≤b.now∧b.now≤1000000:=by assumption
 have g2:0≤b.since∧b.since≤1:=by omega
 have g3:0≤b.given∧b.given≤1000000:=by omega
 have g4:b.owed.length≤2000:=by omega
 have hpl:=(bU hc0).1
 refine Wl (fun s (n:Nat)=>⟨(SK s [2,3,5,6] [(7,.i n),(12,s.s 12),(20,s.s 20)]),[(2,(CK s 2 0 12 [])),(3,[s.c 3 0]),(5,(CK s 5 0 3 []))],[]⟩) (fun(n:Nat)=>n≤b.results.length∧b.results.take n = (cx b p).results.take n) (fun(n:Nat)=>b.results.length - n) (0) [some 2,some 3,some 5] [] FZ (by simp) ?_
 rintro n ⟨hn,hc⟩
 conv=>whnf
 refine Ws<|g 144 146 []<|J UC<|Wc<|JD (fun h14=>?_) fun h14=>?_
 simp only[LM]at h14
 refine Wk<|Ws<|Wb ?_
 obtain⟨y1,hy1⟩:=ae (xs:=Boss.results b) (n:=n) OM
 obtain⟨y2,hy2⟩:=ae (xs:=Story.results (cx b p)) (n:=n) OM
 refine gd 146 159 [[],[],[],[.x (ai y1)],[],[],[],[],[.n (n)],[.x (ai y2)],[]] ?_
 conv=>whnf
 refine J QZ<|J KR<|Wc<|JN (fun h15=>?_) fun h15=>?_
 refine g 159 160 []<|J UA<|RT ?_
 rotate_left
 refine Wk<|rg [.i ((n:Int) +1)]<|J QZ ?_
 rotate_left
 simp only[LM]at h14
 refine We<|Ws<|g 5 6 []<|J UA<|Wb ?_
 rotate_left
 all_goals try
  exact vbf (gG hup fun q=>by have e1:=q.res;rw[e1]at hy1;rw[hy1]at hy2;cases hy2;contradiction)
 ·refine⟨n+1,[some 2,some 3,some 5],[],FZ,?_,?_⟩
  rotate_left
  (dsimp only;omega)
  dsimp only
  exact⟨by omega,kC hc hy1 (by rw[hy2];simp_all)⟩
 have g1:b.results = (cx b p).results:=by rw[aH OM,aH OM]at hc;exact hc
 refine Wl (fun s (n:Nat)=>⟨(SK s [2,3,6] [(8,.i n),(12,s.s 12),(20,s.s 20)]),[(2,(CK s 2 0 12 [])),(3,[s.c 3 0])],[]⟩) (fun(n:Nat)=>n≤b.seats.length∧∀ s∈b.seats.take n,0≤s.epoch∧s.epoch≤300) (fun(n:Nat)=>b.seats.length - n) (0) [some 2,some 3] [] FZ (by simp) ?_
 rintro n2 ⟨hn2,hc2⟩
 by_cases hs2:n2 < b.seats.length
 ·obtain⟨s,hs1⟩:=ae hs2
  by_cases hA:0≤s.epoch∧s.epoch≤300
  ·conv=>whnf
   refine Ws<|g 160 164 []<|J UE<|Wc<|JD (fun h15=>?_) fun h15=>?_
   simp only[LM]at h15
   refine Wk<|Ws<|Wb<|g 164 174 [.x (aE s),.call (V.b (decide (0≤s.epoch∧s.epoch≤300))) [[],[],[]]]<|J (QA @av)<|Wc<|J (noT nO) fun _=>Wk<|rg [.i ((n2:Int) +1)]<|J QZ ?_
   rotate_left
   simp only[LM]at h15
   omega
   refine⟨n2+1,[some 2,some 3],[],FZ,?_,?_⟩
   rotate_left
   (dsimp only;omega)
   dsimp only
   exact⟨by omega,en hc2 hs1 hA⟩
  ·conv=>whnf
   refine Ws<|g 160 164 []<|J UE<|Wc<|JD (fun h15=>?_) fun h15=>?_
   simp only[LM]at h15
   refine Wk<|Ws<|Wb<|g 164 174 [.x (aE s),.call (V.b (decide (0≤s.epoch∧s.epoch≤300))) [[],[],[]]]<|J (QA @av)<|Wc<|J (fun _=>(g 174 175 []<|J UA (RT ?_))) (noF (dP OM))
   rotate_left
   simp only[LM]at h15
   omega
   exact vbf (gG hup (Kd hs1 hA))
 have hseats:∀ s∈b.seats,0≤s.epoch∧s.epoch≤300:=by rw[aH OM]at hc2;exact hc2
 conv=>whnf
 refine Ws<|g 160 164 []<|J UE<|Wc<|J (fun h15=>?_) fun h15=>?_
 replace h15:=dt h15
 simp only[LM]at h15
 omega
 replace h15:=df h15
 simp only[LM]at h15
 refine We<|Ws<|g 8 9 []<|J UA<|Wb<|Wl (fun s (n:Nat)=>⟨(SK s [2,3,6] [(9,.i n),(12,s.s 12),(20,s.s 20)]),[(2,(CK s 2 0 12 [])),(3,[s.c 3 0])],[]⟩) (fun(n:Nat)=>n≤b.owed.length∧∀ o∈b.owed.take n,OwedOk b p.tasks o) (fun(n:Nat)=>b.owed.length - n) (0) [some 2,some 3] [] FZ (by simp) ?_
 rintro n3 ⟨hn3,hc3⟩
 by_cases ho2:n3 < b.owed.length
 ·obtain⟨o,ho1⟩:=ae ho2
  by_cases hA:1≤o.worker∧o.worker≤b.workers
  ·by_cases hB:1≤o.lease∧o.lease≤300000000
   ·by_cases hC:0≤o.task∧o.task≤(p.tasks.length:Int) - 1
    ·obtain⟨y,hy0⟩:=ae (xs:=b.results) (n:=o.task.toNat) OM
     by_cases hD:y = emp
     ·conv=>whnf
      refine Ws<|g 175 179 []<|J UE<|Wc<|J (fun _=>(Wk (Ws (Wb (g 179 187 [.x (aJ o)]<|J QZ (g 187 215 (.call (V.b (decide (1≤o.worker∧o.worker≤b.workers))) [[],[],[]]::BF::BF::BF::.call (V.b (decide (1≤o.lease∧o.lease≤300000000))) [[]]::(RL 6 BF (.i ((↑(List.length (List.map ay p.tasks)):Int) - 1)::BF::.call (V.b (decide (0≤o.task∧o.task≤(↑(List.length (List.map ay p.tasks)):Int) - 1))) [[],[],[]]::(RL 7 BF [.x (ai y),BF,BF,BF]))))<|J (QB @av @aC) (Wc<|J (fun _=>(g 10 11 []<|J UA (RT ?_))) (noF tO)))))))) (noF SI)
      exact vbf (gG hup (lV ho1 (fun q=>q.res (by rw[kP hy0];exact hD))))
     ·conv=>whnf
      refine Ws<|g 175 179 []<|J UE<|Wc<|J (fun _=>(Wk (Ws (Wb (g 179 187 [.x (aJ o)]<|J QZ (g 187 215 (.call (V.b (decide (1≤o.worker∧o.worker≤b.workers))) [[],[],[]]::BF::BF::BF::.call (V.b (decide (1≤o.lease∧o.lease≤300000000))) [[]]::(RL 6 BF (.i ((↑(List.length (List.map ay p.tasks)):Int) - 1)::BF::.call (V.b (decide (0≤o.task∧o.task≤(↑(List.length (List.map ay p.tasks)):Int) - 1))) [[],[],[]]::(RL 7 BF [.x (ai y),BF,BF,BF]))))<|J (QB @av @aC) (Wc<|J (noT dO) fun _=>(Wk (rg [.i ((n3:Int) +1)]<|J QZ ?_))))))))) (noF SI)
      refine⟨n3+1,[some 2,some 3],[],FZ,?_,?_⟩
      rotate_left
      (dsimp only;omega)
      dsimp only
      exact⟨by omega,en hc3 ho1 ⟨hA,hB,hC,by rw[kP hy0];exact hD⟩⟩
    ·conv=>whnf
     refine Ws<|g 175 179 []<|J UE<|Wc<|J (fun _=>(Wk (Ws (Wb (g 179 187 [.x (aJ o)]<|J QZ (g 187 215 (.call (V.b (decide (1≤o.worker∧o.worker≤b.workers))) [[],[],[]]::BF::BF::BF::.call (V.b (decide (1≤o.lease∧o.lease≤300000000))) [[]]::(RL 6 BF (.i ((↑(List.length (List.map ay p.tasks)):Int) - 1)::BF::.call (V.b (decide (0≤o.task∧o.task≤(↑(List.length (List.map ay p.tasks)):Int) - 1))) [[],[],[]]::BF::BF::(RL 8 BT []))))<|J (QB @av @aC) (Wc<|J (fun _=>(g 10 11 []<|J UA (RT ?_))) (noF rfl)))))))) (noF SI)
     exact vbf (gG hup (lV ho1 (fun q=>hC q.task)))
   ·conv=>whnf
    refine Ws<|g 175 179 []<|J UE<|Wc<|J (fun _=>(Wk (Ws (Wb (g 179 187 [.x (aJ o)]<|J QZ (g 187 215 (.call (V.b (decide (1≤o.worker∧o.worker≤b.workers))) [[],[],[]]::BF::BF::BF::.call (V.b (decide (1≤o.lease∧o.lease≤300000000))) [[]]::BF::BF::(RL 15 BT []))<|J (QB @av @aC) (Wc<|J (fun _=>(g 10 11 []<|J UA (RT ?_))) (noF rfl)))))))) (noF SI)
    exact vbf (gG hup (lV ho1 (fun q=>hB q.lease)))
  ·conv=>whnf
   refine Ws<|g 175 179 []<|J UE<|Wc<|J (fun _=>(Wk (Ws (Wb (g 179 187 [.x (aJ o)]<|J QZ (g 187 215 (.call (V.b (decide (1≤o.worker∧o.worker≤b.workers))) [[],[],[]]::(RL 20 BT []))<|J (QA @av) (Wc<|J (fun _=>(g 10 11 []<|J UA (RT ?_))) (noF rfl)))))))) (noF SI)
   exact vbf (gG hup (lV ho1 (fun q=>hA q.worker)))
 have howed:∀ o∈b.owed,OwedOk b p.tasks o:=by rw[aH OM]at hc3;exact hc3
 have cj:=yV b p hc0 OM OM f3 f4 f7 g3
 by_cases hjobs:iJ b p.tasks b.jobs.length
 ·rw[decide_eq_true hjobs]at cj
  conv=>whnf
  refine Ws<|g 175 179 []<|J UE<|Wc<|J (noT SI) fun _=>We<|g 6 219 [.call VT [[],[]]]<|J QZ<|RT ?_
  exact vbt ⟨hc0,f6,f7,hk,fun _=>⟨f1,f2,f3,f4,f5,g1,g2,g3,g4,hjobs,hseats,howed⟩,fun e=>by rw[hup]at e;cases e⟩
 ·rw[decide_eq_false hjobs]at cj
  conv=>whnf
  refine Ws<|g 175 179 []<|J UE<|Wc<|J (noT SI) fun _=>We<|g 6 219 [.call VF [[],[]]]<|J QZ<|RT ?_
  exact vbf (gG hup fun q=>hjobs q.jobs)
end Go.K
end
section
open Go Go.Tm Go.Proofs
namespace Go.K
structure Acted where
 worker:Worker
 out:List Message
 deriving DecidableEq
abbrev qT(x:Acted):V:=.agg [.t (.i x.worker.number),.t (.i x.worker.epoch),.t (.b x.worker.up),.t (.i x.worker.state),.t (.i x.worker.lease),.t (.i x.worker.task),.t (.i x.worker.cost),.t (.i x.worker.left),.own [false] (x.worker.inputs.map ai),.t (.s x.worker.text),.t (.i x.worker.since),.own cS (x.out.map aL)]
abbrev Bx:Acted:=⟨⟨0,0,false,0,0,0,0,0,[],emp,0⟩,[]⟩
def gc(w:Worker)(k:Int):Message:=⟨k,w.number,0,w.epoch,if k = 5 then 0 else w.lease,if k = 3 then w.task else 0,if k = 3 then w.text else emp,[]⟩
theorem bX(w:Worker)(k:Int)(hk:k = 2∨k = 3∨k = 5):F re [.val (dI w),.val (.i k)] (bx (gc w k)) [[],[]]:=by
 rcases hk with rfl|rfl|rfl
 ·refine gx ?_
  conv=>whnf
  refine g 0 0 []<|J QZ<|g 6 12 []<|J QZ<|Ws<|g 0 1 []<|J UB<|Wc<|J (fun _=>(rg []<|J UW (Ws (g 12 18 []<|J UB (Wc<|J (noT rfl) fun _=>(Wk (g 5 26 []<|J QZ (RT ?_)))))))) (noF rfl)
  rfl
 ·refine gx ?_
  conv=>whnf
  refine g 0 0 []<|J QZ<|g 6 12 []<|J QZ<|Ws<|g 0 1 []<|J UB<|Wc<|J (fun _=>(rg []<|J UW (Ws (g 12 18 []<|J UB (Wc<|J (fun _=>(rgd [[],[],[],[],[],[],[],[]] ?_)) (noF rfl)))))) (noF rfl)
  conv=>whnf
  refine⟨⟨I,I,I,I,I,UA,I,UA,I⟩,by kernel_rfl,?_⟩
  refine g 5 26 []<|J QZ<|RT ?_
  rfl
 ·refine gx ?_
  conv=>whnf
  refine g 0 0 []<|J QZ<|g 6 12 []<|J QZ<|Ws<|g 0 1 []<|J UB<|Wc<|J (noT rfl) fun _=>Wk<|Ws<|g 12 18 []<|J UB<|Wc<|J (noT rfl) fun _=>Wk<|g 5 26 []<|J QZ<|RT ?_
  rfl
theorem dL(w:Worker)(k:Int)(hk:k = 2∨k = 3∨k = 5):F C6 [.val (dI w),.val (.i k)] (bx (gc w k)) [[],[]]:=by
 rcases hk with rfl|rfl|rfl
 ·refine lA ?_
  conv=>whnf
  refine g 0 0 []<|J QZ<|g 6 12 []<|J QZ<|Ws<|g 0 1 []<|J UB<|Wc<|J (fun _=>(rg []<|J UW (Ws (g 12 18 []<|J UB (Wc<|J (noT rfl) fun _=>(Wk (g 5 26 []<|J QZ (RT ?_)))))))) (noF rfl)
  rfl
 ·refine lA ?_
  conv=>whnf
  refine g 0 0 []<|J QZ<|g 6 12 []<|J QZ<|Ws<|g 0 1 []<|J UB<|Wc<|J (fun _=>(rg []<|J UW (Ws (g 12 18 []<|J UB (Wc<|J (fun _=>(g 18 22 []<|J UW (rg []<|J UW (g 5 26 []<|J QZ ?_)))) (noF rfl)))))) (noF rfl)
  refine RT ?_
  rfl
 ·refine lA ?_
  conv=>whnf
  refine g 0 0 []<|J QZ<|g 6 12 []<|J QZ<|Ws<|g 0 1 []<|J UB<|Wc<|J (noT rfl) fun _=>Wk<|Ws<|g 12 18 []<|J UB<|Wc<|J (noT rfl) fun _=>Wk<|g 5 26 []<|J QZ<|RT ?_
  rfl
def CZ(ts:List Task)(k:Int):ByteArray:=((ts[k.toNat]?).map Task.name).getD emp
def aW(w:Worker):Int:=if w.since < 1000000 then w.since+1 else w.since
def gZ(w:Worker)(ts:List Task):Worker:=⟨w.number,w.epoch,w.up,2,w.lease,w.task,0,w.left - 1,[],bC (CZ ts w.task) w.inputs,0⟩
def cT(w:Worker)(s:Int):Worker:=⟨w.number,w.epoch,w.up,w.state,w.lease,w.task,w.cost,w.left,w.inputs,w.text,s⟩
def og(w:Worker):Worker:=⟨w.number,w.epoch,w.up,w.state,w.lease,w.task,w.cost,w.left - 1,w.inputs,w.text,w.since⟩
def E1(w:Worker)(k:Int):Acted:=⟨cT w 0,[gc (cT w 0) k]⟩
def gR(w:Worker)(ts:List Task):Acted :=
 if w.up = false then⟨w,[]⟩else
 if w.state = 1 then
  if w.left - 1 = 0 then⟨gZ w ts,[gc (gZ w ts) 3]⟩
  else if 4≤aW w then E1 (og w) 2 else⟨cT (og w) (aW w),[]⟩
 else if w.state = 2 then(if 4≤aW w then E1 w 3 else⟨cT w (aW w),[]⟩)
 else if 3≤aW w then E1 w 5 else⟨cT w (aW w),[]⟩
theorem KB{w:Worker}(h:au w):(1≤w.number∧w.number≤8)∧(1≤w.epoch∧w.epoch≤300)∧(0≤w.since∧w.since≤1000000):=⟨h.1,h.2.1,h.2.2.1⟩
theorem Bv{w:Worker}(h:au w)(h1:w.state = 1):eO w:=by
 rcases h.2.2.2.2 with q|q|q
 ·have:=q.1;omega
 ·exact q
 ·have:=q.1;omega
theorem Cn{w:Worker}(h:au w):w.state = 0∨w.state = 1∨w.state = 2:=by
 rcases h.2.2.2.2 with q|q|q
 ·exact .inl q.1
 ·exact .inr (.inl q.1)
 ·exact .inr (.inr q.1)
theorem wD{w:Worker}{ts:List Task}(h:w.up = false):gR w ts = ⟨w,[]⟩:=if_pos h
theorem mH{w:Worker}{ts:List Task}(h:¬w.up = false)(h1:w.state = 1)(h2:w.left - 1 = 0):gR w ts = ⟨gZ w ts,[gc (gZ w ts) 3]⟩:=by rw[gR,if_neg h,if_pos h1,if_pos h2]
theorem mI{w:Worker}{ts:List Task}(h:¬w.up = false)(h1:w.state = 1)(h2:¬w.left - 1 = 0)(h4:4≤aW w):gR w ts = E1 (og w) 2:=by rw[gR,if_neg h,if_pos h1,if_neg h2,if_pos h4]
theorem wE{w:Worker}{ts:List Task}(h:¬w.up = false)(h1:w.state = 1)(h2:¬w.left - 1 = 0)(h4:¬4≤aW w):gR w ts = ⟨cT (og w) (aW w),[]⟩:=by rw[gR,if_neg h,if_pos h1,if_neg h2,if_neg h4]
theorem mF{w:Worker}{ts:List Task}(h:¬w.up = false)(h1:w.state = 2)(h4:4≤aW w):gR w ts = E1 w 3:=by rw[gR,if_neg h,if_neg OM,if_pos h1,if_pos h4]
theorem rL{w:Worker}{ts:List Task}(h:¬w.up = false)(h1:w.state = 2)(h4:¬4≤aW w):gR w ts = ⟨cT w (aW w),[]⟩:=by rw[gR,if_neg h,if_neg OM,if_pos h1,if_neg h4]
theorem mG{w:Worker}{ts:List Task}(h:¬w.up = false)(h1:w.state = 0)(h4:3≤aW w):gR w ts = E1 w 5:=by rw[gR,if_neg h,if_neg OM,if_neg OM,if_pos h4]
theorem rM{w:Worker}{ts:List Task}(h:¬w.up = false)(h1:w.state = 0)(h4:¬3≤aW w):gR w ts = ⟨cT w (aW w),[]⟩:=by rw[gR,if_neg h,if_neg OM,if_neg OM,if_neg h4]
theorem NY{ts:List Task}{k:Int}{t:Task}(h:ts[k.toNat]? = some t):CZ ts k = t.name:=by unfold CZ;rw[h];rfl
theorem KG{ts:List Task}{k:Int}(h:ts[k.toNat]? = none):CZ ts k = emp:=by unfold CZ;rw[h];rfl
theorem Gc{w:Worker}(h:eO w):w.inputs.length≤8∧(∀ s∈w.inputs,s.size≤1048576)∧bS w.inputs≤64:=by
 obtain⟨h1,h2⟩:=h.2.2.2.2.1
 have:=Ce (xs:=w.inputs) fun s hs=>Nat.le_of_eq (h1 s hs)
 exact⟨h2,fun s hs=>by have:=h1 s hs;omega,by omega⟩
noncomputable def gb(w:Worker)(p:Plan):Acted:=if au w∧am p.tasks = 0 then gR w p.tasks else Bx
theorem JZ{w:Worker}{p:Plan}(h:¬(au w∧am p.tasks = 0)):gb w p = Bx:=if_neg h
theorem eL{w:Worker}{p:Plan}(h:au w)(h2:am p.tasks = 0):gb w p = gR w p.tasks:=if_pos ⟨h,h2⟩
theorem rD(w:Worker)(p:Plan)(h:au w)(hc:am p.tasks = 0):F rd [.val (aA w),.val (cV p)] (qT (gR w p.tasks)) [[],[]]:=by
 obtain⟨⟨f1,f2⟩,⟨f3,f4⟩,f5,f6⟩:=KB h
 by_cases hup:w.up = false
 ·refine ba ?_
  conv=>whnf
  refine g 0 0 []<|J QZ<|Ws<|g 7 9 []<|J UC<|Wc<|J (fun _=>(g 9 12 []<|J QZ (RT ?_))) (noF (nbT AS))
  rw[wD hup];rfl
 ·rcases Cn h with h1|h1|h1
  ·skip
   by_cases hs:w.since < 1000000
   ·have e:aW w = w.since+1:=if_pos hs
    by_cases h4:3≤aW w
    ·have ct:=bX (cT w 0) 5 OM
     have h5:=h4
     rw[e]at h5
     refine ba ?_
     conv=>whnf
     refine g 0 0 []<|J QZ<|Ws<|g 7 9 []<|J UC<|Wc<|J (noT SI) fun _=>Wk<|Ws<|g 9 14 []<|J UC<|Wc<|J (fun _=>(rg [.i (w.since+1)]<|J QZ (g 14 19 []<|J UA (Ws (g 19 20 []<|J UB ?_))))) (noF tO)
     refine Wb<|g 22 23 []<|J UB<|Wc<|J (noT dO) fun _=>g 3 4 []<|J UB<|Wc<|J (noT dO) fun _=>g 20 56 []<|J UB<|Wc<|J (fun _=>(g 59 63 []<|J UC (Wc<|J (fun _=>(rg []<|J UA (Ws (g 63 65 []<|J UB ?_)))) (noF tO)))) (noF tO)
     refine Wc<|J (noT rfl) fun _=>Wk<|g 65 69 []<|J UV<|gd 5 75 [[],[],[],[.call (bx (gc (cT w 0) 5)) [[],[]]],[],[],[]] ?_
     conv=>whnf
     refine J QZ<|J KR<|RT ?_
     rw[mG hup h1 h4];rfl
    ·have h5:=h4
     rw[e]at h5
     refine ba ?_
     conv=>whnf
     refine g 0 0 []<|J QZ<|Ws<|g 7 9 []<|J UC<|Wc<|J (noT SI) fun _=>Wk<|Ws<|g 9 14 []<|J UC<|Wc<|J (fun _=>(rg [.i (w.since+1)]<|J QZ (g 14 19 []<|J UA (Ws (g 19 20 []<|J UB ?_))))) (noF tO)
     refine Wb<|g 22 23 []<|J UB<|Wc<|J (noT dO) fun _=>g 3 4 []<|J UB<|Wc<|J (noT dO) fun _=>g 20 56 []<|J UB<|Wc<|J (fun _=>(g 59 63 []<|J UC (Wc<|J (noT dO) fun _=>(Wk (Ws (g 63 65 []<|J UB ?_)))))) (noF tO)
     refine Wc<|J (fun _=>(g 65 68 []<|J QZ (RT ?_))) (noF rfl)
     rw[rM hup h1 h4,e];rfl
   ·have e:aW w = w.since:=if_neg hs
    by_cases h4:3≤aW w
    ·have ct:=bX (cT w 0) 5 OM
     have h5:=h4
     rw[e]at h5
     refine ba ?_
     conv=>whnf
     refine g 0 0 []<|J QZ<|Ws<|g 7 9 []<|J UC<|Wc<|J (noT SI) fun _=>Wk<|Ws<|g 9 14 []<|J UC<|Wc<|J (noT dO) fun _=>Wk<|g 14 15 []<|J UA<|Ws<|g 19 20 []<|J UB ?_
     refine Wb<|g 22 23 []<|J UB<|Wc<|J (noT dO) fun _=>g 3 4 []<|J UB<|Wc<|J (noT dO) fun _=>g 20 56 []<|J UB<|Wc<|J (fun _=>(g 59 63 []<|J UC (Wc<|J (fun _=>(rg []<|J UA (Ws (g 63 65 []<|J UB ?_)))) (noF tO)))) (noF tO)
     refine Wc<|J (noT rfl) fun _=>Wk<|g 65 69 []<|J UV<|gd 5 75 [[],[],[],[.call (bx (gc (cT w 0) 5)) [[],[]]],[],[],[]] ?_
     conv=>whnf
     refine J QZ<|J KR<|RT ?_
     rw[mG hup h1 h4];rfl
    ·exfalso;omega
  ·have hb:=Bv h h1
   obtain⟨hl8,hes,htt⟩:=Gc hb
   obtain⟨_,⟨_,b3,b4⟩,⟨b5,b6⟩,⟨b7,b8⟩,_⟩:=hb
   by_cases hl:w.left - 1 = 0
   ·by_cases ht:w.task < p.tasks.length
    ·obtain⟨t,ht2⟩:=ae (xs:=p.tasks) (n:=w.task.toNat) OM
     obtain⟨⟨g1,g2⟩,_⟩:=cq hc ht2
     have cv:=nv t.name w.inputs OM OM hes
     have ct:=bX ⟨w.number,w.epoch,w.up,2,w.lease,w.task,0,w.left - 1,[],bC t.name w.inputs,0⟩ 3 OM
     refine ba ?_
     conv=>whnf
     refine g 0 0 []<|J QZ<|Ws<|g 7 9 []<|J UC<|Wc<|J (noT SI) fun _=>Wk<|Ws<|g 9 14 []<|J UC<|Wc<|JD (fun h2=>?_) fun h2=>?_
     refine rg [.i (w.since+1)]<|J QZ<|g 14 19 []<|J UA<|Ws<|g 19 20 []<|J UB<|Wb<|g 22 23 []<|J UB<|Wc<|J (fun _=>(g 20 27 [.i (w.left - 1)]<|J QZ (g 27 29 []<|J UC (Wc<|J (fun _=>(g 29 30 []<|J UA (Ws ?_))) (noF tO))))) (noF tO)
     refine g 30 35 []<|J UF<|Wc<|J (fun _=>(rg [.x (ay t)]<|J QZ (g 6 51 [.call (V.s (bC t.name w.inputs)) [[],[]]]<|J QZ (rg []<|J UA (Ws (g 3 4 []<|J UB (Wc<|J (noT rfl) fun _=>(Wk (g 64 69 []<|J UV (gd 5 75 [[],[],[],[.call (bx (gc {number:=w.number,epoch:=w.epoch,up:=w.up,state:=2,lease:=w.lease,task:=w.task,cost:=0,left:=w.left - 1,inputs:=[],text:=bC t.name w.inputs,since:=0:Worker} 3)) [[],[]]],[],[],[]] ?_)))))))))) (noF SI)
     conv=>whnf
     refine⟨Zal,by kernel_rfl,?_⟩
     refine RT ?_
     rotate_left
     refine Wk<|g 14 15 []<|J UA<|Ws<|g 19 20 []<|J UB<|Wb<|g 22 23 []<|J UB<|Wc<|J (fun _=>(g 20 27 [.i (w.left - 1)]<|J QZ (g 27 29 []<|J UC (Wc<|J (fun _=>(g 29 30 []<|J UA (Ws ?_))) (noF tO))))) (noF tO)
     refine g 30 35 []<|J UF<|Wc<|J (fun _=>(rg [.x (ay t)]<|J QZ (g 6 51 [.call (V.s (bC t.name w.inputs)) [[],[]]]<|J QZ (rg []<|J UA (Ws (g 3 4 []<|J UB (Wc<|J (noT rfl) fun _=>(Wk (g 64 69 []<|J UV (gd 5 75 [[],[],[],[.call (bx (gc {number:=w.number,epoch:=w.epoch,up:=w.up,state:=2,lease:=w.lease,task:=w.task,cost:=0,left:=w.left - 1,inputs:=[],text:=bC t.name w.inputs,since:=0:Worker} 3)) [[],[]]],[],[],[]] ?_)))))))))) (noF SI)
     conv=>whnf
     refine⟨Zal,by kernel_rfl,?_⟩
     refine RT ?_
     rotate_left
     all_goals (rw[mH hup h1 hl,gZ,NY ht2];rfl)
    ·have ht2:p.tasks[w.task.toNat]? = none:=List.getElem?_eq_none OM
     have cv:=nv emp w.inputs (by decide) OM hes
     have ct:=bX ⟨w.number,w.epoch,w.up,2,w.lease,w.task,0,w.left - 1,[],bC emp w.inputs,0⟩ 3 OM
     refine ba ?_
     conv=>whnf
     refine g 0 0 []<|J QZ<|Ws<|g 7 9 []<|J UC<|Wc<|J (noT SI) fun _=>Wk<|Ws<|g 9 14 []<|J UC<|Wc<|JD (fun h2=>?_) fun h2=>?_
     refine rg [.i (w.since+1)]<|J QZ<|g 14 19 []<|J UA<|Ws<|g 19 20 []<|J UB<|Wb<|g 22 23 []<|J UB<|Wc<|J (fun _=>(g 20 27 [.i (w.left - 1)]<|J QZ (g 27 29 []<|J UC (Wc<|J (fun _=>(g 29 30 []<|J UA (Ws ?_))) (noF tO))))) (noF tO)
     refine g 30 35 []<|J UF<|Wc<|J (noT SI) fun _=>Wk<|g 6 51 [.call (V.s (bC emp w.inputs)) [[],[]]]<|J QZ<|rg []<|J UA<|Ws<|g 3 4 []<|J UB<|Wc<|J (noT rfl) fun _=>Wk<|g 64 69 []<|J UV<|gd 5 75 [[],[],[],[.call (bx (gc {number:=w.number,epoch:=w.epoch,up:=w.up,state:=2,lease:=w.lease,task:=w.task,cost:=0,left:=w.left - 1,inputs:=[],text:=bC emp w.inputs,since:=0:Worker} 3)) [[],[]]],[],[],[]] ?_
     conv=>whnf
     refine J QZ<|J KR<|RT ?_
     rotate_left
     refine Wk<|g 14 15 []<|J UA<|Ws<|g 19 20 []<|J UB<|Wb<|g 22 23 []<|J UB<|Wc<|J (fun _=>(g 20 27 [.i (w.left - 1)]<|J QZ (g 27 29 []<|J UC (Wc<|J (fun _=>(g 29 30 []<|J UA (Ws ?_))) (noF tO))))) (noF tO)
     refine g 30 35 []<|J UF<|Wc<|J (noT SI) fun _=>Wk<|g 6 51 [.call (V.s (bC emp w.inputs)) [[],[]]]<|J QZ<|rg []<|J UA<|Ws<|g 3 4 []<|J UB<|Wc<|J (noT rfl) fun _=>Wk<|g 64 69 []<|J UV<|gd 5 75 [[],[],[],[.call (bx (gc {number:=w.number,epoch:=w.epoch,up:=w.up,state:=2,lease:=w.lease,task:=w.task,cost:=0,left:=w.left - 1,inputs:=[],text:=bC emp w.inputs,since:=0:Worker} 3)) [[],[]]],[],[],[]] ?_
     conv=>whnf
     refine J QZ<|J KR<|RT ?_
     rotate_left
     all_goals (rw[mH hup h1 hl,gZ,KG ht2];rfl)
   ·skip
    by_cases hs:w.since < 1000000
    ·have e:aW w = w.since+1:=if_pos hs
     by_cases h4:4≤aW w
     ·have ct:=bX (cT (og w) 0) 2 OM
      have h5:=h4
      rw[e]at h5
      refine ba ?_
      conv=>whnf
      refine g 0 0 []<|J QZ<|Ws<|g 7 9 []<|J UC<|Wc<|J (noT SI) fun _=>Wk<|Ws<|g 9 14 []<|J UC<|Wc<|J (fun _=>(rg [.i (w.since+1)]<|J QZ (g 14 19 []<|J UA (Ws (g 19 20 []<|J UB ?_))))) (noF tO)
      refine Wb<|g 22 23 []<|J UB<|Wc<|J (fun _=>(g 20 27 [.i (w.left - 1)]<|J QZ (g 27 29 []<|J UC (Wc<|J (noT dO) fun _=>(g 29 53 []<|J UC (Wc<|J (fun _=>(rg []<|J UA (Ws (g 53 65 []<|J UB (Wc<|J (noT rfl) fun _=>?_))))) (noF tO))))))) (noF tO)
      refine Wk<|g 65 69 []<|J UV<|gd 5 75 [[],[],[],[.call (bx (gc (cT (og w) 0) 2)) [[],[]]],[],[],[]] ?_
      conv=>whnf
      refine J QZ<|J KR<|RT ?_
      rw[mI hup h1 hl h4];rfl
     ·have h5:=h4
      rw[e]at h5
      refine ba ?_
      conv=>whnf
      refine g 0 0 []<|J QZ<|Ws<|g 7 9 []<|J UC<|Wc<|J (noT SI) fun _=>Wk<|Ws<|g 9 14 []<|J UC<|Wc<|J (fun _=>(rg [.i (w.since+1)]<|J QZ (g 14 19 []<|J UA (Ws (g 19 20 []<|J UB ?_))))) (noF tO)
      refine Wb<|g 22 23 []<|J UB<|Wc<|J (fun _=>(g 20 27 [.i (w.left - 1)]<|J QZ (g 27 29 []<|J UC (Wc<|J (noT dO) fun _=>(g 29 53 []<|J UC (Wc<|J (noT dO) fun _=>(Wk (Ws (g 53 65 []<|J UB (Wc<|J (fun _=>?_) (noF rfl))))))))))) (noF tO)
      refine g 65 68 []<|J QZ<|RT ?_
      rw[wE hup h1 hl h4,e];rfl
    ·have e:aW w = w.since:=if_neg hs
     by_cases h4:4≤aW w
     ·have ct:=bX (cT (og w) 0) 2 OM
      have h5:=h4
      rw[e]at h5
      refine ba ?_
      conv=>whnf
      refine g 0 0 []<|J QZ<|Ws<|g 7 9 []<|J UC<|Wc<|J (noT SI) fun _=>Wk<|Ws<|g 9 14 []<|J UC<|Wc<|J (noT dO) fun _=>Wk<|g 14 15 []<|J UA<|Ws<|g 19 20 []<|J UB ?_
      refine Wb<|g 22 23 []<|J UB<|Wc<|J (fun _=>(g 20 27 [.i (w.left - 1)]<|J QZ (g 27 29 []<|J UC (Wc<|J (noT dO) fun _=>(g 29 53 []<|J UC (Wc<|J (fun _=>(rg []<|J UA (Ws (g 53 65 []<|J UB (Wc<|J (noT rfl) fun _=>?_))))) (noF tO))))))) (noF tO)
      refine Wk<|g 65 69 []<|J UV<|gd 5 75 [[],[],[],[.call (bx (gc (cT (og w) 0) 2)) [[],[]]],[],[],[]] ?_
      conv=>whnf
      refine J QZ<|J KR<|RT ?_
      rw[mI hup h1 hl h4];rfl
     ·exfalso;omega
  ·skip
   by_cases hs:w.since < 1000000
   ·have e:aW w = w.since+1:=if_pos hs
    by_cases h4:4≤aW w
    ·have ct:=bX (cT w 0) 3 OM
     have h5:=h4
     rw[e]at h5
     refine ba ?_
     conv=>whnf
     refine g 0 0 []<|J QZ<|Ws<|g 7 9 []<|J UC<|Wc<|J (noT SI) fun _=>Wk<|Ws<|g 9 14 []<|J UC<|Wc<|J (fun _=>(rg [.i (w.since+1)]<|J QZ (g 14 19 []<|J UA (Ws (g 19 20 []<|J UB ?_))))) (noF tO)
     refine Wb<|g 22 23 []<|J UB<|Wc<|J (noT dO) fun _=>g 3 4 []<|J UB<|Wc<|J (fun _=>(g 20 58 []<|J UC (Wc<|J (fun _=>(rg []<|J UA (Ws (g 58 65 []<|J UB (Wc<|J (noT rfl) fun _=>(Wk ?_)))))) (noF tO)))) (noF tO)
     refine g 65 69 []<|J UV<|gd 5 75 [[],[],[],[.call (bx (gc (cT w 0) 3)) [[],[]]],[],[],[]] ?_
     conv=>whnf
     refine J QZ<|J KR<|RT ?_
     rw[mF hup h1 h4];rfl
    ·have h5:=h4
     rw[e]at h5
     refine ba ?_
     conv=>whnf
     refine g 0 0 []<|J QZ<|Ws<|g 7 9 []<|J UC<|Wc<|J (noT SI) fun _=>Wk<|Ws<|g 9 14 []<|J UC<|Wc<|J (fun _=>(rg [.i (w.since+1)]<|J QZ (g 14 19 []<|J UA (Ws (g 19 20 []<|J UB ?_))))) (noF tO)
     refine Wb<|g 22 23 []<|J UB<|Wc<|J (noT dO) fun _=>g 3 4 []<|J UB<|Wc<|J (fun _=>(g 20 58 []<|J UC (Wc<|J (noT dO) fun _=>(Wk (Ws (g 58 65 []<|J UB (Wc<|J (fun _=>(g 65 68 []<|J QZ ?_)) (noF rfl)))))))) (noF tO)
     refine RT ?_
     rw[rL hup h1 h4,e];rfl
   ·have e:aW w = w.since:=if_neg hs
    by_cases h4:4≤aW w
    ·have ct:=bX (cT w 0) 3 OM
     have h5:=h4
     rw[e]at h5
     refine ba ?_
     conv=>whnf
     refine g 0 0 []<|J QZ<|Ws<|g 7 9 []<|J UC<|Wc<|J (noT SI) fun _=>Wk<|Ws<|g 9 14 []<|J UC<|Wc<|J (noT dO) fun _=>Wk<|g 14 15 []<|J UA<|Ws<|g 19 20 []<|J UB ?_
     refine Wb<|g 22 23 []<|J UB<|Wc<|J (noT dO) fun _=>g 3 4 []<|J UB<|Wc<|J (fun _=>(g 20 58 []<|J UC (Wc<|J (fun _=>(rg []<|J UA (Ws (g 58 65 []<|J UB (Wc<|J (noT rfl) fun _=>(Wk ?_)))))) (noF tO)))) (noF tO)
     refine g 65 69 []<|J UV<|gd 5 75 [[],[],[],[.call (bx (gc (cT w 0) 3)) [[],[]]],[],[],[]] ?_
     conv=>whnf
     refine J QZ<|J KR<|RT ?_
     rw[mF hup h1 h4];rfl
    ·exfalso;omega
theorem te(w:Worker)(p:Plan)(hp:dy p)(hll:w.inputs.length≤1048576):F sK [.val (dI w),.val (cV p)] (qT (gb w p)) [[],[]]:=by
 have cp:=dl p hp
 by_cases h:au w
 ·by_cases hc:am p.tasks = 0
  ·rw[hc]at cp
   obtain⟨⟨f1,f2⟩,⟨f3,f4⟩,f5,f6⟩:=KB h
   by_cases hup:w.up = false
   ·refine aR ?_
    conv=>whnf
    refine g 0 0 []<|J QZ<|Ws<|g 8 15 [.call (V.b (decide (au w))) [[]],BF,BF,.call (V.i 0) [[]],BF,BF]<|J (QA @ar)<|Wc<|J (noT rfl) fun _=>Wk<|g 15 19 [.call (aA w) [[]]]<|J (QA @aG)<|Ws<|g 19 21 []<|J UC<|Wc<|J (fun _=>(g 21 24 []<|J QZ (RT ?_))) (noF (nbT AS))
    rw[eL h hc,wD hup];rfl
   ·rcases Cn h with h1|h1|h1
    ·skip
     by_cases hs:w.since < 1000000
     ·have e:aW w = w.since+1:=if_pos hs
      by_cases h4:3≤aW w
      ·have ct:=dL (cT w 0) 5 OM
       have h5:=h4
       rw[e]at h5
       refine aR ?_
       conv=>whnf
       refine g 0 0 []<|J QZ<|Ws<|g 8 15 [.call (V.b (decide (au w))) [[]],BF,BF,.call (V.i 0) [[]],BF,BF]<|J (QA @ar)<|Wc<|J (noT rfl) fun _=>Wk<|g 15 19 [.call (aA w) [[]]]<|J (QA @aG)<|Ws<|g 19 21 []<|J UC<|Wc<|J (noT SI) fun _=>Wk<|Ws<|g 21 26 []<|J UC ?_
       refine Wc<|J (fun _=>(rg [.i (w.since+1)]<|J QZ (g 26 31 []<|J UA (Ws (g 2 3 []<|J UB (Wb (g 31 32 []<|J UB (Wc<|J (noT dO) fun _=>(g 32 38 []<|J UB (Wc<|J (noT dO) fun _=>(g 33 35 []<|J UC (Wc<|J (fun _=>?_) (noF tO))))))))))))) (noF tO)
       refine rg []<|J UA<|Ws<|g 35 76 []<|J UB<|Wc<|J (noT rfl) fun _=>Wk<|g 76 80 []<|J UV<|gd 5 86 [[],[],[],[.call (bx (gc (cT w 0) 5)) [[],[]]],[],[],[]] ?_
       conv=>whnf
       refine J QZ<|J KR<|RT ?_
       rw[eL h hc,mG hup h1 h4];rfl
      ·have h5:=h4
       rw[e]at h5
       refine aR ?_
       conv=>whnf
       refine g 0 0 []<|J QZ<|Ws<|g 8 15 [.call (V.b (decide (au w))) [[]],BF,BF,.call (V.i 0) [[]],BF,BF]<|J (QA @ar)<|Wc<|J (noT rfl) fun _=>Wk<|g 15 19 [.call (aA w) [[]]]<|J (QA @aG)<|Ws<|g 19 21 []<|J UC<|Wc<|J (noT SI) fun _=>Wk<|Ws<|g 21 26 []<|J UC ?_
       refine Wc<|J (fun _=>(rg [.i (w.since+1)]<|J QZ (g 26 31 []<|J UA (Ws (g 2 3 []<|J UB (Wb (g 31 32 []<|J UB (Wc<|J (noT dO) fun _=>(g 32 38 []<|J UB (Wc<|J (noT dO) fun _=>(g 33 35 []<|J UC (Wc<|J (noT dO) fun _=>?_)))))))))))) (noF tO)
       refine Wk<|Ws<|g 35 76 []<|J UB<|Wc<|J (fun _=>(g 76 79 []<|J QZ (RT ?_))) (noF rfl)
       rw[eL h hc,rM hup h1 h4,e];rfl
     ·have e:aW w = w.since:=if_neg hs
      by_cases h4:3≤aW w
      ·have ct:=dL (cT w 0) 5 OM
       have h5:=h4
       rw[e]at h5
       refine aR ?_
       conv=>whnf
       refine g 0 0 []<|J QZ<|Ws<|g 8 15 [.call (V.b (decide (au w))) [[]],BF,BF,.call (V.i 0) [[]],BF,BF]<|J (QA @ar)<|Wc<|J (noT rfl) fun _=>Wk<|g 15 19 [.call (aA w) [[]]]<|J (QA @aG)<|Ws<|g 19 21 []<|J UC<|Wc<|J (noT SI) fun _=>Wk<|Ws<|g 21 26 []<|J UC ?_
       refine Wc<|J (noT dO) fun _=>Wk<|g 2 3 []<|J UA<|Ws<|g 26 32 []<|J UB<|Wb<|g 37 38 []<|J UB<|Wc<|J (noT dO) fun _=>g 32 37 []<|J UB<|Wc<|J (noT dO) fun _=>g 33 35 []<|J UC<|Wc<|J (fun _=>?_) (noF tO)
       refine rg []<|J UA<|Ws<|g 35 76 []<|J UB<|Wc<|J (noT rfl) fun _=>Wk<|g 76 80 []<|J UV<|gd 5 86 [[],[],[],[.call (bx (gc (cT w 0) 5)) [[],[]]],[],[],[]] ?_
       conv=>whnf
       refine J QZ<|J KR<|RT ?_
       rw[eL h hc,mG hup h1 h4];rfl
      ·exfalso;omega
    ·have hb:=Bv h h1
     obtain⟨hl8,hes,htt⟩:=Gc hb
     obtain⟨_,⟨_,b3,b4⟩,⟨b5,b6⟩,⟨b7,b8⟩,_⟩:=hb
     by_cases hl:w.left - 1 = 0
     ·by_cases ht:w.task < p.tasks.length
      ·obtain⟨t,ht2⟩:=ae (xs:=p.tasks) (n:=w.task.toNat) OM
       obtain⟨⟨g1,g2⟩,_⟩:=cq hc ht2
       have cv:=jO t.name w.inputs OM OM OM hes
       have ct:=dL ⟨w.number,w.epoch,w.up,2,w.lease,w.task,0,w.left - 1,[],bC t.name w.inputs,0⟩ 3 OM
       refine aR ?_
       conv=>whnf
       refine g 0 0 []<|J QZ<|Ws<|g 8 15 [.call (V.b (decide (au w))) [[]],BF,BF,.call (V.i 0) [[]],BF,BF]<|J (QA @ar)<|Wc<|J (noT rfl) fun _=>Wk<|g 15 19 [.call (aA w) [[]]]<|J (QA @aG)<|Ws<|g 19 21 []<|J UC<|Wc<|J (noT SI) fun _=>Wk<|Ws<|g 21 26 []<|J UC ?_
       refine Wc<|JD (fun h2=>?_) fun h2=>?_
       refine rg [.i (w.since+1)]<|J QZ<|g 26 31 []<|J UA<|Ws<|g 2 3 []<|J UB<|Wb<|g 31 32 []<|J UB<|Wc<|J (fun _=>(g 32 42 [.i (w.left - 1)]<|J QZ (g 42 44 []<|J UC (Wc<|J (fun _=>(g 44 45 []<|J UA (Ws ?_))) (noF tO))))) (noF tO)
       refine g 45 50 []<|J UF<|Wc<|J (fun _=>(rg [.x (ay t)]<|J QZ (g 7 63 [.call (V.s (bC t.name w.inputs)) [[],[]]]<|J QZ (g 3 4 []<|J UV (g 63 65 []<|J UV (g 65 67 []<|J QZ (rg []<|J UA (Ws (g 75 76 []<|J UB (Wc<|J (noT rfl) fun _=>(Wk ?_))))))))))) (noF SI)
       refine g 76 80 []<|J UV<|gd 5 86 [[],[],[],[.call (bx (gc {number:=w.number,epoch:=w.epoch,up:=w.up,state:=2,lease:=w.lease,task:=w.task,cost:=0,left:=w.left - 1,inputs:=[],text:=bC t.name w.inputs,since:=0:Worker} 3)) [[],[]]],[],[],[]] ?_
       conv=>whnf
       refine J QZ<|J KR<|RT ?_
       rotate_left
       refine Wk<|g 2 3 []<|J UA<|Ws<|g 26 32 []<|J UB<|Wb<|g 37 38 []<|J UB<|Wc<|J (fun _=>(g 32 42 [.i (w.left - 1)]<|J QZ (g 42 44 []<|J UC (Wc<|J (fun _=>(g 44 45 []<|J UA (Ws ?_))) (noF tO))))) (noF tO)
       refine g 45 50 []<|J UF<|Wc<|J (fun _=>(rg [.x (ay t)]<|J QZ (g 7 63 [.call (V.s (bC t.name w.inputs)) [[],[]]]<|J QZ (g 3 4 []<|J UV (g 63 65 []<|J UV (g 65 67 []<|J QZ (rg []<|J UA (Ws (g 75 76 []<|J UB (Wc<|J (noT rfl) fun _=>(Wk ?_))))))))))) (noF SI)
       refine g 76 80 []<|J UV<|gd 5 86 [[],[],[],[.call (bx (gc {number:=w.number,epoch:=w.epoch,up:=w.up,state:=2,lease:=w.lease,task:=w.task,cost:=0,left:=w.left - 1,inputs:=[],text:=bC t.name w.inputs,since:=0:Worker} 3)) [[],[]]],[],[],[]] ?_
       conv=>whnf
       refine J QZ<|J KR<|RT ?_
       rotate_left
       all_goals (rw[eL h hc,mH hup h1 hl,gZ,NY ht2];rfl)
      ·have ht2:p.tasks[w.task.toNat]? = none:=List.getElem?_eq_none OM
       have cv:=jO emp w.inputs (by decide) OM OM hes
       have ct:=dL ⟨w.number,w.epoch,w.up,2,w.lease,w.task,0,w.left - 1,[],bC emp w.inputs,0⟩ 3 OM
       refine aR ?_
       conv=>whnf
       refine g 0 0 []<|J QZ<|Ws<|g 8 15 [.call (V.b (decide (au w))) [[]],BF,BF,.call (V.i 0) [[]],BF,BF]<|J (QA @ar)<|Wc<|J (noT rfl) fun _=>Wk<|g 15 19 [.call (aA w) [[]]]<|J (QA @aG)<|Ws<|g 19 21 []<|J UC<|Wc<|J (noT SI) fun _=>Wk<|Ws<|g 21 26 []<|J UC ?_
       refine Wc<|JD (fun h2=>?_) fun h2=>?_
       refine rg [.i (w.since+1)]<|J QZ<|g 26 31 []<|J UA<|Ws<|g 2 3 []<|J UB<|Wb<|g 31 32 []<|J UB<|Wc<|J (fun _=>(g 32 42 [.i (w.left - 1)]<|J QZ (g 42 44 []<|J UC (Wc<|J (fun _=>(g 44 45 []<|J UA (Ws ?_))) (noF tO))))) (noF tO)
       refine g 45 50 []<|J UF<|Wc<|J (noT SI) fun _=>Wk<|g 7 63 [.call (V.s (bC emp w.inputs)) [[],[]]]<|J QZ<|g 3 4 []<|J UV<|g 63 65 []<|J UV<|g 65 67 []<|J QZ<|rg []<|J UA<|Ws<|g 75 76 []<|J UB<|Wc<|J (noT rfl) fun _=>Wk ?_
       refine g 76 80 []<|J UV<|gd 5 86 [[],[],[],[.call (bx (gc {number:=w.number,epoch:=w.epoch,up:=w.up,state:=2,lease:=w.lease,task:=w.task,cost:=0,left:=w.left - 1,inputs:=[],text:=bC emp w.inputs,since:=0:Worker} 3)) [[],[]]],[],[],[]] ?_
       conv=>whnf
       refine J QZ<|J KR<|RT ?_
       rotate_left
       refine Wk<|g 2 3 []<|J UA<|Ws<|g 26 32 []<|J UB<|Wb<|g 37 38 []<|J UB<|Wc<|J (fun _=>(g 32 42 [.i (w.left - 1)]<|J QZ (g 42 44 []<|J UC (Wc<|J (fun _=>(g 44 45 []<|J UA (Ws ?_))) (noF tO))))) (noF tO)
       refine g 45 50 []<|J UF<|Wc<|J (noT SI) fun _=>Wk<|g 7 63 [.call (V.s (bC emp w.inputs)) [[],[]]]<|J QZ<|g 3 4 []<|J UV<|g 63 65 []<|J UV<|g 65 67 []<|J QZ<|rg []<|J UA<|Ws<|g 75 76 []<|J UB<|Wc<|J (noT rfl) fun _=>Wk ?_
       refine g 76 80 []<|J UV<|gd 5 86 [[],[],[],[.call (bx (gc {number:=w.number,epoch:=w.epoch,up:=w.up,state:=2,lease:=w.lease,task:=w.task,cost:=0,left:=w.left - 1,inputs:=[],text:=bC emp w.inputs,since:=0:Worker} 3)) [[],[]]],[],[],[]] ?_
       conv=>whnf
       refine J QZ<|J KR<|RT ?_
       rotate_left
       all_goals (rw[eL h hc,mH hup h1 hl,gZ,KG ht2];rfl)
     ·skip
      by_cases hs:w.since < 1000000
      ·have e:aW w = w.since+1:=if_pos hs
       by_cases h4:4≤aW w
       ·have ct:=dL (cT (og w) 0) 2 OM
        have h5:=h4
        rw[e]at h5
        refine aR ?_
        conv=>whnf
        refine g 0 0 []<|J QZ<|Ws<|g 8 15 [.call (V.b (decide (au w))) [[]],BF,BF,.call (V.i 0) [[]],BF,BF]<|J (QA @ar)<|Wc<|J (noT rfl) fun _=>Wk<|g 15 19 [.call (aA w) [[]]]<|J (QA @aG)<|Ws<|g 19 21 []<|J UC<|Wc<|J (noT SI) fun _=>Wk<|Ws<|g 21 26 []<|J UC ?_
        refine Wc<|J (fun _=>(rg [.i (w.since+1)]<|J QZ (g 26 31 []<|J UA (Ws (g 2 3 []<|J UB (Wb (g 31 32 []<|J UB (Wc<|J (fun _=>(g 32 42 [.i (w.left - 1)]<|J QZ (g 42 44 []<|J UC (Wc<|J (noT dO) fun _=>(g 44 69 []<|J UC ?_))))) (noF tO))))))))) (noF tO)
        refine Wc<|J (fun _=>(rg []<|J UA (Ws (g 69 76 []<|J UB (Wc<|J (noT rfl) fun _=>(Wk (g 76 80 []<|J UV (gd 5 86 [[],[],[],[.call (bx (gc (cT (og w) 0) 2)) [[],[]]],[],[],[]] ?_)))))))) (noF tO)
        conv=>whnf
        refine⟨Zal,by kernel_rfl,?_⟩
        refine RT ?_
        rw[eL h hc,mI hup h1 hl h4];rfl
       ·have h5:=h4
        rw[e]at h5
        refine aR ?_
        conv=>whnf
        refine g 0 0 []<|J QZ<|Ws<|g 8 15 [.call (V.b (decide (au w))) [[]],BF,BF,.call (V.i 0) [[]],BF,BF]<|J (QA @ar)<|Wc<|J (noT rfl) fun _=>Wk<|g 15 19 [.call (aA w) [[]]]<|J (QA @aG)<|Ws<|g 19 21 []<|J UC<|Wc<|J (noT SI) fun _=>Wk<|Ws<|g 21 26 []<|J UC ?_
        refine Wc<|J (fun _=>(rg [.i (w.since+1)]<|J QZ (g 26 31 []<|J UA (Ws (g 2 3 []<|J UB (Wb (g 31 32 []<|J UB (Wc<|J (fun _=>(g 32 42 [.i (w.left - 1)]<|J QZ (g 42 44 []<|J UC (Wc<|J (noT dO) fun _=>(g 44 69 []<|J UC ?_))))) (noF tO))))))))) (noF tO)
        refine Wc<|J (noT dO) fun _=>Wk<|Ws<|g 69 76 []<|J UB<|Wc<|J (fun _=>(g 76 79 []<|J QZ (RT ?_))) (noF rfl)
        rw[eL h hc,wE hup h1 hl h4,e];rfl
      ·have e:aW w = w.since:=if_neg hs
       by_cases h4:4≤aW w
       ·have ct:=dL (cT (og w) 0) 2 OM
        have h5:=h4
        rw[e]at h5
        refine aR ?_
        conv=>whnf
        refine g 0 0 []<|J QZ<|Ws<|g 8 15 [.call (V.b (decide (au w))) [[]],BF,BF,.call (V.i 0) [[]],BF,BF]<|J (QA @ar)<|Wc<|J (noT rfl) fun _=>Wk<|g 15 19 [.call (aA w) [[]]]<|J (QA @aG)<|Ws<|g 19 21 []<|J UC<|Wc<|J (noT SI) fun _=>Wk<|Ws<|g 21 26 []<|J UC ?_
        refine Wc<|J (noT dO) fun _=>Wk<|g 2 3 []<|J UA<|Ws<|g 26 32 []<|J UB<|Wb<|g 37 38 []<|J UB<|Wc<|J (fun _=>(g 32 42 [.i (w.left - 1)]<|J QZ (g 42 44 []<|J UC (Wc<|J (noT dO) fun _=>(g 44 69 []<|J UC ?_))))) (noF tO)
        refine Wc<|J (fun _=>(rg []<|J UA (Ws (g 69 76 []<|J UB (Wc<|J (noT rfl) fun _=>(Wk (g 76 80 []<|J UV (gd 5 86 [[],[],[],[.call (bx (gc (cT (og w) 0) 2)) [[],[]]],[],[],[]] ?_)))))))) (noF tO)
        conv=>whnf
        refine⟨Zal,by kernel_rfl,?_⟩
        refine RT ?_
        rw[eL h hc,mI hup h1 hl h4];rfl
       ·exfalso;omega
    ·skip
     by_cases hs:w.since < 1000000
     ·have e:aW w = w.since+1:=if_pos hs
      by_cases h4:4≤aW w
      ·have ct:=dL (cT w 0) 3 OM
       have h5:=h4
       rw[e]at h5
       refine aR ?_
       conv=>whnf
       refine g 0 0 []<|J QZ<|Ws<|g 8 15 [.call (V.b (decide (au w))) [[]],BF,BF,.call (V.i 0) [[]],BF,BF]<|J (QA @ar)<|Wc<|J (noT rfl) fun _=>Wk<|g 15 19 [.call (aA w) [[]]]<|J (QA @aG)<|Ws<|g 19 21 []<|J UC<|Wc<|J (noT SI) fun _=>Wk<|Ws<|g 21 26 []<|J UC ?_
       refine Wc<|J (fun _=>(rg [.i (w.since+1)]<|J QZ (g 26 31 []<|J UA (Ws (g 2 3 []<|J UB (Wb (g 31 32 []<|J UB (Wc<|J (noT dO) fun _=>(g 32 38 []<|J UB (Wc<|J (fun _=>(g 70 74 []<|J UC (Wc<|J (fun _=>?_) (noF tO)))) (noF tO))))))))))) (noF tO)
       refine rg []<|J UA<|Ws<|g 74 76 []<|J UB<|Wc<|J (noT rfl) fun _=>Wk<|g 76 80 []<|J UV<|gd 5 86 [[],[],[],[.call (bx (gc (cT w 0) 3)) [[],[]]],[],[],[]] ?_
       conv=>whnf
       refine J QZ<|J KR<|RT ?_
       rw[eL h hc,mF hup h1 h4];rfl
      ·have h5:=h4
       rw[e]at h5
       refine aR ?_
       conv=>whnf
       refine g 0 0 []<|J QZ<|Ws<|g 8 15 [.call (V.b (decide (au w))) [[]],BF,BF,.call (V.i 0) [[]],BF,BF]<|J (QA @ar)<|Wc<|J (noT rfl) fun _=>Wk<|g 15 19 [.call (aA w) [[]]]<|J (QA @aG)<|Ws<|g 19 21 []<|J UC<|Wc<|J (noT SI) fun _=>Wk<|Ws<|g 21 26 []<|J UC ?_
       refine Wc<|J (fun _=>(rg [.i (w.since+1)]<|J QZ (g 26 31 []<|J UA (Ws (g 2 3 []<|J UB (Wb (g 31 32 []<|J UB (Wc<|J (noT dO) fun _=>(g 32 38 []<|J UB (Wc<|J (fun _=>(g 70 74 []<|J UC (Wc<|J (noT dO) fun _=>?_))) (noF tO))))))))))) (noF tO)
       refine Wk<|Ws<|g 74 76 []<|J UB<|Wc<|J (fun _=>(g 76 79 []<|J QZ (RT ?_))) (noF rfl)
       rw[eL h hc,rL hup h1 h4,e];rfl
     ·have e:aW w = w.since:=if_neg hs
      by_cases h4:4≤aW w
      ·have ct:=dL (cT w 0) 3 OM
       have h5:=h4
       rw[e]at h5
       refine aR ?_
       conv=>whnf
       refine g 0 0 []<|J QZ<|Ws<|g 8 15 [.call (V.b (decide (au w))) [[]],BF,BF,.call (V.i 0) [[]],BF,BF]<|J (QA @ar)<|Wc<|J (noT rfl) fun _=>Wk<|g 15 19 [.call (aA w) [[]]]<|J (QA @aG)<|Ws<|g 19 21 []<|J UC<|Wc<|J (noT SI) fun _=>Wk<|Ws<|g 21 26 []<|J UC ?_
       refine Wc<|J (noT dO) fun _=>Wk<|g 2 3 []<|J UA<|Ws<|g 26 32 []<|J UB<|Wb<|g 37 38 []<|J UB<|Wc<|J (noT dO) fun _=>g 32 37 []<|J UB<|Wc<|J (fun _=>(g 70 74 []<|J UC (Wc<|J (fun _=>?_) (noF tO)))) (noF tO)
       refine rg []<|J UA<|Ws<|g 74 76 []<|J UB<|Wc<|J (noT rfl) fun _=>Wk<|g 76 80 []<|J UV<|gd 5 86 [[],[],[],[.call (bx (gc (cT w 0) 3)) [[],[]]],[],[],[]] ?_
       conv=>whnf
       refine J QZ<|J KR<|RT ?_
       rw[eL h hc,mF hup h1 h4];rfl
      ·exfalso;omega
  ·rw[JZ (fun q=>hc q.2)]
   refine aR ?_
   conv=>whnf
   refine g 0 0 []<|J QZ<|Ws<|g 8 15 [.call (V.b (decide (au w))) [[]],BF,BF,.call (V.i (am p.tasks)) [[]],BF,BF]<|J (QA @ar)<|Wc<|J (fun _=>(g 15 17 []<|J QZ (RT ?_))) (noF (dP OM))
   rfl
 ·rw[JZ (fun q=>h q.1)]
  refine aR ?_
  conv=>whnf
  refine g 0 0 []<|J QZ<|Ws<|g 8 15 [.call (V.b (decide (au w))) [[]],BT,BT,BT,BT]<|J (QA @ar)<|Wc<|J (fun _=>(g 15 17 []<|J QZ (RT ?_))) (noF rfl)
  rfl
end Go.K
end
section
open Go Go.Tm Go.Proofs
namespace Go.K
theorem wm(b:Boss)(h1:b.log.safe.length≤1048576)(h2:b.log.loose.length≤1048576)(h3:b.results.length≤1048576)(h4:b.jobs.length≤1048576)(h5:b.seats.length≤1048576)(h6:b.owed.length≤1048576):F l9 [.val (fT b)] (aF b) [[]]:=by
 refine vY ?_
 conv=>whnf
 refine g 0 0 []<|J QZ<|gd 3 13 [[],[],[],[.call (V.own [false] (List.map ai b.log.safe)) [[]]],[],[],[],[.call (V.own [false] (List.map ai b.log.loose)) [[]]],[],[],[]] ?_
 conv=>whnf
 refine J (QA @fV)<|J KR<|g 13 17 [.call (V.own [false] (List.map ai b.results)) [[]]]<|J (QA @fV)<|g 17 22 []<|J QZ<|g 22 27 []<|J QZ<|g 27 32 []<|J QZ<|g 0 2 []<|J QZ<|RT ?_
 rfl
theorem Hr(l:Log)(h1:l.safe.length≤1048576)(h2:l.loose.length≤1048576):F GG [.val (Rr l)] (Rt l) [[]]:=by
 refine G3 ?_
 conv=>whnf
 refine g 0 0 []<|J QZ<|gd 3 12 [[],[],[],[],[],[],[],[],[],[]] ?_
 conv=>whnf
 refine J QZ<|J KR<|RT ?_
 rfl
theorem qI(b:Boss)(h1:b.log.safe.length≤1048576)(h2:b.log.loose.length≤1048576)(h3:b.results.length≤1048576)(h4:b.jobs.length≤1048576)(h5:b.seats.length≤1048576)(h6:b.owed.length≤1048576):F ql [.val (fT b)] (aF b) [[]]:=by
 have c1:=Hr b.log h1 h2
 refine DM ?_
 conv=>whnf
 refine g 0 1 []<|J QZ<|g 3 7 [.call (Rt b.log) [[]]]<|J QZ<|g 7 12 []<|J QZ<|g 12 17 []<|J QZ<|g 17 22 []<|J QZ<|g 22 27 []<|J QZ<|g 1 2 []<|J QZ<|RT ?_
 rfl
def jL(k:Int)(n:Nat):Nat:=if k < 0 then 0 else if k < n then k.toNat else n
theorem Ti{k:Int}{n:Nat}(h:k < 0):jL k n = 0:=if_pos h
theorem Tj{k:Int}{n:Nat}(h:0≤k)(h2:k < n):jL k n = k.toNat:=by rw[jL,if_neg OM,if_pos h2]
theorem K9{k:Int}{n:Nat}(h2:(n:Int)≤k):jL k n = n:=by rw[jL,if_neg OM,if_neg OM]
theorem HZ(k:Int)(n:Nat):jL k n≤n:=by
 unfold jL;split
 ·omega
 ·split <;> omega
theorem XA(k:Int)(n:Nat):max 0 (min k (n:Int)) = (jL k n:Int):=by
 unfold jL;split
 ·omega
 ·split <;> omega
theorem Zu(k:Int)(n:Nat)(h:n≤1048576):IntKind.i64.wrap (max 0 (min k (n:Int))) = (jL k n:Int):=by
 rw[XA]
 have:=HZ k n
 exact wO
def lf(b:Boss)(k:Int):Boss:=if b.up = false then b else⟨b.workers,false,b.now,0,0,0,⟨b.log.safe++b.log.loose.take (jL k b.log.loose.length),[]⟩,[],[],[],[]⟩
theorem pU{b:Boss}{k:Int}(h:b.up = false):lf b k = b:=if_pos h
theorem BU{b:Boss}{k:Int}(h:¬b.up = false):lf b k = ⟨b.workers,false,b.now,0,0,0,⟨b.log.safe++b.log.loose.take (jL k b.log.loose.length),[]⟩,[],[],[],[]⟩:=if_neg h
theorem wt(b:Boss)(k:Int)(h1:b.log.safe.length≤1048576)(h2:b.log.loose.length≤1048576):F vp [.ptr (cellsOf (aF b)),.val (.i k)] (.tup []) [cellsOf (aF (lf b k)),[]]:=by
 by_cases hup:b.up = false
 ·rw[pU hup]
  refine ml ?_
  conv=>whnf
  refine g 4 6 []<|J UD<|Wc<|J (noT AS) fun _=>Wk<|EndsW.nm<|J I (J ?_ rfl)
  rfl
 ·rw[BU hup]
  have hcl:=HZ k b.log.loose.length
  have hw:IntKind.i64.wrap (max 0 (min k ((List.map ai b.log.loose).length:Int))) = (jL k b.log.loose.length:Int):=by rw[List.length_map];exact Zu _ _ h2
  refine ml ?_
  conv=>whnf
  refine g 4 6 []<|J UD<|Wc<|J (fun _=>(g 7 17 [.i (match false with|true=>max k (↑(List.length (List.map ai b.log.loose)):Int)|false=>min k (↑(List.length (List.map ai b.log.loose)):Int)),.i (IntKind.wrap IntKind.i64   (match true with   |true =>     max 0       (match false with       |true=>max k (↑(List.length (List.map ai b.log.loose)):Int)       |false=>min k (↑(List.length (List.map ai b.log.loose)):Int))   |false =>     min 0       (match false with       |true=>max k (↑(List.length (List.map ai b.log.loose)):Int)       |false=>min k (↑(List.length (List.map ai b.log.loose)):Int))))]<|J QZ (rgd [[],[],[],[],[],[],[],[],[],[],[],[],[],[],[],[],[],[],[],[],[.n (jL k (List.length b.log.loose))],[],[],[],[],[]] ?_))) (noF SI)
  conv=>whnf
  refine⟨⟨I,I,I,I,I,I,I,I,I,I,I,I,I,I,I,I,I,I,I,I,⟨I,hw,I,OM,LN⟩,Zao,I,I,I,UL,I⟩,by kernel_rfl,?_⟩
  refine EndsW.nm<|J I<|J ?_ ?_
  rfl
  all_goals (simp only[List.nil_append,List.drop_zero,List.length_map,←List.map_take,←List.map_append];rfl)
structure BossLim (b:Boss):Prop where
 safe:b.log.safe.length≤1048576
 loose:b.log.loose.length≤1048576
 all:∀ s∈b.log.safe++b.log.loose,s.size≤281474976710656
 res:b.results.length≤1048576
 jobs:b.jobs.length≤1048576
 seats:b.seats.length≤1048576
 owed:b.owed.length≤1048576
theorem Tk(b:Boss)(p:Plan)(hp:dy p)(h:BossLim b):F lY [.val (fT b),.val (cV p)] (.b (decide (BossOk b p))) [[],[]]:=wj b p hp h.safe h.loose h.all h.res h.jobs h.seats h.owed
theorem po(b:Boss)(p:Plan)(hp:dy p)(h:BossLim b):F lW [.val (fT b),.val (cV p)] (.b (decide (BossOk b p))) [[],[]]:=v4 b p hp h.safe h.loose h.all h.res h.jobs h.seats h.owed
theorem XB(b:Boss)(h:BossLim b):F l9 [.val (fT b)] (aF b) [[]]:=wm b h.safe h.loose h.res h.jobs h.seats h.owed
theorem qD(b:Boss)(h:BossLim b):F ql [.val (fT b)] (aF b) [[]]:=qI b h.safe h.loose h.res h.jobs h.seats h.owed
noncomputable def sE(b:Boss)(p:Plan)(k:Int):Boss:=if BossOk b p then lf b k else iG
theorem CE{b:Boss}{p:Plan}{k:Int}(h:BossOk b p):sE b p k = lf b k:=if_pos h
theorem Lb{b:Boss}{p:Plan}{k:Int}(h:¬BossOk b p):sE b p k = iG:=if_neg h
theorem za(b:Boss)(p:Plan)(k:Int)(hp:dy p)(h:BossLim b):F ya [.val (fT b),.val (cV p),.val (.i k)] (aF (sE b p k)) [[],[],[]]:=by
 have cv:=po b p hp h
 have h1:=h.safe
 have h2:=h.loose
 by_cases hv:BossOk b p
 ·rw[decide_eq_true hv]at cv
  rw[CE hv]
  have ct:=qD b h
  by_cases hup:b.up = false
  ·rw[pU hup]
   refine ff ?_
   conv=>whnf
   refine g 1 2 []<|J QZ<|Ws<|g 7 10 [.call VT [[],[]]]<|J QZ<|Wc<|J (noT rfl) fun _=>Wk<|Ws<|g 10 14 []<|J UC<|Wc<|J (fun _=>(g 14 17 [.call (aF b) [[]]]<|J QZ (RT ?_))) (noF (nbT AS))
   rfl
  ·rw[BU hup]
   by_cases hk:k < 0
   ·rw[Ti hk]
    refine ff ?_
    conv=>whnf
    refine g 1 2 []<|J QZ<|Ws<|g 7 10 [.call VT [[],[]]]<|J QZ<|Wc<|J (noT rfl) fun _=>Wk<|Ws<|g 10 14 []<|J UC<|Wc<|J (noT SI) fun _=>Wk<|Ws<|g 14 18 []<|J UB<|Wc<|J (fun _=>?_) (noF tO)
    refine rg []<|J UA<|Ws<|g 18 24 []<|J UF<|Wc<|J (noT rfl) fun _=>Wk<|gd 24 40 [[],[],[],[],[],[],[],[],[],[],[],[],[],[.n (0)],[],[],[],[]] ?_
    conv=>whnf
    refine J QZ<|J KR<|RT ?_
    all_goals (simp only[List.nil_append,List.drop_zero,List.length_map,←List.map_take,←List.map_append];rfl)
   ·by_cases hk2:k < b.log.loose.length
    ·rw[Tj OM hk2]
     refine ff ?_
     conv=>whnf
     refine g 1 2 []<|J QZ<|Ws<|g 7 10 [.call VT [[],[]]]<|J QZ<|Wc<|J (noT rfl) fun _=>Wk<|Ws<|g 10 14 []<|J UC<|Wc<|J (noT SI) fun _=>Wk<|Ws<|g 14 18 []<|J UB<|Wc<|J (noT dO) fun _=>?_
     refine Wk<|Ws<|g 18 24 []<|J UF<|Wc<|J (fun h3=>?_) fun h3=>?_
     replace h3:=dt h3
     simp only[LM]at h3
     omega
     replace h3:=df h3
     simp only[LM]at h3
     refine Wk<|gd 24 40 [[],[],[],[],[],[],[],[],[],[],[],[],[],[.n (Int.toNat k)],[],[],[],[]] ?_
     conv=>whnf
     refine J QZ<|J KR<|RT ?_
     all_goals first|(exfalso;omega)|(simp only[List.nil_append,List.drop_zero,List.length_map,←List.map_take,←List.map_append];rfl)
    ·rw[K9 OM]
     refine ff ?_
     conv=>whnf
     refine g 1 2 []<|J QZ<|Ws<|g 7 10 [.call VT [[],[]]]<|J QZ<|Wc<|J (noT rfl) fun _=>Wk<|Ws<|g 10 14 []<|J UC<|Wc<|J (noT SI) fun _=>Wk<|Ws<|g 14 18 []<|J UB<|Wc<|J (noT dO) fun _=>?_
     refine Wk<|Ws<|g 18 24 []<|J UF<|Wc<|JD (fun h3=>?_) fun h3=>?_
     simp only[LM]at h3
     refine rg []<|J UE<|gd 24 40 [[],[],[],[],[],[],[],[],[],[],[],[],[],[.n (List.length (List.map ai b.log.loose))],[],[],[],[]] ?_
     conv=>whnf
     refine J QZ<|J KR<|RT ?_
     rotate_left
     simp only[LM]at h3
     refine Wk<|gd 24 40 [[],[],[],[],[],[],[],[],[],[],[],[],[],[.n (Int.toNat k)],[],[],[],[]] ?_
     conv=>whnf
     refine J QZ<|J KR<|RT ?_
     rotate_left
     ·simp only[List.nil_append,List.drop_zero,List.length_map,←List.map_take,←List.map_append];rfl
     ·have e:k = b.log.loose.length:=by omega
      subst e
      simp only[List.nil_append,List.drop_zero,List.length_map,Int.toNat_natCast,←List.map_take,←List.map_append];rfl
 ·rw[decide_eq_false hv]at cv
  rw[Lb hv]
  refine ff ?_
  conv=>whnf
  refine g 1 2 []<|J QZ<|Ws<|g 7 10 [.call VF [[],[]]]<|J QZ<|Wc<|J (fun _=>(g 10 12 []<|J QZ (RT ?_))) (noF rfl)
  rfl
end Go.K
end
section
open Go Go.Tm Go.Proofs
namespace Go.K
abbrev eB(w now:Int)(safe:List ByteArray):Boss:=⟨w,false,now,0,0,0,⟨safe,[]⟩,[],[],[],[]⟩
theorem Ph{b:Boss}(hup:b.up = false)(d:DownOk b):b = eB b.workers b.now b.log.safe:=by
 obtain⟨w,up,now,since,ep,given,⟨safe,loose⟩,rs,js,ss,ow⟩:=b
 obtain⟨d1,d2,d3,d4,d5,d6,d7,d8⟩:=d
 simp only at hup d1 d2 d3 d4 d5 d6 d7 d8
 subst hup d2 d3 d4
 rw[List.eq_nil_of_length_eq_zero d1,List.eq_nil_of_length_eq_zero d5,List.eq_nil_of_length_eq_zero d6,List.eq_nil_of_length_eq_zero d7,List.eq_nil_of_length_eq_zero d8]
def epE(n:Int):Entry:=⟨1,n,0,emp⟩
def upB(w now:Int)(safe:List ByteArray)(p:Plan)(st:Story):Boss:=⟨w,true,now,0,st.epoch+1,0,⟨safe++ [bT (epE (st.epoch+1))],[]⟩,st.results,List.replicate p.tasks.length fm,List.replicate w.toNat iE,[]⟩
def qc(b:Boss)(p:Plan):Prop:=b.up = false∧b.log.safe.length < 310∧(aw p b.log.safe).epoch < 300
noncomputable instance (b:Boss) (p:Plan):Decidable (qc b p):=Classical.propDecidable _
noncomputable def cU(b:Boss)(p:Plan):Boss:=if qc b p then upB b.workers b.now b.log.safe p (aw p b.log.safe)else b
theorem oc{b:Boss}{p:Plan}(h:¬qc b p):cU b p = b:=if_neg h
theorem CT{b:Boss}{p:Plan}(h:qc b p):cU b p = upB b.workers b.now b.log.safe p (aw p b.log.safe):=if_pos h
theorem W5(n:Nat):(List.replicate n fm).map aI = List.replicate n (aI fm):=List.map_replicate
theorem SC(n:Nat):(List.replicate n iE).map aE = List.replicate n (aE iE):=List.map_replicate
theorem PI(n:Nat):(List.replicate n fm).map aI++ [aI fm] = (List.replicate (n+1) fm).map aI:=by simp[List.replicate_succ']
theorem PH(n:Nat):(List.replicate n iE).map aE++ [aE iE] = (List.replicate (n+1) iE).map aE:=by simp[List.replicate_succ']
theorem J5(w now:Int)(safe:List ByteArray)(p:Plan)(st:Story):aF (upB w now safe p st) = .agg [.t (.i w),.t (.b true),.t (.i now),.t (.i 0),.t (.i (st.epoch+1)),.t (.i 0),.own [false] (safe.map ai++ [ai (bT ⟨1,st.epoch+1,0,emp⟩)]),.own [false] [],.own [false] (st.results.map ai),.own dU ((List.replicate p.tasks.length fm).map aI),.own bJ ((List.replicate w.toNat iE).map aE),.own bK []]:=by
 simp only[aF,upB,List.map_append];rfl
theorem JM(w now:Int)(safe:List ByteArray)(p:Plan)(hp:dy p)(hw:1≤w∧w≤8)(hs:∀ s∈safe,s.size≤281474976710656)(hc:(aw p safe).code = 0):F ij [.ptr [.t (.i w),.t (.b false),.t (.i now),.t (.i 0),.t (.i 0),.t (.i 0),.own [false] (safe.map ai),.own [false] [],.own [false] [],.own dU [],.own bJ [],.own bK []],.val (cV p)] (.tup []) [cellsOf (aF (cU (eB w now safe) p)),[]]:=by
 obtain⟨hck,hl,_,_⟩:=cC hc
 obtain⟨he1,he2⟩:=fr hc
 have hpl:=(bU hck).1
 have cr:=qN p safe hp hs OM
 by_cases hl2:safe.length < 310
 ·by_cases he:(aw p safe).epoch < 300
  ·rw[CT ⟨rfl,hl2,he⟩]
   have cf:=my 1 ((aw p safe).epoch+1) 0 emp (by decide)
   rw[Oi]at cf
   rw[J5]
   refine fL ?_
   conv=>whnf
   refine g 0 0 []<|J US<|Ws<|g 5 17 (RL 8 BF [])<|J QZ<|Wc<|J (fun h1=>?_) fun h1=>?_
   replace h1:=dt h1
   simp only[LM]at h1
   omega
   replace h1:=df h1
   simp only[LM]at h1
   refine Wk<|gd 17 25 [[],[],[],[],[],[],[.call (gK (aw p safe)) [[],[]]],[],[]] ?_
   conv=>whnf
   refine J QZ<|J KR<|Ws<|g 25 27 []<|J UC<|Wc<|J (noT dO) fun _=>Wk<|gd 4 42 [[],[],[],[],[],[.i (Story.epoch (aw p safe) +1)],[],[],[],[],[],[],[],[],[],[],[]] ?_
   conv=>whnf
   refine J QZ<|J KR<|gd 42 59 [[],[],[],[],[],[],[],[],[],[],[],[.call (V.s (bT {kind:=1,epoch:=Story.epoch (aw p safe) +1,task:=0,text:=emp:Entry})) [[]]],[],[],[],[],[],[]] ?_
   conv=>whnf
   refine J QZ<|J KR<|rgd [[],[],[],[],[],[.n (List.length (List.map ay p.tasks))],[],[],[],[],[.n (Int.toNat w)],[],[],[],[],[],[]] ?_
   conv=>whnf
   refine J QZ<|J KR<|EndsW.nm<|J I<|J ?_ ?_
   rfl
   simp only[List.length_map,W5,SC]
   rfl
  ·rw[oc (fun q=>he q.2.2)]
   refine fL ?_
   conv=>whnf
   refine g 0 0 []<|J US<|Ws<|g 5 17 (RL 8 BF [])<|J QZ<|Wc<|J (fun h1=>?_) fun h1=>?_
   replace h1:=dt h1
   simp only[LM]at h1
   omega
   replace h1:=df h1
   simp only[LM]at h1
   refine Wk<|gd 17 25 [[],[],[],[],[],[],[.call (gK (aw p safe)) [[],[]]],[],[]] ?_
   conv=>whnf
   refine J QZ<|J KR<|Ws<|g 25 27 []<|J UC<|Wc<|J (fun _=>(RT ?_)) (noF tO)
   rfl
 ·rw[oc (fun q=>hl2 q.2.1)]
  refine fL ?_
  conv=>whnf
  refine g 0 0 []<|J US<|Ws<|g 5 17 (RL 8 BF [])<|J QZ<|Wc<|J (fun h1=>?_) fun h1=>?_
  replace h1:=dt h1
  simp only[LM]at h1
  refine RT ?_
  rfl
  replace h1:=df h1
  simp only[LM]at h1
  omega
theorem wq(b:Boss)(p:Plan)(hp:dy p)(hw:1≤b.workers∧b.workers≤8)(hs:∀ s∈b.log.safe,s.size≤281474976710656)(hd:b.up = false→DownOk b∧(aw p b.log.safe).code = 0):F ij [.ptr (cellsOf (aF b)),.val (cV p)] (.tup []) [cellsOf (aF (cU b p)),[]]:=by
 by_cases hup:b.up = false
 ·obtain⟨d,hc⟩:=hd hup
  have e:=Ph hup d
  have:F ij [.ptr (cellsOf (aF (eB b.workers b.now b.log.safe))),.val (cV p)] (.tup []) [cellsOf (aF (cU (eB b.workers b.now b.log.safe) p)),[]]:=JM b.workers b.now b.log.safe p hp hw hs hc
  rw[←e]at this
  exact this
 ·rw[oc (fun q=>hup q.1)]
  refine fL ?_
  conv=>whnf
  refine g 0 0 []<|J US<|Ws<|g 5 17 (RL 8 BT [])<|J QZ<|Wc<|J (fun _=>(RT ?_)) (noF rfl)
  rfl
theorem qM(w now:Int)(safe:List ByteArray)(p:Plan)(hp:dy p)(hw:1≤w∧w≤8)(hs:∀ s∈safe,s.size≤281474976710656)(hc:(aw p safe).code = 0):F ls [.val (.agg [.t (.i w),.t (.b false),.t (.i now),.t (.i 0),.t (.i 0),.t (.i 0),.t (.slc [false] (safe.map ai)),.t (.slc [false] []),.t (.slc [false] []),.t (.slc dU []),.t (.slc bJ []),.t (.slc bK [])]),.val (cV p)] (aF (cU (eB w now safe) p)) [[],[]]:=by
 obtain⟨hck,hl,_,_⟩:=cC hc
 obtain⟨he1,he2⟩:=fr hc
 have hpl:=(bU hck).1
 have cr:=iU p safe hp hs OM
 have cc:=qI (eB w now safe) (by show safe.length≤1048576;omega) (Nat.zero_le _) (Nat.zero_le _) (Nat.zero_le _) (Nat.zero_le _) (Nat.zero_le _)
 by_cases hl2:safe.length < 310
 ·by_cases he:(aw p safe).epoch < 300
  ·rw[CT ⟨rfl,hl2,he⟩]
   have cf:=dk 1 ((aw p safe).epoch+1) 0 emp (by decide)
   refine iK ?_
   conv=>whnf
   refine g 0 0 []<|J QZ<|g 10 14 [.call (gK (aw p safe)) [[],[]]]<|J QZ<|Ws ?_
   by_cases h1:(310:Int)≤(↑(List.length (List.map ai safe)):Int)
   simp only[LM]at h1
   omega
   simp only[LM]at h1
   refine g 9 27 (RL 10 BF [])<|J QZ<|Wc<|J (noT dO) fun _=>Wk<|g 27 40 [.i (Story.epoch (aw p safe) +1)]<|J QZ<|gd 41 53 [[],[],[],[],[],[],[],[],[.call (V.s (bT {kind:=1,epoch:=Story.epoch (aw p safe) +1,task:=0,text:=emp:Entry})) [[]]],[],[],[],[],[]] ?_
   conv=>whnf
   refine J QZ<|J KR<|Ws<|g 1 2 []<|J UA<|Wb<|Wl (fun s (n:Nat)=>⟨(SK s [0,2,3,4,6] [(7,.i n),(40,s.s 40)]),[(2,(CK s 2 0 12 [])),(3,[s.c 3 0]),(4,(CK s 4 0 12 [])),(40,[s.c 40 0]),(6,[.t (.i w),.t (.b true),.t (.i now),.t (.i 0),.t (.i ((aw p safe).epoch+1)),.t (.i 0),.own [false] (safe.map ai++ [ai (bT ⟨1,(aw p safe).epoch+1,0,emp⟩)]),.own [false] [],.own [false] ((aw p safe).results.map ai),.own dU ((List.replicate n fm).map aI),.own bJ ((List.replicate 0 iE).map aE),.own bK []])],[]⟩) (fun(n:Nat)=>n≤p.tasks.length) (fun(n:Nat)=>p.tasks.length - n) (0) [some 2,some 3,some 4,some 40,some 6] [] ⟨rfl,FZ,⟨FZ,⟨FZ,⟨FZ,⟨⟨rfl,UA⟩,FZ⟩⟩⟩⟩,I⟩ OM ?_
   intro n hn
   conv=>whnf
   refine Ws<|g 53 57 []<|J UE<|Wc<|JD (fun h2=>?_) fun h2=>?_
   simp only[LM]at h2
   refine Wk<|Ws<|Wb<|rg []<|J QZ<|rg [.i ((n:Int) +1)]<|J QZ ?_
   rotate_left
   simp only[LM]at h2
   refine We<|Ws<|g 3 4 []<|J UA<|Wb ?_
   rotate_left
   ·refine⟨n+1,[some 2,some 3,some 4,some 40,some 6],[],⟨rfl,FZ,⟨FZ,⟨FZ,⟨FZ,⟨⟨rfl,UA⟩,⟨⟨rfl,⟨rfl,⟨rfl,⟨rfl,⟨rfl,⟨rfl,⟨rfl,⟨rfl,⟨rfl,⟨rfl,⟨(congrArg (V.own _) (PI n)),FZ⟩⟩⟩⟩⟩⟩⟩⟩⟩⟩⟩,I⟩⟩⟩⟩⟩,I⟩,?_,?_⟩
    rotate_left
    (dsimp only;omega)
    dsimp only
    omega
   obtain rfl:n = p.tasks.length:=by omega
   refine Wl (fun s (n:Nat)=>⟨(SK s [0,2,4,6] [(8,.i n),(40,s.s 40)]),[(2,(CK s 2 0 12 [])),(4,(CK s 4 0 12 [])),(40,[s.c 40 0]),(6,[.t (.i w),.t (.b true),.t (.i now),.t (.i 0),.t (.i ((aw p safe).epoch+1)),.t (.i 0),.own [false] (safe.map ai++ [ai (bT ⟨1,(aw p safe).epoch+1,0,emp⟩)]),.own [false] [],.own [false] ((aw p safe).results.map ai),.own dU ((List.replicate p.tasks.length fm).map aI),.own bJ ((List.replicate n iE).map aE),.own bK []])],[]⟩) (fun(n:Nat)=>n≤w.toNat) (fun(n:Nat)=>w.toNat - n) (0) [some 2,some 4,some 40,some 6] [] ⟨rfl,FZ,⟨FZ,⟨FZ,⟨⟨rfl,UA⟩,FZ⟩⟩⟩,I⟩ OM ?_
   intro n hn
   conv=>whnf
   refine Ws<|g 66 69 []<|J UD<|Wc<|JD (fun h3=>?_) fun h3=>?_
   refine Wk<|Ws<|Wb<|rg []<|J QZ<|rg [.i ((n:Int) +1)]<|J QZ ?_
   rotate_left
   refine We<|g 0 3 []<|J QZ<|RT ?_
   rotate_left
   ·refine⟨n+1,[some 2,some 4,some 40,some 6],[],⟨rfl,FZ,⟨FZ,⟨FZ,⟨⟨rfl,UA⟩,⟨⟨rfl,⟨rfl,⟨rfl,⟨rfl,⟨rfl,⟨rfl,⟨rfl,⟨rfl,⟨rfl,⟨rfl,⟨rfl,⟨(congrArg (V.own _) (PH n)),Zaq⟩⟩⟩⟩⟩⟩⟩⟩⟩⟩⟩⟩,I⟩⟩⟩⟩,I⟩,?_,?_⟩
    rotate_left
    (dsimp only;omega)
    dsimp only
    omega
   obtain rfl:n = w.toNat:=by omega
   exact(J5 w now safe p (aw p safe)).symm
  ·rw[oc (fun q=>he q.2.2)]
   refine iK ?_
   conv=>whnf
   refine g 0 0 []<|J QZ<|g 10 14 [.call (gK (aw p safe)) [[],[]]]<|J QZ<|Ws ?_
   by_cases h1:(310:Int)≤(↑(List.length (List.map ai safe)):Int)
   simp only[LM]at h1
   omega
   simp only[LM]at h1
   refine g 9 27 (RL 10 BF [])<|J QZ<|Wc<|J (fun _=>(g 27 30 [.call (aF (eB w now safe)) [[]]]<|J QZ (RT ?_))) (noF tO)
   rfl
 ·rw[oc (fun q=>hl2 q.2.1)]
  refine iK ?_
  conv=>whnf
  refine g 0 0 []<|J QZ<|g 10 14 [.call (gK (aw p safe)) [[],[]]]<|J QZ<|Ws ?_
  by_cases h1:(310:Int)≤(↑(List.length (List.map ai safe)):Int)
  simp only[LM]at h1
  refine g 9 27 (RL 6 BF [BT,BT,BT,BT])<|J QZ<|Wc<|J (fun _=>(g 27 30 [.call (aF (eB w now safe)) [[]]]<|J QZ (RT ?_))) (noF rfl)
  rfl
  simp only[LM]at h1
  omega
theorem Eo(b:Boss)(p:Plan)(hp:dy p)(h:BossLim b)(hw:1≤b.workers∧b.workers≤8)(hc:am p.tasks = 0)(hd:b.up = false→DownOk b∧(aw p b.log.safe).code = 0):F ls [.val (fT b),.val (cV p)] (aF (cU b p)) [[],[]]:=by
 by_cases hup:b.up = false
 ·obtain⟨d,hc2⟩:=hd hup
  have e:=Ph hup d
  have:F ls [.val (fT (eB b.workers b.now b.log.safe)),.val (cV p)] (aF (cU (eB b.workers b.now b.log.safe) p)) [[],[]]:=qM b.workers b.now b.log.safe p hp hw (fun s hs=>h.all s (List.mem_append_left _ hs)) hc2
  rw[←e]at this
  exact this
 ·rw[oc (fun q=>hup q.1)]
  have ct:=qD b h
  have hss:∀ s∈b.log.safe,s.size≤281474976710656:=fun s hs=>h.all s (List.mem_append_left _ hs)
  have hs1:=h.safe
  have cr:=iU p b.log.safe hp hss OM
  refine iK ?_
  conv=>whnf
  refine g 0 0 []<|J QZ<|g 10 14 [.call (gK (aw p b.log.safe)) [[],[]]]<|J QZ<|Ws<|g 9 27 (RL 10 BT [])<|J QZ<|Wc<|J (fun _=>(g 27 30 [.call (aF b) [[]]]<|J QZ (RT ?_))) (noF rfl)
  rfl
noncomputable def jR(b:Boss)(p:Plan):Boss:=if BossOk b p then cU b p else iG
theorem nk{b:Boss}{p:Plan}(h:BossOk b p):jR b p = cU b p:=if_pos h
theorem Tq{b:Boss}{p:Plan}(h:¬BossOk b p):jR b p = iG:=if_neg h
theorem Bu{b:Boss}{p:Plan}(h:BossOk b p):b.up = false→DownOk b∧(aw p b.log.safe).code = 0:=by
 intro hup
 have d:=h.down hup
 have hc:=h.code
 have e:=List.eq_nil_of_length_eq_zero d.loose
 rw[cx,e,List.append_nil]at hc
 exact⟨d,hc⟩
theorem ji(b:Boss)(p:Plan)(hp:dy p)(h:BossLim b):F jf [.val (fT b),.val (cV p)] (aF (jR b p)) [[],[]]:=by
 have cv:=po b p hp h
 by_cases hv:BossOk b p
 ·rw[decide_eq_true hv]at cv
  rw[nk hv]
  have cf:=Eo b p hp h hv.workers hv.plan (Bu hv)
  refine nI ?_
  conv=>whnf
  refine g 0 2 []<|J QZ<|Ws<|g 5 8 [.call VT [[],[]]]<|J QZ<|Wc<|J (noT rfl) fun _=>Wk<|g 8 13 [.call (aF (cU b p)) [[],[]]]<|J QZ<|RT ?_
  rfl
 ·rw[decide_eq_false hv]at cv
  rw[Tq hv]
  refine nI ?_
  conv=>whnf
  refine g 0 2 []<|J QZ<|Ws<|g 5 8 [.call VF [[],[]]]<|J QZ<|Wc<|J (fun _=>(g 8 10 []<|J QZ (RT ?_))) (noF rfl)
  rfl
end Go.K
end
section
open Go Go.Tm Go.Proofs
namespace Go.K
structure BossSmall (b:Boss):Prop where
 safe:b.log.safe.length≤4194304
 loose:b.log.loose.length≤4194304
 res:b.results.length≤4194304
 jobs:b.jobs.length≤4194304
 seats:b.seats.length≤4194304
 owed:b.owed.length≤4194304
theorem ub:BossSmall iG:=⟨by decide,by decide,by decide,by decide,by decide,by decide⟩
theorem wH{b:Boss}(h:BossLim b):BossSmall b:=by
 obtain⟨h1,h2,h3,h4,h5,h6,h7⟩:=h
 exact⟨by omega,by omega,by omega,by omega,by omega,by omega⟩
end Go.K
end
section
open Go Go.Tm Go.Proofs
namespace Go.K
structure Led where
 boss:Boss
 out:List Message
 deriving DecidableEq
abbrev N3(x:Led):V:=.agg [.t (.i x.boss.workers),.t (.b x.boss.up),.t (.i x.boss.now),.t (.i x.boss.since),.t (.i x.boss.epoch),.t (.i x.boss.given),.own [false] (x.boss.log.safe.map ai),.own [false] (x.boss.log.loose.map ai),.own [false] (x.boss.results.map ai),.own dU (x.boss.jobs.map aI),.own bJ (x.boss.seats.map aE),.own bK (x.boss.owed.map aJ),.own cS (x.out.map aL)]
abbrev Il:Led:=⟨⟨0,false,0,0,0,0,⟨[],[]⟩,[],[],[],[]⟩,[]⟩
end Go.K
end
section
open Go Go.Tm Go.Proofs
namespace Go.K
def gB{α:Type}(f:α→α)(l:List α)(n:Nat):List α:=(l.take n).map f++l.drop n
theorem ju{α:Type}(f:α→α)(l:List α)(n:Nat):(gB f l n).length = l.length:=by simp[gB];omega
theorem jv{α:Type}(f:α→α)(l:List α){n:Nat}(h:l.length≤n):gB f l n = l.map f:=by
 rw[gB,List.take_of_length_le h,List.drop_of_length_le h,List.append_nil]
theorem KJ{α:Type}(f:α→α){l:List α}{n:Nat}{x:α}(h:l[n]? = some x):(gB f l n)[n]? = some x:=by
 have hl:n < l.length:=(List.getElem?_eq_some_iff.1 h).1
 rw[gB,List.getElem?_append_right (by simp;omega)]
 simp only[List.length_map,List.length_take,List.getElem?_drop]
 rw[show n+ (n - min n l.length) = n by omega,h]
theorem KI{α:Type}{f:α→α}{l:List α}{n:Nat}{x:α}(h:l[n]? = some x):(gB f l n).set n (f x) = gB f l (n+1):=by
 obtain⟨hl,hx⟩:=List.getElem?_eq_some_iff.1 h
 unfold gB
 rw[List.drop_eq_getElem_cons hl,hx,List.set_append_right _ _ (by simp;omega),List.take_add_one,h]
 simp only[List.length_map,List.length_take,Option.toList_some,List.map_append,List.map_cons,List.map_nil,List.append_assoc,List.cons_append,List.nil_append]
 rw[show n - min n l.length = 0 by omega,List.set_cons_zero]
theorem mM{α β:Type}{f:α→α}{g:α→β}{l:List α}{n:Nat}{x:α}(h:l[n]? = some x):((gB f l n).map g).set n (g (f x)) = (gB f l (n+1)).map g:=by
 rw[←List.map_set,KI h]
theorem bw{α β:Type}{f:α→α}{g:α→β}{l:List α}{n:Nat}{x:α}(h:l[n]? = some x):((gB f l n).map g)[n]? = some (g x):=by
 rw[List.getElem?_map,KJ f h];rfl
theorem pL{α:Type}{f:α→α}{l:List α}{n:Nat}{x:α}(h:l[n]? = some x)(e:f x = x):gB f l n = gB f l (n+1):=by
 rw[←KI h,e]
 obtain⟨hl,hx⟩:=List.getElem?_eq_some_iff.1 (KJ f h)
 have:=List.set_getElem_self hl
 rw[hx]at this;exact this.symm
structure Hand where
 given:Int
 jobs:List Job
 seats:List Seat
 out:List Message
def su(now:Int)(j:Job):Job:=if j.til≤now then fm else j
def Mr(js:List Job)(i:Nat):Job:=(js[i]?).getD fm
def m7(ss:List Seat)(i:Nat):Seat:=(ss[i]?).getD iE
def lG(ss:List Seat):Option Nat:=ss.findIdx? Seat.free
def Nf(b:Boss)(ts:List Task)(s i:Nat)(g:Int):Message:=⟨1,0,(s:Int) +1,b.epoch,(b.epoch - 1) * 1000000+g,i,emp,eb b.results (ov ts i)⟩
structure CanHand (b:Boss) (ts:List Task) (h:Hand) (i:Nat):Prop where
 res:atS b.results i = emp
 job:(Mr h.jobs i).lease = 0
 ready:de b.results (ov ts i)
 given:h.given < 1000000
noncomputable instance (b:Boss) (ts:List Task) (h:Hand) (i:Nat):Decidable (CanHand b ts h i):=Classical.propDecidable _
def lF(b:Boss)(ts:List Task)(h:Hand)(i s:Nat):Hand:=⟨h.given+1,h.jobs.set i ⟨(b.epoch - 1) * 1000000+ (h.given+1),(s:Int) +1,b.now+12⟩,h.seats.set s ⟨false,(m7 h.seats s).epoch⟩,h.out++ [Nf b ts s i (h.given+1)]⟩
noncomputable def V2(b:Boss)(ts:List Task)(i:Nat)(h:Hand):Hand :=
 if CanHand b ts h i then(match lG h.seats with|none=>h|some s=>lF b ts h i s)else h
noncomputable def aK(b:Boss)(ts:List Task):Nat→Hand
 |0=>⟨b.given,b.jobs,b.seats,[]⟩
 |n+1=>V2 b ts n (aK b ts n)
theorem jy{b:Boss}{ts:List Task}{n:Nat}(h:¬CanHand b ts (aK b ts n) n):aK b ts (n+1) = aK b ts n:=if_neg h
theorem pQ{b:Boss}{ts:List Task}{n:Nat}(h:lG (aK b ts n).seats = none):aK b ts (n+1) = aK b ts n:=by
 rw[aK,V2,h];simp
theorem pP{b:Boss}{ts:List Task}{n s:Nat}(h:CanHand b ts (aK b ts n) n)(hf:lG (aK b ts n).seats = some s):aK b ts (n+1) = lF b ts (aK b ts n) n s:=by
 rw[aK,V2,if_pos h,hf]
theorem pR{ss:List Seat}{s:Nat}(h:lG ss = some s):∃ x,ss[s]? = some x∧x.free = true∧s < ss.length∧∀ (k:Nat) (y:Seat),k < s→ss[k]? = some y→y.free = false:=by
 obtain⟨h1,h2,h3⟩:=List.findIdx?_eq_some_iff_getElem.1 h
 refine⟨ss[s],List.getElem?_eq_getElem h1,h2,h1,fun k y hk hy=>?_⟩
 obtain⟨h4,h5⟩:=List.getElem?_eq_some_iff.1 hy
 have:=h3 k hk
 rw[h5]at this
 cases hb:y.free
 ·rfl
 ·exact absurd hb this
theorem FT{ss:List Seat}(h:lG ss = none):∀ (k:Nat) (y:Seat),ss[k]? = some y→y.free = false:=by
 intro k y hy
 have:=List.findIdx?_eq_none_iff.1 h y (List.mem_of_getElem? hy)
 exact this
structure HandOk (b:Boss) (ts:List Task) (h:Hand) (n:Nat):Prop where
 jobs:h.jobs.length = b.jobs.length
 seats:h.seats.length = b.seats.length
 out:h.out.length≤n
 lo:0≤h.given
 hi:h.given≤1000000
 inputs:∀ m∈h.out,m.inputs.length≤8
theorem mn{b:Boss}{ts:List Task}(hd:∀ t∈ts,t.deps.length≤8)(h0:0≤b.given)(h1:b.given≤1000000):∀ n,HandOk b ts (aK b ts n) n
 |0=>⟨rfl,rfl,Nat.le_refl _,h0,h1,fun m hm=>by cases hm⟩
 |n+1=>by
  have ih:=mn hd h0 h1 n
  have up:HandOk b ts (aK b ts n) (n+1):=⟨ih.jobs,ih.seats,by have:=ih.out;omega,ih.lo,ih.hi,ih.inputs⟩
  by_cases hc:CanHand b ts (aK b ts n) n
  ·cases hf:lG (aK b ts n).seats with
   |none=>rw[pQ hf];exact up
   |some s =>
    rw[pP hc hf]
    have e1:=ih.jobs
    have e2:=ih.seats
    have e3:=ih.out
    have e4:=ih.lo
    have e5:=hc.given
    refine⟨by simp only[lF,List.length_set];exact e1,by simp only[lF,List.length_set];exact e2,by simp only[lF,List.length_append,List.length_singleton];omega,by simp only[lF];omega,by simp only[lF];omega,fun m hm=>?_⟩
    rcases List.mem_append.1 hm with hm|hm
    ·exact ih.inputs m hm
    ·rw[List.mem_singleton.1 hm]
     show(eb _ _).length≤8
     rw[mK,ov]
     cases ht:ts[n]? with
     |none=>exact Nat.zero_le _
     |some t=>exact hd t (List.mem_of_getElem? ht)
  ·rw[jy hc];exact up
def ZV(b:Boss):Boss:=⟨b.workers,b.up,b.now+1,b.since,b.epoch,b.given,b.log,b.results,b.jobs,b.seats,b.owed⟩
def dG(b:Boss):Boss:=⟨b.workers,b.up,b.now+1,b.since,b.epoch,b.given,b.log,b.results,b.jobs.map (su (b.now+1)),b.seats,b.owed⟩
def nY(ep:Int)(o:Owed):Message:=⟨4,0,o.worker,ep,o.lease,0,emp,[]⟩
noncomputable def endH(b:Boss)(ts:List Task):Hand:=aK (dG b) ts ts.length
noncomputable def iw(b:Boss)(ts:List Task):Led :=
 if b.now = 1000000 then⟨b,[]⟩else
 if b.up = false then⟨ZV b,[]⟩else
 if b.since+1 = 2 then⟨⟨b.workers,b.up,b.now+1,0,b.epoch,(endH b ts).given,⟨b.log.safe++b.log.loose,[]⟩,b.results,(endH b ts).jobs,(endH b ts).seats,[]⟩,(endH b ts).out++b.owed.map (nY b.epoch)⟩
 else⟨⟨b.workers,b.up,b.now+1,b.since+1,b.epoch,(endH b ts).given,b.log,b.results,(endH b ts).jobs,(endH b ts).seats,b.owed⟩,(endH b ts).out⟩
theorem tY{b:Boss}{ts:List Task}(h:b.now = 1000000):iw b ts = ⟨b,[]⟩:=if_pos h
theorem A5{b:Boss}{ts:List Task}(h:¬b.now = 1000000)(h2:b.up = false):iw b ts = ⟨ZV b,[]⟩:=by rw[iw,if_neg h,if_pos h2]
theorem nx{b:Boss}{ts:List Task}(h:¬b.now = 1000000)(h2:¬b.up = false)(h3:b.since+1 = 2):iw b ts = ⟨⟨b.workers,b.up,b.now+1,0,b.epoch,(endH b ts).given,⟨b.log.safe++b.log.loose,[]⟩,b.results,(endH b ts).jobs,(endH b ts).seats,[]⟩,(endH b ts).out++b.owed.map (nY b.epoch)⟩:=by rw[iw,if_neg h,if_neg h2,if_pos h3]
theorem pz{b:Boss}{ts:List Task}(h:¬b.now = 1000000)(h2:¬b.up = false)(h3:¬b.since+1 = 2):iw b ts = ⟨⟨b.workers,b.up,b.now+1,b.since+1,b.epoch,(endH b ts).given,b.log,b.results,(endH b ts).jobs,(endH b ts).seats,b.owed⟩,(endH b ts).out⟩:=by rw[iw,if_neg h,if_neg h2,if_neg h3]
noncomputable def pW(b:Boss)(p:Plan):Led:=if BossOk b p then iw b p.tasks else Il
theorem pq{b:Boss}{p:Plan}(h:BossOk b p):pW b p = iw b p.tasks:=if_pos h
theorem CD{b:Boss}{p:Plan}(h:¬BossOk b p):pW b p = Il:=if_neg h
end Go.K
end
section
open Go Go.Tm Go.Proofs
namespace Go.K
theorem Pf{now:Int}{js:List Job}{n:Nat}{j:Job}(h:js[n]? = some j)(hd:j.til≤now):((gB (su now) js n).map aI).set n (aI fm) = (gB (su now) js (n+1)).map aI:=by
 have:=mM (f:=su now) (g:=aI) h
 rw[show su now j = fm from if_pos hd]at this
 exact this
theorem VG{now:Int}{js:List Job}{n:Nat}{j:Job}(h:js[n]? = some j)(hd:¬j.til≤now):gB (su now) js n = gB (su now) js (n+1):=pL h (if_neg hd)
theorem xa{out:List Message}{ep:Int}{os:List Owed}{n:Nat}{o:Owed}(h:os[n]? = some o):(out++ (os.take n).map (nY ep)).map aL++ [aL (nY ep o)] = (out++ (os.take (n+1)).map (nY ep)).map aL:=by
 rw[List.take_add_one,h];simp
theorem wn(b:Boss)(p:Plan)(hv:BossOk b p)(h:BossLim b):F vn [.ptr (cellsOf (aF b)),.val (cV p)] (.own cS ((iw b p.tasks).out.map aL)) [cellsOf (aF (iw b p.tasks).boss),[]]:=by
 have hnow:=hv.now
 by_cases h0:b.now = 1000000
 ·rw[tY h0]
  refine im ?_
  conv=>whnf
  refine g 0 0 []<|J QZ<|Ws<|g 12 16 []<|J UE<|Wc<|J (fun _=>(g 16 17 []<|J UA (RT ?_))) (noF tO)
  rfl
 ·by_cases hup:b.up = false
  ·rw[A5 h0 hup]
   refine im ?_
   conv=>whnf
   refine g 0 0 []<|J QZ<|Ws<|g 12 16 []<|J UE<|Wc<|J (noT dO) fun _=>Wk<|g 20 24 [.i (b.now+1)]<|J QZ<|Ws<|g 24 28 []<|J UE<|Wc<|J (fun _=>(g 16 19 []<|J UA (RT ?_))) (noF (nbT AS))
   rfl
  ·have hup2:b.up = true:=by cases hb:b.up;exact absurd hb hup;rfl
   obtain⟨u1,u2,u3,u4,u5,u6,⟨u7,u8⟩,⟨u9,u10⟩,u11,u12,u13,u14⟩:=hv.up hup2
   have hck:=hv.plan
   have hpl:=(bU hck).1
   have hwk:=hv.workers
   obtain⟨he1,he2⟩:=fr hv.code
   change 0≤(cx b p).epoch at he1
   change (cx b p).epoch≤300 at he2
   have l1:=h.safe
   have l2:=h.loose
   refine im ?_
   conv=>whnf
   refine g 0 0 []<|J QZ<|Ws<|g 12 16 []<|J UE<|Wc<|J (noT dO) fun _=>Wk<|g 20 24 [.i (b.now+1)]<|J QZ<|Ws<|g 24 28 []<|J UE<|Wc<|J (noT (nbF AS)) fun _=>Wk<|g 16 19 []<|J UA<|Ws ?_
   refine g 30 33 []<|J UF<|Wb<|Wl (fun s (n:Nat)=>⟨(SK s [0,1,3,4,5,19,29,33] [(34,.i n)]),[(3,[s.c 3 0]),(246,[.t (.i b.workers),.t (.b b.up),.t (.i (b.now+1)),.t (.i b.since),.t (.i b.epoch),.t (.i b.given),.own [false] (b.log.safe.map ai),.own [false] (b.log.loose.map ai),.own [false] (b.results.map ai),.own dU ((gB (su (b.now+1)) b.jobs n).map aI),.own bJ (b.seats.map aE),.own bK (b.owed.map aJ)])],[]⟩) (fun(n:Nat)=>n≤b.jobs.length) (fun(n:Nat)=>b.jobs.length - n) (0) [some 3,some 246] [] FZ OM ?_
   intro n hn
   have hx:=ju (su (b.now+1)) b.jobs n
   by_cases hj:n < b.jobs.length
   ·obtain⟨j,hj1⟩:=ae hj
    by_cases hd:j.til≤b.now+1
    ·have e1:=Pf hj1 hd
     conv=>whnf
     refine g 0 0 []<|J UA<|Ws<|Wc<|J (fun _=>(Wk (Ws (Wb (g 35 37 []<|J UB (gd 37 49 [[],[],[],[],[],[.n (n)],[],[.x (aI j)],[],[],[],[],[]] ?_)))))) (noF (by simp_all))
     conv=>whnf
     refine⟨⟨I,I,I,I,I,Zan,I,bw AS,I,I,I,I,I,I⟩,by kernel_rfl,?_⟩
     refine Wc<|J (fun _=>(rg [.n (n),.x (aI j)]<|J (QA @bw) (rg [.i ((n:Int) +1)]<|J QZ ?_))) (noF tO)
     refine⟨n+1,[some 3,some 246],[],⟨rfl,FZ,⟨FZ,⟨⟨rfl,⟨rfl,⟨rfl,⟨rfl,⟨rfl,⟨rfl,⟨rfl,⟨rfl,⟨rfl,⟨rfl,⟨(congrArg (V.own _) (e1)),FZ⟩⟩⟩⟩⟩⟩⟩⟩⟩⟩⟩,I⟩⟩,I⟩,?_,?_⟩
     rotate_left
     (dsimp only;omega)
     dsimp only
     omega
    ·have e1:=VG hj1 hd
     conv=>whnf
     refine g 0 0 []<|J UA<|Ws<|Wc<|J (fun _=>(Wk (Ws (Wb (g 35 37 []<|J UB (gd 37 49 [[],[],[],[],[],[.n (n)],[],[.x (aI j)],[],[],[],[],[]] ?_)))))) (noF (by simp_all))
     conv=>whnf
     refine⟨⟨I,I,I,I,I,Zan,I,bw AS,I,I,I,I,I,I⟩,by kernel_rfl,?_⟩
     refine Wc<|J (noT dO) fun _=>Wk<|rg [.i ((n:Int) +1)]<|J QZ ?_
     refine⟨n+1,[some 3,some 246],[],⟨rfl,FZ,⟨FZ,⟨⟨rfl,⟨rfl,⟨rfl,⟨rfl,⟨rfl,⟨rfl,⟨rfl,⟨rfl,⟨rfl,⟨rfl,⟨(congrArg (V.own _) (by rw[←e1])),FZ⟩⟩⟩⟩⟩⟩⟩⟩⟩⟩⟩,I⟩⟩,I⟩,?_,?_⟩
     rotate_left
     (dsimp only;omega)
     dsimp only
     omega
   have e0:=jv (su (b.now+1)) b.jobs (n:=n) OM
   conv=>whnf
   refine g 0 0 []<|J UA<|Ws<|Wc<|J (noT (by simp_all)) fun _=>We<|Ws<|g 33 59 []<|J UD<|Wb ?_
   have hdl:∀ t∈p.tasks,t.deps.length≤8:=fun t ht=>by
    obtain⟨k,hk⟩:=List.getElem?_of_mem ht
    exact(cq hck hk).2.2.1
   refine Wl (fun s (m:Nat)=>⟨(SK s [0,1,3,4] ((5,.ref ⟨5,none,0⟩)::(SK s [19,29,59,60] [(61,.i m)]))),[(3,[s.c 3 0]),(5,[.own cS ((aK (dG b) p.tasks m).out.map aL)]),(246,[.t (.i b.workers),.t (.b b.up),.t (.i (b.now+1)),.t (.i b.since),.t (.i b.epoch),.t (.i (aK (dG b) p.tasks m).given),.own [false] (b.log.safe.map ai),.own [false] (b.log.loose.map ai),.own [false] (b.results.map ai),.own dU ((aK (dG b) p.tasks m).jobs.map aI),.own bJ ((aK (dG b) p.tasks m).seats.map aE),.own bK (b.owed.map aJ)])],[]⟩) (fun(m:Nat)=>m≤p.tasks.length) (fun(m:Nat)=>p.tasks.length - m) (0) [some 3,none,some 246] [] ⟨rfl,FZ,⟨FZ,⟨I,⟨⟨rfl,⟨rfl,⟨rfl,⟨rfl,⟨rfl,⟨rfl,⟨rfl,⟨rfl,⟨rfl,⟨rfl,⟨(congrArg (V.own _) (by rw[e0];rfl)),FZ⟩⟩⟩⟩⟩⟩⟩⟩⟩⟩⟩,I⟩⟩⟩,I⟩ OM ?_
   intro m hm
   obtain⟨k1,k2,k3,k4,k5,k6⟩:=mn (b:=dG b) (ts:=p.tasks) hdl u9 u10 m
   have k7:(dG b).jobs.length = b.jobs.length:=by show(b.jobs.map _).length = _;rw[List.length_map]
   rw[k7]at k1
   change (aK (dG b) p.tasks m).seats.length = b.seats.length at k2
   by_cases hm2:m < p.tasks.length
   ·obtain⟨t,ht0⟩:=ae hm2
    obtain⟨y,hy0⟩:=ae (xs:=b.results) (n:=m) OM
    obtain⟨j,hj0⟩:=ae (xs:=(aK (dG b) p.tasks m).jobs) (n:=m) OM
    obtain⟨_,_,a3,a4⟩:=cq hck ht0
    have crd:=jP b.results t.deps (fun d hd=>by have:=a4 d hd;omega) OM
    have cpk:=xP b.results t.deps (fun d hd=>by have:=a4 d hd;omega) OM
    have q1:∀ q:CanHand (dG b) p.tasks (aK (dG b) p.tasks m) m,y = emp:=fun q=>by have:=q.res;rw[show(dG b).results = b.results from rfl,ky hy0]at this;exact this
    have q2:∀ q:CanHand (dG b) p.tasks (aK (dG b) p.tasks m) m,j.lease = 0:=fun q=>by have:=q.job;rw[Mr,hj0]at this;exact this
    have q3:∀ q:CanHand (dG b) p.tasks (aK (dG b) p.tasks m) m,de b.results t.deps:=fun q=>by have:=q.ready;rw[eu ht0]at this;exact this
    by_cases hA:y = emp
    ·by_cases hB:j.lease = 0
     ·by_cases hF:de b.results t.deps
      ·rw[decide_eq_true hF]at crd
       by_cases hG:(aK (dG b) p.tasks m).given < 1000000
       ·have hc:CanHand (dG b) p.tasks (aK (dG b) p.tasks m) m:=⟨by rw[show(dG b).results = b.results from rfl,ky hy0];exact hA,by rw[Mr,hj0];exact hB,by rw[eu ht0];exact hF,hG⟩
        conv=>whnf
        refine g 0 0 []<|J UA<|Ws<|Wc<|J (fun _=>(Wk (Ws (Wb (g 62 66 [.x (ay t)]<|J QZ (Ws (gd 72 101 [[],[],[],[],[],[.n (m)],[.x (ai y)],[],[],[BF],[BF],[BF],[BF],[BF],[BF,.n (m)],[BF],[BF,.x (aI j)],[BF],[BF],[],[BF],[BF],[BF],[BF],[BF],[BF],[BF,.call VT [[],[]]],[BF],[BF],[],[BF],[BF],[BF],[BF],[BF],[BF]] ?_))))))) (noF SI)
        conv=>whnf
        refine⟨Zac,by kernel_rfl,?_⟩
        refine Wc<|J (noT dO) fun _=>Wk<|g 66 71 []<|J UF<|Wb ?_
        cases hf:lG (aK (dG b) p.tasks m).seats with
        |none =>
         have e:=pQ (b:=dG b) (ts:=p.tasks) hf
         refine Wl (fun s (k:Nat)=>⟨(SK s [0,1,3,4] ((5,.ref ⟨5,none,0⟩)::(SK s [7,8,19,29,59,60,61,71,106] [(107,.i k)]))),[(246,(CK s 246 0 12 [])),(3,[s.c 3 0]),(8,(CK s 8 0 3 [])),(5,[.own cS ((aK (dG b) p.tasks m).out.map aL)])],[]⟩) (fun(k:Nat)=>k≤(aK (dG b) p.tasks m).seats.length) (fun(k:Nat)=>(aK (dG b) p.tasks m).seats.length - k) (0) [some 246,some 3,some 8,some 5] [] FZ OM ?_
         intro s hs
         by_cases hs2:s < (aK (dG b) p.tasks m).seats.length
         ·obtain⟨x,hx0⟩:=ae hs2
          have hx1:=FT hf s x hx0
          conv=>whnf
          refine g 0 0 []<|J UA<|Ws<|Wc<|JD (fun h1=>?_) fun h1=>?_
          simp only[LM]at h1
          refine Wk<|Ws<|Wb<|g 108 110 []<|J UB<|Ws<|g 110 118 [.n (s),.x (aE x)]<|J QZ<|Wc<|J (fun _=>(We (rg [.i ((s:Int) +1)]<|J QZ ?_))) (noF (nbT AS))
          rotate_left
          simp only[LM]at h1
          omega
          refine⟨s+1,[some 246,some 3,some 8,some 5],[],FZ,?_,?_⟩
          rotate_left
          (dsimp only;omega)
          dsimp only
          omega
         ·conv=>whnf
          refine g 0 0 []<|J UA<|Ws<|Wc<|J (fun h1=>?_) fun h1=>?_
          replace h1:=dt h1
          simp only[LM]at h1
          omega
          replace h1:=df h1
          simp only[LM]at h1
          refine We<|rg [.i ((m:Int) +1)]<|J QZ ?_
          refine⟨m+1,[some 3,some 5,some 246],[],⟨rfl,FZ,⟨FZ,⟨⟨rfl,⟨(congrArg (V.own _) (by rw[e])),I⟩⟩,⟨⟨rfl,⟨rfl,⟨rfl,⟨rfl,⟨rfl,⟨rfl,⟨(congrArg (fun z=>V.t (T.v (Value.int _ z))) (by rw[e])),⟨rfl,⟨rfl,⟨rfl,⟨(congrArg (V.own _) (by rw[e])),⟨(congrArg (V.own _) (by rw[e])),Zaq⟩⟩⟩⟩⟩⟩⟩⟩⟩⟩⟩⟩,I⟩⟩⟩,I⟩,?_,?_⟩
          rotate_left
          (dsimp only;omega)
          dsimp only
          omega
        |some s0 =>
         obtain⟨x,hx0,hx1,hx2,hx3⟩:=pR hf
         have e:=pP hc hf
         refine Wl (fun s (k:Nat)=>⟨(SK s [0,1,3,4] ((5,.ref ⟨5,none,0⟩)::(SK s [7,8,19,29,59,60,61,71,106] [(107,.i k)]))),[(246,(CK s 246 0 12 [])),(3,[s.c 3 0]),(8,(CK s 8 0 3 [])),(5,[.own cS ((aK (dG b) p.tasks m).out.map aL)])],[]⟩) (fun(k:Nat)=>k≤s0) (fun(k:Nat)=>(aK (dG b) p.tasks m).seats.length - k) (0) [some 246,some 3,some 8,some 5] [] FZ OM ?_
         intro s hs
         by_cases hs2:s < s0
         ·obtain⟨x',hx'⟩:=ae (xs:=(aK (dG b) p.tasks m).seats) (n:=s) OM
          have hx4:=hx3 s x' hs2 hx'
          conv=>whnf
          refine g 0 0 []<|J UA<|Ws<|Wc<|JD (fun h1=>?_) fun h1=>?_
          simp only[LM]at h1
          refine Wk<|Ws<|Wb<|g 108 110 []<|J UB<|Ws<|g 110 118 [.n (s),.x (aE x')]<|J QZ<|Wc<|J (fun _=>(We (rg [.i ((s:Int) +1)]<|J QZ ?_))) (noF (nbT AS))
          rotate_left
          simp only[LM]at h1
          omega
          refine⟨s+1,[some 246,some 3,some 8,some 5],[],FZ,?_,?_⟩
          rotate_left
          (dsimp only;omega)
          dsimp only
          omega
         ·obtain rfl:s = s0:=by omega
          have ej:((aK (dG b) p.tasks m).jobs.map aI).set m (aI ⟨(b.epoch - 1) * 1000000+ ((aK (dG b) p.tasks m).given+1),(s:Int) +1,b.now+1+12⟩) = (aK (dG b) p.tasks (m+1)).jobs.map aI:=by rw[e,←List.map_set];rfl
          have es:((aK (dG b) p.tasks m).seats.map aE).set s (aE ⟨false,x.epoch⟩) = (aK (dG b) p.tasks (m+1)).seats.map aE:=by rw[e,←List.map_set,lF,m7,hx0];rfl
          have eo:(aK (dG b) p.tasks m).out.map aL++ [aL ⟨1,0,(s:Int) +1,b.epoch,(b.epoch - 1) * 1000000+ ((aK (dG b) p.tasks m).given+1),m,emp,eb b.results t.deps⟩] = (aK (dG b) p.tasks (m+1)).out.map aL:=by rw[e,lF,Nf,eu ht0,List.map_append];rfl
          have eg:(aK (dG b) p.tasks m).given+1 = (aK (dG b) p.tasks (m+1)).given:=by rw[e];rfl
          conv=>whnf
          refine g 0 0 []<|J UA<|Ws<|Wc<|JD (fun h1=>?_) fun h1=>?_
          simp only[LM]at h1
          refine Wk<|Ws<|Wb<|g 108 110 []<|J UB<|Ws<|g 110 118 [.n (s),.x (aE x)]<|J QZ<|Wc<|J (noT (nbF AS)) fun _=>Wk<|g 118 126 [.n (s),.x (aE x)]<|J QZ<|g 126 133 [.i (Hand.given (aK (dG b) p.tasks m) +1)]<|J QZ<|gd 133 158 [[],[],[],[],[],[],[],[],[],[.i (b.epoch - 1)],[.i ((b.epoch - 1) * 1000000)],[],[],[],[],[.i ((b.epoch - 1) * 1000000+ (Hand.given (aK (dG b) p.tasks m) +1))],[],[.i ((s:Int) +1)],[],[],[],[],[.i (b.now+1+12)],[],[.n (m)],[.x (aI j)]] ?_
          conv=>whnf
          refine J QZ<|J KR<|gd 158 184 [[],[],[.i ((s:Int) +1)],[],[],[],[],[],[],[],[],[],[.n (m)],[],[.x (aM (aI j) 0 [T.v (Value.int IntKind.i64 ((b.epoch - 1) * 1000000+ (Hand.given (aK (dG b) p.tasks m) +1))),T.v (Value.int IntKind.i64 ((s:Int) +1)),T.v (Value.int IntKind.i64 (b.now+1+12))])],[],[],[],[],[],[],[],[.call (V.own [false] (List.map ai (eb b.results t.deps))) [[],[]]],[],[],[],[]] ?_
          conv=>whnf
          refine J QZ<|J KR<|We<|rg [.i ((m:Int) +1)]<|J QZ ?_
          rotate_left
          simp only[LM]at h1
          omega
          refine⟨m+1,[some 3,some 183,some 246],[],⟨rfl,FZ,⟨FZ,⟨⟨rfl,⟨(congrArg (V.own _) (eo)),I⟩⟩,⟨⟨rfl,⟨rfl,⟨rfl,⟨rfl,⟨rfl,⟨rfl,⟨(congrArg (fun z=>V.t (T.v (Value.int _ z))) (eg)),⟨rfl,⟨rfl,⟨rfl,⟨(congrArg (V.own _) (ej)),⟨(congrArg (V.own _) (es)),Zaq⟩⟩⟩⟩⟩⟩⟩⟩⟩⟩⟩⟩,I⟩⟩⟩,I⟩,?_,?_⟩
          rotate_left
          (dsimp only;omega)
          dsimp only
          omega
       ·have e:=jy (b:=dG b) (ts:=p.tasks) (fun q=>hG q.given)
        conv=>whnf
        refine g 0 0 []<|J UA<|Ws<|Wc<|J (fun _=>(Wk (Ws (Wb (g 62 66 [.x (ay t)]<|J QZ (Ws (gd 72 101 [[],[],[],[],[],[.n (m)],[.x (ai y)],[],[],[BF],[BF],[BF],[BF],[BF],[BF,.n (m)],[BF],[BF,.x (aI j)],[BF],[BF],[],[BF],[BF],[BF],[BF],[BF],[BF],[BF,.call VT [[],[]]],[BF],[BF],[],[BF],[BF],[BF],[BF],[BF],[BF]] ?_))))))) (noF SI)
        conv=>whnf
        refine⟨Zac,by kernel_rfl,?_⟩
        refine Wc<|J (fun _=>(We (rg [.i ((m:Int) +1)]<|J QZ ?_))) (noF tO)
        refine⟨m+1,[some 3,some 5,some 246],[],⟨rfl,FZ,⟨FZ,⟨⟨rfl,⟨(congrArg (V.own _) (by rw[e])),I⟩⟩,⟨⟨rfl,⟨rfl,⟨rfl,⟨rfl,⟨rfl,⟨rfl,⟨(congrArg (fun z=>V.t (T.v (Value.int _ z))) (by rw[e])),⟨rfl,⟨rfl,⟨rfl,⟨(congrArg (V.own _) (by rw[e])),⟨(congrArg (V.own _) (by rw[e])),Zaq⟩⟩⟩⟩⟩⟩⟩⟩⟩⟩⟩⟩,I⟩⟩⟩,I⟩,?_,?_⟩
        rotate_left
        (dsimp only;omega)
        dsimp only
        omega
      ·rw[decide_eq_false hF]at crd
       have e:=jy (b:=dG b) (ts:=p.tasks) (fun q=>hF (q3 q))
       conv=>whnf
       refine g 0 0 []<|J UA<|Ws<|Wc<|J (fun _=>(Wk (Ws (Wb (g 62 66 [.x (ay t)]<|J QZ (Ws (gd 72 101 [[],[],[],[],[],[.n (m)],[.x (ai y)],[],[],[BF],[BF],[BF],[BF],[BF],[BF,.n (m)],[BF],[BF,.x (aI j)],[BF],[BF],[],[BF],[BF],[BF],[BF],[BF],[BF],[BF,.call VF [[],[]]],[BF],[BF],[],[BT],[BT],[BT],[BT],[BT],[BT]] ?_))))))) (noF SI)
       conv=>whnf
       refine⟨⟨I,I,I,I,I,Zan,xA,I,I,⟨nO,I⟩,⟨nO,I⟩,⟨nO,I⟩,⟨nO,I⟩,⟨nO,I⟩,⟨nO,rfl,LN⟩,⟨nO,I⟩,⟨nO,xA⟩,⟨nO,I⟩,nO,I,⟨nO,I⟩,⟨nO,I⟩,⟨nO,I⟩,⟨nO,I⟩,⟨nO,I⟩,⟨nO,I⟩,⟨nO,UB,I,UT,UA,AS⟩,⟨nO,I⟩,nO,I,rfl,rfl,rfl,rfl,rfl,rfl,I⟩,by kernel_rfl,?_⟩
       refine Wc<|J (fun _=>(We (rg [.i ((m:Int) +1)]<|J QZ ?_))) (noF rfl)
       refine⟨m+1,[some 3,some 5,some 246],[],⟨rfl,FZ,⟨FZ,⟨⟨rfl,⟨(congrArg (V.own _) (by rw[e])),I⟩⟩,⟨⟨rfl,⟨rfl,⟨rfl,⟨rfl,⟨rfl,⟨rfl,⟨(congrArg (fun z=>V.t (T.v (Value.int _ z))) (by rw[e])),⟨rfl,⟨rfl,⟨rfl,⟨(congrArg (V.own _) (by rw[e])),⟨(congrArg (V.own _) (by rw[e])),Zaq⟩⟩⟩⟩⟩⟩⟩⟩⟩⟩⟩⟩,I⟩⟩⟩,I⟩,?_,?_⟩
       rotate_left
       (dsimp only;omega)
       dsimp only
       omega
     ·have e:=jy (b:=dG b) (ts:=p.tasks) (fun q=>hB (q2 q))
      conv=>whnf
      refine g 0 0 []<|J UA<|Ws<|Wc<|J (fun _=>(Wk (Ws (Wb (g 62 66 [.x (ay t)]<|J QZ (Ws (gd 72 101 [[],[],[],[],[],[.n (m)],[.x (ai y)],[],[],[BF],[BF],[BF],[BF],[BF],[BF,.n (m)],[BF],[BF,.x (aI j)],[BF],[BF],[],[BT],[BT],[BT],[BT],[BT],[BT],[BT],[BT],[BT],[],[BT],[BT],[BT],[BT],[BT],[BT]] ?_))))))) (noF SI)
      conv=>whnf
      refine⟨⟨I,I,I,I,I,Zan,xA,I,I,⟨nO,I⟩,⟨nO,I⟩,⟨nO,I⟩,⟨nO,I⟩,⟨nO,I⟩,⟨nO,rfl,LN⟩,⟨nO,I⟩,⟨nO,xA⟩,⟨nO,I⟩,nO,I,dP OM,dP OM,dP OM,dP OM,dP OM,dP OM,dP OM,dP OM,dP OM,I,rfl,rfl,rfl,rfl,rfl,rfl,I⟩,by kernel_rfl,?_⟩
      refine Wc<|J (fun _=>(We (rg [.i ((m:Int) +1)]<|J QZ ?_))) (noF rfl)
      refine⟨m+1,[some 3,some 5,some 246],[],⟨rfl,FZ,⟨FZ,⟨⟨rfl,⟨(congrArg (V.own _) (by rw[e])),I⟩⟩,⟨⟨rfl,⟨rfl,⟨rfl,⟨rfl,⟨rfl,⟨rfl,⟨(congrArg (fun z=>V.t (T.v (Value.int _ z))) (by rw[e])),⟨rfl,⟨rfl,⟨rfl,⟨(congrArg (V.own _) (by rw[e])),⟨(congrArg (V.own _) (by rw[e])),Zaq⟩⟩⟩⟩⟩⟩⟩⟩⟩⟩⟩⟩,I⟩⟩⟩,I⟩,?_,?_⟩
      rotate_left
      (dsimp only;omega)
      dsimp only
      omega
    ·have e:=jy (b:=dG b) (ts:=p.tasks) (fun q=>hA (q1 q))
     conv=>whnf
     refine g 0 0 []<|J UA<|Ws<|Wc<|J (fun _=>(Wk (Ws (Wb (g 62 66 [.x (ay t)]<|J QZ (Ws (gd 72 101 [[],[],[],[],[],[.n (m)],[.x (ai y)],[],[],[BT],[BT],[BT],[BT],[BT],[BT],[BT],[BT],[BT],[BT],[],[BT],[BT],[BT],[BT],[BT],[BT],[BT],[BT],[BT],[],[BT],[BT],[BT],[BT],[BT],[BT]] ?_))))))) (noF SI)
     conv=>whnf
     refine⟨⟨I,I,I,I,I,Zan,xA,I,I,dP OM,dP OM,dP OM,dP OM,dP OM,dP OM,dP OM,dP OM,dP OM,dP OM,I,rfl,rfl,rfl,rfl,rfl,rfl,rfl,rfl,rfl,I,rfl,rfl,rfl,rfl,rfl,rfl,I⟩,by kernel_rfl,?_⟩
     refine Wc<|J (fun _=>(We (rg [.i ((m:Int) +1)]<|J QZ ?_))) (noF rfl)
     refine⟨m+1,[some 3,some 5,some 246],[],⟨rfl,FZ,⟨FZ,⟨⟨rfl,⟨(congrArg (V.own _) (by rw[e])),I⟩⟩,⟨⟨rfl,⟨rfl,⟨rfl,⟨rfl,⟨rfl,⟨rfl,⟨(congrArg (fun z=>V.t (T.v (Value.int _ z))) (by rw[e])),⟨rfl,⟨rfl,⟨rfl,⟨(congrArg (V.own _) (by rw[e])),⟨(congrArg (V.own _) (by rw[e])),Zaq⟩⟩⟩⟩⟩⟩⟩⟩⟩⟩⟩⟩,I⟩⟩⟩,I⟩,?_,?_⟩
     rotate_left
     (dsimp only;omega)
     dsimp only
     omega
   obtain rfl:m = p.tasks.length:=by omega
   by_cases hs:b.since+1 = 2
   ·rw[nx h0 hup hs]
    conv=>whnf
    refine g 0 0 []<|J UA<|Ws<|Wc<|J (noT SI) fun _=>We<|g 19 193 [.i (b.since+1)]<|J QZ<|Ws<|g 193 197 []<|J UE<|Wc<|J (fun _=>(g 197 201 []<|J UW (gd 201 216 [[],[],[],[],[],[],[],[],[],[],[],[],[],[],[],[]] ?_))) (noF tO)
    conv=>whnf
    refine⟨⟨I,I,I,I,I,I,I,I,I,I,I,Zao,I,I,I,UA,I⟩,by kernel_rfl,?_⟩
    refine g 216 220 []<|J QZ<|Ws<|g 220 223 []<|J UF<|Wb<|Wl (fun s (n:Nat)=>⟨(SK s [0,3,4] [(5,.ref ⟨5,none,0⟩),(223,s.s 223),(224,s.s 224),(225,.i n)]),[(3,[s.c 3 0]),(5,[.own cS (((endH b p.tasks).out++ (b.owed.take n).map (nY b.epoch)).map aL)]),(246,[.t (.i b.workers),.t (.b b.up),.t (.i (b.now+1)),.t (.i 0),.t (.i b.epoch),.t (.i (endH b p.tasks).given),.own [false] ((b.log.safe++b.log.loose).map ai),.own [false] [],.own [false] (b.results.map ai),.own dU ((endH b p.tasks).jobs.map aI),.own bJ ((endH b p.tasks).seats.map aE),.own bK (b.owed.map aJ)])],[]⟩) (fun(n:Nat)=>n≤b.owed.length) (fun(n:Nat)=>b.owed.length - n) (0) [some 3,some 5,some 246] [] ⟨rfl,FZ,⟨FZ,⟨⟨rfl,⟨(congrArg (V.own _) (by rw[List.take_zero,List.map_nil,List.append_nil];rfl)),I⟩⟩,⟨⟨rfl,⟨rfl,⟨rfl,⟨rfl,⟨rfl,⟨rfl,⟨rfl,⟨(congrArg (V.own _) SI),FZ⟩⟩⟩⟩⟩⟩⟩⟩,I⟩⟩⟩,I⟩ OM ?_
    intro n hn
    by_cases hn2:n < b.owed.length
    ·obtain⟨o,ho⟩:=ae hn2
     have k9:(endH b p.tasks).out.length≤40:=by show(aK _ _ _).out.length≤40;omega
     have eo:=xa (out:=(endH b p.tasks).out) (ep:=b.epoch) ho
     conv=>whnf
     refine g 0 0 []<|J UA<|Ws<|Wc<|J (fun _=>(Wk (Ws (Wb (g 226 229 [.n (n),.x (aJ o)]<|J QZ (rgd [[],[],[],[],[],[],[],[],[],[],[],[],[]] ?_)))))) (noF SI)
     conv=>whnf
     refine⟨⟨I,I,I,I,I,I,I,I,I,I,⟨UH,I⟩,Zao,I,I⟩,by kernel_rfl,?_⟩
     refine rg [.i ((n:Int) +1)]<|J QZ ?_
     refine⟨n+1,[some 3,some 240,some 246],[],⟨rfl,FZ,⟨FZ,⟨⟨rfl,⟨(congrArg (V.own _) (eo)),I⟩⟩,FZ⟩⟩,I⟩,?_,?_⟩
     rotate_left
     (dsimp only;omega)
     dsimp only
     omega
    ·conv=>whnf
     refine g 0 0 []<|J UA<|Ws<|Wc<|J (noT SI) fun _=>We<|rg []<|J UW<|g 5 246 []<|J UB<|RT ?_
     all_goals (rw[aH OM])
   ·rw[pz h0 hup hs]
    conv=>whnf
    refine g 0 0 []<|J UA<|Ws<|Wc<|J (noT SI) fun _=>We<|g 19 193 [.i (b.since+1)]<|J QZ<|Ws<|g 193 197 []<|J UE<|Wc<|J (noT dO) fun _=>Wk<|g 0 4 []<|J UB<|RT ?_
    rfl
end Go.K
end
section
open Go Go.Tm Go.Proofs
namespace Go.K
def atB(d:Boss)(h:Hand):Boss:=⟨d.workers,d.up,d.now,d.since,d.epoch,h.given,d.log,d.results,h.jobs,h.seats,d.owed⟩
theorem EU(b:Boss)(hl:b.seats.length≤1048576)(hf:lG b.seats = none):F qi [.val (fT b)] (.i (-1)) [[]]:=by
 refine qt ?_
 conv=>whnf
 refine g 0 1 []<|J QZ<|Ws<|g 0 0 []<|J UA<|Wb<|Wl (fun s (n:Nat)=>⟨[(1,s.s 1),(3,.i n)],[(1,(CK s 1 0 12 []))],[]⟩) (fun(n:Nat)=>n≤b.seats.length) (fun(n:Nat)=>b.seats.length - n) (0) [some 1] [] FZ OM ?_
 intro n hn
 by_cases hn2:n < b.seats.length
 ·obtain⟨x,hx⟩:=ae hn2
  have hx1:=FT hf n x hx
  conv=>whnf
  refine Ws<|g 4 8 []<|J UE<|Wc<|J (fun _=>(Wk (Ws (Wb (g 8 16 [.x (aE x)]<|J QZ (Wc<|J (noT AS) fun _=>(Wk (rg [.i ((n:Int) +1)]<|J QZ ?_)))))))) (noF SI)
  refine⟨n+1,[some 1],[],FZ,?_,?_⟩
  rotate_left
  (dsimp only;omega)
  dsimp only
  omega
 ·conv=>whnf
  refine Ws<|g 4 8 []<|J UE<|Wc<|J (noT SI) fun _=>We<|g 1 2 []<|J UA<|RT ?_
  rfl
theorem ET(b:Boss){k:Nat}(hl:b.seats.length≤1048576)(hf:lG b.seats = some k):F qi [.val (fT b)] (.i k) [[]]:=by
 obtain⟨x,hx0,hx1,hx2,hx3⟩:=pR hf
 refine qt ?_
 conv=>whnf
 refine g 0 1 []<|J QZ<|Ws<|g 0 0 []<|J UA<|Wb<|Wl (fun s (n:Nat)=>⟨[(1,s.s 1),(3,.i n)],[(1,(CK s 1 0 12 []))],[]⟩) (fun(n:Nat)=>n≤k) (fun(n:Nat)=>b.seats.length - n) (0) [some 1] [] FZ OM ?_
 intro n hn
 by_cases hn2:n < k
 ·obtain⟨y,hy⟩:=ae (xs:=b.seats) (n:=n) OM
  have hy1:=hx3 n y hn2 hy
  conv=>whnf
  refine Ws<|g 4 8 []<|J UE<|Wc<|JD (fun h1=>?_) fun h1=>?_
  simp only[LM]at h1
  refine Wk<|Ws<|Wb<|g 8 16 [.x (aE y)]<|J QZ<|Wc<|J (noT AS) fun _=>Wk<|rg [.i ((n:Int) +1)]<|J QZ ?_
  rotate_left
  simp only[LM]at h1
  omega
  refine⟨n+1,[some 1],[],FZ,?_,?_⟩
  rotate_left
  (dsimp only;omega)
  dsimp only
  omega
 ·obtain rfl:n = k:=by omega
  conv=>whnf
  refine Ws<|g 4 8 []<|J UE<|Wc<|J (fun _=>(Wk (Ws (Wb (g 8 16 [.x (aE x)]<|J QZ (Wc<|J (fun _=>(g 16 18 []<|J UB (RT ?_))) (noF AS))))))) (noF SI)
  rfl
structure HandIn (d:Boss) (ts:List Task):Prop where
 chk:am ts = 0
 res:d.results.length = ts.length
 jobs:d.jobs.length = ts.length
 seats:d.seats.length≤8
 ep:1≤d.epoch∧d.epoch≤300
 given:0≤d.given∧d.given≤1000000
 now:0≤d.now∧d.now≤1000000
theorem Ep(d:Boss)(p:Plan)(h:HandIn d p.tasks):F lu [.val (aF d),.val (cV p)] (N3 ⟨atB d (aK d p.tasks p.tasks.length),(aK d p.tasks p.tasks.length).out⟩) [[],[]]:=by
 obtain⟨hck,u3,u4,u5,⟨ue1,ue2⟩,⟨u9,u10⟩,⟨hn1,hn2⟩⟩:=h
 have hpl:=(bU hck).1
 have hdl:∀ t∈p.tasks,t.deps.length≤8:=fun t ht=>by
  obtain⟨k,hk⟩:=List.getElem?_of_mem ht
  exact(cq hck hk).2.2.1
 refine DL ?_
 conv=>whnf
 refine g 0 0 []<|J QZ<|g 11 13 []<|J QZ<|Ws<|g 0 0 []<|J UA<|Wb<|Wl (fun s (m:Nat)=>⟨(SK s [0,1,2,3,4,5] [(6,.i m)]),[(138,(CK s 138 0 12 [])),(2,(CK s 2 0 12 [])),(3,[s.c 3 0]),(4,(CK s 4 0 13 [])),(5,[.t (.i (atB d (aK d p.tasks m)).workers),.t (.b (atB d (aK d p.tasks m)).up),.t (.i (atB d (aK d p.tasks m)).now),.t (.i (atB d (aK d p.tasks m)).since),.t (.i (atB d (aK d p.tasks m)).epoch),.t (.i (atB d (aK d p.tasks m)).given),.own [false] ((atB d (aK d p.tasks m)).log.safe.map ai),.own [false] ((atB d (aK d p.tasks m)).log.loose.map ai),.own [false] ((atB d (aK d p.tasks m)).results.map ai),.own dU ((atB d (aK d p.tasks m)).jobs.map aI),.own bJ ((atB d (aK d p.tasks m)).seats.map aE),.own bK ((atB d (aK d p.tasks m)).owed.map aJ),.own cS ((aK d p.tasks m).out.map aL)])],[]⟩) (fun(m:Nat)=>m≤p.tasks.length) (fun(m:Nat)=>p.tasks.length - m) (0) [some 138,some 2,some 3,some 4,some 5] [] ⟨rfl,FZ,⟨Zaa,FZ⟩,I⟩ OM ?_
 intro m hm
 obtain⟨k1,k2,k3,k4,k5,k6⟩:=mn (b:=d) (ts:=p.tasks) hdl u9 u10 m
 generalize hX:atB d (aK d p.tasks m) = X
 have x1:X.results = d.results:=by rw[←hX];rfl
 have x2:X.jobs = (aK d p.tasks m).jobs:=by rw[←hX];rfl
 have x3:X.seats = (aK d p.tasks m).seats:=by rw[←hX];rfl
 have x4:X.given = (aK d p.tasks m).given:=by rw[←hX];rfl
 have x5:X.epoch = d.epoch:=by rw[←hX];rfl
 have x6:X.now = d.now:=by rw[←hX];rfl
 have y1:X.results.length = p.tasks.length:=by rw[x1];exact u3
 have y2:X.jobs.length = p.tasks.length:=by rw[x2,k1];exact u4
 have y3:X.seats.length≤8:=by rw[x3,k2];exact u5
 by_cases hm2:m < p.tasks.length
 ·obtain⟨t,ht0⟩:=ae hm2
  obtain⟨y,hy0⟩:=ae (xs:=X.results) (n:=m) OM
  obtain⟨j,hj0⟩:=ae (xs:=X.jobs) (n:=m) OM
  obtain⟨_,_,a3,a4⟩:=cq hck ht0
  have crd:=iT p X.results (m:Int) OM (t:=t) (by rw[Int.toNat_natCast];exact ht0) (fun e he=>by have:=a4 e he;omega) OM
  have q1:∀ q:CanHand d p.tasks (aK d p.tasks m) m,y = emp:=fun q=>by have:=q.res;rw[←x1,ky hy0]at this;exact this
  have q2:∀ q:CanHand d p.tasks (aK d p.tasks m) m,j.lease = 0:=fun q=>by have:=q.job;rw[←x2,Mr,hj0]at this;exact this
  have q3:∀ q:CanHand d p.tasks (aK d p.tasks m) m,de X.results t.deps:=fun q=>by have:=q.ready;rw[←x1,eu ht0]at this;exact this
  cases hf:lG X.seats with
  |none =>
   have e:=pQ (b:=d) (ts:=p.tasks) (n:=m) (by rw[←x3];exact hf)
   have cs:=EU X OM hf
   conv=>whnf
   refine Ws<|g 13 17 []<|J UE<|Wc<|J (fun _=>(Wk (Ws (Wb (g 20 23 [.call (V.i (-1)) [[]]]<|J QZ (Ws (g 17 58 (RL 30 BT []) ?_))))))) (noF SI)
   conv=>whnf
   refine⟨⟨I,I,I,rfl,rfl,rfl,rfl,rfl,I,rfl,rfl,rfl,rfl,rfl,rfl,rfl,rfl,I,rfl,rfl,rfl,rfl,rfl,rfl,rfl,rfl,rfl,I,rfl,rfl,rfl,rfl,rfl,rfl,rfl,rfl,I⟩,?_⟩
   refine Wc<|J (fun _=>(We (rg [.i ((m:Int) +1)]<|J QZ ?_))) (noF rfl)
   refine⟨m+1,[some 138,some 2,some 3,some 4,some 5],[],⟨rfl,FZ,⟨Zaa,⟨FZ,⟨FZ,⟨FZ,⟨⟨rfl,⟨(congrArg (fun z=>V.t (T.v (Value.int _ z))) (by rw[e,←hX])),⟨(congrArg (fun z=>V.t (T.v (Value.bool z))) (by rw[e,←hX])),⟨(congrArg (fun z=>V.t (T.v (Value.int _ z))) (by rw[e,←hX])),⟨(congrArg (fun z=>V.t (T.v (Value.int _ z))) (by rw[e,←hX])),⟨(congrArg (fun z=>V.t (T.v (Value.int _ z))) (by rw[e,←hX])),⟨(congrArg (fun z=>V.t (T.v (Value.int _ z))) (by rw[e,←hX])),⟨(congrArg (V.own _) (by rw[e,←hX])),⟨(congrArg (V.own _) (by rw[e,←hX])),⟨(congrArg (V.own _) (by rw[e,←hX])),⟨(congrArg (V.own _) (by rw[e,←hX])),⟨(congrArg (V.own _) (by rw[e,←hX])),⟨(congrArg (V.own _) (by rw[e,←hX])),⟨(congrArg (V.own _) SI),I⟩⟩⟩⟩⟩⟩⟩⟩⟩⟩⟩⟩⟩⟩,I⟩⟩⟩⟩⟩,I⟩,?_,?_⟩
   rotate_left
   (dsimp only;omega)
   dsimp only
   omega
  |some sx =>
   have cs:=ET X OM hf
   obtain⟨x,hx0,hx1,hx2,hx3⟩:=pR hf
   by_cases hA:y = emp
   ·by_cases hB:j.lease = 0
    ·by_cases hF:de X.results t.deps
     ·rw[decide_eq_true hF]at crd
      by_cases hG:X.given < 1000000
      ·have hc:CanHand d p.tasks (aK d p.tasks m) m:=⟨by rw[←x1,ky hy0];exact hA,by rw[←x2,Mr,hj0];exact hB,by rw[←x1,eu ht0];exact hF,by rw[←x4];exact hG⟩
       have e:=pP hc (by rw[←x3];exact hf)
       have ej:(X.jobs.map aI).set m (aI ⟨(X.epoch - 1) * 1000000+ (X.given+1),(sx:Int) +1,X.now+12⟩) = (atB d (aK d p.tasks (m+1))).jobs.map aI:=by rw[e,←List.map_set,x2,x4,x5,x6];rfl
       have es:(X.seats.map aE).set sx (aE ⟨false,x.epoch⟩) = (atB d (aK d p.tasks (m+1))).seats.map aE:=by
        have e9:m7 (aK d p.tasks m).seats sx = x:=by rw[m7,←x3,hx0];rfl
        rw[e,←List.map_set,x3,atB,lF,e9]
       have eo:(aK d p.tasks m).out.map aL++ [aL ⟨1,0,(sx:Int) +1,X.epoch,(X.epoch - 1) * 1000000+ (X.given+1),m,emp,eb X.results t.deps⟩] = (aK d p.tasks (m+1)).out.map aL:=by rw[e,lF,Nf,eu ht0,List.map_append,x1,x4,x5];rfl
       have eg:X.given+1 = (atB d (aK d p.tasks (m+1))).given:=by rw[e,x4];rfl
       have e1:X.workers = (atB d (aK d p.tasks (m+1))).workers:=by rw[←hX];rfl
       have e2:X.up = (atB d (aK d p.tasks (m+1))).up:=by rw[←hX];rfl
       have e3:X.now = (atB d (aK d p.tasks (m+1))).now:=by rw[←hX];rfl
       have e4:X.since = (atB d (aK d p.tasks (m+1))).since:=by rw[←hX];rfl
       have e5:X.epoch = (atB d (aK d p.tasks (m+1))).epoch:=by rw[←hX];rfl
       have e6:X.log = (atB d (aK d p.tasks (m+1))).log:=by rw[←hX];rfl
       have e7:X.results = (atB d (aK d p.tasks (m+1))).results:=by rw[←hX];rfl
       have e8:X.owed = (atB d (aK d p.tasks (m+1))).owed:=by rw[←hX];rfl
       conv=>whnf
       refine Ws<|g 13 17 []<|J UE<|Wc<|J (fun _=>(Wk (Ws (Wb (g 20 23 [.call (V.i (sx:Int)) [[]]]<|J QZ (Ws (g 17 58 (RL 10 BF (.n (m)::BF::.x (ai y)::(RL 7 BF (.n (m)::BF::BF::.x (aI j)::(RL 8 BF [.call VT [[],[],[]],BF,BF]))))) ?_))))))) (noF SI)
       conv=>whnf
       refine⟨⟨I,I,I,Zaq,Zaq,Zaq,Zaq,rfl,I,⟨dO,I⟩,⟨dO,I⟩,⟨dO,I⟩,⟨dO,I⟩,⟨dO,rfl,LN⟩,⟨dO,xA⟩,⟨dO,I⟩,dO,I,⟨nO,I⟩,⟨nO,I⟩,⟨nO,I⟩,⟨nO,I⟩,⟨nO,rfl,LN⟩,⟨nO,I⟩,⟨nO,xA⟩,⟨nO,I⟩,nO,I,⟨nO,I⟩,⟨nO,I⟩,⟨nO,I⟩,⟨nO,I⟩,⟨nO,I⟩,⟨nO,UC,I,UU,UA,AS⟩,⟨nO,I⟩,nO,I⟩,?_⟩
       refine Wc<|J (noT rfl) fun _=>Wk<|g 58 65 [.i (Boss.given X+1)]<|J QZ<|g 65 73 [.i (Boss.epoch X - 1),.i ((Boss.epoch X - 1) * 1000000),.i ((Boss.epoch X - 1) * 1000000+ (Boss.given X+1))]<|J QZ<|g 74 87 [.i ((sx:Int) +1),.i (Boss.now X+12),.n (m),.x (aI j)]<|J QZ<|g 87 93 [.n (sx),.x (aE x)]<|J QZ<|g 93 101 [.i ((sx:Int) +1)]<|J QZ<|Ws<|g 7 9 []<|J UA<|Wb<|Wl (fun s (k:Nat)=>⟨(SK s [0,1,2,3,4,5,6,9] [(10,.i k),(73,s.s 73)]),[(138,(CK s 138 0 12 [])),(2,(CK s 2 0 12 [])),(3,[s.c 3 0]),(4,(CK s 4 0 13 [])),(5,(CK s 5 0 13 [])),(9,[.t (.i 1),.t (.i 0),.t (.i ((sx:Int) +1)),.t (.i X.epoch),.t (.i ((X.epoch - 1) * 1000000+ (X.given+1))),.t (.i m),.t (.s emp),.own [false] ((eb X.results (t.deps.take k)).map ai)])],[]⟩) (fun(k:Nat)=>k≤t.deps.length) (fun(k:Nat)=>t.deps.length - k) (0) [some 138,some 2,some 3,some 4,some 5,some 9] [] ⟨rfl,FZ,⟨Zaa,FZ⟩,I⟩ OM ?_
       intro k hk
       by_cases hk2:k < t.deps.length
       ·obtain⟨d0,hd0⟩:=ae hk2
        have hdr:=a4 d0 (List.mem_of_getElem? hd0)
        obtain⟨z,hz⟩:=ae (xs:=X.results) (n:=d0.toNat) OM
        have ez:(eb X.results (t.deps.take k)).map ai++ [ai z] = (eb X.results (t.deps.take (k+1))).map ai:=by rw[Bq hd0 hz,List.map_append];rfl
        have hpk:=mK X.results (t.deps.take k)
        have htk:(t.deps.take k).length≤k:=by rw[List.length_take];omega
        conv=>whnf
        refine Ws<|g 101 109 [.x (ay t)]<|J QZ<|Wc<|J (fun _=>(Wk (Ws (Wb (rgd [[],[],[],[],[],[],[],[],[.x (ay t)],[],[],[],[.x (ef d0)],[],[.n (Int.toNat d0)],[.x (ai z)],[],[],[],[]] ?_))))) (noF SI)
        conv=>whnf
        refine⟨⟨I,I,I,I,I,I,I,I,Zap,I,I,I,Zap,I,Zar,xA,US,Zao,I,UA,I⟩,by kernel_rfl,?_⟩
        refine rg [.i ((k:Int) +1)]<|J QZ ?_
        refine⟨k+1,[some 138,some 2,some 3,some 4,some 5,some 9],[],⟨rfl,FZ,⟨Zaa,⟨FZ,⟨FZ,⟨FZ,⟨FZ,⟨⟨rfl,⟨rfl,⟨rfl,⟨rfl,⟨rfl,⟨rfl,⟨rfl,⟨rfl,⟨(congrArg (V.own _) (ez)),I⟩⟩⟩⟩⟩⟩⟩⟩⟩,I⟩⟩⟩⟩⟩⟩,I⟩,?_,?_⟩
        rotate_left
        (dsimp only;omega)
        dsimp only
        omega
       ·have ek:t.deps.take k = t.deps:=aH OM
        rw[←ek]at eo
        conv=>whnf
        refine Ws<|g 101 109 [.x (ay t)]<|J QZ<|Wc<|J (noT SI) fun _=>We<|rg []<|J QZ<|rg [.i ((m:Int) +1)]<|J QZ ?_
        refine⟨m+1,[some 138,some 2,some 3,some 4,some 5],[],⟨rfl,FZ,⟨Zaa,⟨FZ,⟨FZ,⟨FZ,⟨⟨rfl,⟨(congrArg (fun z=>V.t (T.v (Value.int _ z))) (e1)),⟨(congrArg (fun z=>V.t (T.v (Value.bool z))) (e2)),⟨(congrArg (fun z=>V.t (T.v (Value.int _ z))) (e3)),⟨(congrArg (fun z=>V.t (T.v (Value.int _ z))) (e4)),⟨(congrArg (fun z=>V.t (T.v (Value.int _ z))) (e5)),⟨(congrArg (fun z=>V.t (T.v (Value.int _ z))) (eg)),⟨(congrArg (V.own _) (by rw[e6])),⟨(congrArg (V.own _) (by rw[e6])),⟨(congrArg (V.own _) (by rw[e7])),⟨(congrArg (V.own _) (ej)),⟨(congrArg (V.own _) (es)),⟨(congrArg (V.own _) (by rw[e8])),⟨(congrArg (V.own _) (eo)),I⟩⟩⟩⟩⟩⟩⟩⟩⟩⟩⟩⟩⟩⟩,I⟩⟩⟩⟩⟩,I⟩,?_,?_⟩
        rotate_left
        (dsimp only;omega)
        dsimp only
        omega
      ·have e:=jy (b:=d) (ts:=p.tasks) (fun q=>hG (by rw[x4];exact q.given))
       conv=>whnf
       refine Ws<|g 13 17 []<|J UE<|Wc<|J (fun _=>(Wk (Ws (Wb (g 20 23 [.call (V.i (sx:Int)) [[]]]<|J QZ (Ws (g 17 58 (BF::BF::BF::BF::BF::(RL 25 BT [])) ?_))))))) (noF SI)
       conv=>whnf
       refine⟨⟨I,I,I,Zaq,Zaq,Zaq,Zaq,rfl,I,tO,tO,tO,tO,tO,tO,tO,tO,I,rfl,rfl,rfl,rfl,rfl,rfl,rfl,rfl,rfl,I,rfl,rfl,rfl,rfl,rfl,rfl,rfl,rfl,I⟩,?_⟩
       refine Wc<|J (fun _=>(We (rg [.i ((m:Int) +1)]<|J QZ ?_))) (noF rfl)
       refine⟨m+1,[some 138,some 2,some 3,some 4,some 5],[],⟨rfl,FZ,⟨Zaa,⟨FZ,⟨FZ,⟨FZ,⟨⟨rfl,⟨(congrArg (fun z=>V.t (T.v (Value.int _ z))) (by rw[e,←hX])),⟨(congrArg (fun z=>V.t (T.v (Value.bool z))) (by rw[e,←hX])),⟨(congrArg (fun z=>V.t (T.v (Value.int _ z))) (by rw[e,←hX])),⟨(congrArg (fun z=>V.t (T.v (Value.int _ z))) (by rw[e,←hX])),⟨(congrArg (fun z=>V.t (T.v (Value.int _ z))) (by rw[e,←hX])),⟨(congrArg (fun z=>V.t (T.v (Value.int _ z))) (by rw[e,←hX])),⟨(congrArg (V.own _) (by rw[e,←hX])),⟨(congrArg (V.own _) (by rw[e,←hX])),⟨(congrArg (V.own _) (by rw[e,←hX])),⟨(congrArg (V.own _) (by rw[e,←hX])),⟨(congrArg (V.own _) (by rw[e,←hX])),⟨(congrArg (V.own _) (by rw[e,←hX])),⟨(congrArg (V.own _) SI),I⟩⟩⟩⟩⟩⟩⟩⟩⟩⟩⟩⟩⟩⟩,I⟩⟩⟩⟩⟩,I⟩,?_,?_⟩
       rotate_left
       (dsimp only;omega)
       dsimp only
       omega
     ·rw[decide_eq_false hF]at crd
      have e:=jy (b:=d) (ts:=p.tasks) (fun q=>hF (q3 q))
      conv=>whnf
      refine Ws<|g 13 17 []<|J UE<|Wc<|J (fun _=>(Wk (Ws (Wb (g 20 23 [.call (V.i (sx:Int)) [[]]]<|J QZ (Ws ?_)))))) (noF SI)
      by_cases h1:(1000000:Int)≤Boss.given X
      refine g 17 58 (BF::BF::BF::BF::BF::(RL 25 BT [])) ?_
      conv=>whnf
      refine J QZ<|Wc<|J (fun _=>(We (rg [.i ((m:Int) +1)]<|J QZ ?_))) (noF rfl)
      rotate_left
      refine g 17 58 (RL 10 BF (.n (m)::BF::.x (ai y)::(RL 7 BF (.n (m)::BF::BF::.x (aI j)::(RL 8 BF [.call VF [[],[],[]],BF,BF]))))) ?_
      conv=>whnf
      refine J QZ<|Wc<|J (fun _=>(We (rg [.i ((m:Int) +1)]<|J QZ ?_))) (noF rfl)
      rotate_left
      all_goals refine⟨m+1,[some 138,some 2,some 3,some 4,some 5],[],⟨rfl,FZ,⟨⟨rfl,⟨rfl,⟨rfl,⟨rfl,⟨rfl,⟨rfl,⟨rfl,⟨I,⟨I,⟨I,⟨I,⟨I,UA⟩⟩⟩⟩⟩⟩⟩⟩⟩⟩⟩⟩,⟨FZ,⟨FZ,⟨FZ,⟨⟨rfl,⟨(congrArg (fun z=>V.t (T.v (Value.int _ z))) (by rw[e,←hX])),⟨(congrArg (fun z=>V.t (T.v (Value.bool z))) (by rw[e,←hX])),⟨(congrArg (fun z=>V.t (T.v (Value.int _ z))) (by rw[e,←hX])),⟨(congrArg (fun z=>V.t (T.v (Value.int _ z))) (by rw[e,←hX])),⟨(congrArg (fun z=>V.t (T.v (Value.int _ z))) (by rw[e,←hX])),⟨(congrArg (fun z=>V.t (T.v (Value.int _ z))) (by rw[e,←hX])),⟨(congrArg (V.own _) (by rw[e,←hX])),⟨(congrArg (V.own _) (by rw[e,←hX])),⟨(congrArg (V.own _) (by rw[e,←hX])),⟨(congrArg (V.own _) (by rw[e,←hX])),⟨(congrArg (V.own _) (by rw[e,←hX])),⟨(congrArg (V.own _) (by rw[e,←hX])),⟨(congrArg (V.own _) SI),I⟩⟩⟩⟩⟩⟩⟩⟩⟩⟩⟩⟩⟩⟩,I⟩⟩⟩⟩⟩,I⟩,?_,?_⟩
                rotate_left
                (dsimp only;omega)
                dsimp only
                omega
    ·have e:=jy (b:=d) (ts:=p.tasks) (fun q=>hB (q2 q))
     conv=>whnf
     refine Ws<|g 13 17 []<|J UE<|Wc<|J (fun _=>(Wk (Ws (Wb (g 20 23 [.call (V.i (sx:Int)) [[]]]<|J QZ (Ws ?_)))))) (noF SI)
     by_cases h1:(1000000:Int)≤Boss.given X
     refine g 17 58 (BF::BF::BF::BF::BF::(RL 25 BT [])) ?_
     conv=>whnf
     refine J QZ<|Wc<|J (fun _=>(We (rg [.i ((m:Int) +1)]<|J QZ ?_))) (noF rfl)
     rotate_left
     refine g 17 58 (RL 10 BF (.n (m)::BF::.x (ai y)::(RL 7 BF (.n (m)::BF::BF::.x (aI j)::BF::BF::(RL 8 BT []))))) ?_
     conv=>whnf
     refine J QZ<|Wc<|J (fun _=>(We (rg [.i ((m:Int) +1)]<|J QZ ?_))) (noF rfl)
     rotate_left
     all_goals refine⟨m+1,[some 138,some 2,some 3,some 4,some 5],[],⟨rfl,FZ,⟨⟨rfl,⟨rfl,⟨rfl,⟨rfl,⟨rfl,⟨rfl,⟨rfl,⟨I,⟨I,⟨I,⟨I,⟨I,UA⟩⟩⟩⟩⟩⟩⟩⟩⟩⟩⟩⟩,⟨FZ,⟨FZ,⟨FZ,⟨⟨rfl,⟨(congrArg (fun z=>V.t (T.v (Value.int _ z))) (by rw[e,←hX])),⟨(congrArg (fun z=>V.t (T.v (Value.bool z))) (by rw[e,←hX])),⟨(congrArg (fun z=>V.t (T.v (Value.int _ z))) (by rw[e,←hX])),⟨(congrArg (fun z=>V.t (T.v (Value.int _ z))) (by rw[e,←hX])),⟨(congrArg (fun z=>V.t (T.v (Value.int _ z))) (by rw[e,←hX])),⟨(congrArg (fun z=>V.t (T.v (Value.int _ z))) (by rw[e,←hX])),⟨(congrArg (V.own _) (by rw[e,←hX])),⟨(congrArg (V.own _) (by rw[e,←hX])),⟨(congrArg (V.own _) (by rw[e,←hX])),⟨(congrArg (V.own _) (by rw[e,←hX])),⟨(congrArg (V.own _) (by rw[e,←hX])),⟨(congrArg (V.own _) (by rw[e,←hX])),⟨(congrArg (V.own _) SI),I⟩⟩⟩⟩⟩⟩⟩⟩⟩⟩⟩⟩⟩⟩,I⟩⟩⟩⟩⟩,I⟩,?_,?_⟩
               rotate_left
               (dsimp only;omega)
               dsimp only
               omega
   ·have e:=jy (b:=d) (ts:=p.tasks) (fun q=>hA (q1 q))
    conv=>whnf
    refine Ws<|g 13 17 []<|J UE<|Wc<|J (fun _=>(Wk (Ws (Wb (g 20 23 [.call (V.i (sx:Int)) [[]]]<|J QZ (Ws ?_)))))) (noF SI)
    by_cases h1:(1000000:Int)≤Boss.given X
    refine g 17 58 (BF::BF::BF::BF::BF::(RL 25 BT [])) ?_
    conv=>whnf
    refine J QZ<|Wc<|J (fun _=>(We (rg [.i ((m:Int) +1)]<|J QZ ?_))) (noF rfl)
    rotate_left
    refine g 17 58 (RL 10 BF (.n (m)::BF::.x (ai y)::BF::BF::(RL 17 BT []))) ?_
    conv=>whnf
    refine J QZ<|Wc<|J (fun _=>(We (rg [.i ((m:Int) +1)]<|J QZ ?_))) (noF rfl)
    rotate_left
    all_goals refine⟨m+1,[some 138,some 2,some 3,some 4,some 5],[],⟨rfl,FZ,⟨⟨rfl,⟨rfl,⟨rfl,⟨rfl,⟨rfl,⟨rfl,⟨rfl,⟨I,⟨I,⟨I,⟨I,⟨I,UA⟩⟩⟩⟩⟩⟩⟩⟩⟩⟩⟩⟩,⟨FZ,⟨FZ,⟨FZ,⟨⟨rfl,⟨(congrArg (fun z=>V.t (T.v (Value.int _ z))) (by rw[e,←hX])),⟨(congrArg (fun z=>V.t (T.v (Value.bool z))) (by rw[e,←hX])),⟨(congrArg (fun z=>V.t (T.v (Value.int _ z))) (by rw[e,←hX])),⟨(congrArg (fun z=>V.t (T.v (Value.int _ z))) (by rw[e,←hX])),⟨(congrArg (fun z=>V.t (T.v (Value.int _ z))) (by rw[e,←hX])),⟨(congrArg (fun z=>V.t (T.v (Value.int _ z))) (by rw[e,←hX])),⟨(congrArg (V.own _) (by rw[e,←hX])),⟨(congrArg (V.own _) (by rw[e,←hX])),⟨(congrArg (V.own _) (by rw[e,←hX])),⟨(congrArg (V.own _) (by rw[e,←hX])),⟨(congrArg (V.own _) (by rw[e,←hX])),⟨(congrArg (V.own _) (by rw[e,←hX])),⟨(congrArg (V.own _) SI),I⟩⟩⟩⟩⟩⟩⟩⟩⟩⟩⟩⟩⟩⟩,I⟩⟩⟩⟩⟩,I⟩,?_,?_⟩
              rotate_left
              (dsimp only;omega)
              dsimp only
              omega
 obtain rfl:m = p.tasks.length:=by omega
 subst hX
 conv=>whnf
 refine Ws<|g 13 17 []<|J UE<|Wc<|J (noT SI) fun _=>We<|g 0 4 []<|J QZ<|RT ?_
 rfl
end Go.K
end
section
open Go Go.Tm Go.Proofs
namespace Go.K
theorem Xt{b:Boss}{ts:List Task}{n:Nat}{j:Job}(h:iJ b ts b.jobs.length)(hj:b.jobs[n]? = some j)(hz:j.lease = 0)(now:Int):gB (su now) b.jobs n = gB (su now) b.jobs (n+1):=by
 refine pL hj ?_
 obtain⟨h1,h2⟩:=(h n j (List.getElem?_eq_some_iff.1 hj).1 hj).1 hz
 obtain⟨l,w,t⟩:=j
 simp only at hz h1 h2
 subst hz h1 h2
 unfold su;split <;> rfl
theorem yY(b:Boss)(p:Plan)(hp:dy p)(h:BossLim b):F x7 [.val (fT b),.val (cV p)] (N3 (pW b p)) [[],[]]:=by
 have cv:=po b p hp h
 by_cases hv:BossOk b p
 ·rw[decide_eq_true hv]at cv
  rw[pq hv]
  have ct:=qD b h
  have hnow:=hv.now
  by_cases h0:b.now = 1000000
  ·rw[tY h0]
   refine gt ?_
   conv=>whnf
   refine g 1 2 []<|J QZ<|Ws<|g 10 13 [.call VT [[],[]]]<|J QZ<|Wc<|J (noT rfl) fun _=>Wk<|g 13 17 [.call (aF b) [[]]]<|J QZ<|Ws<|g 17 19 []<|J UC<|Wc<|J (fun _=>(g 19 22 []<|J QZ (RT ?_))) (noF tO)
   rfl
  ·by_cases hup:b.up = false
   ·rw[A5 h0 hup]
    refine gt ?_
    conv=>whnf
    refine g 1 2 []<|J QZ<|Ws<|g 10 13 [.call VT [[],[]]]<|J QZ<|Wc<|J (noT rfl) fun _=>Wk<|g 13 17 [.call (aF b) [[]]]<|J QZ<|Ws<|g 17 19 []<|J UC<|Wc<|J (noT dO) fun _=>Wk<|g 19 26 [.i (b.now+1)]<|J QZ<|Ws ?_
    refine g 26 28 []<|J UC<|Wc<|J (fun _=>(g 28 31 []<|J QZ (RT ?_))) (noF (nbT AS))
    rfl
   ·have hup2:b.up = true:=by cases hb:b.up;exact absurd hb hup;rfl
    obtain⟨u1,u2,u3,u4,u5,u6,⟨u7,u8⟩,⟨u9,u10⟩,u11,u12,u13,u14⟩:=hv.up hup2
    have hck:=hv.plan
    have hpl:=(bU hck).1
    have hwk:=hv.workers
    obtain⟨he1,he2⟩:=fr hv.code
    change 0≤(cx b p).epoch at he1
    change (cx b p).epoch≤300 at he2
    have l1:=h.safe
    have l2:=h.loose
    have hin:HandIn (dG b) p.tasks:=⟨hck,u3,by show(b.jobs.map _).length = _;rw[List.length_map];exact u4,by show b.seats.length≤8;omega,⟨u2,by show b.epoch≤300;omega⟩,⟨u9,u10⟩,⟨by show 0≤b.now+1;omega,by show b.now+1≤1000000;omega⟩⟩
    have ch:F lu [.val (aF ⟨b.workers,b.up,b.now+1,b.since,b.epoch,b.given,b.log,b.results,gB (su (b.now+1)) b.jobs b.jobs.length,b.seats,b.owed⟩),.val (cV p)] (N3 ⟨atB (dG b) (endH b p.tasks),(endH b p.tasks).out⟩) [[],[]]:=by
     rw[jv _ _ (Nat.le_refl _)];exact Ep (dG b) p hin
    have hdl:∀ t∈p.tasks,t.deps.length≤8:=fun t ht=>by
     obtain⟨k,hk⟩:=List.getElem?_of_mem ht
     exact(cq hck hk).2.2.1
    have hho:=mn (b:=dG b) (ts:=p.tasks) hdl u9 u10 p.tasks.length
    have k3:(endH b p.tasks).out.length≤40:=by have:=hho.out;show(aK _ _ _).out.length≤40;omega
    generalize hX:atB (dG b) (endH b p.tasks) = X at ch
    have ch2:F lu [.val (aF ⟨b.workers,b.up,b.now+1,b.since,b.epoch,b.given,b.log,b.results,gB (su (b.now+1)) b.jobs b.jobs.length,b.seats,b.owed⟩),.val (cV p)] (.agg [.t (.i X.workers),.t (.b X.up),.t (.i X.now),.t (.i X.since),.t (.i X.epoch),.t (.i X.given),.own [false] (X.log.safe.map ai),.own [false] (X.log.loose.map ai),.own [false] (X.results.map ai),.own dU (X.jobs.map aI),.own bJ (X.seats.map aE),.own bK (X.owed.map aJ),.own cS ((endH b p.tasks).out.map aL)]) [[],[]]:=ch
    clear ch
    have x1:X.since = b.since:=by rw[←hX];rfl
    have x2:X.log = b.log:=by rw[←hX];rfl
    have x3:X.owed = b.owed:=by rw[←hX];rfl
    have cl:=nq X.log (by rw[x2];exact l1) (by rw[x2];exact l2)
    refine gt ?_
    conv=>whnf
    refine g 1 2 []<|J QZ<|Ws<|g 10 13 [.call VT [[],[]]]<|J QZ<|Wc<|J (noT rfl) fun _=>Wk<|g 13 17 [.call (aF b) [[]]]<|J QZ<|Ws<|g 17 19 []<|J UC<|Wc<|J (noT dO) fun _=>Wk<|g 19 26 [.i (b.now+1)]<|J QZ<|Ws ?_
    refine g 26 28 []<|J UC<|Wc<|J (noT (nbF AS)) fun _=>Wk<|Ws<|g 28 29 []<|J UA<|Wb<|Wl (fun s (n:Nat)=>⟨(SK s [0,2,3,4,5] [(6,.i n)]),[(2,(CK s 2 0 12 [])),(3,[s.c 3 0]),(4,(CK s 4 0 13 [])),(5,[.t (.i b.workers),.t (.b b.up),.t (.i (b.now+1)),.t (.i b.since),.t (.i b.epoch),.t (.i b.given),.own [false] (b.log.safe.map ai),.own [false] (b.log.loose.map ai),.own [false] (b.results.map ai),.own dU ((gB (su (b.now+1)) b.jobs n).map aI),.own bJ (b.seats.map aE),.own bK (b.owed.map aJ)])],[]⟩) (fun(n:Nat)=>n≤b.jobs.length) (fun(n:Nat)=>b.jobs.length - n) (0) [some 2,some 3,some 4,some 5] [] FZ OM ?_
    intro n hn
    have hx:=ju (su (b.now+1)) b.jobs n
    by_cases hj:n < b.jobs.length
    ·obtain⟨j,hj1⟩:=ae hj
     by_cases hz:j.lease = 0
     ·have e1:=Xt u12 hj1 hz (b.now+1)
      conv=>whnf
      refine Ws<|g 31 35 []<|J UE<|Wc<|J (fun _=>(Wk (Ws (Wb (gd 35 55 [[],[],[],[.n (n)],[],[.x (aI j)],[],[],[BF],[BF],[BF],[BF],[BF],[BF],[BF],[BF],[BF],[BF]] ?_))))) (noF (by simp_all))
      conv=>whnf
      refine⟨⟨I,I,I,Zan,I,bw AS,I,I,nO,nO,nO,nO,nO,nO,nO,nO,nO,nO,I⟩,by kernel_rfl,?_⟩
      refine Wc<|J (noT rfl) fun _=>Wk<|rg [.i ((n:Int) +1)]<|J QZ ?_
      refine⟨n+1,[some 2,some 3,some 4,some 5],[],⟨rfl,FZ,⟨FZ,⟨FZ,⟨FZ,⟨⟨rfl,⟨rfl,⟨rfl,⟨rfl,⟨rfl,⟨rfl,⟨rfl,⟨rfl,⟨rfl,⟨rfl,⟨(congrArg (V.own _) (by rw[←e1])),FZ⟩⟩⟩⟩⟩⟩⟩⟩⟩⟩⟩,I⟩⟩⟩⟩,I⟩,?_,?_⟩
      rotate_left
      (dsimp only;omega)
      dsimp only
      omega
     ·by_cases hd:j.til≤b.now+1
      ·have e1:=Pf hj1 hd
       conv=>whnf
       refine Ws<|g 31 35 []<|J UE<|Wc<|J (fun _=>(Wk (Ws (Wb (gd 35 55 [[],[],[],[.n (n)],[],[.x (aI j)],[],[],[BT],[BT],[BT],[BT,.n (n)],[BT],[BT,.x (aI j)],[BT],[BT],[BT],[BT]] ?_))))) (noF (by simp_all))
       conv=>whnf
       refine⟨⟨I,I,I,Zan,I,bw AS,I,I,Zai,Zai,Zai,⟨dP OM,rfl,LN⟩,Zai,⟨dP OM,bw AS⟩,Zai,Zai,Zai,dP OM,I⟩,by kernel_rfl,?_⟩
       refine Wc<|J (fun _=>(rg [.n (n),.x (aI j)]<|J (QA @bw) (rg [.i ((n:Int) +1)]<|J QZ ?_))) (noF tO)
       refine⟨n+1,[some 2,some 3,some 4,some 5],[],⟨rfl,FZ,⟨FZ,⟨FZ,⟨FZ,⟨⟨rfl,⟨rfl,⟨rfl,⟨rfl,⟨rfl,⟨rfl,⟨rfl,⟨rfl,⟨rfl,⟨rfl,⟨(congrArg (V.own _) (e1)),FZ⟩⟩⟩⟩⟩⟩⟩⟩⟩⟩⟩,I⟩⟩⟩⟩,I⟩,?_,?_⟩
       rotate_left
       (dsimp only;omega)
       dsimp only
       omega
      ·have e1:=VG hj1 hd
       conv=>whnf
       refine Ws<|g 31 35 []<|J UE<|Wc<|J (fun _=>(Wk (Ws (Wb (gd 35 55 [[],[],[],[.n (n)],[],[.x (aI j)],[],[],[BT],[BT],[BT],[BT,.n (n)],[BT],[BT,.x (aI j)],[BT],[BT],[BT],[BT]] ?_))))) (noF (by simp_all))
       conv=>whnf
       refine⟨⟨I,I,I,Zan,I,bw AS,I,I,Zai,Zai,Zai,⟨dP OM,rfl,LN⟩,Zai,⟨dP OM,bw AS⟩,Zai,Zai,Zai,dP OM,I⟩,by kernel_rfl,?_⟩
       refine Wc<|J (noT dO) fun _=>Wk<|rg [.i ((n:Int) +1)]<|J QZ ?_
       refine⟨n+1,[some 2,some 3,some 4,some 5],[],⟨rfl,FZ,⟨FZ,⟨FZ,⟨FZ,⟨⟨rfl,⟨rfl,⟨rfl,⟨rfl,⟨rfl,⟨rfl,⟨rfl,⟨rfl,⟨rfl,⟨rfl,⟨(congrArg (V.own _) (by rw[←e1])),FZ⟩⟩⟩⟩⟩⟩⟩⟩⟩⟩⟩,I⟩⟩⟩⟩,I⟩,?_,?_⟩
       rotate_left
       (dsimp only;omega)
       dsimp only
       omega
    obtain rfl:n = b.jobs.length:=by omega
    have x4:X.epoch = b.epoch:=by rw[←hX];rfl
    have x5:X.owed.length≤2000:=by rw[x3];exact u11
    by_cases hs:b.since+1 = 2
    ·rw[nx h0 hup hs]
     conv=>whnf
     refine Ws<|g 31 35 []<|J UE<|Wc<|J (noT (by simp_all)) fun _=>We<|g 35 64 [.call (V.agg [V.t (T.i (Boss.workers X)),V.t (T.b (Boss.up X)),V.t (T.i (Boss.now X)),V.t (T.i (Boss.since X)),V.t (T.i (Boss.epoch X)),V.t (T.i (Boss.given X)),V.own [false] (List.map ai (Log.safe (Boss.log X))),V.own [false] (List.map ai (Log.loose (Boss.log X))),V.own [false] (List.map ai (Boss.results X)),V.own dU (List.map aI (Boss.jobs X)),V.own bJ (List.map aE (Boss.seats X)),V.own bK (List.map aJ (Boss.owed X)),V.own cS (List.map aL (Hand.out (endH b p.tasks)))]) [[],[]]]<|J QZ<|g 64 70 [.i (Boss.since X+1)]<|J QZ<|Ws<|g 70 73 []<|J UD<|Wc<|J (noT dO) fun _=>Wk<|g 5 7 []<|J QZ<|g 75 84 [.call (V.own [false] (List.map ai (Log.safe (Boss.log X) ++Log.loose (Boss.log X)))) [[]]]<|J QZ ?_
     refine Ws<|g 0 0 []<|J UA<|Wb<|Wl (fun s (n:Nat)=>⟨(SK s [0,2,3,4,7] [(8,.i n),(73,s.s 73)]),[(2,(CK s 2 0 12 [])),(3,[s.c 3 0]),(4,(CK s 4 0 13 [])),(7,[.t (.i X.workers),.t (.b X.up),.t (.i X.now),.t (.i 0),.t (.i X.epoch),.t (.i X.given),.own [false] ((X.log.safe++X.log.loose).map ai),.own [false] [],.own [false] (X.results.map ai),.own dU (X.jobs.map aI),.own bJ (X.seats.map aE),.own bK (X.owed.map aJ),.own cS (((endH b p.tasks).out++ (X.owed.take n).map (nY X.epoch)).map aL)])],[]⟩) (fun(n:Nat)=>n≤X.owed.length) (fun(n:Nat)=>X.owed.length - n) (0) [some 2,some 3,some 4,some 7] [] ⟨rfl,FZ,⟨FZ,⟨FZ,⟨FZ,⟨⟨rfl,⟨rfl,⟨rfl,⟨rfl,⟨rfl,⟨rfl,⟨rfl,⟨rfl,⟨rfl,⟨rfl,⟨rfl,⟨rfl,⟨rfl,⟨(congrArg (V.own _) (by rw[List.take_zero,List.map_nil,List.append_nil])),I⟩⟩⟩⟩⟩⟩⟩⟩⟩⟩⟩⟩⟩⟩,I⟩⟩⟩⟩,I⟩ OM ?_
     intro n hn3
     by_cases hn2:n < X.owed.length
     ·obtain⟨o,ho⟩:=ae hn2
      have eo:=xa (out:=(endH b p.tasks).out) (ep:=X.epoch) ho
      conv=>whnf
      refine Ws<|g 84 89 []<|J UF<|Wc<|J (fun _=>(Wk (Ws (Wb (g 89 98 [.n (n),.x (aJ o)]<|J QZ (rg []<|J QZ (rg [.i ((n:Int) +1)]<|J QZ ?_))))))) (noF (by simp_all))
      refine⟨n+1,[some 2,some 3,some 4,some 7],[],⟨rfl,FZ,⟨FZ,⟨FZ,⟨FZ,⟨⟨rfl,⟨rfl,⟨rfl,⟨rfl,⟨rfl,⟨rfl,⟨rfl,⟨rfl,⟨rfl,⟨rfl,⟨rfl,⟨rfl,⟨rfl,⟨(congrArg (V.own _) (eo)),I⟩⟩⟩⟩⟩⟩⟩⟩⟩⟩⟩⟩⟩⟩,I⟩⟩⟩⟩,I⟩,?_,?_⟩
      rotate_left
      (dsimp only;omega)
      dsimp only
      omega
     ·have et:X.owed.take n = X.owed:=aH OM
      conv=>whnf
      refine Ws<|g 84 89 []<|J UF<|Wc<|J (noT (by simp_all)) fun _=>We<|g 89 114 []<|J UW<|g 0 4 []<|J QZ<|RT ?_
      rw[et]
      subst hX
      rfl
    ·rw[pz h0 hup hs]
     conv=>whnf
     refine Ws<|g 31 35 []<|J UE<|Wc<|J (noT (by simp_all)) fun _=>We<|g 35 64 [.call (V.agg [V.t (T.i (Boss.workers X)),V.t (T.b (Boss.up X)),V.t (T.i (Boss.now X)),V.t (T.i (Boss.since X)),V.t (T.i (Boss.epoch X)),V.t (T.i (Boss.given X)),V.own [false] (List.map ai (Log.safe (Boss.log X))),V.own [false] (List.map ai (Log.loose (Boss.log X))),V.own [false] (List.map ai (Boss.results X)),V.own dU (List.map aI (Boss.jobs X)),V.own bJ (List.map aE (Boss.seats X)),V.own bK (List.map aJ (Boss.owed X)),V.own cS (List.map aL (Hand.out (endH b p.tasks)))]) [[],[]]]<|J QZ<|g 64 70 [.i (Boss.since X+1)]<|J QZ<|Ws<|g 70 73 []<|J UD<|Wc<|J (fun _=>(g 5 7 []<|J QZ (RT ?_))) (noF tO)
     subst hX
     rfl
 ·rw[decide_eq_false hv]at cv
  rw[CD hv]
  refine gt ?_
  conv=>whnf
  refine g 1 2 []<|J QZ<|Ws<|g 10 13 [.call VF [[],[]]]<|J QZ<|Wc<|J (fun _=>(g 13 15 []<|J QZ (RT ?_))) (noF rfl)
  rfl
end Go.K
end
section
open Go Go.Tm Go.Proofs
namespace Go.K
structure LedSmall (x:Led):Prop where
 boss:BossSmall x.boss
 out:x.out.length≤2097152
 inp:∀ m∈x.out,m.inputs.length≤8
theorem Jm:LedSmall Il:=⟨ub,Nat.zero_le _,fun m hm=>by cases hm⟩
theorem xQ{b:Boss}(p:Plan)(h:BossLim b):LedSmall (pW b p):=by
 unfold pW;split
 ·rename_i hv
  have hs:=wH h
  unfold iw;split
  ·exact⟨hs,Nat.zero_le _,fun m hm=>by cases hm⟩
  ·split
   ·exact⟨⟨hs.1,hs.2,hs.3,hs.4,hs.5,hs.6⟩,Nat.zero_le _,fun m hm=>by cases hm⟩
   ·rename_i hup
    have hup2:b.up = true:=by cases hb:b.up;exact absurd hb hup;rfl
    obtain⟨u1,u2,u3,u4,u5,u6,⟨u7,u8⟩,⟨u9,u10⟩,u11,u12,u13,u14⟩:=hv.up hup2
    have hck:=hv.plan
    have hpl:=(bU hck).1
    have hdl:∀ t∈p.tasks,t.deps.length≤8:=fun t ht=>by
     obtain⟨k,hk⟩:=List.getElem?_of_mem ht
     exact(cq hck hk).2.2.1
    obtain⟨k1,k2,k3,k4,k5,k6⟩:=mn (b:=dG b) (ts:=p.tasks) hdl u9 u10 p.tasks.length
    have k7:(dG b).jobs.length = b.jobs.length:=by show(b.jobs.map _).length = _;rw[List.length_map]
    have k8:(dG b).seats.length = b.seats.length:=rfl
    have g1:=h.safe
    have g2:=h.loose
    have g3:=h.seats
    have g4:=h.res
    have j1:(endH b p.tasks).jobs.length≤4194304:=by show(aK _ _ _).jobs.length≤_;omega
    have j2:(endH b p.tasks).seats.length≤4194304:=by show(aK _ _ _).seats.length≤_;omega
    have j3:(endH b p.tasks).out.length≤40:=by show(aK _ _ _).out.length≤_;omega
    split
    ·refine⟨⟨?_,Nat.zero_le _,by show b.results.length≤_;omega,j1,j2,Nat.zero_le _⟩,?_,?_⟩
     ·simp only[List.length_append];omega
     ·simp only[List.length_append,List.length_map];omega
     ·intro m hm
      rcases List.mem_append.1 hm with hm|hm
      ·exact k6 m hm
      ·obtain⟨o,_,rfl⟩:=List.mem_map.1 hm
       exact Nat.zero_le _
    ·exact⟨⟨by show b.log.safe.length≤_;omega,by show b.log.loose.length≤_;omega,by show b.results.length≤_;omega,j1,j2,by show b.owed.length≤_;omega⟩,by show(endH b p.tasks).out.length≤_;omega,k6⟩
 ·exact Jm
end Go.K
end

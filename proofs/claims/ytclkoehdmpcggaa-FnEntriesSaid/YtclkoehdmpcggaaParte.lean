/- Contracts of functions of the program: what each call answers. -/
import Derived.Test.YtclkoehdmpcggaaPartd
section
set_option linter.unusedVariables false
set_option linter.unusedSimpArgs false
set_option maxHeartbeats 4000000
set_option maxRecDepth 20000
open Go Go.Tm Go.Proofs
namespace Go.K
def planSmall (p:Plan):Prop:=p.tasks.length ≤ 64 ∧ ∀ t ∈ p.tasks,t.name.size ≤ 64 ∧ t.deps.length ≤ 64
def decS (n:Int):ByteArray:=if n < 10 then bl [48 + n] else bl [48 + n.tdiv 10] ++ bl [48 + n.tmod 10]
theorem decS_size (n:Int):(decS n).size ≤ 2:=by
 unfold decS; split
 ·rw [bl_size]; simp
 ·rw [ByteArray.size_append,bl_size,bl_size]; simp
theorem tdiv10p {n:Int} (h:0 ≤ n):n.tdiv 10 = n / 10:=Int.tdiv_eq_ediv_of_nonneg h
theorem tmod10p {n:Int} (h:0 ≤ n):n.tmod 10 = n % 10:=Int.tmod_eq_emod_of_nonneg h
theorem c_dec1 (n:Int) (h0:0 ≤ n) (h1:n < 10):F n_spec_l1Dec [.val (.i n)] (.s (decS n)) [[]]:=by
 have e:decS n = bl [48 + n]:=if_pos h1
 refine i_spec_l1Dec ?_
 conv=>whnf
 refine g 0 0 [] ?_
 conv=>whnf
 refine ⟨⟨I,I⟩,?_⟩
 refine W.sq ?_
 refine g 3 4 [] ?_
 conv=>whnf
 refine ⟨⟨I,I,I⟩,?_⟩
 refine W.cn ?_
 conv=>whnf
 refine ⟨noT (dF (by omega)),fun _=>?_⟩
 refine W.skip ?_
 refine W.sq ?_
 refine g 4 5 [] ?_
 conv=>whnf
 refine ⟨⟨I,I,I⟩,?_⟩
 refine W.cn ?_
 conv=>whnf
 refine ⟨fun _=>?_,noF (dT (by omega))⟩
 refine g 10 16 [.i ((48:Int) + n),.i ((48:Int) + n),.s ({ data:=List.toArray (bytesOf [[T.v (Value.int IntKind.u8 ((48:Int) + n))]]):ByteArray })] ?_
 conv=>whnf
 refine ⟨⟨I,w64 (by omega) (by omega),wu8 (by omega) (by omega),⟨⟨I,I⟩,I⟩,⟨I,(by repeat (first | exact allU8_nil | refine allU8_cons ?_)),rfl⟩,I,I⟩,?_⟩
 refine W.ret ?_
 refine EndsW.rt ?_
 conv=>whnf
 refine ⟨⟨I,I,I⟩,?_,rfl⟩
 rw [e]; exact vs (bytes_b1 [48 + n])
theorem c_spec_l1Dec (n:Int) (h0:0 ≤ n) (h1:n < 100):F n_spec_l1Dec [.val (.i n)] (.s (decS n)) [[]]:=by
 by_cases h2:n < 10
 ·exact c_dec1 n h0 h2
 ·have e:decS n = bl [48 + n.tdiv 10] ++ bl [48 + n.tmod 10]:=if_neg h2
  have q1:=tdiv10p h0
  have q2:=tmod10p h0
  have e2:decS (n.tdiv 10) = bl [48 + n.tdiv 10]:=if_pos (by omega)
  have c:=c_dec1 (n.tdiv 10) (by omega) (by omega)
  have hsz:=decS_size (n.tdiv 10)
  refine i_spec_l1Dec ?_
  conv=>whnf
  refine g 0 0 [] ?_
  conv=>whnf
  refine ⟨⟨I,I⟩,?_⟩
  refine W.sq ?_
  refine g 3 4 [] ?_
  conv=>whnf
  refine ⟨⟨I,I,I⟩,?_⟩
  refine W.cn ?_
  conv=>whnf
  refine ⟨noT (dF (by omega)),fun _=>?_⟩
  refine W.skip ?_
  refine W.sq ?_
  refine g 4 5 [] ?_
  conv=>whnf
  refine ⟨⟨I,I,I⟩,?_⟩
  refine W.cn ?_
  conv=>whnf
  refine ⟨noT (dF (by omega)),fun _=>?_⟩
  refine W.skip ?_
  refine gd 10 26 [[],[.i (Int.tdiv n (10:Int))],[.call (V.s (decS (Int.tdiv n (10:Int)))) ([[]])],[],[.i (Int.tmod n (10:Int))],[.i ((48:Int) + Int.tmod n (10:Int))],[.i ((48:Int) + Int.tmod n (10:Int))],[],[.s ({ data:=List.toArray (bytesOf [[T.v (Value.int IntKind.u8 ((48:Int) + Int.tmod n (10:Int)))]]):ByteArray })],[.s (decS (Int.tdiv n (10:Int)) ++ { data:=List.toArray (bytesOf [[T.v (Value.int IntKind.u8 ((48:Int) + Int.tmod n (10:Int)))]]):ByteArray })],[]] ?_
  conv=>whnf
  refine ⟨⟨I,⟨(by omega),w64 (by omega) (by omega)⟩,⟨⟨I,I⟩,I,⟨⟨I,I⟩,I⟩,⟨I,I⟩,(by assumption)⟩,I,⟨(by omega),rfl⟩,w64 (by omega) (by omega),wu8 (by omega) (by omega),⟨⟨I,I⟩,I⟩,⟨I,(by repeat (first | exact allU8_nil | refine allU8_cons ?_)),rfl⟩,⟨rfl,(by simp only [bsz,ByteArray.size_append,lens]; omega)⟩,I,I⟩,by kernel_rfl,?_⟩
  refine W.ret ?_
  refine EndsW.rt ?_
  conv=>whnf
  refine ⟨⟨I,I,I⟩,?_,rfl⟩
  rw [e,e2]; exact vs (congrArg (bl [48 + n.tdiv 10] ++ ·) (bytes_b1 [48 + n.tmod 10]))
theorem c_spec_l1Bytes (l:List Int) (pos:Int) (hl:u8ok l) (h0:0 ≤ pos) (h1:pos ≤ 1048576):F n_spec_l1Bytes [.ptr (rdC l pos)] (.s (sumT (decS (pickV l pos 50)))) [rdC l (pos + 1)]:=by
 have hp:=pick_rng l pos 50
 have c:=c_spec_l1Rd_pick l pos 50 hl h0 h1 (by omega)
 have cd:=c_spec_l1Dec (pickV l pos 50) (by omega) (by omega)
 have hs:=decS_size (pickV l pos 50)
 have cs:=c_spec_l1Sum (decS (pickV l pos 50)) (by omega)
 refine i_spec_l1Bytes ?_
 conv=>whnf
 refine g 0 0 [] ?_
 conv=>whnf
 refine ⟨⟨I,I⟩,?_⟩
 refine g 3 7 [.call (V.i (pickV l pos (50:Int))) ([rdC l (pos + (1:Int)),[]]),.call (V.s (decS (pickV l pos (50:Int)))) ([[]]),.call (V.s (bl (beL (fnvs h0v (decS (pickV l pos (50:Int))) (ByteArray.size (decS (pickV l pos (50:Int))))) (8:Nat)))) ([[]])] ?_
 conv=>whnf
 refine ⟨⟨I,⟨⟨I,I,I⟩,I,⟨I,⟨I,I⟩,I⟩,⟨I,I⟩,(by assumption)⟩,⟨⟨I,I⟩,I,⟨⟨I,I⟩,I⟩,⟨I,I⟩,(by assumption)⟩,⟨⟨I,I⟩,I,⟨⟨I,I⟩,I⟩,⟨I,I⟩,(by assumption)⟩,I,I⟩,?_⟩
 refine W.ret ?_
 refine EndsW.rt ?_
 conv=>whnf
 refine ⟨⟨I,I,I⟩,?_,rfl⟩
 rw [fnvs_all]; rfl
theorem c_spec_l1Plan (p:Plan) (h:planSmall p):F n_spec_l1Plan [.val (planR p)] (planO p) [[]]:=by
 obtain ⟨hp1,hp2⟩:=h
 refine i_spec_l1Plan ?_
 conv=>whnf
 refine g 0 0 [] ?_
 conv=>whnf
 refine ⟨⟨⟨I,I⟩,I,I⟩,?_⟩
 refine g 6 7 [] ?_
 conv=>whnf
 refine ⟨⟨I,I,⟨I,I⟩,I⟩,?_⟩
 refine W.sq ?_
 refine g 0 0 [] ?_
 conv=>whnf
 refine ⟨⟨I,I⟩,?_⟩
 refine W.blk ?_
 refine W.lp (fun s (n:Nat)=>⟨[(0,s.s 0),(1,s.s 1),(2,s.s 2),(3,s.s 3),(4,.i n)],[(1,[s.c 1 0]),(2,[s.c 2 0]),(34,[s.c 34 0]),(3,[.own taskK ((p.tasks.take n).map taskT)])],[]⟩) (fun (n:Nat)=>n ≤ p.tasks.length) (fun (n:Nat)=>p.tasks.length - n) (0) [some 1,some 2,some 34,some 3] [] ⟨rfl,⟨⟨_,rfl,_,_,rfl,rfl,rfl⟩,rfl,rfl,rfl,rfl,I⟩,⟨⟨rfl,⟨rfl,I⟩⟩,⟨⟨rfl,⟨rfl,I⟩⟩,⟨⟨rfl,⟨rfl,I⟩⟩,⟨⟨rfl,⟨rfl,I⟩⟩,I⟩⟩⟩⟩,I⟩ (by omega) ?_
 intro n hn
 conv=>whnf
 refine W.sq ?_
 refine g 7 11 [] ?_
 conv=>whnf
 refine ⟨⟨I,I,I,I,I,I⟩,?_⟩
 refine W.cn ?_
 conv=>whnf
 refine ⟨fun h1=>?_,fun h1=>?_⟩
 replace h1:=dt h1
 simp only [List.length_map] at h1
 refine W.skip ?_
 refine W.sq ?_
 refine W.blk ?_
 obtain ⟨y1,hy1⟩:=some_at (xs:=Plan.tasks p) (n:=n) (by omega)
 have hm1:=hp2 y1 (List.mem_of_getElem? hy1)
 refine g 11 19 [.x (taskT y1)] ?_
 conv=>whnf
 refine ⟨⟨I,I,I,⟨(by omega),ixl (by assumption)⟩,I,I,⟨I,I,I,I⟩,I⟩,?_⟩
 refine rgd [[],[],[],[],[],[],[],[],[],[],[],[],[],[],[]] ?_
 conv=>whnf
 refine ⟨⟨I,I,I,I,I,I,I,I,I,⟨I,I,(by simp only [lens]; omega)⟩,I,⟨⟨I,I,I,I⟩,I⟩,⟨I,I,(by simp only [lens]; omega)⟩,I,⟨I,I⟩,I⟩,by kernel_rfl,?_⟩
 refine rg [.i ((↑n:Int) + (1:Int))] ?_
 conv=>whnf
 refine ⟨⟨I,w64 (by omega) (by omega),I,I⟩,?_⟩
 rotate_left 1
 replace h1:=df h1
 simp only [List.length_map] at h1
 refine W.exit ?_
 refine g 3 34 [] ?_
 conv=>whnf
 refine ⟨⟨I,⟨I,I⟩,I⟩,?_⟩
 refine W.ret ?_
 refine EndsW.rt ?_
 conv=>whnf
 refine ⟨⟨I,I,I⟩,?_,rfl⟩
 rotate_left 1
 ·refine ⟨n + 1,[some 1,some 2,some 34,some 3],[],⟨rfl,⟨⟨_,rfl,_,_,rfl,rfl,rfl⟩,rfl,rfl,rfl,rfl,I⟩,⟨⟨rfl,⟨rfl,I⟩⟩,⟨⟨rfl,⟨rfl,I⟩⟩,⟨⟨rfl,⟨rfl,I⟩⟩,⟨⟨rfl,⟨(congrArg (V.own _) (snoc_take (by assumption))),I⟩⟩,I⟩⟩⟩⟩,I⟩,?_,?_⟩
  rotate_left 1
  (dsimp only; omega)
  dsimp only
  omega
 ·rw [take_all (by omega)]
theorem half_size {m t:Int} (h:0 ≤ m):(m / 2) * (t + t) = m * t - (m % 2) * t:=by
 have e:m * t = (2 * (m / 2) + m % 2) * t:=by rw [show 2 * (m / 2) + m % 2 = m by omega]
 rw [e,Int.add_mul,Int.mul_add,Int.mul_assoc,Int.two_mul]; omega
theorem ex_Many (s:ByteArray) (n:Int) (h0:0 ≤ n) (h1:n ≤ 64) (hs:s.size ≤ 64):∃ res outs,(∃ t,res = .s t ∧ outs = [[],[]] ∧ (t.size:Int) ≤ 4096) ∧ F n_spec_l1Many [.val (.s s),.val (.i n)] res outs:=by
 have hns:n * (s.size:Int) ≤ 4096:=by
  have:=Int.mul_le_mul_of_nonneg_right h1 (show (0:Int) ≤ s.size by omega)
  omega
 refine x_spec_l1Many ?_
 conv=>whnf
 refine g 0 0 [] ?_
 conv=>whnf
 refine ⟨⟨I,I⟩,?_⟩
 refine g 0 0 [] ?_
 conv=>whnf
 refine ⟨⟨I,I⟩,?_⟩
 refine W.sq ?_
 refine W.blk ?_
 refine W.lp (fun s (x:ByteArray × ByteArray × Int)=>⟨[(0,.s x.2.1),(1,.i x.2.2),(4,s.s 4),(5,.s x.1)],[],[]⟩) (fun (x:ByteArray × ByteArray × Int)=>0 ≤ x.2.2 ∧ x.2.2 ≤ 64 ∧ (x.1.size:Int) + x.2.2 * x.2.1.size ≤ 4096) (fun (x:ByteArray × ByteArray × Int)=>x.2.2.toNat) ((emp,s,n)) [] [] ⟨rfl,⟨rfl,rfl,rfl,rfl,I⟩,I,I⟩ ?_ ?_
 ·refine ⟨h0,h1,?_⟩
  have:emp.size = 0:=rfl
  show ((emp.size:Nat):Int) + n * s.size ≤ 4096
  omega
 rintro ⟨o,t,m⟩ ⟨hm0,hm1,hsz⟩
 dsimp only at hm0 hm1 hsz
 have q1:m.tdiv 2 = m / 2:=Int.tdiv_eq_ediv_of_nonneg hm0
 have q2:m.tmod 2 = m % 2:=Int.tmod_eq_emod_of_nonneg hm0
 have q3:=half_size (t:=(t.size:Int)) hm0
 by_cases hm:0 < m
 ·have q4:=Int.mul_le_mul_of_nonneg_right (show 1 ≤ m by omega) (show (0:Int) ≤ t.size by omega)
  rw [Int.one_mul] at q4
  by_cases ho:m.tmod 2 = 1
  ·have q5:m % 2 = 1:=by omega
   rw [q5,Int.one_mul] at q3
   conv=>whnf
   refine W.sq ?_
   refine g 6 7 [] ?_
   conv=>whnf
   refine ⟨⟨I,I,I⟩,?_⟩
   refine W.cn ?_
   conv=>whnf
   refine ⟨fun _=>?_,noF (dT (by omega))⟩
   refine W.skip ?_
   refine W.blk ?_
   refine W.sq ?_
   refine g 7 9 [.i (Int.tmod (Prod.snd (Prod.snd (o,t,m))) (2:Int))] ?_
   conv=>whnf
   refine ⟨⟨I,⟨(by omega),rfl⟩,I,I⟩,?_⟩
   refine W.cn ?_
   conv=>whnf
   refine ⟨fun _=>?_,noF (dT (by omega))⟩
   refine rg [.s (Prod.fst (o,t,m) ++ Prod.fst (Prod.snd (o,t,m)))] ?_
   conv=>whnf
   refine ⟨⟨I,I,⟨rfl,(by simp only [lens]; omega)⟩,I,I⟩,?_⟩
   refine g 10 17 [.s (Prod.fst (Prod.snd (o,t,m)) ++ Prod.fst (Prod.snd (o,t,m)))] ?_
   conv=>whnf
   refine ⟨⟨I,I,⟨rfl,(by simp only [lens]; omega)⟩,I,I⟩,?_⟩
   refine rg [.i (Int.tdiv (Prod.snd (Prod.snd (o,t,m))) (2:Int))] ?_
   conv=>whnf
   refine ⟨⟨I,⟨(by omega),w64 (by simp only [lens]; omega) (by simp only [lens]; omega)⟩,I,I⟩,?_⟩
   refine ⟨(o ++ t,t ++ t,m / 2),[],[],⟨rfl,⟨rfl,(congrArg (fun z=>V.t (T.v (Value.int _ z))) (q1)),rfl,rfl,I⟩,I,I⟩,?_,?_⟩
   rotate_left 1
   (dsimp only; omega)
   dsimp only
   refine ⟨by omega,by omega,?_⟩
   rw [ByteArray.size_append,ByteArray.size_append,Int.natCast_add,Int.natCast_add,q3]; omega
  ·have q5:m % 2 = 0:=by omega
   rw [q5,Int.zero_mul] at q3
   conv=>whnf
   refine W.sq ?_
   refine g 6 7 [] ?_
   conv=>whnf
   refine ⟨⟨I,I,I⟩,?_⟩
   refine W.cn ?_
   conv=>whnf
   refine ⟨fun _=>?_,noF (dT (by omega))⟩
   refine W.skip ?_
   refine W.blk ?_
   refine W.sq ?_
   refine g 7 9 [.i (Int.tmod (Prod.snd (Prod.snd (o,t,m))) (2:Int))] ?_
   conv=>whnf
   refine ⟨⟨I,⟨(by omega),rfl⟩,I,I⟩,?_⟩
   refine W.cn ?_
   conv=>whnf
   refine ⟨noT (dF (by omega)),fun _=>?_⟩
   refine W.skip ?_
   refine g 10 17 [.s (Prod.fst (Prod.snd (o,t,m)) ++ Prod.fst (Prod.snd (o,t,m)))] ?_
   conv=>whnf
   refine ⟨⟨I,I,⟨rfl,(by simp only [lens]; omega)⟩,I,I⟩,?_⟩
   refine rg [.i (Int.tdiv (Prod.snd (Prod.snd (o,t,m))) (2:Int))] ?_
   conv=>whnf
   refine ⟨⟨I,⟨(by omega),w64 (by simp only [lens]; omega) (by simp only [lens]; omega)⟩,I,I⟩,?_⟩
   refine ⟨(o,t ++ t,m / 2),[],[],⟨rfl,⟨rfl,(congrArg (fun z=>V.t (T.v (Value.int _ z))) (q1)),rfl,rfl,I⟩,I,I⟩,?_,?_⟩
   rotate_left 1
   (dsimp only; omega)
   dsimp only
   refine ⟨by omega,by omega,?_⟩
   rw [ByteArray.size_append,Int.natCast_add,q3]; omega
 ·conv=>whnf
  refine W.sq ?_
  refine g 6 7 [] ?_
  conv=>whnf
  refine ⟨⟨I,I,I⟩,?_⟩
  refine W.cn ?_
  conv=>whnf
  refine ⟨noT (dF (by omega)),fun _=>?_⟩
  refine W.exit ?_
  refine g 5 20 [] ?_
  conv=>whnf
  refine ⟨⟨I,I,I⟩,?_⟩
  refine W.ret ?_
  refine EndsW.rt ?_
  conv=>whnf
  refine ⟨⟨I,I,I⟩,?_⟩
  rw [show m = 0 by omega,Int.zero_mul] at hsz
  exact ⟨o,rfl,rfl,by omega⟩
theorem ex_Draw (l:List Int) (pos:Int) (hl:u8ok l) (h0:0 ≤ pos) (h1:pos ≤ 1000000):∃ res outs,(∃ p pos2,res = planO p ∧ outs = [rdC l pos2] ∧ planSmall p ∧ 1 ≤ p.tasks.length ∧ pos ≤ pos2 ∧ pos2 ≤ pos + 4000) ∧ F n_spec_l1Draw [.ptr (rdC l pos)] res outs:=by
 have hp1:=pick_rng l pos 6
 have hp2:=pick_rng l (pos + 1) 12
 by_cases h12:pickV l (pos + 1) 12 = 0
 ·refine x_spec_l1Draw ?_
  conv=>whnf
  refine g 0 0 [] ?_
  conv=>whnf
  refine ⟨⟨I,I⟩,?_⟩
  refine g 9 11 [.call (V.i (pickV l pos (6:Int))) ([rdC l (pos + (1:Int)),[]]),.i ((1:Int) + pickV l pos (6:Int))] ?_
  conv=>whnf
  refine ⟨⟨I,⟨⟨I,I,I⟩,I,⟨I,⟨I,I⟩,I⟩,⟨I,I⟩,Go.K.c_spec_l1Rd_pick _ _ _ (by omega) (by omega) (by omega) (by omega)⟩,w64 (by omega) (by omega),I,I⟩,?_⟩
  refine W.sq ?_
  refine g 11 13 [.call (V.i (pickV l (pos + (1:Int)) (12:Int))) ([rdC l (pos + (1:Int) + (1:Int)),[]])] ?_
  conv=>whnf
  refine ⟨⟨I,⟨⟨I,I,I⟩,I,⟨I,⟨I,I⟩,I⟩,⟨I,I⟩,Go.K.c_spec_l1Rd_pick _ _ _ (by omega) (by omega) (by omega) (by omega)⟩,I,I⟩,?_⟩
  refine W.cn ?_
  conv=>whnf
  refine ⟨fun _=>?_,noF (dT (by omega))⟩
  refine rg [] ?_
  conv=>whnf
  refine ⟨⟨I,I⟩,?_⟩
  refine g 13 15 [] ?_
  conv=>whnf
  refine ⟨⟨I,I,⟨I,I⟩,I⟩,?_⟩
  refine W.sq ?_
  refine g 0 0 [] ?_
  conv=>whnf
  refine ⟨⟨I,I⟩,?_⟩
  refine W.blk ?_
  refine W.lp (fun s (x:Nat × List Task × Int)=>⟨[(0,s.s 0),(2,s.s 2),(3,s.s 3),(4,s.s 4),(5,.i x.1),(8,s.s 8)],[(2,[s.c 2 0]),(69,[.t (u8s l),.t (.i x.2.2)]),(4,[.own taskK (x.2.1.map taskT)])],[]⟩) (fun (x:Nat × List Task × Int)=>(x.1:Int) ≤ 40 ∧ x.2.1.length = x.1 ∧ (∀ t ∈ x.2.1,t.name.size ≤ 64 ∧ t.deps.length ≤ 64) ∧ pos + 2 ≤ x.2.2 ∧ x.2.2 ≤ pos + 2 + 90 * x.1) (fun (x:Nat × List Task × Int)=>((40:Int) - x.1).toNat) ((0,[],pos + 2)) [some 2,some 69,some 4] [] ⟨rfl,⟨rfl,rfl,rfl,rfl,rfl,rfl,I⟩,⟨⟨rfl,⟨rfl,I⟩⟩,⟨⟨rfl,⟨rfl,⟨(congrArg (fun z=>V.t (T.v (Value.int _ z))) (by show pos + 1 + 1 = pos + 2; omega)),I⟩⟩⟩,⟨⟨rfl,⟨rfl,I⟩⟩,I⟩⟩⟩,I⟩ (by simp) ?_
  rintro ⟨i,ts,q⟩ ⟨hi,hlen,hsm,hq1,hq2⟩
  dsimp only at hi hlen hsm hq1 hq2
  have p5:=pick_rng l q 5
  have p8:=pick_rng l (q + 1) 8
  by_cases hi2:(i:Int) < 40
  ·have cd:=c_spec_l1Dec i (by omega) (by omega)
   have hds:=decS_size i
   by_cases h8:pickV l (q + 1) 8 = 0
   ·skip
    conv=>whnf
    refine W.sq ?_
    refine g 15 17 [] ?_
    conv=>whnf
    refine ⟨⟨I,I,I,I⟩,?_⟩
    refine W.cn ?_
    conv=>whnf
    refine ⟨fun _=>?_,noF (dT (by omega))⟩
    refine W.skip ?_
    refine W.sq ?_
    refine W.blk ?_
    refine g 17 27 [.call (V.s (decS (↑i:Int))) ([[]]),.s ({ data:=#[(116:UInt8)]:ByteArray } ++ decS (↑i:Int)),.call (V.i (pickV l q (5:Int))) ([rdC l (q + (1:Int)),[]]),.i ((1:Int) + pickV l q (5:Int))] ?_
    conv=>whnf
    refine ⟨⟨I,⟨⟨I,I⟩,I,⟨⟨I,I⟩,I⟩,⟨I,I⟩,(by assumption)⟩,⟨rfl,(by simp only [bsz,bsa,ByteArray.size_append,List.size_toArray,lens]; omega)⟩,I,⟨⟨I,I,I⟩,I,⟨I,⟨I,I⟩,I⟩,⟨I,I⟩,Go.K.c_spec_l1Rd_pick _ _ _ (by first | omega | decide | assumption | (simp only [ByteArray.size_extract,List.length_map]; omega) | simp [*]) (by first | omega | decide | assumption | (simp only [ByteArray.size_extract,List.length_map]; omega) | simp [*]) (by first | omega | decide | assumption | (simp only [ByteArray.size_extract,List.length_map]; omega) | simp [*]) (by first | omega | decide | assumption | (simp only [ByteArray.size_extract,List.length_map]; omega) | simp [*])⟩,w64 (by omega) (by omega),I,I,⟨I,I,I,I⟩,I⟩,?_⟩
    refine W.sq ?_
    refine g 27 29 [.call (V.i (pickV l (q + (1:Int)) (8:Int))) ([rdC l (q + (1:Int) + (1:Int)),[]])] ?_
    conv=>whnf
    refine ⟨⟨I,⟨⟨I,I,I⟩,I,⟨I,⟨I,I⟩,I⟩,⟨I,I⟩,Go.K.c_spec_l1Rd_pick _ _ _ (by omega) (by omega) (by omega) (by omega)⟩,I,I⟩,?_⟩
    refine W.cn ?_
    conv=>whnf
    refine ⟨fun _=>?_,noF (dT (by omega))⟩
    refine rg [] ?_
    conv=>whnf
    refine ⟨⟨I,⟨I,I⟩,I⟩,?_⟩
    refine W.sq ?_
    refine g 29 31 [] ?_
    conv=>whnf
    refine ⟨⟨I,I⟩,?_⟩
    refine W.blk ?_
    refine W.lp (fun s (y:Nat × List Int × Int)=>⟨[(0,s.s 0),(2,s.s 2),(3,s.s 3),(4,s.s 4),(5,s.s 5),(6,s.s 6),(7,.i y.1),(8,s.s 8)],[(2,[s.c 2 0]),(4,[s.c 4 0]),(69,[.t (u8s l),.t (.i y.2.2)]),(6,[.t (.s ((⟨#[116]⟩:ByteArray) ++ decS i)),.t (.i (20)),.own [false] (y.2.1.map intT)])],[]⟩) (fun (y:Nat × List Int × Int)=>y.1 ≤ i ∧ y.2.1.length ≤ y.1 ∧ y.2.1.length ≤ 8 ∧ q + 2 ≤ y.2.2 ∧ y.2.2 ≤ q + 2 + 2 * y.1) (fun (y:Nat × List Int × Int)=>i - y.1) ((0,[],q + 2)) [some 2,some 4,some 69,some 6] [] ⟨rfl,⟨rfl,rfl,rfl,rfl,rfl,rfl,rfl,rfl,I⟩,⟨⟨rfl,⟨rfl,I⟩⟩,⟨⟨rfl,⟨rfl,I⟩⟩,⟨⟨rfl,⟨rfl,⟨(congrArg (fun z=>V.t (T.v (Value.int _ z))) (by show q + 1 + 1 = q + 2; omega)),I⟩⟩⟩,⟨⟨rfl,⟨rfl,⟨rfl,⟨rfl,I⟩⟩⟩⟩,I⟩⟩⟩⟩,I⟩ (by simp) ?_
    rintro ⟨k,ds,u⟩ ⟨g1,g2,g3,g4,g5⟩
    dsimp only at g1 g2 g3 g4 g5
    have p3:=pick_rng l u 3
    have p2:=pick_rng l (u + 1) 2
    by_cases hk:k < i
    ·by_cases hd:ds.length < 8
     ·by_cases h3:pickV l u 3 = 0
      ·conv=>whnf
       refine W.sq ?_
       refine g 35 39 [.b (true),.b (true),.b (true),.b (true),.b (true)] ?_
       conv=>whnf
       refine ⟨⟨I,I,I,I,⟨dT (by omega),I⟩,⟨dT (by omega),I⟩,⟨dT (by omega),I⟩,⟨dT (by omega),I⟩,dT (by omega),I⟩,?_⟩
       refine W.cn ?_
       conv=>whnf
       refine ⟨fun h2=>?_,fun h2=>?_⟩
       replace h2:=dt h2
       simp only [List.length_map] at h2
       refine W.skip ?_
       refine W.sq ?_
       refine W.blk ?_
       refine g 39 55 [.call (V.i (pickV l u (3:Int))) ([rdC l (u + (1:Int)),[]]),.b (true),.b (true),.b (true),.b (true),.b (true),.b (false),.b (false),.b (false),.b (true),.b (true)] ?_
       conv=>whnf
       refine ⟨⟨I,⟨⟨I,I,I⟩,I,⟨I,⟨I,I⟩,I⟩,⟨I,I⟩,Go.K.c_spec_l1Rd_pick _ _ _ (by first | omega | decide | assumption | (simp only [ByteArray.size_extract,List.length_map]; omega) | simp [*]) (by first | omega | decide | assumption | (simp only [ByteArray.size_extract,List.length_map]; omega) | simp [*]) (by first | omega | decide | assumption | (simp only [ByteArray.size_extract,List.length_map]; omega) | simp [*]) (by first | omega | decide | assumption | (simp only [ByteArray.size_extract,List.length_map]; omega) | simp [*])⟩,I,I,dT (by omega),dT (by omega),dT (by omega),dT (by omega),dT (by omega),I,I,I,dT (by omega),dT (by omega),I⟩,?_⟩
       refine W.cn ?_
       conv=>whnf
       refine ⟨fun _=>?_,noF (rfl)⟩
       refine rg [] ?_
       conv=>whnf
       refine ⟨⟨I,I,I,⟨⟨I,I⟩,I⟩,⟨I,I,(by simp only [lens]; omega)⟩,I,⟨I,I⟩,I⟩,?_⟩
       refine rg [.i ((↑(Prod.fst (k,ds,u)):Int) + (1:Int))] ?_
       conv=>whnf
       refine ⟨⟨I,w64 (by omega) (by omega),I,I⟩,?_⟩
       rotate_left 1
       replace h2:=df h2
       simp only [List.length_map] at h2
       omega
       refine ⟨(k + 1,ds ++ [(k:Int)],u + 1),[some 2,some 4,some 69,some 6],[],⟨rfl,⟨rfl,rfl,rfl,rfl,rfl,rfl,rfl,rfl,I⟩,⟨⟨rfl,⟨rfl,I⟩⟩,⟨⟨rfl,⟨rfl,I⟩⟩,⟨⟨rfl,⟨rfl,⟨rfl,I⟩⟩⟩,⟨⟨rfl,⟨rfl,⟨rfl,⟨(congrArg (V.own _) (by rw [List.map_append]; rfl)),I⟩⟩⟩⟩,I⟩⟩⟩⟩,I⟩,?_,?_⟩
       rotate_left 1
       (dsimp only; omega)
       dsimp only
       exact ⟨by omega,by rw [List.length_append]; simp; omega,by rw [List.length_append]; simp; omega,by first | omega | (dsimp only; omega),by first | omega | (dsimp only; omega)⟩
      ·by_cases hki:(k:Int) = (i:Int) - 1
       ·by_cases h2:pickV l (u + 1) 2 = 0
        ·conv=>whnf
         refine W.sq ?_
         refine g 35 39 [.b (true),.b (true),.b (true),.b (true),.b (true)] ?_
         conv=>whnf
         refine ⟨⟨I,I,I,I,⟨dT (by omega),I⟩,⟨dT (by omega),I⟩,⟨dT (by omega),I⟩,⟨dT (by omega),I⟩,dT (by omega),I⟩,?_⟩
         refine W.cn ?_
         conv=>whnf
         refine ⟨fun h4=>?_,fun h4=>?_⟩
         replace h4:=dt h4
         simp only [List.length_map] at h4
         refine W.skip ?_
         refine W.sq ?_
         refine W.blk ?_
         refine g 39 55 [.call (V.i (pickV l u (3:Int))) ([rdC l (u + (1:Int)),[]]),.b (false),.b (false),.b (false),.i ((↑(Prod.fst (i,ts,q)):Int) - (1:Int)),.b (false),.b (false),.b (true),.b (true),.call (V.i (pickV l (u + (1:Int)) (2:Int))) ([rdC l (u + (1:Int) + (1:Int)),[]]),.b (true),.b (false),.b (true),.b (false)] ?_
         conv=>whnf
         refine ⟨⟨I,⟨⟨I,I,I⟩,I,⟨I,⟨I,I⟩,I⟩,⟨I,I⟩,Go.K.c_spec_l1Rd_pick _ _ _ (by first | omega | decide | assumption | (simp only [ByteArray.size_extract,List.length_map]; omega) | simp [*]) (by first | omega | decide | assumption | (simp only [ByteArray.size_extract,List.length_map]; omega) | simp [*]) (by first | omega | decide | assumption | (simp only [ByteArray.size_extract,List.length_map]; omega) | simp [*]) (by first | omega | decide | assumption | (simp only [ByteArray.size_extract,List.length_map]; omega) | simp [*])⟩,I,I,⟨dF (by omega),I⟩,⟨dF (by omega),I⟩,⟨dF (by omega),w64 (by omega) (by omega)⟩,⟨dF (by omega),I⟩,⟨dF (by omega),I⟩,⟨dT (by omega),I⟩,⟨dT (by omega),⟨I,I,I⟩,I,⟨I,⟨I,I⟩,I⟩,⟨I,I⟩,Go.K.c_spec_l1Rd_pick _ _ _ (by omega) (by omega) (by omega) (by omega)⟩,⟨dT (by omega),I⟩,⟨dF (by omega),dT (by omega)⟩,dF (by omega),I⟩,?_⟩
         refine W.cn ?_
         conv=>whnf
         refine ⟨fun _=>?_,noF (dT (by omega))⟩
         refine rg [] ?_
         conv=>whnf
         refine ⟨⟨I,I,I,⟨⟨I,I⟩,I⟩,⟨I,I,(by simp only [lens]; omega)⟩,I,⟨I,I⟩,I⟩,?_⟩
         refine rg [.i ((↑(Prod.fst (k,ds,u)):Int) + (1:Int))] ?_
         conv=>whnf
         refine ⟨⟨I,w64 (by omega) (by omega),I,I⟩,?_⟩
         rotate_left 1
         replace h4:=df h4
         simp only [List.length_map] at h4
         omega
         refine ⟨(k + 1,ds ++ [(k:Int)],u + 2),[some 2,some 4,some 69,some 6],[],⟨rfl,⟨rfl,rfl,rfl,rfl,rfl,rfl,rfl,rfl,I⟩,⟨⟨rfl,⟨rfl,I⟩⟩,⟨⟨rfl,⟨rfl,I⟩⟩,⟨⟨rfl,⟨rfl,⟨(congrArg (fun z=>V.t (T.v (Value.int _ z))) (by show u + 1 + 1 = u + 2; omega)),I⟩⟩⟩,⟨⟨rfl,⟨rfl,⟨rfl,⟨(congrArg (V.own _) (by rw [List.map_append]; rfl)),I⟩⟩⟩⟩,I⟩⟩⟩⟩,I⟩,?_,?_⟩
         rotate_left 1
         (dsimp only; omega)
         dsimp only
         exact ⟨by omega,by rw [List.length_append]; simp; omega,by rw [List.length_append]; simp; omega,by first | omega | (dsimp only; omega),by first | omega | (dsimp only; omega)⟩
        ·conv=>whnf
         refine W.sq ?_
         refine g 35 39 [.b (true),.b (true),.b (true),.b (true),.b (true)] ?_
         conv=>whnf
         refine ⟨⟨I,I,I,I,⟨dT (by omega),I⟩,⟨dT (by omega),I⟩,⟨dT (by omega),I⟩,⟨dT (by omega),I⟩,dT (by omega),I⟩,?_⟩
         refine W.cn ?_
         conv=>whnf
         refine ⟨fun h4=>?_,fun h4=>?_⟩
         replace h4:=dt h4
         simp only [List.length_map] at h4
         refine W.skip ?_
         refine W.sq ?_
         refine W.blk ?_
         refine g 39 55 [.call (V.i (pickV l u (3:Int))) ([rdC l (u + (1:Int)),[]]),.b (false),.b (false),.b (false),.i ((↑(Prod.fst (i,ts,q)):Int) - (1:Int)),.b (false),.b (false),.b (true),.b (true),.call (V.i (pickV l (u + (1:Int)) (2:Int))) ([rdC l (u + (1:Int) + (1:Int)),[]]),.b (true),.b (false),.b (true),.b (false)] ?_
         conv=>whnf
         refine ⟨⟨I,⟨⟨I,I,I⟩,I,⟨I,⟨I,I⟩,I⟩,⟨I,I⟩,Go.K.c_spec_l1Rd_pick _ _ _ (by first | omega | decide | assumption | (simp only [ByteArray.size_extract,List.length_map]; omega) | simp [*]) (by first | omega | decide | assumption | (simp only [ByteArray.size_extract,List.length_map]; omega) | simp [*]) (by first | omega | decide | assumption | (simp only [ByteArray.size_extract,List.length_map]; omega) | simp [*]) (by first | omega | decide | assumption | (simp only [ByteArray.size_extract,List.length_map]; omega) | simp [*])⟩,I,I,⟨dF (by omega),I⟩,⟨dF (by omega),I⟩,⟨dF (by omega),w64 (by omega) (by omega)⟩,⟨dF (by omega),I⟩,⟨dF (by omega),I⟩,⟨dT (by omega),I⟩,⟨dT (by omega),⟨I,I,I⟩,I,⟨I,⟨I,I⟩,I⟩,⟨I,I⟩,Go.K.c_spec_l1Rd_pick _ _ _ (by omega) (by omega) (by omega) (by omega)⟩,⟨dT (by omega),I⟩,⟨dF (by omega),dT (by omega)⟩,dF (by omega),I⟩,?_⟩
         refine W.cn ?_
         conv=>whnf
         refine ⟨noT (dF (by omega)),fun _=>?_⟩
         refine W.skip ?_
         refine rg [.i ((↑(Prod.fst (k,ds,u)):Int) + (1:Int))] ?_
         conv=>whnf
         refine ⟨⟨I,w64 (by omega) (by omega),I,I⟩,?_⟩
         rotate_left 1
         replace h4:=df h4
         simp only [List.length_map] at h4
         omega
         refine ⟨(k + 1,ds,u + 2),[some 2,some 4,some 69,some 6],[],⟨rfl,⟨rfl,rfl,rfl,rfl,rfl,rfl,rfl,rfl,I⟩,⟨⟨rfl,⟨rfl,I⟩⟩,⟨⟨rfl,⟨rfl,I⟩⟩,⟨⟨rfl,⟨rfl,⟨(congrArg (fun z=>V.t (T.v (Value.int _ z))) (by show u + 1 + 1 = u + 2; omega)),I⟩⟩⟩,⟨⟨rfl,⟨rfl,⟨rfl,⟨rfl,I⟩⟩⟩⟩,I⟩⟩⟩⟩,I⟩,?_,?_⟩
         rotate_left 1
         (dsimp only; omega)
         dsimp only
         omega
       ·conv=>whnf
        refine W.sq ?_
        refine g 35 39 [.b (true),.b (true),.b (true),.b (true),.b (true)] ?_
        conv=>whnf
        refine ⟨⟨I,I,I,I,⟨dT (by omega),I⟩,⟨dT (by omega),I⟩,⟨dT (by omega),I⟩,⟨dT (by omega),I⟩,dT (by omega),I⟩,?_⟩
        refine W.cn ?_
        conv=>whnf
        refine ⟨fun h2=>?_,fun h2=>?_⟩
        replace h2:=dt h2
        simp only [List.length_map] at h2
        refine W.skip ?_
        refine W.sq ?_
        refine W.blk ?_
        refine g 39 55 [.call (V.i (pickV l u (3:Int))) ([rdC l (u + (1:Int)),[]]),.b (false),.b (false),.b (false),.i ((↑(Prod.fst (i,ts,q)):Int) - (1:Int)),.b (false),.b (false),.b (false),.b (false),.b (false),.b (false),.b (false),.b (false)] ?_
        conv=>whnf
        refine ⟨⟨I,⟨⟨I,I,I⟩,I,⟨I,⟨I,I⟩,I⟩,⟨I,I⟩,Go.K.c_spec_l1Rd_pick _ _ _ (by first | omega | decide | assumption | (simp only [ByteArray.size_extract,List.length_map]; omega) | simp [*]) (by first | omega | decide | assumption | (simp only [ByteArray.size_extract,List.length_map]; omega) | simp [*]) (by first | omega | decide | assumption | (simp only [ByteArray.size_extract,List.length_map]; omega) | simp [*]) (by first | omega | decide | assumption | (simp only [ByteArray.size_extract,List.length_map]; omega) | simp [*])⟩,I,I,⟨dF (by omega),I⟩,⟨dF (by omega),I⟩,⟨dF (by omega),w64 (by omega) (by omega)⟩,⟨dF (by omega),I⟩,⟨dF (by omega),I⟩,dF (by omega),dF (by omega),dF (by omega),⟨dF (by omega),dF (by omega)⟩,dF (by omega),I⟩,?_⟩
        refine W.cn ?_
        conv=>whnf
        refine ⟨noT (rfl),fun _=>?_⟩
        refine W.skip ?_
        refine rg [.i ((↑(Prod.fst (k,ds,u)):Int) + (1:Int))] ?_
        conv=>whnf
        refine ⟨⟨I,w64 (by omega) (by omega),I,I⟩,?_⟩
        rotate_left 1
        replace h2:=df h2
        simp only [List.length_map] at h2
        omega
        refine ⟨(k + 1,ds,u + 1),[some 2,some 4,some 69,some 6],[],⟨rfl,⟨rfl,rfl,rfl,rfl,rfl,rfl,rfl,rfl,I⟩,⟨⟨rfl,⟨rfl,I⟩⟩,⟨⟨rfl,⟨rfl,I⟩⟩,⟨⟨rfl,⟨rfl,⟨rfl,I⟩⟩⟩,⟨⟨rfl,⟨rfl,⟨rfl,⟨rfl,I⟩⟩⟩⟩,I⟩⟩⟩⟩,I⟩,?_,?_⟩
        rotate_left 1
        (dsimp only; omega)
        dsimp only
        omega
     ·conv=>whnf
      refine W.sq ?_
      refine g 35 39 [.b (true),.b (true),.b (true),.b (true),.b (true)] ?_
      conv=>whnf
      refine ⟨⟨I,I,I,I,⟨dT (by omega),I⟩,⟨dT (by omega),I⟩,⟨dT (by omega),I⟩,⟨dT (by omega),I⟩,dT (by omega),I⟩,?_⟩
      refine W.cn ?_
      conv=>whnf
      refine ⟨fun h2=>?_,fun h2=>?_⟩
      replace h2:=dt h2
      simp only [List.length_map] at h2
      omega
      replace h2:=df h2
      simp only [List.length_map] at h2
      refine W.exit ?_
      refine rg [] ?_
      conv=>whnf
      refine ⟨⟨I,I,I,⟨⟨I,I,I,I⟩,I⟩,⟨I,I,(by simp only [lens]; omega)⟩,I,⟨I,I⟩,I⟩,?_⟩
      refine rg [.i ((↑(Prod.fst (i,ts,q)):Int) + (1:Int))] ?_
      conv=>whnf
      refine ⟨⟨I,w64 (by omega) (by omega),I,I⟩,?_⟩
      refine ⟨(i + 1,ts ++ [(⟨((⟨#[116]⟩:ByteArray) ++ decS i),20,ds⟩:Task)],u),[some 2,some 69,some 4],[],⟨rfl,⟨rfl,rfl,rfl,rfl,rfl,rfl,I⟩,⟨⟨rfl,⟨rfl,I⟩⟩,⟨⟨rfl,⟨rfl,⟨rfl,I⟩⟩⟩,⟨⟨rfl,⟨(congrArg (V.own _) (by rw [List.map_append]; rfl)),I⟩⟩,I⟩⟩⟩,I⟩,?_,?_⟩
      rotate_left 1
      (dsimp only; omega)
      dsimp only
      refine ⟨by first | omega | (dsimp only; omega),by rw [List.length_append]; simp; omega,fun t ht=>?_,by first | omega | (dsimp only; omega),by first | omega | (dsimp only; omega)⟩
      rcases List.mem_append.1 ht with ht | ht
      ·exact hsm t ht
      ·rw [List.mem_singleton.1 ht]
       refine ⟨?_,by first | omega | (dsimp only; omega)⟩
       show (((⟨#[116]⟩:ByteArray) ++ decS i).size) ≤ 64
       rw [ByteArray.size_append]
       have:(⟨#[116]⟩:ByteArray).size = 1:=rfl
       omega
    ·conv=>whnf
     refine W.sq ?_
     refine g 35 39 [.b (false),.b (false),.b (false),.b (false),.b (false)] ?_
     conv=>whnf
     refine ⟨⟨I,I,I,I,dF (by omega),dF (by omega),dF (by omega),dF (by omega),dF (by omega),I⟩,?_⟩
     refine W.cn ?_
     conv=>whnf
     refine ⟨noT (rfl),fun _=>?_⟩
     refine W.exit ?_
     refine rg [] ?_
     conv=>whnf
     refine ⟨⟨I,I,I,⟨⟨I,I,I,I⟩,I⟩,⟨I,I,(by simp only [lens]; omega)⟩,I,⟨I,I⟩,I⟩,?_⟩
     refine rg [.i ((↑(Prod.fst (i,ts,q)):Int) + (1:Int))] ?_
     conv=>whnf
     refine ⟨⟨I,w64 (by omega) (by omega),I,I⟩,?_⟩
     refine ⟨(i + 1,ts ++ [(⟨((⟨#[116]⟩:ByteArray) ++ decS i),20,ds⟩:Task)],u),[some 2,some 69,some 4],[],⟨rfl,⟨rfl,rfl,rfl,rfl,rfl,rfl,I⟩,⟨⟨rfl,⟨rfl,I⟩⟩,⟨⟨rfl,⟨rfl,⟨rfl,I⟩⟩⟩,⟨⟨rfl,⟨(congrArg (V.own _) (by rw [List.map_append]; rfl)),I⟩⟩,I⟩⟩⟩,I⟩,?_,?_⟩
     rotate_left 1
     (dsimp only; omega)
     dsimp only
     refine ⟨by first | omega | (dsimp only; omega),by rw [List.length_append]; simp; omega,fun t ht=>?_,by first | omega | (dsimp only; omega),by first | omega | (dsimp only; omega)⟩
     rcases List.mem_append.1 ht with ht | ht
     ·exact hsm t ht
     ·rw [List.mem_singleton.1 ht]
      refine ⟨?_,by first | omega | (dsimp only; omega)⟩
      show (((⟨#[116]⟩:ByteArray) ++ decS i).size) ≤ 64
      rw [ByteArray.size_append]
      have:(⟨#[116]⟩:ByteArray).size = 1:=rfl
      omega
   ·skip
    conv=>whnf
    refine W.sq ?_
    refine g 15 17 [] ?_
    conv=>whnf
    refine ⟨⟨I,I,I,I⟩,?_⟩
    refine W.cn ?_
    conv=>whnf
    refine ⟨fun _=>?_,noF (dT (by omega))⟩
    refine W.skip ?_
    refine W.sq ?_
    refine W.blk ?_
    refine g 17 27 [.call (V.s (decS (↑i:Int))) ([[]]),.s ({ data:=#[(116:UInt8)]:ByteArray } ++ decS (↑i:Int)),.call (V.i (pickV l q (5:Int))) ([rdC l (q + (1:Int)),[]]),.i ((1:Int) + pickV l q (5:Int))] ?_
    conv=>whnf
    refine ⟨⟨I,⟨⟨I,I⟩,I,⟨⟨I,I⟩,I⟩,⟨I,I⟩,(by assumption)⟩,⟨rfl,(by simp only [bsz,bsa,ByteArray.size_append,List.size_toArray,lens]; omega)⟩,I,⟨⟨I,I,I⟩,I,⟨I,⟨I,I⟩,I⟩,⟨I,I⟩,Go.K.c_spec_l1Rd_pick _ _ _ (by first | omega | decide | assumption | (simp only [ByteArray.size_extract,List.length_map]; omega) | simp [*]) (by first | omega | decide | assumption | (simp only [ByteArray.size_extract,List.length_map]; omega) | simp [*]) (by first | omega | decide | assumption | (simp only [ByteArray.size_extract,List.length_map]; omega) | simp [*]) (by first | omega | decide | assumption | (simp only [ByteArray.size_extract,List.length_map]; omega) | simp [*])⟩,w64 (by omega) (by omega),I,I,⟨I,I,I,I⟩,I⟩,?_⟩
    refine W.sq ?_
    refine g 27 29 [.call (V.i (pickV l (q + (1:Int)) (8:Int))) ([rdC l (q + (1:Int) + (1:Int)),[]])] ?_
    conv=>whnf
    refine ⟨⟨I,⟨⟨I,I,I⟩,I,⟨I,⟨I,I⟩,I⟩,⟨I,I⟩,Go.K.c_spec_l1Rd_pick _ _ _ (by omega) (by omega) (by omega) (by omega)⟩,I,I⟩,?_⟩
    refine W.cn ?_
    conv=>whnf
    refine ⟨noT (dF (by omega)),fun _=>?_⟩
    refine W.skip ?_
    refine W.sq ?_
    refine g 29 30 [] ?_
    conv=>whnf
    refine ⟨⟨I,I⟩,?_⟩
    refine W.blk ?_
    refine W.lp (fun s (y:Nat × List Int × Int)=>⟨[(0,s.s 0),(2,s.s 2),(3,s.s 3),(4,s.s 4),(5,s.s 5),(6,s.s 6),(7,.i y.1),(8,s.s 8)],[(2,[s.c 2 0]),(4,[s.c 4 0]),(69,[.t (u8s l),.t (.i y.2.2)]),(6,[.t (.s ((⟨#[116]⟩:ByteArray) ++ decS i)),.t (.i (1 + pickV l q 5)),.own [false] (y.2.1.map intT)])],[]⟩) (fun (y:Nat × List Int × Int)=>y.1 ≤ i ∧ y.2.1.length ≤ y.1 ∧ y.2.1.length ≤ 8 ∧ q + 2 ≤ y.2.2 ∧ y.2.2 ≤ q + 2 + 2 * y.1) (fun (y:Nat × List Int × Int)=>i - y.1) ((0,[],q + 2)) [some 2,some 4,some 69,some 6] [] ⟨rfl,⟨rfl,rfl,rfl,rfl,rfl,rfl,rfl,rfl,I⟩,⟨⟨rfl,⟨rfl,I⟩⟩,⟨⟨rfl,⟨rfl,I⟩⟩,⟨⟨rfl,⟨rfl,⟨(congrArg (fun z=>V.t (T.v (Value.int _ z))) (by show q + 1 + 1 = q + 2; omega)),I⟩⟩⟩,⟨⟨rfl,⟨rfl,⟨rfl,⟨rfl,I⟩⟩⟩⟩,I⟩⟩⟩⟩,I⟩ (by simp) ?_
    rintro ⟨k,ds,u⟩ ⟨g1,g2,g3,g4,g5⟩
    dsimp only at g1 g2 g3 g4 g5
    have p3:=pick_rng l u 3
    have p2:=pick_rng l (u + 1) 2
    by_cases hk:k < i
    ·by_cases hd:ds.length < 8
     ·by_cases h3:pickV l u 3 = 0
      ·conv=>whnf
       refine W.sq ?_
       refine g 35 39 [.b (true),.b (true),.b (true),.b (true),.b (true)] ?_
       conv=>whnf
       refine ⟨⟨I,I,I,I,⟨dT (by omega),I⟩,⟨dT (by omega),I⟩,⟨dT (by omega),I⟩,⟨dT (by omega),I⟩,dT (by omega),I⟩,?_⟩
       refine W.cn ?_
       conv=>whnf
       refine ⟨fun h2=>?_,fun h2=>?_⟩
       replace h2:=dt h2
       simp only [List.length_map] at h2
       refine W.skip ?_
       refine W.sq ?_
       refine W.blk ?_
       refine g 39 55 [.call (V.i (pickV l u (3:Int))) ([rdC l (u + (1:Int)),[]]),.b (true),.b (true),.b (true),.b (true),.b (true),.b (false),.b (false),.b (false),.b (true),.b (true)] ?_
       conv=>whnf
       refine ⟨⟨I,⟨⟨I,I,I⟩,I,⟨I,⟨I,I⟩,I⟩,⟨I,I⟩,Go.K.c_spec_l1Rd_pick _ _ _ (by first | omega | decide | assumption | (simp only [ByteArray.size_extract,List.length_map]; omega) | simp [*]) (by first | omega | decide | assumption | (simp only [ByteArray.size_extract,List.length_map]; omega) | simp [*]) (by first | omega | decide | assumption | (simp only [ByteArray.size_extract,List.length_map]; omega) | simp [*]) (by first | omega | decide | assumption | (simp only [ByteArray.size_extract,List.length_map]; omega) | simp [*])⟩,I,I,dT (by omega),dT (by omega),dT (by omega),dT (by omega),dT (by omega),I,I,I,dT (by omega),dT (by omega),I⟩,?_⟩
       refine W.cn ?_
       conv=>whnf
       refine ⟨fun _=>?_,noF (rfl)⟩
       refine rg [] ?_
       conv=>whnf
       refine ⟨⟨I,I,I,⟨⟨I,I⟩,I⟩,⟨I,I,(by simp only [lens]; omega)⟩,I,⟨I,I⟩,I⟩,?_⟩
       refine rg [.i ((↑(Prod.fst (k,ds,u)):Int) + (1:Int))] ?_
       conv=>whnf
       refine ⟨⟨I,w64 (by omega) (by omega),I,I⟩,?_⟩
       rotate_left 1
       replace h2:=df h2
       simp only [List.length_map] at h2
       omega
       refine ⟨(k + 1,ds ++ [(k:Int)],u + 1),[some 2,some 4,some 69,some 6],[],⟨rfl,⟨rfl,rfl,rfl,rfl,rfl,rfl,rfl,rfl,I⟩,⟨⟨rfl,⟨rfl,I⟩⟩,⟨⟨rfl,⟨rfl,I⟩⟩,⟨⟨rfl,⟨rfl,⟨rfl,I⟩⟩⟩,⟨⟨rfl,⟨rfl,⟨rfl,⟨(congrArg (V.own _) (by rw [List.map_append]; rfl)),I⟩⟩⟩⟩,I⟩⟩⟩⟩,I⟩,?_,?_⟩
       rotate_left 1
       (dsimp only; omega)
       dsimp only
       exact ⟨by omega,by rw [List.length_append]; simp; omega,by rw [List.length_append]; simp; omega,by first | omega | (dsimp only; omega),by first | omega | (dsimp only; omega)⟩
      ·by_cases hki:(k:Int) = (i:Int) - 1
       ·by_cases h2:pickV l (u + 1) 2 = 0
        ·conv=>whnf
         refine W.sq ?_
         refine g 35 39 [.b (true),.b (true),.b (true),.b (true),.b (true)] ?_
         conv=>whnf
         refine ⟨⟨I,I,I,I,⟨dT (by omega),I⟩,⟨dT (by omega),I⟩,⟨dT (by omega),I⟩,⟨dT (by omega),I⟩,dT (by omega),I⟩,?_⟩
         refine W.cn ?_
         conv=>whnf
         refine ⟨fun h4=>?_,fun h4=>?_⟩
         replace h4:=dt h4
         simp only [List.length_map] at h4
         refine W.skip ?_
         refine W.sq ?_
         refine W.blk ?_
         refine g 39 55 [.call (V.i (pickV l u (3:Int))) ([rdC l (u + (1:Int)),[]]),.b (false),.b (false),.b (false),.i ((↑(Prod.fst (i,ts,q)):Int) - (1:Int)),.b (false),.b (false),.b (true),.b (true),.call (V.i (pickV l (u + (1:Int)) (2:Int))) ([rdC l (u + (1:Int) + (1:Int)),[]]),.b (true),.b (false),.b (true),.b (false)] ?_
         conv=>whnf
         refine ⟨⟨I,⟨⟨I,I,I⟩,I,⟨I,⟨I,I⟩,I⟩,⟨I,I⟩,Go.K.c_spec_l1Rd_pick _ _ _ (by first | omega | decide | assumption | (simp only [ByteArray.size_extract,List.length_map]; omega) | simp [*]) (by first | omega | decide | assumption | (simp only [ByteArray.size_extract,List.length_map]; omega) | simp [*]) (by first | omega | decide | assumption | (simp only [ByteArray.size_extract,List.length_map]; omega) | simp [*]) (by first | omega | decide | assumption | (simp only [ByteArray.size_extract,List.length_map]; omega) | simp [*])⟩,I,I,⟨dF (by omega),I⟩,⟨dF (by omega),I⟩,⟨dF (by omega),w64 (by omega) (by omega)⟩,⟨dF (by omega),I⟩,⟨dF (by omega),I⟩,⟨dT (by omega),I⟩,⟨dT (by omega),⟨I,I,I⟩,I,⟨I,⟨I,I⟩,I⟩,⟨I,I⟩,Go.K.c_spec_l1Rd_pick _ _ _ (by omega) (by omega) (by omega) (by omega)⟩,⟨dT (by omega),I⟩,⟨dF (by omega),dT (by omega)⟩,dF (by omega),I⟩,?_⟩
         refine W.cn ?_
         conv=>whnf
         refine ⟨fun _=>?_,noF (dT (by omega))⟩
         refine rg [] ?_
         conv=>whnf
         refine ⟨⟨I,I,I,⟨⟨I,I⟩,I⟩,⟨I,I,(by simp only [lens]; omega)⟩,I,⟨I,I⟩,I⟩,?_⟩
         refine rg [.i ((↑(Prod.fst (k,ds,u)):Int) + (1:Int))] ?_
         conv=>whnf
         refine ⟨⟨I,w64 (by omega) (by omega),I,I⟩,?_⟩
         rotate_left 1
         replace h4:=df h4
         simp only [List.length_map] at h4
         omega
         refine ⟨(k + 1,ds ++ [(k:Int)],u + 2),[some 2,some 4,some 69,some 6],[],⟨rfl,⟨rfl,rfl,rfl,rfl,rfl,rfl,rfl,rfl,I⟩,⟨⟨rfl,⟨rfl,I⟩⟩,⟨⟨rfl,⟨rfl,I⟩⟩,⟨⟨rfl,⟨rfl,⟨(congrArg (fun z=>V.t (T.v (Value.int _ z))) (by show u + 1 + 1 = u + 2; omega)),I⟩⟩⟩,⟨⟨rfl,⟨rfl,⟨rfl,⟨(congrArg (V.own _) (by rw [List.map_append]; rfl)),I⟩⟩⟩⟩,I⟩⟩⟩⟩,I⟩,?_,?_⟩
         rotate_left 1
         (dsimp only; omega)
         dsimp only
         exact ⟨by omega,by rw [List.length_append]; simp; omega,by rw [List.length_append]; simp; omega,by first | omega | (dsimp only; omega),by first | omega | (dsimp only; omega)⟩
        ·conv=>whnf
         refine W.sq ?_
         refine g 35 39 [.b (true),.b (true),.b (true),.b (true),.b (true)] ?_
         conv=>whnf
         refine ⟨⟨I,I,I,I,⟨dT (by omega),I⟩,⟨dT (by omega),I⟩,⟨dT (by omega),I⟩,⟨dT (by omega),I⟩,dT (by omega),I⟩,?_⟩
         refine W.cn ?_
         conv=>whnf
         refine ⟨fun h4=>?_,fun h4=>?_⟩
         replace h4:=dt h4
         simp only [List.length_map] at h4
         refine W.skip ?_
         refine W.sq ?_
         refine W.blk ?_
         refine g 39 55 [.call (V.i (pickV l u (3:Int))) ([rdC l (u + (1:Int)),[]]),.b (false),.b (false),.b (false),.i ((↑(Prod.fst (i,ts,q)):Int) - (1:Int)),.b (false),.b (false),.b (true),.b (true),.call (V.i (pickV l (u + (1:Int)) (2:Int))) ([rdC l (u + (1:Int) + (1:Int)),[]]),.b (true),.b (false),.b (true),.b (false)] ?_
         conv=>whnf
         refine ⟨⟨I,⟨⟨I,I,I⟩,I,⟨I,⟨I,I⟩,I⟩,⟨I,I⟩,Go.K.c_spec_l1Rd_pick _ _ _ (by first | omega | decide | assumption | (simp only [ByteArray.size_extract,List.length_map]; omega) | simp [*]) (by first | omega | decide | assumption | (simp only [ByteArray.size_extract,List.length_map]; omega) | simp [*]) (by first | omega | decide | assumption | (simp only [ByteArray.size_extract,List.length_map]; omega) | simp [*]) (by first | omega | decide | assumption | (simp only [ByteArray.size_extract,List.length_map]; omega) | simp [*])⟩,I,I,⟨dF (by omega),I⟩,⟨dF (by omega),I⟩,⟨dF (by omega),w64 (by omega) (by omega)⟩,⟨dF (by omega),I⟩,⟨dF (by omega),I⟩,⟨dT (by omega),I⟩,⟨dT (by omega),⟨I,I,I⟩,I,⟨I,⟨I,I⟩,I⟩,⟨I,I⟩,Go.K.c_spec_l1Rd_pick _ _ _ (by omega) (by omega) (by omega) (by omega)⟩,⟨dT (by omega),I⟩,⟨dF (by omega),dT (by omega)⟩,dF (by omega),I⟩,?_⟩
         refine W.cn ?_
         conv=>whnf
         refine ⟨noT (dF (by omega)),fun _=>?_⟩
         refine W.skip ?_
         refine rg [.i ((↑(Prod.fst (k,ds,u)):Int) + (1:Int))] ?_
         conv=>whnf
         refine ⟨⟨I,w64 (by omega) (by omega),I,I⟩,?_⟩
         rotate_left 1
         replace h4:=df h4
         simp only [List.length_map] at h4
         omega
         refine ⟨(k + 1,ds,u + 2),[some 2,some 4,some 69,some 6],[],⟨rfl,⟨rfl,rfl,rfl,rfl,rfl,rfl,rfl,rfl,I⟩,⟨⟨rfl,⟨rfl,I⟩⟩,⟨⟨rfl,⟨rfl,I⟩⟩,⟨⟨rfl,⟨rfl,⟨(congrArg (fun z=>V.t (T.v (Value.int _ z))) (by show u + 1 + 1 = u + 2; omega)),I⟩⟩⟩,⟨⟨rfl,⟨rfl,⟨rfl,⟨rfl,I⟩⟩⟩⟩,I⟩⟩⟩⟩,I⟩,?_,?_⟩
         rotate_left 1
         (dsimp only; omega)
         dsimp only
         omega
       ·conv=>whnf
        refine W.sq ?_
        refine g 35 39 [.b (true),.b (true),.b (true),.b (true),.b (true)] ?_
        conv=>whnf
        refine ⟨⟨I,I,I,I,⟨dT (by omega),I⟩,⟨dT (by omega),I⟩,⟨dT (by omega),I⟩,⟨dT (by omega),I⟩,dT (by omega),I⟩,?_⟩
        refine W.cn ?_
        conv=>whnf
        refine ⟨fun h2=>?_,fun h2=>?_⟩
        replace h2:=dt h2
        simp only [List.length_map] at h2
        refine W.skip ?_
        refine W.sq ?_
        refine W.blk ?_
        refine g 39 55 [.call (V.i (pickV l u (3:Int))) ([rdC l (u + (1:Int)),[]]),.b (false),.b (false),.b (false),.i ((↑(Prod.fst (i,ts,q)):Int) - (1:Int)),.b (false),.b (false),.b (false),.b (false),.b (false),.b (false),.b (false),.b (false)] ?_
        conv=>whnf
        refine ⟨⟨I,⟨⟨I,I,I⟩,I,⟨I,⟨I,I⟩,I⟩,⟨I,I⟩,Go.K.c_spec_l1Rd_pick _ _ _ (by first | omega | decide | assumption | (simp only [ByteArray.size_extract,List.length_map]; omega) | simp [*]) (by first | omega | decide | assumption | (simp only [ByteArray.size_extract,List.length_map]; omega) | simp [*]) (by first | omega | decide | assumption | (simp only [ByteArray.size_extract,List.length_map]; omega) | simp [*]) (by first | omega | decide | assumption | (simp only [ByteArray.size_extract,List.length_map]; omega) | simp [*])⟩,I,I,⟨dF (by omega),I⟩,⟨dF (by omega),I⟩,⟨dF (by omega),w64 (by omega) (by omega)⟩,⟨dF (by omega),I⟩,⟨dF (by omega),I⟩,dF (by omega),dF (by omega),dF (by omega),⟨dF (by omega),dF (by omega)⟩,dF (by omega),I⟩,?_⟩
        refine W.cn ?_
        conv=>whnf
        refine ⟨noT (rfl),fun _=>?_⟩
        refine W.skip ?_
        refine rg [.i ((↑(Prod.fst (k,ds,u)):Int) + (1:Int))] ?_
        conv=>whnf
        refine ⟨⟨I,w64 (by omega) (by omega),I,I⟩,?_⟩
        rotate_left 1
        replace h2:=df h2
        simp only [List.length_map] at h2
        omega
        refine ⟨(k + 1,ds,u + 1),[some 2,some 4,some 69,some 6],[],⟨rfl,⟨rfl,rfl,rfl,rfl,rfl,rfl,rfl,rfl,I⟩,⟨⟨rfl,⟨rfl,I⟩⟩,⟨⟨rfl,⟨rfl,I⟩⟩,⟨⟨rfl,⟨rfl,⟨rfl,I⟩⟩⟩,⟨⟨rfl,⟨rfl,⟨rfl,⟨rfl,I⟩⟩⟩⟩,I⟩⟩⟩⟩,I⟩,?_,?_⟩
        rotate_left 1
        (dsimp only; omega)
        dsimp only
        omega
     ·conv=>whnf
      refine W.sq ?_
      refine g 35 39 [.b (true),.b (true),.b (true),.b (true),.b (true)] ?_
      conv=>whnf
      refine ⟨⟨I,I,I,I,⟨dT (by omega),I⟩,⟨dT (by omega),I⟩,⟨dT (by omega),I⟩,⟨dT (by omega),I⟩,dT (by omega),I⟩,?_⟩
      refine W.cn ?_
      conv=>whnf
      refine ⟨fun h2=>?_,fun h2=>?_⟩
      replace h2:=dt h2
      simp only [List.length_map] at h2
      omega
      replace h2:=df h2
      simp only [List.length_map] at h2
      refine W.exit ?_
      refine rg [] ?_
      conv=>whnf
      refine ⟨⟨I,I,I,⟨⟨I,I,I,I⟩,I⟩,⟨I,I,(by simp only [lens]; omega)⟩,I,⟨I,I⟩,I⟩,?_⟩
      refine rg [.i ((↑(Prod.fst (i,ts,q)):Int) + (1:Int))] ?_
      conv=>whnf
      refine ⟨⟨I,w64 (by omega) (by omega),I,I⟩,?_⟩
      refine ⟨(i + 1,ts ++ [(⟨((⟨#[116]⟩:ByteArray) ++ decS i),1 + pickV l q 5,ds⟩:Task)],u),[some 2,some 69,some 4],[],⟨rfl,⟨rfl,rfl,rfl,rfl,rfl,rfl,I⟩,⟨⟨rfl,⟨rfl,I⟩⟩,⟨⟨rfl,⟨rfl,⟨rfl,I⟩⟩⟩,⟨⟨rfl,⟨(congrArg (V.own _) (by rw [List.map_append]; rfl)),I⟩⟩,I⟩⟩⟩,I⟩,?_,?_⟩
      rotate_left 1
      (dsimp only; omega)
      dsimp only
      refine ⟨by first | omega | (dsimp only; omega),by rw [List.length_append]; simp; omega,fun t ht=>?_,by first | omega | (dsimp only; omega),by first | omega | (dsimp only; omega)⟩
      rcases List.mem_append.1 ht with ht | ht
      ·exact hsm t ht
      ·rw [List.mem_singleton.1 ht]
       refine ⟨?_,by first | omega | (dsimp only; omega)⟩
       show (((⟨#[116]⟩:ByteArray) ++ decS i).size) ≤ 64
       rw [ByteArray.size_append]
       have:(⟨#[116]⟩:ByteArray).size = 1:=rfl
       omega
    ·conv=>whnf
     refine W.sq ?_
     refine g 35 39 [.b (false),.b (false),.b (false),.b (false),.b (false)] ?_
     conv=>whnf
     refine ⟨⟨I,I,I,I,dF (by omega),dF (by omega),dF (by omega),dF (by omega),dF (by omega),I⟩,?_⟩
     refine W.cn ?_
     conv=>whnf
     refine ⟨noT (rfl),fun _=>?_⟩
     refine W.exit ?_
     refine rg [] ?_
     conv=>whnf
     refine ⟨⟨I,I,I,⟨⟨I,I,I,I⟩,I⟩,⟨I,I,(by simp only [lens]; omega)⟩,I,⟨I,I⟩,I⟩,?_⟩
     refine rg [.i ((↑(Prod.fst (i,ts,q)):Int) + (1:Int))] ?_
     conv=>whnf
     refine ⟨⟨I,w64 (by omega) (by omega),I,I⟩,?_⟩
     refine ⟨(i + 1,ts ++ [(⟨((⟨#[116]⟩:ByteArray) ++ decS i),1 + pickV l q 5,ds⟩:Task)],u),[some 2,some 69,some 4],[],⟨rfl,⟨rfl,rfl,rfl,rfl,rfl,rfl,I⟩,⟨⟨rfl,⟨rfl,I⟩⟩,⟨⟨rfl,⟨rfl,⟨rfl,I⟩⟩⟩,⟨⟨rfl,⟨(congrArg (V.own _) (by rw [List.map_append]; rfl)),I⟩⟩,I⟩⟩⟩,I⟩,?_,?_⟩
     rotate_left 1
     (dsimp only; omega)
     dsimp only
     refine ⟨by first | omega | (dsimp only; omega),by rw [List.length_append]; simp; omega,fun t ht=>?_,by first | omega | (dsimp only; omega),by first | omega | (dsimp only; omega)⟩
     rcases List.mem_append.1 ht with ht | ht
     ·exact hsm t ht
     ·rw [List.mem_singleton.1 ht]
      refine ⟨?_,by first | omega | (dsimp only; omega)⟩
      show (((⟨#[116]⟩:ByteArray) ++ decS i).size) ≤ 64
      rw [ByteArray.size_append]
      have:(⟨#[116]⟩:ByteArray).size = 1:=rfl
      omega
  ·conv=>whnf
   refine W.sq ?_
   refine g 15 17 [] ?_
   conv=>whnf
   refine ⟨⟨I,I,I,I⟩,?_⟩
   refine W.cn ?_
   conv=>whnf
   refine ⟨noT (dF (by omega)),fun _=>?_⟩
   refine W.exit ?_
   refine g 3 69 [] ?_
   conv=>whnf
   refine ⟨⟨I,⟨I,I⟩,I⟩,?_⟩
   refine W.ret ?_
   refine EndsW.rt ?_
   conv=>whnf
   refine ⟨⟨I,I,I⟩,?_⟩
   exact ⟨⟨ts⟩,q,rfl,rfl,⟨by first | omega | (dsimp only; omega),hsm⟩,by first | omega | (dsimp only; omega),by omega,by omega⟩
 ·refine x_spec_l1Draw ?_
  conv=>whnf
  refine g 0 0 [] ?_
  conv=>whnf
  refine ⟨⟨I,I⟩,?_⟩
  refine g 9 11 [.call (V.i (pickV l pos (6:Int))) ([rdC l (pos + (1:Int)),[]]),.i ((1:Int) + pickV l pos (6:Int))] ?_
  conv=>whnf
  refine ⟨⟨I,⟨⟨I,I,I⟩,I,⟨I,⟨I,I⟩,I⟩,⟨I,I⟩,Go.K.c_spec_l1Rd_pick _ _ _ (by omega) (by omega) (by omega) (by omega)⟩,w64 (by omega) (by omega),I,I⟩,?_⟩
  refine W.sq ?_
  refine g 11 13 [.call (V.i (pickV l (pos + (1:Int)) (12:Int))) ([rdC l (pos + (1:Int) + (1:Int)),[]])] ?_
  conv=>whnf
  refine ⟨⟨I,⟨⟨I,I,I⟩,I,⟨I,⟨I,I⟩,I⟩,⟨I,I⟩,Go.K.c_spec_l1Rd_pick _ _ _ (by omega) (by omega) (by omega) (by omega)⟩,I,I⟩,?_⟩
  refine W.cn ?_
  conv=>whnf
  refine ⟨noT (dF (by omega)),fun _=>?_⟩
  refine W.skip ?_
  refine g 13 15 [] ?_
  conv=>whnf
  refine ⟨⟨I,I,⟨I,I⟩,I⟩,?_⟩
  refine W.sq ?_
  refine g 0 0 [] ?_
  conv=>whnf
  refine ⟨⟨I,I⟩,?_⟩
  refine W.blk ?_
  refine W.lp (fun s (x:Nat × List Task × Int)=>⟨[(0,s.s 0),(2,s.s 2),(3,s.s 3),(4,s.s 4),(5,.i x.1),(8,s.s 8)],[(2,[s.c 2 0]),(69,[.t (u8s l),.t (.i x.2.2)]),(4,[.own taskK (x.2.1.map taskT)])],[]⟩) (fun (x:Nat × List Task × Int)=>(x.1:Int) ≤ (1 + pickV l pos 6) ∧ x.2.1.length = x.1 ∧ (∀ t ∈ x.2.1,t.name.size ≤ 64 ∧ t.deps.length ≤ 64) ∧ pos + 2 ≤ x.2.2 ∧ x.2.2 ≤ pos + 2 + 90 * x.1) (fun (x:Nat × List Task × Int)=>(((1 + pickV l pos 6):Int) - x.1).toNat) ((0,[],pos + 2)) [some 2,some 69,some 4] [] ⟨rfl,⟨rfl,rfl,rfl,rfl,rfl,rfl,I⟩,⟨⟨rfl,⟨rfl,I⟩⟩,⟨⟨rfl,⟨rfl,⟨(congrArg (fun z=>V.t (T.v (Value.int _ z))) (by show pos + 1 + 1 = pos + 2; omega)),I⟩⟩⟩,⟨⟨rfl,⟨rfl,I⟩⟩,I⟩⟩⟩,I⟩ ⟨by omega,by simp⟩ ?_
  rintro ⟨i,ts,q⟩ ⟨hi,hlen,hsm,hq1,hq2⟩
  dsimp only at hi hlen hsm hq1 hq2
  have p5:=pick_rng l q 5
  have p8:=pick_rng l (q + 1) 8
  by_cases hi2:(i:Int) < (1 + pickV l pos 6)
  ·have cd:=c_spec_l1Dec i (by omega) (by omega)
   have hds:=decS_size i
   by_cases h8:pickV l (q + 1) 8 = 0
   ·skip
    conv=>whnf
    refine W.sq ?_
    refine g 15 17 [] ?_
    conv=>whnf
    refine ⟨⟨I,I,I,I⟩,?_⟩
    refine W.cn ?_
    conv=>whnf
    refine ⟨fun _=>?_,noF (dT (by omega))⟩
    refine W.skip ?_
    refine W.sq ?_
    refine W.blk ?_
    refine g 17 27 [.call (V.s (decS (↑i:Int))) ([[]]),.s ({ data:=#[(116:UInt8)]:ByteArray } ++ decS (↑i:Int)),.call (V.i (pickV l q (5:Int))) ([rdC l (q + (1:Int)),[]]),.i ((1:Int) + pickV l q (5:Int))] ?_
    conv=>whnf
    refine ⟨⟨I,⟨⟨I,I⟩,I,⟨⟨I,I⟩,I⟩,⟨I,I⟩,(by assumption)⟩,⟨rfl,(by simp only [bsz,bsa,ByteArray.size_append,List.size_toArray,lens]; omega)⟩,I,⟨⟨I,I,I⟩,I,⟨I,⟨I,I⟩,I⟩,⟨I,I⟩,Go.K.c_spec_l1Rd_pick _ _ _ (by first | omega | decide | assumption | (simp only [ByteArray.size_extract,List.length_map]; omega) | simp [*]) (by first | omega | decide | assumption | (simp only [ByteArray.size_extract,List.length_map]; omega) | simp [*]) (by first | omega | decide | assumption | (simp only [ByteArray.size_extract,List.length_map]; omega) | simp [*]) (by first | omega | decide | assumption | (simp only [ByteArray.size_extract,List.length_map]; omega) | simp [*])⟩,w64 (by omega) (by omega),I,I,⟨I,I,I,I⟩,I⟩,?_⟩
    refine W.sq ?_
    refine g 27 29 [.call (V.i (pickV l (q + (1:Int)) (8:Int))) ([rdC l (q + (1:Int) + (1:Int)),[]])] ?_
    conv=>whnf
    refine ⟨⟨I,⟨⟨I,I,I⟩,I,⟨I,⟨I,I⟩,I⟩,⟨I,I⟩,Go.K.c_spec_l1Rd_pick _ _ _ (by omega) (by omega) (by omega) (by omega)⟩,I,I⟩,?_⟩
    refine W.cn ?_
    conv=>whnf
    refine ⟨fun _=>?_,noF (dT (by omega))⟩
    refine rg [] ?_
    conv=>whnf
    refine ⟨⟨I,⟨I,I⟩,I⟩,?_⟩
    refine W.sq ?_
    refine g 29 31 [] ?_
    conv=>whnf
    refine ⟨⟨I,I⟩,?_⟩
    refine W.blk ?_
    refine W.lp (fun s (y:Nat × List Int × Int)=>⟨[(0,s.s 0),(2,s.s 2),(3,s.s 3),(4,s.s 4),(5,s.s 5),(6,s.s 6),(7,.i y.1),(8,s.s 8)],[(2,[s.c 2 0]),(4,[s.c 4 0]),(69,[.t (u8s l),.t (.i y.2.2)]),(6,[.t (.s ((⟨#[116]⟩:ByteArray) ++ decS i)),.t (.i (20)),.own [false] (y.2.1.map intT)])],[]⟩) (fun (y:Nat × List Int × Int)=>y.1 ≤ i ∧ y.2.1.length ≤ y.1 ∧ y.2.1.length ≤ 8 ∧ q + 2 ≤ y.2.2 ∧ y.2.2 ≤ q + 2 + 2 * y.1) (fun (y:Nat × List Int × Int)=>i - y.1) ((0,[],q + 2)) [some 2,some 4,some 69,some 6] [] ⟨rfl,⟨rfl,rfl,rfl,rfl,rfl,rfl,rfl,rfl,I⟩,⟨⟨rfl,⟨rfl,I⟩⟩,⟨⟨rfl,⟨rfl,I⟩⟩,⟨⟨rfl,⟨rfl,⟨(congrArg (fun z=>V.t (T.v (Value.int _ z))) (by show q + 1 + 1 = q + 2; omega)),I⟩⟩⟩,⟨⟨rfl,⟨rfl,⟨rfl,⟨rfl,I⟩⟩⟩⟩,I⟩⟩⟩⟩,I⟩ (by simp) ?_
    rintro ⟨k,ds,u⟩ ⟨g1,g2,g3,g4,g5⟩
    dsimp only at g1 g2 g3 g4 g5
    have p3:=pick_rng l u 3
    have p2:=pick_rng l (u + 1) 2
    by_cases hk:k < i
    ·by_cases hd:ds.length < 8
     ·by_cases h3:pickV l u 3 = 0
      ·conv=>whnf
       refine W.sq ?_
       refine g 35 39 [.b (true),.b (true),.b (true),.b (true),.b (true)] ?_
       conv=>whnf
       refine ⟨⟨I,I,I,I,⟨dT (by omega),I⟩,⟨dT (by omega),I⟩,⟨dT (by omega),I⟩,⟨dT (by omega),I⟩,dT (by omega),I⟩,?_⟩
       refine W.cn ?_
       conv=>whnf
       refine ⟨fun h2=>?_,fun h2=>?_⟩
       replace h2:=dt h2
       simp only [List.length_map] at h2
       refine W.skip ?_
       refine W.sq ?_
       refine W.blk ?_
       refine g 39 55 [.call (V.i (pickV l u (3:Int))) ([rdC l (u + (1:Int)),[]]),.b (true),.b (true),.b (true),.b (true),.b (true),.b (false),.b (false),.b (false),.b (true),.b (true)] ?_
       conv=>whnf
       refine ⟨⟨I,⟨⟨I,I,I⟩,I,⟨I,⟨I,I⟩,I⟩,⟨I,I⟩,Go.K.c_spec_l1Rd_pick _ _ _ (by first | omega | decide | assumption | (simp only [ByteArray.size_extract,List.length_map]; omega) | simp [*]) (by first | omega | decide | assumption | (simp only [ByteArray.size_extract,List.length_map]; omega) | simp [*]) (by first | omega | decide | assumption | (simp only [ByteArray.size_extract,List.length_map]; omega) | simp [*]) (by first | omega | decide | assumption | (simp only [ByteArray.size_extract,List.length_map]; omega) | simp [*])⟩,I,I,dT (by omega),dT (by omega),dT (by omega),dT (by omega),dT (by omega),I,I,I,dT (by omega),dT (by omega),I⟩,?_⟩
       refine W.cn ?_
       conv=>whnf
       refine ⟨fun _=>?_,noF (rfl)⟩
       refine rg [] ?_
       conv=>whnf
       refine ⟨⟨I,I,I,⟨⟨I,I⟩,I⟩,⟨I,I,(by simp only [lens]; omega)⟩,I,⟨I,I⟩,I⟩,?_⟩
       refine rg [.i ((↑(Prod.fst (k,ds,u)):Int) + (1:Int))] ?_
       conv=>whnf
       refine ⟨⟨I,w64 (by omega) (by omega),I,I⟩,?_⟩
       rotate_left 1
       replace h2:=df h2
       simp only [List.length_map] at h2
       omega
       refine ⟨(k + 1,ds ++ [(k:Int)],u + 1),[some 2,some 4,some 69,some 6],[],⟨rfl,⟨rfl,rfl,rfl,rfl,rfl,rfl,rfl,rfl,I⟩,⟨⟨rfl,⟨rfl,I⟩⟩,⟨⟨rfl,⟨rfl,I⟩⟩,⟨⟨rfl,⟨rfl,⟨rfl,I⟩⟩⟩,⟨⟨rfl,⟨rfl,⟨rfl,⟨(congrArg (V.own _) (by rw [List.map_append]; rfl)),I⟩⟩⟩⟩,I⟩⟩⟩⟩,I⟩,?_,?_⟩
       rotate_left 1
       (dsimp only; omega)
       dsimp only
       exact ⟨by omega,by rw [List.length_append]; simp; omega,by rw [List.length_append]; simp; omega,by first | omega | (dsimp only; omega),by first | omega | (dsimp only; omega)⟩
      ·by_cases hki:(k:Int) = (i:Int) - 1
       ·by_cases h2:pickV l (u + 1) 2 = 0
        ·conv=>whnf
         refine W.sq ?_
         refine g 35 39 [.b (true),.b (true),.b (true),.b (true),.b (true)] ?_
         conv=>whnf
         refine ⟨⟨I,I,I,I,⟨dT (by omega),I⟩,⟨dT (by omega),I⟩,⟨dT (by omega),I⟩,⟨dT (by omega),I⟩,dT (by omega),I⟩,?_⟩
         refine W.cn ?_
         conv=>whnf
         refine ⟨fun h4=>?_,fun h4=>?_⟩
         replace h4:=dt h4
         simp only [List.length_map] at h4
         refine W.skip ?_
         refine W.sq ?_
         refine W.blk ?_
         refine g 39 55 [.call (V.i (pickV l u (3:Int))) ([rdC l (u + (1:Int)),[]]),.b (false),.b (false),.b (false),.i ((↑(Prod.fst (i,ts,q)):Int) - (1:Int)),.b (false),.b (false),.b (true),.b (true),.call (V.i (pickV l (u + (1:Int)) (2:Int))) ([rdC l (u + (1:Int) + (1:Int)),[]]),.b (true),.b (false),.b (true),.b (false)] ?_
         conv=>whnf
         refine ⟨⟨I,⟨⟨I,I,I⟩,I,⟨I,⟨I,I⟩,I⟩,⟨I,I⟩,Go.K.c_spec_l1Rd_pick _ _ _ (by first | omega | decide | assumption | (simp only [ByteArray.size_extract,List.length_map]; omega) | simp [*]) (by first | omega | decide | assumption | (simp only [ByteArray.size_extract,List.length_map]; omega) | simp [*]) (by first | omega | decide | assumption | (simp only [ByteArray.size_extract,List.length_map]; omega) | simp [*]) (by first | omega | decide | assumption | (simp only [ByteArray.size_extract,List.length_map]; omega) | simp [*])⟩,I,I,⟨dF (by omega),I⟩,⟨dF (by omega),I⟩,⟨dF (by omega),w64 (by omega) (by omega)⟩,⟨dF (by omega),I⟩,⟨dF (by omega),I⟩,⟨dT (by omega),I⟩,⟨dT (by omega),⟨I,I,I⟩,I,⟨I,⟨I,I⟩,I⟩,⟨I,I⟩,Go.K.c_spec_l1Rd_pick _ _ _ (by omega) (by omega) (by omega) (by omega)⟩,⟨dT (by omega),I⟩,⟨dF (by omega),dT (by omega)⟩,dF (by omega),I⟩,?_⟩
         refine W.cn ?_
         conv=>whnf
         refine ⟨fun _=>?_,noF (dT (by omega))⟩
         refine rg [] ?_
         conv=>whnf
         refine ⟨⟨I,I,I,⟨⟨I,I⟩,I⟩,⟨I,I,(by simp only [lens]; omega)⟩,I,⟨I,I⟩,I⟩,?_⟩
         refine rg [.i ((↑(Prod.fst (k,ds,u)):Int) + (1:Int))] ?_
         conv=>whnf
         refine ⟨⟨I,w64 (by omega) (by omega),I,I⟩,?_⟩
         rotate_left 1
         replace h4:=df h4
         simp only [List.length_map] at h4
         omega
         refine ⟨(k + 1,ds ++ [(k:Int)],u + 2),[some 2,some 4,some 69,some 6],[],⟨rfl,⟨rfl,rfl,rfl,rfl,rfl,rfl,rfl,rfl,I⟩,⟨⟨rfl,⟨rfl,I⟩⟩,⟨⟨rfl,⟨rfl,I⟩⟩,⟨⟨rfl,⟨rfl,⟨(congrArg (fun z=>V.t (T.v (Value.int _ z))) (by show u + 1 + 1 = u + 2; omega)),I⟩⟩⟩,⟨⟨rfl,⟨rfl,⟨rfl,⟨(congrArg (V.own _) (by rw [List.map_append]; rfl)),I⟩⟩⟩⟩,I⟩⟩⟩⟩,I⟩,?_,?_⟩
         rotate_left 1
         (dsimp only; omega)
         dsimp only
         exact ⟨by omega,by rw [List.length_append]; simp; omega,by rw [List.length_append]; simp; omega,by first | omega | (dsimp only; omega),by first | omega | (dsimp only; omega)⟩
        ·conv=>whnf
         refine W.sq ?_
         refine g 35 39 [.b (true),.b (true),.b (true),.b (true),.b (true)] ?_
         conv=>whnf
         refine ⟨⟨I,I,I,I,⟨dT (by omega),I⟩,⟨dT (by omega),I⟩,⟨dT (by omega),I⟩,⟨dT (by omega),I⟩,dT (by omega),I⟩,?_⟩
         refine W.cn ?_
         conv=>whnf
         refine ⟨fun h4=>?_,fun h4=>?_⟩
         replace h4:=dt h4
         simp only [List.length_map] at h4
         refine W.skip ?_
         refine W.sq ?_
         refine W.blk ?_
         refine g 39 55 [.call (V.i (pickV l u (3:Int))) ([rdC l (u + (1:Int)),[]]),.b (false),.b (false),.b (false),.i ((↑(Prod.fst (i,ts,q)):Int) - (1:Int)),.b (false),.b (false),.b (true),.b (true),.call (V.i (pickV l (u + (1:Int)) (2:Int))) ([rdC l (u + (1:Int) + (1:Int)),[]]),.b (true),.b (false),.b (true),.b (false)] ?_
         conv=>whnf
         refine ⟨⟨I,⟨⟨I,I,I⟩,I,⟨I,⟨I,I⟩,I⟩,⟨I,I⟩,Go.K.c_spec_l1Rd_pick _ _ _ (by first | omega | decide | assumption | (simp only [ByteArray.size_extract,List.length_map]; omega) | simp [*]) (by first | omega | decide | assumption | (simp only [ByteArray.size_extract,List.length_map]; omega) | simp [*]) (by first | omega | decide | assumption | (simp only [ByteArray.size_extract,List.length_map]; omega) | simp [*]) (by first | omega | decide | assumption | (simp only [ByteArray.size_extract,List.length_map]; omega) | simp [*])⟩,I,I,⟨dF (by omega),I⟩,⟨dF (by omega),I⟩,⟨dF (by omega),w64 (by omega) (by omega)⟩,⟨dF (by omega),I⟩,⟨dF (by omega),I⟩,⟨dT (by omega),I⟩,⟨dT (by omega),⟨I,I,I⟩,I,⟨I,⟨I,I⟩,I⟩,⟨I,I⟩,Go.K.c_spec_l1Rd_pick _ _ _ (by omega) (by omega) (by omega) (by omega)⟩,⟨dT (by omega),I⟩,⟨dF (by omega),dT (by omega)⟩,dF (by omega),I⟩,?_⟩
         refine W.cn ?_
         conv=>whnf
         refine ⟨noT (dF (by omega)),fun _=>?_⟩
         refine W.skip ?_
         refine rg [.i ((↑(Prod.fst (k,ds,u)):Int) + (1:Int))] ?_
         conv=>whnf
         refine ⟨⟨I,w64 (by omega) (by omega),I,I⟩,?_⟩
         rotate_left 1
         replace h4:=df h4
         simp only [List.length_map] at h4
         omega
         refine ⟨(k + 1,ds,u + 2),[some 2,some 4,some 69,some 6],[],⟨rfl,⟨rfl,rfl,rfl,rfl,rfl,rfl,rfl,rfl,I⟩,⟨⟨rfl,⟨rfl,I⟩⟩,⟨⟨rfl,⟨rfl,I⟩⟩,⟨⟨rfl,⟨rfl,⟨(congrArg (fun z=>V.t (T.v (Value.int _ z))) (by show u + 1 + 1 = u + 2; omega)),I⟩⟩⟩,⟨⟨rfl,⟨rfl,⟨rfl,⟨rfl,I⟩⟩⟩⟩,I⟩⟩⟩⟩,I⟩,?_,?_⟩
         rotate_left 1
         (dsimp only; omega)
         dsimp only
         omega
       ·conv=>whnf
        refine W.sq ?_
        refine g 35 39 [.b (true),.b (true),.b (true),.b (true),.b (true)] ?_
        conv=>whnf
        refine ⟨⟨I,I,I,I,⟨dT (by omega),I⟩,⟨dT (by omega),I⟩,⟨dT (by omega),I⟩,⟨dT (by omega),I⟩,dT (by omega),I⟩,?_⟩
        refine W.cn ?_
        conv=>whnf
        refine ⟨fun h2=>?_,fun h2=>?_⟩
        replace h2:=dt h2
        simp only [List.length_map] at h2
        refine W.skip ?_
        refine W.sq ?_
        refine W.blk ?_
        refine g 39 55 [.call (V.i (pickV l u (3:Int))) ([rdC l (u + (1:Int)),[]]),.b (false),.b (false),.b (false),.i ((↑(Prod.fst (i,ts,q)):Int) - (1:Int)),.b (false),.b (false),.b (false),.b (false),.b (false),.b (false),.b (false),.b (false)] ?_
        conv=>whnf
        refine ⟨⟨I,⟨⟨I,I,I⟩,I,⟨I,⟨I,I⟩,I⟩,⟨I,I⟩,Go.K.c_spec_l1Rd_pick _ _ _ (by first | omega | decide | assumption | (simp only [ByteArray.size_extract,List.length_map]; omega) | simp [*]) (by first | omega | decide | assumption | (simp only [ByteArray.size_extract,List.length_map]; omega) | simp [*]) (by first | omega | decide | assumption | (simp only [ByteArray.size_extract,List.length_map]; omega) | simp [*]) (by first | omega | decide | assumption | (simp only [ByteArray.size_extract,List.length_map]; omega) | simp [*])⟩,I,I,⟨dF (by omega),I⟩,⟨dF (by omega),I⟩,⟨dF (by omega),w64 (by omega) (by omega)⟩,⟨dF (by omega),I⟩,⟨dF (by omega),I⟩,dF (by omega),dF (by omega),dF (by omega),⟨dF (by omega),dF (by omega)⟩,dF (by omega),I⟩,?_⟩
        refine W.cn ?_
        conv=>whnf
        refine ⟨noT (rfl),fun _=>?_⟩
        refine W.skip ?_
        refine rg [.i ((↑(Prod.fst (k,ds,u)):Int) + (1:Int))] ?_
        conv=>whnf
        refine ⟨⟨I,w64 (by omega) (by omega),I,I⟩,?_⟩
        rotate_left 1
        replace h2:=df h2
        simp only [List.length_map] at h2
        omega
        refine ⟨(k + 1,ds,u + 1),[some 2,some 4,some 69,some 6],[],⟨rfl,⟨rfl,rfl,rfl,rfl,rfl,rfl,rfl,rfl,I⟩,⟨⟨rfl,⟨rfl,I⟩⟩,⟨⟨rfl,⟨rfl,I⟩⟩,⟨⟨rfl,⟨rfl,⟨rfl,I⟩⟩⟩,⟨⟨rfl,⟨rfl,⟨rfl,⟨rfl,I⟩⟩⟩⟩,I⟩⟩⟩⟩,I⟩,?_,?_⟩
        rotate_left 1
        (dsimp only; omega)
        dsimp only
        omega
     ·exfalso; omega
    ·conv=>whnf
     refine W.sq ?_
     refine g 35 39 [.b (false),.b (false),.b (false),.b (false),.b (false)] ?_
     conv=>whnf
     refine ⟨⟨I,I,I,I,dF (by omega),dF (by omega),dF (by omega),dF (by omega),dF (by omega),I⟩,?_⟩
     refine W.cn ?_
     conv=>whnf
     refine ⟨noT (rfl),fun _=>?_⟩
     refine W.exit ?_
     refine rg [] ?_
     conv=>whnf
     refine ⟨⟨I,I,I,⟨⟨I,I,I,I⟩,I⟩,⟨I,I,(by simp only [lens]; omega)⟩,I,⟨I,I⟩,I⟩,?_⟩
     refine rg [.i ((↑(Prod.fst (i,ts,q)):Int) + (1:Int))] ?_
     conv=>whnf
     refine ⟨⟨I,w64 (by omega) (by omega),I,I⟩,?_⟩
     refine ⟨(i + 1,ts ++ [(⟨((⟨#[116]⟩:ByteArray) ++ decS i),20,ds⟩:Task)],u),[some 2,some 69,some 4],[],⟨rfl,⟨rfl,rfl,rfl,rfl,rfl,rfl,I⟩,⟨⟨rfl,⟨rfl,I⟩⟩,⟨⟨rfl,⟨rfl,⟨rfl,I⟩⟩⟩,⟨⟨rfl,⟨(congrArg (V.own _) (by rw [List.map_append]; rfl)),I⟩⟩,I⟩⟩⟩,I⟩,?_,?_⟩
     rotate_left 1
     (dsimp only; omega)
     dsimp only
     refine ⟨by first | omega | (dsimp only; omega),by rw [List.length_append]; simp; omega,fun t ht=>?_,by first | omega | (dsimp only; omega),by first | omega | (dsimp only; omega)⟩
     rcases List.mem_append.1 ht with ht | ht
     ·exact hsm t ht
     ·rw [List.mem_singleton.1 ht]
      refine ⟨?_,by first | omega | (dsimp only; omega)⟩
      show (((⟨#[116]⟩:ByteArray) ++ decS i).size) ≤ 64
      rw [ByteArray.size_append]
      have:(⟨#[116]⟩:ByteArray).size = 1:=rfl
      omega
   ·skip
    conv=>whnf
    refine W.sq ?_
    refine g 15 17 [] ?_
    conv=>whnf
    refine ⟨⟨I,I,I,I⟩,?_⟩
    refine W.cn ?_
    conv=>whnf
    refine ⟨fun _=>?_,noF (dT (by omega))⟩
    refine W.skip ?_
    refine W.sq ?_
    refine W.blk ?_
    refine g 17 27 [.call (V.s (decS (↑i:Int))) ([[]]),.s ({ data:=#[(116:UInt8)]:ByteArray } ++ decS (↑i:Int)),.call (V.i (pickV l q (5:Int))) ([rdC l (q + (1:Int)),[]]),.i ((1:Int) + pickV l q (5:Int))] ?_
    conv=>whnf
    refine ⟨⟨I,⟨⟨I,I⟩,I,⟨⟨I,I⟩,I⟩,⟨I,I⟩,(by assumption)⟩,⟨rfl,(by simp only [bsz,bsa,ByteArray.size_append,List.size_toArray,lens]; omega)⟩,I,⟨⟨I,I,I⟩,I,⟨I,⟨I,I⟩,I⟩,⟨I,I⟩,Go.K.c_spec_l1Rd_pick _ _ _ (by first | omega | decide | assumption | (simp only [ByteArray.size_extract,List.length_map]; omega) | simp [*]) (by first | omega | decide | assumption | (simp only [ByteArray.size_extract,List.length_map]; omega) | simp [*]) (by first | omega | decide | assumption | (simp only [ByteArray.size_extract,List.length_map]; omega) | simp [*]) (by first | omega | decide | assumption | (simp only [ByteArray.size_extract,List.length_map]; omega) | simp [*])⟩,w64 (by omega) (by omega),I,I,⟨I,I,I,I⟩,I⟩,?_⟩
    refine W.sq ?_
    refine g 27 29 [.call (V.i (pickV l (q + (1:Int)) (8:Int))) ([rdC l (q + (1:Int) + (1:Int)),[]])] ?_
    conv=>whnf
    refine ⟨⟨I,⟨⟨I,I,I⟩,I,⟨I,⟨I,I⟩,I⟩,⟨I,I⟩,Go.K.c_spec_l1Rd_pick _ _ _ (by omega) (by omega) (by omega) (by omega)⟩,I,I⟩,?_⟩
    refine W.cn ?_
    conv=>whnf
    refine ⟨noT (dF (by omega)),fun _=>?_⟩
    refine W.skip ?_
    refine W.sq ?_
    refine g 29 30 [] ?_
    conv=>whnf
    refine ⟨⟨I,I⟩,?_⟩
    refine W.blk ?_
    refine W.lp (fun s (y:Nat × List Int × Int)=>⟨[(0,s.s 0),(2,s.s 2),(3,s.s 3),(4,s.s 4),(5,s.s 5),(6,s.s 6),(7,.i y.1),(8,s.s 8)],[(2,[s.c 2 0]),(4,[s.c 4 0]),(69,[.t (u8s l),.t (.i y.2.2)]),(6,[.t (.s ((⟨#[116]⟩:ByteArray) ++ decS i)),.t (.i (1 + pickV l q 5)),.own [false] (y.2.1.map intT)])],[]⟩) (fun (y:Nat × List Int × Int)=>y.1 ≤ i ∧ y.2.1.length ≤ y.1 ∧ y.2.1.length ≤ 8 ∧ q + 2 ≤ y.2.2 ∧ y.2.2 ≤ q + 2 + 2 * y.1) (fun (y:Nat × List Int × Int)=>i - y.1) ((0,[],q + 2)) [some 2,some 4,some 69,some 6] [] ⟨rfl,⟨rfl,rfl,rfl,rfl,rfl,rfl,rfl,rfl,I⟩,⟨⟨rfl,⟨rfl,I⟩⟩,⟨⟨rfl,⟨rfl,I⟩⟩,⟨⟨rfl,⟨rfl,⟨(congrArg (fun z=>V.t (T.v (Value.int _ z))) (by show q + 1 + 1 = q + 2; omega)),I⟩⟩⟩,⟨⟨rfl,⟨rfl,⟨rfl,⟨rfl,I⟩⟩⟩⟩,I⟩⟩⟩⟩,I⟩ (by simp) ?_
    rintro ⟨k,ds,u⟩ ⟨g1,g2,g3,g4,g5⟩
    dsimp only at g1 g2 g3 g4 g5
    have p3:=pick_rng l u 3
    have p2:=pick_rng l (u + 1) 2
    by_cases hk:k < i
    ·by_cases hd:ds.length < 8
     ·by_cases h3:pickV l u 3 = 0
      ·conv=>whnf
       refine W.sq ?_
       refine g 35 39 [.b (true),.b (true),.b (true),.b (true),.b (true)] ?_
       conv=>whnf
       refine ⟨⟨I,I,I,I,⟨dT (by omega),I⟩,⟨dT (by omega),I⟩,⟨dT (by omega),I⟩,⟨dT (by omega),I⟩,dT (by omega),I⟩,?_⟩
       refine W.cn ?_
       conv=>whnf
       refine ⟨fun h2=>?_,fun h2=>?_⟩
       replace h2:=dt h2
       simp only [List.length_map] at h2
       refine W.skip ?_
       refine W.sq ?_
       refine W.blk ?_
       refine g 39 55 [.call (V.i (pickV l u (3:Int))) ([rdC l (u + (1:Int)),[]]),.b (true),.b (true),.b (true),.b (true),.b (true),.b (false),.b (false),.b (false),.b (true),.b (true)] ?_
       conv=>whnf
       refine ⟨⟨I,⟨⟨I,I,I⟩,I,⟨I,⟨I,I⟩,I⟩,⟨I,I⟩,Go.K.c_spec_l1Rd_pick _ _ _ (by first | omega | decide | assumption | (simp only [ByteArray.size_extract,List.length_map]; omega) | simp [*]) (by first | omega | decide | assumption | (simp only [ByteArray.size_extract,List.length_map]; omega) | simp [*]) (by first | omega | decide | assumption | (simp only [ByteArray.size_extract,List.length_map]; omega) | simp [*]) (by first | omega | decide | assumption | (simp only [ByteArray.size_extract,List.length_map]; omega) | simp [*])⟩,I,I,dT (by omega),dT (by omega),dT (by omega),dT (by omega),dT (by omega),I,I,I,dT (by omega),dT (by omega),I⟩,?_⟩
       refine W.cn ?_
       conv=>whnf
       refine ⟨fun _=>?_,noF (rfl)⟩
       refine rg [] ?_
       conv=>whnf
       refine ⟨⟨I,I,I,⟨⟨I,I⟩,I⟩,⟨I,I,(by simp only [lens]; omega)⟩,I,⟨I,I⟩,I⟩,?_⟩
       refine rg [.i ((↑(Prod.fst (k,ds,u)):Int) + (1:Int))] ?_
       conv=>whnf
       refine ⟨⟨I,w64 (by omega) (by omega),I,I⟩,?_⟩
       rotate_left 1
       replace h2:=df h2
       simp only [List.length_map] at h2
       omega
       refine ⟨(k + 1,ds ++ [(k:Int)],u + 1),[some 2,some 4,some 69,some 6],[],⟨rfl,⟨rfl,rfl,rfl,rfl,rfl,rfl,rfl,rfl,I⟩,⟨⟨rfl,⟨rfl,I⟩⟩,⟨⟨rfl,⟨rfl,I⟩⟩,⟨⟨rfl,⟨rfl,⟨rfl,I⟩⟩⟩,⟨⟨rfl,⟨rfl,⟨rfl,⟨(congrArg (V.own _) (by rw [List.map_append]; rfl)),I⟩⟩⟩⟩,I⟩⟩⟩⟩,I⟩,?_,?_⟩
       rotate_left 1
       (dsimp only; omega)
       dsimp only
       exact ⟨by omega,by rw [List.length_append]; simp; omega,by rw [List.length_append]; simp; omega,by first | omega | (dsimp only; omega),by first | omega | (dsimp only; omega)⟩
      ·by_cases hki:(k:Int) = (i:Int) - 1
       ·by_cases h2:pickV l (u + 1) 2 = 0
        ·conv=>whnf
         refine W.sq ?_
         refine g 35 39 [.b (true),.b (true),.b (true),.b (true),.b (true)] ?_
         conv=>whnf
         refine ⟨⟨I,I,I,I,⟨dT (by omega),I⟩,⟨dT (by omega),I⟩,⟨dT (by omega),I⟩,⟨dT (by omega),I⟩,dT (by omega),I⟩,?_⟩
         refine W.cn ?_
         conv=>whnf
         refine ⟨fun h4=>?_,fun h4=>?_⟩
         replace h4:=dt h4
         simp only [List.length_map] at h4
         refine W.skip ?_
         refine W.sq ?_
         refine W.blk ?_
         refine g 39 55 [.call (V.i (pickV l u (3:Int))) ([rdC l (u + (1:Int)),[]]),.b (false),.b (false),.b (false),.i ((↑(Prod.fst (i,ts,q)):Int) - (1:Int)),.b (false),.b (false),.b (true),.b (true),.call (V.i (pickV l (u + (1:Int)) (2:Int))) ([rdC l (u + (1:Int) + (1:Int)),[]]),.b (true),.b (false),.b (true),.b (false)] ?_
         conv=>whnf
         refine ⟨⟨I,⟨⟨I,I,I⟩,I,⟨I,⟨I,I⟩,I⟩,⟨I,I⟩,Go.K.c_spec_l1Rd_pick _ _ _ (by first | omega | decide | assumption | (simp only [ByteArray.size_extract,List.length_map]; omega) | simp [*]) (by first | omega | decide | assumption | (simp only [ByteArray.size_extract,List.length_map]; omega) | simp [*]) (by first | omega | decide | assumption | (simp only [ByteArray.size_extract,List.length_map]; omega) | simp [*]) (by first | omega | decide | assumption | (simp only [ByteArray.size_extract,List.length_map]; omega) | simp [*])⟩,I,I,⟨dF (by omega),I⟩,⟨dF (by omega),I⟩,⟨dF (by omega),w64 (by omega) (by omega)⟩,⟨dF (by omega),I⟩,⟨dF (by omega),I⟩,⟨dT (by omega),I⟩,⟨dT (by omega),⟨I,I,I⟩,I,⟨I,⟨I,I⟩,I⟩,⟨I,I⟩,Go.K.c_spec_l1Rd_pick _ _ _ (by omega) (by omega) (by omega) (by omega)⟩,⟨dT (by omega),I⟩,⟨dF (by omega),dT (by omega)⟩,dF (by omega),I⟩,?_⟩
         refine W.cn ?_
         conv=>whnf
         refine ⟨fun _=>?_,noF (dT (by omega))⟩
         refine rg [] ?_
         conv=>whnf
         refine ⟨⟨I,I,I,⟨⟨I,I⟩,I⟩,⟨I,I,(by simp only [lens]; omega)⟩,I,⟨I,I⟩,I⟩,?_⟩
         refine rg [.i ((↑(Prod.fst (k,ds,u)):Int) + (1:Int))] ?_
         conv=>whnf
         refine ⟨⟨I,w64 (by omega) (by omega),I,I⟩,?_⟩
         rotate_left 1
         replace h4:=df h4
         simp only [List.length_map] at h4
         omega
         refine ⟨(k + 1,ds ++ [(k:Int)],u + 2),[some 2,some 4,some 69,some 6],[],⟨rfl,⟨rfl,rfl,rfl,rfl,rfl,rfl,rfl,rfl,I⟩,⟨⟨rfl,⟨rfl,I⟩⟩,⟨⟨rfl,⟨rfl,I⟩⟩,⟨⟨rfl,⟨rfl,⟨(congrArg (fun z=>V.t (T.v (Value.int _ z))) (by show u + 1 + 1 = u + 2; omega)),I⟩⟩⟩,⟨⟨rfl,⟨rfl,⟨rfl,⟨(congrArg (V.own _) (by rw [List.map_append]; rfl)),I⟩⟩⟩⟩,I⟩⟩⟩⟩,I⟩,?_,?_⟩
         rotate_left 1
         (dsimp only; omega)
         dsimp only
         exact ⟨by omega,by rw [List.length_append]; simp; omega,by rw [List.length_append]; simp; omega,by first | omega | (dsimp only; omega),by first | omega | (dsimp only; omega)⟩
        ·conv=>whnf
         refine W.sq ?_
         refine g 35 39 [.b (true),.b (true),.b (true),.b (true),.b (true)] ?_
         conv=>whnf
         refine ⟨⟨I,I,I,I,⟨dT (by omega),I⟩,⟨dT (by omega),I⟩,⟨dT (by omega),I⟩,⟨dT (by omega),I⟩,dT (by omega),I⟩,?_⟩
         refine W.cn ?_
         conv=>whnf
         refine ⟨fun h4=>?_,fun h4=>?_⟩
         replace h4:=dt h4
         simp only [List.length_map] at h4
         refine W.skip ?_
         refine W.sq ?_
         refine W.blk ?_
         refine g 39 55 [.call (V.i (pickV l u (3:Int))) ([rdC l (u + (1:Int)),[]]),.b (false),.b (false),.b (false),.i ((↑(Prod.fst (i,ts,q)):Int) - (1:Int)),.b (false),.b (false),.b (true),.b (true),.call (V.i (pickV l (u + (1:Int)) (2:Int))) ([rdC l (u + (1:Int) + (1:Int)),[]]),.b (true),.b (false),.b (true),.b (false)] ?_
         conv=>whnf
         refine ⟨⟨I,⟨⟨I,I,I⟩,I,⟨I,⟨I,I⟩,I⟩,⟨I,I⟩,Go.K.c_spec_l1Rd_pick _ _ _ (by first | omega | decide | assumption | (simp only [ByteArray.size_extract,List.length_map]; omega) | simp [*]) (by first | omega | decide | assumption | (simp only [ByteArray.size_extract,List.length_map]; omega) | simp [*]) (by first | omega | decide | assumption | (simp only [ByteArray.size_extract,List.length_map]; omega) | simp [*]) (by first | omega | decide | assumption | (simp only [ByteArray.size_extract,List.length_map]; omega) | simp [*])⟩,I,I,⟨dF (by omega),I⟩,⟨dF (by omega),I⟩,⟨dF (by omega),w64 (by omega) (by omega)⟩,⟨dF (by omega),I⟩,⟨dF (by omega),I⟩,⟨dT (by omega),I⟩,⟨dT (by omega),⟨I,I,I⟩,I,⟨I,⟨I,I⟩,I⟩,⟨I,I⟩,Go.K.c_spec_l1Rd_pick _ _ _ (by omega) (by omega) (by omega) (by omega)⟩,⟨dT (by omega),I⟩,⟨dF (by omega),dT (by omega)⟩,dF (by omega),I⟩,?_⟩
         refine W.cn ?_
         conv=>whnf
         refine ⟨noT (dF (by omega)),fun _=>?_⟩
         refine W.skip ?_
         refine rg [.i ((↑(Prod.fst (k,ds,u)):Int) + (1:Int))] ?_
         conv=>whnf
         refine ⟨⟨I,w64 (by omega) (by omega),I,I⟩,?_⟩
         rotate_left 1
         replace h4:=df h4
         simp only [List.length_map] at h4
         omega
         refine ⟨(k + 1,ds,u + 2),[some 2,some 4,some 69,some 6],[],⟨rfl,⟨rfl,rfl,rfl,rfl,rfl,rfl,rfl,rfl,I⟩,⟨⟨rfl,⟨rfl,I⟩⟩,⟨⟨rfl,⟨rfl,I⟩⟩,⟨⟨rfl,⟨rfl,⟨(congrArg (fun z=>V.t (T.v (Value.int _ z))) (by show u + 1 + 1 = u + 2; omega)),I⟩⟩⟩,⟨⟨rfl,⟨rfl,⟨rfl,⟨rfl,I⟩⟩⟩⟩,I⟩⟩⟩⟩,I⟩,?_,?_⟩
         rotate_left 1
         (dsimp only; omega)
         dsimp only
         omega
       ·conv=>whnf
        refine W.sq ?_
        refine g 35 39 [.b (true),.b (true),.b (true),.b (true),.b (true)] ?_
        conv=>whnf
        refine ⟨⟨I,I,I,I,⟨dT (by omega),I⟩,⟨dT (by omega),I⟩,⟨dT (by omega),I⟩,⟨dT (by omega),I⟩,dT (by omega),I⟩,?_⟩
        refine W.cn ?_
        conv=>whnf
        refine ⟨fun h2=>?_,fun h2=>?_⟩
        replace h2:=dt h2
        simp only [List.length_map] at h2
        refine W.skip ?_
        refine W.sq ?_
        refine W.blk ?_
        refine g 39 55 [.call (V.i (pickV l u (3:Int))) ([rdC l (u + (1:Int)),[]]),.b (false),.b (false),.b (false),.i ((↑(Prod.fst (i,ts,q)):Int) - (1:Int)),.b (false),.b (false),.b (false),.b (false),.b (false),.b (false),.b (false),.b (false)] ?_
        conv=>whnf
        refine ⟨⟨I,⟨⟨I,I,I⟩,I,⟨I,⟨I,I⟩,I⟩,⟨I,I⟩,Go.K.c_spec_l1Rd_pick _ _ _ (by first | omega | decide | assumption | (simp only [ByteArray.size_extract,List.length_map]; omega) | simp [*]) (by first | omega | decide | assumption | (simp only [ByteArray.size_extract,List.length_map]; omega) | simp [*]) (by first | omega | decide | assumption | (simp only [ByteArray.size_extract,List.length_map]; omega) | simp [*]) (by first | omega | decide | assumption | (simp only [ByteArray.size_extract,List.length_map]; omega) | simp [*])⟩,I,I,⟨dF (by omega),I⟩,⟨dF (by omega),I⟩,⟨dF (by omega),w64 (by omega) (by omega)⟩,⟨dF (by omega),I⟩,⟨dF (by omega),I⟩,dF (by omega),dF (by omega),dF (by omega),⟨dF (by omega),dF (by omega)⟩,dF (by omega),I⟩,?_⟩
        refine W.cn ?_
        conv=>whnf
        refine ⟨noT (rfl),fun _=>?_⟩
        refine W.skip ?_
        refine rg [.i ((↑(Prod.fst (k,ds,u)):Int) + (1:Int))] ?_
        conv=>whnf
        refine ⟨⟨I,w64 (by omega) (by omega),I,I⟩,?_⟩
        rotate_left 1
        replace h2:=df h2
        simp only [List.length_map] at h2
        omega
        refine ⟨(k + 1,ds,u + 1),[some 2,some 4,some 69,some 6],[],⟨rfl,⟨rfl,rfl,rfl,rfl,rfl,rfl,rfl,rfl,I⟩,⟨⟨rfl,⟨rfl,I⟩⟩,⟨⟨rfl,⟨rfl,I⟩⟩,⟨⟨rfl,⟨rfl,⟨rfl,I⟩⟩⟩,⟨⟨rfl,⟨rfl,⟨rfl,⟨rfl,I⟩⟩⟩⟩,I⟩⟩⟩⟩,I⟩,?_,?_⟩
        rotate_left 1
        (dsimp only; omega)
        dsimp only
        omega
     ·exfalso; omega
    ·conv=>whnf
     refine W.sq ?_
     refine g 35 39 [.b (false),.b (false),.b (false),.b (false),.b (false)] ?_
     conv=>whnf
     refine ⟨⟨I,I,I,I,dF (by omega),dF (by omega),dF (by omega),dF (by omega),dF (by omega),I⟩,?_⟩
     refine W.cn ?_
     conv=>whnf
     refine ⟨noT (rfl),fun _=>?_⟩
     refine W.exit ?_
     refine rg [] ?_
     conv=>whnf
     refine ⟨⟨I,I,I,⟨⟨I,I,I,I⟩,I⟩,⟨I,I,(by simp only [lens]; omega)⟩,I,⟨I,I⟩,I⟩,?_⟩
     refine rg [.i ((↑(Prod.fst (i,ts,q)):Int) + (1:Int))] ?_
     conv=>whnf
     refine ⟨⟨I,w64 (by omega) (by omega),I,I⟩,?_⟩
     refine ⟨(i + 1,ts ++ [(⟨((⟨#[116]⟩:ByteArray) ++ decS i),1 + pickV l q 5,ds⟩:Task)],u),[some 2,some 69,some 4],[],⟨rfl,⟨rfl,rfl,rfl,rfl,rfl,rfl,I⟩,⟨⟨rfl,⟨rfl,I⟩⟩,⟨⟨rfl,⟨rfl,⟨rfl,I⟩⟩⟩,⟨⟨rfl,⟨(congrArg (V.own _) (by rw [List.map_append]; rfl)),I⟩⟩,I⟩⟩⟩,I⟩,?_,?_⟩
     rotate_left 1
     (dsimp only; omega)
     dsimp only
     refine ⟨by first | omega | (dsimp only; omega),by rw [List.length_append]; simp; omega,fun t ht=>?_,by first | omega | (dsimp only; omega),by first | omega | (dsimp only; omega)⟩
     rcases List.mem_append.1 ht with ht | ht
     ·exact hsm t ht
     ·rw [List.mem_singleton.1 ht]
      refine ⟨?_,by first | omega | (dsimp only; omega)⟩
      show (((⟨#[116]⟩:ByteArray) ++ decS i).size) ≤ 64
      rw [ByteArray.size_append]
      have:(⟨#[116]⟩:ByteArray).size = 1:=rfl
      omega
  ·conv=>whnf
   refine W.sq ?_
   refine g 15 17 [] ?_
   conv=>whnf
   refine ⟨⟨I,I,I,I⟩,?_⟩
   refine W.cn ?_
   conv=>whnf
   refine ⟨noT (dF (by omega)),fun _=>?_⟩
   refine W.exit ?_
   refine g 3 69 [] ?_
   conv=>whnf
   refine ⟨⟨I,⟨I,I⟩,I⟩,?_⟩
   refine W.ret ?_
   refine EndsW.rt ?_
   conv=>whnf
   refine ⟨⟨I,I,I⟩,?_⟩
   exact ⟨⟨ts⟩,q,rfl,rfl,⟨by first | omega | (dsimp only; omega),hsm⟩,by first | omega | (dsimp only; omega),by omega,by omega⟩
theorem ex_Draw' (l:List Int) (pos:Int) (h:u8ok l ∧ 0 ≤ pos ∧ pos ≤ 1000000):∃ x:Plan × Int,F n_spec_l1Draw [.ptr (rdC l pos)] (planO x.1) [rdC l x.2] ∧ planSmall x.1 ∧ 1 ≤ x.1.tasks.length ∧ pos ≤ x.2 ∧ x.2 ≤ pos + 4000:=by
 obtain ⟨res,outs,⟨p,pos2,rfl,rfl,h1,h2,h3,h4⟩,hF⟩:=ex_Draw l pos h.1 h.2.1 h.2.2
 exact ⟨(p,pos2),hF,h1,h2,h3,h4⟩
open Classical in
/-- The plan that is drawn, and the place behind it. -/
noncomputable def drawP (l:List Int) (pos:Int):Plan × Int:=if h:u8ok l ∧ 0 ≤ pos ∧ pos ≤ 1000000 then (ex_Draw' l pos h).choose else (⟨[⟨emp,0,[]⟩]⟩,pos)
theorem c_spec_l1Draw (l:List Int) (pos:Int) (hl:u8ok l) (h0:0 ≤ pos) (h1:pos ≤ 1000000):F n_spec_l1Draw [.ptr (rdC l pos)] (planO (drawP l pos).1) [rdC l (drawP l pos).2]:=by
 have h:u8ok l ∧ 0 ≤ pos ∧ pos ≤ 1000000:=⟨hl,h0,h1⟩
 rw [drawP,dif_pos h]
 exact (ex_Draw' l pos h).choose_spec.1
theorem draw_ok (l:List Int) (pos:Int):planSmall (drawP l pos).1 ∧ 1 ≤ (drawP l pos).1.tasks.length ∧ pos ≤ (drawP l pos).2 ∧ (drawP l pos).2 ≤ pos + 4000:=by
 unfold drawP
 split
 ·rename_i h; exact (ex_Draw' l pos h).choose_spec.2
 ·refine ⟨⟨by show 1 ≤ 64; omega,fun t ht=>?_⟩,Nat.le_refl _,Int.le_refl _,by dsimp only; omega⟩
  rw [List.mem_singleton.1 ht]
  have:emp.size = 0:=rfl
  exact ⟨by dsimp only; omega,Nat.zero_le _⟩
theorem ex_Many' (s:ByteArray) (n:Int) (h:0 ≤ n ∧ n ≤ 64 ∧ s.size ≤ 64):∃ t:ByteArray,F n_spec_l1Many [.val (.s s),.val (.i n)] (.s t) [[],[]] ∧ (t.size:Int) ≤ 4096:=by
 obtain ⟨res,outs,⟨t,rfl,rfl,h1⟩,hF⟩:=ex_Many s n h.1 h.2.1 h.2.2
 exact ⟨t,hF,h1⟩
open Classical in
noncomputable def manyS (s:ByteArray) (n:Int):ByteArray:=if h:0 ≤ n ∧ n ≤ 64 ∧ s.size ≤ 64 then (ex_Many' s n h).choose else emp
theorem c_spec_l1Many (s:ByteArray) (n:Int) (h0:0 ≤ n) (h1:n ≤ 64) (hs:s.size ≤ 64):F n_spec_l1Many [.val (.s s),.val (.i n)] (.s (manyS s n)) [[],[]]:=by
 rw [manyS,dif_pos ⟨h0,h1,hs⟩]
 exact (ex_Many' s n ⟨h0,h1,hs⟩).choose_spec.1
theorem many_size (s:ByteArray) (n:Int):(manyS s n).size ≤ 4096:=by
 unfold manyS
 split
 ·rename_i h; have:=(ex_Many' s n h).choose_spec.2; omega
 ·show emp.size ≤ 4096; decide
end Go.K
end
section
set_option linter.unusedVariables false
set_option linter.unusedSimpArgs false
set_option maxHeartbeats 4000000
set_option maxRecDepth 20000
open Go Go.Tm Go.Proofs
namespace Go.K
def taskMid (t:Task):Prop:=t.name.size ≤ 8192 ∧ t.deps.length ≤ 128
def planMid (p:Plan):Prop:=p.tasks.length ≤ 64 ∧ ∀ t ∈ p.tasks,taskMid t
theorem small_mid {p:Plan} (h:planSmall p):planMid p:=⟨h.1,fun t ht=>⟨by have:=(h.2 t ht).1; omega,by have:=(h.2 t ht).2; omega⟩⟩
theorem mid_wf {p:Plan} (h:planMid p):planWf p:=⟨by have:=h.1; omega,fun t ht=>⟨by have:=(h.2 t ht).1; omega,by have:=(h.2 t ht).2; omega⟩⟩
theorem mid_set {p:Plan} (h:planSmall p) {n:Nat} {t:Task} (ht:taskMid t):planMid ⟨p.tasks.set n t⟩:=by
 refine ⟨by dsimp only; rw [List.length_set]; exact h.1,fun y hy=>?_⟩
 rcases List.mem_or_eq_of_mem_set hy with hy | rfl
 ·exact (small_mid h).2 y hy
 ·exact ht
theorem mid_set' {ts:List Task} (h1:ts.length ≤ 64) (h2:∀ t ∈ ts,taskMid t) {n:Nat} {t:Task} (ht:taskMid t):planMid ⟨ts.set n t⟩:=by
 refine ⟨by dsimp only; rw [List.length_set]; exact h1,fun y hy=>?_⟩
 rcases List.mem_or_eq_of_mem_set hy with hy | rfl
 ·exact h2 y hy
 ·exact ht
theorem new_mid (c:ByteArray) (hc:c.size = 1) (i:Int):taskMid ⟨c ++ decS i,1,[]⟩:=by
 have:=decS_size i
 exact ⟨by dsimp only; rw [ByteArray.size_append]; omega,Nat.zero_le _⟩
theorem app_mid {ts:List Task} {x:Task} (h:∀ t ∈ ts,taskMid t) (hx:taskMid x):∀ t ∈ ts ++ [x],taskMid t:=fun t ht=>by
 rcases List.mem_append.1 ht with ht | ht
 ·exact h t ht
 ·rw [List.mem_singleton.1 ht]; exact hx
theorem len_one {α:Type} (xs:List α) (x:α):(xs ++ [x]).length = xs.length + 1:=by simp
theorem map_set_task {ts:List Task} {n:Nat} {t:Task}:(ts.map taskT).set n (taskT t) = (ts.set n t).map taskT:=by rw [List.map_set]
theorem app_one {xs:List Int} {x:Int}:(xs ++ [x]).map intT = xs.map intT ++ [intT x]:=by rw [List.map_append]; rfl
theorem pick_str (xs:List ByteArray) (k:Int) (h0:0 ≤ k) (h1:k < xs.length):∃ x,x ∈ xs ∧ (xs.map strT)[k.toNat]? = some (strT x):=by
 obtain ⟨x,hx⟩:=some_at (xs:=xs) (n:=k.toNat) (by omega)
 exact ⟨x,List.mem_of_getElem? hx,by rw [List.getElem?_map,hx]; rfl⟩
theorem pick_int (xs:List Int) (k:Int) (h0:0 ≤ k) (h1:k < xs.length):∃ x,x ∈ xs ∧ (xs.map intT)[k.toNat]? = some (intT x):=by
 obtain ⟨x,hx⟩:=some_at (xs:=xs) (n:=k.toNat) (by omega)
 exact ⟨x,List.mem_of_getElem? hx,by rw [List.getElem?_map,hx]; rfl⟩
abbrev SpoilOk (l:List Int) (pos:Int):V → List (List V) → Prop:=fun res outs=>∃ p pos2,res = planO p ∧ outs = [rdC l pos2,[]] ∧ planMid p ∧ pos ≤ pos2 ∧ pos2 ≤ pos + 100
theorem ex_Spoil (l:List Int) (pos:Int) (p:Plan) (hp:planSmall p) (hl:u8ok l) (h0:0 ≤ pos) (h1:pos ≤ 1000000):∃ res outs,SpoilOk l pos res outs ∧ F n_spec_l1Spoil [.ptr (rdC l pos),.val (planO p)] res outs:=by
 have hpp:=hp
 obtain ⟨hp1,hp2⟩:=hpp
 have cpl:=c_spec_l1Plan p hp
 have r0:=pick_rng l pos p.tasks.length
 have r1:=pick_rng l (pos + 1) 7
 by_cases hz:p.tasks.length = 0
 ·refine x_spec_l1Spoil ?_
  conv=>whnf
  refine g 0 0 [] ?_
  conv=>whnf
  refine ⟨⟨⟨I,I⟩,I,I⟩,?_⟩
  refine g 9 11 [.call (planO p) ([[]])] ?_
  conv=>whnf
  refine ⟨⟨I,⟨⟨I,I⟩,I,⟨⟨I,I⟩,I⟩,⟨I,I⟩,(by assumption)⟩,I,⟨I,I⟩,I⟩,?_⟩
  refine g 11 16 [.call (V.i (pickV l pos (↑(List.length (List.map taskT (Plan.tasks p))):Int))) ([rdC l (pos + (1:Int)),[]])] ?_
  conv=>whnf
  refine ⟨⟨I,I,I,I,⟨⟨I,I,I⟩,I,⟨I,⟨I,I⟩,I⟩,⟨I,I⟩,Go.K.c_spec_l1Rd_pick _ _ _ (by first | omega | decide | assumption | (simp only [ByteArray.size_extract,List.length_map]; omega) | simp [*]) (by first | omega | decide | assumption | (simp only [ByteArray.size_extract,List.length_map]; omega) | simp [*]) (by first | omega | decide | assumption | (simp only [ByteArray.size_extract,List.length_map]; omega) | simp [*]) (by first | omega | decide | assumption | (simp only [ByteArray.size_extract,List.length_map]; omega) | simp [*])⟩,I,I⟩,?_⟩
  refine W.sq ?_
  refine g 16 19 [] ?_
  conv=>whnf
  refine ⟨⟨I,I,I,I,I⟩,?_⟩
  refine W.cn ?_
  conv=>whnf
  refine ⟨fun _=>?_,noF (by simp [*])⟩
  refine g 19 21 [] ?_
  conv=>whnf
  refine ⟨⟨I,⟨I,I⟩,I⟩,?_⟩
  refine W.ret ?_
  refine EndsW.rt ?_
  conv=>whnf
  refine ⟨⟨I,I,I⟩,?_⟩
  exact ⟨p,_,rfl,rfl,small_mid hp,by omega,by omega⟩
 ·obtain ⟨kk,hkk⟩:=Int.eq_ofNat_of_zero_le r0.1
  obtain ⟨t,ht⟩:=some_at (xs:=p.tasks) (n:=kk) (by omega)
  have ck:F n_spec_l1Rd_pick [.ptr (rdC l pos),.val (.i ((p.tasks.map taskT).length:Int))] (.i (kk:Int)) [rdC l (pos + 1),[]]:=by
   have:=c_spec_l1Rd_pick l pos p.tasks.length hl h0 (by omega) (by omega)
   rw [hkk] at this
   rw [List.length_map]; exact this
  have hkl:kk < p.tasks.length:=by omega
  have hts:=hp2 t (List.mem_of_getElem? ht)
  obtain ⟨t0,ht0⟩:=some_at (xs:=p.tasks) (n:=0) (by omega)
  have hts0:=hp2 t0 (List.mem_of_getElem? ht0)
  by_cases c0:pickV l (pos + 1) 7 = 0
  ·have r2:=pick_rng l (pos + 1 + 1) 5
   have m1:=many_size ⟨#[110]⟩ 30
   have m2:=many_size ⟨#[110]⟩ 31
   obtain ⟨x,hx1,hx2⟩:=pick_str [⟨#[]⟩,⟨#[97,32,98]⟩,t0.name,manyS ⟨#[110]⟩ 30,manyS ⟨#[110]⟩ 31] (pickV l (pos + 1 + 1) 5) r2.1 (by show _ < (5:Int); omega)
   have hx3:([[T.s ⟨#[]⟩],[T.s ⟨#[97,32,98]⟩],[T.s t0.name],[T.s (manyS ⟨#[110]⟩ 30)],[T.s (manyS ⟨#[110]⟩ 31)]]:List (List T))[(pickV l (pos + 1 + 1) 5).toNat]? = some [T.s x]:=hx2
   refine x_spec_l1Spoil ?_
   conv=>whnf
   refine g 0 0 [] ?_
   conv=>whnf
   refine ⟨⟨⟨I,I⟩,I,I⟩,?_⟩
   refine g 9 11 [.call (planO p) ([[]])] ?_
   conv=>whnf
   refine ⟨⟨I,⟨⟨I,I⟩,I,⟨⟨I,I⟩,I⟩,⟨I,I⟩,(by assumption)⟩,I,⟨I,I⟩,I⟩,?_⟩
   refine g 11 16 [.call (V.i (↑kk:Int)) ([rdC l (pos + (1:Int)),[]])] ?_
   conv=>whnf
   refine ⟨⟨I,I,I,I,⟨⟨I,I,I⟩,I,⟨I,⟨I,I⟩,I⟩,⟨I,I⟩,(by assumption)⟩,I,I⟩,?_⟩
   refine W.sq ?_
   refine g 16 19 [] ?_
   conv=>whnf
   refine ⟨⟨I,I,I,I,I⟩,?_⟩
   refine W.cn ?_
   conv=>whnf
   refine ⟨noT (by simp [*]),fun _=>?_⟩
   refine W.skip ?_
   refine W.sq ?_
   refine g 19 22 [.call (V.i (pickV l (pos + (1:Int)) (7:Int))) ([rdC l (pos + (1:Int) + (1:Int)),[]])] ?_
   conv=>whnf
   refine ⟨⟨I,⟨⟨I,I,I⟩,I,⟨I,⟨I,I⟩,I⟩,⟨I,I⟩,Go.K.c_spec_l1Rd_pick _ _ _ (by omega) (by omega) (by omega) (by omega)⟩,I⟩,?_⟩
   refine W.blk ?_
   refine g 36 37 [] ?_
   conv=>whnf
   refine ⟨⟨I,I,I⟩,?_⟩
   refine W.cn ?_
   conv=>whnf
   refine ⟨fun _=>?_,noF (dT (by omega))⟩
   refine rgd [[],[],[],[],[],[.n ((0:Nat))],[],[.x (taskT t0)],[.call (V.s (manyS { data:=#[(110:UInt8)]:ByteArray } (30:Int))) ([[],[]])],[.call (V.s (manyS { data:=#[(110:UInt8)]:ByteArray } (31:Int))) ([[],[]])],[],[],[.call (V.i (pickV l (pos + (1:Int) + (1:Int)) (5:Int))) ([rdC l (pos + (1:Int) + (1:Int) + (1:Int)),[]])],[.n (Int.toNat (pickV l (pos + (1:Int) + (1:Int)) (5:Int)))],[.x ([T.s x])],[.n (kk)],[],[.x (taskT t)]] ?_
   conv=>whnf
   refine ⟨⟨I,I,I,I,I,⟨rfl,(by simp only [lens]; omega)⟩,I,ixl (by assumption),⟨⟨I,I,I⟩,I,⟨⟨I,I⟩,⟨I,I⟩,I⟩,⟨I,I⟩,Go.K.c_spec_l1Many _ _ (by decide) (by decide) (by decide)⟩,⟨⟨I,I,I⟩,I,⟨⟨I,I⟩,⟨I,I⟩,I⟩,⟨I,I⟩,Go.K.c_spec_l1Many _ _ (by decide) (by decide) (by decide)⟩,⟨⟨I,I⟩,⟨I,I⟩,⟨I,I⟩,⟨I,I⟩,⟨I,I⟩,I⟩,I,⟨⟨I,I,I⟩,I,⟨I,⟨I,I⟩,I⟩,⟨I,I⟩,Go.K.c_spec_l1Rd_pick _ _ _ (by omega) (by omega) (by omega) (by omega)⟩,⟨(by omega),(by simp only [lens]; omega)⟩,(by assumption),⟨rfl,(by simp only [lens]; omega)⟩,I,⟨⟨I,I⟩,ixl (by assumption)⟩,I⟩,by kernel_rfl,?_⟩
   refine g 5 140 [] ?_
   conv=>whnf
   refine ⟨⟨I,⟨I,I⟩,I⟩,?_⟩
   refine W.ret ?_
   refine EndsW.rt ?_
   conv=>whnf
   refine ⟨⟨I,I,I⟩,?_⟩
   have hxs:x.size ≤ 8192:=by
    have e1:(⟨#[]⟩:ByteArray).size = 0:=rfl
    have e2:(⟨#[97,32,98]⟩:ByteArray).size = 3:=rfl
    simp only [List.mem_cons,List.not_mem_nil,or_false] at hx1
    rcases hx1 with rfl | rfl | rfl | rfl | rfl <;> omega
   exact ⟨⟨p.tasks.set kk ⟨x,t.cost,t.deps⟩⟩,_,congrArg (fun z=>V.agg [V.own taskK z]) (map_set_task (t:=⟨x,t.cost,t.deps⟩)),rfl,mid_set hp ⟨hxs,by dsimp only; omega⟩,by omega,by omega⟩
  ·by_cases c1:pickV l (pos + 1) 7 = 1
   ·have r2:=pick_rng l (pos + 1 + 1) 4
    obtain ⟨x,hx1,hx2⟩:=pick_int [0,-1,20,21] (pickV l (pos + 1 + 1) 4) r2.1 (by show _ < (4:Int); omega)
    have hx3:([[T.i 0],[T.i (-1)],[T.i 20],[T.i 21]]:List (List T))[(pickV l (pos + 1 + 1) 4).toNat]? = some [T.i x]:=hx2
    refine x_spec_l1Spoil ?_
    conv=>whnf
    refine g 0 0 [] ?_
    conv=>whnf
    refine ⟨⟨⟨I,I⟩,I,I⟩,?_⟩
    refine g 9 11 [.call (planO p) ([[]])] ?_
    conv=>whnf
    refine ⟨⟨I,⟨⟨I,I⟩,I,⟨⟨I,I⟩,I⟩,⟨I,I⟩,(by assumption)⟩,I,⟨I,I⟩,I⟩,?_⟩
    refine g 11 16 [.call (V.i (↑kk:Int)) ([rdC l (pos + (1:Int)),[]])] ?_
    conv=>whnf
    refine ⟨⟨I,I,I,I,⟨⟨I,I,I⟩,I,⟨I,⟨I,I⟩,I⟩,⟨I,I⟩,(by assumption)⟩,I,I⟩,?_⟩
    refine W.sq ?_
    refine g 16 19 [] ?_
    conv=>whnf
    refine ⟨⟨I,I,I,I,I⟩,?_⟩
    refine W.cn ?_
    conv=>whnf
    refine ⟨noT (by simp [*]),fun _=>?_⟩
    refine W.skip ?_
    refine W.sq ?_
    refine g 19 22 [.call (V.i (pickV l (pos + (1:Int)) (7:Int))) ([rdC l (pos + (1:Int) + (1:Int)),[]])] ?_
    conv=>whnf
    refine ⟨⟨I,⟨⟨I,I,I⟩,I,⟨I,⟨I,I⟩,I⟩,⟨I,I⟩,Go.K.c_spec_l1Rd_pick _ _ _ (by omega) (by omega) (by omega) (by omega)⟩,I⟩,?_⟩
    refine W.blk ?_
    refine g 36 37 [] ?_
    conv=>whnf
    refine ⟨⟨I,I,I⟩,?_⟩
    refine W.cn ?_
    conv=>whnf
    refine ⟨noT (dF (by omega)),fun _=>?_⟩
    refine g 35 36 [] ?_
    conv=>whnf
    refine ⟨⟨I,I,I⟩,?_⟩
    refine W.cn ?_
    conv=>whnf
    refine ⟨fun _=>?_,noF (dT (by omega))⟩
    refine rgd [[],[],[],[],[],[.call (V.i (pickV l (pos + (1:Int) + (1:Int)) (4:Int))) ([rdC l (pos + (1:Int) + (1:Int) + (1:Int)),[]])],[.n (Int.toNat (pickV l (pos + (1:Int) + (1:Int)) (4:Int)))],[.x ([T.i x])],[.n (kk)],[],[.x (taskT t)]] ?_
    conv=>whnf
    refine ⟨⟨I,I,I,⟨⟨I,I⟩,⟨I,I⟩,⟨I,I⟩,⟨I,I⟩,I⟩,I,⟨⟨I,I,I⟩,I,⟨I,⟨I,I⟩,I⟩,⟨I,I⟩,Go.K.c_spec_l1Rd_pick _ _ _ (by omega) (by omega) (by omega) (by omega)⟩,⟨(by omega),(by simp only [lens]; omega)⟩,(by assumption),⟨rfl,(by simp only [lens]; omega)⟩,I,⟨⟨I,I⟩,ixl (by assumption)⟩,I⟩,by kernel_rfl,?_⟩
    refine g 5 140 [] ?_
    conv=>whnf
    refine ⟨⟨I,⟨I,I⟩,I⟩,?_⟩
    refine W.ret ?_
    refine EndsW.rt ?_
    conv=>whnf
    refine ⟨⟨I,I,I⟩,?_⟩
    exact ⟨⟨p.tasks.set kk ⟨t.name,x,t.deps⟩⟩,_,congrArg (fun z=>V.agg [V.own taskK z]) (map_set_task (t:=⟨t.name,x,t.deps⟩)),rfl,mid_set hp ⟨by dsimp only; omega,by dsimp only; omega⟩,by omega,by omega⟩
   ·by_cases c2:pickV l (pos + 1) 7 = 2
    ·have r2:=pick_rng l (pos + 1 + 1) 4
     obtain ⟨x,hx1,hx2⟩:=pick_int [(kk:Int),-1,0,(kk:Int) + 1] (pickV l (pos + 1 + 1) 4) r2.1 (by show _ < (4:Int); omega)
     have hx3:([[T.i (kk:Int)],[T.i (-1)],[T.i 0],[T.i ((kk:Int) + 1)]]:List (List T))[(pickV l (pos + 1 + 1) 4).toNat]? = some [T.i x]:=hx2
     refine x_spec_l1Spoil ?_
     conv=>whnf
     refine g 0 0 [] ?_
     conv=>whnf
     refine ⟨⟨⟨I,I⟩,I,I⟩,?_⟩
     refine g 9 11 [.call (planO p) ([[]])] ?_
     conv=>whnf
     refine ⟨⟨I,⟨⟨I,I⟩,I,⟨⟨I,I⟩,I⟩,⟨I,I⟩,(by assumption)⟩,I,⟨I,I⟩,I⟩,?_⟩
     refine g 11 16 [.call (V.i (↑kk:Int)) ([rdC l (pos + (1:Int)),[]])] ?_
     conv=>whnf
     refine ⟨⟨I,I,I,I,⟨⟨I,I,I⟩,I,⟨I,⟨I,I⟩,I⟩,⟨I,I⟩,(by assumption)⟩,I,I⟩,?_⟩
     refine W.sq ?_
     refine g 16 19 [] ?_
     conv=>whnf
     refine ⟨⟨I,I,I,I,I⟩,?_⟩
     refine W.cn ?_
     conv=>whnf
     refine ⟨noT (by simp [*]),fun _=>?_⟩
     refine W.skip ?_
     refine W.sq ?_
     refine g 19 22 [.call (V.i (pickV l (pos + (1:Int)) (7:Int))) ([rdC l (pos + (1:Int) + (1:Int)),[]])] ?_
     conv=>whnf
     refine ⟨⟨I,⟨⟨I,I,I⟩,I,⟨I,⟨I,I⟩,I⟩,⟨I,I⟩,Go.K.c_spec_l1Rd_pick _ _ _ (by omega) (by omega) (by omega) (by omega)⟩,I⟩,?_⟩
     refine W.blk ?_
     refine g 36 37 [] ?_
     conv=>whnf
     refine ⟨⟨I,I,I⟩,?_⟩
     refine W.cn ?_
     conv=>whnf
     refine ⟨noT (dF (by omega)),fun _=>?_⟩
     refine g 35 36 [] ?_
     conv=>whnf
     refine ⟨⟨I,I,I⟩,?_⟩
     refine W.cn ?_
     conv=>whnf
     refine ⟨noT (dF (by omega)),fun _=>?_⟩
     refine g 54 56 [] ?_
     conv=>whnf
     refine ⟨⟨I,I,I⟩,?_⟩
     refine W.cn ?_
     conv=>whnf
     refine ⟨fun _=>?_,noF (dT (by omega))⟩
     refine rgd [[],[],[],[],[],[],[.n (kk)],[],[.x (taskT t)],[],[],[.i ((↑kk:Int) + (1:Int))],[],[],[.call (V.i (pickV l (pos + (1:Int) + (1:Int)) (4:Int))) ([rdC l (pos + (1:Int) + (1:Int) + (1:Int)),[]])],[.n (Int.toNat (pickV l (pos + (1:Int) + (1:Int)) (4:Int)))],[.x ([T.i x])],[],[.x (taskT t)],[.n (kk)],[],[.x (List.set (taskT t) ((0:Nat) + (2:Nat)) T.hole)]] ?_
     conv=>whnf
     refine ⟨⟨I,I,I,I,I,I,⟨rfl,(by simp only [lens]; omega)⟩,I,ixl (by assumption),I,I,w64 (by omega) (by omega),⟨⟨I,I⟩,⟨I,I⟩,⟨I,I⟩,⟨I,I⟩,I⟩,I,⟨⟨I,I,I⟩,I,⟨I,⟨I,I⟩,I⟩,⟨I,I⟩,Go.K.c_spec_l1Rd_pick _ _ _ (by omega) (by omega) (by omega) (by omega)⟩,⟨(by omega),(by simp only [lens]; omega)⟩,(by assumption),⟨⟨I,I⟩,I⟩,⟨I,ixl (by assumption),(by simp only [lens]; omega)⟩,⟨rfl,(by simp only [lens]; omega)⟩,I,⟨⟨I,I⟩,getset (by simp only [lens]; omega)⟩,I⟩,by kernel_rfl,?_⟩
     rw [List.set_set]
     refine g 5 140 [] ?_
     conv=>whnf
     refine ⟨⟨I,⟨I,I⟩,I⟩,?_⟩
     refine W.ret ?_
     refine EndsW.rt ?_
     conv=>whnf
     refine ⟨⟨I,I,I⟩,?_⟩
     exact ⟨⟨p.tasks.set kk ⟨t.name,t.cost,t.deps ++ [x]⟩⟩,_,congrArg (fun z=>V.agg [V.own taskK z]) ((congrArg ((p.tasks.map taskT).set kk) (show _ = taskT ⟨t.name,t.cost,t.deps ++ [x]⟩ by show [T.s t.name,T.i t.cost,T.slc [false] (t.deps.map intT ++ [intT x])] = _; rw [← app_one])).trans map_set_task),rfl,mid_set hp ⟨by dsimp only; omega,by dsimp only; rw [List.length_append]; simp; omega⟩,by omega,by omega⟩
    ·by_cases c3:pickV l (pos + 1) 7 = 3
     ·refine x_spec_l1Spoil ?_
      conv=>whnf
      refine g 0 0 [] ?_
      conv=>whnf
      refine ⟨⟨⟨I,I⟩,I,I⟩,?_⟩
      refine g 9 11 [.call (planO p) ([[]])] ?_
      conv=>whnf
      refine ⟨⟨I,⟨⟨I,I⟩,I,⟨⟨I,I⟩,I⟩,⟨I,I⟩,(by assumption)⟩,I,⟨I,I⟩,I⟩,?_⟩
      refine g 11 16 [.call (V.i (↑kk:Int)) ([rdC l (pos + (1:Int)),[]])] ?_
      conv=>whnf
      refine ⟨⟨I,I,I,I,⟨⟨I,I,I⟩,I,⟨I,⟨I,I⟩,I⟩,⟨I,I⟩,(by assumption)⟩,I,I⟩,?_⟩
      refine W.sq ?_
      refine g 16 19 [] ?_
      conv=>whnf
      refine ⟨⟨I,I,I,I,I⟩,?_⟩
      refine W.cn ?_
      conv=>whnf
      refine ⟨noT (by simp [*]),fun _=>?_⟩
      refine W.skip ?_
      refine W.sq ?_
      refine g 19 22 [.call (V.i (pickV l (pos + (1:Int)) (7:Int))) ([rdC l (pos + (1:Int) + (1:Int)),[]])] ?_
      conv=>whnf
      refine ⟨⟨I,⟨⟨I,I,I⟩,I,⟨I,⟨I,I⟩,I⟩,⟨I,I⟩,Go.K.c_spec_l1Rd_pick _ _ _ (by omega) (by omega) (by omega) (by omega)⟩,I⟩,?_⟩
      refine W.blk ?_
      refine g 36 37 [] ?_
      conv=>whnf
      refine ⟨⟨I,I,I⟩,?_⟩
      refine W.cn ?_
      conv=>whnf
      refine ⟨noT (dF (by omega)),fun _=>?_⟩
      refine g 35 36 [] ?_
      conv=>whnf
      refine ⟨⟨I,I,I⟩,?_⟩
      refine W.cn ?_
      conv=>whnf
      refine ⟨noT (dF (by omega)),fun _=>?_⟩
      refine g 54 56 [] ?_
      conv=>whnf
      refine ⟨⟨I,I,I⟩,?_⟩
      refine W.cn ?_
      conv=>whnf
      refine ⟨noT (dF (by omega)),fun _=>?_⟩
      refine g 66 68 [] ?_
      conv=>whnf
      refine ⟨⟨I,I,I⟩,?_⟩
      refine W.cn ?_
      conv=>whnf
      refine ⟨fun _=>?_,noF (dT (by omega))⟩
      refine rg [] ?_
      conv=>whnf
      refine ⟨⟨I,I,⟨I,I⟩,I⟩,?_⟩
      refine g 5 140 [] ?_
      conv=>whnf
      refine ⟨⟨I,⟨I,I⟩,I⟩,?_⟩
      refine W.ret ?_
      refine EndsW.rt ?_
      conv=>whnf
      refine ⟨⟨I,I,I⟩,?_⟩
      exact ⟨⟨[]⟩,_,rfl,rfl,⟨Nat.zero_le _,fun t ht=>by cases ht⟩,by omega,by omega⟩
     ·by_cases c4:pickV l (pos + 1) 7 = 4
      ·refine x_spec_l1Spoil ?_
       conv=>whnf
       refine g 0 0 [] ?_
       conv=>whnf
       refine ⟨⟨⟨I,I⟩,I,I⟩,?_⟩
       refine g 9 11 [.call (planO p) ([[]])] ?_
       conv=>whnf
       refine ⟨⟨I,⟨⟨I,I⟩,I,⟨⟨I,I⟩,I⟩,⟨I,I⟩,(by assumption)⟩,I,⟨I,I⟩,I⟩,?_⟩
       refine g 11 16 [.call (V.i (↑kk:Int)) ([rdC l (pos + (1:Int)),[]])] ?_
       conv=>whnf
       refine ⟨⟨I,I,I,I,⟨⟨I,I,I⟩,I,⟨I,⟨I,I⟩,I⟩,⟨I,I⟩,(by assumption)⟩,I,I⟩,?_⟩
       refine W.sq ?_
       refine g 16 19 [] ?_
       conv=>whnf
       refine ⟨⟨I,I,I,I,I⟩,?_⟩
       refine W.cn ?_
       conv=>whnf
       refine ⟨noT (by simp [*]),fun _=>?_⟩
       refine W.skip ?_
       refine W.sq ?_
       refine g 19 22 [.call (V.i (pickV l (pos + (1:Int)) (7:Int))) ([rdC l (pos + (1:Int) + (1:Int)),[]])] ?_
       conv=>whnf
       refine ⟨⟨I,⟨⟨I,I,I⟩,I,⟨I,⟨I,I⟩,I⟩,⟨I,I⟩,Go.K.c_spec_l1Rd_pick _ _ _ (by omega) (by omega) (by omega) (by omega)⟩,I⟩,?_⟩
       refine W.blk ?_
       refine g 36 37 [] ?_
       conv=>whnf
       refine ⟨⟨I,I,I⟩,?_⟩
       refine W.cn ?_
       conv=>whnf
       refine ⟨noT (dF (by omega)),fun _=>?_⟩
       refine g 35 36 [] ?_
       conv=>whnf
       refine ⟨⟨I,I,I⟩,?_⟩
       refine W.cn ?_
       conv=>whnf
       refine ⟨noT (dF (by omega)),fun _=>?_⟩
       refine g 54 56 [] ?_
       conv=>whnf
       refine ⟨⟨I,I,I⟩,?_⟩
       refine W.cn ?_
       conv=>whnf
       refine ⟨noT (dF (by omega)),fun _=>?_⟩
       refine g 66 68 [] ?_
       conv=>whnf
       refine ⟨⟨I,I,I⟩,?_⟩
       refine W.cn ?_
       conv=>whnf
       refine ⟨noT (dF (by omega)),fun _=>?_⟩
       refine g 89 91 [] ?_
       conv=>whnf
       refine ⟨⟨I,I,I⟩,?_⟩
       refine W.cn ?_
       conv=>whnf
       refine ⟨fun _=>?_,noF (dT (by omega))⟩
       refine g 22 95 [] ?_
       conv=>whnf
       refine ⟨⟨I,I⟩,?_⟩
       refine W.blk ?_
       refine W.lp (fun s (x:Nat × List Task × Int)=>⟨[(0,s.s 0),(1,s.s 1),(4,s.s 4),(5,s.s 5),(7,.i x.1)],[(141,[s.c 141 0]),(4,[s.c 4 0]),(140,[.t (u8s l),.t (.i x.2.2)]),(5,[.own taskK (x.2.1.map taskT)])],[]⟩) (fun (x:Nat × List Task × Int)=>x.1 ≤ 41 ∧ x.1 ≤ x.2.1.length ∧ (x.2.1.length ≤ 41 ∨ x.2.1.length ≤ 64 ∧ x.1 = 0) ∧ (∀ t ∈ x.2.1,taskMid t) ∧ pos + 2 ≤ x.2.2 ∧ x.2.2 ≤ pos + 2 + x.1) (fun (x:Nat × List Task × Int)=>64 - x.2.1.length) ((0,p.tasks,pos + 2)) [some 141,some 4,some 140,some 5] [] ⟨rfl,⟨rfl,⟨_,rfl,_,_,rfl,rfl,rfl⟩,rfl,rfl,rfl,I⟩,⟨⟨rfl,⟨I,I⟩⟩,⟨⟨rfl,⟨rfl,I⟩⟩,⟨⟨rfl,⟨rfl,⟨(congrArg (fun z=>V.t (T.v (Value.int _ z))) (by show pos + 1 + 1 = pos + 2; omega)),I⟩⟩⟩,⟨⟨rfl,⟨rfl,I⟩⟩,I⟩⟩⟩⟩,I⟩ ?_ ?_
       ·exact ⟨Nat.zero_le _,Nat.zero_le _,.inr ⟨hp1,rfl⟩,(small_mid hp).2,Int.le_refl _,by show pos + 2 ≤ pos + 2 + ((0:Nat):Int); omega⟩
       rintro ⟨i,ts,q⟩ ⟨i1,i2,i3,i4,i5,i6⟩
       dsimp only at i1 i2 i3 i4 i5 i6
       have r3:=pick_rng l q 2
       by_cases hlt:(ts.length:Int) < 40 + pickV l q 2
       ·have cd:=c_spec_l1Dec i (by omega) (by omega)
        have hds:=decS_size i
        conv=>whnf
        refine W.sq ?_
        refine gd 95 101 [[],[],[],[],[.call (V.i (pickV l q (2:Int))) ([rdC l (q + (1:Int)),[]])],[.i ((40:Int) + pickV l q (2:Int))],[]] ?_
        conv=>whnf
        refine ⟨⟨I,I,I,I,⟨⟨I,I,I⟩,I,⟨I,⟨I,I⟩,I⟩,⟨I,I⟩,Go.K.c_spec_l1Rd_pick _ _ _ (by first | omega | decide | assumption | (simp only [ByteArray.size_extract,List.length_map]; omega) | simp [*]) (by first | omega | decide | assumption | (simp only [ByteArray.size_extract,List.length_map]; omega) | simp [*]) (by first | omega | decide | assumption | (simp only [ByteArray.size_extract,List.length_map]; omega) | simp [*]) (by first | omega | decide | assumption | (simp only [ByteArray.size_extract,List.length_map]; omega) | simp [*])⟩,w64 (by omega) (by omega),I,I⟩,by kernel_rfl,?_⟩
        refine W.cn ?_
        conv=>whnf
        refine ⟨fun _=>?_,noF (by simp [*])⟩
        refine W.skip ?_
        refine W.sq ?_
        refine W.blk ?_
        refine rgd [[],[],[],[.call (V.s (decS (↑i:Int))) ([[]])],[.s ({ data:=#[(120:UInt8)]:ByteArray } ++ decS (↑i:Int))],[],[],[],[],[]] ?_
        conv=>whnf
        refine ⟨⟨I,I,I,⟨⟨I,I⟩,I,⟨⟨I,I⟩,I⟩,⟨I,I⟩,(by assumption)⟩,⟨rfl,(by simp only [bsz,bsa,ByteArray.size_append,List.size_toArray,lens]; omega)⟩,I,⟨⟨I,I,I,I⟩,I⟩,⟨I,I,(by simp only [lens]; omega)⟩,I,⟨I,I⟩,I⟩,by kernel_rfl,?_⟩
        refine rg [.i ((↑(Prod.fst (i,ts,q)):Int) + (1:Int))] ?_
        conv=>whnf
        refine ⟨⟨I,w64 (by omega) (by omega),I,I⟩,?_⟩
        refine ⟨(i + 1,ts ++ [(⟨(⟨#[120]⟩:ByteArray) ++ decS i,1,[]⟩:Task)],q + 1),[some 141,some 4,some 140,some 5],[],⟨rfl,⟨rfl,⟨_,rfl,_,_,rfl,rfl,rfl⟩,rfl,rfl,rfl,I⟩,⟨⟨rfl,⟨I,I⟩⟩,⟨⟨rfl,⟨rfl,I⟩⟩,⟨⟨rfl,⟨rfl,⟨rfl,I⟩⟩⟩,⟨⟨rfl,⟨(congrArg (V.own _) (by rw [List.map_append]; rfl)),I⟩⟩,I⟩⟩⟩⟩,I⟩,?_,?_⟩
        rotate_left 1
        rotate_right 1
        dsimp only
        ·refine ⟨by omega,by rw [len_one]; omega,.inl (by rw [len_one]; omega),app_mid i4 (new_mid _ rfl i),by omega,by omega⟩
        ·show 64 - (ts ++ [_]).length < 64 - ts.length
         rw [len_one]; omega
       ·conv=>whnf
        refine W.sq ?_
        refine gd 95 101 [[],[],[],[],[.call (V.i (pickV l q (2:Int))) ([rdC l (q + (1:Int)),[]])],[.i ((40:Int) + pickV l q (2:Int))],[]] ?_
        conv=>whnf
        refine ⟨⟨I,I,I,I,⟨⟨I,I,I⟩,I,⟨I,⟨I,I⟩,I⟩,⟨I,I⟩,Go.K.c_spec_l1Rd_pick _ _ _ (by first | omega | decide | assumption | (simp only [ByteArray.size_extract,List.length_map]; omega) | simp [*]) (by first | omega | decide | assumption | (simp only [ByteArray.size_extract,List.length_map]; omega) | simp [*]) (by first | omega | decide | assumption | (simp only [ByteArray.size_extract,List.length_map]; omega) | simp [*]) (by first | omega | decide | assumption | (simp only [ByteArray.size_extract,List.length_map]; omega) | simp [*])⟩,w64 (by omega) (by omega),I,I⟩,by kernel_rfl,?_⟩
        refine W.cn ?_
        conv=>whnf
        refine ⟨noT (by simp [*]),fun _=>?_⟩
        refine W.exit ?_
        refine g 5 140 [] ?_
        conv=>whnf
        refine ⟨⟨I,⟨I,I⟩,I⟩,?_⟩
        refine W.ret ?_
        refine EndsW.rt ?_
        conv=>whnf
        refine ⟨⟨I,I,I⟩,?_⟩
        exact ⟨⟨ts⟩,_,rfl,rfl,⟨by dsimp only; omega,i4⟩,by omega,by omega⟩
      ·by_cases c5:pickV l (pos + 1) 7 = 5
       ·refine x_spec_l1Spoil ?_
        conv=>whnf
        refine g 0 0 [] ?_
        conv=>whnf
        refine ⟨⟨⟨I,I⟩,I,I⟩,?_⟩
        refine g 9 11 [.call (planO p) ([[]])] ?_
        conv=>whnf
        refine ⟨⟨I,⟨⟨I,I⟩,I,⟨⟨I,I⟩,I⟩,⟨I,I⟩,(by assumption)⟩,I,⟨I,I⟩,I⟩,?_⟩
        refine g 11 16 [.call (V.i (↑kk:Int)) ([rdC l (pos + (1:Int)),[]])] ?_
        conv=>whnf
        refine ⟨⟨I,I,I,I,⟨⟨I,I,I⟩,I,⟨I,⟨I,I⟩,I⟩,⟨I,I⟩,(by assumption)⟩,I,I⟩,?_⟩
        refine W.sq ?_
        refine g 16 19 [] ?_
        conv=>whnf
        refine ⟨⟨I,I,I,I,I⟩,?_⟩
        refine W.cn ?_
        conv=>whnf
        refine ⟨noT (by simp [*]),fun _=>?_⟩
        refine W.skip ?_
        refine W.sq ?_
        refine g 19 22 [.call (V.i (pickV l (pos + (1:Int)) (7:Int))) ([rdC l (pos + (1:Int) + (1:Int)),[]])] ?_
        conv=>whnf
        refine ⟨⟨I,⟨⟨I,I,I⟩,I,⟨I,⟨I,I⟩,I⟩,⟨I,I⟩,Go.K.c_spec_l1Rd_pick _ _ _ (by omega) (by omega) (by omega) (by omega)⟩,I⟩,?_⟩
        refine W.blk ?_
        refine g 36 37 [] ?_
        conv=>whnf
        refine ⟨⟨I,I,I⟩,?_⟩
        refine W.cn ?_
        conv=>whnf
        refine ⟨noT (dF (by omega)),fun _=>?_⟩
        refine g 35 36 [] ?_
        conv=>whnf
        refine ⟨⟨I,I,I⟩,?_⟩
        refine W.cn ?_
        conv=>whnf
        refine ⟨noT (dF (by omega)),fun _=>?_⟩
        refine g 54 56 [] ?_
        conv=>whnf
        refine ⟨⟨I,I,I⟩,?_⟩
        refine W.cn ?_
        conv=>whnf
        refine ⟨noT (dF (by omega)),fun _=>?_⟩
        refine g 66 68 [] ?_
        conv=>whnf
        refine ⟨⟨I,I,I⟩,?_⟩
        refine W.cn ?_
        conv=>whnf
        refine ⟨noT (dF (by omega)),fun _=>?_⟩
        refine g 89 91 [] ?_
        conv=>whnf
        refine ⟨⟨I,I,I⟩,?_⟩
        refine W.cn ?_
        conv=>whnf
        refine ⟨noT (dF (by omega)),fun _=>?_⟩
        refine g 22 95 [] ?_
        conv=>whnf
        refine ⟨⟨I,I,I⟩,?_⟩
        refine W.cn ?_
        conv=>whnf
        refine ⟨fun _=>?_,noF (dT (by omega))⟩
        refine W.sq ?_
        refine g 113 115 [] ?_
        conv=>whnf
        refine ⟨⟨I,I⟩,?_⟩
        refine W.blk ?_
        refine W.lp (fun s (x:Nat × List Task)=>⟨[(0,s.s 0),(1,s.s 1),(3,s.s 3),(4,s.s 4),(5,s.s 5),(6,s.s 6),(8,.i x.1)],[(140,[s.c 140 0,s.c 140 1]),(141,[s.c 141 0]),(3,[s.c 3 0]),(4,[s.c 4 0]),(5,[.own taskK (x.2.map taskT)])],[]⟩) (fun (x:Nat × List Task)=>x.1 ≤ 12 ∧ x.1 ≤ x.2.length ∧ x.2.length ≤ 64 ∧ (∀ t ∈ x.2,taskMid t)) (fun (x:Nat × List Task)=>64 - x.2.length) ((0,p.tasks)) [some 140,some 141,some 3,some 4,some 5] [] ⟨rfl,⟨rfl,⟨_,rfl,_,_,rfl,rfl,rfl⟩,rfl,rfl,rfl,rfl,rfl,I⟩,⟨⟨rfl,⟨rfl,⟨rfl,I⟩⟩⟩,⟨⟨rfl,⟨I,I⟩⟩,⟨⟨rfl,⟨rfl,I⟩⟩,⟨⟨rfl,⟨rfl,I⟩⟩,⟨⟨rfl,⟨rfl,I⟩⟩,I⟩⟩⟩⟩⟩,I⟩ ?_ ?_
        ·exact ⟨Nat.zero_le _,Nat.zero_le _,hp1,(small_mid hp).2⟩
        rintro ⟨i,ts⟩ ⟨i1,i2,i3,i4⟩
        dsimp only at i1 i2 i3 i4
        by_cases hlt:ts.length < 12
        ·have cd:=c_spec_l1Dec i (by omega) (by omega)
         have hds:=decS_size i
         conv=>whnf
         refine W.sq ?_
         refine g 115 118 [] ?_
         conv=>whnf
         refine ⟨⟨I,I,I,I,I⟩,?_⟩
         refine W.cn ?_
         conv=>whnf
         refine ⟨fun h2=>?_,fun h2=>?_⟩
         replace h2:=dt h2
         simp only [List.length_map] at h2
         refine W.skip ?_
         refine W.sq ?_
         refine W.blk ?_
         refine rgd [[],[],[],[.call (V.s (decS (↑i:Int))) ([[]])],[.s ({ data:=#[(121:UInt8)]:ByteArray } ++ decS (↑i:Int))],[],[],[],[],[]] ?_
         conv=>whnf
         refine ⟨⟨I,I,I,⟨⟨I,I⟩,I,⟨⟨I,I⟩,I⟩,⟨I,I⟩,(by assumption)⟩,⟨rfl,(by simp only [bsz,bsa,ByteArray.size_append,List.size_toArray,lens]; omega)⟩,I,⟨⟨I,I,I,I⟩,I⟩,⟨I,I,(by simp only [lens]; omega)⟩,I,⟨I,I⟩,I⟩,by kernel_rfl,?_⟩
         refine rg [.i ((↑(Prod.fst (i,ts)):Int) + (1:Int))] ?_
         conv=>whnf
         refine ⟨⟨I,w64 (by omega) (by omega),I,I⟩,?_⟩
         rotate_left 1
         replace h2:=df h2
         simp only [List.length_map] at h2
         omega
         refine ⟨(i + 1,ts ++ [(⟨(⟨#[121]⟩:ByteArray) ++ decS i,1,[]⟩:Task)]),[some 140,some 141,some 3,some 4,some 5],[],⟨rfl,⟨rfl,⟨_,rfl,_,_,rfl,rfl,rfl⟩,rfl,rfl,rfl,rfl,rfl,I⟩,⟨⟨rfl,⟨rfl,⟨rfl,I⟩⟩⟩,⟨⟨rfl,⟨I,I⟩⟩,⟨⟨rfl,⟨rfl,I⟩⟩,⟨⟨rfl,⟨rfl,I⟩⟩,⟨⟨rfl,⟨(congrArg (V.own _) (by rw [List.map_append]; rfl)),I⟩⟩,I⟩⟩⟩⟩⟩,I⟩,?_,?_⟩
         rotate_left 1
         rotate_right 1
         dsimp only
         ·refine ⟨by omega,by rw [len_one]; omega,by rw [len_one]; omega,app_mid i4 (new_mid _ rfl i)⟩
         ·show 64 - (ts ++ [_]).length < 64 - ts.length
          rw [len_one]; omega
        ·obtain ⟨t11,ht11⟩:=some_at (xs:=ts) (n:=11) (by omega)
         have r3:=pick_rng l (pos + 1 + 1) 2
         conv=>whnf
         refine W.sq ?_
         refine g 115 118 [] ?_
         conv=>whnf
         refine ⟨⟨I,I,I,I,I⟩,?_⟩
         refine W.cn ?_
         conv=>whnf
         refine ⟨fun h2=>?_,fun h2=>?_⟩
         replace h2:=dt h2
         simp only [List.length_map] at h2
         omega
         replace h2:=df h2
         simp only [List.length_map] at h2
         refine W.exit ?_
         refine rgd [[],[],[],[],[.call (V.i (pickV l (pos + (1:Int) + (1:Int)) (2:Int))) ([rdC l (pos + (1:Int) + (1:Int) + (1:Int)),[]])],[.i ((8:Int) + pickV l (pos + (1:Int) + (1:Int)) (2:Int))],[.n (Int.toNat ((8:Int) + pickV l (pos + (1:Int) + (1:Int)) (2:Int)))],[.n ((11:Nat))],[],[.x (taskT t11)]] ?_
         conv=>whnf
         refine ⟨⟨I,I,⟨⟨I,I⟩,⟨I,I⟩,⟨I,I⟩,⟨I,I⟩,⟨I,I⟩,⟨I,I⟩,⟨I,I⟩,⟨I,I⟩,⟨I,I⟩,I⟩,I,⟨⟨I,I,I⟩,I,⟨I,⟨I,I⟩,I⟩,⟨I,I⟩,Go.K.c_spec_l1Rd_pick _ _ _ (by omega) (by omega) (by omega) (by omega)⟩,w64 (by omega) (by omega),⟨I,(by omega),I,(by omega),(by simp only [lens]; omega)⟩,⟨rfl,(by simp only [lens]; omega)⟩,I,⟨⟨I,I⟩,ixl (by assumption)⟩,I⟩,by kernel_rfl,?_⟩
         refine g 5 140 [] ?_
         conv=>whnf
         refine ⟨⟨I,⟨I,I⟩,I⟩,?_⟩
         refine W.ret ?_
         refine EndsW.rt ?_
         conv=>whnf
         refine ⟨⟨I,I,I⟩,?_⟩
         have hm11:=i4 t11 (List.mem_of_getElem? ht11)
         exact ⟨⟨ts.set 11 ⟨t11.name,t11.cost,([0,1,2,3,4,5,6,7,8]:List Int).take (8 + pickV l (pos + 1 + 1) 2).toNat⟩⟩,_,congrArg (fun z=>V.agg [V.own taskK z]) ((congrArg ((ts.map taskT).set 11) (show _ = taskT ⟨t11.name,t11.cost,([0,1,2,3,4,5,6,7,8]:List Int).take (8 + pickV l (pos + 1 + 1) 2).toNat⟩ by show [T.s t11.name,T.i t11.cost,T.slc [false] _] = [T.s t11.name,T.i t11.cost,T.slc [false] _]; rw [List.drop_zero,List.map_take]; rfl)).trans map_set_task),rfl,mid_set' i3 i4 ⟨hm11.1,by dsimp only; rw [List.length_take]; show min _ 9 ≤ 128; omega⟩,by omega,by omega⟩
       ·refine x_spec_l1Spoil ?_
        conv=>whnf
        refine g 0 0 [] ?_
        conv=>whnf
        refine ⟨⟨⟨I,I⟩,I,I⟩,?_⟩
        refine g 9 11 [.call (planO p) ([[]])] ?_
        conv=>whnf
        refine ⟨⟨I,⟨⟨I,I⟩,I,⟨⟨I,I⟩,I⟩,⟨I,I⟩,(by assumption)⟩,I,⟨I,I⟩,I⟩,?_⟩
        refine g 11 16 [.call (V.i (↑kk:Int)) ([rdC l (pos + (1:Int)),[]])] ?_
        conv=>whnf
        refine ⟨⟨I,I,I,I,⟨⟨I,I,I⟩,I,⟨I,⟨I,I⟩,I⟩,⟨I,I⟩,(by assumption)⟩,I,I⟩,?_⟩
        refine W.sq ?_
        refine g 16 19 [] ?_
        conv=>whnf
        refine ⟨⟨I,I,I,I,I⟩,?_⟩
        refine W.cn ?_
        conv=>whnf
        refine ⟨noT (by simp [*]),fun _=>?_⟩
        refine W.skip ?_
        refine W.sq ?_
        refine g 19 22 [.call (V.i (pickV l (pos + (1:Int)) (7:Int))) ([rdC l (pos + (1:Int) + (1:Int)),[]])] ?_
        conv=>whnf
        refine ⟨⟨I,⟨⟨I,I,I⟩,I,⟨I,⟨I,I⟩,I⟩,⟨I,I⟩,Go.K.c_spec_l1Rd_pick _ _ _ (by omega) (by omega) (by omega) (by omega)⟩,I⟩,?_⟩
        refine W.blk ?_
        refine g 36 37 [] ?_
        conv=>whnf
        refine ⟨⟨I,I,I⟩,?_⟩
        refine W.cn ?_
        conv=>whnf
        refine ⟨noT (dF (by omega)),fun _=>?_⟩
        refine g 35 36 [] ?_
        conv=>whnf
        refine ⟨⟨I,I,I⟩,?_⟩
        refine W.cn ?_
        conv=>whnf
        refine ⟨noT (dF (by omega)),fun _=>?_⟩
        refine g 54 56 [] ?_
        conv=>whnf
        refine ⟨⟨I,I,I⟩,?_⟩
        refine W.cn ?_
        conv=>whnf
        refine ⟨noT (dF (by omega)),fun _=>?_⟩
        refine g 66 68 [] ?_
        conv=>whnf
        refine ⟨⟨I,I,I⟩,?_⟩
        refine W.cn ?_
        conv=>whnf
        refine ⟨noT (dF (by omega)),fun _=>?_⟩
        refine g 89 91 [] ?_
        conv=>whnf
        refine ⟨⟨I,I,I⟩,?_⟩
        refine W.cn ?_
        conv=>whnf
        refine ⟨noT (dF (by omega)),fun _=>?_⟩
        refine g 22 95 [] ?_
        conv=>whnf
        refine ⟨⟨I,I,I⟩,?_⟩
        refine W.cn ?_
        conv=>whnf
        refine ⟨noT (dF (by omega)),fun _=>?_⟩
        refine rgd [[],[],[],[],[],[],[.n (kk)],[],[.x (taskT t)],[.s (Task.name t ++ { data:=#[(122:UInt8)]:ByteArray })],[.n (kk)],[],[.x (taskT t)]] ?_
        conv=>whnf
        refine ⟨⟨I,I,I,I,I,I,⟨rfl,(by simp only [lens]; omega)⟩,I,ixl (by assumption),⟨rfl,(by simp only [bsz,bsa,ByteArray.size_append,List.size_toArray,lens]; omega)⟩,⟨rfl,(by simp only [lens]; omega)⟩,I,⟨⟨I,I⟩,ixl (by assumption)⟩,I⟩,by kernel_rfl,?_⟩
        refine g 5 34 [] ?_
        conv=>whnf
        refine ⟨⟨I,⟨I,I⟩,I⟩,?_⟩
        refine W.ret ?_
        refine EndsW.rt ?_
        conv=>whnf
        refine ⟨⟨I,I,I⟩,?_⟩
        have e1:(⟨#[122]⟩:ByteArray).size = 1:=rfl
        exact ⟨⟨p.tasks.set kk ⟨t.name ++ ⟨#[122]⟩,t.cost,t.deps⟩⟩,_,congrArg (fun z=>V.agg [V.own taskK z]) (map_set_task (t:=⟨t.name ++ ⟨#[122]⟩,t.cost,t.deps⟩)),rfl,mid_set hp ⟨by dsimp only; rw [ByteArray.size_append]; omega,by dsimp only; omega⟩,by omega,by omega⟩
theorem ex_Spoil' (l:List Int) (pos:Int) (p:Plan) (h:planSmall p ∧ u8ok l ∧ 0 ≤ pos ∧ pos ≤ 1000000):∃ x:Plan × Int,F n_spec_l1Spoil [.ptr (rdC l pos),.val (planO p)] (planO x.1) [rdC l x.2,[]] ∧ planMid x.1 ∧ pos ≤ x.2 ∧ x.2 ≤ pos + 100:=by
 obtain ⟨res,outs,⟨q,pos2,rfl,rfl,h1,h2,h3⟩,hF⟩:=ex_Spoil l pos p h.1 h.2.1 h.2.2.1 h.2.2.2
 exact ⟨(q,pos2),hF,h1,h2,h3⟩
open Classical in
noncomputable def spoilP (l:List Int) (pos:Int) (p:Plan):Plan × Int:=if h:planSmall p ∧ u8ok l ∧ 0 ≤ pos ∧ pos ≤ 1000000 then (ex_Spoil' l pos p h).choose else (⟨[]⟩,pos)
theorem c_spec_l1Spoil (l:List Int) (pos:Int) (p:Plan) (hp:planSmall p) (hl:u8ok l) (h0:0 ≤ pos) (h1:pos ≤ 1000000):F n_spec_l1Spoil [.ptr (rdC l pos),.val (planO p)] (planO (spoilP l pos p).1) [rdC l (spoilP l pos p).2,[]]:=by
 have h:planSmall p ∧ u8ok l ∧ 0 ≤ pos ∧ pos ≤ 1000000:=⟨hp,hl,h0,h1⟩
 rw [spoilP,dif_pos h]
 exact (ex_Spoil' l pos p h).choose_spec.1
theorem spoil_ok (l:List Int) (pos:Int) (p:Plan):planMid (spoilP l pos p).1 ∧ pos ≤ (spoilP l pos p).2 ∧ (spoilP l pos p).2 ≤ pos + 100:=by
 unfold spoilP
 split
 ·rename_i h; exact (ex_Spoil' l pos p h).choose_spec.2
 ·exact ⟨⟨Nat.zero_le _,fun t ht=>by cases ht⟩,Int.le_refl _,by dsimp only; omega⟩
end Go.K
end
section
set_option linter.unusedVariables false
set_option linter.unusedSimpArgs false
set_option maxHeartbeats 4000000
set_option maxRecDepth 20000
open Go Go.Tm Go.Proofs
namespace Go.K
theorem emp_l (s:ByteArray):emp ++ s = s:=by apply ByteArray.ext; simp [emp]
end Go.K
end
section
set_option linter.unusedVariables false
set_option linter.unusedSimpArgs false
set_option maxHeartbeats 4000000
set_option maxRecDepth 20000
open Go Go.Tm Go.Proofs
namespace Go.K
attribute [local irreducible] ByteArray.extract
end Go.K
end
section
set_option linter.unusedVariables false
set_option linter.unusedSimpArgs false
set_option maxHeartbeats 4000000
set_option maxRecDepth 20000
open Go Go.Tm Go.Proofs
namespace Go.K
attribute [local irreducible] ByteArray.extract
end Go.K
end
section
set_option linter.unusedVariables false
set_option linter.unusedSimpArgs false
set_option maxHeartbeats 4000000
set_option maxRecDepth 20000
open Go Go.Tm Go.Proofs
namespace Go.K
attribute [local irreducible] ByteArray.extract
end Go.K
end
section
set_option linter.unusedVariables false
set_option linter.unusedSimpArgs false
set_option maxHeartbeats 4000000
set_option maxRecDepth 20000
open Go Go.Tm Go.Proofs
namespace Go.K
attribute [local irreducible] ByteArray.extract
end Go.K
end
section
set_option linter.unusedVariables false
set_option linter.unusedSimpArgs false
set_option maxHeartbeats 4000000
set_option maxRecDepth 20000
open Go Go.Tm Go.Proofs
namespace Go.K
attribute [local irreducible] ByteArray.extract
theorem ext_size {s:ByteArray} {a b:Nat} (h:b ≤ s.size):(s.extract a b).size ≤ b - a:=by rw [ByteArray.size_extract]; omega
theorem ex_Bend (l:List Int) (pos:Int) (s:ByteArray) (hs:s.size ≤ 1000000) (hl:u8ok l) (h0:0 ≤ pos) (h1:pos ≤ 1000000):∃ res outs,(∃ t pos2,res = .s t ∧ outs = [rdC l pos2,[]] ∧ t.size ≤ s.size + 8 ∧ pos ≤ pos2 ∧ pos2 ≤ pos + 3) ∧ F n_spec_l1Bend [.ptr (rdC l pos),.val (.s s)] res outs:=by
 have r0:=pick_rng l pos ((s.size:Int) + 1)
 have r1:=pick_rng l (pos + 1) 4
 have r2:=pick_rng l (pos + 1 + 1) 6
 have r3:=pick_rng l (pos + 1 + 1) 256
 obtain ⟨i,hi⟩:=Int.eq_ofNat_of_zero_le r0.1
 have ck:F n_spec_l1Rd_pick [.ptr (rdC l pos),.val (.i ((s.size:Int) + 1))] (.i (i:Int)) [rdC l (pos + 1),[]]:=by
  have:=c_spec_l1Rd_pick l pos ((s.size:Int) + 1) hl h0 (by omega) (by omega)
  rw [hi] at this; exact this
 have hil:i ≤ s.size:=by omega
 obtain ⟨x,hx1,hx2⟩:=pick_str [⟨#[32]⟩,⟨#[10]⟩,⟨#[0]⟩,⟨#[48]⟩,⟨#[120]⟩,⟨#[49,50,51,52,53,54,55,56]⟩] (pickV l (pos + 1 + 1) 6) r2.1 (by show _ < (6:Int); omega)
 have hx3:([[T.s ⟨#[32]⟩],[T.s ⟨#[10]⟩],[T.s ⟨#[0]⟩],[T.s ⟨#[48]⟩],[T.s ⟨#[120]⟩],[T.s ⟨#[49,50,51,52,53,54,55,56]⟩]]:List (List T))[(pickV l (pos + 1 + 1) 6).toNat]? = some [T.s x]:=hx2
 have hxs:x.size ≤ 8:=by
  have e1:(⟨#[32]⟩:ByteArray).size = 1:=rfl
  have e2:(⟨#[10]⟩:ByteArray).size = 1:=rfl
  have e3:(⟨#[0]⟩:ByteArray).size = 1:=rfl
  have e4:(⟨#[48]⟩:ByteArray).size = 1:=rfl
  have e5:(⟨#[120]⟩:ByteArray).size = 1:=rfl
  have e6:(⟨#[49,50,51,52,53,54,55,56]⟩:ByteArray).size = 8:=rfl
  simp only [List.mem_cons,List.not_mem_nil,or_false] at hx1
  rcases hx1 with rfl | rfl | rfl | rfl | rfl | rfl <;> omega
 have q1:=ext_size (s:=s) (a:=0) hil
 have q2:=ext_size (s:=s) (a:=i) (b:=s.size) (Nat.le_refl _)
 have q3:=ext_size (s:=s) (a:=((i:Int) + 1).toNat) (b:=s.size) (Nat.le_refl _)
 have q5:(⟨(bytesOf [[T.v (Value.int IntKind.u8 (pickV l (pos + 1 + 1) 256))]]).toArray⟩:ByteArray).size = 1:=by
  have e:(⟨(bytesOf [[T.v (Value.int IntKind.u8 (pickV l (pos + 1 + 1) 256))]]).toArray⟩:ByteArray) = bl [pickV l (pos + 1 + 1) 256]:=bytes_b1 [pickV l (pos + 1 + 1) 256]
  rw [e,bl_size]; rfl
 have q6:(s.extract 0 i ++ (⟨(bytesOf [[T.v (Value.int IntKind.u8 (pickV l (pos + 1 + 1) 256))]]).toArray⟩:ByteArray)).size ≤ i + 1:=by rw [ByteArray.size_append,q5]; omega
 by_cases k0:pickV l (pos + 1) 4 = 0
 ·refine x_spec_l1Bend ?_
  conv=>whnf
  refine g 0 0 [] ?_
  conv=>whnf
  refine ⟨⟨I,I⟩,?_⟩
  refine g 6 9 [.i ((↑(ByteArray.size s):Int) + (1:Int)),.call (V.i (↑i:Int)) ([rdC l (pos + (1:Int)),[]])] ?_
  conv=>whnf
  refine ⟨⟨I,I,I,w64 (by omega) (by omega),⟨⟨I,I,I⟩,I,⟨I,⟨I,I⟩,I⟩,⟨I,I⟩,(by assumption)⟩,I,I⟩,?_⟩
  refine W.sq ?_
  refine g 10 12 [.call (V.i (pickV l (pos + (1:Int)) (4:Int))) ([rdC l (pos + (1:Int) + (1:Int)),[]])] ?_
  conv=>whnf
  refine ⟨⟨I,⟨⟨I,I,I⟩,I,⟨I,⟨I,I⟩,I⟩,⟨I,I⟩,Go.K.c_spec_l1Rd_pick _ _ _ (by omega) (by omega) (by omega) (by omega)⟩,I⟩,?_⟩
  refine W.blk ?_
  refine g 14 15 [] ?_
  conv=>whnf
  refine ⟨⟨I,I,I⟩,?_⟩
  refine W.cn ?_
  conv=>whnf
  refine ⟨fun _=>?_,noF (dT (by omega))⟩
  refine g 12 18 [.n (i),.s (ByteArray.extract s (0:Nat) i)] ?_
  conv=>whnf
  refine ⟨⟨I,I,⟨rfl,I,(by omega),(by assumption),rfl⟩,I,I⟩,?_⟩
  refine W.ret ?_
  refine EndsW.rt ?_
  conv=>whnf
  refine ⟨⟨I,I,I⟩,?_⟩
  exact ⟨s.extract 0 i,_,rfl,rfl,by omega,by omega,by omega⟩
 ·by_cases k1:pickV l (pos + 1) 4 = 1
  ·refine x_spec_l1Bend ?_
   conv=>whnf
   refine g 0 0 [] ?_
   conv=>whnf
   refine ⟨⟨I,I⟩,?_⟩
   refine g 6 9 [.i ((↑(ByteArray.size s):Int) + (1:Int)),.call (V.i (↑i:Int)) ([rdC l (pos + (1:Int)),[]])] ?_
   conv=>whnf
   refine ⟨⟨I,I,I,w64 (by omega) (by omega),⟨⟨I,I,I⟩,I,⟨I,⟨I,I⟩,I⟩,⟨I,I⟩,(by assumption)⟩,I,I⟩,?_⟩
   refine W.sq ?_
   refine g 10 12 [.call (V.i (pickV l (pos + (1:Int)) (4:Int))) ([rdC l (pos + (1:Int) + (1:Int)),[]])] ?_
   conv=>whnf
   refine ⟨⟨I,⟨⟨I,I,I⟩,I,⟨I,⟨I,I⟩,I⟩,⟨I,I⟩,Go.K.c_spec_l1Rd_pick _ _ _ (by omega) (by omega) (by omega) (by omega)⟩,I⟩,?_⟩
   refine W.blk ?_
   refine g 14 15 [] ?_
   conv=>whnf
   refine ⟨⟨I,I,I⟩,?_⟩
   refine W.cn ?_
   conv=>whnf
   refine ⟨noT (dF (by omega)),fun _=>?_⟩
   refine g 13 14 [] ?_
   conv=>whnf
   refine ⟨⟨I,I,I⟩,?_⟩
   refine W.cn ?_
   conv=>whnf
   refine ⟨fun _=>?_,noF (dT (by omega))⟩
   refine gd 12 33 [[],[],[.n (i),.s (ByteArray.extract s (0:Nat) i)],[],[],[.call (V.i (pickV l (pos + (1:Int) + (1:Int)) (6:Int))) ([rdC l (pos + (1:Int) + (1:Int) + (1:Int)),[]])],[.n (Int.toNat (pickV l (pos + (1:Int) + (1:Int)) (6:Int)))],[.x ([T.s x])],[.s (ByteArray.extract s (0:Nat) i ++ x)],[],[],[.n (i),.s (ByteArray.extract s i (ByteArray.size s))],[.s (ByteArray.extract s (0:Nat) i ++ x ++ ByteArray.extract s i (ByteArray.size s))],[]] ?_
   conv=>whnf
   refine ⟨⟨I,I,⟨rfl,I,(by omega),(by assumption),rfl⟩,⟨⟨I,I⟩,⟨I,I⟩,⟨I,I⟩,⟨I,I⟩,⟨I,I⟩,⟨I,I⟩,I⟩,I,⟨⟨I,I,I⟩,I,⟨I,⟨I,I⟩,I⟩,⟨I,I⟩,Go.K.c_spec_l1Rd_pick _ _ _ (by omega) (by omega) (by omega) (by omega)⟩,⟨(by omega),(by simp only [lens]; omega)⟩,(by assumption),⟨rfl,(by omega)⟩,I,I,⟨I,rfl,(by assumption),(by omega),rfl⟩,⟨rfl,(by simp only [bsz,ByteArray.size_append,lens]; omega)⟩,I,I⟩,by kernel_rfl,?_⟩
   refine W.ret ?_
   refine EndsW.rt ?_
   conv=>whnf
   refine ⟨⟨I,I,I⟩,?_⟩
   exact ⟨s.extract 0 i ++ x ++ s.extract i s.size,_,rfl,rfl,by rw [ByteArray.size_append,ByteArray.size_append]; omega,by omega,by omega⟩
  ·by_cases hlt:i < s.size
   ·by_cases k2:pickV l (pos + 1) 4 = 2
    ·refine x_spec_l1Bend ?_
     conv=>whnf
     refine g 0 0 [] ?_
     conv=>whnf
     refine ⟨⟨I,I⟩,?_⟩
     refine g 6 9 [.i ((↑(ByteArray.size s):Int) + (1:Int)),.call (V.i (↑i:Int)) ([rdC l (pos + (1:Int)),[]])] ?_
     conv=>whnf
     refine ⟨⟨I,I,I,w64 (by omega) (by omega),⟨⟨I,I,I⟩,I,⟨I,⟨I,I⟩,I⟩,⟨I,I⟩,(by assumption)⟩,I,I⟩,?_⟩
     refine W.sq ?_
     refine g 10 12 [.call (V.i (pickV l (pos + (1:Int)) (4:Int))) ([rdC l (pos + (1:Int) + (1:Int)),[]])] ?_
     conv=>whnf
     refine ⟨⟨I,⟨⟨I,I,I⟩,I,⟨I,⟨I,I⟩,I⟩,⟨I,I⟩,Go.K.c_spec_l1Rd_pick _ _ _ (by omega) (by omega) (by omega) (by omega)⟩,I⟩,?_⟩
     refine W.blk ?_
     refine g 14 15 [] ?_
     conv=>whnf
     refine ⟨⟨I,I,I⟩,?_⟩
     refine W.cn ?_
     conv=>whnf
     refine ⟨noT (dF (by omega)),fun _=>?_⟩
     refine g 13 14 [] ?_
     conv=>whnf
     refine ⟨⟨I,I,I⟩,?_⟩
     refine W.cn ?_
     conv=>whnf
     refine ⟨noT (dF (by omega)),fun _=>?_⟩
     refine g 12 20 [] ?_
     conv=>whnf
     refine ⟨⟨I,I,I⟩,?_⟩
     refine W.cn ?_
     conv=>whnf
     refine ⟨fun _=>?_,noF (dT (by omega))⟩
     refine g 33 38 [] ?_
     conv=>whnf
     refine ⟨⟨I,I,I,I,I⟩,?_⟩
     refine W.cn ?_
     conv=>whnf
     refine ⟨fun _=>?_,noF (dT (by omega))⟩
     refine gd 38 47 [[],[],[.n (i),.s (ByteArray.extract s (0:Nat) i)],[],[],[.i ((↑i:Int) + (1:Int))],[.n (Int.toNat ((↑i:Int) + (1:Int))),.s (ByteArray.extract s (Int.toNat ((↑i:Int) + (1:Int))) (ByteArray.size s))],[.s (ByteArray.extract s (0:Nat) i ++ ByteArray.extract s (Int.toNat ((↑i:Int) + (1:Int))) (ByteArray.size s))],[]] ?_
     conv=>whnf
     refine ⟨⟨I,I,⟨rfl,I,(by omega),(by assumption),rfl⟩,I,I,w64 (by omega) (by omega),⟨I,(by omega),(by assumption),(by omega),rfl⟩,⟨rfl,(by omega)⟩,I,I⟩,by kernel_rfl,?_⟩
     refine W.ret ?_
     refine EndsW.rt ?_
     conv=>whnf
     refine ⟨⟨I,I,I⟩,?_⟩
     exact ⟨s.extract 0 i ++ s.extract ((i:Int) + 1).toNat s.size,_,rfl,rfl,by rw [ByteArray.size_append]; omega,by omega,by omega⟩
    ·refine x_spec_l1Bend ?_
     conv=>whnf
     refine g 0 0 [] ?_
     conv=>whnf
     refine ⟨⟨I,I⟩,?_⟩
     refine g 6 9 [.i ((↑(ByteArray.size s):Int) + (1:Int)),.call (V.i (↑i:Int)) ([rdC l (pos + (1:Int)),[]])] ?_
     conv=>whnf
     refine ⟨⟨I,I,I,w64 (by omega) (by omega),⟨⟨I,I,I⟩,I,⟨I,⟨I,I⟩,I⟩,⟨I,I⟩,(by assumption)⟩,I,I⟩,?_⟩
     refine W.sq ?_
     refine g 10 12 [.call (V.i (pickV l (pos + (1:Int)) (4:Int))) ([rdC l (pos + (1:Int) + (1:Int)),[]])] ?_
     conv=>whnf
     refine ⟨⟨I,⟨⟨I,I,I⟩,I,⟨I,⟨I,I⟩,I⟩,⟨I,I⟩,Go.K.c_spec_l1Rd_pick _ _ _ (by omega) (by omega) (by omega) (by omega)⟩,I⟩,?_⟩
     refine W.blk ?_
     refine g 14 15 [] ?_
     conv=>whnf
     refine ⟨⟨I,I,I⟩,?_⟩
     refine W.cn ?_
     conv=>whnf
     refine ⟨noT (dF (by omega)),fun _=>?_⟩
     refine g 13 14 [] ?_
     conv=>whnf
     refine ⟨⟨I,I,I⟩,?_⟩
     refine W.cn ?_
     conv=>whnf
     refine ⟨noT (dF (by omega)),fun _=>?_⟩
     refine g 12 20 [] ?_
     conv=>whnf
     refine ⟨⟨I,I,I⟩,?_⟩
     refine W.cn ?_
     conv=>whnf
     refine ⟨noT (dF (by omega)),fun _=>?_⟩
     refine W.skip ?_
     refine W.sq ?_
     refine g 33 50 [] ?_
     conv=>whnf
     refine ⟨⟨I,I,I,I,I⟩,?_⟩
     refine W.cn ?_
     conv=>whnf
     refine ⟨fun _=>?_,noF (dT (by omega))⟩
     refine gd 50 65 [[],[],[.n (i),.s (ByteArray.extract s (0:Nat) i)],[],[.call (V.i (pickV l (pos + (1:Int) + (1:Int)) (256:Int))) ([rdC l (pos + (1:Int) + (1:Int) + (1:Int)),[]])],[.i (pickV l (pos + (1:Int) + (1:Int)) (256:Int))],[],[.s ({ data:=List.toArray (bytesOf [[T.v (Value.int IntKind.u8 (pickV l (pos + (1:Int) + (1:Int)) (256:Int)))]]):ByteArray })],[.s (ByteArray.extract s (0:Nat) i ++ { data:=List.toArray (bytesOf [[T.v (Value.int IntKind.u8 (pickV l (pos + (1:Int) + (1:Int)) (256:Int)))]]):ByteArray })],[],[],[.i ((↑i:Int) + (1:Int))],[.n (Int.toNat ((↑i:Int) + (1:Int))),.s (ByteArray.extract s (Int.toNat ((↑i:Int) + (1:Int))) (ByteArray.size s))],[.s (ByteArray.extract s (0:Nat) i ++ { data:=List.toArray (bytesOf [[T.v (Value.int IntKind.u8 (pickV l (pos + (1:Int) + (1:Int)) (256:Int)))]]):ByteArray } ++ ByteArray.extract s (Int.toNat ((↑i:Int) + (1:Int))) (ByteArray.size s))],[]] ?_
     conv=>whnf
     refine ⟨⟨I,I,⟨rfl,I,(by omega),(by assumption),rfl⟩,I,⟨⟨I,I,I⟩,I,⟨I,⟨I,I⟩,I⟩,⟨I,I⟩,Go.K.c_spec_l1Rd_pick _ _ _ (by omega) (by omega) (by omega) (by omega)⟩,wu8 (by omega) (by omega),⟨⟨I,I⟩,I⟩,⟨I,(by repeat (first | exact allU8_nil | refine allU8_cons ?_)),rfl⟩,⟨rfl,(by omega)⟩,I,I,w64 (by omega) (by omega),⟨I,(by omega),(by assumption),(by omega),rfl⟩,⟨rfl,(by omega)⟩,I,I⟩,by kernel_rfl,?_⟩
     refine W.ret ?_
     refine EndsW.rt ?_
     conv=>whnf
     refine ⟨⟨I,I,I⟩,?_⟩
     exact ⟨s.extract 0 i ++ bl [pickV l (pos + 1 + 1) 256] ++ s.extract ((i:Int) + 1).toNat s.size,_,congrArg (fun z=>V.s (s.extract 0 i ++ z ++ s.extract ((i:Int) + 1).toNat s.size)) (bytes_b1 [pickV l (pos + 1 + 1) 256]),rfl,by rw [ByteArray.size_append,ByteArray.size_append,bl_size]; show _ + 1 + _ ≤ _; omega,by omega,by omega⟩
   ·by_cases k2:pickV l (pos + 1) 4 = 2
    ·refine x_spec_l1Bend ?_
     conv=>whnf
     refine g 0 0 [] ?_
     conv=>whnf
     refine ⟨⟨I,I⟩,?_⟩
     refine g 6 9 [.i ((↑(ByteArray.size s):Int) + (1:Int)),.call (V.i (↑i:Int)) ([rdC l (pos + (1:Int)),[]])] ?_
     conv=>whnf
     refine ⟨⟨I,I,I,w64 (by omega) (by omega),⟨⟨I,I,I⟩,I,⟨I,⟨I,I⟩,I⟩,⟨I,I⟩,(by assumption)⟩,I,I⟩,?_⟩
     refine W.sq ?_
     refine g 10 12 [.call (V.i (pickV l (pos + (1:Int)) (4:Int))) ([rdC l (pos + (1:Int) + (1:Int)),[]])] ?_
     conv=>whnf
     refine ⟨⟨I,⟨⟨I,I,I⟩,I,⟨I,⟨I,I⟩,I⟩,⟨I,I⟩,Go.K.c_spec_l1Rd_pick _ _ _ (by omega) (by omega) (by omega) (by omega)⟩,I⟩,?_⟩
     refine W.blk ?_
     refine g 14 15 [] ?_
     conv=>whnf
     refine ⟨⟨I,I,I⟩,?_⟩
     refine W.cn ?_
     conv=>whnf
     refine ⟨noT (dF (by omega)),fun _=>?_⟩
     refine g 13 14 [] ?_
     conv=>whnf
     refine ⟨⟨I,I,I⟩,?_⟩
     refine W.cn ?_
     conv=>whnf
     refine ⟨noT (dF (by omega)),fun _=>?_⟩
     refine g 12 20 [] ?_
     conv=>whnf
     refine ⟨⟨I,I,I⟩,?_⟩
     refine W.cn ?_
     conv=>whnf
     refine ⟨fun _=>?_,noF (dT (by omega))⟩
     refine g 33 38 [] ?_
     conv=>whnf
     refine ⟨⟨I,I,I,I,I⟩,?_⟩
     refine W.cn ?_
     conv=>whnf
     refine ⟨noT (dF (by omega)),fun _=>?_⟩
     refine W.skip ?_
     refine W.sq ?_
     refine g 38 50 [] ?_
     conv=>whnf
     refine ⟨⟨I,I,I,I,I⟩,?_⟩
     refine W.cn ?_
     conv=>whnf
     refine ⟨noT (by assumption),fun _=>?_⟩
     refine W.skip ?_
     refine g 0 2 [] ?_
     conv=>whnf
     refine ⟨⟨I,I,I⟩,?_⟩
     refine W.ret ?_
     refine EndsW.rt ?_
     conv=>whnf
     refine ⟨⟨I,I,I⟩,?_⟩
     exact ⟨s,_,rfl,rfl,by omega,by omega,by omega⟩
    ·refine x_spec_l1Bend ?_
     conv=>whnf
     refine g 0 0 [] ?_
     conv=>whnf
     refine ⟨⟨I,I⟩,?_⟩
     refine g 6 9 [.i ((↑(ByteArray.size s):Int) + (1:Int)),.call (V.i (↑i:Int)) ([rdC l (pos + (1:Int)),[]])] ?_
     conv=>whnf
     refine ⟨⟨I,I,I,w64 (by omega) (by omega),⟨⟨I,I,I⟩,I,⟨I,⟨I,I⟩,I⟩,⟨I,I⟩,(by assumption)⟩,I,I⟩,?_⟩
     refine W.sq ?_
     refine g 10 12 [.call (V.i (pickV l (pos + (1:Int)) (4:Int))) ([rdC l (pos + (1:Int) + (1:Int)),[]])] ?_
     conv=>whnf
     refine ⟨⟨I,⟨⟨I,I,I⟩,I,⟨I,⟨I,I⟩,I⟩,⟨I,I⟩,Go.K.c_spec_l1Rd_pick _ _ _ (by omega) (by omega) (by omega) (by omega)⟩,I⟩,?_⟩
     refine W.blk ?_
     refine g 14 15 [] ?_
     conv=>whnf
     refine ⟨⟨I,I,I⟩,?_⟩
     refine W.cn ?_
     conv=>whnf
     refine ⟨noT (dF (by omega)),fun _=>?_⟩
     refine g 13 14 [] ?_
     conv=>whnf
     refine ⟨⟨I,I,I⟩,?_⟩
     refine W.cn ?_
     conv=>whnf
     refine ⟨noT (dF (by omega)),fun _=>?_⟩
     refine g 12 20 [] ?_
     conv=>whnf
     refine ⟨⟨I,I,I⟩,?_⟩
     refine W.cn ?_
     conv=>whnf
     refine ⟨noT (dF (by omega)),fun _=>?_⟩
     refine W.skip ?_
     refine W.sq ?_
     refine g 33 50 [] ?_
     conv=>whnf
     refine ⟨⟨I,I,I,I,I⟩,?_⟩
     refine W.cn ?_
     conv=>whnf
     refine ⟨noT (dF (by omega)),fun _=>?_⟩
     refine W.skip ?_
     refine g 0 2 [] ?_
     conv=>whnf
     refine ⟨⟨I,I,I⟩,?_⟩
     refine W.ret ?_
     refine EndsW.rt ?_
     conv=>whnf
     refine ⟨⟨I,I,I⟩,?_⟩
     exact ⟨s,_,rfl,rfl,by omega,by omega,by omega⟩
theorem ex_Bend' (l:List Int) (pos:Int) (s:ByteArray) (h:s.size ≤ 1000000 ∧ u8ok l ∧ 0 ≤ pos ∧ pos ≤ 1000000):∃ x:ByteArray × Int,F n_spec_l1Bend [.ptr (rdC l pos),.val (.s s)] (.s x.1) [rdC l x.2,[]] ∧ x.1.size ≤ s.size + 8 ∧ pos ≤ x.2 ∧ x.2 ≤ pos + 3:=by
 obtain ⟨res,outs,⟨q,pos2,rfl,rfl,h1,h2,h3⟩,hF⟩:=ex_Bend l pos s h.1 h.2.1 h.2.2.1 h.2.2.2
 exact ⟨(q,pos2),hF,h1,h2,h3⟩
open Classical in
noncomputable def bendP (l:List Int) (pos:Int) (s:ByteArray):ByteArray × Int:=if h:s.size ≤ 1000000 ∧ u8ok l ∧ 0 ≤ pos ∧ pos ≤ 1000000 then (ex_Bend' l pos s h).choose else (s,pos)
theorem c_spec_l1Bend (l:List Int) (pos:Int) (s:ByteArray) (hs:s.size ≤ 1000000) (hl:u8ok l) (h0:0 ≤ pos) (h1:pos ≤ 1000000):F n_spec_l1Bend [.ptr (rdC l pos),.val (.s s)] (.s (bendP l pos s).1) [rdC l (bendP l pos s).2,[]]:=by
 have h:s.size ≤ 1000000 ∧ u8ok l ∧ 0 ≤ pos ∧ pos ≤ 1000000:=⟨hs,hl,h0,h1⟩
 rw [bendP,dif_pos h]
 exact (ex_Bend' l pos s h).choose_spec.1
theorem bend_ok (l:List Int) (pos:Int) (s:ByteArray):(bendP l pos s).1.size ≤ s.size + 8 ∧ pos ≤ (bendP l pos s).2 ∧ (bendP l pos s).2 ≤ pos + 3:=by
 unfold bendP
 split
 ·rename_i h; exact (ex_Bend' l pos s h).choose_spec.2
 ·exact ⟨by dsimp only; omega,Int.le_refl _,by dsimp only; omega⟩
end Go.K
end
section
set_option linter.unusedVariables false
set_option linter.unusedSimpArgs false
set_option maxHeartbeats 4000000
set_option maxRecDepth 20000
open Go Go.Tm Go.Proofs
namespace Go.K
theorem ex_EDraw (l:List Int) (pos:Int) (hl:u8ok l) (h0:0 ≤ pos) (h1:pos ≤ 1000000):∃ res outs,(∃ k ep ta tx pos2,res = entryV k ep ta tx ∧ outs = [rdC l pos2] ∧ Entry.ok ⟨k,ep,ta,tx⟩ ∧ tx.size ≤ 8 ∧ pos ≤ pos2 ∧ pos2 ≤ pos + 10) ∧ F n_spec_l4Draw [.ptr (rdC l pos)] res outs:=by
 have p0:=pick_rng l pos 3
 have p1:=pick_rng l (pos + 1) 4
 have p2:=pick_rng l (pos + 1) 3
 have p3:=pick_rng l (pos + 1 + 1) 4
 obtain ⟨xe,hxe1,hxe2⟩:=pick_int [1,2,256,300] (pickV l (pos + 1) 4) p1.1 (by show _ < (4:Int); omega)
 have hxe3:([[T.i 1],[T.i 2],[T.i 256],[T.i 300]]:List (List T))[(pickV l (pos + 1) 4).toNat]? = some [T.i xe]:=hxe2
 obtain ⟨xt,hxt1,hxt2⟩:=pick_int [0,1,2,39] (pickV l (pos + 1 + 1) 4) p3.1 (by show _ < (4:Int); omega)
 have hxt3:([[T.i 0],[T.i 1],[T.i 2],[T.i 39]]:List (List T))[(pickV l (pos + 1 + 1) 4).toNat]? = some [T.i xt]:=hxt2
 have be:1 ≤ xe ∧ xe ≤ 300:=by simp only [List.mem_cons,List.not_mem_nil,or_false] at hxe1; omega
 have bt:0 ≤ xt ∧ xt ≤ 39:=by simp only [List.mem_cons,List.not_mem_nil,or_false] at hxt1; omega
 by_cases h3:pickV l pos 3 = 0
 ·refine x_spec_l4Draw ?_
  conv=>whnf
  refine g 0 0 [] ?_
  conv=>whnf
  refine ⟨⟨I,I⟩,?_⟩
  refine W.sq ?_
  refine g 4 5 [.call (V.i (pickV l pos (3:Int))) ([rdC l (pos + (1:Int)),[]])] ?_
  conv=>whnf
  refine ⟨⟨I,⟨⟨I,I,I⟩,I,⟨I,⟨I,I⟩,I⟩,⟨I,I⟩,Go.K.c_spec_l1Rd_pick _ _ _ (by omega) (by omega) (by omega) (by omega)⟩,I,I⟩,?_⟩
  refine W.cn ?_
  conv=>whnf
  refine ⟨fun _=>?_,noF (dT (by omega))⟩
  refine g 5 12 [.call (V.i (pickV l (pos + (1:Int)) (4:Int))) ([rdC l (pos + (1:Int) + (1:Int)),[]]),.n (Int.toNat (pickV l (pos + (1:Int)) (4:Int))),.x ([T.i xe])] ?_
  conv=>whnf
  refine ⟨⟨⟨⟨I,I⟩,⟨I,I⟩,⟨I,I⟩,⟨I,I⟩,I⟩,I,⟨⟨I,I,I⟩,I,⟨I,⟨I,I⟩,I⟩,⟨I,I⟩,Go.K.c_spec_l1Rd_pick _ _ _ (by omega) (by omega) (by omega) (by omega)⟩,⟨(by omega),(by simp only [lens]; omega)⟩,(by assumption),I,⟨I,I,I,I,I⟩,I⟩,?_⟩
  refine W.ret ?_
  refine EndsW.rt ?_
  conv=>whnf
  refine ⟨⟨I,I,I,I,I,I⟩,?_⟩
  exact ⟨1,xe,0,emp,_,rfl,rfl,⟨be,⟨Int.le_refl _,by dsimp only; omega⟩,.inl ⟨rfl,rfl,rfl⟩⟩,Nat.zero_le 8,by omega,by omega⟩
 ·refine x_spec_l4Draw ?_
  conv=>whnf
  refine g 0 0 [] ?_
  conv=>whnf
  refine ⟨⟨I,I⟩,?_⟩
  refine W.sq ?_
  refine g 4 5 [.call (V.i (pickV l pos (3:Int))) ([rdC l (pos + (1:Int)),[]])] ?_
  conv=>whnf
  refine ⟨⟨I,⟨⟨I,I,I⟩,I,⟨I,⟨I,I⟩,I⟩,⟨I,I⟩,Go.K.c_spec_l1Rd_pick _ _ _ (by omega) (by omega) (by omega) (by omega)⟩,I,I⟩,?_⟩
  refine W.cn ?_
  conv=>whnf
  refine ⟨noT (dF (by omega)),fun _=>?_⟩
  refine W.skip ?_
  refine gd 3 23 [[],[.call (V.i (pickV l (pos + (1:Int)) (3:Int))) ([rdC l (pos + (1:Int) + (1:Int)),[]])],[.i ((1:Int) + pickV l (pos + (1:Int)) (3:Int))],[],[],[.call (V.i (pickV l (pos + (1:Int) + (1:Int)) (4:Int))) ([rdC l (pos + (1:Int) + (1:Int) + (1:Int)),[]])],[.n (Int.toNat (pickV l (pos + (1:Int) + (1:Int)) (4:Int)))],[.x ([T.i xt])],[],[.call (V.s (sumT (decS (pickV l (pos + (1:Int) + (1:Int) + (1:Int)) (50:Int))))) ([rdC l (pos + (1:Int) + (1:Int) + (1:Int) + (1:Int))])],[],[]] ?_
  conv=>whnf
  refine ⟨⟨I,⟨⟨I,I,I⟩,I,⟨I,⟨I,I⟩,I⟩,⟨I,I⟩,Go.K.c_spec_l1Rd_pick _ _ _ (by omega) (by omega) (by omega) (by omega)⟩,w64 (by omega) (by omega),⟨⟨I,I⟩,⟨I,I⟩,⟨I,I⟩,⟨I,I⟩,I⟩,I,⟨⟨I,I,I⟩,I,⟨I,⟨I,I⟩,I⟩,⟨I,I⟩,Go.K.c_spec_l1Rd_pick _ _ _ (by omega) (by omega) (by omega) (by omega)⟩,⟨(by omega),(by simp only [lens]; omega)⟩,(by assumption),I,⟨⟨I,I⟩,I,⟨I,I⟩,⟨I,I⟩,Go.K.c_spec_l1Bytes _ _ (by omega) (by omega) (by omega)⟩,I,⟨I,I,I,I,I⟩,I⟩,by kernel_rfl,?_⟩
  refine W.ret ?_
  refine EndsW.rt ?_
  conv=>whnf
  refine ⟨⟨I,I,I,I,I,I⟩,?_⟩
  exact ⟨2,1 + pickV l (pos + 1) 3,xt,sumT (decS (pickV l (pos + 1 + 1 + 1) 50)),_,rfl,rfl,⟨⟨by dsimp only; omega,by dsimp only; omega⟩,bt,.inr ⟨rfl,by dsimp only; rw [sumT_size]; rfl⟩⟩,by rw [sumT_size]; omega,by omega,by omega⟩
theorem ex_EDraw' (l:List Int) (pos:Int) (h:u8ok l ∧ 0 ≤ pos ∧ pos ≤ 1000000):∃ x:Entry × Int,F n_spec_l4Draw [.ptr (rdC l pos)] (entryV x.1.kind x.1.epoch x.1.task x.1.text) [rdC l x.2] ∧ Entry.ok x.1 ∧ x.1.text.size ≤ 8 ∧ pos ≤ x.2 ∧ x.2 ≤ pos + 10:=by
 obtain ⟨res,outs,⟨k,ep,ta,tx,pos2,rfl,rfl,h1,h2,h3,h4⟩,hF⟩:=ex_EDraw l pos h.1 h.2.1 h.2.2
 exact ⟨(⟨k,ep,ta,tx⟩,pos2),hF,h1,h2,h3,h4⟩
open Classical in
/-- The entry that is drawn, and the place behind it. -/
noncomputable def edrawP (l:List Int) (pos:Int):Entry × Int:=if h:u8ok l ∧ 0 ≤ pos ∧ pos ≤ 1000000 then (ex_EDraw' l pos h).choose else (⟨1,1,0,emp⟩,pos)
theorem c_spec_l4Draw (l:List Int) (pos:Int) (hl:u8ok l) (h0:0 ≤ pos) (h1:pos ≤ 1000000):F n_spec_l4Draw [.ptr (rdC l pos)] (entryV (edrawP l pos).1.kind (edrawP l pos).1.epoch (edrawP l pos).1.task (edrawP l pos).1.text) [rdC l (edrawP l pos).2]:=by
 have h:u8ok l ∧ 0 ≤ pos ∧ pos ≤ 1000000:=⟨hl,h0,h1⟩
 rw [edrawP,dif_pos h]
 exact (ex_EDraw' l pos h).choose_spec.1
theorem edraw_ok (l:List Int) (pos:Int):Entry.ok (edrawP l pos).1 ∧ (edrawP l pos).1.text.size ≤ 8 ∧ pos ≤ (edrawP l pos).2 ∧ (edrawP l pos).2 ≤ pos + 10:=by
 unfold edrawP
 split
 ·rename_i h; exact (ex_EDraw' l pos h).choose_spec.2
 ·exact ⟨⟨⟨by dsimp only; omega,by dsimp only; omega⟩,⟨Int.le_refl _,by dsimp only; omega⟩,.inl ⟨rfl,rfl,rfl⟩⟩,Nat.zero_le 8,Int.le_refl _,by dsimp only; omega⟩
end Go.K
end
section
set_option linter.unusedVariables false
set_option linter.unusedSimpArgs false
set_option maxHeartbeats 4000000
set_option maxRecDepth 20000
open Go Go.Tm Go.Proofs
namespace Go.K
theorem u8_take {l:List Int} (h8:∀ x ∈ l,0 ≤ x ∧ x ≤ 255):u8ok (l.take 2000):=⟨by rw [List.length_take]; omega,fun x hx=>h8 x (List.mem_of_mem_take hx)⟩
end Go.K
end
section
set_option linter.unusedVariables false
set_option linter.unusedSimpArgs false
set_option maxHeartbeats 4000000
set_option maxRecDepth 20000
open Go Go.Tm Go.Proofs
namespace Go.K
theorem ex_DrawFE (l:List Int) (hlen:l.length ≤ 1048576) (h8:∀ x ∈ l,0 ≤ x ∧ x ≤ 255):∃ res outs,(∃ k ep ta tx,res = entryV k ep ta tx ∧ outs = [[]] ∧ tx.size ≤ 16) ∧ F n_spec_DrawFormEntry [.val (.t (u8s l))] res outs:=by
 have hu:=u8_take h8
 obtain ⟨d0,d1,d2,d3⟩:=edraw_ok (l.take 2000) 0
 have p3:=pick_rng (l.take 2000) (edrawP (l.take 2000) 0).2 3
 have p4:=pick_rng (l.take 2000) ((edrawP (l.take 2000) 0).2 + 1) 4
 have q5:=pick_rng (l.take 2000) ((edrawP (l.take 2000) 0).2 + 1 + 1) 5
 have q3:=pick_rng (l.take 2000) ((edrawP (l.take 2000) 0).2 + 1 + 1) 3
 obtain ⟨xe,_,hxe2⟩:=pick_int [0,-1,301] (pickV (l.take 2000) ((edrawP (l.take 2000) 0).2 + 1 + 1) 3) q3.1 (by show _ < (3:Int); omega)
 have hxe3:([[T.i 0],[T.i (-1)],[T.i 301]]:List (List T))[(pickV (l.take 2000) ((edrawP (l.take 2000) 0).2 + 1 + 1) 3).toNat]? = some [T.i xe]:=hxe2
 obtain ⟨xt,_,hxt2⟩:=pick_int [-1,40,1] (pickV (l.take 2000) ((edrawP (l.take 2000) 0).2 + 1 + 1) 3) q3.1 (by show _ < (3:Int); omega)
 have hxt3:([[T.i (-1)],[T.i 40],[T.i 1]]:List (List T))[(pickV (l.take 2000) ((edrawP (l.take 2000) 0).2 + 1 + 1) 3).toNat]? = some [T.i xt]:=hxt2
 have e1:(⟨#[120]⟩:ByteArray).size = 1:=rfl
 refine x_spec_DrawFormEntry ?_
 conv=>whnf
 refine g 0 0 [] ?_
 conv=>whnf
 refine ⟨⟨I,I⟩,?_⟩
 refine g 5 7 [.call (V.tup [V.tup (rdC (List.take (2000:Nat) l) (0:Int))]) ([[]])] ?_
 conv=>whnf
 refine ⟨⟨I,⟨⟨I,I⟩,I,⟨⟨I,I⟩,I⟩,⟨I,I⟩,Go.K.c_spec_l1Open _ (by omega)⟩,I,I⟩,?_⟩
 refine g 7 9 [.call (entryV (Entry.kind (Prod.fst (edrawP (List.take (2000:Nat) l) (0:Int)))) (Entry.epoch (Prod.fst (edrawP (List.take (2000:Nat) l) (0:Int)))) (Entry.task (Prod.fst (edrawP (List.take (2000:Nat) l) (0:Int)))) (Entry.text (Prod.fst (edrawP (List.take (2000:Nat) l) (0:Int))))) ([rdC (List.take (2000:Nat) l) (Prod.snd (edrawP (List.take (2000:Nat) l) (0:Int)))])] ?_
 conv=>whnf
 refine ⟨⟨I,⟨⟨I,I⟩,I,⟨I,I⟩,⟨I,I⟩,Go.K.c_spec_l4Draw _ _ (by omega) (by omega) (by omega)⟩,I,⟨I,I,I,I,I⟩,I⟩,?_⟩
 refine W.sq ?_
 refine g 9 11 [.call (V.i (pickV (List.take (2000:Nat) l) (Prod.snd (edrawP (List.take (2000:Nat) l) (0:Int))) (3:Int))) ([rdC (List.take (2000:Nat) l) (Prod.snd (edrawP (List.take (2000:Nat) l) (0:Int)) + (1:Int)),[]])] ?_
 conv=>whnf
 refine ⟨⟨I,⟨⟨I,I,I⟩,I,⟨I,⟨I,I⟩,I⟩,⟨I,I⟩,Go.K.c_spec_l1Rd_pick _ _ _ (by omega) (by omega) (by omega) (by omega)⟩,I,I⟩,?_⟩
 refine W.cn ?_
 conv=>whnf
 refine ⟨fun h1=>?_,fun h1=>?_⟩
 replace h1:=dt h1
 refine g 11 13 [] ?_
 conv=>whnf
 refine ⟨⟨I,⟨I,I,I,I,I⟩,I⟩,?_⟩
 refine W.ret ?_
 refine EndsW.rt ?_
 conv=>whnf
 refine ⟨⟨I,I,I,I,I,I⟩,?_⟩
 rotate_left 1
 replace h1:=df h1
 refine W.skip ?_
 refine W.sq ?_
 refine g 11 14 [.call (V.i (pickV (List.take (2000:Nat) l) (Prod.snd (edrawP (List.take (2000:Nat) l) (0:Int)) + (1:Int)) (4:Int))) ([rdC (List.take (2000:Nat) l) (Prod.snd (edrawP (List.take (2000:Nat) l) (0:Int)) + (1:Int) + (1:Int)),[]])] ?_
 conv=>whnf
 refine ⟨⟨I,⟨⟨I,I,I⟩,I,⟨I,⟨I,I⟩,I⟩,⟨I,I⟩,Go.K.c_spec_l1Rd_pick _ _ _ (by omega) (by omega) (by omega) (by omega)⟩,I⟩,?_⟩
 refine W.blk ?_
 refine g 20 21 [] ?_
 conv=>whnf
 refine ⟨⟨I,I,I⟩,?_⟩
 refine W.cn ?_
 conv=>whnf
 refine ⟨fun h2=>?_,fun h2=>?_⟩
 replace h2:=dt h2
 refine rg [.call (V.i (pickV (List.take (2000:Nat) l) (Prod.snd (edrawP (List.take (2000:Nat) l) (0:Int)) + (1:Int) + (1:Int)) (5:Int))) ([rdC (List.take (2000:Nat) l) (Prod.snd (edrawP (List.take (2000:Nat) l) (0:Int)) + (1:Int) + (1:Int) + (1:Int)),[]]),.i (pickV (List.take (2000:Nat) l) (Prod.snd (edrawP (List.take (2000:Nat) l) (0:Int)) + (1:Int) + (1:Int)) (5:Int) - (1:Int))] ?_
 conv=>whnf
 refine ⟨⟨I,⟨⟨I,I,I⟩,I,⟨I,⟨I,I⟩,I⟩,⟨I,I⟩,Go.K.c_spec_l1Rd_pick _ _ _ (by omega) (by omega) (by omega) (by omega)⟩,w64 (by omega) (by omega),I,⟨I,I⟩,I⟩,?_⟩
 refine g 3 42 [] ?_
 conv=>whnf
 refine ⟨⟨I,⟨I,I,I,I,I⟩,I⟩,?_⟩
 refine W.ret ?_
 refine EndsW.rt ?_
 conv=>whnf
 refine ⟨⟨I,I,I,I,I,I⟩,?_⟩
 rotate_left 1
 replace h2:=df h2
 refine g 19 20 [] ?_
 conv=>whnf
 refine ⟨⟨I,I,I⟩,?_⟩
 refine W.cn ?_
 conv=>whnf
 refine ⟨fun h3=>?_,fun h3=>?_⟩
 replace h3:=dt h3
 refine rg [.call (V.i (pickV (List.take (2000:Nat) l) (Prod.snd (edrawP (List.take (2000:Nat) l) (0:Int)) + (1:Int) + (1:Int)) (3:Int))) ([rdC (List.take (2000:Nat) l) (Prod.snd (edrawP (List.take (2000:Nat) l) (0:Int)) + (1:Int) + (1:Int) + (1:Int)),[]]),.n (Int.toNat (pickV (List.take (2000:Nat) l) (Prod.snd (edrawP (List.take (2000:Nat) l) (0:Int)) + (1:Int) + (1:Int)) (3:Int))),.x ([T.i xe])] ?_
 conv=>whnf
 refine ⟨⟨⟨⟨I,I⟩,⟨I,I⟩,⟨I,I⟩,I⟩,I,⟨⟨I,I,I⟩,I,⟨I,⟨I,I⟩,I⟩,⟨I,I⟩,Go.K.c_spec_l1Rd_pick _ _ _ (by omega) (by omega) (by omega) (by omega)⟩,⟨(by omega),(by simp only [lens]; omega)⟩,(by assumption),I,⟨I,I⟩,I⟩,?_⟩
 refine g 3 42 [] ?_
 conv=>whnf
 refine ⟨⟨I,⟨I,I,I,I,I⟩,I⟩,?_⟩
 refine W.ret ?_
 refine EndsW.rt ?_
 conv=>whnf
 refine ⟨⟨I,I,I,I,I,I⟩,?_⟩
 rotate_left 1
 replace h3:=df h3
 refine g 14 27 [] ?_
 conv=>whnf
 refine ⟨⟨I,I,I⟩,?_⟩
 refine W.cn ?_
 conv=>whnf
 refine ⟨fun h4=>?_,fun h4=>?_⟩
 replace h4:=dt h4
 refine rg [.call (V.i (pickV (List.take (2000:Nat) l) (Prod.snd (edrawP (List.take (2000:Nat) l) (0:Int)) + (1:Int) + (1:Int)) (3:Int))) ([rdC (List.take (2000:Nat) l) (Prod.snd (edrawP (List.take (2000:Nat) l) (0:Int)) + (1:Int) + (1:Int) + (1:Int)),[]]),.n (Int.toNat (pickV (List.take (2000:Nat) l) (Prod.snd (edrawP (List.take (2000:Nat) l) (0:Int)) + (1:Int) + (1:Int)) (3:Int))),.x ([T.i xt])] ?_
 conv=>whnf
 refine ⟨⟨⟨⟨I,I⟩,⟨I,I⟩,⟨I,I⟩,I⟩,I,⟨⟨I,I,I⟩,I,⟨I,⟨I,I⟩,I⟩,⟨I,I⟩,Go.K.c_spec_l1Rd_pick _ _ _ (by omega) (by omega) (by omega) (by omega)⟩,⟨(by omega),(by simp only [lens]; omega)⟩,(by assumption),I,⟨I,I⟩,I⟩,?_⟩
 refine g 3 42 [] ?_
 conv=>whnf
 refine ⟨⟨I,⟨I,I,I,I,I⟩,I⟩,?_⟩
 refine W.ret ?_
 refine EndsW.rt ?_
 conv=>whnf
 refine ⟨⟨I,I,I,I,I,I⟩,?_⟩
 rotate_left 1
 replace h4:=df h4
 refine rg [.s (Entry.text (Prod.fst (edrawP (List.take (2000:Nat) l) (0:Int))) ++ { data:=#[(120:UInt8)]:ByteArray })] ?_
 conv=>whnf
 refine ⟨⟨I,I,⟨rfl,(by omega)⟩,I,⟨I,I⟩,I⟩,?_⟩
 refine g 3 42 [] ?_
 conv=>whnf
 refine ⟨⟨I,⟨I,I,I,I,I⟩,I⟩,?_⟩
 refine W.ret ?_
 refine EndsW.rt ?_
 conv=>whnf
 refine ⟨⟨I,I,I,I,I,I⟩,?_⟩
 rotate_left 1
 all_goals first
  | exact ⟨_,_,_,_,rfl,rfl,by omega⟩
  | exact ⟨_,_,_,_,rfl,rfl,by rw [ByteArray.size_append]; omega⟩
end Go.K
end
section
set_option linter.unusedVariables false
set_option linter.unusedSimpArgs false
set_option maxHeartbeats 4000000
set_option maxRecDepth 20000
open Go Go.Tm Go.Proofs
namespace Go.K
theorem formS_size (e:Entry):(formS e).size ≤ 4 + e.text.size:=by
 unfold formS
 split
 ·rw [ByteArray.size_append,bl_size]; exact Nat.le_refl _
 ·exact Nat.zero_le _
theorem ex_DrawRE (l:List Int) (hlen:l.length ≤ 1048576) (h8:∀ x ∈ l,0 ≤ x ∧ x ≤ 255):∃ res outs,(∃ t,res = .s t ∧ outs = [[]] ∧ t.size ≤ 64) ∧ F n_spec_DrawReadEntry [.val (.t (u8s l))] res outs:=by
 have hu:=u8_take h8
 obtain ⟨d0,d1,d2,d3⟩:=edraw_ok (l.take 2000) 0
 have cf:=c_spec_FormEntry (edrawP (l.take 2000) 0).1.kind (edrawP (l.take 2000) 0).1.epoch (edrawP (l.take 2000) 0).1.task (edrawP (l.take 2000) 0).1.text (by omega)
 have hf:=formS_size (edrawP (l.take 2000) 0).1
 have p2:=pick_rng (l.take 2000) (edrawP (l.take 2000) 0).2 2
 obtain ⟨b1,b2,b3⟩:=bend_ok (l.take 2000) ((edrawP (l.take 2000) 0).2 + 1) (formS (edrawP (l.take 2000) 0).1)
 refine x_spec_DrawReadEntry ?_
 conv=>whnf
 refine g 0 0 [] ?_
 conv=>whnf
 refine ⟨⟨I,I⟩,?_⟩
 refine g 5 7 [.call (V.tup [V.tup (rdC (List.take (2000:Nat) l) (0:Int))]) ([[]])] ?_
 conv=>whnf
 refine ⟨⟨I,⟨⟨I,I⟩,I,⟨⟨I,I⟩,I⟩,⟨I,I⟩,Go.K.c_spec_l1Open _ (by omega)⟩,I,I⟩,?_⟩
 refine g 7 9 [.call (entryV (Entry.kind (Prod.fst (edrawP (List.take (2000:Nat) l) (0:Int)))) (Entry.epoch (Prod.fst (edrawP (List.take (2000:Nat) l) (0:Int)))) (Entry.task (Prod.fst (edrawP (List.take (2000:Nat) l) (0:Int)))) (Entry.text (Prod.fst (edrawP (List.take (2000:Nat) l) (0:Int))))) ([rdC (List.take (2000:Nat) l) (Prod.snd (edrawP (List.take (2000:Nat) l) (0:Int)))]),.call (V.s (formS (Prod.fst (edrawP (List.take (2000:Nat) l) (0:Int))))) ([[]])] ?_
 conv=>whnf
 refine ⟨⟨I,⟨⟨I,I⟩,I,⟨I,I⟩,⟨I,I⟩,Go.K.c_spec_l4Draw _ _ (by omega) (by omega) (by omega)⟩,⟨⟨I,I⟩,I,⟨⟨I,I,I,I,I⟩,I⟩,⟨I,I⟩,(by assumption)⟩,I,I⟩,?_⟩
 refine W.sq ?_
 refine g 10 12 [.call (V.i (pickV (List.take (2000:Nat) l) (Prod.snd (edrawP (List.take (2000:Nat) l) (0:Int))) (2:Int))) ([rdC (List.take (2000:Nat) l) (Prod.snd (edrawP (List.take (2000:Nat) l) (0:Int)) + (1:Int)),[]])] ?_
 conv=>whnf
 refine ⟨⟨I,⟨⟨I,I,I⟩,I,⟨I,⟨I,I⟩,I⟩,⟨I,I⟩,Go.K.c_spec_l1Rd_pick _ _ _ (by omega) (by omega) (by omega) (by omega)⟩,I,I⟩,?_⟩
 refine W.cn ?_
 conv=>whnf
 refine ⟨fun h1=>?_,fun h1=>?_⟩
 replace h1:=dt h1
 refine g 12 16 [.call (V.s (Prod.fst (bendP (List.take (2000:Nat) l) (Prod.snd (edrawP (List.take (2000:Nat) l) (0:Int)) + (1:Int)) (formS (Prod.fst (edrawP (List.take (2000:Nat) l) (0:Int))))))) ([rdC (List.take (2000:Nat) l) (Prod.snd (bendP (List.take (2000:Nat) l) (Prod.snd (edrawP (List.take (2000:Nat) l) (0:Int)) + (1:Int)) (formS (Prod.fst (edrawP (List.take (2000:Nat) l) (0:Int)))))),[]])] ?_
 conv=>whnf
 refine ⟨⟨I,I,⟨⟨I,I,I⟩,I,⟨I,⟨I,I⟩,I⟩,⟨I,I⟩,Go.K.c_spec_l1Bend _ _ _ (by omega) (by omega) (by omega) (by omega)⟩,I,I⟩,?_⟩
 refine W.ret ?_
 refine EndsW.rt ?_
 conv=>whnf
 refine ⟨⟨I,I,I⟩,?_⟩
 rotate_left 1
 replace h1:=df h1
 refine W.skip ?_
 refine g 3 5 [] ?_
 conv=>whnf
 refine ⟨⟨I,I,I⟩,?_⟩
 refine W.ret ?_
 refine EndsW.rt ?_
 conv=>whnf
 refine ⟨⟨I,I,I⟩,?_⟩
 rotate_left 1
 ·exact ⟨_,rfl,rfl,by omega⟩
 ·exact ⟨formS (edrawP (l.take 2000) 0).1,rfl,rfl,by omega⟩
end Go.K
end
section
set_option linter.unusedVariables false
set_option linter.unusedSimpArgs false
set_option maxHeartbeats 4000000
set_option maxRecDepth 20000
open Go Go.Tm Go.Proofs
namespace Go.K
theorem wf_u8s {n:Nat} {t:TypeId} {zc:List V} {b:Nat} (ht:E.ty t = some ⟨.int .u8,zc,b⟩) {xs:List (List T)} (h:∀ y ∈ xs,wfT E (n + 1) t y):∃ l:List Int,xs = l.map b1T ∧ ∀ x ∈ l,0 ≤ x ∧ x ≤ 255 :=
 map_of (f:=b1T) (p:=fun x=>0 ≤ x ∧ x ≤ 255) fun y hy=>by
  have h1:=h y hy
  simp only [wfT,ht] at h1
  obtain ⟨m,hm,h2,h3⟩:=h1
  exact ⟨m,hm,h2,h3⟩
end Go.K
end
section
set_option linter.unusedVariables false
set_option linter.unusedSimpArgs false
set_option maxHeartbeats 4000000
set_option maxRecDepth 20000
open Go Go.Tm Go.Proofs
namespace Go.K
theorem truthP_len (p:Plan):(truthP p).length ≤ 40:=by
 unfold truthP
 by_cases h:checkPlan p.tasks = 0
 ·rw [if_pos h,truthN_len _ _ (Nat.le_refl _)]; exact (chk_inv h).1.2
 ·rw [if_neg h]; exact Nat.zero_le _
end Go.K
end
section
set_option linter.unusedVariables false
set_option linter.unusedSimpArgs false
set_option maxHeartbeats 8000000
set_option maxRecDepth 20000
open Go Go.Tm Go.Proofs
namespace Go.K
theorem truthP_mem {p:Plan}:∀ s ∈ truthP p,s.size = 8:=by
 unfold truthP; split
 ·exact truthN_mem _ _ (Nat.le_refl _)
 ·intro s hs; cases hs
theorem map_snoc (xs:List ByteArray) (y:ByteArray):xs.map strT ++ [strT y] = (xs ++ [y]).map strT:=by rw [List.map_append]; rfl
theorem len_snoc (xs:List ByteArray) (y:ByteArray):(xs ++ [y]).length = xs.length + 1:=by rw [List.length_append]; rfl
theorem all_snoc {n:Nat} {xs:List ByteArray} {y:ByteArray} (h:∀ s ∈ xs,s.size ≤ n) (hy:y.size ≤ n):∀ s ∈ xs ++ [y],s.size ≤ n:=by
 intro s hs
 rcases List.mem_append.1 hs with hs | hs
 ·exact h s hs
 ·rw [List.mem_singleton.1 hs]; exact hy
theorem ex_Hist (l:List Int) (pos:Int) (p:Plan) (hp:planSmall p) (hl:u8ok l) (h0:0 ≤ pos) (h1:pos ≤ 1000000):∃ res outs,(∃ (xs:List ByteArray) (pos2:Int),res = .own [false] (xs.map strT) ∧ outs = [rdC l pos2,[.own taskK (p.tasks.map taskT)]] ∧ xs.length ≤ 80 ∧ (∀ s ∈ xs,s.size ≤ 12) ∧ pos ≤ pos2 ∧ pos2 ≤ pos + 80) ∧ F n_spec_l4History [.ptr (rdC l pos),.bor (planO p)] res outs:=by
 have hw:=mid_wf (small_mid hp)
 have ct:=c_spec_Truth p hw
 have hT1:=truthP_len p
 have hT2:=truthP_mem (p:=p)
 generalize truthP p = T at ct hT1 hT2
 refine x_spec_l4History ?_
 conv=>whnf
 refine g 0 0 [] ?_
 conv=>whnf
 refine ⟨⟨I,I,I⟩,?_⟩
 refine g 9 10 [] ?_
 conv=>whnf
 refine ⟨⟨I,I,I⟩,?_⟩
 refine g 10 12 [.call (V.own [false] (List.map strT T)) ([[]])] ?_
 conv=>whnf
 refine ⟨⟨I,⟨⟨I,I⟩,I,⟨⟨I,I⟩,I⟩,⟨I,I⟩,(by assumption)⟩,I,I⟩,?_⟩
 refine g 0 0 [] ?_
 conv=>whnf
 refine ⟨⟨I,I⟩,?_⟩
 refine W.sq ?_
 refine g 0 0 [] ?_
 conv=>whnf
 refine ⟨⟨I,I⟩,?_⟩
 refine W.blk ?_
 refine W.lp (fun s (x:Nat × Int × Int × List ByteArray)=>⟨[(0,s.s 0),(1,s.s 1),(3,s.s 3),(5,.ref ⟨5,none,0⟩),(6,s.s 6),(7,.i x.2.1),(8,.i x.1)],[(3,[s.c 3 0]),(11,[s.c 11 0]),(49,[.t (u8s l),.t (.i x.2.2.1)]),(50,[.own taskK (p.tasks.map taskT)]),(5,[.own [false] (x.2.2.2.map strT)])],[]⟩) (fun (x:Nat × Int × Int × List ByteArray)=>x.1 ≤ T.length ∧ 0 ≤ x.2.1 ∧ x.2.1 ≤ x.1 ∧ pos ≤ x.2.2.1 ∧ x.2.2.1 ≤ pos + 2 * x.1 ∧ x.2.2.2.length ≤ 2 * x.1 ∧ (∀ s ∈ x.2.2.2,s.size ≤ 12)) (fun (x:Nat × Int × Int × List ByteArray)=>T.length - x.1) ((0,0,pos,[])) [some 3,some 11,some 49,some 50,some 9] [] ⟨rfl,⟨rfl,⟨_,rfl,_,_,rfl,rfl,rfl⟩,rfl,rfl,rfl,rfl,rfl,I⟩,⟨⟨rfl,⟨rfl,I⟩⟩,⟨⟨rfl,⟨rfl,I⟩⟩,⟨⟨rfl,⟨rfl,⟨rfl,I⟩⟩⟩,⟨⟨rfl,⟨rfl,I⟩⟩,⟨⟨rfl,⟨rfl,I⟩⟩,I⟩⟩⟩⟩⟩,I⟩ (by simp) ?_
 rintro ⟨i,ep,q,out⟩ ⟨i1,i2,i3,i4,i5,i6,i7⟩
 dsimp only at i1 i2 i3 i4 i5 i6 i7
 have q1:=pick_rng l q 4
 have q2:=pick_rng l (q + 1) 4
 have hlo:∀ y z,(out ++ [y] ++ [z]).length = out.length + 2:=fun y z=>by rw [len_snoc,len_snoc]
 by_cases hi:i < T.length
 ·obtain ⟨y,hy⟩:=some_at hi
  have hy8:=hT2 y (List.mem_of_getElem? hy)
  have c1:=c_spec_FormEntry 1 (ep + 1) 0 emp (by decide)
  have c2:=c_spec_FormEntry 2 (ep + 1) i y (by omega)
  have c3:=c_spec_FormEntry 2 ep i y (by omega)
  have s1:=formS_size ⟨1,ep + 1,0,emp⟩
  have s2:=formS_size ⟨2,ep + 1,i,y⟩
  have s3:=formS_size ⟨2,ep,i,y⟩
  dsimp only at s1 s2 s3
  have e0:emp.size = 0:=rfl
  have m1:=map_snoc out (formS ⟨1,ep + 1,0,emp⟩)
  have m2:=map_snoc (out ++ [formS ⟨1,ep + 1,0,emp⟩]) (formS ⟨2,ep + 1,i,y⟩)
  rw [← m1] at m2
  have m3:=map_snoc out (formS ⟨2,ep,i,y⟩)
  have a1:=all_snoc i7 (y:=formS ⟨1,ep + 1,0,emp⟩) (by omega)
  have a2:=all_snoc a1 (y:=formS ⟨2,ep + 1,i,y⟩) (by omega)
  have a3:=all_snoc i7 (y:=formS ⟨2,ep,i,y⟩) (by omega)
  by_cases h0:ep = 0
  ·by_cases h4:pickV l q 4 = 0
   ·conv=>whnf
    refine W.sq ?_
    refine g 12 15 [] ?_
    conv=>whnf
    refine ⟨⟨I,I,I,I,I⟩,?_⟩
    refine W.cn ?_
    conv=>whnf
    refine ⟨fun _=>?_,noF (by simp [*])⟩
    refine W.skip ?_
    refine W.sq ?_
    refine W.blk ?_
    refine W.sq ?_
    refine g 15 22 [.b (true),.b (true),.b (true),.b (true)] ?_
    conv=>whnf
    refine ⟨⟨I,I,I,dT (by omega),dT (by omega),dT (by omega),dT (by omega),I⟩,?_⟩
    refine W.cn ?_
    conv=>whnf
    refine ⟨fun _=>?_,noF (rfl)⟩
    refine g 23 27 [.i (Prod.fst (Prod.snd (i,ep,q,out)) + (1:Int))] ?_
    conv=>whnf
    refine ⟨⟨I,w64 (by simp only [lens]; omega) (by simp only [lens]; omega),I,I⟩,?_⟩
    refine rg [.call (V.s (formS { kind:=(1:Int),epoch:=ep + (1:Int),task:=(0:Int),text:=emp:Entry })) ([[]])] ?_
    conv=>whnf
    refine ⟨⟨I,I,I,⟨⟨I,I⟩,I,⟨⟨I,I,I,I,I⟩,I⟩,⟨I,I⟩,(by assumption)⟩,⟨⟨I,I⟩,I⟩,⟨I,I,(by simp only [lens]; omega)⟩,I,I⟩,?_⟩
    refine W.sq ?_
    refine g 27 35 [.call (V.i (pickV l q (4:Int))) ([rdC l (q + (1:Int)),[]])] ?_
    conv=>whnf
    refine ⟨⟨I,⟨⟨I,I,I⟩,I,⟨I,⟨I,I⟩,I⟩,⟨I,I⟩,Go.K.c_spec_l1Rd_pick _ _ _ (by first | omega | decide | assumption | (simp only [ByteArray.size_extract,List.length_map]; omega) | simp [*]) (by first | omega | decide | assumption | (simp only [ByteArray.size_extract,List.length_map]; omega) | simp [*]) (by first | omega | decide | assumption | (simp only [ByteArray.size_extract,List.length_map]; omega) | simp [*]) (by first | omega | decide | assumption | (simp only [ByteArray.size_extract,List.length_map]; omega) | simp [*])⟩,I,I⟩,?_⟩
    refine W.cn ?_
    conv=>whnf
    refine ⟨fun _=>?_,noF (dT (by omega))⟩
    refine g 35 37 [] ?_
    conv=>whnf
    refine ⟨⟨I,I,I⟩,?_⟩
    refine W.ret ?_
    refine EndsW.rt ?_
    conv=>whnf
    refine ⟨⟨I,I,I⟩,?_⟩
    exact ⟨out ++ [formS ⟨1,ep + 1,0,emp⟩],q + 1,by rw [← m1]; rfl,rfl,by rw [len_snoc]; omega,a1,by omega,by omega⟩
   ·conv=>whnf
    refine W.sq ?_
    refine g 12 15 [] ?_
    conv=>whnf
    refine ⟨⟨I,I,I,I,I⟩,?_⟩
    refine W.cn ?_
    conv=>whnf
    refine ⟨fun _=>?_,noF (by simp [*])⟩
    refine W.skip ?_
    refine W.sq ?_
    refine W.blk ?_
    refine W.sq ?_
    refine g 15 22 [.b (true),.b (true),.b (true),.b (true)] ?_
    conv=>whnf
    refine ⟨⟨I,I,I,dT (by omega),dT (by omega),dT (by omega),dT (by omega),I⟩,?_⟩
    refine W.cn ?_
    conv=>whnf
    refine ⟨fun _=>?_,noF (rfl)⟩
    refine g 23 27 [.i (Prod.fst (Prod.snd (i,ep,q,out)) + (1:Int))] ?_
    conv=>whnf
    refine ⟨⟨I,w64 (by simp only [lens]; omega) (by simp only [lens]; omega),I,I⟩,?_⟩
    refine rg [.call (V.s (formS { kind:=(1:Int),epoch:=ep + (1:Int),task:=(0:Int),text:=emp:Entry })) ([[]])] ?_
    conv=>whnf
    refine ⟨⟨I,I,I,⟨⟨I,I⟩,I,⟨⟨I,I,I,I,I⟩,I⟩,⟨I,I⟩,(by assumption)⟩,⟨⟨I,I⟩,I⟩,⟨I,I,(by simp only [lens]; omega)⟩,I,I⟩,?_⟩
    refine W.sq ?_
    refine g 27 35 [.call (V.i (pickV l q (4:Int))) ([rdC l (q + (1:Int)),[]])] ?_
    conv=>whnf
    refine ⟨⟨I,⟨⟨I,I,I⟩,I,⟨I,⟨I,I⟩,I⟩,⟨I,I⟩,Go.K.c_spec_l1Rd_pick _ _ _ (by first | omega | decide | assumption | (simp only [ByteArray.size_extract,List.length_map]; omega) | simp [*]) (by first | omega | decide | assumption | (simp only [ByteArray.size_extract,List.length_map]; omega) | simp [*]) (by first | omega | decide | assumption | (simp only [ByteArray.size_extract,List.length_map]; omega) | simp [*]) (by first | omega | decide | assumption | (simp only [ByteArray.size_extract,List.length_map]; omega) | simp [*])⟩,I,I⟩,?_⟩
    refine W.cn ?_
    conv=>whnf
    refine ⟨noT (dF (by omega)),fun _=>?_⟩
    refine W.skip ?_
    refine rg [.n (Prod.fst (i,ep,q,out)),.x (strT y),.call (V.s (formS { kind:=(2:Int),epoch:=ep + (1:Int),task:=(↑i:Int),text:=y:Entry })) ([[]])] ?_
    conv=>whnf
    refine ⟨⟨I,I,I,I,I,⟨rfl,(by simp only [lens]; omega)⟩,ixl (by assumption),I,⟨⟨I,I⟩,I,⟨⟨I,I,I,I,I⟩,I⟩,⟨I,I⟩,(by assumption)⟩,⟨⟨I,I⟩,I⟩,⟨I,I,(by simp only [lens]; omega)⟩,I,I⟩,?_⟩
    refine rg [.i ((↑(Prod.fst (i,ep,q,out)):Int) + (1:Int))] ?_
    conv=>whnf
    refine ⟨⟨I,w64 (by omega) (by omega),I,I⟩,?_⟩
    refine ⟨(i + 1,ep + 1,q + 1,out ++ [formS ⟨1,ep + 1,0,emp⟩] ++ [formS ⟨2,ep + 1,i,y⟩]),[some 3,some 11,some 49,some 50,some 47],[],⟨rfl,⟨rfl,⟨_,rfl,_,_,rfl,rfl,rfl⟩,rfl,rfl,rfl,rfl,rfl,I⟩,⟨⟨rfl,⟨rfl,I⟩⟩,⟨⟨rfl,⟨rfl,I⟩⟩,⟨⟨rfl,⟨rfl,⟨rfl,I⟩⟩⟩,⟨⟨rfl,⟨rfl,I⟩⟩,⟨⟨rfl,⟨(congrArg (V.own _) (m2)),I⟩⟩,I⟩⟩⟩⟩⟩,I⟩,?_,?_⟩
    rotate_left 1
    (dsimp only; omega)
    dsimp only
    exact ⟨by omega,by omega,by omega,by omega,by omega,by rw [hlo]; omega,a2⟩
  ·by_cases h4:pickV l q 4 = 0
   ·by_cases h5:pickV l (q + 1) 4 = 0
    ·conv=>whnf
     refine W.sq ?_
     refine g 12 15 [] ?_
     conv=>whnf
     refine ⟨⟨I,I,I,I,I⟩,?_⟩
     refine W.cn ?_
     conv=>whnf
     refine ⟨fun _=>?_,noF (by simp [*])⟩
     refine W.skip ?_
     refine W.sq ?_
     refine W.blk ?_
     refine W.sq ?_
     refine g 15 22 [.b (false),.b (false),.call (V.i (pickV l q (4:Int))) ([rdC l (q + (1:Int)),[]]),.b (false),.b (false)] ?_
     conv=>whnf
     refine ⟨⟨I,I,I,⟨dF (by omega),I⟩,⟨dF (by omega),⟨I,I,I⟩,I,⟨I,⟨I,I⟩,I⟩,⟨I,I⟩,Go.K.c_spec_l1Rd_pick _ _ _ (by first | omega | decide | assumption | (simp only [ByteArray.size_extract,List.length_map]; omega) | simp [*]) (by first | omega | decide | assumption | (simp only [ByteArray.size_extract,List.length_map]; omega) | simp [*]) (by first | omega | decide | assumption | (simp only [ByteArray.size_extract,List.length_map]; omega) | simp [*]) (by first | omega | decide | assumption | (simp only [ByteArray.size_extract,List.length_map]; omega) | simp [*])⟩,⟨dF (by omega),I⟩,dF (by omega),I⟩,?_⟩
     refine W.cn ?_
     conv=>whnf
     refine ⟨fun _=>?_,noF (dT (by omega))⟩
     refine g 23 27 [.i (Prod.fst (Prod.snd (i,ep,q,out)) + (1:Int))] ?_
     conv=>whnf
     refine ⟨⟨I,w64 (by simp only [lens]; omega) (by simp only [lens]; omega),I,I⟩,?_⟩
     refine rg [.call (V.s (formS { kind:=(1:Int),epoch:=ep + (1:Int),task:=(0:Int),text:=emp:Entry })) ([[]])] ?_
     conv=>whnf
     refine ⟨⟨I,I,I,⟨⟨I,I⟩,I,⟨⟨I,I,I,I,I⟩,I⟩,⟨I,I⟩,(by assumption)⟩,⟨⟨I,I⟩,I⟩,⟨I,I,(by simp only [lens]; omega)⟩,I,I⟩,?_⟩
     refine W.sq ?_
     refine g 27 35 [.call (V.i (pickV l (q + (1:Int)) (4:Int))) ([rdC l (q + (1:Int) + (1:Int)),[]])] ?_
     conv=>whnf
     refine ⟨⟨I,⟨⟨I,I,I⟩,I,⟨I,⟨I,I⟩,I⟩,⟨I,I⟩,Go.K.c_spec_l1Rd_pick _ _ _ (by omega) (by omega) (by omega) (by omega)⟩,I,I⟩,?_⟩
     refine W.cn ?_
     conv=>whnf
     refine ⟨fun _=>?_,noF (dT (by omega))⟩
     refine g 35 37 [] ?_
     conv=>whnf
     refine ⟨⟨I,I,I⟩,?_⟩
     refine W.ret ?_
     refine EndsW.rt ?_
     conv=>whnf
     refine ⟨⟨I,I,I⟩,?_⟩
     exact ⟨out ++ [formS ⟨1,ep + 1,0,emp⟩],q + 1 + 1,by rw [← m1]; rfl,rfl,by rw [len_snoc]; omega,a1,by omega,by omega⟩
    ·conv=>whnf
     refine W.sq ?_
     refine g 12 15 [] ?_
     conv=>whnf
     refine ⟨⟨I,I,I,I,I⟩,?_⟩
     refine W.cn ?_
     conv=>whnf
     refine ⟨fun _=>?_,noF (by simp [*])⟩
     refine W.skip ?_
     refine W.sq ?_
     refine W.blk ?_
     refine W.sq ?_
     refine g 15 22 [.b (false),.b (false),.call (V.i (pickV l q (4:Int))) ([rdC l (q + (1:Int)),[]]),.b (false),.b (false)] ?_
     conv=>whnf
     refine ⟨⟨I,I,I,⟨dF (by omega),I⟩,⟨dF (by omega),⟨I,I,I⟩,I,⟨I,⟨I,I⟩,I⟩,⟨I,I⟩,Go.K.c_spec_l1Rd_pick _ _ _ (by first | omega | decide | assumption | (simp only [ByteArray.size_extract,List.length_map]; omega) | simp [*]) (by first | omega | decide | assumption | (simp only [ByteArray.size_extract,List.length_map]; omega) | simp [*]) (by first | omega | decide | assumption | (simp only [ByteArray.size_extract,List.length_map]; omega) | simp [*]) (by first | omega | decide | assumption | (simp only [ByteArray.size_extract,List.length_map]; omega) | simp [*])⟩,⟨dF (by omega),I⟩,dF (by omega),I⟩,?_⟩
     refine W.cn ?_
     conv=>whnf
     refine ⟨fun _=>?_,noF (dT (by omega))⟩
     refine g 23 27 [.i (Prod.fst (Prod.snd (i,ep,q,out)) + (1:Int))] ?_
     conv=>whnf
     refine ⟨⟨I,w64 (by simp only [lens]; omega) (by simp only [lens]; omega),I,I⟩,?_⟩
     refine rg [.call (V.s (formS { kind:=(1:Int),epoch:=ep + (1:Int),task:=(0:Int),text:=emp:Entry })) ([[]])] ?_
     conv=>whnf
     refine ⟨⟨I,I,I,⟨⟨I,I⟩,I,⟨⟨I,I,I,I,I⟩,I⟩,⟨I,I⟩,(by assumption)⟩,⟨⟨I,I⟩,I⟩,⟨I,I,(by simp only [lens]; omega)⟩,I,I⟩,?_⟩
     refine W.sq ?_
     refine g 27 35 [.call (V.i (pickV l (q + (1:Int)) (4:Int))) ([rdC l (q + (1:Int) + (1:Int)),[]])] ?_
     conv=>whnf
     refine ⟨⟨I,⟨⟨I,I,I⟩,I,⟨I,⟨I,I⟩,I⟩,⟨I,I⟩,Go.K.c_spec_l1Rd_pick _ _ _ (by omega) (by omega) (by omega) (by omega)⟩,I,I⟩,?_⟩
     refine W.cn ?_
     conv=>whnf
     refine ⟨noT (dF (by omega)),fun _=>?_⟩
     refine W.skip ?_
     refine rg [.n (Prod.fst (i,ep,q,out)),.x (strT y),.call (V.s (formS { kind:=(2:Int),epoch:=ep + (1:Int),task:=(↑i:Int),text:=y:Entry })) ([[]])] ?_
     conv=>whnf
     refine ⟨⟨I,I,I,I,I,⟨rfl,(by simp only [lens]; omega)⟩,ixl (by assumption),I,⟨⟨I,I⟩,I,⟨⟨I,I,I,I,I⟩,I⟩,⟨I,I⟩,(by assumption)⟩,⟨⟨I,I⟩,I⟩,⟨I,I,(by simp only [lens]; omega)⟩,I,I⟩,?_⟩
     refine rg [.i ((↑(Prod.fst (i,ep,q,out)):Int) + (1:Int))] ?_
     conv=>whnf
     refine ⟨⟨I,w64 (by omega) (by omega),I,I⟩,?_⟩
     refine ⟨(i + 1,ep + 1,q + 1 + 1,out ++ [formS ⟨1,ep + 1,0,emp⟩] ++ [formS ⟨2,ep + 1,i,y⟩]),[some 3,some 11,some 49,some 50,some 47],[],⟨rfl,⟨rfl,⟨_,rfl,_,_,rfl,rfl,rfl⟩,rfl,rfl,rfl,rfl,rfl,I⟩,⟨⟨rfl,⟨rfl,I⟩⟩,⟨⟨rfl,⟨rfl,I⟩⟩,⟨⟨rfl,⟨rfl,⟨rfl,I⟩⟩⟩,⟨⟨rfl,⟨rfl,I⟩⟩,⟨⟨rfl,⟨(congrArg (V.own _) (m2)),I⟩⟩,I⟩⟩⟩⟩⟩,I⟩,?_,?_⟩
     rotate_left 1
     (dsimp only; omega)
     dsimp only
     exact ⟨by omega,by omega,by omega,by omega,by omega,by rw [hlo]; omega,a2⟩
   ·by_cases h5:pickV l (q + 1) 4 = 0
    ·conv=>whnf
     refine W.sq ?_
     refine g 12 15 [] ?_
     conv=>whnf
     refine ⟨⟨I,I,I,I,I⟩,?_⟩
     refine W.cn ?_
     conv=>whnf
     refine ⟨fun _=>?_,noF (by simp [*])⟩
     refine W.skip ?_
     refine W.sq ?_
     refine W.blk ?_
     refine W.sq ?_
     refine g 15 22 [.b (false),.b (false),.call (V.i (pickV l q (4:Int))) ([rdC l (q + (1:Int)),[]]),.b (false),.b (false)] ?_
     conv=>whnf
     refine ⟨⟨I,I,I,⟨dF (by omega),I⟩,⟨dF (by omega),⟨I,I,I⟩,I,⟨I,⟨I,I⟩,I⟩,⟨I,I⟩,Go.K.c_spec_l1Rd_pick _ _ _ (by first | omega | decide | assumption | (simp only [ByteArray.size_extract,List.length_map]; omega) | simp [*]) (by first | omega | decide | assumption | (simp only [ByteArray.size_extract,List.length_map]; omega) | simp [*]) (by first | omega | decide | assumption | (simp only [ByteArray.size_extract,List.length_map]; omega) | simp [*]) (by first | omega | decide | assumption | (simp only [ByteArray.size_extract,List.length_map]; omega) | simp [*])⟩,⟨dF (by omega),I⟩,dF (by omega),I⟩,?_⟩
     refine W.cn ?_
     conv=>whnf
     refine ⟨noT (dF (by omega)),fun _=>?_⟩
     refine W.skip ?_
     refine W.sq ?_
     refine g 23 35 [.call (V.i (pickV l (q + (1:Int)) (4:Int))) ([rdC l (q + (1:Int) + (1:Int)),[]])] ?_
     conv=>whnf
     refine ⟨⟨I,⟨⟨I,I,I⟩,I,⟨I,⟨I,I⟩,I⟩,⟨I,I⟩,Go.K.c_spec_l1Rd_pick _ _ _ (by omega) (by omega) (by omega) (by omega)⟩,I,I⟩,?_⟩
     refine W.cn ?_
     conv=>whnf
     refine ⟨fun _=>?_,noF (dT (by omega))⟩
     refine g 35 37 [] ?_
     conv=>whnf
     refine ⟨⟨I,I,I⟩,?_⟩
     refine W.ret ?_
     refine EndsW.rt ?_
     conv=>whnf
     refine ⟨⟨I,I,I⟩,?_⟩
     exact ⟨out,q + 1 + 1,rfl,rfl,by omega,i7,by omega,by omega⟩
    ·conv=>whnf
     refine W.sq ?_
     refine g 12 15 [] ?_
     conv=>whnf
     refine ⟨⟨I,I,I,I,I⟩,?_⟩
     refine W.cn ?_
     conv=>whnf
     refine ⟨fun _=>?_,noF (by simp [*])⟩
     refine W.skip ?_
     refine W.sq ?_
     refine W.blk ?_
     refine W.sq ?_
     refine g 15 22 [.b (false),.b (false),.call (V.i (pickV l q (4:Int))) ([rdC l (q + (1:Int)),[]]),.b (false),.b (false)] ?_
     conv=>whnf
     refine ⟨⟨I,I,I,⟨dF (by omega),I⟩,⟨dF (by omega),⟨I,I,I⟩,I,⟨I,⟨I,I⟩,I⟩,⟨I,I⟩,Go.K.c_spec_l1Rd_pick _ _ _ (by first | omega | decide | assumption | (simp only [ByteArray.size_extract,List.length_map]; omega) | simp [*]) (by first | omega | decide | assumption | (simp only [ByteArray.size_extract,List.length_map]; omega) | simp [*]) (by first | omega | decide | assumption | (simp only [ByteArray.size_extract,List.length_map]; omega) | simp [*]) (by first | omega | decide | assumption | (simp only [ByteArray.size_extract,List.length_map]; omega) | simp [*])⟩,⟨dF (by omega),I⟩,dF (by omega),I⟩,?_⟩
     refine W.cn ?_
     conv=>whnf
     refine ⟨noT (dF (by omega)),fun _=>?_⟩
     refine W.skip ?_
     refine W.sq ?_
     refine g 23 35 [.call (V.i (pickV l (q + (1:Int)) (4:Int))) ([rdC l (q + (1:Int) + (1:Int)),[]])] ?_
     conv=>whnf
     refine ⟨⟨I,⟨⟨I,I,I⟩,I,⟨I,⟨I,I⟩,I⟩,⟨I,I⟩,Go.K.c_spec_l1Rd_pick _ _ _ (by omega) (by omega) (by omega) (by omega)⟩,I,I⟩,?_⟩
     refine W.cn ?_
     conv=>whnf
     refine ⟨noT (dF (by omega)),fun _=>?_⟩
     refine W.skip ?_
     refine rg [.n (Prod.fst (i,ep,q,out)),.x (strT y),.call (V.s (formS { kind:=(2:Int),epoch:=ep,task:=(↑i:Int),text:=y:Entry })) ([[]])] ?_
     conv=>whnf
     refine ⟨⟨I,I,I,I,I,⟨rfl,(by simp only [lens]; omega)⟩,ixl (by assumption),I,⟨⟨I,I⟩,I,⟨⟨I,I,I,I,I⟩,I⟩,⟨I,I⟩,(by assumption)⟩,⟨⟨I,I⟩,I⟩,⟨I,I,(by simp only [lens]; omega)⟩,I,I⟩,?_⟩
     refine rg [.i ((↑(Prod.fst (i,ep,q,out)):Int) + (1:Int))] ?_
     conv=>whnf
     refine ⟨⟨I,w64 (by omega) (by omega),I,I⟩,?_⟩
     refine ⟨(i + 1,ep,q + 1 + 1,out ++ [formS ⟨2,ep,i,y⟩]),[some 3,some 11,some 49,some 50,some 47],[],⟨rfl,⟨rfl,⟨_,rfl,_,_,rfl,rfl,rfl⟩,rfl,rfl,rfl,rfl,rfl,I⟩,⟨⟨rfl,⟨rfl,I⟩⟩,⟨⟨rfl,⟨rfl,I⟩⟩,⟨⟨rfl,⟨rfl,⟨rfl,I⟩⟩⟩,⟨⟨rfl,⟨rfl,I⟩⟩,⟨⟨rfl,⟨(congrArg (V.own _) (m3)),I⟩⟩,I⟩⟩⟩⟩⟩,I⟩,?_,?_⟩
     rotate_left 1
     (dsimp only; omega)
     dsimp only
     exact ⟨by omega,by omega,by omega,by omega,by omega,by rw [len_snoc]; omega,a3⟩
 ·conv=>whnf
  refine W.sq ?_
  refine g 12 15 [] ?_
  conv=>whnf
  refine ⟨⟨I,I,I,I,I⟩,?_⟩
  refine W.cn ?_
  conv=>whnf
  refine ⟨noT (by simp [*]),fun _=>?_⟩
  refine W.exit ?_
  refine g 5 49 [] ?_
  conv=>whnf
  refine ⟨⟨I,I,I⟩,?_⟩
  refine W.ret ?_
  refine EndsW.rt ?_
  conv=>whnf
  refine ⟨⟨I,I,I⟩,?_⟩
  exact ⟨out,q,rfl,rfl,by omega,i7,by omega,by omega⟩
theorem ex_Hist' (l:List Int) (pos:Int) (p:Plan) (h:planSmall p ∧ u8ok l ∧ 0 ≤ pos ∧ pos ≤ 1000000):∃ x:List ByteArray × Int,F n_spec_l4History [.ptr (rdC l pos),.bor (planO p)] (.own [false] (x.1.map strT)) [rdC l x.2,[.own taskK (p.tasks.map taskT)]] ∧ x.1.length ≤ 80 ∧ (∀ s ∈ x.1,s.size ≤ 12) ∧ pos ≤ x.2 ∧ x.2 ≤ pos + 80:=by
 obtain ⟨res,outs,⟨xs,pos2,rfl,rfl,h1,h2,h3,h4⟩,hF⟩:=ex_Hist l pos p h.1 h.2.1 h.2.2.1 h.2.2.2
 exact ⟨(xs,pos2),hF,h1,h2,h3,h4⟩
open Classical in
/-- The entries that are drawn for a plan, and the place behind them. -/
noncomputable def histP (l:List Int) (pos:Int) (p:Plan):List ByteArray × Int:=if h:planSmall p ∧ u8ok l ∧ 0 ≤ pos ∧ pos ≤ 1000000 then (ex_Hist' l pos p h).choose else ([],pos)
theorem c_spec_l4History (l:List Int) (pos:Int) (p:Plan) (hp:planSmall p) (hl:u8ok l) (h0:0 ≤ pos) (h1:pos ≤ 1000000):F n_spec_l4History [.ptr (rdC l pos),.bor (planO p)] (.own [false] ((histP l pos p).1.map strT)) [rdC l (histP l pos p).2,[.own taskK (p.tasks.map taskT)]]:=by
 have h:planSmall p ∧ u8ok l ∧ 0 ≤ pos ∧ pos ≤ 1000000:=⟨hp,hl,h0,h1⟩
 rw [histP,dif_pos h]
 exact (ex_Hist' l pos p h).choose_spec.1
theorem hist_ok (l:List Int) (pos:Int) (p:Plan):(histP l pos p).1.length ≤ 80 ∧ (∀ s ∈ (histP l pos p).1,s.size ≤ 12) ∧ pos ≤ (histP l pos p).2 ∧ (histP l pos p).2 ≤ pos + 80:=by
 unfold histP
 split
 ·rename_i h; exact (ex_Hist' l pos p h).choose_spec.2
 ·exact ⟨Nat.zero_le _,fun s hs=>(by cases hs),Int.le_refl _,by dsimp only; omega⟩
end Go.K
end

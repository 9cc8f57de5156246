/- Contracts of functions of the program: what each call answers. -/
import Derived.Test.YtclkoehdmpcggaaPartd
section
set_option linter.unusedVariables false
set_option linter.unusedSimpArgs false
set_option maxHeartbeats 4000000
set_option maxRecDepth 20000
open Go Go.Tm Go.Proofs
namespace Go.K
def planSmall (p:Plan):Prop:=p.tasks.length ≤ 64 ∧ ∀ t ∈ p.tasks,t.name.size ≤ 64 ∧ t.deps.length ≤ 64
def decS (n:Int):ByteArray:=if n < 10 then bl [48 + n] else bl [48 + n.tdiv 10] ++ bl [48 + n.tmod 10]
theorem decS_size (n:Int):(decS n).size ≤ 2:=by
 unfold decS; split
 ·rw [bl_size]; simp
 ·rw [ByteArray.size_append,bl_size,bl_size]; simp
theorem tdiv10p {n:Int} (h:0 ≤ n):n.tdiv 10 = n / 10:=Int.tdiv_eq_ediv_of_nonneg h
theorem tmod10p {n:Int} (h:0 ≤ n):n.tmod 10 = n % 10:=Int.tmod_eq_emod_of_nonneg h
theorem c_dec1 (n:Int) (h0:0 ≤ n) (h1:n < 10):F n_spec_l1Dec [.val (.i n)] (.s (decS n)) [[]]:=by
 have e:decS n = bl [48 + n]:=if_pos h1
 refine i_spec_l1Dec ?_
 conv=>whnf
 refine g 0 0 [] ?_
 conv=>whnf
 refine ⟨⟨I,I⟩,?_⟩
 refine W.sq ?_
 refine g 3 4 [] ?_
 conv=>whnf
 refine ⟨⟨I,I,I⟩,?_⟩
 refine W.cn ?_
 conv=>whnf
 refine ⟨noT (dF (by omega)),fun _=>?_⟩
 refine W.skip ?_
 refine W.sq ?_
 refine g 4 5 [] ?_
 conv=>whnf
 refine ⟨⟨I,I,I⟩,?_⟩
 refine W.cn ?_
 conv=>whnf
 refine ⟨fun _=>?_,noF (dT (by omega))⟩
 refine g 10 16 [.i ((48:Int) + n),.i ((48:Int) + n),.s ({ data:=List.toArray (bytesOf [[T.v (Value.int IntKind.u8 ((48:Int) + n))]]):ByteArray })] ?_
 conv=>whnf
 refine ⟨⟨I,w64 (by omega) (by omega),wu8 (by omega) (by omega),⟨⟨I,I⟩,I⟩,⟨I,(by repeat (first | exact allU8_nil | refine allU8_cons ?_)),rfl⟩,I,I⟩,?_⟩
 refine W.ret ?_
 refine EndsW.rt ?_
 conv=>whnf
 refine ⟨⟨I,I,I⟩,?_,rfl⟩
 rw [e]; exact vs (bytes_b1 [48 + n])
theorem c_spec_l1Dec (n:Int) (h0:0 ≤ n) (h1:n < 100):F n_spec_l1Dec [.val (.i n)] (.s (decS n)) [[]]:=by
 by_cases h2:n < 10
 ·exact c_dec1 n h0 h2
 ·have e:decS n = bl [48 + n.tdiv 10] ++ bl [48 + n.tmod 10]:=if_neg h2
  have q1:=tdiv10p h0
  have q2:=tmod10p h0
  have e2:decS (n.tdiv 10) = bl [48 + n.tdiv 10]:=if_pos (by omega)
  have c:=c_dec1 (n.tdiv 10) (by omega) (by omega)
  have hsz:=decS_size (n.tdiv 10)
  refine i_spec_l1Dec ?_
  conv=>whnf
  refine g 0 0 [] ?_
  conv=>whnf
  refine ⟨⟨I,I⟩,?_⟩
  refine W.sq ?_
  refine g 3 4 [] ?_
  conv=>whnf
  refine ⟨⟨I,I,I⟩,?_⟩
  refine W.cn ?_
  conv=>whnf
  refine ⟨noT (dF (by omega)),fun _=>?_⟩
  refine W.skip ?_
  refine W.sq ?_
  refine g 4 5 [] ?_
  conv=>whnf
  refine ⟨⟨I,I,I⟩,?_⟩
  refine W.cn ?_
  conv=>whnf
  refine ⟨noT (dF (by omega)),fun _=>?_⟩
  refine W.skip ?_
  refine gd 10 26 [[],[.i (Int.tdiv n (10:Int))],[.call (V.s (decS (Int.tdiv n (10:Int)))) ([[]])],[],[.i (Int.tmod n (10:Int))],[.i ((48:Int) + Int.tmod n (10:Int))],[.i ((48:Int) + Int.tmod n (10:Int))],[],[.s ({ data:=List.toArray (bytesOf [[T.v (Value.int IntKind.u8 ((48:Int) + Int.tmod n (10:Int)))]]):ByteArray })],[.s (decS (Int.tdiv n (10:Int)) ++ { data:=List.toArray (bytesOf [[T.v (Value.int IntKind.u8 ((48:Int) + Int.tmod n (10:Int)))]]):ByteArray })],[]] ?_
  conv=>whnf
  refine ⟨⟨I,⟨(by omega),w64 (by omega) (by omega)⟩,⟨⟨I,I⟩,I,⟨⟨I,I⟩,I⟩,⟨I,I⟩,(by assumption)⟩,I,⟨(by omega),rfl⟩,w64 (by omega) (by omega),wu8 (by omega) (by omega),⟨⟨I,I⟩,I⟩,⟨I,(by repeat (first | exact allU8_nil | refine allU8_cons ?_)),rfl⟩,⟨rfl,(by simp only [bsz,ByteArray.size_append,lens]; omega)⟩,I,I⟩,by kernel_rfl,?_⟩
  refine W.ret ?_
  refine EndsW.rt ?_
  conv=>whnf
  refine ⟨⟨I,I,I⟩,?_,rfl⟩
  rw [e,e2]; exact vs (congrArg (bl [48 + n.tdiv 10] ++ ·) (bytes_b1 [48 + n.tmod 10]))
theorem c_spec_l1Bytes (l:List Int) (pos:Int) (hl:u8ok l) (h0:0 ≤ pos) (h1:pos ≤ 1048576):F n_spec_l1Bytes [.ptr (rdC l pos)] (.s (sumT (decS (pickV l pos 50)))) [rdC l (pos + 1)]:=by
 have hp:=pick_rng l pos 50
 have c:=c_spec_l1Rd_pick l pos 50 hl h0 h1 (by omega)
 have cd:=c_spec_l1Dec (pickV l pos 50) (by omega) (by omega)
 have hs:=decS_size (pickV l pos 50)
 have cs:=c_spec_l1Sum (decS (pickV l pos 50)) (by omega)
 refine i_spec_l1Bytes ?_
 conv=>whnf
 refine g 0 0 [] ?_
 conv=>whnf
 refine ⟨⟨I,I⟩,?_⟩
 refine g 3 7 [.call (V.i (pickV l pos (50:Int))) ([rdC l (pos + (1:Int)),[]]),.call (V.s (decS (pickV l pos (50:Int)))) ([[]]),.call (V.s (bl (beL (fnvs h0v (decS (pickV l pos (50:Int))) (ByteArray.size (decS (pickV l pos (50:Int))))) (8:Nat)))) ([[]])] ?_
 conv=>whnf
 refine ⟨⟨I,⟨⟨I,I,I⟩,I,⟨I,⟨I,I⟩,I⟩,⟨I,I⟩,(by assumption)⟩,⟨⟨I,I⟩,I,⟨⟨I,I⟩,I⟩,⟨I,I⟩,(by assumption)⟩,⟨⟨I,I⟩,I,⟨⟨I,I⟩,I⟩,⟨I,I⟩,(by assumption)⟩,I,I⟩,?_⟩
 refine W.ret ?_
 refine EndsW.rt ?_
 conv=>whnf
 refine ⟨⟨I,I,I⟩,?_,rfl⟩
 rw [fnvs_all]; rfl
theorem c_spec_l1Plan (p:Plan) (h:planSmall p):F n_spec_l1Plan [.val (planR p)] (planO p) [[]]:=by
 obtain ⟨hp1,hp2⟩:=h
 refine i_spec_l1Plan ?_
 conv=>whnf
 refine g 0 0 [] ?_
 conv=>whnf
 refine ⟨⟨⟨I,I⟩,I,I⟩,?_⟩
 refine g 6 7 [] ?_
 conv=>whnf
 refine ⟨⟨I,I,⟨I,I⟩,I⟩,?_⟩
 refine W.sq ?_
 refine g 0 0 [] ?_
 conv=>whnf
 refine ⟨⟨I,I⟩,?_⟩
 refine W.blk ?_
 refine W.lp (fun s (n:Nat)=>⟨[(0,s.s 0),(1,s.s 1),(2,s.s 2),(3,s.s 3),(4,.i n)],[(1,[s.c 1 0]),(2,[s.c 2 0]),(34,[s.c 34 0]),(3,[.own taskK ((p.tasks.take n).map taskT)])],[]⟩) (fun (n:Nat)=>n ≤ p.tasks.length) (fun (n:Nat)=>p.tasks.length - n) (0) [some 1,some 2,some 34,some 3] [] ⟨rfl,⟨⟨_,rfl,_,_,rfl,rfl,rfl⟩,rfl,rfl,rfl,rfl,I⟩,⟨⟨rfl,⟨rfl,I⟩⟩,⟨⟨rfl,⟨rfl,I⟩⟩,⟨⟨rfl,⟨rfl,I⟩⟩,⟨⟨rfl,⟨rfl,I⟩⟩,I⟩⟩⟩⟩,I⟩ (by omega) ?_
 intro n hn
 conv=>whnf
 refine W.sq ?_
 refine g 7 11 [] ?_
 conv=>whnf
 refine ⟨⟨I,I,I,I,I,I⟩,?_⟩
 refine W.cn ?_
 conv=>whnf
 refine ⟨fun h1=>?_,fun h1=>?_⟩
 replace h1:=dt h1
 simp only [List.length_map] at h1
 refine W.skip ?_
 refine W.sq ?_
 refine W.blk ?_
 obtain ⟨y1,hy1⟩:=some_at (xs:=Plan.tasks p) (n:=n) (by omega)
 have hm1:=hp2 y1 (List.mem_of_getElem? hy1)
 refine g 11 19 [.x (taskT y1)] ?_
 conv=>whnf
 refine ⟨⟨I,I,I,⟨(by omega),ixl (by assumption)⟩,I,I,⟨I,I,I,I⟩,I⟩,?_⟩
 refine rgd [[],[],[],[],[],[],[],[],[],[],[],[],[],[],[]] ?_
 conv=>whnf
 refine ⟨⟨I,I,I,I,I,I,I,I,I,⟨I,I,(by simp only [lens]; omega)⟩,I,⟨⟨I,I,I,I⟩,I⟩,⟨I,I,(by simp only [lens]; omega)⟩,I,⟨I,I⟩,I⟩,by kernel_rfl,?_⟩
 refine rg [.i ((↑n:Int) + (1:Int))] ?_
 conv=>whnf
 refine ⟨⟨I,w64 (by omega) (by omega),I,I⟩,?_⟩
 rotate_left 1
 replace h1:=df h1
 simp only [List.length_map] at h1
 refine W.exit ?_
 refine g 3 34 [] ?_
 conv=>whnf
 refine ⟨⟨I,⟨I,I⟩,I⟩,?_⟩
 refine W.ret ?_
 refine EndsW.rt ?_
 conv=>whnf
 refine ⟨⟨I,I,I⟩,?_,rfl⟩
 rotate_left 1
 ·refine ⟨n + 1,[some 1,some 2,some 34,some 3],[],⟨rfl,⟨⟨_,rfl,_,_,rfl,rfl,rfl⟩,rfl,rfl,rfl,rfl,I⟩,⟨⟨rfl,⟨rfl,I⟩⟩,⟨⟨rfl,⟨rfl,I⟩⟩,⟨⟨rfl,⟨rfl,I⟩⟩,⟨⟨rfl,⟨(congrArg (V.own _) (snoc_take (by assumption))),I⟩⟩,I⟩⟩⟩⟩,I⟩,?_,?_⟩
  rotate_left 1
  (dsimp only; omega)
  dsimp only
  omega
 ·rw [take_all (by omega)]
theorem half_size {m t:Int} (h:0 ≤ m):(m / 2) * (t + t) = m * t - (m % 2) * t:=by
 have e:m * t = (2 * (m / 2) + m % 2) * t:=by rw [show 2 * (m / 2) + m % 2 = m by omega]
 rw [e,Int.add_mul,Int.mul_add,Int.mul_assoc,Int.two_mul]; omega
theorem ex_Many (s:ByteArray) (n:Int) (h0:0 ≤ n) (h1:n ≤ 64) (hs:s.size ≤ 64):∃ res outs,(∃ t,res = .s t ∧ outs = [[],[]] ∧ (t.size:Int) ≤ 4096) ∧ F n_spec_l1Many [.val (.s s),.val (.i n)] res outs:=by
 have hns:n * (s.size:Int) ≤ 4096:=by
  have:=Int.mul_le_mul_of_nonneg_right h1 (show (0:Int) ≤ s.size by omega)
  omega
 refine x_spec_l1Many ?_
 conv=>whnf
 refine g 0 0 [] ?_
 conv=>whnf
 refine ⟨⟨I,I⟩,?_⟩
 refine g 0 0 [] ?_
 conv=>whnf
 refine ⟨⟨I,I⟩,?_⟩
 refine W.sq ?_
 refine W.blk ?_
 refine W.lp (fun s (x:ByteArray × ByteArray × Int)=>⟨[(0,.s x.2.1),(1,.i x.2.2),(4,s.s 4),(5,.s x.1)],[],[]⟩) (fun (x:ByteArray × ByteArray × Int)=>0 ≤ x.2.2 ∧ x.2.2 ≤ 64 ∧ (x.1.size:Int) + x.2.2 * x.2.1.size ≤ 4096) (fun (x:ByteArray × ByteArray × Int)=>x.2.2.toNat) ((emp,s,n)) [] [] ⟨rfl,⟨rfl,rfl,rfl,rfl,I⟩,I,I⟩ ?_ ?_
 ·refine ⟨h0,h1,?_⟩
  have:emp.size = 0:=rfl
  show ((emp.size:Nat):Int) + n * s.size ≤ 4096
  omega
 rintro ⟨o,t,m⟩ ⟨hm0,hm1,hsz⟩
 dsimp only at hm0 hm1 hsz
 have q1:m.tdiv 2 = m / 2:=Int.tdiv_eq_ediv_of_nonneg hm0
 have q2:m.tmod 2 = m % 2:=Int.tmod_eq_emod_of_nonneg hm0
 have q3:=half_size (t:=(t.size:Int)) hm0
 by_cases hm:0 < m
 ·have q4:=Int.mul_le_mul_of_nonneg_right (show 1 ≤ m by omega) (show (0:Int) ≤ t.size by omega)
  rw [Int.one_mul] at q4
  by_cases ho:m.tmod 2 = 1
  ·have q5:m % 2 = 1:=by omega
   rw [q5,Int.one_mul] at q3
   conv=>whnf
   refine W.sq ?_
   refine g 6 7 [] ?_
   conv=>whnf
   refine ⟨⟨I,I,I⟩,?_⟩
   refine W.cn ?_
   conv=>whnf
   refine ⟨fun _=>?_,noF (dT (by omega))⟩
   refine W.skip ?_
   refine W.blk ?_
   refine W.sq ?_
   refine g 7 9 [.i (Int.tmod (Prod.snd (Prod.snd (o,t,m))) (2:Int))] ?_
   conv=>whnf
   refine ⟨⟨I,⟨(by omega),rfl⟩,I,I⟩,?_⟩
   refine W.cn ?_
   conv=>whnf
   refine ⟨fun _=>?_,noF (dT (by omega))⟩
   refine rg [.s (Prod.fst (o,t,m) ++ Prod.fst (Prod.snd (o,t,m)))] ?_
   conv=>whnf
   refine ⟨⟨I,I,⟨rfl,(by simp only [lens]; omega)⟩,I,I⟩,?_⟩
   refine g 10 17 [.s (Prod.fst (Prod.snd (o,t,m)) ++ Prod.fst (Prod.snd (o,t,m)))] ?_
   conv=>whnf
   refine ⟨⟨I,I,⟨rfl,(by simp only [lens]; omega)⟩,I,I⟩,?_⟩
   refine rg [.i (Int.tdiv (Prod.snd (Prod.snd (o,t,m))) (2:Int))] ?_
   conv=>whnf
   refine ⟨⟨I,⟨(by omega),w64 (by simp only [lens]; omega) (by simp only [lens]; omega)⟩,I,I⟩,?_⟩
   refine ⟨(o ++ t,t ++ t,m / 2),[],[],⟨rfl,⟨rfl,(congrArg (fun z=>V.t (T.v (Value.int _ z))) (q1)),rfl,rfl,I⟩,I,I⟩,?_,?_⟩
   rotate_left 1
   (dsimp only; omega)
   dsimp only
   refine ⟨by omega,by omega,?_⟩
   rw [ByteArray.size_append,ByteArray.size_append,Int.natCast_add,Int.natCast_add,q3]; omega
  ·have q5:m % 2 = 0:=by omega
   rw [q5,Int.zero_mul] at q3
   conv=>whnf
   refine W.sq ?_
   refine g 6 7 [] ?_
   conv=>whnf
   refine ⟨⟨I,I,I⟩,?_⟩
   refine W.cn ?_
   conv=>whnf
   refine ⟨fun _=>?_,noF (dT (by omega))⟩
   refine W.skip ?_
   refine W.blk ?_
   refine W.sq ?_
   refine g 7 9 [.i (Int.tmod (Prod.snd (Prod.snd (o,t,m))) (2:Int))] ?_
   conv=>whnf
   refine ⟨⟨I,⟨(by omega),rfl⟩,I,I⟩,?_⟩
   refine W.cn ?_
   conv=>whnf
   refine ⟨noT (dF (by omega)),fun _=>?_⟩
   refine W.skip ?_
   refine g 10 17 [.s (Prod.fst (Prod.snd (o,t,m)) ++ Prod.fst (Prod.snd (o,t,m)))] ?_
   conv=>whnf
   refine ⟨⟨I,I,⟨rfl,(by simp only [lens]; omega)⟩,I,I⟩,?_⟩
   refine rg [.i (Int.tdiv (Prod.snd (Prod.snd (o,t,m))) (2:Int))] ?_
   conv=>whnf
   refine ⟨⟨I,⟨(by omega),w64 (by simp only [lens]; omega) (by simp only [lens]; omega)⟩,I,I⟩,?_⟩
   refine ⟨(o,t ++ t,m / 2),[],[],⟨rfl,⟨rfl,(congrArg (fun z=>V.t (T.v (Value.int _ z))) (q1)),rfl,rfl,I⟩,I,I⟩,?_,?_⟩
   rotate_left 1
   (dsimp only; omega)
   dsimp only
   refine ⟨by omega,by omega,?_⟩
   rw [ByteArray.size_append,Int.natCast_add,q3]; omega
 ·conv=>whnf
  refine W.sq ?_
  refine g 6 7 [] ?_
  conv=>whnf
  refine ⟨⟨I,I,I⟩,?_⟩
  refine W.cn ?_
  conv=>whnf
  refine ⟨noT (dF (by omega)),fun _=>?_⟩
  refine W.exit ?_
  refine g 5 20 [] ?_
  conv=>whnf
  refine ⟨⟨I,I,I⟩,?_⟩
  refine W.ret ?_
  refine EndsW.rt ?_
  conv=>whnf
  refine ⟨⟨I,I,I⟩,?_⟩
  rw [show m = 0 by omega,Int.zero_mul] at hsz
  exact ⟨o,rfl,rfl,by omega⟩
theorem ex_Draw (l:List Int) (pos:Int) (hl:u8ok l) (h0:0 ≤ pos) (h1:pos ≤ 1000000):∃ res outs,(∃ p pos2,res = planO p ∧ outs = [rdC l pos2] ∧ planSmall p ∧ 1 ≤ p.tasks.length ∧ pos ≤ pos2 ∧ pos2 ≤ pos + 4000) ∧ F n_spec_l1Draw [.ptr (rdC l pos)] res outs:=by
 have hp1:=pick_rng l pos 6
 have hp2:=pick_rng l (pos + 1) 12
 by_cases h12:pickV l (pos + 1) 12 = 0
 ·refine x_spec_l1Draw ?_
  conv=>whnf
  refine g 0 0 [] ?_
  conv=>whnf
  refine ⟨⟨I,I⟩,?_⟩
  refine g 9 11 [.call (V.i (pickV l pos (6:Int))) ([rdC l (pos + (1:Int)),[]]),.i ((1:Int) + pickV l pos (6:Int))] ?_
  conv=>whnf
  refine ⟨⟨I,⟨⟨I,I,I⟩,I,⟨I,⟨I,I⟩,I⟩,⟨I,I⟩,Go.K.c_spec_l1Rd_pick _ _ _ (by omega) (by omega) (by omega) (by omega)⟩,w64 (by omega) (by omega),I,I⟩,?_⟩
  refine W.sq ?_
  refine g 11 13 [.call (V.i (pickV l (pos + (1:Int)) (12:Int))) ([rdC l (pos + (1:Int) + (1:Int)),[]])] ?_
  conv=>whnf
  refine ⟨⟨I,⟨⟨I,I,I⟩,I,⟨I,⟨I,I⟩,I⟩,⟨I,I⟩,Go.K.c_spec_l1Rd_pick _ _ _ (by omega) (by omega) (by omega) (by omega)⟩,I,I⟩,?_⟩
  refine W.cn ?_
  conv=>whnf
  refine ⟨fun _=>?_,noF (dT (by omega))⟩
  refine rg [] ?_
  conv=>whnf
  refine ⟨⟨I,I⟩,?_⟩
  refine g 13 15 [] ?_
  conv=>whnf
  refine ⟨⟨I,I,⟨I,I⟩,I⟩,?_⟩
  refine W.sq ?_
  refine g 0 0 [] ?_
  conv=>whnf
  refine ⟨⟨I,I⟩,?_⟩
  refine W.blk ?_
  refine W.lp (fun s (x:Nat × List Task × Int)=>⟨[(0,s.s 0),(2,s.s 2),(3,s.s 3),(4,s.s 4),(5,.i x.1),(8,s.s 8)],[(2,[s.c 2 0]),(69,[.t (u8s l),.t (.i x.2.2)]),(4,[.own taskK (x.2.1.map taskT)])],[]⟩) (fun (x:Nat × List Task × Int)=>(x.1:Int) ≤ 40 ∧ x.2.1.length = x.1 ∧ (∀ t ∈ x.2.1,t.name.size ≤ 64 ∧ t.deps.length ≤ 64) ∧ pos + 2 ≤ x.2.2 ∧ x.2.2 ≤ pos + 2 + 90 * x.1) (fun (x:Nat × List Task × Int)=>((40:Int) - x.1).toNat) ((0,[],pos + 2)) [some 2,some 69,some 4] [] ⟨rfl,⟨rfl,rfl,rfl,rfl,rfl,rfl,I⟩,⟨⟨rfl,⟨rfl,I⟩⟩,⟨⟨rfl,⟨rfl,⟨(congrArg (fun z=>V.t (T.v (Value.int _ z))) (by show pos + 1 + 1 = pos + 2; omega)),I⟩⟩⟩,⟨⟨rfl,⟨rfl,I⟩⟩,I⟩⟩⟩,I⟩ (by simp) ?_
  rintro ⟨i,ts,q⟩ ⟨hi,hlen,hsm,hq1,hq2⟩
  dsimp only at hi hlen hsm hq1 hq2
  have p5:=pick_rng l q 5
  have p8:=pick_rng l (q + 1) 8
  by_cases hi2:(i:Int) < 40
  ·have cd:=c_spec_l1Dec i (by omega) (by omega)
   have hds:=decS_size i
   by_cases h8:pickV l (q + 1) 8 = 0
   ·skip
    conv=>whnf
    refine W.sq ?_
    refine g 15 17 [] ?_
    conv=>whnf
    refine ⟨⟨I,I,I,I⟩,?_⟩
    refine W.cn ?_
    conv=>whnf
    refine ⟨fun _=>?_,noF (dT (by omega))⟩
    refine W.skip ?_
    refine W.sq ?_
    refine W.blk ?_
    refine g 17 27 [.call (V.s (decS (↑i:Int))) ([[]]),.s ({ data:=#[(116:UInt8)]:ByteArray } ++ decS (↑i:Int)),.call (V.i (pickV l q (5:Int))) ([rdC l (q + (1:Int)),[]]),.i ((1:Int) + pickV l q (5:Int))] ?_
    conv=>whnf
    refine ⟨⟨I,⟨⟨I,I⟩,I,⟨⟨I,I⟩,I⟩,⟨I,I⟩,(by assumption)⟩,⟨rfl,(by simp only [bsz,bsa,ByteArray.size_append,List.size_toArray,lens]; omega)⟩,I,⟨⟨I,I,I⟩,I,⟨I,⟨I,I⟩,I⟩,⟨I,I⟩,Go.K.c_spec_l1Rd_pick _ _ _ (by first | omega | decide | assumption | (simp only [ByteArray.size_extract,List.length_map]; omega) | simp [*]) (by first | omega | decide | assumption | (simp only [ByteArray.size_extract,List.length_map]; omega) | simp [*]) (by first | omega | decide | assumption | (simp only [ByteArray.size_extract,List.length_map]; omega) | simp [*]) (by first | omega | decide | assumption | (simp only [ByteArray.size_extract,List.length_map]; omega) | simp [*])⟩,w64 (by omega) (by omega),I,I,⟨I,I,I,I⟩,I⟩,?_⟩
    refine W.sq ?_
    refine g 27 29 [.call (V.i (pickV l (q + (1:Int)) (8:Int))) ([rdC l (q + (1:Int) + (1:Int)),[]])] ?_
    conv=>whnf
    refine ⟨⟨I,⟨⟨I,I,I⟩,I,⟨I,⟨I,I⟩,I⟩,⟨I,I⟩,Go.K.c_spec_l1Rd_pick _ _ _ (by omega) (by omega) (by omega) (by omega)⟩,I,I⟩,?_⟩
    refine W.cn ?_
    conv=>whnf
    refine ⟨fun _=>?_,noF (dT (by omega))⟩
    refine rg [] ?_
    conv=>whnf
    refine ⟨⟨I,⟨I,I⟩,I⟩,?_⟩
    refine W.sq ?_
    refine g 29 31 [] ?_
    conv=>whnf
    refine ⟨⟨I,I⟩,?_⟩
    refine W.blk ?_
    refine W.lp (fun s (y:Nat × List Int × Int)=>⟨[(0,s.s 0),(2,s.s 2),(3,s.s 3),(4,s.s 4),(5,s.s 5),(6,s.s 6),(7,.i y.1),(8,s.s 8)],[(2,[s.c 2 0]),(4,[s.c 4 0]),(69,[.t (u8s l),.t (.i y.2.2)]),(6,[.t (.s ((⟨#[116]⟩:ByteArray) ++ decS i)),.t (.i (20)),.own [false] (y.2.1.map intT)])],[]⟩) (fun (y:Nat × List Int × Int)=>y.1 ≤ i ∧ y.2.1.length ≤ y.1 ∧ y.2.1.length ≤ 8 ∧ q + 2 ≤ y.2.2 ∧ y.2.2 ≤ q + 2 + 2 * y.1) (fun (y:Nat × List Int × Int)=>i - y.1) ((0,[],q + 2)) [some 2,some 4,some 69,some 6] [] ⟨rfl,⟨rfl,rfl,rfl,rfl,rfl,rfl,rfl,rfl,I⟩,⟨⟨rfl,⟨rfl,I⟩⟩,⟨⟨rfl,⟨rfl,I⟩⟩,⟨⟨rfl,⟨rfl,⟨(congrArg (fun z=>V.t (T.v (Value.int _ z))) (by show q + 1 + 1 = q + 2; omega)),I⟩⟩⟩,⟨⟨rfl,⟨rfl,⟨rfl,⟨rfl,I⟩⟩⟩⟩,I⟩⟩⟩⟩,I⟩ (by simp) ?_
    rintro ⟨k,ds,u⟩ ⟨g1,g2,g3,g4,g5⟩
    dsimp only at g1 g2 g3 g4 g5
    have p3:=pick_rng l u 3
    have p2:=pick_rng l (u + 1) 2
    by_cases hk:k < i
    ·by_cases hd:ds.length < 8
     ·by_cases h3:pickV l u 3 = 0
      ·conv=>whnf
       refine W.sq ?_
       refine g 35 39 [.b (true),.b (true),.b (true),.b (true),.b (true)] ?_
       conv=>whnf
       refine ⟨⟨I,I,I,I,⟨dT (by omega),I⟩,⟨dT (by omega),I⟩,⟨dT (by omega),I⟩,⟨dT (by omega),I⟩,dT (by omega),I⟩,?_⟩
       refine W.cn ?_
       conv=>whnf
       refine ⟨fun h2=>?_,fun h2=>?_⟩
       replace h2:=dt h2
       simp only [List.length_map] at h2
       refine W.skip ?_
       refine W.sq ?_
       refine W.blk ?_
       refine g 39 55 [.call (V.i (pickV l u (3:Int))) ([rdC l (u + (1:Int)),[]]),.b (true),.b (true),.b (true),.b (true),.b (true),.b (false),.b (false),.b (false),.b (true),.b (true)] ?_
       conv=>whnf
       refine ⟨⟨I,⟨⟨I,I,I⟩,I,⟨I,⟨I,I⟩,I⟩,⟨I,I⟩,Go.K.c_spec_l1Rd_pick _ _ _ (by first | omega | decide | assumption | (simp only [ByteArray.size_extract,List.length_map]; omega) | simp [*]) (by first | omega | decide | assumption | (simp only [ByteArray.size_extract,List.length_map]; omega) | simp [*]) (by first | omega | decide | assumption | (simp only [ByteArray.size_extract,List.length_map]; omega) | simp [*]) (by first | omega | decide | assumption | (simp only [ByteArray.size_extract,List.length_map]; omega) | simp [*])⟩,I,I,dT (by omega),dT (by omega),dT (by omega),dT (by omega),dT (by omega),I,I,I,dT (by omega),dT (by omega),I⟩,?_⟩
       refine W.cn ?_
       conv=>whnf
       refine ⟨fun _=>?_,noF (rfl)⟩
       refine rg [] ?_
       conv=>whnf
       refine ⟨⟨I,I,I,⟨⟨I,I⟩,I⟩,⟨I,I,(by simp only [lens]; omega)⟩,I,⟨I,I⟩,I⟩,?_⟩
       refine rg [.i ((↑(Prod.fst (k,ds,u)):Int) + (1:Int))] ?_
       conv=>whnf
       refine ⟨⟨I,w64 (by omega) (by omega),I,I⟩,?_⟩
       rotate_left 1
       replace h2:=df h2
       simp only [List.length_map] at h2
       omega
       refine ⟨(k + 1,ds ++ [(k:Int)],u + 1),[some 2,some 4,some 69,some 6],[],⟨rfl,⟨rfl,rfl,rfl,rfl,rfl,rfl,rfl,rfl,I⟩,⟨⟨rfl,⟨rfl,I⟩⟩,⟨⟨rfl,⟨rfl,I⟩⟩,⟨⟨rfl,⟨rfl,⟨rfl,I⟩⟩⟩,⟨⟨rfl,⟨rfl,⟨rfl,⟨(congrArg (V.own _) (by rw [List.map_append]; rfl)),I⟩⟩⟩⟩,I⟩⟩⟩⟩,I⟩,?_,?_⟩
       rotate_left 1
       (dsimp only; omega)
       dsimp only
       exact ⟨by omega,by rw [List.length_append]; simp; omega,by rw [List.length_append]; simp; omega,by first | omega | (dsimp only; omega),by first | omega | (dsimp only; omega)⟩
      ·by_cases hki:(k:Int) = (i:Int) - 1
       ·by_cases h2:pickV l (u + 1) 2 = 0
        ·conv=>whnf
         refine W.sq ?_
         refine g 35 39 [.b (true),.b (true),.b (true),.b (true),.b (true)] ?_
         conv=>whnf
         refine ⟨⟨I,I,I,I,⟨dT (by omega),I⟩,⟨dT (by omega),I⟩,⟨dT (by omega),I⟩,⟨dT (by omega),I⟩,dT (by omega),I⟩,?_⟩
         refine W.cn ?_
         conv=>whnf
         refine ⟨fun h4=>?_,fun h4=>?_⟩
         replace h4:=dt h4
         simp only [List.length_map] at h4
         refine W.skip ?_
         refine W.sq ?_
         refine W.blk ?_
         refine g 39 55 [.call (V.i (pickV l u (3:Int))) ([rdC l (u + (1:Int)),[]]),.b (false),.b (false),.b (false),.i ((↑(Prod.fst (i,ts,q)):Int) - (1:Int)),.b (false),.b (false),.b (true),.b (true),.call (V.i (pickV l (u + (1:Int)) (2:Int))) ([rdC l (u + (1:Int) + (1:Int)),[]]),.b (true),.b (false),.b (true),.b (false)] ?_
         conv=>whnf
         refine ⟨⟨I,⟨⟨I,I,I⟩,I,⟨I,⟨I,I⟩,I⟩,⟨I,I⟩,Go.K.c_spec_l1Rd_pick _ _ _ (by first | omega | decide | assumption | (simp only [ByteArray.size_extract,List.length_map]; omega) | simp [*]) (by first | omega | decide | assumption | (simp only [ByteArray.size_extract,List.length_map]; omega) | simp [*]) (by first | omega | decide | assumption | (simp only [ByteArray.size_extract,List.length_map]; omega) | simp [*]) (by first | omega | decide | assumption | (simp only [ByteArray.size_extract,List.length_map]; omega) | simp [*])⟩,I,I,⟨dF (by omega),I⟩,⟨dF (by omega),I⟩,⟨dF (by omega),w64 (by omega) (by omega)⟩,⟨dF (by omega),I⟩,⟨dF (by omega),I⟩,⟨dT (by omega),I⟩,⟨dT (by omega),⟨I,I,I⟩,I,⟨I,⟨I,I⟩,I⟩,⟨I,I⟩,Go.K.c_spec_l1Rd_pick _ _ _ (by omega) (by omega) (by omega) (by omega)⟩,⟨dT (by omega),I⟩,⟨dF (by omega),dT (by omega)⟩,dF (by omega),I⟩,?_⟩
         refine W.cn ?_
         conv=>whnf
         refine ⟨fun _=>?_,noF (dT (by omega))⟩
         refine rg [] ?_
         conv=>whnf
         refine ⟨⟨I,I,I,⟨⟨I,I⟩,I⟩,⟨I,I,(by simp only [lens]; omega)⟩,I,⟨I,I⟩,I⟩,?_⟩
         refine rg [.i ((↑(Prod.fst (k,ds,u)):Int) + (1:Int))] ?_
         conv=>whnf
         refine ⟨⟨I,w64 (by omega) (by omega),I,I⟩,?_⟩
         rotate_left 1
         replace h4:=df h4
         simp only [List.length_map] at h4
         omega
         refine ⟨(k + 1,ds ++ [(k:Int)],u + 2),[some 2,some 4,some 69,some 6],[],⟨rfl,⟨rfl,rfl,rfl,rfl,rfl,rfl,rfl,rfl,I⟩,⟨⟨rfl,⟨rfl,I⟩⟩,⟨⟨rfl,⟨rfl,I⟩⟩,⟨⟨rfl,⟨rfl,⟨(congrArg (fun z=>V.t (T.v (Value.int _ z))) (by show u + 1 + 1 = u + 2; omega)),I⟩⟩⟩,⟨⟨rfl,⟨rfl,⟨rfl,⟨(congrArg (V.own _) (by rw [List.map_append]; rfl)),I⟩⟩⟩⟩,I⟩⟩⟩⟩,I⟩,?_,?_⟩
         rotate_left 1
         (dsimp only; omega)
         dsimp only
         exact ⟨by omega,by rw [List.length_append]; simp; omega,by rw [List.length_append]; simp; omega,by first | omega | (dsimp only; omega),by first | omega | (dsimp only; omega)⟩
        ·conv=>whnf
         refine W.sq ?_
         refine g 35 39 [.b (true),.b (true),.b (true),.b (true),.b (true)] ?_
         conv=>whnf
         refine ⟨⟨I,I,I,I,⟨dT (by omega),I⟩,⟨dT (by omega),I⟩,⟨dT (by omega),I⟩,⟨dT (by omega),I⟩,dT (by omega),I⟩,?_⟩
         refine W.cn ?_
         conv=>whnf
         refine ⟨fun h4=>?_,fun h4=>?_⟩
         replace h4:=dt h4
         simp only [List.length_map] at h4
         refine W.skip ?_
         refine W.sq ?_
         refine W.blk ?_
         refine g 39 55 [.call (V.i (pickV l u (3:Int))) ([rdC l (u + (1:Int)),[]]),.b (false),.b (false),.b (false),.i ((↑(Prod.fst (i,ts,q)):Int) - (1:Int)),.b (false),.b (false),.b (true),.b (true),.call (V.i (pickV l (u + (1:Int)) (2:Int))) ([rdC l (u + (1:Int) + (1:Int)),[]]),.b (true),.b (false),.b (true),.b (false)] ?_
         conv=>whnf
         refine ⟨⟨I,⟨⟨I,I,I⟩,I,⟨I,⟨I,I⟩,I⟩,⟨I,I⟩,Go.K.c_spec_l1Rd_pick _ _ _ (by first | omega | decide | assumption | (simp only [ByteArray.size_extract,List.length_map]; omega) | simp [*]) (by first | omega | decide | assumption | (simp only [ByteArray.size_extract,List.length_map]; omega) | simp [*]) (by first | omega | decide | assumption | (simp only [ByteArray.size_extract,List.length_map]; omega) | simp [*]) (by first | omega | decide | assumption | (simp only [ByteArray.size_extract,List.length_map]; omega) | simp [*])⟩,I,I,⟨dF (by omega),I⟩,⟨dF (by omega),I⟩,⟨dF (by omega),w64 (by omega) (by omega)⟩,⟨dF (by omega),I⟩,⟨dF (by omega),I⟩,⟨dT (by omega),I⟩,⟨dT (by omega),⟨I,I,I⟩,I,⟨I,⟨I,I⟩,I⟩,⟨I,I⟩,Go.K.c_spec_l1Rd_pick _ _ _ (by omega) (by omega) (by omega) (by omega)⟩,⟨dT (by omega),I⟩,⟨dF (by omega),dT (by omega)⟩,dF (by omega),I⟩,?_⟩
         refine W.cn ?_
         conv=>whnf
         refine ⟨noT (dF (by omega)),fun _=>?_⟩
         refine W.skip ?_
         refine rg [.i ((↑(Prod.fst (k,ds,u)):Int) + (1:Int))] ?_
         conv=>whnf
         refine ⟨⟨I,w64 (by omega) (by omega),I,I⟩,?_⟩
         rotate_left 1
         replace h4:=df h4
         simp only [List.length_map] at h4
         omega
         refine ⟨(k + 1,ds,u + 2),[some 2,some 4,some 69,some 6],[],⟨rfl,⟨rfl,rfl,rfl,rfl,rfl,rfl,rfl,rfl,I⟩,⟨⟨rfl,⟨rfl,I⟩⟩,⟨⟨rfl,⟨rfl,I⟩⟩,⟨⟨rfl,⟨rfl,⟨(congrArg (fun z=>V.t (T.v (Value.int _ z))) (by show u + 1 + 1 = u + 2; omega)),I⟩⟩⟩,⟨⟨rfl,⟨rfl,⟨rfl,⟨rfl,I⟩⟩⟩⟩,I⟩⟩⟩⟩,I⟩,?_,?_⟩
         rotate_left 1
         (dsimp only; omega)
         dsimp only
         omega
       ·conv=>whnf
        refine W.sq ?_
        refine g 35 39 [.b (true),.b (true),.b (true),.b (true),.b (true)] ?_
        conv=>whnf
        refine ⟨⟨I,I,I,I,⟨dT (by omega),I⟩,⟨dT (by omega),I⟩,⟨dT (by omega),I⟩,⟨dT (by omega),I⟩,dT (by omega),I⟩,?_⟩
        refine W.cn ?_
        conv=>whnf
        refine ⟨fun h2=>?_,fun h2=>?_⟩
        replace h2:=dt h2
        simp only [List.length_map] at h2
        refine W.skip ?_
        refine W.sq ?_
        refine W.blk ?_
        refine g 39 55 [.call (V.i (pickV l u (3:Int))) ([rdC l (u + (1:Int)),[]]),.b (false),.b (false),.b (false),.i ((↑(Prod.fst (i,ts,q)):Int) - (1:Int)),.b (false),.b (false),.b (false),.b (false),.b (false),.b (false),.b (false),.b (false)] ?_
        conv=>whnf
        refine ⟨⟨I,⟨⟨I,I,I⟩,I,⟨I,⟨I,I⟩,I⟩,⟨I,I⟩,Go.K.c_spec_l1Rd_pick _ _ _ (by first | omega | decide | assumption | (simp only [ByteArray.size_extract,List.length_map]; omega) | simp [*]) (by first | omega | decide | assumption | (simp only [ByteArray.size_extract,List.length_map]; omega) | simp [*]) (by first | omega | decide | assumption | (simp only [ByteArray.size_extract,List.length_map]; omega) | simp [*]) (by first | omega | decide | assumption | (simp only [ByteArray.size_extract,List.length_map]; omega) | simp [*])⟩,I,I,⟨dF (by omega),I⟩,⟨dF (by omega),I⟩,⟨dF (by omega),w64 (by omega) (by omega)⟩,⟨dF (by omega),I⟩,⟨dF (by omega),I⟩,dF (by omega),dF (by omega),dF (by omega),⟨dF (by omega),dF (by omega)⟩,dF (by omega),I⟩,?_⟩
        refine W.cn ?_
        conv=>whnf
        refine ⟨noT (rfl),fun _=>?_⟩
        refine W.skip ?_
        refine rg [.i ((↑(Prod.fst (k,ds,u)):Int) + (1:Int))] ?_
        conv=>whnf
        refine ⟨⟨I,w64 (by omega) (by omega),I,I⟩,?_⟩
        rotate_left 1
        replace h2:=df h2
        simp only [List.length_map] at h2
        omega
        refine ⟨(k + 1,ds,u + 1),[some 2,some 4,some 69,some 6],[],⟨rfl,⟨rfl,rfl,rfl,rfl,rfl,rfl,rfl,rfl,I⟩,⟨⟨rfl,⟨rfl,I⟩⟩,⟨⟨rfl,⟨rfl,I⟩⟩,⟨⟨rfl,⟨rfl,⟨rfl,I⟩⟩⟩,⟨⟨rfl,⟨rfl,⟨rfl,⟨rfl,I⟩⟩⟩⟩,I⟩⟩⟩⟩,I⟩,?_,?_⟩
        rotate_left 1
        (dsimp only; omega)
        dsimp only
        omega
     ·conv=>whnf
      refine W.sq ?_
      refine g 35 39 [.b (true),.b (true),.b (true),.b (true),.b (true)] ?_
      conv=>whnf
      refine ⟨⟨I,I,I,I,⟨dT (by omega),I⟩,⟨dT (by omega),I⟩,⟨dT (by omega),I⟩,⟨dT (by omega),I⟩,dT (by omega),I⟩,?_⟩
      refine W.cn ?_
      conv=>whnf
      refine ⟨fun h2=>?_,fun h2=>?_⟩
      replace h2:=dt h2
      simp only [List.length_map] at h2
      omega
      replace h2:=df h2
      simp only [List.length_map] at h2
      refine W.exit ?_
      refine rg [] ?_
      conv=>whnf
      refine ⟨⟨I,I,I,⟨⟨I,I,I,I⟩,I⟩,⟨I,I,(by simp only [lens]; omega)⟩,I,⟨I,I⟩,I⟩,?_⟩
      refine rg [.i ((↑(Prod.fst (i,ts,q)):Int) + (1:Int))] ?_
      conv=>whnf
      refine ⟨⟨I,w64 (by omega) (by omega),I,I⟩,?_⟩
      refine ⟨(i + 1,ts ++ [(⟨((⟨#[116]⟩:ByteArray) ++ decS i),20,ds⟩:Task)],u),[some 2,some 69,some 4],[],⟨rfl,⟨rfl,rfl,rfl,rfl,rfl,rfl,I⟩,⟨⟨rfl,⟨rfl,I⟩⟩,⟨⟨rfl,⟨rfl,⟨rfl,I⟩⟩⟩,⟨⟨rfl,⟨(congrArg (V.own _) (by rw [List.map_append]; rfl)),I⟩⟩,I⟩⟩⟩,I⟩,?_,?_⟩
      rotate_left 1
      (dsimp only; omega)
      dsimp only
      refine ⟨by first | omega | (dsimp only; omega),by rw [List.length_append]; simp; omega,fun t ht=>?_,by first | omega | (dsimp only; omega),by first | omega | (dsimp only; omega)⟩
      rcases List.mem_append.1 ht with ht | ht
      ·exact hsm t ht
      ·rw [List.mem_singleton.1 ht]
       refine ⟨?_,by first | omega | (dsimp only; omega)⟩
       show (((⟨#[116]⟩:ByteArray) ++ decS i).size) ≤ 64
       rw [ByteArray.size_append]
       have:(⟨#[116]⟩:ByteArray).size = 1:=rfl
       omega
    ·conv=>whnf
     refine W.sq ?_
     refine g 35 39 [.b (false),.b (false),.b (false),.b (false),.b (false)] ?_
     conv=>whnf
     refine ⟨⟨I,I,I,I,dF (by omega),dF (by omega),dF (by omega),dF (by omega),dF (by omega),I⟩,?_⟩
     refine W.cn ?_
     conv=>whnf
     refine ⟨noT (rfl),fun _=>?_⟩
     refine W.exit ?_
     refine rg [] ?_
     conv=>whnf
     refine ⟨⟨I,I,I,⟨⟨I,I,I,I⟩,I⟩,⟨I,I,(by simp only [lens]; omega)⟩,I,⟨I,I⟩,I⟩,?_⟩
     refine rg [.i ((↑(Prod.fst (i,ts,q)):Int) + (1:Int))] ?_
     conv=>whnf
     refine ⟨⟨I,w64 (by omega) (by omega),I,I⟩,?_⟩
     refine ⟨(i + 1,ts ++ [(⟨((⟨#[116]⟩:ByteArray) ++ decS i),20,ds⟩:Task)],u),[some 2,some 69,some 4],[],⟨rfl,⟨rfl,rfl,rfl,rfl,rfl,rfl,I⟩,⟨⟨rfl,⟨rfl,I⟩⟩,⟨⟨rfl,⟨rfl,⟨rfl,I⟩⟩⟩,⟨⟨rfl,⟨(congrArg (V.own _) (by rw [List.map_append]; rfl)),I⟩⟩,I⟩⟩⟩,I⟩,?_,?_⟩
     rotate_left 1
     (dsimp only; omega)
     dsimp only
     refine ⟨by first | omega | (dsimp only; omega),by rw [List.length_append]; simp; omega,fun t ht=>?_,by first | omega | (dsimp only; omega),by first | omega | (dsimp only; omega)⟩
     rcases List.mem_append.1 ht with ht | ht
     ·exact hsm t ht
     ·rw [List.mem_singleton.1 ht]
      refine ⟨?_,by first | omega | (dsimp only; omega)⟩
      show (((⟨#[116]⟩:ByteArray) ++ decS i).size) ≤ 64
      rw [ByteArray.size_append]
      have:(⟨#[116]⟩:ByteArray).size = 1:=rfl
      omega
   ·skip
    conv=>whnf
    refine W.sq ?_
    refine g 15 17 [] ?_
    conv=>whnf
    refine ⟨⟨I,I,I,I⟩,?_⟩
    refine W.cn ?_
    conv=>whnf
    refine ⟨fun _=>?_,noF (dT (by omega))⟩
    refine W.skip ?_
    refine W.sq ?_
    refine W.blk ?_
    refine g 17 27 [.call (V.s (decS (↑i:Int))) ([[]]),.s ({ data:=#[(116:UInt8)]:ByteArray } ++ decS (↑i:Int)),.call (V.i (pickV l q (5:Int))) ([rdC l (q + (1:Int)),[]]),.i ((1:Int) + pickV l q (5:Int))] ?_
    conv=>whnf
    refine ⟨⟨I,⟨⟨I,I⟩,I,⟨⟨I,I⟩,I⟩,⟨I,I⟩,(by assumption)⟩,⟨rfl,(by simp only [bsz,bsa,ByteArray.size_append,List.size_toArray,lens]; omega)⟩,I,⟨⟨I,I,I⟩,I,⟨I,⟨I,I⟩,I⟩,⟨I,I⟩,Go.K.c_spec_l1Rd_pick _ _ _ (by first | omega | decide | assumption | (simp only [ByteArray.size_extract,List.length_map]; omega) | simp [*]) (by first | omega | decide | assumption | (simp only [ByteArray.size_extract,List.length_map]; omega) | simp [*]) (by first | omega | decide | assumption | (simp only [ByteArray.size_extract,List.length_map]; omega) | simp [*]) (by first | omega | decide | assumption | (simp only [ByteArray.size_extract,List.length_map]; omega) | simp [*])⟩,w64 (by omega) (by omega),I,I,⟨I,I,I,I⟩,I⟩,?_⟩
    refine W.sq ?_
    refine g 27 29 [.call (V.i (pickV l (q + (1:Int)) (8:Int))) ([rdC l (q + (1:Int) + (1:Int)),[]])] ?_
    conv=>whnf
    refine ⟨⟨I,⟨⟨I,I,I⟩,I,⟨I,⟨I,I⟩,I⟩,⟨I,I⟩,Go.K.c_spec_l1Rd_pick _ _ _ (by omega) (by omega) (by omega) (by omega)⟩,I,I⟩,?_⟩
    refine W.cn ?_
    conv=>whnf
    refine ⟨noT (dF (by omega)),fun _=>?_⟩
    refine W.skip ?_
    refine W.sq ?_
    refine g 29 30 [] ?_
    conv=>whnf
    refine ⟨⟨I,I⟩,?_⟩
    refine W.blk ?_
    refine W.lp (fun s (y:Nat × List Int × Int)=>⟨[(0,s.s 0),(2,s.s 2),(3,s.s 3),(4,s.s 4),(5,s.s 5),(6,s.s 6),(7,.i y.1),(8,s.s 8)],[(2,[s.c 2 0]),(4,[s.c 4 0]),(69,[.t (u8s l),.t (.i y.2.2)]),(6,[.t (.s ((⟨#[116]⟩:ByteArray) ++ decS i)),.t (.i (1 + pickV l q 5)),.own [false] (y.2.1.map intT)])],[]⟩) (fun (y:Nat × List Int × Int)=>y.1 ≤ i ∧ y.2.1.length ≤ y.1 ∧ y.2.1.length ≤ 8 ∧ q + 2 ≤ y.2.2 ∧ y.2.2 ≤ q + 2 + 2 * y.1) (fun (y:Nat × List Int × Int)=>i - y.1) ((0,[],q + 2)) [some 2,some 4,some 69,some 6] [] ⟨rfl,⟨rfl,rfl,rfl,rfl,rfl,rfl,rfl,rfl,I⟩,⟨⟨rfl,⟨rfl,I⟩⟩,⟨⟨rfl,⟨rfl,I⟩⟩,⟨⟨rfl,⟨rfl,⟨(congrArg (fun z=>V.t (T.v (Value.int _ z))) (by show q + 1 + 1 = q + 2; omega)),I⟩⟩⟩,⟨⟨rfl,⟨rfl,⟨rfl,⟨rfl,I⟩⟩⟩⟩,I⟩⟩⟩⟩,I⟩ (by simp) ?_
    rintro ⟨k,ds,u⟩ ⟨g1,g2,g3,g4,g5⟩
    dsimp only at g1 g2 g3 g4 g5
    have p3:=pick_rng l u 3
    have p2:=pick_rng l (u + 1) 2
    by_cases hk:k < i
    ·by_cases hd:ds.length < 8
     ·by_cases h3:pickV l u 3 = 0
      ·conv=>whnf
       refine W.sq ?_
       refine g 35 39 [.b (true),.b (true),.b (true),.b (true),.b (true)] ?_
       conv=>whnf
       refine ⟨⟨I,I,I,I,⟨dT (by omega),I⟩,⟨dT (by omega),I⟩,⟨dT (by omega),I⟩,⟨dT (by omega),I⟩,dT (by omega),I⟩,?_⟩
       refine W.cn ?_
       conv=>whnf
       refine ⟨fun h2=>?_,fun h2=>?_⟩
       replace h2:=dt h2
       simp only [List.length_map] at h2
       refine W.skip ?_
       refine W.sq ?_
       refine W.blk ?_
       refine g 39 55 [.call (V.i (pickV l u (3:Int))) ([rdC l (u + (1:Int)),[]]),.b (true),.b (true),.b (true),.b (true),.b (true),.b (false),.b (false),.b (false),.b (true),.b (true)] ?_
       conv=>whnf
       refine ⟨⟨I,⟨⟨I,I,I⟩,I,⟨I,⟨I,I⟩,I⟩,⟨I,I⟩,Go.K.c_spec_l1Rd_pick _ _ _ (by first | omega | decide | assumption | (simp only [ByteArray.size_extract,List.length_map]; omega) | simp [*]) (by first | omega | decide | assumption | (simp only [ByteArray.size_extract,List.length_map]; omega) | simp [*]) (by first | omega | decide | assumption | (simp only [ByteArray.size_extract,List.length_map]; omega) | simp [*]) (by first | omega | decide | assumption | (simp only [ByteArray.size_extract,List.length_map]; omega) | simp [*])⟩,I,I,dT (by omega),dT (by omega),dT (by omega),dT (by omega),dT (by omega),I,I,I,dT (by omega),dT (by omega),I⟩,?_⟩
       refine W.cn ?_
       conv=>whnf
       refine ⟨fun _=>?_,noF (rfl)⟩
       refine rg [] ?_
       conv=>whnf
       refine ⟨⟨I,I,I,⟨⟨I,I⟩,I⟩,⟨I,I,(by simp only [lens]; omega)⟩,I,⟨I,I⟩,I⟩,?_⟩
       refine rg [.i ((↑(Prod.fst (k,ds,u)):Int) + (1:Int))] ?_
       conv=>whnf
       refine ⟨⟨I,w64 (by omega) (by omega),I,I⟩,?_⟩
       rotate_left 1
       replace h2:=df h2
       simp only [List.length_map] at h2
       omega
       refine ⟨(k + 1,ds ++ [(k:Int)],u + 1),[some 2,some 4,some 69,some 6],[],⟨rfl,⟨rfl,rfl,rfl,rfl,rfl,rfl,rfl,rfl,I⟩,⟨⟨rfl,⟨rfl,I⟩⟩,⟨⟨rfl,⟨rfl,I⟩⟩,⟨⟨rfl,⟨rfl,⟨rfl,I⟩⟩⟩,⟨⟨rfl,⟨rfl,⟨rfl,⟨(congrArg (V.own _) (by rw [List.map_append]; rfl)),I⟩⟩⟩⟩,I⟩⟩⟩⟩,I⟩,?_,?_⟩
       rotate_left 1
       (dsimp only; omega)
       dsimp only
       exact ⟨by omega,by rw [List.length_append]; simp; omega,by rw [List.length_append]; simp; omega,by first | omega | (dsimp only; omega),by first | omega | (dsimp only; omega)⟩
      ·by_cases hki:(k:Int) = (i:Int) - 1
       ·by_cases h2:pickV l (u + 1) 2 = 0
        ·conv=>whnf
         refine W.sq ?_
         refine g 35 39 [.b (true),.b (true),.b (true),.b (true),.b (true)] ?_
         conv=>whnf
         refine ⟨⟨I,I,I,I,⟨dT (by omega),I⟩,⟨dT (by omega),I⟩,⟨dT (by omega),I⟩,⟨dT (by omega),I⟩,dT (by omega),I⟩,?_⟩
         refine W.cn ?_
         conv=>whnf
         refine ⟨fun h4=>?_,fun h4=>?_⟩
         replace h4:=dt h4
         simp only [List.length_map] at h4
         refine W.skip ?_
         refine W.sq ?_
         refine W.blk ?_
         refine g 39 55 [.call (V.i (pickV l u (3:Int))) ([rdC l (u + (1:Int)),[]]),.b (false),.b (false),.b (false),.i ((↑(Prod.fst (i,ts,q)):Int) - (1:Int)),.b (false),.b (false),.b (true),.b (true),.call (V.i (pickV l (u + (1:Int)) (2:Int))) ([rdC l (u + (1:Int) + (1:Int)),[]]),.b (true),.b (false),.b (true),.b (false)] ?_
         conv=>whnf
         refine ⟨⟨I,⟨⟨I,I,I⟩,I,⟨I,⟨I,I⟩,I⟩,⟨I,I⟩,Go.K.c_spec_l1Rd_pick _ _ _ (by first | omega | decide | assumption | (simp only [ByteArray.size_extract,List.length_map]; omega) | simp [*]) (by first | omega | decide | assumption | (simp only [ByteArray.size_extract,List.length_map]; omega) | simp [*]) (by first | omega | decide | assumption | (simp only [ByteArray.size_extract,List.length_map]; omega) | simp [*]) (by first | omega | decide | assumption | (simp only [ByteArray.size_extract,List.length_map]; omega) | simp [*])⟩,I,I,⟨dF (by omega),I⟩,⟨dF (by omega),I⟩,⟨dF (by omega),w64 (by omega) (by omega)⟩,⟨dF (by omega),I⟩,⟨dF (by omega),I⟩,⟨dT (by omega),I⟩,⟨dT (by omega),⟨I,I,I⟩,I,⟨I,⟨I,I⟩,I⟩,⟨I,I⟩,Go.K.c_spec_l1Rd_pick _ _ _ (by omega) (by omega) (by omega) (by omega)⟩,⟨dT (by omega),I⟩,⟨dF (by omega),dT (by omega)⟩,dF (by omega),I⟩,?_⟩
         refine W.cn ?_
         conv=>whnf
         refine ⟨fun _=>?_,noF (dT (by omega))⟩
         refine rg [] ?_
         conv=>whnf
         refine ⟨⟨I,I,I,⟨⟨I,I⟩,I⟩,⟨I,I,(by simp only [lens]; omega)⟩,I,⟨I,I⟩,I⟩,?_⟩
         refine rg [.i ((↑(Prod.fst (k,ds,u)):Int) + (1:Int))] ?_
         conv=>whnf
         refine ⟨⟨I,w64 (by omega) (by omega),I,I⟩,?_⟩
         rotate_left 1
         replace h4:=df h4
         simp only [List.length_map] at h4
         omega
         refine ⟨(k + 1,ds ++ [(k:Int)],u + 2),[some 2,some 4,some 69,some 6],[],⟨rfl,⟨rfl,rfl,rfl,rfl,rfl,rfl,rfl,rfl,I⟩,⟨⟨rfl,⟨rfl,I⟩⟩,⟨⟨rfl,⟨rfl,I⟩⟩,⟨⟨rfl,⟨rfl,⟨(congrArg (fun z=>V.t (T.v (Value.int _ z))) (by show u + 1 + 1 = u + 2; omega)),I⟩⟩⟩,⟨⟨rfl,⟨rfl,⟨rfl,⟨(congrArg (V.own _) (by rw [List.map_append]; rfl)),I⟩⟩⟩⟩,I⟩⟩⟩⟩,I⟩,?_,?_⟩
         rotate_left 1
         (dsimp only; omega)
         dsimp only
         exact ⟨by omega,by rw [List.length_append]; simp; omega,by rw [List.length_append]; simp; omega,by first | omega | (dsimp only; omega),by first | omega | (dsimp only; omega)⟩
        ·conv=>whnf
         refine W.sq ?_
         refine g 35 39 [.b (true),.b (true),.b (true),.b (true),.b (true)] ?_
         conv=>whnf
         refine ⟨⟨I,I,I,I,⟨dT (by omega),I⟩,⟨dT (by omega),I⟩,⟨dT (by omega),I⟩,⟨dT (by omega),I⟩,dT (by omega),I⟩,?_⟩
         refine W.cn ?_
         conv=>whnf
         refine ⟨fun h4=>?_,fun h4=>?_⟩
         replace h4:=dt h4
         simp only [List.length_map] at h4
         refine W.skip ?_
         refine W.sq ?_
         refine W.blk ?_
         refine g 39 55 [.call (V.i (pickV l u (3:Int))) ([rdC l (u + (1:Int)),[]]),.b (false),.b (false),.b (false),.i ((↑(Prod.fst (i,ts,q)):Int) - (1:Int)),.b (false),.b (false),.b (true),.b (true),.call (V.i (pickV l (u + (1:Int)) (2:Int))) ([rdC l (u + (1:Int) + (1:Int)),[]]),.b (true),.b (false),.b (true),.b (false)] ?_
         conv=>whnf
         refine ⟨⟨I,⟨⟨I,I,I⟩,I,⟨I,⟨I,I⟩,I⟩,⟨I,I⟩,Go.K.c_spec_l1Rd_pick _ _ _ (by first | omega | decide | assumption | (simp only [ByteArray.size_extract,List.length_map]; omega) | simp [*]) (by first | omega | decide | assumption | (simp only [ByteArray.size_extract,List.length_map]; omega) | simp [*]) (by first | omega | decide | assumption | (simp only [ByteArray.size_extract,List.length_map]; omega) | simp [*]) (by first | omega | decide | assumption | (simp only [ByteArray.size_extract,List.length_map]; omega) | simp [*])⟩,I,I,⟨dF (by omega),I⟩,⟨dF (by omega),I⟩,⟨dF (by omega),w64 (by omega) (by omega)⟩,⟨dF (by omega),I⟩,⟨dF (by omega),I⟩,⟨dT (by omega),I⟩,⟨dT (by omega),⟨I,I,I⟩,I,⟨I,⟨I,I⟩,I⟩,⟨I,I⟩,Go.K.c_spec_l1Rd_pick _ _ _ (by omega) (by omega) (by omega) (by omega)⟩,⟨dT (by omega),I⟩,⟨dF (by omega),dT (by omega)⟩,dF (by omega),I⟩,?_⟩
         refine W.cn ?_
         conv=>whnf
         refine ⟨noT (dF (by omega)),fun _=>?_⟩
         refine W.skip ?_
         refine rg [.i ((↑(Prod.fst (k,ds,u)):Int) + (1:Int))] ?_
         conv=>whnf
         refine ⟨⟨I,w64 (by omega) (by omega),I,I⟩,?_⟩
         rotate_left 1
         replace h4:=df h4
         simp only [List.length_map] at h4
         omega
         refine ⟨(k + 1,ds,u + 2),[some 2,some 4,some 69,some 6],[],⟨rfl,⟨rfl,rfl,rfl,rfl,rfl,rfl,rfl,rfl,I⟩,⟨⟨rfl,⟨rfl,I⟩⟩,⟨⟨rfl,⟨rfl,I⟩⟩,⟨⟨rfl,⟨rfl,⟨(congrArg (fun z=>V.t (T.v (Value.int _ z))) (by show u + 1 + 1 = u + 2; omega)),I⟩⟩⟩,⟨⟨rfl,⟨rfl,⟨rfl,⟨rfl,I⟩⟩⟩⟩,I⟩⟩⟩⟩,I⟩,?_,?_⟩
         rotate_left 1
         (dsimp only; omega)
         dsimp only
         omega
       ·conv=>whnf
        refine W.sq ?_
        refine g 35 39 [.b (true),.b (true),.b (true),.b (true),.b (true)] ?_
        conv=>whnf
        refine ⟨⟨I,I,I,I,⟨dT (by omega),I⟩,⟨dT (by omega),I⟩,⟨dT (by omega),I⟩,⟨dT (by omega),I⟩,dT (by omega),I⟩,?_⟩
        refine W.cn ?_
        conv=>whnf
        refine ⟨fun h2=>?_,fun h2=>?_⟩
        replace h2:=dt h2
        simp only [List.length_map] at h2
        refine W.skip ?_
        refine W.sq ?_
        refine W.blk ?_
        refine g 39 55 [.call (V.i (pickV l u (3:Int))) ([rdC l (u + (1:Int)),[]]),.b (false),.b (false),.b (false),.i ((↑(Prod.fst (i,ts,q)):Int) - (1:Int)),.b (false),.b (false),.b (false),.b (false),.b (false),.b (false),.b (false),.b (false)] ?_
        conv=>whnf
        refine ⟨⟨I,⟨⟨I,I,I⟩,I,⟨I,⟨I,I⟩,I⟩,⟨I,I⟩,Go.K.c_spec_l1Rd_pick _ _ _ (by first | omega | decide | assumption | (simp only [ByteArray.size_extract,List.length_map]; omega) | simp [*]) (by first | omega | decide | assumption | (simp only [ByteArray.size_extract,List.length_map]; omega) | simp [*]) (by first | omega | decide | assumption | (simp only [ByteArray.size_extract,List.length_map]; omega) | simp [*]) (by first | omega | decide | assumption | (simp only [ByteArray.size_extract,List.length_map]; omega) | simp [*])⟩,I,I,⟨dF (by omega),I⟩,⟨dF (by omega),I⟩,⟨dF (by omega),w64 (by omega) (by omega)⟩,⟨dF (by omega),I⟩,⟨dF (by omega),I⟩,dF (by omega),dF (by omega),dF (by omega),⟨dF (by omega),dF (by omega)⟩,dF (by omega),I⟩,?_⟩
        refine W.cn ?_
        conv=>whnf
        refine ⟨noT (rfl),fun _=>?_⟩
        refine W.skip ?_
        refine rg [.i ((↑(Prod.fst (k,ds,u)):Int) + (1:Int))] ?_
        conv=>whnf
        refine ⟨⟨I,w64 (by omega) (by omega),I,I⟩,?_⟩
        rotate_left 1
        replace h2:=df h2
        simp only [List.length_map] at h2
        omega
        refine ⟨(k + 1,ds,u + 1),[some 2,some 4,some 69,some 6],[],⟨rfl,⟨rfl,rfl,rfl,rfl,rfl,rfl,rfl,rfl,I⟩,⟨⟨rfl,⟨rfl,I⟩⟩,⟨⟨rfl,⟨rfl,I⟩⟩,⟨⟨rfl,⟨rfl,⟨rfl,I⟩⟩⟩,⟨⟨rfl,⟨rfl,⟨rfl,⟨rfl,I⟩⟩⟩⟩,I⟩⟩⟩⟩,I⟩,?_,?_⟩
        rotate_left 1
        (dsimp only; omega)
        dsimp only
        omega
     ·conv=>whnf
      refine W.sq ?_
      refine g 35 39 [.b (true),.b (true),.b (true),.b (true),.b (true)] ?_
      conv=>whnf
      refine ⟨⟨I,I,I,I,⟨dT (by omega),I⟩,⟨dT (by omega),I⟩,⟨dT (by omega),I⟩,⟨dT (by omega),I⟩,dT (by omega),I⟩,?_⟩
      refine W.cn ?_
      conv=>whnf
      refine ⟨fun h2=>?_,fun h2=>?_⟩
      replace h2:=dt h2
      simp only [List.length_map] at h2
      omega
      replace h2:=df h2
      simp only [List.length_map] at h2
      refine W.exit ?_
      refine rg [] ?_
      conv=>whnf
      refine ⟨⟨I,I,I,⟨⟨I,I,I,I⟩,I⟩,⟨I,I,(by simp only [lens]; omega)⟩,I,⟨I,I⟩,I⟩,?_⟩
      refine rg [.i ((↑(Prod.fst (i,ts,q)):Int) + (1:Int))] ?_
      conv=>whnf
      refine ⟨⟨I,w64 (by omega) (by omega),I,I⟩,?_⟩
      refine ⟨(i + 1,ts ++ [(⟨((⟨#[116]⟩:ByteArray) ++ decS i),1 + pickV l q 5,ds⟩:Task)],u),[some 2,some 69,some 4],[],⟨rfl,⟨rfl,rfl,rfl,rfl,rfl,rfl,I⟩,⟨⟨rfl,⟨rfl,I⟩⟩,⟨⟨rfl,⟨rfl,⟨rfl,I⟩⟩⟩,⟨⟨rfl,⟨(congrArg (V.own _) (by rw [List.map_append]; rfl)),I⟩⟩,I⟩⟩⟩,I⟩,?_,?_⟩
      rotate_left 1
      (dsimp only; omega)
      dsimp only
      refine ⟨by first | omega | (dsimp only; omega),by rw [List.length_append]; simp; omega,fun t ht=>?_,by first | omega | (dsimp only; omega),by first | omega | (dsimp only; omega)⟩
      rcases List.mem_append.1 ht with ht | ht
      ·exact hsm t ht
      ·rw [List.mem_singleton.1 ht]
       refine ⟨?_,by first | omega | (dsimp only; omega)⟩
       show (((⟨#[116]⟩:ByteArray) ++ decS i).size) ≤ 64
       rw [ByteArray.size_append]
       have:(⟨#[116]⟩:ByteArray).size = 1:=rfl
       omega
    ·conv=>whnf
     refine W.sq ?_
     refine g 35 39 [.b (false),.b (false),.b (false),.b (false),.b (false)] ?_
     conv=>whnf
     refine ⟨⟨I,I,I,I,dF (by omega),dF (by omega),dF (by omega),dF (by omega),dF (by omega),I⟩,?_⟩
     refine W.cn ?_
     conv=>whnf
     refine ⟨noT (rfl),fun _=>?_⟩
     refine W.exit ?_
     refine rg [] ?_
     conv=>whnf
     refine ⟨⟨I,I,I,⟨⟨I,I,I,I⟩,I⟩,⟨I,I,(by simp only [lens]; omega)⟩,I,⟨I,I⟩,I⟩,?_⟩
     refine rg [.i ((↑(Prod.fst (i,ts,q)):Int) + (1:Int))] ?_
     conv=>whnf
     refine ⟨⟨I,w64 (by omega) (by omega),I,I⟩,?_⟩
     refine ⟨(i + 1,ts ++ [(⟨((⟨#[116]⟩:ByteArray) ++ decS i),1 + pickV l q 5,ds⟩:Task)],u),[some 2,some 69,some 4],[],⟨rfl,⟨rfl,rfl,rfl,rfl,rfl,rfl,I⟩,⟨⟨rfl,⟨rfl,I⟩⟩,⟨⟨rfl,⟨rfl,⟨rfl,I⟩⟩⟩,⟨⟨rfl,⟨(congrArg (V.own _) (by rw [List.map_append]; rfl)),I⟩⟩,I⟩⟩⟩,I⟩,?_,?_⟩
     rotate_left 1
     (dsimp only; omega)
     dsimp only
     refine ⟨by first | omega | (dsimp only; omega),by rw [List.length_append]; simp; omega,fun t ht=>?_,by first | omega | (dsimp only; omega),by first | omega | (dsimp only; omega)⟩
     rcases List.mem_append.1 ht with ht | ht
     ·exact hsm t ht
     ·rw [List.mem_singleton.1 ht]
      refine ⟨?_,by first | omega | (dsimp only; omega)⟩
      show (((⟨#[116]⟩:ByteArray) ++ decS i).size) ≤ 64
      rw [ByteArray.size_append]
      have:(⟨#[116]⟩:ByteArray).size = 1:=rfl
      omega
  ·conv=>whnf
   refine W.sq ?_
   refine g 15 17 [] ?_
   conv=>whnf
   refine ⟨⟨I,I,I,I⟩,?_⟩
   refine W.cn ?_
   conv=>whnf
   refine ⟨noT (dF (by omega)),fun _=>?_⟩
   refine W.exit ?_
   refine g 3 69 [] ?_
   conv=>whnf
   refine ⟨⟨I,⟨I,I⟩,I⟩,?_⟩
   refine W.ret ?_
   refine EndsW.rt ?_
   conv=>whnf
   refine ⟨⟨I,I,I⟩,?_⟩
   exact ⟨⟨ts⟩,q,rfl,rfl,⟨by first | omega | (dsimp only; omega),hsm⟩,by first | omega | (dsimp only; omega),by omega,by omega⟩
 ·refine x_spec_l1Draw ?_
  conv=>whnf
  refine g 0 0 [] ?_
  conv=>whnf
  refine ⟨⟨I,I⟩,?_⟩
  refine g 9 11 [.call (V.i (pickV l pos (6:Int))) ([rdC l (pos + (1:Int)),[]]),.i ((1:Int) + pickV l pos (6:Int))] ?_
  conv=>whnf
  refine ⟨⟨I,⟨⟨I,I,I⟩,I,⟨I,⟨I,I⟩,I⟩,⟨I,I⟩,Go.K.c_spec_l1Rd_pick _ _ _ (by omega) (by omega) (by omega) (by omega)⟩,w64 (by omega) (by omega),I,I⟩,?_⟩
  refine W.sq ?_
  refine g 11 13 [.call (V.i (pickV l (pos + (1:Int)) (12:Int))) ([rdC l (pos + (1:Int) + (1:Int)),[]])] ?_
  conv=>whnf
  refine ⟨⟨I,⟨⟨I,I,I⟩,I,⟨I,⟨I,I⟩,I⟩,⟨I,I⟩,Go.K.c_spec_l1Rd_pick _ _ _ (by omega) (by omega) (by omega) (by omega)⟩,I,I⟩,?_⟩
  refine W.cn ?_
  conv=>whnf
  refine ⟨noT (dF (by omega)),fun _=>?_⟩
  refine W.skip ?_
  refine g 13 15 [] ?_
  conv=>whnf
  refine ⟨⟨I,I,⟨I,I⟩,I⟩,?_⟩
  refine W.sq ?_
  refine g 0 0 [] ?_
  conv=>whnf
  refine ⟨⟨I,I⟩,?_⟩
  refine W.blk ?_
  refine W.lp (fun s (x:Nat × List Task × Int)=>⟨[(0,s.s 0),(2,s.s 2),(3,s.s 3),(4,s.s 4),(5,.i x.1),(8,s.s 8)],[(2,[s.c 2 0]),(69,[.t (u8s l),.t (.i x.2.2)]),(4,[.own taskK (x.2.1.map taskT)])],[]⟩) (fun (x:Nat × List Task × Int)=>(x.1:Int) ≤ (1 + pickV l pos 6) ∧ x.2.1.length = x.1 ∧ (∀ t ∈ x.2.1,t.name.size ≤ 64 ∧ t.deps.length ≤ 64) ∧ pos + 2 ≤ x.2.2 ∧ x.2.2 ≤ pos + 2 + 90 * x.1) (fun (x:Nat × List Task × Int)=>(((1 + pickV l pos 6):Int) - x.1).toNat) ((0,[],pos + 2)) [some 2,some 69,some 4] [] ⟨rfl,⟨rfl,rfl,rfl,rfl,rfl,rfl,I⟩,⟨⟨rfl,⟨rfl,I⟩⟩,⟨⟨rfl,⟨rfl,⟨(congrArg (fun z=>V.t (T.v (Value.int _ z))) (by show pos + 1 + 1 = pos + 2; omega)),I⟩⟩⟩,⟨⟨rfl,⟨rfl,I⟩⟩,I⟩⟩⟩,I⟩ ⟨by omega,by simp⟩ ?_
  rintro ⟨i,ts,q⟩ ⟨hi,hlen,hsm,hq1,hq2⟩
  dsimp only at hi hlen hsm hq1 hq2
  have p5:=pick_rng l q 5
  have p8:=pick_rng l (q + 1) 8
  by_cases hi2:(i:Int) < (1 + pickV l pos 6)
  ·have cd:=c_spec_l1Dec i (by omega) (by omega)
   have hds:=decS_size i
   by_cases h8:pickV l (q + 1) 8 = 0
   ·skip
    conv=>whnf
    refine W.sq ?_
    refine g 15 17 [] ?_
    conv=>whnf
    refine ⟨⟨I,I,I,I⟩,?_⟩
    refine W.cn ?_
    conv=>whnf
    refine ⟨fun _=>?_,noF (dT (by omega))⟩
    refine W.skip ?_
    refine W.sq ?_
    refine W.blk ?_
    refine g 17 27 [.call (V.s (decS (↑i:Int))) ([[]]),.s ({ data:=#[(116:UInt8)]:ByteArray } ++ decS (↑i:Int)),.call (V.i (pickV l q (5:Int))) ([rdC l (q + (1:Int)),[]]),.i ((1:Int) + pickV l q (5:Int))] ?_
    conv=>whnf
    refine ⟨⟨I,⟨⟨I,I⟩,I,⟨⟨I,I⟩,I⟩,⟨I,I⟩,(by assumption)⟩,⟨rfl,(by simp only [bsz,bsa,ByteArray.size_append,List.size_toArray,lens]; omega)⟩,I,⟨⟨I,I,I⟩,I,⟨I,⟨I,I⟩,I⟩,⟨I,I⟩,Go.K.c_spec_l1Rd_pick _ _ _ (by first | omega | decide | assumption | (simp only [ByteArray.size_extract,List.length_map]; omega) | simp [*]) (by first | omega | decide | assumption | (simp only [ByteArray.size_extract,List.length_map]; omega) | simp [*]) (by first | omega | decide | assumption | (simp only [ByteArray.size_extract,List.length_map]; omega) | simp [*]) (by first | omega | decide | assumption | (simp only [ByteArray.size_extract,List.length_map]; omega) | simp [*])⟩,w64 (by omega) (by omega),I,I,⟨I,I,I,I⟩,I⟩,?_⟩
    refine W.sq ?_
    refine g 27 29 [.call (V.i (pickV l (q + (1:Int)) (8:Int))) ([rdC l (q + (1:Int) + (1:Int)),[]])] ?_
    conv=>whnf
    refine ⟨⟨I,⟨⟨I,I,I⟩,I,⟨I,⟨I,I⟩,I⟩,⟨I,I⟩,Go.K.c_spec_l1Rd_pick _ _ _ (by omega) (by omega) (by omega) (by omega)⟩,I,I⟩,?_⟩
    refine W.cn ?_
    conv=>whnf
    refine ⟨fun _=>?_,noF (dT (by omega))⟩
    refine rg [] ?_
    conv=>whnf
    refine ⟨⟨I,⟨I,I⟩,I⟩,?_⟩
    refine W.sq ?_
    refine g 29 31 [] ?_
    conv=>whnf
    refine ⟨⟨I,I⟩,?_⟩
    refine W.blk ?_
    refine W.lp (fun s (y:Nat × List Int × Int)=>⟨[(0,s.s 0),(2,s.s 2),(3,s.s 3),(4,s.s 4),(5,s.s 5),(6,s.s 6),(7,.i y.1),(8,s.s 8)],[(2,[s.c 2 0]),(4,[s.c 4 0]),(69,[.t (u8s l),.t (.i y.2.2)]),(6,[.t (.s ((⟨#[116]⟩:ByteArray) ++ decS i)),.t (.i (20)),.own [false] (y.2.1.map intT)])],[]⟩) (fun (y:Nat × List Int × Int)=>y.1 ≤ i ∧ y.2.1.length ≤ y.1 ∧ y.2.1.length ≤ 8 ∧ q + 2 ≤ y.2.2 ∧ y.2.2 ≤ q + 2 + 2 * y.1) (fun (y:Nat × List Int × Int)=>i - y.1) ((0,[],q + 2)) [some 2,some 4,some 69,some 6] [] ⟨rfl,⟨rfl,rfl,rfl,rfl,rfl,rfl,rfl,rfl,I⟩,⟨⟨rfl,⟨rfl,I⟩⟩,⟨⟨rfl,⟨rfl,I⟩⟩,⟨⟨rfl,⟨rfl,⟨(congrArg (fun z=>V.t (T.v (Value.int _ z))) (by show q + 1 + 1 = q + 2; omega)),I⟩⟩⟩,⟨⟨rfl,⟨rfl,⟨rfl,⟨rfl,I⟩⟩⟩⟩,I⟩⟩⟩⟩,I⟩ (by simp) ?_
    rintro ⟨k,ds,u⟩ ⟨g1,g2,g3,g4,g5⟩
    dsimp only at g1 g2 g3 g4 g5
    have p3:=pick_rng l u 3
    have p2:=pick_rng l (u + 1) 2
    by_cases hk:k < i
    ·by_cases hd:ds.length < 8
     ·by_cases h3:pickV l u 3 = 0
      ·conv=>whnf
       refine W.sq ?_
       refine g 35 39 [.b (true),.b (true),.b (true),.b (true),.b (true)] ?_
       conv=>whnf
       refine ⟨⟨I,I,I,I,⟨dT (by omega),I⟩,⟨dT (by omega),I⟩,⟨dT (by omega),I⟩,⟨dT (by omega),I⟩,dT (by omega),I⟩,?_⟩
       refine W.cn ?_
       conv=>whnf
       refine ⟨fun h2=>?_,fun h2=>?_⟩
       replace h2:=dt h2
       simp only [List.length_map] at h2
       refine W.skip ?_
       refine W.sq ?_
       refine W.blk ?_
       refine g 39 55 [.call (V.i (pickV l u (3:Int))) ([rdC l (u + (1:Int)),[]]),.b (true),.b (true),.b (true),.b (true),.b (true),.b (false),.b (false),.b (false),.b (true),.b (true)] ?_
       conv=>whnf
       refine ⟨⟨I,⟨⟨I,I,I⟩,I,⟨I,⟨I,I⟩,I⟩,⟨I,I⟩,Go.K.c_spec_l1Rd_pick _ _ _ (by first | omega | decide | assumption | (simp only [ByteArray.size_extract,List.length_map]; omega) | simp [*]) (by first | omega | decide | assumption | (simp only [ByteArray.size_extract,List.length_map]; omega) | simp [*]) (by first | omega | decide | assumption | (simp only [ByteArray.size_extract,List.length_map]; omega) | simp [*]) (by first | omega | decide | assumption | (simp only [ByteArray.size_extract,List.length_map]; omega) | simp [*])⟩,I,I,dT (by omega),dT (by omega),dT (by omega),dT (by omega),dT (by omega),I,I,I,dT (by omega),dT (by omega),I⟩,?_⟩
       refine W.cn ?_
       conv=>whnf
       refine ⟨fun _=>?_,noF (rfl)⟩
       refine rg [] ?_
       conv=>whnf
       refine ⟨⟨I,I,I,⟨⟨I,I⟩,I⟩,⟨I,I,(by simp only [lens]; omega)⟩,I,⟨I,I⟩,I⟩,?_⟩
       refine rg [.i ((↑(Prod.fst (k,ds,u)):Int) + (1:Int))] ?_
       conv=>whnf
       refine ⟨⟨I,w64 (by omega) (by omega),I,I⟩,?_⟩
       rotate_left 1
       replace h2:=df h2
       simp only [List.length_map] at h2
       omega
       refine ⟨(k + 1,ds ++ [(k:Int)],u + 1),[some 2,some 4,some 69,some 6],[],⟨rfl,⟨rfl,rfl,rfl,rfl,rfl,rfl,rfl,rfl,I⟩,⟨⟨rfl,⟨rfl,I⟩⟩,⟨⟨rfl,⟨rfl,I⟩⟩,⟨⟨rfl,⟨rfl,⟨rfl,I⟩⟩⟩,⟨⟨rfl,⟨rfl,⟨rfl,⟨(congrArg (V.own _) (by rw [List.map_append]; rfl)),I⟩⟩⟩⟩,I⟩⟩⟩⟩,I⟩,?_,?_⟩
       rotate_left 1
       (dsimp only; omega)
       dsimp only
       exact ⟨by omega,by rw [List.length_append]; simp; omega,by rw [List.length_append]; simp; omega,by first | omega | (dsimp only; omega),by first | omega | (dsimp only; omega)⟩
      ·by_cases hki:(k:Int) = (i:Int) - 1
       ·by_cases h2:pickV l (u + 1) 2 = 0
        ·conv=>whnf
         refine W.sq ?_
         refine g 35 39 [.b (true),.b (true),.b (true),.b (true),.b (true)] ?_
         conv=>whnf
         refine ⟨⟨I,I,I,I,⟨dT (by omega),I⟩,⟨dT (by omega),I⟩,⟨dT (by omega),I⟩,⟨dT (by omega),I⟩,dT (by omega),I⟩,?_⟩
         refine W.cn ?_
         conv=>whnf
         refine ⟨fun h4=>?_,fun h4=>?_⟩
         replace h4:=dt h4
         simp only [List.length_map] at h4
         refine W.skip ?_
         refine W.sq ?_
         refine W.blk ?_
         refine g 39 55 [.call (V.i (pickV l u (3:Int))) ([rdC l (u + (1:Int)),[]]),.b (false),.b (false),.b (false),.i ((↑(Prod.fst (i,ts,q)):Int) - (1:Int)),.b (false),.b (false),.b (true),.b (true),.call (V.i (pickV l (u + (1:Int)) (2:Int))) ([rdC l (u + (1:Int) + (1:Int)),[]]),.b (true),.b (false),.b (true),.b (false)] ?_
         conv=>whnf
         refine ⟨⟨I,⟨⟨I,I,I⟩,I,⟨I,⟨I,I⟩,I⟩,⟨I,I⟩,Go.K.c_spec_l1Rd_pick _ _ _ (by first | omega | decide | assumption | (simp only [ByteArray.size_extract,List.length_map]; omega) | simp [*]) (by first | omega | decide | assumption | (simp only [ByteArray.size_extract,List.length_map]; omega) | simp [*]) (by first | omega | decide | assumption | (simp only [ByteArray.size_extract,List.length_map]; omega) | simp [*]) (by first | omega | decide | assumption | (simp only [ByteArray.size_extract,List.length_map]; omega) | simp [*])⟩,I,I,⟨dF (by omega),I⟩,⟨dF (by omega),I⟩,⟨dF (by omega),w64 (by omega) (by omega)⟩,⟨dF (by omega),I⟩,⟨dF (by omega),I⟩,⟨dT (by omega),I⟩,⟨dT (by omega),⟨I,I,I⟩,I,⟨I,⟨I,I⟩,I⟩,⟨I,I⟩,Go.K.c_spec_l1Rd_pick _ _ _ (by omega) (by omega) (by omega) (by omega)⟩,⟨dT (by omega),I⟩,⟨dF (by omega),dT (by omega)⟩,dF (by omega),I⟩,?_⟩
         refine W.cn ?_
         conv=>whnf
         refine ⟨fun _=>?_,noF (dT (by omega))⟩
         refine rg [] ?_
         conv=>whnf
         refine ⟨⟨I,I,I,⟨⟨I,I⟩,I⟩,⟨I,I,(by simp only [lens]; omega)⟩,I,⟨I,I⟩,I⟩,?_⟩
         refine rg [.i ((↑(Prod.fst (k,ds,u)):Int) + (1:Int))] ?_
         conv=>whnf
         refine ⟨⟨I,w64 (by omega) (by omega),I,I⟩,?_⟩
         rotate_left 1
         replace h4:=df h4
         simp only [List.length_map] at h4
         omega
         refine ⟨(k + 1,ds ++ [(k:Int)],u + 2),[some 2,some 4,some 69,some 6],[],⟨rfl,⟨rfl,rfl,rfl,rfl,rfl,rfl,rfl,rfl,I⟩,⟨⟨rfl,⟨rfl,I⟩⟩,⟨⟨rfl,⟨rfl,I⟩⟩,⟨⟨rfl,⟨rfl,⟨(congrArg (fun z=>V.t (T.v (Value.int _ z))) (by show u + 1 + 1 = u + 2; omega)),I⟩⟩⟩,⟨⟨rfl,⟨rfl,⟨rfl,⟨(congrArg (V.own _) (by rw [List.map_append]; rfl)),I⟩⟩⟩⟩,I⟩⟩⟩⟩,I⟩,?_,?_⟩
         rotate_left 1
         (dsimp only; omega)
         dsimp only
         exact ⟨by omega,by rw [List.length_append]; simp; omega,by rw [List.length_append]; simp; omega,by first | omega | (dsimp only; omega),by first | omega | (dsimp only; omega)⟩
        ·conv=>whnf
         refine W.sq ?_
         refine g 35 39 [.b (true),.b (true),.b (true),.b (true),.b (true)] ?_
         conv=>whnf
         refine ⟨⟨I,I,I,I,⟨dT (by omega),I⟩,⟨dT (by omega),I⟩,⟨dT (by omega),I⟩,⟨dT (by omega),I⟩,dT (by omega),I⟩,?_⟩
         refine W.cn ?_
         conv=>whnf
         refine ⟨fun h4=>?_,fun h4=>?_⟩
         replace h4:=dt h4
         simp only [List.length_map] at h4
         refine W.skip ?_
         refine W.sq ?_
         refine W.blk ?_
         refine g 39 55 [.call (V.i (pickV l u (3:Int))) ([rdC l (u + (1:Int)),[]]),.b (false),.b (false),.b (false),.i ((↑(Prod.fst (i,ts,q)):Int) - (1:Int)),.b (false),.b (false),.b (true),.b (true),.call (V.i (pickV l (u + (1:Int)) (2:Int))) ([rdC l (u + (1:Int) + (1:Int)),[]]),.b (true),.b (false),.b (true),.b (false)] ?_
         conv=>whnf
         refine ⟨⟨I,⟨⟨I,I,I⟩,I,⟨I,⟨I,I⟩,I⟩,⟨I,I⟩,Go.K.c_spec_l1Rd_pick _ _ _ (by first | omega | decide | assumption | (simp only [ByteArray.size_extract,List.length_map]; omega) | simp [*]) (by first | omega | decide | assumption | (simp only [ByteArray.size_extract,List.length_map]; omega) | simp [*]) (by first | omega | decide | assumption | (simp only [ByteArray.size_extract,List.length_map]; omega) | simp [*]) (by first | omega | decide | assumption | (simp only [ByteArray.size_extract,List.length_map]; omega) | simp [*])⟩,I,I,⟨dF (by omega),I⟩,⟨dF (by omega),I⟩,⟨dF (by omega),w64 (by omega) (by omega)⟩,⟨dF (by omega),I⟩,⟨dF (by omega),I⟩,⟨dT (by omega),I⟩,⟨dT (by omega),⟨I,I,I⟩,I,⟨I,⟨I,I⟩,I⟩,⟨I,I⟩,Go.K.c_spec_l1Rd_pick _ _ _ (by omega) (by omega) (by omega) (by omega)⟩,⟨dT (by omega),I⟩,⟨dF (by omega),dT (by omega)⟩,dF (by omega),I⟩,?_⟩
         refine W.cn ?_
         conv=>whnf
         refine ⟨noT (dF (by omega)),fun _=>?_⟩
         refine W.skip ?_
         refine rg [.i ((↑(Prod.fst (k,ds,u)):Int) + (1:Int))] ?_
         conv=>whnf
         refine ⟨⟨I,w64 (by omega) (by omega),I,I⟩,?_⟩
         rotate_left 1
         replace h4:=df h4
         simp only [List.length_map] at h4
         omega
         refine ⟨(k + 1,ds,u + 2),[some 2,some 4,some 69,some 6],[],⟨rfl,⟨rfl,rfl,rfl,rfl,rfl,rfl,rfl,rfl,I⟩,⟨⟨rfl,⟨rfl,I⟩⟩,⟨⟨rfl,⟨rfl,I⟩⟩,⟨⟨rfl,⟨rfl,⟨(congrArg (fun z=>V.t (T.v (Value.int _ z))) (by show u + 1 + 1 = u + 2; omega)),I⟩⟩⟩,⟨⟨rfl,⟨rfl,⟨rfl,⟨rfl,I⟩⟩⟩⟩,I⟩⟩⟩⟩,I⟩,?_,?_⟩
         rotate_left 1
         (dsimp only; omega)
         dsimp only
         omega
       ·conv=>whnf
        refine W.sq ?_
        refine g 35 39 [.b (true),.b (true),.b (true),.b (true),.b (true)] ?_
        conv=>whnf
        refine ⟨⟨I,I,I,I,⟨dT (by omega),I⟩,⟨dT (by omega),I⟩,⟨dT (by omega),I⟩,⟨dT (by omega),I⟩,dT (by omega),I⟩,?_⟩
        refine W.cn ?_
        conv=>whnf
        refine ⟨fun h2=>?_,fun h2=>?_⟩
        replace h2:=dt h2
        simp only [List.length_map] at h2
        refine W.skip ?_
        refine W.sq ?_
        refine W.blk ?_
        refine g 39 55 [.call (V.i (pickV l u (3:Int))) ([rdC l (u + (1:Int)),[]]),.b (false),.b (false),.b (false),.i ((↑(Prod.fst (i,ts,q)):Int) - (1:Int)),.b (false),.b (false),.b (false),.b (false),.b (false),.b (false),.b (false),.b (false)] ?_
        conv=>whnf
        refine ⟨⟨I,⟨⟨I,I,I⟩,I,⟨I,⟨I,I⟩,I⟩,⟨I,I⟩,Go.K.c_spec_l1Rd_pick _ _ _ (by first | omega | decide | assumption | (simp only [ByteArray.size_extract,List.length_map]; omega) | simp [*]) (by first | omega | decide | assumption | (simp only [ByteArray.size_extract,List.length_map]; omega) | simp [*]) (by first | omega | decide | assumption | (simp only [ByteArray.size_extract,List.length_map]; omega) | simp [*]) (by first | omega | decide | assumption | (simp only [ByteArray.size_extract,List.length_map]; omega) | simp [*])⟩,I,I,⟨dF (by omega),I⟩,⟨dF (by omega),I⟩,⟨dF (by omega),w64 (by omega) (by omega)⟩,⟨dF (by omega),I⟩,⟨dF (by omega),I⟩,dF (by omega),dF (by omega),dF (by omega),⟨dF (by omega),dF (by omega)⟩,dF (by omega),I⟩,?_⟩
        refine W.cn ?_
        conv=>whnf
        refine ⟨noT (rfl),fun _=>?_⟩
        refine W.skip ?_
        refine rg [.i ((↑(Prod.fst (k,ds,u)):Int) + (1:Int))] ?_
        conv=>whnf
        refine ⟨⟨I,w64 (by omega) (by omega),I,I⟩,?_⟩
        rotate_left 1
        replace h2:=df h2
        simp only [List.length_map] at h2
        omega
        refine ⟨(k + 1,ds,u + 1),[some 2,some 4,some 69,some 6],[],⟨rfl,⟨rfl,rfl,rfl,rfl,rfl,rfl,rfl,rfl,I⟩,⟨⟨rfl,⟨rfl,I⟩⟩,⟨⟨rfl,⟨rfl,I⟩⟩,⟨⟨rfl,⟨rfl,⟨rfl,I⟩⟩⟩,⟨⟨rfl,⟨rfl,⟨rfl,⟨rfl,I⟩⟩⟩⟩,I⟩⟩⟩⟩,I⟩,?_,?_⟩
        rotate_left 1
        (dsimp only; omega)
        dsimp only
        omega
     ·exfalso; omega
    ·conv=>whnf
     refine W.sq ?_
     refine g 35 39 [.b (false),.b (false),.b (false),.b (false),.b (false)] ?_
     conv=>whnf
     refine ⟨⟨I,I,I,I,dF (by omega),dF (by omega),dF (by omega),dF (by omega),dF (by omega),I⟩,?_⟩
     refine W.cn ?_
     conv=>whnf
     refine ⟨noT (rfl),fun _=>?_⟩
     refine W.exit ?_
     refine rg [] ?_
     conv=>whnf
     refine ⟨⟨I,I,I,⟨⟨I,I,I,I⟩,I⟩,⟨I,I,(by simp only [lens]; omega)⟩,I,⟨I,I⟩,I⟩,?_⟩
     refine rg [.i ((↑(Prod.fst (i,ts,q)):Int) + (1:Int))] ?_
     conv=>whnf
     refine ⟨⟨I,w64 (by omega) (by omega),I,I⟩,?_⟩
     refine ⟨(i + 1,ts ++ [(⟨((⟨#[116]⟩:ByteArray) ++ decS i),20,ds⟩:Task)],u),[some 2,some 69,some 4],[],⟨rfl,⟨rfl,rfl,rfl,rfl,rfl,rfl,I⟩,⟨⟨rfl,⟨rfl,I⟩⟩,⟨⟨rfl,⟨rfl,⟨rfl,I⟩⟩⟩,⟨⟨rfl,⟨(congrArg (V.own _) (by rw [List.map_append]; rfl)),I⟩⟩,I⟩⟩⟩,I⟩,?_,?_⟩
     rotate_left 1
     (dsimp only; omega)
     dsimp only
     refine ⟨by first | omega | (dsimp only; omega),by rw [List.length_append]; simp; omega,fun t ht=>?_,by first | omega | (dsimp only; omega),by first | omega | (dsimp only; omega)⟩
     rcases List.mem_append.1 ht with ht | ht
     ·exact hsm t ht
     ·rw [List.mem_singleton.1 ht]
      refine ⟨?_,by first | omega | (dsimp only; omega)⟩
      show (((⟨#[116]⟩:ByteArray) ++ decS i).size) ≤ 64
      rw [ByteArray.size_append]
      have:(⟨#[116]⟩:ByteArray).size = 1:=rfl
      omega
   ·skip
    conv=>whnf
    refine W.sq ?_
    refine g 15 17 [] ?_
    conv=>whnf
    refine ⟨⟨I,I,I,I⟩,?_⟩
    refine W.cn ?_
    conv=>whnf
    refine ⟨fun _=>?_,noF (dT (by omega))⟩
    refine W.skip ?_
    refine W.sq ?_
    refine W.blk ?_
    refine g 17 27 [.call (V.s (decS (↑i:Int))) ([[]]),.s ({ data:=#[(116:UInt8)]:ByteArray } ++ decS (↑i:Int)),.call (V.i (pickV l q (5:Int))) ([rdC l (q + (1:Int)),[]]),.i ((1:Int) + pickV l q (5:Int))] ?_
    conv=>whnf
    refine ⟨⟨I,⟨⟨I,I⟩,I,⟨⟨I,I⟩,I⟩,⟨I,I⟩,(by assumption)⟩,⟨rfl,(by simp only [bsz,bsa,ByteArray.size_append,List.size_toArray,lens]; omega)⟩,I,⟨⟨I,I,I⟩,I,⟨I,⟨I,I⟩,I⟩,⟨I,I⟩,Go.K.c_spec_l1Rd_pick _ _ _ (by first | omega | decide | assumption | (simp only [ByteArray.size_extract,List.length_map]; omega) | simp [*]) (by first | omega | decide | assumption | (simp only [ByteArray.size_extract,List.length_map]; omega) | simp [*]) (by first | omega | decide | assumption | (simp only [ByteArray.size_extract,List.length_map]; omega) | simp [*]) (by first | omega | decide | assumption | (simp only [ByteArray.size_extract,List.length_map]; omega) | simp [*])⟩,w64 (by omega) (by omega),I,I,⟨I,I,I,I⟩,I⟩,?_⟩
    refine W.sq ?_
    refine g 27 29 [.call (V.i (pickV l (q + (1:Int)) (8:Int))) ([rdC l (q + (1:Int) + (1:Int)),[]])] ?_
    conv=>whnf
    refine ⟨⟨I,⟨⟨I,I,I⟩,I,⟨I,⟨I,I⟩,I⟩,⟨I,I⟩,Go.K.c_spec_l1Rd_pick _ _ _ (by omega) (by omega) (by omega) (by omega)⟩,I,I⟩,?_⟩
    refine W.cn ?_
    conv=>whnf
    refine ⟨noT (dF (by omega)),fun _=>?_⟩
    refine W.skip ?_
    refine W.sq ?_
    refine g 29 30 [] ?_
    conv=>whnf
    refine ⟨⟨I,I⟩,?_⟩
    refine W.blk ?_
    refine W.lp (fun s (y:Nat × List Int × Int)=>⟨[(0,s.s 0),(2,s.s 2),(3,s.s 3),(4,s.s 4),(5,s.s 5),(6,s.s 6),(7,.i y.1),(8,s.s 8)],[(2,[s.c 2 0]),(4,[s.c 4 0]),(69,[.t (u8s l),.t (.i y.2.2)]),(6,[.t (.s ((⟨#[116]⟩:ByteArray) ++ decS i)),.t (.i (1 + pickV l q 5)),.own [false] (y.2.1.map intT)])],[]⟩) (fun (y:Nat × List Int × Int)=>y.1 ≤ i ∧ y.2.1.length ≤ y.1 ∧ y.2.1.length ≤ 8 ∧ q + 2 ≤ y.2.2 ∧ y.2.2 ≤ q + 2 + 2 * y.1) (fun (y:Nat × List Int × Int)=>i - y.1) ((0,[],q + 2)) [some 2,some 4,some 69,some 6] [] ⟨rfl,⟨rfl,rfl,rfl,rfl,rfl,rfl,rfl,rfl,I⟩,⟨⟨rfl,⟨rfl,I⟩⟩,⟨⟨rfl,⟨rfl,I⟩⟩,⟨⟨rfl,⟨rfl,⟨(congrArg (fun z=>V.t (T.v (Value.int _ z))) (by show q + 1 + 1 = q + 2; omega)),I⟩⟩⟩,⟨⟨rfl,⟨rfl,⟨rfl,⟨rfl,I⟩⟩⟩⟩,I⟩⟩⟩⟩,I⟩ (by simp) ?_
    rintro ⟨k,ds,u⟩ ⟨g1,g2,g3,g4,g5⟩
    dsimp only at g1 g2 g3 g4 g5
    have p3:=pick_rng l u 3
    have p2:=pick_rng l (u + 1) 2
    by_cases hk:k < i
    ·by_cases hd:ds.length < 8
     ·by_cases h3:pickV l u 3 = 0
      ·conv=>whnf
       refine W.sq ?_
       refine g 35 39 [.b (true),.b (true),.b (true),.b (true),.b (true)] ?_
       conv=>whnf
       refine ⟨⟨I,I,I,I,⟨dT (by omega),I⟩,⟨dT (by omega),I⟩,⟨dT (by omega),I⟩,⟨dT (by omega),I⟩,dT (by omega),I⟩,?_⟩
       refine W.cn ?_
       conv=>whnf
       refine ⟨fun h2=>?_,fun h2=>?_⟩
       replace h2:=dt h2
       simp only [List.length_map] at h2
       refine W.skip ?_
       refine W.sq ?_
       refine W.blk ?_
       refine g 39 55 [.call (V.i (pickV l u (3:Int))) ([rdC l (u + (1:Int)),[]]),.b (true),.b (true),.b (true),.b (true),.b (true),.b (false),.b (false),.b (false),.b (true),.b (true)] ?_
       conv=>whnf
       refine ⟨⟨I,⟨⟨I,I,I⟩,I,⟨I,⟨I,I⟩,I⟩,⟨I,I⟩,Go.K.c_spec_l1Rd_pick _ _ _ (by first | omega | decide | assumption | (simp only [ByteArray.size_extract,List.length_map]; omega) | simp [*]) (by first | omega | decide | assumption | (simp only [ByteArray.size_extract,List.length_map]; omega) | simp [*]) (by first | omega | decide | assumption | (simp only [ByteArray.size_extract,List.length_map]; omega) | simp [*]) (by first | omega | decide | assumption | (simp only [ByteArray.size_extract,List.length_map]; omega) | simp [*])⟩,I,I,dT (by omega),dT (by omega),dT (by omega),dT (by omega),dT (by omega),I,I,I,dT (by omega),dT (by omega),I⟩,?_⟩
       refine W.cn ?_
       conv=>whnf
       refine ⟨fun _=>?_,noF (rfl)⟩
       refine rg [] ?_
       conv=>whnf
       refine ⟨⟨I,I,I,⟨⟨I,I⟩,I⟩,⟨I,I,(by simp only [lens]; omega)⟩,I,⟨I,I⟩,I⟩,?_⟩
       refine rg [.i ((↑(Prod.fst (k,ds,u)):Int) + (1:Int))] ?_
       conv=>whnf
       refine ⟨⟨I,w64 (by omega) (by omega),I,I⟩,?_⟩
       rotate_left 1
       replace h2:=df h2
       simp only [List.length_map] at h2
       omega
       refine ⟨(k + 1,ds ++ [(k:Int)],u + 1),[some 2,some 4,some 69,some 6],[],⟨rfl,⟨rfl,rfl,rfl,rfl,rfl,rfl,rfl,rfl,I⟩,⟨⟨rfl,⟨rfl,I⟩⟩,⟨⟨rfl,⟨rfl,I⟩⟩,⟨⟨rfl,⟨rfl,⟨rfl,I⟩⟩⟩,⟨⟨rfl,⟨rfl,⟨rfl,⟨(congrArg (V.own _) (by rw [List.map_append]; rfl)),I⟩⟩⟩⟩,I⟩⟩⟩⟩,I⟩,?_,?_⟩
       rotate_left 1
       (dsimp only; omega)
       dsimp only
       exact ⟨by omega,by rw [List.length_append]; simp; omega,by rw [List.length_append]; simp; omega,by first | omega | (dsimp only; omega),by first | omega | (dsimp only; omega)⟩
      ·by_cases hki:(k:Int) = (i:Int) - 1
       ·by_cases h2:pickV l (u + 1) 2 = 0
        ·conv=>whnf
         refine W.sq ?_
         refine g 35 39 [.b (true),.b (true),.b (true),.b (true),.b (true)] ?_
         conv=>whnf
         refine ⟨⟨I,I,I,I,⟨dT (by omega),I⟩,⟨dT (by omega),I⟩,⟨dT (by omega),I⟩,⟨dT (by omega),I⟩,dT (by omega),I⟩,?_⟩
         refine W.cn ?_
         conv=>whnf
         refine ⟨fun h4=>?_,fun h4=>?_⟩
         replace h4:=dt h4
         simp only [List.length_map] at h4
         refine W.skip ?_
         refine W.sq ?_
         refine W.blk ?_
         refine g 39 55 [.call (V.i (pickV l u (3:Int))) ([rdC l (u + (1:Int)),[]]),.b (false),.b (false),.b (false),.i ((↑(Prod.fst (i,ts,q)):Int) - (1:Int)),.b (false),.b (false),.b (true),.b (true),.call (V.i (pickV l (u + (1:Int)) (2:Int))) ([rdC l (u + (1:Int) + (1:Int)),[]]),.b (true),.b (false),.b (true),.b (false)] ?_
         conv=>whnf
         refine ⟨⟨I,⟨⟨I,I,I⟩,I,⟨I,⟨I,I⟩,I⟩,⟨I,I⟩,Go.K.c_spec_l1Rd_pick _ _ _ (by first | omega | decide | assumption | (simp only [ByteArray.size_extract,List.length_map]; omega) | simp [*]) (by first | omega | decide | assumption | (simp only [ByteArray.size_extract,List.length_map]; omega) | simp [*]) (by first | omega | decide | assumption | (simp only [ByteArray.size_extract,List.length_map]; omega) | simp [*]) (by first | omega | decide | assumption | (simp only [ByteArray.size_extract,List.length_map]; omega) | simp [*])⟩,I,I,⟨dF (by omega),I⟩,⟨dF (by omega),I⟩,⟨dF (by omega),w64 (by omega) (by omega)⟩,⟨dF (by omega),I⟩,⟨dF (by omega),I⟩,⟨dT (by omega),I⟩,⟨dT (by omega),⟨I,I,I⟩,I,⟨I,⟨I,I⟩,I⟩,⟨I,I⟩,Go.K.c_spec_l1Rd_pick _ _ _ (by omega) (by omega) (by omega) (by omega)⟩,⟨dT (by omega),I⟩,⟨dF (by omega),dT (by omega)⟩,dF (by omega),I⟩,?_⟩
         refine W.cn ?_
         conv=>whnf
         refine ⟨fun _=>?_,noF (dT (by omega))⟩
         refine rg [] ?_
         conv=>whnf
         refine ⟨⟨I,I,I,⟨⟨I,I⟩,I⟩,⟨I,I,(by simp only [lens]; omega)⟩,I,⟨I,I⟩,I⟩,?_⟩
         refine rg [.i ((↑(Prod.fst (k,ds,u)):Int) + (1:Int))] ?_
         conv=>whnf
         refine ⟨⟨I,w64 (by omega) (by omega),I,I⟩,?_⟩
         rotate_left 1
         replace h4:=df h4
         simp only [List.length_map] at h4
         omega
         refine ⟨(k + 1,ds ++ [(k:Int)],u + 2),[some 2,some 4,some 69,some 6],[],⟨rfl,⟨rfl,rfl,rfl,rfl,rfl,rfl,rfl,rfl,I⟩,⟨⟨rfl,⟨rfl,I⟩⟩,⟨⟨rfl,⟨rfl,I⟩⟩,⟨⟨rfl,⟨rfl,⟨(congrArg (fun z=>V.t (T.v (Value.int _ z))) (by show u + 1 + 1 = u + 2; omega)),I⟩⟩⟩,⟨⟨rfl,⟨rfl,⟨rfl,⟨(congrArg (V.own _) (by rw [List.map_append]; rfl)),I⟩⟩⟩⟩,I⟩⟩⟩⟩,I⟩,?_,?_⟩
         rotate_left 1
         (dsimp only; omega)
         dsimp only
         exact ⟨by omega,by rw [List.length_append]; simp; omega,by rw [List.length_append]; simp; omega,by first | omega | (dsimp only; omega),by first | omega | (dsimp only; omega)⟩
        ·conv=>whnf
         refine W.sq ?_
         refine g 35 39 [.b (true),.b (true),.b (true),.b (true),.b (true)] ?_
         conv=>whnf
         refine ⟨⟨I,I,I,I,⟨dT (by omega),I⟩,⟨dT (by omega),I⟩,⟨dT (by omega),I⟩,⟨dT (by omega),I⟩,dT (by omega),I⟩,?_⟩
         refine W.cn ?_
         conv=>whnf
         refine ⟨fun h4=>?_,fun h4=>?_⟩
         replace h4:=dt h4
         simp only [List.length_map] at h4
         refine W.skip ?_
         refine W.sq ?_
         refine W.blk ?_
         refine g 39 55 [.call (V.i (pickV l u (3:Int))) ([rdC l (u + (1:Int)),[]]),.b (false),.b (false),.b (false),.i ((↑(Prod.fst (i,ts,q)):Int) - (1:Int)),.b (false),.b (false),.b (true),.b (true),.call (V.i (pickV l (u + (1:Int)) (2:Int))) ([rdC l (u + (1:Int) + (1:Int)),[]]),.b (true),.b (false),.b (true),.b (false)] ?_
         conv=>whnf
         refine ⟨⟨I,⟨⟨I,I,I⟩,I,⟨I,⟨I,I⟩,I⟩,⟨I,I⟩,Go.K.c_spec_l1Rd_pick _ _ _ (by first | omega | decide | assumption | (simp only [ByteArray.size_extract,List.length_map]; omega) | simp [*]) (by first | omega | decide | assumption | (simp only [ByteArray.size_extract,List.length_map]; omega) | simp [*]) (by first | omega | decide | assumption | (simp only [ByteArray.size_extract,List.length_map]; omega) | simp [*]) (by first | omega | decide | assumption | (simp only [ByteArray.size_extract,List.length_map]; omega) | simp [*])⟩,I,I,⟨dF (by omega),I⟩,⟨dF (by omega),I⟩,⟨dF (by omega),w64 (by omega) (by omega)⟩,⟨dF (by omega),I⟩,⟨dF (by omega),I⟩,⟨dT (by omega),I⟩,⟨dT (by omega),⟨I,I,I⟩,I,⟨I,⟨I,I⟩,I⟩,⟨I,I⟩,Go.K.c_spec_l1Rd_pick _ _ _ (by omega) (by omega) (by omega) (by omega)⟩,⟨dT (by omega),I⟩,⟨dF (by omega),dT (by omega)⟩,dF (by omega),I⟩,?_⟩
         refine W.cn ?_
         conv=>whnf
         refine ⟨noT (dF (by omega)),fun _=>?_⟩
         refine W.skip ?_
         refine rg [.i ((↑(Prod.fst (k,ds,u)):Int) + (1:Int))] ?_
         conv=>whnf
         refine ⟨⟨I,w64 (by omega) (by omega),I,I⟩,?_⟩
         rotate_left 1
         replace h4:=df h4
         simp only [List.length_map] at h4
         omega
         refine ⟨(k + 1,ds,u + 2),[some 2,some 4,some 69,some 6],[],⟨rfl,⟨rfl,rfl,rfl,rfl,rfl,rfl,rfl,rfl,I⟩,⟨⟨rfl,⟨rfl,I⟩⟩,⟨⟨rfl,⟨rfl,I⟩⟩,⟨⟨rfl,⟨rfl,⟨(congrArg (fun z=>V.t (T.v (Value.int _ z))) (by show u + 1 + 1 = u + 2; omega)),I⟩⟩⟩,⟨⟨rfl,⟨rfl,⟨rfl,⟨rfl,I⟩⟩⟩⟩,I⟩⟩⟩⟩,I⟩,?_,?_⟩
         rotate_left 1
         (dsimp only; omega)
         dsimp only
         omega
       ·conv=>whnf
        refine W.sq ?_
        refine g 35 39 [.b (true),.b (true),.b (true),.b (true),.b (true)] ?_
        conv=>whnf
        refine ⟨⟨I,I,I,I,⟨dT (by omega),I⟩,⟨dT (by omega),I⟩,⟨dT (by omega),I⟩,⟨dT (by omega),I⟩,dT (by omega),I⟩,?_⟩
        refine W.cn ?_
        conv=>whnf
        refine ⟨fun h2=>?_,fun h2=>?_⟩
        replace h2:=dt h2
        simp only [List.length_map] at h2
        refine W.skip ?_
        refine W.sq ?_
        refine W.blk ?_
        refine g 39 55 [.call (V.i (pickV l u (3:Int))) ([rdC l (u + (1:Int)),[]]),.b (false),.b (false),.b (false),.i ((↑(Prod.fst (i,ts,q)):Int) - (1:Int)),.b (false),.b (false),.b (false),.b (false),.b (false),.b (false),.b (false),.b (false)] ?_
        conv=>whnf
        refine ⟨⟨I,⟨⟨I,I,I⟩,I,⟨I,⟨I,I⟩,I⟩,⟨I,I⟩,Go.K.c_spec_l1Rd_pick _ _ _ (by first | omega | decide | assumption | (simp only [ByteArray.size_extract,List.length_map]; omega) | simp [*]) (by first | omega | decide | assumption | (simp only [ByteArray.size_extract,List.length_map]; omega) | simp [*]) (by first | omega | decide | assumption | (simp only [ByteArray.size_extract,List.length_map]; omega) | simp [*]) (by first | omega | decide | assumption | (simp only [ByteArray.size_extract,List.length_map]; omega) | simp [*])⟩,I,I,⟨dF (by omega),I⟩,⟨dF (by omega),I⟩,⟨dF (by omega),w64 (by omega) (by omega)⟩,⟨dF (by omega),I⟩,⟨dF (by omega),I⟩,dF (by omega),dF (by omega),dF (by omega),⟨dF (by omega),dF (by omega)⟩,dF (by omega),I⟩,?_⟩
        refine W.cn ?_
        conv=>whnf
        refine ⟨noT (rfl),fun _=>?_⟩
        refine W.skip ?_
        refine rg [.i ((↑(Prod.fst (k,ds,u)):Int) + (1:Int))] ?_
        conv=>whnf
        refine ⟨⟨I,w64 (by omega) (by omega),I,I⟩,?_⟩
        rotate_left 1
        replace h2:=df h2
        simp only [List.length_map] at h2
        omega
        refine ⟨(k + 1,ds,u + 1),[some 2,some 4,some 69,some 6],[],⟨rfl,⟨rfl,rfl,rfl,rfl,rfl,rfl,rfl,rfl,I⟩,⟨⟨rfl,⟨rfl,I⟩⟩,⟨⟨rfl,⟨rfl,I⟩⟩,⟨⟨rfl,⟨rfl,⟨rfl,I⟩⟩⟩,⟨⟨rfl,⟨rfl,⟨rfl,⟨rfl,I⟩⟩⟩⟩,I⟩⟩⟩⟩,I⟩,?_,?_⟩
        rotate_left 1
        (dsimp only; omega)
        dsimp only
        omega
     ·exfalso; omega
    ·conv=>whnf
     refine W.sq ?_
     refine g 35 39 [.b (false),.b (false),.b (false),.b (false),.b (false)] ?_
     conv=>whnf
     refine ⟨⟨I,I,I,I,dF (by omega),dF (by omega),dF (by omega),dF (by omega),dF (by omega),I⟩,?_⟩
     refine W.cn ?_
     conv=>whnf
     refine ⟨noT (rfl),fun _=>?_⟩
     refine W.exit ?_
     refine rg [] ?_
     conv=>whnf
     refine ⟨⟨I,I,I,⟨⟨I,I,I,I⟩,I⟩,⟨I,I,(by simp only [lens]; omega)⟩,I,⟨I,I⟩,I⟩,?_⟩
     refine rg [.i ((↑(Prod.fst (i,ts,q)):Int) + (1:Int))] ?_
     conv=>whnf
     refine ⟨⟨I,w64 (by omega) (by omega),I,I⟩,?_⟩
     refine ⟨(i + 1,ts ++ [(⟨((⟨#[116]⟩:ByteArray) ++ decS i),1 + pickV l q 5,ds⟩:Task)],u),[some 2,some 69,some 4],[],⟨rfl,⟨rfl,rfl,rfl,rfl,rfl,rfl,I⟩,⟨⟨rfl,⟨rfl,I⟩⟩,⟨⟨rfl,⟨rfl,⟨rfl,I⟩⟩⟩,⟨⟨rfl,⟨(congrArg (V.own _) (by rw [List.map_append]; rfl)),I⟩⟩,I⟩⟩⟩,I⟩,?_,?_⟩
     rotate_left 1
     (dsimp only; omega)
     dsimp only
     refine ⟨by first | omega | (dsimp only; omega),by rw [List.length_append]; simp; omega,fun t ht=>?_,by first | omega | (dsimp only; omega),by first | omega | (dsimp only; omega)⟩
     rcases List.mem_append.1 ht with ht | ht
     ·exact hsm t ht
     ·rw [List.mem_singleton.1 ht]
      refine ⟨?_,by first | omega | (dsimp only; omega)⟩
      show (((⟨#[116]⟩:ByteArray) ++ decS i).size) ≤ 64
      rw [ByteArray.size_append]
      have:(⟨#[116]⟩:ByteArray).size = 1:=rfl
      omega
  ·conv=>whnf
   refine W.sq ?_
   refine g 15 17 [] ?_
   conv=>whnf
   refine ⟨⟨I,I,I,I⟩,?_⟩
   refine W.cn ?_
   conv=>whnf
   refine ⟨noT (dF (by omega)),fun _=>?_⟩
   refine W.exit ?_
   refine g 3 69 [] ?_
   conv=>whnf
   refine ⟨⟨I,⟨I,I⟩,I⟩,?_⟩
   refine W.ret ?_
   refine EndsW.rt ?_
   conv=>whnf
   refine ⟨⟨I,I,I⟩,?_⟩
   exact ⟨⟨ts⟩,q,rfl,rfl,⟨by first | omega | (dsimp only; omega),hsm⟩,by first | omega | (dsimp only; omega),by omega,by omega⟩
theorem ex_Draw' (l:List Int) (pos:Int) (h:u8ok l ∧ 0 ≤ pos ∧ pos ≤ 1000000):∃ x:Plan × Int,F n_spec_l1Draw [.ptr (rdC l pos)] (planO x.1) [rdC l x.2] ∧ planSmall x.1 ∧ 1 ≤ x.1.tasks.length ∧ pos ≤ x.2 ∧ x.2 ≤ pos + 4000:=by
 obtain ⟨res,outs,⟨p,pos2,rfl,rfl,h1,h2,h3,h4⟩,hF⟩:=ex_Draw l pos h.1 h.2.1 h.2.2
 exact ⟨(p,pos2),hF,h1,h2,h3,h4⟩
open Classical in
/-- The plan that is drawn, and the place behind it. -/
noncomputable def drawP (l:List Int) (pos:Int):Plan × Int:=if h:u8ok l ∧ 0 ≤ pos ∧ pos ≤ 1000000 then (ex_Draw' l pos h).choose else (⟨[⟨emp,0,[]⟩]⟩,pos)
theorem c_spec_l1Draw (l:List Int) (pos:Int) (hl:u8ok l) (h0:0 ≤ pos) (h1:pos ≤ 1000000):F n_spec_l1Draw [.ptr (rdC l pos)] (planO (drawP l pos).1) [rdC l (drawP l pos).2]:=by
 have h:u8ok l ∧ 0 ≤ pos ∧ pos ≤ 1000000:=⟨hl,h0,h1⟩
 rw [drawP,dif_pos h]
 exact (ex_Draw' l pos h).choose_spec.1
theorem draw_ok (l:List Int) (pos:Int):planSmall (drawP l pos).1 ∧ 1 ≤ (drawP l pos).1.tasks.length ∧ pos ≤ (drawP l pos).2 ∧ (drawP l pos).2 ≤ pos + 4000:=by
 unfold drawP
 split
 ·rename_i h; exact (ex_Draw' l pos h).choose_spec.2
 ·refine ⟨⟨by show 1 ≤ 64; omega,fun t ht=>?_⟩,Nat.le_refl _,Int.le_refl _,by dsimp only; omega⟩
  rw [List.mem_singleton.1 ht]
  have:emp.size = 0:=rfl
  exact ⟨by dsimp only; omega,Nat.zero_le _⟩
theorem ex_Many' (s:ByteArray) (n:Int) (h:0 ≤ n ∧ n ≤ 64 ∧ s.size ≤ 64):∃ t:ByteArray,F n_spec_l1Many [.val (.s s),.val (.i n)] (.s t) [[],[]] ∧ (t.size:Int) ≤ 4096:=by
 obtain ⟨res,outs,⟨t,rfl,rfl,h1⟩,hF⟩:=ex_Many s n h.1 h.2.1 h.2.2
 exact ⟨t,hF,h1⟩
open Classical in
noncomputable def manyS (s:ByteArray) (n:Int):ByteArray:=if h:0 ≤ n ∧ n ≤ 64 ∧ s.size ≤ 64 then (ex_Many' s n h).choose else emp
theorem c_spec_l1Many (s:ByteArray) (n:Int) (h0:0 ≤ n) (h1:n ≤ 64) (hs:s.size ≤ 64):F n_spec_l1Many [.val (.s s),.val (.i n)] (.s (manyS s n)) [[],[]]:=by
 rw [manyS,dif_pos ⟨h0,h1,hs⟩]
 exact (ex_Many' s n ⟨h0,h1,hs⟩).choose_spec.1
theorem many_size (s:ByteArray) (n:Int):(manyS s n).size ≤ 4096:=by
 unfold manyS
 split
 ·rename_i h; have:=(ex_Many' s n h).choose_spec.2; omega
 ·show emp.size ≤ 4096; decide
end Go.K
end
section
set_option linter.unusedVariables false
set_option linter.unusedSimpArgs false
set_option maxHeartbeats 4000000
set_option maxRecDepth 20000
open Go Go.Tm Go.Proofs
namespace Go.K
def taskMid (t:Task):Prop:=t.name.size ≤ 8192 ∧ t.deps.length ≤ 128
def planMid (p:Plan):Prop:=p.tasks.length ≤ 64 ∧ ∀ t ∈ p.tasks,taskMid t
theorem small_mid {p:Plan} (h:planSmall p):planMid p:=⟨h.1,fun t ht=>⟨by have:=(h.2 t ht).1; omega,by have:=(h.2 t ht).2; omega⟩⟩
theorem mid_wf {p:Plan} (h:planMid p):planWf p:=⟨by have:=h.1; omega,fun t ht=>⟨by have:=(h.2 t ht).1; omega,by have:=(h.2 t ht).2; omega⟩⟩
theorem mid_set {p:Plan} (h:planSmall p) {n:Nat} {t:Task} (ht:taskMid t):planMid ⟨p.tasks.set n t⟩:=by
 refine ⟨by dsimp only; rw [List.length_set]; exact h.1,fun y hy=>?_⟩
 rcases List.mem_or_eq_of_mem_set hy with hy | rfl
 ·exact (small_mid h).2 y hy
 ·exact ht
theorem mid_set' {ts:List Task} (h1:ts.length ≤ 64) (h2:∀ t ∈ ts,taskMid t) {n:Nat} {t:Task} (ht:taskMid t):planMid ⟨ts.set n t⟩:=by
 refine ⟨by dsimp only; rw [List.length_set]; exact h1,fun y hy=>?_⟩
 rcases List.mem_or_eq_of_mem_set hy with hy | rfl
 ·exact h2 y hy
 ·exact ht
theorem new_mid (c:ByteArray) (hc:c.size = 1) (i:Int):taskMid ⟨c ++ decS i,1,[]⟩:=by
 have:=decS_size i
 exact ⟨by dsimp only; rw [ByteArray.size_append]; omega,Nat.zero_le _⟩
theorem app_mid {ts:List Task} {x:Task} (h:∀ t ∈ ts,taskMid t) (hx:taskMid x):∀ t ∈ ts ++ [x],taskMid t:=fun t ht=>by
 rcases List.mem_append.1 ht with ht | ht
 ·exact h t ht
 ·rw [List.mem_singleton.1 ht]; exact hx
theorem len_one {α:Type} (xs:List α) (x:α):(xs ++ [x]).length = xs.length + 1:=by simp
theorem map_set_task {ts:List Task} {n:Nat} {t:Task}:(ts.map taskT).set n (taskT t) = (ts.set n t).map taskT:=by rw [List.map_set]
theorem app_one {xs:List Int} {x:Int}:(xs ++ [x]).map intT = xs.map intT ++ [intT x]:=by rw [List.map_append]; rfl
theorem pick_str (xs:List ByteArray) (k:Int) (h0:0 ≤ k) (h1:k < xs.length):∃ x,x ∈ xs ∧ (xs.map strT)[k.toNat]? = some (strT x):=by
 obtain ⟨x,hx⟩:=some_at (xs:=xs) (n:=k.toNat) (by omega)
 exact ⟨x,List.mem_of_getElem? hx,by rw [List.getElem?_map,hx]; rfl⟩
theorem pick_int (xs:List Int) (k:Int) (h0:0 ≤ k) (h1:k < xs.length):∃ x,x ∈ xs ∧ (xs.map intT)[k.toNat]? = some (intT x):=by
 obtain ⟨x,hx⟩:=some_at (xs:=xs) (n:=k.toNat) (by omega)
 exact ⟨x,List.mem_of_getElem? hx,by rw [List.getElem?_map,hx]; rfl⟩
abbrev SpoilOk (l:List Int) (pos:Int):V → List (List V) → Prop:=fun res outs=>∃ p pos2,res = planO p ∧ outs = [rdC l pos2,[]] ∧ planMid p ∧ pos ≤ pos2 ∧ pos2 ≤ pos + 100
theorem ex_Spoil (l:List Int) (pos:Int) (p:Plan) (hp:planSmall p) (hl:u8ok l) (h0:0 ≤ pos) (h1:pos ≤ 1000000):∃ res outs,SpoilOk l pos res outs ∧ F n_spec_l1Spoil [.ptr (rdC l pos),.val (planO p)] res outs:=by
 have hpp:=hp
 obtain ⟨hp1,hp2⟩:=hpp
 have cpl:=c_spec_l1Plan p hp
 have r0:=pick_rng l pos p.tasks.length
 have r1:=pick_rng l (pos + 1) 7
 by_cases hz:p.tasks.length = 0
 ·refine x_spec_l1Spoil ?_
  conv=>whnf
  refine g 0 0 [] ?_
  conv=>whnf
  refine ⟨⟨⟨I,I⟩,I,I⟩,?_⟩
  refine g 9 11 [.call (planO p) ([[]])] ?_
  conv=>whnf
  refine ⟨⟨I,⟨⟨I,I⟩,I,⟨⟨I,I⟩,I⟩,⟨I,I⟩,(by assumption)⟩,I,⟨I,I⟩,I⟩,?_⟩
  refine g 11 16 [.call (V.i (pickV l pos (↑(List.length (List.map taskT (Plan.tasks p))):Int))) ([rdC l (pos + (1:Int)),[]])] ?_
  conv=>whnf
  refine ⟨⟨I,I,I,I,⟨⟨I,I,I⟩,I,⟨I,⟨I,I⟩,I⟩,⟨I,I⟩,Go.K.c_spec_l1Rd_pick _ _ _ (by first | omega | decide | assumption | (simp only [ByteArray.size_extract,List.length_map]; omega) | simp [*]) (by first | omega | decide | assumption | (simp only [ByteArray.size_extract,List.length_map]; omega) | simp [*]) (by first | omega | decide | assumption | (simp only [ByteArray.size_extract,List.length_map]; omega) | simp [*]) (by first | omega | decide | assumption | (simp only [ByteArray.size_extract,List.length_map]; omega) | simp [*])⟩,I,I⟩,?_⟩
  refine W.sq ?_
  refine g 16 19 [] ?_
  conv=>whnf
  refine ⟨⟨I,I,I,I,I⟩,?_⟩
  refine W.cn ?_
  conv=>whnf
  refine ⟨fun _=>?_,noF (by simp [*])⟩
  refine g 19 21 [] ?_
  conv=>whnf
  refine ⟨⟨I,⟨I,I⟩,I⟩,?_⟩
  refine W.ret ?_
  refine EndsW.rt ?_
  conv=>whnf
  refine ⟨⟨I,I,I⟩,?_⟩
  exact ⟨p,_,rfl,rfl,small_mid hp,by omega,by omega⟩
 ·obtain ⟨kk,hkk⟩:=Int.eq_ofNat_of_zero_le r0.1
  obtain ⟨t,ht⟩:=some_at (xs:=p.tasks) (n:=kk) (by omega)
  have ck:F n_spec_l1Rd_pick [.ptr (rdC l pos),.val (.i ((p.tasks.map taskT).length:Int))] (.i (kk:Int)) [rdC l (pos + 1),[]]:=by
   have:=c_spec_l1Rd_pick l pos p.tasks.length hl h0 (by omega) (by omega)
   rw [hkk] at this
   rw [List.length_map]; exact this
  have hkl:kk < p.tasks.length:=by omega
  have hts:=hp2 t (List.mem_of_getElem? ht)
  obtain ⟨t0,ht0⟩:=some_at (xs:=p.tasks) (n:=0) (by omega)
  have hts0:=hp2 t0 (List.mem_of_getElem? ht0)
  by_cases c0:pickV l (pos + 1) 7 = 0
  ·have r2:=pick_rng l (pos + 1 + 1) 5
   have m1:=many_size ⟨#[110]⟩ 30
   have m2:=many_size ⟨#[110]⟩ 31
   obtain ⟨x,hx1,hx2⟩:=pick_str [⟨#[]⟩,⟨#[97,32,98]⟩,t0.name,manyS ⟨#[110]⟩ 30,manyS ⟨#[110]⟩ 31] (pickV l (pos + 1 + 1) 5) r2.1 (by show _ < (5:Int); omega)
   have hx3:([[T.s ⟨#[]⟩],[T.s ⟨#[97,32,98]⟩],[T.s t0.name],[T.s (manyS ⟨#[110]⟩ 30)],[T.s (manyS ⟨#[110]⟩ 31)]]:List (List T))[(pickV l (pos + 1 + 1) 5).toNat]? = some [T.s x]:=hx2
   refine x_spec_l1Spoil ?_
   conv=>whnf
   refine g 0 0 [] ?_
   conv=>whnf
   refine ⟨⟨⟨I,I⟩,I,I⟩,?_⟩
   refine g 9 11 [.call (planO p) ([[]])] ?_
   conv=>whnf
   refine ⟨⟨I,⟨⟨I,I⟩,I,⟨⟨I,I⟩,I⟩,⟨I,I⟩,(by assumption)⟩,I,⟨I,I⟩,I⟩,?_⟩
   refine g 11 16 [.call (V.i (↑kk:Int)) ([rdC l (pos + (1:Int)),[]])] ?_
   conv=>whnf
   refine ⟨⟨I,I,I,I,⟨⟨I,I,I⟩,I,⟨I,⟨I,I⟩,I⟩,⟨I,I⟩,(by assumption)⟩,I,I⟩,?_⟩
   refine W.sq ?_
   refine g 16 19 [] ?_
   conv=>whnf
   refine ⟨⟨I,I,I,I,I⟩,?_⟩
   refine W.cn ?_
   conv=>whnf
   refine ⟨noT (by simp [*]),fun _=>?_⟩
   refine W.skip ?_
   refine W.sq ?_
   refine g 19 22 [.call (V.i (pickV l (pos + (1:Int)) (7:Int))) ([rdC l (pos + (1:Int) + (1:Int)),[]])] ?_
   conv=>whnf
   refine ⟨⟨I,⟨⟨I,I,I⟩,I,⟨I,⟨I,I⟩,I⟩,⟨I,I⟩,Go.K.c_spec_l1Rd_pick _ _ _ (by omega) (by omega) (by omega) (by omega)⟩,I⟩,?_⟩
   refine W.blk ?_
   refine g 36 37 [] ?_
   conv=>whnf
   refine ⟨⟨I,I,I⟩,?_⟩
   refine W.cn ?_
   conv=>whnf
   refine ⟨fun _=>?_,noF (dT (by omega))⟩
   refine rgd [[],[],[],[],[],[.n ((0:Nat))],[],[.x (taskT t0)],[.call (V.s (manyS { data:=#[(110:UInt8)]:ByteArray } (30:Int))) ([[],[]])],[.call (V.s (manyS { data:=#[(110:UInt8)]:ByteArray } (31:Int))) ([[],[]])],[],[],[.call (V.i (pickV l (pos + (1:Int) + (1:Int)) (5:Int))) ([rdC l (pos + (1:Int) + (1:Int) + (1:Int)),[]])],[.n (Int.toNat (pickV l (pos + (1:Int) + (1:Int)) (5:Int)))],[.x ([T.s x])],[.n (kk)],[],[.x (taskT t)]] ?_
   conv=>whnf
   refine ⟨⟨I,I,I,I,I,⟨rfl,(by simp only [lens]; omega)⟩,I,ixl (by assumption),⟨⟨I,I,I⟩,I,⟨⟨I,I⟩,⟨I,I⟩,I⟩,⟨I,I⟩,Go.K.c_spec_l1Many _ _ (by decide) (by decide) (by decide)⟩,⟨⟨I,I,I⟩,I,⟨⟨I,I⟩,⟨I,I⟩,I⟩,⟨I,I⟩,Go.K.c_spec_l1Many _ _ (by decide) (by decide) (by decide)⟩,⟨⟨I,I⟩,⟨I,I⟩,⟨I,I⟩,⟨I,I⟩,⟨I,I⟩,I⟩,I,⟨⟨I,I,I⟩,I,⟨I,⟨I,I⟩,I⟩,⟨I,I⟩,Go.K.c_spec_l1Rd_pick _ _ _ (by omega) (by omega) (by omega) (by omega)⟩,⟨(by omega),(by simp only [lens]; omega)⟩,(by assumption),⟨rfl,(by simp only [lens]; omega)⟩,I,⟨⟨I,I⟩,ixl (by assumption)⟩,I⟩,by kernel_rfl,?_⟩
   refine g 5 140 [] ?_
   conv=>whnf
   refine ⟨⟨I,⟨I,I⟩,I⟩,?_⟩
   refine W.ret ?_
   refine EndsW.rt ?_
   conv=>whnf
   refine ⟨⟨I,I,I⟩,?_⟩
   have hxs:x.size ≤ 8192:=by
    have e1:(⟨#[]⟩:ByteArray).size = 0:=rfl
    have e2:(⟨#[97,32,98]⟩:ByteArray).size = 3:=rfl
    simp only [List.mem_cons,List.not_mem_nil,or_false] at hx1
    rcases hx1 with rfl | rfl | rfl | rfl | rfl <;> omega
   exact ⟨⟨p.tasks.set kk ⟨x,t.cost,t.deps⟩⟩,_,congrArg (fun z=>V.agg [V.own taskK z]) (map_set_task (t:=⟨x,t.cost,t.deps⟩)),rfl,mid_set hp ⟨hxs,by dsimp only; omega⟩,by omega,by omega⟩
  ·by_cases c1:pickV l (pos + 1) 7 = 1
   ·have r2:=pick_rng l (pos + 1 + 1) 4
    obtain ⟨x,hx1,hx2⟩:=pick_int [0,-1,20,21] (pickV l (pos + 1 + 1) 4) r2.1 (by show _ < (4:Int); omega)
    have hx3:([[T.i 0],[T.i (-1)],[T.i 20],[T.i 21]]:List (List T))[(pickV l (pos + 1 + 1) 4).toNat]? = some [T.i x]:=hx2
    refine x_spec_l1Spoil ?_
    conv=>whnf
    refine g 0 0 [] ?_
    conv=>whnf
    refine ⟨⟨⟨I,I⟩,I,I⟩,?_⟩
    refine g 9 11 [.call (planO p) ([[]])] ?_
    conv=>whnf
    refine ⟨⟨I,⟨⟨I,I⟩,I,⟨⟨I,I⟩,I⟩,⟨I,I⟩,(by assumption)⟩,I,⟨I,I⟩,I⟩,?_⟩
    refine g 11 16 [.call (V.i (↑kk:Int)) ([rdC l (pos + (1:Int)),[]])] ?_
    conv=>whnf
    refine ⟨⟨I,I,I,I,⟨⟨I,I,I⟩,I,⟨I,⟨I,I⟩,I⟩,⟨I,I⟩,(by assumption)⟩,I,I⟩,?_⟩
    refine W.sq ?_
    refine g 16 19 [] ?_
    conv=>whnf
    refine ⟨⟨I,I,I,I,I⟩,?_⟩
    refine W.cn ?_
    conv=>whnf
    refine ⟨noT (by simp [*]),fun _=>?_⟩
    refine W.skip ?_
    refine W.sq ?_
    refine g 19 22 [.call (V.i (pickV l (pos + (1:Int)) (7:Int))) ([rdC l (pos + (1:Int) + (1:Int)),[]])] ?_
    conv=>whnf
    refine ⟨⟨I,⟨⟨I,I,I⟩,I,⟨I,⟨I,I⟩,I⟩,⟨I,I⟩,Go.K.c_spec_l1Rd_pick _ _ _ (by omega) (by omega) (by omega) (by omega)⟩,I⟩,?_⟩
    refine W.blk ?_
    refine g 36 37 [] ?_
    conv=>whnf
    refine ⟨⟨I,I,I⟩,?_⟩
    refine W.cn ?_
    conv=>whnf
    refine ⟨noT (dF (by omega)),fun _=>?_⟩
    refine g 35 36 [] ?_
    conv=>whnf
    refine ⟨⟨I,I,I⟩,?_⟩
    refine W.cn ?_
    conv=>whnf
    refine ⟨fun _=>?_,noF (dT (by omega))⟩
    refine rgd [[],[],[],[],[],[.call (V.i (pickV l (pos + (1:Int) + (1:Int)) (4:Int))) ([rdC l (pos + (1:Int) + (1:Int) + (1:Int)),[]])],[.n (Int.toNat (pickV l (pos + (1:Int) + (1:Int)) (4:Int)))],[.x ([T.i x])],[.n (kk)],[],[.x (taskT t)]] ?_
    conv=>whnf
    refine ⟨⟨I,I,I,⟨⟨I,I⟩,⟨I,I⟩,⟨I,I⟩,⟨I,I⟩,I⟩,I,⟨⟨I,I,I⟩,I,⟨I,⟨I,I⟩,I⟩,⟨I,I⟩,Go.K.c_spec_l1Rd_pick _ _ _ (by omega) (by omega) (by omega) (by omega)⟩,⟨(by omega),(by simp only [lens]; omega)⟩,(by assumption),⟨rfl,(by simp only [lens]; omega)⟩,I,⟨⟨I,I⟩,ixl (by assumption)⟩,I⟩,by kernel_rfl,?_⟩
    refine g 5 140 [] ?_
    conv=>whnf
    refine ⟨⟨I,⟨I,I⟩,I⟩,?_⟩
    refine W.ret ?_
    refine EndsW.rt ?_
    conv=>whnf
    refine ⟨⟨I,I,I⟩,?_⟩
    exact ⟨⟨p.tasks.set kk ⟨t.name,x,t.deps⟩⟩,_,congrArg (fun z=>V.agg [V.own taskK z]) (map_set_task (t:=⟨t.name,x,t.deps⟩)),rfl,mid_set hp ⟨by dsimp only; omega,by dsimp only; omega⟩,by omega,by omega⟩
   ·by_cases c2:pickV l (pos + 1) 7 = 2
    ·have r2:=pick_rng l (pos + 1 + 1) 4
     obtain ⟨x,hx1,hx2⟩:=pick_int [(kk:Int),-1,0,(kk:Int) + 1] (pickV l (pos + 1 + 1) 4) r2.1 (by show _ < (4:Int); omega)
     have hx3:([[T.i (kk:Int)],[T.i (-1)],[T.i 0],[T.i ((kk:Int) + 1)]]:List (List T))[(pickV l (pos + 1 + 1) 4).toNat]? = some [T.i x]:=hx2
     refine x_spec_l1Spoil ?_
     conv=>whnf
     refine g 0 0 [] ?_
     conv=>whnf
     refine ⟨⟨⟨I,I⟩,I,I⟩,?_⟩
     refine g 9 11 [.call (planO p) ([[]])] ?_
     conv=>whnf
     refine ⟨⟨I,⟨⟨I,I⟩,I,⟨⟨I,I⟩,I⟩,⟨I,I⟩,(by assumption)⟩,I,⟨I,I⟩,I⟩,?_⟩
     refine g 11 16 [.call (V.i (↑kk:Int)) ([rdC l (pos + (1:Int)),[]])] ?_
     conv=>whnf
     refine ⟨⟨I,I,I,I,⟨⟨I,I,I⟩,I,⟨I,⟨I,I⟩,I⟩,⟨I,I⟩,(by assumption)⟩,I,I⟩,?_⟩
     refine W.sq ?_
     refine g 16 19 [] ?_
     conv=>whnf
     refine ⟨⟨I,I,I,I,I⟩,?_⟩
     refine W.cn ?_
     conv=>whnf
     refine ⟨noT (by simp [*]),fun _=>?_⟩
     refine W.skip ?_
     refine W.sq ?_
     refine g 19 22 [.call (V.i (pickV l (pos + (1:Int)) (7:Int))) ([rdC l (pos + (1:Int) + (1:Int)),[]])] ?_
     conv=>whnf
     refine ⟨⟨I,⟨⟨I,I,I⟩,I,⟨I,⟨I,I⟩,I⟩,⟨I,I⟩,Go.K.c_spec_l1Rd_pick _ _ _ (by omega) (by omega) (by omega) (by omega)⟩,I⟩,?_⟩
     refine W.blk ?_
     refine g 36 37 [] ?_
     conv=>whnf
     refine ⟨⟨I,I,I⟩,?_⟩
     refine W.cn ?_
     conv=>whnf
     refine ⟨noT (dF (by omega)),fun _=>?_⟩
     refine g 35 36 [] ?_
     conv=>whnf
     refine ⟨⟨I,I,I⟩,?_⟩
     refine W.cn ?_
     conv=>whnf
     refine ⟨noT (dF (by omega)),fun _=>?_⟩
     refine g 54 56 [] ?_
     conv=>whnf
     refine ⟨⟨I,I,I⟩,?_⟩
     refine W.cn ?_
     conv=>whnf
     refine ⟨fun _=>?_,noF (dT (by omega))⟩
     refine rgd [[],[],[],[],[],[],[.n (kk)],[],[.x (taskT t)],[],[],[.i ((↑kk:Int) + (1:Int))],[],[],[.call (V.i (pickV l (pos + (1:Int) + (1:Int)) (4:Int))) ([rdC l (pos + (1:Int) + (1:Int) + (1:Int)),[]])],[.n (Int.toNat (pickV l (pos + (1:Int) + (1:Int)) (4:Int)))],[.x ([T.i x])],[],[.x (taskT t)],[.n (kk)],[],[.x (List.set (taskT t) ((0:Nat) + (2:Nat)) T.hole)]] ?_
     conv=>whnf
     refine ⟨⟨I,I,I,I,I,I,⟨rfl,(by simp only [lens]; omega)⟩,I,ixl (by assumption),I,I,w64 (by omega) (by omega),⟨⟨I,I⟩,⟨I,I⟩,⟨I,I⟩,⟨I,I⟩,I⟩,I,⟨⟨I,I,I⟩,I,⟨I,⟨I,I⟩,I⟩,⟨I,I⟩,Go.K.c_spec_l1Rd_pick _ _ _ (by omega) (by omega) (by omega) (by omega)⟩,⟨(by omega),(by simp only [lens]; omega)⟩,(by assumption),⟨⟨I,I⟩,I⟩,⟨I,ixl (by assumption),(by simp only [lens]; omega)⟩,⟨rfl,(by simp only [lens]; omega)⟩,I,⟨⟨I,I⟩,getset (by simp only [lens]; omega)⟩,I⟩,by kernel_rfl,?_⟩
     rw [List.set_set]
     refine g 5 140 [] ?_
     conv=>whnf
     refine ⟨⟨I,⟨I,I⟩,I⟩,?_⟩
     refine W.ret ?_
     refine EndsW.rt ?_
     conv=>whnf
     refine ⟨⟨I,I,I⟩,?_⟩
     exact ⟨⟨p.tasks.set kk ⟨t.name,t.cost,t.deps ++ [x]⟩⟩,_,congrArg (fun z=>V.agg [V.own taskK z]) ((congrArg ((p.tasks.map taskT).set kk) (show _ = taskT ⟨t.name,t.cost,t.deps ++ [x]⟩ by show [T.s t.name,T.i t.cost,T.slc [false] (t.deps.map intT ++ [intT x])] = _; rw [← app_one])).trans map_set_task),rfl,mid_set hp ⟨by dsimp only; omega,by dsimp only; rw [List.length_append]; simp; omega⟩,by omega,by omega⟩
    ·by_cases c3:pickV l (pos + 1) 7 = 3
     ·refine x_spec_l1Spoil ?_
      conv=>whnf
      refine g 0 0 [] ?_
      conv=>whnf
      refine ⟨⟨⟨I,I⟩,I,I⟩,?_⟩
      refine g 9 11 [.call (planO p) ([[]])] ?_
      conv=>whnf
      refine ⟨⟨I,⟨⟨I,I⟩,I,⟨⟨I,I⟩,I⟩,⟨I,I⟩,(by assumption)⟩,I,⟨I,I⟩,I⟩,?_⟩
      refine g 11 16 [.call (V.i (↑kk:Int)) ([rdC l (pos + (1:Int)),[]])] ?_
      conv=>whnf
      refine ⟨⟨I,I,I,I,⟨⟨I,I,I⟩,I,⟨I,⟨I,I⟩,I⟩,⟨I,I⟩,(by assumption)⟩,I,I⟩,?_⟩
      refine W.sq ?_
      refine g 16 19 [] ?_
      conv=>whnf
      refine ⟨⟨I,I,I,I,I⟩,?_⟩
      refine W.cn ?_
      conv=>whnf
      refine ⟨noT (by simp [*]),fun _=>?_⟩
      refine W.skip ?_
      refine W.sq ?_
      refine g 19 22 [.call (V.i (pickV l (pos + (1:Int)) (7:Int))) ([rdC l (pos + (1:Int) + (1:Int)),[]])] ?_
      conv=>whnf
      refine ⟨⟨I,⟨⟨I,I,I⟩,I,⟨I,⟨I,I⟩,I⟩,⟨I,I⟩,Go.K.c_spec_l1Rd_pick _ _ _ (by omega) (by omega) (by omega) (by omega)⟩,I⟩,?_⟩
      refine W.blk ?_
      refine g 36 37 [] ?_
      conv=>whnf
      refine ⟨⟨I,I,I⟩,?_⟩
      refine W.cn ?_
      conv=>whnf
      refine ⟨noT (dF (by omega)),fun _=>?_⟩
      refine g 35 36 [] ?_
      conv=>whnf
      refine ⟨⟨I,I,I⟩,?_⟩
      refine W.cn ?_
      conv=>whnf
      refine ⟨noT (dF (by omega)),fun _=>?_⟩
      refine g 54 56 [] ?_
      conv=>whnf
      refine ⟨⟨I,I,I⟩,?_⟩
      refine W.cn ?_
      conv=>whnf
      refine ⟨noT (dF (by omega)),fun _=>?_⟩
      refine g 66 68 [] ?_
      conv=>whnf
      refine ⟨⟨I,I,I⟩,?_⟩
      refine W.cn ?_
      conv=>whnf
      refine ⟨fun _=>?_,noF (dT (by omega))⟩
      refine rg [] ?_
      conv=>whnf
      refine ⟨⟨I,I,⟨I,I⟩,I⟩,?_⟩
      refine g 5 140 [] ?_
      conv=>whnf
      refine ⟨⟨I,⟨I,I⟩,I⟩,?_⟩
      refine W.ret ?_
      refine EndsW.rt ?_
      conv=>whnf
      refine ⟨⟨I,I,I⟩,?_⟩
      exact ⟨⟨[]⟩,_,rfl,rfl,⟨Nat.zero_le _,fun t ht=>by cases ht⟩,by omega,by omega⟩
     ·by_cases c4:pickV l (pos + 1) 7 = 4
      ·refine x_spec_l1Spoil ?_
       conv=>whnf
       refine g 0 0 [] ?_
       conv=>whnf
       refine ⟨⟨⟨I,I⟩,I,I⟩,?_⟩
       refine g 9 11 [.call (planO p) ([[]])] ?_
       conv=>whnf
       refine ⟨⟨I,⟨⟨I,I⟩,I,⟨⟨I,I⟩,I⟩,⟨I,I⟩,(by assumption)⟩,I,⟨I,I⟩,I⟩,?_⟩
       refine g 11 16 [.call (V.i (↑kk:Int)) ([rdC l (pos + (1:Int)),[]])] ?_
       conv=>whnf
       refine ⟨⟨I,I,I,I,⟨⟨I,I,I⟩,I,⟨I,⟨I,I⟩,I⟩,⟨I,I⟩,(by assumption)⟩,I,I⟩,?_⟩
       refine W.sq ?_
       refine g 16 19 [] ?_
       conv=>whnf
       refine ⟨⟨I,I,I,I,I⟩,?_⟩
       refine W.cn ?_
       conv=>whnf
       refine ⟨noT (by simp [*]),fun _=>?_⟩
       refine W.skip ?_
       refine W.sq ?_
       refine g 19 22 [.call (V.i (pickV l (pos + (1:Int)) (7:Int))) ([rdC l (pos + (1:Int) + (1:Int)),[]])] ?_
       conv=>whnf
       refine ⟨⟨I,⟨⟨I,I,I⟩,I,⟨I,⟨I,I⟩,I⟩,⟨I,I⟩,Go.K.c_spec_l1Rd_pick _ _ _ (by omega) (by omega) (by omega) (by omega)⟩,I⟩,?_⟩
       refine W.blk ?_
       refine g 36 37 [] ?_
       conv=>whnf
       refine ⟨⟨I,I,I⟩,?_⟩
       refine W.cn ?_
       conv=>whnf
       refine ⟨noT (dF (by omega)),fun _=>?_⟩
       refine g 35 36 [] ?_
       conv=>whnf
       refine ⟨⟨I,I,I⟩,?_⟩
       refine W.cn ?_
       conv=>whnf
       refine ⟨noT (dF (by omega)),fun _=>?_⟩
       refine g 54 56 [] ?_
       conv=>whnf
       refine ⟨⟨I,I,I⟩,?_⟩
       refine W.cn ?_
       conv=>whnf
       refine ⟨noT (dF (by omega)),fun _=>?_⟩
       refine g 66 68 [] ?_
       conv=>whnf
       refine ⟨⟨I,I,I⟩,?_⟩
       refine W.cn ?_
       conv=>whnf
       refine ⟨noT (dF (by omega)),fun _=>?_⟩
       refine g 89 91 [] ?_
       conv=>whnf
       refine ⟨⟨I,I,I⟩,?_⟩
       refine W.cn ?_
       conv=>whnf
       refine ⟨fun _=>?_,noF (dT (by omega))⟩
       refine g 22 95 [] ?_
       conv=>whnf
       refine ⟨⟨I,I⟩,?_⟩
       refine W.blk ?_
       refine W.lp (fun s (x:Nat × List Task × Int)=>⟨[(0,s.s 0),(1,s.s 1),(4,s.s 4),(5,s.s 5),(7,.i x.1)],[(141,[s.c 141 0]),(4,[s.c 4 0]),(140,[.t (u8s l),.t (.i x.2.2)]),(5,[.own taskK (x.2.1.map taskT)])],[]⟩) (fun (x:Nat × List Task × Int)=>x.1 ≤ 41 ∧ x.1 ≤ x.2.1.length ∧ (x.2.1.length ≤ 41 ∨ x.2.1.length ≤ 64 ∧ x.1 = 0) ∧ (∀ t ∈ x.2.1,taskMid t) ∧ pos + 2 ≤ x.2.2 ∧ x.2.2 ≤ pos + 2 + x.1) (fun (x:Nat × List Task × Int)=>64 - x.2.1.length) ((0,p.tasks,pos + 2)) [some 141,some 4,some 140,some 5] [] ⟨rfl,⟨rfl,⟨_,rfl,_,_,rfl,rfl,rfl⟩,rfl,rfl,rfl,I⟩,⟨⟨rfl,⟨I,I⟩⟩,⟨⟨rfl,⟨rfl,I⟩⟩,⟨⟨rfl,⟨rfl,⟨(congrArg (fun z=>V.t (T.v (Value.int _ z))) (by show pos + 1 + 1 = pos + 2; omega)),I⟩⟩⟩,⟨⟨rfl,⟨rfl,I⟩⟩,I⟩⟩⟩⟩,I⟩ ?_ ?_
       ·exact ⟨Nat.zero_le _,Nat.zero_le _,.inr ⟨hp1,rfl⟩,(small_mid hp).2,Int.le_refl _,by show pos + 2 ≤ pos + 2 + ((0:Nat):Int); omega⟩
       rintro ⟨i,ts,q⟩ ⟨i1,i2,i3,i4,i5,i6⟩
       dsimp only at i1 i2 i3 i4 i5 i6
       have r3:=pick_rng l q 2
       by_cases hlt:(ts.length:Int) < 40 + pickV l q 2
       ·have cd:=c_spec_l1Dec i (by omega) (by omega)
        have hds:=decS_size i
        conv=>whnf
        refine W.sq ?_
        refine gd 95 101 [[],[],[],[],[.call (V.i (pickV l q (2:Int))) ([rdC l (q + (1:Int)),[]])],[.i ((40:Int) + pickV l q (2:Int))],[]] ?_
        conv=>whnf
        refine ⟨⟨I,I,I,I,⟨⟨I,I,I⟩,I,⟨I,⟨I,I⟩,I⟩,⟨I,I⟩,Go.K.c_spec_l1Rd_pick _ _ _ (by first | omega | decide | assumption | (simp only [ByteArray.size_extract,List.length_map]; omega) | simp [*]) (by first | omega | decide | assumption | (simp only [ByteArray.size_extract,List.length_map]; omega) | simp [*]) (by first | omega | decide | assumption | (simp only [ByteArray.size_extract,List.length_map]; omega) | simp [*]) (by first | omega | decide | assumption | (simp only [ByteArray.size_extract,List.length_map]; omega) | simp [*])⟩,w64 (by omega) (by omega),I,I⟩,by kernel_rfl,?_⟩
        refine W.cn ?_
        conv=>whnf
        refine ⟨fun _=>?_,noF (by simp [*])⟩
        refine W.skip ?_
        refine W.sq ?_
        refine W.blk ?_
        refine rgd [[],[],[],[.call (V.s (decS (↑i:Int))) ([[]])],[.s ({ data:=#[(120:UInt8)]:ByteArray } ++ decS (↑i:Int))],[],[],[],[],[]] ?_
        conv=>whnf
        refine ⟨⟨I,I,I,⟨⟨I,I⟩,I,⟨⟨I,I⟩,I⟩,⟨I,I⟩,(by assumption)⟩,⟨rfl,(by simp only [bsz,bsa,ByteArray.size_append,List.size_toArray,lens]; omega)⟩,I,⟨⟨I,I,I,I⟩,I⟩,⟨I,I,(by simp only [lens]; omega)⟩,I,⟨I,I⟩,I⟩,by kernel_rfl,?_⟩
        refine rg [.i ((↑(Prod.fst (i,ts,q)):Int) + (1:Int))] ?_
        conv=>whnf
        refine ⟨⟨I,w64 (by omega) (by omega),I,I⟩,?_⟩
        refine ⟨(i + 1,ts ++ [(⟨(⟨#[120]⟩:ByteArray) ++ decS i,1,[]⟩:Task)],q + 1),[some 141,some 4,some 140,some 5],[],⟨rfl,⟨rfl,⟨_,rfl,_,_,rfl,rfl,rfl⟩,rfl,rfl,rfl,I⟩,⟨⟨rfl,⟨I,I⟩⟩,⟨⟨rfl,⟨rfl,I⟩⟩,⟨⟨rfl,⟨rfl,⟨rfl,I⟩⟩⟩,⟨⟨rfl,⟨(congrArg (V.own _) (by rw [List.map_append]; rfl)),I⟩⟩,I⟩⟩⟩⟩,I⟩,?_,?_⟩
        rotate_left 1
        rotate_right 1
        dsimp only
        ·refine ⟨by omega,by rw [len_one]; omega,.inl (by rw [len_one]; omega),app_mid i4 (new_mid _ rfl i),by omega,by omega⟩
        ·show 64 - (ts ++ [_]).length < 64 - ts.length
         rw [len_one]; omega
       ·conv=>whnf
        refine W.sq ?_
        refine gd 95 101 [[],[],[],[],[.call (V.i (pickV l q (2:Int))) ([rdC l (q + (1:Int)),[]])],[.i ((40:Int) + pickV l q (2:Int))],[]] ?_
        conv=>whnf
        refine ⟨⟨I,I,I,I,⟨⟨I,I,I⟩,I,⟨I,⟨I,I⟩,I⟩,⟨I,I⟩,Go.K.c_spec_l1Rd_pick _ _ _ (by first | omega | decide | assumption | (simp only [ByteArray.size_extract,List.length_map]; omega) | simp [*]) (by first | omega | decide | assumption | (simp only [ByteArray.size_extract,List.length_map]; omega) | simp [*]) (by first | omega | decide | assumption | (simp only [ByteArray.size_extract,List.length_map]; omega) | simp [*]) (by first | omega | decide | assumption | (simp only [ByteArray.size_extract,List.length_map]; omega) | simp [*])⟩,w64 (by omega) (by omega),I,I⟩,by kernel_rfl,?_⟩
        refine W.cn ?_
        conv=>whnf
        refine ⟨noT (by simp [*]),fun _=>?_⟩
        refine W.exit ?_
        refine g 5 140 [] ?_
        conv=>whnf
        refine ⟨⟨I,⟨I,I⟩,I⟩,?_⟩
        refine W.ret ?_
        refine EndsW.rt ?_
        conv=>whnf
        refine ⟨⟨I,I,I⟩,?_⟩
        exact ⟨⟨ts⟩,_,rfl,rfl,⟨by dsimp only; omega,i4⟩,by omega,by omega⟩
      ·by_cases c5:pickV l (pos + 1) 7 = 5
       ·refine x_spec_l1Spoil ?_
        conv=>whnf
        refine g 0 0 [] ?_
        conv=>whnf
        refine ⟨⟨⟨I,I⟩,I,I⟩,?_⟩
        refine g 9 11 [.call (planO p) ([[]])] ?_
        conv=>whnf
        refine ⟨⟨I,⟨⟨I,I⟩,I,⟨⟨I,I⟩,I⟩,⟨I,I⟩,(by assumption)⟩,I,⟨I,I⟩,I⟩,?_⟩
        refine g 11 16 [.call (V.i (↑kk:Int)) ([rdC l (pos + (1:Int)),[]])] ?_
        conv=>whnf
        refine ⟨⟨I,I,I,I,⟨⟨I,I,I⟩,I,⟨I,⟨I,I⟩,I⟩,⟨I,I⟩,(by assumption)⟩,I,I⟩,?_⟩
        refine W.sq ?_
        refine g 16 19 [] ?_
        conv=>whnf
        refine ⟨⟨I,I,I,I,I⟩,?_⟩
        refine W.cn ?_
        conv=>whnf
        refine ⟨noT (by simp [*]),fun _=>?_⟩
        refine W.skip ?_
        refine W.sq ?_
        refine g 19 22 [.call (V.i (pickV l (pos + (1:Int)) (7:Int))) ([rdC l (pos + (1:Int) + (1:Int)),[]])] ?_
        conv=>whnf
        refine ⟨⟨I,⟨⟨I,I,I⟩,I,⟨I,⟨I,I⟩,I⟩,⟨I,I⟩,Go.K.c_spec_l1Rd_pick _ _ _ (by omega) (by omega) (by omega) (by omega)⟩,I⟩,?_⟩
        refine W.blk ?_
        refine g 36 37 [] ?_
        conv=>whnf
        refine ⟨⟨I,I,I⟩,?_⟩
        refine W.cn ?_
        conv=>whnf
        refine ⟨noT (dF (by omega)),fun _=>?_⟩
        refine g 35 36 [] ?_
        conv=>whnf
        refine ⟨⟨I,I,I⟩,?_⟩
        refine W.cn ?_
        conv=>whnf
        refine ⟨noT (dF (by omega)),fun _=>?_⟩
        refine g 54 56 [] ?_
        conv=>whnf
        refine ⟨⟨I,I,I⟩,?_⟩
        refine W.cn ?_
        conv=>whnf
        refine ⟨noT (dF (by omega)),fun _=>?_⟩
        refine g 66 68 [] ?_
        conv=>whnf
        refine ⟨⟨I,I,I⟩,?_⟩
        refine W.cn ?_
        conv=>whnf
        refine ⟨noT (dF (by omega)),fun _=>?_⟩
        refine g 89 91 [] ?_
        conv=>whnf
        refine ⟨⟨I,I,I⟩,?_⟩
        refine W.cn ?_
        conv=>whnf
        refine ⟨noT (dF (by omega)),fun _=>?_⟩
        refine g 22 95 [] ?_
        conv=>whnf
        refine ⟨⟨I,I,I⟩,?_⟩
        refine W.cn ?_
        conv=>whnf
        refine ⟨fun _=>?_,noF (dT (by omega))⟩
        refine W.sq ?_
        refine g 113 115 [] ?_
        conv=>whnf
        refine ⟨⟨I,I⟩,?_⟩
        refine W.blk ?_
        refine W.lp (fun s (x:Nat × List Task)=>⟨[(0,s.s 0),(1,s.s 1),(3,s.s 3),(4,s.s 4),(5,s.s 5),(6,s.s 6),(8,.i x.1)],[(140,[s.c 140 0,s.c 140 1]),(141,[s.c 141 0]),(3,[s.c 3 0]),(4,[s.c 4 0]),(5,[.own taskK (x.2.map taskT)])],[]⟩) (fun (x:Nat × List Task)=>x.1 ≤ 12 ∧ x.1 ≤ x.2.length ∧ x.2.length ≤ 64 ∧ (∀ t ∈ x.2,taskMid t)) (fun (x:Nat × List Task)=>64 - x.2.length) ((0,p.tasks)) [some 140,some 141,some 3,some 4,some 5] [] ⟨rfl,⟨rfl,⟨_,rfl,_,_,rfl,rfl,rfl⟩,rfl,rfl,rfl,rfl,rfl,I⟩,⟨⟨rfl,⟨rfl,⟨rfl,I⟩⟩⟩,⟨⟨rfl,⟨I,I⟩⟩,⟨⟨rfl,⟨rfl,I⟩⟩,⟨⟨rfl,⟨rfl,I⟩⟩,⟨⟨rfl,⟨rfl,I⟩⟩,I⟩⟩⟩⟩⟩,I⟩ ?_ ?_
        ·exact ⟨Nat.zero_le _,Nat.zero_le _,hp1,(small_mid hp).2⟩
        rintro ⟨i,ts⟩ ⟨i1,i2,i3,i4⟩
        dsimp only at i1 i2 i3 i4
        by_cases hlt:ts.length < 12
        ·have cd:=c_spec_l1Dec i (by omega) (by omega)
         have hds:=decS_size i
         conv=>whnf
         refine W.sq ?_
         refine g 115 118 [] ?_
         conv=>whnf
         refine ⟨⟨I,I,I,I,I⟩,?_⟩
         refine W.cn ?_
         conv=>whnf
         refine ⟨fun h2=>?_,fun h2=>?_⟩
         replace h2:=dt h2
         simp only [List.length_map] at h2
         refine W.skip ?_
         refine W.sq ?_
         refine W.blk ?_
         refine rgd [[],[],[],[.call (V.s (decS (↑i:Int))) ([[]])],[.s ({ data:=#[(121:UInt8)]:ByteArray } ++ decS (↑i:Int))],[],[],[],[],[]] ?_
         conv=>whnf
         refine ⟨⟨I,I,I,⟨⟨I,I⟩,I,⟨⟨I,I⟩,I⟩,⟨I,I⟩,(by assumption)⟩,⟨rfl,(by simp only [bsz,bsa,ByteArray.size_append,List.size_toArray,lens]; omega)⟩,I,⟨⟨I,I,I,I⟩,I⟩,⟨I,I,(by simp only [lens]; omega)⟩,I,⟨I,I⟩,I⟩,by kernel_rfl,?_⟩
         refine rg [.i ((↑(Prod.fst (i,ts)):Int) + (1:Int))] ?_
         conv=>whnf
         refine ⟨⟨I,w64 (by omega) (by omega),I,I⟩,?_⟩
         rotate_left 1
         replace h2:=df h2
         simp only [List.length_map] at h2
         omega
         refine ⟨(i + 1,ts ++ [(⟨(⟨#[121]⟩:ByteArray) ++ decS i,1,[]⟩:Task)]),[some 140,some 141,some 3,some 4,some 5],[],⟨rfl,⟨rfl,⟨_,rfl,_,_,rfl,rfl,rfl⟩,rfl,rfl,rfl,rfl,rfl,I⟩,⟨⟨rfl,⟨rfl,⟨rfl,I⟩⟩⟩,⟨⟨rfl,⟨I,I⟩⟩,⟨⟨rfl,⟨rfl,I⟩⟩,⟨⟨rfl,⟨rfl,I⟩⟩,⟨⟨rfl,⟨(congrArg (V.own _) (by rw [List.map_append]; rfl)),I⟩⟩,I⟩⟩⟩⟩⟩,I⟩,?_,?_⟩
         rotate_left 1
         rotate_right 1
         dsimp only
         ·refine ⟨by omega,by rw [len_one]; omega,by rw [len_one]; omega,app_mid i4 (new_mid _ rfl i)⟩
         ·show 64 - (ts ++ [_]).length < 64 - ts.length
          rw [len_one]; omega
        ·obtain ⟨t11,ht11⟩:=some_at (xs:=ts) (n:=11) (by omega)
         have r3:=pick_rng l (pos + 1 + 1) 2
         conv=>whnf
         refine W.sq ?_
         refine g 115 118 [] ?_
         conv=>whnf
         refine ⟨⟨I,I,I,I,I⟩,?_⟩
         refine W.cn ?_
         conv=>whnf
         refine ⟨fun h2=>?_,fun h2=>?_⟩
         replace h2:=dt h2
         simp only [List.length_map] at h2
         omega
         replace h2:=df h2
         simp only [List.length_map] at h2
         refine W.exit ?_
         refine rgd [[],[],[],[],[.call (V.i (pickV l (pos + (1:Int) + (1:Int)) (2:Int))) ([rdC l (pos + (1:Int) + (1:Int) + (1:Int)),[]])],[.i ((8:Int) + pickV l (pos + (1:Int) + (1:Int)) (2:Int))],[.n (Int.toNat ((8:Int) + pickV l (pos + (1:Int) + (1:Int)) (2:Int)))],[.n ((11:Nat))],[],[.x (taskT t11)]] ?_
         conv=>whnf
         refine ⟨⟨I,I,⟨⟨I,I⟩,⟨I,I⟩,⟨I,I⟩,⟨I,I⟩,⟨I,I⟩,⟨I,I⟩,⟨I,I⟩,⟨I,I⟩,⟨I,I⟩,I⟩,I,⟨⟨I,I,I⟩,I,⟨I,⟨I,I⟩,I⟩,⟨I,I⟩,Go.K.c_spec_l1Rd_pick _ _ _ (by omega) (by omega) (by omega) (by omega)⟩,w64 (by omega) (by omega),⟨I,(by omega),I,(by omega),(by simp only [lens]; omega)⟩,⟨rfl,(by simp only [lens]; omega)⟩,I,⟨⟨I,I⟩,ixl (by assumption)⟩,I⟩,by kernel_rfl,?_⟩
         refine g 5 140 [] ?_
         conv=>whnf
         refine ⟨⟨I,⟨I,I⟩,I⟩,?_⟩
         refine W.ret ?_
         refine EndsW.rt ?_
         conv=>whnf
         refine ⟨⟨I,I,I⟩,?_⟩
         have hm11:=i4 t11 (List.mem_of_getElem? ht11)
         exact ⟨⟨ts.set 11 ⟨t11.name,t11.cost,([0,1,2,3,4,5,6,7,8]:List Int).take (8 + pickV l (pos + 1 + 1) 2).toNat⟩⟩,_,congrArg (fun z=>V.agg [V.own taskK z]) ((congrArg ((ts.map taskT).set 11) (show _ = taskT ⟨t11.name,t11.cost,([0,1,2,3,4,5,6,7,8]:List Int).take (8 + pickV l (pos + 1 + 1) 2).toNat⟩ by show [T.s t11.name,T.i t11.cost,T.slc [false] _] = [T.s t11.name,T.i t11.cost,T.slc [false] _]; rw [List.drop_zero,List.map_take]; rfl)).trans map_set_task),rfl,mid_set' i3 i4 ⟨hm11.1,by dsimp only; rw [List.length_take]; show min _ 9 ≤ 128; omega⟩,by omega,by omega⟩
       ·refine x_spec_l1Spoil ?_
        conv=>whnf
        refine g 0 0 [] ?_
        conv=>whnf
        refine ⟨⟨⟨I,I⟩,I,I⟩,?_⟩
        refine g 9 11 [.call (planO p) ([[]])] ?_
        conv=>whnf
        refine ⟨⟨I,⟨⟨I,I⟩,I,⟨⟨I,I⟩,I⟩,⟨I,I⟩,(by assumption)⟩,I,⟨I,I⟩,I⟩,?_⟩
        refine g 11 16 [.call (V.i (↑kk:Int)) ([rdC l (pos + (1:Int)),[]])] ?_
        conv=>whnf
        refine ⟨⟨I,I,I,I,⟨⟨I,I,I⟩,I,⟨I,⟨I,I⟩,I⟩,⟨I,I⟩,(by assumption)⟩,I,I⟩,?_⟩
        refine W.sq ?_
        refine g 16 19 [] ?_
        conv=>whnf
        refine ⟨⟨I,I,I,I,I⟩,?_⟩
        refine W.cn ?_
        conv=>whnf
        refine ⟨noT (by simp [*]),fun _=>?_⟩
        refine W.skip ?_
        refine W.sq ?_
        refine g 19 22 [.call (V.i (pickV l (pos + (1:Int)) (7:Int))) ([rdC l (pos + (1:Int) + (1:Int)),[]])] ?_
        conv=>whnf
        refine ⟨⟨I,⟨⟨I,I,I⟩,I,⟨I,⟨I,I⟩,I⟩,⟨I,I⟩,Go.K.c_spec_l1Rd_pick _ _ _ (by omega) (by omega) (by omega) (by omega)⟩,I⟩,?_⟩
        refine W.blk ?_
        refine g 36 37 [] ?_
        conv=>whnf
        refine ⟨⟨I,I,I⟩,?_⟩
        refine W.cn ?_
        conv=>whnf
        refine ⟨noT (dF (by omega)),fun _=>?_⟩
        refine g 35 36 [] ?_
        conv=>whnf
        refine ⟨⟨I,I,I⟩,?_⟩
        refine W.cn ?_
        conv=>whnf
        refine ⟨noT (dF (by omega)),fun _=>?_⟩
        refine g 54 56 [] ?_
        conv=>whnf
        refine ⟨⟨I,I,I⟩,?_⟩
        refine W.cn ?_
        conv=>whnf
        refine ⟨noT (dF (by omega)),fun _=>?_⟩
        refine g 66 68 [] ?_
        conv=>whnf
        refine ⟨⟨I,I,I⟩,?_⟩
        refine W.cn ?_
        conv=>whnf
        refine ⟨noT (dF (by omega)),fun _=>?_⟩
        refine g 89 91 [] ?_
        conv=>whnf
        refine ⟨⟨I,I,I⟩,?_⟩
        refine W.cn ?_
        conv=>whnf
        refine ⟨noT (dF (by omega)),fun _=>?_⟩
        refine g 22 95 [] ?_
        conv=>whnf
        refine ⟨⟨I,I,I⟩,?_⟩
        refine W.cn ?_
        conv=>whnf
        refine ⟨noT (dF (by omega)),fun _=>?_⟩
        refine rgd [[],[],[],[],[],[],[.n (kk)],[],[.x (taskT t)],[.s (Task.name t ++ { data:=#[(122:UInt8)]:ByteArray })],[.n (kk)],[],[.x (taskT t)]] ?_
        conv=>whnf
        refine ⟨⟨I,I,I,I,I,I,⟨rfl,(by simp only [lens]; omega)⟩,I,ixl (by assumption),⟨rfl,(by simp only [bsz,bsa,ByteArray.size_append,List.size_toArray,lens]; omega)⟩,⟨rfl,(by simp only [lens]; omega)⟩,I,⟨⟨I,I⟩,ixl (by assumption)⟩,I⟩,by kernel_rfl,?_⟩
        refine g 5 34 [] ?_
        conv=>whnf
        refine ⟨⟨I,⟨I,I⟩,I⟩,?_⟩
        refine W.ret ?_
        refine EndsW.rt ?_
        conv=>whnf
        refine ⟨⟨I,I,I⟩,?_⟩
        have e1:(⟨#[122]⟩:ByteArray).size = 1:=rfl
        exact ⟨⟨p.tasks.set kk ⟨t.name ++ ⟨#[122]⟩,t.cost,t.deps⟩⟩,_,congrArg (fun z=>V.agg [V.own taskK z]) (map_set_task (t:=⟨t.name ++ ⟨#[122]⟩,t.cost,t.deps⟩)),rfl,mid_set hp ⟨by dsimp only; rw [ByteArray.size_append]; omega,by dsimp only; omega⟩,by omega,by omega⟩
theorem ex_Spoil' (l:List Int) (pos:Int) (p:Plan) (h:planSmall p ∧ u8ok l ∧ 0 ≤ pos ∧ pos ≤ 1000000):∃ x:Plan × Int,F n_spec_l1Spoil [.ptr (rdC l pos),.val (planO p)] (planO x.1) [rdC l x.2,[]] ∧ planMid x.1 ∧ pos ≤ x.2 ∧ x.2 ≤ pos + 100:=by
 obtain ⟨res,outs,⟨q,pos2,rfl,rfl,h1,h2,h3⟩,hF⟩:=ex_Spoil l pos p h.1 h.2.1 h.2.2.1 h.2.2.2
 exact ⟨(q,pos2),hF,h1,h2,h3⟩
open Classical in
noncomputable def spoilP (l:List Int) (pos:Int) (p:Plan):Plan × Int:=if h:planSmall p ∧ u8ok l ∧ 0 ≤ pos ∧ pos ≤ 1000000 then (ex_Spoil' l pos p h).choose else (⟨[]⟩,pos)
theorem c_spec_l1Spoil (l:List Int) (pos:Int) (p:Plan) (hp:planSmall p) (hl:u8ok l) (h0:0 ≤ pos) (h1:pos ≤ 1000000):F n_spec_l1Spoil [.ptr (rdC l pos),.val (planO p)] (planO (spoilP l pos p).1) [rdC l (spoilP l pos p).2,[]]:=by
 have h:planSmall p ∧ u8ok l ∧ 0 ≤ pos ∧ pos ≤ 1000000:=⟨hp,hl,h0,h1⟩
 rw [spoilP,dif_pos h]
 exact (ex_Spoil' l pos p h).choose_spec.1
theorem spoil_ok (l:List Int) (pos:Int) (p:Plan):planMid (spoilP l pos p).1 ∧ pos ≤ (spoilP l pos p).2 ∧ (spoilP l pos p).2 ≤ pos + 100:=by
 unfold spoilP
 split
 ·rename_i h; exact (ex_Spoil' l pos p h).choose_spec.2
 ·exact ⟨⟨Nat.zero_le _,fun t ht=>by cases ht⟩,Int.le_refl _,by dsimp only; omega⟩
end Go.K
end
section
set_option linter.unusedVariables false
set_option linter.unusedSimpArgs false
set_option maxHeartbeats 4000000
set_option maxRecDepth 20000
open Go Go.Tm Go.Proofs
namespace Go.K
theorem ok_inputs {m:Message} (h:msgOk m):m.inputs.length ≤ 8 ∧ (∀ s ∈ m.inputs,s.size = 8) ∧ m.text.size ≤ 8:=by
 have he:emp.size = 0:=rfl
 obtain ⟨_,h | h | h | h | h⟩:=h
 ·obtain ⟨_,_,_,_,_,h1,h2,h3⟩:=h
  exact ⟨h3,h2,by rw [h1]; omega⟩
 all_goals
  obtain ⟨_,_,_,_,_,h1,h2⟩:=h
  have:m.inputs = []:=List.eq_nil_of_length_eq_zero (by omega)
  rw [this]
  refine ⟨by simp,(fun s hs=>nomatch hs),?_⟩
  first
   | (rw [h1]; omega)
   | omega
theorem ok_ranges {m:Message} (h:msgOk m):(1 ≤ m.kind ∧ m.kind ≤ 5) ∧ (0 ≤ m.frm ∧ m.frm ≤ 8) ∧ (0 ≤ m.to ∧ m.to ≤ 8) ∧ (1 ≤ m.epoch ∧ m.epoch ≤ 300) ∧ (0 ≤ m.lease ∧ m.lease ≤ 300000000) ∧ (0 ≤ m.task ∧ m.task ≤ 39):=by
 obtain ⟨h0,h | h | h | h | h⟩:=h
 all_goals
  obtain ⟨h1,h2,h3,h4,h5,_⟩:=h
  refine ⟨?_,?_,?_,h0,?_,?_⟩ <;> omega
end Go.K
end
section
set_option linter.unusedVariables false
set_option linter.unusedSimpArgs false
set_option maxHeartbeats 4000000
set_option maxRecDepth 20000
open Go Go.Tm Go.Proofs
namespace Go.K
attribute [local irreducible] ByteArray.extract
end Go.K
end
section
set_option linter.unusedVariables false
set_option linter.unusedSimpArgs false
set_option maxHeartbeats 4000000
set_option maxRecDepth 20000
open Go Go.Tm Go.Proofs
namespace Go.K
attribute [local irreducible] ByteArray.extract
end Go.K
end
section
set_option linter.unusedVariables false
set_option linter.unusedSimpArgs false
set_option maxHeartbeats 4000000
set_option maxRecDepth 20000
open Go Go.Tm Go.Proofs
namespace Go.K
attribute [local irreducible] ByteArray.extract
end Go.K
end
section
set_option linter.unusedVariables false
set_option linter.unusedSimpArgs false
set_option maxHeartbeats 4000000
set_option maxRecDepth 20000
open Go Go.Tm Go.Proofs
namespace Go.K
attribute [local irreducible] ByteArray.extract
end Go.K
end
section
set_option linter.unusedVariables false
set_option linter.unusedSimpArgs false
set_option maxHeartbeats 4000000
set_option maxRecDepth 20000
open Go Go.Tm Go.Proofs
namespace Go.K
attribute [local irreducible] ByteArray.extract
end Go.K
end
section
set_option linter.unusedVariables false
set_option linter.unusedSimpArgs false
set_option maxHeartbeats 4000000
set_option maxRecDepth 20000
open Go Go.Tm Go.Proofs
namespace Go.K
theorem u8_take {l:List Int} (h8:∀ x ∈ l,0 ≤ x ∧ x ≤ 255):u8ok (l.take 2000):=⟨by rw [List.length_take]; omega,fun x hx=>h8 x (List.mem_of_mem_take hx)⟩
end Go.K
end
section
set_option linter.unusedVariables false
set_option linter.unusedSimpArgs false
set_option maxHeartbeats 4000000
set_option maxRecDepth 20000
open Go Go.Tm Go.Proofs
namespace Go.K
theorem wf_u8s {n:Nat} {t:TypeId} {zc:List V} {b:Nat} (ht:E.ty t = some ⟨.int .u8,zc,b⟩) {xs:List (List T)} (h:∀ y ∈ xs,wfT E (n + 1) t y):∃ l:List Int,xs = l.map b1T ∧ ∀ x ∈ l,0 ≤ x ∧ x ≤ 255 :=
 map_of (f:=b1T) (p:=fun x=>0 ≤ x ∧ x ≤ 255) fun y hy=>by
  have h1:=h y hy
  simp only [wfT,ht] at h1
  obtain ⟨m,hm,h2,h3⟩:=h1
  exact ⟨m,hm,h2,h3⟩
end Go.K
end
section
set_option linter.unusedVariables false
set_option linter.unusedSimpArgs false
set_option maxHeartbeats 8000000
set_option maxRecDepth 20000
open Go Go.Tm Go.Proofs
namespace Go.K
theorem map_snoc (xs:List ByteArray) (y:ByteArray):xs.map strT ++ [strT y] = (xs ++ [y]).map strT:=by rw [List.map_append]; rfl
theorem len_snoc (xs:List ByteArray) (y:ByteArray):(xs ++ [y]).length = xs.length + 1:=by rw [List.length_append]; rfl
theorem all_snoc {n:Nat} {xs:List ByteArray} {y:ByteArray} (h:∀ s ∈ xs,s.size ≤ n) (hy:y.size ≤ n):∀ s ∈ xs ++ [y],s.size ≤ n:=by
 intro s hs
 rcases List.mem_append.1 hs with hs | hs
 ·exact h s hs
 ·rw [List.mem_singleton.1 hs]; exact hy
end Go.K
end
section
set_option linter.unusedVariables false
set_option linter.unusedSimpArgs false
set_option maxHeartbeats 4000000
set_option maxRecDepth 20000
open Go Go.Tm Go.Proofs
namespace Go.K
def workHeld (w:Worker):Prop:=(1 ≤ w.lease ∧ w.lease ≤ 300000000) ∧ (0 ≤ w.task ∧ w.task ≤ 39)
def workFreeOk (w:Worker):Prop:=w.state = 0 ∧ w.lease = 0 ∧ w.task = 0 ∧ w.cost = 0 ∧ w.left = 0 ∧ (w.inputs.length:Int) = 0 ∧ w.text = emp
def workBusyOk (w:Worker):Prop:=w.state = 1 ∧ workHeld w ∧ (1 ≤ w.cost ∧ w.cost ≤ 20) ∧ (1 ≤ w.left ∧ w.left ≤ w.cost) ∧ eights w.inputs ∧ w.text = emp
def workToldOk (w:Worker):Prop:=w.state = 2 ∧ workHeld w ∧ w.cost = 0 ∧ w.left = 0 ∧ (w.inputs.length:Int) = 0 ∧ (w.text.size:Int) = 8
def workerOk (w:Worker):Prop:=(1 ≤ w.number ∧ w.number ≤ 8) ∧ (1 ≤ w.epoch ∧ w.epoch ≤ 300) ∧ (0 ≤ w.since ∧ w.since ≤ 1000000) ∧ (w.up = true ∨ (w.state = 0 ∧ w.since = 0)) ∧ (workFreeOk w ∨ workBusyOk w ∨ workToldOk w)
instance (w:Worker):Decidable (workerOk w):=by unfold workerOk workFreeOk workBusyOk workToldOk workHeld; infer_instance
theorem c_impl_ValidWorker (w:Worker) (hl:w.inputs.length ≤ 9223372036854775806):F n_impl_ValidWorker [.val (workerR w)] (.b (decide (workerOk w))) [[]]:=by
 refine i_impl_ValidWorker ?_
 conv=>whnf
 refine g 0 1 [] ?_
 conv=>whnf
 refine ⟨⟨⟨I,I,I,I,I,I,I,I,I,I,I,I⟩,I,I⟩,?_⟩
 refine W.sq ?_
 by_cases h1:(1:Int) ≤ Worker.number w ∧ Worker.number w ≤ (8:Int)
 by_cases h2:(1:Int) ≤ Worker.epoch w ∧ Worker.epoch w ≤ (300:Int)
 refine g 14 17 [.call (V.b (decide ((1:Int) ≤ Worker.number w ∧ Worker.number w ≤ (8:Int)))) ([[],[],[]]),.b (false),.b (false),.b (false),.call (V.b (decide ((1:Int) ≤ Worker.epoch w ∧ Worker.epoch w ≤ (300:Int)))) ([[],[],[]]),.b (false),.b (false),.b (false),.b (false),.b (false),.call (V.b (decide ((0:Int) ≤ Worker.since w ∧ Worker.since w ≤ (1000000:Int)))) ([[],[],[]]),.b (false),.b (false)] ?_
 conv=>whnf
 refine ⟨⟨I,I,⟨⟨I,I,I,I⟩,I,⟨⟨I,I⟩,⟨I,I⟩,⟨I,I⟩,I⟩,⟨I,I⟩,Go.K.c_impl_within _ _ _⟩,I,I,⟨notF (by omega),I⟩,⟨notF (by omega),I⟩,⟨notF (by omega),⟨I,I,I,I⟩,I,⟨⟨I,I⟩,⟨I,I⟩,⟨I,I⟩,I⟩,⟨I,I⟩,Go.K.c_impl_within _ _ _⟩,⟨notF (by omega),I⟩,notF (by omega),I,⟨notF (by omega),I⟩,⟨notF (by omega),I⟩,⟨notF (by omega),⟨I,I,I,I⟩,I,⟨⟨I,I⟩,⟨I,I⟩,⟨I,I⟩,I⟩,⟨I,I⟩,Go.K.c_impl_within _ _ _⟩,⟨notF (by omega),I⟩,notF (by omega),I⟩,?_⟩
 refine W.cn ?_
 conv=>whnf
 refine ⟨fun h3=>?_,fun h3=>?_⟩
 replace h3:=ndt h3
 refine g 9 11 [] ?_
 conv=>whnf
 refine ⟨⟨I,I⟩,?_⟩
 refine W.ret ?_
 refine EndsW.rt ?_
 conv=>whnf
 refine ⟨⟨I,I,I⟩,?_,rfl⟩
 rotate_left 1
 replace h3:=ndf h3
 refine W.skip ?_
 refine W.sq ?_
 by_cases h4:Worker.up w = true
 refine g 25 32 [.b (false),.b (false),.b (false),.b (false),.b (false),.b (false),.b (false),.b (false),.b (false)] ?_
 conv=>whnf
 refine ⟨⟨I,I,I,I,nbF (by assumption),nbF (by assumption),nbF (by assumption),nbF (by assumption),I,I,I,nbF (by assumption),nbF (by assumption),I⟩,?_⟩
 refine W.cn ?_
 conv=>whnf
 refine ⟨noT (rfl),fun _=>?_⟩
 refine W.skip ?_
 by_cases h5:(1:Int) ≤ Worker.lease w ∧ Worker.lease w ≤ (300000000:Int)
 refine g 32 41 [.call (V.b (decide ((1:Int) ≤ Worker.lease w ∧ Worker.lease w ≤ (300000000:Int)))) ([[],[],[]]),.b (true),.b (true),.b (true),.call (V.b (decide ((0:Int) ≤ Worker.task w ∧ Worker.task w ≤ (39:Int)))) ([[],[],[]]),.b (true)] ?_
 conv=>whnf
 refine ⟨⟨I,I,⟨⟨I,I,I,I⟩,I,⟨⟨I,I⟩,⟨I,I⟩,⟨I,I⟩,I⟩,⟨I,I⟩,Go.K.c_impl_within _ _ _⟩,I,⟨dT (by omega),I⟩,⟨dT (by omega),I⟩,⟨dT (by omega),⟨I,I,I,I⟩,I,⟨⟨I,I⟩,⟨I,I⟩,⟨I,I⟩,I⟩,⟨I,I⟩,Go.K.c_impl_within _ _ _⟩,dT (by omega),I,I⟩,?_⟩
 refine W.sq ?_
 refine g 19 24 [] ?_
 conv=>whnf
 refine ⟨⟨I,I,I⟩,?_⟩
 refine W.blk ?_
 refine g 9 11 [] ?_
 conv=>whnf
 refine ⟨⟨I,I,I⟩,?_⟩
 refine W.cn ?_
 conv=>whnf
 refine ⟨fun h6=>?_,fun h6=>?_⟩
 replace h6:=dt h6
 refine g 5 74 [.b (false),.b (false),.b (false),.b (false),.b (false),.b (false),.b (false),.b (false),.b (false),.b (false),.b (false),.b (false),.b (false),.b (false),.b (false),.b (false),.b (false),.b (false),.b (false),.b (false),.b (false)] ?_
 conv=>whnf
 refine ⟨⟨I,I,I,I,dF (by omega),dF (by omega),dF (by omega),dF (by omega),I,rfl,rfl,rfl,rfl,I,rfl,rfl,rfl,rfl,I,rfl,rfl,rfl,rfl,rfl,I,rfl,rfl,rfl,rfl,I,I⟩,?_⟩
 refine W.ret ?_
 refine EndsW.rt ?_
 conv=>whnf
 refine ⟨⟨I,I,I⟩,?_,rfl⟩
 rotate_left 1
 replace h6:=df h6
 refine g 7 9 [] ?_
 conv=>whnf
 refine ⟨⟨I,I,I⟩,?_⟩
 refine W.cn ?_
 conv=>whnf
 refine ⟨fun h7=>?_,fun h7=>?_⟩
 replace h7:=dt h7
 by_cases h8:(0:Int) ≤ Worker.task w ∧ Worker.task w ≤ (39:Int)
 by_cases h9:(1:Int) ≤ Worker.cost w ∧ Worker.cost w ≤ (20:Int)
 by_cases h10:(1:Int) ≤ Worker.left w ∧ Worker.left w ≤ Worker.cost w
 by_cases h11:eights (Worker.inputs w)
 refine g 5 99 [.b (true),.b (true),.b (true),.call (V.b (decide ((1:Int) ≤ Worker.cost w ∧ Worker.cost w ≤ (20:Int)))) ([[],[],[]]),.b (true),.b (true),.b (true),.b (true),.b (true),.b (true),.call (V.b (decide ((1:Int) ≤ Worker.left w ∧ Worker.left w ≤ Worker.cost w))) ([[],[],[]]),.b (true),.b (true),.b (true),.b (true),.call (V.b (decide (eights (Worker.inputs w)))) ([[]]),.b (true),.b (true),.b (true),.b (true),.b (true)] ?_
 conv=>whnf
 refine ⟨⟨I,I,⟨dT (by omega),I⟩,⟨dT (by omega),I⟩,⟨dT (by omega),⟨I,I,I,I⟩,I,⟨⟨I,I⟩,⟨I,I⟩,⟨I,I⟩,I⟩,⟨I,I⟩,Go.K.c_impl_within _ _ _⟩,dT (by omega),I,⟨dT (by omega),I⟩,⟨dT (by omega),I⟩,⟨dT (by omega),I⟩,⟨dT (by omega),I⟩,⟨dT (by omega),⟨I,I,I,I⟩,I,⟨⟨I,I⟩,⟨I,I⟩,⟨I,I⟩,I⟩,⟨I,I⟩,Go.K.c_impl_within _ _ _⟩,dT (by omega),I,⟨dT (by omega),I⟩,⟨dT (by omega),I⟩,⟨dT (by omega),⟨I,I⟩,I,⟨⟨I,I⟩,I⟩,⟨I,I⟩,Go.K.c_impl_eights _ (by omega)⟩,dT (by omega),I,⟨dT (by omega),I⟩,⟨dT (by omega),I⟩,⟨dT (by omega),I⟩,dT (by omega),I,I⟩,?_⟩
 refine W.ret ?_
 refine EndsW.rt ?_
 conv=>whnf
 refine ⟨⟨I,I,I⟩,?_,rfl⟩
 rotate_left 1
 refine g 5 99 [.b (true),.b (true),.b (true),.call (V.b (decide ((1:Int) ≤ Worker.cost w ∧ Worker.cost w ≤ (20:Int)))) ([[],[],[]]),.b (true),.b (true),.b (true),.b (true),.b (true),.b (true),.call (V.b (decide ((1:Int) ≤ Worker.left w ∧ Worker.left w ≤ Worker.cost w))) ([[],[],[]]),.b (true),.b (true),.b (true),.b (true),.call (V.b (decide (eights (Worker.inputs w)))) ([[]]),.b (true),.b (false),.b (false),.b (false),.b (false)] ?_
 conv=>whnf
 refine ⟨⟨I,I,⟨dT (by omega),I⟩,⟨dT (by omega),I⟩,⟨dT (by omega),⟨I,I,I,I⟩,I,⟨⟨I,I⟩,⟨I,I⟩,⟨I,I⟩,I⟩,⟨I,I⟩,Go.K.c_impl_within _ _ _⟩,dT (by omega),I,⟨dT (by omega),I⟩,⟨dT (by omega),I⟩,⟨dT (by omega),I⟩,⟨dT (by omega),I⟩,⟨dT (by omega),⟨I,I,I,I⟩,I,⟨⟨I,I⟩,⟨I,I⟩,⟨I,I⟩,I⟩,⟨I,I⟩,Go.K.c_impl_within _ _ _⟩,dT (by omega),I,⟨dT (by omega),I⟩,⟨dT (by omega),I⟩,⟨dT (by omega),⟨I,I⟩,I,⟨⟨I,I⟩,I⟩,⟨I,I⟩,Go.K.c_impl_eights _ (by omega)⟩,dT (by omega),I,dF (by omega),dF (by omega),dF (by omega),dF (by omega),I,I⟩,?_⟩
 refine W.ret ?_
 refine EndsW.rt ?_
 conv=>whnf
 refine ⟨⟨I,I,I⟩,?_,rfl⟩
 rotate_left 1
 refine g 5 99 [.b (true),.b (true),.b (true),.call (V.b (decide ((1:Int) ≤ Worker.cost w ∧ Worker.cost w ≤ (20:Int)))) ([[],[],[]]),.b (true),.b (true),.b (true),.b (true),.b (true),.b (true),.call (V.b (decide ((1:Int) ≤ Worker.left w ∧ Worker.left w ≤ Worker.cost w))) ([[],[],[]]),.b (true),.b (false),.b (false),.b (false),.b (false),.b (false),.b (false),.b (false),.b (false)] ?_
 conv=>whnf
 refine ⟨⟨I,I,⟨dT (by omega),I⟩,⟨dT (by omega),I⟩,⟨dT (by omega),⟨I,I,I,I⟩,I,⟨⟨I,I⟩,⟨I,I⟩,⟨I,I⟩,I⟩,⟨I,I⟩,Go.K.c_impl_within _ _ _⟩,dT (by omega),I,⟨dT (by omega),I⟩,⟨dT (by omega),I⟩,⟨dT (by omega),I⟩,⟨dT (by omega),I⟩,⟨dT (by omega),⟨I,I,I,I⟩,I,⟨⟨I,I⟩,⟨I,I⟩,⟨I,I⟩,I⟩,⟨I,I⟩,Go.K.c_impl_within _ _ _⟩,dT (by omega),I,dF (by omega),dF (by omega),dF (by omega),dF (by omega),I,rfl,rfl,rfl,rfl,I,I⟩,?_⟩
 refine W.ret ?_
 refine EndsW.rt ?_
 conv=>whnf
 refine ⟨⟨I,I,I⟩,?_,rfl⟩
 rotate_left 1
 refine g 5 99 [.b (true),.b (true),.b (true),.call (V.b (decide ((1:Int) ≤ Worker.cost w ∧ Worker.cost w ≤ (20:Int)))) ([[],[],[]]),.b (true),.b (false),.b (false),.b (false),.b (false),.b (false),.b (false),.b (false),.b (false),.b (false),.b (false),.b (false),.b (false),.b (false),.b (false)] ?_
 conv=>whnf
 refine ⟨⟨I,I,⟨dT (by omega),I⟩,⟨dT (by omega),I⟩,⟨dT (by omega),⟨I,I,I,I⟩,I,⟨⟨I,I⟩,⟨I,I⟩,⟨I,I⟩,I⟩,⟨I,I⟩,Go.K.c_impl_within _ _ _⟩,dT (by omega),I,dF (by omega),dF (by omega),dF (by omega),dF (by omega),dF (by omega),dF (by omega),I,rfl,rfl,rfl,rfl,I,rfl,rfl,rfl,rfl,I,I⟩,?_⟩
 refine W.ret ?_
 refine EndsW.rt ?_
 conv=>whnf
 refine ⟨⟨I,I,I⟩,?_,rfl⟩
 rotate_left 1
 refine g 5 99 [.b (false),.b (false),.b (false),.b (false),.b (false),.b (false),.b (false),.b (false),.b (false),.b (false),.b (false),.b (false),.b (false),.b (false),.b (false),.b (false),.b (false),.b (false)] ?_
 conv=>whnf
 refine ⟨⟨I,I,dF (by omega),dF (by omega),dF (by omega),dF (by omega),I,rfl,rfl,rfl,rfl,rfl,rfl,I,rfl,rfl,rfl,rfl,I,rfl,rfl,rfl,rfl,I,I⟩,?_⟩
 refine W.ret ?_
 refine EndsW.rt ?_
 conv=>whnf
 refine ⟨⟨I,I,I⟩,?_,rfl⟩
 rotate_left 1
 replace h7:=df h7
 refine g 18 76 [] ?_
 conv=>whnf
 refine ⟨⟨I,I,I⟩,?_⟩
 refine W.cn ?_
 conv=>whnf
 refine ⟨fun h8=>?_,fun h8=>?_⟩
 replace h8:=dt h8
 by_cases h9:(0:Int) ≤ Worker.task w ∧ Worker.task w ≤ (39:Int)
 by_cases h10:Worker.cost w = (0:Int)
 by_cases h11:Worker.left w = (0:Int)
 by_cases h12:(↑(List.length (List.map strT (Worker.inputs w))):Int) = (0:Int)
 simp only [List.length_map] at h12
 refine g 5 124 [.b (true),.b (true),.b (true),.b (true),.b (true),.b (true),.b (true),.b (true),.b (true),.b (true),.b (true),.b (true),.b (true),.b (true),.b (true),.b (true),.b (true),.b (true)] ?_
 conv=>whnf
 refine ⟨⟨I,I,⟨dT (by omega),I⟩,⟨dT (by omega),I⟩,⟨dT (by omega),I⟩,dT (by omega),I,⟨dT (by omega),I⟩,⟨dT (by omega),I⟩,⟨dT (by omega),I⟩,dT (by omega),I,⟨dT (by omega),I⟩,⟨dT (by omega),I⟩,⟨dT (by omega),I⟩,⟨dT (by omega),I⟩,dT (by omega),I,⟨(by simp [*]),I⟩,⟨(by simp [*]),I⟩,⟨(by simp [*]),I⟩,⟨(by simp [*]),I⟩,(by simp [*]),I,I⟩,?_⟩
 refine W.ret ?_
 refine EndsW.rt ?_
 conv=>whnf
 refine ⟨⟨I,I,I⟩,?_,rfl⟩
 rotate_left 1
 simp only [List.length_map] at h12
 refine g 5 124 [.b (true),.b (true),.b (true),.b (true),.b (true),.b (true),.b (true),.b (true),.b (true),.b (true),.b (true),.b (true),.b (true),.b (false),.b (false),.b (false),.b (false),.b (false)] ?_
 conv=>whnf
 refine ⟨⟨I,I,⟨dT (by omega),I⟩,⟨dT (by omega),I⟩,⟨dT (by omega),I⟩,dT (by omega),I,⟨dT (by omega),I⟩,⟨dT (by omega),I⟩,⟨dT (by omega),I⟩,dT (by omega),I,⟨dT (by omega),I⟩,⟨dT (by omega),I⟩,⟨dT (by omega),I⟩,⟨dT (by omega),I⟩,dT (by omega),I,(by simp_all),(by simp_all),(by simp_all),(by simp_all),(by simp_all),I,I⟩,?_⟩
 refine W.ret ?_
 refine EndsW.rt ?_
 conv=>whnf
 refine ⟨⟨I,I,I⟩,?_,rfl⟩
 rotate_left 1
 refine g 5 124 [.b (true),.b (true),.b (true),.b (true),.b (true),.b (true),.b (true),.b (true),.b (false),.b (false),.b (false),.b (false),.b (false),.b (false),.b (false),.b (false),.b (false),.b (false)] ?_
 conv=>whnf
 refine ⟨⟨I,I,⟨dT (by omega),I⟩,⟨dT (by omega),I⟩,⟨dT (by omega),I⟩,dT (by omega),I,⟨dT (by omega),I⟩,⟨dT (by omega),I⟩,⟨dT (by omega),I⟩,dT (by omega),I,dF (by omega),dF (by omega),dF (by omega),dF (by omega),dF (by omega),I,rfl,rfl,rfl,rfl,rfl,I,I⟩,?_⟩
 refine W.ret ?_
 refine EndsW.rt ?_
 conv=>whnf
 refine ⟨⟨I,I,I⟩,?_,rfl⟩
 rotate_left 1
 refine g 5 124 [.b (true),.b (true),.b (true),.b (true),.b (false),.b (false),.b (false),.b (false),.b (false),.b (false),.b (false),.b (false),.b (false),.b (false),.b (false),.b (false),.b (false),.b (false)] ?_
 conv=>whnf
 refine ⟨⟨I,I,⟨dT (by omega),I⟩,⟨dT (by omega),I⟩,⟨dT (by omega),I⟩,dT (by omega),I,dF (by omega),dF (by omega),dF (by omega),dF (by omega),I,rfl,rfl,rfl,rfl,rfl,I,rfl,rfl,rfl,rfl,rfl,I,I⟩,?_⟩
 refine W.ret ?_
 refine EndsW.rt ?_
 conv=>whnf
 refine ⟨⟨I,I,I⟩,?_,rfl⟩
 rotate_left 1
 refine g 5 124 [.b (false),.b (false),.b (false),.b (false),.b (false),.b (false),.b (false),.b (false),.b (false),.b (false),.b (false),.b (false),.b (false),.b (false),.b (false),.b (false),.b (false),.b (false)] ?_
 conv=>whnf
 refine ⟨⟨I,I,dF (by omega),dF (by omega),dF (by omega),dF (by omega),I,rfl,rfl,rfl,rfl,I,rfl,rfl,rfl,rfl,rfl,I,rfl,rfl,rfl,rfl,rfl,I,I⟩,?_⟩
 refine W.ret ?_
 refine EndsW.rt ?_
 conv=>whnf
 refine ⟨⟨I,I,I⟩,?_,rfl⟩
 rotate_left 1
 replace h8:=df h8
 refine W.skip ?_
 refine g 5 101 [] ?_
 conv=>whnf
 refine ⟨⟨I,I⟩,?_⟩
 refine W.ret ?_
 refine EndsW.rt ?_
 conv=>whnf
 refine ⟨⟨I,I,I⟩,?_,rfl⟩
 rotate_left 1
 refine g 32 41 [.call (V.b (decide ((1:Int) ≤ Worker.lease w ∧ Worker.lease w ≤ (300000000:Int)))) ([[],[],[]]),.b (false),.b (false),.b (false),.b (false)] ?_
 conv=>whnf
 refine ⟨⟨I,I,⟨⟨I,I,I,I⟩,I,⟨⟨I,I⟩,⟨I,I⟩,⟨I,I⟩,I⟩,⟨I,I⟩,Go.K.c_impl_within _ _ _⟩,I,dF (by omega),dF (by omega),dF (by omega),dF (by omega),I,I⟩,?_⟩
 refine W.sq ?_
 refine g 19 24 [] ?_
 conv=>whnf
 refine ⟨⟨I,I,I⟩,?_⟩
 refine W.blk ?_
 refine g 9 11 [] ?_
 conv=>whnf
 refine ⟨⟨I,I,I⟩,?_⟩
 refine W.cn ?_
 conv=>whnf
 refine ⟨fun h6=>?_,fun h6=>?_⟩
 replace h6:=dt h6
 by_cases h7:Worker.lease w = (0:Int)
 by_cases h8:Worker.task w = (0:Int)
 by_cases h9:Worker.cost w = (0:Int)
 by_cases h10:Worker.left w = (0:Int)
 by_cases h11:(↑(List.length (List.map strT (Worker.inputs w))):Int) = (0:Int)
 simp only [List.length_map] at h11
 refine g 5 74 [.b (true),.b (true),.b (true),.b (true),.b (true),.b (true),.b (true),.b (true),.b (true),.b (true),.b (true),.b (true),.b (true),.b (true),.b (true),.b (true),.b (true),.b (true),.b (true),.b (true),.b (true)] ?_
 conv=>whnf
 refine ⟨⟨I,I,I,I,⟨dT (by omega),I⟩,⟨dT (by omega),I⟩,⟨dT (by omega),I⟩,dT (by omega),I,⟨dT (by omega),I⟩,⟨dT (by omega),I⟩,⟨dT (by omega),I⟩,dT (by omega),I,⟨dT (by omega),I⟩,⟨dT (by omega),I⟩,⟨dT (by omega),I⟩,dT (by omega),I,⟨dT (by omega),I⟩,⟨dT (by omega),I⟩,⟨dT (by omega),I⟩,⟨dT (by omega),I⟩,dT (by omega),I,⟨(by simp [*]),I⟩,⟨(by simp [*]),I⟩,⟨(by simp [*]),I⟩,(by simp [*]),I,I⟩,?_⟩
 refine W.ret ?_
 refine EndsW.rt ?_
 conv=>whnf
 refine ⟨⟨I,I,I⟩,?_,rfl⟩
 rotate_left 1
 simp only [List.length_map] at h11
 refine g 5 74 [.b (true),.b (true),.b (true),.b (true),.b (true),.b (true),.b (true),.b (true),.b (true),.b (true),.b (true),.b (true),.b (true),.b (true),.b (true),.b (true),.b (true),.b (false),.b (false),.b (false),.b (false)] ?_
 conv=>whnf
 refine ⟨⟨I,I,I,I,⟨dT (by omega),I⟩,⟨dT (by omega),I⟩,⟨dT (by omega),I⟩,dT (by omega),I,⟨dT (by omega),I⟩,⟨dT (by omega),I⟩,⟨dT (by omega),I⟩,dT (by omega),I,⟨dT (by omega),I⟩,⟨dT (by omega),I⟩,⟨dT (by omega),I⟩,dT (by omega),I,⟨dT (by omega),I⟩,⟨dT (by omega),I⟩,⟨dT (by omega),I⟩,⟨dT (by omega),I⟩,dT (by omega),I,(by simp_all),(by simp_all),(by simp_all),(by simp_all),I,I⟩,?_⟩
 refine W.ret ?_
 refine EndsW.rt ?_
 conv=>whnf
 refine ⟨⟨I,I,I⟩,?_,rfl⟩
 rotate_left 1
 refine g 5 74 [.b (true),.b (true),.b (true),.b (true),.b (true),.b (true),.b (true),.b (true),.b (true),.b (true),.b (true),.b (true),.b (false),.b (false),.b (false),.b (false),.b (false),.b (false),.b (false),.b (false),.b (false)] ?_
 conv=>whnf
 refine ⟨⟨I,I,I,I,⟨dT (by omega),I⟩,⟨dT (by omega),I⟩,⟨dT (by omega),I⟩,dT (by omega),I,⟨dT (by omega),I⟩,⟨dT (by omega),I⟩,⟨dT (by omega),I⟩,dT (by omega),I,⟨dT (by omega),I⟩,⟨dT (by omega),I⟩,⟨dT (by omega),I⟩,dT (by omega),I,dF (by omega),dF (by omega),dF (by omega),dF (by omega),dF (by omega),I,rfl,rfl,rfl,rfl,I,I⟩,?_⟩
 refine W.ret ?_
 refine EndsW.rt ?_
 conv=>whnf
 refine ⟨⟨I,I,I⟩,?_,rfl⟩
 rotate_left 1
 refine g 5 74 [.b (true),.b (true),.b (true),.b (true),.b (true),.b (true),.b (true),.b (true),.b (false),.b (false),.b (false),.b (false),.b (false),.b (false),.b (false),.b (false),.b (false),.b (false),.b (false),.b (false),.b (false)] ?_
 conv=>whnf
 refine ⟨⟨I,I,I,I,⟨dT (by omega),I⟩,⟨dT (by omega),I⟩,⟨dT (by omega),I⟩,dT (by omega),I,⟨dT (by omega),I⟩,⟨dT (by omega),I⟩,⟨dT (by omega),I⟩,dT (by omega),I,dF (by omega),dF (by omega),dF (by omega),dF (by omega),I,rfl,rfl,rfl,rfl,rfl,I,rfl,rfl,rfl,rfl,I,I⟩,?_⟩
 refine W.ret ?_
 refine EndsW.rt ?_
 conv=>whnf
 refine ⟨⟨I,I,I⟩,?_,rfl⟩
 rotate_left 1
 refine g 5 74 [.b (true),.b (true),.b (true),.b (true),.b (false),.b (false),.b (false),.b (false),.b (false),.b (false),.b (false),.b (false),.b (false),.b (false),.b (false),.b (false),.b (false),.b (false),.b (false),.b (false),.b (false)] ?_
 conv=>whnf
 refine ⟨⟨I,I,I,I,⟨dT (by omega),I⟩,⟨dT (by omega),I⟩,⟨dT (by omega),I⟩,dT (by omega),I,dF (by omega),dF (by omega),dF (by omega),dF (by omega),I,rfl,rfl,rfl,rfl,I,rfl,rfl,rfl,rfl,rfl,I,rfl,rfl,rfl,rfl,I,I⟩,?_⟩
 refine W.ret ?_
 refine EndsW.rt ?_
 conv=>whnf
 refine ⟨⟨I,I,I⟩,?_,rfl⟩
 rotate_left 1
 refine g 5 74 [.b (false),.b (false),.b (false),.b (false),.b (false),.b (false),.b (false),.b (false),.b (false),.b (false),.b (false),.b (false),.b (false),.b (false),.b (false),.b (false),.b (false),.b (false),.b (false),.b (false),.b (false)] ?_
 conv=>whnf
 refine ⟨⟨I,I,I,I,dF (by omega),dF (by omega),dF (by omega),dF (by omega),I,rfl,rfl,rfl,rfl,I,rfl,rfl,rfl,rfl,I,rfl,rfl,rfl,rfl,rfl,I,rfl,rfl,rfl,rfl,I,I⟩,?_⟩
 refine W.ret ?_
 refine EndsW.rt ?_
 conv=>whnf
 refine ⟨⟨I,I,I⟩,?_,rfl⟩
 rotate_left 1
 replace h6:=df h6
 refine g 7 9 [] ?_
 conv=>whnf
 refine ⟨⟨I,I,I⟩,?_⟩
 refine W.cn ?_
 conv=>whnf
 refine ⟨fun h7=>?_,fun h7=>?_⟩
 replace h7:=dt h7
 refine g 5 99 [.b (false),.b (false),.b (false),.b (false),.b (false),.b (false),.b (false),.b (false),.b (false),.b (false),.b (false),.b (false),.b (false),.b (false),.b (false),.b (false),.b (false),.b (false)] ?_
 conv=>whnf
 refine ⟨⟨I,I,rfl,rfl,rfl,rfl,I,rfl,rfl,rfl,rfl,rfl,rfl,I,rfl,rfl,rfl,rfl,I,rfl,rfl,rfl,rfl,I,I⟩,?_⟩
 refine W.ret ?_
 refine EndsW.rt ?_
 conv=>whnf
 refine ⟨⟨I,I,I⟩,?_,rfl⟩
 rotate_left 1
 replace h7:=df h7
 refine g 18 76 [] ?_
 conv=>whnf
 refine ⟨⟨I,I,I⟩,?_⟩
 refine W.cn ?_
 conv=>whnf
 refine ⟨fun h8=>?_,fun h8=>?_⟩
 replace h8:=dt h8
 refine g 5 124 [.b (false),.b (false),.b (false),.b (false),.b (false),.b (false),.b (false),.b (false),.b (false),.b (false),.b (false),.b (false),.b (false),.b (false),.b (false),.b (false),.b (false),.b (false)] ?_
 conv=>whnf
 refine ⟨⟨I,I,rfl,rfl,rfl,rfl,I,rfl,rfl,rfl,rfl,I,rfl,rfl,rfl,rfl,rfl,I,rfl,rfl,rfl,rfl,rfl,I,I⟩,?_⟩
 refine W.ret ?_
 refine EndsW.rt ?_
 conv=>whnf
 refine ⟨⟨I,I,I⟩,?_,rfl⟩
 rotate_left 1
 replace h8:=df h8
 refine W.skip ?_
 refine g 5 101 [] ?_
 conv=>whnf
 refine ⟨⟨I,I⟩,?_⟩
 refine W.ret ?_
 refine EndsW.rt ?_
 conv=>whnf
 refine ⟨⟨I,I,I⟩,?_,rfl⟩
 rotate_left 1
 replace h4:=Bool.eq_false_iff.2 h4
 by_cases h5:Worker.state w = (0:Int)
 refine g 25 32 [.b (true),.b (true),.b (true),.b (true),.b (false),.b (false),.b (false),.b (true),.b (false),.b (true)] ?_
 conv=>whnf
 refine ⟨⟨I,I,I,I,⟨nbT (by assumption),I⟩,⟨nbT (by assumption),I⟩,⟨nbT (by assumption),I⟩,⟨nbT (by assumption),I⟩,⟨notF (by omega),I⟩,⟨notF (by omega),I⟩,⟨notF (by omega),I⟩,⟨nbT (by assumption),notF (by omega)⟩,nbT (by assumption),I⟩,?_⟩
 refine W.cn ?_
 conv=>whnf
 refine ⟨fun h6=>?_,fun h6=>?_⟩
 replace h6:=ndt h6
 refine g 19 24 [] ?_
 conv=>whnf
 refine ⟨⟨I,I⟩,?_⟩
 refine W.ret ?_
 refine EndsW.rt ?_
 conv=>whnf
 refine ⟨⟨I,I,I⟩,?_,rfl⟩
 rotate_left 1
 replace h6:=ndf h6
 refine W.skip ?_
 by_cases h7:(1:Int) ≤ Worker.lease w ∧ Worker.lease w ≤ (300000000:Int)
 refine g 32 41 [.call (V.b (decide ((1:Int) ≤ Worker.lease w ∧ Worker.lease w ≤ (300000000:Int)))) ([[],[],[]]),.b (true),.b (true),.b (true),.call (V.b (decide ((0:Int) ≤ Worker.task w ∧ Worker.task w ≤ (39:Int)))) ([[],[],[]]),.b (true)] ?_
 conv=>whnf
 refine ⟨⟨I,I,⟨⟨I,I,I,I⟩,I,⟨⟨I,I⟩,⟨I,I⟩,⟨I,I⟩,I⟩,⟨I,I⟩,Go.K.c_impl_within _ _ _⟩,I,⟨dT (by omega),I⟩,⟨dT (by omega),I⟩,⟨dT (by omega),⟨I,I,I,I⟩,I,⟨⟨I,I⟩,⟨I,I⟩,⟨I,I⟩,I⟩,⟨I,I⟩,Go.K.c_impl_within _ _ _⟩,dT (by omega),I,I⟩,?_⟩
 refine W.sq ?_
 refine g 19 24 [] ?_
 conv=>whnf
 refine ⟨⟨I,I,I⟩,?_⟩
 refine W.blk ?_
 refine g 9 11 [] ?_
 conv=>whnf
 refine ⟨⟨I,I,I⟩,?_⟩
 refine W.cn ?_
 conv=>whnf
 refine ⟨fun _=>?_,noF (dT (by omega))⟩
 refine g 5 74 [.b (false),.b (false),.b (false),.b (false),.b (false),.b (false),.b (false),.b (false),.b (false),.b (false),.b (false),.b (false),.b (false),.b (false),.b (false),.b (false),.b (false),.b (false),.b (false),.b (false),.b (false)] ?_
 conv=>whnf
 refine ⟨⟨I,I,I,I,dF (by omega),dF (by omega),dF (by omega),dF (by omega),I,rfl,rfl,rfl,rfl,I,rfl,rfl,rfl,rfl,I,rfl,rfl,rfl,rfl,rfl,I,rfl,rfl,rfl,rfl,I,I⟩,?_⟩
 refine W.ret ?_
 refine EndsW.rt ?_
 conv=>whnf
 refine ⟨⟨I,I,I⟩,?_,rfl⟩
 rotate_left 1
 refine g 32 41 [.call (V.b (decide ((1:Int) ≤ Worker.lease w ∧ Worker.lease w ≤ (300000000:Int)))) ([[],[],[]]),.b (false),.b (false),.b (false),.b (false)] ?_
 conv=>whnf
 refine ⟨⟨I,I,⟨⟨I,I,I,I⟩,I,⟨⟨I,I⟩,⟨I,I⟩,⟨I,I⟩,I⟩,⟨I,I⟩,Go.K.c_impl_within _ _ _⟩,I,dF (by omega),dF (by omega),dF (by omega),dF (by omega),I,I⟩,?_⟩
 refine W.sq ?_
 refine g 19 24 [] ?_
 conv=>whnf
 refine ⟨⟨I,I,I⟩,?_⟩
 refine W.blk ?_
 refine g 9 11 [] ?_
 conv=>whnf
 refine ⟨⟨I,I,I⟩,?_⟩
 refine W.cn ?_
 conv=>whnf
 refine ⟨fun _=>?_,noF (dT (by omega))⟩
 by_cases h8:Worker.lease w = (0:Int)
 by_cases h9:Worker.task w = (0:Int)
 by_cases h10:Worker.cost w = (0:Int)
 by_cases h11:Worker.left w = (0:Int)
 by_cases h12:(↑(List.length (List.map strT (Worker.inputs w))):Int) = (0:Int)
 simp only [List.length_map] at h12
 refine g 5 74 [.b (true),.b (true),.b (true),.b (true),.b (true),.b (true),.b (true),.b (true),.b (true),.b (true),.b (true),.b (true),.b (true),.b (true),.b (true),.b (true),.b (true),.b (true),.b (true),.b (true),.b (true)] ?_
 conv=>whnf
 refine ⟨⟨I,I,I,I,⟨dT (by omega),I⟩,⟨dT (by omega),I⟩,⟨dT (by omega),I⟩,dT (by omega),I,⟨dT (by omega),I⟩,⟨dT (by omega),I⟩,⟨dT (by omega),I⟩,dT (by omega),I,⟨dT (by omega),I⟩,⟨dT (by omega),I⟩,⟨dT (by omega),I⟩,dT (by omega),I,⟨dT (by omega),I⟩,⟨dT (by omega),I⟩,⟨dT (by omega),I⟩,⟨dT (by omega),I⟩,dT (by omega),I,⟨(by simp [*]),I⟩,⟨(by simp [*]),I⟩,⟨(by simp [*]),I⟩,(by simp [*]),I,I⟩,?_⟩
 refine W.ret ?_
 refine EndsW.rt ?_
 conv=>whnf
 refine ⟨⟨I,I,I⟩,?_,rfl⟩
 rotate_left 1
 simp only [List.length_map] at h12
 refine g 5 74 [.b (true),.b (true),.b (true),.b (true),.b (true),.b (true),.b (true),.b (true),.b (true),.b (true),.b (true),.b (true),.b (true),.b (true),.b (true),.b (true),.b (true),.b (false),.b (false),.b (false),.b (false)] ?_
 conv=>whnf
 refine ⟨⟨I,I,I,I,⟨dT (by omega),I⟩,⟨dT (by omega),I⟩,⟨dT (by omega),I⟩,dT (by omega),I,⟨dT (by omega),I⟩,⟨dT (by omega),I⟩,⟨dT (by omega),I⟩,dT (by omega),I,⟨dT (by omega),I⟩,⟨dT (by omega),I⟩,⟨dT (by omega),I⟩,dT (by omega),I,⟨dT (by omega),I⟩,⟨dT (by omega),I⟩,⟨dT (by omega),I⟩,⟨dT (by omega),I⟩,dT (by omega),I,(by simp_all),(by simp_all),(by simp_all),(by simp_all),I,I⟩,?_⟩
 refine W.ret ?_
 refine EndsW.rt ?_
 conv=>whnf
 refine ⟨⟨I,I,I⟩,?_,rfl⟩
 rotate_left 1
 refine g 5 74 [.b (true),.b (true),.b (true),.b (true),.b (true),.b (true),.b (true),.b (true),.b (true),.b (true),.b (true),.b (true),.b (false),.b (false),.b (false),.b (false),.b (false),.b (false),.b (false),.b (false),.b (false)] ?_
 conv=>whnf
 refine ⟨⟨I,I,I,I,⟨dT (by omega),I⟩,⟨dT (by omega),I⟩,⟨dT (by omega),I⟩,dT (by omega),I,⟨dT (by omega),I⟩,⟨dT (by omega),I⟩,⟨dT (by omega),I⟩,dT (by omega),I,⟨dT (by omega),I⟩,⟨dT (by omega),I⟩,⟨dT (by omega),I⟩,dT (by omega),I,dF (by omega),dF (by omega),dF (by omega),dF (by omega),dF (by omega),I,rfl,rfl,rfl,rfl,I,I⟩,?_⟩
 refine W.ret ?_
 refine EndsW.rt ?_
 conv=>whnf
 refine ⟨⟨I,I,I⟩,?_,rfl⟩
 rotate_left 1
 refine g 5 74 [.b (true),.b (true),.b (true),.b (true),.b (true),.b (true),.b (true),.b (true),.b (false),.b (false),.b (false),.b (false),.b (false),.b (false),.b (false),.b (false),.b (false),.b (false),.b (false),.b (false),.b (false)] ?_
 conv=>whnf
 refine ⟨⟨I,I,I,I,⟨dT (by omega),I⟩,⟨dT (by omega),I⟩,⟨dT (by omega),I⟩,dT (by omega),I,⟨dT (by omega),I⟩,⟨dT (by omega),I⟩,⟨dT (by omega),I⟩,dT (by omega),I,dF (by omega),dF (by omega),dF (by omega),dF (by omega),I,rfl,rfl,rfl,rfl,rfl,I,rfl,rfl,rfl,rfl,I,I⟩,?_⟩
 refine W.ret ?_
 refine EndsW.rt ?_
 conv=>whnf
 refine ⟨⟨I,I,I⟩,?_,rfl⟩
 rotate_left 1
 refine g 5 74 [.b (true),.b (true),.b (true),.b (true),.b (false),.b (false),.b (false),.b (false),.b (false),.b (false),.b (false),.b (false),.b (false),.b (false),.b (false),.b (false),.b (false),.b (false),.b (false),.b (false),.b (false)] ?_
 conv=>whnf
 refine ⟨⟨I,I,I,I,⟨dT (by omega),I⟩,⟨dT (by omega),I⟩,⟨dT (by omega),I⟩,dT (by omega),I,dF (by omega),dF (by omega),dF (by omega),dF (by omega),I,rfl,rfl,rfl,rfl,I,rfl,rfl,rfl,rfl,rfl,I,rfl,rfl,rfl,rfl,I,I⟩,?_⟩
 refine W.ret ?_
 refine EndsW.rt ?_
 conv=>whnf
 refine ⟨⟨I,I,I⟩,?_,rfl⟩
 rotate_left 1
 refine g 5 74 [.b (false),.b (false),.b (false),.b (false),.b (false),.b (false),.b (false),.b (false),.b (false),.b (false),.b (false),.b (false),.b (false),.b (false),.b (false),.b (false),.b (false),.b (false),.b (false),.b (false),.b (false)] ?_
 conv=>whnf
 refine ⟨⟨I,I,I,I,dF (by omega),dF (by omega),dF (by omega),dF (by omega),I,rfl,rfl,rfl,rfl,I,rfl,rfl,rfl,rfl,I,rfl,rfl,rfl,rfl,rfl,I,rfl,rfl,rfl,rfl,I,I⟩,?_⟩
 refine W.ret ?_
 refine EndsW.rt ?_
 conv=>whnf
 refine ⟨⟨I,I,I⟩,?_,rfl⟩
 rotate_left 1
 refine g 25 32 [.b (true),.b (true),.b (true),.b (true),.b (true),.b (true),.b (true),.b (true),.b (true),.b (true)] ?_
 conv=>whnf
 refine ⟨⟨I,I,I,I,⟨nbT (by assumption),I⟩,⟨nbT (by assumption),I⟩,⟨nbT (by assumption),I⟩,⟨nbT (by assumption),I⟩,notT (by omega),notT (by omega),notT (by omega),⟨nbT (by assumption),notT (by omega)⟩,nbT (by assumption),I⟩,?_⟩
 refine W.cn ?_
 conv=>whnf
 refine ⟨fun _=>?_,noF (rfl)⟩
 refine g 19 24 [] ?_
 conv=>whnf
 refine ⟨⟨I,I⟩,?_⟩
 refine W.ret ?_
 refine EndsW.rt ?_
 conv=>whnf
 refine ⟨⟨I,I,I⟩,?_,rfl⟩
 rotate_left 1
 refine g 14 17 [.call (V.b (decide ((1:Int) ≤ Worker.number w ∧ Worker.number w ≤ (8:Int)))) ([[],[],[]]),.b (false),.b (false),.b (false),.call (V.b (decide ((1:Int) ≤ Worker.epoch w ∧ Worker.epoch w ≤ (300:Int)))) ([[],[],[]]),.b (false),.b (false),.b (true),.b (true),.b (true),.b (true),.b (true)] ?_
 conv=>whnf
 refine ⟨⟨I,I,⟨⟨I,I,I,I⟩,I,⟨⟨I,I⟩,⟨I,I⟩,⟨I,I⟩,I⟩,⟨I,I⟩,Go.K.c_impl_within _ _ _⟩,I,I,⟨notF (by omega),I⟩,⟨notF (by omega),I⟩,⟨notF (by omega),⟨I,I,I,I⟩,I,⟨⟨I,I⟩,⟨I,I⟩,⟨I,I⟩,I⟩,⟨I,I⟩,Go.K.c_impl_within _ _ _⟩,⟨notF (by omega),I⟩,notF (by omega),I,notT (by omega),notT (by omega),notT (by omega),notT (by omega),notT (by omega),I⟩,?_⟩
 refine W.cn ?_
 conv=>whnf
 refine ⟨fun _=>?_,noF (rfl)⟩
 refine g 9 11 [] ?_
 conv=>whnf
 refine ⟨⟨I,I⟩,?_⟩
 refine W.ret ?_
 refine EndsW.rt ?_
 conv=>whnf
 refine ⟨⟨I,I,I⟩,?_,rfl⟩
 rotate_left 1
 refine g 14 17 [.call (V.b (decide ((1:Int) ≤ Worker.number w ∧ Worker.number w ≤ (8:Int)))) ([[],[],[]]),.b (true),.b (true),.b (true),.b (true),.b (true),.b (true),.b (true),.b (true),.b (true),.b (true)] ?_
 conv=>whnf
 refine ⟨⟨I,I,⟨⟨I,I,I,I⟩,I,⟨⟨I,I⟩,⟨I,I⟩,⟨I,I⟩,I⟩,⟨I,I⟩,Go.K.c_impl_within _ _ _⟩,I,I,notT (by omega),notT (by omega),notT (by omega),notT (by omega),notT (by omega),I,rfl,rfl,rfl,rfl,rfl,I⟩,?_⟩
 refine W.cn ?_
 conv=>whnf
 refine ⟨fun _=>?_,noF (rfl)⟩
 refine g 9 11 [] ?_
 conv=>whnf
 refine ⟨⟨I,I⟩,?_⟩
 refine W.ret ?_
 refine EndsW.rt ?_
 conv=>whnf
 refine ⟨⟨I,I,I⟩,?_,rfl⟩
 rotate_left 1
 all_goals (try simp only [List.length_map,decide_eq_true_eq,Bool.not_eq_true,Bool.not_eq_true',decide_eq_false_iff_not] at *)
 all_goals first
  | exact vbf (by unfold workerOk workFreeOk workBusyOk workToldOk workHeld; grind)
  | exact vbt (by unfold workerOk workFreeOk workBusyOk workToldOk workHeld; grind)
  | exact vbd (by unfold workerOk workFreeOk workBusyOk workToldOk workHeld; grind)
theorem c_spec_ValidWorker (w:Worker) (hl:w.inputs.length ≤ 9223372036854775806):F n_spec_ValidWorker [.val (workerR w)] (.b (decide (workerOk w))) [[]]:=by
 refine i_spec_ValidWorker ?_
 conv=>whnf
 refine g 0 1 [] ?_
 conv=>whnf
 refine ⟨⟨⟨I,I,I,I,I,I,I,I,I,I,I,I⟩,I,I⟩,?_⟩
 refine W.sq ?_
 by_cases h1:(1:Int) ≤ Worker.number w ∧ Worker.number w ≤ (8:Int)
 by_cases h2:(1:Int) ≤ Worker.epoch w ∧ Worker.epoch w ≤ (300:Int)
 refine g 9 13 [.call (V.b (decide ((1:Int) ≤ Worker.number w ∧ Worker.number w ≤ (8:Int)))) ([[],[],[]]),.b (false),.b (false),.b (false),.call (V.b (decide ((1:Int) ≤ Worker.epoch w ∧ Worker.epoch w ≤ (300:Int)))) ([[],[],[]]),.b (false),.b (false),.b (false),.b (false),.b (false),.call (V.b (decide ((0:Int) ≤ Worker.since w ∧ Worker.since w ≤ (1000000:Int)))) ([[],[],[]]),.b (false),.b (false)] ?_
 conv=>whnf
 refine ⟨⟨I,I,⟨⟨I,I,I,I⟩,I,⟨⟨I,I⟩,⟨I,I⟩,⟨I,I⟩,I⟩,⟨I,I⟩,Go.K.c_spec_l2In _ _ _⟩,I,I,⟨notF (by omega),I⟩,⟨notF (by omega),I⟩,⟨notF (by omega),⟨I,I,I,I⟩,I,⟨⟨I,I⟩,⟨I,I⟩,⟨I,I⟩,I⟩,⟨I,I⟩,Go.K.c_spec_l2In _ _ _⟩,⟨notF (by omega),I⟩,notF (by omega),I,⟨notF (by omega),I⟩,⟨notF (by omega),I⟩,⟨notF (by omega),⟨I,I,I,I⟩,I,⟨⟨I,I⟩,⟨I,I⟩,⟨I,I⟩,I⟩,⟨I,I⟩,Go.K.c_spec_l2In _ _ _⟩,⟨notF (by omega),I⟩,notF (by omega),I⟩,?_⟩
 refine W.cn ?_
 conv=>whnf
 refine ⟨fun h3=>?_,fun h3=>?_⟩
 replace h3:=ndt h3
 refine g 15 18 [] ?_
 conv=>whnf
 refine ⟨⟨I,I⟩,?_⟩
 refine W.ret ?_
 refine EndsW.rt ?_
 conv=>whnf
 refine ⟨⟨I,I,I⟩,?_,rfl⟩
 rotate_left 1
 replace h3:=ndf h3
 refine W.skip ?_
 refine W.sq ?_
 by_cases h4:Worker.up w = true
 refine g 26 31 [.b (false),.b (false),.b (false),.b (false),.b (false),.b (false),.b (false),.b (false),.b (false)] ?_
 conv=>whnf
 refine ⟨⟨I,I,I,I,nbF (by assumption),nbF (by assumption),nbF (by assumption),nbF (by assumption),I,I,I,nbF (by assumption),nbF (by assumption),I⟩,?_⟩
 refine W.cn ?_
 conv=>whnf
 refine ⟨noT (rfl),fun _=>?_⟩
 refine W.skip ?_
 refine W.sq ?_
 refine g 5 8 [] ?_
 conv=>whnf
 refine ⟨⟨I,I,I⟩,?_⟩
 refine W.blk ?_
 refine g 15 18 [] ?_
 conv=>whnf
 refine ⟨⟨I,I,I⟩,?_⟩
 refine W.cn ?_
 conv=>whnf
 refine ⟨fun h5=>?_,fun h5=>?_⟩
 replace h5:=dt h5
 by_cases h6:Worker.lease w = (0:Int)
 by_cases h7:Worker.task w = (0:Int)
 by_cases h8:Worker.cost w = (0:Int)
 by_cases h9:Worker.left w = (0:Int)
 by_cases h10:(↑(List.length (List.map strT (Worker.inputs w))):Int) = (0:Int)
 simp only [List.length_map] at h10
 refine g 8 65 [.b (true),.b (true),.b (true),.b (true),.b (true),.b (true),.b (true),.b (true),.b (true),.b (true),.b (true),.b (true),.b (true),.b (true),.b (true),.b (true),.b (true),.b (true),.b (true),.b (true),.b (true)] ?_
 conv=>whnf
 refine ⟨⟨I,I,I,I,⟨dT (by omega),I⟩,⟨dT (by omega),I⟩,⟨dT (by omega),I⟩,dT (by omega),I,⟨dT (by omega),I⟩,⟨dT (by omega),I⟩,⟨dT (by omega),I⟩,dT (by omega),I,⟨dT (by omega),I⟩,⟨dT (by omega),I⟩,⟨dT (by omega),I⟩,dT (by omega),I,⟨dT (by omega),I⟩,⟨dT (by omega),I⟩,⟨dT (by omega),I⟩,⟨dT (by omega),I⟩,dT (by omega),I,⟨(by simp [*]),I⟩,⟨(by simp [*]),I⟩,⟨(by simp [*]),I⟩,(by simp [*]),I,I⟩,?_⟩
 refine W.ret ?_
 refine EndsW.rt ?_
 conv=>whnf
 refine ⟨⟨I,I,I⟩,?_,rfl⟩
 rotate_left 1
 simp only [List.length_map] at h10
 refine g 8 65 [.b (true),.b (true),.b (true),.b (true),.b (true),.b (true),.b (true),.b (true),.b (true),.b (true),.b (true),.b (true),.b (true),.b (true),.b (true),.b (true),.b (true),.b (false),.b (false),.b (false),.b (false)] ?_
 conv=>whnf
 refine ⟨⟨I,I,I,I,⟨dT (by omega),I⟩,⟨dT (by omega),I⟩,⟨dT (by omega),I⟩,dT (by omega),I,⟨dT (by omega),I⟩,⟨dT (by omega),I⟩,⟨dT (by omega),I⟩,dT (by omega),I,⟨dT (by omega),I⟩,⟨dT (by omega),I⟩,⟨dT (by omega),I⟩,dT (by omega),I,⟨dT (by omega),I⟩,⟨dT (by omega),I⟩,⟨dT (by omega),I⟩,⟨dT (by omega),I⟩,dT (by omega),I,(by simp_all),(by simp_all),(by simp_all),(by simp_all),I,I⟩,?_⟩
 refine W.ret ?_
 refine EndsW.rt ?_
 conv=>whnf
 refine ⟨⟨I,I,I⟩,?_,rfl⟩
 rotate_left 1
 refine g 8 65 [.b (true),.b (true),.b (true),.b (true),.b (true),.b (true),.b (true),.b (true),.b (true),.b (true),.b (true),.b (true),.b (false),.b (false),.b (false),.b (false),.b (false),.b (false),.b (false),.b (false),.b (false)] ?_
 conv=>whnf
 refine ⟨⟨I,I,I,I,⟨dT (by omega),I⟩,⟨dT (by omega),I⟩,⟨dT (by omega),I⟩,dT (by omega),I,⟨dT (by omega),I⟩,⟨dT (by omega),I⟩,⟨dT (by omega),I⟩,dT (by omega),I,⟨dT (by omega),I⟩,⟨dT (by omega),I⟩,⟨dT (by omega),I⟩,dT (by omega),I,dF (by omega),dF (by omega),dF (by omega),dF (by omega),dF (by omega),I,rfl,rfl,rfl,rfl,I,I⟩,?_⟩
 refine W.ret ?_
 refine EndsW.rt ?_
 conv=>whnf
 refine ⟨⟨I,I,I⟩,?_,rfl⟩
 rotate_left 1
 refine g 8 65 [.b (true),.b (true),.b (true),.b (true),.b (true),.b (true),.b (true),.b (true),.b (false),.b (false),.b (false),.b (false),.b (false),.b (false),.b (false),.b (false),.b (false),.b (false),.b (false),.b (false),.b (false)] ?_
 conv=>whnf
 refine ⟨⟨I,I,I,I,⟨dT (by omega),I⟩,⟨dT (by omega),I⟩,⟨dT (by omega),I⟩,dT (by omega),I,⟨dT (by omega),I⟩,⟨dT (by omega),I⟩,⟨dT (by omega),I⟩,dT (by omega),I,dF (by omega),dF (by omega),dF (by omega),dF (by omega),I,rfl,rfl,rfl,rfl,rfl,I,rfl,rfl,rfl,rfl,I,I⟩,?_⟩
 refine W.ret ?_
 refine EndsW.rt ?_
 conv=>whnf
 refine ⟨⟨I,I,I⟩,?_,rfl⟩
 rotate_left 1
 refine g 8 65 [.b (true),.b (true),.b (true),.b (true),.b (false),.b (false),.b (false),.b (false),.b (false),.b (false),.b (false),.b (false),.b (false),.b (false),.b (false),.b (false),.b (false),.b (false),.b (false),.b (false),.b (false)] ?_
 conv=>whnf
 refine ⟨⟨I,I,I,I,⟨dT (by omega),I⟩,⟨dT (by omega),I⟩,⟨dT (by omega),I⟩,dT (by omega),I,dF (by omega),dF (by omega),dF (by omega),dF (by omega),I,rfl,rfl,rfl,rfl,I,rfl,rfl,rfl,rfl,rfl,I,rfl,rfl,rfl,rfl,I,I⟩,?_⟩
 refine W.ret ?_
 refine EndsW.rt ?_
 conv=>whnf
 refine ⟨⟨I,I,I⟩,?_,rfl⟩
 rotate_left 1
 refine g 8 65 [.b (false),.b (false),.b (false),.b (false),.b (false),.b (false),.b (false),.b (false),.b (false),.b (false),.b (false),.b (false),.b (false),.b (false),.b (false),.b (false),.b (false),.b (false),.b (false),.b (false),.b (false)] ?_
 conv=>whnf
 refine ⟨⟨I,I,I,I,dF (by omega),dF (by omega),dF (by omega),dF (by omega),I,rfl,rfl,rfl,rfl,I,rfl,rfl,rfl,rfl,I,rfl,rfl,rfl,rfl,rfl,I,rfl,rfl,rfl,rfl,I,I⟩,?_⟩
 refine W.ret ?_
 refine EndsW.rt ?_
 conv=>whnf
 refine ⟨⟨I,I,I⟩,?_,rfl⟩
 rotate_left 1
 replace h5:=df h5
 refine g 21 24 [] ?_
 conv=>whnf
 refine ⟨⟨I,I,I⟩,?_⟩
 refine W.cn ?_
 conv=>whnf
 refine ⟨fun h6=>?_,fun h6=>?_⟩
 replace h6:=dt h6
 by_cases h7:(1:Int) ≤ Worker.lease w ∧ Worker.lease w ≤ (300000000:Int)
 by_cases h8:(0:Int) ≤ Worker.task w ∧ Worker.task w ≤ (39:Int)
 by_cases h9:(1:Int) ≤ Worker.cost w ∧ Worker.cost w ≤ (20:Int)
 by_cases h10:(1:Int) ≤ Worker.left w ∧ Worker.left w ≤ Worker.cost w
 by_cases h11:eights (Worker.inputs w)
 refine g 8 97 [.call (V.b (decide ((1:Int) ≤ Worker.lease w ∧ Worker.lease w ≤ (300000000:Int)))) ([[]]),.b (true),.b (true),.b (true),.call (V.b (decide ((0:Int) ≤ Worker.task w ∧ Worker.task w ≤ (39:Int)))) ([[],[],[]]),.b (true),.b (true),.b (true),.b (true),.call (V.b (decide ((1:Int) ≤ Worker.cost w ∧ Worker.cost w ≤ (20:Int)))) ([[],[],[]]),.b (true),.b (true),.b (true),.b (true),.b (true),.b (true),.call (V.b (decide ((1:Int) ≤ Worker.left w ∧ Worker.left w ≤ Worker.cost w))) ([[],[],[]]),.b (true),.b (true),.b (true),.b (true),.call (V.b (decide (eights (Worker.inputs w)))) ([[]]),.b (true),.b (true),.b (true),.b (true),.b (true)] ?_
 conv=>whnf
 refine ⟨⟨I,I,⟨⟨I,I⟩,I,⟨⟨I,I⟩,I⟩,⟨I,I⟩,Go.K.c_spec_l2LeaseOk _⟩,I,⟨dT (by omega),I⟩,⟨dT (by omega),I⟩,⟨dT (by omega),⟨I,I,I,I⟩,I,⟨⟨I,I⟩,⟨I,I⟩,⟨I,I⟩,I⟩,⟨I,I⟩,Go.K.c_spec_l2In _ _ _⟩,dT (by omega),I,⟨dT (by omega),I⟩,⟨dT (by omega),I⟩,⟨dT (by omega),⟨I,I,I,I⟩,I,⟨⟨I,I⟩,⟨I,I⟩,⟨I,I⟩,I⟩,⟨I,I⟩,Go.K.c_spec_l2In _ _ _⟩,dT (by omega),I,⟨dT (by omega),I⟩,⟨dT (by omega),I⟩,⟨dT (by omega),I⟩,⟨dT (by omega),I⟩,⟨dT (by omega),⟨I,I,I,I⟩,I,⟨⟨I,I⟩,⟨I,I⟩,⟨I,I⟩,I⟩,⟨I,I⟩,Go.K.c_spec_l2In _ _ _⟩,dT (by omega),I,⟨dT (by omega),I⟩,⟨dT (by omega),I⟩,⟨dT (by omega),⟨I,I⟩,I,⟨⟨I,I⟩,I⟩,⟨I,I⟩,Go.K.c_spec_l2InputsOk _ (by omega)⟩,dT (by omega),I,⟨dT (by omega),I⟩,⟨dT (by omega),I⟩,⟨dT (by omega),I⟩,dT (by omega),I,I⟩,?_⟩
 refine W.ret ?_
 refine EndsW.rt ?_
 conv=>whnf
 refine ⟨⟨I,I,I⟩,?_,rfl⟩
 rotate_left 1
 refine g 8 97 [.call (V.b (decide ((1:Int) ≤ Worker.lease w ∧ Worker.lease w ≤ (300000000:Int)))) ([[]]),.b (true),.b (true),.b (true),.call (V.b (decide ((0:Int) ≤ Worker.task w ∧ Worker.task w ≤ (39:Int)))) ([[],[],[]]),.b (true),.b (true),.b (true),.b (true),.call (V.b (decide ((1:Int) ≤ Worker.cost w ∧ Worker.cost w ≤ (20:Int)))) ([[],[],[]]),.b (true),.b (true),.b (true),.b (true),.b (true),.b (true),.call (V.b (decide ((1:Int) ≤ Worker.left w ∧ Worker.left w ≤ Worker.cost w))) ([[],[],[]]),.b (true),.b (true),.b (true),.b (true),.call (V.b (decide (eights (Worker.inputs w)))) ([[]]),.b (true),.b (false),.b (false),.b (false),.b (false)] ?_
 conv=>whnf
 refine ⟨⟨I,I,⟨⟨I,I⟩,I,⟨⟨I,I⟩,I⟩,⟨I,I⟩,Go.K.c_spec_l2LeaseOk _⟩,I,⟨dT (by omega),I⟩,⟨dT (by omega),I⟩,⟨dT (by omega),⟨I,I,I,I⟩,I,⟨⟨I,I⟩,⟨I,I⟩,⟨I,I⟩,I⟩,⟨I,I⟩,Go.K.c_spec_l2In _ _ _⟩,dT (by omega),I,⟨dT (by omega),I⟩,⟨dT (by omega),I⟩,⟨dT (by omega),⟨I,I,I,I⟩,I,⟨⟨I,I⟩,⟨I,I⟩,⟨I,I⟩,I⟩,⟨I,I⟩,Go.K.c_spec_l2In _ _ _⟩,dT (by omega),I,⟨dT (by omega),I⟩,⟨dT (by omega),I⟩,⟨dT (by omega),I⟩,⟨dT (by omega),I⟩,⟨dT (by omega),⟨I,I,I,I⟩,I,⟨⟨I,I⟩,⟨I,I⟩,⟨I,I⟩,I⟩,⟨I,I⟩,Go.K.c_spec_l2In _ _ _⟩,dT (by omega),I,⟨dT (by omega),I⟩,⟨dT (by omega),I⟩,⟨dT (by omega),⟨I,I⟩,I,⟨⟨I,I⟩,I⟩,⟨I,I⟩,Go.K.c_spec_l2InputsOk _ (by omega)⟩,dT (by omega),I,dF (by omega),dF (by omega),dF (by omega),dF (by omega),I,I⟩,?_⟩
 refine W.ret ?_
 refine EndsW.rt ?_
 conv=>whnf
 refine ⟨⟨I,I,I⟩,?_,rfl⟩
 rotate_left 1
 refine g 8 97 [.call (V.b (decide ((1:Int) ≤ Worker.lease w ∧ Worker.lease w ≤ (300000000:Int)))) ([[]]),.b (true),.b (true),.b (true),.call (V.b (decide ((0:Int) ≤ Worker.task w ∧ Worker.task w ≤ (39:Int)))) ([[],[],[]]),.b (true),.b (true),.b (true),.b (true),.call (V.b (decide ((1:Int) ≤ Worker.cost w ∧ Worker.cost w ≤ (20:Int)))) ([[],[],[]]),.b (true),.b (true),.b (true),.b (true),.b (true),.b (true),.call (V.b (decide ((1:Int) ≤ Worker.left w ∧ Worker.left w ≤ Worker.cost w))) ([[],[],[]]),.b (true),.b (false),.b (false),.b (false),.b (false),.b (false),.b (false),.b (false),.b (false)] ?_
 conv=>whnf
 refine ⟨⟨I,I,⟨⟨I,I⟩,I,⟨⟨I,I⟩,I⟩,⟨I,I⟩,Go.K.c_spec_l2LeaseOk _⟩,I,⟨dT (by omega),I⟩,⟨dT (by omega),I⟩,⟨dT (by omega),⟨I,I,I,I⟩,I,⟨⟨I,I⟩,⟨I,I⟩,⟨I,I⟩,I⟩,⟨I,I⟩,Go.K.c_spec_l2In _ _ _⟩,dT (by omega),I,⟨dT (by omega),I⟩,⟨dT (by omega),I⟩,⟨dT (by omega),⟨I,I,I,I⟩,I,⟨⟨I,I⟩,⟨I,I⟩,⟨I,I⟩,I⟩,⟨I,I⟩,Go.K.c_spec_l2In _ _ _⟩,dT (by omega),I,⟨dT (by omega),I⟩,⟨dT (by omega),I⟩,⟨dT (by omega),I⟩,⟨dT (by omega),I⟩,⟨dT (by omega),⟨I,I,I,I⟩,I,⟨⟨I,I⟩,⟨I,I⟩,⟨I,I⟩,I⟩,⟨I,I⟩,Go.K.c_spec_l2In _ _ _⟩,dT (by omega),I,dF (by omega),dF (by omega),dF (by omega),dF (by omega),I,rfl,rfl,rfl,rfl,I,I⟩,?_⟩
 refine W.ret ?_
 refine EndsW.rt ?_
 conv=>whnf
 refine ⟨⟨I,I,I⟩,?_,rfl⟩
 rotate_left 1
 refine g 8 97 [.call (V.b (decide ((1:Int) ≤ Worker.lease w ∧ Worker.lease w ≤ (300000000:Int)))) ([[]]),.b (true),.b (true),.b (true),.call (V.b (decide ((0:Int) ≤ Worker.task w ∧ Worker.task w ≤ (39:Int)))) ([[],[],[]]),.b (true),.b (true),.b (true),.b (true),.call (V.b (decide ((1:Int) ≤ Worker.cost w ∧ Worker.cost w ≤ (20:Int)))) ([[],[],[]]),.b (true),.b (false),.b (false),.b (false),.b (false),.b (false),.b (false),.b (false),.b (false),.b (false),.b (false),.b (false),.b (false),.b (false),.b (false)] ?_
 conv=>whnf
 refine ⟨⟨I,I,⟨⟨I,I⟩,I,⟨⟨I,I⟩,I⟩,⟨I,I⟩,Go.K.c_spec_l2LeaseOk _⟩,I,⟨dT (by omega),I⟩,⟨dT (by omega),I⟩,⟨dT (by omega),⟨I,I,I,I⟩,I,⟨⟨I,I⟩,⟨I,I⟩,⟨I,I⟩,I⟩,⟨I,I⟩,Go.K.c_spec_l2In _ _ _⟩,dT (by omega),I,⟨dT (by omega),I⟩,⟨dT (by omega),I⟩,⟨dT (by omega),⟨I,I,I,I⟩,I,⟨⟨I,I⟩,⟨I,I⟩,⟨I,I⟩,I⟩,⟨I,I⟩,Go.K.c_spec_l2In _ _ _⟩,dT (by omega),I,dF (by omega),dF (by omega),dF (by omega),dF (by omega),dF (by omega),dF (by omega),I,rfl,rfl,rfl,rfl,I,rfl,rfl,rfl,rfl,I,I⟩,?_⟩
 refine W.ret ?_
 refine EndsW.rt ?_
 conv=>whnf
 refine ⟨⟨I,I,I⟩,?_,rfl⟩
 rotate_left 1
 refine g 8 97 [.call (V.b (decide ((1:Int) ≤ Worker.lease w ∧ Worker.lease w ≤ (300000000:Int)))) ([[]]),.b (true),.b (true),.b (true),.call (V.b (decide ((0:Int) ≤ Worker.task w ∧ Worker.task w ≤ (39:Int)))) ([[],[],[]]),.b (true),.b (false),.b (false),.b (false),.b (false),.b (false),.b (false),.b (false),.b (false),.b (false),.b (false),.b (false),.b (false),.b (false),.b (false),.b (false),.b (false),.b (false),.b (false)] ?_
 conv=>whnf
 refine ⟨⟨I,I,⟨⟨I,I⟩,I,⟨⟨I,I⟩,I⟩,⟨I,I⟩,Go.K.c_spec_l2LeaseOk _⟩,I,⟨dT (by omega),I⟩,⟨dT (by omega),I⟩,⟨dT (by omega),⟨I,I,I,I⟩,I,⟨⟨I,I⟩,⟨I,I⟩,⟨I,I⟩,I⟩,⟨I,I⟩,Go.K.c_spec_l2In _ _ _⟩,dT (by omega),I,dF (by omega),dF (by omega),dF (by omega),dF (by omega),I,rfl,rfl,rfl,rfl,rfl,rfl,I,rfl,rfl,rfl,rfl,I,rfl,rfl,rfl,rfl,I,I⟩,?_⟩
 refine W.ret ?_
 refine EndsW.rt ?_
 conv=>whnf
 refine ⟨⟨I,I,I⟩,?_,rfl⟩
 rotate_left 1
 refine g 8 97 [.call (V.b (decide ((1:Int) ≤ Worker.lease w ∧ Worker.lease w ≤ (300000000:Int)))) ([[]]),.b (false),.b (false),.b (false),.b (false),.b (false),.b (false),.b (false),.b (false),.b (false),.b (false),.b (false),.b (false),.b (false),.b (false),.b (false),.b (false),.b (false),.b (false),.b (false),.b (false),.b (false),.b (false)] ?_
 conv=>whnf
 refine ⟨⟨I,I,⟨⟨I,I⟩,I,⟨⟨I,I⟩,I⟩,⟨I,I⟩,Go.K.c_spec_l2LeaseOk _⟩,I,dF (by omega),dF (by omega),dF (by omega),dF (by omega),I,rfl,rfl,rfl,rfl,I,rfl,rfl,rfl,rfl,rfl,rfl,I,rfl,rfl,rfl,rfl,I,rfl,rfl,rfl,rfl,I,I⟩,?_⟩
 refine W.ret ?_
 refine EndsW.rt ?_
 conv=>whnf
 refine ⟨⟨I,I,I⟩,?_,rfl⟩
 rotate_left 1
 replace h6:=df h6
 refine g 25 67 [] ?_
 conv=>whnf
 refine ⟨⟨I,I,I⟩,?_⟩
 refine W.cn ?_
 conv=>whnf
 refine ⟨fun h7=>?_,fun h7=>?_⟩
 replace h7:=dt h7
 by_cases h8:(1:Int) ≤ Worker.lease w ∧ Worker.lease w ≤ (300000000:Int)
 by_cases h9:(0:Int) ≤ Worker.task w ∧ Worker.task w ≤ (39:Int)
 by_cases h10:(↑(ByteArray.size (Worker.text w)):Int) = (8:Int)
 by_cases h11:Worker.cost w = (0:Int)
 by_cases h12:Worker.left w = (0:Int)
 refine g 8 129 [.call (V.b (decide ((1:Int) ≤ Worker.lease w ∧ Worker.lease w ≤ (300000000:Int)))) ([[]]),.b (true),.b (true),.b (true),.call (V.b (decide ((0:Int) ≤ Worker.task w ∧ Worker.task w ≤ (39:Int)))) ([[],[],[]]),.b (true),.b (true),.b (true),.b (true),.b (true),.b (true),.b (true),.b (true),.b (true),.b (true),.b (true),.b (true),.b (true),.b (true),.b (true),.b (true),.b (true),.b (true),.b (true)] ?_
 conv=>whnf
 refine ⟨⟨I,I,⟨⟨I,I⟩,I,⟨⟨I,I⟩,I⟩,⟨I,I⟩,Go.K.c_spec_l2LeaseOk _⟩,I,⟨dT (by omega),I⟩,⟨dT (by omega),I⟩,⟨dT (by omega),⟨I,I,I,I⟩,I,⟨⟨I,I⟩,⟨I,I⟩,⟨I,I⟩,I⟩,⟨I,I⟩,Go.K.c_spec_l2In _ _ _⟩,dT (by omega),I,⟨dT (by omega),I⟩,⟨dT (by omega),I⟩,⟨dT (by omega),I⟩,⟨dT (by omega),I⟩,dT (by omega),I,⟨dT (by omega),I⟩,⟨dT (by omega),I⟩,⟨dT (by omega),I⟩,dT (by omega),I,⟨dT (by omega),I⟩,⟨dT (by omega),I⟩,⟨dT (by omega),I⟩,dT (by omega),I,⟨dT (by omega),I⟩,⟨dT (by omega),I⟩,⟨dT (by omega),I⟩,⟨dT (by omega),I⟩,dT (by omega),I,I⟩,?_⟩
 refine W.ret ?_
 refine EndsW.rt ?_
 conv=>whnf
 refine ⟨⟨I,I,I⟩,?_,rfl⟩
 rotate_left 1
 refine g 8 129 [.call (V.b (decide ((1:Int) ≤ Worker.lease w ∧ Worker.lease w ≤ (300000000:Int)))) ([[]]),.b (true),.b (true),.b (true),.call (V.b (decide ((0:Int) ≤ Worker.task w ∧ Worker.task w ≤ (39:Int)))) ([[],[],[]]),.b (true),.b (true),.b (true),.b (true),.b (true),.b (true),.b (true),.b (true),.b (true),.b (true),.b (true),.b (true),.b (true),.b (true),.b (false),.b (false),.b (false),.b (false),.b (false)] ?_
 conv=>whnf
 refine ⟨⟨I,I,⟨⟨I,I⟩,I,⟨⟨I,I⟩,I⟩,⟨I,I⟩,Go.K.c_spec_l2LeaseOk _⟩,I,⟨dT (by omega),I⟩,⟨dT (by omega),I⟩,⟨dT (by omega),⟨I,I,I,I⟩,I,⟨⟨I,I⟩,⟨I,I⟩,⟨I,I⟩,I⟩,⟨I,I⟩,Go.K.c_spec_l2In _ _ _⟩,dT (by omega),I,⟨dT (by omega),I⟩,⟨dT (by omega),I⟩,⟨dT (by omega),I⟩,⟨dT (by omega),I⟩,dT (by omega),I,⟨dT (by omega),I⟩,⟨dT (by omega),I⟩,⟨dT (by omega),I⟩,dT (by omega),I,⟨dT (by omega),I⟩,⟨dT (by omega),I⟩,⟨dT (by omega),I⟩,dT (by omega),I,dF (by omega),dF (by omega),dF (by omega),dF (by omega),dF (by omega),I,I⟩,?_⟩
 refine W.ret ?_
 refine EndsW.rt ?_
 conv=>whnf
 refine ⟨⟨I,I,I⟩,?_,rfl⟩
 rotate_left 1
 refine g 8 129 [.call (V.b (decide ((1:Int) ≤ Worker.lease w ∧ Worker.lease w ≤ (300000000:Int)))) ([[]]),.b (true),.b (true),.b (true),.call (V.b (decide ((0:Int) ≤ Worker.task w ∧ Worker.task w ≤ (39:Int)))) ([[],[],[]]),.b (true),.b (true),.b (true),.b (true),.b (true),.b (true),.b (true),.b (true),.b (true),.b (true),.b (false),.b (false),.b (false),.b (false),.b (false),.b (false),.b (false),.b (false),.b (false)] ?_
 conv=>whnf
 refine ⟨⟨I,I,⟨⟨I,I⟩,I,⟨⟨I,I⟩,I⟩,⟨I,I⟩,Go.K.c_spec_l2LeaseOk _⟩,I,⟨dT (by omega),I⟩,⟨dT (by omega),I⟩,⟨dT (by omega),⟨I,I,I,I⟩,I,⟨⟨I,I⟩,⟨I,I⟩,⟨I,I⟩,I⟩,⟨I,I⟩,Go.K.c_spec_l2In _ _ _⟩,dT (by omega),I,⟨dT (by omega),I⟩,⟨dT (by omega),I⟩,⟨dT (by omega),I⟩,⟨dT (by omega),I⟩,dT (by omega),I,⟨dT (by omega),I⟩,⟨dT (by omega),I⟩,⟨dT (by omega),I⟩,dT (by omega),I,dF (by omega),dF (by omega),dF (by omega),dF (by omega),I,rfl,rfl,rfl,rfl,rfl,I,I⟩,?_⟩
 refine W.ret ?_
 refine EndsW.rt ?_
 conv=>whnf
 refine ⟨⟨I,I,I⟩,?_,rfl⟩
 rotate_left 1
 refine g 8 129 [.call (V.b (decide ((1:Int) ≤ Worker.lease w ∧ Worker.lease w ≤ (300000000:Int)))) ([[]]),.b (true),.b (true),.b (true),.call (V.b (decide ((0:Int) ≤ Worker.task w ∧ Worker.task w ≤ (39:Int)))) ([[],[],[]]),.b (true),.b (true),.b (true),.b (true),.b (true),.b (true),.b (false),.b (false),.b (false),.b (false),.b (false),.b (false),.b (false),.b (false),.b (false),.b (false),.b (false),.b (false),.b (false)] ?_
 conv=>whnf
 refine ⟨⟨I,I,⟨⟨I,I⟩,I,⟨⟨I,I⟩,I⟩,⟨I,I⟩,Go.K.c_spec_l2LeaseOk _⟩,I,⟨dT (by omega),I⟩,⟨dT (by omega),I⟩,⟨dT (by omega),⟨I,I,I,I⟩,I,⟨⟨I,I⟩,⟨I,I⟩,⟨I,I⟩,I⟩,⟨I,I⟩,Go.K.c_spec_l2In _ _ _⟩,dT (by omega),I,⟨dT (by omega),I⟩,⟨dT (by omega),I⟩,⟨dT (by omega),I⟩,⟨dT (by omega),I⟩,dT (by omega),I,dF (by omega),dF (by omega),dF (by omega),dF (by omega),I,rfl,rfl,rfl,rfl,I,rfl,rfl,rfl,rfl,rfl,I,I⟩,?_⟩
 refine W.ret ?_
 refine EndsW.rt ?_
 conv=>whnf
 refine ⟨⟨I,I,I⟩,?_,rfl⟩
 rotate_left 1
 refine g 8 129 [.call (V.b (decide ((1:Int) ≤ Worker.lease w ∧ Worker.lease w ≤ (300000000:Int)))) ([[]]),.b (true),.b (true),.b (true),.call (V.b (decide ((0:Int) ≤ Worker.task w ∧ Worker.task w ≤ (39:Int)))) ([[],[],[]]),.b (true),.b (false),.b (false),.b (false),.b (false),.b (false),.b (false),.b (false),.b (false),.b (false),.b (false),.b (false),.b (false),.b (false),.b (false),.b (false),.b (false),.b (false),.b (false)] ?_
 conv=>whnf
 refine ⟨⟨I,I,⟨⟨I,I⟩,I,⟨⟨I,I⟩,I⟩,⟨I,I⟩,Go.K.c_spec_l2LeaseOk _⟩,I,⟨dT (by omega),I⟩,⟨dT (by omega),I⟩,⟨dT (by omega),⟨I,I,I,I⟩,I,⟨⟨I,I⟩,⟨I,I⟩,⟨I,I⟩,I⟩,⟨I,I⟩,Go.K.c_spec_l2In _ _ _⟩,dT (by omega),I,dF (by omega),dF (by omega),dF (by omega),dF (by omega),dF (by omega),I,rfl,rfl,rfl,rfl,I,rfl,rfl,rfl,rfl,I,rfl,rfl,rfl,rfl,rfl,I,I⟩,?_⟩
 refine W.ret ?_
 refine EndsW.rt ?_
 conv=>whnf
 refine ⟨⟨I,I,I⟩,?_,rfl⟩
 rotate_left 1
 refine g 8 129 [.call (V.b (decide ((1:Int) ≤ Worker.lease w ∧ Worker.lease w ≤ (300000000:Int)))) ([[]]),.b (false),.b (false),.b (false),.b (false),.b (false),.b (false),.b (false),.b (false),.b (false),.b (false),.b (false),.b (false),.b (false),.b (false),.b (false),.b (false),.b (false),.b (false),.b (false),.b (false),.b (false),.b (false)] ?_
 conv=>whnf
 refine ⟨⟨I,I,⟨⟨I,I⟩,I,⟨⟨I,I⟩,I⟩,⟨I,I⟩,Go.K.c_spec_l2LeaseOk _⟩,I,dF (by omega),dF (by omega),dF (by omega),dF (by omega),I,rfl,rfl,rfl,rfl,rfl,I,rfl,rfl,rfl,rfl,I,rfl,rfl,rfl,rfl,I,rfl,rfl,rfl,rfl,rfl,I,I⟩,?_⟩
 refine W.ret ?_
 refine EndsW.rt ?_
 conv=>whnf
 refine ⟨⟨I,I,I⟩,?_,rfl⟩
 rotate_left 1
 replace h7:=df h7
 refine W.skip ?_
 refine g 8 99 [] ?_
 conv=>whnf
 refine ⟨⟨I,I⟩,?_⟩
 refine W.ret ?_
 refine EndsW.rt ?_
 conv=>whnf
 refine ⟨⟨I,I,I⟩,?_,rfl⟩
 rotate_left 1
 replace h4:=Bool.eq_false_iff.2 h4
 by_cases h5:Worker.state w = (0:Int)
 refine g 26 31 [.b (true),.b (true),.b (true),.b (true),.b (false),.b (false),.b (false),.b (true),.b (false),.b (true)] ?_
 conv=>whnf
 refine ⟨⟨I,I,I,I,⟨nbT (by assumption),I⟩,⟨nbT (by assumption),I⟩,⟨nbT (by assumption),I⟩,⟨nbT (by assumption),I⟩,⟨notF (by omega),I⟩,⟨notF (by omega),I⟩,⟨notF (by omega),I⟩,⟨nbT (by assumption),notF (by omega)⟩,nbT (by assumption),I⟩,?_⟩
 refine W.cn ?_
 conv=>whnf
 refine ⟨fun h6=>?_,fun h6=>?_⟩
 replace h6:=ndt h6
 refine g 5 8 [] ?_
 conv=>whnf
 refine ⟨⟨I,I⟩,?_⟩
 refine W.ret ?_
 refine EndsW.rt ?_
 conv=>whnf
 refine ⟨⟨I,I,I⟩,?_,rfl⟩
 rotate_left 1
 replace h6:=ndf h6
 refine W.skip ?_
 refine W.sq ?_
 refine g 5 8 [] ?_
 conv=>whnf
 refine ⟨⟨I,I,I⟩,?_⟩
 refine W.blk ?_
 refine g 15 18 [] ?_
 conv=>whnf
 refine ⟨⟨I,I,I⟩,?_⟩
 refine W.cn ?_
 conv=>whnf
 refine ⟨fun _=>?_,noF (dT (by omega))⟩
 by_cases h7:Worker.lease w = (0:Int)
 by_cases h8:Worker.task w = (0:Int)
 by_cases h9:Worker.cost w = (0:Int)
 by_cases h10:Worker.left w = (0:Int)
 by_cases h11:(↑(List.length (List.map strT (Worker.inputs w))):Int) = (0:Int)
 simp only [List.length_map] at h11
 refine g 8 65 [.b (true),.b (true),.b (true),.b (true),.b (true),.b (true),.b (true),.b (true),.b (true),.b (true),.b (true),.b (true),.b (true),.b (true),.b (true),.b (true),.b (true),.b (true),.b (true),.b (true),.b (true)] ?_
 conv=>whnf
 refine ⟨⟨I,I,I,I,⟨dT (by omega),I⟩,⟨dT (by omega),I⟩,⟨dT (by omega),I⟩,dT (by omega),I,⟨dT (by omega),I⟩,⟨dT (by omega),I⟩,⟨dT (by omega),I⟩,dT (by omega),I,⟨dT (by omega),I⟩,⟨dT (by omega),I⟩,⟨dT (by omega),I⟩,dT (by omega),I,⟨dT (by omega),I⟩,⟨dT (by omega),I⟩,⟨dT (by omega),I⟩,⟨dT (by omega),I⟩,dT (by omega),I,⟨(by simp [*]),I⟩,⟨(by simp [*]),I⟩,⟨(by simp [*]),I⟩,(by simp [*]),I,I⟩,?_⟩
 refine W.ret ?_
 refine EndsW.rt ?_
 conv=>whnf
 refine ⟨⟨I,I,I⟩,?_,rfl⟩
 rotate_left 1
 simp only [List.length_map] at h11
 refine g 8 65 [.b (true),.b (true),.b (true),.b (true),.b (true),.b (true),.b (true),.b (true),.b (true),.b (true),.b (true),.b (true),.b (true),.b (true),.b (true),.b (true),.b (true),.b (false),.b (false),.b (false),.b (false)] ?_
 conv=>whnf
 refine ⟨⟨I,I,I,I,⟨dT (by omega),I⟩,⟨dT (by omega),I⟩,⟨dT (by omega),I⟩,dT (by omega),I,⟨dT (by omega),I⟩,⟨dT (by omega),I⟩,⟨dT (by omega),I⟩,dT (by omega),I,⟨dT (by omega),I⟩,⟨dT (by omega),I⟩,⟨dT (by omega),I⟩,dT (by omega),I,⟨dT (by omega),I⟩,⟨dT (by omega),I⟩,⟨dT (by omega),I⟩,⟨dT (by omega),I⟩,dT (by omega),I,(by simp_all),(by simp_all),(by simp_all),(by simp_all),I,I⟩,?_⟩
 refine W.ret ?_
 refine EndsW.rt ?_
 conv=>whnf
 refine ⟨⟨I,I,I⟩,?_,rfl⟩
 rotate_left 1
 refine g 8 65 [.b (true),.b (true),.b (true),.b (true),.b (true),.b (true),.b (true),.b (true),.b (true),.b (true),.b (true),.b (true),.b (false),.b (false),.b (false),.b (false),.b (false),.b (false),.b (false),.b (false),.b (false)] ?_
 conv=>whnf
 refine ⟨⟨I,I,I,I,⟨dT (by omega),I⟩,⟨dT (by omega),I⟩,⟨dT (by omega),I⟩,dT (by omega),I,⟨dT (by omega),I⟩,⟨dT (by omega),I⟩,⟨dT (by omega),I⟩,dT (by omega),I,⟨dT (by omega),I⟩,⟨dT (by omega),I⟩,⟨dT (by omega),I⟩,dT (by omega),I,dF (by omega),dF (by omega),dF (by omega),dF (by omega),dF (by omega),I,rfl,rfl,rfl,rfl,I,I⟩,?_⟩
 refine W.ret ?_
 refine EndsW.rt ?_
 conv=>whnf
 refine ⟨⟨I,I,I⟩,?_,rfl⟩
 rotate_left 1
 refine g 8 65 [.b (true),.b (true),.b (true),.b (true),.b (true),.b (true),.b (true),.b (true),.b (false),.b (false),.b (false),.b (false),.b (false),.b (false),.b (false),.b (false),.b (false),.b (false),.b (false),.b (false),.b (false)] ?_
 conv=>whnf
 refine ⟨⟨I,I,I,I,⟨dT (by omega),I⟩,⟨dT (by omega),I⟩,⟨dT (by omega),I⟩,dT (by omega),I,⟨dT (by omega),I⟩,⟨dT (by omega),I⟩,⟨dT (by omega),I⟩,dT (by omega),I,dF (by omega),dF (by omega),dF (by omega),dF (by omega),I,rfl,rfl,rfl,rfl,rfl,I,rfl,rfl,rfl,rfl,I,I⟩,?_⟩
 refine W.ret ?_
 refine EndsW.rt ?_
 conv=>whnf
 refine ⟨⟨I,I,I⟩,?_,rfl⟩
 rotate_left 1
 refine g 8 65 [.b (true),.b (true),.b (true),.b (true),.b (false),.b (false),.b (false),.b (false),.b (false),.b (false),.b (false),.b (false),.b (false),.b (false),.b (false),.b (false),.b (false),.b (false),.b (false),.b (false),.b (false)] ?_
 conv=>whnf
 refine ⟨⟨I,I,I,I,⟨dT (by omega),I⟩,⟨dT (by omega),I⟩,⟨dT (by omega),I⟩,dT (by omega),I,dF (by omega),dF (by omega),dF (by omega),dF (by omega),I,rfl,rfl,rfl,rfl,I,rfl,rfl,rfl,rfl,rfl,I,rfl,rfl,rfl,rfl,I,I⟩,?_⟩
 refine W.ret ?_
 refine EndsW.rt ?_
 conv=>whnf
 refine ⟨⟨I,I,I⟩,?_,rfl⟩
 rotate_left 1
 refine g 8 65 [.b (false),.b (false),.b (false),.b (false),.b (false),.b (false),.b (false),.b (false),.b (false),.b (false),.b (false),.b (false),.b (false),.b (false),.b (false),.b (false),.b (false),.b (false),.b (false),.b (false),.b (false)] ?_
 conv=>whnf
 refine ⟨⟨I,I,I,I,dF (by omega),dF (by omega),dF (by omega),dF (by omega),I,rfl,rfl,rfl,rfl,I,rfl,rfl,rfl,rfl,I,rfl,rfl,rfl,rfl,rfl,I,rfl,rfl,rfl,rfl,I,I⟩,?_⟩
 refine W.ret ?_
 refine EndsW.rt ?_
 conv=>whnf
 refine ⟨⟨I,I,I⟩,?_,rfl⟩
 rotate_left 1
 refine g 26 31 [.b (true),.b (true),.b (true),.b (true),.b (true),.b (true),.b (true),.b (true),.b (true),.b (true)] ?_
 conv=>whnf
 refine ⟨⟨I,I,I,I,⟨nbT (by assumption),I⟩,⟨nbT (by assumption),I⟩,⟨nbT (by assumption),I⟩,⟨nbT (by assumption),I⟩,notT (by omega),notT (by omega),notT (by omega),⟨nbT (by assumption),notT (by omega)⟩,nbT (by assumption),I⟩,?_⟩
 refine W.cn ?_
 conv=>whnf
 refine ⟨fun _=>?_,noF (rfl)⟩
 refine g 5 8 [] ?_
 conv=>whnf
 refine ⟨⟨I,I⟩,?_⟩
 refine W.ret ?_
 refine EndsW.rt ?_
 conv=>whnf
 refine ⟨⟨I,I,I⟩,?_,rfl⟩
 rotate_left 1
 refine g 9 13 [.call (V.b (decide ((1:Int) ≤ Worker.number w ∧ Worker.number w ≤ (8:Int)))) ([[],[],[]]),.b (false),.b (false),.b (false),.call (V.b (decide ((1:Int) ≤ Worker.epoch w ∧ Worker.epoch w ≤ (300:Int)))) ([[],[],[]]),.b (false),.b (false),.b (true),.b (true),.b (true),.b (true),.b (true)] ?_
 conv=>whnf
 refine ⟨⟨I,I,⟨⟨I,I,I,I⟩,I,⟨⟨I,I⟩,⟨I,I⟩,⟨I,I⟩,I⟩,⟨I,I⟩,Go.K.c_spec_l2In _ _ _⟩,I,I,⟨notF (by omega),I⟩,⟨notF (by omega),I⟩,⟨notF (by omega),⟨I,I,I,I⟩,I,⟨⟨I,I⟩,⟨I,I⟩,⟨I,I⟩,I⟩,⟨I,I⟩,Go.K.c_spec_l2In _ _ _⟩,⟨notF (by omega),I⟩,notF (by omega),I,notT (by omega),notT (by omega),notT (by omega),notT (by omega),notT (by omega),I⟩,?_⟩
 refine W.cn ?_
 conv=>whnf
 refine ⟨fun _=>?_,noF (rfl)⟩
 refine g 15 18 [] ?_
 conv=>whnf
 refine ⟨⟨I,I⟩,?_⟩
 refine W.ret ?_
 refine EndsW.rt ?_
 conv=>whnf
 refine ⟨⟨I,I,I⟩,?_,rfl⟩
 rotate_left 1
 refine g 9 13 [.call (V.b (decide ((1:Int) ≤ Worker.number w ∧ Worker.number w ≤ (8:Int)))) ([[],[],[]]),.b (true),.b (true),.b (true),.b (true),.b (true),.b (true),.b (true),.b (true),.b (true),.b (true)] ?_
 conv=>whnf
 refine ⟨⟨I,I,⟨⟨I,I,I,I⟩,I,⟨⟨I,I⟩,⟨I,I⟩,⟨I,I⟩,I⟩,⟨I,I⟩,Go.K.c_spec_l2In _ _ _⟩,I,I,notT (by omega),notT (by omega),notT (by omega),notT (by omega),notT (by omega),I,rfl,rfl,rfl,rfl,rfl,I⟩,?_⟩
 refine W.cn ?_
 conv=>whnf
 refine ⟨fun _=>?_,noF (rfl)⟩
 refine g 15 18 [] ?_
 conv=>whnf
 refine ⟨⟨I,I⟩,?_⟩
 refine W.ret ?_
 refine EndsW.rt ?_
 conv=>whnf
 refine ⟨⟨I,I,I⟩,?_,rfl⟩
 rotate_left 1
 all_goals (try simp only [List.length_map,decide_eq_true_eq,Bool.not_eq_true,Bool.not_eq_true',decide_eq_false_iff_not] at *)
 all_goals first
  | exact vbf (by unfold workerOk workFreeOk workBusyOk workToldOk workHeld; grind)
  | exact vbt (by unfold workerOk workFreeOk workBusyOk workToldOk workHeld; grind)
  | exact vbd (by unfold workerOk workFreeOk workBusyOk workToldOk workHeld; grind)
end Go.K
end
section
set_option linter.unusedVariables false
set_option linter.unusedSimpArgs false
set_option maxHeartbeats 4000000
set_option maxRecDepth 20000
open Go Go.Tm Go.Proofs
namespace Go.K
theorem c_impl_Worker_freed (w:Worker) (s:Int):F n_impl_Worker_freed [.val (workerR w),.val (.i s)] (workerO ⟨w.number,w.epoch,w.up,0,0,0,0,0,[],emp,s⟩) [[],[]]:=by
 refine i_impl_Worker_freed ?_
 conv=>whnf
 refine g 0 0 [] ?_
 conv=>whnf
 refine ⟨⟨⟨I,I,I,I,I,I,I,I,I,I,I,I⟩,I,I⟩,?_⟩
 refine g 5 13 [] ?_
 conv=>whnf
 refine ⟨⟨I,I,I,I,I,I,I,I,⟨I,I,I,I,I,I,I,I,I,I,I,I⟩,I⟩,?_⟩
 refine W.ret ?_
 refine EndsW.rt ?_
 conv=>whnf
 refine ⟨⟨I,I,I,I,I,I,I,I,I,I,I,I,I⟩,?_,rfl⟩
 rfl
theorem c_impl_clone (xs:List ByteArray) (hl:xs.length ≤ 1048576):F n_impl_clone [.val (.t (strs xs))] (.own [false] (xs.map strT)) [[]]:=by
 refine i_impl_clone ?_
 conv=>whnf
 refine g 0 0 [] ?_
 conv=>whnf
 refine ⟨⟨I,I⟩,?_⟩
 refine g 3 6 [] ?_
 conv=>whnf
 refine ⟨⟨I,I,⟨I,I,(by simp only [lens]; omega)⟩,I,I⟩,?_⟩
 refine W.ret ?_
 refine EndsW.rt ?_
 conv=>whnf
 refine ⟨⟨I,I,I⟩,?_,rfl⟩
 rfl
theorem c_impl_Worker_twin (w:Worker) (hl:w.inputs.length ≤ 1048576):F n_impl_Worker_twin [.val (workerR w)] (workerO w) [[]]:=by
 refine i_impl_Worker_twin ?_
 conv=>whnf
 refine g 0 1 [] ?_
 conv=>whnf
 refine ⟨⟨⟨I,I,I,I,I,I,I,I,I,I,I,I⟩,I,I⟩,?_⟩
 refine g 3 7 [.call (V.own [false] (List.map strT (Worker.inputs w))) ([[]])] ?_
 conv=>whnf
 refine ⟨⟨I,I,⟨⟨I,I⟩,I,⟨⟨I,I⟩,I⟩,⟨I,I⟩,Go.K.c_impl_clone _ (by omega)⟩,I,⟨I,I⟩,I⟩,?_⟩
 refine g 1 2 [] ?_
 conv=>whnf
 refine ⟨⟨I,⟨I,I,I,I,I,I,I,I,I,I,I,I⟩,I⟩,?_⟩
 refine W.ret ?_
 refine EndsW.rt ?_
 conv=>whnf
 refine ⟨⟨I,I,I,I,I,I,I,I,I,I,I,I,I⟩,?_,rfl⟩
 rfl
end Go.K
end
section
set_option linter.unusedVariables false
set_option linter.unusedSimpArgs false
set_option maxHeartbeats 4000000
set_option maxRecDepth 20000
open Go Go.Tm Go.Proofs
namespace Go.K
structure Acted where
 worker:Worker
 out:List Message
 deriving DecidableEq
abbrev actedO (x:Acted):V:=.agg [.t (.i x.worker.number),.t (.i x.worker.epoch),.t (.b x.worker.up),.t (.i x.worker.state),.t (.i x.worker.lease),.t (.i x.worker.task),.t (.i x.worker.cost),.t (.i x.worker.left),.own [false] (x.worker.inputs.map strT),.t (.s x.worker.text),.t (.i x.worker.since),.own messageK (x.out.map messageT)]
abbrev noActed:Acted:=⟨⟨0,0,false,0,0,0,0,0,[],emp,0⟩,[]⟩
def tellM (w:Worker) (k:Int):Message:=⟨k,w.number,0,w.epoch,if k = 5 then 0 else w.lease,if k = 3 then w.task else 0,if k = 3 then w.text else emp,[]⟩
theorem c_impl_Worker_tell (w:Worker) (k:Int) (hk:k = 2 ∨ k = 3 ∨ k = 5):F n_impl_Worker_tell [.val (workerR w),.val (.i k)] (messageO (tellM w k)) [[],[]]:=by
 rcases hk with rfl | rfl | rfl
 ·refine i_impl_Worker_tell ?_
  conv=>whnf
  refine g 0 0 [] ?_
  conv=>whnf
  refine ⟨⟨⟨I,I,I,I,I,I,I,I,I,I,I,I⟩,I,I⟩,?_⟩
  refine g 6 12 [] ?_
  conv=>whnf
  refine ⟨⟨I,I,I,I,I,I,I,⟨I,I,I,I,I,I,I,I,I⟩,I⟩,?_⟩
  refine W.sq ?_
  refine g 0 1 [] ?_
  conv=>whnf
  refine ⟨⟨I,I,I⟩,?_⟩
  refine W.cn ?_
  conv=>whnf
  refine ⟨fun _=>?_,noF (rfl)⟩
  refine rg [] ?_
  conv=>whnf
  refine ⟨⟨I,I,I,⟨I,I⟩,I⟩,?_⟩
  refine W.sq ?_
  refine g 12 18 [] ?_
  conv=>whnf
  refine ⟨⟨I,I,I⟩,?_⟩
  refine W.cn ?_
  conv=>whnf
  refine ⟨noT (rfl),fun _=>?_⟩
  refine W.skip ?_
  refine g 5 26 [] ?_
  conv=>whnf
  refine ⟨⟨I,⟨I,I,I,I,I,I,I,I,I⟩,I⟩,?_⟩
  refine W.ret ?_
  refine EndsW.rt ?_
  conv=>whnf
  refine ⟨⟨I,I,I,I,I,I,I,I,I,I⟩,?_,rfl⟩
  rfl
 ·refine i_impl_Worker_tell ?_
  conv=>whnf
  refine g 0 0 [] ?_
  conv=>whnf
  refine ⟨⟨⟨I,I,I,I,I,I,I,I,I,I,I,I⟩,I,I⟩,?_⟩
  refine g 6 12 [] ?_
  conv=>whnf
  refine ⟨⟨I,I,I,I,I,I,I,⟨I,I,I,I,I,I,I,I,I⟩,I⟩,?_⟩
  refine W.sq ?_
  refine g 0 1 [] ?_
  conv=>whnf
  refine ⟨⟨I,I,I⟩,?_⟩
  refine W.cn ?_
  conv=>whnf
  refine ⟨fun _=>?_,noF (rfl)⟩
  refine rg [] ?_
  conv=>whnf
  refine ⟨⟨I,I,I,⟨I,I⟩,I⟩,?_⟩
  refine W.sq ?_
  refine g 12 18 [] ?_
  conv=>whnf
  refine ⟨⟨I,I,I⟩,?_⟩
  refine W.cn ?_
  conv=>whnf
  refine ⟨fun _=>?_,noF (rfl)⟩
  refine rgd [[],[],[],[],[],[],[],[]] ?_
  conv=>whnf
  refine ⟨⟨I,I,I,I,I,⟨I,I⟩,I,⟨I,I⟩,I⟩,by kernel_rfl,?_⟩
  refine g 5 26 [] ?_
  conv=>whnf
  refine ⟨⟨I,⟨I,I,I,I,I,I,I,I,I⟩,I⟩,?_⟩
  refine W.ret ?_
  refine EndsW.rt ?_
  conv=>whnf
  refine ⟨⟨I,I,I,I,I,I,I,I,I,I⟩,?_,rfl⟩
  rfl
 ·refine i_impl_Worker_tell ?_
  conv=>whnf
  refine g 0 0 [] ?_
  conv=>whnf
  refine ⟨⟨⟨I,I,I,I,I,I,I,I,I,I,I,I⟩,I,I⟩,?_⟩
  refine g 6 12 [] ?_
  conv=>whnf
  refine ⟨⟨I,I,I,I,I,I,I,⟨I,I,I,I,I,I,I,I,I⟩,I⟩,?_⟩
  refine W.sq ?_
  refine g 0 1 [] ?_
  conv=>whnf
  refine ⟨⟨I,I,I⟩,?_⟩
  refine W.cn ?_
  conv=>whnf
  refine ⟨noT (rfl),fun _=>?_⟩
  refine W.skip ?_
  refine W.sq ?_
  refine g 12 18 [] ?_
  conv=>whnf
  refine ⟨⟨I,I,I⟩,?_⟩
  refine W.cn ?_
  conv=>whnf
  refine ⟨noT (rfl),fun _=>?_⟩
  refine W.skip ?_
  refine g 5 26 [] ?_
  conv=>whnf
  refine ⟨⟨I,⟨I,I,I,I,I,I,I,I,I⟩,I⟩,?_⟩
  refine W.ret ?_
  refine EndsW.rt ?_
  conv=>whnf
  refine ⟨⟨I,I,I,I,I,I,I,I,I,I⟩,?_,rfl⟩
  rfl
def nameOf (ts:List Task) (k:Int):ByteArray:=((ts[k.toNat]?).map Task.name).getD emp
def sinceOf (w:Worker):Int:=if w.since < 1000000 then w.since + 1 else w.since
def tickDone (w:Worker) (ts:List Task):Worker:=⟨w.number,w.epoch,w.up,2,w.lease,w.task,0,w.left - 1,[],valueV (nameOf ts w.task) w.inputs,0⟩
def sinceW (w:Worker) (s:Int):Worker:=⟨w.number,w.epoch,w.up,w.state,w.lease,w.task,w.cost,w.left,w.inputs,w.text,s⟩
def leftW (w:Worker):Worker:=⟨w.number,w.epoch,w.up,w.state,w.lease,w.task,w.cost,w.left - 1,w.inputs,w.text,w.since⟩
def tellA (w:Worker) (k:Int):Acted:=⟨sinceW w 0,[tellM (sinceW w 0) k]⟩
def tickA (w:Worker) (ts:List Task):Acted :=
 if w.up = false then ⟨w,[]⟩ else
 if w.state = 1 then
  if w.left - 1 = 0 then ⟨tickDone w ts,[tellM (tickDone w ts) 3]⟩
  else if 4 ≤ sinceOf w then tellA (leftW w) 2 else ⟨sinceW (leftW w) (sinceOf w),[]⟩
 else if w.state = 2 then (if 4 ≤ sinceOf w then tellA w 3 else ⟨sinceW w (sinceOf w),[]⟩)
 else if 3 ≤ sinceOf w then tellA w 5 else ⟨sinceW w (sinceOf w),[]⟩
theorem ok_facts {w:Worker} (h:workerOk w):(1 ≤ w.number ∧ w.number ≤ 8) ∧ (1 ≤ w.epoch ∧ w.epoch ≤ 300) ∧ (0 ≤ w.since ∧ w.since ≤ 1000000):=⟨h.1,h.2.1,h.2.2.1⟩
theorem ok_busy {w:Worker} (h:workerOk w) (h1:w.state = 1):workBusyOk w:=by
 rcases h.2.2.2.2 with q | q | q
 ·have:=q.1; omega
 ·exact q
 ·have:=q.1; omega
theorem ok_state {w:Worker} (h:workerOk w):w.state = 0 ∨ w.state = 1 ∨ w.state = 2:=by
 rcases h.2.2.2.2 with q | q | q
 ·exact .inl q.1
 ·exact .inr (.inl q.1)
 ·exact .inr (.inr q.1)
theorem tick_down {w:Worker} {ts:List Task} (h:w.up = false):tickA w ts = ⟨w,[]⟩:=if_pos h
theorem tick_done {w:Worker} {ts:List Task} (h:¬ w.up = false) (h1:w.state = 1) (h2:w.left - 1 = 0):tickA w ts = ⟨tickDone w ts,[tellM (tickDone w ts) 3]⟩:=by rw [tickA,if_neg h,if_pos h1,if_pos h2]
theorem tick_beat {w:Worker} {ts:List Task} (h:¬ w.up = false) (h1:w.state = 1) (h2:¬ w.left - 1 = 0) (h4:4 ≤ sinceOf w):tickA w ts = tellA (leftW w) 2:=by rw [tickA,if_neg h,if_pos h1,if_neg h2,if_pos h4]
theorem tick_busy {w:Worker} {ts:List Task} (h:¬ w.up = false) (h1:w.state = 1) (h2:¬ w.left - 1 = 0) (h4:¬ 4 ≤ sinceOf w):tickA w ts = ⟨sinceW (leftW w) (sinceOf w),[]⟩:=by rw [tickA,if_neg h,if_pos h1,if_neg h2,if_neg h4]
theorem tick_told {w:Worker} {ts:List Task} (h:¬ w.up = false) (h1:w.state = 2) (h4:4 ≤ sinceOf w):tickA w ts = tellA w 3:=by rw [tickA,if_neg h,if_neg (by omega),if_pos h1,if_pos h4]
theorem tick_told2 {w:Worker} {ts:List Task} (h:¬ w.up = false) (h1:w.state = 2) (h4:¬ 4 ≤ sinceOf w):tickA w ts = ⟨sinceW w (sinceOf w),[]⟩:=by rw [tickA,if_neg h,if_neg (by omega),if_pos h1,if_neg h4]
theorem tick_free {w:Worker} {ts:List Task} (h:¬ w.up = false) (h1:w.state = 0) (h4:3 ≤ sinceOf w):tickA w ts = tellA w 5:=by rw [tickA,if_neg h,if_neg (by omega),if_neg (by omega),if_pos h4]
theorem tick_free2 {w:Worker} {ts:List Task} (h:¬ w.up = false) (h1:w.state = 0) (h4:¬ 3 ≤ sinceOf w):tickA w ts = ⟨sinceW w (sinceOf w),[]⟩:=by rw [tickA,if_neg h,if_neg (by omega),if_neg (by omega),if_neg h4]
theorem name_in {ts:List Task} {k:Int} {t:Task} (h:ts[k.toNat]? = some t):nameOf ts k = t.name:=by unfold nameOf; rw [h]; rfl
theorem name_out {ts:List Task} {k:Int} (h:ts[k.toNat]? = none):nameOf ts k = emp:=by unfold nameOf; rw [h]; rfl
theorem eights_in {w:Worker} (h:workBusyOk w):w.inputs.length ≤ 8 ∧ (∀ s ∈ w.inputs,s.size ≤ 1048576) ∧ totS w.inputs ≤ 64:=by
 obtain ⟨h1,h2⟩:=h.2.2.2.2.1
 have:=totS_le8 (xs:=w.inputs) fun s hs=>Nat.le_of_eq (h1 s hs)
 exact ⟨h2,fun s hs=>by have:=h1 s hs; omega,by omega⟩
noncomputable def wTick (w:Worker) (p:Plan):Acted:=if workerOk w ∧ checkPlan p.tasks = 0 then tickA w p.tasks else noActed
theorem wtick_no {w:Worker} {p:Plan} (h:¬ (workerOk w ∧ checkPlan p.tasks = 0)):wTick w p = noActed:=if_neg h
theorem wtick_ok {w:Worker} {p:Plan} (h:workerOk w) (h2:checkPlan p.tasks = 0):wTick w p = tickA w p.tasks:=if_pos ⟨h,h2⟩
theorem c_impl_Worker_tick (w:Worker) (p:Plan) (h:workerOk w) (hc:checkPlan p.tasks = 0):F n_impl_Worker_tick [.val (workerO w),.val (planR p)] (actedO (tickA w p.tasks)) [[],[]]:=by
 obtain ⟨⟨f1,f2⟩,⟨f3,f4⟩,f5,f6⟩:=ok_facts h
 by_cases hup:w.up = false
 ·refine i_impl_Worker_tick ?_
  conv=>whnf
  refine g 0 0 [] ?_
  conv=>whnf
  refine ⟨⟨⟨I,I,I,I,I,I,I,I,I,I,I,I⟩,⟨I,I⟩,I,I⟩,?_⟩
  refine W.sq ?_
  refine g 7 9 [] ?_
  conv=>whnf
  refine ⟨⟨I,I,I,I⟩,?_⟩
  refine W.cn ?_
  conv=>whnf
  refine ⟨fun _=>?_,noF (nbT (by assumption))⟩
  refine g 9 12 [] ?_
  conv=>whnf
  refine ⟨⟨I,I,⟨I,I,I,I,I,I,I,I,I,I,I,I,I⟩,I⟩,?_⟩
  refine W.ret ?_
  refine EndsW.rt ?_
  conv=>whnf
  refine ⟨⟨I,I,I,I,I,I,I,I,I,I,I,I,I,I⟩,?_,rfl⟩
  rw [tick_down hup]; rfl
 ·rcases ok_state h with h1 | h1 | h1
  ·skip
   by_cases hs:w.since < 1000000
   ·have e:sinceOf w = w.since + 1:=if_pos hs
    by_cases h4:3 ≤ sinceOf w
    ·have ct:=c_impl_Worker_tell (sinceW w 0) 5 (by omega)
     have h5:=h4
     rw [e] at h5
     refine i_impl_Worker_tick ?_
     conv=>whnf
     refine g 0 0 [] ?_
     conv=>whnf
     refine ⟨⟨⟨I,I,I,I,I,I,I,I,I,I,I,I⟩,⟨I,I⟩,I,I⟩,?_⟩
     refine W.sq ?_
     refine g 7 9 [] ?_
     conv=>whnf
     refine ⟨⟨I,I,I,I⟩,?_⟩
     refine W.cn ?_
     conv=>whnf
     refine ⟨noT (by simp [*]),fun _=>?_⟩
     refine W.skip ?_
     refine W.sq ?_
     refine g 9 14 [] ?_
     conv=>whnf
     refine ⟨⟨I,I,I,I⟩,?_⟩
     refine W.cn ?_
     conv=>whnf
     refine ⟨fun _=>?_,noF (dT (by omega))⟩
     refine rg [.i (Worker.since w + (1:Int))] ?_
     conv=>whnf
     refine ⟨⟨I,I,w64 (by omega) (by omega),I,⟨I,I⟩,I⟩,?_⟩
     refine g 14 19 [] ?_
     conv=>whnf
     refine ⟨⟨I,I⟩,?_⟩
     refine W.sq ?_
     refine g 19 20 [] ?_
     conv=>whnf
     refine ⟨⟨I,I,I⟩,?_⟩
     refine W.blk ?_
     refine g 22 23 [] ?_
     conv=>whnf
     refine ⟨⟨I,I,I⟩,?_⟩
     refine W.cn ?_
     conv=>whnf
     refine ⟨noT (dF (by omega)),fun _=>?_⟩
     refine g 3 4 [] ?_
     conv=>whnf
     refine ⟨⟨I,I,I⟩,?_⟩
     refine W.cn ?_
     conv=>whnf
     refine ⟨noT (dF (by omega)),fun _=>?_⟩
     refine g 20 56 [] ?_
     conv=>whnf
     refine ⟨⟨I,I,I⟩,?_⟩
     refine W.cn ?_
     conv=>whnf
     refine ⟨fun _=>?_,noF (dT (by omega))⟩
     refine g 59 63 [] ?_
     conv=>whnf
     refine ⟨⟨I,I,I,I⟩,?_⟩
     refine W.cn ?_
     conv=>whnf
     refine ⟨fun _=>?_,noF (dT (by omega))⟩
     refine rg [] ?_
     conv=>whnf
     refine ⟨⟨I,I⟩,?_⟩
     refine W.sq ?_
     refine g 63 65 [] ?_
     conv=>whnf
     refine ⟨⟨I,I,I⟩,?_⟩
     refine W.cn ?_
     conv=>whnf
     refine ⟨noT (rfl),fun _=>?_⟩
     refine W.skip ?_
     refine g 65 69 [] ?_
     conv=>whnf
     refine ⟨⟨I,⟨I,I⟩,I⟩,?_⟩
     refine gd 5 75 [[],[],[],[.call (messageO (tellM (sinceW w (0:Int)) (5:Int))) ([[],[]])],[],[],[]] ?_
     conv=>whnf
     refine ⟨⟨I,I,I,⟨⟨I,I,I⟩,I,⟨⟨I,I,I,I,I,I,I,I,I,I,I,I⟩,⟨I,I⟩,I⟩,⟨I,I⟩,(by assumption)⟩,⟨⟨I,I,I,I,I,I,I,I,I⟩,I⟩,I,⟨I,I,I,I,I,I,I,I,I,I,I,I,I⟩,I⟩,by kernel_rfl,?_⟩
     refine W.ret ?_
     refine EndsW.rt ?_
     conv=>whnf
     refine ⟨⟨I,I,I,I,I,I,I,I,I,I,I,I,I,I⟩,?_,rfl⟩
     rw [tick_free hup h1 h4]; rfl
    ·have h5:=h4
     rw [e] at h5
     refine i_impl_Worker_tick ?_
     conv=>whnf
     refine g 0 0 [] ?_
     conv=>whnf
     refine ⟨⟨⟨I,I,I,I,I,I,I,I,I,I,I,I⟩,⟨I,I⟩,I,I⟩,?_⟩
     refine W.sq ?_
     refine g 7 9 [] ?_
     conv=>whnf
     refine ⟨⟨I,I,I,I⟩,?_⟩
     refine W.cn ?_
     conv=>whnf
     refine ⟨noT (by simp [*]),fun _=>?_⟩
     refine W.skip ?_
     refine W.sq ?_
     refine g 9 14 [] ?_
     conv=>whnf
     refine ⟨⟨I,I,I,I⟩,?_⟩
     refine W.cn ?_
     conv=>whnf
     refine ⟨fun _=>?_,noF (dT (by omega))⟩
     refine rg [.i (Worker.since w + (1:Int))] ?_
     conv=>whnf
     refine ⟨⟨I,I,w64 (by omega) (by omega),I,⟨I,I⟩,I⟩,?_⟩
     refine g 14 19 [] ?_
     conv=>whnf
     refine ⟨⟨I,I⟩,?_⟩
     refine W.sq ?_
     refine g 19 20 [] ?_
     conv=>whnf
     refine ⟨⟨I,I,I⟩,?_⟩
     refine W.blk ?_
     refine g 22 23 [] ?_
     conv=>whnf
     refine ⟨⟨I,I,I⟩,?_⟩
     refine W.cn ?_
     conv=>whnf
     refine ⟨noT (dF (by omega)),fun _=>?_⟩
     refine g 3 4 [] ?_
     conv=>whnf
     refine ⟨⟨I,I,I⟩,?_⟩
     refine W.cn ?_
     conv=>whnf
     refine ⟨noT (dF (by omega)),fun _=>?_⟩
     refine g 20 56 [] ?_
     conv=>whnf
     refine ⟨⟨I,I,I⟩,?_⟩
     refine W.cn ?_
     conv=>whnf
     refine ⟨fun _=>?_,noF (dT (by omega))⟩
     refine g 59 63 [] ?_
     conv=>whnf
     refine ⟨⟨I,I,I,I⟩,?_⟩
     refine W.cn ?_
     conv=>whnf
     refine ⟨noT (dF (by omega)),fun _=>?_⟩
     refine W.skip ?_
     refine W.sq ?_
     refine g 63 65 [] ?_
     conv=>whnf
     refine ⟨⟨I,I,I⟩,?_⟩
     refine W.cn ?_
     conv=>whnf
     refine ⟨fun _=>?_,noF (rfl)⟩
     refine g 65 68 [] ?_
     conv=>whnf
     refine ⟨⟨I,I,⟨I,I,I,I,I,I,I,I,I,I,I,I,I⟩,I⟩,?_⟩
     refine W.ret ?_
     refine EndsW.rt ?_
     conv=>whnf
     refine ⟨⟨I,I,I,I,I,I,I,I,I,I,I,I,I,I⟩,?_,rfl⟩
     rw [tick_free2 hup h1 h4,e]; rfl
   ·have e:sinceOf w = w.since:=if_neg hs
    by_cases h4:3 ≤ sinceOf w
    ·have ct:=c_impl_Worker_tell (sinceW w 0) 5 (by omega)
     have h5:=h4
     rw [e] at h5
     refine i_impl_Worker_tick ?_
     conv=>whnf
     refine g 0 0 [] ?_
     conv=>whnf
     refine ⟨⟨⟨I,I,I,I,I,I,I,I,I,I,I,I⟩,⟨I,I⟩,I,I⟩,?_⟩
     refine W.sq ?_
     refine g 7 9 [] ?_
     conv=>whnf
     refine ⟨⟨I,I,I,I⟩,?_⟩
     refine W.cn ?_
     conv=>whnf
     refine ⟨noT (by simp [*]),fun _=>?_⟩
     refine W.skip ?_
     refine W.sq ?_
     refine g 9 14 [] ?_
     conv=>whnf
     refine ⟨⟨I,I,I,I⟩,?_⟩
     refine W.cn ?_
     conv=>whnf
     refine ⟨noT (dF (by omega)),fun _=>?_⟩
     refine W.skip ?_
     refine g 14 15 [] ?_
     conv=>whnf
     refine ⟨⟨I,I⟩,?_⟩
     refine W.sq ?_
     refine g 19 20 [] ?_
     conv=>whnf
     refine ⟨⟨I,I,I⟩,?_⟩
     refine W.blk ?_
     refine g 22 23 [] ?_
     conv=>whnf
     refine ⟨⟨I,I,I⟩,?_⟩
     refine W.cn ?_
     conv=>whnf
     refine ⟨noT (dF (by omega)),fun _=>?_⟩
     refine g 3 4 [] ?_
     conv=>whnf
     refine ⟨⟨I,I,I⟩,?_⟩
     refine W.cn ?_
     conv=>whnf
     refine ⟨noT (dF (by omega)),fun _=>?_⟩
     refine g 20 56 [] ?_
     conv=>whnf
     refine ⟨⟨I,I,I⟩,?_⟩
     refine W.cn ?_
     conv=>whnf
     refine ⟨fun _=>?_,noF (dT (by omega))⟩
     refine g 59 63 [] ?_
     conv=>whnf
     refine ⟨⟨I,I,I,I⟩,?_⟩
     refine W.cn ?_
     conv=>whnf
     refine ⟨fun _=>?_,noF (dT (by omega))⟩
     refine rg [] ?_
     conv=>whnf
     refine ⟨⟨I,I⟩,?_⟩
     refine W.sq ?_
     refine g 63 65 [] ?_
     conv=>whnf
     refine ⟨⟨I,I,I⟩,?_⟩
     refine W.cn ?_
     conv=>whnf
     refine ⟨noT (rfl),fun _=>?_⟩
     refine W.skip ?_
     refine g 65 69 [] ?_
     conv=>whnf
     refine ⟨⟨I,⟨I,I⟩,I⟩,?_⟩
     refine gd 5 75 [[],[],[],[.call (messageO (tellM (sinceW w (0:Int)) (5:Int))) ([[],[]])],[],[],[]] ?_
     conv=>whnf
     refine ⟨⟨I,I,I,⟨⟨I,I,I⟩,I,⟨⟨I,I,I,I,I,I,I,I,I,I,I,I⟩,⟨I,I⟩,I⟩,⟨I,I⟩,(by assumption)⟩,⟨⟨I,I,I,I,I,I,I,I,I⟩,I⟩,I,⟨I,I,I,I,I,I,I,I,I,I,I,I,I⟩,I⟩,by kernel_rfl,?_⟩
     refine W.ret ?_
     refine EndsW.rt ?_
     conv=>whnf
     refine ⟨⟨I,I,I,I,I,I,I,I,I,I,I,I,I,I⟩,?_,rfl⟩
     rw [tick_free hup h1 h4]; rfl
    ·exfalso; omega
  ·have hb:=ok_busy h h1
   obtain ⟨hl8,hes,htt⟩:=eights_in hb
   obtain ⟨_,⟨_,b3,b4⟩,⟨b5,b6⟩,⟨b7,b8⟩,_⟩:=hb
   by_cases hl:w.left - 1 = 0
   ·by_cases ht:w.task < p.tasks.length
    ·obtain ⟨t,ht2⟩:=some_at (xs:=p.tasks) (n:=w.task.toNat) (by omega)
     obtain ⟨⟨g1,g2⟩,_⟩:=chk_task hc ht2
     have cv:=c_impl_Value t.name w.inputs (by omega) (by omega) hes
     have ct:=c_impl_Worker_tell ⟨w.number,w.epoch,w.up,2,w.lease,w.task,0,w.left - 1,[],valueV t.name w.inputs,0⟩ 3 (by omega)
     refine i_impl_Worker_tick ?_
     conv=>whnf
     refine g 0 0 [] ?_
     conv=>whnf
     refine ⟨⟨⟨I,I,I,I,I,I,I,I,I,I,I,I⟩,⟨I,I⟩,I,I⟩,?_⟩
     refine W.sq ?_
     refine g 7 9 [] ?_
     conv=>whnf
     refine ⟨⟨I,I,I,I⟩,?_⟩
     refine W.cn ?_
     conv=>whnf
     refine ⟨noT (by simp [*]),fun _=>?_⟩
     refine W.skip ?_
     refine W.sq ?_
     refine g 9 14 [] ?_
     conv=>whnf
     refine ⟨⟨I,I,I,I⟩,?_⟩
     refine W.cn ?_
     conv=>whnf
     refine ⟨fun h2=>?_,fun h2=>?_⟩
     replace h2:=dt h2
     refine rg [.i (Worker.since w + (1:Int))] ?_
     conv=>whnf
     refine ⟨⟨I,I,w64 (by omega) (by omega),I,⟨I,I⟩,I⟩,?_⟩
     refine g 14 19 [] ?_
     conv=>whnf
     refine ⟨⟨I,I⟩,?_⟩
     refine W.sq ?_
     refine g 19 20 [] ?_
     conv=>whnf
     refine ⟨⟨I,I,I⟩,?_⟩
     refine W.blk ?_
     refine g 22 23 [] ?_
     conv=>whnf
     refine ⟨⟨I,I,I⟩,?_⟩
     refine W.cn ?_
     conv=>whnf
     refine ⟨fun _=>?_,noF (dT (by omega))⟩
     refine g 20 27 [.i (Worker.left w - (1:Int))] ?_
     conv=>whnf
     refine ⟨⟨I,I,w64 (by omega) (by omega),I,⟨I,I⟩,I⟩,?_⟩
     refine g 27 29 [] ?_
     conv=>whnf
     refine ⟨⟨I,I,I,I⟩,?_⟩
     refine W.cn ?_
     conv=>whnf
     refine ⟨fun _=>?_,noF (dT (by omega))⟩
     refine g 29 30 [] ?_
     conv=>whnf
     refine ⟨⟨I,I⟩,?_⟩
     refine W.sq ?_
     refine g 30 35 [] ?_
     conv=>whnf
     refine ⟨⟨I,I,I,I,I,I,I⟩,?_⟩
     refine W.cn ?_
     conv=>whnf
     refine ⟨fun _=>?_,noF (by simp [*])⟩
     refine rg [.x (taskT t)] ?_
     conv=>whnf
     refine ⟨⟨I,I,I,I,⟨(by assumption),ixl (by assumption)⟩,I,I,I,I⟩,?_⟩
     refine g 6 51 [.call (V.s (valueV (Task.name t) (Worker.inputs w))) ([[],[]])] ?_
     conv=>whnf
     refine ⟨⟨I,I,I,⟨⟨I,I,I⟩,I,⟨⟨I,I⟩,⟨I,I⟩,I⟩,⟨I,I⟩,(by assumption)⟩,I,⟨I,I⟩,I,⟨I,I⟩,I,⟨I,I⟩,I,⟨I,I⟩,I⟩,?_⟩
     refine rg [] ?_
     conv=>whnf
     refine ⟨⟨I,I⟩,?_⟩
     refine W.sq ?_
     refine g 3 4 [] ?_
     conv=>whnf
     refine ⟨⟨I,I,I⟩,?_⟩
     refine W.cn ?_
     conv=>whnf
     refine ⟨noT (rfl),fun _=>?_⟩
     refine W.skip ?_
     refine g 64 69 [] ?_
     conv=>whnf
     refine ⟨⟨I,⟨I,I⟩,I⟩,?_⟩
     refine gd 5 75 [[],[],[],[.call (messageO (tellM { number:=Worker.number w,epoch:=Worker.epoch w,up:=Worker.up w,state:=(2:Int),lease:=Worker.lease w,task:=Worker.task w,cost:=(0:Int),left:=Worker.left w - (1:Int),inputs:=[],text:=valueV (Task.name t) (Worker.inputs w),since:=(0:Int):Worker } (3:Int))) ([[],[]])],[],[],[]] ?_
     conv=>whnf
     refine ⟨⟨I,I,I,⟨⟨I,I,I⟩,I,⟨⟨I,I,I,I,I,I,I,I,I,I,I,I⟩,⟨I,I⟩,I⟩,⟨I,I⟩,(by assumption)⟩,⟨⟨I,I,I,I,I,I,I,I,I⟩,I⟩,I,⟨I,I,I,I,I,I,I,I,I,I,I,I,I⟩,I⟩,by kernel_rfl,?_⟩
     refine W.ret ?_
     refine EndsW.rt ?_
     conv=>whnf
     refine ⟨⟨I,I,I,I,I,I,I,I,I,I,I,I,I,I⟩,?_,rfl⟩
     rotate_left 1
     replace h2:=df h2
     refine W.skip ?_
     refine g 14 15 [] ?_
     conv=>whnf
     refine ⟨⟨I,I⟩,?_⟩
     refine W.sq ?_
     refine g 19 20 [] ?_
     conv=>whnf
     refine ⟨⟨I,I,I⟩,?_⟩
     refine W.blk ?_
     refine g 22 23 [] ?_
     conv=>whnf
     refine ⟨⟨I,I,I⟩,?_⟩
     refine W.cn ?_
     conv=>whnf
     refine ⟨fun _=>?_,noF (dT (by omega))⟩
     refine g 20 27 [.i (Worker.left w - (1:Int))] ?_
     conv=>whnf
     refine ⟨⟨I,I,w64 (by omega) (by omega),I,⟨I,I⟩,I⟩,?_⟩
     refine g 27 29 [] ?_
     conv=>whnf
     refine ⟨⟨I,I,I,I⟩,?_⟩
     refine W.cn ?_
     conv=>whnf
     refine ⟨fun _=>?_,noF (dT (by omega))⟩
     refine g 29 30 [] ?_
     conv=>whnf
     refine ⟨⟨I,I⟩,?_⟩
     refine W.sq ?_
     refine g 30 35 [] ?_
     conv=>whnf
     refine ⟨⟨I,I,I,I,I,I,I⟩,?_⟩
     refine W.cn ?_
     conv=>whnf
     refine ⟨fun _=>?_,noF (by simp [*])⟩
     refine rg [.x (taskT t)] ?_
     conv=>whnf
     refine ⟨⟨I,I,I,I,⟨(by assumption),ixl (by assumption)⟩,I,I,I,I⟩,?_⟩
     refine g 6 51 [.call (V.s (valueV (Task.name t) (Worker.inputs w))) ([[],[]])] ?_
     conv=>whnf
     refine ⟨⟨I,I,I,⟨⟨I,I,I⟩,I,⟨⟨I,I⟩,⟨I,I⟩,I⟩,⟨I,I⟩,(by assumption)⟩,I,⟨I,I⟩,I,⟨I,I⟩,I,⟨I,I⟩,I,⟨I,I⟩,I⟩,?_⟩
     refine rg [] ?_
     conv=>whnf
     refine ⟨⟨I,I⟩,?_⟩
     refine W.sq ?_
     refine g 3 4 [] ?_
     conv=>whnf
     refine ⟨⟨I,I,I⟩,?_⟩
     refine W.cn ?_
     conv=>whnf
     refine ⟨noT (rfl),fun _=>?_⟩
     refine W.skip ?_
     refine g 64 69 [] ?_
     conv=>whnf
     refine ⟨⟨I,⟨I,I⟩,I⟩,?_⟩
     refine gd 5 75 [[],[],[],[.call (messageO (tellM { number:=Worker.number w,epoch:=Worker.epoch w,up:=Worker.up w,state:=(2:Int),lease:=Worker.lease w,task:=Worker.task w,cost:=(0:Int),left:=Worker.left w - (1:Int),inputs:=[],text:=valueV (Task.name t) (Worker.inputs w),since:=(0:Int):Worker } (3:Int))) ([[],[]])],[],[],[]] ?_
     conv=>whnf
     refine ⟨⟨I,I,I,⟨⟨I,I,I⟩,I,⟨⟨I,I,I,I,I,I,I,I,I,I,I,I⟩,⟨I,I⟩,I⟩,⟨I,I⟩,(by assumption)⟩,⟨⟨I,I,I,I,I,I,I,I,I⟩,I⟩,I,⟨I,I,I,I,I,I,I,I,I,I,I,I,I⟩,I⟩,by kernel_rfl,?_⟩
     refine W.ret ?_
     refine EndsW.rt ?_
     conv=>whnf
     refine ⟨⟨I,I,I,I,I,I,I,I,I,I,I,I,I,I⟩,?_,rfl⟩
     rotate_left 1
     all_goals (rw [tick_done hup h1 hl,tickDone,name_in ht2]; rfl)
    ·have ht2:p.tasks[w.task.toNat]? = none:=List.getElem?_eq_none (by omega)
     have cv:=c_impl_Value emp w.inputs (by decide) (by omega) hes
     have ct:=c_impl_Worker_tell ⟨w.number,w.epoch,w.up,2,w.lease,w.task,0,w.left - 1,[],valueV emp w.inputs,0⟩ 3 (by omega)
     refine i_impl_Worker_tick ?_
     conv=>whnf
     refine g 0 0 [] ?_
     conv=>whnf
     refine ⟨⟨⟨I,I,I,I,I,I,I,I,I,I,I,I⟩,⟨I,I⟩,I,I⟩,?_⟩
     refine W.sq ?_
     refine g 7 9 [] ?_
     conv=>whnf
     refine ⟨⟨I,I,I,I⟩,?_⟩
     refine W.cn ?_
     conv=>whnf
     refine ⟨noT (by simp [*]),fun _=>?_⟩
     refine W.skip ?_
     refine W.sq ?_
     refine g 9 14 [] ?_
     conv=>whnf
     refine ⟨⟨I,I,I,I⟩,?_⟩
     refine W.cn ?_
     conv=>whnf
     refine ⟨fun h2=>?_,fun h2=>?_⟩
     replace h2:=dt h2
     refine rg [.i (Worker.since w + (1:Int))] ?_
     conv=>whnf
     refine ⟨⟨I,I,w64 (by omega) (by omega),I,⟨I,I⟩,I⟩,?_⟩
     refine g 14 19 [] ?_
     conv=>whnf
     refine ⟨⟨I,I⟩,?_⟩
     refine W.sq ?_
     refine g 19 20 [] ?_
     conv=>whnf
     refine ⟨⟨I,I,I⟩,?_⟩
     refine W.blk ?_
     refine g 22 23 [] ?_
     conv=>whnf
     refine ⟨⟨I,I,I⟩,?_⟩
     refine W.cn ?_
     conv=>whnf
     refine ⟨fun _=>?_,noF (dT (by omega))⟩
     refine g 20 27 [.i (Worker.left w - (1:Int))] ?_
     conv=>whnf
     refine ⟨⟨I,I,w64 (by omega) (by omega),I,⟨I,I⟩,I⟩,?_⟩
     refine g 27 29 [] ?_
     conv=>whnf
     refine ⟨⟨I,I,I,I⟩,?_⟩
     refine W.cn ?_
     conv=>whnf
     refine ⟨fun _=>?_,noF (dT (by omega))⟩
     refine g 29 30 [] ?_
     conv=>whnf
     refine ⟨⟨I,I⟩,?_⟩
     refine W.sq ?_
     refine g 30 35 [] ?_
     conv=>whnf
     refine ⟨⟨I,I,I,I,I,I,I⟩,?_⟩
     refine W.cn ?_
     conv=>whnf
     refine ⟨noT (by simp [*]),fun _=>?_⟩
     refine W.skip ?_
     refine g 6 51 [.call (V.s (valueV emp (Worker.inputs w))) ([[],[]])] ?_
     conv=>whnf
     refine ⟨⟨I,I,I,⟨⟨I,I,I⟩,I,⟨⟨I,I⟩,⟨I,I⟩,I⟩,⟨I,I⟩,(by assumption)⟩,I,⟨I,I⟩,I,⟨I,I⟩,I,⟨I,I⟩,I,⟨I,I⟩,I⟩,?_⟩
     refine rg [] ?_
     conv=>whnf
     refine ⟨⟨I,I⟩,?_⟩
     refine W.sq ?_
     refine g 3 4 [] ?_
     conv=>whnf
     refine ⟨⟨I,I,I⟩,?_⟩
     refine W.cn ?_
     conv=>whnf
     refine ⟨noT (rfl),fun _=>?_⟩
     refine W.skip ?_
     refine g 64 69 [] ?_
     conv=>whnf
     refine ⟨⟨I,⟨I,I⟩,I⟩,?_⟩
     refine gd 5 75 [[],[],[],[.call (messageO (tellM { number:=Worker.number w,epoch:=Worker.epoch w,up:=Worker.up w,state:=(2:Int),lease:=Worker.lease w,task:=Worker.task w,cost:=(0:Int),left:=Worker.left w - (1:Int),inputs:=[],text:=valueV emp (Worker.inputs w),since:=(0:Int):Worker } (3:Int))) ([[],[]])],[],[],[]] ?_
     conv=>whnf
     refine ⟨⟨I,I,I,⟨⟨I,I,I⟩,I,⟨⟨I,I,I,I,I,I,I,I,I,I,I,I⟩,⟨I,I⟩,I⟩,⟨I,I⟩,(by assumption)⟩,⟨⟨I,I,I,I,I,I,I,I,I⟩,I⟩,I,⟨I,I,I,I,I,I,I,I,I,I,I,I,I⟩,I⟩,by kernel_rfl,?_⟩
     refine W.ret ?_
     refine EndsW.rt ?_
     conv=>whnf
     refine ⟨⟨I,I,I,I,I,I,I,I,I,I,I,I,I,I⟩,?_,rfl⟩
     rotate_left 1
     replace h2:=df h2
     refine W.skip ?_
     refine g 14 15 [] ?_
     conv=>whnf
     refine ⟨⟨I,I⟩,?_⟩
     refine W.sq ?_
     refine g 19 20 [] ?_
     conv=>whnf
     refine ⟨⟨I,I,I⟩,?_⟩
     refine W.blk ?_
     refine g 22 23 [] ?_
     conv=>whnf
     refine ⟨⟨I,I,I⟩,?_⟩
     refine W.cn ?_
     conv=>whnf
     refine ⟨fun _=>?_,noF (dT (by omega))⟩
     refine g 20 27 [.i (Worker.left w - (1:Int))] ?_
     conv=>whnf
     refine ⟨⟨I,I,w64 (by omega) (by omega),I,⟨I,I⟩,I⟩,?_⟩
     refine g 27 29 [] ?_
     conv=>whnf
     refine ⟨⟨I,I,I,I⟩,?_⟩
     refine W.cn ?_
     conv=>whnf
     refine ⟨fun _=>?_,noF (dT (by omega))⟩
     refine g 29 30 [] ?_
     conv=>whnf
     refine ⟨⟨I,I⟩,?_⟩
     refine W.sq ?_
     refine g 30 35 [] ?_
     conv=>whnf
     refine ⟨⟨I,I,I,I,I,I,I⟩,?_⟩
     refine W.cn ?_
     conv=>whnf
     refine ⟨noT (by simp [*]),fun _=>?_⟩
     refine W.skip ?_
     refine g 6 51 [.call (V.s (valueV emp (Worker.inputs w))) ([[],[]])] ?_
     conv=>whnf
     refine ⟨⟨I,I,I,⟨⟨I,I,I⟩,I,⟨⟨I,I⟩,⟨I,I⟩,I⟩,⟨I,I⟩,(by assumption)⟩,I,⟨I,I⟩,I,⟨I,I⟩,I,⟨I,I⟩,I,⟨I,I⟩,I⟩,?_⟩
     refine rg [] ?_
     conv=>whnf
     refine ⟨⟨I,I⟩,?_⟩
     refine W.sq ?_
     refine g 3 4 [] ?_
     conv=>whnf
     refine ⟨⟨I,I,I⟩,?_⟩
     refine W.cn ?_
     conv=>whnf
     refine ⟨noT (rfl),fun _=>?_⟩
     refine W.skip ?_
     refine g 64 69 [] ?_
     conv=>whnf
     refine ⟨⟨I,⟨I,I⟩,I⟩,?_⟩
     refine gd 5 75 [[],[],[],[.call (messageO (tellM { number:=Worker.number w,epoch:=Worker.epoch w,up:=Worker.up w,state:=(2:Int),lease:=Worker.lease w,task:=Worker.task w,cost:=(0:Int),left:=Worker.left w - (1:Int),inputs:=[],text:=valueV emp (Worker.inputs w),since:=(0:Int):Worker } (3:Int))) ([[],[]])],[],[],[]] ?_
     conv=>whnf
     refine ⟨⟨I,I,I,⟨⟨I,I,I⟩,I,⟨⟨I,I,I,I,I,I,I,I,I,I,I,I⟩,⟨I,I⟩,I⟩,⟨I,I⟩,(by assumption)⟩,⟨⟨I,I,I,I,I,I,I,I,I⟩,I⟩,I,⟨I,I,I,I,I,I,I,I,I,I,I,I,I⟩,I⟩,by kernel_rfl,?_⟩
     refine W.ret ?_
     refine EndsW.rt ?_
     conv=>whnf
     refine ⟨⟨I,I,I,I,I,I,I,I,I,I,I,I,I,I⟩,?_,rfl⟩
     rotate_left 1
     all_goals (rw [tick_done hup h1 hl,tickDone,name_out ht2]; rfl)
   ·skip
    by_cases hs:w.since < 1000000
    ·have e:sinceOf w = w.since + 1:=if_pos hs
     by_cases h4:4 ≤ sinceOf w
     ·have ct:=c_impl_Worker_tell (sinceW (leftW w) 0) 2 (by omega)
      have h5:=h4
      rw [e] at h5
      refine i_impl_Worker_tick ?_
      conv=>whnf
      refine g 0 0 [] ?_
      conv=>whnf
      refine ⟨⟨⟨I,I,I,I,I,I,I,I,I,I,I,I⟩,⟨I,I⟩,I,I⟩,?_⟩
      refine W.sq ?_
      refine g 7 9 [] ?_
      conv=>whnf
      refine ⟨⟨I,I,I,I⟩,?_⟩
      refine W.cn ?_
      conv=>whnf
      refine ⟨noT (by simp [*]),fun _=>?_⟩
      refine W.skip ?_
      refine W.sq ?_
      refine g 9 14 [] ?_
      conv=>whnf
      refine ⟨⟨I,I,I,I⟩,?_⟩
      refine W.cn ?_
      conv=>whnf
      refine ⟨fun _=>?_,noF (dT (by omega))⟩
      refine rg [.i (Worker.since w + (1:Int))] ?_
      conv=>whnf
      refine ⟨⟨I,I,w64 (by omega) (by omega),I,⟨I,I⟩,I⟩,?_⟩
      refine g 14 19 [] ?_
      conv=>whnf
      refine ⟨⟨I,I⟩,?_⟩
      refine W.sq ?_
      refine g 19 20 [] ?_
      conv=>whnf
      refine ⟨⟨I,I,I⟩,?_⟩
      refine W.blk ?_
      refine g 22 23 [] ?_
      conv=>whnf
      refine ⟨⟨I,I,I⟩,?_⟩
      refine W.cn ?_
      conv=>whnf
      refine ⟨fun _=>?_,noF (dT (by omega))⟩
      refine g 20 27 [.i (Worker.left w - (1:Int))] ?_
      conv=>whnf
      refine ⟨⟨I,I,w64 (by omega) (by omega),I,⟨I,I⟩,I⟩,?_⟩
      refine g 27 29 [] ?_
      conv=>whnf
      refine ⟨⟨I,I,I,I⟩,?_⟩
      refine W.cn ?_
      conv=>whnf
      refine ⟨noT (dF (by omega)),fun _=>?_⟩
      refine g 29 53 [] ?_
      conv=>whnf
      refine ⟨⟨I,I,I,I⟩,?_⟩
      refine W.cn ?_
      conv=>whnf
      refine ⟨fun _=>?_,noF (dT (by omega))⟩
      refine rg [] ?_
      conv=>whnf
      refine ⟨⟨I,I⟩,?_⟩
      refine W.sq ?_
      refine g 53 65 [] ?_
      conv=>whnf
      refine ⟨⟨I,I,I⟩,?_⟩
      refine W.cn ?_
      conv=>whnf
      refine ⟨noT (rfl),fun _=>?_⟩
      refine W.skip ?_
      refine g 65 69 [] ?_
      conv=>whnf
      refine ⟨⟨I,⟨I,I⟩,I⟩,?_⟩
      refine gd 5 75 [[],[],[],[.call (messageO (tellM (sinceW (leftW w) (0:Int)) (2:Int))) ([[],[]])],[],[],[]] ?_
      conv=>whnf
      refine ⟨⟨I,I,I,⟨⟨I,I,I⟩,I,⟨⟨I,I,I,I,I,I,I,I,I,I,I,I⟩,⟨I,I⟩,I⟩,⟨I,I⟩,(by assumption)⟩,⟨⟨I,I,I,I,I,I,I,I,I⟩,I⟩,I,⟨I,I,I,I,I,I,I,I,I,I,I,I,I⟩,I⟩,by kernel_rfl,?_⟩
      refine W.ret ?_
      refine EndsW.rt ?_
      conv=>whnf
      refine ⟨⟨I,I,I,I,I,I,I,I,I,I,I,I,I,I⟩,?_,rfl⟩
      rw [tick_beat hup h1 hl h4]; rfl
     ·have h5:=h4
      rw [e] at h5
      refine i_impl_Worker_tick ?_
      conv=>whnf
      refine g 0 0 [] ?_
      conv=>whnf
      refine ⟨⟨⟨I,I,I,I,I,I,I,I,I,I,I,I⟩,⟨I,I⟩,I,I⟩,?_⟩
      refine W.sq ?_
      refine g 7 9 [] ?_
      conv=>whnf
      refine ⟨⟨I,I,I,I⟩,?_⟩
      refine W.cn ?_
      conv=>whnf
      refine ⟨noT (by simp [*]),fun _=>?_⟩
      refine W.skip ?_
      refine W.sq ?_
      refine g 9 14 [] ?_
      conv=>whnf
      refine ⟨⟨I,I,I,I⟩,?_⟩
      refine W.cn ?_
      conv=>whnf
      refine ⟨fun _=>?_,noF (dT (by omega))⟩
      refine rg [.i (Worker.since w + (1:Int))] ?_
      conv=>whnf
      refine ⟨⟨I,I,w64 (by omega) (by omega),I,⟨I,I⟩,I⟩,?_⟩
      refine g 14 19 [] ?_
      conv=>whnf
      refine ⟨⟨I,I⟩,?_⟩
      refine W.sq ?_
      refine g 19 20 [] ?_
      conv=>whnf
      refine ⟨⟨I,I,I⟩,?_⟩
      refine W.blk ?_
      refine g 22 23 [] ?_
      conv=>whnf
      refine ⟨⟨I,I,I⟩,?_⟩
      refine W.cn ?_
      conv=>whnf
      refine ⟨fun _=>?_,noF (dT (by omega))⟩
      refine g 20 27 [.i (Worker.left w - (1:Int))] ?_
      conv=>whnf
      refine ⟨⟨I,I,w64 (by omega) (by omega),I,⟨I,I⟩,I⟩,?_⟩
      refine g 27 29 [] ?_
      conv=>whnf
      refine ⟨⟨I,I,I,I⟩,?_⟩
      refine W.cn ?_
      conv=>whnf
      refine ⟨noT (dF (by omega)),fun _=>?_⟩
      refine g 29 53 [] ?_
      conv=>whnf
      refine ⟨⟨I,I,I,I⟩,?_⟩
      refine W.cn ?_
      conv=>whnf
      refine ⟨noT (dF (by omega)),fun _=>?_⟩
      refine W.skip ?_
      refine W.sq ?_
      refine g 53 65 [] ?_
      conv=>whnf
      refine ⟨⟨I,I,I⟩,?_⟩
      refine W.cn ?_
      conv=>whnf
      refine ⟨fun _=>?_,noF (rfl)⟩
      refine g 65 68 [] ?_
      conv=>whnf
      refine ⟨⟨I,I,⟨I,I,I,I,I,I,I,I,I,I,I,I,I⟩,I⟩,?_⟩
      refine W.ret ?_
      refine EndsW.rt ?_
      conv=>whnf
      refine ⟨⟨I,I,I,I,I,I,I,I,I,I,I,I,I,I⟩,?_,rfl⟩
      rw [tick_busy hup h1 hl h4,e]; rfl
    ·have e:sinceOf w = w.since:=if_neg hs
     by_cases h4:4 ≤ sinceOf w
     ·have ct:=c_impl_Worker_tell (sinceW (leftW w) 0) 2 (by omega)
      have h5:=h4
      rw [e] at h5
      refine i_impl_Worker_tick ?_
      conv=>whnf
      refine g 0 0 [] ?_
      conv=>whnf
      refine ⟨⟨⟨I,I,I,I,I,I,I,I,I,I,I,I⟩,⟨I,I⟩,I,I⟩,?_⟩
      refine W.sq ?_
      refine g 7 9 [] ?_
      conv=>whnf
      refine ⟨⟨I,I,I,I⟩,?_⟩
      refine W.cn ?_
      conv=>whnf
      refine ⟨noT (by simp [*]),fun _=>?_⟩
      refine W.skip ?_
      refine W.sq ?_
      refine g 9 14 [] ?_
      conv=>whnf
      refine ⟨⟨I,I,I,I⟩,?_⟩
      refine W.cn ?_
      conv=>whnf
      refine ⟨noT (dF (by omega)),fun _=>?_⟩
      refine W.skip ?_
      refine g 14 15 [] ?_
      conv=>whnf
      refine ⟨⟨I,I⟩,?_⟩
      refine W.sq ?_
      refine g 19 20 [] ?_
      conv=>whnf
      refine ⟨⟨I,I,I⟩,?_⟩
      refine W.blk ?_
      refine g 22 23 [] ?_
      conv=>whnf
      refine ⟨⟨I,I,I⟩,?_⟩
      refine W.cn ?_
      conv=>whnf
      refine ⟨fun _=>?_,noF (dT (by omega))⟩
      refine g 20 27 [.i (Worker.left w - (1:Int))] ?_
      conv=>whnf
      refine ⟨⟨I,I,w64 (by omega) (by omega),I,⟨I,I⟩,I⟩,?_⟩
      refine g 27 29 [] ?_
      conv=>whnf
      refine ⟨⟨I,I,I,I⟩,?_⟩
      refine W.cn ?_
      conv=>whnf
      refine ⟨noT (dF (by omega)),fun _=>?_⟩
      refine g 29 53 [] ?_
      conv=>whnf
      refine ⟨⟨I,I,I,I⟩,?_⟩
      refine W.cn ?_
      conv=>whnf
      refine ⟨fun _=>?_,noF (dT (by omega))⟩
      refine rg [] ?_
      conv=>whnf
      refine ⟨⟨I,I⟩,?_⟩
      refine W.sq ?_
      refine g 53 65 [] ?_
      conv=>whnf
      refine ⟨⟨I,I,I⟩,?_⟩
      refine W.cn ?_
      conv=>whnf
      refine ⟨noT (rfl),fun _=>?_⟩
      refine W.skip ?_
      refine g 65 69 [] ?_
      conv=>whnf
      refine ⟨⟨I,⟨I,I⟩,I⟩,?_⟩
      refine gd 5 75 [[],[],[],[.call (messageO (tellM (sinceW (leftW w) (0:Int)) (2:Int))) ([[],[]])],[],[],[]] ?_
      conv=>whnf
      refine ⟨⟨I,I,I,⟨⟨I,I,I⟩,I,⟨⟨I,I,I,I,I,I,I,I,I,I,I,I⟩,⟨I,I⟩,I⟩,⟨I,I⟩,(by assumption)⟩,⟨⟨I,I,I,I,I,I,I,I,I⟩,I⟩,I,⟨I,I,I,I,I,I,I,I,I,I,I,I,I⟩,I⟩,by kernel_rfl,?_⟩
      refine W.ret ?_
      refine EndsW.rt ?_
      conv=>whnf
      refine ⟨⟨I,I,I,I,I,I,I,I,I,I,I,I,I,I⟩,?_,rfl⟩
      rw [tick_beat hup h1 hl h4]; rfl
     ·exfalso; omega
  ·skip
   by_cases hs:w.since < 1000000
   ·have e:sinceOf w = w.since + 1:=if_pos hs
    by_cases h4:4 ≤ sinceOf w
    ·have ct:=c_impl_Worker_tell (sinceW w 0) 3 (by omega)
     have h5:=h4
     rw [e] at h5
     refine i_impl_Worker_tick ?_
     conv=>whnf
     refine g 0 0 [] ?_
     conv=>whnf
     refine ⟨⟨⟨I,I,I,I,I,I,I,I,I,I,I,I⟩,⟨I,I⟩,I,I⟩,?_⟩
     refine W.sq ?_
     refine g 7 9 [] ?_
     conv=>whnf
     refine ⟨⟨I,I,I,I⟩,?_⟩
     refine W.cn ?_
     conv=>whnf
     refine ⟨noT (by simp [*]),fun _=>?_⟩
     refine W.skip ?_
     refine W.sq ?_
     refine g 9 14 [] ?_
     conv=>whnf
     refine ⟨⟨I,I,I,I⟩,?_⟩
     refine W.cn ?_
     conv=>whnf
     refine ⟨fun _=>?_,noF (dT (by omega))⟩
     refine rg [.i (Worker.since w + (1:Int))] ?_
     conv=>whnf
     refine ⟨⟨I,I,w64 (by omega) (by omega),I,⟨I,I⟩,I⟩,?_⟩
     refine g 14 19 [] ?_
     conv=>whnf
     refine ⟨⟨I,I⟩,?_⟩
     refine W.sq ?_
     refine g 19 20 [] ?_
     conv=>whnf
     refine ⟨⟨I,I,I⟩,?_⟩
     refine W.blk ?_
     refine g 22 23 [] ?_
     conv=>whnf
     refine ⟨⟨I,I,I⟩,?_⟩
     refine W.cn ?_
     conv=>whnf
     refine ⟨noT (dF (by omega)),fun _=>?_⟩
     refine g 3 4 [] ?_
     conv=>whnf
     refine ⟨⟨I,I,I⟩,?_⟩
     refine W.cn ?_
     conv=>whnf
     refine ⟨fun _=>?_,noF (dT (by omega))⟩
     refine g 20 58 [] ?_
     conv=>whnf
     refine ⟨⟨I,I,I,I⟩,?_⟩
     refine W.cn ?_
     conv=>whnf
     refine ⟨fun _=>?_,noF (dT (by omega))⟩
     refine rg [] ?_
     conv=>whnf
     refine ⟨⟨I,I⟩,?_⟩
     refine W.sq ?_
     refine g 58 65 [] ?_
     conv=>whnf
     refine ⟨⟨I,I,I⟩,?_⟩
     refine W.cn ?_
     conv=>whnf
     refine ⟨noT (rfl),fun _=>?_⟩
     refine W.skip ?_
     refine g 65 69 [] ?_
     conv=>whnf
     refine ⟨⟨I,⟨I,I⟩,I⟩,?_⟩
     refine gd 5 75 [[],[],[],[.call (messageO (tellM (sinceW w (0:Int)) (3:Int))) ([[],[]])],[],[],[]] ?_
     conv=>whnf
     refine ⟨⟨I,I,I,⟨⟨I,I,I⟩,I,⟨⟨I,I,I,I,I,I,I,I,I,I,I,I⟩,⟨I,I⟩,I⟩,⟨I,I⟩,(by assumption)⟩,⟨⟨I,I,I,I,I,I,I,I,I⟩,I⟩,I,⟨I,I,I,I,I,I,I,I,I,I,I,I,I⟩,I⟩,by kernel_rfl,?_⟩
     refine W.ret ?_
     refine EndsW.rt ?_
     conv=>whnf
     refine ⟨⟨I,I,I,I,I,I,I,I,I,I,I,I,I,I⟩,?_,rfl⟩
     rw [tick_told hup h1 h4]; rfl
    ·have h5:=h4
     rw [e] at h5
     refine i_impl_Worker_tick ?_
     conv=>whnf
     refine g 0 0 [] ?_
     conv=>whnf
     refine ⟨⟨⟨I,I,I,I,I,I,I,I,I,I,I,I⟩,⟨I,I⟩,I,I⟩,?_⟩
     refine W.sq ?_
     refine g 7 9 [] ?_
     conv=>whnf
     refine ⟨⟨I,I,I,I⟩,?_⟩
     refine W.cn ?_
     conv=>whnf
     refine ⟨noT (by simp [*]),fun _=>?_⟩
     refine W.skip ?_
     refine W.sq ?_
     refine g 9 14 [] ?_
     conv=>whnf
     refine ⟨⟨I,I,I,I⟩,?_⟩
     refine W.cn ?_
     conv=>whnf
     refine ⟨fun _=>?_,noF (dT (by omega))⟩
     refine rg [.i (Worker.since w + (1:Int))] ?_
     conv=>whnf
     refine ⟨⟨I,I,w64 (by omega) (by omega),I,⟨I,I⟩,I⟩,?_⟩
     refine g 14 19 [] ?_
     conv=>whnf
     refine ⟨⟨I,I⟩,?_⟩
     refine W.sq ?_
     refine g 19 20 [] ?_
     conv=>whnf
     refine ⟨⟨I,I,I⟩,?_⟩
     refine W.blk ?_
     refine g 22 23 [] ?_
     conv=>whnf
     refine ⟨⟨I,I,I⟩,?_⟩
     refine W.cn ?_
     conv=>whnf
     refine ⟨noT (dF (by omega)),fun _=>?_⟩
     refine g 3 4 [] ?_
     conv=>whnf
     refine ⟨⟨I,I,I⟩,?_⟩
     refine W.cn ?_
     conv=>whnf
     refine ⟨fun _=>?_,noF (dT (by omega))⟩
     refine g 20 58 [] ?_
     conv=>whnf
     refine ⟨⟨I,I,I,I⟩,?_⟩
     refine W.cn ?_
     conv=>whnf
     refine ⟨noT (dF (by omega)),fun _=>?_⟩
     refine W.skip ?_
     refine W.sq ?_
     refine g 58 65 [] ?_
     conv=>whnf
     refine ⟨⟨I,I,I⟩,?_⟩
     refine W.cn ?_
     conv=>whnf
     refine ⟨fun _=>?_,noF (rfl)⟩
     refine g 65 68 [] ?_
     conv=>whnf
     refine ⟨⟨I,I,⟨I,I,I,I,I,I,I,I,I,I,I,I,I⟩,I⟩,?_⟩
     refine W.ret ?_
     refine EndsW.rt ?_
     conv=>whnf
     refine ⟨⟨I,I,I,I,I,I,I,I,I,I,I,I,I,I⟩,?_,rfl⟩
     rw [tick_told2 hup h1 h4,e]; rfl
   ·have e:sinceOf w = w.since:=if_neg hs
    by_cases h4:4 ≤ sinceOf w
    ·have ct:=c_impl_Worker_tell (sinceW w 0) 3 (by omega)
     have h5:=h4
     rw [e] at h5
     refine i_impl_Worker_tick ?_
     conv=>whnf
     refine g 0 0 [] ?_
     conv=>whnf
     refine ⟨⟨⟨I,I,I,I,I,I,I,I,I,I,I,I⟩,⟨I,I⟩,I,I⟩,?_⟩
     refine W.sq ?_
     refine g 7 9 [] ?_
     conv=>whnf
     refine ⟨⟨I,I,I,I⟩,?_⟩
     refine W.cn ?_
     conv=>whnf
     refine ⟨noT (by simp [*]),fun _=>?_⟩
     refine W.skip ?_
     refine W.sq ?_
     refine g 9 14 [] ?_
     conv=>whnf
     refine ⟨⟨I,I,I,I⟩,?_⟩
     refine W.cn ?_
     conv=>whnf
     refine ⟨noT (dF (by omega)),fun _=>?_⟩
     refine W.skip ?_
     refine g 14 15 [] ?_
     conv=>whnf
     refine ⟨⟨I,I⟩,?_⟩
     refine W.sq ?_
     refine g 19 20 [] ?_
     conv=>whnf
     refine ⟨⟨I,I,I⟩,?_⟩
     refine W.blk ?_
     refine g 22 23 [] ?_
     conv=>whnf
     refine ⟨⟨I,I,I⟩,?_⟩
     refine W.cn ?_
     conv=>whnf
     refine ⟨noT (dF (by omega)),fun _=>?_⟩
     refine g 3 4 [] ?_
     conv=>whnf
     refine ⟨⟨I,I,I⟩,?_⟩
     refine W.cn ?_
     conv=>whnf
     refine ⟨fun _=>?_,noF (dT (by omega))⟩
     refine g 20 58 [] ?_
     conv=>whnf
     refine ⟨⟨I,I,I,I⟩,?_⟩
     refine W.cn ?_
     conv=>whnf
     refine ⟨fun _=>?_,noF (dT (by omega))⟩
     refine rg [] ?_
     conv=>whnf
     refine ⟨⟨I,I⟩,?_⟩
     refine W.sq ?_
     refine g 58 65 [] ?_
     conv=>whnf
     refine ⟨⟨I,I,I⟩,?_⟩
     refine W.cn ?_
     conv=>whnf
     refine ⟨noT (rfl),fun _=>?_⟩
     refine W.skip ?_
     refine g 65 69 [] ?_
     conv=>whnf
     refine ⟨⟨I,⟨I,I⟩,I⟩,?_⟩
     refine gd 5 75 [[],[],[],[.call (messageO (tellM (sinceW w (0:Int)) (3:Int))) ([[],[]])],[],[],[]] ?_
     conv=>whnf
     refine ⟨⟨I,I,I,⟨⟨I,I,I⟩,I,⟨⟨I,I,I,I,I,I,I,I,I,I,I,I⟩,⟨I,I⟩,I⟩,⟨I,I⟩,(by assumption)⟩,⟨⟨I,I,I,I,I,I,I,I,I⟩,I⟩,I,⟨I,I,I,I,I,I,I,I,I,I,I,I,I⟩,I⟩,by kernel_rfl,?_⟩
     refine W.ret ?_
     refine EndsW.rt ?_
     conv=>whnf
     refine ⟨⟨I,I,I,I,I,I,I,I,I,I,I,I,I,I⟩,?_,rfl⟩
     rw [tick_told hup h1 h4]; rfl
    ·exfalso; omega
theorem c_impl_WorkerTick (w:Worker) (p:Plan) (hp:planWf p) (hl:w.inputs.length ≤ 1048576):F n_impl_WorkerTick [.val (workerR w),.val (planR p)] (actedO (wTick w p)) [[],[]]:=by
 have cp:=c_impl_CheckPlan p hp
 by_cases h:workerOk w
 ·by_cases hc:checkPlan p.tasks = 0
  ·rw [hc] at cp
   have ct:=c_impl_Worker_tick w p h hc
   rw [wtick_ok h hc]
   refine i_impl_WorkerTick ?_
   conv=>whnf
   refine g 0 2 [] ?_
   conv=>whnf
   refine ⟨⟨⟨I,I,I,I,I,I,I,I,I,I,I,I⟩,⟨I,I⟩,I,I⟩,?_⟩
   refine W.sq ?_
   refine g 5 12 [.call (V.b (decide (workerOk w))) ([[]]),.b (false),.b (false),.call (V.i (0:Int)) ([[]]),.b (false),.b (false)] ?_
   conv=>whnf
   refine ⟨⟨I,⟨⟨I,I⟩,I,⟨⟨I,I,I,I,I,I,I,I,I,I,I,I⟩,I⟩,⟨I,I⟩,Go.K.c_impl_ValidWorker _ (by omega)⟩,I,I,⟨notF (by omega),I⟩,⟨notF (by omega),⟨I,I⟩,I,⟨⟨I,I⟩,I⟩,⟨I,I⟩,(by assumption)⟩,⟨notF (by omega),I⟩,notF (by omega),I⟩,?_⟩
   refine W.cn ?_
   conv=>whnf
   refine ⟨noT (rfl),fun _=>?_⟩
   refine W.skip ?_
   refine gd 12 18 [[],[.call (workerO w) ([[]])],[],[.call (actedO (tickA w (Plan.tasks p))) ([[],[]])],[]] ?_
   conv=>whnf
   refine ⟨⟨I,⟨⟨I,I⟩,I,⟨⟨I,I,I,I,I,I,I,I,I,I,I,I⟩,I⟩,⟨I,I⟩,Go.K.c_impl_Worker_twin _ (by omega)⟩,I,⟨⟨⟨I,I,I,I,I,I,I,I,I,I,I,I⟩,I,I⟩,I,⟨I,⟨I,I⟩,I⟩,⟨I,I⟩,(by assumption)⟩,⟨I,I,I,I,I,I,I,I,I,I,I,I,I⟩,I⟩,by kernel_rfl,?_⟩
   refine W.ret ?_
   refine EndsW.rt ?_
   conv=>whnf
   refine ⟨⟨I,I,I,I,I,I,I,I,I,I,I,I,I,I⟩,?_,rfl⟩
   rfl
  ·rw [wtick_no (fun q=>hc q.2)]
   refine i_impl_WorkerTick ?_
   conv=>whnf
   refine g 0 2 [] ?_
   conv=>whnf
   refine ⟨⟨⟨I,I,I,I,I,I,I,I,I,I,I,I⟩,⟨I,I⟩,I,I⟩,?_⟩
   refine W.sq ?_
   refine g 5 12 [.call (V.b (decide (workerOk w))) ([[]]),.b (false),.b (false),.call (V.i (checkPlan (Plan.tasks p))) ([[]]),.b (false),.b (false)] ?_
   conv=>whnf
   refine ⟨⟨I,⟨⟨I,I⟩,I,⟨⟨I,I,I,I,I,I,I,I,I,I,I,I⟩,I⟩,⟨I,I⟩,Go.K.c_impl_ValidWorker _ (by omega)⟩,I,I,⟨notF (by omega),I⟩,⟨notF (by omega),⟨I,I⟩,I,⟨⟨I,I⟩,I⟩,⟨I,I⟩,(by assumption)⟩,⟨notF (by omega),I⟩,notF (by omega),I⟩,?_⟩
   refine W.cn ?_
   conv=>whnf
   refine ⟨fun _=>?_,noF (notT (by omega))⟩
   refine g 12 14 [] ?_
   conv=>whnf
   refine ⟨⟨I,⟨I,I,I,I,I,I,I,I,I,I,I,I,I⟩,I⟩,?_⟩
   refine W.ret ?_
   refine EndsW.rt ?_
   conv=>whnf
   refine ⟨⟨I,I,I,I,I,I,I,I,I,I,I,I,I,I⟩,?_,rfl⟩
   rfl
 ·rw [wtick_no (fun q=>h q.1)]
  refine i_impl_WorkerTick ?_
  conv=>whnf
  refine g 0 2 [] ?_
  conv=>whnf
  refine ⟨⟨⟨I,I,I,I,I,I,I,I,I,I,I,I⟩,⟨I,I⟩,I,I⟩,?_⟩
  refine W.sq ?_
  refine g 5 12 [.call (V.b (decide (workerOk w))) ([[]]),.b (true),.b (true),.b (true),.b (true)] ?_
  conv=>whnf
  refine ⟨⟨I,⟨⟨I,I⟩,I,⟨⟨I,I,I,I,I,I,I,I,I,I,I,I⟩,I⟩,⟨I,I⟩,Go.K.c_impl_ValidWorker _ (by omega)⟩,I,I,notT (by omega),notT (by omega),notT (by omega),notT (by omega),I⟩,?_⟩
  refine W.cn ?_
  conv=>whnf
  refine ⟨fun _=>?_,noF (rfl)⟩
  refine g 12 14 [] ?_
  conv=>whnf
  refine ⟨⟨I,⟨I,I,I,I,I,I,I,I,I,I,I,I,I⟩,I⟩,?_⟩
  refine W.ret ?_
  refine EndsW.rt ?_
  conv=>whnf
  refine ⟨⟨I,I,I,I,I,I,I,I,I,I,I,I,I,I⟩,?_,rfl⟩
  rfl
end Go.K
end

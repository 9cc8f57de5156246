/- Contracts of functions of the program: what each call answers. -/
import Derived.Test.YtclkoehdmpcggaaParte
section
set_option linter.unusedVariables false
set_option linter.unusedSimpArgs false
set_option maxHeartbeats 16000000
set_option maxRecDepth 20000
open Go Go.Tm Go.Proofs
namespace Go.K
structure RepOk (p:Plan) (xs:List ByteArray):Prop where
 plan:planMid p
 len:xs.length ≤ 400
 size:∀ s ∈ xs,s.size ≤ 64
theorem ex_DrawRP (l:List Int) (hlen:l.length ≤ 1048576) (h8:∀ x ∈ l,0 ≤ x ∧ x ≤ 255):∃ res outs,(∃ (p:Plan) (xs:List ByteArray),res = .tup [planO p,.own [false] (xs.map strT)] ∧ outs = [[]] ∧ RepOk p xs) ∧ F n_spec_DrawReplay [.val (.t (u8s l))] res outs:=by
 have hu:=u8_take h8
 have co:=c_spec_l1Open l (by omega)
 generalize l.take 2000 = L at hu co
 have cd:=c_spec_l1Draw L 0 hu (by omega) (by omega)
 obtain ⟨d1,d2,d3,d4⟩:=draw_ok L 0
 generalize (drawP L 0).1 = p at cd d1 d2
 generalize (drawP L 0).2 = q at cd d3 d4
 have ch:=c_spec_l4History L q p d1 hu d3 (by omega)
 obtain ⟨e1,e2,e3,e4⟩:=hist_ok L q p
 generalize (histP L q p).1 = H at ch e1 e2
 generalize (histP L q p).2 = r at ch e3 e4
 have ck:=c_spec_l1Rd_pick L r (H.length:Int) hu (by omega) (by omega) (by omega)
 have pk:=pick_rng L r (H.length:Int)
 generalize hk:pickV L r (H.length:Int) = k at ck pk
 have hlm:H.length = (H.map strT).length:=(List.length_map strT).symm
 rw [hlm] at ck
 clear hlm
 have p3:=pick_rng L (r + 1) 3
 have p4:=pick_rng L (r + 1 + 1) 4
 have hm:=small_mid d1
 have hmid:planMid p:=hm
 have e12:∀ s ∈ H,s.size ≤ 64:=fun s hs=>by have:=e2 s hs; omega
 by_cases hz:H.length = 0
 ·skip
  have t0:=pick_rng L (r + 1) 40
  have t1:=pick_rng L (r + 1 + 1) 12
  obtain ⟨s1,s2,s3⟩:=spoil_ok L (r + 1 + 1 + 1) p
  have hln:(H).length ≤ 82:=by omega
  have hsz:∀ s ∈ (H),s.size ≤ 64:=e12
  by_cases g40:pickV L (r + 1) 40 = 0
  ·refine x_spec_DrawReplay ?_
   conv=>whnf
   refine g 0 0 [] ?_
   conv=>whnf
   refine ⟨⟨I,I,I⟩,?_⟩
   refine g 8 10 [.call (V.tup [V.tup (rdC L (0:Int))]) ([[]])] ?_
   conv=>whnf
   refine ⟨⟨I,⟨⟨I,I⟩,I,⟨⟨I,I⟩,I⟩,⟨I,I⟩,(by assumption)⟩,I,I⟩,?_⟩
   refine g 10 12 [.call (planO p) ([rdC L q])] ?_
   conv=>whnf
   refine ⟨⟨I,⟨⟨I,I⟩,I,⟨I,I⟩,⟨I,I⟩,(by assumption)⟩,I,⟨I,I⟩,I⟩,?_⟩
   refine g 12 15 [.call (V.own [false] (List.map strT H)) ([rdC L r,[V.own taskK (List.map taskT (Plan.tasks p))]])] ?_
   conv=>whnf
   refine ⟨⟨I,I,⟨⟨I,⟨I,I⟩,I⟩,I,⟨I,I,I⟩,⟨I,I⟩,(by assumption)⟩,I,I⟩,?_⟩
   refine g 15 19 [.call (V.i k) ([rdC L (r + (1:Int)),[]])] ?_
   conv=>whnf
   refine ⟨⟨I,I,I,⟨⟨I,I,I⟩,I,⟨I,⟨I,I⟩,I⟩,⟨I,I⟩,(by assumption)⟩,I,I⟩,?_⟩
   refine W.sq ?_
   refine g 19 22 [.b (false),.b (false),.b (false),.b (false)] ?_
   conv=>whnf
   refine ⟨⟨I,I,I,I,(by simp [*]),(by simp [*]),(by simp [*]),(by simp [*]),I⟩,?_⟩
   refine W.cn ?_
   conv=>whnf
   refine ⟨noT (rfl),fun _=>?_⟩
   refine W.skip ?_
   refine W.sq ?_
   refine g 23 69 [.call (V.i (pickV L (r + (1:Int)) (40:Int))) ([rdC L (r + (1:Int) + (1:Int)),[]])] ?_
   conv=>whnf
   refine ⟨⟨I,⟨⟨I,I,I⟩,I,⟨I,⟨I,I⟩,I⟩,⟨I,I⟩,Go.K.c_spec_l1Rd_pick _ _ _ (by omega) (by omega) (by omega) (by omega)⟩,I,I⟩,?_⟩
   refine W.cn ?_
   conv=>whnf
   refine ⟨fun _=>?_,noF (dT (by omega))⟩
   refine W.blk ?_
   refine W.lp (fun s (x:List ByteArray)=>⟨[(0,s.s 0),(2,s.s 2),(3,s.s 3),(4,s.s 4),(5,s.s 5),(6,.ref ⟨6,none,0⟩),(22,s.s 22)],[(2,[s.c 2 0]),(9,[s.c 9 0,s.c 9 1]),(5,[s.c 5 0]),(6,[.own [false] (x.map strT)])],[]⟩) (fun (x:List ByteArray)=>x.length ≤ 311 ∧ ∀ s ∈ x,s.size ≤ 64) (fun (x:List ByteArray)=>311 - x.length) (H) [some 2,some 9,some 5,some 14] [] ⟨rfl,⟨rfl,rfl,rfl,rfl,rfl,rfl,rfl,I⟩,⟨⟨rfl,⟨rfl,I⟩⟩,⟨⟨rfl,⟨rfl,⟨rfl,I⟩⟩⟩,⟨⟨rfl,⟨rfl,I⟩⟩,⟨⟨rfl,⟨rfl,I⟩⟩,I⟩⟩⟩⟩,I⟩ ?_ ?_
   ·exact ⟨by omega,hsz⟩
   rintro x ⟨x1,x2⟩
   by_cases hx:x.length ≤ 310
   ·conv=>whnf
    refine W.sq ?_
    refine g 70 72 [] ?_
    conv=>whnf
    refine ⟨⟨I,I,I,I⟩,?_⟩
    refine W.cn ?_
    conv=>whnf
    refine ⟨fun h1=>?_,fun h1=>?_⟩
    replace h1:=dt h1
    simp only [List.length_map] at h1
    refine W.skip ?_
    refine W.blk ?_
    refine rg [] ?_
    conv=>whnf
    refine ⟨⟨I,⟨⟨I,I⟩,I⟩,⟨I,I,(by simp only [lens]; omega)⟩,I,I⟩,?_⟩
    rotate_left 1
    replace h1:=df h1
    simp only [List.length_map] at h1
    omega
    have ex:=map_snoc x ⟨#[120]⟩
    refine ⟨x ++ [⟨#[120]⟩],[some 2,some 9,some 5,some 75],[],⟨rfl,⟨rfl,rfl,rfl,rfl,rfl,rfl,rfl,I⟩,⟨⟨rfl,⟨rfl,I⟩⟩,⟨⟨rfl,⟨rfl,⟨rfl,I⟩⟩⟩,⟨⟨rfl,⟨rfl,I⟩⟩,⟨⟨rfl,⟨(congrArg (V.own _) (ex)),I⟩⟩,I⟩⟩⟩⟩,I⟩,?_,?_⟩
    rotate_left 1
    rotate_right 1
    dsimp only
    ·exact ⟨by rw [len_snoc]; omega,all_snoc x2 (by decide)⟩
    ·show 311 - (x ++ [_]).length < 311 - x.length
     rw [len_snoc]; omega
   ·by_cases g12:pickV L (r + 1 + 1) 12 = 0
    ·conv=>whnf
     refine W.sq ?_
     refine g 70 72 [] ?_
     conv=>whnf
     refine ⟨⟨I,I,I,I⟩,?_⟩
     refine W.cn ?_
     conv=>whnf
     refine ⟨fun h1=>?_,fun h1=>?_⟩
     replace h1:=dt h1
     simp only [List.length_map] at h1
     omega
     replace h1:=df h1
     simp only [List.length_map] at h1
     refine W.exit ?_
     refine W.sq ?_
     refine g 72 78 [.call (V.i (pickV L (r + (1:Int) + (1:Int)) (12:Int))) ([rdC L (r + (1:Int) + (1:Int) + (1:Int)),[]])] ?_
     conv=>whnf
     refine ⟨⟨I,⟨⟨I,I,I⟩,I,⟨I,⟨I,I⟩,I⟩,⟨I,I⟩,Go.K.c_spec_l1Rd_pick _ _ _ (by omega) (by omega) (by omega) (by omega)⟩,I,I⟩,?_⟩
     refine W.cn ?_
     conv=>whnf
     refine ⟨fun _=>?_,noF (dT (by omega))⟩
     refine rg [.call (planO (Prod.fst (spoilP L (r + (1:Int) + (1:Int) + (1:Int)) p))) ([rdC L (Prod.snd (spoilP L (r + (1:Int) + (1:Int) + (1:Int)) p)),[]])] ?_
     conv=>whnf
     refine ⟨⟨I,I,⟨⟨I,⟨I,I⟩,I⟩,I,⟨I,I,I⟩,⟨I,I⟩,Go.K.c_spec_l1Spoil _ _ _ (by omega) (by omega) (by omega) (by omega)⟩,⟨I,I⟩,I⟩,?_⟩
     refine g 78 84 [] ?_
     conv=>whnf
     refine ⟨⟨I,I,⟨I,I⟩,I,I⟩,?_⟩
     refine W.ret ?_
     refine EndsW.rt ?_
     conv=>whnf
     refine ⟨⟨I,⟨I,I⟩,I,⟨I,I⟩,I⟩,?_⟩
     exact ⟨(spoilP L (r + 1 + 1 + 1) p).1,x,rfl,rfl,s1,by omega,x2⟩
    ·conv=>whnf
     refine W.sq ?_
     refine g 70 72 [] ?_
     conv=>whnf
     refine ⟨⟨I,I,I,I⟩,?_⟩
     refine W.cn ?_
     conv=>whnf
     refine ⟨fun h1=>?_,fun h1=>?_⟩
     replace h1:=dt h1
     simp only [List.length_map] at h1
     omega
     replace h1:=df h1
     simp only [List.length_map] at h1
     refine W.exit ?_
     refine W.sq ?_
     refine g 72 78 [.call (V.i (pickV L (r + (1:Int) + (1:Int)) (12:Int))) ([rdC L (r + (1:Int) + (1:Int) + (1:Int)),[]])] ?_
     conv=>whnf
     refine ⟨⟨I,⟨⟨I,I,I⟩,I,⟨I,⟨I,I⟩,I⟩,⟨I,I⟩,Go.K.c_spec_l1Rd_pick _ _ _ (by omega) (by omega) (by omega) (by omega)⟩,I,I⟩,?_⟩
     refine W.cn ?_
     conv=>whnf
     refine ⟨noT (dF (by omega)),fun _=>?_⟩
     refine W.skip ?_
     refine g 4 7 [] ?_
     conv=>whnf
     refine ⟨⟨I,I,⟨I,I⟩,I,I⟩,?_⟩
     refine W.ret ?_
     refine EndsW.rt ?_
     conv=>whnf
     refine ⟨⟨I,⟨I,I⟩,I,⟨I,I⟩,I⟩,?_⟩
     exact ⟨p,x,rfl,rfl,hmid,by omega,x2⟩
  ·by_cases g12:pickV L (r + 1 + 1) 12 = 0
   ·refine x_spec_DrawReplay ?_
    conv=>whnf
    refine g 0 0 [] ?_
    conv=>whnf
    refine ⟨⟨I,I,I⟩,?_⟩
    refine g 8 10 [.call (V.tup [V.tup (rdC L (0:Int))]) ([[]])] ?_
    conv=>whnf
    refine ⟨⟨I,⟨⟨I,I⟩,I,⟨⟨I,I⟩,I⟩,⟨I,I⟩,(by assumption)⟩,I,I⟩,?_⟩
    refine g 10 12 [.call (planO p) ([rdC L q])] ?_
    conv=>whnf
    refine ⟨⟨I,⟨⟨I,I⟩,I,⟨I,I⟩,⟨I,I⟩,(by assumption)⟩,I,⟨I,I⟩,I⟩,?_⟩
    refine g 12 15 [.call (V.own [false] (List.map strT H)) ([rdC L r,[V.own taskK (List.map taskT (Plan.tasks p))]])] ?_
    conv=>whnf
    refine ⟨⟨I,I,⟨⟨I,⟨I,I⟩,I⟩,I,⟨I,I,I⟩,⟨I,I⟩,(by assumption)⟩,I,I⟩,?_⟩
    refine g 15 19 [.call (V.i k) ([rdC L (r + (1:Int)),[]])] ?_
    conv=>whnf
    refine ⟨⟨I,I,I,⟨⟨I,I,I⟩,I,⟨I,⟨I,I⟩,I⟩,⟨I,I⟩,(by assumption)⟩,I,I⟩,?_⟩
    refine W.sq ?_
    refine g 19 22 [.b (false),.b (false),.b (false),.b (false)] ?_
    conv=>whnf
    refine ⟨⟨I,I,I,I,(by simp [*]),(by simp [*]),(by simp [*]),(by simp [*]),I⟩,?_⟩
    refine W.cn ?_
    conv=>whnf
    refine ⟨noT (rfl),fun _=>?_⟩
    refine W.skip ?_
    refine W.sq ?_
    refine g 23 69 [.call (V.i (pickV L (r + (1:Int)) (40:Int))) ([rdC L (r + (1:Int) + (1:Int)),[]])] ?_
    conv=>whnf
    refine ⟨⟨I,⟨⟨I,I,I⟩,I,⟨I,⟨I,I⟩,I⟩,⟨I,I⟩,Go.K.c_spec_l1Rd_pick _ _ _ (by omega) (by omega) (by omega) (by omega)⟩,I,I⟩,?_⟩
    refine W.cn ?_
    conv=>whnf
    refine ⟨noT (dF (by omega)),fun _=>?_⟩
    refine W.skip ?_
    refine W.sq ?_
    refine g 69 78 [.call (V.i (pickV L (r + (1:Int) + (1:Int)) (12:Int))) ([rdC L (r + (1:Int) + (1:Int) + (1:Int)),[]])] ?_
    conv=>whnf
    refine ⟨⟨I,⟨⟨I,I,I⟩,I,⟨I,⟨I,I⟩,I⟩,⟨I,I⟩,Go.K.c_spec_l1Rd_pick _ _ _ (by omega) (by omega) (by omega) (by omega)⟩,I,I⟩,?_⟩
    refine W.cn ?_
    conv=>whnf
    refine ⟨fun _=>?_,noF (dT (by omega))⟩
    refine rg [.call (planO (Prod.fst (spoilP L (r + (1:Int) + (1:Int) + (1:Int)) p))) ([rdC L (Prod.snd (spoilP L (r + (1:Int) + (1:Int) + (1:Int)) p)),[]])] ?_
    conv=>whnf
    refine ⟨⟨I,I,⟨⟨I,⟨I,I⟩,I⟩,I,⟨I,I,I⟩,⟨I,I⟩,Go.K.c_spec_l1Spoil _ _ _ (by omega) (by omega) (by omega) (by omega)⟩,⟨I,I⟩,I⟩,?_⟩
    refine g 78 84 [] ?_
    conv=>whnf
    refine ⟨⟨I,I,⟨I,I⟩,I,I⟩,?_⟩
    refine W.ret ?_
    refine EndsW.rt ?_
    conv=>whnf
    refine ⟨⟨I,⟨I,I⟩,I,⟨I,I⟩,I⟩,?_⟩
    exact ⟨(spoilP L (r + 1 + 1 + 1) p).1,H,(by first | rfl | (simp only [List.map_set,List.map_append,List.map_take,List.map_drop,List.map_cons,List.map_nil,List.nil_append,List.drop_zero,List.take_length]; done) | (simp only [List.map_set,List.map_append,List.map_take,List.map_drop,List.map_cons,List.map_nil,List.nil_append,List.drop_zero,List.take_length]; rfl)),rfl,s1,by omega,hsz⟩
   ·refine x_spec_DrawReplay ?_
    conv=>whnf
    refine g 0 0 [] ?_
    conv=>whnf
    refine ⟨⟨I,I,I⟩,?_⟩
    refine g 8 10 [.call (V.tup [V.tup (rdC L (0:Int))]) ([[]])] ?_
    conv=>whnf
    refine ⟨⟨I,⟨⟨I,I⟩,I,⟨⟨I,I⟩,I⟩,⟨I,I⟩,(by assumption)⟩,I,I⟩,?_⟩
    refine g 10 12 [.call (planO p) ([rdC L q])] ?_
    conv=>whnf
    refine ⟨⟨I,⟨⟨I,I⟩,I,⟨I,I⟩,⟨I,I⟩,(by assumption)⟩,I,⟨I,I⟩,I⟩,?_⟩
    refine g 12 15 [.call (V.own [false] (List.map strT H)) ([rdC L r,[V.own taskK (List.map taskT (Plan.tasks p))]])] ?_
    conv=>whnf
    refine ⟨⟨I,I,⟨⟨I,⟨I,I⟩,I⟩,I,⟨I,I,I⟩,⟨I,I⟩,(by assumption)⟩,I,I⟩,?_⟩
    refine g 15 19 [.call (V.i k) ([rdC L (r + (1:Int)),[]])] ?_
    conv=>whnf
    refine ⟨⟨I,I,I,⟨⟨I,I,I⟩,I,⟨I,⟨I,I⟩,I⟩,⟨I,I⟩,(by assumption)⟩,I,I⟩,?_⟩
    refine W.sq ?_
    refine g 19 22 [.b (false),.b (false),.b (false),.b (false)] ?_
    conv=>whnf
    refine ⟨⟨I,I,I,I,(by simp [*]),(by simp [*]),(by simp [*]),(by simp [*]),I⟩,?_⟩
    refine W.cn ?_
    conv=>whnf
    refine ⟨noT (rfl),fun _=>?_⟩
    refine W.skip ?_
    refine W.sq ?_
    refine g 23 69 [.call (V.i (pickV L (r + (1:Int)) (40:Int))) ([rdC L (r + (1:Int) + (1:Int)),[]])] ?_
    conv=>whnf
    refine ⟨⟨I,⟨⟨I,I,I⟩,I,⟨I,⟨I,I⟩,I⟩,⟨I,I⟩,Go.K.c_spec_l1Rd_pick _ _ _ (by omega) (by omega) (by omega) (by omega)⟩,I,I⟩,?_⟩
    refine W.cn ?_
    conv=>whnf
    refine ⟨noT (dF (by omega)),fun _=>?_⟩
    refine W.skip ?_
    refine W.sq ?_
    refine g 69 78 [.call (V.i (pickV L (r + (1:Int) + (1:Int)) (12:Int))) ([rdC L (r + (1:Int) + (1:Int) + (1:Int)),[]])] ?_
    conv=>whnf
    refine ⟨⟨I,⟨⟨I,I,I⟩,I,⟨I,⟨I,I⟩,I⟩,⟨I,I⟩,Go.K.c_spec_l1Rd_pick _ _ _ (by omega) (by omega) (by omega) (by omega)⟩,I,I⟩,?_⟩
    refine W.cn ?_
    conv=>whnf
    refine ⟨noT (dF (by omega)),fun _=>?_⟩
    refine W.skip ?_
    refine g 4 8 [] ?_
    conv=>whnf
    refine ⟨⟨I,I,⟨I,I⟩,I,I⟩,?_⟩
    refine W.ret ?_
    refine EndsW.rt ?_
    conv=>whnf
    refine ⟨⟨I,⟨I,I⟩,I,⟨I,I⟩,I⟩,?_⟩
    exact ⟨p,H,(by first | rfl | (simp only [List.map_set,List.map_append,List.map_take,List.map_drop,List.map_cons,List.map_nil,List.nil_append,List.drop_zero,List.take_length]; done) | (simp only [List.map_set,List.map_append,List.map_take,List.map_drop,List.map_cons,List.map_nil,List.nil_append,List.drop_zero,List.take_length]; rfl)),rfl,hmid,by omega,hsz⟩
 by_cases h3:pickV L (r + 1) 3 = 0
 rotate_left
 ·skip
  have t0:=pick_rng L (r + 1 + 1) 40
  have t1:=pick_rng L (r + 1 + 1 + 1) 12
  obtain ⟨s1,s2,s3⟩:=spoil_ok L (r + 1 + 1 + 1 + 1) p
  have hln:(H).length ≤ 82:=by omega
  have hsz:∀ s ∈ (H),s.size ≤ 64:=e12
  by_cases g40:pickV L (r + 1 + 1) 40 = 0
  ·refine x_spec_DrawReplay ?_
   conv=>whnf
   refine g 0 0 [] ?_
   conv=>whnf
   refine ⟨⟨I,I,I⟩,?_⟩
   refine g 8 10 [.call (V.tup [V.tup (rdC L (0:Int))]) ([[]])] ?_
   conv=>whnf
   refine ⟨⟨I,⟨⟨I,I⟩,I,⟨⟨I,I⟩,I⟩,⟨I,I⟩,(by assumption)⟩,I,I⟩,?_⟩
   refine g 10 12 [.call (planO p) ([rdC L q])] ?_
   conv=>whnf
   refine ⟨⟨I,⟨⟨I,I⟩,I,⟨I,I⟩,⟨I,I⟩,(by assumption)⟩,I,⟨I,I⟩,I⟩,?_⟩
   refine g 12 15 [.call (V.own [false] (List.map strT H)) ([rdC L r,[V.own taskK (List.map taskT (Plan.tasks p))]])] ?_
   conv=>whnf
   refine ⟨⟨I,I,⟨⟨I,⟨I,I⟩,I⟩,I,⟨I,I,I⟩,⟨I,I⟩,(by assumption)⟩,I,I⟩,?_⟩
   refine g 15 19 [.call (V.i k) ([rdC L (r + (1:Int)),[]])] ?_
   conv=>whnf
   refine ⟨⟨I,I,I,⟨⟨I,I,I⟩,I,⟨I,⟨I,I⟩,I⟩,⟨I,I⟩,(by assumption)⟩,I,I⟩,?_⟩
   refine W.sq ?_
   by_cases h1:(0:Int) < (↑(List.length (List.map strT H)):Int)
   simp only [List.length_map] at h1
   refine g 19 22 [.b (true),.b (true),.call (V.i (pickV L (r + (1:Int)) (3:Int))) ([rdC L (r + (1:Int) + (1:Int)),[]]),.b (true),.b (true)] ?_
   conv=>whnf
   refine ⟨⟨I,I,I,I,⟨(by simp_all),I⟩,⟨(by simp_all),⟨I,I,I⟩,I,⟨I,⟨I,I⟩,I⟩,⟨I,I⟩,Go.K.c_spec_l1Rd_pick _ _ _ (by omega) (by omega) (by omega) (by omega)⟩,⟨(by simp_all),I⟩,(by simp_all),I⟩,?_⟩
   refine W.cn ?_
   conv=>whnf
   refine ⟨noT (dF (by omega)),fun _=>?_⟩
   refine W.skip ?_
   refine W.sq ?_
   refine g 23 69 [.call (V.i (pickV L (r + (1:Int) + (1:Int)) (40:Int))) ([rdC L (r + (1:Int) + (1:Int) + (1:Int)),[]])] ?_
   conv=>whnf
   refine ⟨⟨I,⟨⟨I,I,I⟩,I,⟨I,⟨I,I⟩,I⟩,⟨I,I⟩,Go.K.c_spec_l1Rd_pick _ _ _ (by omega) (by omega) (by omega) (by omega)⟩,I,I⟩,?_⟩
   refine W.cn ?_
   conv=>whnf
   refine ⟨fun _=>?_,noF (dT (by omega))⟩
   refine W.blk ?_
   rotate_left 1
   simp only [List.length_map] at h1
   omega
   refine W.lp (fun s (x:List ByteArray)=>⟨[(0,s.s 0),(2,s.s 2),(3,s.s 3),(4,s.s 4),(5,s.s 5),(6,.ref ⟨6,none,0⟩),(22,s.s 22)],[(2,[s.c 2 0]),(9,[s.c 9 0,s.c 9 1]),(5,[s.c 5 0]),(6,[.own [false] (x.map strT)])],[]⟩) (fun (x:List ByteArray)=>x.length ≤ 311 ∧ ∀ s ∈ x,s.size ≤ 64) (fun (x:List ByteArray)=>311 - x.length) (H) [some 2,some 9,some 5,some 14] [] ⟨rfl,⟨rfl,rfl,rfl,rfl,rfl,rfl,rfl,I⟩,⟨⟨rfl,⟨rfl,I⟩⟩,⟨⟨rfl,⟨rfl,⟨rfl,I⟩⟩⟩,⟨⟨rfl,⟨rfl,I⟩⟩,⟨⟨rfl,⟨rfl,I⟩⟩,I⟩⟩⟩⟩,I⟩ ?_ ?_
   ·exact ⟨by omega,hsz⟩
   rintro x ⟨x1,x2⟩
   by_cases hx:x.length ≤ 310
   ·conv=>whnf
    refine W.sq ?_
    refine g 70 72 [] ?_
    conv=>whnf
    refine ⟨⟨I,I,I,I⟩,?_⟩
    refine W.cn ?_
    conv=>whnf
    refine ⟨fun h2=>?_,fun h2=>?_⟩
    replace h2:=dt h2
    simp only [List.length_map] at h2
    refine W.skip ?_
    refine W.blk ?_
    refine rg [] ?_
    conv=>whnf
    refine ⟨⟨I,⟨⟨I,I⟩,I⟩,⟨I,I,(by simp only [lens]; omega)⟩,I,I⟩,?_⟩
    rotate_left 1
    replace h2:=df h2
    simp only [List.length_map] at h2
    omega
    have ex:=map_snoc x ⟨#[120]⟩
    refine ⟨x ++ [⟨#[120]⟩],[some 2,some 9,some 5,some 75],[],⟨rfl,⟨rfl,rfl,rfl,rfl,rfl,rfl,rfl,I⟩,⟨⟨rfl,⟨rfl,I⟩⟩,⟨⟨rfl,⟨rfl,⟨rfl,I⟩⟩⟩,⟨⟨rfl,⟨rfl,I⟩⟩,⟨⟨rfl,⟨(congrArg (V.own _) (ex)),I⟩⟩,I⟩⟩⟩⟩,I⟩,?_,?_⟩
    rotate_left 1
    rotate_right 1
    dsimp only
    ·exact ⟨by rw [len_snoc]; omega,all_snoc x2 (by decide)⟩
    ·show 311 - (x ++ [_]).length < 311 - x.length
     rw [len_snoc]; omega
   ·by_cases g12:pickV L (r + 1 + 1 + 1) 12 = 0
    ·conv=>whnf
     refine W.sq ?_
     refine g 70 72 [] ?_
     conv=>whnf
     refine ⟨⟨I,I,I,I⟩,?_⟩
     refine W.cn ?_
     conv=>whnf
     refine ⟨fun h2=>?_,fun h2=>?_⟩
     replace h2:=dt h2
     simp only [List.length_map] at h2
     omega
     replace h2:=df h2
     simp only [List.length_map] at h2
     refine W.exit ?_
     refine W.sq ?_
     refine g 72 78 [.call (V.i (pickV L (r + (1:Int) + (1:Int) + (1:Int)) (12:Int))) ([rdC L (r + (1:Int) + (1:Int) + (1:Int) + (1:Int)),[]])] ?_
     conv=>whnf
     refine ⟨⟨I,⟨⟨I,I,I⟩,I,⟨I,⟨I,I⟩,I⟩,⟨I,I⟩,Go.K.c_spec_l1Rd_pick _ _ _ (by omega) (by omega) (by omega) (by omega)⟩,I,I⟩,?_⟩
     refine W.cn ?_
     conv=>whnf
     refine ⟨fun _=>?_,noF (dT (by omega))⟩
     refine rg [.call (planO (Prod.fst (spoilP L (r + (1:Int) + (1:Int) + (1:Int) + (1:Int)) p))) ([rdC L (Prod.snd (spoilP L (r + (1:Int) + (1:Int) + (1:Int) + (1:Int)) p)),[]])] ?_
     conv=>whnf
     refine ⟨⟨I,I,⟨⟨I,⟨I,I⟩,I⟩,I,⟨I,I,I⟩,⟨I,I⟩,Go.K.c_spec_l1Spoil _ _ _ (by omega) (by omega) (by omega) (by omega)⟩,⟨I,I⟩,I⟩,?_⟩
     refine g 78 84 [] ?_
     conv=>whnf
     refine ⟨⟨I,I,⟨I,I⟩,I,I⟩,?_⟩
     refine W.ret ?_
     refine EndsW.rt ?_
     conv=>whnf
     refine ⟨⟨I,⟨I,I⟩,I,⟨I,I⟩,I⟩,?_⟩
     exact ⟨(spoilP L (r + 1 + 1 + 1 + 1) p).1,x,rfl,rfl,s1,by omega,x2⟩
    ·conv=>whnf
     refine W.sq ?_
     refine g 70 72 [] ?_
     conv=>whnf
     refine ⟨⟨I,I,I,I⟩,?_⟩
     refine W.cn ?_
     conv=>whnf
     refine ⟨fun h2=>?_,fun h2=>?_⟩
     replace h2:=dt h2
     simp only [List.length_map] at h2
     omega
     replace h2:=df h2
     simp only [List.length_map] at h2
     refine W.exit ?_
     refine W.sq ?_
     refine g 72 78 [.call (V.i (pickV L (r + (1:Int) + (1:Int) + (1:Int)) (12:Int))) ([rdC L (r + (1:Int) + (1:Int) + (1:Int) + (1:Int)),[]])] ?_
     conv=>whnf
     refine ⟨⟨I,⟨⟨I,I,I⟩,I,⟨I,⟨I,I⟩,I⟩,⟨I,I⟩,Go.K.c_spec_l1Rd_pick _ _ _ (by omega) (by omega) (by omega) (by omega)⟩,I,I⟩,?_⟩
     refine W.cn ?_
     conv=>whnf
     refine ⟨noT (dF (by omega)),fun _=>?_⟩
     refine W.skip ?_
     refine g 4 7 [] ?_
     conv=>whnf
     refine ⟨⟨I,I,⟨I,I⟩,I,I⟩,?_⟩
     refine W.ret ?_
     refine EndsW.rt ?_
     conv=>whnf
     refine ⟨⟨I,⟨I,I⟩,I,⟨I,I⟩,I⟩,?_⟩
     exact ⟨p,x,rfl,rfl,hmid,by omega,x2⟩
  ·by_cases g12:pickV L (r + 1 + 1 + 1) 12 = 0
   ·refine x_spec_DrawReplay ?_
    conv=>whnf
    refine g 0 0 [] ?_
    conv=>whnf
    refine ⟨⟨I,I,I⟩,?_⟩
    refine g 8 10 [.call (V.tup [V.tup (rdC L (0:Int))]) ([[]])] ?_
    conv=>whnf
    refine ⟨⟨I,⟨⟨I,I⟩,I,⟨⟨I,I⟩,I⟩,⟨I,I⟩,(by assumption)⟩,I,I⟩,?_⟩
    refine g 10 12 [.call (planO p) ([rdC L q])] ?_
    conv=>whnf
    refine ⟨⟨I,⟨⟨I,I⟩,I,⟨I,I⟩,⟨I,I⟩,(by assumption)⟩,I,⟨I,I⟩,I⟩,?_⟩
    refine g 12 15 [.call (V.own [false] (List.map strT H)) ([rdC L r,[V.own taskK (List.map taskT (Plan.tasks p))]])] ?_
    conv=>whnf
    refine ⟨⟨I,I,⟨⟨I,⟨I,I⟩,I⟩,I,⟨I,I,I⟩,⟨I,I⟩,(by assumption)⟩,I,I⟩,?_⟩
    refine g 15 19 [.call (V.i k) ([rdC L (r + (1:Int)),[]])] ?_
    conv=>whnf
    refine ⟨⟨I,I,I,⟨⟨I,I,I⟩,I,⟨I,⟨I,I⟩,I⟩,⟨I,I⟩,(by assumption)⟩,I,I⟩,?_⟩
    refine W.sq ?_
    by_cases h1:(0:Int) < (↑(List.length (List.map strT H)):Int)
    simp only [List.length_map] at h1
    refine g 19 22 [.b (true),.b (true),.call (V.i (pickV L (r + (1:Int)) (3:Int))) ([rdC L (r + (1:Int) + (1:Int)),[]]),.b (true),.b (true)] ?_
    conv=>whnf
    refine ⟨⟨I,I,I,I,⟨(by simp_all),I⟩,⟨(by simp_all),⟨I,I,I⟩,I,⟨I,⟨I,I⟩,I⟩,⟨I,I⟩,Go.K.c_spec_l1Rd_pick _ _ _ (by omega) (by omega) (by omega) (by omega)⟩,⟨(by simp_all),I⟩,(by simp_all),I⟩,?_⟩
    refine W.cn ?_
    conv=>whnf
    refine ⟨noT (dF (by omega)),fun _=>?_⟩
    refine W.skip ?_
    refine W.sq ?_
    refine g 23 69 [.call (V.i (pickV L (r + (1:Int) + (1:Int)) (40:Int))) ([rdC L (r + (1:Int) + (1:Int) + (1:Int)),[]])] ?_
    conv=>whnf
    refine ⟨⟨I,⟨⟨I,I,I⟩,I,⟨I,⟨I,I⟩,I⟩,⟨I,I⟩,Go.K.c_spec_l1Rd_pick _ _ _ (by omega) (by omega) (by omega) (by omega)⟩,I,I⟩,?_⟩
    refine W.cn ?_
    conv=>whnf
    refine ⟨noT (dF (by omega)),fun _=>?_⟩
    refine W.skip ?_
    refine W.sq ?_
    refine g 69 78 [.call (V.i (pickV L (r + (1:Int) + (1:Int) + (1:Int)) (12:Int))) ([rdC L (r + (1:Int) + (1:Int) + (1:Int) + (1:Int)),[]])] ?_
    conv=>whnf
    refine ⟨⟨I,⟨⟨I,I,I⟩,I,⟨I,⟨I,I⟩,I⟩,⟨I,I⟩,Go.K.c_spec_l1Rd_pick _ _ _ (by omega) (by omega) (by omega) (by omega)⟩,I,I⟩,?_⟩
    refine W.cn ?_
    conv=>whnf
    refine ⟨fun _=>?_,noF (dT (by omega))⟩
    refine rg [.call (planO (Prod.fst (spoilP L (r + (1:Int) + (1:Int) + (1:Int) + (1:Int)) p))) ([rdC L (Prod.snd (spoilP L (r + (1:Int) + (1:Int) + (1:Int) + (1:Int)) p)),[]])] ?_
    conv=>whnf
    refine ⟨⟨I,I,⟨⟨I,⟨I,I⟩,I⟩,I,⟨I,I,I⟩,⟨I,I⟩,Go.K.c_spec_l1Spoil _ _ _ (by omega) (by omega) (by omega) (by omega)⟩,⟨I,I⟩,I⟩,?_⟩
    refine g 78 84 [] ?_
    conv=>whnf
    refine ⟨⟨I,I,⟨I,I⟩,I,I⟩,?_⟩
    refine W.ret ?_
    refine EndsW.rt ?_
    conv=>whnf
    refine ⟨⟨I,⟨I,I⟩,I,⟨I,I⟩,I⟩,?_⟩
    rotate_left 1
    simp only [List.length_map] at h1
    omega
    exact ⟨(spoilP L (r + 1 + 1 + 1 + 1) p).1,H,(by first | rfl | (simp only [List.map_set,List.map_append,List.map_take,List.map_drop,List.map_cons,List.map_nil,List.nil_append,List.drop_zero,List.take_length]; done) | (simp only [List.map_set,List.map_append,List.map_take,List.map_drop,List.map_cons,List.map_nil,List.nil_append,List.drop_zero,List.take_length]; rfl)),rfl,s1,by omega,hsz⟩
   ·refine x_spec_DrawReplay ?_
    conv=>whnf
    refine g 0 0 [] ?_
    conv=>whnf
    refine ⟨⟨I,I,I⟩,?_⟩
    refine g 8 10 [.call (V.tup [V.tup (rdC L (0:Int))]) ([[]])] ?_
    conv=>whnf
    refine ⟨⟨I,⟨⟨I,I⟩,I,⟨⟨I,I⟩,I⟩,⟨I,I⟩,(by assumption)⟩,I,I⟩,?_⟩
    refine g 10 12 [.call (planO p) ([rdC L q])] ?_
    conv=>whnf
    refine ⟨⟨I,⟨⟨I,I⟩,I,⟨I,I⟩,⟨I,I⟩,(by assumption)⟩,I,⟨I,I⟩,I⟩,?_⟩
    refine g 12 15 [.call (V.own [false] (List.map strT H)) ([rdC L r,[V.own taskK (List.map taskT (Plan.tasks p))]])] ?_
    conv=>whnf
    refine ⟨⟨I,I,⟨⟨I,⟨I,I⟩,I⟩,I,⟨I,I,I⟩,⟨I,I⟩,(by assumption)⟩,I,I⟩,?_⟩
    refine g 15 19 [.call (V.i k) ([rdC L (r + (1:Int)),[]])] ?_
    conv=>whnf
    refine ⟨⟨I,I,I,⟨⟨I,I,I⟩,I,⟨I,⟨I,I⟩,I⟩,⟨I,I⟩,(by assumption)⟩,I,I⟩,?_⟩
    refine W.sq ?_
    by_cases h1:(0:Int) < (↑(List.length (List.map strT H)):Int)
    simp only [List.length_map] at h1
    refine g 19 22 [.b (true),.b (true),.call (V.i (pickV L (r + (1:Int)) (3:Int))) ([rdC L (r + (1:Int) + (1:Int)),[]]),.b (true),.b (true)] ?_
    conv=>whnf
    refine ⟨⟨I,I,I,I,⟨(by simp_all),I⟩,⟨(by simp_all),⟨I,I,I⟩,I,⟨I,⟨I,I⟩,I⟩,⟨I,I⟩,Go.K.c_spec_l1Rd_pick _ _ _ (by omega) (by omega) (by omega) (by omega)⟩,⟨(by simp_all),I⟩,(by simp_all),I⟩,?_⟩
    refine W.cn ?_
    conv=>whnf
    refine ⟨noT (dF (by omega)),fun _=>?_⟩
    refine W.skip ?_
    refine W.sq ?_
    refine g 23 69 [.call (V.i (pickV L (r + (1:Int) + (1:Int)) (40:Int))) ([rdC L (r + (1:Int) + (1:Int) + (1:Int)),[]])] ?_
    conv=>whnf
    refine ⟨⟨I,⟨⟨I,I,I⟩,I,⟨I,⟨I,I⟩,I⟩,⟨I,I⟩,Go.K.c_spec_l1Rd_pick _ _ _ (by omega) (by omega) (by omega) (by omega)⟩,I,I⟩,?_⟩
    refine W.cn ?_
    conv=>whnf
    refine ⟨noT (dF (by omega)),fun _=>?_⟩
    refine W.skip ?_
    refine W.sq ?_
    refine g 69 78 [.call (V.i (pickV L (r + (1:Int) + (1:Int) + (1:Int)) (12:Int))) ([rdC L (r + (1:Int) + (1:Int) + (1:Int) + (1:Int)),[]])] ?_
    conv=>whnf
    refine ⟨⟨I,⟨⟨I,I,I⟩,I,⟨I,⟨I,I⟩,I⟩,⟨I,I⟩,Go.K.c_spec_l1Rd_pick _ _ _ (by omega) (by omega) (by omega) (by omega)⟩,I,I⟩,?_⟩
    refine W.cn ?_
    conv=>whnf
    refine ⟨noT (dF (by omega)),fun _=>?_⟩
    refine W.skip ?_
    refine g 4 8 [] ?_
    conv=>whnf
    refine ⟨⟨I,I,⟨I,I⟩,I,I⟩,?_⟩
    refine W.ret ?_
    refine EndsW.rt ?_
    conv=>whnf
    refine ⟨⟨I,⟨I,I⟩,I,⟨I,I⟩,I⟩,?_⟩
    rotate_left 1
    simp only [List.length_map] at h1
    omega
    exact ⟨p,H,(by first | rfl | (simp only [List.map_set,List.map_append,List.map_take,List.map_drop,List.map_cons,List.map_nil,List.nil_append,List.drop_zero,List.take_length]; done) | (simp only [List.map_set,List.map_append,List.map_take,List.map_drop,List.map_cons,List.map_nil,List.nil_append,List.drop_zero,List.take_length]; rfl)),rfl,hmid,by omega,hsz⟩
 obtain ⟨sv,hs⟩:=some_at (xs:=H) (n:=k.toNat) (by omega)
 have hss:=e2 sv (List.mem_of_getElem? hs)
 have k0:0 ≤ k ∧ k < H.length:=by omega
 by_cases a0:pickV L (r + 1 + 1) 4 = 0
 ·obtain ⟨b1,b2,b3⟩:=bend_ok L (r + 1 + 1 + 1) sv
  have ec:(H.map strT).set k.toNat (strT (bendP L (r + 1 + 1 + 1) sv).1) = (H.set k.toNat (bendP L (r + 1 + 1 + 1) sv).1).map strT:=by rw [← List.map_set]
  have hb:(bendP L (r + 1 + 1 + 1) sv).1.size ≤ 64:=by omega
  have t0:=pick_rng L ((bendP L (r + 1 + 1 + 1) sv).2) 40
  have t1:=pick_rng L ((bendP L (r + 1 + 1 + 1) sv).2 + 1) 12
  obtain ⟨s1,s2,s3⟩:=spoil_ok L ((bendP L (r + 1 + 1 + 1) sv).2 + 1 + 1) p
  have hln:(H.set k.toNat (bendP L (r + 1 + 1 + 1) sv).1).length ≤ 82:=by rw [List.length_set]; omega
  have hsz:∀ s ∈ (H.set k.toNat (bendP L (r + 1 + 1 + 1) sv).1),s.size ≤ 64:=fun y hy=>(List.mem_or_eq_of_mem_set hy).elim (e12 y) (fun e=>e ▸ hb)
  by_cases g40:pickV L ((bendP L (r + 1 + 1 + 1) sv).2) 40 = 0
  ·refine x_spec_DrawReplay ?_
   conv=>whnf
   refine g 0 0 [] ?_
   conv=>whnf
   refine ⟨⟨I,I,I⟩,?_⟩
   refine g 8 10 [.call (V.tup [V.tup (rdC L (0:Int))]) ([[]])] ?_
   conv=>whnf
   refine ⟨⟨I,⟨⟨I,I⟩,I,⟨⟨I,I⟩,I⟩,⟨I,I⟩,(by assumption)⟩,I,I⟩,?_⟩
   refine g 10 12 [.call (planO p) ([rdC L q])] ?_
   conv=>whnf
   refine ⟨⟨I,⟨⟨I,I⟩,I,⟨I,I⟩,⟨I,I⟩,(by assumption)⟩,I,⟨I,I⟩,I⟩,?_⟩
   refine g 12 15 [.call (V.own [false] (List.map strT H)) ([rdC L r,[V.own taskK (List.map taskT (Plan.tasks p))]])] ?_
   conv=>whnf
   refine ⟨⟨I,I,⟨⟨I,⟨I,I⟩,I⟩,I,⟨I,I,I⟩,⟨I,I⟩,(by assumption)⟩,I,I⟩,?_⟩
   refine g 15 19 [.call (V.i k) ([rdC L (r + (1:Int)),[]])] ?_
   conv=>whnf
   refine ⟨⟨I,I,I,⟨⟨I,I,I⟩,I,⟨I,⟨I,I⟩,I⟩,⟨I,I⟩,(by assumption)⟩,I,I⟩,?_⟩
   refine W.sq ?_
   by_cases h1:(0:Int) < (↑(List.length (List.map strT H)):Int)
   simp only [List.length_map] at h1
   refine g 19 22 [.b (true),.b (true),.call (V.i (pickV L (r + (1:Int)) (3:Int))) ([rdC L (r + (1:Int) + (1:Int)),[]]),.b (true),.b (true)] ?_
   conv=>whnf
   refine ⟨⟨I,I,I,I,⟨(by simp_all),I⟩,⟨(by simp_all),⟨I,I,I⟩,I,⟨I,⟨I,I⟩,I⟩,⟨I,I⟩,Go.K.c_spec_l1Rd_pick _ _ _ (by omega) (by omega) (by omega) (by omega)⟩,⟨(by simp_all),I⟩,(by simp_all),I⟩,?_⟩
   refine W.cn ?_
   conv=>whnf
   refine ⟨fun _=>?_,noF (dT (by omega))⟩
   refine g 23 28 [.call (V.i (pickV L (r + (1:Int) + (1:Int)) (4:Int))) ([rdC L (r + (1:Int) + (1:Int) + (1:Int)),[]])] ?_
   conv=>whnf
   refine ⟨⟨I,⟨⟨I,I,I⟩,I,⟨I,⟨I,I⟩,I⟩,⟨I,I⟩,Go.K.c_spec_l1Rd_pick _ _ _ (by omega) (by omega) (by omega) (by omega)⟩,I⟩,?_⟩
   refine W.blk ?_
   refine g 36 37 [] ?_
   conv=>whnf
   refine ⟨⟨I,I,I⟩,?_⟩
   refine W.cn ?_
   conv=>whnf
   refine ⟨fun _=>?_,noF (dT (by omega))⟩
   refine rg [.n (Int.toNat k),.x (strT sv),.call (V.s (Prod.fst (bendP L (r + (1:Int) + (1:Int) + (1:Int)) sv))) ([rdC L (Prod.snd (bendP L (r + (1:Int) + (1:Int) + (1:Int)) sv)),[]]),.n (Int.toNat k),.x (strT sv)] ?_
   conv=>whnf
   refine ⟨⟨I,I,I,I,I,⟨(by omega),(by simp only [lens]; omega)⟩,ixl (by assumption),⟨⟨I,I,I⟩,I,⟨I,⟨I,I⟩,I⟩,⟨I,I⟩,Go.K.c_spec_l1Bend _ _ _ (by omega) (by omega) (by omega) (by omega)⟩,⟨(by omega),(by simp only [lens]; omega)⟩,⟨⟨I,I⟩,ixl (by assumption)⟩,I⟩,?_⟩
   refine W.sq ?_
   refine g 28 45 [.call (V.i (pickV L (Prod.snd (bendP L (r + (1:Int) + (1:Int) + (1:Int)) sv)) (40:Int))) ([rdC L (Prod.snd (bendP L (r + (1:Int) + (1:Int) + (1:Int)) sv) + (1:Int)),[]])] ?_
   conv=>whnf
   refine ⟨⟨I,⟨⟨I,I,I⟩,I,⟨I,⟨I,I⟩,I⟩,⟨I,I⟩,Go.K.c_spec_l1Rd_pick _ _ _ (by omega) (by omega) (by omega) (by omega)⟩,I,I⟩,?_⟩
   refine W.cn ?_
   conv=>whnf
   refine ⟨fun _=>?_,noF (dT (by omega))⟩
   refine W.blk ?_
   rotate_left 1
   simp only [List.length_map] at h1
   omega
   refine W.drop (lo:=22) (hi:=46) ?_
   conv=>whnf
   refine W.lp (fun s (x:List ByteArray)=>⟨[(0,s.s 0),(2,s.s 2),(3,s.s 3),(4,s.s 4),(5,s.s 5),(6,.ref ⟨6,none,0⟩)],[(2,[s.c 2 0]),(9,[s.c 9 0,s.c 9 1]),(5,[s.c 5 0]),(6,[.own [false] (x.map strT)])],[]⟩) (fun (x:List ByteArray)=>x.length ≤ 311 ∧ ∀ s ∈ x,s.size ≤ 64) (fun (x:List ByteArray)=>311 - x.length) (H.set k.toNat (bendP L (r + 1 + 1 + 1) sv).1) [some 2,some 9,some 5,some 14] [] ⟨rfl,⟨rfl,rfl,rfl,rfl,rfl,rfl,I⟩,⟨⟨rfl,⟨rfl,I⟩⟩,⟨⟨rfl,⟨rfl,⟨rfl,I⟩⟩⟩,⟨⟨rfl,⟨rfl,I⟩⟩,⟨⟨rfl,⟨(congrArg (V.own _) (ec)),I⟩⟩,I⟩⟩⟩⟩,I⟩ ?_ ?_
   ·exact ⟨by omega,hsz⟩
   rintro x ⟨x1,x2⟩
   by_cases hx:x.length ≤ 310
   ·conv=>whnf
    refine W.sq ?_
    refine g 70 72 [] ?_
    conv=>whnf
    refine ⟨⟨I,I,I,I⟩,?_⟩
    refine W.cn ?_
    conv=>whnf
    refine ⟨fun h2=>?_,fun h2=>?_⟩
    replace h2:=dt h2
    simp only [List.length_map] at h2
    refine W.skip ?_
    refine W.blk ?_
    refine rg [] ?_
    conv=>whnf
    refine ⟨⟨I,⟨⟨I,I⟩,I⟩,⟨I,I,(by simp only [lens]; omega)⟩,I,I⟩,?_⟩
    rotate_left 1
    replace h2:=df h2
    simp only [List.length_map] at h2
    omega
    have ex:=map_snoc x ⟨#[120]⟩
    refine ⟨x ++ [⟨#[120]⟩],[some 2,some 9,some 5,some 75],[],⟨rfl,⟨rfl,rfl,rfl,rfl,rfl,rfl,I⟩,⟨⟨rfl,⟨rfl,I⟩⟩,⟨⟨rfl,⟨rfl,⟨rfl,I⟩⟩⟩,⟨⟨rfl,⟨rfl,I⟩⟩,⟨⟨rfl,⟨(congrArg (V.own _) (ex)),I⟩⟩,I⟩⟩⟩⟩,I⟩,?_,?_⟩
    rotate_left 1
    rotate_right 1
    dsimp only
    ·exact ⟨by rw [len_snoc]; omega,all_snoc x2 (by decide)⟩
    ·show 311 - (x ++ [_]).length < 311 - x.length
     rw [len_snoc]; omega
   ·by_cases g12:pickV L ((bendP L (r + 1 + 1 + 1) sv).2 + 1) 12 = 0
    ·conv=>whnf
     refine W.sq ?_
     refine g 70 72 [] ?_
     conv=>whnf
     refine ⟨⟨I,I,I,I⟩,?_⟩
     refine W.cn ?_
     conv=>whnf
     refine ⟨fun h2=>?_,fun h2=>?_⟩
     replace h2:=dt h2
     simp only [List.length_map] at h2
     omega
     replace h2:=df h2
     simp only [List.length_map] at h2
     refine W.exit ?_
     refine W.sq ?_
     refine g 72 78 [.call (V.i (pickV L (Prod.snd (bendP L (r + (1:Int) + (1:Int) + (1:Int)) sv) + (1:Int)) (12:Int))) ([rdC L (Prod.snd (bendP L (r + (1:Int) + (1:Int) + (1:Int)) sv) + (1:Int) + (1:Int)),[]])] ?_
     conv=>whnf
     refine ⟨⟨I,⟨⟨I,I,I⟩,I,⟨I,⟨I,I⟩,I⟩,⟨I,I⟩,Go.K.c_spec_l1Rd_pick _ _ _ (by omega) (by omega) (by omega) (by omega)⟩,I,I⟩,?_⟩
     refine W.cn ?_
     conv=>whnf
     refine ⟨fun _=>?_,noF (dT (by omega))⟩
     refine rg [.call (planO (Prod.fst (spoilP L (Prod.snd (bendP L (r + (1:Int) + (1:Int) + (1:Int)) sv) + (1:Int) + (1:Int)) p))) ([rdC L (Prod.snd (spoilP L (Prod.snd (bendP L (r + (1:Int) + (1:Int) + (1:Int)) sv) + (1:Int) + (1:Int)) p)),[]])] ?_
     conv=>whnf
     refine ⟨⟨I,I,⟨⟨I,⟨I,I⟩,I⟩,I,⟨I,I,I⟩,⟨I,I⟩,Go.K.c_spec_l1Spoil _ _ _ (by omega) (by omega) (by omega) (by omega)⟩,⟨I,I⟩,I⟩,?_⟩
     refine g 4 84 [] ?_
     conv=>whnf
     refine ⟨⟨I,I,⟨I,I⟩,I,I⟩,?_⟩
     refine W.ret ?_
     refine EndsW.rt ?_
     conv=>whnf
     refine ⟨⟨I,⟨I,I⟩,I,⟨I,I⟩,I⟩,?_⟩
     exact ⟨(spoilP L ((bendP L (r + 1 + 1 + 1) sv).2 + 1 + 1) p).1,x,rfl,rfl,s1,by omega,x2⟩
    ·conv=>whnf
     refine W.sq ?_
     refine g 70 72 [] ?_
     conv=>whnf
     refine ⟨⟨I,I,I,I⟩,?_⟩
     refine W.cn ?_
     conv=>whnf
     refine ⟨fun h2=>?_,fun h2=>?_⟩
     replace h2:=dt h2
     simp only [List.length_map] at h2
     omega
     replace h2:=df h2
     simp only [List.length_map] at h2
     refine W.exit ?_
     refine W.sq ?_
     refine g 72 78 [.call (V.i (pickV L (Prod.snd (bendP L (r + (1:Int) + (1:Int) + (1:Int)) sv) + (1:Int)) (12:Int))) ([rdC L (Prod.snd (bendP L (r + (1:Int) + (1:Int) + (1:Int)) sv) + (1:Int) + (1:Int)),[]])] ?_
     conv=>whnf
     refine ⟨⟨I,⟨⟨I,I,I⟩,I,⟨I,⟨I,I⟩,I⟩,⟨I,I⟩,Go.K.c_spec_l1Rd_pick _ _ _ (by omega) (by omega) (by omega) (by omega)⟩,I,I⟩,?_⟩
     refine W.cn ?_
     conv=>whnf
     refine ⟨noT (dF (by omega)),fun _=>?_⟩
     refine W.skip ?_
     refine g 4 84 [] ?_
     conv=>whnf
     refine ⟨⟨I,I,⟨I,I⟩,I,I⟩,?_⟩
     refine W.ret ?_
     refine EndsW.rt ?_
     conv=>whnf
     refine ⟨⟨I,⟨I,I⟩,I,⟨I,I⟩,I⟩,?_⟩
     exact ⟨p,x,rfl,rfl,hmid,by omega,x2⟩
  ·by_cases g12:pickV L ((bendP L (r + 1 + 1 + 1) sv).2 + 1) 12 = 0
   ·refine x_spec_DrawReplay ?_
    conv=>whnf
    refine g 0 0 [] ?_
    conv=>whnf
    refine ⟨⟨I,I,I⟩,?_⟩
    refine g 8 10 [.call (V.tup [V.tup (rdC L (0:Int))]) ([[]])] ?_
    conv=>whnf
    refine ⟨⟨I,⟨⟨I,I⟩,I,⟨⟨I,I⟩,I⟩,⟨I,I⟩,(by assumption)⟩,I,I⟩,?_⟩
    refine g 10 12 [.call (planO p) ([rdC L q])] ?_
    conv=>whnf
    refine ⟨⟨I,⟨⟨I,I⟩,I,⟨I,I⟩,⟨I,I⟩,(by assumption)⟩,I,⟨I,I⟩,I⟩,?_⟩
    refine g 12 15 [.call (V.own [false] (List.map strT H)) ([rdC L r,[V.own taskK (List.map taskT (Plan.tasks p))]])] ?_
    conv=>whnf
    refine ⟨⟨I,I,⟨⟨I,⟨I,I⟩,I⟩,I,⟨I,I,I⟩,⟨I,I⟩,(by assumption)⟩,I,I⟩,?_⟩
    refine g 15 19 [.call (V.i k) ([rdC L (r + (1:Int)),[]])] ?_
    conv=>whnf
    refine ⟨⟨I,I,I,⟨⟨I,I,I⟩,I,⟨I,⟨I,I⟩,I⟩,⟨I,I⟩,(by assumption)⟩,I,I⟩,?_⟩
    refine W.sq ?_
    by_cases h1:(0:Int) < (↑(List.length (List.map strT H)):Int)
    simp only [List.length_map] at h1
    refine g 19 22 [.b (true),.b (true),.call (V.i (pickV L (r + (1:Int)) (3:Int))) ([rdC L (r + (1:Int) + (1:Int)),[]]),.b (true),.b (true)] ?_
    conv=>whnf
    refine ⟨⟨I,I,I,I,⟨(by simp_all),I⟩,⟨(by simp_all),⟨I,I,I⟩,I,⟨I,⟨I,I⟩,I⟩,⟨I,I⟩,Go.K.c_spec_l1Rd_pick _ _ _ (by omega) (by omega) (by omega) (by omega)⟩,⟨(by simp_all),I⟩,(by simp_all),I⟩,?_⟩
    refine W.cn ?_
    conv=>whnf
    refine ⟨fun _=>?_,noF (dT (by omega))⟩
    refine g 23 28 [.call (V.i (pickV L (r + (1:Int) + (1:Int)) (4:Int))) ([rdC L (r + (1:Int) + (1:Int) + (1:Int)),[]])] ?_
    conv=>whnf
    refine ⟨⟨I,⟨⟨I,I,I⟩,I,⟨I,⟨I,I⟩,I⟩,⟨I,I⟩,Go.K.c_spec_l1Rd_pick _ _ _ (by omega) (by omega) (by omega) (by omega)⟩,I⟩,?_⟩
    refine W.blk ?_
    refine g 36 37 [] ?_
    conv=>whnf
    refine ⟨⟨I,I,I⟩,?_⟩
    refine W.cn ?_
    conv=>whnf
    refine ⟨fun _=>?_,noF (dT (by omega))⟩
    refine rg [.n (Int.toNat k),.x (strT sv),.call (V.s (Prod.fst (bendP L (r + (1:Int) + (1:Int) + (1:Int)) sv))) ([rdC L (Prod.snd (bendP L (r + (1:Int) + (1:Int) + (1:Int)) sv)),[]]),.n (Int.toNat k),.x (strT sv)] ?_
    conv=>whnf
    refine ⟨⟨I,I,I,I,I,⟨(by omega),(by simp only [lens]; omega)⟩,ixl (by assumption),⟨⟨I,I,I⟩,I,⟨I,⟨I,I⟩,I⟩,⟨I,I⟩,Go.K.c_spec_l1Bend _ _ _ (by omega) (by omega) (by omega) (by omega)⟩,⟨(by omega),(by simp only [lens]; omega)⟩,⟨⟨I,I⟩,ixl (by assumption)⟩,I⟩,?_⟩
    refine W.sq ?_
    refine g 28 45 [.call (V.i (pickV L (Prod.snd (bendP L (r + (1:Int) + (1:Int) + (1:Int)) sv)) (40:Int))) ([rdC L (Prod.snd (bendP L (r + (1:Int) + (1:Int) + (1:Int)) sv) + (1:Int)),[]])] ?_
    conv=>whnf
    refine ⟨⟨I,⟨⟨I,I,I⟩,I,⟨I,⟨I,I⟩,I⟩,⟨I,I⟩,Go.K.c_spec_l1Rd_pick _ _ _ (by omega) (by omega) (by omega) (by omega)⟩,I,I⟩,?_⟩
    refine W.cn ?_
    conv=>whnf
    refine ⟨noT (dF (by omega)),fun _=>?_⟩
    refine W.skip ?_
    refine W.sq ?_
    refine g 67 78 [.call (V.i (pickV L (Prod.snd (bendP L (r + (1:Int) + (1:Int) + (1:Int)) sv) + (1:Int)) (12:Int))) ([rdC L (Prod.snd (bendP L (r + (1:Int) + (1:Int) + (1:Int)) sv) + (1:Int) + (1:Int)),[]])] ?_
    conv=>whnf
    refine ⟨⟨I,⟨⟨I,I,I⟩,I,⟨I,⟨I,I⟩,I⟩,⟨I,I⟩,Go.K.c_spec_l1Rd_pick _ _ _ (by omega) (by omega) (by omega) (by omega)⟩,I,I⟩,?_⟩
    refine W.cn ?_
    conv=>whnf
    refine ⟨fun _=>?_,noF (dT (by omega))⟩
    refine rg [.call (planO (Prod.fst (spoilP L (Prod.snd (bendP L (r + (1:Int) + (1:Int) + (1:Int)) sv) + (1:Int) + (1:Int)) p))) ([rdC L (Prod.snd (spoilP L (Prod.snd (bendP L (r + (1:Int) + (1:Int) + (1:Int)) sv) + (1:Int) + (1:Int)) p)),[]])] ?_
    conv=>whnf
    refine ⟨⟨I,I,⟨⟨I,⟨I,I⟩,I⟩,I,⟨I,I,I⟩,⟨I,I⟩,Go.K.c_spec_l1Spoil _ _ _ (by omega) (by omega) (by omega) (by omega)⟩,⟨I,I⟩,I⟩,?_⟩
    refine g 78 84 [] ?_
    conv=>whnf
    refine ⟨⟨I,I,⟨I,I⟩,I,I⟩,?_⟩
    refine W.ret ?_
    refine EndsW.rt ?_
    conv=>whnf
    refine ⟨⟨I,⟨I,I⟩,I,⟨I,I⟩,I⟩,?_⟩
    rotate_left 1
    simp only [List.length_map] at h1
    omega
    exact ⟨(spoilP L ((bendP L (r + 1 + 1 + 1) sv).2 + 1 + 1) p).1,H.set k.toNat (bendP L (r + 1 + 1 + 1) sv).1,(by first | rfl | (simp only [List.map_set,List.map_append,List.map_take,List.map_drop,List.map_cons,List.map_nil,List.nil_append,List.drop_zero,List.take_length]; done) | (simp only [List.map_set,List.map_append,List.map_take,List.map_drop,List.map_cons,List.map_nil,List.nil_append,List.drop_zero,List.take_length]; rfl)),rfl,s1,by omega,hsz⟩
   ·refine x_spec_DrawReplay ?_
    conv=>whnf
    refine g 0 0 [] ?_
    conv=>whnf
    refine ⟨⟨I,I,I⟩,?_⟩
    refine g 8 10 [.call (V.tup [V.tup (rdC L (0:Int))]) ([[]])] ?_
    conv=>whnf
    refine ⟨⟨I,⟨⟨I,I⟩,I,⟨⟨I,I⟩,I⟩,⟨I,I⟩,(by assumption)⟩,I,I⟩,?_⟩
    refine g 10 12 [.call (planO p) ([rdC L q])] ?_
    conv=>whnf
    refine ⟨⟨I,⟨⟨I,I⟩,I,⟨I,I⟩,⟨I,I⟩,(by assumption)⟩,I,⟨I,I⟩,I⟩,?_⟩
    refine g 12 15 [.call (V.own [false] (List.map strT H)) ([rdC L r,[V.own taskK (List.map taskT (Plan.tasks p))]])] ?_
    conv=>whnf
    refine ⟨⟨I,I,⟨⟨I,⟨I,I⟩,I⟩,I,⟨I,I,I⟩,⟨I,I⟩,(by assumption)⟩,I,I⟩,?_⟩
    refine g 15 19 [.call (V.i k) ([rdC L (r + (1:Int)),[]])] ?_
    conv=>whnf
    refine ⟨⟨I,I,I,⟨⟨I,I,I⟩,I,⟨I,⟨I,I⟩,I⟩,⟨I,I⟩,(by assumption)⟩,I,I⟩,?_⟩
    refine W.sq ?_
    by_cases h1:(0:Int) < (↑(List.length (List.map strT H)):Int)
    simp only [List.length_map] at h1
    refine g 19 22 [.b (true),.b (true),.call (V.i (pickV L (r + (1:Int)) (3:Int))) ([rdC L (r + (1:Int) + (1:Int)),[]]),.b (true),.b (true)] ?_
    conv=>whnf
    refine ⟨⟨I,I,I,I,⟨(by simp_all),I⟩,⟨(by simp_all),⟨I,I,I⟩,I,⟨I,⟨I,I⟩,I⟩,⟨I,I⟩,Go.K.c_spec_l1Rd_pick _ _ _ (by omega) (by omega) (by omega) (by omega)⟩,⟨(by simp_all),I⟩,(by simp_all),I⟩,?_⟩
    refine W.cn ?_
    conv=>whnf
    refine ⟨fun _=>?_,noF (dT (by omega))⟩
    refine g 23 28 [.call (V.i (pickV L (r + (1:Int) + (1:Int)) (4:Int))) ([rdC L (r + (1:Int) + (1:Int) + (1:Int)),[]])] ?_
    conv=>whnf
    refine ⟨⟨I,⟨⟨I,I,I⟩,I,⟨I,⟨I,I⟩,I⟩,⟨I,I⟩,Go.K.c_spec_l1Rd_pick _ _ _ (by omega) (by omega) (by omega) (by omega)⟩,I⟩,?_⟩
    refine W.blk ?_
    refine g 36 37 [] ?_
    conv=>whnf
    refine ⟨⟨I,I,I⟩,?_⟩
    refine W.cn ?_
    conv=>whnf
    refine ⟨fun _=>?_,noF (dT (by omega))⟩
    refine rg [.n (Int.toNat k),.x (strT sv),.call (V.s (Prod.fst (bendP L (r + (1:Int) + (1:Int) + (1:Int)) sv))) ([rdC L (Prod.snd (bendP L (r + (1:Int) + (1:Int) + (1:Int)) sv)),[]]),.n (Int.toNat k),.x (strT sv)] ?_
    conv=>whnf
    refine ⟨⟨I,I,I,I,I,⟨(by omega),(by simp only [lens]; omega)⟩,ixl (by assumption),⟨⟨I,I,I⟩,I,⟨I,⟨I,I⟩,I⟩,⟨I,I⟩,Go.K.c_spec_l1Bend _ _ _ (by omega) (by omega) (by omega) (by omega)⟩,⟨(by omega),(by simp only [lens]; omega)⟩,⟨⟨I,I⟩,ixl (by assumption)⟩,I⟩,?_⟩
    refine W.sq ?_
    refine g 28 45 [.call (V.i (pickV L (Prod.snd (bendP L (r + (1:Int) + (1:Int) + (1:Int)) sv)) (40:Int))) ([rdC L (Prod.snd (bendP L (r + (1:Int) + (1:Int) + (1:Int)) sv) + (1:Int)),[]])] ?_
    conv=>whnf
    refine ⟨⟨I,⟨⟨I,I,I⟩,I,⟨I,⟨I,I⟩,I⟩,⟨I,I⟩,Go.K.c_spec_l1Rd_pick _ _ _ (by omega) (by omega) (by omega) (by omega)⟩,I,I⟩,?_⟩
    refine W.cn ?_
    conv=>whnf
    refine ⟨noT (dF (by omega)),fun _=>?_⟩
    refine W.skip ?_
    refine W.sq ?_
    refine g 67 78 [.call (V.i (pickV L (Prod.snd (bendP L (r + (1:Int) + (1:Int) + (1:Int)) sv) + (1:Int)) (12:Int))) ([rdC L (Prod.snd (bendP L (r + (1:Int) + (1:Int) + (1:Int)) sv) + (1:Int) + (1:Int)),[]])] ?_
    conv=>whnf
    refine ⟨⟨I,⟨⟨I,I,I⟩,I,⟨I,⟨I,I⟩,I⟩,⟨I,I⟩,Go.K.c_spec_l1Rd_pick _ _ _ (by omega) (by omega) (by omega) (by omega)⟩,I,I⟩,?_⟩
    refine W.cn ?_
    conv=>whnf
    refine ⟨noT (dF (by omega)),fun _=>?_⟩
    refine W.skip ?_
    refine g 4 8 [] ?_
    conv=>whnf
    refine ⟨⟨I,I,⟨I,I⟩,I,I⟩,?_⟩
    refine W.ret ?_
    refine EndsW.rt ?_
    conv=>whnf
    refine ⟨⟨I,⟨I,I⟩,I,⟨I,I⟩,I⟩,?_⟩
    rotate_left 1
    simp only [List.length_map] at h1
    omega
    exact ⟨p,H.set k.toNat (bendP L (r + 1 + 1 + 1) sv).1,(by first | rfl | (simp only [List.map_set,List.map_append,List.map_take,List.map_drop,List.map_cons,List.map_nil,List.nil_append,List.drop_zero,List.take_length]; done) | (simp only [List.map_set,List.map_append,List.map_take,List.map_drop,List.map_cons,List.map_nil,List.nil_append,List.drop_zero,List.take_length]; rfl)),rfl,hmid,by omega,hsz⟩
 by_cases a1:pickV L (r + 1 + 1) 4 = 1
 ·skip
  have t0:=pick_rng L (r + 1 + 1 + 1) 40
  have t1:=pick_rng L (r + 1 + 1 + 1 + 1) 12
  obtain ⟨s1,s2,s3⟩:=spoil_ok L (r + 1 + 1 + 1 + 1 + 1) p
  have hln:(H.take k.toNat ++ H.drop (k + 1).toNat).length ≤ 82:=by rw [List.length_append,List.length_take,List.length_drop]; omega
  have hsz:∀ s ∈ (H.take k.toNat ++ H.drop (k + 1).toNat),s.size ≤ 64:=fun y hy=>(List.mem_append.1 hy).elim (fun e=>e12 y (List.mem_of_mem_take e)) (fun e=>e12 y (List.mem_of_mem_drop e))
  by_cases g40:pickV L (r + 1 + 1 + 1) 40 = 0
  ·refine x_spec_DrawReplay ?_
   conv=>whnf
   refine g 0 0 [] ?_
   conv=>whnf
   refine ⟨⟨I,I,I⟩,?_⟩
   refine g 8 10 [.call (V.tup [V.tup (rdC L (0:Int))]) ([[]])] ?_
   conv=>whnf
   refine ⟨⟨I,⟨⟨I,I⟩,I,⟨⟨I,I⟩,I⟩,⟨I,I⟩,(by assumption)⟩,I,I⟩,?_⟩
   refine g 10 12 [.call (planO p) ([rdC L q])] ?_
   conv=>whnf
   refine ⟨⟨I,⟨⟨I,I⟩,I,⟨I,I⟩,⟨I,I⟩,(by assumption)⟩,I,⟨I,I⟩,I⟩,?_⟩
   refine g 12 15 [.call (V.own [false] (List.map strT H)) ([rdC L r,[V.own taskK (List.map taskT (Plan.tasks p))]])] ?_
   conv=>whnf
   refine ⟨⟨I,I,⟨⟨I,⟨I,I⟩,I⟩,I,⟨I,I,I⟩,⟨I,I⟩,(by assumption)⟩,I,I⟩,?_⟩
   refine g 15 19 [.call (V.i k) ([rdC L (r + (1:Int)),[]])] ?_
   conv=>whnf
   refine ⟨⟨I,I,I,⟨⟨I,I,I⟩,I,⟨I,⟨I,I⟩,I⟩,⟨I,I⟩,(by assumption)⟩,I,I⟩,?_⟩
   refine W.sq ?_
   by_cases h1:(0:Int) < (↑(List.length (List.map strT H)):Int)
   simp only [List.length_map] at h1
   refine g 19 22 [.b (true),.b (true),.call (V.i (pickV L (r + (1:Int)) (3:Int))) ([rdC L (r + (1:Int) + (1:Int)),[]]),.b (true),.b (true)] ?_
   conv=>whnf
   refine ⟨⟨I,I,I,I,⟨(by simp_all),I⟩,⟨(by simp_all),⟨I,I,I⟩,I,⟨I,⟨I,I⟩,I⟩,⟨I,I⟩,Go.K.c_spec_l1Rd_pick _ _ _ (by omega) (by omega) (by omega) (by omega)⟩,⟨(by simp_all),I⟩,(by simp_all),I⟩,?_⟩
   refine W.cn ?_
   conv=>whnf
   refine ⟨fun _=>?_,noF (dT (by omega))⟩
   refine g 23 28 [.call (V.i (pickV L (r + (1:Int) + (1:Int)) (4:Int))) ([rdC L (r + (1:Int) + (1:Int) + (1:Int)),[]])] ?_
   conv=>whnf
   refine ⟨⟨I,⟨⟨I,I,I⟩,I,⟨I,⟨I,I⟩,I⟩,⟨I,I⟩,Go.K.c_spec_l1Rd_pick _ _ _ (by omega) (by omega) (by omega) (by omega)⟩,I⟩,?_⟩
   refine W.blk ?_
   refine g 36 37 [] ?_
   conv=>whnf
   refine ⟨⟨I,I,I⟩,?_⟩
   refine W.cn ?_
   conv=>whnf
   refine ⟨noT (dF (by omega)),fun _=>?_⟩
   refine g 35 36 [] ?_
   conv=>whnf
   refine ⟨⟨I,I,I⟩,?_⟩
   refine W.cn ?_
   conv=>whnf
   refine ⟨fun _=>?_,noF (dT (by omega))⟩
   refine rgd [[],[],[],[.n (Int.toNat k)],[],[],[],[.i (k + (1:Int))],[.n (Int.toNat (k + (1:Int)))],[],[]] ?_
   conv=>whnf
   refine ⟨⟨I,I,I,⟨I,(by omega),I,(by omega),(by simp only [lens]; omega)⟩,⟨I,I,(by simp only [lens]; omega)⟩,I,I,w64 (by omega) (by omega),⟨I,I,(by omega),(by simp only [lens]; omega),(by omega)⟩,⟨I,I,(by simp only [lens]; omega)⟩,I,I⟩,by kernel_rfl,?_⟩
   refine W.sq ?_
   refine g 28 69 [.call (V.i (pickV L (r + (1:Int) + (1:Int) + (1:Int)) (40:Int))) ([rdC L (r + (1:Int) + (1:Int) + (1:Int) + (1:Int)),[]])] ?_
   conv=>whnf
   refine ⟨⟨I,⟨⟨I,I,I⟩,I,⟨I,⟨I,I⟩,I⟩,⟨I,I⟩,Go.K.c_spec_l1Rd_pick _ _ _ (by omega) (by omega) (by omega) (by omega)⟩,I,I⟩,?_⟩
   refine W.cn ?_
   conv=>whnf
   refine ⟨fun _=>?_,noF (dT (by omega))⟩
   refine W.blk ?_
   rotate_left 1
   simp only [List.length_map] at h1
   omega
   refine W.lp (fun s (x:List ByteArray)=>⟨[(0,s.s 0),(2,s.s 2),(3,s.s 3),(4,s.s 4),(5,s.s 5),(6,.ref ⟨6,none,0⟩),(22,s.s 22)],[(2,[s.c 2 0]),(9,[s.c 9 0,s.c 9 1]),(5,[s.c 5 0]),(6,[.own [false] (x.map strT)])],[]⟩) (fun (x:List ByteArray)=>x.length ≤ 311 ∧ ∀ s ∈ x,s.size ≤ 64) (fun (x:List ByteArray)=>311 - x.length) (H.take k.toNat ++ H.drop (k + 1).toNat) [some 2,some 9,some 5,some 57] [] ⟨rfl,⟨rfl,rfl,rfl,rfl,rfl,rfl,rfl,I⟩,⟨⟨rfl,⟨rfl,I⟩⟩,⟨⟨rfl,⟨rfl,⟨rfl,I⟩⟩⟩,⟨⟨rfl,⟨rfl,I⟩⟩,⟨⟨rfl,⟨(congrArg (V.own _) (by simp only [List.map_append,List.map_take,List.map_drop,List.nil_append,List.drop_zero,List.take_length])),I⟩⟩,I⟩⟩⟩⟩,I⟩ ?_ ?_
   ·exact ⟨by omega,hsz⟩
   rintro x ⟨x1,x2⟩
   by_cases hx:x.length ≤ 310
   ·conv=>whnf
    refine W.sq ?_
    refine g 70 72 [] ?_
    conv=>whnf
    refine ⟨⟨I,I,I,I⟩,?_⟩
    refine W.cn ?_
    conv=>whnf
    refine ⟨fun h2=>?_,fun h2=>?_⟩
    replace h2:=dt h2
    simp only [List.length_map] at h2
    refine W.skip ?_
    refine W.blk ?_
    refine rg [] ?_
    conv=>whnf
    refine ⟨⟨I,⟨⟨I,I⟩,I⟩,⟨I,I,(by simp only [lens]; omega)⟩,I,I⟩,?_⟩
    rotate_left 1
    replace h2:=df h2
    simp only [List.length_map] at h2
    omega
    have ex:=map_snoc x ⟨#[120]⟩
    refine ⟨x ++ [⟨#[120]⟩],[some 2,some 9,some 5,some 75],[],⟨rfl,⟨rfl,rfl,rfl,rfl,rfl,rfl,rfl,I⟩,⟨⟨rfl,⟨rfl,I⟩⟩,⟨⟨rfl,⟨rfl,⟨rfl,I⟩⟩⟩,⟨⟨rfl,⟨rfl,I⟩⟩,⟨⟨rfl,⟨(congrArg (V.own _) (ex)),I⟩⟩,I⟩⟩⟩⟩,I⟩,?_,?_⟩
    rotate_left 1
    rotate_right 1
    dsimp only
    ·exact ⟨by rw [len_snoc]; omega,all_snoc x2 (by decide)⟩
    ·show 311 - (x ++ [_]).length < 311 - x.length
     rw [len_snoc]; omega
   ·by_cases g12:pickV L (r + 1 + 1 + 1 + 1) 12 = 0
    ·conv=>whnf
     refine W.sq ?_
     refine g 70 72 [] ?_
     conv=>whnf
     refine ⟨⟨I,I,I,I⟩,?_⟩
     refine W.cn ?_
     conv=>whnf
     refine ⟨fun h2=>?_,fun h2=>?_⟩
     replace h2:=dt h2
     simp only [List.length_map] at h2
     omega
     replace h2:=df h2
     simp only [List.length_map] at h2
     refine W.exit ?_
     refine W.sq ?_
     refine g 72 78 [.call (V.i (pickV L (r + (1:Int) + (1:Int) + (1:Int) + (1:Int)) (12:Int))) ([rdC L (r + (1:Int) + (1:Int) + (1:Int) + (1:Int) + (1:Int)),[]])] ?_
     conv=>whnf
     refine ⟨⟨I,⟨⟨I,I,I⟩,I,⟨I,⟨I,I⟩,I⟩,⟨I,I⟩,Go.K.c_spec_l1Rd_pick _ _ _ (by omega) (by omega) (by omega) (by omega)⟩,I,I⟩,?_⟩
     refine W.cn ?_
     conv=>whnf
     refine ⟨fun _=>?_,noF (dT (by omega))⟩
     refine rg [.call (planO (Prod.fst (spoilP L (r + (1:Int) + (1:Int) + (1:Int) + (1:Int) + (1:Int)) p))) ([rdC L (Prod.snd (spoilP L (r + (1:Int) + (1:Int) + (1:Int) + (1:Int) + (1:Int)) p)),[]])] ?_
     conv=>whnf
     refine ⟨⟨I,I,⟨⟨I,⟨I,I⟩,I⟩,I,⟨I,I,I⟩,⟨I,I⟩,Go.K.c_spec_l1Spoil _ _ _ (by omega) (by omega) (by omega) (by omega)⟩,⟨I,I⟩,I⟩,?_⟩
     refine g 78 84 [] ?_
     conv=>whnf
     refine ⟨⟨I,I,⟨I,I⟩,I,I⟩,?_⟩
     refine W.ret ?_
     refine EndsW.rt ?_
     conv=>whnf
     refine ⟨⟨I,⟨I,I⟩,I,⟨I,I⟩,I⟩,?_⟩
     exact ⟨(spoilP L (r + 1 + 1 + 1 + 1 + 1) p).1,x,rfl,rfl,s1,by omega,x2⟩
    ·conv=>whnf
     refine W.sq ?_
     refine g 70 72 [] ?_
     conv=>whnf
     refine ⟨⟨I,I,I,I⟩,?_⟩
     refine W.cn ?_
     conv=>whnf
     refine ⟨fun h2=>?_,fun h2=>?_⟩
     replace h2:=dt h2
     simp only [List.length_map] at h2
     omega
     replace h2:=df h2
     simp only [List.length_map] at h2
     refine W.exit ?_
     refine W.sq ?_
     refine g 72 78 [.call (V.i (pickV L (r + (1:Int) + (1:Int) + (1:Int) + (1:Int)) (12:Int))) ([rdC L (r + (1:Int) + (1:Int) + (1:Int) + (1:Int) + (1:Int)),[]])] ?_
     conv=>whnf
     refine ⟨⟨I,⟨⟨I,I,I⟩,I,⟨I,⟨I,I⟩,I⟩,⟨I,I⟩,Go.K.c_spec_l1Rd_pick _ _ _ (by omega) (by omega) (by omega) (by omega)⟩,I,I⟩,?_⟩
     refine W.cn ?_
     conv=>whnf
     refine ⟨noT (dF (by omega)),fun _=>?_⟩
     refine W.skip ?_
     refine g 4 7 [] ?_
     conv=>whnf
     refine ⟨⟨I,I,⟨I,I⟩,I,I⟩,?_⟩
     refine W.ret ?_
     refine EndsW.rt ?_
     conv=>whnf
     refine ⟨⟨I,⟨I,I⟩,I,⟨I,I⟩,I⟩,?_⟩
     exact ⟨p,x,rfl,rfl,hmid,by omega,x2⟩
  ·by_cases g12:pickV L (r + 1 + 1 + 1 + 1) 12 = 0
   ·refine x_spec_DrawReplay ?_
    conv=>whnf
    refine g 0 0 [] ?_
    conv=>whnf
    refine ⟨⟨I,I,I⟩,?_⟩
    refine g 8 10 [.call (V.tup [V.tup (rdC L (0:Int))]) ([[]])] ?_
    conv=>whnf
    refine ⟨⟨I,⟨⟨I,I⟩,I,⟨⟨I,I⟩,I⟩,⟨I,I⟩,(by assumption)⟩,I,I⟩,?_⟩
    refine g 10 12 [.call (planO p) ([rdC L q])] ?_
    conv=>whnf
    refine ⟨⟨I,⟨⟨I,I⟩,I,⟨I,I⟩,⟨I,I⟩,(by assumption)⟩,I,⟨I,I⟩,I⟩,?_⟩
    refine g 12 15 [.call (V.own [false] (List.map strT H)) ([rdC L r,[V.own taskK (List.map taskT (Plan.tasks p))]])] ?_
    conv=>whnf
    refine ⟨⟨I,I,⟨⟨I,⟨I,I⟩,I⟩,I,⟨I,I,I⟩,⟨I,I⟩,(by assumption)⟩,I,I⟩,?_⟩
    refine g 15 19 [.call (V.i k) ([rdC L (r + (1:Int)),[]])] ?_
    conv=>whnf
    refine ⟨⟨I,I,I,⟨⟨I,I,I⟩,I,⟨I,⟨I,I⟩,I⟩,⟨I,I⟩,(by assumption)⟩,I,I⟩,?_⟩
    refine W.sq ?_
    by_cases h1:(0:Int) < (↑(List.length (List.map strT H)):Int)
    simp only [List.length_map] at h1
    refine g 19 22 [.b (true),.b (true),.call (V.i (pickV L (r + (1:Int)) (3:Int))) ([rdC L (r + (1:Int) + (1:Int)),[]]),.b (true),.b (true)] ?_
    conv=>whnf
    refine ⟨⟨I,I,I,I,⟨(by simp_all),I⟩,⟨(by simp_all),⟨I,I,I⟩,I,⟨I,⟨I,I⟩,I⟩,⟨I,I⟩,Go.K.c_spec_l1Rd_pick _ _ _ (by omega) (by omega) (by omega) (by omega)⟩,⟨(by simp_all),I⟩,(by simp_all),I⟩,?_⟩
    refine W.cn ?_
    conv=>whnf
    refine ⟨fun _=>?_,noF (dT (by omega))⟩
    refine g 23 28 [.call (V.i (pickV L (r + (1:Int) + (1:Int)) (4:Int))) ([rdC L (r + (1:Int) + (1:Int) + (1:Int)),[]])] ?_
    conv=>whnf
    refine ⟨⟨I,⟨⟨I,I,I⟩,I,⟨I,⟨I,I⟩,I⟩,⟨I,I⟩,Go.K.c_spec_l1Rd_pick _ _ _ (by omega) (by omega) (by omega) (by omega)⟩,I⟩,?_⟩
    refine W.blk ?_
    refine g 36 37 [] ?_
    conv=>whnf
    refine ⟨⟨I,I,I⟩,?_⟩
    refine W.cn ?_
    conv=>whnf
    refine ⟨noT (dF (by omega)),fun _=>?_⟩
    refine g 35 36 [] ?_
    conv=>whnf
    refine ⟨⟨I,I,I⟩,?_⟩
    refine W.cn ?_
    conv=>whnf
    refine ⟨fun _=>?_,noF (dT (by omega))⟩
    refine rgd [[],[],[],[.n (Int.toNat k)],[],[],[],[.i (k + (1:Int))],[.n (Int.toNat (k + (1:Int)))],[],[]] ?_
    conv=>whnf
    refine ⟨⟨I,I,I,⟨I,(by omega),I,(by omega),(by simp only [lens]; omega)⟩,⟨I,I,(by simp only [lens]; omega)⟩,I,I,w64 (by omega) (by omega),⟨I,I,(by omega),(by simp only [lens]; omega),(by omega)⟩,⟨I,I,(by simp only [lens]; omega)⟩,I,I⟩,by kernel_rfl,?_⟩
    refine W.sq ?_
    refine g 28 69 [.call (V.i (pickV L (r + (1:Int) + (1:Int) + (1:Int)) (40:Int))) ([rdC L (r + (1:Int) + (1:Int) + (1:Int) + (1:Int)),[]])] ?_
    conv=>whnf
    refine ⟨⟨I,⟨⟨I,I,I⟩,I,⟨I,⟨I,I⟩,I⟩,⟨I,I⟩,Go.K.c_spec_l1Rd_pick _ _ _ (by omega) (by omega) (by omega) (by omega)⟩,I,I⟩,?_⟩
    refine W.cn ?_
    conv=>whnf
    refine ⟨noT (dF (by omega)),fun _=>?_⟩
    refine W.skip ?_
    refine W.sq ?_
    refine g 69 78 [.call (V.i (pickV L (r + (1:Int) + (1:Int) + (1:Int) + (1:Int)) (12:Int))) ([rdC L (r + (1:Int) + (1:Int) + (1:Int) + (1:Int) + (1:Int)),[]])] ?_
    conv=>whnf
    refine ⟨⟨I,⟨⟨I,I,I⟩,I,⟨I,⟨I,I⟩,I⟩,⟨I,I⟩,Go.K.c_spec_l1Rd_pick _ _ _ (by omega) (by omega) (by omega) (by omega)⟩,I,I⟩,?_⟩
    refine W.cn ?_
    conv=>whnf
    refine ⟨fun _=>?_,noF (dT (by omega))⟩
    refine rg [.call (planO (Prod.fst (spoilP L (r + (1:Int) + (1:Int) + (1:Int) + (1:Int) + (1:Int)) p))) ([rdC L (Prod.snd (spoilP L (r + (1:Int) + (1:Int) + (1:Int) + (1:Int) + (1:Int)) p)),[]])] ?_
    conv=>whnf
    refine ⟨⟨I,I,⟨⟨I,⟨I,I⟩,I⟩,I,⟨I,I,I⟩,⟨I,I⟩,Go.K.c_spec_l1Spoil _ _ _ (by omega) (by omega) (by omega) (by omega)⟩,⟨I,I⟩,I⟩,?_⟩
    refine g 78 84 [] ?_
    conv=>whnf
    refine ⟨⟨I,I,⟨I,I⟩,I,I⟩,?_⟩
    refine W.ret ?_
    refine EndsW.rt ?_
    conv=>whnf
    refine ⟨⟨I,⟨I,I⟩,I,⟨I,I⟩,I⟩,?_⟩
    rotate_left 1
    simp only [List.length_map] at h1
    omega
    exact ⟨(spoilP L (r + 1 + 1 + 1 + 1 + 1) p).1,H.take k.toNat ++ H.drop (k + 1).toNat,(by first | rfl | (simp only [List.map_set,List.map_append,List.map_take,List.map_drop,List.map_cons,List.map_nil,List.nil_append,List.drop_zero,List.take_length]; done) | (simp only [List.map_set,List.map_append,List.map_take,List.map_drop,List.map_cons,List.map_nil,List.nil_append,List.drop_zero,List.take_length]; rfl)),rfl,s1,by omega,hsz⟩
   ·refine x_spec_DrawReplay ?_
    conv=>whnf
    refine g 0 0 [] ?_
    conv=>whnf
    refine ⟨⟨I,I,I⟩,?_⟩
    refine g 8 10 [.call (V.tup [V.tup (rdC L (0:Int))]) ([[]])] ?_
    conv=>whnf
    refine ⟨⟨I,⟨⟨I,I⟩,I,⟨⟨I,I⟩,I⟩,⟨I,I⟩,(by assumption)⟩,I,I⟩,?_⟩
    refine g 10 12 [.call (planO p) ([rdC L q])] ?_
    conv=>whnf
    refine ⟨⟨I,⟨⟨I,I⟩,I,⟨I,I⟩,⟨I,I⟩,(by assumption)⟩,I,⟨I,I⟩,I⟩,?_⟩
    refine g 12 15 [.call (V.own [false] (List.map strT H)) ([rdC L r,[V.own taskK (List.map taskT (Plan.tasks p))]])] ?_
    conv=>whnf
    refine ⟨⟨I,I,⟨⟨I,⟨I,I⟩,I⟩,I,⟨I,I,I⟩,⟨I,I⟩,(by assumption)⟩,I,I⟩,?_⟩
    refine g 15 19 [.call (V.i k) ([rdC L (r + (1:Int)),[]])] ?_
    conv=>whnf
    refine ⟨⟨I,I,I,⟨⟨I,I,I⟩,I,⟨I,⟨I,I⟩,I⟩,⟨I,I⟩,(by assumption)⟩,I,I⟩,?_⟩
    refine W.sq ?_
    by_cases h1:(0:Int) < (↑(List.length (List.map strT H)):Int)
    simp only [List.length_map] at h1
    refine g 19 22 [.b (true),.b (true),.call (V.i (pickV L (r + (1:Int)) (3:Int))) ([rdC L (r + (1:Int) + (1:Int)),[]]),.b (true),.b (true)] ?_
    conv=>whnf
    refine ⟨⟨I,I,I,I,⟨(by simp_all),I⟩,⟨(by simp_all),⟨I,I,I⟩,I,⟨I,⟨I,I⟩,I⟩,⟨I,I⟩,Go.K.c_spec_l1Rd_pick _ _ _ (by omega) (by omega) (by omega) (by omega)⟩,⟨(by simp_all),I⟩,(by simp_all),I⟩,?_⟩
    refine W.cn ?_
    conv=>whnf
    refine ⟨fun _=>?_,noF (dT (by omega))⟩
    refine g 23 28 [.call (V.i (pickV L (r + (1:Int) + (1:Int)) (4:Int))) ([rdC L (r + (1:Int) + (1:Int) + (1:Int)),[]])] ?_
    conv=>whnf
    refine ⟨⟨I,⟨⟨I,I,I⟩,I,⟨I,⟨I,I⟩,I⟩,⟨I,I⟩,Go.K.c_spec_l1Rd_pick _ _ _ (by omega) (by omega) (by omega) (by omega)⟩,I⟩,?_⟩
    refine W.blk ?_
    refine g 36 37 [] ?_
    conv=>whnf
    refine ⟨⟨I,I,I⟩,?_⟩
    refine W.cn ?_
    conv=>whnf
    refine ⟨noT (dF (by omega)),fun _=>?_⟩
    refine g 35 36 [] ?_
    conv=>whnf
    refine ⟨⟨I,I,I⟩,?_⟩
    refine W.cn ?_
    conv=>whnf
    refine ⟨fun _=>?_,noF (dT (by omega))⟩
    refine rgd [[],[],[],[.n (Int.toNat k)],[],[],[],[.i (k + (1:Int))],[.n (Int.toNat (k + (1:Int)))],[],[]] ?_
    conv=>whnf
    refine ⟨⟨I,I,I,⟨I,(by omega),I,(by omega),(by simp only [lens]; omega)⟩,⟨I,I,(by simp only [lens]; omega)⟩,I,I,w64 (by omega) (by omega),⟨I,I,(by omega),(by simp only [lens]; omega),(by omega)⟩,⟨I,I,(by simp only [lens]; omega)⟩,I,I⟩,by kernel_rfl,?_⟩
    refine W.sq ?_
    refine g 28 69 [.call (V.i (pickV L (r + (1:Int) + (1:Int) + (1:Int)) (40:Int))) ([rdC L (r + (1:Int) + (1:Int) + (1:Int) + (1:Int)),[]])] ?_
    conv=>whnf
    refine ⟨⟨I,⟨⟨I,I,I⟩,I,⟨I,⟨I,I⟩,I⟩,⟨I,I⟩,Go.K.c_spec_l1Rd_pick _ _ _ (by omega) (by omega) (by omega) (by omega)⟩,I,I⟩,?_⟩
    refine W.cn ?_
    conv=>whnf
    refine ⟨noT (dF (by omega)),fun _=>?_⟩
    refine W.skip ?_
    refine W.sq ?_
    refine g 69 78 [.call (V.i (pickV L (r + (1:Int) + (1:Int) + (1:Int) + (1:Int)) (12:Int))) ([rdC L (r + (1:Int) + (1:Int) + (1:Int) + (1:Int) + (1:Int)),[]])] ?_
    conv=>whnf
    refine ⟨⟨I,⟨⟨I,I,I⟩,I,⟨I,⟨I,I⟩,I⟩,⟨I,I⟩,Go.K.c_spec_l1Rd_pick _ _ _ (by omega) (by omega) (by omega) (by omega)⟩,I,I⟩,?_⟩
    refine W.cn ?_
    conv=>whnf
    refine ⟨noT (dF (by omega)),fun _=>?_⟩
    refine W.skip ?_
    refine g 4 8 [] ?_
    conv=>whnf
    refine ⟨⟨I,I,⟨I,I⟩,I,I⟩,?_⟩
    refine W.ret ?_
    refine EndsW.rt ?_
    conv=>whnf
    refine ⟨⟨I,⟨I,I⟩,I,⟨I,I⟩,I⟩,?_⟩
    rotate_left 1
    simp only [List.length_map] at h1
    omega
    exact ⟨p,H.take k.toNat ++ H.drop (k + 1).toNat,(by first | rfl | (simp only [List.map_set,List.map_append,List.map_take,List.map_drop,List.map_cons,List.map_nil,List.nil_append,List.drop_zero,List.take_length]; done) | (simp only [List.map_set,List.map_append,List.map_take,List.map_drop,List.map_cons,List.map_nil,List.nil_append,List.drop_zero,List.take_length]; rfl)),rfl,hmid,by omega,hsz⟩
 by_cases a2:pickV L (r + 1 + 1) 4 = 2
 ·skip
  have t0:=pick_rng L (r + 1 + 1 + 1) 40
  have t1:=pick_rng L (r + 1 + 1 + 1 + 1) 12
  obtain ⟨s1,s2,s3⟩:=spoil_ok L (r + 1 + 1 + 1 + 1 + 1) p
  have hln:(H ++ [sv]).length ≤ 82:=by rw [len_snoc]; omega
  have hsz:∀ s ∈ (H ++ [sv]),s.size ≤ 64:=all_snoc e12 (by omega)
  by_cases g40:pickV L (r + 1 + 1 + 1) 40 = 0
  ·refine x_spec_DrawReplay ?_
   conv=>whnf
   refine g 0 0 [] ?_
   conv=>whnf
   refine ⟨⟨I,I,I⟩,?_⟩
   refine g 8 10 [.call (V.tup [V.tup (rdC L (0:Int))]) ([[]])] ?_
   conv=>whnf
   refine ⟨⟨I,⟨⟨I,I⟩,I,⟨⟨I,I⟩,I⟩,⟨I,I⟩,(by assumption)⟩,I,I⟩,?_⟩
   refine g 10 12 [.call (planO p) ([rdC L q])] ?_
   conv=>whnf
   refine ⟨⟨I,⟨⟨I,I⟩,I,⟨I,I⟩,⟨I,I⟩,(by assumption)⟩,I,⟨I,I⟩,I⟩,?_⟩
   refine g 12 15 [.call (V.own [false] (List.map strT H)) ([rdC L r,[V.own taskK (List.map taskT (Plan.tasks p))]])] ?_
   conv=>whnf
   refine ⟨⟨I,I,⟨⟨I,⟨I,I⟩,I⟩,I,⟨I,I,I⟩,⟨I,I⟩,(by assumption)⟩,I,I⟩,?_⟩
   refine g 15 19 [.call (V.i k) ([rdC L (r + (1:Int)),[]])] ?_
   conv=>whnf
   refine ⟨⟨I,I,I,⟨⟨I,I,I⟩,I,⟨I,⟨I,I⟩,I⟩,⟨I,I⟩,(by assumption)⟩,I,I⟩,?_⟩
   refine W.sq ?_
   by_cases h1:(0:Int) < (↑(List.length (List.map strT H)):Int)
   simp only [List.length_map] at h1
   refine g 19 22 [.b (true),.b (true),.call (V.i (pickV L (r + (1:Int)) (3:Int))) ([rdC L (r + (1:Int) + (1:Int)),[]]),.b (true),.b (true)] ?_
   conv=>whnf
   refine ⟨⟨I,I,I,I,⟨(by simp_all),I⟩,⟨(by simp_all),⟨I,I,I⟩,I,⟨I,⟨I,I⟩,I⟩,⟨I,I⟩,Go.K.c_spec_l1Rd_pick _ _ _ (by omega) (by omega) (by omega) (by omega)⟩,⟨(by simp_all),I⟩,(by simp_all),I⟩,?_⟩
   refine W.cn ?_
   conv=>whnf
   refine ⟨fun _=>?_,noF (dT (by omega))⟩
   refine g 23 28 [.call (V.i (pickV L (r + (1:Int) + (1:Int)) (4:Int))) ([rdC L (r + (1:Int) + (1:Int) + (1:Int)),[]])] ?_
   conv=>whnf
   refine ⟨⟨I,⟨⟨I,I,I⟩,I,⟨I,⟨I,I⟩,I⟩,⟨I,I⟩,Go.K.c_spec_l1Rd_pick _ _ _ (by omega) (by omega) (by omega) (by omega)⟩,I⟩,?_⟩
   refine W.blk ?_
   refine g 36 37 [] ?_
   conv=>whnf
   refine ⟨⟨I,I,I⟩,?_⟩
   refine W.cn ?_
   conv=>whnf
   refine ⟨noT (dF (by omega)),fun _=>?_⟩
   refine g 35 36 [] ?_
   conv=>whnf
   refine ⟨⟨I,I,I⟩,?_⟩
   refine W.cn ?_
   conv=>whnf
   refine ⟨noT (dF (by omega)),fun _=>?_⟩
   refine g 28 48 [] ?_
   conv=>whnf
   refine ⟨⟨I,I,I⟩,?_⟩
   refine W.cn ?_
   conv=>whnf
   refine ⟨fun _=>?_,noF (dT (by omega))⟩
   refine rg [.n (Int.toNat k),.x (strT sv)] ?_
   conv=>whnf
   refine ⟨⟨I,I,I,⟨(by omega),(by simp only [lens]; omega)⟩,ixl (by assumption),⟨⟨I,I⟩,I⟩,⟨I,I,(by simp only [lens]; omega)⟩,I,I⟩,?_⟩
   refine W.sq ?_
   refine g 58 69 [.call (V.i (pickV L (r + (1:Int) + (1:Int) + (1:Int)) (40:Int))) ([rdC L (r + (1:Int) + (1:Int) + (1:Int) + (1:Int)),[]])] ?_
   conv=>whnf
   refine ⟨⟨I,⟨⟨I,I,I⟩,I,⟨I,⟨I,I⟩,I⟩,⟨I,I⟩,Go.K.c_spec_l1Rd_pick _ _ _ (by omega) (by omega) (by omega) (by omega)⟩,I,I⟩,?_⟩
   refine W.cn ?_
   conv=>whnf
   refine ⟨fun _=>?_,noF (dT (by omega))⟩
   refine W.blk ?_
   rotate_left 1
   simp only [List.length_map] at h1
   omega
   refine W.lp (fun s (x:List ByteArray)=>⟨[(0,s.s 0),(2,s.s 2),(3,s.s 3),(4,s.s 4),(5,s.s 5),(6,.ref ⟨6,none,0⟩),(22,s.s 22)],[(2,[s.c 2 0]),(9,[s.c 9 0,s.c 9 1]),(5,[s.c 5 0]),(6,[.own [false] (x.map strT)])],[]⟩) (fun (x:List ByteArray)=>x.length ≤ 311 ∧ ∀ s ∈ x,s.size ≤ 64) (fun (x:List ByteArray)=>311 - x.length) (H ++ [sv]) [some 2,some 9,some 5,some 66] [] ⟨rfl,⟨rfl,rfl,rfl,rfl,rfl,rfl,rfl,I⟩,⟨⟨rfl,⟨rfl,I⟩⟩,⟨⟨rfl,⟨rfl,⟨rfl,I⟩⟩⟩,⟨⟨rfl,⟨rfl,I⟩⟩,⟨⟨rfl,⟨(congrArg (V.own _) (by rw [← map_snoc])),I⟩⟩,I⟩⟩⟩⟩,I⟩ ?_ ?_
   ·exact ⟨by omega,hsz⟩
   rintro x ⟨x1,x2⟩
   by_cases hx:x.length ≤ 310
   ·conv=>whnf
    refine W.sq ?_
    refine g 70 72 [] ?_
    conv=>whnf
    refine ⟨⟨I,I,I,I⟩,?_⟩
    refine W.cn ?_
    conv=>whnf
    refine ⟨fun h2=>?_,fun h2=>?_⟩
    replace h2:=dt h2
    simp only [List.length_map] at h2
    refine W.skip ?_
    refine W.blk ?_
    refine rg [] ?_
    conv=>whnf
    refine ⟨⟨I,⟨⟨I,I⟩,I⟩,⟨I,I,(by simp only [lens]; omega)⟩,I,I⟩,?_⟩
    rotate_left 1
    replace h2:=df h2
    simp only [List.length_map] at h2
    omega
    have ex:=map_snoc x ⟨#[120]⟩
    refine ⟨x ++ [⟨#[120]⟩],[some 2,some 9,some 5,some 75],[],⟨rfl,⟨rfl,rfl,rfl,rfl,rfl,rfl,rfl,I⟩,⟨⟨rfl,⟨rfl,I⟩⟩,⟨⟨rfl,⟨rfl,⟨rfl,I⟩⟩⟩,⟨⟨rfl,⟨rfl,I⟩⟩,⟨⟨rfl,⟨(congrArg (V.own _) (ex)),I⟩⟩,I⟩⟩⟩⟩,I⟩,?_,?_⟩
    rotate_left 1
    rotate_right 1
    dsimp only
    ·exact ⟨by rw [len_snoc]; omega,all_snoc x2 (by decide)⟩
    ·show 311 - (x ++ [_]).length < 311 - x.length
     rw [len_snoc]; omega
   ·by_cases g12:pickV L (r + 1 + 1 + 1 + 1) 12 = 0
    ·conv=>whnf
     refine W.sq ?_
     refine g 70 72 [] ?_
     conv=>whnf
     refine ⟨⟨I,I,I,I⟩,?_⟩
     refine W.cn ?_
     conv=>whnf
     refine ⟨fun h2=>?_,fun h2=>?_⟩
     replace h2:=dt h2
     simp only [List.length_map] at h2
     omega
     replace h2:=df h2
     simp only [List.length_map] at h2
     refine W.exit ?_
     refine W.sq ?_
     refine g 72 78 [.call (V.i (pickV L (r + (1:Int) + (1:Int) + (1:Int) + (1:Int)) (12:Int))) ([rdC L (r + (1:Int) + (1:Int) + (1:Int) + (1:Int) + (1:Int)),[]])] ?_
     conv=>whnf
     refine ⟨⟨I,⟨⟨I,I,I⟩,I,⟨I,⟨I,I⟩,I⟩,⟨I,I⟩,Go.K.c_spec_l1Rd_pick _ _ _ (by omega) (by omega) (by omega) (by omega)⟩,I,I⟩,?_⟩
     refine W.cn ?_
     conv=>whnf
     refine ⟨fun _=>?_,noF (dT (by omega))⟩
     refine rg [.call (planO (Prod.fst (spoilP L (r + (1:Int) + (1:Int) + (1:Int) + (1:Int) + (1:Int)) p))) ([rdC L (Prod.snd (spoilP L (r + (1:Int) + (1:Int) + (1:Int) + (1:Int) + (1:Int)) p)),[]])] ?_
     conv=>whnf
     refine ⟨⟨I,I,⟨⟨I,⟨I,I⟩,I⟩,I,⟨I,I,I⟩,⟨I,I⟩,Go.K.c_spec_l1Spoil _ _ _ (by omega) (by omega) (by omega) (by omega)⟩,⟨I,I⟩,I⟩,?_⟩
     refine g 78 84 [] ?_
     conv=>whnf
     refine ⟨⟨I,I,⟨I,I⟩,I,I⟩,?_⟩
     refine W.ret ?_
     refine EndsW.rt ?_
     conv=>whnf
     refine ⟨⟨I,⟨I,I⟩,I,⟨I,I⟩,I⟩,?_⟩
     exact ⟨(spoilP L (r + 1 + 1 + 1 + 1 + 1) p).1,x,rfl,rfl,s1,by omega,x2⟩
    ·conv=>whnf
     refine W.sq ?_
     refine g 70 72 [] ?_
     conv=>whnf
     refine ⟨⟨I,I,I,I⟩,?_⟩
     refine W.cn ?_
     conv=>whnf
     refine ⟨fun h2=>?_,fun h2=>?_⟩
     replace h2:=dt h2
     simp only [List.length_map] at h2
     omega
     replace h2:=df h2
     simp only [List.length_map] at h2
     refine W.exit ?_
     refine W.sq ?_
     refine g 72 78 [.call (V.i (pickV L (r + (1:Int) + (1:Int) + (1:Int) + (1:Int)) (12:Int))) ([rdC L (r + (1:Int) + (1:Int) + (1:Int) + (1:Int) + (1:Int)),[]])] ?_
     conv=>whnf
     refine ⟨⟨I,⟨⟨I,I,I⟩,I,⟨I,⟨I,I⟩,I⟩,⟨I,I⟩,Go.K.c_spec_l1Rd_pick _ _ _ (by omega) (by omega) (by omega) (by omega)⟩,I,I⟩,?_⟩
     refine W.cn ?_
     conv=>whnf
     refine ⟨noT (dF (by omega)),fun _=>?_⟩
     refine W.skip ?_
     refine g 4 7 [] ?_
     conv=>whnf
     refine ⟨⟨I,I,⟨I,I⟩,I,I⟩,?_⟩
     refine W.ret ?_
     refine EndsW.rt ?_
     conv=>whnf
     refine ⟨⟨I,⟨I,I⟩,I,⟨I,I⟩,I⟩,?_⟩
     exact ⟨p,x,rfl,rfl,hmid,by omega,x2⟩
  ·by_cases g12:pickV L (r + 1 + 1 + 1 + 1) 12 = 0
   ·refine x_spec_DrawReplay ?_
    conv=>whnf
    refine g 0 0 [] ?_
    conv=>whnf
    refine ⟨⟨I,I,I⟩,?_⟩
    refine g 8 10 [.call (V.tup [V.tup (rdC L (0:Int))]) ([[]])] ?_
    conv=>whnf
    refine ⟨⟨I,⟨⟨I,I⟩,I,⟨⟨I,I⟩,I⟩,⟨I,I⟩,(by assumption)⟩,I,I⟩,?_⟩
    refine g 10 12 [.call (planO p) ([rdC L q])] ?_
    conv=>whnf
    refine ⟨⟨I,⟨⟨I,I⟩,I,⟨I,I⟩,⟨I,I⟩,(by assumption)⟩,I,⟨I,I⟩,I⟩,?_⟩
    refine g 12 15 [.call (V.own [false] (List.map strT H)) ([rdC L r,[V.own taskK (List.map taskT (Plan.tasks p))]])] ?_
    conv=>whnf
    refine ⟨⟨I,I,⟨⟨I,⟨I,I⟩,I⟩,I,⟨I,I,I⟩,⟨I,I⟩,(by assumption)⟩,I,I⟩,?_⟩
    refine g 15 19 [.call (V.i k) ([rdC L (r + (1:Int)),[]])] ?_
    conv=>whnf
    refine ⟨⟨I,I,I,⟨⟨I,I,I⟩,I,⟨I,⟨I,I⟩,I⟩,⟨I,I⟩,(by assumption)⟩,I,I⟩,?_⟩
    refine W.sq ?_
    by_cases h1:(0:Int) < (↑(List.length (List.map strT H)):Int)
    simp only [List.length_map] at h1
    refine g 19 22 [.b (true),.b (true),.call (V.i (pickV L (r + (1:Int)) (3:Int))) ([rdC L (r + (1:Int) + (1:Int)),[]]),.b (true),.b (true)] ?_
    conv=>whnf
    refine ⟨⟨I,I,I,I,⟨(by simp_all),I⟩,⟨(by simp_all),⟨I,I,I⟩,I,⟨I,⟨I,I⟩,I⟩,⟨I,I⟩,Go.K.c_spec_l1Rd_pick _ _ _ (by omega) (by omega) (by omega) (by omega)⟩,⟨(by simp_all),I⟩,(by simp_all),I⟩,?_⟩
    refine W.cn ?_
    conv=>whnf
    refine ⟨fun _=>?_,noF (dT (by omega))⟩
    refine g 23 28 [.call (V.i (pickV L (r + (1:Int) + (1:Int)) (4:Int))) ([rdC L (r + (1:Int) + (1:Int) + (1:Int)),[]])] ?_
    conv=>whnf
    refine ⟨⟨I,⟨⟨I,I,I⟩,I,⟨I,⟨I,I⟩,I⟩,⟨I,I⟩,Go.K.c_spec_l1Rd_pick _ _ _ (by omega) (by omega) (by omega) (by omega)⟩,I⟩,?_⟩
    refine W.blk ?_
    refine g 36 37 [] ?_
    conv=>whnf
    refine ⟨⟨I,I,I⟩,?_⟩
    refine W.cn ?_
    conv=>whnf
    refine ⟨noT (dF (by omega)),fun _=>?_⟩
    refine g 35 36 [] ?_
    conv=>whnf
    refine ⟨⟨I,I,I⟩,?_⟩
    refine W.cn ?_
    conv=>whnf
    refine ⟨noT (dF (by omega)),fun _=>?_⟩
    refine g 28 48 [] ?_
    conv=>whnf
    refine ⟨⟨I,I,I⟩,?_⟩
    refine W.cn ?_
    conv=>whnf
    refine ⟨fun _=>?_,noF (dT (by omega))⟩
    refine rg [.n (Int.toNat k),.x (strT sv)] ?_
    conv=>whnf
    refine ⟨⟨I,I,I,⟨(by omega),(by simp only [lens]; omega)⟩,ixl (by assumption),⟨⟨I,I⟩,I⟩,⟨I,I,(by simp only [lens]; omega)⟩,I,I⟩,?_⟩
    refine W.sq ?_
    refine g 58 69 [.call (V.i (pickV L (r + (1:Int) + (1:Int) + (1:Int)) (40:Int))) ([rdC L (r + (1:Int) + (1:Int) + (1:Int) + (1:Int)),[]])] ?_
    conv=>whnf
    refine ⟨⟨I,⟨⟨I,I,I⟩,I,⟨I,⟨I,I⟩,I⟩,⟨I,I⟩,Go.K.c_spec_l1Rd_pick _ _ _ (by omega) (by omega) (by omega) (by omega)⟩,I,I⟩,?_⟩
    refine W.cn ?_
    conv=>whnf
    refine ⟨noT (dF (by omega)),fun _=>?_⟩
    refine W.skip ?_
    refine W.sq ?_
    refine g 69 78 [.call (V.i (pickV L (r + (1:Int) + (1:Int) + (1:Int) + (1:Int)) (12:Int))) ([rdC L (r + (1:Int) + (1:Int) + (1:Int) + (1:Int) + (1:Int)),[]])] ?_
    conv=>whnf
    refine ⟨⟨I,⟨⟨I,I,I⟩,I,⟨I,⟨I,I⟩,I⟩,⟨I,I⟩,Go.K.c_spec_l1Rd_pick _ _ _ (by omega) (by omega) (by omega) (by omega)⟩,I,I⟩,?_⟩
    refine W.cn ?_
    conv=>whnf
    refine ⟨fun _=>?_,noF (dT (by omega))⟩
    refine rg [.call (planO (Prod.fst (spoilP L (r + (1:Int) + (1:Int) + (1:Int) + (1:Int) + (1:Int)) p))) ([rdC L (Prod.snd (spoilP L (r + (1:Int) + (1:Int) + (1:Int) + (1:Int) + (1:Int)) p)),[]])] ?_
    conv=>whnf
    refine ⟨⟨I,I,⟨⟨I,⟨I,I⟩,I⟩,I,⟨I,I,I⟩,⟨I,I⟩,Go.K.c_spec_l1Spoil _ _ _ (by omega) (by omega) (by omega) (by omega)⟩,⟨I,I⟩,I⟩,?_⟩
    refine g 78 84 [] ?_
    conv=>whnf
    refine ⟨⟨I,I,⟨I,I⟩,I,I⟩,?_⟩
    refine W.ret ?_
    refine EndsW.rt ?_
    conv=>whnf
    refine ⟨⟨I,⟨I,I⟩,I,⟨I,I⟩,I⟩,?_⟩
    rotate_left 1
    simp only [List.length_map] at h1
    omega
    exact ⟨(spoilP L (r + 1 + 1 + 1 + 1 + 1) p).1,H ++ [sv],(by first | rfl | (simp only [List.map_set,List.map_append,List.map_take,List.map_drop,List.map_cons,List.map_nil,List.nil_append,List.drop_zero,List.take_length]; done) | (simp only [List.map_set,List.map_append,List.map_take,List.map_drop,List.map_cons,List.map_nil,List.nil_append,List.drop_zero,List.take_length]; rfl)),rfl,s1,by omega,hsz⟩
   ·refine x_spec_DrawReplay ?_
    conv=>whnf
    refine g 0 0 [] ?_
    conv=>whnf
    refine ⟨⟨I,I,I⟩,?_⟩
    refine g 8 10 [.call (V.tup [V.tup (rdC L (0:Int))]) ([[]])] ?_
    conv=>whnf
    refine ⟨⟨I,⟨⟨I,I⟩,I,⟨⟨I,I⟩,I⟩,⟨I,I⟩,(by assumption)⟩,I,I⟩,?_⟩
    refine g 10 12 [.call (planO p) ([rdC L q])] ?_
    conv=>whnf
    refine ⟨⟨I,⟨⟨I,I⟩,I,⟨I,I⟩,⟨I,I⟩,(by assumption)⟩,I,⟨I,I⟩,I⟩,?_⟩
    refine g 12 15 [.call (V.own [false] (List.map strT H)) ([rdC L r,[V.own taskK (List.map taskT (Plan.tasks p))]])] ?_
    conv=>whnf
    refine ⟨⟨I,I,⟨⟨I,⟨I,I⟩,I⟩,I,⟨I,I,I⟩,⟨I,I⟩,(by assumption)⟩,I,I⟩,?_⟩
    refine g 15 19 [.call (V.i k) ([rdC L (r + (1:Int)),[]])] ?_
    conv=>whnf
    refine ⟨⟨I,I,I,⟨⟨I,I,I⟩,I,⟨I,⟨I,I⟩,I⟩,⟨I,I⟩,(by assumption)⟩,I,I⟩,?_⟩
    refine W.sq ?_
    by_cases h1:(0:Int) < (↑(List.length (List.map strT H)):Int)
    simp only [List.length_map] at h1
    refine g 19 22 [.b (true),.b (true),.call (V.i (pickV L (r + (1:Int)) (3:Int))) ([rdC L (r + (1:Int) + (1:Int)),[]]),.b (true),.b (true)] ?_
    conv=>whnf
    refine ⟨⟨I,I,I,I,⟨(by simp_all),I⟩,⟨(by simp_all),⟨I,I,I⟩,I,⟨I,⟨I,I⟩,I⟩,⟨I,I⟩,Go.K.c_spec_l1Rd_pick _ _ _ (by omega) (by omega) (by omega) (by omega)⟩,⟨(by simp_all),I⟩,(by simp_all),I⟩,?_⟩
    refine W.cn ?_
    conv=>whnf
    refine ⟨fun _=>?_,noF (dT (by omega))⟩
    refine g 23 28 [.call (V.i (pickV L (r + (1:Int) + (1:Int)) (4:Int))) ([rdC L (r + (1:Int) + (1:Int) + (1:Int)),[]])] ?_
    conv=>whnf
    refine ⟨⟨I,⟨⟨I,I,I⟩,I,⟨I,⟨I,I⟩,I⟩,⟨I,I⟩,Go.K.c_spec_l1Rd_pick _ _ _ (by omega) (by omega) (by omega) (by omega)⟩,I⟩,?_⟩
    refine W.blk ?_
    refine g 36 37 [] ?_
    conv=>whnf
    refine ⟨⟨I,I,I⟩,?_⟩
    refine W.cn ?_
    conv=>whnf
    refine ⟨noT (dF (by omega)),fun _=>?_⟩
    refine g 35 36 [] ?_
    conv=>whnf
    refine ⟨⟨I,I,I⟩,?_⟩
    refine W.cn ?_
    conv=>whnf
    refine ⟨noT (dF (by omega)),fun _=>?_⟩
    refine g 28 48 [] ?_
    conv=>whnf
    refine ⟨⟨I,I,I⟩,?_⟩
    refine W.cn ?_
    conv=>whnf
    refine ⟨fun _=>?_,noF (dT (by omega))⟩
    refine rg [.n (Int.toNat k),.x (strT sv)] ?_
    conv=>whnf
    refine ⟨⟨I,I,I,⟨(by omega),(by simp only [lens]; omega)⟩,ixl (by assumption),⟨⟨I,I⟩,I⟩,⟨I,I,(by simp only [lens]; omega)⟩,I,I⟩,?_⟩
    refine W.sq ?_
    refine g 58 69 [.call (V.i (pickV L (r + (1:Int) + (1:Int) + (1:Int)) (40:Int))) ([rdC L (r + (1:Int) + (1:Int) + (1:Int) + (1:Int)),[]])] ?_
    conv=>whnf
    refine ⟨⟨I,⟨⟨I,I,I⟩,I,⟨I,⟨I,I⟩,I⟩,⟨I,I⟩,Go.K.c_spec_l1Rd_pick _ _ _ (by omega) (by omega) (by omega) (by omega)⟩,I,I⟩,?_⟩
    refine W.cn ?_
    conv=>whnf
    refine ⟨noT (dF (by omega)),fun _=>?_⟩
    refine W.skip ?_
    refine W.sq ?_
    refine g 69 78 [.call (V.i (pickV L (r + (1:Int) + (1:Int) + (1:Int) + (1:Int)) (12:Int))) ([rdC L (r + (1:Int) + (1:Int) + (1:Int) + (1:Int) + (1:Int)),[]])] ?_
    conv=>whnf
    refine ⟨⟨I,⟨⟨I,I,I⟩,I,⟨I,⟨I,I⟩,I⟩,⟨I,I⟩,Go.K.c_spec_l1Rd_pick _ _ _ (by omega) (by omega) (by omega) (by omega)⟩,I,I⟩,?_⟩
    refine W.cn ?_
    conv=>whnf
    refine ⟨noT (dF (by omega)),fun _=>?_⟩
    refine W.skip ?_
    refine g 4 8 [] ?_
    conv=>whnf
    refine ⟨⟨I,I,⟨I,I⟩,I,I⟩,?_⟩
    refine W.ret ?_
    refine EndsW.rt ?_
    conv=>whnf
    refine ⟨⟨I,⟨I,I⟩,I,⟨I,I⟩,I⟩,?_⟩
    rotate_left 1
    simp only [List.length_map] at h1
    omega
    exact ⟨p,H ++ [sv],(by first | rfl | (simp only [List.map_set,List.map_append,List.map_take,List.map_drop,List.map_cons,List.map_nil,List.nil_append,List.drop_zero,List.take_length]; done) | (simp only [List.map_set,List.map_append,List.map_take,List.map_drop,List.map_cons,List.map_nil,List.nil_append,List.drop_zero,List.take_length]; rfl)),rfl,hmid,by omega,hsz⟩
 ·obtain ⟨o1,o2,o3,o4⟩:=edraw_ok L (r + 1 + 1 + 1)
  have cf:=c_spec_FormEntry (edrawP L (r + 1 + 1 + 1)).1.kind (edrawP L (r + 1 + 1 + 1)).1.epoch (edrawP L (r + 1 + 1 + 1)).1.task (edrawP L (r + 1 + 1 + 1)).1.text (by omega)
  have hf:=formS_size (edrawP L (r + 1 + 1 + 1)).1
  have t0:=pick_rng L ((edrawP L (r + 1 + 1 + 1)).2) 40
  have t1:=pick_rng L ((edrawP L (r + 1 + 1 + 1)).2 + 1) 12
  obtain ⟨s1,s2,s3⟩:=spoil_ok L ((edrawP L (r + 1 + 1 + 1)).2 + 1 + 1) p
  have hln:(H ++ [formS (edrawP L (r + 1 + 1 + 1)).1]).length ≤ 82:=by rw [len_snoc]; omega
  have hsz:∀ s ∈ (H ++ [formS (edrawP L (r + 1 + 1 + 1)).1]),s.size ≤ 64:=all_snoc e12 (by omega)
  by_cases g40:pickV L ((edrawP L (r + 1 + 1 + 1)).2) 40 = 0
  ·refine x_spec_DrawReplay ?_
   conv=>whnf
   refine g 0 0 [] ?_
   conv=>whnf
   refine ⟨⟨I,I,I⟩,?_⟩
   refine g 8 10 [.call (V.tup [V.tup (rdC L (0:Int))]) ([[]])] ?_
   conv=>whnf
   refine ⟨⟨I,⟨⟨I,I⟩,I,⟨⟨I,I⟩,I⟩,⟨I,I⟩,(by assumption)⟩,I,I⟩,?_⟩
   refine g 10 12 [.call (planO p) ([rdC L q])] ?_
   conv=>whnf
   refine ⟨⟨I,⟨⟨I,I⟩,I,⟨I,I⟩,⟨I,I⟩,(by assumption)⟩,I,⟨I,I⟩,I⟩,?_⟩
   refine g 12 15 [.call (V.own [false] (List.map strT H)) ([rdC L r,[V.own taskK (List.map taskT (Plan.tasks p))]])] ?_
   conv=>whnf
   refine ⟨⟨I,I,⟨⟨I,⟨I,I⟩,I⟩,I,⟨I,I,I⟩,⟨I,I⟩,(by assumption)⟩,I,I⟩,?_⟩
   refine g 15 19 [.call (V.i k) ([rdC L (r + (1:Int)),[]])] ?_
   conv=>whnf
   refine ⟨⟨I,I,I,⟨⟨I,I,I⟩,I,⟨I,⟨I,I⟩,I⟩,⟨I,I⟩,(by assumption)⟩,I,I⟩,?_⟩
   refine W.sq ?_
   by_cases h1:(0:Int) < (↑(List.length (List.map strT H)):Int)
   simp only [List.length_map] at h1
   refine g 19 22 [.b (true),.b (true),.call (V.i (pickV L (r + (1:Int)) (3:Int))) ([rdC L (r + (1:Int) + (1:Int)),[]]),.b (true),.b (true)] ?_
   conv=>whnf
   refine ⟨⟨I,I,I,I,⟨(by simp_all),I⟩,⟨(by simp_all),⟨I,I,I⟩,I,⟨I,⟨I,I⟩,I⟩,⟨I,I⟩,Go.K.c_spec_l1Rd_pick _ _ _ (by omega) (by omega) (by omega) (by omega)⟩,⟨(by simp_all),I⟩,(by simp_all),I⟩,?_⟩
   refine W.cn ?_
   conv=>whnf
   refine ⟨fun _=>?_,noF (dT (by omega))⟩
   refine g 23 28 [.call (V.i (pickV L (r + (1:Int) + (1:Int)) (4:Int))) ([rdC L (r + (1:Int) + (1:Int) + (1:Int)),[]])] ?_
   conv=>whnf
   refine ⟨⟨I,⟨⟨I,I,I⟩,I,⟨I,⟨I,I⟩,I⟩,⟨I,I⟩,Go.K.c_spec_l1Rd_pick _ _ _ (by omega) (by omega) (by omega) (by omega)⟩,I⟩,?_⟩
   refine W.blk ?_
   refine g 36 37 [] ?_
   conv=>whnf
   refine ⟨⟨I,I,I⟩,?_⟩
   refine W.cn ?_
   conv=>whnf
   refine ⟨noT (dF (by omega)),fun _=>?_⟩
   refine g 35 36 [] ?_
   conv=>whnf
   refine ⟨⟨I,I,I⟩,?_⟩
   refine W.cn ?_
   conv=>whnf
   refine ⟨noT (dF (by omega)),fun _=>?_⟩
   refine g 28 48 [] ?_
   conv=>whnf
   refine ⟨⟨I,I,I⟩,?_⟩
   refine W.cn ?_
   conv=>whnf
   refine ⟨noT (dF (by omega)),fun _=>?_⟩
   refine rg [.call (entryV (Entry.kind (Prod.fst (edrawP L (r + (1:Int) + (1:Int) + (1:Int))))) (Entry.epoch (Prod.fst (edrawP L (r + (1:Int) + (1:Int) + (1:Int))))) (Entry.task (Prod.fst (edrawP L (r + (1:Int) + (1:Int) + (1:Int))))) (Entry.text (Prod.fst (edrawP L (r + (1:Int) + (1:Int) + (1:Int)))))) ([rdC L (Prod.snd (edrawP L (r + (1:Int) + (1:Int) + (1:Int))))]),.call (V.s (formS (Prod.fst (edrawP L (r + (1:Int) + (1:Int) + (1:Int)))))) ([[]])] ?_
   conv=>whnf
   refine ⟨⟨I,I,⟨⟨I,I⟩,I,⟨I,I⟩,⟨I,I⟩,Go.K.c_spec_l4Draw _ _ (by omega) (by omega) (by omega)⟩,⟨⟨I,I⟩,I,⟨⟨I,I,I,I,I⟩,I⟩,⟨I,I⟩,(by assumption)⟩,⟨⟨I,I⟩,I⟩,⟨I,I,(by simp only [lens]; omega)⟩,I,I⟩,?_⟩
   refine W.sq ?_
   refine g 29 69 [.call (V.i (pickV L (Prod.snd (edrawP L (r + (1:Int) + (1:Int) + (1:Int)))) (40:Int))) ([rdC L (Prod.snd (edrawP L (r + (1:Int) + (1:Int) + (1:Int))) + (1:Int)),[]])] ?_
   conv=>whnf
   refine ⟨⟨I,⟨⟨I,I,I⟩,I,⟨I,⟨I,I⟩,I⟩,⟨I,I⟩,Go.K.c_spec_l1Rd_pick _ _ _ (by omega) (by omega) (by omega) (by omega)⟩,I,I⟩,?_⟩
   refine W.cn ?_
   conv=>whnf
   refine ⟨fun _=>?_,noF (dT (by omega))⟩
   refine W.blk ?_
   rotate_left 1
   simp only [List.length_map] at h1
   omega
   refine W.lp (fun s (x:List ByteArray)=>⟨[(0,s.s 0),(2,s.s 2),(3,s.s 3),(4,s.s 4),(5,s.s 5),(6,.ref ⟨6,none,0⟩),(22,s.s 22)],[(2,[s.c 2 0]),(9,[s.c 9 0,s.c 9 1]),(5,[s.c 5 0]),(6,[.own [false] (x.map strT)])],[]⟩) (fun (x:List ByteArray)=>x.length ≤ 311 ∧ ∀ s ∈ x,s.size ≤ 64) (fun (x:List ByteArray)=>311 - x.length) (H ++ [formS (edrawP L (r + 1 + 1 + 1)).1]) [some 2,some 9,some 5,some 34] [] ⟨rfl,⟨rfl,rfl,rfl,rfl,rfl,rfl,rfl,I⟩,⟨⟨rfl,⟨rfl,I⟩⟩,⟨⟨rfl,⟨rfl,⟨rfl,I⟩⟩⟩,⟨⟨rfl,⟨rfl,I⟩⟩,⟨⟨rfl,⟨(congrArg (V.own _) (by rw [← map_snoc])),I⟩⟩,I⟩⟩⟩⟩,I⟩ ?_ ?_
   ·exact ⟨by omega,hsz⟩
   rintro x ⟨x1,x2⟩
   by_cases hx:x.length ≤ 310
   ·conv=>whnf
    refine W.sq ?_
    refine g 70 72 [] ?_
    conv=>whnf
    refine ⟨⟨I,I,I,I⟩,?_⟩
    refine W.cn ?_
    conv=>whnf
    refine ⟨fun h2=>?_,fun h2=>?_⟩
    replace h2:=dt h2
    simp only [List.length_map] at h2
    refine W.skip ?_
    refine W.blk ?_
    refine rg [] ?_
    conv=>whnf
    refine ⟨⟨I,⟨⟨I,I⟩,I⟩,⟨I,I,(by simp only [lens]; omega)⟩,I,I⟩,?_⟩
    rotate_left 1
    replace h2:=df h2
    simp only [List.length_map] at h2
    omega
    have ex:=map_snoc x ⟨#[120]⟩
    refine ⟨x ++ [⟨#[120]⟩],[some 2,some 9,some 5,some 75],[],⟨rfl,⟨rfl,rfl,rfl,rfl,rfl,rfl,rfl,I⟩,⟨⟨rfl,⟨rfl,I⟩⟩,⟨⟨rfl,⟨rfl,⟨rfl,I⟩⟩⟩,⟨⟨rfl,⟨rfl,I⟩⟩,⟨⟨rfl,⟨(congrArg (V.own _) (ex)),I⟩⟩,I⟩⟩⟩⟩,I⟩,?_,?_⟩
    rotate_left 1
    rotate_right 1
    dsimp only
    ·exact ⟨by rw [len_snoc]; omega,all_snoc x2 (by decide)⟩
    ·show 311 - (x ++ [_]).length < 311 - x.length
     rw [len_snoc]; omega
   ·by_cases g12:pickV L ((edrawP L (r + 1 + 1 + 1)).2 + 1) 12 = 0
    ·conv=>whnf
     refine W.sq ?_
     refine g 70 72 [] ?_
     conv=>whnf
     refine ⟨⟨I,I,I,I⟩,?_⟩
     refine W.cn ?_
     conv=>whnf
     refine ⟨fun h2=>?_,fun h2=>?_⟩
     replace h2:=dt h2
     simp only [List.length_map] at h2
     omega
     replace h2:=df h2
     simp only [List.length_map] at h2
     refine W.exit ?_
     refine W.sq ?_
     refine g 72 78 [.call (V.i (pickV L (Prod.snd (edrawP L (r + (1:Int) + (1:Int) + (1:Int))) + (1:Int)) (12:Int))) ([rdC L (Prod.snd (edrawP L (r + (1:Int) + (1:Int) + (1:Int))) + (1:Int) + (1:Int)),[]])] ?_
     conv=>whnf
     refine ⟨⟨I,⟨⟨I,I,I⟩,I,⟨I,⟨I,I⟩,I⟩,⟨I,I⟩,Go.K.c_spec_l1Rd_pick _ _ _ (by omega) (by omega) (by omega) (by omega)⟩,I,I⟩,?_⟩
     refine W.cn ?_
     conv=>whnf
     refine ⟨fun _=>?_,noF (dT (by omega))⟩
     refine rg [.call (planO (Prod.fst (spoilP L (Prod.snd (edrawP L (r + (1:Int) + (1:Int) + (1:Int))) + (1:Int) + (1:Int)) p))) ([rdC L (Prod.snd (spoilP L (Prod.snd (edrawP L (r + (1:Int) + (1:Int) + (1:Int))) + (1:Int) + (1:Int)) p)),[]])] ?_
     conv=>whnf
     refine ⟨⟨I,I,⟨⟨I,⟨I,I⟩,I⟩,I,⟨I,I,I⟩,⟨I,I⟩,Go.K.c_spec_l1Spoil _ _ _ (by omega) (by omega) (by omega) (by omega)⟩,⟨I,I⟩,I⟩,?_⟩
     refine g 78 84 [] ?_
     conv=>whnf
     refine ⟨⟨I,I,⟨I,I⟩,I,I⟩,?_⟩
     refine W.ret ?_
     refine EndsW.rt ?_
     conv=>whnf
     refine ⟨⟨I,⟨I,I⟩,I,⟨I,I⟩,I⟩,?_⟩
     exact ⟨(spoilP L ((edrawP L (r + 1 + 1 + 1)).2 + 1 + 1) p).1,x,rfl,rfl,s1,by omega,x2⟩
    ·conv=>whnf
     refine W.sq ?_
     refine g 70 72 [] ?_
     conv=>whnf
     refine ⟨⟨I,I,I,I⟩,?_⟩
     refine W.cn ?_
     conv=>whnf
     refine ⟨fun h2=>?_,fun h2=>?_⟩
     replace h2:=dt h2
     simp only [List.length_map] at h2
     omega
     replace h2:=df h2
     simp only [List.length_map] at h2
     refine W.exit ?_
     refine W.sq ?_
     refine g 72 78 [.call (V.i (pickV L (Prod.snd (edrawP L (r + (1:Int) + (1:Int) + (1:Int))) + (1:Int)) (12:Int))) ([rdC L (Prod.snd (edrawP L (r + (1:Int) + (1:Int) + (1:Int))) + (1:Int) + (1:Int)),[]])] ?_
     conv=>whnf
     refine ⟨⟨I,⟨⟨I,I,I⟩,I,⟨I,⟨I,I⟩,I⟩,⟨I,I⟩,Go.K.c_spec_l1Rd_pick _ _ _ (by omega) (by omega) (by omega) (by omega)⟩,I,I⟩,?_⟩
     refine W.cn ?_
     conv=>whnf
     refine ⟨noT (dF (by omega)),fun _=>?_⟩
     refine W.skip ?_
     refine g 4 7 [] ?_
     conv=>whnf
     refine ⟨⟨I,I,⟨I,I⟩,I,I⟩,?_⟩
     refine W.ret ?_
     refine EndsW.rt ?_
     conv=>whnf
     refine ⟨⟨I,⟨I,I⟩,I,⟨I,I⟩,I⟩,?_⟩
     exact ⟨p,x,rfl,rfl,hmid,by omega,x2⟩
  ·by_cases g12:pickV L ((edrawP L (r + 1 + 1 + 1)).2 + 1) 12 = 0
   ·refine x_spec_DrawReplay ?_
    conv=>whnf
    refine g 0 0 [] ?_
    conv=>whnf
    refine ⟨⟨I,I,I⟩,?_⟩
    refine g 8 10 [.call (V.tup [V.tup (rdC L (0:Int))]) ([[]])] ?_
    conv=>whnf
    refine ⟨⟨I,⟨⟨I,I⟩,I,⟨⟨I,I⟩,I⟩,⟨I,I⟩,(by assumption)⟩,I,I⟩,?_⟩
    refine g 10 12 [.call (planO p) ([rdC L q])] ?_
    conv=>whnf
    refine ⟨⟨I,⟨⟨I,I⟩,I,⟨I,I⟩,⟨I,I⟩,(by assumption)⟩,I,⟨I,I⟩,I⟩,?_⟩
    refine g 12 15 [.call (V.own [false] (List.map strT H)) ([rdC L r,[V.own taskK (List.map taskT (Plan.tasks p))]])] ?_
    conv=>whnf
    refine ⟨⟨I,I,⟨⟨I,⟨I,I⟩,I⟩,I,⟨I,I,I⟩,⟨I,I⟩,(by assumption)⟩,I,I⟩,?_⟩
    refine g 15 19 [.call (V.i k) ([rdC L (r + (1:Int)),[]])] ?_
    conv=>whnf
    refine ⟨⟨I,I,I,⟨⟨I,I,I⟩,I,⟨I,⟨I,I⟩,I⟩,⟨I,I⟩,(by assumption)⟩,I,I⟩,?_⟩
    refine W.sq ?_
    by_cases h1:(0:Int) < (↑(List.length (List.map strT H)):Int)
    simp only [List.length_map] at h1
    refine g 19 22 [.b (true),.b (true),.call (V.i (pickV L (r + (1:Int)) (3:Int))) ([rdC L (r + (1:Int) + (1:Int)),[]]),.b (true),.b (true)] ?_
    conv=>whnf
    refine ⟨⟨I,I,I,I,⟨(by simp_all),I⟩,⟨(by simp_all),⟨I,I,I⟩,I,⟨I,⟨I,I⟩,I⟩,⟨I,I⟩,Go.K.c_spec_l1Rd_pick _ _ _ (by omega) (by omega) (by omega) (by omega)⟩,⟨(by simp_all),I⟩,(by simp_all),I⟩,?_⟩
    refine W.cn ?_
    conv=>whnf
    refine ⟨fun _=>?_,noF (dT (by omega))⟩
    refine g 23 28 [.call (V.i (pickV L (r + (1:Int) + (1:Int)) (4:Int))) ([rdC L (r + (1:Int) + (1:Int) + (1:Int)),[]])] ?_
    conv=>whnf
    refine ⟨⟨I,⟨⟨I,I,I⟩,I,⟨I,⟨I,I⟩,I⟩,⟨I,I⟩,Go.K.c_spec_l1Rd_pick _ _ _ (by omega) (by omega) (by omega) (by omega)⟩,I⟩,?_⟩
    refine W.blk ?_
    refine g 36 37 [] ?_
    conv=>whnf
    refine ⟨⟨I,I,I⟩,?_⟩
    refine W.cn ?_
    conv=>whnf
    refine ⟨noT (dF (by omega)),fun _=>?_⟩
    refine g 35 36 [] ?_
    conv=>whnf
    refine ⟨⟨I,I,I⟩,?_⟩
    refine W.cn ?_
    conv=>whnf
    refine ⟨noT (dF (by omega)),fun _=>?_⟩
    refine g 28 48 [] ?_
    conv=>whnf
    refine ⟨⟨I,I,I⟩,?_⟩
    refine W.cn ?_
    conv=>whnf
    refine ⟨noT (dF (by omega)),fun _=>?_⟩
    refine rg [.call (entryV (Entry.kind (Prod.fst (edrawP L (r + (1:Int) + (1:Int) + (1:Int))))) (Entry.epoch (Prod.fst (edrawP L (r + (1:Int) + (1:Int) + (1:Int))))) (Entry.task (Prod.fst (edrawP L (r + (1:Int) + (1:Int) + (1:Int))))) (Entry.text (Prod.fst (edrawP L (r + (1:Int) + (1:Int) + (1:Int)))))) ([rdC L (Prod.snd (edrawP L (r + (1:Int) + (1:Int) + (1:Int))))]),.call (V.s (formS (Prod.fst (edrawP L (r + (1:Int) + (1:Int) + (1:Int)))))) ([[]])] ?_
    conv=>whnf
    refine ⟨⟨I,I,⟨⟨I,I⟩,I,⟨I,I⟩,⟨I,I⟩,Go.K.c_spec_l4Draw _ _ (by omega) (by omega) (by omega)⟩,⟨⟨I,I⟩,I,⟨⟨I,I,I,I,I⟩,I⟩,⟨I,I⟩,(by assumption)⟩,⟨⟨I,I⟩,I⟩,⟨I,I,(by simp only [lens]; omega)⟩,I,I⟩,?_⟩
    refine W.sq ?_
    refine g 29 69 [.call (V.i (pickV L (Prod.snd (edrawP L (r + (1:Int) + (1:Int) + (1:Int)))) (40:Int))) ([rdC L (Prod.snd (edrawP L (r + (1:Int) + (1:Int) + (1:Int))) + (1:Int)),[]])] ?_
    conv=>whnf
    refine ⟨⟨I,⟨⟨I,I,I⟩,I,⟨I,⟨I,I⟩,I⟩,⟨I,I⟩,Go.K.c_spec_l1Rd_pick _ _ _ (by omega) (by omega) (by omega) (by omega)⟩,I,I⟩,?_⟩
    refine W.cn ?_
    conv=>whnf
    refine ⟨noT (dF (by omega)),fun _=>?_⟩
    refine W.skip ?_
    refine W.sq ?_
    refine g 69 78 [.call (V.i (pickV L (Prod.snd (edrawP L (r + (1:Int) + (1:Int) + (1:Int))) + (1:Int)) (12:Int))) ([rdC L (Prod.snd (edrawP L (r + (1:Int) + (1:Int) + (1:Int))) + (1:Int) + (1:Int)),[]])] ?_
    conv=>whnf
    refine ⟨⟨I,⟨⟨I,I,I⟩,I,⟨I,⟨I,I⟩,I⟩,⟨I,I⟩,Go.K.c_spec_l1Rd_pick _ _ _ (by omega) (by omega) (by omega) (by omega)⟩,I,I⟩,?_⟩
    refine W.cn ?_
    conv=>whnf
    refine ⟨fun _=>?_,noF (dT (by omega))⟩
    refine rg [.call (planO (Prod.fst (spoilP L (Prod.snd (edrawP L (r + (1:Int) + (1:Int) + (1:Int))) + (1:Int) + (1:Int)) p))) ([rdC L (Prod.snd (spoilP L (Prod.snd (edrawP L (r + (1:Int) + (1:Int) + (1:Int))) + (1:Int) + (1:Int)) p)),[]])] ?_
    conv=>whnf
    refine ⟨⟨I,I,⟨⟨I,⟨I,I⟩,I⟩,I,⟨I,I,I⟩,⟨I,I⟩,Go.K.c_spec_l1Spoil _ _ _ (by omega) (by omega) (by omega) (by omega)⟩,⟨I,I⟩,I⟩,?_⟩
    refine g 78 84 [] ?_
    conv=>whnf
    refine ⟨⟨I,I,⟨I,I⟩,I,I⟩,?_⟩
    refine W.ret ?_
    refine EndsW.rt ?_
    conv=>whnf
    refine ⟨⟨I,⟨I,I⟩,I,⟨I,I⟩,I⟩,?_⟩
    rotate_left 1
    simp only [List.length_map] at h1
    omega
    exact ⟨(spoilP L ((edrawP L (r + 1 + 1 + 1)).2 + 1 + 1) p).1,H ++ [formS (edrawP L (r + 1 + 1 + 1)).1],(by first | rfl | (simp only [List.map_set,List.map_append,List.map_take,List.map_drop,List.map_cons,List.map_nil,List.nil_append,List.drop_zero,List.take_length]; done) | (simp only [List.map_set,List.map_append,List.map_take,List.map_drop,List.map_cons,List.map_nil,List.nil_append,List.drop_zero,List.take_length]; rfl)),rfl,s1,by omega,hsz⟩
   ·refine x_spec_DrawReplay ?_
    conv=>whnf
    refine g 0 0 [] ?_
    conv=>whnf
    refine ⟨⟨I,I,I⟩,?_⟩
    refine g 8 10 [.call (V.tup [V.tup (rdC L (0:Int))]) ([[]])] ?_
    conv=>whnf
    refine ⟨⟨I,⟨⟨I,I⟩,I,⟨⟨I,I⟩,I⟩,⟨I,I⟩,(by assumption)⟩,I,I⟩,?_⟩
    refine g 10 12 [.call (planO p) ([rdC L q])] ?_
    conv=>whnf
    refine ⟨⟨I,⟨⟨I,I⟩,I,⟨I,I⟩,⟨I,I⟩,(by assumption)⟩,I,⟨I,I⟩,I⟩,?_⟩
    refine g 12 15 [.call (V.own [false] (List.map strT H)) ([rdC L r,[V.own taskK (List.map taskT (Plan.tasks p))]])] ?_
    conv=>whnf
    refine ⟨⟨I,I,⟨⟨I,⟨I,I⟩,I⟩,I,⟨I,I,I⟩,⟨I,I⟩,(by assumption)⟩,I,I⟩,?_⟩
    refine g 15 19 [.call (V.i k) ([rdC L (r + (1:Int)),[]])] ?_
    conv=>whnf
    refine ⟨⟨I,I,I,⟨⟨I,I,I⟩,I,⟨I,⟨I,I⟩,I⟩,⟨I,I⟩,(by assumption)⟩,I,I⟩,?_⟩
    refine W.sq ?_
    by_cases h1:(0:Int) < (↑(List.length (List.map strT H)):Int)
    simp only [List.length_map] at h1
    refine g 19 22 [.b (true),.b (true),.call (V.i (pickV L (r + (1:Int)) (3:Int))) ([rdC L (r + (1:Int) + (1:Int)),[]]),.b (true),.b (true)] ?_
    conv=>whnf
    refine ⟨⟨I,I,I,I,⟨(by simp_all),I⟩,⟨(by simp_all),⟨I,I,I⟩,I,⟨I,⟨I,I⟩,I⟩,⟨I,I⟩,Go.K.c_spec_l1Rd_pick _ _ _ (by omega) (by omega) (by omega) (by omega)⟩,⟨(by simp_all),I⟩,(by simp_all),I⟩,?_⟩
    refine W.cn ?_
    conv=>whnf
    refine ⟨fun _=>?_,noF (dT (by omega))⟩
    refine g 23 28 [.call (V.i (pickV L (r + (1:Int) + (1:Int)) (4:Int))) ([rdC L (r + (1:Int) + (1:Int) + (1:Int)),[]])] ?_
    conv=>whnf
    refine ⟨⟨I,⟨⟨I,I,I⟩,I,⟨I,⟨I,I⟩,I⟩,⟨I,I⟩,Go.K.c_spec_l1Rd_pick _ _ _ (by omega) (by omega) (by omega) (by omega)⟩,I⟩,?_⟩
    refine W.blk ?_
    refine g 36 37 [] ?_
    conv=>whnf
    refine ⟨⟨I,I,I⟩,?_⟩
    refine W.cn ?_
    conv=>whnf
    refine ⟨noT (dF (by omega)),fun _=>?_⟩
    refine g 35 36 [] ?_
    conv=>whnf
    refine ⟨⟨I,I,I⟩,?_⟩
    refine W.cn ?_
    conv=>whnf
    refine ⟨noT (dF (by omega)),fun _=>?_⟩
    refine g 28 48 [] ?_
    conv=>whnf
    refine ⟨⟨I,I,I⟩,?_⟩
    refine W.cn ?_
    conv=>whnf
    refine ⟨noT (dF (by omega)),fun _=>?_⟩
    refine rg [.call (entryV (Entry.kind (Prod.fst (edrawP L (r + (1:Int) + (1:Int) + (1:Int))))) (Entry.epoch (Prod.fst (edrawP L (r + (1:Int) + (1:Int) + (1:Int))))) (Entry.task (Prod.fst (edrawP L (r + (1:Int) + (1:Int) + (1:Int))))) (Entry.text (Prod.fst (edrawP L (r + (1:Int) + (1:Int) + (1:Int)))))) ([rdC L (Prod.snd (edrawP L (r + (1:Int) + (1:Int) + (1:Int))))]),.call (V.s (formS (Prod.fst (edrawP L (r + (1:Int) + (1:Int) + (1:Int)))))) ([[]])] ?_
    conv=>whnf
    refine ⟨⟨I,I,⟨⟨I,I⟩,I,⟨I,I⟩,⟨I,I⟩,Go.K.c_spec_l4Draw _ _ (by omega) (by omega) (by omega)⟩,⟨⟨I,I⟩,I,⟨⟨I,I,I,I,I⟩,I⟩,⟨I,I⟩,(by assumption)⟩,⟨⟨I,I⟩,I⟩,⟨I,I,(by simp only [lens]; omega)⟩,I,I⟩,?_⟩
    refine W.sq ?_
    refine g 29 69 [.call (V.i (pickV L (Prod.snd (edrawP L (r + (1:Int) + (1:Int) + (1:Int)))) (40:Int))) ([rdC L (Prod.snd (edrawP L (r + (1:Int) + (1:Int) + (1:Int))) + (1:Int)),[]])] ?_
    conv=>whnf
    refine ⟨⟨I,⟨⟨I,I,I⟩,I,⟨I,⟨I,I⟩,I⟩,⟨I,I⟩,Go.K.c_spec_l1Rd_pick _ _ _ (by omega) (by omega) (by omega) (by omega)⟩,I,I⟩,?_⟩
    refine W.cn ?_
    conv=>whnf
    refine ⟨noT (dF (by omega)),fun _=>?_⟩
    refine W.skip ?_
    refine W.sq ?_
    refine g 69 78 [.call (V.i (pickV L (Prod.snd (edrawP L (r + (1:Int) + (1:Int) + (1:Int))) + (1:Int)) (12:Int))) ([rdC L (Prod.snd (edrawP L (r + (1:Int) + (1:Int) + (1:Int))) + (1:Int) + (1:Int)),[]])] ?_
    conv=>whnf
    refine ⟨⟨I,⟨⟨I,I,I⟩,I,⟨I,⟨I,I⟩,I⟩,⟨I,I⟩,Go.K.c_spec_l1Rd_pick _ _ _ (by omega) (by omega) (by omega) (by omega)⟩,I,I⟩,?_⟩
    refine W.cn ?_
    conv=>whnf
    refine ⟨noT (dF (by omega)),fun _=>?_⟩
    refine W.skip ?_
    refine g 4 8 [] ?_
    conv=>whnf
    refine ⟨⟨I,I,⟨I,I⟩,I,I⟩,?_⟩
    refine W.ret ?_
    refine EndsW.rt ?_
    conv=>whnf
    refine ⟨⟨I,⟨I,I⟩,I,⟨I,I⟩,I⟩,?_⟩
    rotate_left 1
    simp only [List.length_map] at h1
    omega
    exact ⟨p,H ++ [formS (edrawP L (r + 1 + 1 + 1)).1],(by first | rfl | (simp only [List.map_set,List.map_append,List.map_take,List.map_drop,List.map_cons,List.map_nil,List.nil_append,List.drop_zero,List.take_length]; done) | (simp only [List.map_set,List.map_append,List.map_take,List.map_drop,List.map_cons,List.map_nil,List.nil_append,List.drop_zero,List.take_length]; rfl)),rfl,hmid,by omega,hsz⟩
end Go.K
end
section
set_option linter.unusedVariables false
set_option linter.unusedSimpArgs false
set_option maxHeartbeats 4000000
set_option maxRecDepth 20000
open Go Go.Tm Go.Proofs
namespace Go.K
attribute [local irreducible] ByteArray.extract
end Go.K
end
section
set_option linter.unusedVariables false
set_option linter.unusedSimpArgs false
open Go Go.Tm Go.Proofs
namespace Go.K
theorem byt_bl {hs:List Int} {r:ByteArray} {k:Nat} {x:Int} (hk:hs[k]? = some x) (hx:0 ≤ x ∧ x ≤ 255):byt (bl hs ++ r) k = x:=by
 obtain ⟨⟨l⟩⟩:=r
 have e:bl hs ++ ⟨⟨l⟩⟩ = ⟨⟨(hs.map fun n=>UInt8.ofNat n.toNat) ++ l⟩⟩:=by
  apply ByteArray.ext
  rw [ByteArray.data_append]
  apply Array.ext'
  simp [bl]
 have h1:((hs.map fun n=>UInt8.ofNat n.toNat) ++ l)[k]? = some (UInt8.ofNat x.toNat):=by
  rw [List.getElem?_append_left (by rw [List.length_map]; exact (List.getElem?_eq_some_iff.1 hk).1),List.getElem?_map,hk]; rfl
 rw [e,bytA h1]
 simp; omega
theorem ext_tail (a r:ByteArray):(a ++ r).extract a.size (a ++ r).size = r:=by
 have e:a.extract a.size (a.size + r.size) = emp:=ByteArray.size_eq_zero_iff.1 (by rw [ByteArray.size_extract]; omega)
 rw [ByteArray.size_append,ByteArray.extract_append,e,emp_l]
 simp
end Go.K
end
section
set_option linter.unusedVariables false
set_option linter.unusedSimpArgs false
set_option maxHeartbeats 4000000
set_option maxRecDepth 20000
open Go Go.Tm Go.Proofs
namespace Go.K
attribute [local irreducible] ByteArray.extract
end Go.K
end
section
set_option linter.unusedVariables false
set_option linter.unusedSimpArgs false
set_option maxHeartbeats 4000000
set_option maxRecDepth 20000
open Go Go.Tm Go.Proofs
namespace Go.K
attribute [local irreducible] ByteArray.extract
theorem c_laws_wList (xs ys:List ByteArray) (hl:xs.length ≤ 9223372036854775806):F n_laws_wList [.val (.t (strs xs)),.val (.t (strs ys))] (.b (decide (xs = ys))) [[],[]]:=by
 refine i_laws_wList ?_
 conv=>whnf
 refine g 0 0 [] ?_
 conv=>whnf
 refine ⟨⟨I,I⟩,?_⟩
 refine W.sq ?_
 refine g 6 10 [] ?_
 conv=>whnf
 refine ⟨⟨I,I,I,I,I,I⟩,?_⟩
 refine W.cn ?_
 conv=>whnf
 refine ⟨fun h1=>?_,fun h1=>?_⟩
 replace h1:=ndt h1
 simp only [List.length_map] at h1
 refine g 10 11 [] ?_
 conv=>whnf
 refine ⟨⟨I,I⟩,?_⟩
 refine W.ret ?_
 refine EndsW.rt ?_
 conv=>whnf
 refine ⟨⟨I,I,I⟩,?_,rfl⟩
 rotate_left 1
 replace h1:=ndf h1
 simp only [List.length_map] at h1
 refine W.skip ?_
 refine W.sq ?_
 refine g 10 11 [] ?_
 conv=>whnf
 refine ⟨⟨I,I⟩,?_⟩
 refine W.blk ?_
 rotate_left 1
 ·exact vbf (fun e=>h1 (by rw [e]))
 refine W.lp (fun s (n:Nat)=>⟨[(0,s.s 0),(1,s.s 1),(5,.i n)],[],[]⟩) (fun (n:Nat)=>n ≤ xs.length ∧ xs.take n = ys.take n) (fun (n:Nat)=>xs.length - n) (0) [] [] ⟨rfl,⟨rfl,rfl,rfl,I⟩,I,I⟩ (by simp) ?_
 rintro n ⟨hn,hc⟩
 conv=>whnf
 refine W.sq ?_
 refine g 11 14 [] ?_
 conv=>whnf
 refine ⟨⟨I,I,I,I,I⟩,?_⟩
 refine W.cn ?_
 conv=>whnf
 refine ⟨fun h2=>?_,fun h2=>?_⟩
 replace h2:=dt h2
 simp only [List.length_map] at h2
 refine W.skip ?_
 refine W.sq ?_
 refine W.blk ?_
 obtain ⟨y1,hy1⟩:=some_at (xs:=xs) (n:=n) (by omega)
 obtain ⟨y2,hy2⟩:=some_at (xs:=ys) (n:=n) (by omega)
 refine gd 14 25 [[],[],[.x (strT y1)],[],[],[],[.x (strT y2)],[],[]] ?_
 conv=>whnf
 refine ⟨⟨I,I,⟨(by omega),ixl (by assumption)⟩,I,I,I,⟨(by omega),ixl (by assumption)⟩,I,I,I⟩,by kernel_rfl,?_⟩
 refine W.cn ?_
 conv=>whnf
 refine ⟨fun h3=>?_,fun h3=>?_⟩
 replace h3:=ndt h3
 refine g 25 26 [] ?_
 conv=>whnf
 refine ⟨⟨I,I⟩,?_⟩
 refine W.ret ?_
 refine EndsW.rt ?_
 conv=>whnf
 refine ⟨⟨I,I,I⟩,?_,rfl⟩
 rotate_left 1
 replace h3:=ndf h3
 refine W.skip ?_
 refine rg [.i ((↑n:Int) + (1:Int))] ?_
 conv=>whnf
 refine ⟨⟨I,w64 (by omega) (by omega),I,I⟩,?_⟩
 rotate_left 1
 replace h2:=df h2
 simp only [List.length_map] at h2
 refine W.exit ?_
 refine g 0 2 [] ?_
 conv=>whnf
 refine ⟨⟨I,I⟩,?_⟩
 refine W.ret ?_
 refine EndsW.rt ?_
 conv=>whnf
 refine ⟨⟨I,I,I⟩,?_,rfl⟩
 rotate_left 1
 ·exact vbf (fun e=>by subst e; rw [hy1] at hy2; cases hy2; exact h3 rfl)
 ·refine ⟨n + 1,[],[],⟨rfl,⟨rfl,rfl,rfl,I⟩,I,I⟩,?_,?_⟩
  rotate_left 1
  (dsimp only; omega)
  dsimp only
  exact ⟨by omega,take_eq hc hy1 (by rw [hy2]; exact congrArg some (Eq.symm h3))⟩
 ·exact vbt (by rw [take_all (by omega),take_all (by omega)] at hc; exact hc)
end Go.K
end
section
set_option linter.unusedVariables false
set_option linter.unusedSimpArgs false
set_option maxHeartbeats 4000000
set_option maxRecDepth 20000
open Go Go.Tm Go.Proofs
namespace Go.K
theorem replayP_len (p:Plan) (xs:List ByteArray):(replayP p xs).results.length ≤ 40:=by
 unfold replayP
 by_cases h:checkPlan p.tasks = 0 ∧ xs.length ≤ 310
 ·rw [if_pos h]
  cases hr:runR p.tasks (some (tale0 p.tasks)) xs with
  | none=>exact Nat.zero_le _
  | some t =>
    have:=runR_len p.tasks xs _ _ hr
    rw [tale0,List.length_replicate] at this
    have:=(chk_inv h.1).1.2
    show t.results.length ≤ 40
    omega
 ·rw [if_neg h]; exact Nat.zero_le _
end Go.K
end
section
set_option linter.unusedVariables false
set_option linter.unusedSimpArgs false
set_option maxHeartbeats 8000000
set_option maxRecDepth 20000
open Go Go.Tm Go.Proofs
namespace Go.K
theorem form_rd {e:Entry} (h:e.ok):rdS (formS e) = e:=by
 have hok:=h
 obtain ⟨⟨h1,h2⟩,⟨h3,h4⟩,h5⟩:=h
 have hk:1 ≤ e.kind ∧ e.kind ≤ 2:=by rcases h5 with q | q <;> (have:=q.1; omega)
 have d1:e.epoch.tdiv 256 = e.epoch / 256:=Int.tdiv_eq_ediv_of_nonneg (by omega)
 have d2:e.epoch.tmod 256 = e.epoch % 256:=Int.tmod_eq_emod_of_nonneg (by omega)
 have hf:formS e = bl [e.kind,e.epoch / 256,e.epoch % 256,e.task] ++ e.text:=by
  rw [formS,if_pos hok,d1,d2,w64 (by omega) (by omega),wu8 (by omega) (by omega),wu8 (by omega) (by omega),wu8 (by omega) (by omega),wu8 (by omega) (by omega)]
 have hl:(bl [e.kind,e.epoch / 256,e.epoch % 256,e.task]).size = 4:=by rw [bl_size]; rfl
 have hx:(formS e).extract 4 (formS e).size = e.text:=by rw [hf,← hl]; exact ext_tail _ _
 have b:∀ (k:Nat) (x:Int),([e.kind,e.epoch / 256,e.epoch % 256,e.task])[k]? = some x → 0 ≤ x ∧ x ≤ 255 → byt (formS e) k = x:=fun k x hk hx=>by rw [hf]; exact byt_bl hk hx
 have k0:=b 0 e.kind rfl ⟨by omega,by omega⟩
 have k1:=b 1 (e.epoch / 256) rfl ⟨by omega,by omega⟩
 have k2:=b 2 (e.epoch % 256) rfl ⟨by omega,by omega⟩
 have k3:=b 3 e.task rfl ⟨by omega,by omega⟩
 unfold rdS
 rw [k0,k1,k2,k3,hx,show e.epoch / 256 * 256 + e.epoch % 256 = e.epoch by omega]
theorem form_size {e:Entry} (h:e.ok):(formS e).size = 4 + e.text.size:=by
 rw [formS,if_pos h,ByteArray.size_append,bl_size]; rfl
theorem readS_form {e:Entry} (h:e.ok):readS (formS e) = some e:=by
 have:=form_size h
 rw [readS,if_neg (by omega),form_rd h,if_pos rfl]
theorem readS_back {s:ByteArray} {e:Entry} (h:readS s = some e):formS e = s:=by
 unfold readS at h
 split at h
 ·cases h
 ·split at h
  ·cases h; assumption
  ·cases h
theorem l_FnEntries (l:List Int) (hlen:l.length ≤ 9223372036854775807) (h8:∀ x ∈ l,0 ≤ x ∧ x ≤ 255):F n_laws_FnEntries [.val (.t (u8s l))] (.b true) [[]]:=by
 by_cases h:l.length ≤ 1048576
 ·obtain ⟨res,outs,⟨k,ep,ta,tx,rfl,rfl,t1⟩,hD⟩:=ex_DrawFE l h h8
  obtain ⟨res,outs,⟨t,rfl,rfl,t2⟩,hR⟩:=ex_DrawRE l h h8
  obtain ⟨res,outs,⟨p,xs,rfl,rfl,⟨r1,r2,r3⟩⟩,hP⟩:=ex_DrawRP l h h8
  have wf:=mid_wf r1
  have f1:=c_impl_FormEntry k ep ta tx (by omega)
  rw [form_eq] at f1
  have f2:=c_spec_FormEntry k ep ta tx (by omega)
  have y1:=c_impl_ReadEntry t (by omega)
  rw [read_eq] at y1
  have y2:=c_spec_ReadEntry t (by omega)
  have p1:=c_impl_Replay p xs wf (fun s hs=>by have:=r3 s hs; omega) (by omega)
  have p2:=c_spec_Replay p xs wf (fun s hs=>by have:=r3 s hs; omega) (by omega)
  have hrl:=replayP_len p xs
  have wl:=c_laws_wList (replayP p xs).results (replayP p xs).results (by omega)
  rw [decide_eq_true rfl] at wl
  by_cases hok:Entry.ok ⟨k,ep,ta,tx⟩
  ·have hs:=form_size hok
   have hne:¬ formS ⟨k,ep,ta,tx⟩ = emp:=fun q=>by rw [q] at hs; have:emp.size = 0:=rfl; omega
   have x1:=c_impl_ReadEntry (formS ⟨k,ep,ta,tx⟩) (by dsimp only at hs; omega)
   rw [read_eq,readS_form hok] at x1
   change F n_impl_ReadEntry [.val (.s (formS ⟨k,ep,ta,tx⟩))] (.tup [entryV k ep ta tx,.b true]) [[]] at x1
   cases hr:readS t with
   | none =>
     rw [hr] at y1 y2
     refine i_laws_FnEntries ?_
     conv=>whnf
     refine g 0 0 [] ?_
     conv=>whnf
     refine ⟨⟨I,I⟩,?_⟩
     refine W.sq ?_
     refine g 16 18 [] ?_
     conv=>whnf
     refine ⟨⟨I,I,I,I⟩,?_⟩
     refine W.cn ?_
     conv=>whnf
     refine ⟨fun h1=>?_,fun h1=>?_⟩
     replace h1:=dt h1
     simp only [List.length_map] at h1
     omega
     replace h1:=df h1
     simp only [List.length_map] at h1
     refine W.skip ?_
     refine g 18 21 [.call (entryV k ep ta tx) ([[]])] ?_
     conv=>whnf
     refine ⟨⟨I,⟨⟨I,I⟩,I,⟨⟨I,I⟩,I⟩,⟨I,I⟩,(by assumption)⟩,I,⟨I,I,I,I,I⟩,I⟩,?_⟩
     refine g 21 23 [.call (V.s (formS { kind:=k,epoch:=ep,task:=ta,text:=tx:Entry })) ([[]])] ?_
     conv=>whnf
     refine ⟨⟨I,⟨⟨I,I⟩,I,⟨⟨I,I,I,I,I⟩,I⟩,⟨I,I⟩,(by assumption)⟩,I,I⟩,?_⟩
     refine W.sq ?_
     refine g 23 26 [.call (V.s (formS { kind:=k,epoch:=ep,task:=ta,text:=tx:Entry })) ([[]])] ?_
     conv=>whnf
     refine ⟨⟨I,I,⟨⟨I,I⟩,I,⟨⟨I,I,I,I,I⟩,I⟩,⟨I,I⟩,(by assumption)⟩,I,I⟩,?_⟩
     refine W.cn ?_
     conv=>whnf
     refine ⟨noT (notF rfl),fun _=>?_⟩
     refine W.skip ?_
     refine W.sq ?_
     refine g 26 28 [] ?_
     conv=>whnf
     refine ⟨⟨I,I,I⟩,?_⟩
     refine W.cn ?_
     conv=>whnf
     refine ⟨fun _=>?_,noF (notT (by omega))⟩
     refine g 28 34 [.call (V.tup [entryV k ep ta tx,V.b true]) ([[]])] ?_
     conv=>whnf
     refine ⟨⟨I,⟨⟨I,I⟩,I,⟨⟨I,I⟩,I⟩,⟨I,I⟩,(by assumption)⟩,I,I,I,I,⟨I,I,I,I,I⟩,I,I⟩,?_⟩
     refine g 6 40 [.b (false),.b (false),.b (false),.b (true),.b (false)] ?_
     conv=>whnf
     refine ⟨⟨I,I,I,⟨rfl,I⟩,⟨rfl,I⟩,⟨rfl,by simp [*]⟩,rfl,I⟩,?_⟩
     refine W.cn ?_
     conv=>whnf
     refine ⟨noT (rfl),fun _=>?_⟩
     refine W.skip ?_
     refine g 40 43 [.call (V.s t) ([[]])] ?_
     conv=>whnf
     refine ⟨⟨I,⟨⟨I,I⟩,I,⟨⟨I,I⟩,I⟩,⟨I,I⟩,(by assumption)⟩,I,I⟩,?_⟩
     refine g 43 48 [.call (tupE none) ([[]])] ?_
     conv=>whnf
     refine ⟨⟨I,⟨⟨I,I⟩,I,⟨⟨I,I⟩,I⟩,⟨I,I⟩,(by assumption)⟩,I,I,I,I,⟨I,I,I,I,I⟩,I,I⟩,?_⟩
     refine g 48 53 [.call (tupE none) ([[]])] ?_
     conv=>whnf
     refine ⟨⟨I,⟨⟨I,I⟩,I,⟨⟨I,I⟩,I⟩,⟨I,I⟩,(by assumption)⟩,I,I,I,I,⟨I,I,I,I,I⟩,I,I⟩,?_⟩
     refine W.sq ?_
     refine g 7 64 [.b (false),.b (false),.b (false),.b (false),.b (false),.b (false),.b (false),.b (false),.b (false)] ?_
     conv=>whnf
     refine ⟨⟨I,I,I,I,⟨rfl,I⟩,⟨rfl,I⟩,rfl,rfl,rfl,rfl,⟨rfl,rfl⟩,rfl,I⟩,?_⟩
     refine W.cn ?_
     conv=>whnf
     refine ⟨noT (rfl),fun _=>?_⟩
     refine W.skip ?_
     refine g 64 70 [.call (V.tup [planO p,V.own [false] (List.map strT xs)]) ([[]])] ?_
     conv=>whnf
     refine ⟨⟨I,⟨⟨I,I⟩,I,⟨⟨I,I⟩,I⟩,⟨I,I⟩,(by assumption)⟩,I,I,I,I,⟨I,I⟩,I,I⟩,?_⟩
     refine g 70 73 [.call (storyO (replayP p xs)) ([[],[]])] ?_
     conv=>whnf
     refine ⟨⟨I,I,⟨⟨I,I,I⟩,I,⟨⟨I,I⟩,⟨I,I⟩,I⟩,⟨I,I⟩,(by assumption)⟩,I,⟨I,I,I,I⟩,I⟩,?_⟩
     refine g 73 76 [.call (storyO (replayP p xs)) ([[],[]])] ?_
     conv=>whnf
     refine ⟨⟨I,I,⟨⟨I,I,I⟩,I,⟨⟨I,I⟩,⟨I,I⟩,I⟩,⟨I,I⟩,(by assumption)⟩,I,⟨I,I,I,I⟩,I⟩,?_⟩
     refine g 5 95 [.b (true),.b (true),.b (true),.b (true),.b (true),.b (true),.b (true),.b (true),.b (true),.b (true),.b (true),.call (V.b true) ([[],[]]),.b (true)] ?_
     conv=>whnf
     refine ⟨⟨I,I,I,I,I,I,⟨dT (by omega),I⟩,⟨dT (by omega),I⟩,⟨dT (by omega),I⟩,⟨dT (by omega),I⟩,⟨dT (by omega),I⟩,dT (by omega),I,⟨dT (by omega),I⟩,⟨dT (by omega),I⟩,⟨dT (by omega),I⟩,⟨dT (by omega),I⟩,⟨dT (by omega),⟨I,I,I⟩,I,⟨⟨I,I⟩,⟨I,I⟩,I⟩,⟨I,I⟩,(by assumption)⟩,dT (by omega),I,I⟩,?_⟩
     refine W.ret ?_
     refine EndsW.rt ?_
     conv=>whnf
     refine ⟨⟨I,I,I⟩,?_,rfl⟩
     rfl
   | some e =>
     rw [hr] at y1 y2
     have hb:=readS_back hr
     have z1:=c_impl_FormEntry e.kind e.epoch e.task e.text (by have:=readS_rng hr; obtain ⟨_,_,q⟩:=this; rcases q with q | q; rw [q.2.2]; decide; omega)
     rw [form_eq] at z1
     change F n_impl_FormEntry _ (.s (formS e)) _ at z1
     rw [hb] at z1
     refine i_laws_FnEntries ?_
     conv=>whnf
     refine g 0 0 [] ?_
     conv=>whnf
     refine ⟨⟨I,I⟩,?_⟩
     refine W.sq ?_
     refine g 16 18 [] ?_
     conv=>whnf
     refine ⟨⟨I,I,I,I⟩,?_⟩
     refine W.cn ?_
     conv=>whnf
     refine ⟨fun h1=>?_,fun h1=>?_⟩
     replace h1:=dt h1
     simp only [List.length_map] at h1
     omega
     replace h1:=df h1
     simp only [List.length_map] at h1
     refine W.skip ?_
     refine g 18 21 [.call (entryV k ep ta tx) ([[]])] ?_
     conv=>whnf
     refine ⟨⟨I,⟨⟨I,I⟩,I,⟨⟨I,I⟩,I⟩,⟨I,I⟩,(by assumption)⟩,I,⟨I,I,I,I,I⟩,I⟩,?_⟩
     refine g 21 23 [.call (V.s (formS { kind:=k,epoch:=ep,task:=ta,text:=tx:Entry })) ([[]])] ?_
     conv=>whnf
     refine ⟨⟨I,⟨⟨I,I⟩,I,⟨⟨I,I,I,I,I⟩,I⟩,⟨I,I⟩,(by assumption)⟩,I,I⟩,?_⟩
     refine W.sq ?_
     refine g 23 26 [.call (V.s (formS { kind:=k,epoch:=ep,task:=ta,text:=tx:Entry })) ([[]])] ?_
     conv=>whnf
     refine ⟨⟨I,I,⟨⟨I,I⟩,I,⟨⟨I,I,I,I,I⟩,I⟩,⟨I,I⟩,(by assumption)⟩,I,I⟩,?_⟩
     refine W.cn ?_
     conv=>whnf
     refine ⟨noT (notF rfl),fun _=>?_⟩
     refine W.skip ?_
     refine W.sq ?_
     refine g 26 28 [] ?_
     conv=>whnf
     refine ⟨⟨I,I,I⟩,?_⟩
     refine W.cn ?_
     conv=>whnf
     refine ⟨fun _=>?_,noF (notT (by omega))⟩
     refine g 28 34 [.call (V.tup [entryV k ep ta tx,V.b true]) ([[]])] ?_
     conv=>whnf
     refine ⟨⟨I,⟨⟨I,I⟩,I,⟨⟨I,I⟩,I⟩,⟨I,I⟩,(by assumption)⟩,I,I,I,I,⟨I,I,I,I,I⟩,I,I⟩,?_⟩
     refine g 6 40 [.b (false),.b (false),.b (false),.b (true),.b (false)] ?_
     conv=>whnf
     refine ⟨⟨I,I,I,⟨rfl,I⟩,⟨rfl,I⟩,⟨rfl,by simp [*]⟩,rfl,I⟩,?_⟩
     refine W.cn ?_
     conv=>whnf
     refine ⟨noT (rfl),fun _=>?_⟩
     refine W.skip ?_
     refine g 40 43 [.call (V.s t) ([[]])] ?_
     conv=>whnf
     refine ⟨⟨I,⟨⟨I,I⟩,I,⟨⟨I,I⟩,I⟩,⟨I,I⟩,(by assumption)⟩,I,I⟩,?_⟩
     refine g 43 48 [.call (tupE (some e)) ([[]])] ?_
     conv=>whnf
     refine ⟨⟨I,⟨⟨I,I⟩,I,⟨⟨I,I⟩,I⟩,⟨I,I⟩,(by assumption)⟩,I,I,I,I,⟨I,I,I,I,I⟩,I,I⟩,?_⟩
     refine g 48 53 [.call (tupE (some e)) ([[]])] ?_
     conv=>whnf
     refine ⟨⟨I,⟨⟨I,I⟩,I,⟨⟨I,I⟩,I⟩,⟨I,I⟩,(by assumption)⟩,I,I,I,I,⟨I,I,I,I,I⟩,I,I⟩,?_⟩
     refine W.sq ?_
     refine g 7 64 [.b (false),.b (false),.b (true),.b (true),.call (V.s t) ([[]]),.b (true),.b (true),.b (false),.b (true),.b (false)] ?_
     conv=>whnf
     refine ⟨⟨I,I,I,I,⟨rfl,I⟩,⟨rfl,I⟩,⟨rfl,I⟩,⟨rfl,⟨I,I⟩,I,⟨⟨I,I,I,I,I⟩,I⟩,⟨I,I⟩,(by assumption)⟩,⟨rfl,I⟩,⟨rfl,I⟩,⟨rfl,rfl⟩,rfl,I⟩,?_⟩
     refine W.cn ?_
     conv=>whnf
     refine ⟨noT (notF rfl),fun _=>?_⟩
     refine W.skip ?_
     refine g 64 70 [.call (V.tup [planO p,V.own [false] (List.map strT xs)]) ([[]])] ?_
     conv=>whnf
     refine ⟨⟨I,⟨⟨I,I⟩,I,⟨⟨I,I⟩,I⟩,⟨I,I⟩,(by assumption)⟩,I,I,I,I,⟨I,I⟩,I,I⟩,?_⟩
     refine g 70 73 [.call (storyO (replayP p xs)) ([[],[]])] ?_
     conv=>whnf
     refine ⟨⟨I,I,⟨⟨I,I,I⟩,I,⟨⟨I,I⟩,⟨I,I⟩,I⟩,⟨I,I⟩,(by assumption)⟩,I,⟨I,I,I,I⟩,I⟩,?_⟩
     refine g 73 76 [.call (storyO (replayP p xs)) ([[],[]])] ?_
     conv=>whnf
     refine ⟨⟨I,I,⟨⟨I,I,I⟩,I,⟨⟨I,I⟩,⟨I,I⟩,I⟩,⟨I,I⟩,(by assumption)⟩,I,⟨I,I,I,I⟩,I⟩,?_⟩
     refine g 5 95 [.b (true),.b (true),.b (true),.b (true),.b (true),.b (true),.b (true),.b (true),.b (true),.b (true),.b (true),.call (V.b true) ([[],[]]),.b (true)] ?_
     conv=>whnf
     refine ⟨⟨I,I,I,I,I,I,⟨dT (by omega),I⟩,⟨dT (by omega),I⟩,⟨dT (by omega),I⟩,⟨dT (by omega),I⟩,⟨dT (by omega),I⟩,dT (by omega),I,⟨dT (by omega),I⟩,⟨dT (by omega),I⟩,⟨dT (by omega),I⟩,⟨dT (by omega),I⟩,⟨dT (by omega),⟨I,I,I⟩,I,⟨⟨I,I⟩,⟨I,I⟩,I⟩,⟨I,I⟩,(by assumption)⟩,dT (by omega),I,I⟩,?_⟩
     refine W.ret ?_
     refine EndsW.rt ?_
     conv=>whnf
     refine ⟨⟨I,I,I⟩,?_,rfl⟩
     rfl
  ·have hne:formS ⟨k,ep,ta,tx⟩ = emp:=if_neg hok
   rw [hne] at f1 f2
   cases hr:readS t with
   | none =>
     rw [hr] at y1 y2
     refine i_laws_FnEntries ?_
     conv=>whnf
     refine g 0 0 [] ?_
     conv=>whnf
     refine ⟨⟨I,I⟩,?_⟩
     refine W.sq ?_
     refine g 16 18 [] ?_
     conv=>whnf
     refine ⟨⟨I,I,I,I⟩,?_⟩
     refine W.cn ?_
     conv=>whnf
     refine ⟨fun h1=>?_,fun h1=>?_⟩
     replace h1:=dt h1
     simp only [List.length_map] at h1
     omega
     replace h1:=df h1
     simp only [List.length_map] at h1
     refine W.skip ?_
     refine g 18 21 [.call (entryV k ep ta tx) ([[]])] ?_
     conv=>whnf
     refine ⟨⟨I,⟨⟨I,I⟩,I,⟨⟨I,I⟩,I⟩,⟨I,I⟩,(by assumption)⟩,I,⟨I,I,I,I,I⟩,I⟩,?_⟩
     refine g 21 23 [.call (V.s emp) ([[]])] ?_
     conv=>whnf
     refine ⟨⟨I,⟨⟨I,I⟩,I,⟨⟨I,I,I,I,I⟩,I⟩,⟨I,I⟩,(by assumption)⟩,I,I⟩,?_⟩
     refine W.sq ?_
     refine g 23 26 [.call (V.s emp) ([[]])] ?_
     conv=>whnf
     refine ⟨⟨I,I,⟨⟨I,I⟩,I,⟨⟨I,I,I,I,I⟩,I⟩,⟨I,I⟩,(by assumption)⟩,I,I⟩,?_⟩
     refine W.cn ?_
     conv=>whnf
     refine ⟨noT (rfl),fun _=>?_⟩
     refine W.skip ?_
     refine W.sq ?_
     refine g 26 28 [] ?_
     conv=>whnf
     refine ⟨⟨I,I,I⟩,?_⟩
     refine W.cn ?_
     conv=>whnf
     refine ⟨noT (rfl),fun _=>?_⟩
     refine W.skip ?_
     refine g 28 43 [.call (V.s t) ([[]])] ?_
     conv=>whnf
     refine ⟨⟨I,⟨⟨I,I⟩,I,⟨⟨I,I⟩,I⟩,⟨I,I⟩,(by assumption)⟩,I,I⟩,?_⟩
     refine g 43 48 [.call (tupE none) ([[]])] ?_
     conv=>whnf
     refine ⟨⟨I,⟨⟨I,I⟩,I,⟨⟨I,I⟩,I⟩,⟨I,I⟩,(by assumption)⟩,I,I,I,I,⟨I,I,I,I,I⟩,I,I⟩,?_⟩
     refine g 48 53 [.call (tupE none) ([[]])] ?_
     conv=>whnf
     refine ⟨⟨I,⟨⟨I,I⟩,I,⟨⟨I,I⟩,I⟩,⟨I,I⟩,(by assumption)⟩,I,I,I,I,⟨I,I,I,I,I⟩,I,I⟩,?_⟩
     refine W.sq ?_
     refine g 7 64 [.b (false),.b (false),.b (false),.b (false),.b (false),.b (false),.b (false),.b (false),.b (false)] ?_
     conv=>whnf
     refine ⟨⟨I,I,I,I,⟨rfl,I⟩,⟨rfl,I⟩,rfl,rfl,rfl,rfl,⟨rfl,rfl⟩,rfl,I⟩,?_⟩
     refine W.cn ?_
     conv=>whnf
     refine ⟨noT (rfl),fun _=>?_⟩
     refine W.skip ?_
     refine g 64 70 [.call (V.tup [planO p,V.own [false] (List.map strT xs)]) ([[]])] ?_
     conv=>whnf
     refine ⟨⟨I,⟨⟨I,I⟩,I,⟨⟨I,I⟩,I⟩,⟨I,I⟩,(by assumption)⟩,I,I,I,I,⟨I,I⟩,I,I⟩,?_⟩
     refine g 70 73 [.call (storyO (replayP p xs)) ([[],[]])] ?_
     conv=>whnf
     refine ⟨⟨I,I,⟨⟨I,I,I⟩,I,⟨⟨I,I⟩,⟨I,I⟩,I⟩,⟨I,I⟩,(by assumption)⟩,I,⟨I,I,I,I⟩,I⟩,?_⟩
     refine g 73 76 [.call (storyO (replayP p xs)) ([[],[]])] ?_
     conv=>whnf
     refine ⟨⟨I,I,⟨⟨I,I,I⟩,I,⟨⟨I,I⟩,⟨I,I⟩,I⟩,⟨I,I⟩,(by assumption)⟩,I,⟨I,I,I,I⟩,I⟩,?_⟩
     refine g 12 95 [.b (true),.b (true),.b (true),.b (true),.b (true),.b (true),.b (true),.b (true),.b (true),.b (true),.b (true),.call (V.b true) ([[],[]]),.b (true)] ?_
     conv=>whnf
     refine ⟨⟨I,I,I,I,I,I,⟨dT (by omega),I⟩,⟨dT (by omega),I⟩,⟨dT (by omega),I⟩,⟨dT (by omega),I⟩,⟨dT (by omega),I⟩,dT (by omega),I,⟨dT (by omega),I⟩,⟨dT (by omega),I⟩,⟨dT (by omega),I⟩,⟨dT (by omega),I⟩,⟨dT (by omega),⟨I,I,I⟩,I,⟨⟨I,I⟩,⟨I,I⟩,I⟩,⟨I,I⟩,(by assumption)⟩,dT (by omega),I,I⟩,?_⟩
     refine W.ret ?_
     refine EndsW.rt ?_
     conv=>whnf
     refine ⟨⟨I,I,I⟩,?_,rfl⟩
     rfl
   | some e =>
     rw [hr] at y1 y2
     have hb:=readS_back hr
     have z1:=c_impl_FormEntry e.kind e.epoch e.task e.text (by have:=readS_rng hr; obtain ⟨_,_,q⟩:=this; rcases q with q | q; rw [q.2.2]; decide; omega)
     rw [form_eq] at z1
     change F n_impl_FormEntry _ (.s (formS e)) _ at z1
     rw [hb] at z1
     refine i_laws_FnEntries ?_
     conv=>whnf
     refine g 0 0 [] ?_
     conv=>whnf
     refine ⟨⟨I,I⟩,?_⟩
     refine W.sq ?_
     refine g 16 18 [] ?_
     conv=>whnf
     refine ⟨⟨I,I,I,I⟩,?_⟩
     refine W.cn ?_
     conv=>whnf
     refine ⟨fun h1=>?_,fun h1=>?_⟩
     replace h1:=dt h1
     simp only [List.length_map] at h1
     omega
     replace h1:=df h1
     simp only [List.length_map] at h1
     refine W.skip ?_
     refine g 18 21 [.call (entryV k ep ta tx) ([[]])] ?_
     conv=>whnf
     refine ⟨⟨I,⟨⟨I,I⟩,I,⟨⟨I,I⟩,I⟩,⟨I,I⟩,(by assumption)⟩,I,⟨I,I,I,I,I⟩,I⟩,?_⟩
     refine g 21 23 [.call (V.s emp) ([[]])] ?_
     conv=>whnf
     refine ⟨⟨I,⟨⟨I,I⟩,I,⟨⟨I,I,I,I,I⟩,I⟩,⟨I,I⟩,(by assumption)⟩,I,I⟩,?_⟩
     refine W.sq ?_
     refine g 23 26 [.call (V.s emp) ([[]])] ?_
     conv=>whnf
     refine ⟨⟨I,I,⟨⟨I,I⟩,I,⟨⟨I,I,I,I,I⟩,I⟩,⟨I,I⟩,(by assumption)⟩,I,I⟩,?_⟩
     refine W.cn ?_
     conv=>whnf
     refine ⟨noT (rfl),fun _=>?_⟩
     refine W.skip ?_
     refine W.sq ?_
     refine g 26 28 [] ?_
     conv=>whnf
     refine ⟨⟨I,I,I⟩,?_⟩
     refine W.cn ?_
     conv=>whnf
     refine ⟨noT (rfl),fun _=>?_⟩
     refine W.skip ?_
     refine g 28 43 [.call (V.s t) ([[]])] ?_
     conv=>whnf
     refine ⟨⟨I,⟨⟨I,I⟩,I,⟨⟨I,I⟩,I⟩,⟨I,I⟩,(by assumption)⟩,I,I⟩,?_⟩
     refine g 43 48 [.call (tupE (some e)) ([[]])] ?_
     conv=>whnf
     refine ⟨⟨I,⟨⟨I,I⟩,I,⟨⟨I,I⟩,I⟩,⟨I,I⟩,(by assumption)⟩,I,I,I,I,⟨I,I,I,I,I⟩,I,I⟩,?_⟩
     refine g 48 53 [.call (tupE (some e)) ([[]])] ?_
     conv=>whnf
     refine ⟨⟨I,⟨⟨I,I⟩,I,⟨⟨I,I⟩,I⟩,⟨I,I⟩,(by assumption)⟩,I,I,I,I,⟨I,I,I,I,I⟩,I,I⟩,?_⟩
     refine W.sq ?_
     refine g 7 64 [.b (false),.b (false),.b (true),.b (true),.call (V.s t) ([[]]),.b (true),.b (true),.b (false),.b (true),.b (false)] ?_
     conv=>whnf
     refine ⟨⟨I,I,I,I,⟨rfl,I⟩,⟨rfl,I⟩,⟨rfl,I⟩,⟨rfl,⟨I,I⟩,I,⟨⟨I,I,I,I,I⟩,I⟩,⟨I,I⟩,(by assumption)⟩,⟨rfl,I⟩,⟨rfl,I⟩,⟨rfl,rfl⟩,rfl,I⟩,?_⟩
     refine W.cn ?_
     conv=>whnf
     refine ⟨noT (notF rfl),fun _=>?_⟩
     refine W.skip ?_
     refine g 64 70 [.call (V.tup [planO p,V.own [false] (List.map strT xs)]) ([[]])] ?_
     conv=>whnf
     refine ⟨⟨I,⟨⟨I,I⟩,I,⟨⟨I,I⟩,I⟩,⟨I,I⟩,(by assumption)⟩,I,I,I,I,⟨I,I⟩,I,I⟩,?_⟩
     refine g 70 73 [.call (storyO (replayP p xs)) ([[],[]])] ?_
     conv=>whnf
     refine ⟨⟨I,I,⟨⟨I,I,I⟩,I,⟨⟨I,I⟩,⟨I,I⟩,I⟩,⟨I,I⟩,(by assumption)⟩,I,⟨I,I,I,I⟩,I⟩,?_⟩
     refine g 73 76 [.call (storyO (replayP p xs)) ([[],[]])] ?_
     conv=>whnf
     refine ⟨⟨I,I,⟨⟨I,I,I⟩,I,⟨⟨I,I⟩,⟨I,I⟩,I⟩,⟨I,I⟩,(by assumption)⟩,I,⟨I,I,I,I⟩,I⟩,?_⟩
     refine g 12 95 [.b (true),.b (true),.b (true),.b (true),.b (true),.b (true),.b (true),.b (true),.b (true),.b (true),.b (true),.call (V.b true) ([[],[]]),.b (true)] ?_
     conv=>whnf
     refine ⟨⟨I,I,I,I,I,I,⟨dT (by omega),I⟩,⟨dT (by omega),I⟩,⟨dT (by omega),I⟩,⟨dT (by omega),I⟩,⟨dT (by omega),I⟩,dT (by omega),I,⟨dT (by omega),I⟩,⟨dT (by omega),I⟩,⟨dT (by omega),I⟩,⟨dT (by omega),I⟩,⟨dT (by omega),⟨I,I,I⟩,I,⟨⟨I,I⟩,⟨I,I⟩,I⟩,⟨I,I⟩,(by assumption)⟩,dT (by omega),I,I⟩,?_⟩
     refine W.ret ?_
     refine EndsW.rt ?_
     conv=>whnf
     refine ⟨⟨I,I,I⟩,?_,rfl⟩
     rfl
 ·refine i_laws_FnEntries ?_
  conv=>whnf
  refine g 0 0 [] ?_
  conv=>whnf
  refine ⟨⟨I,I⟩,?_⟩
  refine W.sq ?_
  refine g 16 18 [] ?_
  conv=>whnf
  refine ⟨⟨I,I,I,I⟩,?_⟩
  refine W.cn ?_
  conv=>whnf
  refine ⟨fun h1=>?_,fun h1=>?_⟩
  replace h1:=dt h1
  simp only [List.length_map] at h1
  refine g 18 19 [] ?_
  conv=>whnf
  refine ⟨⟨I,I⟩,?_⟩
  refine W.ret ?_
  refine EndsW.rt ?_
  conv=>whnf
  refine ⟨⟨I,I,I⟩,?_,rfl⟩
  rfl
  replace h1:=df h1
  simp only [List.length_map] at h1
  omega
end Go.K
end

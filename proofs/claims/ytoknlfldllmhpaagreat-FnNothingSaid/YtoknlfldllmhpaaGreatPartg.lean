/- Contracts of functions of the program: what each call answers. -/
import Derived.Test.YtoknlfldllmhpaaGreatPartf
set_option maxHeartbeats 8000000
set_option maxRecDepth 20000
set_option linter.unusedVariables false
set_option linter.unusedSimpArgs false
section
open Go Go.Tm Go.Proofs
namespace Go.K
theorem S7(l:List Int)(pos:Int)(hl:dN l)(h0:0≤pos)(h1:pos≤1000000):∃ res outs,(∃ (e:Event) (pos2:Int),res = lI e∧outs = [rdC l pos2]∧pos≤pos2∧pos2≤pos+8)∧F kc [.ptr (rdC l pos)] res outs:=by
 have p24:=aj l pos 24
 have p40:=aj l (pos+1) 40
 have p2:=aj l (pos+1+1) 2
 have p4:=aj l (pos+1+1+1) 4
 by_cases g2:ac l (pos+1+1) 2 = 0
 ·have r1:=aj l (pos+1+1+1+1) 40
  have r2:=aj l (pos+1+1+1+1+1) 300
  have r3:=aj l (pos+1+1+1+1) 4
  have r4:=aj l (pos+1+1+1+1+1) 4
  by_cases k0:ac l pos 24 < 9
  ·refine bg ?_
   conv=>whnf
   refine g 0 0 []<|J UA<|g 5 7 [.call (V.i (ac l pos 24)) ([rdC l (pos+1),[]])]<|J (QA @aa)<|g 7 9 [.call (V.i (ac l (pos+1) 40)) ([rdC l (pos+1+1),[]])]<|J (QA @aa)<|Ws<|g 9 11 [.call (V.i (ac l (pos+1+1) 2)) ([rdC l (pos+1+1+1),[]])]<|J (QA @aa)<|Wc<|J (fun _=>(rg [.call (V.i (ac l (pos+1+1+1) 4)) ([rdC l (pos+1+1+1+1),[]])]<|J (QA @aa) (Ws (g 11 15 []<|J UB (Wc<|J (fun _=>(g 15 17 []<|J QZ (W.ret ?_))) (noF tO)))))) (noF tO)
   refine EndsW.rt<|J UE ?_
   exact⟨⟨1,0,0,0⟩,_,rfl,rfl,by omega,by omega⟩
  by_cases k1:ac l pos 24 < 17
  ·refine bg ?_
   conv=>whnf
   refine g 0 0 []<|J UA<|g 5 7 [.call (V.i (ac l pos 24)) ([rdC l (pos+1),[]])]<|J (QA @aa)<|g 7 9 [.call (V.i (ac l (pos+1) 40)) ([rdC l (pos+1+1),[]])]<|J (QA @aa)<|Ws<|g 9 11 [.call (V.i (ac l (pos+1+1) 2)) ([rdC l (pos+1+1+1),[]])]<|J (QA @aa)<|Wc<|J (fun _=>(rg [.call (V.i (ac l (pos+1+1+1) 4)) ([rdC l (pos+1+1+1+1),[]])]<|J (QA @aa) (Ws (g 11 15 []<|J UB (Wc<|J (noT dO) fun _=>(Wk (Ws ?_))))))) (noF tO)
   refine g 15 18 []<|J UB<|Wc<|J (fun _=>(g 18 21 []<|J QZ (W.ret (EndsW.rt<|J UE ?_)))) (noF tO)
   exact⟨⟨2,ac l (pos+1+1+1) 4,0,0⟩,_,rfl,rfl,by omega,by omega⟩
  by_cases k2:ac l pos 24 = 17
  ·refine bg ?_
   conv=>whnf
   refine g 0 0 []<|J UA<|g 5 7 [.call (V.i (ac l pos 24)) ([rdC l (pos+1),[]])]<|J (QA @aa)<|g 7 9 [.call (V.i (ac l (pos+1) 40)) ([rdC l (pos+1+1),[]])]<|J (QA @aa)<|Ws<|g 9 11 [.call (V.i (ac l (pos+1+1) 2)) ([rdC l (pos+1+1+1),[]])]<|J (QA @aa)<|Wc<|J (fun _=>(rg [.call (V.i (ac l (pos+1+1+1) 4)) ([rdC l (pos+1+1+1+1),[]])]<|J (QA @aa) (Ws (g 11 15 []<|J UB (Wc<|J (noT dO) fun _=>(Wk (Ws ?_))))))) (noF tO)
   refine g 15 18 []<|J UB<|Wc<|J (noT dO) fun _=>Wk<|Ws<|g 18 22 []<|J UB<|Wc<|J (fun _=>(g 22 25 []<|J QZ (W.ret (EndsW.rt<|J UE ?_)))) (noF tO)
   exact⟨⟨3,ac l (pos+1+1+1) 4,0,0⟩,_,rfl,rfl,by omega,by omega⟩
  by_cases k3:ac l pos 24 = 18
  ·refine bg ?_
   conv=>whnf
   refine g 0 0 []<|J UA<|g 5 7 [.call (V.i (ac l pos 24)) ([rdC l (pos+1),[]])]<|J (QA @aa)<|g 7 9 [.call (V.i (ac l (pos+1) 40)) ([rdC l (pos+1+1),[]])]<|J (QA @aa)<|Ws<|g 9 11 [.call (V.i (ac l (pos+1+1) 2)) ([rdC l (pos+1+1+1),[]])]<|J (QA @aa)<|Wc<|J (fun _=>(rg [.call (V.i (ac l (pos+1+1+1) 4)) ([rdC l (pos+1+1+1+1),[]])]<|J (QA @aa) (Ws (g 11 15 []<|J UB (Wc<|J (noT dO) fun _=>(Wk (Ws ?_))))))) (noF tO)
   refine g 15 18 []<|J UB<|Wc<|J (noT dO) fun _=>Wk<|Ws<|g 18 22 []<|J UB<|Wc<|J (noT dO) fun _=>Wk<|Ws<|g 22 26 []<|J UB<|Wc<|J (fun _=>(g 26 29 []<|J QZ (W.ret ?_))) (noF tO)
   refine EndsW.rt<|J UE ?_
   exact⟨⟨4,ac l (pos+1+1+1) 4,0,0⟩,_,rfl,rfl,by omega,by omega⟩
  by_cases k4:ac l pos 24 = 19
  ·refine bg ?_
   conv=>whnf
   refine g 0 0 []<|J UA<|g 5 7 [.call (V.i (ac l pos 24)) ([rdC l (pos+1),[]])]<|J (QA @aa)<|g 7 9 [.call (V.i (ac l (pos+1) 40)) ([rdC l (pos+1+1),[]])]<|J (QA @aa)<|Ws<|g 9 11 [.call (V.i (ac l (pos+1+1) 2)) ([rdC l (pos+1+1+1),[]])]<|J (QA @aa)<|Wc<|J (fun _=>(rg [.call (V.i (ac l (pos+1+1+1) 4)) ([rdC l (pos+1+1+1+1),[]])]<|J (QA @aa) (Ws (g 11 15 []<|J UB (Wc<|J (noT dO) fun _=>(Wk (Ws ?_))))))) (noF tO)
   refine g 15 18 []<|J UB<|Wc<|J (noT dO) fun _=>Wk<|Ws<|g 18 22 []<|J UB<|Wc<|J (noT dO) fun _=>Wk<|Ws<|g 22 26 []<|J UB<|Wc<|J (noT dO) fun _=>Wk<|Ws ?_
   refine g 26 30 []<|J UB<|Wc<|J (fun _=>(g 4 37 [.call (V.i (ac l (pos+1+1+1+1) 40)) ([rdC l (pos+1+1+1+1+1),[]]),.call (V.i (ac l (pos+1+1+1+1+1) 300)) ([rdC l (pos+1+1+1+1+1+1),[]])]<|J (QA @aa) (W.ret (EndsW.rt<|J UE ?_)))) (noF tO)
   exact⟨⟨5,ac l (pos+1+1+1) 4,ac l (pos+1+1+1+1) 40,ac l (pos+1+1+1+1+1) 300⟩,_,rfl,rfl,by omega,by omega⟩
  by_cases k5:ac l pos 24 < 22
  ·refine bg ?_
   conv=>whnf
   refine g 0 0 []<|J UA<|g 5 7 [.call (V.i (ac l pos 24)) ([rdC l (pos+1),[]])]<|J (QA @aa)<|g 7 9 [.call (V.i (ac l (pos+1) 40)) ([rdC l (pos+1+1),[]])]<|J (QA @aa)<|Ws<|g 9 11 [.call (V.i (ac l (pos+1+1) 2)) ([rdC l (pos+1+1+1),[]])]<|J (QA @aa)<|Wc<|J (fun _=>(rg [.call (V.i (ac l (pos+1+1+1) 4)) ([rdC l (pos+1+1+1+1),[]])]<|J (QA @aa) (Ws (g 11 15 []<|J UB (Wc<|J (noT dO) fun _=>(Wk (Ws ?_))))))) (noF tO)
   refine g 15 18 []<|J UB<|Wc<|J (noT dO) fun _=>Wk<|Ws<|g 18 22 []<|J UB<|Wc<|J (noT dO) fun _=>Wk<|Ws<|g 22 26 []<|J UB<|Wc<|J (noT dO) fun _=>Wk<|Ws ?_
   refine g 26 30 []<|J UB<|Wc<|J (noT dO) fun _=>Wk<|Ws<|g 4 38 []<|J UB<|Wc<|J (fun _=>(g 38 44 [.call (V.i (ac l (pos+1+1+1+1) 4)) ([rdC l (pos+1+1+1+1+1),[]]),.call (V.i (ac l (pos+1+1+1+1+1) 4)) ([rdC l (pos+1+1+1+1+1+1),[]])]<|J (QA @aa) (W.ret (EndsW.rt<|J UE ?_)))) (noF tO)
   exact⟨⟨6,ac l (pos+1+1+1+1) 4,ac l (pos+1+1+1+1+1) 4,0⟩,_,rfl,rfl,by omega,by omega⟩
  by_cases k6:ac l pos 24 = 22
  ·refine bg ?_
   conv=>whnf
   refine g 0 0 []<|J UA<|g 5 7 [.call (V.i (ac l pos 24)) ([rdC l (pos+1),[]])]<|J (QA @aa)<|g 7 9 [.call (V.i (ac l (pos+1) 40)) ([rdC l (pos+1+1),[]])]<|J (QA @aa)<|Ws<|g 9 11 [.call (V.i (ac l (pos+1+1) 2)) ([rdC l (pos+1+1+1),[]])]<|J (QA @aa)<|Wc<|J (fun _=>(rg [.call (V.i (ac l (pos+1+1+1) 4)) ([rdC l (pos+1+1+1+1),[]])]<|J (QA @aa) (Ws (g 11 15 []<|J UB (Wc<|J (noT dO) fun _=>(Wk (Ws ?_))))))) (noF tO)
   refine g 15 18 []<|J UB<|Wc<|J (noT dO) fun _=>Wk<|Ws<|g 18 22 []<|J UB<|Wc<|J (noT dO) fun _=>Wk<|Ws<|g 22 26 []<|J UB<|Wc<|J (noT dO) fun _=>Wk<|Ws ?_
   refine g 26 30 []<|J UB<|Wc<|J (noT dO) fun _=>Wk<|Ws<|g 4 38 []<|J UB<|Wc<|J (noT dO) fun _=>Wk<|Ws<|g 3 45 []<|J UB<|Wc<|J (fun _=>(g 45 47 []<|J QZ (W.ret ?_))) (noF tO)
   refine EndsW.rt<|J UE ?_
   exact⟨⟨7,0,0,0⟩,_,rfl,rfl,by omega,by omega⟩
  ·refine bg ?_
   conv=>whnf
   refine g 0 0 []<|J UA<|g 5 7 [.call (V.i (ac l pos 24)) ([rdC l (pos+1),[]])]<|J (QA @aa)<|g 7 9 [.call (V.i (ac l (pos+1) 40)) ([rdC l (pos+1+1),[]])]<|J (QA @aa)<|Ws<|g 9 11 [.call (V.i (ac l (pos+1+1) 2)) ([rdC l (pos+1+1+1),[]])]<|J (QA @aa)<|Wc<|J (fun _=>(rg [.call (V.i (ac l (pos+1+1+1) 4)) ([rdC l (pos+1+1+1+1),[]])]<|J (QA @aa) (Ws (g 11 15 []<|J UB (Wc<|J (noT dO) fun _=>(Wk (Ws ?_))))))) (noF tO)
   refine g 15 18 []<|J UB<|Wc<|J (noT dO) fun _=>Wk<|Ws<|g 18 22 []<|J UB<|Wc<|J (noT dO) fun _=>Wk<|Ws<|g 22 26 []<|J UB<|Wc<|J (noT dO) fun _=>Wk<|Ws ?_
   refine g 26 30 []<|J UB<|Wc<|J (noT dO) fun _=>Wk<|Ws<|g 4 38 []<|J UB<|Wc<|J (noT dO) fun _=>Wk<|Ws<|g 3 45 []<|J UB<|Wc<|J (noT dO) fun _=>Wk<|g 45 50 [.call (V.i (ac l (pos+1+1+1+1) 4)) ([rdC l (pos+1+1+1+1+1),[]])]<|J (QA @aa) ?_
   refine W.ret<|EndsW.rt<|J UE ?_
   exact⟨⟨7,ac l (pos+1+1+1+1) 4,0,0⟩,_,rfl,rfl,by omega,by omega⟩
 ·have r1:=aj l (pos+1+1+1) 40
  have r2:=aj l (pos+1+1+1+1) 300
  have r3:=aj l (pos+1+1+1) 4
  have r4:=aj l (pos+1+1+1+1) 4
  by_cases k0:ac l pos 24 < 9
  ·refine bg ?_
   conv=>whnf
   refine g 0 0 []<|J UA<|g 5 7 [.call (V.i (ac l pos 24)) ([rdC l (pos+1),[]])]<|J (QA @aa)<|g 7 9 [.call (V.i (ac l (pos+1) 40)) ([rdC l (pos+1+1),[]])]<|J (QA @aa)<|Ws<|g 9 11 [.call (V.i (ac l (pos+1+1) 2)) ([rdC l (pos+1+1+1),[]])]<|J (QA @aa)<|Wc<|J (noT dO) fun _=>Wk<|Ws<|g 11 15 []<|J UB<|Wc<|J (fun _=>(g 15 17 []<|J QZ (W.ret ?_))) (noF tO)
   refine EndsW.rt<|J UE ?_
   exact⟨⟨1,0,0,0⟩,_,rfl,rfl,by omega,by omega⟩
  by_cases k1:ac l pos 24 < 17
  ·refine bg ?_
   conv=>whnf
   refine g 0 0 []<|J UA<|g 5 7 [.call (V.i (ac l pos 24)) ([rdC l (pos+1),[]])]<|J (QA @aa)<|g 7 9 [.call (V.i (ac l (pos+1) 40)) ([rdC l (pos+1+1),[]])]<|J (QA @aa)<|Ws<|g 9 11 [.call (V.i (ac l (pos+1+1) 2)) ([rdC l (pos+1+1+1),[]])]<|J (QA @aa)<|Wc<|J (noT dO) fun _=>Wk<|Ws<|g 11 15 []<|J UB<|Wc<|J (noT dO) fun _=>Wk<|Ws ?_
   refine g 15 18 []<|J UB<|Wc<|J (fun _=>(g 18 21 []<|J QZ (W.ret (EndsW.rt<|J UE ?_)))) (noF tO)
   exact⟨⟨2,ac l (pos+1) 40,0,0⟩,_,rfl,rfl,by omega,by omega⟩
  by_cases k2:ac l pos 24 = 17
  ·refine bg ?_
   conv=>whnf
   refine g 0 0 []<|J UA<|g 5 7 [.call (V.i (ac l pos 24)) ([rdC l (pos+1),[]])]<|J (QA @aa)<|g 7 9 [.call (V.i (ac l (pos+1) 40)) ([rdC l (pos+1+1),[]])]<|J (QA @aa)<|Ws<|g 9 11 [.call (V.i (ac l (pos+1+1) 2)) ([rdC l (pos+1+1+1),[]])]<|J (QA @aa)<|Wc<|J (noT dO) fun _=>Wk<|Ws<|g 11 15 []<|J UB<|Wc<|J (noT dO) fun _=>Wk<|Ws ?_
   refine g 15 18 []<|J UB<|Wc<|J (noT dO) fun _=>Wk<|Ws<|g 18 22 []<|J UB<|Wc<|J (fun _=>(g 22 25 []<|J QZ (W.ret (EndsW.rt<|J UE ?_)))) (noF tO)
   exact⟨⟨3,ac l (pos+1) 40,0,0⟩,_,rfl,rfl,by omega,by omega⟩
  by_cases k3:ac l pos 24 = 18
  ·refine bg ?_
   conv=>whnf
   refine g 0 0 []<|J UA<|g 5 7 [.call (V.i (ac l pos 24)) ([rdC l (pos+1),[]])]<|J (QA @aa)<|g 7 9 [.call (V.i (ac l (pos+1) 40)) ([rdC l (pos+1+1),[]])]<|J (QA @aa)<|Ws<|g 9 11 [.call (V.i (ac l (pos+1+1) 2)) ([rdC l (pos+1+1+1),[]])]<|J (QA @aa)<|Wc<|J (noT dO) fun _=>Wk<|Ws<|g 11 15 []<|J UB<|Wc<|J (noT dO) fun _=>Wk<|Ws ?_
   refine g 15 18 []<|J UB<|Wc<|J (noT dO) fun _=>Wk<|Ws<|g 18 22 []<|J UB<|Wc<|J (noT dO) fun _=>Wk<|Ws<|g 22 26 []<|J UB<|Wc<|J (fun _=>(g 26 29 []<|J QZ (W.ret ?_))) (noF tO)
   refine EndsW.rt<|J UE ?_
   exact⟨⟨4,ac l (pos+1) 40,0,0⟩,_,rfl,rfl,by omega,by omega⟩
  by_cases k4:ac l pos 24 = 19
  ·refine bg ?_
   conv=>whnf
   refine g 0 0 []<|J UA<|g 5 7 [.call (V.i (ac l pos 24)) ([rdC l (pos+1),[]])]<|J (QA @aa)<|g 7 9 [.call (V.i (ac l (pos+1) 40)) ([rdC l (pos+1+1),[]])]<|J (QA @aa)<|Ws<|g 9 11 [.call (V.i (ac l (pos+1+1) 2)) ([rdC l (pos+1+1+1),[]])]<|J (QA @aa)<|Wc<|J (noT dO) fun _=>Wk<|Ws<|g 11 15 []<|J UB<|Wc<|J (noT dO) fun _=>Wk<|Ws ?_
   refine g 15 18 []<|J UB<|Wc<|J (noT dO) fun _=>Wk<|Ws<|g 18 22 []<|J UB<|Wc<|J (noT dO) fun _=>Wk<|Ws<|g 22 26 []<|J UB<|Wc<|J (noT dO) fun _=>Wk<|Ws ?_
   refine g 26 30 []<|J UB<|Wc<|J (fun _=>(g 4 37 [.call (V.i (ac l (pos+1+1+1) 40)) ([rdC l (pos+1+1+1+1),[]]),.call (V.i (ac l (pos+1+1+1+1) 300)) ([rdC l (pos+1+1+1+1+1),[]])]<|J (QA @aa) (W.ret (EndsW.rt<|J UE ?_)))) (noF tO)
   exact⟨⟨5,ac l (pos+1) 40,ac l (pos+1+1+1) 40,ac l (pos+1+1+1+1) 300⟩,_,rfl,rfl,by omega,by omega⟩
  by_cases k5:ac l pos 24 < 22
  ·refine bg ?_
   conv=>whnf
   refine g 0 0 []<|J UA<|g 5 7 [.call (V.i (ac l pos 24)) ([rdC l (pos+1),[]])]<|J (QA @aa)<|g 7 9 [.call (V.i (ac l (pos+1) 40)) ([rdC l (pos+1+1),[]])]<|J (QA @aa)<|Ws<|g 9 11 [.call (V.i (ac l (pos+1+1) 2)) ([rdC l (pos+1+1+1),[]])]<|J (QA @aa)<|Wc<|J (noT dO) fun _=>Wk<|Ws<|g 11 15 []<|J UB<|Wc<|J (noT dO) fun _=>Wk<|Ws ?_
   refine g 15 18 []<|J UB<|Wc<|J (noT dO) fun _=>Wk<|Ws<|g 18 22 []<|J UB<|Wc<|J (noT dO) fun _=>Wk<|Ws<|g 22 26 []<|J UB<|Wc<|J (noT dO) fun _=>Wk<|Ws ?_
   refine g 26 30 []<|J UB<|Wc<|J (noT dO) fun _=>Wk<|Ws<|g 4 38 []<|J UB<|Wc<|J (fun _=>(g 38 44 [.call (V.i (ac l (pos+1+1+1) 4)) ([rdC l (pos+1+1+1+1),[]]),.call (V.i (ac l (pos+1+1+1+1) 4)) ([rdC l (pos+1+1+1+1+1),[]])]<|J (QA @aa) (W.ret (EndsW.rt<|J UE ?_)))) (noF tO)
   exact⟨⟨6,ac l (pos+1+1+1) 4,ac l (pos+1+1+1+1) 4,0⟩,_,rfl,rfl,by omega,by omega⟩
  by_cases k6:ac l pos 24 = 22
  ·refine bg ?_
   conv=>whnf
   refine g 0 0 []<|J UA<|g 5 7 [.call (V.i (ac l pos 24)) ([rdC l (pos+1),[]])]<|J (QA @aa)<|g 7 9 [.call (V.i (ac l (pos+1) 40)) ([rdC l (pos+1+1),[]])]<|J (QA @aa)<|Ws<|g 9 11 [.call (V.i (ac l (pos+1+1) 2)) ([rdC l (pos+1+1+1),[]])]<|J (QA @aa)<|Wc<|J (noT dO) fun _=>Wk<|Ws<|g 11 15 []<|J UB<|Wc<|J (noT dO) fun _=>Wk<|Ws ?_
   refine g 15 18 []<|J UB<|Wc<|J (noT dO) fun _=>Wk<|Ws<|g 18 22 []<|J UB<|Wc<|J (noT dO) fun _=>Wk<|Ws<|g 22 26 []<|J UB<|Wc<|J (noT dO) fun _=>Wk<|Ws ?_
   refine g 26 30 []<|J UB<|Wc<|J (noT dO) fun _=>Wk<|Ws<|g 4 38 []<|J UB<|Wc<|J (noT dO) fun _=>Wk<|Ws<|g 3 45 []<|J UB<|Wc<|J (fun _=>(g 45 47 []<|J QZ (W.ret ?_))) (noF tO)
   refine EndsW.rt<|J UE ?_
   exact⟨⟨7,0,0,0⟩,_,rfl,rfl,by omega,by omega⟩
  ·refine bg ?_
   conv=>whnf
   refine g 0 0 []<|J UA<|g 5 7 [.call (V.i (ac l pos 24)) ([rdC l (pos+1),[]])]<|J (QA @aa)<|g 7 9 [.call (V.i (ac l (pos+1) 40)) ([rdC l (pos+1+1),[]])]<|J (QA @aa)<|Ws<|g 9 11 [.call (V.i (ac l (pos+1+1) 2)) ([rdC l (pos+1+1+1),[]])]<|J (QA @aa)<|Wc<|J (noT dO) fun _=>Wk<|Ws<|g 11 15 []<|J UB<|Wc<|J (noT dO) fun _=>Wk<|Ws ?_
   refine g 15 18 []<|J UB<|Wc<|J (noT dO) fun _=>Wk<|Ws<|g 18 22 []<|J UB<|Wc<|J (noT dO) fun _=>Wk<|Ws<|g 22 26 []<|J UB<|Wc<|J (noT dO) fun _=>Wk<|Ws ?_
   refine g 26 30 []<|J UB<|Wc<|J (noT dO) fun _=>Wk<|Ws<|g 4 38 []<|J UB<|Wc<|J (noT dO) fun _=>Wk<|Ws<|g 3 45 []<|J UB<|Wc<|J (noT dO) fun _=>Wk<|g 45 50 [.call (V.i (ac l (pos+1+1+1) 4)) ([rdC l (pos+1+1+1+1),[]])]<|J (QA @aa) ?_
   refine W.ret<|EndsW.rt<|J UE ?_
   exact⟨⟨7,ac l (pos+1+1+1) 4,0,0⟩,_,rfl,rfl,by omega,by omega⟩
theorem wT(l:List Int)(pos:Int)(h:dN l∧0≤pos∧pos≤1000000):∃ x:Event×Int,F kc [.ptr (rdC l pos)] (lI x.1) [rdC l x.2]∧pos≤x.2∧x.2≤pos+8:=by
 obtain⟨res,outs,⟨e,pos2,rfl,rfl,h1,h2⟩,hF⟩:=S7 l pos h.1 h.2.1 h.2.2
 exact⟨(e,pos2),hF,h1,h2⟩
open Classical in
noncomputable def evP(l:List Int)(pos:Int):Event×Int:=if h:dN l∧0≤pos∧pos≤1000000 then(wT l pos h).choose else(Xd,pos)
theorem kh(l:List Int)(pos:Int)(hl:dN l)(h0:0≤pos)(h1:pos≤1000000):F kc [.ptr (rdC l pos)] (lI (evP l pos).1) [rdC l (evP l pos).2]:=by
 have h:dN l∧0≤pos∧pos≤1000000:=⟨hl,h0,h1⟩
 rw[evP,dif_pos h]
 exact(wT l pos h).choose_spec.1
theorem V3(l:List Int)(pos:Int):pos≤(evP l pos).2∧(evP l pos).2≤pos+8:=by
 unfold evP
 split
 ·rename_i h;exact(wT l pos h).choose_spec.2
 ·exact⟨Int.le_refl _,by dsimp only;omega⟩
theorem Xv{p:Plan}{k:Int}(h:am p.tasks = 0)(hk:1≤k∧k≤8):BossOk (eB k 0 []) p:=by
 refine⟨h,hk,⟨Int.le_refl _,by show 0≤1000000;omega⟩,rR h,fun q=>?_,fun _=>⟨rfl,rfl,rfl,rfl,rfl,rfl,rfl,rfl⟩⟩
 cases q
theorem SL{n:Nat}(h:n < 8):au (E5 n):=by
 refine⟨⟨?_,?_⟩,⟨?_,?_⟩,⟨?_,?_⟩,.inl rfl,.inl ⟨rfl,rfl,rfl,rfl,rfl,rfl,rfl⟩⟩ <;> (simp only[E5];omega)
theorem Xe{p:Plan}{key:ByteArray}{k:Int}(h:NewOk p key k):WorldOk (qh p key k):=by
 rw[Ni h]
 obtain⟨h1,h2,h3⟩:=h
 have hl:(crew k.toNat).length = k.toNat:=ux _
 refine⟨h1,h3,⟨by show 1≤(crew k.toNat).length;omega,by show(crew k.toNat).length≤8;omega⟩,Nat.zero_le _,?_,fun x hx=>(by cases hx),rP (Xv h1 h2),?_⟩
 case refine_2 =>
  show(cU (eB k 0 []) p).workers = ((crew k.toNat).length:Int)
  rw[hl,Bf]
  show k = _
  omega
 intro i x hi hx
 change (crew k.toNat)[i]? = some x at hx
 change i < (crew k.toNat).length at hi
 rw[ux]at hi
 have e:x = E5 i:=by
  unfold crew at hx
  rw[List.getElem?_map,List.getElem?_range hi]at hx
  exact(Option.some.inj hx).symm
 subst e
 exact⟨SL OM,rfl⟩
theorem SX(p:Plan)(key:ByteArray)(k:Int):wz (qh p key k):=by
 by_cases h:NewOk p key k
 ·exact .inl (Xe h)
 ·exact .inr (Nj h)
theorem wC(w:World):(iv w).plan = w.plan:=by unfold iv;split <;> rfl
theorem JS(w:World)(s:Parcel):(cG w s).plan = w.plan:=by
 unfold cG
 cases eG s.text w.key with
 |none=>rfl
 |some m=>dsimp only;split;rfl;split <;> rfl
theorem kO(w:World)(k:Int):(eK w k).plan = w.plan:=by
 unfold eK;split
 ·rw[JS];rfl
 ·rfl
theorem Pi(w:World)(e:Event):(doW w e).plan = w.plan:=by
 unfold doW
 split;exact wC w
 split;exact kO w _
 split;rfl
 split;rfl
 split;rfl
 split
 ·split;rfl
  split <;> rfl
 split
 ·split;rfl
  split <;> rfl
 ·rfl
def qf(p:Plan)(w:World):Prop:=w = noWorld∨w.plan = p
theorem MK(l:List Int)(pos:Int)(hl:dN l)(h0:0≤pos)(h1:pos≤900000):∃ res outs,(∃ (w:World) (pos2:Int),res = ax w∧outs = [rdC l pos2]∧wz w∧qf (ou l pos).1 w∧pos≤pos2∧pos2≤pos+5000)∧F ii [.ptr (rdC l pos)] res outs:=by
 have cd:=Ev l pos hl h0 OM
 obtain⟨d1,d2,d3,d4⟩:=Xu l pos
 generalize(ou l pos).1 = p at cd d1 d2 ⊢
 generalize(ou l pos).2 = q at cd d3 d4
 have p3:=aj l q 3
 have p40:=aj l (q+1) 40
 have ek:(⟨#[107,101,121]⟩:ByteArray).size = 3:=rfl
 have cn:=yX p ⟨#[107,101,121]⟩ (1+ac l q 3) (Im (ge d1)) OM
 have hg0:=SX p ⟨#[107,101,121]⟩ (1+ac l q 3)
 have hp0:qf p (qh p ⟨#[107,101,121]⟩ (1+ac l q 3)):=by
  unfold qh;split
  ·exact .inr rfl
  ·exact .inl rfl
 generalize qh p ⟨#[107,101,121]⟩ (1+ac l q 3) = w0 at cn hg0 hp0
 have q3:(ac l (q+1) 40).tdiv 3 = ac l (q+1) 40 / 3:=Int.tdiv_eq_ediv_of_nonneg p40.1
 have stepP:∀ {w v:World},qf p w→(w = noWorld→v = noWorld)→v.plan = w.plan→qf p v:=fun h h2 h3=>by
  rcases h with h|h
  ·exact .inl (h2 h)
  ·exact .inr (by rw[h3,h])
 have core:∀ N:Int,0≤N→N≤39→True:=fun _ _ _=>trivial
 by_cases h20:20 < p.tasks.length
 ·refine lQ ?_
  conv=>whnf
  refine g 0 0 []<|J UA<|g 7 9 [.call (eA p) ([rdC l q])]<|J QZ<|gd 9 14 [[],[],[.call (V.i (ac l q 3)) ([rdC l (q+1),[]])],[.i (1+ac l q 3)],[.call (ax w0) [[],[],[]]],[],[]] ?_
  conv=>whnf
  refine J (QA @aa)<|J KR<|g 14 16 [.call (V.i (ac l (q+1) 40)) ([rdC l (q+1+1),[]])]<|J (QA @aa)<|Ws<|g 16 19 []<|J UD<|Wc<|JD (fun h2=>?_) fun h2=>?_
  simp only[LM]at h2
  refine rg [.i (Int.tdiv (ac l (q+1) 40) 3)]<|J QZ<|Ws<|g 19 22 []<|J UA<|Wb ?_
  rotate_left
  simp only[LM]at h2
  omega
  refine Wl (fun s (x:Nat×World×Int)=>⟨(SK s [0,2,4,5] [(6,.i x.1)]),[(2,(CK s 2 0 17 [])),(40,[.t (u8s l),.t (.i x.2.2)]),(4,[.own cY (x.2.1.plan.tasks.map ay),.t (.s x.2.1.key),.t (.i x.2.1.boss.workers),.t (.b x.2.1.boss.up),.t (.i x.2.1.boss.now),.t (.i x.2.1.boss.since),.t (.i x.2.1.boss.epoch),.t (.i x.2.1.boss.given),.own [false] (x.2.1.boss.log.safe.map ai),.own [false] (x.2.1.boss.log.loose.map ai),.own [false] (x.2.1.boss.results.map ai),.own dU (x.2.1.boss.jobs.map aI),.own bJ (x.2.1.boss.seats.map aE),.own bK (x.2.1.boss.owed.map aJ),.own cz (x.2.1.workers.map ag),.own pkd (x.2.1.flight.map bh),.t (.s x.2.1.forged)])],[]⟩) (fun(x:Nat×World×Int)=>(x.1:Int)≤(ac l (q+1) 40 / 3)∧wz x.2.1∧qf p x.2.1∧q+2≤x.2.2∧x.2.2≤q+2+9 * x.1) (fun(x:Nat×World×Int)=>(((ac l (q+1) 40 / 3):Int) - x.1).toNat) ((0,w0,q+2)) [some 2,some 40,some 4] [] ⟨rfl,FZ,⟨FZ,⟨⟨rfl,⟨rfl,⟨(congrArg (fun z=>V.t (T.v (Value.int _ z))) (by show q+1+1 = q+2;omega)),I⟩⟩⟩,FZ⟩⟩,I⟩ ?_ ?_
  ·exact⟨by dsimp only;omega,hg0,hp0,by dsimp only;omega,by dsimp only;omega⟩
  rintro⟨i,w,r⟩ ⟨i1,i2,i3,i4,i5⟩
  dsimp only at i1 i2 i3 i4 i5
  by_cases hi:(i:Int) < (ac l (q+1) 40 / 3)
  ·have ce:=kh l r hl OM OM
   obtain⟨e1,e2⟩:=V3 l r
   generalize(evP l r).1 = e at ce
   generalize(evP l r).2 = u at ce e1 e2
   have cD:=oZ w e (cJ i2)
   have hG:=Oc e i2
   have hP:=stepP i3 (fun h=>by rw[h];exact sw e) (Pi w e)
   generalize doW w e = w1 at cD hG hP
   have p4:=aj l u 4
   by_cases g4:ac l u 4 = 0
   ·have c1:=lK w1 (cJ hG)
    have hG1:=FS hG
    have hP1:=stepP hP (fun h=>by rw[h];exact py) (wC w1)
    generalize iv w1 = w2 at c1 hG1 hP1
    have c2:=fz w2 0 (cJ hG1)
    have hG2:=nL 0 hG1
    have hP2:=stepP hP1 (fun h=>by rw[h];exact iW 0) (kO w2 0)
    generalize eK w2 0 = w3 at c2 hG2 hP2
    have c3:=fz w3 0 (cJ hG2)
    have hG3:=nL 0 hG2
    have hP3:=stepP hP2 (fun h=>by rw[h];exact iW 0) (kO w3 0)
    generalize eK w3 0 = w4 at c3 hG3 hP3
    conv=>whnf
    refine Ws<|g 22 24 []<|J UC<|Wc<|J (fun _=>(Wk (Ws (Wb (gd 24 31 [[],[],[.call (lI e) ([rdC l u])],[.call (ax w1) [[],[]]],[]] ?_))))) (noF tO)
    conv=>whnf
    refine⟨Zaj,by kernel_rfl,?_⟩
    refine g 31 33 [.call (V.i (ac l u 4)) ([rdC l (u+1),[]])]<|J (QA @aa)<|Wc<|J (fun _=>(rg [.call (ax w2) [[]],.call (ax w3) [[],[]],.call (ax w4) [[],[]]]<|J QZ (rg [.i ((↑(Prod.fst (i,w,r)):Int) +1)]<|J QZ ?_))) (noF tO)
    refine⟨(i+1,w4,u+1),[some 2,some 40,some 4],[],FZ,?_,?_⟩
    rotate_left
    (dsimp only;omega)
    dsimp only
    exact⟨by omega,hG3,hP3,by first|omega|(dsimp only;omega),by first|omega|(dsimp only;omega)⟩
   ·conv=>whnf
    refine Ws<|g 22 24 []<|J UC<|Wc<|J (fun _=>(Wk (Ws (Wb (gd 24 31 [[],[],[.call (lI e) ([rdC l u])],[.call (ax w1) [[],[]]],[]] ?_))))) (noF tO)
    conv=>whnf
    refine⟨Zaj,by kernel_rfl,?_⟩
    refine g 31 33 [.call (V.i (ac l u 4)) ([rdC l (u+1),[]])]<|J (QA @aa)<|Wc<|J (noT dO) fun _=>Wk<|rg [.i ((↑(Prod.fst (i,w,r)):Int) +1)]<|J QZ ?_
    refine⟨(i+1,w1,u+1),[some 2,some 40,some 4],[],FZ,?_,?_⟩
    rotate_left
    (dsimp only;omega)
    dsimp only
    exact⟨by omega,hG,hP,by first|omega|(dsimp only;omega),by first|omega|(dsimp only;omega)⟩
  ·have cc:=gm w (cJ i2)
   conv=>whnf
   refine Ws<|g 22 24 []<|J UC<|Wc<|J (noT dO) fun _=>We<|g 4 40 [.call (ax w) [[]]]<|J QZ<|W.ret<|EndsW.rt<|J UR ?_
   exact⟨w,r,rfl,rfl,i2,i3,by omega,by omega⟩
 ·refine lQ ?_
  conv=>whnf
  refine g 0 0 []<|J UA<|g 7 9 [.call (eA p) ([rdC l q])]<|J QZ<|gd 9 14 [[],[],[.call (V.i (ac l q 3)) ([rdC l (q+1),[]])],[.i (1+ac l q 3)],[.call (ax w0) [[],[],[]]],[],[]] ?_
  conv=>whnf
  refine J (QA @aa)<|J KR<|g 14 16 [.call (V.i (ac l (q+1) 40)) ([rdC l (q+1+1),[]])]<|J (QA @aa)<|Ws<|g 16 19 []<|J UD<|Wc<|J (fun h2=>?_) fun h2=>?_
  replace h2:=dt h2
  simp only[LM]at h2
  omega
  replace h2:=df h2
  simp only[LM]at h2
  refine Wk<|Ws<|g 3 4 []<|J UA<|Wb ?_
  refine Wl (fun s (x:Nat×World×Int)=>⟨(SK s [0,2,4,5] [(6,.i x.1)]),[(2,(CK s 2 0 17 [])),(40,[.t (u8s l),.t (.i x.2.2)]),(4,[.own cY (x.2.1.plan.tasks.map ay),.t (.s x.2.1.key),.t (.i x.2.1.boss.workers),.t (.b x.2.1.boss.up),.t (.i x.2.1.boss.now),.t (.i x.2.1.boss.since),.t (.i x.2.1.boss.epoch),.t (.i x.2.1.boss.given),.own [false] (x.2.1.boss.log.safe.map ai),.own [false] (x.2.1.boss.log.loose.map ai),.own [false] (x.2.1.boss.results.map ai),.own dU (x.2.1.boss.jobs.map aI),.own bJ (x.2.1.boss.seats.map aE),.own bK (x.2.1.boss.owed.map aJ),.own cz (x.2.1.workers.map ag),.own pkd (x.2.1.flight.map bh),.t (.s x.2.1.forged)])],[]⟩) (fun(x:Nat×World×Int)=>(x.1:Int)≤(ac l (q+1) 40)∧wz x.2.1∧qf p x.2.1∧q+2≤x.2.2∧x.2.2≤q+2+9 * x.1) (fun(x:Nat×World×Int)=>(((ac l (q+1) 40):Int) - x.1).toNat) ((0,w0,q+2)) [some 2,some 40,some 4] [] ⟨rfl,FZ,⟨FZ,⟨⟨rfl,⟨rfl,⟨(congrArg (fun z=>V.t (T.v (Value.int _ z))) (by show q+1+1 = q+2;omega)),I⟩⟩⟩,FZ⟩⟩,I⟩ ?_ ?_
  ·exact⟨by dsimp only;omega,hg0,hp0,by dsimp only;omega,by dsimp only;omega⟩
  rintro⟨i,w,r⟩ ⟨i1,i2,i3,i4,i5⟩
  dsimp only at i1 i2 i3 i4 i5
  by_cases hi:(i:Int) < (ac l (q+1) 40)
  ·have ce:=kh l r hl OM OM
   obtain⟨e1,e2⟩:=V3 l r
   generalize(evP l r).1 = e at ce
   generalize(evP l r).2 = u at ce e1 e2
   have cD:=oZ w e (cJ i2)
   have hG:=Oc e i2
   have hP:=stepP i3 (fun h=>by rw[h];exact sw e) (Pi w e)
   generalize doW w e = w1 at cD hG hP
   have p4:=aj l u 4
   by_cases g4:ac l u 4 = 0
   ·have c1:=lK w1 (cJ hG)
    have hG1:=FS hG
    have hP1:=stepP hP (fun h=>by rw[h];exact py) (wC w1)
    generalize iv w1 = w2 at c1 hG1 hP1
    have c2:=fz w2 0 (cJ hG1)
    have hG2:=nL 0 hG1
    have hP2:=stepP hP1 (fun h=>by rw[h];exact iW 0) (kO w2 0)
    generalize eK w2 0 = w3 at c2 hG2 hP2
    have c3:=fz w3 0 (cJ hG2)
    have hG3:=nL 0 hG2
    have hP3:=stepP hP2 (fun h=>by rw[h];exact iW 0) (kO w3 0)
    generalize eK w3 0 = w4 at c3 hG3 hP3
    conv=>whnf
    refine Ws<|g 22 24 []<|J UC<|Wc<|J (fun _=>(Wk (Ws (Wb (gd 24 31 [[],[],[.call (lI e) ([rdC l u])],[.call (ax w1) [[],[]]],[]] ?_))))) (noF tO)
    conv=>whnf
    refine⟨Zaj,by kernel_rfl,?_⟩
    refine g 31 33 [.call (V.i (ac l u 4)) ([rdC l (u+1),[]])]<|J (QA @aa)<|Wc<|J (fun _=>(rg [.call (ax w2) [[]],.call (ax w3) [[],[]],.call (ax w4) [[],[]]]<|J QZ (rg [.i ((↑(Prod.fst (i,w,r)):Int) +1)]<|J QZ ?_))) (noF tO)
    refine⟨(i+1,w4,u+1),[some 2,some 40,some 4],[],FZ,?_,?_⟩
    rotate_left
    (dsimp only;omega)
    dsimp only
    exact⟨by omega,hG3,hP3,by first|omega|(dsimp only;omega),by first|omega|(dsimp only;omega)⟩
   ·conv=>whnf
    refine Ws<|g 22 24 []<|J UC<|Wc<|J (fun _=>(Wk (Ws (Wb (gd 24 31 [[],[],[.call (lI e) ([rdC l u])],[.call (ax w1) [[],[]]],[]] ?_))))) (noF tO)
    conv=>whnf
    refine⟨Zaj,by kernel_rfl,?_⟩
    refine g 31 33 [.call (V.i (ac l u 4)) ([rdC l (u+1),[]])]<|J (QA @aa)<|Wc<|J (noT dO) fun _=>Wk<|rg [.i ((↑(Prod.fst (i,w,r)):Int) +1)]<|J QZ ?_
    refine⟨(i+1,w1,u+1),[some 2,some 40,some 4],[],FZ,?_,?_⟩
    rotate_left
    (dsimp only;omega)
    dsimp only
    exact⟨by omega,hG,hP,by first|omega|(dsimp only;omega),by first|omega|(dsimp only;omega)⟩
  ·have cc:=gm w (cJ i2)
   conv=>whnf
   refine Ws<|g 22 24 []<|J UC<|Wc<|J (noT dO) fun _=>We<|g 4 40 [.call (ax w) [[]]]<|J QZ<|W.ret<|EndsW.rt<|J UR ?_
   exact⟨w,r,rfl,rfl,i2,i3,by omega,by omega⟩
theorem oX(l:List Int)(pos:Int)(h:dN l∧0≤pos∧pos≤900000):∃ x:World×Int,F ii [.ptr (rdC l pos)] (ax x.1) [rdC l x.2]∧wz x.1∧qf (ou l pos).1 x.1∧pos≤x.2∧x.2≤pos+5000:=by
 obtain⟨res,outs,⟨w,pos2,rfl,rfl,h1,h2,h3,h4⟩,hF⟩:=MK l pos h.1 h.2.1 h.2.2
 exact⟨(w,pos2),hF,h1,h2,h3,h4⟩
open Classical in
noncomputable def iz(l:List Int)(pos:Int):World×Int:=if h:dN l∧0≤pos∧pos≤900000 then(oX l pos h).choose else(noWorld,pos)
theorem ir(l:List Int)(pos:Int)(hl:dN l)(h0:0≤pos)(h1:pos≤900000):F ii [.ptr (rdC l pos)] (ax (iz l pos).1) [rdC l (iz l pos).2]:=by
 have h:dN l∧0≤pos∧pos≤900000:=⟨hl,h0,h1⟩
 rw[iz,dif_pos h]
 exact(oX l pos h).choose_spec.1
theorem Cl(l:List Int)(pos:Int):wz (iz l pos).1∧qf (ou l pos).1 (iz l pos).1∧pos≤(iz l pos).2∧(iz l pos).2≤pos+5000:=by
 unfold iz
 split
 ·rename_i h;exact(oX l pos h).choose_spec.2
 ·exact⟨.inr rfl,.inl rfl,Int.le_refl _,by dsimp only;omega⟩
end Go.K
end
section
open Go Go.Tm Go.Proofs
namespace Go.K
structure BossTight (b:Boss):Prop where
 workers:0≤b.workers∧b.workers≤8
 now:0≤b.now∧b.now≤1000000
 epoch:0≤b.epoch∧b.epoch≤300
 safe:b.log.safe.length≤310
 loose:b.log.loose.length≤310
 all:∀ s∈b.log.safe++b.log.loose,s.size≤12
 res:b.results.length≤40
 jobs:b.jobs.length≤40
 seats:b.seats.length≤8
 owed:b.owed.length≤2000
theorem KA{b:Boss}{p:Plan}(h:BossOk b p):BossTight b:=by
 have hc:=h.code
 have hl:=(cC hc).2.1
 have hs:=A7 hc
 have hp:=(bU h.plan).1
 have he:=fr hc
 rw[List.length_append]at hl
 have hw:=h.workers
 have hn:=h.now
 cases hb:b.up with
 |true =>
  obtain⟨u1,u2,u3,u4,u5,u6,u7,u8,u9,u10,u11,u12⟩:=h.up hb
  have he1:0≤(cx b p).epoch:=he.1
  have he2:(cx b p).epoch≤300:=he.2
  exact⟨by omega,hn,by omega,by omega,by omega,hs,by omega,by omega,by omega,by omega⟩
 |false =>
  obtain⟨d1,d2,d3,d4,d5,d6,d7,d8⟩:=h.down hb
  exact⟨by omega,hn,by omega,by omega,by omega,hs,by omega,by omega,by omega,by omega⟩
theorem iL{w:World}(h:wz w):BossTight w.boss:=by
 rcases h with h|rfl
 ·exact KA h.boss
 ·exact⟨by decide,by decide,by decide,Nat.zero_le _,Nat.zero_le _,fun s hs=>(by cases hs),Nat.zero_le _,Nat.zero_le _,Nat.zero_le _,Nat.zero_le _⟩
theorem px{b:Boss}(h:BossTight b):BossLim b:=by
 obtain⟨_,_,_,h1,h2,h3,h4,h5,h6,h7⟩:=h
 exact⟨by omega,by omega,fun s q=>by have:=h3 s q;omega,by omega,by omega,by omega,by omega⟩
structure BossMid (b:Boss):Prop where
 safe:b.log.safe.length≤400
 loose:b.log.loose.length≤400
 all:∀ s∈b.log.safe++b.log.loose,s.size≤1000
 res:b.results.length≤100
 jobs:b.jobs.length≤100
 seats:b.seats.length≤100
 owed:b.owed.length≤4000
theorem Xh{b:Boss}(h:BossMid b):BossLim b:=by
 obtain⟨h1,h2,h3,h4,h5,h6,h7⟩:=h
 exact⟨by omega,by omega,fun s q=>by have:=h3 s q;omega,by omega,by omega,by omega,by omega⟩
theorem kn{b:Boss}(h:BossTight b):BossMid b:=by
 obtain⟨_,_,_,h1,h2,h3,h4,h5,h6,h7⟩:=h
 exact⟨by omega,by omega,fun s q=>by have:=h3 s q;omega,by omega,by omega,by omega,by omega⟩
theorem Qd(l:List Int)(pos:Int)(b:Boss)(hb:BossTight b)(hl:dN l)(h0:0≤pos)(h1:pos≤990000):∃ res outs,(∃ (v:Boss) (pos2:Int),res = aF v∧outs = [rdC l pos2,[]]∧BossMid v∧pos≤pos2∧pos2≤pos+20)∧F ke [.ptr (rdC l pos),.val (aF b)] res outs:=by
 have cc:=qD b (px hb)
 obtain⟨⟨b1,b2⟩,⟨b3,b4⟩,⟨b5,b6⟩,b7,b8,b9,b10,b11,b12,b13⟩:=hb
 have ej:(b.jobs.map aI).length = b.jobs.length:=List.length_map ..
 have er:(b.results.map ai).length = b.results.length:=List.length_map ..
 have m9:∀ s∈b.log.safe++b.log.loose,s.size≤1000:=fun s q=>by have:=b9 s q;omega
 refine zE ?_
 conv=>whnf
 refine g 0 0 []<|J QZ<|g 8 10 [.call (aF b) [[]]]<|J QZ<|g 0 0 []<|J UA<|Ws<|g 0 0 []<|J UA<|Wb<|Wl (fun s (x:Nat×Int)=>⟨(SK s [0,1,3,4,5] [(6,.i x.2),(7,.i x.1)]),[(198,[s.c 198 0,s.c 198 1]),(199,(CK s 199 0 12 [])),(3,(CK s 3 0 12 [])),(4,(CK s 4 0 12 [])),(5,(CK s 5 0 12 []))],[]⟩) (fun(x:Nat×Int)=>x.1≤b.jobs.length∧ -1≤x.2∧x.2 < x.1) (fun(x:Nat×Int)=>b.jobs.length - x.1) ((0,-1)) [some 198,some 199,some 3,some 4,some 5] [] ⟨rfl,FZ,⟨FZ,⟨Zaa,FZ⟩⟩,I⟩ OM ?_
 rintro⟨n,a⟩ ⟨hn,ha1,ha2⟩
 dsimp only at hn ha1 ha2
 by_cases hj:n < b.jobs.length
 ·obtain⟨j,hj1⟩:=ae hj
  by_cases hd:0 < j.lease
  ·conv=>whnf
   refine Ws<|g 10 14 []<|J UE<|Wc<|J (fun _=>(Wk (Ws (Wb (g 14 23 [.n (Prod.fst (n,a)),.x (aI j)]<|J QZ (Wc<|J (fun _=>(rg []<|J UB (rg [.i ((↑(Prod.fst (n,a)):Int) +1)]<|J QZ ?_))) (noF tO))))))) (noF tO)
   refine⟨(n+1,(n:Int)),[some 198,some 199,some 3,some 4,some 5],[],⟨rfl,FZ,⟨FZ,⟨Zaa,FZ⟩⟩,I⟩,?_,?_⟩
   rotate_left
   (dsimp only;omega)
   dsimp only
   omega
  ·conv=>whnf
   refine Ws<|g 10 14 []<|J UE<|Wc<|J (fun _=>(Wk (Ws (Wb (g 14 23 [.n (Prod.fst (n,a)),.x (aI j)]<|J QZ (Wc<|J (noT dO) fun _=>(Wk (rg [.i ((↑(Prod.fst (n,a)):Int) +1)]<|J QZ ?_)))))))) (noF tO)
   refine⟨(n+1,a),[some 198,some 199,some 3,some 4,some 5],[],⟨rfl,FZ,⟨FZ,⟨Zaa,FZ⟩⟩,I⟩,?_,?_⟩
   rotate_left
   (dsimp only;omega)
   dsimp only
   omega
 have swt:∀ q:Int,True:=fun _=>trivial
 have g3:=aj l pos 3
 by_cases hA:0≤a
 ·obtain⟨j,hj1⟩:=ae (xs:=b.jobs) (n:=a.toNat) OM
  by_cases hC:ac l pos 3 = 0
  ·have g2:=aj l (pos+1) 2
   have g22:=aj l (pos+1+1) 2
   by_cases hD:ac l (pos+1) 2 = 0
   ·conv=>whnf
    refine Ws<|g 10 14 []<|J UE<|Wc<|J (noT dO) fun _=>We<|Ws<|g 7 31 [BT,BT,.call (V.i (ac l pos 3)) ([rdC l (pos+1),[]]),BT,BT]<|J (QA @aa)<|Wc<|J (fun _=>(Ws (g 31 34 [.call (V.i (ac l (pos+1) 2)) ([rdC l (pos+1+1),[]])]<|J (QA @aa) (Wc<|J (fun _=>(rgd [[],[],[],[],[],[.i (b.now+12)],[],[.call (V.i (ac l (pos+1+1) 2)) ([rdC l (pos+1+1+1),[]])],[.i (b.now+12+ac l (pos+1+1) 2)],[.n (Int.toNat (Prod.snd (n,a)))],[],[.x (aI j)]] ?_)) (noF tO))))) (noF tO)
    conv=>whnf
    refine⟨⟨I,I,I,I,I,wO,I,⟨UB,I,UV,UA,aa _ _ _ OM OM OM OM⟩,wO,⟨OM,OM⟩,I,⟨UA,xA⟩,I⟩,by kernel_rfl,?_⟩
    refine g 6 60 []<|J QZ<|W.ret<|EndsW.rt<|J UM ?_
    exact⟨⟨b.workers,b.up,b.now,b.since,b.epoch,b.given,⟨b.log.safe,b.log.loose⟩,b.results,b.jobs.set a.toNat ⟨j.lease,j.worker,b.now+12+ac l (pos+1+1) 2⟩,b.seats,b.owed⟩,_,(by simp only[aF,List.map_set,List.map_append];rfl),rfl,⟨by dsimp only;omega,by dsimp only;omega,m9,by dsimp only;omega,by dsimp only;(try rw[List.length_set]);omega,by dsimp only;omega,by dsimp only;omega⟩,by omega,by omega⟩
   ·have pr:=aj l (pos+1+1) ((b.jobs.map aI).length:Int)
    have cr:=aa l (pos+1+1) ((b.jobs.map aI).length:Int) hl OM OM OM
    obtain⟨y,hy⟩:=ae (xs:=b.jobs) (n:=(ac l (pos+1+1) ((b.jobs.map aI).length:Int)).toNat) OM
    conv=>whnf
    refine Ws<|g 10 14 []<|J UE<|Wc<|J (noT dO) fun _=>We<|Ws<|g 7 31 [BT,BT,.call (V.i (ac l pos 3)) ([rdC l (pos+1),[]]),BT,BT]<|J (QA @aa)<|Wc<|J (fun _=>(Ws (g 31 34 [.call (V.i (ac l (pos+1) 2)) ([rdC l (pos+1+1),[]])]<|J (QA @aa) (Wc<|J (noT dO) fun _=>(rgd [[],[],[],[],[],[],[.call (V.i (ac l (pos+1+1) (↑(List.length (List.map aI b.jobs)):Int))) ([rdC l (pos+1+1+1),[]])],[],[],[],[.n (Int.toNat (Prod.snd (n,a)))],[.x (aI j)],[.n (Int.toNat (ac l (pos+1+1) (↑(List.length (List.map aI b.jobs)):Int)))],[.x (aI y)]] ?_))))) (noF tO)
    conv=>whnf
    refine⟨⟨I,I,I,I,I,I,⟨UB,I,UV,UA,AS⟩,I,I,I,⟨OM,OM⟩,xA,⟨OM,OM⟩,⟨UC,xA⟩,I⟩,by kernel_rfl,?_⟩
    refine g 49 60 []<|J QZ<|W.ret<|EndsW.rt<|J UM ?_
    exact⟨⟨b.workers,b.up,b.now,b.since,b.epoch,b.given,⟨b.log.safe,b.log.loose⟩,b.results,b.jobs.set (ac l (pos+1+1) ((b.jobs.map aI).length:Int)).toNat j,b.seats,b.owed⟩,_,(by simp only[aF,List.map_set,List.map_append];rfl),rfl,⟨by dsimp only;omega,by dsimp only;omega,m9,by dsimp only;omega,by dsimp only;(try rw[List.length_set]);omega,by dsimp only;omega,by dsimp only;omega⟩,by omega,by omega⟩
  ·skip
   have p12:=aj l (pos+1) 12
   have p11:=aj l (pos+1+1) 11
   have p4:=aj l (pos+1+1) 4
   have p3:=aj l (pos+1+1) 3
   have p2:=aj l (pos+1+1+1) 2
   have p42:=aj l (pos+1+1+1) 4
   have p43:=aj l (pos+1+1+1+1) 4
   have p32:=aj l (pos+1+1+1) 3
   have p15:=aj l (pos+1+1+1+1) 15
   obtain⟨xe,hxe1,hxe2⟩:=cX [-1,1000000,999999,1000001] (ac l (pos+1+1) 4) p4.1 (by show _ < (4:Int);omega)
   have hxe3:([[T.i (-1)],[T.i 1000000],[T.i 999999],[T.i 1000001]]:List (List T))[(ac l (pos+1+1) 4).toNat]? = some [T.i xe]:=hxe2
   obtain⟨xg,hxg1,hxg2⟩:=cX [-1,0,1000000,1000001] (ac l (pos+1+1) 4) p4.1 (by show _ < (4:Int);omega)
   have hxg3:([[T.i (-1)],[T.i 0],[T.i 1000000],[T.i 1000001]]:List (List T))[(ac l (pos+1+1) 4).toNat]? = some [T.i xg]:=hxg2
   obtain⟨xs,hxs1,hxs2⟩:=cX [-1,300,301] (ac l (pos+1+1) 3) p3.1 (by show _ < (3:Int);omega)
   have hxs3:([[T.i (-1)],[T.i 300],[T.i 301]]:List (List T))[(ac l (pos+1+1) 3).toNat]? = some [T.i xs]:=hxs2
   obtain⟨xr,hxr1,hxr2⟩:=pe [emp,⟨#[49,50,51,52,53,54,55,56]⟩] (ac l (pos+1+1+1) 2) p2.1 (by show _ < (2:Int);omega)
   have hxr3:([[T.s emp],[T.s ⟨#[49,50,51,52,53,54,55,56]⟩]]:List (List T))[(ac l (pos+1+1+1) 2).toNat]? = some [T.s xr]:=hxr2
   by_cases k0:ac l (pos+1) 12 = 0
   ·conv=>whnf
    refine Ws<|g 10 14 []<|J UE<|Wc<|J (noT dO) fun _=>We<|Ws<|g 7 31 [BT,BT,.call (V.i (ac l pos 3)) ([rdC l (pos+1),[]]),BT,BT]<|J (QA @aa)<|Wc<|J (noT dO) fun _=>Wk<|Ws<|g 6 61 [.call (V.i (ac l (pos+1) 12)) ([rdC l (pos+1+1),[]])]<|J (QA @aa)<|Wb<|g 69 70 []<|J UB ?_
    refine Wc<|J (fun _=>(rg [.call (V.i (ac l (pos+1+1) 11)) ([rdC l (pos+1+1+1),[]]),.i (ac l (pos+1+1) (11:Int) - 1)]<|J (QA @aa) (g 5 198 []<|J QZ (W.ret (EndsW.rt<|J UM ?_))))) (noF tO)
    exact⟨⟨ac l (pos+1+1) 11 - 1,b.up,b.now,b.since,b.epoch,b.given,⟨b.log.safe,b.log.loose⟩,b.results,b.jobs,b.seats,b.owed⟩,_,rfl,rfl,⟨by dsimp only;omega,by dsimp only;omega,m9,by dsimp only;omega,by dsimp only;omega,by dsimp only;omega,by dsimp only;omega⟩,by omega,by omega⟩
   by_cases k1:ac l (pos+1) 12 = 1
   ·conv=>whnf
    refine Ws<|g 10 14 []<|J UE<|Wc<|J (noT dO) fun _=>We<|Ws<|g 7 31 [BT,BT,.call (V.i (ac l pos 3)) ([rdC l (pos+1),[]]),BT,BT]<|J (QA @aa)<|Wc<|J (noT dO) fun _=>Wk<|Ws<|g 6 61 [.call (V.i (ac l (pos+1) 12)) ([rdC l (pos+1+1),[]])]<|J (QA @aa)<|Wb<|g 69 70 []<|J UB ?_
    refine Wc<|J (noT dO) fun _=>g 68 69 []<|J UB<|Wc<|J (fun _=>(rg []<|J QZ (g 5 198 []<|J QZ (W.ret (EndsW.rt<|J UM ?_))))) (noF tO)
    exact⟨⟨b.workers,!b.up,b.now,b.since,b.epoch,b.given,⟨b.log.safe,b.log.loose⟩,b.results,b.jobs,b.seats,b.owed⟩,_,rfl,rfl,⟨by dsimp only;omega,by dsimp only;omega,m9,by dsimp only;omega,by dsimp only;omega,by dsimp only;omega,by dsimp only;omega⟩,by omega,by omega⟩
   by_cases k2:ac l (pos+1) 12 = 2
   ·conv=>whnf
    refine Ws<|g 10 14 []<|J UE<|Wc<|J (noT dO) fun _=>We<|Ws<|g 7 31 [BT,BT,.call (V.i (ac l pos 3)) ([rdC l (pos+1),[]]),BT,BT]<|J (QA @aa)<|Wc<|J (noT dO) fun _=>Wk<|Ws<|g 6 61 [.call (V.i (ac l (pos+1) 12)) ([rdC l (pos+1+1),[]])]<|J (QA @aa)<|Wb<|g 69 70 []<|J UB ?_
    refine Wc<|J (noT dO) fun _=>g 68 69 []<|J UB<|Wc<|J (noT dO) fun _=>g 74 76 []<|J UB<|Wc<|J (fun _=>(rg [.call (V.i (ac l (pos+1+1) 4)) ([rdC l (pos+1+1+1),[]]),.n (Int.toNat (ac l (pos+1+1) 4)),.x ([T.i xe])]<|J (QA @aa) (g 5 198 []<|J QZ (W.ret (EndsW.rt<|J UM ?_))))) (noF tO)
    exact⟨⟨b.workers,b.up,xe,b.since,b.epoch,b.given,⟨b.log.safe,b.log.loose⟩,b.results,b.jobs,b.seats,b.owed⟩,_,rfl,rfl,⟨by dsimp only;omega,by dsimp only;omega,m9,by dsimp only;omega,by dsimp only;omega,by dsimp only;omega,by dsimp only;omega⟩,by omega,by omega⟩
   by_cases k3:ac l (pos+1) 12 = 3
   ·conv=>whnf
    refine Ws<|g 10 14 []<|J UE<|Wc<|J (noT dO) fun _=>We<|Ws<|g 7 31 [BT,BT,.call (V.i (ac l pos 3)) ([rdC l (pos+1),[]]),BT,BT]<|J (QA @aa)<|Wc<|J (noT dO) fun _=>Wk<|Ws<|g 6 61 [.call (V.i (ac l (pos+1) 12)) ([rdC l (pos+1+1),[]])]<|J (QA @aa)<|Wb<|g 69 70 []<|J UB ?_
    refine Wc<|J (noT dO) fun _=>g 68 69 []<|J UB<|Wc<|J (noT dO) fun _=>g 74 76 []<|J UB<|Wc<|J (noT dO) fun _=>g 80 82 []<|J UB<|Wc<|J (fun _=>(rg [.call (V.i (ac l (pos+1+1) 4)) ([rdC l (pos+1+1+1),[]]),.i (ac l (pos+1+1) (4:Int) - 1)]<|J (QA @aa) (g 5 198 []<|J QZ (W.ret (EndsW.rt<|J UM ?_))))) (noF tO)
    exact⟨⟨b.workers,b.up,b.now,ac l (pos+1+1) 4 - 1,b.epoch,b.given,⟨b.log.safe,b.log.loose⟩,b.results,b.jobs,b.seats,b.owed⟩,_,rfl,rfl,⟨by dsimp only;omega,by dsimp only;omega,m9,by dsimp only;omega,by dsimp only;omega,by dsimp only;omega,by dsimp only;omega⟩,by omega,by omega⟩
   by_cases k4:ac l (pos+1) 12 = 4
   ·conv=>whnf
    refine Ws<|g 10 14 []<|J UE<|Wc<|J (noT dO) fun _=>We<|Ws<|g 7 31 [BT,BT,.call (V.i (ac l pos 3)) ([rdC l (pos+1),[]]),BT,BT]<|J (QA @aa)<|Wc<|J (noT dO) fun _=>Wk<|Ws<|g 6 61 [.call (V.i (ac l (pos+1) 12)) ([rdC l (pos+1+1),[]])]<|J (QA @aa)<|Wb<|g 69 70 []<|J UB ?_
    refine Wc<|J (noT dO) fun _=>g 68 69 []<|J UB<|Wc<|J (noT dO) fun _=>g 74 76 []<|J UB<|Wc<|J (noT dO) fun _=>g 80 82 []<|J UB<|Wc<|J (noT dO) fun _=>g 88 90 []<|J UB<|Wc<|J (fun _=>(rg [.i (b.epoch+1)]<|J QZ (g 5 198 []<|J QZ (W.ret ?_)))) (noF tO)
    refine EndsW.rt<|J UM ?_
    exact⟨⟨b.workers,b.up,b.now,b.since,b.epoch+1,b.given,⟨b.log.safe,b.log.loose⟩,b.results,b.jobs,b.seats,b.owed⟩,_,rfl,rfl,⟨by dsimp only;omega,by dsimp only;omega,m9,by dsimp only;omega,by dsimp only;omega,by dsimp only;omega,by dsimp only;omega⟩,by omega,by omega⟩
   by_cases k5:ac l (pos+1) 12 = 5
   ·conv=>whnf
    refine Ws<|g 10 14 []<|J UE<|Wc<|J (noT dO) fun _=>We<|Ws<|g 7 31 [BT,BT,.call (V.i (ac l pos 3)) ([rdC l (pos+1),[]]),BT,BT]<|J (QA @aa)<|Wc<|J (noT dO) fun _=>Wk<|Ws<|g 6 61 [.call (V.i (ac l (pos+1) 12)) ([rdC l (pos+1+1),[]])]<|J (QA @aa)<|Wb<|g 69 70 []<|J UB ?_
    refine Wc<|J (noT dO) fun _=>g 68 69 []<|J UB<|Wc<|J (noT dO) fun _=>g 74 76 []<|J UB<|Wc<|J (noT dO) fun _=>g 80 82 []<|J UB<|Wc<|J (noT dO) fun _=>g 88 90 []<|J UB<|Wc<|J (noT dO) fun _=>g 94 96 []<|J UB<|Wc<|J (fun _=>(rg [.call (V.i (ac l (pos+1+1) 4)) ([rdC l (pos+1+1+1),[]]),.n (Int.toNat (ac l (pos+1+1) 4)),.x ([T.i xg])]<|J (QA @aa) ?_)) (noF tO)
    refine g 5 198 []<|J QZ<|W.ret<|EndsW.rt<|J UM ?_
    exact⟨⟨b.workers,b.up,b.now,b.since,b.epoch,xg,⟨b.log.safe,b.log.loose⟩,b.results,b.jobs,b.seats,b.owed⟩,_,rfl,rfl,⟨by dsimp only;omega,by dsimp only;omega,m9,by dsimp only;omega,by dsimp only;omega,by dsimp only;omega,by dsimp only;omega⟩,by omega,by omega⟩
   by_cases k6:ac l (pos+1) 12 = 6
   ·by_cases hr:0 < b.results.length
    ·have pr:=aj l (pos+1+1) ((b.results.map ai).length:Int)
     have cr:=aa l (pos+1+1) ((b.results.map ai).length:Int) hl OM OM OM
     obtain⟨y,hy⟩:=ae (xs:=b.results) (n:=(ac l (pos+1+1) ((b.results.map ai).length:Int)).toNat) OM
     conv=>whnf
     refine Ws<|g 10 14 []<|J UE<|Wc<|J (noT dO) fun _=>We<|Ws<|g 7 31 [BT,BT,.call (V.i (ac l pos 3)) ([rdC l (pos+1),[]]),BT,BT]<|J (QA @aa)<|Wc<|J (noT dO) fun _=>Wk<|Ws<|g 6 61 [.call (V.i (ac l (pos+1) 12)) ([rdC l (pos+1+1),[]])]<|J (QA @aa)<|Wb<|g 69 70 []<|J UB ?_
     refine Wc<|J (noT dO) fun _=>g 68 69 []<|J UB<|Wc<|J (noT dO) fun _=>g 74 76 []<|J UB<|Wc<|J (noT dO) fun _=>g 80 82 []<|J UB<|Wc<|J (noT dO) fun _=>g 88 90 []<|J UB<|Wc<|J (noT dO) fun _=>g 94 96 []<|J UB<|Wc<|J (noT dO) fun _=>g 100 102 []<|J UB ?_
     refine Wc<|J (fun _=>(g 61 113 []<|J UD (Wc<|J (fun _=>(rgd [[],[],[],[],[],[],[.call (V.i (ac l (pos+1+1) (↑(List.length (List.map ai b.results)):Int))) ([rdC l (pos+1+1+1),[]])],[],[],[.call (V.i (ac l (pos+1+1+1) 2)) ([rdC l (pos+1+1+1+1),[]])],[.n (Int.toNat (ac l (pos+1+1+1) 2))],[.x ([T.s xr])],[.n (Int.toNat (ac l (pos+1+1) (↑(List.length (List.map ai b.results)):Int)))],[.x (ai y)]] ?_)) (noF tO)))) (noF tO)
     conv=>whnf
     refine⟨⟨I,I,I,I,I,I,⟨UB,I,UV,UA,AS⟩,UT,I,⟨UB,I,UV,UA,aa _ _ _ OM OM OM OM⟩,Zar,AS,⟨OM,OM⟩,⟨UA,xA⟩,I⟩,by kernel_rfl,?_⟩
     refine g 5 198 []<|J QZ<|W.ret<|EndsW.rt<|J UM ?_
     exact⟨⟨b.workers,b.up,b.now,b.since,b.epoch,b.given,⟨b.log.safe,b.log.loose⟩,b.results.set (ac l (pos+1+1) ((b.results.map ai).length:Int)).toNat xr,b.jobs,b.seats,b.owed⟩,_,(by simp only[aF,List.map_set,List.map_append];rfl),rfl,⟨by dsimp only;omega,by dsimp only;omega,m9,by dsimp only;(try rw[List.length_set]);omega,by dsimp only;(try rw[List.length_set]);omega,by dsimp only;(try rw[List.length_set]);omega,by dsimp only;omega⟩,by omega,by omega⟩
    ·conv=>whnf
     refine Ws<|g 10 14 []<|J UE<|Wc<|J (noT dO) fun _=>We<|Ws<|g 7 31 [BT,BT,.call (V.i (ac l pos 3)) ([rdC l (pos+1),[]]),BT,BT]<|J (QA @aa)<|Wc<|J (noT dO) fun _=>Wk<|Ws<|g 6 61 [.call (V.i (ac l (pos+1) 12)) ([rdC l (pos+1+1),[]])]<|J (QA @aa)<|Wb<|g 69 70 []<|J UB ?_
     refine Wc<|J (noT dO) fun _=>g 68 69 []<|J UB<|Wc<|J (noT dO) fun _=>g 74 76 []<|J UB<|Wc<|J (noT dO) fun _=>g 80 82 []<|J UB<|Wc<|J (noT dO) fun _=>g 88 90 []<|J UB<|Wc<|J (noT dO) fun _=>g 94 96 []<|J UB<|Wc<|J (noT dO) fun _=>g 100 102 []<|J UB ?_
     refine Wc<|J (fun _=>(g 61 113 []<|J UD (Wc<|J (noT dO) fun _=>(Wk (g 0 4 []<|J QZ (W.ret (EndsW.rt<|J UM ?_))))))) (noF tO)
     exact⟨b,_,rfl,rfl,⟨by omega,by omega,m9,by omega,by omega,by omega,by omega⟩,by omega,by omega⟩
   by_cases k7:ac l (pos+1) 12 = 7
   ·by_cases hr:0 < b.jobs.length
    ·have pr:=aj l (pos+1+1) ((b.jobs.map aI).length:Int)
     have cr:=aa l (pos+1+1) ((b.jobs.map aI).length:Int) hl OM OM OM
     obtain⟨y,hy⟩:=ae (xs:=b.jobs) (n:=(ac l (pos+1+1) ((b.jobs.map aI).length:Int)).toNat) OM
     have p44:=aj l (pos+1+1+1+1) 4
     have p45:=aj l (pos+1+1+1+1+1) 15
     conv=>whnf
     refine Ws<|g 10 14 []<|J UE<|Wc<|J (noT dO) fun _=>We<|Ws<|g 7 31 [BT,BT,.call (V.i (ac l pos 3)) ([rdC l (pos+1),[]]),BT,BT]<|J (QA @aa)<|Wc<|J (noT dO) fun _=>Wk<|Ws<|g 6 61 [.call (V.i (ac l (pos+1) 12)) ([rdC l (pos+1+1),[]])]<|J (QA @aa)<|Wb<|g 69 70 []<|J UB ?_
     refine Wc<|J (noT dO) fun _=>g 68 69 []<|J UB<|Wc<|J (noT dO) fun _=>g 74 76 []<|J UB<|Wc<|J (noT dO) fun _=>g 80 82 []<|J UB<|Wc<|J (noT dO) fun _=>g 88 90 []<|J UB<|Wc<|J (noT dO) fun _=>g 94 96 []<|J UB<|Wc<|J (noT dO) fun _=>g 100 102 []<|J UB ?_
     refine Wc<|J (noT dO) fun _=>g 108 110 []<|J UB<|Wc<|J (fun _=>(g 61 132 []<|J UD (Wc<|J (fun _=>(rgd [[],[],[],[],[],[],[.call (V.i (ac l (pos+1+1) (↑(List.length (List.map aI b.jobs)):Int))) ([rdC l (pos+1+1+1),[]])],[],[],[.i (b.epoch - 1)],[.i ((b.epoch - 1) * 1000000)],[],[.call (V.i (ac l (pos+1+1+1) 4)) ([rdC l (pos+1+1+1+1),[]])],[.i ((b.epoch - 1) * 1000000+ac l (pos+1+1+1) 4)],[],[.call (V.i (ac l (pos+1+1+1+1) 4)) ([rdC l (pos+1+1+1+1+1),[]])],[],[],[],[.call (V.i (ac l (pos+1+1+1+1+1) 15)) ([rdC l (pos+1+1+1+1+1+1),[]])],[.i (b.now+ac l (pos+1+1+1+1+1) 15)],[],[.n (Int.toNat (ac l (pos+1+1) (↑(List.length (List.map aI b.jobs)):Int)))],[.x (aI y)]] ?_)) (noF tO)))) (noF tO)
     conv=>whnf
     refine⟨⟨I,I,I,I,I,I,⟨UB,I,UV,UA,AS⟩,I,I,wO,wO,I,⟨UB,I,UV,UA,aa _ _ _ OM OM OM OM⟩,wO,I,⟨UB,I,UV,UA,aa _ _ _ OM OM OM OM⟩,I,I,I,⟨UB,I,UV,UA,aa _ _ _ OM OM OM OM⟩,wO,I,⟨OM,OM⟩,⟨UC,xA⟩,I⟩,by kernel_rfl,?_⟩
     refine g 5 198 []<|J QZ<|W.ret<|EndsW.rt<|J UM ?_
     exact⟨⟨b.workers,b.up,b.now,b.since,b.epoch,b.given,⟨b.log.safe,b.log.loose⟩,b.results,b.jobs.set (ac l (pos+1+1) ((b.jobs.map aI).length:Int)).toNat ⟨(b.epoch - 1) * 1000000+ac l (pos+1+1+1) 4,ac l (pos+1+1+1+1) 4,b.now+ac l (pos+1+1+1+1+1) 15⟩,b.seats,b.owed⟩,_,(by simp only[aF,List.map_set,List.map_append];rfl),rfl,⟨by dsimp only;omega,by dsimp only;omega,m9,by dsimp only;(try rw[List.length_set]);omega,by dsimp only;(try rw[List.length_set]);omega,by dsimp only;(try rw[List.length_set]);omega,by dsimp only;omega⟩,by omega,by omega⟩
    ·exfalso;omega
   by_cases k8:ac l (pos+1) 12 = 8
   ·have p44:=aj l (pos+1+1) 4
    have p45:=aj l (pos+1+1+1) 3
    have p46:=aj l (pos+1+1+1+1) 4
    conv=>whnf
    refine Ws<|g 10 14 []<|J UE<|Wc<|J (noT dO) fun _=>We<|Ws<|g 7 31 [BT,BT,.call (V.i (ac l pos 3)) ([rdC l (pos+1),[]]),BT,BT]<|J (QA @aa)<|Wc<|J (noT dO) fun _=>Wk<|Ws<|g 6 61 [.call (V.i (ac l (pos+1) 12)) ([rdC l (pos+1+1),[]])]<|J (QA @aa)<|Wb<|g 69 70 []<|J UB ?_
    refine Wc<|J (noT dO) fun _=>g 68 69 []<|J UB<|Wc<|J (noT dO) fun _=>g 74 76 []<|J UB<|Wc<|J (noT dO) fun _=>g 80 82 []<|J UB<|Wc<|J (noT dO) fun _=>g 88 90 []<|J UB<|Wc<|J (noT dO) fun _=>g 94 96 []<|J UB<|Wc<|J (noT dO) fun _=>g 100 102 []<|J UB ?_
    refine Wc<|J (noT dO) fun _=>g 108 110 []<|J UB<|Wc<|J (noT dO) fun _=>g 127 129 []<|J UB<|Wc<|J (fun _=>(rgd [[],[],[],[.call (V.i (ac l (pos+1+1) 4)) ([rdC l (pos+1+1+1),[]])],[],[.call (V.i (ac l (pos+1+1+1) 3)) ([rdC l (pos+1+1+1+1),[]])],[],[.call (V.i (ac l (pos+1+1+1+1) 4)) ([rdC l (pos+1+1+1+1+1),[]])],[],[],[],[],[]] ?_)) (noF tO)
    conv=>whnf
    refine⟨⟨I,I,I,⟨UB,I,UV,UA,aa _ _ _ OM OM OM OM⟩,I,⟨UB,I,UV,UA,aa _ _ _ OM OM OM OM⟩,I,⟨UB,I,UV,UA,aa _ _ _ OM OM OM OM⟩,I,⟨UC,I⟩,Zao,I,UA,I⟩,by kernel_rfl,?_⟩
    refine g 5 198 []<|J QZ<|W.ret<|EndsW.rt<|J UM ?_
    exact⟨⟨b.workers,b.up,b.now,b.since,b.epoch,b.given,⟨b.log.safe,b.log.loose⟩,b.results,b.jobs,b.seats,b.owed++ [⟨ac l (pos+1+1) 4,ac l (pos+1+1+1) 3,ac l (pos+1+1+1+1) 4⟩]⟩,_,(by simp only[aF,List.map_set,List.map_append];rfl),rfl,⟨by dsimp only;omega,by dsimp only;omega,m9,by dsimp only;omega,by dsimp only;omega,by dsimp only;omega,by simp only[List.length_append,List.length_singleton];omega⟩,by omega,by omega⟩
   by_cases k9:ac l (pos+1) 12 = 9
   ·have ce:=qJ l (pos+1+1) hl OM OM
    obtain⟨e1,e2,e3,e4⟩:=K4 l (pos+1+1)
    have hfs:=iP (gl l (pos+1+1)).1
    generalize(gl l (pos+1+1)).1 = e at ce e1 e2 hfs
    generalize(gl l (pos+1+1)).2 = u at ce e3 e4
    have cf:=dk e.kind e.epoch e.task e.text OM
    change F _ _ (.s (bT e)) _ at cf
    conv=>whnf
    refine Ws<|g 10 14 []<|J UE<|Wc<|J (noT dO) fun _=>We<|Ws<|g 7 31 [BT,BT,.call (V.i (ac l pos 3)) ([rdC l (pos+1),[]]),BT,BT]<|J (QA @aa)<|Wc<|J (noT dO) fun _=>Wk<|Ws<|g 6 61 [.call (V.i (ac l (pos+1) 12)) ([rdC l (pos+1+1),[]])]<|J (QA @aa)<|Wb<|g 69 70 []<|J UB ?_
    refine Wc<|J (noT dO) fun _=>g 68 69 []<|J UB<|Wc<|J (noT dO) fun _=>g 74 76 []<|J UB<|Wc<|J (noT dO) fun _=>g 80 82 []<|J UB<|Wc<|J (noT dO) fun _=>g 88 90 []<|J UB<|Wc<|J (noT dO) fun _=>g 94 96 []<|J UB<|Wc<|J (noT dO) fun _=>g 100 102 []<|J UB ?_
    refine Wc<|J (noT dO) fun _=>g 108 110 []<|J UB<|Wc<|J (noT dO) fun _=>g 127 129 []<|J UB<|Wc<|J (noT dO) fun _=>g 156 158 []<|J UB<|Wc<|J (fun _=>(rgd [[],[],[],[],[.call (iQ e.kind e.epoch e.task e.text) ([rdC l u])],[.call (V.s (bT e)) [[]]],[],[],[],[],[]] ?_)) (noF tO)
    conv=>whnf
    refine⟨⟨I,I,I,I,⟨UA,I,UA,UA,AS⟩,⟨UA,I,⟨UD,I⟩,UA,AS⟩,US,Zao,I,I,UA,I⟩,by kernel_rfl,?_⟩
    refine g 5 198 []<|J QZ<|W.ret<|EndsW.rt<|J UM ?_
    exact⟨⟨b.workers,b.up,b.now,b.since,b.epoch,b.given,⟨b.log.safe,b.log.loose++ [bT e]⟩,b.results,b.jobs,b.seats,b.owed⟩,_,(by simp only[aF,List.map_set,List.map_append];rfl),rfl,⟨by dsimp only;omega,by simp only[List.length_append,List.length_singleton];omega,fun s q=>by rcases List.mem_append.1 q with q|q;exact m9 s (List.mem_append_left _ q);rcases List.mem_append.1 q with q|q;exact m9 s (List.mem_append_right _ q);rw[List.mem_singleton.1 q];omega,by dsimp only;omega,by dsimp only;omega,by dsimp only;omega,by dsimp only;omega⟩,by omega,by omega⟩
   by_cases k10:ac l (pos+1) 12 = 10
   ·by_cases hr:0 < b.seats.length
    ·obtain⟨y,hy⟩:=ae (xs:=b.seats) (n:=0) OM
     conv=>whnf
     refine Ws<|g 10 14 []<|J UE<|Wc<|J (noT dO) fun _=>We<|Ws<|g 7 31 [BT,BT,.call (V.i (ac l pos 3)) ([rdC l (pos+1),[]]),BT,BT]<|J (QA @aa)<|Wc<|J (noT dO) fun _=>Wk<|Ws<|g 6 61 [.call (V.i (ac l (pos+1) 12)) ([rdC l (pos+1+1),[]])]<|J (QA @aa)<|Wb<|g 69 70 []<|J UB ?_
     refine Wc<|J (noT dO) fun _=>g 68 69 []<|J UB<|Wc<|J (noT dO) fun _=>g 74 76 []<|J UB<|Wc<|J (noT dO) fun _=>g 80 82 []<|J UB<|Wc<|J (noT dO) fun _=>g 88 90 []<|J UB<|Wc<|J (noT dO) fun _=>g 94 96 []<|J UB<|Wc<|J (noT dO) fun _=>g 100 102 []<|J UB ?_
     refine Wc<|J (noT dO) fun _=>g 108 110 []<|J UB<|Wc<|J (noT dO) fun _=>g 127 129 []<|J UB<|Wc<|J (noT dO) fun _=>g 156 158 []<|J UB<|Wc<|J (noT dO) fun _=>g 61 172 []<|J UB<|Wc<|J (fun _=>(g 182 187 []<|J UD (Wc<|J (fun _=>(rgd [[],[],[],[],[.call (V.i (ac l (pos+1+1) 3)) ([rdC l (pos+1+1+1),[]])],[.n (Int.toNat (ac l (pos+1+1) 3))],[.x ([T.i xs])],[.n (0)],[],[.x (aE y)]] ?_)) (noF SI)))) (noF tO)
     conv=>whnf
     refine⟨⟨I,I,UU,I,⟨UB,I,UV,UA,aa _ _ _ OM OM OM OM⟩,Zar,AS,Zan,I,⟨UA,xA⟩,I⟩,by kernel_rfl,?_⟩
     refine g 5 198 []<|J QZ<|W.ret<|EndsW.rt<|J UM ?_
     exact⟨⟨b.workers,b.up,b.now,b.since,b.epoch,b.given,⟨b.log.safe,b.log.loose⟩,b.results,b.jobs,b.seats.set 0 ⟨y.free,xs⟩,b.owed⟩,_,(by simp only[aF,List.map_set,List.map_append];rfl),rfl,⟨by dsimp only;omega,by dsimp only;omega,m9,by dsimp only;(try rw[List.length_set]);omega,by dsimp only;(try rw[List.length_set]);omega,by dsimp only;(try rw[List.length_set]);omega,by dsimp only;omega⟩,by omega,by omega⟩
    ·conv=>whnf
     refine Ws<|g 10 14 []<|J UE<|Wc<|J (noT dO) fun _=>We<|Ws<|g 7 31 [BT,BT,.call (V.i (ac l pos 3)) ([rdC l (pos+1),[]]),BT,BT]<|J (QA @aa)<|Wc<|J (noT dO) fun _=>Wk<|Ws<|g 6 61 [.call (V.i (ac l (pos+1) 12)) ([rdC l (pos+1+1),[]])]<|J (QA @aa)<|Wb<|g 69 70 []<|J UB ?_
     refine Wc<|J (noT dO) fun _=>g 68 69 []<|J UB<|Wc<|J (noT dO) fun _=>g 74 76 []<|J UB<|Wc<|J (noT dO) fun _=>g 80 82 []<|J UB<|Wc<|J (noT dO) fun _=>g 88 90 []<|J UB<|Wc<|J (noT dO) fun _=>g 94 96 []<|J UB<|Wc<|J (noT dO) fun _=>g 100 102 []<|J UB ?_
     refine Wc<|J (noT dO) fun _=>g 108 110 []<|J UB<|Wc<|J (noT dO) fun _=>g 127 129 []<|J UB<|Wc<|J (noT dO) fun _=>g 156 158 []<|J UB<|Wc<|J (noT dO) fun _=>g 61 172 []<|J UB<|Wc<|J (fun _=>(g 182 187 []<|J UD (Wc<|J (noT SI) fun _=>(Wk ?_)))) (noF tO)
     refine g 0 4 []<|J QZ<|W.ret<|EndsW.rt<|J UM ?_
     exact⟨b,_,rfl,rfl,⟨by omega,by omega,m9,by omega,by omega,by omega,by omega⟩,by omega,by omega⟩
   ·conv=>whnf
    refine Ws<|g 10 14 []<|J UE<|Wc<|J (noT dO) fun _=>We<|Ws<|g 7 31 [BT,BT,.call (V.i (ac l pos 3)) ([rdC l (pos+1),[]]),BT,BT]<|J (QA @aa)<|Wc<|J (noT dO) fun _=>Wk<|Ws<|g 6 61 [.call (V.i (ac l (pos+1) 12)) ([rdC l (pos+1+1),[]])]<|J (QA @aa)<|Wb<|g 69 70 []<|J UB ?_
    refine Wc<|J (noT dO) fun _=>g 68 69 []<|J UB<|Wc<|J (noT dO) fun _=>g 74 76 []<|J UB<|Wc<|J (noT dO) fun _=>g 80 82 []<|J UB<|Wc<|J (noT dO) fun _=>g 88 90 []<|J UB<|Wc<|J (noT dO) fun _=>g 94 96 []<|J UB<|Wc<|J (noT dO) fun _=>g 100 102 []<|J UB ?_
    refine Wc<|J (noT dO) fun _=>g 108 110 []<|J UB<|Wc<|J (noT dO) fun _=>g 127 129 []<|J UB<|Wc<|J (noT dO) fun _=>g 156 158 []<|J UB<|Wc<|J (noT dO) fun _=>g 61 172 []<|J UB<|Wc<|J (noT dO) fun _=>rg []<|J QZ<|g 5 198 []<|J QZ<|W.ret ?_
    refine EndsW.rt<|J UM ?_
    exact⟨⟨b.workers,b.up,b.now,b.since,b.epoch,b.given,⟨b.log.safe,b.log.loose⟩,b.results,b.jobs,b.seats++ [⟨false,0⟩],b.owed⟩,_,(by simp only[aF,List.map_set,List.map_append];rfl),rfl,⟨by dsimp only;omega,by dsimp only;omega,m9,by dsimp only;omega,by dsimp only;omega,by simp only[List.length_append,List.length_singleton];omega,by dsimp only;omega⟩,by omega,by omega⟩
 ·skip
  have p12:=aj l (pos) 12
  have p11:=aj l (pos+1) 11
  have p4:=aj l (pos+1) 4
  have p3:=aj l (pos+1) 3
  have p2:=aj l (pos+1+1) 2
  have p42:=aj l (pos+1+1) 4
  have p43:=aj l (pos+1+1+1) 4
  have p32:=aj l (pos+1+1) 3
  have p15:=aj l (pos+1+1+1) 15
  obtain⟨xe,hxe1,hxe2⟩:=cX [-1,1000000,999999,1000001] (ac l (pos+1) 4) p4.1 (by show _ < (4:Int);omega)
  have hxe3:([[T.i (-1)],[T.i 1000000],[T.i 999999],[T.i 1000001]]:List (List T))[(ac l (pos+1) 4).toNat]? = some [T.i xe]:=hxe2
  obtain⟨xg,hxg1,hxg2⟩:=cX [-1,0,1000000,1000001] (ac l (pos+1) 4) p4.1 (by show _ < (4:Int);omega)
  have hxg3:([[T.i (-1)],[T.i 0],[T.i 1000000],[T.i 1000001]]:List (List T))[(ac l (pos+1) 4).toNat]? = some [T.i xg]:=hxg2
  obtain⟨xs,hxs1,hxs2⟩:=cX [-1,300,301] (ac l (pos+1) 3) p3.1 (by show _ < (3:Int);omega)
  have hxs3:([[T.i (-1)],[T.i 300],[T.i 301]]:List (List T))[(ac l (pos+1) 3).toNat]? = some [T.i xs]:=hxs2
  obtain⟨xr,hxr1,hxr2⟩:=pe [emp,⟨#[49,50,51,52,53,54,55,56]⟩] (ac l (pos+1+1) 2) p2.1 (by show _ < (2:Int);omega)
  have hxr3:([[T.s emp],[T.s ⟨#[49,50,51,52,53,54,55,56]⟩]]:List (List T))[(ac l (pos+1+1) 2).toNat]? = some [T.s xr]:=hxr2
  by_cases k0:ac l (pos) 12 = 0
  ·conv=>whnf
   refine Ws<|g 10 14 []<|J UE<|Wc<|J (noT dO) fun _=>We<|Ws<|g 7 31 [BF,BF,BF,BF]<|J QZ<|Wc<|J (noT rfl) fun _=>Wk<|Ws<|g 6 61 [.call (V.i (ac l pos 12)) ([rdC l (pos+1),[]])]<|J (QA @aa)<|Wb<|g 69 70 []<|J UB ?_
   refine Wc<|J (fun _=>(rg [.call (V.i (ac l (pos+1) 11)) ([rdC l (pos+1+1),[]]),.i (ac l (pos+1) (11:Int) - 1)]<|J (QA @aa) (g 5 198 []<|J QZ (W.ret (EndsW.rt<|J UM ?_))))) (noF tO)
   exact⟨⟨ac l (pos+1) 11 - 1,b.up,b.now,b.since,b.epoch,b.given,⟨b.log.safe,b.log.loose⟩,b.results,b.jobs,b.seats,b.owed⟩,_,rfl,rfl,⟨by dsimp only;omega,by dsimp only;omega,m9,by dsimp only;omega,by dsimp only;omega,by dsimp only;omega,by dsimp only;omega⟩,by omega,by omega⟩
  by_cases k1:ac l (pos) 12 = 1
  ·conv=>whnf
   refine Ws<|g 10 14 []<|J UE<|Wc<|J (noT dO) fun _=>We<|Ws<|g 7 31 [BF,BF,BF,BF]<|J QZ<|Wc<|J (noT rfl) fun _=>Wk<|Ws<|g 6 61 [.call (V.i (ac l pos 12)) ([rdC l (pos+1),[]])]<|J (QA @aa)<|Wb<|g 69 70 []<|J UB ?_
   refine Wc<|J (noT dO) fun _=>g 68 69 []<|J UB<|Wc<|J (fun _=>(rg []<|J QZ (g 5 198 []<|J QZ (W.ret (EndsW.rt<|J UM ?_))))) (noF tO)
   exact⟨⟨b.workers,!b.up,b.now,b.since,b.epoch,b.given,⟨b.log.safe,b.log.loose⟩,b.results,b.jobs,b.seats,b.owed⟩,_,rfl,rfl,⟨by dsimp only;omega,by dsimp only;omega,m9,by dsimp only;omega,by dsimp only;omega,by dsimp only;omega,by dsimp only;omega⟩,by omega,by omega⟩
  by_cases k2:ac l (pos) 12 = 2
  ·conv=>whnf
   refine Ws<|g 10 14 []<|J UE<|Wc<|J (noT dO) fun _=>We<|Ws<|g 7 31 [BF,BF,BF,BF]<|J QZ<|Wc<|J (noT rfl) fun _=>Wk<|Ws<|g 6 61 [.call (V.i (ac l pos 12)) ([rdC l (pos+1),[]])]<|J (QA @aa)<|Wb<|g 69 70 []<|J UB ?_
   refine Wc<|J (noT dO) fun _=>g 68 69 []<|J UB<|Wc<|J (noT dO) fun _=>g 74 76 []<|J UB<|Wc<|J (fun _=>(rg [.call (V.i (ac l (pos+1) 4)) ([rdC l (pos+1+1),[]]),.n (Int.toNat (ac l (pos+1) 4)),.x ([T.i xe])]<|J (QA @aa) (g 5 198 []<|J QZ (W.ret (EndsW.rt<|J UM ?_))))) (noF tO)
   exact⟨⟨b.workers,b.up,xe,b.since,b.epoch,b.given,⟨b.log.safe,b.log.loose⟩,b.results,b.jobs,b.seats,b.owed⟩,_,rfl,rfl,⟨by dsimp only;omega,by dsimp only;omega,m9,by dsimp only;omega,by dsimp only;omega,by dsimp only;omega,by dsimp only;omega⟩,by omega,by omega⟩
  by_cases k3:ac l (pos) 12 = 3
  ·conv=>whnf
   refine Ws<|g 10 14 []<|J UE<|Wc<|J (noT dO) fun _=>We<|Ws<|g 7 31 [BF,BF,BF,BF]<|J QZ<|Wc<|J (noT rfl) fun _=>Wk<|Ws<|g 6 61 [.call (V.i (ac l pos 12)) ([rdC l (pos+1),[]])]<|J (QA @aa)<|Wb<|g 69 70 []<|J UB ?_
   refine Wc<|J (noT dO) fun _=>g 68 69 []<|J UB<|Wc<|J (noT dO) fun _=>g 74 76 []<|J UB<|Wc<|J (noT dO) fun _=>g 80 82 []<|J UB<|Wc<|J (fun _=>(rg [.call (V.i (ac l (pos+1) 4)) ([rdC l (pos+1+1),[]]),.i (ac l (pos+1) (4:Int) - 1)]<|J (QA @aa) (g 5 198 []<|J QZ (W.ret (EndsW.rt<|J UM ?_))))) (noF tO)
   exact⟨⟨b.workers,b.up,b.now,ac l (pos+1) 4 - 1,b.epoch,b.given,⟨b.log.safe,b.log.loose⟩,b.results,b.jobs,b.seats,b.owed⟩,_,rfl,rfl,⟨by dsimp only;omega,by dsimp only;omega,m9,by dsimp only;omega,by dsimp only;omega,by dsimp only;omega,by dsimp only;omega⟩,by omega,by omega⟩
  by_cases k4:ac l (pos) 12 = 4
  ·conv=>whnf
   refine Ws<|g 10 14 []<|J UE<|Wc<|J (noT dO) fun _=>We<|Ws<|g 7 31 [BF,BF,BF,BF]<|J QZ<|Wc<|J (noT rfl) fun _=>Wk<|Ws<|g 6 61 [.call (V.i (ac l pos 12)) ([rdC l (pos+1),[]])]<|J (QA @aa)<|Wb<|g 69 70 []<|J UB ?_
   refine Wc<|J (noT dO) fun _=>g 68 69 []<|J UB<|Wc<|J (noT dO) fun _=>g 74 76 []<|J UB<|Wc<|J (noT dO) fun _=>g 80 82 []<|J UB<|Wc<|J (noT dO) fun _=>g 88 90 []<|J UB<|Wc<|J (fun _=>(rg [.i (b.epoch+1)]<|J QZ (g 5 198 []<|J QZ (W.ret ?_)))) (noF tO)
   refine EndsW.rt<|J UM ?_
   exact⟨⟨b.workers,b.up,b.now,b.since,b.epoch+1,b.given,⟨b.log.safe,b.log.loose⟩,b.results,b.jobs,b.seats,b.owed⟩,_,rfl,rfl,⟨by dsimp only;omega,by dsimp only;omega,m9,by dsimp only;omega,by dsimp only;omega,by dsimp only;omega,by dsimp only;omega⟩,by omega,by omega⟩
  by_cases k5:ac l (pos) 12 = 5
  ·conv=>whnf
   refine Ws<|g 10 14 []<|J UE<|Wc<|J (noT dO) fun _=>We<|Ws<|g 7 31 [BF,BF,BF,BF]<|J QZ<|Wc<|J (noT rfl) fun _=>Wk<|Ws<|g 6 61 [.call (V.i (ac l pos 12)) ([rdC l (pos+1),[]])]<|J (QA @aa)<|Wb<|g 69 70 []<|J UB ?_
   refine Wc<|J (noT dO) fun _=>g 68 69 []<|J UB<|Wc<|J (noT dO) fun _=>g 74 76 []<|J UB<|Wc<|J (noT dO) fun _=>g 80 82 []<|J UB<|Wc<|J (noT dO) fun _=>g 88 90 []<|J UB<|Wc<|J (noT dO) fun _=>g 94 96 []<|J UB<|Wc<|J (fun _=>(rg [.call (V.i (ac l (pos+1) 4)) ([rdC l (pos+1+1),[]]),.n (Int.toNat (ac l (pos+1) 4)),.x ([T.i xg])]<|J (QA @aa) ?_)) (noF tO)
   refine g 5 198 []<|J QZ<|W.ret<|EndsW.rt<|J UM ?_
   exact⟨⟨b.workers,b.up,b.now,b.since,b.epoch,xg,⟨b.log.safe,b.log.loose⟩,b.results,b.jobs,b.seats,b.owed⟩,_,rfl,rfl,⟨by dsimp only;omega,by dsimp only;omega,m9,by dsimp only;omega,by dsimp only;omega,by dsimp only;omega,by dsimp only;omega⟩,by omega,by omega⟩
  by_cases k6:ac l (pos) 12 = 6
  ·by_cases hr:0 < b.results.length
   ·have pr:=aj l (pos+1) ((b.results.map ai).length:Int)
    have cr:=aa l (pos+1) ((b.results.map ai).length:Int) hl OM OM OM
    obtain⟨y,hy⟩:=ae (xs:=b.results) (n:=(ac l (pos+1) ((b.results.map ai).length:Int)).toNat) OM
    conv=>whnf
    refine Ws<|g 10 14 []<|J UE<|Wc<|J (noT dO) fun _=>We<|Ws<|g 7 31 [BF,BF,BF,BF]<|J QZ<|Wc<|J (noT rfl) fun _=>Wk<|Ws<|g 6 61 [.call (V.i (ac l pos 12)) ([rdC l (pos+1),[]])]<|J (QA @aa)<|Wb<|g 69 70 []<|J UB ?_
    refine Wc<|J (noT dO) fun _=>g 68 69 []<|J UB<|Wc<|J (noT dO) fun _=>g 74 76 []<|J UB<|Wc<|J (noT dO) fun _=>g 80 82 []<|J UB<|Wc<|J (noT dO) fun _=>g 88 90 []<|J UB<|Wc<|J (noT dO) fun _=>g 94 96 []<|J UB<|Wc<|J (noT dO) fun _=>g 100 102 []<|J UB ?_
    refine Wc<|J (fun _=>(g 61 113 []<|J UD (Wc<|J (fun _=>(rgd [[],[],[],[],[],[],[.call (V.i (ac l (pos+1) (↑(List.length (List.map ai b.results)):Int))) ([rdC l (pos+1+1),[]])],[],[],[.call (V.i (ac l (pos+1+1) 2)) ([rdC l (pos+1+1+1),[]])],[.n (Int.toNat (ac l (pos+1+1) 2))],[.x ([T.s xr])],[.n (Int.toNat (ac l (pos+1) (↑(List.length (List.map ai b.results)):Int)))],[.x (ai y)]] ?_)) (noF tO)))) (noF tO)
    conv=>whnf
    refine⟨⟨I,I,I,I,I,I,⟨UB,I,UV,UA,AS⟩,UT,I,⟨UB,I,UV,UA,aa _ _ _ OM OM OM OM⟩,Zar,AS,⟨OM,OM⟩,⟨UA,xA⟩,I⟩,by kernel_rfl,?_⟩
    refine g 5 198 []<|J QZ<|W.ret<|EndsW.rt<|J UM ?_
    exact⟨⟨b.workers,b.up,b.now,b.since,b.epoch,b.given,⟨b.log.safe,b.log.loose⟩,b.results.set (ac l (pos+1) ((b.results.map ai).length:Int)).toNat xr,b.jobs,b.seats,b.owed⟩,_,(by simp only[aF,List.map_set,List.map_append];rfl),rfl,⟨by dsimp only;omega,by dsimp only;omega,m9,by dsimp only;(try rw[List.length_set]);omega,by dsimp only;(try rw[List.length_set]);omega,by dsimp only;(try rw[List.length_set]);omega,by dsimp only;omega⟩,by omega,by omega⟩
   ·conv=>whnf
    refine Ws<|g 10 14 []<|J UE<|Wc<|J (noT dO) fun _=>We<|Ws<|g 7 31 [BF,BF,BF,BF]<|J QZ<|Wc<|J (noT rfl) fun _=>Wk<|Ws<|g 6 61 [.call (V.i (ac l pos 12)) ([rdC l (pos+1),[]])]<|J (QA @aa)<|Wb<|g 69 70 []<|J UB ?_
    refine Wc<|J (noT dO) fun _=>g 68 69 []<|J UB<|Wc<|J (noT dO) fun _=>g 74 76 []<|J UB<|Wc<|J (noT dO) fun _=>g 80 82 []<|J UB<|Wc<|J (noT dO) fun _=>g 88 90 []<|J UB<|Wc<|J (noT dO) fun _=>g 94 96 []<|J UB<|Wc<|J (noT dO) fun _=>g 100 102 []<|J UB ?_
    refine Wc<|J (fun _=>(g 61 113 []<|J UD (Wc<|J (noT dO) fun _=>(Wk (g 0 4 []<|J QZ (W.ret (EndsW.rt<|J UM ?_))))))) (noF tO)
    exact⟨b,_,rfl,rfl,⟨by omega,by omega,m9,by omega,by omega,by omega,by omega⟩,by omega,by omega⟩
  by_cases k7:ac l (pos) 12 = 7
  ·by_cases hr:0 < b.jobs.length
   ·have pr:=aj l (pos+1) ((b.jobs.map aI).length:Int)
    have cr:=aa l (pos+1) ((b.jobs.map aI).length:Int) hl OM OM OM
    obtain⟨y,hy⟩:=ae (xs:=b.jobs) (n:=(ac l (pos+1) ((b.jobs.map aI).length:Int)).toNat) OM
    have p44:=aj l (pos+1+1+1) 4
    have p45:=aj l (pos+1+1+1+1) 15
    conv=>whnf
    refine Ws<|g 10 14 []<|J UE<|Wc<|J (noT dO) fun _=>We<|Ws<|g 7 31 [BF,BF,BF,BF]<|J QZ<|Wc<|J (noT rfl) fun _=>Wk<|Ws<|g 6 61 [.call (V.i (ac l pos 12)) ([rdC l (pos+1),[]])]<|J (QA @aa)<|Wb<|g 69 70 []<|J UB ?_
    refine Wc<|J (noT dO) fun _=>g 68 69 []<|J UB<|Wc<|J (noT dO) fun _=>g 74 76 []<|J UB<|Wc<|J (noT dO) fun _=>g 80 82 []<|J UB<|Wc<|J (noT dO) fun _=>g 88 90 []<|J UB<|Wc<|J (noT dO) fun _=>g 94 96 []<|J UB<|Wc<|J (noT dO) fun _=>g 100 102 []<|J UB ?_
    refine Wc<|J (noT dO) fun _=>g 108 110 []<|J UB<|Wc<|J (fun _=>(g 61 132 []<|J UD (Wc<|J (fun _=>(rgd [[],[],[],[],[],[],[.call (V.i (ac l (pos+1) (↑(List.length (List.map aI b.jobs)):Int))) ([rdC l (pos+1+1),[]])],[],[],[.i (b.epoch - 1)],[.i ((b.epoch - 1) * 1000000)],[],[.call (V.i (ac l (pos+1+1) 4)) ([rdC l (pos+1+1+1),[]])],[.i ((b.epoch - 1) * 1000000+ac l (pos+1+1) 4)],[],[.call (V.i (ac l (pos+1+1+1) 4)) ([rdC l (pos+1+1+1+1),[]])],[],[],[],[.call (V.i (ac l (pos+1+1+1+1) 15)) ([rdC l (pos+1+1+1+1+1),[]])],[.i (b.now+ac l (pos+1+1+1+1) 15)],[],[.n (Int.toNat (ac l (pos+1) (↑(List.length (List.map aI b.jobs)):Int)))],[.x (aI y)]] ?_)) (noF tO)))) (noF tO)
    conv=>whnf
    refine⟨⟨I,I,I,I,I,I,⟨UB,I,UV,UA,AS⟩,I,I,wO,wO,I,⟨UB,I,UV,UA,aa _ _ _ OM OM OM OM⟩,wO,I,⟨UB,I,UV,UA,aa _ _ _ OM OM OM OM⟩,I,I,I,⟨UB,I,UV,UA,aa _ _ _ OM OM OM OM⟩,wO,I,⟨OM,OM⟩,⟨UC,xA⟩,I⟩,by kernel_rfl,?_⟩
    refine g 5 198 []<|J QZ<|W.ret<|EndsW.rt<|J UM ?_
    exact⟨⟨b.workers,b.up,b.now,b.since,b.epoch,b.given,⟨b.log.safe,b.log.loose⟩,b.results,b.jobs.set (ac l (pos+1) ((b.jobs.map aI).length:Int)).toNat ⟨(b.epoch - 1) * 1000000+ac l (pos+1+1) 4,ac l (pos+1+1+1) 4,b.now+ac l (pos+1+1+1+1) 15⟩,b.seats,b.owed⟩,_,(by simp only[aF,List.map_set,List.map_append];rfl),rfl,⟨by dsimp only;omega,by dsimp only;omega,m9,by dsimp only;(try rw[List.length_set]);omega,by dsimp only;(try rw[List.length_set]);omega,by dsimp only;(try rw[List.length_set]);omega,by dsimp only;omega⟩,by omega,by omega⟩
   ·conv=>whnf
    refine Ws<|g 10 14 []<|J UE<|Wc<|J (noT dO) fun _=>We<|Ws<|g 7 31 [BF,BF,BF,BF]<|J QZ<|Wc<|J (noT rfl) fun _=>Wk<|Ws<|g 6 61 [.call (V.i (ac l pos 12)) ([rdC l (pos+1),[]])]<|J (QA @aa)<|Wb<|g 69 70 []<|J UB ?_
    refine Wc<|J (noT dO) fun _=>g 68 69 []<|J UB<|Wc<|J (noT dO) fun _=>g 74 76 []<|J UB<|Wc<|J (noT dO) fun _=>g 80 82 []<|J UB<|Wc<|J (noT dO) fun _=>g 88 90 []<|J UB<|Wc<|J (noT dO) fun _=>g 94 96 []<|J UB<|Wc<|J (noT dO) fun _=>g 100 102 []<|J UB ?_
    refine Wc<|J (noT dO) fun _=>g 108 110 []<|J UB<|Wc<|J (fun _=>(g 61 132 []<|J UD (Wc<|J (noT dO) fun _=>(Wk (g 0 4 []<|J QZ (W.ret (EndsW.rt<|J UM ?_))))))) (noF tO)
    exact⟨b,_,rfl,rfl,⟨by omega,by omega,m9,by omega,by omega,by omega,by omega⟩,by omega,by omega⟩
  by_cases k8:ac l (pos) 12 = 8
  ·have p44:=aj l (pos+1) 4
   have p45:=aj l (pos+1+1) 3
   have p46:=aj l (pos+1+1+1) 4
   conv=>whnf
   refine Ws<|g 10 14 []<|J UE<|Wc<|J (noT dO) fun _=>We<|Ws<|g 7 31 [BF,BF,BF,BF]<|J QZ<|Wc<|J (noT rfl) fun _=>Wk<|Ws<|g 6 61 [.call (V.i (ac l pos 12)) ([rdC l (pos+1),[]])]<|J (QA @aa)<|Wb<|g 69 70 []<|J UB ?_
   refine Wc<|J (noT dO) fun _=>g 68 69 []<|J UB<|Wc<|J (noT dO) fun _=>g 74 76 []<|J UB<|Wc<|J (noT dO) fun _=>g 80 82 []<|J UB<|Wc<|J (noT dO) fun _=>g 88 90 []<|J UB<|Wc<|J (noT dO) fun _=>g 94 96 []<|J UB<|Wc<|J (noT dO) fun _=>g 100 102 []<|J UB ?_
   refine Wc<|J (noT dO) fun _=>g 108 110 []<|J UB<|Wc<|J (noT dO) fun _=>g 127 129 []<|J UB<|Wc<|J (fun _=>(rgd [[],[],[],[.call (V.i (ac l (pos+1) 4)) ([rdC l (pos+1+1),[]])],[],[.call (V.i (ac l (pos+1+1) 3)) ([rdC l (pos+1+1+1),[]])],[],[.call (V.i (ac l (pos+1+1+1) 4)) ([rdC l (pos+1+1+1+1),[]])],[],[],[],[],[]] ?_)) (noF tO)
   conv=>whnf
   refine⟨⟨I,I,I,⟨UB,I,UV,UA,aa _ _ _ OM OM OM OM⟩,I,⟨UB,I,UV,UA,aa _ _ _ OM OM OM OM⟩,I,⟨UB,I,UV,UA,aa _ _ _ OM OM OM OM⟩,I,⟨UC,I⟩,Zao,I,UA,I⟩,by kernel_rfl,?_⟩
   refine g 5 198 []<|J QZ<|W.ret<|EndsW.rt<|J UM ?_
   exact⟨⟨b.workers,b.up,b.now,b.since,b.epoch,b.given,⟨b.log.safe,b.log.loose⟩,b.results,b.jobs,b.seats,b.owed++ [⟨ac l (pos+1) 4,ac l (pos+1+1) 3,ac l (pos+1+1+1) 4⟩]⟩,_,(by simp only[aF,List.map_set,List.map_append];rfl),rfl,⟨by dsimp only;omega,by dsimp only;omega,m9,by dsimp only;omega,by dsimp only;omega,by dsimp only;omega,by simp only[List.length_append,List.length_singleton];omega⟩,by omega,by omega⟩
  by_cases k9:ac l (pos) 12 = 9
  ·have ce:=qJ l (pos+1) hl OM OM
   obtain⟨e1,e2,e3,e4⟩:=K4 l (pos+1)
   have hfs:=iP (gl l (pos+1)).1
   generalize(gl l (pos+1)).1 = e at ce e1 e2 hfs
   generalize(gl l (pos+1)).2 = u at ce e3 e4
   have cf:=dk e.kind e.epoch e.task e.text OM
   change F _ _ (.s (bT e)) _ at cf
   conv=>whnf
   refine Ws<|g 10 14 []<|J UE<|Wc<|J (noT dO) fun _=>We<|Ws<|g 7 31 [BF,BF,BF,BF]<|J QZ<|Wc<|J (noT rfl) fun _=>Wk<|Ws<|g 6 61 [.call (V.i (ac l pos 12)) ([rdC l (pos+1),[]])]<|J (QA @aa)<|Wb<|g 69 70 []<|J UB ?_
   refine Wc<|J (noT dO) fun _=>g 68 69 []<|J UB<|Wc<|J (noT dO) fun _=>g 74 76 []<|J UB<|Wc<|J (noT dO) fun _=>g 80 82 []<|J UB<|Wc<|J (noT dO) fun _=>g 88 90 []<|J UB<|Wc<|J (noT dO) fun _=>g 94 96 []<|J UB<|Wc<|J (noT dO) fun _=>g 100 102 []<|J UB ?_
   refine Wc<|J (noT dO) fun _=>g 108 110 []<|J UB<|Wc<|J (noT dO) fun _=>g 127 129 []<|J UB<|Wc<|J (noT dO) fun _=>g 156 158 []<|J UB<|Wc<|J (fun _=>(rgd [[],[],[],[],[.call (iQ e.kind e.epoch e.task e.text) ([rdC l u])],[.call (V.s (bT e)) [[]]],[],[],[],[],[]] ?_)) (noF tO)
   conv=>whnf
   refine⟨⟨I,I,I,I,⟨UA,I,UA,UA,AS⟩,⟨UA,I,⟨UD,I⟩,UA,AS⟩,US,Zao,I,I,UA,I⟩,by kernel_rfl,?_⟩
   refine g 5 198 []<|J QZ<|W.ret<|EndsW.rt<|J UM ?_
   exact⟨⟨b.workers,b.up,b.now,b.since,b.epoch,b.given,⟨b.log.safe,b.log.loose++ [bT e]⟩,b.results,b.jobs,b.seats,b.owed⟩,_,(by simp only[aF,List.map_set,List.map_append];rfl),rfl,⟨by dsimp only;omega,by simp only[List.length_append,List.length_singleton];omega,fun s q=>by rcases List.mem_append.1 q with q|q;exact m9 s (List.mem_append_left _ q);rcases List.mem_append.1 q with q|q;exact m9 s (List.mem_append_right _ q);rw[List.mem_singleton.1 q];omega,by dsimp only;omega,by dsimp only;omega,by dsimp only;omega,by dsimp only;omega⟩,by omega,by omega⟩
  by_cases k10:ac l (pos) 12 = 10
  ·by_cases hr:0 < b.seats.length
   ·obtain⟨y,hy⟩:=ae (xs:=b.seats) (n:=0) OM
    conv=>whnf
    refine Ws<|g 10 14 []<|J UE<|Wc<|J (noT dO) fun _=>We<|Ws<|g 7 31 [BF,BF,BF,BF]<|J QZ<|Wc<|J (noT rfl) fun _=>Wk<|Ws<|g 6 61 [.call (V.i (ac l pos 12)) ([rdC l (pos+1),[]])]<|J (QA @aa)<|Wb<|g 69 70 []<|J UB ?_
    refine Wc<|J (noT dO) fun _=>g 68 69 []<|J UB<|Wc<|J (noT dO) fun _=>g 74 76 []<|J UB<|Wc<|J (noT dO) fun _=>g 80 82 []<|J UB<|Wc<|J (noT dO) fun _=>g 88 90 []<|J UB<|Wc<|J (noT dO) fun _=>g 94 96 []<|J UB<|Wc<|J (noT dO) fun _=>g 100 102 []<|J UB ?_
    refine Wc<|J (noT dO) fun _=>g 108 110 []<|J UB<|Wc<|J (noT dO) fun _=>g 127 129 []<|J UB<|Wc<|J (noT dO) fun _=>g 156 158 []<|J UB<|Wc<|J (noT dO) fun _=>g 61 172 []<|J UB<|Wc<|J (fun _=>(g 182 187 []<|J UD (Wc<|J (fun _=>(rgd [[],[],[],[],[.call (V.i (ac l (pos+1) 3)) ([rdC l (pos+1+1),[]])],[.n (Int.toNat (ac l (pos+1) 3))],[.x ([T.i xs])],[.n (0)],[],[.x (aE y)]] ?_)) (noF SI)))) (noF tO)
    conv=>whnf
    refine⟨⟨I,I,UU,I,⟨UB,I,UV,UA,aa _ _ _ OM OM OM OM⟩,Zar,AS,Zan,I,⟨UA,xA⟩,I⟩,by kernel_rfl,?_⟩
    refine g 5 198 []<|J QZ<|W.ret<|EndsW.rt<|J UM ?_
    exact⟨⟨b.workers,b.up,b.now,b.since,b.epoch,b.given,⟨b.log.safe,b.log.loose⟩,b.results,b.jobs,b.seats.set 0 ⟨y.free,xs⟩,b.owed⟩,_,(by simp only[aF,List.map_set,List.map_append];rfl),rfl,⟨by dsimp only;omega,by dsimp only;omega,m9,by dsimp only;(try rw[List.length_set]);omega,by dsimp only;(try rw[List.length_set]);omega,by dsimp only;(try rw[List.length_set]);omega,by dsimp only;omega⟩,by omega,by omega⟩
   ·conv=>whnf
    refine Ws<|g 10 14 []<|J UE<|Wc<|J (noT dO) fun _=>We<|Ws<|g 7 31 [BF,BF,BF,BF]<|J QZ<|Wc<|J (noT rfl) fun _=>Wk<|Ws<|g 6 61 [.call (V.i (ac l pos 12)) ([rdC l (pos+1),[]])]<|J (QA @aa)<|Wb<|g 69 70 []<|J UB ?_
    refine Wc<|J (noT dO) fun _=>g 68 69 []<|J UB<|Wc<|J (noT dO) fun _=>g 74 76 []<|J UB<|Wc<|J (noT dO) fun _=>g 80 82 []<|J UB<|Wc<|J (noT dO) fun _=>g 88 90 []<|J UB<|Wc<|J (noT dO) fun _=>g 94 96 []<|J UB<|Wc<|J (noT dO) fun _=>g 100 102 []<|J UB ?_
    refine Wc<|J (noT dO) fun _=>g 108 110 []<|J UB<|Wc<|J (noT dO) fun _=>g 127 129 []<|J UB<|Wc<|J (noT dO) fun _=>g 156 158 []<|J UB<|Wc<|J (noT dO) fun _=>g 61 172 []<|J UB<|Wc<|J (fun _=>(g 182 187 []<|J UD (Wc<|J (noT SI) fun _=>(Wk ?_)))) (noF tO)
    refine g 0 4 []<|J QZ<|W.ret<|EndsW.rt<|J UM ?_
    exact⟨b,_,rfl,rfl,⟨by omega,by omega,m9,by omega,by omega,by omega,by omega⟩,by omega,by omega⟩
  ·conv=>whnf
   refine Ws<|g 10 14 []<|J UE<|Wc<|J (noT dO) fun _=>We<|Ws<|g 7 31 [BF,BF,BF,BF]<|J QZ<|Wc<|J (noT rfl) fun _=>Wk<|Ws<|g 6 61 [.call (V.i (ac l pos 12)) ([rdC l (pos+1),[]])]<|J (QA @aa)<|Wb<|g 69 70 []<|J UB ?_
   refine Wc<|J (noT dO) fun _=>g 68 69 []<|J UB<|Wc<|J (noT dO) fun _=>g 74 76 []<|J UB<|Wc<|J (noT dO) fun _=>g 80 82 []<|J UB<|Wc<|J (noT dO) fun _=>g 88 90 []<|J UB<|Wc<|J (noT dO) fun _=>g 94 96 []<|J UB<|Wc<|J (noT dO) fun _=>g 100 102 []<|J UB ?_
   refine Wc<|J (noT dO) fun _=>g 108 110 []<|J UB<|Wc<|J (noT dO) fun _=>g 127 129 []<|J UB<|Wc<|J (noT dO) fun _=>g 156 158 []<|J UB<|Wc<|J (noT dO) fun _=>g 61 172 []<|J UB<|Wc<|J (noT dO) fun _=>rg []<|J QZ<|g 5 198 []<|J QZ<|W.ret ?_
   refine EndsW.rt<|J UM ?_
   exact⟨⟨b.workers,b.up,b.now,b.since,b.epoch,b.given,⟨b.log.safe,b.log.loose⟩,b.results,b.jobs,b.seats++ [⟨false,0⟩],b.owed⟩,_,(by simp only[aF,List.map_set,List.map_append];rfl),rfl,⟨by dsimp only;omega,by dsimp only;omega,m9,by dsimp only;omega,by dsimp only;omega,by simp only[List.length_append,List.length_singleton];omega,by dsimp only;omega⟩,by omega,by omega⟩
theorem sr(l:List Int)(pos:Int)(b:Boss)(h:BossTight b∧dN l∧0≤pos∧pos≤990000):∃ x:Boss×Int,F ke [.ptr (rdC l pos),.val (aF b)] (aF x.1) [rdC l x.2,[]]∧BossMid x.1∧pos≤x.2∧x.2≤pos+20:=by
 obtain⟨res,outs,⟨v,pos2,rfl,rfl,h1,h2,h3⟩,hF⟩:=Qd l pos b h.1 h.2.1 h.2.2.1 h.2.2.2
 exact⟨(v,pos2),hF,h1,h2,h3⟩
open Classical in
noncomputable def kN(l:List Int)(pos:Int)(b:Boss):Boss×Int:=if h:BossTight b∧dN l∧0≤pos∧pos≤990000 then(sr l pos b h).choose else(iG,pos)
theorem AD(l:List Int)(pos:Int)(b:Boss)(hb:BossTight b)(hl:dN l)(h0:0≤pos)(h1:pos≤990000):F ke [.ptr (rdC l pos),.val (aF b)] (aF (kN l pos b).1) [rdC l (kN l pos b).2,[]]:=by
 have h:BossTight b∧dN l∧0≤pos∧pos≤990000:=⟨hb,hl,h0,h1⟩
 rw[kN,dif_pos h]
 exact(sr l pos b h).choose_spec.1
theorem Qo(l:List Int)(pos:Int)(b:Boss):BossMid (kN l pos b).1∧pos≤(kN l pos b).2∧(kN l pos b).2≤pos+20:=by
 unfold kN
 split
 ·rename_i h;exact(sr l pos b h).choose_spec.2
 ·exact⟨kn (iL (w:=noWorld) (.inr rfl)),Int.le_refl _,by dsimp only;omega⟩
end Go.K
end
section
open Go Go.Tm Go.Proofs
namespace Go.K
structure WSm (w:Worker):Prop where
 len:w.inputs.length≤64
 size:∀ s∈w.inputs,s.size≤64
 text:w.text.size≤64
 cost:-100≤w.cost∧w.cost≤1000
structure WMd (w:Worker):Prop where
 len:w.inputs.length≤100
 size:∀ s∈w.inputs,s.size≤100
 text:w.text.size≤100
theorem TP{w:Worker}(h:WSm w):WMd w:=⟨by have:=h.len;omega,fun s hs=>by have:=h.size s hs;omega,by have:=h.text;omega⟩
theorem Y7:WSm fv:=⟨Nat.zero_le _,fun s hs=>(by cases hs),Nat.zero_le _,⟨by decide,by decide⟩⟩
theorem Zr(l:List Int)(pos:Int)(w:Worker)(hw:WSm w)(hl:dN l)(h0:0≤pos)(h1:pos≤1000000):∃ res outs,(∃ (v:Worker) (pos2:Int),res = aA v∧outs = [rdC l pos2,[]]∧WMd v∧pos≤pos2∧pos2≤pos+20)∧F eU [.ptr (rdC l pos),.val (aA w)] res outs:=by
 obtain⟨m1,m2,m3⟩:=TP hw
 have hc:=hw.cost
 have hln:=hw.len
 have htx:=hw.text
 have p0:=aj l pos 9
 have p11:=aj l (pos+1) 11
 have p5:=aj l (pos+1) 5
 have p3:=aj l (pos+1) 3
 have p2:=aj l (pos+1+1) 2
 obtain⟨xe,hxe1,hxe2⟩:=cX [0,300,301] (ac l (pos+1) 3) p3.1 (by show _ < (3:Int);omega)
 have hxe3:([[T.i 0],[T.i 300],[T.i 301]]:List (List T))[(ac l (pos+1) 3).toNat]? = some [T.i xe]:=hxe2
 obtain⟨xl,hxl1,hxl2⟩:=cX [0,w.cost,w.cost+1] (ac l (pos+1) 3) p3.1 (by show _ < (3:Int);omega)
 have hxl3:([[T.i 0],[T.i w.cost],[T.i (w.cost+1)]]:List (List T))[(ac l (pos+1) 3).toNat]? = some [T.i xl]:=hxl2
 obtain⟨xt,hxt1,hxt2⟩:=cX [-1,39,40] (ac l (pos+1) 3) p3.1 (by show _ < (3:Int);omega)
 have hxt3:([[T.i (-1)],[T.i 39],[T.i 40]]:List (List T))[(ac l (pos+1) 3).toNat]? = some [T.i xt]:=hxt2
 obtain⟨xi,hxi1,hxi2⟩:=cX [-1,1000000,1000001] (ac l (pos+1) 3) p3.1 (by show _ < (3:Int);omega)
 have hxi3:([[T.i (-1)],[T.i 1000000],[T.i 1000001]]:List (List T))[(ac l (pos+1) 3).toNat]? = some [T.i xi]:=hxi2
 obtain⟨xs,hxs1,hxs2⟩:=pe [⟨#[120]⟩,qa (dD (ac l (pos+1) 50))] (ac l (pos+1+1) 2) p2.1 (by show _ < (2:Int);omega)
 have hxs3:([[T.s ⟨#[120]⟩],[T.s (qa (dD (ac l (pos+1) 50)))]]:List (List T))[(ac l (pos+1+1) 2).toNat]? = some [T.s xs]:=hxs2
 have hxs:xs.size≤100:=by
  have e1:(⟨#[120]⟩:ByteArray).size = 1:=rfl
  have e3:=dY (dD (ac l (pos+1) 50))
  simp only[List.mem_cons,List.not_mem_nil,or_false]at hxs1
  rcases hxs1 with rfl|rfl <;> omega
 have e1:(⟨#[120]⟩:ByteArray).size = 1:=rfl
 have cb:=dS l (pos+1) hl OM OM
 by_cases k0:ac l pos 9 = 0
 ·refine aQ ?_
  conv=>whnf
  refine g 0 0 []<|J QZ<|Ws<|g 5 6 [.call (V.i (ac l pos 9)) ([rdC l (pos+1),[]])]<|J (QA @aa)<|Wb<|g 22 23 []<|J UB<|Wc<|J (fun _=>(rg [.call (V.i (ac l (pos+1) 11)) ([rdC l (pos+1+1),[]]),.i (ac l (pos+1) (11:Int) - 1)]<|J (QA @aa) (g 6 83 []<|J QZ (W.ret (EndsW.rt<|J UL ?_))))) (noF tO)
  exact⟨⟨ac l (pos+1) 11 - 1,w.epoch,w.up,w.state,w.lease,w.task,w.cost,w.left,w.inputs,w.text,w.since⟩,_,rfl,rfl,⟨m1,m2,m3⟩,by omega,by omega⟩
 by_cases k1:ac l pos 9 = 1
 ·refine aQ ?_
  conv=>whnf
  refine g 0 0 []<|J QZ<|Ws<|g 5 6 [.call (V.i (ac l pos 9)) ([rdC l (pos+1),[]])]<|J (QA @aa)<|Wb<|g 22 23 []<|J UB<|Wc<|J (noT dO) fun _=>g 21 22 []<|J UB<|Wc<|J (fun _=>(rg [.call (V.i (ac l (pos+1) 3)) ([rdC l (pos+1+1),[]]),.n (Int.toNat (ac l (pos+1) 3)),.x ([T.i xe])]<|J (QA @aa) (g 6 83 []<|J QZ (W.ret (EndsW.rt<|J UL ?_))))) (noF tO)
  exact⟨⟨w.number,xe,w.up,w.state,w.lease,w.task,w.cost,w.left,w.inputs,w.text,w.since⟩,_,rfl,rfl,⟨m1,m2,m3⟩,by omega,by omega⟩
 by_cases k2:ac l pos 9 = 2
 ·refine aQ ?_
  conv=>whnf
  refine g 0 0 []<|J QZ<|Ws<|g 5 6 [.call (V.i (ac l pos 9)) ([rdC l (pos+1),[]])]<|J (QA @aa)<|Wb<|g 22 23 []<|J UB<|Wc<|J (noT dO) fun _=>g 21 22 []<|J UB<|Wc<|J (noT dO) fun _=>g 27 29 []<|J UB<|Wc<|J (fun _=>(rg []<|J QZ (g 6 83 []<|J QZ ?_))) (noF tO)
  refine W.ret<|EndsW.rt<|J UL ?_
  exact⟨⟨w.number,w.epoch,!w.up,w.state,w.lease,w.task,w.cost,w.left,w.inputs,w.text,w.since⟩,_,rfl,rfl,⟨m1,m2,m3⟩,by omega,by omega⟩
 by_cases k3:ac l pos 9 = 3
 ·refine aQ ?_
  conv=>whnf
  refine g 0 0 []<|J QZ<|Ws<|g 5 6 [.call (V.i (ac l pos 9)) ([rdC l (pos+1),[]])]<|J (QA @aa)<|Wb<|g 22 23 []<|J UB<|Wc<|J (noT dO) fun _=>g 21 22 []<|J UB<|Wc<|J (noT dO) fun _=>g 27 29 []<|J UB<|Wc<|J (noT dO) fun _=>g 35 37 []<|J UB<|Wc<|J (fun _=>?_) (noF tO)
  refine rg [.call (V.i (ac l (pos+1) 5)) ([rdC l (pos+1+1),[]]),.i (ac l (pos+1) (5:Int) - 1)]<|J (QA @aa)<|g 6 83 []<|J QZ<|W.ret<|EndsW.rt<|J UL ?_
  exact⟨⟨w.number,w.epoch,w.up,ac l (pos+1) 5 - 1,w.lease,w.task,w.cost,w.left,w.inputs,w.text,w.since⟩,_,rfl,rfl,⟨m1,m2,m3⟩,by omega,by omega⟩
 by_cases k4:ac l pos 9 = 4
 ·refine aQ ?_
  conv=>whnf
  refine g 0 0 []<|J QZ<|Ws<|g 5 6 [.call (V.i (ac l pos 9)) ([rdC l (pos+1),[]])]<|J (QA @aa)<|Wb<|g 22 23 []<|J UB<|Wc<|J (noT dO) fun _=>g 21 22 []<|J UB<|Wc<|J (noT dO) fun _=>g 27 29 []<|J UB<|Wc<|J (noT dO) fun _=>g 35 37 []<|J UB<|Wc<|J (noT dO) fun _=>?_
  refine g 41 43 []<|J UB<|Wc<|J (fun _=>(rgd [[],[],[],[],[.i (w.cost+1)],[],[],[.call (V.i (ac l (pos+1) 3)) ([rdC l (pos+1+1),[]])],[.n (Int.toNat (ac l (pos+1) 3))],[.x ([T.i xl])],[],[]] ?_)) (noF tO)
  conv=>whnf
  refine⟨⟨I,I,I,I,wO,UU,I,⟨UB,I,UV,UA,aa _ _ _ OM OM OM OM⟩,Zar,AS,I,UA,I⟩,by kernel_rfl,?_⟩
  refine g 6 83 []<|J QZ<|W.ret<|EndsW.rt<|J UL ?_
  exact⟨⟨w.number,w.epoch,w.up,w.state,w.lease,w.task,w.cost,xl,w.inputs,w.text,w.since⟩,_,rfl,rfl,⟨m1,m2,m3⟩,by omega,by omega⟩
 by_cases k5:ac l pos 9 = 5
 ·refine aQ ?_
  conv=>whnf
  refine g 0 0 []<|J QZ<|Ws<|g 5 6 [.call (V.i (ac l pos 9)) ([rdC l (pos+1),[]])]<|J (QA @aa)<|Wb<|g 22 23 []<|J UB<|Wc<|J (noT dO) fun _=>g 21 22 []<|J UB<|Wc<|J (noT dO) fun _=>g 27 29 []<|J UB<|Wc<|J (noT dO) fun _=>g 35 37 []<|J UB<|Wc<|J (noT dO) fun _=>?_
  refine g 41 43 []<|J UB<|Wc<|J (noT dO) fun _=>g 47 49 []<|J UB<|Wc<|J (fun _=>(rg [.call (V.i (ac l (pos+1) 3)) ([rdC l (pos+1+1),[]]),.n (Int.toNat (ac l (pos+1) 3)),.x ([T.i xt])]<|J (QA @aa) (g 6 83 []<|J QZ (W.ret (EndsW.rt<|J UL ?_))))) (noF tO)
  exact⟨⟨w.number,w.epoch,w.up,w.state,w.lease,xt,w.cost,w.left,w.inputs,w.text,w.since⟩,_,rfl,rfl,⟨m1,m2,m3⟩,by omega,by omega⟩
 by_cases k6:ac l pos 9 = 6
 ·refine aQ ?_
  conv=>whnf
  refine g 0 0 []<|J QZ<|Ws<|g 5 6 [.call (V.i (ac l pos 9)) ([rdC l (pos+1),[]])]<|J (QA @aa)<|Wb<|g 22 23 []<|J UB<|Wc<|J (noT dO) fun _=>g 21 22 []<|J UB<|Wc<|J (noT dO) fun _=>g 27 29 []<|J UB<|Wc<|J (noT dO) fun _=>g 35 37 []<|J UB<|Wc<|J (noT dO) fun _=>?_
  refine g 41 43 []<|J UB<|Wc<|J (noT dO) fun _=>g 47 49 []<|J UB<|Wc<|J (noT dO) fun _=>g 60 62 []<|J UB<|Wc<|J (fun _=>(rg [.call (V.i (ac l (pos+1) 3)) ([rdC l (pos+1+1),[]]),.n (Int.toNat (ac l (pos+1) 3)),.x ([T.i xi])]<|J (QA @aa) (g 6 83 []<|J QZ (W.ret (EndsW.rt<|J UL ?_))))) (noF tO)
  exact⟨⟨w.number,w.epoch,w.up,w.state,w.lease,w.task,w.cost,w.left,w.inputs,w.text,xi⟩,_,rfl,rfl,⟨m1,m2,m3⟩,by omega,by omega⟩
 by_cases k7:ac l pos 9 = 7
 ·refine aQ ?_
  conv=>whnf
  refine g 0 0 []<|J QZ<|Ws<|g 5 6 [.call (V.i (ac l pos 9)) ([rdC l (pos+1),[]])]<|J (QA @aa)<|Wb<|g 22 23 []<|J UB<|Wc<|J (noT dO) fun _=>g 21 22 []<|J UB<|Wc<|J (noT dO) fun _=>g 27 29 []<|J UB<|Wc<|J (noT dO) fun _=>g 35 37 []<|J UB<|Wc<|J (noT dO) fun _=>?_
  refine g 41 43 []<|J UB<|Wc<|J (noT dO) fun _=>g 47 49 []<|J UB<|Wc<|J (noT dO) fun _=>g 60 62 []<|J UB<|Wc<|J (noT dO) fun _=>g 6 70 []<|J UB<|Wc<|J (fun _=>(rg [.s (w.text++ {data:=#[(120:UInt8)]:ByteArray})]<|J QZ (g 76 83 []<|J QZ (W.ret (EndsW.rt<|J UL ?_))))) (noF tO)
  exact⟨⟨w.number,w.epoch,w.up,w.state,w.lease,w.task,w.cost,w.left,w.inputs,w.text++ ⟨#[120]⟩,w.since⟩,_,rfl,rfl,⟨m1,m2,by dsimp only;rw[ByteArray.size_append];omega⟩,by omega,by omega⟩
 ·refine aQ ?_
  conv=>whnf
  refine g 0 0 []<|J QZ<|Ws<|g 5 6 [.call (V.i (ac l pos 9)) ([rdC l (pos+1),[]])]<|J (QA @aa)<|Wb<|g 22 23 []<|J UB<|Wc<|J (noT dO) fun _=>g 21 22 []<|J UB<|Wc<|J (noT dO) fun _=>g 27 29 []<|J UB<|Wc<|J (noT dO) fun _=>g 35 37 []<|J UB<|Wc<|J (noT dO) fun _=>?_
  refine g 41 43 []<|J UB<|Wc<|J (noT dO) fun _=>g 47 49 []<|J UB<|Wc<|J (noT dO) fun _=>g 60 62 []<|J UB<|Wc<|J (noT dO) fun _=>g 6 70 []<|J UB<|Wc<|J (noT dO) fun _=>rg [.call (V.s (qa (dD (ac l (pos+1) 50)))) ([rdC l (pos+1+1)]),.call (V.i (ac l (pos+1+1) 2)) ([rdC l (pos+1+1+1),[]]),.n (Int.toNat (ac l (pos+1+1) 2)),.x ([T.s xs])]<|J (QA @aa)<|g 7 83 []<|J QZ<|W.ret<|EndsW.rt<|J UL ?_
  exact⟨⟨w.number,w.epoch,w.up,w.state,w.lease,w.task,w.cost,w.left,w.inputs++ [xs],w.text,w.since⟩,_,(by simp only[aA,List.map_append,List.nil_append];rfl),rfl,⟨by dsimp only;rw[um];omega,CG m2 hxs,m3⟩,by omega,by omega⟩
theorem HY(l:List Int)(pos:Int)(w:Worker)(h:WSm w∧dN l∧0≤pos∧pos≤1000000):∃ x:Worker×Int,F eU [.ptr (rdC l pos),.val (aA w)] (aA x.1) [rdC l x.2,[]]∧WMd x.1∧pos≤x.2∧x.2≤pos+20:=by
 obtain⟨res,outs,⟨v,pos2,rfl,rfl,h1,h2,h3⟩,hF⟩:=Zr l pos w h.1 h.2.1 h.2.2.1 h.2.2.2
 exact⟨(v,pos2),hF,h1,h2,h3⟩
open Classical in
noncomputable def LL(l:List Int)(pos:Int)(w:Worker):Worker×Int:=if h:WSm w∧dN l∧0≤pos∧pos≤1000000 then(HY l pos w h).choose else(fv,pos)
theorem Zw(l:List Int)(pos:Int)(w:Worker)(hw:WSm w)(hl:dN l)(h0:0≤pos)(h1:pos≤1000000):F eU [.ptr (rdC l pos),.val (aA w)] (aA (LL l pos w).1) [rdC l (LL l pos w).2,[]]:=by
 have h:WSm w∧dN l∧0≤pos∧pos≤1000000:=⟨hw,hl,h0,h1⟩
 rw[LL,dif_pos h]
 exact(HY l pos w h).choose_spec.1
theorem Y6(l:List Int)(pos:Int)(w:Worker):WMd (LL l pos w).1∧pos≤(LL l pos w).2∧(LL l pos w).2≤pos+20:=by
 unfold LL
 split
 ·rename_i h;exact(HY l pos w h).choose_spec.2
 ·exact⟨TP Y7,Int.le_refl _,by dsimp only;omega⟩
end Go.K
end
section
open Go Go.Tm Go.Proofs
namespace Go.K
structure AnyW (w:World):Prop where
 plan:kH w.plan
 boss:BossMid w.boss
 key:w.key.size≤4096
 wl:w.workers.length≤9
 wi:∀ x∈w.workers,x.inputs.length≤100
 fl:w.flight.length≤4100
 fs:∀ x∈w.flight,x.frm.size≤5000∧x.text.size≤5000
theorem XI{w:World}(h:AnyW w):WorldLim w:=by
 obtain⟨h1,h2,h3,h4,h5,h6,h7⟩:=h
 exact⟨Im h1,Xh h2,by omega,by omega,fun x hx=>by have:=h5 x hx;omega,by omega,fun x hx=>by have:=h7 x hx;omega⟩
theorem Cr{w:World}(h:wz w):AnyW w:=by
 have h1:=cJ h
 have h2:=h1.key
 have h3:=h1.wl
 have h4:=h1.fl
 exact⟨ge h1.small,kn (iL h),by omega,by omega,fun x hx=>by have:=h1.wi x hx;omega,by omega,fun x hx=>by have a:=(h1.par x hx).sent;have b:=(h1.par x hx).bytes;omega⟩
theorem HG{p:Plan}{key:ByteArray}{b:Boss}{ws:List Worker}{ys:List (List T)}{fl:List Parcel}{f:ByteArray}(h:ys = ws.map ag):CM p key b ys fl f = ax ⟨p,key,b,ws,fl,f⟩:=by rw[h]
abbrev Y8(p:Plan)(key:ByteArray)(b:Boss)(ws:List Worker)(fl:List (List T))(f:ByteArray):V:=.agg [.own cY (p.tasks.map ay),.t (.s key),.t (.i b.workers),.t (.b b.up),.t (.i b.now),.t (.i b.since),.t (.i b.epoch),.t (.i b.given),.own [false] (b.log.safe.map ai),.own [false] (b.log.loose.map ai),.own [false] (b.results.map ai),.own dU (b.jobs.map aI),.own bJ (b.seats.map aE),.own bK (b.owed.map aJ),.own cz (ws.map ag),.own pkd fl,.t (.s f)]
theorem HH{p:Plan}{key:ByteArray}{b:Boss}{ws:List Worker}{ys:List (List T)}{fl:List Parcel}{f:ByteArray}(h:ys = fl.map bh):Y8 p key b ws ys f = ax ⟨p,key,b,ws,fl,f⟩:=by rw[h]
theorem SW{w:World}(h:wz w){x:Worker}(hx:x∈w.workers):WSm x:=by
 rcases h with h|rfl
 ·obtain⟨n,hn⟩:=List.getElem?_of_mem hx
  obtain⟨_,_,_,_,hc⟩:=(h.crew n x (List.getElem?_eq_some_iff.1 hn).1 hn).ok
  have e0:emp.size = 0:=rfl
  rcases hc with⟨_,_,_,c1,_,c2,c3⟩|⟨_,_,c1,_,⟨c2,c3⟩,c4⟩|⟨_,_,c1,_,c2,c3⟩
  ·have e:x.inputs = []:=List.eq_nil_of_length_eq_zero OM
   exact⟨by omega,(fun s hs=>by rw[e]at hs;cases hs),by rw[c3];omega,by omega⟩
  ·exact⟨by omega,fun s hs=>by rw[c2 s hs];omega,by rw[c4];omega,by omega⟩
  ·have e:x.inputs = []:=List.eq_nil_of_length_eq_zero OM
   exact⟨by omega,(fun s hs=>by rw[e]at hs;cases hs),by omega,by omega⟩
 ·cases hx
theorem MJ(l:List Int)(pos:Int)(w:World)(hw:wz w)(hl:dN l)(h0:0≤pos)(h1:pos≤800000):∃ res outs,(∃ (v:World) (pos2:Int),res = ax v∧outs = [rdC l pos2,[]]∧AnyW v∧pos≤pos2∧pos2≤pos+500)∧F zK [.ptr (rdC l pos),.val (ax w)] res outs:=by
 have cc:=gm w (cJ hw)
 have ha:=Cr hw
 have ht:=iL hw
 have hd:=cJ hw
 have hwl:=ha.wl
 have hfl:=ha.fl
 have p7:=aj l pos 7
 by_cases k0:ac l pos 7 = 0
 ·have cs:=AD l (pos+1) w.boss ht hl OM OM
  obtain⟨s1,s2,s3⟩:=Qo l (pos+1) w.boss
  generalize(kN l (pos+1) w.boss).1 = b at cs s1
  generalize(kN l (pos+1) w.boss).2 = u at cs s2 s3
  refine dq ?_
  conv=>whnf
  refine g 0 0 []<|J QZ<|g 6 8 [.call (ax w) [[]]]<|J QZ<|Ws<|g 8 9 [.call (V.i (ac l pos 7)) ([rdC l (pos+1),[]])]<|J (QA @aa)<|Wb<|g 17 18 []<|J UB<|Wc<|J (fun _=>(rg [.call (aF b) ([rdC l u,[]])]<|J QZ (g 5 82 []<|J QZ (W.ret (EndsW.rt<|J UR ?_))))) (noF tO)
  exact⟨⟨w.plan,w.key,b,w.workers,w.flight,w.forged⟩,u,rfl,rfl,⟨ha.plan,s1,ha.key,ha.wl,ha.wi,ha.fl,ha.fs⟩,by omega,by omega⟩
 by_cases k1:ac l pos 7 = 1
 ·by_cases kw:0 < w.workers.length
  ·obtain⟨x,hx⟩:=ae (xs:=w.workers) (n:=0) kw
   have cs:=Zw l (pos+1) x (SW hw (List.mem_of_getElem? hx)) hl OM OM
   obtain⟨s1,s2,s3⟩:=Y6 l (pos+1) x
   generalize(LL l (pos+1) x).1 = y at cs s1
   generalize(LL l (pos+1) x).2 = u at cs s2 s3
   refine dq ?_
   conv=>whnf
   refine g 0 0 []<|J QZ<|g 6 8 [.call (ax w) [[]]]<|J QZ<|Ws<|g 8 9 [.call (V.i (ac l pos 7)) ([rdC l (pos+1),[]])]<|J (QA @aa)<|Wb<|g 17 18 []<|J UB<|Wc<|J (noT dO) fun _=>g 16 17 []<|J UB<|Wc<|J (fun _=>(g 9 28 []<|J UD (Wc<|J (fun _=>(rgd [[],[],[],[],[],[.n (0)],[.x (ag x)],[.x (ag x),.call (aA y) ([rdC l u,[]])],[.n (0)],[.x (List.set (ag x) (0+1+1+1+1+1+1+1+1) T.hole)]] ?_)) (noF SI)))) (noF tO)
   conv=>whnf
   refine⟨⟨I,I,I,I,I,Zan,xA,⟨⟨I,Zak,I⟩,I,UB,UA,AS⟩,Zan,⟨UK,jH LN⟩,I⟩,by kernel_rfl,?_⟩
   rw[List.set_set]
   refine g 5 82 []<|J QZ<|W.ret<|EndsW.rt<|J UR ?_
   exact⟨⟨w.plan,w.key,w.boss,w.workers.set 0 y,w.flight,w.forged⟩,u,HG fY,rfl,⟨ha.plan,ha.boss,ha.key,by show(w.workers.set 0 y).length≤9;rw[List.length_set];exact hwl,fun z hz=>by
    rcases List.mem_or_eq_of_mem_set hz with hz|rfl
    ·exact ha.wi z hz
    ·exact s1.len,ha.fl,ha.fs⟩,by omega,by omega⟩
  ·refine dq ?_
   conv=>whnf
   refine g 0 0 []<|J QZ<|g 6 8 [.call (ax w) [[]]]<|J QZ<|Ws<|g 8 9 [.call (V.i (ac l pos 7)) ([rdC l (pos+1),[]])]<|J (QA @aa)<|Wb<|g 17 18 []<|J UB<|Wc<|J (noT dO) fun _=>g 16 17 []<|J UB<|Wc<|J (fun _=>(g 9 28 []<|J UD (Wc<|J (noT SI) fun _=>(Wk ?_)))) (noF tO)
   refine g 0 4 []<|J QZ<|W.ret<|EndsW.rt<|J UR ?_
   exact⟨w,pos+1,rfl,rfl,ha,by omega,by omega⟩
 by_cases k2:ac l pos 7 = 2
 ·have cs:=AE l (pos+1) w.plan hd.small hl OM OM
  obtain⟨s1,s2,s3⟩:=Sw l (pos+1) w.plan
  generalize(oa l (pos+1) w.plan).1 = p at cs s1
  generalize(oa l (pos+1) w.plan).2 = u at cs s2 s3
  refine dq ?_
  conv=>whnf
  refine g 0 0 []<|J QZ<|g 6 8 [.call (ax w) [[]]]<|J QZ<|Ws<|g 8 9 [.call (V.i (ac l pos 7)) ([rdC l (pos+1),[]])]<|J (QA @aa)<|Wb<|g 17 18 []<|J UB<|Wc<|J (noT dO) fun _=>g 16 17 []<|J UB<|Wc<|J (noT dO) fun _=>g 23 25 []<|J UB<|Wc<|J (fun _=>(rg [.call (eA p) ([rdC l u,[]])]<|J QZ ?_)) (noF tO)
  refine g 5 82 []<|J QZ<|W.ret<|EndsW.rt<|J UR ?_
  exact⟨⟨p,w.key,w.boss,w.workers,w.flight,w.forged⟩,u,rfl,rfl,⟨s1,ha.boss,ha.key,ha.wl,ha.wi,ha.fl,ha.fs⟩,by omega,by omega⟩
 by_cases k3:ac l pos 7 = 3
 ·have p2:=aj l (pos+1) 2
  have ek:(⟨#[107]⟩:ByteArray).size = 1:=rfl
  have cm:=lM ⟨#[107]⟩ (30+ac l (pos+1) 2) OM OM OM
  have hm:=pM ⟨#[107]⟩ (30+ac l (pos+1) 2)
  generalize oe ⟨#[107]⟩ (30+ac l (pos+1) 2) = k at cm hm
  refine dq ?_
  conv=>whnf
  refine g 0 0 []<|J QZ<|g 6 8 [.call (ax w) [[]]]<|J QZ<|Ws<|g 8 9 [.call (V.i (ac l pos 7)) ([rdC l (pos+1),[]])]<|J (QA @aa)<|Wb<|g 17 18 []<|J UB<|Wc<|J (noT dO) fun _=>g 16 17 []<|J UB<|Wc<|J (noT dO) fun _=>g 23 25 []<|J UB<|Wc<|J (noT dO) fun _=>g 38 40 []<|J UB ?_
  refine Wc<|J (fun _=>(rg [.call (V.i (ac l (pos+1) 2)) ([rdC l (pos+1+1),[]]),.i (30+ac l (pos+1) 2),.call (V.s k) [[],[]]]<|J (QA @aa) (g 5 82 []<|J QZ (W.ret (EndsW.rt<|J UR ?_))))) (noF tO)
  exact⟨⟨w.plan,k,w.boss,w.workers,w.flight,w.forged⟩,pos+1+1,rfl,rfl,⟨ha.plan,ha.boss,hm,ha.wl,ha.wi,ha.fl,ha.fs⟩,by omega,by omega⟩
 by_cases k4:ac l pos 7 = 4
 ·have p4:=aj l (pos+1) 4
  have p2:=aj l (pos+1+1) 2
  obtain⟨xt,hxt1,hxt2⟩:=cX [-1,0,9,8] (ac l (pos+1) 4) p4.1 (by show _ < (4:Int);omega)
  have hxt3:([[T.i (-1)],[T.i 0],[T.i 9],[T.i 8]]:List (List T))[(ac l (pos+1) 4).toNat]? = some [T.i xt]:=hxt2
  have ek:(⟨#[115]⟩:ByteArray).size = 1:=rfl
  have cm:=FI ⟨#[115]⟩ (500+ac l (pos+1+1) 2) OM OM (by rw[ek];omega)
  have hm:=pM ⟨#[115]⟩ (500+ac l (pos+1+1) 2)
  generalize oe ⟨#[115]⟩ (500+ac l (pos+1+1) 2) = t at cm hm
  refine dq ?_
  conv=>whnf
  refine g 0 0 []<|J QZ<|g 6 8 [.call (ax w) [[]]]<|J QZ<|Ws<|g 8 9 [.call (V.i (ac l pos 7)) ([rdC l (pos+1),[]])]<|J (QA @aa)<|Wb<|g 17 18 []<|J UB<|Wc<|J (noT dO) fun _=>g 16 17 []<|J UB<|Wc<|J (noT dO) fun _=>g 23 25 []<|J UB<|Wc<|J (noT dO) fun _=>g 38 40 []<|J UB ?_
  refine Wc<|J (noT dO) fun _=>g 45 47 []<|J UB<|Wc<|J (fun _=>(rgd [[],[],[],[],[.call (V.i (ac l (pos+1) 4)) ([rdC l (pos+1+1),[]])],[.n (Int.toNat (ac l (pos+1) 4))],[.x ([T.i xt])],[],[.call (V.i (ac l (pos+1+1) 2)) ([rdC l (pos+1+1+1),[]])],[.i (500+ac l (pos+1+1) 2)],[.call (V.s t) [[],[]]],[],[],[],[],[]] ?_)) (noF tO)
  conv=>whnf
  refine⟨⟨I,I,⟨UA,UA,UA,UA,I⟩,I,⟨UB,I,UV,UA,aa _ _ _ OM OM OM OM⟩,Zar,AS,I,⟨UB,I,UV,UA,aa _ _ _ OM OM OM OM⟩,wO,⟨UB,I,UT,UA,AS⟩,I,⟨UC,I⟩,Zao,I,UA,I⟩,by kernel_rfl,?_⟩
  refine g 53 82 []<|J QZ<|W.ret<|EndsW.rt<|J UR ?_
  exact⟨⟨w.plan,w.key,w.boss,w.workers,w.flight++ [⟨xt,t,emp⟩],w.forged⟩,pos+1+1+1,HH (by rw[List.map_append];rfl),rfl,⟨ha.plan,ha.boss,ha.key,ha.wl,ha.wi,by show(w.flight++ [_]).length≤4100;rw[List.length_append,List.length_singleton];have q:=hd.fl;omega,fun z hz=>by
   rcases List.mem_append.1 hz with hz|hz
   ·exact ha.fs z hz
   ·rw[List.mem_singleton.1 hz];exact⟨by dsimp only;omega,Nat.zero_le _⟩⟩,by omega,by omega⟩
 by_cases k5:ac l pos 7 = 5
 ·refine dq ?_
  conv=>whnf
  refine g 0 0 []<|J QZ<|g 6 8 [.call (ax w) [[]]]<|J QZ<|Ws<|g 8 9 [.call (V.i (ac l pos 7)) ([rdC l (pos+1),[]])]<|J (QA @aa)<|Wb<|g 17 18 []<|J UB<|Wc<|J (noT dO) fun _=>g 16 17 []<|J UB<|Wc<|J (noT dO) fun _=>g 23 25 []<|J UB<|Wc<|J (noT dO) fun _=>g 38 40 []<|J UB ?_
  refine Wc<|J (noT dO) fun _=>g 45 47 []<|J UB<|Wc<|J (noT dO) fun _=>g 3 4 []<|J UB<|Wc<|J (fun _=>(rg [.i ((↑(List.length (List.map ag w.workers)):Int) +1)]<|J QZ (g 53 82 []<|J QZ (W.ret (EndsW.rt<|J UR ?_))))) (noF tO)
  exact⟨⟨w.plan,w.key,w.boss,w.workers++ [⟨(w.workers.length:Int) +1,1,false,0,0,0,0,0,[],emp,0⟩],w.flight,w.forged⟩,pos+1,HG (by rw[List.map_append,List.length_map];rfl),rfl,⟨ha.plan,ha.boss,ha.key,by show(w.workers++ [_]).length≤9;rw[List.length_append,List.length_singleton];have q:=hd.wl;omega,fun z hz=>by
   rcases List.mem_append.1 hz with hz|hz
   ·exact ha.wi z hz
   ·rw[List.mem_singleton.1 hz];exact Nat.zero_le _,ha.fl,ha.fs⟩,by omega,by omega⟩
 ·obtain⟨res,outs,⟨xs,pos2,rfl,rfl,x1,x2,x3,x4⟩,hF⟩:=S6 l (pos+1) hl OM OM
  refine dq ?_
  conv=>whnf
  refine g 0 0 []<|J QZ<|g 6 8 [.call (ax w) [[]]]<|J QZ<|Ws<|g 8 9 [.call (V.i (ac l pos 7)) ([rdC l (pos+1),[]])]<|J (QA @aa)<|Wb<|g 17 18 []<|J UB<|Wc<|J (noT dO) fun _=>g 16 17 []<|J UB<|Wc<|J (noT dO) fun _=>g 23 25 []<|J UB<|Wc<|J (noT dO) fun _=>g 38 40 []<|J UB ?_
  refine Wc<|J (noT dO) fun _=>g 45 47 []<|J UB<|Wc<|J (noT dO) fun _=>g 3 4 []<|J UB<|Wc<|J (noT dO) fun _=>rgd [[],[],[],[.call (V.own pkd (List.map bh xs)) ([rdC l pos2])],[],[],[]] ?_
  conv=>whnf
  refine⟨⟨I,I,I,⟨UA,I,UA,UA,AS⟩,Zao,I,UA,I⟩,by kernel_rfl,?_⟩
  refine g 5 16 []<|J QZ<|W.ret<|EndsW.rt<|J UR ?_
  exact⟨⟨w.plan,w.key,w.boss,w.workers,w.flight++xs,w.forged⟩,pos2,HH (by rw[List.map_append]),rfl,⟨ha.plan,ha.boss,ha.key,ha.wl,ha.wi,by show(w.flight++xs).length≤4100;rw[List.length_append];have q:=hd.fl;omega,fun z hz=>by
   rcases List.mem_append.1 hz with hz|hz
   ·exact ha.fs z hz
   ·have a:=(x2 z hz).sent;have b:=(x2 z hz).bytes;omega⟩,by omega,by omega⟩
end Go.K
end
section
open Go Go.Tm Go.Proofs
namespace Go.K
def br(n:Nat):List ByteArray:=(List.range n).map fun(i:Nat)=>bT ⟨1,(i:Int) +1,0,emp⟩
theorem kL(n:Nat):(br n).length = n:=by unfold br;rw[List.length_map,List.length_range]
theorem xE(n:Nat):br n++ [bT ⟨1,(n:Int) +1,0,emp⟩] = br (n+1):=by simp[br,List.range_succ]
theorem Hk(n:Nat):(br n).map ai++ [ai (bT ⟨1,(n:Int) +1,0,emp⟩)] = (br (n+1)).map ai:=by rw[←xE,List.map_append];rfl
theorem xF{n:Nat}{s:ByteArray}(h:s∈br n):s.size≤12:=by
 obtain⟨i,_,rfl⟩:=List.mem_map.1 h
 have:=iP ⟨1,(i:Int) +1,0,emp⟩
 have e0:emp.size = 0:=rfl
 dsimp only at this
 omega
theorem nS(n:Nat)(h:n≤300):F nF [.val (.i n)] (.own [false] ((br n).map ai)) [[]]:=by
 refine yB ?_
 conv=>whnf
 refine g 0 0 []<|J UA<|g 5 6 []<|J UB<|Ws<|g 0 0 []<|J UA<|Wb<|Wl (fun s (k:Nat)=>⟨[(0,s.s 0),(2,s.s 2),(3,.ref ⟨3,none,0⟩),(4,.i (k+1))],[(3,[.own [false] ((br k).map ai)])],[]⟩) (fun(k:Nat)=>k≤n) (fun(k:Nat)=>n - k) (0) [some 5] [] FZ OM ?_
 intro k hk
 have e:=Hk k
 have hl:=kL k
 have cf:=dk 1 ((k:Int) +1) 0 emp (by decide)
 have hs:=iP ⟨1,(k:Int) +1,0,emp⟩
 by_cases hk2:k < n
 ·conv=>whnf
  refine Ws<|g 6 8 []<|J UC<|Wc<|J (fun _=>(Wk (Ws (Wb (rg [.call (V.s (bT {kind:=1,epoch:=(k:Int) +1,task:=0,text:=emp:Entry})) [[]]]<|J QZ (rg [.i ((k:Int) +1+1)]<|J QZ ?_)))))) (noF tO)
  refine⟨k+1,[some 16],[],⟨rfl,FZ,⟨⟨rfl,⟨(congrArg (V.own _) (e)),I⟩⟩,I⟩,I⟩,?_,?_⟩
  rotate_left
  (dsimp only;omega)
  dsimp only
  omega
 ·obtain rfl:k = n:=by omega
  conv=>whnf
  refine Ws<|g 6 8 []<|J UC<|Wc<|J (noT dO) fun _=>We<|g 3 18 []<|J UB<|RT ?_
  rfl
theorem lr{p:Plan}(h:am p.tasks = 0):∀ n:Nat,n≤300→(aw p (br n)).code = 0∧(aw p (br n)).epoch = n∧(aw p (br n)).results = List.replicate p.tasks.length emp
 |0,_=>by
  have h0:=rR h
  refine⟨h0,?_⟩
  show(aw p []).epoch = 0∧(aw p []).results = _
  rw[aw,if_pos ⟨h,by decide⟩,jn]
  exact⟨rfl,rfl⟩
 |n+1,hn=>by
  obtain⟨h1,h2,h3⟩:=lr h n OM
  have e:=nn (n:=(n:Int) +1) h1 (by rw[kL];omega) (by rw[h2]) OM
  have e2:br (n+1) = br n++ [bT (epE ((n:Int) +1))]:=(xE n).symm
  rw[e2,e]
  exact⟨rfl,by dsimp only;omega,h3⟩
def fy(i:Nat):ByteArray:=(⟨#[102,117,108,108]⟩:ByteArray) ++dD i
def fg(n:Nat):List Task:=(List.range n).map fun i=>⟨fy i,1,[]⟩
theorem pj(n:Nat):(fg n).length = n:=by simp[fg]
theorem Mz(n:Nat):(fg n).map ay++ [ay ⟨fy n,1,[]⟩] = (fg (n+1)).map ay:=by simp[fg,List.range_succ]
theorem Cs{n i:Nat}(h:i < n):(fg n)[i]? = some ⟨fy i,1,[]⟩:=by
 unfold fg;rw[List.getElem?_map,List.getElem?_range h];rfl
theorem PK{s:ByteArray}(h:(s.data.toList.all fun c=>Nat.ble 33 c.toNat && Nat.ble c.toNat 126) = true)(h1:1≤s.size)(h2:s.size≤30):nd s:=by
 refine⟨fun n c hc=>?_,h1,h2⟩
 have hm:c∈s.data.toList:=by
  have hn:=H3 hc
  rw[getElem?_pos s n hn]at hc
  have e:=Option.some.inj hc
  rw[←e]
  exact Array.getElem_mem_toList hn
 have:=List.all_eq_true.1 h c hm
 simp only[Bool.and_eq_true,Nat.ble_eq]at this
 exact this
theorem MA:((List.range 12).all fun i=>(fy i).data.toList.all fun c=>Nat.ble 33 c.toNat && Nat.ble c.toNat 126) = true:=by decide+kernel
theorem P0:((List.range 12).all fun i=>(List.range i).all fun j=>!((fy i).data.toList == (fy j).data.toList)) = true:=by decide+kernel
theorem PY:((List.range 12).all fun i=>Nat.ble 1 (fy i).size && Nat.ble (fy i).size 30) = true:=by decide+kernel
theorem ur:am (fg 12) = 0:=by
 have hn:ig (fg 12):=by
  intro m t hm ht
  rw[pj]at hm
  rw[Cs hm]at ht
  cases ht
  have hr:m∈List.range 12:=List.mem_range.2 hm
  have h1:=List.all_eq_true.1 MA m hr
  have h2:=List.all_eq_true.1 PY m hr
  simp only[Bool.and_eq_true,Nat.ble_eq]at h2
  refine⟨PK h1 h2.1 h2.2,fun q=>?_⟩
  obtain⟨t,ht,e⟩:=List.mem_map.1 q
  obtain⟨j,hj⟩:=List.getElem?_of_mem ht
  rw[List.getElem?_take]at hj
  split at hj
  ·rename_i hjm
   rw[Cs OM]at hj
   cases hj
   have h3:=List.all_eq_true.1 (List.all_eq_true.1 P0 m hr) j (List.mem_range.2 hjm)
   have e2:fy j = fy m:=e
   rw[e2]at h3
   simp at h3
  ·cases hj
 have hc:jA (fg 12):=by
  intro t ht
  obtain⟨i,_,rfl⟩:=List.mem_map.1 ht
  exact⟨Int.le_refl _,by show(1:Int)≤20;omega⟩
 have hd:tV (fg 12):=by
  intro m t hm ht
  obtain⟨i,_,rfl⟩:=List.mem_map.1 (List.mem_of_getElem? ht)
  exact⟨Nat.zero_le _,trivial⟩
 unfold am
 rw[pj,if_neg (not_not_intro ⟨by omega,by omega⟩),if_neg (not_not_intro hn),if_neg (not_not_intro hc),if_neg (not_not_intro hd)]
def Iz:Boss:=eB 2 3 (br 299)
theorem PZ:jR Iz ⟨fg 12⟩ = upB 2 3 (br 299) ⟨fg 12⟩ (aw ⟨fg 12⟩ (br 299)):=by
 obtain⟨h1,h2,h3⟩:=lr (p:=⟨fg 12⟩) ur 299 OM
 have hv:BossOk Iz ⟨fg 12⟩:=by
  refine⟨ur,⟨by show 1≤2;omega,by show 2≤8;omega⟩,⟨by show 0≤3;omega,by show 3≤1000000;omega⟩,?_,fun q=>(by cases q),fun _=>⟨rfl,rfl,rfl,rfl,rfl,rfl,rfl,rfl⟩⟩
  show(aw ⟨fg 12⟩ (br 299++ [])).code = 0
  rw[List.append_nil];exact h1
 rw[nk hv]
 refine CT ⟨rfl,?_,?_⟩
 ·show(br 299).length < 310;rw[kL];omega
 ·show(aw ⟨fg 12⟩ (br 299)).epoch < 300;rw[h2];omega
end Go.K
end
section
open Go Go.Tm Go.Proofs
namespace Go.K
structure EdgeOk (b:Boss) (p:Plan):Prop where
 mid:BossMid b
 small:dh p
 workers:0≤b.workers∧b.workers≤8
theorem xR{b:Boss}(p:Plan)(h:BossTight b):BossTight (jR b p):=by
 by_cases hv:BossOk b p
 ·rw[nk hv];exact KA (rP hv)
 ·rw[show jR b p = iG from if_neg hv]
  exact iL (w:=noWorld) (.inr rfl)
theorem Xq(l:List Int)(pos:Int)(hl:dN l)(h0:0≤pos)(h1:pos≤800000):∃ res outs,(∃ (b:Boss) (p:Plan) (pos2:Int),res = .tup [aF b,eA p]∧outs = [rdC l pos2]∧EdgeOk b p∧pos≤pos2∧pos2≤pos+6000)∧F lv [.ptr (rdC l pos)] res outs:=by
 have cr:=ir l pos hl h0 OM
 obtain⟨g1,_,g3,g4⟩:=Cl l pos
 generalize(iz l pos).1 = w at cr g1
 generalize(iz l pos).2 = q at cr g3 g4
 have hd:=cJ g1
 have hs:=hd.small
 have hw:=hd.plan
 have ht:=iL g1
 have hm:=kn ht
 have hlim:=px ht
 obtain⟨⟨b1,b2⟩,⟨b3,b4⟩,⟨b5,b6⟩,b7,b8,b9,b10,b11,b12,b13⟩:=ht
 have p6:=aj l q 6
 have p2:=aj l (q+1) 2
 have p22:=aj l (q+1+1) 2
 by_cases k0:ac l q 6 = 0
 ·obtain⟨n,hn⟩:∃ n:Nat,300 - ac l (q+1) 2 = n:=⟨(300 - ac l (q+1) 2).toNat,by omega⟩
  have hn1:n≤300:=by omega
  have ce:=nS n hn1
  rw[←hn]at ce
  have hel:=kL n
  have hDa:∀ s∈br n++ [],s.size≤12:=fun s q=>by rw[List.append_nil]at q;exact xF q
  have hD:BossTight (eB w.boss.workers w.boss.now (br n)):=⟨⟨b1,b2⟩,⟨b3,b4⟩,⟨Int.le_refl _,by show(0:Int)≤300;omega⟩,by show(br n).length≤310;omega,Nat.zero_le _,hDa,Nat.zero_le _,Nat.zero_le _,Nat.zero_le _,Nat.zero_le _⟩
  by_cases kk:ac l (q+1+1) 2 = 0
  ·have cb:F jf [.val (.agg [.t (.i w.boss.workers),.t (.b false),.t (.i w.boss.now),.t (.i 0),.t (.i 0),.t (.i 0),.t (.slc [false] ((br n).map ai)),.t (.slc [false] []),.t (.slc [false] []),.t (.slc dU []),.t (.slc bJ []),.t (.slc bK [])]),.val (cV w.plan)] (aF (jR (eB w.boss.workers w.boss.now (br n)) w.plan)) [[],[]]:=ji (eB w.boss.workers w.boss.now (br n)) w.plan hw (px hD)
   have hR:=xR w.plan hD
   generalize jR (eB w.boss.workers w.boss.now (br n)) w.plan = bb at cb hR
   refine dH ?_
   conv=>whnf
   refine g 0 0 []<|J UB<|g 14 16 [.call (ax w) ([rdC l q])]<|J QZ<|g 16 18 []<|J QZ<|Ws<|g 18 19 [.call (V.i (ac l q 6)) ([rdC l (q+1),[]])]<|J (QA @aa)<|Wb<|g 21 22 []<|J UB<|Wc<|J (fun _=>(gd 19 32 [[],[],[],[],[],[.call (V.i (ac l (q+1) 2)) ([rdC l (q+1+1),[]])],[.i ((300:Int) - ac l (q+1) 2)],[.call (V.own [false] (List.map ai (br n))) [[]]],[],[],[]] ?_)) (noF tO)
   conv=>whnf
   refine⟨⟨I,I,I,I,I,⟨UB,I,UV,UA,aa _ _ _ OM OM OM OM⟩,wO,Zam,I,I,UL,I⟩,by kernel_rfl,?_⟩
   refine Ws<|g 32 34 [.call (V.i (ac l (q+1+1) 2)) ([rdC l (q+1+1+1),[]])]<|J (QA @aa)<|Wc<|J (fun _=>(rg [.call (aF bb) [[],[]]]<|J QZ (gd 34 42 [[],[],[],[],[]] ?_))) (noF tO)
   conv=>whnf
   refine⟨⟨I,I,I,UL,UA,I⟩,by kernel_rfl,?_⟩
   refine W.ret<|EndsW.rt<|J QZ ?_
   exact⟨bb,w.plan,_,rfl,rfl,⟨kn hR,hs,hR.workers⟩,by omega,by omega⟩
  ·refine dH ?_
   conv=>whnf
   refine g 0 0 []<|J UB<|g 14 16 [.call (ax w) ([rdC l q])]<|J QZ<|g 16 18 []<|J QZ<|Ws<|g 18 19 [.call (V.i (ac l q 6)) ([rdC l (q+1),[]])]<|J (QA @aa)<|Wb<|g 21 22 []<|J UB<|Wc<|J (fun _=>(gd 19 32 [[],[],[],[],[],[.call (V.i (ac l (q+1) 2)) ([rdC l (q+1+1),[]])],[.i ((300:Int) - ac l (q+1) 2)],[.call (V.own [false] (List.map ai (br n))) [[]]],[],[],[]] ?_)) (noF tO)
   conv=>whnf
   refine⟨⟨I,I,I,I,I,⟨UB,I,UV,UA,aa _ _ _ OM OM OM OM⟩,wO,Zam,I,I,UL,I⟩,by kernel_rfl,?_⟩
   refine Ws<|g 32 34 [.call (V.i (ac l (q+1+1) 2)) ([rdC l (q+1+1+1),[]])]<|J (QA @aa)<|Wc<|J (noT dO) fun _=>Wk<|gd 34 42 [[],[],[],[],[]] ?_
   conv=>whnf
   refine J QZ<|J KR<|W.ret<|EndsW.rt<|J QZ ?_
   exact⟨eB w.boss.workers w.boss.now (br n),w.plan,_,rfl,rfl,⟨kn hD,hs,b1,b2⟩,by omega,by omega⟩
 by_cases k1:ac l q 6 = 1
 ·refine dH ?_
  conv=>whnf
  refine g 0 0 []<|J UB<|g 14 16 [.call (ax w) ([rdC l q])]<|J QZ<|g 16 18 []<|J QZ<|Ws<|g 18 19 [.call (V.i (ac l q 6)) ([rdC l (q+1),[]])]<|J (QA @aa)<|Wb<|g 21 22 []<|J UB<|Wc<|J (noT dO) fun _=>g 20 21 []<|J UB<|Wc<|J (fun _=>(Ws (g 19 20 []<|J UA ?_))) (noF tO)
  refine Wb<|Wl (fun s (x:Nat×List Seat×Int)=>⟨(SK s [0,2,3,4,5] [(6,.i x.1),(42,s.s 42)]),[(2,(CK s 2 0 12 [])),(3,[s.c 3 0]),(4,(CK s 4 0 17 [])),(190,[.t (u8s l),.t (.i x.2.2)]),(5,[.t (.i w.boss.workers),.t (.b w.boss.up),.t (.i w.boss.now),.t (.i w.boss.since),.t (.i w.boss.epoch),.t (.i w.boss.given),.own [false] (w.boss.log.safe.map ai),.own [false] (w.boss.log.loose.map ai),.own [false] (w.boss.results.map ai),.own dU (w.boss.jobs.map aI),.own bJ (x.2.1.map aE),.own bK (w.boss.owed.map aJ)])],[]⟩) (fun(x:Nat×List Seat×Int)=>x.1≤w.boss.seats.length∧x.2.1.length = w.boss.seats.length∧x.2.2 = q+1+x.1) (fun(x:Nat×List Seat×Int)=>w.boss.seats.length - x.1) ((0,w.boss.seats,q+1)) [some 2,some 3,some 4,some 190,some 5] [] FZ (by simp) ?_
  rintro⟨i,ss,r⟩ ⟨i1,i2,i3⟩
  dsimp only at i1 i2 i3
  by_cases hi:i < w.boss.seats.length
  ·obtain⟨x,hx⟩:=ae (xs:=ss) (n:=i) OM
   have p3:=aj l r 3
   have es:(ss.map aE).set i (aE ⟨x.free,2+ac l r 3⟩) = (ss.set i ⟨x.free,2+ac l r 3⟩).map aE:=by rw[←List.map_set]
   conv=>whnf
   refine Ws<|g 44 48 []<|J UE<|Wc<|J (fun _=>(Wk (Ws (Wb (rgd [[],[],[],[],[.call (V.i (ac l r 3)) ([rdC l (r+1),[]])],[.i (2+ac l r 3)],[.n (Prod.fst (i,ss,r))],[],[.x (aE x)]] ?_))))) (noF SI)
   conv=>whnf
   refine⟨⟨I,I,I,I,⟨UB,I,UV,UA,aa _ _ _ OX OX OX OX⟩,wO,Zan,I,⟨UA,xA⟩,I⟩,by kernel_rfl,?_⟩
   refine rg [.i ((↑(Prod.fst (i,ss,r)):Int) +1)]<|J QZ ?_
   refine⟨(i+1,ss.set i ⟨x.free,2+ac l r 3⟩,r+1),[some 2,some 3,some 4,some 190,some 5],[],⟨rfl,FZ,⟨FZ,⟨FZ,⟨FZ,⟨FZ,⟨⟨rfl,⟨rfl,⟨rfl,⟨rfl,⟨rfl,⟨rfl,⟨rfl,⟨rfl,⟨rfl,⟨rfl,⟨rfl,⟨(congrArg (V.own _) (es)),Zaq⟩⟩⟩⟩⟩⟩⟩⟩⟩⟩⟩⟩,I⟩⟩⟩⟩⟩,I⟩,?_,?_⟩
   rotate_left
   (dsimp only;omega)
   dsimp only
   all_goals first|exact⟨by omega,by rw[List.length_set];exact i2,by omega⟩|(dsimp only;omega)|omega
  ·conv=>whnf
   refine Ws<|g 44 48 []<|J UE<|Wc<|J (noT SI) fun _=>We<|gd 59 62 [[],[],[],[],[]] ?_
   conv=>whnf
   refine J QZ<|J KR<|W.ret<|EndsW.rt<|J QZ ?_
   exact⟨⟨w.boss.workers,w.boss.up,w.boss.now,w.boss.since,w.boss.epoch,w.boss.given,⟨w.boss.log.safe,w.boss.log.loose⟩,w.boss.results,w.boss.jobs,ss,w.boss.owed⟩,w.plan,r,rfl,rfl,⟨⟨hm.safe,hm.loose,hm.all,hm.res,hm.jobs,by show ss.length≤100;omega,hm.owed⟩,hs,b1,b2⟩,by omega,by omega⟩
 by_cases k2:ac l q 6 = 2
 ·refine dH ?_
  conv=>whnf
  refine g 0 0 []<|J UB<|g 14 16 [.call (ax w) ([rdC l q])]<|J QZ<|g 16 18 []<|J QZ<|Ws<|g 18 19 [.call (V.i (ac l q 6)) ([rdC l (q+1),[]])]<|J (QA @aa)<|Wb<|g 21 22 []<|J UB<|Wc<|J (noT dO) fun _=>g 20 21 []<|J UB<|Wc<|J (noT dO) fun _=>g 43 44 []<|J UB<|Wc<|J (fun _=>?_) (noF tO)
  refine Ws<|g 62 64 []<|J UA<|Wb ?_
  refine Wl (fun s (x:Nat×List Owed×Int)=>⟨(SK s [0,2,3,4,5] [(7,.i x.1),(42,s.s 42)]),[(2,(CK s 2 0 12 [])),(3,[s.c 3 0]),(4,(CK s 4 0 17 [])),(190,[.t (u8s l),.t (.i x.2.2)]),(5,[.t (.i w.boss.workers),.t (.b w.boss.up),.t (.i w.boss.now),.t (.i w.boss.since),.t (.i w.boss.epoch),.t (.i w.boss.given),.own [false] (w.boss.log.safe.map ai),.own [false] (w.boss.log.loose.map ai),.own [false] (w.boss.results.map ai),.own dU (w.boss.jobs.map aI),.own bJ (w.boss.seats.map aE),.own bK (x.2.1.map aJ)])],[]⟩) (fun(x:Nat×List Owed×Int)=>x.1≤w.boss.results.length∧x.2.1.length≤2000∧x.2.2 = q+1+x.1) (fun(x:Nat×List Owed×Int)=>w.boss.results.length - x.1) ((0,w.boss.owed,q+1)) [some 2,some 3,some 4,some 190,some 5] [] FZ ?_ ?_
  ·exact⟨Nat.zero_le _,b13,by show q+1 = q+1+ ((0:Nat):Int);omega⟩
  rintro⟨i,os,r⟩ ⟨i1,i2,i3⟩
  dsimp only at i1 i2 i3
  by_cases hi:i < w.boss.results.length
  ·obtain⟨y,hy⟩:=ae (xs:=w.boss.results) (n:=i) OM
   have p3:=aj l r 2
   conv=>whnf
   refine Ws<|g 64 68 []<|J UE<|Wc<|J (fun _=>(Wk (Ws (Wb (g 68 74 [.call (V.i (ac l r 2)) ([rdC l (r+1),[]]),.i ((2000:Int) - ac l r 2)]<|J (QA @aa) (g 0 0 []<|J UA (Wb (Wl (fun s (x:Nat×List Owed)=>⟨(SK s [0,2,3,4,5,7,8] [(9,.i (1+x.1)),(42,s.s 42)]),[(190,[s.c 190 0,s.c 190 1]),(2,(CK s 2 0 12 [])),(3,[s.c 3 0]),(4,(CK s 4 0 17 [])),(5,[.t (.i w.boss.workers),.t (.b w.boss.up),.t (.i w.boss.now),.t (.i w.boss.since),.t (.i w.boss.epoch),.t (.i w.boss.given),.own [false] (w.boss.log.safe.map ai),.own [false] (w.boss.log.loose.map ai),.own [false] (w.boss.results.map ai),.own dU (w.boss.jobs.map aI),.own bJ (w.boss.seats.map aE),.own bK (x.2.map aJ)])],[]⟩) (fun(x:Nat×List Owed)=>x.2.length≤2000∧x.1≤x.2.length) (fun(x:Nat×List Owed)=>2000 - x.2.length) ((0,os)) [some 190,some 2,some 3,some 4,some 5] [] FZ ⟨by omega,by simp⟩ ?_)))))))) (noF SI)
   rintro⟨j,os2⟩ ⟨j1,j2⟩
   dsimp only at j1 j2
   by_cases hE:y = emp
   ·conv=>whnf
    refine Ws<|g 74 86 (.n (Prod.fst (i,os,r))::.x (ai y)::(RL 6 BF []))<|J QZ<|Wc<|J (noT rfl) fun _=>We<|rg [.i ((↑(Prod.fst (i,os,r)):Int) +1)]<|J QZ ?_
    refine⟨(i+1,os2,r+1),[some 2,some 3,some 4,some 190,some 5],[],FZ,?_,?_⟩
    rotate_left
    (dsimp only;omega)
    dsimp only
    omega
    all_goals first|exact⟨by omega,j1,by omega⟩|(dsimp only;omega)|omega
   ·by_cases hL:(os2.length:Int) < 2000 - ac l r 2
    ·have es:os2.map aJ++ [aJ ⟨1,1000+ (1+ (j:Int)),i⟩] = (os2++ [(⟨1,1000+ (1+ (j:Int)),(i:Int)⟩:Owed)]).map aJ:=by rw[List.map_append];rfl
     conv=>whnf
     refine Ws<|g 74 86 (.n (Prod.fst (i,os,r))::.x (ai y)::(RL 6 BT []))<|J QZ<|Wc<|J (fun _=>(Wk (Ws (Wb (rg [.i (1000+ (1+ (↑(Prod.fst (j,os2)):Int)))]<|J QZ (rg [.i (1+ (↑(Prod.fst (j,os2)):Int) +1)]<|J QZ ?_)))))) (noF (by simp_all))
     refine⟨(j+1,os2++ [(⟨1,1000+ (1+ (j:Int)),(i:Int)⟩:Owed)]),[some 190,some 2,some 3,some 4,some 5],[],⟨rfl,FZ,⟨FZ,⟨FZ,⟨FZ,⟨FZ,⟨⟨rfl,⟨rfl,⟨rfl,⟨rfl,⟨rfl,⟨rfl,⟨rfl,⟨rfl,⟨rfl,⟨rfl,⟨rfl,⟨rfl,⟨(congrArg (V.own _) (es)),I⟩⟩⟩⟩⟩⟩⟩⟩⟩⟩⟩⟩⟩,I⟩⟩⟩⟩⟩,I⟩,?_,?_⟩
     rotate_left
     rotate_right 1
     dsimp only
     all_goals first|exact⟨by rw[List.length_append,List.length_singleton];omega,by rw[List.length_append,List.length_singleton];omega⟩|(simp only[List.length_append,List.length_singleton];omega)|(dsimp only;omega)|omega
    ·conv=>whnf
     refine Ws<|g 74 86 (.n (Prod.fst (i,os,r))::.x (ai y)::(RL 6 BT []))<|J QZ<|Wc<|J (noT (by simp_all)) fun _=>We<|rg [.i ((↑(Prod.fst (i,os,r)):Int) +1)]<|J QZ ?_
     refine⟨(i+1,os2,r+1),[some 2,some 3,some 4,some 190,some 5],[],FZ,?_,?_⟩
     rotate_left
     (dsimp only;omega)
     dsimp only
     omega
     all_goals first|exact⟨by omega,j1,by omega⟩|(dsimp only;omega)|omega
  ·conv=>whnf
   refine Ws<|g 64 68 []<|J UE<|Wc<|J (noT SI) fun _=>We<|gd 68 101 [[],[],[],[],[]] ?_
   conv=>whnf
   refine J QZ<|J KR<|W.ret<|EndsW.rt<|J QZ ?_
   exact⟨⟨w.boss.workers,w.boss.up,w.boss.now,w.boss.since,w.boss.epoch,w.boss.given,⟨w.boss.log.safe,w.boss.log.loose⟩,w.boss.results,w.boss.jobs,w.boss.seats,os⟩,w.plan,r,rfl,rfl,⟨⟨hm.safe,hm.loose,hm.all,hm.res,hm.jobs,hm.seats,by show os.length≤4000;omega⟩,hs,b1,b2⟩,by omega,by omega⟩
 by_cases k3:ac l q 6 = 3
 ·by_cases hup:w.boss.up = true
  ·refine dH ?_
   conv=>whnf
   refine g 0 0 []<|J UB<|g 14 16 [.call (ax w) ([rdC l q])]<|J QZ<|g 16 18 []<|J QZ<|Ws<|g 18 19 [.call (V.i (ac l q 6)) ([rdC l (q+1),[]])]<|J (QA @aa)<|Wb<|g 21 22 []<|J UB<|Wc<|J (noT dO) fun _=>g 20 21 []<|J UB<|Wc<|J (noT dO) fun _=>g 43 44 []<|J UB<|Wc<|J (noT dO) fun _=>?_
   refine g 62 64 []<|J UB<|Wc<|J (fun _=>(Ws (g 101 104 []<|J UB (Wc<|J (fun _=>(rg [.call (V.i (ac l (q+1) 2)) ([rdC l (q+1+1),[]]),.i ((1000000:Int) - ac l (q+1) 2)]<|J (QA @aa) (gd 104 112 [[],[],[],[],[]] ?_))) (noF AS))))) (noF tO)
   conv=>whnf
   refine⟨⟨I,I,I,UL,UA,I⟩,by kernel_rfl,?_⟩
   refine W.ret<|EndsW.rt<|J QZ ?_
   exact⟨⟨w.boss.workers,w.boss.up,w.boss.now,w.boss.since,w.boss.epoch,1000000 - ac l (q+1) 2,⟨w.boss.log.safe,w.boss.log.loose⟩,w.boss.results,w.boss.jobs,w.boss.seats,w.boss.owed⟩,w.plan,_,rfl,rfl,⟨⟨hm.safe,hm.loose,hm.all,hm.res,hm.jobs,hm.seats,hm.owed⟩,hs,b1,b2⟩,by omega,by omega⟩
  ·refine dH ?_
   conv=>whnf
   refine g 0 0 []<|J UB<|g 14 16 [.call (ax w) ([rdC l q])]<|J QZ<|g 16 18 []<|J QZ<|Ws<|g 18 19 [.call (V.i (ac l q 6)) ([rdC l (q+1),[]])]<|J (QA @aa)<|Wb<|g 21 22 []<|J UB<|Wc<|J (noT dO) fun _=>g 20 21 []<|J UB<|Wc<|J (noT dO) fun _=>g 43 44 []<|J UB<|Wc<|J (noT dO) fun _=>?_
   refine g 62 64 []<|J UB<|Wc<|J (fun _=>(Ws (g 101 104 []<|J UB (Wc<|J (noT SI) fun _=>(Wk (gd 104 112 [[],[],[],[],[]] ?_)))))) (noF tO)
   conv=>whnf
   refine⟨⟨I,I,I,UL,UA,I⟩,by kernel_rfl,?_⟩
   refine W.ret<|EndsW.rt<|J QZ ?_
   exact⟨w.boss,w.plan,_,rfl,rfl,⟨hm,hs,b1,b2⟩,by omega,by omega⟩
 by_cases k4:ac l q 6 = 4
 ·refine dH ?_
  conv=>whnf
  refine g 0 0 []<|J UB<|g 14 16 [.call (ax w) ([rdC l q])]<|J QZ<|g 16 18 []<|J QZ<|Ws<|g 18 19 [.call (V.i (ac l q 6)) ([rdC l (q+1),[]])]<|J (QA @aa)<|Wb<|g 21 22 []<|J UB<|Wc<|J (noT dO) fun _=>g 20 21 []<|J UB<|Wc<|J (noT dO) fun _=>g 43 44 []<|J UB<|Wc<|J (noT dO) fun _=>?_
  refine g 62 64 []<|J UB<|Wc<|J (noT dO) fun _=>g 101 103 []<|J UB<|Wc<|J (fun _=>(g 112 118 [.call (V.i (ac l (q+1) 2)) ([rdC l (q+1+1),[]]),.i ((1000000:Int) - ac l (q+1) 2)]<|J (QA @aa) (Ws (g 19 20 []<|J UA (Wb (Wl (fun s (x:Nat×List Job)=>⟨(SK s [0,2,3,4,5] [(10,.i x.1),(42,s.s 42)]),[(190,[s.c 190 0,s.c 190 1]),(2,(CK s 2 0 12 [])),(3,[s.c 3 0]),(4,(CK s 4 0 17 [])),(5,[.t (.i w.boss.workers),.t (.b w.boss.up),.t (.i (1000000 - ac l (q+1) 2)),.t (.i w.boss.since),.t (.i w.boss.epoch),.t (.i w.boss.given),.own [false] (w.boss.log.safe.map ai),.own [false] (w.boss.log.loose.map ai),.own [false] (w.boss.results.map ai),.own dU (x.2.map aI),.own bJ (w.boss.seats.map aE),.own bK (w.boss.owed.map aJ)])],[]⟩) (fun(x:Nat×List Job)=>x.1≤w.boss.jobs.length∧x.2.length = w.boss.jobs.length) (fun(x:Nat×List Job)=>w.boss.jobs.length - x.1) ((0,w.boss.jobs)) [some 190,some 2,some 3,some 4,some 5] [] FZ (by simp) ?_)))))) (noF tO)
  rintro⟨i,js⟩ ⟨i1,i2⟩
  dsimp only at i1 i2
  by_cases hi:i < w.boss.jobs.length
  ·obtain⟨x,hx⟩:=ae (xs:=js) (n:=i) OM
   have es:(js.map aI).set i (aI fm) = (js.set i fm).map aI:=by rw[←List.map_set]
   conv=>whnf
   refine Ws<|g 118 122 []<|J UE<|Wc<|J (fun _=>(Wk (Ws (Wb (rg [.n (Prod.fst (i,js)),.x (aI x)]<|J QZ (rg [.i ((↑(Prod.fst (i,js)):Int) +1)]<|J QZ ?_)))))) (noF SI)
   refine⟨(i+1,js.set i fm),[some 190,some 2,some 3,some 4,some 5],[],⟨rfl,FZ,⟨FZ,⟨FZ,⟨FZ,⟨FZ,⟨⟨rfl,⟨rfl,⟨rfl,⟨rfl,⟨rfl,⟨rfl,⟨rfl,⟨rfl,⟨rfl,⟨rfl,⟨(congrArg (V.own _) (es)),FZ⟩⟩⟩⟩⟩⟩⟩⟩⟩⟩⟩,I⟩⟩⟩⟩⟩,I⟩,?_,?_⟩
   rotate_left
   (dsimp only;omega)
   dsimp only
   all_goals first|exact⟨by omega,by rw[List.length_set];exact i2⟩|(dsimp only;omega)|omega
  ·conv=>whnf
   refine Ws<|g 118 122 []<|J UE<|Wc<|J (noT SI) fun _=>We<|gd 122 133 [[],[],[],[],[]] ?_
   conv=>whnf
   refine J QZ<|J KR<|W.ret<|EndsW.rt<|J QZ ?_
   exact⟨⟨w.boss.workers,w.boss.up,1000000 - ac l (q+1) 2,w.boss.since,w.boss.epoch,w.boss.given,⟨w.boss.log.safe,w.boss.log.loose⟩,w.boss.results,js,w.boss.seats,w.boss.owed⟩,w.plan,_,rfl,rfl,⟨⟨hm.safe,hm.loose,hm.all,hm.res,by show js.length≤100;omega,hm.seats,hm.owed⟩,hs,b1,b2⟩,by omega,by omega⟩
 have ce:=nS 299 OM
 have ce2:F nF [.val (.i 299)] (.own [false] ((br 299).map ai)) [[]]:=ce
 have hel:=kL 299
 have hf12:=pj 12
 have hpw:dh ⟨fg 12⟩:=pE ur
 have hDa:∀ s∈br 299++ [],s.size≤12:=fun s q=>by rw[List.append_nil]at q;exact xF q
 have hD:BossTight Iz:=⟨⟨by show(0:Int)≤2;omega,by show(2:Int)≤8;omega⟩,⟨by show(0:Int)≤3;omega,by show(3:Int)≤1000000;omega⟩,⟨Int.le_refl _,by show(0:Int)≤300;omega⟩,by show(br 299).length≤310;omega,Nat.zero_le _,hDa,Nat.zero_le _,Nat.zero_le _,Nat.zero_le _,Nat.zero_le _⟩
 have hR:=xR ⟨fg 12⟩ hD
 have cb0:=ji Iz ⟨fg 12⟩ (Im (ge hpw)) (px hD)
 have hrl:(jR Iz ⟨fg 12⟩).results.length = 12:=by
  rw[PZ]
  show(aw ⟨fg 12⟩ (br 299)).results.length = 12
  rw[(lr (p:=⟨fg 12⟩) ur 299 OM).2.2,List.length_replicate,pj]
 generalize jR Iz ⟨fg 12⟩ = bb at cb0 hR hrl
 have cb:F jf [.val (.agg [.t (.i 2),.t (.b false),.t (.i 3),.t (.i 0),.t (.i 0),.t (.i 0),.t (.slc [false] ((br 299).map ai)),.t (.slc [false] []),.t (.slc [false] []),.t (.slc dU []),.t (.slc bJ []),.t (.slc bK [])]),.val (.agg [.t (.slc cY ((fg 12).map ay))])] (aF bb) [[],[]]:=cb0
 clear cb0
 obtain⟨⟨c1,c2⟩,⟨c3,c4⟩,⟨c5,c6⟩,c7,c8,c9,c10,c11,c12,c13⟩:=hR
 refine dH ?_
 conv=>whnf
 refine g 0 0 []<|J UB<|g 14 16 [.call (ax w) ([rdC l q])]<|J QZ<|g 16 18 []<|J QZ<|Ws<|g 18 19 [.call (V.i (ac l q 6)) ([rdC l (q+1),[]])]<|J (QA @aa)<|Wb<|g 21 22 []<|J UB<|Wc<|J (noT dO) fun _=>g 20 21 []<|J UB<|Wc<|J (noT dO) fun _=>g 43 44 []<|J UB<|Wc<|J (noT dO) fun _=>?_
 refine g 62 64 []<|J UB<|Wc<|J (noT dO) fun _=>g 101 103 []<|J UB<|Wc<|J (noT dO) fun _=>Wk<|g 112 134 []<|J QZ<|Ws<|g 4 5 []<|J UA<|Wb<|Wl (fun s (i:Nat)=>⟨(SK s [0,2,3,5,11] [(12,.i i),(42,s.s 42)]),[(190,[s.c 190 0,s.c 190 1]),(2,(CK s 2 0 12 [])),(3,[s.c 3 0]),(5,(CK s 5 0 12 [])),(11,[.own cY ((fg i).map ay)])],[]⟩) (fun(i:Nat)=>i≤12) (fun(i:Nat)=>12 - i) (0) [some 190,some 2,some 3,some 5,some 11] [] FZ OM ?_
 intro i hi
 by_cases hi2:i < 12
 ·have cd:=fU i OM OM
  have hds:=gg i
  have es:=Mz i
  have hfl:=pj i
  conv=>whnf
  refine Ws<|g 134 135 []<|J UB<|Wc<|J (fun _=>(Wk (Ws (Wb (rgd [[],[],[],[.call (V.s (dD (i:Int))) [[]]],[.s ({data:=#[(102:UInt8),(117:UInt8),(108:UInt8),(108:UInt8)]:ByteArray} ++dD (i:Int))],[],[],[],[],[]] ?_))))) (noF tO)
  conv=>whnf
  refine⟨⟨I,I,I,Zam,⟨rfl,(by simp only[bsz,bsa,ByteArray.size_append,List.size_toArray,jY];omega)⟩,I,⟨UC,I⟩,Zao,I,UA,I⟩,by kernel_rfl,?_⟩
  refine rg [.i ((i:Int) +1)]<|J QZ ?_
  refine⟨i+1,[some 190,some 2,some 3,some 5,some 11],[],⟨rfl,FZ,⟨FZ,⟨FZ,⟨FZ,⟨FZ,⟨⟨rfl,⟨(congrArg (V.own _) (es)),I⟩⟩,I⟩⟩⟩⟩⟩,I⟩,?_,?_⟩
  rotate_left
  (dsimp only;omega)
  dsimp only
  omega
 obtain rfl:i = 12:=by omega
 conv=>whnf
 refine Ws<|g 134 135 []<|J UB<|Wc<|J (noT rfl) fun _=>We<|gd 135 152 [[.call (V.own [false] (List.map ai (br 299))) [[]]],[],[],[],[.call (aF bb) [[],[]]],[]] ?_
 conv=>whnf
 refine J QZ<|J KR<|Ws<|g 12 13 []<|J UA<|Wb ?_
 refine Wl (fun s (x:Nat×List ByteArray×List ByteArray×Int)=>⟨(SK s [0,2,3,5,11] [(13,.i x.1),(42,s.s 42)]),[(2,(CK s 2 0 12 [])),(3,[s.c 3 0]),(11,[s.c 11 0]),(190,[.t (u8s l),.t (.i x.2.2.2)]),(5,[.t (.i bb.workers),.t (.b bb.up),.t (.i bb.now),.t (.i bb.since),.t (.i bb.epoch),.t (.i bb.given),.own [false] (bb.log.safe.map ai),.own [false] (x.2.2.1.map ai),.own [false] (x.2.1.map ai),.own dU (bb.jobs.map aI),.own bJ (bb.seats.map aE),.own bK (bb.owed.map aJ)])],[]⟩) (fun(x:Nat×List ByteArray×List ByteArray×Int)=>x.1≤10∧x.2.1.length = 12∧x.2.2.1.length≤bb.log.loose.length+x.1∧(∀ s∈x.2.2.1,s.size≤12)∧x.2.2.2 = q+1+x.1) (fun(x:Nat×List ByteArray×List ByteArray×Int)=>10 - x.1) ((0,bb.results,bb.log.loose,q+1)) [some 2,some 3,some 11,some 190,some 5] [] FZ ?_ ?_
 ·exact⟨by dsimp only;omega,hrl,by dsimp only;omega,fun s q=>c9 s (List.mem_append_right _ q),by show q+1 = q+1+ ((0:Nat):Int);omega⟩
 rintro⟨i,rs,lo,r⟩ ⟨i1,i2,i3,i4,i5⟩
 dsimp only at i1 i2 i3 i4 i5
 have p3:=aj l r 2
 by_cases hi:(i:Int) < 10 - ac l r 2
 ·obtain⟨y,hy⟩:=ae (xs:=rs) (n:=i) OM
  have hg:(fg 12)[i]? = some ⟨fy i,1,[]⟩:=Cs OM
  have cv:F tz [.val (.s (fy i)),.val (.t (.slc [false] []))] (.s (bC (fy i) [])) [[],[]]:=jO (fy i) [] (by have:=gg (i:Int);unfold fy;rw[ByteArray.size_append];have e:(⟨#[102,117,108,108]⟩:ByteArray).size = 4:=rfl;omega) (Nat.zero_le _) (by decide) (by intro s hs;cases hs)
  have hvs:=oz (fy i) []
  have cf:=dk 2 bb.epoch i (bC (fy i) []) OM
  have hfs:=iP ⟨2,bb.epoch,i,bC (fy i) []⟩
  dsimp only at hfs
  have e1:(rs.map ai).set i (ai (bC (fy i) [])) = (rs.set i (bC (fy i) [])).map ai:=by rw[←List.map_set]
  have e2:(rs.set i (bC (fy i) []))[i]? = some (bC (fy i) []):=List.getElem?_set_self OM
  have e3:=SP lo (bT ⟨2,bb.epoch,i,bC (fy i) []⟩)
  have e4:=um lo (bT ⟨2,bb.epoch,i,bC (fy i) []⟩)
  have a1:=CG i4 (y:=bT ⟨2,bb.epoch,i,bC (fy i) []⟩) OM
  generalize bC (fy i) [] = vv at cv hvs cf hfs e1 e2 e3 e4 a1
  conv=>whnf
  refine Ws<|g 152 156 [.call (V.i (ac l r 2)) ([rdC l (r+1),[]]),.i ((10:Int) - ac l r 2)]<|J (QA @aa)<|Wc<|J (fun _=>(Wk (Ws (Wb (gd 156 171 [[],[],[],[],[],[],[.n (Prod.fst (i,rs,lo,r))],[],[.x (ay {name:=fy i,cost:=1,deps:=[]:Task})],[],[.call (V.s vv) [[],[]]],[.n (Prod.fst (i,rs,lo,r))],[.x (ai y)]] ?_))))) (noF tO)
  conv=>whnf
  refine⟨⟨I,I,I,I,I,I,Zan,I,xA,I,⟨UB,I,UT,UA,AS⟩,Zan,⟨UA,xA⟩,I⟩,by kernel_rfl,?_⟩
  refine rgd [[],[],[],[],[],[],[],[],[],[.n (Prod.fst (i,rs,lo,r))],[.x (aM (ai y) 0 [T.v (Value.string vv)])],[],[.call (V.s (bT {kind:=2,epoch:=bb.epoch,task:=(i:Int),text:=vv:Entry})) [[]]],[],[],[],[],[]] ?_
  conv=>whnf
  refine J QZ<|J KR<|rg [.i ((↑(Prod.fst (i,rs,lo,r)):Int) +1)]<|J QZ ?_
  refine⟨(i+1,rs.set i vv,lo++ [bT ⟨2,bb.epoch,i,vv⟩],r+1),[some 2,some 3,some 11,some 190,some 5],[],⟨rfl,FZ,⟨FZ,⟨FZ,⟨FZ,⟨FZ,⟨⟨rfl,⟨rfl,⟨rfl,⟨rfl,⟨rfl,⟨rfl,⟨rfl,⟨rfl,⟨(congrArg (V.own _) (e3)),⟨(congrArg (V.own _) (e1)),FZ⟩⟩⟩⟩⟩⟩⟩⟩⟩⟩,I⟩⟩⟩⟩⟩,I⟩,?_,?_⟩
  rotate_left
  (dsimp only;omega)
  dsimp only
  all_goals first|exact⟨by omega,by rw[List.length_set];exact i2,by rw[e4];omega,a1,by omega⟩|(dsimp only;omega)|omega
 ·conv=>whnf
  refine Ws<|g 152 156 [.call (V.i (ac l r 2)) ([rdC l (r+1),[]]),.i ((10:Int) - ac l r 2)]<|J (QA @aa)<|Wc<|J (noT dO) fun _=>We<|gd 5 14 [[],[],[],[]] ?_
  conv=>whnf
  refine J QZ<|J KR<|W.ret<|EndsW.rt<|J QZ ?_
  exact⟨⟨bb.workers,bb.up,bb.now,bb.since,bb.epoch,bb.given,⟨bb.log.safe,lo⟩,rs,bb.jobs,bb.seats,bb.owed⟩,⟨fg 12⟩,r+1,rfl,rfl,⟨⟨by show bb.log.safe.length≤400;omega,by show lo.length≤400;omega,fun s hs=>by
   rcases List.mem_append.1 hs with hs|hs
   ·have:=c9 s (List.mem_append_left _ hs);omega
   ·have:=i4 s hs;omega,by show rs.length≤100;omega,by show bb.jobs.length≤100;omega,by show bb.seats.length≤100;omega,by show bb.owed.length≤4000;omega⟩,hpw,c1,c2⟩,by omega,by omega⟩
theorem Cz(l:List Int)(pos:Int)(h:dN l∧0≤pos∧pos≤800000):∃ x:(Boss×Plan)×Int,F lv [.ptr (rdC l pos)] (.tup [aF x.1.1,eA x.1.2]) [rdC l x.2]∧EdgeOk x.1.1 x.1.2∧pos≤x.2∧x.2≤pos+6000:=by
 obtain⟨res,outs,⟨b,p,pos2,rfl,rfl,h1,h2,h3⟩,hF⟩:=Xq l pos h.1 h.2.1 h.2.2
 exact⟨((b,p),pos2),hF,h1,h2,h3⟩
open Classical in
noncomputable def pV(l:List Int)(pos:Int):(Boss×Plan)×Int:=if h:dN l∧0≤pos∧pos≤800000 then(Cz l pos h).choose else((iG,⟨[]⟩),pos)
theorem Er(l:List Int)(pos:Int)(hl:dN l)(h0:0≤pos)(h1:pos≤800000):F lv [.ptr (rdC l pos)] (.tup [aF (pV l pos).1.1,eA (pV l pos).1.2]) [rdC l (pV l pos).2]:=by
 have h:dN l∧0≤pos∧pos≤800000:=⟨hl,h0,h1⟩
 rw[pV,dif_pos h]
 exact(Cz l pos h).choose_spec.1
theorem Xs(l:List Int)(pos:Int):EdgeOk (pV l pos).1.1 (pV l pos).1.2∧pos≤(pV l pos).2∧(pV l pos).2≤pos+6000:=by
 unfold pV
 split
 ·rename_i h;exact(Cz l pos h).choose_spec.2
 ·exact⟨⟨kn (iL (w:=noWorld) (.inr rfl)),no_dolim.small,Int.le_refl _,by show(0:Int)≤8;omega⟩,Int.le_refl _,by dsimp only;omega⟩
end Go.K
end
section
open Go Go.Tm Go.Proofs
namespace Go.K
theorem KY(m:Message)(key:ByteArray):(dR m key).size≤500:=by
 by_cases h:bL m
 ·exact oU h
 ·have e:dR m key = emp:=if_neg fun q=>h q.1
  rw[e];decide
def wasB:ByteArray:=⟨#[119,97,115]⟩
theorem Qa(l:List Int)(pos:Int)(hl:dN l)(h0:0≤pos)(h1:pos≤700000):∃ res outs,(∃ (v:World) (pos2:Int),res = ax v∧outs = [rdC l pos2]∧AnyW v∧pos≤pos2∧pos2≤pos+12000)∧F C1 [.ptr (rdC l pos)] res outs:=by
 have cr:=ir l pos hl OM OM
 obtain⟨g1,_,g3,g4⟩:=Cl l pos
 generalize(iz l pos).1 = w at cr g1
 generalize(iz l pos).2 = q at cr g3 g4
 have ha:=Cr g1
 have hd:=cJ g1
 have hwl:=hd.wl
 have hfl:=hd.fl
 have p5:=aj l q 5
 by_cases k0:ac l q 5 = 0
 ·refine fh ?_
  conv=>whnf
  refine g 0 0 []<|J UA<|g 10 12 [.call (ax w) ([rdC l q])]<|J QZ<|Ws<|g 12 13 [.call (V.i (ac l q 5)) ([rdC l (q+1),[]])]<|J (QA @aa)<|Wb<|g 36 37 []<|J UB<|Wc<|J (fun _=>(g 13 36 []<|J UA (Wb (Wd (lo:=10) (hi:=140) ?_)))) (noF tO)
  conv=>whnf
  refine Wl (fun s (x:Nat×List Parcel×Int)=>⟨(SK s [0,2,3] [(4,.i x.1)]),[(2,(CK s 2 0 17 [])),(141,[.t (u8s l),.t (.i x.2.2)]),(3,[.own cY (w.plan.tasks.map ay),.t (.s w.key),.t (.i w.boss.workers),.t (.b w.boss.up),.t (.i w.boss.now),.t (.i w.boss.since),.t (.i w.boss.epoch),.t (.i w.boss.given),.own [false] (w.boss.log.safe.map ai),.own [false] (w.boss.log.loose.map ai),.own [false] (w.boss.results.map ai),.own dU (w.boss.jobs.map aI),.own bJ (w.boss.seats.map aE),.own bK (w.boss.owed.map aJ),.own cz ((w.workers).map ag),.own pkd ((x.2.1).map bh),.t (.s w.forged)])],[]⟩) (fun(x:Nat×List Parcel×Int)=>x.1≤2∧x.2.1.length≤2000+x.1∧(∀ s∈x.2.1,s.frm.size≤5000∧s.text.size≤5000)∧q+1≤x.2.2∧x.2.2≤q+1+x.1) (fun(x:Nat×List Parcel×Int)=>2 - x.1) ((0,w.flight,q+1)) [some 2,some 141,some 3] [] FZ ?_ ?_
  ·exact⟨by omega,by dsimp only;omega,ha.fs,Int.le_refl _,by dsimp only;omega⟩
  rintro⟨n,fl,r⟩ ⟨i1,i2,i3,i4,i5⟩
  dsimp only at i1 i2 i3 i4 i5
  by_cases hn:n < 2
  ·have cb:=dS l r hl OM OM
   have hts:=dY (dD (ac l r 50))
   generalize qa (dD (ac l r 50)) = tx at cb hts
   have cf:=dQ ⟨3,1,0,1,1+ (n:Int),0,tx,[]⟩ w.key (Nat.zero_le _)
   have hfs:=KY ⟨3,1,0,1,1+ (n:Int),0,tx,[]⟩ w.key
   generalize dR ⟨3,1,0,1,1+ (n:Int),0,tx,[]⟩ w.key = fs at cf hfs
   have ec:[bh ⟨0,wasB,fs⟩] ++fl.map bh = ((⟨0,wasB,fs⟩ :: fl:List Parcel)).map bh:=rfl
   have ew:wasB.size = 3:=rfl
   conv=>whnf
   refine Ws<|g 37 38 []<|J UB<|Wc<|J (fun _=>(Wk (Ws (Wb (g 38 46 [.i (1+ (↑(Prod.fst (n,fl,r)):Int)),.call (V.s tx) ([rdC l (r+1)])]<|J QZ (rgd [[],[],[],[.call (V.s fs) [[],[]]],[],[],[],[],[],[],[]] ?_)))))) (noF tO)
   conv=>whnf
   refine⟨⟨I,I,I,⟨UB,I,⟨UH,UA,I⟩,UA,AS⟩,I,⟨UC,I⟩,I,I,Zao,I,UA,I⟩,by kernel_rfl,?_⟩
   refine rg [.i ((↑(Prod.fst (n,fl,r)):Int) +1)]<|J QZ ?_
   refine⟨(n+1,⟨0,wasB,fs⟩ :: fl,r+1),[some 2,some 141,some 3],[],FZ,?_,?_⟩
   rotate_left
   (dsimp only;omega)
   dsimp only
   refine⟨by omega,by simp only[List.length_cons];omega,fun s hs=>?_,by first|omega|(dsimp only;omega),by first|omega|(dsimp only;omega)⟩
   rcases List.mem_cons.1 hs with rfl|hs
   ·dsimp only;omega
   ·exact i3 s hs
  ·conv=>whnf
   refine Ws<|g 37 38 []<|J UB<|Wc<|J (noT dO) fun _=>We<|g 3 141 []<|J QZ<|W.ret<|EndsW.rt<|J UR ?_
   exact⟨⟨w.plan,w.key,w.boss,w.workers,fl,w.forged⟩,r,rfl,rfl,⟨ha.plan,ha.boss,ha.key,ha.wl,ha.wi,by dsimp only;omega,i3⟩,by omega,by omega⟩
 by_cases k1:ac l q 5 = 1
 ·have ce:=Er l (q+1) hl OM OM
  obtain⟨⟨e1,e2,e3⟩,e4,e5⟩:=Xs l (q+1)
  generalize(pV l (q+1)).1.1 = b at ce e1 e3
  generalize(pV l (q+1)).1.2 = p at ce e2
  generalize(pV l (q+1)).2 = r at ce e4 e5
  refine fh ?_
  conv=>whnf
  refine g 0 0 []<|J UA<|g 10 12 [.call (ax w) ([rdC l q])]<|J QZ<|Ws<|g 12 13 [.call (V.i (ac l q 5)) ([rdC l (q+1),[]])]<|J (QA @aa)<|Wb<|g 36 37 []<|J UB<|Wc<|J (noT dO) fun _=>g 35 36 []<|J UB<|Wc<|J (fun _=>(g 13 63 [.call (V.tup [aF b,eA p]) ([rdC l r])]<|J QZ (g 7 65 []<|J QZ (g 65 67 []<|J QZ ?_)))) (noF tO)
  refine Ws<|Wb<|Wd (lo:=10) (hi:=140) ?_
  conv=>whnf
  refine Wl (fun s (ws:List Worker)=>⟨(SK s [0,2,3,6] []),[(141,[s.c 141 0,s.c 141 1]),(2,(CK s 2 0 17 [])),(6,(CK s 6 0 12 [])),(3,[.own cY (p.tasks.map ay),.t (.s w.key),.t (.i b.workers),.t (.b b.up),.t (.i b.now),.t (.i b.since),.t (.i b.epoch),.t (.i b.given),.own [false] (b.log.safe.map ai),.own [false] (b.log.loose.map ai),.own [false] (b.results.map ai),.own dU (b.jobs.map aI),.own bJ (b.seats.map aE),.own bK (b.owed.map aJ),.own cz ((ws).map ag),.own pkd ((w.flight).map bh),.t (.s w.forged)])],[]⟩) (fun(ws:List Worker)=>ws.length≤8∧(∀ s∈ws,s.inputs.length≤100)) (fun(ws:List Worker)=>8 - ws.length) (w.workers) [some 141,some 2,some 6,some 3] [] FZ ?_ ?_
  ·exact⟨hwl,ha.wi⟩
  rintro ws ⟨i1,i2⟩
  by_cases hn:(ws.length:Int) < b.workers
  ·have es:ws.map ag++ [ag ⟨((ws.map ag).length:Int) +1,1,false,0,0,0,0,0,[],emp,0⟩] = (ws++ [(⟨(ws.length:Int) +1,1,false,0,0,0,0,0,[],emp,0⟩:Worker)]).map ag:=by rw[List.map_append,List.length_map];rfl
   have el:(ws++ [(⟨(ws.length:Int) +1,1,false,0,0,0,0,0,[],emp,0⟩:Worker)]).length = ws.length+1:=by rw[List.length_append];rfl
   conv=>whnf
   refine Ws<|g 67 72 []<|J UF<|Wc<|J (fun _=>(Wk (Wb (rg [.i ((↑(List.length (List.map ag ws)):Int) +1)]<|J QZ ?_)))) (noF SI)
   refine⟨ws++ [(⟨(ws.length:Int) +1,1,false,0,0,0,0,0,[],emp,0⟩:Worker)],[some 141,some 2,some 6,some 3],[],⟨rfl,FZ,⟨FZ,⟨FZ,⟨FZ,⟨⟨rfl,⟨rfl,⟨rfl,⟨rfl,⟨rfl,⟨rfl,⟨rfl,⟨rfl,⟨rfl,⟨rfl,⟨rfl,⟨rfl,⟨rfl,⟨rfl,⟨rfl,⟨(congrArg (V.own _) (es)),FZ⟩⟩⟩⟩⟩⟩⟩⟩⟩⟩⟩⟩⟩⟩⟩⟩,I⟩⟩⟩⟩,I⟩,?_,?_⟩
   rotate_left
   (dsimp only;omega)
   dsimp only
   refine⟨by omega,fun s hs=>?_⟩
   rcases List.mem_append.1 hs with hs|hs
   ·exact i2 s hs
   ·rw[List.mem_singleton.1 hs];exact Nat.zero_le _
  ·conv=>whnf
   refine Ws<|g 67 72 []<|J UF<|Wc<|J (noT SI) fun _=>We<|rg [.n (Int.toNat b.workers)]<|J QZ<|g 3 141 []<|J QZ<|W.ret<|EndsW.rt<|J UR ?_
   exact⟨⟨p,w.key,b,ws.take b.workers.toNat,w.flight,w.forged⟩,r,HG (by rw[List.drop_zero,List.map_take]),rfl,⟨ge e2,e1,ha.key,by show(ws.take b.workers.toNat).length≤9;rw[List.length_take];omega,fun s hs=>i2 s (List.mem_of_mem_take hs),ha.fl,ha.fs⟩,by omega,by omega⟩
 by_cases k2:ac l q 5 = 2
 ·refine fh ?_
  conv=>whnf
  refine g 0 0 []<|J UA<|g 10 12 [.call (ax w) ([rdC l q])]<|J QZ<|Ws<|g 12 13 [.call (V.i (ac l q 5)) ([rdC l (q+1),[]])]<|J (QA @aa)<|Wb<|g 36 37 []<|J UB<|Wc<|J (noT dO) fun _=>g 35 36 []<|J UB<|Wc<|J (noT dO) fun _=>g 56 58 []<|J UB<|Wc<|J (fun _=>(g 13 91 []<|J UA ?_)) (noF tO)
  refine Wb<|Wd (lo:=10) (hi:=140) ?_
  conv=>whnf
  refine Wl (fun s (x:Nat×List Worker×Int)=>⟨(SK s [0,2,3] [(8,.i x.1)]),[(2,(CK s 2 0 17 [])),(141,[.t (u8s l),.t (.i x.2.2)]),(3,[.own cY (w.plan.tasks.map ay),.t (.s w.key),.t (.i w.boss.workers),.t (.b w.boss.up),.t (.i w.boss.now),.t (.i w.boss.since),.t (.i w.boss.epoch),.t (.i w.boss.given),.own [false] (w.boss.log.safe.map ai),.own [false] (w.boss.log.loose.map ai),.own [false] (w.boss.results.map ai),.own dU (w.boss.jobs.map aI),.own bJ (w.boss.seats.map aE),.own bK (w.boss.owed.map aJ),.own cz ((x.2.1).map ag),.own pkd ((w.flight).map bh),.t (.s w.forged)])],[]⟩) (fun(x:Nat×List Worker×Int)=>x.1≤w.workers.length∧x.2.1.length = w.workers.length∧(∀ s∈x.2.1,s.inputs.length≤100)∧q+1≤x.2.2∧x.2.2≤q+1+2 * x.1) (fun(x:Nat×List Worker×Int)=>w.workers.length - x.1) ((0,w.workers,q+1)) [some 2,some 141,some 3] [] FZ ?_ ?_
  ·exact⟨by omega,rfl,ha.wi,Int.le_refl _,by dsimp only;omega⟩
  rintro⟨n,ws,r⟩ ⟨i1,i2,i3,i4,i5⟩
  dsimp only at i1 i2 i3 i4 i5
  by_cases hn:n < ws.length
  ·obtain⟨x,hx⟩:=ae hn
   have hxi:=i3 x (List.mem_of_getElem? hx)
   have p2:=aj l r 2
   have p3:=aj l (r+1) 2
   have hyl:(mB ⟨x.number,300 - ac l r 2,x.up,x.state,x.lease,x.task,x.cost,x.left,x.inputs,x.text,x.since⟩).inputs.length≤100:=by
    unfold mB;split
    ·exact Nat.zero_le _
    ·exact Nat.zero_le _
   have cw:=kX ⟨x.number,300 - ac l r 2,x.up,x.state,x.lease,x.task,x.cost,x.left,x.inputs,x.text,x.since⟩ (by dsimp only;omega)
   generalize mB ⟨x.number,300 - ac l r 2,x.up,x.state,x.lease,x.task,x.cost,x.left,x.inputs,x.text,x.since⟩ = y at hyl cw
   have es:(ws.map ag).set n (ag y) = (ws.set n y).map ag:=fY
   have es2:(ws.map ag).set n (ag ⟨x.number,300 - ac l r 2,x.up,x.state,x.lease,x.task,x.cost,x.left,x.inputs,x.text,x.since⟩) = (ws.set n ⟨x.number,300 - ac l r 2,x.up,x.state,x.lease,x.task,x.cost,x.left,x.inputs,x.text,x.since⟩).map ag:=fY
   by_cases k9:ac l (r+1) 2 = 0
   ·conv=>whnf
    refine Ws<|g 91 95 []<|J UE<|Wc<|J (fun _=>(Wk (Ws (Wb (gd 95 106 [[],[],[],[],[.call (V.i (ac l r 2)) ([rdC l (r+1),[]])],[.i ((300:Int) - ac l r 2)],[.n (Prod.fst (n,ws,r))],[],[.x (ag x)]] ?_))))) (noF (by simp_all))
    conv=>whnf
    refine⟨⟨I,I,I,I,⟨UB,I,UV,UA,aa _ _ _ OX OX OX OX⟩,wO,Zan,I,⟨UA,xA⟩,I⟩,by kernel_rfl,?_⟩
    refine g 106 108 [.call (V.i (ac l (r+1) 2)) ([rdC l (r+1+1),[]])]<|J (QA @aa)<|Wc<|J (fun _=>(rgd [[],[],[],[],[],[],[.n (Prod.fst (n,ws,r))],[.x (aM (ag x) (0+1) [T.v (Value.int IntKind.i64 ((300:Int) - ac l r 2))])],[.x (aM (ag x) (0+1) [T.v (Value.int IntKind.i64 ((300:Int) - ac l r 2))]),.call (aA y) [[]]],[.n (Prod.fst (n,ws,r))],[.x (aM (ag x) (0+1) [T.v (Value.int IntKind.i64 ((300:Int) - ac l r 2))])]] ?_)) (noF tO)
    conv=>whnf
    refine⟨⟨I,I,I,I,I,I,Zan,jH LN,⟨UA,I,⟨⟨I,I,I,I,I,I,I,I,jH LN,I,I,I⟩,I⟩,UA,AS⟩,Zan,⟨UK,jH LN⟩,I⟩,by kernel_rfl,?_⟩
    rw[List.set_set]
    refine rg [.i ((↑(Prod.fst (n,ws,r)):Int) +1)]<|J QZ ?_
    refine⟨(n+1,ws.set n y,r+2),[some 2,some 141,some 3],[],⟨rfl,FZ,⟨FZ,⟨⟨rfl,⟨rfl,⟨(congrArg (fun z=>V.t (T.v (Value.int _ z))) (by show r+1+1 = r+2;omega)),I⟩⟩⟩,⟨⟨rfl,⟨rfl,⟨rfl,⟨rfl,⟨rfl,⟨rfl,⟨rfl,⟨rfl,⟨rfl,⟨rfl,⟨rfl,⟨rfl,⟨rfl,⟨rfl,⟨rfl,⟨(congrArg (V.own _) (es)),FZ⟩⟩⟩⟩⟩⟩⟩⟩⟩⟩⟩⟩⟩⟩⟩⟩,I⟩⟩⟩,I⟩,?_,?_⟩
    rotate_left
    (dsimp only;omega)
    dsimp only
    refine⟨by omega,by rw[List.length_set];exact i2,fun s hs=>?_,by first|omega|(dsimp only;omega),by first|omega|(dsimp only;omega)⟩
    rcases List.mem_or_eq_of_mem_set hs with hs|rfl
    ·exact i3 s hs
    ·exact hyl
   ·conv=>whnf
    refine Ws<|g 91 95 []<|J UE<|Wc<|J (fun _=>(Wk (Ws (Wb (gd 95 106 [[],[],[],[],[.call (V.i (ac l r 2)) ([rdC l (r+1),[]])],[.i ((300:Int) - ac l r 2)],[.n (Prod.fst (n,ws,r))],[],[.x (ag x)]] ?_))))) (noF (by simp_all))
    conv=>whnf
    refine⟨⟨I,I,I,I,⟨UB,I,UV,UA,aa _ _ _ OX OX OX OX⟩,wO,Zan,I,⟨UA,xA⟩,I⟩,by kernel_rfl,?_⟩
    refine g 106 108 [.call (V.i (ac l (r+1) 2)) ([rdC l (r+1+1),[]])]<|J (QA @aa)<|Wc<|J (noT dO) fun _=>Wk<|rg [.i ((↑(Prod.fst (n,ws,r)):Int) +1)]<|J QZ ?_
    refine⟨(n+1,ws.set n ⟨x.number,300 - ac l r 2,x.up,x.state,x.lease,x.task,x.cost,x.left,x.inputs,x.text,x.since⟩,r+2),[some 2,some 141,some 3],[],⟨rfl,FZ,⟨FZ,⟨⟨rfl,⟨rfl,⟨(congrArg (fun z=>V.t (T.v (Value.int _ z))) (by show r+1+1 = r+2;omega)),I⟩⟩⟩,⟨⟨rfl,⟨rfl,⟨rfl,⟨rfl,⟨rfl,⟨rfl,⟨rfl,⟨rfl,⟨rfl,⟨rfl,⟨rfl,⟨rfl,⟨rfl,⟨rfl,⟨rfl,⟨(congrArg (V.own _) (es2)),FZ⟩⟩⟩⟩⟩⟩⟩⟩⟩⟩⟩⟩⟩⟩⟩⟩,I⟩⟩⟩,I⟩,?_,?_⟩
    rotate_left
    (dsimp only;omega)
    dsimp only
    refine⟨by omega,by rw[List.length_set];exact i2,fun s hs=>?_,by first|omega|(dsimp only;omega),by first|omega|(dsimp only;omega)⟩
    rcases List.mem_or_eq_of_mem_set hs with hs|rfl
    ·exact i3 s hs
    ·exact hxi
  ·conv=>whnf
   refine Ws<|g 91 95 []<|J UE<|Wc<|J (noT (by simp_all)) fun _=>We<|g 3 141 []<|J QZ<|W.ret<|EndsW.rt<|J UR ?_
   exact⟨⟨w.plan,w.key,w.boss,ws,w.flight,w.forged⟩,r,rfl,rfl,⟨ha.plan,ha.boss,ha.key,by dsimp only;omega,i3,ha.fl,ha.fs⟩,by omega,by omega⟩
 by_cases k3:ac l q 5 = 3
 ·by_cases kf:0 < w.flight.length
  ·obtain⟨y,hy⟩:=ae (xs:=w.flight) (n:=0) kf
   refine fh ?_
   conv=>whnf
   refine g 0 0 []<|J UA<|g 10 12 [.call (ax w) ([rdC l q])]<|J QZ<|Ws<|g 12 13 [.call (V.i (ac l q 5)) ([rdC l (q+1),[]])]<|J (QA @aa)<|Wb<|g 36 37 []<|J UB<|Wc<|J (noT dO) fun _=>g 35 36 []<|J UB<|Wc<|J (noT dO) fun _=>g 56 58 []<|J UB<|Wc<|J (noT dO) fun _=>g 13 91 []<|J UB ?_
   refine Wc<|J (fun _=>(Wb (Wd (lo:=10) (hi:=140) ?_))) (noF tO)
   conv=>whnf
   refine Wl (fun s (fl:List Parcel)=>⟨(SK s [0,2,3] []),[(141,[s.c 141 0,s.c 141 1]),(2,(CK s 2 0 17 [])),(3,[.own cY (w.plan.tasks.map ay),.t (.s w.key),.t (.i w.boss.workers),.t (.b w.boss.up),.t (.i w.boss.now),.t (.i w.boss.since),.t (.i w.boss.epoch),.t (.i w.boss.given),.own [false] (w.boss.log.safe.map ai),.own [false] (w.boss.log.loose.map ai),.own [false] (w.boss.results.map ai),.own dU (w.boss.jobs.map aI),.own bJ (w.boss.seats.map aE),.own bK (w.boss.owed.map aJ),.own cz ((w.workers).map ag),.own pkd ((fl).map bh),.t (.s w.forged)])],[]⟩) (fun(fl:List Parcel)=>fl.length≤2000∧fl[0]? = some y∧(∀ s∈fl,s.frm.size≤5000∧s.text.size≤5000)) (fun(fl:List Parcel)=>2000 - fl.length) (w.flight) [some 141,some 2,some 3] [] FZ ?_ ?_
   ·exact⟨hfl,hy,ha.fs⟩
   rintro fl ⟨i1,i2,i3⟩
   have hyo:=i3 y (List.mem_of_getElem? i2)
   have hz0:0 < fl.length:=(List.getElem?_eq_some_iff.1 i2).1
   have ez:=Kw fl y
   have el:(fl++ [y]).length = fl.length+1:=by rw[List.length_append];rfl
   by_cases kz:fl.length < 2000
   ·conv=>whnf
    refine Ws<|g 121 130 [BT,BT,BT,BT,BT]<|J QZ<|Wc<|JD (fun h2=>?_) fun h2=>?_
    simp only[LM]at h2
    refine Wk<|Wb<|rgd [[],[],[],[],[.n (0)],[.x (bh y)],[],[],[],[]] ?_
    conv=>whnf
    refine J QZ<|J KR ?_
    rotate_left
    simp only[LM]at h2
    omega
    refine⟨fl++ [y],[some 141,some 2,some 3],[],⟨rfl,FZ,⟨FZ,⟨FZ,⟨⟨rfl,⟨rfl,⟨rfl,⟨rfl,⟨rfl,⟨rfl,⟨rfl,⟨rfl,⟨rfl,⟨rfl,⟨rfl,⟨rfl,⟨rfl,⟨rfl,⟨rfl,⟨rfl,⟨(congrArg (V.own _) (ez)),Zaq⟩⟩⟩⟩⟩⟩⟩⟩⟩⟩⟩⟩⟩⟩⟩⟩⟩,I⟩⟩⟩,I⟩,?_,?_⟩
    rotate_left
    (dsimp only;omega)
    dsimp only
    refine⟨by omega,by rw[List.getElem?_append_left hz0];exact i2,fun s hs=>?_⟩
    rcases List.mem_append.1 hs with hs|hs
    ·exact i3 s hs
    ·rw[List.mem_singleton.1 hs];exact hyo
   ·conv=>whnf
    refine Ws<|g 121 130 [BT,BT,BT,BT,BT]<|J QZ<|Wc<|J (fun h2=>?_) fun h2=>?_
    replace h2:=dt h2
    simp only[LM]at h2
    omega
    replace h2:=df h2
    simp only[LM]at h2
    refine We<|g 3 141 []<|J QZ<|W.ret<|EndsW.rt<|J UR ?_
    exact⟨⟨w.plan,w.key,w.boss,w.workers,fl,w.forged⟩,q+1,rfl,rfl,⟨ha.plan,ha.boss,ha.key,ha.wl,ha.wi,by dsimp only;omega,i3⟩,by omega,by omega⟩
  ·refine fh ?_
   conv=>whnf
   refine g 0 0 []<|J UA<|g 10 12 [.call (ax w) ([rdC l q])]<|J QZ<|Ws<|g 12 13 [.call (V.i (ac l q 5)) ([rdC l (q+1),[]])]<|J (QA @aa)<|Wb<|g 36 37 []<|J UB<|Wc<|J (noT dO) fun _=>g 35 36 []<|J UB<|Wc<|J (noT dO) fun _=>g 56 58 []<|J UB<|Wc<|J (noT dO) fun _=>g 13 91 []<|J UB ?_
   refine Wc<|J (fun _=>(Wb (Wd (lo:=10) (hi:=140) ?_))) (noF tO)
   conv=>whnf
   refine Wl (fun s (x:Nat)=>⟨(SK s [0,2,3] []),[(141,[s.c 141 0,s.c 141 1]),(2,(CK s 2 0 17 [])),(3,(CK s 3 0 17 []))],[]⟩) (fun(x:Nat)=>x = 0) (fun(x:Nat)=>x) (0) [some 141,some 2,some 3] [] FZ OM ?_
   intro x hx
   conv=>whnf
   refine Ws<|g 121 130 [BF,BF,BF,BF,BF]<|J QZ<|Wc<|J (noT rfl) fun _=>We<|g 3 141 []<|J QZ<|W.ret<|EndsW.rt<|J UR ?_
   exact⟨w,q+1,rfl,rfl,ha,by omega,by omega⟩
 ·refine fh ?_
  conv=>whnf
  refine g 0 0 []<|J UA<|g 10 12 [.call (ax w) ([rdC l q])]<|J QZ<|Ws<|g 12 13 [.call (V.i (ac l q 5)) ([rdC l (q+1),[]])]<|J (QA @aa)<|Wb<|g 36 37 []<|J UB<|Wc<|J (noT dO) fun _=>g 35 36 []<|J UB<|Wc<|J (noT dO) fun _=>g 56 58 []<|J UB<|Wc<|J (noT dO) fun _=>g 13 91 []<|J UB ?_
  refine Wc<|J (noT dO) fun _=>g 119 121 []<|J UA<|Wb<|Wd (lo:=10) (hi:=140) ?_
  conv=>whnf
  refine Wl (fun s (x:Nat×List Worker×Int)=>⟨(SK s [0,2,3] [(9,.i x.1)]),[(2,(CK s 2 0 17 [])),(141,[.t (u8s l),.t (.i x.2.2)]),(3,[.own cY (w.plan.tasks.map ay),.t (.s w.key),.t (.i w.boss.workers),.t (.b w.boss.up),.t (.i w.boss.now),.t (.i w.boss.since),.t (.i w.boss.epoch),.t (.i w.boss.given),.own [false] (w.boss.log.safe.map ai),.own [false] (w.boss.log.loose.map ai),.own [false] (w.boss.results.map ai),.own dU (w.boss.jobs.map aI),.own bJ (w.boss.seats.map aE),.own bK (w.boss.owed.map aJ),.own cz ((x.2.1).map ag),.own pkd ((w.flight).map bh),.t (.s w.forged)])],[]⟩) (fun(x:Nat×List Worker×Int)=>x.1≤w.workers.length∧x.2.1.length = w.workers.length∧(∀ s∈x.2.1,s.inputs.length≤100)∧q+1≤x.2.2∧x.2.2≤q+1+x.1) (fun(x:Nat×List Worker×Int)=>w.workers.length - x.1) ((0,w.workers,q+1)) [some 2,some 141,some 3] [] FZ ?_ ?_
  ·exact⟨by omega,rfl,ha.wi,Int.le_refl _,by dsimp only;omega⟩
  rintro⟨n,ws,r⟩ ⟨i1,i2,i3,i4,i5⟩
  dsimp only at i1 i2 i3 i4 i5
  by_cases hn:n < ws.length
  ·obtain⟨x,hx⟩:=ae hn
   have hxi:=i3 x (List.mem_of_getElem? hx)
   have p2:=aj l r 2
   by_cases k9:x.up = true
   ·have es2:(ws.map ag).set n (ag ⟨x.number,x.epoch,x.up,x.state,x.lease,x.task,x.cost,x.left,x.inputs,x.text,1000000 - ac l r 2⟩) = (ws.set n ⟨x.number,x.epoch,x.up,x.state,x.lease,x.task,x.cost,x.left,x.inputs,x.text,1000000 - ac l r 2⟩).map ag:=fY
    conv=>whnf
    refine Ws<|g 14 18 []<|J UE<|Wc<|J (fun _=>(Wk (Ws (Wb (g 18 26 [.n (Prod.fst (n,ws,r)),.x (ag x)]<|J QZ (Wc<|J (fun _=>(rgd [[],[],[],[],[.call (V.i (ac l r 2)) ([rdC l (r+1),[]])],[.i ((1000000:Int) - ac l r 2)],[.n (Prod.fst (n,ws,r))],[],[.x (ag x)]] ?_)) (noF AS))))))) (noF (by simp_all))
    conv=>whnf
    refine⟨⟨I,I,I,I,⟨UB,I,UV,UA,aa _ _ _ OX OX OX OX⟩,wO,Zan,I,⟨UA,xA⟩,I⟩,by kernel_rfl,?_⟩
    refine rg [.i ((↑(Prod.fst (n,ws,r)):Int) +1)]<|J QZ ?_
    refine⟨(n+1,ws.set n ⟨x.number,x.epoch,x.up,x.state,x.lease,x.task,x.cost,x.left,x.inputs,x.text,1000000 - ac l r 2⟩,r+1),[some 2,some 141,some 3],[],⟨rfl,FZ,⟨FZ,⟨FZ,⟨⟨rfl,⟨rfl,⟨rfl,⟨rfl,⟨rfl,⟨rfl,⟨rfl,⟨rfl,⟨rfl,⟨rfl,⟨rfl,⟨rfl,⟨rfl,⟨rfl,⟨rfl,⟨(congrArg (V.own _) (es2)),FZ⟩⟩⟩⟩⟩⟩⟩⟩⟩⟩⟩⟩⟩⟩⟩⟩,I⟩⟩⟩,I⟩,?_,?_⟩
    rotate_left
    (dsimp only;omega)
    dsimp only
    refine⟨by omega,by rw[List.length_set];exact i2,fun s hs=>?_,by first|omega|(dsimp only;omega),by first|omega|(dsimp only;omega)⟩
    rcases List.mem_or_eq_of_mem_set hs with hs|rfl
    ·exact i3 s hs
    ·exact hxi
   ·conv=>whnf
    refine Ws<|g 14 18 []<|J UE<|Wc<|J (fun _=>(Wk (Ws (Wb (g 18 26 [.n (Prod.fst (n,ws,r)),.x (ag x)]<|J QZ (Wc<|J (noT SI) fun _=>(Wk (rg [.i ((↑(Prod.fst (n,ws,r)):Int) +1)]<|J QZ ?_)))))))) (noF (by simp_all))
    refine⟨(n+1,ws,r),[some 2,some 141,some 3],[],FZ,?_,?_⟩
    rotate_left
    (dsimp only;omega)
    dsimp only
    exact⟨by omega,i2,i3,i4,by omega⟩
  ·conv=>whnf
   refine Ws<|g 14 18 []<|J UE<|Wc<|J (noT (by simp_all)) fun _=>We<|g 3 141 []<|J QZ<|W.ret<|EndsW.rt<|J UR ?_
   exact⟨⟨w.plan,w.key,w.boss,ws,w.flight,w.forged⟩,r,rfl,rfl,⟨ha.plan,ha.boss,ha.key,by dsimp only;omega,i3,ha.fl,ha.fs⟩,by omega,by omega⟩
end Go.K
end
section
open Go Go.Tm Go.Proofs
namespace Go.K
theorem tj(w:World)(h:DoLim w):F sQ [.val (gi w)] (ax w) [[]]:=by
 obtain⟨l1,l2,l3,l4,l5,l6,l7,l8⟩:=h
 have c1:=wk w.plan l2
 have c2:=XB w.boss l3
 have c3:=dM w.flight OM
 refine tb ?_
 conv=>whnf
 refine g 0 0 []<|J QZ<|gd 6 18 [[],[],[.call (eA w.plan) [[]]],[],[],[.call (aF w.boss) [[]]],[],[],[.call (V.own pkd (List.map bh w.flight)) [[]]],[],[],[],[],[],[]] ?_
 conv=>whnf
 refine J QZ<|J KR<|g 18 20 []<|J UC<|g 20 21 []<|J UV<|Ws<|g 3 4 []<|J UC<|Wb<|Wl (fun s (n:Nat)=>⟨(SK s [0,1,2,21,22] [(23,.i n)]),[(2,(CK s 2 0 17 [])),(1,[.own cY (w.plan.tasks.map ay),.t (.s w.key),.t (.i w.boss.workers),.t (.b w.boss.up),.t (.i w.boss.now),.t (.i w.boss.since),.t (.i w.boss.epoch),.t (.i w.boss.given),.own [false] (w.boss.log.safe.map ai),.own [false] (w.boss.log.loose.map ai),.own [false] (w.boss.results.map ai),.own dU (w.boss.jobs.map aI),.own bJ (w.boss.seats.map aE),.own bK (w.boss.owed.map aJ),.own cz ((w.workers.take n).map ag),.own pkd (w.flight.map bh),.t (.s w.forged)])],[]⟩) (fun(n:Nat)=>n≤w.workers.length) (fun(n:Nat)=>w.workers.length - n) (0) [some 2,some 1] [] FZ OM ?_
 intro n hn
 by_cases hn2:n < w.workers.length
 ·obtain⟨x,hx⟩:=ae hn2
  have hxi:=l5 x (List.mem_of_getElem? hx)
  have c4:=gz x OM
  conv=>whnf
  refine g 0 0 []<|J UA<|Ws<|Wc<|J (fun _=>(Wk (Ws (Wb (g 24 27 [.x (ag x)]<|J QZ (rgd [[],[],[],[.call (aA x) [[]]],[],[],[],[]] ?_)))))) (noF SI)
  conv=>whnf
  refine⟨⟨I,I,I,⟨UA,I,⟨UK,I⟩,UA,AS⟩,⟨UK,I⟩,Zao,I,UA,I⟩,by kernel_rfl,?_⟩
  refine rg [.i ((n:Int) +1)]<|J QZ ?_
  refine⟨n+1,[some 2,some 1],[],⟨rfl,FZ,⟨FZ,⟨⟨rfl,⟨rfl,⟨rfl,⟨rfl,⟨rfl,⟨rfl,⟨rfl,⟨rfl,⟨rfl,⟨rfl,⟨rfl,⟨rfl,⟨rfl,⟨rfl,⟨rfl,⟨(congrArg (V.own _) (pD AS)),FZ⟩⟩⟩⟩⟩⟩⟩⟩⟩⟩⟩⟩⟩⟩⟩⟩,I⟩⟩,I⟩,?_,?_⟩
  rotate_left
  (dsimp only;omega)
  dsimp only
  omega
 ·have e:w.workers.take n = w.workers:=aH OM
  conv=>whnf
  refine g 0 0 []<|J UA<|Ws<|Wc<|J (noT SI) fun _=>We<|g 21 36 []<|J QZ<|RT ?_
  (simp[*];done)
theorem fA(w:World)(k:Int)(h:w.workers.length≤8)(hk:1≤k∧k≤w.workers.length):F jq [.ptr (cellsOf (ax w)),.val (.i k)] (.ptr ⟨0,some (14,(k - 1).toNat,11),0⟩) [cellsOf (ax w),[]]:=by
 obtain⟨x,hx⟩:=ae (xs:=w.workers) (n:=(k - 1).toNat) OM
 refine jx ?_
 conv=>whnf
 refine g 0 0 []<|J UA<|Ws<|g 5 11 [.call (V.b (decide (1≤k∧k≤(↑(List.length (List.map ag w.workers)):Int)))) [[],[],[]]]<|J (QA @ah)<|Wc<|J (fun _=>(g 15 19 [.i (k - 1),.n (Int.toNat (k - 1))]<|J QZ (RT ?_))) (noF SI)
 rfl
theorem eD(w:World)(k:Int)(h:w.workers.length≤8)(hk:¬(1≤k∧k≤w.workers.length)):F jq [.ptr (cellsOf (ax w)),.val (.i k)] (.t (.v (.pointer none))) [cellsOf (ax w),[]]:=by
 refine jx ?_
 conv=>whnf
 refine g 0 0 []<|J UA<|Ws<|g 5 11 [.call (V.b (decide (1≤k∧k≤(↑(List.length (List.map ag w.workers)):Int)))) [[],[],[]]]<|J (QA @ah)<|Wc<|J (noT SI) fun _=>Wk<|g 0 2 []<|J UA<|RT ?_
 rfl
theorem tl(w:World)(h:WorldOk w):F sR [.ptr (cellsOf (ax w))] (.tup []) [cellsOf (ax (iv w))]:=by
 obtain⟨l1,l2,l3,l4,l5,l6,l7,l8⟩:=jp h
 have hnow:=h.boss.now
 by_cases h0:1000000≤w.boss.now
 ·rw[tZ h0]
  have h1:w.boss.now = 1000000:=by omega
  refine kV ?_
  conv=>whnf
  refine Ws<|g 6 11 []<|J UF<|Wc<|J (fun _=>(RT ?_)) (noF tO)
  rfl
 ·rw[NC h0]
  have c1:=wn w.boss w.plan h.boss l3
  obtain⟨s1,s2,s3⟩:=xQ w.plan l3
  have s4:=Gk w.boss w.plan
  rw[pq h.boss]at s1 s2 s3 s4 ⊢
  generalize iw w.boss w.plan.tasks = L at c1 s1 s2 s3 s4 ⊢
  refine kV ?_
  conv=>whnf
  refine Ws<|g 6 11 []<|J UF<|Wc<|J (noT dO) fun _=>Wk<|gd 11 20 [[],[],[],[],[],[],[],[.call (V.own cS (List.map aL (Led.out L))) ([cellsOf (aF (Led.boss L)),[]])],[]] ?_
  conv=>whnf
  refine J QZ<|J KR<|Ws<|g 20 23 []<|J UF<|Wb<|Wl (fun s (n:Nat)=>⟨[(0,s.s 0),(2,.ref ⟨2,none,0⟩),(23,s.s 23),(24,s.s 24),(25,.i n)],[(2,[.own cS ((L.out++jj w.plan w.workers n).map aL)]),(62,[.own cY (w.plan.tasks.map ay),.t (.s w.key),.t (.i L.boss.workers),.t (.b L.boss.up),.t (.i L.boss.now),.t (.i L.boss.since),.t (.i L.boss.epoch),.t (.i L.boss.given),.own [false] (L.boss.log.safe.map ai),.own [false] (L.boss.log.loose.map ai),.own [false] (L.boss.results.map ai),.own dU (L.boss.jobs.map aI),.own bJ (L.boss.seats.map aE),.own bK (L.boss.owed.map aJ),.own cz ((gB (fun x=>(gb x w.plan).worker) w.workers n).map ag),.own pkd (w.flight.map bh),.t (.s w.forged)])],[]⟩) (fun(n:Nat)=>n≤w.workers.length) (fun(n:Nat)=>w.workers.length - n) (0) [some 19,some 62] [] ⟨rfl,FZ,⟨⟨rfl,⟨(congrArg (V.own _) (by rw[B6,List.append_nil])),I⟩⟩,FZ⟩,I⟩ OM ?_
  intro n hn
  have hl:=ju (fun x=>(gb x w.plan).worker) w.workers n
  have ha:=Lh w.plan w.workers n
  by_cases hn2:n < w.workers.length
  ·obtain⟨x,hx⟩:=ae hn2
   have hxi:=l5 x (List.mem_of_getElem? hx)
   have hwk:=(h.crew n x hn2 hx).ok
   have c4:=rD x w.plan hwk h.plan
   rw[←eL hwk h.plan]at c4
   have e1:=mM (f:=fun x=>(gb x w.plan).worker) (g:=ag) hx
   have e2:(L.out++jj w.plan w.workers n).map aL++ (gb x w.plan).out.map aL = (L.out++jj w.plan w.workers (n+1)).map aL:=by rw[←B7 hx,←List.map_append,List.append_assoc]
   have hxo:=(pv x w.plan).1
   generalize gb x w.plan = A at c4 e1 e2 hxo
   conv=>whnf
   refine g 0 0 []<|J UA<|Ws<|Wc<|J (fun _=>(Wk (Ws (Wb (g 26 30 [.n (n),.x (ag x),.x (ag x)]<|J (QA @bw) (gd 30 36 [[],[],[],[],[],[.call (qT A) [[],[]]],[],[]] ?_)))))) (noF SI)
   conv=>whnf
   refine⟨⟨I,I,I,I,I,⟨⟨UK,I,I⟩,I,UV,UA,AS⟩,I,UL,I⟩,by kernel_rfl,?_⟩
   refine gd 36 44 [[],[],[],[],[],[],[],[.n (n)],[.x (List.set (ag x) (0+1+1+1+1+1+1+1+1) T.hole)]] ?_
   conv=>whnf
   refine J QZ<|J KR ?_
   rw[List.set_set]
   refine rg []<|J QZ<|rg [.i ((n:Int) +1)]<|J QZ ?_
   refine⟨n+1,[some 47,some 62],[],⟨rfl,FZ,⟨⟨rfl,⟨(congrArg (V.own _) (e2)),I⟩⟩,⟨⟨rfl,⟨rfl,⟨rfl,⟨rfl,⟨rfl,⟨rfl,⟨rfl,⟨rfl,⟨rfl,⟨rfl,⟨rfl,⟨rfl,⟨rfl,⟨rfl,⟨rfl,⟨(congrArg (V.own _) (e1)),FZ⟩⟩⟩⟩⟩⟩⟩⟩⟩⟩⟩⟩⟩⟩⟩⟩,I⟩⟩,I⟩,?_,?_⟩
   rotate_left
   (dsimp only;omega)
   dsimp only
   omega
  ·obtain rfl:n = w.workers.length:=by omega
   have e:=jv (fun x=>(gb x w.plan).worker) w.workers (Nat.le_refl _)
   have c5:=JO w.flight (L.out++jj w.plan w.workers w.workers.length) w.key OM (by rw[List.length_append];omega) (fun m hm=>by
    rcases List.mem_append.1 hm with hm|hm
    ·have:=s3 m hm;omega
    ·rw[Li hm];exact Nat.zero_le _)
   conv=>whnf
   refine g 0 0 []<|J UA<|Ws<|Wc<|J (noT SI) fun _=>We<|rgd [[],[],[],[],[],[],[],[],[],[],[.call (V.own pkd (List.map bh (rY w.flight (Led.out L++jj w.plan w.workers (List.length w.workers)) w.key))) [[],[],[]]],[],[],[]] ?_
   conv=>whnf
   refine J QZ<|J KR<|EndsW.nm<|J I<|J ?_ ?_
   rfl
   all_goals (rw[e];try rfl)
theorem rC(w:World)(s:Parcel)(h:WorldOk w)(hs:ParOk s):F jX [.ptr (cellsOf (ax w)),.val (Mj s.kind s.frm s.text)] (.tup []) [cellsOf (ax (cG w s)),[]]:=by
 obtain⟨l1,l2,l3,l4,l5,l6,l7,l8⟩:=jp h
 obtain⟨⟨p1,p2⟩,p3,p4⟩:=hs
 have c4:=rF s.text w.key OM
 cases hm:eG s.text w.key with
 |none =>
  rw[hm]at c4
  rw[Gn hm]
  refine bu ?_
  conv=>whnf
  refine g 1 2 []<|J QZ<|gd 7 17 [[],[],[],[],[],[],[.call (gA none) [[],[]]],[],[],[],[],[],[]] ?_
  conv=>whnf
  refine J QZ<|J KR<|Ws<|g 17 18 []<|J UB<|Wc<|J (fun _=>(RT ?_)) (noF rfl)
  rfl
 |some m =>
  rw[hm]at c4
  have hmi:=(dp (Ko hm)).1
  have cases3:∀ g:ByteArray,BJ w s = g→((s.text = s.frm∧g = w.forged)∨(¬s.text = s.frm∧¬w.forged = emp∧g = w.forged)∨(¬s.text = s.frm∧w.forged = emp∧g = s.text)):=fun g e=>by
   by_cases q1:s.text = s.frm
   ·exact .inl ⟨q1,by rw[←e,KV q1]⟩
   ·by_cases q2:w.forged = emp
    ·exact .inr (.inr ⟨q1,q2,by rw[←e,Oe q1 q2]⟩)
    ·exact .inr (.inl ⟨q1,q2,by rw[←e,KW q2]⟩)
  by_cases h0:s.kind = 0
  ·rw[xT hm h0]
   have c5:=wo w.boss w.plan m h.boss l3 OM
   rw[pt h.boss]
   show F _ _ _ [cellsOf (ax ⟨w.plan,w.key,ix w.boss w.plan.tasks m,w.workers,w.flight,_⟩),_]
   generalize ix w.boss w.plan.tasks m = L at c5 ⊢
   generalize hgg:BJ w s = g
   rcases cases3 g hgg with⟨q1,rfl⟩|⟨q1,q2,rfl⟩|⟨q1,q2,rfl⟩
   ·refine bu ?_
    conv=>whnf
    refine g 1 2 []<|J QZ<|gd 7 17 [[],[],[],[],[],[],[.call (gA (some m)) [[],[]]],[],[],[],[],[],[]] ?_
    conv=>whnf
    refine J QZ<|J KR<|Ws<|g 17 18 []<|J UB<|Wc<|J (noT rfl) fun _=>Wk<|Ws<|g 5 30 (RL 6 BF [])<|J QZ<|Wc<|J (noT rfl) fun _=>Wk<|g 30 38 []<|J UC<|Wc<|J (fun _=>(rgd [[],[],[],[],[],[],[],[],[.call (V.tup []) ([cellsOf (aF L),[],[]])]] ?_)) (noF tO)
    conv=>whnf
    refine⟨⟨I,I,I,I,I,I,I,I,⟨UC,I,⟨I,UA,UH,I⟩,UA,AS⟩,I⟩,by kernel_rfl,?_⟩
    refine EndsW.nm<|J I (J ?_ rfl)
    rfl
   ·refine bu ?_
    conv=>whnf
    refine g 1 2 []<|J QZ<|gd 7 17 [[],[],[],[],[],[],[.call (gA (some m)) [[],[]]],[],[],[],[],[],[]] ?_
    conv=>whnf
    refine J QZ<|J KR<|Ws<|g 17 18 []<|J UB<|Wc<|J (noT rfl) fun _=>Wk<|Ws<|g 5 30 (RL 6 BT [])<|J QZ<|Wc<|J (noT dO) fun _=>Wk<|g 30 38 []<|J UC<|Wc<|J (fun _=>(rgd [[],[],[],[],[],[],[],[],[.call (V.tup []) ([cellsOf (aF L),[],[]])]] ?_)) (noF tO)
    conv=>whnf
    refine⟨⟨I,I,I,I,I,I,I,I,⟨UC,I,⟨I,UA,UH,I⟩,UA,AS⟩,I⟩,by kernel_rfl,?_⟩
    refine EndsW.nm<|J I (J ?_ rfl)
    rfl
   ·refine bu ?_
    conv=>whnf
    refine g 1 2 []<|J QZ<|gd 7 17 [[],[],[],[],[],[],[.call (gA (some m)) [[],[]]],[],[],[],[],[],[]] ?_
    conv=>whnf
    refine J QZ<|J KR<|Ws<|g 17 18 []<|J UB<|Wc<|J (noT rfl) fun _=>Wk<|Ws<|g 5 30 (RL 6 BT [])<|J QZ<|Wc<|J (fun _=>(rg []<|J QZ (g 30 38 []<|J UC (Wc<|J (fun _=>(rgd [[],[],[],[],[],[],[],[],[.call (V.tup []) ([cellsOf (aF L),[],[]])]] ?_)) (noF tO))))) (noF tO)
    conv=>whnf
    refine⟨⟨I,I,I,I,I,I,I,I,⟨UC,I,⟨I,UA,UH,I⟩,UA,AS⟩,I⟩,by kernel_rfl,?_⟩
    refine EndsW.nm<|J I (J ?_ rfl)
    rfl
  ·by_cases h1:s.kind≤w.workers.length
   ·obtain⟨x,hx⟩:=ae (xs:=w.workers) (n:=(s.kind - 1).toNat) OM
    rw[xS hm h0 ⟨by omega,h1⟩ hx]
    have hwk:=(h.crew _ x OM hx).ok
    have hxi:=l5 x (List.mem_of_getElem? hx)
    have c5:=rE x w.plan m hwk h.plan OM
    rw[eN hwk h.plan]
    show F _ _ _ [cellsOf (ax ⟨w.plan,w.key,w.boss,w.workers.set _ (kD x w.plan.tasks m),w.flight,_⟩),_]
    generalize kD x w.plan.tasks m = L at c5 ⊢
    have es:=fY (xs:=w.workers) (n:=(s.kind - 1).toNat) (x:=L)
    generalize hgg:BJ w s = g
    rcases cases3 g hgg with⟨q1,rfl⟩|⟨q1,q2,rfl⟩|⟨q1,q2,rfl⟩
    ·have cw:=fA w s.kind l4 ⟨by omega,h1⟩
     refine bu ?_
     conv=>whnf
     refine g 1 2 []<|J QZ<|gd 7 17 [[],[],[],[],[],[],[.call (gA (some m)) [[],[]]],[],[],[],[],[],[]] ?_
     conv=>whnf
     refine J QZ<|J KR<|Ws<|g 17 18 []<|J UB<|Wc<|J (noT rfl) fun _=>Wk<|Ws<|g 5 30 (RL 6 BF [])<|J QZ<|Wc<|J (noT rfl) fun _=>Wk<|g 30 38 []<|J UC<|Wc<|J (noT dO) fun _=>g 38 52 [.call (V.ptr {root:=0,step:=some (14,Int.toNat (s.kind - 1),11),off:=0:Tm.Place}) ([cellsOf (ax w),[]])]<|J QZ ?_
     refine g 3 4 []<|J UB<|Wc<|J (fun _=>(rgd [[],[],[],[.x (ag x)],[],[],[],[],[],[.x (ag x),.call (aA L) [[],[],[]]],[],[.x (List.set (ag x) (0+1+1+1+1+1+1+1+1) T.hole)]] ?_)) (noF rfl)
     conv=>whnf
     refine⟨⟨I,I,I,xA,I,I,I,I,I,⟨⟨Zak,I,I,I⟩,I,⟨I,UA,UH,I⟩,UA,AS⟩,I,⟨UK,jH LN⟩,I⟩,by kernel_rfl,?_⟩
     refine EndsW.nm<|J I<|J ?_ ?_
     rfl
     rw[List.set_set]
     exact kB w.plan w.key w.boss w.workers (s.kind - 1).toNat L w.flight w.forged [[]]
    ·have cw:=fA w s.kind l4 ⟨by omega,h1⟩
     refine bu ?_
     conv=>whnf
     refine g 1 2 []<|J QZ<|gd 7 17 [[],[],[],[],[],[],[.call (gA (some m)) [[],[]]],[],[],[],[],[],[]] ?_
     conv=>whnf
     refine J QZ<|J KR<|Ws<|g 17 18 []<|J UB<|Wc<|J (noT rfl) fun _=>Wk<|Ws<|g 5 30 (RL 6 BT [])<|J QZ<|Wc<|J (noT dO) fun _=>Wk<|g 30 38 []<|J UC<|Wc<|J (noT dO) fun _=>g 38 52 [.call (V.ptr {root:=0,step:=some (14,Int.toNat (s.kind - 1),11),off:=0:Tm.Place}) ([cellsOf (ax w),[]])]<|J QZ ?_
     refine g 3 4 []<|J UB<|Wc<|J (fun _=>(rgd [[],[],[],[.x (ag x)],[],[],[],[],[],[.x (ag x),.call (aA L) [[],[],[]]],[],[.x (List.set (ag x) (0+1+1+1+1+1+1+1+1) T.hole)]] ?_)) (noF rfl)
     conv=>whnf
     refine⟨⟨I,I,I,xA,I,I,I,I,I,⟨⟨Zak,I,I,I⟩,I,⟨I,UA,UH,I⟩,UA,AS⟩,I,⟨UK,jH LN⟩,I⟩,by kernel_rfl,?_⟩
     refine EndsW.nm<|J I<|J ?_ ?_
     rfl
     rw[List.set_set]
     exact kB w.plan w.key w.boss w.workers (s.kind - 1).toNat L w.flight w.forged [[]]
    ·have cw:=fA ⟨w.plan,w.key,w.boss,w.workers,w.flight,s.text⟩ s.kind l4 ⟨by omega,h1⟩
     refine bu ?_
     conv=>whnf
     refine g 1 2 []<|J QZ<|gd 7 17 [[],[],[],[],[],[],[.call (gA (some m)) [[],[]]],[],[],[],[],[],[]] ?_
     conv=>whnf
     refine J QZ<|J KR<|Ws<|g 17 18 []<|J UB<|Wc<|J (noT rfl) fun _=>Wk<|Ws<|g 5 30 (RL 6 BT [])<|J QZ<|Wc<|J (fun _=>(rg []<|J QZ (g 30 38 []<|J UC (Wc<|J (noT dO) fun _=>(g 38 52 [.call (V.ptr {root:=0,step:=some (14,Int.toNat (s.kind - 1),11),off:=0:Tm.Place}) ([cellsOf (ax {plan:=w.plan,key:=w.key,boss:=w.boss,workers:=w.workers,flight:=w.flight,forged:=s.text:World}),[]])]<|J QZ ?_))))) (noF tO)
     refine g 3 4 []<|J UB<|Wc<|J (fun _=>(rgd [[],[],[],[.x (ag x)],[],[],[],[],[],[.x (ag x),.call (aA L) [[],[],[]]],[],[.x (List.set (ag x) (0+1+1+1+1+1+1+1+1) T.hole)]] ?_)) (noF rfl)
     conv=>whnf
     refine⟨⟨I,I,I,xA,I,I,I,I,I,⟨⟨Zak,I,I,I⟩,I,⟨I,UA,UH,I⟩,UA,AS⟩,I,⟨UK,jH LN⟩,I⟩,by kernel_rfl,?_⟩
     refine EndsW.nm<|J I<|J ?_ ?_
     rfl
     rw[List.set_set]
     exact kB w.plan w.key w.boss w.workers (s.kind - 1).toNat L w.flight s.text [[]]
   ·rw[B2 hm h0 (fun q=>h1 q.2)]
    generalize hgg:BJ w s = g
    rcases cases3 g hgg with⟨q1,rfl⟩|⟨q1,q2,rfl⟩|⟨q1,q2,rfl⟩
    ·have cw:=eD w s.kind l4 (fun q=>h1 q.2)
     refine bu ?_
     conv=>whnf
     refine g 1 2 []<|J QZ<|gd 7 17 [[],[],[],[],[],[],[.call (gA (some m)) [[],[]]],[],[],[],[],[],[]] ?_
     conv=>whnf
     refine J QZ<|J KR<|Ws<|g 17 18 []<|J UB<|Wc<|J (noT rfl) fun _=>Wk<|Ws<|g 5 30 (RL 6 BF [])<|J QZ<|Wc<|J (noT rfl) fun _=>Wk<|g 30 38 []<|J UC<|Wc<|J (noT dO) fun _=>g 38 52 [.call (V.t (T.v (Value.pointer none))) ([cellsOf (ax w),[]])]<|J QZ ?_
     refine g 3 4 []<|J UB<|Wc<|J (noT rfl) fun _=>Wk<|EndsW.nm<|J I (J ?_ rfl)
     rfl
    ·have cw:=eD w s.kind l4 (fun q=>h1 q.2)
     refine bu ?_
     conv=>whnf
     refine g 1 2 []<|J QZ<|gd 7 17 [[],[],[],[],[],[],[.call (gA (some m)) [[],[]]],[],[],[],[],[],[]] ?_
     conv=>whnf
     refine J QZ<|J KR<|Ws<|g 17 18 []<|J UB<|Wc<|J (noT rfl) fun _=>Wk<|Ws<|g 5 30 (RL 6 BT [])<|J QZ<|Wc<|J (noT dO) fun _=>Wk<|g 30 38 []<|J UC<|Wc<|J (noT dO) fun _=>g 38 52 [.call (V.t (T.v (Value.pointer none))) ([cellsOf (ax w),[]])]<|J QZ ?_
     refine g 3 4 []<|J UB<|Wc<|J (noT rfl) fun _=>Wk<|EndsW.nm<|J I (J ?_ rfl)
     rfl
    ·have cw:=eD ⟨w.plan,w.key,w.boss,w.workers,w.flight,s.text⟩ s.kind l4 (fun q=>h1 q.2)
     refine bu ?_
     conv=>whnf
     refine g 1 2 []<|J QZ<|gd 7 17 [[],[],[],[],[],[],[.call (gA (some m)) [[],[]]],[],[],[],[],[],[]] ?_
     conv=>whnf
     refine J QZ<|J KR<|Ws<|g 17 18 []<|J UB<|Wc<|J (noT rfl) fun _=>Wk<|Ws<|g 5 30 (RL 6 BT [])<|J QZ<|Wc<|J (fun _=>(rg []<|J QZ (g 30 38 []<|J UC (Wc<|J (noT dO) fun _=>(g 38 52 [.call (V.t (T.v (Value.pointer none))) ([cellsOf (ax {plan:=w.plan,key:=w.key,boss:=w.boss,workers:=w.workers,flight:=w.flight,forged:=s.text:World}),[]])]<|J QZ ?_))))) (noF tO)
     refine g 3 4 []<|J UB<|Wc<|J (noT rfl) fun _=>Wk<|EndsW.nm<|J I (J ?_ rfl)
     rfl
end Go.K
end
section
open Go Go.Tm Go.Proofs
namespace Go.K
theorem zq(w:World)(e:Event)(h:WorldOk w):F yu [.ptr (cellsOf (ax w)),.val (IC e)] (.tup []) [cellsOf (ax (doW w e)),[]]:=by
 have ct:=tl w h
 obtain⟨l1,l2,l3,l4,l5,l6,l7,l8⟩:=jp h
 have c1:=da w.flight e.a OM
 have c3:=EV w.flight e.a OM
 have c4:=JP w.flight e.a OM
 have c5:=JQ w.flight e.a e.b e.c OM (fun p hp=>by have:=(l7 p hp).bytes;omega)
 have c6:=wt w.boss e.b l3.safe l3.loose
 have c7:=wq w.boss w.plan l1 h.boss.workers (fun s hs=>l3.all s (List.mem_append_left _ hs)) (Bu h.boss)
 by_cases h1:e.kind = 1
 ·rw[aaM h1]
  refine bp ?_
  conv=>whnf
  refine g 1 2 []<|J QZ<|g 7 8 []<|J UB<|Wb<|g 10 11 []<|J UB<|Wc<|J (fun _=>(rg [.call (V.tup []) ([cellsOf (ax (iv w))])]<|J QZ (EndsW.nm<|J I (J ?_ rfl)))) (noF tO)
  rfl
 by_cases h2:e.kind = 2
 ·rw[aaL h2]
  by_cases ha:w.flight.length≤2000∧0≤e.a∧e.a < w.flight.length
  ·rw[decide_eq_true ha]at c1
   obtain⟨a1,a2,a3⟩:=ha
   obtain⟨s,hs⟩:=ae (xs:=w.flight) (n:=e.a.toNat) OM
   rw[Gl ⟨a1,a2,a3⟩ hs]
   have hp:=l7 s (List.mem_of_getElem? hs)
   have hw2:WorldOk (du w (cF w.flight e.a)):=jk h (by have:=BC w.flight e.a;omega) fun x hx=>l7 x (ul hx)
   have cb:=rC (du w (cF w.flight e.a)) s hw2 hp
   have cb2:F jX [.ptr (cellsOf (ax ⟨w.plan,w.key,w.boss,w.workers,cF w.flight e.a,w.forged⟩)),.val (Mj s.kind s.frm s.text)] (.tup []) [cellsOf (ax (cG (du w (cF w.flight e.a)) s)),[]]:=cb
   clear cb
   generalize cG (du w (cF w.flight e.a)) s = ww at cb2 ⊢
   refine bp ?_
   conv=>whnf
   refine g 1 2 []<|J QZ<|g 7 8 []<|J UB<|Wb<|g 10 11 []<|J UB<|Wc<|J (noT dO) fun _=>g 9 10 []<|J UB<|Wc<|J (fun _=>(gd 8 21 [[],[],[],[],[],[],[.call VT [[],[]]]] ?_)) (noF tO)
   conv=>whnf
   refine⟨⟨I,I,I,I,I,I,⟨UB,I,UT,UA,AS⟩,I⟩,by kernel_rfl,?_⟩
   refine Wc<|J (fun _=>(gd 21 30 [[],[],[],[],[],[],[.n (Int.toNat e.a)],[.x (bq s)],[],[]] ?_)) (noF rfl)
   conv=>whnf
   refine⟨⟨I,I,I,I,I,I,Zar,xA,I,UC,I⟩,by kernel_rfl,?_⟩
   refine gd 30 40 [[],[],[],[],[],[],[],[.call (V.own pkd (List.map bh (cF w.flight e.a))) [[],[]]],[],[],[]] ?_
   conv=>whnf
   refine J QZ<|J KR<|rg [.call (V.tup []) ([cellsOf (ax ww),[]])]<|J QZ<|EndsW.nm<|J I (J ?_ rfl)
   rfl
  ·rw[decide_eq_false ha]at c1
   rw[La ha]
   refine bp ?_
   conv=>whnf
   refine g 1 2 []<|J QZ<|g 7 8 []<|J UB<|Wb<|g 10 11 []<|J UB<|Wc<|J (noT dO) fun _=>g 9 10 []<|J UB<|Wc<|J (fun _=>(gd 8 21 [[],[],[],[],[],[],[.call VF [[],[]]]] ?_)) (noF tO)
   conv=>whnf
   refine⟨⟨I,I,I,I,I,I,⟨UB,I,UT,UA,AS⟩,I⟩,by kernel_rfl,?_⟩
   refine Wc<|J (noT rfl) fun _=>Wk<|EndsW.nm<|J I (J ?_ rfl)
   rfl
 by_cases h3:e.kind = 3
 ·rw[aaK h3]
  refine bp ?_
  conv=>whnf
  refine g 1 2 []<|J QZ<|g 7 8 []<|J UB<|Wb<|g 10 11 []<|J UB<|Wc<|J (noT dO) fun _=>g 9 10 []<|J UB<|Wc<|J (noT dO) fun _=>g 13 15 []<|J UB<|Wc<|J (fun _=>(rgd [[],[],[],[],[],[],[],[.call (V.own pkd (List.map bh (sy w.flight e.a))) [[],[]]],[],[],[]] ?_)) (noF tO)
  conv=>whnf
  refine⟨⟨I,I,I,I,I,I,I,⟨UB,I,UT,UA,AS⟩,I,I,UA,I⟩,by kernel_rfl,?_⟩
  refine EndsW.nm<|J I (J ?_ rfl)
  rfl
 by_cases h4:e.kind = 4
 ·rw[aaJ h4]
  refine bp ?_
  conv=>whnf
  refine g 1 2 []<|J QZ<|g 7 8 []<|J UB<|Wb<|g 10 11 []<|J UB<|Wc<|J (noT dO) fun _=>g 9 10 []<|J UB<|Wc<|J (noT dO) fun _=>g 13 15 []<|J UB<|Wc<|J (noT dO) fun _=>g 43 45 []<|J UB<|Wc<|J (fun _=>(rgd [[],[],[],[],[],[],[],[.call (V.own pkd (List.map bh (cF w.flight e.a))) [[],[]]],[],[],[]] ?_)) (noF tO)
  conv=>whnf
  refine⟨⟨I,I,I,I,I,I,I,⟨UB,I,UT,UA,AS⟩,I,I,UA,I⟩,by kernel_rfl,?_⟩
  refine EndsW.nm<|J I (J ?_ rfl)
  rfl
 by_cases h5:e.kind = 5
 ·rw[aaI h5]
  refine bp ?_
  conv=>whnf
  refine g 1 2 []<|J QZ<|g 7 8 []<|J UB<|Wb<|g 10 11 []<|J UB<|Wc<|J (noT dO) fun _=>g 9 10 []<|J UB<|Wc<|J (noT dO) fun _=>g 13 15 []<|J UB<|Wc<|J (noT dO) fun _=>g 43 45 []<|J UB<|Wc<|J (noT dO) fun _=>g 55 57 []<|J UB ?_
  refine Wc<|J (fun _=>(rgd [[],[],[],[],[],[],[],[],[],[],[],[.call (V.own pkd (List.map bh (sD w.flight e.a e.b e.c))) [[],[],[],[]]],[],[],[]] ?_)) (noF tO)
  conv=>whnf
  refine⟨⟨I,I,I,I,I,I,I,I,I,I,I,⟨UD,I,⟨UA,UA,UA,UA,I⟩,UA,AS⟩,I,I,UA,I⟩,by kernel_rfl,?_⟩
  refine EndsW.nm<|J I (J ?_ rfl)
  rfl
 by_cases h6:e.kind = 6
 ·by_cases ha:e.a = 0
  ·rw[YR h6 ha,CE h.boss]
   generalize lf w.boss e.b = B at c6 ⊢
   refine bp ?_
   conv=>whnf
   refine g 1 2 []<|J QZ<|g 7 8 []<|J UB<|Wb<|g 10 11 []<|J UB<|Wc<|J (noT dO) fun _=>g 9 10 []<|J UB<|Wc<|J (noT dO) fun _=>g 13 15 []<|J UB<|Wc<|J (noT dO) fun _=>g 43 45 []<|J UB<|Wc<|J (noT dO) fun _=>g 55 57 []<|J UB ?_
   refine Wc<|J (noT dO) fun _=>g 67 69 []<|J UB<|Wc<|J (fun _=>(g 8 87 []<|J UC (Wc<|J (fun _=>(rgd [[],[],[],[],[],[.call (V.tup []) ([cellsOf (aF B),[]])]] ?_)) (noF tO)))) (noF tO)
   conv=>whnf
   refine⟨⟨I,I,I,I,I,⟨UB,I,UV,UA,AS⟩,I⟩,by kernel_rfl,?_⟩
   refine EndsW.nm<|J I (J ?_ rfl)
   rfl
  ·by_cases hx:1≤e.a∧e.a≤w.workers.length
   ·have cw:=fA w e.a l4 hx
    obtain⟨x1,x2⟩:=hx
    obtain⟨x,hx⟩:=ae (xs:=w.workers) (n:=(e.a - 1).toNat) OM
    rw[YP h6 ⟨x1,x2⟩ hx]
    have hxi:=l5 x (List.mem_of_getElem? hx)
    have c8:=tn x OM
    generalize mB x = y at c8 ⊢
    have es:=fY (xs:=w.workers) (n:=(e.a - 1).toNat) (x:=y)
    refine bp ?_
    conv=>whnf
    refine g 1 2 []<|J QZ<|g 7 8 []<|J UB<|Wb<|g 10 11 []<|J UB<|Wc<|J (noT dO) fun _=>g 9 10 []<|J UB<|Wc<|J (noT dO) fun _=>g 13 15 []<|J UB<|Wc<|J (noT dO) fun _=>g 43 45 []<|J UB<|Wc<|J (noT dO) fun _=>g 55 57 []<|J UB ?_
    refine Wc<|J (noT dO) fun _=>g 67 69 []<|J UB<|Wc<|J (fun _=>(g 8 87 []<|J UC (Wc<|J (noT dO) fun _=>(g 87 98 [.call (V.ptr {root:=0,step:=some (14,Int.toNat (e.a - 1),11),off:=0:Tm.Place}) ([cellsOf (ax w),[]])]<|J QZ (g 0 4 []<|J UB (Wc<|J (fun _=>(rg [.x (ag x),.x (ag x),.call (aA y) [[]],.x (ag x)]<|J QZ (EndsW.nm<|J I<|J ?_ ?_))) (noF rfl))))))) (noF tO)
    rfl
    exact kB w.plan w.key w.boss w.workers (e.a - 1).toNat y w.flight w.forged [[]]
   ·have cw:=eD w e.a l4 hx
    rw[YQ h6 ha hx]
    refine bp ?_
    conv=>whnf
    refine g 1 2 []<|J QZ<|g 7 8 []<|J UB<|Wb<|g 10 11 []<|J UB<|Wc<|J (noT dO) fun _=>g 9 10 []<|J UB<|Wc<|J (noT dO) fun _=>g 13 15 []<|J UB<|Wc<|J (noT dO) fun _=>g 43 45 []<|J UB<|Wc<|J (noT dO) fun _=>g 55 57 []<|J UB ?_
    refine Wc<|J (noT dO) fun _=>g 67 69 []<|J UB<|Wc<|J (fun _=>(g 8 87 []<|J UC (Wc<|J (noT dO) fun _=>(g 87 98 [.call (V.t (T.v (Value.pointer none))) ([cellsOf (ax w),[]])]<|J QZ (g 0 4 []<|J UB (Wc<|J (noT rfl) fun _=>(Wk (EndsW.nm<|J I (J ?_ rfl))))))))) (noF tO)
    rfl
 by_cases h7:e.kind = 7
 ·by_cases ha:e.a = 0
  ·rw[YO h7 ha,nk h.boss]
   generalize cU w.boss w.plan = B at c7 ⊢
   refine bp ?_
   conv=>whnf
   refine g 1 2 []<|J QZ<|g 7 8 []<|J UB<|Wb<|g 10 11 []<|J UB<|Wc<|J (noT dO) fun _=>g 9 10 []<|J UB<|Wc<|J (noT dO) fun _=>g 13 15 []<|J UB<|Wc<|J (noT dO) fun _=>g 43 45 []<|J UB<|Wc<|J (noT dO) fun _=>g 55 57 []<|J UB ?_
   refine Wc<|J (noT dO) fun _=>g 67 69 []<|J UB<|Wc<|J (noT dO) fun _=>g 8 85 []<|J UB<|Wc<|J (fun _=>(g 106 110 []<|J UC (Wc<|J (fun _=>(rgd [[],[],[],[],[],[],[],[.call (V.tup []) ([cellsOf (aF B),[]])]] ?_)) (noF tO)))) (noF tO)
   conv=>whnf
   refine⟨⟨I,I,I,I,I,I,I,⟨UB,I,UV,UA,AS⟩,I⟩,by kernel_rfl,?_⟩
   refine EndsW.nm<|J I (J ?_ rfl)
   rfl
  ·by_cases hx:1≤e.a∧e.a≤w.workers.length
   ·have cw:=fA w e.a l4 hx
    obtain⟨x1,x2⟩:=hx
    obtain⟨x,hx⟩:=ae (xs:=w.workers) (n:=(e.a - 1).toNat) OM
    rw[YM h7 ⟨x1,x2⟩ hx]
    have hxi:=l5 x (List.mem_of_getElem? hx)
    have c8:=tm x OM
    generalize mz x = y at c8 ⊢
    have es:=fY (xs:=w.workers) (n:=(e.a - 1).toNat) (x:=y)
    refine bp ?_
    conv=>whnf
    refine g 1 2 []<|J QZ<|g 7 8 []<|J UB<|Wb<|g 10 11 []<|J UB<|Wc<|J (noT dO) fun _=>g 9 10 []<|J UB<|Wc<|J (noT dO) fun _=>g 13 15 []<|J UB<|Wc<|J (noT dO) fun _=>g 43 45 []<|J UB<|Wc<|J (noT dO) fun _=>g 55 57 []<|J UB ?_
    refine Wc<|J (noT dO) fun _=>g 67 69 []<|J UB<|Wc<|J (noT dO) fun _=>g 8 85 []<|J UB<|Wc<|J (fun _=>(g 106 110 []<|J UC (Wc<|J (noT dO) fun _=>(g 110 123 [.call (V.ptr {root:=0,step:=some (14,Int.toNat (e.a - 1),11),off:=0:Tm.Place}) ([cellsOf (ax w),[]])]<|J QZ (g 0 4 []<|J UB (Wc<|J (fun _=>(rg [.x (ag x),.x (ag x),.call (aA y) [[]],.x (ag x)]<|J QZ (EndsW.nm<|J I<|J ?_ ?_))) (noF rfl))))))) (noF tO)
    rfl
    exact kB w.plan w.key w.boss w.workers (e.a - 1).toNat y w.flight w.forged [[]]
   ·have cw:=eD w e.a l4 hx
    rw[YN h7 ha hx]
    refine bp ?_
    conv=>whnf
    refine g 1 2 []<|J QZ<|g 7 8 []<|J UB<|Wb<|g 10 11 []<|J UB<|Wc<|J (noT dO) fun _=>g 9 10 []<|J UB<|Wc<|J (noT dO) fun _=>g 13 15 []<|J UB<|Wc<|J (noT dO) fun _=>g 43 45 []<|J UB<|Wc<|J (noT dO) fun _=>g 55 57 []<|J UB ?_
    refine Wc<|J (noT dO) fun _=>g 67 69 []<|J UB<|Wc<|J (noT dO) fun _=>g 8 85 []<|J UB<|Wc<|J (fun _=>(g 106 110 []<|J UC (Wc<|J (noT dO) fun _=>(g 110 123 [.call (V.t (T.v (Value.pointer none))) ([cellsOf (ax w),[]])]<|J QZ (g 0 4 []<|J UB (Wc<|J (noT rfl) fun _=>(Wk (EndsW.nm<|J I (J ?_ rfl))))))))) (noF tO)
    rfl
 ·have e0:doW w e = w:=by
   unfold doW
   rw[if_neg h1,if_neg h2,if_neg h3,if_neg h4,if_neg h5,if_neg h6,if_neg h7]
  rw[e0]
  refine bp ?_
  conv=>whnf
  refine g 1 2 []<|J QZ<|g 7 8 []<|J UB<|Wb<|g 10 11 []<|J UB<|Wc<|J (noT dO) fun _=>g 9 10 []<|J UB<|Wc<|J (noT dO) fun _=>g 13 15 []<|J UB<|Wc<|J (noT dO) fun _=>g 43 45 []<|J UB<|Wc<|J (noT dO) fun _=>g 55 57 []<|J UB ?_
  refine Wc<|J (noT dO) fun _=>g 67 69 []<|J UB<|Wc<|J (noT dO) fun _=>g 8 85 []<|J UB<|Wc<|J (noT dO) fun _=>Wk<|EndsW.nm<|J I (J ?_ rfl)
  rfl
theorem Gh(w:World)(e:Event)(h:WorldLim w):F PQ [.val (gi w),.val (IC e)] (ax (wDo w e)) [[],[]]:=by
 have cv:=fp w h
 by_cases hv:WorldOk w
 ·rw[decide_eq_true hv]at cv
  have e0:wDo w e = doW w e:=if_pos hv
  rw[e0]
  have hd:=jp hv
  have c1:=tj w hd
  have c2:=zq w e hv
  generalize doW w e = ww at c2 ⊢
  refine FP ?_
  conv=>whnf
  refine g 0 2 []<|J QZ<|Ws<|g 5 7 [.call VT [[]]]<|J QZ<|Wc<|J (noT rfl) fun _=>Wk<|g 7 11 [.call (ax w) [[]]]<|J QZ<|g 11 13 [.call (V.tup []) ([cellsOf (ax ww),[]])]<|J QZ<|g 2 4 []<|J QZ<|RT ?_
  rfl
 ·rw[decide_eq_false hv]at cv
  have e0:wDo w e = noWorld:=if_neg hv
  rw[e0]
  refine FP ?_
  conv=>whnf
  refine g 0 2 []<|J QZ<|Ws<|g 5 7 [.call VF [[]]]<|J QZ<|Wc<|J (fun _=>(g 7 9 []<|J QZ (RT ?_))) (noF rfl)
  rfl
end Go.K
end
section
open Go Go.Tm Go.Proofs
namespace Go.K
theorem S3(l:List Int)(pos:Int)(hl:dN l)(h0:0≤pos)(h1:pos≤600000):∃ res outs,(∃ (v:World) (pos2:Int),res = ax v∧outs = [rdC l pos2]∧AnyW v∧pos≤pos2∧pos2≤pos+20000)∧F GF [.ptr (rdC l pos)] res outs:=by
 have p8:=aj l pos 8
 by_cases k0:ac l pos 8 = 0
 ·obtain⟨res,outs,⟨v,q,rfl,rfl,v1,v2,v3⟩,hE⟩:=Qa l (pos+1) hl OM OM
  refine jJ ?_
  conv=>whnf
  refine g 0 0 []<|J UA<|Ws<|g 7 9 [.call (V.i (ac l pos 8)) ([rdC l (pos+1),[]])]<|J (QA @aa)<|Wc<|J (fun _=>(g 9 12 [.call (ax v) ([rdC l q])]<|J QZ (W.ret (EndsW.rt<|J UR ?_)))) (noF tO)
  exact⟨v,q,rfl,rfl,v1,by omega,by omega⟩
 have cr:=ir l (pos+1) hl OM OM
 obtain⟨g1,_,g3,g4⟩:=Cl l (pos+1)
 generalize(iz l (pos+1)).1 = w at cr g1
 generalize(iz l (pos+1)).2 = q at cr g3 g4
 have ha:=Cr g1
 have hd:=cJ g1
 have hfl:=hd.fl
 have q8:=aj l q 8
 by_cases k1:ac l q 8 = 0
 ·obtain⟨res,outs,⟨v,u,rfl,rfl,v1,v2,v3⟩,hS⟩:=MJ l (q+1) w g1 hl OM OM
  refine jJ ?_
  conv=>whnf
  refine g 0 0 []<|J UA<|Ws<|g 7 9 [.call (V.i (ac l pos 8)) ([rdC l (pos+1),[]])]<|J (QA @aa)<|Wc<|J (noT dO) fun _=>Wk<|g 9 14 [.call (ax w) ([rdC l q])]<|J QZ<|Ws<|g 14 16 [.call (V.i (ac l q 8)) ([rdC l (q+1),[]])]<|J (QA @aa)<|Wc<|J (fun _=>(g 16 20 [.call (ax v) ([rdC l u,[]])]<|J QZ (W.ret (EndsW.rt<|J UR ?_)))) (noF tO)
  exact⟨v,u,rfl,rfl,v1,by omega,by omega⟩
 have r8:=aj l (q+1) 8
 by_cases k2:ac l (q+1) 8 = 0
 ·have ct:=tN w.plan hd.plan
  have htl:(ev w.plan).length≤64:=by
   have hs:=hd.small.1
   by_cases hc:am w.plan.tasks = 0
   ·rw[show ev w.plan = cW w.plan.tasks w.plan.tasks.length from if_pos hc,fG _ _ (Nat.le_refl _)];exact hs
   ·rw[show ev w.plan = []from if_neg hc];exact Nat.zero_le _
  generalize ev w.plan = ts at ct htl
  have kk:=aj l (q+1+1) (ts.length:Int)
  have ck:F eT [.ptr (rdC l (q+1+1)),.val (.i ((ts.map ai).length:Int))] (.i (ac l (q+1+1) (ts.length:Int))) [rdC l (q+1+1+1),[]]:=by
   rw[List.length_map]
   exact aa l (q+1+1) (ts.length:Int) hl OM OM OM
  generalize ac l (q+1+1) (ts.length:Int) = kv at ck kk
  have s3:=aj l (q+1+1+1) 3
  have cb:=dS l (q+1+1+1+1) hl OM OM
  generalize qa (dD (ac l (q+1+1+1+1) 50)) = tx at cb
  have cf:=dQ ⟨3,1,0,1,1+ac l (q+1+1+1) 3,kv,tx,[]⟩ w.key (Nat.zero_le _)
  have hfs:=KY ⟨3,1,0,1,1+ac l (q+1+1+1) 3,kv,tx,[]⟩ w.key
  generalize dR ⟨3,1,0,1,1+ac l (q+1+1+1) 3,kv,tx,[]⟩ w.key = fs at cf hfs
  have ew:wasB.size = 3:=rfl
  refine jJ ?_
  conv=>whnf
  refine g 0 0 []<|J UA<|Ws<|g 7 9 [.call (V.i (ac l pos 8)) ([rdC l (pos+1),[]])]<|J (QA @aa)<|Wc<|J (noT dO) fun _=>Wk<|g 9 14 [.call (ax w) ([rdC l q])]<|J QZ<|Ws<|g 14 16 [.call (V.i (ac l q 8)) ([rdC l (q+1),[]])]<|J (QA @aa)<|Wc<|J (noT dO) fun _=>Wk<|Ws<|g 16 22 [.call (V.i (ac l (q+1) 8)) ([rdC l (q+1+1),[]])]<|J (QA @aa) ?_
  refine Wc<|J (fun _=>(g 22 26 [.call (V.own [false] (List.map ai ts)) [[]]]<|J QZ (g 26 30 [.call (V.i kv) ([rdC l (q+1+1+1),[]])]<|J QZ (g 30 37 [.call (V.i (ac l (q+1+1+1) 3)) ([rdC l (q+1+1+1+1),[]]),.i (1+ac l (q+1+1+1) 3),.call (V.s tx) ([rdC l (q+1+1+1+1+1)])]<|J (QA @aa) (rgd [[],[],[],[],[],[.call (V.s fs) [[],[]]],[],[],[],[],[]] ?_))))) (noF tO)
  conv=>whnf
  refine⟨⟨I,I,I,I,I,⟨UB,I,⟨UH,UA,I⟩,UA,AS⟩,I,⟨UC,I⟩,Zao,I,UA,I⟩,by kernel_rfl,?_⟩
  refine g 3 48 []<|J QZ<|W.ret<|EndsW.rt<|J UR ?_
  exact⟨⟨w.plan,w.key,w.boss,w.workers,w.flight++ [⟨0,wasB,fs⟩],w.forged⟩,_,HH (by rw[List.map_append];rfl),rfl,⟨ha.plan,ha.boss,ha.key,ha.wl,ha.wi,by show(w.flight++ [_]).length≤4100;rw[List.length_append,List.length_singleton];omega,fun z hz=>by
   rcases List.mem_append.1 hz with hz|hz
   ·exact ha.fs z hz
   ·rw[List.mem_singleton.1 hz];dsimp only;omega⟩,by omega,by omega⟩
 ·refine jJ ?_
  conv=>whnf
  refine g 0 0 []<|J UA<|Ws<|g 7 9 [.call (V.i (ac l pos 8)) ([rdC l (pos+1),[]])]<|J (QA @aa)<|Wc<|J (noT dO) fun _=>Wk<|g 9 14 [.call (ax w) ([rdC l q])]<|J QZ<|Ws<|g 14 16 [.call (V.i (ac l q 8)) ([rdC l (q+1),[]])]<|J (QA @aa)<|Wc<|J (noT dO) fun _=>Wk<|Ws<|g 16 22 [.call (V.i (ac l (q+1) 8)) ([rdC l (q+1+1),[]])]<|J (QA @aa) ?_
  refine Wc<|J (noT dO) fun _=>Wk<|g 3 48 []<|J QZ<|W.ret<|EndsW.rt<|J UR ?_
  exact⟨w,q+1+1,rfl,rfl,ha,by omega,by omega⟩
end Go.K
end
section
open Go Go.Tm Go.Proofs
namespace Go.K
theorem jN(xs:List ByteArray)(hl:xs.length≤9223372036854775806):F tA [.val (.t (o9 xs)),.val (.t (o9 xs))] (.b true) [[],[]]:=by
 have c:=Hs xs xs hl
 rw[decide_eq_true rfl]at c
 exact c
theorem Hq(b:Boss)(hb:BossLim b):F GL [.val (fT b),.val (fT b)] (.b true) [[],[]]:=by
 obtain⟨h1,h2,_,h3,h4,h5,h6⟩:=hb
 have c1:=jN b.log.safe OM
 have c2:=jN b.log.loose OM
 have c3:=jN b.results OM
 refine G8 ?_
 conv=>whnf
 refine g 0 2 []<|J QZ<|Ws<|g 17 75 (RL 37 BF (.call VT [[],[]]::(RL 9 BF (.call VT [[],[]]::(RL 7 BF [.call VT [[],[]],BF,BF]))))) ?_
 conv=>whnf
 refine J QZ<|Wc<|J (noT rfl) fun _=>Wk<|Ws<|g 8 100 (RL 16 BF [])<|J QZ<|Wc<|J (noT nO) fun _=>Wk<|Ws<|g 100 101 []<|J UA<|Wb<|Wl (fun s (n:Nat)=>⟨[(2,s.s 2),(3,s.s 3),(5,.i n)],[(2,(CK s 2 0 12 [])),(3,(CK s 3 0 12 []))],[]⟩) (fun(n:Nat)=>n≤b.jobs.length) (fun(n:Nat)=>b.jobs.length - n) (0) [some 2,some 3] [] FZ OM ?_
 intro n hn
 by_cases hn2:n < b.jobs.length
 ·obtain⟨x,hx⟩:=ae hn2
  conv=>whnf
  refine Ws<|g 101 105 []<|J UE<|Wc<|J (fun _=>(Wk (Ws (Wb (gd 105 118 [[],[],[],[.x (aI x)],[],[],[],[],[.x (aI x)],[],[BT]] ?_))))) (noF SI)
  conv=>whnf
  refine⟨⟨I,I,I,Zap,I,I,I,I,Zap,I,by simp[*],I⟩,by kernel_rfl,?_⟩
  refine Wc<|J (noT rfl) fun _=>Wk<|rg [.i ((n:Int) +1)]<|J QZ ?_
  refine⟨n+1,[some 2,some 3],[],FZ,?_,?_⟩
  rotate_left
  (dsimp only;omega)
  dsimp only
  omega
 conv=>whnf
 refine Ws<|g 101 105 []<|J UE<|Wc<|J (noT SI) fun _=>We<|Ws<|g 5 6 []<|J UA<|Wb<|Wl (fun s (n:Nat)=>⟨[(2,s.s 2),(3,s.s 3),(6,.i n)],[(2,(CK s 2 0 12 [])),(3,(CK s 3 0 12 []))],[]⟩) (fun(n:Nat)=>n≤b.seats.length) (fun(n:Nat)=>b.seats.length - n) (0) [some 2,some 3] [] FZ OM ?_
 intro n hn
 by_cases hn2:n < b.seats.length
 ·obtain⟨x,hx⟩:=ae hn2
  conv=>whnf
  refine Ws<|g 119 123 []<|J UE<|Wc<|J (fun _=>(Wk (Ws (Wb (gd 123 136 [[],[],[],[.x (aE x)],[],[],[],[],[.x (aE x)],[],[BT]] ?_))))) (noF SI)
  conv=>whnf
  refine⟨⟨I,I,I,Zap,I,I,I,I,Zap,I,by simp[*],I⟩,by kernel_rfl,?_⟩
  refine Wc<|J (noT rfl) fun _=>Wk<|rg [.i ((n:Int) +1)]<|J QZ ?_
  refine⟨n+1,[some 2,some 3],[],FZ,?_,?_⟩
  rotate_left
  (dsimp only;omega)
  dsimp only
  omega
 conv=>whnf
 refine Ws<|g 119 123 []<|J UE<|Wc<|J (noT SI) fun _=>We<|Ws<|g 6 7 []<|J UA<|Wb<|Wl (fun s (n:Nat)=>⟨[(2,s.s 2),(3,s.s 3),(7,.i n)],[(2,(CK s 2 0 12 [])),(3,(CK s 3 0 12 []))],[]⟩) (fun(n:Nat)=>n≤b.owed.length) (fun(n:Nat)=>b.owed.length - n) (0) [some 2,some 3] [] FZ OM ?_
 intro n hn
 by_cases hn2:n < b.owed.length
 ·obtain⟨x,hx⟩:=ae hn2
  conv=>whnf
  refine Ws<|g 137 141 []<|J UE<|Wc<|J (fun _=>(Wk (Ws (Wb (gd 141 154 [[],[],[],[.x (aJ x)],[],[],[],[],[.x (aJ x)],[],[BT]] ?_))))) (noF SI)
  conv=>whnf
  refine⟨⟨I,I,I,Zap,I,I,I,I,Zap,I,by simp[*],I⟩,by kernel_rfl,?_⟩
  refine Wc<|J (noT rfl) fun _=>Wk<|rg [.i ((n:Int) +1)]<|J QZ ?_
  refine⟨n+1,[some 2,some 3],[],FZ,?_,?_⟩
  rotate_left
  (dsimp only;omega)
  dsimp only
  omega
 conv=>whnf
 refine Ws<|g 137 141 []<|J UE<|Wc<|J (noT SI) fun _=>We<|g 2 4 []<|J UA<|RT ?_
 rfl
theorem AC(w:Worker)(hw:w.inputs.length≤1048576):F zO [.val (dI w),.val (dI w)] (.b true) [[],[]]:=by
 have c1:=jN w.inputs OM
 refine Ag ?_
 conv=>whnf
 refine g 0 2 []<|J QZ<|g 5 80 (RL 59 BT [.call VT [[],[]],BT]) ?_
 conv=>whnf
 refine J ⟨I,I,I,I,I,I,⟨tO,I⟩,⟨tO,I⟩,⟨tO,I⟩,⟨tO,I⟩,⟨tO,I⟩,tO,I,⟨tO,I⟩,⟨tO,I⟩,⟨tO,I⟩,⟨tO,I⟩,⟨tO,I⟩,tO,I,⟨decide_eq_true rfl,I⟩,⟨decide_eq_true rfl,I⟩,⟨decide_eq_true rfl,I⟩,⟨decide_eq_true rfl,I⟩,⟨decide_eq_true rfl,I⟩,decide_eq_true rfl,I,⟨tO,I⟩,⟨tO,I⟩,⟨tO,I⟩,⟨tO,I⟩,⟨tO,I⟩,tO,I,⟨tO,I⟩,⟨tO,I⟩,⟨tO,I⟩,⟨tO,I⟩,⟨tO,I⟩,tO,I,⟨tO,I⟩,⟨tO,I⟩,⟨tO,I⟩,⟨tO,I⟩,⟨tO,I⟩,tO,I,⟨tO,I⟩,⟨tO,I⟩,⟨tO,I⟩,⟨tO,I⟩,⟨tO,I⟩,tO,I,⟨tO,I⟩,⟨tO,I⟩,⟨tO,I⟩,⟨tO,I⟩,⟨tO,I⟩,tO,I,⟨decide_eq_true rfl,I⟩,⟨decide_eq_true rfl,I⟩,⟨decide_eq_true rfl,I⟩,⟨decide_eq_true rfl,I⟩,⟨decide_eq_true rfl,I⟩,decide_eq_true rfl,I,⟨tO,I⟩,⟨tO,I⟩,⟨tO,I⟩,⟨tO,I⟩,⟨tO,UB,I,UT,UA,AS⟩,tO,I,I⟩<|RT ?_
 rfl
theorem qH(w:World)(hl:WorldLim w):F Df [.val (gi w),.val (gi w)] (.b true) [[],[]]:=by
 obtain⟨l1,l2,l3,l4,l5,l6,l7⟩:=hl
 have l8:=l1.1
 have cb:=Hq w.boss l2
 refine DU ?_
 conv=>whnf
 refine g 0 2 []<|J QZ<|Ws<|g 7 55 (RL 37 BF [.call VT [[],[]],BF,BF]) ?_
 conv=>whnf
 refine J QZ<|Wc<|J (noT rfl) fun _=>Wk<|Ws<|g 55 56 []<|J UA<|Wb<|Wl (fun s (n:Nat)=>⟨[(2,s.s 2),(3,s.s 3),(5,.i n)],[(2,(CK s 2 0 17 [])),(3,(CK s 3 0 17 []))],[]⟩) (fun(n:Nat)=>n≤w.workers.length) (fun(n:Nat)=>w.workers.length - n) (0) [some 2,some 3] [] FZ OM ?_
 intro n hn
 by_cases hn2:n < w.workers.length
 ·obtain⟨x,hx⟩:=ae hn2
  have cw:=AC x (l5 x (List.mem_of_getElem? hx))
  conv=>whnf
  refine Ws<|g 56 60 []<|J UE<|Wc<|J (fun _=>(Wk (Ws (Wb (gd 60 74 [[],[],[],[.x (ag x)],[],[],[],[],[.x (ag x)],[],[.call VT [[],[]]],[]] ?_))))) (noF SI)
  conv=>whnf
  refine⟨⟨I,I,I,Zap,I,I,I,I,Zap,I,⟨UB,I,⟨UK,UK,I⟩,UA,AS⟩,I,I⟩,by kernel_rfl,?_⟩
  refine Wc<|J (noT rfl) fun _=>Wk<|rg [.i ((n:Int) +1)]<|J QZ ?_
  refine⟨n+1,[some 2,some 3],[],FZ,?_,?_⟩
  rotate_left
  (dsimp only;omega)
  dsimp only
  omega
 conv=>whnf
 refine Ws<|g 56 60 []<|J UE<|Wc<|J (noT SI) fun _=>We<|Ws<|g 5 6 []<|J UA<|Wb<|Wl (fun s (n:Nat)=>⟨[(2,s.s 2),(3,s.s 3),(6,.i n)],[(2,(CK s 2 0 17 [])),(3,(CK s 3 0 17 []))],[]⟩) (fun(n:Nat)=>n≤w.flight.length) (fun(n:Nat)=>w.flight.length - n) (0) [some 2,some 3] [] FZ OM ?_
 intro n hn
 by_cases hn2:n < w.flight.length
 ·obtain⟨x,hx⟩:=ae hn2
  conv=>whnf
  refine Ws<|g 75 79 []<|J UE<|Wc<|J (fun _=>(Wk (Ws (Wb (gd 79 92 [[],[],[],[.x (bq x)],[],[],[],[],[.x (bq x)],[],[BT]] ?_))))) (noF SI)
  conv=>whnf
  refine⟨⟨I,I,I,Zap,I,I,I,I,Zap,I,by simp[*],I⟩,by kernel_rfl,?_⟩
  refine Wc<|J (noT rfl) fun _=>Wk<|rg [.i ((n:Int) +1)]<|J QZ ?_
  refine⟨n+1,[some 2,some 3],[],FZ,?_,?_⟩
  rotate_left
  (dsimp only;omega)
  dsimp only
  omega
 conv=>whnf
 refine Ws<|g 75 79 []<|J UE<|Wc<|J (noT SI) fun _=>We<|g 2 4 []<|J UA<|RT ?_
 rfl
end Go.K
end
section
open Go Go.Tm Go.Proofs
namespace Go.K
theorem Qc(l:List Int)(hlen:l.length≤1048576)(h8:∀ x∈l,0≤x∧x≤255):∃ res outs,(∃ (w:World) (e:Event),res = .tup [ax w,lI e]∧outs = [[]]∧AnyW w)∧F Dd [.val (.t (u8s l))] res outs:=by
 have hu:=WY h8
 have co:=Eu l OM
 generalize l.take 2000 = k at co hu
 obtain⟨res,outs,⟨w,q,rfl,rfl,a1,a2,a3⟩,hA⟩:=S3 k 0 hu OM OM
 have ce:=kh k q hu OM OM
 obtain⟨e1,e2⟩:=V3 k q
 generalize(evP k q).1 = e at ce
 generalize(evP k q).2 = u at ce e1 e2
 have p16:=aj k u 16
 have p10:=aj k (u+1) 10
 have q16:=aj k (u+1) 16
 have r16:=aj k (u+1+1) 16
 refine CL ?_
 conv=>whnf
 refine g 0 0 []<|J UB<|g 7 9 [.call (V.tup [V.tup (rdC k 0)]) [[]]]<|J QZ<|g 9 11 [.call (ax w) ([rdC k q])]<|J QZ<|g 11 13 [.call (lI e) ([rdC k u])]<|J QZ<|Ws<|g 13 15 [.call (V.i (ac k u 16)) ([rdC k (u+1),[]])]<|J (QA @aa)<|Wc<|JD (fun h1=>?_) fun h1=>?_
 refine rg [.call (V.i (ac k (u+1) 10)) ([rdC k (u+1+1),[]]),.i (ac k (u+1) (10:Int) - 1)]<|J (QA @aa)<|Ws<|g 15 22 [.call (V.i (ac k (u+1+1) 16)) ([rdC k (u+1+1+1),[]])]<|J (QA @aa)<|Wc<|JD (fun h2=>?_) fun h2=>?_
 refine rg []<|J UV<|gd 4 26 [[],[],[],[]] ?_
 conv=>whnf
 refine J QZ<|J KR<|W.ret<|EndsW.rt<|J QZ ?_
 rotate_left
 refine Wk<|gd 4 26 [[],[],[],[]] ?_
 conv=>whnf
 refine J QZ<|J KR<|W.ret<|EndsW.rt<|J QZ ?_
 rotate_left
 refine Wk<|Ws<|g 15 22 [.call (V.i (ac k (u+1) 16)) ([rdC k (u+1+1),[]])]<|J (QA @aa)<|Wc<|JD (fun h2=>?_) fun h2=>?_
 refine rg []<|J UV<|gd 4 26 [[],[],[],[]] ?_
 conv=>whnf
 refine J QZ<|J KR<|W.ret<|EndsW.rt<|J QZ ?_
 rotate_left
 refine Wk<|gd 4 26 [[],[],[],[]] ?_
 conv=>whnf
 refine J QZ<|J KR<|W.ret<|EndsW.rt<|J QZ ?_
 rotate_left
 ·exact⟨w,⟨ac k (u+1) 10 - 1,-1,e.b,e.c⟩,rfl,rfl,a1⟩
 ·exact⟨w,⟨ac k (u+1) 10 - 1,e.a,e.b,e.c⟩,rfl,rfl,a1⟩
 ·exact⟨w,⟨e.kind,-1,e.b,e.c⟩,rfl,rfl,a1⟩
 ·exact⟨w,e,rfl,rfl,a1⟩
def Ik(w:World):List Event:=[⟨0,0,0,0⟩,⟨8,0,0,0⟩,⟨2,w.flight.length,0,0⟩,⟨2,-1,0,0⟩,⟨3,w.flight.length,0,0⟩,⟨4,w.flight.length,0,0⟩,⟨5,w.flight.length,0,1⟩,⟨6,w.workers.length+1,0,0⟩,⟨7,-1,0,0⟩]
theorem Xc{w:World}{e:Event}(h:e∈Ik w):doW w e = w:=by
 simp only[Ik,List.mem_cons,List.not_mem_nil,or_false]at h
 rcases h with rfl|rfl|rfl|rfl|rfl|rfl|rfl|rfl|rfl
 ·exact Pj (.inl (by decide))
 ·exact Pj (.inr (by decide))
 ·exact qC (.inr (Int.le_refl _))
 ·exact qC (.inl (by decide))
 ·exact Ay (.inr (Int.le_refl _))
 ·exact Hm (.inr (Int.le_refl _))
 ·exact Ho (.inr (Int.le_refl _))
 ·exact Hn OM (fun q=>by have:=q.2;omega)
 ·exact Hl OM (fun q=>by have:=q.1;omega)
theorem Jn(l:List Int)(hlen:l.length≤9223372036854775807)(h8:∀ x∈l,0≤x∧x≤255):F vf [.val (.t (u8s l))] (.b true) [[]]:=by
 by_cases h:l.length≤1048576
 rotate_left
 ·refine il ?_
  conv=>whnf
  refine g 0 0 []<|J UA<|Ws<|g 9 11 []<|J UC<|Wc<|J (fun h1=>?_) fun h1=>?_
  replace h1:=dt h1
  simp only[LM]at h1
  refine g 11 12 []<|J UA<|RT ?_
  rfl
  replace h1:=df h1
  simp only[LM]at h1
  omega
 obtain⟨res,outs,⟨w,e,rfl,rfl,ha⟩,hD⟩:=Qc l h h8
 have hl:=XI ha
 have cd:=Gh w e hl
 have cv:=eC w hl
 by_cases hv:WorldOk w
 ·have hx:WorldOk (wDo w e):=by rw[show wDo w e = doW w e from if_pos hv];exact II e hv
  rw[decide_eq_true hv]at cv
  generalize wDo w e = x at cd hx
  have xl:=xH (jp hx)
  have c1:=eC x xl
  have c2:=fp x xl
  rw[decide_eq_true hx]at c1 c2
  have cw:=qH w hl
  have hwl:=hl.wl
  have hfl:=hl.fl
  refine il ?_
  conv=>whnf
  refine g 0 0 []<|J UA<|Ws<|g 9 11 []<|J UC<|Wc<|J (fun h1=>?_) fun h1=>?_
  replace h1:=dt h1
  simp only[LM]at h1
  omega
  replace h1:=df h1
  simp only[LM]at h1
  refine Wk<|g 11 17 [.call (V.tup [ax w,lI e]) [[]]]<|J QZ<|g 17 20 [.call (ax x) [[],[]]]<|J QZ<|Ws<|g 20 22 [.call VT [[]]]<|J QZ<|Wc<|J (noT rfl) fun _=>Wk<|Ws<|g 22 33 [.call VT [[]],BF,BF,.call VT [[]],BF,BF]<|J QZ<|Wc<|J (noT rfl) fun _=>Wk<|g 33 37 []<|J UD ?_
  refine g 37 55 [.i ((↑(List.length (List.map ag w.workers)):Int) +1)]<|J QZ<|Ws<|g 5 7 []<|J UA<|Wb<|Wd (lo:=9) (hi:=54) ?_
  conv=>whnf
  refine Wl (fun s (n:Nat)=>⟨(SK s [3,4,7] [(8,.i n)]),[(3,(CK s 3 0 17 [])),(4,(CK s 4 0 4 [])),(54,[.own Zs ((Ik w).map Un)])],[]⟩) (fun(n:Nat)=>n≤9) (fun(n:Nat)=>9 - n) (0) [some 3,some 4,some 54] [] ⟨rfl,FZ,⟨FZ,⟨FZ,⟨⟨rfl,⟨(congrArg (V.own _) (by rw[List.length_map,List.length_map];rfl)),I⟩⟩,I⟩⟩⟩,I⟩ OM ?_
  intro n hn
  by_cases hn2:n < 9
  ·obtain⟨y,hy⟩:=ae (xs:=Ik w) (n:=n) hn2
   have cy:=Gh w y hl
   rw[show wDo w y = doW w y from if_pos hv,Xc (List.mem_of_getElem? hy)]at cy
   have hn9:(Ik w).length = 9:=rfl
   conv=>whnf
   refine Ws<|g 55 58 []<|J UD<|Wc<|JD (fun h2=>?_) fun h2=>?_
   simp only[LM]at h2
   refine Wk<|Ws<|Wb<|gd 58 69 [[],[],[],[.n (n)],[.x (Un y)],[.call (ax w) [[],[]]],[],[.call VT [[],[]]],[]] ?_
   conv=>whnf
   refine J QZ<|J KR<|Wc<|J (noT rfl) fun _=>Wk<|rg [.i ((n:Int) +1)]<|J QZ ?_
   rotate_left
   simp only[LM]at h2
   omega
   refine⟨n+1,[some 3,some 4,some 54],[],FZ,?_,?_⟩
   rotate_left
   (dsimp only;omega)
   dsimp only
   omega
  ·have hn9:(Ik w).length = 9:=rfl
   conv=>whnf
   refine Ws<|g 55 58 []<|J UD<|Wc<|J (fun h2=>?_) fun h2=>?_
   replace h2:=dt h2
   simp only[LM]at h2
   omega
   replace h2:=df h2
   simp only[LM]at h2
   refine We<|g 7 59 []<|J UA<|RT ?_
   rfl
 ·rw[decide_eq_false hv]at cv
  rw[show wDo w e = noWorld from if_neg hv]at cd
  have cw:=qH noWorld (xH no_dolim)
  refine il ?_
  conv=>whnf
  refine g 0 0 []<|J UA<|Ws<|g 9 11 []<|J UC<|Wc<|J (fun h1=>?_) fun h1=>?_
  replace h1:=dt h1
  simp only[LM]at h1
  omega
  replace h1:=df h1
  simp only[LM]at h1
  refine Wk<|g 11 17 [.call (V.tup [ax w,lI e]) [[]]]<|J QZ<|g 17 20 [.call (ax noWorld) [[],[]]]<|J QZ<|Ws<|g 20 22 [.call VF [[]]]<|J QZ<|Wc<|J (fun _=>(g 22 26 [.call VT [[],[]]]<|J QZ (RT ?_))) (noF rfl)
  rfl
end Go.K
end

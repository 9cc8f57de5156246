/- Contracts of functions of the program: what each call answers. -/
import Derived.Test.YtoknlfldllmhpaaPartd
set_option maxHeartbeats 8000000
set_option maxRecDepth 20000
set_option linter.unusedVariables false
set_option linter.unusedSimpArgs false
section
open Go Go.Tm Go.Proofs
namespace Go.K
def fI(w:Worker):Prop:=(1≤w.lease∧w.lease≤300000000)∧(0≤w.task∧w.task≤39)
def ec(w:Worker):Prop:=w.state = 0∧w.lease = 0∧w.task = 0∧w.cost = 0∧w.left = 0∧(w.inputs.length:Int) = 0∧w.text = emp
def du(w:Worker):Prop:=w.state = 1∧fI w∧(1≤w.cost∧w.cost≤20)∧(1≤w.left∧w.left≤w.cost)∧dH w.inputs∧w.text = emp
def eb(w:Worker):Prop:=w.state = 2∧fI w∧w.cost = 0∧w.left = 0∧(w.inputs.length:Int) = 0∧(w.text.size:Int) = 8
def aq(w:Worker):Prop:=(1≤w.number∧w.number≤8)∧(1≤w.epoch∧w.epoch≤300)∧(0≤w.since∧w.since≤1000000)∧(w.up = true∨(w.state = 0∧w.since = 0))∧(ec w∨du w∨eb w)
instance (w:Worker):Decidable (aq w):=by unfold aq ec du eb fI;infer_instance
theorem dD(w:Worker)(hl:w.inputs.length≤9223372036854775806):F oQ [.val (ea w)] (.b (decide (aq w))) [[]]:=by
 refine oY ?_
 conv=>whnf
 refine g 0 1 []<|J Zd2<|W.sq ?_
 by_cases h1:(1:Int)≤Worker.number w∧Worker.number w≤(8:Int)
 by_cases h2:(1:Int)≤Worker.epoch w∧Worker.epoch w≤(300:Int)
 refine g 14 17 [.call (V.b (decide (1≤w.number∧w.number≤8))) [[],[],[]],BF,BF,BF,.call (V.b (decide (1≤w.epoch∧w.epoch≤300))) [[],[],[]],BF,BF,BF,BF,BF,.call (V.b (decide (0≤w.since∧w.since≤1000000))) [[],[],[]],BF,BF]<|J ⟨I,I,⟨UC,I,UU,UA,ac _ _ _⟩,I,I,⟨nO,I⟩,⟨nO,I⟩,⟨nO,UC,I,UU,UA,ac _ _ _⟩,⟨nO,I⟩,nO,I,⟨nO,I⟩,⟨nO,I⟩,⟨nO,UC,I,UU,UA,ac _ _ _⟩,⟨nO,I⟩,nO,I⟩<|W.cn<|J (fun h3=>?_) fun h3=>?_
 replace h3:=ndt h3
 refine g 9 11 []<|J UA<|RT ?_
 rotate_left
 replace h3:=ndf h3
 refine W.skip<|W.sq ?_
 by_cases h4:Worker.up w = true
 refine g 25 32 [BF,BF,BF,BF,BF,BF,BF,BF,BF]<|J ⟨I,I,I,I,nbF AS,nbF AS,nbF AS,nbF AS,I,I,I,nbF AS,nbF AS,I⟩<|W.cn<|J (noT rfl) fun _=>W.skip ?_
 by_cases h5:(1:Int)≤Worker.lease w∧Worker.lease w≤(300000000:Int)
 refine g 32 41 [.call (V.b (decide (1≤w.lease∧w.lease≤300000000))) [[],[],[]],BT,BT,BT,.call (V.b (decide (0≤w.task∧w.task≤39))) [[],[],[]],BT]<|J ⟨I,I,⟨UC,I,UU,UA,ac _ _ _⟩,I,⟨tO,I⟩,⟨tO,I⟩,⟨tO,UC,I,UU,UA,ac _ _ _⟩,tO,I,I⟩<|W.sq<|g 19 24 []<|J UB<|W.blk<|g 9 11 []<|J UB<|W.cn<|J (fun h6=>?_) fun h6=>?_
 replace h6:=dt h6
 refine g 5 74 [BF,BF,BF,BF,BF,BF,BF,BF,BF,BF,BF,BF,BF,BF,BF,BF,BF,BF,BF,BF,BF]<|J Za7<|RT ?_
 rotate_left
 replace h6:=df h6
 refine g 7 9 []<|J UB<|W.cn<|J (fun h7=>?_) fun h7=>?_
 replace h7:=dt h7
 by_cases h8:(0:Int)≤Worker.task w∧Worker.task w≤(39:Int)
 by_cases h9:(1:Int)≤Worker.cost w∧Worker.cost w≤(20:Int)
 by_cases h10:(1:Int)≤Worker.left w∧Worker.left w≤Worker.cost w
 by_cases h11:dH (Worker.inputs w)
 refine g 5 99 [BT,BT,BT,.call (V.b (decide (1≤w.cost∧w.cost≤20))) [[],[],[]],BT,BT,BT,BT,BT,BT,.call (V.b (decide (1≤w.left∧w.left≤w.cost))) [[],[],[]],BT,BT,BT,BT,.call (V.b (decide (dH w.inputs))) [[]],BT,BT,BT,BT,BT]<|J ⟨I,I,⟨tO,I⟩,⟨tO,I⟩,⟨tO,UC,I,UU,UA,ac _ _ _⟩,tO,I,⟨tO,I⟩,⟨tO,I⟩,⟨tO,I⟩,⟨tO,I⟩,⟨tO,UC,I,UU,UA,ac _ _ _⟩,tO,I,⟨tO,I⟩,⟨tO,I⟩,⟨tO,UA,I,US,UA,gk _ OM⟩,tO,I,⟨tO,I⟩,⟨tO,I⟩,⟨tO,I⟩,tO,I,I⟩<|RT ?_
 rotate_left
 refine g 5 99 [BT,BT,BT,.call (V.b (decide (1≤w.cost∧w.cost≤20))) [[],[],[]],BT,BT,BT,BT,BT,BT,.call (V.b (decide (1≤w.left∧w.left≤w.cost))) [[],[],[]],BT,BT,BT,BT,.call (V.b (decide (dH w.inputs))) [[]],BT,BF,BF,BF,BF]<|J ⟨I,I,⟨tO,I⟩,⟨tO,I⟩,⟨tO,UC,I,UU,UA,ac _ _ _⟩,tO,I,⟨tO,I⟩,⟨tO,I⟩,⟨tO,I⟩,⟨tO,I⟩,⟨tO,UC,I,UU,UA,ac _ _ _⟩,tO,I,⟨tO,I⟩,⟨tO,I⟩,⟨tO,UA,I,US,UA,gk _ OM⟩,tO,I,dO,dO,dO,dO,I,I⟩<|RT ?_
 rotate_left
 refine g 5 99 [BT,BT,BT,.call (V.b (decide (1≤w.cost∧w.cost≤20))) [[],[],[]],BT,BT,BT,BT,BT,BT,.call (V.b (decide (1≤w.left∧w.left≤w.cost))) [[],[],[]],BT,BF,BF,BF,BF,BF,BF,BF,BF]<|J ⟨I,I,⟨tO,I⟩,⟨tO,I⟩,⟨tO,UC,I,UU,UA,ac _ _ _⟩,tO,I,⟨tO,I⟩,⟨tO,I⟩,⟨tO,I⟩,⟨tO,I⟩,⟨tO,UC,I,UU,UA,ac _ _ _⟩,tO,I,dO,dO,dO,dO,I,rfl,rfl,rfl,rfl,I,I⟩<|RT ?_
 rotate_left
 refine g 5 99 [BT,BT,BT,.call (V.b (decide (1≤w.cost∧w.cost≤20))) [[],[],[]],BT,BF,BF,BF,BF,BF,BF,BF,BF,BF,BF,BF,BF,BF,BF]<|J ⟨I,I,⟨tO,I⟩,⟨tO,I⟩,⟨tO,UC,I,UU,UA,ac _ _ _⟩,tO,I,dO,dO,dO,dO,dO,dO,I,rfl,rfl,rfl,rfl,I,rfl,rfl,rfl,rfl,I,I⟩<|RT ?_
 rotate_left
 refine g 5 99 [BF,BF,BF,BF,BF,BF,BF,BF,BF,BF,BF,BF,BF,BF,BF,BF,BF,BF]<|J ⟨I,I,dO,dO,dO,dO,I,rfl,rfl,rfl,rfl,rfl,rfl,I,rfl,rfl,rfl,rfl,I,rfl,rfl,rfl,rfl,I,I⟩<|RT ?_
 rotate_left
 replace h7:=df h7
 refine g 18 76 []<|J UB<|W.cn<|J (fun h8=>?_) fun h8=>?_
 replace h8:=dt h8
 by_cases h9:(0:Int)≤Worker.task w∧Worker.task w≤(39:Int)
 by_cases h10:Worker.cost w = (0:Int)
 by_cases h11:Worker.left w = (0:Int)
 by_cases h12:(↑(List.length (List.map ak (Worker.inputs w))):Int) = (0:Int)
 simp only[LM]at h12
 refine g 5 124 [BT,BT,BT,BT,BT,BT,BT,BT,BT,BT,BT,BT,BT,BT,BT,BT,BT,BT]<|J ⟨I,I,⟨tO,I⟩,⟨tO,I⟩,⟨tO,I⟩,tO,I,⟨tO,I⟩,⟨tO,I⟩,⟨tO,I⟩,tO,I,⟨tO,I⟩,⟨tO,I⟩,⟨tO,I⟩,⟨tO,I⟩,tO,I,⟨SI,I⟩,⟨SI,I⟩,⟨SI,I⟩,⟨SI,I⟩,SI,I,I⟩<|RT ?_
 rotate_left
 simp only[LM]at h12
 refine g 5 124 [BT,BT,BT,BT,BT,BT,BT,BT,BT,BT,BT,BT,BT,BF,BF,BF,BF,BF]<|J ⟨I,I,⟨tO,I⟩,⟨tO,I⟩,⟨tO,I⟩,tO,I,⟨tO,I⟩,⟨tO,I⟩,⟨tO,I⟩,tO,I,⟨tO,I⟩,⟨tO,I⟩,⟨tO,I⟩,⟨tO,I⟩,tO,I,(by simp_all),(by simp_all),(by simp_all),(by simp_all),(by simp_all),I,I⟩<|RT ?_
 rotate_left
 refine g 5 124 [BT,BT,BT,BT,BT,BT,BT,BT,BF,BF,BF,BF,BF,BF,BF,BF,BF,BF]<|J ⟨I,I,⟨tO,I⟩,⟨tO,I⟩,⟨tO,I⟩,tO,I,⟨tO,I⟩,⟨tO,I⟩,⟨tO,I⟩,tO,I,dO,dO,dO,dO,dO,I,rfl,rfl,rfl,rfl,rfl,I,I⟩<|RT ?_
 rotate_left
 refine g 5 124 [BT,BT,BT,BT,BF,BF,BF,BF,BF,BF,BF,BF,BF,BF,BF,BF,BF,BF]<|J ⟨I,I,⟨tO,I⟩,⟨tO,I⟩,⟨tO,I⟩,tO,I,dO,dO,dO,dO,I,rfl,rfl,rfl,rfl,rfl,I,rfl,rfl,rfl,rfl,rfl,I,I⟩<|RT ?_
 rotate_left
 refine g 5 124 [BF,BF,BF,BF,BF,BF,BF,BF,BF,BF,BF,BF,BF,BF,BF,BF,BF,BF]<|J ⟨I,I,dO,dO,dO,dO,I,rfl,rfl,rfl,rfl,I,rfl,rfl,rfl,rfl,rfl,I,rfl,rfl,rfl,rfl,rfl,I,I⟩<|RT ?_
 rotate_left
 replace h8:=df h8
 refine W.skip<|g 5 101 []<|J UA<|RT ?_
 rotate_left
 refine g 32 41 [.call (V.b (decide (1≤w.lease∧w.lease≤300000000))) [[],[],[]],BF,BF,BF,BF]<|J ⟨I,I,⟨UC,I,UU,UA,ac _ _ _⟩,I,dO,dO,dO,dO,I,I⟩<|W.sq<|g 19 24 []<|J UB<|W.blk<|g 9 11 []<|J UB<|W.cn<|J (fun h6=>?_) fun h6=>?_
 replace h6:=dt h6
 by_cases h7:Worker.lease w = (0:Int)
 by_cases h8:Worker.task w = (0:Int)
 by_cases h9:Worker.cost w = (0:Int)
 by_cases h10:Worker.left w = (0:Int)
 by_cases h11:(↑(List.length (List.map ak (Worker.inputs w))):Int) = (0:Int)
 simp only[LM]at h11
 refine g 5 74 [BT,BT,BT,BT,BT,BT,BT,BT,BT,BT,BT,BT,BT,BT,BT,BT,BT,BT,BT,BT,BT]<|J Zaw<|RT ?_
 rotate_left
 simp only[LM]at h11
 refine g 5 74 [BT,BT,BT,BT,BT,BT,BT,BT,BT,BT,BT,BT,BT,BT,BT,BT,BT,BF,BF,BF,BF]<|J ⟨I,I,I,I,⟨tO,I⟩,⟨tO,I⟩,⟨tO,I⟩,tO,I,⟨tO,I⟩,⟨tO,I⟩,⟨tO,I⟩,tO,I,⟨tO,I⟩,⟨tO,I⟩,⟨tO,I⟩,tO,I,⟨tO,I⟩,⟨tO,I⟩,⟨tO,I⟩,⟨tO,I⟩,tO,I,(by simp_all),(by simp_all),(by simp_all),(by simp_all),I,I⟩<|RT ?_
 rotate_left
 refine g 5 74 [BT,BT,BT,BT,BT,BT,BT,BT,BT,BT,BT,BT,BF,BF,BF,BF,BF,BF,BF,BF,BF]<|J Za2<|RT ?_
 rotate_left
 refine g 5 74 [BT,BT,BT,BT,BT,BT,BT,BT,BF,BF,BF,BF,BF,BF,BF,BF,BF,BF,BF,BF,BF]<|J Zbc<|RT ?_
 rotate_left
 refine g 5 74 [BT,BT,BT,BT,BF,BF,BF,BF,BF,BF,BF,BF,BF,BF,BF,BF,BF,BF,BF,BF,BF]<|J Zbm<|RT ?_
 rotate_left
 refine g 5 74 [BF,BF,BF,BF,BF,BF,BF,BF,BF,BF,BF,BF,BF,BF,BF,BF,BF,BF,BF,BF,BF]<|J Za7<|RT ?_
 rotate_left
 replace h6:=df h6
 refine g 7 9 []<|J UB<|W.cn<|J (fun h7=>?_) fun h7=>?_
 replace h7:=dt h7
 refine g 5 99 [BF,BF,BF,BF,BF,BF,BF,BF,BF,BF,BF,BF,BF,BF,BF,BF,BF,BF]<|J ⟨I,I,rfl,rfl,rfl,rfl,I,rfl,rfl,rfl,rfl,rfl,rfl,I,rfl,rfl,rfl,rfl,I,rfl,rfl,rfl,rfl,I,I⟩<|RT ?_
 rotate_left
 replace h7:=df h7
 refine g 18 76 []<|J UB<|W.cn<|J (fun h8=>?_) fun h8=>?_
 replace h8:=dt h8
 refine g 5 124 [BF,BF,BF,BF,BF,BF,BF,BF,BF,BF,BF,BF,BF,BF,BF,BF,BF,BF]<|J ⟨I,I,rfl,rfl,rfl,rfl,I,rfl,rfl,rfl,rfl,I,rfl,rfl,rfl,rfl,rfl,I,rfl,rfl,rfl,rfl,rfl,I,I⟩<|RT ?_
 rotate_left
 replace h8:=df h8
 refine W.skip<|g 5 101 []<|J UA<|RT ?_
 rotate_left
 replace h4:=Bool.eq_false_iff.2 h4
 by_cases h5:Worker.state w = (0:Int)
 refine g 25 32 [BT,BT,BT,BT,BF,BF,BF,BT,BF,BT]<|J Zco<|W.cn<|J (fun h6=>?_) fun h6=>?_
 replace h6:=ndt h6
 refine g 19 24 []<|J UA<|RT ?_
 rotate_left
 replace h6:=ndf h6
 refine W.skip ?_
 by_cases h7:(1:Int)≤Worker.lease w∧Worker.lease w≤(300000000:Int)
 refine g 32 41 [.call (V.b (decide (1≤w.lease∧w.lease≤300000000))) [[],[],[]],BT,BT,BT,.call (V.b (decide (0≤w.task∧w.task≤39))) [[],[],[]],BT]<|J ⟨I,I,⟨UC,I,UU,UA,ac _ _ _⟩,I,⟨tO,I⟩,⟨tO,I⟩,⟨tO,UC,I,UU,UA,ac _ _ _⟩,tO,I,I⟩<|W.sq<|g 19 24 []<|J UB<|W.blk<|g 9 11 []<|J UB<|W.cn<|J (fun _=>(g 5 74 [BF,BF,BF,BF,BF,BF,BF,BF,BF,BF,BF,BF,BF,BF,BF,BF,BF,BF,BF,BF,BF]<|J Za7 (RT ?_))) (noF tO)
 rotate_left
 refine g 32 41 [.call (V.b (decide (1≤w.lease∧w.lease≤300000000))) [[],[],[]],BF,BF,BF,BF]<|J ⟨I,I,⟨UC,I,UU,UA,ac _ _ _⟩,I,dO,dO,dO,dO,I,I⟩<|W.sq<|g 19 24 []<|J UB<|W.blk<|g 9 11 []<|J UB<|W.cn<|J (fun _=>?_) (noF tO)
 by_cases h8:Worker.lease w = (0:Int)
 by_cases h9:Worker.task w = (0:Int)
 by_cases h10:Worker.cost w = (0:Int)
 by_cases h11:Worker.left w = (0:Int)
 by_cases h12:(↑(List.length (List.map ak (Worker.inputs w))):Int) = (0:Int)
 simp only[LM]at h12
 refine g 5 74 [BT,BT,BT,BT,BT,BT,BT,BT,BT,BT,BT,BT,BT,BT,BT,BT,BT,BT,BT,BT,BT]<|J Zaw<|RT ?_
 rotate_left
 simp only[LM]at h12
 refine g 5 74 [BT,BT,BT,BT,BT,BT,BT,BT,BT,BT,BT,BT,BT,BT,BT,BT,BT,BF,BF,BF,BF]<|J ⟨I,I,I,I,⟨tO,I⟩,⟨tO,I⟩,⟨tO,I⟩,tO,I,⟨tO,I⟩,⟨tO,I⟩,⟨tO,I⟩,tO,I,⟨tO,I⟩,⟨tO,I⟩,⟨tO,I⟩,tO,I,⟨tO,I⟩,⟨tO,I⟩,⟨tO,I⟩,⟨tO,I⟩,tO,I,(by simp_all),(by simp_all),(by simp_all),(by simp_all),I,I⟩<|RT ?_
 rotate_left
 refine g 5 74 [BT,BT,BT,BT,BT,BT,BT,BT,BT,BT,BT,BT,BF,BF,BF,BF,BF,BF,BF,BF,BF]<|J Za2<|RT ?_
 rotate_left
 refine g 5 74 [BT,BT,BT,BT,BT,BT,BT,BT,BF,BF,BF,BF,BF,BF,BF,BF,BF,BF,BF,BF,BF]<|J Zbc<|RT ?_
 rotate_left
 refine g 5 74 [BT,BT,BT,BT,BF,BF,BF,BF,BF,BF,BF,BF,BF,BF,BF,BF,BF,BF,BF,BF,BF]<|J Zbm<|RT ?_
 rotate_left
 refine g 5 74 [BF,BF,BF,BF,BF,BF,BF,BF,BF,BF,BF,BF,BF,BF,BF,BF,BF,BF,BF,BF,BF]<|J Za7<|RT ?_
 rotate_left
 refine g 25 32 [BT,BT,BT,BT,BT,BT,BT,BT,BT,BT]<|J Zcq<|W.cn<|J (fun _=>(g 19 24 []<|J UA (RT ?_))) (noF rfl)
 rotate_left
 refine g 14 17 [.call (V.b (decide (1≤w.number∧w.number≤8))) [[],[],[]],BF,BF,BF,.call (V.b (decide (1≤w.epoch∧w.epoch≤300))) [[],[],[]],BF,BF,BT,BT,BT,BT,BT]<|J ⟨I,I,⟨UC,I,UU,UA,ac _ _ _⟩,I,I,⟨nO,I⟩,⟨nO,I⟩,⟨nO,UC,I,UU,UA,ac _ _ _⟩,⟨nO,I⟩,nO,I,af OM,af OM,af OM,af OM,af OM,I⟩<|W.cn<|J (fun _=>(g 9 11 []<|J UA (RT ?_))) (noF rfl)
 rotate_left
 refine g 14 17 [.call (V.b (decide (1≤w.number∧w.number≤8))) [[],[],[]],BT,BT,BT,BT,BT,BT,BT,BT,BT,BT]<|J ⟨I,I,⟨UC,I,UU,UA,ac _ _ _⟩,I,I,af OM,af OM,af OM,af OM,af OM,I,rfl,rfl,rfl,rfl,rfl,I⟩<|W.cn<|J (fun _=>(g 9 11 []<|J UA (RT ?_))) (noF rfl)
 rotate_left
 all_goals (try simp only[List.length_map,decide_eq_true_eq,Bool.not_eq_true,Bool.not_eq_true',decide_eq_false_iff_not]at *)
 all_goals first
  |exact vbf (by unfold aq ec du eb fI;grind)
  |exact vbt (by unfold aq ec du eb fI;grind)
  |exact vbd (by unfold aq ec du eb fI;grind)
theorem am(w:Worker)(hl:w.inputs.length≤9223372036854775806):F oJ [.val (ea w)] (.b (decide (aq w))) [[]]:=by
 refine oW ?_
 conv=>whnf
 refine g 0 1 []<|J Zd2<|W.sq ?_
 by_cases h1:(1:Int)≤Worker.number w∧Worker.number w≤(8:Int)
 by_cases h2:(1:Int)≤Worker.epoch w∧Worker.epoch w≤(300:Int)
 refine g 9 13 [.call (V.b (decide (1≤w.number∧w.number≤8))) [[],[],[]],BF,BF,BF,.call (V.b (decide (1≤w.epoch∧w.epoch≤300))) [[],[],[]],BF,BF,BF,BF,BF,.call (V.b (decide (0≤w.since∧w.since≤1000000))) [[],[],[]],BF,BF]<|J ⟨I,I,⟨UC,I,UU,UA,ag _ _ _⟩,I,I,⟨nO,I⟩,⟨nO,I⟩,⟨nO,UC,I,UU,UA,ag _ _ _⟩,⟨nO,I⟩,nO,I,⟨nO,I⟩,⟨nO,I⟩,⟨nO,UC,I,UU,UA,ag _ _ _⟩,⟨nO,I⟩,nO,I⟩<|W.cn<|J (fun h3=>?_) fun h3=>?_
 replace h3:=ndt h3
 refine g 15 18 []<|J UA<|RT ?_
 rotate_left
 replace h3:=ndf h3
 refine W.skip<|W.sq ?_
 by_cases h4:Worker.up w = true
 refine g 26 31 [BF,BF,BF,BF,BF,BF,BF,BF,BF]<|J ⟨I,I,I,I,nbF AS,nbF AS,nbF AS,nbF AS,I,I,I,nbF AS,nbF AS,I⟩<|W.cn<|J (noT rfl) fun _=>W.skip<|W.sq<|g 5 8 []<|J UB<|W.blk<|g 15 18 []<|J UB<|W.cn<|J (fun h5=>?_) fun h5=>?_
 replace h5:=dt h5
 by_cases h6:Worker.lease w = (0:Int)
 by_cases h7:Worker.task w = (0:Int)
 by_cases h8:Worker.cost w = (0:Int)
 by_cases h9:Worker.left w = (0:Int)
 by_cases h10:(↑(List.length (List.map ak (Worker.inputs w))):Int) = (0:Int)
 simp only[LM]at h10
 refine g 8 65 [BT,BT,BT,BT,BT,BT,BT,BT,BT,BT,BT,BT,BT,BT,BT,BT,BT,BT,BT,BT,BT]<|J Zaw<|RT ?_
 rotate_left
 simp only[LM]at h10
 refine g 8 65 [BT,BT,BT,BT,BT,BT,BT,BT,BT,BT,BT,BT,BT,BT,BT,BT,BT,BF,BF,BF,BF]<|J ⟨I,I,I,I,⟨tO,I⟩,⟨tO,I⟩,⟨tO,I⟩,tO,I,⟨tO,I⟩,⟨tO,I⟩,⟨tO,I⟩,tO,I,⟨tO,I⟩,⟨tO,I⟩,⟨tO,I⟩,tO,I,⟨tO,I⟩,⟨tO,I⟩,⟨tO,I⟩,⟨tO,I⟩,tO,I,(by simp_all),(by simp_all),(by simp_all),(by simp_all),I,I⟩<|RT ?_
 rotate_left
 refine g 8 65 [BT,BT,BT,BT,BT,BT,BT,BT,BT,BT,BT,BT,BF,BF,BF,BF,BF,BF,BF,BF,BF]<|J Za2<|RT ?_
 rotate_left
 refine g 8 65 [BT,BT,BT,BT,BT,BT,BT,BT,BF,BF,BF,BF,BF,BF,BF,BF,BF,BF,BF,BF,BF]<|J Zbc<|RT ?_
 rotate_left
 refine g 8 65 [BT,BT,BT,BT,BF,BF,BF,BF,BF,BF,BF,BF,BF,BF,BF,BF,BF,BF,BF,BF,BF]<|J Zbm<|RT ?_
 rotate_left
 refine g 8 65 [BF,BF,BF,BF,BF,BF,BF,BF,BF,BF,BF,BF,BF,BF,BF,BF,BF,BF,BF,BF,BF]<|J Za7<|RT ?_
 rotate_left
 replace h5:=df h5
 refine g 21 24 []<|J UB<|W.cn<|J (fun h6=>?_) fun h6=>?_
 replace h6:=dt h6
 by_cases h7:(1:Int)≤Worker.lease w∧Worker.lease w≤(300000000:Int)
 by_cases h8:(0:Int)≤Worker.task w∧Worker.task w≤(39:Int)
 by_cases h9:(1:Int)≤Worker.cost w∧Worker.cost w≤(20:Int)
 by_cases h10:(1:Int)≤Worker.left w∧Worker.left w≤Worker.cost w
 by_cases h11:dH (Worker.inputs w)
 refine g 8 97 [.call (V.b (decide (1≤w.lease∧w.lease≤300000000))) [[]],BT,BT,BT,.call (V.b (decide (0≤w.task∧w.task≤39))) [[],[],[]],BT,BT,BT,BT,.call (V.b (decide (1≤w.cost∧w.cost≤20))) [[],[],[]],BT,BT,BT,BT,BT,BT,.call (V.b (decide (1≤w.left∧w.left≤w.cost))) [[],[],[]],BT,BT,BT,BT,.call (V.b (decide (dH w.inputs))) [[]],BT,BT,BT,BT,BT]<|J ⟨I,I,⟨UA,I,US,UA,ax _⟩,I,⟨tO,I⟩,⟨tO,I⟩,⟨tO,UC,I,UU,UA,ag _ _ _⟩,tO,I,⟨tO,I⟩,⟨tO,I⟩,⟨tO,UC,I,UU,UA,ag _ _ _⟩,tO,I,⟨tO,I⟩,⟨tO,I⟩,⟨tO,I⟩,⟨tO,I⟩,⟨tO,UC,I,UU,UA,ag _ _ _⟩,tO,I,⟨tO,I⟩,⟨tO,I⟩,⟨tO,UA,I,US,UA,dS _ OM⟩,tO,I,⟨tO,I⟩,⟨tO,I⟩,⟨tO,I⟩,tO,I,I⟩<|RT ?_
 rotate_left
 refine g 8 97 [.call (V.b (decide (1≤w.lease∧w.lease≤300000000))) [[]],BT,BT,BT,.call (V.b (decide (0≤w.task∧w.task≤39))) [[],[],[]],BT,BT,BT,BT,.call (V.b (decide (1≤w.cost∧w.cost≤20))) [[],[],[]],BT,BT,BT,BT,BT,BT,.call (V.b (decide (1≤w.left∧w.left≤w.cost))) [[],[],[]],BT,BT,BT,BT,.call (V.b (decide (dH w.inputs))) [[]],BT,BF,BF,BF,BF]<|J ⟨I,I,⟨UA,I,US,UA,ax _⟩,I,⟨tO,I⟩,⟨tO,I⟩,⟨tO,UC,I,UU,UA,ag _ _ _⟩,tO,I,⟨tO,I⟩,⟨tO,I⟩,⟨tO,UC,I,UU,UA,ag _ _ _⟩,tO,I,⟨tO,I⟩,⟨tO,I⟩,⟨tO,I⟩,⟨tO,I⟩,⟨tO,UC,I,UU,UA,ag _ _ _⟩,tO,I,⟨tO,I⟩,⟨tO,I⟩,⟨tO,UA,I,US,UA,dS _ OM⟩,tO,I,dO,dO,dO,dO,I,I⟩<|RT ?_
 rotate_left
 refine g 8 97 [.call (V.b (decide (1≤w.lease∧w.lease≤300000000))) [[]],BT,BT,BT,.call (V.b (decide (0≤w.task∧w.task≤39))) [[],[],[]],BT,BT,BT,BT,.call (V.b (decide (1≤w.cost∧w.cost≤20))) [[],[],[]],BT,BT,BT,BT,BT,BT,.call (V.b (decide (1≤w.left∧w.left≤w.cost))) [[],[],[]],BT,BF,BF,BF,BF,BF,BF,BF,BF]<|J ⟨I,I,⟨UA,I,US,UA,ax _⟩,I,⟨tO,I⟩,⟨tO,I⟩,⟨tO,UC,I,UU,UA,ag _ _ _⟩,tO,I,⟨tO,I⟩,⟨tO,I⟩,⟨tO,UC,I,UU,UA,ag _ _ _⟩,tO,I,⟨tO,I⟩,⟨tO,I⟩,⟨tO,I⟩,⟨tO,I⟩,⟨tO,UC,I,UU,UA,ag _ _ _⟩,tO,I,dO,dO,dO,dO,I,rfl,rfl,rfl,rfl,I,I⟩<|RT ?_
 rotate_left
 refine g 8 97 [.call (V.b (decide (1≤w.lease∧w.lease≤300000000))) [[]],BT,BT,BT,.call (V.b (decide (0≤w.task∧w.task≤39))) [[],[],[]],BT,BT,BT,BT,.call (V.b (decide (1≤w.cost∧w.cost≤20))) [[],[],[]],BT,BF,BF,BF,BF,BF,BF,BF,BF,BF,BF,BF,BF,BF,BF]<|J ⟨I,I,⟨UA,I,US,UA,ax _⟩,I,⟨tO,I⟩,⟨tO,I⟩,⟨tO,UC,I,UU,UA,ag _ _ _⟩,tO,I,⟨tO,I⟩,⟨tO,I⟩,⟨tO,UC,I,UU,UA,ag _ _ _⟩,tO,I,dO,dO,dO,dO,dO,dO,I,rfl,rfl,rfl,rfl,I,rfl,rfl,rfl,rfl,I,I⟩<|RT ?_
 rotate_left
 refine g 8 97 [.call (V.b (decide (1≤w.lease∧w.lease≤300000000))) [[]],BT,BT,BT,.call (V.b (decide (0≤w.task∧w.task≤39))) [[],[],[]],BT,BF,BF,BF,BF,BF,BF,BF,BF,BF,BF,BF,BF,BF,BF,BF,BF,BF,BF]<|J ⟨I,I,⟨UA,I,US,UA,ax _⟩,I,⟨tO,I⟩,⟨tO,I⟩,⟨tO,UC,I,UU,UA,ag _ _ _⟩,tO,I,dO,dO,dO,dO,I,rfl,rfl,rfl,rfl,rfl,rfl,I,rfl,rfl,rfl,rfl,I,rfl,rfl,rfl,rfl,I,I⟩<|RT ?_
 rotate_left
 refine g 8 97 [.call (V.b (decide (1≤w.lease∧w.lease≤300000000))) [[]],BF,BF,BF,BF,BF,BF,BF,BF,BF,BF,BF,BF,BF,BF,BF,BF,BF,BF,BF,BF,BF,BF]<|J ⟨I,I,⟨UA,I,US,UA,ax _⟩,I,dO,dO,dO,dO,I,rfl,rfl,rfl,rfl,I,rfl,rfl,rfl,rfl,rfl,rfl,I,rfl,rfl,rfl,rfl,I,rfl,rfl,rfl,rfl,I,I⟩<|RT ?_
 rotate_left
 replace h6:=df h6
 refine g 25 67 []<|J UB<|W.cn<|J (fun h7=>?_) fun h7=>?_
 replace h7:=dt h7
 by_cases h8:(1:Int)≤Worker.lease w∧Worker.lease w≤(300000000:Int)
 by_cases h9:(0:Int)≤Worker.task w∧Worker.task w≤(39:Int)
 by_cases h10:(↑(ByteArray.size (Worker.text w)):Int) = (8:Int)
 by_cases h11:Worker.cost w = (0:Int)
 by_cases h12:Worker.left w = (0:Int)
 refine g 8 129 [.call (V.b (decide (1≤w.lease∧w.lease≤300000000))) [[]],BT,BT,BT,.call (V.b (decide (0≤w.task∧w.task≤39))) [[],[],[]],BT,BT,BT,BT,BT,BT,BT,BT,BT,BT,BT,BT,BT,BT,BT,BT,BT,BT,BT]<|J ⟨I,I,⟨UA,I,US,UA,ax _⟩,I,⟨tO,I⟩,⟨tO,I⟩,⟨tO,UC,I,UU,UA,ag _ _ _⟩,tO,I,⟨tO,I⟩,⟨tO,I⟩,⟨tO,I⟩,⟨tO,I⟩,tO,I,⟨tO,I⟩,⟨tO,I⟩,⟨tO,I⟩,tO,I,⟨tO,I⟩,⟨tO,I⟩,⟨tO,I⟩,tO,I,⟨tO,I⟩,⟨tO,I⟩,⟨tO,I⟩,⟨tO,I⟩,tO,I,I⟩<|RT ?_
 rotate_left
 refine g 8 129 [.call (V.b (decide (1≤w.lease∧w.lease≤300000000))) [[]],BT,BT,BT,.call (V.b (decide (0≤w.task∧w.task≤39))) [[],[],[]],BT,BT,BT,BT,BT,BT,BT,BT,BT,BT,BT,BT,BT,BT,BF,BF,BF,BF,BF]<|J ⟨I,I,⟨UA,I,US,UA,ax _⟩,I,⟨tO,I⟩,⟨tO,I⟩,⟨tO,UC,I,UU,UA,ag _ _ _⟩,tO,I,⟨tO,I⟩,⟨tO,I⟩,⟨tO,I⟩,⟨tO,I⟩,tO,I,⟨tO,I⟩,⟨tO,I⟩,⟨tO,I⟩,tO,I,⟨tO,I⟩,⟨tO,I⟩,⟨tO,I⟩,tO,I,dO,dO,dO,dO,dO,I,I⟩<|RT ?_
 rotate_left
 refine g 8 129 [.call (V.b (decide (1≤w.lease∧w.lease≤300000000))) [[]],BT,BT,BT,.call (V.b (decide (0≤w.task∧w.task≤39))) [[],[],[]],BT,BT,BT,BT,BT,BT,BT,BT,BT,BT,BF,BF,BF,BF,BF,BF,BF,BF,BF]<|J ⟨I,I,⟨UA,I,US,UA,ax _⟩,I,⟨tO,I⟩,⟨tO,I⟩,⟨tO,UC,I,UU,UA,ag _ _ _⟩,tO,I,⟨tO,I⟩,⟨tO,I⟩,⟨tO,I⟩,⟨tO,I⟩,tO,I,⟨tO,I⟩,⟨tO,I⟩,⟨tO,I⟩,tO,I,dO,dO,dO,dO,I,rfl,rfl,rfl,rfl,rfl,I,I⟩<|RT ?_
 rotate_left
 refine g 8 129 [.call (V.b (decide (1≤w.lease∧w.lease≤300000000))) [[]],BT,BT,BT,.call (V.b (decide (0≤w.task∧w.task≤39))) [[],[],[]],BT,BT,BT,BT,BT,BT,BF,BF,BF,BF,BF,BF,BF,BF,BF,BF,BF,BF,BF]<|J ⟨I,I,⟨UA,I,US,UA,ax _⟩,I,⟨tO,I⟩,⟨tO,I⟩,⟨tO,UC,I,UU,UA,ag _ _ _⟩,tO,I,⟨tO,I⟩,⟨tO,I⟩,⟨tO,I⟩,⟨tO,I⟩,tO,I,dO,dO,dO,dO,I,rfl,rfl,rfl,rfl,I,rfl,rfl,rfl,rfl,rfl,I,I⟩<|RT ?_
 rotate_left
 refine g 8 129 [.call (V.b (decide (1≤w.lease∧w.lease≤300000000))) [[]],BT,BT,BT,.call (V.b (decide (0≤w.task∧w.task≤39))) [[],[],[]],BT,BF,BF,BF,BF,BF,BF,BF,BF,BF,BF,BF,BF,BF,BF,BF,BF,BF,BF]<|J ⟨I,I,⟨UA,I,US,UA,ax _⟩,I,⟨tO,I⟩,⟨tO,I⟩,⟨tO,UC,I,UU,UA,ag _ _ _⟩,tO,I,dO,dO,dO,dO,dO,I,rfl,rfl,rfl,rfl,I,rfl,rfl,rfl,rfl,I,rfl,rfl,rfl,rfl,rfl,I,I⟩<|RT ?_
 rotate_left
 refine g 8 129 [.call (V.b (decide (1≤w.lease∧w.lease≤300000000))) [[]],BF,BF,BF,BF,BF,BF,BF,BF,BF,BF,BF,BF,BF,BF,BF,BF,BF,BF,BF,BF,BF,BF]<|J ⟨I,I,⟨UA,I,US,UA,ax _⟩,I,dO,dO,dO,dO,I,rfl,rfl,rfl,rfl,rfl,I,rfl,rfl,rfl,rfl,I,rfl,rfl,rfl,rfl,I,rfl,rfl,rfl,rfl,rfl,I,I⟩<|RT ?_
 rotate_left
 replace h7:=df h7
 refine W.skip<|g 8 99 []<|J UA<|RT ?_
 rotate_left
 replace h4:=Bool.eq_false_iff.2 h4
 by_cases h5:Worker.state w = (0:Int)
 refine g 26 31 [BT,BT,BT,BT,BF,BF,BF,BT,BF,BT]<|J Zco<|W.cn<|J (fun h6=>?_) fun h6=>?_
 replace h6:=ndt h6
 refine g 5 8 []<|J UA<|RT ?_
 rotate_left
 replace h6:=ndf h6
 refine W.skip<|W.sq<|g 5 8 []<|J UB<|W.blk<|g 15 18 []<|J UB<|W.cn<|J (fun _=>?_) (noF tO)
 by_cases h7:Worker.lease w = (0:Int)
 by_cases h8:Worker.task w = (0:Int)
 by_cases h9:Worker.cost w = (0:Int)
 by_cases h10:Worker.left w = (0:Int)
 by_cases h11:(↑(List.length (List.map ak (Worker.inputs w))):Int) = (0:Int)
 simp only[LM]at h11
 refine g 8 65 [BT,BT,BT,BT,BT,BT,BT,BT,BT,BT,BT,BT,BT,BT,BT,BT,BT,BT,BT,BT,BT]<|J Zaw<|RT ?_
 rotate_left
 simp only[LM]at h11
 refine g 8 65 [BT,BT,BT,BT,BT,BT,BT,BT,BT,BT,BT,BT,BT,BT,BT,BT,BT,BF,BF,BF,BF]<|J ⟨I,I,I,I,⟨tO,I⟩,⟨tO,I⟩,⟨tO,I⟩,tO,I,⟨tO,I⟩,⟨tO,I⟩,⟨tO,I⟩,tO,I,⟨tO,I⟩,⟨tO,I⟩,⟨tO,I⟩,tO,I,⟨tO,I⟩,⟨tO,I⟩,⟨tO,I⟩,⟨tO,I⟩,tO,I,(by simp_all),(by simp_all),(by simp_all),(by simp_all),I,I⟩<|RT ?_
 rotate_left
 refine g 8 65 [BT,BT,BT,BT,BT,BT,BT,BT,BT,BT,BT,BT,BF,BF,BF,BF,BF,BF,BF,BF,BF]<|J Za2<|RT ?_
 rotate_left
 refine g 8 65 [BT,BT,BT,BT,BT,BT,BT,BT,BF,BF,BF,BF,BF,BF,BF,BF,BF,BF,BF,BF,BF]<|J Zbc<|RT ?_
 rotate_left
 refine g 8 65 [BT,BT,BT,BT,BF,BF,BF,BF,BF,BF,BF,BF,BF,BF,BF,BF,BF,BF,BF,BF,BF]<|J Zbm<|RT ?_
 rotate_left
 refine g 8 65 [BF,BF,BF,BF,BF,BF,BF,BF,BF,BF,BF,BF,BF,BF,BF,BF,BF,BF,BF,BF,BF]<|J Za7<|RT ?_
 rotate_left
 refine g 26 31 [BT,BT,BT,BT,BT,BT,BT,BT,BT,BT]<|J Zcq<|W.cn<|J (fun _=>(g 5 8 []<|J UA (RT ?_))) (noF rfl)
 rotate_left
 refine g 9 13 [.call (V.b (decide (1≤w.number∧w.number≤8))) [[],[],[]],BF,BF,BF,.call (V.b (decide (1≤w.epoch∧w.epoch≤300))) [[],[],[]],BF,BF,BT,BT,BT,BT,BT]<|J ⟨I,I,⟨UC,I,UU,UA,ag _ _ _⟩,I,I,⟨nO,I⟩,⟨nO,I⟩,⟨nO,UC,I,UU,UA,ag _ _ _⟩,⟨nO,I⟩,nO,I,af OM,af OM,af OM,af OM,af OM,I⟩<|W.cn<|J (fun _=>(g 15 18 []<|J UA (RT ?_))) (noF rfl)
 rotate_left
 refine g 9 13 [.call (V.b (decide (1≤w.number∧w.number≤8))) [[],[],[]],BT,BT,BT,BT,BT,BT,BT,BT,BT,BT]<|J ⟨I,I,⟨UC,I,UU,UA,ag _ _ _⟩,I,I,af OM,af OM,af OM,af OM,af OM,I,rfl,rfl,rfl,rfl,rfl,I⟩<|W.cn<|J (fun _=>(g 15 18 []<|J UA (RT ?_))) (noF rfl)
 rotate_left
 all_goals (try simp only[List.length_map,decide_eq_true_eq,Bool.not_eq_true,Bool.not_eq_true',decide_eq_false_iff_not]at *)
 all_goals first
  |exact vbf (by unfold aq ec du eb fI;grind)
  |exact vbt (by unfold aq ec du eb fI;grind)
  |exact vbd (by unfold aq ec du eb fI;grind)
end Go.K
end
section
open Go Go.Tm Go.Proofs
namespace Go.K
theorem gO(w:Worker)(s:Int):F mU [.val (ea w),.val (.i s)] (aA ⟨w.number,w.epoch,w.up,0,0,0,0,0,[],emp,s⟩) [[],[]]:=by
 refine mW ?_
 conv=>whnf
 refine g 0 0 []<|J Zd2<|g 5 13 []<|J ⟨I,I,I,I,I,I,I,I,UK,I⟩<|RT ?_
 rfl
theorem dK(xs:List ByteArray)(hl:xs.length≤1048576):F Ai [.val (.t (vo xs))] (.own [false] (xs.map ak)) [[]]:=by
 refine Aw ?_
 conv=>whnf
 refine g 0 0 []<|J UA<|g 3 6 []<|J ⟨I,I,Zde,I,I⟩<|RT ?_
 rfl
theorem eS(w:Worker)(hl:w.inputs.length≤1048576):F oM [.val (ea w)] (aA w) [[]]:=by
 refine oX ?_
 conv=>whnf
 refine g 0 1 []<|J Zd2<|g 3 7 [.call (V.own [false] (List.map ak w.inputs)) [[]]]<|J ⟨I,I,⟨UA,I,US,UA,dK _ OM⟩,I,UA,I⟩<|g 1 2 []<|J Zea<|RT ?_
 rfl
def lO(w:Worker):Worker:=if aq w then⟨w.number,w.epoch,false,0,0,0,0,0,[],emp,0⟩else kN
def iY(w:Worker):Worker:=if aq w then(if w.up = true∨300≤w.epoch then w else⟨w.number,w.epoch+1,true,0,0,0,0,0,[],emp,3⟩)else kN
theorem GT{w:Worker}(h:¬aq w):lO w = kN:=if_neg h
theorem GS{w:Worker}(h:aq w):lO w = ⟨w.number,w.epoch,false,0,0,0,0,0,[],emp,0⟩:=if_pos h
theorem qu(w:Worker)(hl:w.inputs.length≤1048576):F qc [.val (ea w)] (aA (lO w)) [[]]:=by
 refine qk ?_
 conv=>whnf
 refine g 0 1 []<|J Zd2<|W.sq<|g 3 5 [.call (V.b (decide (aq w))) [[]]]<|J ⟨I,⟨UA,I,⟨UK,I⟩,UA,dD _ OM⟩,I,I⟩<|W.cn<|J (fun h1=>?_) fun h1=>?_
 replace h1:=ndt h1
 refine g 5 7 []<|J Zea<|RT ?_
 rotate_left
 replace h1:=ndf h1
 refine W.skip<|g 5 9 [.call (aA {number:=w.number,epoch:=w.epoch,up:=w.up,state:=0,lease:=0,task:=0,cost:=0,left:=0,inputs:=[],text:=emp,since:=0:Worker}) [[],[]]]<|J ⟨I,⟨UB,I,⟨UK,UA,I⟩,UA,gO _ _⟩,UK,I⟩<|g 9 10 []<|J UV<|g 1 2 []<|J Zea<|RT ?_
 rotate_left
 ·exact congrArg aA (Eq.symm (GT h1))
 ·exact congrArg aA (Eq.symm (GS h1))
theorem Dn{w:Worker}(h:aq w):1≤w.epoch∧w.epoch≤300:=h.2.1
theorem Gh{w:Worker}(h:¬aq w):iY w = kN:=if_neg h
theorem np{w:Worker}(h:aq w)(h1:w.up = true∨300≤w.epoch):iY w = w:=by rw[iY,if_pos h,if_pos h1]
theorem Gg{w:Worker}(h:aq w)(h1:¬(w.up = true∨300≤w.epoch)):iY w = ⟨w.number,w.epoch+1,true,0,0,0,0,0,[],emp,3⟩:=by rw[iY,if_pos h,if_neg h1]
theorem qt(w:Worker)(hl:w.inputs.length≤1048576):F qb [.val (ea w)] (aA (iY w)) [[]]:=by
 by_cases h:aq w
 ·have he:=Dn h
  refine iX ?_
  conv=>whnf
  refine g 0 0 []<|J Zd2<|W.sq<|g 3 5 [.call (V.b (decide (aq w))) [[]]]<|J ⟨I,⟨UA,I,⟨UK,I⟩,UA,dD _ OM⟩,I,I⟩<|W.cn<|J (noT nO) fun _=>W.skip<|W.sq ?_
  by_cases h1:Worker.up w = true
  refine g 5 10 [BT,BT,BT,BT]<|J ⟨I,I,I,AS,AS,AS,AS,I⟩<|W.cn<|J (fun _=>(g 11 16 [.call (aA w) [[]]]<|J ⟨I,⟨UA,I,⟨UK,I⟩,UA,eS _ OM⟩,UK,I⟩ (RT ?_))) (noF rfl)
  rotate_left
  replace h1:=Bool.eq_false_iff.2 h1
  refine g 5 10 [BF,BF,BF,BF]<|J ⟨I,I,I,⟨AS,I⟩,⟨AS,I⟩,⟨AS,I⟩,AS,I⟩<|W.cn<|J (fun h2=>?_) fun h2=>?_
  replace h2:=dt h2
  refine g 11 16 [.call (aA w) [[]]]<|J ⟨I,⟨UA,I,⟨UK,I⟩,UA,eS _ OM⟩,UK,I⟩<|RT ?_
  rotate_left
  replace h2:=df h2
  refine W.skip<|g 10 22 [.i (w.epoch+1)]<|J ⟨I,I,I,I,wO,I,UK,I⟩<|RT ?_
  rotate_left
  ·rw[np h (by grind)]
  ·rw[np h (by grind)]
  ·exact congrArg aA (Eq.symm (Gg h (by grind)))
 ·refine iX ?_
  conv=>whnf
  refine g 0 0 []<|J Zd2<|W.sq<|g 3 5 [.call (V.b (decide (aq w))) [[]]]<|J ⟨I,⟨UA,I,⟨UK,I⟩,UA,dD _ OM⟩,I,I⟩<|W.cn<|J (fun _=>(g 5 7 []<|J Zea (RT ?_))) (noF (af OM))
  exact congrArg aA (Eq.symm (Gh h))
end Go.K
end
section
open Go Go.Tm Go.Proofs
namespace Go.K
structure Log where
 safe:List ByteArray
 loose:List ByteArray
 deriving DecidableEq
abbrev Rx(x:Log):V:=.agg [.t (.slc [false] (x.safe.map ak)),.t (.slc [false] (x.loose.map ak))]
structure Job where
 lease:Int
 worker:Int
 til:Int
 deriving DecidableEq
abbrev aW(x:Job):List T:=[.i x.lease,.i x.worker,.i x.til]
abbrev fD:List Bool:=[false,false,false]
abbrev fw:Job:=⟨0,0,0⟩
structure Seat where
 free:Bool
 epoch:Int
 deriving DecidableEq
abbrev aS(x:Seat):List T:=[.b x.free,.i x.epoch]
abbrev cT:List Bool:=[false,false]
abbrev jn:Seat:=⟨false,0⟩
structure Owed where
 worker:Int
 lease:Int
 task:Int
 deriving DecidableEq
abbrev bi(x:Owed):List T:=[.i x.worker,.i x.lease,.i x.task]
abbrev cU:List Bool:=[false,false,false]
structure Boss where
 workers:Int
 up:Bool
 now:Int
 since:Int
 epoch:Int
 given:Int
 log:Log
 results:List ByteArray
 jobs:List Job
 seats:List Seat
 owed:List Owed
 deriving DecidableEq
abbrev gm(x:Boss):V:=.agg [.t (.i x.workers),.t (.b x.up),.t (.i x.now),.t (.i x.since),.t (.i x.epoch),.t (.i x.given),.t (.slc [false] (x.log.safe.map ak)),.t (.slc [false] (x.log.loose.map ak)),.t (.slc [false] (x.results.map ak)),.t (.slc fD (x.jobs.map aW)),.t (.slc cT (x.seats.map aS)),.t (.slc cU (x.owed.map bi))]
abbrev aG(x:Boss):V:=.agg [.t (.i x.workers),.t (.b x.up),.t (.i x.now),.t (.i x.since),.t (.i x.epoch),.t (.i x.given),.own [false] (x.log.safe.map ak),.own [false] (x.log.loose.map ak),.own [false] (x.results.map ak),.own fD (x.jobs.map aW),.own cT (x.seats.map aS),.own cU (x.owed.map bi)]
abbrev jo:Boss:=⟨0,false,0,0,0,0,⟨[],[]⟩,[],[],[],[]⟩
def atS(rs:List ByteArray)(k:Int):ByteArray:=(rs[k.toNat]?).getD emp
def gR(ts:List Task)(n:Nat):List Int:=((ts[n]?).map Task.deps).getD []
structure JobOk (b:Boss) (ts:List Task) (i:Nat) (j:Job):Prop where
 lease:(b.epoch - 1) * 1000000+1≤j.lease∧j.lease≤(b.epoch - 1) * 1000000+b.given
 worker:1≤j.worker∧j.worker≤b.workers
 til:b.now+1≤j.til∧j.til≤b.now+12
 res:atS b.results (i:Int) = emp
 ready:ca b.results (gR ts i)
 once:j.lease ∉ (b.jobs.take i).map Job.lease
def Bt(b:Boss)(ts:List Task)(i:Nat)(j:Job):Prop:=(j.lease = 0→j.worker = 0∧j.til = 0)∧(¬j.lease = 0→JobOk b ts i j)
def ge(b:Boss)(ts:List Task)(n:Nat):Prop:=∀ (m:Nat) (j:Job),m < n→b.jobs[m]? = some j→Bt b ts m j
structure OwedOk (b:Boss) (ts:List Task) (o:Owed):Prop where
 worker:1≤o.worker∧o.worker≤b.workers
 lease:1≤o.lease∧o.lease≤300000000
 task:0≤o.task∧o.task≤(ts.length:Int) - 1
 res:¬atS b.results o.task = emp
structure UpOk (b:Boss) (ts:List Task) (st:Story):Prop where
 epoch:b.epoch = st.epoch
 pos:1≤b.epoch
 rlen:b.results.length = ts.length
 jlen:b.jobs.length = ts.length
 slen:(b.seats.length:Int) = b.workers
 res:b.results = st.results
 since:0≤b.since∧b.since≤1
 given:0≤b.given∧b.given≤1000000
 olen:b.owed.length≤2000
 jobs:ge b ts b.jobs.length
 seats:∀ s∈b.seats,0≤s.epoch∧s.epoch≤300
 owed:∀ o∈b.owed,OwedOk b ts o
structure DownOk (b:Boss):Prop where
 loose:b.log.loose.length = 0
 since:b.since = 0
 epoch:b.epoch = 0
 given:b.given = 0
 res:b.results.length = 0
 jobs:b.jobs.length = 0
 seats:b.seats.length = 0
 owed:b.owed.length = 0
noncomputable def bV(b:Boss)(p:Plan):Story:=ar p (b.log.safe++b.log.loose)
structure BossOk (b:Boss) (p:Plan):Prop where
 plan:ai p.tasks = 0
 workers:1≤b.workers∧b.workers≤8
 now:0≤b.now∧b.now≤1000000
 code:(bV b p).code = 0
 up:b.up = true→UpOk b p.tasks (bV b p)
 down:b.up = false→DownOk b
noncomputable instance (b:Boss) (p:Plan):Decidable (BossOk b p):=Classical.propDecidable _
theorem fc{b:Boss}{p:Plan}(hup:b.up = true)(h:¬UpOk b p.tasks (bV b p)):¬BossOk b p:=fun q=>h (q.up hup)
theorem vR{b:Boss}{p:Plan}(hup:b.up = false)(h:¬DownOk b):¬BossOk b p:=fun q=>h (q.down hup)
theorem ci{p:Plan}{xs:List ByteArray}(h:(ar p xs).code = 0):ai p.tasks = 0∧xs.length≤310∧(ar p xs).results.length = p.tasks.length∧∃ t,iU p.tasks (some (ke p.tasks)) xs = some t∧ar p xs = ⟨0,t.epoch,t.results⟩:=by
 unfold ar at h ⊢
 by_cases hq:ai p.tasks = 0∧xs.length≤310
 ·rw[if_pos hq]at h ⊢
  cases hr:iU p.tasks (some (ke p.tasks)) xs with
  |none=>rw[hr]at h;cases h
  |some t =>
   refine⟨hq.1,hq.2,?_,t,rfl,rfl⟩
   have:=rb p.tasks xs _ _ hr
   rw[ke,List.length_replicate]at this
   exact this
 ·rw[if_neg hq]at h;cases h
theorem JR{ts:List Task}{t t':Tale}{s:ByteArray}(h:de ts t s = some t')(h0:0≤t.epoch∧t.epoch≤300):0≤t'.epoch∧t'.epoch≤300:=by
 unfold de at h
 split at h
 ·cases h
 ·rename_i e he
  have hr:=fk he
  split at h
  ·split at h
   ·cases h;have:=hr.1;exact⟨by dsimp only;omega,this.2⟩
   ·cases h
  ·split at h
   ·cases h;exact h0
   ·cases h
theorem Gf{ts:List Task}:∀ {l:List ByteArray} {t t':Tale},iU ts (some t) l = some t'→0≤t.epoch∧t.epoch≤300→0≤t'.epoch∧t'.epoch≤300
 |[],t,t',h,h0=>by rw[iQ]at h;cases h;exact h0
 |s :: l,t,t',h,h0=>by
  rw[nn]at h
  cases hs:de ts t s with
  |none=>rw[hs,gv]at h;cases h
  |some u=>rw[hs]at h;exact Gf h (JR hs h0)
theorem ey{p:Plan}{xs:List ByteArray}(h:(ar p xs).code = 0):0≤(ar p xs).epoch∧(ar p xs).epoch≤300:=by
 obtain⟨_,_,_,t,h1,h2⟩:=ci h
 rw[h2]
 exact Gf h1 ⟨Int.le_refl _,by show(0:Int)≤300;omega⟩
theorem lL{b:Boss}{ts:List Task}{st:Story}{n:Nat}{j:Job}(hj:b.jobs[n]? = some j)(h:¬Bt b ts n j):¬UpOk b ts st:=fun q=>h (q.jobs n j (List.getElem?_eq_some_iff.1 hj).1 hj)
theorem nu{b:Boss}{ts:List Task}{n:Nat}{j:Job}(hc:ge b ts n)(hj:b.jobs[n]? = some j)(h:Bt b ts n j):ge b ts (n+1):=fun m k hm hk=>by
 by_cases e:m = n
 ·subst e;rw[hj]at hk;cases hk;exact h
 ·exact hc m k OM hk
theorem oG{rs:List ByteArray}{n:Nat}{y:ByteArray}(h:rs[n]? = some y):atS rs (n:Int) = y:=by unfold atS;rw[Int.toNat_natCast,h];rfl
theorem kc{rs:List ByteArray}{k:Int}{y:ByteArray}(h:rs[k.toNat]? = some y):atS rs k = y:=by unfold atS;rw[h];rfl
theorem cF{ts:List Task}{n:Nat}{t:Task}(h:ts[n]? = some t):gR ts n = t.deps:=by unfold gR;rw[h];rfl
def lq(b:Boss)(n:Nat):List Value:=(((b.jobs.take n).map Job.lease).filter (fun l=>decide (¬l = 0))).map fun l=>Value.int .i64 l
theorem zp{b:Boss}{n:Nat}{l:Int}(h:¬l = 0):Value.int .i64 l∈lq b n↔l∈(b.jobs.take n).map Job.lease:=by
 simp[lq,h]
theorem HZ(b:Boss)(n:Nat)(l0:Int):∀ x∈lq b n,kin (.int .i64 l0) x:=by
 intro x hx
 obtain⟨l,_,rfl⟩:=List.mem_map.1 hx
 rfl
theorem ET{b:Boss}{n:Nat}{j:Job}(h:b.jobs[n]? = some j)(h0:j.lease = 0):lq b (n+1) = lq b n:=by
 unfold lq;rw[List.take_add_one,h];simp[h0]
theorem ES{b:Boss}{n:Nat}{j:Job}(h:b.jobs[n]? = some j)(h0:¬j.lease = 0):lq b n++ [Value.int .i64 j.lease] = lq b (n+1):=by
 unfold lq;rw[List.take_add_one,h];simp[h0]
theorem C5{b:Boss}{ts:List Task}{st:Story}{n:Nat}{s:Seat}(hs:b.seats[n]? = some s)(h:¬(0≤s.epoch∧s.epoch≤300)):¬UpOk b ts st:=fun q=>h (q.seats s (List.mem_of_getElem? hs))
theorem jO{b:Boss}{ts:List Task}{st:Story}{n:Nat}{o:Owed}(hs:b.owed[n]? = some o)(h:¬OwedOk b ts o):¬UpOk b ts st:=fun q=>h (q.owed o (List.mem_of_getElem? hs))
theorem dx{α:Type}{p:α→Prop}{xs:List α}{n:Nat}{x:α}(hc:∀ y∈xs.take n,p y)(h:xs[n]? = some x)(hp:p x):∀ y∈xs.take (n+1),p y:=by
 intro y hy
 rw[List.take_add_one,h]at hy
 rcases List.mem_append.1 hy with hy|hy
 ·exact hc y hy
 ·rw[Option.toList,List.mem_singleton]at hy;subst hy;exact hp
theorem m9(b:Boss)(h1:b.log.safe.length≤1048576)(h2:b.log.loose.length≤1048576):F mV [.val (gm b)] (.own [false] ((b.log.safe++b.log.loose).map ak)) [[]]:=by
 refine mX ?_
 conv=>whnf
 refine g 0 1 []<|J ⟨UL,I,I⟩<|gd 3 11 [[],[],[],[.call (V.own [false] (List.map ak b.log.safe)) [[]]],[],[],[],[],[]] ?_
 conv=>whnf
 refine J ⟨I,I,I,⟨UA,I,US,UA,dK _ OM⟩,I,I,I,Zde,I,I⟩<|J KR<|RT ?_
 rw[List.map_append];rfl
theorem qN(l:Log)(h1:l.safe.length≤1048576)(h2:l.loose.length≤1048576):F Aa [.val (Rx l)] (.own [false] ((l.safe++l.loose).map ak)) [[]]:=by
 refine Ao ?_
 conv=>whnf
 refine g 0 1 []<|J ⟨UB,I,I⟩<|gd 3 10 [[],[],[],[],[],[],[],[]] ?_
 conv=>whnf
 refine J ⟨I,I,I,Zde,I,I,Zde,I,I⟩<|J KR<|RT ?_
 rw[List.map_append];rfl
end Go.K
end
section
open Go Go.Tm Go.Proofs
namespace Go.K
theorem sm(b:Boss)(p:Plan)(hp:cL p)(hl1:b.log.safe.length≤1048576)(hl2:b.log.loose.length≤1048576)(hs:∀ s∈b.log.safe++b.log.loose,s.size≤281474976710656)(hr:b.results.length≤1048576)(hj:b.jobs.length≤1048576)(hse:b.seats.length≤1048576)(ho:b.owed.length≤1048576):F jR [.val (gm b),.val (cB p)] (.b (decide (BossOk b p))) [[],[]]:=by
 have cp:=eu p hp
 have ce:=m9 b hl1 hl2
 have cr:F nX [.val (cB p),.val (.t (vo (b.log.safe++b.log.loose)))] (fY (bV b p)) [[],[]]:=oB p (b.log.safe++b.log.loose) hp hs (by rw[List.length_append];omega)
 by_cases hup:b.up = true
 rotate_left
 ·rw[Bool.not_eq_true]at hup
  refine jX ?_
  conv=>whnf
  refine g 0 2 []<|J Zcc<|W.sq ?_
  by_cases h1:ai (Plan.tasks p) = (0:Int)
  by_cases h2:(1:Int)≤Boss.workers b∧Boss.workers b≤(8:Int)
  refine g 17 19 [.call (V.i (ai p.tasks)) [[]],BF,BF,BF,.call (V.b (decide (1≤b.workers∧b.workers≤8))) [[],[],[]],BF,BF,BF,BF,BF,.call (V.b (decide (0≤b.now∧b.now≤1000000))) [[],[],[]],BF,BF]<|J ⟨I,Zai,I,I,⟨nO,I⟩,⟨nO,I⟩,⟨nO,UC,I,UU,UA,ac _ _ _⟩,⟨nO,I⟩,nO,I,⟨nO,I⟩,⟨nO,I⟩,⟨nO,UC,I,UU,UA,ac _ _ _⟩,⟨nO,I⟩,nO,I⟩<|W.cn<|J (fun h3=>?_) fun h3=>?_
  replace h3:=ndt h3
  refine g 29 31 []<|J UA<|RT ?_
  rotate_left
  replace h3:=ndf h3
  refine W.skip<|gd 29 32 [[],[],[.call (V.own [false] (List.map ak (b.log.safe++b.log.loose))) [[]]],[.call (fY (bV b p)) [[],[]]],[],[]] ?_
  conv=>whnf
  refine J ⟨I,I,Za0,Zam,I,UC,I⟩<|J KR<|W.sq<|g 33 37 []<|J UC<|W.cn<|J (fun h4=>?_) fun h4=>?_
  replace h4:=ndt h4
  refine g 21 22 []<|J UA<|RT ?_
  rotate_left
  replace h4:=ndf h4
  refine W.skip<|W.sq<|g 21 22 []<|J UC<|W.cn<|J (fun _=>?_) (noF (nbT AS))
  by_cases h5:(↑(List.length (List.map ak (Log.loose (Boss.log b)))):Int) = (0:Int)
  simp only[LM]at h5
  by_cases h6:Boss.since b = (0:Int)
  by_cases h7:Boss.epoch b = (0:Int)
  by_cases h8:Boss.given b = (0:Int)
  by_cases h9:(↑(List.length (List.map ak (Boss.results b))):Int) = (0:Int)
  simp only[LM]at h9
  by_cases h10:(↑(List.length (List.map aW (Boss.jobs b))):Int) = (0:Int)
  simp only[LM]at h10
  by_cases h11:(↑(List.length (List.map aS (Boss.seats b))):Int) = (0:Int)
  simp only[LM]at h11
  refine g 32 85 [BT,BT,BT,BT,BT,BT,BT,BT,BT,BT,BT,BT,BT,BT,BT,BT,BT,BT,BT,BT,BT,BT,BT,BT,BT,BT,BT,BT,BT,BT,BT,BT] ?_
  conv=>whnf
  refine J Za1<|RT ?_
  rotate_left
  simp only[LM]at h11
  refine g 32 85 [BT,BT,BT,BT,BT,BT,BT,BT,BT,BT,BT,BT,BT,BT,BT,BT,BT,BT,BT,BT,BT,BT,BT,BT,BT,BT,BT,BF,BF,BF,BF,BF] ?_
  conv=>whnf
  refine J ⟨I,I,I,I,I,I,⟨SI,I⟩,⟨SI,I⟩,⟨SI,I⟩,SI,I,⟨tO,I⟩,⟨tO,I⟩,⟨tO,I⟩,tO,I,⟨tO,I⟩,⟨tO,I⟩,⟨tO,I⟩,tO,I,⟨tO,I⟩,⟨tO,I⟩,⟨tO,I⟩,⟨tO,I⟩,tO,I,⟨SI,I⟩,⟨SI,I⟩,⟨SI,I⟩,⟨SI,I⟩,SI,I,⟨SI,I⟩,⟨SI,I⟩,⟨SI,I⟩,⟨SI,I⟩,SI,I,(by simp_all),(by simp_all),(by simp_all),(by simp_all),(by simp_all),I,I⟩<|RT ?_
  rotate_left
  simp only[LM]at h10
  refine g 32 85 [BT,BT,BT,BT,BT,BT,BT,BT,BT,BT,BT,BT,BT,BT,BT,BT,BT,BT,BT,BT,BT,BT,BF,BF,BF,BF,BF,BF,BF,BF,BF,BF] ?_
  conv=>whnf
  refine J ⟨I,I,I,I,I,I,⟨SI,I⟩,⟨SI,I⟩,⟨SI,I⟩,SI,I,⟨tO,I⟩,⟨tO,I⟩,⟨tO,I⟩,tO,I,⟨tO,I⟩,⟨tO,I⟩,⟨tO,I⟩,tO,I,⟨tO,I⟩,⟨tO,I⟩,⟨tO,I⟩,⟨tO,I⟩,tO,I,⟨SI,I⟩,⟨SI,I⟩,⟨SI,I⟩,⟨SI,I⟩,SI,I,(by simp_all),(by simp_all),(by simp_all),(by simp_all),(by simp_all),I,rfl,rfl,rfl,rfl,rfl,I,I⟩<|RT ?_
  rotate_left
  simp only[LM]at h9
  refine g 32 85 [BT,BT,BT,BT,BT,BT,BT,BT,BT,BT,BT,BT,BT,BT,BT,BT,BT,BF,BF,BF,BF,BF,BF,BF,BF,BF,BF,BF,BF,BF,BF,BF] ?_
  conv=>whnf
  refine J ⟨I,I,I,I,I,I,⟨SI,I⟩,⟨SI,I⟩,⟨SI,I⟩,SI,I,⟨tO,I⟩,⟨tO,I⟩,⟨tO,I⟩,tO,I,⟨tO,I⟩,⟨tO,I⟩,⟨tO,I⟩,tO,I,⟨tO,I⟩,⟨tO,I⟩,⟨tO,I⟩,⟨tO,I⟩,tO,I,(by simp_all),(by simp_all),(by simp_all),(by simp_all),(by simp_all),I,rfl,rfl,rfl,rfl,rfl,I,rfl,rfl,rfl,rfl,rfl,I,I⟩<|RT ?_
  rotate_left
  refine g 32 85 [BT,BT,BT,BT,BT,BT,BT,BT,BT,BT,BT,BT,BF,BF,BF,BF,BF,BF,BF,BF,BF,BF,BF,BF,BF,BF,BF,BF,BF,BF,BF,BF] ?_
  conv=>whnf
  refine J Zbr<|RT ?_
  rotate_left
  refine g 32 85 [BT,BT,BT,BT,BT,BT,BT,BT,BF,BF,BF,BF,BF,BF,BF,BF,BF,BF,BF,BF,BF,BF,BF,BF,BF,BF,BF,BF,BF,BF,BF,BF] ?_
  conv=>whnf
  refine J Zbw<|RT ?_
  rotate_left
  refine g 32 85 [BT,BT,BT,BT,BF,BF,BF,BF,BF,BF,BF,BF,BF,BF,BF,BF,BF,BF,BF,BF,BF,BF,BF,BF,BF,BF,BF,BF,BF,BF,BF,BF] ?_
  conv=>whnf
  refine J Zb0<|RT ?_
  rotate_left
  simp only[LM]at h5
  refine g 32 85 [BF,BF,BF,BF,BF,BF,BF,BF,BF,BF,BF,BF,BF,BF,BF,BF,BF,BF,BF,BF,BF,BF,BF,BF,BF,BF,BF,BF,BF,BF,BF,BF] ?_
  conv=>whnf
  refine J ⟨I,I,I,I,I,I,(by simp_all),(by simp_all),(by simp_all),(by simp_all),I,rfl,rfl,rfl,rfl,I,rfl,rfl,rfl,rfl,I,rfl,rfl,rfl,rfl,rfl,I,rfl,rfl,rfl,rfl,rfl,I,rfl,rfl,rfl,rfl,rfl,I,rfl,rfl,rfl,rfl,rfl,I,I⟩<|RT ?_
  rotate_left
  refine g 17 19 [.call (V.i (ai p.tasks)) [[]],BF,BF,BF,.call (V.b (decide (1≤b.workers∧b.workers≤8))) [[],[],[]],BF,BF,BT,BT,BT,BT,BT]<|J ⟨I,Zai,I,I,⟨nO,I⟩,⟨nO,I⟩,⟨nO,UC,I,UU,UA,ac _ _ _⟩,⟨nO,I⟩,nO,I,af OM,af OM,af OM,af OM,af OM,I⟩<|W.cn<|J (fun _=>(g 29 31 []<|J UA (RT ?_))) (noF rfl)
  rotate_left
  refine g 17 19 [.call (V.i (ai p.tasks)) [[]],BT,BT,BT,BT,BT,BT,BT,BT,BT,BT]<|J ⟨I,Zai,I,I,af OM,af OM,af OM,af OM,af OM,I,rfl,rfl,rfl,rfl,rfl,I⟩<|W.cn<|J (fun _=>(g 29 31 []<|J UA (RT ?_))) (noF rfl)
  rotate_left
  all_goals first
   |exact vbf (fun q=>by have e1:=q.plan;have e2:=q.workers;have e3:=q.now;have e4:=q.code;omega)
   |exact vbf (vR hup fun q=>by have e1:=q.loose;have e2:=q.since;have e3:=q.epoch;have e4:=q.given;have e5:=q.res;have e6:=q.jobs;have e7:=q.seats;omega)
   |(rename_i h8
     simp only[List.length_map]
     by_cases h9:(b.owed.length:Int) = 0
     ·rw[decide_eq_true h9];exact vbt ⟨by omega,by omega,by omega,by omega,(fun q=>by rw[hup]at q;cases q),fun _=>⟨by omega,by omega,by omega,by omega,by omega,by omega,by omega,by omega⟩⟩
     ·rw[decide_eq_false h9];exact vbf (vR hup fun q=>by have e8:=q.owed;omega))
   |skip
 refine jX ?_
 conv=>whnf
 refine g 0 2 []<|J Zcc<|W.sq ?_
 by_cases h1:ai (Plan.tasks p) = (0:Int)
 by_cases h2:(1:Int)≤Boss.workers b∧Boss.workers b≤(8:Int)
 refine g 17 19 [.call (V.i (ai p.tasks)) [[]],BF,BF,BF,.call (V.b (decide (1≤b.workers∧b.workers≤8))) [[],[],[]],BF,BF,BF,BF,BF,.call (V.b (decide (0≤b.now∧b.now≤1000000))) [[],[],[]],BF,BF]<|J ⟨I,Zai,I,I,⟨nO,I⟩,⟨nO,I⟩,⟨nO,UC,I,UU,UA,ac _ _ _⟩,⟨nO,I⟩,nO,I,⟨nO,I⟩,⟨nO,I⟩,⟨nO,UC,I,UU,UA,ac _ _ _⟩,⟨nO,I⟩,nO,I⟩<|W.cn<|J (fun h3=>?_) fun h3=>?_
 replace h3:=ndt h3
 refine g 29 31 []<|J UA<|RT ?_
 rotate_left
 replace h3:=ndf h3
 refine W.skip<|gd 29 32 [[],[],[.call (V.own [false] (List.map ak (b.log.safe++b.log.loose))) [[]]],[.call (fY (bV b p)) [[],[]]],[],[]] ?_
 conv=>whnf
 refine J ⟨I,I,Za0,Zam,I,UC,I⟩<|J KR<|W.sq<|g 33 37 []<|J UC<|W.cn<|J (fun h4=>?_) fun h4=>?_
 replace h4:=ndt h4
 refine g 21 22 []<|J UA<|RT ?_
 rotate_left
 replace h4:=ndf h4
 refine W.skip<|W.sq<|g 21 22 []<|J UC<|W.cn<|J (noT (nbF AS)) fun _=>W.skip<|W.sq ?_
 by_cases h5:Boss.epoch b = Story.epoch (bV b p)
 by_cases h6:Boss.epoch b < (1:Int)
 refine g 25 120 [BF,BF,BF,BF,BT,BT,BT,BT,BT,BT,BT,BT,BT,BT,BT,BT,BT,BT,BT,BT,BT,BT,BT,BT,BT,BT,BT]<|J ⟨I,I,I,I,I,I,⟨nO,I⟩,⟨nO,I⟩,⟨nO,I⟩,nO,I,tO,tO,tO,tO,tO,tO,tO,tO,I,rfl,rfl,rfl,rfl,rfl,rfl,rfl,rfl,I,rfl,rfl,rfl,rfl,rfl,rfl,rfl,I⟩<|W.cn<|J (fun _=>(g 19 21 []<|J UA (RT ?_))) (noF rfl)
 rotate_left
 by_cases h7:(↑(List.length (List.map ak (Boss.results b))):Int) = (↑(List.length (List.map aB (Plan.tasks p))):Int)
 simp only[LM]at h7
 by_cases h8:(↑(List.length (List.map aW (Boss.jobs b))):Int) = (↑(List.length (List.map aB (Plan.tasks p))):Int)
 simp only[LM]at h8
 refine g 25 120 [BF,BF,BF,BF,BF,BF,BF,BF,BF,BF,BF,BF,BF,BF,BF,BF,BF,BF,BF,BF,BF,BF,BF,BF,BF,BF,BF]<|J ⟨I,I,I,I,I,I,⟨nO,I⟩,⟨nO,I⟩,⟨nO,I⟩,nO,I,⟨dO,I⟩,⟨dO,I⟩,⟨dO,I⟩,⟨dO,I⟩,⟨dO,I⟩,⟨dO,I⟩,⟨dO,I⟩,dO,I,⟨SI,I⟩,⟨SI,I⟩,⟨SI,I⟩,⟨SI,I⟩,⟨SI,I⟩,⟨SI,I⟩,⟨SI,I⟩,SI,I,⟨SI,I⟩,⟨SI,I⟩,⟨SI,I⟩,⟨SI,I⟩,⟨SI,I⟩,⟨SI,I⟩,SI,I⟩<|W.cn<|J (fun h9=>?_) fun h9=>?_
 replace h9:=ndt h9
 simp only[LM]at h9
 refine g 19 21 []<|J UA<|RT ?_
 rotate_left
 replace h9:=ndf h9
 simp only[LM]at h9
 refine W.skip<|W.sq<|g 19 21 []<|J UD<|W.blk ?_
 rotate_left
 simp only[LM]at h8
 refine g 25 120 [BF,BF,BF,BF,BF,BF,BF,BF,BF,BF,BF,BF,BF,BF,BF,BF,BF,BF,BF,BF,BT,BT,BT,BT,BT,BT,BT]<|J ⟨I,I,I,I,I,I,⟨nO,I⟩,⟨nO,I⟩,⟨nO,I⟩,nO,I,⟨dO,I⟩,⟨dO,I⟩,⟨dO,I⟩,⟨dO,I⟩,⟨dO,I⟩,⟨dO,I⟩,⟨dO,I⟩,dO,I,⟨SI,I⟩,⟨SI,I⟩,⟨SI,I⟩,⟨SI,I⟩,⟨SI,I⟩,⟨SI,I⟩,⟨SI,I⟩,SI,I,SI,SI,SI,SI,SI,SI,SI,I⟩<|W.cn<|J (fun _=>(g 19 21 []<|J UA (RT ?_))) (noF rfl)
 rotate_left
 simp only[LM]at h7
 refine g 25 120 [BF,BF,BF,BF,BF,BF,BF,BF,BF,BF,BF,BF,BT,BT,BT,BT,BT,BT,BT,BT,BT,BT,BT,BT,BT,BT,BT]<|J ⟨I,I,I,I,I,I,⟨nO,I⟩,⟨nO,I⟩,⟨nO,I⟩,nO,I,⟨dO,I⟩,⟨dO,I⟩,⟨dO,I⟩,⟨dO,I⟩,⟨dO,I⟩,⟨dO,I⟩,⟨dO,I⟩,dO,I,SI,SI,SI,SI,SI,SI,SI,SI,I,rfl,rfl,rfl,rfl,rfl,rfl,rfl,I⟩<|W.cn<|J (fun _=>(g 19 21 []<|J UA (RT ?_))) (noF rfl)
 rotate_left
 refine g 25 120 [BT,BT,BT,BT,BT,BT,BT,BT,BT,BT,BT,BT,BT,BT,BT,BT,BT,BT,BT,BT,BT,BT,BT,BT,BT,BT,BT]<|J ⟨I,I,I,I,I,I,af OM,af OM,af OM,af OM,I,rfl,rfl,rfl,rfl,rfl,rfl,rfl,rfl,I,rfl,rfl,rfl,rfl,rfl,rfl,rfl,rfl,I,rfl,rfl,rfl,rfl,rfl,rfl,rfl,I⟩<|W.cn<|J (fun _=>(g 19 21 []<|J UA (RT ?_))) (noF rfl)
 rotate_left
 refine g 17 19 [.call (V.i (ai p.tasks)) [[]],BF,BF,BF,.call (V.b (decide (1≤b.workers∧b.workers≤8))) [[],[],[]],BF,BF,BT,BT,BT,BT,BT]<|J ⟨I,Zai,I,I,⟨nO,I⟩,⟨nO,I⟩,⟨nO,UC,I,UU,UA,ac _ _ _⟩,⟨nO,I⟩,nO,I,af OM,af OM,af OM,af OM,af OM,I⟩<|W.cn<|J (fun _=>(g 29 31 []<|J UA (RT ?_))) (noF rfl)
 rotate_left
 refine g 17 19 [.call (V.i (ai p.tasks)) [[]],BT,BT,BT,BT,BT,BT,BT,BT,BT,BT]<|J ⟨I,Zai,I,I,af OM,af OM,af OM,af OM,af OM,I,rfl,rfl,rfl,rfl,rfl,I⟩<|W.cn<|J (fun _=>(g 29 31 []<|J UA (RT ?_))) (noF rfl)
 rotate_left
 all_goals try first
  |exact vbf (fun q=>by have e1:=q.plan;have e2:=q.workers;have e3:=q.now;have e4:=q.code;omega)
  |exact vbf (fc hup fun q=>by have e1:=q.epoch;have e2:=q.pos;have e3:=q.rlen;have e4:=q.jlen;have e5:=q.slen;omega)
 have hk:(bV b p).code = 0:=by assumption
 have hc0:ai p.tasks = 0:=by assumption
 obtain⟨_,_,hsl,_⟩:=ci (p:=p) (xs:=b.log.safe++b.log.loose) hk
 obtain⟨hep1,hep2⟩:=ey (p:=p) (xs:=b.log.safe++b.log.loose) hk
 change (bV b p).results.length = _ at hsl
 change 0≤(bV b p).epoch at hep1
 change (bV b p).epoch≤300 at hep2
 have f1:b.epoch = (bV b p).epoch:=by assumption
 have f2:1≤b.epoch:=by omega
 have f3:b.results.length = p.tasks.length:=by omega
 have f4:b.jobs.length = p.tasks.length:=by omega
 have f5:(b.seats.length:Int) = b.workers:=by omega
 have f6:1≤b.workers∧b.workers≤8:=by assumption
 have f7:0≤b.now∧b.now≤1000000:=by assumption
 have hpl:=(bM hc0).1
 refine W.lp (fun s (n:Nat)=>⟨[(2,s.s 2),(3,s.s 3),(5,s.s 5),(16,s.s 16),(22,s.s 22),(24,s.s 24),(122,s.s 122),(123,s.s 123),(124,.i n)],[(2,[s.c 2 0,s.c 2 1,s.c 2 2,s.c 2 3,s.c 2 4,s.c 2 5,s.c 2 6,s.c 2 7,s.c 2 8,s.c 2 9,s.c 2 10,s.c 2 11]),(3,[s.c 3 0]),(5,[s.c 5 0,s.c 5 1,s.c 5 2])],[]⟩) (fun(n:Nat)=>n≤b.results.length∧b.results.take n = (bV b p).results.take n) (fun(n:Nat)=>b.results.length - n) (0) [some 2,some 3,some 5] [] ⟨rfl,⟨rfl,rfl,rfl,Zag,rfl,rfl,rfl,rfl,rfl,I⟩,⟨Zaa,⟨Zad,⟨Zac,I⟩⟩⟩,I⟩ (by simp) ?_
 rintro n ⟨hn,hc⟩
 conv=>whnf
 refine g 0 0 []<|J UA<|W.sq<|W.cn<|J (fun h10=>?_) fun h10=>?_
 replace h10:=dt h10
 simp only[LM]at h10
 refine W.skip<|W.sq<|W.blk ?_
 obtain⟨y1,hy1⟩:=aj (xs:=Boss.results b) (n:=n) OM
 refine g 125 129 [.x (ak y1)]<|J ⟨I,Zdg,I,I,I,I⟩ ?_
 obtain⟨y2,hy2⟩:=aj (xs:=Story.results (bV b p)) (n:=n) OM
 refine g 129 135 [.n (n),.x (ak y2)]<|J ⟨I,I,I,Zdf,xA,I,I,I⟩<|W.cn<|J (fun h11=>?_) fun h11=>?_
 replace h11:=ndt h11
 refine g 7 8 []<|J UA<|RT ?_
 rotate_left
 replace h11:=ndf h11
 refine W.skip<|rg [.i ((n:Int) +1)]<|J Zdj ?_
 rotate_left
 replace h10:=df h10
 simp only[LM]at h10
 refine W.exit<|W.sq ?_
 by_cases h11:(0:Int)≤Boss.since b∧Boss.since b≤(1:Int)
 by_cases h12:(0:Int)≤Boss.given b∧Boss.given b≤(1000000:Int)
 refine g 122 152 [.call (V.b (decide (0≤b.since∧b.since≤1))) [[],[],[]],BF,BF,BF,.call (V.b (decide (0≤b.given∧b.given≤1000000))) [[],[],[]],BF,BF,BF,BF,BF,BF,BF]<|J ⟨I,I,⟨UC,I,UU,UA,ac _ _ _⟩,I,I,⟨nO,I⟩,⟨nO,I⟩,⟨nO,UC,I,UU,UA,ac _ _ _⟩,⟨nO,I⟩,nO,I,⟨nO,I⟩,⟨nO,I⟩,⟨nO,I⟩,⟨nO,I⟩,nO,I⟩<|W.cn<|J (fun h13=>?_) fun h13=>?_
 replace h13:=dt h13
 simp only[LM]at h13
 refine g 5 6 []<|J UA<|RT ?_
 rotate_left
 replace h13:=df h13
 simp only[LM]at h13
 refine W.skip<|g 152 154 []<|J UB<|g 154 158 [.i (b.epoch - 1),.i ((b.epoch - 1) * 1000000)]<|J ⟨I,I,wO,wO,I,I⟩<|W.sq<|g 5 6 []<|J UD<|W.blk ?_
 rotate_left
 refine g 122 152 [.call (V.b (decide (0≤b.since∧b.since≤1))) [[],[],[]],BF,BF,BF,.call (V.b (decide (0≤b.given∧b.given≤1000000))) [[],[],[]],BF,BF,BT,BT,BT,BT,BT]<|J ⟨I,I,⟨UC,I,UU,UA,ac _ _ _⟩,I,I,⟨nO,I⟩,⟨nO,I⟩,⟨nO,UC,I,UU,UA,ac _ _ _⟩,⟨nO,I⟩,nO,I,af OM,af OM,af OM,af OM,af OM,I⟩<|W.cn<|J (fun _=>(g 5 6 []<|J UA (RT ?_))) (noF rfl)
 rotate_left
 refine g 122 152 [.call (V.b (decide (0≤b.since∧b.since≤1))) [[],[],[]],BT,BT,BT,BT,BT,BT,BT,BT,BT,BT]<|J ⟨I,I,⟨UC,I,UU,UA,ac _ _ _⟩,I,I,af OM,af OM,af OM,af OM,af OM,I,rfl,rfl,rfl,rfl,rfl,I⟩<|W.cn<|J (fun _=>(g 5 6 []<|J UA (RT ?_))) (noF rfl)
 rotate_left
 all_goals try first
  |exact vbf (fc hup fun q=>by have e1:=q.res;rw[e1]at hy1;rw[hy1]at hy2;cases hy2;contradiction)
  |exact vbf (fc hup fun q=>by have e1:=q.since;have e2:=q.given;have e3:=q.olen;omega)
 ·refine⟨n+1,[some 2,some 3,some 5],[],⟨rfl,⟨rfl,rfl,rfl,Zag,rfl,rfl,rfl,rfl,rfl,I⟩,⟨Zaa,⟨Zad,⟨Zac,I⟩⟩⟩,I⟩,?_,?_⟩
  rotate_left
  (dsimp only;omega)
  dsimp only
  exact⟨by omega,AO hc hy1 (by rw[hy2];simp_all)⟩
 have g1:b.results = (bV b p).results:=by rw[bC OM,bC OM]at hc;exact hc
 have g2:0≤b.since∧b.since≤1:=by omega
 have g3:0≤b.given∧b.given≤1000000:=by omega
 have g4:b.owed.length≤2000:=by omega
 refine W.lp (fun s (n:Nat)=>⟨[(2,s.s 2),(3,s.s 3),(8,s.s 8),(9,s.s 9),(16,s.s 16),(22,s.s 22),(24,s.s 24),(159,s.s 159),(160,s.s 160),(161,.i n)],[(2,[s.c 2 0,s.c 2 1,s.c 2 2,s.c 2 3,s.c 2 4,s.c 2 5,s.c 2 6,s.c 2 7,s.c 2 8,s.c 2 9,s.c 2 10,s.c 2 11]),(3,[s.c 3 0])],[(153,lq b n)]⟩) (fun(n:Nat)=>n≤b.jobs.length∧ge b p.tasks n) (fun(n:Nat)=>b.jobs.length - n) (0) [some 2,some 3] [153] ⟨rfl,⟨rfl,rfl,rfl,rfl,⟨_,rfl,_,_,rfl,rfl,rfl⟩,rfl,rfl,rfl,rfl,rfl,I⟩,⟨⟨rfl,⟨rfl,⟨rfl,⟨rfl,⟨rfl,⟨rfl,⟨rfl,⟨rfl,⟨rfl,⟨rfl,⟨rfl,⟨rfl,⟨rfl,I⟩⟩⟩⟩⟩⟩⟩⟩⟩⟩⟩⟩⟩,⟨⟨rfl,⟨rfl,I⟩⟩,I⟩⟩,⟨rfl,I⟩⟩ ?_ ?_
 ·exact⟨Nat.zero_le _,fun m j hm=>by omega⟩
 rintro n1 ⟨hn1,hc1⟩
 have hrl:b.results.length = p.tasks.length:=f3
 by_cases hj2:n1 < b.jobs.length
 ·obtain⟨j,hj1⟩:=aj hj2
  obtain⟨y,hy0⟩:=aj (xs:=b.results) (n:=n1) OM
  obtain⟨t,ht0⟩:=aj (xs:=p.tasks) (n:=n1) OM
  have hkin:=HZ b n1 j.lease
  obtain⟨_,_,a3,a4⟩:=bv hc0 ht0
  have crd:=gV b.results t.deps (fun d hd=>by have:=a4 d hd;omega) OM
  by_cases hz:j.lease = 0
  ·by_cases hz2:j.worker = 0∧j.til = 0
   ·have hjo:Bt b p.tasks n1 j:=⟨fun _=>hz2,fun e=>absurd hz e⟩
    obtain⟨hz3,hz4⟩:=hz2
    conv=>whnf
    refine g 0 0 []<|J UA<|W.sq<|W.cn<|J (fun _=>(W.skip (W.sq (W.blk (g 162 166 [.x (aW j)]<|J Zbs (W.sq (g 166 168 []<|J UC (W.cn<|J (fun _=>(W.sq (g 168 171 [BT]<|J ⟨I,I,by simp[*],I⟩ ?_))) (noF tO))))))))) (noF (by simp_all))
    refine W.cn<|J (noT rfl) fun _=>W.skip<|W.exit<|rg [.i ((n1:Int) +1)]<|J Zdj ?_
    refine⟨n1+1,[some 2,some 3],[153],⟨rfl,⟨rfl,rfl,rfl,rfl,Zag,rfl,rfl,rfl,rfl,rfl,I⟩,⟨Zaa,Zdm⟩,⟨(congrArg some (ET hj1 hz).symm),I⟩⟩,?_,?_⟩
    rotate_left
    (dsimp only;omega)
    dsimp only
    exact⟨by omega,nu hc1 hj1 hjo⟩
   ·conv=>whnf
    refine g 0 0 []<|J UA<|W.sq<|W.cn<|J (fun _=>(W.skip (W.sq (W.blk (g 162 166 [.x (aW j)]<|J Zbs (W.sq (g 166 168 []<|J UC (W.cn<|J (fun _=>(W.sq (g 168 171 [BF]<|J ⟨I,I,by simp_all,I⟩ ?_))) (noF tO))))))))) (noF (by simp_all))
    refine W.cn<|J (fun _=>(g 171 172 []<|J UA (RT ?_))) (noF rfl)
    all_goals exact vbf (fc hup (lL hj1 (fun q=>by have:=q.1 hz;omega)))
  ·by_cases hA:(b.epoch - 1) * 1000000+1≤j.lease∧j.lease≤(b.epoch - 1) * 1000000+b.given
   ·by_cases hB:j.lease∈(b.jobs.take n1).map Job.lease
    ·have hkm:Value.int IntKind.i64 j.lease∈lq b n1:=(zp hz).2 hB
     conv=>whnf
     refine g 0 0 []<|J UA<|W.sq<|W.cn<|J (fun _=>(W.skip (W.sq (W.blk (g 162 166 [.x (aW j)]<|J Zbs (W.sq (g 166 168 []<|J UC (W.cn<|J (noT dO) fun _=>(W.skip (W.sq ?_)))))))))) (noF (by simp_all))
     refine g 168 207 [.i ((b.epoch - 1) * 1000000+1),.i ((b.epoch - 1) * 1000000+b.given),.call (V.b (decide ((b.epoch - 1) * 1000000+1≤j.lease∧j.lease≤(b.epoch - 1) * 1000000+b.given))) [[],[],[]],BF,BF,BF,BF,.b (decide (j.lease∈List.map (fun l=>l) (List.filter (fun l=>decide ¬l = 0) (List.map Job.lease (List.take n1 b.jobs))))),BF,BT,BT,BT,BT,BT,BT,BT,BT,BT,BT,BT,BT,BT,BT,BT,BT,BT,BT]<|J ⟨I,I,I,wO,I,I,I,wO,⟨UC,I,UU,UA,ac _ _ _⟩,I,I,⟨nO,I⟩,⟨nO,I⟩,⟨nO,I⟩,⟨nO,kO,fN⟩,nO,I,(by simp_all),(by simp_all),(by simp_all),(by simp_all),(by simp_all),(by simp_all),(by simp_all),I,rfl,rfl,rfl,rfl,rfl,rfl,rfl,rfl,rfl,rfl,rfl,I⟩<|W.cn<|J (fun _=>(g 207 208 []<|J UA (RT ?_))) (noF rfl)
     exact vbf (fc hup (lL hj1 (fun q=>(q.2 hz).once hB)))
    ·have hkm:¬Value.int IntKind.i64 j.lease∈lq b n1:=fun e=>hB ((zp hz).1 e)
     by_cases hC:1≤j.worker∧j.worker≤b.workers
     ·by_cases hD:b.now+1≤j.til∧j.til≤b.now+12
      ·by_cases hE:y = emp
       ·by_cases hF:ca b.results t.deps
        ·rw[decide_eq_true hF]at crd
         conv=>whnf
         refine g 0 0 []<|J UA<|W.sq<|W.cn<|J (fun _=>(W.skip (W.sq (W.blk (g 162 166 [.x (aW j)]<|J Zbs (W.sq (g 166 168 []<|J UC (W.cn<|J (noT dO) fun _=>(W.skip (W.sq ?_)))))))))) (noF (by simp_all))
         refine g 168 207 [.i ((b.epoch - 1) * 1000000+1),.i ((b.epoch - 1) * 1000000+b.given),.call (V.b (decide ((b.epoch - 1) * 1000000+1≤j.lease∧j.lease≤(b.epoch - 1) * 1000000+b.given))) [[],[],[]],BF,BF,BF,BF,.b (decide (j.lease∈List.map (fun l=>l) (List.filter (fun l=>decide ¬l = 0) (List.map Job.lease (List.take n1 b.jobs))))),BF,BF,BF,BF,BF,BF,.call (V.b (decide (1≤j.worker∧j.worker≤b.workers))) [[],[],[]],BF,BF,BF,BF,BF,BF,BF,.i (b.now+1),BF,BF,BF,.i (b.now+12),BF,.call (V.b (decide (b.now+1≤j.til∧j.til≤b.now+12))) [[],[],[]],BF,BF] ?_
         conv=>whnf
         refine J ⟨I,I,I,wO,I,I,I,wO,⟨UC,I,UU,UA,ac _ _ _⟩,I,I,⟨nO,I⟩,⟨nO,I⟩,⟨nO,I⟩,⟨nO,kO,fN⟩,nO,I,⟨(by simp_all),I⟩,⟨(by simp_all),I⟩,⟨(by simp_all),I⟩,⟨(by simp_all),I⟩,⟨(by simp_all),UC,I,UU,UA,ac _ _ _⟩,⟨(by simp_all),I⟩,(by simp_all),I,⟨nO,I⟩,⟨nO,I⟩,⟨nO,I⟩,⟨nO,I⟩,Zee,⟨nO,I⟩,⟨nO,I⟩,Zee,⟨nO,UC,I,UU,UA,ac _ _ _⟩,⟨nO,I⟩,nO,I⟩<|W.cn<|J (noT nO) fun _=>W.skip<|g 207 211 []<|J ⟨I,I,I,fN,I⟩<|gd 211 228 [[],[],[],[.x (ak y)],[],[],[],[BF],[BF],[BF],[BF],[BF],[BF,.x (aB t)],[BF],[BF],[BF,.call VT [[],[]]],[BF],[BF]] ?_
         conv=>whnf
         refine J Zb4<|J KR<|W.cn<|J (noT rfl) fun _=>W.skip<|rg [.i ((n1:Int) +1)]<|J Zdj ?_
         refine⟨n1+1,[some 2,some 3],[153],⟨rfl,⟨rfl,rfl,rfl,rfl,Zag,rfl,rfl,rfl,rfl,rfl,I⟩,⟨Zaa,Zdm⟩,⟨(congrArg some (ES hj1 hz)),I⟩⟩,?_,?_⟩
         rotate_left
         (dsimp only;omega)
         dsimp only
         exact⟨by omega,nu hc1 hj1 ⟨fun e=>absurd e hz,fun _=>⟨hA,hC,hD,by rw[oG hy0];exact hE,by rw[cF ht0];exact hF,hB⟩⟩⟩
        ·rw[decide_eq_false hF]at crd
         conv=>whnf
         refine g 0 0 []<|J UA<|W.sq<|W.cn<|J (fun _=>(W.skip (W.sq (W.blk (g 162 166 [.x (aW j)]<|J Zbs (W.sq (g 166 168 []<|J UC (W.cn<|J (noT dO) fun _=>(W.skip (W.sq ?_)))))))))) (noF (by simp_all))
         refine g 168 207 [.i ((b.epoch - 1) * 1000000+1),.i ((b.epoch - 1) * 1000000+b.given),.call (V.b (decide ((b.epoch - 1) * 1000000+1≤j.lease∧j.lease≤(b.epoch - 1) * 1000000+b.given))) [[],[],[]],BF,BF,BF,BF,.b (decide (j.lease∈List.map (fun l=>l) (List.filter (fun l=>decide ¬l = 0) (List.map Job.lease (List.take n1 b.jobs))))),BF,BF,BF,BF,BF,BF,.call (V.b (decide (1≤j.worker∧j.worker≤b.workers))) [[],[],[]],BF,BF,BF,BF,BF,BF,BF,.i (b.now+1),BF,BF,BF,.i (b.now+12),BF,.call (V.b (decide (b.now+1≤j.til∧j.til≤b.now+12))) [[],[],[]],BF,BF] ?_
         conv=>whnf
         refine J ⟨I,I,I,wO,I,I,I,wO,⟨UC,I,UU,UA,ac _ _ _⟩,I,I,⟨nO,I⟩,⟨nO,I⟩,⟨nO,I⟩,⟨nO,kO,fN⟩,nO,I,⟨(by simp_all),I⟩,⟨(by simp_all),I⟩,⟨(by simp_all),I⟩,⟨(by simp_all),I⟩,⟨(by simp_all),UC,I,UU,UA,ac _ _ _⟩,⟨(by simp_all),I⟩,(by simp_all),I,⟨nO,I⟩,⟨nO,I⟩,⟨nO,I⟩,⟨nO,I⟩,Zee,⟨nO,I⟩,⟨nO,I⟩,Zee,⟨nO,UC,I,UU,UA,ac _ _ _⟩,⟨nO,I⟩,nO,I⟩<|W.cn<|J (noT nO) fun _=>W.skip<|g 207 211 []<|J ⟨I,I,I,fN,I⟩<|gd 211 228 [[],[],[],[.x (ak y)],[],[],[],[BF],[BF],[BF],[BF],[BF],[BF,.x (aB t)],[BF],[BF],[BF,.call VF [[],[]]],[BF],[BF]] ?_
         conv=>whnf
         refine J Zb4<|J KR<|W.cn<|J (fun _=>(g 10 12 []<|J UA (RT ?_))) (noF rfl)
         exact vbf (fc hup (lL hj1 (fun q=>hF (by have:=(q.2 hz).ready;rw[cF ht0]at this;exact this))))
       ·conv=>whnf
        refine g 0 0 []<|J UA<|W.sq<|W.cn<|J (fun _=>(W.skip (W.sq (W.blk (g 162 166 [.x (aW j)]<|J Zbs (W.sq (g 166 168 []<|J UC (W.cn<|J (noT dO) fun _=>(W.skip (W.sq ?_)))))))))) (noF (by simp_all))
        refine g 168 207 [.i ((b.epoch - 1) * 1000000+1),.i ((b.epoch - 1) * 1000000+b.given),.call (V.b (decide ((b.epoch - 1) * 1000000+1≤j.lease∧j.lease≤(b.epoch - 1) * 1000000+b.given))) [[],[],[]],BF,BF,BF,BF,.b (decide (j.lease∈List.map (fun l=>l) (List.filter (fun l=>decide ¬l = 0) (List.map Job.lease (List.take n1 b.jobs))))),BF,BF,BF,BF,BF,BF,.call (V.b (decide (1≤j.worker∧j.worker≤b.workers))) [[],[],[]],BF,BF,BF,BF,BF,BF,BF,.i (b.now+1),BF,BF,BF,.i (b.now+12),BF,.call (V.b (decide (b.now+1≤j.til∧j.til≤b.now+12))) [[],[],[]],BF,BF] ?_
        conv=>whnf
        refine J ⟨I,I,I,wO,I,I,I,wO,⟨UC,I,UU,UA,ac _ _ _⟩,I,I,⟨nO,I⟩,⟨nO,I⟩,⟨nO,I⟩,⟨nO,kO,fN⟩,nO,I,⟨(by simp_all),I⟩,⟨(by simp_all),I⟩,⟨(by simp_all),I⟩,⟨(by simp_all),I⟩,⟨(by simp_all),UC,I,UU,UA,ac _ _ _⟩,⟨(by simp_all),I⟩,(by simp_all),I,⟨nO,I⟩,⟨nO,I⟩,⟨nO,I⟩,⟨nO,I⟩,Zee,⟨nO,I⟩,⟨nO,I⟩,Zee,⟨nO,UC,I,UU,UA,ac _ _ _⟩,⟨nO,I⟩,nO,I⟩<|W.cn<|J (noT nO) fun _=>W.skip<|g 207 211 []<|J ⟨I,I,I,fN,I⟩<|gd 211 228 [[],[],[],[.x (ak y)],[],[],[],[BT],[BT],[BT],[BT],[BT],[BT],[BT],[BT],[BT],[BT],[BT]] ?_
        conv=>whnf
        refine J ⟨I,I,I,Zdg,I,I,I,af OM,af OM,af OM,af OM,af OM,af OM,af OM,af OM,af OM,af OM,af OM,I⟩<|J KR<|W.cn<|J (fun _=>(g 10 12 []<|J UA (RT ?_))) (noF rfl)
        exact vbf (fc hup (lL hj1 (fun q=>hE (by have:=(q.2 hz).res;rw[oG hy0]at this;exact this))))
      ·conv=>whnf
       refine g 0 0 []<|J UA<|W.sq<|W.cn<|J (fun _=>(W.skip (W.sq (W.blk (g 162 166 [.x (aW j)]<|J Zbs (W.sq (g 166 168 []<|J UC (W.cn<|J (noT dO) fun _=>(W.skip (W.sq ?_)))))))))) (noF (by simp_all))
       refine g 168 207 [.i ((b.epoch - 1) * 1000000+1),.i ((b.epoch - 1) * 1000000+b.given),.call (V.b (decide ((b.epoch - 1) * 1000000+1≤j.lease∧j.lease≤(b.epoch - 1) * 1000000+b.given))) [[],[],[]],BF,BF,BF,BF,.b (decide (j.lease∈List.map (fun l=>l) (List.filter (fun l=>decide ¬l = 0) (List.map Job.lease (List.take n1 b.jobs))))),BF,BF,BF,BF,BF,BF,.call (V.b (decide (1≤j.worker∧j.worker≤b.workers))) [[],[],[]],BF,BF,BF,BF,BF,BF,BF,.i (b.now+1),BF,BF,BF,.i (b.now+12),BF,.call (V.b (decide (b.now+1≤j.til∧j.til≤b.now+12))) [[],[],[]],BF,BF] ?_
       conv=>whnf
       refine J ⟨I,I,I,wO,I,I,I,wO,⟨UC,I,UU,UA,ac _ _ _⟩,I,I,⟨nO,I⟩,⟨nO,I⟩,⟨nO,I⟩,⟨nO,kO,fN⟩,nO,I,⟨(by simp_all),I⟩,⟨(by simp_all),I⟩,⟨(by simp_all),I⟩,⟨(by simp_all),I⟩,⟨(by simp_all),UC,I,UU,UA,ac _ _ _⟩,⟨(by simp_all),I⟩,(by simp_all),I,⟨nO,I⟩,⟨nO,I⟩,⟨nO,I⟩,⟨nO,I⟩,Zee,⟨nO,I⟩,⟨nO,I⟩,Zee,⟨nO,UC,I,UU,UA,ac _ _ _⟩,⟨nO,I⟩,nO,I⟩<|W.cn<|J (fun _=>(g 207 208 []<|J UA (RT ?_))) (noF (af OM))
       exact vbf (fc hup (lL hj1 (fun q=>hD (q.2 hz).til)))
     ·conv=>whnf
      refine g 0 0 []<|J UA<|W.sq<|W.cn<|J (fun _=>(W.skip (W.sq (W.blk (g 162 166 [.x (aW j)]<|J Zbs (W.sq (g 166 168 []<|J UC (W.cn<|J (noT dO) fun _=>(W.skip (W.sq ?_)))))))))) (noF (by simp_all))
      refine g 168 207 [.i ((b.epoch - 1) * 1000000+1),.i ((b.epoch - 1) * 1000000+b.given),.call (V.b (decide ((b.epoch - 1) * 1000000+1≤j.lease∧j.lease≤(b.epoch - 1) * 1000000+b.given))) [[],[],[]],BF,BF,BF,BF,.b (decide (j.lease∈List.map (fun l=>l) (List.filter (fun l=>decide ¬l = 0) (List.map Job.lease (List.take n1 b.jobs))))),BF,BF,BF,BF,BF,BF,.call (V.b (decide (1≤j.worker∧j.worker≤b.workers))) [[],[],[]],BF,BF,BT,BT,BT,BT,BT,BT,BT,BT,BT,BT,BT] ?_
      conv=>whnf
      refine J ⟨I,I,I,wO,I,I,I,wO,⟨UC,I,UU,UA,ac _ _ _⟩,I,I,⟨nO,I⟩,⟨nO,I⟩,⟨nO,I⟩,⟨nO,kO,fN⟩,nO,I,⟨(by simp_all),I⟩,⟨(by simp_all),I⟩,⟨(by simp_all),I⟩,⟨(by simp_all),I⟩,⟨(by simp_all),UC,I,UU,UA,ac _ _ _⟩,⟨(by simp_all),I⟩,(by simp_all),I,af OM,af OM,af OM,af OM,af OM,af OM,af OM,af OM,af OM,af OM,af OM,I⟩<|W.cn<|J (fun _=>(g 207 208 []<|J UA (RT ?_))) (noF rfl)
      exact vbf (fc hup (lL hj1 (fun q=>hC (q.2 hz).worker)))
   ·conv=>whnf
    refine g 0 0 []<|J UA<|W.sq<|W.cn<|J (fun _=>(W.skip (W.sq (W.blk (g 162 166 [.x (aW j)]<|J Zbs (W.sq (g 166 168 []<|J UC (W.cn<|J (noT dO) fun _=>(W.skip (W.sq ?_)))))))))) (noF (by simp_all))
    refine g 168 207 [.i ((b.epoch - 1) * 1000000+1),.i ((b.epoch - 1) * 1000000+b.given),.call (V.b (decide ((b.epoch - 1) * 1000000+1≤j.lease∧j.lease≤(b.epoch - 1) * 1000000+b.given))) [[],[],[]],BT,BT,BT,BT,BT,BT,BT,BT,BT,BT,BT,BT,BT,BT,BT,BT,BT,BT,BT,BT,BT,BT,BT]<|J ⟨I,I,I,wO,I,I,I,wO,⟨UC,I,UU,UA,ac _ _ _⟩,I,I,af OM,af OM,af OM,af OM,af OM,I,rfl,rfl,rfl,rfl,rfl,rfl,rfl,I,rfl,rfl,rfl,rfl,rfl,rfl,rfl,rfl,rfl,rfl,rfl,I⟩<|W.cn<|J (fun _=>(g 207 208 []<|J UA (RT ?_))) (noF rfl)
    exact vbf (fc hup (lL hj1 (fun q=>hA (q.2 hz).lease)))
 have hjobs:ge b p.tasks b.jobs.length:=by rw[show b.jobs.length = n1 by omega];exact hc1
 conv=>whnf
 refine g 0 0 []<|J UA<|W.sq<|W.cn<|J (noT (by simp_all)) fun _=>W.exit<|W.sq<|g 24 231 []<|J UD<|W.blk<|W.lp (fun s (n:Nat)=>⟨[(2,s.s 2),(3,s.s 3),(22,s.s 22),(231,s.s 231),(232,s.s 232),(233,.i n)],[(2,[s.c 2 0,s.c 2 1,s.c 2 2,s.c 2 3,s.c 2 4,s.c 2 5,s.c 2 6,s.c 2 7,s.c 2 8,s.c 2 9,s.c 2 10,s.c 2 11]),(3,[s.c 3 0])],[]⟩) (fun(n:Nat)=>n≤b.seats.length∧∀ s∈b.seats.take n,0≤s.epoch∧s.epoch≤300) (fun(n:Nat)=>b.seats.length - n) (0) [some 2,some 3] [] Zek (by simp) ?_
 rintro n2 ⟨hn2,hc2⟩
 by_cases hs2:n2 < b.seats.length
 ·obtain⟨s,hs1⟩:=aj hs2
  by_cases hA:0≤s.epoch∧s.epoch≤300
  ·conv=>whnf
   refine g 0 0 []<|J UA<|W.sq<|W.cn<|J (fun h14=>?_) fun h14=>?_
   replace h14:=dt h14
   simp only[LM]at h14
   refine W.skip<|W.sq<|W.blk<|g 234 237 [.x (aS s)]<|J ⟨Zdg,I,I,UB,I⟩<|g 237 240 [.call (V.b (decide (0≤s.epoch∧s.epoch≤300))) [[],[],[]]]<|J ⟨I,I,⟨UC,I,UU,UA,ac _ _ _⟩,I,I⟩<|W.cn<|J (noT nO) fun _=>W.skip<|rg [.i ((n2:Int) +1)]<|J Zdj ?_
   rotate_left
   replace h14:=df h14
   simp only[LM]at h14
   omega
   refine⟨n2+1,[some 2,some 3],[],Zek,?_,?_⟩
   rotate_left
   (dsimp only;omega)
   dsimp only
   exact⟨by omega,dx hc2 hs1 hA⟩
  ·conv=>whnf
   refine g 0 0 []<|J UA<|W.sq<|W.cn<|J (fun h14=>?_) fun h14=>?_
   replace h14:=dt h14
   simp only[LM]at h14
   refine W.skip<|W.sq<|W.blk<|g 234 237 [.x (aS s)]<|J ⟨Zdg,I,I,UB,I⟩<|g 237 240 [.call (V.b (decide (0≤s.epoch∧s.epoch≤300))) [[],[],[]]]<|J ⟨I,I,⟨UC,I,UU,UA,ac _ _ _⟩,I,I⟩<|W.cn<|J (fun _=>(g 13 14 []<|J UA (RT ?_))) (noF (af OM))
   rotate_left
   replace h14:=df h14
   simp only[LM]at h14
   omega
   exact vbf (fc hup (C5 hs1 hA))
 have hseats:∀ s∈b.seats,0≤s.epoch∧s.epoch≤300:=by rw[bC OM]at hc2;exact hc2
 conv=>whnf
 refine g 0 0 []<|J UA<|W.sq<|W.cn<|J (fun h14=>?_) fun h14=>?_
 replace h14:=dt h14
 simp only[LM]at h14
 omega
 replace h14:=df h14
 simp only[LM]at h14
 refine W.exit<|W.sq<|g 231 243 []<|J UD<|W.blk<|W.lp (fun s (n:Nat)=>⟨[(2,s.s 2),(3,s.s 3),(22,s.s 22),(243,s.s 243),(244,s.s 244),(245,.i n)],[(2,[s.c 2 0,s.c 2 1,s.c 2 2,s.c 2 3,s.c 2 4,s.c 2 5,s.c 2 6,s.c 2 7,s.c 2 8,s.c 2 9,s.c 2 10,s.c 2 11]),(3,[s.c 3 0])],[]⟩) (fun(n:Nat)=>n≤b.owed.length∧∀ o∈b.owed.take n,OwedOk b p.tasks o) (fun(n:Nat)=>b.owed.length - n) (0) [some 2,some 3] [] Zek (by simp) ?_
 rintro n3 ⟨hn3,hc3⟩
 by_cases ho2:n3 < b.owed.length
 ·obtain⟨o,ho1⟩:=aj ho2
  by_cases hA:1≤o.worker∧o.worker≤b.workers
  ·by_cases hB:1≤o.lease∧o.lease≤300000000
   ·by_cases hC:0≤o.task∧o.task≤(p.tasks.length:Int) - 1
    ·obtain⟨y,hy0⟩:=aj (xs:=b.results) (n:=o.task.toNat) OM
     by_cases hD:y = emp
     ·conv=>whnf
      refine g 0 0 []<|J UA<|W.sq<|W.cn<|J (fun _=>(W.skip (W.sq (W.blk (g 246 249 [.x (bi o)]<|J Zck (g 249 279 [.call (V.b (decide (1≤o.worker∧o.worker≤b.workers))) [[],[],[]],BF,BF,BF,.call (V.b (decide (1≤o.lease∧o.lease≤300000000))) [[],[],[]],BF,BF,BF,BF,BF,BF,BF,BF,.i ((↑(List.length (List.map aB p.tasks)):Int) - 1),BF,.call (V.b (decide (0≤o.task∧o.task≤(↑(List.length (List.map aB p.tasks)):Int) - 1))) [[],[],[]],BF,BF,BF,BF,BF,BF,BF,.x (ak y),BF,BF,BF]<|J ⟨I,I,I,I,⟨UC,I,UU,UA,ac _ _ _⟩,I,I,⟨nO,I⟩,⟨nO,I⟩,⟨nO,UC,I,UU,UA,ac _ _ _⟩,⟨nO,I⟩,nO,I,⟨nO,I⟩,⟨nO,I⟩,⟨nO,I⟩,⟨nO,I⟩,⟨nO,I⟩,⟨nO,w64 LN LN⟩,⟨nO,UC,I,UU,UA,ac _ _ _⟩,⟨nO,I⟩,nO,I,⟨SI,I⟩,⟨SI,I⟩,⟨SI,I⟩,⟨SI,I⟩,⟨SI,OM,xA⟩,⟨SI,I⟩,⟨SI,I⟩,SI,I⟩ (W.cn<|J (fun _=>(g 15 16 []<|J UA (RT ?_))) (noF tO)))))))) (noF SI)
      exact vbf (fc hup (jO ho1 (fun q=>q.res (by rw[kc hy0];exact hD))))
     ·conv=>whnf
      refine g 0 0 []<|J UA<|W.sq<|W.cn<|J (fun _=>(W.skip (W.sq (W.blk (g 246 249 [.x (bi o)]<|J Zck (g 249 279 [.call (V.b (decide (1≤o.worker∧o.worker≤b.workers))) [[],[],[]],BF,BF,BF,.call (V.b (decide (1≤o.lease∧o.lease≤300000000))) [[],[],[]],BF,BF,BF,BF,BF,BF,BF,BF,.i ((↑(List.length (List.map aB p.tasks)):Int) - 1),BF,.call (V.b (decide (0≤o.task∧o.task≤(↑(List.length (List.map aB p.tasks)):Int) - 1))) [[],[],[]],BF,BF,BF,BF,BF,BF,BF,.x (ak y),BF,BF,BF]<|J ⟨I,I,I,I,⟨UC,I,UU,UA,ac _ _ _⟩,I,I,⟨nO,I⟩,⟨nO,I⟩,⟨nO,UC,I,UU,UA,ac _ _ _⟩,⟨nO,I⟩,nO,I,⟨nO,I⟩,⟨nO,I⟩,⟨nO,I⟩,⟨nO,I⟩,⟨nO,I⟩,⟨nO,w64 LN LN⟩,⟨nO,UC,I,UU,UA,ac _ _ _⟩,⟨nO,I⟩,nO,I,⟨SI,I⟩,⟨SI,I⟩,⟨SI,I⟩,⟨SI,I⟩,⟨SI,OM,xA⟩,⟨SI,I⟩,⟨SI,I⟩,SI,I⟩ (W.cn<|J (noT dO) fun _=>(W.skip (rg [.i ((n3:Int) +1)]<|J Zdj ?_))))))))) (noF SI)
      refine⟨n3+1,[some 2,some 3],[],Zek,?_,?_⟩
      rotate_left
      (dsimp only;omega)
      dsimp only
      exact⟨by omega,dx hc3 ho1 ⟨hA,hB,hC,by rw[kc hy0];exact hD⟩⟩
    ·conv=>whnf
     refine g 0 0 []<|J UA<|W.sq<|W.cn<|J (fun _=>(W.skip (W.sq (W.blk (g 246 249 [.x (bi o)]<|J Zck (g 249 279 [.call (V.b (decide (1≤o.worker∧o.worker≤b.workers))) [[],[],[]],BF,BF,BF,.call (V.b (decide (1≤o.lease∧o.lease≤300000000))) [[],[],[]],BF,BF,BF,BF,BF,BF,BF,BF,.i ((↑(List.length (List.map aB p.tasks)):Int) - 1),BF,.call (V.b (decide (0≤o.task∧o.task≤(↑(List.length (List.map aB p.tasks)):Int) - 1))) [[],[],[]],BF,BF,BT,BT,BT,BT,BT,BT,BT,BT]<|J ⟨I,I,I,I,⟨UC,I,UU,UA,ac _ _ _⟩,I,I,⟨nO,I⟩,⟨nO,I⟩,⟨nO,UC,I,UU,UA,ac _ _ _⟩,⟨nO,I⟩,nO,I,⟨nO,I⟩,⟨nO,I⟩,⟨nO,I⟩,⟨nO,I⟩,⟨nO,I⟩,⟨nO,w64 LN LN⟩,⟨nO,UC,I,UU,UA,ac _ _ _⟩,⟨nO,I⟩,nO,I,SI,SI,SI,SI,SI,SI,SI,SI,I⟩ (W.cn<|J (fun _=>(g 15 16 []<|J UA (RT ?_))) (noF rfl)))))))) (noF SI)
     exact vbf (fc hup (jO ho1 (fun q=>hC q.task)))
   ·conv=>whnf
    refine g 0 0 []<|J UA<|W.sq<|W.cn<|J (fun _=>(W.skip (W.sq (W.blk (g 246 249 [.x (bi o)]<|J Zck (g 249 279 [.call (V.b (decide (1≤o.worker∧o.worker≤b.workers))) [[],[],[]],BF,BF,BF,.call (V.b (decide (1≤o.lease∧o.lease≤300000000))) [[],[],[]],BF,BF,BT,BT,BT,BT,BT,BT,BT,BT,BT,BT,BT,BT,BT,BT,BT,BT,BT]<|J ⟨I,I,I,I,⟨UC,I,UU,UA,ac _ _ _⟩,I,I,⟨nO,I⟩,⟨nO,I⟩,⟨nO,UC,I,UU,UA,ac _ _ _⟩,⟨nO,I⟩,nO,I,af OM,af OM,af OM,af OM,af OM,af OM,af OM,af OM,af OM,I,rfl,rfl,rfl,rfl,rfl,rfl,rfl,rfl,I⟩ (W.cn<|J (fun _=>(g 15 16 []<|J UA (RT ?_))) (noF rfl)))))))) (noF SI)
    exact vbf (fc hup (jO ho1 (fun q=>hB q.lease)))
  ·conv=>whnf
   refine g 0 0 []<|J UA<|W.sq<|W.cn<|J (fun _=>(W.skip (W.sq (W.blk (g 246 249 [.x (bi o)]<|J Zck (g 249 279 [.call (V.b (decide (1≤o.worker∧o.worker≤b.workers))) [[],[],[]],BT,BT,BT,BT,BT,BT,BT,BT,BT,BT,BT,BT,BT,BT,BT,BT,BT,BT,BT,BT,BT,BT]<|J ⟨I,I,I,I,⟨UC,I,UU,UA,ac _ _ _⟩,I,I,af OM,af OM,af OM,af OM,af OM,I,rfl,rfl,rfl,rfl,rfl,rfl,rfl,rfl,rfl,I,rfl,rfl,rfl,rfl,rfl,rfl,rfl,rfl,I⟩ (W.cn<|J (fun _=>(g 15 16 []<|J UA (RT ?_))) (noF rfl)))))))) (noF SI)
   exact vbf (fc hup (jO ho1 (fun q=>hA q.worker)))
 have howed:∀ o∈b.owed,OwedOk b p.tasks o:=by rw[bC OM]at hc3;exact hc3
 conv=>whnf
 refine g 0 0 []<|J UA<|W.sq<|W.cn<|J (noT SI) fun _=>W.exit<|g 22 247 []<|J UA<|RT ?_
 exact vbt ⟨hc0,f6,f7,hk,fun _=>⟨f1,f2,f3,f4,f5,g1,g2,g3,g4,hjobs,hseats,howed⟩,fun e=>by rw[hup]at e;cases e⟩
end Go.K
end
section
open Go Go.Tm Go.Proofs
namespace Go.K
theorem HS{b:Boss}{k:Nat}{j2:Job}{l:Int}(hc:l ∉ (b.jobs.take k).map Job.lease)(h:b.jobs[k]? = some j2)(hn:¬j2.lease = l):l ∉ (b.jobs.take (k+1)).map Job.lease:=fun e=>by
 rw[List.take_add_one,h,List.map_append]at e
 rcases List.mem_append.1 e with e|e
 ·exact hc e
 ·simp at e;exact hn e.symm
theorem NE{b:Boss}{k n:Nat}{j2:Job}{l:Int}(hk:k < n)(h:b.jobs[k]? = some j2)(hn:j2.lease = l):l∈(b.jobs.take n).map Job.lease :=
 List.mem_map.2 ⟨j2,List.mem_of_getElem? (i:=k) (by rw[List.getElem?_take,if_pos hk];exact h),hn⟩
theorem iT{b:Boss}{ts:List Task}{n:Nat}{j:Job}(hj:b.jobs[n]? = some j)(h:¬Bt b ts n j):¬ge b ts b.jobs.length:=fun q=>h (q n j (List.getElem?_eq_some_iff.1 hj).1 hj)
noncomputable instance (b:Boss) (ts:List Task) (n:Nat):Decidable (ge b ts n):=Classical.propDecidable _
theorem um(b:Boss)(p:Plan)(hc0:ai p.tasks = 0)(f1:1≤b.epoch)(f2:b.epoch≤300)(f3:b.results.length = p.tasks.length)(f4:b.jobs.length = p.tasks.length)(f7:0≤b.now∧b.now≤1000000)(f8:0≤b.given∧b.given≤1000000):F tV [.val (gm b),.val (cB p)] (.b (decide (ge b p.tasks b.jobs.length))) [[],[]]:=by
 have hpl:=(bM hc0).1
 refine ui ?_
 conv=>whnf
 refine g 0 2 []<|J Zcc<|g 11 13 [.i (b.epoch - 1),.i ((b.epoch - 1) * 1000000)]<|J ⟨I,I,wO,wO,I,I⟩<|W.sq<|g 9 10 []<|J UA<|W.blk ?_
 refine W.lp (fun s (n:Nat)=>⟨[(2,s.s 2),(3,s.s 3),(5,s.s 5),(6,.i n),(10,s.s 10)],[(2,[s.c 2 0,s.c 2 1,s.c 2 2,s.c 2 3,s.c 2 4,s.c 2 5,s.c 2 6,s.c 2 7,s.c 2 8,s.c 2 9,s.c 2 10,s.c 2 11]),(3,[s.c 3 0])],[]⟩) (fun(n:Nat)=>n≤b.jobs.length∧ge b p.tasks n) (fun(n:Nat)=>b.jobs.length - n) (0) [some 2,some 3] [] ⟨rfl,⟨rfl,rfl,rfl,rfl,rfl,I⟩,⟨⟨rfl,⟨rfl,⟨rfl,⟨rfl,⟨rfl,⟨rfl,⟨rfl,⟨rfl,⟨rfl,⟨rfl,⟨rfl,⟨rfl,⟨rfl,I⟩⟩⟩⟩⟩⟩⟩⟩⟩⟩⟩⟩⟩,⟨⟨rfl,⟨rfl,I⟩⟩,I⟩⟩,I⟩ ?_ ?_
 ·exact⟨Nat.zero_le _,fun m j hm=>by omega⟩
 rintro n1 ⟨hn1,hc1⟩
 by_cases hj2:n1 < b.jobs.length
 ·obtain⟨j,hj1⟩:=aj hj2
  obtain⟨y,hy0⟩:=aj (xs:=b.results) (n:=n1) OM
  obtain⟨t,ht0⟩:=aj (xs:=p.tasks) (n:=n1) OM
  obtain⟨_,_,a3,a4⟩:=bv hc0 ht0
  have crd:=gj p b.results (n1:Int) (t:=t) OM (by rw[Int.toNat_natCast];exact ht0) (fun d hd=>by have:=a4 d hd;omega) OM
  by_cases hz:j.lease = 0
  ·by_cases hz2:j.worker = 0∧j.til = 0
   ·have hjo:Bt b p.tasks n1 j:=⟨fun _=>hz2,fun e=>absurd hz e⟩
    obtain⟨hz3,hz4⟩:=hz2
    conv=>whnf
    refine W.sq<|g 13 17 []<|J UE<|W.cn<|J (fun _=>(W.skip (W.sq (W.blk (g 17 25 [.x (aW j)]<|J Zbf (W.sq (g 25 27 []<|J UC (W.cn<|J (fun _=>(W.sq (g 31 35 [BF,BF,BF,BF]<|J ⟨I,I,I,I,⟨nO,I⟩,⟨nO,I⟩,⟨nO,I⟩,nO,I⟩ ?_))) (noF tO))))))))) (noF (by simp_all))
    refine W.cn<|J (noT nO) fun _=>W.skip<|W.exit<|rg [.i ((n1:Int) +1)]<|J Zdc ?_
    refine⟨n1+1,[some 2,some 3],[],⟨rfl,Za8,⟨Zaa,Zdm⟩,I⟩,?_,?_⟩
    rotate_left
    (dsimp only;omega)
    dsimp only
    exact⟨by omega,nu hc1 hj1 hjo⟩
   ·conv=>whnf
    refine W.sq<|g 13 17 []<|J UE<|W.cn<|J (fun _=>(W.skip (W.sq (W.blk (g 17 25 [.x (aW j)]<|J Zbf (W.sq (g 25 27 []<|J UC (W.cn<|J (fun _=>(W.sq ?_)) (noF tO))))))))) (noF (by simp_all))
    by_cases h1:Job.worker j = (0:Int)
    refine g 31 35 [BF,BF,BF,BF]<|J ⟨I,I,I,I,⟨nO,I⟩,⟨nO,I⟩,⟨nO,I⟩,nO,I⟩<|W.cn<|J (fun _=>(g 27 30 []<|J UA (RT ?_))) (noF (af OM))
    rotate_left
    refine g 31 35 [BT,BT,BT,BT]<|J ⟨I,I,I,I,af OM,af OM,af OM,af OM,I⟩<|W.cn<|J (fun _=>(g 27 30 []<|J UA (RT ?_))) (noF rfl)
    rotate_left
    all_goals exact vbf (iT hj1 (fun q=>by have:=q.1 hz;omega))
  ·by_cases hA:(b.epoch - 1) * 1000000+1≤j.lease∧j.lease≤(b.epoch - 1) * 1000000+b.given
   ·by_cases hC:1≤j.worker∧j.worker≤b.workers
    ·by_cases hD:b.now+1≤j.til∧j.til≤b.now+12
     ·by_cases hE:y = emp
      ·by_cases hF:ca b.results t.deps
       ·rw[decide_eq_true hF]at crd
        conv=>whnf
        refine W.sq<|g 13 17 []<|J UE<|W.cn<|J (fun _=>(W.skip (W.sq (W.blk (g 17 25 [.x (aW j)]<|J Zbf (W.sq (g 25 27 []<|J UC (W.cn<|J (noT dO) fun _=>(W.skip (W.sq ?_)))))))))) (noF (by simp_all))
        refine g 27 81 [.i ((b.epoch - 1) * 1000000+1),.i ((b.epoch - 1) * 1000000+b.given),.call (V.b (decide ((b.epoch - 1) * 1000000+1≤j.lease∧j.lease≤(b.epoch - 1) * 1000000+b.given))) [[],[],[]],BF,BF,BF,BF,BF,.call (V.b (decide (1≤j.worker∧j.worker≤b.workers))) [[],[],[]],BF,BF,BF,BF,BF,BF,BF,.i (b.now+1),BF,BF,BF,.i (b.now+12),BF,.call (V.b (decide (b.now+1≤j.til∧j.til≤b.now+12))) [[],[],[]],BF,BF,BF,BF,BF,BF,.x (ak y),BF,BF,BF,BF,BF,BF,BF,BF,.call VT [[],[],[]],BF,BF] ?_
        conv=>whnf
        refine J ⟨I,I,I,wO,I,I,I,wO,⟨UC,I,UU,UA,ag _ _ _⟩,I,I,⟨nO,I⟩,⟨nO,I⟩,⟨nO,I⟩,⟨nO,I⟩,⟨nO,UC,I,UU,UA,ag _ _ _⟩,⟨nO,I⟩,nO,I,⟨nO,I⟩,⟨nO,I⟩,⟨nO,I⟩,⟨nO,I⟩,Zee,⟨nO,I⟩,⟨nO,I⟩,Zee,⟨nO,UC,I,UU,UA,ag _ _ _⟩,⟨nO,I⟩,nO,I,⟨nO,I⟩,⟨nO,I⟩,⟨nO,I⟩,⟨nO,OM,xA⟩,⟨nO,I⟩,⟨nO,I⟩,nO,I,⟨nO,I⟩,⟨nO,I⟩,⟨nO,I⟩,⟨nO,I⟩,⟨nO,UC,I,UU,UA,AS⟩,⟨nO,I⟩,nO,I⟩<|W.cn<|J (noT rfl) fun _=>W.skip<|g 81 82 []<|J UA<|W.blk<|W.lp (fun s (k:Nat)=>⟨[(2,s.s 2),(3,s.s 3),(5,s.s 5),(6,s.s 6),(7,s.s 7),(8,.i k),(10,s.s 10)],[(2,[s.c 2 0,s.c 2 1,s.c 2 2,s.c 2 3,s.c 2 4,s.c 2 5,s.c 2 6,s.c 2 7,s.c 2 8,s.c 2 9,s.c 2 10,s.c 2 11]),(3,[s.c 3 0]),(7,[s.c 7 0,s.c 7 1,s.c 7 2])],[]⟩) (fun(k:Nat)=>k≤n1∧j.lease ∉ (b.jobs.take k).map Job.lease) (fun(k:Nat)=>n1 - k) (0) [some 2,some 3,some 7] [] Zd5 (by simp) ?_
        rintro k ⟨hk,hB⟩
        by_cases hk2:k < n1
        ·obtain⟨j2,hj3⟩:=aj (xs:=b.jobs) (n:=k) OM
         by_cases hq:j2.lease = j.lease
         ·conv=>whnf
          refine W.sq<|g 82 84 []<|J UC<|W.cn<|J (fun _=>(W.skip (W.sq (W.blk (gd 84 95 [[],[],[],[.x (aW j2)],[],[],[],[],[]] ?_))))) (noF tO)
          conv=>whnf
          refine⟨⟨I,I,I,Zdg,I,I,I,I,I,I⟩,by kernel_rfl,?_⟩
          refine W.cn<|J (fun _=>(g 95 96 []<|J UA (RT ?_))) (noF tO)
          exact vbf (iT hj1 (fun q=>(q.2 hz).once (NE hk2 hj3 hq)))
         ·conv=>whnf
          refine W.sq<|g 82 84 []<|J UC<|W.cn<|J (fun _=>(W.skip (W.sq (W.blk (gd 84 95 [[],[],[],[.x (aW j2)],[],[],[],[],[]] ?_))))) (noF tO)
          conv=>whnf
          refine⟨⟨I,I,I,Zdg,I,I,I,I,I,I⟩,by kernel_rfl,?_⟩
          refine W.cn<|J (noT dO) fun _=>W.skip<|rg [.i ((k:Int) +1)]<|J Zdc ?_
          refine⟨k+1,[some 2,some 3,some 7],[],Zd5,?_,?_⟩
          rotate_left
          (dsimp only;omega)
          dsimp only
          exact⟨by omega,HS hB hj3 hq⟩
        ·rw[show k = n1 by omega]at hB
         conv=>whnf
         refine W.sq<|g 82 84 []<|J UC<|W.cn<|J (noT dO) fun _=>W.exit<|rg [.i ((n1:Int) +1)]<|J Zdc ?_
         refine⟨n1+1,[some 2,some 3],[],⟨rfl,Za8,⟨Zaa,Zdm⟩,I⟩,?_,?_⟩
         rotate_left
         (dsimp only;omega)
         dsimp only
         exact⟨by omega,nu hc1 hj1 ⟨fun e=>absurd e hz,fun _=>⟨hA,hC,hD,by rw[oG hy0];exact hE,by rw[cF ht0];exact hF,hB⟩⟩⟩
       ·rw[decide_eq_false hF]at crd
        conv=>whnf
        refine W.sq<|g 13 17 []<|J UE<|W.cn<|J (fun _=>(W.skip (W.sq (W.blk (g 17 25 [.x (aW j)]<|J Zbf (W.sq (g 25 27 []<|J UC (W.cn<|J (noT dO) fun _=>(W.skip (W.sq ?_)))))))))) (noF (by simp_all))
        refine g 27 81 [.i ((b.epoch - 1) * 1000000+1),.i ((b.epoch - 1) * 1000000+b.given),.call (V.b (decide ((b.epoch - 1) * 1000000+1≤j.lease∧j.lease≤(b.epoch - 1) * 1000000+b.given))) [[],[],[]],BF,BF,BF,BF,BF,.call (V.b (decide (1≤j.worker∧j.worker≤b.workers))) [[],[],[]],BF,BF,BF,BF,BF,BF,BF,.i (b.now+1),BF,BF,BF,.i (b.now+12),BF,.call (V.b (decide (b.now+1≤j.til∧j.til≤b.now+12))) [[],[],[]],BF,BF,BF,BF,BF,BF,.x (ak y),BF,BF,BF,BF,BF,BF,BF,BF,.call VF [[],[],[]],BF,BF] ?_
        conv=>whnf
        refine J ⟨I,I,I,wO,I,I,I,wO,⟨UC,I,UU,UA,ag _ _ _⟩,I,I,⟨nO,I⟩,⟨nO,I⟩,⟨nO,I⟩,⟨nO,I⟩,⟨nO,UC,I,UU,UA,ag _ _ _⟩,⟨nO,I⟩,nO,I,⟨nO,I⟩,⟨nO,I⟩,⟨nO,I⟩,⟨nO,I⟩,Zee,⟨nO,I⟩,⟨nO,I⟩,Zee,⟨nO,UC,I,UU,UA,ag _ _ _⟩,⟨nO,I⟩,nO,I,⟨nO,I⟩,⟨nO,I⟩,⟨nO,I⟩,⟨nO,OM,xA⟩,⟨nO,I⟩,⟨nO,I⟩,nO,I,⟨nO,I⟩,⟨nO,I⟩,⟨nO,I⟩,⟨nO,I⟩,⟨nO,UC,I,UU,UA,AS⟩,⟨nO,I⟩,nO,I⟩<|W.cn<|J (fun _=>(g 81 82 []<|J UA (RT ?_))) (noF rfl)
        exact vbf (iT hj1 (fun q=>hF (by have:=(q.2 hz).ready;rw[cF ht0]at this;exact this)))
      ·conv=>whnf
       refine W.sq<|g 13 17 []<|J UE<|W.cn<|J (fun _=>(W.skip (W.sq (W.blk (g 17 25 [.x (aW j)]<|J Zbf (W.sq (g 25 27 []<|J UC (W.cn<|J (noT dO) fun _=>(W.skip (W.sq ?_)))))))))) (noF (by simp_all))
       refine g 27 81 [.i ((b.epoch - 1) * 1000000+1),.i ((b.epoch - 1) * 1000000+b.given),.call (V.b (decide ((b.epoch - 1) * 1000000+1≤j.lease∧j.lease≤(b.epoch - 1) * 1000000+b.given))) [[],[],[]],BF,BF,BF,BF,BF,.call (V.b (decide (1≤j.worker∧j.worker≤b.workers))) [[],[],[]],BF,BF,BF,BF,BF,BF,BF,.i (b.now+1),BF,BF,BF,.i (b.now+12),BF,.call (V.b (decide (b.now+1≤j.til∧j.til≤b.now+12))) [[],[],[]],BF,BF,BF,BF,BF,BF,.x (ak y),BF,BF,BF,BT,BT,BT,BT,BT,BT,BT] ?_
       conv=>whnf
       refine J ⟨I,I,I,wO,I,I,I,wO,⟨UC,I,UU,UA,ag _ _ _⟩,I,I,⟨nO,I⟩,⟨nO,I⟩,⟨nO,I⟩,⟨nO,I⟩,⟨nO,UC,I,UU,UA,ag _ _ _⟩,⟨nO,I⟩,nO,I,⟨nO,I⟩,⟨nO,I⟩,⟨nO,I⟩,⟨nO,I⟩,Zee,⟨nO,I⟩,⟨nO,I⟩,Zee,⟨nO,UC,I,UU,UA,ag _ _ _⟩,⟨nO,I⟩,nO,I,⟨nO,I⟩,⟨nO,I⟩,⟨nO,I⟩,⟨nO,OM,xA⟩,⟨nO,I⟩,⟨nO,I⟩,nO,I,af OM,af OM,af OM,af OM,af OM,af OM,af OM,I⟩<|W.cn<|J (fun _=>(g 81 82 []<|J UA (RT ?_))) (noF rfl)
       exact vbf (iT hj1 (fun q=>hE (by have:=(q.2 hz).res;rw[oG hy0]at this;exact this)))
     ·conv=>whnf
      refine W.sq<|g 13 17 []<|J UE<|W.cn<|J (fun _=>(W.skip (W.sq (W.blk (g 17 25 [.x (aW j)]<|J Zbf (W.sq (g 25 27 []<|J UC (W.cn<|J (noT dO) fun _=>(W.skip (W.sq ?_)))))))))) (noF (by simp_all))
      refine g 27 81 [.i ((b.epoch - 1) * 1000000+1),.i ((b.epoch - 1) * 1000000+b.given),.call (V.b (decide ((b.epoch - 1) * 1000000+1≤j.lease∧j.lease≤(b.epoch - 1) * 1000000+b.given))) [[],[],[]],BF,BF,BF,BF,BF,.call (V.b (decide (1≤j.worker∧j.worker≤b.workers))) [[],[],[]],BF,BF,BF,BF,BF,BF,BF,.i (b.now+1),BF,BF,BF,.i (b.now+12),BF,.call (V.b (decide (b.now+1≤j.til∧j.til≤b.now+12))) [[],[],[]],BF,BF,BT,BT,BT,BT,BT,BT,BT,BT,BT,BT,BT,BT,BT,BT] ?_
      conv=>whnf
      refine J ⟨I,I,I,wO,I,I,I,wO,⟨UC,I,UU,UA,ag _ _ _⟩,I,I,⟨nO,I⟩,⟨nO,I⟩,⟨nO,I⟩,⟨nO,I⟩,⟨nO,UC,I,UU,UA,ag _ _ _⟩,⟨nO,I⟩,nO,I,⟨nO,I⟩,⟨nO,I⟩,⟨nO,I⟩,⟨nO,I⟩,Zee,⟨nO,I⟩,⟨nO,I⟩,Zee,⟨nO,UC,I,UU,UA,ag _ _ _⟩,⟨nO,I⟩,nO,I,af OM,af OM,af OM,af OM,af OM,af OM,af OM,I,rfl,rfl,rfl,rfl,rfl,rfl,rfl,I⟩<|W.cn<|J (fun _=>(g 81 82 []<|J UA (RT ?_))) (noF rfl)
      exact vbf (iT hj1 (fun q=>hD (q.2 hz).til))
    ·conv=>whnf
     refine W.sq<|g 13 17 []<|J UE<|W.cn<|J (fun _=>(W.skip (W.sq (W.blk (g 17 25 [.x (aW j)]<|J Zbf (W.sq (g 25 27 []<|J UC (W.cn<|J (noT dO) fun _=>(W.skip (W.sq ?_)))))))))) (noF (by simp_all))
     refine g 27 81 [.i ((b.epoch - 1) * 1000000+1),.i ((b.epoch - 1) * 1000000+b.given),.call (V.b (decide ((b.epoch - 1) * 1000000+1≤j.lease∧j.lease≤(b.epoch - 1) * 1000000+b.given))) [[],[],[]],BF,BF,BF,BF,BF,.call (V.b (decide (1≤j.worker∧j.worker≤b.workers))) [[],[],[]],BF,BF,BT,BT,BT,BT,BT,BT,BT,BT,BT,BT,BT,BT,BT,BT,BT,BT,BT,BT,BT,BT,BT,BT,BT,BT,BT] ?_
     conv=>whnf
     refine J ⟨I,I,I,wO,I,I,I,wO,⟨UC,I,UU,UA,ag _ _ _⟩,I,I,⟨nO,I⟩,⟨nO,I⟩,⟨nO,I⟩,⟨nO,I⟩,⟨nO,UC,I,UU,UA,ag _ _ _⟩,⟨nO,I⟩,nO,I,af OM,af OM,af OM,af OM,af OM,af OM,af OM,af OM,af OM,af OM,af OM,I,rfl,rfl,rfl,rfl,rfl,rfl,rfl,I,rfl,rfl,rfl,rfl,rfl,rfl,rfl,I⟩<|W.cn<|J (fun _=>(g 81 82 []<|J UA (RT ?_))) (noF rfl)
     exact vbf (iT hj1 (fun q=>hC (q.2 hz).worker))
   ·conv=>whnf
    refine W.sq<|g 13 17 []<|J UE<|W.cn<|J (fun _=>(W.skip (W.sq (W.blk (g 17 25 [.x (aW j)]<|J Zbf (W.sq (g 25 27 []<|J UC (W.cn<|J (noT dO) fun _=>(W.skip (W.sq ?_)))))))))) (noF (by simp_all))
    refine g 27 81 [.i ((b.epoch - 1) * 1000000+1),.i ((b.epoch - 1) * 1000000+b.given),.call (V.b (decide ((b.epoch - 1) * 1000000+1≤j.lease∧j.lease≤(b.epoch - 1) * 1000000+b.given))) [[],[],[]],BT,BT,BT,BT,BT,BT,BT,BT,BT,BT,BT,BT,BT,BT,BT,BT,BT,BT,BT,BT,BT,BT,BT,BT,BT,BT,BT,BT,BT,BT,BT,BT] ?_
    conv=>whnf
    refine J ⟨I,I,I,wO,I,I,I,wO,⟨UC,I,UU,UA,ag _ _ _⟩,I,I,af OM,af OM,af OM,af OM,af OM,af OM,af OM,I,rfl,rfl,rfl,rfl,rfl,rfl,rfl,rfl,rfl,rfl,rfl,I,rfl,rfl,rfl,rfl,rfl,rfl,rfl,I,rfl,rfl,rfl,rfl,rfl,rfl,rfl,I⟩<|W.cn<|J (fun _=>(g 81 82 []<|J UA (RT ?_))) (noF rfl)
    exact vbf (iT hj1 (fun q=>hA (q.2 hz).lease))
 have hjobs:ge b p.tasks b.jobs.length:=by rw[show b.jobs.length = n1 by omega];exact hc1
 conv=>whnf
 refine W.sq<|g 13 17 []<|J UE<|W.cn<|J (noT (by simp_all)) fun _=>W.exit<|g 5 18 []<|J UA<|RT ?_
 exact vbt OM
theorem sj(b:Boss)(p:Plan)(hp:cL p)(hl1:b.log.safe.length≤1048576)(hl2:b.log.loose.length≤1048576)(hs:∀ s∈b.log.safe++b.log.loose,s.size≤281474976710656)(hr:b.results.length≤1048576)(hj:b.jobs.length≤1048576)(hse:b.seats.length≤1048576)(ho:b.owed.length≤1048576):F jQ [.val (gm b),.val (cB p)] (.b (decide (BossOk b p))) [[],[]]:=by
 have cp:=bW p hp
 have ce:=qN b.log hl1 hl2
 have cr:F nW [.val (cB p),.val (.t (vo (b.log.safe++b.log.loose)))] (fY (bV b p)) [[],[]]:=jG p (b.log.safe++b.log.loose) hp hs (by rw[List.length_append];omega)
 have h310:(bV b p).code = 0→b.log.safe.length+b.log.loose.length≤310:=fun q=>by have:=(ci (p:=p) (xs:=b.log.safe++b.log.loose) q).2.1;rw[List.length_append]at this;exact this
 by_cases hup:b.up = true
 rotate_left
 ·rw[Bool.not_eq_true]at hup
  refine jW ?_
  conv=>whnf
  refine g 0 2 []<|J Zcc<|W.sq ?_
  by_cases h1:ai (Plan.tasks p) = (0:Int)
  by_cases h2:(1:Int)≤Boss.workers b∧Boss.workers b≤(8:Int)
  by_cases h3:(0:Int)≤Boss.now b∧Boss.now b≤(1000000:Int)
  refine g 21 26 [.call (V.i (ai p.tasks)) [[]],BF,BF,BF,.call (V.b (decide (1≤b.workers∧b.workers≤8))) [[],[],[]],BF,BF,BF,BF,BF,.call (V.b (decide (0≤b.now∧b.now≤1000000))) [[],[],[]],BF,BF,BF,BF,BF,BF,BF,BF,BF,BF,BF,.i ((↑(List.length (List.map ak b.log.safe)):Int) + (↑(List.length (List.map ak b.log.loose)):Int)),BF,BF]<|J ⟨I,Zai,I,I,⟨nO,I⟩,⟨nO,I⟩,⟨nO,UC,I,UU,UA,ag _ _ _⟩,⟨nO,I⟩,nO,I,⟨nO,I⟩,⟨nO,I⟩,⟨nO,UC,I,UU,UA,ag _ _ _⟩,⟨nO,I⟩,nO,I,⟨nO,I⟩,⟨nO,I⟩,⟨nO,I⟩,⟨nO,I⟩,⟨nO,I⟩,⟨nO,I⟩,⟨nO,I⟩,⟨nO,I⟩,⟨nO,w64 LN LN⟩,⟨nO,I⟩,nO,I⟩<|W.cn<|J (fun h4=>?_) fun h4=>?_
  replace h4:=dt h4
  simp only[LM]at h4
  refine g 27 32 []<|J UA<|RT ?_
  rotate_left
  replace h4:=df h4
  simp only[LM]at h4
  refine W.skip<|gd 27 32 [[],[],[],[.call (V.own [false] (List.map ak (b.log.safe++b.log.loose))) [[]]],[.call (fY (bV b p)) [[],[]]],[],[]] ?_
  conv=>whnf
  refine J ⟨I,I,I,⟨UA,I,⟨UB,I⟩,UA,AS⟩,Zam,I,UC,I⟩<|J KR<|W.sq<|g 39 45 []<|J UC<|W.cn<|J (fun h5=>?_) fun h5=>?_
  replace h5:=ndt h5
  refine g 33 38 []<|J UA<|RT ?_
  rotate_left
  replace h5:=ndf h5
  refine W.skip<|W.sq<|g 33 38 []<|J UC<|W.cn<|J (fun _=>?_) (noF (nbT AS))
  by_cases h6:(↑(List.length (List.map ak (Log.loose (Boss.log b)))):Int) = (0:Int)
  simp only[LM]at h6
  by_cases h7:Boss.since b = (0:Int)
  by_cases h8:Boss.epoch b = (0:Int)
  by_cases h9:Boss.given b = (0:Int)
  by_cases h10:(↑(List.length (List.map ak (Boss.results b))):Int) = (0:Int)
  simp only[LM]at h10
  by_cases h11:(↑(List.length (List.map aW (Boss.jobs b))):Int) = (0:Int)
  simp only[LM]at h11
  by_cases h12:(↑(List.length (List.map aS (Boss.seats b))):Int) = (0:Int)
  simp only[LM]at h12
  refine g 26 93 [BT,BT,BT,BT,BT,BT,BT,BT,BT,BT,BT,BT,BT,BT,BT,BT,BT,BT,BT,BT,BT,BT,BT,BT,BT,BT,BT,BT,BT,BT,BT,BT] ?_
  conv=>whnf
  refine J Za1<|RT ?_
  rotate_left
  simp only[LM]at h12
  refine g 26 93 [BT,BT,BT,BT,BT,BT,BT,BT,BT,BT,BT,BT,BT,BT,BT,BT,BT,BT,BT,BT,BT,BT,BT,BT,BT,BT,BT,BF,BF,BF,BF,BF] ?_
  conv=>whnf
  refine J ⟨I,I,I,I,I,I,⟨SI,I⟩,⟨SI,I⟩,⟨SI,I⟩,SI,I,⟨tO,I⟩,⟨tO,I⟩,⟨tO,I⟩,tO,I,⟨tO,I⟩,⟨tO,I⟩,⟨tO,I⟩,tO,I,⟨tO,I⟩,⟨tO,I⟩,⟨tO,I⟩,⟨tO,I⟩,tO,I,⟨SI,I⟩,⟨SI,I⟩,⟨SI,I⟩,⟨SI,I⟩,SI,I,⟨SI,I⟩,⟨SI,I⟩,⟨SI,I⟩,⟨SI,I⟩,SI,I,(by simp_all),(by simp_all),(by simp_all),(by simp_all),(by simp_all),I,I⟩<|RT ?_
  rotate_left
  simp only[LM]at h11
  refine g 26 93 [BT,BT,BT,BT,BT,BT,BT,BT,BT,BT,BT,BT,BT,BT,BT,BT,BT,BT,BT,BT,BT,BT,BF,BF,BF,BF,BF,BF,BF,BF,BF,BF] ?_
  conv=>whnf
  refine J ⟨I,I,I,I,I,I,⟨SI,I⟩,⟨SI,I⟩,⟨SI,I⟩,SI,I,⟨tO,I⟩,⟨tO,I⟩,⟨tO,I⟩,tO,I,⟨tO,I⟩,⟨tO,I⟩,⟨tO,I⟩,tO,I,⟨tO,I⟩,⟨tO,I⟩,⟨tO,I⟩,⟨tO,I⟩,tO,I,⟨SI,I⟩,⟨SI,I⟩,⟨SI,I⟩,⟨SI,I⟩,SI,I,(by simp_all),(by simp_all),(by simp_all),(by simp_all),(by simp_all),I,rfl,rfl,rfl,rfl,rfl,I,I⟩<|RT ?_
  rotate_left
  simp only[LM]at h10
  refine g 26 93 [BT,BT,BT,BT,BT,BT,BT,BT,BT,BT,BT,BT,BT,BT,BT,BT,BT,BF,BF,BF,BF,BF,BF,BF,BF,BF,BF,BF,BF,BF,BF,BF] ?_
  conv=>whnf
  refine J ⟨I,I,I,I,I,I,⟨SI,I⟩,⟨SI,I⟩,⟨SI,I⟩,SI,I,⟨tO,I⟩,⟨tO,I⟩,⟨tO,I⟩,tO,I,⟨tO,I⟩,⟨tO,I⟩,⟨tO,I⟩,tO,I,⟨tO,I⟩,⟨tO,I⟩,⟨tO,I⟩,⟨tO,I⟩,tO,I,(by simp_all),(by simp_all),(by simp_all),(by simp_all),(by simp_all),I,rfl,rfl,rfl,rfl,rfl,I,rfl,rfl,rfl,rfl,rfl,I,I⟩<|RT ?_
  rotate_left
  refine g 26 93 [BT,BT,BT,BT,BT,BT,BT,BT,BT,BT,BT,BT,BF,BF,BF,BF,BF,BF,BF,BF,BF,BF,BF,BF,BF,BF,BF,BF,BF,BF,BF,BF] ?_
  conv=>whnf
  refine J Zbr<|RT ?_
  rotate_left
  refine g 26 93 [BT,BT,BT,BT,BT,BT,BT,BT,BF,BF,BF,BF,BF,BF,BF,BF,BF,BF,BF,BF,BF,BF,BF,BF,BF,BF,BF,BF,BF,BF,BF,BF] ?_
  conv=>whnf
  refine J Zbw<|RT ?_
  rotate_left
  refine g 26 93 [BT,BT,BT,BT,BF,BF,BF,BF,BF,BF,BF,BF,BF,BF,BF,BF,BF,BF,BF,BF,BF,BF,BF,BF,BF,BF,BF,BF,BF,BF,BF,BF] ?_
  conv=>whnf
  refine J Zb0<|RT ?_
  rotate_left
  simp only[LM]at h6
  refine g 26 93 [BF,BF,BF,BF,BF,BF,BF,BF,BF,BF,BF,BF,BF,BF,BF,BF,BF,BF,BF,BF,BF,BF,BF,BF,BF,BF,BF,BF,BF,BF,BF,BF] ?_
  conv=>whnf
  refine J ⟨I,I,I,I,I,I,(by simp_all),(by simp_all),(by simp_all),(by simp_all),I,rfl,rfl,rfl,rfl,I,rfl,rfl,rfl,rfl,I,rfl,rfl,rfl,rfl,rfl,I,rfl,rfl,rfl,rfl,rfl,I,rfl,rfl,rfl,rfl,rfl,I,rfl,rfl,rfl,rfl,rfl,I,I⟩<|RT ?_
  rotate_left
  refine g 21 26 [.call (V.i (ai p.tasks)) [[]],BF,BF,BF,.call (V.b (decide (1≤b.workers∧b.workers≤8))) [[],[],[]],BF,BF,BF,BF,BF,.call (V.b (decide (0≤b.now∧b.now≤1000000))) [[],[],[]],BF,BF,BT,BT,BT,BT,BT,BT,BT,BT,BT,BT,BT]<|J ⟨I,Zai,I,I,⟨nO,I⟩,⟨nO,I⟩,⟨nO,UC,I,UU,UA,ag _ _ _⟩,⟨nO,I⟩,nO,I,⟨nO,I⟩,⟨nO,I⟩,⟨nO,UC,I,UU,UA,ag _ _ _⟩,⟨nO,I⟩,nO,I,af OM,af OM,af OM,af OM,af OM,af OM,af OM,af OM,af OM,af OM,af OM,I⟩<|W.cn<|J (fun _=>(g 27 32 []<|J UA (RT ?_))) (noF rfl)
  rotate_left
  refine g 21 26 [.call (V.i (ai p.tasks)) [[]],BF,BF,BF,.call (V.b (decide (1≤b.workers∧b.workers≤8))) [[],[],[]],BF,BF,BT,BT,BT,BT,BT,BT,BT,BT,BT,BT,BT,BT,BT,BT,BT,BT]<|J ⟨I,Zai,I,I,⟨nO,I⟩,⟨nO,I⟩,⟨nO,UC,I,UU,UA,ag _ _ _⟩,⟨nO,I⟩,nO,I,af OM,af OM,af OM,af OM,af OM,I,rfl,rfl,rfl,rfl,rfl,rfl,rfl,rfl,rfl,rfl,rfl,I⟩<|W.cn<|J (fun _=>(g 27 32 []<|J UA (RT ?_))) (noF rfl)
  rotate_left
  refine g 21 26 [.call (V.i (ai p.tasks)) [[]],BT,BT,BT,BT,BT,BT,BT,BT,BT,BT,BT,BT,BT,BT,BT,BT,BT,BT,BT,BT,BT]<|J Zd0<|W.cn<|J (fun _=>(g 27 32 []<|J UA (RT ?_))) (noF rfl)
  rotate_left
  all_goals first
   |exact vbf (fun q=>by have e1:=q.plan;have e2:=q.workers;have e3:=q.now;have e4:=q.code;have e5:=h310 e4;omega)
   |exact vbf (vR hup fun q=>by have e1:=q.loose;have e2:=q.since;have e3:=q.epoch;have e4:=q.given;have e5:=q.res;have e6:=q.jobs;have e7:=q.seats;omega)
   |(rename_i h8
     simp only[List.length_map]
     by_cases h9:(b.owed.length:Int) = 0
     ·rw[decide_eq_true h9];exact vbt ⟨by omega,by omega,by omega,by omega,(fun q=>by rw[hup]at q;cases q),fun _=>⟨by omega,by omega,by omega,by omega,by omega,by omega,by omega,by omega⟩⟩
     ·rw[decide_eq_false h9];exact vbf (vR hup fun q=>by have e8:=q.owed;omega))
   |skip
 refine jW ?_
 conv=>whnf
 refine g 0 2 []<|J Zcc<|W.sq ?_
 by_cases h1:ai (Plan.tasks p) = (0:Int)
 by_cases h2:(1:Int)≤Boss.workers b∧Boss.workers b≤(8:Int)
 by_cases h3:(0:Int)≤Boss.now b∧Boss.now b≤(1000000:Int)
 refine g 21 26 [.call (V.i (ai p.tasks)) [[]],BF,BF,BF,.call (V.b (decide (1≤b.workers∧b.workers≤8))) [[],[],[]],BF,BF,BF,BF,BF,.call (V.b (decide (0≤b.now∧b.now≤1000000))) [[],[],[]],BF,BF,BF,BF,BF,BF,BF,BF,BF,BF,BF,.i ((↑(List.length (List.map ak b.log.safe)):Int) + (↑(List.length (List.map ak b.log.loose)):Int)),BF,BF]<|J ⟨I,Zai,I,I,⟨nO,I⟩,⟨nO,I⟩,⟨nO,UC,I,UU,UA,ag _ _ _⟩,⟨nO,I⟩,nO,I,⟨nO,I⟩,⟨nO,I⟩,⟨nO,UC,I,UU,UA,ag _ _ _⟩,⟨nO,I⟩,nO,I,⟨nO,I⟩,⟨nO,I⟩,⟨nO,I⟩,⟨nO,I⟩,⟨nO,I⟩,⟨nO,I⟩,⟨nO,I⟩,⟨nO,I⟩,⟨nO,w64 LN LN⟩,⟨nO,I⟩,nO,I⟩<|W.cn<|J (fun h4=>?_) fun h4=>?_
 replace h4:=dt h4
 simp only[LM]at h4
 refine g 27 32 []<|J UA<|RT ?_
 rotate_left
 replace h4:=df h4
 simp only[LM]at h4
 refine W.skip<|gd 27 32 [[],[],[],[.call (V.own [false] (List.map ak (b.log.safe++b.log.loose))) [[]]],[.call (fY (bV b p)) [[],[]]],[],[]] ?_
 conv=>whnf
 refine J ⟨I,I,I,⟨UA,I,⟨UB,I⟩,UA,AS⟩,Zam,I,UC,I⟩<|J KR<|W.sq<|g 39 45 []<|J UC<|W.cn<|J (fun h5=>?_) fun h5=>?_
 replace h5:=ndt h5
 refine g 33 38 []<|J UA<|RT ?_
 rotate_left
 replace h5:=ndf h5
 refine W.skip<|W.sq<|g 33 38 []<|J UC<|W.cn<|J (noT (nbF AS)) fun _=>W.skip<|W.sq ?_
 by_cases h6:Boss.epoch b = Story.epoch (bV b p)
 by_cases h7:Boss.epoch b < (1:Int)
 refine g 26 114 [BF,BF,BF,BF,BT,BT,BT,BT,BT,BT,BT,BT,BT,BT]<|J ⟨I,I,I,I,I,I,⟨nO,I⟩,⟨nO,I⟩,⟨nO,I⟩,nO,I,tO,tO,tO,tO,tO,I,rfl,rfl,rfl,rfl,rfl,I⟩<|W.cn<|J (fun _=>(g 13 20 []<|J UA (RT ?_))) (noF rfl)
 rotate_left
 by_cases h8:(0:Int)≤Boss.since b∧Boss.since b≤(1:Int)
 refine g 26 114 [BF,BF,BF,BF,BF,BF,BF,.call (V.b (decide (0≤b.since∧b.since≤1))) [[],[],[]],BF,BF,BF,BF,BF,.call (V.b (decide (0≤b.given∧b.given≤1000000))) [[],[],[]],BF,BF]<|J ⟨I,I,I,I,I,I,⟨nO,I⟩,⟨nO,I⟩,⟨nO,I⟩,nO,I,⟨dO,I⟩,⟨dO,I⟩,⟨dO,UC,I,UU,UA,ag _ _ _⟩,⟨dO,I⟩,dO,I,⟨nO,I⟩,⟨nO,I⟩,⟨nO,UC,I,UU,UA,ag _ _ _⟩,⟨nO,I⟩,nO,I⟩<|W.cn<|J (fun h9=>?_) fun h9=>?_
 replace h9:=ndt h9
 refine g 13 20 []<|J UA<|RT ?_
 rotate_left
 replace h9:=ndf h9
 refine W.skip<|g 13 20 []<|J UD<|W.sq ?_
 by_cases h10:(↑(List.length (List.map ak (Boss.results b))):Int) = (↑(List.length (List.map aB (Plan.tasks p))):Int)
 simp only[LM]at h10
 by_cases h11:(↑(List.length (List.map aW (Boss.jobs b))):Int) = (↑(List.length (List.map aB (Plan.tasks p))):Int)
 simp only[LM]at h11
 by_cases h12:(↑(List.length (List.map aS (Boss.seats b))):Int) = Boss.workers b
 simp only[LM]at h12
 refine g 114 143 [BF,BF,BF,BF,BF,BF,BF,BF,BF,BF,BF,BF,BF,BF,BF,BF,BF,BF]<|J ⟨I,I,I,I,I,I,⟨SI,I⟩,⟨SI,I⟩,⟨SI,I⟩,⟨SI,I⟩,⟨SI,I⟩,SI,I,⟨SI,I⟩,⟨SI,I⟩,⟨SI,I⟩,⟨SI,I⟩,⟨SI,I⟩,⟨SI,I⟩,SI,I,⟨SI,I⟩,⟨SI,I⟩,⟨SI,I⟩,⟨SI,I⟩,SI,I⟩<|W.cn<|J (fun h13=>?_) fun h13=>?_
 replace h13:=dt h13
 simp only[LM]at h13
 refine g 11 12 []<|J UA<|RT ?_
 rotate_left
 replace h13:=df h13
 simp only[LM]at h13
 refine W.skip<|W.sq<|g 11 12 []<|J UA<|W.blk ?_
 rotate_left
 simp only[LM]at h12
 refine g 114 143 [BF,BF,BF,BF,BF,BF,BF,BF,BF,BF,BF,BF,BF,BT,BT,BT,BT,BT]<|J ⟨I,I,I,I,I,I,⟨SI,I⟩,⟨SI,I⟩,⟨SI,I⟩,⟨SI,I⟩,⟨SI,I⟩,SI,I,⟨SI,I⟩,⟨SI,I⟩,⟨SI,I⟩,⟨SI,I⟩,⟨SI,I⟩,⟨SI,I⟩,SI,I,SI,SI,SI,SI,SI,I⟩<|W.cn<|J (fun _=>(g 11 12 []<|J UA (RT ?_))) (noF rfl)
 rotate_left
 simp only[LM]at h11
 refine g 114 143 [BF,BF,BF,BF,BF,BF,BT,BT,BT,BT,BT,BT,BT,BT,BT,BT,BT,BT]<|J ⟨I,I,I,I,I,I,⟨SI,I⟩,⟨SI,I⟩,⟨SI,I⟩,⟨SI,I⟩,⟨SI,I⟩,SI,I,SI,SI,SI,SI,SI,SI,SI,I,rfl,rfl,rfl,rfl,rfl,I⟩<|W.cn<|J (fun _=>(g 11 12 []<|J UA (RT ?_))) (noF rfl)
 rotate_left
 simp only[LM]at h10
 refine g 114 143 [BT,BT,BT,BT,BT,BT,BT,BT,BT,BT,BT,BT,BT,BT,BT,BT,BT,BT]<|J ⟨I,I,I,I,I,I,SI,SI,SI,SI,SI,SI,I,rfl,rfl,rfl,rfl,rfl,rfl,rfl,I,rfl,rfl,rfl,rfl,rfl,I⟩<|W.cn<|J (fun _=>(g 11 12 []<|J UA (RT ?_))) (noF rfl)
 rotate_left
 refine g 26 114 [BF,BF,BF,BF,BF,BF,BF,.call (V.b (decide (0≤b.since∧b.since≤1))) [[],[],[]],BF,BF,BT,BT,BT,BT,BT]<|J ⟨I,I,I,I,I,I,⟨nO,I⟩,⟨nO,I⟩,⟨nO,I⟩,nO,I,⟨dO,I⟩,⟨dO,I⟩,⟨dO,UC,I,UU,UA,ag _ _ _⟩,⟨dO,I⟩,dO,I,af OM,af OM,af OM,af OM,af OM,I⟩<|W.cn<|J (fun _=>(g 13 20 []<|J UA (RT ?_))) (noF rfl)
 rotate_left
 refine g 26 114 [BT,BT,BT,BT,BT,BT,BT,BT,BT,BT,BT,BT,BT,BT]<|J ⟨I,I,I,I,I,I,af OM,af OM,af OM,af OM,I,rfl,rfl,rfl,rfl,rfl,I,rfl,rfl,rfl,rfl,rfl,I⟩<|W.cn<|J (fun _=>(g 13 20 []<|J UA (RT ?_))) (noF rfl)
 rotate_left
 refine g 21 26 [.call (V.i (ai p.tasks)) [[]],BF,BF,BF,.call (V.b (decide (1≤b.workers∧b.workers≤8))) [[],[],[]],BF,BF,BF,BF,BF,.call (V.b (decide (0≤b.now∧b.now≤1000000))) [[],[],[]],BF,BF,BT,BT,BT,BT,BT,BT,BT,BT,BT,BT,BT]<|J ⟨I,Zai,I,I,⟨nO,I⟩,⟨nO,I⟩,⟨nO,UC,I,UU,UA,ag _ _ _⟩,⟨nO,I⟩,nO,I,⟨nO,I⟩,⟨nO,I⟩,⟨nO,UC,I,UU,UA,ag _ _ _⟩,⟨nO,I⟩,nO,I,af OM,af OM,af OM,af OM,af OM,af OM,af OM,af OM,af OM,af OM,af OM,I⟩<|W.cn<|J (fun _=>(g 27 32 []<|J UA (RT ?_))) (noF rfl)
 rotate_left
 refine g 21 26 [.call (V.i (ai p.tasks)) [[]],BF,BF,BF,.call (V.b (decide (1≤b.workers∧b.workers≤8))) [[],[],[]],BF,BF,BT,BT,BT,BT,BT,BT,BT,BT,BT,BT,BT,BT,BT,BT,BT,BT]<|J ⟨I,Zai,I,I,⟨nO,I⟩,⟨nO,I⟩,⟨nO,UC,I,UU,UA,ag _ _ _⟩,⟨nO,I⟩,nO,I,af OM,af OM,af OM,af OM,af OM,I,rfl,rfl,rfl,rfl,rfl,rfl,rfl,rfl,rfl,rfl,rfl,I⟩<|W.cn<|J (fun _=>(g 27 32 []<|J UA (RT ?_))) (noF rfl)
 rotate_left
 refine g 21 26 [.call (V.i (ai p.tasks)) [[]],BT,BT,BT,BT,BT,BT,BT,BT,BT,BT,BT,BT,BT,BT,BT,BT,BT,BT,BT,BT,BT]<|J Zd0<|W.cn<|J (fun _=>(g 27 32 []<|J UA (RT ?_))) (noF rfl)
 rotate_left
 all_goals try first
  |exact vbf (fun q=>by have e1:=q.plan;have e2:=q.workers;have e3:=q.now;have e4:=q.code;have e5:=h310 e4;omega)
  |exact vbf (fc hup fun q=>by have e1:=q.epoch;have e2:=q.pos;have e3:=q.rlen;have e4:=q.jlen;have e5:=q.slen;have e6:=q.since;have e7:=q.given;have e8:=q.olen;omega)
 have hk:(bV b p).code = 0:=by assumption
 have hc0:ai p.tasks = 0:=by assumption
 obtain⟨_,_,hsl,_⟩:=ci (p:=p) (xs:=b.log.safe++b.log.loose) hk
 obtain⟨hep1,hep2⟩:=ey (p:=p) (xs:=b.log.safe++b.log.loose) hk
 change (bV b p).results.length = _ at hsl
 change 0≤(bV b p).epoch at hep1
 change (bV b p).epoch≤300 at hep2
 have f1:b.epoch = (bV b p).epoch:=by assumption
 have f2:1≤b.epoch:=by omega
 have f3:b.results.length = p.tasks.length:=by omega
 have f4:b.jobs.length = p.tasks.length:=by omega
 have f5:(b.seats.length:Int) = b.workers:=by omega
 have f6:1≤b.workers∧b.workers≤8:=by assumption
 have f7:0≤b.now∧b.now≤1000000:=by assumption
 have g2:0≤b.since∧b.since≤1:=by omega
 have g3:0≤b.given∧b.given≤1000000:=by omega
 have g4:b.owed.length≤2000:=by omega
 have hpl:=(bM hc0).1
 refine W.lp (fun s (n:Nat)=>⟨[(2,s.s 2),(3,s.s 3),(5,s.s 5),(6,s.s 6),(7,.i n),(12,s.s 12),(20,s.s 20)],[(2,[s.c 2 0,s.c 2 1,s.c 2 2,s.c 2 3,s.c 2 4,s.c 2 5,s.c 2 6,s.c 2 7,s.c 2 8,s.c 2 9,s.c 2 10,s.c 2 11]),(3,[s.c 3 0]),(5,[s.c 5 0,s.c 5 1,s.c 5 2])],[]⟩) (fun(n:Nat)=>n≤b.results.length∧b.results.take n = (bV b p).results.take n) (fun(n:Nat)=>b.results.length - n) (0) [some 2,some 3,some 5] [] Zd5 (by simp) ?_
 rintro n ⟨hn,hc⟩
 conv=>whnf
 refine W.sq<|g 144 146 []<|J UC<|W.cn<|J (fun h14=>?_) fun h14=>?_
 replace h14:=dt h14
 simp only[LM]at h14
 refine W.skip<|W.sq<|W.blk ?_
 obtain⟨y1,hy1⟩:=aj (xs:=Boss.results b) (n:=n) OM
 obtain⟨y2,hy2⟩:=aj (xs:=Story.results (bV b p)) (n:=n) OM
 refine gd 146 159 [[],[],[],[.x (ak y1)],[],[],[],[],[.n (n)],[.x (ak y2)],[]] ?_
 conv=>whnf
 refine J ⟨I,I,I,Zdg,I,I,I,I,Zdf,xA,I,I⟩<|J KR<|W.cn<|J (fun h15=>?_) fun h15=>?_
 replace h15:=ndt h15
 refine g 159 160 []<|J UA<|RT ?_
 rotate_left
 replace h15:=ndf h15
 refine W.skip<|rg [.i ((n:Int) +1)]<|J Zdc ?_
 rotate_left
 replace h14:=df h14
 simp only[LM]at h14
 refine W.exit<|W.sq<|g 5 6 []<|J UA<|W.blk ?_
 rotate_left
 all_goals try
  exact vbf (fc hup fun q=>by have e1:=q.res;rw[e1]at hy1;rw[hy1]at hy2;cases hy2;contradiction)
 ·refine⟨n+1,[some 2,some 3,some 5],[],Zd5,?_,?_⟩
  rotate_left
  (dsimp only;omega)
  dsimp only
  exact⟨by omega,AO hc hy1 (by rw[hy2];simp_all)⟩
 have g1:b.results = (bV b p).results:=by rw[bC OM,bC OM]at hc;exact hc
 refine W.lp (fun s (n:Nat)=>⟨[(2,s.s 2),(3,s.s 3),(6,s.s 6),(8,.i n),(12,s.s 12),(20,s.s 20)],[(2,[s.c 2 0,s.c 2 1,s.c 2 2,s.c 2 3,s.c 2 4,s.c 2 5,s.c 2 6,s.c 2 7,s.c 2 8,s.c 2 9,s.c 2 10,s.c 2 11]),(3,[s.c 3 0])],[]⟩) (fun(n:Nat)=>n≤b.seats.length∧∀ s∈b.seats.take n,0≤s.epoch∧s.epoch≤300) (fun(n:Nat)=>b.seats.length - n) (0) [some 2,some 3] [] Zek (by simp) ?_
 rintro n2 ⟨hn2,hc2⟩
 by_cases hs2:n2 < b.seats.length
 ·obtain⟨s,hs1⟩:=aj hs2
  by_cases hA:0≤s.epoch∧s.epoch≤300
  ·conv=>whnf
   refine W.sq<|g 160 164 []<|J UE<|W.cn<|J (fun h15=>?_) fun h15=>?_
   replace h15:=dt h15
   simp only[LM]at h15
   refine W.skip<|W.sq<|W.blk<|g 164 174 [.x (aS s),.call (V.b (decide (0≤s.epoch∧s.epoch≤300))) [[],[],[]]]<|J ⟨I,I,I,Zdg,I,I,⟨UC,I,UU,UA,ag _ _ _⟩,I,I⟩<|W.cn<|J (noT nO) fun _=>W.skip<|rg [.i ((n2:Int) +1)]<|J Zdc ?_
   rotate_left
   replace h15:=df h15
   simp only[LM]at h15
   omega
   refine⟨n2+1,[some 2,some 3],[],Zek,?_,?_⟩
   rotate_left
   (dsimp only;omega)
   dsimp only
   exact⟨by omega,dx hc2 hs1 hA⟩
  ·conv=>whnf
   refine W.sq<|g 160 164 []<|J UE<|W.cn<|J (fun h15=>?_) fun h15=>?_
   replace h15:=dt h15
   simp only[LM]at h15
   refine W.skip<|W.sq<|W.blk<|g 164 174 [.x (aS s),.call (V.b (decide (0≤s.epoch∧s.epoch≤300))) [[],[],[]]]<|J ⟨I,I,I,Zdg,I,I,⟨UC,I,UU,UA,ag _ _ _⟩,I,I⟩<|W.cn<|J (fun _=>(g 174 175 []<|J UA (RT ?_))) (noF (af OM))
   rotate_left
   replace h15:=df h15
   simp only[LM]at h15
   omega
   exact vbf (fc hup (C5 hs1 hA))
 have hseats:∀ s∈b.seats,0≤s.epoch∧s.epoch≤300:=by rw[bC OM]at hc2;exact hc2
 conv=>whnf
 refine W.sq<|g 160 164 []<|J UE<|W.cn<|J (fun h15=>?_) fun h15=>?_
 replace h15:=dt h15
 simp only[LM]at h15
 omega
 replace h15:=df h15
 simp only[LM]at h15
 refine W.exit<|W.sq<|g 8 9 []<|J UA<|W.blk<|W.lp (fun s (n:Nat)=>⟨[(2,s.s 2),(3,s.s 3),(6,s.s 6),(9,.i n),(12,s.s 12),(20,s.s 20)],[(2,[s.c 2 0,s.c 2 1,s.c 2 2,s.c 2 3,s.c 2 4,s.c 2 5,s.c 2 6,s.c 2 7,s.c 2 8,s.c 2 9,s.c 2 10,s.c 2 11]),(3,[s.c 3 0])],[]⟩) (fun(n:Nat)=>n≤b.owed.length∧∀ o∈b.owed.take n,OwedOk b p.tasks o) (fun(n:Nat)=>b.owed.length - n) (0) [some 2,some 3] [] Zek (by simp) ?_
 rintro n3 ⟨hn3,hc3⟩
 by_cases ho2:n3 < b.owed.length
 ·obtain⟨o,ho1⟩:=aj ho2
  by_cases hA:1≤o.worker∧o.worker≤b.workers
  ·by_cases hB:1≤o.lease∧o.lease≤300000000
   ·by_cases hC:0≤o.task∧o.task≤(p.tasks.length:Int) - 1
    ·obtain⟨y,hy0⟩:=aj (xs:=b.results) (n:=o.task.toNat) OM
     by_cases hD:y = emp
     ·conv=>whnf
      refine W.sq<|g 175 179 []<|J UE<|W.cn<|J (fun _=>(W.skip (W.sq (W.blk (g 179 187 [.x (bi o)]<|J Zbf (g 187 215 [.call (V.b (decide (1≤o.worker∧o.worker≤b.workers))) [[],[],[]],BF,BF,BF,.call (V.b (decide (1≤o.lease∧o.lease≤300000000))) [[]],BF,BF,BF,BF,BF,BF,.i ((↑(List.length (List.map aB p.tasks)):Int) - 1),BF,.call (V.b (decide (0≤o.task∧o.task≤(↑(List.length (List.map aB p.tasks)):Int) - 1))) [[],[],[]],BF,BF,BF,BF,BF,BF,BF,.x (ak y),BF,BF,BF]<|J ⟨I,I,I,I,⟨UC,I,UU,UA,ag _ _ _⟩,I,I,⟨nO,I⟩,⟨nO,I⟩,⟨nO,UA,I,US,UA,ax _⟩,⟨nO,I⟩,nO,I,⟨nO,I⟩,⟨nO,I⟩,⟨nO,I⟩,⟨nO,w64 LN LN⟩,⟨nO,UC,I,UU,UA,ag _ _ _⟩,⟨nO,I⟩,nO,I,⟨SI,I⟩,⟨SI,I⟩,⟨SI,I⟩,⟨SI,I⟩,⟨SI,OM,xA⟩,⟨SI,I⟩,⟨SI,I⟩,SI,I⟩ (W.cn<|J (fun _=>(g 10 11 []<|J UA (RT ?_))) (noF tO)))))))) (noF SI)
      exact vbf (fc hup (jO ho1 (fun q=>q.res (by rw[kc hy0];exact hD))))
     ·conv=>whnf
      refine W.sq<|g 175 179 []<|J UE<|W.cn<|J (fun _=>(W.skip (W.sq (W.blk (g 179 187 [.x (bi o)]<|J Zbf (g 187 215 [.call (V.b (decide (1≤o.worker∧o.worker≤b.workers))) [[],[],[]],BF,BF,BF,.call (V.b (decide (1≤o.lease∧o.lease≤300000000))) [[]],BF,BF,BF,BF,BF,BF,.i ((↑(List.length (List.map aB p.tasks)):Int) - 1),BF,.call (V.b (decide (0≤o.task∧o.task≤(↑(List.length (List.map aB p.tasks)):Int) - 1))) [[],[],[]],BF,BF,BF,BF,BF,BF,BF,.x (ak y),BF,BF,BF]<|J ⟨I,I,I,I,⟨UC,I,UU,UA,ag _ _ _⟩,I,I,⟨nO,I⟩,⟨nO,I⟩,⟨nO,UA,I,US,UA,ax _⟩,⟨nO,I⟩,nO,I,⟨nO,I⟩,⟨nO,I⟩,⟨nO,I⟩,⟨nO,w64 LN LN⟩,⟨nO,UC,I,UU,UA,ag _ _ _⟩,⟨nO,I⟩,nO,I,⟨SI,I⟩,⟨SI,I⟩,⟨SI,I⟩,⟨SI,I⟩,⟨SI,OM,xA⟩,⟨SI,I⟩,⟨SI,I⟩,SI,I⟩ (W.cn<|J (noT dO) fun _=>(W.skip (rg [.i ((n3:Int) +1)]<|J Zdc ?_))))))))) (noF SI)
      refine⟨n3+1,[some 2,some 3],[],Zek,?_,?_⟩
      rotate_left
      (dsimp only;omega)
      dsimp only
      exact⟨by omega,dx hc3 ho1 ⟨hA,hB,hC,by rw[kc hy0];exact hD⟩⟩
    ·conv=>whnf
     refine W.sq<|g 175 179 []<|J UE<|W.cn<|J (fun _=>(W.skip (W.sq (W.blk (g 179 187 [.x (bi o)]<|J Zbf (g 187 215 [.call (V.b (decide (1≤o.worker∧o.worker≤b.workers))) [[],[],[]],BF,BF,BF,.call (V.b (decide (1≤o.lease∧o.lease≤300000000))) [[]],BF,BF,BF,BF,BF,BF,.i ((↑(List.length (List.map aB p.tasks)):Int) - 1),BF,.call (V.b (decide (0≤o.task∧o.task≤(↑(List.length (List.map aB p.tasks)):Int) - 1))) [[],[],[]],BF,BF,BT,BT,BT,BT,BT,BT,BT,BT]<|J ⟨I,I,I,I,⟨UC,I,UU,UA,ag _ _ _⟩,I,I,⟨nO,I⟩,⟨nO,I⟩,⟨nO,UA,I,US,UA,ax _⟩,⟨nO,I⟩,nO,I,⟨nO,I⟩,⟨nO,I⟩,⟨nO,I⟩,⟨nO,w64 LN LN⟩,⟨nO,UC,I,UU,UA,ag _ _ _⟩,⟨nO,I⟩,nO,I,SI,SI,SI,SI,SI,SI,SI,SI,I⟩ (W.cn<|J (fun _=>(g 10 11 []<|J UA (RT ?_))) (noF rfl)))))))) (noF SI)
     exact vbf (fc hup (jO ho1 (fun q=>hC q.task)))
   ·conv=>whnf
    refine W.sq<|g 175 179 []<|J UE<|W.cn<|J (fun _=>(W.skip (W.sq (W.blk (g 179 187 [.x (bi o)]<|J Zbf (g 187 215 [.call (V.b (decide (1≤o.worker∧o.worker≤b.workers))) [[],[],[]],BF,BF,BF,.call (V.b (decide (1≤o.lease∧o.lease≤300000000))) [[]],BF,BF,BT,BT,BT,BT,BT,BT,BT,BT,BT,BT,BT,BT,BT,BT,BT]<|J ⟨I,I,I,I,⟨UC,I,UU,UA,ag _ _ _⟩,I,I,⟨nO,I⟩,⟨nO,I⟩,⟨nO,UA,I,US,UA,ax _⟩,⟨nO,I⟩,nO,I,af OM,af OM,af OM,af OM,af OM,af OM,af OM,I,rfl,rfl,rfl,rfl,rfl,rfl,rfl,rfl,I⟩ (W.cn<|J (fun _=>(g 10 11 []<|J UA (RT ?_))) (noF rfl)))))))) (noF SI)
    exact vbf (fc hup (jO ho1 (fun q=>hB q.lease)))
  ·conv=>whnf
   refine W.sq<|g 175 179 []<|J UE<|W.cn<|J (fun _=>(W.skip (W.sq (W.blk (g 179 187 [.x (bi o)]<|J Zbf (g 187 215 [.call (V.b (decide (1≤o.worker∧o.worker≤b.workers))) [[],[],[]],BT,BT,BT,BT,BT,BT,BT,BT,BT,BT,BT,BT,BT,BT,BT,BT,BT,BT,BT,BT]<|J ⟨I,I,I,I,⟨UC,I,UU,UA,ag _ _ _⟩,I,I,af OM,af OM,af OM,af OM,af OM,I,rfl,rfl,rfl,rfl,rfl,rfl,rfl,I,rfl,rfl,rfl,rfl,rfl,rfl,rfl,rfl,I⟩ (W.cn<|J (fun _=>(g 10 11 []<|J UA (RT ?_))) (noF rfl)))))))) (noF SI)
   exact vbf (fc hup (jO ho1 (fun q=>hA q.worker)))
 have howed:∀ o∈b.owed,OwedOk b p.tasks o:=by rw[bC OM]at hc3;exact hc3
 have cj:=um b p hc0 OM OM f3 f4 f7 g3
 by_cases hjobs:ge b p.tasks b.jobs.length
 ·rw[decide_eq_true hjobs]at cj
  conv=>whnf
  refine W.sq<|g 175 179 []<|J UE<|W.cn<|J (noT SI) fun _=>W.exit<|g 6 219 [.call VT [[],[]]]<|J Zap<|RT ?_
  exact vbt ⟨hc0,f6,f7,hk,fun _=>⟨f1,f2,f3,f4,f5,g1,g2,g3,g4,hjobs,hseats,howed⟩,fun e=>by rw[hup]at e;cases e⟩
 ·rw[decide_eq_false hjobs]at cj
  conv=>whnf
  refine W.sq<|g 175 179 []<|J UE<|W.cn<|J (noT SI) fun _=>W.exit<|g 6 219 [.call VF [[],[]]]<|J Zap<|RT ?_
  exact vbf (fc hup fun q=>hjobs q.jobs)
end Go.K
end
section
open Go Go.Tm Go.Proofs
namespace Go.K
def v4(m:Message):List Int:=[m.kind,m.frm,m.to,m.epoch / 256,m.epoch % 256,m.lease / 16777216,m.lease / 65536 % 256,m.lease / 256 % 256,m.lease % 256,m.task,m.inputs.length]
def gN:List ByteArray→ByteArray
 |[]=>emp
 |x :: l=>x++gN l
theorem Fg(s:ByteArray):emp++s = s:=by apply ByteArray.ext;simp[emp]
theorem BE(s:ByteArray):s++emp = s:=by apply ByteArray.ext;simp[emp]
theorem wZ:∀ a b,gN (a++b) = gN a++gN b
 |[],b=>by simp only[List.nil_append,gN,Fg]
 |x :: a,b=>by simp only[List.cons_append,gN,wZ a b,ByteArray.append_assoc]
theorem zN{xs:List ByteArray}{n:Nat}{x:ByteArray}(h:xs[n]? = some x):gN (xs.take (n+1)) = gN (xs.take n) ++x:=by
 rw[List.take_add_one,h,wZ];simp only[Option.toList,gN,BE]
def cN(m:Message):ByteArray:=bl (v4 m) ++m.text++gN m.inputs
theorem zP{l:List Int}(h:∀ n∈l,0≤n∧n≤255):bQ (bl l) = l.map b1T:=by
 unfold bQ bl b1T
 simp only[List.map_map]
 apply List.map_congr_left
 intro n hn
 obtain⟨h1,h2⟩:=h n hn
 simp only[Function.comp]
 congr 4
 simp;omega
theorem cG{m:Message}(h:bw m):m.inputs.length≤8∧(∀ s∈m.inputs,s.size = 8)∧m.text.size≤8:=by
 have he:emp.size = 0:=rfl
 obtain⟨_,h|h|h|h|h⟩:=h
 ·obtain⟨_,_,_,_,_,h1,h2,h3⟩:=h
  exact⟨h3,h2,by rw[h1];omega⟩
 all_goals
  obtain⟨_,_,_,_,_,h1,h2⟩:=h
  have:m.inputs = []:=List.eq_nil_of_length_eq_zero OM
  rw[this]
  refine⟨by simp,(fun s hs=>nomatch hs),?_⟩
  first
   |(rw[h1];omega)
   |omega
theorem eA{m:Message}(h:bw m):(1≤m.kind∧m.kind≤5)∧(0≤m.frm∧m.frm≤8)∧(0≤m.to∧m.to≤8)∧(1≤m.epoch∧m.epoch≤300)∧(0≤m.lease∧m.lease≤300000000)∧(0≤m.task∧m.task≤39):=by
 obtain⟨h0,h|h|h|h|h⟩:=h
 all_goals
  obtain⟨h1,h2,h3,h4,h5,_⟩:=h
  refine⟨?_,?_,?_,h0,?_,?_⟩ <;> omega
theorem zu{m:Message}(h:bw m):∀ n∈v4 m,0≤n∧n≤255:=by
 obtain⟨h1,h2,h3,h4,h5,h6⟩:=eA h
 have h7:=(cG h).1
 intro n hn
 simp only[v4,List.mem_cons,List.not_mem_nil,or_false]at hn
 rcases hn with rfl|rfl|rfl|rfl|rfl|rfl|rfl|rfl|rfl|rfl|rfl <;> omega
def fA(m:Message)(n:Nat):ByteArray:=bl (v4 m) ++m.text++gN (m.inputs.take n)
theorem pL(m:Message):fA m 0 = bl (v4 m) ++m.text:=by unfold fA;rw[List.take_zero,gN,BE]
theorem wu{m:Message}{n:Nat}{x:ByteArray}(h:m.inputs[n]? = some x):bQ (fA m n) ++bQ x = bQ (fA m (n+1)):=by
 unfold fA;rw[zN h,←lF];simp only[ByteArray.append_assoc]
theorem tb(m:Message):fA m m.inputs.length = cN m:=by unfold fA cN;rw[List.take_length]
theorem pM{m:Message}(h:bw m)(n:Nat)(hn:n≤m.inputs.length):(fA m n).size = 11+m.text.size+8 * n:=by
 obtain⟨h7,h8,h9⟩:=cG h
 induction n with
 |zero=>rw[pL,ByteArray.size_append,fV];rfl
 |succ k ih =>
  have hk:k < m.inputs.length:=by omega
  have:=congrArg List.length (wu (List.getElem?_eq_getElem hk))
  rw[List.length_append,ff,ff,ff,ih OM,h8 _ (List.getElem_mem hk)]at this
  omega
end Go.K
end
section
open Go Go.Tm Go.Proofs
namespace Go.K
attribute [local irreducible] ByteArray.extract
def dz(m:Message)(key:ByteArray):ByteArray:=if bw m∧key.size≤30 then ee (cN m) key++cN m else emp
theorem fg{m:Message}(h:bw m):(cN m).size = 11+m.text.size+8 * m.inputs.length:=by
 rw[←tb,pM h _ (Nat.le_refl _)]
def bP(r:ByteArray)(n:Nat):List ByteArray:=(List.range n).map fun k=>r.extract (8 * k) (8 * k+8)
def rdM(b:ByteArray):Message :=
 ⟨byt b 0,byt b 1,byt b 2,byt b 3 * 256+byt b 4,byt b 5 * 16777216+byt b 6 * 65536+byt b 7 * 256+byt b 8,byt b 9,if byt b 0 = 3 then b.extract 11 b.size else emp,if byt b 0 = 3 then []else bP (b.extract 11 b.size) ((b.size - 11) / 8)⟩
def cR(s key:ByteArray):Option Message:=if s.size < 19∨dz (rdM (s.extract 8 s.size)) key≠s then none else some (rdM (s.extract 8 s.size))
def ew:Option Message→V
 |none=>.tup [bq HT,.b false]
 |some m=>.tup [bq m,.b true]
theorem mG(r:ByteArray)(n:Nat):bP r (n+1) = bP r n++ [r.extract (8 * n) (8 * n+8)]:=by
 unfold bP;rw[List.range_succ,List.map_append];rfl
def rdF(b:ByteArray)(t:ByteArray)(l:List ByteArray):Message :=
 ⟨byt b 0,byt b 1,byt b 2,byt b 3 * 256+byt b 4,byt b 5 * 16777216+byt b 6 * 65536+byt b 7 * 256+byt b 8,byt b 9,t,l⟩
theorem ja{s key:ByteArray}(h:s.size < 19):cR s key = none:=if_pos (Or.inl h)
theorem nr{s key:ByteArray}{m:Message}(h0:¬s.size < 19)(h:rdM (s.extract 8 s.size) = m)(h2:dz m key = s):cR s key = some m:=by
 unfold cR;rw[h,if_neg];rintro(h|h);exact h0 h;exact h h2
def ba(s:ByteArray):ByteArray:=(s.extract 8 s.size).extract 11 (s.extract 8 s.size).size
theorem pJ(r:ByteArray)(n:Nat):(bP r n).length = n:=by unfold bP;rw[List.length_map,List.length_range]
end Go.K
end
section
open Go Go.Tm Go.Proofs
namespace Go.K
attribute [local irreducible] ByteArray.extract
theorem wK(a i y:Nat)(hy:y < 2 ^ i)(h:a * 2 ^ i+y < 9223372036854775808):AW ((a * 2 ^ i:Nat):Int) (y:Int) = ((a * 2 ^ i+y:Nat):Int):=by
 unfold AW
 have e:((BitVec.ofInt IntKind.i64.bits ((a * 2 ^ i:Nat):Int))|||BitVec.ofInt IntKind.i64.bits (y:Int)).toNat = a * 2 ^ i+y:=by
  rw[BitVec.ofInt_natCast,BitVec.ofInt_natCast]
  have hb64:IntKind.i64.bits = 64:=rfl
  rw[BitVec.toNat_or,BitVec.toNat_ofNat,BitVec.toNat_ofNat,hb64,Nat.mod_eq_of_lt OM,Nat.mod_eq_of_lt OM]
  have:=Nat.two_pow_add_eq_or_of_lt (i:=i) (b:=y) hy a
  rw[Nat.mul_comm]at this
  exact this.symm
 rw[e]
 rw[wO]
theorem Kc(a b:Nat)(ha:a < 256)(hb:b < 256):AW (IntKind.i64.wrap ((a:Int) * 256)) b = (a:Int) * 256+b:=Dl a b ha hb
theorem Kb(a b c d:Nat)(ha:a < 256)(hb:b < 256)(hc:c < 256)(hd:d < 256):AW (AW (AW (IntKind.i64.wrap ((a:Int) * 16777216)) (IntKind.i64.wrap ((b:Int) * 65536))) (IntKind.i64.wrap ((c:Int) * 256))) d = (a:Int) * 16777216+ (b:Int) * 65536+ (c:Int) * 256+d:=by
 rw[wO,wO,wO]
 have f1:((a * 16777216:Nat):Int) = (a:Int) * 16777216:=by rw[Int.natCast_mul];rfl
 have f2:((b * 65536:Nat):Int) = (b:Int) * 65536:=by rw[Int.natCast_mul];rfl
 have f3:a * 16777216+b * 65536 = (a * 256+b) * 65536:=by rw[Nat.add_mul,Nat.mul_assoc]
 have f4:((c * 256:Nat):Int) = (c:Int) * 256:=by rw[Int.natCast_mul];rfl
 have f5:(a * 256+b) * 65536+c * 256 = ((a * 256+b) * 256+c) * 256:=by rw[Nat.add_mul ((a * 256+b) * 256) c 256,Nat.mul_assoc (a * 256+b) 256 256]
 have f6:((((a * 256+b) * 256+c) * 256+d:Nat):Int) = (a:Int) * 16777216+ (b:Int) * 65536+ (c:Int) * 256+d:=by omega
 have e1:=wK a 24 (b * 65536) OM OM
 have e2:=wK (a * 256+b) 16 (c * 256) OM (by clear e1;omega)
 have e3:=wK ((a * 256+b) * 256+c) 8 d (by clear e1 e2;omega) (by clear e1 e2;omega)
 simp only[Nat.reducePow]at e1 e2 e3
 rw[f1,f2]at e1
 rw[e1]
 rw[f4]at e2
 rw[f3,e2]
 rw[f5,e3,f6]
theorem kQ{m:Message}{s key:ByteArray}(h:¬s.size < 19):dz m key = s↔bw m∧key.size≤30∧cN m = s.extract 8 s.size∧s.extract 0 8 = ee (s.extract 8 s.size) key:=by
 unfold dz
 constructor
 ·intro e
  by_cases hc:bw m∧key.size≤30
  ·rw[if_pos hc]at e
   have h8:(ee (cN m) key).size = 8:=gt _
   have hb:s.extract 8 s.size = cN m:=by
    rw[←e,ByteArray.size_append,h8,ByteArray.extract_append_eq_right h8.symm OM]
   have hs:s.extract 0 8 = ee (cN m) key:=by
    rw[←e,ByteArray.extract_append_eq_left h8.symm]
   exact⟨hc.1,hc.2,hb.symm,by rw[hs,hb]⟩
  ·rw[if_neg hc]at e
   rw[←e]at h
   exact absurd (show emp.size < 19 by decide) h
 ·rintro⟨h1,h2,h3,h4⟩
  rw[if_pos ⟨h1,h2⟩,h3,←h4,ByteArray.extract_append_extract,Nat.min_eq_left OM,Nat.max_eq_right OM,ByteArray.extract_zero_size]
theorem tL(r:ByteArray):∀ n,8 * n≤r.size→gN (bP r n) = r.extract 0 (8 * n)
 |0,_=>by
  have:(r.extract 0 (8 * 0)).size = 0:=by rw[ByteArray.size_extract];omega
  rw[show bP r 0 = []from rfl,gN];exact(ByteArray.size_eq_zero_iff.1 this).symm
 |n+1,h=>by
  rw[mG,wZ,tL r n OM,gN,gN,BE,ByteArray.extract_append_extract,Nat.min_eq_left OM,Nat.max_eq_right OM]
  rfl
theorem Ny(s:ByteArray)(h:11≤s.size):bl [byt s 0,byt s 1,byt s 2,byt s 3,byt s 4,byt s 5,byt s 6,byt s 7,byt s 8,byt s 9,byt s 10] ++s.extract 11 s.size = s:=by
 obtain⟨⟨l⟩⟩:=s
 match l,h with
 |a :: b :: c :: d :: e :: f :: g :: i :: j :: k :: q :: r,_ =>
  rw[sw (c:=a) rfl,sw (c:=b) rfl,sw (c:=c) rfl,sw (c:=d) rfl,sw (c:=e) rfl,sw (c:=f) rfl,sw (c:=g) rfl,sw (c:=i) rfl,sw (c:=j) rfl,sw (c:=k) rfl,sw (c:=q) rfl]
  apply ByteArray.ext
  rw[ByteArray.data_append,ByteArray.data_extract]
  apply Array.ext'
  simp[bl,ByteArray.size]
theorem PO{a0 a1 a2 a3 a4 a5 a6 a7 a8 a9 a10:Int}{r:ByteArray}(h:0≤a10∧a10≤255):byt (bl [a0,a1,a2,a3,a4,a5,a6,a7,a8,a9,a10] ++r) 10 = a10:=by
 obtain⟨⟨l⟩⟩:=r
 have e:bl [a0,a1,a2,a3,a4,a5,a6,a7,a8,a9,a10] ++ ⟨⟨l⟩⟩ = ⟨⟨(bl [a0,a1,a2,a3,a4,a5,a6,a7,a8,a9,a10]).data.toList++l⟩⟩:=by
  apply ByteArray.ext
  rw[ByteArray.data_append]
  apply Array.ext'
  simp
 rw[e,sw (c:=UInt8.ofNat a10.toNat) rfl]
 simp;omega
theorem nN(b:ByteArray):(rdM b).inputs.length = if byt b 0 = 3 then 0 else(b.size - 11) / 8:=by
 unfold rdM;dsimp only;split <;> simp[bP]
theorem KO{b:ByteArray}(h:11≤b.size)(hok:bw (rdM b)):cN (rdM b) = b↔byt b 10 = (rdM b).inputs.length∧(byt b 0≠3→b.size - 11 = 8 * ((b.size - 11) / 8)):=by
 have hx:(b.extract 11 b.size).size = b.size - 11:=by rw[ByteArray.size_extract];omega
 have hh:v4 (rdM b) = [byt b 0,byt b 1,byt b 2,byt b 3,byt b 4,byt b 5,byt b 6,byt b 7,byt b 8,byt b 9,((rdM b).inputs.length:Int)]:=by
  obtain⟨a3,e3,l3⟩:=dq b 3
  obtain⟨a4,e4,l4⟩:=dq b 4
  obtain⟨a5,e5,l5⟩:=dq b 5
  obtain⟨a6,e6,l6⟩:=dq b 6
  obtain⟨a7,e7,l7⟩:=dq b 7
  obtain⟨a8,e8,l8⟩:=dq b 8
  have f1:(rdM b).epoch = byt b 3 * 256+byt b 4:=rfl
  have f2:(rdM b).lease = byt b 5 * 16777216+byt b 6 * 65536+byt b 7 * 256+byt b 8:=rfl
  unfold v4
  rw[f1,f2,show(rdM b).kind = byt b 0 from rfl,show(rdM b).frm = byt b 1 from rfl,show(rdM b).to = byt b 2 from rfl,show(rdM b).task = byt b 9 from rfl]
  rw[e3,e4,e5,e6,e7,e8]
  congr 3
  congr 1;omega
  congr 1;omega
  congr 1;omega
  congr 1;omega
  congr 1;omega
  congr 1;omega
 have hsp:=Ny b h
 have htl:byt b 0 = 3∨b.size - 11 = 8 * ((b.size - 11) / 8)→(rdM b).text++gN (rdM b).inputs = b.extract 11 b.size:=by
  intro h3
  unfold rdM;dsimp only
  by_cases hk:byt b 0 = 3
  ·rw[if_pos hk,if_pos hk,gN,BE]
  ·have h3:=h3.resolve_left hk
   rw[if_neg hk,if_neg hk,Fg,tL _ _ OM,←h3,←hx,ByteArray.extract_zero_size]
 have hbody:cN (rdM b) = bl (v4 (rdM b)) ++ ((rdM b).text++gN (rdM b).inputs):=by unfold cN;rw[ByteArray.append_assoc]
 constructor
 ·intro e
  have hn:(rdM b).inputs.length≤8:=(cG hok).1
  constructor
  ·have h1:=congrArg (fun x=>byt x 10) e
   rw[←h1,hbody,hh]
   exact PO OM
  ·intro hk
   have h2:=congrArg ByteArray.size e
   rw[fg hok,nN,if_neg hk]at h2
   have ht:(rdM b).text = emp:=if_neg hk
   rw[ht]at h2
   have h0:emp.size = 0:=rfl
   omega
 ·rintro⟨h1,h2⟩
  rw[hbody,htl (by by_cases hk:byt b 0 = 3;exact Or.inl hk;exact Or.inr (h2 hk)),hh,←h1]
  exact hsp
end Go.K
end
section
open Go Go.Tm Go.Proofs
namespace Go.K
attribute [local irreducible] ByteArray.extract
def fL(q:ByteArray)(n:Nat):ByteArray:=q.extract (8 * n) q.size
theorem vD(q:ByteArray):q = fL q 0:=by unfold fL;rw[Nat.mul_zero,ByteArray.extract_zero_size]
theorem iE(q:ByteArray)(n:Nat):(fL q n).size = q.size - 8 * n:=by unfold fL;rw[ByteArray.size_extract];omega
theorem EB{q:ByteArray}{n:Nat}(h:8 * n+8≤q.size):(fL q n).extract 0 8 = q.extract (8 * n) (8 * n+8):=by
 unfold fL;rw[ByteArray.extract_extract,Nat.min_eq_left OM,Nat.add_zero]
theorem vE(q:ByteArray)(n:Nat)(h:8 * n+8≤q.size):(fL q n).extract 8 (fL q n).size = fL q (n+1):=by
 rw[iE]
 unfold fL;rw[ByteArray.extract_extract,show 8 * n+8 = 8 * (n+1) by omega,show min (8 * n+ (q.size - 8 * n)) q.size = q.size by omega]
theorem Me{q:ByteArray}{n:Nat}(h:8 * n+8≤q.size):(bP q n).map ak++ [ak ((fL q n).extract 0 8)] = (bP q (n+1)).map ak:=by
 rw[mG,List.map_append,EB h];rfl
theorem za{q:ByteArray}{n:Nat}(h:¬8 * n < q.size):fL q n = ⟨#[]⟩:=ByteArray.size_eq_zero_iff.1 (by rw[iE];omega)
theorem vF{q:ByteArray}{n:Nat}(h:8 * n < q.size):¬fL q n = ⟨#[]⟩:=by
 intro e
 have:=congrArg ByteArray.size e
 rw[iE]at this
 have h0:(ByteArray.mk #[]).size = 0:=rfl
 omega
def eH(tx:ByteArray):ByteArray:=(ba tx).extract 8 (ba tx).size
theorem kq{tx key:ByteArray}(h0:¬tx.size < 19)(h:¬(bw (rdM (tx.extract 8 tx.size))∧cN (rdM (tx.extract 8 tx.size)) = tx.extract 8 tx.size)):cR tx key = none :=
 if_pos (Or.inr (fun e=>h ⟨((kQ h0).1 e).1,((kQ h0).1 e).2.2.1⟩))
theorem vK{tx key:ByteArray}{m:Message}(h0:¬tx.size < 19)(hk:key.size≤30)(hs:tx.extract 0 8 = ee (tx.extract 8 tx.size) key)(e:rdM (tx.extract 8 tx.size) = m)(h1:bw m)(h2:cN (rdM (tx.extract 8 tx.size)) = tx.extract 8 tx.size):cR tx key = some m :=
 nr h0 e ((kQ h0).2 ⟨h1,hk,e ▸ h2,hs⟩)
theorem hJ(tx key:ByteArray)(ht:tx.size≤68719476736):F oS [.val (.s tx),.val (.s key)] (ew (cR tx key)) [[],[]]:=by
 by_cases h0:tx.size < 19
 ·by_cases hk:key.size≤30
  ·refine cy ?_
   conv=>whnf
   refine g 0 0 []<|J UB<|W.sq<|gd 9 25 [[],[],[],[],[BF],[BF],[BF],[BF],[],[BT],[BT],[BT],[BT],[BT],[BT],[BT],[BT]] ?_
   conv=>whnf
   refine J ⟨I,I,I,I,⟨dO,I⟩,⟨dO,I⟩,⟨dO,I⟩,dO,I,tO,tO,tO,tO,tO,tO,tO,tO,I⟩<|J KR<|W.cn<|J (fun _=>(g 25 27 []<|J Zd6 (RT ?_))) (noF rfl)
   exact congrArg ew (ja h0).symm
  ·refine cy ?_
   conv=>whnf
   refine g 0 0 []<|J UB<|W.sq<|gd 9 25 [[],[],[],[],[BT],[BT],[BT],[BT],[],[BT],[BT],[BT],[BT],[BT],[BT],[BT],[BT]] ?_
   conv=>whnf
   refine J ⟨I,I,I,I,tO,tO,tO,tO,I,rfl,rfl,rfl,rfl,rfl,rfl,rfl,rfl,I⟩<|J KR<|W.cn<|J (fun _=>(g 25 27 []<|J Zd6 (RT ?_))) (noF rfl)
   exact congrArg ew (ja h0).symm
 by_cases hk:¬key.size≤30
 ·have e:cR tx key = none:=if_pos (Or.inr (fun h=>hk ((kQ h0).1 h).2.1))
  refine cy ?_
  conv=>whnf
  refine g 0 0 []<|J UB<|W.sq<|gd 9 25 [[],[],[],[],[BT],[BT],[BT],[BT],[],[BT],[BT],[BT],[BT],[BT],[BT],[BT],[BT]] ?_
  conv=>whnf
  refine J ⟨I,I,I,I,tO,tO,tO,tO,I,rfl,rfl,rfl,rfl,rfl,rfl,rfl,rfl,I⟩<|J KR<|W.cn<|J (fun _=>(g 25 27 []<|J Zd6 (RT ?_))) (noF rfl)
  exact congrArg ew e.symm
 have hx:(tx.extract 8 tx.size).size = tx.size - 8:=by rw[ByteArray.size_extract];omega
 have c1:=mI (tx.extract 8 tx.size) key OM OM
 by_cases hs:¬tx.extract 0 8 = ee (tx.extract 8 tx.size) key
 ·have e:cR tx key = none:=if_pos (Or.inr (fun h=>hs ((kQ h0).1 h).2.2.2))
  refine cy ?_
  conv=>whnf
  refine g 0 0 []<|J UB<|W.sq<|gd 9 25 [[],[],[],[],[BF],[BF],[BF],[BF],[],[BF],[BF,.n (8),.s (ByteArray.extract tx 0 8)],[BF],[BF,.n (8),.s (ByteArray.extract tx 8 (ByteArray.size tx))],[BF],[BF,.call (V.s (ee (ByteArray.extract tx 8 (ByteArray.size tx)) key)) [[],[]]],[BF],[BF]] ?_
  conv=>whnf
  refine J Zbh<|J KR<|W.cn<|J (fun _=>(g 25 27 []<|J Zd6 (RT ?_))) (noF (af OM))
  exact congrArg ew e.symm
 obtain⟨y1,hy1,hb1⟩:=bb (s:=tx.extract 8 tx.size) (n:=0) OM
 obtain⟨y2,hy2,hb2⟩:=bb (s:=tx.extract 8 tx.size) (n:=1) OM
 obtain⟨y3,hy3,hb3⟩:=bb (s:=tx.extract 8 tx.size) (n:=2) OM
 obtain⟨y4,hy4,hb4⟩:=bb (s:=tx.extract 8 tx.size) (n:=3) OM
 obtain⟨y5,hy5,hb5⟩:=bb (s:=tx.extract 8 tx.size) (n:=4) OM
 obtain⟨y6,hy6,hb6⟩:=bb (s:=tx.extract 8 tx.size) (n:=5) OM
 obtain⟨y7,hy7,hb7⟩:=bb (s:=tx.extract 8 tx.size) (n:=6) OM
 obtain⟨y8,hy8,hb8⟩:=bb (s:=tx.extract 8 tx.size) (n:=7) OM
 obtain⟨y9,hy9,hb9⟩:=bb (s:=tx.extract 8 tx.size) (n:=8) OM
 obtain⟨y10,hy10,hb10⟩:=bb (s:=tx.extract 8 tx.size) (n:=9) OM
 obtain⟨y11,hy11,hb11⟩:=bb (s:=tx.extract 8 tx.size) (n:=10) OM
 have f1:=Kc y4.toNat y5.toNat hb4 hb5
 have f2:=Kb y6.toNat y7.toNat y8.toNat y9.toNat hb6 hb7 hb8 hb9
 have hz:(ba tx).size = tx.size - 19:=by unfold ba;rw[ByteArray.size_extract,hx];omega
 have e:∀ t l,rdF (tx.extract 8 tx.size) t l = ⟨y1.toNat,y2.toNat,y3.toNat,(y4.toNat:Int) * 256+y5.toNat,(y6.toNat:Int) * 16777216+ (y7.toNat:Int) * 65536+ (y8.toNat:Int) * 256+y9.toNat,y10.toNat,t,l⟩:=by
  intro t l;simp only[rdF,bh hy1,bh hy2,bh hy3,bh hy4,bh hy5,bh hy6,bh hy7,bh hy8,bh hy9,bh hy10]
 have hb:=bh hy11
 have hbi:=@KO (tx.extract 8 tx.size) OM
 rw[hb,nN,bh hy1,hx]at hbi
 by_cases h3:(y1.toNat:Int) = 3
 ·have e1:rdM (tx.extract 8 tx.size) = ⟨y1.toNat,y2.toNat,y3.toNat,(y4.toNat:Int) * 256+y5.toNat,(y6.toNat:Int) * 16777216+ (y7.toNat:Int) * 65536+ (y8.toNat:Int) * 256+y9.toNat,y10.toNat,ba tx,[]⟩:=by
   rw[←e];unfold rdM rdF;rw[bh hy1,if_pos h3,if_pos h3];rfl
  rw[if_pos h3]at hbi
  have ho:bw (rdM (tx.extract 8 tx.size))→(ba tx).size = 8:=by
   rw[e1];unfold bw;dsimp only;omega
  have hq:8≤(ba tx).size→(eH tx).size = (ba tx).size - 8:=by intro h;unfold eH;rw[ByteArray.size_extract];omega
  refine cy ?_
  conv=>whnf
  refine g 0 0 []<|J UB<|W.sq<|gd 9 25 [[],[],[],[],[BF],[BF],[BF],[BF],[],[BF],[BF,.n (8),.s (ByteArray.extract tx 0 8)],[BF],[BF,.n (8),.s (ByteArray.extract tx 8 (ByteArray.size tx))],[BF],[BF,.call (V.s (ee (ByteArray.extract tx 8 (ByteArray.size tx)) key)) [[],[]]],[BF],[BF]] ?_
  conv=>whnf
  refine J Zbh<|J KR<|W.cn<|J (noT (by simp_all)) fun _=>W.skip<|g 25 29 [.n (8),.s (ByteArray.extract tx 8 (ByteArray.size tx))]<|J Zcl<|gd 29 68 [[],[.i ((↑(UInt8.toNat y1):Int))],[.i ((↑(UInt8.toNat y1):Int))],[],[.i ((↑(UInt8.toNat y2):Int))],[.i ((↑(UInt8.toNat y2):Int))],[],[.i ((↑(UInt8.toNat y3):Int))],[.i ((↑(UInt8.toNat y3):Int))],[],[.i ((↑(UInt8.toNat y4):Int))],[.i ((↑(UInt8.toNat y4):Int))],[.i (IntKind.wrap IntKind.i64 ((↑(UInt8.toNat y4):Int) * 2 ^ min (Int.toNat 8) (IntKind.bits IntKind.i64)))],[],[.i ((↑(UInt8.toNat y5):Int))],[.i ((↑(UInt8.toNat y5):Int))],[.i (IntKind.wrap IntKind.i64 (↑(BitVec.toNat (BitVec.ofInt (IntKind.bits IntKind.i64) (IntKind.wrap IntKind.i64 ((↑(UInt8.toNat y4):Int) * 2 ^ min (Int.toNat 8) (IntKind.bits IntKind.i64)))|||BitVec.ofInt (IntKind.bits IntKind.i64) (↑(UInt8.toNat y5):Int))):Int))],[],[.i ((↑(UInt8.toNat y6):Int))],[.i ((↑(UInt8.toNat y6):Int))],[.i (IntKind.wrap IntKind.i64 ((↑(UInt8.toNat y6):Int) * 2 ^ min (Int.toNat 24) (IntKind.bits IntKind.i64)))],[],[.i ((↑(UInt8.toNat y7):Int))],[.i ((↑(UInt8.toNat y7):Int))],[.i (IntKind.wrap IntKind.i64 ((↑(UInt8.toNat y7):Int) * 2 ^ min (Int.toNat 16) (IntKind.bits IntKind.i64)))],[.i (IntKind.wrap IntKind.i64 (↑(BitVec.toNat (BitVec.ofInt (IntKind.bits IntKind.i64) (IntKind.wrap IntKind.i64 ((↑(UInt8.toNat y6):Int) * 2 ^ min (Int.toNat 24) (IntKind.bits IntKind.i64)))|||BitVec.ofInt (IntKind.bits IntKind.i64) (IntKind.wrap IntKind.i64 ((↑(UInt8.toNat y7):Int) * 2 ^ min (Int.toNat 16) (IntKind.bits IntKind.i64))))):Int))],[],[.i ((↑(UInt8.toNat y8):Int))],[.i ((↑(UInt8.toNat y8):Int))],[.i (IntKind.wrap IntKind.i64 ((↑(UInt8.toNat y8):Int) * 2 ^ min (Int.toNat 8) (IntKind.bits IntKind.i64)))],[.i (IntKind.wrap IntKind.i64 (↑(BitVec.toNat (BitVec.ofInt (IntKind.bits IntKind.i64) (IntKind.wrap IntKind.i64 (↑(BitVec.toNat (BitVec.ofInt (IntKind.bits IntKind.i64) (IntKind.wrap IntKind.i64 ((↑(UInt8.toNat y6):Int) * 2 ^ min (Int.toNat 24) (IntKind.bits IntKind.i64)))|||BitVec.ofInt (IntKind.bits IntKind.i64) (IntKind.wrap IntKind.i64 ((↑(UInt8.toNat y7):Int) * 2 ^ min (Int.toNat 16) (IntKind.bits IntKind.i64))))):Int))|||BitVec.ofInt (IntKind.bits IntKind.i64) (IntKind.wrap IntKind.i64 ((↑(UInt8.toNat y8):Int) * 2 ^ min (Int.toNat 8) (IntKind.bits IntKind.i64))))):Int))],[],[.i ((↑(UInt8.toNat y9):Int))],[.i ((↑(UInt8.toNat y9):Int))],[.i (IntKind.wrap IntKind.i64 (↑(BitVec.toNat (BitVec.ofInt (IntKind.bits IntKind.i64) (IntKind.wrap IntKind.i64 (↑(BitVec.toNat (BitVec.ofInt (IntKind.bits IntKind.i64) (IntKind.wrap IntKind.i64 (↑(BitVec.toNat (BitVec.ofInt (IntKind.bits IntKind.i64) (IntKind.wrap IntKind.i64 ((↑(UInt8.toNat y6):Int) * 2 ^ min (Int.toNat 24) (IntKind.bits IntKind.i64)))|||BitVec.ofInt (IntKind.bits IntKind.i64) (IntKind.wrap IntKind.i64 ((↑(UInt8.toNat y7):Int) * 2 ^ min (Int.toNat 16) (IntKind.bits IntKind.i64))))):Int))|||BitVec.ofInt (IntKind.bits IntKind.i64) (IntKind.wrap IntKind.i64 ((↑(UInt8.toNat y8):Int) * 2 ^ min (Int.toNat 8) (IntKind.bits IntKind.i64))))):Int))|||BitVec.ofInt (IntKind.bits IntKind.i64) (↑(UInt8.toNat y9):Int))):Int))],[],[.i ((↑(UInt8.toNat y10):Int))],[.i ((↑(UInt8.toNat y10):Int))],[],[],[]] ?_
  conv=>whnf
  refine J ⟨I,⟨OM,ixb hy1⟩,w8 _,I,⟨OM,ixb hy2⟩,w8 _,I,⟨OM,ixb hy3⟩,w8 _,I,⟨OM,ixb hy4⟩,w8 _,Zdo,I,⟨OM,ixb hy5⟩,w8 _,rfl,I,⟨OM,ixb hy6⟩,w8 _,Zdo,I,⟨OM,ixb hy7⟩,w8 _,Zdo,rfl,I,⟨OM,ixb hy8⟩,w8 _,Zdo,rfl,I,⟨OM,ixb hy9⟩,w8 _,rfl,I,⟨OM,ixb hy10⟩,w8 _,I,I,UH,I⟩<|J KR<|g 68 71 [.i ((↑(UInt8.toNat y11):Int)),.i ((↑(UInt8.toNat y11):Int))]<|J ⟨I,⟨OM,ixb hy11⟩,w8 _,I,I⟩<|g 71 73 [.n (11),.s (ByteArray.extract (ByteArray.extract tx 8 (ByteArray.size tx)) 11 (ByteArray.size (ByteArray.extract tx 8 (ByteArray.size tx))))]<|J Zcl<|W.sq<|g 73 75 []<|J UC<|W.cn<|J (fun _=>(W.sq (g 75 78 []<|J UC (W.cn<|J (fun h1=>?_) fun h1=>?_)))) (noF tO)
  replace h1:=dt h1
  refine g 78 80 []<|J Zd6<|RT ?_
  rotate_left
  replace h1:=df h1
  refine W.skip<|rgd [[],[.n (8),.s (ByteArray.extract (ByteArray.extract (ByteArray.extract tx 8 (ByteArray.size tx)) 11 (ByteArray.size (ByteArray.extract tx 8 (ByteArray.size tx)))) 0 8)],[],[.n (8),.s (ByteArray.extract (ByteArray.extract (ByteArray.extract tx 8 (ByteArray.size tx)) 11 (ByteArray.size (ByteArray.extract tx 8 (ByteArray.size tx)))) 8 (ByteArray.size (ByteArray.extract (ByteArray.extract tx 8 (ByteArray.size tx)) 11 (ByteArray.size (ByteArray.extract tx 8 (ByteArray.size tx))))))],[],[],[]] ?_
  conv=>whnf
  refine J ⟨I,⟨rfl,I,OM,OM,rfl⟩,I,⟨I,rfl,OM,OM,rfl⟩,I,UA,I,I⟩<|J KR<|W.sq<|g 8 89 [.i (8 * (↑(UInt8.toNat y11):Int))]<|J ⟨I,I,I,wO,I,I⟩<|W.cn<|J (fun h2=>?_) fun h2=>?_
  replace h2:=ndt h2
  refine g 89 91 []<|J Zd6<|RT ?_
  rotate_left
  replace h2:=ndf h2
  refine W.skip<|W.sq<|W.blk ?_
  rotate_left
  ·replace h1:((ba tx).size:Int) < 8:=h1
   exact congrArg ew (kq h0 (fun h=>by have:=ho h.1;omega)).symm
  ·replace h1:¬((ba tx).size:Int) < 8:=h1
   replace h2:¬((eH tx).size:Int) = 8 * (y11.toNat:Int):=h2
   exact congrArg ew (kq h0 (fun h=>by have:=ho h.1;have:=((hbi h.1).1 h.2).1;omega)).symm
  ·replace h1:¬((ba tx).size:Int) < 8:=h1
   replace h2:((eH tx).size:Int) = 8 * (y11.toNat:Int):=h2
   refine W.lp (fun s (n:Nat)=>⟨[(0,s.s 0),(4,s.s 4),(5,s.s 5),(6,.s (fL (eH tx) n)),(7,s.s 7)],[(4,[s.c 4 0,s.c 4 1,s.c 4 2,s.c 4 3,s.c 4 4,s.c 4 5,s.c 4 6,s.c 4 7]),(7,[.t (.i y1.toNat),.t (.i y2.toNat),.t (.i y3.toNat),.t (.i ((y4.toNat:Int) * 256+y5.toNat)),.t (.i ((y6.toNat:Int) * 16777216+ (y7.toNat:Int) * 65536+ (y8.toNat:Int) * 256+y9.toNat)),.t (.i y10.toNat),.t (.s ((ba tx).extract 0 8)),.own [false] ((bP (eH tx) n).map ak)])],[]⟩) (fun(n:Nat)=>8 * n≤(eH tx).size) (fun(n:Nat)=>(eH tx).size - 8 * n) (0) [some 4,some 7] [] ⟨rfl,⟨rfl,rfl,rfl,(congrArg (fun z=>V.t (T.v (Value.string z))) (vD (eH tx))),rfl,I⟩,⟨Zab,⟨⟨rfl,⟨rfl,⟨rfl,⟨rfl,⟨(congrArg (fun z=>V.t (T.v (Value.int _ z))) (f1)),⟨(congrArg (fun z=>V.t (T.v (Value.int _ z))) (f2)),Zdy⟩⟩⟩⟩⟩⟩,I⟩⟩,I⟩ OM ?_
   intro n hn
   have hrz:=iE (eH tx) n
   have hcl:=pJ (eH tx) n
   have c2:=bU ⟨y1.toNat,y2.toNat,y3.toNat,(y4.toNat:Int) * 256+y5.toNat,(y6.toNat:Int) * 16777216+ (y7.toNat:Int) * 65536+ (y8.toNat:Int) * 256+y9.toNat,y10.toNat,(ba tx).extract 0 8,bP (eH tx) n⟩ (by rw[show(Message.inputs ⟨y1.toNat,y2.toNat,y3.toNat,(y4.toNat:Int) * 256+y5.toNat,(y6.toNat:Int) * 16777216+ (y7.toNat:Int) * 65536+ (y8.toNat:Int) * 256+y9.toNat,y10.toNat,(ba tx).extract 0 8,bP (eH tx) n⟩) = bP (eH tx) n from rfl,hcl];omega)
   by_cases hn8:8 * n < (eH tx).size
   ·have hne:=vF hn8
    conv=>whnf
    refine W.sq<|g 91 92 []<|J UB<|W.cn<|J (fun _=>(W.skip (W.sq (W.blk (rgd [[],[],[],[.n (8),.s (ByteArray.extract (fL (eH tx) n) 0 8)],[],[],[],[]] ?_))))) (noF (af OM))
    conv=>whnf
    refine⟨⟨I,I,I,⟨rfl,I,OM,OM,rfl⟩,US,Zde,I,UA,I⟩,by kernel_rfl,?_⟩
    refine rg [.n (8),.s (ByteArray.extract (fL (eH tx) n) 8 (ByteArray.size (fL (eH tx) n)))] ?_
    conv=>whnf
    refine⟨⟨I,⟨I,rfl,OM,OM,rfl⟩,I,I⟩,?_⟩
    ·refine⟨n+1,[some 4,some 7],[],⟨rfl,⟨rfl,rfl,rfl,(congrArg (fun z=>V.t (T.v (Value.string z))) (vE (eH tx) n OM)),rfl,I⟩,⟨Zab,⟨⟨rfl,⟨rfl,⟨rfl,⟨rfl,⟨rfl,⟨rfl,⟨rfl,⟨rfl,⟨(congrArg (V.own _) (Me OM)),I⟩⟩⟩⟩⟩⟩⟩⟩⟩,I⟩⟩,I⟩,?_,?_⟩
     rotate_left
     (dsimp only;omega)
     dsimp only
     omega
   ·have heq:=za hn8
    have em:n = 0→(ba tx).size = 8→rdM (tx.extract 8 tx.size) = ⟨y1.toNat,y2.toNat,y3.toNat,(y4.toNat:Int) * 256+y5.toNat,(y6.toNat:Int) * 16777216+ (y7.toNat:Int) * 65536+ (y8.toNat:Int) * 256+y9.toNat,y10.toNat,(ba tx).extract 0 8,bP (eH tx) n⟩:=by
     intro hn0 h8
     rw[e1,hn0,show bP (eH tx) 0 = []from rfl]
     rw[show(ba tx).extract 0 8 = ba tx by rw[←h8,ByteArray.extract_zero_size]]
    conv=>whnf
    refine W.sq<|g 91 92 []<|J UB<|W.cn<|J (noT nO) fun _=>W.exit<|W.sq<|g 92 104 [.call (V.b (decide (bw {kind:=(↑(UInt8.toNat y1):Int),frm:=(↑(UInt8.toNat y2):Int),to:=(↑(UInt8.toNat y3):Int),epoch:=(↑(UInt8.toNat y4):Int) * 256+ (↑(UInt8.toNat y5):Int),lease:=(↑(UInt8.toNat y6):Int) * 16777216+ (↑(UInt8.toNat y7):Int) * 65536+ (↑(UInt8.toNat y8):Int) * 256+ (↑(UInt8.toNat y9):Int),task:=(↑(UInt8.toNat y10):Int),text:=ByteArray.extract (ba tx) 0 8,inputs:=bP (eH tx) n:Message}))) [[]]]<|J ⟨I,Zb7,I,I⟩<|W.cn<|J (fun h4=>?_) fun h4=>?_
    replace h4:=ndt h4
    refine g 104 106 []<|J Zd6<|RT ?_
    rotate_left
    replace h4:=ndf h4
    refine W.skip<|g 6 107 []<|J Zd6<|RT ?_
    rotate_left
    ·exact congrArg ew (kq h0 (fun h=>by
      have h4:=ho h.1
      have h5:=((hbi h.1).1 h.2).1
      rw[em OM h4]at h
      exact absurd h.1 AS)).symm
    ·have hok:bw ⟨y1.toNat,y2.toNat,y3.toNat,(y4.toNat:Int) * 256+y5.toNat,(y6.toNat:Int) * 16777216+ (y7.toNat:Int) * 65536+ (y8.toNat:Int) * 256+y9.toNat,y10.toNat,(ba tx).extract 0 8,bP (eH tx) n⟩:=by assumption
     have hn0:n = 0:=by
      have:(bP (eH tx) n).length = 0:=by
       unfold bw at hok;dsimp only at hok;omega
      omega
     have h8:(ba tx).size = 8:=by omega
     exact congrArg ew (vK h0 OM (Decidable.not_not.1 hs) (em hn0 h8) hok ((hbi (by rw[em hn0 h8];exact hok)).2 ⟨by omega,fun h=>absurd h3 h⟩)).symm
 ·rw[if_neg h3]at hbi
  have e1:∀ n,n = (tx.size - 19) / 8→rdM (tx.extract 8 tx.size) = ⟨y1.toNat,y2.toNat,y3.toNat,(y4.toNat:Int) * 256+y5.toNat,(y6.toNat:Int) * 16777216+ (y7.toNat:Int) * 65536+ (y8.toNat:Int) * 256+y9.toNat,y10.toNat,emp,bP (ba tx) n⟩:=by
   intro n hn;rw[←e];unfold rdM rdF;rw[bh hy1,if_neg h3,if_neg h3,hn,hx,ba,hx,show tx.size - 8 - 11 = tx.size - 19 by omega]
  refine cy ?_
  conv=>whnf
  refine g 0 0 []<|J UB<|W.sq<|gd 9 25 [[],[],[],[],[BF],[BF],[BF],[BF],[],[BF],[BF,.n (8),.s (ByteArray.extract tx 0 8)],[BF],[BF,.n (8),.s (ByteArray.extract tx 8 (ByteArray.size tx))],[BF],[BF,.call (V.s (ee (ByteArray.extract tx 8 (ByteArray.size tx)) key)) [[],[]]],[BF],[BF]] ?_
  conv=>whnf
  refine J Zbh<|J KR<|W.cn<|J (noT (by simp_all)) fun _=>W.skip<|g 25 29 [.n (8),.s (ByteArray.extract tx 8 (ByteArray.size tx))]<|J Zcl<|gd 29 68 [[],[.i ((↑(UInt8.toNat y1):Int))],[.i ((↑(UInt8.toNat y1):Int))],[],[.i ((↑(UInt8.toNat y2):Int))],[.i ((↑(UInt8.toNat y2):Int))],[],[.i ((↑(UInt8.toNat y3):Int))],[.i ((↑(UInt8.toNat y3):Int))],[],[.i ((↑(UInt8.toNat y4):Int))],[.i ((↑(UInt8.toNat y4):Int))],[.i (IntKind.wrap IntKind.i64 ((↑(UInt8.toNat y4):Int) * 2 ^ min (Int.toNat 8) (IntKind.bits IntKind.i64)))],[],[.i ((↑(UInt8.toNat y5):Int))],[.i ((↑(UInt8.toNat y5):Int))],[.i (IntKind.wrap IntKind.i64 (↑(BitVec.toNat (BitVec.ofInt (IntKind.bits IntKind.i64) (IntKind.wrap IntKind.i64 ((↑(UInt8.toNat y4):Int) * 2 ^ min (Int.toNat 8) (IntKind.bits IntKind.i64)))|||BitVec.ofInt (IntKind.bits IntKind.i64) (↑(UInt8.toNat y5):Int))):Int))],[],[.i ((↑(UInt8.toNat y6):Int))],[.i ((↑(UInt8.toNat y6):Int))],[.i (IntKind.wrap IntKind.i64 ((↑(UInt8.toNat y6):Int) * 2 ^ min (Int.toNat 24) (IntKind.bits IntKind.i64)))],[],[.i ((↑(UInt8.toNat y7):Int))],[.i ((↑(UInt8.toNat y7):Int))],[.i (IntKind.wrap IntKind.i64 ((↑(UInt8.toNat y7):Int) * 2 ^ min (Int.toNat 16) (IntKind.bits IntKind.i64)))],[.i (IntKind.wrap IntKind.i64 (↑(BitVec.toNat (BitVec.ofInt (IntKind.bits IntKind.i64) (IntKind.wrap IntKind.i64 ((↑(UInt8.toNat y6):Int) * 2 ^ min (Int.toNat 24) (IntKind.bits IntKind.i64)))|||BitVec.ofInt (IntKind.bits IntKind.i64) (IntKind.wrap IntKind.i64 ((↑(UInt8.toNat y7):Int) * 2 ^ min (Int.toNat 16) (IntKind.bits IntKind.i64))))):Int))],[],[.i ((↑(UInt8.toNat y8):Int))],[.i ((↑(UInt8.toNat y8):Int))],[.i (IntKind.wrap IntKind.i64 ((↑(UInt8.toNat y8):Int) * 2 ^ min (Int.toNat 8) (IntKind.bits IntKind.i64)))],[.i (IntKind.wrap IntKind.i64 (↑(BitVec.toNat (BitVec.ofInt (IntKind.bits IntKind.i64) (IntKind.wrap IntKind.i64 (↑(BitVec.toNat (BitVec.ofInt (IntKind.bits IntKind.i64) (IntKind.wrap IntKind.i64 ((↑(UInt8.toNat y6):Int) * 2 ^ min (Int.toNat 24) (IntKind.bits IntKind.i64)))|||BitVec.ofInt (IntKind.bits IntKind.i64) (IntKind.wrap IntKind.i64 ((↑(UInt8.toNat y7):Int) * 2 ^ min (Int.toNat 16) (IntKind.bits IntKind.i64))))):Int))|||BitVec.ofInt (IntKind.bits IntKind.i64) (IntKind.wrap IntKind.i64 ((↑(UInt8.toNat y8):Int) * 2 ^ min (Int.toNat 8) (IntKind.bits IntKind.i64))))):Int))],[],[.i ((↑(UInt8.toNat y9):Int))],[.i ((↑(UInt8.toNat y9):Int))],[.i (IntKind.wrap IntKind.i64 (↑(BitVec.toNat (BitVec.ofInt (IntKind.bits IntKind.i64) (IntKind.wrap IntKind.i64 (↑(BitVec.toNat (BitVec.ofInt (IntKind.bits IntKind.i64) (IntKind.wrap IntKind.i64 (↑(BitVec.toNat (BitVec.ofInt (IntKind.bits IntKind.i64) (IntKind.wrap IntKind.i64 ((↑(UInt8.toNat y6):Int) * 2 ^ min (Int.toNat 24) (IntKind.bits IntKind.i64)))|||BitVec.ofInt (IntKind.bits IntKind.i64) (IntKind.wrap IntKind.i64 ((↑(UInt8.toNat y7):Int) * 2 ^ min (Int.toNat 16) (IntKind.bits IntKind.i64))))):Int))|||BitVec.ofInt (IntKind.bits IntKind.i64) (IntKind.wrap IntKind.i64 ((↑(UInt8.toNat y8):Int) * 2 ^ min (Int.toNat 8) (IntKind.bits IntKind.i64))))):Int))|||BitVec.ofInt (IntKind.bits IntKind.i64) (↑(UInt8.toNat y9):Int))):Int))],[],[.i ((↑(UInt8.toNat y10):Int))],[.i ((↑(UInt8.toNat y10):Int))],[],[],[]] ?_
  conv=>whnf
  refine J ⟨I,⟨OM,ixb hy1⟩,w8 _,I,⟨OM,ixb hy2⟩,w8 _,I,⟨OM,ixb hy3⟩,w8 _,I,⟨OM,ixb hy4⟩,w8 _,Zdo,I,⟨OM,ixb hy5⟩,w8 _,rfl,I,⟨OM,ixb hy6⟩,w8 _,Zdo,I,⟨OM,ixb hy7⟩,w8 _,Zdo,rfl,I,⟨OM,ixb hy8⟩,w8 _,Zdo,rfl,I,⟨OM,ixb hy9⟩,w8 _,rfl,I,⟨OM,ixb hy10⟩,w8 _,I,I,UH,I⟩<|J KR<|g 68 71 [.i ((↑(UInt8.toNat y11):Int)),.i ((↑(UInt8.toNat y11):Int))]<|J ⟨I,⟨OM,ixb hy11⟩,w8 _,I,I⟩<|g 71 73 [.n (11),.s (ByteArray.extract (ByteArray.extract tx 8 (ByteArray.size tx)) 11 (ByteArray.size (ByteArray.extract tx 8 (ByteArray.size tx))))]<|J Zcl<|W.sq<|g 73 75 []<|J UC<|W.cn<|J (noT dO) fun _=>W.skip<|W.sq<|g 8 89 [.i (8 * (↑(UInt8.toNat y11):Int))]<|J ⟨I,I,I,wO,I,I⟩<|W.cn<|J (fun h1=>?_) fun h1=>?_
  replace h1:=ndt h1
  refine g 89 91 []<|J Zd6<|RT ?_
  rotate_left
  replace h1:=ndf h1
  refine W.skip<|W.sq<|W.blk ?_
  rotate_left
  ·replace h1:¬((ba tx).size:Int) = 8 * (y11.toNat:Int):=h1
   exact congrArg ew (kq h0 (fun h=>by have h5:=(hbi h.1).1 h.2;have:=h5.2 h3;omega)).symm
  ·replace h1:((ba tx).size:Int) = 8 * (y11.toNat:Int):=h1
   refine W.lp (fun s (n:Nat)=>⟨[(0,s.s 0),(4,s.s 4),(5,s.s 5),(6,.s (fL (ba tx) n)),(7,s.s 7)],[(4,[s.c 4 0,s.c 4 1,s.c 4 2,s.c 4 3,s.c 4 4,s.c 4 5,s.c 4 6,s.c 4 7]),(7,[.t (.i y1.toNat),.t (.i y2.toNat),.t (.i y3.toNat),.t (.i ((y4.toNat:Int) * 256+y5.toNat)),.t (.i ((y6.toNat:Int) * 16777216+ (y7.toNat:Int) * 65536+ (y8.toNat:Int) * 256+y9.toNat)),.t (.i y10.toNat),.t (.s emp),.own [false] ((bP (ba tx) n).map ak)])],[]⟩) (fun(n:Nat)=>8 * n≤(ba tx).size) (fun(n:Nat)=>(ba tx).size - 8 * n) (0) [some 4,some 7] [] ⟨rfl,⟨rfl,rfl,rfl,(congrArg (fun z=>V.t (T.v (Value.string z))) (vD (ba tx))),rfl,I⟩,⟨Zab,⟨⟨rfl,⟨rfl,⟨rfl,⟨rfl,⟨(congrArg (fun z=>V.t (T.v (Value.int _ z))) (f1)),⟨(congrArg (fun z=>V.t (T.v (Value.int _ z))) (f2)),Zdy⟩⟩⟩⟩⟩⟩,I⟩⟩,I⟩ OM ?_
   intro n hn
   have hrz:=iE (ba tx) n
   have hcl:=pJ (ba tx) n
   have c2:=bU ⟨y1.toNat,y2.toNat,y3.toNat,(y4.toNat:Int) * 256+y5.toNat,(y6.toNat:Int) * 16777216+ (y7.toNat:Int) * 65536+ (y8.toNat:Int) * 256+y9.toNat,y10.toNat,emp,bP (ba tx) n⟩ (by rw[show(Message.inputs ⟨y1.toNat,y2.toNat,y3.toNat,(y4.toNat:Int) * 256+y5.toNat,(y6.toNat:Int) * 16777216+ (y7.toNat:Int) * 65536+ (y8.toNat:Int) * 256+y9.toNat,y10.toNat,emp,bP (ba tx) n⟩) = bP (ba tx) n from rfl,hcl];omega)
   by_cases hn8:8 * n < (ba tx).size
   ·have hne:=vF hn8
    conv=>whnf
    refine W.sq<|g 91 92 []<|J UB<|W.cn<|J (fun _=>(W.skip (W.sq (W.blk (rgd [[],[],[],[.n (8),.s (ByteArray.extract (fL (ba tx) n) 0 8)],[],[],[],[]] ?_))))) (noF (af OM))
    conv=>whnf
    refine⟨⟨I,I,I,⟨rfl,I,OM,OM,rfl⟩,US,Zde,I,UA,I⟩,by kernel_rfl,?_⟩
    refine rg [.n (8),.s (ByteArray.extract (fL (ba tx) n) 8 (ByteArray.size (fL (ba tx) n)))] ?_
    conv=>whnf
    refine⟨⟨I,⟨I,rfl,OM,OM,rfl⟩,I,I⟩,?_⟩
    ·refine⟨n+1,[some 4,some 7],[],⟨rfl,⟨rfl,rfl,rfl,(congrArg (fun z=>V.t (T.v (Value.string z))) (vE (ba tx) n OM)),rfl,I⟩,⟨Zab,⟨⟨rfl,⟨rfl,⟨rfl,⟨rfl,⟨rfl,⟨rfl,⟨rfl,⟨rfl,⟨(congrArg (V.own _) (Me OM)),I⟩⟩⟩⟩⟩⟩⟩⟩⟩,I⟩⟩,I⟩,?_,?_⟩
     rotate_left
     (dsimp only;omega)
     dsimp only
     omega
   ·have heq:=za hn8
    have em:=e1 n OM
    conv=>whnf
    refine W.sq<|g 91 92 []<|J UB<|W.cn<|J (noT nO) fun _=>W.exit<|W.sq<|g 92 104 [.call (V.b (decide (bw {kind:=(↑(UInt8.toNat y1):Int),frm:=(↑(UInt8.toNat y2):Int),to:=(↑(UInt8.toNat y3):Int),epoch:=(↑(UInt8.toNat y4):Int) * 256+ (↑(UInt8.toNat y5):Int),lease:=(↑(UInt8.toNat y6):Int) * 16777216+ (↑(UInt8.toNat y7):Int) * 65536+ (↑(UInt8.toNat y8):Int) * 256+ (↑(UInt8.toNat y9):Int),task:=(↑(UInt8.toNat y10):Int),text:=emp,inputs:=bP (ba tx) n:Message}))) [[]]]<|J ⟨I,Zb7,I,I⟩<|W.cn<|J (fun h2=>?_) fun h2=>?_
    replace h2:=ndt h2
    refine g 104 106 []<|J Zd6<|RT ?_
    rotate_left
    replace h2:=ndf h2
    refine W.skip<|g 6 107 []<|J Zd6<|RT ?_
    rotate_left
    ·exact congrArg ew (kq h0 (fun h=>by rw[em]at h;exact absurd h.1 AS)).symm
    ·have hok:bw ⟨y1.toNat,y2.toNat,y3.toNat,(y4.toNat:Int) * 256+y5.toNat,(y6.toNat:Int) * 16777216+ (y7.toNat:Int) * 65536+ (y8.toNat:Int) * 256+y9.toNat,y10.toNat,emp,bP (ba tx) n⟩:=by assumption
     exact congrArg ew (vK h0 OM (Decidable.not_not.1 hs) em hok ((hbi (by rw[em];exact hok)).2 ⟨by omega,fun h=>by omega⟩)).symm
end Go.K
end
section
open Go Go.Tm Go.Proofs
namespace Go.K
structure Acted where
 worker:Worker
 out:List Message
 deriving DecidableEq
abbrev oI(x:Acted):V:=.agg [.t (.i x.worker.number),.t (.i x.worker.epoch),.t (.b x.worker.up),.t (.i x.worker.state),.t (.i x.worker.lease),.t (.i x.worker.task),.t (.i x.worker.cost),.t (.i x.worker.left),.own [false] (x.worker.inputs.map ak),.t (.s x.worker.text),.t (.i x.worker.since),.own bZ (x.out.map aF)]
abbrev vS:Acted:=⟨⟨0,0,false,0,0,0,0,0,[],emp,0⟩,[]⟩
def dL(w:Worker)(k:Int):Message:=⟨k,w.number,0,w.epoch,if k = 5 then 0 else w.lease,if k = 3 then w.task else 0,if k = 3 then w.text else emp,[]⟩
theorem bA(w:Worker)(k:Int)(hk:k = 2∨k = 3∨k = 5):F oO [.val (ea w),.val (.i k)] (bq (dL w k)) [[],[]]:=by
 rcases hk with rfl|rfl|rfl
 ·refine eP ?_
  conv=>whnf
  refine g 0 0 []<|J Zd2<|g 6 12 []<|J ⟨I,I,I,I,I,I,I,UH,I⟩<|W.sq<|g 0 1 []<|J UB<|W.cn<|J (fun _=>(rg []<|J UW (W.sq (g 12 18 []<|J UB (W.cn<|J (noT rfl) fun _=>(W.skip (g 5 26 []<|J ⟨I,UH,I⟩ (RT ?_)))))))) (noF rfl)
  rfl
 ·refine eP ?_
  conv=>whnf
  refine g 0 0 []<|J Zd2<|g 6 12 []<|J ⟨I,I,I,I,I,I,I,UH,I⟩<|W.sq<|g 0 1 []<|J UB<|W.cn<|J (fun _=>(rg []<|J UW (W.sq (g 12 18 []<|J UB (W.cn<|J (fun _=>(rgd [[],[],[],[],[],[],[],[]] ?_)) (noF rfl)))))) (noF rfl)
  conv=>whnf
  refine⟨⟨I,I,I,I,I,UA,I,UA,I⟩,by kernel_rfl,?_⟩
  refine g 5 26 []<|J ⟨I,UH,I⟩<|RT ?_
  rfl
 ·refine eP ?_
  conv=>whnf
  refine g 0 0 []<|J Zd2<|g 6 12 []<|J ⟨I,I,I,I,I,I,I,UH,I⟩<|W.sq<|g 0 1 []<|J UB<|W.cn<|J (noT rfl) fun _=>W.skip<|W.sq<|g 12 18 []<|J UB<|W.cn<|J (noT rfl) fun _=>W.skip<|g 5 26 []<|J ⟨I,UH,I⟩<|RT ?_
  rfl
def uE(ts:List Task)(k:Int):ByteArray:=((ts[k.toNat]?).map Task.name).getD emp
def aM(w:Worker):Int:=if w.since < 1000000 then w.since+1 else w.since
def eU(w:Worker)(ts:List Task):Worker:=⟨w.number,w.epoch,w.up,2,w.lease,w.task,0,w.left - 1,[],bO (uE ts w.task) w.inputs,0⟩
def bT(w:Worker)(s:Int):Worker:=⟨w.number,w.epoch,w.up,w.state,w.lease,w.task,w.cost,w.left,w.inputs,w.text,s⟩
def lm(w:Worker):Worker:=⟨w.number,w.epoch,w.up,w.state,w.lease,w.task,w.cost,w.left - 1,w.inputs,w.text,w.since⟩
def tU(w:Worker)(k:Int):Acted:=⟨bT w 0,[dL (bT w 0) k]⟩
def dW(w:Worker)(ts:List Task):Acted :=
 if w.up = false then⟨w,[]⟩else
 if w.state = 1 then
  if w.left - 1 = 0 then⟨eU w ts,[dL (eU w ts) 3]⟩
  else if 4≤aM w then tU (lm w) 2 else⟨bT (lm w) (aM w),[]⟩
 else if w.state = 2 then(if 4≤aM w then tU w 3 else⟨bT w (aM w),[]⟩)
 else if 3≤aM w then tU w 5 else⟨bT w (aM w),[]⟩
theorem Dm{w:Worker}(h:aq w):(1≤w.number∧w.number≤8)∧(1≤w.epoch∧w.epoch≤300)∧(0≤w.since∧w.since≤1000000):=⟨h.1,h.2.1,h.2.2.1⟩
theorem vQ{w:Worker}(h:aq w)(h1:w.state = 1):du w:=by
 rcases h.2.2.2.2 with q|q|q
 ·have:=q.1;omega
 ·exact q
 ·have:=q.1;omega
theorem wL{w:Worker}(h:aq w):w.state = 0∨w.state = 1∨w.state = 2:=by
 rcases h.2.2.2.2 with q|q|q
 ·exact .inl q.1
 ·exact .inr (.inl q.1)
 ·exact .inr (.inr q.1)
theorem sB{w:Worker}{ts:List Task}(h:w.up = false):dW w ts = ⟨w,[]⟩:=if_pos h
theorem km{w:Worker}{ts:List Task}(h:¬w.up = false)(h1:w.state = 1)(h2:w.left - 1 = 0):dW w ts = ⟨eU w ts,[dL (eU w ts) 3]⟩:=by rw[dW,if_neg h,if_pos h1,if_pos h2]
theorem kn{w:Worker}{ts:List Task}(h:¬w.up = false)(h1:w.state = 1)(h2:¬w.left - 1 = 0)(h4:4≤aM w):dW w ts = tU (lm w) 2:=by rw[dW,if_neg h,if_pos h1,if_neg h2,if_pos h4]
theorem sC{w:Worker}{ts:List Task}(h:¬w.up = false)(h1:w.state = 1)(h2:¬w.left - 1 = 0)(h4:¬4≤aM w):dW w ts = ⟨bT (lm w) (aM w),[]⟩:=by rw[dW,if_neg h,if_pos h1,if_neg h2,if_neg h4]
theorem ki{w:Worker}{ts:List Task}(h:¬w.up = false)(h1:w.state = 2)(h4:4≤aM w):dW w ts = tU w 3:=by rw[dW,if_neg h,if_neg OM,if_pos h1,if_pos h4]
theorem pf{w:Worker}{ts:List Task}(h:¬w.up = false)(h1:w.state = 2)(h4:¬4≤aM w):dW w ts = ⟨bT w (aM w),[]⟩:=by rw[dW,if_neg h,if_neg OM,if_pos h1,if_neg h4]
theorem kj{w:Worker}{ts:List Task}(h:¬w.up = false)(h1:w.state = 0)(h4:3≤aM w):dW w ts = tU w 5:=by rw[dW,if_neg h,if_neg OM,if_neg OM,if_pos h4]
theorem pg{w:Worker}{ts:List Task}(h:¬w.up = false)(h1:w.state = 0)(h4:¬3≤aM w):dW w ts = ⟨bT w (aM w),[]⟩:=by rw[dW,if_neg h,if_neg OM,if_neg OM,if_neg h4]
theorem A0{ts:List Task}{k:Int}{t:Task}(h:ts[k.toNat]? = some t):uE ts k = t.name:=by unfold uE;rw[h];rfl
theorem Ds{ts:List Task}{k:Int}(h:ts[k.toNat]? = none):uE ts k = emp:=by unfold uE;rw[h];rfl
theorem zJ{w:Worker}(h:du w):w.inputs.length≤8∧(∀ s∈w.inputs,s.size≤1048576)∧eX w.inputs≤64:=by
 obtain⟨h1,h2⟩:=h.2.2.2.2.1
 have:=wF (xs:=w.inputs) fun s hs=>Nat.le_of_eq (h1 s hs)
 exact⟨h2,fun s hs=>by have:=h1 s hs;omega,by omega⟩
noncomputable def ed(w:Worker)(p:Plan):Acted:=if aq w∧ai p.tasks = 0 then dW w p.tasks else vS
theorem cY{w:Worker}{p:Plan}(h:aq w)(h2:ai p.tasks = 0):ed w p = dW w p.tasks:=if_pos ⟨h,h2⟩
theorem o5(w:Worker)(p:Plan)(h:aq w)(hc:ai p.tasks = 0):F oN [.val (aA w),.val (cB p)] (oI (dW w p.tasks)) [[],[]]:=by
 obtain⟨⟨f1,f2⟩,⟨f3,f4⟩,f5,f6⟩:=Dm h
 by_cases hup:w.up = false
 ·refine aO ?_
  conv=>whnf
  refine g 0 0 []<|J Zb8<|W.sq<|g 7 9 []<|J UC<|W.cn<|J (fun _=>(g 9 12 []<|J ⟨I,I,UL,I⟩ (RT ?_))) (noF (nbT AS))
  rw[sB hup];rfl
 ·rcases wL h with h1|h1|h1
  ·skip
   by_cases hs:w.since < 1000000
   ·have e:aM w = w.since+1:=if_pos hs
    by_cases h4:3≤aM w
    ·have ct:=bA (bT w 0) 5 OM
     have h5:=h4
     rw[e]at h5
     refine aO ?_
     conv=>whnf
     refine g 0 0 []<|J Zb8<|W.sq<|g 7 9 []<|J UC<|W.cn<|J (noT SI) fun _=>W.skip<|W.sq<|g 9 14 []<|J UC<|W.cn<|J (fun _=>(rg [.i (w.since+1)]<|J Zbe (g 14 19 []<|J UA (W.sq (g 19 20 []<|J UB ?_))))) (noF tO)
     refine W.blk<|g 22 23 []<|J UB<|W.cn<|J (noT dO) fun _=>g 3 4 []<|J UB<|W.cn<|J (noT dO) fun _=>g 20 56 []<|J UB<|W.cn<|J (fun _=>(g 59 63 []<|J UC (W.cn<|J (fun _=>(rg []<|J UA (W.sq (g 63 65 []<|J UB ?_)))) (noF tO)))) (noF tO)
     refine W.cn<|J (noT rfl) fun _=>W.skip<|g 65 69 []<|J UV<|gd 5 75 [[],[],[],[.call (bq (dL (bT w 0) 5)) [[],[]]],[],[],[]] ?_
     conv=>whnf
     refine J Zao<|J KR<|RT ?_
     rw[kj hup h1 h4];rfl
    ·have h5:=h4
     rw[e]at h5
     refine aO ?_
     conv=>whnf
     refine g 0 0 []<|J Zb8<|W.sq<|g 7 9 []<|J UC<|W.cn<|J (noT SI) fun _=>W.skip<|W.sq<|g 9 14 []<|J UC<|W.cn<|J (fun _=>(rg [.i (w.since+1)]<|J Zbe (g 14 19 []<|J UA (W.sq (g 19 20 []<|J UB ?_))))) (noF tO)
     refine W.blk<|g 22 23 []<|J UB<|W.cn<|J (noT dO) fun _=>g 3 4 []<|J UB<|W.cn<|J (noT dO) fun _=>g 20 56 []<|J UB<|W.cn<|J (fun _=>(g 59 63 []<|J UC (W.cn<|J (noT dO) fun _=>(W.skip (W.sq (g 63 65 []<|J UB ?_)))))) (noF tO)
     refine W.cn<|J (fun _=>(g 65 68 []<|J ⟨I,I,UL,I⟩ (RT ?_))) (noF rfl)
     rw[pg hup h1 h4,e];rfl
   ·have e:aM w = w.since:=if_neg hs
    by_cases h4:3≤aM w
    ·have ct:=bA (bT w 0) 5 OM
     have h5:=h4
     rw[e]at h5
     refine aO ?_
     conv=>whnf
     refine g 0 0 []<|J Zb8<|W.sq<|g 7 9 []<|J UC<|W.cn<|J (noT SI) fun _=>W.skip<|W.sq<|g 9 14 []<|J UC<|W.cn<|J (noT dO) fun _=>W.skip<|g 14 15 []<|J UA<|W.sq<|g 19 20 []<|J UB ?_
     refine W.blk<|g 22 23 []<|J UB<|W.cn<|J (noT dO) fun _=>g 3 4 []<|J UB<|W.cn<|J (noT dO) fun _=>g 20 56 []<|J UB<|W.cn<|J (fun _=>(g 59 63 []<|J UC (W.cn<|J (fun _=>(rg []<|J UA (W.sq (g 63 65 []<|J UB ?_)))) (noF tO)))) (noF tO)
     refine W.cn<|J (noT rfl) fun _=>W.skip<|g 65 69 []<|J UV<|gd 5 75 [[],[],[],[.call (bq (dL (bT w 0) 5)) [[],[]]],[],[],[]] ?_
     conv=>whnf
     refine J Zao<|J KR<|RT ?_
     rw[kj hup h1 h4];rfl
    ·exfalso;omega
  ·have hb:=vQ h h1
   obtain⟨hl8,hes,htt⟩:=zJ hb
   obtain⟨_,⟨_,b3,b4⟩,⟨b5,b6⟩,⟨b7,b8⟩,_⟩:=hb
   by_cases hl:w.left - 1 = 0
   ·by_cases ht:w.task < p.tasks.length
    ·obtain⟨t,ht2⟩:=aj (xs:=p.tasks) (n:=w.task.toNat) OM
     obtain⟨⟨g1,g2⟩,_⟩:=bv hc ht2
     have cv:=qP t.name w.inputs OM OM hes
     have ct:=bA ⟨w.number,w.epoch,w.up,2,w.lease,w.task,0,w.left - 1,[],bO t.name w.inputs,0⟩ 3 OM
     refine aO ?_
     conv=>whnf
     refine g 0 0 []<|J Zb8<|W.sq<|g 7 9 []<|J UC<|W.cn<|J (noT SI) fun _=>W.skip<|W.sq<|g 9 14 []<|J UC<|W.cn<|J (fun h2=>?_) fun h2=>?_
     replace h2:=dt h2
     refine rg [.i (w.since+1)]<|J Zbe<|g 14 19 []<|J UA<|W.sq<|g 19 20 []<|J UB<|W.blk<|g 22 23 []<|J UB<|W.cn<|J (fun _=>(g 20 27 [.i (w.left - 1)]<|J Zbe (g 27 29 []<|J UC (W.cn<|J (fun _=>(g 29 30 []<|J UA (W.sq ?_))) (noF tO))))) (noF tO)
     refine g 30 35 []<|J UF<|W.cn<|J (fun _=>(rg [.x (aB t)]<|J Zcw (g 6 51 [.call (V.s (bO t.name w.inputs)) [[],[]]]<|J ⟨I,I,I,Zam,I,UA,I,UA,I,UA,I,UA,I⟩ (rg []<|J UA (W.sq (g 3 4 []<|J UB (W.cn<|J (noT rfl) fun _=>(W.skip (g 64 69 []<|J UV (gd 5 75 [[],[],[],[.call (bq (dL {number:=w.number,epoch:=w.epoch,up:=w.up,state:=2,lease:=w.lease,task:=w.task,cost:=0,left:=w.left - 1,inputs:=[],text:=bO t.name w.inputs,since:=0:Worker} 3)) [[],[]]],[],[],[]] ?_)))))))))) (noF SI)
     conv=>whnf
     refine⟨Zao,by kernel_rfl,?_⟩
     refine RT ?_
     rotate_left
     replace h2:=df h2
     refine W.skip<|g 14 15 []<|J UA<|W.sq<|g 19 20 []<|J UB<|W.blk<|g 22 23 []<|J UB<|W.cn<|J (fun _=>(g 20 27 [.i (w.left - 1)]<|J Zbe (g 27 29 []<|J UC (W.cn<|J (fun _=>(g 29 30 []<|J UA (W.sq ?_))) (noF tO))))) (noF tO)
     refine g 30 35 []<|J UF<|W.cn<|J (fun _=>(rg [.x (aB t)]<|J Zcw (g 6 51 [.call (V.s (bO t.name w.inputs)) [[],[]]]<|J ⟨I,I,I,Zam,I,UA,I,UA,I,UA,I,UA,I⟩ (rg []<|J UA (W.sq (g 3 4 []<|J UB (W.cn<|J (noT rfl) fun _=>(W.skip (g 64 69 []<|J UV (gd 5 75 [[],[],[],[.call (bq (dL {number:=w.number,epoch:=w.epoch,up:=w.up,state:=2,lease:=w.lease,task:=w.task,cost:=0,left:=w.left - 1,inputs:=[],text:=bO t.name w.inputs,since:=0:Worker} 3)) [[],[]]],[],[],[]] ?_)))))))))) (noF SI)
     conv=>whnf
     refine⟨Zao,by kernel_rfl,?_⟩
     refine RT ?_
     rotate_left
     all_goals (rw[km hup h1 hl,eU,A0 ht2];rfl)
    ·have ht2:p.tasks[w.task.toNat]? = none:=List.getElem?_eq_none OM
     have cv:=qP emp w.inputs (by decide) OM hes
     have ct:=bA ⟨w.number,w.epoch,w.up,2,w.lease,w.task,0,w.left - 1,[],bO emp w.inputs,0⟩ 3 OM
     refine aO ?_
     conv=>whnf
     refine g 0 0 []<|J Zb8<|W.sq<|g 7 9 []<|J UC<|W.cn<|J (noT SI) fun _=>W.skip<|W.sq<|g 9 14 []<|J UC<|W.cn<|J (fun h2=>?_) fun h2=>?_
     replace h2:=dt h2
     refine rg [.i (w.since+1)]<|J Zbe<|g 14 19 []<|J UA<|W.sq<|g 19 20 []<|J UB<|W.blk<|g 22 23 []<|J UB<|W.cn<|J (fun _=>(g 20 27 [.i (w.left - 1)]<|J Zbe (g 27 29 []<|J UC (W.cn<|J (fun _=>(g 29 30 []<|J UA (W.sq ?_))) (noF tO))))) (noF tO)
     refine g 30 35 []<|J UF<|W.cn<|J (noT SI) fun _=>W.skip<|g 6 51 [.call (V.s (bO emp w.inputs)) [[],[]]]<|J ⟨I,I,I,Zam,I,UA,I,UA,I,UA,I,UA,I⟩<|rg []<|J UA<|W.sq<|g 3 4 []<|J UB<|W.cn<|J (noT rfl) fun _=>W.skip<|g 64 69 []<|J UV<|gd 5 75 [[],[],[],[.call (bq (dL {number:=w.number,epoch:=w.epoch,up:=w.up,state:=2,lease:=w.lease,task:=w.task,cost:=0,left:=w.left - 1,inputs:=[],text:=bO emp w.inputs,since:=0:Worker} 3)) [[],[]]],[],[],[]] ?_
     conv=>whnf
     refine J Zao<|J KR<|RT ?_
     rotate_left
     replace h2:=df h2
     refine W.skip<|g 14 15 []<|J UA<|W.sq<|g 19 20 []<|J UB<|W.blk<|g 22 23 []<|J UB<|W.cn<|J (fun _=>(g 20 27 [.i (w.left - 1)]<|J Zbe (g 27 29 []<|J UC (W.cn<|J (fun _=>(g 29 30 []<|J UA (W.sq ?_))) (noF tO))))) (noF tO)
     refine g 30 35 []<|J UF<|W.cn<|J (noT SI) fun _=>W.skip<|g 6 51 [.call (V.s (bO emp w.inputs)) [[],[]]]<|J ⟨I,I,I,Zam,I,UA,I,UA,I,UA,I,UA,I⟩<|rg []<|J UA<|W.sq<|g 3 4 []<|J UB<|W.cn<|J (noT rfl) fun _=>W.skip<|g 64 69 []<|J UV<|gd 5 75 [[],[],[],[.call (bq (dL {number:=w.number,epoch:=w.epoch,up:=w.up,state:=2,lease:=w.lease,task:=w.task,cost:=0,left:=w.left - 1,inputs:=[],text:=bO emp w.inputs,since:=0:Worker} 3)) [[],[]]],[],[],[]] ?_
     conv=>whnf
     refine J Zao<|J KR<|RT ?_
     rotate_left
     all_goals (rw[km hup h1 hl,eU,Ds ht2];rfl)
   ·skip
    by_cases hs:w.since < 1000000
    ·have e:aM w = w.since+1:=if_pos hs
     by_cases h4:4≤aM w
     ·have ct:=bA (bT (lm w) 0) 2 OM
      have h5:=h4
      rw[e]at h5
      refine aO ?_
      conv=>whnf
      refine g 0 0 []<|J Zb8<|W.sq<|g 7 9 []<|J UC<|W.cn<|J (noT SI) fun _=>W.skip<|W.sq<|g 9 14 []<|J UC<|W.cn<|J (fun _=>(rg [.i (w.since+1)]<|J Zbe (g 14 19 []<|J UA (W.sq (g 19 20 []<|J UB ?_))))) (noF tO)
      refine W.blk<|g 22 23 []<|J UB<|W.cn<|J (fun _=>(g 20 27 [.i (w.left - 1)]<|J Zbe (g 27 29 []<|J UC (W.cn<|J (noT dO) fun _=>(g 29 53 []<|J UC (W.cn<|J (fun _=>(rg []<|J UA (W.sq (g 53 65 []<|J UB (W.cn<|J (noT rfl) fun _=>?_))))) (noF tO))))))) (noF tO)
      refine W.skip<|g 65 69 []<|J UV<|gd 5 75 [[],[],[],[.call (bq (dL (bT (lm w) 0) 2)) [[],[]]],[],[],[]] ?_
      conv=>whnf
      refine J Zao<|J KR<|RT ?_
      rw[kn hup h1 hl h4];rfl
     ·have h5:=h4
      rw[e]at h5
      refine aO ?_
      conv=>whnf
      refine g 0 0 []<|J Zb8<|W.sq<|g 7 9 []<|J UC<|W.cn<|J (noT SI) fun _=>W.skip<|W.sq<|g 9 14 []<|J UC<|W.cn<|J (fun _=>(rg [.i (w.since+1)]<|J Zbe (g 14 19 []<|J UA (W.sq (g 19 20 []<|J UB ?_))))) (noF tO)
      refine W.blk<|g 22 23 []<|J UB<|W.cn<|J (fun _=>(g 20 27 [.i (w.left - 1)]<|J Zbe (g 27 29 []<|J UC (W.cn<|J (noT dO) fun _=>(g 29 53 []<|J UC (W.cn<|J (noT dO) fun _=>(W.skip (W.sq (g 53 65 []<|J UB (W.cn<|J (fun _=>?_) (noF rfl))))))))))) (noF tO)
      refine g 65 68 []<|J ⟨I,I,UL,I⟩<|RT ?_
      rw[sC hup h1 hl h4,e];rfl
    ·have e:aM w = w.since:=if_neg hs
     by_cases h4:4≤aM w
     ·have ct:=bA (bT (lm w) 0) 2 OM
      have h5:=h4
      rw[e]at h5
      refine aO ?_
      conv=>whnf
      refine g 0 0 []<|J Zb8<|W.sq<|g 7 9 []<|J UC<|W.cn<|J (noT SI) fun _=>W.skip<|W.sq<|g 9 14 []<|J UC<|W.cn<|J (noT dO) fun _=>W.skip<|g 14 15 []<|J UA<|W.sq<|g 19 20 []<|J UB ?_
      refine W.blk<|g 22 23 []<|J UB<|W.cn<|J (fun _=>(g 20 27 [.i (w.left - 1)]<|J Zbe (g 27 29 []<|J UC (W.cn<|J (noT dO) fun _=>(g 29 53 []<|J UC (W.cn<|J (fun _=>(rg []<|J UA (W.sq (g 53 65 []<|J UB (W.cn<|J (noT rfl) fun _=>?_))))) (noF tO))))))) (noF tO)
      refine W.skip<|g 65 69 []<|J UV<|gd 5 75 [[],[],[],[.call (bq (dL (bT (lm w) 0) 2)) [[],[]]],[],[],[]] ?_
      conv=>whnf
      refine J Zao<|J KR<|RT ?_
      rw[kn hup h1 hl h4];rfl
     ·exfalso;omega
  ·skip
   by_cases hs:w.since < 1000000
   ·have e:aM w = w.since+1:=if_pos hs
    by_cases h4:4≤aM w
    ·have ct:=bA (bT w 0) 3 OM
     have h5:=h4
     rw[e]at h5
     refine aO ?_
     conv=>whnf
     refine g 0 0 []<|J Zb8<|W.sq<|g 7 9 []<|J UC<|W.cn<|J (noT SI) fun _=>W.skip<|W.sq<|g 9 14 []<|J UC<|W.cn<|J (fun _=>(rg [.i (w.since+1)]<|J Zbe (g 14 19 []<|J UA (W.sq (g 19 20 []<|J UB ?_))))) (noF tO)
     refine W.blk<|g 22 23 []<|J UB<|W.cn<|J (noT dO) fun _=>g 3 4 []<|J UB<|W.cn<|J (fun _=>(g 20 58 []<|J UC (W.cn<|J (fun _=>(rg []<|J UA (W.sq (g 58 65 []<|J UB (W.cn<|J (noT rfl) fun _=>(W.skip ?_)))))) (noF tO)))) (noF tO)
     refine g 65 69 []<|J UV<|gd 5 75 [[],[],[],[.call (bq (dL (bT w 0) 3)) [[],[]]],[],[],[]] ?_
     conv=>whnf
     refine J Zao<|J KR<|RT ?_
     rw[ki hup h1 h4];rfl
    ·have h5:=h4
     rw[e]at h5
     refine aO ?_
     conv=>whnf
     refine g 0 0 []<|J Zb8<|W.sq<|g 7 9 []<|J UC<|W.cn<|J (noT SI) fun _=>W.skip<|W.sq<|g 9 14 []<|J UC<|W.cn<|J (fun _=>(rg [.i (w.since+1)]<|J Zbe (g 14 19 []<|J UA (W.sq (g 19 20 []<|J UB ?_))))) (noF tO)
     refine W.blk<|g 22 23 []<|J UB<|W.cn<|J (noT dO) fun _=>g 3 4 []<|J UB<|W.cn<|J (fun _=>(g 20 58 []<|J UC (W.cn<|J (noT dO) fun _=>(W.skip (W.sq (g 58 65 []<|J UB (W.cn<|J (fun _=>(g 65 68 []<|J ⟨I,I,UL,I⟩ ?_)) (noF rfl)))))))) (noF tO)
     refine RT ?_
     rw[pf hup h1 h4,e];rfl
   ·have e:aM w = w.since:=if_neg hs
    by_cases h4:4≤aM w
    ·have ct:=bA (bT w 0) 3 OM
     have h5:=h4
     rw[e]at h5
     refine aO ?_
     conv=>whnf
     refine g 0 0 []<|J Zb8<|W.sq<|g 7 9 []<|J UC<|W.cn<|J (noT SI) fun _=>W.skip<|W.sq<|g 9 14 []<|J UC<|W.cn<|J (noT dO) fun _=>W.skip<|g 14 15 []<|J UA<|W.sq<|g 19 20 []<|J UB ?_
     refine W.blk<|g 22 23 []<|J UB<|W.cn<|J (noT dO) fun _=>g 3 4 []<|J UB<|W.cn<|J (fun _=>(g 20 58 []<|J UC (W.cn<|J (fun _=>(rg []<|J UA (W.sq (g 58 65 []<|J UB (W.cn<|J (noT rfl) fun _=>(W.skip ?_)))))) (noF tO)))) (noF tO)
     refine g 65 69 []<|J UV<|gd 5 75 [[],[],[],[.call (bq (dL (bT w 0) 3)) [[],[]]],[],[],[]] ?_
     conv=>whnf
     refine J Zao<|J KR<|RT ?_
     rw[ki hup h1 h4];rfl
    ·exfalso;omega
end Go.K
end
section
open Go Go.Tm Go.Proofs
namespace Go.K
theorem sr(b:Boss)(h1:b.log.safe.length≤1048576)(h2:b.log.loose.length≤1048576)(h3:b.results.length≤1048576)(h4:b.jobs.length≤1048576)(h5:b.seats.length≤1048576)(h6:b.owed.length≤1048576):F jS [.val (gm b)] (aG b) [[]]:=by
 refine sf ?_
 conv=>whnf
 refine g 0 0 []<|J ⟨UL,I,I⟩<|gd 3 13 [[],[],[],[.call (V.own [false] (List.map ak b.log.safe)) [[]]],[],[],[],[.call (V.own [false] (List.map ak b.log.loose)) [[]]],[],[],[]] ?_
 conv=>whnf
 refine J ⟨I,I,I,⟨UA,I,US,UA,dK _ OM⟩,I,I,I,⟨UA,I,US,UA,dK _ OM⟩,I,I,UB,I⟩<|J KR<|g 13 17 [.call (V.own [false] (List.map ak b.results)) [[]]]<|J ⟨I,I,⟨UA,I,US,UA,dK _ OM⟩,I,UA,I⟩<|g 17 22 []<|J Zb9<|g 22 27 []<|J Zb9<|g 27 32 []<|J Zb9<|g 0 2 []<|J Zdn<|RT ?_
 rfl
def gT(k:Int)(n:Nat):Nat:=if k < 0 then 0 else if k < n then k.toNat else n
theorem A9(k:Int)(n:Nat):gT k n≤n:=by
 unfold gT;split
 ·omega
 ·split <;> omega
theorem NZ(k:Int)(n:Nat):max 0 (min k (n:Int)) = (gT k n:Int):=by
 unfold gT;split
 ·omega
 ·split <;> omega
theorem PM(k:Int)(n:Nat)(h:n≤1048576):IntKind.i64.wrap (max 0 (min k (n:Int))) = (gT k n:Int):=by
 rw[NZ]
 have:=A9 k n
 exact wO
def gD(b:Boss)(k:Int):Boss:=if b.up = false then b else⟨b.workers,false,b.now,0,0,0,⟨b.log.safe++b.log.loose.take (gT k b.log.loose.length),[]⟩,[],[],[],[]⟩
theorem nz{b:Boss}{k:Int}(h:b.up = false):gD b k = b:=if_pos h
theorem we{b:Boss}{k:Int}(h:¬b.up = false):gD b k = ⟨b.workers,false,b.now,0,0,0,⟨b.log.safe++b.log.loose.take (gT k b.log.loose.length),[]⟩,[],[],[],[]⟩:=if_neg h
theorem kb(b:Boss)(k:Int)(h1:b.log.safe.length≤1048576)(h2:b.log.loose.length≤1048576):F rU [.ptr (cellsOf (aG b)),.val (.i k)] (.tup []) [cellsOf (aG (gD b k)),[]]:=by
 by_cases hup:b.up = false
 ·rw[nz hup]
  refine jY ?_
  conv=>whnf
  refine g 4 6 []<|J UD<|W.cn<|J (noT AS) fun _=>W.skip<|EndsW.nm<|J I (J ?_ rfl)
  rfl
 ·rw[we hup]
  have hcl:=A9 k b.log.loose.length
  have hw:IntKind.i64.wrap (max 0 (min k ((List.map ak b.log.loose).length:Int))) = (gT k b.log.loose.length:Int):=by rw[List.length_map];exact PM _ _ h2
  refine jY ?_
  conv=>whnf
  refine g 4 6 []<|J UD<|W.cn<|J (fun _=>(g 7 17 [.i (match false with|true=>max k (↑(List.length (List.map ak b.log.loose)):Int)|false=>min k (↑(List.length (List.map ak b.log.loose)):Int)),.i (IntKind.wrap IntKind.i64   (match true with   |true =>     max 0       (match false with       |true=>max k (↑(List.length (List.map ak b.log.loose)):Int)       |false=>min k (↑(List.length (List.map ak b.log.loose)):Int))   |false =>     min 0       (match false with       |true=>max k (↑(List.length (List.map ak b.log.loose)):Int)       |false=>min k (↑(List.length (List.map ak b.log.loose)):Int))))]<|J ⟨I,I,I,I,I,I,I,rfl,w64 LN LN,I,I⟩ (rgd [[],[],[],[],[],[],[],[],[],[],[],[],[],[],[],[],[],[],[],[],[.n (gT k (List.length b.log.loose))],[],[],[],[],[]] ?_))) (noF SI)
  conv=>whnf
  refine⟨⟨I,I,I,I,I,I,I,I,I,I,I,I,I,I,I,I,I,I,I,I,⟨I,hw,I,OM,LN⟩,Zde,I,I,I,UL,I⟩,by kernel_rfl,?_⟩
  refine EndsW.nm<|J I<|J ?_ ?_
  rfl
  all_goals (simp only[List.nil_append,List.drop_zero,List.length_map,←List.map_take,←List.map_append];rfl)
structure BossLim (b:Boss):Prop where
 safe:b.log.safe.length≤1048576
 loose:b.log.loose.length≤1048576
 all:∀ s∈b.log.safe++b.log.loose,s.size≤281474976710656
 res:b.results.length≤1048576
 jobs:b.jobs.length≤1048576
 seats:b.seats.length≤1048576
 owed:b.owed.length≤1048576
theorem wY(b:Boss)(p:Plan)(hp:cL p)(h:BossLim b):F jR [.val (gm b),.val (cB p)] (.b (decide (BossOk b p))) [[],[]]:=sm b p hp h.safe h.loose h.all h.res h.jobs h.seats h.owed
theorem m7(b:Boss)(p:Plan)(hp:cL p)(h:BossLim b):F jQ [.val (gm b),.val (cB p)] (.b (decide (BossOk b p))) [[],[]]:=sj b p hp h.safe h.loose h.all h.res h.jobs h.seats h.owed
theorem Ba(b:Boss)(h:BossLim b):F jS [.val (gm b)] (aG b) [[]]:=sr b h.safe h.loose h.res h.jobs h.seats h.owed
noncomputable def nD(b:Boss)(p:Plan)(k:Int):Boss:=if BossOk b p then gD b k else jo
theorem na{b:Boss}{p:Plan}{k:Int}(h:BossOk b p):nD b p k = gD b k:=if_pos h
end Go.K
end
section
open Go Go.Tm Go.Proofs
namespace Go.K
abbrev cE(w now:Int)(safe:List ByteArray):Boss:=⟨w,false,now,0,0,0,⟨safe,[]⟩,[],[],[],[]⟩
theorem Hn{b:Boss}(hup:b.up = false)(d:DownOk b):b = cE b.workers b.now b.log.safe:=by
 obtain⟨w,up,now,since,ep,given,⟨safe,loose⟩,rs,js,ss,ow⟩:=b
 obtain⟨d1,d2,d3,d4,d5,d6,d7,d8⟩:=d
 simp only at hup d1 d2 d3 d4 d5 d6 d7 d8
 subst hup d2 d3 d4
 rw[List.eq_nil_of_length_eq_zero d1,List.eq_nil_of_length_eq_zero d5,List.eq_nil_of_length_eq_zero d6,List.eq_nil_of_length_eq_zero d7,List.eq_nil_of_length_eq_zero d8]
def epE(n:Int):Entry:=⟨1,n,0,emp⟩
def upB(w now:Int)(safe:List ByteArray)(p:Plan)(st:Story):Boss:=⟨w,true,now,0,st.epoch+1,0,⟨safe++ [b9 (epE (st.epoch+1))],[]⟩,st.results,List.replicate p.tasks.length fw,List.replicate w.toNat jn,[]⟩
def nL(b:Boss)(p:Plan):Prop:=b.up = false∧b.log.safe.length < 310∧(ar p b.log.safe).epoch < 300
noncomputable instance (b:Boss) (p:Plan):Decidable (nL b p):=Classical.propDecidable _
noncomputable def bd(b:Boss)(p:Plan):Boss:=if nL b p then upB b.workers b.now b.log.safe p (ar p b.log.safe)else b
theorem lS{b:Boss}{p:Plan}(h:¬nL b p):bd b p = b:=if_neg h
theorem Bl{b:Boss}{p:Plan}(h:nL b p):bd b p = upB b.workers b.now b.log.safe p (ar p b.log.safe):=if_pos h
theorem Nz(n:Nat):(List.replicate n fw).map aW = List.replicate n (aW fw):=List.map_replicate
theorem J1(n:Nat):(List.replicate n jn).map aS = List.replicate n (aS jn):=List.map_replicate
theorem CX(w now:Int)(safe:List ByteArray)(p:Plan)(st:Story):aG (upB w now safe p st) = .agg [.t (.i w),.t (.b true),.t (.i now),.t (.i 0),.t (.i (st.epoch+1)),.t (.i 0),.own [false] (safe.map ak++ [ak (b9 ⟨1,st.epoch+1,0,emp⟩)]),.own [false] [],.own [false] (st.results.map ak),.own fD ((List.replicate p.tasks.length fw).map aW),.own cT ((List.replicate w.toNat jn).map aS),.own cU []]:=by
 simp only[aG,upB,List.map_append];rfl
theorem tP(w now:Int)(safe:List ByteArray)(p:Plan)(hp:cL p)(hw:1≤w∧w≤8)(hs:∀ s∈safe,s.size≤281474976710656)(hc:(ar p safe).code = 0):F fS [.ptr [.t (.i w),.t (.b false),.t (.i now),.t (.i 0),.t (.i 0),.t (.i 0),.own [false] (safe.map ak),.own [false] [],.own [false] [],.own fD [],.own cT [],.own cU []],.val (cB p)] (.tup []) [cellsOf (aG (bd (cE w now safe) p)),[]]:=by
 obtain⟨hck,hl,_,_⟩:=ci hc
 obtain⟨he1,he2⟩:=ey hc
 have hpl:=(bM hck).1
 have cr:=oB p safe hp hs OM
 by_cases hl2:safe.length < 310
 ·by_cases he:(ar p safe).epoch < 300
  ·rw[Bl ⟨rfl,hl2,he⟩]
   have cf:=j9 1 ((ar p safe).epoch+1) 0 emp (by decide)
   rw[GM]at cf
   rw[CX]
   refine er ?_
   conv=>whnf
   refine g 0 0 []<|J US<|W.sq<|g 5 17 [BF,BF,BF,BF,BF,BF,BF,BF]<|J Zca<|W.cn<|J (fun h1=>?_) fun h1=>?_
   replace h1:=dt h1
   simp only[LM]at h1
   omega
   replace h1:=df h1
   simp only[LM]at h1
   refine W.skip<|gd 17 25 [[],[],[],[],[],[],[.call (fY (ar p safe)) [[],[]]],[],[]] ?_
   conv=>whnf
   refine J ⟨I,I,I,I,I,I,Zam,I,UC,I⟩<|J KR<|W.sq<|g 25 27 []<|J UC<|W.cn<|J (noT dO) fun _=>W.skip<|gd 4 42 [[],[],[],[],[],[.i (Story.epoch (ar p safe) +1)],[],[],[],[],[],[],[],[],[],[],[]] ?_
   conv=>whnf
   refine J ⟨I,I,I,I,I,wO,I,I,I,I,UA,I,I,UA,I,I,UA,I⟩<|J KR<|gd 42 59 [[],[],[],[],[],[],[],[],[],[],[],[.call (V.s (b9 {kind:=1,epoch:=Story.epoch (ar p safe) +1,task:=0,text:=emp:Entry})) [[]]],[],[],[],[],[],[]] ?_
   conv=>whnf
   refine J ⟨I,I,I,I,I,I,I,I,I,I,I,Zc8,US,Zde,I,I,I,UA,I⟩<|J KR<|rgd [[],[],[],[],[],[.n (List.length (List.map aB p.tasks))],[],[],[],[],[.n (Int.toNat w)],[],[],[],[],[],[]] ?_
   conv=>whnf
   refine J ⟨I,I,I,I,I,⟨rfl,rfl,LN⟩,I,I,I,I,⟨OM,OM,LN⟩,I,I,UA,I,I,UA,I⟩<|J KR<|EndsW.nm<|J I<|J ?_ ?_
   rfl
   simp only[List.length_map,Nz,J1]
   rfl
  ·rw[lS (fun q=>he q.2.2)]
   refine er ?_
   conv=>whnf
   refine g 0 0 []<|J US<|W.sq<|g 5 17 [BF,BF,BF,BF,BF,BF,BF,BF]<|J Zca<|W.cn<|J (fun h1=>?_) fun h1=>?_
   replace h1:=dt h1
   simp only[LM]at h1
   omega
   replace h1:=df h1
   simp only[LM]at h1
   refine W.skip<|gd 17 25 [[],[],[],[],[],[],[.call (fY (ar p safe)) [[],[]]],[],[]] ?_
   conv=>whnf
   refine J ⟨I,I,I,I,I,I,Zam,I,UC,I⟩<|J KR<|W.sq<|g 25 27 []<|J UC<|W.cn<|J (fun _=>(RT ?_)) (noF tO)
   rfl
 ·rw[lS (fun q=>hl2 q.2.1)]
  refine er ?_
  conv=>whnf
  refine g 0 0 []<|J US<|W.sq<|g 5 17 [BF,BF,BF,BF,BF,BF,BF,BF]<|J Zca<|W.cn<|J (fun h1=>?_) fun h1=>?_
  replace h1:=dt h1
  simp only[LM]at h1
  refine RT ?_
  rfl
  replace h1:=df h1
  simp only[LM]at h1
  omega
theorem ka(b:Boss)(p:Plan)(hp:cL p)(hw:1≤b.workers∧b.workers≤8)(hs:∀ s∈b.log.safe,s.size≤281474976710656)(hd:b.up = false→DownOk b∧(ar p b.log.safe).code = 0):F fS [.ptr (cellsOf (aG b)),.val (cB p)] (.tup []) [cellsOf (aG (bd b p)),[]]:=by
 by_cases hup:b.up = false
 ·obtain⟨d,hc⟩:=hd hup
  have e:=Hn hup d
  have:F fS [.ptr (cellsOf (aG (cE b.workers b.now b.log.safe))),.val (cB p)] (.tup []) [cellsOf (aG (bd (cE b.workers b.now b.log.safe) p)),[]]:=tP b.workers b.now b.log.safe p hp hw hs hc
  rw[←e]at this
  exact this
 ·rw[lS (fun q=>hup q.1)]
  refine er ?_
  conv=>whnf
  refine g 0 0 []<|J US<|W.sq<|g 5 17 [BT,BT,BT,BT,BT,BT,BT,BT]<|J ⟨I,I,I,I,I,SI,SI,SI,SI,SI,SI,SI,SI,I⟩<|W.cn<|J (fun _=>(RT ?_)) (noF rfl)
  rfl
noncomputable def nC(b:Boss)(p:Plan):Boss:=if BossOk b p then bd b p else jo
theorem kV{b:Boss}{p:Plan}(h:BossOk b p):nC b p = bd b p:=if_pos h
theorem rF{b:Boss}{p:Plan}(h:BossOk b p):b.up = false→DownOk b∧(ar p b.log.safe).code = 0:=by
 intro hup
 have d:=h.down hup
 have hc:=h.code
 have e:=List.eq_nil_of_length_eq_zero d.loose
 rw[bV,e,List.append_nil]at hc
 exact⟨d,hc⟩
end Go.K
end
section
open Go Go.Tm Go.Proofs
namespace Go.K
structure BossSmall (b:Boss):Prop where
 safe:b.log.safe.length≤4194304
 loose:b.log.loose.length≤4194304
 res:b.results.length≤4194304
 jobs:b.jobs.length≤4194304
 seats:b.seats.length≤4194304
 owed:b.owed.length≤4194304
theorem qZ:BossSmall jo:=⟨by decide,by decide,by decide,by decide,by decide,by decide⟩
theorem sF{b:Boss}(h:BossLim b):BossSmall b:=by
 obtain⟨h1,h2,h3,h4,h5,h6,h7⟩:=h
 exact⟨by omega,by omega,by omega,by omega,by omega,by omega⟩
end Go.K
end
section
open Go Go.Tm Go.Proofs
namespace Go.K
structure Led where
 boss:Boss
 out:List Message
 deriving DecidableEq
abbrev Br:Led:=⟨⟨0,false,0,0,0,0,⟨[],[]⟩,[],[],[],[]⟩,[]⟩
end Go.K
end
section
open Go Go.Tm Go.Proofs
namespace Go.K
def eT{α:Type}(f:α→α)(l:List α)(n:Nat):List α:=(l.take n).map f++l.drop n
theorem gJ{α:Type}(f:α→α)(l:List α)(n:Nat):(eT f l n).length = l.length:=by simp[eT];omega
theorem gK{α:Type}(f:α→α)(l:List α){n:Nat}(h:l.length≤n):eT f l n = l.map f:=by
 rw[eT,List.take_of_length_le h,List.drop_of_length_le h,List.append_nil]
theorem Dv{α:Type}(f:α→α){l:List α}{n:Nat}{x:α}(h:l[n]? = some x):(eT f l n)[n]? = some x:=by
 have hl:n < l.length:=(List.getElem?_eq_some_iff.1 h).1
 rw[eT,List.getElem?_append_right (by simp;omega)]
 simp only[List.length_map,List.length_take,List.getElem?_drop]
 rw[show n+ (n - min n l.length) = n by omega,h]
theorem Du{α:Type}{f:α→α}{l:List α}{n:Nat}{x:α}(h:l[n]? = some x):(eT f l n).set n (f x) = eT f l (n+1):=by
 obtain⟨hl,hx⟩:=List.getElem?_eq_some_iff.1 h
 unfold eT
 rw[List.drop_eq_getElem_cons hl,hx,List.set_append_right _ _ (by simp;omega),List.take_add_one,h]
 simp only[List.length_map,List.length_take,Option.toList_some,List.map_append,List.map_cons,List.map_nil,List.append_assoc,List.cons_append,List.nil_append]
 rw[show n - min n l.length = 0 by omega,List.set_cons_zero]
theorem kw{α β:Type}{f:α→α}{g:α→β}{l:List α}{n:Nat}{x:α}(h:l[n]? = some x):((eT f l n).map g).set n (g (f x)) = (eT f l (n+1)).map g:=by
 rw[←List.map_set,Du h]
theorem aV{α β:Type}{f:α→α}{g:α→β}{l:List α}{n:Nat}{x:α}(h:l[n]? = some x):((eT f l n).map g)[n]? = some (g x):=by
 rw[List.getElem?_map,Dv f h];rfl
theorem ns{α:Type}{f:α→α}{l:List α}{n:Nat}{x:α}(h:l[n]? = some x)(e:f x = x):eT f l n = eT f l (n+1):=by
 rw[←Du h,e]
 obtain⟨hl,hx⟩:=List.getElem?_eq_some_iff.1 (Dv f h)
 have:=List.set_getElem_self hl
 rw[hx]at this;exact this.symm
structure Hand where
 given:Int
 jobs:List Job
 seats:List Seat
 out:List Message
def pG(now:Int)(j:Job):Job:=if j.til≤now then fw else j
def EW(js:List Job)(i:Nat):Job:=(js[i]?).getD fw
def kH(ss:List Seat)(i:Nat):Seat:=(ss[i]?).getD jn
def gQ(ss:List Seat):Option Nat:=ss.findIdx? Seat.free
def FO(b:Boss)(ts:List Task)(s i:Nat)(g:Int):Message:=⟨1,0,(s:Int) +1,b.epoch,(b.epoch - 1) * 1000000+g,i,emp,cC b.results (gR ts i)⟩
structure CanHand (b:Boss) (ts:List Task) (h:Hand) (i:Nat):Prop where
 res:atS b.results i = emp
 job:(EW h.jobs i).lease = 0
 ready:ca b.results (gR ts i)
 given:h.given < 1000000
noncomputable instance (b:Boss) (ts:List Task) (h:Hand) (i:Nat):Decidable (CanHand b ts h i):=Classical.propDecidable _
def jA(b:Boss)(ts:List Task)(h:Hand)(i s:Nat):Hand:=⟨h.given+1,h.jobs.set i ⟨(b.epoch - 1) * 1000000+ (h.given+1),(s:Int) +1,b.now+12⟩,h.seats.set s ⟨false,(kH h.seats s).epoch⟩,h.out++ [FO b ts s i (h.given+1)]⟩
noncomputable def Mw(b:Boss)(ts:List Task)(i:Nat)(h:Hand):Hand :=
 if CanHand b ts h i then(match gQ h.seats with|none=>h|some s=>jA b ts h i s)else h
noncomputable def aC(b:Boss)(ts:List Task):Nat→Hand
 |0=>⟨b.given,b.jobs,b.seats,[]⟩
 |n+1=>Mw b ts n (aC b ts n)
theorem fp{b:Boss}{ts:List Task}{n:Nat}(h:¬CanHand b ts (aC b ts n) n):aC b ts (n+1) = aC b ts n:=if_neg h
theorem iv{b:Boss}{ts:List Task}{n:Nat}(h:gQ (aC b ts n).seats = none):aC b ts (n+1) = aC b ts n:=by
 rw[aC,Mw,h];simp
theorem iu{b:Boss}{ts:List Task}{n s:Nat}(h:CanHand b ts (aC b ts n) n)(hf:gQ (aC b ts n).seats = some s):aC b ts (n+1) = jA b ts (aC b ts n) n s:=by
 rw[aC,Mw,if_pos h,hf]
theorem nw{ss:List Seat}{s:Nat}(h:gQ ss = some s):∃ x,ss[s]? = some x∧x.free = true∧s < ss.length∧∀ (k:Nat) (y:Seat),k < s→ss[k]? = some y→y.free = false:=by
 obtain⟨h1,h2,h3⟩:=List.findIdx?_eq_some_iff_getElem.1 h
 refine⟨ss[s],List.getElem?_eq_getElem h1,h2,h1,fun k y hk hy=>?_⟩
 obtain⟨h4,h5⟩:=List.getElem?_eq_some_iff.1 hy
 have:=h3 k hk
 rw[h5]at this
 cases hb:y.free
 ·rfl
 ·exact absurd hb this
theorem zx{ss:List Seat}(h:gQ ss = none):∀ (k:Nat) (y:Seat),ss[k]? = some y→y.free = false:=by
 intro k y hy
 have:=List.findIdx?_eq_none_iff.1 h y (List.mem_of_getElem? hy)
 exact this
structure HandOk (b:Boss) (ts:List Task) (h:Hand) (n:Nat):Prop where
 jobs:h.jobs.length = b.jobs.length
 seats:h.seats.length = b.seats.length
 out:h.out.length≤n
 lo:0≤h.given
 hi:h.given≤1000000
 inputs:∀ m∈h.out,m.inputs.length≤8
theorem j5{b:Boss}{ts:List Task}(hd:∀ t∈ts,t.deps.length≤8)(h0:0≤b.given)(h1:b.given≤1000000):∀ n,HandOk b ts (aC b ts n) n
 |0=>⟨rfl,rfl,Nat.le_refl _,h0,h1,fun m hm=>by cases hm⟩
 |n+1=>by
  have ih:=j5 hd h0 h1 n
  have up:HandOk b ts (aC b ts n) (n+1):=⟨ih.jobs,ih.seats,by have:=ih.out;omega,ih.lo,ih.hi,ih.inputs⟩
  by_cases hc:CanHand b ts (aC b ts n) n
  ·cases hf:gQ (aC b ts n).seats with
   |none=>rw[iv hf];exact up
   |some s =>
    rw[iu hc hf]
    have e1:=ih.jobs
    have e2:=ih.seats
    have e3:=ih.out
    have e4:=ih.lo
    have e5:=hc.given
    refine⟨by simp only[jA,List.length_set];exact e1,by simp only[jA,List.length_set];exact e2,by simp only[jA,List.length_append,List.length_singleton];omega,by simp only[jA];omega,by simp only[jA];omega,fun m hm=>?_⟩
    rcases List.mem_append.1 hm with hm|hm
    ·exact ih.inputs m hm
    ·rw[List.mem_singleton.1 hm]
     show(cC _ _).length≤8
     rw[kr,gR]
     cases ht:ts[n]? with
     |none=>exact Nat.zero_le _
     |some t=>exact hd t (List.mem_of_getElem? ht)
  ·rw[fp hc];exact up
def Ql(b:Boss):Boss:=⟨b.workers,b.up,b.now+1,b.since,b.epoch,b.given,b.log,b.results,b.jobs,b.seats,b.owed⟩
def cI(b:Boss):Boss:=⟨b.workers,b.up,b.now+1,b.since,b.epoch,b.given,b.log,b.results,b.jobs.map (pG (b.now+1)),b.seats,b.owed⟩
def lI(ep:Int)(o:Owed):Message:=⟨4,0,o.worker,ep,o.lease,0,emp,[]⟩
noncomputable def endH(b:Boss)(ts:List Task):Hand:=aC (cI b) ts ts.length
noncomputable def eY(b:Boss)(ts:List Task):Led :=
 if b.now = 1000000 then⟨b,[]⟩else
 if b.up = false then⟨Ql b,[]⟩else
 if b.since+1 = 2 then⟨⟨b.workers,b.up,b.now+1,0,b.epoch,(endH b ts).given,⟨b.log.safe++b.log.loose,[]⟩,b.results,(endH b ts).jobs,(endH b ts).seats,[]⟩,(endH b ts).out++b.owed.map (lI b.epoch)⟩
 else⟨⟨b.workers,b.up,b.now+1,b.since+1,b.epoch,(endH b ts).given,b.log,b.results,(endH b ts).jobs,(endH b ts).seats,b.owed⟩,(endH b ts).out⟩
theorem kF{b:Boss}{ts:List Task}(h:b.now = 1000000):eY b ts = ⟨b,[]⟩:=if_pos h
theorem nJ{b:Boss}{ts:List Task}(h:¬b.now = 1000000)(h2:b.up = false):eY b ts = ⟨Ql b,[]⟩:=by rw[eY,if_neg h,if_pos h2]
theorem fX{b:Boss}{ts:List Task}(h:¬b.now = 1000000)(h2:¬b.up = false)(h3:b.since+1 = 2):eY b ts = ⟨⟨b.workers,b.up,b.now+1,0,b.epoch,(endH b ts).given,⟨b.log.safe++b.log.loose,[]⟩,b.results,(endH b ts).jobs,(endH b ts).seats,[]⟩,(endH b ts).out++b.owed.map (lI b.epoch)⟩:=by rw[eY,if_neg h,if_neg h2,if_pos h3]
theorem io{b:Boss}{ts:List Task}(h:¬b.now = 1000000)(h2:¬b.up = false)(h3:¬b.since+1 = 2):eY b ts = ⟨⟨b.workers,b.up,b.now+1,b.since+1,b.epoch,(endH b ts).given,b.log,b.results,(endH b ts).jobs,(endH b ts).seats,b.owed⟩,(endH b ts).out⟩:=by rw[eY,if_neg h,if_neg h2,if_neg h3]
noncomputable def nB(b:Boss)(p:Plan):Led:=if BossOk b p then eY b p.tasks else Br
theorem kT{b:Boss}{p:Plan}(h:BossOk b p):nB b p = eY b p.tasks:=if_pos h
theorem w9{b:Boss}{p:Plan}(h:¬BossOk b p):nB b p = Br:=if_neg h
end Go.K
end
section
open Go Go.Tm Go.Proofs
namespace Go.K
theorem Hk{now:Int}{js:List Job}{n:Nat}{j:Job}(h:js[n]? = some j)(hd:j.til≤now):((eT (pG now) js n).map aW).set n (aW fw) = (eT (pG now) js (n+1)).map aW:=by
 have:=kw (f:=pG now) (g:=aW) h
 rw[show pG now j = fw from if_pos hd]at this
 exact this
theorem Mb{now:Int}{js:List Job}{n:Nat}{j:Job}(h:js[n]? = some j)(hd:¬j.til≤now):eT (pG now) js n = eT (pG now) js (n+1):=ns h (if_neg hd)
theorem ti{out:List Message}{ep:Int}{os:List Owed}{n:Nat}{o:Owed}(h:os[n]? = some o):(out++ (os.take n).map (lI ep)).map aF++ [aF (lI ep o)] = (out++ (os.take (n+1)).map (lI ep)).map aF:=by
 rw[List.take_add_one,h];simp
theorem su(b:Boss)(p:Plan)(hv:BossOk b p)(h:BossLim b):F rS [.ptr (cellsOf (aG b)),.val (cB p)] (.own bZ ((eY b p.tasks).out.map aF)) [cellsOf (aG (eY b p.tasks).boss),[]]:=by
 have hnow:=hv.now
 by_cases h0:b.now = 1000000
 ·rw[kF h0]
  refine fT ?_
  conv=>whnf
  refine g 0 0 []<|J Zdr<|W.sq<|g 12 16 []<|J UE<|W.cn<|J (fun _=>(g 16 17 []<|J UA (RT ?_))) (noF tO)
  rfl
 ·by_cases hup:b.up = false
  ·rw[nJ h0 hup]
   refine fT ?_
   conv=>whnf
   refine g 0 0 []<|J Zdr<|W.sq<|g 12 16 []<|J UE<|W.cn<|J (noT dO) fun _=>W.skip<|g 20 24 [.i (b.now+1)]<|J ⟨I,I,I,I,wO,I,I,UA,I⟩<|W.sq<|g 24 28 []<|J UE<|W.cn<|J (fun _=>(g 16 19 []<|J UA (RT ?_))) (noF (nbT AS))
   rfl
  ·have hup2:b.up = true:=by cases hb:b.up;exact absurd hb hup;rfl
   obtain⟨u1,u2,u3,u4,u5,u6,⟨u7,u8⟩,⟨u9,u10⟩,u11,u12,u13,u14⟩:=hv.up hup2
   have hck:=hv.plan
   have hpl:=(bM hck).1
   have hwk:=hv.workers
   obtain⟨he1,he2⟩:=ey hv.code
   change 0≤(bV b p).epoch at he1
   change (bV b p).epoch≤300 at he2
   have l1:=h.safe
   have l2:=h.loose
   refine fT ?_
   conv=>whnf
   refine g 0 0 []<|J Zdr<|W.sq<|g 12 16 []<|J UE<|W.cn<|J (noT dO) fun _=>W.skip<|g 20 24 [.i (b.now+1)]<|J ⟨I,I,I,I,wO,I,I,UA,I⟩<|W.sq<|g 24 28 []<|J UE<|W.cn<|J (noT (nbF AS)) fun _=>W.skip<|g 16 19 []<|J UA<|W.sq ?_
   refine g 30 33 []<|J UF<|W.blk<|W.lp (fun s (n:Nat)=>⟨[(0,s.s 0),(1,s.s 1),(3,s.s 3),(4,s.s 4),(5,s.s 5),(19,s.s 19),(29,s.s 29),(33,s.s 33),(34,.i n)],[(3,[s.c 3 0]),(246,[.t (.i b.workers),.t (.b b.up),.t (.i (b.now+1)),.t (.i b.since),.t (.i b.epoch),.t (.i b.given),.own [false] (b.log.safe.map ak),.own [false] (b.log.loose.map ak),.own [false] (b.results.map ak),.own fD ((eT (pG (b.now+1)) b.jobs n).map aW),.own cT (b.seats.map aS),.own cU (b.owed.map bi)])],[]⟩) (fun(n:Nat)=>n≤b.jobs.length) (fun(n:Nat)=>b.jobs.length - n) (0) [some 3,some 246] [] ⟨rfl,⟨rfl,Zag,rfl,rfl,rfl,rfl,rfl,rfl,rfl,I⟩,⟨Zad,⟨Zaa,I⟩⟩,I⟩ OM ?_
   intro n hn
   have hx:=gJ (pG (b.now+1)) b.jobs n
   by_cases hj:n < b.jobs.length
   ·obtain⟨j,hj1⟩:=aj hj
    by_cases hd:j.til≤b.now+1
    ·have e1:=Hk hj1 hd
     conv=>whnf
     refine g 0 0 []<|J UA<|W.sq<|W.cn<|J (fun _=>(W.skip (W.sq (W.blk (g 35 37 []<|J UB (gd 37 49 [[],[],[],[],[],[.n (n)],[],[.x (aW j)],[],[],[],[],[]] ?_)))))) (noF (by simp_all))
     conv=>whnf
     refine⟨⟨I,I,I,I,I,Zdf,I,aV AS,I,I,I,I,I,I⟩,by kernel_rfl,?_⟩
     refine W.cn<|J (fun _=>(rg [.n (n),.x (aW j)]<|J ⟨I,I,I,I,I,I,Zdf,⟨UC,aV AS⟩,I⟩ (rg [.i ((n:Int) +1)]<|J Zdj ?_))) (noF tO)
     refine⟨n+1,[some 3,some 246],[],⟨rfl,⟨rfl,Zag,rfl,rfl,rfl,rfl,rfl,rfl,rfl,I⟩,⟨Zad,⟨⟨rfl,⟨rfl,⟨rfl,⟨rfl,⟨rfl,⟨rfl,⟨rfl,⟨rfl,⟨rfl,⟨rfl,⟨(congrArg (V.own _) (e1)),Zad⟩⟩⟩⟩⟩⟩⟩⟩⟩⟩⟩,I⟩⟩,I⟩,?_,?_⟩
     rotate_left
     (dsimp only;omega)
     dsimp only
     omega
    ·have e1:=Mb hj1 hd
     conv=>whnf
     refine g 0 0 []<|J UA<|W.sq<|W.cn<|J (fun _=>(W.skip (W.sq (W.blk (g 35 37 []<|J UB (gd 37 49 [[],[],[],[],[],[.n (n)],[],[.x (aW j)],[],[],[],[],[]] ?_)))))) (noF (by simp_all))
     conv=>whnf
     refine⟨⟨I,I,I,I,I,Zdf,I,aV AS,I,I,I,I,I,I⟩,by kernel_rfl,?_⟩
     refine W.cn<|J (noT dO) fun _=>W.skip<|rg [.i ((n:Int) +1)]<|J Zdj ?_
     refine⟨n+1,[some 3,some 246],[],⟨rfl,⟨rfl,Zag,rfl,rfl,rfl,rfl,rfl,rfl,rfl,I⟩,⟨Zad,⟨⟨rfl,⟨rfl,⟨rfl,⟨rfl,⟨rfl,⟨rfl,⟨rfl,⟨rfl,⟨rfl,⟨rfl,⟨(congrArg (V.own _) (by rw[←e1])),Zad⟩⟩⟩⟩⟩⟩⟩⟩⟩⟩⟩,I⟩⟩,I⟩,?_,?_⟩
     rotate_left
     (dsimp only;omega)
     dsimp only
     omega
   have e0:=gK (pG (b.now+1)) b.jobs (n:=n) OM
   conv=>whnf
   refine g 0 0 []<|J UA<|W.sq<|W.cn<|J (noT (by simp_all)) fun _=>W.exit<|W.sq<|g 33 59 []<|J UD<|W.blk ?_
   have hdl:∀ t∈p.tasks,t.deps.length≤8:=fun t ht=>by
    obtain⟨k,hk⟩:=List.getElem?_of_mem ht
    exact(bv hck hk).2.2.1
   refine W.lp (fun s (m:Nat)=>⟨[(0,s.s 0),(1,s.s 1),(3,s.s 3),(4,s.s 4),(5,.ref ⟨5,none,0⟩),(19,s.s 19),(29,s.s 29),(59,s.s 59),(60,s.s 60),(61,.i m)],[(3,[s.c 3 0]),(5,[.own bZ ((aC (cI b) p.tasks m).out.map aF)]),(246,[.t (.i b.workers),.t (.b b.up),.t (.i (b.now+1)),.t (.i b.since),.t (.i b.epoch),.t (.i (aC (cI b) p.tasks m).given),.own [false] (b.log.safe.map ak),.own [false] (b.log.loose.map ak),.own [false] (b.results.map ak),.own fD ((aC (cI b) p.tasks m).jobs.map aW),.own cT ((aC (cI b) p.tasks m).seats.map aS),.own cU (b.owed.map bi)])],[]⟩) (fun(m:Nat)=>m≤p.tasks.length) (fun(m:Nat)=>p.tasks.length - m) (0) [some 3,none,some 246] [] ⟨rfl,⟨rfl,Zag,rfl,rfl,⟨rfl,rfl,rfl⟩,rfl,rfl,rfl,rfl,rfl,I⟩,⟨Zad,⟨I,⟨⟨rfl,⟨rfl,⟨rfl,⟨rfl,⟨rfl,⟨rfl,⟨rfl,⟨rfl,⟨rfl,⟨rfl,⟨(congrArg (V.own _) (by rw[e0];rfl)),Zad⟩⟩⟩⟩⟩⟩⟩⟩⟩⟩⟩,I⟩⟩⟩,I⟩ OM ?_
   intro m hm
   obtain⟨k1,k2,k3,k4,k5,k6⟩:=j5 (b:=cI b) (ts:=p.tasks) hdl u9 u10 m
   have k7:(cI b).jobs.length = b.jobs.length:=by show(b.jobs.map _).length = _;rw[List.length_map]
   rw[k7]at k1
   change (aC (cI b) p.tasks m).seats.length = b.seats.length at k2
   by_cases hm2:m < p.tasks.length
   ·obtain⟨t,ht0⟩:=aj hm2
    obtain⟨y,hy0⟩:=aj (xs:=b.results) (n:=m) OM
    obtain⟨j,hj0⟩:=aj (xs:=(aC (cI b) p.tasks m).jobs) (n:=m) OM
    obtain⟨_,_,a3,a4⟩:=bv hck ht0
    have crd:=gV b.results t.deps (fun d hd=>by have:=a4 d hd;omega) OM
    have cpk:=CG b.results t.deps (fun d hd=>by have:=a4 d hd;omega) OM
    have q1:∀ q:CanHand (cI b) p.tasks (aC (cI b) p.tasks m) m,y = emp:=fun q=>by have:=q.res;rw[show(cI b).results = b.results from rfl,oG hy0]at this;exact this
    have q2:∀ q:CanHand (cI b) p.tasks (aC (cI b) p.tasks m) m,j.lease = 0:=fun q=>by have:=q.job;rw[EW,hj0]at this;exact this
    have q3:∀ q:CanHand (cI b) p.tasks (aC (cI b) p.tasks m) m,ca b.results t.deps:=fun q=>by have:=q.ready;rw[cF ht0]at this;exact this
    by_cases hA:y = emp
    ·by_cases hB:j.lease = 0
     ·by_cases hF:ca b.results t.deps
      ·rw[decide_eq_true hF]at crd
       by_cases hG:(aC (cI b) p.tasks m).given < 1000000
       ·have hc:CanHand (cI b) p.tasks (aC (cI b) p.tasks m) m:=⟨by rw[show(cI b).results = b.results from rfl,oG hy0];exact hA,by rw[EW,hj0];exact hB,by rw[cF ht0];exact hF,hG⟩
        conv=>whnf
        refine g 0 0 []<|J UA<|W.sq<|W.cn<|J (fun _=>(W.skip (W.sq (W.blk (g 62 66 [.x (aB t)]<|J Zbs (W.sq (gd 72 101 [[],[],[],[],[],[.n (m)],[.x (ak y)],[],[],[BF],[BF],[BF],[BF],[BF],[BF,.n (m)],[BF],[BF,.x (aW j)],[BF],[BF],[],[BF],[BF],[BF],[BF],[BF],[BF],[BF,.call VT [[],[]]],[BF],[BF],[],[BF],[BF],[BF],[BF],[BF],[BF]] ?_))))))) (noF SI)
        conv=>whnf
        refine⟨Za6,by kernel_rfl,?_⟩
        refine W.cn<|J (noT dO) fun _=>W.skip<|g 66 71 []<|J UF<|W.blk ?_
        cases hf:gQ (aC (cI b) p.tasks m).seats with
        |none =>
         have e:=iv (b:=cI b) (ts:=p.tasks) hf
         refine W.lp (fun s (k:Nat)=>⟨[(0,s.s 0),(1,s.s 1),(3,s.s 3),(4,s.s 4),(5,.ref ⟨5,none,0⟩),(7,s.s 7),(8,s.s 8),(19,s.s 19),(29,s.s 29),(59,s.s 59),(60,s.s 60),(61,s.s 61),(71,s.s 71),(106,s.s 106),(107,.i k)],[(246,[s.c 246 0,s.c 246 1,s.c 246 2,s.c 246 3,s.c 246 4,s.c 246 5,s.c 246 6,s.c 246 7,s.c 246 8,s.c 246 9,s.c 246 10,s.c 246 11]),(3,[s.c 3 0]),(8,[s.c 8 0,s.c 8 1,s.c 8 2]),(5,[.own bZ ((aC (cI b) p.tasks m).out.map aF)])],[]⟩) (fun(k:Nat)=>k≤(aC (cI b) p.tasks m).seats.length) (fun(k:Nat)=>(aC (cI b) p.tasks m).seats.length - k) (0) [some 246,some 3,some 8,some 5] [] Zdi OM ?_
         intro s hs
         by_cases hs2:s < (aC (cI b) p.tasks m).seats.length
         ·obtain⟨x,hx0⟩:=aj hs2
          have hx1:=zx hf s x hx0
          conv=>whnf
          refine g 0 0 []<|J UA<|W.sq<|W.cn<|J (fun h1=>?_) fun h1=>?_
          replace h1:=dt h1
          simp only[LM]at h1
          refine W.skip<|W.sq<|W.blk<|g 108 110 []<|J UB<|W.sq<|g 110 118 [.n (s),.x (aS x)]<|J ⟨I,I,I,I,I,Zdf,I,xA,I,I⟩<|W.cn<|J (fun _=>(W.exit (rg [.i ((s:Int) +1)]<|J Zdj ?_))) (noF (nbT AS))
          rotate_left
          replace h1:=df h1
          simp only[LM]at h1
          omega
          refine⟨s+1,[some 246,some 3,some 8,some 5],[],Zdi,?_,?_⟩
          rotate_left
          (dsimp only;omega)
          dsimp only
          omega
         ·conv=>whnf
          refine g 0 0 []<|J UA<|W.sq<|W.cn<|J (fun h1=>?_) fun h1=>?_
          replace h1:=dt h1
          simp only[LM]at h1
          omega
          replace h1:=df h1
          simp only[LM]at h1
          refine W.exit<|rg [.i ((m:Int) +1)]<|J Zdj ?_
          refine⟨m+1,[some 3,some 5,some 246],[],⟨rfl,Zdv,⟨Zad,⟨⟨rfl,⟨(congrArg (V.own _) (by rw[e])),I⟩⟩,⟨⟨rfl,⟨rfl,⟨rfl,⟨rfl,⟨rfl,⟨rfl,⟨(congrArg (fun z=>V.t (T.v (Value.int _ z))) (by rw[e])),⟨rfl,⟨rfl,⟨rfl,⟨(congrArg (V.own _) (by rw[e])),⟨(congrArg (V.own _) (by rw[e])),Zda⟩⟩⟩⟩⟩⟩⟩⟩⟩⟩⟩⟩,I⟩⟩⟩,I⟩,?_,?_⟩
          rotate_left
          (dsimp only;omega)
          dsimp only
          omega
        |some s0 =>
         obtain⟨x,hx0,hx1,hx2,hx3⟩:=nw hf
         have e:=iu hc hf
         refine W.lp (fun s (k:Nat)=>⟨[(0,s.s 0),(1,s.s 1),(3,s.s 3),(4,s.s 4),(5,.ref ⟨5,none,0⟩),(7,s.s 7),(8,s.s 8),(19,s.s 19),(29,s.s 29),(59,s.s 59),(60,s.s 60),(61,s.s 61),(71,s.s 71),(106,s.s 106),(107,.i k)],[(246,[s.c 246 0,s.c 246 1,s.c 246 2,s.c 246 3,s.c 246 4,s.c 246 5,s.c 246 6,s.c 246 7,s.c 246 8,s.c 246 9,s.c 246 10,s.c 246 11]),(3,[s.c 3 0]),(8,[s.c 8 0,s.c 8 1,s.c 8 2]),(5,[.own bZ ((aC (cI b) p.tasks m).out.map aF)])],[]⟩) (fun(k:Nat)=>k≤s0) (fun(k:Nat)=>(aC (cI b) p.tasks m).seats.length - k) (0) [some 246,some 3,some 8,some 5] [] Zdi OM ?_
         intro s hs
         by_cases hs2:s < s0
         ·obtain⟨x',hx'⟩:=aj (xs:=(aC (cI b) p.tasks m).seats) (n:=s) OM
          have hx4:=hx3 s x' hs2 hx'
          conv=>whnf
          refine g 0 0 []<|J UA<|W.sq<|W.cn<|J (fun h1=>?_) fun h1=>?_
          replace h1:=dt h1
          simp only[LM]at h1
          refine W.skip<|W.sq<|W.blk<|g 108 110 []<|J UB<|W.sq<|g 110 118 [.n (s),.x (aS x')]<|J ⟨I,I,I,I,I,Zdf,I,xA,I,I⟩<|W.cn<|J (fun _=>(W.exit (rg [.i ((s:Int) +1)]<|J Zdj ?_))) (noF (nbT AS))
          rotate_left
          replace h1:=df h1
          simp only[LM]at h1
          omega
          refine⟨s+1,[some 246,some 3,some 8,some 5],[],Zdi,?_,?_⟩
          rotate_left
          (dsimp only;omega)
          dsimp only
          omega
         ·obtain rfl:s = s0:=by omega
          have ej:((aC (cI b) p.tasks m).jobs.map aW).set m (aW ⟨(b.epoch - 1) * 1000000+ ((aC (cI b) p.tasks m).given+1),(s:Int) +1,b.now+1+12⟩) = (aC (cI b) p.tasks (m+1)).jobs.map aW:=by rw[e,←List.map_set];rfl
          have es:((aC (cI b) p.tasks m).seats.map aS).set s (aS ⟨false,x.epoch⟩) = (aC (cI b) p.tasks (m+1)).seats.map aS:=by rw[e,←List.map_set,jA,kH,hx0];rfl
          have eo:(aC (cI b) p.tasks m).out.map aF++ [aF ⟨1,0,(s:Int) +1,b.epoch,(b.epoch - 1) * 1000000+ ((aC (cI b) p.tasks m).given+1),m,emp,cC b.results t.deps⟩] = (aC (cI b) p.tasks (m+1)).out.map aF:=by rw[e,jA,FO,cF ht0,List.map_append];rfl
          have eg:(aC (cI b) p.tasks m).given+1 = (aC (cI b) p.tasks (m+1)).given:=by rw[e];rfl
          conv=>whnf
          refine g 0 0 []<|J UA<|W.sq<|W.cn<|J (fun h1=>?_) fun h1=>?_
          replace h1:=dt h1
          simp only[LM]at h1
          refine W.skip<|W.sq<|W.blk<|g 108 110 []<|J UB<|W.sq<|g 110 118 [.n (s),.x (aS x)]<|J ⟨I,I,I,I,I,Zdf,I,xA,I,I⟩<|W.cn<|J (noT (nbF AS)) fun _=>W.skip<|g 118 126 [.n (s),.x (aS x)]<|J ⟨I,I,I,I,I,Zdf,I,⟨UA,xA⟩,I⟩<|g 126 133 [.i (Hand.given (aC (cI b) p.tasks m) +1)]<|J ⟨I,I,I,I,wO,I,I,UA,I⟩<|gd 133 158 [[],[],[],[],[],[],[],[],[],[.i (b.epoch - 1)],[.i ((b.epoch - 1) * 1000000)],[],[],[],[],[.i ((b.epoch - 1) * 1000000+ (Hand.given (aC (cI b) p.tasks m) +1))],[],[.i ((s:Int) +1)],[],[],[],[],[.i (b.now+1+12)],[],[.n (m)],[.x (aW j)]] ?_
          conv=>whnf
          refine J ⟨I,I,I,I,I,I,I,I,I,wO,wO,I,I,I,I,wO,I,wO,I,I,I,I,wO,I,Zdf,⟨UC,xA⟩,I⟩<|J KR<|gd 158 184 [[],[],[.i ((s:Int) +1)],[],[],[],[],[],[],[],[],[],[.n (m)],[],[.x (dM (aW j) 0 [T.v (Value.int IntKind.i64 ((b.epoch - 1) * 1000000+ (Hand.given (aC (cI b) p.tasks m) +1))),T.v (Value.int IntKind.i64 ((s:Int) +1)),T.v (Value.int IntKind.i64 (b.now+1+12))])],[],[],[],[],[],[],[],[.call (V.own [false] (List.map ak (cC b.results t.deps))) [[],[]]],[],[],[],[]] ?_
          conv=>whnf
          refine J ⟨I,I,wO,I,I,I,I,I,I,I,I,I,Zdf,I,gh LN,I,I,I,I,I,I,I,Zam,I,⟨UH,I⟩,Zde,I,I⟩<|J KR<|W.exit<|rg [.i ((m:Int) +1)]<|J Zdj ?_
          rotate_left
          replace h1:=df h1
          simp only[LM]at h1
          omega
          refine⟨m+1,[some 3,some 183,some 246],[],⟨rfl,Zdv,⟨Zad,⟨⟨rfl,⟨(congrArg (V.own _) (eo)),I⟩⟩,⟨⟨rfl,⟨rfl,⟨rfl,⟨rfl,⟨rfl,⟨rfl,⟨(congrArg (fun z=>V.t (T.v (Value.int _ z))) (eg)),⟨rfl,⟨rfl,⟨rfl,⟨(congrArg (V.own _) (ej)),⟨(congrArg (V.own _) (es)),Zda⟩⟩⟩⟩⟩⟩⟩⟩⟩⟩⟩⟩,I⟩⟩⟩,I⟩,?_,?_⟩
          rotate_left
          (dsimp only;omega)
          dsimp only
          omega
       ·have e:=fp (b:=cI b) (ts:=p.tasks) (fun q=>hG q.given)
        conv=>whnf
        refine g 0 0 []<|J UA<|W.sq<|W.cn<|J (fun _=>(W.skip (W.sq (W.blk (g 62 66 [.x (aB t)]<|J Zbs (W.sq (gd 72 101 [[],[],[],[],[],[.n (m)],[.x (ak y)],[],[],[BF],[BF],[BF],[BF],[BF],[BF,.n (m)],[BF],[BF,.x (aW j)],[BF],[BF],[],[BF],[BF],[BF],[BF],[BF],[BF],[BF,.call VT [[],[]]],[BF],[BF],[],[BF],[BF],[BF],[BF],[BF],[BF]] ?_))))))) (noF SI)
        conv=>whnf
        refine⟨Za6,by kernel_rfl,?_⟩
        refine W.cn<|J (fun _=>(W.exit (rg [.i ((m:Int) +1)]<|J Zdj ?_))) (noF tO)
        refine⟨m+1,[some 3,some 5,some 246],[],⟨rfl,Zdv,⟨Zad,⟨⟨rfl,⟨(congrArg (V.own _) (by rw[e])),I⟩⟩,⟨⟨rfl,⟨rfl,⟨rfl,⟨rfl,⟨rfl,⟨rfl,⟨(congrArg (fun z=>V.t (T.v (Value.int _ z))) (by rw[e])),⟨rfl,⟨rfl,⟨rfl,⟨(congrArg (V.own _) (by rw[e])),⟨(congrArg (V.own _) (by rw[e])),Zda⟩⟩⟩⟩⟩⟩⟩⟩⟩⟩⟩⟩,I⟩⟩⟩,I⟩,?_,?_⟩
        rotate_left
        (dsimp only;omega)
        dsimp only
        omega
      ·rw[decide_eq_false hF]at crd
       have e:=fp (b:=cI b) (ts:=p.tasks) (fun q=>hF (q3 q))
       conv=>whnf
       refine g 0 0 []<|J UA<|W.sq<|W.cn<|J (fun _=>(W.skip (W.sq (W.blk (g 62 66 [.x (aB t)]<|J Zbs (W.sq (gd 72 101 [[],[],[],[],[],[.n (m)],[.x (ak y)],[],[],[BF],[BF],[BF],[BF],[BF],[BF,.n (m)],[BF],[BF,.x (aW j)],[BF],[BF],[],[BF],[BF],[BF],[BF],[BF],[BF],[BF,.call VF [[],[]]],[BF],[BF],[],[BT],[BT],[BT],[BT],[BT],[BT]] ?_))))))) (noF SI)
       conv=>whnf
       refine⟨⟨I,I,I,I,I,Zdf,xA,I,I,⟨nO,I⟩,⟨nO,I⟩,⟨nO,I⟩,⟨nO,I⟩,⟨nO,I⟩,⟨nO,rfl,LN⟩,⟨nO,I⟩,⟨nO,xA⟩,⟨nO,I⟩,nO,I,⟨nO,I⟩,⟨nO,I⟩,⟨nO,I⟩,⟨nO,I⟩,⟨nO,I⟩,⟨nO,I⟩,⟨nO,UB,I,UT,UA,AS⟩,⟨nO,I⟩,nO,I,rfl,rfl,rfl,rfl,rfl,rfl,I⟩,by kernel_rfl,?_⟩
       refine W.cn<|J (fun _=>(W.exit (rg [.i ((m:Int) +1)]<|J Zdj ?_))) (noF rfl)
       refine⟨m+1,[some 3,some 5,some 246],[],⟨rfl,Zdv,⟨Zad,⟨⟨rfl,⟨(congrArg (V.own _) (by rw[e])),I⟩⟩,⟨⟨rfl,⟨rfl,⟨rfl,⟨rfl,⟨rfl,⟨rfl,⟨(congrArg (fun z=>V.t (T.v (Value.int _ z))) (by rw[e])),⟨rfl,⟨rfl,⟨rfl,⟨(congrArg (V.own _) (by rw[e])),⟨(congrArg (V.own _) (by rw[e])),Zda⟩⟩⟩⟩⟩⟩⟩⟩⟩⟩⟩⟩,I⟩⟩⟩,I⟩,?_,?_⟩
       rotate_left
       (dsimp only;omega)
       dsimp only
       omega
     ·have e:=fp (b:=cI b) (ts:=p.tasks) (fun q=>hB (q2 q))
      conv=>whnf
      refine g 0 0 []<|J UA<|W.sq<|W.cn<|J (fun _=>(W.skip (W.sq (W.blk (g 62 66 [.x (aB t)]<|J Zbs (W.sq (gd 72 101 [[],[],[],[],[],[.n (m)],[.x (ak y)],[],[],[BF],[BF],[BF],[BF],[BF],[BF,.n (m)],[BF],[BF,.x (aW j)],[BF],[BF],[],[BT],[BT],[BT],[BT],[BT],[BT],[BT],[BT],[BT],[],[BT],[BT],[BT],[BT],[BT],[BT]] ?_))))))) (noF SI)
      conv=>whnf
      refine⟨⟨I,I,I,I,I,Zdf,xA,I,I,⟨nO,I⟩,⟨nO,I⟩,⟨nO,I⟩,⟨nO,I⟩,⟨nO,I⟩,⟨nO,rfl,LN⟩,⟨nO,I⟩,⟨nO,xA⟩,⟨nO,I⟩,nO,I,af OM,af OM,af OM,af OM,af OM,af OM,af OM,af OM,af OM,I,rfl,rfl,rfl,rfl,rfl,rfl,I⟩,by kernel_rfl,?_⟩
      refine W.cn<|J (fun _=>(W.exit (rg [.i ((m:Int) +1)]<|J Zdj ?_))) (noF rfl)
      refine⟨m+1,[some 3,some 5,some 246],[],⟨rfl,Zdv,⟨Zad,⟨⟨rfl,⟨(congrArg (V.own _) (by rw[e])),I⟩⟩,⟨⟨rfl,⟨rfl,⟨rfl,⟨rfl,⟨rfl,⟨rfl,⟨(congrArg (fun z=>V.t (T.v (Value.int _ z))) (by rw[e])),⟨rfl,⟨rfl,⟨rfl,⟨(congrArg (V.own _) (by rw[e])),⟨(congrArg (V.own _) (by rw[e])),Zda⟩⟩⟩⟩⟩⟩⟩⟩⟩⟩⟩⟩,I⟩⟩⟩,I⟩,?_,?_⟩
      rotate_left
      (dsimp only;omega)
      dsimp only
      omega
    ·have e:=fp (b:=cI b) (ts:=p.tasks) (fun q=>hA (q1 q))
     conv=>whnf
     refine g 0 0 []<|J UA<|W.sq<|W.cn<|J (fun _=>(W.skip (W.sq (W.blk (g 62 66 [.x (aB t)]<|J Zbs (W.sq (gd 72 101 [[],[],[],[],[],[.n (m)],[.x (ak y)],[],[],[BT],[BT],[BT],[BT],[BT],[BT],[BT],[BT],[BT],[BT],[],[BT],[BT],[BT],[BT],[BT],[BT],[BT],[BT],[BT],[],[BT],[BT],[BT],[BT],[BT],[BT]] ?_))))))) (noF SI)
     conv=>whnf
     refine⟨⟨I,I,I,I,I,Zdf,xA,I,I,af OM,af OM,af OM,af OM,af OM,af OM,af OM,af OM,af OM,af OM,I,rfl,rfl,rfl,rfl,rfl,rfl,rfl,rfl,rfl,I,rfl,rfl,rfl,rfl,rfl,rfl,I⟩,by kernel_rfl,?_⟩
     refine W.cn<|J (fun _=>(W.exit (rg [.i ((m:Int) +1)]<|J Zdj ?_))) (noF rfl)
     refine⟨m+1,[some 3,some 5,some 246],[],⟨rfl,Zdv,⟨Zad,⟨⟨rfl,⟨(congrArg (V.own _) (by rw[e])),I⟩⟩,⟨⟨rfl,⟨rfl,⟨rfl,⟨rfl,⟨rfl,⟨rfl,⟨(congrArg (fun z=>V.t (T.v (Value.int _ z))) (by rw[e])),⟨rfl,⟨rfl,⟨rfl,⟨(congrArg (V.own _) (by rw[e])),⟨(congrArg (V.own _) (by rw[e])),Zda⟩⟩⟩⟩⟩⟩⟩⟩⟩⟩⟩⟩,I⟩⟩⟩,I⟩,?_,?_⟩
     rotate_left
     (dsimp only;omega)
     dsimp only
     omega
   obtain rfl:m = p.tasks.length:=by omega
   by_cases hs:b.since+1 = 2
   ·rw[fX h0 hup hs]
    conv=>whnf
    refine g 0 0 []<|J UA<|W.sq<|W.cn<|J (noT SI) fun _=>W.exit<|g 19 193 [.i (b.since+1)]<|J ⟨I,I,I,I,wO,I,I,UA,I⟩<|W.sq<|g 193 197 []<|J UE<|W.cn<|J (fun _=>(g 197 201 []<|J UW (gd 201 216 [[],[],[],[],[],[],[],[],[],[],[],[],[],[],[],[]] ?_))) (noF tO)
    conv=>whnf
    refine⟨⟨I,I,I,I,I,I,I,I,I,I,I,Zde,I,I,I,UA,I⟩,by kernel_rfl,?_⟩
    refine g 216 220 []<|J ⟨I,I,I,I,UA,I⟩<|W.sq<|g 220 223 []<|J UF<|W.blk<|W.lp (fun s (n:Nat)=>⟨[(0,s.s 0),(3,s.s 3),(4,s.s 4),(5,.ref ⟨5,none,0⟩),(223,s.s 223),(224,s.s 224),(225,.i n)],[(3,[s.c 3 0]),(5,[.own bZ (((endH b p.tasks).out++ (b.owed.take n).map (lI b.epoch)).map aF)]),(246,[.t (.i b.workers),.t (.b b.up),.t (.i (b.now+1)),.t (.i 0),.t (.i b.epoch),.t (.i (endH b p.tasks).given),.own [false] ((b.log.safe++b.log.loose).map ak),.own [false] [],.own [false] (b.results.map ak),.own fD ((endH b p.tasks).jobs.map aW),.own cT ((endH b p.tasks).seats.map aS),.own cU (b.owed.map bi)])],[]⟩) (fun(n:Nat)=>n≤b.owed.length) (fun(n:Nat)=>b.owed.length - n) (0) [some 3,some 5,some 246] [] ⟨rfl,Zb1,⟨Zad,⟨⟨rfl,⟨(congrArg (V.own _) (by rw[List.take_zero,List.map_nil,List.append_nil];rfl)),I⟩⟩,⟨⟨rfl,⟨rfl,⟨rfl,⟨rfl,⟨rfl,⟨rfl,⟨rfl,⟨(congrArg (V.own _) SI),⟨rfl,Zac⟩⟩⟩⟩⟩⟩⟩⟩⟩,I⟩⟩⟩,I⟩ OM ?_
    intro n hn
    by_cases hn2:n < b.owed.length
    ·obtain⟨o,ho⟩:=aj hn2
     have k9:(endH b p.tasks).out.length≤40:=by show(aC _ _ _).out.length≤40;omega
     have eo:=ti (out:=(endH b p.tasks).out) (ep:=b.epoch) ho
     conv=>whnf
     refine g 0 0 []<|J UA<|W.sq<|W.cn<|J (fun _=>(W.skip (W.sq (W.blk (g 226 229 [.n (n),.x (bi o)]<|J Zcx (rgd [[],[],[],[],[],[],[],[],[],[],[],[],[]] ?_)))))) (noF SI)
     conv=>whnf
     refine⟨⟨I,I,I,I,I,I,I,I,I,I,⟨UH,I⟩,Zde,I,I⟩,by kernel_rfl,?_⟩
     refine rg [.i ((n:Int) +1)]<|J Zdj ?_
     refine⟨n+1,[some 3,some 240,some 246],[],⟨rfl,Zb1,⟨Zad,⟨⟨rfl,⟨(congrArg (V.own _) (eo)),I⟩⟩,⟨Zaa,I⟩⟩⟩,I⟩,?_,?_⟩
     rotate_left
     (dsimp only;omega)
     dsimp only
     omega
    ·conv=>whnf
     refine g 0 0 []<|J UA<|W.sq<|W.cn<|J (noT SI) fun _=>W.exit<|rg []<|J UW<|g 5 246 []<|J UB<|RT ?_
     all_goals (rw[bC OM])
   ·rw[io h0 hup hs]
    conv=>whnf
    refine g 0 0 []<|J UA<|W.sq<|W.cn<|J (noT SI) fun _=>W.exit<|g 19 193 [.i (b.since+1)]<|J ⟨I,I,I,I,wO,I,I,UA,I⟩<|W.sq<|g 193 197 []<|J UE<|W.cn<|J (noT dO) fun _=>W.skip<|g 0 4 []<|J UB<|RT ?_
    rfl
end Go.K
end
section
open Go Go.Tm Go.Proofs
namespace Go.K
structure HandIn (d:Boss) (ts:List Task):Prop where
 chk:ai ts = 0
 res:d.results.length = ts.length
 jobs:d.jobs.length = ts.length
 seats:d.seats.length≤8
 ep:1≤d.epoch∧d.epoch≤300
 given:0≤d.given∧d.given≤1000000
 now:0≤d.now∧d.now≤1000000
end Go.K
end
section
open Go Go.Tm Go.Proofs
namespace Go.K
structure LedSmall (x:Led):Prop where
 boss:BossSmall x.boss
 out:x.out.length≤2097152
 inp:∀ m∈x.out,m.inputs.length≤8
theorem Ch:LedSmall Br:=⟨qZ,Nat.zero_le _,fun m hm=>by cases hm⟩
theorem tQ{b:Boss}(p:Plan)(h:BossLim b):LedSmall (nB b p):=by
 unfold nB;split
 ·rename_i hv
  have hs:=sF h
  unfold eY;split
  ·exact⟨hs,Nat.zero_le _,fun m hm=>by cases hm⟩
  ·split
   ·exact⟨⟨hs.1,hs.2,hs.3,hs.4,hs.5,hs.6⟩,Nat.zero_le _,fun m hm=>by cases hm⟩
   ·rename_i hup
    have hup2:b.up = true:=by cases hb:b.up;exact absurd hb hup;rfl
    obtain⟨u1,u2,u3,u4,u5,u6,⟨u7,u8⟩,⟨u9,u10⟩,u11,u12,u13,u14⟩:=hv.up hup2
    have hck:=hv.plan
    have hpl:=(bM hck).1
    have hdl:∀ t∈p.tasks,t.deps.length≤8:=fun t ht=>by
     obtain⟨k,hk⟩:=List.getElem?_of_mem ht
     exact(bv hck hk).2.2.1
    obtain⟨k1,k2,k3,k4,k5,k6⟩:=j5 (b:=cI b) (ts:=p.tasks) hdl u9 u10 p.tasks.length
    have k7:(cI b).jobs.length = b.jobs.length:=by show(b.jobs.map _).length = _;rw[List.length_map]
    have k8:(cI b).seats.length = b.seats.length:=rfl
    have g1:=h.safe
    have g2:=h.loose
    have g3:=h.seats
    have g4:=h.res
    have j1:(endH b p.tasks).jobs.length≤4194304:=by show(aC _ _ _).jobs.length≤_;omega
    have j2:(endH b p.tasks).seats.length≤4194304:=by show(aC _ _ _).seats.length≤_;omega
    have j3:(endH b p.tasks).out.length≤40:=by show(aC _ _ _).out.length≤_;omega
    split
    ·refine⟨⟨?_,Nat.zero_le _,by show b.results.length≤_;omega,j1,j2,Nat.zero_le _⟩,?_,?_⟩
     ·simp only[List.length_append];omega
     ·simp only[List.length_append,List.length_map];omega
     ·intro m hm
      rcases List.mem_append.1 hm with hm|hm
      ·exact k6 m hm
      ·obtain⟨o,_,rfl⟩:=List.mem_map.1 hm
       exact Nat.zero_le _
    ·exact⟨⟨by show b.log.safe.length≤_;omega,by show b.log.loose.length≤_;omega,by show b.results.length≤_;omega,j1,j2,by show b.owed.length≤_;omega⟩,by show(endH b p.tasks).out.length≤_;omega,k6⟩
 ·exact Ch
end Go.K
end
section
open Go Go.Tm Go.Proofs
namespace Go.K
structure JL (ep now given workers:Int) (rs:List ByteArray) (ts:List Task) (js:List Job):Prop where
 zero:∀ (i:Nat) (j:Job),js[i]? = some j→j.lease = 0→j.worker = 0∧j.til = 0
 lease:∀ (i:Nat) (j:Job),js[i]? = some j→¬j.lease = 0→(ep - 1) * 1000000+1≤j.lease∧j.lease≤(ep - 1) * 1000000+given
 worker:∀ (i:Nat) (j:Job),js[i]? = some j→¬j.lease = 0→1≤j.worker∧j.worker≤workers
 til:∀ (i:Nat) (j:Job),js[i]? = some j→¬j.lease = 0→now+1≤j.til∧j.til≤now+12
 res:∀ (i:Nat) (j:Job),js[i]? = some j→¬j.lease = 0→atS rs (i:Int) = emp
 ready:∀ (i:Nat) (j:Job),js[i]? = some j→¬j.lease = 0→ca rs (gR ts i)
 once:∀ (i k:Nat) (j l:Job),i < k→js[i]? = some j→js[k]? = some l→¬l.lease = 0→¬j.lease = l.lease
theorem Bu{b:Boss}{ts:List Task}(h:ge b ts b.jobs.length):JL b.epoch b.now b.given b.workers b.results ts b.jobs:=by
 have hl:∀ {i:Nat} {j:Job},b.jobs[i]? = some j→i < b.jobs.length:=fun hj=>(List.getElem?_eq_some_iff.1 hj).1
 refine⟨fun i j hj hz=>(h i j (hl hj) hj).1 hz,fun i j hj hz=>((h i j (hl hj) hj).2 hz).lease,fun i j hj hz=>((h i j (hl hj) hj).2 hz).worker,fun i j hj hz=>((h i j (hl hj) hj).2 hz).til,fun i j hj hz=>((h i j (hl hj) hj).2 hz).res,fun i j hj hz=>((h i j (hl hj) hj).2 hz).ready,fun i k j l hik hj hk hz e=>?_⟩
 refine((h k l (hl hk) hk).2 hz).once (List.mem_map.2 ⟨j,?_,e⟩)
 exact List.mem_of_getElem? (i:=i) (by rw[List.getElem?_take];rw[if_pos hik];exact hj)
theorem yO{b:Boss}{ts:List Task}(h:JL b.epoch b.now b.given b.workers b.results ts b.jobs):ge b ts b.jobs.length:=by
 intro i j _ hj
 refine⟨h.zero i j hj,fun hz=>⟨h.lease i j hj hz,h.worker i j hj hz,h.til i j hj hz,h.res i j hj hz,h.ready i j hj hz,fun hm=>?_⟩⟩
 obtain⟨l,hl,e⟩:=List.mem_map.1 hm
 obtain⟨k,hk⟩:=List.getElem?_of_mem hl
 rw[List.getElem?_take]at hk
 split at hk
 ·rename_i hki
  exact h.once k i l j hki hk hj hz e
 ·cases hk
theorem FS{ep now now' given workers:Int}{rs:List ByteArray}{ts:List Task}{js:List Job}{f:Job→Job}(h:JL ep now given workers rs ts js)(hf:∀ j,f j = fw∨(f j).lease = j.lease∧(f j).worker = j.worker∧(j.lease = 0→f j = j)∧(¬j.lease = 0→(now+1≤j.til∧j.til≤now+12)→now'+1≤(f j).til∧(f j).til≤now'+12)):JL ep now' given workers rs ts (js.map f):=by
 have g:∀ {i:Nat} {x:Job},(js.map f)[i]? = some x→∃ j,js[i]? = some j∧f j = x:=fun{i x} hx=>by
  rw[List.getElem?_map]at hx
  cases hj:js[i]? with
  |none=>rw[hj]at hx;cases hx
  |some j=>rw[hj]at hx;exact⟨j,rfl,Option.some.inj hx⟩
 have k:∀ {i:Nat} {x:Job},(js.map f)[i]? = some x→¬x.lease = 0→∃ j,js[i]? = some j∧f j = x∧x.lease = j.lease∧x.worker = j.worker∧¬j.lease = 0∧now'+1≤x.til∧x.til≤now'+12:=fun{i x} hx hz=>by
  obtain⟨j,hj,e⟩:=g hx
  rcases hf j with q|⟨q1,q2,_,q3⟩
  ·rw[e]at q;rw[q]at hz;exact absurd rfl hz
  ·rw[e]at q1 q2 q3
   have hz':¬j.lease = 0:=fun w=>hz (by rw[q1];exact w)
   exact⟨j,hj,e,q1,q2,hz',q3 hz' (h.til i j hj hz')⟩
 refine⟨fun i x hx hz=>?_,fun i x hx hz=>?_,fun i x hx hz=>?_,fun i x hx hz=>?_,fun i x hx hz=>?_,fun i x hx hz=>?_,fun i m x y him hx hy hz e=>?_⟩
 ·obtain⟨j,hj,e⟩:=g hx
  rcases hf j with q|⟨q1,q2,q4,q3⟩
  ·rw[←e,q];exact⟨rfl,rfl⟩
  ·have hz':j.lease = 0:=by rw[←q1,e];exact hz
   rw[←e,q4 hz'];exact h.zero i j hj hz'
 ·obtain⟨j,hj,e,q1,q2,hz',t⟩:=k hx hz;rw[q1];exact h.lease i j hj hz'
 ·obtain⟨j,hj,e,q1,q2,hz',t⟩:=k hx hz;rw[q2];exact h.worker i j hj hz'
 ·obtain⟨j,hj,e,q1,q2,hz',t⟩:=k hx hz;exact t
 ·obtain⟨j,hj,e,q1,q2,hz',t⟩:=k hx hz;exact h.res i j hj hz'
 ·obtain⟨j,hj,e,q1,q2,hz',t⟩:=k hx hz;exact h.ready i j hj hz'
 ·obtain⟨l,hl,_,q1,_,hz',_⟩:=k hy hz
  have hzx:¬x.lease = 0:=fun w=>hz (by rw[←e];exact w)
  obtain⟨j,hj,_,p1,_,_,_⟩:=k hx hzx
  exact h.once i m j l him hj hl hz' (by rw[←p1,←q1];exact e)
theorem PF{ep now given workers:Int}{rs:List ByteArray}{ts:List Task}{js:List Job}(h:JL ep now given workers rs ts js):JL ep (now+1) given workers rs ts (js.map (pG (now+1))):=by
 refine FS h fun j=>?_
 unfold pG
 split
 ·exact .inl rfl
 ·rename_i hd
  exact .inr ⟨rfl,rfl,fun _=>rfl,fun _ q=>⟨by omega,by omega⟩⟩
theorem NO{ep now given workers w:Int}{rs:List ByteArray}{ts:List Task}{js:List Job}(h:JL ep now given workers rs ts js):JL ep now given workers rs ts (js.map fun j=>if j.worker = w then fw else j):=by
 refine FS h fun j=>?_
 split
 ·exact .inl rfl
 ·exact .inr ⟨rfl,rfl,fun _=>rfl,fun _ q=>q⟩
theorem NP{ep now given workers l:Int}{rs:List ByteArray}{ts:List Task}{js:List Job}(hl:1≤l)(h:JL ep now given workers rs ts js):JL ep now given workers rs ts (js.map fun j=>if j.lease = l then⟨j.lease,j.worker,now+12⟩else j):=by
 refine FS h fun j=>?_
 split
 ·rename_i e
  exact .inr ⟨rfl,rfl,fun z=>absurd z OM,fun _ q=>⟨by dsimp only;omega,by dsimp only;omega⟩⟩
 ·exact .inr ⟨rfl,rfl,fun _=>rfl,fun _ q=>q⟩
theorem PD{ep now given workers s:Int}{rs:List ByteArray}{ts:List Task}{js:List Job}{n:Nat}{j0:Job}(h:JL ep now given workers rs ts js)(hj:js[n]? = some j0)(hg:0≤given)(hs:0≤s∧s < workers)(hr:atS rs (n:Int) = emp)(hd:ca rs (gR ts n))(he:1≤ep):JL ep now (given+1) workers rs ts (js.set n ⟨(ep - 1) * 1000000+ (given+1),s+1,now+12⟩):=by
 have hn:=(List.getElem?_eq_some_iff.1 hj).1
 have g:∀ {i:Nat} {x:Job},(js.set n ⟨(ep - 1) * 1000000+ (given+1),s+1,now+12⟩)[i]? = some x→(i = n∧x = ⟨(ep - 1) * 1000000+ (given+1),s+1,now+12⟩)∨(¬i = n∧js[i]? = some x):=fun{i x} hx=>by
  by_cases e:i = n
  ·subst e
   rw[List.getElem?_set_self hn]at hx
   exact .inl ⟨rfl,(Option.some.inj hx).symm⟩
  ·rw[List.getElem?_set_ne (fun q=>e q.symm)]at hx
   exact .inr ⟨e,hx⟩
 refine⟨fun i x hx hz=>?_,fun i x hx hz=>?_,fun i x hx hz=>?_,fun i x hx hz=>?_,fun i x hx hz=>?_,fun i x hx hz=>?_,fun i m x y him hx hy hz e=>?_⟩
 ·rcases g hx with⟨_,rfl⟩|⟨_,q⟩
  ·dsimp only at hz;omega
  ·exact h.zero i x q hz
 ·rcases g hx with⟨_,rfl⟩|⟨_,q⟩
  ·exact⟨by dsimp only;omega,by dsimp only;omega⟩
  ·have:=h.lease i x q hz;exact⟨by omega,by omega⟩
 ·rcases g hx with⟨_,rfl⟩|⟨_,q⟩
  ·exact⟨by dsimp only;omega,by dsimp only;omega⟩
  ·exact h.worker i x q hz
 ·rcases g hx with⟨_,rfl⟩|⟨_,q⟩
  ·exact⟨by dsimp only;omega,by dsimp only;omega⟩
  ·exact h.til i x q hz
 ·rcases g hx with⟨rfl,rfl⟩|⟨_,q⟩
  ·exact hr
  ·exact h.res i x q hz
 ·rcases g hx with⟨rfl,rfl⟩|⟨_,q⟩
  ·exact hd
  ·exact h.ready i x q hz
 ·rcases g hx with⟨a,rfl⟩|⟨a,qx⟩
  ·rcases g hy with⟨b,rfl⟩|⟨_,qy⟩
   ·omega
   ·have:=(h.lease m y qy hz).2;dsimp only at e;omega
  ·rcases g hy with⟨_,rfl⟩|⟨_,qy⟩
   ·have hx0:¬x.lease = 0:=fun w=>by dsimp only at e;omega
    have:=(h.lease i x qx hx0).2;dsimp only at e;omega
   ·exact h.once i m x y him qx qy hz e
end Go.K
end
section
open Go Go.Tm Go.Proofs
namespace Go.K
attribute [local irreducible] ByteArray.extract
theorem Iu{m:Message}{n:Nat}{x:ByteArray}(h:m.inputs[n]? = some x):fA m n++x = fA m (n+1):=by
 unfold fA;rw[zN h];simp only[ByteArray.append_assoc]
theorem Mr(x:Int):IntKind.u8.wrap x = x % 256:=by simp[IntKind.wrap,IntKind.bits,IntKind.signed]
theorem ra{x:Int}(k:Nat)(d:Int)(hk:(2:Int) ^ min k IntKind.i64.bits = d)(h:0≤d):IntKind.u8.wrap (x.fdiv (2 ^ min (Int.toNat (k:Int)) IntKind.i64.bits)) = x / d % 256:=by
 rw[Int.toNat_natCast,hk,Mr,Int.fdiv_eq_ediv_of_nonneg _ h]
theorem CN{m:Message}(h:bw m):(⟨(bK ([m.kind,m.frm,m.to,IntKind.u8.wrap (m.epoch.fdiv (2 ^ min (Int.toNat 8) IntKind.i64.bits)),IntKind.u8.wrap m.epoch,IntKind.u8.wrap (m.lease.fdiv (2 ^ min (Int.toNat 24) IntKind.i64.bits)),IntKind.u8.wrap (m.lease.fdiv (2 ^ min (Int.toNat 16) IntKind.i64.bits)),IntKind.u8.wrap (m.lease.fdiv (2 ^ min (Int.toNat 8) IntKind.i64.bits)),IntKind.u8.wrap m.lease,m.task,IntKind.u8.wrap ((m.inputs.map ak).length:Int)].map b1T)).toArray⟩:ByteArray) ++m.text = fA m 0:=by
 obtain⟨h1,h2,h3,h4,h5,h6⟩:=eA h
 have h7:=(cG h).1
 have e:[m.kind,m.frm,m.to,IntKind.u8.wrap (m.epoch.fdiv (2 ^ min (Int.toNat 8) IntKind.i64.bits)),IntKind.u8.wrap m.epoch,IntKind.u8.wrap (m.lease.fdiv (2 ^ min (Int.toNat 24) IntKind.i64.bits)),IntKind.u8.wrap (m.lease.fdiv (2 ^ min (Int.toNat 16) IntKind.i64.bits)),IntKind.u8.wrap (m.lease.fdiv (2 ^ min (Int.toNat 8) IntKind.i64.bits)),IntKind.u8.wrap m.lease,m.task,IntKind.u8.wrap ((m.inputs.map ak).length:Int)] = v4 m:=by
  have a1:IntKind.u8.wrap (m.epoch.fdiv (2 ^ min (Int.toNat 8) IntKind.i64.bits)) = m.epoch / 256 % 256:=ra 8 256 (by decide) (by decide)
  have a2:IntKind.u8.wrap (m.lease.fdiv (2 ^ min (Int.toNat 24) IntKind.i64.bits)) = m.lease / 16777216 % 256:=ra 24 16777216 (by decide) (by decide)
  have a3:IntKind.u8.wrap (m.lease.fdiv (2 ^ min (Int.toNat 16) IntKind.i64.bits)) = m.lease / 65536 % 256:=ra 16 65536 (by decide) (by decide)
  have a4:IntKind.u8.wrap (m.lease.fdiv (2 ^ min (Int.toNat 8) IntKind.i64.bits)) = m.lease / 256 % 256:=ra 8 256 (by decide) (by decide)
  have b1:m.epoch / 256 % 256 = m.epoch / 256:=by omega
  have b2:m.lease / 16777216 % 256 = m.lease / 16777216:=by omega
  unfold v4
  rw[List.length_map]
  rw[a1,a2,a3,a4,b1,b2,Mr,Mr,wu8 (z:=(m.inputs.length:Int)) OM OM]
 rw[e,pL,←zP (zu h),ij]
theorem o7(m:Message)(key:ByteArray)(hl:m.inputs.length≤9223372036854775806):F oT [.val (dw m),.val (.s key)] (.s (dz m key)) [[],[]]:=by
 have c1:=bU m hl
 by_cases h:bw m
 ·have hb:=fg h
  obtain⟨h1,h2,h3,h4,h5,h6⟩:=eA h
  obtain⟨h7,h8,h9⟩:=cG h
  rw[show decide (bw m) = true from decide_eq_true h]at c1
  by_cases hk:key.size≤30
  ·have c4:=mI (cN m) key OM OM
   have hs:(ee (cN m) key).size = 8:=gt _
   refine eQ ?_
   conv=>whnf
   refine g 0 0 []<|J ⟨UH,I,I⟩<|W.sq<|g 11 16 [.call VT [[]],BF,BF,BF,BF]<|J Zb6<|W.cn<|J (noT dO) fun _=>W.skip<|g 10 56 [.i m.kind,.i m.frm,.i m.to,.i (Int.fdiv m.epoch (2 ^ min (Int.toNat 8) (IntKind.bits IntKind.i64))),.i (IntKind.wrap IntKind.u8 (Int.fdiv m.epoch (2 ^ min (Int.toNat 8) (IntKind.bits IntKind.i64)))),.i (IntKind.wrap IntKind.u8 m.epoch),.i (Int.fdiv m.lease (2 ^ min (Int.toNat 24) (IntKind.bits IntKind.i64))),.i (IntKind.wrap IntKind.u8 (Int.fdiv m.lease (2 ^ min (Int.toNat 24) (IntKind.bits IntKind.i64)))),.i (Int.fdiv m.lease (2 ^ min (Int.toNat 16) (IntKind.bits IntKind.i64))),.i (IntKind.wrap IntKind.u8 (Int.fdiv m.lease (2 ^ min (Int.toNat 16) (IntKind.bits IntKind.i64)))),.i (Int.fdiv m.lease (2 ^ min (Int.toNat 8) (IntKind.bits IntKind.i64))),.i (IntKind.wrap IntKind.u8 (Int.fdiv m.lease (2 ^ min (Int.toNat 8) (IntKind.bits IntKind.i64)))),.i (IntKind.wrap IntKind.u8 m.lease),.i m.task,.i (IntKind.wrap IntKind.u8 (↑(List.length (List.map ak m.inputs)):Int))]<|J ⟨I,I,wu8 OM OM,I,I,wu8 OM OM,I,I,wu8 OM OM,I,I,Zdo,rfl,I,I,rfl,I,I,Zdo,rfl,I,I,Zdo,rfl,I,I,Zdo,rfl,I,I,rfl,I,I,wu8 OM OM,I,I,I,rfl,⟨UA,UA,UA,UA,UA,UA,UA,UA,UA,UA,UA,I⟩,I,I⟩<|g 56 61 [.s ({data:=List.toArray (bK [[T.v (Value.int IntKind.u8 m.kind)],[T.v (Value.int IntKind.u8 m.frm)],[T.v (Value.int IntKind.u8 m.to)],[T.v (Value.int IntKind.u8 (IntKind.wrap IntKind.u8 (Int.fdiv m.epoch (2 ^ min (Int.toNat 8) (IntKind.bits IntKind.i64)))))],[T.v (Value.int IntKind.u8 (IntKind.wrap IntKind.u8 m.epoch))],[T.v (Value.int IntKind.u8 (IntKind.wrap IntKind.u8 (Int.fdiv m.lease (2 ^ min (Int.toNat 24) (IntKind.bits IntKind.i64)))))],[T.v (Value.int IntKind.u8 (IntKind.wrap IntKind.u8 (Int.fdiv m.lease (2 ^ min (Int.toNat 16) (IntKind.bits IntKind.i64)))))],[T.v (Value.int IntKind.u8 (IntKind.wrap IntKind.u8 (Int.fdiv m.lease (2 ^ min (Int.toNat 8) (IntKind.bits IntKind.i64)))))],[T.v (Value.int IntKind.u8 (IntKind.wrap IntKind.u8 m.lease))],[T.v (Value.int IntKind.u8 m.task)],[T.v (Value.int IntKind.u8 (IntKind.wrap IntKind.u8 (↑(List.length (List.map ak m.inputs)):Int)))]]):ByteArray}),.s ({data:=List.toArray (bK [[T.v (Value.int IntKind.u8 m.kind)],[T.v (Value.int IntKind.u8 m.frm)],[T.v (Value.int IntKind.u8 m.to)],[T.v (Value.int IntKind.u8 (IntKind.wrap IntKind.u8 (Int.fdiv m.epoch (2 ^ min (Int.toNat 8) (IntKind.bits IntKind.i64)))))],[T.v (Value.int IntKind.u8 (IntKind.wrap IntKind.u8 m.epoch))],[T.v (Value.int IntKind.u8 (IntKind.wrap IntKind.u8 (Int.fdiv m.lease (2 ^ min (Int.toNat 24) (IntKind.bits IntKind.i64)))))],[T.v (Value.int IntKind.u8 (IntKind.wrap IntKind.u8 (Int.fdiv m.lease (2 ^ min (Int.toNat 16) (IntKind.bits IntKind.i64)))))],[T.v (Value.int IntKind.u8 (IntKind.wrap IntKind.u8 (Int.fdiv m.lease (2 ^ min (Int.toNat 8) (IntKind.bits IntKind.i64)))))],[T.v (Value.int IntKind.u8 (IntKind.wrap IntKind.u8 m.lease))],[T.v (Value.int IntKind.u8 m.task)],[T.v (Value.int IntKind.u8 (IntKind.wrap IntKind.u8 (↑(List.length (List.map ak m.inputs)):Int)))]]):ByteArray} ++m.text)]<|J ⟨I,⟨I,(by repeat (first|exact kB|refine iO ?_)),rfl⟩,I,I,⟨rfl,(by simp only[bsz,ByteArray.size_append,rW];omega)⟩,I,I⟩ ?_
   refine W.sq<|g 0 1 []<|J UD<|W.blk<|W.lp (fun s (n:Nat)=>⟨[(1,s.s 1),(4,s.s 4),(6,.s (fA m n)),(9,s.s 9),(62,s.s 62),(63,s.s 63),(64,.i n)],[],[]⟩) (fun(n:Nat)=>n≤m.inputs.length) (fun(n:Nat)=>m.inputs.length - n) (0) [] [] ⟨rfl,⟨rfl,rfl,(congrArg (fun z=>V.t (T.v (Value.string z))) (CN h)),Zah,rfl,rfl,rfl,I⟩,I,I⟩ OM ?_
   intro n hn
   have hc:=pM h n hn
   have hs2:(ee (fA m n) key).size = 8:=gt _
   conv=>whnf
   refine g 0 0 []<|J UA<|W.sq<|W.cn<|J (fun h10=>?_) fun h10=>?_
   replace h10:=dt h10
   simp only[LM]at h10
   refine W.skip<|W.sq<|W.blk ?_
   obtain⟨y1,hy1⟩:=aj (xs:=Message.inputs m) (n:=n) OM
   have hm1:=h8 y1 (List.mem_of_getElem? hy1)
   refine g 65 68 [.x (ak y1)]<|J Zcj<|rg [.s (fA m n++y1)]<|J ⟨I,I,⟨rfl,OM⟩,I,I⟩<|rg [.i ((n:Int) +1)]<|J Zdj ?_
   rotate_left
   replace h10:=df h10
   simp only[LM]at h10
   refine W.exit<|g 62 77 [.call (V.s (ee (fA m n) key)) [[],[]],.s (ee (fA m n) key++fA m n)]<|J ⟨I,I,⟨UB,I,UT,UA,mI _ _ OM OM⟩,I,⟨rfl,OM⟩,I,I⟩<|RT ?_
   rotate_left
   ·refine⟨n+1,[],[],⟨rfl,⟨rfl,rfl,(congrArg (fun z=>V.t (T.v (Value.string z))) (Iu AS)),Zah,rfl,rfl,rfl,I⟩,I,I⟩,?_,?_⟩
    rotate_left
    (dsimp only;omega)
    dsimp only
    omega
   ·exact vs (by rw[show n = m.inputs.length by omega,tb];exact(if_pos ⟨h,hk⟩).symm)
  ·refine eQ ?_
   conv=>whnf
   refine g 0 0 []<|J ⟨UH,I,I⟩<|W.sq<|g 11 16 [.call VT [[]],BF,BF,BF,BF]<|J Zb6<|W.cn<|J (fun _=>(g 16 17 []<|J UA (RT ?_))) (noF tO)
   exact vs (if_neg (fun h=>hk h.2)).symm
 ·rw[show decide (bw m) = false from decide_eq_false h]at c1
  refine eQ ?_
  conv=>whnf
  refine g 0 0 []<|J ⟨UH,I,I⟩<|W.sq<|g 11 16 [.call VF [[]],BT,BT,BT,BT]<|J ⟨I,Zb7,I,I,rfl,rfl,rfl,rfl,I⟩<|W.cn<|J (fun _=>(g 16 17 []<|J UA (RT ?_))) (noF rfl)
  exact vs (if_neg (fun x=>h x.1)).symm
end Go.K
end
section
open Go Go.Tm Go.Proofs
namespace Go.K
attribute [local irreducible] ByteArray.extract
end Go.K
end
section
open Go Go.Tm Go.Proofs
namespace Go.K
theorem Nq{l:List Int}(h8:∀ x∈l,0≤x∧x≤255):gz (l.take 2000):=⟨by rw[List.length_take];omega,fun x hx=>h8 x (List.mem_of_mem_take hx)⟩
end Go.K
end
section
open Go Go.Tm Go.Proofs
namespace Go.K
theorem E5(e:Entry):(b9 e).size≤4+e.text.size:=by
 unfold b9
 split
 ·rw[ByteArray.size_append,fV];exact Nat.le_refl _
 ·exact Nat.zero_le _
end Go.K
end
section
open Go Go.Tm Go.Proofs
namespace Go.K
structure RepOk (p:Plan) (xs:List ByteArray):Prop where
 plan:iG p
 len:xs.length≤400
 size:∀ s∈xs,s.size≤64
end Go.K
end
section
open Go Go.Tm Go.Proofs
namespace Go.K
attribute [local irreducible] ByteArray.extract
theorem Lk(b k:ByteArray):(ee b k).size = 8:=by unfold ee;exact gt _
end Go.K
end
section
open Go Go.Tm Go.Proofs
namespace Go.K
theorem Mh{hs:List Int}{r:ByteArray}{k:Nat}{x:Int}(hk:hs[k]? = some x)(hx:0≤x∧x≤255):byt (bl hs++r) k = x:=by
 obtain⟨⟨l⟩⟩:=r
 have e:bl hs++ ⟨⟨l⟩⟩ = ⟨⟨(hs.map fun n=>UInt8.ofNat n.toNat) ++l⟩⟩:=by
  apply ByteArray.ext
  rw[ByteArray.data_append]
  apply Array.ext'
  simp[bl]
 have h1:((hs.map fun n=>UInt8.ofNat n.toNat) ++l)[k]? = some (UInt8.ofNat x.toNat):=by
  rw[List.getElem?_append_left (by rw[List.length_map];exact(List.getElem?_eq_some_iff.1 hk).1),List.getElem?_map,hk];rfl
 rw[e,sw h1]
 simp;omega
theorem rx(a r:ByteArray):(a++r).extract a.size (a++r).size = r:=by
 have e:a.extract a.size (a.size+r.size) = emp:=ByteArray.size_eq_zero_iff.1 (by rw[ByteArray.size_extract];omega)
 rw[ByteArray.size_append,ByteArray.extract_append,e,Fg]
 simp
theorem wo:∀ (xs:List ByteArray),(∀ s∈xs,s.size = 8)→∀ (p:ByteArray) (k:Nat),p.size = 8 * k→(List.range xs.length).map (fun j=>(p++gN xs).extract (8 * (j+k)) (8 * (j+k) +8)) = xs
 |[],_,p,k,hp=>rfl
 |x :: xs,h,p,k,hp=>by
  have hx:=h x (List.mem_cons_self ..)
  rw[List.length_cons,List.range_succ_eq_map,List.map_cons,List.map_map]
  have ih:=wo xs (fun s hs=>h s (List.mem_cons_of_mem _ hs)) (p++x) (k+1) (by rw[ByteArray.size_append];omega)
  congr 1
  ·rw[gN,Nat.zero_add,←ByteArray.append_assoc]
   rw[show 8 * k = p.size by omega,show p.size+8 = (p++x).size by rw[ByteArray.size_append];omega]
   have e0:(gN xs).extract (p.size - (p++x).size) ((p++x).size - (p++x).size) = emp:=ByteArray.size_eq_zero_iff.1 (by rw[ByteArray.size_extract];omega)
   rw[ByteArray.extract_append,e0,BE]
   exact rx p x
  ·conv=>rhs;rw[←ih]
   refine List.map_congr_left fun j _=>?_
   show(p++gN (x :: xs)).extract (8 * (j+1+k)) (8 * (j+1+k) +8) = _
   rw[gN,←ByteArray.append_assoc,show j+1+k = j+ (k+1) by omega]
theorem CA{xs:List ByteArray}(h:∀ s∈xs,s.size = 8):bP (gN xs) xs.length = xs:=by
 have:=wo xs h emp 0 rfl
 rw[Fg]at this
 exact this
theorem Fi{xs:List ByteArray}(h:∀ s∈xs,s.size = 8):(gN xs).size = 8 * xs.length:=by
 induction xs with
 |nil=>rfl
 |cons x xs ih =>
  have:=h x (List.mem_cons_self ..)
  rw[gN,ByteArray.size_append,ih fun s hs=>h s (List.mem_cons_of_mem _ hs),List.length_cons];omega
theorem NB{m:Message}(h:bw m):rdM (cN m) = m:=by
 obtain⟨h1,h2,h3,h4,h5,h6⟩:=eA h
 obtain⟨h7,h8,h9⟩:=cG h
 have hb:cN m = bl (v4 m) ++ (m.text++gN m.inputs):=by unfold cN;rw[ByteArray.append_assoc]
 have hl:(bl (v4 m)).size = 11:=by rw[fV];rfl
 have hx:(cN m).extract 11 (cN m).size = m.text++gN m.inputs:=by rw[hb,←hl];exact rx _ _
 have hs:(cN m).size - 11 = m.text.size+8 * m.inputs.length:=by rw[hb,ByteArray.size_append,hl,ByteArray.size_append,Fi h8];omega
 have b:∀ (k:Nat) (x:Int),(v4 m)[k]? = some x→0≤x∧x≤255→byt (cN m) k = x:=fun k x hk hx=>by rw[hb];exact Mh hk hx
 have k0:=b 0 m.kind rfl ⟨by omega,by omega⟩
 have k1:=b 1 m.frm rfl ⟨by omega,by omega⟩
 have k2:=b 2 m.to rfl ⟨by omega,by omega⟩
 have k3:=b 3 (m.epoch / 256) rfl ⟨by omega,by omega⟩
 have k4:=b 4 (m.epoch % 256) rfl ⟨by omega,by omega⟩
 have k5:=b 5 (m.lease / 16777216) rfl ⟨by omega,by omega⟩
 have k6:=b 6 (m.lease / 65536 % 256) rfl ⟨by omega,by omega⟩
 have k7:=b 7 (m.lease / 256 % 256) rfl ⟨by omega,by omega⟩
 have k8:=b 8 (m.lease % 256) rfl ⟨by omega,by omega⟩
 have k9:=b 9 m.task rfl ⟨by omega,by omega⟩
 have e1:m.epoch / 256 * 256+m.epoch % 256 = m.epoch:=by omega
 have e2:m.lease / 16777216 * 16777216+m.lease / 65536 % 256 * 65536+m.lease / 256 % 256 * 256+m.lease % 256 = m.lease:=by omega
 by_cases h3k:m.kind = 3
 ·have hi:m.inputs = []:=by
   rcases h.2 with q|q|q|q|q
   ·have:=q.1;omega
   ·have:=q.1;omega
   ·exact List.eq_nil_of_length_eq_zero (by have:=q.2.2.2.2.2.2;omega)
   ·have:=q.1;omega
   ·have:=q.1;omega
  unfold rdM
  rw[k0,k1,k2,k3,k4,k5,k6,k7,k8,k9,e1,e2,if_pos h3k,if_pos h3k,hx,hi,gN,BE]
  obtain⟨a1,a2,a3,a4,a5,a6,a7,a8⟩:=m
  dsimp only at hi
  rw[hi]
 ·have ht:m.text = emp:=by
   rcases h.2 with q|q|q|q|q
   ·exact q.2.2.2.2.2.1
   ·exact q.2.2.2.2.2.1
   ·exact absurd q.1 h3k
   ·exact q.2.2.2.2.2.1
   ·exact q.2.2.2.2.2.1
  have hn:((cN m).size - 11) / 8 = m.inputs.length:=by
   rw[hs,ht]
   have:emp.size = 0:=rfl
   omega
  unfold rdM
  rw[k0,k1,k2,k3,k4,k5,k6,k7,k8,k9,e1,e2,if_neg h3k,if_neg h3k,hx,hn,ht,Fg,CA h8]
  obtain⟨a1,a2,a3,a4,a5,a6,a7,a8⟩:=m
  dsimp only at ht
  rw[ht]
theorem HP{m:Message}{key:ByteArray}(h:bw m)(hk:key.size≤30):cR (dz m key) key = some m:=by
 have e:dz m key = ee (cN m) key++cN m:=if_pos ⟨h,hk⟩
 have e8:=Lk (cN m) key
 have hx:(dz m key).extract 8 (dz m key).size = cN m:=by rw[e,←e8];exact rx _ _
 have hb:=fg h
 refine nr ?_ (by rw[hx];exact NB h) rfl
 rw[e,ByteArray.size_append,e8,hb];omega
end Go.K
end
section
open Go Go.Tm Go.Proofs
namespace Go.K
attribute [local irreducible] ByteArray.extract
theorem De{s key:ByteArray}{m:Message}(h:cR s key = some m):bw m:=by
 unfold cR at h
 by_cases h0:s.size < 19
 ·rw[if_pos (Or.inl h0)]at h;cases h
 ·by_cases h1:dz (rdM (s.extract 8 s.size)) key = s
  ·rw[if_neg (by rintro(h|h);exact h0 h;exact h h1)]at h
   cases h
   exact((kQ h0).1 h1).1
  ·rw[if_pos (Or.inr h1)]at h;cases h
end Go.K
end
section
open Go Go.Tm Go.Proofs
namespace Go.K
attribute [local irreducible] ByteArray.extract
end Go.K
end
section
open Go Go.Tm Go.Proofs
namespace Go.K
theorem NR{e:Entry}(h:e.ok):rdS (b9 e) = e:=by
 have hok:=h
 obtain⟨⟨h1,h2⟩,⟨h3,h4⟩,h5⟩:=h
 have hk:1≤e.kind∧e.kind≤2:=by rcases h5 with q|q <;> (have:=q.1;omega)
 have d1:e.epoch.tdiv 256 = e.epoch / 256:=Int.tdiv_eq_ediv_of_nonneg OM
 have d2:e.epoch.tmod 256 = e.epoch % 256:=Int.tmod_eq_emod_of_nonneg OM
 have hf:b9 e = bl [e.kind,e.epoch / 256,e.epoch % 256,e.task] ++e.text:=by
  rw[b9,if_pos hok,d1,d2,wO,wu8 OM OM,wu8 OM OM,wu8 OM OM,wu8 OM OM]
 have hl:(bl [e.kind,e.epoch / 256,e.epoch % 256,e.task]).size = 4:=by rw[fV];rfl
 have hx:(b9 e).extract 4 (b9 e).size = e.text:=by rw[hf,←hl];exact rx _ _
 have b:∀ (k:Nat) (x:Int),([e.kind,e.epoch / 256,e.epoch % 256,e.task])[k]? = some x→0≤x∧x≤255→byt (b9 e) k = x:=fun k x hk hx=>by rw[hf];exact Mh hk hx
 have k0:=b 0 e.kind rfl ⟨by omega,by omega⟩
 have k1:=b 1 (e.epoch / 256) rfl ⟨by omega,by omega⟩
 have k2:=b 2 (e.epoch % 256) rfl ⟨by omega,by omega⟩
 have k3:=b 3 e.task rfl ⟨by omega,by omega⟩
 unfold rdS
 rw[k0,k1,k2,k3,hx,show e.epoch / 256 * 256+e.epoch % 256 = e.epoch by omega]
theorem sN{e:Entry}(h:e.ok):(b9 e).size = 4+e.text.size:=by
 rw[b9,if_pos h,ByteArray.size_append,fV];rfl
theorem lg{e:Entry}(h:e.ok):dn (b9 e) = some e:=by
 have:=sN h
 rw[dn,if_neg OM,NR h,if_pos rfl]
theorem lh{s:ByteArray}{e:Entry}(h:dn s = some e):b9 e = s:=by
 unfold dn at h
 split at h
 ·cases h
 ·split at h
  ·cases h;assumption
  ·cases h
end Go.K
end
section
open Go Go.Tm Go.Proofs
namespace Go.K
theorem Rb{p:Plan}(hck:ai p.tasks = 0):∀ t∈p.tasks,t.deps.length≤8:=fun t ht=>by
 obtain⟨k,hk⟩:=List.getElem?_of_mem ht
 exact(bv hck hk).2.2.1
structure HandK (b:Boss) (ts:List Task) (h:Hand):Prop where
 jl:JL b.epoch b.now h.given b.workers b.results ts h.jobs
 seats:∀ s∈h.seats,0≤s.epoch∧s.epoch≤300
theorem LB{b:Boss}{ts:List Task}(hd:∀ t∈ts,t.deps.length≤8)(he:1≤b.epoch)(h0:0≤b.given)(h1:b.given≤1000000)(hjl:b.jobs.length = ts.length)(hsl:(b.seats.length:Int) = b.workers)(hj:JL b.epoch b.now b.given b.workers b.results ts b.jobs)(hs:∀ s∈b.seats,0≤s.epoch∧s.epoch≤300):∀ n,n≤ts.length→HandK b ts (aC b ts n)
 |0,_=>⟨hj,hs⟩
 |n+1,hn=>by
  have ih:=LB hd he h0 h1 hjl hsl hj hs n OM
  have ho:=j5 hd h0 h1 n
  by_cases hc:CanHand b ts (aC b ts n) n
  ·cases hf:gQ (aC b ts n).seats with
   |none=>rw[iv hf];exact ih
   |some s =>
    rw[iu hc hf]
    obtain⟨x,hx0,hx1,hx2,_⟩:=nw hf
    have e1:=ho.jobs
    have e2:=ho.seats
    obtain⟨j,hj0⟩:=aj (xs:=(aC b ts n).jobs) (n:=n) OM
    refine⟨PD ih.jl hj0 ho.lo ⟨by omega,by omega⟩ hc.res hc.ready he,fun y hy=>?_⟩
    rcases List.mem_or_eq_of_mem_set hy with hy|hy
    ·exact ih.seats y hy
    ·rw[hy]
     have:kH (aC b ts n).seats s = x:=by rw[kH,hx0];rfl
     show 0≤(kH _ _).epoch∧(kH _ _).epoch≤300
     rw[this]
     exact ih.seats x (List.mem_of_getElem? hx0)
  ·rw[fp hc];exact ih
theorem Q2{b:Boss}(h:¬b.up = false):b.up = true:=by cases hb:b.up;exact absurd hb h;rfl
theorem En{b:Boss}{p:Plan}(hv:BossOk b p):BossOk (eY b p.tasks).boss p:=by
 by_cases h0:b.now = 1000000
 ·rw[kF h0];exact hv
 have hnow:=hv.now
 by_cases hup:b.up = false
 ·rw[nJ h0 hup]
  obtain⟨d1,d2,d3,d4,d5,d6,d7,d8⟩:=hv.down hup
  exact⟨hv.plan,hv.workers,⟨by show 0≤b.now+1;omega,by show b.now+1≤1000000;omega⟩,hv.code,(fun e=>by rw[show(Ql b).up = b.up from rfl,hup]at e;cases e),fun _=>⟨d1,d2,d3,d4,d5,d6,d7,d8⟩⟩
 have hup2:=Q2 hup
 obtain⟨u1,u2,u3,u4,u5,u6,⟨u7,u8⟩,⟨u9,u10⟩,u11,u12,u13,u14⟩:=hv.up hup2
 have hd:=Rb hv.plan
 have hj:JL (cI b).epoch (cI b).now (cI b).given (cI b).workers (cI b).results p.tasks (cI b).jobs:=PF (Bu u12)
 have hjl:(cI b).jobs.length = p.tasks.length:=by show(b.jobs.map _).length = _;rw[List.length_map];exact u4
 have hk:=LB (b:=cI b) (ts:=p.tasks) hd u2 u9 u10 hjl u5 hj u13 p.tasks.length (Nat.le_refl _)
 have ho:=j5 (b:=cI b) (ts:=p.tasks) hd u9 u10 p.tasks.length
 have e1:(endH b p.tasks).jobs.length = p.tasks.length:=by show(aC _ _ _).jobs.length = _;rw[ho.jobs];exact hjl
 have e2:((endH b p.tasks).seats.length:Int) = b.workers:=by show((aC _ _ _).seats.length:Int) = _;rw[ho.seats];exact u5
 by_cases hs:b.since+1 = 2
 ·rw[fX h0 hup hs]
  have es:bV ⟨b.workers,b.up,b.now+1,0,b.epoch,(endH b p.tasks).given,⟨b.log.safe++b.log.loose,[]⟩,b.results,(endH b p.tasks).jobs,(endH b p.tasks).seats,[]⟩ p = bV b p:=by show ar p ((b.log.safe++b.log.loose) ++ []) = ar p (b.log.safe++b.log.loose);rw[List.append_nil]
  refine⟨hv.plan,hv.workers,⟨by show 0≤b.now+1;omega,by show b.now+1≤1000000;omega⟩,by rw[es];exact hv.code,fun _=>?_,fun e=>absurd (show b.up = false from e) hup⟩
  rw[es]
  exact⟨u1,u2,u3,e1,e2,u6,⟨Int.le_refl _,by show(0:Int)≤1;omega⟩,⟨ho.lo,ho.hi⟩,Nat.zero_le _,yO hk.jl,hk.seats,fun o ho=>by cases ho⟩
 ·rw[io h0 hup hs]
  have es:bV ⟨b.workers,b.up,b.now+1,b.since+1,b.epoch,(endH b p.tasks).given,b.log,b.results,(endH b p.tasks).jobs,(endH b p.tasks).seats,b.owed⟩ p = bV b p:=rfl
  refine⟨hv.plan,hv.workers,⟨by show 0≤b.now+1;omega,by show b.now+1≤1000000;omega⟩,by rw[es];exact hv.code,fun _=>?_,fun e=>absurd (show b.up = false from e) hup⟩
  rw[es]
  exact⟨u1,u2,u3,e1,e2,u6,⟨by show 0≤b.since+1;omega,by show b.since+1≤1;omega⟩,⟨ho.lo,ho.hi⟩,u11,yO hk.jl,hk.seats,fun o ho=>by obtain⟨a1,a2,a3,a4⟩:=u14 o ho;exact⟨a1,a2,a3,a4⟩⟩
end Go.K
end
section
open Go Go.Tm Go.Proofs
namespace Go.K
theorem yZ(ts:List Task)(st:Option Tale)(xs:List ByteArray)(s:ByteArray):iU ts st (xs++ [s]) = (iU ts st xs).bind fun t=>de ts t s:=by
 rw[mS];cases iU ts st xs with
 |none=>rfl
 |some t=>rfl
theorem BZ{p:Plan}{xs:List ByteArray}{e:Entry}{t:Task}(h:(ar p xs).code = 0)(hl:xs.length < 310)(hok:e.ok)(hk:¬e.kind = 1)(he:e.epoch = (ar p xs).epoch)(ht:p.tasks[e.task.toNat]? = some t)(ht2:e.task < p.tasks.length)(hr:atS (ar p xs).results e.task = emp)(hd:ca (ar p xs).results t.deps):ar p (xs++ [b9 e]) = ⟨0,(ar p xs).epoch,(ar p xs).results.set e.task.toNat e.text⟩:=by
 obtain⟨hck,_,hrl,u,h1,h2⟩:=ci h
 rw[h2]at he hr hd ⊢
 dsimp only at he hr hd
 obtain⟨y,hy⟩:∃ y,u.results[e.task.toNat]? = some y:=by
  rw[h2]at hrl
  exact aj (by have:=hok.2.1.1;dsimp only at hrl;omega)
 have hs:de p.tasks u (b9 e) = some ⟨u.epoch,u.results.set e.task.toNat e.text⟩:=wI (lg hok) hk he ht2 hy (by rw[kc hy]at hr;exact hr) ht hd
 unfold ar
 rw[if_pos ⟨hck,by rw[List.length_append,List.length_singleton];omega⟩,yZ,h1]
 rw[Option.bind_some,hs]
theorem qB{p:Plan}{xs:List ByteArray}{n:Int}(h:(ar p xs).code = 0)(hl:xs.length < 310)(hn:n = (ar p xs).epoch+1)(h3:n≤300):ar p (xs++ [b9 (epE n)]) = ⟨0,n,(ar p xs).results⟩:=by
 obtain⟨hck,_,hrl,u,h1,h2⟩:=ci h
 have he:=(ey h).1
 rw[h2]at hn he ⊢
 dsimp only at hn he
 have hok:(epE n).ok:=⟨⟨by show 1≤n;omega,h3⟩,⟨Int.le_refl _,by show(0:Int)≤39;omega⟩,.inl ⟨rfl,rfl,rfl⟩⟩
 have hs:de p.tasks u (b9 (epE n)) = some ⟨n,u.results⟩:=AP (lg hok) rfl hn
 unfold ar
 rw[if_pos ⟨hck,by rw[List.length_append,List.length_singleton];omega⟩,yZ,h1]
 rw[Option.bind_some,hs]
theorem pk{p:Plan}{xs ys:List ByteArray}(h:(ar p (xs++ys)).code = 0):(ar p xs).code = 0:=by
 obtain⟨hck,hl,_,u,h1,_⟩:=ci h
 rw[mS]at h1
 unfold ar
 rw[if_pos ⟨hck,by rw[List.length_append]at hl;omega⟩]
 cases hr:iU p.tasks (some (ke p.tasks)) xs with
 |none=>rw[hr,gv]at h1;cases h1
 |some t=>rfl
theorem pF{b:Boss}{p:Plan}(k:Int)(hv:BossOk b p):BossOk (gD b k) p:=by
 by_cases hup:b.up = false
 ·rw[nz hup];exact hv
 rw[we hup]
 have hc:(ar p ((b.log.safe++b.log.loose.take (gT k b.log.loose.length)) ++ [])).code = 0:=by
  rw[List.append_nil]
  have h:=hv.code
  rw[bV,←List.take_append_drop (gT k b.log.loose.length) b.log.loose,←List.append_assoc]at h
  exact pk h
 exact⟨hv.plan,hv.workers,hv.now,hc,(fun e=>by cases e),fun _=>⟨rfl,rfl,rfl,rfl,rfl,rfl,rfl,rfl⟩⟩
theorem vC{b:Boss}{p:Plan}(hv:BossOk b p):BossOk (bd b p) p:=by
 by_cases hr:nL b p
 ·rw[Bl hr]
  obtain⟨h1,h2,h3⟩:=hr
  obtain⟨_,hc⟩:=rF hv h1
  have hw:=hv.workers
  have he:=(ey hc).1
  obtain⟨hck,_,hrl,_⟩:=ci hc
  have e:=qB (p:=p) (xs:=b.log.safe) (n:=(ar p b.log.safe).epoch+1) hc h2 rfl OM
  have es:bV (upB b.workers b.now b.log.safe p (ar p b.log.safe)) p = ⟨0,(ar p b.log.safe).epoch+1,(ar p b.log.safe).results⟩:=by
   show ar p ((b.log.safe++ [b9 (epE _)]) ++ []) = _
   rw[List.append_nil,e]
  refine⟨hv.plan,hw,hv.now,by rw[es],fun _=>?_,fun e=>by cases e⟩
  rw[es]
  refine⟨rfl,by show 1≤(ar p b.log.safe).epoch+1;omega,hrl,by show(List.replicate _ _).length = _;rw[List.length_replicate],by show((List.replicate b.workers.toNat jn).length:Int) = b.workers;rw[List.length_replicate];omega,rfl,⟨Int.le_refl _,by show(0:Int)≤1;omega⟩,⟨Int.le_refl _,by show(0:Int)≤1000000;omega⟩,Nat.zero_le _,?_,?_,fun o ho=>by cases ho⟩
  ·intro i j _ hj
   have:j = fw:=by
    have:=List.mem_of_getElem? hj
    exact(List.mem_replicate.1 this).2
   subst this
   exact⟨fun _=>⟨rfl,rfl⟩,fun q=>absurd rfl q⟩
  ·intro s hs
   rw[(List.mem_replicate.1 hs).2]
   exact⟨Int.le_refl _,by show(0:Int)≤300;omega⟩
 ·rw[lS hr];exact hv
end Go.K
end
section
open Go Go.Tm Go.Proofs
namespace Go.K
noncomputable def lj(key:ByteArray)(acc:List Parcel)(m:Message):List Parcel:=if bw m∧key.size≤30∧acc.length < 2000 then acc++ [⟨m.to,dz m key,dz m key⟩]else acc
noncomputable def gb(xs:List Parcel)(ms:List Message)(key:ByteArray)(n:Nat):List Parcel:=(ms.take n).foldl (lj key) xs
noncomputable def pt(xs:List Parcel)(ms:List Message)(key:ByteArray):List Parcel:=gb xs ms key ms.length
theorem EJ(xs:List Parcel)(ms:List Message)(key:ByteArray):gb xs ms key 0 = xs:=by unfold gb;rw[List.take_zero];rfl
theorem pu{xs:List Parcel}{ms:List Message}{key:ByteArray}{n:Nat}{m:Message}(h:ms[n]? = some m):gb xs ms key (n+1) = lj key (gb xs ms key n) m:=by
 unfold gb;rw[List.take_add_one,h];simp
theorem J4{key:ByteArray}{acc:List Parcel}{m:Message}(h:acc.length≤1048576):(lj key acc m).length≤1048576:=by
 unfold lj;split
 ·rename_i h2;rw[List.length_append];simp;omega
 ·exact h
theorem re{xs:List Parcel}(ms:List Message)(key:ByteArray)(h:xs.length≤1048576):∀ n,(gb xs ms key n).length≤1048576
 |0=>by rw[EJ];exact h
 |n+1=>by
  cases hm:ms[n]? with
  |none =>
   have:ms.take (n+1) = ms.take n:=by rw[List.take_add_one,hm];simp
   have e:gb xs ms key (n+1) = gb xs ms key n:=by unfold gb;rw[this]
   rw[e];exact re ms key h n
  |some m=>rw[pu hm];exact J4 (re ms key h n)
theorem vz(b k:ByteArray):(ee b k).size = 8:=by unfold ee Ge;rw[fV,oE]
theorem Dj{xs:List Parcel}{ms:List Message}{key:ByteArray}{n:Nat}{m:Message}(h:ms[n]? = some m)(h1:bw m)(h2:key.size≤30)(h3:(gb xs ms key n).length < 2000) :
 (gb xs ms key n).map bL++ [bL ⟨m.to,dz m key,dz m key⟩] = (gb xs ms key (n+1)).map bL:=by
 rw[pu h,lj,if_pos ⟨h1,h2,h3⟩,List.map_append];rfl
theorem rE{xs:List Parcel}{ms:List Message}{key:ByteArray}{n:Nat}{m:Message}(h:ms[n]? = some m)(h1:¬(bw m∧key.size≤30∧(gb xs ms key n).length < 2000)) :
 (gb xs ms key n).map bL = (gb xs ms key (n+1)).map bL:=by
 rw[pu h,lj,if_neg h1]
theorem CH(xs:List Parcel)(ms:List Message)(key:ByteArray)(hx:xs.length≤1048576)(hl:ms.length≤1048576)(hm:∀ m∈ms,m.inputs.length≤1048576):F Cd [.val (.t (zi xs)),.val (.t (.slc bZ (ms.map aF))),.val (.s key)] (.own pkd ((pt xs ms key).map bL)) [[],[],[]]:=by
 refine Cs ?_
 conv=>whnf
 refine g 0 0 []<|J UA<|g 11 13 [.call (V.own pkd (List.map bL xs)) [[]]]<|J ⟨I,⟨UA,I,US,UA,cX _ OM⟩,I,I⟩<|W.sq<|g 0 0 []<|J UC<|W.blk<|W.lp (fun s (n:Nat)=>⟨[(0,s.s 0),(1,s.s 1),(2,s.s 2),(6,s.s 6),(7,.ref ⟨12,none,0⟩),(13,s.s 13),(14,s.s 14),(15,.i n)],[(12,[.own pkd ((gb xs ms key n).map bL)])],[]⟩) (fun(n:Nat)=>n≤ms.length) (fun(n:Nat)=>ms.length - n) (0) [some 12] [] ⟨rfl,Zar,Zdm,I⟩ OM ?_
 intro n hn
 have hpl:=re ms key hx n
 by_cases hn2:n < ms.length
 ·obtain⟨m,hm1⟩:=aj hn2
  have hmi:=hm m (List.mem_of_getElem? hm1)
  have cv:=bU m OM
  have cf:=o7 m key OM
  by_cases hv:bw m
  ·rw[decide_eq_true hv]at cv
   by_cases hk:key.size≤30
   ·by_cases h3:(gb xs ms key n).length < 2000
    ·conv=>whnf
     refine g 0 0 []<|J UA<|W.sq<|W.cn<|J (fun _=>(W.skip (W.sq (W.blk (g 16 19 [.x (aF m)]<|J ⟨Zdg,I,I,UH,I⟩ (g 19 30 [.call VT [[]],BT,BT,BT,BT,BT,BT,BT,BT]<|J ⟨I,Zb7,I,Zda,Zda,Zda,rfl,I,⟨tO,I⟩,⟨tO,I⟩,⟨tO,I⟩,tO,I⟩ (W.cn<|J (fun h1=>?_) fun h1=>?_))))))) (noF SI)
     replace h1:=dt h1
     simp only[LM]at h1
     refine g 30 34 [.call (V.s (dz m key)) [[],[]]]<|J ⟨I,I,Zc2,I,I⟩<|rg []<|J ⟨I,I,I,I,I,I,⟨UC,I⟩,Zde,I,I⟩<|rg [.i ((n:Int) +1)]<|J Zdj ?_
     rotate_left
     replace h1:=df h1
     simp only[LM]at h1
     omega
     refine⟨n+1,[some 41],[],⟨rfl,Zar,⟨⟨rfl,⟨(congrArg (V.own _) (Dj hm1 hv hk h3)),I⟩⟩,I⟩,I⟩,?_,?_⟩
     rotate_left
     (dsimp only;omega)
     dsimp only
     omega
    ·conv=>whnf
     refine g 0 0 []<|J UA<|W.sq<|W.cn<|J (fun _=>(W.skip (W.sq (W.blk (g 16 19 [.x (aF m)]<|J ⟨Zdg,I,I,UH,I⟩ (g 19 30 [.call VT [[]],BT,BT,BT,BT,BT,BT,BT,BT]<|J ⟨I,Zb7,I,Zda,Zda,Zda,rfl,I,⟨tO,I⟩,⟨tO,I⟩,⟨tO,I⟩,tO,I⟩ (W.cn<|J (fun h1=>?_) fun h1=>?_))))))) (noF SI)
     replace h1:=dt h1
     simp only[LM]at h1
     omega
     replace h1:=df h1
     simp only[LM]at h1
     refine W.skip<|rg [.i ((n:Int) +1)]<|J Zdj ?_
     refine⟨n+1,[some 12],[],⟨rfl,Zar,⟨⟨rfl,⟨(congrArg (V.own _) (rE hm1 (fun q=>h3 q.2.2))),I⟩⟩,I⟩,I⟩,?_,?_⟩
     rotate_left
     (dsimp only;omega)
     dsimp only
     omega
   ·conv=>whnf
    refine g 0 0 []<|J UA<|W.sq<|W.cn<|J (fun _=>(W.skip (W.sq (W.blk (g 16 19 [.x (aF m)]<|J ⟨Zdg,I,I,UH,I⟩ (g 19 30 [.call VT [[]],BT,BT,BT,BT,BF,BF,BF,BF]<|J ⟨I,Zb7,I,Zda,Zda,Zda,rfl,I,dO,dO,dO,dO,I⟩ (W.cn<|J (noT rfl) fun _=>(W.skip (rg [.i ((n:Int) +1)]<|J Zdj ?_))))))))) (noF SI)
    refine⟨n+1,[some 12],[],⟨rfl,Zar,⟨⟨rfl,⟨(congrArg (V.own _) (rE hm1 (fun q=>hk q.2.1))),I⟩⟩,I⟩,I⟩,?_,?_⟩
    rotate_left
    (dsimp only;omega)
    dsimp only
    omega
  ·rw[decide_eq_false hv]at cv
   conv=>whnf
   refine g 0 0 []<|J UA<|W.sq<|W.cn<|J (fun _=>(W.skip (W.sq (W.blk (g 16 19 [.x (aF m)]<|J ⟨Zdg,I,I,UH,I⟩ (g 19 30 [.call VF [[]],BF,BF,BF,BF,BF,BF,BF,BF]<|J ⟨I,Zb7,I,rfl,rfl,rfl,rfl,I,rfl,rfl,rfl,rfl,I⟩ (W.cn<|J (noT rfl) fun _=>(W.skip (rg [.i ((n:Int) +1)]<|J Zdj ?_))))))))) (noF SI)
   refine⟨n+1,[some 12],[],⟨rfl,Zar,⟨⟨rfl,⟨(congrArg (V.own _) (rE hm1 (fun q=>hv q.1))),I⟩⟩,I⟩,I⟩,?_,?_⟩
   rotate_left
   (dsimp only;omega)
   dsimp only
   omega
 ·conv=>whnf
  refine g 0 0 []<|J UA<|W.sq<|W.cn<|J (noT SI) fun _=>W.exit<|g 7 44 []<|J UB<|RT ?_
  rw[pt,show n = ms.length by omega]
end Go.K
end
section
open Go Go.Tm Go.Proofs
namespace Go.K
abbrev bI(p:Parcel):List T:=bL p
end Go.K
end
section
open Go Go.Tm Go.Proofs
namespace Go.K
abbrev vP:List Bool:=pkd
end Go.K
end
section
open Go Go.Tm Go.Proofs
namespace Go.K
structure World where
 plan:Plan
 key:ByteArray
 boss:Boss
 workers:List Worker
 flight:List Parcel
 forged:ByteArray
 deriving DecidableEq
abbrev xg(x:World):V:=.agg [.t (.slc dX (x.plan.tasks.map aB)),.t (.s x.key),.t (.i x.boss.workers),.t (.b x.boss.up),.t (.i x.boss.now),.t (.i x.boss.since),.t (.i x.boss.epoch),.t (.i x.boss.given),.t (.slc [false] (x.boss.log.safe.map ak)),.t (.slc [false] (x.boss.log.loose.map ak)),.t (.slc [false] (x.boss.results.map ak)),.t (.slc fD (x.boss.jobs.map aW)),.t (.slc cT (x.boss.seats.map aS)),.t (.slc cU (x.boss.owed.map bi)),.t (.slc eB (x.workers.map av)),.t (.slc vP (x.flight.map bI)),.t (.s x.forged)]
abbrev aD(x:World):V:=.agg [.own dX (x.plan.tasks.map aB),.t (.s x.key),.t (.i x.boss.workers),.t (.b x.boss.up),.t (.i x.boss.now),.t (.i x.boss.since),.t (.i x.boss.epoch),.t (.i x.boss.given),.own [false] (x.boss.log.safe.map ak),.own [false] (x.boss.log.loose.map ak),.own [false] (x.boss.results.map ak),.own fD (x.boss.jobs.map aW),.own cT (x.boss.seats.map aS),.own cU (x.boss.owed.map bi),.own eB (x.workers.map av),.own vP (x.flight.map bI),.t (.s x.forged)]
abbrev noWorld:World:=⟨⟨[]⟩,emp,⟨0,false,0,0,0,0,⟨[],[]⟩,[],[],[],[]⟩,[],[],emp⟩
end Go.K
end
section
open Go Go.Tm Go.Proofs
namespace Go.K
theorem nk{p:Plan}(h:ai p.tasks = 0):cS p:=by
 have h1:=(bM h).1
 refine⟨by omega,fun t ht=>?_⟩
 obtain⟨n,hn⟩:=List.getElem?_of_mem ht
 have h2:=(bv h hn).2.2.1
 have h3:=(bv h hn).1
 exact⟨by omega,by omega⟩
theorem j8(p:Plan)(h:cS p):F rP [.val (cB p)] (dC p) [[]]:=by
 obtain⟨hp1,hp2⟩:=h
 refine sb ?_
 conv=>whnf
 refine g 0 0 []<|J Zdr<|g 0 0 []<|J UA<|W.sq<|g 1 2 []<|J UD<|W.blk<|W.lp (fun s (n:Nat)=>⟨[(0,s.s 0),(2,s.s 2),(3,s.s 3),(7,s.s 7),(8,s.s 8),(9,.i n)],[(2,[s.c 2 0]),(3,[.own dX ((p.tasks.take n).map aB)])],[]⟩) (fun(n:Nat)=>n≤p.tasks.length) (fun(n:Nat)=>p.tasks.length - n) (0) [some 2,some 3] [] ⟨rfl,⟨Zag,rfl,rfl,rfl,rfl,rfl,I⟩,⟨Zad,Zdm⟩,I⟩ OM ?_
 intro n hn
 conv=>whnf
 refine g 0 0 []<|J UA<|W.sq<|W.cn<|J (fun h1=>?_) fun h1=>?_
 replace h1:=dt h1
 simp only[LM]at h1
 refine W.skip<|W.sq<|W.blk ?_
 obtain⟨y1,hy1⟩:=aj (xs:=Plan.tasks p) (n:=n) OM
 have hm1:=hp2 y1 (List.mem_of_getElem? hy1)
 refine g 10 13 [.x (aB y1)]<|J Zck<|g 13 18 []<|J Zb9<|rg []<|J Zb5<|rg [.i ((n:Int) +1)]<|J Zdj ?_
 rotate_left
 replace h1:=df h1
 simp only[LM]at h1
 refine W.exit<|g 3 26 []<|J UV<|RT ?_
 rotate_left
 ·refine⟨n+1,[some 2,some 3],[],⟨rfl,⟨Zag,rfl,rfl,rfl,rfl,rfl,I⟩,⟨Zad,⟨⟨rfl,⟨(congrArg (V.own _) (nj AS)),I⟩⟩,I⟩⟩,I⟩,?_,?_⟩
  rotate_left
  (dsimp only;omega)
  dsimp only
  omega
 ·rw[bC OM]
def yN(i:Nat):Worker:=⟨(i:Int) +1,1,true,0,0,0,0,0,[],emp,3⟩
def crew(n:Nat):List Worker:=(List.range n).map yN
theorem zK(n:Nat):crew n++ [yN n] = crew (n+1):=by simp[crew,List.range_succ]
theorem wk(n:Nat):(crew n).map av++ [av (yN n)] = (crew (n+1)).map av:=by rw[←zK,List.map_append];rfl
theorem kS(n:Nat):(crew n).length = n:=by simp[crew]
structure NewOk (p:Plan) (key:ByteArray) (w:Int):Prop where
 plan:ai p.tasks = 0
 w:1≤w∧w≤8
 key:key.size≤30
noncomputable instance (p:Plan) (key:ByteArray) (w:Int):Decidable (NewOk p key w):=Classical.propDecidable _
noncomputable def jP(p:Plan)(key:ByteArray)(w:Int):World:=if NewOk p key w then⟨p,key,bd (cE w 0 []) p,crew w.toNat,[],emp⟩else noWorld
theorem uC{p:Plan}{key:ByteArray}{w:Int}(h:NewOk p key w):jP p key w = ⟨p,key,bd (cE w 0 []) p,crew w.toNat,[],emp⟩:=if_pos h
theorem uD{p:Plan}{key:ByteArray}{w:Int}(h:¬NewOk p key w):jP p key w = noWorld:=if_neg h
theorem pm{p:Plan}(h:ai p.tasks = 0):(ar p []).code = 0:=by
 rw[ar,if_pos ⟨h,by decide⟩,iQ]
theorem ux(p:Plan)(key:ByteArray)(w:Int)(hp:cL p)(hk:key.size≤9223372036854775807):F ub [.val (cB p),.val (.s key),.val (.i w)] (aD (jP p key w)) [[],[],[]]:=by
 have cp:=eu p hp
 by_cases h:NewOk p key w
 ·rw[uC h]
  obtain⟨h1,h2,h3⟩:=h
  rw[h1]at cp
  have hs:=nk h1
  have cr:=tP w 0 [] p hp h2 (fun s hs=>by cases hs) (pm h1)
  refine eL ?_
  conv=>whnf
  refine g 0 0 []<|J Zdr<|W.sq<|g 11 21 [.call (V.i 0) [[]],BF,BF,.call (V.b (decide (1≤w∧w≤8))) [[],[],[]],BF,BF,BF,BF,BF,BF]<|J ⟨I,Zai,I,I,Zda,⟨rfl,UC,I,UU,UA,ac _ _ _⟩,Zda,rfl,I,⟨nO,I⟩,⟨nO,I⟩,⟨nO,I⟩,nO,I⟩<|W.cn<|J (noT dO) fun _=>W.skip<|g 21 29 [.call (dC p) [[]]]<|J ⟨I,⟨UA,I,US,UA,j8 _ OM⟩,I,I,I,I,I,UQ,I⟩<|g 29 33 [.call (V.tup []) ([cellsOf (aG (bd (cE w 0 []) p)),[]])]<|J ⟨I,I,I,Zbq,I⟩<|W.sq<|g 3 4 []<|J UA<|W.blk<|W.lp (fun s (n:Nat)=>⟨[(0,s.s 0),(1,s.s 1),(2,s.s 2),(6,s.s 6),(7,s.s 7),(8,.i (n+1)),(10,s.s 10)],[(6,[s.c 6 0,s.c 6 1,s.c 6 2,s.c 6 3,s.c 6 4,s.c 6 5,s.c 6 6,s.c 6 7,s.c 6 8,s.c 6 9,s.c 6 10,s.c 6 11,s.c 6 12,s.c 6 13,s.c 6 14,s.c 6 15,s.c 6 16]),(7,[.own dX (p.tasks.map aB),.t (.s key),.t (.i (bd (cE w 0 []) p).workers),.t (.b (bd (cE w 0 []) p).up),.t (.i (bd (cE w 0 []) p).now),.t (.i (bd (cE w 0 []) p).since),.t (.i (bd (cE w 0 []) p).epoch),.t (.i (bd (cE w 0 []) p).given),.own [false] ((bd (cE w 0 []) p).log.safe.map ak),.own [false] ((bd (cE w 0 []) p).log.loose.map ak),.own [false] ((bd (cE w 0 []) p).results.map ak),.own fD ((bd (cE w 0 []) p).jobs.map aW),.own cT ((bd (cE w 0 []) p).seats.map aS),.own cU ((bd (cE w 0 []) p).owed.map bi),.own eB ((crew n).map av),.own pkd [],.t (.s emp)])],[]⟩) (fun(n:Nat)=>n≤w.toNat) (fun(n:Nat)=>w.toNat - n) (0) [some 6,some 7] [] ⟨rfl,Zdz,⟨Zdb,⟨Zdb,I⟩⟩,I⟩ OM ?_
  intro n hn
  have e:=wk n
  have hcl:=kS n
  conv=>whnf
  refine W.sq<|g 33 35 []<|J UC<|W.cn<|J (fun h4=>?_) fun h4=>?_
  replace h4:=dt h4
  refine W.skip<|W.sq<|W.blk<|rg []<|J ⟨I,I,I,I,⟨UK,I⟩,Zde,I,UA,I⟩<|rg [.i ((n:Int) +1+1)]<|J Zdc ?_
  rotate_left
  replace h4:=df h4
  refine W.exit<|g 7 46 []<|J Zdk<|RT ?_
  rotate_left
  ·refine⟨n+1,[some 6,some 7],[],⟨rfl,Zdz,⟨Zdb,⟨⟨rfl,⟨rfl,⟨rfl,⟨rfl,⟨rfl,⟨rfl,⟨rfl,⟨rfl,⟨rfl,⟨rfl,⟨rfl,⟨rfl,⟨rfl,⟨rfl,⟨rfl,⟨(congrArg (V.own _) (e)),Zad⟩⟩⟩⟩⟩⟩⟩⟩⟩⟩⟩⟩⟩⟩⟩⟩,I⟩⟩,I⟩,?_,?_⟩
   rotate_left
   (dsimp only;omega)
   dsimp only
   omega
  ·obtain rfl:n = w.toNat:=by omega
   rfl
 ·rw[uD h]
  by_cases h1:ai p.tasks = 0
  ·by_cases h2:1≤w∧w≤8
   ·have h3:¬key.size≤30:=fun q=>h ⟨h1,h2,q⟩
    refine eL ?_
    conv=>whnf
    refine g 0 0 []<|J Zdr<|W.sq<|g 11 21 [.call (V.i (ai p.tasks)) [[]],BF,BF,.call (V.b (decide (1≤w∧w≤8))) [[],[],[]],BF,BF,BF,BF,BF,BF]<|J ⟨I,Zai,I,I,⟨nO,I⟩,⟨nO,UC,I,UU,UA,ac _ _ _⟩,⟨nO,I⟩,nO,I,⟨nO,I⟩,⟨nO,I⟩,⟨nO,I⟩,nO,I⟩<|W.cn<|J (fun _=>(g 21 23 []<|J Zdk (RT ?_))) (noF tO)
    rfl
   ·refine eL ?_
    conv=>whnf
    refine g 0 0 []<|J Zdr<|W.sq<|g 11 21 [.call (V.i (ai p.tasks)) [[]],BF,BF,.call (V.b (decide (1≤w∧w≤8))) [[],[],[]],BF,BF,BT,BT,BT,BT]<|J ⟨I,Zai,I,I,⟨nO,I⟩,⟨nO,UC,I,UU,UA,ac _ _ _⟩,⟨nO,I⟩,nO,I,af OM,af OM,af OM,af OM,I⟩<|W.cn<|J (fun _=>(g 21 23 []<|J Zdk (RT ?_))) (noF rfl)
    rfl
  ·refine eL ?_
   conv=>whnf
   refine g 0 0 []<|J Zdr<|W.sq<|g 11 21 [.call (V.i (ai p.tasks)) [[]],BT,BT,BT,BT,BT,BT,BT,BT]<|J ⟨I,Zai,I,I,af OM,af OM,af OM,af OM,I,rfl,rfl,rfl,rfl,I⟩<|W.cn<|J (fun _=>(g 21 23 []<|J Zdk (RT ?_))) (noF rfl)
   rfl
end Go.K
end

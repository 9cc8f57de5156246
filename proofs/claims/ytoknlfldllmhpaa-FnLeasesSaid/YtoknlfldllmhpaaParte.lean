/- Contracts of functions of the program: what each call answers. -/
import Derived.Test.YtoknlfldllmhpaaPartd
set_option maxHeartbeats 8000000
set_option maxRecDepth 20000
set_option linter.unusedVariables false
set_option linter.unusedSimpArgs false
section
open Go Go.Tm Go.Proofs
namespace Go.K
theorem nI(m:Message)(hl:m.inputs.length≤9223372036854775806):F C3 [.val (dH m)] (.b (decide (bx m))) [[]]:=by
 refine Dk ?_
 conv=>whnf
 refine g 0 1 []<|J ⟨UH,I,I⟩<|W.sq ?_
 by_cases h1:(1:Int)≤Message.kind m∧Message.kind m≤(5:Int)
 refine g 13 15 [.call (V.b (decide (1≤m.kind∧m.kind≤5))) [[],[],[]],BF,BF,BF,.call (V.b (decide (1≤m.epoch∧m.epoch≤300))) [[],[],[]],BF,BF]<|J ⟨I,I,⟨UC,I,UU,UA,ag _ _ _⟩,I,I,⟨nO,I⟩,⟨nO,I⟩,⟨nO,UC,I,UU,UA,ag _ _ _⟩,⟨nO,I⟩,nO,I⟩<|W.cn<|J (fun h2=>?_) fun h2=>?_
 replace h2:=ndt h2
 refine g 8 9 []<|J UA<|RT ?_
 rotate_left
 replace h2:=ndf h2
 refine W.skip<|g 20 25 [.call (V.tup [V.b (decide (1≤m.kind∧m.kind≤4)),V.b (decide (m.kind = 1∨m.kind = 3)),V.b (decide (m.kind = 3)),V.b (decide (m.kind = 1)),V.b (decide (m.kind = 1∨m.kind = 4))]) [[]]]<|J ⟨I,I,⟨UA,I,US,UA,zy _⟩,I,I,I,I,I,I,I,I,I,I,I,I⟩<|W.sq ?_
 by_cases h3:Message.kind m = (1:Int)∨Message.kind m = (4:Int)
 by_cases h4:Message.frm m = (0:Int)
 by_cases h5:(1:Int)≤Message.to m∧Message.to m≤(8:Int)
 refine g 29 53 [BT,BT,BT,BT,BF,BF,BF,.call (V.b (decide (1≤m.to∧m.to≤8))) [[],[],[]],BF,BT,BF,BT,BF,BF,BF,BF,BF,BF,BF,BF,BF,BF,BF,BF,BF,BF,BF]<|J ⟨I,I,⟨tO,I⟩,⟨tO,I⟩,⟨tO,I⟩,⟨tO,I⟩,⟨nO,I⟩,⟨nO,I⟩,⟨nO,UC,I,UU,UA,ag _ _ _⟩,⟨nO,I⟩,⟨tO,nO⟩,tO,I,⟨nO,I⟩,⟨nO,I⟩,⟨nO,I⟩,nO,nO,nO,nO,I,I,I,I,nO,⟨nO,nO⟩,nO,I⟩<|W.cn<|J (noT rfl) fun _=>W.skip<|W.sq ?_
 by_cases h6:(1:Int)≤Message.lease m∧Message.lease m≤(300000000:Int)
 by_cases h7:Message.kind m = (1:Int)∨Message.kind m = (3:Int)
 by_cases h8:(0:Int)≤Message.task m∧Message.task m≤(39:Int)
 refine g 11 87 [BT,BT,BT,.call (V.b (decide (1≤m.lease∧m.lease≤300000000))) [[]],BT,BT,BF,BF,BF,BF,BF,BF,BF,BF,BF,BF,BF,BT,BT,BT,.call (V.b (decide (0≤m.task∧m.task≤39))) [[],[],[]],BT,BF,BT,BF,BF,BF,BF,BF,BF,BF,BF,BF,BF] ?_
 conv=>whnf
 refine J ⟨I,I,⟨tO,I⟩,⟨tO,I⟩,⟨tO,UA,I,US,UA,ax _⟩,⟨tO,I⟩,tO,I,⟨nO,I⟩,⟨nO,I⟩,⟨nO,I⟩,nO,nO,nO,⟨nO,nO⟩,nO,I,Zde,Zde,⟨tO,I⟩,⟨tO,I⟩,⟨tO,UC,I,UU,UA,ag _ _ _⟩,⟨tO,I⟩,⟨rfl,tO⟩,rfl,I,⟨nO,I⟩,⟨nO,I⟩,⟨nO,I⟩,nO,nO,nO,⟨nO,nO⟩,nO,I⟩<|W.cn<|J (noT rfl) fun _=>W.skip<|W.sq<|g 10 103 [BF,BF,BF,BF,BF,BF,BF,BF,BT,BT,BT,BF,BT,BF]<|J Zeo<|W.cn<|J (fun h9=>?_) fun h9=>?_
 replace h9:=ndt h9
 refine g 7 9 []<|J UA<|RT ?_
 rotate_left
 replace h9:=ndf h9
 refine W.skip ?_
 by_cases h10:dR (Message.inputs m)
 refine g 5 120 [BT,BT,BT,.call (V.b (decide (dR m.inputs))) [[]],BT,BT,BT,BT,BF,BF,BF,BF,BT,BT]<|J ⟨I,I,⟨tO,I⟩,⟨tO,I⟩,⟨tO,UA,I,US,UA,eh _ OM⟩,tO,I,tO,tO,tO,I,I,I,I,tO,tO,I,I⟩<|RT ?_
 rotate_left
 refine g 5 120 [BT,BT,BT,.call (V.b (decide (dR m.inputs))) [[]],BT,BF,BF,BF,BF,BF,BF,BF,BF,BF,BF]<|J ⟨I,I,⟨tO,I⟩,⟨tO,I⟩,⟨tO,UA,I,US,UA,eh _ OM⟩,tO,I,⟨dO,I⟩,⟨dO,I⟩,⟨dO,I⟩,nO,nO,nO,nO,⟨dO,nO⟩,dO,I,I⟩<|RT ?_
 rotate_left
 refine g 11 87 [BT,BT,BT,.call (V.b (decide (1≤m.lease∧m.lease≤300000000))) [[]],BT,BT,BF,BF,BF,BF,BF,BF,BF,BF,BF,BF,BF,BT,BT,BT,.call (V.b (decide (0≤m.task∧m.task≤39))) [[],[],[]],BT,BF,BT,BF,BT,BT,BT,BF,BF,BF,BT,BT] ?_
 conv=>whnf
 refine J ⟨I,I,⟨tO,I⟩,⟨tO,I⟩,⟨tO,UA,I,US,UA,ax _⟩,⟨tO,I⟩,tO,I,⟨nO,I⟩,⟨nO,I⟩,⟨nO,I⟩,nO,nO,nO,⟨nO,nO⟩,nO,I,Zde,Zde,⟨tO,I⟩,⟨tO,I⟩,⟨tO,UC,I,UU,UA,ag _ _ _⟩,⟨tO,I⟩,⟨rfl,tO⟩,rfl,I,af OM,af OM,af OM,I,I,I,af OM,af OM,I⟩<|W.cn<|J (fun _=>(g 3 4 []<|J UA (RT ?_))) (noF rfl)
 rotate_left
 refine g 11 87 [BT,BT,BT,.call (V.b (decide (1≤m.lease∧m.lease≤300000000))) [[]],BT,BT,BF,BF,BF,BF,BF,BF,BF,BF,BF,BF,BF,BF,BF,BF,BF,BF,BF,BF,BF,BF,BF,BT,BT,BT,BF,BT,BF] ?_
 conv=>whnf
 refine J ⟨I,I,⟨tO,I⟩,⟨tO,I⟩,⟨tO,UA,I,US,UA,ax _⟩,⟨tO,I⟩,tO,I,⟨nO,I⟩,⟨nO,I⟩,⟨nO,I⟩,nO,nO,nO,⟨nO,nO⟩,nO,I,Zde,Zde,dO,dO,dO,dO,⟨rfl,dO⟩,rfl,I,Zde,Zde,Zde,Zaj,Zaj,Zaj,Zcx,rfl,I⟩<|W.cn<|J (fun h8=>?_) fun h8=>?_
 replace h8:=ndt h8
 refine g 3 4 []<|J UA<|RT ?_
 rotate_left
 replace h8:=ndf h8
 refine W.skip<|W.sq<|g 10 103 [BF,BF,BF,BF,BF,BF,BF,BF,BT,BT,BT,BF,BT,BF]<|J Zeo<|W.cn<|J (fun h9=>?_) fun h9=>?_
 replace h9:=ndt h9
 refine g 7 9 []<|J UA<|RT ?_
 rotate_left
 replace h9:=ndf h9
 refine W.skip<|g 5 120 [BF,BF,BF,BF,BF,BF,BF,BT,BT,BT,BT,BF,BT,BF]<|J Zen<|RT ?_
 rotate_left
 refine g 11 87 [BT,BT,BT,.call (V.b (decide (1≤m.lease∧m.lease≤300000000))) [[]],BT,BT,BT,BT,BT,BF,BF,BF,BT,BT,BT,BT,BF,BF,BF,BF,BT,BT,BT,BT,BT,BF,BF,BF,BT,BT] ?_
 conv=>whnf
 refine J ⟨I,I,⟨tO,I⟩,⟨tO,I⟩,⟨tO,UA,I,US,UA,ax _⟩,⟨tO,I⟩,tO,I,af OM,af OM,af OM,I,I,I,af OM,af OM,I,rfl,rfl,I,I,I,I,rfl,rfl,I,rfl,rfl,rfl,I,I,I,rfl,rfl,I⟩<|W.cn<|J (fun _=>(g 3 4 []<|J UA (RT ?_))) (noF rfl)
 rotate_left
 refine g 29 53 [BT,BT,BT,BT,BF,BF,BF,.call (V.b (decide (1≤m.to∧m.to≤8))) [[],[],[]],BF,BT,BF,BT,BT,BT,BT,BF,BF,BF,BF,BF,BF,BF,BF,BF,BT,BT]<|J ⟨I,I,⟨tO,I⟩,⟨tO,I⟩,⟨tO,I⟩,⟨tO,I⟩,⟨nO,I⟩,⟨nO,I⟩,⟨nO,UC,I,UU,UA,ag _ _ _⟩,⟨nO,I⟩,⟨tO,nO⟩,tO,I,af OM,af OM,af OM,I,I,I,I,I,I,I,I,I,af OM,af OM,I⟩<|W.cn<|J (fun _=>(g 11 16 []<|J UA (RT ?_))) (noF rfl)
 rotate_left
 refine g 29 53 [BT,BT,BT,BT,BT,BT,BT,BT,BT,BT,BT,BT,BT,BT,BF,BF,BF,BF,BF,BF,BF,BF,BF,BT,BT]<|J ⟨I,I,⟨tO,I⟩,⟨tO,I⟩,⟨tO,I⟩,⟨tO,I⟩,af OM,af OM,af OM,af OM,⟨tO,af OM⟩,tO,I,rfl,rfl,rfl,I,I,I,I,I,I,I,I,I,rfl,rfl,I⟩<|W.cn<|J (fun _=>(g 11 16 []<|J UA (RT ?_))) (noF rfl)
 rotate_left
 by_cases h4:Message.to m = (0:Int)
 refine g 29 53 [BF,BF,BF,BF,BF,BF,BF,BF,BF,BF,BF,BF,BF,BT,BT,BT,BT,BF,BF,BF,.call (V.b (decide (1≤m.frm∧m.frm≤8))) [[],[],[]],BF,BT,BF,BF,BT,BF]<|J ⟨I,I,dO,dO,dO,dO,I,I,I,I,dO,dO,I,Zde,Zde,Zde,Zaj,Zaj,Zaj,Zaj,⟨nO,I⟩,⟨nO,I⟩,⟨nO,UC,I,UU,UA,ag _ _ _⟩,⟨nO,I⟩,⟨af OM,nO⟩,Zcx,rfl,I⟩<|W.cn<|J (fun h5=>?_) fun h5=>?_
 replace h5:=ndt h5
 refine g 11 16 []<|J UA<|RT ?_
 rotate_left
 replace h5:=ndf h5
 refine W.skip<|W.sq ?_
 by_cases h6:(1:Int)≤Message.kind m∧Message.kind m≤(4:Int)
 by_cases h7:(1:Int)≤Message.lease m∧Message.lease m≤(300000000:Int)
 by_cases h8:Message.kind m = (1:Int)∨Message.kind m = (3:Int)
 by_cases h9:(0:Int)≤Message.task m∧Message.task m≤(39:Int)
 refine g 11 87 [BT,BT,BT,.call (V.b (decide (1≤m.lease∧m.lease≤300000000))) [[]],BT,BT,BF,BF,BF,BF,BF,BF,BF,BF,BF,BF,BF,BT,BT,BT,.call (V.b (decide (0≤m.task∧m.task≤39))) [[],[],[]],BT,BF,BT,BF,BF,BF,BF,BF,BF,BF,BF,BF,BF] ?_
 conv=>whnf
 refine J ⟨I,I,⟨tO,I⟩,⟨tO,I⟩,⟨tO,UA,I,US,UA,ax _⟩,⟨tO,I⟩,tO,I,⟨nO,I⟩,⟨nO,I⟩,⟨nO,I⟩,nO,nO,nO,⟨nO,nO⟩,nO,I,Zde,Zde,⟨tO,I⟩,⟨tO,I⟩,⟨tO,UC,I,UU,UA,ag _ _ _⟩,⟨tO,I⟩,⟨rfl,tO⟩,rfl,I,⟨nO,I⟩,⟨nO,I⟩,⟨nO,I⟩,nO,nO,nO,⟨nO,nO⟩,nO,I⟩<|W.cn<|J (noT rfl) fun _=>W.skip<|W.sq ?_
 by_cases h10:(↑(ByteArray.size (Message.text m)):Int) = (8:Int)
 refine g 10 103 [BT,BT,BT,BT,BT,BF,BF,BF,BF,BF,BF,BF,BF,BF]<|J ⟨I,I,⟨tO,I⟩,⟨tO,I⟩,⟨tO,I⟩,⟨tO,I⟩,tO,I,⟨nO,I⟩,⟨nO,I⟩,⟨nO,I⟩,nO,nO,nO,⟨nO,nO⟩,nO,I⟩<|W.cn<|J (noT rfl) fun _=>W.skip<|g 5 120 [BF,BF,BF,BF,BF,BF,BF,BT,BT,BT,BT,BF,BT,BF]<|J Zen<|RT ?_
 rotate_left
 refine g 10 103 [BT,BT,BT,BT,BT,BT,BT,BT,BF,BF,BF,BT,BT]<|J ⟨I,I,⟨tO,I⟩,⟨tO,I⟩,⟨tO,I⟩,⟨tO,I⟩,tO,I,af OM,af OM,af OM,I,I,I,af OM,af OM,I⟩<|W.cn<|J (fun _=>(g 7 9 []<|J UA (RT ?_))) (noF rfl)
 rotate_left
 refine g 11 87 [BT,BT,BT,.call (V.b (decide (1≤m.lease∧m.lease≤300000000))) [[]],BT,BT,BF,BF,BF,BF,BF,BF,BF,BF,BF,BF,BF,BT,BT,BT,.call (V.b (decide (0≤m.task∧m.task≤39))) [[],[],[]],BT,BF,BT,BF,BT,BT,BT,BF,BF,BF,BT,BT] ?_
 conv=>whnf
 refine J ⟨I,I,⟨tO,I⟩,⟨tO,I⟩,⟨tO,UA,I,US,UA,ax _⟩,⟨tO,I⟩,tO,I,⟨nO,I⟩,⟨nO,I⟩,⟨nO,I⟩,nO,nO,nO,⟨nO,nO⟩,nO,I,Zde,Zde,⟨tO,I⟩,⟨tO,I⟩,⟨tO,UC,I,UU,UA,ag _ _ _⟩,⟨tO,I⟩,⟨rfl,tO⟩,rfl,I,af OM,af OM,af OM,I,I,I,af OM,af OM,I⟩<|W.cn<|J (fun _=>(g 3 4 []<|J UA (RT ?_))) (noF rfl)
 rotate_left
 refine g 11 87 [BT,BT,BT,.call (V.b (decide (1≤m.lease∧m.lease≤300000000))) [[]],BT,BT,BF,BF,BF,BF,BF,BF,BF,BF,BF,BF,BF,BF,BF,BF,BF,BF,BF,BF,BF,BF,BF,BT,BT,BT,BF,BT,BF] ?_
 conv=>whnf
 refine J ⟨I,I,⟨tO,I⟩,⟨tO,I⟩,⟨tO,UA,I,US,UA,ax _⟩,⟨tO,I⟩,tO,I,⟨nO,I⟩,⟨nO,I⟩,⟨nO,I⟩,nO,nO,nO,⟨nO,nO⟩,nO,I,Zde,Zde,dO,dO,dO,dO,⟨rfl,dO⟩,rfl,I,Zde,Zde,Zde,Zaj,Zaj,Zaj,Zcx,rfl,I⟩<|W.cn<|J (fun h9=>?_) fun h9=>?_
 replace h9:=ndt h9
 refine g 3 4 []<|J UA<|RT ?_
 rotate_left
 replace h9:=ndf h9
 refine W.skip<|W.sq<|g 10 103 [BF,BF,BF,BF,BF,BF,BF,BF,BT,BT,BT,BF,BT,BF]<|J Zeo<|W.cn<|J (fun h10=>?_) fun h10=>?_
 replace h10:=ndt h10
 refine g 7 9 []<|J UA<|RT ?_
 rotate_left
 replace h10:=ndf h10
 refine W.skip<|g 5 120 [BF,BF,BF,BF,BF,BF,BF,BT,BT,BT,BT,BF,BT,BF]<|J Zen<|RT ?_
 rotate_left
 refine g 11 87 [BT,BT,BT,.call (V.b (decide (1≤m.lease∧m.lease≤300000000))) [[]],BT,BT,BT,BT,BT,BF,BF,BF,BT,BT,BT,BT,BF,BF,BF,BF,BT,BT,BT,BT,BT,BF,BF,BF,BT,BT] ?_
 conv=>whnf
 refine J ⟨I,I,⟨tO,I⟩,⟨tO,I⟩,⟨tO,UA,I,US,UA,ax _⟩,⟨tO,I⟩,tO,I,af OM,af OM,af OM,I,I,I,af OM,af OM,I,rfl,rfl,I,I,I,I,rfl,rfl,I,rfl,rfl,rfl,I,I,I,rfl,rfl,I⟩<|W.cn<|J (fun _=>(g 3 4 []<|J UA (RT ?_))) (noF rfl)
 rotate_left
 by_cases h7:Message.lease m = (0:Int)
 refine g 11 87 [BF,BF,BF,BF,BF,BF,BF,BF,BT,BT,BT,BF,BT,BF,BF,BF,BF,BF,BF,BF,BF,BF,BF,BF,BF,BF,BT,BT,BT,BF,BT,BF] ?_
 conv=>whnf
 refine J ⟨I,I,dO,dO,dO,dO,dO,I,Zde,Zde,Zde,Zaj,Zaj,Zaj,Zcx,rfl,I,⟨nO,I⟩,⟨nO,I⟩,dO,dO,dO,dO,⟨nO,dO⟩,nO,I,Zde,Zde,Zde,Zaj,Zaj,Zaj,Zcx,rfl,I⟩<|W.cn<|J (fun h8=>?_) fun h8=>?_
 replace h8:=ndt h8
 refine g 3 4 []<|J UA<|RT ?_
 rotate_left
 replace h8:=ndf h8
 refine W.skip<|W.sq<|g 10 103 [BF,BF,BF,BF,BF,BF,BF,BF,BT,BT,BT,BF,BT,BF]<|J Zeo<|W.cn<|J (fun h9=>?_) fun h9=>?_
 replace h9:=ndt h9
 refine g 7 9 []<|J UA<|RT ?_
 rotate_left
 replace h9:=ndf h9
 refine W.skip<|g 5 120 [BF,BF,BF,BF,BF,BF,BF,BT,BT,BT,BT,BF,BT,BF]<|J Zen<|RT ?_
 rotate_left
 refine g 11 87 [BF,BF,BF,BF,BF,BF,BF,BF,BT,BT,BT,BF,BT,BF,BT,BT,BF,BF,BF,BF,BT,BT,BT,BT,BT,BF,BF,BF,BT,BT] ?_
 conv=>whnf
 refine J ⟨I,I,dO,dO,dO,dO,dO,I,Zde,Zde,Zde,Zaj,Zaj,Zaj,Zcx,rfl,I,af OM,af OM,I,I,I,I,af OM,af OM,I,rfl,rfl,rfl,I,I,I,rfl,rfl,I⟩<|W.cn<|J (fun _=>(g 3 4 []<|J UA (RT ?_))) (noF rfl)
 rotate_left
 refine g 29 53 [BF,BF,BF,BF,BF,BF,BF,BF,BF,BF,BF,BF,BF,BT,BT,BT,BT,BT,BT,BT,BT,BT,BT,BF,BT,BF]<|J ⟨I,I,dO,dO,dO,dO,I,I,I,I,dO,dO,I,Zde,Zde,Zde,Zaj,Zaj,Zaj,Zaj,af OM,af OM,af OM,af OM,⟨af OM,af OM⟩,Zcx,rfl,I⟩<|W.cn<|J (fun _=>(g 11 16 []<|J UA (RT ?_))) (noF rfl)
 rotate_left
 refine g 13 15 [.call (V.b (decide (1≤m.kind∧m.kind≤5))) [[],[],[]],BT,BT,BT,BT,BT]<|J ⟨I,I,⟨UC,I,UU,UA,ag _ _ _⟩,I,I,af OM,af OM,af OM,af OM,af OM,I⟩<|W.cn<|J (fun _=>(g 8 9 []<|J UA (RT ?_))) (noF rfl)
 rotate_left
 all_goals (try simp only[List.length_map,decide_eq_true_eq,Bool.not_eq_true,Bool.not_eq_true',decide_eq_false_iff_not]at *)
 all_goals first
  |exact vbf (by unfold bx;grind)
  |exact vbt (by unfold bx;grind)
  |exact vbd (by unfold bx;grind)
end Go.K
end
section
open Go Go.Tm Go.Proofs
namespace Go.K
def xd(m:Message):List Int:=[m.kind,m.frm,m.to,m.epoch / 256,m.epoch % 256,m.lease / 16777216,m.lease / 65536 % 256,m.lease / 256 % 256,m.lease % 256,m.task,m.inputs.length]
def im:List ByteArray→ByteArray
 |[]=>emp
 |x :: l=>x++im l
theorem GN(s:ByteArray):emp++s = s:=by apply ByteArray.ext;simp[emp]
theorem CE(s:ByteArray):s++emp = s:=by apply ByteArray.ext;simp[emp]
theorem yk:∀ a b,im (a++b) = im a++im b
 |[],b=>by simp only[List.nil_append,im,GN]
 |x :: a,b=>by simp only[List.cons_append,im,yk a b,ByteArray.append_assoc]
theorem AP{xs:List ByteArray}{n:Nat}{x:ByteArray}(h:xs[n]? = some x):im (xs.take (n+1)) = im (xs.take n) ++x:=by
 rw[List.take_add_one,h,yk];simp only[Option.toList,im,CE]
def cT(m:Message):ByteArray:=bl (xd m) ++m.text++im m.inputs
theorem AR{l:List Int}(h:∀ n∈l,0≤n∧n≤255):bT (bl l) = l.map b1T:=by
 unfold bT bl b1T
 simp only[List.map_map]
 apply List.map_congr_left
 intro n hn
 obtain⟨h1,h2⟩:=h n hn
 simp only[Function.comp]
 congr 4
 simp;omega
theorem cK{m:Message}(h:bx m):m.inputs.length≤8∧(∀ s∈m.inputs,s.size = 8)∧m.text.size≤8:=by
 have he:emp.size = 0:=rfl
 obtain⟨_,h|h|h|h|h⟩:=h
 ·obtain⟨_,_,_,_,_,h1,h2,h3⟩:=h
  exact⟨h3,h2,by rw[h1];omega⟩
 all_goals
  obtain⟨_,_,_,_,_,h1,h2⟩:=h
  have:m.inputs = []:=List.eq_nil_of_length_eq_zero OM
  rw[this]
  refine⟨by simp,(fun s hs=>nomatch hs),?_⟩
  first
   |(rw[h1];omega)
   |omega
theorem eT{m:Message}(h:bx m):(1≤m.kind∧m.kind≤5)∧(0≤m.frm∧m.frm≤8)∧(0≤m.to∧m.to≤8)∧(1≤m.epoch∧m.epoch≤300)∧(0≤m.lease∧m.lease≤300000000)∧(0≤m.task∧m.task≤39):=by
 obtain⟨h0,h|h|h|h|h⟩:=h
 all_goals
  obtain⟨h1,h2,h3,h4,h5,_⟩:=h
  refine⟨?_,?_,?_,h0,?_,?_⟩ <;> omega
theorem Au{m:Message}(h:bx m):∀ n∈xd m,0≤n∧n≤255:=by
 obtain⟨h1,h2,h3,h4,h5,h6⟩:=eT h
 have h7:=(cK h).1
 intro n hn
 simp only[xd,List.mem_cons,List.not_mem_nil,or_false]at hn
 rcases hn with rfl|rfl|rfl|rfl|rfl|rfl|rfl|rfl|rfl|rfl|rfl <;> omega
def gf(m:Message)(n:Nat):ByteArray:=bl (xd m) ++m.text++im (m.inputs.take n)
theorem qL(m:Message):gf m 0 = bl (xd m) ++m.text:=by unfold gf;rw[List.take_zero,im,CE]
theorem xI{m:Message}{n:Nat}{x:ByteArray}(h:m.inputs[n]? = some x):bT (gf m n) ++bT x = bT (gf m (n+1)):=by
 unfold gf;rw[AP h,←mH];simp only[ByteArray.append_assoc]
theorem um(m:Message):gf m m.inputs.length = cT m:=by unfold gf cT;rw[List.take_length]
theorem qM{m:Message}(h:bx m)(n:Nat)(hn:n≤m.inputs.length):(gf m n).size = 11+m.text.size+8 * n:=by
 obtain⟨h7,h8,h9⟩:=cK h
 induction n with
 |zero=>rw[qL,ByteArray.size_append,gB];rfl
 |succ k ih =>
  have hk:k < m.inputs.length:=by omega
  have:=congrArg List.length (xI (List.getElem?_eq_getElem hk))
  rw[List.length_append,fK,fK,fK,ih OM,h8 _ (List.getElem_mem hk)]at this
  omega
theorem GX{m:Message}(h:bx m):[m.kind,m.frm,m.to,IntKind.u8.wrap (IntKind.i64.wrap (m.epoch.tdiv 256)),IntKind.u8.wrap (m.epoch.tmod 256),IntKind.u8.wrap (IntKind.i64.wrap (m.lease.tdiv 16777216)),IntKind.u8.wrap ((IntKind.i64.wrap (m.lease.tdiv 65536)).tmod 256),IntKind.u8.wrap ((IntKind.i64.wrap (m.lease.tdiv 256)).tmod 256),IntKind.u8.wrap (m.lease.tmod 256),m.task,IntKind.u8.wrap ((m.inputs.map ak).length:Int)].map b1T++bT m.text = bT (gf m 0):=by
 obtain⟨h1,h2,h3,h4,h5,h6⟩:=eT h
 have h7:=(cK h).1
 rw[qL,mH,AR (Au h)]
 unfold xd
 rw[List.length_map,Int.tdiv_eq_ediv_of_nonneg OM,Int.tdiv_eq_ediv_of_nonneg OM,Int.tdiv_eq_ediv_of_nonneg OM,Int.tdiv_eq_ediv_of_nonneg OM,w64 (z:=m.lease / 65536) OM OM,w64 (z:=m.lease / 256) OM OM,w64 (z:=m.lease / 16777216) OM OM,w64 (z:=m.epoch / 256) OM OM,Int.tmod_eq_emod_of_nonneg OM,Int.tmod_eq_emod_of_nonneg OM,Int.tmod_eq_emod_of_nonneg OM,Int.tmod_eq_emod_of_nonneg OM,wu8 OM OM,wu8 OM OM,wu8 OM OM,wu8 OM OM,wu8 OM OM,wu8 OM OM,wu8 OM OM]
theorem zz(m:Message)(h:bx m):F yK [.val (dH m)] (.s (cT m)) [[]]:=by
 obtain⟨h1,h2,h3,h4,h5,h6⟩:=eT h
 obtain⟨h7,h8,h9⟩:=cK h
 refine zh ?_
 conv=>whnf
 refine g 0 0 []<|J ⟨UH,I,I⟩<|g 0 0 []<|J UC<|g 10 47 [.i m.kind,.i m.frm,.i m.to,.i (IntKind.wrap IntKind.i64 (Int.tdiv m.epoch 256)),.i (IntKind.wrap IntKind.u8 (IntKind.wrap IntKind.i64 (Int.tdiv m.epoch 256))),.i (Int.tmod m.epoch 256),.i (IntKind.wrap IntKind.u8 (Int.tmod m.epoch 256)),.i (IntKind.wrap IntKind.i64 (Int.tdiv m.lease 16777216)),.i (IntKind.wrap IntKind.u8 (IntKind.wrap IntKind.i64 (Int.tdiv m.lease 16777216))),.i (IntKind.wrap IntKind.i64 (Int.tdiv m.lease 65536)),.i (Int.tmod (IntKind.wrap IntKind.i64 (Int.tdiv m.lease 65536)) 256),.i (IntKind.wrap IntKind.u8 (Int.tmod (IntKind.wrap IntKind.i64 (Int.tdiv m.lease 65536)) 256)),.i (IntKind.wrap IntKind.i64 (Int.tdiv m.lease 256)),.i (Int.tmod (IntKind.wrap IntKind.i64 (Int.tdiv m.lease 256)) 256),.i (IntKind.wrap IntKind.u8 (Int.tmod (IntKind.wrap IntKind.i64 (Int.tdiv m.lease 256)) 256)),.i (Int.tmod m.lease 256),.i (IntKind.wrap IntKind.u8 (Int.tmod m.lease 256)),.i m.task,.i (IntKind.wrap IntKind.u8 (↑(List.length (List.map ak m.inputs)):Int))]<|J ⟨I,I,wu8 OM OM,I,I,wu8 OM OM,I,I,wu8 OM OM,I,I,Zdr,rfl,I,I,Zdr,rfl,I,Zdr,rfl,I,Zdr,Zdr,rfl,I,Zdr,Zdr,rfl,I,Zdr,rfl,I,I,wu8 OM OM,I,I,I,rfl,⟨UA,UA,UA,UA,UA,UA,UA,UA,UA,UA,UA,I⟩,I,I⟩<|g 47 51 []<|J ⟨I,I,I,Zdi,I,I⟩<|W.sq<|g 6 9 []<|J UA<|W.blk<|W.lp (fun s (n:Nat)=>⟨[(1,s.s 1),(2,s.s 2),(4,.ref ⟨4,none,0⟩),(5,.i n),(9,s.s 9)],[(1,[s.c 1 0,s.c 1 1,s.c 1 2,s.c 1 3,s.c 1 4,s.c 1 5,s.c 1 6,s.c 1 7]),(4,[.own [false] (bT (gf m n))])],[]⟩) (fun(n:Nat)=>n≤m.inputs.length) (fun(n:Nat)=>m.inputs.length - n) (0) [some 1,some 50] [] ⟨rfl,Za8,⟨Zab,⟨⟨rfl,⟨(congrArg (V.own _) (GX h)),I⟩⟩,I⟩⟩,I⟩ OM ?_
 intro n hn
 have hc:=qM h n hn
 have hb:=fK (gf m n)
 conv=>whnf
 refine W.sq<|g 51 55 []<|J UE<|W.cn<|J (fun h10=>?_) fun h10=>?_
 replace h10:=dt h10
 simp only[LM]at h10
 refine W.skip<|W.sq<|W.blk ?_
 obtain⟨y1,hy1⟩:=aj (xs:=Message.inputs m) (n:=n) OM
 have hm1:=h8 y1 (List.mem_of_getElem? hy1)
 refine rg [.x (ak y1)]<|J ⟨I,I,I,I,Zdj,I,Zdi,I,I⟩<|rg [.i ((n:Int) +1)]<|J Zdf ?_
 rotate_left
 replace h10:=df h10
 simp only[LM]at h10
 refine W.exit<|g 55 67 [.s (gf m n)]<|J ⟨I,⟨I,iB _,(iX _).symm⟩,I,I⟩<|RT ?_
 rotate_left
 ·refine⟨n+1,[some 1,some 64],[],⟨rfl,Za8,⟨Zab,⟨⟨rfl,⟨(congrArg (V.own _) (xI AS)),I⟩⟩,I⟩⟩,I⟩,?_,?_⟩
  rotate_left
  (dsimp only;omega)
  dsimp only
  omega
 ·exact vs (by rw[show n = m.inputs.length from by omega,um])
end Go.K
end
section
open Go Go.Tm Go.Proofs
namespace Go.K
attribute [local irreducible] ByteArray.extract
def bw(m:Message)(key:ByteArray):ByteArray:=if bx m∧key.size≤30 then eF (cT m) key++cT m else emp
theorem fL{m:Message}(h:bx m):(cT m).size = 11+m.text.size+8 * m.inputs.length:=by
 rw[←um,qM h _ (Nat.le_refl _)]
theorem fq(m:Message)(key:ByteArray)(hl:m.inputs.length≤9223372036854775806):F pJ [.val (dH m),.val (.s key)] (.s (bw m key)) [[],[]]:=by
 have c1:=nI m hl
 have c2:=zz m
 by_cases h:bx m
 ·have hb:=fL h
  obtain⟨h7,h8,h9⟩:=cK h
  rw[show decide (bx m) = true from decide_eq_true h]at c1
  have c3:=c2 h
  clear c2
  by_cases hk:key.size≤30
  ·have c4:=lQ (key++nul++cT m) (by rw[ByteArray.size_append,ByteArray.size_append];have:nul.size = 1:=rfl;omega)
   rw[gr,show bl (beL (fJ h0v (key++nul++cT m)) 8) = eF (cT m) key from rfl]at c4
   have hn:nul.size = 1:=rfl
   have h2:(eF (cT m) key).size = 8:=gX _
   refine fk ?_
   conv=>whnf
   refine g 0 1 []<|J ⟨UH,I,I⟩<|W.sq<|g 6 9 [.call VT [[]],BF,BF,BF,BF]<|J Zb5<|W.cn<|J (noT dO) fun _=>W.skip<|g 10 16 [.call (V.s (cT m)) [[]]]<|J ⟨I,Zb6,I,I⟩<|g 16 23 [.s (key++ {data:=#[(0:UInt8)]:ByteArray}),.s (key++ {data:=#[(0:UInt8)]:ByteArray} ++cT m),.call (V.s (eF (cT m) key)) [[]],.s (eF (cT m) key++cT m)]<|J ⟨I,⟨rfl,(by simp only[bsz,bsa,ByteArray.size_append,List.size_toArray,tf];omega)⟩,I,⟨rfl,(by simp only[bsz,bsa,ByteArray.size_append,List.size_toArray,tf];omega)⟩,Zai,I,⟨rfl,OM⟩,I,I⟩<|RT ?_
   exact vs (if_pos ⟨h,hk⟩).symm
  ·refine fk ?_
   conv=>whnf
   refine g 0 1 []<|J ⟨UH,I,I⟩<|W.sq<|g 6 9 [.call VT [[]],BF,BF,BF,BF]<|J Zb5<|W.cn<|J (fun _=>(g 10 14 []<|J UA (RT ?_))) (noF tO)
   exact vs (if_neg (fun h=>hk h.2)).symm
 ·rw[show decide (bx m) = false from decide_eq_false h]at c1
  clear c2
  refine fk ?_
  conv=>whnf
  refine g 0 1 []<|J ⟨UH,I,I⟩<|W.sq<|g 6 9 [.call VF [[]],BT,BT,BT,BT]<|J ⟨I,Zb6,I,I,rfl,rfl,rfl,rfl,I⟩<|W.cn<|J (fun _=>(g 10 14 []<|J UA (RT ?_))) (noF rfl)
  exact vs (if_neg (fun x=>h x.1)).symm
def bS(r:ByteArray)(n:Nat):List ByteArray:=(List.range n).map fun k=>r.extract (8 * k) (8 * k+8)
def rdM(b:ByteArray):Message :=
 ⟨byt b 0,byt b 1,byt b 2,byt b 3 * 256+byt b 4,byt b 5 * 16777216+byt b 6 * 65536+byt b 7 * 256+byt b 8,byt b 9,if byt b 0 = 3 then b.extract 11 b.size else emp,if byt b 0 = 3 then []else bS (b.extract 11 b.size) ((b.size - 11) / 8)⟩
def ci(s key:ByteArray):Option Message:=if s.size < 19∨bw (rdM (s.extract 8 s.size)) key≠s then none else some (rdM (s.extract 8 s.size))
def eu:Option Message→V
 |none=>.tup [bu Jq,.b false]
 |some m=>.tup [bu m,.b true]
theorem nH(r:ByteArray)(n:Nat):bS r (n+1) = bS r n++ [r.extract (8 * n) (8 * n+8)]:=by
 unfold bS;rw[List.range_succ,List.map_append];rfl
def rdF(b:ByteArray)(t:ByteArray)(l:List ByteArray):Message :=
 ⟨byt b 0,byt b 1,byt b 2,byt b 3 * 256+byt b 4,byt b 5 * 16777216+byt b 6 * 65536+byt b 7 * 256+byt b 8,byt b 9,t,l⟩
theorem hY{s key:ByteArray}(h:s.size < 19):ci s key = none:=if_pos (Or.inl h)
theorem Ej{s key:ByteArray}{m:Message}(h:rdM (s.extract 8 s.size) = m)(h2:¬bw m key = s):ci s key = none:=if_pos (Or.inr (by rw[h];exact h2))
theorem om{s key:ByteArray}{m:Message}(h0:¬s.size < 19)(h:rdM (s.extract 8 s.size) = m)(h2:bw m key = s):ci s key = some m:=by
 unfold ci;rw[h,if_neg];rintro(h|h);exact h0 h;exact h h2
def bc(s:ByteArray):ByteArray:=(s.extract 8 s.size).extract 11 (s.extract 8 s.size).size
def jj(s:ByteArray)(n:Nat):ByteArray:=(bc s).extract (8 * n) (bc s).size
theorem FY(s:ByteArray):bc s = jj s 0:=by unfold jj;rw[Nat.mul_zero,ByteArray.extract_zero_size]
theorem F7{s:ByteArray}{n:Nat}(hz:(bc s).size = s.size - 19)(h:8 * n≤s.size - 19):(jj s n).size = s.size - 19 - 8 * n:=by
 unfold jj;rw[ByteArray.size_extract];omega
theorem F8{s:ByteArray}{n:Nat}(h:8 * n+8≤(bc s).size):(jj s n).extract 0 8 = (bc s).extract (8 * n) (8 * n+8):=by
 unfold jj;rw[ByteArray.extract_extract,Nat.min_eq_left OM,Nat.add_zero]
theorem FZ(s:ByteArray)(n:Nat)(h:8 * n+8≤(bc s).size):(jj s n).extract 8 (jj s n).size = jj s (n+1):=by
 have:(jj s n).size = (bc s).size - 8 * n:=by unfold jj;rw[ByteArray.size_extract];omega
 rw[this]
 unfold jj;rw[ByteArray.extract_extract,show 8 * n+8 = 8 * (n+1) by omega,show min (8 * n+ ((bc s).size - 8 * n)) (bc s).size = (bc s).size by omega]
theorem qK(r:ByteArray)(n:Nat):(bS r n).length = n:=by unfold bS;rw[List.length_map,List.length_range]
theorem Dx{s:ByteArray}{n:Nat}(h:8 * n+8≤(bc s).size):(bS (bc s) n).map ak++ [ak ((jj s n).extract 0 8)] = (bS (bc s) (n+1)).map ak:=by
 rw[nH,List.map_append,F8 h];rfl
theorem fp(tx key:ByteArray)(ht:tx.size≤68719476736):F pI [.val (.s tx),.val (.s key)] (eu (ci tx key)) [[],[]]:=by
 by_cases h0:tx.size < 19
 ·refine fj ?_
  conv=>whnf
  refine g 0 0 []<|J UB<|W.sq<|g 9 11 []<|J UC<|W.cn<|J (fun _=>(g 11 13 []<|J Zeb (RT ?_))) (noF tO)
  exact congrArg eu (hY h0).symm
 have hx:(tx.extract 8 tx.size).size = tx.size - 8:=by rw[ByteArray.size_extract];omega
 obtain⟨y1,hy1,hb1⟩:=bd (s:=tx.extract 8 tx.size) (n:=0) OM
 obtain⟨y2,hy2,hb2⟩:=bd (s:=tx.extract 8 tx.size) (n:=1) OM
 obtain⟨y3,hy3,hb3⟩:=bd (s:=tx.extract 8 tx.size) (n:=2) OM
 obtain⟨y4,hy4,hb4⟩:=bd (s:=tx.extract 8 tx.size) (n:=3) OM
 obtain⟨y5,hy5,hb5⟩:=bd (s:=tx.extract 8 tx.size) (n:=4) OM
 obtain⟨y6,hy6,hb6⟩:=bd (s:=tx.extract 8 tx.size) (n:=5) OM
 obtain⟨y7,hy7,hb7⟩:=bd (s:=tx.extract 8 tx.size) (n:=6) OM
 obtain⟨y8,hy8,hb8⟩:=bd (s:=tx.extract 8 tx.size) (n:=7) OM
 obtain⟨y9,hy9,hb9⟩:=bd (s:=tx.extract 8 tx.size) (n:=8) OM
 obtain⟨y10,hy10,hb10⟩:=bd (s:=tx.extract 8 tx.size) (n:=9) OM
 have e:∀ t l,rdF (tx.extract 8 tx.size) t l = ⟨y1.toNat,y2.toNat,y3.toNat,(y4.toNat:Int) * 256+y5.toNat,(y6.toNat:Int) * 16777216+ (y7.toNat:Int) * 65536+ (y8.toNat:Int) * 256+y9.toNat,y10.toNat,t,l⟩:=by
  intro t l;simp only[rdF,bm hy1,bm hy2,bm hy3,bm hy4,bm hy5,bm hy6,bm hy7,bm hy8,bm hy9,bm hy10]
 by_cases h3:(y1.toNat:Int) = 3
 ·have e1:rdM (tx.extract 8 tx.size) = ⟨y1.toNat,y2.toNat,y3.toNat,(y4.toNat:Int) * 256+y5.toNat,(y6.toNat:Int) * 16777216+ (y7.toNat:Int) * 65536+ (y8.toNat:Int) * 256+y9.toNat,y10.toNat,(tx.extract 8 tx.size).extract 11 (tx.extract 8 tx.size).size,[]⟩:=by
   rw[←e];unfold rdM rdF;rw[bm hy1,if_pos h3,if_pos h3]
  have c1:=fq (rdM (tx.extract 8 tx.size)) key (by rw[e1];simp)
  rw[e1]at c1
  refine fj ?_
  conv=>whnf
  refine g 0 0 []<|J UB<|W.sq<|g 9 11 []<|J UC<|W.cn<|J (noT dO) fun _=>W.skip<|g 11 15 [.n (8),.s (ByteArray.extract tx 8 (ByteArray.size tx))]<|J Zco<|gd 15 36 [[],[.i ((↑(UInt8.toNat y1):Int))],[.i ((↑(UInt8.toNat y1):Int))],[],[.i ((↑(UInt8.toNat y2):Int))],[.i ((↑(UInt8.toNat y2):Int))],[],[.i ((↑(UInt8.toNat y3):Int))],[.i ((↑(UInt8.toNat y3):Int))],[],[.i ((↑(UInt8.toNat y4):Int))],[.i ((↑(UInt8.toNat y4):Int))],[.i ((↑(UInt8.toNat y4):Int) * 256)],[],[.i ((↑(UInt8.toNat y5):Int))],[.i ((↑(UInt8.toNat y5):Int))],[.i ((↑(UInt8.toNat y4):Int) * 256+ (↑(UInt8.toNat y5):Int))],[],[.i ((↑(UInt8.toNat y10):Int))],[.i ((↑(UInt8.toNat y10):Int))],[],[],[]] ?_
  conv=>whnf
  refine J ⟨I,⟨OM,ixb hy1⟩,w8 _,I,⟨OM,ixb hy2⟩,w8 _,I,⟨OM,ixb hy3⟩,w8 _,I,⟨OM,ixb hy4⟩,w8 _,wO,I,⟨OM,ixb hy5⟩,w8 _,wO,I,⟨OM,ixb hy10⟩,w8 _,I,I,UH,I⟩<|J KR<|gd 36 55 [[],[.i ((↑(UInt8.toNat y6):Int))],[.i ((↑(UInt8.toNat y6):Int))],[.i ((↑(UInt8.toNat y6):Int) * 16777216)],[],[.i ((↑(UInt8.toNat y7):Int))],[.i ((↑(UInt8.toNat y7):Int))],[.i ((↑(UInt8.toNat y7):Int) * 65536)],[.i ((↑(UInt8.toNat y6):Int) * 16777216+ (↑(UInt8.toNat y7):Int) * 65536)],[],[.i ((↑(UInt8.toNat y8):Int))],[.i ((↑(UInt8.toNat y8):Int))],[.i ((↑(UInt8.toNat y8):Int) * 256)],[.i ((↑(UInt8.toNat y6):Int) * 16777216+ (↑(UInt8.toNat y7):Int) * 65536+ (↑(UInt8.toNat y8):Int) * 256)],[],[.i ((↑(UInt8.toNat y9):Int))],[.i ((↑(UInt8.toNat y9):Int))],[.i ((↑(UInt8.toNat y6):Int) * 16777216+ (↑(UInt8.toNat y7):Int) * 65536+ (↑(UInt8.toNat y8):Int) * 256+ (↑(UInt8.toNat y9):Int))],[],[]] ?_
  conv=>whnf
  refine J ⟨I,⟨OM,ixb hy6⟩,w8 _,wO,I,⟨OM,ixb hy7⟩,w8 _,wO,wO,I,⟨OM,ixb hy8⟩,w8 _,wO,wO,I,⟨OM,ixb hy9⟩,w8 _,wO,I,UA,I⟩<|J KR<|g 55 57 [.n (11),.s (ByteArray.extract (ByteArray.extract tx 8 (ByteArray.size tx)) 11 (ByteArray.size (ByteArray.extract tx 8 (ByteArray.size tx))))]<|J Zco<|W.sq<|g 57 59 []<|J UC<|W.cn<|J (fun _=>(rg []<|J ⟨I,I,UA,I⟩ (W.sq (g 8 78 [.call (V.s (bw {kind:=(↑(UInt8.toNat y1):Int),frm:=(↑(UInt8.toNat y2):Int),to:=(↑(UInt8.toNat y3):Int),epoch:=(↑(UInt8.toNat y4):Int) * 256+ (↑(UInt8.toNat y5):Int),lease:=(↑(UInt8.toNat y6):Int) * 16777216+ (↑(UInt8.toNat y7):Int) * 65536+ (↑(UInt8.toNat y8):Int) * 256+ (↑(UInt8.toNat y9):Int),task:=(↑(UInt8.toNat y10):Int),text:=ByteArray.extract (ByteArray.extract tx 8 (ByteArray.size tx)) 11 (ByteArray.size (ByteArray.extract tx 8 (ByteArray.size tx))),inputs:=[]:Message} key)) [[],[]]]<|J ⟨I,I,Zc5,I,I,I⟩ (W.cn<|J (fun h1=>?_) fun h1=>?_))))) (noF tO)
  replace h1:=ndt h1
  refine g 0 2 []<|J Zeb<|RT ?_
  rotate_left
  replace h1:=ndf h1
  refine W.skip<|g 6 81 []<|J Zeb<|RT ?_
  rotate_left
  ·exact congrArg eu (Ej e1 AS).symm
  ·exact congrArg eu (om h0 e1 AS).symm
 ·have e1:∀ n,n = (tx.size - 19) / 8→rdM (tx.extract 8 tx.size) = ⟨y1.toNat,y2.toNat,y3.toNat,(y4.toNat:Int) * 256+y5.toNat,(y6.toNat:Int) * 16777216+ (y7.toNat:Int) * 65536+ (y8.toNat:Int) * 256+y9.toNat,y10.toNat,emp,bS (bc tx) n⟩:=by
   intro n hn;rw[←e];unfold rdM rdF;rw[bm hy1,if_neg h3,if_neg h3,hn,hx,bc,hx,show tx.size - 8 - 11 = tx.size - 19 by omega]
  have hz:(bc tx).size = tx.size - 19:=by unfold bc;rw[ByteArray.size_extract,hx];omega
  refine fj ?_
  conv=>whnf
  refine g 0 0 []<|J UB<|W.sq<|g 9 11 []<|J UC<|W.cn<|J (noT dO) fun _=>W.skip<|g 11 15 [.n (8),.s (ByteArray.extract tx 8 (ByteArray.size tx))]<|J Zco<|gd 15 36 [[],[.i ((↑(UInt8.toNat y1):Int))],[.i ((↑(UInt8.toNat y1):Int))],[],[.i ((↑(UInt8.toNat y2):Int))],[.i ((↑(UInt8.toNat y2):Int))],[],[.i ((↑(UInt8.toNat y3):Int))],[.i ((↑(UInt8.toNat y3):Int))],[],[.i ((↑(UInt8.toNat y4):Int))],[.i ((↑(UInt8.toNat y4):Int))],[.i ((↑(UInt8.toNat y4):Int) * 256)],[],[.i ((↑(UInt8.toNat y5):Int))],[.i ((↑(UInt8.toNat y5):Int))],[.i ((↑(UInt8.toNat y4):Int) * 256+ (↑(UInt8.toNat y5):Int))],[],[.i ((↑(UInt8.toNat y10):Int))],[.i ((↑(UInt8.toNat y10):Int))],[],[],[]] ?_
  conv=>whnf
  refine J ⟨I,⟨OM,ixb hy1⟩,w8 _,I,⟨OM,ixb hy2⟩,w8 _,I,⟨OM,ixb hy3⟩,w8 _,I,⟨OM,ixb hy4⟩,w8 _,wO,I,⟨OM,ixb hy5⟩,w8 _,wO,I,⟨OM,ixb hy10⟩,w8 _,I,I,UH,I⟩<|J KR<|gd 36 55 [[],[.i ((↑(UInt8.toNat y6):Int))],[.i ((↑(UInt8.toNat y6):Int))],[.i ((↑(UInt8.toNat y6):Int) * 16777216)],[],[.i ((↑(UInt8.toNat y7):Int))],[.i ((↑(UInt8.toNat y7):Int))],[.i ((↑(UInt8.toNat y7):Int) * 65536)],[.i ((↑(UInt8.toNat y6):Int) * 16777216+ (↑(UInt8.toNat y7):Int) * 65536)],[],[.i ((↑(UInt8.toNat y8):Int))],[.i ((↑(UInt8.toNat y8):Int))],[.i ((↑(UInt8.toNat y8):Int) * 256)],[.i ((↑(UInt8.toNat y6):Int) * 16777216+ (↑(UInt8.toNat y7):Int) * 65536+ (↑(UInt8.toNat y8):Int) * 256)],[],[.i ((↑(UInt8.toNat y9):Int))],[.i ((↑(UInt8.toNat y9):Int))],[.i ((↑(UInt8.toNat y6):Int) * 16777216+ (↑(UInt8.toNat y7):Int) * 65536+ (↑(UInt8.toNat y8):Int) * 256+ (↑(UInt8.toNat y9):Int))],[],[]] ?_
  conv=>whnf
  refine J ⟨I,⟨OM,ixb hy6⟩,w8 _,wO,I,⟨OM,ixb hy7⟩,w8 _,wO,wO,I,⟨OM,ixb hy8⟩,w8 _,wO,wO,I,⟨OM,ixb hy9⟩,w8 _,wO,I,UA,I⟩<|J KR<|g 55 57 [.n (11),.s (ByteArray.extract (ByteArray.extract tx 8 (ByteArray.size tx)) 11 (ByteArray.size (ByteArray.extract tx 8 (ByteArray.size tx))))]<|J Zco<|W.sq<|g 57 59 []<|J UC<|W.cn<|J (noT dO) fun _=>W.blk<|W.lp (fun s (n:Nat)=>⟨[(0,s.s 0),(1,s.s 1),(4,s.s 4),(5,s.s 5),(7,s.s 7),(8,.s (jj tx n))],[(4,[s.c 4 0,s.c 4 1,s.c 4 2,s.c 4 3,s.c 4 4,s.c 4 5,s.c 4 6,s.c 4 7]),(7,[.t (.i y1.toNat),.t (.i y2.toNat),.t (.i y3.toNat),.t (.i ((y4.toNat:Int) * 256+y5.toNat)),.t (.i ((y6.toNat:Int) * 16777216+ (y7.toNat:Int) * 65536+ (y8.toNat:Int) * 256+y9.toNat)),.t (.i y10.toNat),.t (.s emp),.own [false] ((bS (bc tx) n).map ak)])],[]⟩) (fun(n:Nat)=>8 * n≤tx.size - 19) (fun(n:Nat)=>tx.size - 8 * n) (0) [some 4,some 7] [] ⟨rfl,⟨rfl,rfl,rfl,rfl,rfl,(congrArg (fun z=>V.t (T.v (Value.string z))) (FY tx)),I⟩,⟨Zab,⟨Zab,I⟩⟩,I⟩ OM ?_
  intro n hn
  have hs:=F7 (s:=tx) (n:=n) hz hn
  have c1:=fun n=>fq ⟨y1.toNat,y2.toNat,y3.toNat,(y4.toNat:Int) * 256+y5.toNat,(y6.toNat:Int) * 16777216+ (y7.toNat:Int) * 65536+ (y8.toNat:Int) * 256+y9.toNat,y10.toNat,emp,bS (bc tx) n⟩ key
  have c2:=c1 n (by simp only[bS,List.length_map,List.length_range];omega)
  clear c1
  have hcl:=qK (bc tx) n
  conv=>whnf
  refine W.sq<|g 62 64 []<|J UC<|W.cn<|J (fun h1=>?_) fun h1=>?_
  replace h1:=dt h1
  refine W.skip<|W.blk<|gd 64 72 [[],[],[],[.n (8),.s (ByteArray.extract (jj tx n) 0 8)],[],[],[],[]] ?_
  conv=>whnf
  refine J ⟨I,I,I,⟨rfl,I,OM,OM,rfl⟩,US,Zdi,I,UA,I⟩<|J KR<|rg [.n (8),.s (ByteArray.extract (jj tx n) 8 (ByteArray.size (jj tx n)))]<|J Zco ?_
  rotate_left
  replace h1:=df h1
  refine W.exit<|W.sq<|g 8 78 [.call (V.s (bw {kind:=(↑(UInt8.toNat y1):Int),frm:=(↑(UInt8.toNat y2):Int),to:=(↑(UInt8.toNat y3):Int),epoch:=(↑(UInt8.toNat y4):Int) * 256+ (↑(UInt8.toNat y5):Int),lease:=(↑(UInt8.toNat y6):Int) * 16777216+ (↑(UInt8.toNat y7):Int) * 65536+ (↑(UInt8.toNat y8):Int) * 256+ (↑(UInt8.toNat y9):Int),task:=(↑(UInt8.toNat y10):Int),text:=emp,inputs:=bS (bc tx) n:Message} key)) [[],[]]]<|J ⟨I,I,Zc5,I,I,I⟩<|W.cn<|J (fun h2=>?_) fun h2=>?_
  replace h2:=ndt h2
  refine g 0 2 []<|J Zeb<|RT ?_
  rotate_left
  replace h2:=ndf h2
  refine W.skip<|g 7 81 []<|J Zeb<|RT ?_
  rotate_left
  ·refine⟨n+1,[some 4,some 7],[],⟨rfl,⟨rfl,rfl,rfl,rfl,rfl,(congrArg (fun z=>V.t (T.v (Value.string z))) (FZ tx n OM)),I⟩,⟨Zab,⟨⟨rfl,⟨rfl,⟨rfl,⟨rfl,⟨rfl,⟨rfl,⟨rfl,⟨rfl,⟨(congrArg (V.own _) (Dx OM)),I⟩⟩⟩⟩⟩⟩⟩⟩⟩,I⟩⟩,I⟩,?_,?_⟩
   rotate_left
   (dsimp only;omega)
   dsimp only
   omega
  ·exact congrArg eu (Ej (e1 n OM) AS).symm
  ·exact congrArg eu (om h0 (e1 n OM) AS).symm
end Go.K
end
section
open Go Go.Tm Go.Proofs
namespace Go.K
attribute [local irreducible] ByteArray.extract
theorem xX(a i y:Nat)(hy:y < 2 ^ i)(h:a * 2 ^ i+y < 9223372036854775808):BU ((a * 2 ^ i:Nat):Int) (y:Int) = ((a * 2 ^ i+y:Nat):Int):=by
 unfold BU
 have e:((BitVec.ofInt IntKind.i64.bits ((a * 2 ^ i:Nat):Int))|||BitVec.ofInt IntKind.i64.bits (y:Int)).toNat = a * 2 ^ i+y:=by
  rw[BitVec.ofInt_natCast,BitVec.ofInt_natCast]
  have hb64:IntKind.i64.bits = 64:=rfl
  rw[BitVec.toNat_or,BitVec.toNat_ofNat,BitVec.toNat_ofNat,hb64,Nat.mod_eq_of_lt OM,Nat.mod_eq_of_lt OM]
  have:=Nat.two_pow_add_eq_or_of_lt (i:=i) (b:=y) hy a
  rw[Nat.mul_comm]at this
  exact this.symm
 rw[e]
 rw[wO]
theorem LO(a b:Nat)(ha:a < 256)(hb:b < 256):BU (IntKind.i64.wrap ((a:Int) * 256)) b = (a:Int) * 256+b:=Es a b ha hb
theorem LL(a b c d:Nat)(ha:a < 256)(hb:b < 256)(hc:c < 256)(hd:d < 256):BU (BU (BU (IntKind.i64.wrap ((a:Int) * 16777216)) (IntKind.i64.wrap ((b:Int) * 65536))) (IntKind.i64.wrap ((c:Int) * 256))) d = (a:Int) * 16777216+ (b:Int) * 65536+ (c:Int) * 256+d:=by
 rw[wO,wO,wO]
 have f1:((a * 16777216:Nat):Int) = (a:Int) * 16777216:=by rw[Int.natCast_mul];rfl
 have f2:((b * 65536:Nat):Int) = (b:Int) * 65536:=by rw[Int.natCast_mul];rfl
 have f3:a * 16777216+b * 65536 = (a * 256+b) * 65536:=by rw[Nat.add_mul,Nat.mul_assoc]
 have f4:((c * 256:Nat):Int) = (c:Int) * 256:=by rw[Int.natCast_mul];rfl
 have f5:(a * 256+b) * 65536+c * 256 = ((a * 256+b) * 256+c) * 256:=by rw[Nat.add_mul ((a * 256+b) * 256) c 256,Nat.mul_assoc (a * 256+b) 256 256]
 have f6:((((a * 256+b) * 256+c) * 256+d:Nat):Int) = (a:Int) * 16777216+ (b:Int) * 65536+ (c:Int) * 256+d:=by omega
 have e1:=xX a 24 (b * 65536) OM OM
 have e2:=xX (a * 256+b) 16 (c * 256) OM (by clear e1;omega)
 have e3:=xX ((a * 256+b) * 256+c) 8 d (by clear e1 e2;omega) (by clear e1 e2;omega)
 simp only[Nat.reducePow]at e1 e2 e3
 rw[f1,f2]at e1
 rw[e1]
 rw[f4]at e2
 rw[f3,e2]
 rw[f5,e3,f6]
theorem lJ{m:Message}{s key:ByteArray}(h:¬s.size < 19):bw m key = s↔bx m∧key.size≤30∧cT m = s.extract 8 s.size∧s.extract 0 8 = eF (s.extract 8 s.size) key:=by
 unfold bw
 constructor
 ·intro e
  by_cases hc:bx m∧key.size≤30
  ·rw[if_pos hc]at e
   have h8:(eF (cT m) key).size = 8:=gX _
   have hb:s.extract 8 s.size = cT m:=by
    rw[←e,ByteArray.size_append,h8,ByteArray.extract_append_eq_right h8.symm OM]
   have hs:s.extract 0 8 = eF (cT m) key:=by
    rw[←e,ByteArray.extract_append_eq_left h8.symm]
   exact⟨hc.1,hc.2,hb.symm,by rw[hs,hb]⟩
  ·rw[if_neg hc]at e
   rw[←e]at h
   exact absurd (show emp.size < 19 by decide) h
 ·rintro⟨h1,h2,h3,h4⟩
  rw[if_pos ⟨h1,h2⟩,h3,←h4,ByteArray.extract_append_extract,Nat.min_eq_left OM,Nat.max_eq_right OM,ByteArray.extract_zero_size]
theorem uS(r:ByteArray):∀ n,8 * n≤r.size→im (bS r n) = r.extract 0 (8 * n)
 |0,_=>by
  have:(r.extract 0 (8 * 0)).size = 0:=by rw[ByteArray.size_extract];omega
  rw[show bS r 0 = []from rfl,im];exact(ByteArray.size_eq_zero_iff.1 this).symm
 |n+1,h=>by
  rw[nH,yk,uS r n OM,im,im,CE,ByteArray.extract_append_extract,Nat.min_eq_left OM,Nat.max_eq_right OM]
  rfl
theorem Pl(s:ByteArray)(h:11≤s.size):bl [byt s 0,byt s 1,byt s 2,byt s 3,byt s 4,byt s 5,byt s 6,byt s 7,byt s 8,byt s 9,byt s 10] ++s.extract 11 s.size = s:=by
 obtain⟨⟨l⟩⟩:=s
 match l,h with
 |a :: b :: c :: d :: e :: f :: g :: i :: j :: k :: q :: r,_ =>
  rw[tM (c:=a) rfl,tM (c:=b) rfl,tM (c:=c) rfl,tM (c:=d) rfl,tM (c:=e) rfl,tM (c:=f) rfl,tM (c:=g) rfl,tM (c:=i) rfl,tM (c:=j) rfl,tM (c:=k) rfl,tM (c:=q) rfl]
  apply ByteArray.ext
  rw[ByteArray.data_append,ByteArray.data_extract]
  apply Array.ext'
  simp[bl,ByteArray.size]
theorem Rx{a0 a1 a2 a3 a4 a5 a6 a7 a8 a9 a10:Int}{r:ByteArray}(h:0≤a10∧a10≤255):byt (bl [a0,a1,a2,a3,a4,a5,a6,a7,a8,a9,a10] ++r) 10 = a10:=by
 obtain⟨⟨l⟩⟩:=r
 have e:bl [a0,a1,a2,a3,a4,a5,a6,a7,a8,a9,a10] ++ ⟨⟨l⟩⟩ = ⟨⟨(bl [a0,a1,a2,a3,a4,a5,a6,a7,a8,a9,a10]).data.toList++l⟩⟩:=by
  apply ByteArray.ext
  rw[ByteArray.data_append]
  apply Array.ext'
  simp
 rw[e,tM (c:=UInt8.ofNat a10.toNat) rfl]
 simp;omega
theorem oL(b:ByteArray):(rdM b).inputs.length = if byt b 0 = 3 then 0 else(b.size - 11) / 8:=by
 unfold rdM;dsimp only;split <;> simp[bS]
theorem Mv{b:ByteArray}(h:11≤b.size)(hok:bx (rdM b)):cT (rdM b) = b↔byt b 10 = (rdM b).inputs.length∧(byt b 0≠3→b.size - 11 = 8 * ((b.size - 11) / 8)):=by
 have hx:(b.extract 11 b.size).size = b.size - 11:=by rw[ByteArray.size_extract];omega
 have hh:xd (rdM b) = [byt b 0,byt b 1,byt b 2,byt b 3,byt b 4,byt b 5,byt b 6,byt b 7,byt b 8,byt b 9,((rdM b).inputs.length:Int)]:=by
  obtain⟨a3,e3,l3⟩:=dA b 3
  obtain⟨a4,e4,l4⟩:=dA b 4
  obtain⟨a5,e5,l5⟩:=dA b 5
  obtain⟨a6,e6,l6⟩:=dA b 6
  obtain⟨a7,e7,l7⟩:=dA b 7
  obtain⟨a8,e8,l8⟩:=dA b 8
  have f1:(rdM b).epoch = byt b 3 * 256+byt b 4:=rfl
  have f2:(rdM b).lease = byt b 5 * 16777216+byt b 6 * 65536+byt b 7 * 256+byt b 8:=rfl
  unfold xd
  rw[f1,f2,show(rdM b).kind = byt b 0 from rfl,show(rdM b).frm = byt b 1 from rfl,show(rdM b).to = byt b 2 from rfl,show(rdM b).task = byt b 9 from rfl]
  rw[e3,e4,e5,e6,e7,e8]
  congr 3
  congr 1;omega
  congr 1;omega
  congr 1;omega
  congr 1;omega
  congr 1;omega
  congr 1;omega
 have hsp:=Pl b h
 have htl:byt b 0 = 3∨b.size - 11 = 8 * ((b.size - 11) / 8)→(rdM b).text++im (rdM b).inputs = b.extract 11 b.size:=by
  intro h3
  unfold rdM;dsimp only
  by_cases hk:byt b 0 = 3
  ·rw[if_pos hk,if_pos hk,im,CE]
  ·have h3:=h3.resolve_left hk
   rw[if_neg hk,if_neg hk,GN,uS _ _ OM,←h3,←hx,ByteArray.extract_zero_size]
 have hbody:cT (rdM b) = bl (xd (rdM b)) ++ ((rdM b).text++im (rdM b).inputs):=by unfold cT;rw[ByteArray.append_assoc]
 constructor
 ·intro e
  have hn:(rdM b).inputs.length≤8:=(cK hok).1
  constructor
  ·have h1:=congrArg (fun x=>byt x 10) e
   rw[←h1,hbody,hh]
   exact Rx OM
  ·intro hk
   have h2:=congrArg ByteArray.size e
   rw[fL hok,oL,if_neg hk]at h2
   have ht:(rdM b).text = emp:=if_neg hk
   rw[ht]at h2
   have h0:emp.size = 0:=rfl
   omega
 ·rintro⟨h1,h2⟩
  rw[hbody,htl (by by_cases hk:byt b 0 = 3;exact Or.inl hk;exact Or.inr (h2 hk)),hh,←h1]
  exact hsp
end Go.K
end
section
open Go Go.Tm Go.Proofs
namespace Go.K
attribute [local irreducible] ByteArray.extract
def gp(q:ByteArray)(n:Nat):ByteArray:=q.extract (8 * n) q.size
theorem wG(q:ByteArray):q = gp q 0:=by unfold gp;rw[Nat.mul_zero,ByteArray.extract_zero_size]
theorem jk(q:ByteArray)(n:Nat):(gp q n).size = q.size - 8 * n:=by unfold gp;rw[ByteArray.size_extract];omega
theorem F9{q:ByteArray}{n:Nat}(h:8 * n+8≤q.size):(gp q n).extract 0 8 = q.extract (8 * n) (8 * n+8):=by
 unfold gp;rw[ByteArray.extract_extract,Nat.min_eq_left OM,Nat.add_zero]
theorem wH(q:ByteArray)(n:Nat)(h:8 * n+8≤q.size):(gp q n).extract 8 (gp q n).size = gp q (n+1):=by
 rw[jk]
 unfold gp;rw[ByteArray.extract_extract,show 8 * n+8 = 8 * (n+1) by omega,show min (8 * n+ (q.size - 8 * n)) q.size = q.size by omega]
theorem NY{q:ByteArray}{n:Nat}(h:8 * n+8≤q.size):(bS q n).map ak++ [ak ((gp q n).extract 0 8)] = (bS q (n+1)).map ak:=by
 rw[nH,List.map_append,F9 h];rfl
theorem z8{q:ByteArray}{n:Nat}(h:¬8 * n < q.size):gp q n = ⟨#[]⟩:=ByteArray.size_eq_zero_iff.1 (by rw[jk];omega)
theorem wI{q:ByteArray}{n:Nat}(h:8 * n < q.size):¬gp q n = ⟨#[]⟩:=by
 intro e
 have:=congrArg ByteArray.size e
 rw[jk]at this
 have h0:(ByteArray.mk #[]).size = 0:=rfl
 omega
def fa(tx:ByteArray):ByteArray:=(bc tx).extract 8 (bc tx).size
theorem ld{tx key:ByteArray}(h0:¬tx.size < 19)(h:¬(bx (rdM (tx.extract 8 tx.size))∧cT (rdM (tx.extract 8 tx.size)) = tx.extract 8 tx.size)):ci tx key = none :=
 if_pos (Or.inr (fun e=>h ⟨((lJ h0).1 e).1,((lJ h0).1 e).2.2.1⟩))
theorem wM{tx key:ByteArray}{m:Message}(h0:¬tx.size < 19)(hk:key.size≤30)(hs:tx.extract 0 8 = eF (tx.extract 8 tx.size) key)(e:rdM (tx.extract 8 tx.size) = m)(h1:bx m)(h2:cT (rdM (tx.extract 8 tx.size)) = tx.extract 8 tx.size):ci tx key = some m :=
 om h0 e ((lJ h0).2 ⟨h1,hk,e ▸ h2,hs⟩)
theorem iJ(tx key:ByteArray)(ht:tx.size≤68719476736):F pP [.val (.s tx),.val (.s key)] (eu (ci tx key)) [[],[]]:=by
 by_cases h0:tx.size < 19
 ·by_cases hk:key.size≤30
  ·refine cB ?_
   conv=>whnf
   refine g 0 0 []<|J UB<|W.sq<|gd 9 25 [[],[],[],[],[BF],[BF],[BF],[BF],[],[BT],[BT],[BT],[BT],[BT],[BT],[BT],[BT]] ?_
   conv=>whnf
   refine J ⟨I,I,I,I,⟨dO,I⟩,⟨dO,I⟩,⟨dO,I⟩,dO,I,tO,tO,tO,tO,tO,tO,tO,tO,I⟩<|J KR<|W.cn<|J (fun _=>(g 25 27 []<|J Zeb (RT ?_))) (noF rfl)
   exact congrArg eu (hY h0).symm
  ·refine cB ?_
   conv=>whnf
   refine g 0 0 []<|J UB<|W.sq<|gd 9 25 [[],[],[],[],[BT],[BT],[BT],[BT],[],[BT],[BT],[BT],[BT],[BT],[BT],[BT],[BT]] ?_
   conv=>whnf
   refine J ⟨I,I,I,I,tO,tO,tO,tO,I,rfl,rfl,rfl,rfl,rfl,rfl,rfl,rfl,I⟩<|J KR<|W.cn<|J (fun _=>(g 25 27 []<|J Zeb (RT ?_))) (noF rfl)
   exact congrArg eu (hY h0).symm
 by_cases hk:¬key.size≤30
 ·have e:ci tx key = none:=if_pos (Or.inr (fun h=>hk ((lJ h0).1 h).2.1))
  refine cB ?_
  conv=>whnf
  refine g 0 0 []<|J UB<|W.sq<|gd 9 25 [[],[],[],[],[BT],[BT],[BT],[BT],[],[BT],[BT],[BT],[BT],[BT],[BT],[BT],[BT]] ?_
  conv=>whnf
  refine J ⟨I,I,I,I,tO,tO,tO,tO,I,rfl,rfl,rfl,rfl,rfl,rfl,rfl,rfl,I⟩<|J KR<|W.cn<|J (fun _=>(g 25 27 []<|J Zeb (RT ?_))) (noF rfl)
  exact congrArg eu e.symm
 have hx:(tx.extract 8 tx.size).size = tx.size - 8:=by rw[ByteArray.size_extract];omega
 have c1:=nJ (tx.extract 8 tx.size) key OM OM
 by_cases hs:¬tx.extract 0 8 = eF (tx.extract 8 tx.size) key
 ·have e:ci tx key = none:=if_pos (Or.inr (fun h=>hs ((lJ h0).1 h).2.2.2))
  refine cB ?_
  conv=>whnf
  refine g 0 0 []<|J UB<|W.sq<|gd 9 25 [[],[],[],[],[BF],[BF],[BF],[BF],[],[BF],[BF,.n (8),.s (ByteArray.extract tx 0 8)],[BF],[BF,.n (8),.s (ByteArray.extract tx 8 (ByteArray.size tx))],[BF],[BF,.call (V.s (eF (ByteArray.extract tx 8 (ByteArray.size tx)) key)) [[],[]]],[BF],[BF]] ?_
  conv=>whnf
  refine J Zbi<|J KR<|W.cn<|J (fun _=>(g 25 27 []<|J Zeb (RT ?_))) (noF (af OM))
  exact congrArg eu e.symm
 obtain⟨y1,hy1,hb1⟩:=bd (s:=tx.extract 8 tx.size) (n:=0) OM
 obtain⟨y2,hy2,hb2⟩:=bd (s:=tx.extract 8 tx.size) (n:=1) OM
 obtain⟨y3,hy3,hb3⟩:=bd (s:=tx.extract 8 tx.size) (n:=2) OM
 obtain⟨y4,hy4,hb4⟩:=bd (s:=tx.extract 8 tx.size) (n:=3) OM
 obtain⟨y5,hy5,hb5⟩:=bd (s:=tx.extract 8 tx.size) (n:=4) OM
 obtain⟨y6,hy6,hb6⟩:=bd (s:=tx.extract 8 tx.size) (n:=5) OM
 obtain⟨y7,hy7,hb7⟩:=bd (s:=tx.extract 8 tx.size) (n:=6) OM
 obtain⟨y8,hy8,hb8⟩:=bd (s:=tx.extract 8 tx.size) (n:=7) OM
 obtain⟨y9,hy9,hb9⟩:=bd (s:=tx.extract 8 tx.size) (n:=8) OM
 obtain⟨y10,hy10,hb10⟩:=bd (s:=tx.extract 8 tx.size) (n:=9) OM
 obtain⟨y11,hy11,hb11⟩:=bd (s:=tx.extract 8 tx.size) (n:=10) OM
 have f1:=LO y4.toNat y5.toNat hb4 hb5
 have f2:=LL y6.toNat y7.toNat y8.toNat y9.toNat hb6 hb7 hb8 hb9
 have hz:(bc tx).size = tx.size - 19:=by unfold bc;rw[ByteArray.size_extract,hx];omega
 have e:∀ t l,rdF (tx.extract 8 tx.size) t l = ⟨y1.toNat,y2.toNat,y3.toNat,(y4.toNat:Int) * 256+y5.toNat,(y6.toNat:Int) * 16777216+ (y7.toNat:Int) * 65536+ (y8.toNat:Int) * 256+y9.toNat,y10.toNat,t,l⟩:=by
  intro t l;simp only[rdF,bm hy1,bm hy2,bm hy3,bm hy4,bm hy5,bm hy6,bm hy7,bm hy8,bm hy9,bm hy10]
 have hb:=bm hy11
 have hbi:=@Mv (tx.extract 8 tx.size) OM
 rw[hb,oL,bm hy1,hx]at hbi
 by_cases h3:(y1.toNat:Int) = 3
 ·have e1:rdM (tx.extract 8 tx.size) = ⟨y1.toNat,y2.toNat,y3.toNat,(y4.toNat:Int) * 256+y5.toNat,(y6.toNat:Int) * 16777216+ (y7.toNat:Int) * 65536+ (y8.toNat:Int) * 256+y9.toNat,y10.toNat,bc tx,[]⟩:=by
   rw[←e];unfold rdM rdF;rw[bm hy1,if_pos h3,if_pos h3];rfl
  rw[if_pos h3]at hbi
  have ho:bx (rdM (tx.extract 8 tx.size))→(bc tx).size = 8:=by
   rw[e1];unfold bx;dsimp only;omega
  have hq:8≤(bc tx).size→(fa tx).size = (bc tx).size - 8:=by intro h;unfold fa;rw[ByteArray.size_extract];omega
  refine cB ?_
  conv=>whnf
  refine g 0 0 []<|J UB<|W.sq<|gd 9 25 [[],[],[],[],[BF],[BF],[BF],[BF],[],[BF],[BF,.n (8),.s (ByteArray.extract tx 0 8)],[BF],[BF,.n (8),.s (ByteArray.extract tx 8 (ByteArray.size tx))],[BF],[BF,.call (V.s (eF (ByteArray.extract tx 8 (ByteArray.size tx)) key)) [[],[]]],[BF],[BF]] ?_
  conv=>whnf
  refine J Zbi<|J KR<|W.cn<|J (noT (by simp_all)) fun _=>W.skip<|g 25 29 [.n (8),.s (ByteArray.extract tx 8 (ByteArray.size tx))]<|J Zco<|gd 29 68 [[],[.i ((↑(UInt8.toNat y1):Int))],[.i ((↑(UInt8.toNat y1):Int))],[],[.i ((↑(UInt8.toNat y2):Int))],[.i ((↑(UInt8.toNat y2):Int))],[],[.i ((↑(UInt8.toNat y3):Int))],[.i ((↑(UInt8.toNat y3):Int))],[],[.i ((↑(UInt8.toNat y4):Int))],[.i ((↑(UInt8.toNat y4):Int))],[.i (IntKind.wrap IntKind.i64 ((↑(UInt8.toNat y4):Int) * 2 ^ min (Int.toNat 8) (IntKind.bits IntKind.i64)))],[],[.i ((↑(UInt8.toNat y5):Int))],[.i ((↑(UInt8.toNat y5):Int))],[.i (IntKind.wrap IntKind.i64 (↑(BitVec.toNat (BitVec.ofInt (IntKind.bits IntKind.i64) (IntKind.wrap IntKind.i64 ((↑(UInt8.toNat y4):Int) * 2 ^ min (Int.toNat 8) (IntKind.bits IntKind.i64)))|||BitVec.ofInt (IntKind.bits IntKind.i64) (↑(UInt8.toNat y5):Int))):Int))],[],[.i ((↑(UInt8.toNat y6):Int))],[.i ((↑(UInt8.toNat y6):Int))],[.i (IntKind.wrap IntKind.i64 ((↑(UInt8.toNat y6):Int) * 2 ^ min (Int.toNat 24) (IntKind.bits IntKind.i64)))],[],[.i ((↑(UInt8.toNat y7):Int))],[.i ((↑(UInt8.toNat y7):Int))],[.i (IntKind.wrap IntKind.i64 ((↑(UInt8.toNat y7):Int) * 2 ^ min (Int.toNat 16) (IntKind.bits IntKind.i64)))],[.i (IntKind.wrap IntKind.i64 (↑(BitVec.toNat (BitVec.ofInt (IntKind.bits IntKind.i64) (IntKind.wrap IntKind.i64 ((↑(UInt8.toNat y6):Int) * 2 ^ min (Int.toNat 24) (IntKind.bits IntKind.i64)))|||BitVec.ofInt (IntKind.bits IntKind.i64) (IntKind.wrap IntKind.i64 ((↑(UInt8.toNat y7):Int) * 2 ^ min (Int.toNat 16) (IntKind.bits IntKind.i64))))):Int))],[],[.i ((↑(UInt8.toNat y8):Int))],[.i ((↑(UInt8.toNat y8):Int))],[.i (IntKind.wrap IntKind.i64 ((↑(UInt8.toNat y8):Int) * 2 ^ min (Int.toNat 8) (IntKind.bits IntKind.i64)))],[.i (IntKind.wrap IntKind.i64 (↑(BitVec.toNat (BitVec.ofInt (IntKind.bits IntKind.i64) (IntKind.wrap IntKind.i64 (↑(BitVec.toNat (BitVec.ofInt (IntKind.bits IntKind.i64) (IntKind.wrap IntKind.i64 ((↑(UInt8.toNat y6):Int) * 2 ^ min (Int.toNat 24) (IntKind.bits IntKind.i64)))|||BitVec.ofInt (IntKind.bits IntKind.i64) (IntKind.wrap IntKind.i64 ((↑(UInt8.toNat y7):Int) * 2 ^ min (Int.toNat 16) (IntKind.bits IntKind.i64))))):Int))|||BitVec.ofInt (IntKind.bits IntKind.i64) (IntKind.wrap IntKind.i64 ((↑(UInt8.toNat y8):Int) * 2 ^ min (Int.toNat 8) (IntKind.bits IntKind.i64))))):Int))],[],[.i ((↑(UInt8.toNat y9):Int))],[.i ((↑(UInt8.toNat y9):Int))],[.i (IntKind.wrap IntKind.i64 (↑(BitVec.toNat (BitVec.ofInt (IntKind.bits IntKind.i64) (IntKind.wrap IntKind.i64 (↑(BitVec.toNat (BitVec.ofInt (IntKind.bits IntKind.i64) (IntKind.wrap IntKind.i64 (↑(BitVec.toNat (BitVec.ofInt (IntKind.bits IntKind.i64) (IntKind.wrap IntKind.i64 ((↑(UInt8.toNat y6):Int) * 2 ^ min (Int.toNat 24) (IntKind.bits IntKind.i64)))|||BitVec.ofInt (IntKind.bits IntKind.i64) (IntKind.wrap IntKind.i64 ((↑(UInt8.toNat y7):Int) * 2 ^ min (Int.toNat 16) (IntKind.bits IntKind.i64))))):Int))|||BitVec.ofInt (IntKind.bits IntKind.i64) (IntKind.wrap IntKind.i64 ((↑(UInt8.toNat y8):Int) * 2 ^ min (Int.toNat 8) (IntKind.bits IntKind.i64))))):Int))|||BitVec.ofInt (IntKind.bits IntKind.i64) (↑(UInt8.toNat y9):Int))):Int))],[],[.i ((↑(UInt8.toNat y10):Int))],[.i ((↑(UInt8.toNat y10):Int))],[],[],[]] ?_
  conv=>whnf
  refine J ⟨I,⟨OM,ixb hy1⟩,w8 _,I,⟨OM,ixb hy2⟩,w8 _,I,⟨OM,ixb hy3⟩,w8 _,I,⟨OM,ixb hy4⟩,w8 _,Zdr,I,⟨OM,ixb hy5⟩,w8 _,rfl,I,⟨OM,ixb hy6⟩,w8 _,Zdr,I,⟨OM,ixb hy7⟩,w8 _,Zdr,rfl,I,⟨OM,ixb hy8⟩,w8 _,Zdr,rfl,I,⟨OM,ixb hy9⟩,w8 _,rfl,I,⟨OM,ixb hy10⟩,w8 _,I,I,UH,I⟩<|J KR<|g 68 71 [.i ((↑(UInt8.toNat y11):Int)),.i ((↑(UInt8.toNat y11):Int))]<|J ⟨I,⟨OM,ixb hy11⟩,w8 _,I,I⟩<|g 71 73 [.n (11),.s (ByteArray.extract (ByteArray.extract tx 8 (ByteArray.size tx)) 11 (ByteArray.size (ByteArray.extract tx 8 (ByteArray.size tx))))]<|J Zco<|W.sq<|g 73 75 []<|J UC<|W.cn<|J (fun _=>(W.sq (g 75 78 []<|J UC (W.cn<|J (fun h1=>?_) fun h1=>?_)))) (noF tO)
  replace h1:=dt h1
  refine g 78 80 []<|J Zeb<|RT ?_
  rotate_left
  replace h1:=df h1
  refine W.skip<|rgd [[],[.n (8),.s (ByteArray.extract (ByteArray.extract (ByteArray.extract tx 8 (ByteArray.size tx)) 11 (ByteArray.size (ByteArray.extract tx 8 (ByteArray.size tx)))) 0 8)],[],[.n (8),.s (ByteArray.extract (ByteArray.extract (ByteArray.extract tx 8 (ByteArray.size tx)) 11 (ByteArray.size (ByteArray.extract tx 8 (ByteArray.size tx)))) 8 (ByteArray.size (ByteArray.extract (ByteArray.extract tx 8 (ByteArray.size tx)) 11 (ByteArray.size (ByteArray.extract tx 8 (ByteArray.size tx))))))],[],[],[]] ?_
  conv=>whnf
  refine J ⟨I,⟨rfl,I,OM,OM,rfl⟩,I,⟨I,rfl,OM,OM,rfl⟩,I,UA,I,I⟩<|J KR<|W.sq<|g 8 89 [.i (8 * (↑(UInt8.toNat y11):Int))]<|J ⟨I,I,I,wO,I,I⟩<|W.cn<|J (fun h2=>?_) fun h2=>?_
  replace h2:=ndt h2
  refine g 89 91 []<|J Zeb<|RT ?_
  rotate_left
  replace h2:=ndf h2
  refine W.skip<|W.sq<|W.blk ?_
  rotate_left
  ·replace h1:((bc tx).size:Int) < 8:=h1
   exact congrArg eu (ld h0 (fun h=>by have:=ho h.1;omega)).symm
  ·replace h1:¬((bc tx).size:Int) < 8:=h1
   replace h2:¬((fa tx).size:Int) = 8 * (y11.toNat:Int):=h2
   exact congrArg eu (ld h0 (fun h=>by have:=ho h.1;have:=((hbi h.1).1 h.2).1;omega)).symm
  ·replace h1:¬((bc tx).size:Int) < 8:=h1
   replace h2:((fa tx).size:Int) = 8 * (y11.toNat:Int):=h2
   refine W.lp (fun s (n:Nat)=>⟨[(0,s.s 0),(4,s.s 4),(5,s.s 5),(6,.s (gp (fa tx) n)),(7,s.s 7)],[(4,[s.c 4 0,s.c 4 1,s.c 4 2,s.c 4 3,s.c 4 4,s.c 4 5,s.c 4 6,s.c 4 7]),(7,[.t (.i y1.toNat),.t (.i y2.toNat),.t (.i y3.toNat),.t (.i ((y4.toNat:Int) * 256+y5.toNat)),.t (.i ((y6.toNat:Int) * 16777216+ (y7.toNat:Int) * 65536+ (y8.toNat:Int) * 256+y9.toNat)),.t (.i y10.toNat),.t (.s ((bc tx).extract 0 8)),.own [false] ((bS (fa tx) n).map ak)])],[]⟩) (fun(n:Nat)=>8 * n≤(fa tx).size) (fun(n:Nat)=>(fa tx).size - 8 * n) (0) [some 4,some 7] [] ⟨rfl,⟨rfl,rfl,rfl,(congrArg (fun z=>V.t (T.v (Value.string z))) (wG (fa tx))),rfl,I⟩,⟨Zab,⟨⟨rfl,⟨rfl,⟨rfl,⟨rfl,⟨(congrArg (fun z=>V.t (T.v (Value.int _ z))) (f1)),⟨(congrArg (fun z=>V.t (T.v (Value.int _ z))) (f2)),Zd1⟩⟩⟩⟩⟩⟩,I⟩⟩,I⟩ OM ?_
   intro n hn
   have hrz:=jk (fa tx) n
   have hcl:=qK (fa tx) n
   have c2:=bZ ⟨y1.toNat,y2.toNat,y3.toNat,(y4.toNat:Int) * 256+y5.toNat,(y6.toNat:Int) * 16777216+ (y7.toNat:Int) * 65536+ (y8.toNat:Int) * 256+y9.toNat,y10.toNat,(bc tx).extract 0 8,bS (fa tx) n⟩ (by rw[show(Message.inputs ⟨y1.toNat,y2.toNat,y3.toNat,(y4.toNat:Int) * 256+y5.toNat,(y6.toNat:Int) * 16777216+ (y7.toNat:Int) * 65536+ (y8.toNat:Int) * 256+y9.toNat,y10.toNat,(bc tx).extract 0 8,bS (fa tx) n⟩) = bS (fa tx) n from rfl,hcl];omega)
   by_cases hn8:8 * n < (fa tx).size
   ·have hne:=wI hn8
    conv=>whnf
    refine W.sq<|g 91 92 []<|J UB<|W.cn<|J (fun _=>(W.skip (W.sq (W.blk (rgd [[],[],[],[.n (8),.s (ByteArray.extract (gp (fa tx) n) 0 8)],[],[],[],[]] ?_))))) (noF (af OM))
    conv=>whnf
    refine⟨⟨I,I,I,⟨rfl,I,OM,OM,rfl⟩,US,Zdi,I,UA,I⟩,by kernel_rfl,?_⟩
    refine rg [.n (8),.s (ByteArray.extract (gp (fa tx) n) 8 (ByteArray.size (gp (fa tx) n)))] ?_
    conv=>whnf
    refine⟨⟨I,⟨I,rfl,OM,OM,rfl⟩,I,I⟩,?_⟩
    ·refine⟨n+1,[some 4,some 7],[],⟨rfl,⟨rfl,rfl,rfl,(congrArg (fun z=>V.t (T.v (Value.string z))) (wH (fa tx) n OM)),rfl,I⟩,⟨Zab,⟨⟨rfl,⟨rfl,⟨rfl,⟨rfl,⟨rfl,⟨rfl,⟨rfl,⟨rfl,⟨(congrArg (V.own _) (NY OM)),I⟩⟩⟩⟩⟩⟩⟩⟩⟩,I⟩⟩,I⟩,?_,?_⟩
     rotate_left
     (dsimp only;omega)
     dsimp only
     omega
   ·have heq:=z8 hn8
    have em:n = 0→(bc tx).size = 8→rdM (tx.extract 8 tx.size) = ⟨y1.toNat,y2.toNat,y3.toNat,(y4.toNat:Int) * 256+y5.toNat,(y6.toNat:Int) * 16777216+ (y7.toNat:Int) * 65536+ (y8.toNat:Int) * 256+y9.toNat,y10.toNat,(bc tx).extract 0 8,bS (fa tx) n⟩:=by
     intro hn0 h8
     rw[e1,hn0,show bS (fa tx) 0 = []from rfl]
     rw[show(bc tx).extract 0 8 = bc tx by rw[←h8,ByteArray.extract_zero_size]]
    conv=>whnf
    refine W.sq<|g 91 92 []<|J UB<|W.cn<|J (noT nO) fun _=>W.exit<|W.sq<|g 92 104 [.call (V.b (decide (bx {kind:=(↑(UInt8.toNat y1):Int),frm:=(↑(UInt8.toNat y2):Int),to:=(↑(UInt8.toNat y3):Int),epoch:=(↑(UInt8.toNat y4):Int) * 256+ (↑(UInt8.toNat y5):Int),lease:=(↑(UInt8.toNat y6):Int) * 16777216+ (↑(UInt8.toNat y7):Int) * 65536+ (↑(UInt8.toNat y8):Int) * 256+ (↑(UInt8.toNat y9):Int),task:=(↑(UInt8.toNat y10):Int),text:=ByteArray.extract (bc tx) 0 8,inputs:=bS (fa tx) n:Message}))) [[]]]<|J ⟨I,Zb6,I,I⟩<|W.cn<|J (fun h4=>?_) fun h4=>?_
    replace h4:=ndt h4
    refine g 104 106 []<|J Zeb<|RT ?_
    rotate_left
    replace h4:=ndf h4
    refine W.skip<|g 6 107 []<|J Zeb<|RT ?_
    rotate_left
    ·exact congrArg eu (ld h0 (fun h=>by
      have h4:=ho h.1
      have h5:=((hbi h.1).1 h.2).1
      rw[em OM h4]at h
      exact absurd h.1 AS)).symm
    ·have hok:bx ⟨y1.toNat,y2.toNat,y3.toNat,(y4.toNat:Int) * 256+y5.toNat,(y6.toNat:Int) * 16777216+ (y7.toNat:Int) * 65536+ (y8.toNat:Int) * 256+y9.toNat,y10.toNat,(bc tx).extract 0 8,bS (fa tx) n⟩:=by assumption
     have hn0:n = 0:=by
      have:(bS (fa tx) n).length = 0:=by
       unfold bx at hok;dsimp only at hok;omega
      omega
     have h8:(bc tx).size = 8:=by omega
     exact congrArg eu (wM h0 OM (Decidable.not_not.1 hs) (em hn0 h8) hok ((hbi (by rw[em hn0 h8];exact hok)).2 ⟨by omega,fun h=>absurd h3 h⟩)).symm
 ·rw[if_neg h3]at hbi
  have e1:∀ n,n = (tx.size - 19) / 8→rdM (tx.extract 8 tx.size) = ⟨y1.toNat,y2.toNat,y3.toNat,(y4.toNat:Int) * 256+y5.toNat,(y6.toNat:Int) * 16777216+ (y7.toNat:Int) * 65536+ (y8.toNat:Int) * 256+y9.toNat,y10.toNat,emp,bS (bc tx) n⟩:=by
   intro n hn;rw[←e];unfold rdM rdF;rw[bm hy1,if_neg h3,if_neg h3,hn,hx,bc,hx,show tx.size - 8 - 11 = tx.size - 19 by omega]
  refine cB ?_
  conv=>whnf
  refine g 0 0 []<|J UB<|W.sq<|gd 9 25 [[],[],[],[],[BF],[BF],[BF],[BF],[],[BF],[BF,.n (8),.s (ByteArray.extract tx 0 8)],[BF],[BF,.n (8),.s (ByteArray.extract tx 8 (ByteArray.size tx))],[BF],[BF,.call (V.s (eF (ByteArray.extract tx 8 (ByteArray.size tx)) key)) [[],[]]],[BF],[BF]] ?_
  conv=>whnf
  refine J Zbi<|J KR<|W.cn<|J (noT (by simp_all)) fun _=>W.skip<|g 25 29 [.n (8),.s (ByteArray.extract tx 8 (ByteArray.size tx))]<|J Zco<|gd 29 68 [[],[.i ((↑(UInt8.toNat y1):Int))],[.i ((↑(UInt8.toNat y1):Int))],[],[.i ((↑(UInt8.toNat y2):Int))],[.i ((↑(UInt8.toNat y2):Int))],[],[.i ((↑(UInt8.toNat y3):Int))],[.i ((↑(UInt8.toNat y3):Int))],[],[.i ((↑(UInt8.toNat y4):Int))],[.i ((↑(UInt8.toNat y4):Int))],[.i (IntKind.wrap IntKind.i64 ((↑(UInt8.toNat y4):Int) * 2 ^ min (Int.toNat 8) (IntKind.bits IntKind.i64)))],[],[.i ((↑(UInt8.toNat y5):Int))],[.i ((↑(UInt8.toNat y5):Int))],[.i (IntKind.wrap IntKind.i64 (↑(BitVec.toNat (BitVec.ofInt (IntKind.bits IntKind.i64) (IntKind.wrap IntKind.i64 ((↑(UInt8.toNat y4):Int) * 2 ^ min (Int.toNat 8) (IntKind.bits IntKind.i64)))|||BitVec.ofInt (IntKind.bits IntKind.i64) (↑(UInt8.toNat y5):Int))):Int))],[],[.i ((↑(UInt8.toNat y6):Int))],[.i ((↑(UInt8.toNat y6):Int))],[.i (IntKind.wrap IntKind.i64 ((↑(UInt8.toNat y6):Int) * 2 ^ min (Int.toNat 24) (IntKind.bits IntKind.i64)))],[],[.i ((↑(UInt8.toNat y7):Int))],[.i ((↑(UInt8.toNat y7):Int))],[.i (IntKind.wrap IntKind.i64 ((↑(UInt8.toNat y7):Int) * 2 ^ min (Int.toNat 16) (IntKind.bits IntKind.i64)))],[.i (IntKind.wrap IntKind.i64 (↑(BitVec.toNat (BitVec.ofInt (IntKind.bits IntKind.i64) (IntKind.wrap IntKind.i64 ((↑(UInt8.toNat y6):Int) * 2 ^ min (Int.toNat 24) (IntKind.bits IntKind.i64)))|||BitVec.ofInt (IntKind.bits IntKind.i64) (IntKind.wrap IntKind.i64 ((↑(UInt8.toNat y7):Int) * 2 ^ min (Int.toNat 16) (IntKind.bits IntKind.i64))))):Int))],[],[.i ((↑(UInt8.toNat y8):Int))],[.i ((↑(UInt8.toNat y8):Int))],[.i (IntKind.wrap IntKind.i64 ((↑(UInt8.toNat y8):Int) * 2 ^ min (Int.toNat 8) (IntKind.bits IntKind.i64)))],[.i (IntKind.wrap IntKind.i64 (↑(BitVec.toNat (BitVec.ofInt (IntKind.bits IntKind.i64) (IntKind.wrap IntKind.i64 (↑(BitVec.toNat (BitVec.ofInt (IntKind.bits IntKind.i64) (IntKind.wrap IntKind.i64 ((↑(UInt8.toNat y6):Int) * 2 ^ min (Int.toNat 24) (IntKind.bits IntKind.i64)))|||BitVec.ofInt (IntKind.bits IntKind.i64) (IntKind.wrap IntKind.i64 ((↑(UInt8.toNat y7):Int) * 2 ^ min (Int.toNat 16) (IntKind.bits IntKind.i64))))):Int))|||BitVec.ofInt (IntKind.bits IntKind.i64) (IntKind.wrap IntKind.i64 ((↑(UInt8.toNat y8):Int) * 2 ^ min (Int.toNat 8) (IntKind.bits IntKind.i64))))):Int))],[],[.i ((↑(UInt8.toNat y9):Int))],[.i ((↑(UInt8.toNat y9):Int))],[.i (IntKind.wrap IntKind.i64 (↑(BitVec.toNat (BitVec.ofInt (IntKind.bits IntKind.i64) (IntKind.wrap IntKind.i64 (↑(BitVec.toNat (BitVec.ofInt (IntKind.bits IntKind.i64) (IntKind.wrap IntKind.i64 (↑(BitVec.toNat (BitVec.ofInt (IntKind.bits IntKind.i64) (IntKind.wrap IntKind.i64 ((↑(UInt8.toNat y6):Int) * 2 ^ min (Int.toNat 24) (IntKind.bits IntKind.i64)))|||BitVec.ofInt (IntKind.bits IntKind.i64) (IntKind.wrap IntKind.i64 ((↑(UInt8.toNat y7):Int) * 2 ^ min (Int.toNat 16) (IntKind.bits IntKind.i64))))):Int))|||BitVec.ofInt (IntKind.bits IntKind.i64) (IntKind.wrap IntKind.i64 ((↑(UInt8.toNat y8):Int) * 2 ^ min (Int.toNat 8) (IntKind.bits IntKind.i64))))):Int))|||BitVec.ofInt (IntKind.bits IntKind.i64) (↑(UInt8.toNat y9):Int))):Int))],[],[.i ((↑(UInt8.toNat y10):Int))],[.i ((↑(UInt8.toNat y10):Int))],[],[],[]] ?_
  conv=>whnf
  refine J ⟨I,⟨OM,ixb hy1⟩,w8 _,I,⟨OM,ixb hy2⟩,w8 _,I,⟨OM,ixb hy3⟩,w8 _,I,⟨OM,ixb hy4⟩,w8 _,Zdr,I,⟨OM,ixb hy5⟩,w8 _,rfl,I,⟨OM,ixb hy6⟩,w8 _,Zdr,I,⟨OM,ixb hy7⟩,w8 _,Zdr,rfl,I,⟨OM,ixb hy8⟩,w8 _,Zdr,rfl,I,⟨OM,ixb hy9⟩,w8 _,rfl,I,⟨OM,ixb hy10⟩,w8 _,I,I,UH,I⟩<|J KR<|g 68 71 [.i ((↑(UInt8.toNat y11):Int)),.i ((↑(UInt8.toNat y11):Int))]<|J ⟨I,⟨OM,ixb hy11⟩,w8 _,I,I⟩<|g 71 73 [.n (11),.s (ByteArray.extract (ByteArray.extract tx 8 (ByteArray.size tx)) 11 (ByteArray.size (ByteArray.extract tx 8 (ByteArray.size tx))))]<|J Zco<|W.sq<|g 73 75 []<|J UC<|W.cn<|J (noT dO) fun _=>W.skip<|W.sq<|g 8 89 [.i (8 * (↑(UInt8.toNat y11):Int))]<|J ⟨I,I,I,wO,I,I⟩<|W.cn<|J (fun h1=>?_) fun h1=>?_
  replace h1:=ndt h1
  refine g 89 91 []<|J Zeb<|RT ?_
  rotate_left
  replace h1:=ndf h1
  refine W.skip<|W.sq<|W.blk ?_
  rotate_left
  ·replace h1:¬((bc tx).size:Int) = 8 * (y11.toNat:Int):=h1
   exact congrArg eu (ld h0 (fun h=>by have h5:=(hbi h.1).1 h.2;have:=h5.2 h3;omega)).symm
  ·replace h1:((bc tx).size:Int) = 8 * (y11.toNat:Int):=h1
   refine W.lp (fun s (n:Nat)=>⟨[(0,s.s 0),(4,s.s 4),(5,s.s 5),(6,.s (gp (bc tx) n)),(7,s.s 7)],[(4,[s.c 4 0,s.c 4 1,s.c 4 2,s.c 4 3,s.c 4 4,s.c 4 5,s.c 4 6,s.c 4 7]),(7,[.t (.i y1.toNat),.t (.i y2.toNat),.t (.i y3.toNat),.t (.i ((y4.toNat:Int) * 256+y5.toNat)),.t (.i ((y6.toNat:Int) * 16777216+ (y7.toNat:Int) * 65536+ (y8.toNat:Int) * 256+y9.toNat)),.t (.i y10.toNat),.t (.s emp),.own [false] ((bS (bc tx) n).map ak)])],[]⟩) (fun(n:Nat)=>8 * n≤(bc tx).size) (fun(n:Nat)=>(bc tx).size - 8 * n) (0) [some 4,some 7] [] ⟨rfl,⟨rfl,rfl,rfl,(congrArg (fun z=>V.t (T.v (Value.string z))) (wG (bc tx))),rfl,I⟩,⟨Zab,⟨⟨rfl,⟨rfl,⟨rfl,⟨rfl,⟨(congrArg (fun z=>V.t (T.v (Value.int _ z))) (f1)),⟨(congrArg (fun z=>V.t (T.v (Value.int _ z))) (f2)),Zd1⟩⟩⟩⟩⟩⟩,I⟩⟩,I⟩ OM ?_
   intro n hn
   have hrz:=jk (bc tx) n
   have hcl:=qK (bc tx) n
   have c2:=bZ ⟨y1.toNat,y2.toNat,y3.toNat,(y4.toNat:Int) * 256+y5.toNat,(y6.toNat:Int) * 16777216+ (y7.toNat:Int) * 65536+ (y8.toNat:Int) * 256+y9.toNat,y10.toNat,emp,bS (bc tx) n⟩ (by rw[show(Message.inputs ⟨y1.toNat,y2.toNat,y3.toNat,(y4.toNat:Int) * 256+y5.toNat,(y6.toNat:Int) * 16777216+ (y7.toNat:Int) * 65536+ (y8.toNat:Int) * 256+y9.toNat,y10.toNat,emp,bS (bc tx) n⟩) = bS (bc tx) n from rfl,hcl];omega)
   by_cases hn8:8 * n < (bc tx).size
   ·have hne:=wI hn8
    conv=>whnf
    refine W.sq<|g 91 92 []<|J UB<|W.cn<|J (fun _=>(W.skip (W.sq (W.blk (rgd [[],[],[],[.n (8),.s (ByteArray.extract (gp (bc tx) n) 0 8)],[],[],[],[]] ?_))))) (noF (af OM))
    conv=>whnf
    refine⟨⟨I,I,I,⟨rfl,I,OM,OM,rfl⟩,US,Zdi,I,UA,I⟩,by kernel_rfl,?_⟩
    refine rg [.n (8),.s (ByteArray.extract (gp (bc tx) n) 8 (ByteArray.size (gp (bc tx) n)))] ?_
    conv=>whnf
    refine⟨⟨I,⟨I,rfl,OM,OM,rfl⟩,I,I⟩,?_⟩
    ·refine⟨n+1,[some 4,some 7],[],⟨rfl,⟨rfl,rfl,rfl,(congrArg (fun z=>V.t (T.v (Value.string z))) (wH (bc tx) n OM)),rfl,I⟩,⟨Zab,⟨⟨rfl,⟨rfl,⟨rfl,⟨rfl,⟨rfl,⟨rfl,⟨rfl,⟨rfl,⟨(congrArg (V.own _) (NY OM)),I⟩⟩⟩⟩⟩⟩⟩⟩⟩,I⟩⟩,I⟩,?_,?_⟩
     rotate_left
     (dsimp only;omega)
     dsimp only
     omega
   ·have heq:=z8 hn8
    have em:=e1 n OM
    conv=>whnf
    refine W.sq<|g 91 92 []<|J UB<|W.cn<|J (noT nO) fun _=>W.exit<|W.sq<|g 92 104 [.call (V.b (decide (bx {kind:=(↑(UInt8.toNat y1):Int),frm:=(↑(UInt8.toNat y2):Int),to:=(↑(UInt8.toNat y3):Int),epoch:=(↑(UInt8.toNat y4):Int) * 256+ (↑(UInt8.toNat y5):Int),lease:=(↑(UInt8.toNat y6):Int) * 16777216+ (↑(UInt8.toNat y7):Int) * 65536+ (↑(UInt8.toNat y8):Int) * 256+ (↑(UInt8.toNat y9):Int),task:=(↑(UInt8.toNat y10):Int),text:=emp,inputs:=bS (bc tx) n:Message}))) [[]]]<|J ⟨I,Zb6,I,I⟩<|W.cn<|J (fun h2=>?_) fun h2=>?_
    replace h2:=ndt h2
    refine g 104 106 []<|J Zeb<|RT ?_
    rotate_left
    replace h2:=ndf h2
    refine W.skip<|g 6 107 []<|J Zeb<|RT ?_
    rotate_left
    ·exact congrArg eu (ld h0 (fun h=>by rw[em]at h;exact absurd h.1 AS)).symm
    ·have hok:bx ⟨y1.toNat,y2.toNat,y3.toNat,(y4.toNat:Int) * 256+y5.toNat,(y6.toNat:Int) * 16777216+ (y7.toNat:Int) * 65536+ (y8.toNat:Int) * 256+y9.toNat,y10.toNat,emp,bS (bc tx) n⟩:=by assumption
     exact congrArg eu (wM h0 OM (Decidable.not_not.1 hs) em hok ((hbi (by rw[em];exact hok)).2 ⟨by omega,fun h=>by omega⟩)).symm
end Go.K
end
section
open Go Go.Tm Go.Proofs
namespace Go.K
structure Acted where
 worker:Worker
 out:List Message
 deriving DecidableEq
abbrev pG(x:Acted):V:=.agg [.t (.i x.worker.number),.t (.i x.worker.epoch),.t (.b x.worker.up),.t (.i x.worker.state),.t (.i x.worker.lease),.t (.i x.worker.task),.t (.i x.worker.cost),.t (.i x.worker.left),.own [false] (x.worker.inputs.map ak),.t (.s x.worker.text),.t (.i x.worker.since),.own ca (x.out.map aF)]
abbrev wU:Acted:=⟨⟨0,0,false,0,0,0,0,0,[],emp,0⟩,[]⟩
def dn(w:Worker)(k:Int):Message:=⟨k,w.number,0,w.epoch,if k = 5 then 0 else w.lease,if k = 3 then w.task else 0,if k = 3 then w.text else emp,[]⟩
theorem bD(w:Worker)(k:Int)(hk:k = 2∨k = 3∨k = 5):F pM [.val (eC w),.val (.i k)] (bu (dn w k)) [[],[]]:=by
 rcases hk with rfl|rfl|rfl
 ·refine fm ?_
  conv=>whnf
  refine g 0 0 []<|J Zd5<|g 6 12 []<|J ⟨I,I,I,I,I,I,I,UH,I⟩<|W.sq<|g 0 1 []<|J UB<|W.cn<|J (fun _=>(rg []<|J UW (W.sq (g 12 18 []<|J UB (W.cn<|J (noT rfl) fun _=>(W.skip (g 5 26 []<|J ⟨I,UH,I⟩ (RT ?_)))))))) (noF rfl)
  rfl
 ·refine fm ?_
  conv=>whnf
  refine g 0 0 []<|J Zd5<|g 6 12 []<|J ⟨I,I,I,I,I,I,I,UH,I⟩<|W.sq<|g 0 1 []<|J UB<|W.cn<|J (fun _=>(rg []<|J UW (W.sq (g 12 18 []<|J UB (W.cn<|J (fun _=>(rgd [[],[],[],[],[],[],[],[]] ?_)) (noF rfl)))))) (noF rfl)
  conv=>whnf
  refine⟨⟨I,I,I,I,I,UA,I,UA,I⟩,by kernel_rfl,?_⟩
  refine g 5 26 []<|J ⟨I,UH,I⟩<|RT ?_
  rfl
 ·refine fm ?_
  conv=>whnf
  refine g 0 0 []<|J Zd5<|g 6 12 []<|J ⟨I,I,I,I,I,I,I,UH,I⟩<|W.sq<|g 0 1 []<|J UB<|W.cn<|J (noT rfl) fun _=>W.skip<|W.sq<|g 12 18 []<|J UB<|W.cn<|J (noT rfl) fun _=>W.skip<|g 5 26 []<|J ⟨I,UH,I⟩<|RT ?_
  rfl
def vP(ts:List Task)(k:Int):ByteArray:=((ts[k.toNat]?).map Task.name).getD emp
def aM(w:Worker):Int:=if w.since < 1000000 then w.since+1 else w.since
def fw(w:Worker)(ts:List Task):Worker:=⟨w.number,w.epoch,w.up,2,w.lease,w.task,0,w.left - 1,[],bR (vP ts w.task) w.inputs,0⟩
def bX(w:Worker)(s:Int):Worker:=⟨w.number,w.epoch,w.up,w.state,w.lease,w.task,w.cost,w.left,w.inputs,w.text,s⟩
def mg(w:Worker):Worker:=⟨w.number,w.epoch,w.up,w.state,w.lease,w.task,w.cost,w.left - 1,w.inputs,w.text,w.since⟩
def u0(w:Worker)(k:Int):Acted:=⟨bX w 0,[dn (bX w 0) k]⟩
def dx(w:Worker)(ts:List Task):Acted :=
 if w.up = false then⟨w,[]⟩else
 if w.state = 1 then
  if w.left - 1 = 0 then⟨fw w ts,[dn (fw w ts) 3]⟩
  else if 4≤aM w then u0 (mg w) 2 else⟨bX (mg w) (aM w),[]⟩
 else if w.state = 2 then(if 4≤aM w then u0 w 3 else⟨bX w (aM w),[]⟩)
 else if 3≤aM w then u0 w 5 else⟨bX w (aM w),[]⟩
theorem Et{w:Worker}(h:ar w):(1≤w.number∧w.number≤8)∧(1≤w.epoch∧w.epoch≤300)∧(0≤w.since∧w.since≤1000000):=⟨h.1,h.2.1,h.2.2.1⟩
theorem wS{w:Worker}(h:ar w)(h1:w.state = 1):dC w:=by
 rcases h.2.2.2.2 with q|q|q
 ·have:=q.1;omega
 ·exact q
 ·have:=q.1;omega
theorem xY{w:Worker}(h:ar w):w.state = 0∨w.state = 1∨w.state = 2:=by
 rcases h.2.2.2.2 with q|q|q
 ·exact .inl q.1
 ·exact .inr (.inl q.1)
 ·exact .inr (.inr q.1)
theorem tR{w:Worker}{ts:List Task}(h:w.up = false):dx w ts = ⟨w,[]⟩:=if_pos h
theorem kX{w:Worker}{ts:List Task}(h:¬w.up = false)(h1:w.state = 1)(h2:w.left - 1 = 0):dx w ts = ⟨fw w ts,[dn (fw w ts) 3]⟩:=by rw[dx,if_neg h,if_pos h1,if_pos h2]
theorem kY{w:Worker}{ts:List Task}(h:¬w.up = false)(h1:w.state = 1)(h2:¬w.left - 1 = 0)(h4:4≤aM w):dx w ts = u0 (mg w) 2:=by rw[dx,if_neg h,if_pos h1,if_neg h2,if_pos h4]
theorem tS{w:Worker}{ts:List Task}(h:¬w.up = false)(h1:w.state = 1)(h2:¬w.left - 1 = 0)(h4:¬4≤aM w):dx w ts = ⟨bX (mg w) (aM w),[]⟩:=by rw[dx,if_neg h,if_pos h1,if_neg h2,if_neg h4]
theorem kV{w:Worker}{ts:List Task}(h:¬w.up = false)(h1:w.state = 2)(h4:4≤aM w):dx w ts = u0 w 3:=by rw[dx,if_neg h,if_neg OM,if_pos h1,if_pos h4]
theorem qg{w:Worker}{ts:List Task}(h:¬w.up = false)(h1:w.state = 2)(h4:¬4≤aM w):dx w ts = ⟨bX w (aM w),[]⟩:=by rw[dx,if_neg h,if_neg OM,if_pos h1,if_neg h4]
theorem kW{w:Worker}{ts:List Task}(h:¬w.up = false)(h1:w.state = 0)(h4:3≤aM w):dx w ts = u0 w 5:=by rw[dx,if_neg h,if_neg OM,if_neg OM,if_pos h4]
theorem qh{w:Worker}{ts:List Task}(h:¬w.up = false)(h1:w.state = 0)(h4:¬3≤aM w):dx w ts = ⟨bX w (aM w),[]⟩:=by rw[dx,if_neg h,if_neg OM,if_neg OM,if_neg h4]
theorem B0{ts:List Task}{k:Int}{t:Task}(h:ts[k.toNat]? = some t):vP ts k = t.name:=by unfold vP;rw[h];rfl
theorem ED{ts:List Task}{k:Int}(h:ts[k.toNat]? = none):vP ts k = emp:=by unfold vP;rw[h];rfl
theorem AK{w:Worker}(h:dC w):w.inputs.length≤8∧(∀ s∈w.inputs,s.size≤1048576)∧fB w.inputs≤64:=by
 obtain⟨h1,h2⟩:=h.2.2.2.2.1
 have:=xT (xs:=w.inputs) fun s hs=>Nat.le_of_eq (h1 s hs)
 exact⟨h2,fun s hs=>by have:=h1 s hs;omega,by omega⟩
noncomputable def ev(w:Worker)(p:Plan):Acted:=if ar w∧ah p.tasks = 0 then dx w p.tasks else wU
theorem cU{w:Worker}{p:Plan}(h:ar w)(h2:ah p.tasks = 0):ev w p = dx w p.tasks:=if_pos ⟨h,h2⟩
theorem pX(w:Worker)(p:Plan)(h:ar w)(hc:ah p.tasks = 0):F pL [.val (aB w),.val (cE p)] (pG (dx w p.tasks)) [[],[]]:=by
 obtain⟨⟨f1,f2⟩,⟨f3,f4⟩,f5,f6⟩:=Et h
 by_cases hup:w.up = false
 ·refine aO ?_
  conv=>whnf
  refine g 0 0 []<|J Zb7<|W.sq<|g 7 9 []<|J UC<|W.cn<|J (fun _=>(g 9 12 []<|J ⟨I,I,UL,I⟩ (RT ?_))) (noF (nbT AS))
  rw[tR hup];rfl
 ·rcases xY h with h1|h1|h1
  ·skip
   by_cases hs:w.since < 1000000
   ·have e:aM w = w.since+1:=if_pos hs
    by_cases h4:3≤aM w
    ·have ct:=bD (bX w 0) 5 OM
     have h5:=h4
     rw[e]at h5
     refine aO ?_
     conv=>whnf
     refine g 0 0 []<|J Zb7<|W.sq<|g 7 9 []<|J UC<|W.cn<|J (noT SI) fun _=>W.skip<|W.sq<|g 9 14 []<|J UC<|W.cn<|J (fun _=>(rg [.i (w.since+1)]<|J Zbe (g 14 19 []<|J UA (W.sq (g 19 20 []<|J UB ?_))))) (noF tO)
     refine W.blk<|g 22 23 []<|J UB<|W.cn<|J (noT dO) fun _=>g 3 4 []<|J UB<|W.cn<|J (noT dO) fun _=>g 20 56 []<|J UB<|W.cn<|J (fun _=>(g 59 63 []<|J UC (W.cn<|J (fun _=>(rg []<|J UA (W.sq (g 63 65 []<|J UB ?_)))) (noF tO)))) (noF tO)
     refine W.cn<|J (noT rfl) fun _=>W.skip<|g 65 69 []<|J UV<|gd 5 75 [[],[],[],[.call (bu (dn (bX w 0) 5)) [[],[]]],[],[],[]] ?_
     conv=>whnf
     refine J Zao<|J KR<|RT ?_
     rw[kW hup h1 h4];rfl
    ·have h5:=h4
     rw[e]at h5
     refine aO ?_
     conv=>whnf
     refine g 0 0 []<|J Zb7<|W.sq<|g 7 9 []<|J UC<|W.cn<|J (noT SI) fun _=>W.skip<|W.sq<|g 9 14 []<|J UC<|W.cn<|J (fun _=>(rg [.i (w.since+1)]<|J Zbe (g 14 19 []<|J UA (W.sq (g 19 20 []<|J UB ?_))))) (noF tO)
     refine W.blk<|g 22 23 []<|J UB<|W.cn<|J (noT dO) fun _=>g 3 4 []<|J UB<|W.cn<|J (noT dO) fun _=>g 20 56 []<|J UB<|W.cn<|J (fun _=>(g 59 63 []<|J UC (W.cn<|J (noT dO) fun _=>(W.skip (W.sq (g 63 65 []<|J UB ?_)))))) (noF tO)
     refine W.cn<|J (fun _=>(g 65 68 []<|J ⟨I,I,UL,I⟩ (RT ?_))) (noF rfl)
     rw[qh hup h1 h4,e];rfl
   ·have e:aM w = w.since:=if_neg hs
    by_cases h4:3≤aM w
    ·have ct:=bD (bX w 0) 5 OM
     have h5:=h4
     rw[e]at h5
     refine aO ?_
     conv=>whnf
     refine g 0 0 []<|J Zb7<|W.sq<|g 7 9 []<|J UC<|W.cn<|J (noT SI) fun _=>W.skip<|W.sq<|g 9 14 []<|J UC<|W.cn<|J (noT dO) fun _=>W.skip<|g 14 15 []<|J UA<|W.sq<|g 19 20 []<|J UB ?_
     refine W.blk<|g 22 23 []<|J UB<|W.cn<|J (noT dO) fun _=>g 3 4 []<|J UB<|W.cn<|J (noT dO) fun _=>g 20 56 []<|J UB<|W.cn<|J (fun _=>(g 59 63 []<|J UC (W.cn<|J (fun _=>(rg []<|J UA (W.sq (g 63 65 []<|J UB ?_)))) (noF tO)))) (noF tO)
     refine W.cn<|J (noT rfl) fun _=>W.skip<|g 65 69 []<|J UV<|gd 5 75 [[],[],[],[.call (bu (dn (bX w 0) 5)) [[],[]]],[],[],[]] ?_
     conv=>whnf
     refine J Zao<|J KR<|RT ?_
     rw[kW hup h1 h4];rfl
    ·exfalso;omega
  ·have hb:=wS h h1
   obtain⟨hl8,hes,htt⟩:=AK hb
   obtain⟨_,⟨_,b3,b4⟩,⟨b5,b6⟩,⟨b7,b8⟩,_⟩:=hb
   by_cases hl:w.left - 1 = 0
   ·by_cases ht:w.task < p.tasks.length
    ·obtain⟨t,ht2⟩:=aj (xs:=p.tasks) (n:=w.task.toNat) OM
     obtain⟨⟨g1,g2⟩,_⟩:=bz hc ht2
     have cv:=rT t.name w.inputs OM OM hes
     have ct:=bD ⟨w.number,w.epoch,w.up,2,w.lease,w.task,0,w.left - 1,[],bR t.name w.inputs,0⟩ 3 OM
     refine aO ?_
     conv=>whnf
     refine g 0 0 []<|J Zb7<|W.sq<|g 7 9 []<|J UC<|W.cn<|J (noT SI) fun _=>W.skip<|W.sq<|g 9 14 []<|J UC<|W.cn<|J (fun h2=>?_) fun h2=>?_
     replace h2:=dt h2
     refine rg [.i (w.since+1)]<|J Zbe<|g 14 19 []<|J UA<|W.sq<|g 19 20 []<|J UB<|W.blk<|g 22 23 []<|J UB<|W.cn<|J (fun _=>(g 20 27 [.i (w.left - 1)]<|J Zbe (g 27 29 []<|J UC (W.cn<|J (fun _=>(g 29 30 []<|J UA (W.sq ?_))) (noF tO))))) (noF tO)
     refine g 30 35 []<|J UF<|W.cn<|J (fun _=>(rg [.x (aC t)]<|J Zc0 (g 6 51 [.call (V.s (bR t.name w.inputs)) [[],[]]]<|J ⟨I,I,I,Zam,I,UA,I,UA,I,UA,I,UA,I⟩ (rg []<|J UA (W.sq (g 3 4 []<|J UB (W.cn<|J (noT rfl) fun _=>(W.skip (g 64 69 []<|J UV (gd 5 75 [[],[],[],[.call (bu (dn {number:=w.number,epoch:=w.epoch,up:=w.up,state:=2,lease:=w.lease,task:=w.task,cost:=0,left:=w.left - 1,inputs:=[],text:=bR t.name w.inputs,since:=0:Worker} 3)) [[],[]]],[],[],[]] ?_)))))))))) (noF SI)
     conv=>whnf
     refine⟨Zao,by kernel_rfl,?_⟩
     refine RT ?_
     rotate_left
     replace h2:=df h2
     refine W.skip<|g 14 15 []<|J UA<|W.sq<|g 19 20 []<|J UB<|W.blk<|g 22 23 []<|J UB<|W.cn<|J (fun _=>(g 20 27 [.i (w.left - 1)]<|J Zbe (g 27 29 []<|J UC (W.cn<|J (fun _=>(g 29 30 []<|J UA (W.sq ?_))) (noF tO))))) (noF tO)
     refine g 30 35 []<|J UF<|W.cn<|J (fun _=>(rg [.x (aC t)]<|J Zc0 (g 6 51 [.call (V.s (bR t.name w.inputs)) [[],[]]]<|J ⟨I,I,I,Zam,I,UA,I,UA,I,UA,I,UA,I⟩ (rg []<|J UA (W.sq (g 3 4 []<|J UB (W.cn<|J (noT rfl) fun _=>(W.skip (g 64 69 []<|J UV (gd 5 75 [[],[],[],[.call (bu (dn {number:=w.number,epoch:=w.epoch,up:=w.up,state:=2,lease:=w.lease,task:=w.task,cost:=0,left:=w.left - 1,inputs:=[],text:=bR t.name w.inputs,since:=0:Worker} 3)) [[],[]]],[],[],[]] ?_)))))))))) (noF SI)
     conv=>whnf
     refine⟨Zao,by kernel_rfl,?_⟩
     refine RT ?_
     rotate_left
     all_goals (rw[kX hup h1 hl,fw,B0 ht2];rfl)
    ·have ht2:p.tasks[w.task.toNat]? = none:=List.getElem?_eq_none OM
     have cv:=rT emp w.inputs (by decide) OM hes
     have ct:=bD ⟨w.number,w.epoch,w.up,2,w.lease,w.task,0,w.left - 1,[],bR emp w.inputs,0⟩ 3 OM
     refine aO ?_
     conv=>whnf
     refine g 0 0 []<|J Zb7<|W.sq<|g 7 9 []<|J UC<|W.cn<|J (noT SI) fun _=>W.skip<|W.sq<|g 9 14 []<|J UC<|W.cn<|J (fun h2=>?_) fun h2=>?_
     replace h2:=dt h2
     refine rg [.i (w.since+1)]<|J Zbe<|g 14 19 []<|J UA<|W.sq<|g 19 20 []<|J UB<|W.blk<|g 22 23 []<|J UB<|W.cn<|J (fun _=>(g 20 27 [.i (w.left - 1)]<|J Zbe (g 27 29 []<|J UC (W.cn<|J (fun _=>(g 29 30 []<|J UA (W.sq ?_))) (noF tO))))) (noF tO)
     refine g 30 35 []<|J UF<|W.cn<|J (noT SI) fun _=>W.skip<|g 6 51 [.call (V.s (bR emp w.inputs)) [[],[]]]<|J ⟨I,I,I,Zam,I,UA,I,UA,I,UA,I,UA,I⟩<|rg []<|J UA<|W.sq<|g 3 4 []<|J UB<|W.cn<|J (noT rfl) fun _=>W.skip<|g 64 69 []<|J UV<|gd 5 75 [[],[],[],[.call (bu (dn {number:=w.number,epoch:=w.epoch,up:=w.up,state:=2,lease:=w.lease,task:=w.task,cost:=0,left:=w.left - 1,inputs:=[],text:=bR emp w.inputs,since:=0:Worker} 3)) [[],[]]],[],[],[]] ?_
     conv=>whnf
     refine J Zao<|J KR<|RT ?_
     rotate_left
     replace h2:=df h2
     refine W.skip<|g 14 15 []<|J UA<|W.sq<|g 19 20 []<|J UB<|W.blk<|g 22 23 []<|J UB<|W.cn<|J (fun _=>(g 20 27 [.i (w.left - 1)]<|J Zbe (g 27 29 []<|J UC (W.cn<|J (fun _=>(g 29 30 []<|J UA (W.sq ?_))) (noF tO))))) (noF tO)
     refine g 30 35 []<|J UF<|W.cn<|J (noT SI) fun _=>W.skip<|g 6 51 [.call (V.s (bR emp w.inputs)) [[],[]]]<|J ⟨I,I,I,Zam,I,UA,I,UA,I,UA,I,UA,I⟩<|rg []<|J UA<|W.sq<|g 3 4 []<|J UB<|W.cn<|J (noT rfl) fun _=>W.skip<|g 64 69 []<|J UV<|gd 5 75 [[],[],[],[.call (bu (dn {number:=w.number,epoch:=w.epoch,up:=w.up,state:=2,lease:=w.lease,task:=w.task,cost:=0,left:=w.left - 1,inputs:=[],text:=bR emp w.inputs,since:=0:Worker} 3)) [[],[]]],[],[],[]] ?_
     conv=>whnf
     refine J Zao<|J KR<|RT ?_
     rotate_left
     all_goals (rw[kX hup h1 hl,fw,ED ht2];rfl)
   ·skip
    by_cases hs:w.since < 1000000
    ·have e:aM w = w.since+1:=if_pos hs
     by_cases h4:4≤aM w
     ·have ct:=bD (bX (mg w) 0) 2 OM
      have h5:=h4
      rw[e]at h5
      refine aO ?_
      conv=>whnf
      refine g 0 0 []<|J Zb7<|W.sq<|g 7 9 []<|J UC<|W.cn<|J (noT SI) fun _=>W.skip<|W.sq<|g 9 14 []<|J UC<|W.cn<|J (fun _=>(rg [.i (w.since+1)]<|J Zbe (g 14 19 []<|J UA (W.sq (g 19 20 []<|J UB ?_))))) (noF tO)
      refine W.blk<|g 22 23 []<|J UB<|W.cn<|J (fun _=>(g 20 27 [.i (w.left - 1)]<|J Zbe (g 27 29 []<|J UC (W.cn<|J (noT dO) fun _=>(g 29 53 []<|J UC (W.cn<|J (fun _=>(rg []<|J UA (W.sq (g 53 65 []<|J UB (W.cn<|J (noT rfl) fun _=>?_))))) (noF tO))))))) (noF tO)
      refine W.skip<|g 65 69 []<|J UV<|gd 5 75 [[],[],[],[.call (bu (dn (bX (mg w) 0) 2)) [[],[]]],[],[],[]] ?_
      conv=>whnf
      refine J Zao<|J KR<|RT ?_
      rw[kY hup h1 hl h4];rfl
     ·have h5:=h4
      rw[e]at h5
      refine aO ?_
      conv=>whnf
      refine g 0 0 []<|J Zb7<|W.sq<|g 7 9 []<|J UC<|W.cn<|J (noT SI) fun _=>W.skip<|W.sq<|g 9 14 []<|J UC<|W.cn<|J (fun _=>(rg [.i (w.since+1)]<|J Zbe (g 14 19 []<|J UA (W.sq (g 19 20 []<|J UB ?_))))) (noF tO)
      refine W.blk<|g 22 23 []<|J UB<|W.cn<|J (fun _=>(g 20 27 [.i (w.left - 1)]<|J Zbe (g 27 29 []<|J UC (W.cn<|J (noT dO) fun _=>(g 29 53 []<|J UC (W.cn<|J (noT dO) fun _=>(W.skip (W.sq (g 53 65 []<|J UB (W.cn<|J (fun _=>?_) (noF rfl))))))))))) (noF tO)
      refine g 65 68 []<|J ⟨I,I,UL,I⟩<|RT ?_
      rw[tS hup h1 hl h4,e];rfl
    ·have e:aM w = w.since:=if_neg hs
     by_cases h4:4≤aM w
     ·have ct:=bD (bX (mg w) 0) 2 OM
      have h5:=h4
      rw[e]at h5
      refine aO ?_
      conv=>whnf
      refine g 0 0 []<|J Zb7<|W.sq<|g 7 9 []<|J UC<|W.cn<|J (noT SI) fun _=>W.skip<|W.sq<|g 9 14 []<|J UC<|W.cn<|J (noT dO) fun _=>W.skip<|g 14 15 []<|J UA<|W.sq<|g 19 20 []<|J UB ?_
      refine W.blk<|g 22 23 []<|J UB<|W.cn<|J (fun _=>(g 20 27 [.i (w.left - 1)]<|J Zbe (g 27 29 []<|J UC (W.cn<|J (noT dO) fun _=>(g 29 53 []<|J UC (W.cn<|J (fun _=>(rg []<|J UA (W.sq (g 53 65 []<|J UB (W.cn<|J (noT rfl) fun _=>?_))))) (noF tO))))))) (noF tO)
      refine W.skip<|g 65 69 []<|J UV<|gd 5 75 [[],[],[],[.call (bu (dn (bX (mg w) 0) 2)) [[],[]]],[],[],[]] ?_
      conv=>whnf
      refine J Zao<|J KR<|RT ?_
      rw[kY hup h1 hl h4];rfl
     ·exfalso;omega
  ·skip
   by_cases hs:w.since < 1000000
   ·have e:aM w = w.since+1:=if_pos hs
    by_cases h4:4≤aM w
    ·have ct:=bD (bX w 0) 3 OM
     have h5:=h4
     rw[e]at h5
     refine aO ?_
     conv=>whnf
     refine g 0 0 []<|J Zb7<|W.sq<|g 7 9 []<|J UC<|W.cn<|J (noT SI) fun _=>W.skip<|W.sq<|g 9 14 []<|J UC<|W.cn<|J (fun _=>(rg [.i (w.since+1)]<|J Zbe (g 14 19 []<|J UA (W.sq (g 19 20 []<|J UB ?_))))) (noF tO)
     refine W.blk<|g 22 23 []<|J UB<|W.cn<|J (noT dO) fun _=>g 3 4 []<|J UB<|W.cn<|J (fun _=>(g 20 58 []<|J UC (W.cn<|J (fun _=>(rg []<|J UA (W.sq (g 58 65 []<|J UB (W.cn<|J (noT rfl) fun _=>(W.skip ?_)))))) (noF tO)))) (noF tO)
     refine g 65 69 []<|J UV<|gd 5 75 [[],[],[],[.call (bu (dn (bX w 0) 3)) [[],[]]],[],[],[]] ?_
     conv=>whnf
     refine J Zao<|J KR<|RT ?_
     rw[kV hup h1 h4];rfl
    ·have h5:=h4
     rw[e]at h5
     refine aO ?_
     conv=>whnf
     refine g 0 0 []<|J Zb7<|W.sq<|g 7 9 []<|J UC<|W.cn<|J (noT SI) fun _=>W.skip<|W.sq<|g 9 14 []<|J UC<|W.cn<|J (fun _=>(rg [.i (w.since+1)]<|J Zbe (g 14 19 []<|J UA (W.sq (g 19 20 []<|J UB ?_))))) (noF tO)
     refine W.blk<|g 22 23 []<|J UB<|W.cn<|J (noT dO) fun _=>g 3 4 []<|J UB<|W.cn<|J (fun _=>(g 20 58 []<|J UC (W.cn<|J (noT dO) fun _=>(W.skip (W.sq (g 58 65 []<|J UB (W.cn<|J (fun _=>(g 65 68 []<|J ⟨I,I,UL,I⟩ ?_)) (noF rfl)))))))) (noF tO)
     refine RT ?_
     rw[qg hup h1 h4,e];rfl
   ·have e:aM w = w.since:=if_neg hs
    by_cases h4:4≤aM w
    ·have ct:=bD (bX w 0) 3 OM
     have h5:=h4
     rw[e]at h5
     refine aO ?_
     conv=>whnf
     refine g 0 0 []<|J Zb7<|W.sq<|g 7 9 []<|J UC<|W.cn<|J (noT SI) fun _=>W.skip<|W.sq<|g 9 14 []<|J UC<|W.cn<|J (noT dO) fun _=>W.skip<|g 14 15 []<|J UA<|W.sq<|g 19 20 []<|J UB ?_
     refine W.blk<|g 22 23 []<|J UB<|W.cn<|J (noT dO) fun _=>g 3 4 []<|J UB<|W.cn<|J (fun _=>(g 20 58 []<|J UC (W.cn<|J (fun _=>(rg []<|J UA (W.sq (g 58 65 []<|J UB (W.cn<|J (noT rfl) fun _=>(W.skip ?_)))))) (noF tO)))) (noF tO)
     refine g 65 69 []<|J UV<|gd 5 75 [[],[],[],[.call (bu (dn (bX w 0) 3)) [[],[]]],[],[],[]] ?_
     conv=>whnf
     refine J Zao<|J KR<|RT ?_
     rw[kV hup h1 h4];rfl
    ·exfalso;omega
end Go.K
end
section
open Go Go.Tm Go.Proofs
namespace Go.K
theorem tJ(b:Boss)(h1:b.log.safe.length≤1048576)(h2:b.log.loose.length≤1048576)(h3:b.results.length≤1048576)(h4:b.jobs.length≤1048576)(h5:b.seats.length≤1048576)(h6:b.owed.length≤1048576):F kD [.val (gS b)] (aG b) [[]]:=by
 refine tC ?_
 conv=>whnf
 refine g 0 0 []<|J ⟨UL,I,I⟩<|gd 3 13 [[],[],[],[.call (V.own [false] (List.map ak b.log.safe)) [[]]],[],[],[],[.call (V.own [false] (List.map ak b.log.loose)) [[]]],[],[],[]] ?_
 conv=>whnf
 refine J ⟨I,I,I,⟨UA,I,US,UA,dX _ OM⟩,I,I,I,⟨UA,I,US,UA,dX _ OM⟩,I,I,UB,I⟩<|J KR<|g 13 17 [.call (V.own [false] (List.map ak b.results)) [[]]]<|J ⟨I,I,⟨UA,I,US,UA,dX _ OM⟩,I,UA,I⟩<|g 17 22 []<|J Zb9<|g 22 27 []<|J Zb9<|g 27 32 []<|J Zb9<|g 0 2 []<|J Zdq<|RT ?_
 rfl
def gt(k:Int)(n:Nat):Nat:=if k < 0 then 0 else if k < n then k.toNat else n
theorem B9(k:Int)(n:Nat):gt k n≤n:=by
 unfold gt;split
 ·omega
 ·split <;> omega
theorem PN(k:Int)(n:Nat):max 0 (min k (n:Int)) = (gt k n:Int):=by
 unfold gt;split
 ·omega
 ·split <;> omega
theorem Rv(k:Int)(n:Nat)(h:n≤1048576):IntKind.i64.wrap (max 0 (min k (n:Int))) = (gt k n:Int):=by
 rw[PN]
 have:=B9 k n
 exact wO
def fh(b:Boss)(k:Int):Boss:=if b.up = false then b else⟨b.workers,false,b.now,0,0,0,⟨b.log.safe++b.log.loose.take (gt k b.log.loose.length),[]⟩,[],[],[],[]⟩
theorem lj{b:Boss}{k:Int}(h:b.up = false):fh b k = b:=if_pos h
theorem tD{b:Boss}{k:Int}(h:¬b.up = false):fh b k = ⟨b.workers,false,b.now,0,0,0,⟨b.log.safe++b.log.loose.take (gt k b.log.loose.length),[]⟩,[],[],[],[]⟩:=if_neg h
theorem kQ(b:Boss)(k:Int)(h1:b.log.safe.length≤1048576)(h2:b.log.loose.length≤1048576):F te [.ptr (cellsOf (aG b)),.val (.i k)] (.tup []) [cellsOf (aG (fh b k)),[]]:=by
 by_cases hup:b.up = false
 ·rw[lj hup]
  refine kJ ?_
  conv=>whnf
  refine g 4 6 []<|J UD<|W.cn<|J (noT AS) fun _=>W.skip<|EndsW.nm<|J I (J ?_ rfl)
  rfl
 ·rw[tD hup]
  have hcl:=B9 k b.log.loose.length
  have hw:IntKind.i64.wrap (max 0 (min k ((List.map ak b.log.loose).length:Int))) = (gt k b.log.loose.length:Int):=by rw[List.length_map];exact Rv _ _ h2
  refine kJ ?_
  conv=>whnf
  refine g 4 6 []<|J UD<|W.cn<|J (fun _=>(g 7 17 [.i (match false with|true=>max k (↑(List.length (List.map ak b.log.loose)):Int)|false=>min k (↑(List.length (List.map ak b.log.loose)):Int)),.i (IntKind.wrap IntKind.i64   (match true with   |true =>     max 0       (match false with       |true=>max k (↑(List.length (List.map ak b.log.loose)):Int)       |false=>min k (↑(List.length (List.map ak b.log.loose)):Int))   |false =>     min 0       (match false with       |true=>max k (↑(List.length (List.map ak b.log.loose)):Int)       |false=>min k (↑(List.length (List.map ak b.log.loose)):Int))))]<|J ⟨I,I,I,I,I,I,I,rfl,w64 LN LN,I,I⟩ (rgd [[],[],[],[],[],[],[],[],[],[],[],[],[],[],[],[],[],[],[],[],[.n (gt k (List.length b.log.loose))],[],[],[],[],[]] ?_))) (noF SI)
  conv=>whnf
  refine⟨⟨I,I,I,I,I,I,I,I,I,I,I,I,I,I,I,I,I,I,I,I,⟨I,hw,I,OM,LN⟩,Zdi,I,I,I,UL,I⟩,by kernel_rfl,?_⟩
  refine EndsW.nm<|J I<|J ?_ ?_
  rfl
  all_goals (simp only[List.nil_append,List.drop_zero,List.length_map,←List.map_take,←List.map_append];rfl)
structure BossLim (b:Boss):Prop where
 safe:b.log.safe.length≤1048576
 loose:b.log.loose.length≤1048576
 all:∀ s∈b.log.safe++b.log.loose,s.size≤281474976710656
 res:b.results.length≤1048576
 jobs:b.jobs.length≤1048576
 seats:b.seats.length≤1048576
 owed:b.owed.length≤1048576
theorem yi(b:Boss)(p:Plan)(hp:cQ p)(h:BossLim b):F kC [.val (gS b),.val (cE p)] (.b (decide (BossOk b p))) [[],[]]:=tH b p hp h.safe h.loose h.all h.res h.jobs h.seats h.owed
theorem nZ(b:Boss)(p:Plan)(hp:cQ p)(h:BossLim b):F kB [.val (gS b),.val (cE p)] (.b (decide (BossOk b p))) [[],[]]:=tF b p hp h.safe h.loose h.all h.res h.jobs h.seats h.owed
theorem Ca(b:Boss)(h:BossLim b):F kD [.val (gS b)] (aG b) [[]]:=tJ b h.safe h.loose h.res h.jobs h.seats h.owed
noncomputable def oC(b:Boss)(p:Plan)(k:Int):Boss:=if BossOk b p then fh b k else j7
theorem lM{b:Boss}{p:Plan}{k:Int}(h:BossOk b p):oC b p k = fh b k:=if_pos h
end Go.K
end
section
open Go Go.Tm Go.Proofs
namespace Go.K
abbrev cH(w now:Int)(safe:List ByteArray):Boss:=⟨w,false,now,0,0,0,⟨safe,[]⟩,[],[],[],[]⟩
theorem IV{b:Boss}(hup:b.up = false)(d:DownOk b):b = cH b.workers b.now b.log.safe:=by
 obtain⟨w,up,now,since,ep,given,⟨safe,loose⟩,rs,js,ss,ow⟩:=b
 obtain⟨d1,d2,d3,d4,d5,d6,d7,d8⟩:=d
 simp only at hup d1 d2 d3 d4 d5 d6 d7 d8
 subst hup d2 d3 d4
 rw[List.eq_nil_of_length_eq_zero d1,List.eq_nil_of_length_eq_zero d5,List.eq_nil_of_length_eq_zero d6,List.eq_nil_of_length_eq_zero d7,List.eq_nil_of_length_eq_zero d8]
def epE(n:Int):Entry:=⟨1,n,0,emp⟩
def upB(w now:Int)(safe:List ByteArray)(p:Plan)(st:Story):Boss:=⟨w,true,now,0,st.epoch+1,0,⟨safe++ [cq (epE (st.epoch+1))],[]⟩,st.results,List.replicate p.tasks.length ga,List.replicate w.toNat jZ,[]⟩
def mY(b:Boss)(p:Plan):Prop:=b.up = false∧b.log.safe.length < 310∧(am p b.log.safe).epoch < 300
noncomputable instance (b:Boss) (p:Plan):Decidable (mY b p):=Classical.propDecidable _
noncomputable def aY(b:Boss)(p:Plan):Boss:=if mY b p then upB b.workers b.now b.log.safe p (am p b.log.safe)else b
theorem lz{b:Boss}{p:Plan}(h:¬mY b p):aY b p = b:=if_neg h
theorem vO{b:Boss}{p:Plan}(h:mY b p):aY b p = upB b.workers b.now b.log.safe p (am p b.log.safe):=if_pos h
theorem Pm(n:Nat):(List.replicate n ga).map aV = List.replicate n (aV ga):=List.map_replicate
theorem Ly(n:Nat):(List.replicate n jZ).map aR = List.replicate n (aR jZ):=List.map_replicate
theorem DZ(w now:Int)(safe:List ByteArray)(p:Plan)(st:Story):aG (upB w now safe p st) = .agg [.t (.i w),.t (.b true),.t (.i now),.t (.i 0),.t (.i (st.epoch+1)),.t (.i 0),.own [false] (safe.map ak++ [ak (cq ⟨1,st.epoch+1,0,emp⟩)]),.own [false] [],.own [false] (st.results.map ak),.own fv ((List.replicate p.tasks.length ga).map aV),.own cM ((List.replicate w.toNat jZ).map aR),.own cN []]:=by
 simp only[aG,upB,List.map_append];rfl
theorem uV(w now:Int)(safe:List ByteArray)(p:Plan)(hp:cQ p)(hw:1≤w∧w≤8)(hs:∀ s∈safe,s.size≤281474976710656)(hc:(am p safe).code = 0):F gy [.ptr [.t (.i w),.t (.b false),.t (.i now),.t (.i 0),.t (.i 0),.t (.i 0),.own [false] (safe.map ak),.own [false] [],.own [false] [],.own fv [],.own cM [],.own cN []],.val (cE p)] (.tup []) [cellsOf (aG (aY (cH w now safe) p)),[]]:=by
 obtain⟨hck,hl,_,_⟩:=bL hc
 obtain⟨he1,he2⟩:=eS hc
 have hpl:=(bP hck).1
 have cr:=pA p safe hp hs OM
 by_cases hl2:safe.length < 310
 ·by_cases he:(am p safe).epoch < 300
  ·rw[vO ⟨rfl,hl2,he⟩]
   have cf:=kO 1 ((am p safe).epoch+1) 0 emp (by decide)
   rw[Ib]at cf
   rw[DZ]
   refine eJ ?_
   conv=>whnf
   refine g 0 0 []<|J US<|W.sq<|g 5 17 [BF,BF,BF,BF,BF,BF,BF,BF]<|J Zca<|W.cn<|J (fun h1=>?_) fun h1=>?_
   replace h1:=dt h1
   simp only[LM]at h1
   omega
   replace h1:=df h1
   simp only[LM]at h1
   refine W.skip<|gd 17 25 [[],[],[],[],[],[],[.call (gj (am p safe)) [[],[]]],[],[]] ?_
   conv=>whnf
   refine J ⟨I,I,I,I,I,I,Zam,I,UC,I⟩<|J KR<|W.sq<|g 25 27 []<|J UC<|W.cn<|J (noT dO) fun _=>W.skip<|gd 4 42 [[],[],[],[],[],[.i (Story.epoch (am p safe) +1)],[],[],[],[],[],[],[],[],[],[],[]] ?_
   conv=>whnf
   refine J ⟨I,I,I,I,I,wO,I,I,I,I,UA,I,I,UA,I,I,UA,I⟩<|J KR<|gd 42 59 [[],[],[],[],[],[],[],[],[],[],[],[.call (V.s (cq {kind:=1,epoch:=Story.epoch (am p safe) +1,task:=0,text:=emp:Entry})) [[]]],[],[],[],[],[],[]] ?_
   conv=>whnf
   refine J ⟨I,I,I,I,I,I,I,I,I,I,I,Zdb,US,Zdi,I,I,I,UA,I⟩<|J KR<|rgd [[],[],[],[],[],[.n (List.length (List.map aC p.tasks))],[],[],[],[],[.n (Int.toNat w)],[],[],[],[],[],[]] ?_
   conv=>whnf
   refine J ⟨I,I,I,I,I,⟨rfl,rfl,LN⟩,I,I,I,I,⟨OM,OM,LN⟩,I,I,UA,I,I,UA,I⟩<|J KR<|EndsW.nm<|J I<|J ?_ ?_
   rfl
   simp only[List.length_map,Pm,Ly]
   rfl
  ·rw[lz (fun q=>he q.2.2)]
   refine eJ ?_
   conv=>whnf
   refine g 0 0 []<|J US<|W.sq<|g 5 17 [BF,BF,BF,BF,BF,BF,BF,BF]<|J Zca<|W.cn<|J (fun h1=>?_) fun h1=>?_
   replace h1:=dt h1
   simp only[LM]at h1
   omega
   replace h1:=df h1
   simp only[LM]at h1
   refine W.skip<|gd 17 25 [[],[],[],[],[],[],[.call (gj (am p safe)) [[],[]]],[],[]] ?_
   conv=>whnf
   refine J ⟨I,I,I,I,I,I,Zam,I,UC,I⟩<|J KR<|W.sq<|g 25 27 []<|J UC<|W.cn<|J (fun _=>(RT ?_)) (noF tO)
   rfl
 ·rw[lz (fun q=>hl2 q.2.1)]
  refine eJ ?_
  conv=>whnf
  refine g 0 0 []<|J US<|W.sq<|g 5 17 [BF,BF,BF,BF,BF,BF,BF,BF]<|J Zca<|W.cn<|J (fun h1=>?_) fun h1=>?_
  replace h1:=dt h1
  simp only[LM]at h1
  refine RT ?_
  rfl
  replace h1:=df h1
  simp only[LM]at h1
  omega
theorem kP(b:Boss)(p:Plan)(hp:cQ p)(hw:1≤b.workers∧b.workers≤8)(hs:∀ s∈b.log.safe,s.size≤281474976710656)(hd:b.up = false→DownOk b∧(am p b.log.safe).code = 0):F gy [.ptr (cellsOf (aG b)),.val (cE p)] (.tup []) [cellsOf (aG (aY b p)),[]]:=by
 by_cases hup:b.up = false
 ·obtain⟨d,hc⟩:=hd hup
  have e:=IV hup d
  have:F gy [.ptr (cellsOf (aG (cH b.workers b.now b.log.safe))),.val (cE p)] (.tup []) [cellsOf (aG (aY (cH b.workers b.now b.log.safe) p)),[]]:=uV b.workers b.now b.log.safe p hp hw hs hc
  rw[←e]at this
  exact this
 ·rw[lz (fun q=>hup q.1)]
  refine eJ ?_
  conv=>whnf
  refine g 0 0 []<|J US<|W.sq<|g 5 17 [BT,BT,BT,BT,BT,BT,BT,BT]<|J ⟨I,I,I,I,I,SI,SI,SI,SI,SI,SI,SI,SI,I⟩<|W.cn<|J (fun _=>(RT ?_)) (noF rfl)
  rfl
noncomputable def oB(b:Boss)(p:Plan):Boss:=if BossOk b p then aY b p else j7
theorem jD{b:Boss}{p:Plan}(h:BossOk b p):oB b p = aY b p:=if_pos h
theorem sN{b:Boss}{p:Plan}(h:BossOk b p):b.up = false→DownOk b∧(am p b.log.safe).code = 0:=by
 intro hup
 have d:=h.down hup
 have hc:=h.code
 have e:=List.eq_nil_of_length_eq_zero d.loose
 rw[bU,e,List.append_nil]at hc
 exact⟨d,hc⟩
end Go.K
end
section
open Go Go.Tm Go.Proofs
namespace Go.K
structure BossSmall (b:Boss):Prop where
 safe:b.log.safe.length≤4194304
 loose:b.log.loose.length≤4194304
 res:b.results.length≤4194304
 jobs:b.jobs.length≤4194304
 seats:b.seats.length≤4194304
 owed:b.owed.length≤4194304
theorem sd:BossSmall j7:=⟨by decide,by decide,by decide,by decide,by decide,by decide⟩
theorem tV{b:Boss}(h:BossLim b):BossSmall b:=by
 obtain⟨h1,h2,h3,h4,h5,h6,h7⟩:=h
 exact⟨by omega,by omega,by omega,by omega,by omega,by omega⟩
end Go.K
end
section
open Go Go.Tm Go.Proofs
namespace Go.K
structure Led where
 boss:Boss
 out:List Message
 deriving DecidableEq
abbrev Cs:Led:=⟨⟨0,false,0,0,0,0,⟨[],[]⟩,[],[],[],[]⟩,[]⟩
end Go.K
end
section
open Go Go.Tm Go.Proofs
namespace Go.K
def fu{α:Type}(f:α→α)(l:List α)(n:Nat):List α:=(l.take n).map f++l.drop n
theorem ii{α:Type}(f:α→α)(l:List α)(n:Nat):(fu f l n).length = l.length:=by simp[fu];omega
theorem ij{α:Type}(f:α→α)(l:List α){n:Nat}(h:l.length≤n):fu f l n = l.map f:=by
 rw[fu,List.take_of_length_le h,List.drop_of_length_le h,List.append_nil]
theorem EG{α:Type}(f:α→α){l:List α}{n:Nat}{x:α}(h:l[n]? = some x):(fu f l n)[n]? = some x:=by
 have hl:n < l.length:=(List.getElem?_eq_some_iff.1 h).1
 rw[fu,List.getElem?_append_right (by simp;omega)]
 simp only[List.length_map,List.length_take,List.getElem?_drop]
 rw[show n+ (n - min n l.length) = n by omega,h]
theorem EF{α:Type}{f:α→α}{l:List α}{n:Nat}{x:α}(h:l[n]? = some x):(fu f l n).set n (f x) = fu f l (n+1):=by
 obtain⟨hl,hx⟩:=List.getElem?_eq_some_iff.1 h
 unfold fu
 rw[List.drop_eq_getElem_cons hl,hx,List.set_append_right _ _ (by simp;omega),List.take_add_one,h]
 simp only[List.length_map,List.length_take,Option.toList_some,List.map_append,List.map_cons,List.map_nil,List.append_assoc,List.cons_append,List.nil_append]
 rw[show n - min n l.length = 0 by omega,List.set_cons_zero]
theorem li{α β:Type}{f:α→α}{g:α→β}{l:List α}{n:Nat}{x:α}(h:l[n]? = some x):((fu f l n).map g).set n (g (f x)) = (fu f l (n+1)).map g:=by
 rw[←List.map_set,EF h]
theorem aW{α β:Type}{f:α→α}{g:α→β}{l:List α}{n:Nat}{x:α}(h:l[n]? = some x):((fu f l n).map g)[n]? = some (g x):=by
 rw[List.getElem?_map,EG f h];rfl
theorem oo{α:Type}{f:α→α}{l:List α}{n:Nat}{x:α}(h:l[n]? = some x)(e:f x = x):fu f l n = fu f l (n+1):=by
 rw[←EF h,e]
 obtain⟨hl,hx⟩:=List.getElem?_eq_some_iff.1 (EG f h)
 have:=List.set_getElem_self hl
 rw[hx]at this;exact this.symm
structure Hand where
 given:Int
 jobs:List Job
 seats:List Seat
 out:List Message
def qH(now:Int)(j:Job):Job:=if j.til≤now then ga else j
def Gw(js:List Job)(i:Nat):Job:=(js[i]?).getD ga
def lx(ss:List Seat)(i:Nat):Seat:=(ss[i]?).getD jZ
def gM(ss:List Seat):Option Nat:=ss.findIdx? Seat.free
def Cr(b:Boss)(ts:List Task)(s i:Nat)(g:Int):Message:=⟨1,0,(s:Int) +1,b.epoch,(b.epoch - 1) * 1000000+g,i,emp,cF b.results (iv ts i)⟩
structure CanHand (b:Boss) (ts:List Task) (h:Hand) (i:Nat):Prop where
 res:atS b.results i = emp
 job:(Gw h.jobs i).lease = 0
 ready:cu b.results (iv ts i)
 given:h.given < 1000000
noncomputable instance (b:Boss) (ts:List Task) (h:Hand) (i:Nat):Decidable (CanHand b ts h i):=Classical.propDecidable _
def ki(b:Boss)(ts:List Task)(h:Hand)(i s:Nat):Hand:=⟨h.given+1,h.jobs.set i ⟨(b.epoch - 1) * 1000000+ (h.given+1),(s:Int) +1,b.now+12⟩,h.seats.set s ⟨false,(lx h.seats s).epoch⟩,h.out++ [Cr b ts s i (h.given+1)]⟩
noncomputable def Om(b:Boss)(ts:List Task)(i:Nat)(h:Hand):Hand :=
 if CanHand b ts h i then(match gM h.seats with|none=>h|some s=>ki b ts h i s)else h
noncomputable def aD(b:Boss)(ts:List Task):Nat→Hand
 |0=>⟨b.given,b.jobs,b.seats,[]⟩
 |n+1=>Om b ts n (aD b ts n)
theorem eY{b:Boss}{ts:List Task}{n:Nat}(h:¬CanHand b ts (aD b ts n) n):aD b ts (n+1) = aD b ts n:=if_neg h
theorem g8{b:Boss}{ts:List Task}{n:Nat}(h:gM (aD b ts n).seats = none):aD b ts (n+1) = aD b ts n:=by
 rw[aD,Om,h];simp
theorem gZ{b:Boss}{ts:List Task}{n s:Nat}(h:CanHand b ts (aD b ts n) n)(hf:gM (aD b ts n).seats = some s):aD b ts (n+1) = ki b ts (aD b ts n) n s:=by
 rw[aD,Om,if_pos h,hf]
theorem ou{ss:List Seat}{s:Nat}(h:gM ss = some s):∃ x,ss[s]? = some x∧x.free = true∧s < ss.length∧∀ (k:Nat) (y:Seat),k < s→ss[k]? = some y→y.free = false:=by
 obtain⟨h1,h2,h3⟩:=List.findIdx?_eq_some_iff_getElem.1 h
 refine⟨ss[s],List.getElem?_eq_getElem h1,h2,h1,fun k y hk hy=>?_⟩
 obtain⟨h4,h5⟩:=List.getElem?_eq_some_iff.1 hy
 have:=h3 k hk
 rw[h5]at this
 cases hb:y.free
 ·rfl
 ·exact absurd hb this
theorem Aw{ss:List Seat}(h:gM ss = none):∀ (k:Nat) (y:Seat),ss[k]? = some y→y.free = false:=by
 intro k y hy
 have:=List.findIdx?_eq_none_iff.1 h y (List.mem_of_getElem? hy)
 exact this
structure HandOk (b:Boss) (ts:List Task) (h:Hand) (n:Nat):Prop where
 jobs:h.jobs.length = b.jobs.length
 seats:h.seats.length = b.seats.length
 out:h.out.length≤n
 lo:0≤h.given
 hi:h.given≤1000000
 inputs:∀ m∈h.out,m.inputs.length≤8
theorem kK{b:Boss}{ts:List Task}(hd:∀ t∈ts,t.deps.length≤8)(h0:0≤b.given)(h1:b.given≤1000000):∀ n,HandOk b ts (aD b ts n) n
 |0=>⟨rfl,rfl,Nat.le_refl _,h0,h1,fun m hm=>by cases hm⟩
 |n+1=>by
  have ih:=kK hd h0 h1 n
  have up:HandOk b ts (aD b ts n) (n+1):=⟨ih.jobs,ih.seats,by have:=ih.out;omega,ih.lo,ih.hi,ih.inputs⟩
  by_cases hc:CanHand b ts (aD b ts n) n
  ·cases hf:gM (aD b ts n).seats with
   |none=>rw[g8 hf];exact up
   |some s =>
    rw[gZ hc hf]
    have e1:=ih.jobs
    have e2:=ih.seats
    have e3:=ih.out
    have e4:=ih.lo
    have e5:=hc.given
    refine⟨by simp only[ki,List.length_set];exact e1,by simp only[ki,List.length_set];exact e2,by simp only[ki,List.length_append,List.length_singleton];omega,by simp only[ki];omega,by simp only[ki];omega,fun m hm=>?_⟩
    rcases List.mem_append.1 hm with hm|hm
    ·exact ih.inputs m hm
    ·rw[List.mem_singleton.1 hm]
     show(cF _ _).length≤8
     rw[lf,iv]
     cases ht:ts[n]? with
     |none=>exact Nat.zero_le _
     |some t=>exact hd t (List.mem_of_getElem? ht)
  ·rw[eY hc];exact up
def Sg(b:Boss):Boss:=⟨b.workers,b.up,b.now+1,b.since,b.epoch,b.given,b.log,b.results,b.jobs,b.seats,b.owed⟩
def cG(b:Boss):Boss:=⟨b.workers,b.up,b.now+1,b.since,b.epoch,b.given,b.log,b.results,b.jobs.map (qH (b.now+1)),b.seats,b.owed⟩
def jf(ep:Int)(o:Owed):Message:=⟨4,0,o.worker,ep,o.lease,0,emp,[]⟩
noncomputable def endH(b:Boss)(ts:List Task):Hand:=aD (cG b) ts ts.length
noncomputable def ee(b:Boss)(ts:List Task):Led :=
 if b.now = 1000000 then⟨b,[]⟩else
 if b.up = false then⟨Sg b,[]⟩else
 if b.since+1 = 2 then⟨⟨b.workers,b.up,b.now+1,0,b.epoch,(endH b ts).given,⟨b.log.safe++b.log.loose,[]⟩,b.results,(endH b ts).jobs,(endH b ts).seats,[]⟩,(endH b ts).out++b.owed.map (jf b.epoch)⟩
 else⟨⟨b.workers,b.up,b.now+1,b.since+1,b.epoch,(endH b ts).given,b.log,b.results,(endH b ts).jobs,(endH b ts).seats,b.owed⟩,(endH b ts).out⟩
theorem jv{b:Boss}{ts:List Task}(h:b.now = 1000000):ee b ts = ⟨b,[]⟩:=if_pos h
theorem mM{b:Boss}{ts:List Task}(h:¬b.now = 1000000)(h2:b.up = false):ee b ts = ⟨Sg b,[]⟩:=by rw[ee,if_neg h,if_pos h2]
theorem fC{b:Boss}{ts:List Task}(h:¬b.now = 1000000)(h2:¬b.up = false)(h3:b.since+1 = 2):ee b ts = ⟨⟨b.workers,b.up,b.now+1,0,b.epoch,(endH b ts).given,⟨b.log.safe++b.log.loose,[]⟩,b.results,(endH b ts).jobs,(endH b ts).seats,[]⟩,(endH b ts).out++b.owed.map (jf b.epoch)⟩:=by rw[ee,if_neg h,if_neg h2,if_pos h3]
theorem gW{b:Boss}{ts:List Task}(h:¬b.now = 1000000)(h2:¬b.up = false)(h3:¬b.since+1 = 2):ee b ts = ⟨⟨b.workers,b.up,b.now+1,b.since+1,b.epoch,(endH b ts).given,b.log,b.results,(endH b ts).jobs,(endH b ts).seats,b.owed⟩,(endH b ts).out⟩:=by rw[ee,if_neg h,if_neg h2,if_neg h3]
noncomputable def mK(b:Boss)(p:Plan):Led:=if BossOk b p then ee b p.tasks else Cs
theorem jB{b:Boss}{p:Plan}(h:BossOk b p):mK b p = ee b p.tasks:=if_pos h
theorem yl{b:Boss}{p:Plan}(h:¬BossOk b p):mK b p = Cs:=if_neg h
end Go.K
end
section
open Go Go.Tm Go.Proofs
namespace Go.K
theorem IP{now:Int}{js:List Job}{n:Nat}{j:Job}(h:js[n]? = some j)(hd:j.til≤now):((fu (qH now) js n).map aV).set n (aV ga) = (fu (qH now) js (n+1)).map aV:=by
 have:=li (f:=qH now) (g:=aV) h
 rw[show qH now j = ga from if_pos hd]at this
 exact this
theorem NV{now:Int}{js:List Job}{n:Nat}{j:Job}(h:js[n]? = some j)(hd:¬j.til≤now):fu (qH now) js n = fu (qH now) js (n+1):=oo h (if_neg hd)
theorem uu{out:List Message}{ep:Int}{os:List Owed}{n:Nat}{o:Owed}(h:os[n]? = some o):(out++ (os.take n).map (jf ep)).map aF++ [aF (jf ep o)] = (out++ (os.take (n+1)).map (jf ep)).map aF:=by
 rw[List.take_add_one,h];simp
theorem tK(b:Boss)(p:Plan)(hv:BossOk b p)(h:BossLim b):F tc [.ptr (cellsOf (aG b)),.val (cE p)] (.own ca ((ee b p.tasks).out.map aF)) [cellsOf (aG (ee b p.tasks).boss),[]]:=by
 have hnow:=hv.now
 by_cases h0:b.now = 1000000
 ·rw[jv h0]
  refine gz ?_
  conv=>whnf
  refine g 0 0 []<|J Zdu<|W.sq<|g 12 16 []<|J UE<|W.cn<|J (fun _=>(g 16 17 []<|J UA (RT ?_))) (noF tO)
  rfl
 ·by_cases hup:b.up = false
  ·rw[mM h0 hup]
   refine gz ?_
   conv=>whnf
   refine g 0 0 []<|J Zdu<|W.sq<|g 12 16 []<|J UE<|W.cn<|J (noT dO) fun _=>W.skip<|g 20 24 [.i (b.now+1)]<|J ⟨I,I,I,I,wO,I,I,UA,I⟩<|W.sq<|g 24 28 []<|J UE<|W.cn<|J (fun _=>(g 16 19 []<|J UA (RT ?_))) (noF (nbT AS))
   rfl
  ·have hup2:b.up = true:=by cases hb:b.up;exact absurd hb hup;rfl
   obtain⟨u1,u2,u3,u4,u5,u6,⟨u7,u8⟩,⟨u9,u10⟩,u11,u12,u13,u14⟩:=hv.up hup2
   have hck:=hv.plan
   have hpl:=(bP hck).1
   have hwk:=hv.workers
   obtain⟨he1,he2⟩:=eS hv.code
   change 0≤(bU b p).epoch at he1
   change (bU b p).epoch≤300 at he2
   have l1:=h.safe
   have l2:=h.loose
   refine gz ?_
   conv=>whnf
   refine g 0 0 []<|J Zdu<|W.sq<|g 12 16 []<|J UE<|W.cn<|J (noT dO) fun _=>W.skip<|g 20 24 [.i (b.now+1)]<|J ⟨I,I,I,I,wO,I,I,UA,I⟩<|W.sq<|g 24 28 []<|J UE<|W.cn<|J (noT (nbF AS)) fun _=>W.skip<|g 16 19 []<|J UA<|W.sq ?_
   refine g 30 33 []<|J UF<|W.blk<|W.lp (fun s (n:Nat)=>⟨[(0,s.s 0),(1,s.s 1),(3,s.s 3),(4,s.s 4),(5,s.s 5),(19,s.s 19),(29,s.s 29),(33,s.s 33),(34,.i n)],[(3,[s.c 3 0]),(246,[.t (.i b.workers),.t (.b b.up),.t (.i (b.now+1)),.t (.i b.since),.t (.i b.epoch),.t (.i b.given),.own [false] (b.log.safe.map ak),.own [false] (b.log.loose.map ak),.own [false] (b.results.map ak),.own fv ((fu (qH (b.now+1)) b.jobs n).map aV),.own cM (b.seats.map aR),.own cN (b.owed.map bg)])],[]⟩) (fun(n:Nat)=>n≤b.jobs.length) (fun(n:Nat)=>b.jobs.length - n) (0) [some 3,some 246] [] ⟨rfl,⟨rfl,Zag,rfl,rfl,rfl,rfl,rfl,rfl,rfl,I⟩,⟨Zad,⟨Zaa,I⟩⟩,I⟩ OM ?_
   intro n hn
   have hx:=ii (qH (b.now+1)) b.jobs n
   by_cases hj:n < b.jobs.length
   ·obtain⟨j,hj1⟩:=aj hj
    by_cases hd:j.til≤b.now+1
    ·have e1:=IP hj1 hd
     conv=>whnf
     refine g 0 0 []<|J UA<|W.sq<|W.cn<|J (fun _=>(W.skip (W.sq (W.blk (g 35 37 []<|J UB (gd 37 49 [[],[],[],[],[],[.n (n)],[],[.x (aV j)],[],[],[],[],[]] ?_)))))) (noF (by simp_all))
     conv=>whnf
     refine⟨⟨I,I,I,I,I,Zdh,I,aW AS,I,I,I,I,I,I⟩,by kernel_rfl,?_⟩
     refine W.cn<|J (fun _=>(rg [.n (n),.x (aV j)]<|J ⟨I,I,I,I,I,I,Zdh,⟨UC,aW AS⟩,I⟩ (rg [.i ((n:Int) +1)]<|J Zdm ?_))) (noF tO)
     refine⟨n+1,[some 3,some 246],[],⟨rfl,⟨rfl,Zag,rfl,rfl,rfl,rfl,rfl,rfl,rfl,I⟩,⟨Zad,⟨⟨rfl,⟨rfl,⟨rfl,⟨rfl,⟨rfl,⟨rfl,⟨rfl,⟨rfl,⟨rfl,⟨rfl,⟨(congrArg (V.own _) (e1)),Zad⟩⟩⟩⟩⟩⟩⟩⟩⟩⟩⟩,I⟩⟩,I⟩,?_,?_⟩
     rotate_left
     (dsimp only;omega)
     dsimp only
     omega
    ·have e1:=NV hj1 hd
     conv=>whnf
     refine g 0 0 []<|J UA<|W.sq<|W.cn<|J (fun _=>(W.skip (W.sq (W.blk (g 35 37 []<|J UB (gd 37 49 [[],[],[],[],[],[.n (n)],[],[.x (aV j)],[],[],[],[],[]] ?_)))))) (noF (by simp_all))
     conv=>whnf
     refine⟨⟨I,I,I,I,I,Zdh,I,aW AS,I,I,I,I,I,I⟩,by kernel_rfl,?_⟩
     refine W.cn<|J (noT dO) fun _=>W.skip<|rg [.i ((n:Int) +1)]<|J Zdm ?_
     refine⟨n+1,[some 3,some 246],[],⟨rfl,⟨rfl,Zag,rfl,rfl,rfl,rfl,rfl,rfl,rfl,I⟩,⟨Zad,⟨⟨rfl,⟨rfl,⟨rfl,⟨rfl,⟨rfl,⟨rfl,⟨rfl,⟨rfl,⟨rfl,⟨rfl,⟨(congrArg (V.own _) (by rw[←e1])),Zad⟩⟩⟩⟩⟩⟩⟩⟩⟩⟩⟩,I⟩⟩,I⟩,?_,?_⟩
     rotate_left
     (dsimp only;omega)
     dsimp only
     omega
   have e0:=ij (qH (b.now+1)) b.jobs (n:=n) OM
   conv=>whnf
   refine g 0 0 []<|J UA<|W.sq<|W.cn<|J (noT (by simp_all)) fun _=>W.exit<|W.sq<|g 33 59 []<|J UD<|W.blk ?_
   have hdl:∀ t∈p.tasks,t.deps.length≤8:=fun t ht=>by
    obtain⟨k,hk⟩:=List.getElem?_of_mem ht
    exact(bz hck hk).2.2.1
   refine W.lp (fun s (m:Nat)=>⟨[(0,s.s 0),(1,s.s 1),(3,s.s 3),(4,s.s 4),(5,.ref ⟨5,none,0⟩),(19,s.s 19),(29,s.s 29),(59,s.s 59),(60,s.s 60),(61,.i m)],[(3,[s.c 3 0]),(5,[.own ca ((aD (cG b) p.tasks m).out.map aF)]),(246,[.t (.i b.workers),.t (.b b.up),.t (.i (b.now+1)),.t (.i b.since),.t (.i b.epoch),.t (.i (aD (cG b) p.tasks m).given),.own [false] (b.log.safe.map ak),.own [false] (b.log.loose.map ak),.own [false] (b.results.map ak),.own fv ((aD (cG b) p.tasks m).jobs.map aV),.own cM ((aD (cG b) p.tasks m).seats.map aR),.own cN (b.owed.map bg)])],[]⟩) (fun(m:Nat)=>m≤p.tasks.length) (fun(m:Nat)=>p.tasks.length - m) (0) [some 3,none,some 246] [] ⟨rfl,⟨rfl,Zag,rfl,rfl,⟨rfl,rfl,rfl⟩,rfl,rfl,rfl,rfl,rfl,I⟩,⟨Zad,⟨I,⟨⟨rfl,⟨rfl,⟨rfl,⟨rfl,⟨rfl,⟨rfl,⟨rfl,⟨rfl,⟨rfl,⟨rfl,⟨(congrArg (V.own _) (by rw[e0];rfl)),Zad⟩⟩⟩⟩⟩⟩⟩⟩⟩⟩⟩,I⟩⟩⟩,I⟩ OM ?_
   intro m hm
   obtain⟨k1,k2,k3,k4,k5,k6⟩:=kK (b:=cG b) (ts:=p.tasks) hdl u9 u10 m
   have k7:(cG b).jobs.length = b.jobs.length:=by show(b.jobs.map _).length = _;rw[List.length_map]
   rw[k7]at k1
   change (aD (cG b) p.tasks m).seats.length = b.seats.length at k2
   by_cases hm2:m < p.tasks.length
   ·obtain⟨t,ht0⟩:=aj hm2
    obtain⟨y,hy0⟩:=aj (xs:=b.results) (n:=m) OM
    obtain⟨j,hj0⟩:=aj (xs:=(aD (cG b) p.tasks m).jobs) (n:=m) OM
    obtain⟨_,_,a3,a4⟩:=bz hck ht0
    have crd:=iz b.results t.deps (fun d hd=>by have:=a4 d hd;omega) OM
    have cpk:=DF b.results t.deps (fun d hd=>by have:=a4 d hd;omega) OM
    have q1:∀ q:CanHand (cG b) p.tasks (aD (cG b) p.tasks m) m,y = emp:=fun q=>by have:=q.res;rw[show(cG b).results = b.results from rfl,pE hy0]at this;exact this
    have q2:∀ q:CanHand (cG b) p.tasks (aD (cG b) p.tasks m) m,j.lease = 0:=fun q=>by have:=q.job;rw[Gw,hj0]at this;exact this
    have q3:∀ q:CanHand (cG b) p.tasks (aD (cG b) p.tasks m) m,cu b.results t.deps:=fun q=>by have:=q.ready;rw[cJ ht0]at this;exact this
    by_cases hA:y = emp
    ·by_cases hB:j.lease = 0
     ·by_cases hF:cu b.results t.deps
      ·rw[decide_eq_true hF]at crd
       by_cases hG:(aD (cG b) p.tasks m).given < 1000000
       ·have hc:CanHand (cG b) p.tasks (aD (cG b) p.tasks m) m:=⟨by rw[show(cG b).results = b.results from rfl,pE hy0];exact hA,by rw[Gw,hj0];exact hB,by rw[cJ ht0];exact hF,hG⟩
        conv=>whnf
        refine g 0 0 []<|J UA<|W.sq<|W.cn<|J (fun _=>(W.skip (W.sq (W.blk (g 62 66 [.x (aC t)]<|J Zbt (W.sq (gd 72 101 [[],[],[],[],[],[.n (m)],[.x (ak y)],[],[],[BF],[BF],[BF],[BF],[BF],[BF,.n (m)],[BF],[BF,.x (aV j)],[BF],[BF],[],[BF],[BF],[BF],[BF],[BF],[BF],[BF,.call VT [[],[]]],[BF],[BF],[],[BF],[BF],[BF],[BF],[BF],[BF]] ?_))))))) (noF SI)
        conv=>whnf
        refine⟨Za6,by kernel_rfl,?_⟩
        refine W.cn<|J (noT dO) fun _=>W.skip<|g 66 71 []<|J UF<|W.blk ?_
        cases hf:gM (aD (cG b) p.tasks m).seats with
        |none =>
         have e:=g8 (b:=cG b) (ts:=p.tasks) hf
         refine W.lp (fun s (k:Nat)=>⟨[(0,s.s 0),(1,s.s 1),(3,s.s 3),(4,s.s 4),(5,.ref ⟨5,none,0⟩),(7,s.s 7),(8,s.s 8),(19,s.s 19),(29,s.s 29),(59,s.s 59),(60,s.s 60),(61,s.s 61),(71,s.s 71),(106,s.s 106),(107,.i k)],[(246,[s.c 246 0,s.c 246 1,s.c 246 2,s.c 246 3,s.c 246 4,s.c 246 5,s.c 246 6,s.c 246 7,s.c 246 8,s.c 246 9,s.c 246 10,s.c 246 11]),(3,[s.c 3 0]),(8,[s.c 8 0,s.c 8 1,s.c 8 2]),(5,[.own ca ((aD (cG b) p.tasks m).out.map aF)])],[]⟩) (fun(k:Nat)=>k≤(aD (cG b) p.tasks m).seats.length) (fun(k:Nat)=>(aD (cG b) p.tasks m).seats.length - k) (0) [some 246,some 3,some 8,some 5] [] Zdl OM ?_
         intro s hs
         by_cases hs2:s < (aD (cG b) p.tasks m).seats.length
         ·obtain⟨x,hx0⟩:=aj hs2
          have hx1:=Aw hf s x hx0
          conv=>whnf
          refine g 0 0 []<|J UA<|W.sq<|W.cn<|J (fun h1=>?_) fun h1=>?_
          replace h1:=dt h1
          simp only[LM]at h1
          refine W.skip<|W.sq<|W.blk<|g 108 110 []<|J UB<|W.sq<|g 110 118 [.n (s),.x (aR x)]<|J ⟨I,I,I,I,I,Zdh,I,xA,I,I⟩<|W.cn<|J (fun _=>(W.exit (rg [.i ((s:Int) +1)]<|J Zdm ?_))) (noF (nbT AS))
          rotate_left
          replace h1:=df h1
          simp only[LM]at h1
          omega
          refine⟨s+1,[some 246,some 3,some 8,some 5],[],Zdl,?_,?_⟩
          rotate_left
          (dsimp only;omega)
          dsimp only
          omega
         ·conv=>whnf
          refine g 0 0 []<|J UA<|W.sq<|W.cn<|J (fun h1=>?_) fun h1=>?_
          replace h1:=dt h1
          simp only[LM]at h1
          omega
          replace h1:=df h1
          simp only[LM]at h1
          refine W.exit<|rg [.i ((m:Int) +1)]<|J Zdm ?_
          refine⟨m+1,[some 3,some 5,some 246],[],⟨rfl,Zdy,⟨Zad,⟨⟨rfl,⟨(congrArg (V.own _) (by rw[e])),I⟩⟩,⟨⟨rfl,⟨rfl,⟨rfl,⟨rfl,⟨rfl,⟨rfl,⟨(congrArg (fun z=>V.t (T.v (Value.int _ z))) (by rw[e])),⟨rfl,⟨rfl,⟨rfl,⟨(congrArg (V.own _) (by rw[e])),⟨(congrArg (V.own _) (by rw[e])),Zde⟩⟩⟩⟩⟩⟩⟩⟩⟩⟩⟩⟩,I⟩⟩⟩,I⟩,?_,?_⟩
          rotate_left
          (dsimp only;omega)
          dsimp only
          omega
        |some s0 =>
         obtain⟨x,hx0,hx1,hx2,hx3⟩:=ou hf
         have e:=gZ hc hf
         refine W.lp (fun s (k:Nat)=>⟨[(0,s.s 0),(1,s.s 1),(3,s.s 3),(4,s.s 4),(5,.ref ⟨5,none,0⟩),(7,s.s 7),(8,s.s 8),(19,s.s 19),(29,s.s 29),(59,s.s 59),(60,s.s 60),(61,s.s 61),(71,s.s 71),(106,s.s 106),(107,.i k)],[(246,[s.c 246 0,s.c 246 1,s.c 246 2,s.c 246 3,s.c 246 4,s.c 246 5,s.c 246 6,s.c 246 7,s.c 246 8,s.c 246 9,s.c 246 10,s.c 246 11]),(3,[s.c 3 0]),(8,[s.c 8 0,s.c 8 1,s.c 8 2]),(5,[.own ca ((aD (cG b) p.tasks m).out.map aF)])],[]⟩) (fun(k:Nat)=>k≤s0) (fun(k:Nat)=>(aD (cG b) p.tasks m).seats.length - k) (0) [some 246,some 3,some 8,some 5] [] Zdl OM ?_
         intro s hs
         by_cases hs2:s < s0
         ·obtain⟨x',hx'⟩:=aj (xs:=(aD (cG b) p.tasks m).seats) (n:=s) OM
          have hx4:=hx3 s x' hs2 hx'
          conv=>whnf
          refine g 0 0 []<|J UA<|W.sq<|W.cn<|J (fun h1=>?_) fun h1=>?_
          replace h1:=dt h1
          simp only[LM]at h1
          refine W.skip<|W.sq<|W.blk<|g 108 110 []<|J UB<|W.sq<|g 110 118 [.n (s),.x (aR x')]<|J ⟨I,I,I,I,I,Zdh,I,xA,I,I⟩<|W.cn<|J (fun _=>(W.exit (rg [.i ((s:Int) +1)]<|J Zdm ?_))) (noF (nbT AS))
          rotate_left
          replace h1:=df h1
          simp only[LM]at h1
          omega
          refine⟨s+1,[some 246,some 3,some 8,some 5],[],Zdl,?_,?_⟩
          rotate_left
          (dsimp only;omega)
          dsimp only
          omega
         ·obtain rfl:s = s0:=by omega
          have ej:((aD (cG b) p.tasks m).jobs.map aV).set m (aV ⟨(b.epoch - 1) * 1000000+ ((aD (cG b) p.tasks m).given+1),(s:Int) +1,b.now+1+12⟩) = (aD (cG b) p.tasks (m+1)).jobs.map aV:=by rw[e,←List.map_set];rfl
          have es:((aD (cG b) p.tasks m).seats.map aR).set s (aR ⟨false,x.epoch⟩) = (aD (cG b) p.tasks (m+1)).seats.map aR:=by rw[e,←List.map_set,ki,lx,hx0];rfl
          have eo:(aD (cG b) p.tasks m).out.map aF++ [aF ⟨1,0,(s:Int) +1,b.epoch,(b.epoch - 1) * 1000000+ ((aD (cG b) p.tasks m).given+1),m,emp,cF b.results t.deps⟩] = (aD (cG b) p.tasks (m+1)).out.map aF:=by rw[e,ki,Cr,cJ ht0,List.map_append];rfl
          have eg:(aD (cG b) p.tasks m).given+1 = (aD (cG b) p.tasks (m+1)).given:=by rw[e];rfl
          conv=>whnf
          refine g 0 0 []<|J UA<|W.sq<|W.cn<|J (fun h1=>?_) fun h1=>?_
          replace h1:=dt h1
          simp only[LM]at h1
          refine W.skip<|W.sq<|W.blk<|g 108 110 []<|J UB<|W.sq<|g 110 118 [.n (s),.x (aR x)]<|J ⟨I,I,I,I,I,Zdh,I,xA,I,I⟩<|W.cn<|J (noT (nbF AS)) fun _=>W.skip<|g 118 126 [.n (s),.x (aR x)]<|J ⟨I,I,I,I,I,Zdh,I,⟨UA,xA⟩,I⟩<|g 126 133 [.i (Hand.given (aD (cG b) p.tasks m) +1)]<|J ⟨I,I,I,I,wO,I,I,UA,I⟩<|gd 133 158 [[],[],[],[],[],[],[],[],[],[.i (b.epoch - 1)],[.i ((b.epoch - 1) * 1000000)],[],[],[],[],[.i ((b.epoch - 1) * 1000000+ (Hand.given (aD (cG b) p.tasks m) +1))],[],[.i ((s:Int) +1)],[],[],[],[],[.i (b.now+1+12)],[],[.n (m)],[.x (aV j)]] ?_
          conv=>whnf
          refine J ⟨I,I,I,I,I,I,I,I,I,wO,wO,I,I,I,I,wO,I,wO,I,I,I,I,wO,I,Zdh,⟨UC,xA⟩,I⟩<|J KR<|gd 158 184 [[],[],[.i ((s:Int) +1)],[],[],[],[],[],[],[],[],[],[.n (m)],[],[.x (dY (aV j) 0 [T.v (Value.int IntKind.i64 ((b.epoch - 1) * 1000000+ (Hand.given (aD (cG b) p.tasks m) +1))),T.v (Value.int IntKind.i64 ((s:Int) +1)),T.v (Value.int IntKind.i64 (b.now+1+12))])],[],[],[],[],[],[],[],[.call (V.own [false] (List.map ak (cF b.results t.deps))) [[],[]]],[],[],[],[]] ?_
          conv=>whnf
          refine J ⟨I,I,wO,I,I,I,I,I,I,I,I,I,Zdh,I,gL LN,I,I,I,I,I,I,I,Zam,I,⟨UH,I⟩,Zdi,I,I⟩<|J KR<|W.exit<|rg [.i ((m:Int) +1)]<|J Zdm ?_
          rotate_left
          replace h1:=df h1
          simp only[LM]at h1
          omega
          refine⟨m+1,[some 3,some 183,some 246],[],⟨rfl,Zdy,⟨Zad,⟨⟨rfl,⟨(congrArg (V.own _) (eo)),I⟩⟩,⟨⟨rfl,⟨rfl,⟨rfl,⟨rfl,⟨rfl,⟨rfl,⟨(congrArg (fun z=>V.t (T.v (Value.int _ z))) (eg)),⟨rfl,⟨rfl,⟨rfl,⟨(congrArg (V.own _) (ej)),⟨(congrArg (V.own _) (es)),Zde⟩⟩⟩⟩⟩⟩⟩⟩⟩⟩⟩⟩,I⟩⟩⟩,I⟩,?_,?_⟩
          rotate_left
          (dsimp only;omega)
          dsimp only
          omega
       ·have e:=eY (b:=cG b) (ts:=p.tasks) (fun q=>hG q.given)
        conv=>whnf
        refine g 0 0 []<|J UA<|W.sq<|W.cn<|J (fun _=>(W.skip (W.sq (W.blk (g 62 66 [.x (aC t)]<|J Zbt (W.sq (gd 72 101 [[],[],[],[],[],[.n (m)],[.x (ak y)],[],[],[BF],[BF],[BF],[BF],[BF],[BF,.n (m)],[BF],[BF,.x (aV j)],[BF],[BF],[],[BF],[BF],[BF],[BF],[BF],[BF],[BF,.call VT [[],[]]],[BF],[BF],[],[BF],[BF],[BF],[BF],[BF],[BF]] ?_))))))) (noF SI)
        conv=>whnf
        refine⟨Za6,by kernel_rfl,?_⟩
        refine W.cn<|J (fun _=>(W.exit (rg [.i ((m:Int) +1)]<|J Zdm ?_))) (noF tO)
        refine⟨m+1,[some 3,some 5,some 246],[],⟨rfl,Zdy,⟨Zad,⟨⟨rfl,⟨(congrArg (V.own _) (by rw[e])),I⟩⟩,⟨⟨rfl,⟨rfl,⟨rfl,⟨rfl,⟨rfl,⟨rfl,⟨(congrArg (fun z=>V.t (T.v (Value.int _ z))) (by rw[e])),⟨rfl,⟨rfl,⟨rfl,⟨(congrArg (V.own _) (by rw[e])),⟨(congrArg (V.own _) (by rw[e])),Zde⟩⟩⟩⟩⟩⟩⟩⟩⟩⟩⟩⟩,I⟩⟩⟩,I⟩,?_,?_⟩
        rotate_left
        (dsimp only;omega)
        dsimp only
        omega
      ·rw[decide_eq_false hF]at crd
       have e:=eY (b:=cG b) (ts:=p.tasks) (fun q=>hF (q3 q))
       conv=>whnf
       refine g 0 0 []<|J UA<|W.sq<|W.cn<|J (fun _=>(W.skip (W.sq (W.blk (g 62 66 [.x (aC t)]<|J Zbt (W.sq (gd 72 101 [[],[],[],[],[],[.n (m)],[.x (ak y)],[],[],[BF],[BF],[BF],[BF],[BF],[BF,.n (m)],[BF],[BF,.x (aV j)],[BF],[BF],[],[BF],[BF],[BF],[BF],[BF],[BF],[BF,.call VF [[],[]]],[BF],[BF],[],[BT],[BT],[BT],[BT],[BT],[BT]] ?_))))))) (noF SI)
       conv=>whnf
       refine⟨⟨I,I,I,I,I,Zdh,xA,I,I,⟨nO,I⟩,⟨nO,I⟩,⟨nO,I⟩,⟨nO,I⟩,⟨nO,I⟩,⟨nO,rfl,LN⟩,⟨nO,I⟩,⟨nO,xA⟩,⟨nO,I⟩,nO,I,⟨nO,I⟩,⟨nO,I⟩,⟨nO,I⟩,⟨nO,I⟩,⟨nO,I⟩,⟨nO,I⟩,⟨nO,UB,I,UT,UA,AS⟩,⟨nO,I⟩,nO,I,rfl,rfl,rfl,rfl,rfl,rfl,I⟩,by kernel_rfl,?_⟩
       refine W.cn<|J (fun _=>(W.exit (rg [.i ((m:Int) +1)]<|J Zdm ?_))) (noF rfl)
       refine⟨m+1,[some 3,some 5,some 246],[],⟨rfl,Zdy,⟨Zad,⟨⟨rfl,⟨(congrArg (V.own _) (by rw[e])),I⟩⟩,⟨⟨rfl,⟨rfl,⟨rfl,⟨rfl,⟨rfl,⟨rfl,⟨(congrArg (fun z=>V.t (T.v (Value.int _ z))) (by rw[e])),⟨rfl,⟨rfl,⟨rfl,⟨(congrArg (V.own _) (by rw[e])),⟨(congrArg (V.own _) (by rw[e])),Zde⟩⟩⟩⟩⟩⟩⟩⟩⟩⟩⟩⟩,I⟩⟩⟩,I⟩,?_,?_⟩
       rotate_left
       (dsimp only;omega)
       dsimp only
       omega
     ·have e:=eY (b:=cG b) (ts:=p.tasks) (fun q=>hB (q2 q))
      conv=>whnf
      refine g 0 0 []<|J UA<|W.sq<|W.cn<|J (fun _=>(W.skip (W.sq (W.blk (g 62 66 [.x (aC t)]<|J Zbt (W.sq (gd 72 101 [[],[],[],[],[],[.n (m)],[.x (ak y)],[],[],[BF],[BF],[BF],[BF],[BF],[BF,.n (m)],[BF],[BF,.x (aV j)],[BF],[BF],[],[BT],[BT],[BT],[BT],[BT],[BT],[BT],[BT],[BT],[],[BT],[BT],[BT],[BT],[BT],[BT]] ?_))))))) (noF SI)
      conv=>whnf
      refine⟨⟨I,I,I,I,I,Zdh,xA,I,I,⟨nO,I⟩,⟨nO,I⟩,⟨nO,I⟩,⟨nO,I⟩,⟨nO,I⟩,⟨nO,rfl,LN⟩,⟨nO,I⟩,⟨nO,xA⟩,⟨nO,I⟩,nO,I,af OM,af OM,af OM,af OM,af OM,af OM,af OM,af OM,af OM,I,rfl,rfl,rfl,rfl,rfl,rfl,I⟩,by kernel_rfl,?_⟩
      refine W.cn<|J (fun _=>(W.exit (rg [.i ((m:Int) +1)]<|J Zdm ?_))) (noF rfl)
      refine⟨m+1,[some 3,some 5,some 246],[],⟨rfl,Zdy,⟨Zad,⟨⟨rfl,⟨(congrArg (V.own _) (by rw[e])),I⟩⟩,⟨⟨rfl,⟨rfl,⟨rfl,⟨rfl,⟨rfl,⟨rfl,⟨(congrArg (fun z=>V.t (T.v (Value.int _ z))) (by rw[e])),⟨rfl,⟨rfl,⟨rfl,⟨(congrArg (V.own _) (by rw[e])),⟨(congrArg (V.own _) (by rw[e])),Zde⟩⟩⟩⟩⟩⟩⟩⟩⟩⟩⟩⟩,I⟩⟩⟩,I⟩,?_,?_⟩
      rotate_left
      (dsimp only;omega)
      dsimp only
      omega
    ·have e:=eY (b:=cG b) (ts:=p.tasks) (fun q=>hA (q1 q))
     conv=>whnf
     refine g 0 0 []<|J UA<|W.sq<|W.cn<|J (fun _=>(W.skip (W.sq (W.blk (g 62 66 [.x (aC t)]<|J Zbt (W.sq (gd 72 101 [[],[],[],[],[],[.n (m)],[.x (ak y)],[],[],[BT],[BT],[BT],[BT],[BT],[BT],[BT],[BT],[BT],[BT],[],[BT],[BT],[BT],[BT],[BT],[BT],[BT],[BT],[BT],[],[BT],[BT],[BT],[BT],[BT],[BT]] ?_))))))) (noF SI)
     conv=>whnf
     refine⟨⟨I,I,I,I,I,Zdh,xA,I,I,af OM,af OM,af OM,af OM,af OM,af OM,af OM,af OM,af OM,af OM,I,rfl,rfl,rfl,rfl,rfl,rfl,rfl,rfl,rfl,I,rfl,rfl,rfl,rfl,rfl,rfl,I⟩,by kernel_rfl,?_⟩
     refine W.cn<|J (fun _=>(W.exit (rg [.i ((m:Int) +1)]<|J Zdm ?_))) (noF rfl)
     refine⟨m+1,[some 3,some 5,some 246],[],⟨rfl,Zdy,⟨Zad,⟨⟨rfl,⟨(congrArg (V.own _) (by rw[e])),I⟩⟩,⟨⟨rfl,⟨rfl,⟨rfl,⟨rfl,⟨rfl,⟨rfl,⟨(congrArg (fun z=>V.t (T.v (Value.int _ z))) (by rw[e])),⟨rfl,⟨rfl,⟨rfl,⟨(congrArg (V.own _) (by rw[e])),⟨(congrArg (V.own _) (by rw[e])),Zde⟩⟩⟩⟩⟩⟩⟩⟩⟩⟩⟩⟩,I⟩⟩⟩,I⟩,?_,?_⟩
     rotate_left
     (dsimp only;omega)
     dsimp only
     omega
   obtain rfl:m = p.tasks.length:=by omega
   by_cases hs:b.since+1 = 2
   ·rw[fC h0 hup hs]
    conv=>whnf
    refine g 0 0 []<|J UA<|W.sq<|W.cn<|J (noT SI) fun _=>W.exit<|g 19 193 [.i (b.since+1)]<|J ⟨I,I,I,I,wO,I,I,UA,I⟩<|W.sq<|g 193 197 []<|J UE<|W.cn<|J (fun _=>(g 197 201 []<|J UW (gd 201 216 [[],[],[],[],[],[],[],[],[],[],[],[],[],[],[],[]] ?_))) (noF tO)
    conv=>whnf
    refine⟨⟨I,I,I,I,I,I,I,I,I,I,I,Zdi,I,I,I,UA,I⟩,by kernel_rfl,?_⟩
    refine g 216 220 []<|J ⟨I,I,I,I,UA,I⟩<|W.sq<|g 220 223 []<|J UF<|W.blk<|W.lp (fun s (n:Nat)=>⟨[(0,s.s 0),(3,s.s 3),(4,s.s 4),(5,.ref ⟨5,none,0⟩),(223,s.s 223),(224,s.s 224),(225,.i n)],[(3,[s.c 3 0]),(5,[.own ca (((endH b p.tasks).out++ (b.owed.take n).map (jf b.epoch)).map aF)]),(246,[.t (.i b.workers),.t (.b b.up),.t (.i (b.now+1)),.t (.i 0),.t (.i b.epoch),.t (.i (endH b p.tasks).given),.own [false] ((b.log.safe++b.log.loose).map ak),.own [false] [],.own [false] (b.results.map ak),.own fv ((endH b p.tasks).jobs.map aV),.own cM ((endH b p.tasks).seats.map aR),.own cN (b.owed.map bg)])],[]⟩) (fun(n:Nat)=>n≤b.owed.length) (fun(n:Nat)=>b.owed.length - n) (0) [some 3,some 5,some 246] [] ⟨rfl,Zbh,⟨Zad,⟨⟨rfl,⟨(congrArg (V.own _) (by rw[List.take_zero,List.map_nil,List.append_nil];rfl)),I⟩⟩,⟨⟨rfl,⟨rfl,⟨rfl,⟨rfl,⟨rfl,⟨rfl,⟨rfl,⟨(congrArg (V.own _) SI),⟨rfl,Zac⟩⟩⟩⟩⟩⟩⟩⟩⟩,I⟩⟩⟩,I⟩ OM ?_
    intro n hn
    by_cases hn2:n < b.owed.length
    ·obtain⟨o,ho⟩:=aj hn2
     have k9:(endH b p.tasks).out.length≤40:=by show(aD _ _ _).out.length≤40;omega
     have eo:=uu (out:=(endH b p.tasks).out) (ep:=b.epoch) ho
     conv=>whnf
     refine g 0 0 []<|J UA<|W.sq<|W.cn<|J (fun _=>(W.skip (W.sq (W.blk (g 226 229 [.n (n),.x (bg o)]<|J Zcz (rgd [[],[],[],[],[],[],[],[],[],[],[],[],[]] ?_)))))) (noF SI)
     conv=>whnf
     refine⟨⟨I,I,I,I,I,I,I,I,I,I,⟨UH,I⟩,Zdi,I,I⟩,by kernel_rfl,?_⟩
     refine rg [.i ((n:Int) +1)]<|J Zdm ?_
     refine⟨n+1,[some 3,some 240,some 246],[],⟨rfl,Zbh,⟨Zad,⟨⟨rfl,⟨(congrArg (V.own _) (eo)),I⟩⟩,⟨Zaa,I⟩⟩⟩,I⟩,?_,?_⟩
     rotate_left
     (dsimp only;omega)
     dsimp only
     omega
    ·conv=>whnf
     refine g 0 0 []<|J UA<|W.sq<|W.cn<|J (noT SI) fun _=>W.exit<|rg []<|J UW<|g 5 246 []<|J UB<|RT ?_
     all_goals (rw[bF OM])
   ·rw[gW h0 hup hs]
    conv=>whnf
    refine g 0 0 []<|J UA<|W.sq<|W.cn<|J (noT SI) fun _=>W.exit<|g 19 193 [.i (b.since+1)]<|J ⟨I,I,I,I,wO,I,I,UA,I⟩<|W.sq<|g 193 197 []<|J UE<|W.cn<|J (noT dO) fun _=>W.skip<|g 0 4 []<|J UB<|RT ?_
    rfl
end Go.K
end
section
open Go Go.Tm Go.Proofs
namespace Go.K
structure HandIn (d:Boss) (ts:List Task):Prop where
 chk:ah ts = 0
 res:d.results.length = ts.length
 jobs:d.jobs.length = ts.length
 seats:d.seats.length≤8
 ep:1≤d.epoch∧d.epoch≤300
 given:0≤d.given∧d.given≤1000000
 now:0≤d.now∧d.now≤1000000
end Go.K
end
section
open Go Go.Tm Go.Proofs
namespace Go.K
structure LedSmall (x:Led):Prop where
 boss:BossSmall x.boss
 out:x.out.length≤2097152
 inp:∀ m∈x.out,m.inputs.length≤8
theorem Df:LedSmall Cs:=⟨sd,Nat.zero_le _,fun m hm=>by cases hm⟩
theorem uW{b:Boss}(p:Plan)(h:BossLim b):LedSmall (mK b p):=by
 unfold mK;split
 ·rename_i hv
  have hs:=tV h
  unfold ee;split
  ·exact⟨hs,Nat.zero_le _,fun m hm=>by cases hm⟩
  ·split
   ·exact⟨⟨hs.1,hs.2,hs.3,hs.4,hs.5,hs.6⟩,Nat.zero_le _,fun m hm=>by cases hm⟩
   ·rename_i hup
    have hup2:b.up = true:=by cases hb:b.up;exact absurd hb hup;rfl
    obtain⟨u1,u2,u3,u4,u5,u6,⟨u7,u8⟩,⟨u9,u10⟩,u11,u12,u13,u14⟩:=hv.up hup2
    have hck:=hv.plan
    have hpl:=(bP hck).1
    have hdl:∀ t∈p.tasks,t.deps.length≤8:=fun t ht=>by
     obtain⟨k,hk⟩:=List.getElem?_of_mem ht
     exact(bz hck hk).2.2.1
    obtain⟨k1,k2,k3,k4,k5,k6⟩:=kK (b:=cG b) (ts:=p.tasks) hdl u9 u10 p.tasks.length
    have k7:(cG b).jobs.length = b.jobs.length:=by show(b.jobs.map _).length = _;rw[List.length_map]
    have k8:(cG b).seats.length = b.seats.length:=rfl
    have g1:=h.safe
    have g2:=h.loose
    have g3:=h.seats
    have g4:=h.res
    have j1:(endH b p.tasks).jobs.length≤4194304:=by show(aD _ _ _).jobs.length≤_;omega
    have j2:(endH b p.tasks).seats.length≤4194304:=by show(aD _ _ _).seats.length≤_;omega
    have j3:(endH b p.tasks).out.length≤40:=by show(aD _ _ _).out.length≤_;omega
    split
    ·refine⟨⟨?_,Nat.zero_le _,by show b.results.length≤_;omega,j1,j2,Nat.zero_le _⟩,?_,?_⟩
     ·simp only[List.length_append];omega
     ·simp only[List.length_append,List.length_map];omega
     ·intro m hm
      rcases List.mem_append.1 hm with hm|hm
      ·exact k6 m hm
      ·obtain⟨o,_,rfl⟩:=List.mem_map.1 hm
       exact Nat.zero_le _
    ·exact⟨⟨by show b.log.safe.length≤_;omega,by show b.log.loose.length≤_;omega,by show b.results.length≤_;omega,j1,j2,by show b.owed.length≤_;omega⟩,by show(endH b p.tasks).out.length≤_;omega,k6⟩
 ·exact Df
end Go.K
end
section
open Go Go.Tm Go.Proofs
namespace Go.K
structure JL (ep now given workers:Int) (rs:List ByteArray) (ts:List Task) (js:List Job):Prop where
 zero:∀ (i:Nat) (j:Job),js[i]? = some j→j.lease = 0→j.worker = 0∧j.til = 0
 lease:∀ (i:Nat) (j:Job),js[i]? = some j→¬j.lease = 0→(ep - 1) * 1000000+1≤j.lease∧j.lease≤(ep - 1) * 1000000+given
 worker:∀ (i:Nat) (j:Job),js[i]? = some j→¬j.lease = 0→1≤j.worker∧j.worker≤workers
 til:∀ (i:Nat) (j:Job),js[i]? = some j→¬j.lease = 0→now+1≤j.til∧j.til≤now+12
 res:∀ (i:Nat) (j:Job),js[i]? = some j→¬j.lease = 0→atS rs (i:Int) = emp
 ready:∀ (i:Nat) (j:Job),js[i]? = some j→¬j.lease = 0→cu rs (iv ts i)
 once:∀ (i k:Nat) (j l:Job),i < k→js[i]? = some j→js[k]? = some l→¬l.lease = 0→¬j.lease = l.lease
theorem Cv{b:Boss}{ts:List Task}(h:gI b ts b.jobs.length):JL b.epoch b.now b.given b.workers b.results ts b.jobs:=by
 have hl:∀ {i:Nat} {j:Job},b.jobs[i]? = some j→i < b.jobs.length:=fun hj=>(List.getElem?_eq_some_iff.1 hj).1
 refine⟨fun i j hj hz=>(h i j (hl hj) hj).1 hz,fun i j hj hz=>((h i j (hl hj) hj).2 hz).lease,fun i j hj hz=>((h i j (hl hj) hj).2 hz).worker,fun i j hj hz=>((h i j (hl hj) hj).2 hz).til,fun i j hj hz=>((h i j (hl hj) hj).2 hz).res,fun i j hj hz=>((h i j (hl hj) hj).2 hz).ready,fun i k j l hik hj hk hz e=>?_⟩
 refine((h k l (hl hk) hk).2 hz).once (List.mem_map.2 ⟨j,?_,e⟩)
 exact List.mem_of_getElem? (i:=i) (by rw[List.getElem?_take];rw[if_pos hik];exact hj)
theorem zR{b:Boss}{ts:List Task}(h:JL b.epoch b.now b.given b.workers b.results ts b.jobs):gI b ts b.jobs.length:=by
 intro i j _ hj
 refine⟨h.zero i j hj,fun hz=>⟨h.lease i j hj hz,h.worker i j hj hz,h.til i j hj hz,h.res i j hj hz,h.ready i j hj hz,fun hm=>?_⟩⟩
 obtain⟨l,hl,e⟩:=List.mem_map.1 hm
 obtain⟨k,hk⟩:=List.getElem?_of_mem hl
 rw[List.getElem?_take]at hk
 split at hk
 ·rename_i hki
  exact h.once k i l j hki hk hj hz e
 ·cases hk
theorem Hn{ep now now' given workers:Int}{rs:List ByteArray}{ts:List Task}{js:List Job}{f:Job→Job}(h:JL ep now given workers rs ts js)(hf:∀ j,f j = ga∨(f j).lease = j.lease∧(f j).worker = j.worker∧(j.lease = 0→f j = j)∧(¬j.lease = 0→(now+1≤j.til∧j.til≤now+12)→now'+1≤(f j).til∧(f j).til≤now'+12)):JL ep now' given workers rs ts (js.map f):=by
 have g:∀ {i:Nat} {x:Job},(js.map f)[i]? = some x→∃ j,js[i]? = some j∧f j = x:=fun{i x} hx=>by
  rw[List.getElem?_map]at hx
  cases hj:js[i]? with
  |none=>rw[hj]at hx;cases hx
  |some j=>rw[hj]at hx;exact⟨j,rfl,Option.some.inj hx⟩
 have k:∀ {i:Nat} {x:Job},(js.map f)[i]? = some x→¬x.lease = 0→∃ j,js[i]? = some j∧f j = x∧x.lease = j.lease∧x.worker = j.worker∧¬j.lease = 0∧now'+1≤x.til∧x.til≤now'+12:=fun{i x} hx hz=>by
  obtain⟨j,hj,e⟩:=g hx
  rcases hf j with q|⟨q1,q2,_,q3⟩
  ·rw[e]at q;rw[q]at hz;exact absurd rfl hz
  ·rw[e]at q1 q2 q3
   have hz':¬j.lease = 0:=fun w=>hz (by rw[q1];exact w)
   exact⟨j,hj,e,q1,q2,hz',q3 hz' (h.til i j hj hz')⟩
 refine⟨fun i x hx hz=>?_,fun i x hx hz=>?_,fun i x hx hz=>?_,fun i x hx hz=>?_,fun i x hx hz=>?_,fun i x hx hz=>?_,fun i m x y him hx hy hz e=>?_⟩
 ·obtain⟨j,hj,e⟩:=g hx
  rcases hf j with q|⟨q1,q2,q4,q3⟩
  ·rw[←e,q];exact⟨rfl,rfl⟩
  ·have hz':j.lease = 0:=by rw[←q1,e];exact hz
   rw[←e,q4 hz'];exact h.zero i j hj hz'
 ·obtain⟨j,hj,e,q1,q2,hz',t⟩:=k hx hz;rw[q1];exact h.lease i j hj hz'
 ·obtain⟨j,hj,e,q1,q2,hz',t⟩:=k hx hz;rw[q2];exact h.worker i j hj hz'
 ·obtain⟨j,hj,e,q1,q2,hz',t⟩:=k hx hz;exact t
 ·obtain⟨j,hj,e,q1,q2,hz',t⟩:=k hx hz;exact h.res i j hj hz'
 ·obtain⟨j,hj,e,q1,q2,hz',t⟩:=k hx hz;exact h.ready i j hj hz'
 ·obtain⟨l,hl,_,q1,_,hz',_⟩:=k hy hz
  have hzx:¬x.lease = 0:=fun w=>hz (by rw[←e];exact w)
  obtain⟨j,hj,_,p1,_,_,_⟩:=k hx hzx
  exact h.once i m j l him hj hl hz' (by rw[←p1,←q1];exact e)
theorem Rm{ep now given workers:Int}{rs:List ByteArray}{ts:List Task}{js:List Job}(h:JL ep now given workers rs ts js):JL ep (now+1) given workers rs ts (js.map (qH (now+1))):=by
 refine Hn h fun j=>?_
 unfold qH
 split
 ·exact .inl rfl
 ·rename_i hd
  exact .inr ⟨rfl,rfl,fun _=>rfl,fun _ q=>⟨by omega,by omega⟩⟩
theorem PD{ep now given workers w:Int}{rs:List ByteArray}{ts:List Task}{js:List Job}(h:JL ep now given workers rs ts js):JL ep now given workers rs ts (js.map fun j=>if j.worker = w then ga else j):=by
 refine Hn h fun j=>?_
 split
 ·exact .inl rfl
 ·exact .inr ⟨rfl,rfl,fun _=>rfl,fun _ q=>q⟩
theorem PE{ep now given workers l:Int}{rs:List ByteArray}{ts:List Task}{js:List Job}(hl:1≤l)(h:JL ep now given workers rs ts js):JL ep now given workers rs ts (js.map fun j=>if j.lease = l then⟨j.lease,j.worker,now+12⟩else j):=by
 refine Hn h fun j=>?_
 split
 ·rename_i e
  exact .inr ⟨rfl,rfl,fun z=>absurd z OM,fun _ q=>⟨by dsimp only;omega,by dsimp only;omega⟩⟩
 ·exact .inr ⟨rfl,rfl,fun _=>rfl,fun _ q=>q⟩
theorem Rk{ep now given workers s:Int}{rs:List ByteArray}{ts:List Task}{js:List Job}{n:Nat}{j0:Job}(h:JL ep now given workers rs ts js)(hj:js[n]? = some j0)(hg:0≤given)(hs:0≤s∧s < workers)(hr:atS rs (n:Int) = emp)(hd:cu rs (iv ts n))(he:1≤ep):JL ep now (given+1) workers rs ts (js.set n ⟨(ep - 1) * 1000000+ (given+1),s+1,now+12⟩):=by
 have hn:=(List.getElem?_eq_some_iff.1 hj).1
 have g:∀ {i:Nat} {x:Job},(js.set n ⟨(ep - 1) * 1000000+ (given+1),s+1,now+12⟩)[i]? = some x→(i = n∧x = ⟨(ep - 1) * 1000000+ (given+1),s+1,now+12⟩)∨(¬i = n∧js[i]? = some x):=fun{i x} hx=>by
  by_cases e:i = n
  ·subst e
   rw[List.getElem?_set_self hn]at hx
   exact .inl ⟨rfl,(Option.some.inj hx).symm⟩
  ·rw[List.getElem?_set_ne (fun q=>e q.symm)]at hx
   exact .inr ⟨e,hx⟩
 refine⟨fun i x hx hz=>?_,fun i x hx hz=>?_,fun i x hx hz=>?_,fun i x hx hz=>?_,fun i x hx hz=>?_,fun i x hx hz=>?_,fun i m x y him hx hy hz e=>?_⟩
 ·rcases g hx with⟨_,rfl⟩|⟨_,q⟩
  ·dsimp only at hz;omega
  ·exact h.zero i x q hz
 ·rcases g hx with⟨_,rfl⟩|⟨_,q⟩
  ·exact⟨by dsimp only;omega,by dsimp only;omega⟩
  ·have:=h.lease i x q hz;exact⟨by omega,by omega⟩
 ·rcases g hx with⟨_,rfl⟩|⟨_,q⟩
  ·exact⟨by dsimp only;omega,by dsimp only;omega⟩
  ·exact h.worker i x q hz
 ·rcases g hx with⟨_,rfl⟩|⟨_,q⟩
  ·exact⟨by dsimp only;omega,by dsimp only;omega⟩
  ·exact h.til i x q hz
 ·rcases g hx with⟨rfl,rfl⟩|⟨_,q⟩
  ·exact hr
  ·exact h.res i x q hz
 ·rcases g hx with⟨rfl,rfl⟩|⟨_,q⟩
  ·exact hd
  ·exact h.ready i x q hz
 ·rcases g hx with⟨a,rfl⟩|⟨a,qx⟩
  ·rcases g hy with⟨b,rfl⟩|⟨_,qy⟩
   ·omega
   ·have:=(h.lease m y qy hz).2;dsimp only at e;omega
  ·rcases g hy with⟨_,rfl⟩|⟨_,qy⟩
   ·have hx0:¬x.lease = 0:=fun w=>by dsimp only at e;omega
    have:=(h.lease i x qx hx0).2;dsimp only at e;omega
   ·exact h.once i m x y him qx qy hz e
end Go.K
end
section
open Go Go.Tm Go.Proofs
namespace Go.K
abbrev u8s(l:List Int):T:=.slc [false] (l.map b1T)
theorem sK:XT 17 16 Try.f17 [(2,33,true)]:=@xM _ _ _ _ Try.func17 rfl rfl rfl KR KR
theorem qR:XT 20 41 Try.f20 [(2,52,false)]:=@xM _ _ _ _ Try.func20 rfl rfl rfl KR KR
theorem kw:XT 30 99 Try.f30 [(4,3,false)]:=@xM _ _ _ _ Try.func30 rfl rfl rfl KR KR
theorem oE:XT 47 69 Try.f47 [(2,33,true)]:=@xM _ _ _ _ Try.func47 rfl rfl rfl KR KR
theorem cL:XT 48 140 Try.f48 [(4,33,true)]:=@xM _ _ _ _ Try.func48 rfl rfl rfl KR KR
theorem aS:XT 51 50 Try.f51 [(2,57,true)]:=@xM _ _ _ _ Try.func51 rfl rfl rfl KR KR
theorem yp:XT 73 20 Try.f73 [(4,9,false)]:=@xM _ _ _ _ Try.func73 rfl rfl rfl KR KR
abbrev rdC(l:List Int)(pos:Int):List V:=[.t (u8s l),.t (.i pos)]
def hL(l:List Int):Prop:=l.length≤2000∧∀ x∈l,0≤x∧x≤255
theorem pv(l:List Int)(h:l.length≤1099511627776):F yM [.val (.t (u8s l))] (.tup [.tup (rdC (l.take 2000) 0)]) [[]]:=by
 refine zj ?_
 conv=>whnf
 refine g 0 0 []<|J UA<|W.sq<|g 3 5 []<|J UC<|W.cn<|J (fun h1=>?_) fun h1=>?_
 replace h1:=dt h1
 simp only[LM]at h1
 refine rg [.n (2000)]<|J ⟨I,⟨I,rfl,I,OM,LN⟩,I,I⟩<|g 5 11 []<|J ⟨I,I,UB,I,I⟩<|RT ?_
 rotate_left
 replace h1:=df h1
 simp only[LM]at h1
 refine W.skip<|g 5 11 []<|J ⟨I,I,UB,I,I⟩<|RT ?_
 rotate_left
 ·rw[List.drop_zero,←List.map_take]
 ·rw[List.take_of_length_le OM]
theorem r9{x n:Int}(hx:0≤x)(hn:0 < n):0≤x.tmod n∧x.tmod n < n:=⟨Int.tmod_nonneg _ hx,Int.tmod_lt_of_pos _ hn⟩
theorem xU{x n:Int}(hx:0≤x)(hn:0 < n):0≤x.tdiv n∧x.tdiv n≤x:=by
 rw[Int.tdiv_eq_ediv_of_nonneg hx]
 exact⟨Int.ediv_nonneg hx OM,Int.ediv_le_self _ hx⟩
theorem Pa{x y:Int}(hx:0≤x)(hx2:x < 1099511627776)(hy:0≤y)(hy2:y < 1099511627776):0≤IntKind.i64.wrap ↑(BitVec.ofInt IntKind.i64.bits x ^^^ BitVec.ofInt IntKind.i64.bits y).toNat:=by
 have e1:(BitVec.ofInt IntKind.i64.bits x).toNat = x.toNat:=by
  rw[BitVec.toNat_ofInt]
  show(x % ((2 ^ 64:Nat):Int)).toNat = _
  rw[Int.emod_eq_of_lt hx OM]
 have e2:(BitVec.ofInt IntKind.i64.bits y).toNat = y.toNat:=by
  rw[BitVec.toNat_ofInt]
  show(y % ((2 ^ 64:Nat):Int)).toNat = _
  rw[Int.emod_eq_of_lt hy OM]
 have h:x.toNat ^^^ y.toNat < 2 ^ 40:=Nat.xor_lt_two_pow OM OM
 rw[BitVec.toNat_xor,e1,e2]
 have:(2:Nat) ^ 40 = 1099511627776:=by decide
 rw[wO]
 omega
theorem PI(l:List Int)(pos n:Int)(hl:hL l)(h0:0≤pos)(h1:pos≤1048576)(hn:n≤1048576):∃ res outs,(∃ v,res = .i v∧outs = [rdC l (pos+1),[]]∧0≤v∧(v < n∨v = 0))∧F eH [.ptr (rdC l pos),.val (.i n)] res outs:=by
 obtain⟨hl1,hl2⟩:=hl
 by_cases hz:l.length = 0
 ·refine kw ?_
  conv=>whnf
  refine g 0 0 []<|J UA<|g 7 15 [.i (pos+1)]<|J ⟨I,I,I,I,I,wO,I,I,UA,I⟩<|W.sq ?_
  by_cases h2:n < (1:Int)
  refine g 15 24 [BT,BT,BT,BT,BT,BT,BT]<|J ⟨I,I,I,tO,tO,tO,tO,tO,tO,tO,I⟩<|W.cn<|J (fun _=>(g 24 25 []<|J UA (W.ret (EndsW.rt<|J UB ?_)))) (noF rfl)
  rotate_left
  refine g 15 24 [BF,BF,BF,BF,BF,BF,BF]<|J ⟨I,I,I,⟨dO,I⟩,⟨dO,I⟩,⟨dO,I⟩,⟨dO,I⟩,⟨dO,I⟩,⟨dO,I⟩,dO,I⟩<|W.cn<|J (fun _=>(g 24 25 []<|J UA (W.ret (EndsW.rt<|J UB ?_)))) (noF SI)
  rotate_left
  all_goals exact⟨0,rfl,rfl,by omega,.inr rfl⟩
 ·have hp:(0:Int) < ((l.map b1T).length:Int):=by rw[List.length_map];omega
  have hlm:((l.map b1T).length:Int) = l.length:=by rw[List.length_map]
  obtain⟨m1,m2⟩:=r9 (x:=pos+1 - 1) OM hp
  obtain⟨m3,m4⟩:=r9 (x:=(pos+1 - 1) * 7+3) OM hp
  obtain⟨m5,m6⟩:=xU (x:=pos+1 - 1) OM hp
  rw[hlm]at m1 m2 m3 m4 m5 m6
  refine kw ?_
  conv=>whnf
  refine g 0 0 []<|J UA<|g 7 15 [.i (pos+1)]<|J ⟨I,I,I,I,I,wO,I,I,UA,I⟩<|W.sq ?_
  by_cases h2:n < (1:Int)
  refine g 15 24 [BT,BT,BT,BT,BT,BT,BT]<|J ⟨I,I,I,tO,tO,tO,tO,tO,tO,tO,I⟩<|W.cn<|J (fun _=>(g 24 25 []<|J UA (W.ret (EndsW.rt<|J UB ?_)))) (noF rfl)
  rotate_left
  refine g 15 24 [BF,BF,BF,BF,BF,BF,BF]<|J ⟨I,I,I,⟨dO,I⟩,⟨dO,I⟩,⟨dO,I⟩,⟨dO,I⟩,⟨dO,I⟩,⟨dO,I⟩,dO,I⟩<|W.cn<|J (noT dO) fun _=>W.skip<|g 24 30 [.i (pos+ (1:Int) - 1)]<|J ⟨I,I,I,I,wO,I,I⟩<|W.sq<|g 30 36 []<|J UG<|W.cn<|J (fun h3=>?_) fun h3=>?_
  replace h3:=dt h3
  simp only[LM]at h3
  obtain⟨y1,hy1⟩:=aj (xs:=l) (n:=Int.toNat (pos+ (1:Int) - (1:Int))) OM
  have hm1:=hl2 y1 (List.mem_of_getElem? hy1)
  refine g 36 47 [.x (b1T y1),.i (y1),.i (Int.tmod y1 n)]<|J ⟨I,I,I,I,I,Zdj,I,wO,I,Zdr,I,I⟩<|W.ret<|EndsW.rt<|J UB ?_
  rotate_left
  replace h3:=df h3
  simp only[LM]at h3
  refine W.skip ?_
  obtain⟨y1,hy1⟩:=aj (xs:=l) (n:=Int.toNat (Int.tmod (pos+ (1:Int) - (1:Int)) (↑(List.length (List.map b1T l)):Int))) (by simp only[LM]at *;omega)
  have hm1:=hl2 y1 (List.mem_of_getElem? hy1)
  obtain⟨y2,hy2⟩:=aj (xs:=l) (n:=Int.toNat (Int.tmod ((pos+ (1:Int) - (1:Int)) * (7:Int) + (3:Int)) (↑(List.length (List.map b1T l)):Int))) (by simp only[LM]at *;omega)
  have hm2:=hl2 y2 (List.mem_of_getElem? hy2)
  refine gd 36 92 [[],[],[],[],[],[],[],[],[],[],[.i (Int.tmod (pos+ (1:Int) - 1) (↑(List.length (List.map b1T l)):Int))],[.x (b1T y1)],[],[.i (y1)],[.i (y1 * 131)],[],[],[],[],[],[.i ((pos+ (1:Int) - 1) * 7)],[.i ((pos+ (1:Int) - 1) * 7+3)],[],[],[],[],[],[.i (Int.tmod ((pos+ (1:Int) - 1) * 7+3) (↑(List.length (List.map b1T l)):Int))],[.x (b1T y2)],[],[.i (y2)],[.i (y2 * 1117)],[.i (y1 * 131+y2 * 1117)],[],[.i ((pos+ (1:Int) - 1) * 29)],[.i (y1 * 131+y2 * 1117+ (pos+ (1:Int) - 1) * 29)],[],[],[],[],[],[],[.i (Int.tdiv (pos+ (1:Int) - 1) (↑(List.length (List.map b1T l)):Int))],[.i (Int.tdiv (pos+ (1:Int) - 1) (↑(List.length (List.map b1T l)):Int) * 53)],[.i (y1 * 131+y2 * 1117+ (pos+ (1:Int) - 1) * 29+Int.tdiv (pos+ (1:Int) - 1) (↑(List.length (List.map b1T l)):Int) * 53)],[]] ?_
  conv=>whnf
  refine J ⟨I,I,I,I,I,I,I,I,I,I,Zdr,⟨LN,xA⟩,I,wO,wO,I,I,I,I,I,wO,wO,I,I,I,I,I,Zdr,⟨LN,xA⟩,I,wO,wO,wO,I,wO,wO,I,I,I,I,I,I,⟨OM,w64 LN LN⟩,w64 LN LN,w64 LN LN,I,I⟩<|J KR<|g 92 96 [.i (IntKind.wrap IntKind.i64 (Int.tdiv (y1 * 131+y2 * 1117+ (pos+ (1:Int) - 1) * 29+Int.tdiv (pos+ (1:Int) - 1) (↑(List.length (List.map b1T l)):Int) * 53) 64)),.i (IntKind.wrap IntKind.i64 (↑(BitVec.toNat (BitVec.ofInt (IntKind.bits IntKind.i64) (y1 * 131+y2 * 1117+ (pos+ (1:Int) - 1) * 29+Int.tdiv (pos+ (1:Int) - 1) (↑(List.length (List.map b1T l)):Int) * 53) ^^^ BitVec.ofInt (IntKind.bits IntKind.i64) (IntKind.wrap IntKind.i64 (Int.tdiv (y1 * 131+y2 * 1117+ (pos+ (1:Int) - 1) * 29+Int.tdiv (pos+ (1:Int) - 1) (↑(List.length (List.map b1T l)):Int) * 53) 64)))):Int))]<|J ⟨I,I,Zdr,rfl,I,I⟩<|g 5 99 [.i (Int.tmod (IntKind.wrap IntKind.i64 (↑(BitVec.toNat (BitVec.ofInt (IntKind.bits IntKind.i64) (y1 * 131+y2 * 1117+ (pos+ (1:Int) - 1) * 29+Int.tdiv (pos+ (1:Int) - 1) (↑(List.length (List.map b1T l)):Int) * 53) ^^^ BitVec.ofInt (IntKind.bits IntKind.i64) (IntKind.wrap IntKind.i64 (Int.tdiv (y1 * 131+y2 * 1117+ (pos+ (1:Int) - 1) * 29+Int.tdiv (pos+ (1:Int) - 1) (↑(List.length (List.map b1T l)):Int) * 53) 64)))):Int)) n)]<|J ⟨I,I,Zdr,I,I⟩<|W.ret<|EndsW.rt<|J UB ?_
  rotate_left
  ·exact⟨0,rfl,rfl,by omega,.inr rfl⟩
  ·obtain⟨k1,k2⟩:=r9 (x:=y1) (n:=n) OM OM
   exact⟨_,rfl,rfl,k1,.inl k2⟩
  ·obtain⟨q5,q6⟩:=xU (x:=pos+1 - 1) OM hp
   have hX:0≤y1 * 131+y2 * 1117+ (pos+1 - 1) * 29+ (pos+1 - 1).tdiv ↑(l.map b1T).length * 53∧y1 * 131+y2 * 1117+ (pos+1 - 1) * 29+ (pos+1 - 1).tdiv ↑(l.map b1T).length * 53 < 1099511627776:=by omega
   obtain⟨q7,q8⟩:=xU (n:=64) hX.1 OM
   obtain⟨k1,k2⟩:=r9 (n:=n) (Pa hX.1 hX.2 (y:=IntKind.i64.wrap ((y1 * 131+y2 * 1117+ (pos+1 - 1) * 29+ (pos+1 - 1).tdiv ↑(l.map b1T).length * 53).tdiv 64)) (by rw[wO];omega) (by rw[wO];omega)) OM
   exact⟨_,rfl,rfl,k1,.inl k2⟩
theorem ye(l:List Int)(pos n:Int)(h:hL l∧0≤pos∧pos≤1048576∧n≤1048576):∃ v,F eH [.ptr (rdC l pos),.val (.i n)] (.i v) [rdC l (pos+1),[]]∧0≤v∧(v < n∨v = 0):=by
 obtain⟨res,outs,⟨v,rfl,rfl,h0⟩,hF⟩:=PI l pos n h.1 h.2.1 h.2.2.1 h.2.2.2
 exact⟨v,hF,h0⟩
open Classical in
noncomputable def ai(l:List Int)(pos n:Int):Int:=if h:hL l∧0≤pos∧pos≤1048576∧n≤1048576 then(ye l pos n h).choose else 0
theorem aa(l:List Int)(pos n:Int)(hl:hL l)(h0:0≤pos)(h1:pos≤1048576)(hn:n≤1048576):F eH [.ptr (rdC l pos),.val (.i n)] (.i (ai l pos n)) [rdC l (pos+1),[]]:=by
 have h:hL l∧0≤pos∧pos≤1048576∧n≤1048576:=⟨hl,h0,h1,hn⟩
 rw[ai,dif_pos h]
 exact(ye l pos n h).choose_spec.1
theorem aE(l:List Int)(pos n:Int):0≤ai l pos n∧(ai l pos n < n∨ai l pos n = 0):=by
 unfold ai
 split
 ·rename_i h;exact(ye l pos n h).choose_spec.2
 ·exact⟨Int.le_refl _,.inr rfl⟩
end Go.K
end
section
open Go Go.Tm Go.Proofs
namespace Go.K
def cZ(p:Plan):Prop:=p.tasks.length≤64∧∀ t∈p.tasks,t.name.size≤64∧t.deps.length≤64
def en(n:Int):ByteArray:=if n < 10 then bl [48+n]else bl [48+n.tdiv 10] ++bl [48+n.tmod 10]
theorem hJ(n:Int):(en n).size≤2:=by
 unfold en;split
 ·rw[gB];simp
 ·rw[ByteArray.size_append,gB,gB];simp
theorem Pi{n:Int}(h:0≤n):n.tdiv 10 = n / 10:=Int.tdiv_eq_ediv_of_nonneg h
theorem Pg{n:Int}(h:0≤n):n.tmod 10 = n % 10:=Int.tmod_eq_emod_of_nonneg h
theorem N1(n:Int)(h0:0≤n)(h1:n < 10):F rG [.val (.i n)] (.s (en n)) [[]]:=by
 have e:en n = bl [48+n]:=if_pos h1
 refine rL ?_
 conv=>whnf
 refine g 0 0 []<|J UA<|W.sq<|g 3 4 []<|J UB<|W.cn<|J (noT dO) fun _=>W.skip<|W.sq<|g 4 5 []<|J UB<|W.cn<|J (fun _=>(g 10 16 [.i (48+n),.i (48+n),.s ({data:=List.toArray (bO [[T.v (Value.int IntKind.u8 (48+n))]]):ByteArray})]<|J ⟨I,wO,wu8 OM OM,US,⟨I,(by repeat (first|exact lq|refine ju ?_)),rfl⟩,I,I⟩ ?_)) (noF tO)
 refine RT ?_
 rw[e];exact vs (sG [48+n])
theorem gi(n:Int)(h0:0≤n)(h1:n < 100):F rG [.val (.i n)] (.s (en n)) [[]]:=by
 by_cases h2:n < 10
 ·exact N1 n h0 h2
 ·have e:en n = bl [48+n.tdiv 10] ++bl [48+n.tmod 10]:=if_neg h2
  have q1:=Pi h0
  have q2:=Pg h0
  have e2:en (n.tdiv 10) = bl [48+n.tdiv 10]:=if_pos OM
  have c:=N1 (n.tdiv 10) OM OM
  have hsz:=hJ (n.tdiv 10)
  refine rL ?_
  conv=>whnf
  refine g 0 0 []<|J UA<|W.sq<|g 3 4 []<|J UB<|W.cn<|J (noT dO) fun _=>W.skip<|W.sq<|g 4 5 []<|J UB<|W.cn<|J (noT dO) fun _=>W.skip<|gd 10 26 [[],[.i (Int.tdiv n 10)],[.call (V.s (en (Int.tdiv n 10))) [[]]],[],[.i (Int.tmod n 10)],[.i (48+Int.tmod n 10)],[.i (48+Int.tmod n 10)],[],[.s ({data:=List.toArray (bO [[T.v (Value.int IntKind.u8 (48+Int.tmod n 10))]]):ByteArray})],[.s (en (Int.tdiv n 10) ++ {data:=List.toArray (bO [[T.v (Value.int IntKind.u8 (48+Int.tmod n 10))]]):ByteArray})],[]] ?_
  conv=>whnf
  refine J ⟨I,⟨OM,wO⟩,Zai,I,Zdr,wO,wu8 OM OM,US,⟨I,(by repeat (first|exact lq|refine ju ?_)),rfl⟩,⟨rfl,(by simp only[bsz,ByteArray.size_append,tf];omega)⟩,I,I⟩<|J KR ?_
  refine RT ?_
  rw[e,e2];exact vs (congrArg (bl [48+n.tdiv 10] ++·) (sG [48+n.tmod 10]))
theorem kp(p:Plan)(h:cZ p):F yL [.val (cE p)] (dE p) [[]]:=by
 obtain⟨hp1,hp2⟩:=h
 refine zi ?_
 conv=>whnf
 refine g 0 0 []<|J Zdu<|g 6 7 []<|J ⟨I,I,UA,I⟩<|W.sq<|g 0 0 []<|J UA<|W.blk<|W.lp (fun s (n:Nat)=>⟨[(0,s.s 0),(1,s.s 1),(2,s.s 2),(3,s.s 3),(4,.i n)],[(1,[s.c 1 0]),(2,[s.c 2 0]),(34,[s.c 34 0]),(3,[.own dM ((p.tasks.take n).map aC)])],[]⟩) (fun(n:Nat)=>n≤p.tasks.length) (fun(n:Nat)=>p.tasks.length - n) (0) [some 1,some 2,some 34,some 3] [] ⟨rfl,⟨Zag,rfl,rfl,rfl,rfl,I⟩,⟨Zad,⟨Zad,⟨Zad,Zdp⟩⟩⟩,I⟩ OM ?_
 intro n hn
 conv=>whnf
 refine W.sq<|g 7 11 []<|J UE<|W.cn<|J (fun h1=>?_) fun h1=>?_
 replace h1:=dt h1
 simp only[LM]at h1
 refine W.skip<|W.sq<|W.blk ?_
 obtain⟨y1,hy1⟩:=aj (xs:=Plan.tasks p) (n:=n) OM
 have hm1:=hp2 y1 (List.mem_of_getElem? hy1)
 refine g 11 19 [.x (aC y1)]<|J Zbf<|rgd [[],[],[],[],[],[],[],[],[],[],[],[],[],[],[]] ?_
 conv=>whnf
 refine J ⟨I,I,I,I,I,I,I,I,I,Zdi,I,⟨UC,I⟩,Zdi,I,UA,I⟩<|J KR<|rg [.i ((n:Int) +1)]<|J Zdf ?_
 rotate_left
 replace h1:=df h1
 simp only[LM]at h1
 refine W.exit<|g 3 34 []<|J UV<|RT ?_
 rotate_left
 ·refine⟨n+1,[some 1,some 2,some 34,some 3],[],⟨rfl,⟨Zag,rfl,rfl,rfl,rfl,I⟩,⟨Zad,⟨Zad,⟨Zad,⟨⟨rfl,⟨(congrArg (V.own _) (oc AS)),I⟩⟩,I⟩⟩⟩⟩,I⟩,?_,?_⟩
  rotate_left
  (dsimp only;omega)
  dsimp only
  omega
 ·rw[bF OM]
theorem Jx{m t:Int}(h:0≤m):(m / 2) * (t+t) = m * t - (m % 2) * t:=by
 have e:m * t = (2 * (m / 2) +m % 2) * t:=by rw[show 2 * (m / 2) +m % 2 = m by omega]
 rw[e,Int.add_mul,Int.mul_add,Int.mul_assoc,Int.two_mul];omega
theorem PJ(s:ByteArray)(n:Int)(h0:0≤n)(h1:n≤64)(hs:s.size≤64):∃ res outs,(∃ t,res = .s t∧outs = [[],[]]∧(t.size:Int)≤4096)∧F kb [.val (.s s),.val (.i n)] res outs:=by
 have hns:n * (s.size:Int)≤4096:=by
  have:=Int.mul_le_mul_of_nonneg_right h1 (show(0:Int)≤s.size by omega)
  omega
 refine yp ?_
 conv=>whnf
 refine g 0 0 []<|J UA<|g 0 0 []<|J UA<|W.sq<|W.blk ?_
 refine W.lp (fun s (x:ByteArray×ByteArray×Int)=>⟨[(0,.s x.2.1),(1,.i x.2.2),(4,s.s 4),(5,.s x.1)],[],[]⟩) (fun(x:ByteArray×ByteArray×Int)=>0≤x.2.2∧x.2.2≤64∧(x.1.size:Int) +x.2.2 * x.2.1.size≤4096) (fun(x:ByteArray×ByteArray×Int)=>x.2.2.toNat) ((emp,s,n)) [] [] ⟨rfl,⟨rfl,rfl,rfl,rfl,I⟩,I,I⟩ ?_ ?_
 ·refine⟨h0,h1,?_⟩
  have:emp.size = 0:=rfl
  show((emp.size:Nat):Int) +n * s.size≤4096
  omega
 rintro⟨o,t,m⟩ ⟨hm0,hm1,hsz⟩
 dsimp only at hm0 hm1 hsz
 have q1:m.tdiv 2 = m / 2:=Int.tdiv_eq_ediv_of_nonneg hm0
 have q2:m.tmod 2 = m % 2:=Int.tmod_eq_emod_of_nonneg hm0
 have q3:=Jx (t:=(t.size:Int)) hm0
 by_cases hm:0 < m
 ·have q4:=Int.mul_le_mul_of_nonneg_right (show 1≤m by omega) (show(0:Int)≤t.size by omega)
  rw[Int.one_mul]at q4
  by_cases ho:m.tmod 2 = 1
  ·have q5:m % 2 = 1:=by omega
   rw[q5,Int.one_mul]at q3
   conv=>whnf
   refine W.sq<|g 6 7 []<|J UB<|W.cn<|J (fun _=>(W.skip (W.blk (W.sq (g 7 9 [.i (Int.tmod (Prod.snd (Prod.snd (o,t,m))) 2)]<|J ⟨I,Zdr,I,I⟩ (W.cn<|J (fun _=>(rg [.s (Prod.fst (o,t,m) ++Prod.fst (Prod.snd (o,t,m)))]<|J ⟨I,I,Zdh,I,I⟩ (g 10 17 [.s (Prod.fst (Prod.snd (o,t,m)) ++Prod.fst (Prod.snd (o,t,m)))]<|J ⟨I,I,Zdh,I,I⟩ (rg [.i (Int.tdiv (Prod.snd (Prod.snd (o,t,m))) 2)]<|J ⟨I,⟨OM,w64 LN LN⟩,I,I⟩ ?_)))) (noF tO))))))) (noF tO)
   refine⟨(o++t,t++t,m / 2),[],[],⟨rfl,⟨rfl,(congrArg (fun z=>V.t (T.v (Value.int _ z))) (q1)),rfl,rfl,I⟩,I,I⟩,?_,?_⟩
   rotate_left
   (dsimp only;omega)
   dsimp only
   refine⟨by omega,by omega,?_⟩
   rw[ByteArray.size_append,ByteArray.size_append,Int.natCast_add,Int.natCast_add,q3];omega
  ·have q5:m % 2 = 0:=by omega
   rw[q5,Int.zero_mul]at q3
   conv=>whnf
   refine W.sq<|g 6 7 []<|J UB<|W.cn<|J (fun _=>(W.skip (W.blk (W.sq (g 7 9 [.i (Int.tmod (Prod.snd (Prod.snd (o,t,m))) 2)]<|J ⟨I,Zdr,I,I⟩ (W.cn<|J (noT dO) fun _=>(W.skip (g 10 17 [.s (Prod.fst (Prod.snd (o,t,m)) ++Prod.fst (Prod.snd (o,t,m)))]<|J ⟨I,I,Zdh,I,I⟩ (rg [.i (Int.tdiv (Prod.snd (Prod.snd (o,t,m))) 2)]<|J ⟨I,⟨OM,w64 LN LN⟩,I,I⟩ ?_))))))))) (noF tO)
   refine⟨(o,t++t,m / 2),[],[],⟨rfl,⟨rfl,(congrArg (fun z=>V.t (T.v (Value.int _ z))) (q1)),rfl,rfl,I⟩,I,I⟩,?_,?_⟩
   rotate_left
   (dsimp only;omega)
   dsimp only
   refine⟨by omega,by omega,?_⟩
   rw[ByteArray.size_append,Int.natCast_add,q3];omega
 ·conv=>whnf
  refine W.sq<|g 6 7 []<|J UB<|W.cn<|J (noT dO) fun _=>W.exit<|g 5 20 []<|J UB<|W.ret<|EndsW.rt<|J UB ?_
  rw[show m = 0 by omega,Int.zero_mul]at hsz
  exact⟨o,rfl,rfl,by omega⟩
theorem PK(l:List Int)(pos:Int)(hl:hL l)(h0:0≤pos)(h1:pos≤1000000):∃ res outs,(∃ p pos2,res = dE p∧outs = [rdC l pos2]∧cZ p∧1≤p.tasks.length∧pos≤pos2∧pos2≤pos+4000)∧F kc [.ptr (rdC l pos)] res outs:=by
 have hp1:=aE l pos 6
 have hp2:=aE l (pos+1) 12
 by_cases h12:ai l (pos+1) 12 = 0
 ·refine oE ?_
  conv=>whnf
  refine g 0 0 []<|J UA<|g 9 11 [.call (V.i (ai l pos 6)) ([rdC l (pos+1),[]]),.i (1+ai l pos 6)]<|J ⟨I,⟨UB,I,UV,UA,aa _ _ _ OM OM OM OM⟩,wO,I,I⟩<|W.sq<|g 11 13 [.call (V.i (ai l (pos+1) 12)) ([rdC l (pos+1+1),[]])]<|J ⟨I,⟨UB,I,UV,UA,aa _ _ _ OM OM OM OM⟩,I,I⟩<|W.cn<|J (fun _=>(rg []<|J UA (g 13 15 []<|J ⟨I,I,UA,I⟩ (W.sq (g 0 0 []<|J UA (W.blk (W.lp (fun s (x:Nat×List Task×Int)=>⟨[(0,s.s 0),(2,s.s 2),(3,s.s 3),(4,s.s 4),(5,.i x.1),(8,s.s 8)],[(2,[s.c 2 0]),(69,[.t (u8s l),.t (.i x.2.2)]),(4,[.own dM (x.2.1.map aC)])],[]⟩) (fun(x:Nat×List Task×Int)=>(x.1:Int)≤40∧x.2.1.length = x.1∧(∀ t∈x.2.1,t.name.size≤64∧t.deps.length≤64)∧pos+2≤x.2.2∧x.2.2≤pos+2+90 * x.1) (fun(x:Nat×List Task×Int)=>((40:Int) - x.1).toNat) ((0,[],pos+2)) [some 2,some 69,some 4] [] ⟨rfl,Zay,⟨Zad,⟨⟨rfl,⟨rfl,⟨(congrArg (fun z=>V.t (T.v (Value.int _ z))) (by show pos+1+1 = pos+2;omega)),I⟩⟩⟩,Zdp⟩⟩,I⟩ (by simp) ?_))))))) (noF tO)
  rintro⟨i,ts,q⟩ ⟨hi,hlen,hsm,hq1,hq2⟩
  dsimp only at hi hlen hsm hq1 hq2
  have p5:=aE l q 5
  have p8:=aE l (q+1) 8
  by_cases hi2:(i:Int) < 40
  ·have cd:=gi i OM OM
   have hds:=hJ i
   by_cases h8:ai l (q+1) 8 = 0
   ·skip
    conv=>whnf
    refine W.sq<|g 15 17 []<|J UC<|W.cn<|J (fun _=>(W.skip (W.sq (W.blk (g 17 27 [.call (V.s (en (i:Int))) [[]],.s ({data:=#[(116:UInt8)]:ByteArray} ++en (i:Int)),.call (V.i (ai l q 5)) ([rdC l (q+1),[]]),.i (1+ai l q 5)]<|J ⟨I,Zai,⟨rfl,(by simp only[bsz,bsa,ByteArray.size_append,List.size_toArray,tf];omega)⟩,I,⟨UB,I,UV,UA,aa _ _ _ (by first|omega|decide|assumption|(simp only[ByteArray.size_extract,List.length_map];omega)|simp[*]) (by first|omega|decide|assumption|(simp only[ByteArray.size_extract,List.length_map];omega)|simp[*]) (by first|omega|decide|assumption|(simp only[ByteArray.size_extract,List.length_map];omega)|simp[*]) (by first|omega|decide|assumption|(simp only[ByteArray.size_extract,List.length_map];omega)|simp[*])⟩,wO,I,I,UC,I⟩ (W.sq (g 27 29 [.call (V.i (ai l (q+1) 8)) ([rdC l (q+1+1),[]])]<|J ⟨I,⟨UB,I,UV,UA,aa _ _ _ OM OM OM OM⟩,I,I⟩ (W.cn<|J (fun _=>(rg []<|J UV (W.sq ?_))) (noF tO))))))))) (noF tO)
    refine g 29 31 []<|J UA<|W.blk<|W.lp (fun s (y:Nat×List Int×Int)=>⟨[(0,s.s 0),(2,s.s 2),(3,s.s 3),(4,s.s 4),(5,s.s 5),(6,s.s 6),(7,.i y.1),(8,s.s 8)],[(2,[s.c 2 0]),(4,[s.c 4 0]),(69,[.t (u8s l),.t (.i y.2.2)]),(6,[.t (.s ((⟨#[116]⟩:ByteArray) ++en i)),.t (.i (20)),.own [false] (y.2.1.map dJ)])],[]⟩) (fun(y:Nat×List Int×Int)=>y.1≤i∧y.2.1.length≤y.1∧y.2.1.length≤8∧q+2≤y.2.2∧y.2.2≤q+2+2 * y.1) (fun(y:Nat×List Int×Int)=>i - y.1) ((0,[],q+2)) [some 2,some 4,some 69,some 6] [] ⟨rfl,Zar,⟨Zad,⟨Zad,⟨⟨rfl,⟨rfl,⟨(congrArg (fun z=>V.t (T.v (Value.int _ z))) (by show q+1+1 = q+2;omega)),I⟩⟩⟩,Zee⟩⟩⟩,I⟩ (by simp) ?_
    rintro⟨k,ds,u⟩ ⟨g1,g2,g3,g4,g5⟩
    dsimp only at g1 g2 g3 g4 g5
    have p3:=aE l u 3
    have p2:=aE l (u+1) 2
    by_cases hk:k < i
    ·by_cases hd:ds.length < 8
     ·by_cases h3:ai l u 3 = 0
      ·conv=>whnf
       refine W.sq<|g 35 39 [BT,BT,BT,BT,BT]<|J Zaq<|W.cn<|J (fun h2=>?_) fun h2=>?_
       replace h2:=dt h2
       simp only[LM]at h2
       refine W.skip<|W.sq<|W.blk<|g 39 55 [.call (V.i (ai l u 3)) ([rdC l (u+1),[]]),BT,BT,BT,BT,BT,BF,BF,BF,BT,BT]<|J ⟨I,⟨UB,I,UV,UA,aa _ _ _ (by first|omega|decide|assumption|(simp only[ByteArray.size_extract,List.length_map];omega)|simp[*]) (by first|omega|decide|assumption|(simp only[ByteArray.size_extract,List.length_map];omega)|simp[*]) (by first|omega|decide|assumption|(simp only[ByteArray.size_extract,List.length_map];omega)|simp[*]) (by first|omega|decide|assumption|(simp only[ByteArray.size_extract,List.length_map];omega)|simp[*])⟩,I,I,tO,tO,tO,tO,tO,I,I,I,tO,tO,I⟩<|W.cn<|J (fun _=>(rg []<|J Zcs (rg [.i ((↑(Prod.fst (k,ds,u)):Int) +1)]<|J Zdf ?_))) (noF rfl)
       rotate_left
       replace h2:=df h2
       simp only[LM]at h2
       omega
       refine⟨(k+1,ds++ [(k:Int)],u+1),[some 2,some 4,some 69,some 6],[],⟨rfl,Zar,⟨Zad,⟨Zad,⟨Zd1,⟨⟨rfl,⟨rfl,⟨rfl,⟨(congrArg (V.own _) (by rw[List.map_append];rfl)),I⟩⟩⟩⟩,I⟩⟩⟩⟩,I⟩,?_,?_⟩
       rotate_left
       (dsimp only;omega)
       dsimp only
       exact⟨by omega,by rw[List.length_append];simp;omega,by rw[List.length_append];simp;omega,by first|omega|(dsimp only;omega),by first|omega|(dsimp only;omega)⟩
      ·by_cases hki:(k:Int) = (i:Int) - 1
       ·by_cases h2:ai l (u+1) 2 = 0
        ·conv=>whnf
         refine W.sq<|g 35 39 [BT,BT,BT,BT,BT]<|J Zaq<|W.cn<|J (fun h4=>?_) fun h4=>?_
         replace h4:=dt h4
         simp only[LM]at h4
         refine W.skip<|W.sq<|W.blk<|g 39 55 [.call (V.i (ai l u 3)) ([rdC l (u+1),[]]),BF,BF,BF,.i ((↑(Prod.fst (i,ts,q)):Int) - 1),BF,BF,BT,BT,.call (V.i (ai l (u+1) 2)) ([rdC l (u+1+1),[]]),BT,BF,BT,BF]<|J ⟨I,⟨UB,I,UV,UA,aa _ _ _ (by first|omega|decide|assumption|(simp only[ByteArray.size_extract,List.length_map];omega)|simp[*]) (by first|omega|decide|assumption|(simp only[ByteArray.size_extract,List.length_map];omega)|simp[*]) (by first|omega|decide|assumption|(simp only[ByteArray.size_extract,List.length_map];omega)|simp[*]) (by first|omega|decide|assumption|(simp only[ByteArray.size_extract,List.length_map];omega)|simp[*])⟩,I,I,⟨dO,I⟩,⟨dO,I⟩,⟨dO,wO⟩,⟨dO,I⟩,⟨dO,I⟩,⟨tO,I⟩,⟨tO,UB,I,UV,UA,aa _ _ _ OM OM OM OM⟩,⟨tO,I⟩,⟨dO,tO⟩,dO,I⟩<|W.cn<|J (fun _=>(rg []<|J Zcs (rg [.i ((↑(Prod.fst (k,ds,u)):Int) +1)]<|J Zdf ?_))) (noF tO)
         rotate_left
         replace h4:=df h4
         simp only[LM]at h4
         omega
         refine⟨(k+1,ds++ [(k:Int)],u+2),[some 2,some 4,some 69,some 6],[],⟨rfl,Zar,⟨Zad,⟨Zad,⟨⟨rfl,⟨rfl,⟨(congrArg (fun z=>V.t (T.v (Value.int _ z))) (by show u+1+1 = u+2;omega)),I⟩⟩⟩,⟨⟨rfl,⟨rfl,⟨rfl,⟨(congrArg (V.own _) (by rw[List.map_append];rfl)),I⟩⟩⟩⟩,I⟩⟩⟩⟩,I⟩,?_,?_⟩
         rotate_left
         (dsimp only;omega)
         dsimp only
         exact⟨by omega,by rw[List.length_append];simp;omega,by rw[List.length_append];simp;omega,by first|omega|(dsimp only;omega),by first|omega|(dsimp only;omega)⟩
        ·conv=>whnf
         refine W.sq<|g 35 39 [BT,BT,BT,BT,BT]<|J Zaq<|W.cn<|J (fun h4=>?_) fun h4=>?_
         replace h4:=dt h4
         simp only[LM]at h4
         refine W.skip<|W.sq<|W.blk<|g 39 55 [.call (V.i (ai l u 3)) ([rdC l (u+1),[]]),BF,BF,BF,.i ((↑(Prod.fst (i,ts,q)):Int) - 1),BF,BF,BT,BT,.call (V.i (ai l (u+1) 2)) ([rdC l (u+1+1),[]]),BT,BF,BT,BF]<|J ⟨I,⟨UB,I,UV,UA,aa _ _ _ (by first|omega|decide|assumption|(simp only[ByteArray.size_extract,List.length_map];omega)|simp[*]) (by first|omega|decide|assumption|(simp only[ByteArray.size_extract,List.length_map];omega)|simp[*]) (by first|omega|decide|assumption|(simp only[ByteArray.size_extract,List.length_map];omega)|simp[*]) (by first|omega|decide|assumption|(simp only[ByteArray.size_extract,List.length_map];omega)|simp[*])⟩,I,I,⟨dO,I⟩,⟨dO,I⟩,⟨dO,wO⟩,⟨dO,I⟩,⟨dO,I⟩,⟨tO,I⟩,⟨tO,UB,I,UV,UA,aa _ _ _ OM OM OM OM⟩,⟨tO,I⟩,⟨dO,tO⟩,dO,I⟩<|W.cn<|J (noT dO) fun _=>W.skip<|rg [.i ((↑(Prod.fst (k,ds,u)):Int) +1)]<|J Zdf ?_
         rotate_left
         replace h4:=df h4
         simp only[LM]at h4
         omega
         refine⟨(k+1,ds,u+2),[some 2,some 4,some 69,some 6],[],⟨rfl,Zar,⟨Zad,⟨Zad,⟨⟨rfl,⟨rfl,⟨(congrArg (fun z=>V.t (T.v (Value.int _ z))) (by show u+1+1 = u+2;omega)),I⟩⟩⟩,Zee⟩⟩⟩,I⟩,?_,?_⟩
         rotate_left
         (dsimp only;omega)
         dsimp only
         omega
       ·conv=>whnf
        refine W.sq<|g 35 39 [BT,BT,BT,BT,BT]<|J Zaq<|W.cn<|J (fun h2=>?_) fun h2=>?_
        replace h2:=dt h2
        simp only[LM]at h2
        refine W.skip<|W.sq<|W.blk<|g 39 55 [.call (V.i (ai l u 3)) ([rdC l (u+1),[]]),BF,BF,BF,.i ((↑(Prod.fst (i,ts,q)):Int) - 1),BF,BF,BF,BF,BF,BF,BF,BF]<|J ⟨I,⟨UB,I,UV,UA,aa _ _ _ (by first|omega|decide|assumption|(simp only[ByteArray.size_extract,List.length_map];omega)|simp[*]) (by first|omega|decide|assumption|(simp only[ByteArray.size_extract,List.length_map];omega)|simp[*]) (by first|omega|decide|assumption|(simp only[ByteArray.size_extract,List.length_map];omega)|simp[*]) (by first|omega|decide|assumption|(simp only[ByteArray.size_extract,List.length_map];omega)|simp[*])⟩,I,I,⟨dO,I⟩,⟨dO,I⟩,⟨dO,wO⟩,⟨dO,I⟩,⟨dO,I⟩,dO,dO,dO,⟨dO,dO⟩,dO,I⟩<|W.cn<|J (noT rfl) fun _=>W.skip<|rg [.i ((↑(Prod.fst (k,ds,u)):Int) +1)]<|J Zdf ?_
        rotate_left
        replace h2:=df h2
        simp only[LM]at h2
        omega
        refine⟨(k+1,ds,u+1),[some 2,some 4,some 69,some 6],[],Zeq,?_,?_⟩
        rotate_left
        (dsimp only;omega)
        dsimp only
        omega
     ·conv=>whnf
      refine W.sq<|g 35 39 [BT,BT,BT,BT,BT]<|J Zaq<|W.cn<|J (fun h2=>?_) fun h2=>?_
      replace h2:=dt h2
      simp only[LM]at h2
      omega
      replace h2:=df h2
      simp only[LM]at h2
      refine W.exit<|rg []<|J Zb8<|rg [.i ((↑(Prod.fst (i,ts,q)):Int) +1)]<|J Zdf ?_
      refine⟨(i+1,ts++ [(⟨((⟨#[116]⟩:ByteArray) ++en i),20,ds⟩:Task)],u),[some 2,some 69,some 4],[],⟨rfl,Zay,⟨Zad,⟨Zd1,⟨⟨rfl,⟨(congrArg (V.own _) (by rw[List.map_append];rfl)),I⟩⟩,I⟩⟩⟩,I⟩,?_,?_⟩
      rotate_left
      (dsimp only;omega)
      dsimp only
      refine⟨by first|omega|(dsimp only;omega),by rw[List.length_append];simp;omega,fun t ht=>?_,by first|omega|(dsimp only;omega),by first|omega|(dsimp only;omega)⟩
      rcases List.mem_append.1 ht with ht|ht
      ·exact hsm t ht
      ·rw[List.mem_singleton.1 ht]
       refine⟨?_,by first|omega|(dsimp only;omega)⟩
       show(((⟨#[116]⟩:ByteArray) ++en i).size)≤64
       rw[ByteArray.size_append]
       have:(⟨#[116]⟩:ByteArray).size = 1:=rfl
       omega
    ·conv=>whnf
     refine W.sq<|g 35 39 [BF,BF,BF,BF,BF]<|J ⟨I,I,I,I,dO,dO,dO,dO,dO,I⟩<|W.cn<|J (noT rfl) fun _=>W.exit<|rg []<|J Zb8<|rg [.i ((↑(Prod.fst (i,ts,q)):Int) +1)]<|J Zdf ?_
     refine⟨(i+1,ts++ [(⟨((⟨#[116]⟩:ByteArray) ++en i),20,ds⟩:Task)],u),[some 2,some 69,some 4],[],⟨rfl,Zay,⟨Zad,⟨Zd1,⟨⟨rfl,⟨(congrArg (V.own _) (by rw[List.map_append];rfl)),I⟩⟩,I⟩⟩⟩,I⟩,?_,?_⟩
     rotate_left
     (dsimp only;omega)
     dsimp only
     refine⟨by first|omega|(dsimp only;omega),by rw[List.length_append];simp;omega,fun t ht=>?_,by first|omega|(dsimp only;omega),by first|omega|(dsimp only;omega)⟩
     rcases List.mem_append.1 ht with ht|ht
     ·exact hsm t ht
     ·rw[List.mem_singleton.1 ht]
      refine⟨?_,by first|omega|(dsimp only;omega)⟩
      show(((⟨#[116]⟩:ByteArray) ++en i).size)≤64
      rw[ByteArray.size_append]
      have:(⟨#[116]⟩:ByteArray).size = 1:=rfl
      omega
   ·skip
    conv=>whnf
    refine W.sq<|g 15 17 []<|J UC<|W.cn<|J (fun _=>(W.skip (W.sq (W.blk (g 17 27 [.call (V.s (en (i:Int))) [[]],.s ({data:=#[(116:UInt8)]:ByteArray} ++en (i:Int)),.call (V.i (ai l q 5)) ([rdC l (q+1),[]]),.i (1+ai l q 5)]<|J ⟨I,Zai,⟨rfl,(by simp only[bsz,bsa,ByteArray.size_append,List.size_toArray,tf];omega)⟩,I,⟨UB,I,UV,UA,aa _ _ _ (by first|omega|decide|assumption|(simp only[ByteArray.size_extract,List.length_map];omega)|simp[*]) (by first|omega|decide|assumption|(simp only[ByteArray.size_extract,List.length_map];omega)|simp[*]) (by first|omega|decide|assumption|(simp only[ByteArray.size_extract,List.length_map];omega)|simp[*]) (by first|omega|decide|assumption|(simp only[ByteArray.size_extract,List.length_map];omega)|simp[*])⟩,wO,I,I,UC,I⟩ (W.sq (g 27 29 [.call (V.i (ai l (q+1) 8)) ([rdC l (q+1+1),[]])]<|J ⟨I,⟨UB,I,UV,UA,aa _ _ _ OM OM OM OM⟩,I,I⟩ (W.cn<|J (noT dO) fun _=>(W.skip (W.sq ?_)))))))))) (noF tO)
    refine g 29 30 []<|J UA<|W.blk<|W.lp (fun s (y:Nat×List Int×Int)=>⟨[(0,s.s 0),(2,s.s 2),(3,s.s 3),(4,s.s 4),(5,s.s 5),(6,s.s 6),(7,.i y.1),(8,s.s 8)],[(2,[s.c 2 0]),(4,[s.c 4 0]),(69,[.t (u8s l),.t (.i y.2.2)]),(6,[.t (.s ((⟨#[116]⟩:ByteArray) ++en i)),.t (.i (1+ai l q 5)),.own [false] (y.2.1.map dJ)])],[]⟩) (fun(y:Nat×List Int×Int)=>y.1≤i∧y.2.1.length≤y.1∧y.2.1.length≤8∧q+2≤y.2.2∧y.2.2≤q+2+2 * y.1) (fun(y:Nat×List Int×Int)=>i - y.1) ((0,[],q+2)) [some 2,some 4,some 69,some 6] [] ⟨rfl,Zar,⟨Zad,⟨Zad,⟨⟨rfl,⟨rfl,⟨(congrArg (fun z=>V.t (T.v (Value.int _ z))) (by show q+1+1 = q+2;omega)),I⟩⟩⟩,Zee⟩⟩⟩,I⟩ (by simp) ?_
    rintro⟨k,ds,u⟩ ⟨g1,g2,g3,g4,g5⟩
    dsimp only at g1 g2 g3 g4 g5
    have p3:=aE l u 3
    have p2:=aE l (u+1) 2
    by_cases hk:k < i
    ·by_cases hd:ds.length < 8
     ·by_cases h3:ai l u 3 = 0
      ·conv=>whnf
       refine W.sq<|g 35 39 [BT,BT,BT,BT,BT]<|J Zaq<|W.cn<|J (fun h2=>?_) fun h2=>?_
       replace h2:=dt h2
       simp only[LM]at h2
       refine W.skip<|W.sq<|W.blk<|g 39 55 [.call (V.i (ai l u 3)) ([rdC l (u+1),[]]),BT,BT,BT,BT,BT,BF,BF,BF,BT,BT]<|J ⟨I,⟨UB,I,UV,UA,aa _ _ _ (by first|omega|decide|assumption|(simp only[ByteArray.size_extract,List.length_map];omega)|simp[*]) (by first|omega|decide|assumption|(simp only[ByteArray.size_extract,List.length_map];omega)|simp[*]) (by first|omega|decide|assumption|(simp only[ByteArray.size_extract,List.length_map];omega)|simp[*]) (by first|omega|decide|assumption|(simp only[ByteArray.size_extract,List.length_map];omega)|simp[*])⟩,I,I,tO,tO,tO,tO,tO,I,I,I,tO,tO,I⟩<|W.cn<|J (fun _=>(rg []<|J Zcs (rg [.i ((↑(Prod.fst (k,ds,u)):Int) +1)]<|J Zdf ?_))) (noF rfl)
       rotate_left
       replace h2:=df h2
       simp only[LM]at h2
       omega
       refine⟨(k+1,ds++ [(k:Int)],u+1),[some 2,some 4,some 69,some 6],[],⟨rfl,Zar,⟨Zad,⟨Zad,⟨Zd1,⟨⟨rfl,⟨rfl,⟨rfl,⟨(congrArg (V.own _) (by rw[List.map_append];rfl)),I⟩⟩⟩⟩,I⟩⟩⟩⟩,I⟩,?_,?_⟩
       rotate_left
       (dsimp only;omega)
       dsimp only
       exact⟨by omega,by rw[List.length_append];simp;omega,by rw[List.length_append];simp;omega,by first|omega|(dsimp only;omega),by first|omega|(dsimp only;omega)⟩
      ·by_cases hki:(k:Int) = (i:Int) - 1
       ·by_cases h2:ai l (u+1) 2 = 0
        ·conv=>whnf
         refine W.sq<|g 35 39 [BT,BT,BT,BT,BT]<|J Zaq<|W.cn<|J (fun h4=>?_) fun h4=>?_
         replace h4:=dt h4
         simp only[LM]at h4
         refine W.skip<|W.sq<|W.blk<|g 39 55 [.call (V.i (ai l u 3)) ([rdC l (u+1),[]]),BF,BF,BF,.i ((↑(Prod.fst (i,ts,q)):Int) - 1),BF,BF,BT,BT,.call (V.i (ai l (u+1) 2)) ([rdC l (u+1+1),[]]),BT,BF,BT,BF]<|J ⟨I,⟨UB,I,UV,UA,aa _ _ _ (by first|omega|decide|assumption|(simp only[ByteArray.size_extract,List.length_map];omega)|simp[*]) (by first|omega|decide|assumption|(simp only[ByteArray.size_extract,List.length_map];omega)|simp[*]) (by first|omega|decide|assumption|(simp only[ByteArray.size_extract,List.length_map];omega)|simp[*]) (by first|omega|decide|assumption|(simp only[ByteArray.size_extract,List.length_map];omega)|simp[*])⟩,I,I,⟨dO,I⟩,⟨dO,I⟩,⟨dO,wO⟩,⟨dO,I⟩,⟨dO,I⟩,⟨tO,I⟩,⟨tO,UB,I,UV,UA,aa _ _ _ OM OM OM OM⟩,⟨tO,I⟩,⟨dO,tO⟩,dO,I⟩<|W.cn<|J (fun _=>(rg []<|J Zcs (rg [.i ((↑(Prod.fst (k,ds,u)):Int) +1)]<|J Zdf ?_))) (noF tO)
         rotate_left
         replace h4:=df h4
         simp only[LM]at h4
         omega
         refine⟨(k+1,ds++ [(k:Int)],u+2),[some 2,some 4,some 69,some 6],[],⟨rfl,Zar,⟨Zad,⟨Zad,⟨⟨rfl,⟨rfl,⟨(congrArg (fun z=>V.t (T.v (Value.int _ z))) (by show u+1+1 = u+2;omega)),I⟩⟩⟩,⟨⟨rfl,⟨rfl,⟨rfl,⟨(congrArg (V.own _) (by rw[List.map_append];rfl)),I⟩⟩⟩⟩,I⟩⟩⟩⟩,I⟩,?_,?_⟩
         rotate_left
         (dsimp only;omega)
         dsimp only
         exact⟨by omega,by rw[List.length_append];simp;omega,by rw[List.length_append];simp;omega,by first|omega|(dsimp only;omega),by first|omega|(dsimp only;omega)⟩
        ·conv=>whnf
         refine W.sq<|g 35 39 [BT,BT,BT,BT,BT]<|J Zaq<|W.cn<|J (fun h4=>?_) fun h4=>?_
         replace h4:=dt h4
         simp only[LM]at h4
         refine W.skip<|W.sq<|W.blk<|g 39 55 [.call (V.i (ai l u 3)) ([rdC l (u+1),[]]),BF,BF,BF,.i ((↑(Prod.fst (i,ts,q)):Int) - 1),BF,BF,BT,BT,.call (V.i (ai l (u+1) 2)) ([rdC l (u+1+1),[]]),BT,BF,BT,BF]<|J ⟨I,⟨UB,I,UV,UA,aa _ _ _ (by first|omega|decide|assumption|(simp only[ByteArray.size_extract,List.length_map];omega)|simp[*]) (by first|omega|decide|assumption|(simp only[ByteArray.size_extract,List.length_map];omega)|simp[*]) (by first|omega|decide|assumption|(simp only[ByteArray.size_extract,List.length_map];omega)|simp[*]) (by first|omega|decide|assumption|(simp only[ByteArray.size_extract,List.length_map];omega)|simp[*])⟩,I,I,⟨dO,I⟩,⟨dO,I⟩,⟨dO,wO⟩,⟨dO,I⟩,⟨dO,I⟩,⟨tO,I⟩,⟨tO,UB,I,UV,UA,aa _ _ _ OM OM OM OM⟩,⟨tO,I⟩,⟨dO,tO⟩,dO,I⟩<|W.cn<|J (noT dO) fun _=>W.skip<|rg [.i ((↑(Prod.fst (k,ds,u)):Int) +1)]<|J Zdf ?_
         rotate_left
         replace h4:=df h4
         simp only[LM]at h4
         omega
         refine⟨(k+1,ds,u+2),[some 2,some 4,some 69,some 6],[],⟨rfl,Zar,⟨Zad,⟨Zad,⟨⟨rfl,⟨rfl,⟨(congrArg (fun z=>V.t (T.v (Value.int _ z))) (by show u+1+1 = u+2;omega)),I⟩⟩⟩,Zee⟩⟩⟩,I⟩,?_,?_⟩
         rotate_left
         (dsimp only;omega)
         dsimp only
         omega
       ·conv=>whnf
        refine W.sq<|g 35 39 [BT,BT,BT,BT,BT]<|J Zaq<|W.cn<|J (fun h2=>?_) fun h2=>?_
        replace h2:=dt h2
        simp only[LM]at h2
        refine W.skip<|W.sq<|W.blk<|g 39 55 [.call (V.i (ai l u 3)) ([rdC l (u+1),[]]),BF,BF,BF,.i ((↑(Prod.fst (i,ts,q)):Int) - 1),BF,BF,BF,BF,BF,BF,BF,BF]<|J ⟨I,⟨UB,I,UV,UA,aa _ _ _ (by first|omega|decide|assumption|(simp only[ByteArray.size_extract,List.length_map];omega)|simp[*]) (by first|omega|decide|assumption|(simp only[ByteArray.size_extract,List.length_map];omega)|simp[*]) (by first|omega|decide|assumption|(simp only[ByteArray.size_extract,List.length_map];omega)|simp[*]) (by first|omega|decide|assumption|(simp only[ByteArray.size_extract,List.length_map];omega)|simp[*])⟩,I,I,⟨dO,I⟩,⟨dO,I⟩,⟨dO,wO⟩,⟨dO,I⟩,⟨dO,I⟩,dO,dO,dO,⟨dO,dO⟩,dO,I⟩<|W.cn<|J (noT rfl) fun _=>W.skip<|rg [.i ((↑(Prod.fst (k,ds,u)):Int) +1)]<|J Zdf ?_
        rotate_left
        replace h2:=df h2
        simp only[LM]at h2
        omega
        refine⟨(k+1,ds,u+1),[some 2,some 4,some 69,some 6],[],Zeq,?_,?_⟩
        rotate_left
        (dsimp only;omega)
        dsimp only
        omega
     ·conv=>whnf
      refine W.sq<|g 35 39 [BT,BT,BT,BT,BT]<|J Zaq<|W.cn<|J (fun h2=>?_) fun h2=>?_
      replace h2:=dt h2
      simp only[LM]at h2
      omega
      replace h2:=df h2
      simp only[LM]at h2
      refine W.exit<|rg []<|J Zb8<|rg [.i ((↑(Prod.fst (i,ts,q)):Int) +1)]<|J Zdf ?_
      refine⟨(i+1,ts++ [(⟨((⟨#[116]⟩:ByteArray) ++en i),1+ai l q 5,ds⟩:Task)],u),[some 2,some 69,some 4],[],⟨rfl,Zay,⟨Zad,⟨Zd1,⟨⟨rfl,⟨(congrArg (V.own _) (by rw[List.map_append];rfl)),I⟩⟩,I⟩⟩⟩,I⟩,?_,?_⟩
      rotate_left
      (dsimp only;omega)
      dsimp only
      refine⟨by first|omega|(dsimp only;omega),by rw[List.length_append];simp;omega,fun t ht=>?_,by first|omega|(dsimp only;omega),by first|omega|(dsimp only;omega)⟩
      rcases List.mem_append.1 ht with ht|ht
      ·exact hsm t ht
      ·rw[List.mem_singleton.1 ht]
       refine⟨?_,by first|omega|(dsimp only;omega)⟩
       show(((⟨#[116]⟩:ByteArray) ++en i).size)≤64
       rw[ByteArray.size_append]
       have:(⟨#[116]⟩:ByteArray).size = 1:=rfl
       omega
    ·conv=>whnf
     refine W.sq<|g 35 39 [BF,BF,BF,BF,BF]<|J ⟨I,I,I,I,dO,dO,dO,dO,dO,I⟩<|W.cn<|J (noT rfl) fun _=>W.exit<|rg []<|J Zb8<|rg [.i ((↑(Prod.fst (i,ts,q)):Int) +1)]<|J Zdf ?_
     refine⟨(i+1,ts++ [(⟨((⟨#[116]⟩:ByteArray) ++en i),1+ai l q 5,ds⟩:Task)],u),[some 2,some 69,some 4],[],⟨rfl,Zay,⟨Zad,⟨Zd1,⟨⟨rfl,⟨(congrArg (V.own _) (by rw[List.map_append];rfl)),I⟩⟩,I⟩⟩⟩,I⟩,?_,?_⟩
     rotate_left
     (dsimp only;omega)
     dsimp only
     refine⟨by first|omega|(dsimp only;omega),by rw[List.length_append];simp;omega,fun t ht=>?_,by first|omega|(dsimp only;omega),by first|omega|(dsimp only;omega)⟩
     rcases List.mem_append.1 ht with ht|ht
     ·exact hsm t ht
     ·rw[List.mem_singleton.1 ht]
      refine⟨?_,by first|omega|(dsimp only;omega)⟩
      show(((⟨#[116]⟩:ByteArray) ++en i).size)≤64
      rw[ByteArray.size_append]
      have:(⟨#[116]⟩:ByteArray).size = 1:=rfl
      omega
  ·conv=>whnf
   refine W.sq<|g 15 17 []<|J UC<|W.cn<|J (noT dO) fun _=>W.exit<|g 3 69 []<|J UV<|W.ret<|EndsW.rt<|J UB ?_
   exact⟨⟨ts⟩,q,rfl,rfl,⟨by first|omega|(dsimp only;omega),hsm⟩,by first|omega|(dsimp only;omega),by omega,by omega⟩
 ·refine oE ?_
  conv=>whnf
  refine g 0 0 []<|J UA<|g 9 11 [.call (V.i (ai l pos 6)) ([rdC l (pos+1),[]]),.i (1+ai l pos 6)]<|J ⟨I,⟨UB,I,UV,UA,aa _ _ _ OM OM OM OM⟩,wO,I,I⟩<|W.sq<|g 11 13 [.call (V.i (ai l (pos+1) 12)) ([rdC l (pos+1+1),[]])]<|J ⟨I,⟨UB,I,UV,UA,aa _ _ _ OM OM OM OM⟩,I,I⟩<|W.cn<|J (noT dO) fun _=>W.skip<|g 13 15 []<|J ⟨I,I,UA,I⟩<|W.sq<|g 0 0 []<|J UA<|W.blk<|W.lp (fun s (x:Nat×List Task×Int)=>⟨[(0,s.s 0),(2,s.s 2),(3,s.s 3),(4,s.s 4),(5,.i x.1),(8,s.s 8)],[(2,[s.c 2 0]),(69,[.t (u8s l),.t (.i x.2.2)]),(4,[.own dM (x.2.1.map aC)])],[]⟩) (fun(x:Nat×List Task×Int)=>(x.1:Int)≤(1+ai l pos 6)∧x.2.1.length = x.1∧(∀ t∈x.2.1,t.name.size≤64∧t.deps.length≤64)∧pos+2≤x.2.2∧x.2.2≤pos+2+90 * x.1) (fun(x:Nat×List Task×Int)=>(((1+ai l pos 6):Int) - x.1).toNat) ((0,[],pos+2)) [some 2,some 69,some 4] [] ⟨rfl,Zay,⟨Zad,⟨⟨rfl,⟨rfl,⟨(congrArg (fun z=>V.t (T.v (Value.int _ z))) (by show pos+1+1 = pos+2;omega)),I⟩⟩⟩,Zdp⟩⟩,I⟩ ⟨by omega,by simp⟩ ?_
  rintro⟨i,ts,q⟩ ⟨hi,hlen,hsm,hq1,hq2⟩
  dsimp only at hi hlen hsm hq1 hq2
  have p5:=aE l q 5
  have p8:=aE l (q+1) 8
  by_cases hi2:(i:Int) < (1+ai l pos 6)
  ·have cd:=gi i OM OM
   have hds:=hJ i
   by_cases h8:ai l (q+1) 8 = 0
   ·skip
    conv=>whnf
    refine W.sq<|g 15 17 []<|J UC<|W.cn<|J (fun _=>(W.skip (W.sq (W.blk (g 17 27 [.call (V.s (en (i:Int))) [[]],.s ({data:=#[(116:UInt8)]:ByteArray} ++en (i:Int)),.call (V.i (ai l q 5)) ([rdC l (q+1),[]]),.i (1+ai l q 5)]<|J ⟨I,Zai,⟨rfl,(by simp only[bsz,bsa,ByteArray.size_append,List.size_toArray,tf];omega)⟩,I,⟨UB,I,UV,UA,aa _ _ _ (by first|omega|decide|assumption|(simp only[ByteArray.size_extract,List.length_map];omega)|simp[*]) (by first|omega|decide|assumption|(simp only[ByteArray.size_extract,List.length_map];omega)|simp[*]) (by first|omega|decide|assumption|(simp only[ByteArray.size_extract,List.length_map];omega)|simp[*]) (by first|omega|decide|assumption|(simp only[ByteArray.size_extract,List.length_map];omega)|simp[*])⟩,wO,I,I,UC,I⟩ (W.sq (g 27 29 [.call (V.i (ai l (q+1) 8)) ([rdC l (q+1+1),[]])]<|J ⟨I,⟨UB,I,UV,UA,aa _ _ _ OM OM OM OM⟩,I,I⟩ (W.cn<|J (fun _=>(rg []<|J UV (W.sq ?_))) (noF tO))))))))) (noF tO)
    refine g 29 31 []<|J UA<|W.blk<|W.lp (fun s (y:Nat×List Int×Int)=>⟨[(0,s.s 0),(2,s.s 2),(3,s.s 3),(4,s.s 4),(5,s.s 5),(6,s.s 6),(7,.i y.1),(8,s.s 8)],[(2,[s.c 2 0]),(4,[s.c 4 0]),(69,[.t (u8s l),.t (.i y.2.2)]),(6,[.t (.s ((⟨#[116]⟩:ByteArray) ++en i)),.t (.i (20)),.own [false] (y.2.1.map dJ)])],[]⟩) (fun(y:Nat×List Int×Int)=>y.1≤i∧y.2.1.length≤y.1∧y.2.1.length≤8∧q+2≤y.2.2∧y.2.2≤q+2+2 * y.1) (fun(y:Nat×List Int×Int)=>i - y.1) ((0,[],q+2)) [some 2,some 4,some 69,some 6] [] ⟨rfl,Zar,⟨Zad,⟨Zad,⟨⟨rfl,⟨rfl,⟨(congrArg (fun z=>V.t (T.v (Value.int _ z))) (by show q+1+1 = q+2;omega)),I⟩⟩⟩,Zee⟩⟩⟩,I⟩ (by simp) ?_
    rintro⟨k,ds,u⟩ ⟨g1,g2,g3,g4,g5⟩
    dsimp only at g1 g2 g3 g4 g5
    have p3:=aE l u 3
    have p2:=aE l (u+1) 2
    by_cases hk:k < i
    ·by_cases hd:ds.length < 8
     ·by_cases h3:ai l u 3 = 0
      ·conv=>whnf
       refine W.sq<|g 35 39 [BT,BT,BT,BT,BT]<|J Zaq<|W.cn<|J (fun h2=>?_) fun h2=>?_
       replace h2:=dt h2
       simp only[LM]at h2
       refine W.skip<|W.sq<|W.blk<|g 39 55 [.call (V.i (ai l u 3)) ([rdC l (u+1),[]]),BT,BT,BT,BT,BT,BF,BF,BF,BT,BT]<|J ⟨I,⟨UB,I,UV,UA,aa _ _ _ (by first|omega|decide|assumption|(simp only[ByteArray.size_extract,List.length_map];omega)|simp[*]) (by first|omega|decide|assumption|(simp only[ByteArray.size_extract,List.length_map];omega)|simp[*]) (by first|omega|decide|assumption|(simp only[ByteArray.size_extract,List.length_map];omega)|simp[*]) (by first|omega|decide|assumption|(simp only[ByteArray.size_extract,List.length_map];omega)|simp[*])⟩,I,I,tO,tO,tO,tO,tO,I,I,I,tO,tO,I⟩<|W.cn<|J (fun _=>(rg []<|J Zcs (rg [.i ((↑(Prod.fst (k,ds,u)):Int) +1)]<|J Zdf ?_))) (noF rfl)
       rotate_left
       replace h2:=df h2
       simp only[LM]at h2
       omega
       refine⟨(k+1,ds++ [(k:Int)],u+1),[some 2,some 4,some 69,some 6],[],⟨rfl,Zar,⟨Zad,⟨Zad,⟨Zd1,⟨⟨rfl,⟨rfl,⟨rfl,⟨(congrArg (V.own _) (by rw[List.map_append];rfl)),I⟩⟩⟩⟩,I⟩⟩⟩⟩,I⟩,?_,?_⟩
       rotate_left
       (dsimp only;omega)
       dsimp only
       exact⟨by omega,by rw[List.length_append];simp;omega,by rw[List.length_append];simp;omega,by first|omega|(dsimp only;omega),by first|omega|(dsimp only;omega)⟩
      ·by_cases hki:(k:Int) = (i:Int) - 1
       ·by_cases h2:ai l (u+1) 2 = 0
        ·conv=>whnf
         refine W.sq<|g 35 39 [BT,BT,BT,BT,BT]<|J Zaq<|W.cn<|J (fun h4=>?_) fun h4=>?_
         replace h4:=dt h4
         simp only[LM]at h4
         refine W.skip<|W.sq<|W.blk<|g 39 55 [.call (V.i (ai l u 3)) ([rdC l (u+1),[]]),BF,BF,BF,.i ((↑(Prod.fst (i,ts,q)):Int) - 1),BF,BF,BT,BT,.call (V.i (ai l (u+1) 2)) ([rdC l (u+1+1),[]]),BT,BF,BT,BF]<|J ⟨I,⟨UB,I,UV,UA,aa _ _ _ (by first|omega|decide|assumption|(simp only[ByteArray.size_extract,List.length_map];omega)|simp[*]) (by first|omega|decide|assumption|(simp only[ByteArray.size_extract,List.length_map];omega)|simp[*]) (by first|omega|decide|assumption|(simp only[ByteArray.size_extract,List.length_map];omega)|simp[*]) (by first|omega|decide|assumption|(simp only[ByteArray.size_extract,List.length_map];omega)|simp[*])⟩,I,I,⟨dO,I⟩,⟨dO,I⟩,⟨dO,wO⟩,⟨dO,I⟩,⟨dO,I⟩,⟨tO,I⟩,⟨tO,UB,I,UV,UA,aa _ _ _ OM OM OM OM⟩,⟨tO,I⟩,⟨dO,tO⟩,dO,I⟩<|W.cn<|J (fun _=>(rg []<|J Zcs (rg [.i ((↑(Prod.fst (k,ds,u)):Int) +1)]<|J Zdf ?_))) (noF tO)
         rotate_left
         replace h4:=df h4
         simp only[LM]at h4
         omega
         refine⟨(k+1,ds++ [(k:Int)],u+2),[some 2,some 4,some 69,some 6],[],⟨rfl,Zar,⟨Zad,⟨Zad,⟨⟨rfl,⟨rfl,⟨(congrArg (fun z=>V.t (T.v (Value.int _ z))) (by show u+1+1 = u+2;omega)),I⟩⟩⟩,⟨⟨rfl,⟨rfl,⟨rfl,⟨(congrArg (V.own _) (by rw[List.map_append];rfl)),I⟩⟩⟩⟩,I⟩⟩⟩⟩,I⟩,?_,?_⟩
         rotate_left
         (dsimp only;omega)
         dsimp only
         exact⟨by omega,by rw[List.length_append];simp;omega,by rw[List.length_append];simp;omega,by first|omega|(dsimp only;omega),by first|omega|(dsimp only;omega)⟩
        ·conv=>whnf
         refine W.sq<|g 35 39 [BT,BT,BT,BT,BT]<|J Zaq<|W.cn<|J (fun h4=>?_) fun h4=>?_
         replace h4:=dt h4
         simp only[LM]at h4
         refine W.skip<|W.sq<|W.blk<|g 39 55 [.call (V.i (ai l u 3)) ([rdC l (u+1),[]]),BF,BF,BF,.i ((↑(Prod.fst (i,ts,q)):Int) - 1),BF,BF,BT,BT,.call (V.i (ai l (u+1) 2)) ([rdC l (u+1+1),[]]),BT,BF,BT,BF]<|J ⟨I,⟨UB,I,UV,UA,aa _ _ _ (by first|omega|decide|assumption|(simp only[ByteArray.size_extract,List.length_map];omega)|simp[*]) (by first|omega|decide|assumption|(simp only[ByteArray.size_extract,List.length_map];omega)|simp[*]) (by first|omega|decide|assumption|(simp only[ByteArray.size_extract,List.length_map];omega)|simp[*]) (by first|omega|decide|assumption|(simp only[ByteArray.size_extract,List.length_map];omega)|simp[*])⟩,I,I,⟨dO,I⟩,⟨dO,I⟩,⟨dO,wO⟩,⟨dO,I⟩,⟨dO,I⟩,⟨tO,I⟩,⟨tO,UB,I,UV,UA,aa _ _ _ OM OM OM OM⟩,⟨tO,I⟩,⟨dO,tO⟩,dO,I⟩<|W.cn<|J (noT dO) fun _=>W.skip<|rg [.i ((↑(Prod.fst (k,ds,u)):Int) +1)]<|J Zdf ?_
         rotate_left
         replace h4:=df h4
         simp only[LM]at h4
         omega
         refine⟨(k+1,ds,u+2),[some 2,some 4,some 69,some 6],[],⟨rfl,Zar,⟨Zad,⟨Zad,⟨⟨rfl,⟨rfl,⟨(congrArg (fun z=>V.t (T.v (Value.int _ z))) (by show u+1+1 = u+2;omega)),I⟩⟩⟩,Zee⟩⟩⟩,I⟩,?_,?_⟩
         rotate_left
         (dsimp only;omega)
         dsimp only
         omega
       ·conv=>whnf
        refine W.sq<|g 35 39 [BT,BT,BT,BT,BT]<|J Zaq<|W.cn<|J (fun h2=>?_) fun h2=>?_
        replace h2:=dt h2
        simp only[LM]at h2
        refine W.skip<|W.sq<|W.blk<|g 39 55 [.call (V.i (ai l u 3)) ([rdC l (u+1),[]]),BF,BF,BF,.i ((↑(Prod.fst (i,ts,q)):Int) - 1),BF,BF,BF,BF,BF,BF,BF,BF]<|J ⟨I,⟨UB,I,UV,UA,aa _ _ _ (by first|omega|decide|assumption|(simp only[ByteArray.size_extract,List.length_map];omega)|simp[*]) (by first|omega|decide|assumption|(simp only[ByteArray.size_extract,List.length_map];omega)|simp[*]) (by first|omega|decide|assumption|(simp only[ByteArray.size_extract,List.length_map];omega)|simp[*]) (by first|omega|decide|assumption|(simp only[ByteArray.size_extract,List.length_map];omega)|simp[*])⟩,I,I,⟨dO,I⟩,⟨dO,I⟩,⟨dO,wO⟩,⟨dO,I⟩,⟨dO,I⟩,dO,dO,dO,⟨dO,dO⟩,dO,I⟩<|W.cn<|J (noT rfl) fun _=>W.skip<|rg [.i ((↑(Prod.fst (k,ds,u)):Int) +1)]<|J Zdf ?_
        rotate_left
        replace h2:=df h2
        simp only[LM]at h2
        omega
        refine⟨(k+1,ds,u+1),[some 2,some 4,some 69,some 6],[],Zeq,?_,?_⟩
        rotate_left
        (dsimp only;omega)
        dsimp only
        omega
     ·exfalso;omega
    ·conv=>whnf
     refine W.sq<|g 35 39 [BF,BF,BF,BF,BF]<|J ⟨I,I,I,I,dO,dO,dO,dO,dO,I⟩<|W.cn<|J (noT rfl) fun _=>W.exit<|rg []<|J Zb8<|rg [.i ((↑(Prod.fst (i,ts,q)):Int) +1)]<|J Zdf ?_
     refine⟨(i+1,ts++ [(⟨((⟨#[116]⟩:ByteArray) ++en i),20,ds⟩:Task)],u),[some 2,some 69,some 4],[],⟨rfl,Zay,⟨Zad,⟨Zd1,⟨⟨rfl,⟨(congrArg (V.own _) (by rw[List.map_append];rfl)),I⟩⟩,I⟩⟩⟩,I⟩,?_,?_⟩
     rotate_left
     (dsimp only;omega)
     dsimp only
     refine⟨by first|omega|(dsimp only;omega),by rw[List.length_append];simp;omega,fun t ht=>?_,by first|omega|(dsimp only;omega),by first|omega|(dsimp only;omega)⟩
     rcases List.mem_append.1 ht with ht|ht
     ·exact hsm t ht
     ·rw[List.mem_singleton.1 ht]
      refine⟨?_,by first|omega|(dsimp only;omega)⟩
      show(((⟨#[116]⟩:ByteArray) ++en i).size)≤64
      rw[ByteArray.size_append]
      have:(⟨#[116]⟩:ByteArray).size = 1:=rfl
      omega
   ·skip
    conv=>whnf
    refine W.sq<|g 15 17 []<|J UC<|W.cn<|J (fun _=>(W.skip (W.sq (W.blk (g 17 27 [.call (V.s (en (i:Int))) [[]],.s ({data:=#[(116:UInt8)]:ByteArray} ++en (i:Int)),.call (V.i (ai l q 5)) ([rdC l (q+1),[]]),.i (1+ai l q 5)]<|J ⟨I,Zai,⟨rfl,(by simp only[bsz,bsa,ByteArray.size_append,List.size_toArray,tf];omega)⟩,I,⟨UB,I,UV,UA,aa _ _ _ (by first|omega|decide|assumption|(simp only[ByteArray.size_extract,List.length_map];omega)|simp[*]) (by first|omega|decide|assumption|(simp only[ByteArray.size_extract,List.length_map];omega)|simp[*]) (by first|omega|decide|assumption|(simp only[ByteArray.size_extract,List.length_map];omega)|simp[*]) (by first|omega|decide|assumption|(simp only[ByteArray.size_extract,List.length_map];omega)|simp[*])⟩,wO,I,I,UC,I⟩ (W.sq (g 27 29 [.call (V.i (ai l (q+1) 8)) ([rdC l (q+1+1),[]])]<|J ⟨I,⟨UB,I,UV,UA,aa _ _ _ OM OM OM OM⟩,I,I⟩ (W.cn<|J (noT dO) fun _=>(W.skip (W.sq ?_)))))))))) (noF tO)
    refine g 29 30 []<|J UA<|W.blk<|W.lp (fun s (y:Nat×List Int×Int)=>⟨[(0,s.s 0),(2,s.s 2),(3,s.s 3),(4,s.s 4),(5,s.s 5),(6,s.s 6),(7,.i y.1),(8,s.s 8)],[(2,[s.c 2 0]),(4,[s.c 4 0]),(69,[.t (u8s l),.t (.i y.2.2)]),(6,[.t (.s ((⟨#[116]⟩:ByteArray) ++en i)),.t (.i (1+ai l q 5)),.own [false] (y.2.1.map dJ)])],[]⟩) (fun(y:Nat×List Int×Int)=>y.1≤i∧y.2.1.length≤y.1∧y.2.1.length≤8∧q+2≤y.2.2∧y.2.2≤q+2+2 * y.1) (fun(y:Nat×List Int×Int)=>i - y.1) ((0,[],q+2)) [some 2,some 4,some 69,some 6] [] ⟨rfl,Zar,⟨Zad,⟨Zad,⟨⟨rfl,⟨rfl,⟨(congrArg (fun z=>V.t (T.v (Value.int _ z))) (by show q+1+1 = q+2;omega)),I⟩⟩⟩,Zee⟩⟩⟩,I⟩ (by simp) ?_
    rintro⟨k,ds,u⟩ ⟨g1,g2,g3,g4,g5⟩
    dsimp only at g1 g2 g3 g4 g5
    have p3:=aE l u 3
    have p2:=aE l (u+1) 2
    by_cases hk:k < i
    ·by_cases hd:ds.length < 8
     ·by_cases h3:ai l u 3 = 0
      ·conv=>whnf
       refine W.sq<|g 35 39 [BT,BT,BT,BT,BT]<|J Zaq<|W.cn<|J (fun h2=>?_) fun h2=>?_
       replace h2:=dt h2
       simp only[LM]at h2
       refine W.skip<|W.sq<|W.blk<|g 39 55 [.call (V.i (ai l u 3)) ([rdC l (u+1),[]]),BT,BT,BT,BT,BT,BF,BF,BF,BT,BT]<|J ⟨I,⟨UB,I,UV,UA,aa _ _ _ (by first|omega|decide|assumption|(simp only[ByteArray.size_extract,List.length_map];omega)|simp[*]) (by first|omega|decide|assumption|(simp only[ByteArray.size_extract,List.length_map];omega)|simp[*]) (by first|omega|decide|assumption|(simp only[ByteArray.size_extract,List.length_map];omega)|simp[*]) (by first|omega|decide|assumption|(simp only[ByteArray.size_extract,List.length_map];omega)|simp[*])⟩,I,I,tO,tO,tO,tO,tO,I,I,I,tO,tO,I⟩<|W.cn<|J (fun _=>(rg []<|J Zcs (rg [.i ((↑(Prod.fst (k,ds,u)):Int) +1)]<|J Zdf ?_))) (noF rfl)
       rotate_left
       replace h2:=df h2
       simp only[LM]at h2
       omega
       refine⟨(k+1,ds++ [(k:Int)],u+1),[some 2,some 4,some 69,some 6],[],⟨rfl,Zar,⟨Zad,⟨Zad,⟨Zd1,⟨⟨rfl,⟨rfl,⟨rfl,⟨(congrArg (V.own _) (by rw[List.map_append];rfl)),I⟩⟩⟩⟩,I⟩⟩⟩⟩,I⟩,?_,?_⟩
       rotate_left
       (dsimp only;omega)
       dsimp only
       exact⟨by omega,by rw[List.length_append];simp;omega,by rw[List.length_append];simp;omega,by first|omega|(dsimp only;omega),by first|omega|(dsimp only;omega)⟩
      ·by_cases hki:(k:Int) = (i:Int) - 1
       ·by_cases h2:ai l (u+1) 2 = 0
        ·conv=>whnf
         refine W.sq<|g 35 39 [BT,BT,BT,BT,BT]<|J Zaq<|W.cn<|J (fun h4=>?_) fun h4=>?_
         replace h4:=dt h4
         simp only[LM]at h4
         refine W.skip<|W.sq<|W.blk<|g 39 55 [.call (V.i (ai l u 3)) ([rdC l (u+1),[]]),BF,BF,BF,.i ((↑(Prod.fst (i,ts,q)):Int) - 1),BF,BF,BT,BT,.call (V.i (ai l (u+1) 2)) ([rdC l (u+1+1),[]]),BT,BF,BT,BF]<|J ⟨I,⟨UB,I,UV,UA,aa _ _ _ (by first|omega|decide|assumption|(simp only[ByteArray.size_extract,List.length_map];omega)|simp[*]) (by first|omega|decide|assumption|(simp only[ByteArray.size_extract,List.length_map];omega)|simp[*]) (by first|omega|decide|assumption|(simp only[ByteArray.size_extract,List.length_map];omega)|simp[*]) (by first|omega|decide|assumption|(simp only[ByteArray.size_extract,List.length_map];omega)|simp[*])⟩,I,I,⟨dO,I⟩,⟨dO,I⟩,⟨dO,wO⟩,⟨dO,I⟩,⟨dO,I⟩,⟨tO,I⟩,⟨tO,UB,I,UV,UA,aa _ _ _ OM OM OM OM⟩,⟨tO,I⟩,⟨dO,tO⟩,dO,I⟩<|W.cn<|J (fun _=>(rg []<|J Zcs (rg [.i ((↑(Prod.fst (k,ds,u)):Int) +1)]<|J Zdf ?_))) (noF tO)
         rotate_left
         replace h4:=df h4
         simp only[LM]at h4
         omega
         refine⟨(k+1,ds++ [(k:Int)],u+2),[some 2,some 4,some 69,some 6],[],⟨rfl,Zar,⟨Zad,⟨Zad,⟨⟨rfl,⟨rfl,⟨(congrArg (fun z=>V.t (T.v (Value.int _ z))) (by show u+1+1 = u+2;omega)),I⟩⟩⟩,⟨⟨rfl,⟨rfl,⟨rfl,⟨(congrArg (V.own _) (by rw[List.map_append];rfl)),I⟩⟩⟩⟩,I⟩⟩⟩⟩,I⟩,?_,?_⟩
         rotate_left
         (dsimp only;omega)
         dsimp only
         exact⟨by omega,by rw[List.length_append];simp;omega,by rw[List.length_append];simp;omega,by first|omega|(dsimp only;omega),by first|omega|(dsimp only;omega)⟩
        ·conv=>whnf
         refine W.sq<|g 35 39 [BT,BT,BT,BT,BT]<|J Zaq<|W.cn<|J (fun h4=>?_) fun h4=>?_
         replace h4:=dt h4
         simp only[LM]at h4
         refine W.skip<|W.sq<|W.blk<|g 39 55 [.call (V.i (ai l u 3)) ([rdC l (u+1),[]]),BF,BF,BF,.i ((↑(Prod.fst (i,ts,q)):Int) - 1),BF,BF,BT,BT,.call (V.i (ai l (u+1) 2)) ([rdC l (u+1+1),[]]),BT,BF,BT,BF]<|J ⟨I,⟨UB,I,UV,UA,aa _ _ _ (by first|omega|decide|assumption|(simp only[ByteArray.size_extract,List.length_map];omega)|simp[*]) (by first|omega|decide|assumption|(simp only[ByteArray.size_extract,List.length_map];omega)|simp[*]) (by first|omega|decide|assumption|(simp only[ByteArray.size_extract,List.length_map];omega)|simp[*]) (by first|omega|decide|assumption|(simp only[ByteArray.size_extract,List.length_map];omega)|simp[*])⟩,I,I,⟨dO,I⟩,⟨dO,I⟩,⟨dO,wO⟩,⟨dO,I⟩,⟨dO,I⟩,⟨tO,I⟩,⟨tO,UB,I,UV,UA,aa _ _ _ OM OM OM OM⟩,⟨tO,I⟩,⟨dO,tO⟩,dO,I⟩<|W.cn<|J (noT dO) fun _=>W.skip<|rg [.i ((↑(Prod.fst (k,ds,u)):Int) +1)]<|J Zdf ?_
         rotate_left
         replace h4:=df h4
         simp only[LM]at h4
         omega
         refine⟨(k+1,ds,u+2),[some 2,some 4,some 69,some 6],[],⟨rfl,Zar,⟨Zad,⟨Zad,⟨⟨rfl,⟨rfl,⟨(congrArg (fun z=>V.t (T.v (Value.int _ z))) (by show u+1+1 = u+2;omega)),I⟩⟩⟩,Zee⟩⟩⟩,I⟩,?_,?_⟩
         rotate_left
         (dsimp only;omega)
         dsimp only
         omega
       ·conv=>whnf
        refine W.sq<|g 35 39 [BT,BT,BT,BT,BT]<|J Zaq<|W.cn<|J (fun h2=>?_) fun h2=>?_
        replace h2:=dt h2
        simp only[LM]at h2
        refine W.skip<|W.sq<|W.blk<|g 39 55 [.call (V.i (ai l u 3)) ([rdC l (u+1),[]]),BF,BF,BF,.i ((↑(Prod.fst (i,ts,q)):Int) - 1),BF,BF,BF,BF,BF,BF,BF,BF]<|J ⟨I,⟨UB,I,UV,UA,aa _ _ _ (by first|omega|decide|assumption|(simp only[ByteArray.size_extract,List.length_map];omega)|simp[*]) (by first|omega|decide|assumption|(simp only[ByteArray.size_extract,List.length_map];omega)|simp[*]) (by first|omega|decide|assumption|(simp only[ByteArray.size_extract,List.length_map];omega)|simp[*]) (by first|omega|decide|assumption|(simp only[ByteArray.size_extract,List.length_map];omega)|simp[*])⟩,I,I,⟨dO,I⟩,⟨dO,I⟩,⟨dO,wO⟩,⟨dO,I⟩,⟨dO,I⟩,dO,dO,dO,⟨dO,dO⟩,dO,I⟩<|W.cn<|J (noT rfl) fun _=>W.skip<|rg [.i ((↑(Prod.fst (k,ds,u)):Int) +1)]<|J Zdf ?_
        rotate_left
        replace h2:=df h2
        simp only[LM]at h2
        omega
        refine⟨(k+1,ds,u+1),[some 2,some 4,some 69,some 6],[],Zeq,?_,?_⟩
        rotate_left
        (dsimp only;omega)
        dsimp only
        omega
     ·exfalso;omega
    ·conv=>whnf
     refine W.sq<|g 35 39 [BF,BF,BF,BF,BF]<|J ⟨I,I,I,I,dO,dO,dO,dO,dO,I⟩<|W.cn<|J (noT rfl) fun _=>W.exit<|rg []<|J Zb8<|rg [.i ((↑(Prod.fst (i,ts,q)):Int) +1)]<|J Zdf ?_
     refine⟨(i+1,ts++ [(⟨((⟨#[116]⟩:ByteArray) ++en i),1+ai l q 5,ds⟩:Task)],u),[some 2,some 69,some 4],[],⟨rfl,Zay,⟨Zad,⟨Zd1,⟨⟨rfl,⟨(congrArg (V.own _) (by rw[List.map_append];rfl)),I⟩⟩,I⟩⟩⟩,I⟩,?_,?_⟩
     rotate_left
     (dsimp only;omega)
     dsimp only
     refine⟨by first|omega|(dsimp only;omega),by rw[List.length_append];simp;omega,fun t ht=>?_,by first|omega|(dsimp only;omega),by first|omega|(dsimp only;omega)⟩
     rcases List.mem_append.1 ht with ht|ht
     ·exact hsm t ht
     ·rw[List.mem_singleton.1 ht]
      refine⟨?_,by first|omega|(dsimp only;omega)⟩
      show(((⟨#[116]⟩:ByteArray) ++en i).size)≤64
      rw[ByteArray.size_append]
      have:(⟨#[116]⟩:ByteArray).size = 1:=rfl
      omega
  ·conv=>whnf
   refine W.sq<|g 15 17 []<|J UC<|W.cn<|J (noT dO) fun _=>W.exit<|g 3 69 []<|J UV<|W.ret<|EndsW.rt<|J UB ?_
   exact⟨⟨ts⟩,q,rfl,rfl,⟨by first|omega|(dsimp only;omega),hsm⟩,by first|omega|(dsimp only;omega),by omega,by omega⟩
theorem yg(l:List Int)(pos:Int)(h:hL l∧0≤pos∧pos≤1000000):∃ x:Plan×Int,F kc [.ptr (rdC l pos)] (dE x.1) [rdC l x.2]∧cZ x.1∧1≤x.1.tasks.length∧pos≤x.2∧x.2≤pos+4000:=by
 obtain⟨res,outs,⟨p,pos2,rfl,rfl,h1,h2,h3,h4⟩,hF⟩:=PK l pos h.1 h.2.1 h.2.2
 exact⟨(p,pos2),hF,h1,h2,h3,h4⟩
open Classical in
noncomputable def fi(l:List Int)(pos:Int):Plan×Int:=if h:hL l∧0≤pos∧pos≤1000000 then(yg l pos h).choose else(⟨[⟨emp,0,[]⟩]⟩,pos)
theorem py(l:List Int)(pos:Int)(hl:hL l)(h0:0≤pos)(h1:pos≤1000000):F kc [.ptr (rdC l pos)] (dE (fi l pos).1) [rdC l (fi l pos).2]:=by
 have h:hL l∧0≤pos∧pos≤1000000:=⟨hl,h0,h1⟩
 rw[fi,dif_pos h]
 exact(yg l pos h).choose_spec.1
theorem IR(l:List Int)(pos:Int):cZ (fi l pos).1∧1≤(fi l pos).1.tasks.length∧pos≤(fi l pos).2∧(fi l pos).2≤pos+4000:=by
 unfold fi
 split
 ·rename_i h;exact(yg l pos h).choose_spec.2
 ·refine⟨⟨by show 1≤64;omega,fun t ht=>?_⟩,Nat.le_refl _,Int.le_refl _,by dsimp only;omega⟩
  rw[List.mem_singleton.1 ht]
  have:emp.size = 0:=rfl
  exact⟨by dsimp only;omega,Nat.zero_le _⟩
theorem yf(s:ByteArray)(n:Int)(h:0≤n∧n≤64∧s.size≤64):∃ t:ByteArray,F kb [.val (.s s),.val (.i n)] (.s t) [[],[]]∧(t.size:Int)≤4096:=by
 obtain⟨res,outs,⟨t,rfl,rfl,h1⟩,hF⟩:=PJ s n h.1 h.2.1 h.2.2
 exact⟨t,hF,h1⟩
open Classical in
noncomputable def sw(s:ByteArray)(n:Int):ByteArray:=if h:0≤n∧n≤64∧s.size≤64 then(yf s n h).choose else emp
theorem px(s:ByteArray)(n:Int)(h0:0≤n)(h1:n≤64)(hs:s.size≤64):F kb [.val (.s s),.val (.i n)] (.s (sw s n)) [[],[]]:=by
 rw[sw,dif_pos ⟨h0,h1,hs⟩]
 exact(yf s n ⟨h0,h1,hs⟩).choose_spec.1
theorem Aj(s:ByteArray)(n:Int):(sw s n).size≤4096:=by
 unfold sw
 split
 ·rename_i h;have:=(yf s n h).choose_spec.2;omega
 ·show emp.size≤4096;decide
end Go.K
end
section
open Go Go.Tm Go.Proofs
namespace Go.K
def ia(t:Task):Prop:=t.name.size≤8192∧t.deps.length≤128
def jm(p:Plan):Prop:=p.tasks.length≤64∧∀ t∈p.tasks,ia t
theorem fR{p:Plan}(h:cZ p):jm p:=⟨h.1,fun t ht=>⟨by have:=(h.2 t ht).1;omega,by have:=(h.2 t ht).2;omega⟩⟩
theorem yU{p:Plan}(h:jm p):cQ p:=⟨by have:=h.1;omega,fun t ht=>⟨by have:=(h.2 t ht).1;omega,by have:=(h.2 t ht).2;omega⟩⟩
theorem wX{p:Plan}(h:cZ p){n:Nat}{t:Task}(ht:ia t):jm ⟨p.tasks.set n t⟩:=by
 refine⟨by dsimp only;rw[List.length_set];exact h.1,fun y hy=>?_⟩
 rcases List.mem_or_eq_of_mem_set hy with hy|rfl
 ·exact(fR h).2 y hy
 ·exact ht
theorem LX{ts:List Task}(h1:ts.length≤64)(h2:∀ t∈ts,ia t){n:Nat}{t:Task}(ht:ia t):jm ⟨ts.set n t⟩:=by
 refine⟨by dsimp only;rw[List.length_set];exact h1,fun y hy=>?_⟩
 rcases List.mem_or_eq_of_mem_set hy with hy|rfl
 ·exact h2 y hy
 ·exact ht
theorem HV(c:ByteArray)(hc:c.size = 1)(i:Int):ia ⟨c++en i,1,[]⟩:=by
 have:=hJ i
 exact⟨by dsimp only;rw[ByteArray.size_append];omega,Nat.zero_le _⟩
theorem I4{ts:List Task}{x:Task}(h:∀ t∈ts,ia t)(hx:ia x):∀ t∈ts++ [x],ia t:=fun t ht=>by
 rcases List.mem_append.1 ht with ht|ht
 ·exact h t ht
 ·rw[List.mem_singleton.1 ht];exact hx
theorem o9{α:Type}(xs:List α)(x:α):(xs++ [x]).length = xs.length+1:=by simp
theorem gh{ts:List Task}{n:Nat}{t:Task}:(ts.map aC).set n (aC t) = (ts.set n t).map aC:=by rw[List.map_set]
theorem PV{xs:List Int}{x:Int}:(xs++ [x]).map dJ = xs.map dJ++ [dJ x]:=by rw[List.map_append];rfl
theorem LF(xs:List ByteArray)(k:Int)(h0:0≤k)(h1:k < xs.length):∃ x,x∈xs∧(xs.map ak)[k.toNat]? = some (ak x):=by
 obtain⟨x,hx⟩:=aj (xs:=xs) (n:=k.toNat) OM
 exact⟨x,List.mem_of_getElem? hx,by rw[List.getElem?_map,hx];rfl⟩
theorem sn(xs:List Int)(k:Int)(h0:0≤k)(h1:k < xs.length):∃ x,x∈xs∧(xs.map dJ)[k.toNat]? = some (dJ x):=by
 obtain⟨x,hx⟩:=aj (xs:=xs) (n:=k.toNat) OM
 exact⟨x,List.mem_of_getElem? hx,by rw[List.getElem?_map,hx];rfl⟩
abbrev PW(l:List Int)(pos:Int):V→List (List V)→Prop:=fun res outs=>∃ p pos2,res = dE p∧outs = [rdC l pos2,[]]∧jm p∧pos≤pos2∧pos2≤pos+100
theorem Mh(l:List Int)(pos:Int)(p:Plan)(hp:cZ p)(hl:hL l)(h0:0≤pos)(h1:pos≤1000000):∃ res outs,PW l pos res outs∧F iV [.ptr (rdC l pos),.val (dE p)] res outs:=by
 have hpp:=hp
 obtain⟨hp1,hp2⟩:=hpp
 have cpl:=kp p hp
 have r0:=aE l pos p.tasks.length
 have r1:=aE l (pos+1) 7
 by_cases hz:p.tasks.length = 0
 ·refine cL ?_
  conv=>whnf
  refine g 0 0 []<|J Zdu<|g 9 11 [.call (dE p) [[]]]<|J Zd7<|g 11 16 [.call (V.i (ai l pos (↑(List.length (List.map aC p.tasks)):Int))) ([rdC l (pos+1),[]])]<|J ⟨I,I,I,I,⟨UB,I,UV,UA,aa _ _ _ (by first|omega|decide|assumption|(simp only[ByteArray.size_extract,List.length_map];omega)|simp[*]) (by first|omega|decide|assumption|(simp only[ByteArray.size_extract,List.length_map];omega)|simp[*]) (by first|omega|decide|assumption|(simp only[ByteArray.size_extract,List.length_map];omega)|simp[*]) (by first|omega|decide|assumption|(simp only[ByteArray.size_extract,List.length_map];omega)|simp[*])⟩,I,I⟩<|W.sq<|g 16 19 []<|J UD<|W.cn<|J (fun _=>(g 19 21 []<|J UV (W.ret (EndsW.rt<|J UB ?_)))) (noF SI)
  exact⟨p,_,rfl,rfl,fR hp,by omega,by omega⟩
 ·obtain⟨kk,hkk⟩:=Int.eq_ofNat_of_zero_le r0.1
  obtain⟨t,ht⟩:=aj (xs:=p.tasks) (n:=kk) OM
  have ck:F eH [.ptr (rdC l pos),.val (.i ((p.tasks.map aC).length:Int))] (.i (kk:Int)) [rdC l (pos+1),[]]:=by
   have:=aa l pos p.tasks.length hl h0 OM OM
   rw[hkk]at this
   rw[List.length_map];exact this
  have hkl:kk < p.tasks.length:=by omega
  have hts:=hp2 t (List.mem_of_getElem? ht)
  obtain⟨t0,ht0⟩:=aj (xs:=p.tasks) (n:=0) OM
  have hts0:=hp2 t0 (List.mem_of_getElem? ht0)
  by_cases c0:ai l (pos+1) 7 = 0
  ·have r2:=aE l (pos+1+1) 5
   have m1:=Aj ⟨#[110]⟩ 30
   have m2:=Aj ⟨#[110]⟩ 31
   obtain⟨x,hx1,hx2⟩:=LF [⟨#[]⟩,⟨#[97,32,98]⟩,t0.name,sw ⟨#[110]⟩ 30,sw ⟨#[110]⟩ 31] (ai l (pos+1+1) 5) r2.1 (by show _ < (5:Int);omega)
   have hx3:([[T.s ⟨#[]⟩],[T.s ⟨#[97,32,98]⟩],[T.s t0.name],[T.s (sw ⟨#[110]⟩ 30)],[T.s (sw ⟨#[110]⟩ 31)]]:List (List T))[(ai l (pos+1+1) 5).toNat]? = some [T.s x]:=hx2
   refine cL ?_
   conv=>whnf
   refine g 0 0 []<|J Zdu<|g 9 11 [.call (dE p) [[]]]<|J Zd7<|g 11 16 [.call (V.i (kk:Int)) ([rdC l (pos+1),[]])]<|J ⟨I,I,I,I,Zbr,I,I⟩<|W.sq<|g 16 19 []<|J UD<|W.cn<|J (noT SI) fun _=>W.skip<|W.sq<|g 19 22 [.call (V.i (ai l (pos+1) 7)) ([rdC l (pos+1+1),[]])]<|J ⟨I,⟨UB,I,UV,UA,aa _ _ _ OM OM OM OM⟩,I⟩<|W.blk<|g 36 37 []<|J UB<|W.cn<|J (fun _=>?_) (noF tO)
   refine rgd [[],[],[],[],[],[.n (0)],[],[.x (aC t0)],[.call (V.s (sw {data:=#[(110:UInt8)]:ByteArray} 30)) [[],[]]],[.call (V.s (sw {data:=#[(110:UInt8)]:ByteArray} 31)) [[],[]]],[],[],[.call (V.i (ai l (pos+1+1) 5)) ([rdC l (pos+1+1+1),[]])],[.n (Int.toNat (ai l (pos+1+1) 5))],[.x ([T.s x])],[.n (kk)],[],[.x (aC t)]] ?_
   conv=>whnf
   refine J ⟨I,I,I,I,I,Zdh,I,xA,⟨UB,I,UT,UA,px _ _ (by decide) (by decide) (by decide)⟩,⟨UB,I,UT,UA,px _ _ (by decide) (by decide) (by decide)⟩,⟨UA,UA,UA,UA,UA,I⟩,I,⟨UB,I,UV,UA,aa _ _ _ OM OM OM OM⟩,Zdo,AS,Zdh,I,⟨UA,xA⟩,I⟩<|J KR<|g 5 140 []<|J UV<|W.ret<|EndsW.rt<|J UB ?_
   have hxs:x.size≤8192:=by
    have e1:(⟨#[]⟩:ByteArray).size = 0:=rfl
    have e2:(⟨#[97,32,98]⟩:ByteArray).size = 3:=rfl
    simp only[List.mem_cons,List.not_mem_nil,or_false]at hx1
    rcases hx1 with rfl|rfl|rfl|rfl|rfl <;> omega
   exact⟨⟨p.tasks.set kk ⟨x,t.cost,t.deps⟩⟩,_,congrArg (fun z=>V.agg [V.own dM z]) (gh (t:=⟨x,t.cost,t.deps⟩)),rfl,wX hp ⟨hxs,by dsimp only;omega⟩,by omega,by omega⟩
  ·by_cases c1:ai l (pos+1) 7 = 1
   ·have r2:=aE l (pos+1+1) 4
    obtain⟨x,hx1,hx2⟩:=sn [0,-1,20,21] (ai l (pos+1+1) 4) r2.1 (by show _ < (4:Int);omega)
    have hx3:([[T.i 0],[T.i (-1)],[T.i 20],[T.i 21]]:List (List T))[(ai l (pos+1+1) 4).toNat]? = some [T.i x]:=hx2
    refine cL ?_
    conv=>whnf
    refine g 0 0 []<|J Zdu<|g 9 11 [.call (dE p) [[]]]<|J Zd7<|g 11 16 [.call (V.i (kk:Int)) ([rdC l (pos+1),[]])]<|J ⟨I,I,I,I,Zbr,I,I⟩<|W.sq<|g 16 19 []<|J UD<|W.cn<|J (noT SI) fun _=>W.skip<|W.sq<|g 19 22 [.call (V.i (ai l (pos+1) 7)) ([rdC l (pos+1+1),[]])]<|J ⟨I,⟨UB,I,UV,UA,aa _ _ _ OM OM OM OM⟩,I⟩<|W.blk<|g 36 37 []<|J UB<|W.cn<|J (noT dO) fun _=>?_
    refine g 35 36 []<|J UB<|W.cn<|J (fun _=>(rgd [[],[],[],[],[],[.call (V.i (ai l (pos+1+1) 4)) ([rdC l (pos+1+1+1),[]])],[.n (Int.toNat (ai l (pos+1+1) 4))],[.x ([T.i x])],[.n (kk)],[],[.x (aC t)]] ?_)) (noF tO)
    conv=>whnf
    refine⟨⟨I,I,I,Zda,I,⟨UB,I,UV,UA,aa _ _ _ OM OM OM OM⟩,Zdo,AS,Zdh,I,⟨UA,xA⟩,I⟩,by kernel_rfl,?_⟩
    refine g 5 140 []<|J UV<|W.ret<|EndsW.rt<|J UB ?_
    exact⟨⟨p.tasks.set kk ⟨t.name,x,t.deps⟩⟩,_,congrArg (fun z=>V.agg [V.own dM z]) (gh (t:=⟨t.name,x,t.deps⟩)),rfl,wX hp ⟨by dsimp only;omega,by dsimp only;omega⟩,by omega,by omega⟩
   ·by_cases c2:ai l (pos+1) 7 = 2
    ·have r2:=aE l (pos+1+1) 4
     obtain⟨x,hx1,hx2⟩:=sn [(kk:Int),-1,0,(kk:Int) +1] (ai l (pos+1+1) 4) r2.1 (by show _ < (4:Int);omega)
     have hx3:([[T.i (kk:Int)],[T.i (-1)],[T.i 0],[T.i ((kk:Int) +1)]]:List (List T))[(ai l (pos+1+1) 4).toNat]? = some [T.i x]:=hx2
     refine cL ?_
     conv=>whnf
     refine g 0 0 []<|J Zdu<|g 9 11 [.call (dE p) [[]]]<|J Zd7<|g 11 16 [.call (V.i (kk:Int)) ([rdC l (pos+1),[]])]<|J ⟨I,I,I,I,Zbr,I,I⟩<|W.sq<|g 16 19 []<|J UD<|W.cn<|J (noT SI) fun _=>W.skip<|W.sq<|g 19 22 [.call (V.i (ai l (pos+1) 7)) ([rdC l (pos+1+1),[]])]<|J ⟨I,⟨UB,I,UV,UA,aa _ _ _ OM OM OM OM⟩,I⟩<|W.blk<|g 36 37 []<|J UB<|W.cn<|J (noT dO) fun _=>?_
     refine g 35 36 []<|J UB<|W.cn<|J (noT dO) fun _=>g 54 56 []<|J UB<|W.cn<|J (fun _=>(rgd [[],[],[],[],[],[],[.n (kk)],[],[.x (aC t)],[],[],[.i ((kk:Int) +1)],[],[],[.call (V.i (ai l (pos+1+1) 4)) ([rdC l (pos+1+1+1),[]])],[.n (Int.toNat (ai l (pos+1+1) 4))],[.x ([T.i x])],[],[.x (aC t)],[.n (kk)],[],[.x (List.set (aC t) (0+2) T.hole)]] ?_)) (noF tO)
     conv=>whnf
     refine⟨⟨I,I,I,I,I,I,Zdh,I,xA,I,I,wO,Zda,I,⟨UB,I,UV,UA,aa _ _ _ OM OM OM OM⟩,Zdo,AS,US,⟨I,xA,LN⟩,Zdh,I,⟨UA,gL LN⟩,I⟩,by kernel_rfl,?_⟩
     rw[List.set_set]
     refine g 5 140 []<|J UV<|W.ret<|EndsW.rt<|J UB ?_
     exact⟨⟨p.tasks.set kk ⟨t.name,t.cost,t.deps++ [x]⟩⟩,_,congrArg (fun z=>V.agg [V.own dM z]) ((congrArg ((p.tasks.map aC).set kk) (show _ = aC ⟨t.name,t.cost,t.deps++ [x]⟩ by show [T.s t.name,T.i t.cost,T.slc [false] (t.deps.map dJ++ [dJ x])] = _;rw[←PV])).trans gh),rfl,wX hp ⟨by dsimp only;omega,by dsimp only;rw[List.length_append];simp;omega⟩,by omega,by omega⟩
    ·by_cases c3:ai l (pos+1) 7 = 3
     ·refine cL ?_
      conv=>whnf
      refine g 0 0 []<|J Zdu<|g 9 11 [.call (dE p) [[]]]<|J Zd7<|g 11 16 [.call (V.i (kk:Int)) ([rdC l (pos+1),[]])]<|J ⟨I,I,I,I,Zbr,I,I⟩<|W.sq<|g 16 19 []<|J UD<|W.cn<|J (noT SI) fun _=>W.skip<|W.sq<|g 19 22 [.call (V.i (ai l (pos+1) 7)) ([rdC l (pos+1+1),[]])]<|J ⟨I,⟨UB,I,UV,UA,aa _ _ _ OM OM OM OM⟩,I⟩<|W.blk<|g 36 37 []<|J UB<|W.cn<|J (noT dO) fun _=>?_
      refine g 35 36 []<|J UB<|W.cn<|J (noT dO) fun _=>g 54 56 []<|J UB<|W.cn<|J (noT dO) fun _=>g 66 68 []<|J UB<|W.cn<|J (fun _=>(rg []<|J ⟨I,I,UA,I⟩ (g 5 140 []<|J UV (W.ret (EndsW.rt<|J UB ?_))))) (noF tO)
      exact⟨⟨[]⟩,_,rfl,rfl,⟨Nat.zero_le _,fun t ht=>by cases ht⟩,by omega,by omega⟩
     ·by_cases c4:ai l (pos+1) 7 = 4
      ·refine cL ?_
       conv=>whnf
       refine g 0 0 []<|J Zdu<|g 9 11 [.call (dE p) [[]]]<|J Zd7<|g 11 16 [.call (V.i (kk:Int)) ([rdC l (pos+1),[]])]<|J ⟨I,I,I,I,Zbr,I,I⟩<|W.sq<|g 16 19 []<|J UD<|W.cn<|J (noT SI) fun _=>W.skip<|W.sq<|g 19 22 [.call (V.i (ai l (pos+1) 7)) ([rdC l (pos+1+1),[]])]<|J ⟨I,⟨UB,I,UV,UA,aa _ _ _ OM OM OM OM⟩,I⟩<|W.blk<|g 36 37 []<|J UB<|W.cn<|J (noT dO) fun _=>?_
       refine g 35 36 []<|J UB<|W.cn<|J (noT dO) fun _=>g 54 56 []<|J UB<|W.cn<|J (noT dO) fun _=>g 66 68 []<|J UB<|W.cn<|J (noT dO) fun _=>g 89 91 []<|J UB<|W.cn<|J (fun _=>(g 22 95 []<|J UA (W.blk ?_))) (noF tO)
       refine W.lp (fun s (x:Nat×List Task×Int)=>⟨[(0,s.s 0),(1,s.s 1),(4,s.s 4),(5,s.s 5),(7,.i x.1)],[(141,[s.c 141 0]),(4,[s.c 4 0]),(140,[.t (u8s l),.t (.i x.2.2)]),(5,[.own dM (x.2.1.map aC)])],[]⟩) (fun(x:Nat×List Task×Int)=>x.1≤41∧x.1≤x.2.1.length∧(x.2.1.length≤41∨x.2.1.length≤64∧x.1 = 0)∧(∀ t∈x.2.1,ia t)∧pos+2≤x.2.2∧x.2.2≤pos+2+x.1) (fun(x:Nat×List Task×Int)=>64 - x.2.1.length) ((0,p.tasks,pos+2)) [some 141,some 4,some 140,some 5] [] ⟨rfl,⟨rfl,⟨_,rfl,_,_,rfl,rfl,rfl⟩,rfl,rfl,rfl,I⟩,⟨⟨rfl,UA⟩,⟨⟨rfl,⟨rfl,I⟩⟩,⟨⟨rfl,⟨rfl,⟨(congrArg (fun z=>V.t (T.v (Value.int _ z))) (by show pos+1+1 = pos+2;omega)),I⟩⟩⟩,⟨⟨rfl,⟨rfl,I⟩⟩,I⟩⟩⟩⟩,I⟩ ?_ ?_
       ·exact⟨Nat.zero_le _,Nat.zero_le _,.inr ⟨hp1,rfl⟩,(fR hp).2,Int.le_refl _,by show pos+2≤pos+2+ ((0:Nat):Int);omega⟩
       rintro⟨i,ts,q⟩ ⟨i1,i2,i3,i4,i5,i6⟩
       dsimp only at i1 i2 i3 i4 i5 i6
       have r3:=aE l q 2
       by_cases hlt:(ts.length:Int) < 40+ai l q 2
       ·have cd:=gi i OM OM
        have hds:=hJ i
        conv=>whnf
        refine W.sq<|gd 95 101 [[],[],[],[],[.call (V.i (ai l q 2)) ([rdC l (q+1),[]])],[.i (40+ai l q 2)],[]] ?_
        conv=>whnf
        refine J ⟨I,I,I,I,⟨UB,I,UV,UA,aa _ _ _ (by first|omega|decide|assumption|(simp only[ByteArray.size_extract,List.length_map];omega)|simp[*]) (by first|omega|decide|assumption|(simp only[ByteArray.size_extract,List.length_map];omega)|simp[*]) (by first|omega|decide|assumption|(simp only[ByteArray.size_extract,List.length_map];omega)|simp[*]) (by first|omega|decide|assumption|(simp only[ByteArray.size_extract,List.length_map];omega)|simp[*])⟩,wO,I,I⟩<|J KR<|W.cn<|J (fun _=>(W.skip (W.sq (W.blk (rgd [[],[],[],[.call (V.s (en (i:Int))) [[]]],[.s ({data:=#[(120:UInt8)]:ByteArray} ++en (i:Int))],[],[],[],[],[]] ?_))))) (noF SI)
        conv=>whnf
        refine⟨⟨I,I,I,Zai,⟨rfl,(by simp only[bsz,bsa,ByteArray.size_append,List.size_toArray,tf];omega)⟩,I,⟨UC,I⟩,Zdi,I,UA,I⟩,by kernel_rfl,?_⟩
        refine rg [.i ((↑(Prod.fst (i,ts,q)):Int) +1)]<|J Zdf ?_
        refine⟨(i+1,ts++ [(⟨(⟨#[120]⟩:ByteArray) ++en i,1,[]⟩:Task)],q+1),[some 141,some 4,some 140,some 5],[],⟨rfl,⟨rfl,Zag,rfl,rfl,rfl,I⟩,⟨⟨rfl,UA⟩,⟨Zad,⟨Zd1,⟨⟨rfl,⟨(congrArg (V.own _) (by rw[List.map_append];rfl)),I⟩⟩,I⟩⟩⟩⟩,I⟩,?_,?_⟩
        rotate_left
        rotate_right 1
        dsimp only
        ·refine⟨by omega,by rw[o9];omega,.inl (by rw[o9];omega),I4 i4 (HV _ rfl i),by omega,by omega⟩
        ·show 64 - (ts++ [_]).length < 64 - ts.length
         rw[o9];omega
       ·conv=>whnf
        refine W.sq<|gd 95 101 [[],[],[],[],[.call (V.i (ai l q 2)) ([rdC l (q+1),[]])],[.i (40+ai l q 2)],[]] ?_
        conv=>whnf
        refine J ⟨I,I,I,I,⟨UB,I,UV,UA,aa _ _ _ (by first|omega|decide|assumption|(simp only[ByteArray.size_extract,List.length_map];omega)|simp[*]) (by first|omega|decide|assumption|(simp only[ByteArray.size_extract,List.length_map];omega)|simp[*]) (by first|omega|decide|assumption|(simp only[ByteArray.size_extract,List.length_map];omega)|simp[*]) (by first|omega|decide|assumption|(simp only[ByteArray.size_extract,List.length_map];omega)|simp[*])⟩,wO,I,I⟩<|J KR<|W.cn<|J (noT SI) fun _=>W.exit<|g 5 140 []<|J UV<|W.ret<|EndsW.rt<|J UB ?_
        exact⟨⟨ts⟩,_,rfl,rfl,⟨by dsimp only;omega,i4⟩,by omega,by omega⟩
      ·by_cases c5:ai l (pos+1) 7 = 5
       ·refine cL ?_
        conv=>whnf
        refine g 0 0 []<|J Zdu<|g 9 11 [.call (dE p) [[]]]<|J Zd7<|g 11 16 [.call (V.i (kk:Int)) ([rdC l (pos+1),[]])]<|J ⟨I,I,I,I,Zbr,I,I⟩<|W.sq<|g 16 19 []<|J UD<|W.cn<|J (noT SI) fun _=>W.skip<|W.sq<|g 19 22 [.call (V.i (ai l (pos+1) 7)) ([rdC l (pos+1+1),[]])]<|J ⟨I,⟨UB,I,UV,UA,aa _ _ _ OM OM OM OM⟩,I⟩<|W.blk<|g 36 37 []<|J UB<|W.cn<|J (noT dO) fun _=>?_
        refine g 35 36 []<|J UB<|W.cn<|J (noT dO) fun _=>g 54 56 []<|J UB<|W.cn<|J (noT dO) fun _=>g 66 68 []<|J UB<|W.cn<|J (noT dO) fun _=>g 89 91 []<|J UB<|W.cn<|J (noT dO) fun _=>g 22 95 []<|J UB<|W.cn<|J (fun _=>(W.sq (g 113 115 []<|J UA ?_))) (noF tO)
        refine W.blk ?_
        refine W.lp (fun s (x:Nat×List Task)=>⟨[(0,s.s 0),(1,s.s 1),(3,s.s 3),(4,s.s 4),(5,s.s 5),(6,s.s 6),(8,.i x.1)],[(140,[s.c 140 0,s.c 140 1]),(141,[s.c 141 0]),(3,[s.c 3 0]),(4,[s.c 4 0]),(5,[.own dM (x.2.map aC)])],[]⟩) (fun(x:Nat×List Task)=>x.1≤12∧x.1≤x.2.length∧x.2.length≤64∧(∀ t∈x.2,ia t)) (fun(x:Nat×List Task)=>64 - x.2.length) ((0,p.tasks)) [some 140,some 141,some 3,some 4,some 5] [] ⟨rfl,⟨rfl,⟨_,rfl,_,_,rfl,rfl,rfl⟩,rfl,rfl,rfl,rfl,rfl,I⟩,⟨⟨rfl,⟨rfl,⟨rfl,I⟩⟩⟩,⟨⟨rfl,UA⟩,⟨⟨rfl,⟨rfl,I⟩⟩,⟨⟨rfl,⟨rfl,I⟩⟩,⟨⟨rfl,⟨rfl,I⟩⟩,I⟩⟩⟩⟩⟩,I⟩ ?_ ?_
        ·exact⟨Nat.zero_le _,Nat.zero_le _,hp1,(fR hp).2⟩
        rintro⟨i,ts⟩ ⟨i1,i2,i3,i4⟩
        dsimp only at i1 i2 i3 i4
        by_cases hlt:ts.length < 12
        ·have cd:=gi i OM OM
         have hds:=hJ i
         conv=>whnf
         refine W.sq<|g 115 118 []<|J UD<|W.cn<|J (fun h2=>?_) fun h2=>?_
         replace h2:=dt h2
         simp only[LM]at h2
         refine W.skip<|W.sq<|W.blk<|rgd [[],[],[],[.call (V.s (en (i:Int))) [[]]],[.s ({data:=#[(121:UInt8)]:ByteArray} ++en (i:Int))],[],[],[],[],[]] ?_
         conv=>whnf
         refine J ⟨I,I,I,Zai,⟨rfl,(by simp only[bsz,bsa,ByteArray.size_append,List.size_toArray,tf];omega)⟩,I,⟨UC,I⟩,Zdi,I,UA,I⟩<|J KR<|rg [.i ((↑(Prod.fst (i,ts)):Int) +1)]<|J Zdf ?_
         rotate_left
         replace h2:=df h2
         simp only[LM]at h2
         omega
         refine⟨(i+1,ts++ [(⟨(⟨#[121]⟩:ByteArray) ++en i,1,[]⟩:Task)]),[some 140,some 141,some 3,some 4,some 5],[],⟨rfl,⟨rfl,Zag,rfl,rfl,rfl,rfl,rfl,I⟩,⟨Zd1,⟨⟨rfl,UA⟩,⟨Zad,⟨Zad,⟨⟨rfl,⟨(congrArg (V.own _) (by rw[List.map_append];rfl)),I⟩⟩,I⟩⟩⟩⟩⟩,I⟩,?_,?_⟩
         rotate_left
         rotate_right 1
         dsimp only
         ·refine⟨by omega,by rw[o9];omega,by rw[o9];omega,I4 i4 (HV _ rfl i)⟩
         ·show 64 - (ts++ [_]).length < 64 - ts.length
          rw[o9];omega
        ·obtain⟨t11,ht11⟩:=aj (xs:=ts) (n:=11) OM
         have r3:=aE l (pos+1+1) 2
         conv=>whnf
         refine W.sq<|g 115 118 []<|J UD<|W.cn<|J (fun h2=>?_) fun h2=>?_
         replace h2:=dt h2
         simp only[LM]at h2
         omega
         replace h2:=df h2
         simp only[LM]at h2
         refine W.exit<|rgd [[],[],[],[],[.call (V.i (ai l (pos+1+1) 2)) ([rdC l (pos+1+1+1),[]])],[.i (8+ai l (pos+1+1) 2)],[.n (Int.toNat (8+ai l (pos+1+1) 2))],[.n (11)],[],[.x (aC t11)]] ?_
         conv=>whnf
         refine J ⟨I,I,⟨UA,UA,UA,UA,UA,UA,UA,UA,UA,I⟩,I,⟨UB,I,UV,UA,aa _ _ _ OM OM OM OM⟩,wO,⟨I,OM,I,OM,LN⟩,Zdh,I,⟨UA,xA⟩,I⟩<|J KR<|g 5 140 []<|J UV<|W.ret<|EndsW.rt<|J UB ?_
         have hm11:=i4 t11 (List.mem_of_getElem? ht11)
         exact⟨⟨ts.set 11 ⟨t11.name,t11.cost,([0,1,2,3,4,5,6,7,8]:List Int).take (8+ai l (pos+1+1) 2).toNat⟩⟩,_,congrArg (fun z=>V.agg [V.own dM z]) ((congrArg ((ts.map aC).set 11) (show _ = aC ⟨t11.name,t11.cost,([0,1,2,3,4,5,6,7,8]:List Int).take (8+ai l (pos+1+1) 2).toNat⟩ by show [T.s t11.name,T.i t11.cost,T.slc [false] _] = [T.s t11.name,T.i t11.cost,T.slc [false] _];rw[List.drop_zero,List.map_take];rfl)).trans gh),rfl,LX i3 i4 ⟨hm11.1,by dsimp only;rw[List.length_take];show min _ 9≤128;omega⟩,by omega,by omega⟩
       ·refine cL ?_
        conv=>whnf
        refine g 0 0 []<|J Zdu<|g 9 11 [.call (dE p) [[]]]<|J Zd7<|g 11 16 [.call (V.i (kk:Int)) ([rdC l (pos+1),[]])]<|J ⟨I,I,I,I,Zbr,I,I⟩<|W.sq<|g 16 19 []<|J UD<|W.cn<|J (noT SI) fun _=>W.skip<|W.sq<|g 19 22 [.call (V.i (ai l (pos+1) 7)) ([rdC l (pos+1+1),[]])]<|J ⟨I,⟨UB,I,UV,UA,aa _ _ _ OM OM OM OM⟩,I⟩<|W.blk<|g 36 37 []<|J UB<|W.cn<|J (noT dO) fun _=>?_
        refine g 35 36 []<|J UB<|W.cn<|J (noT dO) fun _=>g 54 56 []<|J UB<|W.cn<|J (noT dO) fun _=>g 66 68 []<|J UB<|W.cn<|J (noT dO) fun _=>g 89 91 []<|J UB<|W.cn<|J (noT dO) fun _=>g 22 95 []<|J UB<|W.cn<|J (noT dO) fun _=>rgd [[],[],[],[],[],[],[.n (kk)],[],[.x (aC t)],[.s (t.name++ {data:=#[(122:UInt8)]:ByteArray})],[.n (kk)],[],[.x (aC t)]] ?_
        conv=>whnf
        refine⟨⟨I,I,I,I,I,I,Zdh,I,xA,⟨rfl,(by simp only[bsz,bsa,ByteArray.size_append,List.size_toArray,tf];omega)⟩,Zdh,I,⟨UA,xA⟩,I⟩,by kernel_rfl,?_⟩
        refine g 5 34 []<|J UV<|W.ret<|EndsW.rt<|J UB ?_
        have e1:(⟨#[122]⟩:ByteArray).size = 1:=rfl
        exact⟨⟨p.tasks.set kk ⟨t.name++ ⟨#[122]⟩,t.cost,t.deps⟩⟩,_,congrArg (fun z=>V.agg [V.own dM z]) (gh (t:=⟨t.name++ ⟨#[122]⟩,t.cost,t.deps⟩)),rfl,wX hp ⟨by dsimp only;rw[ByteArray.size_append];omega,by dsimp only;omega⟩,by omega,by omega⟩
theorem ug(l:List Int)(pos:Int)(p:Plan)(h:cZ p∧hL l∧0≤pos∧pos≤1000000):∃ x:Plan×Int,F iV [.ptr (rdC l pos),.val (dE p)] (dE x.1) [rdC l x.2,[]]∧jm x.1∧pos≤x.2∧x.2≤pos+100:=by
 obtain⟨res,outs,⟨q,pos2,rfl,rfl,h1,h2,h3⟩,hF⟩:=Mh l pos p h.1 h.2.1 h.2.2.1 h.2.2.2
 exact⟨(q,pos2),hF,h1,h2,h3⟩
open Classical in
noncomputable def mX(l:List Int)(pos:Int)(p:Plan):Plan×Int:=if h:cZ p∧hL l∧0≤pos∧pos≤1000000 then(ug l pos p h).choose else(⟨[]⟩,pos)
theorem wc(l:List Int)(pos:Int)(p:Plan)(hp:cZ p)(hl:hL l)(h0:0≤pos)(h1:pos≤1000000):F iV [.ptr (rdC l pos),.val (dE p)] (dE (mX l pos p).1) [rdC l (mX l pos p).2,[]]:=by
 have h:cZ p∧hL l∧0≤pos∧pos≤1000000:=⟨hp,hl,h0,h1⟩
 rw[mX,dif_pos h]
 exact(ug l pos p h).choose_spec.1
theorem Ln(l:List Int)(pos:Int)(p:Plan):jm (mX l pos p).1∧pos≤(mX l pos p).2∧(mX l pos p).2≤pos+100:=by
 unfold mX
 split
 ·rename_i h;exact(ug l pos p h).choose_spec.2
 ·exact⟨⟨Nat.zero_le _,fun t ht=>by cases ht⟩,Int.le_refl _,by dsimp only;omega⟩
end Go.K
end
section
open Go Go.Tm Go.Proofs
namespace Go.K
attribute [local irreducible] ByteArray.extract
theorem JW{m:Message}{n:Nat}{x:ByteArray}(h:m.inputs[n]? = some x):gf m n++x = gf m (n+1):=by
 unfold gf;rw[AP h];simp only[ByteArray.append_assoc]
theorem Og(x:Int):IntKind.u8.wrap x = x % 256:=by simp[IntKind.wrap,IntKind.bits,IntKind.signed]
theorem se{x:Int}(k:Nat)(d:Int)(hk:(2:Int) ^ min k IntKind.i64.bits = d)(h:0≤d):IntKind.u8.wrap (x.fdiv (2 ^ min (Int.toNat (k:Int)) IntKind.i64.bits)) = x / d % 256:=by
 rw[Int.toNat_natCast,hk,Og,Int.fdiv_eq_ediv_of_nonneg _ h]
theorem DP{m:Message}(h:bx m):(⟨(bO ([m.kind,m.frm,m.to,IntKind.u8.wrap (m.epoch.fdiv (2 ^ min (Int.toNat 8) IntKind.i64.bits)),IntKind.u8.wrap m.epoch,IntKind.u8.wrap (m.lease.fdiv (2 ^ min (Int.toNat 24) IntKind.i64.bits)),IntKind.u8.wrap (m.lease.fdiv (2 ^ min (Int.toNat 16) IntKind.i64.bits)),IntKind.u8.wrap (m.lease.fdiv (2 ^ min (Int.toNat 8) IntKind.i64.bits)),IntKind.u8.wrap m.lease,m.task,IntKind.u8.wrap ((m.inputs.map ak).length:Int)].map b1T)).toArray⟩:ByteArray) ++m.text = gf m 0:=by
 obtain⟨h1,h2,h3,h4,h5,h6⟩:=eT h
 have h7:=(cK h).1
 have e:[m.kind,m.frm,m.to,IntKind.u8.wrap (m.epoch.fdiv (2 ^ min (Int.toNat 8) IntKind.i64.bits)),IntKind.u8.wrap m.epoch,IntKind.u8.wrap (m.lease.fdiv (2 ^ min (Int.toNat 24) IntKind.i64.bits)),IntKind.u8.wrap (m.lease.fdiv (2 ^ min (Int.toNat 16) IntKind.i64.bits)),IntKind.u8.wrap (m.lease.fdiv (2 ^ min (Int.toNat 8) IntKind.i64.bits)),IntKind.u8.wrap m.lease,m.task,IntKind.u8.wrap ((m.inputs.map ak).length:Int)] = xd m:=by
  have a1:IntKind.u8.wrap (m.epoch.fdiv (2 ^ min (Int.toNat 8) IntKind.i64.bits)) = m.epoch / 256 % 256:=se 8 256 (by decide) (by decide)
  have a2:IntKind.u8.wrap (m.lease.fdiv (2 ^ min (Int.toNat 24) IntKind.i64.bits)) = m.lease / 16777216 % 256:=se 24 16777216 (by decide) (by decide)
  have a3:IntKind.u8.wrap (m.lease.fdiv (2 ^ min (Int.toNat 16) IntKind.i64.bits)) = m.lease / 65536 % 256:=se 16 65536 (by decide) (by decide)
  have a4:IntKind.u8.wrap (m.lease.fdiv (2 ^ min (Int.toNat 8) IntKind.i64.bits)) = m.lease / 256 % 256:=se 8 256 (by decide) (by decide)
  have b1:m.epoch / 256 % 256 = m.epoch / 256:=by omega
  have b2:m.lease / 16777216 % 256 = m.lease / 16777216:=by omega
  unfold xd
  rw[List.length_map]
  rw[a1,a2,a3,a4,b1,b2,Og,Og,wu8 (z:=(m.inputs.length:Int)) OM OM]
 rw[e,qL,←AR (Au h),iX]
theorem pZ(m:Message)(key:ByteArray)(hl:m.inputs.length≤9223372036854775806):F pQ [.val (dH m),.val (.s key)] (.s (bw m key)) [[],[]]:=by
 have c1:=bZ m hl
 by_cases h:bx m
 ·have hb:=fL h
  obtain⟨h1,h2,h3,h4,h5,h6⟩:=eT h
  obtain⟨h7,h8,h9⟩:=cK h
  rw[show decide (bx m) = true from decide_eq_true h]at c1
  by_cases hk:key.size≤30
  ·have c4:=nJ (cT m) key OM OM
   have hs:(eF (cT m) key).size = 8:=gX _
   refine fo ?_
   conv=>whnf
   refine g 0 0 []<|J ⟨UH,I,I⟩<|W.sq<|g 11 16 [.call VT [[]],BF,BF,BF,BF]<|J Zb5<|W.cn<|J (noT dO) fun _=>W.skip<|g 10 56 [.i m.kind,.i m.frm,.i m.to,.i (Int.fdiv m.epoch (2 ^ min (Int.toNat 8) (IntKind.bits IntKind.i64))),.i (IntKind.wrap IntKind.u8 (Int.fdiv m.epoch (2 ^ min (Int.toNat 8) (IntKind.bits IntKind.i64)))),.i (IntKind.wrap IntKind.u8 m.epoch),.i (Int.fdiv m.lease (2 ^ min (Int.toNat 24) (IntKind.bits IntKind.i64))),.i (IntKind.wrap IntKind.u8 (Int.fdiv m.lease (2 ^ min (Int.toNat 24) (IntKind.bits IntKind.i64)))),.i (Int.fdiv m.lease (2 ^ min (Int.toNat 16) (IntKind.bits IntKind.i64))),.i (IntKind.wrap IntKind.u8 (Int.fdiv m.lease (2 ^ min (Int.toNat 16) (IntKind.bits IntKind.i64)))),.i (Int.fdiv m.lease (2 ^ min (Int.toNat 8) (IntKind.bits IntKind.i64))),.i (IntKind.wrap IntKind.u8 (Int.fdiv m.lease (2 ^ min (Int.toNat 8) (IntKind.bits IntKind.i64)))),.i (IntKind.wrap IntKind.u8 m.lease),.i m.task,.i (IntKind.wrap IntKind.u8 (↑(List.length (List.map ak m.inputs)):Int))]<|J ⟨I,I,wu8 OM OM,I,I,wu8 OM OM,I,I,wu8 OM OM,I,I,Zdr,rfl,I,I,rfl,I,I,Zdr,rfl,I,I,Zdr,rfl,I,I,Zdr,rfl,I,I,rfl,I,I,wu8 OM OM,I,I,I,rfl,⟨UA,UA,UA,UA,UA,UA,UA,UA,UA,UA,UA,I⟩,I,I⟩<|g 56 61 [.s ({data:=List.toArray (bO [[T.v (Value.int IntKind.u8 m.kind)],[T.v (Value.int IntKind.u8 m.frm)],[T.v (Value.int IntKind.u8 m.to)],[T.v (Value.int IntKind.u8 (IntKind.wrap IntKind.u8 (Int.fdiv m.epoch (2 ^ min (Int.toNat 8) (IntKind.bits IntKind.i64)))))],[T.v (Value.int IntKind.u8 (IntKind.wrap IntKind.u8 m.epoch))],[T.v (Value.int IntKind.u8 (IntKind.wrap IntKind.u8 (Int.fdiv m.lease (2 ^ min (Int.toNat 24) (IntKind.bits IntKind.i64)))))],[T.v (Value.int IntKind.u8 (IntKind.wrap IntKind.u8 (Int.fdiv m.lease (2 ^ min (Int.toNat 16) (IntKind.bits IntKind.i64)))))],[T.v (Value.int IntKind.u8 (IntKind.wrap IntKind.u8 (Int.fdiv m.lease (2 ^ min (Int.toNat 8) (IntKind.bits IntKind.i64)))))],[T.v (Value.int IntKind.u8 (IntKind.wrap IntKind.u8 m.lease))],[T.v (Value.int IntKind.u8 m.task)],[T.v (Value.int IntKind.u8 (IntKind.wrap IntKind.u8 (↑(List.length (List.map ak m.inputs)):Int)))]]):ByteArray}),.s ({data:=List.toArray (bO [[T.v (Value.int IntKind.u8 m.kind)],[T.v (Value.int IntKind.u8 m.frm)],[T.v (Value.int IntKind.u8 m.to)],[T.v (Value.int IntKind.u8 (IntKind.wrap IntKind.u8 (Int.fdiv m.epoch (2 ^ min (Int.toNat 8) (IntKind.bits IntKind.i64)))))],[T.v (Value.int IntKind.u8 (IntKind.wrap IntKind.u8 m.epoch))],[T.v (Value.int IntKind.u8 (IntKind.wrap IntKind.u8 (Int.fdiv m.lease (2 ^ min (Int.toNat 24) (IntKind.bits IntKind.i64)))))],[T.v (Value.int IntKind.u8 (IntKind.wrap IntKind.u8 (Int.fdiv m.lease (2 ^ min (Int.toNat 16) (IntKind.bits IntKind.i64)))))],[T.v (Value.int IntKind.u8 (IntKind.wrap IntKind.u8 (Int.fdiv m.lease (2 ^ min (Int.toNat 8) (IntKind.bits IntKind.i64)))))],[T.v (Value.int IntKind.u8 (IntKind.wrap IntKind.u8 m.lease))],[T.v (Value.int IntKind.u8 m.task)],[T.v (Value.int IntKind.u8 (IntKind.wrap IntKind.u8 (↑(List.length (List.map ak m.inputs)):Int)))]]):ByteArray} ++m.text)]<|J ⟨I,⟨I,(by repeat (first|exact lq|refine ju ?_)),rfl⟩,I,I,⟨rfl,(by simp only[bsz,ByteArray.size_append,tf];omega)⟩,I,I⟩ ?_
   refine W.sq<|g 0 1 []<|J UD<|W.blk<|W.lp (fun s (n:Nat)=>⟨[(1,s.s 1),(4,s.s 4),(6,.s (gf m n)),(9,s.s 9),(62,s.s 62),(63,s.s 63),(64,.i n)],[],[]⟩) (fun(n:Nat)=>n≤m.inputs.length) (fun(n:Nat)=>m.inputs.length - n) (0) [] [] ⟨rfl,⟨rfl,rfl,(congrArg (fun z=>V.t (T.v (Value.string z))) (DP h)),Zah,rfl,rfl,rfl,I⟩,I,I⟩ OM ?_
   intro n hn
   have hc:=qM h n hn
   have hs2:(eF (gf m n) key).size = 8:=gX _
   conv=>whnf
   refine g 0 0 []<|J UA<|W.sq<|W.cn<|J (fun h10=>?_) fun h10=>?_
   replace h10:=dt h10
   simp only[LM]at h10
   refine W.skip<|W.sq<|W.blk ?_
   obtain⟨y1,hy1⟩:=aj (xs:=Message.inputs m) (n:=n) OM
   have hm1:=h8 y1 (List.mem_of_getElem? hy1)
   refine g 65 68 [.x (ak y1)]<|J Zcm<|rg [.s (gf m n++y1)]<|J ⟨I,I,⟨rfl,OM⟩,I,I⟩<|rg [.i ((n:Int) +1)]<|J Zdm ?_
   rotate_left
   replace h10:=df h10
   simp only[LM]at h10
   refine W.exit<|g 62 77 [.call (V.s (eF (gf m n) key)) [[],[]],.s (eF (gf m n) key++gf m n)]<|J ⟨I,I,⟨UB,I,UT,UA,nJ _ _ OM OM⟩,I,⟨rfl,OM⟩,I,I⟩<|RT ?_
   rotate_left
   ·refine⟨n+1,[],[],⟨rfl,⟨rfl,rfl,(congrArg (fun z=>V.t (T.v (Value.string z))) (JW AS)),Zah,rfl,rfl,rfl,I⟩,I,I⟩,?_,?_⟩
    rotate_left
    (dsimp only;omega)
    dsimp only
    omega
   ·exact vs (by rw[show n = m.inputs.length by omega,um];exact(if_pos ⟨h,hk⟩).symm)
  ·refine fo ?_
   conv=>whnf
   refine g 0 0 []<|J ⟨UH,I,I⟩<|W.sq<|g 11 16 [.call VT [[]],BF,BF,BF,BF]<|J Zb5<|W.cn<|J (fun _=>(g 16 17 []<|J UA (RT ?_))) (noF tO)
   exact vs (if_neg (fun h=>hk h.2)).symm
 ·rw[show decide (bx m) = false from decide_eq_false h]at c1
  refine fo ?_
  conv=>whnf
  refine g 0 0 []<|J ⟨UH,I,I⟩<|W.sq<|g 11 16 [.call VF [[]],BT,BT,BT,BT]<|J ⟨I,Zb6,I,I,rfl,rfl,rfl,rfl,I⟩<|W.cn<|J (fun _=>(g 16 17 []<|J UA (RT ?_))) (noF rfl)
  exact vs (if_neg (fun x=>h x.1)).symm
end Go.K
end
section
open Go Go.Tm Go.Proofs
namespace Go.K
attribute [local irreducible] ByteArray.extract
end Go.K
end
section
open Go Go.Tm Go.Proofs
namespace Go.K
theorem Pd{l:List Int}(h8:∀ x∈l,0≤x∧x≤255):hL (l.take 2000):=⟨by rw[List.length_take];omega,fun x hx=>h8 x (List.mem_of_mem_take hx)⟩
end Go.K
end
section
open Go Go.Tm Go.Proofs
namespace Go.K
theorem GF(e:Entry):(cq e).size≤4+e.text.size:=by
 unfold cq
 split
 ·rw[ByteArray.size_append,gB];exact Nat.le_refl _
 ·exact Nat.zero_le _
end Go.K
end
section
open Go Go.Tm Go.Proofs
namespace Go.K
theorem MS{n:Nat}{t:TypeId}{zc:List V}{b:Nat}(ht:E.ty t = some ⟨.int .u8,zc,b⟩){xs:List (List T)}(h:∀ y∈xs,wfT E (n+1) t y):∃ l:List Int,xs = l.map b1T∧∀ x∈l,0≤x∧x≤255 :=
 Hl (f:=b1T) (p:=fun x=>0≤x∧x≤255) fun y hy=>by
  have h1:=h y hy
  simp only[wfT,ht]at h1
  obtain⟨m,hm,h2,h3⟩:=h1
  exact⟨m,hm,h2,h3⟩
end Go.K
end
section
open Go Go.Tm Go.Proofs
namespace Go.K
structure RepOk (p:Plan) (xs:List ByteArray):Prop where
 plan:jm p
 len:xs.length≤400
 size:∀ s∈xs,s.size≤64
end Go.K
end
section
open Go Go.Tm Go.Proofs
namespace Go.K
attribute [local irreducible] ByteArray.extract
theorem M0(b k:ByteArray):(eF b k).size = 8:=by unfold eF;exact gX _
end Go.K
end
section
open Go Go.Tm Go.Proofs
namespace Go.K
theorem N3{hs:List Int}{r:ByteArray}{k:Nat}{x:Int}(hk:hs[k]? = some x)(hx:0≤x∧x≤255):byt (bl hs++r) k = x:=by
 obtain⟨⟨l⟩⟩:=r
 have e:bl hs++ ⟨⟨l⟩⟩ = ⟨⟨(hs.map fun n=>UInt8.ofNat n.toNat) ++l⟩⟩:=by
  apply ByteArray.ext
  rw[ByteArray.data_append]
  apply Array.ext'
  simp[bl]
 have h1:((hs.map fun n=>UInt8.ofNat n.toNat) ++l)[k]? = some (UInt8.ofNat x.toNat):=by
  rw[List.getElem?_append_left (by rw[List.length_map];exact(List.getElem?_eq_some_iff.1 hk).1),List.getElem?_map,hk];rfl
 rw[e,tM h1]
 simp;omega
theorem sD(a r:ByteArray):(a++r).extract a.size (a++r).size = r:=by
 have e:a.extract a.size (a.size+r.size) = emp:=ByteArray.size_eq_zero_iff.1 (by rw[ByteArray.size_extract];omega)
 rw[ByteArray.size_append,ByteArray.extract_append,e,GN]
 simp
theorem xE:∀ (xs:List ByteArray),(∀ s∈xs,s.size = 8)→∀ (p:ByteArray) (k:Nat),p.size = 8 * k→(List.range xs.length).map (fun j=>(p++im xs).extract (8 * (j+k)) (8 * (j+k) +8)) = xs
 |[],_,p,k,hp=>rfl
 |x :: xs,h,p,k,hp=>by
  have hx:=h x (List.mem_cons_self ..)
  rw[List.length_cons,List.range_succ_eq_map,List.map_cons,List.map_map]
  have ih:=xE xs (fun s hs=>h s (List.mem_cons_of_mem _ hs)) (p++x) (k+1) (by rw[ByteArray.size_append];omega)
  congr 1
  ·rw[im,Nat.zero_add,←ByteArray.append_assoc]
   rw[show 8 * k = p.size by omega,show p.size+8 = (p++x).size by rw[ByteArray.size_append];omega]
   have e0:(im xs).extract (p.size - (p++x).size) ((p++x).size - (p++x).size) = emp:=ByteArray.size_eq_zero_iff.1 (by rw[ByteArray.size_extract];omega)
   rw[ByteArray.extract_append,e0,CE]
   exact sD p x
  ·conv=>rhs;rw[←ih]
   refine List.map_congr_left fun j _=>?_
   show(p++im (x :: xs)).extract (8 * (j+1+k)) (8 * (j+1+k) +8) = _
   rw[im,←ByteArray.append_assoc,show j+1+k = j+ (k+1) by omega]
theorem Dy{xs:List ByteArray}(h:∀ s∈xs,s.size = 8):bS (im xs) xs.length = xs:=by
 have:=xE xs h emp 0 rfl
 rw[GN]at this
 exact this
theorem GQ{xs:List ByteArray}(h:∀ s∈xs,s.size = 8):(im xs).size = 8 * xs.length:=by
 induction xs with
 |nil=>rfl
 |cons x xs ih =>
  have:=h x (List.mem_cons_self ..)
  rw[im,ByteArray.size_append,ih fun s hs=>h s (List.mem_cons_of_mem _ hs),List.length_cons];omega
theorem Po{m:Message}(h:bx m):rdM (cT m) = m:=by
 obtain⟨h1,h2,h3,h4,h5,h6⟩:=eT h
 obtain⟨h7,h8,h9⟩:=cK h
 have hb:cT m = bl (xd m) ++ (m.text++im m.inputs):=by unfold cT;rw[ByteArray.append_assoc]
 have hl:(bl (xd m)).size = 11:=by rw[gB];rfl
 have hx:(cT m).extract 11 (cT m).size = m.text++im m.inputs:=by rw[hb,←hl];exact sD _ _
 have hs:(cT m).size - 11 = m.text.size+8 * m.inputs.length:=by rw[hb,ByteArray.size_append,hl,ByteArray.size_append,GQ h8];omega
 have b:∀ (k:Nat) (x:Int),(xd m)[k]? = some x→0≤x∧x≤255→byt (cT m) k = x:=fun k x hk hx=>by rw[hb];exact N3 hk hx
 have k0:=b 0 m.kind rfl ⟨by omega,by omega⟩
 have k1:=b 1 m.frm rfl ⟨by omega,by omega⟩
 have k2:=b 2 m.to rfl ⟨by omega,by omega⟩
 have k3:=b 3 (m.epoch / 256) rfl ⟨by omega,by omega⟩
 have k4:=b 4 (m.epoch % 256) rfl ⟨by omega,by omega⟩
 have k5:=b 5 (m.lease / 16777216) rfl ⟨by omega,by omega⟩
 have k6:=b 6 (m.lease / 65536 % 256) rfl ⟨by omega,by omega⟩
 have k7:=b 7 (m.lease / 256 % 256) rfl ⟨by omega,by omega⟩
 have k8:=b 8 (m.lease % 256) rfl ⟨by omega,by omega⟩
 have k9:=b 9 m.task rfl ⟨by omega,by omega⟩
 have e1:m.epoch / 256 * 256+m.epoch % 256 = m.epoch:=by omega
 have e2:m.lease / 16777216 * 16777216+m.lease / 65536 % 256 * 65536+m.lease / 256 % 256 * 256+m.lease % 256 = m.lease:=by omega
 by_cases h3k:m.kind = 3
 ·have hi:m.inputs = []:=by
   rcases h.2 with q|q|q|q|q
   ·have:=q.1;omega
   ·have:=q.1;omega
   ·exact List.eq_nil_of_length_eq_zero (by have:=q.2.2.2.2.2.2;omega)
   ·have:=q.1;omega
   ·have:=q.1;omega
  unfold rdM
  rw[k0,k1,k2,k3,k4,k5,k6,k7,k8,k9,e1,e2,if_pos h3k,if_pos h3k,hx,hi,im,CE]
  obtain⟨a1,a2,a3,a4,a5,a6,a7,a8⟩:=m
  dsimp only at hi
  rw[hi]
 ·have ht:m.text = emp:=by
   rcases h.2 with q|q|q|q|q
   ·exact q.2.2.2.2.2.1
   ·exact q.2.2.2.2.2.1
   ·exact absurd q.1 h3k
   ·exact q.2.2.2.2.2.1
   ·exact q.2.2.2.2.2.1
  have hn:((cT m).size - 11) / 8 = m.inputs.length:=by
   rw[hs,ht]
   have:emp.size = 0:=rfl
   omega
  unfold rdM
  rw[k0,k1,k2,k3,k4,k5,k6,k7,k8,k9,e1,e2,if_neg h3k,if_neg h3k,hx,hn,ht,GN,Dy h8]
  obtain⟨a1,a2,a3,a4,a5,a6,a7,a8⟩:=m
  dsimp only at ht
  rw[ht]
theorem z9{m:Message}{key:ByteArray}(h:bx m)(hk:key.size≤30):ci (bw m key) key = some m:=by
 have e:bw m key = eF (cT m) key++cT m:=if_pos ⟨h,hk⟩
 have e8:=M0 (cT m) key
 have hx:(bw m key).extract 8 (bw m key).size = cT m:=by rw[e,←e8];exact sD _ _
 have hb:=fL h
 refine om ?_ (by rw[hx];exact Po h) rfl
 rw[e,ByteArray.size_append,e8,hb];omega
end Go.K
end
section
open Go Go.Tm Go.Proofs
namespace Go.K
attribute [local irreducible] ByteArray.extract
theorem Ei{s key:ByteArray}{m:Message}(h:ci s key = some m):bx m:=by
 unfold ci at h
 by_cases h0:s.size < 19
 ·rw[if_pos (Or.inl h0)]at h;cases h
 ·by_cases h1:bw (rdM (s.extract 8 s.size)) key = s
  ·rw[if_neg (by rintro(h|h);exact h0 h;exact h h1)]at h
   cases h
   exact((lJ h0).1 h1).1
  ·rw[if_pos (Or.inr h1)]at h;cases h
end Go.K
end
section
open Go Go.Tm Go.Proofs
namespace Go.K
attribute [local irreducible] ByteArray.extract
end Go.K
end
section
open Go Go.Tm Go.Proofs
namespace Go.K
theorem PG{e:Entry}(h:e.ok):rdS (cq e) = e:=by
 have hok:=h
 obtain⟨⟨h1,h2⟩,⟨h3,h4⟩,h5⟩:=h
 have hk:1≤e.kind∧e.kind≤2:=by rcases h5 with q|q <;> (have:=q.1;omega)
 have d1:e.epoch.tdiv 256 = e.epoch / 256:=Int.tdiv_eq_ediv_of_nonneg OM
 have d2:e.epoch.tmod 256 = e.epoch % 256:=Int.tmod_eq_emod_of_nonneg OM
 have hf:cq e = bl [e.kind,e.epoch / 256,e.epoch % 256,e.task] ++e.text:=by
  rw[cq,if_pos hok,d1,d2,wO,wu8 OM OM,wu8 OM OM,wu8 OM OM,wu8 OM OM]
 have hl:(bl [e.kind,e.epoch / 256,e.epoch % 256,e.task]).size = 4:=by rw[gB];rfl
 have hx:(cq e).extract 4 (cq e).size = e.text:=by rw[hf,←hl];exact sD _ _
 have b:∀ (k:Nat) (x:Int),([e.kind,e.epoch / 256,e.epoch % 256,e.task])[k]? = some x→0≤x∧x≤255→byt (cq e) k = x:=fun k x hk hx=>by rw[hf];exact N3 hk hx
 have k0:=b 0 e.kind rfl ⟨by omega,by omega⟩
 have k1:=b 1 (e.epoch / 256) rfl ⟨by omega,by omega⟩
 have k2:=b 2 (e.epoch % 256) rfl ⟨by omega,by omega⟩
 have k3:=b 3 e.task rfl ⟨by omega,by omega⟩
 unfold rdS
 rw[k0,k1,k2,k3,hx,show e.epoch / 256 * 256+e.epoch % 256 = e.epoch by omega]
theorem uc{e:Entry}(h:e.ok):(cq e).size = 4+e.text.size:=by
 rw[cq,if_pos h,ByteArray.size_append,gB];rfl
theorem lZ{e:Entry}(h:e.ok):dy (cq e) = some e:=by
 have:=uc h
 rw[dy,if_neg OM,PG h,if_pos rfl]
theorem l9{s:ByteArray}{e:Entry}(h:dy s = some e):cq e = s:=by
 unfold dy at h
 split at h
 ·cases h
 ·split at h
  ·cases h;assumption
  ·cases h
end Go.K
end
section
open Go Go.Tm Go.Proofs
namespace Go.K
theorem S4{p:Plan}(hck:ah p.tasks = 0):∀ t∈p.tasks,t.deps.length≤8:=fun t ht=>by
 obtain⟨k,hk⟩:=List.getElem?_of_mem ht
 exact(bz hck hk).2.2.1
structure HandK (b:Boss) (ts:List Task) (h:Hand):Prop where
 jl:JL b.epoch b.now h.given b.workers b.results ts h.jobs
 seats:∀ s∈h.seats,0≤s.epoch∧s.epoch≤300
theorem Nk{b:Boss}{ts:List Task}(hd:∀ t∈ts,t.deps.length≤8)(he:1≤b.epoch)(h0:0≤b.given)(h1:b.given≤1000000)(hjl:b.jobs.length = ts.length)(hsl:(b.seats.length:Int) = b.workers)(hj:JL b.epoch b.now b.given b.workers b.results ts b.jobs)(hs:∀ s∈b.seats,0≤s.epoch∧s.epoch≤300):∀ n,n≤ts.length→HandK b ts (aD b ts n)
 |0,_=>⟨hj,hs⟩
 |n+1,hn=>by
  have ih:=Nk hd he h0 h1 hjl hsl hj hs n OM
  have ho:=kK hd h0 h1 n
  by_cases hc:CanHand b ts (aD b ts n) n
  ·cases hf:gM (aD b ts n).seats with
   |none=>rw[g8 hf];exact ih
   |some s =>
    rw[gZ hc hf]
    obtain⟨x,hx0,hx1,hx2,_⟩:=ou hf
    have e1:=ho.jobs
    have e2:=ho.seats
    obtain⟨j,hj0⟩:=aj (xs:=(aD b ts n).jobs) (n:=n) OM
    refine⟨Rk ih.jl hj0 ho.lo ⟨by omega,by omega⟩ hc.res hc.ready he,fun y hy=>?_⟩
    rcases List.mem_or_eq_of_mem_set hy with hy|hy
    ·exact ih.seats y hy
    ·rw[hy]
     have:lx (aD b ts n).seats s = x:=by rw[lx,hx0];rfl
     show 0≤(lx _ _).epoch∧(lx _ _).epoch≤300
     rw[this]
     exact ih.seats x (List.mem_of_getElem? hx0)
  ·rw[eY hc];exact ih
theorem Oe{b:Boss}(h:¬b.up = false):b.up = true:=by cases hb:b.up;exact absurd hb h;rfl
theorem FP{b:Boss}{p:Plan}(hv:BossOk b p):BossOk (ee b p.tasks).boss p:=by
 by_cases h0:b.now = 1000000
 ·rw[jv h0];exact hv
 have hnow:=hv.now
 by_cases hup:b.up = false
 ·rw[mM h0 hup]
  obtain⟨d1,d2,d3,d4,d5,d6,d7,d8⟩:=hv.down hup
  exact⟨hv.plan,hv.workers,⟨by show 0≤b.now+1;omega,by show b.now+1≤1000000;omega⟩,hv.code,(fun e=>by rw[show(Sg b).up = b.up from rfl,hup]at e;cases e),fun _=>⟨d1,d2,d3,d4,d5,d6,d7,d8⟩⟩
 have hup2:=Oe hup
 obtain⟨u1,u2,u3,u4,u5,u6,⟨u7,u8⟩,⟨u9,u10⟩,u11,u12,u13,u14⟩:=hv.up hup2
 have hd:=S4 hv.plan
 have hj:JL (cG b).epoch (cG b).now (cG b).given (cG b).workers (cG b).results p.tasks (cG b).jobs:=Rm (Cv u12)
 have hjl:(cG b).jobs.length = p.tasks.length:=by show(b.jobs.map _).length = _;rw[List.length_map];exact u4
 have hk:=Nk (b:=cG b) (ts:=p.tasks) hd u2 u9 u10 hjl u5 hj u13 p.tasks.length (Nat.le_refl _)
 have ho:=kK (b:=cG b) (ts:=p.tasks) hd u9 u10 p.tasks.length
 have e1:(endH b p.tasks).jobs.length = p.tasks.length:=by show(aD _ _ _).jobs.length = _;rw[ho.jobs];exact hjl
 have e2:((endH b p.tasks).seats.length:Int) = b.workers:=by show((aD _ _ _).seats.length:Int) = _;rw[ho.seats];exact u5
 by_cases hs:b.since+1 = 2
 ·rw[fC h0 hup hs]
  have es:bU ⟨b.workers,b.up,b.now+1,0,b.epoch,(endH b p.tasks).given,⟨b.log.safe++b.log.loose,[]⟩,b.results,(endH b p.tasks).jobs,(endH b p.tasks).seats,[]⟩ p = bU b p:=by show am p ((b.log.safe++b.log.loose) ++ []) = am p (b.log.safe++b.log.loose);rw[List.append_nil]
  refine⟨hv.plan,hv.workers,⟨by show 0≤b.now+1;omega,by show b.now+1≤1000000;omega⟩,by rw[es];exact hv.code,fun _=>?_,fun e=>absurd (show b.up = false from e) hup⟩
  rw[es]
  exact⟨u1,u2,u3,e1,e2,u6,⟨Int.le_refl _,by show(0:Int)≤1;omega⟩,⟨ho.lo,ho.hi⟩,Nat.zero_le _,zR hk.jl,hk.seats,fun o ho=>by cases ho⟩
 ·rw[gW h0 hup hs]
  have es:bU ⟨b.workers,b.up,b.now+1,b.since+1,b.epoch,(endH b p.tasks).given,b.log,b.results,(endH b p.tasks).jobs,(endH b p.tasks).seats,b.owed⟩ p = bU b p:=rfl
  refine⟨hv.plan,hv.workers,⟨by show 0≤b.now+1;omega,by show b.now+1≤1000000;omega⟩,by rw[es];exact hv.code,fun _=>?_,fun e=>absurd (show b.up = false from e) hup⟩
  rw[es]
  exact⟨u1,u2,u3,e1,e2,u6,⟨by show 0≤b.since+1;omega,by show b.since+1≤1;omega⟩,⟨ho.lo,ho.hi⟩,u11,zR hk.jl,hk.seats,fun o ho=>by obtain⟨a1,a2,a3,a4⟩:=u14 o ho;exact⟨a1,a2,a3,a4⟩⟩
end Go.K
end
section
open Go Go.Tm Go.Proofs
namespace Go.K
theorem z7(ts:List Task)(st:Option Tale)(xs:List ByteArray)(s:ByteArray):iw ts st (xs++ [s]) = (iw ts st xs).bind fun t=>cY ts t s:=by
 rw[ly];cases iw ts st xs with
 |none=>rfl
 |some t=>rfl
theorem CW{p:Plan}{xs:List ByteArray}{e:Entry}{t:Task}(h:(am p xs).code = 0)(hl:xs.length < 310)(hok:e.ok)(hk:¬e.kind = 1)(he:e.epoch = (am p xs).epoch)(ht:p.tasks[e.task.toNat]? = some t)(ht2:e.task < p.tasks.length)(hr:atS (am p xs).results e.task = emp)(hd:cu (am p xs).results t.deps):am p (xs++ [cq e]) = ⟨0,(am p xs).epoch,(am p xs).results.set e.task.toNat e.text⟩:=by
 obtain⟨hck,_,hrl,u,h1,h2⟩:=bL h
 rw[h2]at he hr hd ⊢
 dsimp only at he hr hd
 obtain⟨y,hy⟩:∃ y,u.results[e.task.toNat]? = some y:=by
  rw[h2]at hrl
  exact aj (by have:=hok.2.1.1;dsimp only at hrl;omega)
 have hs:cY p.tasks u (cq e) = some ⟨u.epoch,u.results.set e.task.toNat e.text⟩:=xV (lZ hok) hk he ht2 hy (by rw[kR hy]at hr;exact hr) ht hd
 unfold am
 rw[if_pos ⟨hck,by rw[List.length_append,List.length_singleton];omega⟩,z7,h1]
 rw[Option.bind_some,hs]
theorem rE{p:Plan}{xs:List ByteArray}{n:Int}(h:(am p xs).code = 0)(hl:xs.length < 310)(hn:n = (am p xs).epoch+1)(h3:n≤300):am p (xs++ [cq (epE n)]) = ⟨0,n,(am p xs).results⟩:=by
 obtain⟨hck,_,hrl,u,h1,h2⟩:=bL h
 have he:=(eS h).1
 rw[h2]at hn he ⊢
 dsimp only at hn he
 have hok:(epE n).ok:=⟨⟨by show 1≤n;omega,h3⟩,⟨Int.le_refl _,by show(0:Int)≤39;omega⟩,.inl ⟨rfl,rfl,rfl⟩⟩
 have hs:cY p.tasks u (cq (epE n)) = some ⟨n,u.results⟩:=BQ (lZ hok) rfl hn
 unfold am
 rw[if_pos ⟨hck,by rw[List.length_append,List.length_singleton];omega⟩,z7,h1]
 rw[Option.bind_some,hs]
theorem gE{p:Plan}{xs ys:List ByteArray}(h:(am p (xs++ys)).code = 0):(am p xs).code = 0:=by
 obtain⟨hck,hl,_,u,h1,_⟩:=bL h
 rw[ly]at h1
 unfold am
 rw[if_pos ⟨hck,by rw[List.length_append]at hl;omega⟩]
 cases hr:iw p.tasks (some (kS p.tasks)) xs with
 |none=>rw[hr,fS]at h1;cases h1
 |some t=>rfl
theorem qG{b:Boss}{p:Plan}(k:Int)(hv:BossOk b p):BossOk (fh b k) p:=by
 by_cases hup:b.up = false
 ·rw[lj hup];exact hv
 rw[tD hup]
 have hc:(am p ((b.log.safe++b.log.loose.take (gt k b.log.loose.length)) ++ [])).code = 0:=by
  rw[List.append_nil]
  have h:=hv.code
  rw[bU,←List.take_append_drop (gt k b.log.loose.length) b.log.loose,←List.append_assoc]at h
  exact gE h
 exact⟨hv.plan,hv.workers,hv.now,hc,(fun e=>by cases e),fun _=>⟨rfl,rfl,rfl,rfl,rfl,rfl,rfl,rfl⟩⟩
theorem wF{b:Boss}{p:Plan}(hv:BossOk b p):BossOk (aY b p) p:=by
 by_cases hr:mY b p
 ·rw[vO hr]
  obtain⟨h1,h2,h3⟩:=hr
  obtain⟨_,hc⟩:=sN hv h1
  have hw:=hv.workers
  have he:=(eS hc).1
  obtain⟨hck,_,hrl,_⟩:=bL hc
  have e:=rE (p:=p) (xs:=b.log.safe) (n:=(am p b.log.safe).epoch+1) hc h2 rfl OM
  have es:bU (upB b.workers b.now b.log.safe p (am p b.log.safe)) p = ⟨0,(am p b.log.safe).epoch+1,(am p b.log.safe).results⟩:=by
   show am p ((b.log.safe++ [cq (epE _)]) ++ []) = _
   rw[List.append_nil,e]
  refine⟨hv.plan,hw,hv.now,by rw[es],fun _=>?_,fun e=>by cases e⟩
  rw[es]
  refine⟨rfl,by show 1≤(am p b.log.safe).epoch+1;omega,hrl,by show(List.replicate _ _).length = _;rw[List.length_replicate],by show((List.replicate b.workers.toNat jZ).length:Int) = b.workers;rw[List.length_replicate];omega,rfl,⟨Int.le_refl _,by show(0:Int)≤1;omega⟩,⟨Int.le_refl _,by show(0:Int)≤1000000;omega⟩,Nat.zero_le _,?_,?_,fun o ho=>by cases ho⟩
  ·intro i j _ hj
   have:j = ga:=by
    have:=List.mem_of_getElem? hj
    exact(List.mem_replicate.1 this).2
   subst this
   exact⟨fun _=>⟨rfl,rfl⟩,fun q=>absurd rfl q⟩
  ·intro s hs
   rw[(List.mem_replicate.1 hs).2]
   exact⟨Int.le_refl _,by show(0:Int)≤300;omega⟩
 ·rw[lz hr];exact hv
end Go.K
end
section
open Go Go.Tm Go.Proofs
namespace Go.K
noncomputable def ix(key:ByteArray)(acc:List Parcel)(m:Message):List Parcel:=if bx m∧key.size≤30∧acc.length < 2000 then acc++ [⟨m.to,bw m key,bw m key⟩]else acc
noncomputable def f0(xs:List Parcel)(ms:List Message)(key:ByteArray)(n:Nat):List Parcel:=(ms.take n).foldl (ix key) xs
noncomputable def qr(xs:List Parcel)(ms:List Message)(key:ByteArray):List Parcel:=f0 xs ms key ms.length
theorem Gh(xs:List Parcel)(ms:List Message)(key:ByteArray):f0 xs ms key 0 = xs:=by unfold f0;rw[List.take_zero];rfl
theorem qs{xs:List Parcel}{ms:List Message}{key:ByteArray}{n:Nat}{m:Message}(h:ms[n]? = some m):f0 xs ms key (n+1) = ix key (f0 xs ms key n) m:=by
 unfold f0;rw[List.take_add_one,h];simp
theorem LC{key:ByteArray}{acc:List Parcel}{m:Message}(h:acc.length≤1048576):(ix key acc m).length≤1048576:=by
 unfold ix;split
 ·rename_i h2;rw[List.length_append];simp;omega
 ·exact h
theorem sk{xs:List Parcel}(ms:List Message)(key:ByteArray)(h:xs.length≤1048576):∀ n,(f0 xs ms key n).length≤1048576
 |0=>by rw[Gh];exact h
 |n+1=>by
  cases hm:ms[n]? with
  |none =>
   have:ms.take (n+1) = ms.take n:=by rw[List.take_add_one,hm];simp
   have e:f0 xs ms key (n+1) = f0 xs ms key n:=by unfold f0;rw[this]
   rw[e];exact sk ms key h n
  |some m=>rw[qs hm];exact LC (sk ms key h n)
theorem wB(b k:ByteArray):(eF b k).size = 8:=by unfold eF HC;rw[gB,pD]
theorem Eo{xs:List Parcel}{ms:List Message}{key:ByteArray}{n:Nat}{m:Message}(h:ms[n]? = some m)(h1:bx m)(h2:key.size≤30)(h3:(f0 xs ms key n).length < 2000) :
 (f0 xs ms key n).map bI++ [bI ⟨m.to,bw m key,bw m key⟩] = (f0 xs ms key (n+1)).map bI:=by
 rw[qs h,ix,if_pos ⟨h1,h2,h3⟩,List.map_append];rfl
theorem sL{xs:List Parcel}{ms:List Message}{key:ByteArray}{n:Nat}{m:Message}(h:ms[n]? = some m)(h1:¬(bx m∧key.size≤30∧(f0 xs ms key n).length < 2000)) :
 (f0 xs ms key n).map bI = (f0 xs ms key (n+1)).map bI:=by
 rw[qs h,ix,if_neg h1]
theorem DG(xs:List Parcel)(ms:List Message)(key:ByteArray)(hx:xs.length≤1048576)(hl:ms.length≤1048576)(hm:∀ m∈ms,m.inputs.length≤1048576):F Da [.val (.t (Ag xs)),.val (.t (.slc ca (ms.map aF))),.val (.s key)] (.own pkd ((qr xs ms key).map bI)) [[],[],[]]:=by
 refine Dr ?_
 conv=>whnf
 refine g 0 0 []<|J UA<|g 11 13 [.call (V.own pkd (List.map bI xs)) [[]]]<|J ⟨I,⟨UA,I,US,UA,dc _ OM⟩,I,I⟩<|W.sq<|g 0 0 []<|J UC<|W.blk<|W.lp (fun s (n:Nat)=>⟨[(0,s.s 0),(1,s.s 1),(2,s.s 2),(6,s.s 6),(7,.ref ⟨12,none,0⟩),(13,s.s 13),(14,s.s 14),(15,.i n)],[(12,[.own pkd ((f0 xs ms key n).map bI)])],[]⟩) (fun(n:Nat)=>n≤ms.length) (fun(n:Nat)=>ms.length - n) (0) [some 12] [] ⟨rfl,Zar,Zdp,I⟩ OM ?_
 intro n hn
 have hpl:=sk ms key hx n
 by_cases hn2:n < ms.length
 ·obtain⟨m,hm1⟩:=aj hn2
  have hmi:=hm m (List.mem_of_getElem? hm1)
  have cv:=bZ m OM
  have cf:=pZ m key OM
  by_cases hv:bx m
  ·rw[decide_eq_true hv]at cv
   by_cases hk:key.size≤30
   ·by_cases h3:(f0 xs ms key n).length < 2000
    ·conv=>whnf
     refine g 0 0 []<|J UA<|W.sq<|W.cn<|J (fun _=>(W.skip (W.sq (W.blk (g 16 19 [.x (aF m)]<|J ⟨Zdj,I,I,UH,I⟩ (g 19 30 [.call VT [[]],BT,BT,BT,BT,BT,BT,BT,BT]<|J ⟨I,Zb6,I,Zde,Zde,Zde,rfl,I,⟨tO,I⟩,⟨tO,I⟩,⟨tO,I⟩,tO,I⟩ (W.cn<|J (fun h1=>?_) fun h1=>?_))))))) (noF SI)
     replace h1:=dt h1
     simp only[LM]at h1
     refine g 30 34 [.call (V.s (bw m key)) [[],[]]]<|J ⟨I,I,Zc5,I,I⟩<|rg []<|J ⟨I,I,I,I,I,I,⟨UC,I⟩,Zdi,I,I⟩<|rg [.i ((n:Int) +1)]<|J Zdm ?_
     rotate_left
     replace h1:=df h1
     simp only[LM]at h1
     omega
     refine⟨n+1,[some 41],[],⟨rfl,Zar,⟨⟨rfl,⟨(congrArg (V.own _) (Eo hm1 hv hk h3)),I⟩⟩,I⟩,I⟩,?_,?_⟩
     rotate_left
     (dsimp only;omega)
     dsimp only
     omega
    ·conv=>whnf
     refine g 0 0 []<|J UA<|W.sq<|W.cn<|J (fun _=>(W.skip (W.sq (W.blk (g 16 19 [.x (aF m)]<|J ⟨Zdj,I,I,UH,I⟩ (g 19 30 [.call VT [[]],BT,BT,BT,BT,BT,BT,BT,BT]<|J ⟨I,Zb6,I,Zde,Zde,Zde,rfl,I,⟨tO,I⟩,⟨tO,I⟩,⟨tO,I⟩,tO,I⟩ (W.cn<|J (fun h1=>?_) fun h1=>?_))))))) (noF SI)
     replace h1:=dt h1
     simp only[LM]at h1
     omega
     replace h1:=df h1
     simp only[LM]at h1
     refine W.skip<|rg [.i ((n:Int) +1)]<|J Zdm ?_
     refine⟨n+1,[some 12],[],⟨rfl,Zar,⟨⟨rfl,⟨(congrArg (V.own _) (sL hm1 (fun q=>h3 q.2.2))),I⟩⟩,I⟩,I⟩,?_,?_⟩
     rotate_left
     (dsimp only;omega)
     dsimp only
     omega
   ·conv=>whnf
    refine g 0 0 []<|J UA<|W.sq<|W.cn<|J (fun _=>(W.skip (W.sq (W.blk (g 16 19 [.x (aF m)]<|J ⟨Zdj,I,I,UH,I⟩ (g 19 30 [.call VT [[]],BT,BT,BT,BT,BF,BF,BF,BF]<|J ⟨I,Zb6,I,Zde,Zde,Zde,rfl,I,dO,dO,dO,dO,I⟩ (W.cn<|J (noT rfl) fun _=>(W.skip (rg [.i ((n:Int) +1)]<|J Zdm ?_))))))))) (noF SI)
    refine⟨n+1,[some 12],[],⟨rfl,Zar,⟨⟨rfl,⟨(congrArg (V.own _) (sL hm1 (fun q=>hk q.2.1))),I⟩⟩,I⟩,I⟩,?_,?_⟩
    rotate_left
    (dsimp only;omega)
    dsimp only
    omega
  ·rw[decide_eq_false hv]at cv
   conv=>whnf
   refine g 0 0 []<|J UA<|W.sq<|W.cn<|J (fun _=>(W.skip (W.sq (W.blk (g 16 19 [.x (aF m)]<|J ⟨Zdj,I,I,UH,I⟩ (g 19 30 [.call VF [[]],BF,BF,BF,BF,BF,BF,BF,BF]<|J ⟨I,Zb6,I,rfl,rfl,rfl,rfl,I,rfl,rfl,rfl,rfl,I⟩ (W.cn<|J (noT rfl) fun _=>(W.skip (rg [.i ((n:Int) +1)]<|J Zdm ?_))))))))) (noF SI)
   refine⟨n+1,[some 12],[],⟨rfl,Zar,⟨⟨rfl,⟨(congrArg (V.own _) (sL hm1 (fun q=>hv q.1))),I⟩⟩,I⟩,I⟩,?_,?_⟩
   rotate_left
   (dsimp only;omega)
   dsimp only
   omega
 ·conv=>whnf
  refine g 0 0 []<|J UA<|W.sq<|W.cn<|J (noT SI) fun _=>W.exit<|g 7 44 []<|J UB<|RT ?_
  rw[qr,show n = ms.length by omega]
end Go.K
end
section
open Go Go.Tm Go.Proofs
namespace Go.K
abbrev bb(p:Parcel):List T:=bI p
end Go.K
end
section
open Go Go.Tm Go.Proofs
namespace Go.K
abbrev sM:List Bool:=pkd
end Go.K
end
section
open Go Go.Tm Go.Proofs
namespace Go.K
structure World where
 plan:Plan
 key:ByteArray
 boss:Boss
 workers:List Worker
 flight:List Parcel
 forged:ByteArray
 deriving DecidableEq
abbrev rY(x:World):V:=.agg [.t (.slc dM (x.plan.tasks.map aC)),.t (.s x.key),.t (.i x.boss.workers),.t (.b x.boss.up),.t (.i x.boss.now),.t (.i x.boss.since),.t (.i x.boss.epoch),.t (.i x.boss.given),.t (.slc [false] (x.boss.log.safe.map ak)),.t (.slc [false] (x.boss.log.loose.map ak)),.t (.slc [false] (x.boss.results.map ak)),.t (.slc fv (x.boss.jobs.map aV)),.t (.slc cM (x.boss.seats.map aR)),.t (.slc cN (x.boss.owed.map bg)),.t (.slc dU (x.workers.map au)),.t (.slc sM (x.flight.map bb)),.t (.s x.forged)]
abbrev az(x:World):V:=.agg [.own dM (x.plan.tasks.map aC),.t (.s x.key),.t (.i x.boss.workers),.t (.b x.boss.up),.t (.i x.boss.now),.t (.i x.boss.since),.t (.i x.boss.epoch),.t (.i x.boss.given),.own [false] (x.boss.log.safe.map ak),.own [false] (x.boss.log.loose.map ak),.own [false] (x.boss.results.map ak),.own fv (x.boss.jobs.map aV),.own cM (x.boss.seats.map aR),.own cN (x.boss.owed.map bg),.own dU (x.workers.map au),.own sM (x.flight.map bb),.t (.s x.forged)]
abbrev noWorld:World:=⟨⟨[]⟩,emp,⟨0,false,0,0,0,0,⟨[],[]⟩,[],[],[],[]⟩,[],[],emp⟩
end Go.K
end

/- Contracts of functions of the program: what each call answers. -/
import Derived.Test.YtclkoehdmpcggaaGreatParte
section
set_option linter.unusedVariables false
set_option linter.unusedSimpArgs false
set_option maxHeartbeats 4000000
set_option maxRecDepth 20000
open Go Go.Tm Go.Proofs
namespace Go.K
structure Message where
 kind:Int
 frm:Int
 to:Int
 epoch:Int
 lease:Int
 task:Int
 text:ByteArray
 inputs:List ByteArray
 deriving DecidableEq
abbrev messageT (x:Message):List T:=[.i x.kind,.i x.frm,.i x.to,.i x.epoch,.i x.lease,.i x.task,.s x.text,.slc [false] (x.inputs.map strT)]
abbrev messageR (x:Message):V:=.agg [.t (.i x.kind),.t (.i x.frm),.t (.i x.to),.t (.i x.epoch),.t (.i x.lease),.t (.i x.task),.t (.s x.text),.t (.slc [false] (x.inputs.map strT))]
abbrev messageO (x:Message):V:=.agg [.t (.i x.kind),.t (.i x.frm),.t (.i x.to),.t (.i x.epoch),.t (.i x.lease),.t (.i x.task),.t (.s x.text),.own [false] (x.inputs.map strT)]
abbrev messageK:List Bool:=[false,false,false,false,false,false,false,true]
def messageSz (x:Message):Int:=(x.text.size:Int) + ((x.inputs.length:Int) + totS x.inputs)
theorem messageSz_nn (x:Message):0 ≤ messageSz x:=by
 have hn0:=totS_nn x.inputs
 simp only [messageSz]; omega
def messageWf (x:Message):Prop:=x.text.size ≤ 9223372036854775807 ∧ x.inputs.length ≤ 9223372036854775807 ∧ (∀ s ∈ x.inputs,s.size ≤ 9223372036854775807)
def msgOk (m:Message):Prop:=(1 ≤ m.epoch ∧ m.epoch ≤ 300) ∧
 ((m.kind = 1 ∧ m.frm = 0 ∧ (1 ≤ m.to ∧ m.to ≤ 8) ∧ (1 ≤ m.lease ∧ m.lease ≤ 300000000) ∧ (0 ≤ m.task ∧ m.task ≤ 39) ∧ m.text = emp ∧ eights m.inputs) ∨
  (m.kind = 2 ∧ m.to = 0 ∧ (1 ≤ m.frm ∧ m.frm ≤ 8) ∧ (1 ≤ m.lease ∧ m.lease ≤ 300000000) ∧ m.task = 0 ∧ m.text = emp ∧ (m.inputs.length:Int) = 0) ∨
  (m.kind = 3 ∧ m.to = 0 ∧ (1 ≤ m.frm ∧ m.frm ≤ 8) ∧ (1 ≤ m.lease ∧ m.lease ≤ 300000000) ∧ (0 ≤ m.task ∧ m.task ≤ 39) ∧ (m.text.size:Int) = 8 ∧ (m.inputs.length:Int) = 0) ∨
  (m.kind = 4 ∧ m.frm = 0 ∧ (1 ≤ m.to ∧ m.to ≤ 8) ∧ (1 ≤ m.lease ∧ m.lease ≤ 300000000) ∧ m.task = 0 ∧ m.text = emp ∧ (m.inputs.length:Int) = 0) ∨
  (m.kind = 5 ∧ m.to = 0 ∧ (1 ≤ m.frm ∧ m.frm ≤ 8) ∧ m.lease = 0 ∧ m.task = 0 ∧ m.text = emp ∧ (m.inputs.length:Int) = 0))
instance (m:Message):Decidable (msgOk m):=by unfold msgOk; infer_instance
theorem c_impl_Message_valid (m:Message) (hl:m.inputs.length ≤ 9223372036854775806):F n_impl_Message_valid [.val (messageR m)] (.b (decide (msgOk m))) [[]]:=by
 refine i_impl_Message_valid ?_
 conv=>whnf
 refine g 0 1 [] ?_
 conv=>whnf
 refine ⟨⟨⟨I,I,I,I,I,I,I,I,I⟩,I,I⟩,?_⟩
 refine g 0 0 [] ?_
 conv=>whnf
 refine ⟨⟨I,I,I,I,I,I⟩,?_⟩
 refine W.sq ?_
 refine g 0 0 [] ?_
 conv=>whnf
 refine ⟨⟨I,I,I⟩,?_⟩
 refine W.blk ?_
 refine g 13 14 [] ?_
 conv=>whnf
 refine ⟨⟨I,I,I⟩,?_⟩
 refine W.cn ?_
 conv=>whnf
 refine ⟨fun h1=>?_,fun h1=>?_⟩
 replace h1:=dt h1
 refine rg [] ?_
 conv=>whnf
 refine ⟨⟨I,I,I,I,I⟩,?_⟩
 refine gd 11 26 [[],[],[],[],[],[]] ?_
 conv=>whnf
 refine ⟨⟨I,I,I,I,I,I,I⟩,by kernel_rfl,?_⟩
 refine W.sq ?_
 refine g 0 0 [] ?_
 conv=>whnf
 refine ⟨⟨I,I⟩,?_⟩
 refine W.cn ?_
 conv=>whnf
 refine ⟨fun _=>?_,noF (rfl)⟩
 refine rgd [[],[],[],[],[],[]] ?_
 conv=>whnf
 refine ⟨⟨I,I,I,I,I,I,I⟩,by kernel_rfl,?_⟩
 refine W.sq ?_
 by_cases h2:Message.frm m = (0:Int)
 by_cases h3:(1:Int) ≤ Message.to m ∧ Message.to m ≤ (8:Int)
 refine g 26 43 [.b (false),.b (false),.call (V.b (decide ((1:Int) ≤ Message.to m ∧ Message.to m ≤ (8:Int)))) ([[],[],[]]),.b (false),.b (false),.b (false),.b (false),.b (false),.call (V.b (decide ((1:Int) ≤ Message.epoch m ∧ Message.epoch m ≤ (300:Int)))) ([[],[],[]]),.b (false),.b (false)] ?_
 conv=>whnf
 refine ⟨⟨I,I,I,⟨notF (by omega),I⟩,⟨notF (by omega),⟨I,I,I,I⟩,I,⟨⟨I,I⟩,⟨I,I⟩,⟨I,I⟩,I⟩,⟨I,I⟩,Go.K.c_impl_within _ _ _⟩,⟨notF (by omega),I⟩,notF (by omega),I,⟨notF (by omega),I⟩,⟨notF (by omega),I⟩,⟨notF (by omega),⟨I,I,I,I⟩,I,⟨⟨I,I⟩,⟨I,I⟩,⟨I,I⟩,I⟩,⟨I,I⟩,Go.K.c_impl_within _ _ _⟩,⟨notF (by omega),I⟩,notF (by omega),I⟩,?_⟩
 refine W.cn ?_
 conv=>whnf
 refine ⟨fun h4=>?_,fun h4=>?_⟩
 replace h4:=ndt h4
 refine g 8 9 [] ?_
 conv=>whnf
 refine ⟨⟨I,I⟩,?_⟩
 refine W.ret ?_
 refine EndsW.rt ?_
 conv=>whnf
 refine ⟨⟨I,I,I⟩,?_,rfl⟩
 rotate_left 1
 replace h4:=ndf h4
 refine W.skip ?_
 refine W.sq ?_
 by_cases h5:(1:Int) ≤ Message.lease m ∧ Message.lease m ≤ (300000000:Int)
 refine g 43 59 [.b (true),.b (true),.b (true),.call (V.b (decide ((1:Int) ≤ Message.lease m ∧ Message.lease m ≤ (300000000:Int)))) ([[],[],[]]),.b (true),.b (true),.b (false),.b (false),.b (false),.b (false),.b (false),.b (false),.b (false),.b (false),.b (false)] ?_
 conv=>whnf
 refine ⟨⟨I,I,⟨rfl,I⟩,⟨rfl,I⟩,⟨rfl,⟨I,I,I,I⟩,I,⟨⟨I,I⟩,⟨I,I⟩,⟨I,I⟩,I⟩,⟨I,I⟩,Go.K.c_impl_within _ _ _⟩,⟨rfl,I⟩,rfl,I,⟨notF (by omega),I⟩,⟨notF (by omega),I⟩,⟨notF (by omega),I⟩,rfl,rfl,rfl,⟨notF (by omega),rfl⟩,notF (by omega),I⟩,?_⟩
 refine W.cn ?_
 conv=>whnf
 refine ⟨noT (rfl),fun _=>?_⟩
 refine W.skip ?_
 refine W.sq ?_
 by_cases h6:(0:Int) ≤ Message.task m ∧ Message.task m ≤ (39:Int)
 refine g 59 75 [.b (true),.b (true),.b (true),.call (V.b (decide ((0:Int) ≤ Message.task m ∧ Message.task m ≤ (39:Int)))) ([[],[],[]]),.b (true),.b (true),.b (false),.b (false),.b (false),.b (false),.b (false),.b (false),.b (false),.b (false),.b (false)] ?_
 conv=>whnf
 refine ⟨⟨I,I,⟨rfl,I⟩,⟨rfl,I⟩,⟨rfl,⟨I,I,I,I⟩,I,⟨⟨I,I⟩,⟨I,I⟩,⟨I,I⟩,I⟩,⟨I,I⟩,Go.K.c_impl_within _ _ _⟩,⟨rfl,I⟩,rfl,I,⟨notF (by omega),I⟩,⟨notF (by omega),I⟩,⟨notF (by omega),I⟩,rfl,rfl,rfl,⟨notF (by omega),rfl⟩,notF (by omega),I⟩,?_⟩
 refine W.cn ?_
 conv=>whnf
 refine ⟨noT (rfl),fun _=>?_⟩
 refine W.skip ?_
 refine W.sq ?_
 refine g 10 91 [.b (false),.b (false),.b (false),.b (false),.b (false),.b (false),.b (false),.b (false),.b (true),.b (true),.b (true),.b (false),.b (true),.b (false)] ?_
 conv=>whnf
 refine ⟨⟨I,I,rfl,rfl,rfl,rfl,rfl,I,⟨rfl,I⟩,⟨rfl,I⟩,⟨rfl,I⟩,⟨rfl,I⟩,⟨rfl,I⟩,⟨rfl,I⟩,⟨rfl,rfl⟩,rfl,I⟩,?_⟩
 refine W.cn ?_
 conv=>whnf
 refine ⟨fun h7=>?_,fun h7=>?_⟩
 replace h7:=ndt h7
 refine g 7 9 [] ?_
 conv=>whnf
 refine ⟨⟨I,I⟩,?_⟩
 refine W.ret ?_
 refine EndsW.rt ?_
 conv=>whnf
 refine ⟨⟨I,I,I⟩,?_,rfl⟩
 rotate_left 1
 replace h7:=ndf h7
 refine W.skip ?_
 by_cases h8:eights (Message.inputs m)
 refine g 5 108 [.b (true),.b (true),.b (true),.call (V.b (decide (eights (Message.inputs m)))) ([[]]),.b (true),.b (true),.b (true),.b (true),.b (false),.b (false),.b (false),.b (false),.b (true),.b (true)] ?_
 conv=>whnf
 refine ⟨⟨I,I,⟨rfl,I⟩,⟨rfl,I⟩,⟨rfl,⟨I,I⟩,I,⟨⟨I,I⟩,I⟩,⟨I,I⟩,Go.K.c_impl_eights _ (by omega)⟩,rfl,I,dT (by omega),dT (by omega),dT (by omega),I,I,I,I,dT (by omega),dT (by omega),I,I⟩,?_⟩
 refine W.ret ?_
 refine EndsW.rt ?_
 conv=>whnf
 refine ⟨⟨I,I,I⟩,?_,rfl⟩
 rotate_left 1
 refine g 5 108 [.b (true),.b (true),.b (true),.call (V.b (decide (eights (Message.inputs m)))) ([[]]),.b (true),.b (false),.b (false),.b (false),.b (false),.b (false),.b (false),.b (false),.b (false),.b (false),.b (false)] ?_
 conv=>whnf
 refine ⟨⟨I,I,⟨rfl,I⟩,⟨rfl,I⟩,⟨rfl,⟨I,I⟩,I,⟨⟨I,I⟩,I⟩,⟨I,I⟩,Go.K.c_impl_eights _ (by omega)⟩,rfl,I,⟨dF (by omega),I⟩,⟨dF (by omega),I⟩,⟨dF (by omega),I⟩,rfl,rfl,rfl,rfl,⟨dF (by omega),rfl⟩,dF (by omega),I,I⟩,?_⟩
 refine W.ret ?_
 refine EndsW.rt ?_
 conv=>whnf
 refine ⟨⟨I,I,I⟩,?_,rfl⟩
 rotate_left 1
 refine g 59 75 [.b (true),.b (true),.b (true),.call (V.b (decide ((0:Int) ≤ Message.task m ∧ Message.task m ≤ (39:Int)))) ([[],[],[]]),.b (true),.b (true),.b (true),.b (true),.b (true),.b (false),.b (false),.b (false),.b (true),.b (true)] ?_
 conv=>whnf
 refine ⟨⟨I,I,⟨rfl,I⟩,⟨rfl,I⟩,⟨rfl,⟨I,I,I,I⟩,I,⟨⟨I,I⟩,⟨I,I⟩,⟨I,I⟩,I⟩,⟨I,I⟩,Go.K.c_impl_within _ _ _⟩,⟨rfl,I⟩,rfl,I,notT (by omega),notT (by omega),notT (by omega),I,I,I,notT (by omega),notT (by omega),I⟩,?_⟩
 refine W.cn ?_
 conv=>whnf
 refine ⟨fun _=>?_,noF (rfl)⟩
 refine g 3 4 [] ?_
 conv=>whnf
 refine ⟨⟨I,I⟩,?_⟩
 refine W.ret ?_
 refine EndsW.rt ?_
 conv=>whnf
 refine ⟨⟨I,I,I⟩,?_,rfl⟩
 rotate_left 1
 refine g 43 59 [.b (true),.b (true),.b (true),.call (V.b (decide ((1:Int) ≤ Message.lease m ∧ Message.lease m ≤ (300000000:Int)))) ([[],[],[]]),.b (true),.b (true),.b (true),.b (true),.b (true),.b (false),.b (false),.b (false),.b (true),.b (true)] ?_
 conv=>whnf
 refine ⟨⟨I,I,⟨rfl,I⟩,⟨rfl,I⟩,⟨rfl,⟨I,I,I,I⟩,I,⟨⟨I,I⟩,⟨I,I⟩,⟨I,I⟩,I⟩,⟨I,I⟩,Go.K.c_impl_within _ _ _⟩,⟨rfl,I⟩,rfl,I,notT (by omega),notT (by omega),notT (by omega),I,I,I,notT (by omega),notT (by omega),I⟩,?_⟩
 refine W.cn ?_
 conv=>whnf
 refine ⟨fun _=>?_,noF (rfl)⟩
 refine g 3 4 [] ?_
 conv=>whnf
 refine ⟨⟨I,I⟩,?_⟩
 refine W.ret ?_
 refine EndsW.rt ?_
 conv=>whnf
 refine ⟨⟨I,I,I⟩,?_,rfl⟩
 rotate_left 1
 refine g 26 43 [.b (false),.b (false),.call (V.b (decide ((1:Int) ≤ Message.to m ∧ Message.to m ≤ (8:Int)))) ([[],[],[]]),.b (false),.b (false),.b (true),.b (true),.b (true),.b (true),.b (true)] ?_
 conv=>whnf
 refine ⟨⟨I,I,I,⟨notF (by omega),I⟩,⟨notF (by omega),⟨I,I,I,I⟩,I,⟨⟨I,I⟩,⟨I,I⟩,⟨I,I⟩,I⟩,⟨I,I⟩,Go.K.c_impl_within _ _ _⟩,⟨notF (by omega),I⟩,notF (by omega),I,notT (by omega),notT (by omega),notT (by omega),notT (by omega),notT (by omega),I⟩,?_⟩
 refine W.cn ?_
 conv=>whnf
 refine ⟨fun _=>?_,noF (rfl)⟩
 refine g 8 9 [] ?_
 conv=>whnf
 refine ⟨⟨I,I⟩,?_⟩
 refine W.ret ?_
 refine EndsW.rt ?_
 conv=>whnf
 refine ⟨⟨I,I,I⟩,?_,rfl⟩
 rotate_left 1
 refine g 26 43 [.b (true),.b (true),.b (true),.b (true),.b (true),.b (true),.b (true),.b (true),.b (true)] ?_
 conv=>whnf
 refine ⟨⟨I,I,I,notT (by omega),notT (by omega),notT (by omega),notT (by omega),I,rfl,rfl,rfl,rfl,rfl,I⟩,?_⟩
 refine W.cn ?_
 conv=>whnf
 refine ⟨fun _=>?_,noF (rfl)⟩
 refine g 8 9 [] ?_
 conv=>whnf
 refine ⟨⟨I,I⟩,?_⟩
 refine W.ret ?_
 refine EndsW.rt ?_
 conv=>whnf
 refine ⟨⟨I,I,I⟩,?_,rfl⟩
 rotate_left 1
 replace h1:=df h1
 refine g 12 13 [] ?_
 conv=>whnf
 refine ⟨⟨I,I,I⟩,?_⟩
 refine W.cn ?_
 conv=>whnf
 refine ⟨fun h2=>?_,fun h2=>?_⟩
 replace h2:=dt h2
 refine rg [] ?_
 conv=>whnf
 refine ⟨⟨I,I⟩,?_⟩
 refine gd 11 26 [[],[],[],[],[],[]] ?_
 conv=>whnf
 refine ⟨⟨I,I,I,I,I,I,I⟩,by kernel_rfl,?_⟩
 refine W.sq ?_
 refine g 0 0 [] ?_
 conv=>whnf
 refine ⟨⟨I,I⟩,?_⟩
 refine W.cn ?_
 conv=>whnf
 refine ⟨noT (rfl),fun _=>?_⟩
 refine W.skip ?_
 refine W.sq ?_
 by_cases h3:Message.to m = (0:Int)
 by_cases h4:(1:Int) ≤ Message.frm m ∧ Message.frm m ≤ (8:Int)
 refine g 26 43 [.b (false),.b (false),.call (V.b (decide ((1:Int) ≤ Message.frm m ∧ Message.frm m ≤ (8:Int)))) ([[],[],[]]),.b (false),.b (false),.b (false),.b (false),.b (false),.call (V.b (decide ((1:Int) ≤ Message.epoch m ∧ Message.epoch m ≤ (300:Int)))) ([[],[],[]]),.b (false),.b (false)] ?_
 conv=>whnf
 refine ⟨⟨I,I,I,⟨notF (by omega),I⟩,⟨notF (by omega),⟨I,I,I,I⟩,I,⟨⟨I,I⟩,⟨I,I⟩,⟨I,I⟩,I⟩,⟨I,I⟩,Go.K.c_impl_within _ _ _⟩,⟨notF (by omega),I⟩,notF (by omega),I,⟨notF (by omega),I⟩,⟨notF (by omega),I⟩,⟨notF (by omega),⟨I,I,I,I⟩,I,⟨⟨I,I⟩,⟨I,I⟩,⟨I,I⟩,I⟩,⟨I,I⟩,Go.K.c_impl_within _ _ _⟩,⟨notF (by omega),I⟩,notF (by omega),I⟩,?_⟩
 refine W.cn ?_
 conv=>whnf
 refine ⟨fun h5=>?_,fun h5=>?_⟩
 replace h5:=ndt h5
 refine g 8 9 [] ?_
 conv=>whnf
 refine ⟨⟨I,I⟩,?_⟩
 refine W.ret ?_
 refine EndsW.rt ?_
 conv=>whnf
 refine ⟨⟨I,I,I⟩,?_,rfl⟩
 rotate_left 1
 replace h5:=ndf h5
 refine W.skip ?_
 refine W.sq ?_
 by_cases h6:(1:Int) ≤ Message.lease m ∧ Message.lease m ≤ (300000000:Int)
 refine g 43 59 [.b (true),.b (true),.b (true),.call (V.b (decide ((1:Int) ≤ Message.lease m ∧ Message.lease m ≤ (300000000:Int)))) ([[],[],[]]),.b (true),.b (true),.b (false),.b (false),.b (false),.b (false),.b (false),.b (false),.b (false),.b (false),.b (false)] ?_
 conv=>whnf
 refine ⟨⟨I,I,⟨rfl,I⟩,⟨rfl,I⟩,⟨rfl,⟨I,I,I,I⟩,I,⟨⟨I,I⟩,⟨I,I⟩,⟨I,I⟩,I⟩,⟨I,I⟩,Go.K.c_impl_within _ _ _⟩,⟨rfl,I⟩,rfl,I,⟨notF (by omega),I⟩,⟨notF (by omega),I⟩,⟨notF (by omega),I⟩,rfl,rfl,rfl,⟨notF (by omega),rfl⟩,notF (by omega),I⟩,?_⟩
 refine W.cn ?_
 conv=>whnf
 refine ⟨noT (rfl),fun _=>?_⟩
 refine W.skip ?_
 refine W.sq ?_
 refine g 59 75 [.b (false),.b (false),.b (false),.b (false),.b (false),.b (false),.b (false),.b (false),.b (true),.b (true),.b (true),.b (false),.b (true),.b (false)] ?_
 conv=>whnf
 refine ⟨⟨I,I,rfl,rfl,rfl,rfl,rfl,I,⟨rfl,I⟩,⟨rfl,I⟩,⟨rfl,I⟩,⟨rfl,I⟩,⟨rfl,I⟩,⟨rfl,I⟩,⟨rfl,rfl⟩,rfl,I⟩,?_⟩
 refine W.cn ?_
 conv=>whnf
 refine ⟨fun h7=>?_,fun h7=>?_⟩
 replace h7:=ndt h7
 refine g 3 4 [] ?_
 conv=>whnf
 refine ⟨⟨I,I⟩,?_⟩
 refine W.ret ?_
 refine EndsW.rt ?_
 conv=>whnf
 refine ⟨⟨I,I,I⟩,?_,rfl⟩
 rotate_left 1
 replace h7:=ndf h7
 refine W.skip ?_
 refine W.sq ?_
 refine g 10 91 [.b (false),.b (false),.b (false),.b (false),.b (false),.b (false),.b (false),.b (false),.b (true),.b (true),.b (true),.b (false),.b (true),.b (false)] ?_
 conv=>whnf
 refine ⟨⟨I,I,rfl,rfl,rfl,rfl,rfl,I,⟨rfl,I⟩,⟨rfl,I⟩,⟨rfl,I⟩,⟨rfl,I⟩,⟨rfl,I⟩,⟨rfl,I⟩,⟨rfl,rfl⟩,rfl,I⟩,?_⟩
 refine W.cn ?_
 conv=>whnf
 refine ⟨fun h8=>?_,fun h8=>?_⟩
 replace h8:=ndt h8
 refine g 7 9 [] ?_
 conv=>whnf
 refine ⟨⟨I,I⟩,?_⟩
 refine W.ret ?_
 refine EndsW.rt ?_
 conv=>whnf
 refine ⟨⟨I,I,I⟩,?_,rfl⟩
 rotate_left 1
 replace h8:=ndf h8
 refine W.skip ?_
 refine g 5 108 [.b (false),.b (false),.b (false),.b (false),.b (false),.b (false),.b (false),.b (true),.b (true),.b (true),.b (true),.b (false),.b (true),.b (false)] ?_
 conv=>whnf
 refine ⟨⟨I,I,rfl,rfl,rfl,rfl,I,⟨rfl,I⟩,⟨rfl,I⟩,⟨rfl,I⟩,⟨rfl,I⟩,⟨rfl,I⟩,⟨rfl,I⟩,⟨rfl,I⟩,⟨rfl,rfl⟩,rfl,I,I⟩,?_⟩
 refine W.ret ?_
 refine EndsW.rt ?_
 conv=>whnf
 refine ⟨⟨I,I,I⟩,?_,rfl⟩
 rotate_left 1
 refine g 43 59 [.b (true),.b (true),.b (true),.call (V.b (decide ((1:Int) ≤ Message.lease m ∧ Message.lease m ≤ (300000000:Int)))) ([[],[],[]]),.b (true),.b (true),.b (true),.b (true),.b (true),.b (false),.b (false),.b (false),.b (true),.b (true)] ?_
 conv=>whnf
 refine ⟨⟨I,I,⟨rfl,I⟩,⟨rfl,I⟩,⟨rfl,⟨I,I,I,I⟩,I,⟨⟨I,I⟩,⟨I,I⟩,⟨I,I⟩,I⟩,⟨I,I⟩,Go.K.c_impl_within _ _ _⟩,⟨rfl,I⟩,rfl,I,notT (by omega),notT (by omega),notT (by omega),I,I,I,notT (by omega),notT (by omega),I⟩,?_⟩
 refine W.cn ?_
 conv=>whnf
 refine ⟨fun _=>?_,noF (rfl)⟩
 refine g 3 4 [] ?_
 conv=>whnf
 refine ⟨⟨I,I⟩,?_⟩
 refine W.ret ?_
 refine EndsW.rt ?_
 conv=>whnf
 refine ⟨⟨I,I,I⟩,?_,rfl⟩
 rotate_left 1
 refine g 26 43 [.b (false),.b (false),.call (V.b (decide ((1:Int) ≤ Message.frm m ∧ Message.frm m ≤ (8:Int)))) ([[],[],[]]),.b (false),.b (false),.b (true),.b (true),.b (true),.b (true),.b (true)] ?_
 conv=>whnf
 refine ⟨⟨I,I,I,⟨notF (by omega),I⟩,⟨notF (by omega),⟨I,I,I,I⟩,I,⟨⟨I,I⟩,⟨I,I⟩,⟨I,I⟩,I⟩,⟨I,I⟩,Go.K.c_impl_within _ _ _⟩,⟨notF (by omega),I⟩,notF (by omega),I,notT (by omega),notT (by omega),notT (by omega),notT (by omega),notT (by omega),I⟩,?_⟩
 refine W.cn ?_
 conv=>whnf
 refine ⟨fun _=>?_,noF (rfl)⟩
 refine g 8 9 [] ?_
 conv=>whnf
 refine ⟨⟨I,I⟩,?_⟩
 refine W.ret ?_
 refine EndsW.rt ?_
 conv=>whnf
 refine ⟨⟨I,I,I⟩,?_,rfl⟩
 rotate_left 1
 refine g 26 43 [.b (true),.b (true),.b (true),.b (true),.b (true),.b (true),.b (true),.b (true),.b (true)] ?_
 conv=>whnf
 refine ⟨⟨I,I,I,notT (by omega),notT (by omega),notT (by omega),notT (by omega),I,rfl,rfl,rfl,rfl,rfl,I⟩,?_⟩
 refine W.cn ?_
 conv=>whnf
 refine ⟨fun _=>?_,noF (rfl)⟩
 refine g 8 9 [] ?_
 conv=>whnf
 refine ⟨⟨I,I⟩,?_⟩
 refine W.ret ?_
 refine EndsW.rt ?_
 conv=>whnf
 refine ⟨⟨I,I,I⟩,?_,rfl⟩
 rotate_left 1
 replace h2:=df h2
 refine g 14 16 [] ?_
 conv=>whnf
 refine ⟨⟨I,I,I⟩,?_⟩
 refine W.cn ?_
 conv=>whnf
 refine ⟨fun h3=>?_,fun h3=>?_⟩
 replace h3:=dt h3
 refine rg [] ?_
 conv=>whnf
 refine ⟨⟨I,I,I,I⟩,?_⟩
 refine gd 11 26 [[],[],[],[],[],[]] ?_
 conv=>whnf
 refine ⟨⟨I,I,I,I,I,I,I⟩,by kernel_rfl,?_⟩
 refine W.sq ?_
 refine g 0 0 [] ?_
 conv=>whnf
 refine ⟨⟨I,I⟩,?_⟩
 refine W.cn ?_
 conv=>whnf
 refine ⟨noT (rfl),fun _=>?_⟩
 refine W.skip ?_
 refine W.sq ?_
 by_cases h4:Message.to m = (0:Int)
 by_cases h5:(1:Int) ≤ Message.frm m ∧ Message.frm m ≤ (8:Int)
 refine g 26 43 [.b (false),.b (false),.call (V.b (decide ((1:Int) ≤ Message.frm m ∧ Message.frm m ≤ (8:Int)))) ([[],[],[]]),.b (false),.b (false),.b (false),.b (false),.b (false),.call (V.b (decide ((1:Int) ≤ Message.epoch m ∧ Message.epoch m ≤ (300:Int)))) ([[],[],[]]),.b (false),.b (false)] ?_
 conv=>whnf
 refine ⟨⟨I,I,I,⟨notF (by omega),I⟩,⟨notF (by omega),⟨I,I,I,I⟩,I,⟨⟨I,I⟩,⟨I,I⟩,⟨I,I⟩,I⟩,⟨I,I⟩,Go.K.c_impl_within _ _ _⟩,⟨notF (by omega),I⟩,notF (by omega),I,⟨notF (by omega),I⟩,⟨notF (by omega),I⟩,⟨notF (by omega),⟨I,I,I,I⟩,I,⟨⟨I,I⟩,⟨I,I⟩,⟨I,I⟩,I⟩,⟨I,I⟩,Go.K.c_impl_within _ _ _⟩,⟨notF (by omega),I⟩,notF (by omega),I⟩,?_⟩
 refine W.cn ?_
 conv=>whnf
 refine ⟨fun h6=>?_,fun h6=>?_⟩
 replace h6:=ndt h6
 refine g 8 9 [] ?_
 conv=>whnf
 refine ⟨⟨I,I⟩,?_⟩
 refine W.ret ?_
 refine EndsW.rt ?_
 conv=>whnf
 refine ⟨⟨I,I,I⟩,?_,rfl⟩
 rotate_left 1
 replace h6:=ndf h6
 refine W.skip ?_
 refine W.sq ?_
 by_cases h7:(1:Int) ≤ Message.lease m ∧ Message.lease m ≤ (300000000:Int)
 refine g 43 59 [.b (true),.b (true),.b (true),.call (V.b (decide ((1:Int) ≤ Message.lease m ∧ Message.lease m ≤ (300000000:Int)))) ([[],[],[]]),.b (true),.b (true),.b (false),.b (false),.b (false),.b (false),.b (false),.b (false),.b (false),.b (false),.b (false)] ?_
 conv=>whnf
 refine ⟨⟨I,I,⟨rfl,I⟩,⟨rfl,I⟩,⟨rfl,⟨I,I,I,I⟩,I,⟨⟨I,I⟩,⟨I,I⟩,⟨I,I⟩,I⟩,⟨I,I⟩,Go.K.c_impl_within _ _ _⟩,⟨rfl,I⟩,rfl,I,⟨notF (by omega),I⟩,⟨notF (by omega),I⟩,⟨notF (by omega),I⟩,rfl,rfl,rfl,⟨notF (by omega),rfl⟩,notF (by omega),I⟩,?_⟩
 refine W.cn ?_
 conv=>whnf
 refine ⟨noT (rfl),fun _=>?_⟩
 refine W.skip ?_
 refine W.sq ?_
 by_cases h8:(0:Int) ≤ Message.task m ∧ Message.task m ≤ (39:Int)
 refine g 59 75 [.b (true),.b (true),.b (true),.call (V.b (decide ((0:Int) ≤ Message.task m ∧ Message.task m ≤ (39:Int)))) ([[],[],[]]),.b (true),.b (true),.b (false),.b (false),.b (false),.b (false),.b (false),.b (false),.b (false),.b (false),.b (false)] ?_
 conv=>whnf
 refine ⟨⟨I,I,⟨rfl,I⟩,⟨rfl,I⟩,⟨rfl,⟨I,I,I,I⟩,I,⟨⟨I,I⟩,⟨I,I⟩,⟨I,I⟩,I⟩,⟨I,I⟩,Go.K.c_impl_within _ _ _⟩,⟨rfl,I⟩,rfl,I,⟨notF (by omega),I⟩,⟨notF (by omega),I⟩,⟨notF (by omega),I⟩,rfl,rfl,rfl,⟨notF (by omega),rfl⟩,notF (by omega),I⟩,?_⟩
 refine W.cn ?_
 conv=>whnf
 refine ⟨noT (rfl),fun _=>?_⟩
 refine W.skip ?_
 refine W.sq ?_
 by_cases h9:(↑(ByteArray.size (Message.text m)):Int) = (8:Int)
 refine g 10 91 [.b (true),.b (true),.b (true),.b (true),.b (true),.b (false),.b (false),.b (false),.b (false),.b (false),.b (false),.b (false),.b (false),.b (false)] ?_
 conv=>whnf
 refine ⟨⟨I,I,⟨rfl,I⟩,⟨rfl,I⟩,⟨rfl,I⟩,⟨rfl,I⟩,rfl,I,⟨notF (by omega),I⟩,⟨notF (by omega),I⟩,⟨notF (by omega),I⟩,rfl,rfl,rfl,⟨notF (by omega),rfl⟩,notF (by omega),I⟩,?_⟩
 refine W.cn ?_
 conv=>whnf
 refine ⟨noT (rfl),fun _=>?_⟩
 refine W.skip ?_
 refine g 5 108 [.b (false),.b (false),.b (false),.b (false),.b (false),.b (false),.b (false),.b (true),.b (true),.b (true),.b (true),.b (false),.b (true),.b (false)] ?_
 conv=>whnf
 refine ⟨⟨I,I,rfl,rfl,rfl,rfl,I,⟨rfl,I⟩,⟨rfl,I⟩,⟨rfl,I⟩,⟨rfl,I⟩,⟨rfl,I⟩,⟨rfl,I⟩,⟨rfl,I⟩,⟨rfl,rfl⟩,rfl,I,I⟩,?_⟩
 refine W.ret ?_
 refine EndsW.rt ?_
 conv=>whnf
 refine ⟨⟨I,I,I⟩,?_,rfl⟩
 rotate_left 1
 refine g 10 91 [.b (true),.b (true),.b (true),.b (true),.b (true),.b (true),.b (true),.b (true),.b (false),.b (false),.b (false),.b (true),.b (true)] ?_
 conv=>whnf
 refine ⟨⟨I,I,⟨rfl,I⟩,⟨rfl,I⟩,⟨rfl,I⟩,⟨rfl,I⟩,rfl,I,notT (by omega),notT (by omega),notT (by omega),I,I,I,notT (by omega),notT (by omega),I⟩,?_⟩
 refine W.cn ?_
 conv=>whnf
 refine ⟨fun _=>?_,noF (rfl)⟩
 refine g 7 9 [] ?_
 conv=>whnf
 refine ⟨⟨I,I⟩,?_⟩
 refine W.ret ?_
 refine EndsW.rt ?_
 conv=>whnf
 refine ⟨⟨I,I,I⟩,?_,rfl⟩
 rotate_left 1
 refine g 59 75 [.b (true),.b (true),.b (true),.call (V.b (decide ((0:Int) ≤ Message.task m ∧ Message.task m ≤ (39:Int)))) ([[],[],[]]),.b (true),.b (true),.b (true),.b (true),.b (true),.b (false),.b (false),.b (false),.b (true),.b (true)] ?_
 conv=>whnf
 refine ⟨⟨I,I,⟨rfl,I⟩,⟨rfl,I⟩,⟨rfl,⟨I,I,I,I⟩,I,⟨⟨I,I⟩,⟨I,I⟩,⟨I,I⟩,I⟩,⟨I,I⟩,Go.K.c_impl_within _ _ _⟩,⟨rfl,I⟩,rfl,I,notT (by omega),notT (by omega),notT (by omega),I,I,I,notT (by omega),notT (by omega),I⟩,?_⟩
 refine W.cn ?_
 conv=>whnf
 refine ⟨fun _=>?_,noF (rfl)⟩
 refine g 3 4 [] ?_
 conv=>whnf
 refine ⟨⟨I,I⟩,?_⟩
 refine W.ret ?_
 refine EndsW.rt ?_
 conv=>whnf
 refine ⟨⟨I,I,I⟩,?_,rfl⟩
 rotate_left 1
 refine g 43 59 [.b (true),.b (true),.b (true),.call (V.b (decide ((1:Int) ≤ Message.lease m ∧ Message.lease m ≤ (300000000:Int)))) ([[],[],[]]),.b (true),.b (true),.b (true),.b (true),.b (true),.b (false),.b (false),.b (false),.b (true),.b (true)] ?_
 conv=>whnf
 refine ⟨⟨I,I,⟨rfl,I⟩,⟨rfl,I⟩,⟨rfl,⟨I,I,I,I⟩,I,⟨⟨I,I⟩,⟨I,I⟩,⟨I,I⟩,I⟩,⟨I,I⟩,Go.K.c_impl_within _ _ _⟩,⟨rfl,I⟩,rfl,I,notT (by omega),notT (by omega),notT (by omega),I,I,I,notT (by omega),notT (by omega),I⟩,?_⟩
 refine W.cn ?_
 conv=>whnf
 refine ⟨fun _=>?_,noF (rfl)⟩
 refine g 3 4 [] ?_
 conv=>whnf
 refine ⟨⟨I,I⟩,?_⟩
 refine W.ret ?_
 refine EndsW.rt ?_
 conv=>whnf
 refine ⟨⟨I,I,I⟩,?_,rfl⟩
 rotate_left 1
 refine g 26 43 [.b (false),.b (false),.call (V.b (decide ((1:Int) ≤ Message.frm m ∧ Message.frm m ≤ (8:Int)))) ([[],[],[]]),.b (false),.b (false),.b (true),.b (true),.b (true),.b (true),.b (true)] ?_
 conv=>whnf
 refine ⟨⟨I,I,I,⟨notF (by omega),I⟩,⟨notF (by omega),⟨I,I,I,I⟩,I,⟨⟨I,I⟩,⟨I,I⟩,⟨I,I⟩,I⟩,⟨I,I⟩,Go.K.c_impl_within _ _ _⟩,⟨notF (by omega),I⟩,notF (by omega),I,notT (by omega),notT (by omega),notT (by omega),notT (by omega),notT (by omega),I⟩,?_⟩
 refine W.cn ?_
 conv=>whnf
 refine ⟨fun _=>?_,noF (rfl)⟩
 refine g 8 9 [] ?_
 conv=>whnf
 refine ⟨⟨I,I⟩,?_⟩
 refine W.ret ?_
 refine EndsW.rt ?_
 conv=>whnf
 refine ⟨⟨I,I,I⟩,?_,rfl⟩
 rotate_left 1
 refine g 26 43 [.b (true),.b (true),.b (true),.b (true),.b (true),.b (true),.b (true),.b (true),.b (true)] ?_
 conv=>whnf
 refine ⟨⟨I,I,I,notT (by omega),notT (by omega),notT (by omega),notT (by omega),I,rfl,rfl,rfl,rfl,rfl,I⟩,?_⟩
 refine W.cn ?_
 conv=>whnf
 refine ⟨fun _=>?_,noF (rfl)⟩
 refine g 8 9 [] ?_
 conv=>whnf
 refine ⟨⟨I,I⟩,?_⟩
 refine W.ret ?_
 refine EndsW.rt ?_
 conv=>whnf
 refine ⟨⟨I,I,I⟩,?_,rfl⟩
 rotate_left 1
 replace h3:=df h3
 refine g 16 18 [] ?_
 conv=>whnf
 refine ⟨⟨I,I,I⟩,?_⟩
 refine W.cn ?_
 conv=>whnf
 refine ⟨fun h4=>?_,fun h4=>?_⟩
 replace h4:=dt h4
 refine rg [] ?_
 conv=>whnf
 refine ⟨⟨I,I,I⟩,?_⟩
 refine gd 11 26 [[],[],[],[],[],[]] ?_
 conv=>whnf
 refine ⟨⟨I,I,I,I,I,I,I⟩,by kernel_rfl,?_⟩
 refine W.sq ?_
 refine g 0 0 [] ?_
 conv=>whnf
 refine ⟨⟨I,I⟩,?_⟩
 refine W.cn ?_
 conv=>whnf
 refine ⟨fun _=>?_,noF (rfl)⟩
 refine rgd [[],[],[],[],[],[]] ?_
 conv=>whnf
 refine ⟨⟨I,I,I,I,I,I,I⟩,by kernel_rfl,?_⟩
 refine W.sq ?_
 by_cases h5:Message.frm m = (0:Int)
 by_cases h6:(1:Int) ≤ Message.to m ∧ Message.to m ≤ (8:Int)
 refine g 26 43 [.b (false),.b (false),.call (V.b (decide ((1:Int) ≤ Message.to m ∧ Message.to m ≤ (8:Int)))) ([[],[],[]]),.b (false),.b (false),.b (false),.b (false),.b (false),.call (V.b (decide ((1:Int) ≤ Message.epoch m ∧ Message.epoch m ≤ (300:Int)))) ([[],[],[]]),.b (false),.b (false)] ?_
 conv=>whnf
 refine ⟨⟨I,I,I,⟨notF (by omega),I⟩,⟨notF (by omega),⟨I,I,I,I⟩,I,⟨⟨I,I⟩,⟨I,I⟩,⟨I,I⟩,I⟩,⟨I,I⟩,Go.K.c_impl_within _ _ _⟩,⟨notF (by omega),I⟩,notF (by omega),I,⟨notF (by omega),I⟩,⟨notF (by omega),I⟩,⟨notF (by omega),⟨I,I,I,I⟩,I,⟨⟨I,I⟩,⟨I,I⟩,⟨I,I⟩,I⟩,⟨I,I⟩,Go.K.c_impl_within _ _ _⟩,⟨notF (by omega),I⟩,notF (by omega),I⟩,?_⟩
 refine W.cn ?_
 conv=>whnf
 refine ⟨fun h7=>?_,fun h7=>?_⟩
 replace h7:=ndt h7
 refine g 8 9 [] ?_
 conv=>whnf
 refine ⟨⟨I,I⟩,?_⟩
 refine W.ret ?_
 refine EndsW.rt ?_
 conv=>whnf
 refine ⟨⟨I,I,I⟩,?_,rfl⟩
 rotate_left 1
 replace h7:=ndf h7
 refine W.skip ?_
 refine W.sq ?_
 by_cases h8:(1:Int) ≤ Message.lease m ∧ Message.lease m ≤ (300000000:Int)
 refine g 43 59 [.b (true),.b (true),.b (true),.call (V.b (decide ((1:Int) ≤ Message.lease m ∧ Message.lease m ≤ (300000000:Int)))) ([[],[],[]]),.b (true),.b (true),.b (false),.b (false),.b (false),.b (false),.b (false),.b (false),.b (false),.b (false),.b (false)] ?_
 conv=>whnf
 refine ⟨⟨I,I,⟨rfl,I⟩,⟨rfl,I⟩,⟨rfl,⟨I,I,I,I⟩,I,⟨⟨I,I⟩,⟨I,I⟩,⟨I,I⟩,I⟩,⟨I,I⟩,Go.K.c_impl_within _ _ _⟩,⟨rfl,I⟩,rfl,I,⟨notF (by omega),I⟩,⟨notF (by omega),I⟩,⟨notF (by omega),I⟩,rfl,rfl,rfl,⟨notF (by omega),rfl⟩,notF (by omega),I⟩,?_⟩
 refine W.cn ?_
 conv=>whnf
 refine ⟨noT (rfl),fun _=>?_⟩
 refine W.skip ?_
 refine W.sq ?_
 refine g 59 75 [.b (false),.b (false),.b (false),.b (false),.b (false),.b (false),.b (false),.b (false),.b (true),.b (true),.b (true),.b (false),.b (true),.b (false)] ?_
 conv=>whnf
 refine ⟨⟨I,I,rfl,rfl,rfl,rfl,rfl,I,⟨rfl,I⟩,⟨rfl,I⟩,⟨rfl,I⟩,⟨rfl,I⟩,⟨rfl,I⟩,⟨rfl,I⟩,⟨rfl,rfl⟩,rfl,I⟩,?_⟩
 refine W.cn ?_
 conv=>whnf
 refine ⟨fun h9=>?_,fun h9=>?_⟩
 replace h9:=ndt h9
 refine g 3 4 [] ?_
 conv=>whnf
 refine ⟨⟨I,I⟩,?_⟩
 refine W.ret ?_
 refine EndsW.rt ?_
 conv=>whnf
 refine ⟨⟨I,I,I⟩,?_,rfl⟩
 rotate_left 1
 replace h9:=ndf h9
 refine W.skip ?_
 refine W.sq ?_
 refine g 10 91 [.b (false),.b (false),.b (false),.b (false),.b (false),.b (false),.b (false),.b (false),.b (true),.b (true),.b (true),.b (false),.b (true),.b (false)] ?_
 conv=>whnf
 refine ⟨⟨I,I,rfl,rfl,rfl,rfl,rfl,I,⟨rfl,I⟩,⟨rfl,I⟩,⟨rfl,I⟩,⟨rfl,I⟩,⟨rfl,I⟩,⟨rfl,I⟩,⟨rfl,rfl⟩,rfl,I⟩,?_⟩
 refine W.cn ?_
 conv=>whnf
 refine ⟨fun h10=>?_,fun h10=>?_⟩
 replace h10:=ndt h10
 refine g 7 9 [] ?_
 conv=>whnf
 refine ⟨⟨I,I⟩,?_⟩
 refine W.ret ?_
 refine EndsW.rt ?_
 conv=>whnf
 refine ⟨⟨I,I,I⟩,?_,rfl⟩
 rotate_left 1
 replace h10:=ndf h10
 refine W.skip ?_
 refine g 5 108 [.b (false),.b (false),.b (false),.b (false),.b (false),.b (false),.b (false),.b (true),.b (true),.b (true),.b (true),.b (false),.b (true),.b (false)] ?_
 conv=>whnf
 refine ⟨⟨I,I,rfl,rfl,rfl,rfl,I,⟨rfl,I⟩,⟨rfl,I⟩,⟨rfl,I⟩,⟨rfl,I⟩,⟨rfl,I⟩,⟨rfl,I⟩,⟨rfl,I⟩,⟨rfl,rfl⟩,rfl,I,I⟩,?_⟩
 refine W.ret ?_
 refine EndsW.rt ?_
 conv=>whnf
 refine ⟨⟨I,I,I⟩,?_,rfl⟩
 rotate_left 1
 refine g 43 59 [.b (true),.b (true),.b (true),.call (V.b (decide ((1:Int) ≤ Message.lease m ∧ Message.lease m ≤ (300000000:Int)))) ([[],[],[]]),.b (true),.b (true),.b (true),.b (true),.b (true),.b (false),.b (false),.b (false),.b (true),.b (true)] ?_
 conv=>whnf
 refine ⟨⟨I,I,⟨rfl,I⟩,⟨rfl,I⟩,⟨rfl,⟨I,I,I,I⟩,I,⟨⟨I,I⟩,⟨I,I⟩,⟨I,I⟩,I⟩,⟨I,I⟩,Go.K.c_impl_within _ _ _⟩,⟨rfl,I⟩,rfl,I,notT (by omega),notT (by omega),notT (by omega),I,I,I,notT (by omega),notT (by omega),I⟩,?_⟩
 refine W.cn ?_
 conv=>whnf
 refine ⟨fun _=>?_,noF (rfl)⟩
 refine g 3 4 [] ?_
 conv=>whnf
 refine ⟨⟨I,I⟩,?_⟩
 refine W.ret ?_
 refine EndsW.rt ?_
 conv=>whnf
 refine ⟨⟨I,I,I⟩,?_,rfl⟩
 rotate_left 1
 refine g 26 43 [.b (false),.b (false),.call (V.b (decide ((1:Int) ≤ Message.to m ∧ Message.to m ≤ (8:Int)))) ([[],[],[]]),.b (false),.b (false),.b (true),.b (true),.b (true),.b (true),.b (true)] ?_
 conv=>whnf
 refine ⟨⟨I,I,I,⟨notF (by omega),I⟩,⟨notF (by omega),⟨I,I,I,I⟩,I,⟨⟨I,I⟩,⟨I,I⟩,⟨I,I⟩,I⟩,⟨I,I⟩,Go.K.c_impl_within _ _ _⟩,⟨notF (by omega),I⟩,notF (by omega),I,notT (by omega),notT (by omega),notT (by omega),notT (by omega),notT (by omega),I⟩,?_⟩
 refine W.cn ?_
 conv=>whnf
 refine ⟨fun _=>?_,noF (rfl)⟩
 refine g 8 9 [] ?_
 conv=>whnf
 refine ⟨⟨I,I⟩,?_⟩
 refine W.ret ?_
 refine EndsW.rt ?_
 conv=>whnf
 refine ⟨⟨I,I,I⟩,?_,rfl⟩
 rotate_left 1
 refine g 26 43 [.b (true),.b (true),.b (true),.b (true),.b (true),.b (true),.b (true),.b (true),.b (true)] ?_
 conv=>whnf
 refine ⟨⟨I,I,I,notT (by omega),notT (by omega),notT (by omega),notT (by omega),I,rfl,rfl,rfl,rfl,rfl,I⟩,?_⟩
 refine W.cn ?_
 conv=>whnf
 refine ⟨fun _=>?_,noF (rfl)⟩
 refine g 8 9 [] ?_
 conv=>whnf
 refine ⟨⟨I,I⟩,?_⟩
 refine W.ret ?_
 refine EndsW.rt ?_
 conv=>whnf
 refine ⟨⟨I,I,I⟩,?_,rfl⟩
 rotate_left 1
 replace h4:=df h4
 refine g 11 20 [] ?_
 conv=>whnf
 refine ⟨⟨I,I,I⟩,?_⟩
 refine W.cn ?_
 conv=>whnf
 refine ⟨fun h5=>?_,fun h5=>?_⟩
 replace h5:=dt h5
 refine W.skip ?_
 refine gd 20 26 [[],[],[],[],[],[]] ?_
 conv=>whnf
 refine ⟨⟨I,I,I,I,I,I,I⟩,by kernel_rfl,?_⟩
 refine W.sq ?_
 refine g 0 0 [] ?_
 conv=>whnf
 refine ⟨⟨I,I⟩,?_⟩
 refine W.cn ?_
 conv=>whnf
 refine ⟨noT (rfl),fun _=>?_⟩
 refine W.skip ?_
 refine W.sq ?_
 by_cases h6:Message.to m = (0:Int)
 by_cases h7:(1:Int) ≤ Message.frm m ∧ Message.frm m ≤ (8:Int)
 refine g 26 43 [.b (false),.b (false),.call (V.b (decide ((1:Int) ≤ Message.frm m ∧ Message.frm m ≤ (8:Int)))) ([[],[],[]]),.b (false),.b (false),.b (false),.b (false),.b (false),.call (V.b (decide ((1:Int) ≤ Message.epoch m ∧ Message.epoch m ≤ (300:Int)))) ([[],[],[]]),.b (false),.b (false)] ?_
 conv=>whnf
 refine ⟨⟨I,I,I,⟨notF (by omega),I⟩,⟨notF (by omega),⟨I,I,I,I⟩,I,⟨⟨I,I⟩,⟨I,I⟩,⟨I,I⟩,I⟩,⟨I,I⟩,Go.K.c_impl_within _ _ _⟩,⟨notF (by omega),I⟩,notF (by omega),I,⟨notF (by omega),I⟩,⟨notF (by omega),I⟩,⟨notF (by omega),⟨I,I,I,I⟩,I,⟨⟨I,I⟩,⟨I,I⟩,⟨I,I⟩,I⟩,⟨I,I⟩,Go.K.c_impl_within _ _ _⟩,⟨notF (by omega),I⟩,notF (by omega),I⟩,?_⟩
 refine W.cn ?_
 conv=>whnf
 refine ⟨fun h8=>?_,fun h8=>?_⟩
 replace h8:=ndt h8
 refine g 8 9 [] ?_
 conv=>whnf
 refine ⟨⟨I,I⟩,?_⟩
 refine W.ret ?_
 refine EndsW.rt ?_
 conv=>whnf
 refine ⟨⟨I,I,I⟩,?_,rfl⟩
 rotate_left 1
 replace h8:=ndf h8
 refine W.skip ?_
 refine W.sq ?_
 refine g 43 59 [.b (false),.b (false),.b (false),.b (false),.b (false),.b (false),.b (false),.b (false),.b (true),.b (true),.b (true),.b (false),.b (true),.b (false)] ?_
 conv=>whnf
 refine ⟨⟨I,I,rfl,rfl,rfl,rfl,rfl,I,⟨rfl,I⟩,⟨rfl,I⟩,⟨rfl,I⟩,⟨rfl,I⟩,⟨rfl,I⟩,⟨rfl,I⟩,⟨rfl,rfl⟩,rfl,I⟩,?_⟩
 refine W.cn ?_
 conv=>whnf
 refine ⟨fun h9=>?_,fun h9=>?_⟩
 replace h9:=ndt h9
 refine g 3 4 [] ?_
 conv=>whnf
 refine ⟨⟨I,I⟩,?_⟩
 refine W.ret ?_
 refine EndsW.rt ?_
 conv=>whnf
 refine ⟨⟨I,I,I⟩,?_,rfl⟩
 rotate_left 1
 replace h9:=ndf h9
 refine W.skip ?_
 refine W.sq ?_
 refine g 59 75 [.b (false),.b (false),.b (false),.b (false),.b (false),.b (false),.b (false),.b (false),.b (true),.b (true),.b (true),.b (false),.b (true),.b (false)] ?_
 conv=>whnf
 refine ⟨⟨I,I,rfl,rfl,rfl,rfl,rfl,I,⟨rfl,I⟩,⟨rfl,I⟩,⟨rfl,I⟩,⟨rfl,I⟩,⟨rfl,I⟩,⟨rfl,I⟩,⟨rfl,rfl⟩,rfl,I⟩,?_⟩
 refine W.cn ?_
 conv=>whnf
 refine ⟨fun h10=>?_,fun h10=>?_⟩
 replace h10:=ndt h10
 refine g 3 4 [] ?_
 conv=>whnf
 refine ⟨⟨I,I⟩,?_⟩
 refine W.ret ?_
 refine EndsW.rt ?_
 conv=>whnf
 refine ⟨⟨I,I,I⟩,?_,rfl⟩
 rotate_left 1
 replace h10:=ndf h10
 refine W.skip ?_
 refine W.sq ?_
 refine g 10 91 [.b (false),.b (false),.b (false),.b (false),.b (false),.b (false),.b (false),.b (false),.b (true),.b (true),.b (true),.b (false),.b (true),.b (false)] ?_
 conv=>whnf
 refine ⟨⟨I,I,rfl,rfl,rfl,rfl,rfl,I,⟨rfl,I⟩,⟨rfl,I⟩,⟨rfl,I⟩,⟨rfl,I⟩,⟨rfl,I⟩,⟨rfl,I⟩,⟨rfl,rfl⟩,rfl,I⟩,?_⟩
 refine W.cn ?_
 conv=>whnf
 refine ⟨fun h11=>?_,fun h11=>?_⟩
 replace h11:=ndt h11
 refine g 7 9 [] ?_
 conv=>whnf
 refine ⟨⟨I,I⟩,?_⟩
 refine W.ret ?_
 refine EndsW.rt ?_
 conv=>whnf
 refine ⟨⟨I,I,I⟩,?_,rfl⟩
 rotate_left 1
 replace h11:=ndf h11
 refine W.skip ?_
 refine g 5 108 [.b (false),.b (false),.b (false),.b (false),.b (false),.b (false),.b (false),.b (true),.b (true),.b (true),.b (true),.b (false),.b (true),.b (false)] ?_
 conv=>whnf
 refine ⟨⟨I,I,rfl,rfl,rfl,rfl,I,⟨rfl,I⟩,⟨rfl,I⟩,⟨rfl,I⟩,⟨rfl,I⟩,⟨rfl,I⟩,⟨rfl,I⟩,⟨rfl,I⟩,⟨rfl,rfl⟩,rfl,I,I⟩,?_⟩
 refine W.ret ?_
 refine EndsW.rt ?_
 conv=>whnf
 refine ⟨⟨I,I,I⟩,?_,rfl⟩
 rotate_left 1
 refine g 26 43 [.b (false),.b (false),.call (V.b (decide ((1:Int) ≤ Message.frm m ∧ Message.frm m ≤ (8:Int)))) ([[],[],[]]),.b (false),.b (false),.b (true),.b (true),.b (true),.b (true),.b (true)] ?_
 conv=>whnf
 refine ⟨⟨I,I,I,⟨notF (by omega),I⟩,⟨notF (by omega),⟨I,I,I,I⟩,I,⟨⟨I,I⟩,⟨I,I⟩,⟨I,I⟩,I⟩,⟨I,I⟩,Go.K.c_impl_within _ _ _⟩,⟨notF (by omega),I⟩,notF (by omega),I,notT (by omega),notT (by omega),notT (by omega),notT (by omega),notT (by omega),I⟩,?_⟩
 refine W.cn ?_
 conv=>whnf
 refine ⟨fun _=>?_,noF (rfl)⟩
 refine g 8 9 [] ?_
 conv=>whnf
 refine ⟨⟨I,I⟩,?_⟩
 refine W.ret ?_
 refine EndsW.rt ?_
 conv=>whnf
 refine ⟨⟨I,I,I⟩,?_,rfl⟩
 rotate_left 1
 refine g 26 43 [.b (true),.b (true),.b (true),.b (true),.b (true),.b (true),.b (true),.b (true),.b (true)] ?_
 conv=>whnf
 refine ⟨⟨I,I,I,notT (by omega),notT (by omega),notT (by omega),notT (by omega),I,rfl,rfl,rfl,rfl,rfl,I⟩,?_⟩
 refine W.cn ?_
 conv=>whnf
 refine ⟨fun _=>?_,noF (rfl)⟩
 refine g 8 9 [] ?_
 conv=>whnf
 refine ⟨⟨I,I⟩,?_⟩
 refine W.ret ?_
 refine EndsW.rt ?_
 conv=>whnf
 refine ⟨⟨I,I,I⟩,?_,rfl⟩
 rotate_left 1
 replace h5:=df h5
 refine g 20 22 [] ?_
 conv=>whnf
 refine ⟨⟨I,I⟩,?_⟩
 refine W.ret ?_
 refine EndsW.rt ?_
 conv=>whnf
 refine ⟨⟨I,I,I⟩,?_,rfl⟩
 rotate_left 1
 all_goals (try simp only [List.length_map,decide_eq_true_eq,Bool.not_eq_true,Bool.not_eq_true',decide_eq_false_iff_not] at *)
 all_goals first
  | exact vbf (by unfold msgOk; grind)
  | exact vbt (by unfold msgOk; grind)
  | exact vbd (by unfold msgOk; grind)
theorem tup5 {a b c d e a' b' c' d' e':Bool} (h1:a = a') (h2:b = b') (h3:c = c') (h4:d = d') (h5:e = e'):V.tup [V.t (T.v (Value.bool a)),V.t (T.v (Value.bool b)),V.t (T.v (Value.bool c)),V.t (T.v (Value.bool d)),V.t (T.v (Value.bool e))] = V.tup [.b a',.b b',.b c',.b d',.b e']:=by subst h1; subst h2; subst h3; subst h4; subst h5; rfl
theorem c_spec_l2Uses (k:Int):F n_spec_l2Uses [.val (.i k)] (.tup [.b (decide (1 ≤ k ∧ k ≤ 4)),.b (decide (k = 1 ∨ k = 3)),.b (decide (k = 3)),.b (decide (k = 1)),.b (decide (k = 1 ∨ k = 4))]) [[]]:=by
 refine i_spec_l2Uses ?_
 conv=>whnf
 refine g 0 0 [] ?_
 conv=>whnf
 refine ⟨⟨I,I,I,I,I,I⟩,?_⟩
 refine W.sq ?_
 refine g 0 1 [] ?_
 conv=>whnf
 refine ⟨⟨I,I⟩,?_⟩
 refine W.blk ?_
 refine g 9 10 [] ?_
 conv=>whnf
 refine ⟨⟨I,I,I⟩,?_⟩
 refine W.cn ?_
 conv=>whnf
 refine ⟨fun h1=>?_,fun h1=>?_⟩
 replace h1:=dt h1
 refine g 7 9 [] ?_
 conv=>whnf
 refine ⟨⟨I,I,I,I,I,I⟩,?_⟩
 refine W.ret ?_
 refine EndsW.rt ?_
 conv=>whnf
 refine ⟨⟨I,⟨I,I⟩,I,⟨I,I⟩,I,⟨I,I⟩,I,⟨I,I⟩,I,⟨I,I⟩,I⟩,?_,rfl⟩
 rotate_left 1
 replace h1:=df h1
 refine g 8 9 [] ?_
 conv=>whnf
 refine ⟨⟨I,I,I⟩,?_⟩
 refine W.cn ?_
 conv=>whnf
 refine ⟨fun h2=>?_,fun h2=>?_⟩
 replace h2:=dt h2
 refine g 7 12 [] ?_
 conv=>whnf
 refine ⟨⟨I,I,I,I,I,I⟩,?_⟩
 refine W.ret ?_
 refine EndsW.rt ?_
 conv=>whnf
 refine ⟨⟨I,⟨I,I⟩,I,⟨I,I⟩,I,⟨I,I⟩,I,⟨I,I⟩,I,⟨I,I⟩,I⟩,?_,rfl⟩
 rotate_left 1
 replace h2:=df h2
 refine g 10 12 [] ?_
 conv=>whnf
 refine ⟨⟨I,I,I⟩,?_⟩
 refine W.cn ?_
 conv=>whnf
 refine ⟨fun h3=>?_,fun h3=>?_⟩
 replace h3:=dt h3
 refine g 7 14 [] ?_
 conv=>whnf
 refine ⟨⟨I,I,I,I,I,I⟩,?_⟩
 refine W.ret ?_
 refine EndsW.rt ?_
 conv=>whnf
 refine ⟨⟨I,⟨I,I⟩,I,⟨I,I⟩,I,⟨I,I⟩,I,⟨I,I⟩,I,⟨I,I⟩,I⟩,?_,rfl⟩
 rotate_left 1
 replace h3:=df h3
 refine g 7 14 [] ?_
 conv=>whnf
 refine ⟨⟨I,I,I⟩,?_⟩
 refine W.cn ?_
 conv=>whnf
 refine ⟨fun h4=>?_,fun h4=>?_⟩
 replace h4:=dt h4
 refine g 14 16 [] ?_
 conv=>whnf
 refine ⟨⟨I,I,I,I,I,I⟩,?_⟩
 refine W.ret ?_
 refine EndsW.rt ?_
 conv=>whnf
 refine ⟨⟨I,⟨I,I⟩,I,⟨I,I⟩,I,⟨I,I⟩,I,⟨I,I⟩,I,⟨I,I⟩,I⟩,?_,rfl⟩
 rotate_left 1
 replace h4:=df h4
 refine W.skip ?_
 refine g 14 16 [] ?_
 conv=>whnf
 refine ⟨⟨I,I,I,I,I,I⟩,?_⟩
 refine W.ret ?_
 refine EndsW.rt ?_
 conv=>whnf
 refine ⟨⟨I,⟨I,I⟩,I,⟨I,I⟩,I,⟨I,I⟩,I,⟨I,I⟩,I,⟨I,I⟩,I⟩,?_,rfl⟩
 rotate_left 1
 all_goals exact tup5 (by grind) (by grind) (by grind) (by grind) (by grind)
end Go.K
end
section
set_option linter.unusedVariables false
set_option linter.unusedSimpArgs false
set_option maxHeartbeats 4000000
set_option maxRecDepth 20000
open Go Go.Tm Go.Proofs
namespace Go.K
theorem c_spec_l2Ok (m:Message) (hl:m.inputs.length ≤ 9223372036854775806):F n_spec_l2Ok [.val (messageR m)] (.b (decide (msgOk m))) [[]]:=by
 refine i_spec_l2Ok ?_
 conv=>whnf
 refine g 0 1 [] ?_
 conv=>whnf
 refine ⟨⟨⟨I,I,I,I,I,I,I,I,I⟩,I,I⟩,?_⟩
 refine W.sq ?_
 by_cases h1:(1:Int) ≤ Message.kind m ∧ Message.kind m ≤ (5:Int)
 refine g 13 15 [.call (V.b (decide ((1:Int) ≤ Message.kind m ∧ Message.kind m ≤ (5:Int)))) ([[],[],[]]),.b (false),.b (false),.b (false),.call (V.b (decide ((1:Int) ≤ Message.epoch m ∧ Message.epoch m ≤ (300:Int)))) ([[],[],[]]),.b (false),.b (false)] ?_
 conv=>whnf
 refine ⟨⟨I,I,⟨⟨I,I,I,I⟩,I,⟨⟨I,I⟩,⟨I,I⟩,⟨I,I⟩,I⟩,⟨I,I⟩,Go.K.c_spec_l2In _ _ _⟩,I,I,⟨notF (by omega),I⟩,⟨notF (by omega),I⟩,⟨notF (by omega),⟨I,I,I,I⟩,I,⟨⟨I,I⟩,⟨I,I⟩,⟨I,I⟩,I⟩,⟨I,I⟩,Go.K.c_spec_l2In _ _ _⟩,⟨notF (by omega),I⟩,notF (by omega),I⟩,?_⟩
 refine W.cn ?_
 conv=>whnf
 refine ⟨fun h2=>?_,fun h2=>?_⟩
 replace h2:=ndt h2
 refine g 8 9 [] ?_
 conv=>whnf
 refine ⟨⟨I,I⟩,?_⟩
 refine W.ret ?_
 refine EndsW.rt ?_
 conv=>whnf
 refine ⟨⟨I,I,I⟩,?_,rfl⟩
 rotate_left 1
 replace h2:=ndf h2
 refine W.skip ?_
 refine g 20 25 [.call (V.tup [V.b (decide ((1:Int) ≤ Message.kind m ∧ Message.kind m ≤ (4:Int))),V.b (decide (Message.kind m = (1:Int) ∨ Message.kind m = (3:Int))),V.b (decide (Message.kind m = (3:Int))),V.b (decide (Message.kind m = (1:Int))),V.b (decide (Message.kind m = (1:Int) ∨ Message.kind m = (4:Int)))]) ([[]])] ?_
 conv=>whnf
 refine ⟨⟨I,I,⟨⟨I,I⟩,I,⟨⟨I,I⟩,I⟩,⟨I,I⟩,Go.K.c_spec_l2Uses _⟩,I,I,I,I,I,I,I,I,I,I,I,I⟩,?_⟩
 refine W.sq ?_
 by_cases h3:Message.kind m = (1:Int) ∨ Message.kind m = (4:Int)
 by_cases h4:Message.frm m = (0:Int)
 by_cases h5:(1:Int) ≤ Message.to m ∧ Message.to m ≤ (8:Int)
 refine g 29 53 [.b (true),.b (true),.b (true),.b (true),.b (false),.b (false),.b (false),.call (V.b (decide ((1:Int) ≤ Message.to m ∧ Message.to m ≤ (8:Int)))) ([[],[],[]]),.b (false),.b (true),.b (false),.b (true),.b (false),.b (false),.b (false),.b (false),.b (false),.b (false),.b (false),.b (false),.b (false),.b (false),.b (false),.b (false),.b (false),.b (false),.b (false)] ?_
 conv=>whnf
 refine ⟨⟨I,I,⟨dT (by omega),I⟩,⟨dT (by omega),I⟩,⟨dT (by omega),I⟩,⟨dT (by omega),I⟩,⟨notF (by omega),I⟩,⟨notF (by omega),I⟩,⟨notF (by omega),⟨I,I,I,I⟩,I,⟨⟨I,I⟩,⟨I,I⟩,⟨I,I⟩,I⟩,⟨I,I⟩,Go.K.c_spec_l2In _ _ _⟩,⟨notF (by omega),I⟩,⟨dT (by omega),notF (by omega)⟩,dT (by omega),I,⟨notF (by omega),I⟩,⟨notF (by omega),I⟩,⟨notF (by omega),I⟩,notF (by omega),notF (by omega),notF (by omega),notF (by omega),I,I,I,I,notF (by omega),⟨notF (by omega),notF (by omega)⟩,notF (by omega),I⟩,?_⟩
 refine W.cn ?_
 conv=>whnf
 refine ⟨noT (rfl),fun _=>?_⟩
 refine W.skip ?_
 refine W.sq ?_
 by_cases h6:(1:Int) ≤ Message.lease m ∧ Message.lease m ≤ (300000000:Int)
 by_cases h7:Message.kind m = (1:Int) ∨ Message.kind m = (3:Int)
 by_cases h8:(0:Int) ≤ Message.task m ∧ Message.task m ≤ (39:Int)
 refine g 11 87 [.b (true),.b (true),.b (true),.call (V.b (decide ((1:Int) ≤ Message.lease m ∧ Message.lease m ≤ (300000000:Int)))) ([[]]),.b (true),.b (true),.b (false),.b (false),.b (false),.b (false),.b (false),.b (false),.b (false),.b (false),.b (false),.b (false),.b (false),.b (true),.b (true),.b (true),.call (V.b (decide ((0:Int) ≤ Message.task m ∧ Message.task m ≤ (39:Int)))) ([[],[],[]]),.b (true),.b (false),.b (true),.b (false),.b (false),.b (false),.b (false),.b (false),.b (false),.b (false),.b (false),.b (false),.b (false)] ?_
 conv=>whnf
 refine ⟨⟨I,I,⟨dT (by omega),I⟩,⟨dT (by omega),I⟩,⟨dT (by omega),⟨I,I⟩,I,⟨⟨I,I⟩,I⟩,⟨I,I⟩,Go.K.c_spec_l2LeaseOk _⟩,⟨dT (by omega),I⟩,dT (by omega),I,⟨notF (by omega),I⟩,⟨notF (by omega),I⟩,⟨notF (by omega),I⟩,notF (by omega),notF (by omega),notF (by omega),⟨notF (by omega),notF (by omega)⟩,notF (by omega),I,⟨rfl,I⟩,⟨rfl,I⟩,⟨dT (by omega),I⟩,⟨dT (by omega),I⟩,⟨dT (by omega),⟨I,I,I,I⟩,I,⟨⟨I,I⟩,⟨I,I⟩,⟨I,I⟩,I⟩,⟨I,I⟩,Go.K.c_spec_l2In _ _ _⟩,⟨dT (by omega),I⟩,⟨rfl,dT (by omega)⟩,rfl,I,⟨notF (by omega),I⟩,⟨notF (by omega),I⟩,⟨notF (by omega),I⟩,notF (by omega),notF (by omega),notF (by omega),⟨notF (by omega),notF (by omega)⟩,notF (by omega),I⟩,?_⟩
 refine W.cn ?_
 conv=>whnf
 refine ⟨noT (rfl),fun _=>?_⟩
 refine W.skip ?_
 refine W.sq ?_
 refine g 10 103 [.b (false),.b (false),.b (false),.b (false),.b (false),.b (false),.b (false),.b (false),.b (true),.b (true),.b (true),.b (false),.b (true),.b (false)] ?_
 conv=>whnf
 refine ⟨⟨I,I,dF (by omega),dF (by omega),dF (by omega),dF (by omega),dF (by omega),I,⟨rfl,I⟩,⟨rfl,I⟩,⟨rfl,I⟩,⟨notT (by omega),I⟩,⟨notT (by omega),I⟩,⟨notT (by omega),I⟩,⟨rfl,notT (by omega)⟩,rfl,I⟩,?_⟩
 refine W.cn ?_
 conv=>whnf
 refine ⟨fun h9=>?_,fun h9=>?_⟩
 replace h9:=ndt h9
 refine g 7 9 [] ?_
 conv=>whnf
 refine ⟨⟨I,I⟩,?_⟩
 refine W.ret ?_
 refine EndsW.rt ?_
 conv=>whnf
 refine ⟨⟨I,I,I⟩,?_,rfl⟩
 rotate_left 1
 replace h9:=ndf h9
 refine W.skip ?_
 by_cases h10:eights (Message.inputs m)
 refine g 5 120 [.b (true),.b (true),.b (true),.call (V.b (decide (eights (Message.inputs m)))) ([[]]),.b (true),.b (true),.b (true),.b (true),.b (false),.b (false),.b (false),.b (false),.b (true),.b (true)] ?_
 conv=>whnf
 refine ⟨⟨I,I,⟨dT (by omega),I⟩,⟨dT (by omega),I⟩,⟨dT (by omega),⟨I,I⟩,I,⟨⟨I,I⟩,I⟩,⟨I,I⟩,Go.K.c_spec_l2InputsOk _ (by omega)⟩,dT (by omega),I,dT (by omega),dT (by omega),dT (by omega),I,I,I,I,dT (by omega),dT (by omega),I,I⟩,?_⟩
 refine W.ret ?_
 refine EndsW.rt ?_
 conv=>whnf
 refine ⟨⟨I,I,I⟩,?_,rfl⟩
 rotate_left 1
 refine g 5 120 [.b (true),.b (true),.b (true),.call (V.b (decide (eights (Message.inputs m)))) ([[]]),.b (true),.b (false),.b (false),.b (false),.b (false),.b (false),.b (false),.b (false),.b (false),.b (false),.b (false)] ?_
 conv=>whnf
 refine ⟨⟨I,I,⟨dT (by omega),I⟩,⟨dT (by omega),I⟩,⟨dT (by omega),⟨I,I⟩,I,⟨⟨I,I⟩,I⟩,⟨I,I⟩,Go.K.c_spec_l2InputsOk _ (by omega)⟩,dT (by omega),I,⟨dF (by omega),I⟩,⟨dF (by omega),I⟩,⟨dF (by omega),I⟩,notF (by omega),notF (by omega),notF (by omega),notF (by omega),⟨dF (by omega),notF (by omega)⟩,dF (by omega),I,I⟩,?_⟩
 refine W.ret ?_
 refine EndsW.rt ?_
 conv=>whnf
 refine ⟨⟨I,I,I⟩,?_,rfl⟩
 rotate_left 1
 refine g 11 87 [.b (true),.b (true),.b (true),.call (V.b (decide ((1:Int) ≤ Message.lease m ∧ Message.lease m ≤ (300000000:Int)))) ([[]]),.b (true),.b (true),.b (false),.b (false),.b (false),.b (false),.b (false),.b (false),.b (false),.b (false),.b (false),.b (false),.b (false),.b (true),.b (true),.b (true),.call (V.b (decide ((0:Int) ≤ Message.task m ∧ Message.task m ≤ (39:Int)))) ([[],[],[]]),.b (true),.b (false),.b (true),.b (false),.b (true),.b (true),.b (true),.b (false),.b (false),.b (false),.b (true),.b (true)] ?_
 conv=>whnf
 refine ⟨⟨I,I,⟨dT (by omega),I⟩,⟨dT (by omega),I⟩,⟨dT (by omega),⟨I,I⟩,I,⟨⟨I,I⟩,I⟩,⟨I,I⟩,Go.K.c_spec_l2LeaseOk _⟩,⟨dT (by omega),I⟩,dT (by omega),I,⟨notF (by omega),I⟩,⟨notF (by omega),I⟩,⟨notF (by omega),I⟩,notF (by omega),notF (by omega),notF (by omega),⟨notF (by omega),notF (by omega)⟩,notF (by omega),I,⟨rfl,I⟩,⟨rfl,I⟩,⟨dT (by omega),I⟩,⟨dT (by omega),I⟩,⟨dT (by omega),⟨I,I,I,I⟩,I,⟨⟨I,I⟩,⟨I,I⟩,⟨I,I⟩,I⟩,⟨I,I⟩,Go.K.c_spec_l2In _ _ _⟩,⟨dT (by omega),I⟩,⟨rfl,dT (by omega)⟩,rfl,I,notT (by omega),notT (by omega),notT (by omega),I,I,I,notT (by omega),notT (by omega),I⟩,?_⟩
 refine W.cn ?_
 conv=>whnf
 refine ⟨fun _=>?_,noF (rfl)⟩
 refine g 3 4 [] ?_
 conv=>whnf
 refine ⟨⟨I,I⟩,?_⟩
 refine W.ret ?_
 refine EndsW.rt ?_
 conv=>whnf
 refine ⟨⟨I,I,I⟩,?_,rfl⟩
 rotate_left 1
 refine g 11 87 [.b (true),.b (true),.b (true),.call (V.b (decide ((1:Int) ≤ Message.lease m ∧ Message.lease m ≤ (300000000:Int)))) ([[]]),.b (true),.b (true),.b (false),.b (false),.b (false),.b (false),.b (false),.b (false),.b (false),.b (false),.b (false),.b (false),.b (false),.b (false),.b (false),.b (false),.b (false),.b (false),.b (false),.b (false),.b (false),.b (false),.b (false),.b (true),.b (true),.b (true),.b (false),.b (true),.b (false)] ?_
 conv=>whnf
 refine ⟨⟨I,I,⟨dT (by omega),I⟩,⟨dT (by omega),I⟩,⟨dT (by omega),⟨I,I⟩,I,⟨⟨I,I⟩,I⟩,⟨I,I⟩,Go.K.c_spec_l2LeaseOk _⟩,⟨dT (by omega),I⟩,dT (by omega),I,⟨notF (by omega),I⟩,⟨notF (by omega),I⟩,⟨notF (by omega),I⟩,notF (by omega),notF (by omega),notF (by omega),⟨notF (by omega),notF (by omega)⟩,notF (by omega),I,⟨rfl,I⟩,⟨rfl,I⟩,dF (by omega),dF (by omega),dF (by omega),dF (by omega),⟨rfl,dF (by omega)⟩,rfl,I,⟨rfl,I⟩,⟨rfl,I⟩,⟨rfl,I⟩,⟨notT (by omega),I⟩,⟨notT (by omega),I⟩,⟨notT (by omega),I⟩,⟨rfl,notT (by omega)⟩,rfl,I⟩,?_⟩
 refine W.cn ?_
 conv=>whnf
 refine ⟨fun h8=>?_,fun h8=>?_⟩
 replace h8:=ndt h8
 refine g 3 4 [] ?_
 conv=>whnf
 refine ⟨⟨I,I⟩,?_⟩
 refine W.ret ?_
 refine EndsW.rt ?_
 conv=>whnf
 refine ⟨⟨I,I,I⟩,?_,rfl⟩
 rotate_left 1
 replace h8:=ndf h8
 refine W.skip ?_
 refine W.sq ?_
 refine g 10 103 [.b (false),.b (false),.b (false),.b (false),.b (false),.b (false),.b (false),.b (false),.b (true),.b (true),.b (true),.b (false),.b (true),.b (false)] ?_
 conv=>whnf
 refine ⟨⟨I,I,dF (by omega),dF (by omega),dF (by omega),dF (by omega),dF (by omega),I,⟨rfl,I⟩,⟨rfl,I⟩,⟨rfl,I⟩,⟨notT (by omega),I⟩,⟨notT (by omega),I⟩,⟨notT (by omega),I⟩,⟨rfl,notT (by omega)⟩,rfl,I⟩,?_⟩
 refine W.cn ?_
 conv=>whnf
 refine ⟨fun h9=>?_,fun h9=>?_⟩
 replace h9:=ndt h9
 refine g 7 9 [] ?_
 conv=>whnf
 refine ⟨⟨I,I⟩,?_⟩
 refine W.ret ?_
 refine EndsW.rt ?_
 conv=>whnf
 refine ⟨⟨I,I,I⟩,?_,rfl⟩
 rotate_left 1
 replace h9:=ndf h9
 refine W.skip ?_
 refine g 5 120 [.b (false),.b (false),.b (false),.b (false),.b (false),.b (false),.b (false),.b (true),.b (true),.b (true),.b (true),.b (false),.b (true),.b (false)] ?_
 conv=>whnf
 refine ⟨⟨I,I,dF (by omega),dF (by omega),dF (by omega),dF (by omega),I,⟨rfl,I⟩,⟨rfl,I⟩,⟨rfl,I⟩,⟨notT (by omega),I⟩,⟨notT (by omega),I⟩,⟨notT (by omega),I⟩,⟨notT (by omega),I⟩,⟨rfl,notT (by omega)⟩,rfl,I,I⟩,?_⟩
 refine W.ret ?_
 refine EndsW.rt ?_
 conv=>whnf
 refine ⟨⟨I,I,I⟩,?_,rfl⟩
 rotate_left 1
 refine g 11 87 [.b (true),.b (true),.b (true),.call (V.b (decide ((1:Int) ≤ Message.lease m ∧ Message.lease m ≤ (300000000:Int)))) ([[]]),.b (true),.b (true),.b (true),.b (true),.b (true),.b (false),.b (false),.b (false),.b (true),.b (true),.b (true),.b (true),.b (false),.b (false),.b (false),.b (false),.b (true),.b (true),.b (true),.b (true),.b (true),.b (false),.b (false),.b (false),.b (true),.b (true)] ?_
 conv=>whnf
 refine ⟨⟨I,I,⟨dT (by omega),I⟩,⟨dT (by omega),I⟩,⟨dT (by omega),⟨I,I⟩,I,⟨⟨I,I⟩,I⟩,⟨I,I⟩,Go.K.c_spec_l2LeaseOk _⟩,⟨dT (by omega),I⟩,dT (by omega),I,notT (by omega),notT (by omega),notT (by omega),I,I,I,notT (by omega),notT (by omega),I,rfl,rfl,I,I,I,I,rfl,rfl,I,rfl,rfl,rfl,I,I,I,rfl,rfl,I⟩,?_⟩
 refine W.cn ?_
 conv=>whnf
 refine ⟨fun _=>?_,noF (rfl)⟩
 refine g 3 4 [] ?_
 conv=>whnf
 refine ⟨⟨I,I⟩,?_⟩
 refine W.ret ?_
 refine EndsW.rt ?_
 conv=>whnf
 refine ⟨⟨I,I,I⟩,?_,rfl⟩
 rotate_left 1
 refine g 29 53 [.b (true),.b (true),.b (true),.b (true),.b (false),.b (false),.b (false),.call (V.b (decide ((1:Int) ≤ Message.to m ∧ Message.to m ≤ (8:Int)))) ([[],[],[]]),.b (false),.b (true),.b (false),.b (true),.b (true),.b (true),.b (true),.b (false),.b (false),.b (false),.b (false),.b (false),.b (false),.b (false),.b (false),.b (false),.b (true),.b (true)] ?_
 conv=>whnf
 refine ⟨⟨I,I,⟨dT (by omega),I⟩,⟨dT (by omega),I⟩,⟨dT (by omega),I⟩,⟨dT (by omega),I⟩,⟨notF (by omega),I⟩,⟨notF (by omega),I⟩,⟨notF (by omega),⟨I,I,I,I⟩,I,⟨⟨I,I⟩,⟨I,I⟩,⟨I,I⟩,I⟩,⟨I,I⟩,Go.K.c_spec_l2In _ _ _⟩,⟨notF (by omega),I⟩,⟨dT (by omega),notF (by omega)⟩,dT (by omega),I,notT (by omega),notT (by omega),notT (by omega),I,I,I,I,I,I,I,I,I,notT (by omega),notT (by omega),I⟩,?_⟩
 refine W.cn ?_
 conv=>whnf
 refine ⟨fun _=>?_,noF (rfl)⟩
 refine g 11 16 [] ?_
 conv=>whnf
 refine ⟨⟨I,I⟩,?_⟩
 refine W.ret ?_
 refine EndsW.rt ?_
 conv=>whnf
 refine ⟨⟨I,I,I⟩,?_,rfl⟩
 rotate_left 1
 refine g 29 53 [.b (true),.b (true),.b (true),.b (true),.b (true),.b (true),.b (true),.b (true),.b (true),.b (true),.b (true),.b (true),.b (true),.b (true),.b (false),.b (false),.b (false),.b (false),.b (false),.b (false),.b (false),.b (false),.b (false),.b (true),.b (true)] ?_
 conv=>whnf
 refine ⟨⟨I,I,⟨dT (by omega),I⟩,⟨dT (by omega),I⟩,⟨dT (by omega),I⟩,⟨dT (by omega),I⟩,notT (by omega),notT (by omega),notT (by omega),notT (by omega),⟨dT (by omega),notT (by omega)⟩,dT (by omega),I,rfl,rfl,rfl,I,I,I,I,I,I,I,I,I,rfl,rfl,I⟩,?_⟩
 refine W.cn ?_
 conv=>whnf
 refine ⟨fun _=>?_,noF (rfl)⟩
 refine g 11 16 [] ?_
 conv=>whnf
 refine ⟨⟨I,I⟩,?_⟩
 refine W.ret ?_
 refine EndsW.rt ?_
 conv=>whnf
 refine ⟨⟨I,I,I⟩,?_,rfl⟩
 rotate_left 1
 by_cases h4:Message.to m = (0:Int)
 refine g 29 53 [.b (false),.b (false),.b (false),.b (false),.b (false),.b (false),.b (false),.b (false),.b (false),.b (false),.b (false),.b (false),.b (false),.b (true),.b (true),.b (true),.b (true),.b (false),.b (false),.b (false),.call (V.b (decide ((1:Int) ≤ Message.frm m ∧ Message.frm m ≤ (8:Int)))) ([[],[],[]]),.b (false),.b (true),.b (false),.b (false),.b (true),.b (false)] ?_
 conv=>whnf
 refine ⟨⟨I,I,dF (by omega),dF (by omega),dF (by omega),dF (by omega),I,I,I,I,dF (by omega),dF (by omega),I,⟨rfl,I⟩,⟨rfl,I⟩,⟨rfl,I⟩,⟨notT (by omega),I⟩,⟨notT (by omega),I⟩,⟨notT (by omega),I⟩,⟨notT (by omega),I⟩,⟨notF (by omega),I⟩,⟨notF (by omega),I⟩,⟨notF (by omega),⟨I,I,I,I⟩,I,⟨⟨I,I⟩,⟨I,I⟩,⟨I,I⟩,I⟩,⟨I,I⟩,Go.K.c_spec_l2In _ _ _⟩,⟨notF (by omega),I⟩,⟨notT (by omega),notF (by omega)⟩,⟨rfl,notT (by omega)⟩,rfl,I⟩,?_⟩
 refine W.cn ?_
 conv=>whnf
 refine ⟨fun h5=>?_,fun h5=>?_⟩
 replace h5:=ndt h5
 refine g 11 16 [] ?_
 conv=>whnf
 refine ⟨⟨I,I⟩,?_⟩
 refine W.ret ?_
 refine EndsW.rt ?_
 conv=>whnf
 refine ⟨⟨I,I,I⟩,?_,rfl⟩
 rotate_left 1
 replace h5:=ndf h5
 refine W.skip ?_
 refine W.sq ?_
 by_cases h6:(1:Int) ≤ Message.kind m ∧ Message.kind m ≤ (4:Int)
 by_cases h7:(1:Int) ≤ Message.lease m ∧ Message.lease m ≤ (300000000:Int)
 by_cases h8:Message.kind m = (1:Int) ∨ Message.kind m = (3:Int)
 by_cases h9:(0:Int) ≤ Message.task m ∧ Message.task m ≤ (39:Int)
 refine g 11 87 [.b (true),.b (true),.b (true),.call (V.b (decide ((1:Int) ≤ Message.lease m ∧ Message.lease m ≤ (300000000:Int)))) ([[]]),.b (true),.b (true),.b (false),.b (false),.b (false),.b (false),.b (false),.b (false),.b (false),.b (false),.b (false),.b (false),.b (false),.b (true),.b (true),.b (true),.call (V.b (decide ((0:Int) ≤ Message.task m ∧ Message.task m ≤ (39:Int)))) ([[],[],[]]),.b (true),.b (false),.b (true),.b (false),.b (false),.b (false),.b (false),.b (false),.b (false),.b (false),.b (false),.b (false),.b (false)] ?_
 conv=>whnf
 refine ⟨⟨I,I,⟨dT (by omega),I⟩,⟨dT (by omega),I⟩,⟨dT (by omega),⟨I,I⟩,I,⟨⟨I,I⟩,I⟩,⟨I,I⟩,Go.K.c_spec_l2LeaseOk _⟩,⟨dT (by omega),I⟩,dT (by omega),I,⟨notF (by omega),I⟩,⟨notF (by omega),I⟩,⟨notF (by omega),I⟩,notF (by omega),notF (by omega),notF (by omega),⟨notF (by omega),notF (by omega)⟩,notF (by omega),I,⟨rfl,I⟩,⟨rfl,I⟩,⟨dT (by omega),I⟩,⟨dT (by omega),I⟩,⟨dT (by omega),⟨I,I,I,I⟩,I,⟨⟨I,I⟩,⟨I,I⟩,⟨I,I⟩,I⟩,⟨I,I⟩,Go.K.c_spec_l2In _ _ _⟩,⟨dT (by omega),I⟩,⟨rfl,dT (by omega)⟩,rfl,I,⟨notF (by omega),I⟩,⟨notF (by omega),I⟩,⟨notF (by omega),I⟩,notF (by omega),notF (by omega),notF (by omega),⟨notF (by omega),notF (by omega)⟩,notF (by omega),I⟩,?_⟩
 refine W.cn ?_
 conv=>whnf
 refine ⟨noT (rfl),fun _=>?_⟩
 refine W.skip ?_
 refine W.sq ?_
 by_cases h10:(↑(ByteArray.size (Message.text m)):Int) = (8:Int)
 refine g 10 103 [.b (true),.b (true),.b (true),.b (true),.b (true),.b (false),.b (false),.b (false),.b (false),.b (false),.b (false),.b (false),.b (false),.b (false)] ?_
 conv=>whnf
 refine ⟨⟨I,I,⟨dT (by omega),I⟩,⟨dT (by omega),I⟩,⟨dT (by omega),I⟩,⟨dT (by omega),I⟩,dT (by omega),I,⟨notF (by omega),I⟩,⟨notF (by omega),I⟩,⟨notF (by omega),I⟩,notF (by omega),notF (by omega),notF (by omega),⟨notF (by omega),notF (by omega)⟩,notF (by omega),I⟩,?_⟩
 refine W.cn ?_
 conv=>whnf
 refine ⟨noT (rfl),fun _=>?_⟩
 refine W.skip ?_
 refine g 5 120 [.b (false),.b (false),.b (false),.b (false),.b (false),.b (false),.b (false),.b (true),.b (true),.b (true),.b (true),.b (false),.b (true),.b (false)] ?_
 conv=>whnf
 refine ⟨⟨I,I,dF (by omega),dF (by omega),dF (by omega),dF (by omega),I,⟨rfl,I⟩,⟨rfl,I⟩,⟨rfl,I⟩,⟨notT (by omega),I⟩,⟨notT (by omega),I⟩,⟨notT (by omega),I⟩,⟨notT (by omega),I⟩,⟨rfl,notT (by omega)⟩,rfl,I,I⟩,?_⟩
 refine W.ret ?_
 refine EndsW.rt ?_
 conv=>whnf
 refine ⟨⟨I,I,I⟩,?_,rfl⟩
 rotate_left 1
 refine g 10 103 [.b (true),.b (true),.b (true),.b (true),.b (true),.b (true),.b (true),.b (true),.b (false),.b (false),.b (false),.b (true),.b (true)] ?_
 conv=>whnf
 refine ⟨⟨I,I,⟨dT (by omega),I⟩,⟨dT (by omega),I⟩,⟨dT (by omega),I⟩,⟨dT (by omega),I⟩,dT (by omega),I,notT (by omega),notT (by omega),notT (by omega),I,I,I,notT (by omega),notT (by omega),I⟩,?_⟩
 refine W.cn ?_
 conv=>whnf
 refine ⟨fun _=>?_,noF (rfl)⟩
 refine g 7 9 [] ?_
 conv=>whnf
 refine ⟨⟨I,I⟩,?_⟩
 refine W.ret ?_
 refine EndsW.rt ?_
 conv=>whnf
 refine ⟨⟨I,I,I⟩,?_,rfl⟩
 rotate_left 1
 refine g 11 87 [.b (true),.b (true),.b (true),.call (V.b (decide ((1:Int) ≤ Message.lease m ∧ Message.lease m ≤ (300000000:Int)))) ([[]]),.b (true),.b (true),.b (false),.b (false),.b (false),.b (false),.b (false),.b (false),.b (false),.b (false),.b (false),.b (false),.b (false),.b (true),.b (true),.b (true),.call (V.b (decide ((0:Int) ≤ Message.task m ∧ Message.task m ≤ (39:Int)))) ([[],[],[]]),.b (true),.b (false),.b (true),.b (false),.b (true),.b (true),.b (true),.b (false),.b (false),.b (false),.b (true),.b (true)] ?_
 conv=>whnf
 refine ⟨⟨I,I,⟨dT (by omega),I⟩,⟨dT (by omega),I⟩,⟨dT (by omega),⟨I,I⟩,I,⟨⟨I,I⟩,I⟩,⟨I,I⟩,Go.K.c_spec_l2LeaseOk _⟩,⟨dT (by omega),I⟩,dT (by omega),I,⟨notF (by omega),I⟩,⟨notF (by omega),I⟩,⟨notF (by omega),I⟩,notF (by omega),notF (by omega),notF (by omega),⟨notF (by omega),notF (by omega)⟩,notF (by omega),I,⟨rfl,I⟩,⟨rfl,I⟩,⟨dT (by omega),I⟩,⟨dT (by omega),I⟩,⟨dT (by omega),⟨I,I,I,I⟩,I,⟨⟨I,I⟩,⟨I,I⟩,⟨I,I⟩,I⟩,⟨I,I⟩,Go.K.c_spec_l2In _ _ _⟩,⟨dT (by omega),I⟩,⟨rfl,dT (by omega)⟩,rfl,I,notT (by omega),notT (by omega),notT (by omega),I,I,I,notT (by omega),notT (by omega),I⟩,?_⟩
 refine W.cn ?_
 conv=>whnf
 refine ⟨fun _=>?_,noF (rfl)⟩
 refine g 3 4 [] ?_
 conv=>whnf
 refine ⟨⟨I,I⟩,?_⟩
 refine W.ret ?_
 refine EndsW.rt ?_
 conv=>whnf
 refine ⟨⟨I,I,I⟩,?_,rfl⟩
 rotate_left 1
 refine g 11 87 [.b (true),.b (true),.b (true),.call (V.b (decide ((1:Int) ≤ Message.lease m ∧ Message.lease m ≤ (300000000:Int)))) ([[]]),.b (true),.b (true),.b (false),.b (false),.b (false),.b (false),.b (false),.b (false),.b (false),.b (false),.b (false),.b (false),.b (false),.b (false),.b (false),.b (false),.b (false),.b (false),.b (false),.b (false),.b (false),.b (false),.b (false),.b (true),.b (true),.b (true),.b (false),.b (true),.b (false)] ?_
 conv=>whnf
 refine ⟨⟨I,I,⟨dT (by omega),I⟩,⟨dT (by omega),I⟩,⟨dT (by omega),⟨I,I⟩,I,⟨⟨I,I⟩,I⟩,⟨I,I⟩,Go.K.c_spec_l2LeaseOk _⟩,⟨dT (by omega),I⟩,dT (by omega),I,⟨notF (by omega),I⟩,⟨notF (by omega),I⟩,⟨notF (by omega),I⟩,notF (by omega),notF (by omega),notF (by omega),⟨notF (by omega),notF (by omega)⟩,notF (by omega),I,⟨rfl,I⟩,⟨rfl,I⟩,dF (by omega),dF (by omega),dF (by omega),dF (by omega),⟨rfl,dF (by omega)⟩,rfl,I,⟨rfl,I⟩,⟨rfl,I⟩,⟨rfl,I⟩,⟨notT (by omega),I⟩,⟨notT (by omega),I⟩,⟨notT (by omega),I⟩,⟨rfl,notT (by omega)⟩,rfl,I⟩,?_⟩
 refine W.cn ?_
 conv=>whnf
 refine ⟨fun h9=>?_,fun h9=>?_⟩
 replace h9:=ndt h9
 refine g 3 4 [] ?_
 conv=>whnf
 refine ⟨⟨I,I⟩,?_⟩
 refine W.ret ?_
 refine EndsW.rt ?_
 conv=>whnf
 refine ⟨⟨I,I,I⟩,?_,rfl⟩
 rotate_left 1
 replace h9:=ndf h9
 refine W.skip ?_
 refine W.sq ?_
 refine g 10 103 [.b (false),.b (false),.b (false),.b (false),.b (false),.b (false),.b (false),.b (false),.b (true),.b (true),.b (true),.b (false),.b (true),.b (false)] ?_
 conv=>whnf
 refine ⟨⟨I,I,dF (by omega),dF (by omega),dF (by omega),dF (by omega),dF (by omega),I,⟨rfl,I⟩,⟨rfl,I⟩,⟨rfl,I⟩,⟨notT (by omega),I⟩,⟨notT (by omega),I⟩,⟨notT (by omega),I⟩,⟨rfl,notT (by omega)⟩,rfl,I⟩,?_⟩
 refine W.cn ?_
 conv=>whnf
 refine ⟨fun h10=>?_,fun h10=>?_⟩
 replace h10:=ndt h10
 refine g 7 9 [] ?_
 conv=>whnf
 refine ⟨⟨I,I⟩,?_⟩
 refine W.ret ?_
 refine EndsW.rt ?_
 conv=>whnf
 refine ⟨⟨I,I,I⟩,?_,rfl⟩
 rotate_left 1
 replace h10:=ndf h10
 refine W.skip ?_
 refine g 5 120 [.b (false),.b (false),.b (false),.b (false),.b (false),.b (false),.b (false),.b (true),.b (true),.b (true),.b (true),.b (false),.b (true),.b (false)] ?_
 conv=>whnf
 refine ⟨⟨I,I,dF (by omega),dF (by omega),dF (by omega),dF (by omega),I,⟨rfl,I⟩,⟨rfl,I⟩,⟨rfl,I⟩,⟨notT (by omega),I⟩,⟨notT (by omega),I⟩,⟨notT (by omega),I⟩,⟨notT (by omega),I⟩,⟨rfl,notT (by omega)⟩,rfl,I,I⟩,?_⟩
 refine W.ret ?_
 refine EndsW.rt ?_
 conv=>whnf
 refine ⟨⟨I,I,I⟩,?_,rfl⟩
 rotate_left 1
 refine g 11 87 [.b (true),.b (true),.b (true),.call (V.b (decide ((1:Int) ≤ Message.lease m ∧ Message.lease m ≤ (300000000:Int)))) ([[]]),.b (true),.b (true),.b (true),.b (true),.b (true),.b (false),.b (false),.b (false),.b (true),.b (true),.b (true),.b (true),.b (false),.b (false),.b (false),.b (false),.b (true),.b (true),.b (true),.b (true),.b (true),.b (false),.b (false),.b (false),.b (true),.b (true)] ?_
 conv=>whnf
 refine ⟨⟨I,I,⟨dT (by omega),I⟩,⟨dT (by omega),I⟩,⟨dT (by omega),⟨I,I⟩,I,⟨⟨I,I⟩,I⟩,⟨I,I⟩,Go.K.c_spec_l2LeaseOk _⟩,⟨dT (by omega),I⟩,dT (by omega),I,notT (by omega),notT (by omega),notT (by omega),I,I,I,notT (by omega),notT (by omega),I,rfl,rfl,I,I,I,I,rfl,rfl,I,rfl,rfl,rfl,I,I,I,rfl,rfl,I⟩,?_⟩
 refine W.cn ?_
 conv=>whnf
 refine ⟨fun _=>?_,noF (rfl)⟩
 refine g 3 4 [] ?_
 conv=>whnf
 refine ⟨⟨I,I⟩,?_⟩
 refine W.ret ?_
 refine EndsW.rt ?_
 conv=>whnf
 refine ⟨⟨I,I,I⟩,?_,rfl⟩
 rotate_left 1
 by_cases h7:Message.lease m = (0:Int)
 refine g 11 87 [.b (false),.b (false),.b (false),.b (false),.b (false),.b (false),.b (false),.b (false),.b (true),.b (true),.b (true),.b (false),.b (true),.b (false),.b (false),.b (false),.b (false),.b (false),.b (false),.b (false),.b (false),.b (false),.b (false),.b (false),.b (false),.b (false),.b (true),.b (true),.b (true),.b (false),.b (true),.b (false)] ?_
 conv=>whnf
 refine ⟨⟨I,I,dF (by omega),dF (by omega),dF (by omega),dF (by omega),dF (by omega),I,⟨rfl,I⟩,⟨rfl,I⟩,⟨rfl,I⟩,⟨notT (by omega),I⟩,⟨notT (by omega),I⟩,⟨notT (by omega),I⟩,⟨rfl,notT (by omega)⟩,rfl,I,⟨notF (by omega),I⟩,⟨notF (by omega),I⟩,dF (by omega),dF (by omega),dF (by omega),dF (by omega),⟨notF (by omega),dF (by omega)⟩,notF (by omega),I,⟨rfl,I⟩,⟨rfl,I⟩,⟨rfl,I⟩,⟨notT (by omega),I⟩,⟨notT (by omega),I⟩,⟨notT (by omega),I⟩,⟨rfl,notT (by omega)⟩,rfl,I⟩,?_⟩
 refine W.cn ?_
 conv=>whnf
 refine ⟨fun h8=>?_,fun h8=>?_⟩
 replace h8:=ndt h8
 refine g 3 4 [] ?_
 conv=>whnf
 refine ⟨⟨I,I⟩,?_⟩
 refine W.ret ?_
 refine EndsW.rt ?_
 conv=>whnf
 refine ⟨⟨I,I,I⟩,?_,rfl⟩
 rotate_left 1
 replace h8:=ndf h8
 refine W.skip ?_
 refine W.sq ?_
 refine g 10 103 [.b (false),.b (false),.b (false),.b (false),.b (false),.b (false),.b (false),.b (false),.b (true),.b (true),.b (true),.b (false),.b (true),.b (false)] ?_
 conv=>whnf
 refine ⟨⟨I,I,dF (by omega),dF (by omega),dF (by omega),dF (by omega),dF (by omega),I,⟨rfl,I⟩,⟨rfl,I⟩,⟨rfl,I⟩,⟨notT (by omega),I⟩,⟨notT (by omega),I⟩,⟨notT (by omega),I⟩,⟨rfl,notT (by omega)⟩,rfl,I⟩,?_⟩
 refine W.cn ?_
 conv=>whnf
 refine ⟨fun h9=>?_,fun h9=>?_⟩
 replace h9:=ndt h9
 refine g 7 9 [] ?_
 conv=>whnf
 refine ⟨⟨I,I⟩,?_⟩
 refine W.ret ?_
 refine EndsW.rt ?_
 conv=>whnf
 refine ⟨⟨I,I,I⟩,?_,rfl⟩
 rotate_left 1
 replace h9:=ndf h9
 refine W.skip ?_
 refine g 5 120 [.b (false),.b (false),.b (false),.b (false),.b (false),.b (false),.b (false),.b (true),.b (true),.b (true),.b (true),.b (false),.b (true),.b (false)] ?_
 conv=>whnf
 refine ⟨⟨I,I,dF (by omega),dF (by omega),dF (by omega),dF (by omega),I,⟨rfl,I⟩,⟨rfl,I⟩,⟨rfl,I⟩,⟨notT (by omega),I⟩,⟨notT (by omega),I⟩,⟨notT (by omega),I⟩,⟨notT (by omega),I⟩,⟨rfl,notT (by omega)⟩,rfl,I,I⟩,?_⟩
 refine W.ret ?_
 refine EndsW.rt ?_
 conv=>whnf
 refine ⟨⟨I,I,I⟩,?_,rfl⟩
 rotate_left 1
 refine g 11 87 [.b (false),.b (false),.b (false),.b (false),.b (false),.b (false),.b (false),.b (false),.b (true),.b (true),.b (true),.b (false),.b (true),.b (false),.b (true),.b (true),.b (false),.b (false),.b (false),.b (false),.b (true),.b (true),.b (true),.b (true),.b (true),.b (false),.b (false),.b (false),.b (true),.b (true)] ?_
 conv=>whnf
 refine ⟨⟨I,I,dF (by omega),dF (by omega),dF (by omega),dF (by omega),dF (by omega),I,⟨rfl,I⟩,⟨rfl,I⟩,⟨rfl,I⟩,⟨notT (by omega),I⟩,⟨notT (by omega),I⟩,⟨notT (by omega),I⟩,⟨rfl,notT (by omega)⟩,rfl,I,notT (by omega),notT (by omega),I,I,I,I,notT (by omega),notT (by omega),I,rfl,rfl,rfl,I,I,I,rfl,rfl,I⟩,?_⟩
 refine W.cn ?_
 conv=>whnf
 refine ⟨fun _=>?_,noF (rfl)⟩
 refine g 3 4 [] ?_
 conv=>whnf
 refine ⟨⟨I,I⟩,?_⟩
 refine W.ret ?_
 refine EndsW.rt ?_
 conv=>whnf
 refine ⟨⟨I,I,I⟩,?_,rfl⟩
 rotate_left 1
 refine g 29 53 [.b (false),.b (false),.b (false),.b (false),.b (false),.b (false),.b (false),.b (false),.b (false),.b (false),.b (false),.b (false),.b (false),.b (true),.b (true),.b (true),.b (true),.b (true),.b (true),.b (true),.b (true),.b (true),.b (true),.b (false),.b (true),.b (false)] ?_
 conv=>whnf
 refine ⟨⟨I,I,dF (by omega),dF (by omega),dF (by omega),dF (by omega),I,I,I,I,dF (by omega),dF (by omega),I,⟨rfl,I⟩,⟨rfl,I⟩,⟨rfl,I⟩,⟨notT (by omega),I⟩,⟨notT (by omega),I⟩,⟨notT (by omega),I⟩,⟨notT (by omega),I⟩,notT (by omega),notT (by omega),notT (by omega),notT (by omega),⟨notT (by omega),notT (by omega)⟩,⟨rfl,notT (by omega)⟩,rfl,I⟩,?_⟩
 refine W.cn ?_
 conv=>whnf
 refine ⟨fun _=>?_,noF (rfl)⟩
 refine g 11 16 [] ?_
 conv=>whnf
 refine ⟨⟨I,I⟩,?_⟩
 refine W.ret ?_
 refine EndsW.rt ?_
 conv=>whnf
 refine ⟨⟨I,I,I⟩,?_,rfl⟩
 rotate_left 1
 refine g 13 15 [.call (V.b (decide ((1:Int) ≤ Message.kind m ∧ Message.kind m ≤ (5:Int)))) ([[],[],[]]),.b (true),.b (true),.b (true),.b (true),.b (true)] ?_
 conv=>whnf
 refine ⟨⟨I,I,⟨⟨I,I,I,I⟩,I,⟨⟨I,I⟩,⟨I,I⟩,⟨I,I⟩,I⟩,⟨I,I⟩,Go.K.c_spec_l2In _ _ _⟩,I,I,notT (by omega),notT (by omega),notT (by omega),notT (by omega),notT (by omega),I⟩,?_⟩
 refine W.cn ?_
 conv=>whnf
 refine ⟨fun _=>?_,noF (rfl)⟩
 refine g 8 9 [] ?_
 conv=>whnf
 refine ⟨⟨I,I⟩,?_⟩
 refine W.ret ?_
 refine EndsW.rt ?_
 conv=>whnf
 refine ⟨⟨I,I,I⟩,?_,rfl⟩
 rotate_left 1
 all_goals (try simp only [List.length_map,decide_eq_true_eq,Bool.not_eq_true,Bool.not_eq_true',decide_eq_false_iff_not] at *)
 all_goals first
  | exact vbf (by unfold msgOk; grind)
  | exact vbt (by unfold msgOk; grind)
  | exact vbd (by unfold msgOk; grind)
end Go.K
end
section
set_option linter.unusedVariables false
set_option linter.unusedSimpArgs false
set_option maxHeartbeats 4000000
set_option maxRecDepth 20000
open Go Go.Tm Go.Proofs
namespace Go.K
attribute [local irreducible] ByteArray.extract
end Go.K
end
section
set_option linter.unusedVariables false
set_option linter.unusedSimpArgs false
set_option maxHeartbeats 4000000
set_option maxRecDepth 20000
open Go Go.Tm Go.Proofs
namespace Go.K
attribute [local irreducible] ByteArray.extract
end Go.K
end
section
set_option linter.unusedVariables false
set_option linter.unusedSimpArgs false
set_option maxHeartbeats 4000000
set_option maxRecDepth 20000
open Go Go.Tm Go.Proofs
namespace Go.K
attribute [local irreducible] ByteArray.extract
end Go.K
end
section
set_option linter.unusedVariables false
set_option linter.unusedSimpArgs false
set_option maxHeartbeats 4000000
set_option maxRecDepth 20000
open Go Go.Tm Go.Proofs
namespace Go.K
theorem c_laws_szMessage (x:Message) (left:Int) (hw:messageWf x) (h:left ≤ 1048576) (h0:0 ≤ left):F n_laws_szMessage [.val (messageR x),.val (.i left)] (.i (if left - messageSz x < 0 then -1 else left - messageSz x)) [[],[]]:=by
 have hn0:=totS_nn x.inputs
 obtain ⟨hw0,hw1,hw2⟩:=hw
 have hz:messageSz x = (x.text.size:Int) + ((x.inputs.length:Int) + totS x.inputs):=rfl
 refine i_laws_szMessage ?_
 conv=>whnf
 refine g 0 1 [] ?_
 conv=>whnf
 refine ⟨⟨⟨I,I,I,I,I,I,I,I,I⟩,I,I⟩,?_⟩
 refine g 5 10 [.i (left - (↑(ByteArray.size (Message.text x)):Int))] ?_
 conv=>whnf
 refine ⟨⟨I,I,I,I,w64 (by omega) (by omega),I,I⟩,?_⟩
 refine W.sq ?_
 refine g 10 11 [] ?_
 conv=>whnf
 refine ⟨⟨I,I,I⟩,?_⟩
 refine W.cn ?_
 conv=>whnf
 refine ⟨fun h1=>?_,fun h1=>?_⟩
 replace h1:=dt h1
 refine g 11 12 [] ?_
 conv=>whnf
 refine ⟨⟨I,I⟩,?_⟩
 refine W.ret ?_
 refine EndsW.rt ?_
 conv=>whnf
 refine ⟨⟨I,I,I⟩,?_,rfl⟩
 exact vi (by omega)
 replace h1:=df h1
 refine W.skip ?_
 refine g 11 16 [.call (V.i (if left - (↑(ByteArray.size (Message.text x)):Int) - (↑(List.length (Message.inputs x)):Int) - totS (Message.inputs x) < (0:Int) then (-1:Int) else left - (↑(ByteArray.size (Message.text x)):Int) - (↑(List.length (Message.inputs x)):Int) - totS (Message.inputs x))) ([[],[]])] ?_
 conv=>whnf
 refine ⟨⟨I,I,I,⟨⟨I,I,I⟩,I,⟨⟨I,I⟩,⟨I,I⟩,I⟩,⟨I,I⟩,Go.K.c_laws_szStringS _ _ (by omega) (by omega) (by omega) (by omega)⟩,I,I⟩,?_⟩
 refine W.sq ?_
 refine g 2 3 [] ?_
 conv=>whnf
 refine ⟨⟨I,I,I⟩,?_⟩
 refine W.cn ?_
 conv=>whnf
 refine ⟨fun h2=>?_,fun h2=>?_⟩
 replace h2:=dt h2
 refine g 16 18 [] ?_
 conv=>whnf
 refine ⟨⟨I,I⟩,?_⟩
 refine W.ret ?_
 refine EndsW.rt ?_
 conv=>whnf
 refine ⟨⟨I,I,I⟩,?_,rfl⟩
 exact vi (by omega)
 replace h2:=df h2
 refine W.skip ?_
 refine g 16 19 [] ?_
 conv=>whnf
 refine ⟨⟨I,I,I⟩,?_⟩
 refine W.ret ?_
 refine EndsW.rt ?_
 conv=>whnf
 refine ⟨⟨I,I,I⟩,?_,rfl⟩
 exact vi (by omega)
theorem c_laws_toMessage (x:Message) (h:messageSz x ≤ 1048576):F n_laws_toMessage [.val (messageR x)] (messageO x) [[]]:=by
 have hn0:=totS_nn x.inputs
 have hz:messageSz x = (x.text.size:Int) + ((x.inputs.length:Int) + totS x.inputs):=rfl
 refine i_laws_toMessage ?_
 conv=>whnf
 refine g 0 1 [] ?_
 conv=>whnf
 refine ⟨⟨⟨I,I,I,I,I,I,I,I,I⟩,I,I⟩,?_⟩
 refine g 0 0 [] ?_
 conv=>whnf
 refine ⟨⟨I,I⟩,?_⟩
 refine g 4 7 [] ?_
 conv=>whnf
 refine ⟨⟨I,I,I,⟨I,I⟩,I⟩,?_⟩
 refine g 7 10 [] ?_
 conv=>whnf
 refine ⟨⟨I,I,I,⟨I,I⟩,I⟩,?_⟩
 refine g 10 13 [] ?_
 conv=>whnf
 refine ⟨⟨I,I,I,⟨I,I⟩,I⟩,?_⟩
 refine g 13 16 [] ?_
 conv=>whnf
 refine ⟨⟨I,I,I,⟨I,I⟩,I⟩,?_⟩
 refine g 16 19 [] ?_
 conv=>whnf
 refine ⟨⟨I,I,I,⟨I,I⟩,I⟩,?_⟩
 refine g 19 22 [] ?_
 conv=>whnf
 refine ⟨⟨I,I,I,⟨I,I⟩,I⟩,?_⟩
 refine g 22 25 [] ?_
 conv=>whnf
 refine ⟨⟨I,I,I,⟨I,I⟩,I⟩,?_⟩
 refine g 25 27 [.call (V.own [false] (List.map strT (Message.inputs x))) ([[]])] ?_
 conv=>whnf
 refine ⟨⟨I,I,⟨⟨I,I⟩,I,⟨⟨I,I⟩,I⟩,⟨I,I⟩,Go.K.c_laws_toStringS _ (by omega)⟩,I,⟨I,I⟩,I⟩,?_⟩
 refine g 28 30 [] ?_
 conv=>whnf
 refine ⟨⟨I,⟨I,I,I,I,I,I,I,I,I⟩,I⟩,?_⟩
 refine W.ret ?_
 refine EndsW.rt ?_
 conv=>whnf
 refine ⟨⟨I,I,I,I,I,I,I,I,I,I⟩,?_,rfl⟩
 rfl
def messageLen (a:Message):Prop:=a.inputs.length ≤ 9223372036854775806
theorem messageLen_of {a:Message} (h:messageSz a ≤ 1048576):messageLen a:=by
 have:=totS_nn a.inputs
 simp only [messageSz] at h
 simp only [messageLen]
 exact by omega
theorem c_laws_eqMessage (a b:Message) (hl:messageLen a):F n_laws_eqMessage [.val (messageR a),.val (messageR b)] (.b (decide (a = b))) [[],[]]:=by
 obtain ⟨a_kind,a_frm,a_to,a_epoch,a_lease,a_task,a_text,a_inputs⟩:=a
 obtain ⟨b_kind,b_frm,b_to,b_epoch,b_lease,b_task,b_text,b_inputs⟩:=b
 simp only [messageLen] at hl
 refine i_laws_eqMessage ?_
 conv=>whnf
 refine g 0 2 [] ?_
 conv=>whnf
 refine ⟨⟨⟨I,I,I,I,I,I,I,I,I⟩,⟨I,I,I,I,I,I,I,I,I⟩,I,I⟩,?_⟩
 refine W.sq ?_
 refine g 5 9 [] ?_
 conv=>whnf
 refine ⟨⟨I,I,I,I,I,I⟩,?_⟩
 refine W.cn ?_
 conv=>whnf
 refine ⟨fun h1=>?_,fun h1=>?_⟩
 replace h1:=ndt h1
 refine g 9 10 [] ?_
 conv=>whnf
 refine ⟨⟨I,I⟩,?_⟩
 refine W.ret ?_
 refine EndsW.rt ?_
 conv=>whnf
 refine ⟨⟨I,I,I⟩,?_,rfl⟩
 rotate_left 1
 replace h1:=ndf h1
 refine W.skip ?_
 refine W.sq ?_
 refine g 9 14 [] ?_
 conv=>whnf
 refine ⟨⟨I,I,I,I,I,I⟩,?_⟩
 refine W.cn ?_
 conv=>whnf
 refine ⟨fun h2=>?_,fun h2=>?_⟩
 replace h2:=ndt h2
 refine g 14 15 [] ?_
 conv=>whnf
 refine ⟨⟨I,I⟩,?_⟩
 refine W.ret ?_
 refine EndsW.rt ?_
 conv=>whnf
 refine ⟨⟨I,I,I⟩,?_,rfl⟩
 rotate_left 1
 replace h2:=ndf h2
 refine W.skip ?_
 refine W.sq ?_
 refine g 14 19 [] ?_
 conv=>whnf
 refine ⟨⟨I,I,I,I,I,I⟩,?_⟩
 refine W.cn ?_
 conv=>whnf
 refine ⟨fun h3=>?_,fun h3=>?_⟩
 replace h3:=ndt h3
 refine g 19 20 [] ?_
 conv=>whnf
 refine ⟨⟨I,I⟩,?_⟩
 refine W.ret ?_
 refine EndsW.rt ?_
 conv=>whnf
 refine ⟨⟨I,I,I⟩,?_,rfl⟩
 rotate_left 1
 replace h3:=ndf h3
 refine W.skip ?_
 refine W.sq ?_
 refine g 19 24 [] ?_
 conv=>whnf
 refine ⟨⟨I,I,I,I,I,I⟩,?_⟩
 refine W.cn ?_
 conv=>whnf
 refine ⟨fun h4=>?_,fun h4=>?_⟩
 replace h4:=ndt h4
 refine g 24 25 [] ?_
 conv=>whnf
 refine ⟨⟨I,I⟩,?_⟩
 refine W.ret ?_
 refine EndsW.rt ?_
 conv=>whnf
 refine ⟨⟨I,I,I⟩,?_,rfl⟩
 rotate_left 1
 replace h4:=ndf h4
 refine W.skip ?_
 refine W.sq ?_
 refine g 24 29 [] ?_
 conv=>whnf
 refine ⟨⟨I,I,I,I,I,I⟩,?_⟩
 refine W.cn ?_
 conv=>whnf
 refine ⟨fun h5=>?_,fun h5=>?_⟩
 replace h5:=ndt h5
 refine g 29 30 [] ?_
 conv=>whnf
 refine ⟨⟨I,I⟩,?_⟩
 refine W.ret ?_
 refine EndsW.rt ?_
 conv=>whnf
 refine ⟨⟨I,I,I⟩,?_,rfl⟩
 rotate_left 1
 replace h5:=ndf h5
 refine W.skip ?_
 refine W.sq ?_
 refine g 29 34 [] ?_
 conv=>whnf
 refine ⟨⟨I,I,I,I,I,I⟩,?_⟩
 refine W.cn ?_
 conv=>whnf
 refine ⟨fun h6=>?_,fun h6=>?_⟩
 replace h6:=ndt h6
 refine g 34 35 [] ?_
 conv=>whnf
 refine ⟨⟨I,I⟩,?_⟩
 refine W.ret ?_
 refine EndsW.rt ?_
 conv=>whnf
 refine ⟨⟨I,I,I⟩,?_,rfl⟩
 rotate_left 1
 replace h6:=ndf h6
 refine W.skip ?_
 refine W.sq ?_
 refine g 34 39 [] ?_
 conv=>whnf
 refine ⟨⟨I,I,I,I,I,I⟩,?_⟩
 refine W.cn ?_
 conv=>whnf
 refine ⟨fun h7=>?_,fun h7=>?_⟩
 replace h7:=ndt h7
 refine g 39 40 [] ?_
 conv=>whnf
 refine ⟨⟨I,I⟩,?_⟩
 refine W.ret ?_
 refine EndsW.rt ?_
 conv=>whnf
 refine ⟨⟨I,I,I⟩,?_,rfl⟩
 rotate_left 1
 replace h7:=ndf h7
 refine W.skip ?_
 refine W.sq ?_
 refine g 39 45 [.call (V.b (decide (a_inputs = b_inputs))) ([[],[]])] ?_
 conv=>whnf
 refine ⟨⟨I,I,I,I,⟨⟨I,I,I⟩,I,⟨⟨I,I⟩,⟨I,I⟩,I⟩,⟨I,I⟩,Go.K.c_laws_eqStringS _ _ (by omega)⟩,I,I⟩,?_⟩
 refine W.cn ?_
 conv=>whnf
 refine ⟨fun h8=>?_,fun h8=>?_⟩
 replace h8:=ndt h8
 refine g 2 4 [] ?_
 conv=>whnf
 refine ⟨⟨I,I⟩,?_⟩
 refine W.ret ?_
 refine EndsW.rt ?_
 conv=>whnf
 refine ⟨⟨I,I,I⟩,?_,rfl⟩
 rotate_left 1
 replace h8:=ndf h8
 refine W.skip ?_
 refine g 2 4 [] ?_
 conv=>whnf
 refine ⟨⟨I,I⟩,?_⟩
 refine W.ret ?_
 refine EndsW.rt ?_
 conv=>whnf
 refine ⟨⟨I,I,I⟩,?_,rfl⟩
 rotate_left 1
 all_goals (first | exact vbt (by simp_all; done) | exact vbf (by simp_all; done))
def messageTop (k:Int) (x:Message):Message:=⟨x.kind,x.frm,x.to,x.epoch,x.lease,x.task,x.text,mkL (fun k _=>markT k) (fun _=>1) (k) x.inputs⟩
def messageTopC (x:Message):Int:=x.inputs.length
theorem c_laws_markMessage (x:Message) (k:Int) (hl:x.inputs.length ≤ 9223372036854775806) (h0:0 ≤ k) (hk:k + messageTopC x ≤ 1099511627776):F n_laws_markMessage [.bor (messageO x),.val (.i k)] (.i (k + messageTopC x)) [cellsOf (messageO (messageTop k x)),[]]:=by
 have hz:messageTopC x = _:=rfl
 simp only [messageTopC] at hz
 refine i_laws_markMessage ?_
 conv=>whnf
 refine g 0 1 [] ?_
 conv=>whnf
 refine ⟨⟨⟨I,I,I,I,I,I,I,I⟩,I,I⟩,?_⟩
 refine g 5 9 [.call (V.i (k + (↑(List.length (Message.inputs x)):Int))) ([[V.own [false] (List.map strT (mkL (fun k x=>markT k) (fun x=>(1:Int)) k (Message.inputs x)))],[]])] ?_
 conv=>whnf
 refine ⟨⟨I,I,I,⟨⟨⟨I,I⟩,I,I⟩,I,⟨I,⟨I,I⟩,I⟩,⟨I,I⟩,Go.K.c_laws_markStringS _ _ (by assumption) (by assumption) (by assumption)⟩,I,I⟩,?_⟩
 refine g 1 3 [] ?_
 conv=>whnf
 refine ⟨⟨I,I,I⟩,?_⟩
 refine W.ret ?_
 refine EndsW.rt ?_
 conv=>whnf
 refine ⟨⟨I,I,I⟩,?_,rfl⟩
 rfl
theorem wf_Message {n:Nat} {x:List T} (h:wfT E (n + 3) ty_laws_Message x):∃ v:Message,x = messageT v ∧ messageWf v:=by
 obtain ⟨y0,z0,e0,⟨kind,rfl,_,_⟩,y1,z1,e1,⟨frm,rfl,_,_⟩,y2,z2,e2,⟨to,rfl,_,_⟩,y3,z3,e3,⟨epoch,rfl,_,_⟩,y4,z4,e4,⟨lease,rfl,_,_⟩,y5,z5,e5,⟨task,rfl,_,_⟩,y6,z6,e6,⟨text,rfl,htext⟩,y7,z7,e7,⟨linputs,rfl,hinputs,ginputs⟩,e8⟩:=h
 subst e8
 subst e7
 subst e6
 subst e5
 subst e4
 subst e3
 subst e2
 subst e1
 obtain ⟨inputs,rfl,winputs⟩:=wf_strs ginputs
 subst e0
 exact ⟨⟨kind,frm,to,epoch,lease,task,text,inputs⟩,rfl,⟨htext,by rw [List.length_map] at hinputs; exact hinputs,winputs⟩⟩
end Go.K
end
section
set_option linter.unusedVariables false
set_option linter.unusedSimpArgs false
set_option maxHeartbeats 4000000
set_option maxRecDepth 20000
open Go Go.Tm Go.Proofs
namespace Go.K
def messageC (x:Message):Int:=7 + (x.inputs.length:Int)
theorem messageC_eq (x:Message):messageC x = 7 + (x.inputs.length:Int):=rfl
theorem messageC_nn (x:Message):0 ≤ messageC x:=by
 simp only [messageC]; omega
def messageMk (k:Int) (x:Message):Message:=⟨k,k + 1,k + 1 + 1,k + 1 + 1 + 1,k + 1 + 1 + 1 + 1,k + 1 + 1 + 1 + 1 + 1,markT (k + 1 + 1 + 1 + 1 + 1 + 1),mkL (fun k _=>markT k) (fun _=>1) (k + 1 + 1 + 1 + 1 + 1 + 1 + 1) x.inputs⟩
theorem c_laws_eqMessageS (xs ys:List Message) (hl:xs.length ≤ 9223372036854775806) (hs:∀ y ∈ xs,messageLen y):F n_laws_eqMessageS [.val (.t (.slc messageK (xs.map messageT))),.val (.t (.slc messageK (ys.map messageT)))] (.b (decide (xs = ys))) [[],[]]:=by
 refine i_laws_eqMessageS ?_
 conv=>whnf
 refine g 0 0 [] ?_
 conv=>whnf
 refine ⟨⟨I,I⟩,?_⟩
 refine W.sq ?_
 refine g 6 10 [] ?_
 conv=>whnf
 refine ⟨⟨I,I,I,I,I,I⟩,?_⟩
 refine W.cn ?_
 conv=>whnf
 refine ⟨fun h1=>?_,fun h1=>?_⟩
 replace h1:=ndt h1
 simp only [List.length_map] at h1
 refine g 10 11 [] ?_
 conv=>whnf
 refine ⟨⟨I,I⟩,?_⟩
 refine W.ret ?_
 refine EndsW.rt ?_
 conv=>whnf
 refine ⟨⟨I,I,I⟩,?_,rfl⟩
 rotate_left 1
 replace h1:=ndf h1
 simp only [List.length_map] at h1
 refine W.skip ?_
 refine W.sq ?_
 refine g 10 11 [] ?_
 conv=>whnf
 refine ⟨⟨I,I⟩,?_⟩
 refine W.blk ?_
 rotate_left 1
 ·exact vbf (fun e=>h1 (by rw [e]))
 refine W.lp (fun s (n:Nat)=>⟨[(0,s.s 0),(1,s.s 1),(5,.i n)],[],[]⟩) (fun (n:Nat)=>n ≤ xs.length ∧ xs.take n = ys.take n) (fun (n:Nat)=>xs.length - n) (0) [] [] ⟨rfl,⟨rfl,rfl,rfl,I⟩,I,I⟩ (by simp) ?_
 rintro n ⟨hn,hc⟩
 conv=>whnf
 refine W.sq ?_
 refine g 11 14 [] ?_
 conv=>whnf
 refine ⟨⟨I,I,I,I,I⟩,?_⟩
 refine W.cn ?_
 conv=>whnf
 refine ⟨fun h2=>?_,fun h2=>?_⟩
 replace h2:=dt h2
 simp only [List.length_map] at h2
 refine W.skip ?_
 refine W.sq ?_
 refine W.blk ?_
 obtain ⟨y1,hy1⟩:=some_at (xs:=xs) (n:=n) (by omega)
 have hm1:=hs y1 (List.mem_of_getElem? hy1)
 obtain ⟨y2,hy2⟩:=some_at (xs:=ys) (n:=n) (by omega)
 refine gd 14 26 [[],[],[.x (messageT y1)],[],[],[],[.x (messageT y2)],[],[.call (V.b (decide (y1 = y2))) ([[],[]])],[]] ?_
 conv=>whnf
 refine ⟨⟨I,I,⟨(by omega),ixl (by assumption)⟩,I,I,I,⟨(by omega),ixl (by assumption)⟩,I,⟨⟨I,I,I⟩,I,⟨⟨I,I,I,I,I,I,I,I,I⟩,⟨I,I,I,I,I,I,I,I,I⟩,I⟩,⟨I,I⟩,Go.K.c_laws_eqMessage _ _ (by omega)⟩,I,I⟩,by kernel_rfl,?_⟩
 refine W.cn ?_
 conv=>whnf
 refine ⟨fun h3=>?_,fun h3=>?_⟩
 replace h3:=ndt h3
 refine g 26 27 [] ?_
 conv=>whnf
 refine ⟨⟨I,I⟩,?_⟩
 refine W.ret ?_
 refine EndsW.rt ?_
 conv=>whnf
 refine ⟨⟨I,I,I⟩,?_,rfl⟩
 rotate_left 1
 replace h3:=ndf h3
 refine W.skip ?_
 refine rg [.i ((↑n:Int) + (1:Int))] ?_
 conv=>whnf
 refine ⟨⟨I,w64 (by omega) (by omega),I,I⟩,?_⟩
 rotate_left 1
 replace h2:=df h2
 simp only [List.length_map] at h2
 refine W.exit ?_
 refine g 0 2 [] ?_
 conv=>whnf
 refine ⟨⟨I,I⟩,?_⟩
 refine W.ret ?_
 refine EndsW.rt ?_
 conv=>whnf
 refine ⟨⟨I,I,I⟩,?_,rfl⟩
 rotate_left 1
 ·exact vbf (fun e=>by subst e; rw [hy1] at hy2; cases hy2; exact h3 rfl)
 ·refine ⟨n + 1,[],[],⟨rfl,⟨rfl,rfl,rfl,I⟩,I,I⟩,?_,?_⟩
  rotate_left 1
  (dsimp only; omega)
  dsimp only
  exact ⟨by omega,take_eq hc hy1 (by rw [hy2]; exact congrArg some (Eq.symm h3))⟩
 ·exact vbt (by rw [take_all (by omega),take_all (by omega)] at hc; exact hc)
theorem c_laws_markMessageS (xs:List Message) (k:Int) (hl:xs.length ≤ 9223372036854775806) (h0:0 ≤ k) (hk:k + sumI messageC xs ≤ 1099511627776):F n_laws_markMessageS [.bor (.own messageK (xs.map messageT)),.val (.i k)] (.i (k + sumI messageC xs)) [[.own messageK ((mkL messageMk messageC k xs).map messageT)],[]]:=by
 refine i_laws_markMessageS ?_
 conv=>whnf
 refine g 0 0 [] ?_
 conv=>whnf
 refine ⟨⟨I,I⟩,?_⟩
 refine W.sq ?_
 refine g 0 0 [] ?_
 conv=>whnf
 refine ⟨⟨I,I⟩,?_⟩
 refine W.blk ?_
 refine W.lp (fun s (n:Nat)=>⟨[(0,s.s 0),(1,.i (k + sumI messageC (xs.take n))),(4,s.s 4),(5,.i n)],[(70,[.own messageK ((mkN messageMk messageC k xs n).map messageT)])],[]⟩) (fun (n:Nat)=>n ≤ xs.length) (fun (n:Nat)=>xs.length - n) (0) [some 70] [] ⟨rfl,⟨rfl,(congrArg (fun z=>V.t (T.v (Value.int _ z))) (by simp [sumI])),rfl,rfl,I⟩,⟨⟨rfl,⟨rfl,I⟩⟩,I⟩,I⟩ (by omega) ?_
 intro n hn
 have hx:=mkN_len messageMk messageC k xs n
 have hq:=sum_nn messageC_nn (xs.take n)
 have hle:=sum_le messageC_nn xs (n + 1)
 have hle0:=sum_le messageC_nn xs n
 conv=>whnf
 refine W.sq ?_
 refine g 6 9 [] ?_
 conv=>whnf
 refine ⟨⟨I,I,I,I,I⟩,?_⟩
 refine W.cn ?_
 conv=>whnf
 refine ⟨fun h1=>?_,fun h1=>?_⟩
 replace h1:=dt h1
 simp only [List.length_map] at h1
 refine W.skip ?_
 refine W.sq ?_
 refine W.blk ?_
 obtain ⟨y1,hy1⟩:=some_at (xs:=xs) (n:=n) (by omega)
 have hk1:=sum_take (f:=messageC) hy1
 have hk2:=messageC_nn y1
 have hk3:=messageC_eq y1
 refine g 9 17 [.n (n),.x (messageT y1)] ?_
 conv=>whnf
 refine ⟨⟨I,I,I,⟨rfl,(by simp only [lens]; omega)⟩,I,⟨⟨I,I⟩,mkN_getm (by assumption)⟩,I⟩,?_⟩
 refine g 17 19 [.i (k + sumI messageC (List.take n xs) + (1:Int))] ?_
 conv=>whnf
 refine ⟨⟨I,w64 (by omega) (by omega),I,I⟩,?_⟩
 refine g 19 24 [.n (n),.x (patch (messageT y1) ((0:Nat) + (0:Nat)) [T.v (Value.int IntKind.i64 (k + sumI messageC (List.take n xs)))])] ?_
 conv=>whnf
 refine ⟨⟨I,I,I,⟨rfl,(by simp only [lens]; omega)⟩,I,⟨⟨I,I⟩,getset (by simp only [lens]; omega)⟩,I⟩,?_⟩
 rw [List.set_set]
 refine g 24 26 [.i (k + sumI messageC (List.take n xs) + (1:Int) + (1:Int))] ?_
 conv=>whnf
 refine ⟨⟨I,w64 (by omega) (by omega),I,I⟩,?_⟩
 refine g 26 31 [.n (n),.x (patch (patch (messageT y1) ((0:Nat) + (0:Nat)) [T.v (Value.int IntKind.i64 (k + sumI messageC (List.take n xs)))]) ((0:Nat) + (1:Nat)) [T.v (Value.int IntKind.i64 (k + sumI messageC (List.take n xs) + (1:Int)))])] ?_
 conv=>whnf
 refine ⟨⟨I,I,I,⟨rfl,(by simp only [lens]; omega)⟩,I,⟨⟨I,I⟩,getset (by simp only [lens]; omega)⟩,I⟩,?_⟩
 rw [List.set_set]
 refine g 31 33 [.i (k + sumI messageC (List.take n xs) + (1:Int) + (1:Int) + (1:Int))] ?_
 conv=>whnf
 refine ⟨⟨I,w64 (by omega) (by omega),I,I⟩,?_⟩
 refine g 33 38 [.n (n),.x (patch (patch (patch (messageT y1) ((0:Nat) + (0:Nat)) [T.v (Value.int IntKind.i64 (k + sumI messageC (List.take n xs)))]) ((0:Nat) + (1:Nat)) [T.v (Value.int IntKind.i64 (k + sumI messageC (List.take n xs) + (1:Int)))]) ((0:Nat) + (2:Nat)) [T.v (Value.int IntKind.i64 (k + sumI messageC (List.take n xs) + (1:Int) + (1:Int)))])] ?_
 conv=>whnf
 refine ⟨⟨I,I,I,⟨rfl,(by simp only [lens]; omega)⟩,I,⟨⟨I,I⟩,getset (by simp only [lens]; omega)⟩,I⟩,?_⟩
 rw [List.set_set]
 refine g 38 40 [.i (k + sumI messageC (List.take n xs) + (1:Int) + (1:Int) + (1:Int) + (1:Int))] ?_
 conv=>whnf
 refine ⟨⟨I,w64 (by omega) (by omega),I,I⟩,?_⟩
 refine g 40 45 [.n (n),.x (patch (patch (patch (patch (messageT y1) ((0:Nat) + (0:Nat)) [T.v (Value.int IntKind.i64 (k + sumI messageC (List.take n xs)))]) ((0:Nat) + (1:Nat)) [T.v (Value.int IntKind.i64 (k + sumI messageC (List.take n xs) + (1:Int)))]) ((0:Nat) + (2:Nat)) [T.v (Value.int IntKind.i64 (k + sumI messageC (List.take n xs) + (1:Int) + (1:Int)))]) ((0:Nat) + (3:Nat)) [T.v (Value.int IntKind.i64 (k + sumI messageC (List.take n xs) + (1:Int) + (1:Int) + (1:Int)))])] ?_
 conv=>whnf
 refine ⟨⟨I,I,I,⟨rfl,(by simp only [lens]; omega)⟩,I,⟨⟨I,I⟩,getset (by simp only [lens]; omega)⟩,I⟩,?_⟩
 rw [List.set_set]
 refine g 45 47 [.i (k + sumI messageC (List.take n xs) + (1:Int) + (1:Int) + (1:Int) + (1:Int) + (1:Int))] ?_
 conv=>whnf
 refine ⟨⟨I,w64 (by omega) (by omega),I,I⟩,?_⟩
 refine g 47 52 [.n (n),.x (patch (patch (patch (patch (patch (messageT y1) ((0:Nat) + (0:Nat)) [T.v (Value.int IntKind.i64 (k + sumI messageC (List.take n xs)))]) ((0:Nat) + (1:Nat)) [T.v (Value.int IntKind.i64 (k + sumI messageC (List.take n xs) + (1:Int)))]) ((0:Nat) + (2:Nat)) [T.v (Value.int IntKind.i64 (k + sumI messageC (List.take n xs) + (1:Int) + (1:Int)))]) ((0:Nat) + (3:Nat)) [T.v (Value.int IntKind.i64 (k + sumI messageC (List.take n xs) + (1:Int) + (1:Int) + (1:Int)))]) ((0:Nat) + (4:Nat)) [T.v (Value.int IntKind.i64 (k + sumI messageC (List.take n xs) + (1:Int) + (1:Int) + (1:Int) + (1:Int)))])] ?_
 conv=>whnf
 refine ⟨⟨I,I,I,⟨rfl,(by simp only [lens]; omega)⟩,I,⟨⟨I,I⟩,getset (by simp only [lens]; omega)⟩,I⟩,?_⟩
 rw [List.set_set]
 refine g 52 54 [.i (k + sumI messageC (List.take n xs) + (1:Int) + (1:Int) + (1:Int) + (1:Int) + (1:Int) + (1:Int))] ?_
 conv=>whnf
 refine ⟨⟨I,w64 (by omega) (by omega),I,I⟩,?_⟩
 refine g 54 60 [.call (V.s (markT (k + sumI messageC (List.take n xs) + (1:Int) + (1:Int) + (1:Int) + (1:Int) + (1:Int) + (1:Int)))) ([[]]),.n (n),.x (patch (patch (patch (patch (patch (patch (messageT y1) ((0:Nat) + (0:Nat)) [T.v (Value.int IntKind.i64 (k + sumI messageC (List.take n xs)))]) ((0:Nat) + (1:Nat)) [T.v (Value.int IntKind.i64 (k + sumI messageC (List.take n xs) + (1:Int)))]) ((0:Nat) + (2:Nat)) [T.v (Value.int IntKind.i64 (k + sumI messageC (List.take n xs) + (1:Int) + (1:Int)))]) ((0:Nat) + (3:Nat)) [T.v (Value.int IntKind.i64 (k + sumI messageC (List.take n xs) + (1:Int) + (1:Int) + (1:Int)))]) ((0:Nat) + (4:Nat)) [T.v (Value.int IntKind.i64 (k + sumI messageC (List.take n xs) + (1:Int) + (1:Int) + (1:Int) + (1:Int)))]) ((0:Nat) + (5:Nat)) [T.v (Value.int IntKind.i64 (k + sumI messageC (List.take n xs) + (1:Int) + (1:Int) + (1:Int) + (1:Int) + (1:Int)))])] ?_
 conv=>whnf
 refine ⟨⟨I,I,I,⟨⟨I,I⟩,I,⟨⟨I,I⟩,I⟩,⟨I,I⟩,Go.K.c_laws_markText _ (by omega)⟩,⟨rfl,(by simp only [lens]; omega)⟩,I,⟨⟨I,I⟩,getset (by simp only [lens]; omega)⟩,I⟩,?_⟩
 rw [List.set_set]
 refine g 60 62 [.i (k + sumI messageC (List.take n xs) + (1:Int) + (1:Int) + (1:Int) + (1:Int) + (1:Int) + (1:Int) + (1:Int))] ?_
 conv=>whnf
 refine ⟨⟨I,w64 (by omega) (by omega),I,I⟩,?_⟩
 refine rg [.n (n),.x (patch (patch (patch (patch (patch (patch (patch (messageT y1) ((0:Nat) + (0:Nat)) [T.v (Value.int IntKind.i64 (k + sumI messageC (List.take n xs)))]) ((0:Nat) + (1:Nat)) [T.v (Value.int IntKind.i64 (k + sumI messageC (List.take n xs) + (1:Int)))]) ((0:Nat) + (2:Nat)) [T.v (Value.int IntKind.i64 (k + sumI messageC (List.take n xs) + (1:Int) + (1:Int)))]) ((0:Nat) + (3:Nat)) [T.v (Value.int IntKind.i64 (k + sumI messageC (List.take n xs) + (1:Int) + (1:Int) + (1:Int)))]) ((0:Nat) + (4:Nat)) [T.v (Value.int IntKind.i64 (k + sumI messageC (List.take n xs) + (1:Int) + (1:Int) + (1:Int) + (1:Int)))]) ((0:Nat) + (5:Nat)) [T.v (Value.int IntKind.i64 (k + sumI messageC (List.take n xs) + (1:Int) + (1:Int) + (1:Int) + (1:Int) + (1:Int)))]) ((0:Nat) + (6:Nat)) [T.v (Value.string (markT (k + sumI messageC (List.take n xs) + (1:Int) + (1:Int) + (1:Int) + (1:Int) + (1:Int) + (1:Int))))]),.x (patch (patch (patch (patch (patch (patch (patch (messageT y1) ((0:Nat) + (0:Nat)) [T.v (Value.int IntKind.i64 (k + sumI messageC (List.take n xs)))]) ((0:Nat) + (1:Nat)) [T.v (Value.int IntKind.i64 (k + sumI messageC (List.take n xs) + (1:Int)))]) ((0:Nat) + (2:Nat)) [T.v (Value.int IntKind.i64 (k + sumI messageC (List.take n xs) + (1:Int) + (1:Int)))]) ((0:Nat) + (3:Nat)) [T.v (Value.int IntKind.i64 (k + sumI messageC (List.take n xs) + (1:Int) + (1:Int) + (1:Int)))]) ((0:Nat) + (4:Nat)) [T.v (Value.int IntKind.i64 (k + sumI messageC (List.take n xs) + (1:Int) + (1:Int) + (1:Int) + (1:Int)))]) ((0:Nat) + (5:Nat)) [T.v (Value.int IntKind.i64 (k + sumI messageC (List.take n xs) + (1:Int) + (1:Int) + (1:Int) + (1:Int) + (1:Int)))]) ((0:Nat) + (6:Nat)) [T.v (Value.string (markT (k + sumI messageC (List.take n xs) + (1:Int) + (1:Int) + (1:Int) + (1:Int) + (1:Int) + (1:Int))))]),.call (V.i (k + sumI messageC (List.take n xs) + (1:Int) + (1:Int) + (1:Int) + (1:Int) + (1:Int) + (1:Int) + (1:Int) + (↑(List.length (Message.inputs y1)):Int))) ([[V.own [false] (List.map strT (mkL (fun k x=>markT k) (fun x=>(1:Int)) (k + sumI messageC (List.take n xs) + (1:Int) + (1:Int) + (1:Int) + (1:Int) + (1:Int) + (1:Int) + (1:Int)) (Message.inputs y1)))],[]]),.x ([T.v (Value.int IntKind.i64 (k + sumI messageC (List.take n xs))),T.v (Value.int IntKind.i64 (k + sumI messageC (List.take n xs) + (1:Int))),T.v (Value.int IntKind.i64 (k + sumI messageC (List.take n xs) + (1:Int) + (1:Int))),T.v (Value.int IntKind.i64 (k + sumI messageC (List.take n xs) + (1:Int) + (1:Int) + (1:Int))),T.v (Value.int IntKind.i64 (k + sumI messageC (List.take n xs) + (1:Int) + (1:Int) + (1:Int) + (1:Int))),T.v (Value.int IntKind.i64 (k + sumI messageC (List.take n xs) + (1:Int) + (1:Int) + (1:Int) + (1:Int) + (1:Int))),T.v (Value.string (markT (k + sumI messageC (List.take n xs) + (1:Int) + (1:Int) + (1:Int) + (1:Int) + (1:Int) + (1:Int)))),T.hole])] ?_
 conv=>whnf
 refine ⟨⟨I,I,⟨rfl,(by simp only [lens]; omega)⟩,I,getset (by simp only [lens]; omega),I,⟨⟨⟨getset (by simp only [lens]; omega),I⟩,I,I⟩,I,⟨I,⟨I,I⟩,I⟩,⟨⟨getset (by simp only [lens]; omega),I⟩,I⟩,Go.K.c_laws_markStringS _ _ (by omega) (by omega) (by omega)⟩,I,I⟩,?_⟩
 rw [List.set_set]
 rw [List.set_set]
 refine rg [.i ((↑n:Int) + (1:Int))] ?_
 conv=>whnf
 refine ⟨⟨I,w64 (by omega) (by omega),I,I⟩,?_⟩
 rotate_left 1
 replace h1:=df h1
 simp only [List.length_map] at h1
 refine W.exit ?_
 refine g 5 70 [] ?_
 conv=>whnf
 refine ⟨⟨I,I,I⟩,?_⟩
 refine W.ret ?_
 refine EndsW.rt ?_
 conv=>whnf
 refine ⟨⟨I,I,I⟩,?_,?_⟩
 rotate_left 1
 rotate_left 1
 ·refine ⟨n + 1,[some 70],[],⟨rfl,⟨rfl,(congrArg (fun z=>V.t (T.v (Value.int _ z))) (by rw [sum_take (by assumption)]; omega)),rfl,rfl,I⟩,⟨⟨rfl,⟨(congrArg (V.own _) (mkN_setm (f:=messageMk) (c:=messageC) (by assumption))),I⟩⟩,I⟩,I⟩,?_,?_⟩
  rotate_left 1
  (dsimp only; omega)
  dsimp only
  omega
 ·rw [take_all (by omega)]
 ·rw [mkN_all messageMk messageC k xs (n:=n) (by omega)]
end Go.K
end
section
set_option linter.unusedVariables false
set_option linter.unusedSimpArgs false
set_option maxHeartbeats 4000000
set_option maxRecDepth 20000
open Go Go.Tm Go.Proofs
namespace Go.K
structure Acted where
 worker:Worker
 out:List Message
 deriving DecidableEq
end Go.K
end
section
set_option linter.unusedVariables false
set_option linter.unusedSimpArgs false
set_option maxHeartbeats 4000000
set_option maxRecDepth 20000
open Go Go.Tm Go.Proofs
namespace Go.K
theorem c_laws_heldMessageS (xs:List Message) (k:Int) (hl:xs.length ≤ 9223372036854775806) (h0:0 ≤ k) (hk:k + sumI messageC xs ≤ 1099511627776):F n_laws_heldMessageS [.val (.t (.slc messageK ((mkL messageMk messageC k xs).map messageT))),.val (.i k)] (.i (k + sumI messageC xs)) [[],[]]:=by
 have hx:=mkL_len messageMk messageC k xs
 refine i_laws_heldMessageS ?_
 conv=>whnf
 refine g 0 0 [] ?_
 conv=>whnf
 refine ⟨⟨I,I⟩,?_⟩
 refine W.sq ?_
 refine g 0 0 [] ?_
 conv=>whnf
 refine ⟨⟨I,I⟩,?_⟩
 refine W.blk ?_
 refine W.lp (fun s (n:Nat)=>⟨[(0,s.s 0),(1,.i (k + sumI messageC (xs.take n))),(5,.i n)],[],[]⟩) (fun (n:Nat)=>n ≤ xs.length) (fun (n:Nat)=>xs.length - n) (0) [] [] ⟨rfl,⟨rfl,(congrArg (fun z=>V.t (T.v (Value.int _ z))) (by simp [sumI])),rfl,I⟩,I,I⟩ (by omega) ?_
 intro n hn
 have hq:=sum_nn messageC_nn (xs.take n)
 have hle:=sum_le messageC_nn xs (n + 1)
 have hle0:=sum_le messageC_nn xs n
 conv=>whnf
 refine W.sq ?_
 refine g 6 9 [] ?_
 conv=>whnf
 refine ⟨⟨I,I,I,I,I⟩,?_⟩
 refine W.cn ?_
 conv=>whnf
 refine ⟨fun h1=>?_,fun h1=>?_⟩
 replace h1:=dt h1
 simp only [List.length_map] at h1
 refine W.skip ?_
 refine W.sq ?_
 refine W.blk ?_
 refine W.sq ?_
 obtain ⟨y1,hy1⟩:=some_at (xs:=xs) (n:=n) (by omega)
 have hk1:=sum_take (f:=messageC) hy1
 have hk2:=messageC_nn y1
 have hk3:=messageC_eq y1
 have hk4:=mkL_get (f:=messageMk) (c:=messageC) (k:=k) hy1
 refine g 9 18 [.x (messageT (messageMk (k + sumI messageC (List.take n xs)) y1))] ?_
 conv=>whnf
 refine ⟨⟨I,I,⟨(by omega),ixl (by assumption)⟩,I,I,I,I,I⟩,?_⟩
 refine W.cn ?_
 conv=>whnf
 refine ⟨noT (notF rfl),fun _=>?_⟩
 refine W.skip ?_
 refine g 18 21 [.i (k + sumI messageC (List.take n xs) + (1:Int))] ?_
 conv=>whnf
 refine ⟨⟨I,w64 (by omega) (by omega),I,I⟩,?_⟩
 refine W.sq ?_
 refine g 21 27 [.x (messageT (messageMk (k + sumI messageC (List.take n xs)) y1))] ?_
 conv=>whnf
 refine ⟨⟨I,I,⟨(by omega),ixl (by assumption)⟩,I,I,I,I,I⟩,?_⟩
 refine W.cn ?_
 conv=>whnf
 refine ⟨noT (notF rfl),fun _=>?_⟩
 refine W.skip ?_
 refine g 27 30 [.i (k + sumI messageC (List.take n xs) + (1:Int) + (1:Int))] ?_
 conv=>whnf
 refine ⟨⟨I,w64 (by omega) (by omega),I,I⟩,?_⟩
 refine W.sq ?_
 refine g 30 36 [.x (messageT (messageMk (k + sumI messageC (List.take n xs)) y1))] ?_
 conv=>whnf
 refine ⟨⟨I,I,⟨(by omega),ixl (by assumption)⟩,I,I,I,I,I⟩,?_⟩
 refine W.cn ?_
 conv=>whnf
 refine ⟨noT (notF rfl),fun _=>?_⟩
 refine W.skip ?_
 refine g 36 39 [.i (k + sumI messageC (List.take n xs) + (1:Int) + (1:Int) + (1:Int))] ?_
 conv=>whnf
 refine ⟨⟨I,w64 (by omega) (by omega),I,I⟩,?_⟩
 refine W.sq ?_
 refine g 39 45 [.x (messageT (messageMk (k + sumI messageC (List.take n xs)) y1))] ?_
 conv=>whnf
 refine ⟨⟨I,I,⟨(by omega),ixl (by assumption)⟩,I,I,I,I,I⟩,?_⟩
 refine W.cn ?_
 conv=>whnf
 refine ⟨noT (notF rfl),fun _=>?_⟩
 refine W.skip ?_
 refine g 45 48 [.i (k + sumI messageC (List.take n xs) + (1:Int) + (1:Int) + (1:Int) + (1:Int))] ?_
 conv=>whnf
 refine ⟨⟨I,w64 (by omega) (by omega),I,I⟩,?_⟩
 refine W.sq ?_
 refine g 48 54 [.x (messageT (messageMk (k + sumI messageC (List.take n xs)) y1))] ?_
 conv=>whnf
 refine ⟨⟨I,I,⟨(by omega),ixl (by assumption)⟩,I,I,I,I,I⟩,?_⟩
 refine W.cn ?_
 conv=>whnf
 refine ⟨noT (notF rfl),fun _=>?_⟩
 refine W.skip ?_
 refine g 54 57 [.i (k + sumI messageC (List.take n xs) + (1:Int) + (1:Int) + (1:Int) + (1:Int) + (1:Int))] ?_
 conv=>whnf
 refine ⟨⟨I,w64 (by omega) (by omega),I,I⟩,?_⟩
 refine W.sq ?_
 refine g 57 63 [.x (messageT (messageMk (k + sumI messageC (List.take n xs)) y1))] ?_
 conv=>whnf
 refine ⟨⟨I,I,⟨(by omega),ixl (by assumption)⟩,I,I,I,I,I⟩,?_⟩
 refine W.cn ?_
 conv=>whnf
 refine ⟨noT (notF rfl),fun _=>?_⟩
 refine W.skip ?_
 refine g 63 66 [.i (k + sumI messageC (List.take n xs) + (1:Int) + (1:Int) + (1:Int) + (1:Int) + (1:Int) + (1:Int))] ?_
 conv=>whnf
 refine ⟨⟨I,w64 (by omega) (by omega),I,I⟩,?_⟩
 refine W.sq ?_
 refine gd 66 73 [[],[],[.x (messageT (messageMk (k + sumI messageC (List.take n xs)) y1))],[],[],[],[.call (V.s (markT (k + sumI messageC (List.take n xs) + (1:Int) + (1:Int) + (1:Int) + (1:Int) + (1:Int) + (1:Int)))) ([[]])],[]] ?_
 conv=>whnf
 refine ⟨⟨I,I,⟨(by omega),ixl (by assumption)⟩,I,I,I,⟨⟨I,I⟩,I,⟨⟨I,I⟩,I⟩,⟨I,I⟩,Go.K.c_laws_markText _ (by omega)⟩,I,I⟩,by kernel_rfl,?_⟩
 refine W.cn ?_
 conv=>whnf
 refine ⟨noT (notF rfl),fun _=>?_⟩
 refine W.skip ?_
 refine g 73 76 [.i (k + sumI messageC (List.take n xs) + (1:Int) + (1:Int) + (1:Int) + (1:Int) + (1:Int) + (1:Int) + (1:Int))] ?_
 conv=>whnf
 refine ⟨⟨I,w64 (by omega) (by omega),I,I⟩,?_⟩
 refine g 76 83 [.x (messageT (messageMk (k + sumI messageC (List.take n xs)) y1)),.call (V.i (k + sumI messageC (List.take n xs) + (1:Int) + (1:Int) + (1:Int) + (1:Int) + (1:Int) + (1:Int) + (1:Int) + (↑(List.length (Message.inputs y1)):Int))) ([[],[]])] ?_
 conv=>whnf
 refine ⟨⟨I,I,⟨(by omega),ixl (by assumption)⟩,I,I,I,⟨⟨I,I,I⟩,I,⟨⟨I,I⟩,⟨I,I⟩,I⟩,⟨I,I⟩,Go.K.c_laws_heldStringS _ _ (by omega) (by omega) (by omega)⟩,I,I⟩,?_⟩
 refine g 83 84 [] ?_
 conv=>whnf
 refine ⟨⟨I,I,I⟩,?_⟩
 refine W.cn ?_
 conv=>whnf
 refine ⟨noT (dF (by omega)),fun _=>?_⟩
 refine W.skip ?_
 refine rg [.i ((↑n:Int) + (1:Int))] ?_
 conv=>whnf
 refine ⟨⟨I,w64 (by omega) (by omega),I,I⟩,?_⟩
 rotate_left 1
 replace h1:=df h1
 simp only [List.length_map] at h1
 refine W.exit ?_
 refine g 5 86 [] ?_
 conv=>whnf
 refine ⟨⟨I,I,I⟩,?_⟩
 refine W.ret ?_
 refine EndsW.rt ?_
 conv=>whnf
 refine ⟨⟨I,I,I⟩,?_,rfl⟩
 rotate_left 1
 ·refine ⟨n + 1,[],[],⟨rfl,⟨rfl,(congrArg (fun z=>V.t (T.v (Value.int _ z))) (by rw [sum_take (by assumption)]; omega)),rfl,I⟩,I,I⟩,?_,?_⟩
  rotate_left 1
  (dsimp only; omega)
  dsimp only
  omega
 ·rw [take_all (by omega)]
end Go.K
end
section
set_option linter.unusedVariables false
set_option linter.unusedSimpArgs false
set_option maxHeartbeats 4000000
set_option maxRecDepth 20000
open Go Go.Tm Go.Proofs
namespace Go.K
theorem c_laws_szLog (x:Log) (left:Int) (hw:logWf x) (h:left ≤ 1048576) (h0:0 ≤ left):F n_laws_szLog [.val (logR x),.val (.i left)] (.i (if left - logSz x < 0 then -1 else left - logSz x)) [[],[]]:=by
 have hn0:=totS_nn x.safe
 have hn1:=totS_nn x.loose
 obtain ⟨hw0,hw1,hw2,hw3⟩:=hw
 have hz:logSz x = ((x.safe.length:Int) + totS x.safe) + ((x.loose.length:Int) + totS x.loose):=rfl
 refine i_laws_szLog ?_
 conv=>whnf
 refine g 0 1 [] ?_
 conv=>whnf
 refine ⟨⟨⟨I,I,I⟩,I,I⟩,?_⟩
 refine g 5 9 [.call (V.i (if left - (↑(List.length (Log.safe x)):Int) - totS (Log.safe x) < (0:Int) then (-1:Int) else left - (↑(List.length (Log.safe x)):Int) - totS (Log.safe x))) ([[],[]])] ?_
 conv=>whnf
 refine ⟨⟨I,I,I,⟨⟨I,I,I⟩,I,⟨⟨I,I⟩,⟨I,I⟩,I⟩,⟨I,I⟩,Go.K.c_laws_szStringS _ _ (by omega) (by omega) (by omega) (by omega)⟩,I,I⟩,?_⟩
 refine W.sq ?_
 refine g 9 10 [] ?_
 conv=>whnf
 refine ⟨⟨I,I,I⟩,?_⟩
 refine W.cn ?_
 conv=>whnf
 refine ⟨fun h1=>?_,fun h1=>?_⟩
 replace h1:=dt h1
 refine g 10 11 [] ?_
 conv=>whnf
 refine ⟨⟨I,I⟩,?_⟩
 refine W.ret ?_
 refine EndsW.rt ?_
 conv=>whnf
 refine ⟨⟨I,I,I⟩,?_,rfl⟩
 exact vi (by omega)
 replace h1:=df h1
 refine W.skip ?_
 refine g 10 15 [.call (V.i (if (if left - (↑(List.length (Log.safe x)):Int) - totS (Log.safe x) < (0:Int) then (-1:Int) else left - (↑(List.length (Log.safe x)):Int) - totS (Log.safe x)) - (↑(List.length (Log.loose x)):Int) - totS (Log.loose x) < (0:Int) then (-1:Int) else (if left - (↑(List.length (Log.safe x)):Int) - totS (Log.safe x) < (0:Int) then (-1:Int) else left - (↑(List.length (Log.safe x)):Int) - totS (Log.safe x)) - (↑(List.length (Log.loose x)):Int) - totS (Log.loose x))) ([[],[]])] ?_
 conv=>whnf
 refine ⟨⟨I,I,I,⟨⟨I,I,I⟩,I,⟨⟨I,I⟩,⟨I,I⟩,I⟩,⟨I,I⟩,Go.K.c_laws_szStringS _ _ (by omega) (by omega) (by omega) (by omega)⟩,I,I⟩,?_⟩
 refine W.sq ?_
 refine g 2 3 [] ?_
 conv=>whnf
 refine ⟨⟨I,I,I⟩,?_⟩
 refine W.cn ?_
 conv=>whnf
 refine ⟨fun h2=>?_,fun h2=>?_⟩
 replace h2:=dt h2
 refine g 15 17 [] ?_
 conv=>whnf
 refine ⟨⟨I,I⟩,?_⟩
 refine W.ret ?_
 refine EndsW.rt ?_
 conv=>whnf
 refine ⟨⟨I,I,I⟩,?_,rfl⟩
 exact vi (by omega)
 replace h2:=df h2
 refine W.skip ?_
 refine g 15 18 [] ?_
 conv=>whnf
 refine ⟨⟨I,I,I⟩,?_⟩
 refine W.ret ?_
 refine EndsW.rt ?_
 conv=>whnf
 refine ⟨⟨I,I,I⟩,?_,rfl⟩
 exact vi (by omega)
theorem c_laws_szJobS (xs:List Job) (left:Int) (hl:xs.length ≤ 9223372036854775807) (h:left ≤ 1048576) (h0:0 ≤ left):F n_laws_szJobS [.val (.t (.slc jobK (xs.map jobT))),.val (.i left)] (.i (if left - xs.length < 0 then -1 else left - xs.length)) [[],[]]:=by
 refine i_laws_szJobS ?_
 conv=>whnf
 refine g 0 0 [] ?_
 conv=>whnf
 refine ⟨⟨I,I⟩,?_⟩
 refine g 5 9 [.i (left - (↑(List.length (List.map jobT xs)):Int))] ?_
 conv=>whnf
 refine ⟨⟨I,I,I,w64 (by simp only [lens]; omega) (by simp only [lens]; omega),I,I⟩,?_⟩
 refine W.sq ?_
 refine g 0 1 [] ?_
 conv=>whnf
 refine ⟨⟨I,I,I⟩,?_⟩
 refine W.cn ?_
 conv=>whnf
 refine ⟨fun h1=>?_,fun h1=>?_⟩
 replace h1:=dt h1
 simp only [List.length_map] at h1
 refine g 9 11 [] ?_
 conv=>whnf
 refine ⟨⟨I,I⟩,?_⟩
 refine W.ret ?_
 refine EndsW.rt ?_
 conv=>whnf
 refine ⟨⟨I,I,I⟩,?_,rfl⟩
 exact vi (by omega)
 replace h1:=df h1
 simp only [List.length_map] at h1
 refine W.skip ?_
 refine g 9 12 [] ?_
 conv=>whnf
 refine ⟨⟨I,I,I⟩,?_⟩
 refine W.ret ?_
 refine EndsW.rt ?_
 conv=>whnf
 refine ⟨⟨I,I,I⟩,?_,rfl⟩
 (simp [*]; done)
theorem c_laws_szSeatS (xs:List Seat) (left:Int) (hl:xs.length ≤ 9223372036854775807) (h:left ≤ 1048576) (h0:0 ≤ left):F n_laws_szSeatS [.val (.t (.slc seatK (xs.map seatT))),.val (.i left)] (.i (if left - xs.length < 0 then -1 else left - xs.length)) [[],[]]:=by
 refine i_laws_szSeatS ?_
 conv=>whnf
 refine g 0 0 [] ?_
 conv=>whnf
 refine ⟨⟨I,I⟩,?_⟩
 refine g 5 9 [.i (left - (↑(List.length (List.map seatT xs)):Int))] ?_
 conv=>whnf
 refine ⟨⟨I,I,I,w64 (by simp only [lens]; omega) (by simp only [lens]; omega),I,I⟩,?_⟩
 refine W.sq ?_
 refine g 0 1 [] ?_
 conv=>whnf
 refine ⟨⟨I,I,I⟩,?_⟩
 refine W.cn ?_
 conv=>whnf
 refine ⟨fun h1=>?_,fun h1=>?_⟩
 replace h1:=dt h1
 simp only [List.length_map] at h1
 refine g 9 11 [] ?_
 conv=>whnf
 refine ⟨⟨I,I⟩,?_⟩
 refine W.ret ?_
 refine EndsW.rt ?_
 conv=>whnf
 refine ⟨⟨I,I,I⟩,?_,rfl⟩
 exact vi (by omega)
 replace h1:=df h1
 simp only [List.length_map] at h1
 refine W.skip ?_
 refine g 9 12 [] ?_
 conv=>whnf
 refine ⟨⟨I,I,I⟩,?_⟩
 refine W.ret ?_
 refine EndsW.rt ?_
 conv=>whnf
 refine ⟨⟨I,I,I⟩,?_,rfl⟩
 (simp [*]; done)
theorem c_laws_szOwedS (xs:List Owed) (left:Int) (hl:xs.length ≤ 9223372036854775807) (h:left ≤ 1048576) (h0:0 ≤ left):F n_laws_szOwedS [.val (.t (.slc owedK (xs.map owedT))),.val (.i left)] (.i (if left - xs.length < 0 then -1 else left - xs.length)) [[],[]]:=by
 refine i_laws_szOwedS ?_
 conv=>whnf
 refine g 0 0 [] ?_
 conv=>whnf
 refine ⟨⟨I,I⟩,?_⟩
 refine g 5 9 [.i (left - (↑(List.length (List.map owedT xs)):Int))] ?_
 conv=>whnf
 refine ⟨⟨I,I,I,w64 (by simp only [lens]; omega) (by simp only [lens]; omega),I,I⟩,?_⟩
 refine W.sq ?_
 refine g 0 1 [] ?_
 conv=>whnf
 refine ⟨⟨I,I,I⟩,?_⟩
 refine W.cn ?_
 conv=>whnf
 refine ⟨fun h1=>?_,fun h1=>?_⟩
 replace h1:=dt h1
 simp only [List.length_map] at h1
 refine g 9 11 [] ?_
 conv=>whnf
 refine ⟨⟨I,I⟩,?_⟩
 refine W.ret ?_
 refine EndsW.rt ?_
 conv=>whnf
 refine ⟨⟨I,I,I⟩,?_,rfl⟩
 exact vi (by omega)
 replace h1:=df h1
 simp only [List.length_map] at h1
 refine W.skip ?_
 refine g 9 12 [] ?_
 conv=>whnf
 refine ⟨⟨I,I,I⟩,?_⟩
 refine W.ret ?_
 refine EndsW.rt ?_
 conv=>whnf
 refine ⟨⟨I,I,I⟩,?_,rfl⟩
 (simp [*]; done)
theorem c_laws_szBoss (x:Boss) (left:Int) (hw:bossWf x) (h:left ≤ 1048576) (h0:0 ≤ left):F n_laws_szBoss [.val (bossR x),.val (.i left)] (.i (if left - bossSz x < 0 then -1 else left - bossSz x)) [[],[]]:=by
 have hn0:=logSz_nn x.log
 have hn1:=totS_nn x.results
 obtain ⟨hw0,hw1,hw2,hw3,hw4,hw5⟩:=hw
 have hz:bossSz x = logSz x.log + ((x.results.length:Int) + totS x.results) + ((x.jobs.length:Int)) + ((x.seats.length:Int)) + ((x.owed.length:Int)):=rfl
 refine i_laws_szBoss ?_
 conv=>whnf
 refine g 0 1 [] ?_
 conv=>whnf
 refine ⟨⟨⟨I,I,I,I,I,I,I,I,I,I,I,I,I⟩,I,I⟩,?_⟩
 refine g 5 9 [.call (V.i (if left - logSz (Boss.log x) < (0:Int) then (-1:Int) else left - logSz (Boss.log x))) ([[],[]])] ?_
 conv=>whnf
 refine ⟨⟨I,I,I,⟨⟨I,I,I⟩,I,⟨⟨I,I,I⟩,⟨I,I⟩,I⟩,⟨I,I⟩,Go.K.c_laws_szLog _ _ (by omega) (by omega) (by omega)⟩,I,I⟩,?_⟩
 refine W.sq ?_
 refine g 9 10 [] ?_
 conv=>whnf
 refine ⟨⟨I,I,I⟩,?_⟩
 refine W.cn ?_
 conv=>whnf
 refine ⟨fun h1=>?_,fun h1=>?_⟩
 replace h1:=dt h1
 refine g 10 11 [] ?_
 conv=>whnf
 refine ⟨⟨I,I⟩,?_⟩
 refine W.ret ?_
 refine EndsW.rt ?_
 conv=>whnf
 refine ⟨⟨I,I,I⟩,?_,rfl⟩
 exact vi (by omega)
 replace h1:=df h1
 refine W.skip ?_
 refine g 10 15 [.call (V.i (if (if left - logSz (Boss.log x) < (0:Int) then (-1:Int) else left - logSz (Boss.log x)) - (↑(List.length (Boss.results x)):Int) - totS (Boss.results x) < (0:Int) then (-1:Int) else (if left - logSz (Boss.log x) < (0:Int) then (-1:Int) else left - logSz (Boss.log x)) - (↑(List.length (Boss.results x)):Int) - totS (Boss.results x))) ([[],[]])] ?_
 conv=>whnf
 refine ⟨⟨I,I,I,⟨⟨I,I,I⟩,I,⟨⟨I,I⟩,⟨I,I⟩,I⟩,⟨I,I⟩,Go.K.c_laws_szStringS _ _ (by omega) (by omega) (by omega) (by omega)⟩,I,I⟩,?_⟩
 refine W.sq ?_
 refine g 15 16 [] ?_
 conv=>whnf
 refine ⟨⟨I,I,I⟩,?_⟩
 refine W.cn ?_
 conv=>whnf
 refine ⟨fun h2=>?_,fun h2=>?_⟩
 replace h2:=dt h2
 refine g 16 17 [] ?_
 conv=>whnf
 refine ⟨⟨I,I⟩,?_⟩
 refine W.ret ?_
 refine EndsW.rt ?_
 conv=>whnf
 refine ⟨⟨I,I,I⟩,?_,rfl⟩
 exact vi (by omega)
 replace h2:=df h2
 refine W.skip ?_
 refine g 16 21 [.call (V.i (if (if (if left - logSz (Boss.log x) < (0:Int) then (-1:Int) else left - logSz (Boss.log x)) - (↑(List.length (Boss.results x)):Int) - totS (Boss.results x) < (0:Int) then (-1:Int) else (if left - logSz (Boss.log x) < (0:Int) then (-1:Int) else left - logSz (Boss.log x)) - (↑(List.length (Boss.results x)):Int) - totS (Boss.results x)) - (↑(List.length (Boss.jobs x)):Int) < (0:Int) then (-1:Int) else (if (if left - logSz (Boss.log x) < (0:Int) then (-1:Int) else left - logSz (Boss.log x)) - (↑(List.length (Boss.results x)):Int) - totS (Boss.results x) < (0:Int) then (-1:Int) else (if left - logSz (Boss.log x) < (0:Int) then (-1:Int) else left - logSz (Boss.log x)) - (↑(List.length (Boss.results x)):Int) - totS (Boss.results x)) - (↑(List.length (Boss.jobs x)):Int))) ([[],[]])] ?_
 conv=>whnf
 refine ⟨⟨I,I,I,⟨⟨I,I,I⟩,I,⟨⟨I,I⟩,⟨I,I⟩,I⟩,⟨I,I⟩,Go.K.c_laws_szJobS _ _ (by omega) (by omega) (by omega)⟩,I,I⟩,?_⟩
 refine W.sq ?_
 refine g 21 22 [] ?_
 conv=>whnf
 refine ⟨⟨I,I,I⟩,?_⟩
 refine W.cn ?_
 conv=>whnf
 refine ⟨fun h3=>?_,fun h3=>?_⟩
 replace h3:=dt h3
 refine g 22 23 [] ?_
 conv=>whnf
 refine ⟨⟨I,I⟩,?_⟩
 refine W.ret ?_
 refine EndsW.rt ?_
 conv=>whnf
 refine ⟨⟨I,I,I⟩,?_,rfl⟩
 exact vi (by omega)
 replace h3:=df h3
 refine W.skip ?_
 refine g 22 27 [.call (V.i (if (if (if (if left - logSz (Boss.log x) < (0:Int) then (-1:Int) else left - logSz (Boss.log x)) - (↑(List.length (Boss.results x)):Int) - totS (Boss.results x) < (0:Int) then (-1:Int) else (if left - logSz (Boss.log x) < (0:Int) then (-1:Int) else left - logSz (Boss.log x)) - (↑(List.length (Boss.results x)):Int) - totS (Boss.results x)) - (↑(List.length (Boss.jobs x)):Int) < (0:Int) then (-1:Int) else (if (if left - logSz (Boss.log x) < (0:Int) then (-1:Int) else left - logSz (Boss.log x)) - (↑(List.length (Boss.results x)):Int) - totS (Boss.results x) < (0:Int) then (-1:Int) else (if left - logSz (Boss.log x) < (0:Int) then (-1:Int) else left - logSz (Boss.log x)) - (↑(List.length (Boss.results x)):Int) - totS (Boss.results x)) - (↑(List.length (Boss.jobs x)):Int)) - (↑(List.length (Boss.seats x)):Int) < (0:Int) then (-1:Int) else (if (if (if left - logSz (Boss.log x) < (0:Int) then (-1:Int) else left - logSz (Boss.log x)) - (↑(List.length (Boss.results x)):Int) - totS (Boss.results x) < (0:Int) then (-1:Int) else (if left - logSz (Boss.log x) < (0:Int) then (-1:Int) else left - logSz (Boss.log x)) - (↑(List.length (Boss.results x)):Int) - totS (Boss.results x)) - (↑(List.length (Boss.jobs x)):Int) < (0:Int) then (-1:Int) else (if (if left - logSz (Boss.log x) < (0:Int) then (-1:Int) else left - logSz (Boss.log x)) - (↑(List.length (Boss.results x)):Int) - totS (Boss.results x) < (0:Int) then (-1:Int) else (if left - logSz (Boss.log x) < (0:Int) then (-1:Int) else left - logSz (Boss.log x)) - (↑(List.length (Boss.results x)):Int) - totS (Boss.results x)) - (↑(List.length (Boss.jobs x)):Int)) - (↑(List.length (Boss.seats x)):Int))) ([[],[]])] ?_
 conv=>whnf
 refine ⟨⟨I,I,I,⟨⟨I,I,I⟩,I,⟨⟨I,I⟩,⟨I,I⟩,I⟩,⟨I,I⟩,Go.K.c_laws_szSeatS _ _ (by omega) (by omega) (by omega)⟩,I,I⟩,?_⟩
 refine W.sq ?_
 refine g 27 28 [] ?_
 conv=>whnf
 refine ⟨⟨I,I,I⟩,?_⟩
 refine W.cn ?_
 conv=>whnf
 refine ⟨fun h4=>?_,fun h4=>?_⟩
 replace h4:=dt h4
 refine g 28 29 [] ?_
 conv=>whnf
 refine ⟨⟨I,I⟩,?_⟩
 refine W.ret ?_
 refine EndsW.rt ?_
 conv=>whnf
 refine ⟨⟨I,I,I⟩,?_,rfl⟩
 exact vi (by omega)
 replace h4:=df h4
 refine W.skip ?_
 refine g 28 33 [.call (V.i (if (if (if (if (if left - logSz (Boss.log x) < (0:Int) then (-1:Int) else left - logSz (Boss.log x)) - (↑(List.length (Boss.results x)):Int) - totS (Boss.results x) < (0:Int) then (-1:Int) else (if left - logSz (Boss.log x) < (0:Int) then (-1:Int) else left - logSz (Boss.log x)) - (↑(List.length (Boss.results x)):Int) - totS (Boss.results x)) - (↑(List.length (Boss.jobs x)):Int) < (0:Int) then (-1:Int) else (if (if left - logSz (Boss.log x) < (0:Int) then (-1:Int) else left - logSz (Boss.log x)) - (↑(List.length (Boss.results x)):Int) - totS (Boss.results x) < (0:Int) then (-1:Int) else (if left - logSz (Boss.log x) < (0:Int) then (-1:Int) else left - logSz (Boss.log x)) - (↑(List.length (Boss.results x)):Int) - totS (Boss.results x)) - (↑(List.length (Boss.jobs x)):Int)) - (↑(List.length (Boss.seats x)):Int) < (0:Int) then (-1:Int) else (if (if (if left - logSz (Boss.log x) < (0:Int) then (-1:Int) else left - logSz (Boss.log x)) - (↑(List.length (Boss.results x)):Int) - totS (Boss.results x) < (0:Int) then (-1:Int) else (if left - logSz (Boss.log x) < (0:Int) then (-1:Int) else left - logSz (Boss.log x)) - (↑(List.length (Boss.results x)):Int) - totS (Boss.results x)) - (↑(List.length (Boss.jobs x)):Int) < (0:Int) then (-1:Int) else (if (if left - logSz (Boss.log x) < (0:Int) then (-1:Int) else left - logSz (Boss.log x)) - (↑(List.length (Boss.results x)):Int) - totS (Boss.results x) < (0:Int) then (-1:Int) else (if left - logSz (Boss.log x) < (0:Int) then (-1:Int) else left - logSz (Boss.log x)) - (↑(List.length (Boss.results x)):Int) - totS (Boss.results x)) - (↑(List.length (Boss.jobs x)):Int)) - (↑(List.length (Boss.seats x)):Int)) - (↑(List.length (Boss.owed x)):Int) < (0:Int) then (-1:Int) else (if (if (if (if left - logSz (Boss.log x) < (0:Int) then (-1:Int) else left - logSz (Boss.log x)) - (↑(List.length (Boss.results x)):Int) - totS (Boss.results x) < (0:Int) then (-1:Int) else (if left - logSz (Boss.log x) < (0:Int) then (-1:Int) else left - logSz (Boss.log x)) - (↑(List.length (Boss.results x)):Int) - totS (Boss.results x)) - (↑(List.length (Boss.jobs x)):Int) < (0:Int) then (-1:Int) else (if (if left - logSz (Boss.log x) < (0:Int) then (-1:Int) else left - logSz (Boss.log x)) - (↑(List.length (Boss.results x)):Int) - totS (Boss.results x) < (0:Int) then (-1:Int) else (if left - logSz (Boss.log x) < (0:Int) then (-1:Int) else left - logSz (Boss.log x)) - (↑(List.length (Boss.results x)):Int) - totS (Boss.results x)) - (↑(List.length (Boss.jobs x)):Int)) - (↑(List.length (Boss.seats x)):Int) < (0:Int) then (-1:Int) else (if (if (if left - logSz (Boss.log x) < (0:Int) then (-1:Int) else left - logSz (Boss.log x)) - (↑(List.length (Boss.results x)):Int) - totS (Boss.results x) < (0:Int) then (-1:Int) else (if left - logSz (Boss.log x) < (0:Int) then (-1:Int) else left - logSz (Boss.log x)) - (↑(List.length (Boss.results x)):Int) - totS (Boss.results x)) - (↑(List.length (Boss.jobs x)):Int) < (0:Int) then (-1:Int) else (if (if left - logSz (Boss.log x) < (0:Int) then (-1:Int) else left - logSz (Boss.log x)) - (↑(List.length (Boss.results x)):Int) - totS (Boss.results x) < (0:Int) then (-1:Int) else (if left - logSz (Boss.log x) < (0:Int) then (-1:Int) else left - logSz (Boss.log x)) - (↑(List.length (Boss.results x)):Int) - totS (Boss.results x)) - (↑(List.length (Boss.jobs x)):Int)) - (↑(List.length (Boss.seats x)):Int)) - (↑(List.length (Boss.owed x)):Int))) ([[],[]])] ?_
 conv=>whnf
 refine ⟨⟨I,I,I,⟨⟨I,I,I⟩,I,⟨⟨I,I⟩,⟨I,I⟩,I⟩,⟨I,I⟩,Go.K.c_laws_szOwedS _ _ (by omega) (by omega) (by omega)⟩,I,I⟩,?_⟩
 refine W.sq ?_
 refine g 2 3 [] ?_
 conv=>whnf
 refine ⟨⟨I,I,I⟩,?_⟩
 refine W.cn ?_
 conv=>whnf
 refine ⟨fun h5=>?_,fun h5=>?_⟩
 replace h5:=dt h5
 refine g 33 35 [] ?_
 conv=>whnf
 refine ⟨⟨I,I⟩,?_⟩
 refine W.ret ?_
 refine EndsW.rt ?_
 conv=>whnf
 refine ⟨⟨I,I,I⟩,?_,rfl⟩
 exact vi (by omega)
 replace h5:=df h5
 refine W.skip ?_
 refine g 33 36 [] ?_
 conv=>whnf
 refine ⟨⟨I,I,I⟩,?_⟩
 refine W.ret ?_
 refine EndsW.rt ?_
 conv=>whnf
 refine ⟨⟨I,I,I⟩,?_,rfl⟩
 exact vi (by omega)
theorem c_laws_toLog (x:Log) (h:logSz x ≤ 1048576):F n_laws_toLog [.val (logR x)] (logO x) [[]]:=by
 have hn0:=totS_nn x.safe
 have hn1:=totS_nn x.loose
 have hz:logSz x = ((x.safe.length:Int) + totS x.safe) + ((x.loose.length:Int) + totS x.loose):=rfl
 refine i_laws_toLog ?_
 conv=>whnf
 refine g 0 1 [] ?_
 conv=>whnf
 refine ⟨⟨⟨I,I,I⟩,I,I⟩,?_⟩
 refine g 0 0 [] ?_
 conv=>whnf
 refine ⟨⟨I,I⟩,?_⟩
 refine g 4 8 [.call (V.own [false] (List.map strT (Log.safe x))) ([[]])] ?_
 conv=>whnf
 refine ⟨⟨I,I,⟨⟨I,I⟩,I,⟨⟨I,I⟩,I⟩,⟨I,I⟩,Go.K.c_laws_toStringS _ (by omega)⟩,I,⟨I,I⟩,I⟩,?_⟩
 refine g 8 12 [.call (V.own [false] (List.map strT (Log.loose x))) ([[]])] ?_
 conv=>whnf
 refine ⟨⟨I,I,⟨⟨I,I⟩,I,⟨⟨I,I⟩,I⟩,⟨I,I⟩,Go.K.c_laws_toStringS _ (by omega)⟩,I,⟨I,I⟩,I⟩,?_⟩
 refine g 3 13 [] ?_
 conv=>whnf
 refine ⟨⟨I,⟨I,I,I⟩,I⟩,?_⟩
 refine W.ret ?_
 refine EndsW.rt ?_
 conv=>whnf
 refine ⟨⟨I,I,I,I⟩,?_,rfl⟩
 rfl
theorem c_laws_toJob (x:Job):F n_laws_toJob [.val (jobR x)] (jobO x) [[]]:=by
 refine i_laws_toJob ?_
 conv=>whnf
 refine g 0 1 [] ?_
 conv=>whnf
 refine ⟨⟨⟨I,I,I,I⟩,I,I⟩,?_⟩
 refine g 0 0 [] ?_
 conv=>whnf
 refine ⟨⟨I,I⟩,?_⟩
 refine g 4 7 [] ?_
 conv=>whnf
 refine ⟨⟨I,I,I,⟨I,I⟩,I⟩,?_⟩
 refine g 7 10 [] ?_
 conv=>whnf
 refine ⟨⟨I,I,I,⟨I,I⟩,I⟩,?_⟩
 refine g 10 13 [] ?_
 conv=>whnf
 refine ⟨⟨I,I,I,⟨I,I⟩,I⟩,?_⟩
 refine g 3 14 [] ?_
 conv=>whnf
 refine ⟨⟨I,⟨I,I,I,I⟩,I⟩,?_⟩
 refine W.ret ?_
 refine EndsW.rt ?_
 conv=>whnf
 refine ⟨⟨I,I,I,I,I⟩,?_,rfl⟩
 rfl
theorem c_laws_toJobS (xs:List Job) (h:(xs.length:Int) ≤ 1048576):F n_laws_toJobS [.val (.t (.slc jobK (xs.map jobT)))] (.own jobK (xs.map jobT)) [[]]:=by
 refine i_laws_toJobS ?_
 conv=>whnf
 refine g 0 0 [] ?_
 conv=>whnf
 refine ⟨⟨I,I⟩,?_⟩
 refine g 5 8 [.n (List.length (List.map jobT xs))] ?_
 conv=>whnf
 refine ⟨⟨I,I,⟨rfl,rfl,(by simp only [lens]; omega)⟩,I,I⟩,?_⟩
 refine W.sq ?_
 refine g 0 0 [] ?_
 conv=>whnf
 refine ⟨⟨I,I⟩,?_⟩
 refine W.blk ?_
 refine W.lp (fun s (n:Nat)=>⟨[(0,s.s 0),(2,s.s 2),(3,s.s 3),(4,.i n)],[(7,[.own jobK (fill jobT (jobT noJob) xs n)])],[]⟩) (fun (n:Nat)=>n ≤ xs.length) (fun (n:Nat)=>xs.length - n) (0) [some 7] [] ⟨rfl,⟨rfl,rfl,rfl,rfl,I⟩,⟨⟨rfl,⟨(congrArg (V.own _) (fill_zero' (by simp) rfl)),I⟩⟩,I⟩,I⟩ (by omega) ?_
 intro n hn
 conv=>whnf
 refine W.sq ?_
 refine g 8 11 [] ?_
 conv=>whnf
 refine ⟨⟨I,I,I,I,I⟩,?_⟩
 refine W.cn ?_
 conv=>whnf
 refine ⟨fun h1=>?_,fun h1=>?_⟩
 replace h1:=dt h1
 simp only [List.length_map] at h1
 refine W.skip ?_
 refine W.sq ?_
 refine W.blk ?_
 obtain ⟨y1,hy1⟩:=some_at (xs:=xs) (n:=n) (by omega)
 refine rg [.x (jobT y1),.call (jobO y1) ([[]]),.n (n),.x (jobT noJob)] ?_
 conv=>whnf
 refine ⟨⟨I,I,I,I,⟨(by omega),ixl (by assumption)⟩,I,⟨⟨I,I⟩,I,⟨⟨I,I,I,I⟩,I⟩,⟨I,I⟩,Go.K.c_laws_toJob _⟩,⟨rfl,(by simp only [lens]; omega)⟩,⟨⟨I,I,I,I⟩,fill_get (by omega)⟩,I⟩,?_⟩
 refine rg [.i ((↑n:Int) + (1:Int))] ?_
 conv=>whnf
 refine ⟨⟨I,w64 (by omega) (by omega),I,I⟩,?_⟩
 rotate_left 1
 replace h1:=df h1
 simp only [List.length_map] at h1
 refine W.exit ?_
 refine g 3 23 [] ?_
 conv=>whnf
 refine ⟨⟨I,I,I⟩,?_⟩
 refine W.ret ?_
 refine EndsW.rt ?_
 conv=>whnf
 refine ⟨⟨I,I,I⟩,?_,rfl⟩
 rotate_left 1
 ·refine ⟨n + 1,[some 7],[],⟨rfl,⟨rfl,rfl,rfl,rfl,I⟩,⟨⟨rfl,⟨(congrArg (V.own _) (fill_set (by assumption))),I⟩⟩,I⟩,I⟩,?_,?_⟩
  rotate_left 1
  (dsimp only; omega)
  dsimp only
  omega
 ·have e:fill jobT (jobT noJob) xs n = xs.map jobT:=fill_all _ _ _ (by omega)
  rw [← e]
theorem c_laws_toSeat (x:Seat):F n_laws_toSeat [.val (seatR x)] (seatO x) [[]]:=by
 refine i_laws_toSeat ?_
 conv=>whnf
 refine g 0 1 [] ?_
 conv=>whnf
 refine ⟨⟨⟨I,I,I⟩,I,I⟩,?_⟩
 refine g 0 0 [] ?_
 conv=>whnf
 refine ⟨⟨I,I⟩,?_⟩
 refine g 4 7 [] ?_
 conv=>whnf
 refine ⟨⟨I,I,I,⟨I,I⟩,I⟩,?_⟩
 refine g 7 10 [] ?_
 conv=>whnf
 refine ⟨⟨I,I,I,⟨I,I⟩,I⟩,?_⟩
 refine g 3 11 [] ?_
 conv=>whnf
 refine ⟨⟨I,⟨I,I,I⟩,I⟩,?_⟩
 refine W.ret ?_
 refine EndsW.rt ?_
 conv=>whnf
 refine ⟨⟨I,I,I,I⟩,?_,rfl⟩
 rfl
theorem c_laws_toSeatS (xs:List Seat) (h:(xs.length:Int) ≤ 1048576):F n_laws_toSeatS [.val (.t (.slc seatK (xs.map seatT)))] (.own seatK (xs.map seatT)) [[]]:=by
 refine i_laws_toSeatS ?_
 conv=>whnf
 refine g 0 0 [] ?_
 conv=>whnf
 refine ⟨⟨I,I⟩,?_⟩
 refine g 5 8 [.n (List.length (List.map seatT xs))] ?_
 conv=>whnf
 refine ⟨⟨I,I,⟨rfl,rfl,(by simp only [lens]; omega)⟩,I,I⟩,?_⟩
 refine W.sq ?_
 refine g 0 0 [] ?_
 conv=>whnf
 refine ⟨⟨I,I⟩,?_⟩
 refine W.blk ?_
 refine W.lp (fun s (n:Nat)=>⟨[(0,s.s 0),(2,s.s 2),(3,s.s 3),(4,.i n)],[(7,[.own seatK (fill seatT (seatT noSeat) xs n)])],[]⟩) (fun (n:Nat)=>n ≤ xs.length) (fun (n:Nat)=>xs.length - n) (0) [some 7] [] ⟨rfl,⟨rfl,rfl,rfl,rfl,I⟩,⟨⟨rfl,⟨(congrArg (V.own _) (fill_zero' (by simp) rfl)),I⟩⟩,I⟩,I⟩ (by omega) ?_
 intro n hn
 conv=>whnf
 refine W.sq ?_
 refine g 8 11 [] ?_
 conv=>whnf
 refine ⟨⟨I,I,I,I,I⟩,?_⟩
 refine W.cn ?_
 conv=>whnf
 refine ⟨fun h1=>?_,fun h1=>?_⟩
 replace h1:=dt h1
 simp only [List.length_map] at h1
 refine W.skip ?_
 refine W.sq ?_
 refine W.blk ?_
 obtain ⟨y1,hy1⟩:=some_at (xs:=xs) (n:=n) (by omega)
 refine rg [.x (seatT y1),.call (seatO y1) ([[]]),.n (n),.x (seatT noSeat)] ?_
 conv=>whnf
 refine ⟨⟨I,I,I,I,⟨(by omega),ixl (by assumption)⟩,I,⟨⟨I,I⟩,I,⟨⟨I,I,I⟩,I⟩,⟨I,I⟩,Go.K.c_laws_toSeat _⟩,⟨rfl,(by simp only [lens]; omega)⟩,⟨⟨I,I,I⟩,fill_get (by omega)⟩,I⟩,?_⟩
 refine rg [.i ((↑n:Int) + (1:Int))] ?_
 conv=>whnf
 refine ⟨⟨I,w64 (by omega) (by omega),I,I⟩,?_⟩
 rotate_left 1
 replace h1:=df h1
 simp only [List.length_map] at h1
 refine W.exit ?_
 refine g 3 23 [] ?_
 conv=>whnf
 refine ⟨⟨I,I,I⟩,?_⟩
 refine W.ret ?_
 refine EndsW.rt ?_
 conv=>whnf
 refine ⟨⟨I,I,I⟩,?_,rfl⟩
 rotate_left 1
 ·refine ⟨n + 1,[some 7],[],⟨rfl,⟨rfl,rfl,rfl,rfl,I⟩,⟨⟨rfl,⟨(congrArg (V.own _) (fill_set (by assumption))),I⟩⟩,I⟩,I⟩,?_,?_⟩
  rotate_left 1
  (dsimp only; omega)
  dsimp only
  omega
 ·have e:fill seatT (seatT noSeat) xs n = xs.map seatT:=fill_all _ _ _ (by omega)
  rw [← e]
theorem c_laws_toOwed (x:Owed):F n_laws_toOwed [.val (owedR x)] (owedO x) [[]]:=by
 refine i_laws_toOwed ?_
 conv=>whnf
 refine g 0 1 [] ?_
 conv=>whnf
 refine ⟨⟨⟨I,I,I,I⟩,I,I⟩,?_⟩
 refine g 0 0 [] ?_
 conv=>whnf
 refine ⟨⟨I,I⟩,?_⟩
 refine g 4 7 [] ?_
 conv=>whnf
 refine ⟨⟨I,I,I,⟨I,I⟩,I⟩,?_⟩
 refine g 7 10 [] ?_
 conv=>whnf
 refine ⟨⟨I,I,I,⟨I,I⟩,I⟩,?_⟩
 refine g 10 13 [] ?_
 conv=>whnf
 refine ⟨⟨I,I,I,⟨I,I⟩,I⟩,?_⟩
 refine g 3 14 [] ?_
 conv=>whnf
 refine ⟨⟨I,⟨I,I,I,I⟩,I⟩,?_⟩
 refine W.ret ?_
 refine EndsW.rt ?_
 conv=>whnf
 refine ⟨⟨I,I,I,I,I⟩,?_,rfl⟩
 rfl
theorem c_laws_toOwedS (xs:List Owed) (h:(xs.length:Int) ≤ 1048576):F n_laws_toOwedS [.val (.t (.slc owedK (xs.map owedT)))] (.own owedK (xs.map owedT)) [[]]:=by
 refine i_laws_toOwedS ?_
 conv=>whnf
 refine g 0 0 [] ?_
 conv=>whnf
 refine ⟨⟨I,I⟩,?_⟩
 refine g 5 8 [.n (List.length (List.map owedT xs))] ?_
 conv=>whnf
 refine ⟨⟨I,I,⟨rfl,rfl,(by simp only [lens]; omega)⟩,I,I⟩,?_⟩
 refine W.sq ?_
 refine g 0 0 [] ?_
 conv=>whnf
 refine ⟨⟨I,I⟩,?_⟩
 refine W.blk ?_
 refine W.lp (fun s (n:Nat)=>⟨[(0,s.s 0),(2,s.s 2),(3,s.s 3),(4,.i n)],[(7,[.own owedK (fill owedT (owedT noOwed) xs n)])],[]⟩) (fun (n:Nat)=>n ≤ xs.length) (fun (n:Nat)=>xs.length - n) (0) [some 7] [] ⟨rfl,⟨rfl,rfl,rfl,rfl,I⟩,⟨⟨rfl,⟨(congrArg (V.own _) (fill_zero' (by simp) rfl)),I⟩⟩,I⟩,I⟩ (by omega) ?_
 intro n hn
 conv=>whnf
 refine W.sq ?_
 refine g 8 11 [] ?_
 conv=>whnf
 refine ⟨⟨I,I,I,I,I⟩,?_⟩
 refine W.cn ?_
 conv=>whnf
 refine ⟨fun h1=>?_,fun h1=>?_⟩
 replace h1:=dt h1
 simp only [List.length_map] at h1
 refine W.skip ?_
 refine W.sq ?_
 refine W.blk ?_
 obtain ⟨y1,hy1⟩:=some_at (xs:=xs) (n:=n) (by omega)
 refine rg [.x (owedT y1),.call (owedO y1) ([[]]),.n (n),.x (owedT noOwed)] ?_
 conv=>whnf
 refine ⟨⟨I,I,I,I,⟨(by omega),ixl (by assumption)⟩,I,⟨⟨I,I⟩,I,⟨⟨I,I,I,I⟩,I⟩,⟨I,I⟩,Go.K.c_laws_toOwed _⟩,⟨rfl,(by simp only [lens]; omega)⟩,⟨⟨I,I,I,I⟩,fill_get (by omega)⟩,I⟩,?_⟩
 refine rg [.i ((↑n:Int) + (1:Int))] ?_
 conv=>whnf
 refine ⟨⟨I,w64 (by omega) (by omega),I,I⟩,?_⟩
 rotate_left 1
 replace h1:=df h1
 simp only [List.length_map] at h1
 refine W.exit ?_
 refine g 3 23 [] ?_
 conv=>whnf
 refine ⟨⟨I,I,I⟩,?_⟩
 refine W.ret ?_
 refine EndsW.rt ?_
 conv=>whnf
 refine ⟨⟨I,I,I⟩,?_,rfl⟩
 rotate_left 1
 ·refine ⟨n + 1,[some 7],[],⟨rfl,⟨rfl,rfl,rfl,rfl,I⟩,⟨⟨rfl,⟨(congrArg (V.own _) (fill_set (by assumption))),I⟩⟩,I⟩,I⟩,?_,?_⟩
  rotate_left 1
  (dsimp only; omega)
  dsimp only
  omega
 ·have e:fill owedT (owedT noOwed) xs n = xs.map owedT:=fill_all _ _ _ (by omega)
  rw [← e]
theorem c_laws_toBoss (x:Boss) (h:bossSz x ≤ 1048576):F n_laws_toBoss [.val (bossR x)] (bossO x) [[]]:=by
 have hn0:=logSz_nn x.log
 have hn1:=totS_nn x.results
 have hz:bossSz x = logSz x.log + ((x.results.length:Int) + totS x.results) + ((x.jobs.length:Int)) + ((x.seats.length:Int)) + ((x.owed.length:Int)):=rfl
 refine i_laws_toBoss ?_
 conv=>whnf
 refine g 0 1 [] ?_
 conv=>whnf
 refine ⟨⟨⟨I,I,I,I,I,I,I,I,I,I,I,I,I⟩,I,I⟩,?_⟩
 refine g 0 0 [] ?_
 conv=>whnf
 refine ⟨⟨I,I⟩,?_⟩
 refine g 4 7 [] ?_
 conv=>whnf
 refine ⟨⟨I,I,I,⟨I,I⟩,I⟩,?_⟩
 refine g 7 10 [] ?_
 conv=>whnf
 refine ⟨⟨I,I,I,⟨I,I⟩,I⟩,?_⟩
 refine g 10 13 [] ?_
 conv=>whnf
 refine ⟨⟨I,I,I,⟨I,I⟩,I⟩,?_⟩
 refine g 13 16 [] ?_
 conv=>whnf
 refine ⟨⟨I,I,I,⟨I,I⟩,I⟩,?_⟩
 refine g 16 19 [] ?_
 conv=>whnf
 refine ⟨⟨I,I,I,⟨I,I⟩,I⟩,?_⟩
 refine g 19 22 [] ?_
 conv=>whnf
 refine ⟨⟨I,I,I,⟨I,I⟩,I⟩,?_⟩
 refine g 22 26 [.call (logO (Boss.log x)) ([[]])] ?_
 conv=>whnf
 refine ⟨⟨I,I,⟨⟨I,I⟩,I,⟨⟨I,I,I⟩,I⟩,⟨I,I⟩,Go.K.c_laws_toLog _ (by omega)⟩,I,⟨I,I,I⟩,I⟩,?_⟩
 refine g 26 30 [.call (V.own [false] (List.map strT (Boss.results x))) ([[]])] ?_
 conv=>whnf
 refine ⟨⟨I,I,⟨⟨I,I⟩,I,⟨⟨I,I⟩,I⟩,⟨I,I⟩,Go.K.c_laws_toStringS _ (by omega)⟩,I,⟨I,I⟩,I⟩,?_⟩
 refine g 30 34 [.call (V.own jobK (List.map jobT (Boss.jobs x))) ([[]])] ?_
 conv=>whnf
 refine ⟨⟨I,I,⟨⟨I,I⟩,I,⟨⟨I,I⟩,I⟩,⟨I,I⟩,Go.K.c_laws_toJobS _ (by omega)⟩,I,⟨I,I⟩,I⟩,?_⟩
 refine g 34 38 [.call (V.own seatK (List.map seatT (Boss.seats x))) ([[]])] ?_
 conv=>whnf
 refine ⟨⟨I,I,⟨⟨I,I⟩,I,⟨⟨I,I⟩,I⟩,⟨I,I⟩,Go.K.c_laws_toSeatS _ (by omega)⟩,I,⟨I,I⟩,I⟩,?_⟩
 refine g 38 40 [.call (V.own owedK (List.map owedT (Boss.owed x))) ([[]])] ?_
 conv=>whnf
 refine ⟨⟨I,I,⟨⟨I,I⟩,I,⟨⟨I,I⟩,I⟩,⟨I,I⟩,Go.K.c_laws_toOwedS _ (by omega)⟩,I,⟨I,I⟩,I⟩,?_⟩
 refine g 41 43 [] ?_
 conv=>whnf
 refine ⟨⟨I,⟨I,I,I,I,I,I,I,I,I,I,I,I,I⟩,I⟩,?_⟩
 refine W.ret ?_
 refine EndsW.rt ?_
 conv=>whnf
 refine ⟨⟨I,I,I,I,I,I,I,I,I,I,I,I,I,I⟩,?_,rfl⟩
 rfl
def logLen (a:Log):Prop:=a.safe.length ≤ 9223372036854775806 ∧ a.loose.length ≤ 9223372036854775806
theorem c_laws_eqLog (a b:Log) (hl:logLen a):F n_laws_eqLog [.val (logR a),.val (logR b)] (.b (decide (a = b))) [[],[]]:=by
 obtain ⟨a_safe,a_loose⟩:=a
 obtain ⟨b_safe,b_loose⟩:=b
 simp only [logLen] at hl
 obtain ⟨hl0,hl1⟩:=hl
 refine i_laws_eqLog ?_
 conv=>whnf
 refine g 0 2 [] ?_
 conv=>whnf
 refine ⟨⟨⟨I,I,I⟩,⟨I,I,I⟩,I,I⟩,?_⟩
 refine W.sq ?_
 refine g 5 10 [.call (V.b (decide (a_safe = b_safe))) ([[],[]])] ?_
 conv=>whnf
 refine ⟨⟨I,I,I,I,⟨⟨I,I,I⟩,I,⟨⟨I,I⟩,⟨I,I⟩,I⟩,⟨I,I⟩,Go.K.c_laws_eqStringS _ _ (by omega)⟩,I,I⟩,?_⟩
 refine W.cn ?_
 conv=>whnf
 refine ⟨fun h1=>?_,fun h1=>?_⟩
 replace h1:=ndt h1
 refine g 10 11 [] ?_
 conv=>whnf
 refine ⟨⟨I,I⟩,?_⟩
 refine W.ret ?_
 refine EndsW.rt ?_
 conv=>whnf
 refine ⟨⟨I,I,I⟩,?_,rfl⟩
 rotate_left 1
 replace h1:=ndf h1
 refine W.skip ?_
 refine W.sq ?_
 refine g 10 16 [.call (V.b (decide (a_loose = b_loose))) ([[],[]])] ?_
 conv=>whnf
 refine ⟨⟨I,I,I,I,⟨⟨I,I,I⟩,I,⟨⟨I,I⟩,⟨I,I⟩,I⟩,⟨I,I⟩,Go.K.c_laws_eqStringS _ _ (by omega)⟩,I,I⟩,?_⟩
 refine W.cn ?_
 conv=>whnf
 refine ⟨fun h2=>?_,fun h2=>?_⟩
 replace h2:=ndt h2
 refine g 2 4 [] ?_
 conv=>whnf
 refine ⟨⟨I,I⟩,?_⟩
 refine W.ret ?_
 refine EndsW.rt ?_
 conv=>whnf
 refine ⟨⟨I,I,I⟩,?_,rfl⟩
 rotate_left 1
 replace h2:=ndf h2
 refine W.skip ?_
 refine g 2 4 [] ?_
 conv=>whnf
 refine ⟨⟨I,I⟩,?_⟩
 refine W.ret ?_
 refine EndsW.rt ?_
 conv=>whnf
 refine ⟨⟨I,I,I⟩,?_,rfl⟩
 rotate_left 1
 all_goals (first | exact vbt (by simp_all; done) | exact vbf (by simp_all; done))
theorem c_laws_eqJob (a b:Job):F n_laws_eqJob [.val (jobR a),.val (jobR b)] (.b (decide (a = b))) [[],[]]:=by
 obtain ⟨a_lease,a_worker,a_til⟩:=a
 obtain ⟨b_lease,b_worker,b_til⟩:=b
 refine i_laws_eqJob ?_
 conv=>whnf
 refine g 0 2 [] ?_
 conv=>whnf
 refine ⟨⟨⟨I,I,I,I⟩,⟨I,I,I,I⟩,I,I⟩,?_⟩
 refine W.sq ?_
 refine g 5 9 [] ?_
 conv=>whnf
 refine ⟨⟨I,I,I,I,I,I⟩,?_⟩
 refine W.cn ?_
 conv=>whnf
 refine ⟨fun h1=>?_,fun h1=>?_⟩
 replace h1:=ndt h1
 refine g 9 10 [] ?_
 conv=>whnf
 refine ⟨⟨I,I⟩,?_⟩
 refine W.ret ?_
 refine EndsW.rt ?_
 conv=>whnf
 refine ⟨⟨I,I,I⟩,?_,rfl⟩
 rotate_left 1
 replace h1:=ndf h1
 refine W.skip ?_
 refine W.sq ?_
 refine g 9 14 [] ?_
 conv=>whnf
 refine ⟨⟨I,I,I,I,I,I⟩,?_⟩
 refine W.cn ?_
 conv=>whnf
 refine ⟨fun h2=>?_,fun h2=>?_⟩
 replace h2:=ndt h2
 refine g 14 15 [] ?_
 conv=>whnf
 refine ⟨⟨I,I⟩,?_⟩
 refine W.ret ?_
 refine EndsW.rt ?_
 conv=>whnf
 refine ⟨⟨I,I,I⟩,?_,rfl⟩
 rotate_left 1
 replace h2:=ndf h2
 refine W.skip ?_
 refine W.sq ?_
 refine g 14 19 [] ?_
 conv=>whnf
 refine ⟨⟨I,I,I,I,I,I⟩,?_⟩
 refine W.cn ?_
 conv=>whnf
 refine ⟨fun h3=>?_,fun h3=>?_⟩
 replace h3:=ndt h3
 refine g 2 4 [] ?_
 conv=>whnf
 refine ⟨⟨I,I⟩,?_⟩
 refine W.ret ?_
 refine EndsW.rt ?_
 conv=>whnf
 refine ⟨⟨I,I,I⟩,?_,rfl⟩
 rotate_left 1
 replace h3:=ndf h3
 refine W.skip ?_
 refine g 2 4 [] ?_
 conv=>whnf
 refine ⟨⟨I,I⟩,?_⟩
 refine W.ret ?_
 refine EndsW.rt ?_
 conv=>whnf
 refine ⟨⟨I,I,I⟩,?_,rfl⟩
 rotate_left 1
 all_goals (first | exact vbt (by simp_all; done) | exact vbf (by simp_all; done))
theorem c_laws_eqJobS (xs ys:List Job) (hl:xs.length ≤ 9223372036854775806):F n_laws_eqJobS [.val (.t (.slc jobK (xs.map jobT))),.val (.t (.slc jobK (ys.map jobT)))] (.b (decide (xs = ys))) [[],[]]:=by
 refine i_laws_eqJobS ?_
 conv=>whnf
 refine g 0 0 [] ?_
 conv=>whnf
 refine ⟨⟨I,I⟩,?_⟩
 refine W.sq ?_
 refine g 6 10 [] ?_
 conv=>whnf
 refine ⟨⟨I,I,I,I,I,I⟩,?_⟩
 refine W.cn ?_
 conv=>whnf
 refine ⟨fun h1=>?_,fun h1=>?_⟩
 replace h1:=ndt h1
 simp only [List.length_map] at h1
 refine g 10 11 [] ?_
 conv=>whnf
 refine ⟨⟨I,I⟩,?_⟩
 refine W.ret ?_
 refine EndsW.rt ?_
 conv=>whnf
 refine ⟨⟨I,I,I⟩,?_,rfl⟩
 rotate_left 1
 replace h1:=ndf h1
 simp only [List.length_map] at h1
 refine W.skip ?_
 refine W.sq ?_
 refine g 10 11 [] ?_
 conv=>whnf
 refine ⟨⟨I,I⟩,?_⟩
 refine W.blk ?_
 rotate_left 1
 ·exact vbf (fun e=>h1 (by rw [e]))
 refine W.lp (fun s (n:Nat)=>⟨[(0,s.s 0),(1,s.s 1),(5,.i n)],[],[]⟩) (fun (n:Nat)=>n ≤ xs.length ∧ xs.take n = ys.take n) (fun (n:Nat)=>xs.length - n) (0) [] [] ⟨rfl,⟨rfl,rfl,rfl,I⟩,I,I⟩ (by simp) ?_
 rintro n ⟨hn,hc⟩
 conv=>whnf
 refine W.sq ?_
 refine g 11 14 [] ?_
 conv=>whnf
 refine ⟨⟨I,I,I,I,I⟩,?_⟩
 refine W.cn ?_
 conv=>whnf
 refine ⟨fun h2=>?_,fun h2=>?_⟩
 replace h2:=dt h2
 simp only [List.length_map] at h2
 refine W.skip ?_
 refine W.sq ?_
 refine W.blk ?_
 obtain ⟨y1,hy1⟩:=some_at (xs:=xs) (n:=n) (by omega)
 obtain ⟨y2,hy2⟩:=some_at (xs:=ys) (n:=n) (by omega)
 refine gd 14 26 [[],[],[.x (jobT y1)],[],[],[],[.x (jobT y2)],[],[.call (V.b (decide (y1 = y2))) ([[],[]])],[]] ?_
 conv=>whnf
 refine ⟨⟨I,I,⟨(by omega),ixl (by assumption)⟩,I,I,I,⟨(by omega),ixl (by assumption)⟩,I,⟨⟨I,I,I⟩,I,⟨⟨I,I,I,I⟩,⟨I,I,I,I⟩,I⟩,⟨I,I⟩,Go.K.c_laws_eqJob _ _⟩,I,I⟩,by kernel_rfl,?_⟩
 refine W.cn ?_
 conv=>whnf
 refine ⟨fun h3=>?_,fun h3=>?_⟩
 replace h3:=ndt h3
 refine g 26 27 [] ?_
 conv=>whnf
 refine ⟨⟨I,I⟩,?_⟩
 refine W.ret ?_
 refine EndsW.rt ?_
 conv=>whnf
 refine ⟨⟨I,I,I⟩,?_,rfl⟩
 rotate_left 1
 replace h3:=ndf h3
 refine W.skip ?_
 refine rg [.i ((↑n:Int) + (1:Int))] ?_
 conv=>whnf
 refine ⟨⟨I,w64 (by omega) (by omega),I,I⟩,?_⟩
 rotate_left 1
 replace h2:=df h2
 simp only [List.length_map] at h2
 refine W.exit ?_
 refine g 0 2 [] ?_
 conv=>whnf
 refine ⟨⟨I,I⟩,?_⟩
 refine W.ret ?_
 refine EndsW.rt ?_
 conv=>whnf
 refine ⟨⟨I,I,I⟩,?_,rfl⟩
 rotate_left 1
 ·exact vbf (fun e=>by subst e; rw [hy1] at hy2; cases hy2; exact h3 rfl)
 ·refine ⟨n + 1,[],[],⟨rfl,⟨rfl,rfl,rfl,I⟩,I,I⟩,?_,?_⟩
  rotate_left 1
  (dsimp only; omega)
  dsimp only
  exact ⟨by omega,take_eq hc hy1 (by rw [hy2]; exact congrArg some (Eq.symm h3))⟩
 ·exact vbt (by rw [take_all (by omega),take_all (by omega)] at hc; exact hc)
theorem c_laws_eqSeat (a b:Seat):F n_laws_eqSeat [.val (seatR a),.val (seatR b)] (.b (decide (a = b))) [[],[]]:=by
 obtain ⟨a_free,a_epoch⟩:=a
 obtain ⟨b_free,b_epoch⟩:=b
 refine i_laws_eqSeat ?_
 conv=>whnf
 refine g 0 2 [] ?_
 conv=>whnf
 refine ⟨⟨⟨I,I,I⟩,⟨I,I,I⟩,I,I⟩,?_⟩
 refine W.sq ?_
 refine g 5 9 [] ?_
 conv=>whnf
 refine ⟨⟨I,I,I,I,I,I⟩,?_⟩
 refine W.cn ?_
 conv=>whnf
 refine ⟨fun h1=>?_,fun h1=>?_⟩
 replace h1:=nbt h1
 refine g 9 10 [] ?_
 conv=>whnf
 refine ⟨⟨I,I⟩,?_⟩
 refine W.ret ?_
 refine EndsW.rt ?_
 conv=>whnf
 refine ⟨⟨I,I,I⟩,?_,rfl⟩
 rotate_left 1
 replace h1:=nbf h1
 refine W.skip ?_
 refine W.sq ?_
 refine g 9 14 [] ?_
 conv=>whnf
 refine ⟨⟨I,I,I,I,I,I⟩,?_⟩
 refine W.cn ?_
 conv=>whnf
 refine ⟨fun h2=>?_,fun h2=>?_⟩
 replace h2:=ndt h2
 refine g 2 4 [] ?_
 conv=>whnf
 refine ⟨⟨I,I⟩,?_⟩
 refine W.ret ?_
 refine EndsW.rt ?_
 conv=>whnf
 refine ⟨⟨I,I,I⟩,?_,rfl⟩
 rotate_left 1
 replace h2:=ndf h2
 refine W.skip ?_
 refine g 2 4 [] ?_
 conv=>whnf
 refine ⟨⟨I,I⟩,?_⟩
 refine W.ret ?_
 refine EndsW.rt ?_
 conv=>whnf
 refine ⟨⟨I,I,I⟩,?_,rfl⟩
 rotate_left 1
 all_goals (first | exact vbt (by simp_all; done) | exact vbf (by simp_all; done))
theorem c_laws_eqSeatS (xs ys:List Seat) (hl:xs.length ≤ 9223372036854775806):F n_laws_eqSeatS [.val (.t (.slc seatK (xs.map seatT))),.val (.t (.slc seatK (ys.map seatT)))] (.b (decide (xs = ys))) [[],[]]:=by
 refine i_laws_eqSeatS ?_
 conv=>whnf
 refine g 0 0 [] ?_
 conv=>whnf
 refine ⟨⟨I,I⟩,?_⟩
 refine W.sq ?_
 refine g 6 10 [] ?_
 conv=>whnf
 refine ⟨⟨I,I,I,I,I,I⟩,?_⟩
 refine W.cn ?_
 conv=>whnf
 refine ⟨fun h1=>?_,fun h1=>?_⟩
 replace h1:=ndt h1
 simp only [List.length_map] at h1
 refine g 10 11 [] ?_
 conv=>whnf
 refine ⟨⟨I,I⟩,?_⟩
 refine W.ret ?_
 refine EndsW.rt ?_
 conv=>whnf
 refine ⟨⟨I,I,I⟩,?_,rfl⟩
 rotate_left 1
 replace h1:=ndf h1
 simp only [List.length_map] at h1
 refine W.skip ?_
 refine W.sq ?_
 refine g 10 11 [] ?_
 conv=>whnf
 refine ⟨⟨I,I⟩,?_⟩
 refine W.blk ?_
 rotate_left 1
 ·exact vbf (fun e=>h1 (by rw [e]))
 refine W.lp (fun s (n:Nat)=>⟨[(0,s.s 0),(1,s.s 1),(5,.i n)],[],[]⟩) (fun (n:Nat)=>n ≤ xs.length ∧ xs.take n = ys.take n) (fun (n:Nat)=>xs.length - n) (0) [] [] ⟨rfl,⟨rfl,rfl,rfl,I⟩,I,I⟩ (by simp) ?_
 rintro n ⟨hn,hc⟩
 conv=>whnf
 refine W.sq ?_
 refine g 11 14 [] ?_
 conv=>whnf
 refine ⟨⟨I,I,I,I,I⟩,?_⟩
 refine W.cn ?_
 conv=>whnf
 refine ⟨fun h2=>?_,fun h2=>?_⟩
 replace h2:=dt h2
 simp only [List.length_map] at h2
 refine W.skip ?_
 refine W.sq ?_
 refine W.blk ?_
 obtain ⟨y1,hy1⟩:=some_at (xs:=xs) (n:=n) (by omega)
 obtain ⟨y2,hy2⟩:=some_at (xs:=ys) (n:=n) (by omega)
 refine gd 14 26 [[],[],[.x (seatT y1)],[],[],[],[.x (seatT y2)],[],[.call (V.b (decide (y1 = y2))) ([[],[]])],[]] ?_
 conv=>whnf
 refine ⟨⟨I,I,⟨(by omega),ixl (by assumption)⟩,I,I,I,⟨(by omega),ixl (by assumption)⟩,I,⟨⟨I,I,I⟩,I,⟨⟨I,I,I⟩,⟨I,I,I⟩,I⟩,⟨I,I⟩,Go.K.c_laws_eqSeat _ _⟩,I,I⟩,by kernel_rfl,?_⟩
 refine W.cn ?_
 conv=>whnf
 refine ⟨fun h3=>?_,fun h3=>?_⟩
 replace h3:=ndt h3
 refine g 26 27 [] ?_
 conv=>whnf
 refine ⟨⟨I,I⟩,?_⟩
 refine W.ret ?_
 refine EndsW.rt ?_
 conv=>whnf
 refine ⟨⟨I,I,I⟩,?_,rfl⟩
 rotate_left 1
 replace h3:=ndf h3
 refine W.skip ?_
 refine rg [.i ((↑n:Int) + (1:Int))] ?_
 conv=>whnf
 refine ⟨⟨I,w64 (by omega) (by omega),I,I⟩,?_⟩
 rotate_left 1
 replace h2:=df h2
 simp only [List.length_map] at h2
 refine W.exit ?_
 refine g 0 2 [] ?_
 conv=>whnf
 refine ⟨⟨I,I⟩,?_⟩
 refine W.ret ?_
 refine EndsW.rt ?_
 conv=>whnf
 refine ⟨⟨I,I,I⟩,?_,rfl⟩
 rotate_left 1
 ·exact vbf (fun e=>by subst e; rw [hy1] at hy2; cases hy2; exact h3 rfl)
 ·refine ⟨n + 1,[],[],⟨rfl,⟨rfl,rfl,rfl,I⟩,I,I⟩,?_,?_⟩
  rotate_left 1
  (dsimp only; omega)
  dsimp only
  exact ⟨by omega,take_eq hc hy1 (by rw [hy2]; exact congrArg some (Eq.symm h3))⟩
 ·exact vbt (by rw [take_all (by omega),take_all (by omega)] at hc; exact hc)
theorem c_laws_eqOwed (a b:Owed):F n_laws_eqOwed [.val (owedR a),.val (owedR b)] (.b (decide (a = b))) [[],[]]:=by
 obtain ⟨a_worker,a_lease,a_task⟩:=a
 obtain ⟨b_worker,b_lease,b_task⟩:=b
 refine i_laws_eqOwed ?_
 conv=>whnf
 refine g 0 2 [] ?_
 conv=>whnf
 refine ⟨⟨⟨I,I,I,I⟩,⟨I,I,I,I⟩,I,I⟩,?_⟩
 refine W.sq ?_
 refine g 5 9 [] ?_
 conv=>whnf
 refine ⟨⟨I,I,I,I,I,I⟩,?_⟩
 refine W.cn ?_
 conv=>whnf
 refine ⟨fun h1=>?_,fun h1=>?_⟩
 replace h1:=ndt h1
 refine g 9 10 [] ?_
 conv=>whnf
 refine ⟨⟨I,I⟩,?_⟩
 refine W.ret ?_
 refine EndsW.rt ?_
 conv=>whnf
 refine ⟨⟨I,I,I⟩,?_,rfl⟩
 rotate_left 1
 replace h1:=ndf h1
 refine W.skip ?_
 refine W.sq ?_
 refine g 9 14 [] ?_
 conv=>whnf
 refine ⟨⟨I,I,I,I,I,I⟩,?_⟩
 refine W.cn ?_
 conv=>whnf
 refine ⟨fun h2=>?_,fun h2=>?_⟩
 replace h2:=ndt h2
 refine g 14 15 [] ?_
 conv=>whnf
 refine ⟨⟨I,I⟩,?_⟩
 refine W.ret ?_
 refine EndsW.rt ?_
 conv=>whnf
 refine ⟨⟨I,I,I⟩,?_,rfl⟩
 rotate_left 1
 replace h2:=ndf h2
 refine W.skip ?_
 refine W.sq ?_
 refine g 14 19 [] ?_
 conv=>whnf
 refine ⟨⟨I,I,I,I,I,I⟩,?_⟩
 refine W.cn ?_
 conv=>whnf
 refine ⟨fun h3=>?_,fun h3=>?_⟩
 replace h3:=ndt h3
 refine g 2 4 [] ?_
 conv=>whnf
 refine ⟨⟨I,I⟩,?_⟩
 refine W.ret ?_
 refine EndsW.rt ?_
 conv=>whnf
 refine ⟨⟨I,I,I⟩,?_,rfl⟩
 rotate_left 1
 replace h3:=ndf h3
 refine W.skip ?_
 refine g 2 4 [] ?_
 conv=>whnf
 refine ⟨⟨I,I⟩,?_⟩
 refine W.ret ?_
 refine EndsW.rt ?_
 conv=>whnf
 refine ⟨⟨I,I,I⟩,?_,rfl⟩
 rotate_left 1
 all_goals (first | exact vbt (by simp_all; done) | exact vbf (by simp_all; done))
theorem c_laws_eqOwedS (xs ys:List Owed) (hl:xs.length ≤ 9223372036854775806):F n_laws_eqOwedS [.val (.t (.slc owedK (xs.map owedT))),.val (.t (.slc owedK (ys.map owedT)))] (.b (decide (xs = ys))) [[],[]]:=by
 refine i_laws_eqOwedS ?_
 conv=>whnf
 refine g 0 0 [] ?_
 conv=>whnf
 refine ⟨⟨I,I⟩,?_⟩
 refine W.sq ?_
 refine g 6 10 [] ?_
 conv=>whnf
 refine ⟨⟨I,I,I,I,I,I⟩,?_⟩
 refine W.cn ?_
 conv=>whnf
 refine ⟨fun h1=>?_,fun h1=>?_⟩
 replace h1:=ndt h1
 simp only [List.length_map] at h1
 refine g 10 11 [] ?_
 conv=>whnf
 refine ⟨⟨I,I⟩,?_⟩
 refine W.ret ?_
 refine EndsW.rt ?_
 conv=>whnf
 refine ⟨⟨I,I,I⟩,?_,rfl⟩
 rotate_left 1
 replace h1:=ndf h1
 simp only [List.length_map] at h1
 refine W.skip ?_
 refine W.sq ?_
 refine g 10 11 [] ?_
 conv=>whnf
 refine ⟨⟨I,I⟩,?_⟩
 refine W.blk ?_
 rotate_left 1
 ·exact vbf (fun e=>h1 (by rw [e]))
 refine W.lp (fun s (n:Nat)=>⟨[(0,s.s 0),(1,s.s 1),(5,.i n)],[],[]⟩) (fun (n:Nat)=>n ≤ xs.length ∧ xs.take n = ys.take n) (fun (n:Nat)=>xs.length - n) (0) [] [] ⟨rfl,⟨rfl,rfl,rfl,I⟩,I,I⟩ (by simp) ?_
 rintro n ⟨hn,hc⟩
 conv=>whnf
 refine W.sq ?_
 refine g 11 14 [] ?_
 conv=>whnf
 refine ⟨⟨I,I,I,I,I⟩,?_⟩
 refine W.cn ?_
 conv=>whnf
 refine ⟨fun h2=>?_,fun h2=>?_⟩
 replace h2:=dt h2
 simp only [List.length_map] at h2
 refine W.skip ?_
 refine W.sq ?_
 refine W.blk ?_
 obtain ⟨y1,hy1⟩:=some_at (xs:=xs) (n:=n) (by omega)
 obtain ⟨y2,hy2⟩:=some_at (xs:=ys) (n:=n) (by omega)
 refine gd 14 26 [[],[],[.x (owedT y1)],[],[],[],[.x (owedT y2)],[],[.call (V.b (decide (y1 = y2))) ([[],[]])],[]] ?_
 conv=>whnf
 refine ⟨⟨I,I,⟨(by omega),ixl (by assumption)⟩,I,I,I,⟨(by omega),ixl (by assumption)⟩,I,⟨⟨I,I,I⟩,I,⟨⟨I,I,I,I⟩,⟨I,I,I,I⟩,I⟩,⟨I,I⟩,Go.K.c_laws_eqOwed _ _⟩,I,I⟩,by kernel_rfl,?_⟩
 refine W.cn ?_
 conv=>whnf
 refine ⟨fun h3=>?_,fun h3=>?_⟩
 replace h3:=ndt h3
 refine g 26 27 [] ?_
 conv=>whnf
 refine ⟨⟨I,I⟩,?_⟩
 refine W.ret ?_
 refine EndsW.rt ?_
 conv=>whnf
 refine ⟨⟨I,I,I⟩,?_,rfl⟩
 rotate_left 1
 replace h3:=ndf h3
 refine W.skip ?_
 refine rg [.i ((↑n:Int) + (1:Int))] ?_
 conv=>whnf
 refine ⟨⟨I,w64 (by omega) (by omega),I,I⟩,?_⟩
 rotate_left 1
 replace h2:=df h2
 simp only [List.length_map] at h2
 refine W.exit ?_
 refine g 0 2 [] ?_
 conv=>whnf
 refine ⟨⟨I,I⟩,?_⟩
 refine W.ret ?_
 refine EndsW.rt ?_
 conv=>whnf
 refine ⟨⟨I,I,I⟩,?_,rfl⟩
 rotate_left 1
 ·exact vbf (fun e=>by subst e; rw [hy1] at hy2; cases hy2; exact h3 rfl)
 ·refine ⟨n + 1,[],[],⟨rfl,⟨rfl,rfl,rfl,I⟩,I,I⟩,?_,?_⟩
  rotate_left 1
  (dsimp only; omega)
  dsimp only
  exact ⟨by omega,take_eq hc hy1 (by rw [hy2]; exact congrArg some (Eq.symm h3))⟩
 ·exact vbt (by rw [take_all (by omega),take_all (by omega)] at hc; exact hc)
def bossLen (a:Boss):Prop:=a.log.safe.length ≤ 9223372036854775806 ∧ a.log.loose.length ≤ 9223372036854775806 ∧ a.results.length ≤ 9223372036854775806 ∧ a.jobs.length ≤ 9223372036854775806 ∧ a.seats.length ≤ 9223372036854775806 ∧ a.owed.length ≤ 9223372036854775806
theorem c_laws_eqBoss (a b:Boss) (hl:bossLen a):F n_laws_eqBoss [.val (bossR a),.val (bossR b)] (.b (decide (a = b))) [[],[]]:=by
 obtain ⟨a_workers,a_up,a_now,a_since,a_epoch,a_given,a_log,a_results,a_jobs,a_seats,a_owed⟩:=a
 obtain ⟨b_workers,b_up,b_now,b_since,b_epoch,b_given,b_log,b_results,b_jobs,b_seats,b_owed⟩:=b
 simp only [bossLen] at hl
 obtain ⟨hl0,hl1,hl2,hl3,hl4,hl5⟩:=hl
 have hx0:logLen a_log:=⟨hl0,hl1⟩
 refine i_laws_eqBoss ?_
 conv=>whnf
 refine g 0 2 [] ?_
 conv=>whnf
 refine ⟨⟨⟨I,I,I,I,I,I,I,I,I,I,I,I,I⟩,⟨I,I,I,I,I,I,I,I,I,I,I,I,I⟩,I,I⟩,?_⟩
 refine W.sq ?_
 refine g 5 9 [] ?_
 conv=>whnf
 refine ⟨⟨I,I,I,I,I,I⟩,?_⟩
 refine W.cn ?_
 conv=>whnf
 refine ⟨fun h1=>?_,fun h1=>?_⟩
 replace h1:=ndt h1
 refine g 9 10 [] ?_
 conv=>whnf
 refine ⟨⟨I,I⟩,?_⟩
 refine W.ret ?_
 refine EndsW.rt ?_
 conv=>whnf
 refine ⟨⟨I,I,I⟩,?_,rfl⟩
 rotate_left 1
 replace h1:=ndf h1
 refine W.skip ?_
 refine W.sq ?_
 refine g 9 14 [] ?_
 conv=>whnf
 refine ⟨⟨I,I,I,I,I,I⟩,?_⟩
 refine W.cn ?_
 conv=>whnf
 refine ⟨fun h2=>?_,fun h2=>?_⟩
 replace h2:=nbt h2
 refine g 14 15 [] ?_
 conv=>whnf
 refine ⟨⟨I,I⟩,?_⟩
 refine W.ret ?_
 refine EndsW.rt ?_
 conv=>whnf
 refine ⟨⟨I,I,I⟩,?_,rfl⟩
 rotate_left 1
 replace h2:=nbf h2
 refine W.skip ?_
 refine W.sq ?_
 refine g 14 19 [] ?_
 conv=>whnf
 refine ⟨⟨I,I,I,I,I,I⟩,?_⟩
 refine W.cn ?_
 conv=>whnf
 refine ⟨fun h3=>?_,fun h3=>?_⟩
 replace h3:=ndt h3
 refine g 19 20 [] ?_
 conv=>whnf
 refine ⟨⟨I,I⟩,?_⟩
 refine W.ret ?_
 refine EndsW.rt ?_
 conv=>whnf
 refine ⟨⟨I,I,I⟩,?_,rfl⟩
 rotate_left 1
 replace h3:=ndf h3
 refine W.skip ?_
 refine W.sq ?_
 refine g 19 24 [] ?_
 conv=>whnf
 refine ⟨⟨I,I,I,I,I,I⟩,?_⟩
 refine W.cn ?_
 conv=>whnf
 refine ⟨fun h4=>?_,fun h4=>?_⟩
 replace h4:=ndt h4
 refine g 24 25 [] ?_
 conv=>whnf
 refine ⟨⟨I,I⟩,?_⟩
 refine W.ret ?_
 refine EndsW.rt ?_
 conv=>whnf
 refine ⟨⟨I,I,I⟩,?_,rfl⟩
 rotate_left 1
 replace h4:=ndf h4
 refine W.skip ?_
 refine W.sq ?_
 refine g 24 29 [] ?_
 conv=>whnf
 refine ⟨⟨I,I,I,I,I,I⟩,?_⟩
 refine W.cn ?_
 conv=>whnf
 refine ⟨fun h5=>?_,fun h5=>?_⟩
 replace h5:=ndt h5
 refine g 29 30 [] ?_
 conv=>whnf
 refine ⟨⟨I,I⟩,?_⟩
 refine W.ret ?_
 refine EndsW.rt ?_
 conv=>whnf
 refine ⟨⟨I,I,I⟩,?_,rfl⟩
 rotate_left 1
 replace h5:=ndf h5
 refine W.skip ?_
 refine W.sq ?_
 refine g 29 34 [] ?_
 conv=>whnf
 refine ⟨⟨I,I,I,I,I,I⟩,?_⟩
 refine W.cn ?_
 conv=>whnf
 refine ⟨fun h6=>?_,fun h6=>?_⟩
 replace h6:=ndt h6
 refine g 34 35 [] ?_
 conv=>whnf
 refine ⟨⟨I,I⟩,?_⟩
 refine W.ret ?_
 refine EndsW.rt ?_
 conv=>whnf
 refine ⟨⟨I,I,I⟩,?_,rfl⟩
 rotate_left 1
 replace h6:=ndf h6
 refine W.skip ?_
 refine W.sq ?_
 refine g 34 40 [.call (V.b (decide (a_log = b_log))) ([[],[]])] ?_
 conv=>whnf
 refine ⟨⟨I,I,I,I,⟨⟨I,I,I⟩,I,⟨⟨I,I,I⟩,⟨I,I,I⟩,I⟩,⟨I,I⟩,Go.K.c_laws_eqLog _ _ (by omega)⟩,I,I⟩,?_⟩
 refine W.cn ?_
 conv=>whnf
 refine ⟨fun h7=>?_,fun h7=>?_⟩
 replace h7:=ndt h7
 refine g 40 41 [] ?_
 conv=>whnf
 refine ⟨⟨I,I⟩,?_⟩
 refine W.ret ?_
 refine EndsW.rt ?_
 conv=>whnf
 refine ⟨⟨I,I,I⟩,?_,rfl⟩
 rotate_left 1
 replace h7:=ndf h7
 refine W.skip ?_
 refine W.sq ?_
 refine g 40 46 [.call (V.b (decide (a_results = b_results))) ([[],[]])] ?_
 conv=>whnf
 refine ⟨⟨I,I,I,I,⟨⟨I,I,I⟩,I,⟨⟨I,I⟩,⟨I,I⟩,I⟩,⟨I,I⟩,Go.K.c_laws_eqStringS _ _ (by omega)⟩,I,I⟩,?_⟩
 refine W.cn ?_
 conv=>whnf
 refine ⟨fun h8=>?_,fun h8=>?_⟩
 replace h8:=ndt h8
 refine g 46 47 [] ?_
 conv=>whnf
 refine ⟨⟨I,I⟩,?_⟩
 refine W.ret ?_
 refine EndsW.rt ?_
 conv=>whnf
 refine ⟨⟨I,I,I⟩,?_,rfl⟩
 rotate_left 1
 replace h8:=ndf h8
 refine W.skip ?_
 refine W.sq ?_
 refine g 46 52 [.call (V.b (decide (a_jobs = b_jobs))) ([[],[]])] ?_
 conv=>whnf
 refine ⟨⟨I,I,I,I,⟨⟨I,I,I⟩,I,⟨⟨I,I⟩,⟨I,I⟩,I⟩,⟨I,I⟩,Go.K.c_laws_eqJobS _ _ (by omega)⟩,I,I⟩,?_⟩
 refine W.cn ?_
 conv=>whnf
 refine ⟨fun h9=>?_,fun h9=>?_⟩
 replace h9:=ndt h9
 refine g 52 53 [] ?_
 conv=>whnf
 refine ⟨⟨I,I⟩,?_⟩
 refine W.ret ?_
 refine EndsW.rt ?_
 conv=>whnf
 refine ⟨⟨I,I,I⟩,?_,rfl⟩
 rotate_left 1
 replace h9:=ndf h9
 refine W.skip ?_
 refine W.sq ?_
 refine g 52 58 [.call (V.b (decide (a_seats = b_seats))) ([[],[]])] ?_
 conv=>whnf
 refine ⟨⟨I,I,I,I,⟨⟨I,I,I⟩,I,⟨⟨I,I⟩,⟨I,I⟩,I⟩,⟨I,I⟩,Go.K.c_laws_eqSeatS _ _ (by omega)⟩,I,I⟩,?_⟩
 refine W.cn ?_
 conv=>whnf
 refine ⟨fun h10=>?_,fun h10=>?_⟩
 replace h10:=ndt h10
 refine g 58 59 [] ?_
 conv=>whnf
 refine ⟨⟨I,I⟩,?_⟩
 refine W.ret ?_
 refine EndsW.rt ?_
 conv=>whnf
 refine ⟨⟨I,I,I⟩,?_,rfl⟩
 rotate_left 1
 replace h10:=ndf h10
 refine W.skip ?_
 refine W.sq ?_
 refine g 58 64 [.call (V.b (decide (a_owed = b_owed))) ([[],[]])] ?_
 conv=>whnf
 refine ⟨⟨I,I,I,I,⟨⟨I,I,I⟩,I,⟨⟨I,I⟩,⟨I,I⟩,I⟩,⟨I,I⟩,Go.K.c_laws_eqOwedS _ _ (by omega)⟩,I,I⟩,?_⟩
 refine W.cn ?_
 conv=>whnf
 refine ⟨fun h11=>?_,fun h11=>?_⟩
 replace h11:=ndt h11
 refine g 2 4 [] ?_
 conv=>whnf
 refine ⟨⟨I,I⟩,?_⟩
 refine W.ret ?_
 refine EndsW.rt ?_
 conv=>whnf
 refine ⟨⟨I,I,I⟩,?_,rfl⟩
 rotate_left 1
 replace h11:=ndf h11
 refine W.skip ?_
 refine g 2 4 [] ?_
 conv=>whnf
 refine ⟨⟨I,I⟩,?_⟩
 refine W.ret ?_
 refine EndsW.rt ?_
 conv=>whnf
 refine ⟨⟨I,I,I⟩,?_,rfl⟩
 rotate_left 1
 all_goals (first | exact vbt (by simp_all; done) | exact vbf (by simp_all; done))
theorem wf_Log {n:Nat} {x:List T} (h:wfT E (n + 3) ty_laws_Log x):∃ v:Log,x = logT v ∧ logWf v:=by
 obtain ⟨y0,z0,e0,⟨lsafe,rfl,hsafe,gsafe⟩,y1,z1,e1,⟨lloose,rfl,hloose,gloose⟩,e2⟩:=h
 subst e2
 subst e1
 obtain ⟨safe,rfl,wsafe⟩:=wf_strs gsafe
 obtain ⟨loose,rfl,wloose⟩:=wf_strs gloose
 subst e0
 exact ⟨⟨safe,loose⟩,rfl,⟨by rw [List.length_map] at hsafe; exact hsafe,wsafe,by rw [List.length_map] at hloose; exact hloose,wloose⟩⟩
theorem wf_Job {n:Nat} {x:List T} (h:wfT E (n + 2) ty_laws_Job x):∃ v:Job,x = jobT v ∧ jobWf v:=by
 obtain ⟨y0,z0,e0,⟨lease,rfl,_,_⟩,y1,z1,e1,⟨worker,rfl,_,_⟩,y2,z2,e2,⟨til,rfl,_,_⟩,e3⟩:=h
 subst e3
 subst e2
 subst e1
 subst e0
 exact ⟨⟨lease,worker,til⟩,rfl,trivial⟩
theorem wf_Seat {n:Nat} {x:List T} (h:wfT E (n + 2) ty_laws_Seat x):∃ v:Seat,x = seatT v ∧ seatWf v:=by
 obtain ⟨y0,z0,e0,⟨free,rfl⟩,y1,z1,e1,⟨epoch,rfl,_,_⟩,e2⟩:=h
 subst e2
 subst e1
 subst e0
 exact ⟨⟨free,epoch⟩,rfl,trivial⟩
theorem wf_Owed {n:Nat} {x:List T} (h:wfT E (n + 2) ty_laws_Owed x):∃ v:Owed,x = owedT v ∧ owedWf v:=by
 obtain ⟨y0,z0,e0,⟨worker,rfl,_,_⟩,y1,z1,e1,⟨lease,rfl,_,_⟩,y2,z2,e2,⟨task,rfl,_,_⟩,e3⟩:=h
 subst e3
 subst e2
 subst e1
 subst e0
 exact ⟨⟨worker,lease,task⟩,rfl,trivial⟩
theorem wf_Boss {n:Nat} {x:List T} (h:wfT E (n + 4) ty_laws_Boss x):∃ v:Boss,x = bossT v ∧ bossWf v:=by
 obtain ⟨y0,z0,e0,⟨workers,rfl,_,_⟩,y1,z1,e1,⟨up,rfl⟩,y2,z2,e2,⟨now,rfl,_,_⟩,y3,z3,e3,⟨since,rfl,_,_⟩,y4,z4,e4,⟨epoch,rfl,_,_⟩,y5,z5,e5,⟨given,rfl,_,_⟩,y6,z6,e6,wlog0,y7,z7,e7,⟨lresults,rfl,hresults,gresults⟩,y8,z8,e8,⟨ljobs,rfl,hjobs,gjobs⟩,y9,z9,e9,⟨lseats,rfl,hseats,gseats⟩,y10,z10,e10,⟨lowed,rfl,howed,gowed⟩,e11⟩:=h
 subst e11
 subst e10
 subst e9
 subst e8
 subst e7
 subst e6
 subst e5
 subst e4
 subst e3
 subst e2
 subst e1
 obtain ⟨log,rfl,wlog⟩:=wf_Log wlog0
 obtain ⟨results,rfl,wresults⟩:=wf_strs gresults
 obtain ⟨jobs,rfl,wjobs⟩:=map_of (f:=jobT) (p:=jobWf) (xs:=ljobs) fun y hy=>wf_Job (gjobs y hy)
 obtain ⟨seats,rfl,wseats⟩:=map_of (f:=seatT) (p:=seatWf) (xs:=lseats) fun y hy=>wf_Seat (gseats y hy)
 obtain ⟨owed,rfl,wowed⟩:=map_of (f:=owedT) (p:=owedWf) (xs:=lowed) fun y hy=>wf_Owed (gowed y hy)
 subst e0
 exact ⟨⟨workers,up,now,since,epoch,given,log,results,jobs,seats,owed⟩,rfl,⟨wlog,by rw [List.length_map] at hresults; exact hresults,wresults,by rw [List.length_map] at hjobs; exact hjobs,by rw [List.length_map] at hseats; exact hseats,by rw [List.length_map] at howed; exact howed⟩⟩
end Go.K
end
section
set_option linter.unusedVariables false
set_option linter.unusedSimpArgs false
set_option maxHeartbeats 4000000
set_option maxRecDepth 20000
open Go Go.Tm Go.Proofs
namespace Go.K
theorem c_laws_markIntS (xs:List Int) (k:Int) (hl:xs.length ≤ 9223372036854775806) (h0:0 ≤ k) (hk:k + xs.length ≤ 1099511627776):F n_laws_markIntS [.bor (.own [false] (xs.map intT)),.val (.i k)] (.i (k + xs.length)) [[.own [false] ((mkL (fun k _=>k) (fun _=>1) k xs).map intT)],[]]:=by
 refine i_laws_markIntS ?_
 conv=>whnf
 refine g 0 0 [] ?_
 conv=>whnf
 refine ⟨⟨I,I⟩,?_⟩
 refine W.sq ?_
 refine g 0 0 [] ?_
 conv=>whnf
 refine ⟨⟨I,I⟩,?_⟩
 refine W.blk ?_
 refine W.lp (fun s (n:Nat)=>⟨[(0,s.s 0),(1,.i (k + n)),(4,s.s 4),(5,.i n)],[(19,[.own [false] ((mkN (fun k _=>k) (fun _=>1) k xs n).map intT)])],[]⟩) (fun (n:Nat)=>n ≤ xs.length) (fun (n:Nat)=>xs.length - n) (0) [some 19] [] ⟨rfl,⟨rfl,(congrArg (fun z=>V.t (T.v (Value.int _ z))) (by simp [sumI])),rfl,rfl,I⟩,⟨⟨rfl,⟨rfl,I⟩⟩,I⟩,I⟩ (by omega) ?_
 intro n hn
 have hx:=mkN_len (fun k _=>k) (fun _=>1) k xs n
 have hs1:∀ x,xs[n]? = some x → ((mkN (fun k _=>k) (fun _=>1) k xs n).map intT).set n (intT (k + n)) = (mkN (fun k _=>k) (fun _=>1) k xs (n + 1)).map intT:=fun x hx=>by
  have:=mkN_setm (f:=(fun k _=>k)) (c:=(fun _=>1)) (g:=intT) (k:=k) hx
  rw [sum_one,List.length_take,Nat.min_eq_left hn] at this; exact this
 conv=>whnf
 refine W.sq ?_
 refine g 6 9 [] ?_
 conv=>whnf
 refine ⟨⟨I,I,I,I,I⟩,?_⟩
 refine W.cn ?_
 conv=>whnf
 refine ⟨fun h1=>?_,fun h1=>?_⟩
 replace h1:=dt h1
 simp only [List.length_map] at h1
 refine W.skip ?_
 refine W.sq ?_
 refine W.blk ?_
 obtain ⟨y1,hy1⟩:=some_at (xs:=xs) (n:=n) (by omega)
 refine g 9 16 [.n (n),.x (intT y1)] ?_
 conv=>whnf
 refine ⟨⟨I,I,I,⟨rfl,(by simp only [lens]; omega)⟩,⟨⟨I,I⟩,mkN_getm (by assumption)⟩,I⟩,?_⟩
 refine rg [.i (k + (↑n:Int) + (1:Int))] ?_
 conv=>whnf
 refine ⟨⟨I,w64 (by omega) (by omega),I,I⟩,?_⟩
 refine rg [.i ((↑n:Int) + (1:Int))] ?_
 conv=>whnf
 refine ⟨⟨I,w64 (by omega) (by omega),I,I⟩,?_⟩
 rotate_left 1
 replace h1:=df h1
 simp only [List.length_map] at h1
 refine W.exit ?_
 refine g 5 19 [] ?_
 conv=>whnf
 refine ⟨⟨I,I,I⟩,?_⟩
 refine W.ret ?_
 refine EndsW.rt ?_
 conv=>whnf
 refine ⟨⟨I,I,I⟩,?_,?_⟩
 exact vi (by omega)
 rotate_left 1
 ·refine ⟨n + 1,[some 19],[],⟨rfl,⟨rfl,(congrArg (fun z=>V.t (T.v (Value.int _ z))) (by omega)),rfl,rfl,I⟩,⟨⟨rfl,⟨(congrArg (V.own _) (hs1 _ (by assumption))),I⟩⟩,I⟩,I⟩,?_,?_⟩
  rotate_left 1
  (dsimp only; omega)
  dsimp only
  omega
 ·have e:=mkN_all (fun k _=>k) (fun _=>1) k xs (n:=n) (by omega)
  rw [show n = xs.length by omega] at e ⊢
  rw [e]
def taskC (x:Task):Int:=2 + (x.deps.length:Int)
theorem taskC_eq (x:Task):taskC x = 2 + (x.deps.length:Int):=rfl
theorem taskC_nn (x:Task):0 ≤ taskC x:=by
 simp only [taskC]; omega
def taskMk (k:Int) (x:Task):Task:=⟨markT (k),k + 1,mkL (fun k _=>k) (fun _=>1) (k + 1 + 1) x.deps⟩
theorem c_laws_markTaskS (xs:List Task) (k:Int) (hl:xs.length ≤ 9223372036854775806) (h0:0 ≤ k) (hk:k + sumI taskC xs ≤ 1099511627776):F n_laws_markTaskS [.bor (.own taskK (xs.map taskT)),.val (.i k)] (.i (k + sumI taskC xs)) [[.own taskK ((mkL taskMk taskC k xs).map taskT)],[]]:=by
 refine i_laws_markTaskS ?_
 conv=>whnf
 refine g 0 0 [] ?_
 conv=>whnf
 refine ⟨⟨I,I⟩,?_⟩
 refine W.sq ?_
 refine g 0 0 [] ?_
 conv=>whnf
 refine ⟨⟨I,I⟩,?_⟩
 refine W.blk ?_
 refine W.lp (fun s (n:Nat)=>⟨[(0,s.s 0),(1,.i (k + sumI taskC (xs.take n))),(4,s.s 4),(5,.i n)],[(35,[.own taskK ((mkN taskMk taskC k xs n).map taskT)])],[]⟩) (fun (n:Nat)=>n ≤ xs.length) (fun (n:Nat)=>xs.length - n) (0) [some 35] [] ⟨rfl,⟨rfl,(congrArg (fun z=>V.t (T.v (Value.int _ z))) (by simp [sumI])),rfl,rfl,I⟩,⟨⟨rfl,⟨rfl,I⟩⟩,I⟩,I⟩ (by omega) ?_
 intro n hn
 have hx:=mkN_len taskMk taskC k xs n
 have hq:=sum_nn taskC_nn (xs.take n)
 have hle:=sum_le taskC_nn xs (n + 1)
 have hle0:=sum_le taskC_nn xs n
 conv=>whnf
 refine W.sq ?_
 refine g 6 9 [] ?_
 conv=>whnf
 refine ⟨⟨I,I,I,I,I⟩,?_⟩
 refine W.cn ?_
 conv=>whnf
 refine ⟨fun h1=>?_,fun h1=>?_⟩
 replace h1:=dt h1
 simp only [List.length_map] at h1
 refine W.skip ?_
 refine W.sq ?_
 refine W.blk ?_
 obtain ⟨y1,hy1⟩:=some_at (xs:=xs) (n:=n) (by omega)
 have hk1:=sum_take (f:=taskC) hy1
 have hk2:=taskC_nn y1
 have hk3:=taskC_eq y1
 refine g 9 18 [.call (V.s (markT (k + sumI taskC (List.take n xs)))) ([[]]),.n (n),.x (taskT y1)] ?_
 conv=>whnf
 refine ⟨⟨I,I,I,⟨⟨I,I⟩,I,⟨⟨I,I⟩,I⟩,⟨I,I⟩,Go.K.c_laws_markText _ (by omega)⟩,⟨rfl,(by simp only [lens]; omega)⟩,I,⟨⟨I,I⟩,mkN_getm (by assumption)⟩,I⟩,?_⟩
 refine g 18 20 [.i (k + sumI taskC (List.take n xs) + (1:Int))] ?_
 conv=>whnf
 refine ⟨⟨I,w64 (by omega) (by omega),I,I⟩,?_⟩
 refine g 20 25 [.n (n),.x (patch (taskT y1) ((0:Nat) + (0:Nat)) [T.v (Value.string (markT (k + sumI taskC (List.take n xs))))])] ?_
 conv=>whnf
 refine ⟨⟨I,I,I,⟨rfl,(by simp only [lens]; omega)⟩,I,⟨⟨I,I⟩,getset (by simp only [lens]; omega)⟩,I⟩,?_⟩
 refine g 25 27 [.i (k + sumI taskC (List.take n xs) + (1:Int) + (1:Int))] ?_
 conv=>whnf
 refine ⟨⟨I,w64 (by omega) (by omega),I,I⟩,?_⟩
 refine rg [.n (n),.x (patch (patch (taskT y1) ((0:Nat) + (0:Nat)) [T.v (Value.string (markT (k + sumI taskC (List.take n xs))))]) ((0:Nat) + (1:Nat)) [T.v (Value.int IntKind.i64 (k + sumI taskC (List.take n xs) + (1:Int)))]),.x (patch (patch (taskT y1) ((0:Nat) + (0:Nat)) [T.v (Value.string (markT (k + sumI taskC (List.take n xs))))]) ((0:Nat) + (1:Nat)) [T.v (Value.int IntKind.i64 (k + sumI taskC (List.take n xs) + (1:Int)))]),.call (V.i (k + sumI taskC (List.take n xs) + (1:Int) + (1:Int) + (↑(List.length (Task.deps y1)):Int))) ([[V.own [false] (List.map intT (mkL (fun k x=>k) (fun x=>(1:Int)) (k + sumI taskC (List.take n xs) + (1:Int) + (1:Int)) (Task.deps y1)))],[]]),.x ([T.v (Value.string (markT (k + sumI taskC (List.take n xs)))),T.v (Value.int IntKind.i64 (k + sumI taskC (List.take n xs) + (1:Int))),T.hole])] ?_
 conv=>whnf
 refine ⟨⟨I,I,⟨rfl,(by simp only [lens]; omega)⟩,I,getset (by simp only [lens]; omega),I,⟨⟨⟨getset (by simp only [lens]; omega),I⟩,I,I⟩,I,⟨I,⟨I,I⟩,I⟩,⟨⟨getset (by simp only [lens]; omega),I⟩,I⟩,Go.K.c_laws_markIntS _ _ (by omega) (by omega) (by omega)⟩,I,I⟩,?_⟩
 refine rg [.i ((↑n:Int) + (1:Int))] ?_
 conv=>whnf
 refine ⟨⟨I,w64 (by omega) (by omega),I,I⟩,?_⟩
 rotate_left 1
 replace h1:=df h1
 simp only [List.length_map] at h1
 refine W.exit ?_
 refine g 5 35 [] ?_
 conv=>whnf
 refine ⟨⟨I,I,I⟩,?_⟩
 refine W.ret ?_
 refine EndsW.rt ?_
 conv=>whnf
 refine ⟨⟨I,I,I⟩,?_,?_⟩
 rotate_left 1
 rotate_left 1
 ·refine ⟨n + 1,[some 35],[],⟨rfl,⟨rfl,(congrArg (fun z=>V.t (T.v (Value.int _ z))) (by rw [sum_take (by assumption)]; omega)),rfl,rfl,I⟩,⟨⟨rfl,⟨(congrArg (V.own _) (by simp only [List.set_set]; exact mkN_setm (f:=taskMk) (c:=taskC) (by assumption))),I⟩⟩,I⟩,I⟩,?_,?_⟩
  rotate_left 1
  (dsimp only; omega)
  dsimp only
  omega
 ·rw [take_all (by omega)]
 ·rw [mkN_all taskMk taskC k xs (n:=n) (by omega)]
def planTop (k:Int) (x:Plan):Plan:=⟨mkL taskMk taskC (k) x.tasks⟩
def planTopC (x:Plan):Int:=sumI taskC x.tasks
theorem planTopC_nn (x:Plan):0 ≤ planTopC x:=by
 have:=sum_nn taskC_nn x.tasks
 simp only [planTopC]; omega
theorem c_laws_markPlan (x:Plan) (k:Int) (hl:x.tasks.length ≤ 9223372036854775806) (h0:0 ≤ k) (hk:k + planTopC x ≤ 1099511627776):F n_laws_markPlan [.bor (planO x),.val (.i k)] (.i (k + planTopC x)) [cellsOf (planO (planTop k x)),[]]:=by
 have hn0:=sum_nn taskC_nn x.tasks
 have hz:planTopC x = _:=rfl
 simp only [planTopC] at hz
 refine i_laws_markPlan ?_
 conv=>whnf
 refine g 0 1 [] ?_
 conv=>whnf
 refine ⟨⟨I,I,I⟩,?_⟩
 refine g 5 9 [.call (V.i (k + sumI taskC (Plan.tasks x))) ([[V.own taskK (List.map taskT (mkL taskMk taskC k (Plan.tasks x)))],[]])] ?_
 conv=>whnf
 refine ⟨⟨I,I,I,⟨⟨⟨I,I⟩,I,I⟩,I,⟨I,⟨I,I⟩,I⟩,⟨I,I⟩,Go.K.c_laws_markTaskS _ _ (by assumption) (by assumption) (by assumption)⟩,I,I⟩,?_⟩
 refine g 1 3 [] ?_
 conv=>whnf
 refine ⟨⟨I,I,I⟩,?_⟩
 refine W.ret ?_
 refine EndsW.rt ?_
 conv=>whnf
 refine ⟨⟨I,I,I⟩,?_,rfl⟩
 rfl
end Go.K
end
section
set_option linter.unusedVariables false
set_option linter.unusedSimpArgs false
set_option maxHeartbeats 4000000
set_option maxRecDepth 20000
open Go Go.Tm Go.Proofs
namespace Go.K
theorem planC_le {p:Plan} (h:planSz p ≤ 1048576):p.tasks.length ≤ 1048576 ∧ planTopC p ≤ 4194304:=by
 have hn:=sum_nn taskSz_nn p.tasks
 have e:planSz p = p.tasks.length + sumI taskSz p.tasks:=rfl
 refine ⟨by omega,?_⟩
 have:∀ xs:List Task,sumI taskC xs ≤ 2 * xs.length + sumI taskSz xs:=by
  intro xs
  induction xs with
  | nil=>simp [sumI]
  | cons x xs ih =>
    have:=taskC_eq x
    have e:taskSz x = x.name.size + x.deps.length:=rfl
    simp only [sumI,List.length_cons]; omega
 have:=this p.tasks
 unfold planTopC; omega
end Go.K
end
section
set_option linter.unusedVariables false
set_option linter.unusedSimpArgs false
set_option maxHeartbeats 8000000
set_option maxRecDepth 20000
open Go Go.Tm Go.Proofs
namespace Go.K
theorem boss_bounds {b:Boss} (h:bossSz b ≤ 1048576):b.log.safe.length ≤ 1048576 ∧ b.log.loose.length ≤ 1048576 ∧ (∀ s ∈ b.log.safe ++ b.log.loose,s.size ≤ 281474976710656) ∧ b.results.length ≤ 1048576 ∧ b.jobs.length ≤ 1048576 ∧ b.seats.length ≤ 1048576 ∧ b.owed.length ≤ 1048576:=by
 have h1:=totS_nn b.log.safe
 have h2:=totS_nn b.log.loose
 have h3:=totS_nn b.results
 have e:logSz b.log = (b.log.safe.length + totS b.log.safe) + (b.log.loose.length + totS b.log.loose):=rfl
 simp only [bossSz] at h
 refine ⟨by omega,by omega,fun s hs=>?_,by omega,by omega,by omega,by omega⟩
 rcases List.mem_append.1 hs with hs | hs
 ·have:=totS_mem hs; omega
 ·have:=totS_mem hs; omega
end Go.K
end
section
set_option linter.unusedVariables false
set_option linter.unusedSimpArgs false
set_option maxHeartbeats 4000000
set_option maxRecDepth 20000
open Go Go.Tm Go.Proofs
namespace Go.K
def jobC (x:Job):Int:=3
theorem jobC_eq (x:Job):jobC x = 3:=rfl
theorem jobC_nn (x:Job):0 ≤ jobC x:=by
 simp only [jobC]; omega
def jobMk (k:Int) (x:Job):Job:=⟨k,k + 1,k + 1 + 1⟩
def seatC (x:Seat):Int:=2
theorem seatC_eq (x:Seat):seatC x = 2:=rfl
theorem seatC_nn (x:Seat):0 ≤ seatC x:=by
 simp only [seatC]; omega
def seatMk (k:Int) (x:Seat):Seat:=⟨decide (Int.tmod (k) 3 = 0),k + 1⟩
def owedC (x:Owed):Int:=3
theorem owedC_eq (x:Owed):owedC x = 3:=rfl
theorem owedC_nn (x:Owed):0 ≤ owedC x:=by
 simp only [owedC]; omega
def owedMk (k:Int) (x:Owed):Owed:=⟨k,k + 1,k + 1 + 1⟩
theorem c_laws_markJobS (xs:List Job) (k:Int) (hl:xs.length ≤ 9223372036854775806) (h0:0 ≤ k) (hk:k + sumI jobC xs ≤ 1099511627776):F n_laws_markJobS [.bor (.own jobK (xs.map jobT)),.val (.i k)] (.i (k + sumI jobC xs)) [[.own jobK ((mkL jobMk jobC k xs).map jobT)],[]]:=by
 refine i_laws_markJobS ?_
 conv=>whnf
 refine g 0 0 [] ?_
 conv=>whnf
 refine ⟨⟨I,I⟩,?_⟩
 refine W.sq ?_
 refine g 0 0 [] ?_
 conv=>whnf
 refine ⟨⟨I,I⟩,?_⟩
 refine W.blk ?_
 refine W.lp (fun s (n:Nat)=>⟨[(0,s.s 0),(1,.i (k + sumI jobC (xs.take n))),(4,s.s 4),(5,.i n)],[(34,[.own jobK ((mkN jobMk jobC k xs n).map jobT)])],[]⟩) (fun (n:Nat)=>n ≤ xs.length) (fun (n:Nat)=>xs.length - n) (0) [some 34] [] ⟨rfl,⟨rfl,(congrArg (fun z=>V.t (T.v (Value.int _ z))) (by simp [sumI])),rfl,rfl,I⟩,⟨⟨rfl,⟨rfl,I⟩⟩,I⟩,I⟩ (by omega) ?_
 intro n hn
 have hx:=mkN_len jobMk jobC k xs n
 have hq:=sum_nn jobC_nn (xs.take n)
 have hle:=sum_le jobC_nn xs (n + 1)
 have hle0:=sum_le jobC_nn xs n
 conv=>whnf
 refine W.sq ?_
 refine g 6 9 [] ?_
 conv=>whnf
 refine ⟨⟨I,I,I,I,I⟩,?_⟩
 refine W.cn ?_
 conv=>whnf
 refine ⟨fun h1=>?_,fun h1=>?_⟩
 replace h1:=dt h1
 simp only [List.length_map] at h1
 refine W.skip ?_
 refine W.sq ?_
 refine W.blk ?_
 obtain ⟨y1,hy1⟩:=some_at (xs:=xs) (n:=n) (by omega)
 have hk1:=sum_take (f:=jobC) hy1
 have hk2:=jobC_nn y1
 have hk3:=jobC_eq y1
 refine g 9 17 [.n (n),.x (jobT y1)] ?_
 conv=>whnf
 refine ⟨⟨I,I,I,⟨rfl,(by simp only [lens]; omega)⟩,I,⟨⟨I,I⟩,mkN_getm (by assumption)⟩,I⟩,?_⟩
 refine g 17 19 [.i (k + sumI jobC (List.take n xs) + (1:Int))] ?_
 conv=>whnf
 refine ⟨⟨I,w64 (by omega) (by omega),I,I⟩,?_⟩
 refine g 19 24 [.n (n),.x (patch (jobT y1) ((0:Nat) + (0:Nat)) [T.v (Value.int IntKind.i64 (k + sumI jobC (List.take n xs)))])] ?_
 conv=>whnf
 refine ⟨⟨I,I,I,⟨rfl,(by simp only [lens]; omega)⟩,I,⟨⟨I,I⟩,getset (by simp only [lens]; omega)⟩,I⟩,?_⟩
 rw [List.set_set]
 refine g 24 26 [.i (k + sumI jobC (List.take n xs) + (1:Int) + (1:Int))] ?_
 conv=>whnf
 refine ⟨⟨I,w64 (by omega) (by omega),I,I⟩,?_⟩
 refine g 26 31 [.n (n),.x (patch (patch (jobT y1) ((0:Nat) + (0:Nat)) [T.v (Value.int IntKind.i64 (k + sumI jobC (List.take n xs)))]) ((0:Nat) + (1:Nat)) [T.v (Value.int IntKind.i64 (k + sumI jobC (List.take n xs) + (1:Int)))])] ?_
 conv=>whnf
 refine ⟨⟨I,I,I,⟨rfl,(by simp only [lens]; omega)⟩,I,⟨⟨I,I⟩,getset (by simp only [lens]; omega)⟩,I⟩,?_⟩
 rw [List.set_set]
 refine rg [.i (k + sumI jobC (List.take n xs) + (1:Int) + (1:Int) + (1:Int))] ?_
 conv=>whnf
 refine ⟨⟨I,w64 (by omega) (by omega),I,I⟩,?_⟩
 refine rg [.i ((↑n:Int) + (1:Int))] ?_
 conv=>whnf
 refine ⟨⟨I,w64 (by omega) (by omega),I,I⟩,?_⟩
 rotate_left 1
 replace h1:=df h1
 simp only [List.length_map] at h1
 refine W.exit ?_
 refine g 5 34 [] ?_
 conv=>whnf
 refine ⟨⟨I,I,I⟩,?_⟩
 refine W.ret ?_
 refine EndsW.rt ?_
 conv=>whnf
 refine ⟨⟨I,I,I⟩,?_,?_⟩
 rotate_left 1
 rotate_left 1
 ·refine ⟨n + 1,[some 34],[],⟨rfl,⟨rfl,(congrArg (fun z=>V.t (T.v (Value.int _ z))) (by rw [sum_take (by assumption)]; omega)),rfl,rfl,I⟩,⟨⟨rfl,⟨(congrArg (V.own _) (mkN_setm (f:=jobMk) (c:=jobC) (by assumption))),I⟩⟩,I⟩,I⟩,?_,?_⟩
  rotate_left 1
  (dsimp only; omega)
  dsimp only
  omega
 ·rw [take_all (by omega)]
 ·rw [mkN_all jobMk jobC k xs (n:=n) (by omega)]
theorem c_laws_markSeatS (xs:List Seat) (k:Int) (hl:xs.length ≤ 9223372036854775806) (h0:0 ≤ k) (hk:k + sumI seatC xs ≤ 1099511627776):F n_laws_markSeatS [.bor (.own seatK (xs.map seatT)),.val (.i k)] (.i (k + sumI seatC xs)) [[.own seatK ((mkL seatMk seatC k xs).map seatT)],[]]:=by
 refine i_laws_markSeatS ?_
 conv=>whnf
 refine g 0 0 [] ?_
 conv=>whnf
 refine ⟨⟨I,I⟩,?_⟩
 refine W.sq ?_
 refine g 0 0 [] ?_
 conv=>whnf
 refine ⟨⟨I,I⟩,?_⟩
 refine W.blk ?_
 refine W.lp (fun s (n:Nat)=>⟨[(0,s.s 0),(1,.i (k + sumI seatC (xs.take n))),(4,s.s 4),(5,.i n)],[(29,[.own seatK ((mkN seatMk seatC k xs n).map seatT)])],[]⟩) (fun (n:Nat)=>n ≤ xs.length) (fun (n:Nat)=>xs.length - n) (0) [some 29] [] ⟨rfl,⟨rfl,(congrArg (fun z=>V.t (T.v (Value.int _ z))) (by simp [sumI])),rfl,rfl,I⟩,⟨⟨rfl,⟨rfl,I⟩⟩,I⟩,I⟩ (by omega) ?_
 intro n hn
 have hx:=mkN_len seatMk seatC k xs n
 have hq:=sum_nn seatC_nn (xs.take n)
 have hle:=sum_le seatC_nn xs (n + 1)
 have hle0:=sum_le seatC_nn xs n
 conv=>whnf
 refine W.sq ?_
 refine g 6 9 [] ?_
 conv=>whnf
 refine ⟨⟨I,I,I,I,I⟩,?_⟩
 refine W.cn ?_
 conv=>whnf
 refine ⟨fun h1=>?_,fun h1=>?_⟩
 replace h1:=dt h1
 simp only [List.length_map] at h1
 refine W.skip ?_
 refine W.sq ?_
 refine W.blk ?_
 obtain ⟨y1,hy1⟩:=some_at (xs:=xs) (n:=n) (by omega)
 have hk1:=sum_take (f:=seatC) hy1
 have hk2:=seatC_nn y1
 have hk3:=seatC_eq y1
 refine g 9 19 [.i (Int.tmod (k + sumI seatC (List.take n xs)) (3:Int)),.n (n),.x (seatT y1)] ?_
 conv=>whnf
 refine ⟨⟨I,I,I,⟨(by omega),rfl⟩,I,⟨rfl,(by simp only [lens]; omega)⟩,I,⟨⟨I,I⟩,mkN_getm (by assumption)⟩,I⟩,?_⟩
 refine g 19 21 [.i (k + sumI seatC (List.take n xs) + (1:Int))] ?_
 conv=>whnf
 refine ⟨⟨I,w64 (by omega) (by omega),I,I⟩,?_⟩
 refine g 21 26 [.n (n),.x (patch (seatT y1) ((0:Nat) + (0:Nat)) [T.v (Value.bool (decide (Int.tmod (k + sumI seatC (List.take n xs)) (3:Int) = (0:Int))))])] ?_
 conv=>whnf
 refine ⟨⟨I,I,I,⟨rfl,(by simp only [lens]; omega)⟩,I,⟨⟨I,I⟩,getset (by simp only [lens]; omega)⟩,I⟩,?_⟩
 rw [List.set_set]
 refine rg [.i (k + sumI seatC (List.take n xs) + (1:Int) + (1:Int))] ?_
 conv=>whnf
 refine ⟨⟨I,w64 (by omega) (by omega),I,I⟩,?_⟩
 refine rg [.i ((↑n:Int) + (1:Int))] ?_
 conv=>whnf
 refine ⟨⟨I,w64 (by omega) (by omega),I,I⟩,?_⟩
 rotate_left 1
 replace h1:=df h1
 simp only [List.length_map] at h1
 refine W.exit ?_
 refine g 5 29 [] ?_
 conv=>whnf
 refine ⟨⟨I,I,I⟩,?_⟩
 refine W.ret ?_
 refine EndsW.rt ?_
 conv=>whnf
 refine ⟨⟨I,I,I⟩,?_,?_⟩
 rotate_left 1
 rotate_left 1
 ·refine ⟨n + 1,[some 29],[],⟨rfl,⟨rfl,(congrArg (fun z=>V.t (T.v (Value.int _ z))) (by rw [sum_take (by assumption)]; omega)),rfl,rfl,I⟩,⟨⟨rfl,⟨(congrArg (V.own _) (mkN_setm (f:=seatMk) (c:=seatC) (by assumption))),I⟩⟩,I⟩,I⟩,?_,?_⟩
  rotate_left 1
  (dsimp only; omega)
  dsimp only
  omega
 ·rw [take_all (by omega)]
 ·rw [mkN_all seatMk seatC k xs (n:=n) (by omega)]
theorem c_laws_markOwedS (xs:List Owed) (k:Int) (hl:xs.length ≤ 9223372036854775806) (h0:0 ≤ k) (hk:k + sumI owedC xs ≤ 1099511627776):F n_laws_markOwedS [.bor (.own owedK (xs.map owedT)),.val (.i k)] (.i (k + sumI owedC xs)) [[.own owedK ((mkL owedMk owedC k xs).map owedT)],[]]:=by
 refine i_laws_markOwedS ?_
 conv=>whnf
 refine g 0 0 [] ?_
 conv=>whnf
 refine ⟨⟨I,I⟩,?_⟩
 refine W.sq ?_
 refine g 0 0 [] ?_
 conv=>whnf
 refine ⟨⟨I,I⟩,?_⟩
 refine W.blk ?_
 refine W.lp (fun s (n:Nat)=>⟨[(0,s.s 0),(1,.i (k + sumI owedC (xs.take n))),(4,s.s 4),(5,.i n)],[(34,[.own owedK ((mkN owedMk owedC k xs n).map owedT)])],[]⟩) (fun (n:Nat)=>n ≤ xs.length) (fun (n:Nat)=>xs.length - n) (0) [some 34] [] ⟨rfl,⟨rfl,(congrArg (fun z=>V.t (T.v (Value.int _ z))) (by simp [sumI])),rfl,rfl,I⟩,⟨⟨rfl,⟨rfl,I⟩⟩,I⟩,I⟩ (by omega) ?_
 intro n hn
 have hx:=mkN_len owedMk owedC k xs n
 have hq:=sum_nn owedC_nn (xs.take n)
 have hle:=sum_le owedC_nn xs (n + 1)
 have hle0:=sum_le owedC_nn xs n
 conv=>whnf
 refine W.sq ?_
 refine g 6 9 [] ?_
 conv=>whnf
 refine ⟨⟨I,I,I,I,I⟩,?_⟩
 refine W.cn ?_
 conv=>whnf
 refine ⟨fun h1=>?_,fun h1=>?_⟩
 replace h1:=dt h1
 simp only [List.length_map] at h1
 refine W.skip ?_
 refine W.sq ?_
 refine W.blk ?_
 obtain ⟨y1,hy1⟩:=some_at (xs:=xs) (n:=n) (by omega)
 have hk1:=sum_take (f:=owedC) hy1
 have hk2:=owedC_nn y1
 have hk3:=owedC_eq y1
 refine g 9 17 [.n (n),.x (owedT y1)] ?_
 conv=>whnf
 refine ⟨⟨I,I,I,⟨rfl,(by simp only [lens]; omega)⟩,I,⟨⟨I,I⟩,mkN_getm (by assumption)⟩,I⟩,?_⟩
 refine g 17 19 [.i (k + sumI owedC (List.take n xs) + (1:Int))] ?_
 conv=>whnf
 refine ⟨⟨I,w64 (by omega) (by omega),I,I⟩,?_⟩
 refine g 19 24 [.n (n),.x (patch (owedT y1) ((0:Nat) + (0:Nat)) [T.v (Value.int IntKind.i64 (k + sumI owedC (List.take n xs)))])] ?_
 conv=>whnf
 refine ⟨⟨I,I,I,⟨rfl,(by simp only [lens]; omega)⟩,I,⟨⟨I,I⟩,getset (by simp only [lens]; omega)⟩,I⟩,?_⟩
 rw [List.set_set]
 refine g 24 26 [.i (k + sumI owedC (List.take n xs) + (1:Int) + (1:Int))] ?_
 conv=>whnf
 refine ⟨⟨I,w64 (by omega) (by omega),I,I⟩,?_⟩
 refine g 26 31 [.n (n),.x (patch (patch (owedT y1) ((0:Nat) + (0:Nat)) [T.v (Value.int IntKind.i64 (k + sumI owedC (List.take n xs)))]) ((0:Nat) + (1:Nat)) [T.v (Value.int IntKind.i64 (k + sumI owedC (List.take n xs) + (1:Int)))])] ?_
 conv=>whnf
 refine ⟨⟨I,I,I,⟨rfl,(by simp only [lens]; omega)⟩,I,⟨⟨I,I⟩,getset (by simp only [lens]; omega)⟩,I⟩,?_⟩
 rw [List.set_set]
 refine rg [.i (k + sumI owedC (List.take n xs) + (1:Int) + (1:Int) + (1:Int))] ?_
 conv=>whnf
 refine ⟨⟨I,w64 (by omega) (by omega),I,I⟩,?_⟩
 refine rg [.i ((↑n:Int) + (1:Int))] ?_
 conv=>whnf
 refine ⟨⟨I,w64 (by omega) (by omega),I,I⟩,?_⟩
 rotate_left 1
 replace h1:=df h1
 simp only [List.length_map] at h1
 refine W.exit ?_
 refine g 5 34 [] ?_
 conv=>whnf
 refine ⟨⟨I,I,I⟩,?_⟩
 refine W.ret ?_
 refine EndsW.rt ?_
 conv=>whnf
 refine ⟨⟨I,I,I⟩,?_,?_⟩
 rotate_left 1
 rotate_left 1
 ·refine ⟨n + 1,[some 34],[],⟨rfl,⟨rfl,(congrArg (fun z=>V.t (T.v (Value.int _ z))) (by rw [sum_take (by assumption)]; omega)),rfl,rfl,I⟩,⟨⟨rfl,⟨(congrArg (V.own _) (mkN_setm (f:=owedMk) (c:=owedC) (by assumption))),I⟩⟩,I⟩,I⟩,?_,?_⟩
  rotate_left 1
  (dsimp only; omega)
  dsimp only
  omega
 ·rw [take_all (by omega)]
 ·rw [mkN_all owedMk owedC k xs (n:=n) (by omega)]
theorem c_laws_heldJobS (xs:List Job) (k:Int) (hl:xs.length ≤ 9223372036854775806) (h0:0 ≤ k) (hk:k + sumI jobC xs ≤ 1099511627776):F n_laws_heldJobS [.val (.t (.slc jobK ((mkL jobMk jobC k xs).map jobT))),.val (.i k)] (.i (k + sumI jobC xs)) [[],[]]:=by
 have hx:=mkL_len jobMk jobC k xs
 refine i_laws_heldJobS ?_
 conv=>whnf
 refine g 0 0 [] ?_
 conv=>whnf
 refine ⟨⟨I,I⟩,?_⟩
 refine W.sq ?_
 refine g 0 0 [] ?_
 conv=>whnf
 refine ⟨⟨I,I⟩,?_⟩
 refine W.blk ?_
 refine W.lp (fun s (n:Nat)=>⟨[(0,s.s 0),(1,.i (k + sumI jobC (xs.take n))),(5,.i n)],[],[]⟩) (fun (n:Nat)=>n ≤ xs.length) (fun (n:Nat)=>xs.length - n) (0) [] [] ⟨rfl,⟨rfl,(congrArg (fun z=>V.t (T.v (Value.int _ z))) (by simp [sumI])),rfl,I⟩,I,I⟩ (by omega) ?_
 intro n hn
 have hq:=sum_nn jobC_nn (xs.take n)
 have hle:=sum_le jobC_nn xs (n + 1)
 have hle0:=sum_le jobC_nn xs n
 conv=>whnf
 refine W.sq ?_
 refine g 6 9 [] ?_
 conv=>whnf
 refine ⟨⟨I,I,I,I,I⟩,?_⟩
 refine W.cn ?_
 conv=>whnf
 refine ⟨fun h1=>?_,fun h1=>?_⟩
 replace h1:=dt h1
 simp only [List.length_map] at h1
 refine W.skip ?_
 refine W.sq ?_
 refine W.blk ?_
 refine W.sq ?_
 obtain ⟨y1,hy1⟩:=some_at (xs:=xs) (n:=n) (by omega)
 have hk1:=sum_take (f:=jobC) hy1
 have hk2:=jobC_nn y1
 have hk3:=jobC_eq y1
 have hk4:=mkL_get (f:=jobMk) (c:=jobC) (k:=k) hy1
 refine g 9 18 [.x (jobT (jobMk (k + sumI jobC (List.take n xs)) y1))] ?_
 conv=>whnf
 refine ⟨⟨I,I,⟨(by omega),ixl (by assumption)⟩,I,I,I,I,I⟩,?_⟩
 refine W.cn ?_
 conv=>whnf
 refine ⟨noT (notF rfl),fun _=>?_⟩
 refine W.skip ?_
 refine g 18 21 [.i (k + sumI jobC (List.take n xs) + (1:Int))] ?_
 conv=>whnf
 refine ⟨⟨I,w64 (by omega) (by omega),I,I⟩,?_⟩
 refine W.sq ?_
 refine g 21 27 [.x (jobT (jobMk (k + sumI jobC (List.take n xs)) y1))] ?_
 conv=>whnf
 refine ⟨⟨I,I,⟨(by omega),ixl (by assumption)⟩,I,I,I,I,I⟩,?_⟩
 refine W.cn ?_
 conv=>whnf
 refine ⟨noT (notF rfl),fun _=>?_⟩
 refine W.skip ?_
 refine g 27 30 [.i (k + sumI jobC (List.take n xs) + (1:Int) + (1:Int))] ?_
 conv=>whnf
 refine ⟨⟨I,w64 (by omega) (by omega),I,I⟩,?_⟩
 refine W.sq ?_
 refine g 30 36 [.x (jobT (jobMk (k + sumI jobC (List.take n xs)) y1))] ?_
 conv=>whnf
 refine ⟨⟨I,I,⟨(by omega),ixl (by assumption)⟩,I,I,I,I,I⟩,?_⟩
 refine W.cn ?_
 conv=>whnf
 refine ⟨noT (notF rfl),fun _=>?_⟩
 refine W.skip ?_
 refine rg [.i (k + sumI jobC (List.take n xs) + (1:Int) + (1:Int) + (1:Int))] ?_
 conv=>whnf
 refine ⟨⟨I,w64 (by omega) (by omega),I,I⟩,?_⟩
 refine rg [.i ((↑n:Int) + (1:Int))] ?_
 conv=>whnf
 refine ⟨⟨I,w64 (by omega) (by omega),I,I⟩,?_⟩
 rotate_left 1
 replace h1:=df h1
 simp only [List.length_map] at h1
 refine W.exit ?_
 refine g 5 40 [] ?_
 conv=>whnf
 refine ⟨⟨I,I,I⟩,?_⟩
 refine W.ret ?_
 refine EndsW.rt ?_
 conv=>whnf
 refine ⟨⟨I,I,I⟩,?_,rfl⟩
 rotate_left 1
 ·refine ⟨n + 1,[],[],⟨rfl,⟨rfl,(congrArg (fun z=>V.t (T.v (Value.int _ z))) (by rw [sum_take (by assumption)]; omega)),rfl,I⟩,I,I⟩,?_,?_⟩
  rotate_left 1
  (dsimp only; omega)
  dsimp only
  omega
 ·rw [take_all (by omega)]
theorem c_laws_heldSeatS (xs:List Seat) (k:Int) (hl:xs.length ≤ 9223372036854775806) (h0:0 ≤ k) (hk:k + sumI seatC xs ≤ 1099511627776):F n_laws_heldSeatS [.val (.t (.slc seatK ((mkL seatMk seatC k xs).map seatT))),.val (.i k)] (.i (k + sumI seatC xs)) [[],[]]:=by
 have hx:=mkL_len seatMk seatC k xs
 refine i_laws_heldSeatS ?_
 conv=>whnf
 refine g 0 0 [] ?_
 conv=>whnf
 refine ⟨⟨I,I⟩,?_⟩
 refine W.sq ?_
 refine g 0 0 [] ?_
 conv=>whnf
 refine ⟨⟨I,I⟩,?_⟩
 refine W.blk ?_
 refine W.lp (fun s (n:Nat)=>⟨[(0,s.s 0),(1,.i (k + sumI seatC (xs.take n))),(5,.i n)],[],[]⟩) (fun (n:Nat)=>n ≤ xs.length) (fun (n:Nat)=>xs.length - n) (0) [] [] ⟨rfl,⟨rfl,(congrArg (fun z=>V.t (T.v (Value.int _ z))) (by simp [sumI])),rfl,I⟩,I,I⟩ (by omega) ?_
 intro n hn
 have hq:=sum_nn seatC_nn (xs.take n)
 have hle:=sum_le seatC_nn xs (n + 1)
 have hle0:=sum_le seatC_nn xs n
 conv=>whnf
 refine W.sq ?_
 refine g 6 9 [] ?_
 conv=>whnf
 refine ⟨⟨I,I,I,I,I⟩,?_⟩
 refine W.cn ?_
 conv=>whnf
 refine ⟨fun h1=>?_,fun h1=>?_⟩
 replace h1:=dt h1
 simp only [List.length_map] at h1
 refine W.skip ?_
 refine W.sq ?_
 refine W.blk ?_
 refine W.sq ?_
 obtain ⟨y1,hy1⟩:=some_at (xs:=xs) (n:=n) (by omega)
 have hk1:=sum_take (f:=seatC) hy1
 have hk2:=seatC_nn y1
 have hk3:=seatC_eq y1
 have hk4:=mkL_get (f:=seatMk) (c:=seatC) (k:=k) hy1
 refine g 9 20 [.x (seatT (seatMk (k + sumI seatC (List.take n xs)) y1)),.i (Int.tmod (k + sumI seatC (List.take n xs)) (3:Int))] ?_
 conv=>whnf
 refine ⟨⟨I,I,⟨(by omega),ixl (by assumption)⟩,I,I,I,⟨(by omega),rfl⟩,I,I,I⟩,?_⟩
 refine W.cn ?_
 conv=>whnf
 refine ⟨noT (notF rfl),fun _=>?_⟩
 refine W.skip ?_
 refine g 20 23 [.i (k + sumI seatC (List.take n xs) + (1:Int))] ?_
 conv=>whnf
 refine ⟨⟨I,w64 (by omega) (by omega),I,I⟩,?_⟩
 refine W.sq ?_
 refine g 23 29 [.x (seatT (seatMk (k + sumI seatC (List.take n xs)) y1))] ?_
 conv=>whnf
 refine ⟨⟨I,I,⟨(by omega),ixl (by assumption)⟩,I,I,I,I,I⟩,?_⟩
 refine W.cn ?_
 conv=>whnf
 refine ⟨noT (notF rfl),fun _=>?_⟩
 refine W.skip ?_
 refine rg [.i (k + sumI seatC (List.take n xs) + (1:Int) + (1:Int))] ?_
 conv=>whnf
 refine ⟨⟨I,w64 (by omega) (by omega),I,I⟩,?_⟩
 refine rg [.i ((↑n:Int) + (1:Int))] ?_
 conv=>whnf
 refine ⟨⟨I,w64 (by omega) (by omega),I,I⟩,?_⟩
 rotate_left 1
 replace h1:=df h1
 simp only [List.length_map] at h1
 refine W.exit ?_
 refine g 5 33 [] ?_
 conv=>whnf
 refine ⟨⟨I,I,I⟩,?_⟩
 refine W.ret ?_
 refine EndsW.rt ?_
 conv=>whnf
 refine ⟨⟨I,I,I⟩,?_,rfl⟩
 rotate_left 1
 ·refine ⟨n + 1,[],[],⟨rfl,⟨rfl,(congrArg (fun z=>V.t (T.v (Value.int _ z))) (by rw [sum_take (by assumption)]; omega)),rfl,I⟩,I,I⟩,?_,?_⟩
  rotate_left 1
  (dsimp only; omega)
  dsimp only
  omega
 ·rw [take_all (by omega)]
theorem c_laws_heldOwedS (xs:List Owed) (k:Int) (hl:xs.length ≤ 9223372036854775806) (h0:0 ≤ k) (hk:k + sumI owedC xs ≤ 1099511627776):F n_laws_heldOwedS [.val (.t (.slc owedK ((mkL owedMk owedC k xs).map owedT))),.val (.i k)] (.i (k + sumI owedC xs)) [[],[]]:=by
 have hx:=mkL_len owedMk owedC k xs
 refine i_laws_heldOwedS ?_
 conv=>whnf
 refine g 0 0 [] ?_
 conv=>whnf
 refine ⟨⟨I,I⟩,?_⟩
 refine W.sq ?_
 refine g 0 0 [] ?_
 conv=>whnf
 refine ⟨⟨I,I⟩,?_⟩
 refine W.blk ?_
 refine W.lp (fun s (n:Nat)=>⟨[(0,s.s 0),(1,.i (k + sumI owedC (xs.take n))),(5,.i n)],[],[]⟩) (fun (n:Nat)=>n ≤ xs.length) (fun (n:Nat)=>xs.length - n) (0) [] [] ⟨rfl,⟨rfl,(congrArg (fun z=>V.t (T.v (Value.int _ z))) (by simp [sumI])),rfl,I⟩,I,I⟩ (by omega) ?_
 intro n hn
 have hq:=sum_nn owedC_nn (xs.take n)
 have hle:=sum_le owedC_nn xs (n + 1)
 have hle0:=sum_le owedC_nn xs n
 conv=>whnf
 refine W.sq ?_
 refine g 6 9 [] ?_
 conv=>whnf
 refine ⟨⟨I,I,I,I,I⟩,?_⟩
 refine W.cn ?_
 conv=>whnf
 refine ⟨fun h1=>?_,fun h1=>?_⟩
 replace h1:=dt h1
 simp only [List.length_map] at h1
 refine W.skip ?_
 refine W.sq ?_
 refine W.blk ?_
 refine W.sq ?_
 obtain ⟨y1,hy1⟩:=some_at (xs:=xs) (n:=n) (by omega)
 have hk1:=sum_take (f:=owedC) hy1
 have hk2:=owedC_nn y1
 have hk3:=owedC_eq y1
 have hk4:=mkL_get (f:=owedMk) (c:=owedC) (k:=k) hy1
 refine g 9 18 [.x (owedT (owedMk (k + sumI owedC (List.take n xs)) y1))] ?_
 conv=>whnf
 refine ⟨⟨I,I,⟨(by omega),ixl (by assumption)⟩,I,I,I,I,I⟩,?_⟩
 refine W.cn ?_
 conv=>whnf
 refine ⟨noT (notF rfl),fun _=>?_⟩
 refine W.skip ?_
 refine g 18 21 [.i (k + sumI owedC (List.take n xs) + (1:Int))] ?_
 conv=>whnf
 refine ⟨⟨I,w64 (by omega) (by omega),I,I⟩,?_⟩
 refine W.sq ?_
 refine g 21 27 [.x (owedT (owedMk (k + sumI owedC (List.take n xs)) y1))] ?_
 conv=>whnf
 refine ⟨⟨I,I,⟨(by omega),ixl (by assumption)⟩,I,I,I,I,I⟩,?_⟩
 refine W.cn ?_
 conv=>whnf
 refine ⟨noT (notF rfl),fun _=>?_⟩
 refine W.skip ?_
 refine g 27 30 [.i (k + sumI owedC (List.take n xs) + (1:Int) + (1:Int))] ?_
 conv=>whnf
 refine ⟨⟨I,w64 (by omega) (by omega),I,I⟩,?_⟩
 refine W.sq ?_
 refine g 30 36 [.x (owedT (owedMk (k + sumI owedC (List.take n xs)) y1))] ?_
 conv=>whnf
 refine ⟨⟨I,I,⟨(by omega),ixl (by assumption)⟩,I,I,I,I,I⟩,?_⟩
 refine W.cn ?_
 conv=>whnf
 refine ⟨noT (notF rfl),fun _=>?_⟩
 refine W.skip ?_
 refine rg [.i (k + sumI owedC (List.take n xs) + (1:Int) + (1:Int) + (1:Int))] ?_
 conv=>whnf
 refine ⟨⟨I,w64 (by omega) (by omega),I,I⟩,?_⟩
 refine rg [.i ((↑n:Int) + (1:Int))] ?_
 conv=>whnf
 refine ⟨⟨I,w64 (by omega) (by omega),I,I⟩,?_⟩
 rotate_left 1
 replace h1:=df h1
 simp only [List.length_map] at h1
 refine W.exit ?_
 refine g 5 40 [] ?_
 conv=>whnf
 refine ⟨⟨I,I,I⟩,?_⟩
 refine W.ret ?_
 refine EndsW.rt ?_
 conv=>whnf
 refine ⟨⟨I,I,I⟩,?_,rfl⟩
 rotate_left 1
 ·refine ⟨n + 1,[],[],⟨rfl,⟨rfl,(congrArg (fun z=>V.t (T.v (Value.int _ z))) (by rw [sum_take (by assumption)]; omega)),rfl,I⟩,I,I⟩,?_,?_⟩
  rotate_left 1
  (dsimp only; omega)
  dsimp only
  omega
 ·rw [take_all (by omega)]
def logTop (k:Int) (x:Log):Log:=⟨mkL (fun k _=>markT k) (fun _=>1) (k) x.safe,mkL (fun k _=>markT k) (fun _=>1) (k + x.safe.length) x.loose⟩
def logTopC (x:Log):Int:=x.safe.length + x.loose.length
theorem logTopC_nn (x:Log):0 ≤ logTopC x:=by
 simp only [logTopC]; omega
theorem c_laws_markLog (x:Log) (k:Int) (hl:x.safe.length ≤ 9223372036854775806 ∧ x.loose.length ≤ 9223372036854775806) (h0:0 ≤ k) (hk:k + logTopC x ≤ 1099511627776):F n_laws_markLog [.bor (logO x),.val (.i k)] (.i (k + logTopC x)) [cellsOf (logO (logTop k x)),[]]:=by
 obtain ⟨hl0,hl1⟩:=hl
 have hz:logTopC x = x.safe.length + x.loose.length:=rfl
 refine i_laws_markLog ?_
 conv=>whnf
 refine g 0 1 [] ?_
 conv=>whnf
 refine ⟨⟨I,I,I⟩,?_⟩
 refine g 5 9 [.call (V.i (k + (↑(List.length (Log.safe x)):Int))) ([[V.own [false] (List.map strT (mkL (fun k x=>markT k) (fun x=>(1:Int)) k (Log.safe x)))],[]])] ?_
 conv=>whnf
 refine ⟨⟨I,I,I,⟨⟨⟨I,I⟩,I,I⟩,I,⟨I,⟨I,I⟩,I⟩,⟨I,I⟩,Go.K.c_laws_markStringS _ _ (by omega) (by omega) (by omega)⟩,I,I⟩,?_⟩
 refine g 9 13 [.call (V.i (k + (↑(List.length (Log.safe x)):Int) + (↑(List.length (Log.loose x)):Int))) ([[V.own [false] (List.map strT (mkL (fun k x=>markT k) (fun x=>(1:Int)) (k + (↑(List.length (Log.safe x)):Int)) (Log.loose x)))],[]])] ?_
 conv=>whnf
 refine ⟨⟨I,I,I,⟨⟨⟨I,I⟩,I,I⟩,I,⟨I,⟨I,I⟩,I⟩,⟨I,I⟩,Go.K.c_laws_markStringS _ _ (by omega) (by omega) (by omega)⟩,I,I⟩,?_⟩
 refine g 1 3 [] ?_
 conv=>whnf
 refine ⟨⟨I,I,I⟩,?_⟩
 refine W.ret ?_
 refine EndsW.rt ?_
 conv=>whnf
 refine ⟨⟨I,I,I⟩,?_,rfl⟩
 exact vi (by omega)
theorem c_laws_heldLog (x:Log) (k:Int) (hl:x.safe.length ≤ 9223372036854775806 ∧ x.loose.length ≤ 9223372036854775806) (h0:0 ≤ k) (hk:k + logTopC x ≤ 1099511627776):F n_laws_heldLog [.val (logR (logTop k x)),.val (.i k)] (.i (k + logTopC x)) [[],[]]:=by
 obtain ⟨hl0,hl1⟩:=hl
 have hz:logTopC x = x.safe.length + x.loose.length:=rfl
 refine i_laws_heldLog ?_
 conv=>whnf
 refine g 0 1 [] ?_
 conv=>whnf
 refine ⟨⟨⟨I,I,I⟩,I,I⟩,?_⟩
 refine g 5 9 [.call (V.i (k + (↑(List.length (Log.safe x)):Int))) ([[],[]])] ?_
 conv=>whnf
 refine ⟨⟨I,I,I,⟨⟨I,I,I⟩,I,⟨⟨I,I⟩,⟨I,I⟩,I⟩,⟨I,I⟩,Go.K.c_laws_heldStringS _ _ (by omega) (by omega) (by omega)⟩,I,I⟩,?_⟩
 refine W.sq ?_
 refine g 9 10 [] ?_
 conv=>whnf
 refine ⟨⟨I,I,I⟩,?_⟩
 refine W.cn ?_
 conv=>whnf
 refine ⟨noT (dF (by omega)),fun _=>?_⟩
 refine W.skip ?_
 refine g 10 15 [.call (V.i (k + (↑(List.length (Log.safe x)):Int) + (↑(List.length (Log.loose x)):Int))) ([[],[]])] ?_
 conv=>whnf
 refine ⟨⟨I,I,I,⟨⟨I,I,I⟩,I,⟨⟨I,I⟩,⟨I,I⟩,I⟩,⟨I,I⟩,Go.K.c_laws_heldStringS _ _ (by omega) (by omega) (by omega)⟩,I,I⟩,?_⟩
 refine W.sq ?_
 refine g 2 3 [] ?_
 conv=>whnf
 refine ⟨⟨I,I,I⟩,?_⟩
 refine W.cn ?_
 conv=>whnf
 refine ⟨noT (dF (by omega)),fun _=>?_⟩
 refine W.skip ?_
 refine g 15 18 [] ?_
 conv=>whnf
 refine ⟨⟨I,I,I⟩,?_⟩
 refine W.ret ?_
 refine EndsW.rt ?_
 conv=>whnf
 refine ⟨⟨I,I,I⟩,?_,rfl⟩
 exact vi (by omega)
def bossTop (k:Int) (x:Boss):Boss:=⟨x.workers,x.up,x.now,x.since,x.epoch,x.given,logTop (k) x.log,mkL (fun k _=>markT k) (fun _=>1) (k + logTopC x.log) x.results,mkL jobMk jobC (k + logTopC x.log + x.results.length) x.jobs,mkL seatMk seatC (k + logTopC x.log + x.results.length + sumI jobC x.jobs) x.seats,mkL owedMk owedC (k + logTopC x.log + x.results.length + sumI jobC x.jobs + sumI seatC x.seats) x.owed⟩
def bossTopC (x:Boss):Int:=logTopC x.log + x.results.length + sumI jobC x.jobs + sumI seatC x.seats + sumI owedC x.owed
theorem bossTopC_nn (x:Boss):0 ≤ bossTopC x:=by
 have:=logTopC_nn x.log
 have:=sum_nn jobC_nn x.jobs
 have:=sum_nn seatC_nn x.seats
 have:=sum_nn owedC_nn x.owed
 simp only [bossTopC]; omega
theorem c_laws_markBoss (x:Boss) (k:Int) (hl:x.log.safe.length ≤ 9223372036854775806 ∧ x.log.loose.length ≤ 9223372036854775806 ∧ x.results.length ≤ 9223372036854775806 ∧ x.jobs.length ≤ 9223372036854775806 ∧ x.seats.length ≤ 9223372036854775806 ∧ x.owed.length ≤ 9223372036854775806) (h0:0 ≤ k) (hk:k + bossTopC x ≤ 1099511627776):F n_laws_markBoss [.bor (bossO x),.val (.i k)] (.i (k + bossTopC x)) [cellsOf (bossO (bossTop k x)),[]]:=by
 obtain ⟨hl0,hl1,hl2,hl3,hl4,hl5⟩:=hl
 have hn0:=logTopC_nn x.log
 have hn1:=sum_nn jobC_nn x.jobs
 have hn2:=sum_nn seatC_nn x.seats
 have hn3:=sum_nn owedC_nn x.owed
 have hz:bossTopC x = logTopC x.log + x.results.length + sumI jobC x.jobs + sumI seatC x.seats + sumI owedC x.owed:=rfl
 refine i_laws_markBoss ?_
 conv=>whnf
 refine g 0 1 [] ?_
 conv=>whnf
 refine ⟨⟨⟨I,I,I,I,I,I,I⟩,I,I⟩,?_⟩
 refine g 5 9 [.call (V.i (k + logTopC (Boss.log x))) ([cellsOf (logO (logTop k (Boss.log x))),[]])] ?_
 conv=>whnf
 refine ⟨⟨I,I,I,⟨⟨⟨I,I,I⟩,I,I⟩,I,⟨I,⟨I,I⟩,I⟩,⟨I,I⟩,Go.K.c_laws_markLog _ _ (by omega) (by omega) (by omega)⟩,I,I⟩,?_⟩
 refine g 9 13 [.call (V.i (k + logTopC (Boss.log x) + (↑(List.length (Boss.results x)):Int))) ([[V.own [false] (List.map strT (mkL (fun k x=>markT k) (fun x=>(1:Int)) (k + logTopC (Boss.log x)) (Boss.results x)))],[]])] ?_
 conv=>whnf
 refine ⟨⟨I,I,I,⟨⟨⟨I,I⟩,I,I⟩,I,⟨I,⟨I,I⟩,I⟩,⟨I,I⟩,Go.K.c_laws_markStringS _ _ (by omega) (by omega) (by omega)⟩,I,I⟩,?_⟩
 refine g 13 17 [.call (V.i (k + logTopC (Boss.log x) + (↑(List.length (Boss.results x)):Int) + sumI jobC (Boss.jobs x))) ([[V.own jobK (List.map jobT (mkL jobMk jobC (k + logTopC (Boss.log x) + (↑(List.length (Boss.results x)):Int)) (Boss.jobs x)))],[]])] ?_
 conv=>whnf
 refine ⟨⟨I,I,I,⟨⟨⟨I,I⟩,I,I⟩,I,⟨I,⟨I,I⟩,I⟩,⟨I,I⟩,Go.K.c_laws_markJobS _ _ (by omega) (by omega) (by omega)⟩,I,I⟩,?_⟩
 refine g 17 21 [.call (V.i (k + logTopC (Boss.log x) + (↑(List.length (Boss.results x)):Int) + sumI jobC (Boss.jobs x) + sumI seatC (Boss.seats x))) ([[V.own seatK (List.map seatT (mkL seatMk seatC (k + logTopC (Boss.log x) + (↑(List.length (Boss.results x)):Int) + sumI jobC (Boss.jobs x)) (Boss.seats x)))],[]])] ?_
 conv=>whnf
 refine ⟨⟨I,I,I,⟨⟨⟨I,I⟩,I,I⟩,I,⟨I,⟨I,I⟩,I⟩,⟨I,I⟩,Go.K.c_laws_markSeatS _ _ (by omega) (by omega) (by omega)⟩,I,I⟩,?_⟩
 refine g 21 25 [.call (V.i (k + logTopC (Boss.log x) + (↑(List.length (Boss.results x)):Int) + sumI jobC (Boss.jobs x) + sumI seatC (Boss.seats x) + sumI owedC (Boss.owed x))) ([[V.own owedK (List.map owedT (mkL owedMk owedC (k + logTopC (Boss.log x) + (↑(List.length (Boss.results x)):Int) + sumI jobC (Boss.jobs x) + sumI seatC (Boss.seats x)) (Boss.owed x)))],[]])] ?_
 conv=>whnf
 refine ⟨⟨I,I,I,⟨⟨⟨I,I⟩,I,I⟩,I,⟨I,⟨I,I⟩,I⟩,⟨I,I⟩,Go.K.c_laws_markOwedS _ _ (by omega) (by omega) (by omega)⟩,I,I⟩,?_⟩
 refine g 1 3 [] ?_
 conv=>whnf
 refine ⟨⟨I,I,I⟩,?_⟩
 refine W.ret ?_
 refine EndsW.rt ?_
 conv=>whnf
 refine ⟨⟨I,I,I⟩,?_,rfl⟩
 exact vi (by omega)
theorem c_laws_heldBoss (x:Boss) (k:Int) (hl:x.log.safe.length ≤ 9223372036854775806 ∧ x.log.loose.length ≤ 9223372036854775806 ∧ x.results.length ≤ 9223372036854775806 ∧ x.jobs.length ≤ 9223372036854775806 ∧ x.seats.length ≤ 9223372036854775806 ∧ x.owed.length ≤ 9223372036854775806) (h0:0 ≤ k) (hk:k + bossTopC x ≤ 1099511627776):F n_laws_heldBoss [.val (bossR (bossTop k x)),.val (.i k)] (.i (k + bossTopC x)) [[],[]]:=by
 obtain ⟨hl0,hl1,hl2,hl3,hl4,hl5⟩:=hl
 have hn0:=logTopC_nn x.log
 have hn1:=sum_nn jobC_nn x.jobs
 have hn2:=sum_nn seatC_nn x.seats
 have hn3:=sum_nn owedC_nn x.owed
 have hz:bossTopC x = logTopC x.log + x.results.length + sumI jobC x.jobs + sumI seatC x.seats + sumI owedC x.owed:=rfl
 refine i_laws_heldBoss ?_
 conv=>whnf
 refine g 0 1 [] ?_
 conv=>whnf
 refine ⟨⟨⟨I,I,I,I,I,I,I,I,I,I,I,I,I⟩,I,I⟩,?_⟩
 refine g 5 9 [.call (V.i (k + logTopC (Boss.log x))) ([[],[]])] ?_
 conv=>whnf
 refine ⟨⟨I,I,I,⟨⟨I,I,I⟩,I,⟨⟨I,I,I⟩,⟨I,I⟩,I⟩,⟨I,I⟩,Go.K.c_laws_heldLog _ _ (by omega) (by omega) (by omega)⟩,I,I⟩,?_⟩
 refine W.sq ?_
 refine g 9 10 [] ?_
 conv=>whnf
 refine ⟨⟨I,I,I⟩,?_⟩
 refine W.cn ?_
 conv=>whnf
 refine ⟨noT (dF (by omega)),fun _=>?_⟩
 refine W.skip ?_
 refine g 10 15 [.call (V.i (k + logTopC (Boss.log x) + (↑(List.length (Boss.results x)):Int))) ([[],[]])] ?_
 conv=>whnf
 refine ⟨⟨I,I,I,⟨⟨I,I,I⟩,I,⟨⟨I,I⟩,⟨I,I⟩,I⟩,⟨I,I⟩,Go.K.c_laws_heldStringS _ _ (by omega) (by omega) (by omega)⟩,I,I⟩,?_⟩
 refine W.sq ?_
 refine g 15 16 [] ?_
 conv=>whnf
 refine ⟨⟨I,I,I⟩,?_⟩
 refine W.cn ?_
 conv=>whnf
 refine ⟨noT (dF (by omega)),fun _=>?_⟩
 refine W.skip ?_
 refine g 16 21 [.call (V.i (k + logTopC (Boss.log x) + (↑(List.length (Boss.results x)):Int) + sumI jobC (Boss.jobs x))) ([[],[]])] ?_
 conv=>whnf
 refine ⟨⟨I,I,I,⟨⟨I,I,I⟩,I,⟨⟨I,I⟩,⟨I,I⟩,I⟩,⟨I,I⟩,Go.K.c_laws_heldJobS _ _ (by omega) (by omega) (by omega)⟩,I,I⟩,?_⟩
 refine W.sq ?_
 refine g 21 22 [] ?_
 conv=>whnf
 refine ⟨⟨I,I,I⟩,?_⟩
 refine W.cn ?_
 conv=>whnf
 refine ⟨noT (dF (by omega)),fun _=>?_⟩
 refine W.skip ?_
 refine g 22 27 [.call (V.i (k + logTopC (Boss.log x) + (↑(List.length (Boss.results x)):Int) + sumI jobC (Boss.jobs x) + sumI seatC (Boss.seats x))) ([[],[]])] ?_
 conv=>whnf
 refine ⟨⟨I,I,I,⟨⟨I,I,I⟩,I,⟨⟨I,I⟩,⟨I,I⟩,I⟩,⟨I,I⟩,Go.K.c_laws_heldSeatS _ _ (by omega) (by omega) (by omega)⟩,I,I⟩,?_⟩
 refine W.sq ?_
 refine g 27 28 [] ?_
 conv=>whnf
 refine ⟨⟨I,I,I⟩,?_⟩
 refine W.cn ?_
 conv=>whnf
 refine ⟨noT (dF (by omega)),fun _=>?_⟩
 refine W.skip ?_
 refine g 28 33 [.call (V.i (k + logTopC (Boss.log x) + (↑(List.length (Boss.results x)):Int) + sumI jobC (Boss.jobs x) + sumI seatC (Boss.seats x) + sumI owedC (Boss.owed x))) ([[],[]])] ?_
 conv=>whnf
 refine ⟨⟨I,I,I,⟨⟨I,I,I⟩,I,⟨⟨I,I⟩,⟨I,I⟩,I⟩,⟨I,I⟩,Go.K.c_laws_heldOwedS _ _ (by omega) (by omega) (by omega)⟩,I,I⟩,?_⟩
 refine W.sq ?_
 refine g 2 3 [] ?_
 conv=>whnf
 refine ⟨⟨I,I,I⟩,?_⟩
 refine W.cn ?_
 conv=>whnf
 refine ⟨noT (dF (by omega)),fun _=>?_⟩
 refine W.skip ?_
 refine g 33 36 [] ?_
 conv=>whnf
 refine ⟨⟨I,I,I⟩,?_⟩
 refine W.ret ?_
 refine EndsW.rt ?_
 conv=>whnf
 refine ⟨⟨I,I,I⟩,?_,rfl⟩
 exact vi (by omega)
end Go.K
end
section
set_option linter.unusedVariables false
set_option linter.unusedSimpArgs false
set_option maxHeartbeats 8000000
set_option maxRecDepth 20000
open Go Go.Tm Go.Proofs
namespace Go.K
theorem c_impl_Boss_twin (b:Boss) (h1:b.log.safe.length ≤ 1048576) (h2:b.log.loose.length ≤ 1048576) (h3:b.results.length ≤ 1048576) (h4:b.jobs.length ≤ 1048576) (h5:b.seats.length ≤ 1048576) (h6:b.owed.length ≤ 1048576):F n_impl_Boss_twin [.val (bossR b)] (bossO b) [[]]:=by
 refine i_impl_Boss_twin ?_
 conv=>whnf
 refine g 0 0 [] ?_
 conv=>whnf
 refine ⟨⟨⟨I,I,I,I,I,I,I,I,I,I,I,I,I⟩,I,I⟩,?_⟩
 refine gd 3 13 [[],[],[],[.call (V.own [false] (List.map strT (Log.safe (Boss.log b)))) ([[]])],[],[],[],[.call (V.own [false] (List.map strT (Log.loose (Boss.log b)))) ([[]])],[],[],[]] ?_
 conv=>whnf
 refine ⟨⟨I,I,I,⟨⟨I,I⟩,I,⟨⟨I,I⟩,I⟩,⟨I,I⟩,Go.K.c_impl_clone _ (by omega)⟩,I,I,I,⟨⟨I,I⟩,I,⟨⟨I,I⟩,I⟩,⟨I,I⟩,Go.K.c_impl_clone _ (by omega)⟩,I,I,⟨I,I,I⟩,I⟩,by kernel_rfl,?_⟩
 refine g 13 17 [.call (V.own [false] (List.map strT (Boss.results b))) ([[]])] ?_
 conv=>whnf
 refine ⟨⟨I,I,⟨⟨I,I⟩,I,⟨⟨I,I⟩,I⟩,⟨I,I⟩,Go.K.c_impl_clone _ (by omega)⟩,I,⟨I,I⟩,I⟩,?_⟩
 refine g 17 22 [] ?_
 conv=>whnf
 refine ⟨⟨I,I,I,⟨I,I,(by simp only [lens]; omega)⟩,I,⟨I,I⟩,I⟩,?_⟩
 refine g 22 27 [] ?_
 conv=>whnf
 refine ⟨⟨I,I,I,⟨I,I,(by simp only [lens]; omega)⟩,I,⟨I,I⟩,I⟩,?_⟩
 refine g 27 32 [] ?_
 conv=>whnf
 refine ⟨⟨I,I,I,⟨I,I,(by simp only [lens]; omega)⟩,I,⟨I,I⟩,I⟩,?_⟩
 refine g 0 2 [] ?_
 conv=>whnf
 refine ⟨⟨I,⟨I,I,I,I,I,I,I,I,I,I,I,I,I⟩,I⟩,?_⟩
 refine W.ret ?_
 refine EndsW.rt ?_
 conv=>whnf
 refine ⟨⟨I,I,I,I,I,I,I,I,I,I,I,I,I,I⟩,?_,rfl⟩
 rfl
theorem c_spec_l4Log (l:Log) (h1:l.safe.length ≤ 1048576) (h2:l.loose.length ≤ 1048576):F n_spec_l4Log [.val (logR l)] (logO l) [[]]:=by
 refine i_spec_l4Log ?_
 conv=>whnf
 refine g 0 0 [] ?_
 conv=>whnf
 refine ⟨⟨⟨I,I,I⟩,I,I⟩,?_⟩
 refine gd 3 12 [[],[],[],[],[],[],[],[],[],[]] ?_
 conv=>whnf
 refine ⟨⟨I,I,I,⟨I,I,(by simp only [lens]; omega)⟩,I,I,I,⟨I,I,(by simp only [lens]; omega)⟩,I,⟨I,I,I⟩,I⟩,by kernel_rfl,?_⟩
 refine W.ret ?_
 refine EndsW.rt ?_
 conv=>whnf
 refine ⟨⟨I,I,I,I⟩,?_,rfl⟩
 rfl
theorem c_spec_l5Copy (b:Boss) (h1:b.log.safe.length ≤ 1048576) (h2:b.log.loose.length ≤ 1048576) (h3:b.results.length ≤ 1048576) (h4:b.jobs.length ≤ 1048576) (h5:b.seats.length ≤ 1048576) (h6:b.owed.length ≤ 1048576):F n_spec_l5Copy [.val (bossR b)] (bossO b) [[]]:=by
 have c1:=c_spec_l4Log b.log h1 h2
 refine i_spec_l5Copy ?_
 conv=>whnf
 refine g 0 1 [] ?_
 conv=>whnf
 refine ⟨⟨⟨I,I,I,I,I,I,I,I,I,I,I,I,I⟩,I,I⟩,?_⟩
 refine g 3 7 [.call (logO (Boss.log b)) ([[]])] ?_
 conv=>whnf
 refine ⟨⟨I,I,⟨⟨I,I⟩,I,⟨⟨I,I,I⟩,I⟩,⟨I,I⟩,(by assumption)⟩,I,⟨I,I,I⟩,I⟩,?_⟩
 refine g 7 12 [] ?_
 conv=>whnf
 refine ⟨⟨I,I,I,⟨I,I,(by simp only [lens]; omega)⟩,I,⟨I,I⟩,I⟩,?_⟩
 refine g 12 17 [] ?_
 conv=>whnf
 refine ⟨⟨I,I,I,⟨I,I,(by simp only [lens]; omega)⟩,I,⟨I,I⟩,I⟩,?_⟩
 refine g 17 22 [] ?_
 conv=>whnf
 refine ⟨⟨I,I,I,⟨I,I,(by simp only [lens]; omega)⟩,I,⟨I,I⟩,I⟩,?_⟩
 refine g 22 27 [] ?_
 conv=>whnf
 refine ⟨⟨I,I,I,⟨I,I,(by simp only [lens]; omega)⟩,I,⟨I,I⟩,I⟩,?_⟩
 refine g 1 2 [] ?_
 conv=>whnf
 refine ⟨⟨I,⟨I,I,I,I,I,I,I,I,I,I,I,I,I⟩,I⟩,?_⟩
 refine W.ret ?_
 refine EndsW.rt ?_
 conv=>whnf
 refine ⟨⟨I,I,I,I,I,I,I,I,I,I,I,I,I,I⟩,?_,rfl⟩
 rfl
structure BossLim (b:Boss):Prop where
 safe:b.log.safe.length ≤ 1048576
 loose:b.log.loose.length ≤ 1048576
 all:∀ s ∈ b.log.safe ++ b.log.loose,s.size ≤ 281474976710656
 res:b.results.length ≤ 1048576
 jobs:b.jobs.length ≤ 1048576
 seats:b.seats.length ≤ 1048576
 owed:b.owed.length ≤ 1048576
theorem boss_lim {b:Boss} (h:bossSz b ≤ 1048576):BossLim b:=by
 obtain ⟨b1,b2,b3,b4,b5,b6,b7⟩:=boss_bounds h
 exact ⟨b1,b2,b3,b4,b5,b6,b7⟩
theorem ci_valid (b:Boss) (p:Plan) (hp:planWf p) (h:BossLim b):F n_impl_ValidBoss [.val (bossR b),.val (planR p)] (.b (decide (BossOk b p))) [[],[]]:=c_impl_ValidBoss b p hp h.safe h.loose h.all h.res h.jobs h.seats h.owed
theorem cs_valid (b:Boss) (p:Plan) (hp:planWf p) (h:BossLim b):F n_spec_ValidBoss [.val (bossR b),.val (planR p)] (.b (decide (BossOk b p))) [[],[]]:=c_spec_ValidBoss b p hp h.safe h.loose h.all h.res h.jobs h.seats h.owed
theorem ci_twin (b:Boss) (h:BossLim b):F n_impl_Boss_twin [.val (bossR b)] (bossO b) [[]]:=c_impl_Boss_twin b h.safe h.loose h.res h.jobs h.seats h.owed
theorem cs_copy (b:Boss) (h:BossLim b):F n_spec_l5Copy [.val (bossR b)] (bossO b) [[]]:=c_spec_l5Copy b h.safe h.loose h.res h.jobs h.seats h.owed
end Go.K
end
section
set_option linter.unusedVariables false
set_option linter.unusedSimpArgs false
set_option maxHeartbeats 8000000
set_option maxRecDepth 20000
open Go Go.Tm Go.Proofs
namespace Go.K
theorem sum_jobC:∀ l:List Job,sumI jobC l = 3 * (l.length:Int)
 | []=>by simp [sumI]
 | x :: l=>by have:=sum_jobC l; simp only [sumI,jobC,List.length_cons]; omega
theorem sum_seatC:∀ l:List Seat,sumI seatC l = 2 * (l.length:Int)
 | []=>by simp [sumI]
 | x :: l=>by have:=sum_seatC l; simp only [sumI,seatC,List.length_cons]; omega
theorem sum_owedC:∀ l:List Owed,sumI owedC l = 3 * (l.length:Int)
 | []=>by simp [sumI]
 | x :: l=>by have:=sum_owedC l; simp only [sumI,owedC,List.length_cons]; omega
theorem bossTopC_len (x:Boss):bossTopC x = x.log.safe.length + x.log.loose.length + x.results.length + 3 * x.jobs.length + 2 * x.seats.length + 3 * x.owed.length:=by
 simp only [bossTopC,logTopC,sum_jobC,sum_seatC,sum_owedC]
structure BossSmall (b:Boss):Prop where
 safe:b.log.safe.length ≤ 4194304
 loose:b.log.loose.length ≤ 4194304
 res:b.results.length ≤ 4194304
 jobs:b.jobs.length ≤ 4194304
 seats:b.seats.length ≤ 4194304
 owed:b.owed.length ≤ 4194304
theorem small_no:BossSmall noBoss:=⟨by decide,by decide,by decide,by decide,by decide,by decide⟩
theorem small_lim {b:Boss} (h:BossLim b):BossSmall b:=by
 obtain ⟨h1,h2,h3,h4,h5,h6,h7⟩:=h
 exact ⟨by omega,by omega,by omega,by omega,by omega,by omega⟩
theorem small_boss {b:Boss} (h:BossSmall b):bossLen b ∧ (b.log.safe.length ≤ 9223372036854775806 ∧ b.log.loose.length ≤ 9223372036854775806 ∧ b.results.length ≤ 9223372036854775806 ∧ b.jobs.length ≤ 9223372036854775806 ∧ b.seats.length ≤ 9223372036854775806 ∧ b.owed.length ≤ 9223372036854775806) ∧ bossTopC b ≤ 100000000 ∧ 0 ≤ bossTopC b:=by
 obtain ⟨h1,h2,h3,h4,h5,h6⟩:=h
 have e:=bossTopC_len b
 exact ⟨⟨by omega,by omega,by omega,by omega,by omega,by omega⟩,⟨by omega,by omega,by omega,by omega,by omega,by omega⟩,by omega,by omega⟩
end Go.K
end
section
set_option linter.unusedVariables false
set_option linter.unusedSimpArgs false
set_option maxHeartbeats 4000000
set_option maxRecDepth 20000
open Go Go.Tm Go.Proofs
namespace Go.K
structure Led where
 boss:Boss
 out:List Message
 deriving DecidableEq
abbrev ledR (x:Led):V:=.agg [.t (.i x.boss.workers),.t (.b x.boss.up),.t (.i x.boss.now),.t (.i x.boss.since),.t (.i x.boss.epoch),.t (.i x.boss.given),.t (.slc [false] (x.boss.log.safe.map strT)),.t (.slc [false] (x.boss.log.loose.map strT)),.t (.slc [false] (x.boss.results.map strT)),.t (.slc jobK (x.boss.jobs.map jobT)),.t (.slc seatK (x.boss.seats.map seatT)),.t (.slc owedK (x.boss.owed.map owedT)),.t (.slc messageK (x.out.map messageT))]
abbrev ledO (x:Led):V:=.agg [.t (.i x.boss.workers),.t (.b x.boss.up),.t (.i x.boss.now),.t (.i x.boss.since),.t (.i x.boss.epoch),.t (.i x.boss.given),.own [false] (x.boss.log.safe.map strT),.own [false] (x.boss.log.loose.map strT),.own [false] (x.boss.results.map strT),.own jobK (x.boss.jobs.map jobT),.own seatK (x.boss.seats.map seatT),.own owedK (x.boss.owed.map owedT),.own messageK (x.out.map messageT)]
abbrev noLed:Led:=⟨⟨0,false,0,0,0,0,⟨[],[]⟩,[],[],[],[]⟩,[]⟩
def ledLen (a:Led):Prop:=a.boss.log.safe.length ≤ 9223372036854775806 ∧ a.boss.log.loose.length ≤ 9223372036854775806 ∧ a.boss.results.length ≤ 9223372036854775806 ∧ a.boss.jobs.length ≤ 9223372036854775806 ∧ a.boss.seats.length ≤ 9223372036854775806 ∧ a.boss.owed.length ≤ 9223372036854775806 ∧ a.out.length ≤ 9223372036854775806 ∧ (∀ y ∈ a.out,messageLen y)
theorem c_laws_eqLed (a b:Led) (hl:ledLen a):F n_laws_eqLed [.val (ledR a),.val (ledR b)] (.b (decide (a = b))) [[],[]]:=by
 obtain ⟨a_boss,a_out⟩:=a
 obtain ⟨b_boss,b_out⟩:=b
 simp only [ledLen] at hl
 obtain ⟨hl0,hl1,hl2,hl3,hl4,hl5,hl6,hl7⟩:=hl
 have hx0:bossLen a_boss:=⟨hl0,hl1,hl2,hl3,hl4,hl5⟩
 refine i_laws_eqLed ?_
 conv=>whnf
 refine g 0 2 [] ?_
 conv=>whnf
 refine ⟨⟨⟨I,I,I,I,I,I,I,I,I,I,I,I,I,I⟩,⟨I,I,I,I,I,I,I,I,I,I,I,I,I,I⟩,I,I⟩,?_⟩
 refine W.sq ?_
 refine g 5 10 [.call (V.b (decide (a_boss = b_boss))) ([[],[]])] ?_
 conv=>whnf
 refine ⟨⟨I,I,I,I,⟨⟨I,I,I⟩,I,⟨⟨I,I,I,I,I,I,I,I,I,I,I,I,I⟩,⟨I,I,I,I,I,I,I,I,I,I,I,I,I⟩,I⟩,⟨I,I⟩,Go.K.c_laws_eqBoss _ _ (by omega)⟩,I,I⟩,?_⟩
 refine W.cn ?_
 conv=>whnf
 refine ⟨fun h1=>?_,fun h1=>?_⟩
 replace h1:=ndt h1
 refine g 10 11 [] ?_
 conv=>whnf
 refine ⟨⟨I,I⟩,?_⟩
 refine W.ret ?_
 refine EndsW.rt ?_
 conv=>whnf
 refine ⟨⟨I,I,I⟩,?_,rfl⟩
 rotate_left 1
 replace h1:=ndf h1
 refine W.skip ?_
 refine W.sq ?_
 refine g 10 16 [.call (V.b (decide (a_out = b_out))) ([[],[]])] ?_
 conv=>whnf
 refine ⟨⟨I,I,I,I,⟨⟨I,I,I⟩,I,⟨⟨I,I⟩,⟨I,I⟩,I⟩,⟨I,I⟩,Go.K.c_laws_eqMessageS _ _ (by omega) (by omega)⟩,I,I⟩,?_⟩
 refine W.cn ?_
 conv=>whnf
 refine ⟨fun h2=>?_,fun h2=>?_⟩
 replace h2:=ndt h2
 refine g 2 4 [] ?_
 conv=>whnf
 refine ⟨⟨I,I⟩,?_⟩
 refine W.ret ?_
 refine EndsW.rt ?_
 conv=>whnf
 refine ⟨⟨I,I,I⟩,?_,rfl⟩
 rotate_left 1
 replace h2:=ndf h2
 refine W.skip ?_
 refine g 2 4 [] ?_
 conv=>whnf
 refine ⟨⟨I,I⟩,?_⟩
 refine W.ret ?_
 refine EndsW.rt ?_
 conv=>whnf
 refine ⟨⟨I,I,I⟩,?_,rfl⟩
 rotate_left 1
 all_goals (first | exact vbt (by simp_all; done) | exact vbf (by simp_all; done))
def ledTop (k:Int) (x:Led):Led:=⟨bossTop (k) x.boss,mkL messageMk messageC (k + bossTopC x.boss) x.out⟩
def ledTopC (x:Led):Int:=bossTopC x.boss + sumI messageC x.out
theorem c_laws_markLed (x:Led) (k:Int) (hl:x.boss.log.safe.length ≤ 9223372036854775806 ∧ x.boss.log.loose.length ≤ 9223372036854775806 ∧ x.boss.results.length ≤ 9223372036854775806 ∧ x.boss.jobs.length ≤ 9223372036854775806 ∧ x.boss.seats.length ≤ 9223372036854775806 ∧ x.boss.owed.length ≤ 9223372036854775806 ∧ x.out.length ≤ 9223372036854775806) (h0:0 ≤ k) (hk:k + ledTopC x ≤ 1099511627776):F n_laws_markLed [.bor (ledO x),.val (.i k)] (.i (k + ledTopC x)) [cellsOf (ledO (ledTop k x)),[]]:=by
 obtain ⟨hl0,hl1,hl2,hl3,hl4,hl5,hl6⟩:=hl
 have hn0:=bossTopC_nn x.boss
 have hn1:=sum_nn messageC_nn x.out
 have hz:ledTopC x = bossTopC x.boss + sumI messageC x.out:=rfl
 refine i_laws_markLed ?_
 conv=>whnf
 refine g 0 1 [] ?_
 conv=>whnf
 refine ⟨⟨⟨I,I,I,I,I,I,I⟩,I,I⟩,?_⟩
 refine g 5 9 [.call (V.i (k + bossTopC (Led.boss x))) ([cellsOf (bossO (bossTop k (Led.boss x))),[]])] ?_
 conv=>whnf
 refine ⟨⟨I,I,I,⟨⟨⟨I,I,I,I,I,I,I,I,I,I,I,I,I⟩,I,I⟩,I,⟨I,⟨I,I⟩,I⟩,⟨I,I⟩,Go.K.c_laws_markBoss _ _ (by omega) (by omega) (by omega)⟩,I,I⟩,?_⟩
 refine g 9 13 [.call (V.i (k + bossTopC (Led.boss x) + sumI messageC (Led.out x))) ([[V.own messageK (List.map messageT (mkL messageMk messageC (k + bossTopC (Led.boss x)) (Led.out x)))],[]])] ?_
 conv=>whnf
 refine ⟨⟨I,I,I,⟨⟨⟨I,I⟩,I,I⟩,I,⟨I,⟨I,I⟩,I⟩,⟨I,I⟩,Go.K.c_laws_markMessageS _ _ (by omega) (by omega) (by omega)⟩,I,I⟩,?_⟩
 refine g 1 3 [] ?_
 conv=>whnf
 refine ⟨⟨I,I,I⟩,?_⟩
 refine W.ret ?_
 refine EndsW.rt ?_
 conv=>whnf
 refine ⟨⟨I,I,I⟩,?_,rfl⟩
 exact vi (by omega)
theorem c_laws_heldLed (x:Led) (k:Int) (hl:x.boss.log.safe.length ≤ 9223372036854775806 ∧ x.boss.log.loose.length ≤ 9223372036854775806 ∧ x.boss.results.length ≤ 9223372036854775806 ∧ x.boss.jobs.length ≤ 9223372036854775806 ∧ x.boss.seats.length ≤ 9223372036854775806 ∧ x.boss.owed.length ≤ 9223372036854775806 ∧ x.out.length ≤ 9223372036854775806) (h0:0 ≤ k) (hk:k + ledTopC x ≤ 1099511627776):F n_laws_heldLed [.val (ledR (ledTop k x)),.val (.i k)] (.i (k + ledTopC x)) [[],[]]:=by
 obtain ⟨hl0,hl1,hl2,hl3,hl4,hl5,hl6⟩:=hl
 have hn0:=bossTopC_nn x.boss
 have hn1:=sum_nn messageC_nn x.out
 have hz:ledTopC x = bossTopC x.boss + sumI messageC x.out:=rfl
 refine i_laws_heldLed ?_
 conv=>whnf
 refine g 0 1 [] ?_
 conv=>whnf
 refine ⟨⟨⟨I,I,I,I,I,I,I,I,I,I,I,I,I,I⟩,I,I⟩,?_⟩
 refine g 5 9 [.call (V.i (k + bossTopC (Led.boss x))) ([[],[]])] ?_
 conv=>whnf
 refine ⟨⟨I,I,I,⟨⟨I,I,I⟩,I,⟨⟨I,I,I,I,I,I,I,I,I,I,I,I,I⟩,⟨I,I⟩,I⟩,⟨I,I⟩,Go.K.c_laws_heldBoss _ _ (by omega) (by omega) (by omega)⟩,I,I⟩,?_⟩
 refine W.sq ?_
 refine g 9 10 [] ?_
 conv=>whnf
 refine ⟨⟨I,I,I⟩,?_⟩
 refine W.cn ?_
 conv=>whnf
 refine ⟨noT (dF (by omega)),fun _=>?_⟩
 refine W.skip ?_
 refine g 10 15 [.call (V.i (k + bossTopC (Led.boss x) + sumI messageC (Led.out x))) ([[],[]])] ?_
 conv=>whnf
 refine ⟨⟨I,I,I,⟨⟨I,I,I⟩,I,⟨⟨I,I⟩,⟨I,I⟩,I⟩,⟨I,I⟩,Go.K.c_laws_heldMessageS _ _ (by omega) (by omega) (by omega)⟩,I,I⟩,?_⟩
 refine W.sq ?_
 refine g 2 3 [] ?_
 conv=>whnf
 refine ⟨⟨I,I,I⟩,?_⟩
 refine W.cn ?_
 conv=>whnf
 refine ⟨noT (dF (by omega)),fun _=>?_⟩
 refine W.skip ?_
 refine g 15 18 [] ?_
 conv=>whnf
 refine ⟨⟨I,I,I⟩,?_⟩
 refine W.ret ?_
 refine EndsW.rt ?_
 conv=>whnf
 refine ⟨⟨I,I,I⟩,?_,rfl⟩
 exact vi (by omega)
end Go.K
end
section
set_option linter.unusedVariables false
set_option linter.unusedSimpArgs false
set_option maxHeartbeats 8000000
set_option maxRecDepth 20000
open Go Go.Tm Go.Proofs
namespace Go.K
def mapN {α:Type} (f:α → α) (l:List α) (n:Nat):List α:=(l.take n).map f ++ l.drop n
theorem mapN_len {α:Type} (f:α → α) (l:List α) (n:Nat):(mapN f l n).length = l.length:=by simp [mapN]; omega
theorem mapN_all {α:Type} (f:α → α) (l:List α) {n:Nat} (h:l.length ≤ n):mapN f l n = l.map f:=by
 rw [mapN,List.take_of_length_le h,List.drop_of_length_le h,List.append_nil]
theorem mapN_get {α:Type} (f:α → α) {l:List α} {n:Nat} {x:α} (h:l[n]? = some x):(mapN f l n)[n]? = some x:=by
 have hl:n < l.length:=(List.getElem?_eq_some_iff.1 h).1
 rw [mapN,List.getElem?_append_right (by simp; omega)]
 simp only [List.length_map,List.length_take,List.getElem?_drop]
 rw [show n + (n - min n l.length) = n by omega,h]
theorem mapN_set {α:Type} {f:α → α} {l:List α} {n:Nat} {x:α} (h:l[n]? = some x):(mapN f l n).set n (f x) = mapN f l (n + 1):=by
 obtain ⟨hl,hx⟩:=List.getElem?_eq_some_iff.1 h
 unfold mapN
 rw [List.drop_eq_getElem_cons hl,hx,List.set_append_right _ _ (by simp; omega),List.take_add_one,h]
 simp only [List.length_map,List.length_take,Option.toList_some,List.map_append,List.map_cons,List.map_nil,List.append_assoc,List.cons_append,List.nil_append]
 rw [show n - min n l.length = 0 by omega,List.set_cons_zero]
theorem mapN_setm {α β:Type} {f:α → α} {g:α → β} {l:List α} {n:Nat} {x:α} (h:l[n]? = some x):((mapN f l n).map g).set n (g (f x)) = (mapN f l (n + 1)).map g:=by
 rw [← List.map_set,mapN_set h]
theorem mapN_getm {α β:Type} {f:α → α} {g:α → β} {l:List α} {n:Nat} {x:α} (h:l[n]? = some x):((mapN f l n).map g)[n]? = some (g x):=by
 rw [List.getElem?_map,mapN_get f h]; rfl
theorem mapN_same {α:Type} {f:α → α} {l:List α} {n:Nat} {x:α} (h:l[n]? = some x) (e:f x = x):mapN f l n = mapN f l (n + 1):=by
 rw [← mapN_set h,e]
 obtain ⟨hl,hx⟩:=List.getElem?_eq_some_iff.1 (mapN_get f h)
 have:=List.set_getElem_self hl
 rw [hx] at this; exact this.symm
structure Hand where
 given:Int
 jobs:List Job
 seats:List Seat
 out:List Message
def dueJ (now:Int) (j:Job):Job:=if j.til ≤ now then noJob else j
def jobAt (js:List Job) (i:Nat):Job:=(js[i]?).getD noJob
def seatAt (ss:List Seat) (i:Nat):Seat:=(ss[i]?).getD noSeat
def freeAt (ss:List Seat):Option Nat:=ss.findIdx? Seat.free
def offerM (b:Boss) (ts:List Task) (s i:Nat) (g:Int):Message:=⟨1,0,(s:Int) + 1,b.epoch,(b.epoch - 1) * 1000000 + g,i,emp,pickL b.results (depsOf ts i)⟩
structure CanHand (b:Boss) (ts:List Task) (h:Hand) (i:Nat):Prop where
 res:atS b.results i = emp
 job:(jobAt h.jobs i).lease = 0
 ready:readyB b.results (depsOf ts i)
 given:h.given < 1000000
noncomputable instance (b:Boss) (ts:List Task) (h:Hand) (i:Nat):Decidable (CanHand b ts h i):=Classical.propDecidable _
def handTo (b:Boss) (ts:List Task) (h:Hand) (i s:Nat):Hand:=⟨h.given + 1,h.jobs.set i ⟨(b.epoch - 1) * 1000000 + (h.given + 1),(s:Int) + 1,b.now + 12⟩,h.seats.set s ⟨false,(seatAt h.seats s).epoch⟩,h.out ++ [offerM b ts s i (h.given + 1)]⟩
noncomputable def handS (b:Boss) (ts:List Task) (i:Nat) (h:Hand):Hand :=
 if CanHand b ts h i then (match freeAt h.seats with | none=>h | some s=>handTo b ts h i s) else h
noncomputable def handN (b:Boss) (ts:List Task):Nat → Hand
 | 0=>⟨b.given,b.jobs,b.seats,[]⟩
 | n + 1=>handS b ts n (handN b ts n)
structure HandOk (b:Boss) (ts:List Task) (h:Hand) (n:Nat):Prop where
 jobs:h.jobs.length = b.jobs.length
 seats:h.seats.length = b.seats.length
 out:h.out.length ≤ n
 lo:0 ≤ h.given
 hi:h.given ≤ 1000000
 inputs:∀ m ∈ h.out,m.inputs.length ≤ 8
def dueB (b:Boss):Boss:=⟨b.workers,b.up,b.now + 1,b.since,b.epoch,b.given,b.log,b.results,b.jobs.map (dueJ (b.now + 1)),b.seats,b.owed⟩
noncomputable def endH (b:Boss) (ts:List Task):Hand:=handN (dueB b) ts ts.length
end Go.K
end
section
set_option linter.unusedVariables false
set_option linter.unusedSimpArgs false
set_option maxHeartbeats 8000000
set_option maxRecDepth 20000
open Go Go.Tm Go.Proofs
namespace Go.K
def freeJ (w:Int) (j:Job):Job:=if j.worker = w then noJob else j
def beatJ (l t:Int) (j:Job):Job:=if j.lease = l then ⟨j.lease,j.worker,t⟩ else j
def seatI (m:Message):Nat:=(m.frm - 1).toNat
def oldM (b:Boss) (m:Message):Prop:=m.epoch < (seatAt b.seats (seatI m)).epoch
instance (b:Boss) (m:Message):Decidable (oldM b m):=by unfold oldM; infer_instance
def freeB (b:Boss) (m:Message):Boss:=if oldM b m then b else ⟨b.workers,b.up,b.now,b.since,b.epoch,b.given,b.log,b.results,b.jobs,b.seats.set (seatI m) ⟨true,m.epoch⟩,b.owed⟩
def hereB (b:Boss) (m:Message):Boss:=if oldM b m then b else ⟨b.workers,b.up,b.now,b.since,b.epoch,b.given,b.log,b.results,b.jobs.map (freeJ m.frm),b.seats.set (seatI m) ⟨true,m.epoch⟩,b.owed⟩
def beatB (b:Boss) (m:Message):Boss:=⟨b.workers,b.up,b.now,b.since,b.epoch,b.given,b.log,b.results,b.jobs.map (beatJ m.lease (b.now + 12)),b.seats,b.owed⟩
structure CanPut (b:Boss) (ts:List Task) (m:Message):Prop where
 res:atS b.results m.task = emp
 ready:readyB b.results (depsOf ts m.task.toNat)
 room:b.log.safe.length + b.log.loose.length < 310
noncomputable instance (b:Boss) (ts:List Task) (m:Message):Decidable (CanPut b ts m):=Classical.propDecidable _
def putB (b:Boss) (m:Message):Boss:=⟨b.workers,b.up,b.now,b.since,b.epoch,b.given,⟨b.log.safe,b.log.loose ++ [formS ⟨2,b.epoch,m.task,m.text⟩]⟩,b.results.set m.task.toNat m.text,b.jobs.set m.task.toNat noJob,b.seats,b.owed⟩
noncomputable def res1 (b:Boss) (ts:List Task) (m:Message):Boss:=if CanPut b ts m then putB b m else b
def res2 (b:Boss) (m:Message):Boss:=if atS b.results m.task = emp then freeB b m else b
structure Owes (b:Boss) (m:Message):Prop where
 same:atS b.results m.task = m.text
 room:b.owed.length < 2000
 new:∀ o ∈ b.owed,¬ (o.worker = m.frm ∧ o.lease = m.lease)
noncomputable instance (b:Boss) (m:Message):Decidable (Owes b m):=Classical.propDecidable _
noncomputable def res3 (b:Boss) (m:Message):Boss:=if Owes b m then ⟨b.workers,b.up,b.now,b.since,b.epoch,b.given,b.log,b.results,b.jobs,b.seats,b.owed ++ [⟨m.frm,m.lease,m.task⟩]⟩ else b
noncomputable def resultB (b:Boss) (ts:List Task) (m:Message):Boss:=res3 (res2 (res1 b ts m) m) m
structure ForB (b:Boss) (m:Message):Prop where
 up:b.up = true
 ok:msgOk m
 to:m.to = 0
 frm:m.frm ≤ b.workers
noncomputable instance (b:Boss) (m:Message):Decidable (ForB b m):=Classical.propDecidable _
noncomputable def takeB (b:Boss) (ts:List Task) (m:Message):Boss :=
 if ForB b m then
  (if m.kind = 5 then hereB b m else if m.kind = 2 then beatB b m else if m.kind = 3 then (if m.task < ts.length then resultB b ts m else b) else b)
 else b
theorem take_no {b:Boss} {ts:List Task} {m:Message} (h:¬ ForB b m):takeB b ts m = b:=if_neg h
theorem take_here {b:Boss} {ts:List Task} {m:Message} (h:ForB b m) (hk:m.kind = 5):takeB b ts m = hereB b m:=by rw [takeB,if_pos h,if_pos hk]
theorem take_beat {b:Boss} {ts:List Task} {m:Message} (h:ForB b m) (hk:m.kind = 2):takeB b ts m = beatB b m:=by rw [takeB,if_pos h,if_neg (by omega),if_pos hk]
theorem take_res {b:Boss} {ts:List Task} {m:Message} (h:ForB b m) (hk:m.kind = 3) (ht:m.task < ts.length):takeB b ts m = resultB b ts m:=by rw [takeB,if_pos h,if_neg (by omega),if_neg (by omega),if_pos hk,if_pos ht]
theorem take_out {b:Boss} {ts:List Task} {m:Message} (h:ForB b m) (hk:m.kind = 3) (ht:¬ m.task < ts.length):takeB b ts m = b:=by rw [takeB,if_pos h,if_neg (by omega),if_neg (by omega),if_pos hk,if_neg ht]
theorem for_kind {b:Boss} {m:Message} (h:ForB b m):(m.kind = 2 ∨ m.kind = 3 ∨ m.kind = 5) ∧ (1 ≤ m.frm ∧ m.frm ≤ 8) ∧ (1 ≤ m.epoch ∧ m.epoch ≤ 300):=by
 obtain ⟨h1,h2⟩:=h.ok
 have h0:=h.to
 rcases h2 with q | q | q | q | q
 ·have:=q.2.2.1; omega
 ·exact ⟨.inl q.1,q.2.2.1,h1⟩
 ·exact ⟨.inr (.inl q.1),q.2.2.1,h1⟩
 ·have:=q.2.2.1; omega
 ·exact ⟨.inr (.inr q.1),q.2.2.1,h1⟩
theorem for_res {b:Boss} {m:Message} (h:ForB b m) (hk:m.kind = 3):(1 ≤ m.lease ∧ m.lease ≤ 300000000) ∧ (0 ≤ m.task ∧ m.task ≤ 39) ∧ (m.text.size:Int) = 8:=by
 obtain ⟨h1,h2⟩:=h.ok
 rcases h2 with q | q | q | q | q
 ·have:=q.1; omega
 ·have:=q.1; omega
 ·exact ⟨q.2.2.2.1,q.2.2.2.2.1,q.2.2.2.2.2.1⟩
 ·have:=q.1; omega
 ·have:=q.1; omega
noncomputable def bTake (b:Boss) (p:Plan) (m:Message):Led:=if BossOk b p then ⟨takeB b p.tasks m,[]⟩ else noLed
theorem btake_ok {b:Boss} {p:Plan} {m:Message} (h:BossOk b p):bTake b p m = ⟨takeB b p.tasks m,[]⟩:=if_pos h
theorem btake_no {b:Boss} {p:Plan} {m:Message} (h:¬ BossOk b p):bTake b p m = noLed:=if_neg h
end Go.K
end

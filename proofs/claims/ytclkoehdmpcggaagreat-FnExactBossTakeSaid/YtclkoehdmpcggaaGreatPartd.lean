/- Contracts of functions of the program: what each call answers. -/
import Derived.Test.YtclkoehdmpcggaaGreatPartc
import Derived.Test.YtclkoehdmpcggaaGreatProg
section
set_option linter.unusedVariables false
set_option linter.unusedSimpArgs false
open Go Go.Tm Go.Proofs
namespace Go.K
def E:Env:=(.node (.node (.node (.node (.node (.node (.node .nil 2 ⟨(.int .i64),[.t (.v (.int .i64 0))],8⟩ .nil) 3 ⟨(.int .i64),[.t (.v (.int .i64 0))],8⟩ .nil) 4 ⟨.bool,[.b false],1⟩ (.node .nil 5 ⟨(.int .u8),[.t (.v (.int .u8 0))],1⟩ .nil)) 6 ⟨(.int .u8),[.t (.v (.int .u8 0))],1⟩ (.node (.node .nil 7 ⟨(.struct [(0,2),(1,3),(2,4),(3,6)]),[.t (.v (.int .i64 0)),.t (.v (.int .i64 0)),.b false,.t (.v (.int .u8 0))],24⟩ .nil) 9 ⟨.str,[.s ⟨#[]⟩],16⟩ (.node .nil 12 ⟨(.int .u64),[.t (.v (.int .u64 0))],8⟩ .nil))) 13 ⟨(.struct [(0,9),(1,12)]),[.s ⟨#[]⟩,.t (.v (.int .u64 0))],24⟩ (.node (.node (.node (.node .nil 17 ⟨(.ptr 167),[.t (.v (.pointer none))],8⟩ .nil) 18 ⟨(.struct [(0,17)]),[.t (.v (.pointer none))],8⟩ .nil) 19 ⟨(.struct [(0,17)]),[.t (.v (.pointer none))],8⟩ (.node .nil 21 ⟨(.int .i32),[.t (.v (.int .i32 0))],4⟩ .nil)) 22 ⟨(.slice 9),[.own [false] []],24⟩ (.node (.node .nil 23 ⟨(.struct [(0,22),(1,22)]),[.own [false] [],.own [false] []],48⟩ .nil) 24 ⟨(.struct [(0,22),(1,22)]),[.own [false] [],.own [false] []],48⟩ (.node .nil 25 ⟨(.slice 123),[.own [false,false,false] []],24⟩ .nil)))) 26 ⟨(.slice 125),[.own [false,false] []],24⟩ (.node (.node (.node (.node (.node .nil 27 ⟨(.slice 127),[.own [false,false,false] []],24⟩ .nil) 28 ⟨(.struct [(0,3),(1,4),(2,3),(3,3),(4,3),(5,3),(6,24),(8,22),(9,25),(10,26),(11,27)]),[.t (.v (.int .i64 0)),.b false,.t (.v (.int .i64 0)),.t (.v (.int .i64 0)),.t (.v (.int .i64 0)),.t (.v (.int .i64 0)),.own [false] [],.own [false] [],.own [false] [],.own [false,false,false] [],.own [false,false] [],.own [false,false,false] []],192⟩ .nil) 29 ⟨(.struct [(0,3),(1,4),(2,3),(3,3),(4,3),(5,3),(6,24),(8,22),(9,25),(10,26),(11,27)]),[.t (.v (.int .i64 0)),.b false,.t (.v (.int .i64 0)),.t (.v (.int .i64 0)),.t (.v (.int .i64 0)),.t (.v (.int .i64 0)),.own [false] [],.own [false] [],.own [false] [],.own [false,false,false] [],.own [false,false] [],.own [false,false,false] []],192⟩ (.node .nil 30 ⟨(.slice 102),[.own [false,false,true] []],24⟩ .nil)) 31 ⟨(.struct [(0,30)]),[.own [false,false,true] []],24⟩ (.node (.node .nil 32 ⟨(.struct [(0,30)]),[.own [false,false,true] []],24⟩ .nil) 33 ⟨(.struct [(0,3),(1,3),(2,3),(3,3),(4,3),(5,3),(6,9),(7,22)]),[.t (.v (.int .i64 0)),.t (.v (.int .i64 0)),.t (.v (.int .i64 0)),.t (.v (.int .i64 0)),.t (.v (.int .i64 0)),.t (.v (.int .i64 0)),.s ⟨#[]⟩,.own [false] []],88⟩ (.node .nil 34 ⟨(.struct [(0,3),(1,3),(2,3),(3,3),(4,3),(5,3),(6,9),(7,22)]),[.t (.v (.int .i64 0)),.t (.v (.int .i64 0)),.t (.v (.int .i64 0)),.t (.v (.int .i64 0)),.t (.v (.int .i64 0)),.t (.v (.int .i64 0)),.s ⟨#[]⟩,.own [false] []],88⟩ .nil))) 38 ⟨(.struct [(0,22),(1,22)]),[.own [false] [],.own [false] []],48⟩ (.node (.node (.node .nil 39 ⟨(.slice 76),[.own [false,false,false] []],24⟩ .nil) 40 ⟨(.slice 110),[.own [false,false] []],24⟩ (.node .nil 41 ⟨(.slice 112),[.own [false,false,false] []],24⟩ .nil)) 42 ⟨(.struct [(0,3),(1,4),(2,3),(3,3),(4,3),(5,3),(6,38),(8,22),(9,39),(10,40),(11,41)]),[.t (.v (.int .i64 0)),.b false,.t (.v (.int .i64 0)),.t (.v (.int .i64 0)),.t (.v (.int .i64 0)),.t (.v (.int .i64 0)),.own [false] [],.own [false] [],.own [false] [],.own [false,false,false] [],.own [false,false] [],.own [false,false,false] []],192⟩ (.node (.node .nil 43 ⟨(.struct [(0,3),(1,4),(2,3),(3,3),(4,3),(5,3),(6,38),(8,22),(9,39),(10,40),(11,41)]),[.t (.v (.int .i64 0)),.b false,.t (.v (.int .i64 0)),.t (.v (.int .i64 0)),.t (.v (.int .i64 0)),.t (.v (.int .i64 0)),.own [false] [],.own [false] [],.own [false] [],.own [false,false,false] [],.own [false,false] [],.own [false,false,false] []],192⟩ .nil) 44 ⟨(.slice 53),[.own [false,false,false,false,false,false,false,true] []],24⟩ (.node .nil 45 ⟨(.struct [(0,43),(12,44)]),[.t (.v (.int .i64 0)),.b false,.t (.v (.int .i64 0)),.t (.v (.int .i64 0)),.t (.v (.int .i64 0)),.t (.v (.int .i64 0)),.own [false] [],.own [false] [],.own [false] [],.own [false,false,false] [],.own [false,false] [],.own [false,false,false] [],.own [false,false,false,false,false,false,false,true] []],216⟩ .nil))))) 46 ⟨(.struct [(0,43),(12,44)]),[.t (.v (.int .i64 0)),.b false,.t (.v (.int .i64 0)),.t (.v (.int .i64 0)),.t (.v (.int .i64 0)),.t (.v (.int .i64 0)),.own [false] [],.own [false] [],.own [false] [],.own [false,false,false] [],.own [false,false] [],.own [false,false,false] [],.own [false,false,false,false,false,false,false,true] []],216⟩ (.node (.node (.node (.node (.node (.node .nil 49 ⟨(.slice 128),[.own [false,false,true] []],24⟩ .nil) 50 ⟨(.struct [(0,49)]),[.own [false,false,true] []],24⟩ .nil) 51 ⟨(.struct [(0,49)]),[.own [false,false,true] []],24⟩ (.node .nil 53 ⟨(.struct [(0,3),(1,3),(2,3),(3,3),(4,3),(5,3),(6,9),(7,22)]),[.t (.v (.int .i64 0)),.t (.v (.int .i64 0)),.t (.v (.int .i64 0)),.t (.v (.int .i64 0)),.t (.v (.int .i64 0)),.t (.v (.int .i64 0)),.s ⟨#[]⟩,.own [false] []],88⟩ .nil)) 75 ⟨(.struct [(0,3),(1,3),(2,3)]),[.t (.v (.int .i64 0)),.t (.v (.int .i64 0)),.t (.v (.int .i64 0))],24⟩ (.node (.node .nil 76 ⟨(.struct [(0,3),(1,3),(2,3)]),[.t (.v (.int .i64 0)),.t (.v (.int .i64 0)),.t (.v (.int .i64 0))],24⟩ .nil) 100 ⟨(.slice 3),[.own [false] []],24⟩ (.node .nil 101 ⟨(.struct [(0,9),(1,3),(2,100)]),[.s ⟨#[]⟩,.t (.v (.int .i64 0)),.own [false] []],48⟩ .nil))) 102 ⟨(.struct [(0,9),(1,3),(2,100)]),[.s ⟨#[]⟩,.t (.v (.int .i64 0)),.own [false] []],48⟩ (.node (.node (.node (.node .nil 105 ⟨(.struct [(0,3),(1,3),(2,22)]),[.t (.v (.int .i64 0)),.t (.v (.int .i64 0)),.own [false] []],40⟩ .nil) 106 ⟨(.struct [(0,3),(1,3),(2,22)]),[.t (.v (.int .i64 0)),.t (.v (.int .i64 0)),.own [false] []],40⟩ .nil) 109 ⟨(.struct [(0,4),(1,3)]),[.b false,.t (.v (.int .i64 0))],16⟩ (.node .nil 110 ⟨(.struct [(0,4),(1,3)]),[.b false,.t (.v (.int .i64 0))],16⟩ .nil)) 111 ⟨(.struct [(0,3),(1,3),(2,3)]),[.t (.v (.int .i64 0)),.t (.v (.int .i64 0)),.t (.v (.int .i64 0))],24⟩ (.node (.node .nil 112 ⟨(.struct [(0,3),(1,3),(2,3)]),[.t (.v (.int .i64 0)),.t (.v (.int .i64 0)),.t (.v (.int .i64 0))],24⟩ .nil) 120 ⟨(.struct [(0,3),(1,3),(2,3),(3,9)]),[.t (.v (.int .i64 0)),.t (.v (.int .i64 0)),.t (.v (.int .i64 0)),.s ⟨#[]⟩],40⟩ (.node .nil 121 ⟨(.struct [(0,3),(1,3),(2,3),(3,9)]),[.t (.v (.int .i64 0)),.t (.v (.int .i64 0)),.t (.v (.int .i64 0)),.s ⟨#[]⟩],40⟩ .nil)))) 123 ⟨(.struct [(0,3),(1,3),(2,3)]),[.t (.v (.int .i64 0)),.t (.v (.int .i64 0)),.t (.v (.int .i64 0))],24⟩ (.node (.node (.node (.node (.node .nil 125 ⟨(.struct [(0,4),(1,3)]),[.b false,.t (.v (.int .i64 0))],16⟩ .nil) 127 ⟨(.struct [(0,3),(1,3),(2,3)]),[.t (.v (.int .i64 0)),.t (.v (.int .i64 0)),.t (.v (.int .i64 0))],24⟩ .nil) 128 ⟨(.struct [(0,9),(1,3),(2,100)]),[.s ⟨#[]⟩,.t (.v (.int .i64 0)),.own [false] []],48⟩ (.node .nil 131 ⟨(.map 3 4),[.t (.v (.map none))],8⟩ .nil)) 133 ⟨(.ptr 43),[.t (.v (.pointer none))],8⟩ (.node (.node .nil 135 ⟨(.ptr 110),[.t (.v (.pointer none))],8⟩ .nil) 147 ⟨(.slice 5),[.own [false] []],24⟩ (.node .nil 149 ⟨(.map 9 4),[.t (.v (.map none))],8⟩ .nil))) 151 ⟨(.int .u64),[.t (.v (.int .u64 0))],8⟩ (.node (.node (.node .nil 153 ⟨(.struct [(0,17),(1,17),(2,17),(3,9)]),[.t (.v (.pointer none)),.t (.v (.pointer none)),.t (.v (.pointer none)),.s ⟨#[]⟩],40⟩ .nil) 159 ⟨(.int .u32),[.t (.v (.int .u32 0))],4⟩ (.node .nil 160 ⟨(.int .u8),[.t (.v (.int .u8 0))],1⟩ .nil)) 161 ⟨(.int .u8),[.t (.v (.int .u8 0))],1⟩ (.node (.node .nil 163 ⟨(.ptr 5),[.t (.v (.pointer none))],8⟩ .nil) 164 ⟨(.int .i32),[.t (.v (.int .i32 0))],4⟩ (.node .nil 165 ⟨(.int .i32),[.t (.v (.int .i32 0))],4⟩ .nil))))))
set_option maxRecDepth 10000 in
theorem E_ok:EnvOk Tryz.prog E:=by
 unfold E
 repeat (first | exact EnvOk.nil | refine EnvOk.node ?_ ⟨by kernel_rfl,by kernel_rfl,by simp,by simp [zcOk,sc],by simp [Ty.agg],by simp,by simp,by simp⟩ ?_)
def md (f:FuncId):List Md:=(bif Nat.blt f 53 then (bif Nat.blt f 28 then (bif Nat.blt f 15 then (bif Nat.blt f 9 then (bif Nat.blt f 6 then (bif Nat.blt f 4 then [.v,.v,.v] else (bif Nat.blt f 5 then [.v,.v] else [.v,.v])) else (bif Nat.blt f 7 then [.v,.v] else (bif Nat.blt f 8 then [.v,.v,.v] else [.v]))) else (bif Nat.blt f 12 then (bif Nat.blt f 10 then [.v] else (bif Nat.blt f 11 then [.v] else [.v,.v,.v])) else (bif Nat.blt f 13 then [.v,.v] else (bif Nat.blt f 14 then [.v,.v] else [.v,.v])))) else (bif Nat.blt f 21 then (bif Nat.blt f 18 then (bif Nat.blt f 16 then [.v,.v] else (bif Nat.blt f 17 then [.b,.v] else [.b,.v])) else (bif Nat.blt f 19 then [.b,.v] else (bif Nat.blt f 20 then [.b,.v] else [.v,.v]))) else (bif Nat.blt f 24 then (bif Nat.blt f 22 then [.v,.v] else (bif Nat.blt f 23 then [.v,.v] else [.v,.v])) else (bif Nat.blt f 26 then (bif Nat.blt f 25 then [.v,.v] else [.v,.v]) else (bif Nat.blt f 27 then [.v,.v] else [.v,.v]))))) else (bif Nat.blt f 40 then (bif Nat.blt f 34 then (bif Nat.blt f 31 then (bif Nat.blt f 29 then [.v] else (bif Nat.blt f 30 then [.v] else [.mv,.v])) else (bif Nat.blt f 32 then [.mv,.v,.v] else (bif Nat.blt f 33 then [.v] else [.v]))) else (bif Nat.blt f 37 then (bif Nat.blt f 35 then [.v] else (bif Nat.blt f 36 then [.v] else [.v])) else (bif Nat.blt f 38 then [.v] else (bif Nat.blt f 39 then [.v,.v] else [.v])))) else (bif Nat.blt f 46 then (bif Nat.blt f 43 then (bif Nat.blt f 41 then [.p,.v,.v] else (bif Nat.blt f 42 then [.v,.v] else [.v,.v])) else (bif Nat.blt f 44 then [.v,.v] else (bif Nat.blt f 45 then [.v,.v] else [.v,.v]))) else (bif Nat.blt f 49 then (bif Nat.blt f 47 then [.v,.v] else (bif Nat.blt f 48 then [.v,.v] else [.b,.v])) else (bif Nat.blt f 51 then (bif Nat.blt f 50 then [.b,.v] else [.b,.v]) else (bif Nat.blt f 52 then [.b,.v] else [.b,.v])))))) else (bif Nat.blt f 78 then (bif Nat.blt f 65 then (bif Nat.blt f 59 then (bif Nat.blt f 56 then (bif Nat.blt f 54 then [.b,.v] else (bif Nat.blt f 55 then [.b,.v] else [.v,.v])) else (bif Nat.blt f 57 then [.v,.v] else (bif Nat.blt f 58 then [.v,.v] else [.v]))) else (bif Nat.blt f 62 then (bif Nat.blt f 60 then [.v,.v,.v] else (bif Nat.blt f 61 then [.v,.v] else [.v])) else (bif Nat.blt f 63 then [.v] else (bif Nat.blt f 64 then [.v,.v] else [.v])))) else (bif Nat.blt f 71 then (bif Nat.blt f 68 then (bif Nat.blt f 66 then [.v] else (bif Nat.blt f 67 then [.v] else [.v,.v,.v])) else (bif Nat.blt f 69 then [.v] else (bif Nat.blt f 70 then [.v] else [.v]))) else (bif Nat.blt f 74 then (bif Nat.blt f 72 then [.v] else (bif Nat.blt f 73 then [.v] else [.v])) else (bif Nat.blt f 76 then (bif Nat.blt f 75 then [.v,.v,.v] else [.v,.v]) else (bif Nat.blt f 77 then [.v] else [.v,.v]))))) else (bif Nat.blt f 90 then (bif Nat.blt f 84 then (bif Nat.blt f 81 then (bif Nat.blt f 79 then [.v] else (bif Nat.blt f 80 then [.v] else [.p,.v,.v,.r 0])) else (bif Nat.blt f 82 then [.v,.v] else (bif Nat.blt f 83 then [.v,.v] else [.v,.v]))) else (bif Nat.blt f 87 then (bif Nat.blt f 85 then [.v,.v] else (bif Nat.blt f 86 then [.v] else [.b,.v])) else (bif Nat.blt f 88 then [.v,.v] else (bif Nat.blt f 89 then [.v,.v] else [.v,.v])))) else (bif Nat.blt f 96 then (bif Nat.blt f 93 then (bif Nat.blt f 91 then [.v,.v] else (bif Nat.blt f 92 then [.v,.v] else [.v,.v])) else (bif Nat.blt f 94 then [.v] else (bif Nat.blt f 95 then [.v] else [.v]))) else (bif Nat.blt f 99 then (bif Nat.blt f 97 then [.v] else (bif Nat.blt f 98 then [.v] else [.v])) else (bif Nat.blt f 101 then (bif Nat.blt f 100 then [.v] else [.v]) else (bif Nat.blt f 102 then [.v,.v] else [.v])))))))
def sq (t:TypeId):Bool:=Nat.beq t 76
theorem sq_ok:∀ t,sq t = true → SqOk Tryz.prog t:=by
 intro t h
 simp only [sq,Bool.or_eq_true,Nat.beq_eq] at h
 subst h
 all_goals exact ⟨by kernel_rfl,by kernel_rfl,by kernel_rfl,by kernel_rfl⟩
def F (f:FuncId) (xs:List A) (res:V) (outs:List (List V)):Prop:=Enters Tryz.prog f ∧ Tm.Fn Tryz.prog f xs res outs
def C:Cx:=⟨E,F,md,sq⟩
theorem C_ok:CxOk Tryz.prog C:=⟨E_ok,sq_ok,fun _ _ _ _ h=>h⟩
variable {nt id:Nat} {ops:Array Oper} {y:Code} {H:HD} {Q:Exit → HD → Prop}
theorem g (lo hi:Nat) (ans:List Ans) (h:evSH C nt ops ops.toList ans H fun p H=>dropH lo hi H fun H=>p ∧ W Tryz.prog nt y H Q):W Tryz.prog nt (.seq (.region id ops false) y) H Q:=W.sg C_ok lo hi ans h
theorem rg (ans:List Ans) (h:evSH C nt ops ops.toList ans H fun p H=>p ∧ Q .normal H):W Tryz.prog nt (.region id ops false) H Q:=W.rg C_ok ans h
theorem mixed:Tryz.prog.follows .mixedOrders = true:=by kernel_rfl
theorem gd (lo hi:Nat) (ans:List (List Ans)) (h:evEH C nt ops ops.toList ans H fun p r H=>dropH lo hi H fun H=>p ∧ chkE ops.toList r = true ∧ W Tryz.prog nt y H Q):W Tryz.prog nt (.seq (.region id ops true) y) H Q:=W.sgD C_ok mixed lo hi ans h
theorem rgd (ans:List (List Ans)) (h:evEH C nt ops ops.toList ans H fun p r H=>p ∧ chkE ops.toList r = true ∧ Q .normal H):W Tryz.prog nt (.region id ops true) H Q:=W.rgD C_ok mixed ans h
abbrev Q1 (res:V) (outs:List (List V)):V → List (List V) → Prop:=fun r o=>r = res ∧ o = outs
abbrev ty_laws_Log:TypeId:=24
abbrev ty_laws_Boss:TypeId:=29
abbrev ty_laws_Plan:TypeId:=32
abbrev ty_laws_Message:TypeId:=34
abbrev ty_laws_Task:TypeId:=102
abbrev ty_laws_Job:TypeId:=123
abbrev ty_laws_Seat:TypeId:=125
abbrev ty_laws_Owed:TypeId:=127
abbrev n_laws_FnExactBossTake:FuncId:=3
theorem e_laws_FnExactBossTake:Enters Tryz.prog 3:=⟨Tryz.f3,Tryz.func3,by kernel_rfl,by kernel_rfl⟩
theorem i_laws_FnExactBossTake {xs:List A} {res:V} {outs:List (List V)} (hrun:forceH (iniH 115 xs) fun H=>W Tryz.prog 115 (bodyOf Tryz.f3) H (EndsW 115 E [(6,4,false)] xs (Q1 res outs))) (h:(okAs xs && Nat.ble xs.length 115) = true:=by rfl):F 3 xs res outs:=⟨e_laws_FnExactBossTake,Fn.one Tryz.func3 rfl rfl E_ok rfl h hrun⟩
abbrev n_laws_szBoss:FuncId:=4
theorem e_laws_szBoss:Enters Tryz.prog 4:=⟨Tryz.f4,Tryz.func4,by kernel_rfl,by kernel_rfl⟩
theorem i_laws_szBoss {xs:List A} {res:V} {outs:List (List V)} (hrun:forceH (iniH 36 xs) fun H=>W Tryz.prog 36 (bodyOf Tryz.f4) H (EndsW 36 E [(4,3,false)] xs (Q1 res outs))) (h:(okAs xs && Nat.ble xs.length 36) = true:=by rfl):F 4 xs res outs:=⟨e_laws_szBoss,Fn.one Tryz.func4 rfl rfl E_ok rfl h hrun⟩
abbrev n_laws_szPlan:FuncId:=5
theorem e_laws_szPlan:Enters Tryz.prog 5:=⟨Tryz.f5,Tryz.func5,by kernel_rfl,by kernel_rfl⟩
theorem i_laws_szPlan {xs:List A} {res:V} {outs:List (List V)} (hrun:forceH (iniH 12 xs) fun H=>W Tryz.prog 12 (bodyOf Tryz.f5) H (EndsW 12 E [(4,3,false)] xs (Q1 res outs))) (h:(okAs xs && Nat.ble xs.length 12) = true:=by rfl):F 5 xs res outs:=⟨e_laws_szPlan,Fn.one Tryz.func5 rfl rfl E_ok rfl h hrun⟩
abbrev n_laws_szMessage:FuncId:=6
theorem e_laws_szMessage:Enters Tryz.prog 6:=⟨Tryz.f6,Tryz.func6,by kernel_rfl,by kernel_rfl⟩
theorem i_laws_szMessage {xs:List A} {res:V} {outs:List (List V)} (hrun:forceH (iniH 19 xs) fun H=>W Tryz.prog 19 (bodyOf Tryz.f6) H (EndsW 19 E [(4,3,false)] xs (Q1 res outs))) (h:(okAs xs && Nat.ble xs.length 19) = true:=by rfl):F 6 xs res outs:=⟨e_laws_szMessage,Fn.one Tryz.func6 rfl rfl E_ok rfl h hrun⟩
abbrev n_spec_BossTake:FuncId:=7
theorem e_spec_BossTake:Enters Tryz.prog 7:=⟨Tryz.f7,Tryz.func7,by kernel_rfl,by kernel_rfl⟩
theorem i_spec_BossTake {xs:List A} {res:V} {outs:List (List V)} (hrun:forceH (iniH 110 xs) fun H=>W Tryz.prog 110 (bodyOf Tryz.f7) H (EndsW 110 E [(6,46,true)] xs (Q1 res outs))) (h:(okAs xs && Nat.ble xs.length 110) = true:=by rfl):F 7 xs res outs:=⟨e_spec_BossTake,Fn.one Tryz.func7 rfl rfl E_ok rfl h hrun⟩
abbrev n_laws_toBoss:FuncId:=8
theorem e_laws_toBoss:Enters Tryz.prog 8:=⟨Tryz.f8,Tryz.func8,by kernel_rfl,by kernel_rfl⟩
theorem i_laws_toBoss {xs:List A} {res:V} {outs:List (List V)} (hrun:forceH (iniH 43 xs) fun H=>W Tryz.prog 43 (bodyOf Tryz.f8) H (EndsW 43 E [(2,43,true)] xs (Q1 res outs))) (h:(okAs xs && Nat.ble xs.length 43) = true:=by rfl):F 8 xs res outs:=⟨e_laws_toBoss,Fn.one Tryz.func8 rfl rfl E_ok rfl h hrun⟩
abbrev n_laws_toPlan:FuncId:=9
theorem e_laws_toPlan:Enters Tryz.prog 9:=⟨Tryz.f9,Tryz.func9,by kernel_rfl,by kernel_rfl⟩
theorem i_laws_toPlan {xs:List A} {res:V} {outs:List (List V)} (hrun:forceH (iniH 9 xs) fun H=>W Tryz.prog 9 (bodyOf Tryz.f9) H (EndsW 9 E [(2,51,true)] xs (Q1 res outs))) (h:(okAs xs && Nat.ble xs.length 9) = true:=by rfl):F 9 xs res outs:=⟨e_laws_toPlan,Fn.one Tryz.func9 rfl rfl E_ok rfl h hrun⟩
abbrev n_laws_toMessage:FuncId:=10
theorem e_laws_toMessage:Enters Tryz.prog 10:=⟨Tryz.f10,Tryz.func10,by kernel_rfl,by kernel_rfl⟩
theorem i_laws_toMessage {xs:List A} {res:V} {outs:List (List V)} (hrun:forceH (iniH 30 xs) fun H=>W Tryz.prog 30 (bodyOf Tryz.f10) H (EndsW 30 E [(2,53,true)] xs (Q1 res outs))) (h:(okAs xs && Nat.ble xs.length 30) = true:=by rfl):F 10 xs res outs:=⟨e_laws_toMessage,Fn.one Tryz.func10 rfl rfl E_ok rfl h hrun⟩
abbrev n_impl_BossTake:FuncId:=11
theorem e_impl_BossTake:Enters Tryz.prog 11:=⟨Tryz.f11,Tryz.func11,by kernel_rfl,by kernel_rfl⟩
theorem i_impl_BossTake {xs:List A} {res:V} {outs:List (List V)} (hrun:forceH (iniH 19 xs) fun H=>W Tryz.prog 19 (bodyOf Tryz.f11) H (EndsW 19 E [(6,46,true)] xs (Q1 res outs))) (h:(okAs xs && Nat.ble xs.length 19) = true:=by rfl):F 11 xs res outs:=⟨e_impl_BossTake,Fn.one Tryz.func11 rfl rfl E_ok rfl h hrun⟩
abbrev n_laws_eqLed:FuncId:=12
theorem e_laws_eqLed:Enters Tryz.prog 12:=⟨Tryz.f12,Tryz.func12,by kernel_rfl,by kernel_rfl⟩
theorem i_laws_eqLed {xs:List A} {res:V} {outs:List (List V)} (hrun:forceH (iniH 17 xs) fun H=>W Tryz.prog 17 (bodyOf Tryz.f12) H (EndsW 17 E [(4,4,false)] xs (Q1 res outs))) (h:(okAs xs && Nat.ble xs.length 17) = true:=by rfl):F 12 xs res outs:=⟨e_laws_eqLed,Fn.one Tryz.func12 rfl rfl E_ok rfl h hrun⟩
abbrev n_laws_eqBoss:FuncId:=13
theorem e_laws_eqBoss:Enters Tryz.prog 13:=⟨Tryz.f13,Tryz.func13,by kernel_rfl,by kernel_rfl⟩
theorem i_laws_eqBoss {xs:List A} {res:V} {outs:List (List V)} (hrun:forceH (iniH 65 xs) fun H=>W Tryz.prog 65 (bodyOf Tryz.f13) H (EndsW 65 E [(4,4,false)] xs (Q1 res outs))) (h:(okAs xs && Nat.ble xs.length 65) = true:=by rfl):F 13 xs res outs:=⟨e_laws_eqBoss,Fn.one Tryz.func13 rfl rfl E_ok rfl h hrun⟩
abbrev n_laws_eqPlan:FuncId:=14
theorem e_laws_eqPlan:Enters Tryz.prog 14:=⟨Tryz.f14,Tryz.func14,by kernel_rfl,by kernel_rfl⟩
theorem i_laws_eqPlan {xs:List A} {res:V} {outs:List (List V)} (hrun:forceH (iniH 11 xs) fun H=>W Tryz.prog 11 (bodyOf Tryz.f14) H (EndsW 11 E [(4,4,false)] xs (Q1 res outs))) (h:(okAs xs && Nat.ble xs.length 11) = true:=by rfl):F 14 xs res outs:=⟨e_laws_eqPlan,Fn.one Tryz.func14 rfl rfl E_ok rfl h hrun⟩
abbrev n_laws_eqMessage:FuncId:=15
theorem e_laws_eqMessage:Enters Tryz.prog 15:=⟨Tryz.f15,Tryz.func15,by kernel_rfl,by kernel_rfl⟩
theorem i_laws_eqMessage {xs:List A} {res:V} {outs:List (List V)} (hrun:forceH (iniH 46 xs) fun H=>W Tryz.prog 46 (bodyOf Tryz.f15) H (EndsW 46 E [(4,4,false)] xs (Q1 res outs))) (h:(okAs xs && Nat.ble xs.length 46) = true:=by rfl):F 15 xs res outs:=⟨e_laws_eqMessage,Fn.one Tryz.func15 rfl rfl E_ok rfl h hrun⟩
abbrev n_laws_markBoss:FuncId:=16
theorem e_laws_markBoss:Enters Tryz.prog 16:=⟨Tryz.f16,Tryz.func16,by kernel_rfl,by kernel_rfl⟩
theorem i_laws_markBoss {xs:List A} {res:V} {outs:List (List V)} (hrun:forceH (iniH 26 xs) fun H=>W Tryz.prog 26 (bodyOf Tryz.f16) H (EndsW 26 E [(4,3,false)] xs (Q1 res outs))) (h:(okAs xs && Nat.ble xs.length 26) = true:=by rfl):F 16 xs res outs:=⟨e_laws_markBoss,Fn.one Tryz.func16 rfl rfl E_ok rfl h hrun⟩
abbrev n_laws_markPlan:FuncId:=17
theorem e_laws_markPlan:Enters Tryz.prog 17:=⟨Tryz.f17,Tryz.func17,by kernel_rfl,by kernel_rfl⟩
theorem i_laws_markPlan {xs:List A} {res:V} {outs:List (List V)} (hrun:forceH (iniH 10 xs) fun H=>W Tryz.prog 10 (bodyOf Tryz.f17) H (EndsW 10 E [(4,3,false)] xs (Q1 res outs))) (h:(okAs xs && Nat.ble xs.length 10) = true:=by rfl):F 17 xs res outs:=⟨e_laws_markPlan,Fn.one Tryz.func17 rfl rfl E_ok rfl h hrun⟩
abbrev n_laws_markMessage:FuncId:=18
theorem e_laws_markMessage:Enters Tryz.prog 18:=⟨Tryz.f18,Tryz.func18,by kernel_rfl,by kernel_rfl⟩
theorem i_laws_markMessage {xs:List A} {res:V} {outs:List (List V)} (hrun:forceH (iniH 10 xs) fun H=>W Tryz.prog 10 (bodyOf Tryz.f18) H (EndsW 10 E [(4,3,false)] xs (Q1 res outs))) (h:(okAs xs && Nat.ble xs.length 10) = true:=by rfl):F 18 xs res outs:=⟨e_laws_markMessage,Fn.one Tryz.func18 rfl rfl E_ok rfl h hrun⟩
abbrev n_laws_markLed:FuncId:=19
theorem e_laws_markLed:Enters Tryz.prog 19:=⟨Tryz.f19,Tryz.func19,by kernel_rfl,by kernel_rfl⟩
theorem i_laws_markLed {xs:List A} {res:V} {outs:List (List V)} (hrun:forceH (iniH 14 xs) fun H=>W Tryz.prog 14 (bodyOf Tryz.f19) H (EndsW 14 E [(4,3,false)] xs (Q1 res outs))) (h:(okAs xs && Nat.ble xs.length 14) = true:=by rfl):F 19 xs res outs:=⟨e_laws_markLed,Fn.one Tryz.func19 rfl rfl E_ok rfl h hrun⟩
abbrev n_laws_heldLed:FuncId:=20
theorem e_laws_heldLed:Enters Tryz.prog 20:=⟨Tryz.f20,Tryz.func20,by kernel_rfl,by kernel_rfl⟩
theorem i_laws_heldLed {xs:List A} {res:V} {outs:List (List V)} (hrun:forceH (iniH 18 xs) fun H=>W Tryz.prog 18 (bodyOf Tryz.f20) H (EndsW 18 E [(4,3,false)] xs (Q1 res outs))) (h:(okAs xs && Nat.ble xs.length 18) = true:=by rfl):F 20 xs res outs:=⟨e_laws_heldLed,Fn.one Tryz.func20 rfl rfl E_ok rfl h hrun⟩
abbrev n_laws_szLog:FuncId:=21
theorem e_laws_szLog:Enters Tryz.prog 21:=⟨Tryz.f21,Tryz.func21,by kernel_rfl,by kernel_rfl⟩
theorem i_laws_szLog {xs:List A} {res:V} {outs:List (List V)} (hrun:forceH (iniH 18 xs) fun H=>W Tryz.prog 18 (bodyOf Tryz.f21) H (EndsW 18 E [(4,3,false)] xs (Q1 res outs))) (h:(okAs xs && Nat.ble xs.length 18) = true:=by rfl):F 21 xs res outs:=⟨e_laws_szLog,Fn.one Tryz.func21 rfl rfl E_ok rfl h hrun⟩
abbrev n_laws_szStringS:FuncId:=22
theorem e_laws_szStringS:Enters Tryz.prog 22:=⟨Tryz.f22,Tryz.func22,by kernel_rfl,by kernel_rfl⟩
theorem i_laws_szStringS {xs:List A} {res:V} {outs:List (List V)} (hrun:forceH (iniH 28 xs) fun H=>W Tryz.prog 28 (bodyOf Tryz.f22) H (EndsW 28 E [(4,3,false)] xs (Q1 res outs))) (h:(okAs xs && Nat.ble xs.length 28) = true:=by rfl):F 22 xs res outs:=⟨e_laws_szStringS,Fn.one Tryz.func22 rfl rfl E_ok rfl h hrun⟩
abbrev n_laws_szJobS:FuncId:=23
theorem e_laws_szJobS:Enters Tryz.prog 23:=⟨Tryz.f23,Tryz.func23,by kernel_rfl,by kernel_rfl⟩
theorem i_laws_szJobS {xs:List A} {res:V} {outs:List (List V)} (hrun:forceH (iniH 12 xs) fun H=>W Tryz.prog 12 (bodyOf Tryz.f23) H (EndsW 12 E [(4,3,false)] xs (Q1 res outs))) (h:(okAs xs && Nat.ble xs.length 12) = true:=by rfl):F 23 xs res outs:=⟨e_laws_szJobS,Fn.one Tryz.func23 rfl rfl E_ok rfl h hrun⟩
abbrev n_laws_szSeatS:FuncId:=24
theorem e_laws_szSeatS:Enters Tryz.prog 24:=⟨Tryz.f24,Tryz.func24,by kernel_rfl,by kernel_rfl⟩
theorem i_laws_szSeatS {xs:List A} {res:V} {outs:List (List V)} (hrun:forceH (iniH 12 xs) fun H=>W Tryz.prog 12 (bodyOf Tryz.f24) H (EndsW 12 E [(4,3,false)] xs (Q1 res outs))) (h:(okAs xs && Nat.ble xs.length 12) = true:=by rfl):F 24 xs res outs:=⟨e_laws_szSeatS,Fn.one Tryz.func24 rfl rfl E_ok rfl h hrun⟩
abbrev n_laws_szOwedS:FuncId:=25
theorem e_laws_szOwedS:Enters Tryz.prog 25:=⟨Tryz.f25,Tryz.func25,by kernel_rfl,by kernel_rfl⟩
theorem i_laws_szOwedS {xs:List A} {res:V} {outs:List (List V)} (hrun:forceH (iniH 12 xs) fun H=>W Tryz.prog 12 (bodyOf Tryz.f25) H (EndsW 12 E [(4,3,false)] xs (Q1 res outs))) (h:(okAs xs && Nat.ble xs.length 12) = true:=by rfl):F 25 xs res outs:=⟨e_laws_szOwedS,Fn.one Tryz.func25 rfl rfl E_ok rfl h hrun⟩
abbrev n_laws_szTaskS:FuncId:=26
theorem e_laws_szTaskS:Enters Tryz.prog 26:=⟨Tryz.f26,Tryz.func26,by kernel_rfl,by kernel_rfl⟩
theorem i_laws_szTaskS {xs:List A} {res:V} {outs:List (List V)} (hrun:forceH (iniH 27 xs) fun H=>W Tryz.prog 27 (bodyOf Tryz.f26) H (EndsW 27 E [(4,3,false)] xs (Q1 res outs))) (h:(okAs xs && Nat.ble xs.length 27) = true:=by rfl):F 26 xs res outs:=⟨e_laws_szTaskS,Fn.one Tryz.func26 rfl rfl E_ok rfl h hrun⟩
abbrev n_spec_ValidBoss:FuncId:=27
theorem e_spec_ValidBoss:Enters Tryz.prog 27:=⟨Tryz.f27,Tryz.func27,by kernel_rfl,by kernel_rfl⟩
theorem i_spec_ValidBoss {xs:List A} {res:V} {outs:List (List V)} (hrun:forceH (iniH 219 xs) fun H=>W Tryz.prog 219 (bodyOf Tryz.f27) H (EndsW 219 E [(4,4,false)] xs (Q1 res outs))) (h:(okAs xs && Nat.ble xs.length 219) = true:=by rfl):F 27 xs res outs:=⟨e_spec_ValidBoss,Fn.one Tryz.func27 rfl rfl E_ok rfl h hrun⟩
abbrev n_spec_l5Copy:FuncId:=28
theorem e_spec_l5Copy:Enters Tryz.prog 28:=⟨Tryz.f28,Tryz.func28,by kernel_rfl,by kernel_rfl⟩
theorem i_spec_l5Copy {xs:List A} {res:V} {outs:List (List V)} (hrun:forceH (iniH 28 xs) fun H=>W Tryz.prog 28 (bodyOf Tryz.f28) H (EndsW 28 E [(2,43,true)] xs (Q1 res outs))) (h:(okAs xs && Nat.ble xs.length 28) = true:=by rfl):F 28 xs res outs:=⟨e_spec_l5Copy,Fn.one Tryz.func28 rfl rfl E_ok rfl h hrun⟩
abbrev n_spec_l2Ok:FuncId:=29
theorem e_spec_l2Ok:Enters Tryz.prog 29:=⟨Tryz.f29,Tryz.func29,by kernel_rfl,by kernel_rfl⟩
theorem i_spec_l2Ok {xs:List A} {res:V} {outs:List (List V)} (hrun:forceH (iniH 120 xs) fun H=>W Tryz.prog 120 (bodyOf Tryz.f29) H (EndsW 120 E [(2,4,false)] xs (Q1 res outs))) (h:(okAs xs && Nat.ble xs.length 120) = true:=by rfl):F 29 xs res outs:=⟨e_spec_l2Ok,Fn.one Tryz.func29 rfl rfl E_ok rfl h hrun⟩
abbrev n_spec_l5Free:FuncId:=30
theorem e_spec_l5Free:Enters Tryz.prog 30:=⟨Tryz.f30,Tryz.func30,by kernel_rfl,by kernel_rfl⟩
theorem i_spec_l5Free {xs:List A} {res:V} {outs:List (List V)} (hrun:forceH (iniH 28 xs) fun H=>W Tryz.prog 28 (bodyOf Tryz.f30) H (EndsW 28 E [(4,43,true),(5,4,false)] xs (Q1 res outs))) (h:(okAs xs && Nat.ble xs.length 28) = true:=by rfl):F 30 xs res outs:=⟨e_spec_l5Free,Fn.one Tryz.func30 rfl rfl E_ok rfl h hrun⟩
abbrev n_spec_l5Result:FuncId:=31
theorem e_spec_l5Result:Enters Tryz.prog 31:=⟨Tryz.f31,Tryz.func31,by kernel_rfl,by kernel_rfl⟩
theorem i_spec_l5Result {xs:List A} {res:V} {outs:List (List V)} (hrun:forceH (iniH 140 xs) fun H=>W Tryz.prog 140 (bodyOf Tryz.f31) H (EndsW 140 E [(6,43,true)] xs (Q1 res outs))) (h:(okAs xs && Nat.ble xs.length 140) = true:=by rfl):F 31 xs res outs:=⟨e_spec_l5Result,Fn.one Tryz.func31 rfl rfl E_ok rfl h hrun⟩
abbrev n_laws_toLog:FuncId:=32
theorem e_laws_toLog:Enters Tryz.prog 32:=⟨Tryz.f32,Tryz.func32,by kernel_rfl,by kernel_rfl⟩
theorem i_laws_toLog {xs:List A} {res:V} {outs:List (List V)} (hrun:forceH (iniH 13 xs) fun H=>W Tryz.prog 13 (bodyOf Tryz.f32) H (EndsW 13 E [(2,38,true)] xs (Q1 res outs))) (h:(okAs xs && Nat.ble xs.length 13) = true:=by rfl):F 32 xs res outs:=⟨e_laws_toLog,Fn.one Tryz.func32 rfl rfl E_ok rfl h hrun⟩
abbrev n_laws_toStringS:FuncId:=33
theorem e_laws_toStringS:Enters Tryz.prog 33:=⟨Tryz.f33,Tryz.func33,by kernel_rfl,by kernel_rfl⟩
theorem i_laws_toStringS {xs:List A} {res:V} {outs:List (List V)} (hrun:forceH (iniH 22 xs) fun H=>W Tryz.prog 22 (bodyOf Tryz.f33) H (EndsW 22 E [(2,22,false)] xs (Q1 res outs))) (h:(okAs xs && Nat.ble xs.length 22) = true:=by rfl):F 33 xs res outs:=⟨e_laws_toStringS,Fn.one Tryz.func33 rfl rfl E_ok rfl h hrun⟩
abbrev n_laws_toJobS:FuncId:=34
theorem e_laws_toJobS:Enters Tryz.prog 34:=⟨Tryz.f34,Tryz.func34,by kernel_rfl,by kernel_rfl⟩
theorem i_laws_toJobS {xs:List A} {res:V} {outs:List (List V)} (hrun:forceH (iniH 23 xs) fun H=>W Tryz.prog 23 (bodyOf Tryz.f34) H (EndsW 23 E [(2,39,false)] xs (Q1 res outs))) (h:(okAs xs && Nat.ble xs.length 23) = true:=by rfl):F 34 xs res outs:=⟨e_laws_toJobS,Fn.one Tryz.func34 rfl rfl E_ok rfl h hrun⟩
abbrev n_laws_toSeatS:FuncId:=35
theorem e_laws_toSeatS:Enters Tryz.prog 35:=⟨Tryz.f35,Tryz.func35,by kernel_rfl,by kernel_rfl⟩
theorem i_laws_toSeatS {xs:List A} {res:V} {outs:List (List V)} (hrun:forceH (iniH 23 xs) fun H=>W Tryz.prog 23 (bodyOf Tryz.f35) H (EndsW 23 E [(2,40,false)] xs (Q1 res outs))) (h:(okAs xs && Nat.ble xs.length 23) = true:=by rfl):F 35 xs res outs:=⟨e_laws_toSeatS,Fn.one Tryz.func35 rfl rfl E_ok rfl h hrun⟩
abbrev n_laws_toOwedS:FuncId:=36
theorem e_laws_toOwedS:Enters Tryz.prog 36:=⟨Tryz.f36,Tryz.func36,by kernel_rfl,by kernel_rfl⟩
theorem i_laws_toOwedS {xs:List A} {res:V} {outs:List (List V)} (hrun:forceH (iniH 23 xs) fun H=>W Tryz.prog 23 (bodyOf Tryz.f36) H (EndsW 23 E [(2,41,false)] xs (Q1 res outs))) (h:(okAs xs && Nat.ble xs.length 23) = true:=by rfl):F 36 xs res outs:=⟨e_laws_toOwedS,Fn.one Tryz.func36 rfl rfl E_ok rfl h hrun⟩
abbrev n_laws_toTaskS:FuncId:=37
theorem e_laws_toTaskS:Enters Tryz.prog 37:=⟨Tryz.f37,Tryz.func37,by kernel_rfl,by kernel_rfl⟩
theorem i_laws_toTaskS {xs:List A} {res:V} {outs:List (List V)} (hrun:forceH (iniH 23 xs) fun H=>W Tryz.prog 23 (bodyOf Tryz.f37) H (EndsW 23 E [(2,49,false)] xs (Q1 res outs))) (h:(okAs xs && Nat.ble xs.length 23) = true:=by rfl):F 37 xs res outs:=⟨e_laws_toTaskS,Fn.one Tryz.func37 rfl rfl E_ok rfl h hrun⟩
abbrev n_impl_ValidBoss:FuncId:=38
theorem e_impl_ValidBoss:Enters Tryz.prog 38:=⟨Tryz.f38,Tryz.func38,by kernel_rfl,by kernel_rfl⟩
theorem i_impl_ValidBoss {xs:List A} {res:V} {outs:List (List V)} (hrun:forceH (iniH 281 xs) fun H=>W Tryz.prog 281 (bodyOf Tryz.f38) H (EndsW 281 E [(4,4,false)] xs (Q1 res outs))) (h:(okAs xs && Nat.ble xs.length 281) = true:=by rfl):F 38 xs res outs:=⟨e_impl_ValidBoss,Fn.one Tryz.func38 rfl rfl E_ok rfl h hrun⟩
abbrev n_impl_Boss_twin:FuncId:=39
theorem e_impl_Boss_twin:Enters Tryz.prog 39:=⟨Tryz.f39,Tryz.func39,by kernel_rfl,by kernel_rfl⟩
theorem i_impl_Boss_twin {xs:List A} {res:V} {outs:List (List V)} (hrun:forceH (iniH 33 xs) fun H=>W Tryz.prog 33 (bodyOf Tryz.f39) H (EndsW 33 E [(2,43,true)] xs (Q1 res outs))) (h:(okAs xs && Nat.ble xs.length 33) = true:=by rfl):F 39 xs res outs:=⟨e_impl_Boss_twin,Fn.one Tryz.func39 rfl rfl E_ok rfl h hrun⟩
abbrev n_impl_Boss_take:FuncId:=40
theorem e_impl_Boss_take:Enters Tryz.prog 40:=⟨Tryz.f40,Tryz.func40,by kernel_rfl,by kernel_rfl⟩
theorem i_impl_Boss_take {xs:List A} {res:V} {outs:List (List V)} (hrun:forceH (iniH 131 xs) fun H=>W Tryz.prog 131 (bodyOf Tryz.f40) H (EndsW 131 E [] xs (Q1 res outs))) (h:(okAs xs && Nat.ble xs.length 131) = true:=by rfl):F 40 xs res outs:=⟨e_impl_Boss_take,Fn.one Tryz.func40 rfl rfl E_ok rfl h hrun⟩
abbrev n_laws_eqMessageS:FuncId:=41
theorem e_laws_eqMessageS:Enters Tryz.prog 41:=⟨Tryz.f41,Tryz.func41,by kernel_rfl,by kernel_rfl⟩
theorem i_laws_eqMessageS {xs:List A} {res:V} {outs:List (List V)} (hrun:forceH (iniH 27 xs) fun H=>W Tryz.prog 27 (bodyOf Tryz.f41) H (EndsW 27 E [(4,4,false)] xs (Q1 res outs))) (h:(okAs xs && Nat.ble xs.length 27) = true:=by rfl):F 41 xs res outs:=⟨e_laws_eqMessageS,Fn.one Tryz.func41 rfl rfl E_ok rfl h hrun⟩
abbrev n_laws_eqLog:FuncId:=42
theorem e_laws_eqLog:Enters Tryz.prog 42:=⟨Tryz.f42,Tryz.func42,by kernel_rfl,by kernel_rfl⟩
theorem i_laws_eqLog {xs:List A} {res:V} {outs:List (List V)} (hrun:forceH (iniH 17 xs) fun H=>W Tryz.prog 17 (bodyOf Tryz.f42) H (EndsW 17 E [(4,4,false)] xs (Q1 res outs))) (h:(okAs xs && Nat.ble xs.length 17) = true:=by rfl):F 42 xs res outs:=⟨e_laws_eqLog,Fn.one Tryz.func42 rfl rfl E_ok rfl h hrun⟩
abbrev n_laws_eqStringS:FuncId:=43
theorem e_laws_eqStringS:Enters Tryz.prog 43:=⟨Tryz.f43,Tryz.func43,by kernel_rfl,by kernel_rfl⟩
theorem i_laws_eqStringS {xs:List A} {res:V} {outs:List (List V)} (hrun:forceH (iniH 26 xs) fun H=>W Tryz.prog 26 (bodyOf Tryz.f43) H (EndsW 26 E [(4,4,false)] xs (Q1 res outs))) (h:(okAs xs && Nat.ble xs.length 26) = true:=by rfl):F 43 xs res outs:=⟨e_laws_eqStringS,Fn.one Tryz.func43 rfl rfl E_ok rfl h hrun⟩
abbrev n_laws_eqJobS:FuncId:=44
theorem e_laws_eqJobS:Enters Tryz.prog 44:=⟨Tryz.f44,Tryz.func44,by kernel_rfl,by kernel_rfl⟩
theorem i_laws_eqJobS {xs:List A} {res:V} {outs:List (List V)} (hrun:forceH (iniH 27 xs) fun H=>W Tryz.prog 27 (bodyOf Tryz.f44) H (EndsW 27 E [(4,4,false)] xs (Q1 res outs))) (h:(okAs xs && Nat.ble xs.length 27) = true:=by rfl):F 44 xs res outs:=⟨e_laws_eqJobS,Fn.one Tryz.func44 rfl rfl E_ok rfl h hrun⟩
abbrev n_laws_eqSeatS:FuncId:=45
theorem e_laws_eqSeatS:Enters Tryz.prog 45:=⟨Tryz.f45,Tryz.func45,by kernel_rfl,by kernel_rfl⟩
theorem i_laws_eqSeatS {xs:List A} {res:V} {outs:List (List V)} (hrun:forceH (iniH 27 xs) fun H=>W Tryz.prog 27 (bodyOf Tryz.f45) H (EndsW 27 E [(4,4,false)] xs (Q1 res outs))) (h:(okAs xs && Nat.ble xs.length 27) = true:=by rfl):F 45 xs res outs:=⟨e_laws_eqSeatS,Fn.one Tryz.func45 rfl rfl E_ok rfl h hrun⟩
abbrev n_laws_eqOwedS:FuncId:=46
theorem e_laws_eqOwedS:Enters Tryz.prog 46:=⟨Tryz.f46,Tryz.func46,by kernel_rfl,by kernel_rfl⟩
theorem i_laws_eqOwedS {xs:List A} {res:V} {outs:List (List V)} (hrun:forceH (iniH 27 xs) fun H=>W Tryz.prog 27 (bodyOf Tryz.f46) H (EndsW 27 E [(4,4,false)] xs (Q1 res outs))) (h:(okAs xs && Nat.ble xs.length 27) = true:=by rfl):F 46 xs res outs:=⟨e_laws_eqOwedS,Fn.one Tryz.func46 rfl rfl E_ok rfl h hrun⟩
abbrev n_laws_eqTaskS:FuncId:=47
theorem e_laws_eqTaskS:Enters Tryz.prog 47:=⟨Tryz.f47,Tryz.func47,by kernel_rfl,by kernel_rfl⟩
theorem i_laws_eqTaskS {xs:List A} {res:V} {outs:List (List V)} (hrun:forceH (iniH 27 xs) fun H=>W Tryz.prog 27 (bodyOf Tryz.f47) H (EndsW 27 E [(4,4,false)] xs (Q1 res outs))) (h:(okAs xs && Nat.ble xs.length 27) = true:=by rfl):F 47 xs res outs:=⟨e_laws_eqTaskS,Fn.one Tryz.func47 rfl rfl E_ok rfl h hrun⟩
abbrev n_laws_markLog:FuncId:=48
theorem e_laws_markLog:Enters Tryz.prog 48:=⟨Tryz.f48,Tryz.func48,by kernel_rfl,by kernel_rfl⟩
theorem i_laws_markLog {xs:List A} {res:V} {outs:List (List V)} (hrun:forceH (iniH 14 xs) fun H=>W Tryz.prog 14 (bodyOf Tryz.f48) H (EndsW 14 E [(4,3,false)] xs (Q1 res outs))) (h:(okAs xs && Nat.ble xs.length 14) = true:=by rfl):F 48 xs res outs:=⟨e_laws_markLog,Fn.one Tryz.func48 rfl rfl E_ok rfl h hrun⟩
abbrev n_laws_markStringS:FuncId:=49
theorem e_laws_markStringS:Enters Tryz.prog 49:=⟨Tryz.f49,Tryz.func49,by kernel_rfl,by kernel_rfl⟩
theorem i_laws_markStringS {xs:List A} {res:V} {outs:List (List V)} (hrun:forceH (iniH 20 xs) fun H=>W Tryz.prog 20 (bodyOf Tryz.f49) H (EndsW 20 E [(4,3,false)] xs (Q1 res outs))) (h:(okAs xs && Nat.ble xs.length 20) = true:=by rfl):F 49 xs res outs:=⟨e_laws_markStringS,Fn.one Tryz.func49 rfl rfl E_ok rfl h hrun⟩
abbrev n_laws_markJobS:FuncId:=50
theorem e_laws_markJobS:Enters Tryz.prog 50:=⟨Tryz.f50,Tryz.func50,by kernel_rfl,by kernel_rfl⟩
theorem i_laws_markJobS {xs:List A} {res:V} {outs:List (List V)} (hrun:forceH (iniH 34 xs) fun H=>W Tryz.prog 34 (bodyOf Tryz.f50) H (EndsW 34 E [(4,3,false)] xs (Q1 res outs))) (h:(okAs xs && Nat.ble xs.length 34) = true:=by rfl):F 50 xs res outs:=⟨e_laws_markJobS,Fn.one Tryz.func50 rfl rfl E_ok rfl h hrun⟩
abbrev n_laws_markSeatS:FuncId:=51
theorem e_laws_markSeatS:Enters Tryz.prog 51:=⟨Tryz.f51,Tryz.func51,by kernel_rfl,by kernel_rfl⟩
theorem i_laws_markSeatS {xs:List A} {res:V} {outs:List (List V)} (hrun:forceH (iniH 29 xs) fun H=>W Tryz.prog 29 (bodyOf Tryz.f51) H (EndsW 29 E [(4,3,false)] xs (Q1 res outs))) (h:(okAs xs && Nat.ble xs.length 29) = true:=by rfl):F 51 xs res outs:=⟨e_laws_markSeatS,Fn.one Tryz.func51 rfl rfl E_ok rfl h hrun⟩
abbrev n_laws_markOwedS:FuncId:=52
theorem e_laws_markOwedS:Enters Tryz.prog 52:=⟨Tryz.f52,Tryz.func52,by kernel_rfl,by kernel_rfl⟩
theorem i_laws_markOwedS {xs:List A} {res:V} {outs:List (List V)} (hrun:forceH (iniH 34 xs) fun H=>W Tryz.prog 34 (bodyOf Tryz.f52) H (EndsW 34 E [(4,3,false)] xs (Q1 res outs))) (h:(okAs xs && Nat.ble xs.length 34) = true:=by rfl):F 52 xs res outs:=⟨e_laws_markOwedS,Fn.one Tryz.func52 rfl rfl E_ok rfl h hrun⟩
abbrev n_laws_markTaskS:FuncId:=53
theorem e_laws_markTaskS:Enters Tryz.prog 53:=⟨Tryz.f53,Tryz.func53,by kernel_rfl,by kernel_rfl⟩
theorem i_laws_markTaskS {xs:List A} {res:V} {outs:List (List V)} (hrun:forceH (iniH 35 xs) fun H=>W Tryz.prog 35 (bodyOf Tryz.f53) H (EndsW 35 E [(4,3,false)] xs (Q1 res outs))) (h:(okAs xs && Nat.ble xs.length 35) = true:=by rfl):F 53 xs res outs:=⟨e_laws_markTaskS,Fn.one Tryz.func53 rfl rfl E_ok rfl h hrun⟩
abbrev n_laws_markMessageS:FuncId:=54
theorem e_laws_markMessageS:Enters Tryz.prog 54:=⟨Tryz.f54,Tryz.func54,by kernel_rfl,by kernel_rfl⟩
theorem i_laws_markMessageS {xs:List A} {res:V} {outs:List (List V)} (hrun:forceH (iniH 70 xs) fun H=>W Tryz.prog 70 (bodyOf Tryz.f54) H (EndsW 70 E [(4,3,false)] xs (Q1 res outs))) (h:(okAs xs && Nat.ble xs.length 70) = true:=by rfl):F 54 xs res outs:=⟨e_laws_markMessageS,Fn.one Tryz.func54 rfl rfl E_ok rfl h hrun⟩
abbrev n_laws_heldBoss:FuncId:=55
theorem e_laws_heldBoss:Enters Tryz.prog 55:=⟨Tryz.f55,Tryz.func55,by kernel_rfl,by kernel_rfl⟩
theorem i_laws_heldBoss {xs:List A} {res:V} {outs:List (List V)} (hrun:forceH (iniH 36 xs) fun H=>W Tryz.prog 36 (bodyOf Tryz.f55) H (EndsW 36 E [(4,3,false)] xs (Q1 res outs))) (h:(okAs xs && Nat.ble xs.length 36) = true:=by rfl):F 55 xs res outs:=⟨e_laws_heldBoss,Fn.one Tryz.func55 rfl rfl E_ok rfl h hrun⟩
abbrev n_laws_heldMessageS:FuncId:=56
theorem e_laws_heldMessageS:Enters Tryz.prog 56:=⟨Tryz.f56,Tryz.func56,by kernel_rfl,by kernel_rfl⟩
theorem i_laws_heldMessageS {xs:List A} {res:V} {outs:List (List V)} (hrun:forceH (iniH 86 xs) fun H=>W Tryz.prog 86 (bodyOf Tryz.f56) H (EndsW 86 E [(4,3,false)] xs (Q1 res outs))) (h:(okAs xs && Nat.ble xs.length 86) = true:=by rfl):F 56 xs res outs:=⟨e_laws_heldMessageS,Fn.one Tryz.func56 rfl rfl E_ok rfl h hrun⟩
abbrev n_laws_szTask:FuncId:=57
theorem e_laws_szTask:Enters Tryz.prog 57:=⟨Tryz.f57,Tryz.func57,by kernel_rfl,by kernel_rfl⟩
theorem i_laws_szTask {xs:List A} {res:V} {outs:List (List V)} (hrun:forceH (iniH 19 xs) fun H=>W Tryz.prog 19 (bodyOf Tryz.f57) H (EndsW 19 E [(4,3,false)] xs (Q1 res outs))) (h:(okAs xs && Nat.ble xs.length 19) = true:=by rfl):F 57 xs res outs:=⟨e_laws_szTask,Fn.one Tryz.func57 rfl rfl E_ok rfl h hrun⟩
abbrev n_spec_CheckPlan:FuncId:=58
theorem e_spec_CheckPlan:Enters Tryz.prog 58:=⟨Tryz.f58,Tryz.func58,by kernel_rfl,by kernel_rfl⟩
theorem i_spec_CheckPlan {xs:List A} {res:V} {outs:List (List V)} (hrun:forceH (iniH 120 xs) fun H=>W Tryz.prog 120 (bodyOf Tryz.f58) H (EndsW 120 E [(2,3,false)] xs (Q1 res outs))) (h:(okAs xs && Nat.ble xs.length 120) = true:=by rfl):F 58 xs res outs:=⟨e_spec_CheckPlan,Fn.one Tryz.func58 rfl rfl E_ok rfl h hrun⟩
abbrev n_spec_l2In:FuncId:=59
theorem e_spec_l2In:Enters Tryz.prog 59:=⟨Tryz.f59,Tryz.func59,by kernel_rfl,by kernel_rfl⟩
theorem i_spec_l2In {xs:List A} {res:V} {outs:List (List V)} (hrun:forceH (iniH 15 xs) fun H=>W Tryz.prog 15 (bodyOf Tryz.f59) H (EndsW 15 E [(6,4,false)] xs (Q1 res outs))) (h:(okAs xs && Nat.ble xs.length 15) = true:=by rfl):F 59 xs res outs:=⟨e_spec_l2In,Fn.one Tryz.func59 rfl rfl E_ok rfl h hrun⟩
abbrev n_spec_Replay:FuncId:=60
theorem e_spec_Replay:Enters Tryz.prog 60:=⟨Tryz.f60,Tryz.func60,by kernel_rfl,by kernel_rfl⟩
theorem i_spec_Replay {xs:List A} {res:V} {outs:List (List V)} (hrun:forceH (iniH 102 xs) fun H=>W Tryz.prog 102 (bodyOf Tryz.f60) H (EndsW 102 E [(4,106,true)] xs (Q1 res outs))) (h:(okAs xs && Nat.ble xs.length 102) = true:=by rfl):F 60 xs res outs:=⟨e_spec_Replay,Fn.one Tryz.func60 rfl rfl E_ok rfl h hrun⟩
abbrev n_spec_l4All:FuncId:=61
theorem e_spec_l4All:Enters Tryz.prog 61:=⟨Tryz.f61,Tryz.func61,by kernel_rfl,by kernel_rfl⟩
theorem i_spec_l4All {xs:List A} {res:V} {outs:List (List V)} (hrun:forceH (iniH 10 xs) fun H=>W Tryz.prog 10 (bodyOf Tryz.f61) H (EndsW 10 E [(2,22,false)] xs (Q1 res outs))) (h:(okAs xs && Nat.ble xs.length 10) = true:=by rfl):F 61 xs res outs:=⟨e_spec_l4All,Fn.one Tryz.func61 rfl rfl E_ok rfl h hrun⟩
abbrev n_spec_l2LeaseOk:FuncId:=62
theorem e_spec_l2LeaseOk:Enters Tryz.prog 62:=⟨Tryz.f62,Tryz.func62,by kernel_rfl,by kernel_rfl⟩
theorem i_spec_l2LeaseOk {xs:List A} {res:V} {outs:List (List V)} (hrun:forceH (iniH 5 xs) fun H=>W Tryz.prog 5 (bodyOf Tryz.f62) H (EndsW 5 E [(2,4,false)] xs (Q1 res outs))) (h:(okAs xs && Nat.ble xs.length 5) = true:=by rfl):F 62 xs res outs:=⟨e_spec_l2LeaseOk,Fn.one Tryz.func62 rfl rfl E_ok rfl h hrun⟩
abbrev n_spec_l5JobsOk:FuncId:=63
theorem e_spec_l5JobsOk:Enters Tryz.prog 63:=⟨Tryz.f63,Tryz.func63,by kernel_rfl,by kernel_rfl⟩
theorem i_spec_l5JobsOk {xs:List A} {res:V} {outs:List (List V)} (hrun:forceH (iniH 96 xs) fun H=>W Tryz.prog 96 (bodyOf Tryz.f63) H (EndsW 96 E [(4,4,false)] xs (Q1 res outs))) (h:(okAs xs && Nat.ble xs.length 96) = true:=by rfl):F 63 xs res outs:=⟨e_spec_l5JobsOk,Fn.one Tryz.func63 rfl rfl E_ok rfl h hrun⟩
abbrev n_spec_l4Log:FuncId:=64
theorem e_spec_l4Log:Enters Tryz.prog 64:=⟨Tryz.f64,Tryz.func64,by kernel_rfl,by kernel_rfl⟩
theorem i_spec_l4Log {xs:List A} {res:V} {outs:List (List V)} (hrun:forceH (iniH 12 xs) fun H=>W Tryz.prog 12 (bodyOf Tryz.f64) H (EndsW 12 E [(2,38,true)] xs (Q1 res outs))) (h:(okAs xs && Nat.ble xs.length 12) = true:=by rfl):F 64 xs res outs:=⟨e_spec_l4Log,Fn.one Tryz.func64 rfl rfl E_ok rfl h hrun⟩
abbrev n_spec_l2Uses:FuncId:=65
theorem e_spec_l2Uses:Enters Tryz.prog 65:=⟨Tryz.f65,Tryz.func65,by kernel_rfl,by kernel_rfl⟩
theorem i_spec_l2Uses {xs:List A} {res:V} {outs:List (List V)} (hrun:forceH (iniH 16 xs) fun H=>W Tryz.prog 16 (bodyOf Tryz.f65) H (EndsW 16 E [(2,4,false),(3,4,false),(4,4,false),(5,4,false),(6,4,false)] xs (Q1 res outs))) (h:(okAs xs && Nat.ble xs.length 16) = true:=by rfl):F 65 xs res outs:=⟨e_spec_l2Uses,Fn.one Tryz.func65 rfl rfl E_ok rfl h hrun⟩
abbrev n_spec_l2InputsOk:FuncId:=66
theorem e_spec_l2InputsOk:Enters Tryz.prog 66:=⟨Tryz.f66,Tryz.func66,by kernel_rfl,by kernel_rfl⟩
theorem i_spec_l2InputsOk {xs:List A} {res:V} {outs:List (List V)} (hrun:forceH (iniH 19 xs) fun H=>W Tryz.prog 19 (bodyOf Tryz.f66) H (EndsW 19 E [(2,4,false)] xs (Q1 res outs))) (h:(okAs xs && Nat.ble xs.length 19) = true:=by rfl):F 66 xs res outs:=⟨e_spec_l2InputsOk,Fn.one Tryz.func66 rfl rfl E_ok rfl h hrun⟩
abbrev n_spec_l4Deps:FuncId:=67
theorem e_spec_l4Deps:Enters Tryz.prog 67:=⟨Tryz.f67,Tryz.func67,by kernel_rfl,by kernel_rfl⟩
theorem i_spec_l4Deps {xs:List A} {res:V} {outs:List (List V)} (hrun:forceH (iniH 29 xs) fun H=>W Tryz.prog 29 (bodyOf Tryz.f67) H (EndsW 29 E [(6,4,false)] xs (Q1 res outs))) (h:(okAs xs && Nat.ble xs.length 29) = true:=by rfl):F 67 xs res outs:=⟨e_spec_l4Deps,Fn.one Tryz.func67 rfl rfl E_ok rfl h hrun⟩
abbrev n_spec_FormEntry:FuncId:=68
theorem e_spec_FormEntry:Enters Tryz.prog 68:=⟨Tryz.f68,Tryz.func68,by kernel_rfl,by kernel_rfl⟩
theorem i_spec_FormEntry {xs:List A} {res:V} {outs:List (List V)} (hrun:forceH (iniH 25 xs) fun H=>W Tryz.prog 25 (bodyOf Tryz.f68) H (EndsW 25 E [(2,9,false)] xs (Q1 res outs))) (h:(okAs xs && Nat.ble xs.length 25) = true:=by rfl):F 68 xs res outs:=⟨e_spec_FormEntry,Fn.one Tryz.func68 rfl rfl E_ok rfl h hrun⟩
abbrev n_laws_toJob:FuncId:=69
theorem e_laws_toJob:Enters Tryz.prog 69:=⟨Tryz.f69,Tryz.func69,by kernel_rfl,by kernel_rfl⟩
theorem i_laws_toJob {xs:List A} {res:V} {outs:List (List V)} (hrun:forceH (iniH 14 xs) fun H=>W Tryz.prog 14 (bodyOf Tryz.f69) H (EndsW 14 E [(2,76,true)] xs (Q1 res outs))) (h:(okAs xs && Nat.ble xs.length 14) = true:=by rfl):F 69 xs res outs:=⟨e_laws_toJob,Fn.one Tryz.func69 rfl rfl E_ok rfl h hrun⟩
abbrev n_laws_toSeat:FuncId:=70
theorem e_laws_toSeat:Enters Tryz.prog 70:=⟨Tryz.f70,Tryz.func70,by kernel_rfl,by kernel_rfl⟩
theorem i_laws_toSeat {xs:List A} {res:V} {outs:List (List V)} (hrun:forceH (iniH 11 xs) fun H=>W Tryz.prog 11 (bodyOf Tryz.f70) H (EndsW 11 E [(2,110,true)] xs (Q1 res outs))) (h:(okAs xs && Nat.ble xs.length 11) = true:=by rfl):F 70 xs res outs:=⟨e_laws_toSeat,Fn.one Tryz.func70 rfl rfl E_ok rfl h hrun⟩
abbrev n_laws_toOwed:FuncId:=71
theorem e_laws_toOwed:Enters Tryz.prog 71:=⟨Tryz.f71,Tryz.func71,by kernel_rfl,by kernel_rfl⟩
theorem i_laws_toOwed {xs:List A} {res:V} {outs:List (List V)} (hrun:forceH (iniH 14 xs) fun H=>W Tryz.prog 14 (bodyOf Tryz.f71) H (EndsW 14 E [(2,112,true)] xs (Q1 res outs))) (h:(okAs xs && Nat.ble xs.length 14) = true:=by rfl):F 71 xs res outs:=⟨e_laws_toOwed,Fn.one Tryz.func71 rfl rfl E_ok rfl h hrun⟩
abbrev n_laws_toTask:FuncId:=72
theorem e_laws_toTask:Enters Tryz.prog 72:=⟨Tryz.f72,Tryz.func72,by kernel_rfl,by kernel_rfl⟩
theorem i_laws_toTask {xs:List A} {res:V} {outs:List (List V)} (hrun:forceH (iniH 15 xs) fun H=>W Tryz.prog 15 (bodyOf Tryz.f72) H (EndsW 15 E [(2,128,true)] xs (Q1 res outs))) (h:(okAs xs && Nat.ble xs.length 15) = true:=by rfl):F 72 xs res outs:=⟨e_laws_toTask,Fn.one Tryz.func72 rfl rfl E_ok rfl h hrun⟩
abbrev n_impl_CheckPlan:FuncId:=73
theorem e_impl_CheckPlan:Enters Tryz.prog 73:=⟨Tryz.f73,Tryz.func73,by kernel_rfl,by kernel_rfl⟩
theorem i_impl_CheckPlan {xs:List A} {res:V} {outs:List (List V)} (hrun:forceH (iniH 91 xs) fun H=>W Tryz.prog 91 (bodyOf Tryz.f73) H (EndsW 91 E [(2,3,false)] xs (Q1 res outs))) (h:(okAs xs && Nat.ble xs.length 91) = true:=by rfl):F 73 xs res outs:=⟨e_impl_CheckPlan,Fn.one Tryz.func73 rfl rfl E_ok rfl h hrun⟩
abbrev n_impl_within:FuncId:=74
theorem e_impl_within:Enters Tryz.prog 74:=⟨Tryz.f74,Tryz.func74,by kernel_rfl,by kernel_rfl⟩
theorem i_impl_within {xs:List A} {res:V} {outs:List (List V)} (hrun:forceH (iniH 15 xs) fun H=>W Tryz.prog 15 (bodyOf Tryz.f74) H (EndsW 15 E [(6,4,false)] xs (Q1 res outs))) (h:(okAs xs && Nat.ble xs.length 15) = true:=by rfl):F 74 xs res outs:=⟨e_impl_within,Fn.one Tryz.func74 rfl rfl E_ok rfl h hrun⟩
abbrev n_impl_Replay:FuncId:=75
theorem e_impl_Replay:Enters Tryz.prog 75:=⟨Tryz.f75,Tryz.func75,by kernel_rfl,by kernel_rfl⟩
theorem i_impl_Replay {xs:List A} {res:V} {outs:List (List V)} (hrun:forceH (iniH 92 xs) fun H=>W Tryz.prog 92 (bodyOf Tryz.f75) H (EndsW 92 E [(4,106,true)] xs (Q1 res outs))) (h:(okAs xs && Nat.ble xs.length 92) = true:=by rfl):F 75 xs res outs:=⟨e_impl_Replay,Fn.one Tryz.func75 rfl rfl E_ok rfl h hrun⟩
abbrev n_impl_Boss_entries:FuncId:=76
theorem e_impl_Boss_entries:Enters Tryz.prog 76:=⟨Tryz.f76,Tryz.func76,by kernel_rfl,by kernel_rfl⟩
theorem i_impl_Boss_entries {xs:List A} {res:V} {outs:List (List V)} (hrun:forceH (iniH 11 xs) fun H=>W Tryz.prog 11 (bodyOf Tryz.f76) H (EndsW 11 E [(2,22,false)] xs (Q1 res outs))) (h:(okAs xs && Nat.ble xs.length 11) = true:=by rfl):F 76 xs res outs:=⟨e_impl_Boss_entries,Fn.one Tryz.func76 rfl rfl E_ok rfl h hrun⟩
abbrev n_impl_ready:FuncId:=77
theorem e_impl_ready:Enters Tryz.prog 77:=⟨Tryz.f77,Tryz.func77,by kernel_rfl,by kernel_rfl⟩
theorem i_impl_ready {xs:List A} {res:V} {outs:List (List V)} (hrun:forceH (iniH 19 xs) fun H=>W Tryz.prog 19 (bodyOf Tryz.f77) H (EndsW 19 E [(4,4,false)] xs (Q1 res outs))) (h:(okAs xs && Nat.ble xs.length 19) = true:=by rfl):F 77 xs res outs:=⟨e_impl_ready,Fn.one Tryz.func77 rfl rfl E_ok rfl h hrun⟩
abbrev n_impl_clone:FuncId:=78
theorem e_impl_clone:Enters Tryz.prog 78:=⟨Tryz.f78,Tryz.func78,by kernel_rfl,by kernel_rfl⟩
theorem i_impl_clone {xs:List A} {res:V} {outs:List (List V)} (hrun:forceH (iniH 6 xs) fun H=>W Tryz.prog 6 (bodyOf Tryz.f78) H (EndsW 6 E [(2,22,false)] xs (Q1 res outs))) (h:(okAs xs && Nat.ble xs.length 6) = true:=by rfl):F 78 xs res outs:=⟨e_impl_clone,Fn.one Tryz.func78 rfl rfl E_ok rfl h hrun⟩
abbrev n_impl_Message_valid:FuncId:=79
theorem e_impl_Message_valid:Enters Tryz.prog 79:=⟨Tryz.f79,Tryz.func79,by kernel_rfl,by kernel_rfl⟩
theorem i_impl_Message_valid {xs:List A} {res:V} {outs:List (List V)} (hrun:forceH (iniH 108 xs) fun H=>W Tryz.prog 108 (bodyOf Tryz.f79) H (EndsW 108 E [(2,4,false)] xs (Q1 res outs))) (h:(okAs xs && Nat.ble xs.length 108) = true:=by rfl):F 79 xs res outs:=⟨e_impl_Message_valid,Fn.one Tryz.func79 rfl rfl E_ok rfl h hrun⟩
abbrev n_impl_Boss_result:FuncId:=80
theorem e_impl_Boss_result:Enters Tryz.prog 80:=⟨Tryz.f80,Tryz.func80,by kernel_rfl,by kernel_rfl⟩
theorem i_impl_Boss_result {xs:List A} {res:V} {outs:List (List V)} (hrun:forceH (iniH 162 xs) fun H=>W Tryz.prog 162 (bodyOf Tryz.f80) H (EndsW 162 E [] xs (Q1 res outs))) (h:(okAs xs && Nat.ble xs.length 162) = true:=by rfl):F 80 xs res outs:=⟨e_impl_Boss_result,Fn.one Tryz.func80 rfl rfl E_ok rfl h hrun⟩
abbrev n_laws_eqJob:FuncId:=81
theorem e_laws_eqJob:Enters Tryz.prog 81:=⟨Tryz.f81,Tryz.func81,by kernel_rfl,by kernel_rfl⟩
theorem i_laws_eqJob {xs:List A} {res:V} {outs:List (List V)} (hrun:forceH (iniH 20 xs) fun H=>W Tryz.prog 20 (bodyOf Tryz.f81) H (EndsW 20 E [(4,4,false)] xs (Q1 res outs))) (h:(okAs xs && Nat.ble xs.length 20) = true:=by rfl):F 81 xs res outs:=⟨e_laws_eqJob,Fn.one Tryz.func81 rfl rfl E_ok rfl h hrun⟩
abbrev n_laws_eqSeat:FuncId:=82
theorem e_laws_eqSeat:Enters Tryz.prog 82:=⟨Tryz.f82,Tryz.func82,by kernel_rfl,by kernel_rfl⟩
theorem i_laws_eqSeat {xs:List A} {res:V} {outs:List (List V)} (hrun:forceH (iniH 15 xs) fun H=>W Tryz.prog 15 (bodyOf Tryz.f82) H (EndsW 15 E [(4,4,false)] xs (Q1 res outs))) (h:(okAs xs && Nat.ble xs.length 15) = true:=by rfl):F 82 xs res outs:=⟨e_laws_eqSeat,Fn.one Tryz.func82 rfl rfl E_ok rfl h hrun⟩
abbrev n_laws_eqOwed:FuncId:=83
theorem e_laws_eqOwed:Enters Tryz.prog 83:=⟨Tryz.f83,Tryz.func83,by kernel_rfl,by kernel_rfl⟩
theorem i_laws_eqOwed {xs:List A} {res:V} {outs:List (List V)} (hrun:forceH (iniH 20 xs) fun H=>W Tryz.prog 20 (bodyOf Tryz.f83) H (EndsW 20 E [(4,4,false)] xs (Q1 res outs))) (h:(okAs xs && Nat.ble xs.length 20) = true:=by rfl):F 83 xs res outs:=⟨e_laws_eqOwed,Fn.one Tryz.func83 rfl rfl E_ok rfl h hrun⟩
abbrev n_laws_eqTask:FuncId:=84
theorem e_laws_eqTask:Enters Tryz.prog 84:=⟨Tryz.f84,Tryz.func84,by kernel_rfl,by kernel_rfl⟩
theorem i_laws_eqTask {xs:List A} {res:V} {outs:List (List V)} (hrun:forceH (iniH 21 xs) fun H=>W Tryz.prog 21 (bodyOf Tryz.f84) H (EndsW 21 E [(4,4,false)] xs (Q1 res outs))) (h:(okAs xs && Nat.ble xs.length 21) = true:=by rfl):F 84 xs res outs:=⟨e_laws_eqTask,Fn.one Tryz.func84 rfl rfl E_ok rfl h hrun⟩
abbrev n_laws_markText:FuncId:=85
theorem e_laws_markText:Enters Tryz.prog 85:=⟨Tryz.f85,Tryz.func85,by kernel_rfl,by kernel_rfl⟩
theorem i_laws_markText {xs:List A} {res:V} {outs:List (List V)} (hrun:forceH (iniH 20 xs) fun H=>W Tryz.prog 20 (bodyOf Tryz.f85) H (EndsW 20 E [(2,9,false)] xs (Q1 res outs))) (h:(okAs xs && Nat.ble xs.length 20) = true:=by rfl):F 85 xs res outs:=⟨e_laws_markText,Fn.one Tryz.func85 rfl rfl E_ok rfl h hrun⟩
abbrev n_laws_markIntS:FuncId:=86
theorem e_laws_markIntS:Enters Tryz.prog 86:=⟨Tryz.f86,Tryz.func86,by kernel_rfl,by kernel_rfl⟩
theorem i_laws_markIntS {xs:List A} {res:V} {outs:List (List V)} (hrun:forceH (iniH 19 xs) fun H=>W Tryz.prog 19 (bodyOf Tryz.f86) H (EndsW 19 E [(4,3,false)] xs (Q1 res outs))) (h:(okAs xs && Nat.ble xs.length 19) = true:=by rfl):F 86 xs res outs:=⟨e_laws_markIntS,Fn.one Tryz.func86 rfl rfl E_ok rfl h hrun⟩
abbrev n_laws_heldLog:FuncId:=87
theorem e_laws_heldLog:Enters Tryz.prog 87:=⟨Tryz.f87,Tryz.func87,by kernel_rfl,by kernel_rfl⟩
theorem i_laws_heldLog {xs:List A} {res:V} {outs:List (List V)} (hrun:forceH (iniH 18 xs) fun H=>W Tryz.prog 18 (bodyOf Tryz.f87) H (EndsW 18 E [(4,3,false)] xs (Q1 res outs))) (h:(okAs xs && Nat.ble xs.length 18) = true:=by rfl):F 87 xs res outs:=⟨e_laws_heldLog,Fn.one Tryz.func87 rfl rfl E_ok rfl h hrun⟩
abbrev n_laws_heldStringS:FuncId:=88
theorem e_laws_heldStringS:Enters Tryz.prog 88:=⟨Tryz.f88,Tryz.func88,by kernel_rfl,by kernel_rfl⟩
theorem i_laws_heldStringS {xs:List A} {res:V} {outs:List (List V)} (hrun:forceH (iniH 22 xs) fun H=>W Tryz.prog 22 (bodyOf Tryz.f88) H (EndsW 22 E [(4,3,false)] xs (Q1 res outs))) (h:(okAs xs && Nat.ble xs.length 22) = true:=by rfl):F 88 xs res outs:=⟨e_laws_heldStringS,Fn.one Tryz.func88 rfl rfl E_ok rfl h hrun⟩
abbrev n_laws_heldJobS:FuncId:=89
theorem e_laws_heldJobS:Enters Tryz.prog 89:=⟨Tryz.f89,Tryz.func89,by kernel_rfl,by kernel_rfl⟩
theorem i_laws_heldJobS {xs:List A} {res:V} {outs:List (List V)} (hrun:forceH (iniH 40 xs) fun H=>W Tryz.prog 40 (bodyOf Tryz.f89) H (EndsW 40 E [(4,3,false)] xs (Q1 res outs))) (h:(okAs xs && Nat.ble xs.length 40) = true:=by rfl):F 89 xs res outs:=⟨e_laws_heldJobS,Fn.one Tryz.func89 rfl rfl E_ok rfl h hrun⟩
abbrev n_laws_heldSeatS:FuncId:=90
theorem e_laws_heldSeatS:Enters Tryz.prog 90:=⟨Tryz.f90,Tryz.func90,by kernel_rfl,by kernel_rfl⟩
theorem i_laws_heldSeatS {xs:List A} {res:V} {outs:List (List V)} (hrun:forceH (iniH 33 xs) fun H=>W Tryz.prog 33 (bodyOf Tryz.f90) H (EndsW 33 E [(4,3,false)] xs (Q1 res outs))) (h:(okAs xs && Nat.ble xs.length 33) = true:=by rfl):F 90 xs res outs:=⟨e_laws_heldSeatS,Fn.one Tryz.func90 rfl rfl E_ok rfl h hrun⟩
abbrev n_laws_heldOwedS:FuncId:=91
theorem e_laws_heldOwedS:Enters Tryz.prog 91:=⟨Tryz.f91,Tryz.func91,by kernel_rfl,by kernel_rfl⟩
theorem i_laws_heldOwedS {xs:List A} {res:V} {outs:List (List V)} (hrun:forceH (iniH 40 xs) fun H=>W Tryz.prog 40 (bodyOf Tryz.f91) H (EndsW 40 E [(4,3,false)] xs (Q1 res outs))) (h:(okAs xs && Nat.ble xs.length 40) = true:=by rfl):F 91 xs res outs:=⟨e_laws_heldOwedS,Fn.one Tryz.func91 rfl rfl E_ok rfl h hrun⟩
abbrev n_laws_szIntS:FuncId:=92
theorem e_laws_szIntS:Enters Tryz.prog 92:=⟨Tryz.f92,Tryz.func92,by kernel_rfl,by kernel_rfl⟩
theorem i_laws_szIntS {xs:List A} {res:V} {outs:List (List V)} (hrun:forceH (iniH 12 xs) fun H=>W Tryz.prog 12 (bodyOf Tryz.f92) H (EndsW 12 E [(4,3,false)] xs (Q1 res outs))) (h:(okAs xs && Nat.ble xs.length 12) = true:=by rfl):F 92 xs res outs:=⟨e_laws_szIntS,Fn.one Tryz.func92 rfl rfl E_ok rfl h hrun⟩
abbrev n_spec_l1NameOk:FuncId:=93
theorem e_spec_l1NameOk:Enters Tryz.prog 93:=⟨Tryz.f93,Tryz.func93,by kernel_rfl,by kernel_rfl⟩
theorem i_spec_l1NameOk {xs:List A} {res:V} {outs:List (List V)} (hrun:forceH (iniH 28 xs) fun H=>W Tryz.prog 28 (bodyOf Tryz.f93) H (EndsW 28 E [(2,4,false)] xs (Q1 res outs))) (h:(okAs xs && Nat.ble xs.length 28) = true:=by rfl):F 93 xs res outs:=⟨e_spec_l1NameOk,Fn.one Tryz.func93 rfl rfl E_ok rfl h hrun⟩
abbrev n_spec_ReadEntry:FuncId:=94
theorem e_spec_ReadEntry:Enters Tryz.prog 94:=⟨Tryz.f94,Tryz.func94,by kernel_rfl,by kernel_rfl⟩
theorem i_spec_ReadEntry {xs:List A} {res:V} {outs:List (List V)} (hrun:forceH (iniH 32 xs) fun H=>W Tryz.prog 32 (bodyOf Tryz.f94) H (EndsW 32 E [(2,121,true),(3,4,false)] xs (Q1 res outs))) (h:(okAs xs && Nat.ble xs.length 32) = true:=by rfl):F 94 xs res outs:=⟨e_spec_ReadEntry,Fn.one Tryz.func94 rfl rfl E_ok rfl h hrun⟩
abbrev n_spec_l4Ok:FuncId:=95
theorem e_spec_l4Ok:Enters Tryz.prog 95:=⟨Tryz.f95,Tryz.func95,by kernel_rfl,by kernel_rfl⟩
theorem i_spec_l4Ok {xs:List A} {res:V} {outs:List (List V)} (hrun:forceH (iniH 33 xs) fun H=>W Tryz.prog 33 (bodyOf Tryz.f95) H (EndsW 33 E [(2,4,false)] xs (Q1 res outs))) (h:(okAs xs && Nat.ble xs.length 33) = true:=by rfl):F 95 xs res outs:=⟨e_spec_l4Ok,Fn.one Tryz.func95 rfl rfl E_ok rfl h hrun⟩
abbrev n_laws_toIntS:FuncId:=96
theorem e_laws_toIntS:Enters Tryz.prog 96:=⟨Tryz.f96,Tryz.func96,by kernel_rfl,by kernel_rfl⟩
theorem i_laws_toIntS {xs:List A} {res:V} {outs:List (List V)} (hrun:forceH (iniH 22 xs) fun H=>W Tryz.prog 22 (bodyOf Tryz.f96) H (EndsW 22 E [(2,100,false)] xs (Q1 res outs))) (h:(okAs xs && Nat.ble xs.length 22) = true:=by rfl):F 96 xs res outs:=⟨e_laws_toIntS,Fn.one Tryz.func96 rfl rfl E_ok rfl h hrun⟩
abbrev n_impl_plain:FuncId:=97
theorem e_impl_plain:Enters Tryz.prog 97:=⟨Tryz.f97,Tryz.func97,by kernel_rfl,by kernel_rfl⟩
theorem i_impl_plain {xs:List A} {res:V} {outs:List (List V)} (hrun:forceH (iniH 28 xs) fun H=>W Tryz.prog 28 (bodyOf Tryz.f97) H (EndsW 28 E [(2,4,false)] xs (Q1 res outs))) (h:(okAs xs && Nat.ble xs.length 28) = true:=by rfl):F 97 xs res outs:=⟨e_impl_plain,Fn.one Tryz.func97 rfl rfl E_ok rfl h hrun⟩
abbrev n_impl_ReadEntry:FuncId:=98
theorem e_impl_ReadEntry:Enters Tryz.prog 98:=⟨Tryz.f98,Tryz.func98,by kernel_rfl,by kernel_rfl⟩
theorem i_impl_ReadEntry {xs:List A} {res:V} {outs:List (List V)} (hrun:forceH (iniH 36 xs) fun H=>W Tryz.prog 36 (bodyOf Tryz.f98) H (EndsW 36 E [(2,121,true),(3,4,false)] xs (Q1 res outs))) (h:(okAs xs && Nat.ble xs.length 36) = true:=by rfl):F 98 xs res outs:=⟨e_impl_ReadEntry,Fn.one Tryz.func98 rfl rfl E_ok rfl h hrun⟩
abbrev n_impl_eights:FuncId:=99
theorem e_impl_eights:Enters Tryz.prog 99:=⟨Tryz.f99,Tryz.func99,by kernel_rfl,by kernel_rfl⟩
theorem i_impl_eights {xs:List A} {res:V} {outs:List (List V)} (hrun:forceH (iniH 18 xs) fun H=>W Tryz.prog 18 (bodyOf Tryz.f99) H (EndsW 18 E [(2,4,false)] xs (Q1 res outs))) (h:(okAs xs && Nat.ble xs.length 18) = true:=by rfl):F 99 xs res outs:=⟨e_impl_eights,Fn.one Tryz.func99 rfl rfl E_ok rfl h hrun⟩
abbrev n_impl_FormEntry:FuncId:=100
theorem e_impl_FormEntry:Enters Tryz.prog 100:=⟨Tryz.f100,Tryz.func100,by kernel_rfl,by kernel_rfl⟩
theorem i_impl_FormEntry {xs:List A} {res:V} {outs:List (List V)} (hrun:forceH (iniH 24 xs) fun H=>W Tryz.prog 24 (bodyOf Tryz.f100) H (EndsW 24 E [(2,9,false)] xs (Q1 res outs))) (h:(okAs xs && Nat.ble xs.length 24) = true:=by rfl):F 100 xs res outs:=⟨e_impl_FormEntry,Fn.one Tryz.func100 rfl rfl E_ok rfl h hrun⟩
abbrev n_laws_eqIntS:FuncId:=101
theorem e_laws_eqIntS:Enters Tryz.prog 101:=⟨Tryz.f101,Tryz.func101,by kernel_rfl,by kernel_rfl⟩
theorem i_laws_eqIntS {xs:List A} {res:V} {outs:List (List V)} (hrun:forceH (iniH 26 xs) fun H=>W Tryz.prog 26 (bodyOf Tryz.f101) H (EndsW 26 E [(4,4,false)] xs (Q1 res outs))) (h:(okAs xs && Nat.ble xs.length 26) = true:=by rfl):F 101 xs res outs:=⟨e_laws_eqIntS,Fn.one Tryz.func101 rfl rfl E_ok rfl h hrun⟩
abbrev n_impl_Entry_valid:FuncId:=102
theorem e_impl_Entry_valid:Enters Tryz.prog 102:=⟨Tryz.f102,Tryz.func102,by kernel_rfl,by kernel_rfl⟩
theorem i_impl_Entry_valid {xs:List A} {res:V} {outs:List (List V)} (hrun:forceH (iniH 31 xs) fun H=>W Tryz.prog 31 (bodyOf Tryz.f102) H (EndsW 31 E [(2,4,false)] xs (Q1 res outs))) (h:(okAs xs && Nat.ble xs.length 31) = true:=by rfl):F 102 xs res outs:=⟨e_impl_Entry_valid,Fn.one Tryz.func102 rfl rfl E_ok rfl h hrun⟩
end Go.K
end
section
set_option linter.unusedVariables false
set_option linter.unusedSimpArgs false
set_option maxHeartbeats 4000000
set_option maxRecDepth 20000
open Go Go.Tm Go.Proofs
namespace Go.K
structure Entry where
 kind:Int
 epoch:Int
 task:Int
 text:ByteArray
 deriving DecidableEq
abbrev entryV (k ep ta:Int) (tx:ByteArray):V:=.agg [.t (.i k),.t (.i ep),.t (.i ta),.t (.s tx)]
abbrev Entry.v (e:Entry):V:=entryV e.kind e.epoch e.task e.text
theorem c_impl_within (x lo hi:Int):F n_impl_within [.val (.i x),.val (.i lo),.val (.i hi)] (.b (decide (lo ≤ x ∧ x ≤ hi))) [[],[],[]]:=by
 refine i_impl_within ?_
 conv=>whnf
 refine g 0 0 [] ?_
 conv=>whnf
 refine ⟨⟨I,I⟩,?_⟩
 by_cases h1:lo ≤ x
 refine g 7 15 [.b (true),.b (true),.b (true),.b (true)] ?_
 conv=>whnf
 refine ⟨⟨I,I,I,I,⟨dT (by omega),I⟩,⟨dT (by omega),I⟩,⟨dT (by omega),I⟩,dT (by omega),I,I⟩,?_⟩
 refine W.ret ?_
 refine EndsW.rt ?_
 conv=>whnf
 refine ⟨⟨I,I,I⟩,?_,rfl⟩
 exact vbd (by omega)
 refine g 7 15 [.b (false),.b (false),.b (false),.b (false)] ?_
 conv=>whnf
 refine ⟨⟨I,I,I,I,dF (by omega),dF (by omega),dF (by omega),dF (by omega),I,I⟩,?_⟩
 refine W.ret ?_
 refine EndsW.rt ?_
 conv=>whnf
 refine ⟨⟨I,I,I⟩,?_,rfl⟩
 exact vbf (by omega)
theorem c_spec_l2In (x lo hi:Int):F n_spec_l2In [.val (.i x),.val (.i lo),.val (.i hi)] (.b (decide (lo ≤ x ∧ x ≤ hi))) [[],[],[]]:=by
 refine i_spec_l2In ?_
 conv=>whnf
 refine g 0 0 [] ?_
 conv=>whnf
 refine ⟨⟨I,I⟩,?_⟩
 by_cases h1:lo ≤ x
 refine g 7 15 [.b (true),.b (true),.b (true),.b (true)] ?_
 conv=>whnf
 refine ⟨⟨I,I,I,I,⟨dT (by omega),I⟩,⟨dT (by omega),I⟩,⟨dT (by omega),I⟩,dT (by omega),I,I⟩,?_⟩
 refine W.ret ?_
 refine EndsW.rt ?_
 conv=>whnf
 refine ⟨⟨I,I,I⟩,?_,rfl⟩
 exact vbd (by omega)
 refine g 7 15 [.b (false),.b (false),.b (false),.b (false)] ?_
 conv=>whnf
 refine ⟨⟨I,I,I,I,dF (by omega),dF (by omega),dF (by omega),dF (by omega),I,I⟩,?_⟩
 refine W.ret ?_
 refine EndsW.rt ?_
 conv=>whnf
 refine ⟨⟨I,I,I⟩,?_,rfl⟩
 exact vbf (by omega)
end Go.K
end
section
set_option linter.unusedVariables false
set_option linter.unusedSimpArgs false
set_option maxHeartbeats 4000000
set_option maxRecDepth 20000
open Go Go.Tm Go.Proofs
namespace Go.K
def Entry.ok (e:Entry):Prop:=(1 ≤ e.epoch ∧ e.epoch ≤ 300) ∧ (0 ≤ e.task ∧ e.task ≤ 39) ∧ ((e.kind = 1 ∧ e.task = 0 ∧ e.text = ⟨#[]⟩) ∨ (e.kind = 2 ∧ (e.text.size:Int) = 8))
instance (e:Entry):Decidable e.ok:=by unfold Entry.ok; infer_instance
theorem c_impl_Entry_valid (k ep ta:Int) (tx:ByteArray):F n_impl_Entry_valid [.val (entryV k ep ta tx)] (.b (decide (Entry.ok ⟨k,ep,ta,tx⟩))) [[]]:=by
 refine i_impl_Entry_valid ?_
 conv=>whnf
 refine g 0 1 [] ?_
 conv=>whnf
 refine ⟨⟨⟨I,I,I,I,I⟩,I,I⟩,?_⟩
 refine W.sq ?_
 by_cases h1:(1:Int) ≤ ep ∧ ep ≤ (300:Int)
 refine g 5 12 [.call (V.b (decide ((1:Int) ≤ ep ∧ ep ≤ (300:Int)))) ([[],[],[]]),.b (false),.b (false),.b (false),.call (V.b (decide ((0:Int) ≤ ta ∧ ta ≤ (39:Int)))) ([[],[],[]]),.b (false),.b (false)] ?_
 conv=>whnf
 refine ⟨⟨I,I,⟨⟨I,I,I,I⟩,I,⟨⟨I,I⟩,⟨I,I⟩,⟨I,I⟩,I⟩,⟨I,I⟩,Go.K.c_impl_within _ _ _⟩,I,I,⟨notF (by omega),I⟩,⟨notF (by omega),I⟩,⟨notF (by omega),⟨I,I,I,I⟩,I,⟨⟨I,I⟩,⟨I,I⟩,⟨I,I⟩,I⟩,⟨I,I⟩,Go.K.c_impl_within _ _ _⟩,⟨notF (by omega),I⟩,notF (by omega),I⟩,?_⟩
 refine W.cn ?_
 conv=>whnf
 refine ⟨fun h2=>?_,fun h2=>?_⟩
 replace h2:=ndt h2
 refine g 12 13 [] ?_
 conv=>whnf
 refine ⟨⟨I,I⟩,?_⟩
 refine W.ret ?_
 refine EndsW.rt ?_
 conv=>whnf
 refine ⟨⟨I,I,I⟩,?_,rfl⟩
 rotate_left 1
 replace h2:=ndf h2
 refine W.skip ?_
 refine W.sq ?_
 refine g 12 14 [] ?_
 conv=>whnf
 refine ⟨⟨I,I,I⟩,?_⟩
 refine W.blk ?_
 refine g 16 17 [] ?_
 conv=>whnf
 refine ⟨⟨I,I,I⟩,?_⟩
 refine W.cn ?_
 conv=>whnf
 refine ⟨fun h3=>?_,fun h3=>?_⟩
 replace h3:=dt h3
 by_cases h4:ta = (0:Int)
 refine g 14 25 [.b (true),.b (true),.b (true),.b (true)] ?_
 conv=>whnf
 refine ⟨⟨I,I,I,I,⟨dT (by omega),I⟩,⟨dT (by omega),I⟩,⟨dT (by omega),I⟩,dT (by omega),I,I⟩,?_⟩
 refine W.ret ?_
 refine EndsW.rt ?_
 conv=>whnf
 refine ⟨⟨I,I,I⟩,?_,rfl⟩
 rotate_left 1
 refine g 14 25 [.b (false),.b (false),.b (false),.b (false)] ?_
 conv=>whnf
 refine ⟨⟨I,I,I,I,dF (by omega),dF (by omega),dF (by omega),dF (by omega),I,I⟩,?_⟩
 refine W.ret ?_
 refine EndsW.rt ?_
 conv=>whnf
 refine ⟨⟨I,I,I⟩,?_,rfl⟩
 rotate_left 1
 replace h3:=df h3
 refine g 14 16 [] ?_
 conv=>whnf
 refine ⟨⟨I,I,I⟩,?_⟩
 refine W.cn ?_
 conv=>whnf
 refine ⟨fun h4=>?_,fun h4=>?_⟩
 replace h4:=dt h4
 refine g 25 31 [] ?_
 conv=>whnf
 refine ⟨⟨I,I,I,I,I,I⟩,?_⟩
 refine W.ret ?_
 refine EndsW.rt ?_
 conv=>whnf
 refine ⟨⟨I,I,I⟩,?_,rfl⟩
 rotate_left 1
 replace h4:=df h4
 refine W.skip ?_
 refine g 25 27 [] ?_
 conv=>whnf
 refine ⟨⟨I,I⟩,?_⟩
 refine W.ret ?_
 refine EndsW.rt ?_
 conv=>whnf
 refine ⟨⟨I,I,I⟩,?_,rfl⟩
 rotate_left 1
 refine g 5 12 [.call (V.b (decide ((1:Int) ≤ ep ∧ ep ≤ (300:Int)))) ([[],[],[]]),.b (true),.b (true),.b (true),.b (true),.b (true)] ?_
 conv=>whnf
 refine ⟨⟨I,I,⟨⟨I,I,I,I⟩,I,⟨⟨I,I⟩,⟨I,I⟩,⟨I,I⟩,I⟩,⟨I,I⟩,Go.K.c_impl_within _ _ _⟩,I,I,notT (by omega),notT (by omega),notT (by omega),notT (by omega),notT (by omega),I⟩,?_⟩
 refine W.cn ?_
 conv=>whnf
 refine ⟨fun _=>?_,noF (rfl)⟩
 refine g 12 13 [] ?_
 conv=>whnf
 refine ⟨⟨I,I⟩,?_⟩
 refine W.ret ?_
 refine EndsW.rt ?_
 conv=>whnf
 refine ⟨⟨I,I,I⟩,?_,rfl⟩
 rotate_left 1
 all_goals (first | exact vbt (by unfold Entry.ok; simp_all; done) | exact vbf (by unfold Entry.ok; simp_all; omega) | exact vbf (by unfold Entry.ok; simp_all) | exact vbd (by unfold Entry.ok; simp_all; done) | exact vbd (by unfold Entry.ok; simp_all; omega))
theorem c_spec_l4Ok (k ep ta:Int) (tx:ByteArray):F n_spec_l4Ok [.val (entryV k ep ta tx)] (.b (decide (Entry.ok ⟨k,ep,ta,tx⟩))) [[]]:=by
 refine i_spec_l4Ok ?_
 conv=>whnf
 refine g 0 1 [] ?_
 conv=>whnf
 refine ⟨⟨⟨I,I,I,I,I⟩,I,I⟩,?_⟩
 refine W.sq ?_
 by_cases h1:(1:Int) ≤ ep ∧ ep ≤ (300:Int)
 refine g 5 12 [.call (V.b (decide ((1:Int) ≤ ep ∧ ep ≤ (300:Int)))) ([[],[],[]]),.b (false),.b (false),.b (false),.call (V.b (decide ((0:Int) ≤ ta ∧ ta ≤ (39:Int)))) ([[],[],[]]),.b (false),.b (false)] ?_
 conv=>whnf
 refine ⟨⟨I,I,⟨⟨I,I,I,I⟩,I,⟨⟨I,I⟩,⟨I,I⟩,⟨I,I⟩,I⟩,⟨I,I⟩,Go.K.c_spec_l2In _ _ _⟩,I,I,⟨notF (by omega),I⟩,⟨notF (by omega),I⟩,⟨notF (by omega),⟨I,I,I,I⟩,I,⟨⟨I,I⟩,⟨I,I⟩,⟨I,I⟩,I⟩,⟨I,I⟩,Go.K.c_spec_l2In _ _ _⟩,⟨notF (by omega),I⟩,notF (by omega),I⟩,?_⟩
 refine W.cn ?_
 conv=>whnf
 refine ⟨fun h2=>?_,fun h2=>?_⟩
 replace h2:=ndt h2
 refine g 12 13 [] ?_
 conv=>whnf
 refine ⟨⟨I,I⟩,?_⟩
 refine W.ret ?_
 refine EndsW.rt ?_
 conv=>whnf
 refine ⟨⟨I,I,I⟩,?_,rfl⟩
 rotate_left 1
 replace h2:=ndf h2
 refine W.skip ?_
 refine W.sq ?_
 refine g 12 15 [] ?_
 conv=>whnf
 refine ⟨⟨I,I,I,I⟩,?_⟩
 refine W.cn ?_
 conv=>whnf
 refine ⟨fun h3=>?_,fun h3=>?_⟩
 replace h3:=dt h3
 by_cases h4:ta = (0:Int)
 refine g 15 24 [.b (true),.b (true),.b (true),.b (true)] ?_
 conv=>whnf
 refine ⟨⟨I,I,I,I,⟨dT (by omega),I⟩,⟨dT (by omega),I⟩,⟨dT (by omega),I⟩,dT (by omega),I,I⟩,?_⟩
 refine W.ret ?_
 refine EndsW.rt ?_
 conv=>whnf
 refine ⟨⟨I,I,I⟩,?_,rfl⟩
 rotate_left 1
 refine g 15 24 [.b (false),.b (false),.b (false),.b (false)] ?_
 conv=>whnf
 refine ⟨⟨I,I,I,I,dF (by omega),dF (by omega),dF (by omega),dF (by omega),I,I⟩,?_⟩
 refine W.ret ?_
 refine EndsW.rt ?_
 conv=>whnf
 refine ⟨⟨I,I,I⟩,?_,rfl⟩
 rotate_left 1
 replace h3:=df h3
 refine W.skip ?_
 by_cases h4:k = (2:Int)
 refine g 15 33 [.b (true),.b (true),.b (true),.b (true),.b (true)] ?_
 conv=>whnf
 refine ⟨⟨I,I,I,I,⟨dT (by omega),I⟩,⟨dT (by omega),I⟩,⟨dT (by omega),I⟩,⟨dT (by omega),I⟩,dT (by omega),I,I⟩,?_⟩
 refine W.ret ?_
 refine EndsW.rt ?_
 conv=>whnf
 refine ⟨⟨I,I,I⟩,?_,rfl⟩
 rotate_left 1
 refine g 15 33 [.b (false),.b (false),.b (false),.b (false),.b (false)] ?_
 conv=>whnf
 refine ⟨⟨I,I,I,I,dF (by omega),dF (by omega),dF (by omega),dF (by omega),dF (by omega),I,I⟩,?_⟩
 refine W.ret ?_
 refine EndsW.rt ?_
 conv=>whnf
 refine ⟨⟨I,I,I⟩,?_,rfl⟩
 rotate_left 1
 refine g 5 12 [.call (V.b (decide ((1:Int) ≤ ep ∧ ep ≤ (300:Int)))) ([[],[],[]]),.b (true),.b (true),.b (true),.b (true),.b (true)] ?_
 conv=>whnf
 refine ⟨⟨I,I,⟨⟨I,I,I,I⟩,I,⟨⟨I,I⟩,⟨I,I⟩,⟨I,I⟩,I⟩,⟨I,I⟩,Go.K.c_spec_l2In _ _ _⟩,I,I,notT (by omega),notT (by omega),notT (by omega),notT (by omega),notT (by omega),I⟩,?_⟩
 refine W.cn ?_
 conv=>whnf
 refine ⟨fun _=>?_,noF (rfl)⟩
 refine g 12 13 [] ?_
 conv=>whnf
 refine ⟨⟨I,I⟩,?_⟩
 refine W.ret ?_
 refine EndsW.rt ?_
 conv=>whnf
 refine ⟨⟨I,I,I⟩,?_,rfl⟩
 rotate_left 1
 all_goals (first | exact vbt (by unfold Entry.ok; simp_all; done) | exact vbf (by unfold Entry.ok; simp_all; omega) | exact vbf (by unfold Entry.ok; simp_all) | exact vbd (by unfold Entry.ok; simp_all; done) | exact vbd (by unfold Entry.ok; simp_all; omega))
abbrev emp:ByteArray:=⟨#[]⟩
def bl (l:List Int):ByteArray:=⟨(l.map fun n=>UInt8.ofNat n.toNat).toArray⟩
/-- What the program writes. -/
def formI (e:Entry):ByteArray:=if e.ok then bl [IntKind.u8.wrap e.kind,IntKind.u8.wrap (e.epoch.fdiv 256),IntKind.u8.wrap e.epoch,IntKind.u8.wrap e.task] ++ e.text else emp
theorem c_impl_FormEntry (k ep ta:Int) (tx:ByteArray) (ht:tx.size ≤ 281474976710656):F n_impl_FormEntry [.val (entryV k ep ta tx)] (.s (formI ⟨k,ep,ta,tx⟩)) [[]]:=by
 refine i_impl_FormEntry ?_
 conv=>whnf
 refine g 0 0 [] ?_
 conv=>whnf
 refine ⟨⟨⟨I,I,I,I,I⟩,I,I⟩,?_⟩
 refine W.sq ?_
 refine g 4 5 [.call (V.b (decide (Entry.ok { kind:=k,epoch:=ep,task:=ta,text:=tx:Entry }))) ([[]])] ?_
 conv=>whnf
 refine ⟨⟨I,⟨⟨I,I⟩,I,⟨⟨I,I,I,I,I⟩,I⟩,⟨I,I⟩,Go.K.c_impl_Entry_valid _ _ _ _⟩,I,I⟩,?_⟩
 refine W.cn ?_
 conv=>whnf
 refine ⟨fun h1=>?_,fun h1=>?_⟩
 replace h1:=ndt h1
 refine g 5 6 [] ?_
 conv=>whnf
 refine ⟨⟨I,I⟩,?_⟩
 refine W.ret ?_
 refine EndsW.rt ?_
 conv=>whnf
 refine ⟨⟨I,I,I⟩,?_,rfl⟩
 rotate_left 1
 replace h1:=ndf h1
 refine W.skip ?_
 refine g 10 24 [.i (IntKind.wrap IntKind.u8 k),.i (Int.fdiv ep ((2:Int) ^ min (Int.toNat (8:Int)) (IntKind.bits IntKind.i64))),.i (IntKind.wrap IntKind.u8 (Int.fdiv ep ((2:Int) ^ min (Int.toNat (8:Int)) (IntKind.bits IntKind.i64)))),.i (IntKind.wrap IntKind.u8 ep),.i (IntKind.wrap IntKind.u8 ta),.s ({ data:=List.toArray (bytesOf [[T.v (Value.int IntKind.u8 (IntKind.wrap IntKind.u8 k))],[T.v (Value.int IntKind.u8 (IntKind.wrap IntKind.u8 (Int.fdiv ep ((2:Int) ^ min (Int.toNat (8:Int)) (IntKind.bits IntKind.i64)))))],[T.v (Value.int IntKind.u8 (IntKind.wrap IntKind.u8 ep))],[T.v (Value.int IntKind.u8 (IntKind.wrap IntKind.u8 ta))]]):ByteArray }),.s ({ data:=List.toArray (bytesOf [[T.v (Value.int IntKind.u8 (IntKind.wrap IntKind.u8 k))],[T.v (Value.int IntKind.u8 (IntKind.wrap IntKind.u8 (Int.fdiv ep ((2:Int) ^ min (Int.toNat (8:Int)) (IntKind.bits IntKind.i64)))))],[T.v (Value.int IntKind.u8 (IntKind.wrap IntKind.u8 ep))],[T.v (Value.int IntKind.u8 (IntKind.wrap IntKind.u8 ta))]]):ByteArray } ++ tx)] ?_
 conv=>whnf
 refine ⟨⟨I,I,rfl,I,I,⟨(by omega),rfl⟩,rfl,I,I,rfl,I,I,rfl,⟨⟨I,I⟩,⟨I,I⟩,⟨I,I⟩,⟨I,I⟩,I⟩,⟨I,(by repeat (first | exact allU8_nil | refine allU8_cons ?_)),rfl⟩,I,I,⟨rfl,(by simp only [bsz,ByteArray.size_append,lens]; omega)⟩,I,I⟩,?_⟩
 refine W.ret ?_
 refine EndsW.rt ?_
 conv=>whnf
 refine ⟨⟨I,I,I⟩,?_,rfl⟩
 rotate_left 1
 ·refine vs ?_
  simp only [formI,h1,if_false]
 ·refine vs ?_
  simp only [formI,h1,if_true]; rfl
/-- What the reference writes. -/
def formS (e:Entry):ByteArray:=if e.ok then bl [IntKind.u8.wrap e.kind,IntKind.u8.wrap (IntKind.i64.wrap (e.epoch.tdiv 256)),IntKind.u8.wrap (e.epoch.tmod 256),IntKind.u8.wrap e.task] ++ e.text else emp
theorem c_spec_FormEntry (k ep ta:Int) (tx:ByteArray) (ht:tx.size ≤ 281474976710656):F n_spec_FormEntry [.val (entryV k ep ta tx)] (.s (formS ⟨k,ep,ta,tx⟩)) [[]]:=by
 refine i_spec_FormEntry ?_
 conv=>whnf
 refine g 0 0 [] ?_
 conv=>whnf
 refine ⟨⟨⟨I,I,I,I,I⟩,I,I⟩,?_⟩
 refine W.sq ?_
 refine g 4 5 [.call (V.b (decide (Entry.ok { kind:=k,epoch:=ep,task:=ta,text:=tx:Entry }))) ([[]])] ?_
 conv=>whnf
 refine ⟨⟨I,⟨⟨I,I⟩,I,⟨⟨I,I,I,I,I⟩,I⟩,⟨I,I⟩,Go.K.c_spec_l4Ok _ _ _ _⟩,I,I⟩,?_⟩
 refine W.cn ?_
 conv=>whnf
 refine ⟨fun h1=>?_,fun h1=>?_⟩
 replace h1:=ndt h1
 refine g 5 6 [] ?_
 conv=>whnf
 refine ⟨⟨I,I⟩,?_⟩
 refine W.ret ?_
 refine EndsW.rt ?_
 conv=>whnf
 refine ⟨⟨I,I,I⟩,?_,rfl⟩
 rotate_left 1
 replace h1:=ndf h1
 refine W.skip ?_
 refine g 10 25 [.i (IntKind.wrap IntKind.u8 k),.i (IntKind.wrap IntKind.i64 (Int.tdiv ep (256:Int))),.i (IntKind.wrap IntKind.u8 (IntKind.wrap IntKind.i64 (Int.tdiv ep (256:Int)))),.i (Int.tmod ep (256:Int)),.i (IntKind.wrap IntKind.u8 (Int.tmod ep (256:Int))),.i (IntKind.wrap IntKind.u8 ta),.s ({ data:=List.toArray (bytesOf [[T.v (Value.int IntKind.u8 (IntKind.wrap IntKind.u8 k))],[T.v (Value.int IntKind.u8 (IntKind.wrap IntKind.u8 (IntKind.wrap IntKind.i64 (Int.tdiv ep (256:Int)))))],[T.v (Value.int IntKind.u8 (IntKind.wrap IntKind.u8 (Int.tmod ep (256:Int))))],[T.v (Value.int IntKind.u8 (IntKind.wrap IntKind.u8 ta))]]):ByteArray }),.s ({ data:=List.toArray (bytesOf [[T.v (Value.int IntKind.u8 (IntKind.wrap IntKind.u8 k))],[T.v (Value.int IntKind.u8 (IntKind.wrap IntKind.u8 (IntKind.wrap IntKind.i64 (Int.tdiv ep (256:Int)))))],[T.v (Value.int IntKind.u8 (IntKind.wrap IntKind.u8 (Int.tmod ep (256:Int))))],[T.v (Value.int IntKind.u8 (IntKind.wrap IntKind.u8 ta))]]):ByteArray } ++ tx)] ?_
 conv=>whnf
 refine ⟨⟨I,I,rfl,I,I,⟨(by omega),rfl⟩,rfl,I,I,⟨(by omega),rfl⟩,rfl,I,I,rfl,⟨⟨I,I⟩,⟨I,I⟩,⟨I,I⟩,⟨I,I⟩,I⟩,⟨I,(by repeat (first | exact allU8_nil | refine allU8_cons ?_)),rfl⟩,I,I,⟨rfl,(by simp only [bsz,ByteArray.size_append,lens]; omega)⟩,I,I⟩,?_⟩
 refine W.ret ?_
 refine EndsW.rt ?_
 conv=>whnf
 refine ⟨⟨I,I,I⟩,?_,rfl⟩
 rotate_left 1
 ·refine vs ?_
  simp only [formS,h1,if_false]
 ·refine vs ?_
  simp only [formS,h1,if_true]; rfl
def byt (s:ByteArray) (i:Nat):Int:=((s[i]?).map (fun b=>(b.toNat:Int))).getD 0
def or64 (x y:Int):Int:=IntKind.i64.wrap ↑(BitVec.ofInt IntKind.i64.bits x ||| BitVec.ofInt IntKind.i64.bits y).toNat
def rdI (s:ByteArray):Entry:=⟨byt s 0,or64 (IntKind.i64.wrap (byt s 1 * 256)) (byt s 2),byt s 3,s.extract 4 s.size⟩
def rdS (s:ByteArray):Entry:=⟨byt s 0,byt s 1 * 256 + byt s 2,byt s 3,s.extract 4 s.size⟩
abbrev noE:Entry:=⟨0,0,0,emp⟩
abbrev tupE (o:Option Entry):V:=match o with | some e=>.tup [e.v,.b true] | none=>.tup [noE.v,.b false]
def readI (s:ByteArray):Option Entry:=if (s.size:Int) < 4 ∨ 12 < (s.size:Int) then none else if (rdI s).ok then some (rdI s) else none
def readS (s:ByteArray):Option Entry:=if (s.size:Int) < 4 then none else if formS (rdS s) = s then some (rdS s) else none
theorem byt_at {s:ByteArray} {i:Nat} {c:UInt8} (h:s[i]? = some c):byt s i = (c.toNat:Int):=by simp [byt,h]
theorem c_impl_ReadEntry (s:ByteArray) (ht:s.size ≤ 281474976710656):F n_impl_ReadEntry [.val (.s s)] (tupE (readI s)) [[]]:=by
 refine i_impl_ReadEntry ?_
 conv=>whnf
 refine g 0 0 [] ?_
 conv=>whnf
 refine ⟨⟨I,I,I⟩,?_⟩
 refine W.sq ?_
 by_cases h1:(↑(ByteArray.size s):Int) < (4:Int)
 refine g 5 12 [.b (true),.b (true),.b (true),.b (true)] ?_
 conv=>whnf
 refine ⟨⟨I,I,I,I,dT (by omega),dT (by omega),dT (by omega),dT (by omega),I⟩,?_⟩
 refine W.cn ?_
 conv=>whnf
 refine ⟨fun _=>?_,noF (rfl)⟩
 refine g 12 14 [] ?_
 conv=>whnf
 refine ⟨⟨I,⟨I,I,I,I,I⟩,I,I⟩,?_⟩
 refine W.ret ?_
 refine EndsW.rt ?_
 conv=>whnf
 refine ⟨⟨I,⟨I,I,I,I,I⟩,I,⟨I,I⟩,I⟩,?_,rfl⟩
 rotate_left 1
 refine g 5 12 [.b (false),.b (false),.b (false),.b (false)] ?_
 conv=>whnf
 refine ⟨⟨I,I,I,I,⟨dF (by omega),I⟩,⟨dF (by omega),I⟩,⟨dF (by omega),I⟩,dF (by omega),I⟩,?_⟩
 refine W.cn ?_
 conv=>whnf
 refine ⟨fun h2=>?_,fun h2=>?_⟩
 replace h2:=dt h2
 refine g 12 14 [] ?_
 conv=>whnf
 refine ⟨⟨I,⟨I,I,I,I,I⟩,I,I⟩,?_⟩
 refine W.ret ?_
 refine EndsW.rt ?_
 conv=>whnf
 refine ⟨⟨I,⟨I,I,I,I,I⟩,I,⟨I,I⟩,I⟩,?_,rfl⟩
 rotate_left 1
 replace h2:=df h2
 refine W.skip ?_
 obtain ⟨y1,hy1,hb1⟩:=byte_at (s:=s) (n:=(0:Nat)) (by omega)
 obtain ⟨y2,hy2,hb2⟩:=byte_at (s:=s) (n:=(1:Nat)) (by omega)
 obtain ⟨y3,hy3,hb3⟩:=byte_at (s:=s) (n:=(2:Nat)) (by omega)
 obtain ⟨y4,hy4,hb4⟩:=byte_at (s:=s) (n:=(3:Nat)) (by omega)
 refine gd 12 27 [[],[.i ((↑(UInt8.toNat y1):Int))],[.i ((↑(UInt8.toNat y1):Int))],[],[.i ((↑(UInt8.toNat y2):Int))],[.i ((↑(UInt8.toNat y2):Int))],[.i (IntKind.wrap IntKind.i64 ((↑(UInt8.toNat y2):Int) * (2:Int) ^ min (Int.toNat (8:Int)) (IntKind.bits IntKind.i64)))],[],[.i ((↑(UInt8.toNat y3):Int))],[.i ((↑(UInt8.toNat y3):Int))],[.i (IntKind.wrap IntKind.i64 (↑(BitVec.toNat (BitVec.ofInt (IntKind.bits IntKind.i64) (IntKind.wrap IntKind.i64 ((↑(UInt8.toNat y2):Int) * (2:Int) ^ min (Int.toNat (8:Int)) (IntKind.bits IntKind.i64))) ||| BitVec.ofInt (IntKind.bits IntKind.i64) (↑(UInt8.toNat y3):Int))):Int))],[],[.i ((↑(UInt8.toNat y4):Int))],[.i ((↑(UInt8.toNat y4):Int))],[],[.n ((4:Nat)),.s (ByteArray.extract s (4:Nat) (ByteArray.size s))],[],[],[]] ?_
 conv=>whnf
 refine ⟨⟨I,⟨(by omega),ixb (by assumption)⟩,w8 _,I,⟨(by omega),ixb (by assumption)⟩,w8 _,⟨(by omega),rfl⟩,I,⟨(by omega),ixb (by assumption)⟩,w8 _,rfl,I,⟨(by omega),ixb (by assumption)⟩,w8 _,I,⟨I,rfl,(by omega),(by omega),rfl⟩,I,I,⟨I,I,I,I,I⟩,I⟩,by kernel_rfl,?_⟩
 refine W.sq ?_
 refine g 28 33 [.call (V.b (decide (Entry.ok { kind:=(↑(UInt8.toNat y1):Int),epoch:=IntKind.wrap IntKind.i64 (↑(BitVec.toNat (BitVec.ofInt (IntKind.bits IntKind.i64) (IntKind.wrap IntKind.i64 ((↑(UInt8.toNat y2):Int) * (2:Int) ^ min (Int.toNat (8:Int)) (IntKind.bits IntKind.i64))) ||| BitVec.ofInt (IntKind.bits IntKind.i64) (↑(UInt8.toNat y3):Int))):Int),task:=(↑(UInt8.toNat y4):Int),text:=ByteArray.extract s (4:Nat) (ByteArray.size s):Entry }))) ([[]])] ?_
 conv=>whnf
 refine ⟨⟨I,⟨⟨I,I⟩,I,⟨⟨I,I,I,I,I⟩,I⟩,⟨I,I⟩,Go.K.c_impl_Entry_valid _ _ _ _⟩,I,I⟩,?_⟩
 refine W.cn ?_
 conv=>whnf
 refine ⟨fun h3=>?_,fun h3=>?_⟩
 replace h3:=ndt h3
 refine g 33 35 [] ?_
 conv=>whnf
 refine ⟨⟨I,⟨I,I,I,I,I⟩,I,I⟩,?_⟩
 refine W.ret ?_
 refine EndsW.rt ?_
 conv=>whnf
 refine ⟨⟨I,⟨I,I,I,I,I⟩,I,⟨I,I⟩,I⟩,?_,rfl⟩
 rotate_left 1
 replace h3:=ndf h3
 refine W.skip ?_
 refine g 33 36 [] ?_
 conv=>whnf
 refine ⟨⟨I,⟨I,I,I,I,I⟩,I,I⟩,?_⟩
 refine W.ret ?_
 refine EndsW.rt ?_
 conv=>whnf
 refine ⟨⟨I,⟨I,I,I,I,I⟩,I,⟨I,I⟩,I⟩,?_,rfl⟩
 rotate_left 1
 ·exact congrArg tupE (show none = readI s by unfold readI; rw [if_pos (by omega)])
 ·exact congrArg tupE (show none = readI s by unfold readI; rw [if_pos (by omega)])
 ·have e:rdI s = ⟨y1.toNat,or64 (IntKind.i64.wrap ((y2.toNat:Int) * 256)) y3.toNat,y4.toNat,s.extract 4 s.size⟩:=by simp only [rdI,byt_at hy1,byt_at hy2,byt_at hy3,byt_at hy4]
  exact congrArg tupE (show none = readI s by unfold readI; rw [if_neg (by omega),e]; exact (if_neg h3).symm)
 ·have e:rdI s = ⟨y1.toNat,or64 (IntKind.i64.wrap ((y2.toNat:Int) * 256)) y3.toNat,y4.toNat,s.extract 4 s.size⟩:=by simp only [rdI,byt_at hy1,byt_at hy2,byt_at hy3,byt_at hy4]
  exact congrArg tupE (show some _ = readI s by unfold readI; rw [if_neg (by omega),e]; exact (if_pos h3).symm)
theorem c_spec_ReadEntry (s:ByteArray) (ht:s.size ≤ 281474976710656):F n_spec_ReadEntry [.val (.s s)] (tupE (readS s)) [[]]:=by
 refine i_spec_ReadEntry ?_
 conv=>whnf
 refine g 0 0 [] ?_
 conv=>whnf
 refine ⟨⟨I,I,I⟩,?_⟩
 refine W.sq ?_
 refine g 5 7 [] ?_
 conv=>whnf
 refine ⟨⟨I,I,I,I⟩,?_⟩
 refine W.cn ?_
 conv=>whnf
 refine ⟨fun h1=>?_,fun h1=>?_⟩
 replace h1:=dt h1
 refine g 7 9 [] ?_
 conv=>whnf
 refine ⟨⟨I,⟨I,I,I,I,I⟩,I,I⟩,?_⟩
 refine W.ret ?_
 refine EndsW.rt ?_
 conv=>whnf
 refine ⟨⟨I,⟨I,I,I,I,I⟩,I,⟨I,I⟩,I⟩,?_,rfl⟩
 rotate_left 1
 replace h1:=df h1
 refine W.skip ?_
 obtain ⟨y1,hy1,hb1⟩:=byte_at (s:=s) (n:=(0:Nat)) (by omega)
 obtain ⟨y2,hy2,hb2⟩:=byte_at (s:=s) (n:=(1:Nat)) (by omega)
 obtain ⟨y3,hy3,hb3⟩:=byte_at (s:=s) (n:=(2:Nat)) (by omega)
 obtain ⟨y4,hy4,hb4⟩:=byte_at (s:=s) (n:=(3:Nat)) (by omega)
 refine gd 7 26 [[],[.i ((↑(UInt8.toNat y1):Int))],[.i ((↑(UInt8.toNat y1):Int))],[],[.i ((↑(UInt8.toNat y2):Int))],[.i ((↑(UInt8.toNat y2):Int))],[.i ((↑(UInt8.toNat y2):Int) * (256:Int))],[],[.i ((↑(UInt8.toNat y3):Int))],[.i ((↑(UInt8.toNat y3):Int))],[.i ((↑(UInt8.toNat y2):Int) * (256:Int) + (↑(UInt8.toNat y3):Int))],[],[.i ((↑(UInt8.toNat y4):Int))],[.i ((↑(UInt8.toNat y4):Int))],[],[.n ((4:Nat)),.s (ByteArray.extract s (4:Nat) (ByteArray.size s))],[],[],[]] ?_
 conv=>whnf
 refine ⟨⟨I,⟨(by omega),ixb (by assumption)⟩,w8 _,I,⟨(by omega),ixb (by assumption)⟩,w8 _,w64 (by omega) (by omega),I,⟨(by omega),ixb (by assumption)⟩,w8 _,w64 (by omega) (by omega),I,⟨(by omega),ixb (by assumption)⟩,w8 _,I,⟨I,rfl,(by omega),(by omega),rfl⟩,I,I,⟨I,I,I,I,I⟩,I⟩,by kernel_rfl,?_⟩
 refine W.sq ?_
 refine g 0 1 [.call (V.s (formS { kind:=(↑(UInt8.toNat y1):Int),epoch:=(↑(UInt8.toNat y2):Int) * (256:Int) + (↑(UInt8.toNat y3):Int),task:=(↑(UInt8.toNat y4):Int),text:=ByteArray.extract s (4:Nat) (ByteArray.size s):Entry })) ([[]])] ?_
 conv=>whnf
 refine ⟨⟨I,⟨⟨I,I⟩,I,⟨⟨I,I,I,I,I⟩,I⟩,⟨I,I⟩,Go.K.c_spec_FormEntry _ _ _ _ (by simp only [ByteArray.size_extract]; omega)⟩,I,I,I⟩,?_⟩
 refine W.cn ?_
 conv=>whnf
 refine ⟨fun h2=>?_,fun h2=>?_⟩
 replace h2:=ndt h2
 refine g 28 31 [] ?_
 conv=>whnf
 refine ⟨⟨I,⟨I,I,I,I,I⟩,I,I⟩,?_⟩
 refine W.ret ?_
 refine EndsW.rt ?_
 conv=>whnf
 refine ⟨⟨I,⟨I,I,I,I,I⟩,I,⟨I,I⟩,I⟩,?_,rfl⟩
 rotate_left 1
 replace h2:=ndf h2
 refine W.skip ?_
 refine g 28 32 [] ?_
 conv=>whnf
 refine ⟨⟨I,⟨I,I,I,I,I⟩,I,I⟩,?_⟩
 refine W.ret ?_
 refine EndsW.rt ?_
 conv=>whnf
 refine ⟨⟨I,⟨I,I,I,I,I⟩,I,⟨I,I⟩,I⟩,?_,rfl⟩
 rotate_left 1
 ·exact congrArg tupE (show none = readS s by unfold readS; rw [if_pos (by omega)])
 ·have e:rdS s = ⟨y1.toNat,(y2.toNat:Int) * 256 + y3.toNat,y4.toNat,s.extract 4 s.size⟩:=by simp only [rdS,byt_at hy1,byt_at hy2,byt_at hy3,byt_at hy4]
  exact congrArg tupE (show none = readS s by unfold readS; rw [if_neg (by omega),e]; exact (if_neg h2).symm)
 ·have e:rdS s = ⟨y1.toNat,(y2.toNat:Int) * 256 + y3.toNat,y4.toNat,s.extract 4 s.size⟩:=by simp only [rdS,byt_at hy1,byt_at hy2,byt_at hy3,byt_at hy4]
  exact congrArg tupE (show some _ = readS s by unfold readS; rw [if_neg (by omega),e]; exact (if_pos h2).symm)
end Go.K
end
section
set_option linter.unusedVariables false
set_option linter.unusedSimpArgs false
set_option maxHeartbeats 4000000
set_option maxRecDepth 20000
open Go Go.Tm Go.Proofs
namespace Go.K
theorem form_eq (e:Entry):formI e = formS e:=by
 unfold formI formS
 by_cases h:e.ok
 ·simp only [h,if_true]
  obtain ⟨⟨h1,h2⟩,_⟩:=h
  have e1:e.epoch.fdiv 256 = e.epoch / 256:=Int.fdiv_eq_ediv_of_nonneg _ (by omega)
  have e2:e.epoch.tdiv 256 = e.epoch / 256:=Int.tdiv_eq_ediv_of_nonneg (by omega)
  have e3:e.epoch.tmod 256 = e.epoch % 256:=Int.tmod_eq_emod_of_nonneg (by omega)
  have e4:IntKind.u8.wrap e.epoch = e.epoch % 256:=by simp [IntKind.wrap,IntKind.bits,IntKind.signed]
  rw [e1,e2,e3,w64 (by omega) (by omega),e4,wu8 (z:=e.epoch % 256) (by omega) (by omega)]
 ·simp only [h,if_false]
end Go.K
namespace Go.K
end Go.K
end
section
set_option linter.unusedVariables false
set_option linter.unusedSimpArgs false
set_option maxHeartbeats 4000000
set_option maxRecDepth 20000
open Go Go.Tm Go.Proofs
namespace Go.K
theorem bytA {l:List UInt8} {i:Nat} {c:UInt8} (h:l[i]? = some c):byt ⟨⟨l⟩⟩ i = (c.toNat:Int):=by
 have:(ByteArray.mk ⟨l⟩)[i]? = l[i]?:=by
  show (if h:i < (ByteArray.mk ⟨l⟩).size then some ((ByteArray.mk ⟨l⟩)[i]) else none) = _
  have hsz:(ByteArray.mk ⟨l⟩).size = l.length:=rfl
  by_cases hi:i < l.length
  ·rw [dif_pos (by rw [hsz]; exact hi),List.getElem?_eq_getElem hi]; rfl
  ·rw [dif_neg (by rw [hsz]; exact hi),List.getElem?_eq_none (by omega)]
 exact byt_at (by rw [this]; exact h)
theorem split4 (s:ByteArray) (h:4 ≤ s.size):bl [byt s 0,byt s 1,byt s 2,byt s 3] ++ s.extract 4 s.size = s:=by
 obtain ⟨⟨l⟩⟩:=s
 match l,h with
 | a :: b :: c :: d :: r,_ =>
   rw [bytA (c:=a) rfl,bytA (c:=b) rfl,bytA (c:=c) rfl,bytA (c:=d) rfl]
   apply ByteArray.ext
   rw [ByteArray.data_append,ByteArray.data_extract]
   apply Array.ext'
   simp [bl,ByteArray.size]
theorem or_bytes (a b:Nat) (ha:a < 256) (hb:b < 256):or64 (IntKind.i64.wrap ((a:Int) * 256)) b = (a:Int) * 256 + b:=by
 rw [w64 (by omega) (by omega)]
 unfold or64
 have e:((BitVec.ofInt IntKind.i64.bits ((a:Int) * 256)) ||| BitVec.ofInt IntKind.i64.bits (b:Int)).toNat = a * 256 + b:=by
  have h1:BitVec.ofInt IntKind.i64.bits ((a:Int) * 256) = BitVec.ofNat IntKind.i64.bits (a * 256):=by
   rw [show ((a:Int) * 256) = ((a * 256:Nat):Int) by simp]; exact BitVec.ofInt_natCast ..
  have h2:BitVec.ofInt IntKind.i64.bits (b:Int) = BitVec.ofNat IntKind.i64.bits b:=BitVec.ofInt_natCast ..
  have hb64:IntKind.i64.bits = 64:=rfl
  rw [h1,h2,BitVec.toNat_or,BitVec.toNat_ofNat,BitVec.toNat_ofNat,hb64,Nat.mod_eq_of_lt (by omega),Nat.mod_eq_of_lt (by omega)]
  have:=Nat.two_pow_add_eq_or_of_lt (i:=8) (b:=b) (by omega) a
  rw [Nat.mul_comm] at this
  simpa using this.symm
 rw [e]
 rw [w64 (by omega) (by omega)]; simp
theorem byt_range (s:ByteArray) (i:Nat):∃ n:Nat,byt s i = n ∧ n < 256:=by
 unfold byt
 cases h:s[i]? with
 | none=>exact ⟨0,rfl,by omega⟩
 | some c=>exact ⟨c.toNat,rfl,UInt8.toNat_lt _⟩
theorem rd_eq (s:ByteArray):rdI s = rdS s:=by
 unfold rdI rdS
 obtain ⟨a,ha,ha'⟩:=byt_range s 1
 obtain ⟨b,hb,hb'⟩:=byt_range s 2
 rw [ha,hb,or_bytes a b ha' hb']
theorem read_eq (s:ByteArray):readI s = readS s:=by
 unfold readI readS
 rw [rd_eq]
 by_cases h4:(s.size:Int) < 4
 ·rw [if_pos (by omega),if_pos h4]
 ·rw [if_neg h4]
  have hx:(s.extract 4 s.size).size = s.size - 4:=by rw [ByteArray.size_extract]; omega
  by_cases hok:(rdS s).ok
  ·have hform:formS (rdS s) = s:=by
    unfold formS
    rw [if_pos hok]
    obtain ⟨⟨h1,h2⟩,⟨h3,h4'⟩,h5⟩:=hok
    obtain ⟨a,ha,ha'⟩:=byt_range s 1
    obtain ⟨b,hb,hb'⟩:=byt_range s 2
    have hk:IntKind.u8.wrap (rdS s).kind = byt s 0:=by
     obtain ⟨c,hc,hc'⟩:=byt_range s 0
     show IntKind.u8.wrap (byt s 0) = _
     rw [wu8 (by omega) (by omega)]
    have ht:IntKind.u8.wrap (rdS s).task = byt s 3:=by
     obtain ⟨c,hc,hc'⟩:=byt_range s 3
     show IntKind.u8.wrap (byt s 3) = _
     rw [wu8 (by omega) (by omega)]
    have he:(rdS s).epoch = (a:Int) * 256 + b:=by show byt s 1 * 256 + byt s 2 = _; rw [ha,hb]
    have e1:IntKind.u8.wrap (IntKind.i64.wrap ((rdS s).epoch.tdiv 256)) = byt s 1:=by
     rw [he,Int.tdiv_eq_ediv_of_nonneg (by omega),w64 (by omega) (by omega),wu8 (by omega) (by omega),ha]; omega
    have e2:IntKind.u8.wrap ((rdS s).epoch.tmod 256) = byt s 2:=by
     rw [he,Int.tmod_eq_emod_of_nonneg (by omega),wu8 (by omega) (by omega),hb]; omega
    rw [hk,ht,e1,e2]
    exact split4 s (by omega)
   have hsz:¬ ((s.size:Int) < 4 ∨ 12 < (s.size:Int)):=by
    obtain ⟨_,_,h5⟩:=hok
    have hr:(rdS s).text = s.extract 4 s.size:=rfl
    rcases h5 with ⟨_,_,h6⟩ | ⟨_,h6⟩
    ·rw [hr] at h6
     have:=congrArg ByteArray.size h6
     rw [hx] at this
     have h0:(ByteArray.mk #[]).size = 0:=rfl
     omega
    ·rw [hr,hx] at h6; omega
   rw [if_neg hsz,if_pos hok,if_pos hform]
  ·have hform:formS (rdS s) ≠ s:=by
    unfold formS
    rw [if_neg hok]
    intro e
    have:=congrArg ByteArray.size e
    have h0:emp.size = 0:=rfl
    omega
   rw [if_neg hform,if_neg hok]
   simp
end Go.K
end
section
set_option linter.unusedVariables false
set_option linter.unusedSimpArgs false
set_option maxHeartbeats 4000000
set_option maxRecDepth 20000
open Go Go.Tm Go.Proofs
namespace Go.K
abbrev strT (s:ByteArray):List T:=[.s s]
abbrev strs (xs:List ByteArray):T:=.slc [false] (xs.map strT)
theorem c_laws_szStringS (xs:List ByteArray) (left:Int) (hl:xs.length ≤ 9223372036854775807) (hs:∀ s ∈ xs,s.size ≤ 9223372036854775807) (h:left ≤ 1048576) (h0:0 ≤ left) :
 F n_laws_szStringS [.val (.t (strs xs)),.val (.i left)] (.i (if left - xs.length - totS xs < 0 then -1 else left - xs.length - totS xs)) [[],[]]:=by
 have hnn:=totS_nn xs
 refine i_laws_szStringS ?_
 conv=>whnf
 refine g 0 0 [] ?_
 conv=>whnf
 refine ⟨⟨I,I⟩,?_⟩
 refine g 6 10 [.i (left - (↑(List.length (List.map strT xs)):Int))] ?_
 conv=>whnf
 refine ⟨⟨I,I,I,w64 (by simp only [lens]; omega) (by simp only [lens]; omega),I,I⟩,?_⟩
 refine W.sq ?_
 refine g 10 11 [] ?_
 conv=>whnf
 refine ⟨⟨I,I,I⟩,?_⟩
 refine W.cn ?_
 conv=>whnf
 refine ⟨fun h1=>?_,fun h1=>?_⟩
 replace h1:=dt h1
 simp only [List.length_map] at h1
 refine g 11 12 [] ?_
 conv=>whnf
 refine ⟨⟨I,I⟩,?_⟩
 refine W.ret ?_
 refine EndsW.rt ?_
 conv=>whnf
 refine ⟨⟨I,I,I⟩,?_,rfl⟩
 exact vi (by omega)
 replace h1:=df h1
 simp only [List.length_map] at h1
 refine W.skip ?_
 refine W.sq ?_
 refine g 11 12 [] ?_
 conv=>whnf
 refine ⟨⟨I,I⟩,?_⟩
 refine W.blk ?_
 refine W.lp (fun s (n:Nat)=>⟨[(0,s.s 0),(1,.i (left - xs.length - totS (xs.take n))),(5,.i n)],[],[]⟩) (fun (n:Nat)=>n ≤ xs.length ∧ 0 ≤ left - xs.length - totS (xs.take n)) (fun (n:Nat)=>xs.length - n) (0) [] [] ⟨rfl,⟨rfl,(congrArg (fun z=>V.t (T.v (Value.int _ z))) (by simp [totS])),rfl,I⟩,I,I⟩ ?_ ?_
 ·simp [totS]; omega
 rintro n ⟨hn,hc⟩
 have hq:=totS_nn (xs.take n)
 have hle:=totS_le xs (n + 1)
 conv=>whnf
 refine W.sq ?_
 refine g 12 15 [] ?_
 conv=>whnf
 refine ⟨⟨I,I,I,I,I⟩,?_⟩
 refine W.cn ?_
 conv=>whnf
 refine ⟨fun h2=>?_,fun h2=>?_⟩
 replace h2:=dt h2
 simp only [List.length_map] at h2
 refine W.skip ?_
 refine W.sq ?_
 refine W.blk ?_
 obtain ⟨y1,hy1⟩:=some_at (xs:=xs) (n:=n) (by omega)
 have hm1:=hs y1 (List.mem_of_getElem? hy1)
 have hk1:=totS_take hy1
 refine g 15 25 [.x (strT y1),.i (left - (↑(List.length xs):Int) - totS (List.take n xs) - (↑(ByteArray.size y1):Int))] ?_
 conv=>whnf
 refine ⟨⟨I,I,I,⟨(by omega),ixl (by assumption)⟩,I,I,w64 (by omega) (by omega),I,I⟩,?_⟩
 refine g 25 26 [] ?_
 conv=>whnf
 refine ⟨⟨I,I,I⟩,?_⟩
 refine W.cn ?_
 conv=>whnf
 refine ⟨fun h3=>?_,fun h3=>?_⟩
 replace h3:=dt h3
 refine g 26 27 [] ?_
 conv=>whnf
 refine ⟨⟨I,I⟩,?_⟩
 refine W.ret ?_
 refine EndsW.rt ?_
 conv=>whnf
 refine ⟨⟨I,I,I⟩,?_,rfl⟩
 exact vi (by omega)
 replace h3:=df h3
 refine W.skip ?_
 refine rg [.i ((↑n:Int) + (1:Int))] ?_
 conv=>whnf
 refine ⟨⟨I,w64 (by omega) (by omega),I,I⟩,?_⟩
 rotate_left 1
 replace h2:=df h2
 simp only [List.length_map] at h2
 refine W.exit ?_
 refine g 5 28 [] ?_
 conv=>whnf
 refine ⟨⟨I,I,I⟩,?_⟩
 refine W.ret ?_
 refine EndsW.rt ?_
 conv=>whnf
 refine ⟨⟨I,I,I⟩,?_,rfl⟩
 rotate_left 1
 ·refine ⟨n + 1,[],[],⟨rfl,⟨rfl,(congrArg (fun z=>V.t (T.v (Value.int _ z))) (by rw [totS_take (by assumption)]; omega)),rfl,I⟩,I,I⟩,?_,?_⟩
  rotate_left 1
  (dsimp only; omega)
  dsimp only
  omega
 ·have e:xs.take n = xs:=List.take_of_length_le (by omega)
  rw [e] at hc ⊢
  exact vi (by split <;> omega)
theorem c_laws_toStringS (xs:List ByteArray) (hl:xs.length ≤ 1048576):F n_laws_toStringS [.val (.t (strs xs))] (.own [false] (xs.map strT)) [[]]:=by
 refine i_laws_toStringS ?_
 conv=>whnf
 refine g 0 0 [] ?_
 conv=>whnf
 refine ⟨⟨I,I⟩,?_⟩
 refine g 5 8 [.n (List.length (List.map strT xs))] ?_
 conv=>whnf
 refine ⟨⟨I,I,⟨rfl,rfl,(by simp only [lens]; omega)⟩,I,I⟩,?_⟩
 refine W.sq ?_
 refine g 0 0 [] ?_
 conv=>whnf
 refine ⟨⟨I,I⟩,?_⟩
 refine W.blk ?_
 refine W.lp (fun s (n:Nat)=>⟨[(0,s.s 0),(2,s.s 2),(3,s.s 3),(4,.i n)],[(7,[.own [false] (fill strT (strT emp) xs n)])],[]⟩) (fun (n:Nat)=>n ≤ xs.length) (fun (n:Nat)=>xs.length - n) (0) [some 7] [] ⟨rfl,⟨rfl,rfl,rfl,rfl,I⟩,⟨⟨rfl,⟨(congrArg (V.own _) (fill_zero' (by simp) rfl)),I⟩⟩,I⟩,I⟩ (by omega) ?_
 intro n hn
 conv=>whnf
 refine W.sq ?_
 refine g 8 11 [] ?_
 conv=>whnf
 refine ⟨⟨I,I,I,I,I⟩,?_⟩
 refine W.cn ?_
 conv=>whnf
 refine ⟨fun h1=>?_,fun h1=>?_⟩
 replace h1:=dt h1
 simp only [List.length_map] at h1
 refine W.skip ?_
 refine W.sq ?_
 refine W.blk ?_
 obtain ⟨y1,hy1⟩:=some_at (xs:=xs) (n:=n) (by omega)
 refine rg [.x (strT y1),.n (n),.x (strT emp)] ?_
 conv=>whnf
 refine ⟨⟨I,I,I,I,⟨(by omega),ixl (by assumption)⟩,I,⟨rfl,(by simp only [lens]; omega)⟩,⟨⟨I,I⟩,fill_get (by omega)⟩,I⟩,?_⟩
 refine rg [.i ((↑n:Int) + (1:Int))] ?_
 conv=>whnf
 refine ⟨⟨I,w64 (by omega) (by omega),I,I⟩,?_⟩
 rotate_left 1
 replace h1:=df h1
 simp only [List.length_map] at h1
 refine W.exit ?_
 refine g 3 22 [] ?_
 conv=>whnf
 refine ⟨⟨I,I,I⟩,?_⟩
 refine W.ret ?_
 refine EndsW.rt ?_
 conv=>whnf
 refine ⟨⟨I,I,I⟩,?_,rfl⟩
 rotate_left 1
 ·refine ⟨n + 1,[some 7],[],⟨rfl,⟨rfl,rfl,rfl,rfl,I⟩,⟨⟨rfl,⟨(congrArg (V.own _) (fill_set (by assumption))),I⟩⟩,I⟩,I⟩,?_,?_⟩
  rotate_left 1
  (dsimp only; omega)
  dsimp only
  omega
 ·have e:fill strT (strT emp) xs n = xs.map strT:=fill_all _ _ _ (by omega)
  rw [← e]
theorem c_laws_eqStringS (xs ys:List ByteArray) (hl:xs.length ≤ 9223372036854775806):F n_laws_eqStringS [.val (.t (strs xs)),.val (.t (strs ys))] (.b (decide (xs = ys))) [[],[]]:=by
 refine i_laws_eqStringS ?_
 conv=>whnf
 refine g 0 0 [] ?_
 conv=>whnf
 refine ⟨⟨I,I⟩,?_⟩
 refine W.sq ?_
 refine g 6 10 [] ?_
 conv=>whnf
 refine ⟨⟨I,I,I,I,I,I⟩,?_⟩
 refine W.cn ?_
 conv=>whnf
 refine ⟨fun h1=>?_,fun h1=>?_⟩
 replace h1:=ndt h1
 simp only [List.length_map] at h1
 refine g 10 11 [] ?_
 conv=>whnf
 refine ⟨⟨I,I⟩,?_⟩
 refine W.ret ?_
 refine EndsW.rt ?_
 conv=>whnf
 refine ⟨⟨I,I,I⟩,?_,rfl⟩
 rotate_left 1
 replace h1:=ndf h1
 simp only [List.length_map] at h1
 refine W.skip ?_
 refine W.sq ?_
 refine g 10 11 [] ?_
 conv=>whnf
 refine ⟨⟨I,I⟩,?_⟩
 refine W.blk ?_
 rotate_left 1
 ·exact vbf (fun e=>h1 (by rw [e]))
 refine W.lp (fun s (n:Nat)=>⟨[(0,s.s 0),(1,s.s 1),(5,.i n)],[],[]⟩) (fun (n:Nat)=>n ≤ xs.length ∧ xs.take n = ys.take n) (fun (n:Nat)=>xs.length - n) (0) [] [] ⟨rfl,⟨rfl,rfl,rfl,I⟩,I,I⟩ (by simp) ?_
 rintro n ⟨hn,hc⟩
 conv=>whnf
 refine W.sq ?_
 refine g 11 14 [] ?_
 conv=>whnf
 refine ⟨⟨I,I,I,I,I⟩,?_⟩
 refine W.cn ?_
 conv=>whnf
 refine ⟨fun h2=>?_,fun h2=>?_⟩
 replace h2:=dt h2
 simp only [List.length_map] at h2
 refine W.skip ?_
 refine W.sq ?_
 refine W.blk ?_
 obtain ⟨y1,hy1⟩:=some_at (xs:=xs) (n:=n) (by omega)
 obtain ⟨y2,hy2⟩:=some_at (xs:=ys) (n:=n) (by omega)
 refine gd 14 25 [[],[],[.x (strT y1)],[],[],[],[.x (strT y2)],[],[]] ?_
 conv=>whnf
 refine ⟨⟨I,I,⟨(by omega),ixl (by assumption)⟩,I,I,I,⟨(by omega),ixl (by assumption)⟩,I,I,I⟩,by kernel_rfl,?_⟩
 refine W.cn ?_
 conv=>whnf
 refine ⟨fun h3=>?_,fun h3=>?_⟩
 replace h3:=ndt h3
 refine g 25 26 [] ?_
 conv=>whnf
 refine ⟨⟨I,I⟩,?_⟩
 refine W.ret ?_
 refine EndsW.rt ?_
 conv=>whnf
 refine ⟨⟨I,I,I⟩,?_,rfl⟩
 rotate_left 1
 replace h3:=ndf h3
 refine W.skip ?_
 refine rg [.i ((↑n:Int) + (1:Int))] ?_
 conv=>whnf
 refine ⟨⟨I,w64 (by omega) (by omega),I,I⟩,?_⟩
 rotate_left 1
 replace h2:=df h2
 simp only [List.length_map] at h2
 refine W.exit ?_
 refine g 0 2 [] ?_
 conv=>whnf
 refine ⟨⟨I,I⟩,?_⟩
 refine W.ret ?_
 refine EndsW.rt ?_
 conv=>whnf
 refine ⟨⟨I,I,I⟩,?_,rfl⟩
 rotate_left 1
 ·exact vbf (fun e=>by subst e; rw [hy1] at hy2; cases hy2; exact h3 rfl)
 ·refine ⟨n + 1,[],[],⟨rfl,⟨rfl,rfl,rfl,I⟩,I,I⟩,?_,?_⟩
  rotate_left 1
  (dsimp only; omega)
  dsimp only
  exact ⟨by omega,by rw [List.take_add_one,List.take_add_one,hy1,hy2,hc,h3]⟩
 ·exact vbt (by rw [List.take_of_length_le (by omega),List.take_of_length_le (by omega)] at hc; exact hc)
end Go.K
end
section
set_option linter.unusedVariables false
set_option linter.unusedSimpArgs false
set_option maxHeartbeats 4000000
set_option maxRecDepth 20000
open Go Go.Tm Go.Proofs
namespace Go.K
theorem totS_mem:∀ {l:List ByteArray} {s:ByteArray},s ∈ l → (s.size:Int) ≤ totS l
 | x :: l,s,h=>by
   rcases List.mem_cons.1 h with rfl | h
   ·have:=totS_nn l; simp only [totS]; omega
   ·have:=totS_mem h; simp only [totS]; omega
theorem map_of {α β:Type} {f:α → β} {p:α → Prop}:∀ {xs:List β},(∀ y ∈ xs,∃ s,y = f s ∧ p s) → ∃ ys:List α,xs = ys.map f ∧ ∀ s ∈ ys,p s
 | [],_=>⟨[],rfl,fun _ h=>by cases h⟩
 | y :: xs,h=>by
   obtain ⟨s,rfl,hp⟩:=h y (.head _)
   obtain ⟨ys,rfl,hq⟩:=map_of fun z hz=>h z (.tail _ hz)
   exact ⟨s :: ys,rfl,fun z hz=>by rcases List.mem_cons.1 hz with rfl | hz; exact hp; exact hq z hz⟩
theorem wf_strs {n:Nat} {xs:List (List T)} (h:∀ y ∈ xs,wfT E (n + 1) 9 y):∃ ys:List ByteArray,xs = ys.map strT ∧ ∀ s ∈ ys,s.size ≤ 9223372036854775807:=map_of (p:=fun s:ByteArray=>s.size ≤ 9223372036854775807) fun y hy=>h y hy
end Go.K
end
section
set_option linter.unusedVariables false
set_option linter.unusedSimpArgs false
set_option maxHeartbeats 4000000
set_option maxRecDepth 20000
open Go Go.Tm Go.Proofs
namespace Go.K
structure Parcel where
 kind:Int
 frm:ByteArray
 text:ByteArray
 deriving DecidableEq
abbrev noP:Parcel:=⟨0,emp,emp⟩
/-- The digits of a number ahead of a text. -/
def dgs (fuel:Nat) (k:Int) (s:ByteArray):ByteArray:=match fuel with
 | 0=>s
 | f + 1=>if k ≤ 0 then s else dgs f (k / 10) (bl [48 + k % 10] ++ s)
def markT (k:Int):ByteArray:=if k ≤ 0 then bl [109,48] else bl [109] ++ dgs 20 k emp
theorem dgs_step {f:Nat} {a:Int} {t:ByteArray} (h0:0 < a) (h:a < 10 ^ f):∃ g,f = g + 1 ∧ a / 10 < 10 ^ g ∧ dgs f a t = dgs g (a / 10) (bl [48 + a % 10] ++ t):=by
 cases f with
 | zero=>simp at h; omega
 | succ g =>
   refine ⟨g,rfl,?_,?_⟩
   ·rw [Int.pow_succ] at h; omega
   ·rw [dgs,if_neg (by omega)]
theorem dgs_end {f:Nat} {a:Int} {t:ByteArray} (h0:¬ 0 < a):dgs f a t = t:=by
 cases f with
 | zero=>rfl
 | succ g=>rw [dgs,if_pos (by omega)]
theorem mt_div {a:Int} (h0:0 ≤ a) (h1:a ≤ 1099511627776):IntKind.i64.wrap (a.tdiv 10) = a / 10:=by
 rw [Int.tdiv_eq_ediv_of_nonneg h0,w64 (by omega) (by omega)]
theorem mt_dig {a:Int} {t:ByteArray} (h0:0 ≤ a):(⟨(bytesOf [[T.v (Value.int IntKind.u8 (IntKind.u8.wrap (IntKind.i64.wrap (48 + a.tmod 10))))]]).toArray⟩:ByteArray) ++ t = bl [48 + a % 10] ++ t:=by
 rw [Int.tmod_eq_emod_of_nonneg h0,w64 (by omega) (by omega),wu8 (by omega) (by omega)]; rfl
theorem bl_size (l:List Int):(bl l).size = l.length:=by simp [bl,bsa]
theorem c_laws_markText (k:Int) (h:k ≤ 1099511627776):F n_laws_markText [.val (.i k)] (.s (markT k)) [[]]:=by
 refine i_laws_markText ?_
 conv=>whnf
 refine g 0 0 [] ?_
 conv=>whnf
 refine ⟨⟨I,I⟩,?_⟩
 refine W.sq ?_
 refine g 4 5 [] ?_
 conv=>whnf
 refine ⟨⟨I,I,I⟩,?_⟩
 refine W.cn ?_
 conv=>whnf
 refine ⟨fun h1=>?_,fun h1=>?_⟩
 replace h1:=dt h1
 refine g 5 6 [] ?_
 conv=>whnf
 refine ⟨⟨I,I⟩,?_⟩
 refine W.ret ?_
 refine EndsW.rt ?_
 conv=>whnf
 refine ⟨⟨I,I,I⟩,?_,rfl⟩
 rotate_left 1
 replace h1:=df h1
 refine W.skip ?_
 refine g 5 6 [] ?_
 conv=>whnf
 refine ⟨⟨I,I⟩,?_⟩
 refine W.sq ?_
 refine W.blk ?_
 rotate_left 1
 ·exact vs (by unfold markT; rw [if_pos (by omega)]; rfl)
 refine W.lp (fun s (x:Nat × Int × ByteArray)=>match x with | (f,a,t)=>⟨[(0,.i a),(2,s.s 2),(3,.s t)],[],[]⟩) (fun (x:Nat × Int × ByteArray)=>match x with | (f,a,t)=>0 ≤ a ∧ a ≤ 1099511627776 ∧ a < 10 ^ f ∧ f ≤ 20 ∧ (t.size:Int) ≤ 20 - f ∧ dgs f a t = dgs 20 k emp) (fun (x:Nat × Int × ByteArray)=>match x with | (f,a,t)=>f) ((20,k,emp)) [] [] ⟨rfl,⟨rfl,rfl,rfl,I⟩,I,I⟩ ?_ ?_
 ·exact ⟨by omega,by omega,by omega,by omega,by show ((0:Nat):Int) ≤ 20 - ((20:Nat):Int); omega,rfl⟩
 rintro ⟨f,a,t⟩ ⟨g1,ga,g2,g3,g4,g5⟩
 conv=>whnf
 refine W.sq ?_
 refine g 6 7 [] ?_
 conv=>whnf
 refine ⟨⟨I,I,I⟩,?_⟩
 refine W.cn ?_
 conv=>whnf
 refine ⟨fun h2=>?_,fun h2=>?_⟩
 replace h2:=dt h2
 refine W.skip ?_
 refine W.blk ?_
 refine g 10 16 [.i (Int.tmod a (10:Int)),.i (IntKind.wrap IntKind.i64 ((48:Int) + Int.tmod a (10:Int))),.i (IntKind.wrap IntKind.u8 (IntKind.wrap IntKind.i64 ((48:Int) + Int.tmod a (10:Int)))),.s ({ data:=List.toArray (bytesOf [[T.v (Value.int IntKind.u8 (IntKind.wrap IntKind.u8 (IntKind.wrap IntKind.i64 ((48:Int) + Int.tmod a (10:Int)))))]]):ByteArray }),.s ({ data:=List.toArray (bytesOf [[T.v (Value.int IntKind.u8 (IntKind.wrap IntKind.u8 (IntKind.wrap IntKind.i64 ((48:Int) + Int.tmod a (10:Int)))))]]):ByteArray } ++ t)] ?_
 conv=>whnf
 refine ⟨⟨I,⟨(by omega),rfl⟩,rfl,rfl,⟨⟨I,I⟩,I⟩,⟨I,(by repeat (first | exact allU8_nil | refine allU8_cons ?_)),rfl⟩,I,⟨rfl,(by simp only [bsz,ByteArray.size_append,lens]; omega)⟩,I,I⟩,?_⟩
 refine rg [.i (IntKind.wrap IntKind.i64 (Int.tdiv a (10:Int)))] ?_
 conv=>whnf
 refine ⟨⟨I,⟨(by omega),rfl⟩,I,I⟩,?_⟩
 rotate_left 1
 replace h2:=df h2
 refine W.exit ?_
 refine g 3 20 [.s ({ data:=#[(109:UInt8)]:ByteArray } ++ t)] ?_
 conv=>whnf
 refine ⟨⟨I,⟨rfl,(by simp only [bsz,bsa,ByteArray.size_append,List.size_toArray,lens]; omega)⟩,I,I⟩,?_⟩
 refine W.ret ?_
 refine EndsW.rt ?_
 conv=>whnf
 refine ⟨⟨I,I,I⟩,?_,rfl⟩
 rotate_left 1
 ·obtain ⟨g,rfl,g6,g7⟩:=dgs_step (t:=t) h2 g2
  refine ⟨(g,a / 10,bl [48 + a % 10] ++ t),[],[],⟨rfl,⟨(congrArg (fun z=>V.t (T.v (Value.int _ z))) (mt_div g1 ga)),rfl,(congrArg (fun z=>V.t (T.v (Value.string z))) (mt_dig g1)),I⟩,I,I⟩,?_,?_⟩
  rotate_left 1
  (dsimp only; omega)
  dsimp only
  have e:=bl_size [48 + a % 10]
  exact ⟨by omega,by omega,g6,by omega,by rw [ByteArray.size_append,e,List.length_cons,List.length_nil]; omega,by rw [← g7]; exact g5⟩
 ·exact vs (by unfold markT; rw [if_neg h1,← g5,dgs_end h2]; rfl)
end Go.K
end
section
set_option linter.unusedVariables false
set_option linter.unusedSimpArgs false
set_option maxHeartbeats 4000000
set_option maxRecDepth 20000
open Go Go.Tm Go.Proofs
namespace Go.K
abbrev intT (n:Int):List T:=[.i n]
structure Task where
 name:ByteArray
 cost:Int
 deps:List Int
 deriving DecidableEq
abbrev taskT (x:Task):List T:=[.s x.name,.i x.cost,.slc [false] (x.deps.map intT)]
abbrev taskR (x:Task):V:=.agg [.t (.s x.name),.t (.i x.cost),.t (.slc [false] (x.deps.map intT))]
abbrev taskO (x:Task):V:=.agg [.t (.s x.name),.t (.i x.cost),.own [false] (x.deps.map intT)]
abbrev taskK:List Bool:=[false,false,true]
abbrev noTask:Task:=⟨emp,0,[]⟩
def taskSz (x:Task):Int:=(x.name.size:Int) + ((x.deps.length:Int))
theorem taskSz_nn (x:Task):0 ≤ taskSz x:=by
 simp only [taskSz]; omega
def taskWf (x:Task):Prop:=x.name.size ≤ 9223372036854775807 ∧ x.deps.length ≤ 9223372036854775807
structure Worker where
 number:Int
 epoch:Int
 up:Bool
 state:Int
 lease:Int
 task:Int
 cost:Int
 left:Int
 inputs:List ByteArray
 text:ByteArray
 since:Int
 deriving DecidableEq
structure Plan where
 tasks:List Task
 deriving DecidableEq
abbrev planT (x:Plan):List T:=[.slc taskK (x.tasks.map taskT)]
abbrev planR (x:Plan):V:=.agg [.t (.slc taskK (x.tasks.map taskT))]
abbrev planO (x:Plan):V:=.agg [.own taskK (x.tasks.map taskT)]
def planSz (x:Plan):Int:=((x.tasks.length:Int) + sumI taskSz x.tasks)
theorem planSz_nn (x:Plan):0 ≤ planSz x:=by
 have hn0:=sum_nn taskSz_nn x.tasks
 simp only [planSz]; omega
def planWf (x:Plan):Prop:=x.tasks.length ≤ 9223372036854775807 ∧ (∀ y ∈ x.tasks,taskWf y)
theorem c_laws_szIntS (xs:List Int) (left:Int) (hl:xs.length ≤ 9223372036854775807) (h:left ≤ 1048576) (h0:0 ≤ left):F n_laws_szIntS [.val (.t (.slc [false] (xs.map intT))),.val (.i left)] (.i (if left - xs.length < 0 then -1 else left - xs.length)) [[],[]]:=by
 refine i_laws_szIntS ?_
 conv=>whnf
 refine g 0 0 [] ?_
 conv=>whnf
 refine ⟨⟨I,I⟩,?_⟩
 refine g 5 9 [.i (left - (↑(List.length (List.map intT xs)):Int))] ?_
 conv=>whnf
 refine ⟨⟨I,I,I,w64 (by simp only [lens]; omega) (by simp only [lens]; omega),I,I⟩,?_⟩
 refine W.sq ?_
 refine g 0 1 [] ?_
 conv=>whnf
 refine ⟨⟨I,I,I⟩,?_⟩
 refine W.cn ?_
 conv=>whnf
 refine ⟨fun h1=>?_,fun h1=>?_⟩
 replace h1:=dt h1
 simp only [List.length_map] at h1
 refine g 9 11 [] ?_
 conv=>whnf
 refine ⟨⟨I,I⟩,?_⟩
 refine W.ret ?_
 refine EndsW.rt ?_
 conv=>whnf
 refine ⟨⟨I,I,I⟩,?_,rfl⟩
 exact vi (by omega)
 replace h1:=df h1
 simp only [List.length_map] at h1
 refine W.skip ?_
 refine g 9 12 [] ?_
 conv=>whnf
 refine ⟨⟨I,I,I⟩,?_⟩
 refine W.ret ?_
 refine EndsW.rt ?_
 conv=>whnf
 refine ⟨⟨I,I,I⟩,?_,rfl⟩
 (simp [*]; done)
theorem c_laws_toIntS (xs:List Int) (h:(xs.length:Int) ≤ 1048576):F n_laws_toIntS [.val (.t (.slc [false] (xs.map intT)))] (.own [false] (xs.map intT)) [[]]:=by
 refine i_laws_toIntS ?_
 conv=>whnf
 refine g 0 0 [] ?_
 conv=>whnf
 refine ⟨⟨I,I⟩,?_⟩
 refine g 5 8 [.n (List.length (List.map intT xs))] ?_
 conv=>whnf
 refine ⟨⟨I,I,⟨rfl,rfl,(by simp only [lens]; omega)⟩,I,I⟩,?_⟩
 refine W.sq ?_
 refine g 0 0 [] ?_
 conv=>whnf
 refine ⟨⟨I,I⟩,?_⟩
 refine W.blk ?_
 refine W.lp (fun s (n:Nat)=>⟨[(0,s.s 0),(2,s.s 2),(3,s.s 3),(4,.i n)],[(7,[.own [false] (fill intT (intT 0) xs n)])],[]⟩) (fun (n:Nat)=>n ≤ xs.length) (fun (n:Nat)=>xs.length - n) (0) [some 7] [] ⟨rfl,⟨rfl,rfl,rfl,rfl,I⟩,⟨⟨rfl,⟨(congrArg (V.own _) (fill_zero' (by simp) rfl)),I⟩⟩,I⟩,I⟩ (by omega) ?_
 intro n hn
 conv=>whnf
 refine W.sq ?_
 refine g 8 11 [] ?_
 conv=>whnf
 refine ⟨⟨I,I,I,I,I⟩,?_⟩
 refine W.cn ?_
 conv=>whnf
 refine ⟨fun h1=>?_,fun h1=>?_⟩
 replace h1:=dt h1
 simp only [List.length_map] at h1
 refine W.skip ?_
 refine W.sq ?_
 refine W.blk ?_
 obtain ⟨y1,hy1⟩:=some_at (xs:=xs) (n:=n) (by omega)
 refine rg [.x (intT y1),.n (n),.x (intT (0:Int))] ?_
 conv=>whnf
 refine ⟨⟨I,I,I,I,⟨(by omega),ixl (by assumption)⟩,I,⟨rfl,(by simp only [lens]; omega)⟩,⟨⟨I,I⟩,fill_get (by omega)⟩,I⟩,?_⟩
 refine rg [.i ((↑n:Int) + (1:Int))] ?_
 conv=>whnf
 refine ⟨⟨I,w64 (by omega) (by omega),I,I⟩,?_⟩
 rotate_left 1
 replace h1:=df h1
 simp only [List.length_map] at h1
 refine W.exit ?_
 refine g 3 22 [] ?_
 conv=>whnf
 refine ⟨⟨I,I,I⟩,?_⟩
 refine W.ret ?_
 refine EndsW.rt ?_
 conv=>whnf
 refine ⟨⟨I,I,I⟩,?_,rfl⟩
 rotate_left 1
 ·refine ⟨n + 1,[some 7],[],⟨rfl,⟨rfl,rfl,rfl,rfl,I⟩,⟨⟨rfl,⟨(congrArg (V.own _) (fill_set (by assumption))),I⟩⟩,I⟩,I⟩,?_,?_⟩
  rotate_left 1
  (dsimp only; omega)
  dsimp only
  omega
 ·have e:fill intT (intT 0) xs n = xs.map intT:=fill_all _ _ _ (by omega)
  rw [← e]
theorem c_laws_eqIntS (xs ys:List Int) (hl:xs.length ≤ 9223372036854775806):F n_laws_eqIntS [.val (.t (.slc [false] (xs.map intT))),.val (.t (.slc [false] (ys.map intT)))] (.b (decide (xs = ys))) [[],[]]:=by
 refine i_laws_eqIntS ?_
 conv=>whnf
 refine g 0 0 [] ?_
 conv=>whnf
 refine ⟨⟨I,I⟩,?_⟩
 refine W.sq ?_
 refine g 6 10 [] ?_
 conv=>whnf
 refine ⟨⟨I,I,I,I,I,I⟩,?_⟩
 refine W.cn ?_
 conv=>whnf
 refine ⟨fun h1=>?_,fun h1=>?_⟩
 replace h1:=ndt h1
 simp only [List.length_map] at h1
 refine g 10 11 [] ?_
 conv=>whnf
 refine ⟨⟨I,I⟩,?_⟩
 refine W.ret ?_
 refine EndsW.rt ?_
 conv=>whnf
 refine ⟨⟨I,I,I⟩,?_,rfl⟩
 rotate_left 1
 replace h1:=ndf h1
 simp only [List.length_map] at h1
 refine W.skip ?_
 refine W.sq ?_
 refine g 10 11 [] ?_
 conv=>whnf
 refine ⟨⟨I,I⟩,?_⟩
 refine W.blk ?_
 rotate_left 1
 ·exact vbf (fun e=>h1 (by rw [e]))
 refine W.lp (fun s (n:Nat)=>⟨[(0,s.s 0),(1,s.s 1),(5,.i n)],[],[]⟩) (fun (n:Nat)=>n ≤ xs.length ∧ xs.take n = ys.take n) (fun (n:Nat)=>xs.length - n) (0) [] [] ⟨rfl,⟨rfl,rfl,rfl,I⟩,I,I⟩ (by simp) ?_
 rintro n ⟨hn,hc⟩
 conv=>whnf
 refine W.sq ?_
 refine g 11 14 [] ?_
 conv=>whnf
 refine ⟨⟨I,I,I,I,I⟩,?_⟩
 refine W.cn ?_
 conv=>whnf
 refine ⟨fun h2=>?_,fun h2=>?_⟩
 replace h2:=dt h2
 simp only [List.length_map] at h2
 refine W.skip ?_
 refine W.sq ?_
 refine W.blk ?_
 obtain ⟨y1,hy1⟩:=some_at (xs:=xs) (n:=n) (by omega)
 obtain ⟨y2,hy2⟩:=some_at (xs:=ys) (n:=n) (by omega)
 refine gd 14 25 [[],[],[.x (intT y1)],[],[],[],[.x (intT y2)],[],[]] ?_
 conv=>whnf
 refine ⟨⟨I,I,⟨(by omega),ixl (by assumption)⟩,I,I,I,⟨(by omega),ixl (by assumption)⟩,I,I,I⟩,by kernel_rfl,?_⟩
 refine W.cn ?_
 conv=>whnf
 refine ⟨fun h3=>?_,fun h3=>?_⟩
 replace h3:=ndt h3
 refine g 25 26 [] ?_
 conv=>whnf
 refine ⟨⟨I,I⟩,?_⟩
 refine W.ret ?_
 refine EndsW.rt ?_
 conv=>whnf
 refine ⟨⟨I,I,I⟩,?_,rfl⟩
 rotate_left 1
 replace h3:=ndf h3
 refine W.skip ?_
 refine rg [.i ((↑n:Int) + (1:Int))] ?_
 conv=>whnf
 refine ⟨⟨I,w64 (by omega) (by omega),I,I⟩,?_⟩
 rotate_left 1
 replace h2:=df h2
 simp only [List.length_map] at h2
 refine W.exit ?_
 refine g 0 2 [] ?_
 conv=>whnf
 refine ⟨⟨I,I⟩,?_⟩
 refine W.ret ?_
 refine EndsW.rt ?_
 conv=>whnf
 refine ⟨⟨I,I,I⟩,?_,rfl⟩
 rotate_left 1
 ·exact vbf (fun e=>by subst e; rw [hy1] at hy2; cases hy2; exact h3 rfl)
 ·refine ⟨n + 1,[],[],⟨rfl,⟨rfl,rfl,rfl,I⟩,I,I⟩,?_,?_⟩
  rotate_left 1
  (dsimp only; omega)
  dsimp only
  exact ⟨by omega,take_eq hc hy1 (by rw [hy2]; exact congrArg some (Eq.symm h3))⟩
 ·exact vbt (by rw [take_all (by omega),take_all (by omega)] at hc; exact hc)
theorem c_laws_szTask (x:Task) (left:Int) (hw:taskWf x) (h:left ≤ 1048576) (h0:0 ≤ left):F n_laws_szTask [.val (taskR x),.val (.i left)] (.i (if left - taskSz x < 0 then -1 else left - taskSz x)) [[],[]]:=by
 obtain ⟨hw0,hw1⟩:=hw
 have hz:taskSz x = (x.name.size:Int) + ((x.deps.length:Int)):=rfl
 refine i_laws_szTask ?_
 conv=>whnf
 refine g 0 1 [] ?_
 conv=>whnf
 refine ⟨⟨⟨I,I,I,I⟩,I,I⟩,?_⟩
 refine g 5 10 [.i (left - (↑(ByteArray.size (Task.name x)):Int))] ?_
 conv=>whnf
 refine ⟨⟨I,I,I,I,w64 (by omega) (by omega),I,I⟩,?_⟩
 refine W.sq ?_
 refine g 10 11 [] ?_
 conv=>whnf
 refine ⟨⟨I,I,I⟩,?_⟩
 refine W.cn ?_
 conv=>whnf
 refine ⟨fun h1=>?_,fun h1=>?_⟩
 replace h1:=dt h1
 refine g 11 12 [] ?_
 conv=>whnf
 refine ⟨⟨I,I⟩,?_⟩
 refine W.ret ?_
 refine EndsW.rt ?_
 conv=>whnf
 refine ⟨⟨I,I,I⟩,?_,rfl⟩
 exact vi (by omega)
 replace h1:=df h1
 refine W.skip ?_
 refine g 11 16 [.call (V.i (if left - (↑(ByteArray.size (Task.name x)):Int) - (↑(List.length (Task.deps x)):Int) < (0:Int) then (-1:Int) else left - (↑(ByteArray.size (Task.name x)):Int) - (↑(List.length (Task.deps x)):Int))) ([[],[]])] ?_
 conv=>whnf
 refine ⟨⟨I,I,I,⟨⟨I,I,I⟩,I,⟨⟨I,I⟩,⟨I,I⟩,I⟩,⟨I,I⟩,Go.K.c_laws_szIntS _ _ (by omega) (by omega) (by omega)⟩,I,I⟩,?_⟩
 refine W.sq ?_
 refine g 2 3 [] ?_
 conv=>whnf
 refine ⟨⟨I,I,I⟩,?_⟩
 refine W.cn ?_
 conv=>whnf
 refine ⟨fun h2=>?_,fun h2=>?_⟩
 replace h2:=dt h2
 refine g 16 18 [] ?_
 conv=>whnf
 refine ⟨⟨I,I⟩,?_⟩
 refine W.ret ?_
 refine EndsW.rt ?_
 conv=>whnf
 refine ⟨⟨I,I,I⟩,?_,rfl⟩
 exact vi (by omega)
 replace h2:=df h2
 refine W.skip ?_
 refine g 16 19 [] ?_
 conv=>whnf
 refine ⟨⟨I,I,I⟩,?_⟩
 refine W.ret ?_
 refine EndsW.rt ?_
 conv=>whnf
 refine ⟨⟨I,I,I⟩,?_,rfl⟩
 exact vi (by omega)
theorem c_laws_toTask (x:Task) (h:taskSz x ≤ 1048576):F n_laws_toTask [.val (taskR x)] (taskO x) [[]]:=by
 have hz:taskSz x = (x.name.size:Int) + ((x.deps.length:Int)):=rfl
 refine i_laws_toTask ?_
 conv=>whnf
 refine g 0 1 [] ?_
 conv=>whnf
 refine ⟨⟨⟨I,I,I,I⟩,I,I⟩,?_⟩
 refine g 0 0 [] ?_
 conv=>whnf
 refine ⟨⟨I,I⟩,?_⟩
 refine g 4 7 [] ?_
 conv=>whnf
 refine ⟨⟨I,I,I,⟨I,I⟩,I⟩,?_⟩
 refine g 7 10 [] ?_
 conv=>whnf
 refine ⟨⟨I,I,I,⟨I,I⟩,I⟩,?_⟩
 refine g 10 14 [.call (V.own [false] (List.map intT (Task.deps x))) ([[]])] ?_
 conv=>whnf
 refine ⟨⟨I,I,⟨⟨I,I⟩,I,⟨⟨I,I⟩,I⟩,⟨I,I⟩,Go.K.c_laws_toIntS _ (by omega)⟩,I,⟨I,I⟩,I⟩,?_⟩
 refine g 3 15 [] ?_
 conv=>whnf
 refine ⟨⟨I,⟨I,I,I,I⟩,I⟩,?_⟩
 refine W.ret ?_
 refine EndsW.rt ?_
 conv=>whnf
 refine ⟨⟨I,I,I,I,I⟩,?_,rfl⟩
 rfl
def taskLen (a:Task):Prop:=a.deps.length ≤ 9223372036854775806
theorem taskLen_of {a:Task} (h:taskSz a ≤ 1048576):taskLen a:=by
 simp only [taskSz] at h
 simp only [taskLen]
 exact by omega
theorem c_laws_eqTask (a b:Task) (hl:taskLen a):F n_laws_eqTask [.val (taskR a),.val (taskR b)] (.b (decide (a = b))) [[],[]]:=by
 obtain ⟨a_name,a_cost,a_deps⟩:=a
 obtain ⟨b_name,b_cost,b_deps⟩:=b
 simp only [taskLen] at hl
 refine i_laws_eqTask ?_
 conv=>whnf
 refine g 0 2 [] ?_
 conv=>whnf
 refine ⟨⟨⟨I,I,I,I⟩,⟨I,I,I,I⟩,I,I⟩,?_⟩
 refine W.sq ?_
 refine g 5 9 [] ?_
 conv=>whnf
 refine ⟨⟨I,I,I,I,I,I⟩,?_⟩
 refine W.cn ?_
 conv=>whnf
 refine ⟨fun h1=>?_,fun h1=>?_⟩
 replace h1:=ndt h1
 refine g 9 10 [] ?_
 conv=>whnf
 refine ⟨⟨I,I⟩,?_⟩
 refine W.ret ?_
 refine EndsW.rt ?_
 conv=>whnf
 refine ⟨⟨I,I,I⟩,?_,rfl⟩
 rotate_left 1
 replace h1:=ndf h1
 refine W.skip ?_
 refine W.sq ?_
 refine g 9 14 [] ?_
 conv=>whnf
 refine ⟨⟨I,I,I,I,I,I⟩,?_⟩
 refine W.cn ?_
 conv=>whnf
 refine ⟨fun h2=>?_,fun h2=>?_⟩
 replace h2:=ndt h2
 refine g 14 15 [] ?_
 conv=>whnf
 refine ⟨⟨I,I⟩,?_⟩
 refine W.ret ?_
 refine EndsW.rt ?_
 conv=>whnf
 refine ⟨⟨I,I,I⟩,?_,rfl⟩
 rotate_left 1
 replace h2:=ndf h2
 refine W.skip ?_
 refine W.sq ?_
 refine g 14 20 [.call (V.b (decide (a_deps = b_deps))) ([[],[]])] ?_
 conv=>whnf
 refine ⟨⟨I,I,I,I,⟨⟨I,I,I⟩,I,⟨⟨I,I⟩,⟨I,I⟩,I⟩,⟨I,I⟩,Go.K.c_laws_eqIntS _ _ (by omega)⟩,I,I⟩,?_⟩
 refine W.cn ?_
 conv=>whnf
 refine ⟨fun h3=>?_,fun h3=>?_⟩
 replace h3:=ndt h3
 refine g 2 4 [] ?_
 conv=>whnf
 refine ⟨⟨I,I⟩,?_⟩
 refine W.ret ?_
 refine EndsW.rt ?_
 conv=>whnf
 refine ⟨⟨I,I,I⟩,?_,rfl⟩
 rotate_left 1
 replace h3:=ndf h3
 refine W.skip ?_
 refine g 2 4 [] ?_
 conv=>whnf
 refine ⟨⟨I,I⟩,?_⟩
 refine W.ret ?_
 refine EndsW.rt ?_
 conv=>whnf
 refine ⟨⟨I,I,I⟩,?_,rfl⟩
 rotate_left 1
 all_goals (first | exact vbt (by simp_all; done) | exact vbf (by simp_all; done))
theorem c_laws_szTaskS (xs:List Task) (left:Int) (hl:xs.length ≤ 9223372036854775807) (hs:∀ y ∈ xs,taskWf y) (h:left ≤ 1048576) (h0:0 ≤ left):F n_laws_szTaskS [.val (.t (.slc taskK (xs.map taskT))),.val (.i left)] (.i (if left - (xs.length + sumI taskSz xs) < 0 then -1 else left - (xs.length + sumI taskSz xs))) [[],[]]:=by
 have hnn:=sum_nn taskSz_nn xs
 refine i_laws_szTaskS ?_
 conv=>whnf
 refine g 0 0 [] ?_
 conv=>whnf
 refine ⟨⟨I,I⟩,?_⟩
 refine g 6 10 [.i (left - (↑(List.length (List.map taskT xs)):Int))] ?_
 conv=>whnf
 refine ⟨⟨I,I,I,w64 (by simp only [lens]; omega) (by simp only [lens]; omega),I,I⟩,?_⟩
 refine W.sq ?_
 refine g 10 11 [] ?_
 conv=>whnf
 refine ⟨⟨I,I,I⟩,?_⟩
 refine W.cn ?_
 conv=>whnf
 refine ⟨fun h1=>?_,fun h1=>?_⟩
 replace h1:=dt h1
 simp only [List.length_map] at h1
 refine g 11 12 [] ?_
 conv=>whnf
 refine ⟨⟨I,I⟩,?_⟩
 refine W.ret ?_
 refine EndsW.rt ?_
 conv=>whnf
 refine ⟨⟨I,I,I⟩,?_,rfl⟩
 exact vi (by omega)
 replace h1:=df h1
 simp only [List.length_map] at h1
 refine W.skip ?_
 refine W.sq ?_
 refine g 11 12 [] ?_
 conv=>whnf
 refine ⟨⟨I,I⟩,?_⟩
 refine W.blk ?_
 refine W.lp (fun s (n:Nat)=>⟨[(0,s.s 0),(1,.i (left - xs.length - sumI taskSz (xs.take n))),(5,.i n)],[],[]⟩) (fun (n:Nat)=>n ≤ xs.length ∧ 0 ≤ left - xs.length - sumI taskSz (xs.take n)) (fun (n:Nat)=>xs.length - n) (0) [] [] ⟨rfl,⟨rfl,(congrArg (fun z=>V.t (T.v (Value.int _ z))) (by simp [sumI])),rfl,I⟩,I,I⟩ ?_ ?_
 ·simp [sumI]; omega
 rintro n ⟨hn,hc⟩
 have hq:=sum_nn taskSz_nn (xs.take n)
 have hle:=sum_le taskSz_nn xs (n + 1)
 conv=>whnf
 refine W.sq ?_
 refine g 12 15 [] ?_
 conv=>whnf
 refine ⟨⟨I,I,I,I,I⟩,?_⟩
 refine W.cn ?_
 conv=>whnf
 refine ⟨fun h2=>?_,fun h2=>?_⟩
 replace h2:=dt h2
 simp only [List.length_map] at h2
 refine W.skip ?_
 refine W.sq ?_
 refine W.blk ?_
 obtain ⟨y1,hy1⟩:=some_at (xs:=xs) (n:=n) (by omega)
 have hm1:=hs y1 (List.mem_of_getElem? hy1)
 have hk1:=sum_take (f:=taskSz) hy1
 have hk2:=taskSz_nn y1
 refine g 15 24 [.x (taskT y1),.call (V.i (if left - (↑(List.length xs):Int) - sumI taskSz (List.take n xs) - taskSz y1 < (0:Int) then (-1:Int) else left - (↑(List.length xs):Int) - sumI taskSz (List.take n xs) - taskSz y1)) ([[],[]])] ?_
 conv=>whnf
 refine ⟨⟨I,I,⟨(by omega),ixl (by assumption)⟩,I,I,⟨⟨I,I,I⟩,I,⟨⟨I,I,I,I⟩,⟨I,I⟩,I⟩,⟨I,I⟩,Go.K.c_laws_szTask _ _ (by omega) (by omega) (by omega)⟩,I,I⟩,?_⟩
 refine g 24 25 [] ?_
 conv=>whnf
 refine ⟨⟨I,I,I⟩,?_⟩
 refine W.cn ?_
 conv=>whnf
 refine ⟨fun h3=>?_,fun h3=>?_⟩
 replace h3:=dt h3
 refine g 25 26 [] ?_
 conv=>whnf
 refine ⟨⟨I,I⟩,?_⟩
 refine W.ret ?_
 refine EndsW.rt ?_
 conv=>whnf
 refine ⟨⟨I,I,I⟩,?_,rfl⟩
 exact vi (by omega)
 replace h3:=df h3
 refine W.skip ?_
 refine rg [.i ((↑n:Int) + (1:Int))] ?_
 conv=>whnf
 refine ⟨⟨I,w64 (by omega) (by omega),I,I⟩,?_⟩
 rotate_left 1
 replace h2:=df h2
 simp only [List.length_map] at h2
 refine W.exit ?_
 refine g 5 27 [] ?_
 conv=>whnf
 refine ⟨⟨I,I,I⟩,?_⟩
 refine W.ret ?_
 refine EndsW.rt ?_
 conv=>whnf
 refine ⟨⟨I,I,I⟩,?_,rfl⟩
 rotate_left 1
 ·refine ⟨n + 1,[],[],⟨rfl,⟨rfl,(congrArg (fun z=>V.t (T.v (Value.int _ z))) (by rw [sum_take (by assumption)]; omega)),rfl,I⟩,I,I⟩,?_,?_⟩
  rotate_left 1
  (dsimp only; omega)
  dsimp only
  omega
 ·have e:xs.take n = xs:=take_all (by omega)
  rw [e] at hc ⊢
  exact vi (by split <;> omega)
theorem c_laws_toTaskS (xs:List Task) (h:(xs.length:Int) + sumI taskSz xs ≤ 1048576):F n_laws_toTaskS [.val (.t (.slc taskK (xs.map taskT)))] (.own taskK (xs.map taskT)) [[]]:=by
 have hnn:=sum_nn taskSz_nn xs
 refine i_laws_toTaskS ?_
 conv=>whnf
 refine g 0 0 [] ?_
 conv=>whnf
 refine ⟨⟨I,I⟩,?_⟩
 refine g 5 8 [.n (List.length (List.map taskT xs))] ?_
 conv=>whnf
 refine ⟨⟨I,I,⟨rfl,rfl,(by simp only [lens]; omega)⟩,I,I⟩,?_⟩
 refine W.sq ?_
 refine g 0 0 [] ?_
 conv=>whnf
 refine ⟨⟨I,I⟩,?_⟩
 refine W.blk ?_
 refine W.lp (fun s (n:Nat)=>⟨[(0,s.s 0),(2,s.s 2),(3,s.s 3),(4,.i n)],[(7,[.own taskK (fill taskT (taskT noTask) xs n)])],[]⟩) (fun (n:Nat)=>n ≤ xs.length) (fun (n:Nat)=>xs.length - n) (0) [some 7] [] ⟨rfl,⟨rfl,rfl,rfl,rfl,I⟩,⟨⟨rfl,⟨(congrArg (V.own _) (fill_zero' (by simp) rfl)),I⟩⟩,I⟩,I⟩ (by omega) ?_
 intro n hn
 conv=>whnf
 refine W.sq ?_
 refine g 8 11 [] ?_
 conv=>whnf
 refine ⟨⟨I,I,I,I,I⟩,?_⟩
 refine W.cn ?_
 conv=>whnf
 refine ⟨fun h1=>?_,fun h1=>?_⟩
 replace h1:=dt h1
 simp only [List.length_map] at h1
 refine W.skip ?_
 refine W.sq ?_
 refine W.blk ?_
 obtain ⟨y1,hy1⟩:=some_at (xs:=xs) (n:=n) (by omega)
 have hk1:=sum_mem taskSz_nn (List.mem_of_getElem? hy1)
 refine rg [.x (taskT y1),.call (taskO y1) ([[]]),.n (n),.x (taskT noTask)] ?_
 conv=>whnf
 refine ⟨⟨I,I,I,I,⟨(by omega),ixl (by assumption)⟩,I,⟨⟨I,I⟩,I,⟨⟨I,I,I,I⟩,I⟩,⟨I,I⟩,Go.K.c_laws_toTask _ (by omega)⟩,⟨rfl,(by simp only [lens]; omega)⟩,⟨⟨I,I,I,I⟩,fill_get (by omega)⟩,I⟩,?_⟩
 refine rg [.i ((↑n:Int) + (1:Int))] ?_
 conv=>whnf
 refine ⟨⟨I,w64 (by omega) (by omega),I,I⟩,?_⟩
 rotate_left 1
 replace h1:=df h1
 simp only [List.length_map] at h1
 refine W.exit ?_
 refine g 3 23 [] ?_
 conv=>whnf
 refine ⟨⟨I,I,I⟩,?_⟩
 refine W.ret ?_
 refine EndsW.rt ?_
 conv=>whnf
 refine ⟨⟨I,I,I⟩,?_,rfl⟩
 rotate_left 1
 ·refine ⟨n + 1,[some 7],[],⟨rfl,⟨rfl,rfl,rfl,rfl,I⟩,⟨⟨rfl,⟨(congrArg (V.own _) (fill_set (by assumption))),I⟩⟩,I⟩,I⟩,?_,?_⟩
  rotate_left 1
  (dsimp only; omega)
  dsimp only
  omega
 ·have e:fill taskT (taskT noTask) xs n = xs.map taskT:=fill_all _ _ _ (by omega)
  rw [← e]
theorem c_laws_eqTaskS (xs ys:List Task) (hl:xs.length ≤ 9223372036854775806) (hs:∀ y ∈ xs,taskLen y):F n_laws_eqTaskS [.val (.t (.slc taskK (xs.map taskT))),.val (.t (.slc taskK (ys.map taskT)))] (.b (decide (xs = ys))) [[],[]]:=by
 refine i_laws_eqTaskS ?_
 conv=>whnf
 refine g 0 0 [] ?_
 conv=>whnf
 refine ⟨⟨I,I⟩,?_⟩
 refine W.sq ?_
 refine g 6 10 [] ?_
 conv=>whnf
 refine ⟨⟨I,I,I,I,I,I⟩,?_⟩
 refine W.cn ?_
 conv=>whnf
 refine ⟨fun h1=>?_,fun h1=>?_⟩
 replace h1:=ndt h1
 simp only [List.length_map] at h1
 refine g 10 11 [] ?_
 conv=>whnf
 refine ⟨⟨I,I⟩,?_⟩
 refine W.ret ?_
 refine EndsW.rt ?_
 conv=>whnf
 refine ⟨⟨I,I,I⟩,?_,rfl⟩
 rotate_left 1
 replace h1:=ndf h1
 simp only [List.length_map] at h1
 refine W.skip ?_
 refine W.sq ?_
 refine g 10 11 [] ?_
 conv=>whnf
 refine ⟨⟨I,I⟩,?_⟩
 refine W.blk ?_
 rotate_left 1
 ·exact vbf (fun e=>h1 (by rw [e]))
 refine W.lp (fun s (n:Nat)=>⟨[(0,s.s 0),(1,s.s 1),(5,.i n)],[],[]⟩) (fun (n:Nat)=>n ≤ xs.length ∧ xs.take n = ys.take n) (fun (n:Nat)=>xs.length - n) (0) [] [] ⟨rfl,⟨rfl,rfl,rfl,I⟩,I,I⟩ (by simp) ?_
 rintro n ⟨hn,hc⟩
 conv=>whnf
 refine W.sq ?_
 refine g 11 14 [] ?_
 conv=>whnf
 refine ⟨⟨I,I,I,I,I⟩,?_⟩
 refine W.cn ?_
 conv=>whnf
 refine ⟨fun h2=>?_,fun h2=>?_⟩
 replace h2:=dt h2
 simp only [List.length_map] at h2
 refine W.skip ?_
 refine W.sq ?_
 refine W.blk ?_
 obtain ⟨y1,hy1⟩:=some_at (xs:=xs) (n:=n) (by omega)
 have hm1:=hs y1 (List.mem_of_getElem? hy1)
 obtain ⟨y2,hy2⟩:=some_at (xs:=ys) (n:=n) (by omega)
 refine gd 14 26 [[],[],[.x (taskT y1)],[],[],[],[.x (taskT y2)],[],[.call (V.b (decide (y1 = y2))) ([[],[]])],[]] ?_
 conv=>whnf
 refine ⟨⟨I,I,⟨(by omega),ixl (by assumption)⟩,I,I,I,⟨(by omega),ixl (by assumption)⟩,I,⟨⟨I,I,I⟩,I,⟨⟨I,I,I,I⟩,⟨I,I,I,I⟩,I⟩,⟨I,I⟩,Go.K.c_laws_eqTask _ _ (by omega)⟩,I,I⟩,by kernel_rfl,?_⟩
 refine W.cn ?_
 conv=>whnf
 refine ⟨fun h3=>?_,fun h3=>?_⟩
 replace h3:=ndt h3
 refine g 26 27 [] ?_
 conv=>whnf
 refine ⟨⟨I,I⟩,?_⟩
 refine W.ret ?_
 refine EndsW.rt ?_
 conv=>whnf
 refine ⟨⟨I,I,I⟩,?_,rfl⟩
 rotate_left 1
 replace h3:=ndf h3
 refine W.skip ?_
 refine rg [.i ((↑n:Int) + (1:Int))] ?_
 conv=>whnf
 refine ⟨⟨I,w64 (by omega) (by omega),I,I⟩,?_⟩
 rotate_left 1
 replace h2:=df h2
 simp only [List.length_map] at h2
 refine W.exit ?_
 refine g 0 2 [] ?_
 conv=>whnf
 refine ⟨⟨I,I⟩,?_⟩
 refine W.ret ?_
 refine EndsW.rt ?_
 conv=>whnf
 refine ⟨⟨I,I,I⟩,?_,rfl⟩
 rotate_left 1
 ·exact vbf (fun e=>by subst e; rw [hy1] at hy2; cases hy2; exact h3 rfl)
 ·refine ⟨n + 1,[],[],⟨rfl,⟨rfl,rfl,rfl,I⟩,I,I⟩,?_,?_⟩
  rotate_left 1
  (dsimp only; omega)
  dsimp only
  exact ⟨by omega,take_eq hc hy1 (by rw [hy2]; exact congrArg some (Eq.symm h3))⟩
 ·exact vbt (by rw [take_all (by omega),take_all (by omega)] at hc; exact hc)
theorem c_laws_szPlan (x:Plan) (left:Int) (hw:planWf x) (h:left ≤ 1048576) (h0:0 ≤ left):F n_laws_szPlan [.val (planR x),.val (.i left)] (.i (if left - planSz x < 0 then -1 else left - planSz x)) [[],[]]:=by
 have hn0:=sum_nn taskSz_nn x.tasks
 obtain ⟨hw0,hw1⟩:=hw
 have hz:planSz x = ((x.tasks.length:Int) + sumI taskSz x.tasks):=rfl
 refine i_laws_szPlan ?_
 conv=>whnf
 refine g 0 1 [] ?_
 conv=>whnf
 refine ⟨⟨⟨I,I⟩,I,I⟩,?_⟩
 refine g 5 9 [.call (V.i (if left - ((↑(List.length (Plan.tasks x)):Int) + sumI taskSz (Plan.tasks x)) < (0:Int) then (-1:Int) else left - ((↑(List.length (Plan.tasks x)):Int) + sumI taskSz (Plan.tasks x)))) ([[],[]])] ?_
 conv=>whnf
 refine ⟨⟨I,I,I,⟨⟨I,I,I⟩,I,⟨⟨I,I⟩,⟨I,I⟩,I⟩,⟨I,I⟩,Go.K.c_laws_szTaskS _ _ (by omega) (by omega) (by omega) (by omega)⟩,I,I⟩,?_⟩
 refine W.sq ?_
 refine g 2 3 [] ?_
 conv=>whnf
 refine ⟨⟨I,I,I⟩,?_⟩
 refine W.cn ?_
 conv=>whnf
 refine ⟨fun h1=>?_,fun h1=>?_⟩
 replace h1:=dt h1
 refine g 9 11 [] ?_
 conv=>whnf
 refine ⟨⟨I,I⟩,?_⟩
 refine W.ret ?_
 refine EndsW.rt ?_
 conv=>whnf
 refine ⟨⟨I,I,I⟩,?_,rfl⟩
 exact vi (by omega)
 replace h1:=df h1
 refine W.skip ?_
 refine g 9 12 [] ?_
 conv=>whnf
 refine ⟨⟨I,I,I⟩,?_⟩
 refine W.ret ?_
 refine EndsW.rt ?_
 conv=>whnf
 refine ⟨⟨I,I,I⟩,?_,rfl⟩
 rfl
theorem c_laws_toPlan (x:Plan) (h:planSz x ≤ 1048576):F n_laws_toPlan [.val (planR x)] (planO x) [[]]:=by
 have hn0:=sum_nn taskSz_nn x.tasks
 have hz:planSz x = ((x.tasks.length:Int) + sumI taskSz x.tasks):=rfl
 refine i_laws_toPlan ?_
 conv=>whnf
 refine g 0 1 [] ?_
 conv=>whnf
 refine ⟨⟨⟨I,I⟩,I,I⟩,?_⟩
 refine g 0 0 [] ?_
 conv=>whnf
 refine ⟨⟨I,I⟩,?_⟩
 refine g 4 8 [.call (V.own taskK (List.map taskT (Plan.tasks x))) ([[]])] ?_
 conv=>whnf
 refine ⟨⟨I,I,⟨⟨I,I⟩,I,⟨⟨I,I⟩,I⟩,⟨I,I⟩,Go.K.c_laws_toTaskS _ (by omega)⟩,I,⟨I,I⟩,I⟩,?_⟩
 refine g 3 9 [] ?_
 conv=>whnf
 refine ⟨⟨I,⟨I,I⟩,I⟩,?_⟩
 refine W.ret ?_
 refine EndsW.rt ?_
 conv=>whnf
 refine ⟨⟨I,I,I⟩,?_,rfl⟩
 rfl
def planLen (a:Plan):Prop:=a.tasks.length ≤ 9223372036854775806 ∧ (∀ y ∈ a.tasks,taskLen y)
theorem planLen_of {a:Plan} (h:planSz a ≤ 1048576):planLen a:=by
 have:=sum_nn taskSz_nn a.tasks
 simp only [planSz] at h
 simp only [planLen]
 exact ⟨by omega,fun y hy=>taskLen_of (by have:=sum_mem taskSz_nn hy; omega)⟩
theorem c_laws_eqPlan (a b:Plan) (hl:planLen a):F n_laws_eqPlan [.val (planR a),.val (planR b)] (.b (decide (a = b))) [[],[]]:=by
 obtain ⟨a_tasks⟩:=a
 obtain ⟨b_tasks⟩:=b
 simp only [planLen] at hl
 obtain ⟨hl0,hl1⟩:=hl
 refine i_laws_eqPlan ?_
 conv=>whnf
 refine g 0 2 [] ?_
 conv=>whnf
 refine ⟨⟨⟨I,I⟩,⟨I,I⟩,I,I⟩,?_⟩
 refine W.sq ?_
 refine g 5 10 [.call (V.b (decide (a_tasks = b_tasks))) ([[],[]])] ?_
 conv=>whnf
 refine ⟨⟨I,I,I,I,⟨⟨I,I,I⟩,I,⟨⟨I,I⟩,⟨I,I⟩,I⟩,⟨I,I⟩,Go.K.c_laws_eqTaskS _ _ (by omega) (by omega)⟩,I,I⟩,?_⟩
 refine W.cn ?_
 conv=>whnf
 refine ⟨fun h1=>?_,fun h1=>?_⟩
 replace h1:=ndt h1
 refine g 2 4 [] ?_
 conv=>whnf
 refine ⟨⟨I,I⟩,?_⟩
 refine W.ret ?_
 refine EndsW.rt ?_
 conv=>whnf
 refine ⟨⟨I,I,I⟩,?_,rfl⟩
 rotate_left 1
 replace h1:=ndf h1
 refine W.skip ?_
 refine g 2 4 [] ?_
 conv=>whnf
 refine ⟨⟨I,I⟩,?_⟩
 refine W.ret ?_
 refine EndsW.rt ?_
 conv=>whnf
 refine ⟨⟨I,I,I⟩,?_,rfl⟩
 rotate_left 1
 all_goals (first | exact vbt (by simp_all; done) | exact vbf (by simp_all; done))
end Go.K
end
section
set_option linter.unusedVariables false
set_option linter.unusedSimpArgs false
set_option maxHeartbeats 4000000
set_option maxRecDepth 20000
open Go Go.Tm Go.Proofs
namespace Go.K
theorem c_laws_markStringS (xs:List ByteArray) (k:Int) (hl:xs.length ≤ 9223372036854775806) (h0:0 ≤ k) (hk:k + xs.length ≤ 1099511627776):F n_laws_markStringS [.bor (.own [false] (xs.map strT)),.val (.i k)] (.i (k + xs.length)) [[.own [false] ((mkL (fun k _=>markT k) (fun _=>1) k xs).map strT)],[]]:=by
 refine i_laws_markStringS ?_
 conv=>whnf
 refine g 0 0 [] ?_
 conv=>whnf
 refine ⟨⟨I,I⟩,?_⟩
 refine W.sq ?_
 refine g 0 0 [] ?_
 conv=>whnf
 refine ⟨⟨I,I⟩,?_⟩
 refine W.blk ?_
 refine W.lp (fun s (n:Nat)=>⟨[(0,s.s 0),(1,.i (k + n)),(4,s.s 4),(5,.i n)],[(20,[.own [false] ((mkN (fun k _=>markT k) (fun _=>1) k xs n).map strT)])],[]⟩) (fun (n:Nat)=>n ≤ xs.length) (fun (n:Nat)=>xs.length - n) (0) [some 20] [] ⟨rfl,⟨rfl,(congrArg (fun z=>V.t (T.v (Value.int _ z))) (by simp [sumI])),rfl,rfl,I⟩,⟨⟨rfl,⟨rfl,I⟩⟩,I⟩,I⟩ (by omega) ?_
 intro n hn
 have hx:=mkN_len (fun k _=>markT k) (fun _=>1) k xs n
 have hs1:∀ x,xs[n]? = some x → ((mkN (fun k _=>markT k) (fun _=>1) k xs n).map strT).set n (strT (markT (k + n))) = (mkN (fun k _=>markT k) (fun _=>1) k xs (n + 1)).map strT:=fun x hx=>by
  have:=mkN_setm (f:=(fun k _=>markT k)) (c:=(fun _=>1)) (g:=strT) (k:=k) hx
  rw [sum_one,List.length_take,Nat.min_eq_left hn] at this; exact this
 conv=>whnf
 refine W.sq ?_
 refine g 6 9 [] ?_
 conv=>whnf
 refine ⟨⟨I,I,I,I,I⟩,?_⟩
 refine W.cn ?_
 conv=>whnf
 refine ⟨fun h1=>?_,fun h1=>?_⟩
 replace h1:=dt h1
 simp only [List.length_map] at h1
 refine W.skip ?_
 refine W.sq ?_
 refine W.blk ?_
 obtain ⟨y1,hy1⟩:=some_at (xs:=xs) (n:=n) (by omega)
 refine g 9 17 [.call (V.s (markT (k + (↑n:Int)))) ([[]]),.n (n),.x (strT y1)] ?_
 conv=>whnf
 refine ⟨⟨I,I,I,⟨⟨I,I⟩,I,⟨⟨I,I⟩,I⟩,⟨I,I⟩,Go.K.c_laws_markText _ (by omega)⟩,⟨rfl,(by simp only [lens]; omega)⟩,⟨⟨I,I⟩,mkN_getm (by assumption)⟩,I⟩,?_⟩
 refine rg [.i (k + (↑n:Int) + (1:Int))] ?_
 conv=>whnf
 refine ⟨⟨I,w64 (by omega) (by omega),I,I⟩,?_⟩
 refine rg [.i ((↑n:Int) + (1:Int))] ?_
 conv=>whnf
 refine ⟨⟨I,w64 (by omega) (by omega),I,I⟩,?_⟩
 rotate_left 1
 replace h1:=df h1
 simp only [List.length_map] at h1
 refine W.exit ?_
 refine g 5 20 [] ?_
 conv=>whnf
 refine ⟨⟨I,I,I⟩,?_⟩
 refine W.ret ?_
 refine EndsW.rt ?_
 conv=>whnf
 refine ⟨⟨I,I,I⟩,?_,?_⟩
 exact vi (by omega)
 rotate_left 1
 ·refine ⟨n + 1,[some 20],[],⟨rfl,⟨rfl,(congrArg (fun z=>V.t (T.v (Value.int _ z))) (by omega)),rfl,rfl,I⟩,⟨⟨rfl,⟨(congrArg (V.own _) (hs1 _ (by assumption))),I⟩⟩,I⟩,I⟩,?_,?_⟩
  rotate_left 1
  (dsimp only; omega)
  dsimp only
  omega
 ·have e:=mkN_all (fun k _=>markT k) (fun _=>1) k xs (n:=n) (by omega)
  rw [show n = xs.length by omega] at e ⊢
  rw [e]
theorem c_laws_heldStringS (xs:List ByteArray) (k:Int) (hl:xs.length ≤ 9223372036854775806) (h0:0 ≤ k) (hk:k + xs.length ≤ 1099511627776):F n_laws_heldStringS [.val (.t (.slc [false] ((mkL (fun k _=>markT k) (fun _=>1) k xs).map strT))),.val (.i k)] (.i (k + xs.length)) [[],[]]:=by
 have hx:=mkL_len (fun k _=>markT k) (fun _=>1) k xs
 refine i_laws_heldStringS ?_
 conv=>whnf
 refine g 0 0 [] ?_
 conv=>whnf
 refine ⟨⟨I,I⟩,?_⟩
 refine W.sq ?_
 refine g 0 0 [] ?_
 conv=>whnf
 refine ⟨⟨I,I⟩,?_⟩
 refine W.blk ?_
 refine W.lp (fun s (n:Nat)=>⟨[(0,s.s 0),(1,.i (k + n)),(5,.i n)],[],[]⟩) (fun (n:Nat)=>n ≤ xs.length) (fun (n:Nat)=>xs.length - n) (0) [] [] ⟨rfl,⟨rfl,(congrArg (fun z=>V.t (T.v (Value.int _ z))) (by simp [sumI])),rfl,I⟩,I,I⟩ (by omega) ?_
 intro n hn
 have hs1:∀ x,xs[n]? = some x → (mkL (fun k _=>markT k) (fun _=>1) k xs)[n]? = some (markT (k + n)):=fun x hx=>by
  have:=mkL_get (f:=(fun k _=>markT k)) (c:=(fun _=>1)) (k:=k) hx
  rw [sum_one,List.length_take,Nat.min_eq_left hn] at this; exact this
 conv=>whnf
 refine W.sq ?_
 refine g 6 9 [] ?_
 conv=>whnf
 refine ⟨⟨I,I,I,I,I⟩,?_⟩
 refine W.cn ?_
 conv=>whnf
 refine ⟨fun h1=>?_,fun h1=>?_⟩
 replace h1:=dt h1
 simp only [List.length_map] at h1
 refine W.skip ?_
 refine W.sq ?_
 refine W.blk ?_
 refine W.sq ?_
 obtain ⟨y1,hy1⟩:=some_at (xs:=xs) (n:=n) (by omega)
 have hk1:=hs1 _ hy1
 refine gd 9 18 [[],[],[.x (strT (markT (k + (↑n:Int))))],[],[],[.call (V.s (markT (k + (↑n:Int)))) ([[]])],[]] ?_
 conv=>whnf
 refine ⟨⟨I,I,⟨(by omega),ixl (by assumption)⟩,I,I,⟨⟨I,I⟩,I,⟨⟨I,I⟩,I⟩,⟨I,I⟩,Go.K.c_laws_markText _ (by omega)⟩,I,I⟩,by kernel_rfl,?_⟩
 refine W.cn ?_
 conv=>whnf
 refine ⟨noT (notF rfl),fun _=>?_⟩
 refine W.skip ?_
 refine rg [.i (k + (↑n:Int) + (1:Int))] ?_
 conv=>whnf
 refine ⟨⟨I,w64 (by omega) (by omega),I,I⟩,?_⟩
 refine rg [.i ((↑n:Int) + (1:Int))] ?_
 conv=>whnf
 refine ⟨⟨I,w64 (by omega) (by omega),I,I⟩,?_⟩
 rotate_left 1
 replace h1:=df h1
 simp only [List.length_map] at h1
 refine W.exit ?_
 refine g 5 22 [] ?_
 conv=>whnf
 refine ⟨⟨I,I,I⟩,?_⟩
 refine W.ret ?_
 refine EndsW.rt ?_
 conv=>whnf
 refine ⟨⟨I,I,I⟩,?_,rfl⟩
 exact vi (by omega)
 refine ⟨n + 1,[],[],⟨rfl,⟨rfl,(congrArg (fun z=>V.t (T.v (Value.int _ z))) (by omega)),rfl,I⟩,I,I⟩,?_,?_⟩
 rotate_left 1
 (dsimp only; omega)
 dsimp only
 omega
end Go.K
end
section
set_option linter.unusedVariables false
set_option linter.unusedSimpArgs false
set_option maxHeartbeats 4000000
set_option maxRecDepth 20000
open Go Go.Tm Go.Proofs
namespace Go.K
def eights (xs:List ByteArray):Prop:=(∀ s ∈ xs,s.size = 8) ∧ xs.length ≤ 8
instance (xs:List ByteArray):Decidable (eights xs):=by unfold eights; infer_instance
theorem eights_no {xs:List ByteArray} {n:Nat} {y:ByteArray} (hy:xs[n]? = some y) (h:¬ (y.size:Int) = 8):¬ eights xs:=fun e=>h (by have:=e.1 y (List.mem_of_getElem? hy); omega)
theorem all_take {α:Type} {p:α → Prop} {xs:List α} {n:Nat} {y:α} (h:∀ s ∈ xs.take n,p s) (hy:xs[n]? = some y) (hp:p y):∀ s ∈ xs.take (n + 1),p s:=fun s hs=>by
 rw [List.take_add_one,hy] at hs
 rcases List.mem_append.1 hs with hs | hs
 ·exact h s hs
 ·simp at hs; subst hs; exact hp
theorem all_done {α:Type} {p:α → Prop} {xs:List α} {n:Nat} (h:∀ s ∈ xs.take n,p s) (hn:xs.length ≤ n):∀ s ∈ xs,p s:=by rwa [take_all hn] at h
theorem c_impl_eights (xs:List ByteArray) (hl:xs.length ≤ 9223372036854775806):F n_impl_eights [.val (.t (strs xs))] (.b (decide (eights xs))) [[]]:=by
 refine i_impl_eights ?_
 conv=>whnf
 refine g 0 0 [] ?_
 conv=>whnf
 refine ⟨⟨I,I⟩,?_⟩
 refine W.sq ?_
 refine g 0 0 [] ?_
 conv=>whnf
 refine ⟨⟨I,I,I,I⟩,?_⟩
 refine W.blk ?_
 refine W.lp (fun s (n:Nat)=>⟨[(0,s.s 0),(5,s.s 5),(6,s.s 6),(7,.i n)],[],[]⟩) (fun (n:Nat)=>n ≤ xs.length ∧ ∀ s ∈ xs.take n,s.size = 8) (fun (n:Nat)=>xs.length - n) (0) [] [] ⟨rfl,⟨rfl,rfl,rfl,rfl,I⟩,I,I⟩ (by simp) ?_
 rintro n ⟨hn,hc⟩
 conv=>whnf
 refine g 0 0 [] ?_
 conv=>whnf
 refine ⟨⟨I,I⟩,?_⟩
 refine W.sq ?_
 refine W.cn ?_
 conv=>whnf
 refine ⟨fun h1=>?_,fun h1=>?_⟩
 replace h1:=dt h1
 simp only [List.length_map] at h1
 refine W.skip ?_
 refine W.sq ?_
 refine W.blk ?_
 obtain ⟨y1,hy1⟩:=some_at (xs:=xs) (n:=n) (by omega)
 refine g 8 11 [.x (strT y1)] ?_
 conv=>whnf
 refine ⟨⟨⟨(by omega),ixl (by assumption)⟩,I,I,I⟩,?_⟩
 refine g 11 13 [] ?_
 conv=>whnf
 refine ⟨⟨I,I,I,I⟩,?_⟩
 refine W.cn ?_
 conv=>whnf
 refine ⟨fun h2=>?_,fun h2=>?_⟩
 replace h2:=ndt h2
 refine g 13 14 [] ?_
 conv=>whnf
 refine ⟨⟨I,I⟩,?_⟩
 refine W.ret ?_
 refine EndsW.rt ?_
 conv=>whnf
 refine ⟨⟨I,I,I⟩,?_,rfl⟩
 rotate_left 1
 replace h2:=ndf h2
 refine W.skip ?_
 refine rg [.i ((↑n:Int) + (1:Int))] ?_
 conv=>whnf
 refine ⟨⟨w64 (by omega) (by omega),I,I⟩,?_⟩
 rotate_left 1
 replace h1:=df h1
 simp only [List.length_map] at h1
 refine W.exit ?_
 refine g 5 18 [] ?_
 conv=>whnf
 refine ⟨⟨I,I,I,I,I⟩,?_⟩
 refine W.ret ?_
 refine EndsW.rt ?_
 conv=>whnf
 refine ⟨⟨I,I,I⟩,?_,rfl⟩
 rotate_left 1
 ·exact vbf (eights_no hy1 (by assumption))
 ·refine ⟨n + 1,[],[],⟨rfl,⟨rfl,rfl,rfl,rfl,I⟩,I,I⟩,?_,?_⟩
  rotate_left 1
  (dsimp only; omega)
  dsimp only
  exact ⟨by omega,all_take hc hy1 (by omega)⟩
 ·exact vbd ⟨fun e=>⟨all_done hc (by omega),by simp only [List.length_map] at e; omega⟩,fun e=>by have:=e.2; simp only [List.length_map]; omega⟩
theorem c_spec_l2InputsOk (xs:List ByteArray) (hl:xs.length ≤ 9223372036854775806):F n_spec_l2InputsOk [.val (.t (strs xs))] (.b (decide (eights xs))) [[]]:=by
 refine i_spec_l2InputsOk ?_
 conv=>whnf
 refine g 0 0 [] ?_
 conv=>whnf
 refine ⟨⟨I,I⟩,?_⟩
 refine W.sq ?_
 refine g 0 0 [] ?_
 conv=>whnf
 refine ⟨⟨I,I⟩,?_⟩
 refine W.blk ?_
 refine W.lp (fun s (n:Nat)=>⟨[(0,s.s 0),(3,.i n)],[],[]⟩) (fun (n:Nat)=>n ≤ xs.length ∧ ∀ s ∈ xs.take n,s.size = 8) (fun (n:Nat)=>xs.length - n) (0) [] [] ⟨rfl,⟨rfl,rfl,I⟩,I,I⟩ (by simp) ?_
 rintro n ⟨hn,hc⟩
 conv=>whnf
 refine W.sq ?_
 refine g 5 7 [] ?_
 conv=>whnf
 refine ⟨⟨I,I,I,I,I⟩,?_⟩
 refine W.cn ?_
 conv=>whnf
 refine ⟨fun h1=>?_,fun h1=>?_⟩
 replace h1:=dt h1
 simp only [List.length_map] at h1
 refine W.skip ?_
 refine W.sq ?_
 refine W.blk ?_
 obtain ⟨y1,hy1⟩:=some_at (xs:=xs) (n:=n) (by omega)
 refine g 7 15 [.x (strT y1)] ?_
 conv=>whnf
 refine ⟨⟨I,I,⟨(by omega),ixl (by assumption)⟩,I,I,I,I⟩,?_⟩
 refine W.cn ?_
 conv=>whnf
 refine ⟨fun h2=>?_,fun h2=>?_⟩
 replace h2:=ndt h2
 refine g 15 16 [] ?_
 conv=>whnf
 refine ⟨⟨I,I⟩,?_⟩
 refine W.ret ?_
 refine EndsW.rt ?_
 conv=>whnf
 refine ⟨⟨I,I,I⟩,?_,rfl⟩
 rotate_left 1
 replace h2:=ndf h2
 refine W.skip ?_
 refine rg [.i ((↑n:Int) + (1:Int))] ?_
 conv=>whnf
 refine ⟨⟨I,w64 (by omega) (by omega),I,I⟩,?_⟩
 rotate_left 1
 replace h1:=df h1
 simp only [List.length_map] at h1
 refine W.exit ?_
 refine g 7 19 [] ?_
 conv=>whnf
 refine ⟨⟨I,I,I,I,I⟩,?_⟩
 refine W.ret ?_
 refine EndsW.rt ?_
 conv=>whnf
 refine ⟨⟨I,I,I⟩,?_,rfl⟩
 rotate_left 1
 ·exact vbf (eights_no hy1 (by assumption))
 ·refine ⟨n + 1,[],[],⟨rfl,⟨rfl,rfl,I⟩,I,I⟩,?_,?_⟩
  rotate_left 1
  (dsimp only; omega)
  dsimp only
  exact ⟨by omega,all_take hc hy1 (by omega)⟩
 ·exact vbd ⟨fun e=>⟨all_done hc (by omega),by simp only [List.length_map] at e; omega⟩,fun e=>by have:=e.2; simp only [List.length_map]; omega⟩
theorem c_spec_l2LeaseOk (n:Int):F n_spec_l2LeaseOk [.val (.i n)] (.b (decide (1 ≤ n ∧ n ≤ 300000000))) [[]]:=by
 refine i_spec_l2LeaseOk ?_
 conv=>whnf
 refine g 0 0 [] ?_
 conv=>whnf
 refine ⟨⟨I,I⟩,?_⟩
 refine g 0 1 [.call (V.b (decide ((1:Int) ≤ n ∧ n ≤ (300000000:Int)))) ([[],[],[]])] ?_
 conv=>whnf
 refine ⟨⟨I,⟨⟨I,I,I,I⟩,I,⟨⟨I,I⟩,⟨I,I⟩,⟨I,I⟩,I⟩,⟨I,I⟩,Go.K.c_spec_l2In _ _ _⟩,I,I⟩,?_⟩
 refine W.ret ?_
 refine EndsW.rt ?_
 conv=>whnf
 refine ⟨⟨I,I,I⟩,?_,rfl⟩
 rfl
end Go.K
end
section
set_option linter.unusedVariables false
set_option linter.unusedSimpArgs false
set_option maxHeartbeats 4000000
set_option maxRecDepth 20000
open Go Go.Tm Go.Proofs Classical
namespace Go.K
def plainB (s:ByteArray):Prop:=(∀ (n:Nat) (c:UInt8),s[n]? = some c → 33 ≤ c.toNat ∧ c.toNat ≤ 126) ∧ 1 ≤ s.size ∧ s.size ≤ 30
theorem plain_no {s:ByteArray} {n:Nat} {c:UInt8} (h:s[n]? = some c) (hc:¬ (33 ≤ (c.toNat:Int) ∧ (c.toNat:Int) ≤ 126)):¬ plainB s:=fun e=>hc (by have:=e.1 n c h; omega)
theorem plain_step {s:ByteArray} {n:Nat} {c:UInt8} (hn:∀ (m:Nat) (c:UInt8),m < n → s[m]? = some c → 33 ≤ c.toNat ∧ c.toNat ≤ 126) (h:s[n]? = some c) (hc:33 ≤ (c.toNat:Int) ∧ (c.toNat:Int) ≤ 126):∀ (m:Nat) (c:UInt8),m < n + 1 → s[m]? = some c → 33 ≤ c.toNat ∧ c.toNat ≤ 126:=fun m d hm hd=>by
 by_cases e:m = n
 ·subst e; rw [h] at hd; cases hd; omega
 ·exact hn m d (by omega) hd
theorem ba_some {s:ByteArray} {n:Nat} {c:UInt8} (h:s[n]? = some c):n < s.size:=by
 by_cases hn:n < s.size
 ·exact hn
 ·rw [getElem?_neg s n hn] at h; cases h
theorem c_impl_plain (s:ByteArray) (hs:s.size ≤ 9223372036854775807):F n_impl_plain [.val (.s s)] (.b (decide (plainB s))) [[]]:=by
 refine i_impl_plain ?_
 conv=>whnf
 refine g 0 0 [] ?_
 conv=>whnf
 refine ⟨⟨I,I⟩,?_⟩
 refine W.sq ?_
 refine g 0 0 [] ?_
 conv=>whnf
 refine ⟨⟨I,I⟩,?_⟩
 refine W.blk ?_
 refine W.lp (fun s (n:Nat)=>⟨[(0,s.s 0),(3,.i n)],[],[]⟩) (fun (n:Nat)=>n ≤ s.size ∧ ∀ (m:Nat) (c:UInt8),m < n → s[m]? = some c → 33 ≤ c.toNat ∧ c.toNat ≤ 126) (fun (n:Nat)=>s.size - n) (0) [] [] ⟨rfl,⟨rfl,rfl,I⟩,I,I⟩ (by simp) ?_
 rintro n ⟨hn,hc⟩
 conv=>whnf
 refine W.sq ?_
 refine g 5 7 [] ?_
 conv=>whnf
 refine ⟨⟨I,I,I,I,I⟩,?_⟩
 refine W.cn ?_
 conv=>whnf
 refine ⟨fun h1=>?_,fun h1=>?_⟩
 replace h1:=dt h1
 refine W.skip ?_
 refine W.sq ?_
 refine W.blk ?_
 obtain ⟨y1,hy1,hb1⟩:=byte_at (s:=s) (n:=n) (by omega)
 by_cases h2:(↑(UInt8.toNat y1):Int) < (33:Int)
 refine g 7 19 [.i ((↑(UInt8.toNat y1):Int)),.b (true),.b (true),.b (true),.b (true),.b (true)] ?_
 conv=>whnf
 refine ⟨⟨I,I,⟨(by omega),ixb (by assumption)⟩,I,I,dT (by omega),dT (by omega),dT (by omega),dT (by omega),dT (by omega),I⟩,?_⟩
 refine W.cn ?_
 conv=>whnf
 refine ⟨fun _=>?_,noF (rfl)⟩
 refine g 19 20 [] ?_
 conv=>whnf
 refine ⟨⟨I,I⟩,?_⟩
 refine W.ret ?_
 refine EndsW.rt ?_
 conv=>whnf
 refine ⟨⟨I,I,I⟩,?_,rfl⟩
 rotate_left 1
 refine g 7 19 [.i ((↑(UInt8.toNat y1):Int)),.b (false),.b (false),.b (false),.i ((↑(UInt8.toNat y1):Int)),.b (false),.b (false)] ?_
 conv=>whnf
 refine ⟨⟨I,I,⟨(by omega),ixb (by assumption)⟩,I,I,⟨dF (by omega),I⟩,⟨dF (by omega),I⟩,⟨dF (by omega),(by omega),ixb (by assumption)⟩,⟨dF (by omega),I⟩,dF (by omega),I⟩,?_⟩
 refine W.cn ?_
 conv=>whnf
 refine ⟨fun h3=>?_,fun h3=>?_⟩
 replace h3:=dt h3
 refine g 19 20 [] ?_
 conv=>whnf
 refine ⟨⟨I,I⟩,?_⟩
 refine W.ret ?_
 refine EndsW.rt ?_
 conv=>whnf
 refine ⟨⟨I,I,I⟩,?_,rfl⟩
 rotate_left 1
 replace h3:=df h3
 refine W.skip ?_
 refine rg [.i ((↑n:Int) + (1:Int))] ?_
 conv=>whnf
 refine ⟨⟨I,w64 (by omega) (by omega),I,I⟩,?_⟩
 rotate_left 1
 replace h1:=df h1
 refine W.exit ?_
 by_cases h2:(1:Int) ≤ (↑(ByteArray.size s):Int)
 refine g 7 28 [.b (true),.b (true),.b (true),.b (true)] ?_
 conv=>whnf
 refine ⟨⟨I,I,I,I,⟨dT (by omega),I⟩,⟨dT (by omega),I⟩,⟨dT (by omega),I⟩,dT (by omega),I,I⟩,?_⟩
 refine W.ret ?_
 refine EndsW.rt ?_
 conv=>whnf
 refine ⟨⟨I,I,I⟩,?_,rfl⟩
 rotate_left 1
 refine g 7 28 [.b (false),.b (false),.b (false),.b (false)] ?_
 conv=>whnf
 refine ⟨⟨I,I,I,I,dF (by omega),dF (by omega),dF (by omega),dF (by omega),I,I⟩,?_⟩
 refine W.ret ?_
 refine EndsW.rt ?_
 conv=>whnf
 refine ⟨⟨I,I,I⟩,?_,rfl⟩
 rotate_left 1
 ·exact vbf (plain_no hy1 (by omega))
 ·exact vbf (plain_no hy1 (by omega))
 ·refine ⟨n + 1,[],[],⟨rfl,⟨rfl,rfl,I⟩,I,I⟩,?_,?_⟩
  rotate_left 1
  (dsimp only; omega)
  dsimp only
  exact ⟨by omega,plain_step hc hy1 (by omega)⟩
 ·exact vbd ⟨fun e=>⟨fun m c h=>hc m c (by have:=ba_some h; omega) h,by omega,by omega⟩,fun e=>by have:=e.2; omega⟩
 ·exact vbf (fun e=>by have:=e.2; omega)
theorem c_spec_l1NameOk (s:ByteArray) (hs:s.size ≤ 9223372036854775807):F n_spec_l1NameOk [.val (.s s)] (.b (decide (plainB s))) [[]]:=by
 refine i_spec_l1NameOk ?_
 conv=>whnf
 refine g 0 0 [] ?_
 conv=>whnf
 refine ⟨⟨I,I⟩,?_⟩
 refine W.sq ?_
 refine g 0 0 [] ?_
 conv=>whnf
 refine ⟨⟨I,I⟩,?_⟩
 refine W.blk ?_
 refine W.lp (fun s (n:Nat)=>⟨[(0,s.s 0),(3,.i n)],[],[]⟩) (fun (n:Nat)=>n ≤ s.size ∧ ∀ (m:Nat) (c:UInt8),m < n → s[m]? = some c → 33 ≤ c.toNat ∧ c.toNat ≤ 126) (fun (n:Nat)=>s.size - n) (0) [] [] ⟨rfl,⟨rfl,rfl,I⟩,I,I⟩ (by simp) ?_
 rintro n ⟨hn,hc⟩
 conv=>whnf
 refine W.sq ?_
 refine g 5 7 [] ?_
 conv=>whnf
 refine ⟨⟨I,I,I,I,I⟩,?_⟩
 refine W.cn ?_
 conv=>whnf
 refine ⟨fun h1=>?_,fun h1=>?_⟩
 replace h1:=dt h1
 refine W.skip ?_
 refine W.sq ?_
 refine W.blk ?_
 obtain ⟨y1,hy1,hb1⟩:=byte_at (s:=s) (n:=n) (by omega)
 by_cases h2:(↑(UInt8.toNat y1):Int) < (33:Int)
 refine g 7 19 [.i ((↑(UInt8.toNat y1):Int)),.b (true),.b (true),.b (true),.b (true),.b (true)] ?_
 conv=>whnf
 refine ⟨⟨I,I,⟨(by omega),ixb (by assumption)⟩,I,I,dT (by omega),dT (by omega),dT (by omega),dT (by omega),dT (by omega),I⟩,?_⟩
 refine W.cn ?_
 conv=>whnf
 refine ⟨fun _=>?_,noF (rfl)⟩
 refine g 19 20 [] ?_
 conv=>whnf
 refine ⟨⟨I,I⟩,?_⟩
 refine W.ret ?_
 refine EndsW.rt ?_
 conv=>whnf
 refine ⟨⟨I,I,I⟩,?_,rfl⟩
 rotate_left 1
 refine g 7 19 [.i ((↑(UInt8.toNat y1):Int)),.b (false),.b (false),.b (false),.i ((↑(UInt8.toNat y1):Int)),.b (false),.b (false)] ?_
 conv=>whnf
 refine ⟨⟨I,I,⟨(by omega),ixb (by assumption)⟩,I,I,⟨dF (by omega),I⟩,⟨dF (by omega),I⟩,⟨dF (by omega),(by omega),ixb (by assumption)⟩,⟨dF (by omega),I⟩,dF (by omega),I⟩,?_⟩
 refine W.cn ?_
 conv=>whnf
 refine ⟨fun h3=>?_,fun h3=>?_⟩
 replace h3:=dt h3
 refine g 19 20 [] ?_
 conv=>whnf
 refine ⟨⟨I,I⟩,?_⟩
 refine W.ret ?_
 refine EndsW.rt ?_
 conv=>whnf
 refine ⟨⟨I,I,I⟩,?_,rfl⟩
 rotate_left 1
 replace h3:=df h3
 refine W.skip ?_
 refine rg [.i ((↑n:Int) + (1:Int))] ?_
 conv=>whnf
 refine ⟨⟨I,w64 (by omega) (by omega),I,I⟩,?_⟩
 rotate_left 1
 replace h1:=df h1
 refine W.exit ?_
 by_cases h2:(1:Int) ≤ (↑(ByteArray.size s):Int)
 refine g 7 28 [.b (true),.b (true),.b (true),.b (true)] ?_
 conv=>whnf
 refine ⟨⟨I,I,I,I,⟨dT (by omega),I⟩,⟨dT (by omega),I⟩,⟨dT (by omega),I⟩,dT (by omega),I,I⟩,?_⟩
 refine W.ret ?_
 refine EndsW.rt ?_
 conv=>whnf
 refine ⟨⟨I,I,I⟩,?_,rfl⟩
 rotate_left 1
 refine g 7 28 [.b (false),.b (false),.b (false),.b (false)] ?_
 conv=>whnf
 refine ⟨⟨I,I,I,I,dF (by omega),dF (by omega),dF (by omega),dF (by omega),I,I⟩,?_⟩
 refine W.ret ?_
 refine EndsW.rt ?_
 conv=>whnf
 refine ⟨⟨I,I,I⟩,?_,rfl⟩
 rotate_left 1
 ·exact vbf (plain_no hy1 (by omega))
 ·exact vbf (plain_no hy1 (by omega))
 ·refine ⟨n + 1,[],[],⟨rfl,⟨rfl,rfl,I⟩,I,I⟩,?_,?_⟩
  rotate_left 1
  (dsimp only; omega)
  dsimp only
  exact ⟨by omega,plain_step hc hy1 (by omega)⟩
 ·exact vbd ⟨fun e=>⟨fun m c h=>hc m c (by have:=ba_some h; omega) h,by omega,by omega⟩,fun e=>by have:=e.2; omega⟩
 ·exact vbf (fun e=>by have:=e.2; omega)
end Go.K
end
section
set_option linter.unusedVariables false
set_option linter.unusedSimpArgs false
set_option maxHeartbeats 4000000
set_option maxRecDepth 20000
open Go Go.Tm Go.Proofs Classical
namespace Go.K
def namesTo (xs:List Task) (n:Nat):Prop:=∀ (m:Nat) (t:Task),m < n → xs[m]? = some t → plainB t.name ∧ t.name ∉ (xs.take m).map Task.name
def namesOk (xs:List Task):Prop:=namesTo xs xs.length
def costsOk (xs:List Task):Prop:=∀ t ∈ xs,1 ≤ t.cost ∧ t.cost ≤ 20
def incr (last hi:Int):List Int → Prop
 | []=>True
 | d :: ds=>(last < d ∧ d < hi) ∧ incr d hi ds
def depOk (hi:Int) (d:List Int):Prop:=d.length ≤ 8 ∧ incr (-1) hi d
def depsTo (xs:List Task) (n:Nat):Prop:=∀ (m:Nat) (t:Task),m < n → xs[m]? = some t → depOk m t.deps
def depsOk (xs:List Task):Prop:=depsTo xs xs.length
noncomputable def checkPlan (xs:List Task):Int :=
 if ¬ (1 ≤ xs.length ∧ xs.length ≤ 40) then 1 else if ¬ namesOk xs then 2 else if ¬ costsOk xs then 3 else if ¬ depsOk xs then 4 else 0
theorem chk1 {xs:List Task} (h:¬ (1 ≤ xs.length ∧ xs.length ≤ 40)):checkPlan xs = 1:=by unfold checkPlan; rw [if_pos h]
theorem chk2 {xs:List Task} (h:1 ≤ xs.length ∧ xs.length ≤ 40) (h2:¬ namesOk xs):checkPlan xs = 2:=by unfold checkPlan; rw [if_neg (not_not_intro h),if_pos h2]
theorem chk3 {xs:List Task} (h:1 ≤ xs.length ∧ xs.length ≤ 40) (h2:namesOk xs) (h3:¬ costsOk xs):checkPlan xs = 3:=by unfold checkPlan; rw [if_neg (not_not_intro h),if_neg (not_not_intro h2),if_pos h3]
theorem chk4 {xs:List Task} (h:1 ≤ xs.length ∧ xs.length ≤ 40) (h2:namesOk xs) (h3:costsOk xs) (h4:¬ depsOk xs):checkPlan xs = 4:=by unfold checkPlan; rw [if_neg (not_not_intro h),if_neg (not_not_intro h2),if_neg (not_not_intro h3),if_pos h4]
theorem chk0 {xs:List Task} (h:1 ≤ xs.length ∧ xs.length ≤ 40) (h2:namesOk xs) (h3:costsOk xs) (h4:depsOk xs):checkPlan xs = 0:=by unfold checkPlan; rw [if_neg (not_not_intro h),if_neg (not_not_intro h2),if_neg (not_not_intro h3),if_neg (not_not_intro h4)]
theorem names_no {xs:List Task} {n:Nat} {t:Task} (ht:xs[n]? = some t) (h:¬ (plainB t.name ∧ t.name ∉ (xs.take n).map Task.name)):¬ namesOk xs:=fun e=>h (e n t (List.getElem?_eq_some_iff.1 ht).1 ht)
theorem to_step {P:Nat → Task → Prop} {xs:List Task} {n:Nat} {t:Task} (h:∀ (m:Nat) (t:Task),m < n → xs[m]? = some t → P m t) (ht:xs[n]? = some t) (hp:P n t):∀ (m:Nat) (t:Task),m < n + 1 → xs[m]? = some t → P m t:=fun m d hm hd=>by
 by_cases e:m = n
 ·subst e; rw [ht] at hd; cases hd; exact hp
 ·exact h m d (by omega) hd
theorem to_all {P:Nat → Task → Prop} {xs:List Task} {n:Nat} (h:∀ (m:Nat) (t:Task),m < n → xs[m]? = some t → P m t) (hn:xs.length ≤ n):∀ (m:Nat) (t:Task),m < xs.length → xs[m]? = some t → P m t:=fun m t hm ht=>h m t (by omega) ht
theorem costs_no {xs:List Task} {n:Nat} {t:Task} (ht:xs[n]? = some t) (h:¬ (1 ≤ t.cost ∧ t.cost ≤ 20)):¬ costsOk xs:=fun e=>h (e t (List.mem_of_getElem? ht))
theorem deps_no {xs:List Task} {n:Nat} {t:Task} (ht:xs[n]? = some t) (h:¬ depOk n t.deps):¬ depsOk xs:=fun e=>h (e n t (List.getElem?_eq_some_iff.1 ht).1 ht)
/-- Where a list of numbers stands: what is left must go on from the last one. -/
def incrAt (hi:Int) (d:List Int) (k:Nat) (last:Int):Prop:=incr (-1) hi d ↔ incr last hi (d.drop k)
theorem drop_at {α:Type} {d:List α} {k:Nat} {y:α} (h:d[k]? = some y):d.drop k = y :: d.drop (k + 1):=by
 have hk:=(List.getElem?_eq_some_iff.1 h)
 rw [List.drop_eq_getElem_cons hk.1,hk.2]
theorem incr_step {hi:Int} {d:List Int} {k:Nat} {last y:Int} (h:incrAt hi d k last) (hy:d[k]? = some y) (h1:last < y ∧ y < hi):incrAt hi d (k + 1) y:=by
 unfold incrAt at *; rw [h,drop_at hy,incr]; exact ⟨fun e=>e.2,fun e=>⟨h1,e⟩⟩
theorem incr_no {hi:Int} {d:List Int} {k:Nat} {last y:Int} (h:incrAt hi d k last) (hy:d[k]? = some y) (h1:¬ (last < y ∧ y < hi)):¬ incr (-1) hi d:=by
 unfold incrAt at *; rw [h,drop_at hy,incr]; exact fun e=>h1 e.1
theorem incr_end {hi:Int} {d:List Int} {k:Nat} {last:Int} (h:incrAt hi d k last) (hk:d.length ≤ k):incr (-1) hi d:=by
 unfold incrAt at *; rw [h,List.drop_eq_nil_of_le hk]; trivial
theorem c_impl_CheckPlan (p:Plan) (hp:planWf p):F n_impl_CheckPlan [.val (planR p)] (.i (checkPlan p.tasks)) [[]]:=by
 have hl:p.tasks.length ≤ 9223372036854775807:=hp.1
 have hw:∀ y ∈ p.tasks,y.name.size ≤ 9223372036854775807 ∧ y.deps.length ≤ 9223372036854775807:=hp.2
 refine i_impl_CheckPlan ?_
 conv=>whnf
 refine g 0 1 [] ?_
 conv=>whnf
 refine ⟨⟨⟨I,I⟩,I,I⟩,?_⟩
 refine g 14 17 [] ?_
 conv=>whnf
 refine ⟨⟨I,I,I,I,I⟩,?_⟩
 refine W.sq ?_
 by_cases h1:(↑(List.length (List.map taskT (Plan.tasks p))):Int) = (0:Int)
 simp only [List.length_map] at h1
 refine g 17 22 [.b (true),.b (true),.b (true)] ?_
 conv=>whnf
 refine ⟨⟨I,I,I,(by simp [*]),(by simp [*]),(by simp [*]),I⟩,?_⟩
 refine W.cn ?_
 conv=>whnf
 refine ⟨fun _=>?_,noF (rfl)⟩
 refine g 22 23 [] ?_
 conv=>whnf
 refine ⟨⟨I,I⟩,?_⟩
 refine W.ret ?_
 refine EndsW.rt ?_
 conv=>whnf
 refine ⟨⟨I,I,I⟩,?_,rfl⟩
 rotate_left 1
 simp only [List.length_map] at h1
 refine g 17 22 [.b (false),.b (false),.b (false)] ?_
 conv=>whnf
 refine ⟨⟨I,I,I,⟨(by simp_all),I⟩,⟨(by simp_all),I⟩,(by simp_all),I⟩,?_⟩
 refine W.cn ?_
 conv=>whnf
 refine ⟨fun h2=>?_,fun h2=>?_⟩
 replace h2:=dt h2
 simp only [List.length_map] at h2
 refine g 22 23 [] ?_
 conv=>whnf
 refine ⟨⟨I,I⟩,?_⟩
 refine W.ret ?_
 refine EndsW.rt ?_
 conv=>whnf
 refine ⟨⟨I,I,I⟩,?_,rfl⟩
 rotate_left 1
 replace h2:=df h2
 simp only [List.length_map] at h2
 refine W.skip ?_
 refine g 22 24 [] ?_
 conv=>whnf
 refine ⟨⟨I,I,I⟩,?_⟩
 refine W.sq ?_
 refine g 24 25 [] ?_
 conv=>whnf
 refine ⟨⟨I,I,I,I,I⟩,?_⟩
 refine W.blk ?_
 rotate_left 1
 ·exact vi (chk1 (by omega)).symm
 ·exact vi (chk1 (by omega)).symm
 have hlen:1 ≤ p.tasks.length ∧ p.tasks.length ≤ 40:=by omega
 refine W.lp (fun s (n:Nat)=>⟨[(1,s.s 1),(3,s.s 3),(4,s.s 4),(25,s.s 25),(26,s.s 26),(27,.i n)],[(1,[s.c 1 0])],[(23,(p.tasks.take n).map fun t=>Value.string t.name)]⟩) (fun (n:Nat)=>n ≤ p.tasks.length ∧ namesTo p.tasks n) (fun (n:Nat)=>p.tasks.length - n) (0) [some 1] [23] ⟨rfl,⟨rfl,rfl,rfl,rfl,rfl,rfl,I⟩,⟨⟨rfl,⟨rfl,I⟩⟩,I⟩,⟨rfl,I⟩⟩ ?_ ?_
 ·exact ⟨Nat.zero_le _,fun m t hm=>by omega⟩
 rintro n ⟨hn,hc⟩
 conv=>whnf
 refine g 0 0 [] ?_
 conv=>whnf
 refine ⟨⟨I,I⟩,?_⟩
 refine W.sq ?_
 refine W.cn ?_
 conv=>whnf
 refine ⟨fun h3=>?_,fun h3=>?_⟩
 replace h3:=dt h3
 simp only [List.length_map] at h3
 refine W.skip ?_
 refine W.sq ?_
 refine W.blk ?_
 obtain ⟨y1,hy1⟩:=some_at (xs:=Plan.tasks p) (n:=n) (by omega)
 have hm1:=hw y1 (List.mem_of_getElem? hy1)
 refine g 28 31 [.x (taskT y1)] ?_
 conv=>whnf
 refine ⟨⟨⟨(by omega),ixl (by assumption)⟩,I,I,⟨I,I,I,I⟩,I⟩,?_⟩
 refine W.sq ?_
 by_cases h4:plainB (Task.name y1)
 refine g 31 40 [.call (V.b (decide (plainB (Task.name y1)))) ([[]]),.b (false),.b (false),.b (false),.b (false),.b (decide (Task.name y1 ∈ List.map Task.name (List.take n (Plan.tasks p)))),.b (false)] ?_
 conv=>whnf
 refine ⟨⟨I,I,⟨⟨I,I⟩,I,⟨⟨I,I⟩,I⟩,⟨I,I⟩,Go.K.c_impl_plain _ (by omega)⟩,I,I,⟨notF (by omega),I⟩,⟨notF (by omega),I⟩,⟨notF (by omega),I⟩,⟨notF (by omega),mem_strs,kin_strs⟩,notF (by omega),I⟩,?_⟩
 refine W.cn ?_
 conv=>whnf
 refine ⟨fun h5=>?_,fun h5=>?_⟩
 replace h5:=dt h5
 refine g 40 41 [] ?_
 conv=>whnf
 refine ⟨⟨I,I⟩,?_⟩
 refine W.ret ?_
 refine EndsW.rt ?_
 conv=>whnf
 refine ⟨⟨I,I,I⟩,?_,rfl⟩
 rotate_left 1
 replace h5:=df h5
 refine W.skip ?_
 refine rg [] ?_
 conv=>whnf
 refine ⟨⟨I,I,I,kin_strs,I⟩,?_⟩
 refine rg [.i ((↑n:Int) + (1:Int))] ?_
 conv=>whnf
 refine ⟨⟨w64 (by omega) (by omega),I,I⟩,?_⟩
 rotate_left 1
 refine g 31 40 [.call (V.b (decide (plainB (Task.name y1)))) ([[]]),.b (true),.b (true),.b (true),.b (true),.b (true)] ?_
 conv=>whnf
 refine ⟨⟨I,I,⟨⟨I,I⟩,I,⟨⟨I,I⟩,I⟩,⟨I,I⟩,Go.K.c_impl_plain _ (by omega)⟩,I,I,notT (by omega),notT (by omega),notT (by omega),notT (by omega),notT (by omega),I⟩,?_⟩
 refine W.cn ?_
 conv=>whnf
 refine ⟨fun _=>?_,noF (rfl)⟩
 refine g 40 41 [] ?_
 conv=>whnf
 refine ⟨⟨I,I⟩,?_⟩
 refine W.ret ?_
 refine EndsW.rt ?_
 conv=>whnf
 refine ⟨⟨I,I,I⟩,?_,rfl⟩
 rotate_left 1
 replace h3:=df h3
 simp only [List.length_map] at h3
 refine W.exit ?_
 refine W.sq ?_
 refine g 4 46 [] ?_
 conv=>whnf
 refine ⟨⟨I,I,I,I,I⟩,?_⟩
 refine W.blk ?_
 rotate_left 1
 ·exact vi (chk2 hlen (names_no hy1 (by grind))).symm
 ·refine ⟨n + 1,[some 1],[23],⟨rfl,⟨rfl,rfl,rfl,rfl,rfl,rfl,I⟩,⟨⟨rfl,⟨rfl,I⟩⟩,I⟩,⟨(congrArg some (snoc_mapf (by assumption))),I⟩⟩,?_,?_⟩
  rotate_left 1
  (dsimp only; omega)
  dsimp only
  exact ⟨by omega,to_step hc hy1 (by grind)⟩
 ·exact vi (chk2 hlen (names_no hy1 (by grind))).symm
 have hnames:namesOk p.tasks:=to_all hc (by omega)
 refine W.lp (fun s (n:Nat)=>⟨[(1,s.s 1),(3,s.s 3),(46,s.s 46),(47,s.s 47),(48,.i n)],[(1,[s.c 1 0])],[]⟩) (fun (n:Nat)=>n ≤ p.tasks.length ∧ ∀ t ∈ p.tasks.take n,1 ≤ t.cost ∧ t.cost ≤ 20) (fun (n:Nat)=>p.tasks.length - n) (0) [some 1] [] ⟨rfl,⟨rfl,rfl,rfl,rfl,rfl,I⟩,⟨⟨rfl,⟨rfl,I⟩⟩,I⟩,I⟩ (by simp) ?_
 rintro n2 ⟨hn2,hc2⟩
 conv=>whnf
 refine g 0 0 [] ?_
 conv=>whnf
 refine ⟨⟨I,I⟩,?_⟩
 refine W.sq ?_
 refine W.cn ?_
 conv=>whnf
 refine ⟨fun h4=>?_,fun h4=>?_⟩
 replace h4:=dt h4
 simp only [List.length_map] at h4
 refine W.skip ?_
 refine W.sq ?_
 refine W.blk ?_
 obtain ⟨y1,hy1⟩:=some_at (xs:=Plan.tasks p) (n:=n2) (by omega)
 have hm1:=hw y1 (List.mem_of_getElem? hy1)
 refine g 49 52 [.x (taskT y1)] ?_
 conv=>whnf
 refine ⟨⟨⟨(by omega),ixl (by assumption)⟩,I,I,⟨I,I,I,I⟩,I⟩,?_⟩
 by_cases h5:Task.cost y1 < (1:Int)
 refine g 52 59 [.b (true),.b (true),.b (true),.b (true)] ?_
 conv=>whnf
 refine ⟨⟨I,I,I,I,dT (by omega),dT (by omega),dT (by omega),dT (by omega),I⟩,?_⟩
 refine W.cn ?_
 conv=>whnf
 refine ⟨fun _=>?_,noF (rfl)⟩
 refine g 8 9 [] ?_
 conv=>whnf
 refine ⟨⟨I,I⟩,?_⟩
 refine W.ret ?_
 refine EndsW.rt ?_
 conv=>whnf
 refine ⟨⟨I,I,I⟩,?_,rfl⟩
 rotate_left 1
 refine g 52 59 [.b (false),.b (false),.b (false),.b (false)] ?_
 conv=>whnf
 refine ⟨⟨I,I,I,I,⟨dF (by omega),I⟩,⟨dF (by omega),I⟩,⟨dF (by omega),I⟩,dF (by omega),I⟩,?_⟩
 refine W.cn ?_
 conv=>whnf
 refine ⟨fun h6=>?_,fun h6=>?_⟩
 replace h6:=dt h6
 refine g 8 9 [] ?_
 conv=>whnf
 refine ⟨⟨I,I⟩,?_⟩
 refine W.ret ?_
 refine EndsW.rt ?_
 conv=>whnf
 refine ⟨⟨I,I,I⟩,?_,rfl⟩
 rotate_left 1
 replace h6:=df h6
 refine W.skip ?_
 refine rg [.i ((↑n2:Int) + (1:Int))] ?_
 conv=>whnf
 refine ⟨⟨w64 (by omega) (by omega),I,I⟩,?_⟩
 rotate_left 1
 replace h4:=df h4
 simp only [List.length_map] at h4
 refine W.exit ?_
 refine W.sq ?_
 refine g 46 62 [] ?_
 conv=>whnf
 refine ⟨⟨I,I,I,I,I⟩,?_⟩
 refine W.blk ?_
 rotate_left 1
 ·exact vi (chk3 hlen hnames (costs_no (by assumption) (by omega))).symm
 ·exact vi (chk3 hlen hnames (costs_no (by assumption) (by omega))).symm
 ·refine ⟨n2 + 1,[some 1],[],⟨rfl,⟨rfl,rfl,rfl,rfl,rfl,I⟩,⟨⟨rfl,⟨rfl,I⟩⟩,I⟩,I⟩,?_,?_⟩
  rotate_left 1
  (dsimp only; omega)
  dsimp only
  exact ⟨by omega,all_take hc2 (by assumption) (by omega)⟩
 have hcosts:costsOk p.tasks:=all_done hc2 (by omega)
 refine W.lp (fun s (n:Nat)=>⟨[(3,s.s 3),(62,s.s 62),(63,s.s 63),(64,.i n)],[],[]⟩) (fun (n:Nat)=>n ≤ p.tasks.length ∧ depsTo p.tasks n) (fun (n:Nat)=>p.tasks.length - n) (0) [] [] ⟨rfl,⟨rfl,rfl,rfl,rfl,I⟩,I,I⟩ ?_ ?_
 ·exact ⟨Nat.zero_le _,fun m t hm=>by omega⟩
 rintro n3 ⟨hn3,hc3⟩
 conv=>whnf
 refine g 0 0 [] ?_
 conv=>whnf
 refine ⟨⟨I,I⟩,?_⟩
 refine W.sq ?_
 refine W.cn ?_
 conv=>whnf
 refine ⟨fun h5=>?_,fun h5=>?_⟩
 replace h5:=dt h5
 simp only [List.length_map] at h5
 refine W.skip ?_
 refine W.sq ?_
 refine W.blk ?_
 obtain ⟨y1,hy1⟩:=some_at (xs:=Plan.tasks p) (n:=n3) (by omega)
 have hm1:=hw y1 (List.mem_of_getElem? hy1)
 refine g 65 69 [.x (taskT y1)] ?_
 conv=>whnf
 refine ⟨⟨I,⟨(by omega),ixl (by assumption)⟩,I,I,I,⟨I,I,I,I⟩,I⟩,?_⟩
 refine W.sq ?_
 refine g 69 72 [] ?_
 conv=>whnf
 refine ⟨⟨I,I,I,I,I⟩,?_⟩
 refine W.cn ?_
 conv=>whnf
 refine ⟨fun h6=>?_,fun h6=>?_⟩
 replace h6:=dt h6
 simp only [List.length_map] at h6
 refine g 72 73 [] ?_
 conv=>whnf
 refine ⟨⟨I,I⟩,?_⟩
 refine W.ret ?_
 refine EndsW.rt ?_
 conv=>whnf
 refine ⟨⟨I,I,I⟩,?_,rfl⟩
 rotate_left 1
 replace h6:=df h6
 simp only [List.length_map] at h6
 refine W.skip ?_
 refine g 72 73 [] ?_
 conv=>whnf
 refine ⟨⟨I,I⟩,?_⟩
 refine g 10 11 [] ?_
 conv=>whnf
 refine ⟨⟨I,I,I,I,I⟩,?_⟩
 refine W.blk ?_
 rotate_left 1
 replace h5:=df h5
 simp only [List.length_map] at h5
 refine W.exit ?_
 refine g 62 66 [] ?_
 conv=>whnf
 refine ⟨⟨I,I⟩,?_⟩
 refine W.ret ?_
 refine EndsW.rt ?_
 conv=>whnf
 refine ⟨⟨I,I,I⟩,?_,rfl⟩
 rotate_left 1
 ·exact vi (chk4 hlen hnames hcosts (deps_no (by assumption) (fun e=>by have:=e.1; omega))).symm
 ·skip
  refine W.lp (fun s (x:Nat × Int)=>match x with | (k,last)=>⟨[(3,s.s 3),(9,s.s 9),(11,.i last),(62,s.s 62),(63,s.s 63),(64,s.s 64),(74,s.s 74),(75,s.s 75),(76,.i k)],[],[]⟩) (fun (x:Nat × Int)=>match x with | (k,last)=>k ≤ y1.deps.length ∧ incrAt n3 y1.deps k last) (fun (x:Nat × Int)=>match x with | (k,last)=>y1.deps.length - k) ((0,-1)) [] [] ⟨rfl,⟨rfl,rfl,rfl,rfl,rfl,rfl,rfl,rfl,rfl,I⟩,I,I⟩ ?_ ?_
  ·exact ⟨Nat.zero_le _,Iff.rfl⟩
  rintro ⟨k,last⟩ ⟨hk,hi⟩
  conv=>whnf
  refine g 0 0 [] ?_
  conv=>whnf
  refine ⟨⟨I,I⟩,?_⟩
  refine W.sq ?_
  refine W.cn ?_
  conv=>whnf
  refine ⟨fun h7=>?_,fun h7=>?_⟩
  replace h7:=dt h7
  simp only [List.length_map] at h7
  refine W.skip ?_
  refine W.sq ?_
  refine W.blk ?_
  obtain ⟨y2,hy2⟩:=some_at (xs:=Task.deps y1) (n:=k) (by omega)
  refine g 77 80 [.x (intT y2)] ?_
  conv=>whnf
  refine ⟨⟨⟨(by omega),ixl (by assumption)⟩,I,I,I⟩,?_⟩
  refine W.sq ?_
  by_cases h8:y2 ≤ last
  refine g 80 87 [.b (true),.b (true),.b (true),.b (true)] ?_
  conv=>whnf
  refine ⟨⟨I,I,I,I,dT (by omega),dT (by omega),dT (by omega),dT (by omega),I⟩,?_⟩
  refine W.cn ?_
  conv=>whnf
  refine ⟨fun _=>?_,noF (rfl)⟩
  refine g 87 88 [] ?_
  conv=>whnf
  refine ⟨⟨I,I⟩,?_⟩
  refine W.ret ?_
  refine EndsW.rt ?_
  conv=>whnf
  refine ⟨⟨I,I,I⟩,?_,rfl⟩
  rotate_left 1
  refine g 80 87 [.b (false),.b (false),.b (false),.b (false)] ?_
  conv=>whnf
  refine ⟨⟨I,I,I,I,⟨dF (by omega),I⟩,⟨dF (by omega),I⟩,⟨dF (by omega),I⟩,dF (by omega),I⟩,?_⟩
  refine W.cn ?_
  conv=>whnf
  refine ⟨fun h9=>?_,fun h9=>?_⟩
  replace h9:=dt h9
  refine g 87 88 [] ?_
  conv=>whnf
  refine ⟨⟨I,I⟩,?_⟩
  refine W.ret ?_
  refine EndsW.rt ?_
  conv=>whnf
  refine ⟨⟨I,I,I⟩,?_,rfl⟩
  rotate_left 1
  replace h9:=df h9
  refine W.skip ?_
  refine rg [] ?_
  conv=>whnf
  refine ⟨⟨I,I,I⟩,?_⟩
  refine rg [.i ((↑k:Int) + (1:Int))] ?_
  conv=>whnf
  refine ⟨⟨w64 (by omega) (by omega),I,I⟩,?_⟩
  rotate_left 1
  replace h7:=df h7
  simp only [List.length_map] at h7
  refine W.exit ?_
  refine rg [.i ((↑n3:Int) + (1:Int))] ?_
  conv=>whnf
  refine ⟨⟨w64 (by omega) (by omega),I,I⟩,?_⟩
  rotate_left 1
  ·exact vi (chk4 hlen hnames hcosts (deps_no hy1 (fun e=>incr_no hi (by assumption) (by omega) e.2))).symm
  ·exact vi (chk4 hlen hnames hcosts (deps_no hy1 (fun e=>incr_no hi (by assumption) (by omega) e.2))).symm
  ·refine ⟨(k + 1,y2),[],[],⟨rfl,⟨rfl,rfl,rfl,rfl,rfl,rfl,rfl,rfl,rfl,I⟩,I,I⟩,?_,?_⟩
   rotate_left 1
   (dsimp only; omega)
   dsimp only
   exact ⟨by omega,incr_step hi (by assumption) (by omega)⟩
  ·refine ⟨n3 + 1,[],[],⟨rfl,⟨rfl,rfl,rfl,rfl,I⟩,I,I⟩,?_,?_⟩
   rotate_left 1
   (dsimp only; omega)
   dsimp only
   exact ⟨by omega,to_step hc3 hy1 ⟨by omega,incr_end hi (by omega)⟩⟩
 exact vi (chk0 hlen hnames hcosts (to_all hc3 (by omega))).symm
end Go.K
end
section
set_option linter.unusedVariables false
set_option linter.unusedSimpArgs false
set_option maxHeartbeats 4000000
set_option maxRecDepth 20000
open Go Go.Tm Go.Proofs Classical
namespace Go.K
theorem mem_take_map {xs:List Task} {n k:Nat} {a:Task} (h:xs[k]? = some a) (hk:k < n):a.name ∈ (xs.take n).map Task.name:=by
 refine List.mem_map.2 ⟨a,?_,rfl⟩
 refine List.mem_of_getElem? (i:=k) ?_
 rw [List.getElem?_take,if_pos hk]; exact h
theorem nmem_take {xs:List Task} {n k:Nat} {s:ByteArray} {a:Task} (h:s ∉ (xs.take k).map Task.name) (ha:xs[k]? = some a) (hne:a.name ≠ s):s ∉ (xs.take (k + 1)).map Task.name:=by
 rw [List.take_add_one,ha]; simp only [List.map_append,List.mem_append,not_or]
 exact ⟨h,by simpa using fun e=>hne e.symm⟩
theorem last_at {d:List Int} {k:Nat} {l y:Int} (h:d[k - 1]? = some l) (hy:d[((k:Int) - 1).toNat]? = some y):y = l:=by
 have e:((k:Int) - 1).toNat = k - 1:=by omega
 rw [e,h] at hy; cases hy; rfl
theorem c_spec_CheckPlan (p:Plan) (hp:planWf p):F n_spec_CheckPlan [.val (planR p)] (.i (checkPlan p.tasks)) [[]]:=by
 have hl:p.tasks.length ≤ 9223372036854775807:=hp.1
 have hw:∀ y ∈ p.tasks,y.name.size ≤ 9223372036854775807 ∧ y.deps.length ≤ 9223372036854775807:=hp.2
 refine i_spec_CheckPlan ?_
 conv=>whnf
 refine g 0 1 [] ?_
 conv=>whnf
 refine ⟨⟨⟨I,I⟩,I,I⟩,?_⟩
 refine g 10 13 [] ?_
 conv=>whnf
 refine ⟨⟨I,I,I,I,I⟩,?_⟩
 refine W.sq ?_
 by_cases h1:(↑(List.length (List.map taskT (Plan.tasks p))):Int) < (1:Int)
 simp only [List.length_map] at h1
 refine g 14 16 [.b (true),.b (true),.b (true)] ?_
 conv=>whnf
 refine ⟨⟨I,I,I,(by simp [*]),(by simp [*]),(by simp [*]),I⟩,?_⟩
 refine W.cn ?_
 conv=>whnf
 refine ⟨fun _=>?_,noF (rfl)⟩
 refine g 17 19 [] ?_
 conv=>whnf
 refine ⟨⟨I,I⟩,?_⟩
 refine W.ret ?_
 refine EndsW.rt ?_
 conv=>whnf
 refine ⟨⟨I,I,I⟩,?_,rfl⟩
 rotate_left 1
 simp only [List.length_map] at h1
 refine g 14 16 [.b (false),.b (false),.b (false)] ?_
 conv=>whnf
 refine ⟨⟨I,I,I,⟨(by simp [*]),I⟩,⟨(by simp [*]),I⟩,(by simp [*]),I⟩,?_⟩
 refine W.cn ?_
 conv=>whnf
 refine ⟨fun h2=>?_,fun h2=>?_⟩
 replace h2:=dt h2
 simp only [List.length_map] at h2
 refine g 17 19 [] ?_
 conv=>whnf
 refine ⟨⟨I,I⟩,?_⟩
 refine W.ret ?_
 refine EndsW.rt ?_
 conv=>whnf
 refine ⟨⟨I,I,I⟩,?_,rfl⟩
 rotate_left 1
 replace h2:=df h2
 simp only [List.length_map] at h2
 refine W.skip ?_
 refine W.sq ?_
 refine g 17 19 [] ?_
 conv=>whnf
 refine ⟨⟨I,I⟩,?_⟩
 refine W.blk ?_
 rotate_left 1
 ·exact vi (chk1 (by omega)).symm
 ·exact vi (chk1 (by omega)).symm
 have hlen:1 ≤ p.tasks.length ∧ p.tasks.length ≤ 40:=by omega
 refine W.lp (fun s (n:Nat)=>⟨[(1,s.s 1),(3,s.s 3),(4,.i n),(13,s.s 13),(16,s.s 16)],[(1,[s.c 1 0])],[]⟩) (fun (n:Nat)=>n ≤ p.tasks.length ∧ namesTo p.tasks n) (fun (n:Nat)=>p.tasks.length - n) (0) [some 1] [] ⟨rfl,⟨rfl,rfl,rfl,rfl,rfl,I⟩,⟨⟨rfl,⟨rfl,I⟩⟩,I⟩,I⟩ ?_ ?_
 ·exact ⟨Nat.zero_le _,fun m t hm=>by omega⟩
 rintro n ⟨hn,hc⟩
 conv=>whnf
 refine W.sq ?_
 refine g 19 21 [] ?_
 conv=>whnf
 refine ⟨⟨I,I,I,I⟩,?_⟩
 refine W.cn ?_
 conv=>whnf
 refine ⟨fun h3=>?_,fun h3=>?_⟩
 replace h3:=dt h3
 simp only [List.length_map] at h3
 refine W.skip ?_
 refine W.sq ?_
 refine W.blk ?_
 refine W.sq ?_
 obtain ⟨y1,hy1⟩:=some_at (xs:=Plan.tasks p) (n:=n) (by omega)
 have hm1:=hw y1 (List.mem_of_getElem? hy1)
 refine g 21 31 [.x (taskT y1),.call (V.b (decide (plainB (Task.name y1)))) ([[]])] ?_
 conv=>whnf
 refine ⟨⟨I,I,I,⟨(by omega),ixl (by assumption)⟩,I,I,⟨⟨I,I⟩,I,⟨⟨I,I⟩,I⟩,⟨I,I⟩,Go.K.c_spec_l1NameOk _ (by omega)⟩,I,I⟩,?_⟩
 refine W.cn ?_
 conv=>whnf
 refine ⟨fun h4=>?_,fun h4=>?_⟩
 replace h4:=ndt h4
 refine g 31 32 [] ?_
 conv=>whnf
 refine ⟨⟨I,I⟩,?_⟩
 refine W.ret ?_
 refine EndsW.rt ?_
 conv=>whnf
 refine ⟨⟨I,I,I⟩,?_,rfl⟩
 rotate_left 1
 replace h4:=ndf h4
 refine W.skip ?_
 refine g 31 32 [] ?_
 conv=>whnf
 refine ⟨⟨I,I⟩,?_⟩
 refine W.blk ?_
 rotate_left 1
 replace h3:=df h3
 simp only [List.length_map] at h3
 refine W.exit ?_
 refine W.sq ?_
 refine g 4 5 [] ?_
 conv=>whnf
 refine ⟨⟨I,I⟩,?_⟩
 refine W.blk ?_
 rotate_left 1
 ·exact vi (chk2 hlen (names_no hy1 (fun e=>absurd e.1 (by assumption)))).symm
 ·refine W.lp (fun s (k:Nat)=>⟨[(1,s.s 1),(3,s.s 3),(4,s.s 4),(5,.i k),(13,s.s 13),(16,s.s 16)],[(1,[s.c 1 0])],[]⟩) (fun (k:Nat)=>k ≤ n ∧ y1.name ∉ (p.tasks.take k).map Task.name) (fun (k:Nat)=>n - k) (0) [some 1] [] ⟨rfl,⟨rfl,rfl,rfl,rfl,rfl,rfl,I⟩,⟨⟨rfl,⟨rfl,I⟩⟩,I⟩,I⟩ (by simp) ?_
  rintro k ⟨hk,hm⟩
  conv=>whnf
  refine W.sq ?_
  refine g 32 34 [] ?_
  conv=>whnf
  refine ⟨⟨I,I,I,I⟩,?_⟩
  refine W.cn ?_
  conv=>whnf
  refine ⟨fun h5=>?_,fun h5=>?_⟩
  replace h5:=dt h5
  refine W.skip ?_
  refine W.sq ?_
  refine W.blk ?_
  obtain ⟨y2,hy2⟩:=some_at (xs:=Plan.tasks p) (n:=k) (by omega)
  have hm2:=hw y2 (List.mem_of_getElem? hy2)
  refine gd 34 49 [[],[],[],[.x (taskT y2)],[],[],[],[],[],[.x (taskT y1)],[],[],[]] ?_
  conv=>whnf
  refine ⟨⟨I,I,I,⟨(by omega),ixl (by assumption)⟩,I,I,I,I,I,⟨(by omega),ixl (by assumption)⟩,I,I,I,I⟩,by kernel_rfl,?_⟩
  refine W.cn ?_
  conv=>whnf
  refine ⟨fun h6=>?_,fun h6=>?_⟩
  replace h6:=dt h6
  refine g 49 50 [] ?_
  conv=>whnf
  refine ⟨⟨I,I⟩,?_⟩
  refine W.ret ?_
  refine EndsW.rt ?_
  conv=>whnf
  refine ⟨⟨I,I,I⟩,?_,rfl⟩
  rotate_left 1
  replace h6:=df h6
  refine W.skip ?_
  refine rg [.i ((↑k:Int) + (1:Int))] ?_
  conv=>whnf
  refine ⟨⟨I,w64 (by omega) (by omega),I,I⟩,?_⟩
  rotate_left 1
  replace h5:=df h5
  refine W.exit ?_
  refine rg [.i ((↑n:Int) + (1:Int))] ?_
  conv=>whnf
  refine ⟨⟨I,w64 (by omega) (by omega),I,I⟩,?_⟩
  rotate_left 1
  ·exact vi (chk2 hlen (names_no hy1 (fun e=>e.2 (by rw [← (show y2.name = y1.name by assumption)]; exact mem_take_map hy2 (by omega))))).symm
  ·refine ⟨k + 1,[some 1],[],⟨rfl,⟨rfl,rfl,rfl,rfl,rfl,rfl,I⟩,⟨⟨rfl,⟨rfl,I⟩⟩,I⟩,I⟩,?_,?_⟩
   rotate_left 1
   (dsimp only; omega)
   dsimp only
   exact ⟨by omega,nmem_take (n:=n) hm hy2 (by assumption)⟩
  ·refine ⟨n + 1,[some 1],[],⟨rfl,⟨rfl,rfl,rfl,rfl,rfl,I⟩,⟨⟨rfl,⟨rfl,I⟩⟩,I⟩,I⟩,?_,?_⟩
   rotate_left 1
   (dsimp only; omega)
   dsimp only
   exact ⟨by omega,to_step hc hy1 ⟨by assumption,by rwa [show k = n by omega] at hm⟩⟩
 have hnames:namesOk p.tasks:=to_all hc (by omega)
 refine W.lp (fun s (n:Nat)=>⟨[(1,s.s 1),(3,s.s 3),(6,.i n),(13,s.s 13),(16,s.s 16)],[(1,[s.c 1 0])],[]⟩) (fun (n:Nat)=>n ≤ p.tasks.length ∧ ∀ t ∈ p.tasks.take n,1 ≤ t.cost ∧ t.cost ≤ 20) (fun (n:Nat)=>p.tasks.length - n) (0) [some 1] [] ⟨rfl,⟨rfl,rfl,rfl,rfl,rfl,I⟩,⟨⟨rfl,⟨rfl,I⟩⟩,I⟩,I⟩ (by simp) ?_
 rintro n2 ⟨hn2,hc2⟩
 conv=>whnf
 refine W.sq ?_
 refine g 50 52 [] ?_
 conv=>whnf
 refine ⟨⟨I,I,I,I⟩,?_⟩
 refine W.cn ?_
 conv=>whnf
 refine ⟨fun h4=>?_,fun h4=>?_⟩
 replace h4:=dt h4
 simp only [List.length_map] at h4
 refine W.skip ?_
 refine W.sq ?_
 refine W.blk ?_
 obtain ⟨y1,hy1⟩:=some_at (xs:=Plan.tasks p) (n:=n2) (by omega)
 have hm1:=hw y1 (List.mem_of_getElem? hy1)
 by_cases h5:Task.cost y1 < (1:Int)
 refine g 52 70 [.x (taskT y1),.b (true),.b (true),.b (true),.b (true),.b (true),.b (true),.b (true),.b (true)] ?_
 conv=>whnf
 refine ⟨⟨I,I,I,⟨(by omega),ixl (by assumption)⟩,I,I,I,I,dT (by omega),dT (by omega),dT (by omega),dT (by omega),dT (by omega),dT (by omega),dT (by omega),dT (by omega),I⟩,?_⟩
 refine W.cn ?_
 conv=>whnf
 refine ⟨fun _=>?_,noF (rfl)⟩
 refine g 70 71 [] ?_
 conv=>whnf
 refine ⟨⟨I,I⟩,?_⟩
 refine W.ret ?_
 refine EndsW.rt ?_
 conv=>whnf
 refine ⟨⟨I,I,I⟩,?_,rfl⟩
 rotate_left 1
 refine g 52 70 [.x (taskT y1),.b (false),.b (false),.b (false),.b (false),.x (taskT y1),.b (false),.b (false),.b (false),.b (false)] ?_
 conv=>whnf
 refine ⟨⟨I,I,I,⟨(by omega),ixl (by assumption)⟩,I,I,I,I,⟨dF (by omega),I⟩,⟨dF (by omega),I⟩,⟨dF (by omega),I⟩,⟨dF (by omega),(by omega),ixl (by assumption)⟩,⟨dF (by omega),I⟩,⟨dF (by omega),I⟩,⟨dF (by omega),I⟩,dF (by omega),I⟩,?_⟩
 refine W.cn ?_
 conv=>whnf
 refine ⟨fun h6=>?_,fun h6=>?_⟩
 replace h6:=dt h6
 refine g 70 71 [] ?_
 conv=>whnf
 refine ⟨⟨I,I⟩,?_⟩
 refine W.ret ?_
 refine EndsW.rt ?_
 conv=>whnf
 refine ⟨⟨I,I,I⟩,?_,rfl⟩
 rotate_left 1
 replace h6:=df h6
 refine W.skip ?_
 refine rg [.i ((↑n2:Int) + (1:Int))] ?_
 conv=>whnf
 refine ⟨⟨I,w64 (by omega) (by omega),I,I⟩,?_⟩
 rotate_left 1
 replace h4:=df h4
 simp only [List.length_map] at h4
 refine W.exit ?_
 refine W.sq ?_
 refine g 6 7 [] ?_
 conv=>whnf
 refine ⟨⟨I,I⟩,?_⟩
 refine W.blk ?_
 rotate_left 1
 ·exact vi (chk3 hlen hnames (costs_no (by assumption) (by omega))).symm
 ·exact vi (chk3 hlen hnames (costs_no (by assumption) (by omega))).symm
 ·refine ⟨n2 + 1,[some 1],[],⟨rfl,⟨rfl,rfl,rfl,rfl,rfl,I⟩,⟨⟨rfl,⟨rfl,I⟩⟩,I⟩,I⟩,?_,?_⟩
  rotate_left 1
  (dsimp only; omega)
  dsimp only
  exact ⟨by omega,all_take hc2 (by assumption) (by omega)⟩
 have hcosts:costsOk p.tasks:=all_done hc2 (by omega)
 refine W.lp (fun s (n:Nat)=>⟨[(1,s.s 1),(3,s.s 3),(7,.i n),(13,s.s 13),(16,s.s 16)],[(1,[s.c 1 0])],[]⟩) (fun (n:Nat)=>n ≤ p.tasks.length ∧ depsTo p.tasks n) (fun (n:Nat)=>p.tasks.length - n) (0) [some 1] [] ⟨rfl,⟨rfl,rfl,rfl,rfl,rfl,I⟩,⟨⟨rfl,⟨rfl,I⟩⟩,I⟩,I⟩ ?_ ?_
 ·exact ⟨Nat.zero_le _,fun m t hm=>by omega⟩
 rintro n3 ⟨hn3,hc3⟩
 conv=>whnf
 refine W.sq ?_
 refine g 71 73 [] ?_
 conv=>whnf
 refine ⟨⟨I,I,I,I⟩,?_⟩
 refine W.cn ?_
 conv=>whnf
 refine ⟨fun h5=>?_,fun h5=>?_⟩
 replace h5:=dt h5
 simp only [List.length_map] at h5
 refine W.skip ?_
 refine W.sq ?_
 refine W.blk ?_
 obtain ⟨y1,hy1⟩:=some_at (xs:=Plan.tasks p) (n:=n3) (by omega)
 have hm1:=hw y1 (List.mem_of_getElem? hy1)
 refine g 73 82 [.x (taskT y1)] ?_
 conv=>whnf
 refine ⟨⟨I,I,I,⟨(by omega),ixl (by assumption)⟩,I,I,I,I⟩,?_⟩
 refine W.sq ?_
 refine g 82 84 [] ?_
 conv=>whnf
 refine ⟨⟨I,I,I,I⟩,?_⟩
 refine W.cn ?_
 conv=>whnf
 refine ⟨fun h6=>?_,fun h6=>?_⟩
 replace h6:=dt h6
 simp only [List.length_map] at h6
 refine g 84 85 [] ?_
 conv=>whnf
 refine ⟨⟨I,I⟩,?_⟩
 refine W.ret ?_
 refine EndsW.rt ?_
 conv=>whnf
 refine ⟨⟨I,I,I⟩,?_,rfl⟩
 rotate_left 1
 replace h6:=df h6
 simp only [List.length_map] at h6
 refine W.skip ?_
 refine g 84 85 [] ?_
 conv=>whnf
 refine ⟨⟨I,I⟩,?_⟩
 refine W.blk ?_
 rotate_left 1
 replace h5:=df h5
 simp only [List.length_map] at h5
 refine W.exit ?_
 refine g 7 74 [] ?_
 conv=>whnf
 refine ⟨⟨I,I⟩,?_⟩
 refine W.ret ?_
 refine EndsW.rt ?_
 conv=>whnf
 refine ⟨⟨I,I,I⟩,?_,rfl⟩
 rotate_left 1
 ·exact vi (chk4 hlen hnames hcosts (deps_no (by assumption) (fun e=>by have:=e.1; omega))).symm
 ·refine W.lp (fun s (x:Nat × Int)=>match x with | (k,last)=>⟨[(1,s.s 1),(3,s.s 3),(7,s.s 7),(8,s.s 8),(9,.i k),(13,s.s 13),(16,s.s 16)],[(1,[s.c 1 0])],[]⟩) (fun (x:Nat × Int)=>match x with | (k,last)=>k ≤ y1.deps.length ∧ incrAt n3 y1.deps k last ∧ -1 ≤ last ∧ (k = 0 → last = -1) ∧ (0 < k → y1.deps[k - 1]? = some last)) (fun (x:Nat × Int)=>match x with | (k,last)=>y1.deps.length - k) ((0,-1)) [some 1] [] ⟨rfl,⟨rfl,rfl,rfl,rfl,rfl,rfl,rfl,I⟩,⟨⟨rfl,⟨rfl,I⟩⟩,I⟩,I⟩ ?_ ?_
  ·exact ⟨Nat.zero_le _,Iff.rfl,by omega,fun _=>rfl,fun h=>by omega⟩
  rintro ⟨k,last⟩ ⟨hk,hi,hlo,hz,hs⟩
  conv=>whnf
  refine W.sq ?_
  refine g 85 88 [] ?_
  conv=>whnf
  refine ⟨⟨I,I,I,I,I⟩,?_⟩
  refine W.cn ?_
  conv=>whnf
  refine ⟨fun h7=>?_,fun h7=>?_⟩
  replace h7:=dt h7
  simp only [List.length_map] at h7
  refine W.skip ?_
  refine W.sq ?_
  refine W.blk ?_
  obtain ⟨y2,hy2⟩:=some_at (xs:=Task.deps y1) (n:=k) (by omega)
  by_cases h8:y2 < (0:Int)
  refine gd 88 119 [[],[],[.x (intT y2)],[],[],[],[.b (true)],[.b (true)],[.b (true)],[.b (true)],[.b (true)],[.b (true)],[.b (true)],[],[.b (true)],[.b (true)],[.b (true)],[.b (false)],[.b (false)],[.b (false)],[.b (false)],[.b (false)],[.b (false)],[.b (false)],[.b (false)],[.b (false)],[.b (false)],[.b (true)],[.b (true)]] ?_
  conv=>whnf
  refine ⟨⟨I,I,⟨(by omega),ixl (by assumption)⟩,I,I,I,dT (by omega),dT (by omega),dT (by omega),dT (by omega),dT (by omega),dT (by omega),dT (by omega),I,rfl,rfl,rfl,I,I,I,I,I,I,I,I,I,I,rfl,rfl,I⟩,by kernel_rfl,?_⟩
  refine W.cn ?_
  conv=>whnf
  refine ⟨fun _=>?_,noF (rfl)⟩
  refine g 119 120 [] ?_
  conv=>whnf
  refine ⟨⟨I,I⟩,?_⟩
  refine W.ret ?_
  refine EndsW.rt ?_
  conv=>whnf
  refine ⟨⟨I,I,I⟩,?_,rfl⟩
  rotate_left 1
  by_cases h9:(↑n3:Int) ≤ y2
  refine gd 88 119 [[],[],[.x (intT y2)],[],[],[],[.b (false)],[.b (false)],[.b (false),.x (intT y2)],[.b (false)],[.b (false)],[.b (false)],[.b (false)],[],[.b (true)],[.b (true)],[.b (true)],[.b (false)],[.b (false)],[.b (false)],[.b (false)],[.b (false)],[.b (false)],[.b (false)],[.b (false)],[.b (false)],[.b (false)],[.b (true)],[.b (true)]] ?_
  conv=>whnf
  refine ⟨⟨I,I,⟨(by omega),ixl (by assumption)⟩,I,I,I,⟨dF (by omega),I⟩,⟨dF (by omega),I⟩,⟨dF (by omega),(by omega),ixl (by assumption)⟩,⟨dF (by omega),I⟩,⟨dF (by omega),I⟩,⟨dF (by omega),I⟩,dF (by omega),I,dT (by omega),dT (by omega),dT (by omega),I,I,I,I,I,I,I,I,I,I,dT (by omega),dT (by omega),I⟩,by kernel_rfl,?_⟩
  refine W.cn ?_
  conv=>whnf
  refine ⟨fun _=>?_,noF (rfl)⟩
  refine g 119 120 [] ?_
  conv=>whnf
  refine ⟨⟨I,I⟩,?_⟩
  refine W.ret ?_
  refine EndsW.rt ?_
  conv=>whnf
  refine ⟨⟨I,I,I⟩,?_,rfl⟩
  rotate_left 1
  by_cases h10:(0:Int) < (↑k:Int)
  obtain ⟨y3,hy3⟩:=some_at (xs:=Task.deps y1) (n:=Int.toNat ((↑k:Int) - (1:Int))) (by omega)
  refine gd 88 119 [[],[],[.x (intT y2)],[],[],[],[.b (false)],[.b (false)],[.b (false),.x (intT y2)],[.b (false)],[.b (false)],[.b (false)],[.b (false)],[],[.b (false)],[.b (false)],[.b (false)],[.b (true)],[.b (true)],[.b (true),.i ((↑k:Int) - (1:Int))],[.b (true),.x (intT y3)],[.b (true)],[.b (true)],[.b (true)],[.b (true),.x (intT y2)],[.b (true)],[.b (true)],[.b (false),.b (true)],[.b (false)]] ?_
  conv=>whnf
  refine ⟨⟨I,I,⟨(by omega),ixl (by assumption)⟩,I,I,I,⟨dF (by omega),I⟩,⟨dF (by omega),I⟩,⟨dF (by omega),(by omega),ixl (by assumption)⟩,⟨dF (by omega),I⟩,⟨dF (by omega),I⟩,⟨dF (by omega),I⟩,dF (by omega),I,⟨dF (by omega),I⟩,⟨dF (by omega),I⟩,⟨dF (by omega),I⟩,⟨dT (by omega),I⟩,⟨dT (by omega),I⟩,⟨dT (by omega),w64 (by omega) (by omega)⟩,⟨dT (by omega),(by omega),ixl (by assumption)⟩,⟨dT (by omega),I⟩,⟨dT (by omega),I⟩,⟨dT (by omega),I⟩,⟨dT (by omega),(by omega),ixl (by assumption)⟩,⟨dT (by omega),I⟩,⟨dT (by omega),I⟩,⟨dF (by omega),dT (by omega)⟩,dF (by omega),I⟩,by kernel_rfl,?_⟩
  refine W.cn ?_
  conv=>whnf
  refine ⟨fun h11=>?_,fun h11=>?_⟩
  replace h11:=dt h11
  refine g 119 120 [] ?_
  conv=>whnf
  refine ⟨⟨I,I⟩,?_⟩
  refine W.ret ?_
  refine EndsW.rt ?_
  conv=>whnf
  refine ⟨⟨I,I,I⟩,?_,rfl⟩
  rotate_left 1
  replace h11:=df h11
  refine W.skip ?_
  refine rg [.i ((↑k:Int) + (1:Int))] ?_
  conv=>whnf
  refine ⟨⟨I,w64 (by omega) (by omega),I,I⟩,?_⟩
  rotate_left 1
  refine gd 88 119 [[],[],[.x (intT y2)],[],[],[],[.b (false)],[.b (false)],[.b (false),.x (intT y2)],[.b (false)],[.b (false)],[.b (false)],[.b (false)],[],[.b (false)],[.b (false)],[.b (false)],[.b (false)],[.b (false)],[.b (false)],[.b (false)],[.b (false)],[.b (false)],[.b (false)],[.b (false)],[.b (false)],[.b (false)],[.b (false),.b (false)],[.b (false)]] ?_
  conv=>whnf
  refine ⟨⟨I,I,⟨(by omega),ixl (by assumption)⟩,I,I,I,⟨dF (by omega),I⟩,⟨dF (by omega),I⟩,⟨dF (by omega),(by omega),ixl (by assumption)⟩,⟨dF (by omega),I⟩,⟨dF (by omega),I⟩,⟨dF (by omega),I⟩,dF (by omega),I,⟨dF (by omega),I⟩,⟨dF (by omega),I⟩,⟨dF (by omega),I⟩,dF (by omega),dF (by omega),dF (by omega),dF (by omega),dF (by omega),dF (by omega),dF (by omega),dF (by omega),dF (by omega),dF (by omega),⟨dF (by omega),dF (by omega)⟩,dF (by omega),I⟩,by kernel_rfl,?_⟩
  refine W.cn ?_
  conv=>whnf
  refine ⟨noT (rfl),fun _=>?_⟩
  refine W.skip ?_
  refine rg [.i ((↑k:Int) + (1:Int))] ?_
  conv=>whnf
  refine ⟨⟨I,w64 (by omega) (by omega),I,I⟩,?_⟩
  rotate_left 1
  replace h7:=df h7
  simp only [List.length_map] at h7
  refine W.exit ?_
  refine rg [.i ((↑n3:Int) + (1:Int))] ?_
  conv=>whnf
  refine ⟨⟨I,w64 (by omega) (by omega),I,I⟩,?_⟩
  rotate_left 1
  ·exact vi (chk4 hlen hnames hcosts (deps_no hy1 (fun e=>incr_no hi hy2 (by omega) e.2))).symm
  ·exact vi (chk4 hlen hnames hcosts (deps_no hy1 (fun e=>incr_no hi hy2 (by omega) e.2))).symm
  ·have hl3:=last_at (hs (by omega)) hy3
   exact vi (chk4 hlen hnames hcosts (deps_no hy1 (fun e=>incr_no hi hy2 (by omega) e.2))).symm
  ·have hl3:=last_at (hs (by omega)) hy3
   refine ⟨(k + 1,y2),[some 1],[],⟨rfl,⟨rfl,rfl,rfl,rfl,rfl,rfl,rfl,I⟩,⟨⟨rfl,⟨rfl,I⟩⟩,I⟩,I⟩,?_,?_⟩
   rotate_left 1
   (dsimp only; omega)
   dsimp only
   exact ⟨by omega,incr_step hi hy2 (by omega),by omega,fun e=>by omega,fun _=>hy2⟩
  ·have hl3:=hz (by omega)
   refine ⟨(k + 1,y2),[some 1],[],⟨rfl,⟨rfl,rfl,rfl,rfl,rfl,rfl,rfl,I⟩,⟨⟨rfl,⟨rfl,I⟩⟩,I⟩,I⟩,?_,?_⟩
   rotate_left 1
   (dsimp only; omega)
   dsimp only
   exact ⟨by omega,incr_step hi hy2 (by omega),by omega,fun e=>by omega,fun _=>hy2⟩
  ·refine ⟨n3 + 1,[some 1],[],⟨rfl,⟨rfl,rfl,rfl,rfl,rfl,I⟩,⟨⟨rfl,⟨rfl,I⟩⟩,I⟩,I⟩,?_,?_⟩
   rotate_left 1
   (dsimp only; omega)
   dsimp only
   exact ⟨by omega,to_step hc3 hy1 ⟨by omega,incr_end hi (by omega)⟩⟩
 exact vi (chk0 hlen hnames hcosts (to_all hc3 (by omega))).symm
end Go.K
end
section
set_option linter.unusedVariables false
set_option linter.unusedSimpArgs false
set_option maxHeartbeats 4000000
set_option maxRecDepth 20000
open Go Go.Tm Go.Proofs
namespace Go.K
theorem wf_Task {n:Nat} {x:List T} (h:wfT E (n + 3) ty_laws_Task x):∃ v:Task,x = taskT v ∧ taskWf v:=by
 obtain ⟨y0,z0,e0,⟨name,rfl,hname⟩,y1,z1,e1,⟨cost,rfl,_,_⟩,y2,z2,e2,⟨ldeps,rfl,hdeps,gdeps⟩,e3⟩:=h
 subst e3
 subst e2
 subst e1
 obtain ⟨deps,rfl,_⟩:=map_of (f:=intT) (p:=fun _=>True) (xs:=ldeps) fun y hy=>by obtain ⟨m,hm,_⟩:=gdeps y hy; exact ⟨m,hm,trivial⟩
 subst e0
 exact ⟨⟨name,cost,deps⟩,rfl,⟨hname,by rw [List.length_map] at hdeps; exact hdeps⟩⟩
theorem wf_Plan {n:Nat} {x:List T} (h:wfT E (n + 5) ty_laws_Plan x):∃ v:Plan,x = planT v ∧ planWf v:=by
 obtain ⟨y0,z0,e0,⟨ltasks,rfl,htasks,gtasks⟩,e1⟩:=h
 subst e1
 obtain ⟨tasks,rfl,wtasks⟩:=map_of (f:=taskT) (p:=taskWf) (xs:=ltasks) fun y hy=>wf_Task (gtasks y hy)
 subst e0
 exact ⟨⟨tasks⟩,rfl,⟨by rw [List.length_map] at htasks; exact htasks,wtasks⟩⟩
end Go.K
end
section
set_option linter.unusedVariables false
set_option linter.unusedSimpArgs false
open Go Go.Tm Go.Proofs
namespace Go.K
/-- What a list of numbers of results stands for. -/
def pickL (all:List ByteArray) (ds:List Int):List ByteArray:=ds.map fun d=>(all[d.toNat]?).getD emp
/-- All that is named has a result. -/
def readyB (rs:List ByteArray) (ds:List Int):Prop:=∀ d ∈ ds,¬ (rs[d.toNat]?).getD emp = emp
noncomputable instance (rs:List ByteArray) (ds:List Int):Decidable (readyB rs ds):=Classical.propDecidable _
structure Tale where
 epoch:Int
 results:List ByteArray
open Classical in
noncomputable def stepR (ts:List Task) (st:Tale) (s:ByteArray):Option Tale :=
 match readS s with
 | none=>none
 | some e =>
   if e.kind = 1 then (if e.epoch = st.epoch + 1 then some ⟨e.epoch,st.results⟩ else none)
   else if e.epoch = st.epoch ∧ e.task < ts.length ∧ (st.results[e.task.toNat]?).getD emp = emp ∧ readyB st.results ((ts[e.task.toNat]?).map Task.deps |>.getD []) then some ⟨st.epoch,st.results.set e.task.toNat e.text⟩ else none
noncomputable def runR (ts:List Task) (st:Option Tale) (l:List ByteArray):Option Tale:=l.foldl (fun a s=>a.bind fun t=>stepR ts t s) st
noncomputable def tale0 (ts:List Task):Tale:=⟨0,List.replicate ts.length emp⟩
theorem runR_app (ts:List Task) (l:List ByteArray) (st:Option Tale) (m:List ByteArray):runR ts st (l ++ m) = runR ts (runR ts st l) m:=by unfold runR; rw [List.foldl_append]
theorem runR_none (ts:List Task):∀ (l:List ByteArray),runR ts none l = none
 | []=>rfl
 | s :: l=>runR_none ts l
theorem runR_nil (ts:List Task) (st:Option Tale):runR ts st [] = st:=rfl
theorem runR_cons (ts:List Task) (t:Tale) (s:ByteArray) (l:List ByteArray):runR ts (some t) (s :: l) = runR ts (stepR ts t s) l:=rfl
theorem runR_take {ts:List Task} {xs:List ByteArray} {n:Nat} {s:ByteArray} {st:Option Tale} {t:Tale} (h:runR ts st (xs.take n) = some t) (hs:xs[n]? = some s):runR ts st (xs.take (n + 1)) = stepR ts t s:=by
 rw [List.take_add_one,hs,runR_app,h]; rfl
theorem runR_bad {ts:List Task} {xs:List ByteArray} {n:Nat} {s:ByteArray} {st:Option Tale} {t:Tale} (h:runR ts st (xs.take n) = some t) (hs:xs[n]? = some s) (hb:stepR ts t s = none):runR ts st xs = none:=by
 have h2:=runR_take h hs
 rw [hb] at h2
 rw [← List.take_append_drop (n + 1) xs,runR_app,h2,runR_none]
theorem runR_all {ts:List Task} {xs:List ByteArray} {n:Nat} {st:Option Tale} {t:Tale} (h:runR ts st (xs.take n) = some t) (hn:xs.length ≤ n):runR ts st xs = some t:=by
 rw [List.take_of_length_le hn] at h; exact h
theorem stepR_len {ts:List Task} {t t':Tale} {s:ByteArray} (h:stepR ts t s = some t'):t'.results.length = t.results.length:=by
 unfold stepR at h
 split at h
 ·cases h
 ·split at h
  ·split at h
   ·cases h; rfl
   ·cases h
  ·split at h
   ·cases h; simp
   ·cases h
theorem runR_len (ts:List Task):∀ (l:List ByteArray) (t t':Tale),runR ts (some t) l = some t' → t'.results.length = t.results.length
 | [],t,t',h=>by rw [runR_nil] at h; cases h; rfl
 | s :: l,t,t',h=>by
   rw [runR_cons] at h
   cases hs:stepR ts t s with
   | none=>rw [hs,runR_none] at h; cases h
   | some u=>rw [hs] at h; rw [runR_len ts l u t' h,stepR_len hs]
end Go.K
end
section
set_option linter.unusedVariables false
set_option linter.unusedSimpArgs false
set_option maxHeartbeats 4000000
set_option maxRecDepth 20000
open Go Go.Tm Go.Proofs
namespace Go.K
abbrev ints (ds:List Int):T:=.slc [false] (ds.map intT)
theorem ready_no {rs:List ByteArray} {ds:List Int} {n:Nat} {d:Int} {y:ByteArray} (h:ds[n]? = some d) (hy:rs[d.toNat]? = some y) (e:y = emp):¬ readyB rs ds:=fun hr=>hr d (List.mem_of_getElem? h) (by rw [hy]; exact e)
theorem ready_step {rs:List ByteArray} {ds:List Int} {n:Nat} {d:Int} {y:ByteArray} (hc:readyB rs (ds.take n)) (h:ds[n]? = some d) (hy:rs[d.toNat]? = some y) (e:¬ y = emp):readyB rs (ds.take (n + 1)):=by
 intro x hx
 rw [List.take_add_one,h] at hx
 rcases List.mem_append.1 hx with hx | hx
 ·exact hc x hx
 ·rw [Option.toList,List.mem_singleton] at hx; subst hx; rw [hy]; exact e
theorem c_impl_ready (all:List ByteArray) (ds:List Int) (hd:∀ d ∈ ds,0 ≤ d ∧ d < all.length) (hl:ds.length ≤ 1048576):F n_impl_ready [.val (.t (strs all)),.val (.t (ints ds))] (.b (decide (readyB all ds))) [[],[]]:=by
 refine i_impl_ready ?_
 conv=>whnf
 refine g 0 0 [] ?_
 conv=>whnf
 refine ⟨⟨I,I⟩,?_⟩
 refine W.sq ?_
 refine g 1 2 [] ?_
 conv=>whnf
 refine ⟨⟨I,I,I,I⟩,?_⟩
 refine W.blk ?_
 refine W.lp (fun s (n:Nat)=>⟨[(0,s.s 0),(7,s.s 7),(8,s.s 8),(9,.i n)],[],[]⟩) (fun (n:Nat)=>n ≤ ds.length ∧ readyB all (ds.take n)) (fun (n:Nat)=>ds.length - n) (0) [] [] ⟨rfl,⟨rfl,rfl,rfl,rfl,I⟩,I,I⟩ ?_ ?_
 ·exact ⟨Nat.zero_le _,by unfold readyB; simp⟩
 rintro n ⟨hn,hc⟩
 conv=>whnf
 refine g 0 0 [] ?_
 conv=>whnf
 refine ⟨⟨I,I⟩,?_⟩
 refine W.sq ?_
 refine W.cn ?_
 conv=>whnf
 refine ⟨fun h1=>?_,fun h1=>?_⟩
 replace h1:=dt h1
 simp only [List.length_map] at h1
 refine W.skip ?_
 refine W.sq ?_
 refine W.blk ?_
 obtain ⟨y1,hy1⟩:=some_at (xs:=ds) (n:=n) (by omega)
 have hm1:=hd y1 (List.mem_of_getElem? hy1)
 refine g 10 13 [.x (intT y1)] ?_
 conv=>whnf
 refine ⟨⟨⟨(by omega),ixl (by assumption)⟩,I,I,I⟩,?_⟩
 obtain ⟨y2,hy2⟩:=some_at (xs:=all) (n:=Int.toNat y1) (by omega)
 refine g 13 17 [.x (strT y2)] ?_
 conv=>whnf
 refine ⟨⟨I,I,⟨(by omega),ixl (by assumption)⟩,I,I,I⟩,?_⟩
 refine W.cn ?_
 conv=>whnf
 refine ⟨fun h2=>?_,fun h2=>?_⟩
 replace h2:=dt h2
 refine g 6 7 [] ?_
 conv=>whnf
 refine ⟨⟨I,I⟩,?_⟩
 refine W.ret ?_
 refine EndsW.rt ?_
 conv=>whnf
 refine ⟨⟨I,I,I⟩,?_,rfl⟩
 rotate_left 1
 replace h2:=df h2
 refine W.skip ?_
 refine rg [.i ((↑n:Int) + (1:Int))] ?_
 conv=>whnf
 refine ⟨⟨w64 (by omega) (by omega),I,I⟩,?_⟩
 rotate_left 1
 replace h1:=df h1
 simp only [List.length_map] at h1
 refine W.exit ?_
 refine g 7 11 [] ?_
 conv=>whnf
 refine ⟨⟨I,I⟩,?_⟩
 refine W.ret ?_
 refine EndsW.rt ?_
 conv=>whnf
 refine ⟨⟨I,I,I⟩,?_,rfl⟩
 rotate_left 1
 ·exact vbf (ready_no (by assumption) (by assumption) (by assumption))
 ·refine ⟨n + 1,[],[],⟨rfl,⟨rfl,rfl,rfl,rfl,I⟩,I,I⟩,?_,?_⟩
  rotate_left 1
  (dsimp only; omega)
  dsimp only
  exact ⟨by omega,ready_step hc (by assumption) (by assumption) (by assumption)⟩
 ·exact vbt (by rw [List.take_of_length_le (by omega)] at hc; exact hc)
end Go.K
end
section
set_option linter.unusedVariables false
set_option linter.unusedSimpArgs false
set_option maxHeartbeats 4000000
set_option maxRecDepth 20000
open Go Go.Tm Go.Proofs
namespace Go.K
theorem incr_range {hi:Int}:∀ {last:Int} {ds:List Int},incr last hi ds → ∀ d ∈ ds,last < d ∧ d < hi
 | _,[],_,d,h=>by cases h
 | last,x :: ds,h,d,hd=>by
   rw [incr] at h
   rcases List.mem_cons.1 hd with e | hd
   ·subst e; exact h.1
   ·have:=incr_range h.2 d hd; omega
theorem chk_inv {ts:List Task} (h:checkPlan ts = 0):(1 ≤ ts.length ∧ ts.length ≤ 40) ∧ namesOk ts ∧ costsOk ts ∧ depsOk ts:=by
 by_cases h1:1 ≤ ts.length ∧ ts.length ≤ 40
 ·by_cases h2:namesOk ts
  ·by_cases h3:costsOk ts
   ·by_cases h4:depsOk ts
    ·exact ⟨h1,h2,h3,h4⟩
    ·rw [chk4 h1 h2 h3 h4] at h; cases h
   ·rw [chk3 h1 h2 h3] at h; cases h
  ·rw [chk2 h1 h2] at h; cases h
 ·rw [chk1 h1] at h; cases h
theorem chk_task {ts:List Task} (h:checkPlan ts = 0) {n:Nat} {t:Task} (ht:ts[n]? = some t):(1 ≤ t.name.size ∧ t.name.size ≤ 30) ∧ (1 ≤ t.cost ∧ t.cost ≤ 20) ∧ t.deps.length ≤ 8 ∧ ∀ d ∈ t.deps,0 ≤ d ∧ d < n:=by
 obtain ⟨h1,h2,h3,h4⟩:=chk_inv h
 have hn:=(List.getElem?_eq_some_iff.1 ht).1
 refine ⟨(h2 n t hn ht).1.2,h3 t (List.mem_of_getElem? ht),(h4 n t hn ht).1,fun d hd=>?_⟩
 have:=incr_range (h4 n t hn ht).2 d hd
 omega
end Go.K
end

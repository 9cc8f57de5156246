/- Contracts of functions of the program: what each call answers. -/
import Derived.Test.YtoknlfldllmhpaaPartc
import Derived.Test.YtoknlfldllmhpaaProg
set_option maxHeartbeats 8000000
set_option maxRecDepth 20000
set_option linter.unusedVariables false
set_option linter.unusedSimpArgs false
section
open Go Go.Tm Go.Proofs
namespace Go.K
def E:Env:=(.node (.node (.node (.node (.node (.node (.node .nil 2 ⟨(.int .i64),[.t (.v (.int .i64 0))],8⟩ .nil) 3 ⟨(.int .i64),[.t (.v (.int .i64 0))],8⟩ .nil) 4 ⟨.bool,[.b false],1⟩ (.node .nil 5 ⟨(.int .u8),[.t (.v (.int .u8 0))],1⟩ .nil)) 6 ⟨(.int .u8),[.t (.v (.int .u8 0))],1⟩ (.node (.node (.node .nil 7 ⟨(.struct [(0,2),(1,3),(2,4),(3,6)]),[.t (.v (.int .i64 0)),.t (.v (.int .i64 0)),.b false,.t (.v (.int .u8 0))],24⟩ .nil) 9 ⟨.str,[.s ⟨#[]⟩],16⟩ .nil) 12 ⟨(.int .u64),[.t (.v (.int .u64 0))],8⟩ (.node .nil 13 ⟨(.struct [(0,9),(1,12)]),[.s ⟨#[]⟩,.t (.v (.int .u64 0))],24⟩ .nil))) 17 ⟨(.ptr 190),[.t (.v (.pointer none))],8⟩ (.node (.node (.node (.node .nil 18 ⟨(.struct [(0,17)]),[.t (.v (.pointer none))],8⟩ .nil) 19 ⟨(.struct [(0,17)]),[.t (.v (.pointer none))],8⟩ .nil) 21 ⟨(.int .i32),[.t (.v (.int .i32 0))],4⟩ (.node .nil 22 ⟨(.slice 5),[.own [false] []],24⟩ .nil)) 23 ⟨(.slice 9),[.own [false] []],24⟩ (.node (.node (.node .nil 24 ⟨(.struct [(0,23),(1,23)]),[.own [false] [],.own [false] []],48⟩ .nil) 25 ⟨(.struct [(0,23),(1,23)]),[.own [false] [],.own [false] []],48⟩ .nil) 26 ⟨(.slice 86),[.own [false,false,false] []],24⟩ (.node .nil 27 ⟨(.slice 79),[.own [false,false] []],24⟩ .nil)))) 28 ⟨(.slice 81),[.own [false,false,false] []],24⟩ (.node (.node (.node (.node (.node .nil 29 ⟨(.struct [(0,3),(1,4),(2,3),(3,3),(4,3),(5,3),(6,25),(8,23),(9,26),(10,27),(11,28)]),[.t (.v (.int .i64 0)),.b false,.t (.v (.int .i64 0)),.t (.v (.int .i64 0)),.t (.v (.int .i64 0)),.t (.v (.int .i64 0)),.own [false] [],.own [false] [],.own [false] [],.own [false,false,false] [],.own [false,false] [],.own [false,false,false] []],192⟩ .nil) 30 ⟨(.struct [(0,3),(1,4),(2,3),(3,3),(4,3),(5,3),(6,25),(8,23),(9,26),(10,27),(11,28)]),[.t (.v (.int .i64 0)),.b false,.t (.v (.int .i64 0)),.t (.v (.int .i64 0)),.t (.v (.int .i64 0)),.t (.v (.int .i64 0)),.own [false] [],.own [false] [],.own [false] [],.own [false,false,false] [],.own [false,false] [],.own [false,false,false] []],192⟩ .nil) 31 ⟨(.slice 70),[.own [false,false,true] []],24⟩ (.node .nil 32 ⟨(.struct [(0,31)]),[.own [false,false,true] []],24⟩ .nil)) 33 ⟨(.struct [(0,31)]),[.own [false,false,true] []],24⟩ (.node (.node (.node .nil 40 ⟨(.struct [(0,3),(1,3),(2,23)]),[.t (.v (.int .i64 0)),.t (.v (.int .i64 0)),.own [false] []],40⟩ .nil) 41 ⟨(.struct [(0,3),(1,3),(2,23)]),[.t (.v (.int .i64 0)),.t (.v (.int .i64 0)),.own [false] []],40⟩ .nil) 46 ⟨(.slice 101),[.own [false,false,false,false,false,false,false,false,true,false,false] []],24⟩ (.node .nil 47 ⟨(.slice 63),[.own [false,false,false] []],24⟩ .nil))) 48 ⟨(.struct [(0,33),(1,9),(2,30),(14,46),(15,47),(16,9)]),[.own [false,false,true] [],.s ⟨#[]⟩,.t (.v (.int .i64 0)),.b false,.t (.v (.int .i64 0)),.t (.v (.int .i64 0)),.t (.v (.int .i64 0)),.t (.v (.int .i64 0)),.own [false] [],.own [false] [],.own [false] [],.own [false,false,false] [],.own [false,false] [],.own [false,false,false] [],.own [false,false,false,false,false,false,false,false,true,false,false] [],.own [false,false,false] [],.s ⟨#[]⟩],296⟩ (.node (.node (.node (.node .nil 49 ⟨(.struct [(0,33),(1,9),(2,30),(14,46),(15,47),(16,9)]),[.own [false,false,true] [],.s ⟨#[]⟩,.t (.v (.int .i64 0)),.b false,.t (.v (.int .i64 0)),.t (.v (.int .i64 0)),.t (.v (.int .i64 0)),.t (.v (.int .i64 0)),.own [false] [],.own [false] [],.own [false] [],.own [false,false,false] [],.own [false,false] [],.own [false,false,false] [],.own [false,false,false,false,false,false,false,false,true,false,false] [],.own [false,false,false] [],.s ⟨#[]⟩],296⟩ .nil) 52 ⟨(.slice 57),[.own [false,false,false,false] []],24⟩ .nil) 54 ⟨(.slice 3),[.own [false] []],24⟩ (.node .nil 56 ⟨(.struct [(0,3),(1,3),(2,3),(3,3)]),[.t (.v (.int .i64 0)),.t (.v (.int .i64 0)),.t (.v (.int .i64 0)),.t (.v (.int .i64 0))],32⟩ .nil)) 57 ⟨(.struct [(0,3),(1,3),(2,3),(3,3)]),[.t (.v (.int .i64 0)),.t (.v (.int .i64 0)),.t (.v (.int .i64 0)),.t (.v (.int .i64 0))],32⟩ (.node (.node .nil 58 ⟨(.struct [(0,3),(1,3),(2,3),(3,3),(4,3),(5,3),(6,9),(7,23)]),[.t (.v (.int .i64 0)),.t (.v (.int .i64 0)),.t (.v (.int .i64 0)),.t (.v (.int .i64 0)),.t (.v (.int .i64 0)),.t (.v (.int .i64 0)),.s ⟨#[]⟩,.own [false] []],88⟩ .nil) 59 ⟨(.struct [(0,3),(1,3),(2,3),(3,3),(4,3),(5,3),(6,9),(7,23)]),[.t (.v (.int .i64 0)),.t (.v (.int .i64 0)),.t (.v (.int .i64 0)),.t (.v (.int .i64 0)),.t (.v (.int .i64 0)),.t (.v (.int .i64 0)),.s ⟨#[]⟩,.own [false] []],88⟩ (.node .nil 62 ⟨(.struct [(0,3),(1,9),(2,9)]),[.t (.v (.int .i64 0)),.s ⟨#[]⟩,.s ⟨#[]⟩],40⟩ .nil))))) 63 ⟨(.struct [(0,3),(1,9),(2,9)]),[.t (.v (.int .i64 0)),.s ⟨#[]⟩,.s ⟨#[]⟩],40⟩ (.node (.node (.node (.node (.node (.node .nil 69 ⟨(.struct [(0,9),(1,3),(2,54)]),[.s ⟨#[]⟩,.t (.v (.int .i64 0)),.own [false] []],48⟩ .nil) 70 ⟨(.struct [(0,9),(1,3),(2,54)]),[.s ⟨#[]⟩,.t (.v (.int .i64 0)),.own [false] []],48⟩ .nil) 71 ⟨(.ptr 114),[.t (.v (.pointer none))],8⟩ (.node .nil 78 ⟨(.struct [(0,4),(1,3)]),[.b false,.t (.v (.int .i64 0))],16⟩ .nil)) 79 ⟨(.struct [(0,4),(1,3)]),[.b false,.t (.v (.int .i64 0))],16⟩ (.node (.node (.node .nil 80 ⟨(.struct [(0,3),(1,3),(2,3)]),[.t (.v (.int .i64 0)),.t (.v (.int .i64 0)),.t (.v (.int .i64 0))],24⟩ .nil) 81 ⟨(.struct [(0,3),(1,3),(2,3)]),[.t (.v (.int .i64 0)),.t (.v (.int .i64 0)),.t (.v (.int .i64 0))],24⟩ .nil) 84 ⟨(.map 3 4),[.t (.v (.map none))],8⟩ (.node .nil 85 ⟨(.struct [(0,3),(1,3),(2,3)]),[.t (.v (.int .i64 0)),.t (.v (.int .i64 0)),.t (.v (.int .i64 0))],24⟩ .nil))) 86 ⟨(.struct [(0,3),(1,3),(2,3)]),[.t (.v (.int .i64 0)),.t (.v (.int .i64 0)),.t (.v (.int .i64 0))],24⟩ (.node (.node (.node (.node .nil 92 ⟨(.struct [(0,3),(1,3),(2,3),(3,9)]),[.t (.v (.int .i64 0)),.t (.v (.int .i64 0)),.t (.v (.int .i64 0)),.s ⟨#[]⟩],40⟩ .nil) 93 ⟨(.struct [(0,3),(1,3),(2,3),(3,9)]),[.t (.v (.int .i64 0)),.t (.v (.int .i64 0)),.t (.v (.int .i64 0)),.s ⟨#[]⟩],40⟩ .nil) 100 ⟨(.struct [(0,3),(1,3),(2,4),(3,3),(4,3),(5,3),(6,3),(7,3),(8,23),(9,9),(10,3)]),[.t (.v (.int .i64 0)),.t (.v (.int .i64 0)),.b false,.t (.v (.int .i64 0)),.t (.v (.int .i64 0)),.t (.v (.int .i64 0)),.t (.v (.int .i64 0)),.t (.v (.int .i64 0)),.own [false] [],.s ⟨#[]⟩,.t (.v (.int .i64 0))],112⟩ (.node .nil 101 ⟨(.struct [(0,3),(1,3),(2,4),(3,3),(4,3),(5,3),(6,3),(7,3),(8,23),(9,9),(10,3)]),[.t (.v (.int .i64 0)),.t (.v (.int .i64 0)),.b false,.t (.v (.int .i64 0)),.t (.v (.int .i64 0)),.t (.v (.int .i64 0)),.t (.v (.int .i64 0)),.t (.v (.int .i64 0)),.own [false] [],.s ⟨#[]⟩,.t (.v (.int .i64 0))],112⟩ .nil)) 111 ⟨(.int .u64),[.t (.v (.int .u64 0))],8⟩ (.node (.node .nil 113 ⟨(.struct [(0,22),(1,3)]),[.own [false] [],.t (.v (.int .i64 0))],32⟩ .nil) 114 ⟨(.struct [(0,22),(1,3)]),[.own [false] [],.t (.v (.int .i64 0))],32⟩ (.node .nil 117 ⟨(.map 9 4),[.t (.v (.map none))],8⟩ .nil)))) 119 ⟨(.ptr 30),[.t (.v (.pointer none))],8⟩ (.node (.node (.node (.node (.node .nil 127 ⟨(.ptr 49),[.t (.v (.pointer none))],8⟩ .nil) 131 ⟨(.ptr 101),[.t (.v (.pointer none))],8⟩ .nil) 137 ⟨(.slice 59),[.own [false,false,false,false,false,false,false,true] []],24⟩ (.node .nil 139 ⟨(.struct [(0,101),(11,137)]),[.t (.v (.int .i64 0)),.t (.v (.int .i64 0)),.b false,.t (.v (.int .i64 0)),.t (.v (.int .i64 0)),.t (.v (.int .i64 0)),.t (.v (.int .i64 0)),.t (.v (.int .i64 0)),.own [false] [],.s ⟨#[]⟩,.t (.v (.int .i64 0)),.own [false,false,false,false,false,false,false,true] []],136⟩ .nil)) 140 ⟨(.struct [(0,101),(11,137)]),[.t (.v (.int .i64 0)),.t (.v (.int .i64 0)),.b false,.t (.v (.int .i64 0)),.t (.v (.int .i64 0)),.t (.v (.int .i64 0)),.t (.v (.int .i64 0)),.t (.v (.int .i64 0)),.own [false] [],.s ⟨#[]⟩,.t (.v (.int .i64 0)),.own [false,false,false,false,false,false,false,true] []],136⟩ (.node (.node (.node .nil 146 ⟨(.int .u64),[.t (.v (.int .u64 0))],8⟩ .nil) 147 ⟨(.int .u64),[.t (.v (.int .u64 0))],8⟩ .nil) 159 ⟨(.ptr 79),[.t (.v (.pointer none))],8⟩ (.node .nil 161 ⟨(.ptr 147),[.t (.v (.pointer none))],8⟩ .nil))) 163 ⟨(.struct [(0,30),(12,137)]),[.t (.v (.int .i64 0)),.b false,.t (.v (.int .i64 0)),.t (.v (.int .i64 0)),.t (.v (.int .i64 0)),.t (.v (.int .i64 0)),.own [false] [],.own [false] [],.own [false] [],.own [false,false,false] [],.own [false,false] [],.own [false,false,false] [],.own [false,false,false,false,false,false,false,true] []],216⟩ (.node (.node (.node (.node .nil 164 ⟨(.struct [(0,30),(12,137)]),[.t (.v (.int .i64 0)),.b false,.t (.v (.int .i64 0)),.t (.v (.int .i64 0)),.t (.v (.int .i64 0)),.t (.v (.int .i64 0)),.own [false] [],.own [false] [],.own [false] [],.own [false,false,false] [],.own [false,false] [],.own [false,false,false] [],.own [false,false,false,false,false,false,false,true] []],216⟩ .nil) 176 ⟨(.struct [(0,17),(1,17),(2,17),(3,9)]),[.t (.v (.pointer none)),.t (.v (.pointer none)),.t (.v (.pointer none)),.s ⟨#[]⟩],40⟩ .nil) 182 ⟨(.int .u32),[.t (.v (.int .u32 0))],4⟩ (.node .nil 183 ⟨(.int .u8),[.t (.v (.int .u8 0))],1⟩ .nil)) 184 ⟨(.int .u8),[.t (.v (.int .u8 0))],1⟩ (.node (.node .nil 186 ⟨(.ptr 5),[.t (.v (.pointer none))],8⟩ .nil) 187 ⟨(.int .i32),[.t (.v (.int .i32 0))],4⟩ (.node .nil 188 ⟨(.int .i32),[.t (.v (.int .i32 0))],4⟩ .nil))))))
set_option maxRecDepth 10000 in
theorem Ps:EnvOk Try.prog E:=by
 unfold E
 repeat (first|exact EnvOk.nil|refine EnvOk.node ?_ ⟨by kernel_rfl,by kernel_rfl,by simp,by simp[uL,sc],by simp[Ty.agg],by simp,by simp,by simp⟩ ?_)
def md(f:FuncId):List Md:=(bif Nat.blt f 67 then(bif Nat.blt f 35 then(bif Nat.blt f 19 then(bif Nat.blt f 11 then(bif Nat.blt f 7 then(bif Nat.blt f 5 then(bif Nat.blt f 4 then [.v]else [.v,.v])else(bif Nat.blt f 6 then [.v,.v]else [.v]))else(bif Nat.blt f 9 then(bif Nat.blt f 8 then [.v,.v]else [.v,.v])else(bif Nat.blt f 10 then [.v,.v]else [.v,.v,.v])))else(bif Nat.blt f 15 then(bif Nat.blt f 13 then(bif Nat.blt f 12 then [.v,.v]else [.v,.v])else(bif Nat.blt f 14 then [.v,.v,.v]else [.v,.v]))else(bif Nat.blt f 17 then(bif Nat.blt f 16 then [.v,.v]else [.v,.v])else(bif Nat.blt f 18 then [.v]else [.v,.v,.v]))))else(bif Nat.blt f 27 then(bif Nat.blt f 23 then(bif Nat.blt f 21 then(bif Nat.blt f 20 then [.v]else [.v])else(bif Nat.blt f 22 then [.v,.v]else [.v,.v]))else(bif Nat.blt f 25 then(bif Nat.blt f 24 then [.v,.v,.v,.v]else [.v,.v])else(bif Nat.blt f 26 then [.v]else [.v])))else(bif Nat.blt f 31 then(bif Nat.blt f 29 then(bif Nat.blt f 28 then [.v,.v]else [.v])else(bif Nat.blt f 30 then [.p]else [.p,.v]))else(bif Nat.blt f 33 then(bif Nat.blt f 32 then [.v,.v,.v]else [.v])else(bif Nat.blt f 34 then [.v]else [.v,.v])))))else(bif Nat.blt f 51 then(bif Nat.blt f 43 then(bif Nat.blt f 39 then(bif Nat.blt f 37 then(bif Nat.blt f 36 then [.v]else [.v,.v,.v])else(bif Nat.blt f 38 then [.v]else [.v,.v]))else(bif Nat.blt f 41 then(bif Nat.blt f 40 then [.v]else [.p,.v])else(bif Nat.blt f 42 then [.p,.v]else [.v,.v])))else(bif Nat.blt f 47 then(bif Nat.blt f 45 then(bif Nat.blt f 44 then [.v]else [.v])else(bif Nat.blt f 46 then [.v]else [.v,.v,.v]))else(bif Nat.blt f 49 then(bif Nat.blt f 48 then [.p]else [.p,.mv])else(bif Nat.blt f 50 then [.v]else [.v]))))else(bif Nat.blt f 59 then(bif Nat.blt f 55 then(bif Nat.blt f 53 then(bif Nat.blt f 52 then [.p]else [.v])else(bif Nat.blt f 54 then [.v]else [.p,.v]))else(bif Nat.blt f 57 then(bif Nat.blt f 56 then [.v,.v]else [.p])else(bif Nat.blt f 58 then [.p,.v]else [.v])))else(bif Nat.blt f 63 then(bif Nat.blt f 61 then(bif Nat.blt f 60 then [.v,.v]else [.v,.v])else(bif Nat.blt f 62 then [.v]else [.p]))else(bif Nat.blt f 65 then(bif Nat.blt f 64 then [.p]else [.p,.mv])else(bif Nat.blt f 66 then [.v]else [.v]))))))else(bif Nat.blt f 99 then(bif Nat.blt f 83 then(bif Nat.blt f 75 then(bif Nat.blt f 71 then(bif Nat.blt f 69 then(bif Nat.blt f 68 then [.v]else [.v])else(bif Nat.blt f 70 then [.v]else [.v]))else(bif Nat.blt f 73 then(bif Nat.blt f 72 then [.v]else [.v])else(bif Nat.blt f 74 then [.v,.v]else [.v])))else(bif Nat.blt f 79 then(bif Nat.blt f 77 then(bif Nat.blt f 76 then [.v]else [.v])else(bif Nat.blt f 78 then [.v,.v]else [.v,.v]))else(bif Nat.blt f 81 then(bif Nat.blt f 80 then [.v,.v]else [.v,.v,.v,.v])else(bif Nat.blt f 82 then [.p,.v]else [.v]))))else(bif Nat.blt f 91 then(bif Nat.blt f 87 then(bif Nat.blt f 85 then(bif Nat.blt f 84 then [.v]else [.v])else(bif Nat.blt f 86 then [.v]else [.v]))else(bif Nat.blt f 89 then(bif Nat.blt f 88 then [.p,.v]else [.mv,.v])else(bif Nat.blt f 90 then [.v,.v,.v]else [.p,.v,.v])))else(bif Nat.blt f 95 then(bif Nat.blt f 93 then(bif Nat.blt f 92 then [.mv,.v,.v]else [.v])else(bif Nat.blt f 94 then [.p,.v]else [.v]))else(bif Nat.blt f 97 then(bif Nat.blt f 96 then [.v]else [.v])else(bif Nat.blt f 98 then [.v,.v,.v]else [.mv,.v])))))else(bif Nat.blt f 115 then(bif Nat.blt f 107 then(bif Nat.blt f 103 then(bif Nat.blt f 101 then(bif Nat.blt f 100 then [.mv,.v]else [.mv])else(bif Nat.blt f 102 then [.v]else [.p]))else(bif Nat.blt f 105 then(bif Nat.blt f 104 then [.v]else [.v,.v])else(bif Nat.blt f 106 then [.v]else [.v,.v])))else(bif Nat.blt f 111 then(bif Nat.blt f 109 then(bif Nat.blt f 108 then [.v,.v]else [.v,.v])else(bif Nat.blt f 110 then [.v,.v]else [.p,.v,.v,.r 0]))else(bif Nat.blt f 113 then(bif Nat.blt f 112 then [.v,.v]else [.v,.v])else(bif Nat.blt f 114 then [.v,.v,.v,.v]else [.v]))))else(bif Nat.blt f 123 then(bif Nat.blt f 119 then(bif Nat.blt f 117 then(bif Nat.blt f 116 then [.v]else [.v,.v])else(bif Nat.blt f 118 then [.v,.v]else [.v,.v,.v]))else(bif Nat.blt f 121 then(bif Nat.blt f 120 then [.v,.v,.v]else [.v,.v])else(bif Nat.blt f 122 then [.v,.v]else [.v,.v,.v])))else(bif Nat.blt f 127 then(bif Nat.blt f 125 then(bif Nat.blt f 124 then [.v]else [.v])else(bif Nat.blt f 126 then [.p]else [.v,.v]))else(bif Nat.blt f 129 then(bif Nat.blt f 128 then [.mv,.v]else [.mv,.v,.v])else(bif Nat.blt f 130 then [.mv,.v]else(bif Nat.blt f 131 then [.v,.v]else [.v]))))))))
def sq(t:TypeId):Bool:=Nat.beq t 79||Nat.beq t 81||Nat.beq t 86
theorem Q3:∀ t,sq t = true→SqOk Try.prog t:=by
 intro t h
 simp only[sq,Bool.or_eq_true,Nat.beq_eq]at h
 rcases h with(rfl|rfl)|rfl
 all_goals exact⟨by kernel_rfl,by kernel_rfl,by kernel_rfl,by kernel_rfl⟩
def F(f:FuncId)(xs:List A)(res:V)(outs:List (List V)):Prop:=Enters Try.prog f∧Tm.Fn Try.prog f xs res outs
def C:Cx:=⟨E,F,md,sq⟩
theorem Pt:CxOk Try.prog C:=⟨Ps,Q3,fun _ _ _ _ h=>h⟩
variable {nt id:Nat} {ops:Array Oper} {y:Code} {H:HD} {Q:Exit→HD→Prop}
theorem g(lo hi:Nat)(ans:List Ans)(h:GV C nt ops ops.toList ans H fun p H=>l9 lo hi H fun H=>p∧W Try.prog nt y H Q):W Try.prog nt (.seq (.region id ops false) y) H Q:=W.sg Pt lo hi ans h
theorem rg(ans:List Ans)(h:GV C nt ops ops.toList ans H fun p H=>p∧Q .normal H):W Try.prog nt (.region id ops false) H Q:=W.rg Pt ans h
theorem O4:Try.prog.follows .mixedOrders = true:=by kernel_rfl
theorem gd(lo hi:Nat)(ans:List (List Ans))(h:GW C nt ops ops.toList ans H fun p r H=>l9 lo hi H fun H=>p∧Hq ops.toList r = true∧W Try.prog nt y H Q):W Try.prog nt (.seq (.region id ops true) y) H Q:=W.sgD Pt O4 lo hi ans h
theorem rgd(ans:List (List Ans))(h:GW C nt ops ops.toList ans H fun p r H=>p∧Hq ops.toList r = true∧Q .normal H):W Try.prog nt (.region id ops true) H Q:=W.rgD Pt O4 ans h
abbrev Q1(res:V)(outs:List (List V)):V→List (List V)→Prop:=fun r o=>r = res∧o = outs
def IT(i nt:Nat)(f:Func)(rs:List Rs):Prop:=∀ {xs:List A} {res:V} {outs:List (List V)} (hrun:jB (Je nt xs) fun H=>W Try.prog nt (oC f) H (EndsW nt E rs xs (Q1 res outs))) (h:(Gw xs && Nat.ble xs.length nt) = true:=by rfl),F i xs res outs
def XT(i nt:Nat)(f:Func)(rs:List Rs):Prop:=∀ {xs:List A} {R:V→List (List V)→Prop} (hrun:jB (Je nt xs) fun H=>W Try.prog nt (oC f) H (EndsW nt E rs xs R)) (h:(Gw xs && Nat.ble xs.length nt) = true:=by rfl),∃ res outs,R res outs∧F i xs res outs
theorem iM {i nt : Nat} {f : Func} {rs : List Rs} (hf : Try.prog.funcs[i]? = some f) (hb : f.body = some (oC f)) (hnt : f.ntmps = nt) (hrs : f.results = (rs.map kI).toArray) (h1 : (f.name == "runtime.NumGoroutine") = false ) (h2 : f.body.isNone = false) : IT i nt f rs := @fun _ _ _ hrun h => ⟨⟨f, hf, h1, h2⟩, Fn.one hf hb hnt Ps hrs h hrun⟩
theorem xM {i nt : Nat} {f : Func} {rs : List Rs} (hf : Try.prog.funcs[i]? = some f) (hb : f.body = some (oC f)) (hnt : f.ntmps = nt) (hrs : f.results = (rs.map kI).toArray) (h1 : (f.name == "runtime.NumGoroutine") = false ) (h2 : f.body.isNone = false) : XT i nt f rs := @fun _ _ hrun h => by obtain ⟨r, o, q1, q2⟩ := Fn.any hf hb hnt Ps hrs h hrun; exact ⟨r, o, q1, ⟨f, hf, h1, h2⟩, q2⟩
theorem RT{p q:Prop}(h:q)(f:Box q→p:=by
 intro h
 refine W.ret ?_
 refine EndsW.rt ?_
 conv=>whnf
 refine J (by repeat' first|exact I|refine J ?_ ?_) (J ?_ rfl)
 exact h.out):p:=f ⟨h⟩
abbrev xL:FuncId:=5
theorem gg:IT 5 169 Try.f5 [(4,4,false)]:=@iM _ _ _ _ Try.func5 rfl rfl rfl KR KR
abbrev jQ:FuncId:=7
theorem jW:IT 7 219 Try.f7 [(4,4,false)]:=@iM _ _ _ _ Try.func7 rfl rfl rfl KR KR
abbrev jR:FuncId:=8
theorem jX:IT 8 281 Try.f8 [(4,4,false)]:=@iM _ _ _ _ Try.func8 rfl rfl rfl KR KR
abbrev nX:FuncId:=14
theorem jz:IT 14 92 Try.f14 [(4,41,true)]:=@iM _ _ _ _ Try.func14 rfl rfl rfl KR KR
abbrev nW:FuncId:=16
theorem jx:IT 16 102 Try.f16 [(4,41,true)]:=@iM _ _ _ _ Try.func16 rfl rfl rfl KR KR
abbrev rL:FuncId:=17
abbrev ub:FuncId:=18
theorem eL:IT 18 46 Try.f18 [(6,49,true)]:=@iM _ _ _ _ Try.func18 rfl rfl rfl KR KR
abbrev rM:FuncId:=19
theorem r8:IT 19 120 Try.f19 [(2,3,false)]:=@iM _ _ _ _ Try.func19 rfl rfl rfl KR KR
abbrev pY:FuncId:=20
abbrev HV:FuncId:=21
theorem zr:IT 21 14 Try.f21 [(4,49,true)]:=@iM _ _ _ _ Try.func21 rfl rfl rfl KR KR
abbrev pX:FuncId:=25
theorem qg:IT 25 96 Try.f25 [(2,4,false)]:=@iM _ _ _ _ Try.func25 rfl rfl rfl KR KR
abbrev Ad:FuncId:=26
theorem qJ:IT 26 58 Try.f26 [(2,23,false)]:=@iM _ _ _ _ Try.func26 rfl rfl rfl KR KR
abbrev oS:FuncId:=27
theorem cy:IT 27 107 Try.f27 [(4,59,true),(5,4,false)]:=@iM _ _ _ _ Try.func27 rfl rfl rfl KR KR
abbrev xI:FuncId:=28
theorem yc:IT 28 11 Try.f28 [(2,71,false)]:=@iM _ _ _ _ Try.func28 rfl rfl rfl KR KR
abbrev eh:FuncId:=30
abbrev B7:FuncId:=31
theorem Cn:IT 31 15 Try.f31 [(6,4,false)]:=@iM _ _ _ _ Try.func31 rfl rfl rfl KR KR
abbrev Aa:FuncId:=32
theorem Ao:IT 32 10 Try.f32 [(2,23,false)]:=@iM _ _ _ _ Try.func32 rfl rfl rfl KR KR
abbrev rI:FuncId:=33
theorem r5:IT 33 5 Try.f33 [(2,4,false)]:=@iM _ _ _ _ Try.func33 rfl rfl rfl KR KR
abbrev tV:FuncId:=34
theorem ui:IT 34 96 Try.f34 [(4,4,false)]:=@iM _ _ _ _ Try.func34 rfl rfl rfl KR KR
abbrev rR:FuncId:=35
theorem se:IT 35 91 Try.f35 [(2,3,false)]:=@iM _ _ _ _ Try.func35 rfl rfl rfl KR KR
abbrev xN:FuncId:=36
theorem yd:IT 36 15 Try.f36 [(6,4,false)]:=@iM _ _ _ _ Try.func36 rfl rfl rfl KR KR
abbrev mV:FuncId:=37
theorem mX:IT 37 11 Try.f37 [(2,23,false)]:=@iM _ _ _ _ Try.func37 rfl rfl rfl KR KR
abbrev Ag:FuncId:=38
theorem Au:IT 38 19 Try.f38 [(4,4,false)]:=@iM _ _ _ _ Try.func38 rfl rfl rfl KR KR
abbrev jS:FuncId:=39
theorem sf:IT 39 33 Try.f39 [(2,30,true)]:=@iM _ _ _ _ Try.func39 rfl rfl rfl KR KR
abbrev rU:FuncId:=40
theorem jY:IT 40 42 Try.f40 []:=@iM _ _ _ _ Try.func40 rfl rfl rfl KR KR
abbrev fS:FuncId:=41
theorem er:IT 41 74 Try.f41 []:=@iM _ _ _ _ Try.func41 rfl rfl rfl KR KR
abbrev rO:FuncId:=44
theorem sa:IT 44 36 Try.f44 [(2,93,true),(3,4,false)]:=@iM _ _ _ _ Try.func44 rfl rfl rfl KR KR
abbrev rJ:FuncId:=45
theorem r6:IT 45 32 Try.f45 [(2,93,true),(3,4,false)]:=@iM _ _ _ _ Try.func45 rfl rfl rfl KR KR
abbrev xC:FuncId:=46
theorem xZ:IT 46 29 Try.f46 [(6,4,false)]:=@iM _ _ _ _ Try.func46 rfl rfl rfl KR KR
abbrev ju:FuncId:=47
abbrev ig:FuncId:=48
abbrev rP:FuncId:=49
theorem sb:IT 49 26 Try.f49 [(2,33,true)]:=@iM _ _ _ _ Try.func49 rfl rfl rfl KR KR
abbrev tW:FuncId:=50
theorem uj:IT 50 28 Try.f50 [(2,4,false)]:=@iM _ _ _ _ Try.func50 rfl rfl rfl KR KR
abbrev ic:FuncId:=51
abbrev qd:FuncId:=52
theorem ql:IT 52 87 Try.f52 [(2,4,false)]:=@iM _ _ _ _ Try.func52 rfl rfl rfl KR KR
abbrev p9:FuncId:=53
theorem qi:IT 53 36 Try.f53 [(2,49,true)]:=@iM _ _ _ _ Try.func53 rfl rfl rfl KR KR
abbrev ua:FuncId:=54
theorem aX:IT 54 131 Try.f54 []:=@iM _ _ _ _ Try.func54 rfl rfl rfl KR KR
abbrev qa:FuncId:=56
theorem iW:IT 56 62 Try.f56 []:=@iM _ _ _ _ Try.func56 rfl rfl rfl KR KR
abbrev g8:FuncId:=57
theorem aY:IT 57 65 Try.f57 []:=@iM _ _ _ _ Try.func57 rfl rfl rfl KR KR
abbrev oJ:FuncId:=58
theorem oW:IT 58 129 Try.f58 [(2,4,false)]:=@iM _ _ _ _ Try.func58 rfl rfl rfl KR KR
abbrev Ac:FuncId:=59
theorem Aq:IT 59 26 Try.f59 [(4,9,false)]:=@iM _ _ _ _ Try.func59 rfl rfl rfl KR KR
abbrev Cb:FuncId:=60
theorem Cq:IT 60 13 Try.f60 [(4,9,false)]:=@iM _ _ _ _ Try.func60 rfl rfl rfl KR KR
abbrev lU:FuncId:=61
theorem lW:IT 61 108 Try.f61 [(2,4,false)]:=@iM _ _ _ _ Try.func61 rfl rfl rfl KR KR
abbrev Ah:FuncId:=65
theorem Av:IT 65 28 Try.f65 [(2,4,false)]:=@iM _ _ _ _ Try.func65 rfl rfl rfl KR KR
abbrev Ai:FuncId:=66
theorem Aw:IT 66 6 Try.f66 [(2,23,false)]:=@iM _ _ _ _ Try.func66 rfl rfl rfl KR KR
abbrev rQ:FuncId:=67
theorem sd:IT 67 24 Try.f67 [(2,9,false)]:=@iM _ _ _ _ Try.func67 rfl rfl rfl KR KR
abbrev rK:FuncId:=68
theorem r7:IT 68 25 Try.f68 [(2,9,false)]:=@iM _ _ _ _ Try.func68 rfl rfl rfl KR KR
abbrev oU:FuncId:=70
theorem oZ:IT 70 31 Try.f70 [(2,4,false)]:=@iM _ _ _ _ Try.func70 rfl rfl rfl KR KR
abbrev qD:FuncId:=71
theorem qI:IT 71 26 Try.f71 [(2,9,false)]:=@iM _ _ _ _ Try.func71 rfl rfl rfl KR KR
abbrev xH:FuncId:=72
theorem yb:IT 72 34 Try.f72 [(2,33,true)]:=@iM _ _ _ _ Try.func72 rfl rfl rfl KR KR
abbrev jt:FuncId:=73
abbrev oQ:FuncId:=74
theorem oY:IT 74 124 Try.f74 [(2,4,false)]:=@iM _ _ _ _ Try.func74 rfl rfl rfl KR KR
abbrev xP:FuncId:=75
theorem yf:IT 75 6 Try.f75 [(2,47,false)]:=@iM _ _ _ _ Try.func75 rfl rfl rfl KR KR
abbrev oM:FuncId:=76
theorem oX:IT 76 8 Try.f76 [(2,101,true)]:=@iM _ _ _ _ Try.func76 rfl rfl rfl KR KR
abbrev Af:FuncId:=77
theorem As:IT 77 15 Try.f77 [(4,4,false)]:=@iM _ _ _ _ Try.func77 rfl rfl rfl KR KR
abbrev Ce:FuncId:=78
theorem Ct:IT 78 20 Try.f78 [(4,47,false)]:=@iM _ _ _ _ Try.func78 rfl rfl rfl KR KR
abbrev xQ:FuncId:=79
theorem od:IT 79 24 Try.f79 [(4,47,false)]:=@iM _ _ _ _ Try.func79 rfl rfl rfl KR KR
abbrev Cf:FuncId:=80
theorem mC:IT 80 53 Try.f80 [(8,47,false)]:=@iM _ _ _ _ Try.func80 rfl rfl rfl KR KR
abbrev gI:FuncId:=81
theorem gL:IT 81 19 Try.f81 [(4,131,false)]:=@iM _ _ _ _ Try.func81 rfl rfl rfl KR KR
abbrev qc:FuncId:=82
theorem qk:IT 82 11 Try.f82 [(2,101,true)]:=@iM _ _ _ _ Try.func82 rfl rfl rfl KR KR
abbrev qb:FuncId:=83
theorem iX:IT 83 22 Try.f83 [(2,101,true)]:=@iM _ _ _ _ Try.func83 rfl rfl rfl KR KR
abbrev Ab:FuncId:=86
theorem Ap:IT 86 35 Try.f86 [(2,9,false)]:=@iM _ _ _ _ Try.func86 rfl rfl rfl KR KR
abbrev rS:FuncId:=87
theorem fT:IT 87 246 Try.f87 [(4,137,false)]:=@iM _ _ _ _ Try.func87 rfl rfl rfl KR KR
abbrev oN:FuncId:=88
theorem aO:IT 88 75 Try.f88 [(4,140,true)]:=@iM _ _ _ _ Try.func88 rfl rfl rfl KR KR
abbrev Cd:FuncId:=89
theorem Cs:IT 89 44 Try.f89 [(6,47,false)]:=@iM _ _ _ _ Try.func89 rfl rfl rfl KR KR
abbrev rT:FuncId:=90
theorem bJ:IT 90 131 Try.f90 []:=@iM _ _ _ _ Try.func90 rfl rfl rfl KR KR
abbrev oP:FuncId:=91
theorem aP:IT 91 95 Try.f91 [(6,101,true)]:=@iM _ _ _ _ Try.func91 rfl rfl rfl KR KR
abbrev pS:FuncId:=92
theorem qe:IT 92 19 Try.f92 [(2,4,false)]:=@iM _ _ _ _ Try.func92 rfl rfl rfl KR KR
abbrev pZ:FuncId:=93
theorem qh:IT 93 22 Try.f93 []:=@iM _ _ _ _ Try.func93 rfl rfl rfl KR KR
abbrev rN:FuncId:=94
theorem r9:IT 94 23 Try.f94 [(2,9,false)]:=@iM _ _ _ _ Try.func94 rfl rfl rfl KR KR
abbrev xO:FuncId:=95
theorem ye:IT 95 18 Try.f95 [(2,4,false)]:=@iM _ _ _ _ Try.func95 rfl rfl rfl KR KR
abbrev B5:FuncId:=103
theorem Cl:IT 103 33 Try.f103 [(2,4,false)]:=@iM _ _ _ _ Try.func103 rfl rfl rfl KR KR
abbrev mU:FuncId:=104
theorem mW:IT 104 13 Try.f104 [(4,101,true)]:=@iM _ _ _ _ Try.func104 rfl rfl rfl KR KR
abbrev Cc:FuncId:=106
theorem Cr:IT 106 23 Try.f106 [(4,23,false)]:=@iM _ _ _ _ Try.func106 rfl rfl rfl KR KR
abbrev Aj:FuncId:=107
theorem Ax:IT 107 22 Try.f107 [(4,9,false)]:=@iM _ _ _ _ Try.func107 rfl rfl rfl KR KR
abbrev oO:FuncId:=108
theorem eP:IT 108 26 Try.f108 [(4,59,true)]:=@iM _ _ _ _ Try.func108 rfl rfl rfl KR KR
abbrev oT:FuncId:=109
theorem eQ:IT 109 77 Try.f109 [(4,9,false)]:=@iM _ _ _ _ Try.func109 rfl rfl rfl KR KR
abbrev oV:FuncId:=110
theorem bg:IT 110 162 Try.f110 []:=@iM _ _ _ _ Try.func110 rfl rfl rfl KR KR
end Go.K
end
section
open Go Go.Tm Go.Proofs
namespace Go.K
structure Entry where
 kind:Int
 epoch:Int
 task:Int
 text:ByteArray
 deriving DecidableEq
abbrev oh(k ep ta:Int)(tx:ByteArray):V:=.agg [.t (.i k),.t (.i ep),.t (.i ta),.t (.s tx)]
abbrev Entry.v(e:Entry):V:=oh e.kind e.epoch e.task e.text
theorem ac(x lo hi:Int):F xN [.val (.i x),.val (.i lo),.val (.i hi)] (.b (decide (lo≤x∧x≤hi))) [[],[],[]]:=by
 refine yd ?_
 conv=>whnf
 refine g 0 0 []<|J UA ?_
 by_cases h1:lo≤x
 refine g 7 15 [BT,BT,BT,BT]<|J Zcb<|RT ?_
 exact vbd OM
 refine g 7 15 [BF,BF,BF,BF]<|J Zc4<|RT ?_
 exact vbf OM
theorem ag(x lo hi:Int):F B7 [.val (.i x),.val (.i lo),.val (.i hi)] (.b (decide (lo≤x∧x≤hi))) [[],[],[]]:=by
 refine Cn ?_
 conv=>whnf
 refine g 0 0 []<|J UA ?_
 by_cases h1:lo≤x
 refine g 7 15 [BT,BT,BT,BT]<|J Zcb<|RT ?_
 exact vbd OM
 refine g 7 15 [BF,BF,BF,BF]<|J Zc4<|RT ?_
 exact vbf OM
end Go.K
end
section
open Go Go.Tm Go.Proofs
namespace Go.K
def Entry.ok(e:Entry):Prop:=(1≤e.epoch∧e.epoch≤300)∧(0≤e.task∧e.task≤39)∧((e.kind = 1∧e.task = 0∧e.text = ⟨#[]⟩)∨(e.kind = 2∧(e.text.size:Int) = 8))
instance (e:Entry):Decidable e.ok:=by unfold Entry.ok;infer_instance
theorem hL(k ep ta:Int)(tx:ByteArray):F oU [.val (oh k ep ta tx)] (.b (decide (Entry.ok ⟨k,ep,ta,tx⟩))) [[]]:=by
 refine oZ ?_
 conv=>whnf
 refine g 0 1 []<|J ⟨UD,I,I⟩<|W.sq ?_
 by_cases h1:(1:Int)≤ep∧ep≤(300:Int)
 refine g 5 12 [.call (V.b (decide (1≤ep∧ep≤300))) [[],[],[]],BF,BF,BF,.call (V.b (decide (0≤ta∧ta≤39))) [[],[],[]],BF,BF]<|J ⟨I,I,⟨UC,I,UU,UA,ac _ _ _⟩,I,I,⟨nO,I⟩,⟨nO,I⟩,⟨nO,UC,I,UU,UA,ac _ _ _⟩,⟨nO,I⟩,nO,I⟩<|W.cn<|J (fun h2=>?_) fun h2=>?_
 replace h2:=ndt h2
 refine g 12 13 []<|J UA<|RT ?_
 rotate_left
 replace h2:=ndf h2
 refine W.skip<|W.sq<|g 12 14 []<|J UB<|W.blk<|g 16 17 []<|J UB<|W.cn<|J (fun h3=>?_) fun h3=>?_
 replace h3:=dt h3
 by_cases h4:ta = (0:Int)
 refine g 14 25 [BT,BT,BT,BT]<|J Zcb<|RT ?_
 rotate_left
 refine g 14 25 [BF,BF,BF,BF]<|J Zc4<|RT ?_
 rotate_left
 replace h3:=df h3
 refine g 14 16 []<|J UB<|W.cn<|J (fun h4=>?_) fun h4=>?_
 replace h4:=dt h4
 refine g 25 31 []<|J UE<|RT ?_
 rotate_left
 replace h4:=df h4
 refine W.skip<|g 25 27 []<|J UA<|RT ?_
 rotate_left
 refine g 5 12 [.call (V.b (decide (1≤ep∧ep≤300))) [[],[],[]],BT,BT,BT,BT,BT]<|J ⟨I,I,⟨UC,I,UU,UA,ac _ _ _⟩,I,I,af OM,af OM,af OM,af OM,af OM,I⟩<|W.cn<|J (fun _=>(g 12 13 []<|J UA (RT ?_))) (noF rfl)
 rotate_left
 all_goals (first|exact vbt (by unfold Entry.ok;simp_all;done)|exact vbf (by unfold Entry.ok;simp_all;omega)|exact vbf (by unfold Entry.ok;simp_all)|exact vbd (by unfold Entry.ok;simp_all;done)|exact vbd (by unfold Entry.ok;simp_all;omega))
theorem CD(k ep ta:Int)(tx:ByteArray):F B5 [.val (oh k ep ta tx)] (.b (decide (Entry.ok ⟨k,ep,ta,tx⟩))) [[]]:=by
 refine Cl ?_
 conv=>whnf
 refine g 0 1 []<|J ⟨UD,I,I⟩<|W.sq ?_
 by_cases h1:(1:Int)≤ep∧ep≤(300:Int)
 refine g 5 12 [.call (V.b (decide (1≤ep∧ep≤300))) [[],[],[]],BF,BF,BF,.call (V.b (decide (0≤ta∧ta≤39))) [[],[],[]],BF,BF]<|J ⟨I,I,⟨UC,I,UU,UA,ag _ _ _⟩,I,I,⟨nO,I⟩,⟨nO,I⟩,⟨nO,UC,I,UU,UA,ag _ _ _⟩,⟨nO,I⟩,nO,I⟩<|W.cn<|J (fun h2=>?_) fun h2=>?_
 replace h2:=ndt h2
 refine g 12 13 []<|J UA<|RT ?_
 rotate_left
 replace h2:=ndf h2
 refine W.skip<|W.sq<|g 12 15 []<|J UC<|W.cn<|J (fun h3=>?_) fun h3=>?_
 replace h3:=dt h3
 by_cases h4:ta = (0:Int)
 refine g 15 24 [BT,BT,BT,BT]<|J Zcb<|RT ?_
 rotate_left
 refine g 15 24 [BF,BF,BF,BF]<|J Zc4<|RT ?_
 rotate_left
 replace h3:=df h3
 refine W.skip ?_
 by_cases h4:k = (2:Int)
 refine g 15 33 [BT,BT,BT,BT,BT]<|J ⟨I,I,I,I,⟨tO,I⟩,⟨tO,I⟩,⟨tO,I⟩,⟨tO,I⟩,tO,I,I⟩<|RT ?_
 rotate_left
 refine g 15 33 [BF,BF,BF,BF,BF]<|J ⟨I,I,I,I,dO,dO,dO,dO,dO,I,I⟩<|RT ?_
 rotate_left
 refine g 5 12 [.call (V.b (decide (1≤ep∧ep≤300))) [[],[],[]],BT,BT,BT,BT,BT]<|J ⟨I,I,⟨UC,I,UU,UA,ag _ _ _⟩,I,I,af OM,af OM,af OM,af OM,af OM,I⟩<|W.cn<|J (fun _=>(g 12 13 []<|J UA (RT ?_))) (noF rfl)
 rotate_left
 all_goals (first|exact vbt (by unfold Entry.ok;simp_all;done)|exact vbf (by unfold Entry.ok;simp_all;omega)|exact vbf (by unfold Entry.ok;simp_all)|exact vbd (by unfold Entry.ok;simp_all;done)|exact vbd (by unfold Entry.ok;simp_all;omega))
abbrev emp:ByteArray:=⟨#[]⟩
def bl(l:List Int):ByteArray:=⟨(l.map fun n=>UInt8.ofNat n.toNat).toArray⟩
def E6(e:Entry):ByteArray:=if e.ok then bl [IntKind.u8.wrap e.kind,IntKind.u8.wrap (e.epoch.fdiv 256),IntKind.u8.wrap e.epoch,IntKind.u8.wrap e.task] ++e.text else emp
theorem j9(k ep ta:Int)(tx:ByteArray)(ht:tx.size≤281474976710656):F rQ [.val (oh k ep ta tx)] (.s (E6 ⟨k,ep,ta,tx⟩)) [[]]:=by
 refine sd ?_
 conv=>whnf
 refine g 0 0 []<|J ⟨UD,I,I⟩<|W.sq<|g 4 5 [.call (V.b (decide (Entry.ok {kind:=k,epoch:=ep,task:=ta,text:=tx:Entry}))) [[]]]<|J ⟨I,⟨UA,I,⟨UD,I⟩,UA,hL _ _ _ _⟩,I,I⟩<|W.cn<|J (fun h1=>?_) fun h1=>?_
 replace h1:=ndt h1
 refine g 5 6 []<|J UA<|RT ?_
 rotate_left
 replace h1:=ndf h1
 refine W.skip<|g 10 24 [.i (IntKind.wrap IntKind.u8 k),.i (Int.fdiv ep (2 ^ min (Int.toNat 8) (IntKind.bits IntKind.i64))),.i (IntKind.wrap IntKind.u8 (Int.fdiv ep (2 ^ min (Int.toNat 8) (IntKind.bits IntKind.i64)))),.i (IntKind.wrap IntKind.u8 ep),.i (IntKind.wrap IntKind.u8 ta),.s ({data:=List.toArray (bK [[T.v (Value.int IntKind.u8 (IntKind.wrap IntKind.u8 k))],[T.v (Value.int IntKind.u8 (IntKind.wrap IntKind.u8 (Int.fdiv ep (2 ^ min (Int.toNat 8) (IntKind.bits IntKind.i64)))))],[T.v (Value.int IntKind.u8 (IntKind.wrap IntKind.u8 ep))],[T.v (Value.int IntKind.u8 (IntKind.wrap IntKind.u8 ta))]]):ByteArray}),.s ({data:=List.toArray (bK [[T.v (Value.int IntKind.u8 (IntKind.wrap IntKind.u8 k))],[T.v (Value.int IntKind.u8 (IntKind.wrap IntKind.u8 (Int.fdiv ep (2 ^ min (Int.toNat 8) (IntKind.bits IntKind.i64)))))],[T.v (Value.int IntKind.u8 (IntKind.wrap IntKind.u8 ep))],[T.v (Value.int IntKind.u8 (IntKind.wrap IntKind.u8 ta))]]):ByteArray} ++tx)]<|J ⟨I,I,rfl,I,I,Zdo,rfl,I,I,rfl,I,I,rfl,Zc7,⟨I,(by repeat (first|exact kB|refine iO ?_)),rfl⟩,I,I,⟨rfl,(by simp only[bsz,ByteArray.size_append,rW];omega)⟩,I,I⟩ ?_
 refine RT ?_
 rotate_left
 ·refine vs ?_
  simp only[E6,h1,if_false]
 ·refine vs ?_
  simp only[E6,h1,if_true];rfl
def b9(e:Entry):ByteArray:=if e.ok then bl [IntKind.u8.wrap e.kind,IntKind.u8.wrap (IntKind.i64.wrap (e.epoch.tdiv 256)),IntKind.u8.wrap (e.epoch.tmod 256),IntKind.u8.wrap e.task] ++e.text else emp
theorem fU(k ep ta:Int)(tx:ByteArray)(ht:tx.size≤281474976710656):F rK [.val (oh k ep ta tx)] (.s (b9 ⟨k,ep,ta,tx⟩)) [[]]:=by
 refine r7 ?_
 conv=>whnf
 refine g 0 0 []<|J ⟨UD,I,I⟩<|W.sq<|g 4 5 [.call (V.b (decide (Entry.ok {kind:=k,epoch:=ep,task:=ta,text:=tx:Entry}))) [[]]]<|J ⟨I,⟨UA,I,⟨UD,I⟩,UA,CD _ _ _ _⟩,I,I⟩<|W.cn<|J (fun h1=>?_) fun h1=>?_
 replace h1:=ndt h1
 refine g 5 6 []<|J UA<|RT ?_
 rotate_left
 replace h1:=ndf h1
 refine W.skip<|g 10 25 [.i (IntKind.wrap IntKind.u8 k),.i (IntKind.wrap IntKind.i64 (Int.tdiv ep 256)),.i (IntKind.wrap IntKind.u8 (IntKind.wrap IntKind.i64 (Int.tdiv ep 256))),.i (Int.tmod ep 256),.i (IntKind.wrap IntKind.u8 (Int.tmod ep 256)),.i (IntKind.wrap IntKind.u8 ta),.s ({data:=List.toArray (bK [[T.v (Value.int IntKind.u8 (IntKind.wrap IntKind.u8 k))],[T.v (Value.int IntKind.u8 (IntKind.wrap IntKind.u8 (IntKind.wrap IntKind.i64 (Int.tdiv ep 256))))],[T.v (Value.int IntKind.u8 (IntKind.wrap IntKind.u8 (Int.tmod ep 256)))],[T.v (Value.int IntKind.u8 (IntKind.wrap IntKind.u8 ta))]]):ByteArray}),.s ({data:=List.toArray (bK [[T.v (Value.int IntKind.u8 (IntKind.wrap IntKind.u8 k))],[T.v (Value.int IntKind.u8 (IntKind.wrap IntKind.u8 (IntKind.wrap IntKind.i64 (Int.tdiv ep 256))))],[T.v (Value.int IntKind.u8 (IntKind.wrap IntKind.u8 (Int.tmod ep 256)))],[T.v (Value.int IntKind.u8 (IntKind.wrap IntKind.u8 ta))]]):ByteArray} ++tx)]<|J ⟨I,I,rfl,I,I,Zdo,rfl,I,I,Zdo,rfl,I,I,rfl,Zc7,⟨I,(by repeat (first|exact kB|refine iO ?_)),rfl⟩,I,I,⟨rfl,(by simp only[bsz,ByteArray.size_append,rW];omega)⟩,I,I⟩ ?_
 refine RT ?_
 rotate_left
 ·refine vs ?_
  simp only[b9,h1,if_false]
 ·refine vs ?_
  simp only[b9,h1,if_true];rfl
def byt(s:ByteArray)(i:Nat):Int:=((s[i]?).map (fun b=>(b.toNat:Int))).getD 0
def AW(x y:Int):Int:=IntKind.i64.wrap ↑(BitVec.ofInt IntKind.i64.bits x|||BitVec.ofInt IntKind.i64.bits y).toNat
def rdI(s:ByteArray):Entry:=⟨byt s 0,AW (IntKind.i64.wrap (byt s 1 * 256)) (byt s 2),byt s 3,s.extract 4 s.size⟩
def rdS(s:ByteArray):Entry:=⟨byt s 0,byt s 1 * 256+byt s 2,byt s 3,s.extract 4 s.size⟩
abbrev noE:Entry:=⟨0,0,0,emp⟩
abbrev kh(o:Option Entry):V:=match o with|some e=>.tup [e.v,.b true]|none=>.tup [noE.v,.b false]
def pq(s:ByteArray):Option Entry:=if(s.size:Int) < 4∨12 < (s.size:Int)then none else if(rdI s).ok then some (rdI s)else none
def dn(s:ByteArray):Option Entry:=if(s.size:Int) < 4 then none else if b9 (rdS s) = s then some (rdS s)else none
theorem bh{s:ByteArray}{i:Nat}{c:UInt8}(h:s[i]? = some c):byt s i = (c.toNat:Int):=by simp[byt,h]
theorem sn(s:ByteArray)(ht:s.size≤281474976710656):F rO [.val (.s s)] (kh (pq s)) [[]]:=by
 refine sa ?_
 conv=>whnf
 refine g 0 0 []<|J UB<|W.sq ?_
 by_cases h1:(↑(ByteArray.size s):Int) < (4:Int)
 refine g 5 12 [BT,BT,BT,BT]<|J ⟨I,I,I,I,tO,tO,tO,tO,I⟩<|W.cn<|J (fun _=>(g 12 14 []<|J ⟨I,UD,I,I⟩ (RT ?_))) (noF rfl)
 rotate_left
 refine g 5 12 [BF,BF,BF,BF]<|J ⟨I,I,I,I,⟨dO,I⟩,⟨dO,I⟩,⟨dO,I⟩,dO,I⟩<|W.cn<|J (fun h2=>?_) fun h2=>?_
 replace h2:=dt h2
 refine g 12 14 []<|J ⟨I,UD,I,I⟩<|RT ?_
 rotate_left
 replace h2:=df h2
 refine W.skip ?_
 obtain⟨y1,hy1,hb1⟩:=bb (s:=s) (n:=(0:Nat)) OM
 obtain⟨y2,hy2,hb2⟩:=bb (s:=s) (n:=(1:Nat)) OM
 obtain⟨y3,hy3,hb3⟩:=bb (s:=s) (n:=(2:Nat)) OM
 obtain⟨y4,hy4,hb4⟩:=bb (s:=s) (n:=(3:Nat)) OM
 refine gd 12 27 [[],[.i ((↑(UInt8.toNat y1):Int))],[.i ((↑(UInt8.toNat y1):Int))],[],[.i ((↑(UInt8.toNat y2):Int))],[.i ((↑(UInt8.toNat y2):Int))],[.i (IntKind.wrap IntKind.i64 ((↑(UInt8.toNat y2):Int) * 2 ^ min (Int.toNat 8) (IntKind.bits IntKind.i64)))],[],[.i ((↑(UInt8.toNat y3):Int))],[.i ((↑(UInt8.toNat y3):Int))],[.i (IntKind.wrap IntKind.i64 (↑(BitVec.toNat (BitVec.ofInt (IntKind.bits IntKind.i64) (IntKind.wrap IntKind.i64 ((↑(UInt8.toNat y2):Int) * 2 ^ min (Int.toNat 8) (IntKind.bits IntKind.i64)))|||BitVec.ofInt (IntKind.bits IntKind.i64) (↑(UInt8.toNat y3):Int))):Int))],[],[.i ((↑(UInt8.toNat y4):Int))],[.i ((↑(UInt8.toNat y4):Int))],[],[.n (4),.s (ByteArray.extract s 4 (ByteArray.size s))],[],[],[]] ?_
 conv=>whnf
 refine J ⟨I,Zcz,w8 _,I,Zcz,w8 _,Zdo,I,Zcz,w8 _,rfl,I,Zcz,w8 _,I,⟨I,rfl,OM,OM,rfl⟩,I,I,UD,I⟩<|J KR<|W.sq<|g 28 33 [.call (V.b (decide (Entry.ok {kind:=(↑(UInt8.toNat y1):Int),epoch:=IntKind.wrap IntKind.i64 (↑(BitVec.toNat (BitVec.ofInt (IntKind.bits IntKind.i64) (IntKind.wrap IntKind.i64 ((↑(UInt8.toNat y2):Int) * 2 ^ min (Int.toNat 8) (IntKind.bits IntKind.i64)))|||BitVec.ofInt (IntKind.bits IntKind.i64) (↑(UInt8.toNat y3):Int))):Int),task:=(↑(UInt8.toNat y4):Int),text:=ByteArray.extract s 4 (ByteArray.size s):Entry}))) [[]]]<|J ⟨I,⟨UA,I,⟨UD,I⟩,UA,hL _ _ _ _⟩,I,I⟩<|W.cn<|J (fun h3=>?_) fun h3=>?_
 replace h3:=ndt h3
 refine g 33 35 []<|J ⟨I,UD,I,I⟩<|RT ?_
 rotate_left
 replace h3:=ndf h3
 refine W.skip<|g 33 36 []<|J ⟨I,UD,I,I⟩<|RT ?_
 rotate_left
 ·exact congrArg kh (show none = pq s by unfold pq;rw[if_pos OM])
 ·exact congrArg kh (show none = pq s by unfold pq;rw[if_pos OM])
 ·have e:rdI s = ⟨y1.toNat,AW (IntKind.i64.wrap ((y2.toNat:Int) * 256)) y3.toNat,y4.toNat,s.extract 4 s.size⟩:=by simp only[rdI,bh hy1,bh hy2,bh hy3,bh hy4]
  exact congrArg kh (show none = pq s by unfold pq;rw[if_neg OM,e];exact(if_neg h3).symm)
 ·have e:rdI s = ⟨y1.toNat,AW (IntKind.i64.wrap ((y2.toNat:Int) * 256)) y3.toNat,y4.toNat,s.extract 4 s.size⟩:=by simp only[rdI,bh hy1,bh hy2,bh hy3,bh hy4]
  exact congrArg kh (show some _ = pq s by unfold pq;rw[if_neg OM,e];exact(if_pos h3).symm)
theorem sk(s:ByteArray)(ht:s.size≤281474976710656):F rJ [.val (.s s)] (kh (dn s)) [[]]:=by
 refine r6 ?_
 conv=>whnf
 refine g 0 0 []<|J UB<|W.sq<|g 5 7 []<|J UC<|W.cn<|J (fun h1=>?_) fun h1=>?_
 replace h1:=dt h1
 refine g 7 9 []<|J ⟨I,UD,I,I⟩<|RT ?_
 rotate_left
 replace h1:=df h1
 refine W.skip ?_
 obtain⟨y1,hy1,hb1⟩:=bb (s:=s) (n:=(0:Nat)) OM
 obtain⟨y2,hy2,hb2⟩:=bb (s:=s) (n:=(1:Nat)) OM
 obtain⟨y3,hy3,hb3⟩:=bb (s:=s) (n:=(2:Nat)) OM
 obtain⟨y4,hy4,hb4⟩:=bb (s:=s) (n:=(3:Nat)) OM
 refine gd 7 26 [[],[.i ((↑(UInt8.toNat y1):Int))],[.i ((↑(UInt8.toNat y1):Int))],[],[.i ((↑(UInt8.toNat y2):Int))],[.i ((↑(UInt8.toNat y2):Int))],[.i ((↑(UInt8.toNat y2):Int) * 256)],[],[.i ((↑(UInt8.toNat y3):Int))],[.i ((↑(UInt8.toNat y3):Int))],[.i ((↑(UInt8.toNat y2):Int) * 256+ (↑(UInt8.toNat y3):Int))],[],[.i ((↑(UInt8.toNat y4):Int))],[.i ((↑(UInt8.toNat y4):Int))],[],[.n (4),.s (ByteArray.extract s 4 (ByteArray.size s))],[],[],[]] ?_
 conv=>whnf
 refine J ⟨I,Zcz,w8 _,I,Zcz,w8 _,wO,I,Zcz,w8 _,wO,I,Zcz,w8 _,I,⟨I,rfl,OM,OM,rfl⟩,I,I,UD,I⟩<|J KR<|W.sq<|g 0 1 [.call (V.s (b9 {kind:=(↑(UInt8.toNat y1):Int),epoch:=(↑(UInt8.toNat y2):Int) * 256+ (↑(UInt8.toNat y3):Int),task:=(↑(UInt8.toNat y4):Int),text:=ByteArray.extract s 4 (ByteArray.size s):Entry})) [[]]]<|J ⟨I,⟨UA,I,⟨UD,I⟩,UA,fU _ _ _ _ (by simp only[ByteArray.size_extract];omega)⟩,I,I,I⟩<|W.cn<|J (fun h2=>?_) fun h2=>?_
 replace h2:=ndt h2
 refine g 28 31 []<|J ⟨I,UD,I,I⟩<|RT ?_
 rotate_left
 replace h2:=ndf h2
 refine W.skip<|g 28 32 []<|J ⟨I,UD,I,I⟩<|RT ?_
 rotate_left
 ·exact congrArg kh (show none = dn s by unfold dn;rw[if_pos OM])
 ·have e:rdS s = ⟨y1.toNat,(y2.toNat:Int) * 256+y3.toNat,y4.toNat,s.extract 4 s.size⟩:=by simp only[rdS,bh hy1,bh hy2,bh hy3,bh hy4]
  exact congrArg kh (show none = dn s by unfold dn;rw[if_neg OM,e];exact(if_neg h2).symm)
 ·have e:rdS s = ⟨y1.toNat,(y2.toNat:Int) * 256+y3.toNat,y4.toNat,s.extract 4 s.size⟩:=by simp only[rdS,bh hy1,bh hy2,bh hy3,bh hy4]
  exact congrArg kh (show some _ = dn s by unfold dn;rw[if_neg OM,e];exact(if_pos h2).symm)
end Go.K
end
section
open Go Go.Tm Go.Proofs
namespace Go.K
theorem GM(e:Entry):E6 e = b9 e:=by
 unfold E6 b9
 by_cases h:e.ok
 ·simp only[h,if_true]
  obtain⟨⟨h1,h2⟩,_⟩:=h
  have e1:e.epoch.fdiv 256 = e.epoch / 256:=Int.fdiv_eq_ediv_of_nonneg _ OM
  have e2:e.epoch.tdiv 256 = e.epoch / 256:=Int.tdiv_eq_ediv_of_nonneg OM
  have e3:e.epoch.tmod 256 = e.epoch % 256:=Int.tmod_eq_emod_of_nonneg OM
  have e4:IntKind.u8.wrap e.epoch = e.epoch % 256:=by simp[IntKind.wrap,IntKind.bits,IntKind.signed]
  rw[e1,e2,e3,wO,e4,wu8 (z:=e.epoch % 256) OM OM]
 ·simp only[h,if_false]
end Go.K
namespace Go.K
end Go.K
end
section
open Go Go.Tm Go.Proofs
namespace Go.K
theorem sw{l:List UInt8}{i:Nat}{c:UInt8}(h:l[i]? = some c):byt ⟨⟨l⟩⟩ i = (c.toNat:Int):=by
 have:(ByteArray.mk ⟨l⟩)[i]? = l[i]?:=by
  show(if h:i < (ByteArray.mk ⟨l⟩).size then some ((ByteArray.mk ⟨l⟩)[i])else none) = _
  have hsz:(ByteArray.mk ⟨l⟩).size = l.length:=rfl
  by_cases hi:i < l.length
  ·rw[dif_pos (by rw[hsz];exact hi),List.getElem?_eq_getElem hi];rfl
  ·rw[dif_neg (by rw[hsz];exact hi),List.getElem?_eq_none OM]
 exact bh (by rw[this];exact h)
theorem Py(s:ByteArray)(h:4≤s.size):bl [byt s 0,byt s 1,byt s 2,byt s 3] ++s.extract 4 s.size = s:=by
 obtain⟨⟨l⟩⟩:=s
 match l,h with
 |a :: b :: c :: d :: r,_ =>
  rw[sw (c:=a) rfl,sw (c:=b) rfl,sw (c:=c) rfl,sw (c:=d) rfl]
  apply ByteArray.ext
  rw[ByteArray.data_append,ByteArray.data_extract]
  apply Array.ext'
  simp[bl,ByteArray.size]
theorem Dl(a b:Nat)(ha:a < 256)(hb:b < 256):AW (IntKind.i64.wrap ((a:Int) * 256)) b = (a:Int) * 256+b:=by
 rw[wO]
 unfold AW
 have e:((BitVec.ofInt IntKind.i64.bits ((a:Int) * 256))|||BitVec.ofInt IntKind.i64.bits (b:Int)).toNat = a * 256+b:=by
  have h1:BitVec.ofInt IntKind.i64.bits ((a:Int) * 256) = BitVec.ofNat IntKind.i64.bits (a * 256):=by
   rw[show((a:Int) * 256) = ((a * 256:Nat):Int) by simp];exact BitVec.ofInt_natCast ..
  have h2:BitVec.ofInt IntKind.i64.bits (b:Int) = BitVec.ofNat IntKind.i64.bits b:=BitVec.ofInt_natCast ..
  have hb64:IntKind.i64.bits = 64:=rfl
  rw[h1,h2,BitVec.toNat_or,BitVec.toNat_ofNat,BitVec.toNat_ofNat,hb64,Nat.mod_eq_of_lt OM,Nat.mod_eq_of_lt OM]
  have:=Nat.two_pow_add_eq_or_of_lt (i:=8) (b:=b) OM a
  rw[Nat.mul_comm]at this
  simpa using this.symm
 rw[e]
 rw[wO];simp
theorem dq(s:ByteArray)(i:Nat):∃ n:Nat,byt s i = n∧n < 256:=by
 unfold byt
 cases h:s[i]? with
 |none=>exact⟨0,rfl,by omega⟩
 |some c=>exact⟨c.toNat,rfl,UInt8.toNat_lt _⟩
theorem Q4(s:ByteArray):rdI s = rdS s:=by
 unfold rdI rdS
 obtain⟨a,ha,ha'⟩:=dq s 1
 obtain⟨b,hb,hb'⟩:=dq s 2
 rw[ha,hb,Dl a b ha' hb']
theorem NA(s:ByteArray):pq s = dn s:=by
 unfold pq dn
 rw[Q4]
 by_cases h4:(s.size:Int) < 4
 ·rw[if_pos OM,if_pos h4]
 ·rw[if_neg h4]
  have hx:(s.extract 4 s.size).size = s.size - 4:=by rw[ByteArray.size_extract];omega
  by_cases hok:(rdS s).ok
  ·have hform:b9 (rdS s) = s:=by
    unfold b9
    rw[if_pos hok]
    obtain⟨⟨h1,h2⟩,⟨h3,h4'⟩,h5⟩:=hok
    obtain⟨a,ha,ha'⟩:=dq s 1
    obtain⟨b,hb,hb'⟩:=dq s 2
    have hk:IntKind.u8.wrap (rdS s).kind = byt s 0:=by
     obtain⟨c,hc,hc'⟩:=dq s 0
     show IntKind.u8.wrap (byt s 0) = _
     rw[wu8 OM OM]
    have ht:IntKind.u8.wrap (rdS s).task = byt s 3:=by
     obtain⟨c,hc,hc'⟩:=dq s 3
     show IntKind.u8.wrap (byt s 3) = _
     rw[wu8 OM OM]
    have he:(rdS s).epoch = (a:Int) * 256+b:=by show byt s 1 * 256+byt s 2 = _;rw[ha,hb]
    have e1:IntKind.u8.wrap (IntKind.i64.wrap ((rdS s).epoch.tdiv 256)) = byt s 1:=by
     rw[he,Int.tdiv_eq_ediv_of_nonneg OM,wO,wu8 OM OM,ha];omega
    have e2:IntKind.u8.wrap ((rdS s).epoch.tmod 256) = byt s 2:=by
     rw[he,Int.tmod_eq_emod_of_nonneg OM,wu8 OM OM,hb];omega
    rw[hk,ht,e1,e2]
    exact Py s OM
   have hsz:¬((s.size:Int) < 4∨12 < (s.size:Int)):=by
    obtain⟨_,_,h5⟩:=hok
    have hr:(rdS s).text = s.extract 4 s.size:=rfl
    rcases h5 with⟨_,_,h6⟩|⟨_,h6⟩
    ·rw[hr]at h6
     have:=congrArg ByteArray.size h6
     rw[hx]at this
     have h0:(ByteArray.mk #[]).size = 0:=rfl
     omega
    ·rw[hr,hx]at h6;omega
   rw[if_neg hsz,if_pos hok,if_pos hform]
  ·have hform:b9 (rdS s)≠s:=by
    unfold b9
    rw[if_neg hok]
    intro e
    have:=congrArg ByteArray.size e
    have h0:emp.size = 0:=rfl
    omega
   rw[if_neg hform,if_neg hok]
   simp
end Go.K
end
section
open Go Go.Tm Go.Proofs
namespace Go.K
abbrev ak(s:ByteArray):List T:=[.s s]
abbrev vo(xs:List ByteArray):T:=.slc [false] (xs.map ak)
end Go.K
end
section
open Go Go.Tm Go.Proofs
namespace Go.K
abbrev u8v(n:Int):V:=.t (.v (.int .u64 n))
def fnv(v:Int)(c:UInt8):Int:=IntKind.u64.wrap (IntKind.u64.wrap (BitVec.ofInt IntKind.u64.bits v ^^^ BitVec.ofInt IntKind.u64.bits (c.toNat:Int)).toNat * 1099511628211)
def lz(v:Int)(s:ByteArray)(n:Nat):Int:=(s.data.toList.take n).foldl fnv v
theorem PP{s:ByteArray}{n:Nat}{c:UInt8}(h:s[n]? = some c):s.data.toList[n]? = some c:=by
 by_cases hn:n < s.size
 ·rw[getElem?_pos s n hn]at h
  have hd:n < s.data.toList.length:=by simpa using hn
  rw[List.getElem?_eq_getElem hd]
  rw[←h];simp;rfl
 ·rw[getElem?_neg s n hn]at h;cases h
theorem zB{v:Int}{s:ByteArray}{n:Nat}{c:UInt8}(h:s[n]? = some c):lz v s (n+1) = fnv (lz v s n) c:=by
 unfold lz
 rw[List.take_add_one,PP h,List.foldl_append];rfl
theorem PJ(v:Int)(c:UInt8):0≤fnv v c∧fnv v c≤18446744073709551615:=Pv _
theorem v9:∀ (l:List UInt8) (v:Int),0≤v∧v≤18446744073709551615→0≤l.foldl fnv v∧l.foldl fnv v≤18446744073709551615
 |[],_,h=>h
 |c :: l,v,_=>v9 l (fnv v c) (PJ v c)
theorem cM(v:Int)(tx:ByteArray)(hs:tx.size≤9223372036854775807):F pZ [.ptr [u8v v],.val (.s tx)] (.tup []) [[u8v (lz v tx tx.size)],[]]:=by
 refine qh ?_
 conv=>whnf
 refine g 0 0 []<|J UA<|W.blk<|W.lp (fun s (n:Nat)=>⟨[(0,s.s 0),(1,s.s 1),(4,.i n)],[(22,[u8v (lz v tx n)])],[]⟩) (fun(n:Nat)=>n≤tx.size) (fun(n:Nat)=>tx.size - n) (0) [some 22] [] ⟨rfl,⟨rfl,rfl,rfl,I⟩,Zdm,I⟩ OM ?_
 intro n hn
 conv=>whnf
 refine W.sq<|g 5 8 []<|J UD<|W.cn<|J (fun h1=>?_) fun h1=>?_
 replace h1:=dt h1
 refine W.skip<|W.sq<|W.blk ?_
 obtain⟨y1,hy1,hb1⟩:=bb (s:=tx) (n:=n) OM
 refine rgd [[],[],[],[],[],[],[.i ((↑(UInt8.toNat y1):Int))],[.i ((↑(UInt8.toNat y1):Int))],[.i (IntKind.wrap IntKind.u64 (↑(BitVec.toNat (BitVec.ofInt (IntKind.bits IntKind.u64) (lz v tx n) ^^^ BitVec.ofInt (IntKind.bits IntKind.u64) (↑(UInt8.toNat y1):Int))):Int))],[.i (IntKind.wrap IntKind.u64 (IntKind.wrap IntKind.u64 (↑(BitVec.toNat (BitVec.ofInt (IntKind.bits IntKind.u64) (lz v tx n) ^^^ BitVec.ofInt (IntKind.bits IntKind.u64) (↑(UInt8.toNat y1):Int))):Int) * 1099511628211))],[],[]] ?_
 conv=>whnf
 refine J ⟨I,I,I,I,I,I,Zcz,w8u _,rfl,rfl,I,UA,I⟩<|J KR<|rg [.i ((n:Int) +1)]<|J Zdc ?_
 rotate_left
 replace h1:=df h1
 refine W.exit<|EndsW.nm<|J I<|J ?_ ?_
 rfl
 rotate_left
 ·refine⟨n+1,[some 22],[],⟨rfl,⟨rfl,rfl,rfl,I⟩,⟨⟨rfl,⟨(congrArg (fun z=>V.t (T.v (Value.int _ z))) (zB AS).symm),I⟩⟩,I⟩,I⟩,?_,?_⟩
  rotate_left
  (dsimp only;omega)
  dsimp only
  omega
 ·rw[show n = tx.size from by omega]
def beL(v:Int):Nat→List Int
 |0=>[]
 |n+1=>(v / 256 ^ n % 256) :: beL v n
abbrev b1T(n:Int):List T:=[.v (.int .u8 n)]
theorem oE(v:Int):∀ n,(beL v n).length = n
 |0=>rfl
 |n+1=>by simp[beL,oE v n]
theorem Hw(v:Int):∀ n i,i < n→(beL v n)[i]? = some (v / 256 ^ (n - 1 - i) % 256)
 |0,_,h=>by omega
 |n+1,0,_=>by simp[beL]
 |n+1,i+1,h=>by
  simp only[beL,List.getElem?_cons_succ]
  rw[Hw v n i OM]
  congr 3
  congr 1
  omega
theorem JK{v:Int}{n:Nat}(h0:0≤v)(hn:n < 8):(fill b1T (b1T 0) (beL v 8) n).set n (b1T (IntKind.u8.wrap (v.fdiv (2 ^ min (56 - 8 * (n:Int)).toNat IntKind.u64.bits)))) = fill b1T (b1T 0) (beL v 8) (n+1):=by
 have e:IntKind.u8.wrap (v.fdiv (2 ^ min (56 - 8 * (n:Int)).toNat IntKind.u64.bits)) = v / 256 ^ (8 - 1 - n) % 256:=by
  rw[Int.fdiv_eq_ediv_of_nonneg _ (by exact Int.le_of_lt (Int.pow_pos (by decide)))]
  have:n = 0∨n = 1∨n = 2∨n = 3∨n = 4∨n = 5∨n = 6∨n = 7:=by omega
  rcases this with rfl|rfl|rfl|rfl|rfl|rfl|rfl|rfl <;> simp[IntKind.wrap,IntKind.bits,IntKind.signed]
 rw[e]
 exact Ku (Hw v 8 n hn)
theorem rA(l:List Int):(⟨(bK (l.map b1T)).toArray⟩:ByteArray) = bl l:=by
 simp[bK,bl,b1T,Function.comp_def]
theorem j7(v:Int)(h0:0≤v)(h1:v≤18446744073709551615):F rN [.val (u8v v)] (.s (bl (beL v 8))) [[]]:=by
 have hx:=oE v 8
 refine r9 ?_
 conv=>whnf
 refine g 0 0 []<|J UA<|g 5 6 [.n (8)]<|J ⟨⟨rfl,rfl,LN⟩,I,I⟩<|W.sq<|g 6 7 []<|J UC<|W.blk<|W.lp (fun s (n:Nat)=>⟨[(0,s.s 0),(2,s.s 2),(3,s.s 3),(7,s.s 7),(8,.i n)],[(5,[.own [false] (fill b1T (b1T 0) (beL v 8) n)])],[]⟩) (fun(n:Nat)=>n≤8) (fun(n:Nat)=>8 - n) (0) [some 5] [] ⟨rfl,Za8,Zdm,I⟩ OM ?_
 intro n hn
 conv=>whnf
 refine g 0 0 []<|J UA<|W.sq<|W.cn<|J (fun h2=>?_) fun h2=>?_
 replace h2:=dt h2
 simp only[LM]at h2
 simp only[rW]at h2
 refine W.skip<|W.sq<|W.blk<|g 10 11 []<|J UB<|rg [.i (8 * (n:Int)),.i ((56:Int) - 8 * (n:Int)),.i (Int.fdiv v (2 ^ min (Int.toNat ((56:Int) - 8 * (n:Int))) (IntKind.bits IntKind.u64))),.i (IntKind.wrap IntKind.u8 (Int.fdiv v (2 ^ min (Int.toNat ((56:Int) - 8 * (n:Int))) (IntKind.bits IntKind.u64)))),.n (n),.x (b1T 0)]<|J ⟨I,I,I,I,wO,wO,Zdo,rfl,Zdf,⟨UA,Kw OM⟩,I⟩<|rg [.i ((n:Int) +1)]<|J Zdj ?_
 rotate_left
 replace h2:=df h2
 simp only[LM]at h2
 simp only[rW]at h2
 refine W.exit<|g 3 9 [.s ({data:=List.toArray (bK (fill b1T (b1T 0) (beL v 8) n)):ByteArray})]<|J ⟨I,⟨I,Fw,rfl⟩,I,I⟩<|RT ?_
 rotate_left
 ·refine⟨n+1,[some 5],[],⟨rfl,Za8,⟨⟨rfl,⟨(congrArg (V.own _) (JK h0 OM)),I⟩⟩,I⟩,I⟩,?_,?_⟩
  rotate_left
  (dsimp only;omega)
  dsimp only
  omega
 ·rw[Ky _ _ _ OM]
  exact vs (rA _)
theorem JQ{v:Int}{n:Nat}(h0:0≤v):[b1T (IntKind.u8.wrap ((v / 256 ^ n).tmod 256))] ++ (beL v n).map b1T = (beL v (n+1)).map b1T:=by
 have h1:0≤v / 256 ^ n:=Int.ediv_nonneg h0 (Int.le_of_lt (Int.pow_pos (by decide)))
 rw[Int.tmod_eq_emod_of_nonneg h1]
 have h2:IntKind.u8.wrap (v / 256 ^ n % 256) = v / 256 ^ n % 256:=wu8 OM OM
 rw[h2];rfl
theorem Nx{v:Int}{n:Nat}(h0:0≤v)(h2:v≤18446744073709551615):IntKind.u64.wrap ((v / 256 ^ n).tdiv 256) = v / 256 ^ (n+1):=by
 have h1:0≤v / 256 ^ n:=Int.ediv_nonneg h0 (Int.le_of_lt (Int.pow_pos (by decide)))
 have h3:v / 256 ^ n≤v:=Int.ediv_le_self _ h0
 rw[Int.tdiv_eq_ediv_of_nonneg h1,wu64 OM OM,Int.ediv_ediv_of_nonneg (Int.le_of_lt (Int.pow_pos (by decide))),Int.pow_succ]
def h0v:Int:=14695981039346656037
theorem kY(tx:ByteArray)(ht:tx.size≤9223372036854775807):F Ab [.val (.s tx)] (.s (bl (beL (lz h0v tx tx.size) 8))) [[]]:=by
 refine Ap ?_
 conv=>whnf
 refine g 0 0 []<|J UA<|g 0 0 []<|J UA<|W.sq<|g 0 0 []<|J UA<|W.blk<|W.lp (fun s (n:Nat)=>⟨[(0,s.s 0),(2,s.s 2),(3,u8v (lz h0v tx n)),(4,.i n)],[],[]⟩) (fun(n:Nat)=>n≤tx.size) (fun(n:Nat)=>tx.size - n) (0) [] [] ⟨rfl,Zcn,I,I⟩ OM ?_
 intro n hn
 conv=>whnf
 refine W.sq<|g 7 9 []<|J UD<|W.cn<|J (fun h1=>?_) fun h1=>?_
 replace h1:=dt h1
 refine W.skip<|W.sq<|W.blk ?_
 obtain⟨y1,hy1,hb1⟩:=bb (s:=tx) (n:=n) OM
 refine rg [.i ((↑(UInt8.toNat y1):Int)),.i ((↑(UInt8.toNat y1):Int)),.i (IntKind.wrap IntKind.u64 (↑(BitVec.toNat (BitVec.ofInt (IntKind.bits IntKind.u64) (lz h0v tx n) ^^^ BitVec.ofInt (IntKind.bits IntKind.u64) (↑(UInt8.toNat y1):Int))):Int)),.i (IntKind.wrap IntKind.u64 (IntKind.wrap IntKind.u64 (↑(BitVec.toNat (BitVec.ofInt (IntKind.bits IntKind.u64) (lz h0v tx n) ^^^ BitVec.ofInt (IntKind.bits IntKind.u64) (↑(UInt8.toNat y1):Int))):Int) * 1099511628211))]<|J ⟨I,I,I,Zcz,w8u _,rfl,rfl,I,I⟩<|rg [.i ((n:Int) +1)]<|J Zdc ?_
 rotate_left
 replace h1:=df h1
 refine W.exit<|g 10 21 []<|J UB<|W.sq<|g 4 5 []<|J UA<|W.blk ?_
 rotate_left
 ·refine⟨n+1,[],[],⟨rfl,⟨rfl,rfl,(congrArg (fun z=>V.t (T.v (Value.int _ z))) (zB AS).symm),rfl,I⟩,I,I⟩,?_,?_⟩
  rotate_left
  (dsimp only;omega)
  dsimp only
  omega
 have e:n = tx.size:=by omega
 subst e
 have hb:0≤lz h0v tx tx.size∧lz h0v tx tx.size≤18446744073709551615:=v9 _ _ (by unfold h0v;omega)
 generalize lz h0v tx tx.size = v at hb ⊢
 obtain⟨hb0,hb1⟩:=hb
 refine W.lp (fun s (n:Nat)=>⟨[(0,s.s 0),(2,s.s 2),(3,u8v (v / 256 ^ n)),(5,.ref ⟨5,none,0⟩),(6,.i n),(9,s.s 9)],[(5,[.own [false] ((beL v n).map b1T)])],[]⟩) (fun(n:Nat)=>n≤8) (fun(n:Nat)=>8 - n) (0) [some 20] [] ⟨rfl,⟨rfl,rfl,(congrArg (fun z=>V.t (T.v (Value.int _ z))) OM),rfl,rfl,rfl,I⟩,Zdm,I⟩ OM ?_
 intro n hn2
 have hx:=oE v n
 conv=>whnf
 refine W.sq<|g 21 22 []<|J UB<|W.cn<|J (fun h2=>?_) fun h2=>?_
 replace h2:=dt h2
 refine W.skip<|W.sq<|W.blk<|g 22 31 [.i (Int.tmod (v / 256 ^ n) 256),.i (IntKind.wrap IntKind.u8 (Int.tmod (v / 256 ^ n) 256))]<|J ⟨I,Zdo,rfl,US,I,Zde,I,I⟩<|rg [.i (IntKind.wrap IntKind.u64 (Int.tdiv (v / 256 ^ n) 256))]<|J ⟨I,Zdo,I,I⟩<|rg [.i ((n:Int) +1)]<|J Zdc ?_
 rotate_left
 replace h2:=df h2
 refine W.exit<|g 3 7 [.s ({data:=List.toArray (bK (List.map b1T (beL v n))):ByteArray})]<|J ⟨I,⟨I,Iy,rfl⟩,I,I⟩<|RT ?_
 rotate_left
 ·refine⟨n+1,[some 30],[],⟨rfl,⟨rfl,rfl,(congrArg (fun z=>V.t (T.v (Value.int _ z))) (Nx hb0 hb1)),rfl,rfl,rfl,I⟩,⟨⟨rfl,⟨(congrArg (V.own _) (JQ hb0)),I⟩⟩,I⟩,I⟩,?_,?_⟩
  rotate_left
  (dsimp only;omega)
  dsimp only
  omega
 ·rw[show n = 8 from by omega]
  exact vs (rA _)
def oq(nm:ByteArray)(xs:List ByteArray)(n:Nat):ByteArray:=(xs.take n).foldl (fun a s=>a++ (⟨#[0]⟩ ++s)) nm
theorem zM{nm:ByteArray}{xs:List ByteArray}{n:Nat}{x:ByteArray}(h:xs[n]? = some x):oq nm xs (n+1) = oq nm xs n++ (⟨#[0]⟩ ++x):=by
 unfold oq;rw[List.take_add_one,h,List.foldl_append];rfl
theorem zA:∀ (l:List ByteArray) (nm:ByteArray),((l.foldl (fun a s=>a++ (⟨#[0]⟩ ++s)) nm).size:Int) = nm.size+eX l+l.length
 |[],nm=>by simp[eX]
 |s :: l,nm=>by
  rw[List.foldl_cons,zA l]
  have:(⟨#[0]⟩:ByteArray).size = 1:=rfl
  simp only[ByteArray.size_append,eX,List.length_cons,this];omega
theorem Io(nm:ByteArray)(xs:List ByteArray)(n:Nat)(h:n≤xs.length):((oq nm xs n).size:Int) = nm.size+eX (xs.take n) +n:=by
 unfold oq;rw[zA,List.length_take,Nat.min_eq_left h]
theorem KJ{nm:ByteArray}{xs:List ByteArray}{n:Nat}{x:ByteArray}(h:xs[n]? = some x):bQ (oq nm xs n) ++ [[.v (.int .u8 0)]] ++bQ x = bQ (oq nm xs (n+1)):=by
 rw[zM h,lF,lF,List.append_assoc];rfl
def fe(v:Int)(s:ByteArray):Int:=s.data.toList.foldl fnv v
theorem fO(v:Int)(s:ByteArray):lz v s s.size = fe v s:=by
 unfold lz fe;rw[List.take_of_length_le (by simp)]
theorem ru(v:Int)(a b:ByteArray):fe v (a++b) = fe (fe v a) b:=by
 simp[fe,ByteArray.data_append,List.foldl_append]
theorem GO(s:ByteArray):0≤fe h0v s∧fe h0v s≤18446744073709551615:=v9 _ _ (by unfold h0v;omega)
def bO(nm:ByteArray)(xs:List ByteArray):ByteArray:=bl (beL (fe h0v (oq nm xs xs.length)) 8)
theorem kZ(nm:ByteArray)(xs:List ByteArray)(hn:nm.size≤1048576)(hl:xs.length≤1048576)(ht:eX xs≤1048576)(hs:∀ s∈xs,s.size≤1048576):F Ac [.val (.s nm),.val (.t (vo xs))] (.s (bO nm xs)) [[],[]]:=by
 refine Aq ?_
 conv=>whnf
 refine g 0 0 []<|J UA<|g 7 9 []<|J ⟨I,OM,I,I⟩<|W.sq<|g 0 0 []<|J UA<|W.blk<|W.lp (fun s (n:Nat)=>⟨[(0,s.s 0),(1,s.s 1),(4,s.s 4),(5,.ref ⟨5,none,0⟩),(6,.i n)],[(5,[.own [false] (bQ (oq nm xs n))])],[]⟩) (fun(n:Nat)=>n≤xs.length) (fun(n:Nat)=>xs.length - n) (0) [some 8] [] ⟨rfl,Za8,Zdm,I⟩ OM ?_
 intro n hn
 have hc:=Io nm xs n OM
 have hb:=ff (oq nm xs n)
 have hle:=Ns xs n
 conv=>whnf
 refine W.sq<|g 10 12 []<|J UD<|W.cn<|J (fun h1=>?_) fun h1=>?_
 replace h1:=dt h1
 simp only[LM]at h1
 refine W.skip<|W.sq<|W.blk ?_
 obtain⟨y1,hy1⟩:=aj (xs:=xs) (n:=n) OM
 have hm1:=hs y1 (List.mem_of_getElem? hy1)
 refine rgd [[],[],[],[],[],[.x (ak y1)],[],[],[]] ?_
 conv=>whnf
 refine J ⟨I,US,Zde,I,I,Zdg,I,Zde,I,I⟩<|J KR<|rg [.i ((n:Int) +1)]<|J Zdc ?_
 rotate_left
 replace h1:=df h1
 simp only[LM]at h1
 refine W.exit<|g 12 26 [.s (oq nm xs n),.call (V.s (bl (beL (lz h0v (oq nm xs n) (ByteArray.size (oq nm xs n))) 8))) [[]]]<|J ⟨I,⟨I,gX _,(ij _).symm⟩,⟨UA,I,US,UA,kY _ OM⟩,I,I⟩<|RT ?_
 rotate_left
 ·refine⟨n+1,[some 22],[],⟨rfl,Za8,⟨⟨rfl,⟨(congrArg (V.own _) (KJ AS)),I⟩⟩,I⟩,I⟩,?_,?_⟩
  rotate_left
  (dsimp only;omega)
  dsimp only
  omega
 ·exact vs (by rw[fO,show n = xs.length from by omega];rfl)
theorem JE{nm:ByteArray}{xs:List ByteArray}{n:Nat}{x:ByteArray}(h:xs[n]? = some x):lz (lz (fe h0v (oq nm xs n)) ⟨#[0]⟩ (⟨#[0]⟩:ByteArray).size) x x.size = fe h0v (oq nm xs (n+1)):=by
 rw[fO,fO,zM h,ru,ru]
theorem qP(nm:ByteArray)(xs:List ByteArray)(hn:nm.size≤1048576)(hl:xs.length≤1048576)(hs:∀ s∈xs,s.size≤1048576):F Aj [.val (.s nm),.val (.t (vo xs))] (.s (bO nm xs)) [[],[]]:=by
 refine Ax ?_
 conv=>whnf
 refine g 0 0 []<|J UA<|g 0 0 []<|J UV<|g 0 1 [.call (V.tup []) ([[u8v (lz 14695981039346656037 nm (ByteArray.size nm))],[]])]<|J ⟨I,⟨UB,I,UV,UA,cM _ _ OM⟩,I⟩<|W.sq<|g 1 2 []<|J UC<|W.blk<|W.lp (fun s (n:Nat)=>⟨[(4,s.s 4),(5,s.s 5),(10,s.s 10),(11,s.s 11),(12,.i n)],[(5,[u8v (fe h0v (oq nm xs n))])],[]⟩) (fun(n:Nat)=>n≤xs.length) (fun(n:Nat)=>xs.length - n) (0) [some 5] [] ⟨rfl,Za8,⟨⟨rfl,⟨(congrArg (fun z=>V.t (T.v (Value.int _ z))) (fO _ _)),I⟩⟩,I⟩,I⟩ OM ?_
 intro n hn
 have hb:=GO (oq nm xs n)
 conv=>whnf
 refine g 0 0 []<|J UA<|W.sq<|W.cn<|J (fun h1=>?_) fun h1=>?_
 replace h1:=dt h1
 simp only[LM]at h1
 refine W.skip<|W.sq<|W.blk ?_
 obtain⟨y1,hy1⟩:=aj (xs:=xs) (n:=n) OM
 have hm1:=hs y1 (List.mem_of_getElem? hy1)
 refine g 13 16 [.x (ak y1)]<|J Zcj<|g 16 17 [.call (V.tup []) ([[u8v (lz (fe h0v (oq nm xs n)) {data:=#[(0:UInt8)]:ByteArray} (ByteArray.size {data:=#[(0:UInt8)]:ByteArray}))],[]])]<|J ⟨⟨UB,I,UV,UA,cM _ _ (by decide)⟩,I⟩<|rg [.call (V.tup []) ([[u8v (lz (lz (fe h0v (oq nm xs n)) {data:=#[(0:UInt8)]:ByteArray} (ByteArray.size {data:=#[(0:UInt8)]:ByteArray})) y1 (ByteArray.size y1))],[]])]<|J ⟨I,⟨UB,I,UV,UA,cM _ _ OM⟩,I⟩<|rg [.i ((n:Int) +1)]<|J Zdj ?_
 rotate_left
 replace h1:=df h1
 simp only[LM]at h1
 refine W.exit<|g 5 22 [.call (V.s (bl (beL (fe h0v (oq nm xs n)) 8))) [[]]]<|J ⟨I,⟨UA,I,US,UA,j7 _ OM OM⟩,I,I⟩<|RT ?_
 rotate_left
 ·refine⟨n+1,[some 5],[],⟨rfl,Za8,⟨⟨rfl,⟨(congrArg (fun z=>V.t (T.v (Value.int _ z))) (JE AS)),I⟩⟩,I⟩,I⟩,?_,?_⟩
  rotate_left
  (dsimp only;omega)
  dsimp only
  omega
 ·exact vs (by rw[show n = xs.length from by omega];rfl)
end Go.K
end
section
open Go Go.Tm Go.Proofs
namespace Go.K
theorem FQ{α β:Type}{f:α→β}{p:α→Prop}:∀ {xs:List β},(∀ y∈xs,∃ s,y = f s∧p s)→∃ ys:List α,xs = ys.map f∧∀ s∈ys,p s
 |[],_=>⟨[],rfl,fun _ h=>by cases h⟩
 |y :: xs,h=>by
  obtain⟨s,rfl,hp⟩:=h y (.head _)
  obtain⟨ys,rfl,hq⟩:=FQ fun z hz=>h z (.tail _ hz)
  exact⟨s :: ys,rfl,fun z hz=>by rcases List.mem_cons.1 hz with rfl|hz;exact hp;exact hq z hz⟩
end Go.K
end
section
open Go Go.Tm Go.Proofs
namespace Go.K
structure Parcel where
 kind:Int
 frm:ByteArray
 text:ByteArray
 deriving DecidableEq
abbrev Qk(k:Int)(a b:ByteArray):V:=.agg [.t (.i k),.t (.s a),.t (.s b)]
abbrev bL(p:Parcel):List T:=[.i p.kind,.s p.frm,.s p.text]
abbrev pkd:List Bool:=[false,false,false]
abbrev zi(xs:List Parcel):T:=.slc pkd (xs.map bL)
abbrev noP:Parcel:=⟨0,emp,emp⟩
theorem fV(l:List Int):(bl l).size = l.length:=by simp[bl,bsa]
theorem cg(xs:List Parcel)(k:Int)(hl:xs.length≤9223372036854775806):F Af [.val (.t (zi xs)),.val (.i k)] (.b (decide (xs.length≤2000∧0≤k∧k < xs.length))) [[],[]]:=by
 refine As ?_
 conv=>whnf
 refine g 0 0 []<|J UA ?_
 by_cases h1:(↑(List.length (List.map bL xs)):Int)≤(2000:Int)
 simp only[LM]at h1
 refine g 5 15 [BT,BT,BT,BT,.i ((↑(List.length (List.map bL xs)):Int) - 1),BT,.call (V.b (decide (0≤k∧k≤(↑(List.length (List.map bL xs)):Int) - 1))) [[],[],[]],BT]<|J ⟨I,I,I,I,⟨SI,I⟩,⟨SI,I⟩,⟨SI,I⟩,⟨SI,w64 LN LN⟩,⟨SI,UC,I,UU,UA,ac _ _ _⟩,SI,I,I⟩<|RT ?_
 rotate_left
 simp only[LM]at h1
 refine g 5 15 [BF,BF,BF,BF,BF,BF]<|J ⟨I,I,I,I,SI,SI,SI,SI,SI,SI,I,I⟩<|RT ?_
 exact vbf OM
 exact vbd (by simp only[List.length_map];omega)
theorem cX(xs:List Parcel)(hl:xs.length≤1048576):F xP [.val (.t (zi xs))] (.own pkd (xs.map bL)) [[]]:=by
 refine yf ?_
 conv=>whnf
 refine g 0 0 []<|J UA<|g 3 6 []<|J ⟨I,I,Zde,I,I⟩<|RT ?_
 rfl
def bD(xs:List Parcel)(k:Int):List Parcel:=if xs.length≤2000∧0≤k∧k < xs.length then xs.take k.toNat++xs.drop (k.toNat+1)else xs
theorem GA{xs:List Parcel}{k:Int}(h:¬(xs.length≤2000∧0≤k∧k < xs.length)):bD xs k = xs:=if_neg h
theorem Dw{xs:List Parcel}{k:Int}(h:xs.length≤2000∧0≤k∧k < xs.length):List.drop 0 (List.take k.toNat (xs.map bL)) ++List.drop (k+1).toNat (List.take (xs.map bL).length (xs.map bL)) = (bD xs k).map bL:=by
 unfold bD
 rw[if_pos h,List.drop_zero,List.take_length,show(k+1).toNat = k.toNat+1 from by omega,List.map_append,List.map_take,List.map_drop]
theorem CI(xs:List Parcel)(k:Int)(hl:xs.length≤1048576):F Ce [.val (.t (zi xs)),.val (.i k)] (.own pkd ((bD xs k).map bL)) [[],[]]:=by
 refine Ct ?_
 conv=>whnf
 refine g 0 0 []<|J UA<|g 6 8 [.call (V.own pkd (List.map bL xs)) [[]]]<|J ⟨I,⟨UA,I,US,UA,cX _ OM⟩,I,I⟩<|W.sq<|g 8 10 [.call (V.b (decide (xs.length≤2000∧0≤k∧k < (↑xs.length:Int)))) [[],[]]]<|J ⟨I,I,⟨UB,I,UT,UA,cg _ _ OM⟩,I⟩<|W.cn<|J (fun h1=>?_) fun h1=>?_
 replace h1:=dt h1
 refine rgd [[],[],[.n (Int.toNat k)],[],[],[.i (k+1)],[.n (Int.toNat (k+1))],[],[]] ?_
 conv=>whnf
 refine J ⟨I,I,⟨I,OM,I,OM,LN⟩,I,I,wO,⟨I,I,OM,LN,OM⟩,Zde,I,I⟩<|J KR<|g 5 20 []<|J UB<|RT ?_
 rotate_left
 replace h1:=df h1
 refine W.skip<|g 5 20 []<|J UB<|RT ?_
 rotate_left
 ·exact congrArg (V.own pkd) (Dw h1)
 ·rw[GA h1]
end Go.K
end
section
open Go Go.Tm Go.Proofs
namespace Go.K
abbrev gS(n:Int):List T:=[.i n]
structure Task where
 name:ByteArray
 cost:Int
 deps:List Int
 deriving DecidableEq
abbrev aB(x:Task):List T:=[.s x.name,.i x.cost,.slc [false] (x.deps.map gS)]
abbrev dX:List Bool:=[false,false,true]
def Lg(x:Task):Prop:=x.name.size≤9223372036854775807∧x.deps.length≤9223372036854775807
structure Worker where
 number:Int
 epoch:Int
 up:Bool
 state:Int
 lease:Int
 task:Int
 cost:Int
 left:Int
 inputs:List ByteArray
 text:ByteArray
 since:Int
 deriving DecidableEq
abbrev av(x:Worker):List T:=[.i x.number,.i x.epoch,.b x.up,.i x.state,.i x.lease,.i x.task,.i x.cost,.i x.left,.slc [false] (x.inputs.map ak),.s x.text,.i x.since]
abbrev ea(x:Worker):V:=.agg [.t (.i x.number),.t (.i x.epoch),.t (.b x.up),.t (.i x.state),.t (.i x.lease),.t (.i x.task),.t (.i x.cost),.t (.i x.left),.t (.slc [false] (x.inputs.map ak)),.t (.s x.text),.t (.i x.since)]
abbrev aA(x:Worker):V:=.agg [.t (.i x.number),.t (.i x.epoch),.t (.b x.up),.t (.i x.state),.t (.i x.lease),.t (.i x.task),.t (.i x.cost),.t (.i x.left),.own [false] (x.inputs.map ak),.t (.s x.text),.t (.i x.since)]
abbrev eB:List Bool:=[false,false,false,false,false,false,false,false,true,false,false]
abbrev kN:Worker:=⟨0,0,false,0,0,0,0,0,[],emp,0⟩
structure Plan where
 tasks:List Task
 deriving DecidableEq
abbrev cB(x:Plan):V:=.agg [.t (.slc dX (x.tasks.map aB))]
abbrev dC(x:Plan):V:=.agg [.own dX (x.tasks.map aB)]
def cL(x:Plan):Prop:=x.tasks.length≤9223372036854775807∧(∀ y∈x.tasks,Lg y)
end Go.K
end
section
open Go Go.Tm Go.Proofs
namespace Go.K
def dH(xs:List ByteArray):Prop:=(∀ s∈xs,s.size = 8)∧xs.length≤8
instance (xs:List ByteArray):Decidable (dH xs):=by unfold dH;infer_instance
theorem zI{xs:List ByteArray}{n:Nat}{y:ByteArray}(hy:xs[n]? = some y)(h:¬(y.size:Int) = 8):¬dH xs:=fun e=>h (by have:=e.1 y (List.mem_of_getElem? hy);omega)
theorem rB{α:Type}{p:α→Prop}{xs:List α}{n:Nat}{y:α}(h:∀ s∈xs.take n,p s)(hy:xs[n]? = some y)(hp:p y):∀ s∈xs.take (n+1),p s:=fun s hs=>by
 rw[List.take_add_one,hy]at hs
 rcases List.mem_append.1 hs with hs|hs
 ·exact h s hs
 ·simp at hs;subst hs;exact hp
theorem rC{α:Type}{p:α→Prop}{xs:List α}{n:Nat}(h:∀ s∈xs.take n,p s)(hn:xs.length≤n):∀ s∈xs,p s:=by rwa [bC hn]at h
theorem gk(xs:List ByteArray)(hl:xs.length≤9223372036854775806):F xO [.val (.t (vo xs))] (.b (decide (dH xs))) [[]]:=by
 refine ye ?_
 conv=>whnf
 refine g 0 0 []<|J UA<|W.sq<|g 0 0 []<|J UC<|W.blk<|W.lp (fun s (n:Nat)=>⟨[(0,s.s 0),(5,s.s 5),(6,s.s 6),(7,.i n)],[],[]⟩) (fun(n:Nat)=>n≤xs.length∧∀ s∈xs.take n,s.size = 8) (fun(n:Nat)=>xs.length - n) (0) [] [] ⟨rfl,Zcn,I,I⟩ (by simp) ?_
 rintro n ⟨hn,hc⟩
 conv=>whnf
 refine g 0 0 []<|J UA<|W.sq<|W.cn<|J (fun h1=>?_) fun h1=>?_
 replace h1:=dt h1
 simp only[LM]at h1
 refine W.skip<|W.sq<|W.blk ?_
 obtain⟨y1,hy1⟩:=aj (xs:=xs) (n:=n) OM
 refine g 8 11 [.x (ak y1)]<|J Zcj<|g 11 13 []<|J UC<|W.cn<|J (fun h2=>?_) fun h2=>?_
 replace h2:=ndt h2
 refine g 13 14 []<|J UA<|RT ?_
 rotate_left
 replace h2:=ndf h2
 refine W.skip<|rg [.i ((n:Int) +1)]<|J Zdj ?_
 rotate_left
 replace h1:=df h1
 simp only[LM]at h1
 refine W.exit<|g 5 18 []<|J UD<|RT ?_
 rotate_left
 ·exact vbf (zI hy1 AS)
 ·refine⟨n+1,[],[],⟨rfl,Zcn,I,I⟩,?_,?_⟩
  rotate_left
  (dsimp only;omega)
  dsimp only
  exact⟨by omega,rB hc hy1 OM⟩
 ·exact vbd ⟨fun e=>⟨rC hc OM,by simp only[LM]at e;omega⟩,fun e=>by have:=e.2;simp only[List.length_map];omega⟩
theorem dS(xs:List ByteArray)(hl:xs.length≤9223372036854775806):F pS [.val (.t (vo xs))] (.b (decide (dH xs))) [[]]:=by
 refine qe ?_
 conv=>whnf
 refine g 0 0 []<|J UA<|W.sq<|g 0 0 []<|J UA<|W.blk<|W.lp (fun s (n:Nat)=>⟨[(0,s.s 0),(3,.i n)],[],[]⟩) (fun(n:Nat)=>n≤xs.length∧∀ s∈xs.take n,s.size = 8) (fun(n:Nat)=>xs.length - n) (0) [] [] Zc5 (by simp) ?_
 rintro n ⟨hn,hc⟩
 conv=>whnf
 refine W.sq<|g 5 7 []<|J UD<|W.cn<|J (fun h1=>?_) fun h1=>?_
 replace h1:=dt h1
 simp only[LM]at h1
 refine W.skip<|W.sq<|W.blk ?_
 obtain⟨y1,hy1⟩:=aj (xs:=xs) (n:=n) OM
 refine g 7 15 [.x (ak y1)]<|J ⟨I,I,Zdg,I,I,I,I⟩<|W.cn<|J (fun h2=>?_) fun h2=>?_
 replace h2:=ndt h2
 refine g 15 16 []<|J UA<|RT ?_
 rotate_left
 replace h2:=ndf h2
 refine W.skip<|rg [.i ((n:Int) +1)]<|J Zdc ?_
 rotate_left
 replace h1:=df h1
 simp only[LM]at h1
 refine W.exit<|g 7 19 []<|J UD<|RT ?_
 rotate_left
 ·exact vbf (zI hy1 AS)
 ·refine⟨n+1,[],[],Zc5,?_,?_⟩
  rotate_left
  (dsimp only;omega)
  dsimp only
  exact⟨by omega,rB hc hy1 OM⟩
 ·exact vbd ⟨fun e=>⟨rC hc OM,by simp only[LM]at e;omega⟩,fun e=>by have:=e.2;simp only[List.length_map];omega⟩
theorem ax(n:Int):F rI [.val (.i n)] (.b (decide (1≤n∧n≤300000000))) [[]]:=by
 refine r5 ?_
 conv=>whnf
 refine g 0 0 []<|J UA<|g 0 1 [.call (V.b (decide (1≤n∧n≤300000000))) [[],[],[]]]<|J ⟨I,⟨UC,I,UU,UA,ag _ _ _⟩,I,I⟩<|RT ?_
 rfl
end Go.K
end
section
open Go Go.Tm Go.Proofs Classical
namespace Go.K
def lT(s:ByteArray):Prop:=(∀ (n:Nat) (c:UInt8),s[n]? = some c→33≤c.toNat∧c.toNat≤126)∧1≤s.size∧s.size≤30
theorem rf{s:ByteArray}{n:Nat}{c:UInt8}(h:s[n]? = some c)(hc:¬(33≤(c.toNat:Int)∧(c.toNat:Int)≤126)):¬lT s:=fun e=>hc (by have:=e.1 n c h;omega)
theorem vM{s:ByteArray}{n:Nat}{c:UInt8}(hn:∀ (m:Nat) (c:UInt8),m < n→s[m]? = some c→33≤c.toNat∧c.toNat≤126)(h:s[n]? = some c)(hc:33≤(c.toNat:Int)∧(c.toNat:Int)≤126):∀ (m:Nat) (c:UInt8),m < n+1→s[m]? = some c→33≤c.toNat∧c.toNat≤126:=fun m d hm hd=>by
 by_cases e:m = n
 ·subst e;rw[h]at hd;cases hd;omega
 ·exact hn m d OM hd
theorem Hx{s:ByteArray}{n:Nat}{c:UInt8}(h:s[n]? = some c):n < s.size:=by
 by_cases hn:n < s.size
 ·exact hn
 ·rw[getElem?_neg s n hn]at h;cases h
theorem qO(s:ByteArray)(hs:s.size≤9223372036854775807):F Ah [.val (.s s)] (.b (decide (lT s))) [[]]:=by
 refine Av ?_
 conv=>whnf
 refine g 0 0 []<|J UA<|W.sq<|g 0 0 []<|J UA<|W.blk<|W.lp (fun s (n:Nat)=>⟨[(0,s.s 0),(3,.i n)],[],[]⟩) (fun(n:Nat)=>n≤s.size∧∀ (m:Nat) (c:UInt8),m < n→s[m]? = some c→33≤c.toNat∧c.toNat≤126) (fun(n:Nat)=>s.size - n) (0) [] [] Zc5 (by simp) ?_
 rintro n ⟨hn,hc⟩
 conv=>whnf
 refine W.sq<|g 5 7 []<|J UD<|W.cn<|J (fun h1=>?_) fun h1=>?_
 replace h1:=dt h1
 refine W.skip<|W.sq<|W.blk ?_
 obtain⟨y1,hy1,hb1⟩:=bb (s:=s) (n:=n) OM
 by_cases h2:(↑(UInt8.toNat y1):Int) < (33:Int)
 refine g 7 19 [.i ((↑(UInt8.toNat y1):Int)),BT,BT,BT,BT,BT]<|J ⟨I,I,Zcz,I,I,tO,tO,tO,tO,tO,I⟩<|W.cn<|J (fun _=>(g 19 20 []<|J UA (RT ?_))) (noF rfl)
 rotate_left
 refine g 7 19 [.i ((↑(UInt8.toNat y1):Int)),BF,BF,BF,.i ((↑(UInt8.toNat y1):Int)),BF,BF]<|J ⟨I,I,Zcz,I,I,⟨dO,I⟩,⟨dO,I⟩,⟨dO,OM,ixb AS⟩,⟨dO,I⟩,dO,I⟩<|W.cn<|J (fun h3=>?_) fun h3=>?_
 replace h3:=dt h3
 refine g 19 20 []<|J UA<|RT ?_
 rotate_left
 replace h3:=df h3
 refine W.skip<|rg [.i ((n:Int) +1)]<|J Zdc ?_
 rotate_left
 replace h1:=df h1
 refine W.exit ?_
 by_cases h2:(1:Int)≤(↑(ByteArray.size s):Int)
 refine g 7 28 [BT,BT,BT,BT]<|J Zcb<|RT ?_
 rotate_left
 refine g 7 28 [BF,BF,BF,BF]<|J Zc4<|RT ?_
 rotate_left
 ·exact vbf (rf hy1 OM)
 ·exact vbf (rf hy1 OM)
 ·refine⟨n+1,[],[],Zc5,?_,?_⟩
  rotate_left
  (dsimp only;omega)
  dsimp only
  exact⟨by omega,vM hc hy1 OM⟩
 ·exact vbd ⟨fun e=>⟨fun m c h=>hc m c (by have:=Hx h;omega) h,by omega,by omega⟩,fun e=>by have:=e.2;omega⟩
 ·exact vbf (fun e=>by have:=e.2;omega)
theorem uo(s:ByteArray)(hs:s.size≤9223372036854775807):F tW [.val (.s s)] (.b (decide (lT s))) [[]]:=by
 refine uj ?_
 conv=>whnf
 refine g 0 0 []<|J UA<|W.sq<|g 0 0 []<|J UA<|W.blk<|W.lp (fun s (n:Nat)=>⟨[(0,s.s 0),(3,.i n)],[],[]⟩) (fun(n:Nat)=>n≤s.size∧∀ (m:Nat) (c:UInt8),m < n→s[m]? = some c→33≤c.toNat∧c.toNat≤126) (fun(n:Nat)=>s.size - n) (0) [] [] Zc5 (by simp) ?_
 rintro n ⟨hn,hc⟩
 conv=>whnf
 refine W.sq<|g 5 7 []<|J UD<|W.cn<|J (fun h1=>?_) fun h1=>?_
 replace h1:=dt h1
 refine W.skip<|W.sq<|W.blk ?_
 obtain⟨y1,hy1,hb1⟩:=bb (s:=s) (n:=n) OM
 by_cases h2:(↑(UInt8.toNat y1):Int) < (33:Int)
 refine g 7 19 [.i ((↑(UInt8.toNat y1):Int)),BT,BT,BT,BT,BT]<|J ⟨I,I,Zcz,I,I,tO,tO,tO,tO,tO,I⟩<|W.cn<|J (fun _=>(g 19 20 []<|J UA (RT ?_))) (noF rfl)
 rotate_left
 refine g 7 19 [.i ((↑(UInt8.toNat y1):Int)),BF,BF,BF,.i ((↑(UInt8.toNat y1):Int)),BF,BF]<|J ⟨I,I,Zcz,I,I,⟨dO,I⟩,⟨dO,I⟩,⟨dO,OM,ixb AS⟩,⟨dO,I⟩,dO,I⟩<|W.cn<|J (fun h3=>?_) fun h3=>?_
 replace h3:=dt h3
 refine g 19 20 []<|J UA<|RT ?_
 rotate_left
 replace h3:=df h3
 refine W.skip<|rg [.i ((n:Int) +1)]<|J Zdc ?_
 rotate_left
 replace h1:=df h1
 refine W.exit ?_
 by_cases h2:(1:Int)≤(↑(ByteArray.size s):Int)
 refine g 7 28 [BT,BT,BT,BT]<|J Zcb<|RT ?_
 rotate_left
 refine g 7 28 [BF,BF,BF,BF]<|J Zc4<|RT ?_
 rotate_left
 ·exact vbf (rf hy1 OM)
 ·exact vbf (rf hy1 OM)
 ·refine⟨n+1,[],[],Zc5,?_,?_⟩
  rotate_left
  (dsimp only;omega)
  dsimp only
  exact⟨by omega,vM hc hy1 OM⟩
 ·exact vbd ⟨fun e=>⟨fun m c h=>hc m c (by have:=Hx h;omega) h,by omega,by omega⟩,fun e=>by have:=e.2;omega⟩
 ·exact vbf (fun e=>by have:=e.2;omega)
end Go.K
end
section
open Go Go.Tm Go.Proofs Classical
namespace Go.K
def AZ(xs:List Task)(n:Nat):Prop:=∀ (m:Nat) (t:Task),m < n→xs[m]? = some t→lT t.name∧t.name ∉ (xs.take m).map Task.name
def gH(xs:List Task):Prop:=AZ xs xs.length
def iK(xs:List Task):Prop:=∀ t∈xs,1≤t.cost∧t.cost≤20
def DC(last hi:Int):List Int→Prop
 |[]=>True
 |d :: ds=>(last < d∧d < hi)∧DC d hi ds
def Pi(hi:Int)(d:List Int):Prop:=d.length≤8∧DC (-1) hi d
def FY(xs:List Task)(n:Nat):Prop:=∀ (m:Nat) (t:Task),m < n→xs[m]? = some t→Pi m t.deps
def uG(xs:List Task):Prop:=FY xs xs.length
noncomputable def ai(xs:List Task):Int :=
 if ¬(1≤xs.length∧xs.length≤40)then 1 else if ¬gH xs then 2 else if ¬iK xs then 3 else if ¬uG xs then 4 else 0
theorem N4{xs:List Task}(h:¬(1≤xs.length∧xs.length≤40)):ai xs = 1:=by unfold ai;rw[if_pos h]
theorem N3{xs:List Task}(h:1≤xs.length∧xs.length≤40)(h2:¬gH xs):ai xs = 2:=by unfold ai;rw[if_neg (not_not_intro h),if_pos h2]
theorem N1{xs:List Task}(h:1≤xs.length∧xs.length≤40)(h2:gH xs)(h3:¬iK xs):ai xs = 3:=by unfold ai;rw[if_neg (not_not_intro h),if_neg (not_not_intro h2),if_pos h3]
theorem Hr{xs:List Task}(h:1≤xs.length∧xs.length≤40)(h2:gH xs)(h3:iK xs)(h4:¬uG xs):ai xs = 4:=by unfold ai;rw[if_neg (not_not_intro h),if_neg (not_not_intro h2),if_neg (not_not_intro h3),if_pos h4]
theorem RK{xs:List Task}(h:1≤xs.length∧xs.length≤40)(h2:gH xs)(h3:iK xs)(h4:uG xs):ai xs = 0:=by unfold ai;rw[if_neg (not_not_intro h),if_neg (not_not_intro h2),if_neg (not_not_intro h3),if_neg (not_not_intro h4)]
theorem rk{xs:List Task}{n:Nat}{t:Task}(ht:xs[n]? = some t)(h:¬(lT t.name∧t.name ∉ (xs.take n).map Task.name)):¬gH xs:=fun e=>h (e n t (List.getElem?_eq_some_iff.1 ht).1 ht)
theorem vj{P:Nat→Task→Prop}{xs:List Task}{n:Nat}{t:Task}(h:∀ (m:Nat) (t:Task),m < n→xs[m]? = some t→P m t)(ht:xs[n]? = some t)(hp:P n t):∀ (m:Nat) (t:Task),m < n+1→xs[m]? = some t→P m t:=fun m d hm hd=>by
 by_cases e:m = n
 ·subst e;rw[ht]at hd;cases hd;exact hp
 ·exact h m d OM hd
theorem Bi{P:Nat→Task→Prop}{xs:List Task}{n:Nat}(h:∀ (m:Nat) (t:Task),m < n→xs[m]? = some t→P m t)(hn:xs.length≤n):∀ (m:Nat) (t:Task),m < xs.length→xs[m]? = some t→P m t:=fun m t hm ht=>h m t OM ht
theorem ry{xs:List Task}{n:Nat}{t:Task}(ht:xs[n]? = some t)(h:¬(1≤t.cost∧t.cost≤20)):¬iK xs:=fun e=>h (e t (List.mem_of_getElem? ht))
theorem lM{xs:List Task}{n:Nat}{t:Task}(ht:xs[n]? = some t)(h:¬Pi n t.deps):¬uG xs:=fun e=>h (e n t (List.getElem?_eq_some_iff.1 ht).1 ht)
def lV(hi:Int)(d:List Int)(k:Nat)(last:Int):Prop:=DC (-1) hi d↔DC last hi (d.drop k)
theorem Hl{α:Type}{d:List α}{k:Nat}{y:α}(h:d[k]? = some y):d.drop k = y :: d.drop (k+1):=by
 have hk:=(List.getElem?_eq_some_iff.1 h)
 rw[List.drop_eq_getElem_cons hk.1,hk.2]
theorem sL{hi:Int}{d:List Int}{k:Nat}{last y:Int}(h:lV hi d k last)(hy:d[k]? = some y)(h1:last < y∧y < hi):lV hi d (k+1) y:=by
 unfold lV at *;rw[h,Hl hy,DC];exact⟨fun e=>e.2,fun e=>⟨h1,e⟩⟩
theorem rZ{hi:Int}{d:List Int}{k:Nat}{last y:Int}(h:lV hi d k last)(hy:d[k]? = some y)(h1:¬(last < y∧y < hi)):¬DC (-1) hi d:=by
 unfold lV at *;rw[h,Hl hy,DC];exact fun e=>h1 e.1
theorem DB{hi:Int}{d:List Int}{k:Nat}{last:Int}(h:lV hi d k last)(hk:d.length≤k):DC (-1) hi d:=by
 unfold lV at *;rw[h,List.drop_eq_nil_of_le hk];trivial
theorem eu(p:Plan)(hp:cL p):F rR [.val (cB p)] (.i (ai p.tasks)) [[]]:=by
 have hl:p.tasks.length≤9223372036854775807:=hp.1
 have hw:∀ y∈p.tasks,y.name.size≤9223372036854775807∧y.deps.length≤9223372036854775807:=hp.2
 refine se ?_
 conv=>whnf
 refine g 0 1 []<|J Zdr<|g 14 17 []<|J UD<|W.sq ?_
 by_cases h1:(↑(List.length (List.map aB (Plan.tasks p))):Int) = (0:Int)
 simp only[LM]at h1
 refine g 17 22 [BT,BT,BT]<|J ⟨I,I,I,SI,SI,SI,I⟩<|W.cn<|J (fun _=>(g 22 23 []<|J UA (RT ?_))) (noF rfl)
 rotate_left
 simp only[LM]at h1
 refine g 17 22 [BF,BF,BF]<|J ⟨I,I,I,⟨(by simp_all),I⟩,⟨(by simp_all),I⟩,(by simp_all),I⟩<|W.cn<|J (fun h2=>?_) fun h2=>?_
 replace h2:=dt h2
 simp only[LM]at h2
 refine g 22 23 []<|J UA<|RT ?_
 rotate_left
 replace h2:=df h2
 simp only[LM]at h2
 refine W.skip<|g 22 24 []<|J UB<|W.sq<|g 24 25 []<|J UD<|W.blk ?_
 rotate_left
 ·exact vi (N4 OM).symm
 ·exact vi (N4 OM).symm
 have hlen:1≤p.tasks.length∧p.tasks.length≤40:=by omega
 refine W.lp (fun s (n:Nat)=>⟨[(1,s.s 1),(3,s.s 3),(4,s.s 4),(25,s.s 25),(26,s.s 26),(27,.i n)],[(1,[s.c 1 0])],[(23,(p.tasks.take n).map fun t=>Value.string t.name)]⟩) (fun(n:Nat)=>n≤p.tasks.length∧AZ p.tasks n) (fun(n:Nat)=>p.tasks.length - n) (0) [some 1] [23] ⟨rfl,⟨rfl,rfl,rfl,rfl,rfl,rfl,I⟩,⟨⟨rfl,⟨rfl,I⟩⟩,I⟩,⟨rfl,I⟩⟩ ?_ ?_
 ·exact⟨Nat.zero_le _,fun m t hm=>by omega⟩
 rintro n ⟨hn,hc⟩
 conv=>whnf
 refine g 0 0 []<|J UA<|W.sq<|W.cn<|J (fun h3=>?_) fun h3=>?_
 replace h3:=dt h3
 simp only[LM]at h3
 refine W.skip<|W.sq<|W.blk ?_
 obtain⟨y1,hy1⟩:=aj (xs:=Plan.tasks p) (n:=n) OM
 have hm1:=hw y1 (List.mem_of_getElem? hy1)
 refine g 28 31 [.x (aB y1)]<|J Zck<|W.sq ?_
 by_cases h4:lT (Task.name y1)
 refine g 31 40 [.call (V.b (decide (lT y1.name))) [[]],BF,BF,BF,BF,.b (decide (y1.name∈List.map Task.name (List.take n p.tasks))),BF]<|J ⟨I,I,⟨UA,I,US,UA,qO _ OM⟩,I,I,⟨nO,I⟩,⟨nO,I⟩,⟨nO,I⟩,⟨nO,Kg,Dx⟩,nO,I⟩<|W.cn<|J (fun h5=>?_) fun h5=>?_
 replace h5:=dt h5
 refine g 40 41 []<|J UA<|RT ?_
 rotate_left
 replace h5:=df h5
 refine W.skip<|rg []<|J ⟨I,I,I,Dx,I⟩<|rg [.i ((n:Int) +1)]<|J Zdj ?_
 rotate_left
 refine g 31 40 [.call (V.b (decide (lT y1.name))) [[]],BT,BT,BT,BT,BT]<|J ⟨I,I,⟨UA,I,US,UA,qO _ OM⟩,I,I,af OM,af OM,af OM,af OM,af OM,I⟩<|W.cn<|J (fun _=>(g 40 41 []<|J UA (RT ?_))) (noF rfl)
 rotate_left
 replace h3:=df h3
 simp only[LM]at h3
 refine W.exit<|W.sq<|g 4 46 []<|J UD<|W.blk ?_
 rotate_left
 ·exact vi (N3 hlen (rk hy1 (by grind))).symm
 ·refine⟨n+1,[some 1],[23],⟨rfl,Zay,Zdm,⟨(congrArg some (HH AS)),I⟩⟩,?_,?_⟩
  rotate_left
  (dsimp only;omega)
  dsimp only
  exact⟨by omega,vj hc hy1 (by grind)⟩
 ·exact vi (N3 hlen (rk hy1 (by grind))).symm
 have hnames:gH p.tasks:=Bi hc OM
 refine W.lp (fun s (n:Nat)=>⟨[(1,s.s 1),(3,s.s 3),(46,s.s 46),(47,s.s 47),(48,.i n)],[(1,[s.c 1 0])],[]⟩) (fun(n:Nat)=>n≤p.tasks.length∧∀ t∈p.tasks.take n,1≤t.cost∧t.cost≤20) (fun(n:Nat)=>p.tasks.length - n) (0) [some 1] [] ⟨rfl,Za8,Zdm,I⟩ (by simp) ?_
 rintro n2 ⟨hn2,hc2⟩
 conv=>whnf
 refine g 0 0 []<|J UA<|W.sq<|W.cn<|J (fun h4=>?_) fun h4=>?_
 replace h4:=dt h4
 simp only[LM]at h4
 refine W.skip<|W.sq<|W.blk ?_
 obtain⟨y1,hy1⟩:=aj (xs:=Plan.tasks p) (n:=n2) OM
 have hm1:=hw y1 (List.mem_of_getElem? hy1)
 refine g 49 52 [.x (aB y1)]<|J Zck ?_
 by_cases h5:Task.cost y1 < (1:Int)
 refine g 52 59 [BT,BT,BT,BT]<|J ⟨I,I,I,I,tO,tO,tO,tO,I⟩<|W.cn<|J (fun _=>(g 8 9 []<|J UA (RT ?_))) (noF rfl)
 rotate_left
 refine g 52 59 [BF,BF,BF,BF]<|J ⟨I,I,I,I,⟨dO,I⟩,⟨dO,I⟩,⟨dO,I⟩,dO,I⟩<|W.cn<|J (fun h6=>?_) fun h6=>?_
 replace h6:=dt h6
 refine g 8 9 []<|J UA<|RT ?_
 rotate_left
 replace h6:=df h6
 refine W.skip<|rg [.i ((n2:Int) +1)]<|J Zdj ?_
 rotate_left
 replace h4:=df h4
 simp only[LM]at h4
 refine W.exit<|W.sq<|g 46 62 []<|J UD<|W.blk ?_
 rotate_left
 ·exact vi (N1 hlen hnames (ry AS OM)).symm
 ·exact vi (N1 hlen hnames (ry AS OM)).symm
 ·refine⟨n2+1,[some 1],[],⟨rfl,Za8,Zdm,I⟩,?_,?_⟩
  rotate_left
  (dsimp only;omega)
  dsimp only
  exact⟨by omega,rB hc2 AS OM⟩
 have hcosts:iK p.tasks:=rC hc2 OM
 refine W.lp (fun s (n:Nat)=>⟨[(3,s.s 3),(62,s.s 62),(63,s.s 63),(64,.i n)],[],[]⟩) (fun(n:Nat)=>n≤p.tasks.length∧FY p.tasks n) (fun(n:Nat)=>p.tasks.length - n) (0) [] [] ⟨rfl,⟨rfl,rfl,rfl,rfl,I⟩,I,I⟩ ?_ ?_
 ·exact⟨Nat.zero_le _,fun m t hm=>by omega⟩
 rintro n3 ⟨hn3,hc3⟩
 conv=>whnf
 refine g 0 0 []<|J UA<|W.sq<|W.cn<|J (fun h5=>?_) fun h5=>?_
 replace h5:=dt h5
 simp only[LM]at h5
 refine W.skip<|W.sq<|W.blk ?_
 obtain⟨y1,hy1⟩:=aj (xs:=Plan.tasks p) (n:=n3) OM
 have hm1:=hw y1 (List.mem_of_getElem? hy1)
 refine g 65 69 [.x (aB y1)]<|J Zbs<|W.sq<|g 69 72 []<|J UD<|W.cn<|J (fun h6=>?_) fun h6=>?_
 replace h6:=dt h6
 simp only[LM]at h6
 refine g 72 73 []<|J UA<|RT ?_
 rotate_left
 replace h6:=df h6
 simp only[LM]at h6
 refine W.skip<|g 72 73 []<|J UA<|g 10 11 []<|J UD<|W.blk ?_
 rotate_left
 replace h5:=df h5
 simp only[LM]at h5
 refine W.exit<|g 62 66 []<|J UA<|RT ?_
 rotate_left
 ·exact vi (Hr hlen hnames hcosts (lM AS (fun e=>by have:=e.1;omega))).symm
 ·skip
  refine W.lp (fun s (x:Nat×Int)=>match x with|(k,last)=>⟨[(3,s.s 3),(9,s.s 9),(11,.i last),(62,s.s 62),(63,s.s 63),(64,s.s 64),(74,s.s 74),(75,s.s 75),(76,.i k)],[],[]⟩) (fun(x:Nat×Int)=>match x with|(k,last)=>k≤y1.deps.length∧lV n3 y1.deps k last) (fun(x:Nat×Int)=>match x with|(k,last)=>y1.deps.length - k) ((0,-1)) [] [] ⟨rfl,⟨rfl,rfl,rfl,rfl,rfl,rfl,rfl,rfl,rfl,I⟩,I,I⟩ ?_ ?_
  ·exact⟨Nat.zero_le _,Iff.rfl⟩
  rintro⟨k,last⟩ ⟨hk,hi⟩
  conv=>whnf
  refine g 0 0 []<|J UA<|W.sq<|W.cn<|J (fun h7=>?_) fun h7=>?_
  replace h7:=dt h7
  simp only[LM]at h7
  refine W.skip<|W.sq<|W.blk ?_
  obtain⟨y2,hy2⟩:=aj (xs:=Task.deps y1) (n:=k) OM
  refine g 77 80 [.x (gS y2)]<|J Zcj<|W.sq ?_
  by_cases h8:y2≤last
  refine g 80 87 [BT,BT,BT,BT]<|J ⟨I,I,I,I,tO,tO,tO,tO,I⟩<|W.cn<|J (fun _=>(g 87 88 []<|J UA (RT ?_))) (noF rfl)
  rotate_left
  refine g 80 87 [BF,BF,BF,BF]<|J ⟨I,I,I,I,⟨dO,I⟩,⟨dO,I⟩,⟨dO,I⟩,dO,I⟩<|W.cn<|J (fun h9=>?_) fun h9=>?_
  replace h9:=dt h9
  refine g 87 88 []<|J UA<|RT ?_
  rotate_left
  replace h9:=df h9
  refine W.skip<|rg []<|J UB<|rg [.i ((k:Int) +1)]<|J Zdj ?_
  rotate_left
  replace h7:=df h7
  simp only[LM]at h7
  refine W.exit<|rg [.i ((n3:Int) +1)]<|J Zdj ?_
  rotate_left
  ·exact vi (Hr hlen hnames hcosts (lM hy1 (fun e=>rZ hi AS OM e.2))).symm
  ·exact vi (Hr hlen hnames hcosts (lM hy1 (fun e=>rZ hi AS OM e.2))).symm
  ·refine⟨(k+1,y2),[],[],⟨rfl,⟨rfl,rfl,rfl,rfl,rfl,rfl,rfl,rfl,rfl,I⟩,I,I⟩,?_,?_⟩
   rotate_left
   (dsimp only;omega)
   dsimp only
   exact⟨by omega,sL hi AS OM⟩
  ·refine⟨n3+1,[],[],⟨rfl,Zcn,I,I⟩,?_,?_⟩
   rotate_left
   (dsimp only;omega)
   dsimp only
   exact⟨by omega,vj hc3 hy1 ⟨by omega,DB hi OM⟩⟩
 exact vi (RK hlen hnames hcosts (Bi hc3 OM)).symm
end Go.K
end
section
open Go Go.Tm Go.Proofs Classical
namespace Go.K
theorem Ak{xs:List Task}{n k:Nat}{a:Task}(h:xs[k]? = some a)(hk:k < n):a.name∈(xs.take n).map Task.name:=by
 refine List.mem_map.2 ⟨a,?_,rfl⟩
 refine List.mem_of_getElem? (i:=k) ?_
 rw[List.getElem?_take,if_pos hk];exact h
theorem HU{xs:List Task}{n k:Nat}{s:ByteArray}{a:Task}(h:s ∉ (xs.take k).map Task.name)(ha:xs[k]? = some a)(hne:a.name≠s):s ∉ (xs.take (k+1)).map Task.name:=by
 rw[List.take_add_one,ha];simp only[List.map_append,List.mem_append,not_or]
 exact⟨h,by simpa using fun e=>hne e.symm⟩
theorem GC{d:List Int}{k:Nat}{l y:Int}(h:d[k - 1]? = some l)(hy:d[((k:Int) - 1).toNat]? = some y):y = l:=by
 have e:((k:Int) - 1).toNat = k - 1:=by omega
 rw[e,h]at hy;cases hy;rfl
theorem bW(p:Plan)(hp:cL p):F rM [.val (cB p)] (.i (ai p.tasks)) [[]]:=by
 have hl:p.tasks.length≤9223372036854775807:=hp.1
 have hw:∀ y∈p.tasks,y.name.size≤9223372036854775807∧y.deps.length≤9223372036854775807:=hp.2
 refine r8 ?_
 conv=>whnf
 refine g 0 1 []<|J Zdr<|g 10 13 []<|J UD<|W.sq ?_
 by_cases h1:(↑(List.length (List.map aB (Plan.tasks p))):Int) < (1:Int)
 simp only[LM]at h1
 refine g 14 16 [BT,BT,BT]<|J ⟨I,I,I,SI,SI,SI,I⟩<|W.cn<|J (fun _=>(g 17 19 []<|J UA (RT ?_))) (noF rfl)
 rotate_left
 simp only[LM]at h1
 refine g 14 16 [BF,BF,BF]<|J ⟨I,I,I,⟨SI,I⟩,⟨SI,I⟩,SI,I⟩<|W.cn<|J (fun h2=>?_) fun h2=>?_
 replace h2:=dt h2
 simp only[LM]at h2
 refine g 17 19 []<|J UA<|RT ?_
 rotate_left
 replace h2:=df h2
 simp only[LM]at h2
 refine W.skip<|W.sq<|g 17 19 []<|J UA<|W.blk ?_
 rotate_left
 ·exact vi (N4 OM).symm
 ·exact vi (N4 OM).symm
 have hlen:1≤p.tasks.length∧p.tasks.length≤40:=by omega
 refine W.lp (fun s (n:Nat)=>⟨[(1,s.s 1),(3,s.s 3),(4,.i n),(13,s.s 13),(16,s.s 16)],[(1,[s.c 1 0])],[]⟩) (fun(n:Nat)=>n≤p.tasks.length∧AZ p.tasks n) (fun(n:Nat)=>p.tasks.length - n) (0) [some 1] [] ⟨rfl,⟨rfl,rfl,rfl,rfl,rfl,I⟩,⟨⟨rfl,⟨rfl,I⟩⟩,I⟩,I⟩ ?_ ?_
 ·exact⟨Nat.zero_le _,fun m t hm=>by omega⟩
 rintro n ⟨hn,hc⟩
 conv=>whnf
 refine W.sq<|g 19 21 []<|J UC<|W.cn<|J (fun h3=>?_) fun h3=>?_
 replace h3:=dt h3
 simp only[LM]at h3
 refine W.skip<|W.sq<|W.blk<|W.sq ?_
 obtain⟨y1,hy1⟩:=aj (xs:=Plan.tasks p) (n:=n) OM
 have hm1:=hw y1 (List.mem_of_getElem? hy1)
 refine g 21 31 [.x (aB y1),.call (V.b (decide (lT y1.name))) [[]]]<|J ⟨I,I,I,Zdg,I,I,⟨UA,I,US,UA,uo _ OM⟩,I,I⟩<|W.cn<|J (fun h4=>?_) fun h4=>?_
 replace h4:=ndt h4
 refine g 31 32 []<|J UA<|RT ?_
 rotate_left
 replace h4:=ndf h4
 refine W.skip<|g 31 32 []<|J UA<|W.blk ?_
 rotate_left
 replace h3:=df h3
 simp only[LM]at h3
 refine W.exit<|W.sq<|g 4 5 []<|J UA<|W.blk ?_
 rotate_left
 ·exact vi (N3 hlen (rk hy1 (fun e=>absurd e.1 AS))).symm
 ·refine W.lp (fun s (k:Nat)=>⟨[(1,s.s 1),(3,s.s 3),(4,s.s 4),(5,.i k),(13,s.s 13),(16,s.s 16)],[(1,[s.c 1 0])],[]⟩) (fun(k:Nat)=>k≤n∧y1.name ∉ (p.tasks.take k).map Task.name) (fun(k:Nat)=>n - k) (0) [some 1] [] ⟨rfl,Zay,Zdm,I⟩ (by simp) ?_
  rintro k ⟨hk,hm⟩
  conv=>whnf
  refine W.sq<|g 32 34 []<|J UC<|W.cn<|J (fun h5=>?_) fun h5=>?_
  replace h5:=dt h5
  refine W.skip<|W.sq<|W.blk ?_
  obtain⟨y2,hy2⟩:=aj (xs:=Plan.tasks p) (n:=k) OM
  have hm2:=hw y2 (List.mem_of_getElem? hy2)
  refine gd 34 49 [[],[],[],[.x (aB y2)],[],[],[],[],[],[.x (aB y1)],[],[],[]] ?_
  conv=>whnf
  refine J ⟨I,I,I,Zdg,I,I,I,I,I,Zdg,I,I,I,I⟩<|J KR<|W.cn<|J (fun h6=>?_) fun h6=>?_
  replace h6:=dt h6
  refine g 49 50 []<|J UA<|RT ?_
  rotate_left
  replace h6:=df h6
  refine W.skip<|rg [.i ((k:Int) +1)]<|J Zdc ?_
  rotate_left
  replace h5:=df h5
  refine W.exit<|rg [.i ((n:Int) +1)]<|J Zdc ?_
  rotate_left
  ·exact vi (N3 hlen (rk hy1 (fun e=>e.2 (by rw[←(show y2.name = y1.name by assumption)];exact Ak hy2 OM)))).symm
  ·refine⟨k+1,[some 1],[],⟨rfl,Zay,Zdm,I⟩,?_,?_⟩
   rotate_left
   (dsimp only;omega)
   dsimp only
   exact⟨by omega,HU (n:=n) hm hy2 AS⟩
  ·refine⟨n+1,[some 1],[],⟨rfl,Za8,Zdm,I⟩,?_,?_⟩
   rotate_left
   (dsimp only;omega)
   dsimp only
   exact⟨by omega,vj hc hy1 ⟨by assumption,by rwa [show k = n by omega]at hm⟩⟩
 have hnames:gH p.tasks:=Bi hc OM
 refine W.lp (fun s (n:Nat)=>⟨[(1,s.s 1),(3,s.s 3),(6,.i n),(13,s.s 13),(16,s.s 16)],[(1,[s.c 1 0])],[]⟩) (fun(n:Nat)=>n≤p.tasks.length∧∀ t∈p.tasks.take n,1≤t.cost∧t.cost≤20) (fun(n:Nat)=>p.tasks.length - n) (0) [some 1] [] ⟨rfl,Za8,Zdm,I⟩ (by simp) ?_
 rintro n2 ⟨hn2,hc2⟩
 conv=>whnf
 refine W.sq<|g 50 52 []<|J UC<|W.cn<|J (fun h4=>?_) fun h4=>?_
 replace h4:=dt h4
 simp only[LM]at h4
 refine W.skip<|W.sq<|W.blk ?_
 obtain⟨y1,hy1⟩:=aj (xs:=Plan.tasks p) (n:=n2) OM
 have hm1:=hw y1 (List.mem_of_getElem? hy1)
 by_cases h5:Task.cost y1 < (1:Int)
 refine g 52 70 [.x (aB y1),BT,BT,BT,BT,BT,BT,BT,BT]<|J ⟨I,I,I,Zdg,I,I,I,I,tO,tO,tO,tO,tO,tO,tO,tO,I⟩<|W.cn<|J (fun _=>(g 70 71 []<|J UA (RT ?_))) (noF rfl)
 rotate_left
 refine g 52 70 [.x (aB y1),BF,BF,BF,BF,.x (aB y1),BF,BF,BF,BF]<|J ⟨I,I,I,Zdg,I,I,I,I,⟨dO,I⟩,⟨dO,I⟩,⟨dO,I⟩,⟨dO,OM,xA⟩,⟨dO,I⟩,⟨dO,I⟩,⟨dO,I⟩,dO,I⟩<|W.cn<|J (fun h6=>?_) fun h6=>?_
 replace h6:=dt h6
 refine g 70 71 []<|J UA<|RT ?_
 rotate_left
 replace h6:=df h6
 refine W.skip<|rg [.i ((n2:Int) +1)]<|J Zdc ?_
 rotate_left
 replace h4:=df h4
 simp only[LM]at h4
 refine W.exit<|W.sq<|g 6 7 []<|J UA<|W.blk ?_
 rotate_left
 ·exact vi (N1 hlen hnames (ry AS OM)).symm
 ·exact vi (N1 hlen hnames (ry AS OM)).symm
 ·refine⟨n2+1,[some 1],[],⟨rfl,Za8,Zdm,I⟩,?_,?_⟩
  rotate_left
  (dsimp only;omega)
  dsimp only
  exact⟨by omega,rB hc2 AS OM⟩
 have hcosts:iK p.tasks:=rC hc2 OM
 refine W.lp (fun s (n:Nat)=>⟨[(1,s.s 1),(3,s.s 3),(7,.i n),(13,s.s 13),(16,s.s 16)],[(1,[s.c 1 0])],[]⟩) (fun(n:Nat)=>n≤p.tasks.length∧FY p.tasks n) (fun(n:Nat)=>p.tasks.length - n) (0) [some 1] [] ⟨rfl,⟨rfl,rfl,rfl,rfl,rfl,I⟩,⟨⟨rfl,⟨rfl,I⟩⟩,I⟩,I⟩ ?_ ?_
 ·exact⟨Nat.zero_le _,fun m t hm=>by omega⟩
 rintro n3 ⟨hn3,hc3⟩
 conv=>whnf
 refine W.sq<|g 71 73 []<|J UC<|W.cn<|J (fun h5=>?_) fun h5=>?_
 replace h5:=dt h5
 simp only[LM]at h5
 refine W.skip<|W.sq<|W.blk ?_
 obtain⟨y1,hy1⟩:=aj (xs:=Plan.tasks p) (n:=n3) OM
 have hm1:=hw y1 (List.mem_of_getElem? hy1)
 refine g 73 82 [.x (aB y1)]<|J ⟨I,I,I,Zdg,I,I,I,I⟩<|W.sq<|g 82 84 []<|J UC<|W.cn<|J (fun h6=>?_) fun h6=>?_
 replace h6:=dt h6
 simp only[LM]at h6
 refine g 84 85 []<|J UA<|RT ?_
 rotate_left
 replace h6:=df h6
 simp only[LM]at h6
 refine W.skip<|g 84 85 []<|J UA<|W.blk ?_
 rotate_left
 replace h5:=df h5
 simp only[LM]at h5
 refine W.exit<|g 7 74 []<|J UA<|RT ?_
 rotate_left
 ·exact vi (Hr hlen hnames hcosts (lM AS (fun e=>by have:=e.1;omega))).symm
 ·refine W.lp (fun s (x:Nat×Int)=>match x with|(k,last)=>⟨[(1,s.s 1),(3,s.s 3),(7,s.s 7),(8,s.s 8),(9,.i k),(13,s.s 13),(16,s.s 16)],[(1,[s.c 1 0])],[]⟩) (fun(x:Nat×Int)=>match x with|(k,last)=>k≤y1.deps.length∧lV n3 y1.deps k last∧ -1≤last∧(k = 0→last = -1)∧(0 < k→y1.deps[k - 1]? = some last)) (fun(x:Nat×Int)=>match x with|(k,last)=>y1.deps.length - k) ((0,-1)) [some 1] [] ⟨rfl,⟨rfl,rfl,rfl,rfl,rfl,rfl,rfl,I⟩,⟨⟨rfl,⟨rfl,I⟩⟩,I⟩,I⟩ ?_ ?_
  ·exact⟨Nat.zero_le _,Iff.rfl,by omega,fun _=>rfl,fun h=>by omega⟩
  rintro⟨k,last⟩ ⟨hk,hi,hlo,hz,hs⟩
  conv=>whnf
  refine W.sq<|g 85 88 []<|J UD<|W.cn<|J (fun h7=>?_) fun h7=>?_
  replace h7:=dt h7
  simp only[LM]at h7
  refine W.skip<|W.sq<|W.blk ?_
  obtain⟨y2,hy2⟩:=aj (xs:=Task.deps y1) (n:=k) OM
  by_cases h8:y2 < (0:Int)
  refine gd 88 119 [[],[],[.x (gS y2)],[],[],[],[BT],[BT],[BT],[BT],[BT],[BT],[BT],[],[BT],[BT],[BT],[BF],[BF],[BF],[BF],[BF],[BF],[BF],[BF],[BF],[BF],[BT],[BT]] ?_
  conv=>whnf
  refine J ⟨I,I,Zdg,I,I,I,tO,tO,tO,tO,tO,tO,tO,I,rfl,rfl,rfl,I,I,I,I,I,I,I,I,I,I,rfl,rfl,I⟩<|J KR<|W.cn<|J (fun _=>(g 119 120 []<|J UA (RT ?_))) (noF rfl)
  rotate_left
  by_cases h9:(↑n3:Int)≤y2
  refine gd 88 119 [[],[],[.x (gS y2)],[],[],[],[BF],[BF],[BF,.x (gS y2)],[BF],[BF],[BF],[BF],[],[BT],[BT],[BT],[BF],[BF],[BF],[BF],[BF],[BF],[BF],[BF],[BF],[BF],[BT],[BT]] ?_
  conv=>whnf
  refine J ⟨I,I,Zdg,I,I,I,⟨dO,I⟩,⟨dO,I⟩,⟨dO,OM,xA⟩,⟨dO,I⟩,⟨dO,I⟩,⟨dO,I⟩,dO,I,tO,tO,tO,I,I,I,I,I,I,I,I,I,I,tO,tO,I⟩<|J KR<|W.cn<|J (fun _=>(g 119 120 []<|J UA (RT ?_))) (noF rfl)
  rotate_left
  by_cases h10:(0:Int) < (↑k:Int)
  obtain⟨y3,hy3⟩:=aj (xs:=Task.deps y1) (n:=Int.toNat ((↑k:Int) - (1:Int))) OM
  refine gd 88 119 [[],[],[.x (gS y2)],[],[],[],[BF],[BF],[BF,.x (gS y2)],[BF],[BF],[BF],[BF],[],[BF],[BF],[BF],[BT],[BT],[BT,.i ((k:Int) - 1)],[BT,.x (gS y3)],[BT],[BT],[BT],[BT,.x (gS y2)],[BT],[BT],[BF,BT],[BF]] ?_
  conv=>whnf
  refine J ⟨I,I,Zdg,I,I,I,⟨dO,I⟩,⟨dO,I⟩,⟨dO,OM,xA⟩,⟨dO,I⟩,⟨dO,I⟩,⟨dO,I⟩,dO,I,⟨dO,I⟩,⟨dO,I⟩,⟨dO,I⟩,⟨tO,I⟩,⟨tO,I⟩,⟨tO,wO⟩,⟨tO,OM,xA⟩,⟨tO,I⟩,⟨tO,I⟩,⟨tO,I⟩,⟨tO,OM,xA⟩,⟨tO,I⟩,⟨tO,I⟩,⟨dO,tO⟩,dO,I⟩<|J KR<|W.cn<|J (fun h11=>?_) fun h11=>?_
  replace h11:=dt h11
  refine g 119 120 []<|J UA<|RT ?_
  rotate_left
  replace h11:=df h11
  refine W.skip<|rg [.i ((k:Int) +1)]<|J Zdc ?_
  rotate_left
  refine gd 88 119 [[],[],[.x (gS y2)],[],[],[],[BF],[BF],[BF,.x (gS y2)],[BF],[BF],[BF],[BF],[],[BF],[BF],[BF],[BF],[BF],[BF],[BF],[BF],[BF],[BF],[BF],[BF],[BF],[BF,BF],[BF]] ?_
  conv=>whnf
  refine J ⟨I,I,Zdg,I,I,I,⟨dO,I⟩,⟨dO,I⟩,⟨dO,OM,xA⟩,⟨dO,I⟩,⟨dO,I⟩,⟨dO,I⟩,dO,I,⟨dO,I⟩,⟨dO,I⟩,⟨dO,I⟩,dO,dO,dO,dO,dO,dO,dO,dO,dO,dO,⟨dO,dO⟩,dO,I⟩<|J KR<|W.cn<|J (noT rfl) fun _=>W.skip<|rg [.i ((k:Int) +1)]<|J Zdc ?_
  rotate_left
  replace h7:=df h7
  simp only[LM]at h7
  refine W.exit<|rg [.i ((n3:Int) +1)]<|J Zdc ?_
  rotate_left
  ·exact vi (Hr hlen hnames hcosts (lM hy1 (fun e=>rZ hi hy2 OM e.2))).symm
  ·exact vi (Hr hlen hnames hcosts (lM hy1 (fun e=>rZ hi hy2 OM e.2))).symm
  ·have hl3:=GC (hs OM) hy3
   exact vi (Hr hlen hnames hcosts (lM hy1 (fun e=>rZ hi hy2 OM e.2))).symm
  ·have hl3:=GC (hs OM) hy3
   refine⟨(k+1,y2),[some 1],[],⟨rfl,Zb1,Zdm,I⟩,?_,?_⟩
   rotate_left
   (dsimp only;omega)
   dsimp only
   exact⟨by omega,sL hi hy2 OM,by omega,fun e=>by omega,fun _=>hy2⟩
  ·have hl3:=hz OM
   refine⟨(k+1,y2),[some 1],[],⟨rfl,Zb1,Zdm,I⟩,?_,?_⟩
   rotate_left
   (dsimp only;omega)
   dsimp only
   exact⟨by omega,sL hi hy2 OM,by omega,fun e=>by omega,fun _=>hy2⟩
  ·refine⟨n3+1,[some 1],[],⟨rfl,Za8,Zdm,I⟩,?_,?_⟩
   rotate_left
   (dsimp only;omega)
   dsimp only
   exact⟨by omega,vj hc3 hy1 ⟨by omega,DB hi OM⟩⟩
 exact vi (RK hlen hnames hcosts (Bi hc3 OM)).symm
end Go.K
end
section
open Go Go.Tm Go.Proofs
namespace Go.K
def cC(all:List ByteArray)(ds:List Int):List ByteArray:=ds.map fun d=>(all[d.toNat]?).getD emp
def da(ts:List Task)(n:Nat):List ByteArray:=(ts.take n).foldl (fun acc t=>acc++ [bO t.name (cC acc t.deps)]) []
theorem tf(ts:List Task):da ts 0 = []:=by unfold da;rw[List.take_zero];rfl
theorem gA{ts:List Task}{n:Nat}{t:Task}(h:ts[n]? = some t):da ts (n+1) = da ts n++ [bO t.name (cC (da ts n) t.deps)]:=by
 unfold da;rw[List.take_add_one,h];simp
theorem eW(ts:List Task):∀ n,n≤ts.length→(da ts n).length = n
 |0,_=>by rw[tf];rfl
 |n+1,h=>by
  rw[gA (List.getElem?_eq_getElem OM),List.length_append,eW ts n OM];rfl
theorem td(nm:ByteArray)(xs:List ByteArray):(bO nm xs).size = 8:=by unfold bO;rw[fV,oE]
theorem pb(ts:List Task):∀ n,n≤ts.length→∀ s∈da ts n,s.size = 8
 |0,_=>by rw[tf];intro s hs;cases hs
 |n+1,h=>by
  rw[gA (List.getElem?_eq_getElem OM)]
  intro s hs
  rcases List.mem_append.1 hs with hs|hs
  ·exact pb ts n OM s hs
  ·rw[List.mem_singleton.1 hs];exact td _ _
noncomputable def cu(p:Plan):List ByteArray:=if ai p.tasks = 0 then da p.tasks p.tasks.length else []
def ca(rs:List ByteArray)(ds:List Int):Prop:=∀ d∈ds,¬(rs[d.toNat]?).getD emp = emp
noncomputable instance (rs:List ByteArray) (ds:List Int):Decidable (ca rs ds):=Classical.propDecidable _
structure Tale where
 epoch:Int
 results:List ByteArray
open Classical in
noncomputable def de(ts:List Task)(st:Tale)(s:ByteArray):Option Tale :=
 match dn s with
 |none=>none
 |some e =>
  if e.kind = 1 then(if e.epoch = st.epoch+1 then some ⟨e.epoch,st.results⟩else none)
  else if e.epoch = st.epoch∧e.task < ts.length∧(st.results[e.task.toNat]?).getD emp = emp∧ca st.results ((ts[e.task.toNat]?).map Task.deps|>.getD [])then some ⟨st.epoch,st.results.set e.task.toNat e.text⟩else none
noncomputable def iU(ts:List Task)(st:Option Tale)(l:List ByteArray):Option Tale:=l.foldl (fun a s=>a.bind fun t=>de ts t s) st
noncomputable def ke(ts:List Task):Tale:=⟨0,List.replicate ts.length emp⟩
theorem mS(ts:List Task)(l:List ByteArray)(st:Option Tale)(m:List ByteArray):iU ts st (l++m) = iU ts (iU ts st l) m:=by unfold iU;rw[List.foldl_append]
theorem gv(ts:List Task):∀ (l:List ByteArray),iU ts none l = none
 |[]=>rfl
 |s :: l=>gv ts l
theorem iQ(ts:List Task)(st:Option Tale):iU ts st [] = st:=rfl
theorem nn(ts:List Task)(t:Tale)(s:ByteArray)(l:List ByteArray):iU ts (some t) (s :: l) = iU ts (de ts t s) l:=rfl
theorem yY{ts:List Task}{xs:List ByteArray}{n:Nat}{s:ByteArray}{st:Option Tale}{t:Tale}(h:iU ts st (xs.take n) = some t)(hs:xs[n]? = some s):iU ts st (xs.take (n+1)) = de ts t s:=by
 rw[List.take_add_one,hs,mS,h];rfl
theorem JV{ts:List Task}{xs:List ByteArray}{n:Nat}{s:ByteArray}{st:Option Tale}{t:Tale}(h:iU ts st (xs.take n) = some t)(hs:xs[n]? = some s)(hb:de ts t s = none):iU ts st xs = none:=by
 have h2:=yY h hs
 rw[hb]at h2
 rw[←List.take_append_drop (n+1) xs,mS,h2,gv]
theorem JW{ts:List Task}{xs:List ByteArray}{n:Nat}{st:Option Tale}{t:Tale}(h:iU ts st (xs.take n) = some t)(hn:xs.length≤n):iU ts st xs = some t:=by
 rw[List.take_of_length_le hn]at h;exact h
theorem HG{ts:List Task}{t t':Tale}{s:ByteArray}(h:de ts t s = some t'):t'.results.length = t.results.length:=by
 unfold de at h
 split at h
 ·cases h
 ·split at h
  ·split at h
   ·cases h;rfl
   ·cases h
  ·split at h
   ·cases h;simp
   ·cases h
theorem rb(ts:List Task):∀ (l:List ByteArray) (t t':Tale),iU ts (some t) l = some t'→t'.results.length = t.results.length
 |[],t,t',h=>by rw[iQ]at h;cases h;rfl
 |s :: l,t,t',h=>by
  rw[nn]at h
  cases hs:de ts t s with
  |none=>rw[hs,gv]at h;cases h
  |some u=>rw[hs]at h;rw[rb ts l u t' h,HG hs]
end Go.K
end
section
open Go Go.Tm Go.Proofs
namespace Go.K
abbrev RB(ds:List Int):T:=.slc [false] (ds.map gS)
theorem vN{all:List ByteArray}{ds:List Int}{n:Nat}{d:Int}{y:ByteArray}(h:ds[n]? = some d)(hy:all[d.toNat]? = some y):cC all (ds.take (n+1)) = cC all (ds.take n) ++ [y]:=by
 unfold cC;rw[List.take_add_one,h];simp[hy]
theorem zg{all:List ByteArray}{ds:List Int}{n:Nat}{d:Int}{y:ByteArray}(h:ds[n]? = some d)(hy:all[d.toNat]? = some y):(cC all (ds.take n)).map ak++ [ak y] = (cC all (ds.take (n+1))).map ak:=by
 rw[vN h hy,List.map_append];rfl
theorem CG(all:List ByteArray)(ds:List Int)(hd:∀ d∈ds,0≤d∧d < all.length)(hl:ds.length≤1048576):F Cc [.val (.t (vo all)),.val (.t (RB ds))] (.own [false] ((cC all ds).map ak)) [[],[]]:=by
 refine Cr ?_
 conv=>whnf
 refine g 0 0 []<|J UA<|g 0 0 []<|J UA<|W.sq<|g 1 2 []<|J UC<|W.blk<|W.lp (fun s (n:Nat)=>⟨[(0,s.s 0),(4,s.s 4),(5,.ref ⟨5,none,0⟩),(8,s.s 8),(9,s.s 9),(10,.i n)],[(5,[.own [false] ((cC all (ds.take n)).map ak)])],[]⟩) (fun(n:Nat)=>n≤ds.length) (fun(n:Nat)=>ds.length - n) (0) [none] [] ⟨rfl,⟨rfl,rfl,⟨rfl,rfl,rfl⟩,rfl,rfl,rfl,I⟩,UA,I⟩ OM ?_
 intro n hn
 have hx:(cC all (ds.take n)).length = n:=by unfold cC;rw[List.length_map,List.length_take];omega
 conv=>whnf
 refine g 0 0 []<|J UA<|W.sq<|W.cn<|J (fun h1=>?_) fun h1=>?_
 replace h1:=dt h1
 simp only[LM]at h1
 refine W.skip<|W.sq<|W.blk ?_
 obtain⟨y1,hy1⟩:=aj (xs:=ds) (n:=n) OM
 have hm1:=hd y1 (List.mem_of_getElem? hy1)
 refine g 11 14 [.x (gS y1)]<|J Zcj ?_
 obtain⟨y2,hy2⟩:=aj (xs:=all) (n:=Int.toNat y1) OM
 refine rg [.x (ak y2)]<|J ⟨I,I,I,Zdg,I,US,Zde,I,I⟩<|rg [.i ((n:Int) +1)]<|J Zdj ?_
 rotate_left
 replace h1:=df h1
 simp only[LM]at h1
 refine W.exit<|g 5 12 []<|J UB<|RT ?_
 rotate_left
 ·refine⟨n+1,[some 20],[],⟨rfl,Zay,⟨⟨rfl,⟨(congrArg (V.own _) (zg AS AS)),I⟩⟩,I⟩,I⟩,?_,?_⟩
  rotate_left
  (dsimp only;omega)
  dsimp only
  omega
 ·rw[List.take_of_length_le OM]
theorem Dd{rs:List ByteArray}{ds:List Int}{n:Nat}{d:Int}{y:ByteArray}(h:ds[n]? = some d)(hy:rs[d.toNat]? = some y)(e:y = emp):¬ca rs ds:=fun hr=>hr d (List.mem_of_getElem? h) (by rw[hy];exact e)
theorem vJ{rs:List ByteArray}{ds:List Int}{n:Nat}{d:Int}{y:ByteArray}(hc:ca rs (ds.take n))(h:ds[n]? = some d)(hy:rs[d.toNat]? = some y)(e:¬y = emp):ca rs (ds.take (n+1)):=by
 intro x hx
 rw[List.take_add_one,h]at hx
 rcases List.mem_append.1 hx with hx|hx
 ·exact hc x hx
 ·rw[Option.toList,List.mem_singleton]at hx;subst hx;rw[hy];exact e
theorem gV(all:List ByteArray)(ds:List Int)(hd:∀ d∈ds,0≤d∧d < all.length)(hl:ds.length≤1048576):F Ag [.val (.t (vo all)),.val (.t (RB ds))] (.b (decide (ca all ds))) [[],[]]:=by
 refine Au ?_
 conv=>whnf
 refine g 0 0 []<|J UA<|W.sq<|g 1 2 []<|J UC<|W.blk ?_
 refine W.lp (fun s (n:Nat)=>⟨[(0,s.s 0),(7,s.s 7),(8,s.s 8),(9,.i n)],[],[]⟩) (fun(n:Nat)=>n≤ds.length∧ca all (ds.take n)) (fun(n:Nat)=>ds.length - n) (0) [] [] ⟨rfl,⟨rfl,rfl,rfl,rfl,I⟩,I,I⟩ ?_ ?_
 ·exact⟨Nat.zero_le _,by unfold ca;simp⟩
 rintro n ⟨hn,hc⟩
 conv=>whnf
 refine g 0 0 []<|J UA<|W.sq<|W.cn<|J (fun h1=>?_) fun h1=>?_
 replace h1:=dt h1
 simp only[LM]at h1
 refine W.skip<|W.sq<|W.blk ?_
 obtain⟨y1,hy1⟩:=aj (xs:=ds) (n:=n) OM
 have hm1:=hd y1 (List.mem_of_getElem? hy1)
 refine g 10 13 [.x (gS y1)]<|J Zcj ?_
 obtain⟨y2,hy2⟩:=aj (xs:=all) (n:=Int.toNat y1) OM
 refine g 13 17 [.x (ak y2)]<|J ⟨I,I,Zdg,I,I,I⟩<|W.cn<|J (fun h2=>?_) fun h2=>?_
 replace h2:=dt h2
 refine g 6 7 []<|J UA<|RT ?_
 rotate_left
 replace h2:=df h2
 refine W.skip<|rg [.i ((n:Int) +1)]<|J Zdj ?_
 rotate_left
 replace h1:=df h1
 simp only[LM]at h1
 refine W.exit<|g 7 11 []<|J UA<|RT ?_
 rotate_left
 ·exact vbf (Dd AS AS AS)
 ·refine⟨n+1,[],[],⟨rfl,Zcn,I,I⟩,?_,?_⟩
  rotate_left
  (dsimp only;omega)
  dsimp only
  exact⟨by omega,vJ hc AS AS AS⟩
 ·exact vbt (by rw[List.take_of_length_le OM]at hc;exact hc)
end Go.K
end
section
open Go Go.Tm Go.Proofs
namespace Go.K
theorem vZ{hi:Int}:∀ {last:Int} {ds:List Int},DC last hi ds→∀ d∈ds,last < d∧d < hi
 |_,[],_,d,h=>by cases h
 |last,x :: ds,h,d,hd=>by
  rw[DC]at h
  rcases List.mem_cons.1 hd with e|hd
  ·subst e;exact h.1
  ·have:=vZ h.2 d hd;omega
theorem bM{ts:List Task}(h:ai ts = 0):(1≤ts.length∧ts.length≤40)∧gH ts∧iK ts∧uG ts:=by
 by_cases h1:1≤ts.length∧ts.length≤40
 ·by_cases h2:gH ts
  ·by_cases h3:iK ts
   ·by_cases h4:uG ts
    ·exact⟨h1,h2,h3,h4⟩
    ·rw[Hr h1 h2 h3 h4]at h;cases h
   ·rw[N1 h1 h2 h3]at h;cases h
  ·rw[N3 h1 h2]at h;cases h
 ·rw[N4 h1]at h;cases h
theorem bv{ts:List Task}(h:ai ts = 0){n:Nat}{t:Task}(ht:ts[n]? = some t):(1≤t.name.size∧t.name.size≤30)∧(1≤t.cost∧t.cost≤20)∧t.deps.length≤8∧∀ d∈t.deps,0≤d∧d < n:=by
 obtain⟨h1,h2,h3,h4⟩:=bM h
 have hn:=(List.getElem?_eq_some_iff.1 ht).1
 refine⟨(h2 n t hn ht).1.2,h3 t (List.mem_of_getElem? ht),(h4 n t hn ht).1,fun d hd=>?_⟩
 have:=vZ (h4 n t hn ht).2 d hd
 omega
theorem Ek{ts:List Task}{n:Nat}{t:Task}(h:ts[n]? = some t):(da ts n).map ak++ [ak (bO t.name (cC (da ts n) t.deps))] = (da ts (n+1)).map ak:=by
 rw[gA h,List.map_append];rfl
theorem kr(all:List ByteArray)(ds:List Int):(cC all ds).length = ds.length:=by unfold cC;rw[List.length_map]
theorem EM{all:List ByteArray}(hm:∀ s∈all,s.size = 8){ds:List Int}:∀ s∈cC all ds,s.size≤8:=by
 intro s hs
 unfold cC at hs
 obtain⟨d,hd,rfl⟩:=List.mem_map.1 hs
 cases hg:all[d.toNat]? with
 |none=>show emp.size≤8;decide
 |some y=>exact Nat.le_of_eq (hm y (List.mem_of_getElem? hg))
theorem wF:∀ {xs:List ByteArray},(∀ s∈xs,s.size≤8)→eX xs≤8 * xs.length
 |[],_=>by simp[eX]
 |s :: xs,h=>by
  have:=wF (xs:=xs) fun y hy=>h y (List.mem_cons_of_mem _ hy)
  have:=h s (List.mem_cons_self ..)
  simp only[eX,List.length_cons];omega
theorem AC(p:Plan)(hp:cL p):F Ad [.val (cB p)] (.own [false] ((cu p).map ak)) [[]]:=by
 have c1:=bW p hp
 by_cases h:ai p.tasks = 0
 ·obtain⟨⟨hl1,hl2⟩,_⟩:=bM h
  rw[h]at c1
  refine qJ ?_
  conv=>whnf
  refine g 0 0 []<|J Zdr<|g 7 8 []<|J UB<|W.sq<|g 8 10 [.call (V.i 0) [[]]]<|J ⟨I,Zai,I,I⟩<|W.cn<|J (noT rfl) fun _=>W.skip<|W.sq<|g 10 11 []<|J UA<|W.blk<|W.lp (fun s (n:Nat)=>⟨[(0,s.s 0),(1,s.s 1),(2,s.s 2),(3,.ref ⟨7,none,0⟩),(4,.i n)],[(1,[s.c 1 0]),(7,[.own [false] ((da p.tasks n).map ak)])],[]⟩) (fun(n:Nat)=>n≤p.tasks.length) (fun(n:Nat)=>p.tasks.length - n) (0) [some 1,some 7] [] ⟨rfl,⟨Zag,rfl,rfl,rfl,rfl,I⟩,⟨Zad,Zdm⟩,I⟩ OM ?_
  intro n hn
  have hx:=eW p.tasks n hn
  have hm:=pb p.tasks n hn
  by_cases hn2:n < p.tasks.length
  ·obtain⟨t,ht⟩:=aj hn2
   obtain⟨⟨a1,a2⟩,_,a3,a4⟩:=bv h ht
   conv=>whnf
   refine W.sq<|g 12 16 []<|J UE<|W.cn<|J (fun _=>(W.skip (W.sq (W.blk (g 16 20 []<|J UB (W.sq (g 0 0 []<|J UA (W.blk (W.lp (fun s (k:Nat)=>⟨[(0,s.s 0),(1,s.s 1),(2,s.s 2),(3,s.s 3),(4,s.s 4),(5,.ref ⟨19,none,0⟩),(6,.i k)],[(1,[s.c 1 0]),(7,[s.c 7 0]),(19,[.own [false] ((cC (da p.tasks n) (t.deps.take k)).map ak)])],[]⟩) (fun(k:Nat)=>k≤t.deps.length) (fun(k:Nat)=>t.deps.length - k) (0) [some 1,some 7,some 19] [] ⟨rfl,Zdz,⟨Zad,⟨Zad,Zdm⟩⟩,I⟩ OM ?_))))))))) (noF SI)
   intro k hk
   have hxk:=kr (da p.tasks n) (t.deps.take k)
   rw[List.length_take,Nat.min_eq_left hk]at hxk
   by_cases hk2:k < t.deps.length
   ·obtain⟨d,hd⟩:=aj hk2
    have hd2:=a4 d (List.mem_of_getElem? hd)
    obtain⟨y,hy⟩:=aj (xs:=da p.tasks n) (n:=d.toNat) OM
    conv=>whnf
    refine W.sq<|g 23 28 [.x (aB t)]<|J ⟨I,I,I,I,Zdg,I,I,I,I,I⟩<|W.cn<|J (fun _=>(W.skip (W.sq (W.blk (rg [.x (aB t),.x (gS d),.n (Int.toNat d),.x (ak y)]<|J ⟨I,I,I,I,I,Zdg,I,I,I,Zdg,I,Zdl,xA,US,Zde,I,I⟩ (rg [.i ((k:Int) +1)]<|J Zdc ?_)))))) (noF SI)
    refine⟨k+1,[some 1,some 7,some 45],[],⟨rfl,Zdz,⟨Zad,⟨Zad,⟨⟨rfl,⟨(congrArg (V.own _) (zg hd hy)),I⟩⟩,I⟩⟩⟩,I⟩,?_,?_⟩
    rotate_left
    (dsimp only;omega)
    dsimp only
    omega
   ·have hke:t.deps.take k = t.deps:=List.take_of_length_le OM
    rw[hke]
    have hps:=EM (all:=da p.tasks n) hm (ds:=t.deps)
    have htot:=wF hps
    have hpl:=kr (da p.tasks n) t.deps
    have cv:=kZ t.name (cC (da p.tasks n) t.deps) OM OM OM (fun s hs=>by have:=hps s hs;omega)
    conv=>whnf
    refine W.sq<|g 23 28 [.x (aB t)]<|J ⟨I,I,I,I,Zdg,I,I,I,I,I⟩<|W.cn<|J (noT SI) fun _=>W.exit<|rg [.x (aB t),.call (V.s (bO t.name (cC (da p.tasks n) t.deps))) [[],[]]]<|J ⟨I,I,I,I,Zdg,I,I,I,Zam,US,Zde,I,I⟩<|rg [.i ((n:Int) +1)]<|J Zdc ?_
    refine⟨n+1,[some 1,some 56],[],⟨rfl,⟨Zag,rfl,rfl,rfl,rfl,I⟩,⟨Zad,⟨⟨rfl,⟨(congrArg (V.own _) (Ek ht)),I⟩⟩,I⟩⟩,I⟩,?_,?_⟩
    rotate_left
    (dsimp only;omega)
    dsimp only
    omega
  ·conv=>whnf
   refine W.sq<|g 12 16 []<|J UE<|W.cn<|J (noT SI) fun _=>W.exit<|g 3 58 []<|J UB<|RT ?_
   rw[cu,if_pos h,show n = p.tasks.length by omega]
 ·refine qJ ?_
  conv=>whnf
  refine g 0 0 []<|J Zdr<|g 7 8 []<|J UB<|W.sq<|g 8 10 [.call (V.i (ai p.tasks)) [[]]]<|J ⟨I,Zai,I,I⟩<|W.cn<|J (fun _=>(g 10 12 []<|J UB (RT ?_))) (noF (af OM))
  rw[cu,if_neg h];rfl
end Go.K
end
section
open Go Go.Tm Go.Proofs
namespace Go.K
structure Story where
 code:Int
 epoch:Int
 results:List ByteArray
 deriving DecidableEq
abbrev fY(x:Story):V:=.agg [.t (.i x.code),.t (.i x.epoch),.own [false] (x.results.map ak)]
noncomputable def bS(ts:List Task)(xs:List ByteArray)(n:Nat):Tale:=(iU ts (some (ke ts)) (xs.take n)).getD (ke ts)
def kG(ts:List Task)(xs:List ByteArray)(n:Nat):Prop:=iU ts (some (ke ts)) (xs.take n) = some (bS ts xs n)
theorem iZ(ts:List Task)(xs:List ByteArray):bS ts xs 0 = ke ts:=by unfold bS;rw[List.take_zero,iQ];rfl
theorem tj(ts:List Task)(xs:List ByteArray):kG ts xs 0:=by unfold kG;rw[iZ,List.take_zero,iQ]
theorem ni{ts:List Task}{xs:List ByteArray}{n:Nat}{s:ByteArray}{t:Tale}(h:kG ts xs n)(hs:xs[n]? = some s)(hst:de ts (bS ts xs n) s = some t):kG ts xs (n+1)∧bS ts xs (n+1) = t:=by
 have e:=yY h hs
 rw[hst]at e
 have e2:bS ts xs (n+1) = t:=by unfold bS;rw[e];rfl
 exact⟨by unfold kG;rw[e,e2],e2⟩
theorem CZ{ts:List Task}{xs:List ByteArray}{n:Nat}(h:kG ts xs n):(bS ts xs n).results.length = ts.length:=by
 rw[rb ts _ _ _ h,ke,List.length_replicate]
noncomputable def ar(p:Plan)(xs:List ByteArray):Story :=
 if ai p.tasks = 0∧xs.length≤310 then
  match iU p.tasks (some (ke p.tasks)) xs with
  |none=>⟨2,0,[]⟩
  |some t=>⟨0,t.epoch,t.results⟩
 else⟨1,0,[]⟩
theorem lf{p:Plan}{xs:List ByteArray}(h:¬(ai p.tasks = 0∧xs.length≤310)):ar p xs = ⟨1,0,[]⟩:=if_neg h
theorem dp{p:Plan}{xs:List ByteArray}{n:Nat}{s:ByteArray}(h:ai p.tasks = 0)(hl:xs.length≤310)(hc:kG p.tasks xs n)(hs:xs[n]? = some s)(hst:de p.tasks (bS p.tasks xs n) s = none):ar p xs = ⟨2,0,[]⟩:=by
 rw[ar,if_pos ⟨h,hl⟩,JV hc hs hst]
theorem vH{p:Plan}{xs:List ByteArray}{n:Nat}(h:ai p.tasks = 0)(hl:xs.length≤310)(hc:kG p.tasks xs n)(hn:xs.length≤n):ar p xs = ⟨0,(bS p.tasks xs n).epoch,(bS p.tasks xs n).results⟩:=by
 rw[ar,if_pos ⟨h,hl⟩,JW hc hn]
theorem yW{ts:List Task}{t:Tale}{s:ByteArray}(h:dn s = none):de ts t s = none:=by unfold de;rw[h]
theorem AP{ts:List Task}{t:Tale}{s:ByteArray}{e:Entry}(h:dn s = some e)(hk:e.kind = 1)(he:e.epoch = t.epoch+1):de ts t s = some ⟨e.epoch,t.results⟩:=by
 unfold de;rw[h];simp only[if_pos hk,if_pos he]
theorem vq{ts:List Task}{t:Tale}{s:ByteArray}{e:Entry}(h:dn s = some e)(hk:e.kind = 1)(he:¬e.epoch = t.epoch+1):de ts t s = none:=by
 unfold de;rw[h];simp only[if_pos hk,if_neg he]
theorem wI{ts:List Task}{t:Tale}{s:ByteArray}{e:Entry}{k:Task}{y:ByteArray}(h:dn s = some e)(hk:¬e.kind = 1)(he:e.epoch = t.epoch)(ht:e.task < ts.length)(hy:t.results[e.task.toNat]? = some y)(hy2:y = emp)(hkk:ts[e.task.toNat]? = some k)(hr:ca t.results k.deps):de ts t s = some ⟨t.epoch,t.results.set e.task.toNat e.text⟩:=by
 unfold de;rw[h];simp only[if_neg hk]
 rw[if_pos ⟨he,ht,by rw[hy];exact hy2,by rw[hkk];exact hr⟩]
theorem qY{ts:List Task}{t:Tale}{s:ByteArray}{e:Entry}(h:dn s = some e)(hk:¬e.kind = 1)(hn:¬(e.epoch = t.epoch∧e.task < ts.length)):de ts t s = none:=by
 unfold de;rw[h];simp only[if_neg hk]
 rw[if_neg fun q=>hn ⟨q.1,q.2.1⟩]
theorem C4{ts:List Task}{t:Tale}{s:ByteArray}{e:Entry}{y:ByteArray}(h:dn s = some e)(hk:¬e.kind = 1)(hy:t.results[e.task.toNat]? = some y)(hn:¬y = emp):de ts t s = none:=by
 unfold de;rw[h];simp only[if_neg hk]
 rw[if_neg fun q=>hn (by have:=q.2.2.1;rw[hy]at this;exact this)]
theorem C3{ts:List Task}{t:Tale}{s:ByteArray}{e:Entry}{k:Task}(h:dn s = some e)(hk:¬e.kind = 1)(hkk:ts[e.task.toNat]? = some k)(hn:¬ca t.results k.deps):de ts t s = none:=by
 unfold de;rw[h];simp only[if_neg hk]
 rw[if_neg fun q=>hn (by have:=q.2.2.2;rw[hkk]at this;exact this)]
theorem fk{s:ByteArray}{e:Entry}(h:dn s = some e):e.ok:=by
 unfold dn at h
 split at h
 ·cases h
 ·split at h
  ·rename_i h1 h2
   cases h
   unfold b9 at h2
   split at h2
   ·assumption
   ·rw[←h2]at h1;exact absurd (by decide:((emp.size:Nat):Int) < 4) h1
  ·cases h
theorem gj(p:Plan)(rs:List ByteArray)(k:Int){t:Task}(h0:0≤k)(ht:p.tasks[k.toNat]? = some t)(hd:∀ d∈t.deps,0≤d∧d < rs.length)(hl:t.deps.length≤1048576):F xC [.val (cB p),.val (.t (vo rs)),.val (.i k)] (.b (decide (ca rs t.deps))) [[],[],[]]:=by
 have hk:=(List.getElem?_eq_some_iff.1 ht).1
 refine xZ ?_
 conv=>whnf
 refine g 0 1 []<|J Zdr<|g 9 15 [.x (aB t)]<|J ⟨I,I,I,⟨AS,xA⟩,I,I,I,I⟩<|W.sq<|g 2 4 []<|J UA<|W.blk ?_
 refine W.lp (fun s (n:Nat)=>⟨[(1,s.s 1),(7,s.s 7),(8,.i n)],[],[]⟩) (fun(n:Nat)=>n≤t.deps.length∧ca rs (t.deps.take n)) (fun(n:Nat)=>t.deps.length - n) (0) [] [] ⟨rfl,⟨rfl,rfl,rfl,I⟩,I,I⟩ ?_ ?_
 ·exact⟨Nat.zero_le _,by unfold ca;simp⟩
 rintro n ⟨hn,hc⟩
 conv=>whnf
 refine W.sq<|g 15 18 []<|J UD<|W.cn<|J (fun h1=>?_) fun h1=>?_
 replace h1:=dt h1
 simp only[LM]at h1
 refine W.skip<|W.sq<|W.blk ?_
 obtain⟨y1,hy1⟩:=aj (xs:=Task.deps t) (n:=n) OM
 have hm1:=hd y1 (List.mem_of_getElem? hy1)
 obtain⟨y2,hy2⟩:=aj (xs:=rs) (n:=Int.toNat y1) OM
 refine g 18 28 [.x (gS y1),.x (ak y2)]<|J ⟨I,I,I,Zdg,I,Zdg,I,I,I⟩<|W.cn<|J (fun h2=>?_) fun h2=>?_
 replace h2:=dt h2
 refine g 28 29 []<|J UA<|RT ?_
 rotate_left
 replace h2:=df h2
 refine W.skip<|rg [.i ((n:Int) +1)]<|J Zdc ?_
 rotate_left
 replace h1:=df h1
 simp only[LM]at h1
 refine W.exit<|g 7 19 []<|J UA<|RT ?_
 rotate_left
 ·exact vbf (Dd AS AS AS)
 ·refine⟨n+1,[],[],⟨rfl,⟨rfl,rfl,rfl,I⟩,I,I⟩,?_,?_⟩
  rotate_left
  (dsimp only;omega)
  dsimp only
  exact⟨by omega,vJ hc AS AS AS⟩
 ·exact vbt (by rw[List.take_of_length_le OM]at hc;exact hc)
theorem CY{ts:List Task}{e:Entry}(h:e.ok):0≤e.task∧e.task≤39∧1≤e.epoch∧e.epoch≤300:=⟨h.2.1.1,h.2.1.2,h.1.1,h.1.2⟩
theorem uP(ts:List Task)(xs:List ByteArray):List.replicate ts.length (ak emp) = (bS ts xs 0).results.map ak:=by rw[iZ,ke,List.map_replicate]
theorem oB(p:Plan)(xs:List ByteArray)(hp:cL p)(hx:∀ s∈xs,s.size≤281474976710656)(hl:xs.length≤9223372036854775806):F nX [.val (cB p),.val (.t (vo xs))] (fY (ar p xs)) [[],[]]:=by
 have c1:=eu p hp
 by_cases h:ai p.tasks = 0
 ·obtain⟨⟨hl1,hl2⟩,_⟩:=bM h
  rw[h]at c1
  by_cases hl3:xs.length≤310
  ·refine jz ?_
   conv=>whnf
   refine g 0 0 []<|J Zdr<|W.sq<|g 13 18 [.call (V.i 0) [[]],BF,BF,BF,BF]<|J ⟨I,Zai,I,I,Zda,Zda,Zda,rfl,I⟩<|W.cn<|J (fun h1=>?_) fun h1=>?_
   replace h1:=dt h1
   simp only[LM]at h1
   omega
   replace h1:=df h1
   simp only[LM]at h1
   refine W.skip<|gd 21 24 [[],[],[],[.n (List.length (List.map aB p.tasks))],[],[]] ?_
   conv=>whnf
   refine J ⟨I,I,I,⟨rfl,rfl,LN⟩,I,I,I⟩<|J KR<|W.sq<|g 11 12 []<|J UC<|W.blk ?_
   refine W.lp (fun s (n:Nat)=>⟨[(0,s.s 0),(1,s.s 1),(2,s.s 2),(4,s.s 4),(5,.i (bS p.tasks xs n).epoch),(6,.ref ⟨23,none,0⟩),(12,s.s 12),(20,s.s 20),(24,s.s 24),(25,s.s 25),(26,.i n)],[(2,[s.c 2 0]),(4,[s.c 4 0,s.c 4 1,s.c 4 2]),(23,[.own [false] ((bS p.tasks xs n).results.map ak)])],[]⟩) (fun(n:Nat)=>n≤xs.length∧kG p.tasks xs n∧0≤(bS p.tasks xs n).epoch∧(bS p.tasks xs n).epoch≤300) (fun(n:Nat)=>xs.length - n) (0) [some 2,some 4,some 23] [] ⟨rfl,⟨⟨_,rfl,_,_,rfl,rfl,rfl⟩,rfl,rfl,rfl,rfl,rfl,rfl,rfl,rfl,rfl,rfl,I⟩,⟨⟨rfl,⟨rfl,I⟩⟩,⟨⟨rfl,⟨rfl,⟨rfl,⟨rfl,I⟩⟩⟩⟩,⟨⟨rfl,⟨(congrArg (V.own _) (by rw[List.length_map];exact uP _ _)),I⟩⟩,I⟩⟩⟩,I⟩ ?_ ?_
   ·rw[iZ];exact⟨Nat.zero_le _,tj _ _,Int.le_refl _,by show(0:Int)≤300;omega⟩
   rintro n ⟨hn,hc,he0,he1⟩
   have hrl:=CZ hc
   by_cases hn2:n < xs.length
   ·obtain⟨s0,hs⟩:=aj hn2
    have hss:=hx s0 (List.mem_of_getElem? hs)
    have cr:=sn s0 hss
    rw[NA]at cr
    cases hr:dn s0 with
    |none =>
     rw[hr]at cr
     conv=>whnf
     refine g 0 0 []<|J UA<|W.sq<|W.cn<|J (fun _=>(W.skip (W.sq (W.blk (g 27 30 [.x (ak s0)]<|J Zcj (g 30 35 [.call (kh none) [[]]]<|J Zd1 (W.sq (g 8 9 []<|J UB (W.cn<|J (fun _=>(g 35 38 []<|J Zd9 ?_)) (noF rfl)))))))))) (noF SI)
     refine RT ?_
     rw[dp h hl3 hc hs (yW hr)];rfl
    |some e =>
     rw[hr]at cr
     obtain⟨r1,r2,r3,r4⟩:=CY (ts:=p.tasks) (fk hr)
     by_cases hk:e.kind = 1
     ·by_cases he:e.epoch = (bS p.tasks xs n).epoch+1
      ·obtain⟨hc2,e1⟩:=ni hc hs (AP hr hk he)
       conv=>whnf
       refine g 0 0 []<|J UA<|W.sq<|W.cn<|J (fun _=>(W.skip (W.sq (W.blk (g 27 30 [.x (ak s0)]<|J Zcj (g 30 35 [.call (kh (some e)) [[]]]<|J Zd1 (W.sq (g 8 9 []<|J UB (W.cn<|J (noT rfl) fun _=>(W.skip ?_)))))))))) (noF SI)
       refine W.sq<|g 35 40 []<|J UC<|W.cn<|J (fun _=>(W.sq (g 40 45 [.i (Tale.epoch (bS p.tasks xs n) +1)]<|J ⟨I,I,I,wO,I,I⟩ (W.cn<|J (noT nO) fun _=>(W.skip (g 45 49 []<|J UC (W.exit (rg [.i ((n:Int) +1)]<|J Zdj ?_)))))))) (noF tO)
       refine⟨n+1,[some 2,some 4,some 23],[],⟨rfl,⟨Zag,rfl,rfl,rfl,(congrArg (fun z=>V.t (T.v (Value.int _ z))) (by rw[e1])),rfl,rfl,rfl,rfl,rfl,rfl,I⟩,⟨Zad,⟨Zac,⟨⟨rfl,⟨(congrArg (V.own _) (by rw[e1])),I⟩⟩,I⟩⟩⟩,I⟩,?_,?_⟩
       rotate_left
       (dsimp only;omega)
       dsimp only
       exact⟨by omega,hc2,by rw[e1];dsimp only;omega,by rw[e1];dsimp only;omega⟩
      ·conv=>whnf
       refine g 0 0 []<|J UA<|W.sq<|W.cn<|J (fun _=>(W.skip (W.sq (W.blk (g 27 30 [.x (ak s0)]<|J Zcj (g 30 35 [.call (kh (some e)) [[]]]<|J Zd1 (W.sq (g 8 9 []<|J UB (W.cn<|J (noT rfl) fun _=>(W.skip ?_)))))))))) (noF SI)
       refine W.sq<|g 35 40 []<|J UC<|W.cn<|J (fun _=>(W.sq (g 40 45 [.i (Tale.epoch (bS p.tasks xs n) +1)]<|J ⟨I,I,I,wO,I,I⟩ (W.cn<|J (fun _=>(g 45 47 []<|J Zd9 (RT ?_))) (noF (af OM)))))) (noF tO)
       rw[dp h hl3 hc hs (vq hr hk he)];rfl
     ·by_cases heq:e.epoch = (bS p.tasks xs n).epoch
      ·by_cases hlt:e.task < p.tasks.length
       ·obtain⟨t,ht⟩:=aj (xs:=p.tasks) (n:=e.task.toNat) OM
        obtain⟨y,hy⟩:=aj (xs:=(bS p.tasks xs n).results) (n:=e.task.toNat) OM
        by_cases hye:y = emp
        ·obtain⟨_,_,a3,a4⟩:=bv h ht
         have cd:=gV (bS p.tasks xs n).results t.deps (fun d hd=>by have:=a4 d hd;omega) OM
         by_cases hrd:ca (bS p.tasks xs n).results t.deps
         ·rw[decide_eq_true hrd]at cd
          obtain⟨hc2,e1⟩:=ni hc hs (wI hr hk heq hlt hy hye ht hrd)
          conv=>whnf
          refine g 0 0 []<|J UA<|W.sq<|W.cn<|J (fun _=>(W.skip (W.sq (W.blk (g 27 30 [.x (ak s0)]<|J Zcj (g 30 35 [.call (kh (some e)) [[]]]<|J Zd1 (W.sq (g 8 9 []<|J UB (W.cn<|J (noT rfl) fun _=>(W.skip ?_)))))))))) (noF SI)
          refine W.sq<|g 35 40 []<|J UC<|W.cn<|J (noT dO) fun _=>W.skip<|W.sq<|g 63 80 [BF,BF,BF,BF,BF,BF,BF,BF,BF,BF,BF,.n (Int.toNat e.task),BF,.x (ak y),BF,BF,BF,BF,BF,BF,BF,BF,.x (aB t),BF,BF,BF,.call VT [[],[]],BF,BF] ?_
          conv=>whnf
          refine J Za9<|W.cn<|J (noT rfl) fun _=>W.skip<|rg [.n (Int.toNat e.task),.x (ak y)]<|J ⟨I,I,I,I,I,Zdl,⟨UA,xA⟩,I⟩<|rg [.i ((n:Int) +1)]<|J Zdj ?_
          refine⟨n+1,[some 2,some 4,some 23],[],⟨rfl,⟨Zag,rfl,rfl,rfl,(congrArg (fun z=>V.t (T.v (Value.int _ z))) (by rw[e1])),rfl,rfl,rfl,rfl,rfl,rfl,I⟩,⟨Zad,⟨Zac,⟨⟨rfl,⟨(congrArg (V.own _) (by rw[e1,List.map_set];rfl)),I⟩⟩,I⟩⟩⟩,I⟩,?_,?_⟩
          rotate_left
          (dsimp only;omega)
          dsimp only
          exact⟨by omega,hc2,by rw[e1];dsimp only;omega,by rw[e1];dsimp only;omega⟩
         ·rw[decide_eq_false hrd]at cd
          conv=>whnf
          refine g 0 0 []<|J UA<|W.sq<|W.cn<|J (fun _=>(W.skip (W.sq (W.blk (g 27 30 [.x (ak s0)]<|J Zcj (g 30 35 [.call (kh (some e)) [[]]]<|J Zd1 (W.sq (g 8 9 []<|J UB (W.cn<|J (noT rfl) fun _=>(W.skip ?_)))))))))) (noF SI)
          refine W.sq<|g 35 40 []<|J UC<|W.cn<|J (noT dO) fun _=>W.skip<|W.sq<|g 63 80 [BF,BF,BF,BF,BF,BF,BF,BF,BF,BF,BF,.n (Int.toNat e.task),BF,.x (ak y),BF,BF,BF,BF,BF,BF,BF,BF,.x (aB t),BF,BF,BF,.call VF [[],[]],BF,BF] ?_
          conv=>whnf
          refine J Za9<|W.cn<|J (fun _=>(g 40 62 []<|J Zd9 (RT ?_))) (noF rfl)
          rw[dp h hl3 hc hs (C3 hr hk ht hrd)];rfl
        ·conv=>whnf
         refine g 0 0 []<|J UA<|W.sq<|W.cn<|J (fun _=>(W.skip (W.sq (W.blk (g 27 30 [.x (ak s0)]<|J Zcj (g 30 35 [.call (kh (some e)) [[]]]<|J Zd1 (W.sq (g 8 9 []<|J UB (W.cn<|J (noT rfl) fun _=>(W.skip ?_)))))))))) (noF SI)
         refine W.sq<|g 35 40 []<|J UC<|W.cn<|J (noT dO) fun _=>W.skip<|W.sq<|g 63 80 [BF,BF,BF,BF,BF,BF,BF,BF,BF,BF,BF,.n (Int.toNat e.task),BF,.x (ak y),BF,BF,BT,BT,BT,BT,BT,BT,BT,BT,BT,BT,BT]<|J ⟨I,I,I,I,I,⟨nO,I⟩,⟨nO,I⟩,⟨nO,I⟩,⟨nO,I⟩,⟨nO,I⟩,⟨nO,I⟩,nO,I,⟨SI,I⟩,⟨SI,I⟩,⟨SI,I⟩,⟨SI,OM,LN⟩,⟨SI,xA⟩,⟨SI,I⟩,SI,I,af OM,af OM,af OM,af OM,af OM,af OM,af OM,af OM,af OM,af OM,af OM,I⟩<|W.cn<|J (fun _=>(g 40 62 []<|J Zd9 (RT ?_))) (noF rfl)
         rw[dp h hl3 hc hs (C4 hr hk hy hye)];rfl
       ·conv=>whnf
        refine g 0 0 []<|J UA<|W.sq<|W.cn<|J (fun _=>(W.skip (W.sq (W.blk (g 27 30 [.x (ak s0)]<|J Zcj (g 30 35 [.call (kh (some e)) [[]]]<|J Zd1 (W.sq (g 8 9 []<|J UB (W.cn<|J (noT rfl) fun _=>(W.skip ?_)))))))))) (noF SI)
        refine W.sq<|g 35 40 []<|J UC<|W.cn<|J (noT dO) fun _=>W.skip<|W.sq<|g 63 80 [BF,BF,BF,BF,BF,BF,BF,BT,BT,BT,BT,BT,BT,BT,BT,BT,BT,BT,BT,BT,BT,BT,BT,BT,BT]<|J ⟨I,I,I,I,I,⟨nO,I⟩,⟨nO,I⟩,⟨nO,I⟩,⟨nO,I⟩,⟨nO,I⟩,⟨nO,I⟩,nO,I,(by simp_all),(by simp_all),(by simp_all),(by simp_all),(by simp_all),(by simp_all),(by simp_all),I,rfl,rfl,rfl,rfl,rfl,rfl,rfl,rfl,rfl,rfl,rfl,I⟩<|W.cn<|J (fun _=>(g 40 62 []<|J Zd9 (RT ?_))) (noF rfl)
        rw[dp h hl3 hc hs (qY hr hk (fun q=>hlt q.2))];rfl
      ·conv=>whnf
       refine g 0 0 []<|J UA<|W.sq<|W.cn<|J (fun _=>(W.skip (W.sq (W.blk (g 27 30 [.x (ak s0)]<|J Zcj (g 30 35 [.call (kh (some e)) [[]]]<|J Zd1 (W.sq (g 8 9 []<|J UB (W.cn<|J (noT rfl) fun _=>(W.skip ?_)))))))))) (noF SI)
       refine W.sq<|g 35 40 []<|J UC<|W.cn<|J (noT dO) fun _=>W.skip<|W.sq<|g 63 80 [BT,BT,BT,BT,BT,BT,BT,BT,BT,BT,BT,BT,BT,BT,BT,BT,BT,BT,BT,BT,BT,BT,BT,BT,BT]<|J ⟨I,I,I,I,I,af OM,af OM,af OM,af OM,af OM,af OM,af OM,I,rfl,rfl,rfl,rfl,rfl,rfl,rfl,I,rfl,rfl,rfl,rfl,rfl,rfl,rfl,rfl,rfl,rfl,rfl,I⟩<|W.cn<|J (fun _=>(g 40 62 []<|J Zd9 (RT ?_))) (noF rfl)
       rw[dp h hl3 hc hs (qY hr hk (fun q=>heq q.1))];rfl
   ·conv=>whnf
    refine g 0 0 []<|J UA<|W.sq<|W.cn<|J (noT SI) fun _=>W.exit<|g 5 92 []<|J ⟨I,I,I,UC,I⟩<|RT ?_
    rw[vH h hl3 hc OM]
  ·refine jz ?_
   conv=>whnf
   refine g 0 0 []<|J Zdr<|W.sq<|g 13 18 [.call (V.i 0) [[]],BF,BF,BF,BF]<|J ⟨I,Zai,I,I,Zda,Zda,Zda,rfl,I⟩<|W.cn<|J (fun h1=>?_) fun h1=>?_
   replace h1:=dt h1
   simp only[LM]at h1
   refine g 18 20 []<|J Zd9<|RT ?_
   rotate_left
   replace h1:=df h1
   simp only[LM]at h1
   omega
   rw[lf (fun q=>hl3 q.2)];rfl
 ·refine jz ?_
  conv=>whnf
  refine g 0 0 []<|J Zdr<|W.sq<|g 13 18 [.call (V.i (ai p.tasks)) [[]],BT,BT,BT,BT]<|J ⟨I,Zai,I,I,af OM,af OM,af OM,af OM,I⟩<|W.cn<|J (fun _=>(g 18 20 []<|J Zd9 (RT ?_))) (noF rfl)
  rw[lf (fun q=>h q.1)];rfl
theorem jG(p:Plan)(xs:List ByteArray)(hp:cL p)(hx:∀ s∈xs,s.size≤281474976710656)(hl:xs.length≤9223372036854775806):F nW [.val (cB p),.val (.t (vo xs))] (fY (ar p xs)) [[],[]]:=by
 have c1:=bW p hp
 by_cases h:ai p.tasks = 0
 ·obtain⟨⟨hl1,hl2⟩,_⟩:=bM h
  rw[h]at c1
  by_cases hl3:xs.length≤310
  ·refine jx ?_
   conv=>whnf
   refine g 0 0 []<|J Zdr<|W.sq<|g 10 13 [.call (V.i 0) [[]],BF,BF,BF,BF]<|J ⟨I,Zai,I,I,Zda,Zda,Zda,rfl,I⟩<|W.cn<|J (fun h1=>?_) fun h1=>?_
   replace h1:=dt h1
   simp only[LM]at h1
   omega
   replace h1:=df h1
   simp only[LM]at h1
   refine W.skip<|g 14 20 []<|J ⟨I,I,UC,I⟩<|W.sq<|g 0 0 []<|J UA<|W.blk<|W.lp (fun s (n:Nat)=>⟨[(0,s.s 0),(1,s.s 1),(2,s.s 2),(4,s.s 4),(5,s.s 5),(6,.i n),(13,s.s 13)],[(2,[s.c 2 0]),(4,[s.c 4 0,s.c 4 1,s.c 4 2]),(5,[.t (.i 0),.t (.i 0),.own [false] ((List.replicate n emp).map ak)])],[]⟩) (fun(n:Nat)=>n≤p.tasks.length) (fun(n:Nat)=>p.tasks.length - n) (0) [some 2,some 4,some 5] [] ⟨rfl,Zdz,⟨Zad,⟨Zac,⟨Zac,I⟩⟩⟩,I⟩ OM ?_
   intro n hn
   conv=>whnf
   refine W.sq<|g 20 22 []<|J UE<|W.cn<|J (fun h2=>?_) fun h2=>?_
   replace h2:=dt h2
   simp only[LM]at h2
   refine W.skip<|W.sq<|W.blk<|rg []<|J ⟨I,I,US,Zde,I,UA,I⟩<|rg [.i ((n:Int) +1)]<|J Zdc ?_
   rotate_left
   replace h2:=df h2
   simp only[LM]at h2
   refine W.exit<|W.sq<|g 23 25 []<|J UA<|W.blk ?_
   rotate_left
   ·refine⟨n+1,[some 2,some 4,some 5],[],⟨rfl,Zdz,⟨Zad,⟨Zac,⟨⟨rfl,⟨rfl,⟨rfl,⟨(congrArg (V.own _) (by rw[List.replicate_succ',List.map_append];rfl)),I⟩⟩⟩⟩,I⟩⟩⟩,I⟩,?_,?_⟩
    rotate_left
    (dsimp only;omega)
    dsimp only
    omega
   rw[show n = p.tasks.length by omega]
   refine W.lp (fun s (n:Nat)=>⟨[(0,s.s 0),(1,s.s 1),(2,s.s 2),(4,s.s 4),(5,s.s 5),(7,.i n),(13,s.s 13),(22,s.s 22)],[(2,[s.c 2 0]),(4,[s.c 4 0,s.c 4 1,s.c 4 2]),(5,[.t (.i 0),.t (.i (bS p.tasks xs n).epoch),.own [false] ((bS p.tasks xs n).results.map ak)])],[]⟩) (fun(n:Nat)=>n≤xs.length∧kG p.tasks xs n∧0≤(bS p.tasks xs n).epoch∧(bS p.tasks xs n).epoch≤300) (fun(n:Nat)=>xs.length - n) (0) [some 2,some 4,some 5] [] ⟨rfl,⟨⟨_,rfl,_,_,rfl,rfl,rfl⟩,rfl,rfl,rfl,rfl,rfl,rfl,rfl,I⟩,⟨⟨rfl,⟨rfl,I⟩⟩,⟨⟨rfl,⟨rfl,⟨rfl,⟨rfl,I⟩⟩⟩⟩,⟨⟨rfl,⟨rfl,⟨rfl,⟨rfl,I⟩⟩⟩⟩,I⟩⟩⟩,I⟩ ?_ ?_
   ·rw[iZ];exact⟨Nat.zero_le _,tj _ _,Int.le_refl _,by show(0:Int)≤300;omega⟩
   rintro n ⟨hn,hc,he0,he1⟩
   have hrl:=CZ hc
   by_cases hn2:n < xs.length
   ·obtain⟨s0,hs⟩:=aj hn2
    have hss:=hx s0 (List.mem_of_getElem? hs)
    have cr:=sk s0 hss
    cases hr:dn s0 with
    |none =>
     rw[hr]at cr
     conv=>whnf
     refine W.sq<|g 32 35 []<|J UD<|W.cn<|J (fun _=>(W.skip (W.sq (W.blk (g 35 46 [.x (ak s0),.call (kh none) [[]]]<|J Zeg (W.sq (g 9 10 []<|J UB (W.cn<|J (fun _=>(g 46 49 []<|J Zd9 (RT ?_))) (noF rfl))))))))) (noF SI)
     rw[dp h hl3 hc hs (yW hr)];rfl
    |some e =>
     rw[hr]at cr
     obtain⟨r1,r2,r3,r4⟩:=CY (ts:=p.tasks) (fk hr)
     by_cases hk:e.kind = 1
     ·by_cases he:e.epoch = (bS p.tasks xs n).epoch+1
      ·obtain⟨hc2,e1⟩:=ni hc hs (AP hr hk he)
       conv=>whnf
       refine W.sq<|g 32 35 []<|J UD<|W.cn<|J (fun _=>(W.skip (W.sq (W.blk (g 35 46 [.x (ak s0),.call (kh (some e)) [[]]]<|J Zeg (W.sq (g 9 10 []<|J UB (W.cn<|J (noT rfl) fun _=>(W.skip (W.sq ?_)))))))))) (noF SI)
       refine g 46 51 []<|J UC<|W.cn<|J (fun _=>(W.sq (g 51 57 [.i (Tale.epoch (bS p.tasks xs n) +1)]<|J ⟨I,I,I,I,wO,I,I⟩ (W.cn<|J (noT nO) fun _=>(W.skip (g 57 62 []<|J UW (W.exit (rg [.i ((n:Int) +1)]<|J Zdc ?_)))))))) (noF tO)
       refine⟨n+1,[some 2,some 4,some 5],[],⟨rfl,⟨Zag,rfl,rfl,rfl,rfl,rfl,rfl,rfl,I⟩,⟨Zad,⟨Zac,⟨⟨rfl,⟨rfl,⟨(congrArg (fun z=>V.t (T.v (Value.int _ z))) (by rw[e1])),⟨(congrArg (V.own _) (by rw[e1])),I⟩⟩⟩⟩,I⟩⟩⟩,I⟩,?_,?_⟩
       rotate_left
       (dsimp only;omega)
       dsimp only
       exact⟨by omega,hc2,by rw[e1];dsimp only;omega,by rw[e1];dsimp only;omega⟩
      ·conv=>whnf
       refine W.sq<|g 32 35 []<|J UD<|W.cn<|J (fun _=>(W.skip (W.sq (W.blk (g 35 46 [.x (ak s0),.call (kh (some e)) [[]]]<|J Zeg (W.sq (g 9 10 []<|J UB (W.cn<|J (noT rfl) fun _=>(W.skip (W.sq ?_)))))))))) (noF SI)
       refine g 46 51 []<|J UC<|W.cn<|J (fun _=>(W.sq (g 51 57 [.i (Tale.epoch (bS p.tasks xs n) +1)]<|J ⟨I,I,I,I,wO,I,I⟩ (W.cn<|J (fun _=>(g 57 59 []<|J Zd9 (RT ?_))) (noF (af OM)))))) (noF tO)
       rw[dp h hl3 hc hs (vq hr hk he)];rfl
     ·by_cases heq:e.epoch = (bS p.tasks xs n).epoch
      ·by_cases hlt:e.task < p.tasks.length
       ·obtain⟨t,ht⟩:=aj (xs:=p.tasks) (n:=e.task.toNat) OM
        obtain⟨y,hy⟩:=aj (xs:=(bS p.tasks xs n).results) (n:=e.task.toNat) OM
        by_cases hye:y = emp
        ·obtain⟨_,_,a3,a4⟩:=bv h ht
         have cd:=gj p (bS p.tasks xs n).results e.task r1 ht (fun d hd=>by have:=a4 d hd;omega) OM
         by_cases hrd:ca (bS p.tasks xs n).results t.deps
         ·rw[decide_eq_true hrd]at cd
          obtain⟨hc2,e1⟩:=ni hc hs (wI hr hk heq hlt hy hye ht hrd)
          conv=>whnf
          refine W.sq<|g 32 35 []<|J UD<|W.cn<|J (fun _=>(W.skip (W.sq (W.blk (g 35 46 [.x (ak s0),.call (kh (some e)) [[]]]<|J Zeg (W.sq (g 9 10 []<|J UB (W.cn<|J (noT rfl) fun _=>(W.skip (W.sq ?_)))))))))) (noF SI)
          refine g 46 51 []<|J UC<|W.cn<|J (noT dO) fun _=>W.skip<|W.sq<|g 63 92 [BF,BF,BF,BF,BF,BF,BF,BF,BF,BF,BF,BF,.n (Int.toNat e.task),BF,.x (ak y),BF,BF,BF,BF,BF,BF,BF,BF,.call VT [[],[],[]],BF,BF]<|J Zbd<|W.cn<|J (noT rfl) fun _=>W.skip<|rg [.n (Int.toNat e.task),.x (ak y)]<|J ⟨I,I,I,I,I,I,Zdl,⟨UA,xA⟩,I⟩<|rg [.i ((n:Int) +1)]<|J Zdc ?_
          refine⟨n+1,[some 2,some 4,some 5],[],⟨rfl,⟨Zag,rfl,rfl,rfl,rfl,rfl,rfl,rfl,I⟩,⟨Zad,⟨Zac,⟨⟨rfl,⟨rfl,⟨(congrArg (fun z=>V.t (T.v (Value.int _ z))) (by rw[e1])),⟨(congrArg (V.own _) (by rw[e1,List.map_set];rfl)),I⟩⟩⟩⟩,I⟩⟩⟩,I⟩,?_,?_⟩
          rotate_left
          (dsimp only;omega)
          dsimp only
          exact⟨by omega,hc2,by rw[e1];dsimp only;omega,by rw[e1];dsimp only;omega⟩
         ·rw[decide_eq_false hrd]at cd
          conv=>whnf
          refine W.sq<|g 32 35 []<|J UD<|W.cn<|J (fun _=>(W.skip (W.sq (W.blk (g 35 46 [.x (ak s0),.call (kh (some e)) [[]]]<|J Zeg (W.sq (g 9 10 []<|J UB (W.cn<|J (noT rfl) fun _=>(W.skip (W.sq ?_)))))))))) (noF SI)
          refine g 46 51 []<|J UC<|W.cn<|J (noT dO) fun _=>W.skip<|W.sq<|g 63 92 [BF,BF,BF,BF,BF,BF,BF,BF,BF,BF,BF,BF,.n (Int.toNat e.task),BF,.x (ak y),BF,BF,BF,BF,BF,BF,BF,BF,.call VF [[],[],[]],BF,BF]<|J Zbd<|W.cn<|J (fun _=>(g 92 94 []<|J Zd9 (RT ?_))) (noF rfl)
          rw[dp h hl3 hc hs (C3 hr hk ht hrd)];rfl
        ·conv=>whnf
         refine W.sq<|g 32 35 []<|J UD<|W.cn<|J (fun _=>(W.skip (W.sq (W.blk (g 35 46 [.x (ak s0),.call (kh (some e)) [[]]]<|J Zeg (W.sq (g 9 10 []<|J UB (W.cn<|J (noT rfl) fun _=>(W.skip (W.sq ?_)))))))))) (noF SI)
         refine g 46 51 []<|J UC<|W.cn<|J (noT dO) fun _=>W.skip<|W.sq<|g 63 92 [BF,BF,BF,BF,BF,BF,BF,BF,BF,BF,BF,BF,.n (Int.toNat e.task),BF,.x (ak y),BF,BF,BT,BT,BT,BT,BT,BT,BT,BT]<|J ⟨I,I,I,I,I,I,⟨nO,I⟩,⟨nO,I⟩,⟨nO,I⟩,⟨nO,I⟩,⟨nO,I⟩,⟨nO,I⟩,nO,I,⟨SI,I⟩,⟨SI,I⟩,⟨SI,I⟩,⟨SI,I⟩,⟨SI,OM,LN⟩,⟨SI,xA⟩,⟨SI,I⟩,SI,I,af OM,af OM,af OM,af OM,af OM,af OM,af OM,af OM,I⟩<|W.cn<|J (fun _=>(g 92 94 []<|J Zd9 (RT ?_))) (noF rfl)
         rw[dp h hl3 hc hs (C4 hr hk hy hye)];rfl
       ·conv=>whnf
        refine W.sq<|g 32 35 []<|J UD<|W.cn<|J (fun _=>(W.skip (W.sq (W.blk (g 35 46 [.x (ak s0),.call (kh (some e)) [[]]]<|J Zeg (W.sq (g 9 10 []<|J UB (W.cn<|J (noT rfl) fun _=>(W.skip (W.sq ?_)))))))))) (noF SI)
        refine g 46 51 []<|J UC<|W.cn<|J (noT dO) fun _=>W.skip<|W.sq<|g 63 92 [BF,BF,BF,BF,BF,BF,BF,BT,BT,BT,BT,BT,BT,BT,BT,BT,BT,BT,BT,BT,BT,BT,BT]<|J ⟨I,I,I,I,I,I,⟨nO,I⟩,⟨nO,I⟩,⟨nO,I⟩,⟨nO,I⟩,⟨nO,I⟩,⟨nO,I⟩,nO,I,(by simp_all),(by simp_all),(by simp_all),(by simp_all),(by simp_all),(by simp_all),(by simp_all),(by simp_all),I,rfl,rfl,rfl,rfl,rfl,rfl,rfl,rfl,I⟩<|W.cn<|J (fun _=>(g 92 94 []<|J Zd9 (RT ?_))) (noF rfl)
        rw[dp h hl3 hc hs (qY hr hk (fun q=>hlt q.2))];rfl
      ·conv=>whnf
       refine W.sq<|g 32 35 []<|J UD<|W.cn<|J (fun _=>(W.skip (W.sq (W.blk (g 35 46 [.x (ak s0),.call (kh (some e)) [[]]]<|J Zeg (W.sq (g 9 10 []<|J UB (W.cn<|J (noT rfl) fun _=>(W.skip (W.sq ?_)))))))))) (noF SI)
       refine g 46 51 []<|J UC<|W.cn<|J (noT dO) fun _=>W.skip<|W.sq<|g 63 92 [BT,BT,BT,BT,BT,BT,BT,BT,BT,BT,BT,BT,BT,BT,BT,BT,BT,BT,BT,BT,BT,BT,BT]<|J ⟨I,I,I,I,I,I,af OM,af OM,af OM,af OM,af OM,af OM,af OM,I,rfl,rfl,rfl,rfl,rfl,rfl,rfl,rfl,I,rfl,rfl,rfl,rfl,rfl,rfl,rfl,rfl,I⟩<|W.cn<|J (fun _=>(g 92 94 []<|J Zd9 (RT ?_))) (noF rfl)
       rw[dp h hl3 hc hs (qY hr hk (fun q=>heq q.1))];rfl
   ·conv=>whnf
    refine W.sq<|g 32 35 []<|J UD<|W.cn<|J (noT SI) fun _=>W.exit<|g 5 102 []<|J Zd9<|RT ?_
    rw[vH h hl3 hc OM]
  ·refine jx ?_
   conv=>whnf
   refine g 0 0 []<|J Zdr<|W.sq<|g 10 13 [.call (V.i 0) [[]],BF,BF,BF,BF]<|J ⟨I,Zai,I,I,Zda,Zda,Zda,rfl,I⟩<|W.cn<|J (fun h1=>?_) fun h1=>?_
   replace h1:=dt h1
   simp only[LM]at h1
   refine g 14 19 []<|J Zd9<|RT ?_
   rotate_left
   replace h1:=df h1
   simp only[LM]at h1
   omega
   rw[lf (fun q=>hl3 q.2)];rfl
 ·refine jx ?_
  conv=>whnf
  refine g 0 0 []<|J Zdr<|W.sq<|g 10 13 [.call (V.i (ai p.tasks)) [[]],BT,BT,BT,BT]<|J ⟨I,Zai,I,I,af OM,af OM,af OM,af OM,I⟩<|W.cn<|J (fun _=>(g 14 19 []<|J Zd9 (RT ?_))) (noF rfl)
  rw[lf (fun q=>h q.1)];rfl
end Go.K
end
section
open Go Go.Tm Go.Proofs
namespace Go.K
abbrev u8s(l:List Int):T:=.slc [false] (l.map b1T)
theorem rD:XT 17 16 Try.f17 [(2,33,true)]:=@xM _ _ _ _ Try.func17 rfl rfl rfl KR KR
theorem pR:XT 20 41 Try.f20 [(2,52,false)]:=@xM _ _ _ _ Try.func20 rfl rfl rfl KR KR
theorem jL:XT 30 99 Try.f30 [(4,3,false)]:=@xM _ _ _ _ Try.func30 rfl rfl rfl KR KR
theorem nF:XT 47 69 Try.f47 [(2,33,true)]:=@xM _ _ _ _ Try.func47 rfl rfl rfl KR KR
theorem cH:XT 48 140 Try.f48 [(4,33,true)]:=@xM _ _ _ _ Try.func48 rfl rfl rfl KR KR
theorem aR:XT 51 50 Try.f51 [(2,57,true)]:=@xM _ _ _ _ Try.func51 rfl rfl rfl KR KR
theorem xf:XT 73 20 Try.f73 [(4,9,false)]:=@xM _ _ _ _ Try.func73 rfl rfl rfl KR KR
abbrev rdC(l:List Int)(pos:Int):List V:=[.t (u8s l),.t (.i pos)]
def gz(l:List Int):Prop:=l.length≤2000∧∀ x∈l,0≤x∧x≤255
theorem ox(l:List Int)(h:l.length≤1099511627776):F xI [.val (.t (u8s l))] (.tup [.tup (rdC (l.take 2000) 0)]) [[]]:=by
 refine yc ?_
 conv=>whnf
 refine g 0 0 []<|J UA<|W.sq<|g 3 5 []<|J UC<|W.cn<|J (fun h1=>?_) fun h1=>?_
 replace h1:=dt h1
 simp only[LM]at h1
 refine rg [.n (2000)]<|J ⟨I,⟨I,rfl,I,OM,LN⟩,I,I⟩<|g 5 11 []<|J ⟨I,I,UB,I,I⟩<|RT ?_
 rotate_left
 replace h1:=df h1
 simp only[LM]at h1
 refine W.skip<|g 5 11 []<|J ⟨I,I,UB,I,I⟩<|RT ?_
 rotate_left
 ·rw[List.drop_zero,←List.map_take]
 ·rw[List.take_of_length_le OM]
theorem qX{x n:Int}(hx:0≤x)(hn:0 < n):0≤x.tmod n∧x.tmod n < n:=⟨Int.tmod_nonneg _ hx,Int.tmod_lt_of_pos _ hn⟩
theorem wH{x n:Int}(hx:0≤x)(hn:0 < n):0≤x.tdiv n∧x.tdiv n≤x:=by
 rw[Int.tdiv_eq_ediv_of_nonneg hx]
 exact⟨Int.ediv_nonneg hx OM,Int.ediv_le_self _ hx⟩
theorem Nm{x y:Int}(hx:0≤x)(hx2:x < 1099511627776)(hy:0≤y)(hy2:y < 1099511627776):0≤IntKind.i64.wrap ↑(BitVec.ofInt IntKind.i64.bits x ^^^ BitVec.ofInt IntKind.i64.bits y).toNat:=by
 have e1:(BitVec.ofInt IntKind.i64.bits x).toNat = x.toNat:=by
  rw[BitVec.toNat_ofInt]
  show(x % ((2 ^ 64:Nat):Int)).toNat = _
  rw[Int.emod_eq_of_lt hx OM]
 have e2:(BitVec.ofInt IntKind.i64.bits y).toNat = y.toNat:=by
  rw[BitVec.toNat_ofInt]
  show(y % ((2 ^ 64:Nat):Int)).toNat = _
  rw[Int.emod_eq_of_lt hy OM]
 have h:x.toNat ^^^ y.toNat < 2 ^ 40:=Nat.xor_lt_two_pow OM OM
 rw[BitVec.toNat_xor,e1,e2]
 have:(2:Nat) ^ 40 = 1099511627776:=by decide
 rw[wO]
 omega
theorem NT(l:List Int)(pos n:Int)(hl:gz l)(h0:0≤pos)(h1:pos≤1048576)(hn:n≤1048576):∃ res outs,(∃ v,res = .i v∧outs = [rdC l (pos+1),[]]∧0≤v∧(v < n∨v = 0))∧F eh [.ptr (rdC l pos),.val (.i n)] res outs:=by
 obtain⟨hl1,hl2⟩:=hl
 by_cases hz:l.length = 0
 ·refine jL ?_
  conv=>whnf
  refine g 0 0 []<|J UA<|g 7 15 [.i (pos+1)]<|J ⟨I,I,I,I,I,wO,I,I,UA,I⟩<|W.sq ?_
  by_cases h2:n < (1:Int)
  refine g 15 24 [BT,BT,BT,BT,BT,BT,BT]<|J ⟨I,I,I,tO,tO,tO,tO,tO,tO,tO,I⟩<|W.cn<|J (fun _=>(g 24 25 []<|J UA (W.ret (EndsW.rt<|J UB ?_)))) (noF rfl)
  rotate_left
  refine g 15 24 [BF,BF,BF,BF,BF,BF,BF]<|J ⟨I,I,I,⟨dO,I⟩,⟨dO,I⟩,⟨dO,I⟩,⟨dO,I⟩,⟨dO,I⟩,⟨dO,I⟩,dO,I⟩<|W.cn<|J (fun _=>(g 24 25 []<|J UA (W.ret (EndsW.rt<|J UB ?_)))) (noF SI)
  rotate_left
  all_goals exact⟨0,rfl,rfl,by omega,.inr rfl⟩
 ·have hp:(0:Int) < ((l.map b1T).length:Int):=by rw[List.length_map];omega
  have hlm:((l.map b1T).length:Int) = l.length:=by rw[List.length_map]
  obtain⟨m1,m2⟩:=qX (x:=pos+1 - 1) OM hp
  obtain⟨m3,m4⟩:=qX (x:=(pos+1 - 1) * 7+3) OM hp
  obtain⟨m5,m6⟩:=wH (x:=pos+1 - 1) OM hp
  rw[hlm]at m1 m2 m3 m4 m5 m6
  refine jL ?_
  conv=>whnf
  refine g 0 0 []<|J UA<|g 7 15 [.i (pos+1)]<|J ⟨I,I,I,I,I,wO,I,I,UA,I⟩<|W.sq ?_
  by_cases h2:n < (1:Int)
  refine g 15 24 [BT,BT,BT,BT,BT,BT,BT]<|J ⟨I,I,I,tO,tO,tO,tO,tO,tO,tO,I⟩<|W.cn<|J (fun _=>(g 24 25 []<|J UA (W.ret (EndsW.rt<|J UB ?_)))) (noF rfl)
  rotate_left
  refine g 15 24 [BF,BF,BF,BF,BF,BF,BF]<|J ⟨I,I,I,⟨dO,I⟩,⟨dO,I⟩,⟨dO,I⟩,⟨dO,I⟩,⟨dO,I⟩,⟨dO,I⟩,dO,I⟩<|W.cn<|J (noT dO) fun _=>W.skip<|g 24 30 [.i (pos+ (1:Int) - 1)]<|J ⟨I,I,I,I,wO,I,I⟩<|W.sq<|g 30 36 []<|J UG<|W.cn<|J (fun h3=>?_) fun h3=>?_
  replace h3:=dt h3
  simp only[LM]at h3
  obtain⟨y1,hy1⟩:=aj (xs:=l) (n:=Int.toNat (pos+ (1:Int) - (1:Int))) OM
  have hm1:=hl2 y1 (List.mem_of_getElem? hy1)
  refine g 36 47 [.x (b1T y1),.i (y1),.i (Int.tmod y1 n)]<|J ⟨I,I,I,I,I,Zdg,I,wO,I,Zdo,I,I⟩<|W.ret<|EndsW.rt<|J UB ?_
  rotate_left
  replace h3:=df h3
  simp only[LM]at h3
  refine W.skip ?_
  obtain⟨y1,hy1⟩:=aj (xs:=l) (n:=Int.toNat (Int.tmod (pos+ (1:Int) - (1:Int)) (↑(List.length (List.map b1T l)):Int))) (by simp only[LM]at *;omega)
  have hm1:=hl2 y1 (List.mem_of_getElem? hy1)
  obtain⟨y2,hy2⟩:=aj (xs:=l) (n:=Int.toNat (Int.tmod ((pos+ (1:Int) - (1:Int)) * (7:Int) + (3:Int)) (↑(List.length (List.map b1T l)):Int))) (by simp only[LM]at *;omega)
  have hm2:=hl2 y2 (List.mem_of_getElem? hy2)
  refine gd 36 92 [[],[],[],[],[],[],[],[],[],[],[.i (Int.tmod (pos+ (1:Int) - 1) (↑(List.length (List.map b1T l)):Int))],[.x (b1T y1)],[],[.i (y1)],[.i (y1 * 131)],[],[],[],[],[],[.i ((pos+ (1:Int) - 1) * 7)],[.i ((pos+ (1:Int) - 1) * 7+3)],[],[],[],[],[],[.i (Int.tmod ((pos+ (1:Int) - 1) * 7+3) (↑(List.length (List.map b1T l)):Int))],[.x (b1T y2)],[],[.i (y2)],[.i (y2 * 1117)],[.i (y1 * 131+y2 * 1117)],[],[.i ((pos+ (1:Int) - 1) * 29)],[.i (y1 * 131+y2 * 1117+ (pos+ (1:Int) - 1) * 29)],[],[],[],[],[],[],[.i (Int.tdiv (pos+ (1:Int) - 1) (↑(List.length (List.map b1T l)):Int))],[.i (Int.tdiv (pos+ (1:Int) - 1) (↑(List.length (List.map b1T l)):Int) * 53)],[.i (y1 * 131+y2 * 1117+ (pos+ (1:Int) - 1) * 29+Int.tdiv (pos+ (1:Int) - 1) (↑(List.length (List.map b1T l)):Int) * 53)],[]] ?_
  conv=>whnf
  refine J ⟨I,I,I,I,I,I,I,I,I,I,Zdo,⟨LN,xA⟩,I,wO,wO,I,I,I,I,I,wO,wO,I,I,I,I,I,Zdo,⟨LN,xA⟩,I,wO,wO,wO,I,wO,wO,I,I,I,I,I,I,⟨OM,w64 LN LN⟩,w64 LN LN,w64 LN LN,I,I⟩<|J KR<|g 92 96 [.i (IntKind.wrap IntKind.i64 (Int.tdiv (y1 * 131+y2 * 1117+ (pos+ (1:Int) - 1) * 29+Int.tdiv (pos+ (1:Int) - 1) (↑(List.length (List.map b1T l)):Int) * 53) 64)),.i (IntKind.wrap IntKind.i64 (↑(BitVec.toNat (BitVec.ofInt (IntKind.bits IntKind.i64) (y1 * 131+y2 * 1117+ (pos+ (1:Int) - 1) * 29+Int.tdiv (pos+ (1:Int) - 1) (↑(List.length (List.map b1T l)):Int) * 53) ^^^ BitVec.ofInt (IntKind.bits IntKind.i64) (IntKind.wrap IntKind.i64 (Int.tdiv (y1 * 131+y2 * 1117+ (pos+ (1:Int) - 1) * 29+Int.tdiv (pos+ (1:Int) - 1) (↑(List.length (List.map b1T l)):Int) * 53) 64)))):Int))]<|J ⟨I,I,Zdo,rfl,I,I⟩<|g 5 99 [.i (Int.tmod (IntKind.wrap IntKind.i64 (↑(BitVec.toNat (BitVec.ofInt (IntKind.bits IntKind.i64) (y1 * 131+y2 * 1117+ (pos+ (1:Int) - 1) * 29+Int.tdiv (pos+ (1:Int) - 1) (↑(List.length (List.map b1T l)):Int) * 53) ^^^ BitVec.ofInt (IntKind.bits IntKind.i64) (IntKind.wrap IntKind.i64 (Int.tdiv (y1 * 131+y2 * 1117+ (pos+ (1:Int) - 1) * 29+Int.tdiv (pos+ (1:Int) - 1) (↑(List.length (List.map b1T l)):Int) * 53) 64)))):Int)) n)]<|J ⟨I,I,Zdo,I,I⟩<|W.ret<|EndsW.rt<|J UB ?_
  rotate_left
  ·exact⟨0,rfl,rfl,by omega,.inr rfl⟩
  ·obtain⟨k1,k2⟩:=qX (x:=y1) (n:=n) OM OM
   exact⟨_,rfl,rfl,k1,.inl k2⟩
  ·obtain⟨q5,q6⟩:=wH (x:=pos+1 - 1) OM hp
   have hX:0≤y1 * 131+y2 * 1117+ (pos+1 - 1) * 29+ (pos+1 - 1).tdiv ↑(l.map b1T).length * 53∧y1 * 131+y2 * 1117+ (pos+1 - 1) * 29+ (pos+1 - 1).tdiv ↑(l.map b1T).length * 53 < 1099511627776:=by omega
   obtain⟨q7,q8⟩:=wH (n:=64) hX.1 OM
   obtain⟨k1,k2⟩:=qX (n:=n) (Nm hX.1 hX.2 (y:=IntKind.i64.wrap ((y1 * 131+y2 * 1117+ (pos+1 - 1) * 29+ (pos+1 - 1).tdiv ↑(l.map b1T).length * 53).tdiv 64)) (by rw[wO];omega) (by rw[wO];omega)) OM
   exact⟨_,rfl,rfl,k1,.inl k2⟩
theorem wU(l:List Int)(pos n:Int)(h:gz l∧0≤pos∧pos≤1048576∧n≤1048576):∃ v,F eh [.ptr (rdC l pos),.val (.i n)] (.i v) [rdC l (pos+1),[]]∧0≤v∧(v < n∨v = 0):=by
 obtain⟨res,outs,⟨v,rfl,rfl,h0⟩,hF⟩:=NT l pos n h.1 h.2.1 h.2.2.1 h.2.2.2
 exact⟨v,hF,h0⟩
open Classical in
noncomputable def ah(l:List Int)(pos n:Int):Int:=if h:gz l∧0≤pos∧pos≤1048576∧n≤1048576 then(wU l pos n h).choose else 0
theorem aa(l:List Int)(pos n:Int)(hl:gz l)(h0:0≤pos)(h1:pos≤1048576)(hn:n≤1048576):F eh [.ptr (rdC l pos),.val (.i n)] (.i (ah l pos n)) [rdC l (pos+1),[]]:=by
 have h:gz l∧0≤pos∧pos≤1048576∧n≤1048576:=⟨hl,h0,h1,hn⟩
 rw[ah,dif_pos h]
 exact(wU l pos n h).choose_spec.1
theorem aE(l:List Int)(pos n:Int):0≤ah l pos n∧(ah l pos n < n∨ah l pos n = 0):=by
 unfold ah
 split
 ·rename_i h;exact(wU l pos n h).choose_spec.2
 ·exact⟨Int.le_refl _,.inr rfl⟩
end Go.K
end
section
open Go Go.Tm Go.Proofs
namespace Go.K
structure Message where
 kind:Int
 frm:Int
 to:Int
 epoch:Int
 lease:Int
 task:Int
 text:ByteArray
 inputs:List ByteArray
 deriving DecidableEq
abbrev aF(x:Message):List T:=[.i x.kind,.i x.frm,.i x.to,.i x.epoch,.i x.lease,.i x.task,.s x.text,.slc [false] (x.inputs.map ak)]
abbrev dw(x:Message):V:=.agg [.t (.i x.kind),.t (.i x.frm),.t (.i x.to),.t (.i x.epoch),.t (.i x.lease),.t (.i x.task),.t (.s x.text),.t (.slc [false] (x.inputs.map ak))]
abbrev bq(x:Message):V:=.agg [.t (.i x.kind),.t (.i x.frm),.t (.i x.to),.t (.i x.epoch),.t (.i x.lease),.t (.i x.task),.t (.s x.text),.own [false] (x.inputs.map ak)]
abbrev bZ:List Bool:=[false,false,false,false,false,false,false,true]
abbrev HT:Message:=⟨0,0,0,0,0,0,emp,[]⟩
def Ge(s:ByteArray):ByteArray:=bl (beL (fe h0v s) 8)
theorem gt(s:ByteArray):(Ge s).size = 8:=by unfold Ge;rw[fV,oE]
def nul:ByteArray:=⟨#[0]⟩
def ee(body key:ByteArray):ByteArray:=Ge (key++nul++body)
theorem JU(body key:ByteArray):bl (beL (fe (fe (fe h0v key) nul) body) 8) = ee body key:=by unfold ee Ge;rw[ru,ru]
theorem DJ(v:Int)(s:ByteArray)(h:0≤v∧v≤18446744073709551615):0≤fe v s∧fe v s≤18446744073709551615:=v9 _ _ h
theorem mI(body key:ByteArray)(h1:body.size≤9223372036854775807)(h2:key.size≤9223372036854775807):F Cb [.val (.s body),.val (.s key)] (.s (ee body key)) [[],[]]:=by
 have hb:=DJ (fe (fe h0v key) nul) body (DJ _ _ (GO key))
 have e1:=fO h0v key
 have e2:=fO (fe h0v key) nul
 have e3:=fO (fe (fe h0v key) nul) body
 have c1:=cM h0v key h2
 rw[e1]at c1
 have c2:=cM (fe h0v key) nul (by decide)
 rw[e2]at c2
 have c3:=cM (fe (fe h0v key) nul) body h1
 rw[e3]at c3
 have c4:=j7 (fe (fe (fe h0v key) nul) body) hb.1 hb.2
 rw[JU]at c4
 refine Cq ?_
 conv=>whnf
 refine g 0 0 []<|J UA<|g 0 0 []<|J UV<|g 6 8 [.call (V.tup []) ([[u8v (fe h0v key)],[]])]<|J ⟨I,Zbq,I⟩<|g 1 2 [.call (V.tup []) ([[u8v (fe (fe h0v key) nul)],[]])]<|J ⟨Zbq,I⟩<|g 0 1 [.call (V.tup []) ([[u8v (fe (fe (fe h0v key) nul) body)],[]])]<|J ⟨I,Zbq,I⟩<|g 10 13 [.call (V.s (ee body key)) [[]]]<|J ⟨I,Zai,I,I⟩<|RT ?_
 rfl
def bw(m:Message):Prop:=(1≤m.epoch∧m.epoch≤300)∧
 ((m.kind = 1∧m.frm = 0∧(1≤m.to∧m.to≤8)∧(1≤m.lease∧m.lease≤300000000)∧(0≤m.task∧m.task≤39)∧m.text = emp∧dH m.inputs)∨
  (m.kind = 2∧m.to = 0∧(1≤m.frm∧m.frm≤8)∧(1≤m.lease∧m.lease≤300000000)∧m.task = 0∧m.text = emp∧(m.inputs.length:Int) = 0)∨
  (m.kind = 3∧m.to = 0∧(1≤m.frm∧m.frm≤8)∧(1≤m.lease∧m.lease≤300000000)∧(0≤m.task∧m.task≤39)∧(m.text.size:Int) = 8∧(m.inputs.length:Int) = 0)∨
  (m.kind = 4∧m.frm = 0∧(1≤m.to∧m.to≤8)∧(1≤m.lease∧m.lease≤300000000)∧m.task = 0∧m.text = emp∧(m.inputs.length:Int) = 0)∨
  (m.kind = 5∧m.to = 0∧(1≤m.frm∧m.frm≤8)∧m.lease = 0∧m.task = 0∧m.text = emp∧(m.inputs.length:Int) = 0))
instance (m:Message):Decidable (bw m):=by unfold bw;infer_instance
theorem bU(m:Message)(hl:m.inputs.length≤9223372036854775806):F lU [.val (dw m)] (.b (decide (bw m))) [[]]:=by
 refine lW ?_
 conv=>whnf
 refine g 0 1 []<|J ⟨UH,I,I⟩<|g 0 0 []<|J UE<|W.sq<|g 0 0 []<|J UB<|W.blk<|g 13 14 []<|J UB<|W.cn<|J (fun h1=>?_) fun h1=>?_
 replace h1:=dt h1
 refine rg []<|J UD<|gd 11 26 [[],[],[],[],[],[]] ?_
 conv=>whnf
 refine J UF<|J KR<|W.sq<|g 0 0 []<|J UA<|W.cn<|J (fun _=>(rgd [[],[],[],[],[],[]] ?_)) (noF rfl)
 conv=>whnf
 refine⟨UF,by kernel_rfl,?_⟩
 refine W.sq ?_
 by_cases h2:Message.frm m = (0:Int)
 by_cases h3:(1:Int)≤Message.to m∧Message.to m≤(8:Int)
 refine g 26 43 [BF,BF,.call (V.b (decide (1≤m.to∧m.to≤8))) [[],[],[]],BF,BF,BF,BF,BF,.call (V.b (decide (1≤m.epoch∧m.epoch≤300))) [[],[],[]],BF,BF]<|J ⟨I,I,I,⟨nO,I⟩,⟨nO,UC,I,UU,UA,ac _ _ _⟩,⟨nO,I⟩,nO,I,⟨nO,I⟩,⟨nO,I⟩,⟨nO,UC,I,UU,UA,ac _ _ _⟩,⟨nO,I⟩,nO,I⟩<|W.cn<|J (fun h4=>?_) fun h4=>?_
 replace h4:=ndt h4
 refine g 8 9 []<|J UA<|RT ?_
 rotate_left
 replace h4:=ndf h4
 refine W.skip<|W.sq ?_
 by_cases h5:(1:Int)≤Message.lease m∧Message.lease m≤(300000000:Int)
 refine g 43 59 [BT,BT,BT,.call (V.b (decide (1≤m.lease∧m.lease≤300000000))) [[],[],[]],BT,BT,BF,BF,BF,BF,BF,BF,BF,BF,BF]<|J ⟨I,I,Zda,Zda,⟨rfl,UC,I,UU,UA,ac _ _ _⟩,Zda,rfl,I,⟨nO,I⟩,⟨nO,I⟩,⟨nO,I⟩,rfl,rfl,rfl,⟨nO,rfl⟩,nO,I⟩<|W.cn<|J (noT rfl) fun _=>W.skip<|W.sq ?_
 by_cases h6:(0:Int)≤Message.task m∧Message.task m≤(39:Int)
 refine g 59 75 [BT,BT,BT,.call (V.b (decide (0≤m.task∧m.task≤39))) [[],[],[]],BT,BT,BF,BF,BF,BF,BF,BF,BF,BF,BF]<|J ⟨I,I,Zda,Zda,⟨rfl,UC,I,UU,UA,ac _ _ _⟩,Zda,rfl,I,⟨nO,I⟩,⟨nO,I⟩,⟨nO,I⟩,rfl,rfl,rfl,⟨nO,rfl⟩,nO,I⟩<|W.cn<|J (noT rfl) fun _=>W.skip<|W.sq<|g 10 91 [BF,BF,BF,BF,BF,BF,BF,BF,BT,BT,BT,BF,BT,BF]<|J Zas<|W.cn<|J (fun h7=>?_) fun h7=>?_
 replace h7:=ndt h7
 refine g 7 9 []<|J UA<|RT ?_
 rotate_left
 replace h7:=ndf h7
 refine W.skip ?_
 by_cases h8:dH (Message.inputs m)
 refine g 5 108 [BT,BT,BT,.call (V.b (decide (dH m.inputs))) [[]],BT,BT,BT,BT,BF,BF,BF,BF,BT,BT]<|J ⟨I,I,Zda,Zda,⟨rfl,UA,I,US,UA,gk _ OM⟩,rfl,I,tO,tO,tO,I,I,I,I,tO,tO,I,I⟩<|RT ?_
 rotate_left
 refine g 5 108 [BT,BT,BT,.call (V.b (decide (dH m.inputs))) [[]],BT,BF,BF,BF,BF,BF,BF,BF,BF,BF,BF]<|J ⟨I,I,Zda,Zda,⟨rfl,UA,I,US,UA,gk _ OM⟩,rfl,I,⟨dO,I⟩,⟨dO,I⟩,⟨dO,I⟩,rfl,rfl,rfl,rfl,⟨dO,rfl⟩,dO,I,I⟩<|RT ?_
 rotate_left
 refine g 59 75 [BT,BT,BT,.call (V.b (decide (0≤m.task∧m.task≤39))) [[],[],[]],BT,BT,BT,BT,BT,BF,BF,BF,BT,BT]<|J ⟨I,I,Zda,Zda,⟨rfl,UC,I,UU,UA,ac _ _ _⟩,Zda,rfl,I,af OM,af OM,af OM,I,I,I,af OM,af OM,I⟩<|W.cn<|J (fun _=>(g 3 4 []<|J UA (RT ?_))) (noF rfl)
 rotate_left
 refine g 43 59 [BT,BT,BT,.call (V.b (decide (1≤m.lease∧m.lease≤300000000))) [[],[],[]],BT,BT,BT,BT,BT,BF,BF,BF,BT,BT]<|J ⟨I,I,Zda,Zda,⟨rfl,UC,I,UU,UA,ac _ _ _⟩,Zda,rfl,I,af OM,af OM,af OM,I,I,I,af OM,af OM,I⟩<|W.cn<|J (fun _=>(g 3 4 []<|J UA (RT ?_))) (noF rfl)
 rotate_left
 refine g 26 43 [BF,BF,.call (V.b (decide (1≤m.to∧m.to≤8))) [[],[],[]],BF,BF,BT,BT,BT,BT,BT]<|J ⟨I,I,I,⟨nO,I⟩,⟨nO,UC,I,UU,UA,ac _ _ _⟩,⟨nO,I⟩,nO,I,af OM,af OM,af OM,af OM,af OM,I⟩<|W.cn<|J (fun _=>(g 8 9 []<|J UA (RT ?_))) (noF rfl)
 rotate_left
 refine g 26 43 [BT,BT,BT,BT,BT,BT,BT,BT,BT]<|J Zb2<|W.cn<|J (fun _=>(g 8 9 []<|J UA (RT ?_))) (noF rfl)
 rotate_left
 replace h1:=df h1
 refine g 12 13 []<|J UB<|W.cn<|J (fun h2=>?_) fun h2=>?_
 replace h2:=dt h2
 refine rg []<|J UA<|gd 11 26 [[],[],[],[],[],[]] ?_
 conv=>whnf
 refine J UF<|J KR<|W.sq<|g 0 0 []<|J UA<|W.cn<|J (noT rfl) fun _=>W.skip<|W.sq ?_
 by_cases h3:Message.to m = (0:Int)
 by_cases h4:(1:Int)≤Message.frm m∧Message.frm m≤(8:Int)
 refine g 26 43 [BF,BF,.call (V.b (decide (1≤m.frm∧m.frm≤8))) [[],[],[]],BF,BF,BF,BF,BF,.call (V.b (decide (1≤m.epoch∧m.epoch≤300))) [[],[],[]],BF,BF]<|J ⟨I,I,I,⟨nO,I⟩,⟨nO,UC,I,UU,UA,ac _ _ _⟩,⟨nO,I⟩,nO,I,⟨nO,I⟩,⟨nO,I⟩,⟨nO,UC,I,UU,UA,ac _ _ _⟩,⟨nO,I⟩,nO,I⟩<|W.cn<|J (fun h5=>?_) fun h5=>?_
 replace h5:=ndt h5
 refine g 8 9 []<|J UA<|RT ?_
 rotate_left
 replace h5:=ndf h5
 refine W.skip<|W.sq ?_
 by_cases h6:(1:Int)≤Message.lease m∧Message.lease m≤(300000000:Int)
 refine g 43 59 [BT,BT,BT,.call (V.b (decide (1≤m.lease∧m.lease≤300000000))) [[],[],[]],BT,BT,BF,BF,BF,BF,BF,BF,BF,BF,BF]<|J ⟨I,I,Zda,Zda,⟨rfl,UC,I,UU,UA,ac _ _ _⟩,Zda,rfl,I,⟨nO,I⟩,⟨nO,I⟩,⟨nO,I⟩,rfl,rfl,rfl,⟨nO,rfl⟩,nO,I⟩<|W.cn<|J (noT rfl) fun _=>W.skip<|W.sq<|g 59 75 [BF,BF,BF,BF,BF,BF,BF,BF,BT,BT,BT,BF,BT,BF]<|J Zas<|W.cn<|J (fun h7=>?_) fun h7=>?_
 replace h7:=ndt h7
 refine g 3 4 []<|J UA<|RT ?_
 rotate_left
 replace h7:=ndf h7
 refine W.skip<|W.sq<|g 10 91 [BF,BF,BF,BF,BF,BF,BF,BF,BT,BT,BT,BF,BT,BF]<|J Zas<|W.cn<|J (fun h8=>?_) fun h8=>?_
 replace h8:=ndt h8
 refine g 7 9 []<|J UA<|RT ?_
 rotate_left
 replace h8:=ndf h8
 refine W.skip<|g 5 108 [BF,BF,BF,BF,BF,BF,BF,BT,BT,BT,BT,BF,BT,BF]<|J Zbg<|RT ?_
 rotate_left
 refine g 43 59 [BT,BT,BT,.call (V.b (decide (1≤m.lease∧m.lease≤300000000))) [[],[],[]],BT,BT,BT,BT,BT,BF,BF,BF,BT,BT]<|J ⟨I,I,Zda,Zda,⟨rfl,UC,I,UU,UA,ac _ _ _⟩,Zda,rfl,I,af OM,af OM,af OM,I,I,I,af OM,af OM,I⟩<|W.cn<|J (fun _=>(g 3 4 []<|J UA (RT ?_))) (noF rfl)
 rotate_left
 refine g 26 43 [BF,BF,.call (V.b (decide (1≤m.frm∧m.frm≤8))) [[],[],[]],BF,BF,BT,BT,BT,BT,BT]<|J ⟨I,I,I,⟨nO,I⟩,⟨nO,UC,I,UU,UA,ac _ _ _⟩,⟨nO,I⟩,nO,I,af OM,af OM,af OM,af OM,af OM,I⟩<|W.cn<|J (fun _=>(g 8 9 []<|J UA (RT ?_))) (noF rfl)
 rotate_left
 refine g 26 43 [BT,BT,BT,BT,BT,BT,BT,BT,BT]<|J Zb2<|W.cn<|J (fun _=>(g 8 9 []<|J UA (RT ?_))) (noF rfl)
 rotate_left
 replace h2:=df h2
 refine g 14 16 []<|J UB<|W.cn<|J (fun h3=>?_) fun h3=>?_
 replace h3:=dt h3
 refine rg []<|J UC<|gd 11 26 [[],[],[],[],[],[]] ?_
 conv=>whnf
 refine J UF<|J KR<|W.sq<|g 0 0 []<|J UA<|W.cn<|J (noT rfl) fun _=>W.skip<|W.sq ?_
 by_cases h4:Message.to m = (0:Int)
 by_cases h5:(1:Int)≤Message.frm m∧Message.frm m≤(8:Int)
 refine g 26 43 [BF,BF,.call (V.b (decide (1≤m.frm∧m.frm≤8))) [[],[],[]],BF,BF,BF,BF,BF,.call (V.b (decide (1≤m.epoch∧m.epoch≤300))) [[],[],[]],BF,BF]<|J ⟨I,I,I,⟨nO,I⟩,⟨nO,UC,I,UU,UA,ac _ _ _⟩,⟨nO,I⟩,nO,I,⟨nO,I⟩,⟨nO,I⟩,⟨nO,UC,I,UU,UA,ac _ _ _⟩,⟨nO,I⟩,nO,I⟩<|W.cn<|J (fun h6=>?_) fun h6=>?_
 replace h6:=ndt h6
 refine g 8 9 []<|J UA<|RT ?_
 rotate_left
 replace h6:=ndf h6
 refine W.skip<|W.sq ?_
 by_cases h7:(1:Int)≤Message.lease m∧Message.lease m≤(300000000:Int)
 refine g 43 59 [BT,BT,BT,.call (V.b (decide (1≤m.lease∧m.lease≤300000000))) [[],[],[]],BT,BT,BF,BF,BF,BF,BF,BF,BF,BF,BF]<|J ⟨I,I,Zda,Zda,⟨rfl,UC,I,UU,UA,ac _ _ _⟩,Zda,rfl,I,⟨nO,I⟩,⟨nO,I⟩,⟨nO,I⟩,rfl,rfl,rfl,⟨nO,rfl⟩,nO,I⟩<|W.cn<|J (noT rfl) fun _=>W.skip<|W.sq ?_
 by_cases h8:(0:Int)≤Message.task m∧Message.task m≤(39:Int)
 refine g 59 75 [BT,BT,BT,.call (V.b (decide (0≤m.task∧m.task≤39))) [[],[],[]],BT,BT,BF,BF,BF,BF,BF,BF,BF,BF,BF]<|J ⟨I,I,Zda,Zda,⟨rfl,UC,I,UU,UA,ac _ _ _⟩,Zda,rfl,I,⟨nO,I⟩,⟨nO,I⟩,⟨nO,I⟩,rfl,rfl,rfl,⟨nO,rfl⟩,nO,I⟩<|W.cn<|J (noT rfl) fun _=>W.skip<|W.sq ?_
 by_cases h9:(↑(ByteArray.size (Message.text m)):Int) = (8:Int)
 refine g 10 91 [BT,BT,BT,BT,BT,BF,BF,BF,BF,BF,BF,BF,BF,BF]<|J ⟨I,I,Zda,Zda,Zda,Zda,rfl,I,⟨nO,I⟩,⟨nO,I⟩,⟨nO,I⟩,rfl,rfl,rfl,⟨nO,rfl⟩,nO,I⟩<|W.cn<|J (noT rfl) fun _=>W.skip<|g 5 108 [BF,BF,BF,BF,BF,BF,BF,BT,BT,BT,BT,BF,BT,BF]<|J Zbg<|RT ?_
 rotate_left
 refine g 10 91 [BT,BT,BT,BT,BT,BT,BT,BT,BF,BF,BF,BT,BT]<|J ⟨I,I,Zda,Zda,Zda,Zda,rfl,I,af OM,af OM,af OM,I,I,I,af OM,af OM,I⟩<|W.cn<|J (fun _=>(g 7 9 []<|J UA (RT ?_))) (noF rfl)
 rotate_left
 refine g 59 75 [BT,BT,BT,.call (V.b (decide (0≤m.task∧m.task≤39))) [[],[],[]],BT,BT,BT,BT,BT,BF,BF,BF,BT,BT]<|J ⟨I,I,Zda,Zda,⟨rfl,UC,I,UU,UA,ac _ _ _⟩,Zda,rfl,I,af OM,af OM,af OM,I,I,I,af OM,af OM,I⟩<|W.cn<|J (fun _=>(g 3 4 []<|J UA (RT ?_))) (noF rfl)
 rotate_left
 refine g 43 59 [BT,BT,BT,.call (V.b (decide (1≤m.lease∧m.lease≤300000000))) [[],[],[]],BT,BT,BT,BT,BT,BF,BF,BF,BT,BT]<|J ⟨I,I,Zda,Zda,⟨rfl,UC,I,UU,UA,ac _ _ _⟩,Zda,rfl,I,af OM,af OM,af OM,I,I,I,af OM,af OM,I⟩<|W.cn<|J (fun _=>(g 3 4 []<|J UA (RT ?_))) (noF rfl)
 rotate_left
 refine g 26 43 [BF,BF,.call (V.b (decide (1≤m.frm∧m.frm≤8))) [[],[],[]],BF,BF,BT,BT,BT,BT,BT]<|J ⟨I,I,I,⟨nO,I⟩,⟨nO,UC,I,UU,UA,ac _ _ _⟩,⟨nO,I⟩,nO,I,af OM,af OM,af OM,af OM,af OM,I⟩<|W.cn<|J (fun _=>(g 8 9 []<|J UA (RT ?_))) (noF rfl)
 rotate_left
 refine g 26 43 [BT,BT,BT,BT,BT,BT,BT,BT,BT]<|J Zb2<|W.cn<|J (fun _=>(g 8 9 []<|J UA (RT ?_))) (noF rfl)
 rotate_left
 replace h3:=df h3
 refine g 16 18 []<|J UB<|W.cn<|J (fun h4=>?_) fun h4=>?_
 replace h4:=dt h4
 refine rg []<|J UB<|gd 11 26 [[],[],[],[],[],[]] ?_
 conv=>whnf
 refine J UF<|J KR<|W.sq<|g 0 0 []<|J UA<|W.cn<|J (fun _=>(rgd [[],[],[],[],[],[]] ?_)) (noF rfl)
 conv=>whnf
 refine⟨UF,by kernel_rfl,?_⟩
 refine W.sq ?_
 by_cases h5:Message.frm m = (0:Int)
 by_cases h6:(1:Int)≤Message.to m∧Message.to m≤(8:Int)
 refine g 26 43 [BF,BF,.call (V.b (decide (1≤m.to∧m.to≤8))) [[],[],[]],BF,BF,BF,BF,BF,.call (V.b (decide (1≤m.epoch∧m.epoch≤300))) [[],[],[]],BF,BF]<|J ⟨I,I,I,⟨nO,I⟩,⟨nO,UC,I,UU,UA,ac _ _ _⟩,⟨nO,I⟩,nO,I,⟨nO,I⟩,⟨nO,I⟩,⟨nO,UC,I,UU,UA,ac _ _ _⟩,⟨nO,I⟩,nO,I⟩<|W.cn<|J (fun h7=>?_) fun h7=>?_
 replace h7:=ndt h7
 refine g 8 9 []<|J UA<|RT ?_
 rotate_left
 replace h7:=ndf h7
 refine W.skip<|W.sq ?_
 by_cases h8:(1:Int)≤Message.lease m∧Message.lease m≤(300000000:Int)
 refine g 43 59 [BT,BT,BT,.call (V.b (decide (1≤m.lease∧m.lease≤300000000))) [[],[],[]],BT,BT,BF,BF,BF,BF,BF,BF,BF,BF,BF]<|J ⟨I,I,Zda,Zda,⟨rfl,UC,I,UU,UA,ac _ _ _⟩,Zda,rfl,I,⟨nO,I⟩,⟨nO,I⟩,⟨nO,I⟩,rfl,rfl,rfl,⟨nO,rfl⟩,nO,I⟩<|W.cn<|J (noT rfl) fun _=>W.skip<|W.sq<|g 59 75 [BF,BF,BF,BF,BF,BF,BF,BF,BT,BT,BT,BF,BT,BF]<|J Zas<|W.cn<|J (fun h9=>?_) fun h9=>?_
 replace h9:=ndt h9
 refine g 3 4 []<|J UA<|RT ?_
 rotate_left
 replace h9:=ndf h9
 refine W.skip<|W.sq<|g 10 91 [BF,BF,BF,BF,BF,BF,BF,BF,BT,BT,BT,BF,BT,BF]<|J Zas<|W.cn<|J (fun h10=>?_) fun h10=>?_
 replace h10:=ndt h10
 refine g 7 9 []<|J UA<|RT ?_
 rotate_left
 replace h10:=ndf h10
 refine W.skip<|g 5 108 [BF,BF,BF,BF,BF,BF,BF,BT,BT,BT,BT,BF,BT,BF]<|J Zbg<|RT ?_
 rotate_left
 refine g 43 59 [BT,BT,BT,.call (V.b (decide (1≤m.lease∧m.lease≤300000000))) [[],[],[]],BT,BT,BT,BT,BT,BF,BF,BF,BT,BT]<|J ⟨I,I,Zda,Zda,⟨rfl,UC,I,UU,UA,ac _ _ _⟩,Zda,rfl,I,af OM,af OM,af OM,I,I,I,af OM,af OM,I⟩<|W.cn<|J (fun _=>(g 3 4 []<|J UA (RT ?_))) (noF rfl)
 rotate_left
 refine g 26 43 [BF,BF,.call (V.b (decide (1≤m.to∧m.to≤8))) [[],[],[]],BF,BF,BT,BT,BT,BT,BT]<|J ⟨I,I,I,⟨nO,I⟩,⟨nO,UC,I,UU,UA,ac _ _ _⟩,⟨nO,I⟩,nO,I,af OM,af OM,af OM,af OM,af OM,I⟩<|W.cn<|J (fun _=>(g 8 9 []<|J UA (RT ?_))) (noF rfl)
 rotate_left
 refine g 26 43 [BT,BT,BT,BT,BT,BT,BT,BT,BT]<|J Zb2<|W.cn<|J (fun _=>(g 8 9 []<|J UA (RT ?_))) (noF rfl)
 rotate_left
 replace h4:=df h4
 refine g 11 20 []<|J UB<|W.cn<|J (fun h5=>?_) fun h5=>?_
 replace h5:=dt h5
 refine W.skip<|gd 20 26 [[],[],[],[],[],[]] ?_
 conv=>whnf
 refine J UF<|J KR<|W.sq<|g 0 0 []<|J UA<|W.cn<|J (noT rfl) fun _=>W.skip<|W.sq ?_
 by_cases h6:Message.to m = (0:Int)
 by_cases h7:(1:Int)≤Message.frm m∧Message.frm m≤(8:Int)
 refine g 26 43 [BF,BF,.call (V.b (decide (1≤m.frm∧m.frm≤8))) [[],[],[]],BF,BF,BF,BF,BF,.call (V.b (decide (1≤m.epoch∧m.epoch≤300))) [[],[],[]],BF,BF]<|J ⟨I,I,I,⟨nO,I⟩,⟨nO,UC,I,UU,UA,ac _ _ _⟩,⟨nO,I⟩,nO,I,⟨nO,I⟩,⟨nO,I⟩,⟨nO,UC,I,UU,UA,ac _ _ _⟩,⟨nO,I⟩,nO,I⟩<|W.cn<|J (fun h8=>?_) fun h8=>?_
 replace h8:=ndt h8
 refine g 8 9 []<|J UA<|RT ?_
 rotate_left
 replace h8:=ndf h8
 refine W.skip<|W.sq<|g 43 59 [BF,BF,BF,BF,BF,BF,BF,BF,BT,BT,BT,BF,BT,BF]<|J Zas<|W.cn<|J (fun h9=>?_) fun h9=>?_
 replace h9:=ndt h9
 refine g 3 4 []<|J UA<|RT ?_
 rotate_left
 replace h9:=ndf h9
 refine W.skip<|W.sq<|g 59 75 [BF,BF,BF,BF,BF,BF,BF,BF,BT,BT,BT,BF,BT,BF]<|J Zas<|W.cn<|J (fun h10=>?_) fun h10=>?_
 replace h10:=ndt h10
 refine g 3 4 []<|J UA<|RT ?_
 rotate_left
 replace h10:=ndf h10
 refine W.skip<|W.sq<|g 10 91 [BF,BF,BF,BF,BF,BF,BF,BF,BT,BT,BT,BF,BT,BF]<|J Zas<|W.cn<|J (fun h11=>?_) fun h11=>?_
 replace h11:=ndt h11
 refine g 7 9 []<|J UA<|RT ?_
 rotate_left
 replace h11:=ndf h11
 refine W.skip<|g 5 108 [BF,BF,BF,BF,BF,BF,BF,BT,BT,BT,BT,BF,BT,BF]<|J Zbg<|RT ?_
 rotate_left
 refine g 26 43 [BF,BF,.call (V.b (decide (1≤m.frm∧m.frm≤8))) [[],[],[]],BF,BF,BT,BT,BT,BT,BT]<|J ⟨I,I,I,⟨nO,I⟩,⟨nO,UC,I,UU,UA,ac _ _ _⟩,⟨nO,I⟩,nO,I,af OM,af OM,af OM,af OM,af OM,I⟩<|W.cn<|J (fun _=>(g 8 9 []<|J UA (RT ?_))) (noF rfl)
 rotate_left
 refine g 26 43 [BT,BT,BT,BT,BT,BT,BT,BT,BT]<|J Zb2<|W.cn<|J (fun _=>(g 8 9 []<|J UA (RT ?_))) (noF rfl)
 rotate_left
 replace h5:=df h5
 refine g 20 22 []<|J UA<|RT ?_
 rotate_left
 all_goals (try simp only[List.length_map,decide_eq_true_eq,Bool.not_eq_true,Bool.not_eq_true',decide_eq_false_iff_not]at *)
 all_goals first
  |exact vbf (by unfold bw;grind)
  |exact vbt (by unfold bw;grind)
  |exact vbd (by unfold bw;grind)
end Go.K
end
section
open Go Go.Tm Go.Proofs
namespace Go.K
def cS(p:Plan):Prop:=p.tasks.length≤64∧∀ t∈p.tasks,t.name.size≤64∧t.deps.length≤64
def dU(n:Int):ByteArray:=if n < 10 then bl [48+n]else bl [48+n.tdiv 10] ++bl [48+n.tmod 10]
theorem gy(n:Int):(dU n).size≤2:=by
 unfold dU;split
 ·rw[fV];simp
 ·rw[ByteArray.size_append,fV,fV];simp
theorem Nv{n:Int}(h:0≤n):n.tdiv 10 = n / 10:=Int.tdiv_eq_ediv_of_nonneg h
theorem Nt{n:Int}(h:0≤n):n.tmod 10 = n % 10:=Int.tmod_eq_emod_of_nonneg h
theorem Mg(n:Int)(h0:0≤n)(h1:n < 10):F qD [.val (.i n)] (.s (dU n)) [[]]:=by
 have e:dU n = bl [48+n]:=if_pos h1
 refine qI ?_
 conv=>whnf
 refine g 0 0 []<|J UA<|W.sq<|g 3 4 []<|J UB<|W.cn<|J (noT dO) fun _=>W.skip<|W.sq<|g 4 5 []<|J UB<|W.cn<|J (fun _=>(g 10 16 [.i (48+n),.i (48+n),.s ({data:=List.toArray (bK [[T.v (Value.int IntKind.u8 (48+n))]]):ByteArray})]<|J ⟨I,wO,wu8 OM OM,US,⟨I,(by repeat (first|exact kB|refine iO ?_)),rfl⟩,I,I⟩ ?_)) (noF tO)
 refine RT ?_
 rw[e];exact vs (rA [48+n])
theorem fE(n:Int)(h0:0≤n)(h1:n < 100):F qD [.val (.i n)] (.s (dU n)) [[]]:=by
 by_cases h2:n < 10
 ·exact Mg n h0 h2
 ·have e:dU n = bl [48+n.tdiv 10] ++bl [48+n.tmod 10]:=if_neg h2
  have q1:=Nv h0
  have q2:=Nt h0
  have e2:dU (n.tdiv 10) = bl [48+n.tdiv 10]:=if_pos OM
  have c:=Mg (n.tdiv 10) OM OM
  have hsz:=gy (n.tdiv 10)
  refine qI ?_
  conv=>whnf
  refine g 0 0 []<|J UA<|W.sq<|g 3 4 []<|J UB<|W.cn<|J (noT dO) fun _=>W.skip<|W.sq<|g 4 5 []<|J UB<|W.cn<|J (noT dO) fun _=>W.skip<|gd 10 26 [[],[.i (Int.tdiv n 10)],[.call (V.s (dU (Int.tdiv n 10))) [[]]],[],[.i (Int.tmod n 10)],[.i (48+Int.tmod n 10)],[.i (48+Int.tmod n 10)],[],[.s ({data:=List.toArray (bK [[T.v (Value.int IntKind.u8 (48+Int.tmod n 10))]]):ByteArray})],[.s (dU (Int.tdiv n 10) ++ {data:=List.toArray (bK [[T.v (Value.int IntKind.u8 (48+Int.tmod n 10))]]):ByteArray})],[]] ?_
  conv=>whnf
  refine J ⟨I,⟨OM,wO⟩,Zai,I,Zdo,wO,wu8 OM OM,US,⟨I,(by repeat (first|exact kB|refine iO ?_)),rfl⟩,⟨rfl,(by simp only[bsz,ByteArray.size_append,rW];omega)⟩,I,I⟩<|J KR ?_
  refine RT ?_
  rw[e,e2];exact vs (congrArg (bl [48+n.tdiv 10] ++·) (rA [48+n.tmod 10]))
theorem jF(p:Plan)(h:cS p):F xH [.val (cB p)] (dC p) [[]]:=by
 obtain⟨hp1,hp2⟩:=h
 refine yb ?_
 conv=>whnf
 refine g 0 0 []<|J Zdr<|g 6 7 []<|J ⟨I,I,UA,I⟩<|W.sq<|g 0 0 []<|J UA<|W.blk<|W.lp (fun s (n:Nat)=>⟨[(0,s.s 0),(1,s.s 1),(2,s.s 2),(3,s.s 3),(4,.i n)],[(1,[s.c 1 0]),(2,[s.c 2 0]),(34,[s.c 34 0]),(3,[.own dX ((p.tasks.take n).map aB)])],[]⟩) (fun(n:Nat)=>n≤p.tasks.length) (fun(n:Nat)=>p.tasks.length - n) (0) [some 1,some 2,some 34,some 3] [] ⟨rfl,⟨Zag,rfl,rfl,rfl,rfl,I⟩,⟨Zad,⟨Zad,⟨Zad,Zdm⟩⟩⟩,I⟩ OM ?_
 intro n hn
 conv=>whnf
 refine W.sq<|g 7 11 []<|J UE<|W.cn<|J (fun h1=>?_) fun h1=>?_
 replace h1:=dt h1
 simp only[LM]at h1
 refine W.skip<|W.sq<|W.blk ?_
 obtain⟨y1,hy1⟩:=aj (xs:=Plan.tasks p) (n:=n) OM
 have hm1:=hp2 y1 (List.mem_of_getElem? hy1)
 refine g 11 19 [.x (aB y1)]<|J Zbf<|rgd [[],[],[],[],[],[],[],[],[],[],[],[],[],[],[]] ?_
 conv=>whnf
 refine J ⟨I,I,I,I,I,I,I,I,I,Zde,I,⟨UC,I⟩,Zde,I,UA,I⟩<|J KR<|rg [.i ((n:Int) +1)]<|J Zdc ?_
 rotate_left
 replace h1:=df h1
 simp only[LM]at h1
 refine W.exit<|g 3 34 []<|J UV<|RT ?_
 rotate_left
 ·refine⟨n+1,[some 1,some 2,some 34,some 3],[],⟨rfl,⟨Zag,rfl,rfl,rfl,rfl,I⟩,⟨Zad,⟨Zad,⟨Zad,⟨⟨rfl,⟨(congrArg (V.own _) (nj AS)),I⟩⟩,I⟩⟩⟩⟩,I⟩,?_,?_⟩
  rotate_left
  (dsimp only;omega)
  dsimp only
  omega
 ·rw[bC OM]
theorem H4{m t:Int}(h:0≤m):(m / 2) * (t+t) = m * t - (m % 2) * t:=by
 have e:m * t = (2 * (m / 2) +m % 2) * t:=by rw[show 2 * (m / 2) +m % 2 = m by omega]
 rw[e,Int.add_mul,Int.mul_add,Int.mul_assoc,Int.two_mul];omega
theorem NU(s:ByteArray)(n:Int)(h0:0≤n)(h1:n≤64)(hs:s.size≤64):∃ res outs,(∃ t,res = .s t∧outs = [[],[]]∧(t.size:Int)≤4096)∧F jt [.val (.s s),.val (.i n)] res outs:=by
 have hns:n * (s.size:Int)≤4096:=by
  have:=Int.mul_le_mul_of_nonneg_right h1 (show(0:Int)≤s.size by omega)
  omega
 refine xf ?_
 conv=>whnf
 refine g 0 0 []<|J UA<|g 0 0 []<|J UA<|W.sq<|W.blk ?_
 refine W.lp (fun s (x:ByteArray×ByteArray×Int)=>⟨[(0,.s x.2.1),(1,.i x.2.2),(4,s.s 4),(5,.s x.1)],[],[]⟩) (fun(x:ByteArray×ByteArray×Int)=>0≤x.2.2∧x.2.2≤64∧(x.1.size:Int) +x.2.2 * x.2.1.size≤4096) (fun(x:ByteArray×ByteArray×Int)=>x.2.2.toNat) ((emp,s,n)) [] [] ⟨rfl,⟨rfl,rfl,rfl,rfl,I⟩,I,I⟩ ?_ ?_
 ·refine⟨h0,h1,?_⟩
  have:emp.size = 0:=rfl
  show((emp.size:Nat):Int) +n * s.size≤4096
  omega
 rintro⟨o,t,m⟩ ⟨hm0,hm1,hsz⟩
 dsimp only at hm0 hm1 hsz
 have q1:m.tdiv 2 = m / 2:=Int.tdiv_eq_ediv_of_nonneg hm0
 have q2:m.tmod 2 = m % 2:=Int.tmod_eq_emod_of_nonneg hm0
 have q3:=H4 (t:=(t.size:Int)) hm0
 by_cases hm:0 < m
 ·have q4:=Int.mul_le_mul_of_nonneg_right (show 1≤m by omega) (show(0:Int)≤t.size by omega)
  rw[Int.one_mul]at q4
  by_cases ho:m.tmod 2 = 1
  ·have q5:m % 2 = 1:=by omega
   rw[q5,Int.one_mul]at q3
   conv=>whnf
   refine W.sq<|g 6 7 []<|J UB<|W.cn<|J (fun _=>(W.skip (W.blk (W.sq (g 7 9 [.i (Int.tmod (Prod.snd (Prod.snd (o,t,m))) 2)]<|J ⟨I,Zdo,I,I⟩ (W.cn<|J (fun _=>(rg [.s (Prod.fst (o,t,m) ++Prod.fst (Prod.snd (o,t,m)))]<|J ⟨I,I,Zdf,I,I⟩ (g 10 17 [.s (Prod.fst (Prod.snd (o,t,m)) ++Prod.fst (Prod.snd (o,t,m)))]<|J ⟨I,I,Zdf,I,I⟩ (rg [.i (Int.tdiv (Prod.snd (Prod.snd (o,t,m))) 2)]<|J ⟨I,⟨OM,w64 LN LN⟩,I,I⟩ ?_)))) (noF tO))))))) (noF tO)
   refine⟨(o++t,t++t,m / 2),[],[],⟨rfl,⟨rfl,(congrArg (fun z=>V.t (T.v (Value.int _ z))) (q1)),rfl,rfl,I⟩,I,I⟩,?_,?_⟩
   rotate_left
   (dsimp only;omega)
   dsimp only
   refine⟨by omega,by omega,?_⟩
   rw[ByteArray.size_append,ByteArray.size_append,Int.natCast_add,Int.natCast_add,q3];omega
  ·have q5:m % 2 = 0:=by omega
   rw[q5,Int.zero_mul]at q3
   conv=>whnf
   refine W.sq<|g 6 7 []<|J UB<|W.cn<|J (fun _=>(W.skip (W.blk (W.sq (g 7 9 [.i (Int.tmod (Prod.snd (Prod.snd (o,t,m))) 2)]<|J ⟨I,Zdo,I,I⟩ (W.cn<|J (noT dO) fun _=>(W.skip (g 10 17 [.s (Prod.fst (Prod.snd (o,t,m)) ++Prod.fst (Prod.snd (o,t,m)))]<|J ⟨I,I,Zdf,I,I⟩ (rg [.i (Int.tdiv (Prod.snd (Prod.snd (o,t,m))) 2)]<|J ⟨I,⟨OM,w64 LN LN⟩,I,I⟩ ?_))))))))) (noF tO)
   refine⟨(o,t++t,m / 2),[],[],⟨rfl,⟨rfl,(congrArg (fun z=>V.t (T.v (Value.int _ z))) (q1)),rfl,rfl,I⟩,I,I⟩,?_,?_⟩
   rotate_left
   (dsimp only;omega)
   dsimp only
   refine⟨by omega,by omega,?_⟩
   rw[ByteArray.size_append,Int.natCast_add,q3];omega
 ·conv=>whnf
  refine W.sq<|g 6 7 []<|J UB<|W.cn<|J (noT dO) fun _=>W.exit<|g 5 20 []<|J UB<|W.ret<|EndsW.rt<|J UB ?_
  rw[show m = 0 by omega,Int.zero_mul]at hsz
  exact⟨o,rfl,rfl,by omega⟩
theorem NV(l:List Int)(pos:Int)(hl:gz l)(h0:0≤pos)(h1:pos≤1000000):∃ res outs,(∃ p pos2,res = dC p∧outs = [rdC l pos2]∧cS p∧1≤p.tasks.length∧pos≤pos2∧pos2≤pos+4000)∧F ju [.ptr (rdC l pos)] res outs:=by
 have hp1:=aE l pos 6
 have hp2:=aE l (pos+1) 12
 by_cases h12:ah l (pos+1) 12 = 0
 ·refine nF ?_
  conv=>whnf
  refine g 0 0 []<|J UA<|g 9 11 [.call (V.i (ah l pos 6)) ([rdC l (pos+1),[]]),.i (1+ah l pos 6)]<|J ⟨I,⟨UB,I,UV,UA,aa _ _ _ OM OM OM OM⟩,wO,I,I⟩<|W.sq<|g 11 13 [.call (V.i (ah l (pos+1) 12)) ([rdC l (pos+1+1),[]])]<|J ⟨I,⟨UB,I,UV,UA,aa _ _ _ OM OM OM OM⟩,I,I⟩<|W.cn<|J (fun _=>(rg []<|J UA (g 13 15 []<|J ⟨I,I,UA,I⟩ (W.sq (g 0 0 []<|J UA (W.blk (W.lp (fun s (x:Nat×List Task×Int)=>⟨[(0,s.s 0),(2,s.s 2),(3,s.s 3),(4,s.s 4),(5,.i x.1),(8,s.s 8)],[(2,[s.c 2 0]),(69,[.t (u8s l),.t (.i x.2.2)]),(4,[.own dX (x.2.1.map aB)])],[]⟩) (fun(x:Nat×List Task×Int)=>(x.1:Int)≤40∧x.2.1.length = x.1∧(∀ t∈x.2.1,t.name.size≤64∧t.deps.length≤64)∧pos+2≤x.2.2∧x.2.2≤pos+2+90 * x.1) (fun(x:Nat×List Task×Int)=>((40:Int) - x.1).toNat) ((0,[],pos+2)) [some 2,some 69,some 4] [] ⟨rfl,Zay,⟨Zad,⟨⟨rfl,⟨rfl,⟨(congrArg (fun z=>V.t (T.v (Value.int _ z))) (by show pos+1+1 = pos+2;omega)),I⟩⟩⟩,Zdm⟩⟩,I⟩ (by simp) ?_))))))) (noF tO)
  rintro⟨i,ts,q⟩ ⟨hi,hlen,hsm,hq1,hq2⟩
  dsimp only at hi hlen hsm hq1 hq2
  have p5:=aE l q 5
  have p8:=aE l (q+1) 8
  by_cases hi2:(i:Int) < 40
  ·have cd:=fE i OM OM
   have hds:=gy i
   by_cases h8:ah l (q+1) 8 = 0
   ·skip
    conv=>whnf
    refine W.sq<|g 15 17 []<|J UC<|W.cn<|J (fun _=>(W.skip (W.sq (W.blk (g 17 27 [.call (V.s (dU (i:Int))) [[]],.s ({data:=#[(116:UInt8)]:ByteArray} ++dU (i:Int)),.call (V.i (ah l q 5)) ([rdC l (q+1),[]]),.i (1+ah l q 5)]<|J ⟨I,Zai,⟨rfl,(by simp only[bsz,bsa,ByteArray.size_append,List.size_toArray,rW];omega)⟩,I,⟨UB,I,UV,UA,aa _ _ _ (by first|omega|decide|assumption|(simp only[ByteArray.size_extract,List.length_map];omega)|simp[*]) (by first|omega|decide|assumption|(simp only[ByteArray.size_extract,List.length_map];omega)|simp[*]) (by first|omega|decide|assumption|(simp only[ByteArray.size_extract,List.length_map];omega)|simp[*]) (by first|omega|decide|assumption|(simp only[ByteArray.size_extract,List.length_map];omega)|simp[*])⟩,wO,I,I,UC,I⟩ (W.sq (g 27 29 [.call (V.i (ah l (q+1) 8)) ([rdC l (q+1+1),[]])]<|J ⟨I,⟨UB,I,UV,UA,aa _ _ _ OM OM OM OM⟩,I,I⟩ (W.cn<|J (fun _=>(rg []<|J UV (W.sq ?_))) (noF tO))))))))) (noF tO)
    refine g 29 31 []<|J UA<|W.blk<|W.lp (fun s (y:Nat×List Int×Int)=>⟨[(0,s.s 0),(2,s.s 2),(3,s.s 3),(4,s.s 4),(5,s.s 5),(6,s.s 6),(7,.i y.1),(8,s.s 8)],[(2,[s.c 2 0]),(4,[s.c 4 0]),(69,[.t (u8s l),.t (.i y.2.2)]),(6,[.t (.s ((⟨#[116]⟩:ByteArray) ++dU i)),.t (.i (20)),.own [false] (y.2.1.map gS)])],[]⟩) (fun(y:Nat×List Int×Int)=>y.1≤i∧y.2.1.length≤y.1∧y.2.1.length≤8∧q+2≤y.2.2∧y.2.2≤q+2+2 * y.1) (fun(y:Nat×List Int×Int)=>i - y.1) ((0,[],q+2)) [some 2,some 4,some 69,some 6] [] ⟨rfl,Zar,⟨Zad,⟨Zad,⟨⟨rfl,⟨rfl,⟨(congrArg (fun z=>V.t (T.v (Value.int _ z))) (by show q+1+1 = q+2;omega)),I⟩⟩⟩,⟨Zac,I⟩⟩⟩⟩,I⟩ (by simp) ?_
    rintro⟨k,ds,u⟩ ⟨g1,g2,g3,g4,g5⟩
    dsimp only at g1 g2 g3 g4 g5
    have p3:=aE l u 3
    have p2:=aE l (u+1) 2
    by_cases hk:k < i
    ·by_cases hd:ds.length < 8
     ·by_cases h3:ah l u 3 = 0
      ·conv=>whnf
       refine W.sq<|g 35 39 [BT,BT,BT,BT,BT]<|J Zaq<|W.cn<|J (fun h2=>?_) fun h2=>?_
       replace h2:=dt h2
       simp only[LM]at h2
       refine W.skip<|W.sq<|W.blk<|g 39 55 [.call (V.i (ah l u 3)) ([rdC l (u+1),[]]),BT,BT,BT,BT,BT,BF,BF,BF,BT,BT]<|J ⟨I,⟨UB,I,UV,UA,aa _ _ _ (by first|omega|decide|assumption|(simp only[ByteArray.size_extract,List.length_map];omega)|simp[*]) (by first|omega|decide|assumption|(simp only[ByteArray.size_extract,List.length_map];omega)|simp[*]) (by first|omega|decide|assumption|(simp only[ByteArray.size_extract,List.length_map];omega)|simp[*]) (by first|omega|decide|assumption|(simp only[ByteArray.size_extract,List.length_map];omega)|simp[*])⟩,I,I,tO,tO,tO,tO,tO,I,I,I,tO,tO,I⟩<|W.cn<|J (fun _=>(rg []<|J Zcp (rg [.i ((↑(Prod.fst (k,ds,u)):Int) +1)]<|J Zdc ?_))) (noF rfl)
       rotate_left
       replace h2:=df h2
       simp only[LM]at h2
       omega
       refine⟨(k+1,ds++ [(k:Int)],u+1),[some 2,some 4,some 69,some 6],[],⟨rfl,Zar,⟨Zad,⟨Zad,⟨Zdy,⟨⟨rfl,⟨rfl,⟨rfl,⟨(congrArg (V.own _) (by rw[List.map_append];rfl)),I⟩⟩⟩⟩,I⟩⟩⟩⟩,I⟩,?_,?_⟩
       rotate_left
       (dsimp only;omega)
       dsimp only
       exact⟨by omega,by rw[List.length_append];simp;omega,by rw[List.length_append];simp;omega,by first|omega|(dsimp only;omega),by first|omega|(dsimp only;omega)⟩
      ·by_cases hki:(k:Int) = (i:Int) - 1
       ·by_cases h2:ah l (u+1) 2 = 0
        ·conv=>whnf
         refine W.sq<|g 35 39 [BT,BT,BT,BT,BT]<|J Zaq<|W.cn<|J (fun h4=>?_) fun h4=>?_
         replace h4:=dt h4
         simp only[LM]at h4
         refine W.skip<|W.sq<|W.blk<|g 39 55 [.call (V.i (ah l u 3)) ([rdC l (u+1),[]]),BF,BF,BF,.i ((↑(Prod.fst (i,ts,q)):Int) - 1),BF,BF,BT,BT,.call (V.i (ah l (u+1) 2)) ([rdC l (u+1+1),[]]),BT,BF,BT,BF]<|J ⟨I,⟨UB,I,UV,UA,aa _ _ _ (by first|omega|decide|assumption|(simp only[ByteArray.size_extract,List.length_map];omega)|simp[*]) (by first|omega|decide|assumption|(simp only[ByteArray.size_extract,List.length_map];omega)|simp[*]) (by first|omega|decide|assumption|(simp only[ByteArray.size_extract,List.length_map];omega)|simp[*]) (by first|omega|decide|assumption|(simp only[ByteArray.size_extract,List.length_map];omega)|simp[*])⟩,I,I,⟨dO,I⟩,⟨dO,I⟩,⟨dO,wO⟩,⟨dO,I⟩,⟨dO,I⟩,⟨tO,I⟩,⟨tO,UB,I,UV,UA,aa _ _ _ OM OM OM OM⟩,⟨tO,I⟩,⟨dO,tO⟩,dO,I⟩<|W.cn<|J (fun _=>(rg []<|J Zcp (rg [.i ((↑(Prod.fst (k,ds,u)):Int) +1)]<|J Zdc ?_))) (noF tO)
         rotate_left
         replace h4:=df h4
         simp only[LM]at h4
         omega
         refine⟨(k+1,ds++ [(k:Int)],u+2),[some 2,some 4,some 69,some 6],[],⟨rfl,Zar,⟨Zad,⟨Zad,⟨⟨rfl,⟨rfl,⟨(congrArg (fun z=>V.t (T.v (Value.int _ z))) (by show u+1+1 = u+2;omega)),I⟩⟩⟩,⟨⟨rfl,⟨rfl,⟨rfl,⟨(congrArg (V.own _) (by rw[List.map_append];rfl)),I⟩⟩⟩⟩,I⟩⟩⟩⟩,I⟩,?_,?_⟩
         rotate_left
         (dsimp only;omega)
         dsimp only
         exact⟨by omega,by rw[List.length_append];simp;omega,by rw[List.length_append];simp;omega,by first|omega|(dsimp only;omega),by first|omega|(dsimp only;omega)⟩
        ·conv=>whnf
         refine W.sq<|g 35 39 [BT,BT,BT,BT,BT]<|J Zaq<|W.cn<|J (fun h4=>?_) fun h4=>?_
         replace h4:=dt h4
         simp only[LM]at h4
         refine W.skip<|W.sq<|W.blk<|g 39 55 [.call (V.i (ah l u 3)) ([rdC l (u+1),[]]),BF,BF,BF,.i ((↑(Prod.fst (i,ts,q)):Int) - 1),BF,BF,BT,BT,.call (V.i (ah l (u+1) 2)) ([rdC l (u+1+1),[]]),BT,BF,BT,BF]<|J ⟨I,⟨UB,I,UV,UA,aa _ _ _ (by first|omega|decide|assumption|(simp only[ByteArray.size_extract,List.length_map];omega)|simp[*]) (by first|omega|decide|assumption|(simp only[ByteArray.size_extract,List.length_map];omega)|simp[*]) (by first|omega|decide|assumption|(simp only[ByteArray.size_extract,List.length_map];omega)|simp[*]) (by first|omega|decide|assumption|(simp only[ByteArray.size_extract,List.length_map];omega)|simp[*])⟩,I,I,⟨dO,I⟩,⟨dO,I⟩,⟨dO,wO⟩,⟨dO,I⟩,⟨dO,I⟩,⟨tO,I⟩,⟨tO,UB,I,UV,UA,aa _ _ _ OM OM OM OM⟩,⟨tO,I⟩,⟨dO,tO⟩,dO,I⟩<|W.cn<|J (noT dO) fun _=>W.skip<|rg [.i ((↑(Prod.fst (k,ds,u)):Int) +1)]<|J Zdc ?_
         rotate_left
         replace h4:=df h4
         simp only[LM]at h4
         omega
         refine⟨(k+1,ds,u+2),[some 2,some 4,some 69,some 6],[],⟨rfl,Zar,⟨Zad,⟨Zad,⟨⟨rfl,⟨rfl,⟨(congrArg (fun z=>V.t (T.v (Value.int _ z))) (by show u+1+1 = u+2;omega)),I⟩⟩⟩,⟨Zac,I⟩⟩⟩⟩,I⟩,?_,?_⟩
         rotate_left
         (dsimp only;omega)
         dsimp only
         omega
       ·conv=>whnf
        refine W.sq<|g 35 39 [BT,BT,BT,BT,BT]<|J Zaq<|W.cn<|J (fun h2=>?_) fun h2=>?_
        replace h2:=dt h2
        simp only[LM]at h2
        refine W.skip<|W.sq<|W.blk<|g 39 55 [.call (V.i (ah l u 3)) ([rdC l (u+1),[]]),BF,BF,BF,.i ((↑(Prod.fst (i,ts,q)):Int) - 1),BF,BF,BF,BF,BF,BF,BF,BF]<|J ⟨I,⟨UB,I,UV,UA,aa _ _ _ (by first|omega|decide|assumption|(simp only[ByteArray.size_extract,List.length_map];omega)|simp[*]) (by first|omega|decide|assumption|(simp only[ByteArray.size_extract,List.length_map];omega)|simp[*]) (by first|omega|decide|assumption|(simp only[ByteArray.size_extract,List.length_map];omega)|simp[*]) (by first|omega|decide|assumption|(simp only[ByteArray.size_extract,List.length_map];omega)|simp[*])⟩,I,I,⟨dO,I⟩,⟨dO,I⟩,⟨dO,wO⟩,⟨dO,I⟩,⟨dO,I⟩,dO,dO,dO,⟨dO,dO⟩,dO,I⟩<|W.cn<|J (noT rfl) fun _=>W.skip<|rg [.i ((↑(Prod.fst (k,ds,u)):Int) +1)]<|J Zdc ?_
        rotate_left
        replace h2:=df h2
        simp only[LM]at h2
        omega
        refine⟨(k+1,ds,u+1),[some 2,some 4,some 69,some 6],[],Zej,?_,?_⟩
        rotate_left
        (dsimp only;omega)
        dsimp only
        omega
     ·conv=>whnf
      refine W.sq<|g 35 39 [BT,BT,BT,BT,BT]<|J Zaq<|W.cn<|J (fun h2=>?_) fun h2=>?_
      replace h2:=dt h2
      simp only[LM]at h2
      omega
      replace h2:=df h2
      simp only[LM]at h2
      refine W.exit<|rg []<|J Zb5<|rg [.i ((↑(Prod.fst (i,ts,q)):Int) +1)]<|J Zdc ?_
      refine⟨(i+1,ts++ [(⟨((⟨#[116]⟩:ByteArray) ++dU i),20,ds⟩:Task)],u),[some 2,some 69,some 4],[],⟨rfl,Zay,⟨Zad,⟨Zdy,⟨⟨rfl,⟨(congrArg (V.own _) (by rw[List.map_append];rfl)),I⟩⟩,I⟩⟩⟩,I⟩,?_,?_⟩
      rotate_left
      (dsimp only;omega)
      dsimp only
      refine⟨by first|omega|(dsimp only;omega),by rw[List.length_append];simp;omega,fun t ht=>?_,by first|omega|(dsimp only;omega),by first|omega|(dsimp only;omega)⟩
      rcases List.mem_append.1 ht with ht|ht
      ·exact hsm t ht
      ·rw[List.mem_singleton.1 ht]
       refine⟨?_,by first|omega|(dsimp only;omega)⟩
       show(((⟨#[116]⟩:ByteArray) ++dU i).size)≤64
       rw[ByteArray.size_append]
       have:(⟨#[116]⟩:ByteArray).size = 1:=rfl
       omega
    ·conv=>whnf
     refine W.sq<|g 35 39 [BF,BF,BF,BF,BF]<|J ⟨I,I,I,I,dO,dO,dO,dO,dO,I⟩<|W.cn<|J (noT rfl) fun _=>W.exit<|rg []<|J Zb5<|rg [.i ((↑(Prod.fst (i,ts,q)):Int) +1)]<|J Zdc ?_
     refine⟨(i+1,ts++ [(⟨((⟨#[116]⟩:ByteArray) ++dU i),20,ds⟩:Task)],u),[some 2,some 69,some 4],[],⟨rfl,Zay,⟨Zad,⟨Zdy,⟨⟨rfl,⟨(congrArg (V.own _) (by rw[List.map_append];rfl)),I⟩⟩,I⟩⟩⟩,I⟩,?_,?_⟩
     rotate_left
     (dsimp only;omega)
     dsimp only
     refine⟨by first|omega|(dsimp only;omega),by rw[List.length_append];simp;omega,fun t ht=>?_,by first|omega|(dsimp only;omega),by first|omega|(dsimp only;omega)⟩
     rcases List.mem_append.1 ht with ht|ht
     ·exact hsm t ht
     ·rw[List.mem_singleton.1 ht]
      refine⟨?_,by first|omega|(dsimp only;omega)⟩
      show(((⟨#[116]⟩:ByteArray) ++dU i).size)≤64
      rw[ByteArray.size_append]
      have:(⟨#[116]⟩:ByteArray).size = 1:=rfl
      omega
   ·skip
    conv=>whnf
    refine W.sq<|g 15 17 []<|J UC<|W.cn<|J (fun _=>(W.skip (W.sq (W.blk (g 17 27 [.call (V.s (dU (i:Int))) [[]],.s ({data:=#[(116:UInt8)]:ByteArray} ++dU (i:Int)),.call (V.i (ah l q 5)) ([rdC l (q+1),[]]),.i (1+ah l q 5)]<|J ⟨I,Zai,⟨rfl,(by simp only[bsz,bsa,ByteArray.size_append,List.size_toArray,rW];omega)⟩,I,⟨UB,I,UV,UA,aa _ _ _ (by first|omega|decide|assumption|(simp only[ByteArray.size_extract,List.length_map];omega)|simp[*]) (by first|omega|decide|assumption|(simp only[ByteArray.size_extract,List.length_map];omega)|simp[*]) (by first|omega|decide|assumption|(simp only[ByteArray.size_extract,List.length_map];omega)|simp[*]) (by first|omega|decide|assumption|(simp only[ByteArray.size_extract,List.length_map];omega)|simp[*])⟩,wO,I,I,UC,I⟩ (W.sq (g 27 29 [.call (V.i (ah l (q+1) 8)) ([rdC l (q+1+1),[]])]<|J ⟨I,⟨UB,I,UV,UA,aa _ _ _ OM OM OM OM⟩,I,I⟩ (W.cn<|J (noT dO) fun _=>(W.skip (W.sq ?_)))))))))) (noF tO)
    refine g 29 30 []<|J UA<|W.blk<|W.lp (fun s (y:Nat×List Int×Int)=>⟨[(0,s.s 0),(2,s.s 2),(3,s.s 3),(4,s.s 4),(5,s.s 5),(6,s.s 6),(7,.i y.1),(8,s.s 8)],[(2,[s.c 2 0]),(4,[s.c 4 0]),(69,[.t (u8s l),.t (.i y.2.2)]),(6,[.t (.s ((⟨#[116]⟩:ByteArray) ++dU i)),.t (.i (1+ah l q 5)),.own [false] (y.2.1.map gS)])],[]⟩) (fun(y:Nat×List Int×Int)=>y.1≤i∧y.2.1.length≤y.1∧y.2.1.length≤8∧q+2≤y.2.2∧y.2.2≤q+2+2 * y.1) (fun(y:Nat×List Int×Int)=>i - y.1) ((0,[],q+2)) [some 2,some 4,some 69,some 6] [] ⟨rfl,Zar,⟨Zad,⟨Zad,⟨⟨rfl,⟨rfl,⟨(congrArg (fun z=>V.t (T.v (Value.int _ z))) (by show q+1+1 = q+2;omega)),I⟩⟩⟩,⟨Zac,I⟩⟩⟩⟩,I⟩ (by simp) ?_
    rintro⟨k,ds,u⟩ ⟨g1,g2,g3,g4,g5⟩
    dsimp only at g1 g2 g3 g4 g5
    have p3:=aE l u 3
    have p2:=aE l (u+1) 2
    by_cases hk:k < i
    ·by_cases hd:ds.length < 8
     ·by_cases h3:ah l u 3 = 0
      ·conv=>whnf
       refine W.sq<|g 35 39 [BT,BT,BT,BT,BT]<|J Zaq<|W.cn<|J (fun h2=>?_) fun h2=>?_
       replace h2:=dt h2
       simp only[LM]at h2
       refine W.skip<|W.sq<|W.blk<|g 39 55 [.call (V.i (ah l u 3)) ([rdC l (u+1),[]]),BT,BT,BT,BT,BT,BF,BF,BF,BT,BT]<|J ⟨I,⟨UB,I,UV,UA,aa _ _ _ (by first|omega|decide|assumption|(simp only[ByteArray.size_extract,List.length_map];omega)|simp[*]) (by first|omega|decide|assumption|(simp only[ByteArray.size_extract,List.length_map];omega)|simp[*]) (by first|omega|decide|assumption|(simp only[ByteArray.size_extract,List.length_map];omega)|simp[*]) (by first|omega|decide|assumption|(simp only[ByteArray.size_extract,List.length_map];omega)|simp[*])⟩,I,I,tO,tO,tO,tO,tO,I,I,I,tO,tO,I⟩<|W.cn<|J (fun _=>(rg []<|J Zcp (rg [.i ((↑(Prod.fst (k,ds,u)):Int) +1)]<|J Zdc ?_))) (noF rfl)
       rotate_left
       replace h2:=df h2
       simp only[LM]at h2
       omega
       refine⟨(k+1,ds++ [(k:Int)],u+1),[some 2,some 4,some 69,some 6],[],⟨rfl,Zar,⟨Zad,⟨Zad,⟨Zdy,⟨⟨rfl,⟨rfl,⟨rfl,⟨(congrArg (V.own _) (by rw[List.map_append];rfl)),I⟩⟩⟩⟩,I⟩⟩⟩⟩,I⟩,?_,?_⟩
       rotate_left
       (dsimp only;omega)
       dsimp only
       exact⟨by omega,by rw[List.length_append];simp;omega,by rw[List.length_append];simp;omega,by first|omega|(dsimp only;omega),by first|omega|(dsimp only;omega)⟩
      ·by_cases hki:(k:Int) = (i:Int) - 1
       ·by_cases h2:ah l (u+1) 2 = 0
        ·conv=>whnf
         refine W.sq<|g 35 39 [BT,BT,BT,BT,BT]<|J Zaq<|W.cn<|J (fun h4=>?_) fun h4=>?_
         replace h4:=dt h4
         simp only[LM]at h4
         refine W.skip<|W.sq<|W.blk<|g 39 55 [.call (V.i (ah l u 3)) ([rdC l (u+1),[]]),BF,BF,BF,.i ((↑(Prod.fst (i,ts,q)):Int) - 1),BF,BF,BT,BT,.call (V.i (ah l (u+1) 2)) ([rdC l (u+1+1),[]]),BT,BF,BT,BF]<|J ⟨I,⟨UB,I,UV,UA,aa _ _ _ (by first|omega|decide|assumption|(simp only[ByteArray.size_extract,List.length_map];omega)|simp[*]) (by first|omega|decide|assumption|(simp only[ByteArray.size_extract,List.length_map];omega)|simp[*]) (by first|omega|decide|assumption|(simp only[ByteArray.size_extract,List.length_map];omega)|simp[*]) (by first|omega|decide|assumption|(simp only[ByteArray.size_extract,List.length_map];omega)|simp[*])⟩,I,I,⟨dO,I⟩,⟨dO,I⟩,⟨dO,wO⟩,⟨dO,I⟩,⟨dO,I⟩,⟨tO,I⟩,⟨tO,UB,I,UV,UA,aa _ _ _ OM OM OM OM⟩,⟨tO,I⟩,⟨dO,tO⟩,dO,I⟩<|W.cn<|J (fun _=>(rg []<|J Zcp (rg [.i ((↑(Prod.fst (k,ds,u)):Int) +1)]<|J Zdc ?_))) (noF tO)
         rotate_left
         replace h4:=df h4
         simp only[LM]at h4
         omega
         refine⟨(k+1,ds++ [(k:Int)],u+2),[some 2,some 4,some 69,some 6],[],⟨rfl,Zar,⟨Zad,⟨Zad,⟨⟨rfl,⟨rfl,⟨(congrArg (fun z=>V.t (T.v (Value.int _ z))) (by show u+1+1 = u+2;omega)),I⟩⟩⟩,⟨⟨rfl,⟨rfl,⟨rfl,⟨(congrArg (V.own _) (by rw[List.map_append];rfl)),I⟩⟩⟩⟩,I⟩⟩⟩⟩,I⟩,?_,?_⟩
         rotate_left
         (dsimp only;omega)
         dsimp only
         exact⟨by omega,by rw[List.length_append];simp;omega,by rw[List.length_append];simp;omega,by first|omega|(dsimp only;omega),by first|omega|(dsimp only;omega)⟩
        ·conv=>whnf
         refine W.sq<|g 35 39 [BT,BT,BT,BT,BT]<|J Zaq<|W.cn<|J (fun h4=>?_) fun h4=>?_
         replace h4:=dt h4
         simp only[LM]at h4
         refine W.skip<|W.sq<|W.blk<|g 39 55 [.call (V.i (ah l u 3)) ([rdC l (u+1),[]]),BF,BF,BF,.i ((↑(Prod.fst (i,ts,q)):Int) - 1),BF,BF,BT,BT,.call (V.i (ah l (u+1) 2)) ([rdC l (u+1+1),[]]),BT,BF,BT,BF]<|J ⟨I,⟨UB,I,UV,UA,aa _ _ _ (by first|omega|decide|assumption|(simp only[ByteArray.size_extract,List.length_map];omega)|simp[*]) (by first|omega|decide|assumption|(simp only[ByteArray.size_extract,List.length_map];omega)|simp[*]) (by first|omega|decide|assumption|(simp only[ByteArray.size_extract,List.length_map];omega)|simp[*]) (by first|omega|decide|assumption|(simp only[ByteArray.size_extract,List.length_map];omega)|simp[*])⟩,I,I,⟨dO,I⟩,⟨dO,I⟩,⟨dO,wO⟩,⟨dO,I⟩,⟨dO,I⟩,⟨tO,I⟩,⟨tO,UB,I,UV,UA,aa _ _ _ OM OM OM OM⟩,⟨tO,I⟩,⟨dO,tO⟩,dO,I⟩<|W.cn<|J (noT dO) fun _=>W.skip<|rg [.i ((↑(Prod.fst (k,ds,u)):Int) +1)]<|J Zdc ?_
         rotate_left
         replace h4:=df h4
         simp only[LM]at h4
         omega
         refine⟨(k+1,ds,u+2),[some 2,some 4,some 69,some 6],[],⟨rfl,Zar,⟨Zad,⟨Zad,⟨⟨rfl,⟨rfl,⟨(congrArg (fun z=>V.t (T.v (Value.int _ z))) (by show u+1+1 = u+2;omega)),I⟩⟩⟩,⟨Zac,I⟩⟩⟩⟩,I⟩,?_,?_⟩
         rotate_left
         (dsimp only;omega)
         dsimp only
         omega
       ·conv=>whnf
        refine W.sq<|g 35 39 [BT,BT,BT,BT,BT]<|J Zaq<|W.cn<|J (fun h2=>?_) fun h2=>?_
        replace h2:=dt h2
        simp only[LM]at h2
        refine W.skip<|W.sq<|W.blk<|g 39 55 [.call (V.i (ah l u 3)) ([rdC l (u+1),[]]),BF,BF,BF,.i ((↑(Prod.fst (i,ts,q)):Int) - 1),BF,BF,BF,BF,BF,BF,BF,BF]<|J ⟨I,⟨UB,I,UV,UA,aa _ _ _ (by first|omega|decide|assumption|(simp only[ByteArray.size_extract,List.length_map];omega)|simp[*]) (by first|omega|decide|assumption|(simp only[ByteArray.size_extract,List.length_map];omega)|simp[*]) (by first|omega|decide|assumption|(simp only[ByteArray.size_extract,List.length_map];omega)|simp[*]) (by first|omega|decide|assumption|(simp only[ByteArray.size_extract,List.length_map];omega)|simp[*])⟩,I,I,⟨dO,I⟩,⟨dO,I⟩,⟨dO,wO⟩,⟨dO,I⟩,⟨dO,I⟩,dO,dO,dO,⟨dO,dO⟩,dO,I⟩<|W.cn<|J (noT rfl) fun _=>W.skip<|rg [.i ((↑(Prod.fst (k,ds,u)):Int) +1)]<|J Zdc ?_
        rotate_left
        replace h2:=df h2
        simp only[LM]at h2
        omega
        refine⟨(k+1,ds,u+1),[some 2,some 4,some 69,some 6],[],Zej,?_,?_⟩
        rotate_left
        (dsimp only;omega)
        dsimp only
        omega
     ·conv=>whnf
      refine W.sq<|g 35 39 [BT,BT,BT,BT,BT]<|J Zaq<|W.cn<|J (fun h2=>?_) fun h2=>?_
      replace h2:=dt h2
      simp only[LM]at h2
      omega
      replace h2:=df h2
      simp only[LM]at h2
      refine W.exit<|rg []<|J Zb5<|rg [.i ((↑(Prod.fst (i,ts,q)):Int) +1)]<|J Zdc ?_
      refine⟨(i+1,ts++ [(⟨((⟨#[116]⟩:ByteArray) ++dU i),1+ah l q 5,ds⟩:Task)],u),[some 2,some 69,some 4],[],⟨rfl,Zay,⟨Zad,⟨Zdy,⟨⟨rfl,⟨(congrArg (V.own _) (by rw[List.map_append];rfl)),I⟩⟩,I⟩⟩⟩,I⟩,?_,?_⟩
      rotate_left
      (dsimp only;omega)
      dsimp only
      refine⟨by first|omega|(dsimp only;omega),by rw[List.length_append];simp;omega,fun t ht=>?_,by first|omega|(dsimp only;omega),by first|omega|(dsimp only;omega)⟩
      rcases List.mem_append.1 ht with ht|ht
      ·exact hsm t ht
      ·rw[List.mem_singleton.1 ht]
       refine⟨?_,by first|omega|(dsimp only;omega)⟩
       show(((⟨#[116]⟩:ByteArray) ++dU i).size)≤64
       rw[ByteArray.size_append]
       have:(⟨#[116]⟩:ByteArray).size = 1:=rfl
       omega
    ·conv=>whnf
     refine W.sq<|g 35 39 [BF,BF,BF,BF,BF]<|J ⟨I,I,I,I,dO,dO,dO,dO,dO,I⟩<|W.cn<|J (noT rfl) fun _=>W.exit<|rg []<|J Zb5<|rg [.i ((↑(Prod.fst (i,ts,q)):Int) +1)]<|J Zdc ?_
     refine⟨(i+1,ts++ [(⟨((⟨#[116]⟩:ByteArray) ++dU i),1+ah l q 5,ds⟩:Task)],u),[some 2,some 69,some 4],[],⟨rfl,Zay,⟨Zad,⟨Zdy,⟨⟨rfl,⟨(congrArg (V.own _) (by rw[List.map_append];rfl)),I⟩⟩,I⟩⟩⟩,I⟩,?_,?_⟩
     rotate_left
     (dsimp only;omega)
     dsimp only
     refine⟨by first|omega|(dsimp only;omega),by rw[List.length_append];simp;omega,fun t ht=>?_,by first|omega|(dsimp only;omega),by first|omega|(dsimp only;omega)⟩
     rcases List.mem_append.1 ht with ht|ht
     ·exact hsm t ht
     ·rw[List.mem_singleton.1 ht]
      refine⟨?_,by first|omega|(dsimp only;omega)⟩
      show(((⟨#[116]⟩:ByteArray) ++dU i).size)≤64
      rw[ByteArray.size_append]
      have:(⟨#[116]⟩:ByteArray).size = 1:=rfl
      omega
  ·conv=>whnf
   refine W.sq<|g 15 17 []<|J UC<|W.cn<|J (noT dO) fun _=>W.exit<|g 3 69 []<|J UV<|W.ret<|EndsW.rt<|J UB ?_
   exact⟨⟨ts⟩,q,rfl,rfl,⟨by first|omega|(dsimp only;omega),hsm⟩,by first|omega|(dsimp only;omega),by omega,by omega⟩
 ·refine nF ?_
  conv=>whnf
  refine g 0 0 []<|J UA<|g 9 11 [.call (V.i (ah l pos 6)) ([rdC l (pos+1),[]]),.i (1+ah l pos 6)]<|J ⟨I,⟨UB,I,UV,UA,aa _ _ _ OM OM OM OM⟩,wO,I,I⟩<|W.sq<|g 11 13 [.call (V.i (ah l (pos+1) 12)) ([rdC l (pos+1+1),[]])]<|J ⟨I,⟨UB,I,UV,UA,aa _ _ _ OM OM OM OM⟩,I,I⟩<|W.cn<|J (noT dO) fun _=>W.skip<|g 13 15 []<|J ⟨I,I,UA,I⟩<|W.sq<|g 0 0 []<|J UA<|W.blk<|W.lp (fun s (x:Nat×List Task×Int)=>⟨[(0,s.s 0),(2,s.s 2),(3,s.s 3),(4,s.s 4),(5,.i x.1),(8,s.s 8)],[(2,[s.c 2 0]),(69,[.t (u8s l),.t (.i x.2.2)]),(4,[.own dX (x.2.1.map aB)])],[]⟩) (fun(x:Nat×List Task×Int)=>(x.1:Int)≤(1+ah l pos 6)∧x.2.1.length = x.1∧(∀ t∈x.2.1,t.name.size≤64∧t.deps.length≤64)∧pos+2≤x.2.2∧x.2.2≤pos+2+90 * x.1) (fun(x:Nat×List Task×Int)=>(((1+ah l pos 6):Int) - x.1).toNat) ((0,[],pos+2)) [some 2,some 69,some 4] [] ⟨rfl,Zay,⟨Zad,⟨⟨rfl,⟨rfl,⟨(congrArg (fun z=>V.t (T.v (Value.int _ z))) (by show pos+1+1 = pos+2;omega)),I⟩⟩⟩,Zdm⟩⟩,I⟩ ⟨by omega,by simp⟩ ?_
  rintro⟨i,ts,q⟩ ⟨hi,hlen,hsm,hq1,hq2⟩
  dsimp only at hi hlen hsm hq1 hq2
  have p5:=aE l q 5
  have p8:=aE l (q+1) 8
  by_cases hi2:(i:Int) < (1+ah l pos 6)
  ·have cd:=fE i OM OM
   have hds:=gy i
   by_cases h8:ah l (q+1) 8 = 0
   ·skip
    conv=>whnf
    refine W.sq<|g 15 17 []<|J UC<|W.cn<|J (fun _=>(W.skip (W.sq (W.blk (g 17 27 [.call (V.s (dU (i:Int))) [[]],.s ({data:=#[(116:UInt8)]:ByteArray} ++dU (i:Int)),.call (V.i (ah l q 5)) ([rdC l (q+1),[]]),.i (1+ah l q 5)]<|J ⟨I,Zai,⟨rfl,(by simp only[bsz,bsa,ByteArray.size_append,List.size_toArray,rW];omega)⟩,I,⟨UB,I,UV,UA,aa _ _ _ (by first|omega|decide|assumption|(simp only[ByteArray.size_extract,List.length_map];omega)|simp[*]) (by first|omega|decide|assumption|(simp only[ByteArray.size_extract,List.length_map];omega)|simp[*]) (by first|omega|decide|assumption|(simp only[ByteArray.size_extract,List.length_map];omega)|simp[*]) (by first|omega|decide|assumption|(simp only[ByteArray.size_extract,List.length_map];omega)|simp[*])⟩,wO,I,I,UC,I⟩ (W.sq (g 27 29 [.call (V.i (ah l (q+1) 8)) ([rdC l (q+1+1),[]])]<|J ⟨I,⟨UB,I,UV,UA,aa _ _ _ OM OM OM OM⟩,I,I⟩ (W.cn<|J (fun _=>(rg []<|J UV (W.sq ?_))) (noF tO))))))))) (noF tO)
    refine g 29 31 []<|J UA<|W.blk<|W.lp (fun s (y:Nat×List Int×Int)=>⟨[(0,s.s 0),(2,s.s 2),(3,s.s 3),(4,s.s 4),(5,s.s 5),(6,s.s 6),(7,.i y.1),(8,s.s 8)],[(2,[s.c 2 0]),(4,[s.c 4 0]),(69,[.t (u8s l),.t (.i y.2.2)]),(6,[.t (.s ((⟨#[116]⟩:ByteArray) ++dU i)),.t (.i (20)),.own [false] (y.2.1.map gS)])],[]⟩) (fun(y:Nat×List Int×Int)=>y.1≤i∧y.2.1.length≤y.1∧y.2.1.length≤8∧q+2≤y.2.2∧y.2.2≤q+2+2 * y.1) (fun(y:Nat×List Int×Int)=>i - y.1) ((0,[],q+2)) [some 2,some 4,some 69,some 6] [] ⟨rfl,Zar,⟨Zad,⟨Zad,⟨⟨rfl,⟨rfl,⟨(congrArg (fun z=>V.t (T.v (Value.int _ z))) (by show q+1+1 = q+2;omega)),I⟩⟩⟩,⟨Zac,I⟩⟩⟩⟩,I⟩ (by simp) ?_
    rintro⟨k,ds,u⟩ ⟨g1,g2,g3,g4,g5⟩
    dsimp only at g1 g2 g3 g4 g5
    have p3:=aE l u 3
    have p2:=aE l (u+1) 2
    by_cases hk:k < i
    ·by_cases hd:ds.length < 8
     ·by_cases h3:ah l u 3 = 0
      ·conv=>whnf
       refine W.sq<|g 35 39 [BT,BT,BT,BT,BT]<|J Zaq<|W.cn<|J (fun h2=>?_) fun h2=>?_
       replace h2:=dt h2
       simp only[LM]at h2
       refine W.skip<|W.sq<|W.blk<|g 39 55 [.call (V.i (ah l u 3)) ([rdC l (u+1),[]]),BT,BT,BT,BT,BT,BF,BF,BF,BT,BT]<|J ⟨I,⟨UB,I,UV,UA,aa _ _ _ (by first|omega|decide|assumption|(simp only[ByteArray.size_extract,List.length_map];omega)|simp[*]) (by first|omega|decide|assumption|(simp only[ByteArray.size_extract,List.length_map];omega)|simp[*]) (by first|omega|decide|assumption|(simp only[ByteArray.size_extract,List.length_map];omega)|simp[*]) (by first|omega|decide|assumption|(simp only[ByteArray.size_extract,List.length_map];omega)|simp[*])⟩,I,I,tO,tO,tO,tO,tO,I,I,I,tO,tO,I⟩<|W.cn<|J (fun _=>(rg []<|J Zcp (rg [.i ((↑(Prod.fst (k,ds,u)):Int) +1)]<|J Zdc ?_))) (noF rfl)
       rotate_left
       replace h2:=df h2
       simp only[LM]at h2
       omega
       refine⟨(k+1,ds++ [(k:Int)],u+1),[some 2,some 4,some 69,some 6],[],⟨rfl,Zar,⟨Zad,⟨Zad,⟨Zdy,⟨⟨rfl,⟨rfl,⟨rfl,⟨(congrArg (V.own _) (by rw[List.map_append];rfl)),I⟩⟩⟩⟩,I⟩⟩⟩⟩,I⟩,?_,?_⟩
       rotate_left
       (dsimp only;omega)
       dsimp only
       exact⟨by omega,by rw[List.length_append];simp;omega,by rw[List.length_append];simp;omega,by first|omega|(dsimp only;omega),by first|omega|(dsimp only;omega)⟩
      ·by_cases hki:(k:Int) = (i:Int) - 1
       ·by_cases h2:ah l (u+1) 2 = 0
        ·conv=>whnf
         refine W.sq<|g 35 39 [BT,BT,BT,BT,BT]<|J Zaq<|W.cn<|J (fun h4=>?_) fun h4=>?_
         replace h4:=dt h4
         simp only[LM]at h4
         refine W.skip<|W.sq<|W.blk<|g 39 55 [.call (V.i (ah l u 3)) ([rdC l (u+1),[]]),BF,BF,BF,.i ((↑(Prod.fst (i,ts,q)):Int) - 1),BF,BF,BT,BT,.call (V.i (ah l (u+1) 2)) ([rdC l (u+1+1),[]]),BT,BF,BT,BF]<|J ⟨I,⟨UB,I,UV,UA,aa _ _ _ (by first|omega|decide|assumption|(simp only[ByteArray.size_extract,List.length_map];omega)|simp[*]) (by first|omega|decide|assumption|(simp only[ByteArray.size_extract,List.length_map];omega)|simp[*]) (by first|omega|decide|assumption|(simp only[ByteArray.size_extract,List.length_map];omega)|simp[*]) (by first|omega|decide|assumption|(simp only[ByteArray.size_extract,List.length_map];omega)|simp[*])⟩,I,I,⟨dO,I⟩,⟨dO,I⟩,⟨dO,wO⟩,⟨dO,I⟩,⟨dO,I⟩,⟨tO,I⟩,⟨tO,UB,I,UV,UA,aa _ _ _ OM OM OM OM⟩,⟨tO,I⟩,⟨dO,tO⟩,dO,I⟩<|W.cn<|J (fun _=>(rg []<|J Zcp (rg [.i ((↑(Prod.fst (k,ds,u)):Int) +1)]<|J Zdc ?_))) (noF tO)
         rotate_left
         replace h4:=df h4
         simp only[LM]at h4
         omega
         refine⟨(k+1,ds++ [(k:Int)],u+2),[some 2,some 4,some 69,some 6],[],⟨rfl,Zar,⟨Zad,⟨Zad,⟨⟨rfl,⟨rfl,⟨(congrArg (fun z=>V.t (T.v (Value.int _ z))) (by show u+1+1 = u+2;omega)),I⟩⟩⟩,⟨⟨rfl,⟨rfl,⟨rfl,⟨(congrArg (V.own _) (by rw[List.map_append];rfl)),I⟩⟩⟩⟩,I⟩⟩⟩⟩,I⟩,?_,?_⟩
         rotate_left
         (dsimp only;omega)
         dsimp only
         exact⟨by omega,by rw[List.length_append];simp;omega,by rw[List.length_append];simp;omega,by first|omega|(dsimp only;omega),by first|omega|(dsimp only;omega)⟩
        ·conv=>whnf
         refine W.sq<|g 35 39 [BT,BT,BT,BT,BT]<|J Zaq<|W.cn<|J (fun h4=>?_) fun h4=>?_
         replace h4:=dt h4
         simp only[LM]at h4
         refine W.skip<|W.sq<|W.blk<|g 39 55 [.call (V.i (ah l u 3)) ([rdC l (u+1),[]]),BF,BF,BF,.i ((↑(Prod.fst (i,ts,q)):Int) - 1),BF,BF,BT,BT,.call (V.i (ah l (u+1) 2)) ([rdC l (u+1+1),[]]),BT,BF,BT,BF]<|J ⟨I,⟨UB,I,UV,UA,aa _ _ _ (by first|omega|decide|assumption|(simp only[ByteArray.size_extract,List.length_map];omega)|simp[*]) (by first|omega|decide|assumption|(simp only[ByteArray.size_extract,List.length_map];omega)|simp[*]) (by first|omega|decide|assumption|(simp only[ByteArray.size_extract,List.length_map];omega)|simp[*]) (by first|omega|decide|assumption|(simp only[ByteArray.size_extract,List.length_map];omega)|simp[*])⟩,I,I,⟨dO,I⟩,⟨dO,I⟩,⟨dO,wO⟩,⟨dO,I⟩,⟨dO,I⟩,⟨tO,I⟩,⟨tO,UB,I,UV,UA,aa _ _ _ OM OM OM OM⟩,⟨tO,I⟩,⟨dO,tO⟩,dO,I⟩<|W.cn<|J (noT dO) fun _=>W.skip<|rg [.i ((↑(Prod.fst (k,ds,u)):Int) +1)]<|J Zdc ?_
         rotate_left
         replace h4:=df h4
         simp only[LM]at h4
         omega
         refine⟨(k+1,ds,u+2),[some 2,some 4,some 69,some 6],[],⟨rfl,Zar,⟨Zad,⟨Zad,⟨⟨rfl,⟨rfl,⟨(congrArg (fun z=>V.t (T.v (Value.int _ z))) (by show u+1+1 = u+2;omega)),I⟩⟩⟩,⟨Zac,I⟩⟩⟩⟩,I⟩,?_,?_⟩
         rotate_left
         (dsimp only;omega)
         dsimp only
         omega
       ·conv=>whnf
        refine W.sq<|g 35 39 [BT,BT,BT,BT,BT]<|J Zaq<|W.cn<|J (fun h2=>?_) fun h2=>?_
        replace h2:=dt h2
        simp only[LM]at h2
        refine W.skip<|W.sq<|W.blk<|g 39 55 [.call (V.i (ah l u 3)) ([rdC l (u+1),[]]),BF,BF,BF,.i ((↑(Prod.fst (i,ts,q)):Int) - 1),BF,BF,BF,BF,BF,BF,BF,BF]<|J ⟨I,⟨UB,I,UV,UA,aa _ _ _ (by first|omega|decide|assumption|(simp only[ByteArray.size_extract,List.length_map];omega)|simp[*]) (by first|omega|decide|assumption|(simp only[ByteArray.size_extract,List.length_map];omega)|simp[*]) (by first|omega|decide|assumption|(simp only[ByteArray.size_extract,List.length_map];omega)|simp[*]) (by first|omega|decide|assumption|(simp only[ByteArray.size_extract,List.length_map];omega)|simp[*])⟩,I,I,⟨dO,I⟩,⟨dO,I⟩,⟨dO,wO⟩,⟨dO,I⟩,⟨dO,I⟩,dO,dO,dO,⟨dO,dO⟩,dO,I⟩<|W.cn<|J (noT rfl) fun _=>W.skip<|rg [.i ((↑(Prod.fst (k,ds,u)):Int) +1)]<|J Zdc ?_
        rotate_left
        replace h2:=df h2
        simp only[LM]at h2
        omega
        refine⟨(k+1,ds,u+1),[some 2,some 4,some 69,some 6],[],Zej,?_,?_⟩
        rotate_left
        (dsimp only;omega)
        dsimp only
        omega
     ·exfalso;omega
    ·conv=>whnf
     refine W.sq<|g 35 39 [BF,BF,BF,BF,BF]<|J ⟨I,I,I,I,dO,dO,dO,dO,dO,I⟩<|W.cn<|J (noT rfl) fun _=>W.exit<|rg []<|J Zb5<|rg [.i ((↑(Prod.fst (i,ts,q)):Int) +1)]<|J Zdc ?_
     refine⟨(i+1,ts++ [(⟨((⟨#[116]⟩:ByteArray) ++dU i),20,ds⟩:Task)],u),[some 2,some 69,some 4],[],⟨rfl,Zay,⟨Zad,⟨Zdy,⟨⟨rfl,⟨(congrArg (V.own _) (by rw[List.map_append];rfl)),I⟩⟩,I⟩⟩⟩,I⟩,?_,?_⟩
     rotate_left
     (dsimp only;omega)
     dsimp only
     refine⟨by first|omega|(dsimp only;omega),by rw[List.length_append];simp;omega,fun t ht=>?_,by first|omega|(dsimp only;omega),by first|omega|(dsimp only;omega)⟩
     rcases List.mem_append.1 ht with ht|ht
     ·exact hsm t ht
     ·rw[List.mem_singleton.1 ht]
      refine⟨?_,by first|omega|(dsimp only;omega)⟩
      show(((⟨#[116]⟩:ByteArray) ++dU i).size)≤64
      rw[ByteArray.size_append]
      have:(⟨#[116]⟩:ByteArray).size = 1:=rfl
      omega
   ·skip
    conv=>whnf
    refine W.sq<|g 15 17 []<|J UC<|W.cn<|J (fun _=>(W.skip (W.sq (W.blk (g 17 27 [.call (V.s (dU (i:Int))) [[]],.s ({data:=#[(116:UInt8)]:ByteArray} ++dU (i:Int)),.call (V.i (ah l q 5)) ([rdC l (q+1),[]]),.i (1+ah l q 5)]<|J ⟨I,Zai,⟨rfl,(by simp only[bsz,bsa,ByteArray.size_append,List.size_toArray,rW];omega)⟩,I,⟨UB,I,UV,UA,aa _ _ _ (by first|omega|decide|assumption|(simp only[ByteArray.size_extract,List.length_map];omega)|simp[*]) (by first|omega|decide|assumption|(simp only[ByteArray.size_extract,List.length_map];omega)|simp[*]) (by first|omega|decide|assumption|(simp only[ByteArray.size_extract,List.length_map];omega)|simp[*]) (by first|omega|decide|assumption|(simp only[ByteArray.size_extract,List.length_map];omega)|simp[*])⟩,wO,I,I,UC,I⟩ (W.sq (g 27 29 [.call (V.i (ah l (q+1) 8)) ([rdC l (q+1+1),[]])]<|J ⟨I,⟨UB,I,UV,UA,aa _ _ _ OM OM OM OM⟩,I,I⟩ (W.cn<|J (noT dO) fun _=>(W.skip (W.sq ?_)))))))))) (noF tO)
    refine g 29 30 []<|J UA<|W.blk<|W.lp (fun s (y:Nat×List Int×Int)=>⟨[(0,s.s 0),(2,s.s 2),(3,s.s 3),(4,s.s 4),(5,s.s 5),(6,s.s 6),(7,.i y.1),(8,s.s 8)],[(2,[s.c 2 0]),(4,[s.c 4 0]),(69,[.t (u8s l),.t (.i y.2.2)]),(6,[.t (.s ((⟨#[116]⟩:ByteArray) ++dU i)),.t (.i (1+ah l q 5)),.own [false] (y.2.1.map gS)])],[]⟩) (fun(y:Nat×List Int×Int)=>y.1≤i∧y.2.1.length≤y.1∧y.2.1.length≤8∧q+2≤y.2.2∧y.2.2≤q+2+2 * y.1) (fun(y:Nat×List Int×Int)=>i - y.1) ((0,[],q+2)) [some 2,some 4,some 69,some 6] [] ⟨rfl,Zar,⟨Zad,⟨Zad,⟨⟨rfl,⟨rfl,⟨(congrArg (fun z=>V.t (T.v (Value.int _ z))) (by show q+1+1 = q+2;omega)),I⟩⟩⟩,⟨Zac,I⟩⟩⟩⟩,I⟩ (by simp) ?_
    rintro⟨k,ds,u⟩ ⟨g1,g2,g3,g4,g5⟩
    dsimp only at g1 g2 g3 g4 g5
    have p3:=aE l u 3
    have p2:=aE l (u+1) 2
    by_cases hk:k < i
    ·by_cases hd:ds.length < 8
     ·by_cases h3:ah l u 3 = 0
      ·conv=>whnf
       refine W.sq<|g 35 39 [BT,BT,BT,BT,BT]<|J Zaq<|W.cn<|J (fun h2=>?_) fun h2=>?_
       replace h2:=dt h2
       simp only[LM]at h2
       refine W.skip<|W.sq<|W.blk<|g 39 55 [.call (V.i (ah l u 3)) ([rdC l (u+1),[]]),BT,BT,BT,BT,BT,BF,BF,BF,BT,BT]<|J ⟨I,⟨UB,I,UV,UA,aa _ _ _ (by first|omega|decide|assumption|(simp only[ByteArray.size_extract,List.length_map];omega)|simp[*]) (by first|omega|decide|assumption|(simp only[ByteArray.size_extract,List.length_map];omega)|simp[*]) (by first|omega|decide|assumption|(simp only[ByteArray.size_extract,List.length_map];omega)|simp[*]) (by first|omega|decide|assumption|(simp only[ByteArray.size_extract,List.length_map];omega)|simp[*])⟩,I,I,tO,tO,tO,tO,tO,I,I,I,tO,tO,I⟩<|W.cn<|J (fun _=>(rg []<|J Zcp (rg [.i ((↑(Prod.fst (k,ds,u)):Int) +1)]<|J Zdc ?_))) (noF rfl)
       rotate_left
       replace h2:=df h2
       simp only[LM]at h2
       omega
       refine⟨(k+1,ds++ [(k:Int)],u+1),[some 2,some 4,some 69,some 6],[],⟨rfl,Zar,⟨Zad,⟨Zad,⟨Zdy,⟨⟨rfl,⟨rfl,⟨rfl,⟨(congrArg (V.own _) (by rw[List.map_append];rfl)),I⟩⟩⟩⟩,I⟩⟩⟩⟩,I⟩,?_,?_⟩
       rotate_left
       (dsimp only;omega)
       dsimp only
       exact⟨by omega,by rw[List.length_append];simp;omega,by rw[List.length_append];simp;omega,by first|omega|(dsimp only;omega),by first|omega|(dsimp only;omega)⟩
      ·by_cases hki:(k:Int) = (i:Int) - 1
       ·by_cases h2:ah l (u+1) 2 = 0
        ·conv=>whnf
         refine W.sq<|g 35 39 [BT,BT,BT,BT,BT]<|J Zaq<|W.cn<|J (fun h4=>?_) fun h4=>?_
         replace h4:=dt h4
         simp only[LM]at h4
         refine W.skip<|W.sq<|W.blk<|g 39 55 [.call (V.i (ah l u 3)) ([rdC l (u+1),[]]),BF,BF,BF,.i ((↑(Prod.fst (i,ts,q)):Int) - 1),BF,BF,BT,BT,.call (V.i (ah l (u+1) 2)) ([rdC l (u+1+1),[]]),BT,BF,BT,BF]<|J ⟨I,⟨UB,I,UV,UA,aa _ _ _ (by first|omega|decide|assumption|(simp only[ByteArray.size_extract,List.length_map];omega)|simp[*]) (by first|omega|decide|assumption|(simp only[ByteArray.size_extract,List.length_map];omega)|simp[*]) (by first|omega|decide|assumption|(simp only[ByteArray.size_extract,List.length_map];omega)|simp[*]) (by first|omega|decide|assumption|(simp only[ByteArray.size_extract,List.length_map];omega)|simp[*])⟩,I,I,⟨dO,I⟩,⟨dO,I⟩,⟨dO,wO⟩,⟨dO,I⟩,⟨dO,I⟩,⟨tO,I⟩,⟨tO,UB,I,UV,UA,aa _ _ _ OM OM OM OM⟩,⟨tO,I⟩,⟨dO,tO⟩,dO,I⟩<|W.cn<|J (fun _=>(rg []<|J Zcp (rg [.i ((↑(Prod.fst (k,ds,u)):Int) +1)]<|J Zdc ?_))) (noF tO)
         rotate_left
         replace h4:=df h4
         simp only[LM]at h4
         omega
         refine⟨(k+1,ds++ [(k:Int)],u+2),[some 2,some 4,some 69,some 6],[],⟨rfl,Zar,⟨Zad,⟨Zad,⟨⟨rfl,⟨rfl,⟨(congrArg (fun z=>V.t (T.v (Value.int _ z))) (by show u+1+1 = u+2;omega)),I⟩⟩⟩,⟨⟨rfl,⟨rfl,⟨rfl,⟨(congrArg (V.own _) (by rw[List.map_append];rfl)),I⟩⟩⟩⟩,I⟩⟩⟩⟩,I⟩,?_,?_⟩
         rotate_left
         (dsimp only;omega)
         dsimp only
         exact⟨by omega,by rw[List.length_append];simp;omega,by rw[List.length_append];simp;omega,by first|omega|(dsimp only;omega),by first|omega|(dsimp only;omega)⟩
        ·conv=>whnf
         refine W.sq<|g 35 39 [BT,BT,BT,BT,BT]<|J Zaq<|W.cn<|J (fun h4=>?_) fun h4=>?_
         replace h4:=dt h4
         simp only[LM]at h4
         refine W.skip<|W.sq<|W.blk<|g 39 55 [.call (V.i (ah l u 3)) ([rdC l (u+1),[]]),BF,BF,BF,.i ((↑(Prod.fst (i,ts,q)):Int) - 1),BF,BF,BT,BT,.call (V.i (ah l (u+1) 2)) ([rdC l (u+1+1),[]]),BT,BF,BT,BF]<|J ⟨I,⟨UB,I,UV,UA,aa _ _ _ (by first|omega|decide|assumption|(simp only[ByteArray.size_extract,List.length_map];omega)|simp[*]) (by first|omega|decide|assumption|(simp only[ByteArray.size_extract,List.length_map];omega)|simp[*]) (by first|omega|decide|assumption|(simp only[ByteArray.size_extract,List.length_map];omega)|simp[*]) (by first|omega|decide|assumption|(simp only[ByteArray.size_extract,List.length_map];omega)|simp[*])⟩,I,I,⟨dO,I⟩,⟨dO,I⟩,⟨dO,wO⟩,⟨dO,I⟩,⟨dO,I⟩,⟨tO,I⟩,⟨tO,UB,I,UV,UA,aa _ _ _ OM OM OM OM⟩,⟨tO,I⟩,⟨dO,tO⟩,dO,I⟩<|W.cn<|J (noT dO) fun _=>W.skip<|rg [.i ((↑(Prod.fst (k,ds,u)):Int) +1)]<|J Zdc ?_
         rotate_left
         replace h4:=df h4
         simp only[LM]at h4
         omega
         refine⟨(k+1,ds,u+2),[some 2,some 4,some 69,some 6],[],⟨rfl,Zar,⟨Zad,⟨Zad,⟨⟨rfl,⟨rfl,⟨(congrArg (fun z=>V.t (T.v (Value.int _ z))) (by show u+1+1 = u+2;omega)),I⟩⟩⟩,⟨Zac,I⟩⟩⟩⟩,I⟩,?_,?_⟩
         rotate_left
         (dsimp only;omega)
         dsimp only
         omega
       ·conv=>whnf
        refine W.sq<|g 35 39 [BT,BT,BT,BT,BT]<|J Zaq<|W.cn<|J (fun h2=>?_) fun h2=>?_
        replace h2:=dt h2
        simp only[LM]at h2
        refine W.skip<|W.sq<|W.blk<|g 39 55 [.call (V.i (ah l u 3)) ([rdC l (u+1),[]]),BF,BF,BF,.i ((↑(Prod.fst (i,ts,q)):Int) - 1),BF,BF,BF,BF,BF,BF,BF,BF]<|J ⟨I,⟨UB,I,UV,UA,aa _ _ _ (by first|omega|decide|assumption|(simp only[ByteArray.size_extract,List.length_map];omega)|simp[*]) (by first|omega|decide|assumption|(simp only[ByteArray.size_extract,List.length_map];omega)|simp[*]) (by first|omega|decide|assumption|(simp only[ByteArray.size_extract,List.length_map];omega)|simp[*]) (by first|omega|decide|assumption|(simp only[ByteArray.size_extract,List.length_map];omega)|simp[*])⟩,I,I,⟨dO,I⟩,⟨dO,I⟩,⟨dO,wO⟩,⟨dO,I⟩,⟨dO,I⟩,dO,dO,dO,⟨dO,dO⟩,dO,I⟩<|W.cn<|J (noT rfl) fun _=>W.skip<|rg [.i ((↑(Prod.fst (k,ds,u)):Int) +1)]<|J Zdc ?_
        rotate_left
        replace h2:=df h2
        simp only[LM]at h2
        omega
        refine⟨(k+1,ds,u+1),[some 2,some 4,some 69,some 6],[],Zej,?_,?_⟩
        rotate_left
        (dsimp only;omega)
        dsimp only
        omega
     ·exfalso;omega
    ·conv=>whnf
     refine W.sq<|g 35 39 [BF,BF,BF,BF,BF]<|J ⟨I,I,I,I,dO,dO,dO,dO,dO,I⟩<|W.cn<|J (noT rfl) fun _=>W.exit<|rg []<|J Zb5<|rg [.i ((↑(Prod.fst (i,ts,q)):Int) +1)]<|J Zdc ?_
     refine⟨(i+1,ts++ [(⟨((⟨#[116]⟩:ByteArray) ++dU i),1+ah l q 5,ds⟩:Task)],u),[some 2,some 69,some 4],[],⟨rfl,Zay,⟨Zad,⟨Zdy,⟨⟨rfl,⟨(congrArg (V.own _) (by rw[List.map_append];rfl)),I⟩⟩,I⟩⟩⟩,I⟩,?_,?_⟩
     rotate_left
     (dsimp only;omega)
     dsimp only
     refine⟨by first|omega|(dsimp only;omega),by rw[List.length_append];simp;omega,fun t ht=>?_,by first|omega|(dsimp only;omega),by first|omega|(dsimp only;omega)⟩
     rcases List.mem_append.1 ht with ht|ht
     ·exact hsm t ht
     ·rw[List.mem_singleton.1 ht]
      refine⟨?_,by first|omega|(dsimp only;omega)⟩
      show(((⟨#[116]⟩:ByteArray) ++dU i).size)≤64
      rw[ByteArray.size_append]
      have:(⟨#[116]⟩:ByteArray).size = 1:=rfl
      omega
  ·conv=>whnf
   refine W.sq<|g 15 17 []<|J UC<|W.cn<|J (noT dO) fun _=>W.exit<|g 3 69 []<|J UV<|W.ret<|EndsW.rt<|J UB ?_
   exact⟨⟨ts⟩,q,rfl,rfl,⟨by first|omega|(dsimp only;omega),hsm⟩,by first|omega|(dsimp only;omega),by omega,by omega⟩
theorem wW(l:List Int)(pos:Int)(h:gz l∧0≤pos∧pos≤1000000):∃ x:Plan×Int,F ju [.ptr (rdC l pos)] (dC x.1) [rdC l x.2]∧cS x.1∧1≤x.1.tasks.length∧pos≤x.2∧x.2≤pos+4000:=by
 obtain⟨res,outs,⟨p,pos2,rfl,rfl,h1,h2,h3,h4⟩,hF⟩:=NV l pos h.1 h.2.1 h.2.2
 exact⟨(p,pos2),hF,h1,h2,h3,h4⟩
open Classical in
noncomputable def eM(l:List Int)(pos:Int):Plan×Int:=if h:gz l∧0≤pos∧pos≤1000000 then(wW l pos h).choose else(⟨[⟨emp,0,[]⟩]⟩,pos)
theorem oz(l:List Int)(pos:Int)(hl:gz l)(h0:0≤pos)(h1:pos≤1000000):F ju [.ptr (rdC l pos)] (dC (eM l pos).1) [rdC l (eM l pos).2]:=by
 have h:gz l∧0≤pos∧pos≤1000000:=⟨hl,h0,h1⟩
 rw[eM,dif_pos h]
 exact(wW l pos h).choose_spec.1
theorem Hm(l:List Int)(pos:Int):cS (eM l pos).1∧1≤(eM l pos).1.tasks.length∧pos≤(eM l pos).2∧(eM l pos).2≤pos+4000:=by
 unfold eM
 split
 ·rename_i h;exact(wW l pos h).choose_spec.2
 ·refine⟨⟨by show 1≤64;omega,fun t ht=>?_⟩,Nat.le_refl _,Int.le_refl _,by dsimp only;omega⟩
  rw[List.mem_singleton.1 ht]
  have:emp.size = 0:=rfl
  exact⟨by dsimp only;omega,Nat.zero_le _⟩
theorem wV(s:ByteArray)(n:Int)(h:0≤n∧n≤64∧s.size≤64):∃ t:ByteArray,F jt [.val (.s s),.val (.i n)] (.s t) [[],[]]∧(t.size:Int)≤4096:=by
 obtain⟨res,outs,⟨t,rfl,rfl,h1⟩,hF⟩:=NU s n h.1 h.2.1 h.2.2
 exact⟨t,hF,h1⟩
open Classical in
noncomputable def rm(s:ByteArray)(n:Int):ByteArray:=if h:0≤n∧n≤64∧s.size≤64 then(wV s n h).choose else emp
theorem oy(s:ByteArray)(n:Int)(h0:0≤n)(h1:n≤64)(hs:s.size≤64):F jt [.val (.s s),.val (.i n)] (.s (rm s n)) [[],[]]:=by
 rw[rm,dif_pos ⟨h0,h1,hs⟩]
 exact(wV s n ⟨h0,h1,hs⟩).choose_spec.1
theorem zl(s:ByteArray)(n:Int):(rm s n).size≤4096:=by
 unfold rm
 split
 ·rename_i h;have:=(wV s n h).choose_spec.2;omega
 ·show emp.size≤4096;decide
end Go.K
end
section
open Go Go.Tm Go.Proofs
namespace Go.K
def gF(t:Task):Prop:=t.name.size≤8192∧t.deps.length≤128
def iG(p:Plan):Prop:=p.tasks.length≤64∧∀ t∈p.tasks,gF t
theorem gu{p:Plan}(h:cS p):iG p:=⟨h.1,fun t ht=>⟨by have:=(h.2 t ht).1;omega,by have:=(h.2 t ht).2;omega⟩⟩
theorem FP{p:Plan}(h:iG p):cL p:=⟨by have:=h.1;omega,fun t ht=>⟨by have:=(h.2 t ht).1;omega,by have:=(h.2 t ht).2;omega⟩⟩
theorem vV{p:Plan}(h:cS p){n:Nat}{t:Task}(ht:gF t):iG ⟨p.tasks.set n t⟩:=by
 refine⟨by dsimp only;rw[List.length_set];exact h.1,fun y hy=>?_⟩
 rcases List.mem_or_eq_of_mem_set hy with hy|rfl
 ·exact(gu h).2 y hy
 ·exact ht
theorem Kf{ts:List Task}(h1:ts.length≤64)(h2:∀ t∈ts,gF t){n:Nat}{t:Task}(ht:gF t):iG ⟨ts.set n t⟩:=by
 refine⟨by dsimp only;rw[List.length_set];exact h1,fun y hy=>?_⟩
 rcases List.mem_or_eq_of_mem_set hy with hy|rfl
 ·exact h2 y hy
 ·exact ht
theorem Gx(c:ByteArray)(hc:c.size = 1)(i:Int):gF ⟨c++dU i,1,[]⟩:=by
 have:=gy i
 exact⟨by dsimp only;rw[ByteArray.size_append];omega,Nat.zero_le _⟩
theorem Hy{ts:List Task}{x:Task}(h:∀ t∈ts,gF t)(hx:gF x):∀ t∈ts++ [x],gF t:=fun t ht=>by
 rcases List.mem_append.1 ht with ht|ht
 ·exact h t ht
 ·rw[List.mem_singleton.1 ht];exact hx
theorem n4{α:Type}(xs:List α)(x:α):(xs++ [x]).length = xs.length+1:=by simp
theorem fC{ts:List Task}{n:Nat}{t:Task}:(ts.map aB).set n (aB t) = (ts.set n t).map aB:=by rw[List.map_set]
theorem N9{xs:List Int}{x:Int}:(xs++ [x]).map gS = xs.map gS++ [gS x]:=by rw[List.map_append];rfl
theorem J6(xs:List ByteArray)(k:Int)(h0:0≤k)(h1:k < xs.length):∃ x,x∈xs∧(xs.map ak)[k.toNat]? = some (ak x):=by
 obtain⟨x,hx⟩:=aj (xs:=xs) (n:=k.toNat) OM
 exact⟨x,List.mem_of_getElem? hx,by rw[List.getElem?_map,hx];rfl⟩
theorem ri(xs:List Int)(k:Int)(h0:0≤k)(h1:k < xs.length):∃ x,x∈xs∧(xs.map gS)[k.toNat]? = some (gS x):=by
 obtain⟨x,hx⟩:=aj (xs:=xs) (n:=k.toNat) OM
 exact⟨x,List.mem_of_getElem? hx,by rw[List.getElem?_map,hx];rfl⟩
abbrev Oa(l:List Int)(pos:Int):V→List (List V)→Prop:=fun res outs=>∃ p pos2,res = dC p∧outs = [rdC l pos2,[]]∧iG p∧pos≤pos2∧pos2≤pos+100
theorem KA(l:List Int)(pos:Int)(p:Plan)(hp:cS p)(hl:gz l)(h0:0≤pos)(h1:pos≤1000000):∃ res outs,Oa l pos res outs∧F ig [.ptr (rdC l pos),.val (dC p)] res outs:=by
 have hpp:=hp
 obtain⟨hp1,hp2⟩:=hpp
 have cpl:=jF p hp
 have r0:=aE l pos p.tasks.length
 have r1:=aE l (pos+1) 7
 by_cases hz:p.tasks.length = 0
 ·refine cH ?_
  conv=>whnf
  refine g 0 0 []<|J Zdr<|g 9 11 [.call (dC p) [[]]]<|J Zed<|g 11 16 [.call (V.i (ah l pos (↑(List.length (List.map aB p.tasks)):Int))) ([rdC l (pos+1),[]])]<|J ⟨I,I,I,I,⟨UB,I,UV,UA,aa _ _ _ (by first|omega|decide|assumption|(simp only[ByteArray.size_extract,List.length_map];omega)|simp[*]) (by first|omega|decide|assumption|(simp only[ByteArray.size_extract,List.length_map];omega)|simp[*]) (by first|omega|decide|assumption|(simp only[ByteArray.size_extract,List.length_map];omega)|simp[*]) (by first|omega|decide|assumption|(simp only[ByteArray.size_extract,List.length_map];omega)|simp[*])⟩,I,I⟩<|W.sq<|g 16 19 []<|J UD<|W.cn<|J (fun _=>(g 19 21 []<|J UV (W.ret (EndsW.rt<|J UB ?_)))) (noF SI)
  exact⟨p,_,rfl,rfl,gu hp,by omega,by omega⟩
 ·obtain⟨kk,hkk⟩:=Int.eq_ofNat_of_zero_le r0.1
  obtain⟨t,ht⟩:=aj (xs:=p.tasks) (n:=kk) OM
  have ck:F eh [.ptr (rdC l pos),.val (.i ((p.tasks.map aB).length:Int))] (.i (kk:Int)) [rdC l (pos+1),[]]:=by
   have:=aa l pos p.tasks.length hl h0 OM OM
   rw[hkk]at this
   rw[List.length_map];exact this
  have hkl:kk < p.tasks.length:=by omega
  have hts:=hp2 t (List.mem_of_getElem? ht)
  obtain⟨t0,ht0⟩:=aj (xs:=p.tasks) (n:=0) OM
  have hts0:=hp2 t0 (List.mem_of_getElem? ht0)
  by_cases c0:ah l (pos+1) 7 = 0
  ·have r2:=aE l (pos+1+1) 5
   have m1:=zl ⟨#[110]⟩ 30
   have m2:=zl ⟨#[110]⟩ 31
   obtain⟨x,hx1,hx2⟩:=J6 [⟨#[]⟩,⟨#[97,32,98]⟩,t0.name,rm ⟨#[110]⟩ 30,rm ⟨#[110]⟩ 31] (ah l (pos+1+1) 5) r2.1 (by show _ < (5:Int);omega)
   have hx3:([[T.s ⟨#[]⟩],[T.s ⟨#[97,32,98]⟩],[T.s t0.name],[T.s (rm ⟨#[110]⟩ 30)],[T.s (rm ⟨#[110]⟩ 31)]]:List (List T))[(ah l (pos+1+1) 5).toNat]? = some [T.s x]:=hx2
   refine cH ?_
   conv=>whnf
   refine g 0 0 []<|J Zdr<|g 9 11 [.call (dC p) [[]]]<|J Zed<|g 11 16 [.call (V.i (kk:Int)) ([rdC l (pos+1),[]])]<|J ⟨I,I,I,I,Zbq,I,I⟩<|W.sq<|g 16 19 []<|J UD<|W.cn<|J (noT SI) fun _=>W.skip<|W.sq<|g 19 22 [.call (V.i (ah l (pos+1) 7)) ([rdC l (pos+1+1),[]])]<|J ⟨I,⟨UB,I,UV,UA,aa _ _ _ OM OM OM OM⟩,I⟩<|W.blk<|g 36 37 []<|J UB<|W.cn<|J (fun _=>?_) (noF tO)
   refine rgd [[],[],[],[],[],[.n (0)],[],[.x (aB t0)],[.call (V.s (rm {data:=#[(110:UInt8)]:ByteArray} 30)) [[],[]]],[.call (V.s (rm {data:=#[(110:UInt8)]:ByteArray} 31)) [[],[]]],[],[],[.call (V.i (ah l (pos+1+1) 5)) ([rdC l (pos+1+1+1),[]])],[.n (Int.toNat (ah l (pos+1+1) 5))],[.x ([T.s x])],[.n (kk)],[],[.x (aB t)]] ?_
   conv=>whnf
   refine J ⟨I,I,I,I,I,Zdf,I,xA,⟨UB,I,UT,UA,oy _ _ (by decide) (by decide) (by decide)⟩,⟨UB,I,UT,UA,oy _ _ (by decide) (by decide) (by decide)⟩,⟨UA,UA,UA,UA,UA,I⟩,I,⟨UB,I,UV,UA,aa _ _ _ OM OM OM OM⟩,Zdl,AS,Zdf,I,⟨UA,xA⟩,I⟩<|J KR<|g 5 140 []<|J UV<|W.ret<|EndsW.rt<|J UB ?_
   have hxs:x.size≤8192:=by
    have e1:(⟨#[]⟩:ByteArray).size = 0:=rfl
    have e2:(⟨#[97,32,98]⟩:ByteArray).size = 3:=rfl
    simp only[List.mem_cons,List.not_mem_nil,or_false]at hx1
    rcases hx1 with rfl|rfl|rfl|rfl|rfl <;> omega
   exact⟨⟨p.tasks.set kk ⟨x,t.cost,t.deps⟩⟩,_,congrArg (fun z=>V.agg [V.own dX z]) (fC (t:=⟨x,t.cost,t.deps⟩)),rfl,vV hp ⟨hxs,by dsimp only;omega⟩,by omega,by omega⟩
  ·by_cases c1:ah l (pos+1) 7 = 1
   ·have r2:=aE l (pos+1+1) 4
    obtain⟨x,hx1,hx2⟩:=ri [0,-1,20,21] (ah l (pos+1+1) 4) r2.1 (by show _ < (4:Int);omega)
    have hx3:([[T.i 0],[T.i (-1)],[T.i 20],[T.i 21]]:List (List T))[(ah l (pos+1+1) 4).toNat]? = some [T.i x]:=hx2
    refine cH ?_
    conv=>whnf
    refine g 0 0 []<|J Zdr<|g 9 11 [.call (dC p) [[]]]<|J Zed<|g 11 16 [.call (V.i (kk:Int)) ([rdC l (pos+1),[]])]<|J ⟨I,I,I,I,Zbq,I,I⟩<|W.sq<|g 16 19 []<|J UD<|W.cn<|J (noT SI) fun _=>W.skip<|W.sq<|g 19 22 [.call (V.i (ah l (pos+1) 7)) ([rdC l (pos+1+1),[]])]<|J ⟨I,⟨UB,I,UV,UA,aa _ _ _ OM OM OM OM⟩,I⟩<|W.blk<|g 36 37 []<|J UB<|W.cn<|J (noT dO) fun _=>?_
    refine g 35 36 []<|J UB<|W.cn<|J (fun _=>(rgd [[],[],[],[],[],[.call (V.i (ah l (pos+1+1) 4)) ([rdC l (pos+1+1+1),[]])],[.n (Int.toNat (ah l (pos+1+1) 4))],[.x ([T.i x])],[.n (kk)],[],[.x (aB t)]] ?_)) (noF tO)
    conv=>whnf
    refine⟨⟨I,I,I,Zc7,I,⟨UB,I,UV,UA,aa _ _ _ OM OM OM OM⟩,Zdl,AS,Zdf,I,⟨UA,xA⟩,I⟩,by kernel_rfl,?_⟩
    refine g 5 140 []<|J UV<|W.ret<|EndsW.rt<|J UB ?_
    exact⟨⟨p.tasks.set kk ⟨t.name,x,t.deps⟩⟩,_,congrArg (fun z=>V.agg [V.own dX z]) (fC (t:=⟨t.name,x,t.deps⟩)),rfl,vV hp ⟨by dsimp only;omega,by dsimp only;omega⟩,by omega,by omega⟩
   ·by_cases c2:ah l (pos+1) 7 = 2
    ·have r2:=aE l (pos+1+1) 4
     obtain⟨x,hx1,hx2⟩:=ri [(kk:Int),-1,0,(kk:Int) +1] (ah l (pos+1+1) 4) r2.1 (by show _ < (4:Int);omega)
     have hx3:([[T.i (kk:Int)],[T.i (-1)],[T.i 0],[T.i ((kk:Int) +1)]]:List (List T))[(ah l (pos+1+1) 4).toNat]? = some [T.i x]:=hx2
     refine cH ?_
     conv=>whnf
     refine g 0 0 []<|J Zdr<|g 9 11 [.call (dC p) [[]]]<|J Zed<|g 11 16 [.call (V.i (kk:Int)) ([rdC l (pos+1),[]])]<|J ⟨I,I,I,I,Zbq,I,I⟩<|W.sq<|g 16 19 []<|J UD<|W.cn<|J (noT SI) fun _=>W.skip<|W.sq<|g 19 22 [.call (V.i (ah l (pos+1) 7)) ([rdC l (pos+1+1),[]])]<|J ⟨I,⟨UB,I,UV,UA,aa _ _ _ OM OM OM OM⟩,I⟩<|W.blk<|g 36 37 []<|J UB<|W.cn<|J (noT dO) fun _=>?_
     refine g 35 36 []<|J UB<|W.cn<|J (noT dO) fun _=>g 54 56 []<|J UB<|W.cn<|J (fun _=>(rgd [[],[],[],[],[],[],[.n (kk)],[],[.x (aB t)],[],[],[.i ((kk:Int) +1)],[],[],[.call (V.i (ah l (pos+1+1) 4)) ([rdC l (pos+1+1+1),[]])],[.n (Int.toNat (ah l (pos+1+1) 4))],[.x ([T.i x])],[],[.x (aB t)],[.n (kk)],[],[.x (List.set (aB t) (0+2) T.hole)]] ?_)) (noF tO)
     conv=>whnf
     refine⟨⟨I,I,I,I,I,I,Zdf,I,xA,I,I,wO,Zc7,I,⟨UB,I,UV,UA,aa _ _ _ OM OM OM OM⟩,Zdl,AS,US,⟨I,xA,LN⟩,Zdf,I,⟨UA,gh LN⟩,I⟩,by kernel_rfl,?_⟩
     rw[List.set_set]
     refine g 5 140 []<|J UV<|W.ret<|EndsW.rt<|J UB ?_
     exact⟨⟨p.tasks.set kk ⟨t.name,t.cost,t.deps++ [x]⟩⟩,_,congrArg (fun z=>V.agg [V.own dX z]) ((congrArg ((p.tasks.map aB).set kk) (show _ = aB ⟨t.name,t.cost,t.deps++ [x]⟩ by show [T.s t.name,T.i t.cost,T.slc [false] (t.deps.map gS++ [gS x])] = _;rw[←N9])).trans fC),rfl,vV hp ⟨by dsimp only;omega,by dsimp only;rw[List.length_append];simp;omega⟩,by omega,by omega⟩
    ·by_cases c3:ah l (pos+1) 7 = 3
     ·refine cH ?_
      conv=>whnf
      refine g 0 0 []<|J Zdr<|g 9 11 [.call (dC p) [[]]]<|J Zed<|g 11 16 [.call (V.i (kk:Int)) ([rdC l (pos+1),[]])]<|J ⟨I,I,I,I,Zbq,I,I⟩<|W.sq<|g 16 19 []<|J UD<|W.cn<|J (noT SI) fun _=>W.skip<|W.sq<|g 19 22 [.call (V.i (ah l (pos+1) 7)) ([rdC l (pos+1+1),[]])]<|J ⟨I,⟨UB,I,UV,UA,aa _ _ _ OM OM OM OM⟩,I⟩<|W.blk<|g 36 37 []<|J UB<|W.cn<|J (noT dO) fun _=>?_
      refine g 35 36 []<|J UB<|W.cn<|J (noT dO) fun _=>g 54 56 []<|J UB<|W.cn<|J (noT dO) fun _=>g 66 68 []<|J UB<|W.cn<|J (fun _=>(rg []<|J ⟨I,I,UA,I⟩ (g 5 140 []<|J UV (W.ret (EndsW.rt<|J UB ?_))))) (noF tO)
      exact⟨⟨[]⟩,_,rfl,rfl,⟨Nat.zero_le _,fun t ht=>by cases ht⟩,by omega,by omega⟩
     ·by_cases c4:ah l (pos+1) 7 = 4
      ·refine cH ?_
       conv=>whnf
       refine g 0 0 []<|J Zdr<|g 9 11 [.call (dC p) [[]]]<|J Zed<|g 11 16 [.call (V.i (kk:Int)) ([rdC l (pos+1),[]])]<|J ⟨I,I,I,I,Zbq,I,I⟩<|W.sq<|g 16 19 []<|J UD<|W.cn<|J (noT SI) fun _=>W.skip<|W.sq<|g 19 22 [.call (V.i (ah l (pos+1) 7)) ([rdC l (pos+1+1),[]])]<|J ⟨I,⟨UB,I,UV,UA,aa _ _ _ OM OM OM OM⟩,I⟩<|W.blk<|g 36 37 []<|J UB<|W.cn<|J (noT dO) fun _=>?_
       refine g 35 36 []<|J UB<|W.cn<|J (noT dO) fun _=>g 54 56 []<|J UB<|W.cn<|J (noT dO) fun _=>g 66 68 []<|J UB<|W.cn<|J (noT dO) fun _=>g 89 91 []<|J UB<|W.cn<|J (fun _=>(g 22 95 []<|J UA (W.blk ?_))) (noF tO)
       refine W.lp (fun s (x:Nat×List Task×Int)=>⟨[(0,s.s 0),(1,s.s 1),(4,s.s 4),(5,s.s 5),(7,.i x.1)],[(141,[s.c 141 0]),(4,[s.c 4 0]),(140,[.t (u8s l),.t (.i x.2.2)]),(5,[.own dX (x.2.1.map aB)])],[]⟩) (fun(x:Nat×List Task×Int)=>x.1≤41∧x.1≤x.2.1.length∧(x.2.1.length≤41∨x.2.1.length≤64∧x.1 = 0)∧(∀ t∈x.2.1,gF t)∧pos+2≤x.2.2∧x.2.2≤pos+2+x.1) (fun(x:Nat×List Task×Int)=>64 - x.2.1.length) ((0,p.tasks,pos+2)) [some 141,some 4,some 140,some 5] [] ⟨rfl,⟨rfl,⟨_,rfl,_,_,rfl,rfl,rfl⟩,rfl,rfl,rfl,I⟩,⟨⟨rfl,UA⟩,⟨⟨rfl,⟨rfl,I⟩⟩,⟨⟨rfl,⟨rfl,⟨(congrArg (fun z=>V.t (T.v (Value.int _ z))) (by show pos+1+1 = pos+2;omega)),I⟩⟩⟩,⟨⟨rfl,⟨rfl,I⟩⟩,I⟩⟩⟩⟩,I⟩ ?_ ?_
       ·exact⟨Nat.zero_le _,Nat.zero_le _,.inr ⟨hp1,rfl⟩,(gu hp).2,Int.le_refl _,by show pos+2≤pos+2+ ((0:Nat):Int);omega⟩
       rintro⟨i,ts,q⟩ ⟨i1,i2,i3,i4,i5,i6⟩
       dsimp only at i1 i2 i3 i4 i5 i6
       have r3:=aE l q 2
       by_cases hlt:(ts.length:Int) < 40+ah l q 2
       ·have cd:=fE i OM OM
        have hds:=gy i
        conv=>whnf
        refine W.sq<|gd 95 101 [[],[],[],[],[.call (V.i (ah l q 2)) ([rdC l (q+1),[]])],[.i (40+ah l q 2)],[]] ?_
        conv=>whnf
        refine J ⟨I,I,I,I,⟨UB,I,UV,UA,aa _ _ _ (by first|omega|decide|assumption|(simp only[ByteArray.size_extract,List.length_map];omega)|simp[*]) (by first|omega|decide|assumption|(simp only[ByteArray.size_extract,List.length_map];omega)|simp[*]) (by first|omega|decide|assumption|(simp only[ByteArray.size_extract,List.length_map];omega)|simp[*]) (by first|omega|decide|assumption|(simp only[ByteArray.size_extract,List.length_map];omega)|simp[*])⟩,wO,I,I⟩<|J KR<|W.cn<|J (fun _=>(W.skip (W.sq (W.blk (rgd [[],[],[],[.call (V.s (dU (i:Int))) [[]]],[.s ({data:=#[(120:UInt8)]:ByteArray} ++dU (i:Int))],[],[],[],[],[]] ?_))))) (noF SI)
        conv=>whnf
        refine⟨⟨I,I,I,Zai,⟨rfl,(by simp only[bsz,bsa,ByteArray.size_append,List.size_toArray,rW];omega)⟩,I,⟨UC,I⟩,Zde,I,UA,I⟩,by kernel_rfl,?_⟩
        refine rg [.i ((↑(Prod.fst (i,ts,q)):Int) +1)]<|J Zdc ?_
        refine⟨(i+1,ts++ [(⟨(⟨#[120]⟩:ByteArray) ++dU i,1,[]⟩:Task)],q+1),[some 141,some 4,some 140,some 5],[],⟨rfl,⟨rfl,Zag,rfl,rfl,rfl,I⟩,⟨⟨rfl,UA⟩,⟨Zad,⟨Zdy,⟨⟨rfl,⟨(congrArg (V.own _) (by rw[List.map_append];rfl)),I⟩⟩,I⟩⟩⟩⟩,I⟩,?_,?_⟩
        rotate_left
        rotate_right 1
        dsimp only
        ·refine⟨by omega,by rw[n4];omega,.inl (by rw[n4];omega),Hy i4 (Gx _ rfl i),by omega,by omega⟩
        ·show 64 - (ts++ [_]).length < 64 - ts.length
         rw[n4];omega
       ·conv=>whnf
        refine W.sq<|gd 95 101 [[],[],[],[],[.call (V.i (ah l q 2)) ([rdC l (q+1),[]])],[.i (40+ah l q 2)],[]] ?_
        conv=>whnf
        refine J ⟨I,I,I,I,⟨UB,I,UV,UA,aa _ _ _ (by first|omega|decide|assumption|(simp only[ByteArray.size_extract,List.length_map];omega)|simp[*]) (by first|omega|decide|assumption|(simp only[ByteArray.size_extract,List.length_map];omega)|simp[*]) (by first|omega|decide|assumption|(simp only[ByteArray.size_extract,List.length_map];omega)|simp[*]) (by first|omega|decide|assumption|(simp only[ByteArray.size_extract,List.length_map];omega)|simp[*])⟩,wO,I,I⟩<|J KR<|W.cn<|J (noT SI) fun _=>W.exit<|g 5 140 []<|J UV<|W.ret<|EndsW.rt<|J UB ?_
        exact⟨⟨ts⟩,_,rfl,rfl,⟨by dsimp only;omega,i4⟩,by omega,by omega⟩
      ·by_cases c5:ah l (pos+1) 7 = 5
       ·refine cH ?_
        conv=>whnf
        refine g 0 0 []<|J Zdr<|g 9 11 [.call (dC p) [[]]]<|J Zed<|g 11 16 [.call (V.i (kk:Int)) ([rdC l (pos+1),[]])]<|J ⟨I,I,I,I,Zbq,I,I⟩<|W.sq<|g 16 19 []<|J UD<|W.cn<|J (noT SI) fun _=>W.skip<|W.sq<|g 19 22 [.call (V.i (ah l (pos+1) 7)) ([rdC l (pos+1+1),[]])]<|J ⟨I,⟨UB,I,UV,UA,aa _ _ _ OM OM OM OM⟩,I⟩<|W.blk<|g 36 37 []<|J UB<|W.cn<|J (noT dO) fun _=>?_
        refine g 35 36 []<|J UB<|W.cn<|J (noT dO) fun _=>g 54 56 []<|J UB<|W.cn<|J (noT dO) fun _=>g 66 68 []<|J UB<|W.cn<|J (noT dO) fun _=>g 89 91 []<|J UB<|W.cn<|J (noT dO) fun _=>g 22 95 []<|J UB<|W.cn<|J (fun _=>(W.sq (g 113 115 []<|J UA ?_))) (noF tO)
        refine W.blk ?_
        refine W.lp (fun s (x:Nat×List Task)=>⟨[(0,s.s 0),(1,s.s 1),(3,s.s 3),(4,s.s 4),(5,s.s 5),(6,s.s 6),(8,.i x.1)],[(140,[s.c 140 0,s.c 140 1]),(141,[s.c 141 0]),(3,[s.c 3 0]),(4,[s.c 4 0]),(5,[.own dX (x.2.map aB)])],[]⟩) (fun(x:Nat×List Task)=>x.1≤12∧x.1≤x.2.length∧x.2.length≤64∧(∀ t∈x.2,gF t)) (fun(x:Nat×List Task)=>64 - x.2.length) ((0,p.tasks)) [some 140,some 141,some 3,some 4,some 5] [] ⟨rfl,⟨rfl,⟨_,rfl,_,_,rfl,rfl,rfl⟩,rfl,rfl,rfl,rfl,rfl,I⟩,⟨⟨rfl,⟨rfl,⟨rfl,I⟩⟩⟩,⟨⟨rfl,UA⟩,⟨⟨rfl,⟨rfl,I⟩⟩,⟨⟨rfl,⟨rfl,I⟩⟩,⟨⟨rfl,⟨rfl,I⟩⟩,I⟩⟩⟩⟩⟩,I⟩ ?_ ?_
        ·exact⟨Nat.zero_le _,Nat.zero_le _,hp1,(gu hp).2⟩
        rintro⟨i,ts⟩ ⟨i1,i2,i3,i4⟩
        dsimp only at i1 i2 i3 i4
        by_cases hlt:ts.length < 12
        ·have cd:=fE i OM OM
         have hds:=gy i
         conv=>whnf
         refine W.sq<|g 115 118 []<|J UD<|W.cn<|J (fun h2=>?_) fun h2=>?_
         replace h2:=dt h2
         simp only[LM]at h2
         refine W.skip<|W.sq<|W.blk<|rgd [[],[],[],[.call (V.s (dU (i:Int))) [[]]],[.s ({data:=#[(121:UInt8)]:ByteArray} ++dU (i:Int))],[],[],[],[],[]] ?_
         conv=>whnf
         refine J ⟨I,I,I,Zai,⟨rfl,(by simp only[bsz,bsa,ByteArray.size_append,List.size_toArray,rW];omega)⟩,I,⟨UC,I⟩,Zde,I,UA,I⟩<|J KR<|rg [.i ((↑(Prod.fst (i,ts)):Int) +1)]<|J Zdc ?_
         rotate_left
         replace h2:=df h2
         simp only[LM]at h2
         omega
         refine⟨(i+1,ts++ [(⟨(⟨#[121]⟩:ByteArray) ++dU i,1,[]⟩:Task)]),[some 140,some 141,some 3,some 4,some 5],[],⟨rfl,⟨rfl,Zag,rfl,rfl,rfl,rfl,rfl,I⟩,⟨Zdy,⟨⟨rfl,UA⟩,⟨Zad,⟨Zad,⟨⟨rfl,⟨(congrArg (V.own _) (by rw[List.map_append];rfl)),I⟩⟩,I⟩⟩⟩⟩⟩,I⟩,?_,?_⟩
         rotate_left
         rotate_right 1
         dsimp only
         ·refine⟨by omega,by rw[n4];omega,by rw[n4];omega,Hy i4 (Gx _ rfl i)⟩
         ·show 64 - (ts++ [_]).length < 64 - ts.length
          rw[n4];omega
        ·obtain⟨t11,ht11⟩:=aj (xs:=ts) (n:=11) OM
         have r3:=aE l (pos+1+1) 2
         conv=>whnf
         refine W.sq<|g 115 118 []<|J UD<|W.cn<|J (fun h2=>?_) fun h2=>?_
         replace h2:=dt h2
         simp only[LM]at h2
         omega
         replace h2:=df h2
         simp only[LM]at h2
         refine W.exit<|rgd [[],[],[],[],[.call (V.i (ah l (pos+1+1) 2)) ([rdC l (pos+1+1+1),[]])],[.i (8+ah l (pos+1+1) 2)],[.n (Int.toNat (8+ah l (pos+1+1) 2))],[.n (11)],[],[.x (aB t11)]] ?_
         conv=>whnf
         refine J ⟨I,I,⟨UA,UA,UA,UA,UA,UA,UA,UA,UA,I⟩,I,⟨UB,I,UV,UA,aa _ _ _ OM OM OM OM⟩,wO,⟨I,OM,I,OM,LN⟩,Zdf,I,⟨UA,xA⟩,I⟩<|J KR<|g 5 140 []<|J UV<|W.ret<|EndsW.rt<|J UB ?_
         have hm11:=i4 t11 (List.mem_of_getElem? ht11)
         exact⟨⟨ts.set 11 ⟨t11.name,t11.cost,([0,1,2,3,4,5,6,7,8]:List Int).take (8+ah l (pos+1+1) 2).toNat⟩⟩,_,congrArg (fun z=>V.agg [V.own dX z]) ((congrArg ((ts.map aB).set 11) (show _ = aB ⟨t11.name,t11.cost,([0,1,2,3,4,5,6,7,8]:List Int).take (8+ah l (pos+1+1) 2).toNat⟩ by show [T.s t11.name,T.i t11.cost,T.slc [false] _] = [T.s t11.name,T.i t11.cost,T.slc [false] _];rw[List.drop_zero,List.map_take];rfl)).trans fC),rfl,Kf i3 i4 ⟨hm11.1,by dsimp only;rw[List.length_take];show min _ 9≤128;omega⟩,by omega,by omega⟩
       ·refine cH ?_
        conv=>whnf
        refine g 0 0 []<|J Zdr<|g 9 11 [.call (dC p) [[]]]<|J Zed<|g 11 16 [.call (V.i (kk:Int)) ([rdC l (pos+1),[]])]<|J ⟨I,I,I,I,Zbq,I,I⟩<|W.sq<|g 16 19 []<|J UD<|W.cn<|J (noT SI) fun _=>W.skip<|W.sq<|g 19 22 [.call (V.i (ah l (pos+1) 7)) ([rdC l (pos+1+1),[]])]<|J ⟨I,⟨UB,I,UV,UA,aa _ _ _ OM OM OM OM⟩,I⟩<|W.blk<|g 36 37 []<|J UB<|W.cn<|J (noT dO) fun _=>?_
        refine g 35 36 []<|J UB<|W.cn<|J (noT dO) fun _=>g 54 56 []<|J UB<|W.cn<|J (noT dO) fun _=>g 66 68 []<|J UB<|W.cn<|J (noT dO) fun _=>g 89 91 []<|J UB<|W.cn<|J (noT dO) fun _=>g 22 95 []<|J UB<|W.cn<|J (noT dO) fun _=>rgd [[],[],[],[],[],[],[.n (kk)],[],[.x (aB t)],[.s (t.name++ {data:=#[(122:UInt8)]:ByteArray})],[.n (kk)],[],[.x (aB t)]] ?_
        conv=>whnf
        refine⟨⟨I,I,I,I,I,I,Zdf,I,xA,⟨rfl,(by simp only[bsz,bsa,ByteArray.size_append,List.size_toArray,rW];omega)⟩,Zdf,I,⟨UA,xA⟩,I⟩,by kernel_rfl,?_⟩
        refine g 5 34 []<|J UV<|W.ret<|EndsW.rt<|J UB ?_
        have e1:(⟨#[122]⟩:ByteArray).size = 1:=rfl
        exact⟨⟨p.tasks.set kk ⟨t.name++ ⟨#[122]⟩,t.cost,t.deps⟩⟩,_,congrArg (fun z=>V.agg [V.own dX z]) (fC (t:=⟨t.name++ ⟨#[122]⟩,t.cost,t.deps⟩)),rfl,vV hp ⟨by dsimp only;rw[ByteArray.size_append];omega,by dsimp only;omega⟩,by omega,by omega⟩
theorem sR(l:List Int)(pos:Int)(p:Plan)(h:cS p∧gz l∧0≤pos∧pos≤1000000):∃ x:Plan×Int,F ig [.ptr (rdC l pos),.val (dC p)] (dC x.1) [rdC l x.2,[]]∧iG x.1∧pos≤x.2∧x.2≤pos+100:=by
 obtain⟨res,outs,⟨q,pos2,rfl,rfl,h1,h2,h3⟩,hF⟩:=KA l pos p h.1 h.2.1 h.2.2.1 h.2.2.2
 exact⟨(q,pos2),hF,h1,h2,h3⟩
open Classical in
noncomputable def lR(l:List Int)(pos:Int)(p:Plan):Plan×Int:=if h:cS p∧gz l∧0≤pos∧pos≤1000000 then(sR l pos p h).choose else(⟨[]⟩,pos)
theorem uZ(l:List Int)(pos:Int)(p:Plan)(hp:cS p)(hl:gz l)(h0:0≤pos)(h1:pos≤1000000):F ig [.ptr (rdC l pos),.val (dC p)] (dC (lR l pos p).1) [rdC l (lR l pos p).2,[]]:=by
 have h:cS p∧gz l∧0≤pos∧pos≤1000000:=⟨hp,hl,h0,h1⟩
 rw[lR,dif_pos h]
 exact(sR l pos p h).choose_spec.1
theorem JS(l:List Int)(pos:Int)(p:Plan):iG (lR l pos p).1∧pos≤(lR l pos p).2∧(lR l pos p).2≤pos+100:=by
 unfold lR
 split
 ·rename_i h;exact(sR l pos p h).choose_spec.2
 ·exact⟨⟨Nat.zero_le _,fun t ht=>by cases ht⟩,Int.le_refl _,by dsimp only;omega⟩
end Go.K
end
section
open Go Go.Tm Go.Proofs
namespace Go.K
theorem o9{ts:List Task}{n k:Nat}(hk:k < n):∀ m,n≤m→m≤ts.length→(da ts m)[k]? = (da ts n)[k]?
 |0,h1,_=>by omega
 |m+1,h1,h2=>by
  by_cases e:n = m+1
  ·rw[e]
  ·rw[gA (List.getElem?_eq_getElem OM),List.getElem?_append_left (by rw[eW ts m OM];omega)]
   exact o9 hk m OM OM
theorem B2{a b:List ByteArray}{ds:List Int}(h:∀ d∈ds,a[d.toNat]? = b[d.toNat]?):cC a ds = cC b ds:=by
 unfold cC
 exact List.map_congr_left fun d hd=>by rw[h d hd]
theorem JF{p:Plan}{n:Nat}{t:Task}(hc:ai p.tasks = 0)(ht:p.tasks[n]? = some t):(cu p)[n]? = some (bO t.name (cC (cu p) t.deps)):=by
 have hn:=(List.getElem?_eq_some_iff.1 ht).1
 obtain⟨_,_,_,a4⟩:=bv hc ht
 have e:cu p = da p.tasks p.tasks.length:=if_pos hc
 rw[e,o9 (n:=n+1) OM _ OM (Nat.le_refl _),gA ht,List.getElem?_append_right (by rw[eW _ _ OM];omega),eW _ _ OM]
 simp only[Nat.sub_self,List.getElem?_cons_zero]
 congr 2
 refine B2 fun d hd=>?_
 have:=a4 d hd
 exact(o9 OM _ OM (Nat.le_refl _)).symm
theorem Ld{n:Nat}{t:TypeId}{zc:List V}{b:Nat}(ht:E.ty t = some ⟨.int .u8,zc,b⟩){xs:List (List T)}(h:∀ y∈xs,wfT E (n+1) t y):∃ l:List Int,xs = l.map b1T∧∀ x∈l,0≤x∧x≤255 :=
 FQ (f:=b1T) (p:=fun x=>0≤x∧x≤255) fun y hy=>by
  have h1:=h y hy
  simp only[wfT,ht]at h1
  obtain⟨m,hm,h2,h3⟩:=h1
  exact⟨m,hm,h2,h3⟩
end Go.K
end
section
open Go Go.Tm Go.Proofs
namespace Go.K
theorem Az(l:List Int)(hlen:l.length≤1048576)(h8:∀ x∈l,0≤x∧x≤255):∃ res outs,(∃ p,res = dC p∧outs = [[]]∧iG p)∧F rL [.val (.t (u8s l))] res outs:=by
 have hu:gz (l.take 2000):=⟨by rw[List.length_take];omega,fun x hx=>h8 x (List.mem_of_mem_take hx)⟩
 obtain⟨d1,d2,d3,d4⟩:=Hm (l.take 2000) 0
 have hr:=aE (l.take 2000) (eM (l.take 2000) 0).2 8
 have hsp:=JS (l.take 2000) ((eM (l.take 2000) 0).2+1) (eM (l.take 2000) 0).1
 refine rD ?_
 conv=>whnf
 refine g 0 0 []<|J UA<|g 5 7 [.call (V.tup [V.tup (rdC (List.take 2000 l) 0)]) [[]]]<|J ⟨I,⟨UA,I,US,UA,ox _ OM⟩,I,I⟩<|g 7 9 [.call (dC (Prod.fst (eM (List.take 2000 l) 0))) ([rdC (List.take 2000 l) (Prod.snd (eM (List.take 2000 l) 0))])]<|J ⟨I,⟨UA,I,UA,UA,oz _ _ OM OM OM⟩,I,UA,I⟩<|W.sq<|g 9 11 [.call (V.i (ah (List.take 2000 l) (Prod.snd (eM (List.take 2000 l) 0)) 8)) ([rdC (List.take 2000 l) (Prod.snd (eM (List.take 2000 l) 0) +1),[]])]<|J ⟨I,⟨UB,I,UV,UA,aa _ _ _ OM OM OM OM⟩,I,I⟩<|W.cn<|J (fun h1=>?_) fun h1=>?_
 replace h1:=dt h1
 refine g 11 15 [.call (dC (Prod.fst (lR (List.take 2000 l) (Prod.snd (eM (List.take 2000 l) 0) +1) (Prod.fst (eM (List.take 2000 l) 0))))) ([rdC (List.take 2000 l) (Prod.snd (lR (List.take 2000 l) (Prod.snd (eM (List.take 2000 l) 0) +1) (Prod.fst (eM (List.take 2000 l) 0)))),[]])]<|J ⟨I,I,⟨UV,I,UB,UA,uZ _ _ _ OM OM OM OM⟩,UA,I⟩<|W.ret<|EndsW.rt<|J UB ?_
 rotate_left
 replace h1:=df h1
 refine W.skip<|g 3 16 []<|J UV<|W.ret<|EndsW.rt<|J UB ?_
 rotate_left
 ·exact⟨_,rfl,rfl,hsp.1⟩
 ·exact⟨_,rfl,rfl,gu d1⟩
end Go.K
end

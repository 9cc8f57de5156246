/- Contracts of functions of the program: what each call answers. -/
import Derived.Test.YtoknlfldllmhpaaPartc
import Derived.Test.YtoknlfldllmhpaaProg
set_option maxHeartbeats 8000000
set_option maxRecDepth 20000
set_option linter.unusedVariables false
set_option linter.unusedSimpArgs false
section
open Go Go.Tm Go.Proofs
namespace Go.K
def E:Env:=(.node (.node (.node (.node (.node (.node (.node .nil 2 ⟨(.int .i64),[.t (.v (.int .i64 0))],8⟩ .nil) 3 ⟨(.int .i64),[.t (.v (.int .i64 0))],8⟩ .nil) 4 ⟨.bool,[.b false],1⟩ (.node .nil 5 ⟨(.int .u8),[.t (.v (.int .u8 0))],1⟩ .nil)) 6 ⟨(.int .u8),[.t (.v (.int .u8 0))],1⟩ (.node (.node (.node .nil 7 ⟨(.struct [(0,2),(1,3),(2,4),(3,6)]),[.t (.v (.int .i64 0)),.t (.v (.int .i64 0)),.b false,.t (.v (.int .u8 0))],24⟩ .nil) 9 ⟨.str,[.s ⟨#[]⟩],16⟩ .nil) 12 ⟨(.int .u64),[.t (.v (.int .u64 0))],8⟩ (.node .nil 13 ⟨(.struct [(0,9),(1,12)]),[.s ⟨#[]⟩,.t (.v (.int .u64 0))],24⟩ .nil))) 17 ⟨(.ptr 190),[.t (.v (.pointer none))],8⟩ (.node (.node (.node (.node .nil 18 ⟨(.struct [(0,17)]),[.t (.v (.pointer none))],8⟩ .nil) 19 ⟨(.struct [(0,17)]),[.t (.v (.pointer none))],8⟩ .nil) 21 ⟨(.int .i32),[.t (.v (.int .i32 0))],4⟩ (.node .nil 22 ⟨(.slice 5),[.own [false] []],24⟩ .nil)) 23 ⟨(.slice 9),[.own [false] []],24⟩ (.node (.node (.node .nil 24 ⟨(.struct [(0,23),(1,23)]),[.own [false] [],.own [false] []],48⟩ .nil) 25 ⟨(.struct [(0,23),(1,23)]),[.own [false] [],.own [false] []],48⟩ .nil) 26 ⟨(.slice 86),[.own [false,false,false] []],24⟩ (.node .nil 27 ⟨(.slice 79),[.own [false,false] []],24⟩ .nil)))) 28 ⟨(.slice 81),[.own [false,false,false] []],24⟩ (.node (.node (.node (.node (.node .nil 29 ⟨(.struct [(0,3),(1,4),(2,3),(3,3),(4,3),(5,3),(6,25),(8,23),(9,26),(10,27),(11,28)]),[.t (.v (.int .i64 0)),.b false,.t (.v (.int .i64 0)),.t (.v (.int .i64 0)),.t (.v (.int .i64 0)),.t (.v (.int .i64 0)),.own [false] [],.own [false] [],.own [false] [],.own [false,false,false] [],.own [false,false] [],.own [false,false,false] []],192⟩ .nil) 30 ⟨(.struct [(0,3),(1,4),(2,3),(3,3),(4,3),(5,3),(6,25),(8,23),(9,26),(10,27),(11,28)]),[.t (.v (.int .i64 0)),.b false,.t (.v (.int .i64 0)),.t (.v (.int .i64 0)),.t (.v (.int .i64 0)),.t (.v (.int .i64 0)),.own [false] [],.own [false] [],.own [false] [],.own [false,false,false] [],.own [false,false] [],.own [false,false,false] []],192⟩ .nil) 31 ⟨(.slice 70),[.own [false,false,true] []],24⟩ (.node .nil 32 ⟨(.struct [(0,31)]),[.own [false,false,true] []],24⟩ .nil)) 33 ⟨(.struct [(0,31)]),[.own [false,false,true] []],24⟩ (.node (.node (.node .nil 40 ⟨(.struct [(0,3),(1,3),(2,23)]),[.t (.v (.int .i64 0)),.t (.v (.int .i64 0)),.own [false] []],40⟩ .nil) 41 ⟨(.struct [(0,3),(1,3),(2,23)]),[.t (.v (.int .i64 0)),.t (.v (.int .i64 0)),.own [false] []],40⟩ .nil) 46 ⟨(.slice 101),[.own [false,false,false,false,false,false,false,false,true,false,false] []],24⟩ (.node .nil 47 ⟨(.slice 63),[.own [false,false,false] []],24⟩ .nil))) 48 ⟨(.struct [(0,33),(1,9),(2,30),(14,46),(15,47),(16,9)]),[.own [false,false,true] [],.s ⟨#[]⟩,.t (.v (.int .i64 0)),.b false,.t (.v (.int .i64 0)),.t (.v (.int .i64 0)),.t (.v (.int .i64 0)),.t (.v (.int .i64 0)),.own [false] [],.own [false] [],.own [false] [],.own [false,false,false] [],.own [false,false] [],.own [false,false,false] [],.own [false,false,false,false,false,false,false,false,true,false,false] [],.own [false,false,false] [],.s ⟨#[]⟩],296⟩ (.node (.node (.node (.node .nil 49 ⟨(.struct [(0,33),(1,9),(2,30),(14,46),(15,47),(16,9)]),[.own [false,false,true] [],.s ⟨#[]⟩,.t (.v (.int .i64 0)),.b false,.t (.v (.int .i64 0)),.t (.v (.int .i64 0)),.t (.v (.int .i64 0)),.t (.v (.int .i64 0)),.own [false] [],.own [false] [],.own [false] [],.own [false,false,false] [],.own [false,false] [],.own [false,false,false] [],.own [false,false,false,false,false,false,false,false,true,false,false] [],.own [false,false,false] [],.s ⟨#[]⟩],296⟩ .nil) 52 ⟨(.slice 57),[.own [false,false,false,false] []],24⟩ .nil) 54 ⟨(.slice 3),[.own [false] []],24⟩ (.node .nil 56 ⟨(.struct [(0,3),(1,3),(2,3),(3,3)]),[.t (.v (.int .i64 0)),.t (.v (.int .i64 0)),.t (.v (.int .i64 0)),.t (.v (.int .i64 0))],32⟩ .nil)) 57 ⟨(.struct [(0,3),(1,3),(2,3),(3,3)]),[.t (.v (.int .i64 0)),.t (.v (.int .i64 0)),.t (.v (.int .i64 0)),.t (.v (.int .i64 0))],32⟩ (.node (.node .nil 58 ⟨(.struct [(0,3),(1,3),(2,3),(3,3),(4,3),(5,3),(6,9),(7,23)]),[.t (.v (.int .i64 0)),.t (.v (.int .i64 0)),.t (.v (.int .i64 0)),.t (.v (.int .i64 0)),.t (.v (.int .i64 0)),.t (.v (.int .i64 0)),.s ⟨#[]⟩,.own [false] []],88⟩ .nil) 59 ⟨(.struct [(0,3),(1,3),(2,3),(3,3),(4,3),(5,3),(6,9),(7,23)]),[.t (.v (.int .i64 0)),.t (.v (.int .i64 0)),.t (.v (.int .i64 0)),.t (.v (.int .i64 0)),.t (.v (.int .i64 0)),.t (.v (.int .i64 0)),.s ⟨#[]⟩,.own [false] []],88⟩ (.node .nil 62 ⟨(.struct [(0,3),(1,9),(2,9)]),[.t (.v (.int .i64 0)),.s ⟨#[]⟩,.s ⟨#[]⟩],40⟩ .nil))))) 63 ⟨(.struct [(0,3),(1,9),(2,9)]),[.t (.v (.int .i64 0)),.s ⟨#[]⟩,.s ⟨#[]⟩],40⟩ (.node (.node (.node (.node (.node (.node .nil 69 ⟨(.struct [(0,9),(1,3),(2,54)]),[.s ⟨#[]⟩,.t (.v (.int .i64 0)),.own [false] []],48⟩ .nil) 70 ⟨(.struct [(0,9),(1,3),(2,54)]),[.s ⟨#[]⟩,.t (.v (.int .i64 0)),.own [false] []],48⟩ .nil) 71 ⟨(.ptr 114),[.t (.v (.pointer none))],8⟩ (.node .nil 78 ⟨(.struct [(0,4),(1,3)]),[.b false,.t (.v (.int .i64 0))],16⟩ .nil)) 79 ⟨(.struct [(0,4),(1,3)]),[.b false,.t (.v (.int .i64 0))],16⟩ (.node (.node (.node .nil 80 ⟨(.struct [(0,3),(1,3),(2,3)]),[.t (.v (.int .i64 0)),.t (.v (.int .i64 0)),.t (.v (.int .i64 0))],24⟩ .nil) 81 ⟨(.struct [(0,3),(1,3),(2,3)]),[.t (.v (.int .i64 0)),.t (.v (.int .i64 0)),.t (.v (.int .i64 0))],24⟩ .nil) 84 ⟨(.map 3 4),[.t (.v (.map none))],8⟩ (.node .nil 85 ⟨(.struct [(0,3),(1,3),(2,3)]),[.t (.v (.int .i64 0)),.t (.v (.int .i64 0)),.t (.v (.int .i64 0))],24⟩ .nil))) 86 ⟨(.struct [(0,3),(1,3),(2,3)]),[.t (.v (.int .i64 0)),.t (.v (.int .i64 0)),.t (.v (.int .i64 0))],24⟩ (.node (.node (.node (.node .nil 92 ⟨(.struct [(0,3),(1,3),(2,3),(3,9)]),[.t (.v (.int .i64 0)),.t (.v (.int .i64 0)),.t (.v (.int .i64 0)),.s ⟨#[]⟩],40⟩ .nil) 93 ⟨(.struct [(0,3),(1,3),(2,3),(3,9)]),[.t (.v (.int .i64 0)),.t (.v (.int .i64 0)),.t (.v (.int .i64 0)),.s ⟨#[]⟩],40⟩ .nil) 100 ⟨(.struct [(0,3),(1,3),(2,4),(3,3),(4,3),(5,3),(6,3),(7,3),(8,23),(9,9),(10,3)]),[.t (.v (.int .i64 0)),.t (.v (.int .i64 0)),.b false,.t (.v (.int .i64 0)),.t (.v (.int .i64 0)),.t (.v (.int .i64 0)),.t (.v (.int .i64 0)),.t (.v (.int .i64 0)),.own [false] [],.s ⟨#[]⟩,.t (.v (.int .i64 0))],112⟩ (.node .nil 101 ⟨(.struct [(0,3),(1,3),(2,4),(3,3),(4,3),(5,3),(6,3),(7,3),(8,23),(9,9),(10,3)]),[.t (.v (.int .i64 0)),.t (.v (.int .i64 0)),.b false,.t (.v (.int .i64 0)),.t (.v (.int .i64 0)),.t (.v (.int .i64 0)),.t (.v (.int .i64 0)),.t (.v (.int .i64 0)),.own [false] [],.s ⟨#[]⟩,.t (.v (.int .i64 0))],112⟩ .nil)) 111 ⟨(.int .u64),[.t (.v (.int .u64 0))],8⟩ (.node (.node .nil 113 ⟨(.struct [(0,22),(1,3)]),[.own [false] [],.t (.v (.int .i64 0))],32⟩ .nil) 114 ⟨(.struct [(0,22),(1,3)]),[.own [false] [],.t (.v (.int .i64 0))],32⟩ (.node .nil 117 ⟨(.map 9 4),[.t (.v (.map none))],8⟩ .nil)))) 119 ⟨(.ptr 30),[.t (.v (.pointer none))],8⟩ (.node (.node (.node (.node (.node .nil 127 ⟨(.ptr 49),[.t (.v (.pointer none))],8⟩ .nil) 131 ⟨(.ptr 101),[.t (.v (.pointer none))],8⟩ .nil) 137 ⟨(.slice 59),[.own [false,false,false,false,false,false,false,true] []],24⟩ (.node .nil 139 ⟨(.struct [(0,101),(11,137)]),[.t (.v (.int .i64 0)),.t (.v (.int .i64 0)),.b false,.t (.v (.int .i64 0)),.t (.v (.int .i64 0)),.t (.v (.int .i64 0)),.t (.v (.int .i64 0)),.t (.v (.int .i64 0)),.own [false] [],.s ⟨#[]⟩,.t (.v (.int .i64 0)),.own [false,false,false,false,false,false,false,true] []],136⟩ .nil)) 140 ⟨(.struct [(0,101),(11,137)]),[.t (.v (.int .i64 0)),.t (.v (.int .i64 0)),.b false,.t (.v (.int .i64 0)),.t (.v (.int .i64 0)),.t (.v (.int .i64 0)),.t (.v (.int .i64 0)),.t (.v (.int .i64 0)),.own [false] [],.s ⟨#[]⟩,.t (.v (.int .i64 0)),.own [false,false,false,false,false,false,false,true] []],136⟩ (.node (.node (.node .nil 146 ⟨(.int .u64),[.t (.v (.int .u64 0))],8⟩ .nil) 147 ⟨(.int .u64),[.t (.v (.int .u64 0))],8⟩ .nil) 159 ⟨(.ptr 79),[.t (.v (.pointer none))],8⟩ (.node .nil 161 ⟨(.ptr 147),[.t (.v (.pointer none))],8⟩ .nil))) 163 ⟨(.struct [(0,30),(12,137)]),[.t (.v (.int .i64 0)),.b false,.t (.v (.int .i64 0)),.t (.v (.int .i64 0)),.t (.v (.int .i64 0)),.t (.v (.int .i64 0)),.own [false] [],.own [false] [],.own [false] [],.own [false,false,false] [],.own [false,false] [],.own [false,false,false] [],.own [false,false,false,false,false,false,false,true] []],216⟩ (.node (.node (.node (.node .nil 164 ⟨(.struct [(0,30),(12,137)]),[.t (.v (.int .i64 0)),.b false,.t (.v (.int .i64 0)),.t (.v (.int .i64 0)),.t (.v (.int .i64 0)),.t (.v (.int .i64 0)),.own [false] [],.own [false] [],.own [false] [],.own [false,false,false] [],.own [false,false] [],.own [false,false,false] [],.own [false,false,false,false,false,false,false,true] []],216⟩ .nil) 176 ⟨(.struct [(0,17),(1,17),(2,17),(3,9)]),[.t (.v (.pointer none)),.t (.v (.pointer none)),.t (.v (.pointer none)),.s ⟨#[]⟩],40⟩ .nil) 182 ⟨(.int .u32),[.t (.v (.int .u32 0))],4⟩ (.node .nil 183 ⟨(.int .u8),[.t (.v (.int .u8 0))],1⟩ .nil)) 184 ⟨(.int .u8),[.t (.v (.int .u8 0))],1⟩ (.node (.node .nil 186 ⟨(.ptr 5),[.t (.v (.pointer none))],8⟩ .nil) 187 ⟨(.int .i32),[.t (.v (.int .i32 0))],4⟩ (.node .nil 188 ⟨(.int .i32),[.t (.v (.int .i32 0))],4⟩ .nil))))))
set_option maxRecDepth 10000 in
theorem Ra:EnvOk Try.prog E:=by
 unfold E
 repeat (first|exact EnvOk.nil|refine EnvOk.node ?_ ⟨by kernel_rfl,by kernel_rfl,by simp,by simp[vW,sc],by simp[Ty.agg],by simp,by simp,by simp⟩ ?_)
def md(f:FuncId):List Md:=(bif Nat.blt f 67 then(bif Nat.blt f 35 then(bif Nat.blt f 19 then(bif Nat.blt f 11 then(bif Nat.blt f 7 then(bif Nat.blt f 5 then(bif Nat.blt f 4 then [.v]else [.v,.v])else(bif Nat.blt f 6 then [.v,.v]else [.v]))else(bif Nat.blt f 9 then(bif Nat.blt f 8 then [.v,.v]else [.v,.v])else(bif Nat.blt f 10 then [.v,.v]else [.v,.v,.v])))else(bif Nat.blt f 15 then(bif Nat.blt f 13 then(bif Nat.blt f 12 then [.v,.v]else [.v,.v])else(bif Nat.blt f 14 then [.v,.v,.v]else [.v,.v]))else(bif Nat.blt f 17 then(bif Nat.blt f 16 then [.v,.v]else [.v,.v])else(bif Nat.blt f 18 then [.v]else [.v,.v,.v]))))else(bif Nat.blt f 27 then(bif Nat.blt f 23 then(bif Nat.blt f 21 then(bif Nat.blt f 20 then [.v]else [.v])else(bif Nat.blt f 22 then [.v,.v]else [.v,.v]))else(bif Nat.blt f 25 then(bif Nat.blt f 24 then [.v,.v,.v,.v]else [.v,.v])else(bif Nat.blt f 26 then [.v]else [.v])))else(bif Nat.blt f 31 then(bif Nat.blt f 29 then(bif Nat.blt f 28 then [.v,.v]else [.v])else(bif Nat.blt f 30 then [.p]else [.p,.v]))else(bif Nat.blt f 33 then(bif Nat.blt f 32 then [.v,.v,.v]else [.v])else(bif Nat.blt f 34 then [.v]else [.v,.v])))))else(bif Nat.blt f 51 then(bif Nat.blt f 43 then(bif Nat.blt f 39 then(bif Nat.blt f 37 then(bif Nat.blt f 36 then [.v]else [.v,.v,.v])else(bif Nat.blt f 38 then [.v]else [.v,.v]))else(bif Nat.blt f 41 then(bif Nat.blt f 40 then [.v]else [.p,.v])else(bif Nat.blt f 42 then [.p,.v]else [.v,.v])))else(bif Nat.blt f 47 then(bif Nat.blt f 45 then(bif Nat.blt f 44 then [.v]else [.v])else(bif Nat.blt f 46 then [.v]else [.v,.v,.v]))else(bif Nat.blt f 49 then(bif Nat.blt f 48 then [.p]else [.p,.mv])else(bif Nat.blt f 50 then [.v]else [.v]))))else(bif Nat.blt f 59 then(bif Nat.blt f 55 then(bif Nat.blt f 53 then(bif Nat.blt f 52 then [.p]else [.v])else(bif Nat.blt f 54 then [.v]else [.p,.v]))else(bif Nat.blt f 57 then(bif Nat.blt f 56 then [.v,.v]else [.p])else(bif Nat.blt f 58 then [.p,.v]else [.v])))else(bif Nat.blt f 63 then(bif Nat.blt f 61 then(bif Nat.blt f 60 then [.v,.v]else [.v,.v])else(bif Nat.blt f 62 then [.v]else [.p]))else(bif Nat.blt f 65 then(bif Nat.blt f 64 then [.p]else [.p,.mv])else(bif Nat.blt f 66 then [.v]else [.v]))))))else(bif Nat.blt f 99 then(bif Nat.blt f 83 then(bif Nat.blt f 75 then(bif Nat.blt f 71 then(bif Nat.blt f 69 then(bif Nat.blt f 68 then [.v]else [.v])else(bif Nat.blt f 70 then [.v]else [.v]))else(bif Nat.blt f 73 then(bif Nat.blt f 72 then [.v]else [.v])else(bif Nat.blt f 74 then [.v,.v]else [.v])))else(bif Nat.blt f 79 then(bif Nat.blt f 77 then(bif Nat.blt f 76 then [.v]else [.v])else(bif Nat.blt f 78 then [.v,.v]else [.v,.v]))else(bif Nat.blt f 81 then(bif Nat.blt f 80 then [.v,.v]else [.v,.v,.v,.v])else(bif Nat.blt f 82 then [.p,.v]else [.v]))))else(bif Nat.blt f 91 then(bif Nat.blt f 87 then(bif Nat.blt f 85 then(bif Nat.blt f 84 then [.v]else [.v])else(bif Nat.blt f 86 then [.v]else [.v]))else(bif Nat.blt f 89 then(bif Nat.blt f 88 then [.p,.v]else [.mv,.v])else(bif Nat.blt f 90 then [.v,.v,.v]else [.p,.v,.v])))else(bif Nat.blt f 95 then(bif Nat.blt f 93 then(bif Nat.blt f 92 then [.mv,.v,.v]else [.v])else(bif Nat.blt f 94 then [.p,.v]else [.v]))else(bif Nat.blt f 97 then(bif Nat.blt f 96 then [.v]else [.v])else(bif Nat.blt f 98 then [.v,.v,.v]else [.mv,.v])))))else(bif Nat.blt f 115 then(bif Nat.blt f 107 then(bif Nat.blt f 103 then(bif Nat.blt f 101 then(bif Nat.blt f 100 then [.mv,.v]else [.mv])else(bif Nat.blt f 102 then [.v]else [.p]))else(bif Nat.blt f 105 then(bif Nat.blt f 104 then [.v]else [.v,.v])else(bif Nat.blt f 106 then [.v]else [.v,.v])))else(bif Nat.blt f 111 then(bif Nat.blt f 109 then(bif Nat.blt f 108 then [.v,.v]else [.v,.v])else(bif Nat.blt f 110 then [.v,.v]else [.p,.v,.v,.r 0]))else(bif Nat.blt f 113 then(bif Nat.blt f 112 then [.v,.v]else [.v,.v])else(bif Nat.blt f 114 then [.v,.v,.v,.v]else [.v]))))else(bif Nat.blt f 123 then(bif Nat.blt f 119 then(bif Nat.blt f 117 then(bif Nat.blt f 116 then [.v]else [.v,.v])else(bif Nat.blt f 118 then [.v,.v]else [.v,.v,.v]))else(bif Nat.blt f 121 then(bif Nat.blt f 120 then [.v,.v,.v]else [.v,.v])else(bif Nat.blt f 122 then [.v,.v]else [.v,.v,.v])))else(bif Nat.blt f 127 then(bif Nat.blt f 125 then(bif Nat.blt f 124 then [.v]else [.v])else(bif Nat.blt f 126 then [.p]else [.v,.v]))else(bif Nat.blt f 129 then(bif Nat.blt f 128 then [.mv,.v]else [.mv,.v,.v])else(bif Nat.blt f 130 then [.mv,.v]else(bif Nat.blt f 131 then [.v,.v]else [.v]))))))))
def sq(t:TypeId):Bool:=Nat.beq t 79||Nat.beq t 81||Nat.beq t 86
theorem SX:∀ t,sq t = true→SqOk Try.prog t:=by
 intro t h
 simp only[sq,Bool.or_eq_true,Nat.beq_eq]at h
 rcases h with(rfl|rfl)|rfl
 all_goals exact⟨by kernel_rfl,by kernel_rfl,by kernel_rfl,by kernel_rfl⟩
def F(f:FuncId)(xs:List A)(res:V)(outs:List (List V)):Prop:=Enters Try.prog f∧Tm.Fn Try.prog f xs res outs
def C:Cx:=⟨E,F,md,sq⟩
theorem Rb:CxOk Try.prog C:=⟨Ra,SX,fun _ _ _ _ h=>h⟩
variable {nt id:Nat} {ops:Array Oper} {y:Code} {H:HD} {Q:Exit→HD→Prop}
theorem g(lo hi:Nat)(ans:List Ans)(h:Il C nt ops ops.toList ans H fun p H=>nd lo hi H fun H=>p∧W Try.prog nt y H Q):W Try.prog nt (.seq (.region id ops false) y) H Q:=W.sg Rb lo hi ans h
theorem rg(ans:List Ans)(h:Il C nt ops ops.toList ans H fun p H=>p∧Q .normal H):W Try.prog nt (.region id ops false) H Q:=W.rg Rb ans h
theorem QG:Try.prog.follows .mixedOrders = true:=by kernel_rfl
theorem gd(lo hi:Nat)(ans:List (List Ans))(h:Im C nt ops ops.toList ans H fun p r H=>nd lo hi H fun H=>p∧IX ops.toList r = true∧W Try.prog nt y H Q):W Try.prog nt (.seq (.region id ops true) y) H Q:=W.sgD Rb QG lo hi ans h
theorem rgd(ans:List (List Ans))(h:Im C nt ops ops.toList ans H fun p r H=>p∧IX ops.toList r = true∧Q .normal H):W Try.prog nt (.region id ops true) H Q:=W.rgD Rb QG ans h
abbrev Q1(res:V)(outs:List (List V)):V→List (List V)→Prop:=fun r o=>r = res∧o = outs
def IT(i nt:Nat)(f:Func)(rs:List Rs):Prop:=∀ {xs:List A} {res:V} {outs:List (List V)} (hrun:kj (KH nt xs) fun H=>W Try.prog nt (pB f) H (EndsW nt E rs xs (Q1 res outs))) (h:(HU xs && Nat.ble xs.length nt) = true:=by rfl),F i xs res outs
def XT(i nt:Nat)(f:Func)(rs:List Rs):Prop:=∀ {xs:List A} {R:V→List (List V)→Prop} (hrun:kj (KH nt xs) fun H=>W Try.prog nt (pB f) H (EndsW nt E rs xs R)) (h:(HU xs && Nat.ble xs.length nt) = true:=by rfl),∃ res outs,R res outs∧F i xs res outs
theorem iM {i nt : Nat} {f : Func} {rs : List Rs} (hf : Try.prog.funcs[i]? = some f) (hb : f.body = some (pB f)) (hnt : f.ntmps = nt) (hrs : f.results = (rs.map lA).toArray) (h1 : (f.name == "runtime.NumGoroutine") = false ) (h2 : f.body.isNone = false) : IT i nt f rs := @fun _ _ _ hrun h => ⟨⟨f, hf, h1, h2⟩, Fn.one hf hb hnt Ra hrs h hrun⟩
theorem xM {i nt : Nat} {f : Func} {rs : List Rs} (hf : Try.prog.funcs[i]? = some f) (hb : f.body = some (pB f)) (hnt : f.ntmps = nt) (hrs : f.results = (rs.map lA).toArray) (h1 : (f.name == "runtime.NumGoroutine") = false ) (h2 : f.body.isNone = false) : XT i nt f rs := @fun _ _ hrun h => by obtain ⟨r, o, q1, q2⟩ := Fn.any hf hb hnt Ra hrs h hrun; exact ⟨r, o, q1, ⟨f, hf, h1, h2⟩, q2⟩
theorem RT{p q:Prop}(h:q)(f:Box q→p:=by
 intro h
 refine W.ret ?_
 refine EndsW.rt ?_
 conv=>whnf
 refine J (by repeat' first|exact I|refine J ?_ ?_) (J ?_ rfl)
 exact h.out):p:=f ⟨h⟩
abbrev vm:FuncId:=4
theorem ff:IT 4 141 Try.f4 [(4,4,false)]:=@iM _ _ _ _ Try.func4 rfl rfl rfl KR KR
abbrev kB:FuncId:=7
theorem kH:IT 7 219 Try.f7 [(4,4,false)]:=@iM _ _ _ _ Try.func7 rfl rfl rfl KR KR
abbrev kC:FuncId:=8
theorem kI:IT 8 281 Try.f8 [(4,4,false)]:=@iM _ _ _ _ Try.func8 rfl rfl rfl KR KR
abbrev oZ:FuncId:=14
theorem kh:IT 14 92 Try.f14 [(4,41,true)]:=@iM _ _ _ _ Try.func14 rfl rfl rfl KR KR
abbrev oY:FuncId:=16
theorem kf:IT 16 102 Try.f16 [(4,41,true)]:=@iM _ _ _ _ Try.func16 rfl rfl rfl KR KR
abbrev sU:FuncId:=17
abbrev vo:FuncId:=18
theorem fg:IT 18 46 Try.f18 [(6,49,true)]:=@iM _ _ _ _ Try.func18 rfl rfl rfl KR KR
abbrev sV:FuncId:=19
theorem tq:IT 19 120 Try.f19 [(2,3,false)]:=@iM _ _ _ _ Try.func19 rfl rfl rfl KR KR
abbrev qY:FuncId:=20
abbrev Js:FuncId:=21
theorem Ar:IT 21 14 Try.f21 [(4,49,true)]:=@iM _ _ _ _ Try.func21 rfl rfl rfl KR KR
abbrev pI:FuncId:=22
theorem fj:IT 22 81 Try.f22 [(4,59,true),(5,4,false)]:=@iM _ _ _ _ Try.func22 rfl rfl rfl KR KR
abbrev Bg:FuncId:=23
theorem Bt:IT 23 54 Try.f23 [(8,4,false)]:=@iM _ _ _ _ Try.func23 rfl rfl rfl KR KR
abbrev Dc:FuncId:=24
theorem uJ:IT 24 38 Try.f24 [(4,49,true)]:=@iM _ _ _ _ Try.func24 rfl rfl rfl KR KR
abbrev qX:FuncId:=25
theorem rk:IT 25 96 Try.f25 [(2,4,false)]:=@iM _ _ _ _ Try.func25 rfl rfl rfl KR KR
abbrev pP:FuncId:=27
theorem cB:IT 27 107 Try.f27 [(4,59,true),(5,4,false)]:=@iM _ _ _ _ Try.func27 rfl rfl rfl KR KR
abbrev yM:FuncId:=28
theorem zj:IT 28 11 Try.f28 [(2,71,false)]:=@iM _ _ _ _ Try.func28 rfl rfl rfl KR KR
abbrev eH:FuncId:=30
abbrev C4:FuncId:=31
theorem Dl:IT 31 15 Try.f31 [(6,4,false)]:=@iM _ _ _ _ Try.func31 rfl rfl rfl KR KR
abbrev Bc:FuncId:=32
theorem Bq:IT 32 10 Try.f32 [(2,23,false)]:=@iM _ _ _ _ Try.func32 rfl rfl rfl KR KR
abbrev sQ:FuncId:=33
theorem tm:IT 33 5 Try.f33 [(2,4,false)]:=@iM _ _ _ _ Try.func33 rfl rfl rfl KR KR
abbrev va:FuncId:=34
theorem vz:IT 34 96 Try.f34 [(4,4,false)]:=@iM _ _ _ _ Try.func34 rfl rfl rfl KR KR
abbrev tb:FuncId:=35
theorem tB:IT 35 91 Try.f35 [(2,3,false)]:=@iM _ _ _ _ Try.func35 rfl rfl rfl KR KR
abbrev yQ:FuncId:=36
theorem zk:IT 36 15 Try.f36 [(6,4,false)]:=@iM _ _ _ _ Try.func36 rfl rfl rfl KR KR
abbrev nT:FuncId:=37
theorem nV:IT 37 11 Try.f37 [(2,23,false)]:=@iM _ _ _ _ Try.func37 rfl rfl rfl KR KR
abbrev Bj:FuncId:=38
theorem Bw:IT 38 19 Try.f38 [(4,4,false)]:=@iM _ _ _ _ Try.func38 rfl rfl rfl KR KR
abbrev kD:FuncId:=39
theorem tC:IT 39 33 Try.f39 [(2,30,true)]:=@iM _ _ _ _ Try.func39 rfl rfl rfl KR KR
abbrev te:FuncId:=40
theorem kJ:IT 40 42 Try.f40 []:=@iM _ _ _ _ Try.func40 rfl rfl rfl KR KR
abbrev gy:FuncId:=41
theorem eJ:IT 41 74 Try.f41 []:=@iM _ _ _ _ Try.func41 rfl rfl rfl KR KR
abbrev sX:FuncId:=44
theorem tu:IT 44 36 Try.f44 [(2,93,true),(3,4,false)]:=@iM _ _ _ _ Try.func44 rfl rfl rfl KR KR
abbrev sR:FuncId:=45
theorem tn:IT 45 32 Try.f45 [(2,93,true),(3,4,false)]:=@iM _ _ _ _ Try.func45 rfl rfl rfl KR KR
abbrev yG:FuncId:=46
theorem ze:IT 46 29 Try.f46 [(6,4,false)]:=@iM _ _ _ _ Try.func46 rfl rfl rfl KR KR
abbrev kc:FuncId:=47
abbrev iV:FuncId:=48
abbrev sY:FuncId:=49
theorem tz:IT 49 26 Try.f49 [(2,33,true)]:=@iM _ _ _ _ Try.func49 rfl rfl rfl KR KR
abbrev vd:FuncId:=50
theorem vA:IT 50 28 Try.f50 [(2,4,false)]:=@iM _ _ _ _ Try.func50 rfl rfl rfl KR KR
abbrev iU:FuncId:=51
abbrev rf:FuncId:=52
theorem rp:IT 52 87 Try.f52 [(2,4,false)]:=@iM _ _ _ _ Try.func52 rfl rfl rfl KR KR
abbrev ra:FuncId:=53
theorem rm:IT 53 36 Try.f53 [(2,49,true)]:=@iM _ _ _ _ Try.func53 rfl rfl rfl KR KR
abbrev vn:FuncId:=54
theorem aX:IT 54 131 Try.f54 []:=@iM _ _ _ _ Try.func54 rfl rfl rfl KR KR
abbrev pJ:FuncId:=55
theorem fk:IT 55 23 Try.f55 [(4,9,false)]:=@iM _ _ _ _ Try.func55 rfl rfl rfl KR KR
abbrev rb:FuncId:=56
theorem jF:IT 56 62 Try.f56 []:=@iM _ _ _ _ Try.func56 rfl rfl rfl KR KR
abbrev iH:FuncId:=57
theorem aZ:IT 57 65 Try.f57 []:=@iM _ _ _ _ Try.func57 rfl rfl rfl KR KR
abbrev pH:FuncId:=58
theorem pT:IT 58 129 Try.f58 [(2,4,false)]:=@iM _ _ _ _ Try.func58 rfl rfl rfl KR KR
abbrev C8:FuncId:=60
theorem Dp:IT 60 13 Try.f60 [(4,9,false)]:=@iM _ _ _ _ Try.func60 rfl rfl rfl KR KR
abbrev m7:FuncId:=61
theorem m9:IT 61 108 Try.f61 [(2,4,false)]:=@iM _ _ _ _ Try.func61 rfl rfl rfl KR KR
abbrev Bk:FuncId:=65
theorem Bx:IT 65 28 Try.f65 [(2,4,false)]:=@iM _ _ _ _ Try.func65 rfl rfl rfl KR KR
abbrev Bl:FuncId:=66
theorem Bz:IT 66 6 Try.f66 [(2,23,false)]:=@iM _ _ _ _ Try.func66 rfl rfl rfl KR KR
abbrev sZ:FuncId:=67
theorem tA:IT 67 24 Try.f67 [(2,9,false)]:=@iM _ _ _ _ Try.func67 rfl rfl rfl KR KR
abbrev sS:FuncId:=68
theorem tp:IT 68 25 Try.f68 [(2,9,false)]:=@iM _ _ _ _ Try.func68 rfl rfl rfl KR KR
abbrev pR:FuncId:=70
theorem pW:IT 70 31 Try.f70 [(2,4,false)]:=@iM _ _ _ _ Try.func70 rfl rfl rfl KR KR
abbrev rG:FuncId:=71
theorem rL:IT 71 26 Try.f71 [(2,9,false)]:=@iM _ _ _ _ Try.func71 rfl rfl rfl KR KR
abbrev yL:FuncId:=72
theorem zi:IT 72 34 Try.f72 [(2,33,true)]:=@iM _ _ _ _ Try.func72 rfl rfl rfl KR KR
abbrev kb:FuncId:=73
abbrev pO:FuncId:=74
theorem pV:IT 74 124 Try.f74 [(2,4,false)]:=@iM _ _ _ _ Try.func74 rfl rfl rfl KR KR
abbrev yS:FuncId:=75
theorem zm:IT 75 6 Try.f75 [(2,47,false)]:=@iM _ _ _ _ Try.func75 rfl rfl rfl KR KR
abbrev pK:FuncId:=76
theorem pU:IT 76 8 Try.f76 [(2,101,true)]:=@iM _ _ _ _ Try.func76 rfl rfl rfl KR KR
abbrev Bi:FuncId:=77
theorem Bv:IT 77 15 Try.f77 [(4,4,false)]:=@iM _ _ _ _ Try.func77 rfl rfl rfl KR KR
abbrev Db:FuncId:=78
theorem Ds:IT 78 20 Try.f78 [(4,47,false)]:=@iM _ _ _ _ Try.func78 rfl rfl rfl KR KR
abbrev yT:FuncId:=79
theorem pi:IT 79 24 Try.f79 [(4,47,false)]:=@iM _ _ _ _ Try.func79 rfl rfl rfl KR KR
abbrev Dd:FuncId:=80
theorem nB:IT 80 53 Try.f80 [(8,47,false)]:=@iM _ _ _ _ Try.func80 rfl rfl rfl KR KR
abbrev ig:FuncId:=81
theorem ik:IT 81 19 Try.f81 [(4,131,false)]:=@iM _ _ _ _ Try.func81 rfl rfl rfl KR KR
abbrev re:FuncId:=82
theorem ro:IT 82 11 Try.f82 [(2,101,true)]:=@iM _ _ _ _ Try.func82 rfl rfl rfl KR KR
abbrev rd:FuncId:=83
theorem jG:IT 83 22 Try.f83 [(2,101,true)]:=@iM _ _ _ _ Try.func83 rfl rfl rfl KR KR
abbrev C3:FuncId:=84
theorem Dk:IT 84 120 Try.f84 [(2,4,false)]:=@iM _ _ _ _ Try.func84 rfl rfl rfl KR KR
abbrev yK:FuncId:=85
theorem zh:IT 85 67 Try.f85 [(2,9,false)]:=@iM _ _ _ _ Try.func85 rfl rfl rfl KR KR
abbrev Bd:FuncId:=86
theorem Br:IT 86 35 Try.f86 [(2,9,false)]:=@iM _ _ _ _ Try.func86 rfl rfl rfl KR KR
abbrev tc:FuncId:=87
theorem gz:IT 87 246 Try.f87 [(4,137,false)]:=@iM _ _ _ _ Try.func87 rfl rfl rfl KR KR
abbrev pL:FuncId:=88
theorem aO:IT 88 75 Try.f88 [(4,140,true)]:=@iM _ _ _ _ Try.func88 rfl rfl rfl KR KR
abbrev Da:FuncId:=89
theorem Dr:IT 89 44 Try.f89 [(6,47,false)]:=@iM _ _ _ _ Try.func89 rfl rfl rfl KR KR
abbrev td:FuncId:=90
theorem bM:IT 90 131 Try.f90 []:=@iM _ _ _ _ Try.func90 rfl rfl rfl KR KR
abbrev pN:FuncId:=91
theorem aP:IT 91 95 Try.f91 [(6,101,true)]:=@iM _ _ _ _ Try.func91 rfl rfl rfl KR KR
abbrev qS:FuncId:=92
theorem ri:IT 92 19 Try.f92 [(2,4,false)]:=@iM _ _ _ _ Try.func92 rfl rfl rfl KR KR
abbrev qZ:FuncId:=93
theorem rl:IT 93 22 Try.f93 []:=@iM _ _ _ _ Try.func93 rfl rfl rfl KR KR
abbrev sW:FuncId:=94
theorem tt:IT 94 23 Try.f94 [(2,9,false)]:=@iM _ _ _ _ Try.func94 rfl rfl rfl KR KR
abbrev yR:FuncId:=95
theorem zl:IT 95 18 Try.f95 [(2,4,false)]:=@iM _ _ _ _ Try.func95 rfl rfl rfl KR KR
abbrev C2:FuncId:=103
theorem Dj:IT 103 33 Try.f103 [(2,4,false)]:=@iM _ _ _ _ Try.func103 rfl rfl rfl KR KR
abbrev nS:FuncId:=104
theorem nU:IT 104 13 Try.f104 [(4,101,true)]:=@iM _ _ _ _ Try.func104 rfl rfl rfl KR KR
abbrev yJ:FuncId:=105
theorem zg:IT 105 16 Try.f105 [(2,4,false),(3,4,false),(4,4,false),(5,4,false),(6,4,false)]:=@iM _ _ _ _ Try.func105 rfl rfl rfl KR KR
abbrev C9:FuncId:=106
theorem Dq:IT 106 23 Try.f106 [(4,23,false)]:=@iM _ _ _ _ Try.func106 rfl rfl rfl KR KR
abbrev Bm:FuncId:=107
theorem BA:IT 107 22 Try.f107 [(4,9,false)]:=@iM _ _ _ _ Try.func107 rfl rfl rfl KR KR
abbrev pM:FuncId:=108
theorem fm:IT 108 26 Try.f108 [(4,59,true)]:=@iM _ _ _ _ Try.func108 rfl rfl rfl KR KR
abbrev pQ:FuncId:=109
theorem fo:IT 109 77 Try.f109 [(4,9,false)]:=@iM _ _ _ _ Try.func109 rfl rfl rfl KR KR
abbrev pS:FuncId:=110
theorem bi:IT 110 162 Try.f110 []:=@iM _ _ _ _ Try.func110 rfl rfl rfl KR KR
end Go.K
end
section
open Go Go.Tm Go.Proofs
namespace Go.K
structure Entry where
 kind:Int
 epoch:Int
 task:Int
 text:ByteArray
 deriving DecidableEq
abbrev pn(k ep ta:Int)(tx:ByteArray):V:=.agg [.t (.i k),.t (.i ep),.t (.i ta),.t (.s tx)]
abbrev Entry.v(e:Entry):V:=pn e.kind e.epoch e.task e.text
theorem ac(x lo hi:Int):F yQ [.val (.i x),.val (.i lo),.val (.i hi)] (.b (decide (lo≤x∧x≤hi))) [[],[],[]]:=by
 refine zk ?_
 conv=>whnf
 refine g 0 0 []<|J UA ?_
 by_cases h1:lo≤x
 refine g 7 15 [BT,BT,BT,BT]<|J Zcb<|RT ?_
 exact vbd OM
 refine g 7 15 [BF,BF,BF,BF]<|J Zc7<|RT ?_
 exact vbf OM
theorem ag(x lo hi:Int):F C4 [.val (.i x),.val (.i lo),.val (.i hi)] (.b (decide (lo≤x∧x≤hi))) [[],[],[]]:=by
 refine Dl ?_
 conv=>whnf
 refine g 0 0 []<|J UA ?_
 by_cases h1:lo≤x
 refine g 7 15 [BT,BT,BT,BT]<|J Zcb<|RT ?_
 exact vbd OM
 refine g 7 15 [BF,BF,BF,BF]<|J Zc7<|RT ?_
 exact vbf OM
end Go.K
end
section
open Go Go.Tm Go.Proofs
namespace Go.K
def Entry.ok(e:Entry):Prop:=(1≤e.epoch∧e.epoch≤300)∧(0≤e.task∧e.task≤39)∧((e.kind = 1∧e.task = 0∧e.text = ⟨#[]⟩)∨(e.kind = 2∧(e.text.size:Int) = 8))
instance (e:Entry):Decidable e.ok:=by unfold Entry.ok;infer_instance
theorem iK(k ep ta:Int)(tx:ByteArray):F pR [.val (pn k ep ta tx)] (.b (decide (Entry.ok ⟨k,ep,ta,tx⟩))) [[]]:=by
 refine pW ?_
 conv=>whnf
 refine g 0 1 []<|J ⟨UD,I,I⟩<|W.sq ?_
 by_cases h1:(1:Int)≤ep∧ep≤(300:Int)
 refine g 5 12 [.call (V.b (decide (1≤ep∧ep≤300))) [[],[],[]],BF,BF,BF,.call (V.b (decide (0≤ta∧ta≤39))) [[],[],[]],BF,BF]<|J ⟨I,I,⟨UC,I,UU,UA,ac _ _ _⟩,I,I,⟨nO,I⟩,⟨nO,I⟩,⟨nO,UC,I,UU,UA,ac _ _ _⟩,⟨nO,I⟩,nO,I⟩<|W.cn<|J (fun h2=>?_) fun h2=>?_
 replace h2:=ndt h2
 refine g 12 13 []<|J UA<|RT ?_
 rotate_left
 replace h2:=ndf h2
 refine W.skip<|W.sq<|g 12 14 []<|J UB<|W.blk<|g 16 17 []<|J UB<|W.cn<|J (fun h3=>?_) fun h3=>?_
 replace h3:=dt h3
 by_cases h4:ta = (0:Int)
 refine g 14 25 [BT,BT,BT,BT]<|J Zcb<|RT ?_
 rotate_left
 refine g 14 25 [BF,BF,BF,BF]<|J Zc7<|RT ?_
 rotate_left
 replace h3:=df h3
 refine g 14 16 []<|J UB<|W.cn<|J (fun h4=>?_) fun h4=>?_
 replace h4:=dt h4
 refine g 25 31 []<|J UE<|RT ?_
 rotate_left
 replace h4:=df h4
 refine W.skip<|g 25 27 []<|J UA<|RT ?_
 rotate_left
 refine g 5 12 [.call (V.b (decide (1≤ep∧ep≤300))) [[],[],[]],BT,BT,BT,BT,BT]<|J ⟨I,I,⟨UC,I,UU,UA,ac _ _ _⟩,I,I,af OM,af OM,af OM,af OM,af OM,I⟩<|W.cn<|J (fun _=>(g 12 13 []<|J UA (RT ?_))) (noF rfl)
 rotate_left
 all_goals (first|exact vbt (by unfold Entry.ok;simp_all;done)|exact vbf (by unfold Entry.ok;simp_all;omega)|exact vbf (by unfold Entry.ok;simp_all)|exact vbd (by unfold Entry.ok;simp_all;done)|exact vbd (by unfold Entry.ok;simp_all;omega))
theorem DC(k ep ta:Int)(tx:ByteArray):F C2 [.val (pn k ep ta tx)] (.b (decide (Entry.ok ⟨k,ep,ta,tx⟩))) [[]]:=by
 refine Dj ?_
 conv=>whnf
 refine g 0 1 []<|J ⟨UD,I,I⟩<|W.sq ?_
 by_cases h1:(1:Int)≤ep∧ep≤(300:Int)
 refine g 5 12 [.call (V.b (decide (1≤ep∧ep≤300))) [[],[],[]],BF,BF,BF,.call (V.b (decide (0≤ta∧ta≤39))) [[],[],[]],BF,BF]<|J ⟨I,I,⟨UC,I,UU,UA,ag _ _ _⟩,I,I,⟨nO,I⟩,⟨nO,I⟩,⟨nO,UC,I,UU,UA,ag _ _ _⟩,⟨nO,I⟩,nO,I⟩<|W.cn<|J (fun h2=>?_) fun h2=>?_
 replace h2:=ndt h2
 refine g 12 13 []<|J UA<|RT ?_
 rotate_left
 replace h2:=ndf h2
 refine W.skip<|W.sq<|g 12 15 []<|J UC<|W.cn<|J (fun h3=>?_) fun h3=>?_
 replace h3:=dt h3
 by_cases h4:ta = (0:Int)
 refine g 15 24 [BT,BT,BT,BT]<|J Zcb<|RT ?_
 rotate_left
 refine g 15 24 [BF,BF,BF,BF]<|J Zc7<|RT ?_
 rotate_left
 replace h3:=df h3
 refine W.skip ?_
 by_cases h4:k = (2:Int)
 refine g 15 33 [BT,BT,BT,BT,BT]<|J ⟨I,I,I,I,⟨tO,I⟩,⟨tO,I⟩,⟨tO,I⟩,⟨tO,I⟩,tO,I,I⟩<|RT ?_
 rotate_left
 refine g 15 33 [BF,BF,BF,BF,BF]<|J ⟨I,I,I,I,dO,dO,dO,dO,dO,I,I⟩<|RT ?_
 rotate_left
 refine g 5 12 [.call (V.b (decide (1≤ep∧ep≤300))) [[],[],[]],BT,BT,BT,BT,BT]<|J ⟨I,I,⟨UC,I,UU,UA,ag _ _ _⟩,I,I,af OM,af OM,af OM,af OM,af OM,I⟩<|W.cn<|J (fun _=>(g 12 13 []<|J UA (RT ?_))) (noF rfl)
 rotate_left
 all_goals (first|exact vbt (by unfold Entry.ok;simp_all;done)|exact vbf (by unfold Entry.ok;simp_all;omega)|exact vbf (by unfold Entry.ok;simp_all)|exact vbd (by unfold Entry.ok;simp_all;done)|exact vbd (by unfold Entry.ok;simp_all;omega))
abbrev emp:ByteArray:=⟨#[]⟩
def bl(l:List Int):ByteArray:=⟨(l.map fun n=>UInt8.ofNat n.toNat).toArray⟩
def GG(e:Entry):ByteArray:=if e.ok then bl [IntKind.u8.wrap e.kind,IntKind.u8.wrap (e.epoch.fdiv 256),IntKind.u8.wrap e.epoch,IntKind.u8.wrap e.task] ++e.text else emp
theorem kO(k ep ta:Int)(tx:ByteArray)(ht:tx.size≤281474976710656):F sZ [.val (pn k ep ta tx)] (.s (GG ⟨k,ep,ta,tx⟩)) [[]]:=by
 refine tA ?_
 conv=>whnf
 refine g 0 0 []<|J ⟨UD,I,I⟩<|W.sq<|g 4 5 [.call (V.b (decide (Entry.ok {kind:=k,epoch:=ep,task:=ta,text:=tx:Entry}))) [[]]]<|J ⟨I,⟨UA,I,⟨UD,I⟩,UA,iK _ _ _ _⟩,I,I⟩<|W.cn<|J (fun h1=>?_) fun h1=>?_
 replace h1:=ndt h1
 refine g 5 6 []<|J UA<|RT ?_
 rotate_left
 replace h1:=ndf h1
 refine W.skip<|g 10 24 [.i (IntKind.wrap IntKind.u8 k),.i (Int.fdiv ep (2 ^ min (Int.toNat 8) (IntKind.bits IntKind.i64))),.i (IntKind.wrap IntKind.u8 (Int.fdiv ep (2 ^ min (Int.toNat 8) (IntKind.bits IntKind.i64)))),.i (IntKind.wrap IntKind.u8 ep),.i (IntKind.wrap IntKind.u8 ta),.s ({data:=List.toArray (bO [[T.v (Value.int IntKind.u8 (IntKind.wrap IntKind.u8 k))],[T.v (Value.int IntKind.u8 (IntKind.wrap IntKind.u8 (Int.fdiv ep (2 ^ min (Int.toNat 8) (IntKind.bits IntKind.i64)))))],[T.v (Value.int IntKind.u8 (IntKind.wrap IntKind.u8 ep))],[T.v (Value.int IntKind.u8 (IntKind.wrap IntKind.u8 ta))]]):ByteArray}),.s ({data:=List.toArray (bO [[T.v (Value.int IntKind.u8 (IntKind.wrap IntKind.u8 k))],[T.v (Value.int IntKind.u8 (IntKind.wrap IntKind.u8 (Int.fdiv ep (2 ^ min (Int.toNat 8) (IntKind.bits IntKind.i64)))))],[T.v (Value.int IntKind.u8 (IntKind.wrap IntKind.u8 ep))],[T.v (Value.int IntKind.u8 (IntKind.wrap IntKind.u8 ta))]]):ByteArray} ++tx)]<|J ⟨I,I,rfl,I,I,Zdr,rfl,I,I,rfl,I,I,rfl,Zda,⟨I,(by repeat (first|exact lq|refine ju ?_)),rfl⟩,I,I,⟨rfl,(by simp only[bsz,ByteArray.size_append,tf];omega)⟩,I,I⟩ ?_
 refine RT ?_
 rotate_left
 ·refine vs ?_
  simp only[GG,h1,if_false]
 ·refine vs ?_
  simp only[GG,h1,if_true];rfl
def cq(e:Entry):ByteArray:=if e.ok then bl [IntKind.u8.wrap e.kind,IntKind.u8.wrap (IntKind.i64.wrap (e.epoch.tdiv 256)),IntKind.u8.wrap (e.epoch.tmod 256),IntKind.u8.wrap e.task] ++e.text else emp
theorem gA(k ep ta:Int)(tx:ByteArray)(ht:tx.size≤281474976710656):F sS [.val (pn k ep ta tx)] (.s (cq ⟨k,ep,ta,tx⟩)) [[]]:=by
 refine tp ?_
 conv=>whnf
 refine g 0 0 []<|J ⟨UD,I,I⟩<|W.sq<|g 4 5 [.call (V.b (decide (Entry.ok {kind:=k,epoch:=ep,task:=ta,text:=tx:Entry}))) [[]]]<|J ⟨I,⟨UA,I,⟨UD,I⟩,UA,DC _ _ _ _⟩,I,I⟩<|W.cn<|J (fun h1=>?_) fun h1=>?_
 replace h1:=ndt h1
 refine g 5 6 []<|J UA<|RT ?_
 rotate_left
 replace h1:=ndf h1
 refine W.skip<|g 10 25 [.i (IntKind.wrap IntKind.u8 k),.i (IntKind.wrap IntKind.i64 (Int.tdiv ep 256)),.i (IntKind.wrap IntKind.u8 (IntKind.wrap IntKind.i64 (Int.tdiv ep 256))),.i (Int.tmod ep 256),.i (IntKind.wrap IntKind.u8 (Int.tmod ep 256)),.i (IntKind.wrap IntKind.u8 ta),.s ({data:=List.toArray (bO [[T.v (Value.int IntKind.u8 (IntKind.wrap IntKind.u8 k))],[T.v (Value.int IntKind.u8 (IntKind.wrap IntKind.u8 (IntKind.wrap IntKind.i64 (Int.tdiv ep 256))))],[T.v (Value.int IntKind.u8 (IntKind.wrap IntKind.u8 (Int.tmod ep 256)))],[T.v (Value.int IntKind.u8 (IntKind.wrap IntKind.u8 ta))]]):ByteArray}),.s ({data:=List.toArray (bO [[T.v (Value.int IntKind.u8 (IntKind.wrap IntKind.u8 k))],[T.v (Value.int IntKind.u8 (IntKind.wrap IntKind.u8 (IntKind.wrap IntKind.i64 (Int.tdiv ep 256))))],[T.v (Value.int IntKind.u8 (IntKind.wrap IntKind.u8 (Int.tmod ep 256)))],[T.v (Value.int IntKind.u8 (IntKind.wrap IntKind.u8 ta))]]):ByteArray} ++tx)]<|J ⟨I,I,rfl,I,I,Zdr,rfl,I,I,Zdr,rfl,I,I,rfl,Zda,⟨I,(by repeat (first|exact lq|refine ju ?_)),rfl⟩,I,I,⟨rfl,(by simp only[bsz,ByteArray.size_append,tf];omega)⟩,I,I⟩ ?_
 refine RT ?_
 rotate_left
 ·refine vs ?_
  simp only[cq,h1,if_false]
 ·refine vs ?_
  simp only[cq,h1,if_true];rfl
def byt(s:ByteArray)(i:Nat):Int:=((s[i]?).map (fun b=>(b.toNat:Int))).getD 0
def BU(x y:Int):Int:=IntKind.i64.wrap ↑(BitVec.ofInt IntKind.i64.bits x|||BitVec.ofInt IntKind.i64.bits y).toNat
def rdI(s:ByteArray):Entry:=⟨byt s 0,BU (IntKind.i64.wrap (byt s 1 * 256)) (byt s 2),byt s 3,s.extract 4 s.size⟩
def rdS(s:ByteArray):Entry:=⟨byt s 0,byt s 1 * 256+byt s 2,byt s 3,s.extract 4 s.size⟩
abbrev noE:Entry:=⟨0,0,0,emp⟩
abbrev kU(o:Option Entry):V:=match o with|some e=>.tup [e.v,.b true]|none=>.tup [noE.v,.b false]
def qp(s:ByteArray):Option Entry:=if(s.size:Int) < 4∨12 < (s.size:Int)then none else if(rdI s).ok then some (rdI s)else none
def dy(s:ByteArray):Option Entry:=if(s.size:Int) < 4 then none else if cq (rdS s) = s then some (rdS s)else none
theorem bm{s:ByteArray}{i:Nat}{c:UInt8}(h:s[i]? = some c):byt s i = (c.toNat:Int):=by simp[byt,h]
theorem tI(s:ByteArray)(ht:s.size≤281474976710656):F sX [.val (.s s)] (kU (qp s)) [[]]:=by
 refine tu ?_
 conv=>whnf
 refine g 0 0 []<|J UB<|W.sq ?_
 by_cases h1:(↑(ByteArray.size s):Int) < (4:Int)
 refine g 5 12 [BT,BT,BT,BT]<|J ⟨I,I,I,I,tO,tO,tO,tO,I⟩<|W.cn<|J (fun _=>(g 12 14 []<|J ⟨I,UD,I,I⟩ (RT ?_))) (noF rfl)
 rotate_left
 refine g 5 12 [BF,BF,BF,BF]<|J ⟨I,I,I,I,⟨dO,I⟩,⟨dO,I⟩,⟨dO,I⟩,dO,I⟩<|W.cn<|J (fun h2=>?_) fun h2=>?_
 replace h2:=dt h2
 refine g 12 14 []<|J ⟨I,UD,I,I⟩<|RT ?_
 rotate_left
 replace h2:=df h2
 refine W.skip ?_
 obtain⟨y1,hy1,hb1⟩:=bd (s:=s) (n:=(0:Nat)) OM
 obtain⟨y2,hy2,hb2⟩:=bd (s:=s) (n:=(1:Nat)) OM
 obtain⟨y3,hy3,hb3⟩:=bd (s:=s) (n:=(2:Nat)) OM
 obtain⟨y4,hy4,hb4⟩:=bd (s:=s) (n:=(3:Nat)) OM
 refine gd 12 27 [[],[.i ((↑(UInt8.toNat y1):Int))],[.i ((↑(UInt8.toNat y1):Int))],[],[.i ((↑(UInt8.toNat y2):Int))],[.i ((↑(UInt8.toNat y2):Int))],[.i (IntKind.wrap IntKind.i64 ((↑(UInt8.toNat y2):Int) * 2 ^ min (Int.toNat 8) (IntKind.bits IntKind.i64)))],[],[.i ((↑(UInt8.toNat y3):Int))],[.i ((↑(UInt8.toNat y3):Int))],[.i (IntKind.wrap IntKind.i64 (↑(BitVec.toNat (BitVec.ofInt (IntKind.bits IntKind.i64) (IntKind.wrap IntKind.i64 ((↑(UInt8.toNat y2):Int) * 2 ^ min (Int.toNat 8) (IntKind.bits IntKind.i64)))|||BitVec.ofInt (IntKind.bits IntKind.i64) (↑(UInt8.toNat y3):Int))):Int))],[],[.i ((↑(UInt8.toNat y4):Int))],[.i ((↑(UInt8.toNat y4):Int))],[],[.n (4),.s (ByteArray.extract s 4 (ByteArray.size s))],[],[],[]] ?_
 conv=>whnf
 refine J ⟨I,Zc2,w8 _,I,Zc2,w8 _,Zdr,I,Zc2,w8 _,rfl,I,Zc2,w8 _,I,⟨I,rfl,OM,OM,rfl⟩,I,I,UD,I⟩<|J KR<|W.sq<|g 28 33 [.call (V.b (decide (Entry.ok {kind:=(↑(UInt8.toNat y1):Int),epoch:=IntKind.wrap IntKind.i64 (↑(BitVec.toNat (BitVec.ofInt (IntKind.bits IntKind.i64) (IntKind.wrap IntKind.i64 ((↑(UInt8.toNat y2):Int) * 2 ^ min (Int.toNat 8) (IntKind.bits IntKind.i64)))|||BitVec.ofInt (IntKind.bits IntKind.i64) (↑(UInt8.toNat y3):Int))):Int),task:=(↑(UInt8.toNat y4):Int),text:=ByteArray.extract s 4 (ByteArray.size s):Entry}))) [[]]]<|J ⟨I,⟨UA,I,⟨UD,I⟩,UA,iK _ _ _ _⟩,I,I⟩<|W.cn<|J (fun h3=>?_) fun h3=>?_
 replace h3:=ndt h3
 refine g 33 35 []<|J ⟨I,UD,I,I⟩<|RT ?_
 rotate_left
 replace h3:=ndf h3
 refine W.skip<|g 33 36 []<|J ⟨I,UD,I,I⟩<|RT ?_
 rotate_left
 ·exact congrArg kU (show none = qp s by unfold qp;rw[if_pos OM])
 ·exact congrArg kU (show none = qp s by unfold qp;rw[if_pos OM])
 ·have e:rdI s = ⟨y1.toNat,BU (IntKind.i64.wrap ((y2.toNat:Int) * 256)) y3.toNat,y4.toNat,s.extract 4 s.size⟩:=by simp only[rdI,bm hy1,bm hy2,bm hy3,bm hy4]
  exact congrArg kU (show none = qp s by unfold qp;rw[if_neg OM,e];exact(if_neg h3).symm)
 ·have e:rdI s = ⟨y1.toNat,BU (IntKind.i64.wrap ((y2.toNat:Int) * 256)) y3.toNat,y4.toNat,s.extract 4 s.size⟩:=by simp only[rdI,bm hy1,bm hy2,bm hy3,bm hy4]
  exact congrArg kU (show some _ = qp s by unfold qp;rw[if_neg OM,e];exact(if_pos h3).symm)
theorem tG(s:ByteArray)(ht:s.size≤281474976710656):F sR [.val (.s s)] (kU (dy s)) [[]]:=by
 refine tn ?_
 conv=>whnf
 refine g 0 0 []<|J UB<|W.sq<|g 5 7 []<|J UC<|W.cn<|J (fun h1=>?_) fun h1=>?_
 replace h1:=dt h1
 refine g 7 9 []<|J ⟨I,UD,I,I⟩<|RT ?_
 rotate_left
 replace h1:=df h1
 refine W.skip ?_
 obtain⟨y1,hy1,hb1⟩:=bd (s:=s) (n:=(0:Nat)) OM
 obtain⟨y2,hy2,hb2⟩:=bd (s:=s) (n:=(1:Nat)) OM
 obtain⟨y3,hy3,hb3⟩:=bd (s:=s) (n:=(2:Nat)) OM
 obtain⟨y4,hy4,hb4⟩:=bd (s:=s) (n:=(3:Nat)) OM
 refine gd 7 26 [[],[.i ((↑(UInt8.toNat y1):Int))],[.i ((↑(UInt8.toNat y1):Int))],[],[.i ((↑(UInt8.toNat y2):Int))],[.i ((↑(UInt8.toNat y2):Int))],[.i ((↑(UInt8.toNat y2):Int) * 256)],[],[.i ((↑(UInt8.toNat y3):Int))],[.i ((↑(UInt8.toNat y3):Int))],[.i ((↑(UInt8.toNat y2):Int) * 256+ (↑(UInt8.toNat y3):Int))],[],[.i ((↑(UInt8.toNat y4):Int))],[.i ((↑(UInt8.toNat y4):Int))],[],[.n (4),.s (ByteArray.extract s 4 (ByteArray.size s))],[],[],[]] ?_
 conv=>whnf
 refine J ⟨I,Zc2,w8 _,I,Zc2,w8 _,wO,I,Zc2,w8 _,wO,I,Zc2,w8 _,I,⟨I,rfl,OM,OM,rfl⟩,I,I,UD,I⟩<|J KR<|W.sq<|g 0 1 [.call (V.s (cq {kind:=(↑(UInt8.toNat y1):Int),epoch:=(↑(UInt8.toNat y2):Int) * 256+ (↑(UInt8.toNat y3):Int),task:=(↑(UInt8.toNat y4):Int),text:=ByteArray.extract s 4 (ByteArray.size s):Entry})) [[]]]<|J ⟨I,⟨UA,I,⟨UD,I⟩,UA,gA _ _ _ _ (by simp only[ByteArray.size_extract];omega)⟩,I,I,I⟩<|W.cn<|J (fun h2=>?_) fun h2=>?_
 replace h2:=ndt h2
 refine g 28 31 []<|J ⟨I,UD,I,I⟩<|RT ?_
 rotate_left
 replace h2:=ndf h2
 refine W.skip<|g 28 32 []<|J ⟨I,UD,I,I⟩<|RT ?_
 rotate_left
 ·exact congrArg kU (show none = dy s by unfold dy;rw[if_pos OM])
 ·have e:rdS s = ⟨y1.toNat,(y2.toNat:Int) * 256+y3.toNat,y4.toNat,s.extract 4 s.size⟩:=by simp only[rdS,bm hy1,bm hy2,bm hy3,bm hy4]
  exact congrArg kU (show none = dy s by unfold dy;rw[if_neg OM,e];exact(if_neg h2).symm)
 ·have e:rdS s = ⟨y1.toNat,(y2.toNat:Int) * 256+y3.toNat,y4.toNat,s.extract 4 s.size⟩:=by simp only[rdS,bm hy1,bm hy2,bm hy3,bm hy4]
  exact congrArg kU (show some _ = dy s by unfold dy;rw[if_neg OM,e];exact(if_pos h2).symm)
end Go.K
end
section
open Go Go.Tm Go.Proofs
namespace Go.K
theorem Ib(e:Entry):GG e = cq e:=by
 unfold GG cq
 by_cases h:e.ok
 ·simp only[h,if_true]
  obtain⟨⟨h1,h2⟩,_⟩:=h
  have e1:e.epoch.fdiv 256 = e.epoch / 256:=Int.fdiv_eq_ediv_of_nonneg _ OM
  have e2:e.epoch.tdiv 256 = e.epoch / 256:=Int.tdiv_eq_ediv_of_nonneg OM
  have e3:e.epoch.tmod 256 = e.epoch % 256:=Int.tmod_eq_emod_of_nonneg OM
  have e4:IntKind.u8.wrap e.epoch = e.epoch % 256:=by simp[IntKind.wrap,IntKind.bits,IntKind.signed]
  rw[e1,e2,e3,wO,e4,wu8 (z:=e.epoch % 256) OM OM]
 ·simp only[h,if_false]
end Go.K
namespace Go.K
end Go.K
end
section
open Go Go.Tm Go.Proofs
namespace Go.K
theorem tM{l:List UInt8}{i:Nat}{c:UInt8}(h:l[i]? = some c):byt ⟨⟨l⟩⟩ i = (c.toNat:Int):=by
 have:(ByteArray.mk ⟨l⟩)[i]? = l[i]?:=by
  show(if h:i < (ByteArray.mk ⟨l⟩).size then some ((ByteArray.mk ⟨l⟩)[i])else none) = _
  have hsz:(ByteArray.mk ⟨l⟩).size = l.length:=rfl
  by_cases hi:i < l.length
  ·rw[dif_pos (by rw[hsz];exact hi),List.getElem?_eq_getElem hi];rfl
  ·rw[dif_neg (by rw[hsz];exact hi),List.getElem?_eq_none OM]
 exact bm (by rw[this];exact h)
theorem Rg(s:ByteArray)(h:4≤s.size):bl [byt s 0,byt s 1,byt s 2,byt s 3] ++s.extract 4 s.size = s:=by
 obtain⟨⟨l⟩⟩:=s
 match l,h with
 |a :: b :: c :: d :: r,_ =>
  rw[tM (c:=a) rfl,tM (c:=b) rfl,tM (c:=c) rfl,tM (c:=d) rfl]
  apply ByteArray.ext
  rw[ByteArray.data_append,ByteArray.data_extract]
  apply Array.ext'
  simp[bl,ByteArray.size]
theorem Es(a b:Nat)(ha:a < 256)(hb:b < 256):BU (IntKind.i64.wrap ((a:Int) * 256)) b = (a:Int) * 256+b:=by
 rw[wO]
 unfold BU
 have e:((BitVec.ofInt IntKind.i64.bits ((a:Int) * 256))|||BitVec.ofInt IntKind.i64.bits (b:Int)).toNat = a * 256+b:=by
  have h1:BitVec.ofInt IntKind.i64.bits ((a:Int) * 256) = BitVec.ofNat IntKind.i64.bits (a * 256):=by
   rw[show((a:Int) * 256) = ((a * 256:Nat):Int) by simp];exact BitVec.ofInt_natCast ..
  have h2:BitVec.ofInt IntKind.i64.bits (b:Int) = BitVec.ofNat IntKind.i64.bits b:=BitVec.ofInt_natCast ..
  have hb64:IntKind.i64.bits = 64:=rfl
  rw[h1,h2,BitVec.toNat_or,BitVec.toNat_ofNat,BitVec.toNat_ofNat,hb64,Nat.mod_eq_of_lt OM,Nat.mod_eq_of_lt OM]
  have:=Nat.two_pow_add_eq_or_of_lt (i:=8) (b:=b) OM a
  rw[Nat.mul_comm]at this
  simpa using this.symm
 rw[e]
 rw[wO];simp
theorem dA(s:ByteArray)(i:Nat):∃ n:Nat,byt s i = n∧n < 256:=by
 unfold byt
 cases h:s[i]? with
 |none=>exact⟨0,rfl,by omega⟩
 |some c=>exact⟨c.toNat,rfl,UInt8.toNat_lt _⟩
theorem SY(s:ByteArray):rdI s = rdS s:=by
 unfold rdI rdS
 obtain⟨a,ha,ha'⟩:=dA s 1
 obtain⟨b,hb,hb'⟩:=dA s 2
 rw[ha,hb,Es a b ha' hb']
theorem Pn(s:ByteArray):qp s = dy s:=by
 unfold qp dy
 rw[SY]
 by_cases h4:(s.size:Int) < 4
 ·rw[if_pos OM,if_pos h4]
 ·rw[if_neg h4]
  have hx:(s.extract 4 s.size).size = s.size - 4:=by rw[ByteArray.size_extract];omega
  by_cases hok:(rdS s).ok
  ·have hform:cq (rdS s) = s:=by
    unfold cq
    rw[if_pos hok]
    obtain⟨⟨h1,h2⟩,⟨h3,h4'⟩,h5⟩:=hok
    obtain⟨a,ha,ha'⟩:=dA s 1
    obtain⟨b,hb,hb'⟩:=dA s 2
    have hk:IntKind.u8.wrap (rdS s).kind = byt s 0:=by
     obtain⟨c,hc,hc'⟩:=dA s 0
     show IntKind.u8.wrap (byt s 0) = _
     rw[wu8 OM OM]
    have ht:IntKind.u8.wrap (rdS s).task = byt s 3:=by
     obtain⟨c,hc,hc'⟩:=dA s 3
     show IntKind.u8.wrap (byt s 3) = _
     rw[wu8 OM OM]
    have he:(rdS s).epoch = (a:Int) * 256+b:=by show byt s 1 * 256+byt s 2 = _;rw[ha,hb]
    have e1:IntKind.u8.wrap (IntKind.i64.wrap ((rdS s).epoch.tdiv 256)) = byt s 1:=by
     rw[he,Int.tdiv_eq_ediv_of_nonneg OM,wO,wu8 OM OM,ha];omega
    have e2:IntKind.u8.wrap ((rdS s).epoch.tmod 256) = byt s 2:=by
     rw[he,Int.tmod_eq_emod_of_nonneg OM,wu8 OM OM,hb];omega
    rw[hk,ht,e1,e2]
    exact Rg s OM
   have hsz:¬((s.size:Int) < 4∨12 < (s.size:Int)):=by
    obtain⟨_,_,h5⟩:=hok
    have hr:(rdS s).text = s.extract 4 s.size:=rfl
    rcases h5 with⟨_,_,h6⟩|⟨_,h6⟩
    ·rw[hr]at h6
     have:=congrArg ByteArray.size h6
     rw[hx]at this
     have h0:(ByteArray.mk #[]).size = 0:=rfl
     omega
    ·rw[hr,hx]at h6;omega
   rw[if_neg hsz,if_pos hok,if_pos hform]
  ·have hform:cq (rdS s)≠s:=by
    unfold cq
    rw[if_neg hok]
    intro e
    have:=congrArg ByteArray.size e
    have h0:emp.size = 0:=rfl
    omega
   rw[if_neg hform,if_neg hok]
   simp
end Go.K
end
section
open Go Go.Tm Go.Proofs
namespace Go.K
abbrev ak(s:ByteArray):List T:=[.s s]
abbrev wt(xs:List ByteArray):T:=.slc [false] (xs.map ak)
end Go.K
end
section
open Go Go.Tm Go.Proofs
namespace Go.K
abbrev u8v(n:Int):V:=.t (.v (.int .u64 n))
def fnv(v:Int)(c:UInt8):Int:=IntKind.u64.wrap (IntKind.u64.wrap (BitVec.ofInt IntKind.u64.bits v ^^^ BitVec.ofInt IntKind.u64.bits (c.toNat:Int)).toNat * 1099511628211)
def my(v:Int)(s:ByteArray)(n:Nat):Int:=(s.data.toList.take n).foldl fnv v
theorem Ry{s:ByteArray}{n:Nat}{c:UInt8}(h:s[n]? = some c):s.data.toList[n]? = some c:=by
 by_cases hn:n < s.size
 ·rw[getElem?_pos s n hn]at h
  have hd:n < s.data.toList.length:=by simpa using hn
  rw[List.getElem?_eq_getElem hd]
  rw[←h];simp;rfl
 ·rw[getElem?_neg s n hn]at h;cases h
theorem AA{v:Int}{s:ByteArray}{n:Nat}{c:UInt8}(h:s[n]? = some c):my v s (n+1) = fnv (my v s n) c:=by
 unfold my
 rw[List.take_add_one,Ry h,List.foldl_append];rfl
theorem Rq(v:Int)(c:UInt8):0≤fnv v c∧fnv v c≤18446744073709551615:=Rd _
theorem xn:∀ (l:List UInt8) (v:Int),0≤v∧v≤18446744073709551615→0≤l.foldl fnv v∧l.foldl fnv v≤18446744073709551615
 |[],_,h=>h
 |c :: l,v,_=>xn l (fnv v c) (Rq v c)
theorem cR(v:Int)(tx:ByteArray)(hs:tx.size≤9223372036854775807):F qZ [.ptr [u8v v],.val (.s tx)] (.tup []) [[u8v (my v tx tx.size)],[]]:=by
 refine rl ?_
 conv=>whnf
 refine g 0 0 []<|J UA<|W.blk<|W.lp (fun s (n:Nat)=>⟨[(0,s.s 0),(1,s.s 1),(4,.i n)],[(22,[u8v (my v tx n)])],[]⟩) (fun(n:Nat)=>n≤tx.size) (fun(n:Nat)=>tx.size - n) (0) [some 22] [] ⟨rfl,⟨rfl,rfl,rfl,I⟩,Zdp,I⟩ OM ?_
 intro n hn
 conv=>whnf
 refine W.sq<|g 5 8 []<|J UD<|W.cn<|J (fun h1=>?_) fun h1=>?_
 replace h1:=dt h1
 refine W.skip<|W.sq<|W.blk ?_
 obtain⟨y1,hy1,hb1⟩:=bd (s:=tx) (n:=n) OM
 refine rgd [[],[],[],[],[],[],[.i ((↑(UInt8.toNat y1):Int))],[.i ((↑(UInt8.toNat y1):Int))],[.i (IntKind.wrap IntKind.u64 (↑(BitVec.toNat (BitVec.ofInt (IntKind.bits IntKind.u64) (my v tx n) ^^^ BitVec.ofInt (IntKind.bits IntKind.u64) (↑(UInt8.toNat y1):Int))):Int))],[.i (IntKind.wrap IntKind.u64 (IntKind.wrap IntKind.u64 (↑(BitVec.toNat (BitVec.ofInt (IntKind.bits IntKind.u64) (my v tx n) ^^^ BitVec.ofInt (IntKind.bits IntKind.u64) (↑(UInt8.toNat y1):Int))):Int) * 1099511628211))],[],[]] ?_
 conv=>whnf
 refine J ⟨I,I,I,I,I,I,Zc2,w8u _,rfl,rfl,I,UA,I⟩<|J KR<|rg [.i ((n:Int) +1)]<|J Zdf ?_
 rotate_left
 replace h1:=df h1
 refine W.exit<|EndsW.nm<|J I<|J ?_ ?_
 rfl
 rotate_left
 ·refine⟨n+1,[some 22],[],⟨rfl,⟨rfl,rfl,rfl,I⟩,⟨⟨rfl,⟨(congrArg (fun z=>V.t (T.v (Value.int _ z))) (AA AS).symm),I⟩⟩,I⟩,I⟩,?_,?_⟩
  rotate_left
  (dsimp only;omega)
  dsimp only
  omega
 ·rw[show n = tx.size from by omega]
def beL(v:Int):Nat→List Int
 |0=>[]
 |n+1=>(v / 256 ^ n % 256) :: beL v n
abbrev b1T(n:Int):List T:=[.v (.int .u8 n)]
theorem pD(v:Int):∀ n,(beL v n).length = n
 |0=>rfl
 |n+1=>by simp[beL,pD v n]
theorem I2(v:Int):∀ n i,i < n→(beL v n)[i]? = some (v / 256 ^ (n - 1 - i) % 256)
 |0,_,h=>by omega
 |n+1,0,_=>by simp[beL]
 |n+1,i+1,h=>by
  simp only[beL,List.getElem?_cons_succ]
  rw[I2 v n i OM]
  congr 3
  congr 1
  omega
theorem Lg{v:Int}{n:Nat}(h0:0≤v)(hn:n < 8):(fill b1T (b1T 0) (beL v 8) n).set n (b1T (IntKind.u8.wrap (v.fdiv (2 ^ min (56 - 8 * (n:Int)).toNat IntKind.u64.bits)))) = fill b1T (b1T 0) (beL v 8) (n+1):=by
 have e:IntKind.u8.wrap (v.fdiv (2 ^ min (56 - 8 * (n:Int)).toNat IntKind.u64.bits)) = v / 256 ^ (8 - 1 - n) % 256:=by
  rw[Int.fdiv_eq_ediv_of_nonneg _ (by exact Int.le_of_lt (Int.pow_pos (by decide)))]
  have:n = 0∨n = 1∨n = 2∨n = 3∨n = 4∨n = 5∨n = 6∨n = 7:=by omega
  rcases this with rfl|rfl|rfl|rfl|rfl|rfl|rfl|rfl <;> simp[IntKind.wrap,IntKind.bits,IntKind.signed]
 rw[e]
 exact Ma (I2 v 8 n hn)
theorem sG(l:List Int):(⟨(bO (l.map b1T)).toArray⟩:ByteArray) = bl l:=by
 simp[bO,bl,b1T,Function.comp_def]
theorem kM(v:Int)(h0:0≤v)(h1:v≤18446744073709551615):F sW [.val (u8v v)] (.s (bl (beL v 8))) [[]]:=by
 have hx:=pD v 8
 refine tt ?_
 conv=>whnf
 refine g 0 0 []<|J UA<|g 5 6 [.n (8)]<|J ⟨⟨rfl,rfl,LN⟩,I,I⟩<|W.sq<|g 6 7 []<|J UC<|W.blk<|W.lp (fun s (n:Nat)=>⟨[(0,s.s 0),(2,s.s 2),(3,s.s 3),(7,s.s 7),(8,.i n)],[(5,[.own [false] (fill b1T (b1T 0) (beL v 8) n)])],[]⟩) (fun(n:Nat)=>n≤8) (fun(n:Nat)=>8 - n) (0) [some 5] [] ⟨rfl,Za8,Zdp,I⟩ OM ?_
 intro n hn
 conv=>whnf
 refine g 0 0 []<|J UA<|W.sq<|W.cn<|J (fun h2=>?_) fun h2=>?_
 replace h2:=dt h2
 simp only[LM]at h2
 simp only[tf]at h2
 refine W.skip<|W.sq<|W.blk<|g 10 11 []<|J UB<|rg [.i (8 * (n:Int)),.i ((56:Int) - 8 * (n:Int)),.i (Int.fdiv v (2 ^ min (Int.toNat ((56:Int) - 8 * (n:Int))) (IntKind.bits IntKind.u64))),.i (IntKind.wrap IntKind.u8 (Int.fdiv v (2 ^ min (Int.toNat ((56:Int) - 8 * (n:Int))) (IntKind.bits IntKind.u64)))),.n (n),.x (b1T 0)]<|J ⟨I,I,I,I,wO,wO,Zdr,rfl,Zdh,⟨UA,Mc OM⟩,I⟩<|rg [.i ((n:Int) +1)]<|J Zdm ?_
 rotate_left
 replace h2:=df h2
 simp only[LM]at h2
 simp only[tf]at h2
 refine W.exit<|g 3 9 [.s ({data:=List.toArray (bO (fill b1T (b1T 0) (beL v 8) n)):ByteArray})]<|J ⟨I,⟨I,G3,rfl⟩,I,I⟩<|RT ?_
 rotate_left
 ·refine⟨n+1,[some 5],[],⟨rfl,Za8,⟨⟨rfl,⟨(congrArg (V.own _) (Lg h0 OM)),I⟩⟩,I⟩,I⟩,?_,?_⟩
  rotate_left
  (dsimp only;omega)
  dsimp only
  omega
 ·rw[Me _ _ _ OM]
  exact vs (sG _)
theorem Ll{v:Int}{n:Nat}(h0:0≤v):[b1T (IntKind.u8.wrap ((v / 256 ^ n).tmod 256))] ++ (beL v n).map b1T = (beL v (n+1)).map b1T:=by
 have h1:0≤v / 256 ^ n:=Int.ediv_nonneg h0 (Int.le_of_lt (Int.pow_pos (by decide)))
 rw[Int.tmod_eq_emod_of_nonneg h1]
 have h2:IntKind.u8.wrap (v / 256 ^ n % 256) = v / 256 ^ n % 256:=wu8 OM OM
 rw[h2];rfl
theorem Pk{v:Int}{n:Nat}(h0:0≤v)(h2:v≤18446744073709551615):IntKind.u64.wrap ((v / 256 ^ n).tdiv 256) = v / 256 ^ (n+1):=by
 have h1:0≤v / 256 ^ n:=Int.ediv_nonneg h0 (Int.le_of_lt (Int.pow_pos (by decide)))
 have h3:v / 256 ^ n≤v:=Int.ediv_le_self _ h0
 rw[Int.tdiv_eq_ediv_of_nonneg h1,wu64 OM OM,Int.ediv_ediv_of_nonneg (Int.le_of_lt (Int.pow_pos (by decide))),Int.pow_succ]
def h0v:Int:=14695981039346656037
theorem lQ(tx:ByteArray)(ht:tx.size≤9223372036854775807):F Bd [.val (.s tx)] (.s (bl (beL (my h0v tx tx.size) 8))) [[]]:=by
 refine Br ?_
 conv=>whnf
 refine g 0 0 []<|J UA<|g 0 0 []<|J UA<|W.sq<|g 0 0 []<|J UA<|W.blk<|W.lp (fun s (n:Nat)=>⟨[(0,s.s 0),(2,s.s 2),(3,u8v (my h0v tx n)),(4,.i n)],[],[]⟩) (fun(n:Nat)=>n≤tx.size) (fun(n:Nat)=>tx.size - n) (0) [] [] ⟨rfl,Zcc,I,I⟩ OM ?_
 intro n hn
 conv=>whnf
 refine W.sq<|g 7 9 []<|J UD<|W.cn<|J (fun h1=>?_) fun h1=>?_
 replace h1:=dt h1
 refine W.skip<|W.sq<|W.blk ?_
 obtain⟨y1,hy1,hb1⟩:=bd (s:=tx) (n:=n) OM
 refine rg [.i ((↑(UInt8.toNat y1):Int)),.i ((↑(UInt8.toNat y1):Int)),.i (IntKind.wrap IntKind.u64 (↑(BitVec.toNat (BitVec.ofInt (IntKind.bits IntKind.u64) (my h0v tx n) ^^^ BitVec.ofInt (IntKind.bits IntKind.u64) (↑(UInt8.toNat y1):Int))):Int)),.i (IntKind.wrap IntKind.u64 (IntKind.wrap IntKind.u64 (↑(BitVec.toNat (BitVec.ofInt (IntKind.bits IntKind.u64) (my h0v tx n) ^^^ BitVec.ofInt (IntKind.bits IntKind.u64) (↑(UInt8.toNat y1):Int))):Int) * 1099511628211))]<|J ⟨I,I,I,Zc2,w8u _,rfl,rfl,I,I⟩<|rg [.i ((n:Int) +1)]<|J Zdf ?_
 rotate_left
 replace h1:=df h1
 refine W.exit<|g 10 21 []<|J UB<|W.sq<|g 4 5 []<|J UA<|W.blk ?_
 rotate_left
 ·refine⟨n+1,[],[],⟨rfl,⟨rfl,rfl,(congrArg (fun z=>V.t (T.v (Value.int _ z))) (AA AS).symm),rfl,I⟩,I,I⟩,?_,?_⟩
  rotate_left
  (dsimp only;omega)
  dsimp only
  omega
 have e:n = tx.size:=by omega
 subst e
 have hb:0≤my h0v tx tx.size∧my h0v tx tx.size≤18446744073709551615:=xn _ _ (by unfold h0v;omega)
 generalize my h0v tx tx.size = v at hb ⊢
 obtain⟨hb0,hb1⟩:=hb
 refine W.lp (fun s (n:Nat)=>⟨[(0,s.s 0),(2,s.s 2),(3,u8v (v / 256 ^ n)),(5,.ref ⟨5,none,0⟩),(6,.i n),(9,s.s 9)],[(5,[.own [false] ((beL v n).map b1T)])],[]⟩) (fun(n:Nat)=>n≤8) (fun(n:Nat)=>8 - n) (0) [some 20] [] ⟨rfl,⟨rfl,rfl,(congrArg (fun z=>V.t (T.v (Value.int _ z))) OM),rfl,rfl,rfl,I⟩,Zdp,I⟩ OM ?_
 intro n hn2
 have hx:=pD v n
 conv=>whnf
 refine W.sq<|g 21 22 []<|J UB<|W.cn<|J (fun h2=>?_) fun h2=>?_
 replace h2:=dt h2
 refine W.skip<|W.sq<|W.blk<|g 22 31 [.i (Int.tmod (v / 256 ^ n) 256),.i (IntKind.wrap IntKind.u8 (Int.tmod (v / 256 ^ n) 256))]<|J ⟨I,Zdr,rfl,US,I,Zdi,I,I⟩<|rg [.i (IntKind.wrap IntKind.u64 (Int.tdiv (v / 256 ^ n) 256))]<|J ⟨I,Zdr,I,I⟩<|rg [.i ((n:Int) +1)]<|J Zdf ?_
 rotate_left
 replace h2:=df h2
 refine W.exit<|g 3 7 [.s ({data:=List.toArray (bO (List.map b1T (beL v n))):ByteArray})]<|J ⟨I,⟨I,JZ,rfl⟩,I,I⟩<|RT ?_
 rotate_left
 ·refine⟨n+1,[some 30],[],⟨rfl,⟨rfl,rfl,(congrArg (fun z=>V.t (T.v (Value.int _ z))) (Pk hb0 hb1)),rfl,rfl,rfl,I⟩,⟨⟨rfl,⟨(congrArg (V.own _) (Ll hb0)),I⟩⟩,I⟩,I⟩,?_,?_⟩
  rotate_left
  (dsimp only;omega)
  dsimp only
  omega
 ·rw[show n = 8 from by omega]
  exact vs (sG _)
def pq(nm:ByteArray)(xs:List ByteArray)(n:Nat):ByteArray:=(xs.take n).foldl (fun a s=>a++ (⟨#[0]⟩ ++s)) nm
theorem AO{nm:ByteArray}{xs:List ByteArray}{n:Nat}{x:ByteArray}(h:xs[n]? = some x):pq nm xs (n+1) = pq nm xs n++ (⟨#[0]⟩ ++x):=by
 unfold pq;rw[List.take_add_one,h,List.foldl_append];rfl
def fJ(v:Int)(s:ByteArray):Int:=s.data.toList.foldl fnv v
theorem gr(v:Int)(s:ByteArray):my v s s.size = fJ v s:=by
 unfold my fJ;rw[List.take_of_length_le (by simp)]
theorem sB(v:Int)(a b:ByteArray):fJ v (a++b) = fJ (fJ v a) b:=by
 simp[fJ,ByteArray.data_append,List.foldl_append]
theorem Ic(s:ByteArray):0≤fJ h0v s∧fJ h0v s≤18446744073709551615:=xn _ _ (by unfold h0v;omega)
def bR(nm:ByteArray)(xs:List ByteArray):ByteArray:=bl (beL (fJ h0v (pq nm xs xs.length)) 8)
theorem K8{nm:ByteArray}{xs:List ByteArray}{n:Nat}{x:ByteArray}(h:xs[n]? = some x):my (my (fJ h0v (pq nm xs n)) ⟨#[0]⟩ (⟨#[0]⟩:ByteArray).size) x x.size = fJ h0v (pq nm xs (n+1)):=by
 rw[gr,gr,AO h,sB,sB]
theorem rT(nm:ByteArray)(xs:List ByteArray)(hn:nm.size≤1048576)(hl:xs.length≤1048576)(hs:∀ s∈xs,s.size≤1048576):F Bm [.val (.s nm),.val (.t (wt xs))] (.s (bR nm xs)) [[],[]]:=by
 refine BA ?_
 conv=>whnf
 refine g 0 0 []<|J UA<|g 0 0 []<|J UV<|g 0 1 [.call (V.tup []) ([[u8v (my 14695981039346656037 nm (ByteArray.size nm))],[]])]<|J ⟨I,⟨UB,I,UV,UA,cR _ _ OM⟩,I⟩<|W.sq<|g 1 2 []<|J UC<|W.blk<|W.lp (fun s (n:Nat)=>⟨[(4,s.s 4),(5,s.s 5),(10,s.s 10),(11,s.s 11),(12,.i n)],[(5,[u8v (fJ h0v (pq nm xs n))])],[]⟩) (fun(n:Nat)=>n≤xs.length) (fun(n:Nat)=>xs.length - n) (0) [some 5] [] ⟨rfl,Za8,⟨⟨rfl,⟨(congrArg (fun z=>V.t (T.v (Value.int _ z))) (gr _ _)),I⟩⟩,I⟩,I⟩ OM ?_
 intro n hn
 have hb:=Ic (pq nm xs n)
 conv=>whnf
 refine g 0 0 []<|J UA<|W.sq<|W.cn<|J (fun h1=>?_) fun h1=>?_
 replace h1:=dt h1
 simp only[LM]at h1
 refine W.skip<|W.sq<|W.blk ?_
 obtain⟨y1,hy1⟩:=aj (xs:=xs) (n:=n) OM
 have hm1:=hs y1 (List.mem_of_getElem? hy1)
 refine g 13 16 [.x (ak y1)]<|J Zcm<|g 16 17 [.call (V.tup []) ([[u8v (my (fJ h0v (pq nm xs n)) {data:=#[(0:UInt8)]:ByteArray} (ByteArray.size {data:=#[(0:UInt8)]:ByteArray}))],[]])]<|J ⟨⟨UB,I,UV,UA,cR _ _ (by decide)⟩,I⟩<|rg [.call (V.tup []) ([[u8v (my (my (fJ h0v (pq nm xs n)) {data:=#[(0:UInt8)]:ByteArray} (ByteArray.size {data:=#[(0:UInt8)]:ByteArray})) y1 (ByteArray.size y1))],[]])]<|J ⟨I,⟨UB,I,UV,UA,cR _ _ OM⟩,I⟩<|rg [.i ((n:Int) +1)]<|J Zdm ?_
 rotate_left
 replace h1:=df h1
 simp only[LM]at h1
 refine W.exit<|g 5 22 [.call (V.s (bl (beL (fJ h0v (pq nm xs n)) 8))) [[]]]<|J ⟨I,⟨UA,I,US,UA,kM _ OM OM⟩,I,I⟩<|RT ?_
 rotate_left
 ·refine⟨n+1,[some 5],[],⟨rfl,Za8,⟨⟨rfl,⟨(congrArg (fun z=>V.t (T.v (Value.int _ z))) (K8 AS)),I⟩⟩,I⟩,I⟩,?_,?_⟩
  rotate_left
  (dsimp only;omega)
  dsimp only
  omega
 ·exact vs (by rw[show n = xs.length from by omega];rfl)
end Go.K
end
section
open Go Go.Tm Go.Proofs
namespace Go.K
theorem Hl{α β:Type}{f:α→β}{p:α→Prop}:∀ {xs:List β},(∀ y∈xs,∃ s,y = f s∧p s)→∃ ys:List α,xs = ys.map f∧∀ s∈ys,p s
 |[],_=>⟨[],rfl,fun _ h=>by cases h⟩
 |y :: xs,h=>by
  obtain⟨s,rfl,hp⟩:=h y (.head _)
  obtain⟨ys,rfl,hq⟩:=Hl fun z hz=>h z (.tail _ hz)
  exact⟨s :: ys,rfl,fun z hz=>by rcases List.mem_cons.1 hz with rfl|hz;exact hp;exact hq z hz⟩
end Go.K
end
section
open Go Go.Tm Go.Proofs
namespace Go.K
structure Parcel where
 kind:Int
 frm:ByteArray
 text:ByteArray
 deriving DecidableEq
abbrev Sf(k:Int)(a b:ByteArray):V:=.agg [.t (.i k),.t (.s a),.t (.s b)]
abbrev bI(p:Parcel):List T:=[.i p.kind,.s p.frm,.s p.text]
abbrev pkd:List Bool:=[false,false,false]
abbrev Ag(xs:List Parcel):T:=.slc pkd (xs.map bI)
abbrev noP:Parcel:=⟨0,emp,emp⟩
theorem gB(l:List Int):(bl l).size = l.length:=by simp[bl,bsa]
theorem cx(xs:List Parcel)(k:Int)(hl:xs.length≤9223372036854775806):F Bi [.val (.t (Ag xs)),.val (.i k)] (.b (decide (xs.length≤2000∧0≤k∧k < xs.length))) [[],[]]:=by
 refine Bv ?_
 conv=>whnf
 refine g 0 0 []<|J UA ?_
 by_cases h1:(↑(List.length (List.map bI xs)):Int)≤(2000:Int)
 simp only[LM]at h1
 refine g 5 15 [BT,BT,BT,BT,.i ((↑(List.length (List.map bI xs)):Int) - 1),BT,.call (V.b (decide (0≤k∧k≤(↑(List.length (List.map bI xs)):Int) - 1))) [[],[],[]],BT]<|J ⟨I,I,I,I,⟨SI,I⟩,⟨SI,I⟩,⟨SI,I⟩,⟨SI,w64 LN LN⟩,⟨SI,UC,I,UU,UA,ac _ _ _⟩,SI,I,I⟩<|RT ?_
 rotate_left
 simp only[LM]at h1
 refine g 5 15 [BF,BF,BF,BF,BF,BF]<|J ⟨I,I,I,I,SI,SI,SI,SI,SI,SI,I,I⟩<|RT ?_
 exact vbf OM
 exact vbd (by simp only[List.length_map];omega)
theorem dc(xs:List Parcel)(hl:xs.length≤1048576):F yS [.val (.t (Ag xs))] (.own pkd (xs.map bI)) [[]]:=by
 refine zm ?_
 conv=>whnf
 refine g 0 0 []<|J UA<|g 3 6 []<|J ⟨I,I,Zdi,I,I⟩<|RT ?_
 rfl
def bA(xs:List Parcel)(k:Int):List Parcel:=if xs.length≤2000∧0≤k∧k < xs.length then xs.take k.toNat++xs.drop (k.toNat+1)else xs
theorem HW{xs:List Parcel}{k:Int}(h:¬(xs.length≤2000∧0≤k∧k < xs.length)):bA xs k = xs:=if_neg h
theorem EH{xs:List Parcel}{k:Int}(h:xs.length≤2000∧0≤k∧k < xs.length):List.drop 0 (List.take k.toNat (xs.map bI)) ++List.drop (k+1).toNat (List.take (xs.map bI).length (xs.map bI)) = (bA xs k).map bI:=by
 unfold bA
 rw[if_pos h,List.drop_zero,List.take_length,show(k+1).toNat = k.toNat+1 from by omega,List.map_append,List.map_take,List.map_drop]
theorem DH(xs:List Parcel)(k:Int)(hl:xs.length≤1048576):F Db [.val (.t (Ag xs)),.val (.i k)] (.own pkd ((bA xs k).map bI)) [[],[]]:=by
 refine Ds ?_
 conv=>whnf
 refine g 0 0 []<|J UA<|g 6 8 [.call (V.own pkd (List.map bI xs)) [[]]]<|J ⟨I,⟨UA,I,US,UA,dc _ OM⟩,I,I⟩<|W.sq<|g 8 10 [.call (V.b (decide (xs.length≤2000∧0≤k∧k < (↑xs.length:Int)))) [[],[]]]<|J ⟨I,I,⟨UB,I,UT,UA,cx _ _ OM⟩,I⟩<|W.cn<|J (fun h1=>?_) fun h1=>?_
 replace h1:=dt h1
 refine rgd [[],[],[.n (Int.toNat k)],[],[],[.i (k+1)],[.n (Int.toNat (k+1))],[],[]] ?_
 conv=>whnf
 refine J ⟨I,I,⟨I,OM,I,OM,LN⟩,I,I,wO,⟨I,I,OM,LN,OM⟩,Zdi,I,I⟩<|J KR<|g 5 20 []<|J UB<|RT ?_
 rotate_left
 replace h1:=df h1
 refine W.skip<|g 5 20 []<|J UB<|RT ?_
 rotate_left
 ·exact congrArg (V.own pkd) (EH h1)
 ·rw[HW h1]
end Go.K
end
section
open Go Go.Tm Go.Proofs
namespace Go.K
abbrev dJ(n:Int):List T:=[.i n]
structure Task where
 name:ByteArray
 cost:Int
 deps:List Int
 deriving DecidableEq
abbrev aC(x:Task):List T:=[.s x.name,.i x.cost,.slc [false] (x.deps.map dJ)]
abbrev dM:List Bool:=[false,false,true]
def MW(x:Task):Prop:=x.name.size≤9223372036854775807∧x.deps.length≤9223372036854775807
structure Worker where
 number:Int
 epoch:Int
 up:Bool
 state:Int
 lease:Int
 task:Int
 cost:Int
 left:Int
 inputs:List ByteArray
 text:ByteArray
 since:Int
 deriving DecidableEq
abbrev au(x:Worker):List T:=[.i x.number,.i x.epoch,.b x.up,.i x.state,.i x.lease,.i x.task,.i x.cost,.i x.left,.slc [false] (x.inputs.map ak),.s x.text,.i x.since]
abbrev eC(x:Worker):V:=.agg [.t (.i x.number),.t (.i x.epoch),.t (.b x.up),.t (.i x.state),.t (.i x.lease),.t (.i x.task),.t (.i x.cost),.t (.i x.left),.t (.slc [false] (x.inputs.map ak)),.t (.s x.text),.t (.i x.since)]
abbrev aB(x:Worker):V:=.agg [.t (.i x.number),.t (.i x.epoch),.t (.b x.up),.t (.i x.state),.t (.i x.lease),.t (.i x.task),.t (.i x.cost),.t (.i x.left),.own [false] (x.inputs.map ak),.t (.s x.text),.t (.i x.since)]
abbrev dU:List Bool:=[false,false,false,false,false,false,false,false,true,false,false]
abbrev lG:Worker:=⟨0,0,false,0,0,0,0,0,[],emp,0⟩
structure Plan where
 tasks:List Task
 deriving DecidableEq
abbrev cE(x:Plan):V:=.agg [.t (.slc dM (x.tasks.map aC))]
abbrev dE(x:Plan):V:=.agg [.own dM (x.tasks.map aC)]
def cQ(x:Plan):Prop:=x.tasks.length≤9223372036854775807∧(∀ y∈x.tasks,MW y)
end Go.K
end
section
open Go Go.Tm Go.Proofs
namespace Go.K
def dR(xs:List ByteArray):Prop:=(∀ s∈xs,s.size = 8)∧xs.length≤8
instance (xs:List ByteArray):Decidable (dR xs):=by unfold dR;infer_instance
theorem AJ{xs:List ByteArray}{n:Nat}{y:ByteArray}(hy:xs[n]? = some y)(h:¬(y.size:Int) = 8):¬dR xs:=fun e=>h (by have:=e.1 y (List.mem_of_getElem? hy);omega)
theorem sI{α:Type}{p:α→Prop}{xs:List α}{n:Nat}{y:α}(h:∀ s∈xs.take n,p s)(hy:xs[n]? = some y)(hp:p y):∀ s∈xs.take (n+1),p s:=fun s hs=>by
 rw[List.take_add_one,hy]at hs
 rcases List.mem_append.1 hs with hs|hs
 ·exact h s hs
 ·simp at hs;subst hs;exact hp
theorem sJ{α:Type}{p:α→Prop}{xs:List α}{n:Nat}(h:∀ s∈xs.take n,p s)(hn:xs.length≤n):∀ s∈xs,p s:=by rwa [bF hn]at h
theorem gQ(xs:List ByteArray)(hl:xs.length≤9223372036854775806):F yR [.val (.t (wt xs))] (.b (decide (dR xs))) [[]]:=by
 refine zl ?_
 conv=>whnf
 refine g 0 0 []<|J UA<|W.sq<|g 0 0 []<|J UC<|W.blk<|W.lp (fun s (n:Nat)=>⟨[(0,s.s 0),(5,s.s 5),(6,s.s 6),(7,.i n)],[],[]⟩) (fun(n:Nat)=>n≤xs.length∧∀ s∈xs.take n,s.size = 8) (fun(n:Nat)=>xs.length - n) (0) [] [] ⟨rfl,Zcc,I,I⟩ (by simp) ?_
 rintro n ⟨hn,hc⟩
 conv=>whnf
 refine g 0 0 []<|J UA<|W.sq<|W.cn<|J (fun h1=>?_) fun h1=>?_
 replace h1:=dt h1
 simp only[LM]at h1
 refine W.skip<|W.sq<|W.blk ?_
 obtain⟨y1,hy1⟩:=aj (xs:=xs) (n:=n) OM
 refine g 8 11 [.x (ak y1)]<|J Zcm<|g 11 13 []<|J UC<|W.cn<|J (fun h2=>?_) fun h2=>?_
 replace h2:=ndt h2
 refine g 13 14 []<|J UA<|RT ?_
 rotate_left
 replace h2:=ndf h2
 refine W.skip<|rg [.i ((n:Int) +1)]<|J Zdm ?_
 rotate_left
 replace h1:=df h1
 simp only[LM]at h1
 refine W.exit<|g 5 18 []<|J UD<|RT ?_
 rotate_left
 ·exact vbf (AJ hy1 AS)
 ·refine⟨n+1,[],[],⟨rfl,Zcc,I,I⟩,?_,?_⟩
  rotate_left
  (dsimp only;omega)
  dsimp only
  exact⟨by omega,sI hc hy1 OM⟩
 ·exact vbd ⟨fun e=>⟨sJ hc OM,by simp only[LM]at e;omega⟩,fun e=>by have:=e.2;simp only[List.length_map];omega⟩
theorem eh(xs:List ByteArray)(hl:xs.length≤9223372036854775806):F qS [.val (.t (wt xs))] (.b (decide (dR xs))) [[]]:=by
 refine ri ?_
 conv=>whnf
 refine g 0 0 []<|J UA<|W.sq<|g 0 0 []<|J UA<|W.blk<|W.lp (fun s (n:Nat)=>⟨[(0,s.s 0),(3,.i n)],[],[]⟩) (fun(n:Nat)=>n≤xs.length∧∀ s∈xs.take n,s.size = 8) (fun(n:Nat)=>xs.length - n) (0) [] [] Zc8 (by simp) ?_
 rintro n ⟨hn,hc⟩
 conv=>whnf
 refine W.sq<|g 5 7 []<|J UD<|W.cn<|J (fun h1=>?_) fun h1=>?_
 replace h1:=dt h1
 simp only[LM]at h1
 refine W.skip<|W.sq<|W.blk ?_
 obtain⟨y1,hy1⟩:=aj (xs:=xs) (n:=n) OM
 refine g 7 15 [.x (ak y1)]<|J ⟨I,I,Zdj,I,I,I,I⟩<|W.cn<|J (fun h2=>?_) fun h2=>?_
 replace h2:=ndt h2
 refine g 15 16 []<|J UA<|RT ?_
 rotate_left
 replace h2:=ndf h2
 refine W.skip<|rg [.i ((n:Int) +1)]<|J Zdf ?_
 rotate_left
 replace h1:=df h1
 simp only[LM]at h1
 refine W.exit<|g 7 19 []<|J UD<|RT ?_
 rotate_left
 ·exact vbf (AJ hy1 AS)
 ·refine⟨n+1,[],[],Zc8,?_,?_⟩
  rotate_left
  (dsimp only;omega)
  dsimp only
  exact⟨by omega,sI hc hy1 OM⟩
 ·exact vbd ⟨fun e=>⟨sJ hc OM,by simp only[LM]at e;omega⟩,fun e=>by have:=e.2;simp only[List.length_map];omega⟩
theorem ax(n:Int):F sQ [.val (.i n)] (.b (decide (1≤n∧n≤300000000))) [[]]:=by
 refine tm ?_
 conv=>whnf
 refine g 0 0 []<|J UA<|g 0 1 [.call (V.b (decide (1≤n∧n≤300000000))) [[],[],[]]]<|J ⟨I,⟨UC,I,UU,UA,ag _ _ _⟩,I,I⟩<|RT ?_
 rfl
end Go.K
end
section
open Go Go.Tm Go.Proofs Classical
namespace Go.K
def mZ(s:ByteArray):Prop:=(∀ (n:Nat) (c:UInt8),s[n]? = some c→33≤c.toNat∧c.toNat≤126)∧1≤s.size∧s.size≤30
theorem sm{s:ByteArray}{n:Nat}{c:UInt8}(h:s[n]? = some c)(hc:¬(33≤(c.toNat:Int)∧(c.toNat:Int)≤126)):¬mZ s:=fun e=>hc (by have:=e.1 n c h;omega)
theorem wP{s:ByteArray}{n:Nat}{c:UInt8}(hn:∀ (m:Nat) (c:UInt8),m < n→s[m]? = some c→33≤c.toNat∧c.toNat≤126)(h:s[n]? = some c)(hc:33≤(c.toNat:Int)∧(c.toNat:Int)≤126):∀ (m:Nat) (c:UInt8),m < n+1→s[m]? = some c→33≤c.toNat∧c.toNat≤126:=fun m d hm hd=>by
 by_cases e:m = n
 ·subst e;rw[h]at hd;cases hd;omega
 ·exact hn m d OM hd
theorem I3{s:ByteArray}{n:Nat}{c:UInt8}(h:s[n]? = some c):n < s.size:=by
 by_cases hn:n < s.size
 ·exact hn
 ·rw[getElem?_neg s n hn]at h;cases h
theorem rS(s:ByteArray)(hs:s.size≤9223372036854775807):F Bk [.val (.s s)] (.b (decide (mZ s))) [[]]:=by
 refine Bx ?_
 conv=>whnf
 refine g 0 0 []<|J UA<|W.sq<|g 0 0 []<|J UA<|W.blk<|W.lp (fun s (n:Nat)=>⟨[(0,s.s 0),(3,.i n)],[],[]⟩) (fun(n:Nat)=>n≤s.size∧∀ (m:Nat) (c:UInt8),m < n→s[m]? = some c→33≤c.toNat∧c.toNat≤126) (fun(n:Nat)=>s.size - n) (0) [] [] Zc8 (by simp) ?_
 rintro n ⟨hn,hc⟩
 conv=>whnf
 refine W.sq<|g 5 7 []<|J UD<|W.cn<|J (fun h1=>?_) fun h1=>?_
 replace h1:=dt h1
 refine W.skip<|W.sq<|W.blk ?_
 obtain⟨y1,hy1,hb1⟩:=bd (s:=s) (n:=n) OM
 by_cases h2:(↑(UInt8.toNat y1):Int) < (33:Int)
 refine g 7 19 [.i ((↑(UInt8.toNat y1):Int)),BT,BT,BT,BT,BT]<|J ⟨I,I,Zc2,I,I,tO,tO,tO,tO,tO,I⟩<|W.cn<|J (fun _=>(g 19 20 []<|J UA (RT ?_))) (noF rfl)
 rotate_left
 refine g 7 19 [.i ((↑(UInt8.toNat y1):Int)),BF,BF,BF,.i ((↑(UInt8.toNat y1):Int)),BF,BF]<|J ⟨I,I,Zc2,I,I,⟨dO,I⟩,⟨dO,I⟩,⟨dO,OM,ixb AS⟩,⟨dO,I⟩,dO,I⟩<|W.cn<|J (fun h3=>?_) fun h3=>?_
 replace h3:=dt h3
 refine g 19 20 []<|J UA<|RT ?_
 rotate_left
 replace h3:=df h3
 refine W.skip<|rg [.i ((n:Int) +1)]<|J Zdf ?_
 rotate_left
 replace h1:=df h1
 refine W.exit ?_
 by_cases h2:(1:Int)≤(↑(ByteArray.size s):Int)
 refine g 7 28 [BT,BT,BT,BT]<|J Zcb<|RT ?_
 rotate_left
 refine g 7 28 [BF,BF,BF,BF]<|J Zc7<|RT ?_
 rotate_left
 ·exact vbf (sm hy1 OM)
 ·exact vbf (sm hy1 OM)
 ·refine⟨n+1,[],[],Zc8,?_,?_⟩
  rotate_left
  (dsimp only;omega)
  dsimp only
  exact⟨by omega,wP hc hy1 OM⟩
 ·exact vbd ⟨fun e=>⟨fun m c h=>hc m c (by have:=I3 h;omega) h,by omega,by omega⟩,fun e=>by have:=e.2;omega⟩
 ·exact vbf (fun e=>by have:=e.2;omega)
theorem vE(s:ByteArray)(hs:s.size≤9223372036854775807):F vd [.val (.s s)] (.b (decide (mZ s))) [[]]:=by
 refine vA ?_
 conv=>whnf
 refine g 0 0 []<|J UA<|W.sq<|g 0 0 []<|J UA<|W.blk<|W.lp (fun s (n:Nat)=>⟨[(0,s.s 0),(3,.i n)],[],[]⟩) (fun(n:Nat)=>n≤s.size∧∀ (m:Nat) (c:UInt8),m < n→s[m]? = some c→33≤c.toNat∧c.toNat≤126) (fun(n:Nat)=>s.size - n) (0) [] [] Zc8 (by simp) ?_
 rintro n ⟨hn,hc⟩
 conv=>whnf
 refine W.sq<|g 5 7 []<|J UD<|W.cn<|J (fun h1=>?_) fun h1=>?_
 replace h1:=dt h1
 refine W.skip<|W.sq<|W.blk ?_
 obtain⟨y1,hy1,hb1⟩:=bd (s:=s) (n:=n) OM
 by_cases h2:(↑(UInt8.toNat y1):Int) < (33:Int)
 refine g 7 19 [.i ((↑(UInt8.toNat y1):Int)),BT,BT,BT,BT,BT]<|J ⟨I,I,Zc2,I,I,tO,tO,tO,tO,tO,I⟩<|W.cn<|J (fun _=>(g 19 20 []<|J UA (RT ?_))) (noF rfl)
 rotate_left
 refine g 7 19 [.i ((↑(UInt8.toNat y1):Int)),BF,BF,BF,.i ((↑(UInt8.toNat y1):Int)),BF,BF]<|J ⟨I,I,Zc2,I,I,⟨dO,I⟩,⟨dO,I⟩,⟨dO,OM,ixb AS⟩,⟨dO,I⟩,dO,I⟩<|W.cn<|J (fun h3=>?_) fun h3=>?_
 replace h3:=dt h3
 refine g 19 20 []<|J UA<|RT ?_
 rotate_left
 replace h3:=df h3
 refine W.skip<|rg [.i ((n:Int) +1)]<|J Zdf ?_
 rotate_left
 replace h1:=df h1
 refine W.exit ?_
 by_cases h2:(1:Int)≤(↑(ByteArray.size s):Int)
 refine g 7 28 [BT,BT,BT,BT]<|J Zcb<|RT ?_
 rotate_left
 refine g 7 28 [BF,BF,BF,BF]<|J Zc7<|RT ?_
 rotate_left
 ·exact vbf (sm hy1 OM)
 ·exact vbf (sm hy1 OM)
 ·refine⟨n+1,[],[],Zc8,?_,?_⟩
  rotate_left
  (dsimp only;omega)
  dsimp only
  exact⟨by omega,wP hc hy1 OM⟩
 ·exact vbd ⟨fun e=>⟨fun m c h=>hc m c (by have:=I3 h;omega) h,by omega,by omega⟩,fun e=>by have:=e.2;omega⟩
 ·exact vbf (fun e=>by have:=e.2;omega)
end Go.K
end
section
open Go Go.Tm Go.Proofs Classical
namespace Go.K
def BZ(xs:List Task)(n:Nat):Prop:=∀ (m:Nat) (t:Task),m < n→xs[m]? = some t→mZ t.name∧t.name ∉ (xs.take m).map Task.name
def ic(xs:List Task):Prop:=BZ xs xs.length
def jr(xs:List Task):Prop:=∀ t∈xs,1≤t.cost∧t.cost≤20
def EO(last hi:Int):List Int→Prop
 |[]=>True
 |d :: ds=>(last < d∧d < hi)∧EO d hi ds
def QZ(hi:Int)(d:List Int):Prop:=d.length≤8∧EO (-1) hi d
def Ht(xs:List Task)(n:Nat):Prop:=∀ (m:Nat) (t:Task),m < n→xs[m]? = some t→QZ m t.deps
def vR(xs:List Task):Prop:=Ht xs xs.length
noncomputable def ah(xs:List Task):Int :=
 if ¬(1≤xs.length∧xs.length≤40)then 1 else if ¬ic xs then 2 else if ¬jr xs then 3 else if ¬vR xs then 4 else 0
theorem PQ{xs:List Task}(h:¬(1≤xs.length∧xs.length≤40)):ah xs = 1:=by unfold ah;rw[if_pos h]
theorem PP{xs:List Task}(h:1≤xs.length∧xs.length≤40)(h2:¬ic xs):ah xs = 2:=by unfold ah;rw[if_neg (not_not_intro h),if_pos h2]
theorem PO{xs:List Task}(h:1≤xs.length∧xs.length≤40)(h2:ic xs)(h3:¬jr xs):ah xs = 3:=by unfold ah;rw[if_neg (not_not_intro h),if_neg (not_not_intro h2),if_pos h3]
theorem IY{xs:List Task}(h:1≤xs.length∧xs.length≤40)(h2:ic xs)(h3:jr xs)(h4:¬vR xs):ah xs = 4:=by unfold ah;rw[if_neg (not_not_intro h),if_neg (not_not_intro h2),if_neg (not_not_intro h3),if_pos h4]
theorem TD{xs:List Task}(h:1≤xs.length∧xs.length≤40)(h2:ic xs)(h3:jr xs)(h4:vR xs):ah xs = 0:=by unfold ah;rw[if_neg (not_not_intro h),if_neg (not_not_intro h2),if_neg (not_not_intro h3),if_neg (not_not_intro h4)]
theorem su{xs:List Task}{n:Nat}{t:Task}(ht:xs[n]? = some t)(h:¬(mZ t.name∧t.name ∉ (xs.take n).map Task.name)):¬ic xs:=fun e=>h (e n t (List.getElem?_eq_some_iff.1 ht).1 ht)
theorem wn{P:Nat→Task→Prop}{xs:List Task}{n:Nat}{t:Task}(h:∀ (m:Nat) (t:Task),m < n→xs[m]? = some t→P m t)(ht:xs[n]? = some t)(hp:P n t):∀ (m:Nat) (t:Task),m < n+1→xs[m]? = some t→P m t:=fun m d hm hd=>by
 by_cases e:m = n
 ·subst e;rw[ht]at hd;cases hd;exact hp
 ·exact h m d OM hd
theorem Cj{P:Nat→Task→Prop}{xs:List Task}{n:Nat}(h:∀ (m:Nat) (t:Task),m < n→xs[m]? = some t→P m t)(hn:xs.length≤n):∀ (m:Nat) (t:Task),m < xs.length→xs[m]? = some t→P m t:=fun m t hm ht=>h m t OM ht
theorem sE{xs:List Task}{n:Nat}{t:Task}(ht:xs[n]? = some t)(h:¬(1≤t.cost∧t.cost≤20)):¬jr xs:=fun e=>h (e t (List.mem_of_getElem? ht))
theorem mQ{xs:List Task}{n:Nat}{t:Task}(ht:xs[n]? = some t)(h:¬QZ n t.deps):¬vR xs:=fun e=>h (e n t (List.getElem?_eq_some_iff.1 ht).1 ht)
def m8(hi:Int)(d:List Int)(k:Nat)(last:Int):Prop:=EO (-1) hi d↔EO last hi (d.drop k)
theorem IQ{α:Type}{d:List α}{k:Nat}{y:α}(h:d[k]? = some y):d.drop k = y :: d.drop (k+1):=by
 have hk:=(List.getElem?_eq_some_iff.1 h)
 rw[List.drop_eq_getElem_cons hk.1,hk.2]
theorem ua{hi:Int}{d:List Int}{k:Nat}{last y:Int}(h:m8 hi d k last)(hy:d[k]? = some y)(h1:last < y∧y < hi):m8 hi d (k+1) y:=by
 unfold m8 at *;rw[h,IQ hy,EO];exact⟨fun e=>e.2,fun e=>⟨h1,e⟩⟩
theorem tl{hi:Int}{d:List Int}{k:Nat}{last y:Int}(h:m8 hi d k last)(hy:d[k]? = some y)(h1:¬(last < y∧y < hi)):¬EO (-1) hi d:=by
 unfold m8 at *;rw[h,IQ hy,EO];exact fun e=>h1 e.1
theorem EN{hi:Int}{d:List Int}{k:Nat}{last:Int}(h:m8 hi d k last)(hk:d.length≤k):EO (-1) hi d:=by
 unfold m8 at *;rw[h,List.drop_eq_nil_of_le hk];trivial
theorem eK(p:Plan)(hp:cQ p):F tb [.val (cE p)] (.i (ah p.tasks)) [[]]:=by
 have hl:p.tasks.length≤9223372036854775807:=hp.1
 have hw:∀ y∈p.tasks,y.name.size≤9223372036854775807∧y.deps.length≤9223372036854775807:=hp.2
 refine tB ?_
 conv=>whnf
 refine g 0 1 []<|J Zdu<|g 14 17 []<|J UD<|W.sq ?_
 by_cases h1:(↑(List.length (List.map aC (Plan.tasks p))):Int) = (0:Int)
 simp only[LM]at h1
 refine g 17 22 [BT,BT,BT]<|J ⟨I,I,I,SI,SI,SI,I⟩<|W.cn<|J (fun _=>(g 22 23 []<|J UA (RT ?_))) (noF rfl)
 rotate_left
 simp only[LM]at h1
 refine g 17 22 [BF,BF,BF]<|J ⟨I,I,I,⟨(by simp_all),I⟩,⟨(by simp_all),I⟩,(by simp_all),I⟩<|W.cn<|J (fun h2=>?_) fun h2=>?_
 replace h2:=dt h2
 simp only[LM]at h2
 refine g 22 23 []<|J UA<|RT ?_
 rotate_left
 replace h2:=df h2
 simp only[LM]at h2
 refine W.skip<|g 22 24 []<|J UB<|W.sq<|g 24 25 []<|J UD<|W.blk ?_
 rotate_left
 ·exact vi (PQ OM).symm
 ·exact vi (PQ OM).symm
 have hlen:1≤p.tasks.length∧p.tasks.length≤40:=by omega
 refine W.lp (fun s (n:Nat)=>⟨[(1,s.s 1),(3,s.s 3),(4,s.s 4),(25,s.s 25),(26,s.s 26),(27,.i n)],[(1,[s.c 1 0])],[(23,(p.tasks.take n).map fun t=>Value.string t.name)]⟩) (fun(n:Nat)=>n≤p.tasks.length∧BZ p.tasks n) (fun(n:Nat)=>p.tasks.length - n) (0) [some 1] [23] ⟨rfl,⟨rfl,rfl,rfl,rfl,rfl,rfl,I⟩,⟨⟨rfl,⟨rfl,I⟩⟩,I⟩,⟨rfl,I⟩⟩ ?_ ?_
 ·exact⟨Nat.zero_le _,fun m t hm=>by omega⟩
 rintro n ⟨hn,hc⟩
 conv=>whnf
 refine g 0 0 []<|J UA<|W.sq<|W.cn<|J (fun h3=>?_) fun h3=>?_
 replace h3:=dt h3
 simp only[LM]at h3
 refine W.skip<|W.sq<|W.blk ?_
 obtain⟨y1,hy1⟩:=aj (xs:=Plan.tasks p) (n:=n) OM
 have hm1:=hw y1 (List.mem_of_getElem? hy1)
 refine g 28 31 [.x (aC y1)]<|J Zcn<|W.sq ?_
 by_cases h4:mZ (Task.name y1)
 refine g 31 40 [.call (V.b (decide (mZ y1.name))) [[]],BF,BF,BF,BF,.b (decide (y1.name∈List.map Task.name (List.take n p.tasks))),BF]<|J ⟨I,I,⟨UA,I,US,UA,rS _ OM⟩,I,I,⟨nO,I⟩,⟨nO,I⟩,⟨nO,I⟩,⟨nO,LY,EI⟩,nO,I⟩<|W.cn<|J (fun h5=>?_) fun h5=>?_
 replace h5:=dt h5
 refine g 40 41 []<|J UA<|RT ?_
 rotate_left
 replace h5:=df h5
 refine W.skip<|rg []<|J ⟨I,I,I,EI,I⟩<|rg [.i ((n:Int) +1)]<|J Zdm ?_
 rotate_left
 refine g 31 40 [.call (V.b (decide (mZ y1.name))) [[]],BT,BT,BT,BT,BT]<|J ⟨I,I,⟨UA,I,US,UA,rS _ OM⟩,I,I,af OM,af OM,af OM,af OM,af OM,I⟩<|W.cn<|J (fun _=>(g 40 41 []<|J UA (RT ?_))) (noF rfl)
 rotate_left
 replace h3:=df h3
 simp only[LM]at h3
 refine W.exit<|W.sq<|g 4 46 []<|J UD<|W.blk ?_
 rotate_left
 ·exact vi (PP hlen (su hy1 (by grind))).symm
 ·refine⟨n+1,[some 1],[23],⟨rfl,Zay,Zdp,⟨(congrArg some (Jd AS)),I⟩⟩,?_,?_⟩
  rotate_left
  (dsimp only;omega)
  dsimp only
  exact⟨by omega,wn hc hy1 (by grind)⟩
 ·exact vi (PP hlen (su hy1 (by grind))).symm
 have hnames:ic p.tasks:=Cj hc OM
 refine W.lp (fun s (n:Nat)=>⟨[(1,s.s 1),(3,s.s 3),(46,s.s 46),(47,s.s 47),(48,.i n)],[(1,[s.c 1 0])],[]⟩) (fun(n:Nat)=>n≤p.tasks.length∧∀ t∈p.tasks.take n,1≤t.cost∧t.cost≤20) (fun(n:Nat)=>p.tasks.length - n) (0) [some 1] [] ⟨rfl,Za8,Zdp,I⟩ (by simp) ?_
 rintro n2 ⟨hn2,hc2⟩
 conv=>whnf
 refine g 0 0 []<|J UA<|W.sq<|W.cn<|J (fun h4=>?_) fun h4=>?_
 replace h4:=dt h4
 simp only[LM]at h4
 refine W.skip<|W.sq<|W.blk ?_
 obtain⟨y1,hy1⟩:=aj (xs:=Plan.tasks p) (n:=n2) OM
 have hm1:=hw y1 (List.mem_of_getElem? hy1)
 refine g 49 52 [.x (aC y1)]<|J Zcn ?_
 by_cases h5:Task.cost y1 < (1:Int)
 refine g 52 59 [BT,BT,BT,BT]<|J ⟨I,I,I,I,tO,tO,tO,tO,I⟩<|W.cn<|J (fun _=>(g 8 9 []<|J UA (RT ?_))) (noF rfl)
 rotate_left
 refine g 52 59 [BF,BF,BF,BF]<|J ⟨I,I,I,I,⟨dO,I⟩,⟨dO,I⟩,⟨dO,I⟩,dO,I⟩<|W.cn<|J (fun h6=>?_) fun h6=>?_
 replace h6:=dt h6
 refine g 8 9 []<|J UA<|RT ?_
 rotate_left
 replace h6:=df h6
 refine W.skip<|rg [.i ((n2:Int) +1)]<|J Zdm ?_
 rotate_left
 replace h4:=df h4
 simp only[LM]at h4
 refine W.exit<|W.sq<|g 46 62 []<|J UD<|W.blk ?_
 rotate_left
 ·exact vi (PO hlen hnames (sE AS OM)).symm
 ·exact vi (PO hlen hnames (sE AS OM)).symm
 ·refine⟨n2+1,[some 1],[],⟨rfl,Za8,Zdp,I⟩,?_,?_⟩
  rotate_left
  (dsimp only;omega)
  dsimp only
  exact⟨by omega,sI hc2 AS OM⟩
 have hcosts:jr p.tasks:=sJ hc2 OM
 refine W.lp (fun s (n:Nat)=>⟨[(3,s.s 3),(62,s.s 62),(63,s.s 63),(64,.i n)],[],[]⟩) (fun(n:Nat)=>n≤p.tasks.length∧Ht p.tasks n) (fun(n:Nat)=>p.tasks.length - n) (0) [] [] ⟨rfl,⟨rfl,rfl,rfl,rfl,I⟩,I,I⟩ ?_ ?_
 ·exact⟨Nat.zero_le _,fun m t hm=>by omega⟩
 rintro n3 ⟨hn3,hc3⟩
 conv=>whnf
 refine g 0 0 []<|J UA<|W.sq<|W.cn<|J (fun h5=>?_) fun h5=>?_
 replace h5:=dt h5
 simp only[LM]at h5
 refine W.skip<|W.sq<|W.blk ?_
 obtain⟨y1,hy1⟩:=aj (xs:=Plan.tasks p) (n:=n3) OM
 have hm1:=hw y1 (List.mem_of_getElem? hy1)
 refine g 65 69 [.x (aC y1)]<|J Zbt<|W.sq<|g 69 72 []<|J UD<|W.cn<|J (fun h6=>?_) fun h6=>?_
 replace h6:=dt h6
 simp only[LM]at h6
 refine g 72 73 []<|J UA<|RT ?_
 rotate_left
 replace h6:=df h6
 simp only[LM]at h6
 refine W.skip<|g 72 73 []<|J UA<|g 10 11 []<|J UD<|W.blk ?_
 rotate_left
 replace h5:=df h5
 simp only[LM]at h5
 refine W.exit<|g 62 66 []<|J UA<|RT ?_
 rotate_left
 ·exact vi (IY hlen hnames hcosts (mQ AS (fun e=>by have:=e.1;omega))).symm
 ·skip
  refine W.lp (fun s (x:Nat×Int)=>match x with|(k,last)=>⟨[(3,s.s 3),(9,s.s 9),(11,.i last),(62,s.s 62),(63,s.s 63),(64,s.s 64),(74,s.s 74),(75,s.s 75),(76,.i k)],[],[]⟩) (fun(x:Nat×Int)=>match x with|(k,last)=>k≤y1.deps.length∧m8 n3 y1.deps k last) (fun(x:Nat×Int)=>match x with|(k,last)=>y1.deps.length - k) ((0,-1)) [] [] ⟨rfl,⟨rfl,rfl,rfl,rfl,rfl,rfl,rfl,rfl,rfl,I⟩,I,I⟩ ?_ ?_
  ·exact⟨Nat.zero_le _,Iff.rfl⟩
  rintro⟨k,last⟩ ⟨hk,hi⟩
  conv=>whnf
  refine g 0 0 []<|J UA<|W.sq<|W.cn<|J (fun h7=>?_) fun h7=>?_
  replace h7:=dt h7
  simp only[LM]at h7
  refine W.skip<|W.sq<|W.blk ?_
  obtain⟨y2,hy2⟩:=aj (xs:=Task.deps y1) (n:=k) OM
  refine g 77 80 [.x (dJ y2)]<|J Zcm<|W.sq ?_
  by_cases h8:y2≤last
  refine g 80 87 [BT,BT,BT,BT]<|J ⟨I,I,I,I,tO,tO,tO,tO,I⟩<|W.cn<|J (fun _=>(g 87 88 []<|J UA (RT ?_))) (noF rfl)
  rotate_left
  refine g 80 87 [BF,BF,BF,BF]<|J ⟨I,I,I,I,⟨dO,I⟩,⟨dO,I⟩,⟨dO,I⟩,dO,I⟩<|W.cn<|J (fun h9=>?_) fun h9=>?_
  replace h9:=dt h9
  refine g 87 88 []<|J UA<|RT ?_
  rotate_left
  replace h9:=df h9
  refine W.skip<|rg []<|J UB<|rg [.i ((k:Int) +1)]<|J Zdm ?_
  rotate_left
  replace h7:=df h7
  simp only[LM]at h7
  refine W.exit<|rg [.i ((n3:Int) +1)]<|J Zdm ?_
  rotate_left
  ·exact vi (IY hlen hnames hcosts (mQ hy1 (fun e=>tl hi AS OM e.2))).symm
  ·exact vi (IY hlen hnames hcosts (mQ hy1 (fun e=>tl hi AS OM e.2))).symm
  ·refine⟨(k+1,y2),[],[],⟨rfl,Zc6,I,I⟩,?_,?_⟩
   rotate_left
   (dsimp only;omega)
   dsimp only
   exact⟨by omega,ua hi AS OM⟩
  ·refine⟨n3+1,[],[],⟨rfl,Zcc,I,I⟩,?_,?_⟩
   rotate_left
   (dsimp only;omega)
   dsimp only
   exact⟨by omega,wn hc3 hy1 ⟨by omega,EN hi OM⟩⟩
 exact vi (TD hlen hnames hcosts (Cj hc3 OM)).symm
end Go.K
end
section
open Go Go.Tm Go.Proofs Classical
namespace Go.K
theorem Bn{xs:List Task}{n k:Nat}{a:Task}(h:xs[k]? = some a)(hk:k < n):a.name∈(xs.take n).map Task.name:=by
 refine List.mem_map.2 ⟨a,?_,rfl⟩
 refine List.mem_of_getElem? (i:=k) ?_
 rw[List.getElem?_take,if_pos hk];exact h
theorem Jr{xs:List Task}{n k:Nat}{s:ByteArray}{a:Task}(h:s ∉ (xs.take k).map Task.name)(ha:xs[k]? = some a)(hne:a.name≠s):s ∉ (xs.take (k+1)).map Task.name:=by
 rw[List.take_add_one,ha];simp only[List.map_append,List.mem_append,not_or]
 exact⟨h,by simpa using fun e=>hne e.symm⟩
theorem HY{d:List Int}{k:Nat}{l y:Int}(h:d[k - 1]? = some l)(hy:d[((k:Int) - 1).toNat]? = some y):y = l:=by
 have e:((k:Int) - 1).toNat = k - 1:=by omega
 rw[e,h]at hy;cases hy;rfl
theorem bN(p:Plan)(hp:cQ p):F sV [.val (cE p)] (.i (ah p.tasks)) [[]]:=by
 have hl:p.tasks.length≤9223372036854775807:=hp.1
 have hw:∀ y∈p.tasks,y.name.size≤9223372036854775807∧y.deps.length≤9223372036854775807:=hp.2
 refine tq ?_
 conv=>whnf
 refine g 0 1 []<|J Zdu<|g 10 13 []<|J UD<|W.sq ?_
 by_cases h1:(↑(List.length (List.map aC (Plan.tasks p))):Int) < (1:Int)
 simp only[LM]at h1
 refine g 14 16 [BT,BT,BT]<|J ⟨I,I,I,SI,SI,SI,I⟩<|W.cn<|J (fun _=>(g 17 19 []<|J UA (RT ?_))) (noF rfl)
 rotate_left
 simp only[LM]at h1
 refine g 14 16 [BF,BF,BF]<|J ⟨I,I,I,⟨SI,I⟩,⟨SI,I⟩,SI,I⟩<|W.cn<|J (fun h2=>?_) fun h2=>?_
 replace h2:=dt h2
 simp only[LM]at h2
 refine g 17 19 []<|J UA<|RT ?_
 rotate_left
 replace h2:=df h2
 simp only[LM]at h2
 refine W.skip<|W.sq<|g 17 19 []<|J UA<|W.blk ?_
 rotate_left
 ·exact vi (PQ OM).symm
 ·exact vi (PQ OM).symm
 have hlen:1≤p.tasks.length∧p.tasks.length≤40:=by omega
 refine W.lp (fun s (n:Nat)=>⟨[(1,s.s 1),(3,s.s 3),(4,.i n),(13,s.s 13),(16,s.s 16)],[(1,[s.c 1 0])],[]⟩) (fun(n:Nat)=>n≤p.tasks.length∧BZ p.tasks n) (fun(n:Nat)=>p.tasks.length - n) (0) [some 1] [] ⟨rfl,⟨rfl,rfl,rfl,rfl,rfl,I⟩,⟨⟨rfl,⟨rfl,I⟩⟩,I⟩,I⟩ ?_ ?_
 ·exact⟨Nat.zero_le _,fun m t hm=>by omega⟩
 rintro n ⟨hn,hc⟩
 conv=>whnf
 refine W.sq<|g 19 21 []<|J UC<|W.cn<|J (fun h3=>?_) fun h3=>?_
 replace h3:=dt h3
 simp only[LM]at h3
 refine W.skip<|W.sq<|W.blk<|W.sq ?_
 obtain⟨y1,hy1⟩:=aj (xs:=Plan.tasks p) (n:=n) OM
 have hm1:=hw y1 (List.mem_of_getElem? hy1)
 refine g 21 31 [.x (aC y1),.call (V.b (decide (mZ y1.name))) [[]]]<|J ⟨I,I,I,Zdj,I,I,⟨UA,I,US,UA,vE _ OM⟩,I,I⟩<|W.cn<|J (fun h4=>?_) fun h4=>?_
 replace h4:=ndt h4
 refine g 31 32 []<|J UA<|RT ?_
 rotate_left
 replace h4:=ndf h4
 refine W.skip<|g 31 32 []<|J UA<|W.blk ?_
 rotate_left
 replace h3:=df h3
 simp only[LM]at h3
 refine W.exit<|W.sq<|g 4 5 []<|J UA<|W.blk ?_
 rotate_left
 ·exact vi (PP hlen (su hy1 (fun e=>absurd e.1 AS))).symm
 ·refine W.lp (fun s (k:Nat)=>⟨[(1,s.s 1),(3,s.s 3),(4,s.s 4),(5,.i k),(13,s.s 13),(16,s.s 16)],[(1,[s.c 1 0])],[]⟩) (fun(k:Nat)=>k≤n∧y1.name ∉ (p.tasks.take k).map Task.name) (fun(k:Nat)=>n - k) (0) [some 1] [] ⟨rfl,Zay,Zdp,I⟩ (by simp) ?_
  rintro k ⟨hk,hm⟩
  conv=>whnf
  refine W.sq<|g 32 34 []<|J UC<|W.cn<|J (fun h5=>?_) fun h5=>?_
  replace h5:=dt h5
  refine W.skip<|W.sq<|W.blk ?_
  obtain⟨y2,hy2⟩:=aj (xs:=Plan.tasks p) (n:=k) OM
  have hm2:=hw y2 (List.mem_of_getElem? hy2)
  refine gd 34 49 [[],[],[],[.x (aC y2)],[],[],[],[],[],[.x (aC y1)],[],[],[]] ?_
  conv=>whnf
  refine J ⟨I,I,I,Zdj,I,I,I,I,I,Zdj,I,I,I,I⟩<|J KR<|W.cn<|J (fun h6=>?_) fun h6=>?_
  replace h6:=dt h6
  refine g 49 50 []<|J UA<|RT ?_
  rotate_left
  replace h6:=df h6
  refine W.skip<|rg [.i ((k:Int) +1)]<|J Zdf ?_
  rotate_left
  replace h5:=df h5
  refine W.exit<|rg [.i ((n:Int) +1)]<|J Zdf ?_
  rotate_left
  ·exact vi (PP hlen (su hy1 (fun e=>e.2 (by rw[←(show y2.name = y1.name by assumption)];exact Bn hy2 OM)))).symm
  ·refine⟨k+1,[some 1],[],⟨rfl,Zay,Zdp,I⟩,?_,?_⟩
   rotate_left
   (dsimp only;omega)
   dsimp only
   exact⟨by omega,Jr (n:=n) hm hy2 AS⟩
  ·refine⟨n+1,[some 1],[],⟨rfl,Za8,Zdp,I⟩,?_,?_⟩
   rotate_left
   (dsimp only;omega)
   dsimp only
   exact⟨by omega,wn hc hy1 ⟨by assumption,by rwa [show k = n by omega]at hm⟩⟩
 have hnames:ic p.tasks:=Cj hc OM
 refine W.lp (fun s (n:Nat)=>⟨[(1,s.s 1),(3,s.s 3),(6,.i n),(13,s.s 13),(16,s.s 16)],[(1,[s.c 1 0])],[]⟩) (fun(n:Nat)=>n≤p.tasks.length∧∀ t∈p.tasks.take n,1≤t.cost∧t.cost≤20) (fun(n:Nat)=>p.tasks.length - n) (0) [some 1] [] ⟨rfl,Za8,Zdp,I⟩ (by simp) ?_
 rintro n2 ⟨hn2,hc2⟩
 conv=>whnf
 refine W.sq<|g 50 52 []<|J UC<|W.cn<|J (fun h4=>?_) fun h4=>?_
 replace h4:=dt h4
 simp only[LM]at h4
 refine W.skip<|W.sq<|W.blk ?_
 obtain⟨y1,hy1⟩:=aj (xs:=Plan.tasks p) (n:=n2) OM
 have hm1:=hw y1 (List.mem_of_getElem? hy1)
 by_cases h5:Task.cost y1 < (1:Int)
 refine g 52 70 [.x (aC y1),BT,BT,BT,BT,BT,BT,BT,BT]<|J ⟨I,I,I,Zdj,I,I,I,I,tO,tO,tO,tO,tO,tO,tO,tO,I⟩<|W.cn<|J (fun _=>(g 70 71 []<|J UA (RT ?_))) (noF rfl)
 rotate_left
 refine g 52 70 [.x (aC y1),BF,BF,BF,BF,.x (aC y1),BF,BF,BF,BF]<|J ⟨I,I,I,Zdj,I,I,I,I,⟨dO,I⟩,⟨dO,I⟩,⟨dO,I⟩,⟨dO,OM,xA⟩,⟨dO,I⟩,⟨dO,I⟩,⟨dO,I⟩,dO,I⟩<|W.cn<|J (fun h6=>?_) fun h6=>?_
 replace h6:=dt h6
 refine g 70 71 []<|J UA<|RT ?_
 rotate_left
 replace h6:=df h6
 refine W.skip<|rg [.i ((n2:Int) +1)]<|J Zdf ?_
 rotate_left
 replace h4:=df h4
 simp only[LM]at h4
 refine W.exit<|W.sq<|g 6 7 []<|J UA<|W.blk ?_
 rotate_left
 ·exact vi (PO hlen hnames (sE AS OM)).symm
 ·exact vi (PO hlen hnames (sE AS OM)).symm
 ·refine⟨n2+1,[some 1],[],⟨rfl,Za8,Zdp,I⟩,?_,?_⟩
  rotate_left
  (dsimp only;omega)
  dsimp only
  exact⟨by omega,sI hc2 AS OM⟩
 have hcosts:jr p.tasks:=sJ hc2 OM
 refine W.lp (fun s (n:Nat)=>⟨[(1,s.s 1),(3,s.s 3),(7,.i n),(13,s.s 13),(16,s.s 16)],[(1,[s.c 1 0])],[]⟩) (fun(n:Nat)=>n≤p.tasks.length∧Ht p.tasks n) (fun(n:Nat)=>p.tasks.length - n) (0) [some 1] [] ⟨rfl,⟨rfl,rfl,rfl,rfl,rfl,I⟩,⟨⟨rfl,⟨rfl,I⟩⟩,I⟩,I⟩ ?_ ?_
 ·exact⟨Nat.zero_le _,fun m t hm=>by omega⟩
 rintro n3 ⟨hn3,hc3⟩
 conv=>whnf
 refine W.sq<|g 71 73 []<|J UC<|W.cn<|J (fun h5=>?_) fun h5=>?_
 replace h5:=dt h5
 simp only[LM]at h5
 refine W.skip<|W.sq<|W.blk ?_
 obtain⟨y1,hy1⟩:=aj (xs:=Plan.tasks p) (n:=n3) OM
 have hm1:=hw y1 (List.mem_of_getElem? hy1)
 refine g 73 82 [.x (aC y1)]<|J ⟨I,I,I,Zdj,I,I,I,I⟩<|W.sq<|g 82 84 []<|J UC<|W.cn<|J (fun h6=>?_) fun h6=>?_
 replace h6:=dt h6
 simp only[LM]at h6
 refine g 84 85 []<|J UA<|RT ?_
 rotate_left
 replace h6:=df h6
 simp only[LM]at h6
 refine W.skip<|g 84 85 []<|J UA<|W.blk ?_
 rotate_left
 replace h5:=df h5
 simp only[LM]at h5
 refine W.exit<|g 7 74 []<|J UA<|RT ?_
 rotate_left
 ·exact vi (IY hlen hnames hcosts (mQ AS (fun e=>by have:=e.1;omega))).symm
 ·refine W.lp (fun s (x:Nat×Int)=>match x with|(k,last)=>⟨[(1,s.s 1),(3,s.s 3),(7,s.s 7),(8,s.s 8),(9,.i k),(13,s.s 13),(16,s.s 16)],[(1,[s.c 1 0])],[]⟩) (fun(x:Nat×Int)=>match x with|(k,last)=>k≤y1.deps.length∧m8 n3 y1.deps k last∧ -1≤last∧(k = 0→last = -1)∧(0 < k→y1.deps[k - 1]? = some last)) (fun(x:Nat×Int)=>match x with|(k,last)=>y1.deps.length - k) ((0,-1)) [some 1] [] ⟨rfl,⟨rfl,rfl,rfl,rfl,rfl,rfl,rfl,I⟩,⟨⟨rfl,⟨rfl,I⟩⟩,I⟩,I⟩ ?_ ?_
  ·exact⟨Nat.zero_le _,Iff.rfl,by omega,fun _=>rfl,fun h=>by omega⟩
  rintro⟨k,last⟩ ⟨hk,hi,hlo,hz,hs⟩
  conv=>whnf
  refine W.sq<|g 85 88 []<|J UD<|W.cn<|J (fun h7=>?_) fun h7=>?_
  replace h7:=dt h7
  simp only[LM]at h7
  refine W.skip<|W.sq<|W.blk ?_
  obtain⟨y2,hy2⟩:=aj (xs:=Task.deps y1) (n:=k) OM
  by_cases h8:y2 < (0:Int)
  refine gd 88 119 [[],[],[.x (dJ y2)],[],[],[],[BT],[BT],[BT],[BT],[BT],[BT],[BT],[],[BT],[BT],[BT],[BF],[BF],[BF],[BF],[BF],[BF],[BF],[BF],[BF],[BF],[BT],[BT]] ?_
  conv=>whnf
  refine J ⟨I,I,Zdj,I,I,I,tO,tO,tO,tO,tO,tO,tO,I,rfl,rfl,rfl,I,I,I,I,I,I,I,I,I,I,rfl,rfl,I⟩<|J KR<|W.cn<|J (fun _=>(g 119 120 []<|J UA (RT ?_))) (noF rfl)
  rotate_left
  by_cases h9:(↑n3:Int)≤y2
  refine gd 88 119 [[],[],[.x (dJ y2)],[],[],[],[BF],[BF],[BF,.x (dJ y2)],[BF],[BF],[BF],[BF],[],[BT],[BT],[BT],[BF],[BF],[BF],[BF],[BF],[BF],[BF],[BF],[BF],[BF],[BT],[BT]] ?_
  conv=>whnf
  refine J ⟨I,I,Zdj,I,I,I,⟨dO,I⟩,⟨dO,I⟩,⟨dO,OM,xA⟩,⟨dO,I⟩,⟨dO,I⟩,⟨dO,I⟩,dO,I,tO,tO,tO,I,I,I,I,I,I,I,I,I,I,tO,tO,I⟩<|J KR<|W.cn<|J (fun _=>(g 119 120 []<|J UA (RT ?_))) (noF rfl)
  rotate_left
  by_cases h10:(0:Int) < (↑k:Int)
  obtain⟨y3,hy3⟩:=aj (xs:=Task.deps y1) (n:=Int.toNat ((↑k:Int) - (1:Int))) OM
  refine gd 88 119 [[],[],[.x (dJ y2)],[],[],[],[BF],[BF],[BF,.x (dJ y2)],[BF],[BF],[BF],[BF],[],[BF],[BF],[BF],[BT],[BT],[BT,.i ((k:Int) - 1)],[BT,.x (dJ y3)],[BT],[BT],[BT],[BT,.x (dJ y2)],[BT],[BT],[BF,BT],[BF]] ?_
  conv=>whnf
  refine J ⟨I,I,Zdj,I,I,I,⟨dO,I⟩,⟨dO,I⟩,⟨dO,OM,xA⟩,⟨dO,I⟩,⟨dO,I⟩,⟨dO,I⟩,dO,I,⟨dO,I⟩,⟨dO,I⟩,⟨dO,I⟩,⟨tO,I⟩,⟨tO,I⟩,⟨tO,wO⟩,⟨tO,OM,xA⟩,⟨tO,I⟩,⟨tO,I⟩,⟨tO,I⟩,⟨tO,OM,xA⟩,⟨tO,I⟩,⟨tO,I⟩,⟨dO,tO⟩,dO,I⟩<|J KR<|W.cn<|J (fun h11=>?_) fun h11=>?_
  replace h11:=dt h11
  refine g 119 120 []<|J UA<|RT ?_
  rotate_left
  replace h11:=df h11
  refine W.skip<|rg [.i ((k:Int) +1)]<|J Zdf ?_
  rotate_left
  refine gd 88 119 [[],[],[.x (dJ y2)],[],[],[],[BF],[BF],[BF,.x (dJ y2)],[BF],[BF],[BF],[BF],[],[BF],[BF],[BF],[BF],[BF],[BF],[BF],[BF],[BF],[BF],[BF],[BF],[BF],[BF,BF],[BF]] ?_
  conv=>whnf
  refine J ⟨I,I,Zdj,I,I,I,⟨dO,I⟩,⟨dO,I⟩,⟨dO,OM,xA⟩,⟨dO,I⟩,⟨dO,I⟩,⟨dO,I⟩,dO,I,⟨dO,I⟩,⟨dO,I⟩,⟨dO,I⟩,dO,dO,dO,dO,dO,dO,dO,dO,dO,dO,⟨dO,dO⟩,dO,I⟩<|J KR<|W.cn<|J (noT rfl) fun _=>W.skip<|rg [.i ((k:Int) +1)]<|J Zdf ?_
  rotate_left
  replace h7:=df h7
  simp only[LM]at h7
  refine W.exit<|rg [.i ((n3:Int) +1)]<|J Zdf ?_
  rotate_left
  ·exact vi (IY hlen hnames hcosts (mQ hy1 (fun e=>tl hi hy2 OM e.2))).symm
  ·exact vi (IY hlen hnames hcosts (mQ hy1 (fun e=>tl hi hy2 OM e.2))).symm
  ·have hl3:=HY (hs OM) hy3
   exact vi (IY hlen hnames hcosts (mQ hy1 (fun e=>tl hi hy2 OM e.2))).symm
  ·have hl3:=HY (hs OM) hy3
   refine⟨(k+1,y2),[some 1],[],⟨rfl,Zbh,Zdp,I⟩,?_,?_⟩
   rotate_left
   (dsimp only;omega)
   dsimp only
   exact⟨by omega,ua hi hy2 OM,by omega,fun e=>by omega,fun _=>hy2⟩
  ·have hl3:=hz OM
   refine⟨(k+1,y2),[some 1],[],⟨rfl,Zbh,Zdp,I⟩,?_,?_⟩
   rotate_left
   (dsimp only;omega)
   dsimp only
   exact⟨by omega,ua hi hy2 OM,by omega,fun e=>by omega,fun _=>hy2⟩
  ·refine⟨n3+1,[some 1],[],⟨rfl,Za8,Zdp,I⟩,?_,?_⟩
   rotate_left
   (dsimp only;omega)
   dsimp only
   exact⟨by omega,wn hc3 hy1 ⟨by omega,EN hi OM⟩⟩
 exact vi (TD hlen hnames hcosts (Cj hc3 OM)).symm
end Go.K
end
section
open Go Go.Tm Go.Proofs
namespace Go.K
def cF(all:List ByteArray)(ds:List Int):List ByteArray:=ds.map fun d=>(all[d.toNat]?).getD emp
def dj(ts:List Task)(n:Nat):List ByteArray:=(ts.take n).foldl (fun acc t=>acc++ [bR t.name (cF acc t.deps)]) []
theorem uq(nm:ByteArray)(xs:List ByteArray):(bR nm xs).size = 8:=by unfold bR;rw[gB,pD]
noncomputable def cz(p:Plan):List ByteArray:=if ah p.tasks = 0 then dj p.tasks p.tasks.length else []
def cu(rs:List ByteArray)(ds:List Int):Prop:=∀ d∈ds,¬(rs[d.toNat]?).getD emp = emp
noncomputable instance (rs:List ByteArray) (ds:List Int):Decidable (cu rs ds):=Classical.propDecidable _
structure Tale where
 epoch:Int
 results:List ByteArray
open Classical in
noncomputable def cY(ts:List Task)(st:Tale)(s:ByteArray):Option Tale :=
 match dy s with
 |none=>none
 |some e =>
  if e.kind = 1 then(if e.epoch = st.epoch+1 then some ⟨e.epoch,st.results⟩else none)
  else if e.epoch = st.epoch∧e.task < ts.length∧(st.results[e.task.toNat]?).getD emp = emp∧cu st.results ((ts[e.task.toNat]?).map Task.deps|>.getD [])then some ⟨st.epoch,st.results.set e.task.toNat e.text⟩else none
noncomputable def iw(ts:List Task)(st:Option Tale)(l:List ByteArray):Option Tale:=l.foldl (fun a s=>a.bind fun t=>cY ts t s) st
noncomputable def kS(ts:List Task):Tale:=⟨0,List.replicate ts.length emp⟩
theorem ly(ts:List Task)(l:List ByteArray)(st:Option Tale)(m:List ByteArray):iw ts st (l++m) = iw ts (iw ts st l) m:=by unfold iw;rw[List.foldl_append]
theorem fS(ts:List Task):∀ (l:List ByteArray),iw ts none l = none
 |[]=>rfl
 |s :: l=>fS ts l
theorem jz(ts:List Task)(st:Option Tale):iw ts st [] = st:=rfl
theorem og(ts:List Task)(t:Tale)(s:ByteArray)(l:List ByteArray):iw ts (some t) (s :: l) = iw ts (cY ts t s) l:=rfl
theorem z6{ts:List Task}{xs:List ByteArray}{n:Nat}{s:ByteArray}{st:Option Tale}{t:Tale}(h:iw ts st (xs.take n) = some t)(hs:xs[n]? = some s):iw ts st (xs.take (n+1)) = cY ts t s:=by
 rw[List.take_add_one,hs,ly,h];rfl
theorem Lr{ts:List Task}{xs:List ByteArray}{n:Nat}{s:ByteArray}{st:Option Tale}{t:Tale}(h:iw ts st (xs.take n) = some t)(hs:xs[n]? = some s)(hb:cY ts t s = none):iw ts st xs = none:=by
 have h2:=z6 h hs
 rw[hb]at h2
 rw[←List.take_append_drop (n+1) xs,ly,h2,fS]
theorem Ls{ts:List Task}{xs:List ByteArray}{n:Nat}{st:Option Tale}{t:Tale}(h:iw ts st (xs.take n) = some t)(hn:xs.length≤n):iw ts st xs = some t:=by
 rw[List.take_of_length_le hn]at h;exact h
theorem Jc{ts:List Task}{t t':Tale}{s:ByteArray}(h:cY ts t s = some t'):t'.results.length = t.results.length:=by
 unfold cY at h
 split at h
 ·cases h
 ·split at h
  ·split at h
   ·cases h;rfl
   ·cases h
  ·split at h
   ·cases h;simp
   ·cases h
theorem si(ts:List Task):∀ (l:List ByteArray) (t t':Tale),iw ts (some t) l = some t'→t'.results.length = t.results.length
 |[],t,t',h=>by rw[jz]at h;cases h;rfl
 |s :: l,t,t',h=>by
  rw[og]at h
  cases hs:cY ts t s with
  |none=>rw[hs,fS]at h;cases h
  |some u=>rw[hs]at h;rw[si ts l u t' h,Jc hs]
end Go.K
end
section
open Go Go.Tm Go.Proofs
namespace Go.K
abbrev QN(ds:List Int):T:=.slc [false] (ds.map dJ)
theorem wQ{all:List ByteArray}{ds:List Int}{n:Nat}{d:Int}{y:ByteArray}(h:ds[n]? = some d)(hy:all[d.toNat]? = some y):cF all (ds.take (n+1)) = cF all (ds.take n) ++ [y]:=by
 unfold cF;rw[List.take_add_one,h];simp[hy]
theorem Ae{all:List ByteArray}{ds:List Int}{n:Nat}{d:Int}{y:ByteArray}(h:ds[n]? = some d)(hy:all[d.toNat]? = some y):(cF all (ds.take n)).map ak++ [ak y] = (cF all (ds.take (n+1))).map ak:=by
 rw[wQ h hy,List.map_append];rfl
theorem DF(all:List ByteArray)(ds:List Int)(hd:∀ d∈ds,0≤d∧d < all.length)(hl:ds.length≤1048576):F C9 [.val (.t (wt all)),.val (.t (QN ds))] (.own [false] ((cF all ds).map ak)) [[],[]]:=by
 refine Dq ?_
 conv=>whnf
 refine g 0 0 []<|J UA<|g 0 0 []<|J UA<|W.sq<|g 1 2 []<|J UC<|W.blk<|W.lp (fun s (n:Nat)=>⟨[(0,s.s 0),(4,s.s 4),(5,.ref ⟨5,none,0⟩),(8,s.s 8),(9,s.s 9),(10,.i n)],[(5,[.own [false] ((cF all (ds.take n)).map ak)])],[]⟩) (fun(n:Nat)=>n≤ds.length) (fun(n:Nat)=>ds.length - n) (0) [none] [] ⟨rfl,⟨rfl,rfl,⟨rfl,rfl,rfl⟩,rfl,rfl,rfl,I⟩,UA,I⟩ OM ?_
 intro n hn
 have hx:(cF all (ds.take n)).length = n:=by unfold cF;rw[List.length_map,List.length_take];omega
 conv=>whnf
 refine g 0 0 []<|J UA<|W.sq<|W.cn<|J (fun h1=>?_) fun h1=>?_
 replace h1:=dt h1
 simp only[LM]at h1
 refine W.skip<|W.sq<|W.blk ?_
 obtain⟨y1,hy1⟩:=aj (xs:=ds) (n:=n) OM
 have hm1:=hd y1 (List.mem_of_getElem? hy1)
 refine g 11 14 [.x (dJ y1)]<|J Zcm ?_
 obtain⟨y2,hy2⟩:=aj (xs:=all) (n:=Int.toNat y1) OM
 refine rg [.x (ak y2)]<|J ⟨I,I,I,Zdj,I,US,Zdi,I,I⟩<|rg [.i ((n:Int) +1)]<|J Zdm ?_
 rotate_left
 replace h1:=df h1
 simp only[LM]at h1
 refine W.exit<|g 5 12 []<|J UB<|RT ?_
 rotate_left
 ·refine⟨n+1,[some 20],[],⟨rfl,Zay,⟨⟨rfl,⟨(congrArg (V.own _) (Ae AS AS)),I⟩⟩,I⟩,I⟩,?_,?_⟩
  rotate_left
  (dsimp only;omega)
  dsimp only
  omega
 ·rw[List.take_of_length_le OM]
theorem Eh{rs:List ByteArray}{ds:List Int}{n:Nat}{d:Int}{y:ByteArray}(h:ds[n]? = some d)(hy:rs[d.toNat]? = some y)(e:y = emp):¬cu rs ds:=fun hr=>hr d (List.mem_of_getElem? h) (by rw[hy];exact e)
theorem wL{rs:List ByteArray}{ds:List Int}{n:Nat}{d:Int}{y:ByteArray}(hc:cu rs (ds.take n))(h:ds[n]? = some d)(hy:rs[d.toNat]? = some y)(e:¬y = emp):cu rs (ds.take (n+1)):=by
 intro x hx
 rw[List.take_add_one,h]at hx
 rcases List.mem_append.1 hx with hx|hx
 ·exact hc x hx
 ·rw[Option.toList,List.mem_singleton]at hx;subst hx;rw[hy];exact e
theorem iz(all:List ByteArray)(ds:List Int)(hd:∀ d∈ds,0≤d∧d < all.length)(hl:ds.length≤1048576):F Bj [.val (.t (wt all)),.val (.t (QN ds))] (.b (decide (cu all ds))) [[],[]]:=by
 refine Bw ?_
 conv=>whnf
 refine g 0 0 []<|J UA<|W.sq<|g 1 2 []<|J UC<|W.blk ?_
 refine W.lp (fun s (n:Nat)=>⟨[(0,s.s 0),(7,s.s 7),(8,s.s 8),(9,.i n)],[],[]⟩) (fun(n:Nat)=>n≤ds.length∧cu all (ds.take n)) (fun(n:Nat)=>ds.length - n) (0) [] [] ⟨rfl,⟨rfl,rfl,rfl,rfl,I⟩,I,I⟩ ?_ ?_
 ·exact⟨Nat.zero_le _,by unfold cu;simp⟩
 rintro n ⟨hn,hc⟩
 conv=>whnf
 refine g 0 0 []<|J UA<|W.sq<|W.cn<|J (fun h1=>?_) fun h1=>?_
 replace h1:=dt h1
 simp only[LM]at h1
 refine W.skip<|W.sq<|W.blk ?_
 obtain⟨y1,hy1⟩:=aj (xs:=ds) (n:=n) OM
 have hm1:=hd y1 (List.mem_of_getElem? hy1)
 refine g 10 13 [.x (dJ y1)]<|J Zcm ?_
 obtain⟨y2,hy2⟩:=aj (xs:=all) (n:=Int.toNat y1) OM
 refine g 13 17 [.x (ak y2)]<|J ⟨I,I,Zdj,I,I,I⟩<|W.cn<|J (fun h2=>?_) fun h2=>?_
 replace h2:=dt h2
 refine g 6 7 []<|J UA<|RT ?_
 rotate_left
 replace h2:=df h2
 refine W.skip<|rg [.i ((n:Int) +1)]<|J Zdm ?_
 rotate_left
 replace h1:=df h1
 simp only[LM]at h1
 refine W.exit<|g 7 11 []<|J UA<|RT ?_
 rotate_left
 ·exact vbf (Eh AS AS AS)
 ·refine⟨n+1,[],[],⟨rfl,Zcc,I,I⟩,?_,?_⟩
  rotate_left
  (dsimp only;omega)
  dsimp only
  exact⟨by omega,wL hc AS AS AS⟩
 ·exact vbt (by rw[List.take_of_length_le OM]at hc;exact hc)
end Go.K
end
section
open Go Go.Tm Go.Proofs
namespace Go.K
theorem xb{hi:Int}:∀ {last:Int} {ds:List Int},EO last hi ds→∀ d∈ds,last < d∧d < hi
 |_,[],_,d,h=>by cases h
 |last,x :: ds,h,d,hd=>by
  rw[EO]at h
  rcases List.mem_cons.1 hd with e|hd
  ·subst e;exact h.1
  ·have:=xb h.2 d hd;omega
theorem bP{ts:List Task}(h:ah ts = 0):(1≤ts.length∧ts.length≤40)∧ic ts∧jr ts∧vR ts:=by
 by_cases h1:1≤ts.length∧ts.length≤40
 ·by_cases h2:ic ts
  ·by_cases h3:jr ts
   ·by_cases h4:vR ts
    ·exact⟨h1,h2,h3,h4⟩
    ·rw[IY h1 h2 h3 h4]at h;cases h
   ·rw[PO h1 h2 h3]at h;cases h
  ·rw[PP h1 h2]at h;cases h
 ·rw[PQ h1]at h;cases h
theorem bz{ts:List Task}(h:ah ts = 0){n:Nat}{t:Task}(ht:ts[n]? = some t):(1≤t.name.size∧t.name.size≤30)∧(1≤t.cost∧t.cost≤20)∧t.deps.length≤8∧∀ d∈t.deps,0≤d∧d < n:=by
 obtain⟨h1,h2,h3,h4⟩:=bP h
 have hn:=(List.getElem?_eq_some_iff.1 ht).1
 refine⟨(h2 n t hn ht).1.2,h3 t (List.mem_of_getElem? ht),(h4 n t hn ht).1,fun d hd=>?_⟩
 have:=xb (h4 n t hn ht).2 d hd
 omega
theorem lf(all:List ByteArray)(ds:List Int):(cF all ds).length = ds.length:=by unfold cF;rw[List.length_map]
theorem xT:∀ {xs:List ByteArray},(∀ s∈xs,s.size≤8)→fB xs≤8 * xs.length
 |[],_=>by simp[fB]
 |s :: xs,h=>by
  have:=xT (xs:=xs) fun y hy=>h y (List.mem_cons_of_mem _ hy)
  have:=h s (List.mem_cons_self ..)
  simp only[fB,List.length_cons];omega
end Go.K
end
section
open Go Go.Tm Go.Proofs
namespace Go.K
structure Story where
 code:Int
 epoch:Int
 results:List ByteArray
 deriving DecidableEq
abbrev gj(x:Story):V:=.agg [.t (.i x.code),.t (.i x.epoch),.own [false] (x.results.map ak)]
noncomputable def bW(ts:List Task)(xs:List ByteArray)(n:Nat):Tale:=(iw ts (some (kS ts)) (xs.take n)).getD (kS ts)
def lw(ts:List Task)(xs:List ByteArray)(n:Nat):Prop:=iw ts (some (kS ts)) (xs.take n) = some (bW ts xs n)
theorem jL(ts:List Task)(xs:List ByteArray):bW ts xs 0 = kS ts:=by unfold bW;rw[List.take_zero,jz];rfl
theorem uv(ts:List Task)(xs:List ByteArray):lw ts xs 0:=by unfold lw;rw[jL,List.take_zero,jz]
theorem oa{ts:List Task}{xs:List ByteArray}{n:Nat}{s:ByteArray}{t:Tale}(h:lw ts xs n)(hs:xs[n]? = some s)(hst:cY ts (bW ts xs n) s = some t):lw ts xs (n+1)∧bW ts xs (n+1) = t:=by
 have e:=z6 h hs
 rw[hst]at e
 have e2:bW ts xs (n+1) = t:=by unfold bW;rw[e];rfl
 exact⟨by unfold lw;rw[e,e2],e2⟩
theorem D2{ts:List Task}{xs:List ByteArray}{n:Nat}(h:lw ts xs n):(bW ts xs n).results.length = ts.length:=by
 rw[si ts _ _ _ h,kS,List.length_replicate]
noncomputable def am(p:Plan)(xs:List ByteArray):Story :=
 if ah p.tasks = 0∧xs.length≤310 then
  match iw p.tasks (some (kS p.tasks)) xs with
  |none=>⟨2,0,[]⟩
  |some t=>⟨0,t.epoch,t.results⟩
 else⟨1,0,[]⟩
theorem lY{p:Plan}{xs:List ByteArray}(h:¬(ah p.tasks = 0∧xs.length≤310)):am p xs = ⟨1,0,[]⟩:=if_neg h
theorem dz{p:Plan}{xs:List ByteArray}{n:Nat}{s:ByteArray}(h:ah p.tasks = 0)(hl:xs.length≤310)(hc:lw p.tasks xs n)(hs:xs[n]? = some s)(hst:cY p.tasks (bW p.tasks xs n) s = none):am p xs = ⟨2,0,[]⟩:=by
 rw[am,if_pos ⟨h,hl⟩,Lr hc hs hst]
theorem wJ{p:Plan}{xs:List ByteArray}{n:Nat}(h:ah p.tasks = 0)(hl:xs.length≤310)(hc:lw p.tasks xs n)(hn:xs.length≤n):am p xs = ⟨0,(bW p.tasks xs n).epoch,(bW p.tasks xs n).results⟩:=by
 rw[am,if_pos ⟨h,hl⟩,Ls hc hn]
theorem z4{ts:List Task}{t:Tale}{s:ByteArray}(h:dy s = none):cY ts t s = none:=by unfold cY;rw[h]
theorem BQ{ts:List Task}{t:Tale}{s:ByteArray}{e:Entry}(h:dy s = some e)(hk:e.kind = 1)(he:e.epoch = t.epoch+1):cY ts t s = some ⟨e.epoch,t.results⟩:=by
 unfold cY;rw[h];simp only[if_pos hk,if_pos he]
theorem wv{ts:List Task}{t:Tale}{s:ByteArray}{e:Entry}(h:dy s = some e)(hk:e.kind = 1)(he:¬e.epoch = t.epoch+1):cY ts t s = none:=by
 unfold cY;rw[h];simp only[if_pos hk,if_neg he]
theorem xV{ts:List Task}{t:Tale}{s:ByteArray}{e:Entry}{k:Task}{y:ByteArray}(h:dy s = some e)(hk:¬e.kind = 1)(he:e.epoch = t.epoch)(ht:e.task < ts.length)(hy:t.results[e.task.toNat]? = some y)(hy2:y = emp)(hkk:ts[e.task.toNat]? = some k)(hr:cu t.results k.deps):cY ts t s = some ⟨t.epoch,t.results.set e.task.toNat e.text⟩:=by
 unfold cY;rw[h];simp only[if_neg hk]
 rw[if_pos ⟨he,ht,by rw[hy];exact hy2,by rw[hkk];exact hr⟩]
theorem sb{ts:List Task}{t:Tale}{s:ByteArray}{e:Entry}(h:dy s = some e)(hk:¬e.kind = 1)(hn:¬(e.epoch = t.epoch∧e.task < ts.length)):cY ts t s = none:=by
 unfold cY;rw[h];simp only[if_neg hk]
 rw[if_neg fun q=>hn ⟨q.1,q.2.1⟩]
theorem D7{ts:List Task}{t:Tale}{s:ByteArray}{e:Entry}{y:ByteArray}(h:dy s = some e)(hk:¬e.kind = 1)(hy:t.results[e.task.toNat]? = some y)(hn:¬y = emp):cY ts t s = none:=by
 unfold cY;rw[h];simp only[if_neg hk]
 rw[if_neg fun q=>hn (by have:=q.2.2.1;rw[hy]at this;exact this)]
theorem D6{ts:List Task}{t:Tale}{s:ByteArray}{e:Entry}{k:Task}(h:dy s = some e)(hk:¬e.kind = 1)(hkk:ts[e.task.toNat]? = some k)(hn:¬cu t.results k.deps):cY ts t s = none:=by
 unfold cY;rw[h];simp only[if_neg hk]
 rw[if_neg fun q=>hn (by have:=q.2.2.2;rw[hkk]at this;exact this)]
theorem fT{s:ByteArray}{e:Entry}(h:dy s = some e):e.ok:=by
 unfold dy at h
 split at h
 ·cases h
 ·split at h
  ·rename_i h1 h2
   cases h
   unfold cq at h2
   split at h2
   ·assumption
   ·rw[←h2]at h1;exact absurd (by decide:((emp.size:Nat):Int) < 4) h1
  ·cases h
theorem gO(p:Plan)(rs:List ByteArray)(k:Int){t:Task}(h0:0≤k)(ht:p.tasks[k.toNat]? = some t)(hd:∀ d∈t.deps,0≤d∧d < rs.length)(hl:t.deps.length≤1048576):F yG [.val (cE p),.val (.t (wt rs)),.val (.i k)] (.b (decide (cu rs t.deps))) [[],[],[]]:=by
 have hk:=(List.getElem?_eq_some_iff.1 ht).1
 refine ze ?_
 conv=>whnf
 refine g 0 1 []<|J Zdu<|g 9 15 [.x (aC t)]<|J ⟨I,I,I,⟨AS,xA⟩,I,I,I,I⟩<|W.sq<|g 2 4 []<|J UA<|W.blk ?_
 refine W.lp (fun s (n:Nat)=>⟨[(1,s.s 1),(7,s.s 7),(8,.i n)],[],[]⟩) (fun(n:Nat)=>n≤t.deps.length∧cu rs (t.deps.take n)) (fun(n:Nat)=>t.deps.length - n) (0) [] [] ⟨rfl,⟨rfl,rfl,rfl,I⟩,I,I⟩ ?_ ?_
 ·exact⟨Nat.zero_le _,by unfold cu;simp⟩
 rintro n ⟨hn,hc⟩
 conv=>whnf
 refine W.sq<|g 15 18 []<|J UD<|W.cn<|J (fun h1=>?_) fun h1=>?_
 replace h1:=dt h1
 simp only[LM]at h1
 refine W.skip<|W.sq<|W.blk ?_
 obtain⟨y1,hy1⟩:=aj (xs:=Task.deps t) (n:=n) OM
 have hm1:=hd y1 (List.mem_of_getElem? hy1)
 obtain⟨y2,hy2⟩:=aj (xs:=rs) (n:=Int.toNat y1) OM
 refine g 18 28 [.x (dJ y1),.x (ak y2)]<|J ⟨I,I,I,Zdj,I,Zdj,I,I,I⟩<|W.cn<|J (fun h2=>?_) fun h2=>?_
 replace h2:=dt h2
 refine g 28 29 []<|J UA<|RT ?_
 rotate_left
 replace h2:=df h2
 refine W.skip<|rg [.i ((n:Int) +1)]<|J Zdf ?_
 rotate_left
 replace h1:=df h1
 simp only[LM]at h1
 refine W.exit<|g 7 19 []<|J UA<|RT ?_
 rotate_left
 ·exact vbf (Eh AS AS AS)
 ·refine⟨n+1,[],[],⟨rfl,⟨rfl,rfl,rfl,I⟩,I,I⟩,?_,?_⟩
  rotate_left
  (dsimp only;omega)
  dsimp only
  exact⟨by omega,wL hc AS AS AS⟩
 ·exact vbt (by rw[List.take_of_length_le OM]at hc;exact hc)
theorem D1{ts:List Task}{e:Entry}(h:e.ok):0≤e.task∧e.task≤39∧1≤e.epoch∧e.epoch≤300:=⟨h.2.1.1,h.2.1.2,h.1.1,h.1.2⟩
theorem vY(ts:List Task)(xs:List ByteArray):List.replicate ts.length (ak emp) = (bW ts xs 0).results.map ak:=by rw[jL,kS,List.map_replicate]
theorem pA(p:Plan)(xs:List ByteArray)(hp:cQ p)(hx:∀ s∈xs,s.size≤281474976710656)(hl:xs.length≤9223372036854775806):F oZ [.val (cE p),.val (.t (wt xs))] (gj (am p xs)) [[],[]]:=by
 have c1:=eK p hp
 by_cases h:ah p.tasks = 0
 ·obtain⟨⟨hl1,hl2⟩,_⟩:=bP h
  rw[h]at c1
  by_cases hl3:xs.length≤310
  ·refine kh ?_
   conv=>whnf
   refine g 0 0 []<|J Zdu<|W.sq<|g 13 18 [.call (V.i 0) [[]],BF,BF,BF,BF]<|J ⟨I,Zai,I,I,Zde,Zde,Zde,rfl,I⟩<|W.cn<|J (fun h1=>?_) fun h1=>?_
   replace h1:=dt h1
   simp only[LM]at h1
   omega
   replace h1:=df h1
   simp only[LM]at h1
   refine W.skip<|gd 21 24 [[],[],[],[.n (List.length (List.map aC p.tasks))],[],[]] ?_
   conv=>whnf
   refine J ⟨I,I,I,⟨rfl,rfl,LN⟩,I,I,I⟩<|J KR<|W.sq<|g 11 12 []<|J UC<|W.blk ?_
   refine W.lp (fun s (n:Nat)=>⟨[(0,s.s 0),(1,s.s 1),(2,s.s 2),(4,s.s 4),(5,.i (bW p.tasks xs n).epoch),(6,.ref ⟨23,none,0⟩),(12,s.s 12),(20,s.s 20),(24,s.s 24),(25,s.s 25),(26,.i n)],[(2,[s.c 2 0]),(4,[s.c 4 0,s.c 4 1,s.c 4 2]),(23,[.own [false] ((bW p.tasks xs n).results.map ak)])],[]⟩) (fun(n:Nat)=>n≤xs.length∧lw p.tasks xs n∧0≤(bW p.tasks xs n).epoch∧(bW p.tasks xs n).epoch≤300) (fun(n:Nat)=>xs.length - n) (0) [some 2,some 4,some 23] [] ⟨rfl,⟨⟨_,rfl,_,_,rfl,rfl,rfl⟩,rfl,rfl,rfl,rfl,rfl,rfl,rfl,rfl,rfl,rfl,I⟩,⟨⟨rfl,⟨rfl,I⟩⟩,⟨⟨rfl,⟨rfl,⟨rfl,⟨rfl,I⟩⟩⟩⟩,⟨⟨rfl,⟨(congrArg (V.own _) (by rw[List.length_map];exact vY _ _)),I⟩⟩,I⟩⟩⟩,I⟩ ?_ ?_
   ·rw[jL];exact⟨Nat.zero_le _,uv _ _,Int.le_refl _,by show(0:Int)≤300;omega⟩
   rintro n ⟨hn,hc,he0,he1⟩
   have hrl:=D2 hc
   by_cases hn2:n < xs.length
   ·obtain⟨s0,hs⟩:=aj hn2
    have hss:=hx s0 (List.mem_of_getElem? hs)
    have cr:=tI s0 hss
    rw[Pn]at cr
    cases hr:dy s0 with
    |none =>
     rw[hr]at cr
     conv=>whnf
     refine g 0 0 []<|J UA<|W.sq<|W.cn<|J (fun _=>(W.skip (W.sq (W.blk (g 27 30 [.x (ak s0)]<|J Zcm (g 30 35 [.call (kU none) [[]]]<|J Zd4 (W.sq (g 8 9 []<|J UB (W.cn<|J (fun _=>(g 35 38 []<|J Zed ?_)) (noF rfl)))))))))) (noF SI)
     refine RT ?_
     rw[dz h hl3 hc hs (z4 hr)];rfl
    |some e =>
     rw[hr]at cr
     obtain⟨r1,r2,r3,r4⟩:=D1 (ts:=p.tasks) (fT hr)
     by_cases hk:e.kind = 1
     ·by_cases he:e.epoch = (bW p.tasks xs n).epoch+1
      ·obtain⟨hc2,e1⟩:=oa hc hs (BQ hr hk he)
       conv=>whnf
       refine g 0 0 []<|J UA<|W.sq<|W.cn<|J (fun _=>(W.skip (W.sq (W.blk (g 27 30 [.x (ak s0)]<|J Zcm (g 30 35 [.call (kU (some e)) [[]]]<|J Zd4 (W.sq (g 8 9 []<|J UB (W.cn<|J (noT rfl) fun _=>(W.skip ?_)))))))))) (noF SI)
       refine W.sq<|g 35 40 []<|J UC<|W.cn<|J (fun _=>(W.sq (g 40 45 [.i (Tale.epoch (bW p.tasks xs n) +1)]<|J ⟨I,I,I,wO,I,I⟩ (W.cn<|J (noT nO) fun _=>(W.skip (g 45 49 []<|J UC (W.exit (rg [.i ((n:Int) +1)]<|J Zdm ?_)))))))) (noF tO)
       refine⟨n+1,[some 2,some 4,some 23],[],⟨rfl,⟨Zag,rfl,rfl,rfl,(congrArg (fun z=>V.t (T.v (Value.int _ z))) (by rw[e1])),rfl,rfl,rfl,rfl,rfl,rfl,I⟩,⟨Zad,⟨Zac,⟨⟨rfl,⟨(congrArg (V.own _) (by rw[e1])),I⟩⟩,I⟩⟩⟩,I⟩,?_,?_⟩
       rotate_left
       (dsimp only;omega)
       dsimp only
       exact⟨by omega,hc2,by rw[e1];dsimp only;omega,by rw[e1];dsimp only;omega⟩
      ·conv=>whnf
       refine g 0 0 []<|J UA<|W.sq<|W.cn<|J (fun _=>(W.skip (W.sq (W.blk (g 27 30 [.x (ak s0)]<|J Zcm (g 30 35 [.call (kU (some e)) [[]]]<|J Zd4 (W.sq (g 8 9 []<|J UB (W.cn<|J (noT rfl) fun _=>(W.skip ?_)))))))))) (noF SI)
       refine W.sq<|g 35 40 []<|J UC<|W.cn<|J (fun _=>(W.sq (g 40 45 [.i (Tale.epoch (bW p.tasks xs n) +1)]<|J ⟨I,I,I,wO,I,I⟩ (W.cn<|J (fun _=>(g 45 47 []<|J Zed (RT ?_))) (noF (af OM)))))) (noF tO)
       rw[dz h hl3 hc hs (wv hr hk he)];rfl
     ·by_cases heq:e.epoch = (bW p.tasks xs n).epoch
      ·by_cases hlt:e.task < p.tasks.length
       ·obtain⟨t,ht⟩:=aj (xs:=p.tasks) (n:=e.task.toNat) OM
        obtain⟨y,hy⟩:=aj (xs:=(bW p.tasks xs n).results) (n:=e.task.toNat) OM
        by_cases hye:y = emp
        ·obtain⟨_,_,a3,a4⟩:=bz h ht
         have cd:=iz (bW p.tasks xs n).results t.deps (fun d hd=>by have:=a4 d hd;omega) OM
         by_cases hrd:cu (bW p.tasks xs n).results t.deps
         ·rw[decide_eq_true hrd]at cd
          obtain⟨hc2,e1⟩:=oa hc hs (xV hr hk heq hlt hy hye ht hrd)
          conv=>whnf
          refine g 0 0 []<|J UA<|W.sq<|W.cn<|J (fun _=>(W.skip (W.sq (W.blk (g 27 30 [.x (ak s0)]<|J Zcm (g 30 35 [.call (kU (some e)) [[]]]<|J Zd4 (W.sq (g 8 9 []<|J UB (W.cn<|J (noT rfl) fun _=>(W.skip ?_)))))))))) (noF SI)
          refine W.sq<|g 35 40 []<|J UC<|W.cn<|J (noT dO) fun _=>W.skip<|W.sq<|g 63 80 [BF,BF,BF,BF,BF,BF,BF,BF,BF,BF,BF,.n (Int.toNat e.task),BF,.x (ak y),BF,BF,BF,BF,BF,BF,BF,BF,.x (aC t),BF,BF,BF,.call VT [[],[]],BF,BF] ?_
          conv=>whnf
          refine J Za9<|W.cn<|J (noT rfl) fun _=>W.skip<|rg [.n (Int.toNat e.task),.x (ak y)]<|J ⟨I,I,I,I,I,Zdo,⟨UA,xA⟩,I⟩<|rg [.i ((n:Int) +1)]<|J Zdm ?_
          refine⟨n+1,[some 2,some 4,some 23],[],⟨rfl,⟨Zag,rfl,rfl,rfl,(congrArg (fun z=>V.t (T.v (Value.int _ z))) (by rw[e1])),rfl,rfl,rfl,rfl,rfl,rfl,I⟩,⟨Zad,⟨Zac,⟨⟨rfl,⟨(congrArg (V.own _) (by rw[e1,List.map_set];rfl)),I⟩⟩,I⟩⟩⟩,I⟩,?_,?_⟩
          rotate_left
          (dsimp only;omega)
          dsimp only
          exact⟨by omega,hc2,by rw[e1];dsimp only;omega,by rw[e1];dsimp only;omega⟩
         ·rw[decide_eq_false hrd]at cd
          conv=>whnf
          refine g 0 0 []<|J UA<|W.sq<|W.cn<|J (fun _=>(W.skip (W.sq (W.blk (g 27 30 [.x (ak s0)]<|J Zcm (g 30 35 [.call (kU (some e)) [[]]]<|J Zd4 (W.sq (g 8 9 []<|J UB (W.cn<|J (noT rfl) fun _=>(W.skip ?_)))))))))) (noF SI)
          refine W.sq<|g 35 40 []<|J UC<|W.cn<|J (noT dO) fun _=>W.skip<|W.sq<|g 63 80 [BF,BF,BF,BF,BF,BF,BF,BF,BF,BF,BF,.n (Int.toNat e.task),BF,.x (ak y),BF,BF,BF,BF,BF,BF,BF,BF,.x (aC t),BF,BF,BF,.call VF [[],[]],BF,BF] ?_
          conv=>whnf
          refine J Za9<|W.cn<|J (fun _=>(g 40 62 []<|J Zed (RT ?_))) (noF rfl)
          rw[dz h hl3 hc hs (D6 hr hk ht hrd)];rfl
        ·conv=>whnf
         refine g 0 0 []<|J UA<|W.sq<|W.cn<|J (fun _=>(W.skip (W.sq (W.blk (g 27 30 [.x (ak s0)]<|J Zcm (g 30 35 [.call (kU (some e)) [[]]]<|J Zd4 (W.sq (g 8 9 []<|J UB (W.cn<|J (noT rfl) fun _=>(W.skip ?_)))))))))) (noF SI)
         refine W.sq<|g 35 40 []<|J UC<|W.cn<|J (noT dO) fun _=>W.skip<|W.sq<|g 63 80 [BF,BF,BF,BF,BF,BF,BF,BF,BF,BF,BF,.n (Int.toNat e.task),BF,.x (ak y),BF,BF,BT,BT,BT,BT,BT,BT,BT,BT,BT,BT,BT]<|J ⟨I,I,I,I,I,⟨nO,I⟩,⟨nO,I⟩,⟨nO,I⟩,⟨nO,I⟩,⟨nO,I⟩,⟨nO,I⟩,nO,I,⟨SI,I⟩,⟨SI,I⟩,⟨SI,I⟩,⟨SI,OM,LN⟩,⟨SI,xA⟩,⟨SI,I⟩,SI,I,af OM,af OM,af OM,af OM,af OM,af OM,af OM,af OM,af OM,af OM,af OM,I⟩<|W.cn<|J (fun _=>(g 40 62 []<|J Zed (RT ?_))) (noF rfl)
         rw[dz h hl3 hc hs (D7 hr hk hy hye)];rfl
       ·conv=>whnf
        refine g 0 0 []<|J UA<|W.sq<|W.cn<|J (fun _=>(W.skip (W.sq (W.blk (g 27 30 [.x (ak s0)]<|J Zcm (g 30 35 [.call (kU (some e)) [[]]]<|J Zd4 (W.sq (g 8 9 []<|J UB (W.cn<|J (noT rfl) fun _=>(W.skip ?_)))))))))) (noF SI)
        refine W.sq<|g 35 40 []<|J UC<|W.cn<|J (noT dO) fun _=>W.skip<|W.sq<|g 63 80 [BF,BF,BF,BF,BF,BF,BF,BT,BT,BT,BT,BT,BT,BT,BT,BT,BT,BT,BT,BT,BT,BT,BT,BT,BT]<|J ⟨I,I,I,I,I,⟨nO,I⟩,⟨nO,I⟩,⟨nO,I⟩,⟨nO,I⟩,⟨nO,I⟩,⟨nO,I⟩,nO,I,(by simp_all),(by simp_all),(by simp_all),(by simp_all),(by simp_all),(by simp_all),(by simp_all),I,rfl,rfl,rfl,rfl,rfl,rfl,rfl,rfl,rfl,rfl,rfl,I⟩<|W.cn<|J (fun _=>(g 40 62 []<|J Zed (RT ?_))) (noF rfl)
        rw[dz h hl3 hc hs (sb hr hk (fun q=>hlt q.2))];rfl
      ·conv=>whnf
       refine g 0 0 []<|J UA<|W.sq<|W.cn<|J (fun _=>(W.skip (W.sq (W.blk (g 27 30 [.x (ak s0)]<|J Zcm (g 30 35 [.call (kU (some e)) [[]]]<|J Zd4 (W.sq (g 8 9 []<|J UB (W.cn<|J (noT rfl) fun _=>(W.skip ?_)))))))))) (noF SI)
       refine W.sq<|g 35 40 []<|J UC<|W.cn<|J (noT dO) fun _=>W.skip<|W.sq<|g 63 80 [BT,BT,BT,BT,BT,BT,BT,BT,BT,BT,BT,BT,BT,BT,BT,BT,BT,BT,BT,BT,BT,BT,BT,BT,BT]<|J ⟨I,I,I,I,I,af OM,af OM,af OM,af OM,af OM,af OM,af OM,I,rfl,rfl,rfl,rfl,rfl,rfl,rfl,I,rfl,rfl,rfl,rfl,rfl,rfl,rfl,rfl,rfl,rfl,rfl,I⟩<|W.cn<|J (fun _=>(g 40 62 []<|J Zed (RT ?_))) (noF rfl)
       rw[dz h hl3 hc hs (sb hr hk (fun q=>heq q.1))];rfl
   ·conv=>whnf
    refine g 0 0 []<|J UA<|W.sq<|W.cn<|J (noT SI) fun _=>W.exit<|g 5 92 []<|J ⟨I,I,I,UC,I⟩<|RT ?_
    rw[wJ h hl3 hc OM]
  ·refine kh ?_
   conv=>whnf
   refine g 0 0 []<|J Zdu<|W.sq<|g 13 18 [.call (V.i 0) [[]],BF,BF,BF,BF]<|J ⟨I,Zai,I,I,Zde,Zde,Zde,rfl,I⟩<|W.cn<|J (fun h1=>?_) fun h1=>?_
   replace h1:=dt h1
   simp only[LM]at h1
   refine g 18 20 []<|J Zed<|RT ?_
   rotate_left
   replace h1:=df h1
   simp only[LM]at h1
   omega
   rw[lY (fun q=>hl3 q.2)];rfl
 ·refine kh ?_
  conv=>whnf
  refine g 0 0 []<|J Zdu<|W.sq<|g 13 18 [.call (V.i (ah p.tasks)) [[]],BT,BT,BT,BT]<|J ⟨I,Zai,I,I,af OM,af OM,af OM,af OM,I⟩<|W.cn<|J (fun _=>(g 18 20 []<|J Zed (RT ?_))) (noF rfl)
  rw[lY (fun q=>h q.1)];rfl
theorem gP(p:Plan)(xs:List ByteArray)(hp:cQ p)(hx:∀ s∈xs,s.size≤281474976710656)(hl:xs.length≤9223372036854775806):F oY [.val (cE p),.val (.t (wt xs))] (gj (am p xs)) [[],[]]:=by
 have c1:=bN p hp
 by_cases h:ah p.tasks = 0
 ·obtain⟨⟨hl1,hl2⟩,_⟩:=bP h
  rw[h]at c1
  by_cases hl3:xs.length≤310
  ·refine kf ?_
   conv=>whnf
   refine g 0 0 []<|J Zdu<|W.sq<|g 10 13 [.call (V.i 0) [[]],BF,BF,BF,BF]<|J ⟨I,Zai,I,I,Zde,Zde,Zde,rfl,I⟩<|W.cn<|J (fun h1=>?_) fun h1=>?_
   replace h1:=dt h1
   simp only[LM]at h1
   omega
   replace h1:=df h1
   simp only[LM]at h1
   refine W.skip<|g 14 20 []<|J ⟨I,I,UC,I⟩<|W.sq<|g 0 0 []<|J UA<|W.blk<|W.lp (fun s (n:Nat)=>⟨[(0,s.s 0),(1,s.s 1),(2,s.s 2),(4,s.s 4),(5,s.s 5),(6,.i n),(13,s.s 13)],[(2,[s.c 2 0]),(4,[s.c 4 0,s.c 4 1,s.c 4 2]),(5,[.t (.i 0),.t (.i 0),.own [false] ((List.replicate n emp).map ak)])],[]⟩) (fun(n:Nat)=>n≤p.tasks.length) (fun(n:Nat)=>p.tasks.length - n) (0) [some 2,some 4,some 5] [] ⟨rfl,Zd2,⟨Zad,⟨Zac,Zee⟩⟩,I⟩ OM ?_
   intro n hn
   conv=>whnf
   refine W.sq<|g 20 22 []<|J UE<|W.cn<|J (fun h2=>?_) fun h2=>?_
   replace h2:=dt h2
   simp only[LM]at h2
   refine W.skip<|W.sq<|W.blk<|rg []<|J ⟨I,I,US,Zdi,I,UA,I⟩<|rg [.i ((n:Int) +1)]<|J Zdf ?_
   rotate_left
   replace h2:=df h2
   simp only[LM]at h2
   refine W.exit<|W.sq<|g 23 25 []<|J UA<|W.blk ?_
   rotate_left
   ·refine⟨n+1,[some 2,some 4,some 5],[],⟨rfl,Zd2,⟨Zad,⟨Zac,⟨⟨rfl,⟨rfl,⟨rfl,⟨(congrArg (V.own _) (by rw[List.replicate_succ',List.map_append];rfl)),I⟩⟩⟩⟩,I⟩⟩⟩,I⟩,?_,?_⟩
    rotate_left
    (dsimp only;omega)
    dsimp only
    omega
   rw[show n = p.tasks.length by omega]
   refine W.lp (fun s (n:Nat)=>⟨[(0,s.s 0),(1,s.s 1),(2,s.s 2),(4,s.s 4),(5,s.s 5),(7,.i n),(13,s.s 13),(22,s.s 22)],[(2,[s.c 2 0]),(4,[s.c 4 0,s.c 4 1,s.c 4 2]),(5,[.t (.i 0),.t (.i (bW p.tasks xs n).epoch),.own [false] ((bW p.tasks xs n).results.map ak)])],[]⟩) (fun(n:Nat)=>n≤xs.length∧lw p.tasks xs n∧0≤(bW p.tasks xs n).epoch∧(bW p.tasks xs n).epoch≤300) (fun(n:Nat)=>xs.length - n) (0) [some 2,some 4,some 5] [] ⟨rfl,⟨⟨_,rfl,_,_,rfl,rfl,rfl⟩,rfl,rfl,rfl,rfl,rfl,rfl,rfl,I⟩,⟨⟨rfl,⟨rfl,I⟩⟩,⟨⟨rfl,⟨rfl,⟨rfl,⟨rfl,I⟩⟩⟩⟩,⟨⟨rfl,⟨rfl,⟨rfl,⟨rfl,I⟩⟩⟩⟩,I⟩⟩⟩,I⟩ ?_ ?_
   ·rw[jL];exact⟨Nat.zero_le _,uv _ _,Int.le_refl _,by show(0:Int)≤300;omega⟩
   rintro n ⟨hn,hc,he0,he1⟩
   have hrl:=D2 hc
   by_cases hn2:n < xs.length
   ·obtain⟨s0,hs⟩:=aj hn2
    have hss:=hx s0 (List.mem_of_getElem? hs)
    have cr:=tG s0 hss
    cases hr:dy s0 with
    |none =>
     rw[hr]at cr
     conv=>whnf
     refine W.sq<|g 32 35 []<|J UD<|W.cn<|J (fun _=>(W.skip (W.sq (W.blk (g 35 46 [.x (ak s0),.call (kU none) [[]]]<|J Zem (W.sq (g 9 10 []<|J UB (W.cn<|J (fun _=>(g 46 49 []<|J Zed (RT ?_))) (noF rfl))))))))) (noF SI)
     rw[dz h hl3 hc hs (z4 hr)];rfl
    |some e =>
     rw[hr]at cr
     obtain⟨r1,r2,r3,r4⟩:=D1 (ts:=p.tasks) (fT hr)
     by_cases hk:e.kind = 1
     ·by_cases he:e.epoch = (bW p.tasks xs n).epoch+1
      ·obtain⟨hc2,e1⟩:=oa hc hs (BQ hr hk he)
       conv=>whnf
       refine W.sq<|g 32 35 []<|J UD<|W.cn<|J (fun _=>(W.skip (W.sq (W.blk (g 35 46 [.x (ak s0),.call (kU (some e)) [[]]]<|J Zem (W.sq (g 9 10 []<|J UB (W.cn<|J (noT rfl) fun _=>(W.skip (W.sq ?_)))))))))) (noF SI)
       refine g 46 51 []<|J UC<|W.cn<|J (fun _=>(W.sq (g 51 57 [.i (Tale.epoch (bW p.tasks xs n) +1)]<|J ⟨I,I,I,I,wO,I,I⟩ (W.cn<|J (noT nO) fun _=>(W.skip (g 57 62 []<|J UW (W.exit (rg [.i ((n:Int) +1)]<|J Zdf ?_)))))))) (noF tO)
       refine⟨n+1,[some 2,some 4,some 5],[],⟨rfl,⟨Zag,rfl,rfl,rfl,rfl,rfl,rfl,rfl,I⟩,⟨Zad,⟨Zac,⟨⟨rfl,⟨rfl,⟨(congrArg (fun z=>V.t (T.v (Value.int _ z))) (by rw[e1])),⟨(congrArg (V.own _) (by rw[e1])),I⟩⟩⟩⟩,I⟩⟩⟩,I⟩,?_,?_⟩
       rotate_left
       (dsimp only;omega)
       dsimp only
       exact⟨by omega,hc2,by rw[e1];dsimp only;omega,by rw[e1];dsimp only;omega⟩
      ·conv=>whnf
       refine W.sq<|g 32 35 []<|J UD<|W.cn<|J (fun _=>(W.skip (W.sq (W.blk (g 35 46 [.x (ak s0),.call (kU (some e)) [[]]]<|J Zem (W.sq (g 9 10 []<|J UB (W.cn<|J (noT rfl) fun _=>(W.skip (W.sq ?_)))))))))) (noF SI)
       refine g 46 51 []<|J UC<|W.cn<|J (fun _=>(W.sq (g 51 57 [.i (Tale.epoch (bW p.tasks xs n) +1)]<|J ⟨I,I,I,I,wO,I,I⟩ (W.cn<|J (fun _=>(g 57 59 []<|J Zed (RT ?_))) (noF (af OM)))))) (noF tO)
       rw[dz h hl3 hc hs (wv hr hk he)];rfl
     ·by_cases heq:e.epoch = (bW p.tasks xs n).epoch
      ·by_cases hlt:e.task < p.tasks.length
       ·obtain⟨t,ht⟩:=aj (xs:=p.tasks) (n:=e.task.toNat) OM
        obtain⟨y,hy⟩:=aj (xs:=(bW p.tasks xs n).results) (n:=e.task.toNat) OM
        by_cases hye:y = emp
        ·obtain⟨_,_,a3,a4⟩:=bz h ht
         have cd:=gO p (bW p.tasks xs n).results e.task r1 ht (fun d hd=>by have:=a4 d hd;omega) OM
         by_cases hrd:cu (bW p.tasks xs n).results t.deps
         ·rw[decide_eq_true hrd]at cd
          obtain⟨hc2,e1⟩:=oa hc hs (xV hr hk heq hlt hy hye ht hrd)
          conv=>whnf
          refine W.sq<|g 32 35 []<|J UD<|W.cn<|J (fun _=>(W.skip (W.sq (W.blk (g 35 46 [.x (ak s0),.call (kU (some e)) [[]]]<|J Zem (W.sq (g 9 10 []<|J UB (W.cn<|J (noT rfl) fun _=>(W.skip (W.sq ?_)))))))))) (noF SI)
          refine g 46 51 []<|J UC<|W.cn<|J (noT dO) fun _=>W.skip<|W.sq<|g 63 92 [BF,BF,BF,BF,BF,BF,BF,BF,BF,BF,BF,BF,.n (Int.toNat e.task),BF,.x (ak y),BF,BF,BF,BF,BF,BF,BF,BF,.call VT [[],[],[]],BF,BF]<|J Zbd<|W.cn<|J (noT rfl) fun _=>W.skip<|rg [.n (Int.toNat e.task),.x (ak y)]<|J ⟨I,I,I,I,I,I,Zdo,⟨UA,xA⟩,I⟩<|rg [.i ((n:Int) +1)]<|J Zdf ?_
          refine⟨n+1,[some 2,some 4,some 5],[],⟨rfl,⟨Zag,rfl,rfl,rfl,rfl,rfl,rfl,rfl,I⟩,⟨Zad,⟨Zac,⟨⟨rfl,⟨rfl,⟨(congrArg (fun z=>V.t (T.v (Value.int _ z))) (by rw[e1])),⟨(congrArg (V.own _) (by rw[e1,List.map_set];rfl)),I⟩⟩⟩⟩,I⟩⟩⟩,I⟩,?_,?_⟩
          rotate_left
          (dsimp only;omega)
          dsimp only
          exact⟨by omega,hc2,by rw[e1];dsimp only;omega,by rw[e1];dsimp only;omega⟩
         ·rw[decide_eq_false hrd]at cd
          conv=>whnf
          refine W.sq<|g 32 35 []<|J UD<|W.cn<|J (fun _=>(W.skip (W.sq (W.blk (g 35 46 [.x (ak s0),.call (kU (some e)) [[]]]<|J Zem (W.sq (g 9 10 []<|J UB (W.cn<|J (noT rfl) fun _=>(W.skip (W.sq ?_)))))))))) (noF SI)
          refine g 46 51 []<|J UC<|W.cn<|J (noT dO) fun _=>W.skip<|W.sq<|g 63 92 [BF,BF,BF,BF,BF,BF,BF,BF,BF,BF,BF,BF,.n (Int.toNat e.task),BF,.x (ak y),BF,BF,BF,BF,BF,BF,BF,BF,.call VF [[],[],[]],BF,BF]<|J Zbd<|W.cn<|J (fun _=>(g 92 94 []<|J Zed (RT ?_))) (noF rfl)
          rw[dz h hl3 hc hs (D6 hr hk ht hrd)];rfl
        ·conv=>whnf
         refine W.sq<|g 32 35 []<|J UD<|W.cn<|J (fun _=>(W.skip (W.sq (W.blk (g 35 46 [.x (ak s0),.call (kU (some e)) [[]]]<|J Zem (W.sq (g 9 10 []<|J UB (W.cn<|J (noT rfl) fun _=>(W.skip (W.sq ?_)))))))))) (noF SI)
         refine g 46 51 []<|J UC<|W.cn<|J (noT dO) fun _=>W.skip<|W.sq<|g 63 92 [BF,BF,BF,BF,BF,BF,BF,BF,BF,BF,BF,BF,.n (Int.toNat e.task),BF,.x (ak y),BF,BF,BT,BT,BT,BT,BT,BT,BT,BT]<|J ⟨I,I,I,I,I,I,⟨nO,I⟩,⟨nO,I⟩,⟨nO,I⟩,⟨nO,I⟩,⟨nO,I⟩,⟨nO,I⟩,nO,I,⟨SI,I⟩,⟨SI,I⟩,⟨SI,I⟩,⟨SI,I⟩,⟨SI,OM,LN⟩,⟨SI,xA⟩,⟨SI,I⟩,SI,I,af OM,af OM,af OM,af OM,af OM,af OM,af OM,af OM,I⟩<|W.cn<|J (fun _=>(g 92 94 []<|J Zed (RT ?_))) (noF rfl)
         rw[dz h hl3 hc hs (D7 hr hk hy hye)];rfl
       ·conv=>whnf
        refine W.sq<|g 32 35 []<|J UD<|W.cn<|J (fun _=>(W.skip (W.sq (W.blk (g 35 46 [.x (ak s0),.call (kU (some e)) [[]]]<|J Zem (W.sq (g 9 10 []<|J UB (W.cn<|J (noT rfl) fun _=>(W.skip (W.sq ?_)))))))))) (noF SI)
        refine g 46 51 []<|J UC<|W.cn<|J (noT dO) fun _=>W.skip<|W.sq<|g 63 92 [BF,BF,BF,BF,BF,BF,BF,BT,BT,BT,BT,BT,BT,BT,BT,BT,BT,BT,BT,BT,BT,BT,BT]<|J ⟨I,I,I,I,I,I,⟨nO,I⟩,⟨nO,I⟩,⟨nO,I⟩,⟨nO,I⟩,⟨nO,I⟩,⟨nO,I⟩,nO,I,(by simp_all),(by simp_all),(by simp_all),(by simp_all),(by simp_all),(by simp_all),(by simp_all),(by simp_all),I,rfl,rfl,rfl,rfl,rfl,rfl,rfl,rfl,I⟩<|W.cn<|J (fun _=>(g 92 94 []<|J Zed (RT ?_))) (noF rfl)
        rw[dz h hl3 hc hs (sb hr hk (fun q=>hlt q.2))];rfl
      ·conv=>whnf
       refine W.sq<|g 32 35 []<|J UD<|W.cn<|J (fun _=>(W.skip (W.sq (W.blk (g 35 46 [.x (ak s0),.call (kU (some e)) [[]]]<|J Zem (W.sq (g 9 10 []<|J UB (W.cn<|J (noT rfl) fun _=>(W.skip (W.sq ?_)))))))))) (noF SI)
       refine g 46 51 []<|J UC<|W.cn<|J (noT dO) fun _=>W.skip<|W.sq<|g 63 92 [BT,BT,BT,BT,BT,BT,BT,BT,BT,BT,BT,BT,BT,BT,BT,BT,BT,BT,BT,BT,BT,BT,BT]<|J ⟨I,I,I,I,I,I,af OM,af OM,af OM,af OM,af OM,af OM,af OM,I,rfl,rfl,rfl,rfl,rfl,rfl,rfl,rfl,I,rfl,rfl,rfl,rfl,rfl,rfl,rfl,rfl,I⟩<|W.cn<|J (fun _=>(g 92 94 []<|J Zed (RT ?_))) (noF rfl)
       rw[dz h hl3 hc hs (sb hr hk (fun q=>heq q.1))];rfl
   ·conv=>whnf
    refine W.sq<|g 32 35 []<|J UD<|W.cn<|J (noT SI) fun _=>W.exit<|g 5 102 []<|J Zed<|RT ?_
    rw[wJ h hl3 hc OM]
  ·refine kf ?_
   conv=>whnf
   refine g 0 0 []<|J Zdu<|W.sq<|g 10 13 [.call (V.i 0) [[]],BF,BF,BF,BF]<|J ⟨I,Zai,I,I,Zde,Zde,Zde,rfl,I⟩<|W.cn<|J (fun h1=>?_) fun h1=>?_
   replace h1:=dt h1
   simp only[LM]at h1
   refine g 14 19 []<|J Zed<|RT ?_
   rotate_left
   replace h1:=df h1
   simp only[LM]at h1
   omega
   rw[lY (fun q=>hl3 q.2)];rfl
 ·refine kf ?_
  conv=>whnf
  refine g 0 0 []<|J Zdu<|W.sq<|g 10 13 [.call (V.i (ah p.tasks)) [[]],BT,BT,BT,BT]<|J ⟨I,Zai,I,I,af OM,af OM,af OM,af OM,I⟩<|W.cn<|J (fun _=>(g 14 19 []<|J Zed (RT ?_))) (noF rfl)
  rw[lY (fun q=>h q.1)];rfl
end Go.K
end
section
open Go Go.Tm Go.Proofs
namespace Go.K
def gm(w:Worker):Prop:=(1≤w.lease∧w.lease≤300000000)∧(0≤w.task∧w.task≤39)
def eE(w:Worker):Prop:=w.state = 0∧w.lease = 0∧w.task = 0∧w.cost = 0∧w.left = 0∧(w.inputs.length:Int) = 0∧w.text = emp
def dC(w:Worker):Prop:=w.state = 1∧gm w∧(1≤w.cost∧w.cost≤20)∧(1≤w.left∧w.left≤w.cost)∧dR w.inputs∧w.text = emp
def eD(w:Worker):Prop:=w.state = 2∧gm w∧w.cost = 0∧w.left = 0∧(w.inputs.length:Int) = 0∧(w.text.size:Int) = 8
def ar(w:Worker):Prop:=(1≤w.number∧w.number≤8)∧(1≤w.epoch∧w.epoch≤300)∧(0≤w.since∧w.since≤1000000)∧(w.up = true∨(w.state = 0∧w.since = 0))∧(eE w∨dC w∨eD w)
instance (w:Worker):Decidable (ar w):=by unfold ar eE dC eD gm;infer_instance
theorem dN(w:Worker)(hl:w.inputs.length≤9223372036854775806):F pO [.val (eC w)] (.b (decide (ar w))) [[]]:=by
 refine pV ?_
 conv=>whnf
 refine g 0 1 []<|J Zd5<|W.sq ?_
 by_cases h1:(1:Int)≤Worker.number w∧Worker.number w≤(8:Int)
 by_cases h2:(1:Int)≤Worker.epoch w∧Worker.epoch w≤(300:Int)
 refine g 14 17 [.call (V.b (decide (1≤w.number∧w.number≤8))) [[],[],[]],BF,BF,BF,.call (V.b (decide (1≤w.epoch∧w.epoch≤300))) [[],[],[]],BF,BF,BF,BF,BF,.call (V.b (decide (0≤w.since∧w.since≤1000000))) [[],[],[]],BF,BF]<|J ⟨I,I,⟨UC,I,UU,UA,ac _ _ _⟩,I,I,⟨nO,I⟩,⟨nO,I⟩,⟨nO,UC,I,UU,UA,ac _ _ _⟩,⟨nO,I⟩,nO,I,⟨nO,I⟩,⟨nO,I⟩,⟨nO,UC,I,UU,UA,ac _ _ _⟩,⟨nO,I⟩,nO,I⟩<|W.cn<|J (fun h3=>?_) fun h3=>?_
 replace h3:=ndt h3
 refine g 9 11 []<|J UA<|RT ?_
 rotate_left
 replace h3:=ndf h3
 refine W.skip<|W.sq ?_
 by_cases h4:Worker.up w = true
 refine g 25 32 [BF,BF,BF,BF,BF,BF,BF,BF,BF]<|J ⟨I,I,I,I,nbF AS,nbF AS,nbF AS,nbF AS,I,I,I,nbF AS,nbF AS,I⟩<|W.cn<|J (noT rfl) fun _=>W.skip ?_
 by_cases h5:(1:Int)≤Worker.lease w∧Worker.lease w≤(300000000:Int)
 refine g 32 41 [.call (V.b (decide (1≤w.lease∧w.lease≤300000000))) [[],[],[]],BT,BT,BT,.call (V.b (decide (0≤w.task∧w.task≤39))) [[],[],[]],BT]<|J ⟨I,I,⟨UC,I,UU,UA,ac _ _ _⟩,I,⟨tO,I⟩,⟨tO,I⟩,⟨tO,UC,I,UU,UA,ac _ _ _⟩,tO,I,I⟩<|W.sq<|g 19 24 []<|J UB<|W.blk<|g 9 11 []<|J UB<|W.cn<|J (fun h6=>?_) fun h6=>?_
 replace h6:=dt h6
 refine g 5 74 [BF,BF,BF,BF,BF,BF,BF,BF,BF,BF,BF,BF,BF,BF,BF,BF,BF,BF,BF,BF,BF]<|J Za7<|RT ?_
 rotate_left
 replace h6:=df h6
 refine g 7 9 []<|J UB<|W.cn<|J (fun h7=>?_) fun h7=>?_
 replace h7:=dt h7
 by_cases h8:(0:Int)≤Worker.task w∧Worker.task w≤(39:Int)
 by_cases h9:(1:Int)≤Worker.cost w∧Worker.cost w≤(20:Int)
 by_cases h10:(1:Int)≤Worker.left w∧Worker.left w≤Worker.cost w
 by_cases h11:dR (Worker.inputs w)
 refine g 5 99 [BT,BT,BT,.call (V.b (decide (1≤w.cost∧w.cost≤20))) [[],[],[]],BT,BT,BT,BT,BT,BT,.call (V.b (decide (1≤w.left∧w.left≤w.cost))) [[],[],[]],BT,BT,BT,BT,.call (V.b (decide (dR w.inputs))) [[]],BT,BT,BT,BT,BT]<|J ⟨I,I,⟨tO,I⟩,⟨tO,I⟩,⟨tO,UC,I,UU,UA,ac _ _ _⟩,tO,I,⟨tO,I⟩,⟨tO,I⟩,⟨tO,I⟩,⟨tO,I⟩,⟨tO,UC,I,UU,UA,ac _ _ _⟩,tO,I,⟨tO,I⟩,⟨tO,I⟩,⟨tO,UA,I,US,UA,gQ _ OM⟩,tO,I,⟨tO,I⟩,⟨tO,I⟩,⟨tO,I⟩,tO,I,I⟩<|RT ?_
 rotate_left
 refine g 5 99 [BT,BT,BT,.call (V.b (decide (1≤w.cost∧w.cost≤20))) [[],[],[]],BT,BT,BT,BT,BT,BT,.call (V.b (decide (1≤w.left∧w.left≤w.cost))) [[],[],[]],BT,BT,BT,BT,.call (V.b (decide (dR w.inputs))) [[]],BT,BF,BF,BF,BF]<|J ⟨I,I,⟨tO,I⟩,⟨tO,I⟩,⟨tO,UC,I,UU,UA,ac _ _ _⟩,tO,I,⟨tO,I⟩,⟨tO,I⟩,⟨tO,I⟩,⟨tO,I⟩,⟨tO,UC,I,UU,UA,ac _ _ _⟩,tO,I,⟨tO,I⟩,⟨tO,I⟩,⟨tO,UA,I,US,UA,gQ _ OM⟩,tO,I,dO,dO,dO,dO,I,I⟩<|RT ?_
 rotate_left
 refine g 5 99 [BT,BT,BT,.call (V.b (decide (1≤w.cost∧w.cost≤20))) [[],[],[]],BT,BT,BT,BT,BT,BT,.call (V.b (decide (1≤w.left∧w.left≤w.cost))) [[],[],[]],BT,BF,BF,BF,BF,BF,BF,BF,BF]<|J ⟨I,I,⟨tO,I⟩,⟨tO,I⟩,⟨tO,UC,I,UU,UA,ac _ _ _⟩,tO,I,⟨tO,I⟩,⟨tO,I⟩,⟨tO,I⟩,⟨tO,I⟩,⟨tO,UC,I,UU,UA,ac _ _ _⟩,tO,I,dO,dO,dO,dO,I,rfl,rfl,rfl,rfl,I,I⟩<|RT ?_
 rotate_left
 refine g 5 99 [BT,BT,BT,.call (V.b (decide (1≤w.cost∧w.cost≤20))) [[],[],[]],BT,BF,BF,BF,BF,BF,BF,BF,BF,BF,BF,BF,BF,BF,BF]<|J ⟨I,I,⟨tO,I⟩,⟨tO,I⟩,⟨tO,UC,I,UU,UA,ac _ _ _⟩,tO,I,dO,dO,dO,dO,dO,dO,I,rfl,rfl,rfl,rfl,I,rfl,rfl,rfl,rfl,I,I⟩<|RT ?_
 rotate_left
 refine g 5 99 [BF,BF,BF,BF,BF,BF,BF,BF,BF,BF,BF,BF,BF,BF,BF,BF,BF,BF]<|J ⟨I,I,dO,dO,dO,dO,I,rfl,rfl,rfl,rfl,rfl,rfl,I,rfl,rfl,rfl,rfl,I,rfl,rfl,rfl,rfl,I,I⟩<|RT ?_
 rotate_left
 replace h7:=df h7
 refine g 18 76 []<|J UB<|W.cn<|J (fun h8=>?_) fun h8=>?_
 replace h8:=dt h8
 by_cases h9:(0:Int)≤Worker.task w∧Worker.task w≤(39:Int)
 by_cases h10:Worker.cost w = (0:Int)
 by_cases h11:Worker.left w = (0:Int)
 by_cases h12:(↑(List.length (List.map ak (Worker.inputs w))):Int) = (0:Int)
 simp only[LM]at h12
 refine g 5 124 [BT,BT,BT,BT,BT,BT,BT,BT,BT,BT,BT,BT,BT,BT,BT,BT,BT,BT]<|J ⟨I,I,⟨tO,I⟩,⟨tO,I⟩,⟨tO,I⟩,tO,I,⟨tO,I⟩,⟨tO,I⟩,⟨tO,I⟩,tO,I,⟨tO,I⟩,⟨tO,I⟩,⟨tO,I⟩,⟨tO,I⟩,tO,I,⟨SI,I⟩,⟨SI,I⟩,⟨SI,I⟩,⟨SI,I⟩,SI,I,I⟩<|RT ?_
 rotate_left
 simp only[LM]at h12
 refine g 5 124 [BT,BT,BT,BT,BT,BT,BT,BT,BT,BT,BT,BT,BT,BF,BF,BF,BF,BF]<|J ⟨I,I,⟨tO,I⟩,⟨tO,I⟩,⟨tO,I⟩,tO,I,⟨tO,I⟩,⟨tO,I⟩,⟨tO,I⟩,tO,I,⟨tO,I⟩,⟨tO,I⟩,⟨tO,I⟩,⟨tO,I⟩,tO,I,(by simp_all),(by simp_all),(by simp_all),(by simp_all),(by simp_all),I,I⟩<|RT ?_
 rotate_left
 refine g 5 124 [BT,BT,BT,BT,BT,BT,BT,BT,BF,BF,BF,BF,BF,BF,BF,BF,BF,BF]<|J ⟨I,I,⟨tO,I⟩,⟨tO,I⟩,⟨tO,I⟩,tO,I,⟨tO,I⟩,⟨tO,I⟩,⟨tO,I⟩,tO,I,dO,dO,dO,dO,dO,I,rfl,rfl,rfl,rfl,rfl,I,I⟩<|RT ?_
 rotate_left
 refine g 5 124 [BT,BT,BT,BT,BF,BF,BF,BF,BF,BF,BF,BF,BF,BF,BF,BF,BF,BF]<|J ⟨I,I,⟨tO,I⟩,⟨tO,I⟩,⟨tO,I⟩,tO,I,dO,dO,dO,dO,I,rfl,rfl,rfl,rfl,rfl,I,rfl,rfl,rfl,rfl,rfl,I,I⟩<|RT ?_
 rotate_left
 refine g 5 124 [BF,BF,BF,BF,BF,BF,BF,BF,BF,BF,BF,BF,BF,BF,BF,BF,BF,BF]<|J ⟨I,I,dO,dO,dO,dO,I,rfl,rfl,rfl,rfl,I,rfl,rfl,rfl,rfl,rfl,I,rfl,rfl,rfl,rfl,rfl,I,I⟩<|RT ?_
 rotate_left
 replace h8:=df h8
 refine W.skip<|g 5 101 []<|J UA<|RT ?_
 rotate_left
 refine g 32 41 [.call (V.b (decide (1≤w.lease∧w.lease≤300000000))) [[],[],[]],BF,BF,BF,BF]<|J ⟨I,I,⟨UC,I,UU,UA,ac _ _ _⟩,I,dO,dO,dO,dO,I,I⟩<|W.sq<|g 19 24 []<|J UB<|W.blk<|g 9 11 []<|J UB<|W.cn<|J (fun h6=>?_) fun h6=>?_
 replace h6:=dt h6
 by_cases h7:Worker.lease w = (0:Int)
 by_cases h8:Worker.task w = (0:Int)
 by_cases h9:Worker.cost w = (0:Int)
 by_cases h10:Worker.left w = (0:Int)
 by_cases h11:(↑(List.length (List.map ak (Worker.inputs w))):Int) = (0:Int)
 simp only[LM]at h11
 refine g 5 74 [BT,BT,BT,BT,BT,BT,BT,BT,BT,BT,BT,BT,BT,BT,BT,BT,BT,BT,BT,BT,BT]<|J Zaw<|RT ?_
 rotate_left
 simp only[LM]at h11
 refine g 5 74 [BT,BT,BT,BT,BT,BT,BT,BT,BT,BT,BT,BT,BT,BT,BT,BT,BT,BF,BF,BF,BF]<|J ⟨I,I,I,I,⟨tO,I⟩,⟨tO,I⟩,⟨tO,I⟩,tO,I,⟨tO,I⟩,⟨tO,I⟩,⟨tO,I⟩,tO,I,⟨tO,I⟩,⟨tO,I⟩,⟨tO,I⟩,tO,I,⟨tO,I⟩,⟨tO,I⟩,⟨tO,I⟩,⟨tO,I⟩,tO,I,(by simp_all),(by simp_all),(by simp_all),(by simp_all),I,I⟩<|RT ?_
 rotate_left
 refine g 5 74 [BT,BT,BT,BT,BT,BT,BT,BT,BT,BT,BT,BT,BF,BF,BF,BF,BF,BF,BF,BF,BF]<|J Za2<|RT ?_
 rotate_left
 refine g 5 74 [BT,BT,BT,BT,BT,BT,BT,BT,BF,BF,BF,BF,BF,BF,BF,BF,BF,BF,BF,BF,BF]<|J Zbc<|RT ?_
 rotate_left
 refine g 5 74 [BT,BT,BT,BT,BF,BF,BF,BF,BF,BF,BF,BF,BF,BF,BF,BF,BF,BF,BF,BF,BF]<|J Zbn<|RT ?_
 rotate_left
 refine g 5 74 [BF,BF,BF,BF,BF,BF,BF,BF,BF,BF,BF,BF,BF,BF,BF,BF,BF,BF,BF,BF,BF]<|J Za7<|RT ?_
 rotate_left
 replace h6:=df h6
 refine g 7 9 []<|J UB<|W.cn<|J (fun h7=>?_) fun h7=>?_
 replace h7:=dt h7
 refine g 5 99 [BF,BF,BF,BF,BF,BF,BF,BF,BF,BF,BF,BF,BF,BF,BF,BF,BF,BF]<|J ⟨I,I,rfl,rfl,rfl,rfl,I,rfl,rfl,rfl,rfl,rfl,rfl,I,rfl,rfl,rfl,rfl,I,rfl,rfl,rfl,rfl,I,I⟩<|RT ?_
 rotate_left
 replace h7:=df h7
 refine g 18 76 []<|J UB<|W.cn<|J (fun h8=>?_) fun h8=>?_
 replace h8:=dt h8
 refine g 5 124 [BF,BF,BF,BF,BF,BF,BF,BF,BF,BF,BF,BF,BF,BF,BF,BF,BF,BF]<|J ⟨I,I,rfl,rfl,rfl,rfl,I,rfl,rfl,rfl,rfl,I,rfl,rfl,rfl,rfl,rfl,I,rfl,rfl,rfl,rfl,rfl,I,I⟩<|RT ?_
 rotate_left
 replace h8:=df h8
 refine W.skip<|g 5 101 []<|J UA<|RT ?_
 rotate_left
 replace h4:=Bool.eq_false_iff.2 h4
 by_cases h5:Worker.state w = (0:Int)
 refine g 25 32 [BT,BT,BT,BT,BF,BF,BF,BT,BF,BT]<|J Zcq<|W.cn<|J (fun h6=>?_) fun h6=>?_
 replace h6:=ndt h6
 refine g 19 24 []<|J UA<|RT ?_
 rotate_left
 replace h6:=ndf h6
 refine W.skip ?_
 by_cases h7:(1:Int)≤Worker.lease w∧Worker.lease w≤(300000000:Int)
 refine g 32 41 [.call (V.b (decide (1≤w.lease∧w.lease≤300000000))) [[],[],[]],BT,BT,BT,.call (V.b (decide (0≤w.task∧w.task≤39))) [[],[],[]],BT]<|J ⟨I,I,⟨UC,I,UU,UA,ac _ _ _⟩,I,⟨tO,I⟩,⟨tO,I⟩,⟨tO,UC,I,UU,UA,ac _ _ _⟩,tO,I,I⟩<|W.sq<|g 19 24 []<|J UB<|W.blk<|g 9 11 []<|J UB<|W.cn<|J (fun _=>(g 5 74 [BF,BF,BF,BF,BF,BF,BF,BF,BF,BF,BF,BF,BF,BF,BF,BF,BF,BF,BF,BF,BF]<|J Za7 (RT ?_))) (noF tO)
 rotate_left
 refine g 32 41 [.call (V.b (decide (1≤w.lease∧w.lease≤300000000))) [[],[],[]],BF,BF,BF,BF]<|J ⟨I,I,⟨UC,I,UU,UA,ac _ _ _⟩,I,dO,dO,dO,dO,I,I⟩<|W.sq<|g 19 24 []<|J UB<|W.blk<|g 9 11 []<|J UB<|W.cn<|J (fun _=>?_) (noF tO)
 by_cases h8:Worker.lease w = (0:Int)
 by_cases h9:Worker.task w = (0:Int)
 by_cases h10:Worker.cost w = (0:Int)
 by_cases h11:Worker.left w = (0:Int)
 by_cases h12:(↑(List.length (List.map ak (Worker.inputs w))):Int) = (0:Int)
 simp only[LM]at h12
 refine g 5 74 [BT,BT,BT,BT,BT,BT,BT,BT,BT,BT,BT,BT,BT,BT,BT,BT,BT,BT,BT,BT,BT]<|J Zaw<|RT ?_
 rotate_left
 simp only[LM]at h12
 refine g 5 74 [BT,BT,BT,BT,BT,BT,BT,BT,BT,BT,BT,BT,BT,BT,BT,BT,BT,BF,BF,BF,BF]<|J ⟨I,I,I,I,⟨tO,I⟩,⟨tO,I⟩,⟨tO,I⟩,tO,I,⟨tO,I⟩,⟨tO,I⟩,⟨tO,I⟩,tO,I,⟨tO,I⟩,⟨tO,I⟩,⟨tO,I⟩,tO,I,⟨tO,I⟩,⟨tO,I⟩,⟨tO,I⟩,⟨tO,I⟩,tO,I,(by simp_all),(by simp_all),(by simp_all),(by simp_all),I,I⟩<|RT ?_
 rotate_left
 refine g 5 74 [BT,BT,BT,BT,BT,BT,BT,BT,BT,BT,BT,BT,BF,BF,BF,BF,BF,BF,BF,BF,BF]<|J Za2<|RT ?_
 rotate_left
 refine g 5 74 [BT,BT,BT,BT,BT,BT,BT,BT,BF,BF,BF,BF,BF,BF,BF,BF,BF,BF,BF,BF,BF]<|J Zbc<|RT ?_
 rotate_left
 refine g 5 74 [BT,BT,BT,BT,BF,BF,BF,BF,BF,BF,BF,BF,BF,BF,BF,BF,BF,BF,BF,BF,BF]<|J Zbn<|RT ?_
 rotate_left
 refine g 5 74 [BF,BF,BF,BF,BF,BF,BF,BF,BF,BF,BF,BF,BF,BF,BF,BF,BF,BF,BF,BF,BF]<|J Za7<|RT ?_
 rotate_left
 refine g 25 32 [BT,BT,BT,BT,BT,BT,BT,BT,BT,BT]<|J Zcr<|W.cn<|J (fun _=>(g 19 24 []<|J UA (RT ?_))) (noF rfl)
 rotate_left
 refine g 14 17 [.call (V.b (decide (1≤w.number∧w.number≤8))) [[],[],[]],BF,BF,BF,.call (V.b (decide (1≤w.epoch∧w.epoch≤300))) [[],[],[]],BF,BF,BT,BT,BT,BT,BT]<|J ⟨I,I,⟨UC,I,UU,UA,ac _ _ _⟩,I,I,⟨nO,I⟩,⟨nO,I⟩,⟨nO,UC,I,UU,UA,ac _ _ _⟩,⟨nO,I⟩,nO,I,af OM,af OM,af OM,af OM,af OM,I⟩<|W.cn<|J (fun _=>(g 9 11 []<|J UA (RT ?_))) (noF rfl)
 rotate_left
 refine g 14 17 [.call (V.b (decide (1≤w.number∧w.number≤8))) [[],[],[]],BT,BT,BT,BT,BT,BT,BT,BT,BT,BT]<|J ⟨I,I,⟨UC,I,UU,UA,ac _ _ _⟩,I,I,af OM,af OM,af OM,af OM,af OM,I,rfl,rfl,rfl,rfl,rfl,I⟩<|W.cn<|J (fun _=>(g 9 11 []<|J UA (RT ?_))) (noF rfl)
 rotate_left
 all_goals (try simp only[List.length_map,decide_eq_true_eq,Bool.not_eq_true,Bool.not_eq_true',decide_eq_false_iff_not]at *)
 all_goals first
  |exact vbf (by unfold ar eE dC eD gm;grind)
  |exact vbt (by unfold ar eE dC eD gm;grind)
  |exact vbd (by unfold ar eE dC eD gm;grind)
theorem aq(w:Worker)(hl:w.inputs.length≤9223372036854775806):F pH [.val (eC w)] (.b (decide (ar w))) [[]]:=by
 refine pT ?_
 conv=>whnf
 refine g 0 1 []<|J Zd5<|W.sq ?_
 by_cases h1:(1:Int)≤Worker.number w∧Worker.number w≤(8:Int)
 by_cases h2:(1:Int)≤Worker.epoch w∧Worker.epoch w≤(300:Int)
 refine g 9 13 [.call (V.b (decide (1≤w.number∧w.number≤8))) [[],[],[]],BF,BF,BF,.call (V.b (decide (1≤w.epoch∧w.epoch≤300))) [[],[],[]],BF,BF,BF,BF,BF,.call (V.b (decide (0≤w.since∧w.since≤1000000))) [[],[],[]],BF,BF]<|J ⟨I,I,⟨UC,I,UU,UA,ag _ _ _⟩,I,I,⟨nO,I⟩,⟨nO,I⟩,⟨nO,UC,I,UU,UA,ag _ _ _⟩,⟨nO,I⟩,nO,I,⟨nO,I⟩,⟨nO,I⟩,⟨nO,UC,I,UU,UA,ag _ _ _⟩,⟨nO,I⟩,nO,I⟩<|W.cn<|J (fun h3=>?_) fun h3=>?_
 replace h3:=ndt h3
 refine g 15 18 []<|J UA<|RT ?_
 rotate_left
 replace h3:=ndf h3
 refine W.skip<|W.sq ?_
 by_cases h4:Worker.up w = true
 refine g 26 31 [BF,BF,BF,BF,BF,BF,BF,BF,BF]<|J ⟨I,I,I,I,nbF AS,nbF AS,nbF AS,nbF AS,I,I,I,nbF AS,nbF AS,I⟩<|W.cn<|J (noT rfl) fun _=>W.skip<|W.sq<|g 5 8 []<|J UB<|W.blk<|g 15 18 []<|J UB<|W.cn<|J (fun h5=>?_) fun h5=>?_
 replace h5:=dt h5
 by_cases h6:Worker.lease w = (0:Int)
 by_cases h7:Worker.task w = (0:Int)
 by_cases h8:Worker.cost w = (0:Int)
 by_cases h9:Worker.left w = (0:Int)
 by_cases h10:(↑(List.length (List.map ak (Worker.inputs w))):Int) = (0:Int)
 simp only[LM]at h10
 refine g 8 65 [BT,BT,BT,BT,BT,BT,BT,BT,BT,BT,BT,BT,BT,BT,BT,BT,BT,BT,BT,BT,BT]<|J Zaw<|RT ?_
 rotate_left
 simp only[LM]at h10
 refine g 8 65 [BT,BT,BT,BT,BT,BT,BT,BT,BT,BT,BT,BT,BT,BT,BT,BT,BT,BF,BF,BF,BF]<|J ⟨I,I,I,I,⟨tO,I⟩,⟨tO,I⟩,⟨tO,I⟩,tO,I,⟨tO,I⟩,⟨tO,I⟩,⟨tO,I⟩,tO,I,⟨tO,I⟩,⟨tO,I⟩,⟨tO,I⟩,tO,I,⟨tO,I⟩,⟨tO,I⟩,⟨tO,I⟩,⟨tO,I⟩,tO,I,(by simp_all),(by simp_all),(by simp_all),(by simp_all),I,I⟩<|RT ?_
 rotate_left
 refine g 8 65 [BT,BT,BT,BT,BT,BT,BT,BT,BT,BT,BT,BT,BF,BF,BF,BF,BF,BF,BF,BF,BF]<|J Za2<|RT ?_
 rotate_left
 refine g 8 65 [BT,BT,BT,BT,BT,BT,BT,BT,BF,BF,BF,BF,BF,BF,BF,BF,BF,BF,BF,BF,BF]<|J Zbc<|RT ?_
 rotate_left
 refine g 8 65 [BT,BT,BT,BT,BF,BF,BF,BF,BF,BF,BF,BF,BF,BF,BF,BF,BF,BF,BF,BF,BF]<|J Zbn<|RT ?_
 rotate_left
 refine g 8 65 [BF,BF,BF,BF,BF,BF,BF,BF,BF,BF,BF,BF,BF,BF,BF,BF,BF,BF,BF,BF,BF]<|J Za7<|RT ?_
 rotate_left
 replace h5:=df h5
 refine g 21 24 []<|J UB<|W.cn<|J (fun h6=>?_) fun h6=>?_
 replace h6:=dt h6
 by_cases h7:(1:Int)≤Worker.lease w∧Worker.lease w≤(300000000:Int)
 by_cases h8:(0:Int)≤Worker.task w∧Worker.task w≤(39:Int)
 by_cases h9:(1:Int)≤Worker.cost w∧Worker.cost w≤(20:Int)
 by_cases h10:(1:Int)≤Worker.left w∧Worker.left w≤Worker.cost w
 by_cases h11:dR (Worker.inputs w)
 refine g 8 97 [.call (V.b (decide (1≤w.lease∧w.lease≤300000000))) [[]],BT,BT,BT,.call (V.b (decide (0≤w.task∧w.task≤39))) [[],[],[]],BT,BT,BT,BT,.call (V.b (decide (1≤w.cost∧w.cost≤20))) [[],[],[]],BT,BT,BT,BT,BT,BT,.call (V.b (decide (1≤w.left∧w.left≤w.cost))) [[],[],[]],BT,BT,BT,BT,.call (V.b (decide (dR w.inputs))) [[]],BT,BT,BT,BT,BT]<|J ⟨I,I,⟨UA,I,US,UA,ax _⟩,I,⟨tO,I⟩,⟨tO,I⟩,⟨tO,UC,I,UU,UA,ag _ _ _⟩,tO,I,⟨tO,I⟩,⟨tO,I⟩,⟨tO,UC,I,UU,UA,ag _ _ _⟩,tO,I,⟨tO,I⟩,⟨tO,I⟩,⟨tO,I⟩,⟨tO,I⟩,⟨tO,UC,I,UU,UA,ag _ _ _⟩,tO,I,⟨tO,I⟩,⟨tO,I⟩,⟨tO,UA,I,US,UA,eh _ OM⟩,tO,I,⟨tO,I⟩,⟨tO,I⟩,⟨tO,I⟩,tO,I,I⟩<|RT ?_
 rotate_left
 refine g 8 97 [.call (V.b (decide (1≤w.lease∧w.lease≤300000000))) [[]],BT,BT,BT,.call (V.b (decide (0≤w.task∧w.task≤39))) [[],[],[]],BT,BT,BT,BT,.call (V.b (decide (1≤w.cost∧w.cost≤20))) [[],[],[]],BT,BT,BT,BT,BT,BT,.call (V.b (decide (1≤w.left∧w.left≤w.cost))) [[],[],[]],BT,BT,BT,BT,.call (V.b (decide (dR w.inputs))) [[]],BT,BF,BF,BF,BF]<|J ⟨I,I,⟨UA,I,US,UA,ax _⟩,I,⟨tO,I⟩,⟨tO,I⟩,⟨tO,UC,I,UU,UA,ag _ _ _⟩,tO,I,⟨tO,I⟩,⟨tO,I⟩,⟨tO,UC,I,UU,UA,ag _ _ _⟩,tO,I,⟨tO,I⟩,⟨tO,I⟩,⟨tO,I⟩,⟨tO,I⟩,⟨tO,UC,I,UU,UA,ag _ _ _⟩,tO,I,⟨tO,I⟩,⟨tO,I⟩,⟨tO,UA,I,US,UA,eh _ OM⟩,tO,I,dO,dO,dO,dO,I,I⟩<|RT ?_
 rotate_left
 refine g 8 97 [.call (V.b (decide (1≤w.lease∧w.lease≤300000000))) [[]],BT,BT,BT,.call (V.b (decide (0≤w.task∧w.task≤39))) [[],[],[]],BT,BT,BT,BT,.call (V.b (decide (1≤w.cost∧w.cost≤20))) [[],[],[]],BT,BT,BT,BT,BT,BT,.call (V.b (decide (1≤w.left∧w.left≤w.cost))) [[],[],[]],BT,BF,BF,BF,BF,BF,BF,BF,BF]<|J ⟨I,I,⟨UA,I,US,UA,ax _⟩,I,⟨tO,I⟩,⟨tO,I⟩,⟨tO,UC,I,UU,UA,ag _ _ _⟩,tO,I,⟨tO,I⟩,⟨tO,I⟩,⟨tO,UC,I,UU,UA,ag _ _ _⟩,tO,I,⟨tO,I⟩,⟨tO,I⟩,⟨tO,I⟩,⟨tO,I⟩,⟨tO,UC,I,UU,UA,ag _ _ _⟩,tO,I,dO,dO,dO,dO,I,rfl,rfl,rfl,rfl,I,I⟩<|RT ?_
 rotate_left
 refine g 8 97 [.call (V.b (decide (1≤w.lease∧w.lease≤300000000))) [[]],BT,BT,BT,.call (V.b (decide (0≤w.task∧w.task≤39))) [[],[],[]],BT,BT,BT,BT,.call (V.b (decide (1≤w.cost∧w.cost≤20))) [[],[],[]],BT,BF,BF,BF,BF,BF,BF,BF,BF,BF,BF,BF,BF,BF,BF]<|J ⟨I,I,⟨UA,I,US,UA,ax _⟩,I,⟨tO,I⟩,⟨tO,I⟩,⟨tO,UC,I,UU,UA,ag _ _ _⟩,tO,I,⟨tO,I⟩,⟨tO,I⟩,⟨tO,UC,I,UU,UA,ag _ _ _⟩,tO,I,dO,dO,dO,dO,dO,dO,I,rfl,rfl,rfl,rfl,I,rfl,rfl,rfl,rfl,I,I⟩<|RT ?_
 rotate_left
 refine g 8 97 [.call (V.b (decide (1≤w.lease∧w.lease≤300000000))) [[]],BT,BT,BT,.call (V.b (decide (0≤w.task∧w.task≤39))) [[],[],[]],BT,BF,BF,BF,BF,BF,BF,BF,BF,BF,BF,BF,BF,BF,BF,BF,BF,BF,BF]<|J ⟨I,I,⟨UA,I,US,UA,ax _⟩,I,⟨tO,I⟩,⟨tO,I⟩,⟨tO,UC,I,UU,UA,ag _ _ _⟩,tO,I,dO,dO,dO,dO,I,rfl,rfl,rfl,rfl,rfl,rfl,I,rfl,rfl,rfl,rfl,I,rfl,rfl,rfl,rfl,I,I⟩<|RT ?_
 rotate_left
 refine g 8 97 [.call (V.b (decide (1≤w.lease∧w.lease≤300000000))) [[]],BF,BF,BF,BF,BF,BF,BF,BF,BF,BF,BF,BF,BF,BF,BF,BF,BF,BF,BF,BF,BF,BF]<|J ⟨I,I,⟨UA,I,US,UA,ax _⟩,I,dO,dO,dO,dO,I,rfl,rfl,rfl,rfl,I,rfl,rfl,rfl,rfl,rfl,rfl,I,rfl,rfl,rfl,rfl,I,rfl,rfl,rfl,rfl,I,I⟩<|RT ?_
 rotate_left
 replace h6:=df h6
 refine g 25 67 []<|J UB<|W.cn<|J (fun h7=>?_) fun h7=>?_
 replace h7:=dt h7
 by_cases h8:(1:Int)≤Worker.lease w∧Worker.lease w≤(300000000:Int)
 by_cases h9:(0:Int)≤Worker.task w∧Worker.task w≤(39:Int)
 by_cases h10:(↑(ByteArray.size (Worker.text w)):Int) = (8:Int)
 by_cases h11:Worker.cost w = (0:Int)
 by_cases h12:Worker.left w = (0:Int)
 refine g 8 129 [.call (V.b (decide (1≤w.lease∧w.lease≤300000000))) [[]],BT,BT,BT,.call (V.b (decide (0≤w.task∧w.task≤39))) [[],[],[]],BT,BT,BT,BT,BT,BT,BT,BT,BT,BT,BT,BT,BT,BT,BT,BT,BT,BT,BT]<|J ⟨I,I,⟨UA,I,US,UA,ax _⟩,I,⟨tO,I⟩,⟨tO,I⟩,⟨tO,UC,I,UU,UA,ag _ _ _⟩,tO,I,⟨tO,I⟩,⟨tO,I⟩,⟨tO,I⟩,⟨tO,I⟩,tO,I,⟨tO,I⟩,⟨tO,I⟩,⟨tO,I⟩,tO,I,⟨tO,I⟩,⟨tO,I⟩,⟨tO,I⟩,tO,I,⟨tO,I⟩,⟨tO,I⟩,⟨tO,I⟩,⟨tO,I⟩,tO,I,I⟩<|RT ?_
 rotate_left
 refine g 8 129 [.call (V.b (decide (1≤w.lease∧w.lease≤300000000))) [[]],BT,BT,BT,.call (V.b (decide (0≤w.task∧w.task≤39))) [[],[],[]],BT,BT,BT,BT,BT,BT,BT,BT,BT,BT,BT,BT,BT,BT,BF,BF,BF,BF,BF]<|J ⟨I,I,⟨UA,I,US,UA,ax _⟩,I,⟨tO,I⟩,⟨tO,I⟩,⟨tO,UC,I,UU,UA,ag _ _ _⟩,tO,I,⟨tO,I⟩,⟨tO,I⟩,⟨tO,I⟩,⟨tO,I⟩,tO,I,⟨tO,I⟩,⟨tO,I⟩,⟨tO,I⟩,tO,I,⟨tO,I⟩,⟨tO,I⟩,⟨tO,I⟩,tO,I,dO,dO,dO,dO,dO,I,I⟩<|RT ?_
 rotate_left
 refine g 8 129 [.call (V.b (decide (1≤w.lease∧w.lease≤300000000))) [[]],BT,BT,BT,.call (V.b (decide (0≤w.task∧w.task≤39))) [[],[],[]],BT,BT,BT,BT,BT,BT,BT,BT,BT,BT,BF,BF,BF,BF,BF,BF,BF,BF,BF]<|J ⟨I,I,⟨UA,I,US,UA,ax _⟩,I,⟨tO,I⟩,⟨tO,I⟩,⟨tO,UC,I,UU,UA,ag _ _ _⟩,tO,I,⟨tO,I⟩,⟨tO,I⟩,⟨tO,I⟩,⟨tO,I⟩,tO,I,⟨tO,I⟩,⟨tO,I⟩,⟨tO,I⟩,tO,I,dO,dO,dO,dO,I,rfl,rfl,rfl,rfl,rfl,I,I⟩<|RT ?_
 rotate_left
 refine g 8 129 [.call (V.b (decide (1≤w.lease∧w.lease≤300000000))) [[]],BT,BT,BT,.call (V.b (decide (0≤w.task∧w.task≤39))) [[],[],[]],BT,BT,BT,BT,BT,BT,BF,BF,BF,BF,BF,BF,BF,BF,BF,BF,BF,BF,BF]<|J ⟨I,I,⟨UA,I,US,UA,ax _⟩,I,⟨tO,I⟩,⟨tO,I⟩,⟨tO,UC,I,UU,UA,ag _ _ _⟩,tO,I,⟨tO,I⟩,⟨tO,I⟩,⟨tO,I⟩,⟨tO,I⟩,tO,I,dO,dO,dO,dO,I,rfl,rfl,rfl,rfl,I,rfl,rfl,rfl,rfl,rfl,I,I⟩<|RT ?_
 rotate_left
 refine g 8 129 [.call (V.b (decide (1≤w.lease∧w.lease≤300000000))) [[]],BT,BT,BT,.call (V.b (decide (0≤w.task∧w.task≤39))) [[],[],[]],BT,BF,BF,BF,BF,BF,BF,BF,BF,BF,BF,BF,BF,BF,BF,BF,BF,BF,BF]<|J ⟨I,I,⟨UA,I,US,UA,ax _⟩,I,⟨tO,I⟩,⟨tO,I⟩,⟨tO,UC,I,UU,UA,ag _ _ _⟩,tO,I,dO,dO,dO,dO,dO,I,rfl,rfl,rfl,rfl,I,rfl,rfl,rfl,rfl,I,rfl,rfl,rfl,rfl,rfl,I,I⟩<|RT ?_
 rotate_left
 refine g 8 129 [.call (V.b (decide (1≤w.lease∧w.lease≤300000000))) [[]],BF,BF,BF,BF,BF,BF,BF,BF,BF,BF,BF,BF,BF,BF,BF,BF,BF,BF,BF,BF,BF,BF]<|J ⟨I,I,⟨UA,I,US,UA,ax _⟩,I,dO,dO,dO,dO,I,rfl,rfl,rfl,rfl,rfl,I,rfl,rfl,rfl,rfl,I,rfl,rfl,rfl,rfl,I,rfl,rfl,rfl,rfl,rfl,I,I⟩<|RT ?_
 rotate_left
 replace h7:=df h7
 refine W.skip<|g 8 99 []<|J UA<|RT ?_
 rotate_left
 replace h4:=Bool.eq_false_iff.2 h4
 by_cases h5:Worker.state w = (0:Int)
 refine g 26 31 [BT,BT,BT,BT,BF,BF,BF,BT,BF,BT]<|J Zcq<|W.cn<|J (fun h6=>?_) fun h6=>?_
 replace h6:=ndt h6
 refine g 5 8 []<|J UA<|RT ?_
 rotate_left
 replace h6:=ndf h6
 refine W.skip<|W.sq<|g 5 8 []<|J UB<|W.blk<|g 15 18 []<|J UB<|W.cn<|J (fun _=>?_) (noF tO)
 by_cases h7:Worker.lease w = (0:Int)
 by_cases h8:Worker.task w = (0:Int)
 by_cases h9:Worker.cost w = (0:Int)
 by_cases h10:Worker.left w = (0:Int)
 by_cases h11:(↑(List.length (List.map ak (Worker.inputs w))):Int) = (0:Int)
 simp only[LM]at h11
 refine g 8 65 [BT,BT,BT,BT,BT,BT,BT,BT,BT,BT,BT,BT,BT,BT,BT,BT,BT,BT,BT,BT,BT]<|J Zaw<|RT ?_
 rotate_left
 simp only[LM]at h11
 refine g 8 65 [BT,BT,BT,BT,BT,BT,BT,BT,BT,BT,BT,BT,BT,BT,BT,BT,BT,BF,BF,BF,BF]<|J ⟨I,I,I,I,⟨tO,I⟩,⟨tO,I⟩,⟨tO,I⟩,tO,I,⟨tO,I⟩,⟨tO,I⟩,⟨tO,I⟩,tO,I,⟨tO,I⟩,⟨tO,I⟩,⟨tO,I⟩,tO,I,⟨tO,I⟩,⟨tO,I⟩,⟨tO,I⟩,⟨tO,I⟩,tO,I,(by simp_all),(by simp_all),(by simp_all),(by simp_all),I,I⟩<|RT ?_
 rotate_left
 refine g 8 65 [BT,BT,BT,BT,BT,BT,BT,BT,BT,BT,BT,BT,BF,BF,BF,BF,BF,BF,BF,BF,BF]<|J Za2<|RT ?_
 rotate_left
 refine g 8 65 [BT,BT,BT,BT,BT,BT,BT,BT,BF,BF,BF,BF,BF,BF,BF,BF,BF,BF,BF,BF,BF]<|J Zbc<|RT ?_
 rotate_left
 refine g 8 65 [BT,BT,BT,BT,BF,BF,BF,BF,BF,BF,BF,BF,BF,BF,BF,BF,BF,BF,BF,BF,BF]<|J Zbn<|RT ?_
 rotate_left
 refine g 8 65 [BF,BF,BF,BF,BF,BF,BF,BF,BF,BF,BF,BF,BF,BF,BF,BF,BF,BF,BF,BF,BF]<|J Za7<|RT ?_
 rotate_left
 refine g 26 31 [BT,BT,BT,BT,BT,BT,BT,BT,BT,BT]<|J Zcr<|W.cn<|J (fun _=>(g 5 8 []<|J UA (RT ?_))) (noF rfl)
 rotate_left
 refine g 9 13 [.call (V.b (decide (1≤w.number∧w.number≤8))) [[],[],[]],BF,BF,BF,.call (V.b (decide (1≤w.epoch∧w.epoch≤300))) [[],[],[]],BF,BF,BT,BT,BT,BT,BT]<|J ⟨I,I,⟨UC,I,UU,UA,ag _ _ _⟩,I,I,⟨nO,I⟩,⟨nO,I⟩,⟨nO,UC,I,UU,UA,ag _ _ _⟩,⟨nO,I⟩,nO,I,af OM,af OM,af OM,af OM,af OM,I⟩<|W.cn<|J (fun _=>(g 15 18 []<|J UA (RT ?_))) (noF rfl)
 rotate_left
 refine g 9 13 [.call (V.b (decide (1≤w.number∧w.number≤8))) [[],[],[]],BT,BT,BT,BT,BT,BT,BT,BT,BT,BT]<|J ⟨I,I,⟨UC,I,UU,UA,ag _ _ _⟩,I,I,af OM,af OM,af OM,af OM,af OM,I,rfl,rfl,rfl,rfl,rfl,I⟩<|W.cn<|J (fun _=>(g 15 18 []<|J UA (RT ?_))) (noF rfl)
 rotate_left
 all_goals (try simp only[List.length_map,decide_eq_true_eq,Bool.not_eq_true,Bool.not_eq_true',decide_eq_false_iff_not]at *)
 all_goals first
  |exact vbf (by unfold ar eE dC eD gm;grind)
  |exact vbt (by unfold ar eE dC eD gm;grind)
  |exact vbd (by unfold ar eE dC eD gm;grind)
end Go.K
end
section
open Go Go.Tm Go.Proofs
namespace Go.K
theorem ir(w:Worker)(s:Int):F nS [.val (eC w),.val (.i s)] (aB ⟨w.number,w.epoch,w.up,0,0,0,0,0,[],emp,s⟩) [[],[]]:=by
 refine nU ?_
 conv=>whnf
 refine g 0 0 []<|J Zd5<|g 5 13 []<|J ⟨I,I,I,I,I,I,I,I,UK,I⟩<|RT ?_
 rfl
theorem dX(xs:List ByteArray)(hl:xs.length≤1048576):F Bl [.val (.t (wt xs))] (.own [false] (xs.map ak)) [[]]:=by
 refine Bz ?_
 conv=>whnf
 refine g 0 0 []<|J UA<|g 3 6 []<|J ⟨I,I,Zdi,I,I⟩<|RT ?_
 rfl
theorem fr(w:Worker)(hl:w.inputs.length≤1048576):F pK [.val (eC w)] (aB w) [[]]:=by
 refine pU ?_
 conv=>whnf
 refine g 0 1 []<|J Zd5<|g 3 7 [.call (V.own [false] (List.map ak w.inputs)) [[]]]<|J ⟨I,I,⟨UA,I,US,UA,dX _ OM⟩,I,UA,I⟩<|g 1 2 []<|J Zeg<|RT ?_
 rfl
def lV(w:Worker):Worker:=if ar w then⟨w.number,w.epoch,false,0,0,0,0,0,[],emp,0⟩else lG
def jd(w:Worker):Worker:=if ar w then(if w.up = true∨300≤w.epoch then w else⟨w.number,w.epoch+1,true,0,0,0,0,0,[],emp,3⟩)else lG
theorem Ij{w:Worker}(h:¬ar w):lV w = lG:=if_neg h
theorem Ii{w:Worker}(h:ar w):lV w = ⟨w.number,w.epoch,false,0,0,0,0,0,[],emp,0⟩:=if_pos h
theorem rz(w:Worker)(hl:w.inputs.length≤1048576):F re [.val (eC w)] (aB (lV w)) [[]]:=by
 refine ro ?_
 conv=>whnf
 refine g 0 1 []<|J Zd5<|W.sq<|g 3 5 [.call (V.b (decide (ar w))) [[]]]<|J ⟨I,⟨UA,I,⟨UK,I⟩,UA,dN _ OM⟩,I,I⟩<|W.cn<|J (fun h1=>?_) fun h1=>?_
 replace h1:=ndt h1
 refine g 5 7 []<|J Zeg<|RT ?_
 rotate_left
 replace h1:=ndf h1
 refine W.skip<|g 5 9 [.call (aB {number:=w.number,epoch:=w.epoch,up:=w.up,state:=0,lease:=0,task:=0,cost:=0,left:=0,inputs:=[],text:=emp,since:=0:Worker}) [[],[]]]<|J ⟨I,⟨UB,I,⟨UK,UA,I⟩,UA,ir _ _⟩,UK,I⟩<|g 9 10 []<|J UV<|g 1 2 []<|J Zeg<|RT ?_
 rotate_left
 ·exact congrArg aB (Eq.symm (Ij h1))
 ·exact congrArg aB (Eq.symm (Ii h1))
theorem Eu{w:Worker}(h:ar w):1≤w.epoch∧w.epoch≤300:=h.2.1
theorem HG{w:Worker}(h:¬ar w):jd w = lG:=if_neg h
theorem oh{w:Worker}(h:ar w)(h1:w.up = true∨300≤w.epoch):jd w = w:=by rw[jd,if_pos h,if_pos h1]
theorem HF{w:Worker}(h:ar w)(h1:¬(w.up = true∨300≤w.epoch)):jd w = ⟨w.number,w.epoch+1,true,0,0,0,0,0,[],emp,3⟩:=by rw[jd,if_pos h,if_neg h1]
theorem ry(w:Worker)(hl:w.inputs.length≤1048576):F rd [.val (eC w)] (aB (jd w)) [[]]:=by
 by_cases h:ar w
 ·have he:=Eu h
  refine jG ?_
  conv=>whnf
  refine g 0 0 []<|J Zd5<|W.sq<|g 3 5 [.call (V.b (decide (ar w))) [[]]]<|J ⟨I,⟨UA,I,⟨UK,I⟩,UA,dN _ OM⟩,I,I⟩<|W.cn<|J (noT nO) fun _=>W.skip<|W.sq ?_
  by_cases h1:Worker.up w = true
  refine g 5 10 [BT,BT,BT,BT]<|J ⟨I,I,I,AS,AS,AS,AS,I⟩<|W.cn<|J (fun _=>(g 11 16 [.call (aB w) [[]]]<|J ⟨I,⟨UA,I,⟨UK,I⟩,UA,fr _ OM⟩,UK,I⟩ (RT ?_))) (noF rfl)
  rotate_left
  replace h1:=Bool.eq_false_iff.2 h1
  refine g 5 10 [BF,BF,BF,BF]<|J ⟨I,I,I,⟨AS,I⟩,⟨AS,I⟩,⟨AS,I⟩,AS,I⟩<|W.cn<|J (fun h2=>?_) fun h2=>?_
  replace h2:=dt h2
  refine g 11 16 [.call (aB w) [[]]]<|J ⟨I,⟨UA,I,⟨UK,I⟩,UA,fr _ OM⟩,UK,I⟩<|RT ?_
  rotate_left
  replace h2:=df h2
  refine W.skip<|g 10 22 [.i (w.epoch+1)]<|J ⟨I,I,I,I,wO,I,UK,I⟩<|RT ?_
  rotate_left
  ·rw[oh h (by grind)]
  ·rw[oh h (by grind)]
  ·exact congrArg aB (Eq.symm (HF h (by grind)))
 ·refine jG ?_
  conv=>whnf
  refine g 0 0 []<|J Zd5<|W.sq<|g 3 5 [.call (V.b (decide (ar w))) [[]]]<|J ⟨I,⟨UA,I,⟨UK,I⟩,UA,dN _ OM⟩,I,I⟩<|W.cn<|J (fun _=>(g 5 7 []<|J Zeg (RT ?_))) (noF (af OM))
  exact congrArg aB (Eq.symm (HG h))
end Go.K
end
section
open Go Go.Tm Go.Proofs
namespace Go.K
structure Log where
 safe:List ByteArray
 loose:List ByteArray
 deriving DecidableEq
abbrev Tq(x:Log):V:=.agg [.t (.slc [false] (x.safe.map ak)),.t (.slc [false] (x.loose.map ak))]
structure Job where
 lease:Int
 worker:Int
 til:Int
 deriving DecidableEq
abbrev aV(x:Job):List T:=[.i x.lease,.i x.worker,.i x.til]
abbrev fv:List Bool:=[false,false,false]
abbrev ga:Job:=⟨0,0,0⟩
structure Seat where
 free:Bool
 epoch:Int
 deriving DecidableEq
abbrev aR(x:Seat):List T:=[.b x.free,.i x.epoch]
abbrev cM:List Bool:=[false,false]
abbrev jZ:Seat:=⟨false,0⟩
structure Owed where
 worker:Int
 lease:Int
 task:Int
 deriving DecidableEq
abbrev bg(x:Owed):List T:=[.i x.worker,.i x.lease,.i x.task]
abbrev cN:List Bool:=[false,false,false]
structure Boss where
 workers:Int
 up:Bool
 now:Int
 since:Int
 epoch:Int
 given:Int
 log:Log
 results:List ByteArray
 jobs:List Job
 seats:List Seat
 owed:List Owed
 deriving DecidableEq
abbrev gS(x:Boss):V:=.agg [.t (.i x.workers),.t (.b x.up),.t (.i x.now),.t (.i x.since),.t (.i x.epoch),.t (.i x.given),.t (.slc [false] (x.log.safe.map ak)),.t (.slc [false] (x.log.loose.map ak)),.t (.slc [false] (x.results.map ak)),.t (.slc fv (x.jobs.map aV)),.t (.slc cM (x.seats.map aR)),.t (.slc cN (x.owed.map bg))]
abbrev aG(x:Boss):V:=.agg [.t (.i x.workers),.t (.b x.up),.t (.i x.now),.t (.i x.since),.t (.i x.epoch),.t (.i x.given),.own [false] (x.log.safe.map ak),.own [false] (x.log.loose.map ak),.own [false] (x.results.map ak),.own fv (x.jobs.map aV),.own cM (x.seats.map aR),.own cN (x.owed.map bg)]
abbrev j7:Boss:=⟨0,false,0,0,0,0,⟨[],[]⟩,[],[],[],[]⟩
def atS(rs:List ByteArray)(k:Int):ByteArray:=(rs[k.toNat]?).getD emp
def iv(ts:List Task)(n:Nat):List Int:=((ts[n]?).map Task.deps).getD []
structure JobOk (b:Boss) (ts:List Task) (i:Nat) (j:Job):Prop where
 lease:(b.epoch - 1) * 1000000+1≤j.lease∧j.lease≤(b.epoch - 1) * 1000000+b.given
 worker:1≤j.worker∧j.worker≤b.workers
 til:b.now+1≤j.til∧j.til≤b.now+12
 res:atS b.results (i:Int) = emp
 ready:cu b.results (iv ts i)
 once:j.lease ∉ (b.jobs.take i).map Job.lease
def Cu(b:Boss)(ts:List Task)(i:Nat)(j:Job):Prop:=(j.lease = 0→j.worker = 0∧j.til = 0)∧(¬j.lease = 0→JobOk b ts i j)
def gI(b:Boss)(ts:List Task)(n:Nat):Prop:=∀ (m:Nat) (j:Job),m < n→b.jobs[m]? = some j→Cu b ts m j
structure OwedOk (b:Boss) (ts:List Task) (o:Owed):Prop where
 worker:1≤o.worker∧o.worker≤b.workers
 lease:1≤o.lease∧o.lease≤300000000
 task:0≤o.task∧o.task≤(ts.length:Int) - 1
 res:¬atS b.results o.task = emp
structure UpOk (b:Boss) (ts:List Task) (st:Story):Prop where
 epoch:b.epoch = st.epoch
 pos:1≤b.epoch
 rlen:b.results.length = ts.length
 jlen:b.jobs.length = ts.length
 slen:(b.seats.length:Int) = b.workers
 res:b.results = st.results
 since:0≤b.since∧b.since≤1
 given:0≤b.given∧b.given≤1000000
 olen:b.owed.length≤2000
 jobs:gI b ts b.jobs.length
 seats:∀ s∈b.seats,0≤s.epoch∧s.epoch≤300
 owed:∀ o∈b.owed,OwedOk b ts o
structure DownOk (b:Boss):Prop where
 loose:b.log.loose.length = 0
 since:b.since = 0
 epoch:b.epoch = 0
 given:b.given = 0
 res:b.results.length = 0
 jobs:b.jobs.length = 0
 seats:b.seats.length = 0
 owed:b.owed.length = 0
noncomputable def bU(b:Boss)(p:Plan):Story:=am p (b.log.safe++b.log.loose)
structure BossOk (b:Boss) (p:Plan):Prop where
 plan:ah p.tasks = 0
 workers:1≤b.workers∧b.workers≤8
 now:0≤b.now∧b.now≤1000000
 code:(bU b p).code = 0
 up:b.up = true→UpOk b p.tasks (bU b p)
 down:b.up = false→DownOk b
noncomputable instance (b:Boss) (p:Plan):Decidable (BossOk b p):=Classical.propDecidable _
theorem fI{b:Boss}{p:Plan}(hup:b.up = true)(h:¬UpOk b p.tasks (bU b p)):¬BossOk b p:=fun q=>h (q.up hup)
theorem wT{b:Boss}{p:Plan}(hup:b.up = false)(h:¬DownOk b):¬BossOk b p:=fun q=>h (q.down hup)
theorem bL{p:Plan}{xs:List ByteArray}(h:(am p xs).code = 0):ah p.tasks = 0∧xs.length≤310∧(am p xs).results.length = p.tasks.length∧∃ t,iw p.tasks (some (kS p.tasks)) xs = some t∧am p xs = ⟨0,t.epoch,t.results⟩:=by
 unfold am at h ⊢
 by_cases hq:ah p.tasks = 0∧xs.length≤310
 ·rw[if_pos hq]at h ⊢
  cases hr:iw p.tasks (some (kS p.tasks)) xs with
  |none=>rw[hr]at h;cases h
  |some t =>
   refine⟨hq.1,hq.2,?_,t,rfl,rfl⟩
   have:=si p.tasks xs _ _ hr
   rw[kS,List.length_replicate]at this
   exact this
 ·rw[if_neg hq]at h;cases h
theorem Lm{ts:List Task}{t t':Tale}{s:ByteArray}(h:cY ts t s = some t')(h0:0≤t.epoch∧t.epoch≤300):0≤t'.epoch∧t'.epoch≤300:=by
 unfold cY at h
 split at h
 ·cases h
 ·rename_i e he
  have hr:=fT he
  split at h
  ·split at h
   ·cases h;have:=hr.1;exact⟨by dsimp only;omega,this.2⟩
   ·cases h
  ·split at h
   ·cases h;exact h0
   ·cases h
theorem HE{ts:List Task}:∀ {l:List ByteArray} {t t':Tale},iw ts (some t) l = some t'→0≤t.epoch∧t.epoch≤300→0≤t'.epoch∧t'.epoch≤300
 |[],t,t',h,h0=>by rw[jz]at h;cases h;exact h0
 |s :: l,t,t',h,h0=>by
  rw[og]at h
  cases hs:cY ts t s with
  |none=>rw[hs,fS]at h;cases h
  |some u=>rw[hs]at h;exact HE h (Lm hs h0)
theorem eS{p:Plan}{xs:List ByteArray}(h:(am p xs).code = 0):0≤(am p xs).epoch∧(am p xs).epoch≤300:=by
 obtain⟨_,_,_,t,h1,h2⟩:=bL h
 rw[h2]
 exact HE h1 ⟨Int.le_refl _,by show(0:Int)≤300;omega⟩
theorem mP{b:Boss}{ts:List Task}{st:Story}{n:Nat}{j:Job}(hj:b.jobs[n]? = some j)(h:¬Cu b ts n j):¬UpOk b ts st:=fun q=>h (q.jobs n j (List.getElem?_eq_some_iff.1 hj).1 hj)
theorem oq{b:Boss}{ts:List Task}{n:Nat}{j:Job}(hc:gI b ts n)(hj:b.jobs[n]? = some j)(h:Cu b ts n j):gI b ts (n+1):=fun m k hm hk=>by
 by_cases e:m = n
 ·subst e;rw[hj]at hk;cases hk;exact h
 ·exact hc m k OM hk
theorem pE{rs:List ByteArray}{n:Nat}{y:ByteArray}(h:rs[n]? = some y):atS rs (n:Int) = y:=by unfold atS;rw[Int.toNat_natCast,h];rfl
theorem kR{rs:List ByteArray}{k:Int}{y:ByteArray}(h:rs[k.toNat]? = some y):atS rs k = y:=by unfold atS;rw[h];rfl
theorem cJ{ts:List Task}{n:Nat}{t:Task}(h:ts[n]? = some t):iv ts n = t.deps:=by unfold iv;rw[h];rfl
def mi(b:Boss)(n:Nat):List Value:=(((b.jobs.take n).map Job.lease).filter (fun l=>decide (¬l = 0))).map fun l=>Value.int .i64 l
theorem Ao{b:Boss}{n:Nat}{l:Int}(h:¬l = 0):Value.int .i64 l∈mi b n↔l∈(b.jobs.take n).map Job.lease:=by
 simp[mi,h]
theorem Jw(b:Boss)(n:Nat)(l0:Int):∀ x∈mi b n,kin (.int .i64 l0) x:=by
 intro x hx
 obtain⟨l,_,rfl⟩:=List.mem_map.1 hx
 rfl
theorem Gt{b:Boss}{n:Nat}{j:Job}(h:b.jobs[n]? = some j)(h0:j.lease = 0):mi b (n+1) = mi b n:=by
 unfold mi;rw[List.take_add_one,h];simp[h0]
theorem Gs{b:Boss}{n:Nat}{j:Job}(h:b.jobs[n]? = some j)(h0:¬j.lease = 0):mi b n++ [Value.int .i64 j.lease] = mi b (n+1):=by
 unfold mi;rw[List.take_add_one,h];simp[h0]
theorem D8{b:Boss}{ts:List Task}{st:Story}{n:Nat}{s:Seat}(hs:b.seats[n]? = some s)(h:¬(0≤s.epoch∧s.epoch≤300)):¬UpOk b ts st:=fun q=>h (q.seats s (List.mem_of_getElem? hs))
theorem kA{b:Boss}{ts:List Task}{st:Story}{n:Nat}{o:Owed}(hs:b.owed[n]? = some o)(h:¬OwedOk b ts o):¬UpOk b ts st:=fun q=>h (q.owed o (List.mem_of_getElem? hs))
theorem dI{α:Type}{p:α→Prop}{xs:List α}{n:Nat}{x:α}(hc:∀ y∈xs.take n,p y)(h:xs[n]? = some x)(hp:p x):∀ y∈xs.take (n+1),p y:=by
 intro y hy
 rw[List.take_add_one,h]at hy
 rcases List.mem_append.1 hy with hy|hy
 ·exact hc y hy
 ·rw[Option.toList,List.mem_singleton]at hy;subst hy;exact hp
theorem n4(b:Boss)(h1:b.log.safe.length≤1048576)(h2:b.log.loose.length≤1048576):F nT [.val (gS b)] (.own [false] ((b.log.safe++b.log.loose).map ak)) [[]]:=by
 refine nV ?_
 conv=>whnf
 refine g 0 1 []<|J ⟨UL,I,I⟩<|gd 3 11 [[],[],[],[.call (V.own [false] (List.map ak b.log.safe)) [[]]],[],[],[],[],[]] ?_
 conv=>whnf
 refine J ⟨I,I,I,⟨UA,I,US,UA,dX _ OM⟩,I,I,I,Zdi,I,I⟩<|J KR<|RT ?_
 rw[List.map_append];rfl
theorem rR(l:Log)(h1:l.safe.length≤1048576)(h2:l.loose.length≤1048576):F Bc [.val (Tq l)] (.own [false] ((l.safe++l.loose).map ak)) [[]]:=by
 refine Bq ?_
 conv=>whnf
 refine g 0 1 []<|J ⟨UB,I,I⟩<|gd 3 10 [[],[],[],[],[],[],[],[]] ?_
 conv=>whnf
 refine J ⟨I,I,I,Zdi,I,I,Zdi,I,I⟩<|J KR<|RT ?_
 rw[List.map_append];rfl
end Go.K
end
section
open Go Go.Tm Go.Proofs
namespace Go.K
theorem tH(b:Boss)(p:Plan)(hp:cQ p)(hl1:b.log.safe.length≤1048576)(hl2:b.log.loose.length≤1048576)(hs:∀ s∈b.log.safe++b.log.loose,s.size≤281474976710656)(hr:b.results.length≤1048576)(hj:b.jobs.length≤1048576)(hse:b.seats.length≤1048576)(ho:b.owed.length≤1048576):F kC [.val (gS b),.val (cE p)] (.b (decide (BossOk b p))) [[],[]]:=by
 have cp:=eK p hp
 have ce:=n4 b hl1 hl2
 have cr:F oZ [.val (cE p),.val (.t (wt (b.log.safe++b.log.loose)))] (gj (bU b p)) [[],[]]:=pA p (b.log.safe++b.log.loose) hp hs (by rw[List.length_append];omega)
 by_cases hup:b.up = true
 rotate_left
 ·rw[Bool.not_eq_true]at hup
  refine kI ?_
  conv=>whnf
  refine g 0 2 []<|J Zcd<|W.sq ?_
  by_cases h1:ah (Plan.tasks p) = (0:Int)
  by_cases h2:(1:Int)≤Boss.workers b∧Boss.workers b≤(8:Int)
  refine g 17 19 [.call (V.i (ah p.tasks)) [[]],BF,BF,BF,.call (V.b (decide (1≤b.workers∧b.workers≤8))) [[],[],[]],BF,BF,BF,BF,BF,.call (V.b (decide (0≤b.now∧b.now≤1000000))) [[],[],[]],BF,BF]<|J ⟨I,Zai,I,I,⟨nO,I⟩,⟨nO,I⟩,⟨nO,UC,I,UU,UA,ac _ _ _⟩,⟨nO,I⟩,nO,I,⟨nO,I⟩,⟨nO,I⟩,⟨nO,UC,I,UU,UA,ac _ _ _⟩,⟨nO,I⟩,nO,I⟩<|W.cn<|J (fun h3=>?_) fun h3=>?_
  replace h3:=ndt h3
  refine g 29 31 []<|J UA<|RT ?_
  rotate_left
  replace h3:=ndf h3
  refine W.skip<|gd 29 32 [[],[],[.call (V.own [false] (List.map ak (b.log.safe++b.log.loose))) [[]]],[.call (gj (bU b p)) [[],[]]],[],[]] ?_
  conv=>whnf
  refine J ⟨I,I,Za0,Zam,I,UC,I⟩<|J KR<|W.sq<|g 33 37 []<|J UC<|W.cn<|J (fun h4=>?_) fun h4=>?_
  replace h4:=ndt h4
  refine g 21 22 []<|J UA<|RT ?_
  rotate_left
  replace h4:=ndf h4
  refine W.skip<|W.sq<|g 21 22 []<|J UC<|W.cn<|J (fun _=>?_) (noF (nbT AS))
  by_cases h5:(↑(List.length (List.map ak (Log.loose (Boss.log b)))):Int) = (0:Int)
  simp only[LM]at h5
  by_cases h6:Boss.since b = (0:Int)
  by_cases h7:Boss.epoch b = (0:Int)
  by_cases h8:Boss.given b = (0:Int)
  by_cases h9:(↑(List.length (List.map ak (Boss.results b))):Int) = (0:Int)
  simp only[LM]at h9
  by_cases h10:(↑(List.length (List.map aV (Boss.jobs b))):Int) = (0:Int)
  simp only[LM]at h10
  by_cases h11:(↑(List.length (List.map aR (Boss.seats b))):Int) = (0:Int)
  simp only[LM]at h11
  refine g 32 85 [BT,BT,BT,BT,BT,BT,BT,BT,BT,BT,BT,BT,BT,BT,BT,BT,BT,BT,BT,BT,BT,BT,BT,BT,BT,BT,BT,BT,BT,BT,BT,BT] ?_
  conv=>whnf
  refine J Za1<|RT ?_
  rotate_left
  simp only[LM]at h11
  refine g 32 85 [BT,BT,BT,BT,BT,BT,BT,BT,BT,BT,BT,BT,BT,BT,BT,BT,BT,BT,BT,BT,BT,BT,BT,BT,BT,BT,BT,BF,BF,BF,BF,BF] ?_
  conv=>whnf
  refine J ⟨I,I,I,I,I,I,⟨SI,I⟩,⟨SI,I⟩,⟨SI,I⟩,SI,I,⟨tO,I⟩,⟨tO,I⟩,⟨tO,I⟩,tO,I,⟨tO,I⟩,⟨tO,I⟩,⟨tO,I⟩,tO,I,⟨tO,I⟩,⟨tO,I⟩,⟨tO,I⟩,⟨tO,I⟩,tO,I,⟨SI,I⟩,⟨SI,I⟩,⟨SI,I⟩,⟨SI,I⟩,SI,I,⟨SI,I⟩,⟨SI,I⟩,⟨SI,I⟩,⟨SI,I⟩,SI,I,(by simp_all),(by simp_all),(by simp_all),(by simp_all),(by simp_all),I,I⟩<|RT ?_
  rotate_left
  simp only[LM]at h10
  refine g 32 85 [BT,BT,BT,BT,BT,BT,BT,BT,BT,BT,BT,BT,BT,BT,BT,BT,BT,BT,BT,BT,BT,BT,BF,BF,BF,BF,BF,BF,BF,BF,BF,BF] ?_
  conv=>whnf
  refine J ⟨I,I,I,I,I,I,⟨SI,I⟩,⟨SI,I⟩,⟨SI,I⟩,SI,I,⟨tO,I⟩,⟨tO,I⟩,⟨tO,I⟩,tO,I,⟨tO,I⟩,⟨tO,I⟩,⟨tO,I⟩,tO,I,⟨tO,I⟩,⟨tO,I⟩,⟨tO,I⟩,⟨tO,I⟩,tO,I,⟨SI,I⟩,⟨SI,I⟩,⟨SI,I⟩,⟨SI,I⟩,SI,I,(by simp_all),(by simp_all),(by simp_all),(by simp_all),(by simp_all),I,rfl,rfl,rfl,rfl,rfl,I,I⟩<|RT ?_
  rotate_left
  simp only[LM]at h9
  refine g 32 85 [BT,BT,BT,BT,BT,BT,BT,BT,BT,BT,BT,BT,BT,BT,BT,BT,BT,BF,BF,BF,BF,BF,BF,BF,BF,BF,BF,BF,BF,BF,BF,BF] ?_
  conv=>whnf
  refine J ⟨I,I,I,I,I,I,⟨SI,I⟩,⟨SI,I⟩,⟨SI,I⟩,SI,I,⟨tO,I⟩,⟨tO,I⟩,⟨tO,I⟩,tO,I,⟨tO,I⟩,⟨tO,I⟩,⟨tO,I⟩,tO,I,⟨tO,I⟩,⟨tO,I⟩,⟨tO,I⟩,⟨tO,I⟩,tO,I,(by simp_all),(by simp_all),(by simp_all),(by simp_all),(by simp_all),I,rfl,rfl,rfl,rfl,rfl,I,rfl,rfl,rfl,rfl,rfl,I,I⟩<|RT ?_
  rotate_left
  refine g 32 85 [BT,BT,BT,BT,BT,BT,BT,BT,BT,BT,BT,BT,BF,BF,BF,BF,BF,BF,BF,BF,BF,BF,BF,BF,BF,BF,BF,BF,BF,BF,BF,BF] ?_
  conv=>whnf
  refine J Zbs<|RT ?_
  rotate_left
  refine g 32 85 [BT,BT,BT,BT,BT,BT,BT,BT,BF,BF,BF,BF,BF,BF,BF,BF,BF,BF,BF,BF,BF,BF,BF,BF,BF,BF,BF,BF,BF,BF,BF,BF] ?_
  conv=>whnf
  refine J Zbx<|RT ?_
  rotate_left
  refine g 32 85 [BT,BT,BT,BT,BF,BF,BF,BF,BF,BF,BF,BF,BF,BF,BF,BF,BF,BF,BF,BF,BF,BF,BF,BF,BF,BF,BF,BF,BF,BF,BF,BF] ?_
  conv=>whnf
  refine J Zb1<|RT ?_
  rotate_left
  simp only[LM]at h5
  refine g 32 85 [BF,BF,BF,BF,BF,BF,BF,BF,BF,BF,BF,BF,BF,BF,BF,BF,BF,BF,BF,BF,BF,BF,BF,BF,BF,BF,BF,BF,BF,BF,BF,BF] ?_
  conv=>whnf
  refine J ⟨I,I,I,I,I,I,(by simp_all),(by simp_all),(by simp_all),(by simp_all),I,rfl,rfl,rfl,rfl,I,rfl,rfl,rfl,rfl,I,rfl,rfl,rfl,rfl,rfl,I,rfl,rfl,rfl,rfl,rfl,I,rfl,rfl,rfl,rfl,rfl,I,rfl,rfl,rfl,rfl,rfl,I,I⟩<|RT ?_
  rotate_left
  refine g 17 19 [.call (V.i (ah p.tasks)) [[]],BF,BF,BF,.call (V.b (decide (1≤b.workers∧b.workers≤8))) [[],[],[]],BF,BF,BT,BT,BT,BT,BT]<|J ⟨I,Zai,I,I,⟨nO,I⟩,⟨nO,I⟩,⟨nO,UC,I,UU,UA,ac _ _ _⟩,⟨nO,I⟩,nO,I,af OM,af OM,af OM,af OM,af OM,I⟩<|W.cn<|J (fun _=>(g 29 31 []<|J UA (RT ?_))) (noF rfl)
  rotate_left
  refine g 17 19 [.call (V.i (ah p.tasks)) [[]],BT,BT,BT,BT,BT,BT,BT,BT,BT,BT]<|J ⟨I,Zai,I,I,af OM,af OM,af OM,af OM,af OM,I,rfl,rfl,rfl,rfl,rfl,I⟩<|W.cn<|J (fun _=>(g 29 31 []<|J UA (RT ?_))) (noF rfl)
  rotate_left
  all_goals first
   |exact vbf (fun q=>by have e1:=q.plan;have e2:=q.workers;have e3:=q.now;have e4:=q.code;omega)
   |exact vbf (wT hup fun q=>by have e1:=q.loose;have e2:=q.since;have e3:=q.epoch;have e4:=q.given;have e5:=q.res;have e6:=q.jobs;have e7:=q.seats;omega)
   |(rename_i h8
     simp only[List.length_map]
     by_cases h9:(b.owed.length:Int) = 0
     ·rw[decide_eq_true h9];exact vbt ⟨by omega,by omega,by omega,by omega,(fun q=>by rw[hup]at q;cases q),fun _=>⟨by omega,by omega,by omega,by omega,by omega,by omega,by omega,by omega⟩⟩
     ·rw[decide_eq_false h9];exact vbf (wT hup fun q=>by have e8:=q.owed;omega))
   |skip
 refine kI ?_
 conv=>whnf
 refine g 0 2 []<|J Zcd<|W.sq ?_
 by_cases h1:ah (Plan.tasks p) = (0:Int)
 by_cases h2:(1:Int)≤Boss.workers b∧Boss.workers b≤(8:Int)
 refine g 17 19 [.call (V.i (ah p.tasks)) [[]],BF,BF,BF,.call (V.b (decide (1≤b.workers∧b.workers≤8))) [[],[],[]],BF,BF,BF,BF,BF,.call (V.b (decide (0≤b.now∧b.now≤1000000))) [[],[],[]],BF,BF]<|J ⟨I,Zai,I,I,⟨nO,I⟩,⟨nO,I⟩,⟨nO,UC,I,UU,UA,ac _ _ _⟩,⟨nO,I⟩,nO,I,⟨nO,I⟩,⟨nO,I⟩,⟨nO,UC,I,UU,UA,ac _ _ _⟩,⟨nO,I⟩,nO,I⟩<|W.cn<|J (fun h3=>?_) fun h3=>?_
 replace h3:=ndt h3
 refine g 29 31 []<|J UA<|RT ?_
 rotate_left
 replace h3:=ndf h3
 refine W.skip<|gd 29 32 [[],[],[.call (V.own [false] (List.map ak (b.log.safe++b.log.loose))) [[]]],[.call (gj (bU b p)) [[],[]]],[],[]] ?_
 conv=>whnf
 refine J ⟨I,I,Za0,Zam,I,UC,I⟩<|J KR<|W.sq<|g 33 37 []<|J UC<|W.cn<|J (fun h4=>?_) fun h4=>?_
 replace h4:=ndt h4
 refine g 21 22 []<|J UA<|RT ?_
 rotate_left
 replace h4:=ndf h4
 refine W.skip<|W.sq<|g 21 22 []<|J UC<|W.cn<|J (noT (nbF AS)) fun _=>W.skip<|W.sq ?_
 by_cases h5:Boss.epoch b = Story.epoch (bU b p)
 by_cases h6:Boss.epoch b < (1:Int)
 refine g 25 120 [BF,BF,BF,BF,BT,BT,BT,BT,BT,BT,BT,BT,BT,BT,BT,BT,BT,BT,BT,BT,BT,BT,BT,BT,BT,BT,BT]<|J ⟨I,I,I,I,I,I,⟨nO,I⟩,⟨nO,I⟩,⟨nO,I⟩,nO,I,tO,tO,tO,tO,tO,tO,tO,tO,I,rfl,rfl,rfl,rfl,rfl,rfl,rfl,rfl,I,rfl,rfl,rfl,rfl,rfl,rfl,rfl,I⟩<|W.cn<|J (fun _=>(g 19 21 []<|J UA (RT ?_))) (noF rfl)
 rotate_left
 by_cases h7:(↑(List.length (List.map ak (Boss.results b))):Int) = (↑(List.length (List.map aC (Plan.tasks p))):Int)
 simp only[LM]at h7
 by_cases h8:(↑(List.length (List.map aV (Boss.jobs b))):Int) = (↑(List.length (List.map aC (Plan.tasks p))):Int)
 simp only[LM]at h8
 refine g 25 120 [BF,BF,BF,BF,BF,BF,BF,BF,BF,BF,BF,BF,BF,BF,BF,BF,BF,BF,BF,BF,BF,BF,BF,BF,BF,BF,BF]<|J ⟨I,I,I,I,I,I,⟨nO,I⟩,⟨nO,I⟩,⟨nO,I⟩,nO,I,⟨dO,I⟩,⟨dO,I⟩,⟨dO,I⟩,⟨dO,I⟩,⟨dO,I⟩,⟨dO,I⟩,⟨dO,I⟩,dO,I,⟨SI,I⟩,⟨SI,I⟩,⟨SI,I⟩,⟨SI,I⟩,⟨SI,I⟩,⟨SI,I⟩,⟨SI,I⟩,SI,I,⟨SI,I⟩,⟨SI,I⟩,⟨SI,I⟩,⟨SI,I⟩,⟨SI,I⟩,⟨SI,I⟩,SI,I⟩<|W.cn<|J (fun h9=>?_) fun h9=>?_
 replace h9:=ndt h9
 simp only[LM]at h9
 refine g 19 21 []<|J UA<|RT ?_
 rotate_left
 replace h9:=ndf h9
 simp only[LM]at h9
 refine W.skip<|W.sq<|g 19 21 []<|J UD<|W.blk ?_
 rotate_left
 simp only[LM]at h8
 refine g 25 120 [BF,BF,BF,BF,BF,BF,BF,BF,BF,BF,BF,BF,BF,BF,BF,BF,BF,BF,BF,BF,BT,BT,BT,BT,BT,BT,BT]<|J ⟨I,I,I,I,I,I,⟨nO,I⟩,⟨nO,I⟩,⟨nO,I⟩,nO,I,⟨dO,I⟩,⟨dO,I⟩,⟨dO,I⟩,⟨dO,I⟩,⟨dO,I⟩,⟨dO,I⟩,⟨dO,I⟩,dO,I,⟨SI,I⟩,⟨SI,I⟩,⟨SI,I⟩,⟨SI,I⟩,⟨SI,I⟩,⟨SI,I⟩,⟨SI,I⟩,SI,I,SI,SI,SI,SI,SI,SI,SI,I⟩<|W.cn<|J (fun _=>(g 19 21 []<|J UA (RT ?_))) (noF rfl)
 rotate_left
 simp only[LM]at h7
 refine g 25 120 [BF,BF,BF,BF,BF,BF,BF,BF,BF,BF,BF,BF,BT,BT,BT,BT,BT,BT,BT,BT,BT,BT,BT,BT,BT,BT,BT]<|J ⟨I,I,I,I,I,I,⟨nO,I⟩,⟨nO,I⟩,⟨nO,I⟩,nO,I,⟨dO,I⟩,⟨dO,I⟩,⟨dO,I⟩,⟨dO,I⟩,⟨dO,I⟩,⟨dO,I⟩,⟨dO,I⟩,dO,I,SI,SI,SI,SI,SI,SI,SI,SI,I,rfl,rfl,rfl,rfl,rfl,rfl,rfl,I⟩<|W.cn<|J (fun _=>(g 19 21 []<|J UA (RT ?_))) (noF rfl)
 rotate_left
 refine g 25 120 [BT,BT,BT,BT,BT,BT,BT,BT,BT,BT,BT,BT,BT,BT,BT,BT,BT,BT,BT,BT,BT,BT,BT,BT,BT,BT,BT]<|J ⟨I,I,I,I,I,I,af OM,af OM,af OM,af OM,I,rfl,rfl,rfl,rfl,rfl,rfl,rfl,rfl,I,rfl,rfl,rfl,rfl,rfl,rfl,rfl,rfl,I,rfl,rfl,rfl,rfl,rfl,rfl,rfl,I⟩<|W.cn<|J (fun _=>(g 19 21 []<|J UA (RT ?_))) (noF rfl)
 rotate_left
 refine g 17 19 [.call (V.i (ah p.tasks)) [[]],BF,BF,BF,.call (V.b (decide (1≤b.workers∧b.workers≤8))) [[],[],[]],BF,BF,BT,BT,BT,BT,BT]<|J ⟨I,Zai,I,I,⟨nO,I⟩,⟨nO,I⟩,⟨nO,UC,I,UU,UA,ac _ _ _⟩,⟨nO,I⟩,nO,I,af OM,af OM,af OM,af OM,af OM,I⟩<|W.cn<|J (fun _=>(g 29 31 []<|J UA (RT ?_))) (noF rfl)
 rotate_left
 refine g 17 19 [.call (V.i (ah p.tasks)) [[]],BT,BT,BT,BT,BT,BT,BT,BT,BT,BT]<|J ⟨I,Zai,I,I,af OM,af OM,af OM,af OM,af OM,I,rfl,rfl,rfl,rfl,rfl,I⟩<|W.cn<|J (fun _=>(g 29 31 []<|J UA (RT ?_))) (noF rfl)
 rotate_left
 all_goals try first
  |exact vbf (fun q=>by have e1:=q.plan;have e2:=q.workers;have e3:=q.now;have e4:=q.code;omega)
  |exact vbf (fI hup fun q=>by have e1:=q.epoch;have e2:=q.pos;have e3:=q.rlen;have e4:=q.jlen;have e5:=q.slen;omega)
 have hk:(bU b p).code = 0:=by assumption
 have hc0:ah p.tasks = 0:=by assumption
 obtain⟨_,_,hsl,_⟩:=bL (p:=p) (xs:=b.log.safe++b.log.loose) hk
 obtain⟨hep1,hep2⟩:=eS (p:=p) (xs:=b.log.safe++b.log.loose) hk
 change (bU b p).results.length = _ at hsl
 change 0≤(bU b p).epoch at hep1
 change (bU b p).epoch≤300 at hep2
 have f1:b.epoch = (bU b p).epoch:=by assumption
 have f2:1≤b.epoch:=by omega
 have f3:b.results.length = p.tasks.length:=by omega
 have f4:b.jobs.length = p.tasks.length:=by omega
 have f5:(b.seats.length:Int) = b.workers:=by omega
 have f6:1≤b.workers∧b.workers≤8:=by assumption
 have f7:0≤b.now∧b.now≤1000000:=by assumption
 have hpl:=(bP hc0).1
 refine W.lp (fun s (n:Nat)=>⟨[(2,s.s 2),(3,s.s 3),(5,s.s 5),(16,s.s 16),(22,s.s 22),(24,s.s 24),(122,s.s 122),(123,s.s 123),(124,.i n)],[(2,[s.c 2 0,s.c 2 1,s.c 2 2,s.c 2 3,s.c 2 4,s.c 2 5,s.c 2 6,s.c 2 7,s.c 2 8,s.c 2 9,s.c 2 10,s.c 2 11]),(3,[s.c 3 0]),(5,[s.c 5 0,s.c 5 1,s.c 5 2])],[]⟩) (fun(n:Nat)=>n≤b.results.length∧b.results.take n = (bU b p).results.take n) (fun(n:Nat)=>b.results.length - n) (0) [some 2,some 3,some 5] [] ⟨rfl,⟨rfl,rfl,rfl,Zag,rfl,rfl,rfl,rfl,rfl,I⟩,⟨Zaa,⟨Zad,Zee⟩⟩,I⟩ (by simp) ?_
 rintro n ⟨hn,hc⟩
 conv=>whnf
 refine g 0 0 []<|J UA<|W.sq<|W.cn<|J (fun h10=>?_) fun h10=>?_
 replace h10:=dt h10
 simp only[LM]at h10
 refine W.skip<|W.sq<|W.blk ?_
 obtain⟨y1,hy1⟩:=aj (xs:=Boss.results b) (n:=n) OM
 refine g 125 129 [.x (ak y1)]<|J ⟨I,Zdj,I,I,I,I⟩ ?_
 obtain⟨y2,hy2⟩:=aj (xs:=Story.results (bU b p)) (n:=n) OM
 refine g 129 135 [.n (n),.x (ak y2)]<|J ⟨I,I,I,Zdh,xA,I,I,I⟩<|W.cn<|J (fun h11=>?_) fun h11=>?_
 replace h11:=ndt h11
 refine g 7 8 []<|J UA<|RT ?_
 rotate_left
 replace h11:=ndf h11
 refine W.skip<|rg [.i ((n:Int) +1)]<|J Zdm ?_
 rotate_left
 replace h10:=df h10
 simp only[LM]at h10
 refine W.exit<|W.sq ?_
 by_cases h11:(0:Int)≤Boss.since b∧Boss.since b≤(1:Int)
 by_cases h12:(0:Int)≤Boss.given b∧Boss.given b≤(1000000:Int)
 refine g 122 152 [.call (V.b (decide (0≤b.since∧b.since≤1))) [[],[],[]],BF,BF,BF,.call (V.b (decide (0≤b.given∧b.given≤1000000))) [[],[],[]],BF,BF,BF,BF,BF,BF,BF]<|J ⟨I,I,⟨UC,I,UU,UA,ac _ _ _⟩,I,I,⟨nO,I⟩,⟨nO,I⟩,⟨nO,UC,I,UU,UA,ac _ _ _⟩,⟨nO,I⟩,nO,I,⟨nO,I⟩,⟨nO,I⟩,⟨nO,I⟩,⟨nO,I⟩,nO,I⟩<|W.cn<|J (fun h13=>?_) fun h13=>?_
 replace h13:=dt h13
 simp only[LM]at h13
 refine g 5 6 []<|J UA<|RT ?_
 rotate_left
 replace h13:=df h13
 simp only[LM]at h13
 refine W.skip<|g 152 154 []<|J UB<|g 154 158 [.i (b.epoch - 1),.i ((b.epoch - 1) * 1000000)]<|J ⟨I,I,wO,wO,I,I⟩<|W.sq<|g 5 6 []<|J UD<|W.blk ?_
 rotate_left
 refine g 122 152 [.call (V.b (decide (0≤b.since∧b.since≤1))) [[],[],[]],BF,BF,BF,.call (V.b (decide (0≤b.given∧b.given≤1000000))) [[],[],[]],BF,BF,BT,BT,BT,BT,BT]<|J ⟨I,I,⟨UC,I,UU,UA,ac _ _ _⟩,I,I,⟨nO,I⟩,⟨nO,I⟩,⟨nO,UC,I,UU,UA,ac _ _ _⟩,⟨nO,I⟩,nO,I,af OM,af OM,af OM,af OM,af OM,I⟩<|W.cn<|J (fun _=>(g 5 6 []<|J UA (RT ?_))) (noF rfl)
 rotate_left
 refine g 122 152 [.call (V.b (decide (0≤b.since∧b.since≤1))) [[],[],[]],BT,BT,BT,BT,BT,BT,BT,BT,BT,BT]<|J ⟨I,I,⟨UC,I,UU,UA,ac _ _ _⟩,I,I,af OM,af OM,af OM,af OM,af OM,I,rfl,rfl,rfl,rfl,rfl,I⟩<|W.cn<|J (fun _=>(g 5 6 []<|J UA (RT ?_))) (noF rfl)
 rotate_left
 all_goals try first
  |exact vbf (fI hup fun q=>by have e1:=q.res;rw[e1]at hy1;rw[hy1]at hy2;cases hy2;contradiction)
  |exact vbf (fI hup fun q=>by have e1:=q.since;have e2:=q.given;have e3:=q.olen;omega)
 ·refine⟨n+1,[some 2,some 3,some 5],[],⟨rfl,⟨rfl,rfl,rfl,Zag,rfl,rfl,rfl,rfl,rfl,I⟩,⟨Zaa,⟨Zad,Zee⟩⟩,I⟩,?_,?_⟩
  rotate_left
  (dsimp only;omega)
  dsimp only
  exact⟨by omega,BP hc hy1 (by rw[hy2];simp_all)⟩
 have g1:b.results = (bU b p).results:=by rw[bF OM,bF OM]at hc;exact hc
 have g2:0≤b.since∧b.since≤1:=by omega
 have g3:0≤b.given∧b.given≤1000000:=by omega
 have g4:b.owed.length≤2000:=by omega
 refine W.lp (fun s (n:Nat)=>⟨[(2,s.s 2),(3,s.s 3),(8,s.s 8),(9,s.s 9),(16,s.s 16),(22,s.s 22),(24,s.s 24),(159,s.s 159),(160,s.s 160),(161,.i n)],[(2,[s.c 2 0,s.c 2 1,s.c 2 2,s.c 2 3,s.c 2 4,s.c 2 5,s.c 2 6,s.c 2 7,s.c 2 8,s.c 2 9,s.c 2 10,s.c 2 11]),(3,[s.c 3 0])],[(153,mi b n)]⟩) (fun(n:Nat)=>n≤b.jobs.length∧gI b p.tasks n) (fun(n:Nat)=>b.jobs.length - n) (0) [some 2,some 3] [153] ⟨rfl,⟨rfl,rfl,rfl,rfl,⟨_,rfl,_,_,rfl,rfl,rfl⟩,rfl,rfl,rfl,rfl,rfl,I⟩,⟨⟨rfl,⟨rfl,⟨rfl,⟨rfl,⟨rfl,⟨rfl,⟨rfl,⟨rfl,⟨rfl,⟨rfl,⟨rfl,⟨rfl,⟨rfl,I⟩⟩⟩⟩⟩⟩⟩⟩⟩⟩⟩⟩⟩,⟨⟨rfl,⟨rfl,I⟩⟩,I⟩⟩,⟨rfl,I⟩⟩ ?_ ?_
 ·exact⟨Nat.zero_le _,fun m j hm=>by omega⟩
 rintro n1 ⟨hn1,hc1⟩
 have hrl:b.results.length = p.tasks.length:=f3
 by_cases hj2:n1 < b.jobs.length
 ·obtain⟨j,hj1⟩:=aj hj2
  obtain⟨y,hy0⟩:=aj (xs:=b.results) (n:=n1) OM
  obtain⟨t,ht0⟩:=aj (xs:=p.tasks) (n:=n1) OM
  have hkin:=Jw b n1 j.lease
  obtain⟨_,_,a3,a4⟩:=bz hc0 ht0
  have crd:=iz b.results t.deps (fun d hd=>by have:=a4 d hd;omega) OM
  by_cases hz:j.lease = 0
  ·by_cases hz2:j.worker = 0∧j.til = 0
   ·have hjo:Cu b p.tasks n1 j:=⟨fun _=>hz2,fun e=>absurd hz e⟩
    obtain⟨hz3,hz4⟩:=hz2
    conv=>whnf
    refine g 0 0 []<|J UA<|W.sq<|W.cn<|J (fun _=>(W.skip (W.sq (W.blk (g 162 166 [.x (aV j)]<|J Zbt (W.sq (g 166 168 []<|J UC (W.cn<|J (fun _=>(W.sq (g 168 171 [BT]<|J ⟨I,I,by simp[*],I⟩ ?_))) (noF tO))))))))) (noF (by simp_all))
    refine W.cn<|J (noT rfl) fun _=>W.skip<|W.exit<|rg [.i ((n1:Int) +1)]<|J Zdm ?_
    refine⟨n1+1,[some 2,some 3],[153],⟨rfl,⟨rfl,rfl,rfl,rfl,Zag,rfl,rfl,rfl,rfl,rfl,I⟩,⟨Zaa,Zdp⟩,⟨(congrArg some (Gt hj1 hz).symm),I⟩⟩,?_,?_⟩
    rotate_left
    (dsimp only;omega)
    dsimp only
    exact⟨by omega,oq hc1 hj1 hjo⟩
   ·conv=>whnf
    refine g 0 0 []<|J UA<|W.sq<|W.cn<|J (fun _=>(W.skip (W.sq (W.blk (g 162 166 [.x (aV j)]<|J Zbt (W.sq (g 166 168 []<|J UC (W.cn<|J (fun _=>(W.sq (g 168 171 [BF]<|J ⟨I,I,by simp_all,I⟩ ?_))) (noF tO))))))))) (noF (by simp_all))
    refine W.cn<|J (fun _=>(g 171 172 []<|J UA (RT ?_))) (noF rfl)
    all_goals exact vbf (fI hup (mP hj1 (fun q=>by have:=q.1 hz;omega)))
  ·by_cases hA:(b.epoch - 1) * 1000000+1≤j.lease∧j.lease≤(b.epoch - 1) * 1000000+b.given
   ·by_cases hB:j.lease∈(b.jobs.take n1).map Job.lease
    ·have hkm:Value.int IntKind.i64 j.lease∈mi b n1:=(Ao hz).2 hB
     conv=>whnf
     refine g 0 0 []<|J UA<|W.sq<|W.cn<|J (fun _=>(W.skip (W.sq (W.blk (g 162 166 [.x (aV j)]<|J Zbt (W.sq (g 166 168 []<|J UC (W.cn<|J (noT dO) fun _=>(W.skip (W.sq ?_)))))))))) (noF (by simp_all))
     refine g 168 207 [.i ((b.epoch - 1) * 1000000+1),.i ((b.epoch - 1) * 1000000+b.given),.call (V.b (decide ((b.epoch - 1) * 1000000+1≤j.lease∧j.lease≤(b.epoch - 1) * 1000000+b.given))) [[],[],[]],BF,BF,BF,BF,.b (decide (j.lease∈List.map (fun l=>l) (List.filter (fun l=>decide ¬l = 0) (List.map Job.lease (List.take n1 b.jobs))))),BF,BT,BT,BT,BT,BT,BT,BT,BT,BT,BT,BT,BT,BT,BT,BT,BT,BT,BT]<|J ⟨I,I,I,wO,I,I,I,wO,⟨UC,I,UU,UA,ac _ _ _⟩,I,I,⟨nO,I⟩,⟨nO,I⟩,⟨nO,I⟩,⟨nO,lH,gq⟩,nO,I,(by simp_all),(by simp_all),(by simp_all),(by simp_all),(by simp_all),(by simp_all),(by simp_all),I,rfl,rfl,rfl,rfl,rfl,rfl,rfl,rfl,rfl,rfl,rfl,I⟩<|W.cn<|J (fun _=>(g 207 208 []<|J UA (RT ?_))) (noF rfl)
     exact vbf (fI hup (mP hj1 (fun q=>(q.2 hz).once hB)))
    ·have hkm:¬Value.int IntKind.i64 j.lease∈mi b n1:=fun e=>hB ((Ao hz).1 e)
     by_cases hC:1≤j.worker∧j.worker≤b.workers
     ·by_cases hD:b.now+1≤j.til∧j.til≤b.now+12
      ·by_cases hE:y = emp
       ·by_cases hF:cu b.results t.deps
        ·rw[decide_eq_true hF]at crd
         conv=>whnf
         refine g 0 0 []<|J UA<|W.sq<|W.cn<|J (fun _=>(W.skip (W.sq (W.blk (g 162 166 [.x (aV j)]<|J Zbt (W.sq (g 166 168 []<|J UC (W.cn<|J (noT dO) fun _=>(W.skip (W.sq ?_)))))))))) (noF (by simp_all))
         refine g 168 207 [.i ((b.epoch - 1) * 1000000+1),.i ((b.epoch - 1) * 1000000+b.given),.call (V.b (decide ((b.epoch - 1) * 1000000+1≤j.lease∧j.lease≤(b.epoch - 1) * 1000000+b.given))) [[],[],[]],BF,BF,BF,BF,.b (decide (j.lease∈List.map (fun l=>l) (List.filter (fun l=>decide ¬l = 0) (List.map Job.lease (List.take n1 b.jobs))))),BF,BF,BF,BF,BF,BF,.call (V.b (decide (1≤j.worker∧j.worker≤b.workers))) [[],[],[]],BF,BF,BF,BF,BF,BF,BF,.i (b.now+1),BF,BF,BF,.i (b.now+12),BF,.call (V.b (decide (b.now+1≤j.til∧j.til≤b.now+12))) [[],[],[]],BF,BF] ?_
         conv=>whnf
         refine J ⟨I,I,I,wO,I,I,I,wO,⟨UC,I,UU,UA,ac _ _ _⟩,I,I,⟨nO,I⟩,⟨nO,I⟩,⟨nO,I⟩,⟨nO,lH,gq⟩,nO,I,⟨(by simp_all),I⟩,⟨(by simp_all),I⟩,⟨(by simp_all),I⟩,⟨(by simp_all),I⟩,⟨(by simp_all),UC,I,UU,UA,ac _ _ _⟩,⟨(by simp_all),I⟩,(by simp_all),I,⟨nO,I⟩,⟨nO,I⟩,⟨nO,I⟩,⟨nO,I⟩,Zej,⟨nO,I⟩,⟨nO,I⟩,Zej,⟨nO,UC,I,UU,UA,ac _ _ _⟩,⟨nO,I⟩,nO,I⟩<|W.cn<|J (noT nO) fun _=>W.skip<|g 207 211 []<|J ⟨I,I,I,gq,I⟩<|gd 211 228 [[],[],[],[.x (ak y)],[],[],[],[BF],[BF],[BF],[BF],[BF],[BF,.x (aC t)],[BF],[BF],[BF,.call VT [[],[]]],[BF],[BF]] ?_
         conv=>whnf
         refine J Zb4<|J KR<|W.cn<|J (noT rfl) fun _=>W.skip<|rg [.i ((n1:Int) +1)]<|J Zdm ?_
         refine⟨n1+1,[some 2,some 3],[153],⟨rfl,⟨rfl,rfl,rfl,rfl,Zag,rfl,rfl,rfl,rfl,rfl,I⟩,⟨Zaa,Zdp⟩,⟨(congrArg some (Gs hj1 hz)),I⟩⟩,?_,?_⟩
         rotate_left
         (dsimp only;omega)
         dsimp only
         exact⟨by omega,oq hc1 hj1 ⟨fun e=>absurd e hz,fun _=>⟨hA,hC,hD,by rw[pE hy0];exact hE,by rw[cJ ht0];exact hF,hB⟩⟩⟩
        ·rw[decide_eq_false hF]at crd
         conv=>whnf
         refine g 0 0 []<|J UA<|W.sq<|W.cn<|J (fun _=>(W.skip (W.sq (W.blk (g 162 166 [.x (aV j)]<|J Zbt (W.sq (g 166 168 []<|J UC (W.cn<|J (noT dO) fun _=>(W.skip (W.sq ?_)))))))))) (noF (by simp_all))
         refine g 168 207 [.i ((b.epoch - 1) * 1000000+1),.i ((b.epoch - 1) * 1000000+b.given),.call (V.b (decide ((b.epoch - 1) * 1000000+1≤j.lease∧j.lease≤(b.epoch - 1) * 1000000+b.given))) [[],[],[]],BF,BF,BF,BF,.b (decide (j.lease∈List.map (fun l=>l) (List.filter (fun l=>decide ¬l = 0) (List.map Job.lease (List.take n1 b.jobs))))),BF,BF,BF,BF,BF,BF,.call (V.b (decide (1≤j.worker∧j.worker≤b.workers))) [[],[],[]],BF,BF,BF,BF,BF,BF,BF,.i (b.now+1),BF,BF,BF,.i (b.now+12),BF,.call (V.b (decide (b.now+1≤j.til∧j.til≤b.now+12))) [[],[],[]],BF,BF] ?_
         conv=>whnf
         refine J ⟨I,I,I,wO,I,I,I,wO,⟨UC,I,UU,UA,ac _ _ _⟩,I,I,⟨nO,I⟩,⟨nO,I⟩,⟨nO,I⟩,⟨nO,lH,gq⟩,nO,I,⟨(by simp_all),I⟩,⟨(by simp_all),I⟩,⟨(by simp_all),I⟩,⟨(by simp_all),I⟩,⟨(by simp_all),UC,I,UU,UA,ac _ _ _⟩,⟨(by simp_all),I⟩,(by simp_all),I,⟨nO,I⟩,⟨nO,I⟩,⟨nO,I⟩,⟨nO,I⟩,Zej,⟨nO,I⟩,⟨nO,I⟩,Zej,⟨nO,UC,I,UU,UA,ac _ _ _⟩,⟨nO,I⟩,nO,I⟩<|W.cn<|J (noT nO) fun _=>W.skip<|g 207 211 []<|J ⟨I,I,I,gq,I⟩<|gd 211 228 [[],[],[],[.x (ak y)],[],[],[],[BF],[BF],[BF],[BF],[BF],[BF,.x (aC t)],[BF],[BF],[BF,.call VF [[],[]]],[BF],[BF]] ?_
         conv=>whnf
         refine J Zb4<|J KR<|W.cn<|J (fun _=>(g 10 12 []<|J UA (RT ?_))) (noF rfl)
         exact vbf (fI hup (mP hj1 (fun q=>hF (by have:=(q.2 hz).ready;rw[cJ ht0]at this;exact this))))
       ·conv=>whnf
        refine g 0 0 []<|J UA<|W.sq<|W.cn<|J (fun _=>(W.skip (W.sq (W.blk (g 162 166 [.x (aV j)]<|J Zbt (W.sq (g 166 168 []<|J UC (W.cn<|J (noT dO) fun _=>(W.skip (W.sq ?_)))))))))) (noF (by simp_all))
        refine g 168 207 [.i ((b.epoch - 1) * 1000000+1),.i ((b.epoch - 1) * 1000000+b.given),.call (V.b (decide ((b.epoch - 1) * 1000000+1≤j.lease∧j.lease≤(b.epoch - 1) * 1000000+b.given))) [[],[],[]],BF,BF,BF,BF,.b (decide (j.lease∈List.map (fun l=>l) (List.filter (fun l=>decide ¬l = 0) (List.map Job.lease (List.take n1 b.jobs))))),BF,BF,BF,BF,BF,BF,.call (V.b (decide (1≤j.worker∧j.worker≤b.workers))) [[],[],[]],BF,BF,BF,BF,BF,BF,BF,.i (b.now+1),BF,BF,BF,.i (b.now+12),BF,.call (V.b (decide (b.now+1≤j.til∧j.til≤b.now+12))) [[],[],[]],BF,BF] ?_
        conv=>whnf
        refine J ⟨I,I,I,wO,I,I,I,wO,⟨UC,I,UU,UA,ac _ _ _⟩,I,I,⟨nO,I⟩,⟨nO,I⟩,⟨nO,I⟩,⟨nO,lH,gq⟩,nO,I,⟨(by simp_all),I⟩,⟨(by simp_all),I⟩,⟨(by simp_all),I⟩,⟨(by simp_all),I⟩,⟨(by simp_all),UC,I,UU,UA,ac _ _ _⟩,⟨(by simp_all),I⟩,(by simp_all),I,⟨nO,I⟩,⟨nO,I⟩,⟨nO,I⟩,⟨nO,I⟩,Zej,⟨nO,I⟩,⟨nO,I⟩,Zej,⟨nO,UC,I,UU,UA,ac _ _ _⟩,⟨nO,I⟩,nO,I⟩<|W.cn<|J (noT nO) fun _=>W.skip<|g 207 211 []<|J ⟨I,I,I,gq,I⟩<|gd 211 228 [[],[],[],[.x (ak y)],[],[],[],[BT],[BT],[BT],[BT],[BT],[BT],[BT],[BT],[BT],[BT],[BT]] ?_
        conv=>whnf
        refine J ⟨I,I,I,Zdj,I,I,I,af OM,af OM,af OM,af OM,af OM,af OM,af OM,af OM,af OM,af OM,af OM,I⟩<|J KR<|W.cn<|J (fun _=>(g 10 12 []<|J UA (RT ?_))) (noF rfl)
        exact vbf (fI hup (mP hj1 (fun q=>hE (by have:=(q.2 hz).res;rw[pE hy0]at this;exact this))))
      ·conv=>whnf
       refine g 0 0 []<|J UA<|W.sq<|W.cn<|J (fun _=>(W.skip (W.sq (W.blk (g 162 166 [.x (aV j)]<|J Zbt (W.sq (g 166 168 []<|J UC (W.cn<|J (noT dO) fun _=>(W.skip (W.sq ?_)))))))))) (noF (by simp_all))
       refine g 168 207 [.i ((b.epoch - 1) * 1000000+1),.i ((b.epoch - 1) * 1000000+b.given),.call (V.b (decide ((b.epoch - 1) * 1000000+1≤j.lease∧j.lease≤(b.epoch - 1) * 1000000+b.given))) [[],[],[]],BF,BF,BF,BF,.b (decide (j.lease∈List.map (fun l=>l) (List.filter (fun l=>decide ¬l = 0) (List.map Job.lease (List.take n1 b.jobs))))),BF,BF,BF,BF,BF,BF,.call (V.b (decide (1≤j.worker∧j.worker≤b.workers))) [[],[],[]],BF,BF,BF,BF,BF,BF,BF,.i (b.now+1),BF,BF,BF,.i (b.now+12),BF,.call (V.b (decide (b.now+1≤j.til∧j.til≤b.now+12))) [[],[],[]],BF,BF] ?_
       conv=>whnf
       refine J ⟨I,I,I,wO,I,I,I,wO,⟨UC,I,UU,UA,ac _ _ _⟩,I,I,⟨nO,I⟩,⟨nO,I⟩,⟨nO,I⟩,⟨nO,lH,gq⟩,nO,I,⟨(by simp_all),I⟩,⟨(by simp_all),I⟩,⟨(by simp_all),I⟩,⟨(by simp_all),I⟩,⟨(by simp_all),UC,I,UU,UA,ac _ _ _⟩,⟨(by simp_all),I⟩,(by simp_all),I,⟨nO,I⟩,⟨nO,I⟩,⟨nO,I⟩,⟨nO,I⟩,Zej,⟨nO,I⟩,⟨nO,I⟩,Zej,⟨nO,UC,I,UU,UA,ac _ _ _⟩,⟨nO,I⟩,nO,I⟩<|W.cn<|J (fun _=>(g 207 208 []<|J UA (RT ?_))) (noF (af OM))
       exact vbf (fI hup (mP hj1 (fun q=>hD (q.2 hz).til)))
     ·conv=>whnf
      refine g 0 0 []<|J UA<|W.sq<|W.cn<|J (fun _=>(W.skip (W.sq (W.blk (g 162 166 [.x (aV j)]<|J Zbt (W.sq (g 166 168 []<|J UC (W.cn<|J (noT dO) fun _=>(W.skip (W.sq ?_)))))))))) (noF (by simp_all))
      refine g 168 207 [.i ((b.epoch - 1) * 1000000+1),.i ((b.epoch - 1) * 1000000+b.given),.call (V.b (decide ((b.epoch - 1) * 1000000+1≤j.lease∧j.lease≤(b.epoch - 1) * 1000000+b.given))) [[],[],[]],BF,BF,BF,BF,.b (decide (j.lease∈List.map (fun l=>l) (List.filter (fun l=>decide ¬l = 0) (List.map Job.lease (List.take n1 b.jobs))))),BF,BF,BF,BF,BF,BF,.call (V.b (decide (1≤j.worker∧j.worker≤b.workers))) [[],[],[]],BF,BF,BT,BT,BT,BT,BT,BT,BT,BT,BT,BT,BT] ?_
      conv=>whnf
      refine J ⟨I,I,I,wO,I,I,I,wO,⟨UC,I,UU,UA,ac _ _ _⟩,I,I,⟨nO,I⟩,⟨nO,I⟩,⟨nO,I⟩,⟨nO,lH,gq⟩,nO,I,⟨(by simp_all),I⟩,⟨(by simp_all),I⟩,⟨(by simp_all),I⟩,⟨(by simp_all),I⟩,⟨(by simp_all),UC,I,UU,UA,ac _ _ _⟩,⟨(by simp_all),I⟩,(by simp_all),I,af OM,af OM,af OM,af OM,af OM,af OM,af OM,af OM,af OM,af OM,af OM,I⟩<|W.cn<|J (fun _=>(g 207 208 []<|J UA (RT ?_))) (noF rfl)
      exact vbf (fI hup (mP hj1 (fun q=>hC (q.2 hz).worker)))
   ·conv=>whnf
    refine g 0 0 []<|J UA<|W.sq<|W.cn<|J (fun _=>(W.skip (W.sq (W.blk (g 162 166 [.x (aV j)]<|J Zbt (W.sq (g 166 168 []<|J UC (W.cn<|J (noT dO) fun _=>(W.skip (W.sq ?_)))))))))) (noF (by simp_all))
    refine g 168 207 [.i ((b.epoch - 1) * 1000000+1),.i ((b.epoch - 1) * 1000000+b.given),.call (V.b (decide ((b.epoch - 1) * 1000000+1≤j.lease∧j.lease≤(b.epoch - 1) * 1000000+b.given))) [[],[],[]],BT,BT,BT,BT,BT,BT,BT,BT,BT,BT,BT,BT,BT,BT,BT,BT,BT,BT,BT,BT,BT,BT,BT]<|J ⟨I,I,I,wO,I,I,I,wO,⟨UC,I,UU,UA,ac _ _ _⟩,I,I,af OM,af OM,af OM,af OM,af OM,I,rfl,rfl,rfl,rfl,rfl,rfl,rfl,I,rfl,rfl,rfl,rfl,rfl,rfl,rfl,rfl,rfl,rfl,rfl,I⟩<|W.cn<|J (fun _=>(g 207 208 []<|J UA (RT ?_))) (noF rfl)
    exact vbf (fI hup (mP hj1 (fun q=>hA (q.2 hz).lease)))
 have hjobs:gI b p.tasks b.jobs.length:=by rw[show b.jobs.length = n1 by omega];exact hc1
 conv=>whnf
 refine g 0 0 []<|J UA<|W.sq<|W.cn<|J (noT (by simp_all)) fun _=>W.exit<|W.sq<|g 24 231 []<|J UD<|W.blk<|W.lp (fun s (n:Nat)=>⟨[(2,s.s 2),(3,s.s 3),(22,s.s 22),(231,s.s 231),(232,s.s 232),(233,.i n)],[(2,[s.c 2 0,s.c 2 1,s.c 2 2,s.c 2 3,s.c 2 4,s.c 2 5,s.c 2 6,s.c 2 7,s.c 2 8,s.c 2 9,s.c 2 10,s.c 2 11]),(3,[s.c 3 0])],[]⟩) (fun(n:Nat)=>n≤b.seats.length∧∀ s∈b.seats.take n,0≤s.epoch∧s.epoch≤300) (fun(n:Nat)=>b.seats.length - n) (0) [some 2,some 3] [] Zep (by simp) ?_
 rintro n2 ⟨hn2,hc2⟩
 by_cases hs2:n2 < b.seats.length
 ·obtain⟨s,hs1⟩:=aj hs2
  by_cases hA:0≤s.epoch∧s.epoch≤300
  ·conv=>whnf
   refine g 0 0 []<|J UA<|W.sq<|W.cn<|J (fun h14=>?_) fun h14=>?_
   replace h14:=dt h14
   simp only[LM]at h14
   refine W.skip<|W.sq<|W.blk<|g 234 237 [.x (aR s)]<|J ⟨Zdj,I,I,UB,I⟩<|g 237 240 [.call (V.b (decide (0≤s.epoch∧s.epoch≤300))) [[],[],[]]]<|J ⟨I,I,⟨UC,I,UU,UA,ac _ _ _⟩,I,I⟩<|W.cn<|J (noT nO) fun _=>W.skip<|rg [.i ((n2:Int) +1)]<|J Zdm ?_
   rotate_left
   replace h14:=df h14
   simp only[LM]at h14
   omega
   refine⟨n2+1,[some 2,some 3],[],Zep,?_,?_⟩
   rotate_left
   (dsimp only;omega)
   dsimp only
   exact⟨by omega,dI hc2 hs1 hA⟩
  ·conv=>whnf
   refine g 0 0 []<|J UA<|W.sq<|W.cn<|J (fun h14=>?_) fun h14=>?_
   replace h14:=dt h14
   simp only[LM]at h14
   refine W.skip<|W.sq<|W.blk<|g 234 237 [.x (aR s)]<|J ⟨Zdj,I,I,UB,I⟩<|g 237 240 [.call (V.b (decide (0≤s.epoch∧s.epoch≤300))) [[],[],[]]]<|J ⟨I,I,⟨UC,I,UU,UA,ac _ _ _⟩,I,I⟩<|W.cn<|J (fun _=>(g 13 14 []<|J UA (RT ?_))) (noF (af OM))
   rotate_left
   replace h14:=df h14
   simp only[LM]at h14
   omega
   exact vbf (fI hup (D8 hs1 hA))
 have hseats:∀ s∈b.seats,0≤s.epoch∧s.epoch≤300:=by rw[bF OM]at hc2;exact hc2
 conv=>whnf
 refine g 0 0 []<|J UA<|W.sq<|W.cn<|J (fun h14=>?_) fun h14=>?_
 replace h14:=dt h14
 simp only[LM]at h14
 omega
 replace h14:=df h14
 simp only[LM]at h14
 refine W.exit<|W.sq<|g 231 243 []<|J UD<|W.blk<|W.lp (fun s (n:Nat)=>⟨[(2,s.s 2),(3,s.s 3),(22,s.s 22),(243,s.s 243),(244,s.s 244),(245,.i n)],[(2,[s.c 2 0,s.c 2 1,s.c 2 2,s.c 2 3,s.c 2 4,s.c 2 5,s.c 2 6,s.c 2 7,s.c 2 8,s.c 2 9,s.c 2 10,s.c 2 11]),(3,[s.c 3 0])],[]⟩) (fun(n:Nat)=>n≤b.owed.length∧∀ o∈b.owed.take n,OwedOk b p.tasks o) (fun(n:Nat)=>b.owed.length - n) (0) [some 2,some 3] [] Zep (by simp) ?_
 rintro n3 ⟨hn3,hc3⟩
 by_cases ho2:n3 < b.owed.length
 ·obtain⟨o,ho1⟩:=aj ho2
  by_cases hA:1≤o.worker∧o.worker≤b.workers
  ·by_cases hB:1≤o.lease∧o.lease≤300000000
   ·by_cases hC:0≤o.task∧o.task≤(p.tasks.length:Int) - 1
    ·obtain⟨y,hy0⟩:=aj (xs:=b.results) (n:=o.task.toNat) OM
     by_cases hD:y = emp
     ·conv=>whnf
      refine g 0 0 []<|J UA<|W.sq<|W.cn<|J (fun _=>(W.skip (W.sq (W.blk (g 246 249 [.x (bg o)]<|J Zcn (g 249 279 [.call (V.b (decide (1≤o.worker∧o.worker≤b.workers))) [[],[],[]],BF,BF,BF,.call (V.b (decide (1≤o.lease∧o.lease≤300000000))) [[],[],[]],BF,BF,BF,BF,BF,BF,BF,BF,.i ((↑(List.length (List.map aC p.tasks)):Int) - 1),BF,.call (V.b (decide (0≤o.task∧o.task≤(↑(List.length (List.map aC p.tasks)):Int) - 1))) [[],[],[]],BF,BF,BF,BF,BF,BF,BF,.x (ak y),BF,BF,BF]<|J ⟨I,I,I,I,⟨UC,I,UU,UA,ac _ _ _⟩,I,I,⟨nO,I⟩,⟨nO,I⟩,⟨nO,UC,I,UU,UA,ac _ _ _⟩,⟨nO,I⟩,nO,I,⟨nO,I⟩,⟨nO,I⟩,⟨nO,I⟩,⟨nO,I⟩,⟨nO,I⟩,⟨nO,w64 LN LN⟩,⟨nO,UC,I,UU,UA,ac _ _ _⟩,⟨nO,I⟩,nO,I,⟨SI,I⟩,⟨SI,I⟩,⟨SI,I⟩,⟨SI,I⟩,⟨SI,OM,xA⟩,⟨SI,I⟩,⟨SI,I⟩,SI,I⟩ (W.cn<|J (fun _=>(g 15 16 []<|J UA (RT ?_))) (noF tO)))))))) (noF SI)
      exact vbf (fI hup (kA ho1 (fun q=>q.res (by rw[kR hy0];exact hD))))
     ·conv=>whnf
      refine g 0 0 []<|J UA<|W.sq<|W.cn<|J (fun _=>(W.skip (W.sq (W.blk (g 246 249 [.x (bg o)]<|J Zcn (g 249 279 [.call (V.b (decide (1≤o.worker∧o.worker≤b.workers))) [[],[],[]],BF,BF,BF,.call (V.b (decide (1≤o.lease∧o.lease≤300000000))) [[],[],[]],BF,BF,BF,BF,BF,BF,BF,BF,.i ((↑(List.length (List.map aC p.tasks)):Int) - 1),BF,.call (V.b (decide (0≤o.task∧o.task≤(↑(List.length (List.map aC p.tasks)):Int) - 1))) [[],[],[]],BF,BF,BF,BF,BF,BF,BF,.x (ak y),BF,BF,BF]<|J ⟨I,I,I,I,⟨UC,I,UU,UA,ac _ _ _⟩,I,I,⟨nO,I⟩,⟨nO,I⟩,⟨nO,UC,I,UU,UA,ac _ _ _⟩,⟨nO,I⟩,nO,I,⟨nO,I⟩,⟨nO,I⟩,⟨nO,I⟩,⟨nO,I⟩,⟨nO,I⟩,⟨nO,w64 LN LN⟩,⟨nO,UC,I,UU,UA,ac _ _ _⟩,⟨nO,I⟩,nO,I,⟨SI,I⟩,⟨SI,I⟩,⟨SI,I⟩,⟨SI,I⟩,⟨SI,OM,xA⟩,⟨SI,I⟩,⟨SI,I⟩,SI,I⟩ (W.cn<|J (noT dO) fun _=>(W.skip (rg [.i ((n3:Int) +1)]<|J Zdm ?_))))))))) (noF SI)
      refine⟨n3+1,[some 2,some 3],[],Zep,?_,?_⟩
      rotate_left
      (dsimp only;omega)
      dsimp only
      exact⟨by omega,dI hc3 ho1 ⟨hA,hB,hC,by rw[kR hy0];exact hD⟩⟩
    ·conv=>whnf
     refine g 0 0 []<|J UA<|W.sq<|W.cn<|J (fun _=>(W.skip (W.sq (W.blk (g 246 249 [.x (bg o)]<|J Zcn (g 249 279 [.call (V.b (decide (1≤o.worker∧o.worker≤b.workers))) [[],[],[]],BF,BF,BF,.call (V.b (decide (1≤o.lease∧o.lease≤300000000))) [[],[],[]],BF,BF,BF,BF,BF,BF,BF,BF,.i ((↑(List.length (List.map aC p.tasks)):Int) - 1),BF,.call (V.b (decide (0≤o.task∧o.task≤(↑(List.length (List.map aC p.tasks)):Int) - 1))) [[],[],[]],BF,BF,BT,BT,BT,BT,BT,BT,BT,BT]<|J ⟨I,I,I,I,⟨UC,I,UU,UA,ac _ _ _⟩,I,I,⟨nO,I⟩,⟨nO,I⟩,⟨nO,UC,I,UU,UA,ac _ _ _⟩,⟨nO,I⟩,nO,I,⟨nO,I⟩,⟨nO,I⟩,⟨nO,I⟩,⟨nO,I⟩,⟨nO,I⟩,⟨nO,w64 LN LN⟩,⟨nO,UC,I,UU,UA,ac _ _ _⟩,⟨nO,I⟩,nO,I,SI,SI,SI,SI,SI,SI,SI,SI,I⟩ (W.cn<|J (fun _=>(g 15 16 []<|J UA (RT ?_))) (noF rfl)))))))) (noF SI)
     exact vbf (fI hup (kA ho1 (fun q=>hC q.task)))
   ·conv=>whnf
    refine g 0 0 []<|J UA<|W.sq<|W.cn<|J (fun _=>(W.skip (W.sq (W.blk (g 246 249 [.x (bg o)]<|J Zcn (g 249 279 [.call (V.b (decide (1≤o.worker∧o.worker≤b.workers))) [[],[],[]],BF,BF,BF,.call (V.b (decide (1≤o.lease∧o.lease≤300000000))) [[],[],[]],BF,BF,BT,BT,BT,BT,BT,BT,BT,BT,BT,BT,BT,BT,BT,BT,BT,BT,BT]<|J ⟨I,I,I,I,⟨UC,I,UU,UA,ac _ _ _⟩,I,I,⟨nO,I⟩,⟨nO,I⟩,⟨nO,UC,I,UU,UA,ac _ _ _⟩,⟨nO,I⟩,nO,I,af OM,af OM,af OM,af OM,af OM,af OM,af OM,af OM,af OM,I,rfl,rfl,rfl,rfl,rfl,rfl,rfl,rfl,I⟩ (W.cn<|J (fun _=>(g 15 16 []<|J UA (RT ?_))) (noF rfl)))))))) (noF SI)
    exact vbf (fI hup (kA ho1 (fun q=>hB q.lease)))
  ·conv=>whnf
   refine g 0 0 []<|J UA<|W.sq<|W.cn<|J (fun _=>(W.skip (W.sq (W.blk (g 246 249 [.x (bg o)]<|J Zcn (g 249 279 [.call (V.b (decide (1≤o.worker∧o.worker≤b.workers))) [[],[],[]],BT,BT,BT,BT,BT,BT,BT,BT,BT,BT,BT,BT,BT,BT,BT,BT,BT,BT,BT,BT,BT,BT]<|J ⟨I,I,I,I,⟨UC,I,UU,UA,ac _ _ _⟩,I,I,af OM,af OM,af OM,af OM,af OM,I,rfl,rfl,rfl,rfl,rfl,rfl,rfl,rfl,rfl,I,rfl,rfl,rfl,rfl,rfl,rfl,rfl,rfl,I⟩ (W.cn<|J (fun _=>(g 15 16 []<|J UA (RT ?_))) (noF rfl)))))))) (noF SI)
   exact vbf (fI hup (kA ho1 (fun q=>hA q.worker)))
 have howed:∀ o∈b.owed,OwedOk b p.tasks o:=by rw[bF OM]at hc3;exact hc3
 conv=>whnf
 refine g 0 0 []<|J UA<|W.sq<|W.cn<|J (noT SI) fun _=>W.exit<|g 22 247 []<|J UA<|RT ?_
 exact vbt ⟨hc0,f6,f7,hk,fun _=>⟨f1,f2,f3,f4,f5,g1,g2,g3,g4,hjobs,hseats,howed⟩,fun e=>by rw[hup]at e;cases e⟩
end Go.K
end
section
open Go Go.Tm Go.Proofs
namespace Go.K
theorem Jo{b:Boss}{k:Nat}{j2:Job}{l:Int}(hc:l ∉ (b.jobs.take k).map Job.lease)(h:b.jobs[k]? = some j2)(hn:¬j2.lease = l):l ∉ (b.jobs.take (k+1)).map Job.lease:=fun e=>by
 rw[List.take_add_one,h,List.map_append]at e
 rcases List.mem_append.1 e with e|e
 ·exact hc e
 ·simp at e;exact hn e.symm
theorem Ps{b:Boss}{k n:Nat}{j2:Job}{l:Int}(hk:k < n)(h:b.jobs[k]? = some j2)(hn:j2.lease = l):l∈(b.jobs.take n).map Job.lease :=
 List.mem_map.2 ⟨j2,List.mem_of_getElem? (i:=k) (by rw[List.getElem?_take,if_pos hk];exact h),hn⟩
theorem jA{b:Boss}{ts:List Task}{n:Nat}{j:Job}(hj:b.jobs[n]? = some j)(h:¬Cu b ts n j):¬gI b ts b.jobs.length:=fun q=>h (q n j (List.getElem?_eq_some_iff.1 hj).1 hj)
noncomputable instance (b:Boss) (ts:List Task) (n:Nat):Decidable (gI b ts n):=Classical.propDecidable _
theorem vD(b:Boss)(p:Plan)(hc0:ah p.tasks = 0)(f1:1≤b.epoch)(f2:b.epoch≤300)(f3:b.results.length = p.tasks.length)(f4:b.jobs.length = p.tasks.length)(f7:0≤b.now∧b.now≤1000000)(f8:0≤b.given∧b.given≤1000000):F va [.val (gS b),.val (cE p)] (.b (decide (gI b p.tasks b.jobs.length))) [[],[]]:=by
 have hpl:=(bP hc0).1
 refine vz ?_
 conv=>whnf
 refine g 0 2 []<|J Zcd<|g 11 13 [.i (b.epoch - 1),.i ((b.epoch - 1) * 1000000)]<|J ⟨I,I,wO,wO,I,I⟩<|W.sq<|g 9 10 []<|J UA<|W.blk ?_
 refine W.lp (fun s (n:Nat)=>⟨[(2,s.s 2),(3,s.s 3),(5,s.s 5),(6,.i n),(10,s.s 10)],[(2,[s.c 2 0,s.c 2 1,s.c 2 2,s.c 2 3,s.c 2 4,s.c 2 5,s.c 2 6,s.c 2 7,s.c 2 8,s.c 2 9,s.c 2 10,s.c 2 11]),(3,[s.c 3 0])],[]⟩) (fun(n:Nat)=>n≤b.jobs.length∧gI b p.tasks n) (fun(n:Nat)=>b.jobs.length - n) (0) [some 2,some 3] [] ⟨rfl,⟨rfl,rfl,rfl,rfl,rfl,I⟩,⟨⟨rfl,⟨rfl,⟨rfl,⟨rfl,⟨rfl,⟨rfl,⟨rfl,⟨rfl,⟨rfl,⟨rfl,⟨rfl,⟨rfl,⟨rfl,I⟩⟩⟩⟩⟩⟩⟩⟩⟩⟩⟩⟩⟩,⟨⟨rfl,⟨rfl,I⟩⟩,I⟩⟩,I⟩ ?_ ?_
 ·exact⟨Nat.zero_le _,fun m j hm=>by omega⟩
 rintro n1 ⟨hn1,hc1⟩
 by_cases hj2:n1 < b.jobs.length
 ·obtain⟨j,hj1⟩:=aj hj2
  obtain⟨y,hy0⟩:=aj (xs:=b.results) (n:=n1) OM
  obtain⟨t,ht0⟩:=aj (xs:=p.tasks) (n:=n1) OM
  obtain⟨_,_,a3,a4⟩:=bz hc0 ht0
  have crd:=gO p b.results (n1:Int) (t:=t) OM (by rw[Int.toNat_natCast];exact ht0) (fun d hd=>by have:=a4 d hd;omega) OM
  by_cases hz:j.lease = 0
  ·by_cases hz2:j.worker = 0∧j.til = 0
   ·have hjo:Cu b p.tasks n1 j:=⟨fun _=>hz2,fun e=>absurd hz e⟩
    obtain⟨hz3,hz4⟩:=hz2
    conv=>whnf
    refine W.sq<|g 13 17 []<|J UE<|W.cn<|J (fun _=>(W.skip (W.sq (W.blk (g 17 25 [.x (aV j)]<|J Zbf (W.sq (g 25 27 []<|J UC (W.cn<|J (fun _=>(W.sq (g 31 35 [BF,BF,BF,BF]<|J ⟨I,I,I,I,⟨nO,I⟩,⟨nO,I⟩,⟨nO,I⟩,nO,I⟩ ?_))) (noF tO))))))))) (noF (by simp_all))
    refine W.cn<|J (noT nO) fun _=>W.skip<|W.exit<|rg [.i ((n1:Int) +1)]<|J Zdf ?_
    refine⟨n1+1,[some 2,some 3],[],⟨rfl,Za8,⟨Zaa,Zdp⟩,I⟩,?_,?_⟩
    rotate_left
    (dsimp only;omega)
    dsimp only
    exact⟨by omega,oq hc1 hj1 hjo⟩
   ·conv=>whnf
    refine W.sq<|g 13 17 []<|J UE<|W.cn<|J (fun _=>(W.skip (W.sq (W.blk (g 17 25 [.x (aV j)]<|J Zbf (W.sq (g 25 27 []<|J UC (W.cn<|J (fun _=>(W.sq ?_)) (noF tO))))))))) (noF (by simp_all))
    by_cases h1:Job.worker j = (0:Int)
    refine g 31 35 [BF,BF,BF,BF]<|J ⟨I,I,I,I,⟨nO,I⟩,⟨nO,I⟩,⟨nO,I⟩,nO,I⟩<|W.cn<|J (fun _=>(g 27 30 []<|J UA (RT ?_))) (noF (af OM))
    rotate_left
    refine g 31 35 [BT,BT,BT,BT]<|J ⟨I,I,I,I,af OM,af OM,af OM,af OM,I⟩<|W.cn<|J (fun _=>(g 27 30 []<|J UA (RT ?_))) (noF rfl)
    rotate_left
    all_goals exact vbf (jA hj1 (fun q=>by have:=q.1 hz;omega))
  ·by_cases hA:(b.epoch - 1) * 1000000+1≤j.lease∧j.lease≤(b.epoch - 1) * 1000000+b.given
   ·by_cases hC:1≤j.worker∧j.worker≤b.workers
    ·by_cases hD:b.now+1≤j.til∧j.til≤b.now+12
     ·by_cases hE:y = emp
      ·by_cases hF:cu b.results t.deps
       ·rw[decide_eq_true hF]at crd
        conv=>whnf
        refine W.sq<|g 13 17 []<|J UE<|W.cn<|J (fun _=>(W.skip (W.sq (W.blk (g 17 25 [.x (aV j)]<|J Zbf (W.sq (g 25 27 []<|J UC (W.cn<|J (noT dO) fun _=>(W.skip (W.sq ?_)))))))))) (noF (by simp_all))
        refine g 27 81 [.i ((b.epoch - 1) * 1000000+1),.i ((b.epoch - 1) * 1000000+b.given),.call (V.b (decide ((b.epoch - 1) * 1000000+1≤j.lease∧j.lease≤(b.epoch - 1) * 1000000+b.given))) [[],[],[]],BF,BF,BF,BF,BF,.call (V.b (decide (1≤j.worker∧j.worker≤b.workers))) [[],[],[]],BF,BF,BF,BF,BF,BF,BF,.i (b.now+1),BF,BF,BF,.i (b.now+12),BF,.call (V.b (decide (b.now+1≤j.til∧j.til≤b.now+12))) [[],[],[]],BF,BF,BF,BF,BF,BF,.x (ak y),BF,BF,BF,BF,BF,BF,BF,BF,.call VT [[],[],[]],BF,BF] ?_
        conv=>whnf
        refine J ⟨I,I,I,wO,I,I,I,wO,⟨UC,I,UU,UA,ag _ _ _⟩,I,I,⟨nO,I⟩,⟨nO,I⟩,⟨nO,I⟩,⟨nO,I⟩,⟨nO,UC,I,UU,UA,ag _ _ _⟩,⟨nO,I⟩,nO,I,⟨nO,I⟩,⟨nO,I⟩,⟨nO,I⟩,⟨nO,I⟩,Zej,⟨nO,I⟩,⟨nO,I⟩,Zej,⟨nO,UC,I,UU,UA,ag _ _ _⟩,⟨nO,I⟩,nO,I,⟨nO,I⟩,⟨nO,I⟩,⟨nO,I⟩,⟨nO,OM,xA⟩,⟨nO,I⟩,⟨nO,I⟩,nO,I,⟨nO,I⟩,⟨nO,I⟩,⟨nO,I⟩,⟨nO,I⟩,⟨nO,UC,I,UU,UA,AS⟩,⟨nO,I⟩,nO,I⟩<|W.cn<|J (noT rfl) fun _=>W.skip<|g 81 82 []<|J UA<|W.blk<|W.lp (fun s (k:Nat)=>⟨[(2,s.s 2),(3,s.s 3),(5,s.s 5),(6,s.s 6),(7,s.s 7),(8,.i k),(10,s.s 10)],[(2,[s.c 2 0,s.c 2 1,s.c 2 2,s.c 2 3,s.c 2 4,s.c 2 5,s.c 2 6,s.c 2 7,s.c 2 8,s.c 2 9,s.c 2 10,s.c 2 11]),(3,[s.c 3 0]),(7,[s.c 7 0,s.c 7 1,s.c 7 2])],[]⟩) (fun(k:Nat)=>k≤n1∧j.lease ∉ (b.jobs.take k).map Job.lease) (fun(k:Nat)=>n1 - k) (0) [some 2,some 3,some 7] [] Zea (by simp) ?_
        rintro k ⟨hk,hB⟩
        by_cases hk2:k < n1
        ·obtain⟨j2,hj3⟩:=aj (xs:=b.jobs) (n:=k) OM
         by_cases hq:j2.lease = j.lease
         ·conv=>whnf
          refine W.sq<|g 82 84 []<|J UC<|W.cn<|J (fun _=>(W.skip (W.sq (W.blk (gd 84 95 [[],[],[],[.x (aV j2)],[],[],[],[],[]] ?_))))) (noF tO)
          conv=>whnf
          refine⟨⟨I,I,I,Zdj,I,I,I,I,I,I⟩,by kernel_rfl,?_⟩
          refine W.cn<|J (fun _=>(g 95 96 []<|J UA (RT ?_))) (noF tO)
          exact vbf (jA hj1 (fun q=>(q.2 hz).once (Ps hk2 hj3 hq)))
         ·conv=>whnf
          refine W.sq<|g 82 84 []<|J UC<|W.cn<|J (fun _=>(W.skip (W.sq (W.blk (gd 84 95 [[],[],[],[.x (aV j2)],[],[],[],[],[]] ?_))))) (noF tO)
          conv=>whnf
          refine⟨⟨I,I,I,Zdj,I,I,I,I,I,I⟩,by kernel_rfl,?_⟩
          refine W.cn<|J (noT dO) fun _=>W.skip<|rg [.i ((k:Int) +1)]<|J Zdf ?_
          refine⟨k+1,[some 2,some 3,some 7],[],Zea,?_,?_⟩
          rotate_left
          (dsimp only;omega)
          dsimp only
          exact⟨by omega,Jo hB hj3 hq⟩
        ·rw[show k = n1 by omega]at hB
         conv=>whnf
         refine W.sq<|g 82 84 []<|J UC<|W.cn<|J (noT dO) fun _=>W.exit<|rg [.i ((n1:Int) +1)]<|J Zdf ?_
         refine⟨n1+1,[some 2,some 3],[],⟨rfl,Za8,⟨Zaa,Zdp⟩,I⟩,?_,?_⟩
         rotate_left
         (dsimp only;omega)
         dsimp only
         exact⟨by omega,oq hc1 hj1 ⟨fun e=>absurd e hz,fun _=>⟨hA,hC,hD,by rw[pE hy0];exact hE,by rw[cJ ht0];exact hF,hB⟩⟩⟩
       ·rw[decide_eq_false hF]at crd
        conv=>whnf
        refine W.sq<|g 13 17 []<|J UE<|W.cn<|J (fun _=>(W.skip (W.sq (W.blk (g 17 25 [.x (aV j)]<|J Zbf (W.sq (g 25 27 []<|J UC (W.cn<|J (noT dO) fun _=>(W.skip (W.sq ?_)))))))))) (noF (by simp_all))
        refine g 27 81 [.i ((b.epoch - 1) * 1000000+1),.i ((b.epoch - 1) * 1000000+b.given),.call (V.b (decide ((b.epoch - 1) * 1000000+1≤j.lease∧j.lease≤(b.epoch - 1) * 1000000+b.given))) [[],[],[]],BF,BF,BF,BF,BF,.call (V.b (decide (1≤j.worker∧j.worker≤b.workers))) [[],[],[]],BF,BF,BF,BF,BF,BF,BF,.i (b.now+1),BF,BF,BF,.i (b.now+12),BF,.call (V.b (decide (b.now+1≤j.til∧j.til≤b.now+12))) [[],[],[]],BF,BF,BF,BF,BF,BF,.x (ak y),BF,BF,BF,BF,BF,BF,BF,BF,.call VF [[],[],[]],BF,BF] ?_
        conv=>whnf
        refine J ⟨I,I,I,wO,I,I,I,wO,⟨UC,I,UU,UA,ag _ _ _⟩,I,I,⟨nO,I⟩,⟨nO,I⟩,⟨nO,I⟩,⟨nO,I⟩,⟨nO,UC,I,UU,UA,ag _ _ _⟩,⟨nO,I⟩,nO,I,⟨nO,I⟩,⟨nO,I⟩,⟨nO,I⟩,⟨nO,I⟩,Zej,⟨nO,I⟩,⟨nO,I⟩,Zej,⟨nO,UC,I,UU,UA,ag _ _ _⟩,⟨nO,I⟩,nO,I,⟨nO,I⟩,⟨nO,I⟩,⟨nO,I⟩,⟨nO,OM,xA⟩,⟨nO,I⟩,⟨nO,I⟩,nO,I,⟨nO,I⟩,⟨nO,I⟩,⟨nO,I⟩,⟨nO,I⟩,⟨nO,UC,I,UU,UA,AS⟩,⟨nO,I⟩,nO,I⟩<|W.cn<|J (fun _=>(g 81 82 []<|J UA (RT ?_))) (noF rfl)
        exact vbf (jA hj1 (fun q=>hF (by have:=(q.2 hz).ready;rw[cJ ht0]at this;exact this)))
      ·conv=>whnf
       refine W.sq<|g 13 17 []<|J UE<|W.cn<|J (fun _=>(W.skip (W.sq (W.blk (g 17 25 [.x (aV j)]<|J Zbf (W.sq (g 25 27 []<|J UC (W.cn<|J (noT dO) fun _=>(W.skip (W.sq ?_)))))))))) (noF (by simp_all))
       refine g 27 81 [.i ((b.epoch - 1) * 1000000+1),.i ((b.epoch - 1) * 1000000+b.given),.call (V.b (decide ((b.epoch - 1) * 1000000+1≤j.lease∧j.lease≤(b.epoch - 1) * 1000000+b.given))) [[],[],[]],BF,BF,BF,BF,BF,.call (V.b (decide (1≤j.worker∧j.worker≤b.workers))) [[],[],[]],BF,BF,BF,BF,BF,BF,BF,.i (b.now+1),BF,BF,BF,.i (b.now+12),BF,.call (V.b (decide (b.now+1≤j.til∧j.til≤b.now+12))) [[],[],[]],BF,BF,BF,BF,BF,BF,.x (ak y),BF,BF,BF,BT,BT,BT,BT,BT,BT,BT] ?_
       conv=>whnf
       refine J ⟨I,I,I,wO,I,I,I,wO,⟨UC,I,UU,UA,ag _ _ _⟩,I,I,⟨nO,I⟩,⟨nO,I⟩,⟨nO,I⟩,⟨nO,I⟩,⟨nO,UC,I,UU,UA,ag _ _ _⟩,⟨nO,I⟩,nO,I,⟨nO,I⟩,⟨nO,I⟩,⟨nO,I⟩,⟨nO,I⟩,Zej,⟨nO,I⟩,⟨nO,I⟩,Zej,⟨nO,UC,I,UU,UA,ag _ _ _⟩,⟨nO,I⟩,nO,I,⟨nO,I⟩,⟨nO,I⟩,⟨nO,I⟩,⟨nO,OM,xA⟩,⟨nO,I⟩,⟨nO,I⟩,nO,I,af OM,af OM,af OM,af OM,af OM,af OM,af OM,I⟩<|W.cn<|J (fun _=>(g 81 82 []<|J UA (RT ?_))) (noF rfl)
       exact vbf (jA hj1 (fun q=>hE (by have:=(q.2 hz).res;rw[pE hy0]at this;exact this)))
     ·conv=>whnf
      refine W.sq<|g 13 17 []<|J UE<|W.cn<|J (fun _=>(W.skip (W.sq (W.blk (g 17 25 [.x (aV j)]<|J Zbf (W.sq (g 25 27 []<|J UC (W.cn<|J (noT dO) fun _=>(W.skip (W.sq ?_)))))))))) (noF (by simp_all))
      refine g 27 81 [.i ((b.epoch - 1) * 1000000+1),.i ((b.epoch - 1) * 1000000+b.given),.call (V.b (decide ((b.epoch - 1) * 1000000+1≤j.lease∧j.lease≤(b.epoch - 1) * 1000000+b.given))) [[],[],[]],BF,BF,BF,BF,BF,.call (V.b (decide (1≤j.worker∧j.worker≤b.workers))) [[],[],[]],BF,BF,BF,BF,BF,BF,BF,.i (b.now+1),BF,BF,BF,.i (b.now+12),BF,.call (V.b (decide (b.now+1≤j.til∧j.til≤b.now+12))) [[],[],[]],BF,BF,BT,BT,BT,BT,BT,BT,BT,BT,BT,BT,BT,BT,BT,BT] ?_
      conv=>whnf
      refine J ⟨I,I,I,wO,I,I,I,wO,⟨UC,I,UU,UA,ag _ _ _⟩,I,I,⟨nO,I⟩,⟨nO,I⟩,⟨nO,I⟩,⟨nO,I⟩,⟨nO,UC,I,UU,UA,ag _ _ _⟩,⟨nO,I⟩,nO,I,⟨nO,I⟩,⟨nO,I⟩,⟨nO,I⟩,⟨nO,I⟩,Zej,⟨nO,I⟩,⟨nO,I⟩,Zej,⟨nO,UC,I,UU,UA,ag _ _ _⟩,⟨nO,I⟩,nO,I,af OM,af OM,af OM,af OM,af OM,af OM,af OM,I,rfl,rfl,rfl,rfl,rfl,rfl,rfl,I⟩<|W.cn<|J (fun _=>(g 81 82 []<|J UA (RT ?_))) (noF rfl)
      exact vbf (jA hj1 (fun q=>hD (q.2 hz).til))
    ·conv=>whnf
     refine W.sq<|g 13 17 []<|J UE<|W.cn<|J (fun _=>(W.skip (W.sq (W.blk (g 17 25 [.x (aV j)]<|J Zbf (W.sq (g 25 27 []<|J UC (W.cn<|J (noT dO) fun _=>(W.skip (W.sq ?_)))))))))) (noF (by simp_all))
     refine g 27 81 [.i ((b.epoch - 1) * 1000000+1),.i ((b.epoch - 1) * 1000000+b.given),.call (V.b (decide ((b.epoch - 1) * 1000000+1≤j.lease∧j.lease≤(b.epoch - 1) * 1000000+b.given))) [[],[],[]],BF,BF,BF,BF,BF,.call (V.b (decide (1≤j.worker∧j.worker≤b.workers))) [[],[],[]],BF,BF,BT,BT,BT,BT,BT,BT,BT,BT,BT,BT,BT,BT,BT,BT,BT,BT,BT,BT,BT,BT,BT,BT,BT,BT,BT] ?_
     conv=>whnf
     refine J ⟨I,I,I,wO,I,I,I,wO,⟨UC,I,UU,UA,ag _ _ _⟩,I,I,⟨nO,I⟩,⟨nO,I⟩,⟨nO,I⟩,⟨nO,I⟩,⟨nO,UC,I,UU,UA,ag _ _ _⟩,⟨nO,I⟩,nO,I,af OM,af OM,af OM,af OM,af OM,af OM,af OM,af OM,af OM,af OM,af OM,I,rfl,rfl,rfl,rfl,rfl,rfl,rfl,I,rfl,rfl,rfl,rfl,rfl,rfl,rfl,I⟩<|W.cn<|J (fun _=>(g 81 82 []<|J UA (RT ?_))) (noF rfl)
     exact vbf (jA hj1 (fun q=>hC (q.2 hz).worker))
   ·conv=>whnf
    refine W.sq<|g 13 17 []<|J UE<|W.cn<|J (fun _=>(W.skip (W.sq (W.blk (g 17 25 [.x (aV j)]<|J Zbf (W.sq (g 25 27 []<|J UC (W.cn<|J (noT dO) fun _=>(W.skip (W.sq ?_)))))))))) (noF (by simp_all))
    refine g 27 81 [.i ((b.epoch - 1) * 1000000+1),.i ((b.epoch - 1) * 1000000+b.given),.call (V.b (decide ((b.epoch - 1) * 1000000+1≤j.lease∧j.lease≤(b.epoch - 1) * 1000000+b.given))) [[],[],[]],BT,BT,BT,BT,BT,BT,BT,BT,BT,BT,BT,BT,BT,BT,BT,BT,BT,BT,BT,BT,BT,BT,BT,BT,BT,BT,BT,BT,BT,BT,BT,BT] ?_
    conv=>whnf
    refine J ⟨I,I,I,wO,I,I,I,wO,⟨UC,I,UU,UA,ag _ _ _⟩,I,I,af OM,af OM,af OM,af OM,af OM,af OM,af OM,I,rfl,rfl,rfl,rfl,rfl,rfl,rfl,rfl,rfl,rfl,rfl,I,rfl,rfl,rfl,rfl,rfl,rfl,rfl,I,rfl,rfl,rfl,rfl,rfl,rfl,rfl,I⟩<|W.cn<|J (fun _=>(g 81 82 []<|J UA (RT ?_))) (noF rfl)
    exact vbf (jA hj1 (fun q=>hA (q.2 hz).lease))
 have hjobs:gI b p.tasks b.jobs.length:=by rw[show b.jobs.length = n1 by omega];exact hc1
 conv=>whnf
 refine W.sq<|g 13 17 []<|J UE<|W.cn<|J (noT (by simp_all)) fun _=>W.exit<|g 5 18 []<|J UA<|RT ?_
 exact vbt OM
theorem tF(b:Boss)(p:Plan)(hp:cQ p)(hl1:b.log.safe.length≤1048576)(hl2:b.log.loose.length≤1048576)(hs:∀ s∈b.log.safe++b.log.loose,s.size≤281474976710656)(hr:b.results.length≤1048576)(hj:b.jobs.length≤1048576)(hse:b.seats.length≤1048576)(ho:b.owed.length≤1048576):F kB [.val (gS b),.val (cE p)] (.b (decide (BossOk b p))) [[],[]]:=by
 have cp:=bN p hp
 have ce:=rR b.log hl1 hl2
 have cr:F oY [.val (cE p),.val (.t (wt (b.log.safe++b.log.loose)))] (gj (bU b p)) [[],[]]:=gP p (b.log.safe++b.log.loose) hp hs (by rw[List.length_append];omega)
 have h310:(bU b p).code = 0→b.log.safe.length+b.log.loose.length≤310:=fun q=>by have:=(bL (p:=p) (xs:=b.log.safe++b.log.loose) q).2.1;rw[List.length_append]at this;exact this
 by_cases hup:b.up = true
 rotate_left
 ·rw[Bool.not_eq_true]at hup
  refine kH ?_
  conv=>whnf
  refine g 0 2 []<|J Zcd<|W.sq ?_
  by_cases h1:ah (Plan.tasks p) = (0:Int)
  by_cases h2:(1:Int)≤Boss.workers b∧Boss.workers b≤(8:Int)
  by_cases h3:(0:Int)≤Boss.now b∧Boss.now b≤(1000000:Int)
  refine g 21 26 [.call (V.i (ah p.tasks)) [[]],BF,BF,BF,.call (V.b (decide (1≤b.workers∧b.workers≤8))) [[],[],[]],BF,BF,BF,BF,BF,.call (V.b (decide (0≤b.now∧b.now≤1000000))) [[],[],[]],BF,BF,BF,BF,BF,BF,BF,BF,BF,BF,BF,.i ((↑(List.length (List.map ak b.log.safe)):Int) + (↑(List.length (List.map ak b.log.loose)):Int)),BF,BF]<|J ⟨I,Zai,I,I,⟨nO,I⟩,⟨nO,I⟩,⟨nO,UC,I,UU,UA,ag _ _ _⟩,⟨nO,I⟩,nO,I,⟨nO,I⟩,⟨nO,I⟩,⟨nO,UC,I,UU,UA,ag _ _ _⟩,⟨nO,I⟩,nO,I,⟨nO,I⟩,⟨nO,I⟩,⟨nO,I⟩,⟨nO,I⟩,⟨nO,I⟩,⟨nO,I⟩,⟨nO,I⟩,⟨nO,I⟩,⟨nO,w64 LN LN⟩,⟨nO,I⟩,nO,I⟩<|W.cn<|J (fun h4=>?_) fun h4=>?_
  replace h4:=dt h4
  simp only[LM]at h4
  refine g 27 32 []<|J UA<|RT ?_
  rotate_left
  replace h4:=df h4
  simp only[LM]at h4
  refine W.skip<|gd 27 32 [[],[],[],[.call (V.own [false] (List.map ak (b.log.safe++b.log.loose))) [[]]],[.call (gj (bU b p)) [[],[]]],[],[]] ?_
  conv=>whnf
  refine J ⟨I,I,I,⟨UA,I,⟨UB,I⟩,UA,AS⟩,Zam,I,UC,I⟩<|J KR<|W.sq<|g 39 45 []<|J UC<|W.cn<|J (fun h5=>?_) fun h5=>?_
  replace h5:=ndt h5
  refine g 33 38 []<|J UA<|RT ?_
  rotate_left
  replace h5:=ndf h5
  refine W.skip<|W.sq<|g 33 38 []<|J UC<|W.cn<|J (fun _=>?_) (noF (nbT AS))
  by_cases h6:(↑(List.length (List.map ak (Log.loose (Boss.log b)))):Int) = (0:Int)
  simp only[LM]at h6
  by_cases h7:Boss.since b = (0:Int)
  by_cases h8:Boss.epoch b = (0:Int)
  by_cases h9:Boss.given b = (0:Int)
  by_cases h10:(↑(List.length (List.map ak (Boss.results b))):Int) = (0:Int)
  simp only[LM]at h10
  by_cases h11:(↑(List.length (List.map aV (Boss.jobs b))):Int) = (0:Int)
  simp only[LM]at h11
  by_cases h12:(↑(List.length (List.map aR (Boss.seats b))):Int) = (0:Int)
  simp only[LM]at h12
  refine g 26 93 [BT,BT,BT,BT,BT,BT,BT,BT,BT,BT,BT,BT,BT,BT,BT,BT,BT,BT,BT,BT,BT,BT,BT,BT,BT,BT,BT,BT,BT,BT,BT,BT] ?_
  conv=>whnf
  refine J Za1<|RT ?_
  rotate_left
  simp only[LM]at h12
  refine g 26 93 [BT,BT,BT,BT,BT,BT,BT,BT,BT,BT,BT,BT,BT,BT,BT,BT,BT,BT,BT,BT,BT,BT,BT,BT,BT,BT,BT,BF,BF,BF,BF,BF] ?_
  conv=>whnf
  refine J ⟨I,I,I,I,I,I,⟨SI,I⟩,⟨SI,I⟩,⟨SI,I⟩,SI,I,⟨tO,I⟩,⟨tO,I⟩,⟨tO,I⟩,tO,I,⟨tO,I⟩,⟨tO,I⟩,⟨tO,I⟩,tO,I,⟨tO,I⟩,⟨tO,I⟩,⟨tO,I⟩,⟨tO,I⟩,tO,I,⟨SI,I⟩,⟨SI,I⟩,⟨SI,I⟩,⟨SI,I⟩,SI,I,⟨SI,I⟩,⟨SI,I⟩,⟨SI,I⟩,⟨SI,I⟩,SI,I,(by simp_all),(by simp_all),(by simp_all),(by simp_all),(by simp_all),I,I⟩<|RT ?_
  rotate_left
  simp only[LM]at h11
  refine g 26 93 [BT,BT,BT,BT,BT,BT,BT,BT,BT,BT,BT,BT,BT,BT,BT,BT,BT,BT,BT,BT,BT,BT,BF,BF,BF,BF,BF,BF,BF,BF,BF,BF] ?_
  conv=>whnf
  refine J ⟨I,I,I,I,I,I,⟨SI,I⟩,⟨SI,I⟩,⟨SI,I⟩,SI,I,⟨tO,I⟩,⟨tO,I⟩,⟨tO,I⟩,tO,I,⟨tO,I⟩,⟨tO,I⟩,⟨tO,I⟩,tO,I,⟨tO,I⟩,⟨tO,I⟩,⟨tO,I⟩,⟨tO,I⟩,tO,I,⟨SI,I⟩,⟨SI,I⟩,⟨SI,I⟩,⟨SI,I⟩,SI,I,(by simp_all),(by simp_all),(by simp_all),(by simp_all),(by simp_all),I,rfl,rfl,rfl,rfl,rfl,I,I⟩<|RT ?_
  rotate_left
  simp only[LM]at h10
  refine g 26 93 [BT,BT,BT,BT,BT,BT,BT,BT,BT,BT,BT,BT,BT,BT,BT,BT,BT,BF,BF,BF,BF,BF,BF,BF,BF,BF,BF,BF,BF,BF,BF,BF] ?_
  conv=>whnf
  refine J ⟨I,I,I,I,I,I,⟨SI,I⟩,⟨SI,I⟩,⟨SI,I⟩,SI,I,⟨tO,I⟩,⟨tO,I⟩,⟨tO,I⟩,tO,I,⟨tO,I⟩,⟨tO,I⟩,⟨tO,I⟩,tO,I,⟨tO,I⟩,⟨tO,I⟩,⟨tO,I⟩,⟨tO,I⟩,tO,I,(by simp_all),(by simp_all),(by simp_all),(by simp_all),(by simp_all),I,rfl,rfl,rfl,rfl,rfl,I,rfl,rfl,rfl,rfl,rfl,I,I⟩<|RT ?_
  rotate_left
  refine g 26 93 [BT,BT,BT,BT,BT,BT,BT,BT,BT,BT,BT,BT,BF,BF,BF,BF,BF,BF,BF,BF,BF,BF,BF,BF,BF,BF,BF,BF,BF,BF,BF,BF] ?_
  conv=>whnf
  refine J Zbs<|RT ?_
  rotate_left
  refine g 26 93 [BT,BT,BT,BT,BT,BT,BT,BT,BF,BF,BF,BF,BF,BF,BF,BF,BF,BF,BF,BF,BF,BF,BF,BF,BF,BF,BF,BF,BF,BF,BF,BF] ?_
  conv=>whnf
  refine J Zbx<|RT ?_
  rotate_left
  refine g 26 93 [BT,BT,BT,BT,BF,BF,BF,BF,BF,BF,BF,BF,BF,BF,BF,BF,BF,BF,BF,BF,BF,BF,BF,BF,BF,BF,BF,BF,BF,BF,BF,BF] ?_
  conv=>whnf
  refine J Zb1<|RT ?_
  rotate_left
  simp only[LM]at h6
  refine g 26 93 [BF,BF,BF,BF,BF,BF,BF,BF,BF,BF,BF,BF,BF,BF,BF,BF,BF,BF,BF,BF,BF,BF,BF,BF,BF,BF,BF,BF,BF,BF,BF,BF] ?_
  conv=>whnf
  refine J ⟨I,I,I,I,I,I,(by simp_all),(by simp_all),(by simp_all),(by simp_all),I,rfl,rfl,rfl,rfl,I,rfl,rfl,rfl,rfl,I,rfl,rfl,rfl,rfl,rfl,I,rfl,rfl,rfl,rfl,rfl,I,rfl,rfl,rfl,rfl,rfl,I,rfl,rfl,rfl,rfl,rfl,I,I⟩<|RT ?_
  rotate_left
  refine g 21 26 [.call (V.i (ah p.tasks)) [[]],BF,BF,BF,.call (V.b (decide (1≤b.workers∧b.workers≤8))) [[],[],[]],BF,BF,BF,BF,BF,.call (V.b (decide (0≤b.now∧b.now≤1000000))) [[],[],[]],BF,BF,BT,BT,BT,BT,BT,BT,BT,BT,BT,BT,BT]<|J ⟨I,Zai,I,I,⟨nO,I⟩,⟨nO,I⟩,⟨nO,UC,I,UU,UA,ag _ _ _⟩,⟨nO,I⟩,nO,I,⟨nO,I⟩,⟨nO,I⟩,⟨nO,UC,I,UU,UA,ag _ _ _⟩,⟨nO,I⟩,nO,I,af OM,af OM,af OM,af OM,af OM,af OM,af OM,af OM,af OM,af OM,af OM,I⟩<|W.cn<|J (fun _=>(g 27 32 []<|J UA (RT ?_))) (noF rfl)
  rotate_left
  refine g 21 26 [.call (V.i (ah p.tasks)) [[]],BF,BF,BF,.call (V.b (decide (1≤b.workers∧b.workers≤8))) [[],[],[]],BF,BF,BT,BT,BT,BT,BT,BT,BT,BT,BT,BT,BT,BT,BT,BT,BT,BT]<|J ⟨I,Zai,I,I,⟨nO,I⟩,⟨nO,I⟩,⟨nO,UC,I,UU,UA,ag _ _ _⟩,⟨nO,I⟩,nO,I,af OM,af OM,af OM,af OM,af OM,I,rfl,rfl,rfl,rfl,rfl,rfl,rfl,rfl,rfl,rfl,rfl,I⟩<|W.cn<|J (fun _=>(g 27 32 []<|J UA (RT ?_))) (noF rfl)
  rotate_left
  refine g 21 26 [.call (V.i (ah p.tasks)) [[]],BT,BT,BT,BT,BT,BT,BT,BT,BT,BT,BT,BT,BT,BT,BT,BT,BT,BT,BT,BT,BT]<|J Zd3<|W.cn<|J (fun _=>(g 27 32 []<|J UA (RT ?_))) (noF rfl)
  rotate_left
  all_goals first
   |exact vbf (fun q=>by have e1:=q.plan;have e2:=q.workers;have e3:=q.now;have e4:=q.code;have e5:=h310 e4;omega)
   |exact vbf (wT hup fun q=>by have e1:=q.loose;have e2:=q.since;have e3:=q.epoch;have e4:=q.given;have e5:=q.res;have e6:=q.jobs;have e7:=q.seats;omega)
   |(rename_i h8
     simp only[List.length_map]
     by_cases h9:(b.owed.length:Int) = 0
     ·rw[decide_eq_true h9];exact vbt ⟨by omega,by omega,by omega,by omega,(fun q=>by rw[hup]at q;cases q),fun _=>⟨by omega,by omega,by omega,by omega,by omega,by omega,by omega,by omega⟩⟩
     ·rw[decide_eq_false h9];exact vbf (wT hup fun q=>by have e8:=q.owed;omega))
   |skip
 refine kH ?_
 conv=>whnf
 refine g 0 2 []<|J Zcd<|W.sq ?_
 by_cases h1:ah (Plan.tasks p) = (0:Int)
 by_cases h2:(1:Int)≤Boss.workers b∧Boss.workers b≤(8:Int)
 by_cases h3:(0:Int)≤Boss.now b∧Boss.now b≤(1000000:Int)
 refine g 21 26 [.call (V.i (ah p.tasks)) [[]],BF,BF,BF,.call (V.b (decide (1≤b.workers∧b.workers≤8))) [[],[],[]],BF,BF,BF,BF,BF,.call (V.b (decide (0≤b.now∧b.now≤1000000))) [[],[],[]],BF,BF,BF,BF,BF,BF,BF,BF,BF,BF,BF,.i ((↑(List.length (List.map ak b.log.safe)):Int) + (↑(List.length (List.map ak b.log.loose)):Int)),BF,BF]<|J ⟨I,Zai,I,I,⟨nO,I⟩,⟨nO,I⟩,⟨nO,UC,I,UU,UA,ag _ _ _⟩,⟨nO,I⟩,nO,I,⟨nO,I⟩,⟨nO,I⟩,⟨nO,UC,I,UU,UA,ag _ _ _⟩,⟨nO,I⟩,nO,I,⟨nO,I⟩,⟨nO,I⟩,⟨nO,I⟩,⟨nO,I⟩,⟨nO,I⟩,⟨nO,I⟩,⟨nO,I⟩,⟨nO,I⟩,⟨nO,w64 LN LN⟩,⟨nO,I⟩,nO,I⟩<|W.cn<|J (fun h4=>?_) fun h4=>?_
 replace h4:=dt h4
 simp only[LM]at h4
 refine g 27 32 []<|J UA<|RT ?_
 rotate_left
 replace h4:=df h4
 simp only[LM]at h4
 refine W.skip<|gd 27 32 [[],[],[],[.call (V.own [false] (List.map ak (b.log.safe++b.log.loose))) [[]]],[.call (gj (bU b p)) [[],[]]],[],[]] ?_
 conv=>whnf
 refine J ⟨I,I,I,⟨UA,I,⟨UB,I⟩,UA,AS⟩,Zam,I,UC,I⟩<|J KR<|W.sq<|g 39 45 []<|J UC<|W.cn<|J (fun h5=>?_) fun h5=>?_
 replace h5:=ndt h5
 refine g 33 38 []<|J UA<|RT ?_
 rotate_left
 replace h5:=ndf h5
 refine W.skip<|W.sq<|g 33 38 []<|J UC<|W.cn<|J (noT (nbF AS)) fun _=>W.skip<|W.sq ?_
 by_cases h6:Boss.epoch b = Story.epoch (bU b p)
 by_cases h7:Boss.epoch b < (1:Int)
 refine g 26 114 [BF,BF,BF,BF,BT,BT,BT,BT,BT,BT,BT,BT,BT,BT]<|J ⟨I,I,I,I,I,I,⟨nO,I⟩,⟨nO,I⟩,⟨nO,I⟩,nO,I,tO,tO,tO,tO,tO,I,rfl,rfl,rfl,rfl,rfl,I⟩<|W.cn<|J (fun _=>(g 13 20 []<|J UA (RT ?_))) (noF rfl)
 rotate_left
 by_cases h8:(0:Int)≤Boss.since b∧Boss.since b≤(1:Int)
 refine g 26 114 [BF,BF,BF,BF,BF,BF,BF,.call (V.b (decide (0≤b.since∧b.since≤1))) [[],[],[]],BF,BF,BF,BF,BF,.call (V.b (decide (0≤b.given∧b.given≤1000000))) [[],[],[]],BF,BF]<|J ⟨I,I,I,I,I,I,⟨nO,I⟩,⟨nO,I⟩,⟨nO,I⟩,nO,I,⟨dO,I⟩,⟨dO,I⟩,⟨dO,UC,I,UU,UA,ag _ _ _⟩,⟨dO,I⟩,dO,I,⟨nO,I⟩,⟨nO,I⟩,⟨nO,UC,I,UU,UA,ag _ _ _⟩,⟨nO,I⟩,nO,I⟩<|W.cn<|J (fun h9=>?_) fun h9=>?_
 replace h9:=ndt h9
 refine g 13 20 []<|J UA<|RT ?_
 rotate_left
 replace h9:=ndf h9
 refine W.skip<|g 13 20 []<|J UD<|W.sq ?_
 by_cases h10:(↑(List.length (List.map ak (Boss.results b))):Int) = (↑(List.length (List.map aC (Plan.tasks p))):Int)
 simp only[LM]at h10
 by_cases h11:(↑(List.length (List.map aV (Boss.jobs b))):Int) = (↑(List.length (List.map aC (Plan.tasks p))):Int)
 simp only[LM]at h11
 by_cases h12:(↑(List.length (List.map aR (Boss.seats b))):Int) = Boss.workers b
 simp only[LM]at h12
 refine g 114 143 [BF,BF,BF,BF,BF,BF,BF,BF,BF,BF,BF,BF,BF,BF,BF,BF,BF,BF]<|J ⟨I,I,I,I,I,I,⟨SI,I⟩,⟨SI,I⟩,⟨SI,I⟩,⟨SI,I⟩,⟨SI,I⟩,SI,I,⟨SI,I⟩,⟨SI,I⟩,⟨SI,I⟩,⟨SI,I⟩,⟨SI,I⟩,⟨SI,I⟩,SI,I,⟨SI,I⟩,⟨SI,I⟩,⟨SI,I⟩,⟨SI,I⟩,SI,I⟩<|W.cn<|J (fun h13=>?_) fun h13=>?_
 replace h13:=dt h13
 simp only[LM]at h13
 refine g 11 12 []<|J UA<|RT ?_
 rotate_left
 replace h13:=df h13
 simp only[LM]at h13
 refine W.skip<|W.sq<|g 11 12 []<|J UA<|W.blk ?_
 rotate_left
 simp only[LM]at h12
 refine g 114 143 [BF,BF,BF,BF,BF,BF,BF,BF,BF,BF,BF,BF,BF,BT,BT,BT,BT,BT]<|J ⟨I,I,I,I,I,I,⟨SI,I⟩,⟨SI,I⟩,⟨SI,I⟩,⟨SI,I⟩,⟨SI,I⟩,SI,I,⟨SI,I⟩,⟨SI,I⟩,⟨SI,I⟩,⟨SI,I⟩,⟨SI,I⟩,⟨SI,I⟩,SI,I,SI,SI,SI,SI,SI,I⟩<|W.cn<|J (fun _=>(g 11 12 []<|J UA (RT ?_))) (noF rfl)
 rotate_left
 simp only[LM]at h11
 refine g 114 143 [BF,BF,BF,BF,BF,BF,BT,BT,BT,BT,BT,BT,BT,BT,BT,BT,BT,BT]<|J ⟨I,I,I,I,I,I,⟨SI,I⟩,⟨SI,I⟩,⟨SI,I⟩,⟨SI,I⟩,⟨SI,I⟩,SI,I,SI,SI,SI,SI,SI,SI,SI,I,rfl,rfl,rfl,rfl,rfl,I⟩<|W.cn<|J (fun _=>(g 11 12 []<|J UA (RT ?_))) (noF rfl)
 rotate_left
 simp only[LM]at h10
 refine g 114 143 [BT,BT,BT,BT,BT,BT,BT,BT,BT,BT,BT,BT,BT,BT,BT,BT,BT,BT]<|J ⟨I,I,I,I,I,I,SI,SI,SI,SI,SI,SI,I,rfl,rfl,rfl,rfl,rfl,rfl,rfl,I,rfl,rfl,rfl,rfl,rfl,I⟩<|W.cn<|J (fun _=>(g 11 12 []<|J UA (RT ?_))) (noF rfl)
 rotate_left
 refine g 26 114 [BF,BF,BF,BF,BF,BF,BF,.call (V.b (decide (0≤b.since∧b.since≤1))) [[],[],[]],BF,BF,BT,BT,BT,BT,BT]<|J ⟨I,I,I,I,I,I,⟨nO,I⟩,⟨nO,I⟩,⟨nO,I⟩,nO,I,⟨dO,I⟩,⟨dO,I⟩,⟨dO,UC,I,UU,UA,ag _ _ _⟩,⟨dO,I⟩,dO,I,af OM,af OM,af OM,af OM,af OM,I⟩<|W.cn<|J (fun _=>(g 13 20 []<|J UA (RT ?_))) (noF rfl)
 rotate_left
 refine g 26 114 [BT,BT,BT,BT,BT,BT,BT,BT,BT,BT,BT,BT,BT,BT]<|J ⟨I,I,I,I,I,I,af OM,af OM,af OM,af OM,I,rfl,rfl,rfl,rfl,rfl,I,rfl,rfl,rfl,rfl,rfl,I⟩<|W.cn<|J (fun _=>(g 13 20 []<|J UA (RT ?_))) (noF rfl)
 rotate_left
 refine g 21 26 [.call (V.i (ah p.tasks)) [[]],BF,BF,BF,.call (V.b (decide (1≤b.workers∧b.workers≤8))) [[],[],[]],BF,BF,BF,BF,BF,.call (V.b (decide (0≤b.now∧b.now≤1000000))) [[],[],[]],BF,BF,BT,BT,BT,BT,BT,BT,BT,BT,BT,BT,BT]<|J ⟨I,Zai,I,I,⟨nO,I⟩,⟨nO,I⟩,⟨nO,UC,I,UU,UA,ag _ _ _⟩,⟨nO,I⟩,nO,I,⟨nO,I⟩,⟨nO,I⟩,⟨nO,UC,I,UU,UA,ag _ _ _⟩,⟨nO,I⟩,nO,I,af OM,af OM,af OM,af OM,af OM,af OM,af OM,af OM,af OM,af OM,af OM,I⟩<|W.cn<|J (fun _=>(g 27 32 []<|J UA (RT ?_))) (noF rfl)
 rotate_left
 refine g 21 26 [.call (V.i (ah p.tasks)) [[]],BF,BF,BF,.call (V.b (decide (1≤b.workers∧b.workers≤8))) [[],[],[]],BF,BF,BT,BT,BT,BT,BT,BT,BT,BT,BT,BT,BT,BT,BT,BT,BT,BT]<|J ⟨I,Zai,I,I,⟨nO,I⟩,⟨nO,I⟩,⟨nO,UC,I,UU,UA,ag _ _ _⟩,⟨nO,I⟩,nO,I,af OM,af OM,af OM,af OM,af OM,I,rfl,rfl,rfl,rfl,rfl,rfl,rfl,rfl,rfl,rfl,rfl,I⟩<|W.cn<|J (fun _=>(g 27 32 []<|J UA (RT ?_))) (noF rfl)
 rotate_left
 refine g 21 26 [.call (V.i (ah p.tasks)) [[]],BT,BT,BT,BT,BT,BT,BT,BT,BT,BT,BT,BT,BT,BT,BT,BT,BT,BT,BT,BT,BT]<|J Zd3<|W.cn<|J (fun _=>(g 27 32 []<|J UA (RT ?_))) (noF rfl)
 rotate_left
 all_goals try first
  |exact vbf (fun q=>by have e1:=q.plan;have e2:=q.workers;have e3:=q.now;have e4:=q.code;have e5:=h310 e4;omega)
  |exact vbf (fI hup fun q=>by have e1:=q.epoch;have e2:=q.pos;have e3:=q.rlen;have e4:=q.jlen;have e5:=q.slen;have e6:=q.since;have e7:=q.given;have e8:=q.olen;omega)
 have hk:(bU b p).code = 0:=by assumption
 have hc0:ah p.tasks = 0:=by assumption
 obtain⟨_,_,hsl,_⟩:=bL (p:=p) (xs:=b.log.safe++b.log.loose) hk
 obtain⟨hep1,hep2⟩:=eS (p:=p) (xs:=b.log.safe++b.log.loose) hk
 change (bU b p).results.length = _ at hsl
 change 0≤(bU b p).epoch at hep1
 change (bU b p).epoch≤300 at hep2
 have f1:b.epoch = (bU b p).epoch:=by assumption
 have f2:1≤b.epoch:=by omega
 have f3:b.results.length = p.tasks.length:=by omega
 have f4:b.jobs.length = p.tasks.length:=by omega
 have f5:(b.seats.length:Int) = b.workers:=by omega
 have f6:1≤b.workers∧b.workers≤8:=by assumption
 have f7:0≤b.now∧b.now≤1000000:=by assumption
 have g2:0≤b.since∧b.since≤1:=by omega
 have g3:0≤b.given∧b.given≤1000000:=by omega
 have g4:b.owed.length≤2000:=by omega
 have hpl:=(bP hc0).1
 refine W.lp (fun s (n:Nat)=>⟨[(2,s.s 2),(3,s.s 3),(5,s.s 5),(6,s.s 6),(7,.i n),(12,s.s 12),(20,s.s 20)],[(2,[s.c 2 0,s.c 2 1,s.c 2 2,s.c 2 3,s.c 2 4,s.c 2 5,s.c 2 6,s.c 2 7,s.c 2 8,s.c 2 9,s.c 2 10,s.c 2 11]),(3,[s.c 3 0]),(5,[s.c 5 0,s.c 5 1,s.c 5 2])],[]⟩) (fun(n:Nat)=>n≤b.results.length∧b.results.take n = (bU b p).results.take n) (fun(n:Nat)=>b.results.length - n) (0) [some 2,some 3,some 5] [] Zea (by simp) ?_
 rintro n ⟨hn,hc⟩
 conv=>whnf
 refine W.sq<|g 144 146 []<|J UC<|W.cn<|J (fun h14=>?_) fun h14=>?_
 replace h14:=dt h14
 simp only[LM]at h14
 refine W.skip<|W.sq<|W.blk ?_
 obtain⟨y1,hy1⟩:=aj (xs:=Boss.results b) (n:=n) OM
 obtain⟨y2,hy2⟩:=aj (xs:=Story.results (bU b p)) (n:=n) OM
 refine gd 146 159 [[],[],[],[.x (ak y1)],[],[],[],[],[.n (n)],[.x (ak y2)],[]] ?_
 conv=>whnf
 refine J ⟨I,I,I,Zdj,I,I,I,I,Zdh,xA,I,I⟩<|J KR<|W.cn<|J (fun h15=>?_) fun h15=>?_
 replace h15:=ndt h15
 refine g 159 160 []<|J UA<|RT ?_
 rotate_left
 replace h15:=ndf h15
 refine W.skip<|rg [.i ((n:Int) +1)]<|J Zdf ?_
 rotate_left
 replace h14:=df h14
 simp only[LM]at h14
 refine W.exit<|W.sq<|g 5 6 []<|J UA<|W.blk ?_
 rotate_left
 all_goals try
  exact vbf (fI hup fun q=>by have e1:=q.res;rw[e1]at hy1;rw[hy1]at hy2;cases hy2;contradiction)
 ·refine⟨n+1,[some 2,some 3,some 5],[],Zea,?_,?_⟩
  rotate_left
  (dsimp only;omega)
  dsimp only
  exact⟨by omega,BP hc hy1 (by rw[hy2];simp_all)⟩
 have g1:b.results = (bU b p).results:=by rw[bF OM,bF OM]at hc;exact hc
 refine W.lp (fun s (n:Nat)=>⟨[(2,s.s 2),(3,s.s 3),(6,s.s 6),(8,.i n),(12,s.s 12),(20,s.s 20)],[(2,[s.c 2 0,s.c 2 1,s.c 2 2,s.c 2 3,s.c 2 4,s.c 2 5,s.c 2 6,s.c 2 7,s.c 2 8,s.c 2 9,s.c 2 10,s.c 2 11]),(3,[s.c 3 0])],[]⟩) (fun(n:Nat)=>n≤b.seats.length∧∀ s∈b.seats.take n,0≤s.epoch∧s.epoch≤300) (fun(n:Nat)=>b.seats.length - n) (0) [some 2,some 3] [] Zep (by simp) ?_
 rintro n2 ⟨hn2,hc2⟩
 by_cases hs2:n2 < b.seats.length
 ·obtain⟨s,hs1⟩:=aj hs2
  by_cases hA:0≤s.epoch∧s.epoch≤300
  ·conv=>whnf
   refine W.sq<|g 160 164 []<|J UE<|W.cn<|J (fun h15=>?_) fun h15=>?_
   replace h15:=dt h15
   simp only[LM]at h15
   refine W.skip<|W.sq<|W.blk<|g 164 174 [.x (aR s),.call (V.b (decide (0≤s.epoch∧s.epoch≤300))) [[],[],[]]]<|J ⟨I,I,I,Zdj,I,I,⟨UC,I,UU,UA,ag _ _ _⟩,I,I⟩<|W.cn<|J (noT nO) fun _=>W.skip<|rg [.i ((n2:Int) +1)]<|J Zdf ?_
   rotate_left
   replace h15:=df h15
   simp only[LM]at h15
   omega
   refine⟨n2+1,[some 2,some 3],[],Zep,?_,?_⟩
   rotate_left
   (dsimp only;omega)
   dsimp only
   exact⟨by omega,dI hc2 hs1 hA⟩
  ·conv=>whnf
   refine W.sq<|g 160 164 []<|J UE<|W.cn<|J (fun h15=>?_) fun h15=>?_
   replace h15:=dt h15
   simp only[LM]at h15
   refine W.skip<|W.sq<|W.blk<|g 164 174 [.x (aR s),.call (V.b (decide (0≤s.epoch∧s.epoch≤300))) [[],[],[]]]<|J ⟨I,I,I,Zdj,I,I,⟨UC,I,UU,UA,ag _ _ _⟩,I,I⟩<|W.cn<|J (fun _=>(g 174 175 []<|J UA (RT ?_))) (noF (af OM))
   rotate_left
   replace h15:=df h15
   simp only[LM]at h15
   omega
   exact vbf (fI hup (D8 hs1 hA))
 have hseats:∀ s∈b.seats,0≤s.epoch∧s.epoch≤300:=by rw[bF OM]at hc2;exact hc2
 conv=>whnf
 refine W.sq<|g 160 164 []<|J UE<|W.cn<|J (fun h15=>?_) fun h15=>?_
 replace h15:=dt h15
 simp only[LM]at h15
 omega
 replace h15:=df h15
 simp only[LM]at h15
 refine W.exit<|W.sq<|g 8 9 []<|J UA<|W.blk<|W.lp (fun s (n:Nat)=>⟨[(2,s.s 2),(3,s.s 3),(6,s.s 6),(9,.i n),(12,s.s 12),(20,s.s 20)],[(2,[s.c 2 0,s.c 2 1,s.c 2 2,s.c 2 3,s.c 2 4,s.c 2 5,s.c 2 6,s.c 2 7,s.c 2 8,s.c 2 9,s.c 2 10,s.c 2 11]),(3,[s.c 3 0])],[]⟩) (fun(n:Nat)=>n≤b.owed.length∧∀ o∈b.owed.take n,OwedOk b p.tasks o) (fun(n:Nat)=>b.owed.length - n) (0) [some 2,some 3] [] Zep (by simp) ?_
 rintro n3 ⟨hn3,hc3⟩
 by_cases ho2:n3 < b.owed.length
 ·obtain⟨o,ho1⟩:=aj ho2
  by_cases hA:1≤o.worker∧o.worker≤b.workers
  ·by_cases hB:1≤o.lease∧o.lease≤300000000
   ·by_cases hC:0≤o.task∧o.task≤(p.tasks.length:Int) - 1
    ·obtain⟨y,hy0⟩:=aj (xs:=b.results) (n:=o.task.toNat) OM
     by_cases hD:y = emp
     ·conv=>whnf
      refine W.sq<|g 175 179 []<|J UE<|W.cn<|J (fun _=>(W.skip (W.sq (W.blk (g 179 187 [.x (bg o)]<|J Zbf (g 187 215 [.call (V.b (decide (1≤o.worker∧o.worker≤b.workers))) [[],[],[]],BF,BF,BF,.call (V.b (decide (1≤o.lease∧o.lease≤300000000))) [[]],BF,BF,BF,BF,BF,BF,.i ((↑(List.length (List.map aC p.tasks)):Int) - 1),BF,.call (V.b (decide (0≤o.task∧o.task≤(↑(List.length (List.map aC p.tasks)):Int) - 1))) [[],[],[]],BF,BF,BF,BF,BF,BF,BF,.x (ak y),BF,BF,BF]<|J ⟨I,I,I,I,⟨UC,I,UU,UA,ag _ _ _⟩,I,I,⟨nO,I⟩,⟨nO,I⟩,⟨nO,UA,I,US,UA,ax _⟩,⟨nO,I⟩,nO,I,⟨nO,I⟩,⟨nO,I⟩,⟨nO,I⟩,⟨nO,w64 LN LN⟩,⟨nO,UC,I,UU,UA,ag _ _ _⟩,⟨nO,I⟩,nO,I,⟨SI,I⟩,⟨SI,I⟩,⟨SI,I⟩,⟨SI,I⟩,⟨SI,OM,xA⟩,⟨SI,I⟩,⟨SI,I⟩,SI,I⟩ (W.cn<|J (fun _=>(g 10 11 []<|J UA (RT ?_))) (noF tO)))))))) (noF SI)
      exact vbf (fI hup (kA ho1 (fun q=>q.res (by rw[kR hy0];exact hD))))
     ·conv=>whnf
      refine W.sq<|g 175 179 []<|J UE<|W.cn<|J (fun _=>(W.skip (W.sq (W.blk (g 179 187 [.x (bg o)]<|J Zbf (g 187 215 [.call (V.b (decide (1≤o.worker∧o.worker≤b.workers))) [[],[],[]],BF,BF,BF,.call (V.b (decide (1≤o.lease∧o.lease≤300000000))) [[]],BF,BF,BF,BF,BF,BF,.i ((↑(List.length (List.map aC p.tasks)):Int) - 1),BF,.call (V.b (decide (0≤o.task∧o.task≤(↑(List.length (List.map aC p.tasks)):Int) - 1))) [[],[],[]],BF,BF,BF,BF,BF,BF,BF,.x (ak y),BF,BF,BF]<|J ⟨I,I,I,I,⟨UC,I,UU,UA,ag _ _ _⟩,I,I,⟨nO,I⟩,⟨nO,I⟩,⟨nO,UA,I,US,UA,ax _⟩,⟨nO,I⟩,nO,I,⟨nO,I⟩,⟨nO,I⟩,⟨nO,I⟩,⟨nO,w64 LN LN⟩,⟨nO,UC,I,UU,UA,ag _ _ _⟩,⟨nO,I⟩,nO,I,⟨SI,I⟩,⟨SI,I⟩,⟨SI,I⟩,⟨SI,I⟩,⟨SI,OM,xA⟩,⟨SI,I⟩,⟨SI,I⟩,SI,I⟩ (W.cn<|J (noT dO) fun _=>(W.skip (rg [.i ((n3:Int) +1)]<|J Zdf ?_))))))))) (noF SI)
      refine⟨n3+1,[some 2,some 3],[],Zep,?_,?_⟩
      rotate_left
      (dsimp only;omega)
      dsimp only
      exact⟨by omega,dI hc3 ho1 ⟨hA,hB,hC,by rw[kR hy0];exact hD⟩⟩
    ·conv=>whnf
     refine W.sq<|g 175 179 []<|J UE<|W.cn<|J (fun _=>(W.skip (W.sq (W.blk (g 179 187 [.x (bg o)]<|J Zbf (g 187 215 [.call (V.b (decide (1≤o.worker∧o.worker≤b.workers))) [[],[],[]],BF,BF,BF,.call (V.b (decide (1≤o.lease∧o.lease≤300000000))) [[]],BF,BF,BF,BF,BF,BF,.i ((↑(List.length (List.map aC p.tasks)):Int) - 1),BF,.call (V.b (decide (0≤o.task∧o.task≤(↑(List.length (List.map aC p.tasks)):Int) - 1))) [[],[],[]],BF,BF,BT,BT,BT,BT,BT,BT,BT,BT]<|J ⟨I,I,I,I,⟨UC,I,UU,UA,ag _ _ _⟩,I,I,⟨nO,I⟩,⟨nO,I⟩,⟨nO,UA,I,US,UA,ax _⟩,⟨nO,I⟩,nO,I,⟨nO,I⟩,⟨nO,I⟩,⟨nO,I⟩,⟨nO,w64 LN LN⟩,⟨nO,UC,I,UU,UA,ag _ _ _⟩,⟨nO,I⟩,nO,I,SI,SI,SI,SI,SI,SI,SI,SI,I⟩ (W.cn<|J (fun _=>(g 10 11 []<|J UA (RT ?_))) (noF rfl)))))))) (noF SI)
     exact vbf (fI hup (kA ho1 (fun q=>hC q.task)))
   ·conv=>whnf
    refine W.sq<|g 175 179 []<|J UE<|W.cn<|J (fun _=>(W.skip (W.sq (W.blk (g 179 187 [.x (bg o)]<|J Zbf (g 187 215 [.call (V.b (decide (1≤o.worker∧o.worker≤b.workers))) [[],[],[]],BF,BF,BF,.call (V.b (decide (1≤o.lease∧o.lease≤300000000))) [[]],BF,BF,BT,BT,BT,BT,BT,BT,BT,BT,BT,BT,BT,BT,BT,BT,BT]<|J ⟨I,I,I,I,⟨UC,I,UU,UA,ag _ _ _⟩,I,I,⟨nO,I⟩,⟨nO,I⟩,⟨nO,UA,I,US,UA,ax _⟩,⟨nO,I⟩,nO,I,af OM,af OM,af OM,af OM,af OM,af OM,af OM,I,rfl,rfl,rfl,rfl,rfl,rfl,rfl,rfl,I⟩ (W.cn<|J (fun _=>(g 10 11 []<|J UA (RT ?_))) (noF rfl)))))))) (noF SI)
    exact vbf (fI hup (kA ho1 (fun q=>hB q.lease)))
  ·conv=>whnf
   refine W.sq<|g 175 179 []<|J UE<|W.cn<|J (fun _=>(W.skip (W.sq (W.blk (g 179 187 [.x (bg o)]<|J Zbf (g 187 215 [.call (V.b (decide (1≤o.worker∧o.worker≤b.workers))) [[],[],[]],BT,BT,BT,BT,BT,BT,BT,BT,BT,BT,BT,BT,BT,BT,BT,BT,BT,BT,BT,BT]<|J ⟨I,I,I,I,⟨UC,I,UU,UA,ag _ _ _⟩,I,I,af OM,af OM,af OM,af OM,af OM,I,rfl,rfl,rfl,rfl,rfl,rfl,rfl,I,rfl,rfl,rfl,rfl,rfl,rfl,rfl,rfl,I⟩ (W.cn<|J (fun _=>(g 10 11 []<|J UA (RT ?_))) (noF rfl)))))))) (noF SI)
   exact vbf (fI hup (kA ho1 (fun q=>hA q.worker)))
 have howed:∀ o∈b.owed,OwedOk b p.tasks o:=by rw[bF OM]at hc3;exact hc3
 have cj:=vD b p hc0 OM OM f3 f4 f7 g3
 by_cases hjobs:gI b p.tasks b.jobs.length
 ·rw[decide_eq_true hjobs]at cj
  conv=>whnf
  refine W.sq<|g 175 179 []<|J UE<|W.cn<|J (noT SI) fun _=>W.exit<|g 6 219 [.call VT [[],[]]]<|J Zap<|RT ?_
  exact vbt ⟨hc0,f6,f7,hk,fun _=>⟨f1,f2,f3,f4,f5,g1,g2,g3,g4,hjobs,hseats,howed⟩,fun e=>by rw[hup]at e;cases e⟩
 ·rw[decide_eq_false hjobs]at cj
  conv=>whnf
  refine W.sq<|g 175 179 []<|J UE<|W.cn<|J (noT SI) fun _=>W.exit<|g 6 219 [.call VF [[],[]]]<|J Zap<|RT ?_
  exact vbf (fI hup fun q=>hjobs q.jobs)
end Go.K
end
section
open Go Go.Tm Go.Proofs
namespace Go.K
structure Message where
 kind:Int
 frm:Int
 to:Int
 epoch:Int
 lease:Int
 task:Int
 text:ByteArray
 inputs:List ByteArray
 deriving DecidableEq
abbrev aF(x:Message):List T:=[.i x.kind,.i x.frm,.i x.to,.i x.epoch,.i x.lease,.i x.task,.s x.text,.slc [false] (x.inputs.map ak)]
abbrev dH(x:Message):V:=.agg [.t (.i x.kind),.t (.i x.frm),.t (.i x.to),.t (.i x.epoch),.t (.i x.lease),.t (.i x.task),.t (.s x.text),.t (.slc [false] (x.inputs.map ak))]
abbrev bu(x:Message):V:=.agg [.t (.i x.kind),.t (.i x.frm),.t (.i x.to),.t (.i x.epoch),.t (.i x.lease),.t (.i x.task),.t (.s x.text),.own [false] (x.inputs.map ak)]
abbrev ca:List Bool:=[false,false,false,false,false,false,false,true]
abbrev Jq:Message:=⟨0,0,0,0,0,0,emp,[]⟩
def HC(s:ByteArray):ByteArray:=bl (beL (fJ h0v s) 8)
theorem gX(s:ByteArray):(HC s).size = 8:=by unfold HC;rw[gB,pD]
def nul:ByteArray:=⟨#[0]⟩
def eF(body key:ByteArray):ByteArray:=HC (key++nul++body)
theorem Lp(body key:ByteArray):bl (beL (fJ (fJ (fJ h0v key) nul) body) 8) = eF body key:=by unfold eF HC;rw[sB,sB]
theorem EX(v:Int)(s:ByteArray)(h:0≤v∧v≤18446744073709551615):0≤fJ v s∧fJ v s≤18446744073709551615:=xn _ _ h
theorem nJ(body key:ByteArray)(h1:body.size≤9223372036854775807)(h2:key.size≤9223372036854775807):F C8 [.val (.s body),.val (.s key)] (.s (eF body key)) [[],[]]:=by
 have hb:=EX (fJ (fJ h0v key) nul) body (EX _ _ (Ic key))
 have e1:=gr h0v key
 have e2:=gr (fJ h0v key) nul
 have e3:=gr (fJ (fJ h0v key) nul) body
 have c1:=cR h0v key h2
 rw[e1]at c1
 have c2:=cR (fJ h0v key) nul (by decide)
 rw[e2]at c2
 have c3:=cR (fJ (fJ h0v key) nul) body h1
 rw[e3]at c3
 have c4:=kM (fJ (fJ (fJ h0v key) nul) body) hb.1 hb.2
 rw[Lp]at c4
 refine Dp ?_
 conv=>whnf
 refine g 0 0 []<|J UA<|g 0 0 []<|J UV<|g 6 8 [.call (V.tup []) ([[u8v (fJ h0v key)],[]])]<|J ⟨I,Zbr,I⟩<|g 1 2 [.call (V.tup []) ([[u8v (fJ (fJ h0v key) nul)],[]])]<|J ⟨Zbr,I⟩<|g 0 1 [.call (V.tup []) ([[u8v (fJ (fJ (fJ h0v key) nul) body)],[]])]<|J ⟨I,Zbr,I⟩<|g 10 13 [.call (V.s (eF body key)) [[]]]<|J Zei<|RT ?_
 rfl
def bx(m:Message):Prop:=(1≤m.epoch∧m.epoch≤300)∧
 ((m.kind = 1∧m.frm = 0∧(1≤m.to∧m.to≤8)∧(1≤m.lease∧m.lease≤300000000)∧(0≤m.task∧m.task≤39)∧m.text = emp∧dR m.inputs)∨
  (m.kind = 2∧m.to = 0∧(1≤m.frm∧m.frm≤8)∧(1≤m.lease∧m.lease≤300000000)∧m.task = 0∧m.text = emp∧(m.inputs.length:Int) = 0)∨
  (m.kind = 3∧m.to = 0∧(1≤m.frm∧m.frm≤8)∧(1≤m.lease∧m.lease≤300000000)∧(0≤m.task∧m.task≤39)∧(m.text.size:Int) = 8∧(m.inputs.length:Int) = 0)∨
  (m.kind = 4∧m.frm = 0∧(1≤m.to∧m.to≤8)∧(1≤m.lease∧m.lease≤300000000)∧m.task = 0∧m.text = emp∧(m.inputs.length:Int) = 0)∨
  (m.kind = 5∧m.to = 0∧(1≤m.frm∧m.frm≤8)∧m.lease = 0∧m.task = 0∧m.text = emp∧(m.inputs.length:Int) = 0))
instance (m:Message):Decidable (bx m):=by unfold bx;infer_instance
theorem bZ(m:Message)(hl:m.inputs.length≤9223372036854775806):F m7 [.val (dH m)] (.b (decide (bx m))) [[]]:=by
 refine m9 ?_
 conv=>whnf
 refine g 0 1 []<|J ⟨UH,I,I⟩<|g 0 0 []<|J UE<|W.sq<|g 0 0 []<|J UB<|W.blk<|g 13 14 []<|J UB<|W.cn<|J (fun h1=>?_) fun h1=>?_
 replace h1:=dt h1
 refine rg []<|J UD<|gd 11 26 [[],[],[],[],[],[]] ?_
 conv=>whnf
 refine J UF<|J KR<|W.sq<|g 0 0 []<|J UA<|W.cn<|J (fun _=>(rgd [[],[],[],[],[],[]] ?_)) (noF rfl)
 conv=>whnf
 refine⟨UF,by kernel_rfl,?_⟩
 refine W.sq ?_
 by_cases h2:Message.frm m = (0:Int)
 by_cases h3:(1:Int)≤Message.to m∧Message.to m≤(8:Int)
 refine g 26 43 [BF,BF,.call (V.b (decide (1≤m.to∧m.to≤8))) [[],[],[]],BF,BF,BF,BF,BF,.call (V.b (decide (1≤m.epoch∧m.epoch≤300))) [[],[],[]],BF,BF]<|J ⟨I,I,I,⟨nO,I⟩,⟨nO,UC,I,UU,UA,ac _ _ _⟩,⟨nO,I⟩,nO,I,⟨nO,I⟩,⟨nO,I⟩,⟨nO,UC,I,UU,UA,ac _ _ _⟩,⟨nO,I⟩,nO,I⟩<|W.cn<|J (fun h4=>?_) fun h4=>?_
 replace h4:=ndt h4
 refine g 8 9 []<|J UA<|RT ?_
 rotate_left
 replace h4:=ndf h4
 refine W.skip<|W.sq ?_
 by_cases h5:(1:Int)≤Message.lease m∧Message.lease m≤(300000000:Int)
 refine g 43 59 [BT,BT,BT,.call (V.b (decide (1≤m.lease∧m.lease≤300000000))) [[],[],[]],BT,BT,BF,BF,BF,BF,BF,BF,BF,BF,BF]<|J ⟨I,I,Zde,Zde,⟨rfl,UC,I,UU,UA,ac _ _ _⟩,Zde,rfl,I,⟨nO,I⟩,⟨nO,I⟩,⟨nO,I⟩,rfl,rfl,rfl,⟨nO,rfl⟩,nO,I⟩<|W.cn<|J (noT rfl) fun _=>W.skip<|W.sq ?_
 by_cases h6:(0:Int)≤Message.task m∧Message.task m≤(39:Int)
 refine g 59 75 [BT,BT,BT,.call (V.b (decide (0≤m.task∧m.task≤39))) [[],[],[]],BT,BT,BF,BF,BF,BF,BF,BF,BF,BF,BF]<|J ⟨I,I,Zde,Zde,⟨rfl,UC,I,UU,UA,ac _ _ _⟩,Zde,rfl,I,⟨nO,I⟩,⟨nO,I⟩,⟨nO,I⟩,rfl,rfl,rfl,⟨nO,rfl⟩,nO,I⟩<|W.cn<|J (noT rfl) fun _=>W.skip<|W.sq<|g 10 91 [BF,BF,BF,BF,BF,BF,BF,BF,BT,BT,BT,BF,BT,BF]<|J Zas<|W.cn<|J (fun h7=>?_) fun h7=>?_
 replace h7:=ndt h7
 refine g 7 9 []<|J UA<|RT ?_
 rotate_left
 replace h7:=ndf h7
 refine W.skip ?_
 by_cases h8:dR (Message.inputs m)
 refine g 5 108 [BT,BT,BT,.call (V.b (decide (dR m.inputs))) [[]],BT,BT,BT,BT,BF,BF,BF,BF,BT,BT]<|J ⟨I,I,Zde,Zde,⟨rfl,UA,I,US,UA,gQ _ OM⟩,rfl,I,tO,tO,tO,I,I,I,I,tO,tO,I,I⟩<|RT ?_
 rotate_left
 refine g 5 108 [BT,BT,BT,.call (V.b (decide (dR m.inputs))) [[]],BT,BF,BF,BF,BF,BF,BF,BF,BF,BF,BF]<|J ⟨I,I,Zde,Zde,⟨rfl,UA,I,US,UA,gQ _ OM⟩,rfl,I,⟨dO,I⟩,⟨dO,I⟩,⟨dO,I⟩,rfl,rfl,rfl,rfl,⟨dO,rfl⟩,dO,I,I⟩<|RT ?_
 rotate_left
 refine g 59 75 [BT,BT,BT,.call (V.b (decide (0≤m.task∧m.task≤39))) [[],[],[]],BT,BT,BT,BT,BT,BF,BF,BF,BT,BT]<|J ⟨I,I,Zde,Zde,⟨rfl,UC,I,UU,UA,ac _ _ _⟩,Zde,rfl,I,af OM,af OM,af OM,I,I,I,af OM,af OM,I⟩<|W.cn<|J (fun _=>(g 3 4 []<|J UA (RT ?_))) (noF rfl)
 rotate_left
 refine g 43 59 [BT,BT,BT,.call (V.b (decide (1≤m.lease∧m.lease≤300000000))) [[],[],[]],BT,BT,BT,BT,BT,BF,BF,BF,BT,BT]<|J ⟨I,I,Zde,Zde,⟨rfl,UC,I,UU,UA,ac _ _ _⟩,Zde,rfl,I,af OM,af OM,af OM,I,I,I,af OM,af OM,I⟩<|W.cn<|J (fun _=>(g 3 4 []<|J UA (RT ?_))) (noF rfl)
 rotate_left
 refine g 26 43 [BF,BF,.call (V.b (decide (1≤m.to∧m.to≤8))) [[],[],[]],BF,BF,BT,BT,BT,BT,BT]<|J ⟨I,I,I,⟨nO,I⟩,⟨nO,UC,I,UU,UA,ac _ _ _⟩,⟨nO,I⟩,nO,I,af OM,af OM,af OM,af OM,af OM,I⟩<|W.cn<|J (fun _=>(g 8 9 []<|J UA (RT ?_))) (noF rfl)
 rotate_left
 refine g 26 43 [BT,BT,BT,BT,BT,BT,BT,BT,BT]<|J Zb2<|W.cn<|J (fun _=>(g 8 9 []<|J UA (RT ?_))) (noF rfl)
 rotate_left
 replace h1:=df h1
 refine g 12 13 []<|J UB<|W.cn<|J (fun h2=>?_) fun h2=>?_
 replace h2:=dt h2
 refine rg []<|J UA<|gd 11 26 [[],[],[],[],[],[]] ?_
 conv=>whnf
 refine J UF<|J KR<|W.sq<|g 0 0 []<|J UA<|W.cn<|J (noT rfl) fun _=>W.skip<|W.sq ?_
 by_cases h3:Message.to m = (0:Int)
 by_cases h4:(1:Int)≤Message.frm m∧Message.frm m≤(8:Int)
 refine g 26 43 [BF,BF,.call (V.b (decide (1≤m.frm∧m.frm≤8))) [[],[],[]],BF,BF,BF,BF,BF,.call (V.b (decide (1≤m.epoch∧m.epoch≤300))) [[],[],[]],BF,BF]<|J ⟨I,I,I,⟨nO,I⟩,⟨nO,UC,I,UU,UA,ac _ _ _⟩,⟨nO,I⟩,nO,I,⟨nO,I⟩,⟨nO,I⟩,⟨nO,UC,I,UU,UA,ac _ _ _⟩,⟨nO,I⟩,nO,I⟩<|W.cn<|J (fun h5=>?_) fun h5=>?_
 replace h5:=ndt h5
 refine g 8 9 []<|J UA<|RT ?_
 rotate_left
 replace h5:=ndf h5
 refine W.skip<|W.sq ?_
 by_cases h6:(1:Int)≤Message.lease m∧Message.lease m≤(300000000:Int)
 refine g 43 59 [BT,BT,BT,.call (V.b (decide (1≤m.lease∧m.lease≤300000000))) [[],[],[]],BT,BT,BF,BF,BF,BF,BF,BF,BF,BF,BF]<|J ⟨I,I,Zde,Zde,⟨rfl,UC,I,UU,UA,ac _ _ _⟩,Zde,rfl,I,⟨nO,I⟩,⟨nO,I⟩,⟨nO,I⟩,rfl,rfl,rfl,⟨nO,rfl⟩,nO,I⟩<|W.cn<|J (noT rfl) fun _=>W.skip<|W.sq<|g 59 75 [BF,BF,BF,BF,BF,BF,BF,BF,BT,BT,BT,BF,BT,BF]<|J Zas<|W.cn<|J (fun h7=>?_) fun h7=>?_
 replace h7:=ndt h7
 refine g 3 4 []<|J UA<|RT ?_
 rotate_left
 replace h7:=ndf h7
 refine W.skip<|W.sq<|g 10 91 [BF,BF,BF,BF,BF,BF,BF,BF,BT,BT,BT,BF,BT,BF]<|J Zas<|W.cn<|J (fun h8=>?_) fun h8=>?_
 replace h8:=ndt h8
 refine g 7 9 []<|J UA<|RT ?_
 rotate_left
 replace h8:=ndf h8
 refine W.skip<|g 5 108 [BF,BF,BF,BF,BF,BF,BF,BT,BT,BT,BT,BF,BT,BF]<|J Zbg<|RT ?_
 rotate_left
 refine g 43 59 [BT,BT,BT,.call (V.b (decide (1≤m.lease∧m.lease≤300000000))) [[],[],[]],BT,BT,BT,BT,BT,BF,BF,BF,BT,BT]<|J ⟨I,I,Zde,Zde,⟨rfl,UC,I,UU,UA,ac _ _ _⟩,Zde,rfl,I,af OM,af OM,af OM,I,I,I,af OM,af OM,I⟩<|W.cn<|J (fun _=>(g 3 4 []<|J UA (RT ?_))) (noF rfl)
 rotate_left
 refine g 26 43 [BF,BF,.call (V.b (decide (1≤m.frm∧m.frm≤8))) [[],[],[]],BF,BF,BT,BT,BT,BT,BT]<|J ⟨I,I,I,⟨nO,I⟩,⟨nO,UC,I,UU,UA,ac _ _ _⟩,⟨nO,I⟩,nO,I,af OM,af OM,af OM,af OM,af OM,I⟩<|W.cn<|J (fun _=>(g 8 9 []<|J UA (RT ?_))) (noF rfl)
 rotate_left
 refine g 26 43 [BT,BT,BT,BT,BT,BT,BT,BT,BT]<|J Zb2<|W.cn<|J (fun _=>(g 8 9 []<|J UA (RT ?_))) (noF rfl)
 rotate_left
 replace h2:=df h2
 refine g 14 16 []<|J UB<|W.cn<|J (fun h3=>?_) fun h3=>?_
 replace h3:=dt h3
 refine rg []<|J UC<|gd 11 26 [[],[],[],[],[],[]] ?_
 conv=>whnf
 refine J UF<|J KR<|W.sq<|g 0 0 []<|J UA<|W.cn<|J (noT rfl) fun _=>W.skip<|W.sq ?_
 by_cases h4:Message.to m = (0:Int)
 by_cases h5:(1:Int)≤Message.frm m∧Message.frm m≤(8:Int)
 refine g 26 43 [BF,BF,.call (V.b (decide (1≤m.frm∧m.frm≤8))) [[],[],[]],BF,BF,BF,BF,BF,.call (V.b (decide (1≤m.epoch∧m.epoch≤300))) [[],[],[]],BF,BF]<|J ⟨I,I,I,⟨nO,I⟩,⟨nO,UC,I,UU,UA,ac _ _ _⟩,⟨nO,I⟩,nO,I,⟨nO,I⟩,⟨nO,I⟩,⟨nO,UC,I,UU,UA,ac _ _ _⟩,⟨nO,I⟩,nO,I⟩<|W.cn<|J (fun h6=>?_) fun h6=>?_
 replace h6:=ndt h6
 refine g 8 9 []<|J UA<|RT ?_
 rotate_left
 replace h6:=ndf h6
 refine W.skip<|W.sq ?_
 by_cases h7:(1:Int)≤Message.lease m∧Message.lease m≤(300000000:Int)
 refine g 43 59 [BT,BT,BT,.call (V.b (decide (1≤m.lease∧m.lease≤300000000))) [[],[],[]],BT,BT,BF,BF,BF,BF,BF,BF,BF,BF,BF]<|J ⟨I,I,Zde,Zde,⟨rfl,UC,I,UU,UA,ac _ _ _⟩,Zde,rfl,I,⟨nO,I⟩,⟨nO,I⟩,⟨nO,I⟩,rfl,rfl,rfl,⟨nO,rfl⟩,nO,I⟩<|W.cn<|J (noT rfl) fun _=>W.skip<|W.sq ?_
 by_cases h8:(0:Int)≤Message.task m∧Message.task m≤(39:Int)
 refine g 59 75 [BT,BT,BT,.call (V.b (decide (0≤m.task∧m.task≤39))) [[],[],[]],BT,BT,BF,BF,BF,BF,BF,BF,BF,BF,BF]<|J ⟨I,I,Zde,Zde,⟨rfl,UC,I,UU,UA,ac _ _ _⟩,Zde,rfl,I,⟨nO,I⟩,⟨nO,I⟩,⟨nO,I⟩,rfl,rfl,rfl,⟨nO,rfl⟩,nO,I⟩<|W.cn<|J (noT rfl) fun _=>W.skip<|W.sq ?_
 by_cases h9:(↑(ByteArray.size (Message.text m)):Int) = (8:Int)
 refine g 10 91 [BT,BT,BT,BT,BT,BF,BF,BF,BF,BF,BF,BF,BF,BF]<|J ⟨I,I,Zde,Zde,Zde,Zde,rfl,I,⟨nO,I⟩,⟨nO,I⟩,⟨nO,I⟩,rfl,rfl,rfl,⟨nO,rfl⟩,nO,I⟩<|W.cn<|J (noT rfl) fun _=>W.skip<|g 5 108 [BF,BF,BF,BF,BF,BF,BF,BT,BT,BT,BT,BF,BT,BF]<|J Zbg<|RT ?_
 rotate_left
 refine g 10 91 [BT,BT,BT,BT,BT,BT,BT,BT,BF,BF,BF,BT,BT]<|J ⟨I,I,Zde,Zde,Zde,Zde,rfl,I,af OM,af OM,af OM,I,I,I,af OM,af OM,I⟩<|W.cn<|J (fun _=>(g 7 9 []<|J UA (RT ?_))) (noF rfl)
 rotate_left
 refine g 59 75 [BT,BT,BT,.call (V.b (decide (0≤m.task∧m.task≤39))) [[],[],[]],BT,BT,BT,BT,BT,BF,BF,BF,BT,BT]<|J ⟨I,I,Zde,Zde,⟨rfl,UC,I,UU,UA,ac _ _ _⟩,Zde,rfl,I,af OM,af OM,af OM,I,I,I,af OM,af OM,I⟩<|W.cn<|J (fun _=>(g 3 4 []<|J UA (RT ?_))) (noF rfl)
 rotate_left
 refine g 43 59 [BT,BT,BT,.call (V.b (decide (1≤m.lease∧m.lease≤300000000))) [[],[],[]],BT,BT,BT,BT,BT,BF,BF,BF,BT,BT]<|J ⟨I,I,Zde,Zde,⟨rfl,UC,I,UU,UA,ac _ _ _⟩,Zde,rfl,I,af OM,af OM,af OM,I,I,I,af OM,af OM,I⟩<|W.cn<|J (fun _=>(g 3 4 []<|J UA (RT ?_))) (noF rfl)
 rotate_left
 refine g 26 43 [BF,BF,.call (V.b (decide (1≤m.frm∧m.frm≤8))) [[],[],[]],BF,BF,BT,BT,BT,BT,BT]<|J ⟨I,I,I,⟨nO,I⟩,⟨nO,UC,I,UU,UA,ac _ _ _⟩,⟨nO,I⟩,nO,I,af OM,af OM,af OM,af OM,af OM,I⟩<|W.cn<|J (fun _=>(g 8 9 []<|J UA (RT ?_))) (noF rfl)
 rotate_left
 refine g 26 43 [BT,BT,BT,BT,BT,BT,BT,BT,BT]<|J Zb2<|W.cn<|J (fun _=>(g 8 9 []<|J UA (RT ?_))) (noF rfl)
 rotate_left
 replace h3:=df h3
 refine g 16 18 []<|J UB<|W.cn<|J (fun h4=>?_) fun h4=>?_
 replace h4:=dt h4
 refine rg []<|J UB<|gd 11 26 [[],[],[],[],[],[]] ?_
 conv=>whnf
 refine J UF<|J KR<|W.sq<|g 0 0 []<|J UA<|W.cn<|J (fun _=>(rgd [[],[],[],[],[],[]] ?_)) (noF rfl)
 conv=>whnf
 refine⟨UF,by kernel_rfl,?_⟩
 refine W.sq ?_
 by_cases h5:Message.frm m = (0:Int)
 by_cases h6:(1:Int)≤Message.to m∧Message.to m≤(8:Int)
 refine g 26 43 [BF,BF,.call (V.b (decide (1≤m.to∧m.to≤8))) [[],[],[]],BF,BF,BF,BF,BF,.call (V.b (decide (1≤m.epoch∧m.epoch≤300))) [[],[],[]],BF,BF]<|J ⟨I,I,I,⟨nO,I⟩,⟨nO,UC,I,UU,UA,ac _ _ _⟩,⟨nO,I⟩,nO,I,⟨nO,I⟩,⟨nO,I⟩,⟨nO,UC,I,UU,UA,ac _ _ _⟩,⟨nO,I⟩,nO,I⟩<|W.cn<|J (fun h7=>?_) fun h7=>?_
 replace h7:=ndt h7
 refine g 8 9 []<|J UA<|RT ?_
 rotate_left
 replace h7:=ndf h7
 refine W.skip<|W.sq ?_
 by_cases h8:(1:Int)≤Message.lease m∧Message.lease m≤(300000000:Int)
 refine g 43 59 [BT,BT,BT,.call (V.b (decide (1≤m.lease∧m.lease≤300000000))) [[],[],[]],BT,BT,BF,BF,BF,BF,BF,BF,BF,BF,BF]<|J ⟨I,I,Zde,Zde,⟨rfl,UC,I,UU,UA,ac _ _ _⟩,Zde,rfl,I,⟨nO,I⟩,⟨nO,I⟩,⟨nO,I⟩,rfl,rfl,rfl,⟨nO,rfl⟩,nO,I⟩<|W.cn<|J (noT rfl) fun _=>W.skip<|W.sq<|g 59 75 [BF,BF,BF,BF,BF,BF,BF,BF,BT,BT,BT,BF,BT,BF]<|J Zas<|W.cn<|J (fun h9=>?_) fun h9=>?_
 replace h9:=ndt h9
 refine g 3 4 []<|J UA<|RT ?_
 rotate_left
 replace h9:=ndf h9
 refine W.skip<|W.sq<|g 10 91 [BF,BF,BF,BF,BF,BF,BF,BF,BT,BT,BT,BF,BT,BF]<|J Zas<|W.cn<|J (fun h10=>?_) fun h10=>?_
 replace h10:=ndt h10
 refine g 7 9 []<|J UA<|RT ?_
 rotate_left
 replace h10:=ndf h10
 refine W.skip<|g 5 108 [BF,BF,BF,BF,BF,BF,BF,BT,BT,BT,BT,BF,BT,BF]<|J Zbg<|RT ?_
 rotate_left
 refine g 43 59 [BT,BT,BT,.call (V.b (decide (1≤m.lease∧m.lease≤300000000))) [[],[],[]],BT,BT,BT,BT,BT,BF,BF,BF,BT,BT]<|J ⟨I,I,Zde,Zde,⟨rfl,UC,I,UU,UA,ac _ _ _⟩,Zde,rfl,I,af OM,af OM,af OM,I,I,I,af OM,af OM,I⟩<|W.cn<|J (fun _=>(g 3 4 []<|J UA (RT ?_))) (noF rfl)
 rotate_left
 refine g 26 43 [BF,BF,.call (V.b (decide (1≤m.to∧m.to≤8))) [[],[],[]],BF,BF,BT,BT,BT,BT,BT]<|J ⟨I,I,I,⟨nO,I⟩,⟨nO,UC,I,UU,UA,ac _ _ _⟩,⟨nO,I⟩,nO,I,af OM,af OM,af OM,af OM,af OM,I⟩<|W.cn<|J (fun _=>(g 8 9 []<|J UA (RT ?_))) (noF rfl)
 rotate_left
 refine g 26 43 [BT,BT,BT,BT,BT,BT,BT,BT,BT]<|J Zb2<|W.cn<|J (fun _=>(g 8 9 []<|J UA (RT ?_))) (noF rfl)
 rotate_left
 replace h4:=df h4
 refine g 11 20 []<|J UB<|W.cn<|J (fun h5=>?_) fun h5=>?_
 replace h5:=dt h5
 refine W.skip<|gd 20 26 [[],[],[],[],[],[]] ?_
 conv=>whnf
 refine J UF<|J KR<|W.sq<|g 0 0 []<|J UA<|W.cn<|J (noT rfl) fun _=>W.skip<|W.sq ?_
 by_cases h6:Message.to m = (0:Int)
 by_cases h7:(1:Int)≤Message.frm m∧Message.frm m≤(8:Int)
 refine g 26 43 [BF,BF,.call (V.b (decide (1≤m.frm∧m.frm≤8))) [[],[],[]],BF,BF,BF,BF,BF,.call (V.b (decide (1≤m.epoch∧m.epoch≤300))) [[],[],[]],BF,BF]<|J ⟨I,I,I,⟨nO,I⟩,⟨nO,UC,I,UU,UA,ac _ _ _⟩,⟨nO,I⟩,nO,I,⟨nO,I⟩,⟨nO,I⟩,⟨nO,UC,I,UU,UA,ac _ _ _⟩,⟨nO,I⟩,nO,I⟩<|W.cn<|J (fun h8=>?_) fun h8=>?_
 replace h8:=ndt h8
 refine g 8 9 []<|J UA<|RT ?_
 rotate_left
 replace h8:=ndf h8
 refine W.skip<|W.sq<|g 43 59 [BF,BF,BF,BF,BF,BF,BF,BF,BT,BT,BT,BF,BT,BF]<|J Zas<|W.cn<|J (fun h9=>?_) fun h9=>?_
 replace h9:=ndt h9
 refine g 3 4 []<|J UA<|RT ?_
 rotate_left
 replace h9:=ndf h9
 refine W.skip<|W.sq<|g 59 75 [BF,BF,BF,BF,BF,BF,BF,BF,BT,BT,BT,BF,BT,BF]<|J Zas<|W.cn<|J (fun h10=>?_) fun h10=>?_
 replace h10:=ndt h10
 refine g 3 4 []<|J UA<|RT ?_
 rotate_left
 replace h10:=ndf h10
 refine W.skip<|W.sq<|g 10 91 [BF,BF,BF,BF,BF,BF,BF,BF,BT,BT,BT,BF,BT,BF]<|J Zas<|W.cn<|J (fun h11=>?_) fun h11=>?_
 replace h11:=ndt h11
 refine g 7 9 []<|J UA<|RT ?_
 rotate_left
 replace h11:=ndf h11
 refine W.skip<|g 5 108 [BF,BF,BF,BF,BF,BF,BF,BT,BT,BT,BT,BF,BT,BF]<|J Zbg<|RT ?_
 rotate_left
 refine g 26 43 [BF,BF,.call (V.b (decide (1≤m.frm∧m.frm≤8))) [[],[],[]],BF,BF,BT,BT,BT,BT,BT]<|J ⟨I,I,I,⟨nO,I⟩,⟨nO,UC,I,UU,UA,ac _ _ _⟩,⟨nO,I⟩,nO,I,af OM,af OM,af OM,af OM,af OM,I⟩<|W.cn<|J (fun _=>(g 8 9 []<|J UA (RT ?_))) (noF rfl)
 rotate_left
 refine g 26 43 [BT,BT,BT,BT,BT,BT,BT,BT,BT]<|J Zb2<|W.cn<|J (fun _=>(g 8 9 []<|J UA (RT ?_))) (noF rfl)
 rotate_left
 replace h5:=df h5
 refine g 20 22 []<|J UA<|RT ?_
 rotate_left
 all_goals (try simp only[List.length_map,decide_eq_true_eq,Bool.not_eq_true,Bool.not_eq_true',decide_eq_false_iff_not]at *)
 all_goals first
  |exact vbf (by unfold bx;grind)
  |exact vbt (by unfold bx;grind)
  |exact vbd (by unfold bx;grind)
theorem tup5{a b c d e a' b' c' d' e':Bool}(h1:a = a')(h2:b = b')(h3:c = c')(h4:d = d')(h5:e = e'):V.tup [V.t (T.v (Value.bool a)),V.t (T.v (Value.bool b)),V.t (T.v (Value.bool c)),V.t (T.v (Value.bool d)),V.t (T.v (Value.bool e))] = V.tup [.b a',.b b',.b c',.b d',.b e']:=by subst h1;subst h2;subst h3;subst h4;subst h5;rfl
theorem zy(k:Int):F yJ [.val (.i k)] (.tup [.b (decide (1≤k∧k≤4)),.b (decide (k = 1∨k = 3)),.b (decide (k = 3)),.b (decide (k = 1)),.b (decide (k = 1∨k = 4))]) [[]]:=by
 refine zg ?_
 conv=>whnf
 refine g 0 0 []<|J UE<|W.sq<|g 0 1 []<|J UA<|W.blk<|g 9 10 []<|J UB<|W.cn<|J (fun h1=>?_) fun h1=>?_
 replace h1:=dt h1
 refine g 7 9 []<|J UE<|RT ?_
 rotate_left
 replace h1:=df h1
 refine g 8 9 []<|J UB<|W.cn<|J (fun h2=>?_) fun h2=>?_
 replace h2:=dt h2
 refine g 7 12 []<|J UE<|RT ?_
 rotate_left
 replace h2:=df h2
 refine g 10 12 []<|J UB<|W.cn<|J (fun h3=>?_) fun h3=>?_
 replace h3:=dt h3
 refine g 7 14 []<|J UE<|RT ?_
 rotate_left
 replace h3:=df h3
 refine g 7 14 []<|J UB<|W.cn<|J (fun h4=>?_) fun h4=>?_
 replace h4:=dt h4
 refine g 14 16 []<|J UE<|RT ?_
 rotate_left
 replace h4:=df h4
 refine W.skip<|g 14 16 []<|J UE<|RT ?_
 rotate_left
 all_goals exact tup5 (by grind) (by grind) (by grind) (by grind) (by grind)
end Go.K
end

/- Contracts of functions of the program: what each call answers. -/
import Derived.Test.YtoknlfldllmhpaaPartc
import Derived.Test.YtoknlfldllmhpaaProg
set_option maxHeartbeats 8000000
set_option maxRecDepth 20000
set_option linter.unusedVariables false
set_option linter.unusedSimpArgs false
section
open Go Go.Tm Go.Proofs
namespace Go.K
def E:Env:=(.node (.node (.node (.node (.node (.node (.node .nil 2 ⟨(.int .i64),[.t (.v (.int .i64 0))],8⟩ .nil) 3 ⟨(.int .i64),[.t (.v (.int .i64 0))],8⟩ .nil) 4 ⟨.bool,[.b false],1⟩ (.node .nil 5 ⟨(.int .u8),[.t (.v (.int .u8 0))],1⟩ .nil)) 6 ⟨(.int .u8),[.t (.v (.int .u8 0))],1⟩ (.node (.node (.node .nil 7 ⟨(.struct [(0,2),(1,3),(2,4),(3,6)]),[.t (.v (.int .i64 0)),.t (.v (.int .i64 0)),.b false,.t (.v (.int .u8 0))],24⟩ .nil) 9 ⟨.str,[.s ⟨#[]⟩],16⟩ .nil) 12 ⟨(.int .u64),[.t (.v (.int .u64 0))],8⟩ (.node .nil 13 ⟨(.struct [(0,9),(1,12)]),[.s ⟨#[]⟩,.t (.v (.int .u64 0))],24⟩ .nil))) 17 ⟨(.ptr 190),[.t (.v (.pointer none))],8⟩ (.node (.node (.node (.node .nil 18 ⟨(.struct [(0,17)]),[.t (.v (.pointer none))],8⟩ .nil) 19 ⟨(.struct [(0,17)]),[.t (.v (.pointer none))],8⟩ .nil) 21 ⟨(.int .i32),[.t (.v (.int .i32 0))],4⟩ (.node .nil 22 ⟨(.slice 5),[.own [false] []],24⟩ .nil)) 23 ⟨(.slice 9),[.own [false] []],24⟩ (.node (.node (.node .nil 24 ⟨(.struct [(0,23),(1,23)]),[.own [false] [],.own [false] []],48⟩ .nil) 25 ⟨(.struct [(0,23),(1,23)]),[.own [false] [],.own [false] []],48⟩ .nil) 26 ⟨(.slice 86),[.own [false,false,false] []],24⟩ (.node .nil 27 ⟨(.slice 79),[.own [false,false] []],24⟩ .nil)))) 28 ⟨(.slice 81),[.own [false,false,false] []],24⟩ (.node (.node (.node (.node (.node .nil 29 ⟨(.struct [(0,3),(1,4),(2,3),(3,3),(4,3),(5,3),(6,25),(8,23),(9,26),(10,27),(11,28)]),[.t (.v (.int .i64 0)),.b false,.t (.v (.int .i64 0)),.t (.v (.int .i64 0)),.t (.v (.int .i64 0)),.t (.v (.int .i64 0)),.own [false] [],.own [false] [],.own [false] [],.own [false,false,false] [],.own [false,false] [],.own [false,false,false] []],192⟩ .nil) 30 ⟨(.struct [(0,3),(1,4),(2,3),(3,3),(4,3),(5,3),(6,25),(8,23),(9,26),(10,27),(11,28)]),[.t (.v (.int .i64 0)),.b false,.t (.v (.int .i64 0)),.t (.v (.int .i64 0)),.t (.v (.int .i64 0)),.t (.v (.int .i64 0)),.own [false] [],.own [false] [],.own [false] [],.own [false,false,false] [],.own [false,false] [],.own [false,false,false] []],192⟩ .nil) 31 ⟨(.slice 70),[.own [false,false,true] []],24⟩ (.node .nil 32 ⟨(.struct [(0,31)]),[.own [false,false,true] []],24⟩ .nil)) 33 ⟨(.struct [(0,31)]),[.own [false,false,true] []],24⟩ (.node (.node (.node .nil 40 ⟨(.struct [(0,3),(1,3),(2,23)]),[.t (.v (.int .i64 0)),.t (.v (.int .i64 0)),.own [false] []],40⟩ .nil) 41 ⟨(.struct [(0,3),(1,3),(2,23)]),[.t (.v (.int .i64 0)),.t (.v (.int .i64 0)),.own [false] []],40⟩ .nil) 46 ⟨(.slice 101),[.own [false,false,false,false,false,false,false,false,true,false,false] []],24⟩ (.node .nil 47 ⟨(.slice 63),[.own [false,false,false] []],24⟩ .nil))) 48 ⟨(.struct [(0,33),(1,9),(2,30),(14,46),(15,47),(16,9)]),[.own [false,false,true] [],.s ⟨#[]⟩,.t (.v (.int .i64 0)),.b false,.t (.v (.int .i64 0)),.t (.v (.int .i64 0)),.t (.v (.int .i64 0)),.t (.v (.int .i64 0)),.own [false] [],.own [false] [],.own [false] [],.own [false,false,false] [],.own [false,false] [],.own [false,false,false] [],.own [false,false,false,false,false,false,false,false,true,false,false] [],.own [false,false,false] [],.s ⟨#[]⟩],296⟩ (.node (.node (.node (.node .nil 49 ⟨(.struct [(0,33),(1,9),(2,30),(14,46),(15,47),(16,9)]),[.own [false,false,true] [],.s ⟨#[]⟩,.t (.v (.int .i64 0)),.b false,.t (.v (.int .i64 0)),.t (.v (.int .i64 0)),.t (.v (.int .i64 0)),.t (.v (.int .i64 0)),.own [false] [],.own [false] [],.own [false] [],.own [false,false,false] [],.own [false,false] [],.own [false,false,false] [],.own [false,false,false,false,false,false,false,false,true,false,false] [],.own [false,false,false] [],.s ⟨#[]⟩],296⟩ .nil) 52 ⟨(.slice 57),[.own [false,false,false,false] []],24⟩ .nil) 54 ⟨(.slice 3),[.own [false] []],24⟩ (.node .nil 56 ⟨(.struct [(0,3),(1,3),(2,3),(3,3)]),[.t (.v (.int .i64 0)),.t (.v (.int .i64 0)),.t (.v (.int .i64 0)),.t (.v (.int .i64 0))],32⟩ .nil)) 57 ⟨(.struct [(0,3),(1,3),(2,3),(3,3)]),[.t (.v (.int .i64 0)),.t (.v (.int .i64 0)),.t (.v (.int .i64 0)),.t (.v (.int .i64 0))],32⟩ (.node (.node .nil 58 ⟨(.struct [(0,3),(1,3),(2,3),(3,3),(4,3),(5,3),(6,9),(7,23)]),[.t (.v (.int .i64 0)),.t (.v (.int .i64 0)),.t (.v (.int .i64 0)),.t (.v (.int .i64 0)),.t (.v (.int .i64 0)),.t (.v (.int .i64 0)),.s ⟨#[]⟩,.own [false] []],88⟩ .nil) 59 ⟨(.struct [(0,3),(1,3),(2,3),(3,3),(4,3),(5,3),(6,9),(7,23)]),[.t (.v (.int .i64 0)),.t (.v (.int .i64 0)),.t (.v (.int .i64 0)),.t (.v (.int .i64 0)),.t (.v (.int .i64 0)),.t (.v (.int .i64 0)),.s ⟨#[]⟩,.own [false] []],88⟩ (.node .nil 62 ⟨(.struct [(0,3),(1,9),(2,9)]),[.t (.v (.int .i64 0)),.s ⟨#[]⟩,.s ⟨#[]⟩],40⟩ .nil))))) 63 ⟨(.struct [(0,3),(1,9),(2,9)]),[.t (.v (.int .i64 0)),.s ⟨#[]⟩,.s ⟨#[]⟩],40⟩ (.node (.node (.node (.node (.node (.node .nil 69 ⟨(.struct [(0,9),(1,3),(2,54)]),[.s ⟨#[]⟩,.t (.v (.int .i64 0)),.own [false] []],48⟩ .nil) 70 ⟨(.struct [(0,9),(1,3),(2,54)]),[.s ⟨#[]⟩,.t (.v (.int .i64 0)),.own [false] []],48⟩ .nil) 71 ⟨(.ptr 114),[.t (.v (.pointer none))],8⟩ (.node .nil 78 ⟨(.struct [(0,4),(1,3)]),[.b false,.t (.v (.int .i64 0))],16⟩ .nil)) 79 ⟨(.struct [(0,4),(1,3)]),[.b false,.t (.v (.int .i64 0))],16⟩ (.node (.node (.node .nil 80 ⟨(.struct [(0,3),(1,3),(2,3)]),[.t (.v (.int .i64 0)),.t (.v (.int .i64 0)),.t (.v (.int .i64 0))],24⟩ .nil) 81 ⟨(.struct [(0,3),(1,3),(2,3)]),[.t (.v (.int .i64 0)),.t (.v (.int .i64 0)),.t (.v (.int .i64 0))],24⟩ .nil) 84 ⟨(.map 3 4),[.t (.v (.map none))],8⟩ (.node .nil 85 ⟨(.struct [(0,3),(1,3),(2,3)]),[.t (.v (.int .i64 0)),.t (.v (.int .i64 0)),.t (.v (.int .i64 0))],24⟩ .nil))) 86 ⟨(.struct [(0,3),(1,3),(2,3)]),[.t (.v (.int .i64 0)),.t (.v (.int .i64 0)),.t (.v (.int .i64 0))],24⟩ (.node (.node (.node (.node .nil 92 ⟨(.struct [(0,3),(1,3),(2,3),(3,9)]),[.t (.v (.int .i64 0)),.t (.v (.int .i64 0)),.t (.v (.int .i64 0)),.s ⟨#[]⟩],40⟩ .nil) 93 ⟨(.struct [(0,3),(1,3),(2,3),(3,9)]),[.t (.v (.int .i64 0)),.t (.v (.int .i64 0)),.t (.v (.int .i64 0)),.s ⟨#[]⟩],40⟩ .nil) 100 ⟨(.struct [(0,3),(1,3),(2,4),(3,3),(4,3),(5,3),(6,3),(7,3),(8,23),(9,9),(10,3)]),[.t (.v (.int .i64 0)),.t (.v (.int .i64 0)),.b false,.t (.v (.int .i64 0)),.t (.v (.int .i64 0)),.t (.v (.int .i64 0)),.t (.v (.int .i64 0)),.t (.v (.int .i64 0)),.own [false] [],.s ⟨#[]⟩,.t (.v (.int .i64 0))],112⟩ (.node .nil 101 ⟨(.struct [(0,3),(1,3),(2,4),(3,3),(4,3),(5,3),(6,3),(7,3),(8,23),(9,9),(10,3)]),[.t (.v (.int .i64 0)),.t (.v (.int .i64 0)),.b false,.t (.v (.int .i64 0)),.t (.v (.int .i64 0)),.t (.v (.int .i64 0)),.t (.v (.int .i64 0)),.t (.v (.int .i64 0)),.own [false] [],.s ⟨#[]⟩,.t (.v (.int .i64 0))],112⟩ .nil)) 111 ⟨(.int .u64),[.t (.v (.int .u64 0))],8⟩ (.node (.node .nil 113 ⟨(.struct [(0,22),(1,3)]),[.own [false] [],.t (.v (.int .i64 0))],32⟩ .nil) 114 ⟨(.struct [(0,22),(1,3)]),[.own [false] [],.t (.v (.int .i64 0))],32⟩ (.node .nil 117 ⟨(.map 9 4),[.t (.v (.map none))],8⟩ .nil)))) 119 ⟨(.ptr 30),[.t (.v (.pointer none))],8⟩ (.node (.node (.node (.node (.node .nil 127 ⟨(.ptr 49),[.t (.v (.pointer none))],8⟩ .nil) 131 ⟨(.ptr 101),[.t (.v (.pointer none))],8⟩ .nil) 137 ⟨(.slice 59),[.own [false,false,false,false,false,false,false,true] []],24⟩ (.node .nil 139 ⟨(.struct [(0,101),(11,137)]),[.t (.v (.int .i64 0)),.t (.v (.int .i64 0)),.b false,.t (.v (.int .i64 0)),.t (.v (.int .i64 0)),.t (.v (.int .i64 0)),.t (.v (.int .i64 0)),.t (.v (.int .i64 0)),.own [false] [],.s ⟨#[]⟩,.t (.v (.int .i64 0)),.own [false,false,false,false,false,false,false,true] []],136⟩ .nil)) 140 ⟨(.struct [(0,101),(11,137)]),[.t (.v (.int .i64 0)),.t (.v (.int .i64 0)),.b false,.t (.v (.int .i64 0)),.t (.v (.int .i64 0)),.t (.v (.int .i64 0)),.t (.v (.int .i64 0)),.t (.v (.int .i64 0)),.own [false] [],.s ⟨#[]⟩,.t (.v (.int .i64 0)),.own [false,false,false,false,false,false,false,true] []],136⟩ (.node (.node (.node .nil 146 ⟨(.int .u64),[.t (.v (.int .u64 0))],8⟩ .nil) 147 ⟨(.int .u64),[.t (.v (.int .u64 0))],8⟩ .nil) 159 ⟨(.ptr 79),[.t (.v (.pointer none))],8⟩ (.node .nil 161 ⟨(.ptr 147),[.t (.v (.pointer none))],8⟩ .nil))) 163 ⟨(.struct [(0,30),(12,137)]),[.t (.v (.int .i64 0)),.b false,.t (.v (.int .i64 0)),.t (.v (.int .i64 0)),.t (.v (.int .i64 0)),.t (.v (.int .i64 0)),.own [false] [],.own [false] [],.own [false] [],.own [false,false,false] [],.own [false,false] [],.own [false,false,false] [],.own [false,false,false,false,false,false,false,true] []],216⟩ (.node (.node (.node (.node .nil 164 ⟨(.struct [(0,30),(12,137)]),[.t (.v (.int .i64 0)),.b false,.t (.v (.int .i64 0)),.t (.v (.int .i64 0)),.t (.v (.int .i64 0)),.t (.v (.int .i64 0)),.own [false] [],.own [false] [],.own [false] [],.own [false,false,false] [],.own [false,false] [],.own [false,false,false] [],.own [false,false,false,false,false,false,false,true] []],216⟩ .nil) 176 ⟨(.struct [(0,17),(1,17),(2,17),(3,9)]),[.t (.v (.pointer none)),.t (.v (.pointer none)),.t (.v (.pointer none)),.s ⟨#[]⟩],40⟩ .nil) 182 ⟨(.int .u32),[.t (.v (.int .u32 0))],4⟩ (.node .nil 183 ⟨(.int .u8),[.t (.v (.int .u8 0))],1⟩ .nil)) 184 ⟨(.int .u8),[.t (.v (.int .u8 0))],1⟩ (.node (.node .nil 186 ⟨(.ptr 5),[.t (.v (.pointer none))],8⟩ .nil) 187 ⟨(.int .i32),[.t (.v (.int .i32 0))],4⟩ (.node .nil 188 ⟨(.int .i32),[.t (.v (.int .i32 0))],4⟩ .nil))))))
set_option maxRecDepth 10000 in
theorem Py:EnvOk Try.prog E:=by
 unfold E
 repeat (first|exact EnvOk.nil|refine EnvOk.node ?_ ⟨by kernel_rfl,by kernel_rfl,by simp,by simp[uJ,sc],by simp[Ty.agg],by simp,by simp,by simp⟩ ?_)
def md(f:FuncId):List Md:=(bif Nat.blt f 67 then(bif Nat.blt f 35 then(bif Nat.blt f 19 then(bif Nat.blt f 11 then(bif Nat.blt f 7 then(bif Nat.blt f 5 then(bif Nat.blt f 4 then [.v]else [.v,.v])else(bif Nat.blt f 6 then [.v,.v]else [.v]))else(bif Nat.blt f 9 then(bif Nat.blt f 8 then [.v,.v]else [.v,.v])else(bif Nat.blt f 10 then [.v,.v]else [.v,.v,.v])))else(bif Nat.blt f 15 then(bif Nat.blt f 13 then(bif Nat.blt f 12 then [.v,.v]else [.v,.v])else(bif Nat.blt f 14 then [.v,.v,.v]else [.v,.v]))else(bif Nat.blt f 17 then(bif Nat.blt f 16 then [.v,.v]else [.v,.v])else(bif Nat.blt f 18 then [.v]else [.v,.v,.v]))))else(bif Nat.blt f 27 then(bif Nat.blt f 23 then(bif Nat.blt f 21 then(bif Nat.blt f 20 then [.v]else [.v])else(bif Nat.blt f 22 then [.v,.v]else [.v,.v]))else(bif Nat.blt f 25 then(bif Nat.blt f 24 then [.v,.v,.v,.v]else [.v,.v])else(bif Nat.blt f 26 then [.v]else [.v])))else(bif Nat.blt f 31 then(bif Nat.blt f 29 then(bif Nat.blt f 28 then [.v,.v]else [.v])else(bif Nat.blt f 30 then [.p]else [.p,.v]))else(bif Nat.blt f 33 then(bif Nat.blt f 32 then [.v,.v,.v]else [.v])else(bif Nat.blt f 34 then [.v]else [.v,.v])))))else(bif Nat.blt f 51 then(bif Nat.blt f 43 then(bif Nat.blt f 39 then(bif Nat.blt f 37 then(bif Nat.blt f 36 then [.v]else [.v,.v,.v])else(bif Nat.blt f 38 then [.v]else [.v,.v]))else(bif Nat.blt f 41 then(bif Nat.blt f 40 then [.v]else [.p,.v])else(bif Nat.blt f 42 then [.p,.v]else [.v,.v])))else(bif Nat.blt f 47 then(bif Nat.blt f 45 then(bif Nat.blt f 44 then [.v]else [.v])else(bif Nat.blt f 46 then [.v]else [.v,.v,.v]))else(bif Nat.blt f 49 then(bif Nat.blt f 48 then [.p]else [.p,.mv])else(bif Nat.blt f 50 then [.v]else [.v]))))else(bif Nat.blt f 59 then(bif Nat.blt f 55 then(bif Nat.blt f 53 then(bif Nat.blt f 52 then [.p]else [.v])else(bif Nat.blt f 54 then [.v]else [.p,.v]))else(bif Nat.blt f 57 then(bif Nat.blt f 56 then [.v,.v]else [.p])else(bif Nat.blt f 58 then [.p,.v]else [.v])))else(bif Nat.blt f 63 then(bif Nat.blt f 61 then(bif Nat.blt f 60 then [.v,.v]else [.v,.v])else(bif Nat.blt f 62 then [.v]else [.p]))else(bif Nat.blt f 65 then(bif Nat.blt f 64 then [.p]else [.p,.mv])else(bif Nat.blt f 66 then [.v]else [.v]))))))else(bif Nat.blt f 99 then(bif Nat.blt f 83 then(bif Nat.blt f 75 then(bif Nat.blt f 71 then(bif Nat.blt f 69 then(bif Nat.blt f 68 then [.v]else [.v])else(bif Nat.blt f 70 then [.v]else [.v]))else(bif Nat.blt f 73 then(bif Nat.blt f 72 then [.v]else [.v])else(bif Nat.blt f 74 then [.v,.v]else [.v])))else(bif Nat.blt f 79 then(bif Nat.blt f 77 then(bif Nat.blt f 76 then [.v]else [.v])else(bif Nat.blt f 78 then [.v,.v]else [.v,.v]))else(bif Nat.blt f 81 then(bif Nat.blt f 80 then [.v,.v]else [.v,.v,.v,.v])else(bif Nat.blt f 82 then [.p,.v]else [.v]))))else(bif Nat.blt f 91 then(bif Nat.blt f 87 then(bif Nat.blt f 85 then(bif Nat.blt f 84 then [.v]else [.v])else(bif Nat.blt f 86 then [.v]else [.v]))else(bif Nat.blt f 89 then(bif Nat.blt f 88 then [.p,.v]else [.mv,.v])else(bif Nat.blt f 90 then [.v,.v,.v]else [.p,.v,.v])))else(bif Nat.blt f 95 then(bif Nat.blt f 93 then(bif Nat.blt f 92 then [.mv,.v,.v]else [.v])else(bif Nat.blt f 94 then [.p,.v]else [.v]))else(bif Nat.blt f 97 then(bif Nat.blt f 96 then [.v]else [.v])else(bif Nat.blt f 98 then [.v,.v,.v]else [.mv,.v])))))else(bif Nat.blt f 115 then(bif Nat.blt f 107 then(bif Nat.blt f 103 then(bif Nat.blt f 101 then(bif Nat.blt f 100 then [.mv,.v]else [.mv])else(bif Nat.blt f 102 then [.v]else [.p]))else(bif Nat.blt f 105 then(bif Nat.blt f 104 then [.v]else [.v,.v])else(bif Nat.blt f 106 then [.v]else [.v,.v])))else(bif Nat.blt f 111 then(bif Nat.blt f 109 then(bif Nat.blt f 108 then [.v,.v]else [.v,.v])else(bif Nat.blt f 110 then [.v,.v]else [.p,.v,.v,.r 0]))else(bif Nat.blt f 113 then(bif Nat.blt f 112 then [.v,.v]else [.v,.v])else(bif Nat.blt f 114 then [.v,.v,.v,.v]else [.v]))))else(bif Nat.blt f 123 then(bif Nat.blt f 119 then(bif Nat.blt f 117 then(bif Nat.blt f 116 then [.v]else [.v,.v])else(bif Nat.blt f 118 then [.v,.v]else [.v,.v,.v]))else(bif Nat.blt f 121 then(bif Nat.blt f 120 then [.v,.v,.v]else [.v,.v])else(bif Nat.blt f 122 then [.v,.v]else [.v,.v,.v])))else(bif Nat.blt f 127 then(bif Nat.blt f 125 then(bif Nat.blt f 124 then [.v]else [.v])else(bif Nat.blt f 126 then [.p]else [.v,.v]))else(bif Nat.blt f 129 then(bif Nat.blt f 128 then [.mv,.v]else [.mv,.v,.v])else(bif Nat.blt f 130 then [.mv,.v]else(bif Nat.blt f 131 then [.v,.v]else [.v]))))))))
def sq(t:TypeId):Bool:=Nat.beq t 79||Nat.beq t 81||Nat.beq t 86
theorem Q3:∀ t,sq t = true→SqOk Try.prog t:=by
 intro t h
 simp only[sq,Bool.or_eq_true,Nat.beq_eq]at h
 rcases h with(rfl|rfl)|rfl
 all_goals exact⟨by kernel_rfl,by kernel_rfl,by kernel_rfl,by kernel_rfl⟩
def F(f:FuncId)(xs:List A)(res:V)(outs:List (List V)):Prop:=Enters Try.prog f∧Tm.Fn Try.prog f xs res outs
def C:Cx:=⟨E,F,md,sq⟩
theorem Pz:CxOk Try.prog C:=⟨Py,Q3,fun _ _ _ _ h=>h⟩
variable {nt id:Nat} {ops:Array Oper} {y:Code} {H:HD} {Q:Exit→HD→Prop}
theorem g(lo hi:Nat)(ans:List Ans)(h:GZ C nt ops ops.toList ans H fun p H=>mo lo hi H fun H=>p∧W Try.prog nt y H Q):W Try.prog nt (.seq (.region id ops false) y) H Q:=W.sg Pz lo hi ans h
theorem rg(ans:List Ans)(h:GZ C nt ops ops.toList ans H fun p H=>p∧Q .normal H):W Try.prog nt (.region id ops false) H Q:=W.rg Pz ans h
theorem O8:Try.prog.follows .mixedOrders = true:=by kernel_rfl
theorem gd(lo hi:Nat)(ans:List (List Ans))(h:G3 C nt ops ops.toList ans H fun p r H=>mo lo hi H fun H=>p∧Hu ops.toList r = true∧W Try.prog nt y H Q):W Try.prog nt (.seq (.region id ops true) y) H Q:=W.sgD Pz O8 lo hi ans h
theorem rgd(ans:List (List Ans))(h:G3 C nt ops ops.toList ans H fun p r H=>p∧Hu ops.toList r = true∧Q .normal H):W Try.prog nt (.region id ops true) H Q:=W.rgD Pz O8 ans h
abbrev Q1(res:V)(outs:List (List V)):V→List (List V)→Prop:=fun r o=>r = res∧o = outs
def IT(i nt:Nat)(f:Func)(rs:List Rs):Prop:=∀ {xs:List A} {res:V} {outs:List (List V)} (hrun:jR (Jl nt xs) fun H=>W Try.prog nt (oS f) H (EndsW nt E rs xs (Q1 res outs))) (h:(GA xs && Nat.ble xs.length nt) = true:=by rfl),F i xs res outs
def XT(i nt:Nat)(f:Func)(rs:List Rs):Prop:=∀ {xs:List A} {R:V→List (List V)→Prop} (hrun:jR (Jl nt xs) fun H=>W Try.prog nt (oS f) H (EndsW nt E rs xs R)) (h:(GA xs && Nat.ble xs.length nt) = true:=by rfl),∃ res outs,R res outs∧F i xs res outs
theorem iM {i nt : Nat} {f : Func} {rs : List Rs} (hf : Try.prog.funcs[i]? = some f) (hb : f.body = some (oS f)) (hnt : f.ntmps = nt) (hrs : f.results = (rs.map kN).toArray) (h1 : (f.name == "runtime.NumGoroutine") = false ) (h2 : f.body.isNone = false) : IT i nt f rs := @fun _ _ _ hrun h => ⟨⟨f, hf, h1, h2⟩, Fn.one hf hb hnt Py hrs h hrun⟩
theorem xM {i nt : Nat} {f : Func} {rs : List Rs} (hf : Try.prog.funcs[i]? = some f) (hb : f.body = some (oS f)) (hnt : f.ntmps = nt) (hrs : f.results = (rs.map kN).toArray) (h1 : (f.name == "runtime.NumGoroutine") = false ) (h2 : f.body.isNone = false) : XT i nt f rs := @fun _ _ hrun h => by obtain ⟨r, o, q1, q2⟩ := Fn.any hf hb hnt Py hrs h hrun; exact ⟨r, o, q1, ⟨f, hf, h1, h2⟩, q2⟩
theorem RT{p q:Prop}(h:q)(f:Box q→p:=by
 intro h
 refine W.ret ?_
 refine EndsW.rt ?_
 conv=>whnf
 refine J (by repeat' first|exact I|refine J ?_ ?_) (J ?_ rfl)
 exact h.out):p:=f ⟨h⟩
abbrev fM:FuncId:=3
theorem fN:IT 3 158 Try.f3 [(2,4,false)]:=@iM _ _ _ _ Try.func3 rfl rfl rfl KR KR
abbrev dH:FuncId:=6
abbrev cJ:FuncId:=7
theorem ke:IT 7 219 Try.f7 [(4,4,false)]:=@iM _ _ _ _ Try.func7 rfl rfl rfl KR KR
abbrev ge:FuncId:=8
theorem kf:IT 8 281 Try.f8 [(4,4,false)]:=@iM _ _ _ _ Try.func8 rfl rfl rfl KR KR
abbrev hM:FuncId:=9
theorem bO:IT 9 155 Try.f9 [(4,4,false)]:=@iM _ _ _ _ Try.func9 rfl rfl rfl KR KR
abbrev dr:FuncId:=10
theorem lA:IT 10 17 Try.f10 [(6,30,true)]:=@iM _ _ _ _ Try.func10 rfl rfl rfl KR KR
abbrev eZ:FuncId:=11
theorem lz:IT 11 15 Try.f11 [(4,30,true)]:=@iM _ _ _ _ Try.func11 rfl rfl rfl KR KR
abbrev d9:FuncId:=12
theorem ly:IT 12 13 Try.f12 [(4,30,true)]:=@iM _ _ _ _ Try.func12 rfl rfl rfl KR KR
abbrev gN:FuncId:=13
theorem eb:IT 13 46 Try.f13 [(6,30,true)]:=@iM _ _ _ _ Try.func13 rfl rfl rfl KR KR
abbrev jJ:FuncId:=14
theorem jN:IT 14 92 Try.f14 [(4,41,true)]:=@iM _ _ _ _ Try.func14 rfl rfl rfl KR KR
abbrev le:FuncId:=15
theorem Ai:IT 15 26 Try.f15 [(4,4,false)]:=@iM _ _ _ _ Try.func15 rfl rfl rfl KR KR
abbrev jI:FuncId:=16
theorem jL:IT 16 102 Try.f16 [(4,41,true)]:=@iM _ _ _ _ Try.func16 rfl rfl rfl KR KR
abbrev rZ:FuncId:=19
theorem su:IT 19 120 Try.f19 [(2,3,false)]:=@iM _ _ _ _ Try.func19 rfl rfl rfl KR KR
abbrev oY:FuncId:=22
theorem fg:IT 22 81 Try.f22 [(4,59,true),(5,4,false)]:=@iM _ _ _ _ Try.func22 rfl rfl rfl KR KR
abbrev xH:FuncId:=28
theorem ya:IT 28 11 Try.f28 [(2,71,false)]:=@iM _ _ _ _ Try.func28 rfl rfl rfl KR KR
abbrev zZ:FuncId:=29
abbrev eI:FuncId:=30
abbrev BW:FuncId:=31
theorem Cd:IT 31 15 Try.f31 [(6,4,false)]:=@iM _ _ _ _ Try.func31 rfl rfl rfl KR KR
abbrev z4:FuncId:=32
theorem Af:IT 32 10 Try.f32 [(2,23,false)]:=@iM _ _ _ _ Try.func32 rfl rfl rfl KR KR
abbrev rW:FuncId:=33
theorem sm:IT 33 5 Try.f33 [(2,4,false)]:=@iM _ _ _ _ Try.func33 rfl rfl rfl KR KR
abbrev uc:FuncId:=34
theorem um:IT 34 96 Try.f34 [(4,4,false)]:=@iM _ _ _ _ Try.func34 rfl rfl rfl KR KR
abbrev r9:FuncId:=35
theorem sA:IT 35 91 Try.f35 [(2,3,false)]:=@iM _ _ _ _ Try.func35 rfl rfl rfl KR KR
abbrev xK:FuncId:=36
theorem yb:IT 36 15 Try.f36 [(6,4,false)]:=@iM _ _ _ _ Try.func36 rfl rfl rfl KR KR
abbrev nh:FuncId:=37
theorem nj:IT 37 11 Try.f37 [(2,23,false)]:=@iM _ _ _ _ Try.func37 rfl rfl rfl KR KR
abbrev z8:FuncId:=38
theorem Ak:IT 38 19 Try.f38 [(4,4,false)]:=@iM _ _ _ _ Try.func38 rfl rfl rfl KR KR
abbrev j9:FuncId:=39
theorem sB:IT 39 33 Try.f39 [(2,30,true)]:=@iM _ _ _ _ Try.func39 rfl rfl rfl KR KR
abbrev sf:FuncId:=40
theorem kg:IT 40 42 Try.f40 []:=@iM _ _ _ _ Try.func40 rfl rfl rfl KR KR
abbrev gf:FuncId:=41
theorem eK:IT 41 74 Try.f41 []:=@iM _ _ _ _ Try.func41 rfl rfl rfl KR KR
abbrev jC:FuncId:=42
theorem gu:IT 42 79 Try.f42 [(4,30,true)]:=@iM _ _ _ _ Try.func42 rfl rfl rfl KR KR
abbrev oi:FuncId:=43
theorem xW:IT 43 28 Try.f43 [(2,30,true)]:=@iM _ _ _ _ Try.func43 rfl rfl rfl KR KR
abbrev r6:FuncId:=44
theorem sw:IT 44 36 Try.f44 [(2,93,true),(3,4,false)]:=@iM _ _ _ _ Try.func44 rfl rfl rfl KR KR
abbrev rX:FuncId:=45
theorem sn:IT 45 32 Try.f45 [(2,93,true),(3,4,false)]:=@iM _ _ _ _ Try.func45 rfl rfl rfl KR KR
abbrev xB:FuncId:=46
theorem xX:IT 46 29 Try.f46 [(6,4,false)]:=@iM _ _ _ _ Try.func46 rfl rfl rfl KR KR
abbrev jH:FuncId:=47
abbrev ud:FuncId:=50
theorem uq:IT 50 28 Try.f50 [(2,4,false)]:=@iM _ _ _ _ Try.func50 rfl rfl rfl KR KR
abbrev iA:FuncId:=51
abbrev oZ:FuncId:=55
theorem fh:IT 55 23 Try.f55 [(4,9,false)]:=@iM _ _ _ _ Try.func55 rfl rfl rfl KR KR
abbrev oX:FuncId:=58
theorem pe:IT 58 129 Try.f58 [(2,4,false)]:=@iM _ _ _ _ Try.func58 rfl rfl rfl KR KR
abbrev qB:FuncId:=59
theorem Ah:IT 59 26 Try.f59 [(4,9,false)]:=@iM _ _ _ _ Try.func59 rfl rfl rfl KR KR
abbrev jE:FuncId:=62
abbrev gc:FuncId:=63
abbrev iB:FuncId:=64
abbrev z9:FuncId:=65
theorem Al:IT 65 28 Try.f65 [(2,4,false)]:=@iM _ _ _ _ Try.func65 rfl rfl rfl KR KR
abbrev Aa:FuncId:=66
theorem Am:IT 66 6 Try.f66 [(2,23,false)]:=@iM _ _ _ _ Try.func66 rfl rfl rfl KR KR
abbrev r8:FuncId:=67
theorem sz:IT 67 24 Try.f67 [(2,9,false)]:=@iM _ _ _ _ Try.func67 rfl rfl rfl KR KR
abbrev rY:FuncId:=68
theorem sr:IT 68 25 Try.f68 [(2,9,false)]:=@iM _ _ _ _ Try.func68 rfl rfl rfl KR KR
abbrev z0:FuncId:=69
theorem Ae:IT 69 12 Try.f69 [(2,25,true)]:=@iM _ _ _ _ Try.func69 rfl rfl rfl KR KR
abbrev pc:FuncId:=70
theorem ph:IT 70 31 Try.f70 [(2,4,false)]:=@iM _ _ _ _ Try.func70 rfl rfl rfl KR KR
abbrev qA:FuncId:=71
theorem qH:IT 71 26 Try.f71 [(2,9,false)]:=@iM _ _ _ _ Try.func71 rfl rfl rfl KR KR
abbrev xG:FuncId:=72
theorem x8:IT 72 34 Try.f72 [(2,33,true)]:=@iM _ _ _ _ Try.func72 rfl rfl rfl KR KR
abbrev BV:FuncId:=84
theorem Cc:IT 84 120 Try.f84 [(2,4,false)]:=@iM _ _ _ _ Try.func84 rfl rfl rfl KR KR
abbrev xF:FuncId:=85
theorem x7:IT 85 67 Try.f85 [(2,9,false)]:=@iM _ _ _ _ Try.func85 rfl rfl rfl KR KR
abbrev z5:FuncId:=86
theorem Ag:IT 86 35 Try.f86 [(2,9,false)]:=@iM _ _ _ _ Try.func86 rfl rfl rfl KR KR
abbrev pZ:FuncId:=92
theorem qi:IT 92 19 Try.f92 [(2,4,false)]:=@iM _ _ _ _ Try.func92 rfl rfl rfl KR KR
abbrev lv:FuncId:=96
theorem uo:IT 96 18 Try.f96 [(2,23,false)]:=@iM _ _ _ _ Try.func96 rfl rfl rfl KR KR
abbrev ue:FuncId:=97
theorem fb:IT 97 45 Try.f97 [(6,49,true)]:=@iM _ _ _ _ Try.func97 rfl rfl rfl KR KR
abbrev BS:FuncId:=98
theorem cG:IT 98 112 Try.f98 [(4,49,true)]:=@iM _ _ _ _ Try.func98 rfl rfl rfl KR KR
abbrev uP:FuncId:=99
theorem bG:IT 99 83 Try.f99 [(4,49,true)]:=@iM _ _ _ _ Try.func99 rfl rfl rfl KR KR
abbrev xw:FuncId:=100
theorem oy:IT 100 55 Try.f100 [(2,49,true)]:=@iM _ _ _ _ Try.func100 rfl rfl rfl KR KR
abbrev xy:FuncId:=101
theorem xT:IT 101 38 Try.f101 [(2,49,true)]:=@iM _ _ _ _ Try.func101 rfl rfl rfl KR KR
abbrev jF:FuncId:=102
abbrev BU:FuncId:=103
theorem Cb:IT 103 33 Try.f103 [(2,4,false)]:=@iM _ _ _ _ Try.func103 rfl rfl rfl KR KR
abbrev xE:FuncId:=105
theorem xZ:IT 105 16 Try.f105 [(2,4,false),(3,4,false),(4,4,false),(5,4,false),(6,4,false)]:=@iM _ _ _ _ Try.func105 rfl rfl rfl KR KR
abbrev xJ:FuncId:=111
theorem oC:IT 111 24 Try.f111 [(4,47,false)]:=@iM _ _ _ _ Try.func111 rfl rfl rfl KR KR
abbrev BZ:FuncId:=112
theorem Cf:IT 112 21 Try.f112 [(4,47,false)]:=@iM _ _ _ _ Try.func112 rfl rfl rfl KR KR
abbrev B0:FuncId:=113
theorem mQ:IT 113 60 Try.f113 [(8,47,false)]:=@iM _ _ _ _ Try.func113 rfl rfl rfl KR KR
abbrev qc:FuncId:=114
theorem qk:IT 114 12 Try.f114 [(2,101,true)]:=@iM _ _ _ _ Try.func114 rfl rfl rfl KR KR
abbrev qb:FuncId:=115
theorem jj:IT 115 25 Try.f115 [(2,101,true)]:=@iM _ _ _ _ Try.func115 rfl rfl rfl KR KR
abbrev uQ:FuncId:=116
theorem uS:IT 116 18 Try.f116 [(4,4,false)]:=@iM _ _ _ _ Try.func116 rfl rfl rfl KR KR
abbrev xI:FuncId:=117
theorem jM:IT 117 20 Try.f117 [(4,4,false)]:=@iM _ _ _ _ Try.func117 rfl rfl rfl KR KR
abbrev ug:FuncId:=118
theorem bI:IT 118 110 Try.f118 [(6,164,true)]:=@iM _ _ _ _ Try.func118 rfl rfl rfl KR KR
abbrev qa:FuncId:=119
theorem aM:IT 119 121 Try.f119 [(6,140,true)]:=@iM _ _ _ _ Try.func119 rfl rfl rfl KR KR
abbrev uf:FuncId:=120
theorem fc:IT 120 115 Try.f120 [(4,164,true)]:=@iM _ _ _ _ Try.func120 rfl rfl rfl KR KR
abbrev p9:FuncId:=121
theorem aL:IT 121 86 Try.f121 [(4,140,true)]:=@iM _ _ _ _ Try.func121 rfl rfl rfl KR KR
abbrev BX:FuncId:=122
theorem Ce:IT 122 43 Try.f122 [(6,47,false)]:=@iM _ _ _ _ Try.func122 rfl rfl rfl KR KR
abbrev xz:FuncId:=123
theorem xU:IT 123 6 Try.f123 [(2,47,false)]:=@iM _ _ _ _ Try.func123 rfl rfl rfl KR KR
abbrev xD:FuncId:=124
theorem xY:IT 124 9 Try.f124 [(2,101,true)]:=@iM _ _ _ _ Try.func124 rfl rfl rfl KR KR
abbrev uR:FuncId:=125
theorem uT:IT 125 7 Try.f125 [(2,9,false)]:=@iM _ _ _ _ Try.func125 rfl rfl rfl KR KR
abbrev om:FuncId:=126
theorem oB:IT 126 13 Try.f126 [(4,101,true)]:=@iM _ _ _ _ Try.func126 rfl rfl rfl KR KR
abbrev oh:FuncId:=127
theorem oA:IT 127 28 Try.f127 [(4,30,true),(5,4,false)]:=@iM _ _ _ _ Try.func127 rfl rfl rfl KR KR
abbrev lu:FuncId:=128
theorem bH:IT 128 140 Try.f128 [(6,30,true)]:=@iM _ _ _ _ Try.func128 rfl rfl rfl KR KR
abbrev jD:FuncId:=129
theorem xV:IT 129 138 Try.f129 [(4,164,true)]:=@iM _ _ _ _ Try.func129 rfl rfl rfl KR KR
abbrev xC:FuncId:=130
theorem jK:IT 130 26 Try.f130 [(4,59,true)]:=@iM _ _ _ _ Try.func130 rfl rfl rfl KR KR
abbrev og:FuncId:=131
theorem oz:IT 131 18 Try.f131 [(2,3,false)]:=@iM _ _ _ _ Try.func131 rfl rfl rfl KR KR
end Go.K
end
section
open Go Go.Tm Go.Proofs
namespace Go.K
structure Entry where
 kind:Int
 epoch:Int
 task:Int
 text:ByteArray
 deriving DecidableEq
abbrev kX(k ep ta:Int)(tx:ByteArray):V:=.agg [.t (.i k),.t (.i ep),.t (.i ta),.t (.s tx)]
abbrev Entry.v(e:Entry):V:=kX e.kind e.epoch e.task e.text
theorem af(x lo hi:Int):F xK [.val (.i x),.val (.i lo),.val (.i hi)] (.b (decide (lo≤x∧x≤hi))) [[],[],[]]:=by
 refine yb ?_
 conv=>whnf
 refine g 0 0 []<|J UA ?_
 by_cases h1:lo≤x
 refine g 7 15 [BT,BT,BT,BT]<|J Zcc<|RT ?_
 exact vbd OM
 refine g 7 15 [BF,BF,BF,BF]<|J Zc8<|RT ?_
 exact vbf OM
theorem ai(x lo hi:Int):F BW [.val (.i x),.val (.i lo),.val (.i hi)] (.b (decide (lo≤x∧x≤hi))) [[],[],[]]:=by
 refine Cd ?_
 conv=>whnf
 refine g 0 0 []<|J UA ?_
 by_cases h1:lo≤x
 refine g 7 15 [BT,BT,BT,BT]<|J Zcc<|RT ?_
 exact vbd OM
 refine g 7 15 [BF,BF,BF,BF]<|J Zc8<|RT ?_
 exact vbf OM
end Go.K
end
section
open Go Go.Tm Go.Proofs
namespace Go.K
def Entry.ok(e:Entry):Prop:=(1≤e.epoch∧e.epoch≤300)∧(0≤e.task∧e.task≤39)∧((e.kind = 1∧e.task = 0∧e.text = ⟨#[]⟩)∨(e.kind = 2∧(e.text.size:Int) = 8))
instance (e:Entry):Decidable e.ok:=by unfold Entry.ok;infer_instance
theorem iu(k ep ta:Int)(tx:ByteArray):F pc [.val (kX k ep ta tx)] (.b (decide (Entry.ok ⟨k,ep,ta,tx⟩))) [[]]:=by
 refine ph ?_
 conv=>whnf
 refine g 0 1 []<|J ⟨UD,I,I⟩<|W.sq ?_
 by_cases h1:(1:Int)≤ep∧ep≤(300:Int)
 refine g 5 12 [.call (V.b (decide (1≤ep∧ep≤300))) [[],[],[]],BF,BF,BF,.call (V.b (decide (0≤ta∧ta≤39))) [[],[],[]],BF,BF]<|J ⟨I,I,⟨UC,I,UU,UA,af _ _ _⟩,I,I,⟨nO,I⟩,⟨nO,I⟩,⟨nO,UC,I,UU,UA,af _ _ _⟩,⟨nO,I⟩,nO,I⟩<|W.cn<|J (fun h2=>?_) fun h2=>?_
 replace h2:=ndt h2
 refine g 12 13 []<|J UA<|RT ?_
 rotate_left
 replace h2:=ndf h2
 refine W.skip<|W.sq<|g 12 14 []<|J UB<|W.blk<|g 16 17 []<|J UB<|W.cn<|J (fun h3=>?_) fun h3=>?_
 replace h3:=dt h3
 by_cases h4:ta = (0:Int)
 refine g 14 25 [BT,BT,BT,BT]<|J Zcc<|RT ?_
 rotate_left
 refine g 14 25 [BF,BF,BF,BF]<|J Zc8<|RT ?_
 rotate_left
 replace h3:=df h3
 refine g 14 16 []<|J UB<|W.cn<|J (fun h4=>?_) fun h4=>?_
 replace h4:=dt h4
 refine g 25 31 []<|J UE<|RT ?_
 rotate_left
 replace h4:=df h4
 refine W.skip<|g 25 27 []<|J UA<|RT ?_
 rotate_left
 refine g 5 12 [.call (V.b (decide (1≤ep∧ep≤300))) [[],[],[]],BT,BT,BT,BT,BT]<|J ⟨I,I,⟨UC,I,UU,UA,af _ _ _⟩,I,I,ah OM,ah OM,ah OM,ah OM,ah OM,I⟩<|W.cn<|J (fun _=>(g 12 13 []<|J UA (RT ?_))) (noF rfl)
 rotate_left
 all_goals (first|exact vbt (by unfold Entry.ok;simp_all;done)|exact vbf (by unfold Entry.ok;simp_all;omega)|exact vbf (by unfold Entry.ok;simp_all)|exact vbd (by unfold Entry.ok;simp_all;done)|exact vbd (by unfold Entry.ok;simp_all;omega))
theorem Cs(k ep ta:Int)(tx:ByteArray):F BU [.val (kX k ep ta tx)] (.b (decide (Entry.ok ⟨k,ep,ta,tx⟩))) [[]]:=by
 refine Cb ?_
 conv=>whnf
 refine g 0 1 []<|J ⟨UD,I,I⟩<|W.sq ?_
 by_cases h1:(1:Int)≤ep∧ep≤(300:Int)
 refine g 5 12 [.call (V.b (decide (1≤ep∧ep≤300))) [[],[],[]],BF,BF,BF,.call (V.b (decide (0≤ta∧ta≤39))) [[],[],[]],BF,BF]<|J ⟨I,I,⟨UC,I,UU,UA,ai _ _ _⟩,I,I,⟨nO,I⟩,⟨nO,I⟩,⟨nO,UC,I,UU,UA,ai _ _ _⟩,⟨nO,I⟩,nO,I⟩<|W.cn<|J (fun h2=>?_) fun h2=>?_
 replace h2:=ndt h2
 refine g 12 13 []<|J UA<|RT ?_
 rotate_left
 replace h2:=ndf h2
 refine W.skip<|W.sq<|g 12 15 []<|J UC<|W.cn<|J (fun h3=>?_) fun h3=>?_
 replace h3:=dt h3
 by_cases h4:ta = (0:Int)
 refine g 15 24 [BT,BT,BT,BT]<|J Zcc<|RT ?_
 rotate_left
 refine g 15 24 [BF,BF,BF,BF]<|J Zc8<|RT ?_
 rotate_left
 replace h3:=df h3
 refine W.skip ?_
 by_cases h4:k = (2:Int)
 refine g 15 33 [BT,BT,BT,BT,BT]<|J ⟨I,I,I,I,⟨tO,I⟩,⟨tO,I⟩,⟨tO,I⟩,⟨tO,I⟩,tO,I,I⟩<|RT ?_
 rotate_left
 refine g 15 33 [BF,BF,BF,BF,BF]<|J ⟨I,I,I,I,dO,dO,dO,dO,dO,I,I⟩<|RT ?_
 rotate_left
 refine g 5 12 [.call (V.b (decide (1≤ep∧ep≤300))) [[],[],[]],BT,BT,BT,BT,BT]<|J ⟨I,I,⟨UC,I,UU,UA,ai _ _ _⟩,I,I,ah OM,ah OM,ah OM,ah OM,ah OM,I⟩<|W.cn<|J (fun _=>(g 12 13 []<|J UA (RT ?_))) (noF rfl)
 rotate_left
 all_goals (first|exact vbt (by unfold Entry.ok;simp_all;done)|exact vbf (by unfold Entry.ok;simp_all;omega)|exact vbf (by unfold Entry.ok;simp_all)|exact vbd (by unfold Entry.ok;simp_all;done)|exact vbd (by unfold Entry.ok;simp_all;omega))
abbrev emp:ByteArray:=⟨#[]⟩
def bl(l:List Int):ByteArray:=⟨(l.map fun n=>UInt8.ofNat n.toNat).toArray⟩
def E1(e:Entry):ByteArray:=if e.ok then bl [IntKind.u8.wrap e.kind,IntKind.u8.wrap (e.epoch.fdiv 256),IntKind.u8.wrap e.epoch,IntKind.u8.wrap e.task] ++e.text else emp
theorem kn(k ep ta:Int)(tx:ByteArray)(ht:tx.size≤281474976710656):F r8 [.val (kX k ep ta tx)] (.s (E1 ⟨k,ep,ta,tx⟩)) [[]]:=by
 refine sz ?_
 conv=>whnf
 refine g 0 0 []<|J ⟨UD,I,I⟩<|W.sq<|g 4 5 [.call (V.b (decide (Entry.ok {kind:=k,epoch:=ep,task:=ta,text:=tx:Entry}))) [[]]]<|J ⟨I,⟨UA,I,⟨UD,I⟩,UA,iu _ _ _ _⟩,I,I⟩<|W.cn<|J (fun h1=>?_) fun h1=>?_
 replace h1:=ndt h1
 refine g 5 6 []<|J UA<|RT ?_
 rotate_left
 replace h1:=ndf h1
 refine W.skip<|g 10 24 [.i (IntKind.wrap IntKind.u8 k),.i (Int.fdiv ep (2 ^ min (Int.toNat 8) (IntKind.bits IntKind.i64))),.i (IntKind.wrap IntKind.u8 (Int.fdiv ep (2 ^ min (Int.toNat 8) (IntKind.bits IntKind.i64)))),.i (IntKind.wrap IntKind.u8 ep),.i (IntKind.wrap IntKind.u8 ta),.s ({data:=List.toArray (bN [[T.v (Value.int IntKind.u8 (IntKind.wrap IntKind.u8 k))],[T.v (Value.int IntKind.u8 (IntKind.wrap IntKind.u8 (Int.fdiv ep (2 ^ min (Int.toNat 8) (IntKind.bits IntKind.i64)))))],[T.v (Value.int IntKind.u8 (IntKind.wrap IntKind.u8 ep))],[T.v (Value.int IntKind.u8 (IntKind.wrap IntKind.u8 ta))]]):ByteArray}),.s ({data:=List.toArray (bN [[T.v (Value.int IntKind.u8 (IntKind.wrap IntKind.u8 k))],[T.v (Value.int IntKind.u8 (IntKind.wrap IntKind.u8 (Int.fdiv ep (2 ^ min (Int.toNat 8) (IntKind.bits IntKind.i64)))))],[T.v (Value.int IntKind.u8 (IntKind.wrap IntKind.u8 ep))],[T.v (Value.int IntKind.u8 (IntKind.wrap IntKind.u8 ta))]]):ByteArray} ++tx)]<|J ⟨I,I,rfl,I,I,Zdu,rfl,I,I,rfl,I,I,rfl,Zc1,⟨I,(by repeat (first|exact kH|refine jc ?_)),rfl⟩,I,I,⟨rfl,(by simp only[bsz,ByteArray.size_append,qE];omega)⟩,I,I⟩ ?_
 refine RT ?_
 rotate_left
 ·refine vs ?_
  simp only[E1,h1,if_false]
 ·refine vs ?_
  simp only[E1,h1,if_true];rfl
def bB(e:Entry):ByteArray:=if e.ok then bl [IntKind.u8.wrap e.kind,IntKind.u8.wrap (IntKind.i64.wrap (e.epoch.tdiv 256)),IntKind.u8.wrap (e.epoch.tmod 256),IntKind.u8.wrap e.task] ++e.text else emp
theorem cK(k ep ta:Int)(tx:ByteArray)(ht:tx.size≤281474976710656):F rY [.val (kX k ep ta tx)] (.s (bB ⟨k,ep,ta,tx⟩)) [[]]:=by
 refine sr ?_
 conv=>whnf
 refine g 0 0 []<|J ⟨UD,I,I⟩<|W.sq<|g 4 5 [.call (V.b (decide (Entry.ok {kind:=k,epoch:=ep,task:=ta,text:=tx:Entry}))) [[]]]<|J ⟨I,⟨UA,I,⟨UD,I⟩,UA,Cs _ _ _ _⟩,I,I⟩<|W.cn<|J (fun h1=>?_) fun h1=>?_
 replace h1:=ndt h1
 refine g 5 6 []<|J UA<|RT ?_
 rotate_left
 replace h1:=ndf h1
 refine W.skip<|g 10 25 [.i (IntKind.wrap IntKind.u8 k),.i (IntKind.wrap IntKind.i64 (Int.tdiv ep 256)),.i (IntKind.wrap IntKind.u8 (IntKind.wrap IntKind.i64 (Int.tdiv ep 256))),.i (Int.tmod ep 256),.i (IntKind.wrap IntKind.u8 (Int.tmod ep 256)),.i (IntKind.wrap IntKind.u8 ta),.s ({data:=List.toArray (bN [[T.v (Value.int IntKind.u8 (IntKind.wrap IntKind.u8 k))],[T.v (Value.int IntKind.u8 (IntKind.wrap IntKind.u8 (IntKind.wrap IntKind.i64 (Int.tdiv ep 256))))],[T.v (Value.int IntKind.u8 (IntKind.wrap IntKind.u8 (Int.tmod ep 256)))],[T.v (Value.int IntKind.u8 (IntKind.wrap IntKind.u8 ta))]]):ByteArray}),.s ({data:=List.toArray (bN [[T.v (Value.int IntKind.u8 (IntKind.wrap IntKind.u8 k))],[T.v (Value.int IntKind.u8 (IntKind.wrap IntKind.u8 (IntKind.wrap IntKind.i64 (Int.tdiv ep 256))))],[T.v (Value.int IntKind.u8 (IntKind.wrap IntKind.u8 (Int.tmod ep 256)))],[T.v (Value.int IntKind.u8 (IntKind.wrap IntKind.u8 ta))]]):ByteArray} ++tx)]<|J ⟨I,I,rfl,I,I,Zdu,rfl,I,I,Zdu,rfl,I,I,rfl,Zc1,⟨I,(by repeat (first|exact kH|refine jc ?_)),rfl⟩,I,I,⟨rfl,(by simp only[bsz,ByteArray.size_append,qE];omega)⟩,I,I⟩ ?_
 refine RT ?_
 rotate_left
 ·refine vs ?_
  simp only[bB,h1,if_false]
 ·refine vs ?_
  simp only[bB,h1,if_true];rfl
def byt(s:ByteArray)(i:Nat):Int:=((s[i]?).map (fun b=>(b.toNat:Int))).getD 0
def AH(x y:Int):Int:=IntKind.i64.wrap ↑(BitVec.ofInt IntKind.i64.bits x|||BitVec.ofInt IntKind.i64.bits y).toNat
def rdI(s:ByteArray):Entry:=⟨byt s 0,AH (IntKind.i64.wrap (byt s 1 * 256)) (byt s 2),byt s 3,s.extract 4 s.size⟩
def rdS(s:ByteArray):Entry:=⟨byt s 0,byt s 1 * 256+byt s 2,byt s 3,s.extract 4 s.size⟩
abbrev noE:Entry:=⟨0,0,0,emp⟩
abbrev ku(o:Option Entry):V:=match o with|some e=>.tup [e.v,.b true]|none=>.tup [noE.v,.b false]
def pA(s:ByteArray):Option Entry:=if(s.size:Int) < 4∨12 < (s.size:Int)then none else if(rdI s).ok then some (rdI s)else none
def dD(s:ByteArray):Option Entry:=if(s.size:Int) < 4 then none else if bB (rdS s) = s then some (rdS s)else none
theorem br{s:ByteArray}{i:Nat}{c:UInt8}(h:s[i]? = some c):byt s i = (c.toNat:Int):=by simp[byt,h]
theorem sF(s:ByteArray)(ht:s.size≤281474976710656):F r6 [.val (.s s)] (ku (pA s)) [[]]:=by
 refine sw ?_
 conv=>whnf
 refine g 0 0 []<|J UB<|W.sq ?_
 by_cases h1:(↑(ByteArray.size s):Int) < (4:Int)
 refine g 5 12 [BT,BT,BT,BT]<|J ⟨I,I,I,I,tO,tO,tO,tO,I⟩<|W.cn<|J (fun _=>(g 12 14 []<|J ⟨I,UD,I,I⟩ (RT ?_))) (noF rfl)
 rotate_left
 refine g 5 12 [BF,BF,BF,BF]<|J ⟨I,I,I,I,⟨dO,I⟩,⟨dO,I⟩,⟨dO,I⟩,dO,I⟩<|W.cn<|J (fun h2=>?_) fun h2=>?_
 replace h2:=dt h2
 refine g 12 14 []<|J ⟨I,UD,I,I⟩<|RT ?_
 rotate_left
 replace h2:=df h2
 refine W.skip ?_
 obtain⟨y1,hy1,hb1⟩:=bg (s:=s) (n:=(0:Nat)) OM
 obtain⟨y2,hy2,hb2⟩:=bg (s:=s) (n:=(1:Nat)) OM
 obtain⟨y3,hy3,hb3⟩:=bg (s:=s) (n:=(2:Nat)) OM
 obtain⟨y4,hy4,hb4⟩:=bg (s:=s) (n:=(3:Nat)) OM
 refine gd 12 27 [[],[.i ((↑(UInt8.toNat y1):Int))],[.i ((↑(UInt8.toNat y1):Int))],[],[.i ((↑(UInt8.toNat y2):Int))],[.i ((↑(UInt8.toNat y2):Int))],[.i (IntKind.wrap IntKind.i64 ((↑(UInt8.toNat y2):Int) * 2 ^ min (Int.toNat 8) (IntKind.bits IntKind.i64)))],[],[.i ((↑(UInt8.toNat y3):Int))],[.i ((↑(UInt8.toNat y3):Int))],[.i (IntKind.wrap IntKind.i64 (↑(BitVec.toNat (BitVec.ofInt (IntKind.bits IntKind.i64) (IntKind.wrap IntKind.i64 ((↑(UInt8.toNat y2):Int) * 2 ^ min (Int.toNat 8) (IntKind.bits IntKind.i64)))|||BitVec.ofInt (IntKind.bits IntKind.i64) (↑(UInt8.toNat y3):Int))):Int))],[],[.i ((↑(UInt8.toNat y4):Int))],[.i ((↑(UInt8.toNat y4):Int))],[],[.n (4),.s (ByteArray.extract s 4 (ByteArray.size s))],[],[],[]] ?_
 conv=>whnf
 refine J ⟨I,Zc5,w8 _,I,Zc5,w8 _,Zdu,I,Zc5,w8 _,rfl,I,Zc5,w8 _,I,⟨I,rfl,OM,OM,rfl⟩,I,I,UD,I⟩<|J KR<|W.sq<|g 28 33 [.call (V.b (decide (Entry.ok {kind:=(↑(UInt8.toNat y1):Int),epoch:=IntKind.wrap IntKind.i64 (↑(BitVec.toNat (BitVec.ofInt (IntKind.bits IntKind.i64) (IntKind.wrap IntKind.i64 ((↑(UInt8.toNat y2):Int) * 2 ^ min (Int.toNat 8) (IntKind.bits IntKind.i64)))|||BitVec.ofInt (IntKind.bits IntKind.i64) (↑(UInt8.toNat y3):Int))):Int),task:=(↑(UInt8.toNat y4):Int),text:=ByteArray.extract s 4 (ByteArray.size s):Entry}))) [[]]]<|J ⟨I,⟨UA,I,⟨UD,I⟩,UA,iu _ _ _ _⟩,I,I⟩<|W.cn<|J (fun h3=>?_) fun h3=>?_
 replace h3:=ndt h3
 refine g 33 35 []<|J ⟨I,UD,I,I⟩<|RT ?_
 rotate_left
 replace h3:=ndf h3
 refine W.skip<|g 33 36 []<|J ⟨I,UD,I,I⟩<|RT ?_
 rotate_left
 ·exact congrArg ku (show none = pA s by unfold pA;rw[if_pos OM])
 ·exact congrArg ku (show none = pA s by unfold pA;rw[if_pos OM])
 ·have e:rdI s = ⟨y1.toNat,AH (IntKind.i64.wrap ((y2.toNat:Int) * 256)) y3.toNat,y4.toNat,s.extract 4 s.size⟩:=by simp only[rdI,br hy1,br hy2,br hy3,br hy4]
  exact congrArg ku (show none = pA s by unfold pA;rw[if_neg OM,e];exact(if_neg h3).symm)
 ·have e:rdI s = ⟨y1.toNat,AH (IntKind.i64.wrap ((y2.toNat:Int) * 256)) y3.toNat,y4.toNat,s.extract 4 s.size⟩:=by simp only[rdI,br hy1,br hy2,br hy3,br hy4]
  exact congrArg ku (show some _ = pA s by unfold pA;rw[if_neg OM,e];exact(if_pos h3).symm)
theorem sD(s:ByteArray)(ht:s.size≤281474976710656):F rX [.val (.s s)] (ku (dD s)) [[]]:=by
 refine sn ?_
 conv=>whnf
 refine g 0 0 []<|J UB<|W.sq<|g 5 7 []<|J UC<|W.cn<|J (fun h1=>?_) fun h1=>?_
 replace h1:=dt h1
 refine g 7 9 []<|J ⟨I,UD,I,I⟩<|RT ?_
 rotate_left
 replace h1:=df h1
 refine W.skip ?_
 obtain⟨y1,hy1,hb1⟩:=bg (s:=s) (n:=(0:Nat)) OM
 obtain⟨y2,hy2,hb2⟩:=bg (s:=s) (n:=(1:Nat)) OM
 obtain⟨y3,hy3,hb3⟩:=bg (s:=s) (n:=(2:Nat)) OM
 obtain⟨y4,hy4,hb4⟩:=bg (s:=s) (n:=(3:Nat)) OM
 refine gd 7 26 [[],[.i ((↑(UInt8.toNat y1):Int))],[.i ((↑(UInt8.toNat y1):Int))],[],[.i ((↑(UInt8.toNat y2):Int))],[.i ((↑(UInt8.toNat y2):Int))],[.i ((↑(UInt8.toNat y2):Int) * 256)],[],[.i ((↑(UInt8.toNat y3):Int))],[.i ((↑(UInt8.toNat y3):Int))],[.i ((↑(UInt8.toNat y2):Int) * 256+ (↑(UInt8.toNat y3):Int))],[],[.i ((↑(UInt8.toNat y4):Int))],[.i ((↑(UInt8.toNat y4):Int))],[],[.n (4),.s (ByteArray.extract s 4 (ByteArray.size s))],[],[],[]] ?_
 conv=>whnf
 refine J ⟨I,Zc5,w8 _,I,Zc5,w8 _,wO,I,Zc5,w8 _,wO,I,Zc5,w8 _,I,⟨I,rfl,OM,OM,rfl⟩,I,I,UD,I⟩<|J KR<|W.sq<|g 0 1 [.call (V.s (bB {kind:=(↑(UInt8.toNat y1):Int),epoch:=(↑(UInt8.toNat y2):Int) * 256+ (↑(UInt8.toNat y3):Int),task:=(↑(UInt8.toNat y4):Int),text:=ByteArray.extract s 4 (ByteArray.size s):Entry})) [[]]]<|J ⟨I,⟨UA,I,⟨UD,I⟩,UA,cK _ _ _ _ (by simp only[ByteArray.size_extract];omega)⟩,I,I,I⟩<|W.cn<|J (fun h2=>?_) fun h2=>?_
 replace h2:=ndt h2
 refine g 28 31 []<|J ⟨I,UD,I,I⟩<|RT ?_
 rotate_left
 replace h2:=ndf h2
 refine W.skip<|g 28 32 []<|J ⟨I,UD,I,I⟩<|RT ?_
 rotate_left
 ·exact congrArg ku (show none = dD s by unfold dD;rw[if_pos OM])
 ·have e:rdS s = ⟨y1.toNat,(y2.toNat:Int) * 256+y3.toNat,y4.toNat,s.extract 4 s.size⟩:=by simp only[rdS,br hy1,br hy2,br hy3,br hy4]
  exact congrArg ku (show none = dD s by unfold dD;rw[if_neg OM,e];exact(if_neg h2).symm)
 ·have e:rdS s = ⟨y1.toNat,(y2.toNat:Int) * 256+y3.toNat,y4.toNat,s.extract 4 s.size⟩:=by simp only[rdS,br hy1,br hy2,br hy3,br hy4]
  exact congrArg ku (show some _ = dD s by unfold dD;rw[if_neg OM,e];exact(if_pos h2).symm)
end Go.K
end
section
open Go Go.Tm Go.Proofs
namespace Go.K
theorem GQ(e:Entry):E1 e = bB e:=by
 unfold E1 bB
 by_cases h:e.ok
 ·simp only[h,if_true]
  obtain⟨⟨h1,h2⟩,_⟩:=h
  have e1:e.epoch.fdiv 256 = e.epoch / 256:=Int.fdiv_eq_ediv_of_nonneg _ OM
  have e2:e.epoch.tdiv 256 = e.epoch / 256:=Int.tdiv_eq_ediv_of_nonneg OM
  have e3:e.epoch.tmod 256 = e.epoch % 256:=Int.tmod_eq_emod_of_nonneg OM
  have e4:IntKind.u8.wrap e.epoch = e.epoch % 256:=by simp[IntKind.wrap,IntKind.bits,IntKind.signed]
  rw[e1,e2,e3,wO,e4,wu8 (z:=e.epoch % 256) OM OM]
 ·simp only[h,if_false]
end Go.K
namespace Go.K
end Go.K
end
section
open Go Go.Tm Go.Proofs
namespace Go.K
theorem sK{l:List UInt8}{i:Nat}{c:UInt8}(h:l[i]? = some c):byt ⟨⟨l⟩⟩ i = (c.toNat:Int):=by
 have:(ByteArray.mk ⟨l⟩)[i]? = l[i]?:=by
  show(if h:i < (ByteArray.mk ⟨l⟩).size then some ((ByteArray.mk ⟨l⟩)[i])else none) = _
  have hsz:(ByteArray.mk ⟨l⟩).size = l.length:=rfl
  by_cases hi:i < l.length
  ·rw[dif_pos (by rw[hsz];exact hi),List.getElem?_eq_getElem hi];rfl
  ·rw[dif_neg (by rw[hsz];exact hi),List.getElem?_eq_none OM]
 exact br (by rw[this];exact h)
theorem PF(s:ByteArray)(h:4≤s.size):bl [byt s 0,byt s 1,byt s 2,byt s 3] ++s.extract 4 s.size = s:=by
 obtain⟨⟨l⟩⟩:=s
 match l,h with
 |a :: b :: c :: d :: r,_ =>
  rw[sK (c:=a) rfl,sK (c:=b) rfl,sK (c:=c) rfl,sK (c:=d) rfl]
  apply ByteArray.ext
  rw[ByteArray.data_append,ByteArray.data_extract]
  apply Array.ext'
  simp[bl,ByteArray.size]
theorem C9(a b:Nat)(ha:a < 256)(hb:b < 256):AH (IntKind.i64.wrap ((a:Int) * 256)) b = (a:Int) * 256+b:=by
 rw[wO]
 unfold AH
 have e:((BitVec.ofInt IntKind.i64.bits ((a:Int) * 256))|||BitVec.ofInt IntKind.i64.bits (b:Int)).toNat = a * 256+b:=by
  have h1:BitVec.ofInt IntKind.i64.bits ((a:Int) * 256) = BitVec.ofNat IntKind.i64.bits (a * 256):=by
   rw[show((a:Int) * 256) = ((a * 256:Nat):Int) by simp];exact BitVec.ofInt_natCast ..
  have h2:BitVec.ofInt IntKind.i64.bits (b:Int) = BitVec.ofNat IntKind.i64.bits b:=BitVec.ofInt_natCast ..
  have hb64:IntKind.i64.bits = 64:=rfl
  rw[h1,h2,BitVec.toNat_or,BitVec.toNat_ofNat,BitVec.toNat_ofNat,hb64,Nat.mod_eq_of_lt OM,Nat.mod_eq_of_lt OM]
  have:=Nat.two_pow_add_eq_or_of_lt (i:=8) (b:=b) OM a
  rw[Nat.mul_comm]at this
  simpa using this.symm
 rw[e]
 rw[wO];simp
theorem dx(s:ByteArray)(i:Nat):∃ n:Nat,byt s i = n∧n < 256:=by
 unfold byt
 cases h:s[i]? with
 |none=>exact⟨0,rfl,by omega⟩
 |some c=>exact⟨c.toNat,rfl,UInt8.toNat_lt _⟩
theorem Q4(s:ByteArray):rdI s = rdS s:=by
 unfold rdI rdS
 obtain⟨a,ha,ha'⟩:=dx s 1
 obtain⟨b,hb,hb'⟩:=dx s 2
 rw[ha,hb,C9 a b ha' hb']
theorem Nt(s:ByteArray):pA s = dD s:=by
 unfold pA dD
 rw[Q4]
 by_cases h4:(s.size:Int) < 4
 ·rw[if_pos OM,if_pos h4]
 ·rw[if_neg h4]
  have hx:(s.extract 4 s.size).size = s.size - 4:=by rw[ByteArray.size_extract];omega
  by_cases hok:(rdS s).ok
  ·have hform:bB (rdS s) = s:=by
    unfold bB
    rw[if_pos hok]
    obtain⟨⟨h1,h2⟩,⟨h3,h4'⟩,h5⟩:=hok
    obtain⟨a,ha,ha'⟩:=dx s 1
    obtain⟨b,hb,hb'⟩:=dx s 2
    have hk:IntKind.u8.wrap (rdS s).kind = byt s 0:=by
     obtain⟨c,hc,hc'⟩:=dx s 0
     show IntKind.u8.wrap (byt s 0) = _
     rw[wu8 OM OM]
    have ht:IntKind.u8.wrap (rdS s).task = byt s 3:=by
     obtain⟨c,hc,hc'⟩:=dx s 3
     show IntKind.u8.wrap (byt s 3) = _
     rw[wu8 OM OM]
    have he:(rdS s).epoch = (a:Int) * 256+b:=by show byt s 1 * 256+byt s 2 = _;rw[ha,hb]
    have e1:IntKind.u8.wrap (IntKind.i64.wrap ((rdS s).epoch.tdiv 256)) = byt s 1:=by
     rw[he,Int.tdiv_eq_ediv_of_nonneg OM,wO,wu8 OM OM,ha];omega
    have e2:IntKind.u8.wrap ((rdS s).epoch.tmod 256) = byt s 2:=by
     rw[he,Int.tmod_eq_emod_of_nonneg OM,wu8 OM OM,hb];omega
    rw[hk,ht,e1,e2]
    exact PF s OM
   have hsz:¬((s.size:Int) < 4∨12 < (s.size:Int)):=by
    obtain⟨_,_,h5⟩:=hok
    have hr:(rdS s).text = s.extract 4 s.size:=rfl
    rcases h5 with⟨_,_,h6⟩|⟨_,h6⟩
    ·rw[hr]at h6
     have:=congrArg ByteArray.size h6
     rw[hx]at this
     have h0:(ByteArray.mk #[]).size = 0:=rfl
     omega
    ·rw[hr,hx]at h6;omega
   rw[if_neg hsz,if_pos hok,if_pos hform]
  ·have hform:bB (rdS s)≠s:=by
    unfold bB
    rw[if_neg hok]
    intro e
    have:=congrArg ByteArray.size e
    have h0:emp.size = 0:=rfl
    omega
   rw[if_neg hform,if_neg hok]
   simp
end Go.K
end
section
open Go Go.Tm Go.Proofs
namespace Go.K
abbrev aq(s:ByteArray):List T:=[.s s]
abbrev n7(xs:List ByteArray):T:=.slc [false] (xs.map aq)
end Go.K
end
section
open Go Go.Tm Go.Proofs
namespace Go.K
abbrev u8v(n:Int):V:=.t (.v (.int .u64 n))
def fnv(v:Int)(c:UInt8):Int:=IntKind.u64.wrap (IntKind.u64.wrap (BitVec.ofInt IntKind.u64.bits v ^^^ BitVec.ofInt IntKind.u64.bits (c.toNat:Int)).toNat * 1099511628211)
def lG(v:Int)(s:ByteArray)(n:Nat):Int:=(s.data.toList.take n).foldl fnv v
theorem PW{s:ByteArray}{n:Nat}{c:UInt8}(h:s[n]? = some c):s.data.toList[n]? = some c:=by
 by_cases hn:n < s.size
 ·rw[getElem?_pos s n hn]at h
  have hd:n < s.data.toList.length:=by simpa using hn
  rw[List.getElem?_eq_getElem hd]
  rw[←h];simp;rfl
 ·rw[getElem?_neg s n hn]at h;cases h
theorem zw{v:Int}{s:ByteArray}{n:Nat}{c:UInt8}(h:s[n]? = some c):lG v s (n+1) = fnv (lG v s n) c:=by
 unfold lG
 rw[List.take_add_one,PW h,List.foldl_append];rfl
theorem PP(v:Int)(c:UInt8):0≤fnv v c∧fnv v c≤18446744073709551615:=PC _
theorem v4:∀ (l:List UInt8) (v:Int),0≤v∧v≤18446744073709551615→0≤l.foldl fnv v∧l.foldl fnv v≤18446744073709551615
 |[],_,h=>h
 |c :: l,v,_=>v4 l (fnv v c) (PP v c)
def beL(v:Int):Nat→List Int
 |0=>[]
 |n+1=>(v / 256 ^ n % 256) :: beL v n
abbrev b1T(n:Int):List T:=[.v (.int .u8 n)]
theorem oU(v:Int):∀ n,(beL v n).length = n
 |0=>rfl
 |n+1=>by simp[beL,oU v n]
theorem rM(l:List Int):(⟨(bN (l.map b1T)).toArray⟩:ByteArray) = bl l:=by
 simp[bN,bl,b1T,Function.comp_def]
theorem JS{v:Int}{n:Nat}(h0:0≤v):[b1T (IntKind.u8.wrap ((v / 256 ^ n).tmod 256))] ++ (beL v n).map b1T = (beL v (n+1)).map b1T:=by
 have h1:0≤v / 256 ^ n:=Int.ediv_nonneg h0 (Int.le_of_lt (Int.pow_pos (by decide)))
 rw[Int.tmod_eq_emod_of_nonneg h1]
 have h2:IntKind.u8.wrap (v / 256 ^ n % 256) = v / 256 ^ n % 256:=wu8 OM OM
 rw[h2];rfl
theorem Nm{v:Int}{n:Nat}(h0:0≤v)(h2:v≤18446744073709551615):IntKind.u64.wrap ((v / 256 ^ n).tdiv 256) = v / 256 ^ (n+1):=by
 have h1:0≤v / 256 ^ n:=Int.ediv_nonneg h0 (Int.le_of_lt (Int.pow_pos (by decide)))
 have h3:v / 256 ^ n≤v:=Int.ediv_le_self _ h0
 rw[Int.tdiv_eq_ediv_of_nonneg h1,wu64 OM OM,Int.ediv_ediv_of_nonneg (Int.le_of_lt (Int.pow_pos (by decide))),Int.pow_succ]
def h0v:Int:=14695981039346656037
theorem lf(tx:ByteArray)(ht:tx.size≤9223372036854775807):F z5 [.val (.s tx)] (.s (bl (beL (lG h0v tx tx.size) 8))) [[]]:=by
 refine Ag ?_
 conv=>whnf
 refine g 0 0 []<|J UA<|g 0 0 []<|J UA<|W.sq<|g 0 0 []<|J UA<|W.blk<|W.lp (fun s (n:Nat)=>⟨[(0,s.s 0),(2,s.s 2),(3,u8v (lG h0v tx n)),(4,.i n)],[],[]⟩) (fun(n:Nat)=>n≤tx.size) (fun(n:Nat)=>tx.size - n) (0) [] [] ⟨rfl,Zcd,I,I⟩ OM ?_
 intro n hn
 conv=>whnf
 refine W.sq<|g 7 9 []<|J UD<|W.cn<|J (fun h1=>?_) fun h1=>?_
 replace h1:=dt h1
 refine W.skip<|W.sq<|W.blk ?_
 obtain⟨y1,hy1,hb1⟩:=bg (s:=tx) (n:=n) OM
 refine rg [.i ((↑(UInt8.toNat y1):Int)),.i ((↑(UInt8.toNat y1):Int)),.i (IntKind.wrap IntKind.u64 (↑(BitVec.toNat (BitVec.ofInt (IntKind.bits IntKind.u64) (lG h0v tx n) ^^^ BitVec.ofInt (IntKind.bits IntKind.u64) (↑(UInt8.toNat y1):Int))):Int)),.i (IntKind.wrap IntKind.u64 (IntKind.wrap IntKind.u64 (↑(BitVec.toNat (BitVec.ofInt (IntKind.bits IntKind.u64) (lG h0v tx n) ^^^ BitVec.ofInt (IntKind.bits IntKind.u64) (↑(UInt8.toNat y1):Int))):Int) * 1099511628211))]<|J ⟨I,I,I,Zc5,w8u _,rfl,rfl,I,I⟩<|rg [.i ((n:Int) +1)]<|J Zdg ?_
 rotate_left
 replace h1:=df h1
 refine W.exit<|g 10 21 []<|J UB<|W.sq<|g 4 5 []<|J UA<|W.blk ?_
 rotate_left
 ·refine⟨n+1,[],[],⟨rfl,⟨rfl,rfl,(congrArg (fun z=>V.t (T.v (Value.int _ z))) (zw AS).symm),rfl,I⟩,I,I⟩,?_,?_⟩
  rotate_left
  (dsimp only;omega)
  dsimp only
  omega
 have e:n = tx.size:=by omega
 subst e
 have hb:0≤lG h0v tx tx.size∧lG h0v tx tx.size≤18446744073709551615:=v4 _ _ (by unfold h0v;omega)
 generalize lG h0v tx tx.size = v at hb ⊢
 obtain⟨hb0,hb1⟩:=hb
 refine W.lp (fun s (n:Nat)=>⟨[(0,s.s 0),(2,s.s 2),(3,u8v (v / 256 ^ n)),(5,.ref ⟨5,none,0⟩),(6,.i n),(9,s.s 9)],[(5,[.own [false] ((beL v n).map b1T)])],[]⟩) (fun(n:Nat)=>n≤8) (fun(n:Nat)=>8 - n) (0) [some 20] [] ⟨rfl,⟨rfl,rfl,(congrArg (fun z=>V.t (T.v (Value.int _ z))) OM),rfl,rfl,rfl,I⟩,Zdv,I⟩ OM ?_
 intro n hn2
 have hx:=oU v n
 conv=>whnf
 refine W.sq<|g 21 22 []<|J UB<|W.cn<|J (fun h2=>?_) fun h2=>?_
 replace h2:=dt h2
 refine W.skip<|W.sq<|W.blk<|g 22 31 [.i (Int.tmod (v / 256 ^ n) 256),.i (IntKind.wrap IntKind.u8 (Int.tmod (v / 256 ^ n) 256))]<|J ⟨I,Zdu,rfl,US,I,Zdh,I,I⟩<|rg [.i (IntKind.wrap IntKind.u64 (Int.tdiv (v / 256 ^ n) 256))]<|J ⟨I,Zdu,I,I⟩<|rg [.i ((n:Int) +1)]<|J Zdg ?_
 rotate_left
 replace h2:=df h2
 refine W.exit<|g 3 7 [.s ({data:=List.toArray (bN (List.map b1T (beL v n))):ByteArray})]<|J ⟨I,⟨I,IH,rfl⟩,I,I⟩<|RT ?_
 rotate_left
 ·refine⟨n+1,[some 30],[],⟨rfl,⟨rfl,rfl,(congrArg (fun z=>V.t (T.v (Value.int _ z))) (Nm hb0 hb1)),rfl,rfl,rfl,I⟩,⟨⟨rfl,⟨(congrArg (V.own _) (JS hb0)),I⟩⟩,I⟩,I⟩,?_,?_⟩
  rotate_left
  (dsimp only;omega)
  dsimp only
  omega
 ·rw[show n = 8 from by omega]
  exact vs (rM _)
def oK(nm:ByteArray)(xs:List ByteArray)(n:Nat):ByteArray:=(xs.take n).foldl (fun a s=>a++ (⟨#[0]⟩ ++s)) nm
theorem zI{nm:ByteArray}{xs:List ByteArray}{n:Nat}{x:ByteArray}(h:xs[n]? = some x):oK nm xs (n+1) = oK nm xs n++ (⟨#[0]⟩ ++x):=by
 unfold oK;rw[List.take_add_one,h,List.foldl_append];rfl
theorem zu:∀ (l:List ByteArray) (nm:ByteArray),((l.foldl (fun a s=>a++ (⟨#[0]⟩ ++s)) nm).size:Int) = nm.size+fp l+l.length
 |[],nm=>by simp[fp]
 |s :: l,nm=>by
  rw[List.foldl_cons,zu l]
  have:(⟨#[0]⟩:ByteArray).size = 1:=rfl
  simp only[ByteArray.size_append,fp,List.length_cons,this];omega
theorem Iv(nm:ByteArray)(xs:List ByteArray)(n:Nat)(h:n≤xs.length):((oK nm xs n).size:Int) = nm.size+fp (xs.take n) +n:=by
 unfold oK;rw[zu,List.length_take,Nat.min_eq_left h]
theorem KJ{nm:ByteArray}{xs:List ByteArray}{n:Nat}{x:ByteArray}(h:xs[n]? = some x):bT (oK nm xs n) ++ [[.v (.int .u8 0)]] ++bT x = bT (oK nm xs (n+1)):=by
 rw[zI h,lQ,lQ,List.append_assoc];rfl
def fy(v:Int)(s:ByteArray):Int:=s.data.toList.foldl fnv v
theorem fZ(v:Int)(s:ByteArray):lG v s s.size = fy v s:=by
 unfold lG fy;rw[List.take_of_length_le (by simp)]
def bm(nm:ByteArray)(xs:List ByteArray):ByteArray:=bl (beL (fy h0v (oK nm xs xs.length)) 8)
theorem ib(nm:ByteArray)(xs:List ByteArray)(hn:nm.size≤1048576)(hl:xs.length≤1048576)(ht:fp xs≤1048576)(hs:∀ s∈xs,s.size≤1048576):F qB [.val (.s nm),.val (.t (n7 xs))] (.s (bm nm xs)) [[],[]]:=by
 refine Ah ?_
 conv=>whnf
 refine g 0 0 []<|J UA<|g 7 9 []<|J ⟨I,OM,I,I⟩<|W.sq<|g 0 0 []<|J UA<|W.blk<|W.lp (fun s (n:Nat)=>⟨[(0,s.s 0),(1,s.s 1),(4,s.s 4),(5,.ref ⟨5,none,0⟩),(6,.i n)],[(5,[.own [false] (bT (oK nm xs n))])],[]⟩) (fun(n:Nat)=>n≤xs.length) (fun(n:Nat)=>xs.length - n) (0) [some 8] [] ⟨rfl,Zbc,Zdv,I⟩ OM ?_
 intro n hn
 have hc:=Iv nm xs n OM
 have hb:=fz (oK nm xs n)
 have hle:=Nh xs n
 conv=>whnf
 refine W.sq<|g 10 12 []<|J UD<|W.cn<|J (fun h1=>?_) fun h1=>?_
 replace h1:=dt h1
 simp only[LM]at h1
 refine W.skip<|W.sq<|W.blk ?_
 obtain⟨y1,hy1⟩:=ak (xs:=xs) (n:=n) OM
 have hm1:=hs y1 (List.mem_of_getElem? hy1)
 refine rgd [[],[],[],[],[],[.x (aq y1)],[],[],[]] ?_
 conv=>whnf
 refine J ⟨I,US,Zdh,I,I,Zdk,I,Zdh,I,I⟩<|J KR<|rg [.i ((n:Int) +1)]<|J Zdg ?_
 rotate_left
 replace h1:=df h1
 simp only[LM]at h1
 refine W.exit<|g 12 26 [.s (oK nm xs n),.call (V.s (bl (beL (lG h0v (oK nm xs n) (ByteArray.size (oK nm xs n))) 8))) [[]]]<|J ⟨I,⟨I,ii _,(iD _).symm⟩,⟨UA,I,US,UA,lf _ OM⟩,I,I⟩<|RT ?_
 rotate_left
 ·refine⟨n+1,[some 22],[],⟨rfl,Zbc,⟨⟨rfl,⟨(congrArg (V.own _) (KJ AS)),I⟩⟩,I⟩,I⟩,?_,?_⟩
  rotate_left
  (dsimp only;omega)
  dsimp only
  omega
 ·exact vs (by rw[fZ,show n = xs.length from by omega];rfl)
end Go.K
end
section
open Go Go.Tm Go.Proofs
namespace Go.K
theorem FU{α β:Type}{f:α→β}{p:α→Prop}:∀ {xs:List β},(∀ y∈xs,∃ s,y = f s∧p s)→∃ ys:List α,xs = ys.map f∧∀ s∈ys,p s
 |[],_=>⟨[],rfl,fun _ h=>by cases h⟩
 |y :: xs,h=>by
  obtain⟨s,rfl,hp⟩:=h y (.head _)
  obtain⟨ys,rfl,hq⟩:=FU fun z hz=>h z (.tail _ hz)
  exact⟨s :: ys,rfl,fun z hz=>by rcases List.mem_cons.1 hz with rfl|hz;exact hp;exact hq z hz⟩
end Go.K
end
section
open Go Go.Tm Go.Proofs
namespace Go.K
structure Parcel where
 kind:Int
 frm:ByteArray
 text:ByteArray
 deriving DecidableEq
abbrev parV(k:Int)(a b:ByteArray):V:=.agg [.t (.i k),.t (.s a),.t (.s b)]
abbrev bZ(p:Parcel):List T:=[.i p.kind,.s p.frm,.s p.text]
abbrev pkd:List Bool:=[false,false,false]
abbrev zg(xs:List Parcel):T:=.slc pkd (xs.map bZ)
abbrev noP:Parcel:=⟨0,emp,emp⟩
theorem gh(l:List Int):(bl l).size = l.length:=by simp[bl,bsa]
theorem bx(xs:List Parcel)(k:Int)(hl:xs.length≤9223372036854775806):F uQ [.val (.t (zg xs)),.val (.i k)] (.b (decide (xs.length≤2000∧0≤k∧k < xs.length))) [[],[]]:=by
 refine uS ?_
 conv=>whnf
 refine g 0 0 []<|J UA ?_
 by_cases h1:(↑(List.length (List.map bZ xs)):Int)≤(2000:Int)
 simp only[LM]at h1
 by_cases h2:(0:Int)≤k
 refine g 5 18 [BT,BT,BT,BT,BT,BT,BT,BT]<|J ⟨I,I,I,I,⟨SI,I⟩,⟨SI,I⟩,SI,I,⟨tO,I⟩,⟨tO,I⟩,⟨tO,I⟩,⟨tO,I⟩,tO,I,I⟩<|RT ?_
 rotate_left
 refine g 5 18 [BT,BT,BT,BF,BF,BF,BF,BF]<|J ⟨I,I,I,I,⟨SI,I⟩,⟨SI,I⟩,SI,I,dO,dO,dO,dO,dO,I,I⟩<|RT ?_
 exact vbf OM
 simp only[LM]at h1
 refine g 5 18 [BF,BF,BF,BF,BF,BF,BF,BF]<|J ⟨I,I,I,I,SI,SI,SI,I,rfl,rfl,rfl,rfl,rfl,I,I⟩<|RT ?_
 exact vbf OM
 exact vbd (by simp only[List.length_map];omega)
theorem de(xs:List Parcel)(hl:xs.length≤1048576):F xz [.val (.t (zg xs))] (.own pkd (xs.map bZ)) [[]]:=by
 refine xU ?_
 conv=>whnf
 refine g 0 0 []<|J UA<|g 3 6 []<|J ⟨I,I,Zdh,I,I⟩<|RT ?_
 rfl
def cB(xs:List Parcel)(k:Int):List Parcel:=if xs.length≤2000∧0≤k∧k < xs.length then xs.take k.toNat++xs.drop (k.toNat+1)else xs
theorem GE{xs:List Parcel}{k:Int}(h:¬(xs.length≤2000∧0≤k∧k < xs.length)):cB xs k = xs:=if_neg h
theorem Dk{xs:List Parcel}{k:Int}(h:xs.length≤2000∧0≤k∧k < xs.length):List.drop 0 (List.take k.toNat (xs.map bZ)) ++List.drop (k+1).toNat (List.take (xs.map bZ).length (xs.map bZ)) = (cB xs k).map bZ:=by
 unfold cB
 rw[if_pos h,List.drop_zero,List.take_length,show(k+1).toNat = k.toNat+1 from by omega,List.map_append,List.map_take,List.map_drop]
theorem tX(xs:List Parcel)(k:Int)(hl:xs.length≤1048576):F BZ [.val (.t (zg xs)),.val (.i k)] (.own pkd ((cB xs k).map bZ)) [[],[]]:=by
 refine Cf ?_
 conv=>whnf
 refine g 0 0 []<|J UA<|W.sq<|g 5 8 [.call (V.b (decide (xs.length≤2000∧0≤k∧k < (↑xs.length:Int)))) [[],[]]]<|J ⟨I,I,⟨UB,I,UT,UA,bx _ _ OM⟩,I,I⟩<|W.cn<|J (fun h1=>?_) fun h1=>?_
 replace h1:=ndt h1
 refine g 8 11 [.call (V.own pkd (List.map bZ xs)) [[]]]<|J ⟨I,⟨UA,I,US,UA,de _ OM⟩,I,I⟩<|RT ?_
 rotate_left
 replace h1:=ndf h1
 refine W.skip<|gd 8 21 [[],[],[],[.n (Int.toNat k)],[],[],[],[.i (k+1)],[.n (Int.toNat (k+1))],[],[]] ?_
 conv=>whnf
 refine J ⟨I,I,I,⟨I,OM,I,OM,LN⟩,Zdh,I,I,wO,⟨I,I,OM,LN,OM⟩,Zdh,I,I⟩<|J KR<|RT ?_
 rotate_left
 ·rw[GE h1]
 ·exact congrArg (V.own pkd) (Dk h1)
end Go.K
end
section
open Go Go.Tm Go.Proofs
namespace Go.K
abbrev im(n:Int):List T:=[.i n]
structure Task where
 name:ByteArray
 cost:Int
 deps:List Int
 deriving DecidableEq
abbrev aD(x:Task):List T:=[.s x.name,.i x.cost,.slc [false] (x.deps.map im)]
abbrev eF:List Bool:=[false,false,true]
def Lg(x:Task):Prop:=x.name.size≤9223372036854775807∧x.deps.length≤9223372036854775807
structure Worker where
 number:Int
 epoch:Int
 up:Bool
 state:Int
 lease:Int
 task:Int
 cost:Int
 left:Int
 inputs:List ByteArray
 text:ByteArray
 since:Int
 deriving DecidableEq
abbrev aF(x:Worker):List T:=[.i x.number,.i x.epoch,.b x.up,.i x.state,.i x.lease,.i x.task,.i x.cost,.i x.left,.slc [false] (x.inputs.map aq),.s x.text,.i x.since]
abbrev eC(x:Worker):V:=.agg [.t (.i x.number),.t (.i x.epoch),.t (.b x.up),.t (.i x.state),.t (.i x.lease),.t (.i x.task),.t (.i x.cost),.t (.i x.left),.t (.slc [false] (x.inputs.map aq)),.t (.s x.text),.t (.i x.since)]
abbrev aE(x:Worker):V:=.agg [.t (.i x.number),.t (.i x.epoch),.t (.b x.up),.t (.i x.state),.t (.i x.lease),.t (.i x.task),.t (.i x.cost),.t (.i x.left),.own [false] (x.inputs.map aq),.t (.s x.text),.t (.i x.since)]
abbrev gQ:List Bool:=[false,false,false,false,false,false,false,false,true,false,false]
abbrev kT:Worker:=⟨0,0,false,0,0,0,0,0,[],emp,0⟩
structure Plan where
 tasks:List Task
 deriving DecidableEq
abbrev bn(x:Plan):V:=.agg [.t (.slc eF (x.tasks.map aD))]
abbrev db(x:Plan):V:=.agg [.own eF (x.tasks.map aD)]
def cR(x:Plan):Prop:=x.tasks.length≤9223372036854775807∧(∀ y∈x.tasks,Lg y)
end Go.K
end
section
open Go Go.Tm Go.Proofs
namespace Go.K
def dV(xs:List ByteArray):Prop:=(∀ s∈xs,s.size = 8)∧xs.length≤8
instance (xs:List ByteArray):Decidable (dV xs):=by unfold dV;infer_instance
theorem zE{xs:List ByteArray}{n:Nat}{y:ByteArray}(hy:xs[n]? = some y)(h:¬(y.size:Int) = 8):¬dV xs:=fun e=>h (by have:=e.1 y (List.mem_of_getElem? hy);omega)
theorem rQ{α:Type}{p:α→Prop}{xs:List α}{n:Nat}{y:α}(h:∀ s∈xs.take n,p s)(hy:xs[n]? = some y)(hp:p y):∀ s∈xs.take (n+1),p s:=fun s hs=>by
 rw[List.take_add_one,hy]at hs
 rcases List.mem_append.1 hs with hs|hs
 ·exact h s hs
 ·simp at hs;subst hs;exact hp
theorem rR{α:Type}{p:α→Prop}{xs:List α}{n:Nat}(h:∀ s∈xs.take n,p s)(hn:xs.length≤n):∀ s∈xs,p s:=by rwa [bc hn]at h
theorem eh(xs:List ByteArray)(hl:xs.length≤9223372036854775806):F pZ [.val (.t (n7 xs))] (.b (decide (dV xs))) [[]]:=by
 refine qi ?_
 conv=>whnf
 refine g 0 0 []<|J UA<|W.sq<|g 0 0 []<|J UA<|W.blk<|W.lp (fun s (n:Nat)=>⟨[(0,s.s 0),(3,.i n)],[],[]⟩) (fun(n:Nat)=>n≤xs.length∧∀ s∈xs.take n,s.size = 8) (fun(n:Nat)=>xs.length - n) (0) [] [] Zc9 (by simp) ?_
 rintro n ⟨hn,hc⟩
 conv=>whnf
 refine W.sq<|g 5 7 []<|J UD<|W.cn<|J (fun h1=>?_) fun h1=>?_
 replace h1:=dt h1
 simp only[LM]at h1
 refine W.skip<|W.sq<|W.blk ?_
 obtain⟨y1,hy1⟩:=ak (xs:=xs) (n:=n) OM
 refine g 7 15 [.x (aq y1)]<|J ⟨I,I,Zdk,I,I,I,I⟩<|W.cn<|J (fun h2=>?_) fun h2=>?_
 replace h2:=ndt h2
 refine g 15 16 []<|J UA<|RT ?_
 rotate_left
 replace h2:=ndf h2
 refine W.skip<|rg [.i ((n:Int) +1)]<|J Zdg ?_
 rotate_left
 replace h1:=df h1
 simp only[LM]at h1
 refine W.exit<|g 7 19 []<|J UD<|RT ?_
 rotate_left
 ·exact vbf (zE hy1 AS)
 ·refine⟨n+1,[],[],Zc9,?_,?_⟩
  rotate_left
  (dsimp only;omega)
  dsimp only
  exact⟨by omega,rQ hc hy1 OM⟩
 ·exact vbd ⟨fun e=>⟨rR hc OM,by simp only[LM]at e;omega⟩,fun e=>by have:=e.2;simp only[List.length_map];omega⟩
theorem aA(n:Int):F rW [.val (.i n)] (.b (decide (1≤n∧n≤300000000))) [[]]:=by
 refine sm ?_
 conv=>whnf
 refine g 0 0 []<|J UA<|g 0 1 [.call (V.b (decide (1≤n∧n≤300000000))) [[],[],[]]]<|J ⟨I,⟨UC,I,UU,UA,ai _ _ _⟩,I,I⟩<|RT ?_
 rfl
end Go.K
end
section
open Go Go.Tm Go.Proofs Classical
namespace Go.K
def kR(s:ByteArray):Prop:=(∀ (n:Nat) (c:UInt8),s[n]? = some c→33≤c.toNat∧c.toNat≤126)∧1≤s.size∧s.size≤30
theorem ry{s:ByteArray}{n:Nat}{c:UInt8}(h:s[n]? = some c)(hc:¬(33≤(c.toNat:Int)∧(c.toNat:Int)≤126)):¬kR s:=fun e=>hc (by have:=e.1 n c h;omega)
theorem vH{s:ByteArray}{n:Nat}{c:UInt8}(hn:∀ (m:Nat) (c:UInt8),m < n→s[m]? = some c→33≤c.toNat∧c.toNat≤126)(h:s[n]? = some c)(hc:33≤(c.toNat:Int)∧(c.toNat:Int)≤126):∀ (m:Nat) (c:UInt8),m < n+1→s[m]? = some c→33≤c.toNat∧c.toNat≤126:=fun m d hm hd=>by
 by_cases e:m = n
 ·subst e;rw[h]at hd;cases hd;omega
 ·exact hn m d OM hd
theorem AZ{s:ByteArray}{n:Nat}{c:UInt8}(h:s[n]? = some c):n < s.size:=by
 by_cases hn:n < s.size
 ·exact hn
 ·rw[getElem?_neg s n hn]at h;cases h
theorem qP(s:ByteArray)(hs:s.size≤9223372036854775807):F z9 [.val (.s s)] (.b (decide (kR s))) [[]]:=by
 refine Al ?_
 conv=>whnf
 refine g 0 0 []<|J UA<|W.sq<|g 0 0 []<|J UA<|W.blk<|W.lp (fun s (n:Nat)=>⟨[(0,s.s 0),(3,.i n)],[],[]⟩) (fun(n:Nat)=>n≤s.size∧∀ (m:Nat) (c:UInt8),m < n→s[m]? = some c→33≤c.toNat∧c.toNat≤126) (fun(n:Nat)=>s.size - n) (0) [] [] Zc9 (by simp) ?_
 rintro n ⟨hn,hc⟩
 conv=>whnf
 refine W.sq<|g 5 7 []<|J UD<|W.cn<|J (fun h1=>?_) fun h1=>?_
 replace h1:=dt h1
 refine W.skip<|W.sq<|W.blk ?_
 obtain⟨y1,hy1,hb1⟩:=bg (s:=s) (n:=n) OM
 by_cases h2:(↑(UInt8.toNat y1):Int) < (33:Int)
 refine g 7 19 [.i ((↑(UInt8.toNat y1):Int)),BT,BT,BT,BT,BT]<|J ⟨I,I,Zc5,I,I,tO,tO,tO,tO,tO,I⟩<|W.cn<|J (fun _=>(g 19 20 []<|J UA (RT ?_))) (noF rfl)
 rotate_left
 refine g 7 19 [.i ((↑(UInt8.toNat y1):Int)),BF,BF,BF,.i ((↑(UInt8.toNat y1):Int)),BF,BF]<|J ⟨I,I,Zc5,I,I,⟨dO,I⟩,⟨dO,I⟩,⟨dO,OM,ixb AS⟩,⟨dO,I⟩,dO,I⟩<|W.cn<|J (fun h3=>?_) fun h3=>?_
 replace h3:=dt h3
 refine g 19 20 []<|J UA<|RT ?_
 rotate_left
 replace h3:=df h3
 refine W.skip<|rg [.i ((n:Int) +1)]<|J Zdg ?_
 rotate_left
 replace h1:=df h1
 refine W.exit ?_
 by_cases h2:(1:Int)≤(↑(ByteArray.size s):Int)
 refine g 7 28 [BT,BT,BT,BT]<|J Zcc<|RT ?_
 rotate_left
 refine g 7 28 [BF,BF,BF,BF]<|J Zc8<|RT ?_
 rotate_left
 ·exact vbf (ry hy1 OM)
 ·exact vbf (ry hy1 OM)
 ·refine⟨n+1,[],[],Zc9,?_,?_⟩
  rotate_left
  (dsimp only;omega)
  dsimp only
  exact⟨by omega,vH hc hy1 OM⟩
 ·exact vbd ⟨fun e=>⟨fun m c h=>hc m c (by have:=AZ h;omega) h,by omega,by omega⟩,fun e=>by have:=e.2;omega⟩
 ·exact vbf (fun e=>by have:=e.2;omega)
theorem uw(s:ByteArray)(hs:s.size≤9223372036854775807):F ud [.val (.s s)] (.b (decide (kR s))) [[]]:=by
 refine uq ?_
 conv=>whnf
 refine g 0 0 []<|J UA<|W.sq<|g 0 0 []<|J UA<|W.blk<|W.lp (fun s (n:Nat)=>⟨[(0,s.s 0),(3,.i n)],[],[]⟩) (fun(n:Nat)=>n≤s.size∧∀ (m:Nat) (c:UInt8),m < n→s[m]? = some c→33≤c.toNat∧c.toNat≤126) (fun(n:Nat)=>s.size - n) (0) [] [] Zc9 (by simp) ?_
 rintro n ⟨hn,hc⟩
 conv=>whnf
 refine W.sq<|g 5 7 []<|J UD<|W.cn<|J (fun h1=>?_) fun h1=>?_
 replace h1:=dt h1
 refine W.skip<|W.sq<|W.blk ?_
 obtain⟨y1,hy1,hb1⟩:=bg (s:=s) (n:=n) OM
 by_cases h2:(↑(UInt8.toNat y1):Int) < (33:Int)
 refine g 7 19 [.i ((↑(UInt8.toNat y1):Int)),BT,BT,BT,BT,BT]<|J ⟨I,I,Zc5,I,I,tO,tO,tO,tO,tO,I⟩<|W.cn<|J (fun _=>(g 19 20 []<|J UA (RT ?_))) (noF rfl)
 rotate_left
 refine g 7 19 [.i ((↑(UInt8.toNat y1):Int)),BF,BF,BF,.i ((↑(UInt8.toNat y1):Int)),BF,BF]<|J ⟨I,I,Zc5,I,I,⟨dO,I⟩,⟨dO,I⟩,⟨dO,OM,ixb AS⟩,⟨dO,I⟩,dO,I⟩<|W.cn<|J (fun h3=>?_) fun h3=>?_
 replace h3:=dt h3
 refine g 19 20 []<|J UA<|RT ?_
 rotate_left
 replace h3:=df h3
 refine W.skip<|rg [.i ((n:Int) +1)]<|J Zdg ?_
 rotate_left
 replace h1:=df h1
 refine W.exit ?_
 by_cases h2:(1:Int)≤(↑(ByteArray.size s):Int)
 refine g 7 28 [BT,BT,BT,BT]<|J Zcc<|RT ?_
 rotate_left
 refine g 7 28 [BF,BF,BF,BF]<|J Zc8<|RT ?_
 rotate_left
 ·exact vbf (ry hy1 OM)
 ·exact vbf (ry hy1 OM)
 ·refine⟨n+1,[],[],Zc9,?_,?_⟩
  rotate_left
  (dsimp only;omega)
  dsimp only
  exact⟨by omega,vH hc hy1 OM⟩
 ·exact vbd ⟨fun e=>⟨fun m c h=>hc m c (by have:=AZ h;omega) h,by omega,by omega⟩,fun e=>by have:=e.2;omega⟩
 ·exact vbf (fun e=>by have:=e.2;omega)
end Go.K
end
section
open Go Go.Tm Go.Proofs Classical
namespace Go.K
def AL(xs:List Task)(n:Nat):Prop:=∀ (m:Nat) (t:Task),m < n→xs[m]? = some t→kR t.name∧t.name ∉ (xs.take m).map Task.name
def gb(xs:List Task):Prop:=AL xs xs.length
def gW(xs:List Task):Prop:=∀ t∈xs,1≤t.cost∧t.cost≤20
def Ds(last hi:Int):List Int→Prop
 |[]=>True
 |d :: ds=>(last < d∧d < hi)∧Ds d hi ds
def Pn(hi:Int)(d:List Int):Prop:=d.length≤8∧Ds (-1) hi d
def F8(xs:List Task)(n:Nat):Prop:=∀ (m:Nat) (t:Task),m < n→xs[m]? = some t→Pn m t.deps
def qZ(xs:List Task):Prop:=F8 xs xs.length
noncomputable def am(xs:List Task):Int :=
 if ¬(1≤xs.length∧xs.length≤40)then 1 else if ¬gb xs then 2 else if ¬gW xs then 3 else if ¬qZ xs then 4 else 0
theorem N5{xs:List Task}(h:¬(1≤xs.length∧xs.length≤40)):am xs = 1:=by unfold am;rw[if_pos h]
theorem N4{xs:List Task}(h:1≤xs.length∧xs.length≤40)(h2:¬gb xs):am xs = 2:=by unfold am;rw[if_neg (not_not_intro h),if_pos h2]
theorem N3{xs:List Task}(h:1≤xs.length∧xs.length≤40)(h2:gb xs)(h3:¬gW xs):am xs = 3:=by unfold am;rw[if_neg (not_not_intro h),if_neg (not_not_intro h2),if_pos h3]
theorem Hv{xs:List Task}(h:1≤xs.length∧xs.length≤40)(h2:gb xs)(h3:gW xs)(h4:¬qZ xs):am xs = 4:=by unfold am;rw[if_neg (not_not_intro h),if_neg (not_not_intro h2),if_neg (not_not_intro h3),if_pos h4]
theorem RP{xs:List Task}(h:1≤xs.length∧xs.length≤40)(h2:gb xs)(h3:gW xs)(h4:qZ xs):am xs = 0:=by unfold am;rw[if_neg (not_not_intro h),if_neg (not_not_intro h2),if_neg (not_not_intro h3),if_neg (not_not_intro h4)]
theorem rA{xs:List Task}{n:Nat}{t:Task}(ht:xs[n]? = some t)(h:¬(kR t.name∧t.name ∉ (xs.take n).map Task.name)):¬gb xs:=fun e=>h (e n t (List.getElem?_eq_some_iff.1 ht).1 ht)
theorem vd{P:Nat→Task→Prop}{xs:List Task}{n:Nat}{t:Task}(h:∀ (m:Nat) (t:Task),m < n→xs[m]? = some t→P m t)(ht:xs[n]? = some t)(hp:P n t):∀ (m:Nat) (t:Task),m < n+1→xs[m]? = some t→P m t:=fun m d hm hd=>by
 by_cases e:m = n
 ·subst e;rw[ht]at hd;cases hd;exact hp
 ·exact h m d OM hd
theorem A6{P:Nat→Task→Prop}{xs:List Task}{n:Nat}(h:∀ (m:Nat) (t:Task),m < n→xs[m]? = some t→P m t)(hn:xs.length≤n):∀ (m:Nat) (t:Task),m < xs.length→xs[m]? = some t→P m t:=fun m t hm ht=>h m t OM ht
theorem rJ{xs:List Task}{n:Nat}{t:Task}(ht:xs[n]? = some t)(h:¬(1≤t.cost∧t.cost≤20)):¬gW xs:=fun e=>h (e t (List.mem_of_getElem? ht))
theorem lZ{xs:List Task}{n:Nat}{t:Task}(ht:xs[n]? = some t)(h:¬Pn n t.deps):¬qZ xs:=fun e=>h (e n t (List.getElem?_eq_some_iff.1 ht).1 ht)
def mi(hi:Int)(d:List Int)(k:Nat)(last:Int):Prop:=Ds (-1) hi d↔Ds last hi (d.drop k)
theorem Hp{α:Type}{d:List α}{k:Nat}{y:α}(h:d[k]? = some y):d.drop k = y :: d.drop (k+1):=by
 have hk:=(List.getElem?_eq_some_iff.1 h)
 rw[List.drop_eq_getElem_cons hk.1,hk.2]
theorem tb{hi:Int}{d:List Int}{k:Nat}{last y:Int}(h:mi hi d k last)(hy:d[k]? = some y)(h1:last < y∧y < hi):mi hi d (k+1) y:=by
 unfold mi at *;rw[h,Hp hy,Ds];exact⟨fun e=>e.2,fun e=>⟨h1,e⟩⟩
theorem sk{hi:Int}{d:List Int}{k:Nat}{last y:Int}(h:mi hi d k last)(hy:d[k]? = some y)(h1:¬(last < y∧y < hi)):¬Ds (-1) hi d:=by
 unfold mi at *;rw[h,Hp hy,Ds];exact fun e=>h1 e.1
theorem Dr{hi:Int}{d:List Int}{k:Nat}{last:Int}(h:mi hi d k last)(hk:d.length≤k):Ds (-1) hi d:=by
 unfold mi at *;rw[h,List.drop_eq_nil_of_le hk];trivial
theorem eL(p:Plan)(hp:cR p):F r9 [.val (bn p)] (.i (am p.tasks)) [[]]:=by
 have hl:p.tasks.length≤9223372036854775807:=hp.1
 have hw:∀ y∈p.tasks,y.name.size≤9223372036854775807∧y.deps.length≤9223372036854775807:=hp.2
 refine sA ?_
 conv=>whnf
 refine g 0 1 []<|J Zdx<|g 14 17 []<|J UD<|W.sq ?_
 by_cases h1:(↑(List.length (List.map aD (Plan.tasks p))):Int) = (0:Int)
 simp only[LM]at h1
 refine g 17 22 [BT,BT,BT]<|J ⟨I,I,I,SI,SI,SI,I⟩<|W.cn<|J (fun _=>(g 22 23 []<|J UA (RT ?_))) (noF rfl)
 rotate_left
 simp only[LM]at h1
 refine g 17 22 [BF,BF,BF]<|J ⟨I,I,I,⟨(by simp_all),I⟩,⟨(by simp_all),I⟩,(by simp_all),I⟩<|W.cn<|J (fun h2=>?_) fun h2=>?_
 replace h2:=dt h2
 simp only[LM]at h2
 refine g 22 23 []<|J UA<|RT ?_
 rotate_left
 replace h2:=df h2
 simp only[LM]at h2
 refine W.skip<|g 22 24 []<|J UB<|W.sq<|g 24 25 []<|J UD<|W.blk ?_
 rotate_left
 ·exact vi (N5 OM).symm
 ·exact vi (N5 OM).symm
 have hlen:1≤p.tasks.length∧p.tasks.length≤40:=by omega
 refine W.lp (fun s (n:Nat)=>⟨[(1,s.s 1),(3,s.s 3),(4,s.s 4),(25,s.s 25),(26,s.s 26),(27,.i n)],[(1,[s.c 1 0])],[(23,(p.tasks.take n).map fun t=>Value.string t.name)]⟩) (fun(n:Nat)=>n≤p.tasks.length∧AL p.tasks n) (fun(n:Nat)=>p.tasks.length - n) (0) [some 1] [23] ⟨rfl,⟨rfl,rfl,rfl,rfl,rfl,rfl,I⟩,⟨⟨rfl,⟨rfl,I⟩⟩,I⟩,⟨rfl,I⟩⟩ ?_ ?_
 ·exact⟨Nat.zero_le _,fun m t hm=>by omega⟩
 rintro n ⟨hn,hc⟩
 conv=>whnf
 refine g 0 0 []<|J UA<|W.sq<|W.cn<|J (fun h3=>?_) fun h3=>?_
 replace h3:=dt h3
 simp only[LM]at h3
 refine W.skip<|W.sq<|W.blk ?_
 obtain⟨y1,hy1⟩:=ak (xs:=Plan.tasks p) (n:=n) OM
 have hm1:=hw y1 (List.mem_of_getElem? hy1)
 refine g 28 31 [.x (aD y1)]<|J Zcl<|W.sq ?_
 by_cases h4:kR (Task.name y1)
 refine g 31 40 [.call (V.b (decide (kR y1.name))) [[]],BF,BF,BF,BF,.b (decide (y1.name∈List.map Task.name (List.take n p.tasks))),BF]<|J ⟨I,I,⟨UA,I,US,UA,qP _ OM⟩,I,I,⟨nO,I⟩,⟨nO,I⟩,⟨nO,I⟩,⟨nO,Kf,Dm⟩,nO,I⟩<|W.cn<|J (fun h5=>?_) fun h5=>?_
 replace h5:=dt h5
 refine g 40 41 []<|J UA<|RT ?_
 rotate_left
 replace h5:=df h5
 refine W.skip<|rg []<|J ⟨I,I,I,Dm,I⟩<|rg [.i ((n:Int) +1)]<|J Zdp ?_
 rotate_left
 refine g 31 40 [.call (V.b (decide (kR y1.name))) [[]],BT,BT,BT,BT,BT]<|J ⟨I,I,⟨UA,I,US,UA,qP _ OM⟩,I,I,ah OM,ah OM,ah OM,ah OM,ah OM,I⟩<|W.cn<|J (fun _=>(g 40 41 []<|J UA (RT ?_))) (noF rfl)
 rotate_left
 replace h3:=df h3
 simp only[LM]at h3
 refine W.exit<|W.sq<|g 4 46 []<|J UD<|W.blk ?_
 rotate_left
 ·exact vi (N4 hlen (rA hy1 (by grind))).symm
 ·refine⟨n+1,[some 1],[23],⟨rfl,Zax,Zdv,⟨(congrArg some (HJ AS)),I⟩⟩,?_,?_⟩
  rotate_left
  (dsimp only;omega)
  dsimp only
  exact⟨by omega,vd hc hy1 (by grind)⟩
 ·exact vi (N4 hlen (rA hy1 (by grind))).symm
 have hnames:gb p.tasks:=A6 hc OM
 refine W.lp (fun s (n:Nat)=>⟨[(1,s.s 1),(3,s.s 3),(46,s.s 46),(47,s.s 47),(48,.i n)],[(1,[s.c 1 0])],[]⟩) (fun(n:Nat)=>n≤p.tasks.length∧∀ t∈p.tasks.take n,1≤t.cost∧t.cost≤20) (fun(n:Nat)=>p.tasks.length - n) (0) [some 1] [] ⟨rfl,Zbc,Zdv,I⟩ (by simp) ?_
 rintro n2 ⟨hn2,hc2⟩
 conv=>whnf
 refine g 0 0 []<|J UA<|W.sq<|W.cn<|J (fun h4=>?_) fun h4=>?_
 replace h4:=dt h4
 simp only[LM]at h4
 refine W.skip<|W.sq<|W.blk ?_
 obtain⟨y1,hy1⟩:=ak (xs:=Plan.tasks p) (n:=n2) OM
 have hm1:=hw y1 (List.mem_of_getElem? hy1)
 refine g 49 52 [.x (aD y1)]<|J Zcl ?_
 by_cases h5:Task.cost y1 < (1:Int)
 refine g 52 59 [BT,BT,BT,BT]<|J ⟨I,I,I,I,tO,tO,tO,tO,I⟩<|W.cn<|J (fun _=>(g 8 9 []<|J UA (RT ?_))) (noF rfl)
 rotate_left
 refine g 52 59 [BF,BF,BF,BF]<|J ⟨I,I,I,I,⟨dO,I⟩,⟨dO,I⟩,⟨dO,I⟩,dO,I⟩<|W.cn<|J (fun h6=>?_) fun h6=>?_
 replace h6:=dt h6
 refine g 8 9 []<|J UA<|RT ?_
 rotate_left
 replace h6:=df h6
 refine W.skip<|rg [.i ((n2:Int) +1)]<|J Zdp ?_
 rotate_left
 replace h4:=df h4
 simp only[LM]at h4
 refine W.exit<|W.sq<|g 46 62 []<|J UD<|W.blk ?_
 rotate_left
 ·exact vi (N3 hlen hnames (rJ AS OM)).symm
 ·exact vi (N3 hlen hnames (rJ AS OM)).symm
 ·refine⟨n2+1,[some 1],[],⟨rfl,Zbc,Zdv,I⟩,?_,?_⟩
  rotate_left
  (dsimp only;omega)
  dsimp only
  exact⟨by omega,rQ hc2 AS OM⟩
 have hcosts:gW p.tasks:=rR hc2 OM
 refine W.lp (fun s (n:Nat)=>⟨[(3,s.s 3),(62,s.s 62),(63,s.s 63),(64,.i n)],[],[]⟩) (fun(n:Nat)=>n≤p.tasks.length∧F8 p.tasks n) (fun(n:Nat)=>p.tasks.length - n) (0) [] [] ⟨rfl,⟨rfl,rfl,rfl,rfl,I⟩,I,I⟩ ?_ ?_
 ·exact⟨Nat.zero_le _,fun m t hm=>by omega⟩
 rintro n3 ⟨hn3,hc3⟩
 conv=>whnf
 refine g 0 0 []<|J UA<|W.sq<|W.cn<|J (fun h5=>?_) fun h5=>?_
 replace h5:=dt h5
 simp only[LM]at h5
 refine W.skip<|W.sq<|W.blk ?_
 obtain⟨y1,hy1⟩:=ak (xs:=Plan.tasks p) (n:=n3) OM
 have hm1:=hw y1 (List.mem_of_getElem? hy1)
 refine g 65 69 [.x (aD y1)]<|J Zbq<|W.sq<|g 69 72 []<|J UD<|W.cn<|J (fun h6=>?_) fun h6=>?_
 replace h6:=dt h6
 simp only[LM]at h6
 refine g 72 73 []<|J UA<|RT ?_
 rotate_left
 replace h6:=df h6
 simp only[LM]at h6
 refine W.skip<|g 72 73 []<|J UA<|g 10 11 []<|J UD<|W.blk ?_
 rotate_left
 replace h5:=df h5
 simp only[LM]at h5
 refine W.exit<|g 62 66 []<|J UA<|RT ?_
 rotate_left
 ·exact vi (Hv hlen hnames hcosts (lZ AS (fun e=>by have:=e.1;omega))).symm
 ·skip
  refine W.lp (fun s (x:Nat×Int)=>match x with|(k,last)=>⟨[(3,s.s 3),(9,s.s 9),(11,.i last),(62,s.s 62),(63,s.s 63),(64,s.s 64),(74,s.s 74),(75,s.s 75),(76,.i k)],[],[]⟩) (fun(x:Nat×Int)=>match x with|(k,last)=>k≤y1.deps.length∧mi n3 y1.deps k last) (fun(x:Nat×Int)=>match x with|(k,last)=>y1.deps.length - k) ((0,-1)) [] [] ⟨rfl,⟨rfl,rfl,rfl,rfl,rfl,rfl,rfl,rfl,rfl,I⟩,I,I⟩ ?_ ?_
  ·exact⟨Nat.zero_le _,Iff.rfl⟩
  rintro⟨k,last⟩ ⟨hk,hi⟩
  conv=>whnf
  refine g 0 0 []<|J UA<|W.sq<|W.cn<|J (fun h7=>?_) fun h7=>?_
  replace h7:=dt h7
  simp only[LM]at h7
  refine W.skip<|W.sq<|W.blk ?_
  obtain⟨y2,hy2⟩:=ak (xs:=Task.deps y1) (n:=k) OM
  refine g 77 80 [.x (im y2)]<|J Zck<|W.sq ?_
  by_cases h8:y2≤last
  refine g 80 87 [BT,BT,BT,BT]<|J ⟨I,I,I,I,tO,tO,tO,tO,I⟩<|W.cn<|J (fun _=>(g 87 88 []<|J UA (RT ?_))) (noF rfl)
  rotate_left
  refine g 80 87 [BF,BF,BF,BF]<|J ⟨I,I,I,I,⟨dO,I⟩,⟨dO,I⟩,⟨dO,I⟩,dO,I⟩<|W.cn<|J (fun h9=>?_) fun h9=>?_
  replace h9:=dt h9
  refine g 87 88 []<|J UA<|RT ?_
  rotate_left
  replace h9:=df h9
  refine W.skip<|rg []<|J UB<|rg [.i ((k:Int) +1)]<|J Zdp ?_
  rotate_left
  replace h7:=df h7
  simp only[LM]at h7
  refine W.exit<|rg [.i ((n3:Int) +1)]<|J Zdp ?_
  rotate_left
  ·exact vi (Hv hlen hnames hcosts (lZ hy1 (fun e=>sk hi AS OM e.2))).symm
  ·exact vi (Hv hlen hnames hcosts (lZ hy1 (fun e=>sk hi AS OM e.2))).symm
  ·refine⟨(k+1,y2),[],[],⟨rfl,⟨rfl,rfl,rfl,rfl,rfl,rfl,rfl,rfl,rfl,I⟩,I,I⟩,?_,?_⟩
   rotate_left
   (dsimp only;omega)
   dsimp only
   exact⟨by omega,tb hi AS OM⟩
  ·refine⟨n3+1,[],[],⟨rfl,Zcd,I,I⟩,?_,?_⟩
   rotate_left
   (dsimp only;omega)
   dsimp only
   exact⟨by omega,vd hc3 hy1 ⟨by omega,Dr hi OM⟩⟩
 exact vi (RP hlen hnames hcosts (A6 hc3 OM)).symm
end Go.K
end
section
open Go Go.Tm Go.Proofs Classical
namespace Go.K
theorem Ac{xs:List Task}{n k:Nat}{a:Task}(h:xs[k]? = some a)(hk:k < n):a.name∈(xs.take n).map Task.name:=by
 refine List.mem_map.2 ⟨a,?_,rfl⟩
 refine List.mem_of_getElem? (i:=k) ?_
 rw[List.getElem?_take,if_pos hk];exact h
theorem HW{xs:List Task}{n k:Nat}{s:ByteArray}{a:Task}(h:s ∉ (xs.take k).map Task.name)(ha:xs[k]? = some a)(hne:a.name≠s):s ∉ (xs.take (k+1)).map Task.name:=by
 rw[List.take_add_one,ha];simp only[List.map_append,List.mem_append,not_or]
 exact⟨h,by simpa using fun e=>hne e.symm⟩
theorem GG{d:List Int}{k:Nat}{l y:Int}(h:d[k - 1]? = some l)(hy:d[((k:Int) - 1).toNat]? = some y):y = l:=by
 have e:((k:Int) - 1).toNat = k - 1:=by omega
 rw[e,h]at hy;cases hy;rfl
theorem cL(p:Plan)(hp:cR p):F rZ [.val (bn p)] (.i (am p.tasks)) [[]]:=by
 have hl:p.tasks.length≤9223372036854775807:=hp.1
 have hw:∀ y∈p.tasks,y.name.size≤9223372036854775807∧y.deps.length≤9223372036854775807:=hp.2
 refine su ?_
 conv=>whnf
 refine g 0 1 []<|J Zdx<|g 10 13 []<|J UD<|W.sq ?_
 by_cases h1:(↑(List.length (List.map aD (Plan.tasks p))):Int) < (1:Int)
 simp only[LM]at h1
 refine g 14 16 [BT,BT,BT]<|J ⟨I,I,I,SI,SI,SI,I⟩<|W.cn<|J (fun _=>(g 17 19 []<|J UA (RT ?_))) (noF rfl)
 rotate_left
 simp only[LM]at h1
 refine g 14 16 [BF,BF,BF]<|J ⟨I,I,I,⟨SI,I⟩,⟨SI,I⟩,SI,I⟩<|W.cn<|J (fun h2=>?_) fun h2=>?_
 replace h2:=dt h2
 simp only[LM]at h2
 refine g 17 19 []<|J UA<|RT ?_
 rotate_left
 replace h2:=df h2
 simp only[LM]at h2
 refine W.skip<|W.sq<|g 17 19 []<|J UA<|W.blk ?_
 rotate_left
 ·exact vi (N5 OM).symm
 ·exact vi (N5 OM).symm
 have hlen:1≤p.tasks.length∧p.tasks.length≤40:=by omega
 refine W.lp (fun s (n:Nat)=>⟨[(1,s.s 1),(3,s.s 3),(4,.i n),(13,s.s 13),(16,s.s 16)],[(1,[s.c 1 0])],[]⟩) (fun(n:Nat)=>n≤p.tasks.length∧AL p.tasks n) (fun(n:Nat)=>p.tasks.length - n) (0) [some 1] [] ⟨rfl,⟨rfl,rfl,rfl,rfl,rfl,I⟩,⟨⟨rfl,⟨rfl,I⟩⟩,I⟩,I⟩ ?_ ?_
 ·exact⟨Nat.zero_le _,fun m t hm=>by omega⟩
 rintro n ⟨hn,hc⟩
 conv=>whnf
 refine W.sq<|g 19 21 []<|J UC<|W.cn<|J (fun h3=>?_) fun h3=>?_
 replace h3:=dt h3
 simp only[LM]at h3
 refine W.skip<|W.sq<|W.blk<|W.sq ?_
 obtain⟨y1,hy1⟩:=ak (xs:=Plan.tasks p) (n:=n) OM
 have hm1:=hw y1 (List.mem_of_getElem? hy1)
 refine g 21 31 [.x (aD y1),.call (V.b (decide (kR y1.name))) [[]]]<|J ⟨I,I,I,Zdk,I,I,⟨UA,I,US,UA,uw _ OM⟩,I,I⟩<|W.cn<|J (fun h4=>?_) fun h4=>?_
 replace h4:=ndt h4
 refine g 31 32 []<|J UA<|RT ?_
 rotate_left
 replace h4:=ndf h4
 refine W.skip<|g 31 32 []<|J UA<|W.blk ?_
 rotate_left
 replace h3:=df h3
 simp only[LM]at h3
 refine W.exit<|W.sq<|g 4 5 []<|J UA<|W.blk ?_
 rotate_left
 ·exact vi (N4 hlen (rA hy1 (fun e=>absurd e.1 AS))).symm
 ·refine W.lp (fun s (k:Nat)=>⟨[(1,s.s 1),(3,s.s 3),(4,s.s 4),(5,.i k),(13,s.s 13),(16,s.s 16)],[(1,[s.c 1 0])],[]⟩) (fun(k:Nat)=>k≤n∧y1.name ∉ (p.tasks.take k).map Task.name) (fun(k:Nat)=>n - k) (0) [some 1] [] ⟨rfl,Zax,Zdv,I⟩ (by simp) ?_
  rintro k ⟨hk,hm⟩
  conv=>whnf
  refine W.sq<|g 32 34 []<|J UC<|W.cn<|J (fun h5=>?_) fun h5=>?_
  replace h5:=dt h5
  refine W.skip<|W.sq<|W.blk ?_
  obtain⟨y2,hy2⟩:=ak (xs:=Plan.tasks p) (n:=k) OM
  have hm2:=hw y2 (List.mem_of_getElem? hy2)
  refine gd 34 49 [[],[],[],[.x (aD y2)],[],[],[],[],[],[.x (aD y1)],[],[],[]] ?_
  conv=>whnf
  refine J ⟨I,I,I,Zdk,I,I,I,I,I,Zdk,I,I,I,I⟩<|J KR<|W.cn<|J (fun h6=>?_) fun h6=>?_
  replace h6:=dt h6
  refine g 49 50 []<|J UA<|RT ?_
  rotate_left
  replace h6:=df h6
  refine W.skip<|rg [.i ((k:Int) +1)]<|J Zdg ?_
  rotate_left
  replace h5:=df h5
  refine W.exit<|rg [.i ((n:Int) +1)]<|J Zdg ?_
  rotate_left
  ·exact vi (N4 hlen (rA hy1 (fun e=>e.2 (by rw[←(show y2.name = y1.name by assumption)];exact Ac hy2 OM)))).symm
  ·refine⟨k+1,[some 1],[],⟨rfl,Zax,Zdv,I⟩,?_,?_⟩
   rotate_left
   (dsimp only;omega)
   dsimp only
   exact⟨by omega,HW (n:=n) hm hy2 AS⟩
  ·refine⟨n+1,[some 1],[],⟨rfl,Zbc,Zdv,I⟩,?_,?_⟩
   rotate_left
   (dsimp only;omega)
   dsimp only
   exact⟨by omega,vd hc hy1 ⟨by assumption,by rwa [show k = n by omega]at hm⟩⟩
 have hnames:gb p.tasks:=A6 hc OM
 refine W.lp (fun s (n:Nat)=>⟨[(1,s.s 1),(3,s.s 3),(6,.i n),(13,s.s 13),(16,s.s 16)],[(1,[s.c 1 0])],[]⟩) (fun(n:Nat)=>n≤p.tasks.length∧∀ t∈p.tasks.take n,1≤t.cost∧t.cost≤20) (fun(n:Nat)=>p.tasks.length - n) (0) [some 1] [] ⟨rfl,Zbc,Zdv,I⟩ (by simp) ?_
 rintro n2 ⟨hn2,hc2⟩
 conv=>whnf
 refine W.sq<|g 50 52 []<|J UC<|W.cn<|J (fun h4=>?_) fun h4=>?_
 replace h4:=dt h4
 simp only[LM]at h4
 refine W.skip<|W.sq<|W.blk ?_
 obtain⟨y1,hy1⟩:=ak (xs:=Plan.tasks p) (n:=n2) OM
 have hm1:=hw y1 (List.mem_of_getElem? hy1)
 by_cases h5:Task.cost y1 < (1:Int)
 refine g 52 70 [.x (aD y1),BT,BT,BT,BT,BT,BT,BT,BT]<|J ⟨I,I,I,Zdk,I,I,I,I,tO,tO,tO,tO,tO,tO,tO,tO,I⟩<|W.cn<|J (fun _=>(g 70 71 []<|J UA (RT ?_))) (noF rfl)
 rotate_left
 refine g 52 70 [.x (aD y1),BF,BF,BF,BF,.x (aD y1),BF,BF,BF,BF]<|J ⟨I,I,I,Zdk,I,I,I,I,⟨dO,I⟩,⟨dO,I⟩,⟨dO,I⟩,⟨dO,OM,xA⟩,⟨dO,I⟩,⟨dO,I⟩,⟨dO,I⟩,dO,I⟩<|W.cn<|J (fun h6=>?_) fun h6=>?_
 replace h6:=dt h6
 refine g 70 71 []<|J UA<|RT ?_
 rotate_left
 replace h6:=df h6
 refine W.skip<|rg [.i ((n2:Int) +1)]<|J Zdg ?_
 rotate_left
 replace h4:=df h4
 simp only[LM]at h4
 refine W.exit<|W.sq<|g 6 7 []<|J UA<|W.blk ?_
 rotate_left
 ·exact vi (N3 hlen hnames (rJ AS OM)).symm
 ·exact vi (N3 hlen hnames (rJ AS OM)).symm
 ·refine⟨n2+1,[some 1],[],⟨rfl,Zbc,Zdv,I⟩,?_,?_⟩
  rotate_left
  (dsimp only;omega)
  dsimp only
  exact⟨by omega,rQ hc2 AS OM⟩
 have hcosts:gW p.tasks:=rR hc2 OM
 refine W.lp (fun s (n:Nat)=>⟨[(1,s.s 1),(3,s.s 3),(7,.i n),(13,s.s 13),(16,s.s 16)],[(1,[s.c 1 0])],[]⟩) (fun(n:Nat)=>n≤p.tasks.length∧F8 p.tasks n) (fun(n:Nat)=>p.tasks.length - n) (0) [some 1] [] ⟨rfl,⟨rfl,rfl,rfl,rfl,rfl,I⟩,⟨⟨rfl,⟨rfl,I⟩⟩,I⟩,I⟩ ?_ ?_
 ·exact⟨Nat.zero_le _,fun m t hm=>by omega⟩
 rintro n3 ⟨hn3,hc3⟩
 conv=>whnf
 refine W.sq<|g 71 73 []<|J UC<|W.cn<|J (fun h5=>?_) fun h5=>?_
 replace h5:=dt h5
 simp only[LM]at h5
 refine W.skip<|W.sq<|W.blk ?_
 obtain⟨y1,hy1⟩:=ak (xs:=Plan.tasks p) (n:=n3) OM
 have hm1:=hw y1 (List.mem_of_getElem? hy1)
 refine g 73 82 [.x (aD y1)]<|J ⟨I,I,I,Zdk,I,I,I,I⟩<|W.sq<|g 82 84 []<|J UC<|W.cn<|J (fun h6=>?_) fun h6=>?_
 replace h6:=dt h6
 simp only[LM]at h6
 refine g 84 85 []<|J UA<|RT ?_
 rotate_left
 replace h6:=df h6
 simp only[LM]at h6
 refine W.skip<|g 84 85 []<|J UA<|W.blk ?_
 rotate_left
 replace h5:=df h5
 simp only[LM]at h5
 refine W.exit<|g 7 74 []<|J UA<|RT ?_
 rotate_left
 ·exact vi (Hv hlen hnames hcosts (lZ AS (fun e=>by have:=e.1;omega))).symm
 ·refine W.lp (fun s (x:Nat×Int)=>match x with|(k,last)=>⟨[(1,s.s 1),(3,s.s 3),(7,s.s 7),(8,s.s 8),(9,.i k),(13,s.s 13),(16,s.s 16)],[(1,[s.c 1 0])],[]⟩) (fun(x:Nat×Int)=>match x with|(k,last)=>k≤y1.deps.length∧mi n3 y1.deps k last∧ -1≤last∧(k = 0→last = -1)∧(0 < k→y1.deps[k - 1]? = some last)) (fun(x:Nat×Int)=>match x with|(k,last)=>y1.deps.length - k) ((0,-1)) [some 1] [] ⟨rfl,⟨rfl,rfl,rfl,rfl,rfl,rfl,rfl,I⟩,⟨⟨rfl,⟨rfl,I⟩⟩,I⟩,I⟩ ?_ ?_
  ·exact⟨Nat.zero_le _,Iff.rfl,by omega,fun _=>rfl,fun h=>by omega⟩
  rintro⟨k,last⟩ ⟨hk,hi,hlo,hz,hs⟩
  conv=>whnf
  refine W.sq<|g 85 88 []<|J UD<|W.cn<|J (fun h7=>?_) fun h7=>?_
  replace h7:=dt h7
  simp only[LM]at h7
  refine W.skip<|W.sq<|W.blk ?_
  obtain⟨y2,hy2⟩:=ak (xs:=Task.deps y1) (n:=k) OM
  by_cases h8:y2 < (0:Int)
  refine gd 88 119 [[],[],[.x (im y2)],[],[],[],[BT],[BT],[BT],[BT],[BT],[BT],[BT],[],[BT],[BT],[BT],[BF],[BF],[BF],[BF],[BF],[BF],[BF],[BF],[BF],[BF],[BT],[BT]] ?_
  conv=>whnf
  refine J ⟨I,I,Zdk,I,I,I,tO,tO,tO,tO,tO,tO,tO,I,rfl,rfl,rfl,I,I,I,I,I,I,I,I,I,I,rfl,rfl,I⟩<|J KR<|W.cn<|J (fun _=>(g 119 120 []<|J UA (RT ?_))) (noF rfl)
  rotate_left
  by_cases h9:(↑n3:Int)≤y2
  refine gd 88 119 [[],[],[.x (im y2)],[],[],[],[BF],[BF],[BF,.x (im y2)],[BF],[BF],[BF],[BF],[],[BT],[BT],[BT],[BF],[BF],[BF],[BF],[BF],[BF],[BF],[BF],[BF],[BF],[BT],[BT]] ?_
  conv=>whnf
  refine J ⟨I,I,Zdk,I,I,I,⟨dO,I⟩,⟨dO,I⟩,⟨dO,OM,xA⟩,⟨dO,I⟩,⟨dO,I⟩,⟨dO,I⟩,dO,I,tO,tO,tO,I,I,I,I,I,I,I,I,I,I,tO,tO,I⟩<|J KR<|W.cn<|J (fun _=>(g 119 120 []<|J UA (RT ?_))) (noF rfl)
  rotate_left
  by_cases h10:(0:Int) < (↑k:Int)
  obtain⟨y3,hy3⟩:=ak (xs:=Task.deps y1) (n:=Int.toNat ((↑k:Int) - (1:Int))) OM
  refine gd 88 119 [[],[],[.x (im y2)],[],[],[],[BF],[BF],[BF,.x (im y2)],[BF],[BF],[BF],[BF],[],[BF],[BF],[BF],[BT],[BT],[BT,.i ((k:Int) - 1)],[BT,.x (im y3)],[BT],[BT],[BT],[BT,.x (im y2)],[BT],[BT],[BF,BT],[BF]] ?_
  conv=>whnf
  refine J ⟨I,I,Zdk,I,I,I,⟨dO,I⟩,⟨dO,I⟩,⟨dO,OM,xA⟩,⟨dO,I⟩,⟨dO,I⟩,⟨dO,I⟩,dO,I,⟨dO,I⟩,⟨dO,I⟩,⟨dO,I⟩,⟨tO,I⟩,⟨tO,I⟩,⟨tO,wO⟩,⟨tO,OM,xA⟩,⟨tO,I⟩,⟨tO,I⟩,⟨tO,I⟩,⟨tO,OM,xA⟩,⟨tO,I⟩,⟨tO,I⟩,⟨dO,tO⟩,dO,I⟩<|J KR<|W.cn<|J (fun h11=>?_) fun h11=>?_
  replace h11:=dt h11
  refine g 119 120 []<|J UA<|RT ?_
  rotate_left
  replace h11:=df h11
  refine W.skip<|rg [.i ((k:Int) +1)]<|J Zdg ?_
  rotate_left
  refine gd 88 119 [[],[],[.x (im y2)],[],[],[],[BF],[BF],[BF,.x (im y2)],[BF],[BF],[BF],[BF],[],[BF],[BF],[BF],[BF],[BF],[BF],[BF],[BF],[BF],[BF],[BF],[BF],[BF],[BF,BF],[BF]] ?_
  conv=>whnf
  refine J ⟨I,I,Zdk,I,I,I,⟨dO,I⟩,⟨dO,I⟩,⟨dO,OM,xA⟩,⟨dO,I⟩,⟨dO,I⟩,⟨dO,I⟩,dO,I,⟨dO,I⟩,⟨dO,I⟩,⟨dO,I⟩,dO,dO,dO,dO,dO,dO,dO,dO,dO,dO,⟨dO,dO⟩,dO,I⟩<|J KR<|W.cn<|J (noT rfl) fun _=>W.skip<|rg [.i ((k:Int) +1)]<|J Zdg ?_
  rotate_left
  replace h7:=df h7
  simp only[LM]at h7
  refine W.exit<|rg [.i ((n3:Int) +1)]<|J Zdg ?_
  rotate_left
  ·exact vi (Hv hlen hnames hcosts (lZ hy1 (fun e=>sk hi hy2 OM e.2))).symm
  ·exact vi (Hv hlen hnames hcosts (lZ hy1 (fun e=>sk hi hy2 OM e.2))).symm
  ·have hl3:=GG (hs OM) hy3
   exact vi (Hv hlen hnames hcosts (lZ hy1 (fun e=>sk hi hy2 OM e.2))).symm
  ·have hl3:=GG (hs OM) hy3
   refine⟨(k+1,y2),[some 1],[],⟨rfl,Za1,Zdv,I⟩,?_,?_⟩
   rotate_left
   (dsimp only;omega)
   dsimp only
   exact⟨by omega,tb hi hy2 OM,by omega,fun e=>by omega,fun _=>hy2⟩
  ·have hl3:=hz OM
   refine⟨(k+1,y2),[some 1],[],⟨rfl,Za1,Zdv,I⟩,?_,?_⟩
   rotate_left
   (dsimp only;omega)
   dsimp only
   exact⟨by omega,tb hi hy2 OM,by omega,fun e=>by omega,fun _=>hy2⟩
  ·refine⟨n3+1,[some 1],[],⟨rfl,Zbc,Zdv,I⟩,?_,?_⟩
   rotate_left
   (dsimp only;omega)
   dsimp only
   exact⟨by omega,vd hc3 hy1 ⟨by omega,Dr hi OM⟩⟩
 exact vi (RP hlen hnames hcosts (A6 hc3 OM)).symm
end Go.K
end
section
open Go Go.Tm Go.Proofs
namespace Go.K
def dG(all:List ByteArray)(ds:List Int):List ByteArray:=ds.map fun d=>(all[d.toNat]?).getD emp
theorem mz(nm:ByteArray)(xs:List ByteArray):(bm nm xs).size = 8:=by unfold bm;rw[gh,oU]
def cF(rs:List ByteArray)(ds:List Int):Prop:=∀ d∈ds,¬(rs[d.toNat]?).getD emp = emp
noncomputable instance (rs:List ByteArray) (ds:List Int):Decidable (cF rs ds):=Classical.propDecidable _
structure Tale where
 epoch:Int
 results:List ByteArray
open Classical in
noncomputable def dk(ts:List Task)(st:Tale)(s:ByteArray):Option Tale :=
 match dD s with
 |none=>none
 |some e =>
  if e.kind = 1 then(if e.epoch = st.epoch+1 then some ⟨e.epoch,st.results⟩else none)
  else if e.epoch = st.epoch∧e.task < ts.length∧(st.results[e.task.toNat]?).getD emp = emp∧cF st.results ((ts[e.task.toNat]?).map Task.deps|>.getD [])then some ⟨st.epoch,st.results.set e.task.toNat e.text⟩else none
noncomputable def ji(ts:List Task)(st:Option Tale)(l:List ByteArray):Option Tale:=l.foldl (fun a s=>a.bind fun t=>dk ts t s) st
noncomputable def kp(ts:List Task):Tale:=⟨0,List.replicate ts.length emp⟩
theorem nb(ts:List Task)(l:List ByteArray)(st:Option Tale)(m:List ByteArray):ji ts st (l++m) = ji ts (ji ts st l) m:=by unfold ji;rw[List.foldl_append]
theorem gG(ts:List Task):∀ (l:List ByteArray),ji ts none l = none
 |[]=>rfl
 |s :: l=>gG ts l
theorem gS(ts:List Task)(st:Option Tale):ji ts st [] = st:=rfl
theorem nE(ts:List Task)(t:Tale)(s:ByteArray)(l:List ByteArray):ji ts (some t) (s :: l) = ji ts (dk ts t s) l:=rfl
theorem yW{ts:List Task}{xs:List ByteArray}{n:Nat}{s:ByteArray}{st:Option Tale}{t:Tale}(h:ji ts st (xs.take n) = some t)(hs:xs[n]? = some s):ji ts st (xs.take (n+1)) = dk ts t s:=by
 rw[List.take_add_one,hs,nb,h];rfl
theorem JW{ts:List Task}{xs:List ByteArray}{n:Nat}{s:ByteArray}{st:Option Tale}{t:Tale}(h:ji ts st (xs.take n) = some t)(hs:xs[n]? = some s)(hb:dk ts t s = none):ji ts st xs = none:=by
 have h2:=yW h hs
 rw[hb]at h2
 rw[←List.take_append_drop (n+1) xs,nb,h2,gG]
theorem JX{ts:List Task}{xs:List ByteArray}{n:Nat}{st:Option Tale}{t:Tale}(h:ji ts st (xs.take n) = some t)(hn:xs.length≤n):ji ts st xs = some t:=by
 rw[List.take_of_length_le hn]at h;exact h
theorem HI{ts:List Task}{t t':Tale}{s:ByteArray}(h:dk ts t s = some t'):t'.results.length = t.results.length:=by
 unfold dk at h
 split at h
 ·cases h
 ·split at h
  ·split at h
   ·cases h;rfl
   ·cases h
  ·split at h
   ·cases h;simp
   ·cases h
theorem ru(ts:List Task):∀ (l:List ByteArray) (t t':Tale),ji ts (some t) l = some t'→t'.results.length = t.results.length
 |[],t,t',h=>by rw[gS]at h;cases h;rfl
 |s :: l,t,t',h=>by
  rw[nE]at h
  cases hs:dk ts t s with
  |none=>rw[hs,gG]at h;cases h
  |some u=>rw[hs]at h;rw[ru ts l u t' h,HI hs]
end Go.K
end
section
open Go Go.Tm Go.Proofs
namespace Go.K
abbrev RG(ds:List Int):T:=.slc [false] (ds.map im)
theorem vI{all:List ByteArray}{ds:List Int}{n:Nat}{d:Int}{y:ByteArray}(h:ds[n]? = some d)(hy:all[d.toNat]? = some y):dG all (ds.take (n+1)) = dG all (ds.take n) ++ [y]:=by
 unfold dG;rw[List.take_add_one,h];simp[hy]
theorem C1{rs:List ByteArray}{ds:List Int}{n:Nat}{d:Int}{y:ByteArray}(h:ds[n]? = some d)(hy:rs[d.toNat]? = some y)(e:y = emp):¬cF rs ds:=fun hr=>hr d (List.mem_of_getElem? h) (by rw[hy];exact e)
theorem vD{rs:List ByteArray}{ds:List Int}{n:Nat}{d:Int}{y:ByteArray}(hc:cF rs (ds.take n))(h:ds[n]? = some d)(hy:rs[d.toNat]? = some y)(e:¬y = emp):cF rs (ds.take (n+1)):=by
 intro x hx
 rw[List.take_add_one,h]at hx
 rcases List.mem_append.1 hx with hx|hx
 ·exact hc x hx
 ·rw[Option.toList,List.mem_singleton]at hx;subst hx;rw[hy];exact e
theorem ic(all:List ByteArray)(ds:List Int)(hd:∀ d∈ds,0≤d∧d < all.length)(hl:ds.length≤1048576):F z8 [.val (.t (n7 all)),.val (.t (RG ds))] (.b (decide (cF all ds))) [[],[]]:=by
 refine Ak ?_
 conv=>whnf
 refine g 0 0 []<|J UA<|W.sq<|g 1 2 []<|J UC<|W.blk ?_
 refine W.lp (fun s (n:Nat)=>⟨[(0,s.s 0),(7,s.s 7),(8,s.s 8),(9,.i n)],[],[]⟩) (fun(n:Nat)=>n≤ds.length∧cF all (ds.take n)) (fun(n:Nat)=>ds.length - n) (0) [] [] ⟨rfl,⟨rfl,rfl,rfl,rfl,I⟩,I,I⟩ ?_ ?_
 ·exact⟨Nat.zero_le _,by unfold cF;simp⟩
 rintro n ⟨hn,hc⟩
 conv=>whnf
 refine g 0 0 []<|J UA<|W.sq<|W.cn<|J (fun h1=>?_) fun h1=>?_
 replace h1:=dt h1
 simp only[LM]at h1
 refine W.skip<|W.sq<|W.blk ?_
 obtain⟨y1,hy1⟩:=ak (xs:=ds) (n:=n) OM
 have hm1:=hd y1 (List.mem_of_getElem? hy1)
 refine g 10 13 [.x (im y1)]<|J Zck ?_
 obtain⟨y2,hy2⟩:=ak (xs:=all) (n:=Int.toNat y1) OM
 refine g 13 17 [.x (aq y2)]<|J ⟨I,I,Zdk,I,I,I⟩<|W.cn<|J (fun h2=>?_) fun h2=>?_
 replace h2:=dt h2
 refine g 6 7 []<|J UA<|RT ?_
 rotate_left
 replace h2:=df h2
 refine W.skip<|rg [.i ((n:Int) +1)]<|J Zdp ?_
 rotate_left
 replace h1:=df h1
 simp only[LM]at h1
 refine W.exit<|g 7 11 []<|J UA<|RT ?_
 rotate_left
 ·exact vbf (C1 AS AS AS)
 ·refine⟨n+1,[],[],⟨rfl,Zcd,I,I⟩,?_,?_⟩
  rotate_left
  (dsimp only;omega)
  dsimp only
  exact⟨by omega,vD hc AS AS AS⟩
 ·exact vbt (by rw[List.take_of_length_le OM]at hc;exact hc)
end Go.K
end
section
open Go Go.Tm Go.Proofs
namespace Go.K
theorem vU{hi:Int}:∀ {last:Int} {ds:List Int},Ds last hi ds→∀ d∈ds,last < d∧d < hi
 |_,[],_,d,h=>by cases h
 |last,x :: ds,h,d,hd=>by
  rw[Ds]at h
  rcases List.mem_cons.1 hd with e|hd
  ·subst e;exact h.1
  ·have:=vU h.2 d hd;omega
theorem bM{ts:List Task}(h:am ts = 0):(1≤ts.length∧ts.length≤40)∧gb ts∧gW ts∧qZ ts:=by
 by_cases h1:1≤ts.length∧ts.length≤40
 ·by_cases h2:gb ts
  ·by_cases h3:gW ts
   ·by_cases h4:qZ ts
    ·exact⟨h1,h2,h3,h4⟩
    ·rw[Hv h1 h2 h3 h4]at h;cases h
   ·rw[N3 h1 h2 h3]at h;cases h
  ·rw[N4 h1 h2]at h;cases h
 ·rw[N5 h1]at h;cases h
theorem bP{ts:List Task}(h:am ts = 0){n:Nat}{t:Task}(ht:ts[n]? = some t):(1≤t.name.size∧t.name.size≤30)∧(1≤t.cost∧t.cost≤20)∧t.deps.length≤8∧∀ d∈t.deps,0≤d∧d < n:=by
 obtain⟨h1,h2,h3,h4⟩:=bM h
 have hn:=(List.getElem?_eq_some_iff.1 ht).1
 refine⟨(h2 n t hn ht).1.2,h3 t (List.mem_of_getElem? ht),(h4 n t hn ht).1,fun d hd=>?_⟩
 have:=vU (h4 n t hn ht).2 d hd
 omega
theorem nI(all:List ByteArray)(ds:List Int):(dG all ds).length = ds.length:=by unfold dG;rw[List.length_map]
theorem wx:∀ {xs:List ByteArray},(∀ s∈xs,s.size≤8)→fp xs≤8 * xs.length
 |[],_=>by simp[fp]
 |s :: xs,h=>by
  have:=wx (xs:=xs) fun y hy=>h y (List.mem_cons_of_mem _ hy)
  have:=h s (List.mem_cons_self ..)
  simp only[fp,List.length_cons];omega
end Go.K
end
section
open Go Go.Tm Go.Proofs
namespace Go.K
structure Story where
 code:Int
 epoch:Int
 results:List ByteArray
 deriving DecidableEq
abbrev eM(x:Story):V:=.agg [.t (.i x.code),.t (.i x.epoch),.own [false] (x.results.map aq)]
noncomputable def bW(ts:List Task)(xs:List ByteArray)(n:Nat):Tale:=(ji ts (some (kp ts)) (xs.take n)).getD (kp ts)
def kL(ts:List Task)(xs:List ByteArray)(n:Nat):Prop:=ji ts (some (kp ts)) (xs.take n) = some (bW ts xs n)
theorem jm(ts:List Task)(xs:List ByteArray):bW ts xs 0 = kp ts:=by unfold bW;rw[List.take_zero,gS];rfl
theorem tz(ts:List Task)(xs:List ByteArray):kL ts xs 0:=by unfold kL;rw[jm,List.take_zero,gS]
theorem nA{ts:List Task}{xs:List ByteArray}{n:Nat}{s:ByteArray}{t:Tale}(h:kL ts xs n)(hs:xs[n]? = some s)(hst:dk ts (bW ts xs n) s = some t):kL ts xs (n+1)∧bW ts xs (n+1) = t:=by
 have e:=yW h hs
 rw[hst]at e
 have e2:bW ts xs (n+1) = t:=by unfold bW;rw[e];rfl
 exact⟨by unfold kL;rw[e,e2],e2⟩
theorem CO{ts:List Task}{xs:List ByteArray}{n:Nat}(h:kL ts xs n):(bW ts xs n).results.length = ts.length:=by
 rw[ru ts _ _ _ h,kp,List.length_replicate]
noncomputable def aw(p:Plan)(xs:List ByteArray):Story :=
 if am p.tasks = 0∧xs.length≤310 then
  match ji p.tasks (some (kp p.tasks)) xs with
  |none=>⟨2,0,[]⟩
  |some t=>⟨0,t.epoch,t.results⟩
 else⟨1,0,[]⟩
theorem lq{p:Plan}{xs:List ByteArray}(h:¬(am p.tasks = 0∧xs.length≤310)):aw p xs = ⟨1,0,[]⟩:=if_neg h
theorem dw{p:Plan}{xs:List ByteArray}{n:Nat}{s:ByteArray}(h:am p.tasks = 0)(hl:xs.length≤310)(hc:kL p.tasks xs n)(hs:xs[n]? = some s)(hst:dk p.tasks (bW p.tasks xs n) s = none):aw p xs = ⟨2,0,[]⟩:=by
 rw[aw,if_pos ⟨h,hl⟩,JW hc hs hst]
theorem vB{p:Plan}{xs:List ByteArray}{n:Nat}(h:am p.tasks = 0)(hl:xs.length≤310)(hc:kL p.tasks xs n)(hn:xs.length≤n):aw p xs = ⟨0,(bW p.tasks xs n).epoch,(bW p.tasks xs n).results⟩:=by
 rw[aw,if_pos ⟨h,hl⟩,JX hc hn]
theorem yU{ts:List Task}{t:Tale}{s:ByteArray}(h:dD s = none):dk ts t s = none:=by unfold dk;rw[h]
theorem AC{ts:List Task}{t:Tale}{s:ByteArray}{e:Entry}(h:dD s = some e)(hk:e.kind = 1)(he:e.epoch = t.epoch+1):dk ts t s = some ⟨e.epoch,t.results⟩:=by
 unfold dk;rw[h];simp only[if_pos hk,if_pos he]
theorem vm{ts:List Task}{t:Tale}{s:ByteArray}{e:Entry}(h:dD s = some e)(hk:e.kind = 1)(he:¬e.epoch = t.epoch+1):dk ts t s = none:=by
 unfold dk;rw[h];simp only[if_pos hk,if_neg he]
theorem wB{ts:List Task}{t:Tale}{s:ByteArray}{e:Entry}{k:Task}{y:ByteArray}(h:dD s = some e)(hk:¬e.kind = 1)(he:e.epoch = t.epoch)(ht:e.task < ts.length)(hy:t.results[e.task.toNat]? = some y)(hy2:y = emp)(hkk:ts[e.task.toNat]? = some k)(hr:cF t.results k.deps):dk ts t s = some ⟨t.epoch,t.results.set e.task.toNat e.text⟩:=by
 unfold dk;rw[h];simp only[if_neg hk]
 rw[if_pos ⟨he,ht,by rw[hy];exact hy2,by rw[hkk];exact hr⟩]
theorem rm{ts:List Task}{t:Tale}{s:ByteArray}{e:Entry}(h:dD s = some e)(hk:¬e.kind = 1)(hn:¬(e.epoch = t.epoch∧e.task < ts.length)):dk ts t s = none:=by
 unfold dk;rw[h];simp only[if_neg hk]
 rw[if_neg fun q=>hn ⟨q.1,q.2.1⟩]
theorem CT{ts:List Task}{t:Tale}{s:ByteArray}{e:Entry}{y:ByteArray}(h:dD s = some e)(hk:¬e.kind = 1)(hy:t.results[e.task.toNat]? = some y)(hn:¬y = emp):dk ts t s = none:=by
 unfold dk;rw[h];simp only[if_neg hk]
 rw[if_neg fun q=>hn (by have:=q.2.2.1;rw[hy]at this;exact this)]
theorem CS{ts:List Task}{t:Tale}{s:ByteArray}{e:Entry}{k:Task}(h:dD s = some e)(hk:¬e.kind = 1)(hkk:ts[e.task.toNat]? = some k)(hn:¬cF t.results k.deps):dk ts t s = none:=by
 unfold dk;rw[h];simp only[if_neg hk]
 rw[if_neg fun q=>hn (by have:=q.2.2.2;rw[hkk]at this;exact this)]
theorem iJ{s:ByteArray}{e:Entry}(h:dD s = some e):e.ok:=by
 unfold dD at h
 split at h
 ·cases h
 ·split at h
  ·rename_i h1 h2
   cases h
   unfold bB at h2
   split at h2
   ·assumption
   ·rw[←h2]at h1;exact absurd (by decide:((emp.size:Nat):Int) < 4) h1
  ·cases h
theorem gy(p:Plan)(rs:List ByteArray)(k:Int){t:Task}(h0:0≤k)(ht:p.tasks[k.toNat]? = some t)(hd:∀ d∈t.deps,0≤d∧d < rs.length)(hl:t.deps.length≤1048576):F xB [.val (bn p),.val (.t (n7 rs)),.val (.i k)] (.b (decide (cF rs t.deps))) [[],[],[]]:=by
 have hk:=(List.getElem?_eq_some_iff.1 ht).1
 refine xX ?_
 conv=>whnf
 refine g 0 1 []<|J Zdx<|g 9 15 [.x (aD t)]<|J ⟨I,I,I,⟨AS,xA⟩,I,I,I,I⟩<|W.sq<|g 2 4 []<|J UA<|W.blk ?_
 refine W.lp (fun s (n:Nat)=>⟨[(1,s.s 1),(7,s.s 7),(8,.i n)],[],[]⟩) (fun(n:Nat)=>n≤t.deps.length∧cF rs (t.deps.take n)) (fun(n:Nat)=>t.deps.length - n) (0) [] [] ⟨rfl,⟨rfl,rfl,rfl,I⟩,I,I⟩ ?_ ?_
 ·exact⟨Nat.zero_le _,by unfold cF;simp⟩
 rintro n ⟨hn,hc⟩
 conv=>whnf
 refine W.sq<|g 15 18 []<|J UD<|W.cn<|J (fun h1=>?_) fun h1=>?_
 replace h1:=dt h1
 simp only[LM]at h1
 refine W.skip<|W.sq<|W.blk ?_
 obtain⟨y1,hy1⟩:=ak (xs:=Task.deps t) (n:=n) OM
 have hm1:=hd y1 (List.mem_of_getElem? hy1)
 obtain⟨y2,hy2⟩:=ak (xs:=rs) (n:=Int.toNat y1) OM
 refine g 18 28 [.x (im y1),.x (aq y2)]<|J ⟨I,I,I,Zdk,I,Zdk,I,I,I⟩<|W.cn<|J (fun h2=>?_) fun h2=>?_
 replace h2:=dt h2
 refine g 28 29 []<|J UA<|RT ?_
 rotate_left
 replace h2:=df h2
 refine W.skip<|rg [.i ((n:Int) +1)]<|J Zdg ?_
 rotate_left
 replace h1:=df h1
 simp only[LM]at h1
 refine W.exit<|g 7 19 []<|J UA<|RT ?_
 rotate_left
 ·exact vbf (C1 AS AS AS)
 ·refine⟨n+1,[],[],⟨rfl,Zc3,I,I⟩,?_,?_⟩
  rotate_left
  (dsimp only;omega)
  dsimp only
  exact⟨by omega,vD hc AS AS AS⟩
 ·exact vbt (by rw[List.take_of_length_le OM]at hc;exact hc)
theorem CN{ts:List Task}{e:Entry}(h:e.ok):0≤e.task∧e.task≤39∧1≤e.epoch∧e.epoch≤300:=⟨h.2.1.1,h.2.1.2,h.1.1,h.1.2⟩
theorem uM(ts:List Task)(xs:List ByteArray):List.replicate ts.length (aq emp) = (bW ts xs 0).results.map aq:=by rw[jm,kp,List.map_replicate]
theorem jV(p:Plan)(xs:List ByteArray)(hp:cR p)(hx:∀ s∈xs,s.size≤281474976710656)(hl:xs.length≤9223372036854775806):F jJ [.val (bn p),.val (.t (n7 xs))] (eM (aw p xs)) [[],[]]:=by
 have c1:=eL p hp
 by_cases h:am p.tasks = 0
 ·obtain⟨⟨hl1,hl2⟩,_⟩:=bM h
  rw[h]at c1
  by_cases hl3:xs.length≤310
  ·refine jN ?_
   conv=>whnf
   refine g 0 0 []<|J Zdx<|W.sq<|g 13 18 [.call (V.i 0) [[]],BF,BF,BF,BF]<|J ⟨I,Zaj,I,I,Zde,Zde,Zde,rfl,I⟩<|W.cn<|J (fun h1=>?_) fun h1=>?_
   replace h1:=dt h1
   simp only[LM]at h1
   omega
   replace h1:=df h1
   simp only[LM]at h1
   refine W.skip<|gd 21 24 [[],[],[],[.n (List.length (List.map aD p.tasks))],[],[]] ?_
   conv=>whnf
   refine J ⟨I,I,I,⟨rfl,rfl,LN⟩,I,I,I⟩<|J KR<|W.sq<|g 11 12 []<|J UC<|W.blk ?_
   refine W.lp (fun s (n:Nat)=>⟨[(0,s.s 0),(1,s.s 1),(2,s.s 2),(4,s.s 4),(5,.i (bW p.tasks xs n).epoch),(6,.ref ⟨23,none,0⟩),(12,s.s 12),(20,s.s 20),(24,s.s 24),(25,s.s 25),(26,.i n)],[(2,[s.c 2 0]),(4,[s.c 4 0,s.c 4 1,s.c 4 2]),(23,[.own [false] ((bW p.tasks xs n).results.map aq)])],[]⟩) (fun(n:Nat)=>n≤xs.length∧kL p.tasks xs n∧0≤(bW p.tasks xs n).epoch∧(bW p.tasks xs n).epoch≤300) (fun(n:Nat)=>xs.length - n) (0) [some 2,some 4,some 23] [] ⟨rfl,⟨⟨_,rfl,_,_,rfl,rfl,rfl⟩,rfl,rfl,rfl,rfl,rfl,rfl,rfl,rfl,rfl,rfl,I⟩,⟨⟨rfl,⟨rfl,I⟩⟩,⟨⟨rfl,⟨rfl,⟨rfl,⟨rfl,I⟩⟩⟩⟩,⟨⟨rfl,⟨(congrArg (V.own _) (by rw[List.length_map];exact uM _ _)),I⟩⟩,I⟩⟩⟩,I⟩ ?_ ?_
   ·rw[jm];exact⟨Nat.zero_le _,tz _ _,Int.le_refl _,by show(0:Int)≤300;omega⟩
   rintro n ⟨hn,hc,he0,he1⟩
   have hrl:=CO hc
   by_cases hn2:n < xs.length
   ·obtain⟨s0,hs⟩:=ak hn2
    have hss:=hx s0 (List.mem_of_getElem? hs)
    have cr:=sF s0 hss
    rw[Nt]at cr
    cases hr:dD s0 with
    |none =>
     rw[hr]at cr
     conv=>whnf
     refine g 0 0 []<|J UA<|W.sq<|W.cn<|J (fun _=>(W.skip (W.sq (W.blk (g 27 30 [.x (aq s0)]<|J Zck (g 30 35 [.call (ku none) [[]]]<|J Zd8 (W.sq (g 8 9 []<|J UB (W.cn<|J (fun _=>(g 35 38 []<|J Zei ?_)) (noF rfl)))))))))) (noF SI)
     refine RT ?_
     rw[dw h hl3 hc hs (yU hr)];rfl
    |some e =>
     rw[hr]at cr
     obtain⟨r1,r2,r3,r4⟩:=CN (ts:=p.tasks) (iJ hr)
     by_cases hk:e.kind = 1
     ·by_cases he:e.epoch = (bW p.tasks xs n).epoch+1
      ·obtain⟨hc2,e1⟩:=nA hc hs (AC hr hk he)
       conv=>whnf
       refine g 0 0 []<|J UA<|W.sq<|W.cn<|J (fun _=>(W.skip (W.sq (W.blk (g 27 30 [.x (aq s0)]<|J Zck (g 30 35 [.call (ku (some e)) [[]]]<|J Zd8 (W.sq (g 8 9 []<|J UB (W.cn<|J (noT rfl) fun _=>(W.skip ?_)))))))))) (noF SI)
       refine W.sq<|g 35 40 []<|J UC<|W.cn<|J (fun _=>(W.sq (g 40 45 [.i (Tale.epoch (bW p.tasks xs n) +1)]<|J ⟨I,I,I,wO,I,I⟩ (W.cn<|J (noT nO) fun _=>(W.skip (g 45 49 []<|J UC (W.exit (rg [.i ((n:Int) +1)]<|J Zdp ?_)))))))) (noF tO)
       refine⟨n+1,[some 2,some 4,some 23],[],⟨rfl,⟨Zah,rfl,rfl,rfl,(congrArg (fun z=>V.t (T.v (Value.int _ z))) (by rw[e1])),rfl,rfl,rfl,rfl,rfl,rfl,I⟩,⟨Zad,⟨Zac,⟨⟨rfl,⟨(congrArg (V.own _) (by rw[e1])),I⟩⟩,I⟩⟩⟩,I⟩,?_,?_⟩
       rotate_left
       (dsimp only;omega)
       dsimp only
       exact⟨by omega,hc2,by rw[e1];dsimp only;omega,by rw[e1];dsimp only;omega⟩
      ·conv=>whnf
       refine g 0 0 []<|J UA<|W.sq<|W.cn<|J (fun _=>(W.skip (W.sq (W.blk (g 27 30 [.x (aq s0)]<|J Zck (g 30 35 [.call (ku (some e)) [[]]]<|J Zd8 (W.sq (g 8 9 []<|J UB (W.cn<|J (noT rfl) fun _=>(W.skip ?_)))))))))) (noF SI)
       refine W.sq<|g 35 40 []<|J UC<|W.cn<|J (fun _=>(W.sq (g 40 45 [.i (Tale.epoch (bW p.tasks xs n) +1)]<|J ⟨I,I,I,wO,I,I⟩ (W.cn<|J (fun _=>(g 45 47 []<|J Zei (RT ?_))) (noF (ah OM)))))) (noF tO)
       rw[dw h hl3 hc hs (vm hr hk he)];rfl
     ·by_cases heq:e.epoch = (bW p.tasks xs n).epoch
      ·by_cases hlt:e.task < p.tasks.length
       ·obtain⟨t,ht⟩:=ak (xs:=p.tasks) (n:=e.task.toNat) OM
        obtain⟨y,hy⟩:=ak (xs:=(bW p.tasks xs n).results) (n:=e.task.toNat) OM
        by_cases hye:y = emp
        ·obtain⟨_,_,a3,a4⟩:=bP h ht
         have cd:=ic (bW p.tasks xs n).results t.deps (fun d hd=>by have:=a4 d hd;omega) OM
         by_cases hrd:cF (bW p.tasks xs n).results t.deps
         ·rw[decide_eq_true hrd]at cd
          obtain⟨hc2,e1⟩:=nA hc hs (wB hr hk heq hlt hy hye ht hrd)
          conv=>whnf
          refine g 0 0 []<|J UA<|W.sq<|W.cn<|J (fun _=>(W.skip (W.sq (W.blk (g 27 30 [.x (aq s0)]<|J Zck (g 30 35 [.call (ku (some e)) [[]]]<|J Zd8 (W.sq (g 8 9 []<|J UB (W.cn<|J (noT rfl) fun _=>(W.skip ?_)))))))))) (noF SI)
          refine W.sq<|g 35 40 []<|J UC<|W.cn<|J (noT dO) fun _=>W.skip<|W.sq<|g 63 80 [BF,BF,BF,BF,BF,BF,BF,BF,BF,BF,BF,.n (Int.toNat e.task),BF,.x (aq y),BF,BF,BF,BF,BF,BF,BF,BF,.x (aD t),BF,BF,BF,.call VT [[],[]],BF,BF] ?_
          conv=>whnf
          refine J Za7<|W.cn<|J (noT rfl) fun _=>W.skip<|rg [.n (Int.toNat e.task),.x (aq y)]<|J ⟨I,I,I,I,I,Zdq,Zef,I⟩<|rg [.i ((n:Int) +1)]<|J Zdp ?_
          refine⟨n+1,[some 2,some 4,some 23],[],⟨rfl,⟨Zah,rfl,rfl,rfl,(congrArg (fun z=>V.t (T.v (Value.int _ z))) (by rw[e1])),rfl,rfl,rfl,rfl,rfl,rfl,I⟩,⟨Zad,⟨Zac,⟨⟨rfl,⟨(congrArg (V.own _) (by rw[e1,List.map_set];rfl)),I⟩⟩,I⟩⟩⟩,I⟩,?_,?_⟩
          rotate_left
          (dsimp only;omega)
          dsimp only
          exact⟨by omega,hc2,by rw[e1];dsimp only;omega,by rw[e1];dsimp only;omega⟩
         ·rw[decide_eq_false hrd]at cd
          conv=>whnf
          refine g 0 0 []<|J UA<|W.sq<|W.cn<|J (fun _=>(W.skip (W.sq (W.blk (g 27 30 [.x (aq s0)]<|J Zck (g 30 35 [.call (ku (some e)) [[]]]<|J Zd8 (W.sq (g 8 9 []<|J UB (W.cn<|J (noT rfl) fun _=>(W.skip ?_)))))))))) (noF SI)
          refine W.sq<|g 35 40 []<|J UC<|W.cn<|J (noT dO) fun _=>W.skip<|W.sq<|g 63 80 [BF,BF,BF,BF,BF,BF,BF,BF,BF,BF,BF,.n (Int.toNat e.task),BF,.x (aq y),BF,BF,BF,BF,BF,BF,BF,BF,.x (aD t),BF,BF,BF,.call VF [[],[]],BF,BF] ?_
          conv=>whnf
          refine J Za7<|W.cn<|J (fun _=>(g 40 62 []<|J Zei (RT ?_))) (noF rfl)
          rw[dw h hl3 hc hs (CS hr hk ht hrd)];rfl
        ·conv=>whnf
         refine g 0 0 []<|J UA<|W.sq<|W.cn<|J (fun _=>(W.skip (W.sq (W.blk (g 27 30 [.x (aq s0)]<|J Zck (g 30 35 [.call (ku (some e)) [[]]]<|J Zd8 (W.sq (g 8 9 []<|J UB (W.cn<|J (noT rfl) fun _=>(W.skip ?_)))))))))) (noF SI)
         refine W.sq<|g 35 40 []<|J UC<|W.cn<|J (noT dO) fun _=>W.skip<|W.sq<|g 63 80 [BF,BF,BF,BF,BF,BF,BF,BF,BF,BF,BF,.n (Int.toNat e.task),BF,.x (aq y),BF,BF,BT,BT,BT,BT,BT,BT,BT,BT,BT,BT,BT]<|J ⟨I,I,I,I,I,⟨nO,I⟩,⟨nO,I⟩,⟨nO,I⟩,⟨nO,I⟩,⟨nO,I⟩,⟨nO,I⟩,nO,I,⟨SI,I⟩,⟨SI,I⟩,⟨SI,I⟩,⟨SI,OM,LN⟩,⟨SI,xA⟩,⟨SI,I⟩,SI,I,ah OM,ah OM,ah OM,ah OM,ah OM,ah OM,ah OM,ah OM,ah OM,ah OM,ah OM,I⟩<|W.cn<|J (fun _=>(g 40 62 []<|J Zei (RT ?_))) (noF rfl)
         rw[dw h hl3 hc hs (CT hr hk hy hye)];rfl
       ·conv=>whnf
        refine g 0 0 []<|J UA<|W.sq<|W.cn<|J (fun _=>(W.skip (W.sq (W.blk (g 27 30 [.x (aq s0)]<|J Zck (g 30 35 [.call (ku (some e)) [[]]]<|J Zd8 (W.sq (g 8 9 []<|J UB (W.cn<|J (noT rfl) fun _=>(W.skip ?_)))))))))) (noF SI)
        refine W.sq<|g 35 40 []<|J UC<|W.cn<|J (noT dO) fun _=>W.skip<|W.sq<|g 63 80 [BF,BF,BF,BF,BF,BF,BF,BT,BT,BT,BT,BT,BT,BT,BT,BT,BT,BT,BT,BT,BT,BT,BT,BT,BT]<|J ⟨I,I,I,I,I,⟨nO,I⟩,⟨nO,I⟩,⟨nO,I⟩,⟨nO,I⟩,⟨nO,I⟩,⟨nO,I⟩,nO,I,(by simp_all),(by simp_all),(by simp_all),(by simp_all),(by simp_all),(by simp_all),(by simp_all),I,rfl,rfl,rfl,rfl,rfl,rfl,rfl,rfl,rfl,rfl,rfl,I⟩<|W.cn<|J (fun _=>(g 40 62 []<|J Zei (RT ?_))) (noF rfl)
        rw[dw h hl3 hc hs (rm hr hk (fun q=>hlt q.2))];rfl
      ·conv=>whnf
       refine g 0 0 []<|J UA<|W.sq<|W.cn<|J (fun _=>(W.skip (W.sq (W.blk (g 27 30 [.x (aq s0)]<|J Zck (g 30 35 [.call (ku (some e)) [[]]]<|J Zd8 (W.sq (g 8 9 []<|J UB (W.cn<|J (noT rfl) fun _=>(W.skip ?_)))))))))) (noF SI)
       refine W.sq<|g 35 40 []<|J UC<|W.cn<|J (noT dO) fun _=>W.skip<|W.sq<|g 63 80 [BT,BT,BT,BT,BT,BT,BT,BT,BT,BT,BT,BT,BT,BT,BT,BT,BT,BT,BT,BT,BT,BT,BT,BT,BT]<|J ⟨I,I,I,I,I,ah OM,ah OM,ah OM,ah OM,ah OM,ah OM,ah OM,I,rfl,rfl,rfl,rfl,rfl,rfl,rfl,I,rfl,rfl,rfl,rfl,rfl,rfl,rfl,rfl,rfl,rfl,rfl,I⟩<|W.cn<|J (fun _=>(g 40 62 []<|J Zei (RT ?_))) (noF rfl)
       rw[dw h hl3 hc hs (rm hr hk (fun q=>heq q.1))];rfl
   ·conv=>whnf
    refine g 0 0 []<|J UA<|W.sq<|W.cn<|J (noT SI) fun _=>W.exit<|g 5 92 []<|J ⟨I,I,I,UC,I⟩<|RT ?_
    rw[vB h hl3 hc OM]
  ·refine jN ?_
   conv=>whnf
   refine g 0 0 []<|J Zdx<|W.sq<|g 13 18 [.call (V.i 0) [[]],BF,BF,BF,BF]<|J ⟨I,Zaj,I,I,Zde,Zde,Zde,rfl,I⟩<|W.cn<|J (fun h1=>?_) fun h1=>?_
   replace h1:=dt h1
   simp only[LM]at h1
   refine g 18 20 []<|J Zei<|RT ?_
   rotate_left
   replace h1:=df h1
   simp only[LM]at h1
   omega
   rw[lq (fun q=>hl3 q.2)];rfl
 ·refine jN ?_
  conv=>whnf
  refine g 0 0 []<|J Zdx<|W.sq<|g 13 18 [.call (V.i (am p.tasks)) [[]],BT,BT,BT,BT]<|J ⟨I,Zaj,I,I,ah OM,ah OM,ah OM,ah OM,I⟩<|W.cn<|J (fun _=>(g 18 20 []<|J Zei (RT ?_))) (noF rfl)
  rw[lq (fun q=>h q.1)];rfl
theorem gz(p:Plan)(xs:List ByteArray)(hp:cR p)(hx:∀ s∈xs,s.size≤281474976710656)(hl:xs.length≤9223372036854775806):F jI [.val (bn p),.val (.t (n7 xs))] (eM (aw p xs)) [[],[]]:=by
 have c1:=cL p hp
 by_cases h:am p.tasks = 0
 ·obtain⟨⟨hl1,hl2⟩,_⟩:=bM h
  rw[h]at c1
  by_cases hl3:xs.length≤310
  ·refine jL ?_
   conv=>whnf
   refine g 0 0 []<|J Zdx<|W.sq<|g 10 13 [.call (V.i 0) [[]],BF,BF,BF,BF]<|J ⟨I,Zaj,I,I,Zde,Zde,Zde,rfl,I⟩<|W.cn<|J (fun h1=>?_) fun h1=>?_
   replace h1:=dt h1
   simp only[LM]at h1
   omega
   replace h1:=df h1
   simp only[LM]at h1
   refine W.skip<|g 14 20 []<|J ⟨I,I,UC,I⟩<|W.sq<|g 0 0 []<|J UA<|W.blk<|W.lp (fun s (n:Nat)=>⟨[(0,s.s 0),(1,s.s 1),(2,s.s 2),(4,s.s 4),(5,s.s 5),(6,.i n),(13,s.s 13)],[(2,[s.c 2 0]),(4,[s.c 4 0,s.c 4 1,s.c 4 2]),(5,[.t (.i 0),.t (.i 0),.own [false] ((List.replicate n emp).map aq)])],[]⟩) (fun(n:Nat)=>n≤p.tasks.length) (fun(n:Nat)=>p.tasks.length - n) (0) [some 2,some 4,some 5] [] ⟨rfl,Zd3,⟨Zad,⟨Zac,Zeb⟩⟩,I⟩ OM ?_
   intro n hn
   conv=>whnf
   refine W.sq<|g 20 22 []<|J UE<|W.cn<|J (fun h2=>?_) fun h2=>?_
   replace h2:=dt h2
   simp only[LM]at h2
   refine W.skip<|W.sq<|W.blk<|rg []<|J ⟨I,I,US,Zdh,I,UA,I⟩<|rg [.i ((n:Int) +1)]<|J Zdg ?_
   rotate_left
   replace h2:=df h2
   simp only[LM]at h2
   refine W.exit<|W.sq<|g 23 25 []<|J UA<|W.blk ?_
   rotate_left
   ·refine⟨n+1,[some 2,some 4,some 5],[],⟨rfl,Zd3,⟨Zad,⟨Zac,⟨⟨rfl,⟨rfl,⟨rfl,⟨(congrArg (V.own _) (by rw[List.replicate_succ',List.map_append];rfl)),I⟩⟩⟩⟩,I⟩⟩⟩,I⟩,?_,?_⟩
    rotate_left
    (dsimp only;omega)
    dsimp only
    omega
   rw[show n = p.tasks.length by omega]
   refine W.lp (fun s (n:Nat)=>⟨[(0,s.s 0),(1,s.s 1),(2,s.s 2),(4,s.s 4),(5,s.s 5),(7,.i n),(13,s.s 13),(22,s.s 22)],[(2,[s.c 2 0]),(4,[s.c 4 0,s.c 4 1,s.c 4 2]),(5,[.t (.i 0),.t (.i (bW p.tasks xs n).epoch),.own [false] ((bW p.tasks xs n).results.map aq)])],[]⟩) (fun(n:Nat)=>n≤xs.length∧kL p.tasks xs n∧0≤(bW p.tasks xs n).epoch∧(bW p.tasks xs n).epoch≤300) (fun(n:Nat)=>xs.length - n) (0) [some 2,some 4,some 5] [] ⟨rfl,⟨⟨_,rfl,_,_,rfl,rfl,rfl⟩,rfl,rfl,rfl,rfl,rfl,rfl,rfl,I⟩,⟨⟨rfl,⟨rfl,I⟩⟩,⟨⟨rfl,⟨rfl,⟨rfl,⟨rfl,I⟩⟩⟩⟩,⟨⟨rfl,⟨rfl,⟨rfl,⟨rfl,I⟩⟩⟩⟩,I⟩⟩⟩,I⟩ ?_ ?_
   ·rw[jm];exact⟨Nat.zero_le _,tz _ _,Int.le_refl _,by show(0:Int)≤300;omega⟩
   rintro n ⟨hn,hc,he0,he1⟩
   have hrl:=CO hc
   by_cases hn2:n < xs.length
   ·obtain⟨s0,hs⟩:=ak hn2
    have hss:=hx s0 (List.mem_of_getElem? hs)
    have cr:=sD s0 hss
    cases hr:dD s0 with
    |none =>
     rw[hr]at cr
     conv=>whnf
     refine W.sq<|g 32 35 []<|J UD<|W.cn<|J (fun _=>(W.skip (W.sq (W.blk (g 35 46 [.x (aq s0),.call (ku none) [[]]]<|J Zeo (W.sq (g 9 10 []<|J UB (W.cn<|J (fun _=>(g 46 49 []<|J Zei (RT ?_))) (noF rfl))))))))) (noF SI)
     rw[dw h hl3 hc hs (yU hr)];rfl
    |some e =>
     rw[hr]at cr
     obtain⟨r1,r2,r3,r4⟩:=CN (ts:=p.tasks) (iJ hr)
     by_cases hk:e.kind = 1
     ·by_cases he:e.epoch = (bW p.tasks xs n).epoch+1
      ·obtain⟨hc2,e1⟩:=nA hc hs (AC hr hk he)
       conv=>whnf
       refine W.sq<|g 32 35 []<|J UD<|W.cn<|J (fun _=>(W.skip (W.sq (W.blk (g 35 46 [.x (aq s0),.call (ku (some e)) [[]]]<|J Zeo (W.sq (g 9 10 []<|J UB (W.cn<|J (noT rfl) fun _=>(W.skip (W.sq ?_)))))))))) (noF SI)
       refine g 46 51 []<|J UC<|W.cn<|J (fun _=>(W.sq (g 51 57 [.i (Tale.epoch (bW p.tasks xs n) +1)]<|J ⟨I,I,I,I,wO,I,I⟩ (W.cn<|J (noT nO) fun _=>(W.skip (g 57 62 []<|J UW (W.exit (rg [.i ((n:Int) +1)]<|J Zdg ?_)))))))) (noF tO)
       refine⟨n+1,[some 2,some 4,some 5],[],⟨rfl,⟨Zah,rfl,rfl,rfl,rfl,rfl,rfl,rfl,I⟩,⟨Zad,⟨Zac,⟨⟨rfl,⟨rfl,⟨(congrArg (fun z=>V.t (T.v (Value.int _ z))) (by rw[e1])),⟨(congrArg (V.own _) (by rw[e1])),I⟩⟩⟩⟩,I⟩⟩⟩,I⟩,?_,?_⟩
       rotate_left
       (dsimp only;omega)
       dsimp only
       exact⟨by omega,hc2,by rw[e1];dsimp only;omega,by rw[e1];dsimp only;omega⟩
      ·conv=>whnf
       refine W.sq<|g 32 35 []<|J UD<|W.cn<|J (fun _=>(W.skip (W.sq (W.blk (g 35 46 [.x (aq s0),.call (ku (some e)) [[]]]<|J Zeo (W.sq (g 9 10 []<|J UB (W.cn<|J (noT rfl) fun _=>(W.skip (W.sq ?_)))))))))) (noF SI)
       refine g 46 51 []<|J UC<|W.cn<|J (fun _=>(W.sq (g 51 57 [.i (Tale.epoch (bW p.tasks xs n) +1)]<|J ⟨I,I,I,I,wO,I,I⟩ (W.cn<|J (fun _=>(g 57 59 []<|J Zei (RT ?_))) (noF (ah OM)))))) (noF tO)
       rw[dw h hl3 hc hs (vm hr hk he)];rfl
     ·by_cases heq:e.epoch = (bW p.tasks xs n).epoch
      ·by_cases hlt:e.task < p.tasks.length
       ·obtain⟨t,ht⟩:=ak (xs:=p.tasks) (n:=e.task.toNat) OM
        obtain⟨y,hy⟩:=ak (xs:=(bW p.tasks xs n).results) (n:=e.task.toNat) OM
        by_cases hye:y = emp
        ·obtain⟨_,_,a3,a4⟩:=bP h ht
         have cd:=gy p (bW p.tasks xs n).results e.task r1 ht (fun d hd=>by have:=a4 d hd;omega) OM
         by_cases hrd:cF (bW p.tasks xs n).results t.deps
         ·rw[decide_eq_true hrd]at cd
          obtain⟨hc2,e1⟩:=nA hc hs (wB hr hk heq hlt hy hye ht hrd)
          conv=>whnf
          refine W.sq<|g 32 35 []<|J UD<|W.cn<|J (fun _=>(W.skip (W.sq (W.blk (g 35 46 [.x (aq s0),.call (ku (some e)) [[]]]<|J Zeo (W.sq (g 9 10 []<|J UB (W.cn<|J (noT rfl) fun _=>(W.skip (W.sq ?_)))))))))) (noF SI)
          refine g 46 51 []<|J UC<|W.cn<|J (noT dO) fun _=>W.skip<|W.sq<|g 63 92 [BF,BF,BF,BF,BF,BF,BF,BF,BF,BF,BF,BF,.n (Int.toNat e.task),BF,.x (aq y),BF,BF,BF,BF,BF,BF,BF,BF,.call VT [[],[],[]],BF,BF]<|J Zbd<|W.cn<|J (noT rfl) fun _=>W.skip<|rg [.n (Int.toNat e.task),.x (aq y)]<|J ⟨I,I,I,I,I,I,Zdq,Zef,I⟩<|rg [.i ((n:Int) +1)]<|J Zdg ?_
          refine⟨n+1,[some 2,some 4,some 5],[],⟨rfl,⟨Zah,rfl,rfl,rfl,rfl,rfl,rfl,rfl,I⟩,⟨Zad,⟨Zac,⟨⟨rfl,⟨rfl,⟨(congrArg (fun z=>V.t (T.v (Value.int _ z))) (by rw[e1])),⟨(congrArg (V.own _) (by rw[e1,List.map_set];rfl)),I⟩⟩⟩⟩,I⟩⟩⟩,I⟩,?_,?_⟩
          rotate_left
          (dsimp only;omega)
          dsimp only
          exact⟨by omega,hc2,by rw[e1];dsimp only;omega,by rw[e1];dsimp only;omega⟩
         ·rw[decide_eq_false hrd]at cd
          conv=>whnf
          refine W.sq<|g 32 35 []<|J UD<|W.cn<|J (fun _=>(W.skip (W.sq (W.blk (g 35 46 [.x (aq s0),.call (ku (some e)) [[]]]<|J Zeo (W.sq (g 9 10 []<|J UB (W.cn<|J (noT rfl) fun _=>(W.skip (W.sq ?_)))))))))) (noF SI)
          refine g 46 51 []<|J UC<|W.cn<|J (noT dO) fun _=>W.skip<|W.sq<|g 63 92 [BF,BF,BF,BF,BF,BF,BF,BF,BF,BF,BF,BF,.n (Int.toNat e.task),BF,.x (aq y),BF,BF,BF,BF,BF,BF,BF,BF,.call VF [[],[],[]],BF,BF]<|J Zbd<|W.cn<|J (fun _=>(g 92 94 []<|J Zei (RT ?_))) (noF rfl)
          rw[dw h hl3 hc hs (CS hr hk ht hrd)];rfl
        ·conv=>whnf
         refine W.sq<|g 32 35 []<|J UD<|W.cn<|J (fun _=>(W.skip (W.sq (W.blk (g 35 46 [.x (aq s0),.call (ku (some e)) [[]]]<|J Zeo (W.sq (g 9 10 []<|J UB (W.cn<|J (noT rfl) fun _=>(W.skip (W.sq ?_)))))))))) (noF SI)
         refine g 46 51 []<|J UC<|W.cn<|J (noT dO) fun _=>W.skip<|W.sq<|g 63 92 [BF,BF,BF,BF,BF,BF,BF,BF,BF,BF,BF,BF,.n (Int.toNat e.task),BF,.x (aq y),BF,BF,BT,BT,BT,BT,BT,BT,BT,BT]<|J ⟨I,I,I,I,I,I,⟨nO,I⟩,⟨nO,I⟩,⟨nO,I⟩,⟨nO,I⟩,⟨nO,I⟩,⟨nO,I⟩,nO,I,⟨SI,I⟩,⟨SI,I⟩,⟨SI,I⟩,⟨SI,I⟩,⟨SI,OM,LN⟩,⟨SI,xA⟩,⟨SI,I⟩,SI,I,ah OM,ah OM,ah OM,ah OM,ah OM,ah OM,ah OM,ah OM,I⟩<|W.cn<|J (fun _=>(g 92 94 []<|J Zei (RT ?_))) (noF rfl)
         rw[dw h hl3 hc hs (CT hr hk hy hye)];rfl
       ·conv=>whnf
        refine W.sq<|g 32 35 []<|J UD<|W.cn<|J (fun _=>(W.skip (W.sq (W.blk (g 35 46 [.x (aq s0),.call (ku (some e)) [[]]]<|J Zeo (W.sq (g 9 10 []<|J UB (W.cn<|J (noT rfl) fun _=>(W.skip (W.sq ?_)))))))))) (noF SI)
        refine g 46 51 []<|J UC<|W.cn<|J (noT dO) fun _=>W.skip<|W.sq<|g 63 92 [BF,BF,BF,BF,BF,BF,BF,BT,BT,BT,BT,BT,BT,BT,BT,BT,BT,BT,BT,BT,BT,BT,BT]<|J ⟨I,I,I,I,I,I,⟨nO,I⟩,⟨nO,I⟩,⟨nO,I⟩,⟨nO,I⟩,⟨nO,I⟩,⟨nO,I⟩,nO,I,(by simp_all),(by simp_all),(by simp_all),(by simp_all),(by simp_all),(by simp_all),(by simp_all),(by simp_all),I,rfl,rfl,rfl,rfl,rfl,rfl,rfl,rfl,I⟩<|W.cn<|J (fun _=>(g 92 94 []<|J Zei (RT ?_))) (noF rfl)
        rw[dw h hl3 hc hs (rm hr hk (fun q=>hlt q.2))];rfl
      ·conv=>whnf
       refine W.sq<|g 32 35 []<|J UD<|W.cn<|J (fun _=>(W.skip (W.sq (W.blk (g 35 46 [.x (aq s0),.call (ku (some e)) [[]]]<|J Zeo (W.sq (g 9 10 []<|J UB (W.cn<|J (noT rfl) fun _=>(W.skip (W.sq ?_)))))))))) (noF SI)
       refine g 46 51 []<|J UC<|W.cn<|J (noT dO) fun _=>W.skip<|W.sq<|g 63 92 [BT,BT,BT,BT,BT,BT,BT,BT,BT,BT,BT,BT,BT,BT,BT,BT,BT,BT,BT,BT,BT,BT,BT]<|J ⟨I,I,I,I,I,I,ah OM,ah OM,ah OM,ah OM,ah OM,ah OM,ah OM,I,rfl,rfl,rfl,rfl,rfl,rfl,rfl,rfl,I,rfl,rfl,rfl,rfl,rfl,rfl,rfl,rfl,I⟩<|W.cn<|J (fun _=>(g 92 94 []<|J Zei (RT ?_))) (noF rfl)
       rw[dw h hl3 hc hs (rm hr hk (fun q=>heq q.1))];rfl
   ·conv=>whnf
    refine W.sq<|g 32 35 []<|J UD<|W.cn<|J (noT SI) fun _=>W.exit<|g 5 102 []<|J Zei<|RT ?_
    rw[vB h hl3 hc OM]
  ·refine jL ?_
   conv=>whnf
   refine g 0 0 []<|J Zdx<|W.sq<|g 10 13 [.call (V.i 0) [[]],BF,BF,BF,BF]<|J ⟨I,Zaj,I,I,Zde,Zde,Zde,rfl,I⟩<|W.cn<|J (fun h1=>?_) fun h1=>?_
   replace h1:=dt h1
   simp only[LM]at h1
   refine g 14 19 []<|J Zei<|RT ?_
   rotate_left
   replace h1:=df h1
   simp only[LM]at h1
   omega
   rw[lq (fun q=>hl3 q.2)];rfl
 ·refine jL ?_
  conv=>whnf
  refine g 0 0 []<|J Zdx<|W.sq<|g 10 13 [.call (V.i (am p.tasks)) [[]],BT,BT,BT,BT]<|J ⟨I,Zaj,I,I,ah OM,ah OM,ah OM,ah OM,I⟩<|W.cn<|J (fun _=>(g 14 19 []<|J Zei (RT ?_))) (noF rfl)
  rw[lq (fun q=>h q.1)];rfl
end Go.K
end
section
open Go Go.Tm Go.Proofs
namespace Go.K
def fV(w:Worker):Prop:=(1≤w.lease∧w.lease≤300000000)∧(0≤w.task∧w.task≤39)
def eE(w:Worker):Prop:=w.state = 0∧w.lease = 0∧w.task = 0∧w.cost = 0∧w.left = 0∧(w.inputs.length:Int) = 0∧w.text = emp
def dB(w:Worker):Prop:=w.state = 1∧fV w∧(1≤w.cost∧w.cost≤20)∧(1≤w.left∧w.left≤w.cost)∧dV w.inputs∧w.text = emp
def eD(w:Worker):Prop:=w.state = 2∧fV w∧w.cost = 0∧w.left = 0∧(w.inputs.length:Int) = 0∧(w.text.size:Int) = 8
def au(w:Worker):Prop:=(1≤w.number∧w.number≤8)∧(1≤w.epoch∧w.epoch≤300)∧(0≤w.since∧w.since≤1000000)∧(w.up = true∨(w.state = 0∧w.since = 0))∧(eE w∨dB w∨eD w)
instance (w:Worker):Decidable (au w):=by unfold au eE dB eD fV;infer_instance
theorem ar(w:Worker)(hl:w.inputs.length≤9223372036854775806):F oX [.val (eC w)] (.b (decide (au w))) [[]]:=by
 refine pe ?_
 conv=>whnf
 refine g 0 1 []<|J Zee<|W.sq ?_
 by_cases h1:(1:Int)≤Worker.number w∧Worker.number w≤(8:Int)
 by_cases h2:(1:Int)≤Worker.epoch w∧Worker.epoch w≤(300:Int)
 refine g 9 13 [.call (V.b (decide (1≤w.number∧w.number≤8))) [[],[],[]],BF,BF,BF,.call (V.b (decide (1≤w.epoch∧w.epoch≤300))) [[],[],[]],BF,BF,BF,BF,BF,.call (V.b (decide (0≤w.since∧w.since≤1000000))) [[],[],[]],BF,BF]<|J ⟨I,I,⟨UC,I,UU,UA,ai _ _ _⟩,I,I,⟨nO,I⟩,⟨nO,I⟩,⟨nO,UC,I,UU,UA,ai _ _ _⟩,⟨nO,I⟩,nO,I,⟨nO,I⟩,⟨nO,I⟩,⟨nO,UC,I,UU,UA,ai _ _ _⟩,⟨nO,I⟩,nO,I⟩<|W.cn<|J (fun h3=>?_) fun h3=>?_
 replace h3:=ndt h3
 refine g 15 18 []<|J UA<|RT ?_
 rotate_left
 replace h3:=ndf h3
 refine W.skip<|W.sq ?_
 by_cases h4:Worker.up w = true
 refine g 26 31 [BF,BF,BF,BF,BF,BF,BF,BF,BF]<|J ⟨I,I,I,I,nbF AS,nbF AS,nbF AS,nbF AS,I,I,I,nbF AS,nbF AS,I⟩<|W.cn<|J (noT rfl) fun _=>W.skip<|W.sq<|g 5 8 []<|J UB<|W.blk<|g 15 18 []<|J UB<|W.cn<|J (fun h5=>?_) fun h5=>?_
 replace h5:=dt h5
 by_cases h6:Worker.lease w = (0:Int)
 by_cases h7:Worker.task w = (0:Int)
 by_cases h8:Worker.cost w = (0:Int)
 by_cases h9:Worker.left w = (0:Int)
 by_cases h10:(↑(List.length (List.map aq (Worker.inputs w))):Int) = (0:Int)
 simp only[LM]at h10
 refine g 8 65 [BT,BT,BT,BT,BT,BT,BT,BT,BT,BT,BT,BT,BT,BT,BT,BT,BT,BT,BT,BT,BT]<|J Zau<|RT ?_
 rotate_left
 simp only[LM]at h10
 refine g 8 65 [BT,BT,BT,BT,BT,BT,BT,BT,BT,BT,BT,BT,BT,BT,BT,BT,BT,BF,BF,BF,BF]<|J ⟨I,I,I,I,⟨tO,I⟩,⟨tO,I⟩,⟨tO,I⟩,tO,I,⟨tO,I⟩,⟨tO,I⟩,⟨tO,I⟩,tO,I,⟨tO,I⟩,⟨tO,I⟩,⟨tO,I⟩,tO,I,⟨tO,I⟩,⟨tO,I⟩,⟨tO,I⟩,⟨tO,I⟩,tO,I,(by simp_all),(by simp_all),(by simp_all),(by simp_all),I,I⟩<|RT ?_
 rotate_left
 refine g 8 65 [BT,BT,BT,BT,BT,BT,BT,BT,BT,BT,BT,BT,BF,BF,BF,BF,BF,BF,BF,BF,BF]<|J Za0<|RT ?_
 rotate_left
 refine g 8 65 [BT,BT,BT,BT,BT,BT,BT,BT,BF,BF,BF,BF,BF,BF,BF,BF,BF,BF,BF,BF,BF]<|J Zba<|RT ?_
 rotate_left
 refine g 8 65 [BT,BT,BT,BT,BF,BF,BF,BF,BF,BF,BF,BF,BF,BF,BF,BF,BF,BF,BF,BF,BF]<|J Zbk<|RT ?_
 rotate_left
 refine g 8 65 [BF,BF,BF,BF,BF,BF,BF,BF,BF,BF,BF,BF,BF,BF,BF,BF,BF,BF,BF,BF,BF]<|J Za6<|RT ?_
 rotate_left
 replace h5:=df h5
 refine g 21 24 []<|J UB<|W.cn<|J (fun h6=>?_) fun h6=>?_
 replace h6:=dt h6
 by_cases h7:(1:Int)≤Worker.lease w∧Worker.lease w≤(300000000:Int)
 by_cases h8:(0:Int)≤Worker.task w∧Worker.task w≤(39:Int)
 by_cases h9:(1:Int)≤Worker.cost w∧Worker.cost w≤(20:Int)
 by_cases h10:(1:Int)≤Worker.left w∧Worker.left w≤Worker.cost w
 by_cases h11:dV (Worker.inputs w)
 refine g 8 97 [.call (V.b (decide (1≤w.lease∧w.lease≤300000000))) [[]],BT,BT,BT,.call (V.b (decide (0≤w.task∧w.task≤39))) [[],[],[]],BT,BT,BT,BT,.call (V.b (decide (1≤w.cost∧w.cost≤20))) [[],[],[]],BT,BT,BT,BT,BT,BT,.call (V.b (decide (1≤w.left∧w.left≤w.cost))) [[],[],[]],BT,BT,BT,BT,.call (V.b (decide (dV w.inputs))) [[]],BT,BT,BT,BT,BT]<|J ⟨I,I,⟨UA,I,US,UA,aA _⟩,I,⟨tO,I⟩,⟨tO,I⟩,⟨tO,UC,I,UU,UA,ai _ _ _⟩,tO,I,⟨tO,I⟩,⟨tO,I⟩,⟨tO,UC,I,UU,UA,ai _ _ _⟩,tO,I,⟨tO,I⟩,⟨tO,I⟩,⟨tO,I⟩,⟨tO,I⟩,⟨tO,UC,I,UU,UA,ai _ _ _⟩,tO,I,⟨tO,I⟩,⟨tO,I⟩,⟨tO,UA,I,US,UA,eh _ OM⟩,tO,I,⟨tO,I⟩,⟨tO,I⟩,⟨tO,I⟩,tO,I,I⟩<|RT ?_
 rotate_left
 refine g 8 97 [.call (V.b (decide (1≤w.lease∧w.lease≤300000000))) [[]],BT,BT,BT,.call (V.b (decide (0≤w.task∧w.task≤39))) [[],[],[]],BT,BT,BT,BT,.call (V.b (decide (1≤w.cost∧w.cost≤20))) [[],[],[]],BT,BT,BT,BT,BT,BT,.call (V.b (decide (1≤w.left∧w.left≤w.cost))) [[],[],[]],BT,BT,BT,BT,.call (V.b (decide (dV w.inputs))) [[]],BT,BF,BF,BF,BF]<|J ⟨I,I,⟨UA,I,US,UA,aA _⟩,I,⟨tO,I⟩,⟨tO,I⟩,⟨tO,UC,I,UU,UA,ai _ _ _⟩,tO,I,⟨tO,I⟩,⟨tO,I⟩,⟨tO,UC,I,UU,UA,ai _ _ _⟩,tO,I,⟨tO,I⟩,⟨tO,I⟩,⟨tO,I⟩,⟨tO,I⟩,⟨tO,UC,I,UU,UA,ai _ _ _⟩,tO,I,⟨tO,I⟩,⟨tO,I⟩,⟨tO,UA,I,US,UA,eh _ OM⟩,tO,I,dO,dO,dO,dO,I,I⟩<|RT ?_
 rotate_left
 refine g 8 97 [.call (V.b (decide (1≤w.lease∧w.lease≤300000000))) [[]],BT,BT,BT,.call (V.b (decide (0≤w.task∧w.task≤39))) [[],[],[]],BT,BT,BT,BT,.call (V.b (decide (1≤w.cost∧w.cost≤20))) [[],[],[]],BT,BT,BT,BT,BT,BT,.call (V.b (decide (1≤w.left∧w.left≤w.cost))) [[],[],[]],BT,BF,BF,BF,BF,BF,BF,BF,BF]<|J ⟨I,I,⟨UA,I,US,UA,aA _⟩,I,⟨tO,I⟩,⟨tO,I⟩,⟨tO,UC,I,UU,UA,ai _ _ _⟩,tO,I,⟨tO,I⟩,⟨tO,I⟩,⟨tO,UC,I,UU,UA,ai _ _ _⟩,tO,I,⟨tO,I⟩,⟨tO,I⟩,⟨tO,I⟩,⟨tO,I⟩,⟨tO,UC,I,UU,UA,ai _ _ _⟩,tO,I,dO,dO,dO,dO,I,rfl,rfl,rfl,rfl,I,I⟩<|RT ?_
 rotate_left
 refine g 8 97 [.call (V.b (decide (1≤w.lease∧w.lease≤300000000))) [[]],BT,BT,BT,.call (V.b (decide (0≤w.task∧w.task≤39))) [[],[],[]],BT,BT,BT,BT,.call (V.b (decide (1≤w.cost∧w.cost≤20))) [[],[],[]],BT,BF,BF,BF,BF,BF,BF,BF,BF,BF,BF,BF,BF,BF,BF]<|J ⟨I,I,⟨UA,I,US,UA,aA _⟩,I,⟨tO,I⟩,⟨tO,I⟩,⟨tO,UC,I,UU,UA,ai _ _ _⟩,tO,I,⟨tO,I⟩,⟨tO,I⟩,⟨tO,UC,I,UU,UA,ai _ _ _⟩,tO,I,dO,dO,dO,dO,dO,dO,I,rfl,rfl,rfl,rfl,I,rfl,rfl,rfl,rfl,I,I⟩<|RT ?_
 rotate_left
 refine g 8 97 [.call (V.b (decide (1≤w.lease∧w.lease≤300000000))) [[]],BT,BT,BT,.call (V.b (decide (0≤w.task∧w.task≤39))) [[],[],[]],BT,BF,BF,BF,BF,BF,BF,BF,BF,BF,BF,BF,BF,BF,BF,BF,BF,BF,BF]<|J ⟨I,I,⟨UA,I,US,UA,aA _⟩,I,⟨tO,I⟩,⟨tO,I⟩,⟨tO,UC,I,UU,UA,ai _ _ _⟩,tO,I,dO,dO,dO,dO,I,rfl,rfl,rfl,rfl,rfl,rfl,I,rfl,rfl,rfl,rfl,I,rfl,rfl,rfl,rfl,I,I⟩<|RT ?_
 rotate_left
 refine g 8 97 [.call (V.b (decide (1≤w.lease∧w.lease≤300000000))) [[]],BF,BF,BF,BF,BF,BF,BF,BF,BF,BF,BF,BF,BF,BF,BF,BF,BF,BF,BF,BF,BF,BF]<|J ⟨I,I,⟨UA,I,US,UA,aA _⟩,I,dO,dO,dO,dO,I,rfl,rfl,rfl,rfl,I,rfl,rfl,rfl,rfl,rfl,rfl,I,rfl,rfl,rfl,rfl,I,rfl,rfl,rfl,rfl,I,I⟩<|RT ?_
 rotate_left
 replace h6:=df h6
 refine g 25 67 []<|J UB<|W.cn<|J (fun h7=>?_) fun h7=>?_
 replace h7:=dt h7
 by_cases h8:(1:Int)≤Worker.lease w∧Worker.lease w≤(300000000:Int)
 by_cases h9:(0:Int)≤Worker.task w∧Worker.task w≤(39:Int)
 by_cases h10:(↑(ByteArray.size (Worker.text w)):Int) = (8:Int)
 by_cases h11:Worker.cost w = (0:Int)
 by_cases h12:Worker.left w = (0:Int)
 refine g 8 129 [.call (V.b (decide (1≤w.lease∧w.lease≤300000000))) [[]],BT,BT,BT,.call (V.b (decide (0≤w.task∧w.task≤39))) [[],[],[]],BT,BT,BT,BT,BT,BT,BT,BT,BT,BT,BT,BT,BT,BT,BT,BT,BT,BT,BT]<|J ⟨I,I,⟨UA,I,US,UA,aA _⟩,I,⟨tO,I⟩,⟨tO,I⟩,⟨tO,UC,I,UU,UA,ai _ _ _⟩,tO,I,⟨tO,I⟩,⟨tO,I⟩,⟨tO,I⟩,⟨tO,I⟩,tO,I,⟨tO,I⟩,⟨tO,I⟩,⟨tO,I⟩,tO,I,⟨tO,I⟩,⟨tO,I⟩,⟨tO,I⟩,tO,I,⟨tO,I⟩,⟨tO,I⟩,⟨tO,I⟩,⟨tO,I⟩,tO,I,I⟩<|RT ?_
 rotate_left
 refine g 8 129 [.call (V.b (decide (1≤w.lease∧w.lease≤300000000))) [[]],BT,BT,BT,.call (V.b (decide (0≤w.task∧w.task≤39))) [[],[],[]],BT,BT,BT,BT,BT,BT,BT,BT,BT,BT,BT,BT,BT,BT,BF,BF,BF,BF,BF]<|J ⟨I,I,⟨UA,I,US,UA,aA _⟩,I,⟨tO,I⟩,⟨tO,I⟩,⟨tO,UC,I,UU,UA,ai _ _ _⟩,tO,I,⟨tO,I⟩,⟨tO,I⟩,⟨tO,I⟩,⟨tO,I⟩,tO,I,⟨tO,I⟩,⟨tO,I⟩,⟨tO,I⟩,tO,I,⟨tO,I⟩,⟨tO,I⟩,⟨tO,I⟩,tO,I,dO,dO,dO,dO,dO,I,I⟩<|RT ?_
 rotate_left
 refine g 8 129 [.call (V.b (decide (1≤w.lease∧w.lease≤300000000))) [[]],BT,BT,BT,.call (V.b (decide (0≤w.task∧w.task≤39))) [[],[],[]],BT,BT,BT,BT,BT,BT,BT,BT,BT,BT,BF,BF,BF,BF,BF,BF,BF,BF,BF]<|J ⟨I,I,⟨UA,I,US,UA,aA _⟩,I,⟨tO,I⟩,⟨tO,I⟩,⟨tO,UC,I,UU,UA,ai _ _ _⟩,tO,I,⟨tO,I⟩,⟨tO,I⟩,⟨tO,I⟩,⟨tO,I⟩,tO,I,⟨tO,I⟩,⟨tO,I⟩,⟨tO,I⟩,tO,I,dO,dO,dO,dO,I,rfl,rfl,rfl,rfl,rfl,I,I⟩<|RT ?_
 rotate_left
 refine g 8 129 [.call (V.b (decide (1≤w.lease∧w.lease≤300000000))) [[]],BT,BT,BT,.call (V.b (decide (0≤w.task∧w.task≤39))) [[],[],[]],BT,BT,BT,BT,BT,BT,BF,BF,BF,BF,BF,BF,BF,BF,BF,BF,BF,BF,BF]<|J ⟨I,I,⟨UA,I,US,UA,aA _⟩,I,⟨tO,I⟩,⟨tO,I⟩,⟨tO,UC,I,UU,UA,ai _ _ _⟩,tO,I,⟨tO,I⟩,⟨tO,I⟩,⟨tO,I⟩,⟨tO,I⟩,tO,I,dO,dO,dO,dO,I,rfl,rfl,rfl,rfl,I,rfl,rfl,rfl,rfl,rfl,I,I⟩<|RT ?_
 rotate_left
 refine g 8 129 [.call (V.b (decide (1≤w.lease∧w.lease≤300000000))) [[]],BT,BT,BT,.call (V.b (decide (0≤w.task∧w.task≤39))) [[],[],[]],BT,BF,BF,BF,BF,BF,BF,BF,BF,BF,BF,BF,BF,BF,BF,BF,BF,BF,BF]<|J ⟨I,I,⟨UA,I,US,UA,aA _⟩,I,⟨tO,I⟩,⟨tO,I⟩,⟨tO,UC,I,UU,UA,ai _ _ _⟩,tO,I,dO,dO,dO,dO,dO,I,rfl,rfl,rfl,rfl,I,rfl,rfl,rfl,rfl,I,rfl,rfl,rfl,rfl,rfl,I,I⟩<|RT ?_
 rotate_left
 refine g 8 129 [.call (V.b (decide (1≤w.lease∧w.lease≤300000000))) [[]],BF,BF,BF,BF,BF,BF,BF,BF,BF,BF,BF,BF,BF,BF,BF,BF,BF,BF,BF,BF,BF,BF]<|J ⟨I,I,⟨UA,I,US,UA,aA _⟩,I,dO,dO,dO,dO,I,rfl,rfl,rfl,rfl,rfl,I,rfl,rfl,rfl,rfl,I,rfl,rfl,rfl,rfl,I,rfl,rfl,rfl,rfl,rfl,I,I⟩<|RT ?_
 rotate_left
 replace h7:=df h7
 refine W.skip<|g 8 99 []<|J UA<|RT ?_
 rotate_left
 replace h4:=Bool.eq_false_iff.2 h4
 by_cases h5:Worker.state w = (0:Int)
 refine g 26 31 [BT,BT,BT,BT,BF,BF,BF,BT,BF,BT]<|J Zcp<|W.cn<|J (fun h6=>?_) fun h6=>?_
 replace h6:=ndt h6
 refine g 5 8 []<|J UA<|RT ?_
 rotate_left
 replace h6:=ndf h6
 refine W.skip<|W.sq<|g 5 8 []<|J UB<|W.blk<|g 15 18 []<|J UB<|W.cn<|J (fun _=>?_) (noF tO)
 by_cases h7:Worker.lease w = (0:Int)
 by_cases h8:Worker.task w = (0:Int)
 by_cases h9:Worker.cost w = (0:Int)
 by_cases h10:Worker.left w = (0:Int)
 by_cases h11:(↑(List.length (List.map aq (Worker.inputs w))):Int) = (0:Int)
 simp only[LM]at h11
 refine g 8 65 [BT,BT,BT,BT,BT,BT,BT,BT,BT,BT,BT,BT,BT,BT,BT,BT,BT,BT,BT,BT,BT]<|J Zau<|RT ?_
 rotate_left
 simp only[LM]at h11
 refine g 8 65 [BT,BT,BT,BT,BT,BT,BT,BT,BT,BT,BT,BT,BT,BT,BT,BT,BT,BF,BF,BF,BF]<|J ⟨I,I,I,I,⟨tO,I⟩,⟨tO,I⟩,⟨tO,I⟩,tO,I,⟨tO,I⟩,⟨tO,I⟩,⟨tO,I⟩,tO,I,⟨tO,I⟩,⟨tO,I⟩,⟨tO,I⟩,tO,I,⟨tO,I⟩,⟨tO,I⟩,⟨tO,I⟩,⟨tO,I⟩,tO,I,(by simp_all),(by simp_all),(by simp_all),(by simp_all),I,I⟩<|RT ?_
 rotate_left
 refine g 8 65 [BT,BT,BT,BT,BT,BT,BT,BT,BT,BT,BT,BT,BF,BF,BF,BF,BF,BF,BF,BF,BF]<|J Za0<|RT ?_
 rotate_left
 refine g 8 65 [BT,BT,BT,BT,BT,BT,BT,BT,BF,BF,BF,BF,BF,BF,BF,BF,BF,BF,BF,BF,BF]<|J Zba<|RT ?_
 rotate_left
 refine g 8 65 [BT,BT,BT,BT,BF,BF,BF,BF,BF,BF,BF,BF,BF,BF,BF,BF,BF,BF,BF,BF,BF]<|J Zbk<|RT ?_
 rotate_left
 refine g 8 65 [BF,BF,BF,BF,BF,BF,BF,BF,BF,BF,BF,BF,BF,BF,BF,BF,BF,BF,BF,BF,BF]<|J Za6<|RT ?_
 rotate_left
 refine g 26 31 [BT,BT,BT,BT,BT,BT,BT,BT,BT,BT]<|J Zcq<|W.cn<|J (fun _=>(g 5 8 []<|J UA (RT ?_))) (noF rfl)
 rotate_left
 refine g 9 13 [.call (V.b (decide (1≤w.number∧w.number≤8))) [[],[],[]],BF,BF,BF,.call (V.b (decide (1≤w.epoch∧w.epoch≤300))) [[],[],[]],BF,BF,BT,BT,BT,BT,BT]<|J ⟨I,I,⟨UC,I,UU,UA,ai _ _ _⟩,I,I,⟨nO,I⟩,⟨nO,I⟩,⟨nO,UC,I,UU,UA,ai _ _ _⟩,⟨nO,I⟩,nO,I,ah OM,ah OM,ah OM,ah OM,ah OM,I⟩<|W.cn<|J (fun _=>(g 15 18 []<|J UA (RT ?_))) (noF rfl)
 rotate_left
 refine g 9 13 [.call (V.b (decide (1≤w.number∧w.number≤8))) [[],[],[]],BT,BT,BT,BT,BT,BT,BT,BT,BT,BT]<|J ⟨I,I,⟨UC,I,UU,UA,ai _ _ _⟩,I,I,ah OM,ah OM,ah OM,ah OM,ah OM,I,rfl,rfl,rfl,rfl,rfl,I⟩<|W.cn<|J (fun _=>(g 15 18 []<|J UA (RT ?_))) (noF rfl)
 rotate_left
 all_goals (try simp only[List.length_map,decide_eq_true_eq,Bool.not_eq_true,Bool.not_eq_true',decide_eq_false_iff_not]at *)
 all_goals first
  |exact vbf (by unfold au eE dB eD fV;grind)
  |exact vbt (by unfold au eE dB eD fV;grind)
  |exact vbd (by unfold au eE dB eD fV;grind)
end Go.K
end
section
open Go Go.Tm Go.Proofs
namespace Go.K
theorem oO(w:Worker)(s:Int):F om [.val (eC w),.val (.i s)] (aE ⟨w.number,w.epoch,w.up,0,0,0,0,0,[],emp,s⟩) [[],[]]:=by
 refine oB ?_
 conv=>whnf
 refine g 0 0 []<|J Zee<|g 5 13 []<|J ⟨I,I,I,I,I,I,I,I,UK,I⟩<|RT ?_
 rfl
theorem dZ(xs:List ByteArray)(hl:xs.length≤1048576):F Aa [.val (.t (n7 xs))] (.own [false] (xs.map aq)) [[]]:=by
 refine Am ?_
 conv=>whnf
 refine g 0 0 []<|J UA<|g 3 6 []<|J ⟨I,I,Zdh,I,I⟩<|RT ?_
 rfl
theorem aC(w:Worker)(hl:w.inputs.length≤1048576):F xD [.val (eC w)] (aE w) [[]]:=by
 refine xY ?_
 conv=>whnf
 refine g 0 1 []<|J Zee<|g 3 8 []<|J Zb9<|g 1 2 []<|J Zeh<|RT ?_
 rfl
def pk(w:Worker):Worker:=if au w then⟨w.number,w.epoch,false,0,0,0,0,0,[],emp,0⟩else kT
def li(w:Worker):Worker:=if au w then(if w.up = true∨300≤w.epoch then w else⟨w.number,w.epoch+1,true,0,0,0,0,0,[],emp,3⟩)else kT
theorem GX{w:Worker}(h:¬au w):pk w = kT:=if_neg h
theorem GW{w:Worker}(h:au w):pk w = ⟨w.number,w.epoch,false,0,0,0,0,0,[],emp,0⟩:=if_pos h
theorem qs(w:Worker)(hl:w.inputs.length≤1048576):F qc [.val (eC w)] (aE (pk w)) [[]]:=by
 refine qk ?_
 conv=>whnf
 refine g 0 1 []<|J Zee<|W.sq<|g 4 6 [.call (V.b (decide (au w))) [[]]]<|J ⟨I,⟨UA,I,⟨UK,I⟩,UA,ar _ OM⟩,I,I⟩<|W.cn<|J (fun h1=>?_) fun h1=>?_
 replace h1:=ndt h1
 refine g 6 8 []<|J Zeh<|RT ?_
 rotate_left
 replace h1:=ndf h1
 refine W.skip<|g 6 10 [.call (aE {number:=w.number,epoch:=w.epoch,up:=w.up,state:=0,lease:=0,task:=0,cost:=0,left:=0,inputs:=[],text:=emp,since:=0:Worker}) [[],[]]]<|J ⟨I,⟨UB,I,⟨UK,UA,I⟩,UA,oO _ _⟩,I,UK,I⟩<|g 1 2 []<|J UV<|g 3 12 []<|J Zeh<|RT ?_
 rotate_left
 ·exact congrArg aE (Eq.symm (GX h1))
 ·exact congrArg aE (Eq.symm (GW h1))
theorem Dc{w:Worker}(h:au w):1≤w.epoch∧w.epoch≤300:=h.2.1
theorem Gl{w:Worker}(h:¬au w):li w = kT:=if_neg h
theorem nF{w:Worker}(h:au w)(h1:w.up = true∨300≤w.epoch):li w = w:=by rw[li,if_pos h,if_pos h1]
theorem Gk{w:Worker}(h:au w)(h1:¬(w.up = true∨300≤w.epoch)):li w = ⟨w.number,w.epoch+1,true,0,0,0,0,0,[],emp,3⟩:=by rw[li,if_pos h,if_neg h1]
theorem qr(w:Worker)(hl:w.inputs.length≤1048576):F qb [.val (eC w)] (aE (li w)) [[]]:=by
 by_cases h:au w
 ·have he:=Dc h
  refine jj ?_
  conv=>whnf
  refine g 0 1 []<|J Zee<|W.sq<|g 4 6 [.call (V.b (decide (au w))) [[]]]<|J ⟨I,⟨UA,I,⟨UK,I⟩,UA,ar _ OM⟩,I,I⟩<|W.cn<|J (noT nO) fun _=>W.skip<|W.sq ?_
  by_cases h1:Worker.up w = true
  refine g 6 14 [BT,BT,BT,BT]<|J ⟨I,I,I,AS,AS,AS,AS,I⟩<|W.cn<|J (fun _=>(g 14 17 [.call (aE w) [[]]]<|J ⟨I,⟨UA,I,⟨UK,I⟩,UA,aC _ OM⟩,UK,I⟩ (RT ?_))) (noF rfl)
  rotate_left
  replace h1:=Bool.eq_false_iff.2 h1
  refine g 6 14 [BF,BF,BF,BF]<|J ⟨I,I,I,⟨AS,I⟩,⟨AS,I⟩,⟨AS,I⟩,AS,I⟩<|W.cn<|J (fun h2=>?_) fun h2=>?_
  replace h2:=dt h2
  refine g 14 17 [.call (aE w) [[]]]<|J ⟨I,⟨UA,I,⟨UK,I⟩,UA,aC _ OM⟩,UK,I⟩<|RT ?_
  rotate_left
  replace h2:=df h2
  refine W.skip<|g 14 19 [.call (aE {number:=w.number,epoch:=w.epoch,up:=w.up,state:=0,lease:=0,task:=0,cost:=0,left:=0,inputs:=[],text:=emp,since:=3:Worker}) [[],[]]]<|J ⟨I,⟨UB,I,⟨UK,UA,I⟩,UA,oO _ _⟩,I,UK,I⟩<|g 19 20 []<|J UV<|g 20 24 [.i (w.epoch+1)]<|J Zbb<|g 3 25 []<|J Zeh<|RT ?_
  rotate_left
  ·rw[nF h (by grind)]
  ·rw[nF h (by grind)]
  ·exact congrArg aE (Eq.symm (Gk h (by grind)))
 ·refine jj ?_
  conv=>whnf
  refine g 0 1 []<|J Zee<|W.sq<|g 4 6 [.call (V.b (decide (au w))) [[]]]<|J ⟨I,⟨UA,I,⟨UK,I⟩,UA,ar _ OM⟩,I,I⟩<|W.cn<|J (fun _=>(g 6 8 []<|J Zeh (RT ?_))) (noF (ah OM))
  exact congrArg aE (Eq.symm (Gl h))
end Go.K
end
section
open Go Go.Tm Go.Proofs
namespace Go.K
structure Log where
 safe:List ByteArray
 loose:List ByteArray
 deriving DecidableEq
abbrev RC(x:Log):V:=.agg [.t (.slc [false] (x.safe.map aq)),.t (.slc [false] (x.loose.map aq))]
abbrev RD(x:Log):V:=.agg [.own [false] (x.safe.map aq),.own [false] (x.loose.map aq)]
structure Job where
 lease:Int
 worker:Int
 til:Int
 deriving DecidableEq
abbrev aH(x:Job):List T:=[.i x.lease,.i x.worker,.i x.til]
abbrev ey:List Bool:=[false,false,false]
abbrev eS:Job:=⟨0,0,0⟩
structure Seat where
 free:Bool
 epoch:Int
 deriving DecidableEq
abbrev aI(x:Seat):List T:=[.b x.free,.i x.epoch]
abbrev cz:List Bool:=[false,false]
abbrev jB:Seat:=⟨false,0⟩
structure Owed where
 worker:Int
 lease:Int
 task:Int
 deriving DecidableEq
abbrev aX(x:Owed):List T:=[.i x.worker,.i x.lease,.i x.task]
abbrev cA:List Bool:=[false,false,false]
structure Boss where
 workers:Int
 up:Bool
 now:Int
 since:Int
 epoch:Int
 given:Int
 log:Log
 results:List ByteArray
 jobs:List Job
 seats:List Seat
 owed:List Owed
 deriving DecidableEq
abbrev cE(x:Boss):V:=.agg [.t (.i x.workers),.t (.b x.up),.t (.i x.now),.t (.i x.since),.t (.i x.epoch),.t (.i x.given),.t (.slc [false] (x.log.safe.map aq)),.t (.slc [false] (x.log.loose.map aq)),.t (.slc [false] (x.results.map aq)),.t (.slc ey (x.jobs.map aH)),.t (.slc cz (x.seats.map aI)),.t (.slc cA (x.owed.map aX))]
abbrev ay(x:Boss):V:=.agg [.t (.i x.workers),.t (.b x.up),.t (.i x.now),.t (.i x.since),.t (.i x.epoch),.t (.i x.given),.own [false] (x.log.safe.map aq),.own [false] (x.log.loose.map aq),.own [false] (x.results.map aq),.own ey (x.jobs.map aH),.own cz (x.seats.map aI),.own cA (x.owed.map aX)]
abbrev fC:Boss:=⟨0,false,0,0,0,0,⟨[],[]⟩,[],[],[],[]⟩
def atS(rs:List ByteArray)(k:Int):ByteArray:=(rs[k.toNat]?).getD emp
def mr(ts:List Task)(n:Nat):List Int:=((ts[n]?).map Task.deps).getD []
structure JobOk (b:Boss) (ts:List Task) (i:Nat) (j:Job):Prop where
 lease:(b.epoch - 1) * 1000000+1≤j.lease∧j.lease≤(b.epoch - 1) * 1000000+b.given
 worker:1≤j.worker∧j.worker≤b.workers
 til:b.now+1≤j.til∧j.til≤b.now+12
 res:atS b.results (i:Int) = emp
 ready:cF b.results (mr ts i)
 once:j.lease ∉ (b.jobs.take i).map Job.lease
def Bk(b:Boss)(ts:List Task)(i:Nat)(j:Job):Prop:=(j.lease = 0→j.worker = 0∧j.til = 0)∧(¬j.lease = 0→JobOk b ts i j)
def gt(b:Boss)(ts:List Task)(n:Nat):Prop:=∀ (m:Nat) (j:Job),m < n→b.jobs[m]? = some j→Bk b ts m j
structure OwedOk (b:Boss) (ts:List Task) (o:Owed):Prop where
 worker:1≤o.worker∧o.worker≤b.workers
 lease:1≤o.lease∧o.lease≤300000000
 task:0≤o.task∧o.task≤(ts.length:Int) - 1
 res:¬atS b.results o.task = emp
structure UpOk (b:Boss) (ts:List Task) (st:Story):Prop where
 epoch:b.epoch = st.epoch
 pos:1≤b.epoch
 rlen:b.results.length = ts.length
 jlen:b.jobs.length = ts.length
 slen:(b.seats.length:Int) = b.workers
 res:b.results = st.results
 since:0≤b.since∧b.since≤1
 given:0≤b.given∧b.given≤1000000
 olen:b.owed.length≤2000
 jobs:gt b ts b.jobs.length
 seats:∀ s∈b.seats,0≤s.epoch∧s.epoch≤300
 owed:∀ o∈b.owed,OwedOk b ts o
structure DownOk (b:Boss):Prop where
 loose:b.log.loose.length = 0
 since:b.since = 0
 epoch:b.epoch = 0
 given:b.given = 0
 res:b.results.length = 0
 jobs:b.jobs.length = 0
 seats:b.seats.length = 0
 owed:b.owed.length = 0
noncomputable def bU(b:Boss)(p:Plan):Story:=aw p (b.log.safe++b.log.loose)
structure BossOk (b:Boss) (p:Plan):Prop where
 plan:am p.tasks = 0
 workers:1≤b.workers∧b.workers≤8
 now:0≤b.now∧b.now≤1000000
 code:(bU b p).code = 0
 up:b.up = true→UpOk b p.tasks (bU b p)
 down:b.up = false→DownOk b
noncomputable instance (b:Boss) (p:Plan):Decidable (BossOk b p):=Classical.propDecidable _
theorem fv{b:Boss}{p:Plan}(hup:b.up = true)(h:¬UpOk b p.tasks (bU b p)):¬BossOk b p:=fun q=>h (q.up hup)
theorem vM{b:Boss}{p:Plan}(hup:b.up = false)(h:¬DownOk b):¬BossOk b p:=fun q=>h (q.down hup)
theorem bR{p:Plan}{xs:List ByteArray}(h:(aw p xs).code = 0):am p.tasks = 0∧xs.length≤310∧(aw p xs).results.length = p.tasks.length∧∃ t,ji p.tasks (some (kp p.tasks)) xs = some t∧aw p xs = ⟨0,t.epoch,t.results⟩:=by
 unfold aw at h ⊢
 by_cases hq:am p.tasks = 0∧xs.length≤310
 ·rw[if_pos hq]at h ⊢
  cases hr:ji p.tasks (some (kp p.tasks)) xs with
  |none=>rw[hr]at h;cases h
  |some t =>
   refine⟨hq.1,hq.2,?_,t,rfl,rfl⟩
   have:=ru p.tasks xs _ _ hr
   rw[kp,List.length_replicate]at this
   exact this
 ·rw[if_neg hq]at h;cases h
theorem JT{ts:List Task}{t t':Tale}{s:ByteArray}(h:dk ts t s = some t')(h0:0≤t.epoch∧t.epoch≤300):0≤t'.epoch∧t'.epoch≤300:=by
 unfold dk at h
 split at h
 ·cases h
 ·rename_i e he
  have hr:=iJ he
  split at h
  ·split at h
   ·cases h;have:=hr.1;exact⟨by dsimp only;omega,this.2⟩
   ·cases h
  ·split at h
   ·cases h;exact h0
   ·cases h
theorem Gj{ts:List Task}:∀ {l:List ByteArray} {t t':Tale},ji ts (some t) l = some t'→0≤t.epoch∧t.epoch≤300→0≤t'.epoch∧t'.epoch≤300
 |[],t,t',h,h0=>by rw[gS]at h;cases h;exact h0
 |s :: l,t,t',h,h0=>by
  rw[nE]at h
  cases hs:dk ts t s with
  |none=>rw[hs,gG]at h;cases h
  |some u=>rw[hs]at h;exact Gj h (JT hs h0)
theorem eu{p:Plan}{xs:List ByteArray}(h:(aw p xs).code = 0):0≤(aw p xs).epoch∧(aw p xs).epoch≤300:=by
 obtain⟨_,_,_,t,h1,h2⟩:=bR h
 rw[h2]
 exact Gj h1 ⟨Int.le_refl _,by show(0:Int)≤300;omega⟩
theorem lX{b:Boss}{ts:List Task}{st:Story}{n:Nat}{j:Job}(hj:b.jobs[n]? = some j)(h:¬Bk b ts n j):¬UpOk b ts st:=fun q=>h (q.jobs n j (List.getElem?_eq_some_iff.1 hj).1 hj)
theorem nL{b:Boss}{ts:List Task}{n:Nat}{j:Job}(hc:gt b ts n)(hj:b.jobs[n]? = some j)(h:Bk b ts n j):gt b ts (n+1):=fun m k hm hk=>by
 by_cases e:m = n
 ·subst e;rw[hj]at hk;cases hk;exact h
 ·exact hc m k OM hk
theorem oV{rs:List ByteArray}{n:Nat}{y:ByteArray}(h:rs[n]? = some y):atS rs (n:Int) = y:=by unfold atS;rw[Int.toNat_natCast,h];rfl
theorem ko{rs:List ByteArray}{k:Int}{y:ByteArray}(h:rs[k.toNat]? = some y):atS rs k = y:=by unfold atS;rw[h];rfl
theorem dn{ts:List Task}{n:Nat}{t:Task}(h:ts[n]? = some t):mr ts n = t.deps:=by unfold mr;rw[h];rfl
def lx(b:Boss)(n:Nat):List Value:=(((b.jobs.take n).map Job.lease).filter (fun l=>decide (¬l = 0))).map fun l=>Value.int .i64 l
theorem zm{b:Boss}{n:Nat}{l:Int}(h:¬l = 0):Value.int .i64 l∈lx b n↔l∈(b.jobs.take n).map Job.lease:=by
 simp[lx,h]
theorem H4(b:Boss)(n:Nat)(l0:Int):∀ x∈lx b n,kin (.int .i64 l0) x:=by
 intro x hx
 obtain⟨l,_,rfl⟩:=List.mem_map.1 hx
 rfl
theorem EN{b:Boss}{n:Nat}{j:Job}(h:b.jobs[n]? = some j)(h0:j.lease = 0):lx b (n+1) = lx b n:=by
 unfold lx;rw[List.take_add_one,h];simp[h0]
theorem EM{b:Boss}{n:Nat}{j:Job}(h:b.jobs[n]? = some j)(h0:¬j.lease = 0):lx b n++ [Value.int .i64 j.lease] = lx b (n+1):=by
 unfold lx;rw[List.take_add_one,h];simp[h0]
theorem CU{b:Boss}{ts:List Task}{st:Story}{n:Nat}{s:Seat}(hs:b.seats[n]? = some s)(h:¬(0≤s.epoch∧s.epoch≤300)):¬UpOk b ts st:=fun q=>h (q.seats s (List.mem_of_getElem? hs))
theorem j8{b:Boss}{ts:List Task}{st:Story}{n:Nat}{o:Owed}(hs:b.owed[n]? = some o)(h:¬OwedOk b ts o):¬UpOk b ts st:=fun q=>h (q.owed o (List.mem_of_getElem? hs))
theorem dJ{α:Type}{p:α→Prop}{xs:List α}{n:Nat}{x:α}(hc:∀ y∈xs.take n,p y)(h:xs[n]? = some x)(hp:p x):∀ y∈xs.take (n+1),p y:=by
 intro y hy
 rw[List.take_add_one,h]at hy
 rcases List.mem_append.1 hy with hy|hy
 ·exact hc y hy
 ·rw[Option.toList,List.mem_singleton]at hy;subst hy;exact hp
theorem ns(b:Boss)(h1:b.log.safe.length≤1048576)(h2:b.log.loose.length≤1048576):F nh [.val (cE b)] (.own [false] ((b.log.safe++b.log.loose).map aq)) [[]]:=by
 refine nj ?_
 conv=>whnf
 refine g 0 1 []<|J ⟨UL,I,I⟩<|gd 3 11 [[],[],[],[.call (V.own [false] (List.map aq b.log.safe)) [[]]],[],[],[],[],[]] ?_
 conv=>whnf
 refine J ⟨I,I,I,⟨UA,I,US,UA,dZ _ OM⟩,I,I,I,Zdh,I,I⟩<|J KR<|RT ?_
 rw[List.map_append];rfl
theorem qN(l:Log)(h1:l.safe.length≤1048576)(h2:l.loose.length≤1048576):F z4 [.val (RC l)] (.own [false] ((l.safe++l.loose).map aq)) [[]]:=by
 refine Af ?_
 conv=>whnf
 refine g 0 1 []<|J ⟨UB,I,I⟩<|gd 3 10 [[],[],[],[],[],[],[],[]] ?_
 conv=>whnf
 refine J ⟨I,I,I,Zdh,I,I,Zdh,I,I⟩<|J KR<|RT ?_
 rw[List.map_append];rfl
end Go.K
end
section
open Go Go.Tm Go.Proofs
namespace Go.K
theorem sE(b:Boss)(p:Plan)(hp:cR p)(hl1:b.log.safe.length≤1048576)(hl2:b.log.loose.length≤1048576)(hs:∀ s∈b.log.safe++b.log.loose,s.size≤281474976710656)(hr:b.results.length≤1048576)(hj:b.jobs.length≤1048576)(hse:b.seats.length≤1048576)(ho:b.owed.length≤1048576):F ge [.val (cE b),.val (bn p)] (.b (decide (BossOk b p))) [[],[]]:=by
 have cp:=eL p hp
 have ce:=ns b hl1 hl2
 have cr:F jJ [.val (bn p),.val (.t (n7 (b.log.safe++b.log.loose)))] (eM (bU b p)) [[],[]]:=jV p (b.log.safe++b.log.loose) hp hs (by rw[List.length_append];omega)
 by_cases hup:b.up = true
 rotate_left
 ·rw[Bool.not_eq_true]at hup
  refine kf ?_
  conv=>whnf
  refine g 0 2 []<|J Zce<|W.sq ?_
  by_cases h1:am (Plan.tasks p) = (0:Int)
  by_cases h2:(1:Int)≤Boss.workers b∧Boss.workers b≤(8:Int)
  refine g 17 19 [.call (V.i (am p.tasks)) [[]],BF,BF,BF,.call (V.b (decide (1≤b.workers∧b.workers≤8))) [[],[],[]],BF,BF,BF,BF,BF,.call (V.b (decide (0≤b.now∧b.now≤1000000))) [[],[],[]],BF,BF]<|J ⟨I,Zaj,I,I,⟨nO,I⟩,⟨nO,I⟩,⟨nO,UC,I,UU,UA,af _ _ _⟩,⟨nO,I⟩,nO,I,⟨nO,I⟩,⟨nO,I⟩,⟨nO,UC,I,UU,UA,af _ _ _⟩,⟨nO,I⟩,nO,I⟩<|W.cn<|J (fun h3=>?_) fun h3=>?_
  replace h3:=ndt h3
  refine g 29 31 []<|J UA<|RT ?_
  rotate_left
  replace h3:=ndf h3
  refine W.skip<|gd 29 32 [[],[],[.call (V.own [false] (List.map aq (b.log.safe++b.log.loose))) [[]]],[.call (eM (bU b p)) [[],[]]],[],[]] ?_
  conv=>whnf
  refine J ⟨I,I,Zay,Zaq,I,UC,I⟩<|J KR<|W.sq<|g 33 37 []<|J UC<|W.cn<|J (fun h4=>?_) fun h4=>?_
  replace h4:=ndt h4
  refine g 21 22 []<|J UA<|RT ?_
  rotate_left
  replace h4:=ndf h4
  refine W.skip<|W.sq<|g 21 22 []<|J UC<|W.cn<|J (fun _=>?_) (noF (nbT AS))
  by_cases h5:(↑(List.length (List.map aq (Log.loose (Boss.log b)))):Int) = (0:Int)
  simp only[LM]at h5
  by_cases h6:Boss.since b = (0:Int)
  by_cases h7:Boss.epoch b = (0:Int)
  by_cases h8:Boss.given b = (0:Int)
  by_cases h9:(↑(List.length (List.map aq (Boss.results b))):Int) = (0:Int)
  simp only[LM]at h9
  by_cases h10:(↑(List.length (List.map aH (Boss.jobs b))):Int) = (0:Int)
  simp only[LM]at h10
  by_cases h11:(↑(List.length (List.map aI (Boss.seats b))):Int) = (0:Int)
  simp only[LM]at h11
  refine g 32 85 [BT,BT,BT,BT,BT,BT,BT,BT,BT,BT,BT,BT,BT,BT,BT,BT,BT,BT,BT,BT,BT,BT,BT,BT,BT,BT,BT,BT,BT,BT,BT,BT] ?_
  conv=>whnf
  refine J Zaz<|RT ?_
  rotate_left
  simp only[LM]at h11
  refine g 32 85 [BT,BT,BT,BT,BT,BT,BT,BT,BT,BT,BT,BT,BT,BT,BT,BT,BT,BT,BT,BT,BT,BT,BT,BT,BT,BT,BT,BF,BF,BF,BF,BF] ?_
  conv=>whnf
  refine J ⟨I,I,I,I,I,I,⟨SI,I⟩,⟨SI,I⟩,⟨SI,I⟩,SI,I,⟨tO,I⟩,⟨tO,I⟩,⟨tO,I⟩,tO,I,⟨tO,I⟩,⟨tO,I⟩,⟨tO,I⟩,tO,I,⟨tO,I⟩,⟨tO,I⟩,⟨tO,I⟩,⟨tO,I⟩,tO,I,⟨SI,I⟩,⟨SI,I⟩,⟨SI,I⟩,⟨SI,I⟩,SI,I,⟨SI,I⟩,⟨SI,I⟩,⟨SI,I⟩,⟨SI,I⟩,SI,I,(by simp_all),(by simp_all),(by simp_all),(by simp_all),(by simp_all),I,I⟩<|RT ?_
  rotate_left
  simp only[LM]at h10
  refine g 32 85 [BT,BT,BT,BT,BT,BT,BT,BT,BT,BT,BT,BT,BT,BT,BT,BT,BT,BT,BT,BT,BT,BT,BF,BF,BF,BF,BF,BF,BF,BF,BF,BF] ?_
  conv=>whnf
  refine J ⟨I,I,I,I,I,I,⟨SI,I⟩,⟨SI,I⟩,⟨SI,I⟩,SI,I,⟨tO,I⟩,⟨tO,I⟩,⟨tO,I⟩,tO,I,⟨tO,I⟩,⟨tO,I⟩,⟨tO,I⟩,tO,I,⟨tO,I⟩,⟨tO,I⟩,⟨tO,I⟩,⟨tO,I⟩,tO,I,⟨SI,I⟩,⟨SI,I⟩,⟨SI,I⟩,⟨SI,I⟩,SI,I,(by simp_all),(by simp_all),(by simp_all),(by simp_all),(by simp_all),I,rfl,rfl,rfl,rfl,rfl,I,I⟩<|RT ?_
  rotate_left
  simp only[LM]at h9
  refine g 32 85 [BT,BT,BT,BT,BT,BT,BT,BT,BT,BT,BT,BT,BT,BT,BT,BT,BT,BF,BF,BF,BF,BF,BF,BF,BF,BF,BF,BF,BF,BF,BF,BF] ?_
  conv=>whnf
  refine J ⟨I,I,I,I,I,I,⟨SI,I⟩,⟨SI,I⟩,⟨SI,I⟩,SI,I,⟨tO,I⟩,⟨tO,I⟩,⟨tO,I⟩,tO,I,⟨tO,I⟩,⟨tO,I⟩,⟨tO,I⟩,tO,I,⟨tO,I⟩,⟨tO,I⟩,⟨tO,I⟩,⟨tO,I⟩,tO,I,(by simp_all),(by simp_all),(by simp_all),(by simp_all),(by simp_all),I,rfl,rfl,rfl,rfl,rfl,I,rfl,rfl,rfl,rfl,rfl,I,I⟩<|RT ?_
  rotate_left
  refine g 32 85 [BT,BT,BT,BT,BT,BT,BT,BT,BT,BT,BT,BT,BF,BF,BF,BF,BF,BF,BF,BF,BF,BF,BF,BF,BF,BF,BF,BF,BF,BF,BF,BF] ?_
  conv=>whnf
  refine J Zbp<|RT ?_
  rotate_left
  refine g 32 85 [BT,BT,BT,BT,BT,BT,BT,BT,BF,BF,BF,BF,BF,BF,BF,BF,BF,BF,BF,BF,BF,BF,BF,BF,BF,BF,BF,BF,BF,BF,BF,BF] ?_
  conv=>whnf
  refine J Zbu<|RT ?_
  rotate_left
  refine g 32 85 [BT,BT,BT,BT,BF,BF,BF,BF,BF,BF,BF,BF,BF,BF,BF,BF,BF,BF,BF,BF,BF,BF,BF,BF,BF,BF,BF,BF,BF,BF,BF,BF] ?_
  conv=>whnf
  refine J Zbz<|RT ?_
  rotate_left
  simp only[LM]at h5
  refine g 32 85 [BF,BF,BF,BF,BF,BF,BF,BF,BF,BF,BF,BF,BF,BF,BF,BF,BF,BF,BF,BF,BF,BF,BF,BF,BF,BF,BF,BF,BF,BF,BF,BF] ?_
  conv=>whnf
  refine J ⟨I,I,I,I,I,I,(by simp_all),(by simp_all),(by simp_all),(by simp_all),I,rfl,rfl,rfl,rfl,I,rfl,rfl,rfl,rfl,I,rfl,rfl,rfl,rfl,rfl,I,rfl,rfl,rfl,rfl,rfl,I,rfl,rfl,rfl,rfl,rfl,I,rfl,rfl,rfl,rfl,rfl,I,I⟩<|RT ?_
  rotate_left
  refine g 17 19 [.call (V.i (am p.tasks)) [[]],BF,BF,BF,.call (V.b (decide (1≤b.workers∧b.workers≤8))) [[],[],[]],BF,BF,BT,BT,BT,BT,BT]<|J ⟨I,Zaj,I,I,⟨nO,I⟩,⟨nO,I⟩,⟨nO,UC,I,UU,UA,af _ _ _⟩,⟨nO,I⟩,nO,I,ah OM,ah OM,ah OM,ah OM,ah OM,I⟩<|W.cn<|J (fun _=>(g 29 31 []<|J UA (RT ?_))) (noF rfl)
  rotate_left
  refine g 17 19 [.call (V.i (am p.tasks)) [[]],BT,BT,BT,BT,BT,BT,BT,BT,BT,BT]<|J ⟨I,Zaj,I,I,ah OM,ah OM,ah OM,ah OM,ah OM,I,rfl,rfl,rfl,rfl,rfl,I⟩<|W.cn<|J (fun _=>(g 29 31 []<|J UA (RT ?_))) (noF rfl)
  rotate_left
  all_goals first
   |exact vbf (fun q=>by have e1:=q.plan;have e2:=q.workers;have e3:=q.now;have e4:=q.code;omega)
   |exact vbf (vM hup fun q=>by have e1:=q.loose;have e2:=q.since;have e3:=q.epoch;have e4:=q.given;have e5:=q.res;have e6:=q.jobs;have e7:=q.seats;omega)
   |(rename_i h8
     simp only[List.length_map]
     by_cases h9:(b.owed.length:Int) = 0
     ·rw[decide_eq_true h9];exact vbt ⟨by omega,by omega,by omega,by omega,(fun q=>by rw[hup]at q;cases q),fun _=>⟨by omega,by omega,by omega,by omega,by omega,by omega,by omega,by omega⟩⟩
     ·rw[decide_eq_false h9];exact vbf (vM hup fun q=>by have e8:=q.owed;omega))
   |skip
 refine kf ?_
 conv=>whnf
 refine g 0 2 []<|J Zce<|W.sq ?_
 by_cases h1:am (Plan.tasks p) = (0:Int)
 by_cases h2:(1:Int)≤Boss.workers b∧Boss.workers b≤(8:Int)
 refine g 17 19 [.call (V.i (am p.tasks)) [[]],BF,BF,BF,.call (V.b (decide (1≤b.workers∧b.workers≤8))) [[],[],[]],BF,BF,BF,BF,BF,.call (V.b (decide (0≤b.now∧b.now≤1000000))) [[],[],[]],BF,BF]<|J ⟨I,Zaj,I,I,⟨nO,I⟩,⟨nO,I⟩,⟨nO,UC,I,UU,UA,af _ _ _⟩,⟨nO,I⟩,nO,I,⟨nO,I⟩,⟨nO,I⟩,⟨nO,UC,I,UU,UA,af _ _ _⟩,⟨nO,I⟩,nO,I⟩<|W.cn<|J (fun h3=>?_) fun h3=>?_
 replace h3:=ndt h3
 refine g 29 31 []<|J UA<|RT ?_
 rotate_left
 replace h3:=ndf h3
 refine W.skip<|gd 29 32 [[],[],[.call (V.own [false] (List.map aq (b.log.safe++b.log.loose))) [[]]],[.call (eM (bU b p)) [[],[]]],[],[]] ?_
 conv=>whnf
 refine J ⟨I,I,Zay,Zaq,I,UC,I⟩<|J KR<|W.sq<|g 33 37 []<|J UC<|W.cn<|J (fun h4=>?_) fun h4=>?_
 replace h4:=ndt h4
 refine g 21 22 []<|J UA<|RT ?_
 rotate_left
 replace h4:=ndf h4
 refine W.skip<|W.sq<|g 21 22 []<|J UC<|W.cn<|J (noT (nbF AS)) fun _=>W.skip<|W.sq ?_
 by_cases h5:Boss.epoch b = Story.epoch (bU b p)
 by_cases h6:Boss.epoch b < (1:Int)
 refine g 25 120 [BF,BF,BF,BF,BT,BT,BT,BT,BT,BT,BT,BT,BT,BT,BT,BT,BT,BT,BT,BT,BT,BT,BT,BT,BT,BT,BT]<|J ⟨I,I,I,I,I,I,⟨nO,I⟩,⟨nO,I⟩,⟨nO,I⟩,nO,I,tO,tO,tO,tO,tO,tO,tO,tO,I,rfl,rfl,rfl,rfl,rfl,rfl,rfl,rfl,I,rfl,rfl,rfl,rfl,rfl,rfl,rfl,I⟩<|W.cn<|J (fun _=>(g 19 21 []<|J UA (RT ?_))) (noF rfl)
 rotate_left
 by_cases h7:(↑(List.length (List.map aq (Boss.results b))):Int) = (↑(List.length (List.map aD (Plan.tasks p))):Int)
 simp only[LM]at h7
 by_cases h8:(↑(List.length (List.map aH (Boss.jobs b))):Int) = (↑(List.length (List.map aD (Plan.tasks p))):Int)
 simp only[LM]at h8
 refine g 25 120 [BF,BF,BF,BF,BF,BF,BF,BF,BF,BF,BF,BF,BF,BF,BF,BF,BF,BF,BF,BF,BF,BF,BF,BF,BF,BF,BF]<|J ⟨I,I,I,I,I,I,⟨nO,I⟩,⟨nO,I⟩,⟨nO,I⟩,nO,I,⟨dO,I⟩,⟨dO,I⟩,⟨dO,I⟩,⟨dO,I⟩,⟨dO,I⟩,⟨dO,I⟩,⟨dO,I⟩,dO,I,⟨SI,I⟩,⟨SI,I⟩,⟨SI,I⟩,⟨SI,I⟩,⟨SI,I⟩,⟨SI,I⟩,⟨SI,I⟩,SI,I,⟨SI,I⟩,⟨SI,I⟩,⟨SI,I⟩,⟨SI,I⟩,⟨SI,I⟩,⟨SI,I⟩,SI,I⟩<|W.cn<|J (fun h9=>?_) fun h9=>?_
 replace h9:=ndt h9
 simp only[LM]at h9
 refine g 19 21 []<|J UA<|RT ?_
 rotate_left
 replace h9:=ndf h9
 simp only[LM]at h9
 refine W.skip<|W.sq<|g 19 21 []<|J UD<|W.blk ?_
 rotate_left
 simp only[LM]at h8
 refine g 25 120 [BF,BF,BF,BF,BF,BF,BF,BF,BF,BF,BF,BF,BF,BF,BF,BF,BF,BF,BF,BF,BT,BT,BT,BT,BT,BT,BT]<|J ⟨I,I,I,I,I,I,⟨nO,I⟩,⟨nO,I⟩,⟨nO,I⟩,nO,I,⟨dO,I⟩,⟨dO,I⟩,⟨dO,I⟩,⟨dO,I⟩,⟨dO,I⟩,⟨dO,I⟩,⟨dO,I⟩,dO,I,⟨SI,I⟩,⟨SI,I⟩,⟨SI,I⟩,⟨SI,I⟩,⟨SI,I⟩,⟨SI,I⟩,⟨SI,I⟩,SI,I,SI,SI,SI,SI,SI,SI,SI,I⟩<|W.cn<|J (fun _=>(g 19 21 []<|J UA (RT ?_))) (noF rfl)
 rotate_left
 simp only[LM]at h7
 refine g 25 120 [BF,BF,BF,BF,BF,BF,BF,BF,BF,BF,BF,BF,BT,BT,BT,BT,BT,BT,BT,BT,BT,BT,BT,BT,BT,BT,BT]<|J ⟨I,I,I,I,I,I,⟨nO,I⟩,⟨nO,I⟩,⟨nO,I⟩,nO,I,⟨dO,I⟩,⟨dO,I⟩,⟨dO,I⟩,⟨dO,I⟩,⟨dO,I⟩,⟨dO,I⟩,⟨dO,I⟩,dO,I,SI,SI,SI,SI,SI,SI,SI,SI,I,rfl,rfl,rfl,rfl,rfl,rfl,rfl,I⟩<|W.cn<|J (fun _=>(g 19 21 []<|J UA (RT ?_))) (noF rfl)
 rotate_left
 refine g 25 120 [BT,BT,BT,BT,BT,BT,BT,BT,BT,BT,BT,BT,BT,BT,BT,BT,BT,BT,BT,BT,BT,BT,BT,BT,BT,BT,BT]<|J ⟨I,I,I,I,I,I,ah OM,ah OM,ah OM,ah OM,I,rfl,rfl,rfl,rfl,rfl,rfl,rfl,rfl,I,rfl,rfl,rfl,rfl,rfl,rfl,rfl,rfl,I,rfl,rfl,rfl,rfl,rfl,rfl,rfl,I⟩<|W.cn<|J (fun _=>(g 19 21 []<|J UA (RT ?_))) (noF rfl)
 rotate_left
 refine g 17 19 [.call (V.i (am p.tasks)) [[]],BF,BF,BF,.call (V.b (decide (1≤b.workers∧b.workers≤8))) [[],[],[]],BF,BF,BT,BT,BT,BT,BT]<|J ⟨I,Zaj,I,I,⟨nO,I⟩,⟨nO,I⟩,⟨nO,UC,I,UU,UA,af _ _ _⟩,⟨nO,I⟩,nO,I,ah OM,ah OM,ah OM,ah OM,ah OM,I⟩<|W.cn<|J (fun _=>(g 29 31 []<|J UA (RT ?_))) (noF rfl)
 rotate_left
 refine g 17 19 [.call (V.i (am p.tasks)) [[]],BT,BT,BT,BT,BT,BT,BT,BT,BT,BT]<|J ⟨I,Zaj,I,I,ah OM,ah OM,ah OM,ah OM,ah OM,I,rfl,rfl,rfl,rfl,rfl,I⟩<|W.cn<|J (fun _=>(g 29 31 []<|J UA (RT ?_))) (noF rfl)
 rotate_left
 all_goals try first
  |exact vbf (fun q=>by have e1:=q.plan;have e2:=q.workers;have e3:=q.now;have e4:=q.code;omega)
  |exact vbf (fv hup fun q=>by have e1:=q.epoch;have e2:=q.pos;have e3:=q.rlen;have e4:=q.jlen;have e5:=q.slen;omega)
 have hk:(bU b p).code = 0:=by assumption
 have hc0:am p.tasks = 0:=by assumption
 obtain⟨_,_,hsl,_⟩:=bR (p:=p) (xs:=b.log.safe++b.log.loose) hk
 obtain⟨hep1,hep2⟩:=eu (p:=p) (xs:=b.log.safe++b.log.loose) hk
 change (bU b p).results.length = _ at hsl
 change 0≤(bU b p).epoch at hep1
 change (bU b p).epoch≤300 at hep2
 have f1:b.epoch = (bU b p).epoch:=by assumption
 have f2:1≤b.epoch:=by omega
 have f3:b.results.length = p.tasks.length:=by omega
 have f4:b.jobs.length = p.tasks.length:=by omega
 have f5:(b.seats.length:Int) = b.workers:=by omega
 have f6:1≤b.workers∧b.workers≤8:=by assumption
 have f7:0≤b.now∧b.now≤1000000:=by assumption
 have hpl:=(bM hc0).1
 refine W.lp (fun s (n:Nat)=>⟨[(2,s.s 2),(3,s.s 3),(5,s.s 5),(16,s.s 16),(22,s.s 22),(24,s.s 24),(122,s.s 122),(123,s.s 123),(124,.i n)],[(2,[s.c 2 0,s.c 2 1,s.c 2 2,s.c 2 3,s.c 2 4,s.c 2 5,s.c 2 6,s.c 2 7,s.c 2 8,s.c 2 9,s.c 2 10,s.c 2 11]),(3,[s.c 3 0]),(5,[s.c 5 0,s.c 5 1,s.c 5 2])],[]⟩) (fun(n:Nat)=>n≤b.results.length∧b.results.take n = (bU b p).results.take n) (fun(n:Nat)=>b.results.length - n) (0) [some 2,some 3,some 5] [] ⟨rfl,⟨rfl,rfl,rfl,Zah,rfl,rfl,rfl,rfl,rfl,I⟩,⟨Zaa,⟨Zad,Zeb⟩⟩,I⟩ (by simp) ?_
 rintro n ⟨hn,hc⟩
 conv=>whnf
 refine g 0 0 []<|J UA<|W.sq<|W.cn<|J (fun h10=>?_) fun h10=>?_
 replace h10:=dt h10
 simp only[LM]at h10
 refine W.skip<|W.sq<|W.blk ?_
 obtain⟨y1,hy1⟩:=ak (xs:=Boss.results b) (n:=n) OM
 refine g 125 129 [.x (aq y1)]<|J ⟨I,Zdk,I,I,I,I⟩ ?_
 obtain⟨y2,hy2⟩:=ak (xs:=Story.results (bU b p)) (n:=n) OM
 refine g 129 135 [.n (n),.x (aq y2)]<|J ⟨I,I,I,Zdj,xA,I,I,I⟩<|W.cn<|J (fun h11=>?_) fun h11=>?_
 replace h11:=ndt h11
 refine g 7 8 []<|J UA<|RT ?_
 rotate_left
 replace h11:=ndf h11
 refine W.skip<|rg [.i ((n:Int) +1)]<|J Zdp ?_
 rotate_left
 replace h10:=df h10
 simp only[LM]at h10
 refine W.exit<|W.sq ?_
 by_cases h11:(0:Int)≤Boss.since b∧Boss.since b≤(1:Int)
 by_cases h12:(0:Int)≤Boss.given b∧Boss.given b≤(1000000:Int)
 refine g 122 152 [.call (V.b (decide (0≤b.since∧b.since≤1))) [[],[],[]],BF,BF,BF,.call (V.b (decide (0≤b.given∧b.given≤1000000))) [[],[],[]],BF,BF,BF,BF,BF,BF,BF]<|J ⟨I,I,⟨UC,I,UU,UA,af _ _ _⟩,I,I,⟨nO,I⟩,⟨nO,I⟩,⟨nO,UC,I,UU,UA,af _ _ _⟩,⟨nO,I⟩,nO,I,⟨nO,I⟩,⟨nO,I⟩,⟨nO,I⟩,⟨nO,I⟩,nO,I⟩<|W.cn<|J (fun h13=>?_) fun h13=>?_
 replace h13:=dt h13
 simp only[LM]at h13
 refine g 5 6 []<|J UA<|RT ?_
 rotate_left
 replace h13:=df h13
 simp only[LM]at h13
 refine W.skip<|g 152 154 []<|J UB<|g 154 158 [.i (b.epoch - 1),.i ((b.epoch - 1) * 1000000)]<|J ⟨I,I,wO,wO,I,I⟩<|W.sq<|g 5 6 []<|J UD<|W.blk ?_
 rotate_left
 refine g 122 152 [.call (V.b (decide (0≤b.since∧b.since≤1))) [[],[],[]],BF,BF,BF,.call (V.b (decide (0≤b.given∧b.given≤1000000))) [[],[],[]],BF,BF,BT,BT,BT,BT,BT]<|J ⟨I,I,⟨UC,I,UU,UA,af _ _ _⟩,I,I,⟨nO,I⟩,⟨nO,I⟩,⟨nO,UC,I,UU,UA,af _ _ _⟩,⟨nO,I⟩,nO,I,ah OM,ah OM,ah OM,ah OM,ah OM,I⟩<|W.cn<|J (fun _=>(g 5 6 []<|J UA (RT ?_))) (noF rfl)
 rotate_left
 refine g 122 152 [.call (V.b (decide (0≤b.since∧b.since≤1))) [[],[],[]],BT,BT,BT,BT,BT,BT,BT,BT,BT,BT]<|J ⟨I,I,⟨UC,I,UU,UA,af _ _ _⟩,I,I,ah OM,ah OM,ah OM,ah OM,ah OM,I,rfl,rfl,rfl,rfl,rfl,I⟩<|W.cn<|J (fun _=>(g 5 6 []<|J UA (RT ?_))) (noF rfl)
 rotate_left
 all_goals try first
  |exact vbf (fv hup fun q=>by have e1:=q.res;rw[e1]at hy1;rw[hy1]at hy2;cases hy2;contradiction)
  |exact vbf (fv hup fun q=>by have e1:=q.since;have e2:=q.given;have e3:=q.olen;omega)
 ·refine⟨n+1,[some 2,some 3,some 5],[],⟨rfl,⟨rfl,rfl,rfl,Zah,rfl,rfl,rfl,rfl,rfl,I⟩,⟨Zaa,⟨Zad,Zeb⟩⟩,I⟩,?_,?_⟩
  rotate_left
  (dsimp only;omega)
  dsimp only
  exact⟨by omega,n6 hc hy1 (by rw[hy2];simp_all)⟩
 have g1:b.results = (bU b p).results:=by rw[bc OM,bc OM]at hc;exact hc
 have g2:0≤b.since∧b.since≤1:=by omega
 have g3:0≤b.given∧b.given≤1000000:=by omega
 have g4:b.owed.length≤2000:=by omega
 refine W.lp (fun s (n:Nat)=>⟨[(2,s.s 2),(3,s.s 3),(8,s.s 8),(9,s.s 9),(16,s.s 16),(22,s.s 22),(24,s.s 24),(159,s.s 159),(160,s.s 160),(161,.i n)],[(2,[s.c 2 0,s.c 2 1,s.c 2 2,s.c 2 3,s.c 2 4,s.c 2 5,s.c 2 6,s.c 2 7,s.c 2 8,s.c 2 9,s.c 2 10,s.c 2 11]),(3,[s.c 3 0])],[(153,lx b n)]⟩) (fun(n:Nat)=>n≤b.jobs.length∧gt b p.tasks n) (fun(n:Nat)=>b.jobs.length - n) (0) [some 2,some 3] [153] ⟨rfl,⟨rfl,rfl,rfl,rfl,⟨_,rfl,_,_,rfl,rfl,rfl⟩,rfl,rfl,rfl,rfl,rfl,I⟩,⟨⟨rfl,⟨rfl,⟨rfl,⟨rfl,⟨rfl,⟨rfl,⟨rfl,⟨rfl,⟨rfl,⟨rfl,⟨rfl,⟨rfl,⟨rfl,I⟩⟩⟩⟩⟩⟩⟩⟩⟩⟩⟩⟩⟩,⟨⟨rfl,⟨rfl,I⟩⟩,I⟩⟩,⟨rfl,I⟩⟩ ?_ ?_
 ·exact⟨Nat.zero_le _,fun m j hm=>by omega⟩
 rintro n1 ⟨hn1,hc1⟩
 have hrl:b.results.length = p.tasks.length:=f3
 by_cases hj2:n1 < b.jobs.length
 ·obtain⟨j,hj1⟩:=ak hj2
  obtain⟨y,hy0⟩:=ak (xs:=b.results) (n:=n1) OM
  obtain⟨t,ht0⟩:=ak (xs:=p.tasks) (n:=n1) OM
  have hkin:=H4 b n1 j.lease
  obtain⟨_,_,a3,a4⟩:=bP hc0 ht0
  have crd:=ic b.results t.deps (fun d hd=>by have:=a4 d hd;omega) OM
  by_cases hz:j.lease = 0
  ·by_cases hz2:j.worker = 0∧j.til = 0
   ·have hjo:Bk b p.tasks n1 j:=⟨fun _=>hz2,fun e=>absurd hz e⟩
    obtain⟨hz3,hz4⟩:=hz2
    conv=>whnf
    refine g 0 0 []<|J UA<|W.sq<|W.cn<|J (fun _=>(W.skip (W.sq (W.blk (g 162 166 [.x (aH j)]<|J Zbq (W.sq (g 166 168 []<|J UC (W.cn<|J (fun _=>(W.sq (g 168 171 [BT]<|J ⟨I,I,by simp[*],I⟩ ?_))) (noF tO))))))))) (noF (by simp_all))
    refine W.cn<|J (noT rfl) fun _=>W.skip<|W.exit<|rg [.i ((n1:Int) +1)]<|J Zdp ?_
    refine⟨n1+1,[some 2,some 3],[153],⟨rfl,⟨rfl,rfl,rfl,rfl,Zah,rfl,rfl,rfl,rfl,rfl,I⟩,⟨Zaa,Zdv⟩,⟨(congrArg some (EN hj1 hz).symm),I⟩⟩,?_,?_⟩
    rotate_left
    (dsimp only;omega)
    dsimp only
    exact⟨by omega,nL hc1 hj1 hjo⟩
   ·conv=>whnf
    refine g 0 0 []<|J UA<|W.sq<|W.cn<|J (fun _=>(W.skip (W.sq (W.blk (g 162 166 [.x (aH j)]<|J Zbq (W.sq (g 166 168 []<|J UC (W.cn<|J (fun _=>(W.sq (g 168 171 [BF]<|J ⟨I,I,by simp_all,I⟩ ?_))) (noF tO))))))))) (noF (by simp_all))
    refine W.cn<|J (fun _=>(g 171 172 []<|J UA (RT ?_))) (noF rfl)
    all_goals exact vbf (fv hup (lX hj1 (fun q=>by have:=q.1 hz;omega)))
  ·by_cases hA:(b.epoch - 1) * 1000000+1≤j.lease∧j.lease≤(b.epoch - 1) * 1000000+b.given
   ·by_cases hB:j.lease∈(b.jobs.take n1).map Job.lease
    ·have hkm:Value.int IntKind.i64 j.lease∈lx b n1:=(zm hz).2 hB
     conv=>whnf
     refine g 0 0 []<|J UA<|W.sq<|W.cn<|J (fun _=>(W.skip (W.sq (W.blk (g 162 166 [.x (aH j)]<|J Zbq (W.sq (g 166 168 []<|J UC (W.cn<|J (noT dO) fun _=>(W.skip (W.sq ?_)))))))))) (noF (by simp_all))
     refine g 168 207 [.i ((b.epoch - 1) * 1000000+1),.i ((b.epoch - 1) * 1000000+b.given),.call (V.b (decide ((b.epoch - 1) * 1000000+1≤j.lease∧j.lease≤(b.epoch - 1) * 1000000+b.given))) [[],[],[]],BF,BF,BF,BF,.b (decide (j.lease∈List.map (fun l=>l) (List.filter (fun l=>decide ¬l = 0) (List.map Job.lease (List.take n1 b.jobs))))),BF,BT,BT,BT,BT,BT,BT,BT,BT,BT,BT,BT,BT,BT,BT,BT,BT,BT,BT]<|J ⟨I,I,I,wO,I,I,I,wO,⟨UC,I,UU,UA,af _ _ _⟩,I,I,⟨nO,I⟩,⟨nO,I⟩,⟨nO,I⟩,⟨nO,kU,fY⟩,nO,I,(by simp_all),(by simp_all),(by simp_all),(by simp_all),(by simp_all),(by simp_all),(by simp_all),I,rfl,rfl,rfl,rfl,rfl,rfl,rfl,rfl,rfl,rfl,rfl,I⟩<|W.cn<|J (fun _=>(g 207 208 []<|J UA (RT ?_))) (noF rfl)
     exact vbf (fv hup (lX hj1 (fun q=>(q.2 hz).once hB)))
    ·have hkm:¬Value.int IntKind.i64 j.lease∈lx b n1:=fun e=>hB ((zm hz).1 e)
     by_cases hC:1≤j.worker∧j.worker≤b.workers
     ·by_cases hD:b.now+1≤j.til∧j.til≤b.now+12
      ·by_cases hE:y = emp
       ·by_cases hF:cF b.results t.deps
        ·rw[decide_eq_true hF]at crd
         conv=>whnf
         refine g 0 0 []<|J UA<|W.sq<|W.cn<|J (fun _=>(W.skip (W.sq (W.blk (g 162 166 [.x (aH j)]<|J Zbq (W.sq (g 166 168 []<|J UC (W.cn<|J (noT dO) fun _=>(W.skip (W.sq ?_)))))))))) (noF (by simp_all))
         refine g 168 207 [.i ((b.epoch - 1) * 1000000+1),.i ((b.epoch - 1) * 1000000+b.given),.call (V.b (decide ((b.epoch - 1) * 1000000+1≤j.lease∧j.lease≤(b.epoch - 1) * 1000000+b.given))) [[],[],[]],BF,BF,BF,BF,.b (decide (j.lease∈List.map (fun l=>l) (List.filter (fun l=>decide ¬l = 0) (List.map Job.lease (List.take n1 b.jobs))))),BF,BF,BF,BF,BF,BF,.call (V.b (decide (1≤j.worker∧j.worker≤b.workers))) [[],[],[]],BF,BF,BF,BF,BF,BF,BF,.i (b.now+1),BF,BF,BF,.i (b.now+12),BF,.call (V.b (decide (b.now+1≤j.til∧j.til≤b.now+12))) [[],[],[]],BF,BF] ?_
         conv=>whnf
         refine J ⟨I,I,I,wO,I,I,I,wO,⟨UC,I,UU,UA,af _ _ _⟩,I,I,⟨nO,I⟩,⟨nO,I⟩,⟨nO,I⟩,⟨nO,kU,fY⟩,nO,I,⟨(by simp_all),I⟩,⟨(by simp_all),I⟩,⟨(by simp_all),I⟩,⟨(by simp_all),I⟩,⟨(by simp_all),UC,I,UU,UA,af _ _ _⟩,⟨(by simp_all),I⟩,(by simp_all),I,⟨nO,I⟩,⟨nO,I⟩,⟨nO,I⟩,⟨nO,I⟩,Zek,⟨nO,I⟩,⟨nO,I⟩,Zek,⟨nO,UC,I,UU,UA,af _ _ _⟩,⟨nO,I⟩,nO,I⟩<|W.cn<|J (noT nO) fun _=>W.skip<|g 207 211 []<|J ⟨I,I,I,fY,I⟩<|gd 211 228 [[],[],[],[.x (aq y)],[],[],[],[BF],[BF],[BF],[BF],[BF],[BF,.x (aD t)],[BF],[BF],[BF,.call VT [[],[]]],[BF],[BF]] ?_
         conv=>whnf
         refine J Zb4<|J KR<|W.cn<|J (noT rfl) fun _=>W.skip<|rg [.i ((n1:Int) +1)]<|J Zdp ?_
         refine⟨n1+1,[some 2,some 3],[153],⟨rfl,⟨rfl,rfl,rfl,rfl,Zah,rfl,rfl,rfl,rfl,rfl,I⟩,⟨Zaa,Zdv⟩,⟨(congrArg some (EM hj1 hz)),I⟩⟩,?_,?_⟩
         rotate_left
         (dsimp only;omega)
         dsimp only
         exact⟨by omega,nL hc1 hj1 ⟨fun e=>absurd e hz,fun _=>⟨hA,hC,hD,by rw[oV hy0];exact hE,by rw[dn ht0];exact hF,hB⟩⟩⟩
        ·rw[decide_eq_false hF]at crd
         conv=>whnf
         refine g 0 0 []<|J UA<|W.sq<|W.cn<|J (fun _=>(W.skip (W.sq (W.blk (g 162 166 [.x (aH j)]<|J Zbq (W.sq (g 166 168 []<|J UC (W.cn<|J (noT dO) fun _=>(W.skip (W.sq ?_)))))))))) (noF (by simp_all))
         refine g 168 207 [.i ((b.epoch - 1) * 1000000+1),.i ((b.epoch - 1) * 1000000+b.given),.call (V.b (decide ((b.epoch - 1) * 1000000+1≤j.lease∧j.lease≤(b.epoch - 1) * 1000000+b.given))) [[],[],[]],BF,BF,BF,BF,.b (decide (j.lease∈List.map (fun l=>l) (List.filter (fun l=>decide ¬l = 0) (List.map Job.lease (List.take n1 b.jobs))))),BF,BF,BF,BF,BF,BF,.call (V.b (decide (1≤j.worker∧j.worker≤b.workers))) [[],[],[]],BF,BF,BF,BF,BF,BF,BF,.i (b.now+1),BF,BF,BF,.i (b.now+12),BF,.call (V.b (decide (b.now+1≤j.til∧j.til≤b.now+12))) [[],[],[]],BF,BF] ?_
         conv=>whnf
         refine J ⟨I,I,I,wO,I,I,I,wO,⟨UC,I,UU,UA,af _ _ _⟩,I,I,⟨nO,I⟩,⟨nO,I⟩,⟨nO,I⟩,⟨nO,kU,fY⟩,nO,I,⟨(by simp_all),I⟩,⟨(by simp_all),I⟩,⟨(by simp_all),I⟩,⟨(by simp_all),I⟩,⟨(by simp_all),UC,I,UU,UA,af _ _ _⟩,⟨(by simp_all),I⟩,(by simp_all),I,⟨nO,I⟩,⟨nO,I⟩,⟨nO,I⟩,⟨nO,I⟩,Zek,⟨nO,I⟩,⟨nO,I⟩,Zek,⟨nO,UC,I,UU,UA,af _ _ _⟩,⟨nO,I⟩,nO,I⟩<|W.cn<|J (noT nO) fun _=>W.skip<|g 207 211 []<|J ⟨I,I,I,fY,I⟩<|gd 211 228 [[],[],[],[.x (aq y)],[],[],[],[BF],[BF],[BF],[BF],[BF],[BF,.x (aD t)],[BF],[BF],[BF,.call VF [[],[]]],[BF],[BF]] ?_
         conv=>whnf
         refine J Zb4<|J KR<|W.cn<|J (fun _=>(g 10 12 []<|J UA (RT ?_))) (noF rfl)
         exact vbf (fv hup (lX hj1 (fun q=>hF (by have:=(q.2 hz).ready;rw[dn ht0]at this;exact this))))
       ·conv=>whnf
        refine g 0 0 []<|J UA<|W.sq<|W.cn<|J (fun _=>(W.skip (W.sq (W.blk (g 162 166 [.x (aH j)]<|J Zbq (W.sq (g 166 168 []<|J UC (W.cn<|J (noT dO) fun _=>(W.skip (W.sq ?_)))))))))) (noF (by simp_all))
        refine g 168 207 [.i ((b.epoch - 1) * 1000000+1),.i ((b.epoch - 1) * 1000000+b.given),.call (V.b (decide ((b.epoch - 1) * 1000000+1≤j.lease∧j.lease≤(b.epoch - 1) * 1000000+b.given))) [[],[],[]],BF,BF,BF,BF,.b (decide (j.lease∈List.map (fun l=>l) (List.filter (fun l=>decide ¬l = 0) (List.map Job.lease (List.take n1 b.jobs))))),BF,BF,BF,BF,BF,BF,.call (V.b (decide (1≤j.worker∧j.worker≤b.workers))) [[],[],[]],BF,BF,BF,BF,BF,BF,BF,.i (b.now+1),BF,BF,BF,.i (b.now+12),BF,.call (V.b (decide (b.now+1≤j.til∧j.til≤b.now+12))) [[],[],[]],BF,BF] ?_
        conv=>whnf
        refine J ⟨I,I,I,wO,I,I,I,wO,⟨UC,I,UU,UA,af _ _ _⟩,I,I,⟨nO,I⟩,⟨nO,I⟩,⟨nO,I⟩,⟨nO,kU,fY⟩,nO,I,⟨(by simp_all),I⟩,⟨(by simp_all),I⟩,⟨(by simp_all),I⟩,⟨(by simp_all),I⟩,⟨(by simp_all),UC,I,UU,UA,af _ _ _⟩,⟨(by simp_all),I⟩,(by simp_all),I,⟨nO,I⟩,⟨nO,I⟩,⟨nO,I⟩,⟨nO,I⟩,Zek,⟨nO,I⟩,⟨nO,I⟩,Zek,⟨nO,UC,I,UU,UA,af _ _ _⟩,⟨nO,I⟩,nO,I⟩<|W.cn<|J (noT nO) fun _=>W.skip<|g 207 211 []<|J ⟨I,I,I,fY,I⟩<|gd 211 228 [[],[],[],[.x (aq y)],[],[],[],[BT],[BT],[BT],[BT],[BT],[BT],[BT],[BT],[BT],[BT],[BT]] ?_
        conv=>whnf
        refine J ⟨I,I,I,Zdk,I,I,I,ah OM,ah OM,ah OM,ah OM,ah OM,ah OM,ah OM,ah OM,ah OM,ah OM,ah OM,I⟩<|J KR<|W.cn<|J (fun _=>(g 10 12 []<|J UA (RT ?_))) (noF rfl)
        exact vbf (fv hup (lX hj1 (fun q=>hE (by have:=(q.2 hz).res;rw[oV hy0]at this;exact this))))
      ·conv=>whnf
       refine g 0 0 []<|J UA<|W.sq<|W.cn<|J (fun _=>(W.skip (W.sq (W.blk (g 162 166 [.x (aH j)]<|J Zbq (W.sq (g 166 168 []<|J UC (W.cn<|J (noT dO) fun _=>(W.skip (W.sq ?_)))))))))) (noF (by simp_all))
       refine g 168 207 [.i ((b.epoch - 1) * 1000000+1),.i ((b.epoch - 1) * 1000000+b.given),.call (V.b (decide ((b.epoch - 1) * 1000000+1≤j.lease∧j.lease≤(b.epoch - 1) * 1000000+b.given))) [[],[],[]],BF,BF,BF,BF,.b (decide (j.lease∈List.map (fun l=>l) (List.filter (fun l=>decide ¬l = 0) (List.map Job.lease (List.take n1 b.jobs))))),BF,BF,BF,BF,BF,BF,.call (V.b (decide (1≤j.worker∧j.worker≤b.workers))) [[],[],[]],BF,BF,BF,BF,BF,BF,BF,.i (b.now+1),BF,BF,BF,.i (b.now+12),BF,.call (V.b (decide (b.now+1≤j.til∧j.til≤b.now+12))) [[],[],[]],BF,BF] ?_
       conv=>whnf
       refine J ⟨I,I,I,wO,I,I,I,wO,⟨UC,I,UU,UA,af _ _ _⟩,I,I,⟨nO,I⟩,⟨nO,I⟩,⟨nO,I⟩,⟨nO,kU,fY⟩,nO,I,⟨(by simp_all),I⟩,⟨(by simp_all),I⟩,⟨(by simp_all),I⟩,⟨(by simp_all),I⟩,⟨(by simp_all),UC,I,UU,UA,af _ _ _⟩,⟨(by simp_all),I⟩,(by simp_all),I,⟨nO,I⟩,⟨nO,I⟩,⟨nO,I⟩,⟨nO,I⟩,Zek,⟨nO,I⟩,⟨nO,I⟩,Zek,⟨nO,UC,I,UU,UA,af _ _ _⟩,⟨nO,I⟩,nO,I⟩<|W.cn<|J (fun _=>(g 207 208 []<|J UA (RT ?_))) (noF (ah OM))
       exact vbf (fv hup (lX hj1 (fun q=>hD (q.2 hz).til)))
     ·conv=>whnf
      refine g 0 0 []<|J UA<|W.sq<|W.cn<|J (fun _=>(W.skip (W.sq (W.blk (g 162 166 [.x (aH j)]<|J Zbq (W.sq (g 166 168 []<|J UC (W.cn<|J (noT dO) fun _=>(W.skip (W.sq ?_)))))))))) (noF (by simp_all))
      refine g 168 207 [.i ((b.epoch - 1) * 1000000+1),.i ((b.epoch - 1) * 1000000+b.given),.call (V.b (decide ((b.epoch - 1) * 1000000+1≤j.lease∧j.lease≤(b.epoch - 1) * 1000000+b.given))) [[],[],[]],BF,BF,BF,BF,.b (decide (j.lease∈List.map (fun l=>l) (List.filter (fun l=>decide ¬l = 0) (List.map Job.lease (List.take n1 b.jobs))))),BF,BF,BF,BF,BF,BF,.call (V.b (decide (1≤j.worker∧j.worker≤b.workers))) [[],[],[]],BF,BF,BT,BT,BT,BT,BT,BT,BT,BT,BT,BT,BT] ?_
      conv=>whnf
      refine J ⟨I,I,I,wO,I,I,I,wO,⟨UC,I,UU,UA,af _ _ _⟩,I,I,⟨nO,I⟩,⟨nO,I⟩,⟨nO,I⟩,⟨nO,kU,fY⟩,nO,I,⟨(by simp_all),I⟩,⟨(by simp_all),I⟩,⟨(by simp_all),I⟩,⟨(by simp_all),I⟩,⟨(by simp_all),UC,I,UU,UA,af _ _ _⟩,⟨(by simp_all),I⟩,(by simp_all),I,ah OM,ah OM,ah OM,ah OM,ah OM,ah OM,ah OM,ah OM,ah OM,ah OM,ah OM,I⟩<|W.cn<|J (fun _=>(g 207 208 []<|J UA (RT ?_))) (noF rfl)
      exact vbf (fv hup (lX hj1 (fun q=>hC (q.2 hz).worker)))
   ·conv=>whnf
    refine g 0 0 []<|J UA<|W.sq<|W.cn<|J (fun _=>(W.skip (W.sq (W.blk (g 162 166 [.x (aH j)]<|J Zbq (W.sq (g 166 168 []<|J UC (W.cn<|J (noT dO) fun _=>(W.skip (W.sq ?_)))))))))) (noF (by simp_all))
    refine g 168 207 [.i ((b.epoch - 1) * 1000000+1),.i ((b.epoch - 1) * 1000000+b.given),.call (V.b (decide ((b.epoch - 1) * 1000000+1≤j.lease∧j.lease≤(b.epoch - 1) * 1000000+b.given))) [[],[],[]],BT,BT,BT,BT,BT,BT,BT,BT,BT,BT,BT,BT,BT,BT,BT,BT,BT,BT,BT,BT,BT,BT,BT]<|J ⟨I,I,I,wO,I,I,I,wO,⟨UC,I,UU,UA,af _ _ _⟩,I,I,ah OM,ah OM,ah OM,ah OM,ah OM,I,rfl,rfl,rfl,rfl,rfl,rfl,rfl,I,rfl,rfl,rfl,rfl,rfl,rfl,rfl,rfl,rfl,rfl,rfl,I⟩<|W.cn<|J (fun _=>(g 207 208 []<|J UA (RT ?_))) (noF rfl)
    exact vbf (fv hup (lX hj1 (fun q=>hA (q.2 hz).lease)))
 have hjobs:gt b p.tasks b.jobs.length:=by rw[show b.jobs.length = n1 by omega];exact hc1
 conv=>whnf
 refine g 0 0 []<|J UA<|W.sq<|W.cn<|J (noT (by simp_all)) fun _=>W.exit<|W.sq<|g 24 231 []<|J UD<|W.blk<|W.lp (fun s (n:Nat)=>⟨[(2,s.s 2),(3,s.s 3),(22,s.s 22),(231,s.s 231),(232,s.s 232),(233,.i n)],[(2,[s.c 2 0,s.c 2 1,s.c 2 2,s.c 2 3,s.c 2 4,s.c 2 5,s.c 2 6,s.c 2 7,s.c 2 8,s.c 2 9,s.c 2 10,s.c 2 11]),(3,[s.c 3 0])],[]⟩) (fun(n:Nat)=>n≤b.seats.length∧∀ s∈b.seats.take n,0≤s.epoch∧s.epoch≤300) (fun(n:Nat)=>b.seats.length - n) (0) [some 2,some 3] [] Zer (by simp) ?_
 rintro n2 ⟨hn2,hc2⟩
 by_cases hs2:n2 < b.seats.length
 ·obtain⟨s,hs1⟩:=ak hs2
  by_cases hA:0≤s.epoch∧s.epoch≤300
  ·conv=>whnf
   refine g 0 0 []<|J UA<|W.sq<|W.cn<|J (fun h14=>?_) fun h14=>?_
   replace h14:=dt h14
   simp only[LM]at h14
   refine W.skip<|W.sq<|W.blk<|g 234 237 [.x (aI s)]<|J ⟨Zdk,I,I,UB,I⟩<|g 237 240 [.call (V.b (decide (0≤s.epoch∧s.epoch≤300))) [[],[],[]]]<|J ⟨I,I,⟨UC,I,UU,UA,af _ _ _⟩,I,I⟩<|W.cn<|J (noT nO) fun _=>W.skip<|rg [.i ((n2:Int) +1)]<|J Zdp ?_
   rotate_left
   replace h14:=df h14
   simp only[LM]at h14
   omega
   refine⟨n2+1,[some 2,some 3],[],Zer,?_,?_⟩
   rotate_left
   (dsimp only;omega)
   dsimp only
   exact⟨by omega,dJ hc2 hs1 hA⟩
  ·conv=>whnf
   refine g 0 0 []<|J UA<|W.sq<|W.cn<|J (fun h14=>?_) fun h14=>?_
   replace h14:=dt h14
   simp only[LM]at h14
   refine W.skip<|W.sq<|W.blk<|g 234 237 [.x (aI s)]<|J ⟨Zdk,I,I,UB,I⟩<|g 237 240 [.call (V.b (decide (0≤s.epoch∧s.epoch≤300))) [[],[],[]]]<|J ⟨I,I,⟨UC,I,UU,UA,af _ _ _⟩,I,I⟩<|W.cn<|J (fun _=>(g 13 14 []<|J UA (RT ?_))) (noF (ah OM))
   rotate_left
   replace h14:=df h14
   simp only[LM]at h14
   omega
   exact vbf (fv hup (CU hs1 hA))
 have hseats:∀ s∈b.seats,0≤s.epoch∧s.epoch≤300:=by rw[bc OM]at hc2;exact hc2
 conv=>whnf
 refine g 0 0 []<|J UA<|W.sq<|W.cn<|J (fun h14=>?_) fun h14=>?_
 replace h14:=dt h14
 simp only[LM]at h14
 omega
 replace h14:=df h14
 simp only[LM]at h14
 refine W.exit<|W.sq<|g 231 243 []<|J UD<|W.blk<|W.lp (fun s (n:Nat)=>⟨[(2,s.s 2),(3,s.s 3),(22,s.s 22),(243,s.s 243),(244,s.s 244),(245,.i n)],[(2,[s.c 2 0,s.c 2 1,s.c 2 2,s.c 2 3,s.c 2 4,s.c 2 5,s.c 2 6,s.c 2 7,s.c 2 8,s.c 2 9,s.c 2 10,s.c 2 11]),(3,[s.c 3 0])],[]⟩) (fun(n:Nat)=>n≤b.owed.length∧∀ o∈b.owed.take n,OwedOk b p.tasks o) (fun(n:Nat)=>b.owed.length - n) (0) [some 2,some 3] [] Zer (by simp) ?_
 rintro n3 ⟨hn3,hc3⟩
 by_cases ho2:n3 < b.owed.length
 ·obtain⟨o,ho1⟩:=ak ho2
  by_cases hA:1≤o.worker∧o.worker≤b.workers
  ·by_cases hB:1≤o.lease∧o.lease≤300000000
   ·by_cases hC:0≤o.task∧o.task≤(p.tasks.length:Int) - 1
    ·obtain⟨y,hy0⟩:=ak (xs:=b.results) (n:=o.task.toNat) OM
     by_cases hD:y = emp
     ·conv=>whnf
      refine g 0 0 []<|J UA<|W.sq<|W.cn<|J (fun _=>(W.skip (W.sq (W.blk (g 246 249 [.x (aX o)]<|J Zcl (g 249 279 [.call (V.b (decide (1≤o.worker∧o.worker≤b.workers))) [[],[],[]],BF,BF,BF,.call (V.b (decide (1≤o.lease∧o.lease≤300000000))) [[],[],[]],BF,BF,BF,BF,BF,BF,BF,BF,.i ((↑(List.length (List.map aD p.tasks)):Int) - 1),BF,.call (V.b (decide (0≤o.task∧o.task≤(↑(List.length (List.map aD p.tasks)):Int) - 1))) [[],[],[]],BF,BF,BF,BF,BF,BF,BF,.x (aq y),BF,BF,BF]<|J ⟨I,I,I,I,⟨UC,I,UU,UA,af _ _ _⟩,I,I,⟨nO,I⟩,⟨nO,I⟩,⟨nO,UC,I,UU,UA,af _ _ _⟩,⟨nO,I⟩,nO,I,⟨nO,I⟩,⟨nO,I⟩,⟨nO,I⟩,⟨nO,I⟩,⟨nO,I⟩,⟨nO,w64 LN LN⟩,⟨nO,UC,I,UU,UA,af _ _ _⟩,⟨nO,I⟩,nO,I,⟨SI,I⟩,⟨SI,I⟩,⟨SI,I⟩,⟨SI,I⟩,⟨SI,OM,xA⟩,⟨SI,I⟩,⟨SI,I⟩,SI,I⟩ (W.cn<|J (fun _=>(g 15 16 []<|J UA (RT ?_))) (noF tO)))))))) (noF SI)
      exact vbf (fv hup (j8 ho1 (fun q=>q.res (by rw[ko hy0];exact hD))))
     ·conv=>whnf
      refine g 0 0 []<|J UA<|W.sq<|W.cn<|J (fun _=>(W.skip (W.sq (W.blk (g 246 249 [.x (aX o)]<|J Zcl (g 249 279 [.call (V.b (decide (1≤o.worker∧o.worker≤b.workers))) [[],[],[]],BF,BF,BF,.call (V.b (decide (1≤o.lease∧o.lease≤300000000))) [[],[],[]],BF,BF,BF,BF,BF,BF,BF,BF,.i ((↑(List.length (List.map aD p.tasks)):Int) - 1),BF,.call (V.b (decide (0≤o.task∧o.task≤(↑(List.length (List.map aD p.tasks)):Int) - 1))) [[],[],[]],BF,BF,BF,BF,BF,BF,BF,.x (aq y),BF,BF,BF]<|J ⟨I,I,I,I,⟨UC,I,UU,UA,af _ _ _⟩,I,I,⟨nO,I⟩,⟨nO,I⟩,⟨nO,UC,I,UU,UA,af _ _ _⟩,⟨nO,I⟩,nO,I,⟨nO,I⟩,⟨nO,I⟩,⟨nO,I⟩,⟨nO,I⟩,⟨nO,I⟩,⟨nO,w64 LN LN⟩,⟨nO,UC,I,UU,UA,af _ _ _⟩,⟨nO,I⟩,nO,I,⟨SI,I⟩,⟨SI,I⟩,⟨SI,I⟩,⟨SI,I⟩,⟨SI,OM,xA⟩,⟨SI,I⟩,⟨SI,I⟩,SI,I⟩ (W.cn<|J (noT dO) fun _=>(W.skip (rg [.i ((n3:Int) +1)]<|J Zdp ?_))))))))) (noF SI)
      refine⟨n3+1,[some 2,some 3],[],Zer,?_,?_⟩
      rotate_left
      (dsimp only;omega)
      dsimp only
      exact⟨by omega,dJ hc3 ho1 ⟨hA,hB,hC,by rw[ko hy0];exact hD⟩⟩
    ·conv=>whnf
     refine g 0 0 []<|J UA<|W.sq<|W.cn<|J (fun _=>(W.skip (W.sq (W.blk (g 246 249 [.x (aX o)]<|J Zcl (g 249 279 [.call (V.b (decide (1≤o.worker∧o.worker≤b.workers))) [[],[],[]],BF,BF,BF,.call (V.b (decide (1≤o.lease∧o.lease≤300000000))) [[],[],[]],BF,BF,BF,BF,BF,BF,BF,BF,.i ((↑(List.length (List.map aD p.tasks)):Int) - 1),BF,.call (V.b (decide (0≤o.task∧o.task≤(↑(List.length (List.map aD p.tasks)):Int) - 1))) [[],[],[]],BF,BF,BT,BT,BT,BT,BT,BT,BT,BT]<|J ⟨I,I,I,I,⟨UC,I,UU,UA,af _ _ _⟩,I,I,⟨nO,I⟩,⟨nO,I⟩,⟨nO,UC,I,UU,UA,af _ _ _⟩,⟨nO,I⟩,nO,I,⟨nO,I⟩,⟨nO,I⟩,⟨nO,I⟩,⟨nO,I⟩,⟨nO,I⟩,⟨nO,w64 LN LN⟩,⟨nO,UC,I,UU,UA,af _ _ _⟩,⟨nO,I⟩,nO,I,SI,SI,SI,SI,SI,SI,SI,SI,I⟩ (W.cn<|J (fun _=>(g 15 16 []<|J UA (RT ?_))) (noF rfl)))))))) (noF SI)
     exact vbf (fv hup (j8 ho1 (fun q=>hC q.task)))
   ·conv=>whnf
    refine g 0 0 []<|J UA<|W.sq<|W.cn<|J (fun _=>(W.skip (W.sq (W.blk (g 246 249 [.x (aX o)]<|J Zcl (g 249 279 [.call (V.b (decide (1≤o.worker∧o.worker≤b.workers))) [[],[],[]],BF,BF,BF,.call (V.b (decide (1≤o.lease∧o.lease≤300000000))) [[],[],[]],BF,BF,BT,BT,BT,BT,BT,BT,BT,BT,BT,BT,BT,BT,BT,BT,BT,BT,BT]<|J ⟨I,I,I,I,⟨UC,I,UU,UA,af _ _ _⟩,I,I,⟨nO,I⟩,⟨nO,I⟩,⟨nO,UC,I,UU,UA,af _ _ _⟩,⟨nO,I⟩,nO,I,ah OM,ah OM,ah OM,ah OM,ah OM,ah OM,ah OM,ah OM,ah OM,I,rfl,rfl,rfl,rfl,rfl,rfl,rfl,rfl,I⟩ (W.cn<|J (fun _=>(g 15 16 []<|J UA (RT ?_))) (noF rfl)))))))) (noF SI)
    exact vbf (fv hup (j8 ho1 (fun q=>hB q.lease)))
  ·conv=>whnf
   refine g 0 0 []<|J UA<|W.sq<|W.cn<|J (fun _=>(W.skip (W.sq (W.blk (g 246 249 [.x (aX o)]<|J Zcl (g 249 279 [.call (V.b (decide (1≤o.worker∧o.worker≤b.workers))) [[],[],[]],BT,BT,BT,BT,BT,BT,BT,BT,BT,BT,BT,BT,BT,BT,BT,BT,BT,BT,BT,BT,BT,BT]<|J ⟨I,I,I,I,⟨UC,I,UU,UA,af _ _ _⟩,I,I,ah OM,ah OM,ah OM,ah OM,ah OM,I,rfl,rfl,rfl,rfl,rfl,rfl,rfl,rfl,rfl,I,rfl,rfl,rfl,rfl,rfl,rfl,rfl,rfl,I⟩ (W.cn<|J (fun _=>(g 15 16 []<|J UA (RT ?_))) (noF rfl)))))))) (noF SI)
   exact vbf (fv hup (j8 ho1 (fun q=>hA q.worker)))
 have howed:∀ o∈b.owed,OwedOk b p.tasks o:=by rw[bc OM]at hc3;exact hc3
 conv=>whnf
 refine g 0 0 []<|J UA<|W.sq<|W.cn<|J (noT SI) fun _=>W.exit<|g 22 247 []<|J UA<|RT ?_
 exact vbt ⟨hc0,f6,f7,hk,fun _=>⟨f1,f2,f3,f4,f5,g1,g2,g3,g4,hjobs,hseats,howed⟩,fun e=>by rw[hup]at e;cases e⟩
end Go.K
end
section
open Go Go.Tm Go.Proofs
namespace Go.K
theorem HU{b:Boss}{k:Nat}{j2:Job}{l:Int}(hc:l ∉ (b.jobs.take k).map Job.lease)(h:b.jobs[k]? = some j2)(hn:¬j2.lease = l):l ∉ (b.jobs.take (k+1)).map Job.lease:=fun e=>by
 rw[List.take_add_one,h,List.map_append]at e
 rcases List.mem_append.1 e with e|e
 ·exact hc e
 ·simp at e;exact hn e.symm
theorem Nx{b:Boss}{k n:Nat}{j2:Job}{l:Int}(hk:k < n)(h:b.jobs[k]? = some j2)(hn:j2.lease = l):l∈(b.jobs.take n).map Job.lease :=
 List.mem_map.2 ⟨j2,List.mem_of_getElem? (i:=k) (by rw[List.getElem?_take,if_pos hk];exact h),hn⟩
theorem jg{b:Boss}{ts:List Task}{n:Nat}{j:Job}(hj:b.jobs[n]? = some j)(h:¬Bk b ts n j):¬gt b ts b.jobs.length:=fun q=>h (q n j (List.getElem?_eq_some_iff.1 hj).1 hj)
noncomputable instance (b:Boss) (ts:List Task) (n:Nat):Decidable (gt b ts n):=Classical.propDecidable _
theorem uv(b:Boss)(p:Plan)(hc0:am p.tasks = 0)(f1:1≤b.epoch)(f2:b.epoch≤300)(f3:b.results.length = p.tasks.length)(f4:b.jobs.length = p.tasks.length)(f7:0≤b.now∧b.now≤1000000)(f8:0≤b.given∧b.given≤1000000):F uc [.val (cE b),.val (bn p)] (.b (decide (gt b p.tasks b.jobs.length))) [[],[]]:=by
 have hpl:=(bM hc0).1
 refine um ?_
 conv=>whnf
 refine g 0 2 []<|J Zce<|g 11 13 [.i (b.epoch - 1),.i ((b.epoch - 1) * 1000000)]<|J ⟨I,I,wO,wO,I,I⟩<|W.sq<|g 9 10 []<|J UA<|W.blk ?_
 refine W.lp (fun s (n:Nat)=>⟨[(2,s.s 2),(3,s.s 3),(5,s.s 5),(6,.i n),(10,s.s 10)],[(2,[s.c 2 0,s.c 2 1,s.c 2 2,s.c 2 3,s.c 2 4,s.c 2 5,s.c 2 6,s.c 2 7,s.c 2 8,s.c 2 9,s.c 2 10,s.c 2 11]),(3,[s.c 3 0])],[]⟩) (fun(n:Nat)=>n≤b.jobs.length∧gt b p.tasks n) (fun(n:Nat)=>b.jobs.length - n) (0) [some 2,some 3] [] ⟨rfl,⟨rfl,rfl,rfl,rfl,rfl,I⟩,⟨⟨rfl,⟨rfl,⟨rfl,⟨rfl,⟨rfl,⟨rfl,⟨rfl,⟨rfl,⟨rfl,⟨rfl,⟨rfl,⟨rfl,⟨rfl,I⟩⟩⟩⟩⟩⟩⟩⟩⟩⟩⟩⟩⟩,⟨⟨rfl,⟨rfl,I⟩⟩,I⟩⟩,I⟩ ?_ ?_
 ·exact⟨Nat.zero_le _,fun m j hm=>by omega⟩
 rintro n1 ⟨hn1,hc1⟩
 by_cases hj2:n1 < b.jobs.length
 ·obtain⟨j,hj1⟩:=ak hj2
  obtain⟨y,hy0⟩:=ak (xs:=b.results) (n:=n1) OM
  obtain⟨t,ht0⟩:=ak (xs:=p.tasks) (n:=n1) OM
  obtain⟨_,_,a3,a4⟩:=bP hc0 ht0
  have crd:=gy p b.results (n1:Int) (t:=t) OM (by rw[Int.toNat_natCast];exact ht0) (fun d hd=>by have:=a4 d hd;omega) OM
  by_cases hz:j.lease = 0
  ·by_cases hz2:j.worker = 0∧j.til = 0
   ·have hjo:Bk b p.tasks n1 j:=⟨fun _=>hz2,fun e=>absurd hz e⟩
    obtain⟨hz3,hz4⟩:=hz2
    conv=>whnf
    refine W.sq<|g 13 17 []<|J UE<|W.cn<|J (fun _=>(W.skip (W.sq (W.blk (g 17 25 [.x (aH j)]<|J Zbe (W.sq (g 25 27 []<|J UC (W.cn<|J (fun _=>(W.sq (g 31 35 [BF,BF,BF,BF]<|J ⟨I,I,I,I,⟨nO,I⟩,⟨nO,I⟩,⟨nO,I⟩,nO,I⟩ ?_))) (noF tO))))))))) (noF (by simp_all))
    refine W.cn<|J (noT nO) fun _=>W.skip<|W.exit<|rg [.i ((n1:Int) +1)]<|J Zdg ?_
    refine⟨n1+1,[some 2,some 3],[],⟨rfl,Zbc,⟨Zaa,Zdv⟩,I⟩,?_,?_⟩
    rotate_left
    (dsimp only;omega)
    dsimp only
    exact⟨by omega,nL hc1 hj1 hjo⟩
   ·conv=>whnf
    refine W.sq<|g 13 17 []<|J UE<|W.cn<|J (fun _=>(W.skip (W.sq (W.blk (g 17 25 [.x (aH j)]<|J Zbe (W.sq (g 25 27 []<|J UC (W.cn<|J (fun _=>(W.sq ?_)) (noF tO))))))))) (noF (by simp_all))
    by_cases h1:Job.worker j = (0:Int)
    refine g 31 35 [BF,BF,BF,BF]<|J ⟨I,I,I,I,⟨nO,I⟩,⟨nO,I⟩,⟨nO,I⟩,nO,I⟩<|W.cn<|J (fun _=>(g 27 30 []<|J UA (RT ?_))) (noF (ah OM))
    rotate_left
    refine g 31 35 [BT,BT,BT,BT]<|J ⟨I,I,I,I,ah OM,ah OM,ah OM,ah OM,I⟩<|W.cn<|J (fun _=>(g 27 30 []<|J UA (RT ?_))) (noF rfl)
    rotate_left
    all_goals exact vbf (jg hj1 (fun q=>by have:=q.1 hz;omega))
  ·by_cases hA:(b.epoch - 1) * 1000000+1≤j.lease∧j.lease≤(b.epoch - 1) * 1000000+b.given
   ·by_cases hC:1≤j.worker∧j.worker≤b.workers
    ·by_cases hD:b.now+1≤j.til∧j.til≤b.now+12
     ·by_cases hE:y = emp
      ·by_cases hF:cF b.results t.deps
       ·rw[decide_eq_true hF]at crd
        conv=>whnf
        refine W.sq<|g 13 17 []<|J UE<|W.cn<|J (fun _=>(W.skip (W.sq (W.blk (g 17 25 [.x (aH j)]<|J Zbe (W.sq (g 25 27 []<|J UC (W.cn<|J (noT dO) fun _=>(W.skip (W.sq ?_)))))))))) (noF (by simp_all))
        refine g 27 81 [.i ((b.epoch - 1) * 1000000+1),.i ((b.epoch - 1) * 1000000+b.given),.call (V.b (decide ((b.epoch - 1) * 1000000+1≤j.lease∧j.lease≤(b.epoch - 1) * 1000000+b.given))) [[],[],[]],BF,BF,BF,BF,BF,.call (V.b (decide (1≤j.worker∧j.worker≤b.workers))) [[],[],[]],BF,BF,BF,BF,BF,BF,BF,.i (b.now+1),BF,BF,BF,.i (b.now+12),BF,.call (V.b (decide (b.now+1≤j.til∧j.til≤b.now+12))) [[],[],[]],BF,BF,BF,BF,BF,BF,.x (aq y),BF,BF,BF,BF,BF,BF,BF,BF,.call VT [[],[],[]],BF,BF] ?_
        conv=>whnf
        refine J ⟨I,I,I,wO,I,I,I,wO,⟨UC,I,UU,UA,ai _ _ _⟩,I,I,⟨nO,I⟩,⟨nO,I⟩,⟨nO,I⟩,⟨nO,I⟩,⟨nO,UC,I,UU,UA,ai _ _ _⟩,⟨nO,I⟩,nO,I,⟨nO,I⟩,⟨nO,I⟩,⟨nO,I⟩,⟨nO,I⟩,Zek,⟨nO,I⟩,⟨nO,I⟩,Zek,⟨nO,UC,I,UU,UA,ai _ _ _⟩,⟨nO,I⟩,nO,I,⟨nO,I⟩,⟨nO,I⟩,⟨nO,I⟩,⟨nO,OM,xA⟩,⟨nO,I⟩,⟨nO,I⟩,nO,I,⟨nO,I⟩,⟨nO,I⟩,⟨nO,I⟩,⟨nO,I⟩,⟨nO,UC,I,UU,UA,AS⟩,⟨nO,I⟩,nO,I⟩<|W.cn<|J (noT rfl) fun _=>W.skip<|g 81 82 []<|J UA<|W.blk<|W.lp (fun s (k:Nat)=>⟨[(2,s.s 2),(3,s.s 3),(5,s.s 5),(6,s.s 6),(7,s.s 7),(8,.i k),(10,s.s 10)],[(2,[s.c 2 0,s.c 2 1,s.c 2 2,s.c 2 3,s.c 2 4,s.c 2 5,s.c 2 6,s.c 2 7,s.c 2 8,s.c 2 9,s.c 2 10,s.c 2 11]),(3,[s.c 3 0]),(7,[s.c 7 0,s.c 7 1,s.c 7 2])],[]⟩) (fun(k:Nat)=>k≤n1∧j.lease ∉ (b.jobs.take k).map Job.lease) (fun(k:Nat)=>n1 - k) (0) [some 2,some 3,some 7] [] ⟨rfl,Za1,⟨Zaa,⟨Zad,Zeb⟩⟩,I⟩ (by simp) ?_
        rintro k ⟨hk,hB⟩
        by_cases hk2:k < n1
        ·obtain⟨j2,hj3⟩:=ak (xs:=b.jobs) (n:=k) OM
         by_cases hq:j2.lease = j.lease
         ·conv=>whnf
          refine W.sq<|g 82 84 []<|J UC<|W.cn<|J (fun _=>(W.skip (W.sq (W.blk (gd 84 95 [[],[],[],[.x (aH j2)],[],[],[],[],[]] ?_))))) (noF tO)
          conv=>whnf
          refine⟨⟨I,I,I,Zdk,I,I,I,I,I,I⟩,by kernel_rfl,?_⟩
          refine W.cn<|J (fun _=>(g 95 96 []<|J UA (RT ?_))) (noF tO)
          exact vbf (jg hj1 (fun q=>(q.2 hz).once (Nx hk2 hj3 hq)))
         ·conv=>whnf
          refine W.sq<|g 82 84 []<|J UC<|W.cn<|J (fun _=>(W.skip (W.sq (W.blk (gd 84 95 [[],[],[],[.x (aH j2)],[],[],[],[],[]] ?_))))) (noF tO)
          conv=>whnf
          refine⟨⟨I,I,I,Zdk,I,I,I,I,I,I⟩,by kernel_rfl,?_⟩
          refine W.cn<|J (noT dO) fun _=>W.skip<|rg [.i ((k:Int) +1)]<|J Zdg ?_
          refine⟨k+1,[some 2,some 3,some 7],[],⟨rfl,Za1,⟨Zaa,⟨Zad,Zeb⟩⟩,I⟩,?_,?_⟩
          rotate_left
          (dsimp only;omega)
          dsimp only
          exact⟨by omega,HU hB hj3 hq⟩
        ·rw[show k = n1 by omega]at hB
         conv=>whnf
         refine W.sq<|g 82 84 []<|J UC<|W.cn<|J (noT dO) fun _=>W.exit<|rg [.i ((n1:Int) +1)]<|J Zdg ?_
         refine⟨n1+1,[some 2,some 3],[],⟨rfl,Zbc,⟨Zaa,Zdv⟩,I⟩,?_,?_⟩
         rotate_left
         (dsimp only;omega)
         dsimp only
         exact⟨by omega,nL hc1 hj1 ⟨fun e=>absurd e hz,fun _=>⟨hA,hC,hD,by rw[oV hy0];exact hE,by rw[dn ht0];exact hF,hB⟩⟩⟩
       ·rw[decide_eq_false hF]at crd
        conv=>whnf
        refine W.sq<|g 13 17 []<|J UE<|W.cn<|J (fun _=>(W.skip (W.sq (W.blk (g 17 25 [.x (aH j)]<|J Zbe (W.sq (g 25 27 []<|J UC (W.cn<|J (noT dO) fun _=>(W.skip (W.sq ?_)))))))))) (noF (by simp_all))
        refine g 27 81 [.i ((b.epoch - 1) * 1000000+1),.i ((b.epoch - 1) * 1000000+b.given),.call (V.b (decide ((b.epoch - 1) * 1000000+1≤j.lease∧j.lease≤(b.epoch - 1) * 1000000+b.given))) [[],[],[]],BF,BF,BF,BF,BF,.call (V.b (decide (1≤j.worker∧j.worker≤b.workers))) [[],[],[]],BF,BF,BF,BF,BF,BF,BF,.i (b.now+1),BF,BF,BF,.i (b.now+12),BF,.call (V.b (decide (b.now+1≤j.til∧j.til≤b.now+12))) [[],[],[]],BF,BF,BF,BF,BF,BF,.x (aq y),BF,BF,BF,BF,BF,BF,BF,BF,.call VF [[],[],[]],BF,BF] ?_
        conv=>whnf
        refine J ⟨I,I,I,wO,I,I,I,wO,⟨UC,I,UU,UA,ai _ _ _⟩,I,I,⟨nO,I⟩,⟨nO,I⟩,⟨nO,I⟩,⟨nO,I⟩,⟨nO,UC,I,UU,UA,ai _ _ _⟩,⟨nO,I⟩,nO,I,⟨nO,I⟩,⟨nO,I⟩,⟨nO,I⟩,⟨nO,I⟩,Zek,⟨nO,I⟩,⟨nO,I⟩,Zek,⟨nO,UC,I,UU,UA,ai _ _ _⟩,⟨nO,I⟩,nO,I,⟨nO,I⟩,⟨nO,I⟩,⟨nO,I⟩,⟨nO,OM,xA⟩,⟨nO,I⟩,⟨nO,I⟩,nO,I,⟨nO,I⟩,⟨nO,I⟩,⟨nO,I⟩,⟨nO,I⟩,⟨nO,UC,I,UU,UA,AS⟩,⟨nO,I⟩,nO,I⟩<|W.cn<|J (fun _=>(g 81 82 []<|J UA (RT ?_))) (noF rfl)
        exact vbf (jg hj1 (fun q=>hF (by have:=(q.2 hz).ready;rw[dn ht0]at this;exact this)))
      ·conv=>whnf
       refine W.sq<|g 13 17 []<|J UE<|W.cn<|J (fun _=>(W.skip (W.sq (W.blk (g 17 25 [.x (aH j)]<|J Zbe (W.sq (g 25 27 []<|J UC (W.cn<|J (noT dO) fun _=>(W.skip (W.sq ?_)))))))))) (noF (by simp_all))
       refine g 27 81 [.i ((b.epoch - 1) * 1000000+1),.i ((b.epoch - 1) * 1000000+b.given),.call (V.b (decide ((b.epoch - 1) * 1000000+1≤j.lease∧j.lease≤(b.epoch - 1) * 1000000+b.given))) [[],[],[]],BF,BF,BF,BF,BF,.call (V.b (decide (1≤j.worker∧j.worker≤b.workers))) [[],[],[]],BF,BF,BF,BF,BF,BF,BF,.i (b.now+1),BF,BF,BF,.i (b.now+12),BF,.call (V.b (decide (b.now+1≤j.til∧j.til≤b.now+12))) [[],[],[]],BF,BF,BF,BF,BF,BF,.x (aq y),BF,BF,BF,BT,BT,BT,BT,BT,BT,BT] ?_
       conv=>whnf
       refine J ⟨I,I,I,wO,I,I,I,wO,⟨UC,I,UU,UA,ai _ _ _⟩,I,I,⟨nO,I⟩,⟨nO,I⟩,⟨nO,I⟩,⟨nO,I⟩,⟨nO,UC,I,UU,UA,ai _ _ _⟩,⟨nO,I⟩,nO,I,⟨nO,I⟩,⟨nO,I⟩,⟨nO,I⟩,⟨nO,I⟩,Zek,⟨nO,I⟩,⟨nO,I⟩,Zek,⟨nO,UC,I,UU,UA,ai _ _ _⟩,⟨nO,I⟩,nO,I,⟨nO,I⟩,⟨nO,I⟩,⟨nO,I⟩,⟨nO,OM,xA⟩,⟨nO,I⟩,⟨nO,I⟩,nO,I,ah OM,ah OM,ah OM,ah OM,ah OM,ah OM,ah OM,I⟩<|W.cn<|J (fun _=>(g 81 82 []<|J UA (RT ?_))) (noF rfl)
       exact vbf (jg hj1 (fun q=>hE (by have:=(q.2 hz).res;rw[oV hy0]at this;exact this)))
     ·conv=>whnf
      refine W.sq<|g 13 17 []<|J UE<|W.cn<|J (fun _=>(W.skip (W.sq (W.blk (g 17 25 [.x (aH j)]<|J Zbe (W.sq (g 25 27 []<|J UC (W.cn<|J (noT dO) fun _=>(W.skip (W.sq ?_)))))))))) (noF (by simp_all))
      refine g 27 81 [.i ((b.epoch - 1) * 1000000+1),.i ((b.epoch - 1) * 1000000+b.given),.call (V.b (decide ((b.epoch - 1) * 1000000+1≤j.lease∧j.lease≤(b.epoch - 1) * 1000000+b.given))) [[],[],[]],BF,BF,BF,BF,BF,.call (V.b (decide (1≤j.worker∧j.worker≤b.workers))) [[],[],[]],BF,BF,BF,BF,BF,BF,BF,.i (b.now+1),BF,BF,BF,.i (b.now+12),BF,.call (V.b (decide (b.now+1≤j.til∧j.til≤b.now+12))) [[],[],[]],BF,BF,BT,BT,BT,BT,BT,BT,BT,BT,BT,BT,BT,BT,BT,BT] ?_
      conv=>whnf
      refine J ⟨I,I,I,wO,I,I,I,wO,⟨UC,I,UU,UA,ai _ _ _⟩,I,I,⟨nO,I⟩,⟨nO,I⟩,⟨nO,I⟩,⟨nO,I⟩,⟨nO,UC,I,UU,UA,ai _ _ _⟩,⟨nO,I⟩,nO,I,⟨nO,I⟩,⟨nO,I⟩,⟨nO,I⟩,⟨nO,I⟩,Zek,⟨nO,I⟩,⟨nO,I⟩,Zek,⟨nO,UC,I,UU,UA,ai _ _ _⟩,⟨nO,I⟩,nO,I,ah OM,ah OM,ah OM,ah OM,ah OM,ah OM,ah OM,I,rfl,rfl,rfl,rfl,rfl,rfl,rfl,I⟩<|W.cn<|J (fun _=>(g 81 82 []<|J UA (RT ?_))) (noF rfl)
      exact vbf (jg hj1 (fun q=>hD (q.2 hz).til))
    ·conv=>whnf
     refine W.sq<|g 13 17 []<|J UE<|W.cn<|J (fun _=>(W.skip (W.sq (W.blk (g 17 25 [.x (aH j)]<|J Zbe (W.sq (g 25 27 []<|J UC (W.cn<|J (noT dO) fun _=>(W.skip (W.sq ?_)))))))))) (noF (by simp_all))
     refine g 27 81 [.i ((b.epoch - 1) * 1000000+1),.i ((b.epoch - 1) * 1000000+b.given),.call (V.b (decide ((b.epoch - 1) * 1000000+1≤j.lease∧j.lease≤(b.epoch - 1) * 1000000+b.given))) [[],[],[]],BF,BF,BF,BF,BF,.call (V.b (decide (1≤j.worker∧j.worker≤b.workers))) [[],[],[]],BF,BF,BT,BT,BT,BT,BT,BT,BT,BT,BT,BT,BT,BT,BT,BT,BT,BT,BT,BT,BT,BT,BT,BT,BT,BT,BT] ?_
     conv=>whnf
     refine J ⟨I,I,I,wO,I,I,I,wO,⟨UC,I,UU,UA,ai _ _ _⟩,I,I,⟨nO,I⟩,⟨nO,I⟩,⟨nO,I⟩,⟨nO,I⟩,⟨nO,UC,I,UU,UA,ai _ _ _⟩,⟨nO,I⟩,nO,I,ah OM,ah OM,ah OM,ah OM,ah OM,ah OM,ah OM,ah OM,ah OM,ah OM,ah OM,I,rfl,rfl,rfl,rfl,rfl,rfl,rfl,I,rfl,rfl,rfl,rfl,rfl,rfl,rfl,I⟩<|W.cn<|J (fun _=>(g 81 82 []<|J UA (RT ?_))) (noF rfl)
     exact vbf (jg hj1 (fun q=>hC (q.2 hz).worker))
   ·conv=>whnf
    refine W.sq<|g 13 17 []<|J UE<|W.cn<|J (fun _=>(W.skip (W.sq (W.blk (g 17 25 [.x (aH j)]<|J Zbe (W.sq (g 25 27 []<|J UC (W.cn<|J (noT dO) fun _=>(W.skip (W.sq ?_)))))))))) (noF (by simp_all))
    refine g 27 81 [.i ((b.epoch - 1) * 1000000+1),.i ((b.epoch - 1) * 1000000+b.given),.call (V.b (decide ((b.epoch - 1) * 1000000+1≤j.lease∧j.lease≤(b.epoch - 1) * 1000000+b.given))) [[],[],[]],BT,BT,BT,BT,BT,BT,BT,BT,BT,BT,BT,BT,BT,BT,BT,BT,BT,BT,BT,BT,BT,BT,BT,BT,BT,BT,BT,BT,BT,BT,BT,BT] ?_
    conv=>whnf
    refine J ⟨I,I,I,wO,I,I,I,wO,⟨UC,I,UU,UA,ai _ _ _⟩,I,I,ah OM,ah OM,ah OM,ah OM,ah OM,ah OM,ah OM,I,rfl,rfl,rfl,rfl,rfl,rfl,rfl,rfl,rfl,rfl,rfl,I,rfl,rfl,rfl,rfl,rfl,rfl,rfl,I,rfl,rfl,rfl,rfl,rfl,rfl,rfl,I⟩<|W.cn<|J (fun _=>(g 81 82 []<|J UA (RT ?_))) (noF rfl)
    exact vbf (jg hj1 (fun q=>hA (q.2 hz).lease))
 have hjobs:gt b p.tasks b.jobs.length:=by rw[show b.jobs.length = n1 by omega];exact hc1
 conv=>whnf
 refine W.sq<|g 13 17 []<|J UE<|W.cn<|J (noT (by simp_all)) fun _=>W.exit<|g 5 18 []<|J UA<|RT ?_
 exact vbt OM
theorem sC(b:Boss)(p:Plan)(hp:cR p)(hl1:b.log.safe.length≤1048576)(hl2:b.log.loose.length≤1048576)(hs:∀ s∈b.log.safe++b.log.loose,s.size≤281474976710656)(hr:b.results.length≤1048576)(hj:b.jobs.length≤1048576)(hse:b.seats.length≤1048576)(ho:b.owed.length≤1048576):F cJ [.val (cE b),.val (bn p)] (.b (decide (BossOk b p))) [[],[]]:=by
 have cp:=cL p hp
 have ce:=qN b.log hl1 hl2
 have cr:F jI [.val (bn p),.val (.t (n7 (b.log.safe++b.log.loose)))] (eM (bU b p)) [[],[]]:=gz p (b.log.safe++b.log.loose) hp hs (by rw[List.length_append];omega)
 have h310:(bU b p).code = 0→b.log.safe.length+b.log.loose.length≤310:=fun q=>by have:=(bR (p:=p) (xs:=b.log.safe++b.log.loose) q).2.1;rw[List.length_append]at this;exact this
 by_cases hup:b.up = true
 rotate_left
 ·rw[Bool.not_eq_true]at hup
  refine ke ?_
  conv=>whnf
  refine g 0 2 []<|J Zce<|W.sq ?_
  by_cases h1:am (Plan.tasks p) = (0:Int)
  by_cases h2:(1:Int)≤Boss.workers b∧Boss.workers b≤(8:Int)
  by_cases h3:(0:Int)≤Boss.now b∧Boss.now b≤(1000000:Int)
  refine g 21 26 [.call (V.i (am p.tasks)) [[]],BF,BF,BF,.call (V.b (decide (1≤b.workers∧b.workers≤8))) [[],[],[]],BF,BF,BF,BF,BF,.call (V.b (decide (0≤b.now∧b.now≤1000000))) [[],[],[]],BF,BF,BF,BF,BF,BF,BF,BF,BF,BF,BF,.i ((↑(List.length (List.map aq b.log.safe)):Int) + (↑(List.length (List.map aq b.log.loose)):Int)),BF,BF]<|J ⟨I,Zaj,I,I,⟨nO,I⟩,⟨nO,I⟩,⟨nO,UC,I,UU,UA,ai _ _ _⟩,⟨nO,I⟩,nO,I,⟨nO,I⟩,⟨nO,I⟩,⟨nO,UC,I,UU,UA,ai _ _ _⟩,⟨nO,I⟩,nO,I,⟨nO,I⟩,⟨nO,I⟩,⟨nO,I⟩,⟨nO,I⟩,⟨nO,I⟩,⟨nO,I⟩,⟨nO,I⟩,⟨nO,I⟩,⟨nO,w64 LN LN⟩,⟨nO,I⟩,nO,I⟩<|W.cn<|J (fun h4=>?_) fun h4=>?_
  replace h4:=dt h4
  simp only[LM]at h4
  refine g 27 32 []<|J UA<|RT ?_
  rotate_left
  replace h4:=df h4
  simp only[LM]at h4
  refine W.skip<|gd 27 32 [[],[],[],[.call (V.own [false] (List.map aq (b.log.safe++b.log.loose))) [[]]],[.call (eM (bU b p)) [[],[]]],[],[]] ?_
  conv=>whnf
  refine J ⟨I,I,I,⟨UA,I,⟨UB,I⟩,UA,AS⟩,Zaq,I,UC,I⟩<|J KR<|W.sq<|g 39 45 []<|J UC<|W.cn<|J (fun h5=>?_) fun h5=>?_
  replace h5:=ndt h5
  refine g 33 38 []<|J UA<|RT ?_
  rotate_left
  replace h5:=ndf h5
  refine W.skip<|W.sq<|g 33 38 []<|J UC<|W.cn<|J (fun _=>?_) (noF (nbT AS))
  by_cases h6:(↑(List.length (List.map aq (Log.loose (Boss.log b)))):Int) = (0:Int)
  simp only[LM]at h6
  by_cases h7:Boss.since b = (0:Int)
  by_cases h8:Boss.epoch b = (0:Int)
  by_cases h9:Boss.given b = (0:Int)
  by_cases h10:(↑(List.length (List.map aq (Boss.results b))):Int) = (0:Int)
  simp only[LM]at h10
  by_cases h11:(↑(List.length (List.map aH (Boss.jobs b))):Int) = (0:Int)
  simp only[LM]at h11
  by_cases h12:(↑(List.length (List.map aI (Boss.seats b))):Int) = (0:Int)
  simp only[LM]at h12
  refine g 26 93 [BT,BT,BT,BT,BT,BT,BT,BT,BT,BT,BT,BT,BT,BT,BT,BT,BT,BT,BT,BT,BT,BT,BT,BT,BT,BT,BT,BT,BT,BT,BT,BT] ?_
  conv=>whnf
  refine J Zaz<|RT ?_
  rotate_left
  simp only[LM]at h12
  refine g 26 93 [BT,BT,BT,BT,BT,BT,BT,BT,BT,BT,BT,BT,BT,BT,BT,BT,BT,BT,BT,BT,BT,BT,BT,BT,BT,BT,BT,BF,BF,BF,BF,BF] ?_
  conv=>whnf
  refine J ⟨I,I,I,I,I,I,⟨SI,I⟩,⟨SI,I⟩,⟨SI,I⟩,SI,I,⟨tO,I⟩,⟨tO,I⟩,⟨tO,I⟩,tO,I,⟨tO,I⟩,⟨tO,I⟩,⟨tO,I⟩,tO,I,⟨tO,I⟩,⟨tO,I⟩,⟨tO,I⟩,⟨tO,I⟩,tO,I,⟨SI,I⟩,⟨SI,I⟩,⟨SI,I⟩,⟨SI,I⟩,SI,I,⟨SI,I⟩,⟨SI,I⟩,⟨SI,I⟩,⟨SI,I⟩,SI,I,(by simp_all),(by simp_all),(by simp_all),(by simp_all),(by simp_all),I,I⟩<|RT ?_
  rotate_left
  simp only[LM]at h11
  refine g 26 93 [BT,BT,BT,BT,BT,BT,BT,BT,BT,BT,BT,BT,BT,BT,BT,BT,BT,BT,BT,BT,BT,BT,BF,BF,BF,BF,BF,BF,BF,BF,BF,BF] ?_
  conv=>whnf
  refine J ⟨I,I,I,I,I,I,⟨SI,I⟩,⟨SI,I⟩,⟨SI,I⟩,SI,I,⟨tO,I⟩,⟨tO,I⟩,⟨tO,I⟩,tO,I,⟨tO,I⟩,⟨tO,I⟩,⟨tO,I⟩,tO,I,⟨tO,I⟩,⟨tO,I⟩,⟨tO,I⟩,⟨tO,I⟩,tO,I,⟨SI,I⟩,⟨SI,I⟩,⟨SI,I⟩,⟨SI,I⟩,SI,I,(by simp_all),(by simp_all),(by simp_all),(by simp_all),(by simp_all),I,rfl,rfl,rfl,rfl,rfl,I,I⟩<|RT ?_
  rotate_left
  simp only[LM]at h10
  refine g 26 93 [BT,BT,BT,BT,BT,BT,BT,BT,BT,BT,BT,BT,BT,BT,BT,BT,BT,BF,BF,BF,BF,BF,BF,BF,BF,BF,BF,BF,BF,BF,BF,BF] ?_
  conv=>whnf
  refine J ⟨I,I,I,I,I,I,⟨SI,I⟩,⟨SI,I⟩,⟨SI,I⟩,SI,I,⟨tO,I⟩,⟨tO,I⟩,⟨tO,I⟩,tO,I,⟨tO,I⟩,⟨tO,I⟩,⟨tO,I⟩,tO,I,⟨tO,I⟩,⟨tO,I⟩,⟨tO,I⟩,⟨tO,I⟩,tO,I,(by simp_all),(by simp_all),(by simp_all),(by simp_all),(by simp_all),I,rfl,rfl,rfl,rfl,rfl,I,rfl,rfl,rfl,rfl,rfl,I,I⟩<|RT ?_
  rotate_left
  refine g 26 93 [BT,BT,BT,BT,BT,BT,BT,BT,BT,BT,BT,BT,BF,BF,BF,BF,BF,BF,BF,BF,BF,BF,BF,BF,BF,BF,BF,BF,BF,BF,BF,BF] ?_
  conv=>whnf
  refine J Zbp<|RT ?_
  rotate_left
  refine g 26 93 [BT,BT,BT,BT,BT,BT,BT,BT,BF,BF,BF,BF,BF,BF,BF,BF,BF,BF,BF,BF,BF,BF,BF,BF,BF,BF,BF,BF,BF,BF,BF,BF] ?_
  conv=>whnf
  refine J Zbu<|RT ?_
  rotate_left
  refine g 26 93 [BT,BT,BT,BT,BF,BF,BF,BF,BF,BF,BF,BF,BF,BF,BF,BF,BF,BF,BF,BF,BF,BF,BF,BF,BF,BF,BF,BF,BF,BF,BF,BF] ?_
  conv=>whnf
  refine J Zbz<|RT ?_
  rotate_left
  simp only[LM]at h6
  refine g 26 93 [BF,BF,BF,BF,BF,BF,BF,BF,BF,BF,BF,BF,BF,BF,BF,BF,BF,BF,BF,BF,BF,BF,BF,BF,BF,BF,BF,BF,BF,BF,BF,BF] ?_
  conv=>whnf
  refine J ⟨I,I,I,I,I,I,(by simp_all),(by simp_all),(by simp_all),(by simp_all),I,rfl,rfl,rfl,rfl,I,rfl,rfl,rfl,rfl,I,rfl,rfl,rfl,rfl,rfl,I,rfl,rfl,rfl,rfl,rfl,I,rfl,rfl,rfl,rfl,rfl,I,rfl,rfl,rfl,rfl,rfl,I,I⟩<|RT ?_
  rotate_left
  refine g 21 26 [.call (V.i (am p.tasks)) [[]],BF,BF,BF,.call (V.b (decide (1≤b.workers∧b.workers≤8))) [[],[],[]],BF,BF,BF,BF,BF,.call (V.b (decide (0≤b.now∧b.now≤1000000))) [[],[],[]],BF,BF,BT,BT,BT,BT,BT,BT,BT,BT,BT,BT,BT]<|J ⟨I,Zaj,I,I,⟨nO,I⟩,⟨nO,I⟩,⟨nO,UC,I,UU,UA,ai _ _ _⟩,⟨nO,I⟩,nO,I,⟨nO,I⟩,⟨nO,I⟩,⟨nO,UC,I,UU,UA,ai _ _ _⟩,⟨nO,I⟩,nO,I,ah OM,ah OM,ah OM,ah OM,ah OM,ah OM,ah OM,ah OM,ah OM,ah OM,ah OM,I⟩<|W.cn<|J (fun _=>(g 27 32 []<|J UA (RT ?_))) (noF rfl)
  rotate_left
  refine g 21 26 [.call (V.i (am p.tasks)) [[]],BF,BF,BF,.call (V.b (decide (1≤b.workers∧b.workers≤8))) [[],[],[]],BF,BF,BT,BT,BT,BT,BT,BT,BT,BT,BT,BT,BT,BT,BT,BT,BT,BT]<|J ⟨I,Zaj,I,I,⟨nO,I⟩,⟨nO,I⟩,⟨nO,UC,I,UU,UA,ai _ _ _⟩,⟨nO,I⟩,nO,I,ah OM,ah OM,ah OM,ah OM,ah OM,I,rfl,rfl,rfl,rfl,rfl,rfl,rfl,rfl,rfl,rfl,rfl,I⟩<|W.cn<|J (fun _=>(g 27 32 []<|J UA (RT ?_))) (noF rfl)
  rotate_left
  refine g 21 26 [.call (V.i (am p.tasks)) [[]],BT,BT,BT,BT,BT,BT,BT,BT,BT,BT,BT,BT,BT,BT,BT,BT,BT,BT,BT,BT,BT]<|J Zd4<|W.cn<|J (fun _=>(g 27 32 []<|J UA (RT ?_))) (noF rfl)
  rotate_left
  all_goals first
   |exact vbf (fun q=>by have e1:=q.plan;have e2:=q.workers;have e3:=q.now;have e4:=q.code;have e5:=h310 e4;omega)
   |exact vbf (vM hup fun q=>by have e1:=q.loose;have e2:=q.since;have e3:=q.epoch;have e4:=q.given;have e5:=q.res;have e6:=q.jobs;have e7:=q.seats;omega)
   |(rename_i h8
     simp only[List.length_map]
     by_cases h9:(b.owed.length:Int) = 0
     ·rw[decide_eq_true h9];exact vbt ⟨by omega,by omega,by omega,by omega,(fun q=>by rw[hup]at q;cases q),fun _=>⟨by omega,by omega,by omega,by omega,by omega,by omega,by omega,by omega⟩⟩
     ·rw[decide_eq_false h9];exact vbf (vM hup fun q=>by have e8:=q.owed;omega))
   |skip
 refine ke ?_
 conv=>whnf
 refine g 0 2 []<|J Zce<|W.sq ?_
 by_cases h1:am (Plan.tasks p) = (0:Int)
 by_cases h2:(1:Int)≤Boss.workers b∧Boss.workers b≤(8:Int)
 by_cases h3:(0:Int)≤Boss.now b∧Boss.now b≤(1000000:Int)
 refine g 21 26 [.call (V.i (am p.tasks)) [[]],BF,BF,BF,.call (V.b (decide (1≤b.workers∧b.workers≤8))) [[],[],[]],BF,BF,BF,BF,BF,.call (V.b (decide (0≤b.now∧b.now≤1000000))) [[],[],[]],BF,BF,BF,BF,BF,BF,BF,BF,BF,BF,BF,.i ((↑(List.length (List.map aq b.log.safe)):Int) + (↑(List.length (List.map aq b.log.loose)):Int)),BF,BF]<|J ⟨I,Zaj,I,I,⟨nO,I⟩,⟨nO,I⟩,⟨nO,UC,I,UU,UA,ai _ _ _⟩,⟨nO,I⟩,nO,I,⟨nO,I⟩,⟨nO,I⟩,⟨nO,UC,I,UU,UA,ai _ _ _⟩,⟨nO,I⟩,nO,I,⟨nO,I⟩,⟨nO,I⟩,⟨nO,I⟩,⟨nO,I⟩,⟨nO,I⟩,⟨nO,I⟩,⟨nO,I⟩,⟨nO,I⟩,⟨nO,w64 LN LN⟩,⟨nO,I⟩,nO,I⟩<|W.cn<|J (fun h4=>?_) fun h4=>?_
 replace h4:=dt h4
 simp only[LM]at h4
 refine g 27 32 []<|J UA<|RT ?_
 rotate_left
 replace h4:=df h4
 simp only[LM]at h4
 refine W.skip<|gd 27 32 [[],[],[],[.call (V.own [false] (List.map aq (b.log.safe++b.log.loose))) [[]]],[.call (eM (bU b p)) [[],[]]],[],[]] ?_
 conv=>whnf
 refine J ⟨I,I,I,⟨UA,I,⟨UB,I⟩,UA,AS⟩,Zaq,I,UC,I⟩<|J KR<|W.sq<|g 39 45 []<|J UC<|W.cn<|J (fun h5=>?_) fun h5=>?_
 replace h5:=ndt h5
 refine g 33 38 []<|J UA<|RT ?_
 rotate_left
 replace h5:=ndf h5
 refine W.skip<|W.sq<|g 33 38 []<|J UC<|W.cn<|J (noT (nbF AS)) fun _=>W.skip<|W.sq ?_
 by_cases h6:Boss.epoch b = Story.epoch (bU b p)
 by_cases h7:Boss.epoch b < (1:Int)
 refine g 26 114 [BF,BF,BF,BF,BT,BT,BT,BT,BT,BT,BT,BT,BT,BT]<|J ⟨I,I,I,I,I,I,⟨nO,I⟩,⟨nO,I⟩,⟨nO,I⟩,nO,I,tO,tO,tO,tO,tO,I,rfl,rfl,rfl,rfl,rfl,I⟩<|W.cn<|J (fun _=>(g 13 20 []<|J UA (RT ?_))) (noF rfl)
 rotate_left
 by_cases h8:(0:Int)≤Boss.since b∧Boss.since b≤(1:Int)
 refine g 26 114 [BF,BF,BF,BF,BF,BF,BF,.call (V.b (decide (0≤b.since∧b.since≤1))) [[],[],[]],BF,BF,BF,BF,BF,.call (V.b (decide (0≤b.given∧b.given≤1000000))) [[],[],[]],BF,BF]<|J ⟨I,I,I,I,I,I,⟨nO,I⟩,⟨nO,I⟩,⟨nO,I⟩,nO,I,⟨dO,I⟩,⟨dO,I⟩,⟨dO,UC,I,UU,UA,ai _ _ _⟩,⟨dO,I⟩,dO,I,⟨nO,I⟩,⟨nO,I⟩,⟨nO,UC,I,UU,UA,ai _ _ _⟩,⟨nO,I⟩,nO,I⟩<|W.cn<|J (fun h9=>?_) fun h9=>?_
 replace h9:=ndt h9
 refine g 13 20 []<|J UA<|RT ?_
 rotate_left
 replace h9:=ndf h9
 refine W.skip<|g 13 20 []<|J UD<|W.sq ?_
 by_cases h10:(↑(List.length (List.map aq (Boss.results b))):Int) = (↑(List.length (List.map aD (Plan.tasks p))):Int)
 simp only[LM]at h10
 by_cases h11:(↑(List.length (List.map aH (Boss.jobs b))):Int) = (↑(List.length (List.map aD (Plan.tasks p))):Int)
 simp only[LM]at h11
 by_cases h12:(↑(List.length (List.map aI (Boss.seats b))):Int) = Boss.workers b
 simp only[LM]at h12
 refine g 114 143 [BF,BF,BF,BF,BF,BF,BF,BF,BF,BF,BF,BF,BF,BF,BF,BF,BF,BF]<|J ⟨I,I,I,I,I,I,⟨SI,I⟩,⟨SI,I⟩,⟨SI,I⟩,⟨SI,I⟩,⟨SI,I⟩,SI,I,⟨SI,I⟩,⟨SI,I⟩,⟨SI,I⟩,⟨SI,I⟩,⟨SI,I⟩,⟨SI,I⟩,SI,I,⟨SI,I⟩,⟨SI,I⟩,⟨SI,I⟩,⟨SI,I⟩,SI,I⟩<|W.cn<|J (fun h13=>?_) fun h13=>?_
 replace h13:=dt h13
 simp only[LM]at h13
 refine g 11 12 []<|J UA<|RT ?_
 rotate_left
 replace h13:=df h13
 simp only[LM]at h13
 refine W.skip<|W.sq<|g 11 12 []<|J UA<|W.blk ?_
 rotate_left
 simp only[LM]at h12
 refine g 114 143 [BF,BF,BF,BF,BF,BF,BF,BF,BF,BF,BF,BF,BF,BT,BT,BT,BT,BT]<|J ⟨I,I,I,I,I,I,⟨SI,I⟩,⟨SI,I⟩,⟨SI,I⟩,⟨SI,I⟩,⟨SI,I⟩,SI,I,⟨SI,I⟩,⟨SI,I⟩,⟨SI,I⟩,⟨SI,I⟩,⟨SI,I⟩,⟨SI,I⟩,SI,I,SI,SI,SI,SI,SI,I⟩<|W.cn<|J (fun _=>(g 11 12 []<|J UA (RT ?_))) (noF rfl)
 rotate_left
 simp only[LM]at h11
 refine g 114 143 [BF,BF,BF,BF,BF,BF,BT,BT,BT,BT,BT,BT,BT,BT,BT,BT,BT,BT]<|J ⟨I,I,I,I,I,I,⟨SI,I⟩,⟨SI,I⟩,⟨SI,I⟩,⟨SI,I⟩,⟨SI,I⟩,SI,I,SI,SI,SI,SI,SI,SI,SI,I,rfl,rfl,rfl,rfl,rfl,I⟩<|W.cn<|J (fun _=>(g 11 12 []<|J UA (RT ?_))) (noF rfl)
 rotate_left
 simp only[LM]at h10
 refine g 114 143 [BT,BT,BT,BT,BT,BT,BT,BT,BT,BT,BT,BT,BT,BT,BT,BT,BT,BT]<|J ⟨I,I,I,I,I,I,SI,SI,SI,SI,SI,SI,I,rfl,rfl,rfl,rfl,rfl,rfl,rfl,I,rfl,rfl,rfl,rfl,rfl,I⟩<|W.cn<|J (fun _=>(g 11 12 []<|J UA (RT ?_))) (noF rfl)
 rotate_left
 refine g 26 114 [BF,BF,BF,BF,BF,BF,BF,.call (V.b (decide (0≤b.since∧b.since≤1))) [[],[],[]],BF,BF,BT,BT,BT,BT,BT]<|J ⟨I,I,I,I,I,I,⟨nO,I⟩,⟨nO,I⟩,⟨nO,I⟩,nO,I,⟨dO,I⟩,⟨dO,I⟩,⟨dO,UC,I,UU,UA,ai _ _ _⟩,⟨dO,I⟩,dO,I,ah OM,ah OM,ah OM,ah OM,ah OM,I⟩<|W.cn<|J (fun _=>(g 13 20 []<|J UA (RT ?_))) (noF rfl)
 rotate_left
 refine g 26 114 [BT,BT,BT,BT,BT,BT,BT,BT,BT,BT,BT,BT,BT,BT]<|J ⟨I,I,I,I,I,I,ah OM,ah OM,ah OM,ah OM,I,rfl,rfl,rfl,rfl,rfl,I,rfl,rfl,rfl,rfl,rfl,I⟩<|W.cn<|J (fun _=>(g 13 20 []<|J UA (RT ?_))) (noF rfl)
 rotate_left
 refine g 21 26 [.call (V.i (am p.tasks)) [[]],BF,BF,BF,.call (V.b (decide (1≤b.workers∧b.workers≤8))) [[],[],[]],BF,BF,BF,BF,BF,.call (V.b (decide (0≤b.now∧b.now≤1000000))) [[],[],[]],BF,BF,BT,BT,BT,BT,BT,BT,BT,BT,BT,BT,BT]<|J ⟨I,Zaj,I,I,⟨nO,I⟩,⟨nO,I⟩,⟨nO,UC,I,UU,UA,ai _ _ _⟩,⟨nO,I⟩,nO,I,⟨nO,I⟩,⟨nO,I⟩,⟨nO,UC,I,UU,UA,ai _ _ _⟩,⟨nO,I⟩,nO,I,ah OM,ah OM,ah OM,ah OM,ah OM,ah OM,ah OM,ah OM,ah OM,ah OM,ah OM,I⟩<|W.cn<|J (fun _=>(g 27 32 []<|J UA (RT ?_))) (noF rfl)
 rotate_left
 refine g 21 26 [.call (V.i (am p.tasks)) [[]],BF,BF,BF,.call (V.b (decide (1≤b.workers∧b.workers≤8))) [[],[],[]],BF,BF,BT,BT,BT,BT,BT,BT,BT,BT,BT,BT,BT,BT,BT,BT,BT,BT]<|J ⟨I,Zaj,I,I,⟨nO,I⟩,⟨nO,I⟩,⟨nO,UC,I,UU,UA,ai _ _ _⟩,⟨nO,I⟩,nO,I,ah OM,ah OM,ah OM,ah OM,ah OM,I,rfl,rfl,rfl,rfl,rfl,rfl,rfl,rfl,rfl,rfl,rfl,I⟩<|W.cn<|J (fun _=>(g 27 32 []<|J UA (RT ?_))) (noF rfl)
 rotate_left
 refine g 21 26 [.call (V.i (am p.tasks)) [[]],BT,BT,BT,BT,BT,BT,BT,BT,BT,BT,BT,BT,BT,BT,BT,BT,BT,BT,BT,BT,BT]<|J Zd4<|W.cn<|J (fun _=>(g 27 32 []<|J UA (RT ?_))) (noF rfl)
 rotate_left
 all_goals try first
  |exact vbf (fun q=>by have e1:=q.plan;have e2:=q.workers;have e3:=q.now;have e4:=q.code;have e5:=h310 e4;omega)
  |exact vbf (fv hup fun q=>by have e1:=q.epoch;have e2:=q.pos;have e3:=q.rlen;have e4:=q.jlen;have e5:=q.slen;have e6:=q.since;have e7:=q.given;have e8:=q.olen;omega)
 have hk:(bU b p).code = 0:=by assumption
 have hc0:am p.tasks = 0:=by assumption
 obtain⟨_,_,hsl,_⟩:=bR (p:=p) (xs:=b.log.safe++b.log.loose) hk
 obtain⟨hep1,hep2⟩:=eu (p:=p) (xs:=b.log.safe++b.log.loose) hk
 change (bU b p).results.length = _ at hsl
 change 0≤(bU b p).epoch at hep1
 change (bU b p).epoch≤300 at hep2
 have f1:b.epoch = (bU b p).epoch:=by assumption
 have f2:1≤b.epoch:=by omega
 have f3:b.results.length = p.tasks.length:=by omega
 have f4:b.jobs.length = p.tasks.length:=by omega
 have f5:(b.seats.length:Int) = b.workers:=by omega
 have f6:1≤b.workers∧b.workers≤8:=by assumption
 have f7:0≤b.now∧b.now≤1000000:=by assumption
 have g2:0≤b.since∧b.since≤1:=by omega
 have g3:0≤b.given∧b.given≤1000000:=by omega
 have g4:b.owed.length≤2000:=by omega
 have hpl:=(bM hc0).1
 refine W.lp (fun s (n:Nat)=>⟨[(2,s.s 2),(3,s.s 3),(5,s.s 5),(6,s.s 6),(7,.i n),(12,s.s 12),(20,s.s 20)],[(2,[s.c 2 0,s.c 2 1,s.c 2 2,s.c 2 3,s.c 2 4,s.c 2 5,s.c 2 6,s.c 2 7,s.c 2 8,s.c 2 9,s.c 2 10,s.c 2 11]),(3,[s.c 3 0]),(5,[s.c 5 0,s.c 5 1,s.c 5 2])],[]⟩) (fun(n:Nat)=>n≤b.results.length∧b.results.take n = (bU b p).results.take n) (fun(n:Nat)=>b.results.length - n) (0) [some 2,some 3,some 5] [] ⟨rfl,Za1,⟨Zaa,⟨Zad,Zeb⟩⟩,I⟩ (by simp) ?_
 rintro n ⟨hn,hc⟩
 conv=>whnf
 refine W.sq<|g 144 146 []<|J UC<|W.cn<|J (fun h14=>?_) fun h14=>?_
 replace h14:=dt h14
 simp only[LM]at h14
 refine W.skip<|W.sq<|W.blk ?_
 obtain⟨y1,hy1⟩:=ak (xs:=Boss.results b) (n:=n) OM
 obtain⟨y2,hy2⟩:=ak (xs:=Story.results (bU b p)) (n:=n) OM
 refine gd 146 159 [[],[],[],[.x (aq y1)],[],[],[],[],[.n (n)],[.x (aq y2)],[]] ?_
 conv=>whnf
 refine J ⟨I,I,I,Zdk,I,I,I,I,Zdj,xA,I,I⟩<|J KR<|W.cn<|J (fun h15=>?_) fun h15=>?_
 replace h15:=ndt h15
 refine g 159 160 []<|J UA<|RT ?_
 rotate_left
 replace h15:=ndf h15
 refine W.skip<|rg [.i ((n:Int) +1)]<|J Zdg ?_
 rotate_left
 replace h14:=df h14
 simp only[LM]at h14
 refine W.exit<|W.sq<|g 5 6 []<|J UA<|W.blk ?_
 rotate_left
 all_goals try
  exact vbf (fv hup fun q=>by have e1:=q.res;rw[e1]at hy1;rw[hy1]at hy2;cases hy2;contradiction)
 ·refine⟨n+1,[some 2,some 3,some 5],[],⟨rfl,Za1,⟨Zaa,⟨Zad,Zeb⟩⟩,I⟩,?_,?_⟩
  rotate_left
  (dsimp only;omega)
  dsimp only
  exact⟨by omega,n6 hc hy1 (by rw[hy2];simp_all)⟩
 have g1:b.results = (bU b p).results:=by rw[bc OM,bc OM]at hc;exact hc
 refine W.lp (fun s (n:Nat)=>⟨[(2,s.s 2),(3,s.s 3),(6,s.s 6),(8,.i n),(12,s.s 12),(20,s.s 20)],[(2,[s.c 2 0,s.c 2 1,s.c 2 2,s.c 2 3,s.c 2 4,s.c 2 5,s.c 2 6,s.c 2 7,s.c 2 8,s.c 2 9,s.c 2 10,s.c 2 11]),(3,[s.c 3 0])],[]⟩) (fun(n:Nat)=>n≤b.seats.length∧∀ s∈b.seats.take n,0≤s.epoch∧s.epoch≤300) (fun(n:Nat)=>b.seats.length - n) (0) [some 2,some 3] [] Zer (by simp) ?_
 rintro n2 ⟨hn2,hc2⟩
 by_cases hs2:n2 < b.seats.length
 ·obtain⟨s,hs1⟩:=ak hs2
  by_cases hA:0≤s.epoch∧s.epoch≤300
  ·conv=>whnf
   refine W.sq<|g 160 164 []<|J UE<|W.cn<|J (fun h15=>?_) fun h15=>?_
   replace h15:=dt h15
   simp only[LM]at h15
   refine W.skip<|W.sq<|W.blk<|g 164 174 [.x (aI s),.call (V.b (decide (0≤s.epoch∧s.epoch≤300))) [[],[],[]]]<|J ⟨I,I,I,Zdk,I,I,⟨UC,I,UU,UA,ai _ _ _⟩,I,I⟩<|W.cn<|J (noT nO) fun _=>W.skip<|rg [.i ((n2:Int) +1)]<|J Zdg ?_
   rotate_left
   replace h15:=df h15
   simp only[LM]at h15
   omega
   refine⟨n2+1,[some 2,some 3],[],Zer,?_,?_⟩
   rotate_left
   (dsimp only;omega)
   dsimp only
   exact⟨by omega,dJ hc2 hs1 hA⟩
  ·conv=>whnf
   refine W.sq<|g 160 164 []<|J UE<|W.cn<|J (fun h15=>?_) fun h15=>?_
   replace h15:=dt h15
   simp only[LM]at h15
   refine W.skip<|W.sq<|W.blk<|g 164 174 [.x (aI s),.call (V.b (decide (0≤s.epoch∧s.epoch≤300))) [[],[],[]]]<|J ⟨I,I,I,Zdk,I,I,⟨UC,I,UU,UA,ai _ _ _⟩,I,I⟩<|W.cn<|J (fun _=>(g 174 175 []<|J UA (RT ?_))) (noF (ah OM))
   rotate_left
   replace h15:=df h15
   simp only[LM]at h15
   omega
   exact vbf (fv hup (CU hs1 hA))
 have hseats:∀ s∈b.seats,0≤s.epoch∧s.epoch≤300:=by rw[bc OM]at hc2;exact hc2
 conv=>whnf
 refine W.sq<|g 160 164 []<|J UE<|W.cn<|J (fun h15=>?_) fun h15=>?_
 replace h15:=dt h15
 simp only[LM]at h15
 omega
 replace h15:=df h15
 simp only[LM]at h15
 refine W.exit<|W.sq<|g 8 9 []<|J UA<|W.blk<|W.lp (fun s (n:Nat)=>⟨[(2,s.s 2),(3,s.s 3),(6,s.s 6),(9,.i n),(12,s.s 12),(20,s.s 20)],[(2,[s.c 2 0,s.c 2 1,s.c 2 2,s.c 2 3,s.c 2 4,s.c 2 5,s.c 2 6,s.c 2 7,s.c 2 8,s.c 2 9,s.c 2 10,s.c 2 11]),(3,[s.c 3 0])],[]⟩) (fun(n:Nat)=>n≤b.owed.length∧∀ o∈b.owed.take n,OwedOk b p.tasks o) (fun(n:Nat)=>b.owed.length - n) (0) [some 2,some 3] [] Zer (by simp) ?_
 rintro n3 ⟨hn3,hc3⟩
 by_cases ho2:n3 < b.owed.length
 ·obtain⟨o,ho1⟩:=ak ho2
  by_cases hA:1≤o.worker∧o.worker≤b.workers
  ·by_cases hB:1≤o.lease∧o.lease≤300000000
   ·by_cases hC:0≤o.task∧o.task≤(p.tasks.length:Int) - 1
    ·obtain⟨y,hy0⟩:=ak (xs:=b.results) (n:=o.task.toNat) OM
     by_cases hD:y = emp
     ·conv=>whnf
      refine W.sq<|g 175 179 []<|J UE<|W.cn<|J (fun _=>(W.skip (W.sq (W.blk (g 179 187 [.x (aX o)]<|J Zbe (g 187 215 [.call (V.b (decide (1≤o.worker∧o.worker≤b.workers))) [[],[],[]],BF,BF,BF,.call (V.b (decide (1≤o.lease∧o.lease≤300000000))) [[]],BF,BF,BF,BF,BF,BF,.i ((↑(List.length (List.map aD p.tasks)):Int) - 1),BF,.call (V.b (decide (0≤o.task∧o.task≤(↑(List.length (List.map aD p.tasks)):Int) - 1))) [[],[],[]],BF,BF,BF,BF,BF,BF,BF,.x (aq y),BF,BF,BF]<|J ⟨I,I,I,I,⟨UC,I,UU,UA,ai _ _ _⟩,I,I,⟨nO,I⟩,⟨nO,I⟩,⟨nO,UA,I,US,UA,aA _⟩,⟨nO,I⟩,nO,I,⟨nO,I⟩,⟨nO,I⟩,⟨nO,I⟩,⟨nO,w64 LN LN⟩,⟨nO,UC,I,UU,UA,ai _ _ _⟩,⟨nO,I⟩,nO,I,⟨SI,I⟩,⟨SI,I⟩,⟨SI,I⟩,⟨SI,I⟩,⟨SI,OM,xA⟩,⟨SI,I⟩,⟨SI,I⟩,SI,I⟩ (W.cn<|J (fun _=>(g 10 11 []<|J UA (RT ?_))) (noF tO)))))))) (noF SI)
      exact vbf (fv hup (j8 ho1 (fun q=>q.res (by rw[ko hy0];exact hD))))
     ·conv=>whnf
      refine W.sq<|g 175 179 []<|J UE<|W.cn<|J (fun _=>(W.skip (W.sq (W.blk (g 179 187 [.x (aX o)]<|J Zbe (g 187 215 [.call (V.b (decide (1≤o.worker∧o.worker≤b.workers))) [[],[],[]],BF,BF,BF,.call (V.b (decide (1≤o.lease∧o.lease≤300000000))) [[]],BF,BF,BF,BF,BF,BF,.i ((↑(List.length (List.map aD p.tasks)):Int) - 1),BF,.call (V.b (decide (0≤o.task∧o.task≤(↑(List.length (List.map aD p.tasks)):Int) - 1))) [[],[],[]],BF,BF,BF,BF,BF,BF,BF,.x (aq y),BF,BF,BF]<|J ⟨I,I,I,I,⟨UC,I,UU,UA,ai _ _ _⟩,I,I,⟨nO,I⟩,⟨nO,I⟩,⟨nO,UA,I,US,UA,aA _⟩,⟨nO,I⟩,nO,I,⟨nO,I⟩,⟨nO,I⟩,⟨nO,I⟩,⟨nO,w64 LN LN⟩,⟨nO,UC,I,UU,UA,ai _ _ _⟩,⟨nO,I⟩,nO,I,⟨SI,I⟩,⟨SI,I⟩,⟨SI,I⟩,⟨SI,I⟩,⟨SI,OM,xA⟩,⟨SI,I⟩,⟨SI,I⟩,SI,I⟩ (W.cn<|J (noT dO) fun _=>(W.skip (rg [.i ((n3:Int) +1)]<|J Zdg ?_))))))))) (noF SI)
      refine⟨n3+1,[some 2,some 3],[],Zer,?_,?_⟩
      rotate_left
      (dsimp only;omega)
      dsimp only
      exact⟨by omega,dJ hc3 ho1 ⟨hA,hB,hC,by rw[ko hy0];exact hD⟩⟩
    ·conv=>whnf
     refine W.sq<|g 175 179 []<|J UE<|W.cn<|J (fun _=>(W.skip (W.sq (W.blk (g 179 187 [.x (aX o)]<|J Zbe (g 187 215 [.call (V.b (decide (1≤o.worker∧o.worker≤b.workers))) [[],[],[]],BF,BF,BF,.call (V.b (decide (1≤o.lease∧o.lease≤300000000))) [[]],BF,BF,BF,BF,BF,BF,.i ((↑(List.length (List.map aD p.tasks)):Int) - 1),BF,.call (V.b (decide (0≤o.task∧o.task≤(↑(List.length (List.map aD p.tasks)):Int) - 1))) [[],[],[]],BF,BF,BT,BT,BT,BT,BT,BT,BT,BT]<|J ⟨I,I,I,I,⟨UC,I,UU,UA,ai _ _ _⟩,I,I,⟨nO,I⟩,⟨nO,I⟩,⟨nO,UA,I,US,UA,aA _⟩,⟨nO,I⟩,nO,I,⟨nO,I⟩,⟨nO,I⟩,⟨nO,I⟩,⟨nO,w64 LN LN⟩,⟨nO,UC,I,UU,UA,ai _ _ _⟩,⟨nO,I⟩,nO,I,SI,SI,SI,SI,SI,SI,SI,SI,I⟩ (W.cn<|J (fun _=>(g 10 11 []<|J UA (RT ?_))) (noF rfl)))))))) (noF SI)
     exact vbf (fv hup (j8 ho1 (fun q=>hC q.task)))
   ·conv=>whnf
    refine W.sq<|g 175 179 []<|J UE<|W.cn<|J (fun _=>(W.skip (W.sq (W.blk (g 179 187 [.x (aX o)]<|J Zbe (g 187 215 [.call (V.b (decide (1≤o.worker∧o.worker≤b.workers))) [[],[],[]],BF,BF,BF,.call (V.b (decide (1≤o.lease∧o.lease≤300000000))) [[]],BF,BF,BT,BT,BT,BT,BT,BT,BT,BT,BT,BT,BT,BT,BT,BT,BT]<|J ⟨I,I,I,I,⟨UC,I,UU,UA,ai _ _ _⟩,I,I,⟨nO,I⟩,⟨nO,I⟩,⟨nO,UA,I,US,UA,aA _⟩,⟨nO,I⟩,nO,I,ah OM,ah OM,ah OM,ah OM,ah OM,ah OM,ah OM,I,rfl,rfl,rfl,rfl,rfl,rfl,rfl,rfl,I⟩ (W.cn<|J (fun _=>(g 10 11 []<|J UA (RT ?_))) (noF rfl)))))))) (noF SI)
    exact vbf (fv hup (j8 ho1 (fun q=>hB q.lease)))
  ·conv=>whnf
   refine W.sq<|g 175 179 []<|J UE<|W.cn<|J (fun _=>(W.skip (W.sq (W.blk (g 179 187 [.x (aX o)]<|J Zbe (g 187 215 [.call (V.b (decide (1≤o.worker∧o.worker≤b.workers))) [[],[],[]],BT,BT,BT,BT,BT,BT,BT,BT,BT,BT,BT,BT,BT,BT,BT,BT,BT,BT,BT,BT]<|J ⟨I,I,I,I,⟨UC,I,UU,UA,ai _ _ _⟩,I,I,ah OM,ah OM,ah OM,ah OM,ah OM,I,rfl,rfl,rfl,rfl,rfl,rfl,rfl,I,rfl,rfl,rfl,rfl,rfl,rfl,rfl,rfl,I⟩ (W.cn<|J (fun _=>(g 10 11 []<|J UA (RT ?_))) (noF rfl)))))))) (noF SI)
   exact vbf (fv hup (j8 ho1 (fun q=>hA q.worker)))
 have howed:∀ o∈b.owed,OwedOk b p.tasks o:=by rw[bc OM]at hc3;exact hc3
 have cj:=uv b p hc0 OM OM f3 f4 f7 g3
 by_cases hjobs:gt b p.tasks b.jobs.length
 ·rw[decide_eq_true hjobs]at cj
  conv=>whnf
  refine W.sq<|g 175 179 []<|J UE<|W.cn<|J (noT SI) fun _=>W.exit<|g 6 219 [.call VT [[],[]]]<|J Zdo<|RT ?_
  exact vbt ⟨hc0,f6,f7,hk,fun _=>⟨f1,f2,f3,f4,f5,g1,g2,g3,g4,hjobs,hseats,howed⟩,fun e=>by rw[hup]at e;cases e⟩
 ·rw[decide_eq_false hjobs]at cj
  conv=>whnf
  refine W.sq<|g 175 179 []<|J UE<|W.cn<|J (noT SI) fun _=>W.exit<|g 6 219 [.call VF [[],[]]]<|J Zdo<|RT ?_
  exact vbf (fv hup fun q=>hjobs q.jobs)
end Go.K
end
section
open Go Go.Tm Go.Proofs
namespace Go.K
structure Message where
 kind:Int
 frm:Int
 to:Int
 epoch:Int
 lease:Int
 task:Int
 text:ByteArray
 inputs:List ByteArray
 deriving DecidableEq
abbrev aK(x:Message):List T:=[.i x.kind,.i x.frm,.i x.to,.i x.epoch,.i x.lease,.i x.task,.s x.text,.slc [false] (x.inputs.map aq)]
abbrev dI(x:Message):V:=.agg [.t (.i x.kind),.t (.i x.frm),.t (.i x.to),.t (.i x.epoch),.t (.i x.lease),.t (.i x.task),.t (.s x.text),.t (.slc [false] (x.inputs.map aq))]
abbrev bz(x:Message):V:=.agg [.t (.i x.kind),.t (.i x.frm),.t (.i x.to),.t (.i x.epoch),.t (.i x.lease),.t (.i x.task),.t (.s x.text),.own [false] (x.inputs.map aq)]
abbrev cH:List Bool:=[false,false,false,false,false,false,false,true]
abbrev HV:Message:=⟨0,0,0,0,0,0,emp,[]⟩
def Gi(s:ByteArray):ByteArray:=bl (beL (fy h0v s) 8)
theorem gF(s:ByteArray):(Gi s).size = 8:=by unfold Gi;rw[gh,oU]
def nul:ByteArray:=⟨#[0]⟩
def eG(body key:ByteArray):ByteArray:=Gi (key++nul++body)
def bC(m:Message):Prop:=(1≤m.epoch∧m.epoch≤300)∧
 ((m.kind = 1∧m.frm = 0∧(1≤m.to∧m.to≤8)∧(1≤m.lease∧m.lease≤300000000)∧(0≤m.task∧m.task≤39)∧m.text = emp∧dV m.inputs)∨
  (m.kind = 2∧m.to = 0∧(1≤m.frm∧m.frm≤8)∧(1≤m.lease∧m.lease≤300000000)∧m.task = 0∧m.text = emp∧(m.inputs.length:Int) = 0)∨
  (m.kind = 3∧m.to = 0∧(1≤m.frm∧m.frm≤8)∧(1≤m.lease∧m.lease≤300000000)∧(0≤m.task∧m.task≤39)∧(m.text.size:Int) = 8∧(m.inputs.length:Int) = 0)∨
  (m.kind = 4∧m.frm = 0∧(1≤m.to∧m.to≤8)∧(1≤m.lease∧m.lease≤300000000)∧m.task = 0∧m.text = emp∧(m.inputs.length:Int) = 0)∨
  (m.kind = 5∧m.to = 0∧(1≤m.frm∧m.frm≤8)∧m.lease = 0∧m.task = 0∧m.text = emp∧(m.inputs.length:Int) = 0))
instance (m:Message):Decidable (bC m):=by unfold bC;infer_instance
theorem tup5{a b c d e a' b' c' d' e':Bool}(h1:a = a')(h2:b = b')(h3:c = c')(h4:d = d')(h5:e = e'):V.tup [V.t (T.v (Value.bool a)),V.t (T.v (Value.bool b)),V.t (T.v (Value.bool c)),V.t (T.v (Value.bool d)),V.t (T.v (Value.bool e))] = V.tup [.b a',.b b',.b c',.b d',.b e']:=by subst h1;subst h2;subst h3;subst h4;subst h5;rfl
theorem yp(k:Int):F xE [.val (.i k)] (.tup [.b (decide (1≤k∧k≤4)),.b (decide (k = 1∨k = 3)),.b (decide (k = 3)),.b (decide (k = 1)),.b (decide (k = 1∨k = 4))]) [[]]:=by
 refine xZ ?_
 conv=>whnf
 refine g 0 0 []<|J UE<|W.sq<|g 0 1 []<|J UA<|W.blk<|g 9 10 []<|J UB<|W.cn<|J (fun h1=>?_) fun h1=>?_
 replace h1:=dt h1
 refine g 7 9 []<|J UE<|RT ?_
 rotate_left
 replace h1:=df h1
 refine g 8 9 []<|J UB<|W.cn<|J (fun h2=>?_) fun h2=>?_
 replace h2:=dt h2
 refine g 7 12 []<|J UE<|RT ?_
 rotate_left
 replace h2:=df h2
 refine g 10 12 []<|J UB<|W.cn<|J (fun h3=>?_) fun h3=>?_
 replace h3:=dt h3
 refine g 7 14 []<|J UE<|RT ?_
 rotate_left
 replace h3:=df h3
 refine g 7 14 []<|J UB<|W.cn<|J (fun h4=>?_) fun h4=>?_
 replace h4:=dt h4
 refine g 14 16 []<|J UE<|RT ?_
 rotate_left
 replace h4:=df h4
 refine W.skip<|g 14 16 []<|J UE<|RT ?_
 rotate_left
 all_goals exact tup5 (by grind) (by grind) (by grind) (by grind) (by grind)
end Go.K
end
section
open Go Go.Tm Go.Proofs
namespace Go.K
theorem mW(m:Message)(hl:m.inputs.length≤9223372036854775806):F BV [.val (dI m)] (.b (decide (bC m))) [[]]:=by
 refine Cc ?_
 conv=>whnf
 refine g 0 1 []<|J ⟨UH,I,I⟩<|W.sq ?_
 by_cases h1:(1:Int)≤Message.kind m∧Message.kind m≤(5:Int)
 refine g 13 15 [.call (V.b (decide (1≤m.kind∧m.kind≤5))) [[],[],[]],BF,BF,BF,.call (V.b (decide (1≤m.epoch∧m.epoch≤300))) [[],[],[]],BF,BF]<|J ⟨I,I,⟨UC,I,UU,UA,ai _ _ _⟩,I,I,⟨nO,I⟩,⟨nO,I⟩,⟨nO,UC,I,UU,UA,ai _ _ _⟩,⟨nO,I⟩,nO,I⟩<|W.cn<|J (fun h2=>?_) fun h2=>?_
 replace h2:=ndt h2
 refine g 8 9 []<|J UA<|RT ?_
 rotate_left
 replace h2:=ndf h2
 refine W.skip<|g 20 25 [.call (V.tup [V.b (decide (1≤m.kind∧m.kind≤4)),V.b (decide (m.kind = 1∨m.kind = 3)),V.b (decide (m.kind = 3)),V.b (decide (m.kind = 1)),V.b (decide (m.kind = 1∨m.kind = 4))]) [[]]]<|J ⟨I,I,⟨UA,I,US,UA,yp _⟩,I,I,I,I,I,I,I,I,I,I,I,I⟩<|W.sq ?_
 by_cases h3:Message.kind m = (1:Int)∨Message.kind m = (4:Int)
 by_cases h4:Message.frm m = (0:Int)
 by_cases h5:(1:Int)≤Message.to m∧Message.to m≤(8:Int)
 refine g 29 53 [BT,BT,BT,BT,BF,BF,BF,.call (V.b (decide (1≤m.to∧m.to≤8))) [[],[],[]],BF,BT,BF,BT,BF,BF,BF,BF,BF,BF,BF,BF,BF,BF,BF,BF,BF,BF,BF]<|J ⟨I,I,⟨tO,I⟩,⟨tO,I⟩,⟨tO,I⟩,⟨tO,I⟩,⟨nO,I⟩,⟨nO,I⟩,⟨nO,UC,I,UU,UA,ai _ _ _⟩,⟨nO,I⟩,⟨tO,nO⟩,tO,I,⟨nO,I⟩,⟨nO,I⟩,⟨nO,I⟩,nO,nO,nO,nO,I,I,I,I,nO,⟨nO,nO⟩,nO,I⟩<|W.cn<|J (noT rfl) fun _=>W.skip<|W.sq ?_
 by_cases h6:(1:Int)≤Message.lease m∧Message.lease m≤(300000000:Int)
 by_cases h7:Message.kind m = (1:Int)∨Message.kind m = (3:Int)
 by_cases h8:(0:Int)≤Message.task m∧Message.task m≤(39:Int)
 refine g 11 87 [BT,BT,BT,.call (V.b (decide (1≤m.lease∧m.lease≤300000000))) [[]],BT,BT,BF,BF,BF,BF,BF,BF,BF,BF,BF,BF,BF,BT,BT,BT,.call (V.b (decide (0≤m.task∧m.task≤39))) [[],[],[]],BT,BF,BT,BF,BF,BF,BF,BF,BF,BF,BF,BF,BF] ?_
 conv=>whnf
 refine J ⟨I,I,⟨tO,I⟩,⟨tO,I⟩,⟨tO,UA,I,US,UA,aA _⟩,⟨tO,I⟩,tO,I,⟨nO,I⟩,⟨nO,I⟩,⟨nO,I⟩,nO,nO,nO,⟨nO,nO⟩,nO,I,Zde,Zde,⟨tO,I⟩,⟨tO,I⟩,⟨tO,UC,I,UU,UA,ai _ _ _⟩,⟨tO,I⟩,⟨rfl,tO⟩,rfl,I,⟨nO,I⟩,⟨nO,I⟩,⟨nO,I⟩,nO,nO,nO,⟨nO,nO⟩,nO,I⟩<|W.cn<|J (noT rfl) fun _=>W.skip<|W.sq<|g 10 103 [BF,BF,BF,BF,BF,BF,BF,BF,BT,BT,BT,BF,BT,BF]<|J Zeq<|W.cn<|J (fun h9=>?_) fun h9=>?_
 replace h9:=ndt h9
 refine g 7 9 []<|J UA<|RT ?_
 rotate_left
 replace h9:=ndf h9
 refine W.skip ?_
 by_cases h10:dV (Message.inputs m)
 refine g 5 120 [BT,BT,BT,.call (V.b (decide (dV m.inputs))) [[]],BT,BT,BT,BT,BF,BF,BF,BF,BT,BT]<|J ⟨I,I,⟨tO,I⟩,⟨tO,I⟩,⟨tO,UA,I,US,UA,eh _ OM⟩,tO,I,tO,tO,tO,I,I,I,I,tO,tO,I,I⟩<|RT ?_
 rotate_left
 refine g 5 120 [BT,BT,BT,.call (V.b (decide (dV m.inputs))) [[]],BT,BF,BF,BF,BF,BF,BF,BF,BF,BF,BF]<|J ⟨I,I,⟨tO,I⟩,⟨tO,I⟩,⟨tO,UA,I,US,UA,eh _ OM⟩,tO,I,⟨dO,I⟩,⟨dO,I⟩,⟨dO,I⟩,nO,nO,nO,nO,⟨dO,nO⟩,dO,I,I⟩<|RT ?_
 rotate_left
 refine g 11 87 [BT,BT,BT,.call (V.b (decide (1≤m.lease∧m.lease≤300000000))) [[]],BT,BT,BF,BF,BF,BF,BF,BF,BF,BF,BF,BF,BF,BT,BT,BT,.call (V.b (decide (0≤m.task∧m.task≤39))) [[],[],[]],BT,BF,BT,BF,BT,BT,BT,BF,BF,BF,BT,BT] ?_
 conv=>whnf
 refine J ⟨I,I,⟨tO,I⟩,⟨tO,I⟩,⟨tO,UA,I,US,UA,aA _⟩,⟨tO,I⟩,tO,I,⟨nO,I⟩,⟨nO,I⟩,⟨nO,I⟩,nO,nO,nO,⟨nO,nO⟩,nO,I,Zde,Zde,⟨tO,I⟩,⟨tO,I⟩,⟨tO,UC,I,UU,UA,ai _ _ _⟩,⟨tO,I⟩,⟨rfl,tO⟩,rfl,I,ah OM,ah OM,ah OM,I,I,I,ah OM,ah OM,I⟩<|W.cn<|J (fun _=>(g 3 4 []<|J UA (RT ?_))) (noF rfl)
 rotate_left
 refine g 11 87 [BT,BT,BT,.call (V.b (decide (1≤m.lease∧m.lease≤300000000))) [[]],BT,BT,BF,BF,BF,BF,BF,BF,BF,BF,BF,BF,BF,BF,BF,BF,BF,BF,BF,BF,BF,BF,BF,BT,BT,BT,BF,BT,BF] ?_
 conv=>whnf
 refine J ⟨I,I,⟨tO,I⟩,⟨tO,I⟩,⟨tO,UA,I,US,UA,aA _⟩,⟨tO,I⟩,tO,I,⟨nO,I⟩,⟨nO,I⟩,⟨nO,I⟩,nO,nO,nO,⟨nO,nO⟩,nO,I,Zde,Zde,dO,dO,dO,dO,⟨rfl,dO⟩,rfl,I,Zde,Zde,Zde,Zan,Zan,Zan,Zcz,rfl,I⟩<|W.cn<|J (fun h8=>?_) fun h8=>?_
 replace h8:=ndt h8
 refine g 3 4 []<|J UA<|RT ?_
 rotate_left
 replace h8:=ndf h8
 refine W.skip<|W.sq<|g 10 103 [BF,BF,BF,BF,BF,BF,BF,BF,BT,BT,BT,BF,BT,BF]<|J Zeq<|W.cn<|J (fun h9=>?_) fun h9=>?_
 replace h9:=ndt h9
 refine g 7 9 []<|J UA<|RT ?_
 rotate_left
 replace h9:=ndf h9
 refine W.skip<|g 5 120 [BF,BF,BF,BF,BF,BF,BF,BT,BT,BT,BT,BF,BT,BF]<|J Zep<|RT ?_
 rotate_left
 refine g 11 87 [BT,BT,BT,.call (V.b (decide (1≤m.lease∧m.lease≤300000000))) [[]],BT,BT,BT,BT,BT,BF,BF,BF,BT,BT,BT,BT,BF,BF,BF,BF,BT,BT,BT,BT,BT,BF,BF,BF,BT,BT] ?_
 conv=>whnf
 refine J ⟨I,I,⟨tO,I⟩,⟨tO,I⟩,⟨tO,UA,I,US,UA,aA _⟩,⟨tO,I⟩,tO,I,ah OM,ah OM,ah OM,I,I,I,ah OM,ah OM,I,rfl,rfl,I,I,I,I,rfl,rfl,I,rfl,rfl,rfl,I,I,I,rfl,rfl,I⟩<|W.cn<|J (fun _=>(g 3 4 []<|J UA (RT ?_))) (noF rfl)
 rotate_left
 refine g 29 53 [BT,BT,BT,BT,BF,BF,BF,.call (V.b (decide (1≤m.to∧m.to≤8))) [[],[],[]],BF,BT,BF,BT,BT,BT,BT,BF,BF,BF,BF,BF,BF,BF,BF,BF,BT,BT]<|J ⟨I,I,⟨tO,I⟩,⟨tO,I⟩,⟨tO,I⟩,⟨tO,I⟩,⟨nO,I⟩,⟨nO,I⟩,⟨nO,UC,I,UU,UA,ai _ _ _⟩,⟨nO,I⟩,⟨tO,nO⟩,tO,I,ah OM,ah OM,ah OM,I,I,I,I,I,I,I,I,I,ah OM,ah OM,I⟩<|W.cn<|J (fun _=>(g 11 16 []<|J UA (RT ?_))) (noF rfl)
 rotate_left
 refine g 29 53 [BT,BT,BT,BT,BT,BT,BT,BT,BT,BT,BT,BT,BT,BT,BF,BF,BF,BF,BF,BF,BF,BF,BF,BT,BT]<|J ⟨I,I,⟨tO,I⟩,⟨tO,I⟩,⟨tO,I⟩,⟨tO,I⟩,ah OM,ah OM,ah OM,ah OM,⟨tO,ah OM⟩,tO,I,rfl,rfl,rfl,I,I,I,I,I,I,I,I,I,rfl,rfl,I⟩<|W.cn<|J (fun _=>(g 11 16 []<|J UA (RT ?_))) (noF rfl)
 rotate_left
 by_cases h4:Message.to m = (0:Int)
 refine g 29 53 [BF,BF,BF,BF,BF,BF,BF,BF,BF,BF,BF,BF,BF,BT,BT,BT,BT,BF,BF,BF,.call (V.b (decide (1≤m.frm∧m.frm≤8))) [[],[],[]],BF,BT,BF,BF,BT,BF]<|J ⟨I,I,dO,dO,dO,dO,I,I,I,I,dO,dO,I,Zde,Zde,Zde,Zan,Zan,Zan,Zan,⟨nO,I⟩,⟨nO,I⟩,⟨nO,UC,I,UU,UA,ai _ _ _⟩,⟨nO,I⟩,⟨ah OM,nO⟩,Zcz,rfl,I⟩<|W.cn<|J (fun h5=>?_) fun h5=>?_
 replace h5:=ndt h5
 refine g 11 16 []<|J UA<|RT ?_
 rotate_left
 replace h5:=ndf h5
 refine W.skip<|W.sq ?_
 by_cases h6:(1:Int)≤Message.kind m∧Message.kind m≤(4:Int)
 by_cases h7:(1:Int)≤Message.lease m∧Message.lease m≤(300000000:Int)
 by_cases h8:Message.kind m = (1:Int)∨Message.kind m = (3:Int)
 by_cases h9:(0:Int)≤Message.task m∧Message.task m≤(39:Int)
 refine g 11 87 [BT,BT,BT,.call (V.b (decide (1≤m.lease∧m.lease≤300000000))) [[]],BT,BT,BF,BF,BF,BF,BF,BF,BF,BF,BF,BF,BF,BT,BT,BT,.call (V.b (decide (0≤m.task∧m.task≤39))) [[],[],[]],BT,BF,BT,BF,BF,BF,BF,BF,BF,BF,BF,BF,BF] ?_
 conv=>whnf
 refine J ⟨I,I,⟨tO,I⟩,⟨tO,I⟩,⟨tO,UA,I,US,UA,aA _⟩,⟨tO,I⟩,tO,I,⟨nO,I⟩,⟨nO,I⟩,⟨nO,I⟩,nO,nO,nO,⟨nO,nO⟩,nO,I,Zde,Zde,⟨tO,I⟩,⟨tO,I⟩,⟨tO,UC,I,UU,UA,ai _ _ _⟩,⟨tO,I⟩,⟨rfl,tO⟩,rfl,I,⟨nO,I⟩,⟨nO,I⟩,⟨nO,I⟩,nO,nO,nO,⟨nO,nO⟩,nO,I⟩<|W.cn<|J (noT rfl) fun _=>W.skip<|W.sq ?_
 by_cases h10:(↑(ByteArray.size (Message.text m)):Int) = (8:Int)
 refine g 10 103 [BT,BT,BT,BT,BT,BF,BF,BF,BF,BF,BF,BF,BF,BF]<|J ⟨I,I,⟨tO,I⟩,⟨tO,I⟩,⟨tO,I⟩,⟨tO,I⟩,tO,I,⟨nO,I⟩,⟨nO,I⟩,⟨nO,I⟩,nO,nO,nO,⟨nO,nO⟩,nO,I⟩<|W.cn<|J (noT rfl) fun _=>W.skip<|g 5 120 [BF,BF,BF,BF,BF,BF,BF,BT,BT,BT,BT,BF,BT,BF]<|J Zep<|RT ?_
 rotate_left
 refine g 10 103 [BT,BT,BT,BT,BT,BT,BT,BT,BF,BF,BF,BT,BT]<|J ⟨I,I,⟨tO,I⟩,⟨tO,I⟩,⟨tO,I⟩,⟨tO,I⟩,tO,I,ah OM,ah OM,ah OM,I,I,I,ah OM,ah OM,I⟩<|W.cn<|J (fun _=>(g 7 9 []<|J UA (RT ?_))) (noF rfl)
 rotate_left
 refine g 11 87 [BT,BT,BT,.call (V.b (decide (1≤m.lease∧m.lease≤300000000))) [[]],BT,BT,BF,BF,BF,BF,BF,BF,BF,BF,BF,BF,BF,BT,BT,BT,.call (V.b (decide (0≤m.task∧m.task≤39))) [[],[],[]],BT,BF,BT,BF,BT,BT,BT,BF,BF,BF,BT,BT] ?_
 conv=>whnf
 refine J ⟨I,I,⟨tO,I⟩,⟨tO,I⟩,⟨tO,UA,I,US,UA,aA _⟩,⟨tO,I⟩,tO,I,⟨nO,I⟩,⟨nO,I⟩,⟨nO,I⟩,nO,nO,nO,⟨nO,nO⟩,nO,I,Zde,Zde,⟨tO,I⟩,⟨tO,I⟩,⟨tO,UC,I,UU,UA,ai _ _ _⟩,⟨tO,I⟩,⟨rfl,tO⟩,rfl,I,ah OM,ah OM,ah OM,I,I,I,ah OM,ah OM,I⟩<|W.cn<|J (fun _=>(g 3 4 []<|J UA (RT ?_))) (noF rfl)
 rotate_left
 refine g 11 87 [BT,BT,BT,.call (V.b (decide (1≤m.lease∧m.lease≤300000000))) [[]],BT,BT,BF,BF,BF,BF,BF,BF,BF,BF,BF,BF,BF,BF,BF,BF,BF,BF,BF,BF,BF,BF,BF,BT,BT,BT,BF,BT,BF] ?_
 conv=>whnf
 refine J ⟨I,I,⟨tO,I⟩,⟨tO,I⟩,⟨tO,UA,I,US,UA,aA _⟩,⟨tO,I⟩,tO,I,⟨nO,I⟩,⟨nO,I⟩,⟨nO,I⟩,nO,nO,nO,⟨nO,nO⟩,nO,I,Zde,Zde,dO,dO,dO,dO,⟨rfl,dO⟩,rfl,I,Zde,Zde,Zde,Zan,Zan,Zan,Zcz,rfl,I⟩<|W.cn<|J (fun h9=>?_) fun h9=>?_
 replace h9:=ndt h9
 refine g 3 4 []<|J UA<|RT ?_
 rotate_left
 replace h9:=ndf h9
 refine W.skip<|W.sq<|g 10 103 [BF,BF,BF,BF,BF,BF,BF,BF,BT,BT,BT,BF,BT,BF]<|J Zeq<|W.cn<|J (fun h10=>?_) fun h10=>?_
 replace h10:=ndt h10
 refine g 7 9 []<|J UA<|RT ?_
 rotate_left
 replace h10:=ndf h10
 refine W.skip<|g 5 120 [BF,BF,BF,BF,BF,BF,BF,BT,BT,BT,BT,BF,BT,BF]<|J Zep<|RT ?_
 rotate_left
 refine g 11 87 [BT,BT,BT,.call (V.b (decide (1≤m.lease∧m.lease≤300000000))) [[]],BT,BT,BT,BT,BT,BF,BF,BF,BT,BT,BT,BT,BF,BF,BF,BF,BT,BT,BT,BT,BT,BF,BF,BF,BT,BT] ?_
 conv=>whnf
 refine J ⟨I,I,⟨tO,I⟩,⟨tO,I⟩,⟨tO,UA,I,US,UA,aA _⟩,⟨tO,I⟩,tO,I,ah OM,ah OM,ah OM,I,I,I,ah OM,ah OM,I,rfl,rfl,I,I,I,I,rfl,rfl,I,rfl,rfl,rfl,I,I,I,rfl,rfl,I⟩<|W.cn<|J (fun _=>(g 3 4 []<|J UA (RT ?_))) (noF rfl)
 rotate_left
 by_cases h7:Message.lease m = (0:Int)
 refine g 11 87 [BF,BF,BF,BF,BF,BF,BF,BF,BT,BT,BT,BF,BT,BF,BF,BF,BF,BF,BF,BF,BF,BF,BF,BF,BF,BF,BT,BT,BT,BF,BT,BF] ?_
 conv=>whnf
 refine J ⟨I,I,dO,dO,dO,dO,dO,I,Zde,Zde,Zde,Zan,Zan,Zan,Zcz,rfl,I,⟨nO,I⟩,⟨nO,I⟩,dO,dO,dO,dO,⟨nO,dO⟩,nO,I,Zde,Zde,Zde,Zan,Zan,Zan,Zcz,rfl,I⟩<|W.cn<|J (fun h8=>?_) fun h8=>?_
 replace h8:=ndt h8
 refine g 3 4 []<|J UA<|RT ?_
 rotate_left
 replace h8:=ndf h8
 refine W.skip<|W.sq<|g 10 103 [BF,BF,BF,BF,BF,BF,BF,BF,BT,BT,BT,BF,BT,BF]<|J Zeq<|W.cn<|J (fun h9=>?_) fun h9=>?_
 replace h9:=ndt h9
 refine g 7 9 []<|J UA<|RT ?_
 rotate_left
 replace h9:=ndf h9
 refine W.skip<|g 5 120 [BF,BF,BF,BF,BF,BF,BF,BT,BT,BT,BT,BF,BT,BF]<|J Zep<|RT ?_
 rotate_left
 refine g 11 87 [BF,BF,BF,BF,BF,BF,BF,BF,BT,BT,BT,BF,BT,BF,BT,BT,BF,BF,BF,BF,BT,BT,BT,BT,BT,BF,BF,BF,BT,BT] ?_
 conv=>whnf
 refine J ⟨I,I,dO,dO,dO,dO,dO,I,Zde,Zde,Zde,Zan,Zan,Zan,Zcz,rfl,I,ah OM,ah OM,I,I,I,I,ah OM,ah OM,I,rfl,rfl,rfl,I,I,I,rfl,rfl,I⟩<|W.cn<|J (fun _=>(g 3 4 []<|J UA (RT ?_))) (noF rfl)
 rotate_left
 refine g 29 53 [BF,BF,BF,BF,BF,BF,BF,BF,BF,BF,BF,BF,BF,BT,BT,BT,BT,BT,BT,BT,BT,BT,BT,BF,BT,BF]<|J ⟨I,I,dO,dO,dO,dO,I,I,I,I,dO,dO,I,Zde,Zde,Zde,Zan,Zan,Zan,Zan,ah OM,ah OM,ah OM,ah OM,⟨ah OM,ah OM⟩,Zcz,rfl,I⟩<|W.cn<|J (fun _=>(g 11 16 []<|J UA (RT ?_))) (noF rfl)
 rotate_left
 refine g 13 15 [.call (V.b (decide (1≤m.kind∧m.kind≤5))) [[],[],[]],BT,BT,BT,BT,BT]<|J ⟨I,I,⟨UC,I,UU,UA,ai _ _ _⟩,I,I,ah OM,ah OM,ah OM,ah OM,ah OM,I⟩<|W.cn<|J (fun _=>(g 8 9 []<|J UA (RT ?_))) (noF rfl)
 rotate_left
 all_goals (try simp only[List.length_map,decide_eq_true_eq,Bool.not_eq_true,Bool.not_eq_true',decide_eq_false_iff_not]at *)
 all_goals first
  |exact vbf (by unfold bC;grind)
  |exact vbt (by unfold bC;grind)
  |exact vbd (by unfold bC;grind)
end Go.K
end
section
open Go Go.Tm Go.Proofs
namespace Go.K
def vV(m:Message):List Int:=[m.kind,m.frm,m.to,m.epoch / 256,m.epoch % 256,m.lease / 16777216,m.lease / 65536 % 256,m.lease / 256 % 256,m.lease % 256,m.task,m.inputs.length]
def gX:List ByteArray→ByteArray
 |[]=>emp
 |x :: l=>x++gX l
theorem E7(s:ByteArray):emp++s = s:=by apply ByteArray.ext;simp[emp]
theorem Bu(s:ByteArray):s++emp = s:=by apply ByteArray.ext;simp[emp]
theorem wV:∀ a b,gX (a++b) = gX a++gX b
 |[],b=>by simp only[List.nil_append,gX,E7]
 |x :: a,b=>by simp only[List.cons_append,gX,wV a b,ByteArray.append_assoc]
theorem zJ{xs:List ByteArray}{n:Nat}{x:ByteArray}(h:xs[n]? = some x):gX (xs.take (n+1)) = gX (xs.take n) ++x:=by
 rw[List.take_add_one,h,wV];simp only[Option.toList,gX,Bu]
def cT(m:Message):ByteArray:=bl (vV m) ++m.text++gX m.inputs
theorem zL{l:List Int}(h:∀ n∈l,0≤n∧n≤255):bT (bl l) = l.map b1T:=by
 unfold bT bl b1T
 simp only[List.map_map]
 apply List.map_congr_left
 intro n hn
 obtain⟨h1,h2⟩:=h n hn
 simp only[Function.comp]
 congr 4
 simp;omega
theorem cY{m:Message}(h:bC m):m.inputs.length≤8∧(∀ s∈m.inputs,s.size = 8)∧m.text.size≤8:=by
 have he:emp.size = 0:=rfl
 obtain⟨_,h|h|h|h|h⟩:=h
 ·obtain⟨_,_,_,_,_,h1,h2,h3⟩:=h
  exact⟨h3,h2,by rw[h1];omega⟩
 all_goals
  obtain⟨_,_,_,_,_,h1,h2⟩:=h
  have:m.inputs = []:=List.eq_nil_of_length_eq_zero OM
  rw[this]
  refine⟨by simp,(fun s hs=>nomatch hs),?_⟩
  first
   |(rw[h1];omega)
   |omega
theorem eR{m:Message}(h:bC m):(1≤m.kind∧m.kind≤5)∧(0≤m.frm∧m.frm≤8)∧(0≤m.to∧m.to≤8)∧(1≤m.epoch∧m.epoch≤300)∧(0≤m.lease∧m.lease≤300000000)∧(0≤m.task∧m.task≤39):=by
 obtain⟨h0,h|h|h|h|h⟩:=h
 all_goals
  obtain⟨h1,h2,h3,h4,h5,_⟩:=h
  refine⟨?_,?_,?_,h0,?_,?_⟩ <;> omega
theorem zp{m:Message}(h:bC m):∀ n∈vV m,0≤n∧n≤255:=by
 obtain⟨h1,h2,h3,h4,h5,h6⟩:=eR h
 have h7:=(cY h).1
 intro n hn
 simp only[vV,List.mem_cons,List.not_mem_nil,or_false]at hn
 rcases hn with rfl|rfl|rfl|rfl|rfl|rfl|rfl|rfl|rfl|rfl|rfl <;> omega
def fP(m:Message)(n:Nat):ByteArray:=bl (vV m) ++m.text++gX (m.inputs.take n)
theorem pT(m:Message):fP m 0 = bl (vV m) ++m.text:=by unfold fP;rw[List.take_zero,gX,Bu]
theorem wk{m:Message}{n:Nat}{x:ByteArray}(h:m.inputs[n]? = some x):bT (fP m n) ++bT x = bT (fP m (n+1)):=by
 unfold fP;rw[zJ h,←lQ];simp only[ByteArray.append_assoc]
theorem tp(m:Message):fP m m.inputs.length = cT m:=by unfold fP cT;rw[List.take_length]
theorem pU{m:Message}(h:bC m)(n:Nat)(hn:n≤m.inputs.length):(fP m n).size = 11+m.text.size+8 * n:=by
 obtain⟨h7,h8,h9⟩:=cY h
 induction n with
 |zero=>rw[pT,ByteArray.size_append,gh];rfl
 |succ k ih =>
  have hk:k < m.inputs.length:=by omega
  have:=congrArg List.length (wk (List.getElem?_eq_getElem hk))
  rw[List.length_append,fz,fz,fz,ih OM,h8 _ (List.getElem_mem hk)]at this
  omega
theorem Fg{m:Message}(h:bC m):[m.kind,m.frm,m.to,IntKind.u8.wrap (IntKind.i64.wrap (m.epoch.tdiv 256)),IntKind.u8.wrap (m.epoch.tmod 256),IntKind.u8.wrap (IntKind.i64.wrap (m.lease.tdiv 16777216)),IntKind.u8.wrap ((IntKind.i64.wrap (m.lease.tdiv 65536)).tmod 256),IntKind.u8.wrap ((IntKind.i64.wrap (m.lease.tdiv 256)).tmod 256),IntKind.u8.wrap (m.lease.tmod 256),m.task,IntKind.u8.wrap ((m.inputs.map aq).length:Int)].map b1T++bT m.text = bT (fP m 0):=by
 obtain⟨h1,h2,h3,h4,h5,h6⟩:=eR h
 have h7:=(cY h).1
 rw[pT,lQ,zL (zp h)]
 unfold vV
 rw[List.length_map,Int.tdiv_eq_ediv_of_nonneg OM,Int.tdiv_eq_ediv_of_nonneg OM,Int.tdiv_eq_ediv_of_nonneg OM,Int.tdiv_eq_ediv_of_nonneg OM,w64 (z:=m.lease / 65536) OM OM,w64 (z:=m.lease / 256) OM OM,w64 (z:=m.lease / 16777216) OM OM,w64 (z:=m.epoch / 256) OM OM,Int.tmod_eq_emod_of_nonneg OM,Int.tmod_eq_emod_of_nonneg OM,Int.tmod_eq_emod_of_nonneg OM,Int.tmod_eq_emod_of_nonneg OM,wu8 OM OM,wu8 OM OM,wu8 OM OM,wu8 OM OM,wu8 OM OM,wu8 OM OM,wu8 OM OM]
theorem yq(m:Message)(h:bC m):F xF [.val (dI m)] (.s (cT m)) [[]]:=by
 obtain⟨h1,h2,h3,h4,h5,h6⟩:=eR h
 obtain⟨h7,h8,h9⟩:=cY h
 refine x7 ?_
 conv=>whnf
 refine g 0 0 []<|J ⟨UH,I,I⟩<|g 0 0 []<|J UC<|g 10 47 [.i m.kind,.i m.frm,.i m.to,.i (IntKind.wrap IntKind.i64 (Int.tdiv m.epoch 256)),.i (IntKind.wrap IntKind.u8 (IntKind.wrap IntKind.i64 (Int.tdiv m.epoch 256))),.i (Int.tmod m.epoch 256),.i (IntKind.wrap IntKind.u8 (Int.tmod m.epoch 256)),.i (IntKind.wrap IntKind.i64 (Int.tdiv m.lease 16777216)),.i (IntKind.wrap IntKind.u8 (IntKind.wrap IntKind.i64 (Int.tdiv m.lease 16777216))),.i (IntKind.wrap IntKind.i64 (Int.tdiv m.lease 65536)),.i (Int.tmod (IntKind.wrap IntKind.i64 (Int.tdiv m.lease 65536)) 256),.i (IntKind.wrap IntKind.u8 (Int.tmod (IntKind.wrap IntKind.i64 (Int.tdiv m.lease 65536)) 256)),.i (IntKind.wrap IntKind.i64 (Int.tdiv m.lease 256)),.i (Int.tmod (IntKind.wrap IntKind.i64 (Int.tdiv m.lease 256)) 256),.i (IntKind.wrap IntKind.u8 (Int.tmod (IntKind.wrap IntKind.i64 (Int.tdiv m.lease 256)) 256)),.i (Int.tmod m.lease 256),.i (IntKind.wrap IntKind.u8 (Int.tmod m.lease 256)),.i m.task,.i (IntKind.wrap IntKind.u8 (↑(List.length (List.map aq m.inputs)):Int))]<|J ⟨I,I,wu8 OM OM,I,I,wu8 OM OM,I,I,wu8 OM OM,I,I,Zdu,rfl,I,I,Zdu,rfl,I,Zdu,rfl,I,Zdu,Zdu,rfl,I,Zdu,Zdu,rfl,I,Zdu,rfl,I,I,wu8 OM OM,I,I,I,rfl,⟨UA,UA,UA,UA,UA,UA,UA,UA,UA,UA,UA,I⟩,I,I⟩<|g 47 51 []<|J ⟨I,I,I,Zdh,I,I⟩<|W.sq<|g 6 9 []<|J UA<|W.blk<|W.lp (fun s (n:Nat)=>⟨[(1,s.s 1),(2,s.s 2),(4,.ref ⟨4,none,0⟩),(5,.i n),(9,s.s 9)],[(1,[s.c 1 0,s.c 1 1,s.c 1 2,s.c 1 3,s.c 1 4,s.c 1 5,s.c 1 6,s.c 1 7]),(4,[.own [false] (bT (fP m n))])],[]⟩) (fun(n:Nat)=>n≤m.inputs.length) (fun(n:Nat)=>m.inputs.length - n) (0) [some 1,some 50] [] ⟨rfl,Zbc,⟨Zab,⟨⟨rfl,⟨(congrArg (V.own _) (Fg h)),I⟩⟩,I⟩⟩,I⟩ OM ?_
 intro n hn
 have hc:=pU h n hn
 have hb:=fz (fP m n)
 conv=>whnf
 refine W.sq<|g 51 55 []<|J UE<|W.cn<|J (fun h10=>?_) fun h10=>?_
 replace h10:=dt h10
 simp only[LM]at h10
 refine W.skip<|W.sq<|W.blk ?_
 obtain⟨y1,hy1⟩:=ak (xs:=Message.inputs m) (n:=n) OM
 have hm1:=h8 y1 (List.mem_of_getElem? hy1)
 refine rg [.x (aq y1)]<|J ⟨I,I,I,I,Zdk,I,Zdh,I,I⟩<|rg [.i ((n:Int) +1)]<|J Zdg ?_
 rotate_left
 replace h10:=df h10
 simp only[LM]at h10
 refine W.exit<|g 55 67 [.s (fP m n)]<|J ⟨I,⟨I,ii _,(iD _).symm⟩,I,I⟩<|RT ?_
 rotate_left
 ·refine⟨n+1,[some 1,some 64],[],⟨rfl,Zbc,⟨Zab,⟨⟨rfl,⟨(congrArg (V.own _) (wk AS)),I⟩⟩,I⟩⟩,I⟩,?_,?_⟩
  rotate_left
  (dsimp only;omega)
  dsimp only
  omega
 ·exact vs (by rw[show n = m.inputs.length from by omega,tp])
end Go.K
end
section
open Go Go.Tm Go.Proofs
namespace Go.K
attribute [local irreducible] ByteArray.extract
def dK(m:Message)(key:ByteArray):ByteArray:=if bC m∧key.size≤30 then eG (cT m) key++cT m else emp
theorem fA{m:Message}(h:bC m):(cT m).size = 11+m.text.size+8 * m.inputs.length:=by
 rw[←tp,pU h _ (Nat.le_refl _)]
theorem fk(m:Message)(key:ByteArray)(hl:m.inputs.length≤9223372036854775806):F oZ [.val (dI m),.val (.s key)] (.s (dK m key)) [[],[]]:=by
 have c1:=mW m hl
 have c2:=yq m
 by_cases h:bC m
 ·have hb:=fA h
  obtain⟨h7,h8,h9⟩:=cY h
  rw[show decide (bC m) = true from decide_eq_true h]at c1
  have c3:=c2 h
  clear c2
  by_cases hk:key.size≤30
  ·have c4:=lf (key++nul++cT m) (by rw[ByteArray.size_append,ByteArray.size_append];have:nul.size = 1:=rfl;omega)
   rw[fZ,show bl (beL (fy h0v (key++nul++cT m)) 8) = eG (cT m) key from rfl]at c4
   have hn:nul.size = 1:=rfl
   have h2:(eG (cT m) key).size = 8:=gF _
   refine fh ?_
   conv=>whnf
   refine g 0 1 []<|J ⟨UH,I,I⟩<|W.sq<|g 6 9 [.call VT [[]],BF,BF,BF,BF]<|J Zb5<|W.cn<|J (noT dO) fun _=>W.skip<|g 10 16 [.call (V.s (cT m)) [[]]]<|J ⟨I,Zb6,I,I⟩<|g 16 23 [.s (key++ {data:=#[(0:UInt8)]:ByteArray}),.s (key++ {data:=#[(0:UInt8)]:ByteArray} ++cT m),.call (V.s (eG (cT m) key)) [[]],.s (eG (cT m) key++cT m)]<|J ⟨I,⟨rfl,(by simp only[bsz,bsa,ByteArray.size_append,List.size_toArray,qE];omega)⟩,I,⟨rfl,(by simp only[bsz,bsa,ByteArray.size_append,List.size_toArray,qE];omega)⟩,Zaj,I,⟨rfl,OM⟩,I,I⟩<|RT ?_
   exact vs (if_pos ⟨h,hk⟩).symm
  ·refine fh ?_
   conv=>whnf
   refine g 0 1 []<|J ⟨UH,I,I⟩<|W.sq<|g 6 9 [.call VT [[]],BF,BF,BF,BF]<|J Zb5<|W.cn<|J (fun _=>(g 10 14 []<|J UA (RT ?_))) (noF tO)
   exact vs (if_neg (fun h=>hk h.2)).symm
 ·rw[show decide (bC m) = false from decide_eq_false h]at c1
  clear c2
  refine fh ?_
  conv=>whnf
  refine g 0 1 []<|J ⟨UH,I,I⟩<|W.sq<|g 6 9 [.call VF [[]],BT,BT,BT,BT]<|J ⟨I,Zb6,I,I,rfl,rfl,rfl,rfl,I⟩<|W.cn<|J (fun _=>(g 10 14 []<|J UA (RT ?_))) (noF rfl)
  exact vs (if_neg (fun x=>h x.1)).symm
def bS(r:ByteArray)(n:Nat):List ByteArray:=(List.range n).map fun k=>r.extract (8 * k) (8 * k+8)
def rdM(b:ByteArray):Message :=
 ⟨byt b 0,byt b 1,byt b 2,byt b 3 * 256+byt b 4,byt b 5 * 16777216+byt b 6 * 65536+byt b 7 * 256+byt b 8,byt b 9,if byt b 0 = 3 then b.extract 11 b.size else emp,if byt b 0 = 3 then []else bS (b.extract 11 b.size) ((b.size - 11) / 8)⟩
def dE(s key:ByteArray):Option Message:=if s.size < 19∨dK (rdM (s.extract 8 s.size)) key≠s then none else some (rdM (s.extract 8 s.size))
def il:Option Message→V
 |none=>.tup [bz HV,.b false]
 |some m=>.tup [bz m,.b true]
theorem mV(r:ByteArray)(n:Nat):bS r (n+1) = bS r n++ [r.extract (8 * n) (8 * n+8)]:=by
 unfold bS;rw[List.range_succ,List.map_append];rfl
def rdF(b:ByteArray)(t:ByteArray)(l:List ByteArray):Message :=
 ⟨byt b 0,byt b 1,byt b 2,byt b 3 * 256+byt b 4,byt b 5 * 16777216+byt b 6 * 65536+byt b 7 * 256+byt b 8,byt b 9,t,l⟩
theorem mJ{s key:ByteArray}(h:s.size < 19):dE s key = none:=if_pos (Or.inl h)
theorem C2{s key:ByteArray}{m:Message}(h:rdM (s.extract 8 s.size) = m)(h2:¬dK m key = s):dE s key = none:=if_pos (Or.inr (by rw[h];exact h2))
theorem nH{s key:ByteArray}{m:Message}(h0:¬s.size < 19)(h:rdM (s.extract 8 s.size) = m)(h2:dK m key = s):dE s key = some m:=by
 unfold dE;rw[h,if_neg];rintro(h|h);exact h0 h;exact h h2
def bd(s:ByteArray):ByteArray:=(s.extract 8 s.size).extract 11 (s.extract 8 s.size).size
def iU(s:ByteArray)(n:Nat):ByteArray:=(bd s).extract (8 * n) (bd s).size
theorem Ep(s:ByteArray):bd s = iU s 0:=by unfold iU;rw[Nat.mul_zero,ByteArray.extract_zero_size]
theorem Es{s:ByteArray}{n:Nat}(hz:(bd s).size = s.size - 19)(h:8 * n≤s.size - 19):(iU s n).size = s.size - 19 - 8 * n:=by
 unfold iU;rw[ByteArray.size_extract];omega
theorem Et{s:ByteArray}{n:Nat}(h:8 * n+8≤(bd s).size):(iU s n).extract 0 8 = (bd s).extract (8 * n) (8 * n+8):=by
 unfold iU;rw[ByteArray.extract_extract,Nat.min_eq_left OM,Nat.add_zero]
theorem Er(s:ByteArray)(n:Nat)(h:8 * n+8≤(bd s).size):(iU s n).extract 8 (iU s n).size = iU s (n+1):=by
 have:(iU s n).size = (bd s).size - 8 * n:=by unfold iU;rw[ByteArray.size_extract];omega
 rw[this]
 unfold iU;rw[ByteArray.extract_extract,show 8 * n+8 = 8 * (n+1) by omega,show min (8 * n+ ((bd s).size - 8 * n)) (bd s).size = (bd s).size by omega]
theorem pS(r:ByteArray)(n:Nat):(bS r n).length = n:=by unfold bS;rw[List.length_map,List.length_range]
theorem Co{s:ByteArray}{n:Nat}(h:8 * n+8≤(bd s).size):(bS (bd s) n).map aq++ [aq ((iU s n).extract 0 8)] = (bS (bd s) (n+1)).map aq:=by
 rw[mV,List.map_append,Et h];rfl
theorem io(tx key:ByteArray)(ht:tx.size≤68719476736):F oY [.val (.s tx),.val (.s key)] (il (dE tx key)) [[],[]]:=by
 by_cases h0:tx.size < 19
 ·refine fg ?_
  conv=>whnf
  refine g 0 0 []<|J UB<|W.sq<|g 9 11 []<|J UC<|W.cn<|J (fun _=>(g 11 13 []<|J Zec (RT ?_))) (noF tO)
  exact congrArg il (mJ h0).symm
 have hx:(tx.extract 8 tx.size).size = tx.size - 8:=by rw[ByteArray.size_extract];omega
 obtain⟨y1,hy1,hb1⟩:=bg (s:=tx.extract 8 tx.size) (n:=0) OM
 obtain⟨y2,hy2,hb2⟩:=bg (s:=tx.extract 8 tx.size) (n:=1) OM
 obtain⟨y3,hy3,hb3⟩:=bg (s:=tx.extract 8 tx.size) (n:=2) OM
 obtain⟨y4,hy4,hb4⟩:=bg (s:=tx.extract 8 tx.size) (n:=3) OM
 obtain⟨y5,hy5,hb5⟩:=bg (s:=tx.extract 8 tx.size) (n:=4) OM
 obtain⟨y6,hy6,hb6⟩:=bg (s:=tx.extract 8 tx.size) (n:=5) OM
 obtain⟨y7,hy7,hb7⟩:=bg (s:=tx.extract 8 tx.size) (n:=6) OM
 obtain⟨y8,hy8,hb8⟩:=bg (s:=tx.extract 8 tx.size) (n:=7) OM
 obtain⟨y9,hy9,hb9⟩:=bg (s:=tx.extract 8 tx.size) (n:=8) OM
 obtain⟨y10,hy10,hb10⟩:=bg (s:=tx.extract 8 tx.size) (n:=9) OM
 have e:∀ t l,rdF (tx.extract 8 tx.size) t l = ⟨y1.toNat,y2.toNat,y3.toNat,(y4.toNat:Int) * 256+y5.toNat,(y6.toNat:Int) * 16777216+ (y7.toNat:Int) * 65536+ (y8.toNat:Int) * 256+y9.toNat,y10.toNat,t,l⟩:=by
  intro t l;simp only[rdF,br hy1,br hy2,br hy3,br hy4,br hy5,br hy6,br hy7,br hy8,br hy9,br hy10]
 by_cases h3:(y1.toNat:Int) = 3
 ·have e1:rdM (tx.extract 8 tx.size) = ⟨y1.toNat,y2.toNat,y3.toNat,(y4.toNat:Int) * 256+y5.toNat,(y6.toNat:Int) * 16777216+ (y7.toNat:Int) * 65536+ (y8.toNat:Int) * 256+y9.toNat,y10.toNat,(tx.extract 8 tx.size).extract 11 (tx.extract 8 tx.size).size,[]⟩:=by
   rw[←e];unfold rdM rdF;rw[br hy1,if_pos h3,if_pos h3]
  have c1:=fk (rdM (tx.extract 8 tx.size)) key (by rw[e1];simp)
  rw[e1]at c1
  refine fg ?_
  conv=>whnf
  refine g 0 0 []<|J UB<|W.sq<|g 9 11 []<|J UC<|W.cn<|J (noT dO) fun _=>W.skip<|g 11 15 [.n (8),.s (ByteArray.extract tx 8 (ByteArray.size tx))]<|J Zcn<|gd 15 36 [[],[.i ((↑(UInt8.toNat y1):Int))],[.i ((↑(UInt8.toNat y1):Int))],[],[.i ((↑(UInt8.toNat y2):Int))],[.i ((↑(UInt8.toNat y2):Int))],[],[.i ((↑(UInt8.toNat y3):Int))],[.i ((↑(UInt8.toNat y3):Int))],[],[.i ((↑(UInt8.toNat y4):Int))],[.i ((↑(UInt8.toNat y4):Int))],[.i ((↑(UInt8.toNat y4):Int) * 256)],[],[.i ((↑(UInt8.toNat y5):Int))],[.i ((↑(UInt8.toNat y5):Int))],[.i ((↑(UInt8.toNat y4):Int) * 256+ (↑(UInt8.toNat y5):Int))],[],[.i ((↑(UInt8.toNat y10):Int))],[.i ((↑(UInt8.toNat y10):Int))],[],[],[]] ?_
  conv=>whnf
  refine J ⟨I,⟨OM,ixb hy1⟩,w8 _,I,⟨OM,ixb hy2⟩,w8 _,I,⟨OM,ixb hy3⟩,w8 _,I,⟨OM,ixb hy4⟩,w8 _,wO,I,⟨OM,ixb hy5⟩,w8 _,wO,I,⟨OM,ixb hy10⟩,w8 _,I,I,UH,I⟩<|J KR<|gd 36 55 [[],[.i ((↑(UInt8.toNat y6):Int))],[.i ((↑(UInt8.toNat y6):Int))],[.i ((↑(UInt8.toNat y6):Int) * 16777216)],[],[.i ((↑(UInt8.toNat y7):Int))],[.i ((↑(UInt8.toNat y7):Int))],[.i ((↑(UInt8.toNat y7):Int) * 65536)],[.i ((↑(UInt8.toNat y6):Int) * 16777216+ (↑(UInt8.toNat y7):Int) * 65536)],[],[.i ((↑(UInt8.toNat y8):Int))],[.i ((↑(UInt8.toNat y8):Int))],[.i ((↑(UInt8.toNat y8):Int) * 256)],[.i ((↑(UInt8.toNat y6):Int) * 16777216+ (↑(UInt8.toNat y7):Int) * 65536+ (↑(UInt8.toNat y8):Int) * 256)],[],[.i ((↑(UInt8.toNat y9):Int))],[.i ((↑(UInt8.toNat y9):Int))],[.i ((↑(UInt8.toNat y6):Int) * 16777216+ (↑(UInt8.toNat y7):Int) * 65536+ (↑(UInt8.toNat y8):Int) * 256+ (↑(UInt8.toNat y9):Int))],[],[]] ?_
  conv=>whnf
  refine J ⟨I,⟨OM,ixb hy6⟩,w8 _,wO,I,⟨OM,ixb hy7⟩,w8 _,wO,wO,I,⟨OM,ixb hy8⟩,w8 _,wO,wO,I,⟨OM,ixb hy9⟩,w8 _,wO,I,UA,I⟩<|J KR<|g 55 57 [.n (11),.s (ByteArray.extract (ByteArray.extract tx 8 (ByteArray.size tx)) 11 (ByteArray.size (ByteArray.extract tx 8 (ByteArray.size tx))))]<|J Zcn<|W.sq<|g 57 59 []<|J UC<|W.cn<|J (fun _=>(rg []<|J ⟨I,I,UA,I⟩ (W.sq (g 8 78 [.call (V.s (dK {kind:=(↑(UInt8.toNat y1):Int),frm:=(↑(UInt8.toNat y2):Int),to:=(↑(UInt8.toNat y3):Int),epoch:=(↑(UInt8.toNat y4):Int) * 256+ (↑(UInt8.toNat y5):Int),lease:=(↑(UInt8.toNat y6):Int) * 16777216+ (↑(UInt8.toNat y7):Int) * 65536+ (↑(UInt8.toNat y8):Int) * 256+ (↑(UInt8.toNat y9):Int),task:=(↑(UInt8.toNat y10):Int),text:=ByteArray.extract (ByteArray.extract tx 8 (ByteArray.size tx)) 11 (ByteArray.size (ByteArray.extract tx 8 (ByteArray.size tx))),inputs:=[]:Message} key)) [[],[]]]<|J ⟨I,I,Zc7,I,I,I⟩ (W.cn<|J (fun h1=>?_) fun h1=>?_))))) (noF tO)
  replace h1:=ndt h1
  refine g 0 2 []<|J Zec<|RT ?_
  rotate_left
  replace h1:=ndf h1
  refine W.skip<|g 6 81 []<|J Zec<|RT ?_
  rotate_left
  ·exact congrArg il (C2 e1 AS).symm
  ·exact congrArg il (nH h0 e1 AS).symm
 ·have e1:∀ n,n = (tx.size - 19) / 8→rdM (tx.extract 8 tx.size) = ⟨y1.toNat,y2.toNat,y3.toNat,(y4.toNat:Int) * 256+y5.toNat,(y6.toNat:Int) * 16777216+ (y7.toNat:Int) * 65536+ (y8.toNat:Int) * 256+y9.toNat,y10.toNat,emp,bS (bd tx) n⟩:=by
   intro n hn;rw[←e];unfold rdM rdF;rw[br hy1,if_neg h3,if_neg h3,hn,hx,bd,hx,show tx.size - 8 - 11 = tx.size - 19 by omega]
  have hz:(bd tx).size = tx.size - 19:=by unfold bd;rw[ByteArray.size_extract,hx];omega
  refine fg ?_
  conv=>whnf
  refine g 0 0 []<|J UB<|W.sq<|g 9 11 []<|J UC<|W.cn<|J (noT dO) fun _=>W.skip<|g 11 15 [.n (8),.s (ByteArray.extract tx 8 (ByteArray.size tx))]<|J Zcn<|gd 15 36 [[],[.i ((↑(UInt8.toNat y1):Int))],[.i ((↑(UInt8.toNat y1):Int))],[],[.i ((↑(UInt8.toNat y2):Int))],[.i ((↑(UInt8.toNat y2):Int))],[],[.i ((↑(UInt8.toNat y3):Int))],[.i ((↑(UInt8.toNat y3):Int))],[],[.i ((↑(UInt8.toNat y4):Int))],[.i ((↑(UInt8.toNat y4):Int))],[.i ((↑(UInt8.toNat y4):Int) * 256)],[],[.i ((↑(UInt8.toNat y5):Int))],[.i ((↑(UInt8.toNat y5):Int))],[.i ((↑(UInt8.toNat y4):Int) * 256+ (↑(UInt8.toNat y5):Int))],[],[.i ((↑(UInt8.toNat y10):Int))],[.i ((↑(UInt8.toNat y10):Int))],[],[],[]] ?_
  conv=>whnf
  refine J ⟨I,⟨OM,ixb hy1⟩,w8 _,I,⟨OM,ixb hy2⟩,w8 _,I,⟨OM,ixb hy3⟩,w8 _,I,⟨OM,ixb hy4⟩,w8 _,wO,I,⟨OM,ixb hy5⟩,w8 _,wO,I,⟨OM,ixb hy10⟩,w8 _,I,I,UH,I⟩<|J KR<|gd 36 55 [[],[.i ((↑(UInt8.toNat y6):Int))],[.i ((↑(UInt8.toNat y6):Int))],[.i ((↑(UInt8.toNat y6):Int) * 16777216)],[],[.i ((↑(UInt8.toNat y7):Int))],[.i ((↑(UInt8.toNat y7):Int))],[.i ((↑(UInt8.toNat y7):Int) * 65536)],[.i ((↑(UInt8.toNat y6):Int) * 16777216+ (↑(UInt8.toNat y7):Int) * 65536)],[],[.i ((↑(UInt8.toNat y8):Int))],[.i ((↑(UInt8.toNat y8):Int))],[.i ((↑(UInt8.toNat y8):Int) * 256)],[.i ((↑(UInt8.toNat y6):Int) * 16777216+ (↑(UInt8.toNat y7):Int) * 65536+ (↑(UInt8.toNat y8):Int) * 256)],[],[.i ((↑(UInt8.toNat y9):Int))],[.i ((↑(UInt8.toNat y9):Int))],[.i ((↑(UInt8.toNat y6):Int) * 16777216+ (↑(UInt8.toNat y7):Int) * 65536+ (↑(UInt8.toNat y8):Int) * 256+ (↑(UInt8.toNat y9):Int))],[],[]] ?_
  conv=>whnf
  refine J ⟨I,⟨OM,ixb hy6⟩,w8 _,wO,I,⟨OM,ixb hy7⟩,w8 _,wO,wO,I,⟨OM,ixb hy8⟩,w8 _,wO,wO,I,⟨OM,ixb hy9⟩,w8 _,wO,I,UA,I⟩<|J KR<|g 55 57 [.n (11),.s (ByteArray.extract (ByteArray.extract tx 8 (ByteArray.size tx)) 11 (ByteArray.size (ByteArray.extract tx 8 (ByteArray.size tx))))]<|J Zcn<|W.sq<|g 57 59 []<|J UC<|W.cn<|J (noT dO) fun _=>W.blk<|W.lp (fun s (n:Nat)=>⟨[(0,s.s 0),(1,s.s 1),(4,s.s 4),(5,s.s 5),(7,s.s 7),(8,.s (iU tx n))],[(4,[s.c 4 0,s.c 4 1,s.c 4 2,s.c 4 3,s.c 4 4,s.c 4 5,s.c 4 6,s.c 4 7]),(7,[.t (.i y1.toNat),.t (.i y2.toNat),.t (.i y3.toNat),.t (.i ((y4.toNat:Int) * 256+y5.toNat)),.t (.i ((y6.toNat:Int) * 16777216+ (y7.toNat:Int) * 65536+ (y8.toNat:Int) * 256+y9.toNat)),.t (.i y10.toNat),.t (.s emp),.own [false] ((bS (bd tx) n).map aq)])],[]⟩) (fun(n:Nat)=>8 * n≤tx.size - 19) (fun(n:Nat)=>tx.size - 8 * n) (0) [some 4,some 7] [] ⟨rfl,⟨rfl,rfl,rfl,rfl,rfl,(congrArg (fun z=>V.t (T.v (Value.string z))) (Ep tx)),I⟩,⟨Zab,⟨Zab,I⟩⟩,I⟩ OM ?_
  intro n hn
  have hs:=Es (s:=tx) (n:=n) hz hn
  have c1:=fun n=>fk ⟨y1.toNat,y2.toNat,y3.toNat,(y4.toNat:Int) * 256+y5.toNat,(y6.toNat:Int) * 16777216+ (y7.toNat:Int) * 65536+ (y8.toNat:Int) * 256+y9.toNat,y10.toNat,emp,bS (bd tx) n⟩ key
  have c2:=c1 n (by simp only[bS,List.length_map,List.length_range];omega)
  clear c1
  have hcl:=pS (bd tx) n
  conv=>whnf
  refine W.sq<|g 62 64 []<|J UC<|W.cn<|J (fun h1=>?_) fun h1=>?_
  replace h1:=dt h1
  refine W.skip<|W.blk<|gd 64 72 [[],[],[],[.n (8),.s (ByteArray.extract (iU tx n) 0 8)],[],[],[],[]] ?_
  conv=>whnf
  refine J ⟨I,I,I,⟨rfl,I,OM,OM,rfl⟩,US,Zdh,I,UA,I⟩<|J KR<|rg [.n (8),.s (ByteArray.extract (iU tx n) 8 (ByteArray.size (iU tx n)))]<|J Zcn ?_
  rotate_left
  replace h1:=df h1
  refine W.exit<|W.sq<|g 8 78 [.call (V.s (dK {kind:=(↑(UInt8.toNat y1):Int),frm:=(↑(UInt8.toNat y2):Int),to:=(↑(UInt8.toNat y3):Int),epoch:=(↑(UInt8.toNat y4):Int) * 256+ (↑(UInt8.toNat y5):Int),lease:=(↑(UInt8.toNat y6):Int) * 16777216+ (↑(UInt8.toNat y7):Int) * 65536+ (↑(UInt8.toNat y8):Int) * 256+ (↑(UInt8.toNat y9):Int),task:=(↑(UInt8.toNat y10):Int),text:=emp,inputs:=bS (bd tx) n:Message} key)) [[],[]]]<|J ⟨I,I,Zc7,I,I,I⟩<|W.cn<|J (fun h2=>?_) fun h2=>?_
  replace h2:=ndt h2
  refine g 0 2 []<|J Zec<|RT ?_
  rotate_left
  replace h2:=ndf h2
  refine W.skip<|g 7 81 []<|J Zec<|RT ?_
  rotate_left
  ·refine⟨n+1,[some 4,some 7],[],⟨rfl,⟨rfl,rfl,rfl,rfl,rfl,(congrArg (fun z=>V.t (T.v (Value.string z))) (Er tx n OM)),I⟩,⟨Zab,⟨⟨rfl,⟨rfl,⟨rfl,⟨rfl,⟨rfl,⟨rfl,⟨rfl,⟨rfl,⟨(congrArg (V.own _) (Co OM)),I⟩⟩⟩⟩⟩⟩⟩⟩⟩,I⟩⟩,I⟩,?_,?_⟩
   rotate_left
   (dsimp only;omega)
   dsimp only
   omega
  ·exact congrArg il (C2 (e1 n OM) AS).symm
  ·exact congrArg il (nH h0 (e1 n OM) AS).symm
end Go.K
end

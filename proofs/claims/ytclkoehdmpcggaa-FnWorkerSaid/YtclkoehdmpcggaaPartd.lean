/- Contracts of functions of the program: what each call answers. -/
import Derived.Test.YtclkoehdmpcggaaPartc
import Derived.Test.YtclkoehdmpcggaaProg
section
set_option linter.unusedVariables false
set_option linter.unusedSimpArgs false
open Go Go.Tm Go.Proofs
namespace Go.K
def E:Env:=(.node (.node (.node (.node (.node (.node (.node .nil 2 ⟨(.int .i64),[.t (.v (.int .i64 0))],8⟩ .nil) 3 ⟨(.int .i64),[.t (.v (.int .i64 0))],8⟩ .nil) 4 ⟨.bool,[.b false],1⟩ (.node (.node .nil 5 ⟨(.int .u8),[.t (.v (.int .u8 0))],1⟩ .nil) 6 ⟨(.int .u8),[.t (.v (.int .u8 0))],1⟩ .nil)) 7 ⟨(.struct [(0,2),(1,3),(2,4),(3,6)]),[.t (.v (.int .i64 0)),.t (.v (.int .i64 0)),.b false,.t (.v (.int .u8 0))],24⟩ (.node (.node (.node .nil 9 ⟨.str,[.s ⟨#[]⟩],16⟩ .nil) 12 ⟨(.int .u64),[.t (.v (.int .u64 0))],8⟩ .nil) 13 ⟨(.struct [(0,9),(1,12)]),[.s ⟨#[]⟩,.t (.v (.int .u64 0))],24⟩ (.node (.node .nil 17 ⟨(.ptr 241),[.t (.v (.pointer none))],8⟩ .nil) 18 ⟨(.struct [(0,17)]),[.t (.v (.pointer none))],8⟩ .nil))) 19 ⟨(.struct [(0,17)]),[.t (.v (.pointer none))],8⟩ (.node (.node (.node (.node .nil 21 ⟨(.int .i32),[.t (.v (.int .i32 0))],4⟩ .nil) 22 ⟨(.slice 9),[.own [false] []],24⟩ .nil) 23 ⟨(.struct [(0,22),(1,22)]),[.own [false] [],.own [false] []],48⟩ (.node (.node .nil 24 ⟨(.struct [(0,22),(1,22)]),[.own [false] [],.own [false] []],48⟩ .nil) 25 ⟨(.slice 188),[.own [false,false,false] []],24⟩ .nil)) 26 ⟨(.slice 190),[.own [false,false] []],24⟩ (.node (.node (.node .nil 27 ⟨(.slice 192),[.own [false,false,false] []],24⟩ .nil) 28 ⟨(.struct [(0,3),(1,4),(2,3),(3,3),(4,3),(5,3),(6,24),(8,22),(9,25),(10,26),(11,27)]),[.t (.v (.int .i64 0)),.b false,.t (.v (.int .i64 0)),.t (.v (.int .i64 0)),.t (.v (.int .i64 0)),.t (.v (.int .i64 0)),.own [false] [],.own [false] [],.own [false] [],.own [false,false,false] [],.own [false,false] [],.own [false,false,false] []],192⟩ .nil) 29 ⟨(.struct [(0,3),(1,4),(2,3),(3,3),(4,3),(5,3),(6,24),(8,22),(9,25),(10,26),(11,27)]),[.t (.v (.int .i64 0)),.b false,.t (.v (.int .i64 0)),.t (.v (.int .i64 0)),.t (.v (.int .i64 0)),.t (.v (.int .i64 0)),.own [false] [],.own [false] [],.own [false] [],.own [false,false,false] [],.own [false,false] [],.own [false,false,false] []],192⟩ (.node .nil 30 ⟨(.slice 183),[.own [false,false,true] []],24⟩ .nil)))) 31 ⟨(.struct [(0,30)]),[.own [false,false,true] []],24⟩ (.node (.node (.node (.node (.node .nil 32 ⟨(.struct [(0,30)]),[.own [false,false,true] []],24⟩ .nil) 35 ⟨(.struct [(0,22),(1,22)]),[.own [false] [],.own [false] []],48⟩ .nil) 36 ⟨(.slice 155),[.own [false,false,false] []],24⟩ (.node (.node .nil 37 ⟨(.slice 185),[.own [false,false] []],24⟩ .nil) 38 ⟨(.slice 157),[.own [false,false,false] []],24⟩ .nil)) 39 ⟨(.struct [(0,3),(1,4),(2,3),(3,3),(4,3),(5,3),(6,35),(8,22),(9,36),(10,37),(11,38)]),[.t (.v (.int .i64 0)),.b false,.t (.v (.int .i64 0)),.t (.v (.int .i64 0)),.t (.v (.int .i64 0)),.t (.v (.int .i64 0)),.own [false] [],.own [false] [],.own [false] [],.own [false,false,false] [],.own [false,false] [],.own [false,false,false] []],192⟩ (.node (.node (.node .nil 40 ⟨(.struct [(0,3),(1,4),(2,3),(3,3),(4,3),(5,3),(6,35),(8,22),(9,36),(10,37),(11,38)]),[.t (.v (.int .i64 0)),.b false,.t (.v (.int .i64 0)),.t (.v (.int .i64 0)),.t (.v (.int .i64 0)),.t (.v (.int .i64 0)),.own [false] [],.own [false] [],.own [false] [],.own [false,false,false] [],.own [false,false] [],.own [false,false,false] []],192⟩ .nil) 43 ⟨(.slice 102),[.own [false,false,true] []],24⟩ .nil) 44 ⟨(.struct [(0,43)]),[.own [false,false,true] []],24⟩ (.node (.node .nil 45 ⟨(.struct [(0,43)]),[.own [false,false,true] []],24⟩ .nil) 54 ⟨(.slice 93),[.own [false,false,false,false,false,false,false,false,true,false,false] []],24⟩ .nil))) 55 ⟨(.slice 146),[.own [false,false,false] []],24⟩ (.node (.node (.node (.node .nil 56 ⟨(.struct [(0,45),(1,9),(2,40),(14,54),(15,55),(16,9)]),[.own [false,false,true] [],.s ⟨#[]⟩,.t (.v (.int .i64 0)),.b false,.t (.v (.int .i64 0)),.t (.v (.int .i64 0)),.t (.v (.int .i64 0)),.t (.v (.int .i64 0)),.own [false] [],.own [false] [],.own [false] [],.own [false,false,false] [],.own [false,false] [],.own [false,false,false] [],.own [false,false,false,false,false,false,false,false,true,false,false] [],.own [false,false,false] [],.s ⟨#[]⟩],296⟩ .nil) 57 ⟨(.struct [(0,45),(1,9),(2,40),(14,54),(15,55),(16,9)]),[.own [false,false,true] [],.s ⟨#[]⟩,.t (.v (.int .i64 0)),.b false,.t (.v (.int .i64 0)),.t (.v (.int .i64 0)),.t (.v (.int .i64 0)),.t (.v (.int .i64 0)),.own [false] [],.own [false] [],.own [false] [],.own [false,false,false] [],.own [false,false] [],.own [false,false,false] [],.own [false,false,false,false,false,false,false,false,true,false,false] [],.own [false,false,false] [],.s ⟨#[]⟩],296⟩ .nil) 62 ⟨(.slice 206),[.own [false,false,false,false,false,false,false,false,true,false,false] []],24⟩ (.node (.node .nil 63 ⟨(.slice 208),[.own [false,false,false] []],24⟩ .nil) 64 ⟨(.struct [(0,32),(1,9),(2,29),(14,62),(15,63),(16,9)]),[.own [false,false,true] [],.s ⟨#[]⟩,.t (.v (.int .i64 0)),.b false,.t (.v (.int .i64 0)),.t (.v (.int .i64 0)),.t (.v (.int .i64 0)),.t (.v (.int .i64 0)),.own [false] [],.own [false] [],.own [false] [],.own [false,false,false] [],.own [false,false] [],.own [false,false,false] [],.own [false,false,false,false,false,false,false,false,true,false,false] [],.own [false,false,false] [],.s ⟨#[]⟩],296⟩ .nil)) 65 ⟨(.struct [(0,32),(1,9),(2,29),(14,62),(15,63),(16,9)]),[.own [false,false,true] [],.s ⟨#[]⟩,.t (.v (.int .i64 0)),.b false,.t (.v (.int .i64 0)),.t (.v (.int .i64 0)),.t (.v (.int .i64 0)),.t (.v (.int .i64 0)),.own [false] [],.own [false] [],.own [false] [],.own [false,false,false] [],.own [false,false] [],.own [false,false,false] [],.own [false,false,false,false,false,false,false,false,true,false,false] [],.own [false,false,false] [],.s ⟨#[]⟩],296⟩ (.node (.node (.node .nil 71 ⟨(.slice 99),[.own [false,false,false,false,false,false,false,true] []],24⟩ .nil) 72 ⟨(.struct [(0,40),(12,71)]),[.t (.v (.int .i64 0)),.b false,.t (.v (.int .i64 0)),.t (.v (.int .i64 0)),.t (.v (.int .i64 0)),.t (.v (.int .i64 0)),.own [false] [],.own [false] [],.own [false] [],.own [false,false,false] [],.own [false,false] [],.own [false,false,false] [],.own [false,false,false,false,false,false,false,true] []],216⟩ .nil) 73 ⟨(.struct [(0,40),(12,71)]),[.t (.v (.int .i64 0)),.b false,.t (.v (.int .i64 0)),.t (.v (.int .i64 0)),.t (.v (.int .i64 0)),.t (.v (.int .i64 0)),.own [false] [],.own [false] [],.own [false] [],.own [false,false,false] [],.own [false,false] [],.own [false,false,false] [],.own [false,false,false,false,false,false,false,true] []],216⟩ (.node .nil 77 ⟨(.slice 5),[.own [false] []],24⟩ .nil))))) 78 ⟨(.struct [(0,3),(1,3),(2,3),(3,9)]),[.t (.v (.int .i64 0)),.t (.v (.int .i64 0)),.t (.v (.int .i64 0)),.s ⟨#[]⟩],40⟩ (.node (.node (.node (.node (.node (.node .nil 79 ⟨(.struct [(0,3),(1,3),(2,3),(3,9)]),[.t (.v (.int .i64 0)),.t (.v (.int .i64 0)),.t (.v (.int .i64 0)),.s ⟨#[]⟩],40⟩ .nil) 87 ⟨(.struct [(0,3),(1,3),(2,22)]),[.t (.v (.int .i64 0)),.t (.v (.int .i64 0)),.own [false] []],40⟩ .nil) 88 ⟨(.struct [(0,3),(1,3),(2,22)]),[.t (.v (.int .i64 0)),.t (.v (.int .i64 0)),.own [false] []],40⟩ (.node (.node .nil 92 ⟨(.struct [(0,3),(1,3),(2,4),(3,3),(4,3),(5,3),(6,3),(7,3),(8,22),(9,9),(10,3)]),[.t (.v (.int .i64 0)),.t (.v (.int .i64 0)),.b false,.t (.v (.int .i64 0)),.t (.v (.int .i64 0)),.t (.v (.int .i64 0)),.t (.v (.int .i64 0)),.t (.v (.int .i64 0)),.own [false] [],.s ⟨#[]⟩,.t (.v (.int .i64 0))],112⟩ .nil) 93 ⟨(.struct [(0,3),(1,3),(2,4),(3,3),(4,3),(5,3),(6,3),(7,3),(8,22),(9,9),(10,3)]),[.t (.v (.int .i64 0)),.t (.v (.int .i64 0)),.b false,.t (.v (.int .i64 0)),.t (.v (.int .i64 0)),.t (.v (.int .i64 0)),.t (.v (.int .i64 0)),.t (.v (.int .i64 0)),.own [false] [],.s ⟨#[]⟩,.t (.v (.int .i64 0))],112⟩ .nil)) 98 ⟨(.struct [(0,3),(1,3),(2,3),(3,3),(4,3),(5,3),(6,9),(7,22)]),[.t (.v (.int .i64 0)),.t (.v (.int .i64 0)),.t (.v (.int .i64 0)),.t (.v (.int .i64 0)),.t (.v (.int .i64 0)),.t (.v (.int .i64 0)),.s ⟨#[]⟩,.own [false] []],88⟩ (.node (.node (.node .nil 99 ⟨(.struct [(0,3),(1,3),(2,3),(3,3),(4,3),(5,3),(6,9),(7,22)]),[.t (.v (.int .i64 0)),.t (.v (.int .i64 0)),.t (.v (.int .i64 0)),.t (.v (.int .i64 0)),.t (.v (.int .i64 0)),.t (.v (.int .i64 0)),.s ⟨#[]⟩,.own [false] []],88⟩ .nil) 100 ⟨(.slice 3),[.own [false] []],24⟩ .nil) 101 ⟨(.struct [(0,9),(1,3),(2,100)]),[.s ⟨#[]⟩,.t (.v (.int .i64 0)),.own [false] []],48⟩ (.node (.node .nil 102 ⟨(.struct [(0,9),(1,3),(2,100)]),[.s ⟨#[]⟩,.t (.v (.int .i64 0)),.own [false] []],48⟩ .nil) 103 ⟨(.struct [(0,93),(11,71)]),[.t (.v (.int .i64 0)),.t (.v (.int .i64 0)),.b false,.t (.v (.int .i64 0)),.t (.v (.int .i64 0)),.t (.v (.int .i64 0)),.t (.v (.int .i64 0)),.t (.v (.int .i64 0)),.own [false] [],.s ⟨#[]⟩,.t (.v (.int .i64 0)),.own [false,false,false,false,false,false,false,true] []],136⟩ .nil))) 104 ⟨(.struct [(0,93),(11,71)]),[.t (.v (.int .i64 0)),.t (.v (.int .i64 0)),.b false,.t (.v (.int .i64 0)),.t (.v (.int .i64 0)),.t (.v (.int .i64 0)),.t (.v (.int .i64 0)),.t (.v (.int .i64 0)),.own [false] [],.s ⟨#[]⟩,.t (.v (.int .i64 0)),.own [false,false,false,false,false,false,false,true] []],136⟩ (.node (.node (.node (.node .nil 145 ⟨(.struct [(0,3),(1,9),(2,9)]),[.t (.v (.int .i64 0)),.s ⟨#[]⟩,.s ⟨#[]⟩],40⟩ .nil) 146 ⟨(.struct [(0,3),(1,9),(2,9)]),[.t (.v (.int .i64 0)),.s ⟨#[]⟩,.s ⟨#[]⟩],40⟩ .nil) 152 ⟨(.slice 4),[.own [false] []],24⟩ (.node (.node .nil 154 ⟨(.struct [(0,3),(1,3),(2,3)]),[.t (.v (.int .i64 0)),.t (.v (.int .i64 0)),.t (.v (.int .i64 0))],24⟩ .nil) 155 ⟨(.struct [(0,3),(1,3),(2,3)]),[.t (.v (.int .i64 0)),.t (.v (.int .i64 0)),.t (.v (.int .i64 0))],24⟩ .nil)) 156 ⟨(.struct [(0,3),(1,3),(2,3)]),[.t (.v (.int .i64 0)),.t (.v (.int .i64 0)),.t (.v (.int .i64 0))],24⟩ (.node (.node (.node .nil 157 ⟨(.struct [(0,3),(1,3),(2,3)]),[.t (.v (.int .i64 0)),.t (.v (.int .i64 0)),.t (.v (.int .i64 0))],24⟩ .nil) 161 ⟨(.ptr 214),[.t (.v (.pointer none))],8⟩ .nil) 166 ⟨(.int .u64),[.t (.v (.int .u64 0))],8⟩ (.node .nil 183 ⟨(.struct [(0,9),(1,3),(2,100)]),[.s ⟨#[]⟩,.t (.v (.int .i64 0)),.own [false] []],48⟩ .nil)))) 184 ⟨(.struct [(0,4),(1,3)]),[.b false,.t (.v (.int .i64 0))],16⟩ (.node (.node (.node (.node (.node .nil 185 ⟨(.struct [(0,4),(1,3)]),[.b false,.t (.v (.int .i64 0))],16⟩ .nil) 188 ⟨(.struct [(0,3),(1,3),(2,3)]),[.t (.v (.int .i64 0)),.t (.v (.int .i64 0)),.t (.v (.int .i64 0))],24⟩ .nil) 190 ⟨(.struct [(0,4),(1,3)]),[.b false,.t (.v (.int .i64 0))],16⟩ (.node (.node .nil 192 ⟨(.struct [(0,3),(1,3),(2,3)]),[.t (.v (.int .i64 0)),.t (.v (.int .i64 0)),.t (.v (.int .i64 0))],24⟩ .nil) 194 ⟨(.map 3 4),[.t (.v (.map none))],8⟩ .nil)) 195 ⟨(.ptr 40),[.t (.v (.pointer none))],8⟩ (.node (.node (.node .nil 202 ⟨(.map 9 4),[.t (.v (.map none))],8⟩ .nil) 206 ⟨(.struct [(0,3),(1,3),(2,4),(3,3),(4,3),(5,3),(6,3),(7,3),(8,22),(9,9),(10,3)]),[.t (.v (.int .i64 0)),.t (.v (.int .i64 0)),.b false,.t (.v (.int .i64 0)),.t (.v (.int .i64 0)),.t (.v (.int .i64 0)),.t (.v (.int .i64 0)),.t (.v (.int .i64 0)),.own [false] [],.s ⟨#[]⟩,.t (.v (.int .i64 0))],112⟩ .nil) 208 ⟨(.struct [(0,3),(1,9),(2,9)]),[.t (.v (.int .i64 0)),.s ⟨#[]⟩,.s ⟨#[]⟩],40⟩ (.node .nil 213 ⟨(.struct [(0,77),(1,3)]),[.own [false] [],.t (.v (.int .i64 0))],32⟩ .nil))) 214 ⟨(.struct [(0,77),(1,3)]),[.own [false] [],.t (.v (.int .i64 0))],32⟩ (.node (.node (.node (.node .nil 221 ⟨(.int .u64),[.t (.v (.int .u64 0))],8⟩ .nil) 224 ⟨(.int .u64),[.t (.v (.int .u64 0))],8⟩ .nil) 227 ⟨(.ptr 224),[.t (.v (.pointer none))],8⟩ (.node (.node .nil 228 ⟨(.struct [(0,17),(1,17),(2,17),(3,9)]),[.t (.v (.pointer none)),.t (.v (.pointer none)),.t (.v (.pointer none)),.s ⟨#[]⟩],40⟩ .nil) 233 ⟨(.int .u32),[.t (.v (.int .u32 0))],4⟩ .nil)) 234 ⟨(.int .u8),[.t (.v (.int .u8 0))],1⟩ (.node (.node (.node .nil 235 ⟨(.int .u8),[.t (.v (.int .u8 0))],1⟩ .nil) 237 ⟨(.ptr 5),[.t (.v (.pointer none))],8⟩ .nil) 238 ⟨(.int .i32),[.t (.v (.int .i32 0))],4⟩ (.node .nil 239 ⟨(.int .i32),[.t (.v (.int .i32 0))],4⟩ .nil))))))
set_option maxRecDepth 10000 in
theorem E_ok:EnvOk Try.prog E:=by
 unfold E
 repeat (first | exact EnvOk.nil | refine EnvOk.node ?_ ⟨by kernel_rfl,by kernel_rfl,by simp,by simp [zcOk,sc],by simp [Ty.agg],by simp,by simp,by simp⟩ ?_)
def md (f:FuncId):List Md:=(bif Nat.blt f 93 then (bif Nat.blt f 48 then (bif Nat.blt f 25 then (bif Nat.blt f 14 then (bif Nat.blt f 8 then (bif Nat.blt f 5 then (bif Nat.blt f 4 then [.v,.v,.v] else [.v,.v]) else (bif Nat.blt f 6 then [.v,.v,.v] else (bif Nat.blt f 7 then [.v] else [.v]))) else (bif Nat.blt f 11 then (bif Nat.blt f 9 then [.v] else (bif Nat.blt f 10 then [.v,.v] else [.v])) else (bif Nat.blt f 12 then [.v] else (bif Nat.blt f 13 then [.v,.v] else [.v,.v])))) else (bif Nat.blt f 19 then (bif Nat.blt f 16 then (bif Nat.blt f 15 then [.v,.v,.v] else [.v]) else (bif Nat.blt f 17 then [.v] else (bif Nat.blt f 18 then [.v,.v,.v] else [.v,.v]))) else (bif Nat.blt f 22 then (bif Nat.blt f 20 then [.v,.v] else (bif Nat.blt f 21 then [.b,.v] else [.b,.v])) else (bif Nat.blt f 23 then [.v,.v] else (bif Nat.blt f 24 then [.v,.v] else [.v,.v]))))) else (bif Nat.blt f 36 then (bif Nat.blt f 30 then (bif Nat.blt f 27 then (bif Nat.blt f 26 then [.v,.v,.v] else [.v,.v,.v]) else (bif Nat.blt f 28 then [.v,.v] else (bif Nat.blt f 29 then [.b,.v] else [.v,.v]))) else (bif Nat.blt f 33 then (bif Nat.blt f 31 then [.v,.v] else (bif Nat.blt f 32 then [.v] else [.v])) else (bif Nat.blt f 34 then [.v] else (bif Nat.blt f 35 then [.v] else [.v])))) else (bif Nat.blt f 42 then (bif Nat.blt f 39 then (bif Nat.blt f 37 then [.v] else (bif Nat.blt f 38 then [.v] else [.v,.v])) else (bif Nat.blt f 40 then [.v,.v] else (bif Nat.blt f 41 then [.v,.v] else [.b,.v]))) else (bif Nat.blt f 45 then (bif Nat.blt f 43 then [.v,.v] else (bif Nat.blt f 44 then [.v] else [.v])) else (bif Nat.blt f 46 then [.v] else (bif Nat.blt f 47 then [.v] else [.v])))))) else (bif Nat.blt f 70 then (bif Nat.blt f 59 then (bif Nat.blt f 53 then (bif Nat.blt f 50 then (bif Nat.blt f 49 then [.v] else [.v]) else (bif Nat.blt f 51 then [.v,.v] else (bif Nat.blt f 52 then [.v,.v] else [.v,.v]))) else (bif Nat.blt f 56 then (bif Nat.blt f 54 then [.v] else (bif Nat.blt f 55 then [.v] else [.v])) else (bif Nat.blt f 57 then [.v] else (bif Nat.blt f 58 then [.v,.v,.v] else [.v,.v])))) else (bif Nat.blt f 64 then (bif Nat.blt f 61 then (bif Nat.blt f 60 then [.v,.v] else [.v,.v]) else (bif Nat.blt f 62 then [.v,.v] else (bif Nat.blt f 63 then [.v,.v] else [.v,.v]))) else (bif Nat.blt f 67 then (bif Nat.blt f 65 then [.v,.v] else (bif Nat.blt f 66 then [.v,.v] else [.v,.v])) else (bif Nat.blt f 68 then [.v,.v] else (bif Nat.blt f 69 then [.v] else [.v]))))) else (bif Nat.blt f 81 then (bif Nat.blt f 75 then (bif Nat.blt f 72 then (bif Nat.blt f 71 then [.v] else [.v]) else (bif Nat.blt f 73 then [.v] else (bif Nat.blt f 74 then [.v] else [.v]))) else (bif Nat.blt f 78 then (bif Nat.blt f 76 then [.v,.v] else (bif Nat.blt f 77 then [.v] else [.p,.v])) else (bif Nat.blt f 79 then [.v,.v] else (bif Nat.blt f 80 then [.v,.v] else [.v,.v])))) else (bif Nat.blt f 87 then (bif Nat.blt f 84 then (bif Nat.blt f 82 then [.v,.v] else (bif Nat.blt f 83 then [.v,.v] else [.v,.v])) else (bif Nat.blt f 85 then [.b,.v] else (bif Nat.blt f 86 then [.b,.v] else [.b,.v]))) else (bif Nat.blt f 90 then (bif Nat.blt f 88 then [.b,.v] else (bif Nat.blt f 89 then [.b,.v] else [.b,.v])) else (bif Nat.blt f 91 then [.v,.v] else (bif Nat.blt f 92 then [.v,.v] else [.v,.v]))))))) else (bif Nat.blt f 138 then (bif Nat.blt f 115 then (bif Nat.blt f 104 then (bif Nat.blt f 98 then (bif Nat.blt f 95 then (bif Nat.blt f 94 then [.v,.v] else [.v,.v]) else (bif Nat.blt f 96 then [.v,.v] else (bif Nat.blt f 97 then [.p,.v] else [.v,.v,.v]))) else (bif Nat.blt f 101 then (bif Nat.blt f 99 then [.v] else (bif Nat.blt f 100 then [.v] else [.v,.v,.v])) else (bif Nat.blt f 102 then [.v] else (bif Nat.blt f 103 then [.v,.v] else [.v,.v])))) else (bif Nat.blt f 109 then (bif Nat.blt f 106 then (bif Nat.blt f 105 then [.b,.v] else [.b,.v]) else (bif Nat.blt f 107 then [.v,.v] else (bif Nat.blt f 108 then [.v,.v] else [.v,.v]))) else (bif Nat.blt f 112 then (bif Nat.blt f 110 then [.v,.v] else (bif Nat.blt f 111 then [.v,.v] else [.v])) else (bif Nat.blt f 113 then [.v] else (bif Nat.blt f 114 then [.v] else [.v]))))) else (bif Nat.blt f 126 then (bif Nat.blt f 120 then (bif Nat.blt f 117 then (bif Nat.blt f 116 then [.v] else [.v]) else (bif Nat.blt f 118 then [.v] else (bif Nat.blt f 119 then [.mv,.v] else [.p,.v]))) else (bif Nat.blt f 123 then (bif Nat.blt f 121 then [.v,.v] else (bif Nat.blt f 122 then [.b,.v] else [.v,.v])) else (bif Nat.blt f 124 then [.v] else (bif Nat.blt f 125 then [.p] else [.p,.v])))) else (bif Nat.blt f 132 then (bif Nat.blt f 129 then (bif Nat.blt f 127 then [.v] else (bif Nat.blt f 128 then [.v] else [.p,.v])) else (bif Nat.blt f 130 then [.p] else (bif Nat.blt f 131 then [.p,.b] else [.p,.mv]))) else (bif Nat.blt f 135 then (bif Nat.blt f 133 then [.v,.v] else (bif Nat.blt f 134 then [.v,.v,.v] else [.p])) else (bif Nat.blt f 136 then [.v] else (bif Nat.blt f 137 then [.v] else [.v])))))) else (bif Nat.blt f 160 then (bif Nat.blt f 149 then (bif Nat.blt f 143 then (bif Nat.blt f 140 then (bif Nat.blt f 139 then [.v] else [.v]) else (bif Nat.blt f 141 then [.mv,.v,.v] else (bif Nat.blt f 142 then [.mv,.v] else [.v]))) else (bif Nat.blt f 146 then (bif Nat.blt f 144 then [.v,.v] else (bif Nat.blt f 145 then [.v,.v] else [.v])) else (bif Nat.blt f 147 then [.v] else (bif Nat.blt f 148 then [.v] else [.v])))) else (bif Nat.blt f 154 then (bif Nat.blt f 151 then (bif Nat.blt f 150 then [.v] else [.v]) else (bif Nat.blt f 152 then [.v,.v] else (bif Nat.blt f 153 then [.v,.v] else [.v,.v]))) else (bif Nat.blt f 157 then (bif Nat.blt f 155 then [.v,.v] else (bif Nat.blt f 156 then [.v] else [.b,.v])) else (bif Nat.blt f 158 then [.v] else (bif Nat.blt f 159 then [.v,.v] else [.v,.v]))))) else (bif Nat.blt f 171 then (bif Nat.blt f 165 then (bif Nat.blt f 162 then (bif Nat.blt f 161 then [.v,.v] else [.v,.v]) else (bif Nat.blt f 163 then [.v,.v] else (bif Nat.blt f 164 then [.v] else [.v]))) else (bif Nat.blt f 168 then (bif Nat.blt f 166 then [.v,.v] else (bif Nat.blt f 167 then [.v,.v] else [.v])) else (bif Nat.blt f 169 then [.v,.v] else (bif Nat.blt f 170 then [.p] else [.v])))) else (bif Nat.blt f 177 then (bif Nat.blt f 174 then (bif Nat.blt f 172 then [.v,.v] else (bif Nat.blt f 173 then [.p,.b] else [.p,.mv])) else (bif Nat.blt f 175 then [.v] else (bif Nat.blt f 176 then [.v,.v] else [.v,.v]))) else (bif Nat.blt f 180 then (bif Nat.blt f 178 then [.v,.v] else (bif Nat.blt f 179 then [.v] else [.v,.v])) else (bif Nat.blt f 181 then [.v,.v] else (bif Nat.blt f 182 then [.p,.v] else [.v]))))))))
def sq (t:TypeId):Bool:=Nat.beq t 79 || Nat.beq t 155
theorem sq_ok:∀ t,sq t = true → SqOk Try.prog t:=by
 intro t h
 simp only [sq,Bool.or_eq_true,Nat.beq_eq] at h
 rcases h with rfl | rfl
 all_goals exact ⟨by kernel_rfl,by kernel_rfl,by kernel_rfl,by kernel_rfl⟩
def F (f:FuncId) (xs:List A) (res:V) (outs:List (List V)):Prop:=Enters Try.prog f ∧ Tm.Fn Try.prog f xs res outs
def C:Cx:=⟨E,F,md,sq⟩
theorem C_ok:CxOk Try.prog C:=⟨E_ok,sq_ok,fun _ _ _ _ h=>h⟩
variable {nt id:Nat} {ops:Array Oper} {y:Code} {H:HD} {Q:Exit → HD → Prop}
theorem g (lo hi:Nat) (ans:List Ans) (h:evSH C nt ops ops.toList ans H fun p H=>dropH lo hi H fun H=>p ∧ W Try.prog nt y H Q):W Try.prog nt (.seq (.region id ops false) y) H Q:=W.sg C_ok lo hi ans h
theorem rg (ans:List Ans) (h:evSH C nt ops ops.toList ans H fun p H=>p ∧ Q .normal H):W Try.prog nt (.region id ops false) H Q:=W.rg C_ok ans h
theorem mixed:Try.prog.follows .mixedOrders = true:=by kernel_rfl
theorem gd (lo hi:Nat) (ans:List (List Ans)) (h:evEH C nt ops ops.toList ans H fun p r H=>dropH lo hi H fun H=>p ∧ chkE ops.toList r = true ∧ W Try.prog nt y H Q):W Try.prog nt (.seq (.region id ops true) y) H Q:=W.sgD C_ok mixed lo hi ans h
theorem rgd (ans:List (List Ans)) (h:evEH C nt ops ops.toList ans H fun p r H=>p ∧ chkE ops.toList r = true ∧ Q .normal H):W Try.prog nt (.region id ops true) H Q:=W.rgD C_ok mixed ans h
abbrev Q1 (res:V) (outs:List (List V)):V → List (List V) → Prop:=fun r o=>r = res ∧ o = outs
abbrev n_laws_FnWorker:FuncId:=11
theorem e_laws_FnWorker:Enters Try.prog 11:=⟨Try.f11,Try.func11,by kernel_rfl,by kernel_rfl⟩
theorem i_laws_FnWorker {xs:List A} {res:V} {outs:List (List V)} (hrun:forceH (iniH 230 xs) fun H=>W Try.prog 230 (bodyOf Try.f11) H (EndsW 230 E [(2,4,false)] xs (Q1 res outs))) (h:(okAs xs && Nat.ble xs.length 230) = true:=by rfl):F 11 xs res outs:=⟨e_laws_FnWorker,Fn.one Try.func11 rfl rfl E_ok rfl h hrun⟩
abbrev n_laws_wList:FuncId:=52
theorem e_laws_wList:Enters Try.prog 52:=⟨Try.f52,Try.func52,by kernel_rfl,by kernel_rfl⟩
theorem i_laws_wList {xs:List A} {res:V} {outs:List (List V)} (hrun:forceH (iniH 26 xs) fun H=>W Try.prog 26 (bodyOf Try.f52) H (EndsW 26 E [(4,4,false)] xs (Q1 res outs))) (h:(okAs xs && Nat.ble xs.length 26) = true:=by rfl):F 52 xs res outs:=⟨e_laws_wList,Fn.one Try.func52 rfl rfl E_ok rfl h hrun⟩
abbrev n_spec_DrawWorkerTick:FuncId:=53
theorem e_spec_DrawWorkerTick:Enters Try.prog 53:=⟨Try.f53,Try.func53,by kernel_rfl,by kernel_rfl⟩
abbrev n_spec_ValidWorker:FuncId:=54
theorem e_spec_ValidWorker:Enters Try.prog 54:=⟨Try.f54,Try.func54,by kernel_rfl,by kernel_rfl⟩
theorem i_spec_ValidWorker {xs:List A} {res:V} {outs:List (List V)} (hrun:forceH (iniH 129 xs) fun H=>W Try.prog 129 (bodyOf Try.f54) H (EndsW 129 E [(2,4,false)] xs (Q1 res outs))) (h:(okAs xs && Nat.ble xs.length 129) = true:=by rfl):F 54 xs res outs:=⟨e_spec_ValidWorker,Fn.one Try.func54 rfl rfl E_ok rfl h hrun⟩
abbrev n_spec_CheckPlan:FuncId:=55
theorem e_spec_CheckPlan:Enters Try.prog 55:=⟨Try.f55,Try.func55,by kernel_rfl,by kernel_rfl⟩
theorem i_spec_CheckPlan {xs:List A} {res:V} {outs:List (List V)} (hrun:forceH (iniH 120 xs) fun H=>W Try.prog 120 (bodyOf Try.f55) H (EndsW 120 E [(2,3,false)] xs (Q1 res outs))) (h:(okAs xs && Nat.ble xs.length 120) = true:=by rfl):F 55 xs res outs:=⟨e_spec_CheckPlan,Fn.one Try.func55 rfl rfl E_ok rfl h hrun⟩
abbrev n_impl_ValidWorker:FuncId:=56
theorem e_impl_ValidWorker:Enters Try.prog 56:=⟨Try.f56,Try.func56,by kernel_rfl,by kernel_rfl⟩
theorem i_impl_ValidWorker {xs:List A} {res:V} {outs:List (List V)} (hrun:forceH (iniH 124 xs) fun H=>W Try.prog 124 (bodyOf Try.f56) H (EndsW 124 E [(2,4,false)] xs (Q1 res outs))) (h:(okAs xs && Nat.ble xs.length 124) = true:=by rfl):F 56 xs res outs:=⟨e_impl_ValidWorker,Fn.one Try.func56 rfl rfl E_ok rfl h hrun⟩
abbrev n_impl_WorkerTake:FuncId:=57
theorem e_impl_WorkerTake:Enters Try.prog 57:=⟨Try.f57,Try.func57,by kernel_rfl,by kernel_rfl⟩
theorem i_impl_WorkerTake {xs:List A} {res:V} {outs:List (List V)} (hrun:forceH (iniH 22 xs) fun H=>W Try.prog 22 (bodyOf Try.f57) H (EndsW 22 E [(6,104,true)] xs (Q1 res outs))) (h:(okAs xs && Nat.ble xs.length 22) = true:=by rfl):F 57 xs res outs:=⟨e_impl_WorkerTake,Fn.one Try.func57 rfl rfl E_ok rfl h hrun⟩
abbrev n_impl_WorkerTick:FuncId:=58
theorem e_impl_WorkerTick:Enters Try.prog 58:=⟨Try.f58,Try.func58,by kernel_rfl,by kernel_rfl⟩
theorem i_impl_WorkerTick {xs:List A} {res:V} {outs:List (List V)} (hrun:forceH (iniH 18 xs) fun H=>W Try.prog 18 (bodyOf Try.f58) H (EndsW 18 E [(4,104,true)] xs (Q1 res outs))) (h:(okAs xs && Nat.ble xs.length 18) = true:=by rfl):F 58 xs res outs:=⟨e_impl_WorkerTick,Fn.one Try.func58 rfl rfl E_ok rfl h hrun⟩
abbrev n_spec_Value:FuncId:=59
theorem e_spec_Value:Enters Try.prog 59:=⟨Try.f59,Try.func59,by kernel_rfl,by kernel_rfl⟩
theorem i_spec_Value {xs:List A} {res:V} {outs:List (List V)} (hrun:forceH (iniH 26 xs) fun H=>W Try.prog 26 (bodyOf Try.f59) H (EndsW 26 E [(4,9,false)] xs (Q1 res outs))) (h:(okAs xs && Nat.ble xs.length 26) = true:=by rfl):F 59 xs res outs:=⟨e_spec_Value,Fn.one Try.func59 rfl rfl E_ok rfl h hrun⟩
abbrev n_laws_wMessage:FuncId:=60
theorem e_laws_wMessage:Enters Try.prog 60:=⟨Try.f60,Try.func60,by kernel_rfl,by kernel_rfl⟩
theorem i_laws_wMessage {xs:List A} {res:V} {outs:List (List V)} (hrun:forceH (iniH 59 xs) fun H=>W Try.prog 59 (bodyOf Try.f60) H (EndsW 59 E [(4,4,false)] xs (Q1 res outs))) (h:(okAs xs && Nat.ble xs.length 59) = true:=by rfl):F 60 xs res outs:=⟨e_laws_wMessage,Fn.one Try.func60 rfl rfl E_ok rfl h hrun⟩
abbrev n_spec_l2In:FuncId:=97
theorem e_spec_l2In:Enters Try.prog 97:=⟨Try.f97,Try.func97,by kernel_rfl,by kernel_rfl⟩
theorem i_spec_l2In {xs:List A} {res:V} {outs:List (List V)} (hrun:forceH (iniH 15 xs) fun H=>W Try.prog 15 (bodyOf Try.f97) H (EndsW 15 E [(6,4,false)] xs (Q1 res outs))) (h:(okAs xs && Nat.ble xs.length 15) = true:=by rfl):F 97 xs res outs:=⟨e_spec_l2In,Fn.one Try.func97 rfl rfl E_ok rfl h hrun⟩
abbrev n_spec_l1Plan:FuncId:=98
theorem e_spec_l1Plan:Enters Try.prog 98:=⟨Try.f98,Try.func98,by kernel_rfl,by kernel_rfl⟩
theorem i_spec_l1Plan {xs:List A} {res:V} {outs:List (List V)} (hrun:forceH (iniH 34 xs) fun H=>W Try.prog 34 (bodyOf Try.f98) H (EndsW 34 E [(2,45,true)] xs (Q1 res outs))) (h:(okAs xs && Nat.ble xs.length 34) = true:=by rfl):F 98 xs res outs:=⟨e_spec_l1Plan,Fn.one Try.func98 rfl rfl E_ok rfl h hrun⟩
abbrev n_impl_CheckPlan:FuncId:=99
theorem e_impl_CheckPlan:Enters Try.prog 99:=⟨Try.f99,Try.func99,by kernel_rfl,by kernel_rfl⟩
theorem i_impl_CheckPlan {xs:List A} {res:V} {outs:List (List V)} (hrun:forceH (iniH 91 xs) fun H=>W Try.prog 91 (bodyOf Try.f99) H (EndsW 91 E [(2,3,false)] xs (Q1 res outs))) (h:(okAs xs && Nat.ble xs.length 91) = true:=by rfl):F 99 xs res outs:=⟨e_impl_CheckPlan,Fn.one Try.func99 rfl rfl E_ok rfl h hrun⟩
abbrev n_impl_within:FuncId:=100
theorem e_impl_within:Enters Try.prog 100:=⟨Try.f100,Try.func100,by kernel_rfl,by kernel_rfl⟩
theorem i_impl_within {xs:List A} {res:V} {outs:List (List V)} (hrun:forceH (iniH 15 xs) fun H=>W Try.prog 15 (bodyOf Try.f100) H (EndsW 15 E [(6,4,false)] xs (Q1 res outs))) (h:(okAs xs && Nat.ble xs.length 15) = true:=by rfl):F 100 xs res outs:=⟨e_impl_within,Fn.one Try.func100 rfl rfl E_ok rfl h hrun⟩
abbrev n_spec_l1Open:FuncId:=123
theorem e_spec_l1Open:Enters Try.prog 123:=⟨Try.f123,Try.func123,by kernel_rfl,by kernel_rfl⟩
theorem i_spec_l1Open {xs:List A} {res:V} {outs:List (List V)} (hrun:forceH (iniH 11 xs) fun H=>W Try.prog 11 (bodyOf Try.f123) H (EndsW 11 E [(2,161,false)] xs (Q1 res outs))) (h:(okAs xs && Nat.ble xs.length 11) = true:=by rfl):F 123 xs res outs:=⟨e_spec_l1Open,Fn.one Try.func123 rfl rfl E_ok rfl h hrun⟩
abbrev n_spec_l1Rd_pick:FuncId:=125
theorem e_spec_l1Rd_pick:Enters Try.prog 125:=⟨Try.f125,Try.func125,by kernel_rfl,by kernel_rfl⟩
abbrev n_spec_l1Draw:FuncId:=129
theorem e_spec_l1Draw:Enters Try.prog 129:=⟨Try.f129,Try.func129,by kernel_rfl,by kernel_rfl⟩
abbrev n_spec_l1Spoil:FuncId:=131
theorem e_spec_l1Spoil:Enters Try.prog 131:=⟨Try.f131,Try.func131,by kernel_rfl,by kernel_rfl⟩
abbrev n_spec_l3Any:FuncId:=134
theorem e_spec_l3Any:Enters Try.prog 134:=⟨Try.f134,Try.func134,by kernel_rfl,by kernel_rfl⟩
abbrev n_spec_l2LeaseOk:FuncId:=135
theorem e_spec_l2LeaseOk:Enters Try.prog 135:=⟨Try.f135,Try.func135,by kernel_rfl,by kernel_rfl⟩
theorem i_spec_l2LeaseOk {xs:List A} {res:V} {outs:List (List V)} (hrun:forceH (iniH 5 xs) fun H=>W Try.prog 5 (bodyOf Try.f135) H (EndsW 5 E [(2,4,false)] xs (Q1 res outs))) (h:(okAs xs && Nat.ble xs.length 5) = true:=by rfl):F 135 xs res outs:=⟨e_spec_l2LeaseOk,Fn.one Try.func135 rfl rfl E_ok rfl h hrun⟩
abbrev n_spec_l2InputsOk:FuncId:=136
theorem e_spec_l2InputsOk:Enters Try.prog 136:=⟨Try.f136,Try.func136,by kernel_rfl,by kernel_rfl⟩
theorem i_spec_l2InputsOk {xs:List A} {res:V} {outs:List (List V)} (hrun:forceH (iniH 19 xs) fun H=>W Try.prog 19 (bodyOf Try.f136) H (EndsW 19 E [(2,4,false)] xs (Q1 res outs))) (h:(okAs xs && Nat.ble xs.length 19) = true:=by rfl):F 136 xs res outs:=⟨e_spec_l2InputsOk,Fn.one Try.func136 rfl rfl E_ok rfl h hrun⟩
abbrev n_spec_l1NameOk:FuncId:=137
theorem e_spec_l1NameOk:Enters Try.prog 137:=⟨Try.f137,Try.func137,by kernel_rfl,by kernel_rfl⟩
theorem i_spec_l1NameOk {xs:List A} {res:V} {outs:List (List V)} (hrun:forceH (iniH 28 xs) fun H=>W Try.prog 28 (bodyOf Try.f137) H (EndsW 28 E [(2,4,false)] xs (Q1 res outs))) (h:(okAs xs && Nat.ble xs.length 28) = true:=by rfl):F 137 xs res outs:=⟨e_spec_l1NameOk,Fn.one Try.func137 rfl rfl E_ok rfl h hrun⟩
abbrev n_impl_eights:FuncId:=138
theorem e_impl_eights:Enters Try.prog 138:=⟨Try.f138,Try.func138,by kernel_rfl,by kernel_rfl⟩
theorem i_impl_eights {xs:List A} {res:V} {outs:List (List V)} (hrun:forceH (iniH 18 xs) fun H=>W Try.prog 18 (bodyOf Try.f138) H (EndsW 18 E [(2,4,false)] xs (Q1 res outs))) (h:(okAs xs && Nat.ble xs.length 18) = true:=by rfl):F 138 xs res outs:=⟨e_impl_eights,Fn.one Try.func138 rfl rfl E_ok rfl h hrun⟩
abbrev n_impl_Worker_twin:FuncId:=139
theorem e_impl_Worker_twin:Enters Try.prog 139:=⟨Try.f139,Try.func139,by kernel_rfl,by kernel_rfl⟩
theorem i_impl_Worker_twin {xs:List A} {res:V} {outs:List (List V)} (hrun:forceH (iniH 8 xs) fun H=>W Try.prog 8 (bodyOf Try.f139) H (EndsW 8 E [(2,93,true)] xs (Q1 res outs))) (h:(okAs xs && Nat.ble xs.length 8) = true:=by rfl):F 139 xs res outs:=⟨e_impl_Worker_twin,Fn.one Try.func139 rfl rfl E_ok rfl h hrun⟩
abbrev n_impl_Worker_take:FuncId:=140
theorem e_impl_Worker_take:Enters Try.prog 140:=⟨Try.f140,Try.func140,by kernel_rfl,by kernel_rfl⟩
theorem i_impl_Worker_take {xs:List A} {res:V} {outs:List (List V)} (hrun:forceH (iniH 95 xs) fun H=>W Try.prog 95 (bodyOf Try.f140) H (EndsW 95 E [(6,93,true)] xs (Q1 res outs))) (h:(okAs xs && Nat.ble xs.length 95) = true:=by rfl):F 140 xs res outs:=⟨e_impl_Worker_take,Fn.one Try.func140 rfl rfl E_ok rfl h hrun⟩
abbrev n_impl_Worker_tick:FuncId:=141
theorem e_impl_Worker_tick:Enters Try.prog 141:=⟨Try.f141,Try.func141,by kernel_rfl,by kernel_rfl⟩
theorem i_impl_Worker_tick {xs:List A} {res:V} {outs:List (List V)} (hrun:forceH (iniH 75 xs) fun H=>W Try.prog 75 (bodyOf Try.f141) H (EndsW 75 E [(4,104,true)] xs (Q1 res outs))) (h:(okAs xs && Nat.ble xs.length 75) = true:=by rfl):F 141 xs res outs:=⟨e_impl_Worker_tick,Fn.one Try.func141 rfl rfl E_ok rfl h hrun⟩
abbrev n_spec_l1Sum:FuncId:=142
theorem e_spec_l1Sum:Enters Try.prog 142:=⟨Try.f142,Try.func142,by kernel_rfl,by kernel_rfl⟩
theorem i_spec_l1Sum {xs:List A} {res:V} {outs:List (List V)} (hrun:forceH (iniH 35 xs) fun H=>W Try.prog 35 (bodyOf Try.f142) H (EndsW 35 E [(2,9,false)] xs (Q1 res outs))) (h:(okAs xs && Nat.ble xs.length 35) = true:=by rfl):F 142 xs res outs:=⟨e_spec_l1Sum,Fn.one Try.func142 rfl rfl E_ok rfl h hrun⟩
abbrev n_impl_clone:FuncId:=150
theorem e_impl_clone:Enters Try.prog 150:=⟨Try.f150,Try.func150,by kernel_rfl,by kernel_rfl⟩
theorem i_impl_clone {xs:List A} {res:V} {outs:List (List V)} (hrun:forceH (iniH 6 xs) fun H=>W Try.prog 6 (bodyOf Try.f150) H (EndsW 6 E [(2,22,false)] xs (Q1 res outs))) (h:(okAs xs && Nat.ble xs.length 6) = true:=by rfl):F 150 xs res outs:=⟨e_impl_clone,Fn.one Try.func150 rfl rfl E_ok rfl h hrun⟩
abbrev n_impl_plain:FuncId:=157
theorem e_impl_plain:Enters Try.prog 157:=⟨Try.f157,Try.func157,by kernel_rfl,by kernel_rfl⟩
theorem i_impl_plain {xs:List A} {res:V} {outs:List (List V)} (hrun:forceH (iniH 28 xs) fun H=>W Try.prog 28 (bodyOf Try.f157) H (EndsW 28 E [(2,4,false)] xs (Q1 res outs))) (h:(okAs xs && Nat.ble xs.length 28) = true:=by rfl):F 157 xs res outs:=⟨e_impl_plain,Fn.one Try.func157 rfl rfl E_ok rfl h hrun⟩
abbrev n_impl_Value:FuncId:=165
theorem e_impl_Value:Enters Try.prog 165:=⟨Try.f165,Try.func165,by kernel_rfl,by kernel_rfl⟩
theorem i_impl_Value {xs:List A} {res:V} {outs:List (List V)} (hrun:forceH (iniH 22 xs) fun H=>W Try.prog 22 (bodyOf Try.f165) H (EndsW 22 E [(4,9,false)] xs (Q1 res outs))) (h:(okAs xs && Nat.ble xs.length 22) = true:=by rfl):F 165 xs res outs:=⟨e_impl_Value,Fn.one Try.func165 rfl rfl E_ok rfl h hrun⟩
abbrev n_spec_l1Bytes:FuncId:=169
theorem e_spec_l1Bytes:Enters Try.prog 169:=⟨Try.f169,Try.func169,by kernel_rfl,by kernel_rfl⟩
theorem i_spec_l1Bytes {xs:List A} {res:V} {outs:List (List V)} (hrun:forceH (iniH 7 xs) fun H=>W Try.prog 7 (bodyOf Try.f169) H (EndsW 7 E [(2,9,false)] xs (Q1 res outs))) (h:(okAs xs && Nat.ble xs.length 7) = true:=by rfl):F 169 xs res outs:=⟨e_spec_l1Bytes,Fn.one Try.func169 rfl rfl E_ok rfl h hrun⟩
abbrev n_spec_l1Dec:FuncId:=170
theorem e_spec_l1Dec:Enters Try.prog 170:=⟨Try.f170,Try.func170,by kernel_rfl,by kernel_rfl⟩
theorem i_spec_l1Dec {xs:List A} {res:V} {outs:List (List V)} (hrun:forceH (iniH 26 xs) fun H=>W Try.prog 26 (bodyOf Try.f170) H (EndsW 26 E [(2,9,false)] xs (Q1 res outs))) (h:(okAs xs && Nat.ble xs.length 26) = true:=by rfl):F 170 xs res outs:=⟨e_spec_l1Dec,Fn.one Try.func170 rfl rfl E_ok rfl h hrun⟩
abbrev n_spec_l1Many:FuncId:=171
theorem e_spec_l1Many:Enters Try.prog 171:=⟨Try.f171,Try.func171,by kernel_rfl,by kernel_rfl⟩
abbrev n_spec_l3Draw:FuncId:=172
theorem e_spec_l3Draw:Enters Try.prog 172:=⟨Try.f172,Try.func172,by kernel_rfl,by kernel_rfl⟩
abbrev n_spec_l3Spoil:FuncId:=173
theorem e_spec_l3Spoil:Enters Try.prog 173:=⟨Try.f173,Try.func173,by kernel_rfl,by kernel_rfl⟩
abbrev n_impl_Message_valid:FuncId:=174
theorem e_impl_Message_valid:Enters Try.prog 174:=⟨Try.f174,Try.func174,by kernel_rfl,by kernel_rfl⟩
theorem i_impl_Message_valid {xs:List A} {res:V} {outs:List (List V)} (hrun:forceH (iniH 108 xs) fun H=>W Try.prog 108 (bodyOf Try.f174) H (EndsW 108 E [(2,4,false)] xs (Q1 res outs))) (h:(okAs xs && Nat.ble xs.length 108) = true:=by rfl):F 174 xs res outs:=⟨e_impl_Message_valid,Fn.one Try.func174 rfl rfl E_ok rfl h hrun⟩
abbrev n_impl_Worker_freed:FuncId:=175
theorem e_impl_Worker_freed:Enters Try.prog 175:=⟨Try.f175,Try.func175,by kernel_rfl,by kernel_rfl⟩
theorem i_impl_Worker_freed {xs:List A} {res:V} {outs:List (List V)} (hrun:forceH (iniH 13 xs) fun H=>W Try.prog 13 (bodyOf Try.f175) H (EndsW 13 E [(4,93,true)] xs (Q1 res outs))) (h:(okAs xs && Nat.ble xs.length 13) = true:=by rfl):F 175 xs res outs:=⟨e_impl_Worker_freed,Fn.one Try.func175 rfl rfl E_ok rfl h hrun⟩
abbrev n_impl_Worker_tell:FuncId:=176
theorem e_impl_Worker_tell:Enters Try.prog 176:=⟨Try.f176,Try.func176,by kernel_rfl,by kernel_rfl⟩
theorem i_impl_Worker_tell {xs:List A} {res:V} {outs:List (List V)} (hrun:forceH (iniH 26 xs) fun H=>W Try.prog 26 (bodyOf Try.f176) H (EndsW 26 E [(4,99,true)] xs (Q1 res outs))) (h:(okAs xs && Nat.ble xs.length 26) = true:=by rfl):F 176 xs res outs:=⟨e_impl_Worker_tell,Fn.one Try.func176 rfl rfl E_ok rfl h hrun⟩
abbrev n_impl_hash_bytes:FuncId:=181
theorem e_impl_hash_bytes:Enters Try.prog 181:=⟨Try.f181,Try.func181,by kernel_rfl,by kernel_rfl⟩
theorem i_impl_hash_bytes {xs:List A} {res:V} {outs:List (List V)} (hrun:forceH (iniH 22 xs) fun H=>W Try.prog 22 (bodyOf Try.f181) H (EndsW 22 E [] xs (Q1 res outs))) (h:(okAs xs && Nat.ble xs.length 22) = true:=by rfl):F 181 xs res outs:=⟨e_impl_hash_bytes,Fn.one Try.func181 rfl rfl E_ok rfl h hrun⟩
abbrev n_impl_hash_text:FuncId:=182
theorem e_impl_hash_text:Enters Try.prog 182:=⟨Try.f182,Try.func182,by kernel_rfl,by kernel_rfl⟩
theorem i_impl_hash_text {xs:List A} {res:V} {outs:List (List V)} (hrun:forceH (iniH 23 xs) fun H=>W Try.prog 23 (bodyOf Try.f182) H (EndsW 23 E [(2,9,false)] xs (Q1 res outs))) (h:(okAs xs && Nat.ble xs.length 23) = true:=by rfl):F 182 xs res outs:=⟨e_impl_hash_text,Fn.one Try.func182 rfl rfl E_ok rfl h hrun⟩
end Go.K
end
section
set_option linter.unusedVariables false
set_option linter.unusedSimpArgs false
set_option maxHeartbeats 4000000
set_option maxRecDepth 20000
open Go Go.Tm Go.Proofs
namespace Go.K
structure Entry where
 kind:Int
 epoch:Int
 task:Int
 text:ByteArray
 deriving DecidableEq
abbrev entryV (k ep ta:Int) (tx:ByteArray):V:=.agg [.t (.i k),.t (.i ep),.t (.i ta),.t (.s tx)]
abbrev Entry.v (e:Entry):V:=entryV e.kind e.epoch e.task e.text
theorem c_impl_within (x lo hi:Int):F n_impl_within [.val (.i x),.val (.i lo),.val (.i hi)] (.b (decide (lo ≤ x ∧ x ≤ hi))) [[],[],[]]:=by
 refine i_impl_within ?_
 conv=>whnf
 refine g 0 0 [] ?_
 conv=>whnf
 refine ⟨⟨I,I⟩,?_⟩
 by_cases h1:lo ≤ x
 refine g 7 15 [.b (true),.b (true),.b (true),.b (true)] ?_
 conv=>whnf
 refine ⟨⟨I,I,I,I,⟨dT (by omega),I⟩,⟨dT (by omega),I⟩,⟨dT (by omega),I⟩,dT (by omega),I,I⟩,?_⟩
 refine W.ret ?_
 refine EndsW.rt ?_
 conv=>whnf
 refine ⟨⟨I,I,I⟩,?_,rfl⟩
 exact vbd (by omega)
 refine g 7 15 [.b (false),.b (false),.b (false),.b (false)] ?_
 conv=>whnf
 refine ⟨⟨I,I,I,I,dF (by omega),dF (by omega),dF (by omega),dF (by omega),I,I⟩,?_⟩
 refine W.ret ?_
 refine EndsW.rt ?_
 conv=>whnf
 refine ⟨⟨I,I,I⟩,?_,rfl⟩
 exact vbf (by omega)
theorem c_spec_l2In (x lo hi:Int):F n_spec_l2In [.val (.i x),.val (.i lo),.val (.i hi)] (.b (decide (lo ≤ x ∧ x ≤ hi))) [[],[],[]]:=by
 refine i_spec_l2In ?_
 conv=>whnf
 refine g 0 0 [] ?_
 conv=>whnf
 refine ⟨⟨I,I⟩,?_⟩
 by_cases h1:lo ≤ x
 refine g 7 15 [.b (true),.b (true),.b (true),.b (true)] ?_
 conv=>whnf
 refine ⟨⟨I,I,I,I,⟨dT (by omega),I⟩,⟨dT (by omega),I⟩,⟨dT (by omega),I⟩,dT (by omega),I,I⟩,?_⟩
 refine W.ret ?_
 refine EndsW.rt ?_
 conv=>whnf
 refine ⟨⟨I,I,I⟩,?_,rfl⟩
 exact vbd (by omega)
 refine g 7 15 [.b (false),.b (false),.b (false),.b (false)] ?_
 conv=>whnf
 refine ⟨⟨I,I,I,I,dF (by omega),dF (by omega),dF (by omega),dF (by omega),I,I⟩,?_⟩
 refine W.ret ?_
 refine EndsW.rt ?_
 conv=>whnf
 refine ⟨⟨I,I,I⟩,?_,rfl⟩
 exact vbf (by omega)
end Go.K
end
section
set_option linter.unusedVariables false
set_option linter.unusedSimpArgs false
set_option maxHeartbeats 4000000
set_option maxRecDepth 20000
open Go Go.Tm Go.Proofs
namespace Go.K
def Entry.ok (e:Entry):Prop:=(1 ≤ e.epoch ∧ e.epoch ≤ 300) ∧ (0 ≤ e.task ∧ e.task ≤ 39) ∧ ((e.kind = 1 ∧ e.task = 0 ∧ e.text = ⟨#[]⟩) ∨ (e.kind = 2 ∧ (e.text.size:Int) = 8))
instance (e:Entry):Decidable e.ok:=by unfold Entry.ok; infer_instance
abbrev emp:ByteArray:=⟨#[]⟩
def bl (l:List Int):ByteArray:=⟨(l.map fun n=>UInt8.ofNat n.toNat).toArray⟩
end Go.K
end
section
set_option linter.unusedVariables false
set_option linter.unusedSimpArgs false
set_option maxHeartbeats 4000000
set_option maxRecDepth 20000
open Go Go.Tm Go.Proofs
namespace Go.K
abbrev strT (s:ByteArray):List T:=[.s s]
abbrev strs (xs:List ByteArray):T:=.slc [false] (xs.map strT)
end Go.K
end
section
set_option linter.unusedVariables false
set_option linter.unusedSimpArgs false
set_option maxHeartbeats 4000000
set_option maxRecDepth 20000
open Go Go.Tm Go.Proofs
namespace Go.K
abbrev u8v (n:Int):V:=.t (.v (.int .u64 n))
def fnv (v:Int) (c:UInt8):Int:=IntKind.u64.wrap (IntKind.u64.wrap (BitVec.ofInt IntKind.u64.bits v ^^^ BitVec.ofInt IntKind.u64.bits (c.toNat:Int)).toNat * 1099511628211)
def fnvs (v:Int) (s:ByteArray) (n:Nat):Int:=(s.data.toList.take n).foldl fnv v
theorem ba_get {s:ByteArray} {n:Nat} {c:UInt8} (h:s[n]? = some c):s.data.toList[n]? = some c:=by
 by_cases hn:n < s.size
 ·rw [getElem?_pos s n hn] at h
  have hd:n < s.data.toList.length:=by simpa using hn
  rw [List.getElem?_eq_getElem hd]
  rw [← h]; simp; rfl
 ·rw [getElem?_neg s n hn] at h; cases h
theorem fnvs_succ {v:Int} {s:ByteArray} {n:Nat} {c:UInt8} (h:s[n]? = some c):fnvs v s (n + 1) = fnv (fnvs v s n) c:=by
 unfold fnvs
 rw [List.take_add_one,ba_get h,List.foldl_append]; rfl
theorem fnv_bd (v:Int) (c:UInt8):0 ≤ fnv v c ∧ fnv v c ≤ 18446744073709551615:=u64_bd _
theorem fold_bd:∀ (l:List UInt8) (v:Int),0 ≤ v ∧ v ≤ 18446744073709551615 → 0 ≤ l.foldl fnv v ∧ l.foldl fnv v ≤ 18446744073709551615
 | [],_,h=>h
 | c :: l,v,_=>fold_bd l (fnv v c) (fnv_bd v c)
theorem c_impl_hash_bytes (v:Int) (tx:ByteArray) (hs:tx.size ≤ 9223372036854775807):F n_impl_hash_bytes [.ptr [u8v v],.val (.s tx)] (.tup []) [[u8v (fnvs v tx tx.size)],[]]:=by
 refine i_impl_hash_bytes ?_
 conv=>whnf
 refine g 0 0 [] ?_
 conv=>whnf
 refine ⟨⟨I,I⟩,?_⟩
 refine W.blk ?_
 refine W.lp (fun s (n:Nat)=>⟨[(0,s.s 0),(1,s.s 1),(4,.i n)],[(22,[u8v (fnvs v tx n)])],[]⟩) (fun (n:Nat)=>n ≤ tx.size) (fun (n:Nat)=>tx.size - n) (0) [some 22] [] ⟨rfl,⟨rfl,rfl,rfl,I⟩,⟨⟨rfl,⟨rfl,I⟩⟩,I⟩,I⟩ (by omega) ?_
 intro n hn
 conv=>whnf
 refine W.sq ?_
 refine g 5 8 [] ?_
 conv=>whnf
 refine ⟨⟨I,I,I,I,I⟩,?_⟩
 refine W.cn ?_
 conv=>whnf
 refine ⟨fun h1=>?_,fun h1=>?_⟩
 replace h1:=dt h1
 refine W.skip ?_
 refine W.sq ?_
 refine W.blk ?_
 obtain ⟨y1,hy1,hb1⟩:=byte_at (s:=tx) (n:=n) (by omega)
 refine rgd [[],[],[],[],[],[],[.i ((↑(UInt8.toNat y1):Int))],[.i ((↑(UInt8.toNat y1):Int))],[.i (IntKind.wrap IntKind.u64 (↑(BitVec.toNat (BitVec.ofInt (IntKind.bits IntKind.u64) (fnvs v tx n) ^^^ BitVec.ofInt (IntKind.bits IntKind.u64) (↑(UInt8.toNat y1):Int))):Int))],[.i (IntKind.wrap IntKind.u64 (IntKind.wrap IntKind.u64 (↑(BitVec.toNat (BitVec.ofInt (IntKind.bits IntKind.u64) (fnvs v tx n) ^^^ BitVec.ofInt (IntKind.bits IntKind.u64) (↑(UInt8.toNat y1):Int))):Int) * (1099511628211:Int)))],[],[]] ?_
 conv=>whnf
 refine ⟨⟨I,I,I,I,I,I,⟨(by omega),ixb (by assumption)⟩,w8u _,rfl,rfl,I,⟨I,I⟩,I⟩,by kernel_rfl,?_⟩
 refine rg [.i ((↑n:Int) + (1:Int))] ?_
 conv=>whnf
 refine ⟨⟨I,w64 (by omega) (by omega),I,I⟩,?_⟩
 rotate_left 1
 replace h1:=df h1
 refine W.exit ?_
 refine EndsW.nm ?_
 conv=>whnf
 refine ⟨I,?_,?_⟩
 rfl
 rotate_left 1
 ·refine ⟨n + 1,[some 22],[],⟨rfl,⟨rfl,rfl,rfl,I⟩,⟨⟨rfl,⟨(congrArg (fun z=>V.t (T.v (Value.int _ z))) (fnvs_succ (by assumption)).symm),I⟩⟩,I⟩,I⟩,?_,?_⟩
  rotate_left 1
  (dsimp only; omega)
  dsimp only
  omega
 ·rw [show n = tx.size from by omega]
/-- The bytes of a number, the greatest first. -/
def beL (v:Int):Nat → List Int
 | 0=>[]
 | n + 1=>(v / 256 ^ n % 256) :: beL v n
abbrev b1T (n:Int):List T:=[.v (.int .u8 n)]
theorem beL_len (v:Int):∀ n,(beL v n).length = n
 | 0=>rfl
 | n + 1=>by simp [beL,beL_len v n]
theorem beL_get (v:Int):∀ n i,i < n → (beL v n)[i]? = some (v / 256 ^ (n - 1 - i) % 256)
 | 0,_,h=>by omega
 | n + 1,0,_=>by simp [beL]
 | n + 1,i + 1,h=>by
   simp only [beL,List.getElem?_cons_succ]
   rw [beL_get v n i (by omega)]
   congr 3
   congr 1
   omega
theorem text_set {v:Int} {n:Nat} (h0:0 ≤ v) (hn:n < 8):(fill b1T (b1T 0) (beL v 8) n).set n (b1T (IntKind.u8.wrap (v.fdiv (2 ^ min (56 - 8 * (n:Int)).toNat IntKind.u64.bits)))) = fill b1T (b1T 0) (beL v 8) (n + 1):=by
 have e:IntKind.u8.wrap (v.fdiv (2 ^ min (56 - 8 * (n:Int)).toNat IntKind.u64.bits)) = v / 256 ^ (8 - 1 - n) % 256:=by
  rw [Int.fdiv_eq_ediv_of_nonneg _ (by exact Int.le_of_lt (Int.pow_pos (by decide)))]
  have:n = 0 ∨ n = 1 ∨ n = 2 ∨ n = 3 ∨ n = 4 ∨ n = 5 ∨ n = 6 ∨ n = 7:=by omega
  rcases this with rfl | rfl | rfl | rfl | rfl | rfl | rfl | rfl <;> simp [IntKind.wrap,IntKind.bits,IntKind.signed]
 rw [e]
 exact fill_set (beL_get v 8 n hn)
theorem bytes_b1 (l:List Int):(⟨(bytesOf (l.map b1T)).toArray⟩:ByteArray) = bl l:=by
 simp [bytesOf,bl,b1T,Function.comp_def]
theorem c_impl_hash_text (v:Int) (h0:0 ≤ v) (h1:v ≤ 18446744073709551615):F n_impl_hash_text [.val (u8v v)] (.s (bl (beL v 8))) [[]]:=by
 have hx:=beL_len v 8
 refine i_impl_hash_text ?_
 conv=>whnf
 refine g 0 0 [] ?_
 conv=>whnf
 refine ⟨⟨I,I⟩,?_⟩
 refine g 5 6 [.n ((8:Nat))] ?_
 conv=>whnf
 refine ⟨⟨⟨rfl,rfl,(by simp only [lens]; omega)⟩,I,I⟩,?_⟩
 refine W.sq ?_
 refine g 6 7 [] ?_
 conv=>whnf
 refine ⟨⟨I,I,I,I⟩,?_⟩
 refine W.blk ?_
 refine W.lp (fun s (n:Nat)=>⟨[(0,s.s 0),(2,s.s 2),(3,s.s 3),(7,s.s 7),(8,.i n)],[(5,[.own [false] (fill b1T (b1T 0) (beL v 8) n)])],[]⟩) (fun (n:Nat)=>n ≤ 8) (fun (n:Nat)=>8 - n) (0) [some 5] [] ⟨rfl,⟨rfl,rfl,rfl,rfl,rfl,I⟩,⟨⟨rfl,⟨rfl,I⟩⟩,I⟩,I⟩ (by omega) ?_
 intro n hn
 conv=>whnf
 refine g 0 0 [] ?_
 conv=>whnf
 refine ⟨⟨I,I⟩,?_⟩
 refine W.sq ?_
 refine W.cn ?_
 conv=>whnf
 refine ⟨fun h2=>?_,fun h2=>?_⟩
 replace h2:=dt h2
 simp only [List.length_map] at h2
 simp only [lens] at h2
 refine W.skip ?_
 refine W.sq ?_
 refine W.blk ?_
 refine g 10 11 [] ?_
 conv=>whnf
 refine ⟨⟨I,I,I⟩,?_⟩
 refine rg [.i ((8:Int) * (↑n:Int)),.i ((56:Int) - (8:Int) * (↑n:Int)),.i (Int.fdiv v ((2:Int) ^ min (Int.toNat ((56:Int) - (8:Int) * (↑n:Int))) (IntKind.bits IntKind.u64))),.i (IntKind.wrap IntKind.u8 (Int.fdiv v ((2:Int) ^ min (Int.toNat ((56:Int) - (8:Int) * (↑n:Int))) (IntKind.bits IntKind.u64)))),.n (n),.x (b1T (0:Int))] ?_
 conv=>whnf
 refine ⟨⟨I,I,I,I,w64 (by omega) (by omega),w64 (by omega) (by omega),⟨(by omega),rfl⟩,rfl,⟨rfl,(by simp only [lens]; omega)⟩,⟨⟨I,I⟩,fill_get (by omega)⟩,I⟩,?_⟩
 refine rg [.i ((↑n:Int) + (1:Int))] ?_
 conv=>whnf
 refine ⟨⟨w64 (by omega) (by omega),I,I⟩,?_⟩
 rotate_left 1
 replace h2:=df h2
 simp only [List.length_map] at h2
 simp only [lens] at h2
 refine W.exit ?_
 refine g 3 9 [.s ({ data:=List.toArray (bytesOf (fill b1T (b1T (0:Int)) (beL v (8:Nat)) n)):ByteArray })] ?_
 conv=>whnf
 refine ⟨⟨I,⟨I,allU8_fill,rfl⟩,I,I⟩,?_⟩
 refine W.ret ?_
 refine EndsW.rt ?_
 conv=>whnf
 refine ⟨⟨I,I,I⟩,?_,rfl⟩
 rotate_left 1
 ·refine ⟨n + 1,[some 5],[],⟨rfl,⟨rfl,rfl,rfl,rfl,rfl,I⟩,⟨⟨rfl,⟨(congrArg (V.own _) (text_set h0 (by omega))),I⟩⟩,I⟩,I⟩,?_,?_⟩
  rotate_left 1
  (dsimp only; omega)
  dsimp only
  omega
 ·rw [fill_all _ _ _ (by omega)]
  exact vs (bytes_b1 _)
theorem sum_step {v:Int} {n:Nat} (h0:0 ≤ v):[b1T (IntKind.u8.wrap ((v / 256 ^ n).tmod 256))] ++ (beL v n).map b1T = (beL v (n + 1)).map b1T:=by
 have h1:0 ≤ v / 256 ^ n:=Int.ediv_nonneg h0 (Int.le_of_lt (Int.pow_pos (by decide)))
 rw [Int.tmod_eq_emod_of_nonneg h1]
 have h2:IntKind.u8.wrap (v / 256 ^ n % 256) = v / 256 ^ n % 256:=wu8 (by omega) (by omega)
 rw [h2]; rfl
theorem sum_div {v:Int} {n:Nat} (h0:0 ≤ v) (h2:v ≤ 18446744073709551615):IntKind.u64.wrap ((v / 256 ^ n).tdiv 256) = v / 256 ^ (n + 1):=by
 have h1:0 ≤ v / 256 ^ n:=Int.ediv_nonneg h0 (Int.le_of_lt (Int.pow_pos (by decide)))
 have h3:v / 256 ^ n ≤ v:=Int.ediv_le_self _ h0
 rw [Int.tdiv_eq_ediv_of_nonneg h1,wu64 (by omega) (by omega),Int.ediv_ediv_of_nonneg (Int.le_of_lt (Int.pow_pos (by decide))),Int.pow_succ]
def h0v:Int:=14695981039346656037
theorem c_spec_l1Sum (tx:ByteArray) (ht:tx.size ≤ 9223372036854775807):F n_spec_l1Sum [.val (.s tx)] (.s (bl (beL (fnvs h0v tx tx.size) 8))) [[]]:=by
 refine i_spec_l1Sum ?_
 conv=>whnf
 refine g 0 0 [] ?_
 conv=>whnf
 refine ⟨⟨I,I⟩,?_⟩
 refine g 0 0 [] ?_
 conv=>whnf
 refine ⟨⟨I,I⟩,?_⟩
 refine W.sq ?_
 refine g 0 0 [] ?_
 conv=>whnf
 refine ⟨⟨I,I⟩,?_⟩
 refine W.blk ?_
 refine W.lp (fun s (n:Nat)=>⟨[(0,s.s 0),(2,s.s 2),(3,u8v (fnvs h0v tx n)),(4,.i n)],[],[]⟩) (fun (n:Nat)=>n ≤ tx.size) (fun (n:Nat)=>tx.size - n) (0) [] [] ⟨rfl,⟨rfl,rfl,rfl,rfl,I⟩,I,I⟩ (by omega) ?_
 intro n hn
 conv=>whnf
 refine W.sq ?_
 refine g 7 9 [] ?_
 conv=>whnf
 refine ⟨⟨I,I,I,I,I⟩,?_⟩
 refine W.cn ?_
 conv=>whnf
 refine ⟨fun h1=>?_,fun h1=>?_⟩
 replace h1:=dt h1
 refine W.skip ?_
 refine W.sq ?_
 refine W.blk ?_
 obtain ⟨y1,hy1,hb1⟩:=byte_at (s:=tx) (n:=n) (by omega)
 refine rg [.i ((↑(UInt8.toNat y1):Int)),.i ((↑(UInt8.toNat y1):Int)),.i (IntKind.wrap IntKind.u64 (↑(BitVec.toNat (BitVec.ofInt (IntKind.bits IntKind.u64) (fnvs h0v tx n) ^^^ BitVec.ofInt (IntKind.bits IntKind.u64) (↑(UInt8.toNat y1):Int))):Int)),.i (IntKind.wrap IntKind.u64 (IntKind.wrap IntKind.u64 (↑(BitVec.toNat (BitVec.ofInt (IntKind.bits IntKind.u64) (fnvs h0v tx n) ^^^ BitVec.ofInt (IntKind.bits IntKind.u64) (↑(UInt8.toNat y1):Int))):Int) * (1099511628211:Int)))] ?_
 conv=>whnf
 refine ⟨⟨I,I,I,⟨(by omega),ixb (by assumption)⟩,w8u _,rfl,rfl,I,I⟩,?_⟩
 refine rg [.i ((↑n:Int) + (1:Int))] ?_
 conv=>whnf
 refine ⟨⟨I,w64 (by omega) (by omega),I,I⟩,?_⟩
 rotate_left 1
 replace h1:=df h1
 refine W.exit ?_
 refine g 10 21 [] ?_
 conv=>whnf
 refine ⟨⟨I,I,I⟩,?_⟩
 refine W.sq ?_
 refine g 4 5 [] ?_
 conv=>whnf
 refine ⟨⟨I,I⟩,?_⟩
 refine W.blk ?_
 rotate_left 1
 ·refine ⟨n + 1,[],[],⟨rfl,⟨rfl,rfl,(congrArg (fun z=>V.t (T.v (Value.int _ z))) (fnvs_succ (by assumption)).symm),rfl,I⟩,I,I⟩,?_,?_⟩
  rotate_left 1
  (dsimp only; omega)
  dsimp only
  omega
 have e:n = tx.size:=by omega
 subst e
 have hb:0 ≤ fnvs h0v tx tx.size ∧ fnvs h0v tx tx.size ≤ 18446744073709551615:=fold_bd _ _ (by unfold h0v; omega)
 generalize fnvs h0v tx tx.size = v at hb ⊢
 obtain ⟨hb0,hb1⟩:=hb
 refine W.lp (fun s (n:Nat)=>⟨[(0,s.s 0),(2,s.s 2),(3,u8v (v / 256 ^ n)),(5,.ref ⟨5,none,0⟩),(6,.i n),(9,s.s 9)],[(5,[.own [false] ((beL v n).map b1T)])],[]⟩) (fun (n:Nat)=>n ≤ 8) (fun (n:Nat)=>8 - n) (0) [some 20] [] ⟨rfl,⟨rfl,rfl,(congrArg (fun z=>V.t (T.v (Value.int _ z))) (by omega)),rfl,rfl,rfl,I⟩,⟨⟨rfl,⟨rfl,I⟩⟩,I⟩,I⟩ (by omega) ?_
 intro n hn2
 have hx:=beL_len v n
 conv=>whnf
 refine W.sq ?_
 refine g 21 22 [] ?_
 conv=>whnf
 refine ⟨⟨I,I,I⟩,?_⟩
 refine W.cn ?_
 conv=>whnf
 refine ⟨fun h2=>?_,fun h2=>?_⟩
 replace h2:=dt h2
 refine W.skip ?_
 refine W.sq ?_
 refine W.blk ?_
 refine g 22 31 [.i (Int.tmod (v / (256:Int) ^ n) (256:Int)),.i (IntKind.wrap IntKind.u8 (Int.tmod (v / (256:Int) ^ n) (256:Int)))] ?_
 conv=>whnf
 refine ⟨⟨I,⟨(by omega),rfl⟩,rfl,⟨⟨I,I⟩,I⟩,I,⟨I,I,(by simp only [lens]; omega)⟩,I,I⟩,?_⟩
 refine rg [.i (IntKind.wrap IntKind.u64 (Int.tdiv (v / (256:Int) ^ n) (256:Int)))] ?_
 conv=>whnf
 refine ⟨⟨I,⟨(by omega),rfl⟩,I,I⟩,?_⟩
 refine rg [.i ((↑n:Int) + (1:Int))] ?_
 conv=>whnf
 refine ⟨⟨I,w64 (by omega) (by omega),I,I⟩,?_⟩
 rotate_left 1
 replace h2:=df h2
 refine W.exit ?_
 refine g 3 7 [.s ({ data:=List.toArray (bytesOf (List.map b1T (beL v n))):ByteArray })] ?_
 conv=>whnf
 refine ⟨⟨I,⟨I,allU8_map,rfl⟩,I,I⟩,?_⟩
 refine W.ret ?_
 refine EndsW.rt ?_
 conv=>whnf
 refine ⟨⟨I,I,I⟩,?_,rfl⟩
 rotate_left 1
 ·refine ⟨n + 1,[some 30],[],⟨rfl,⟨rfl,rfl,(congrArg (fun z=>V.t (T.v (Value.int _ z))) (sum_div hb0 hb1)),rfl,rfl,rfl,I⟩,⟨⟨rfl,⟨(congrArg (V.own _) (sum_step hb0)),I⟩⟩,I⟩,I⟩,?_,?_⟩
  rotate_left 1
  (dsimp only; omega)
  dsimp only
  omega
 ·rw [show n = 8 from by omega]
  exact vs (bytes_b1 _)
/-- The name and the inputs, each behind a null byte. -/
def catV (nm:ByteArray) (xs:List ByteArray) (n:Nat):ByteArray:=(xs.take n).foldl (fun a s=>a ++ (⟨#[0]⟩ ++ s)) nm
theorem catV_succ {nm:ByteArray} {xs:List ByteArray} {n:Nat} {x:ByteArray} (h:xs[n]? = some x):catV nm xs (n + 1) = catV nm xs n ++ (⟨#[0]⟩ ++ x):=by
 unfold catV; rw [List.take_add_one,h,List.foldl_append]; rfl
theorem fold_size:∀ (l:List ByteArray) (nm:ByteArray),((l.foldl (fun a s=>a ++ (⟨#[0]⟩ ++ s)) nm).size:Int) = nm.size + totS l + l.length
 | [],nm=>by simp [totS]
 | s :: l,nm=>by
   rw [List.foldl_cons,fold_size l]
   have:(⟨#[0]⟩:ByteArray).size = 1:=rfl
   simp only [ByteArray.size_append,totS,List.length_cons,this]; omega
theorem catV_size (nm:ByteArray) (xs:List ByteArray) (n:Nat) (h:n ≤ xs.length):((catV nm xs n).size:Int) = nm.size + totS (xs.take n) + n:=by
 unfold catV; rw [fold_size,List.length_take,Nat.min_eq_left h]
theorem cat_step {nm:ByteArray} {xs:List ByteArray} {n:Nat} {x:ByteArray} (h:xs[n]? = some x):bytesT (catV nm xs n) ++ [[.v (.int .u8 0)]] ++ bytesT x = bytesT (catV nm xs (n + 1)):=by
 rw [catV_succ h,bytesT_app,bytesT_app,List.append_assoc]; rfl
def fnvA (v:Int) (s:ByteArray):Int:=s.data.toList.foldl fnv v
theorem fnvs_all (v:Int) (s:ByteArray):fnvs v s s.size = fnvA v s:=by
 unfold fnvs fnvA; rw [List.take_of_length_le (by simp)]
theorem fnvA_app (v:Int) (a b:ByteArray):fnvA v (a ++ b) = fnvA (fnvA v a) b:=by
 simp [fnvA,ByteArray.data_append,List.foldl_append]
theorem fnvA_bd (s:ByteArray):0 ≤ fnvA h0v s ∧ fnvA h0v s ≤ 18446744073709551615:=fold_bd _ _ (by unfold h0v; omega)
def valueV (nm:ByteArray) (xs:List ByteArray):ByteArray:=bl (beL (fnvA h0v (catV nm xs xs.length)) 8)
theorem c_spec_Value (nm:ByteArray) (xs:List ByteArray) (hn:nm.size ≤ 1048576) (hl:xs.length ≤ 1048576) (ht:totS xs ≤ 1048576) (hs:∀ s ∈ xs,s.size ≤ 1048576):F n_spec_Value [.val (.s nm),.val (.t (strs xs))] (.s (valueV nm xs)) [[],[]]:=by
 refine i_spec_Value ?_
 conv=>whnf
 refine g 0 0 [] ?_
 conv=>whnf
 refine ⟨⟨I,I⟩,?_⟩
 refine g 7 9 [] ?_
 conv=>whnf
 refine ⟨⟨I,(by omega),I,I⟩,?_⟩
 refine W.sq ?_
 refine g 0 0 [] ?_
 conv=>whnf
 refine ⟨⟨I,I⟩,?_⟩
 refine W.blk ?_
 refine W.lp (fun s (n:Nat)=>⟨[(0,s.s 0),(1,s.s 1),(4,s.s 4),(5,.ref ⟨5,none,0⟩),(6,.i n)],[(5,[.own [false] (bytesT (catV nm xs n))])],[]⟩) (fun (n:Nat)=>n ≤ xs.length) (fun (n:Nat)=>xs.length - n) (0) [some 8] [] ⟨rfl,⟨rfl,rfl,rfl,rfl,rfl,I⟩,⟨⟨rfl,⟨rfl,I⟩⟩,I⟩,I⟩ (by omega) ?_
 intro n hn
 have hc:=catV_size nm xs n (by omega)
 have hb:=bytesT_len (catV nm xs n)
 have hle:=totS_le xs n
 conv=>whnf
 refine W.sq ?_
 refine g 10 12 [] ?_
 conv=>whnf
 refine ⟨⟨I,I,I,I,I⟩,?_⟩
 refine W.cn ?_
 conv=>whnf
 refine ⟨fun h1=>?_,fun h1=>?_⟩
 replace h1:=dt h1
 simp only [List.length_map] at h1
 refine W.skip ?_
 refine W.sq ?_
 refine W.blk ?_
 obtain ⟨y1,hy1⟩:=some_at (xs:=xs) (n:=n) (by omega)
 have hm1:=hs y1 (List.mem_of_getElem? hy1)
 refine rgd [[],[],[],[],[],[.x (strT y1)],[],[],[]] ?_
 conv=>whnf
 refine ⟨⟨I,⟨⟨I,I⟩,I⟩,⟨I,I,(by simp only [lens]; omega)⟩,I,I,⟨(by omega),ixl (by assumption)⟩,I,⟨I,I,(by simp only [lens]; omega)⟩,I,I⟩,by kernel_rfl,?_⟩
 refine rg [.i ((↑n:Int) + (1:Int))] ?_
 conv=>whnf
 refine ⟨⟨I,w64 (by omega) (by omega),I,I⟩,?_⟩
 rotate_left 1
 replace h1:=df h1
 simp only [List.length_map] at h1
 refine W.exit ?_
 refine g 12 26 [.s (catV nm xs n),.call (V.s (bl (beL (fnvs h0v (catV nm xs n) (ByteArray.size (catV nm xs n))) (8:Nat)))) ([[]])] ?_
 conv=>whnf
 refine ⟨⟨I,⟨I,allU8_bytesT _,(bytesOf_bytesT _).symm⟩,⟨⟨I,I⟩,I,⟨⟨I,I⟩,I⟩,⟨I,I⟩,Go.K.c_spec_l1Sum _ (by omega)⟩,I,I⟩,?_⟩
 refine W.ret ?_
 refine EndsW.rt ?_
 conv=>whnf
 refine ⟨⟨I,I,I⟩,?_,rfl⟩
 rotate_left 1
 ·refine ⟨n + 1,[some 22],[],⟨rfl,⟨rfl,rfl,rfl,rfl,rfl,I⟩,⟨⟨rfl,⟨(congrArg (V.own _) (cat_step (by assumption))),I⟩⟩,I⟩,I⟩,?_,?_⟩
  rotate_left 1
  (dsimp only; omega)
  dsimp only
  omega
 ·exact vs (by rw [fnvs_all,show n = xs.length from by omega]; rfl)
theorem val_step {nm:ByteArray} {xs:List ByteArray} {n:Nat} {x:ByteArray} (h:xs[n]? = some x):fnvs (fnvs (fnvA h0v (catV nm xs n)) ⟨#[0]⟩ (⟨#[0]⟩:ByteArray).size) x x.size = fnvA h0v (catV nm xs (n + 1)):=by
 rw [fnvs_all,fnvs_all,catV_succ h,fnvA_app,fnvA_app]
theorem c_impl_Value (nm:ByteArray) (xs:List ByteArray) (hn:nm.size ≤ 1048576) (hl:xs.length ≤ 1048576) (hs:∀ s ∈ xs,s.size ≤ 1048576):F n_impl_Value [.val (.s nm),.val (.t (strs xs))] (.s (valueV nm xs)) [[],[]]:=by
 refine i_impl_Value ?_
 conv=>whnf
 refine g 0 0 [] ?_
 conv=>whnf
 refine ⟨⟨I,I⟩,?_⟩
 refine g 0 0 [] ?_
 conv=>whnf
 refine ⟨⟨I,⟨I,I⟩,I⟩,?_⟩
 refine g 0 1 [.call (V.tup []) ([[u8v (fnvs (14695981039346656037:Int) nm (ByteArray.size nm))],[]])] ?_
 conv=>whnf
 refine ⟨⟨I,⟨⟨I,I,I⟩,I,⟨I,⟨I,I⟩,I⟩,⟨I,I⟩,Go.K.c_impl_hash_bytes _ _ (by omega)⟩,I⟩,?_⟩
 refine W.sq ?_
 refine g 1 2 [] ?_
 conv=>whnf
 refine ⟨⟨I,I,I,I⟩,?_⟩
 refine W.blk ?_
 refine W.lp (fun s (n:Nat)=>⟨[(4,s.s 4),(5,s.s 5),(10,s.s 10),(11,s.s 11),(12,.i n)],[(5,[u8v (fnvA h0v (catV nm xs n))])],[]⟩) (fun (n:Nat)=>n ≤ xs.length) (fun (n:Nat)=>xs.length - n) (0) [some 5] [] ⟨rfl,⟨rfl,rfl,rfl,rfl,rfl,I⟩,⟨⟨rfl,⟨(congrArg (fun z=>V.t (T.v (Value.int _ z))) (fnvs_all _ _)),I⟩⟩,I⟩,I⟩ (by omega) ?_
 intro n hn
 have hb:=fnvA_bd (catV nm xs n)
 conv=>whnf
 refine g 0 0 [] ?_
 conv=>whnf
 refine ⟨⟨I,I⟩,?_⟩
 refine W.sq ?_
 refine W.cn ?_
 conv=>whnf
 refine ⟨fun h1=>?_,fun h1=>?_⟩
 replace h1:=dt h1
 simp only [List.length_map] at h1
 refine W.skip ?_
 refine W.sq ?_
 refine W.blk ?_
 obtain ⟨y1,hy1⟩:=some_at (xs:=xs) (n:=n) (by omega)
 have hm1:=hs y1 (List.mem_of_getElem? hy1)
 refine g 13 16 [.x (strT y1)] ?_
 conv=>whnf
 refine ⟨⟨⟨(by omega),ixl (by assumption)⟩,I,I,I⟩,?_⟩
 refine g 16 17 [.call (V.tup []) ([[u8v (fnvs (fnvA h0v (catV nm xs n)) { data:=#[(0:UInt8)]:ByteArray } (ByteArray.size { data:=#[(0:UInt8)]:ByteArray }))],[]])] ?_
 conv=>whnf
 refine ⟨⟨⟨⟨I,I,I⟩,I,⟨I,⟨I,I⟩,I⟩,⟨I,I⟩,Go.K.c_impl_hash_bytes _ _ (by decide)⟩,I⟩,?_⟩
 refine rg [.call (V.tup []) ([[u8v (fnvs (fnvs (fnvA h0v (catV nm xs n)) { data:=#[(0:UInt8)]:ByteArray } (ByteArray.size { data:=#[(0:UInt8)]:ByteArray })) y1 (ByteArray.size y1))],[]])] ?_
 conv=>whnf
 refine ⟨⟨I,⟨⟨I,I,I⟩,I,⟨I,⟨I,I⟩,I⟩,⟨I,I⟩,Go.K.c_impl_hash_bytes _ _ (by omega)⟩,I⟩,?_⟩
 refine rg [.i ((↑n:Int) + (1:Int))] ?_
 conv=>whnf
 refine ⟨⟨w64 (by omega) (by omega),I,I⟩,?_⟩
 rotate_left 1
 replace h1:=df h1
 simp only [List.length_map] at h1
 refine W.exit ?_
 refine g 5 22 [.call (V.s (bl (beL (fnvA h0v (catV nm xs n)) (8:Nat)))) ([[]])] ?_
 conv=>whnf
 refine ⟨⟨I,⟨⟨I,I⟩,I,⟨⟨I,I⟩,I⟩,⟨I,I⟩,Go.K.c_impl_hash_text _ (by omega) (by omega)⟩,I,I⟩,?_⟩
 refine W.ret ?_
 refine EndsW.rt ?_
 conv=>whnf
 refine ⟨⟨I,I,I⟩,?_,rfl⟩
 rotate_left 1
 ·refine ⟨n + 1,[some 5],[],⟨rfl,⟨rfl,rfl,rfl,rfl,rfl,I⟩,⟨⟨rfl,⟨(congrArg (fun z=>V.t (T.v (Value.int _ z))) (val_step (by assumption))),I⟩⟩,I⟩,I⟩,?_,?_⟩
  rotate_left 1
  (dsimp only; omega)
  dsimp only
  omega
 ·exact vs (by rw [show n = xs.length from by omega]; rfl)
end Go.K
end
section
set_option linter.unusedVariables false
set_option linter.unusedSimpArgs false
set_option maxHeartbeats 4000000
set_option maxRecDepth 20000
open Go Go.Tm Go.Proofs
namespace Go.K
theorem map_of {α β:Type} {f:α → β} {p:α → Prop}:∀ {xs:List β},(∀ y ∈ xs,∃ s,y = f s ∧ p s) → ∃ ys:List α,xs = ys.map f ∧ ∀ s ∈ ys,p s
 | [],_=>⟨[],rfl,fun _ h=>by cases h⟩
 | y :: xs,h=>by
   obtain ⟨s,rfl,hp⟩:=h y (.head _)
   obtain ⟨ys,rfl,hq⟩:=map_of fun z hz=>h z (.tail _ hz)
   exact ⟨s :: ys,rfl,fun z hz=>by rcases List.mem_cons.1 hz with rfl | hz; exact hp; exact hq z hz⟩
end Go.K
end
section
set_option linter.unusedVariables false
set_option linter.unusedSimpArgs false
set_option maxHeartbeats 4000000
set_option maxRecDepth 20000
open Go Go.Tm Go.Proofs
namespace Go.K
structure Parcel where
 kind:Int
 frm:ByteArray
 text:ByteArray
 deriving DecidableEq
abbrev noP:Parcel:=⟨0,emp,emp⟩
theorem bl_size (l:List Int):(bl l).size = l.length:=by simp [bl,bsa]
end Go.K
end
section
set_option linter.unusedVariables false
set_option linter.unusedSimpArgs false
set_option maxHeartbeats 4000000
set_option maxRecDepth 20000
open Go Go.Tm Go.Proofs
namespace Go.K
abbrev intT (n:Int):List T:=[.i n]
structure Task where
 name:ByteArray
 cost:Int
 deps:List Int
 deriving DecidableEq
abbrev taskT (x:Task):List T:=[.s x.name,.i x.cost,.slc [false] (x.deps.map intT)]
abbrev taskK:List Bool:=[false,false,true]
def taskWf (x:Task):Prop:=x.name.size ≤ 9223372036854775807 ∧ x.deps.length ≤ 9223372036854775807
structure Worker where
 number:Int
 epoch:Int
 up:Bool
 state:Int
 lease:Int
 task:Int
 cost:Int
 left:Int
 inputs:List ByteArray
 text:ByteArray
 since:Int
 deriving DecidableEq
abbrev workerR (x:Worker):V:=.agg [.t (.i x.number),.t (.i x.epoch),.t (.b x.up),.t (.i x.state),.t (.i x.lease),.t (.i x.task),.t (.i x.cost),.t (.i x.left),.t (.slc [false] (x.inputs.map strT)),.t (.s x.text),.t (.i x.since)]
abbrev workerO (x:Worker):V:=.agg [.t (.i x.number),.t (.i x.epoch),.t (.b x.up),.t (.i x.state),.t (.i x.lease),.t (.i x.task),.t (.i x.cost),.t (.i x.left),.own [false] (x.inputs.map strT),.t (.s x.text),.t (.i x.since)]
abbrev noWorker:Worker:=⟨0,0,false,0,0,0,0,0,[],emp,0⟩
structure Plan where
 tasks:List Task
 deriving DecidableEq
abbrev planR (x:Plan):V:=.agg [.t (.slc taskK (x.tasks.map taskT))]
abbrev planO (x:Plan):V:=.agg [.own taskK (x.tasks.map taskT)]
def planWf (x:Plan):Prop:=x.tasks.length ≤ 9223372036854775807 ∧ (∀ y ∈ x.tasks,taskWf y)
end Go.K
end
section
set_option linter.unusedVariables false
set_option linter.unusedSimpArgs false
set_option maxHeartbeats 4000000
set_option maxRecDepth 20000
open Go Go.Tm Go.Proofs
namespace Go.K
def eights (xs:List ByteArray):Prop:=(∀ s ∈ xs,s.size = 8) ∧ xs.length ≤ 8
instance (xs:List ByteArray):Decidable (eights xs):=by unfold eights; infer_instance
theorem eights_no {xs:List ByteArray} {n:Nat} {y:ByteArray} (hy:xs[n]? = some y) (h:¬ (y.size:Int) = 8):¬ eights xs:=fun e=>h (by have:=e.1 y (List.mem_of_getElem? hy); omega)
theorem all_take {α:Type} {p:α → Prop} {xs:List α} {n:Nat} {y:α} (h:∀ s ∈ xs.take n,p s) (hy:xs[n]? = some y) (hp:p y):∀ s ∈ xs.take (n + 1),p s:=fun s hs=>by
 rw [List.take_add_one,hy] at hs
 rcases List.mem_append.1 hs with hs | hs
 ·exact h s hs
 ·simp at hs; subst hs; exact hp
theorem all_done {α:Type} {p:α → Prop} {xs:List α} {n:Nat} (h:∀ s ∈ xs.take n,p s) (hn:xs.length ≤ n):∀ s ∈ xs,p s:=by rwa [take_all hn] at h
theorem c_impl_eights (xs:List ByteArray) (hl:xs.length ≤ 9223372036854775806):F n_impl_eights [.val (.t (strs xs))] (.b (decide (eights xs))) [[]]:=by
 refine i_impl_eights ?_
 conv=>whnf
 refine g 0 0 [] ?_
 conv=>whnf
 refine ⟨⟨I,I⟩,?_⟩
 refine W.sq ?_
 refine g 0 0 [] ?_
 conv=>whnf
 refine ⟨⟨I,I,I,I⟩,?_⟩
 refine W.blk ?_
 refine W.lp (fun s (n:Nat)=>⟨[(0,s.s 0),(5,s.s 5),(6,s.s 6),(7,.i n)],[],[]⟩) (fun (n:Nat)=>n ≤ xs.length ∧ ∀ s ∈ xs.take n,s.size = 8) (fun (n:Nat)=>xs.length - n) (0) [] [] ⟨rfl,⟨rfl,rfl,rfl,rfl,I⟩,I,I⟩ (by simp) ?_
 rintro n ⟨hn,hc⟩
 conv=>whnf
 refine g 0 0 [] ?_
 conv=>whnf
 refine ⟨⟨I,I⟩,?_⟩
 refine W.sq ?_
 refine W.cn ?_
 conv=>whnf
 refine ⟨fun h1=>?_,fun h1=>?_⟩
 replace h1:=dt h1
 simp only [List.length_map] at h1
 refine W.skip ?_
 refine W.sq ?_
 refine W.blk ?_
 obtain ⟨y1,hy1⟩:=some_at (xs:=xs) (n:=n) (by omega)
 refine g 8 11 [.x (strT y1)] ?_
 conv=>whnf
 refine ⟨⟨⟨(by omega),ixl (by assumption)⟩,I,I,I⟩,?_⟩
 refine g 11 13 [] ?_
 conv=>whnf
 refine ⟨⟨I,I,I,I⟩,?_⟩
 refine W.cn ?_
 conv=>whnf
 refine ⟨fun h2=>?_,fun h2=>?_⟩
 replace h2:=ndt h2
 refine g 13 14 [] ?_
 conv=>whnf
 refine ⟨⟨I,I⟩,?_⟩
 refine W.ret ?_
 refine EndsW.rt ?_
 conv=>whnf
 refine ⟨⟨I,I,I⟩,?_,rfl⟩
 rotate_left 1
 replace h2:=ndf h2
 refine W.skip ?_
 refine rg [.i ((↑n:Int) + (1:Int))] ?_
 conv=>whnf
 refine ⟨⟨w64 (by omega) (by omega),I,I⟩,?_⟩
 rotate_left 1
 replace h1:=df h1
 simp only [List.length_map] at h1
 refine W.exit ?_
 refine g 5 18 [] ?_
 conv=>whnf
 refine ⟨⟨I,I,I,I,I⟩,?_⟩
 refine W.ret ?_
 refine EndsW.rt ?_
 conv=>whnf
 refine ⟨⟨I,I,I⟩,?_,rfl⟩
 rotate_left 1
 ·exact vbf (eights_no hy1 (by assumption))
 ·refine ⟨n + 1,[],[],⟨rfl,⟨rfl,rfl,rfl,rfl,I⟩,I,I⟩,?_,?_⟩
  rotate_left 1
  (dsimp only; omega)
  dsimp only
  exact ⟨by omega,all_take hc hy1 (by omega)⟩
 ·exact vbd ⟨fun e=>⟨all_done hc (by omega),by simp only [List.length_map] at e; omega⟩,fun e=>by have:=e.2; simp only [List.length_map]; omega⟩
theorem c_spec_l2InputsOk (xs:List ByteArray) (hl:xs.length ≤ 9223372036854775806):F n_spec_l2InputsOk [.val (.t (strs xs))] (.b (decide (eights xs))) [[]]:=by
 refine i_spec_l2InputsOk ?_
 conv=>whnf
 refine g 0 0 [] ?_
 conv=>whnf
 refine ⟨⟨I,I⟩,?_⟩
 refine W.sq ?_
 refine g 0 0 [] ?_
 conv=>whnf
 refine ⟨⟨I,I⟩,?_⟩
 refine W.blk ?_
 refine W.lp (fun s (n:Nat)=>⟨[(0,s.s 0),(3,.i n)],[],[]⟩) (fun (n:Nat)=>n ≤ xs.length ∧ ∀ s ∈ xs.take n,s.size = 8) (fun (n:Nat)=>xs.length - n) (0) [] [] ⟨rfl,⟨rfl,rfl,I⟩,I,I⟩ (by simp) ?_
 rintro n ⟨hn,hc⟩
 conv=>whnf
 refine W.sq ?_
 refine g 5 7 [] ?_
 conv=>whnf
 refine ⟨⟨I,I,I,I,I⟩,?_⟩
 refine W.cn ?_
 conv=>whnf
 refine ⟨fun h1=>?_,fun h1=>?_⟩
 replace h1:=dt h1
 simp only [List.length_map] at h1
 refine W.skip ?_
 refine W.sq ?_
 refine W.blk ?_
 obtain ⟨y1,hy1⟩:=some_at (xs:=xs) (n:=n) (by omega)
 refine g 7 15 [.x (strT y1)] ?_
 conv=>whnf
 refine ⟨⟨I,I,⟨(by omega),ixl (by assumption)⟩,I,I,I,I⟩,?_⟩
 refine W.cn ?_
 conv=>whnf
 refine ⟨fun h2=>?_,fun h2=>?_⟩
 replace h2:=ndt h2
 refine g 15 16 [] ?_
 conv=>whnf
 refine ⟨⟨I,I⟩,?_⟩
 refine W.ret ?_
 refine EndsW.rt ?_
 conv=>whnf
 refine ⟨⟨I,I,I⟩,?_,rfl⟩
 rotate_left 1
 replace h2:=ndf h2
 refine W.skip ?_
 refine rg [.i ((↑n:Int) + (1:Int))] ?_
 conv=>whnf
 refine ⟨⟨I,w64 (by omega) (by omega),I,I⟩,?_⟩
 rotate_left 1
 replace h1:=df h1
 simp only [List.length_map] at h1
 refine W.exit ?_
 refine g 7 19 [] ?_
 conv=>whnf
 refine ⟨⟨I,I,I,I,I⟩,?_⟩
 refine W.ret ?_
 refine EndsW.rt ?_
 conv=>whnf
 refine ⟨⟨I,I,I⟩,?_,rfl⟩
 rotate_left 1
 ·exact vbf (eights_no hy1 (by assumption))
 ·refine ⟨n + 1,[],[],⟨rfl,⟨rfl,rfl,I⟩,I,I⟩,?_,?_⟩
  rotate_left 1
  (dsimp only; omega)
  dsimp only
  exact ⟨by omega,all_take hc hy1 (by omega)⟩
 ·exact vbd ⟨fun e=>⟨all_done hc (by omega),by simp only [List.length_map] at e; omega⟩,fun e=>by have:=e.2; simp only [List.length_map]; omega⟩
theorem c_spec_l2LeaseOk (n:Int):F n_spec_l2LeaseOk [.val (.i n)] (.b (decide (1 ≤ n ∧ n ≤ 300000000))) [[]]:=by
 refine i_spec_l2LeaseOk ?_
 conv=>whnf
 refine g 0 0 [] ?_
 conv=>whnf
 refine ⟨⟨I,I⟩,?_⟩
 refine g 0 1 [.call (V.b (decide ((1:Int) ≤ n ∧ n ≤ (300000000:Int)))) ([[],[],[]])] ?_
 conv=>whnf
 refine ⟨⟨I,⟨⟨I,I,I,I⟩,I,⟨⟨I,I⟩,⟨I,I⟩,⟨I,I⟩,I⟩,⟨I,I⟩,Go.K.c_spec_l2In _ _ _⟩,I,I⟩,?_⟩
 refine W.ret ?_
 refine EndsW.rt ?_
 conv=>whnf
 refine ⟨⟨I,I,I⟩,?_,rfl⟩
 rfl
end Go.K
end
section
set_option linter.unusedVariables false
set_option linter.unusedSimpArgs false
set_option maxHeartbeats 4000000
set_option maxRecDepth 20000
open Go Go.Tm Go.Proofs Classical
namespace Go.K
def plainB (s:ByteArray):Prop:=(∀ (n:Nat) (c:UInt8),s[n]? = some c → 33 ≤ c.toNat ∧ c.toNat ≤ 126) ∧ 1 ≤ s.size ∧ s.size ≤ 30
theorem plain_no {s:ByteArray} {n:Nat} {c:UInt8} (h:s[n]? = some c) (hc:¬ (33 ≤ (c.toNat:Int) ∧ (c.toNat:Int) ≤ 126)):¬ plainB s:=fun e=>hc (by have:=e.1 n c h; omega)
theorem plain_step {s:ByteArray} {n:Nat} {c:UInt8} (hn:∀ (m:Nat) (c:UInt8),m < n → s[m]? = some c → 33 ≤ c.toNat ∧ c.toNat ≤ 126) (h:s[n]? = some c) (hc:33 ≤ (c.toNat:Int) ∧ (c.toNat:Int) ≤ 126):∀ (m:Nat) (c:UInt8),m < n + 1 → s[m]? = some c → 33 ≤ c.toNat ∧ c.toNat ≤ 126:=fun m d hm hd=>by
 by_cases e:m = n
 ·subst e; rw [h] at hd; cases hd; omega
 ·exact hn m d (by omega) hd
theorem ba_some {s:ByteArray} {n:Nat} {c:UInt8} (h:s[n]? = some c):n < s.size:=by
 by_cases hn:n < s.size
 ·exact hn
 ·rw [getElem?_neg s n hn] at h; cases h
theorem c_impl_plain (s:ByteArray) (hs:s.size ≤ 9223372036854775807):F n_impl_plain [.val (.s s)] (.b (decide (plainB s))) [[]]:=by
 refine i_impl_plain ?_
 conv=>whnf
 refine g 0 0 [] ?_
 conv=>whnf
 refine ⟨⟨I,I⟩,?_⟩
 refine W.sq ?_
 refine g 0 0 [] ?_
 conv=>whnf
 refine ⟨⟨I,I⟩,?_⟩
 refine W.blk ?_
 refine W.lp (fun s (n:Nat)=>⟨[(0,s.s 0),(3,.i n)],[],[]⟩) (fun (n:Nat)=>n ≤ s.size ∧ ∀ (m:Nat) (c:UInt8),m < n → s[m]? = some c → 33 ≤ c.toNat ∧ c.toNat ≤ 126) (fun (n:Nat)=>s.size - n) (0) [] [] ⟨rfl,⟨rfl,rfl,I⟩,I,I⟩ (by simp) ?_
 rintro n ⟨hn,hc⟩
 conv=>whnf
 refine W.sq ?_
 refine g 5 7 [] ?_
 conv=>whnf
 refine ⟨⟨I,I,I,I,I⟩,?_⟩
 refine W.cn ?_
 conv=>whnf
 refine ⟨fun h1=>?_,fun h1=>?_⟩
 replace h1:=dt h1
 refine W.skip ?_
 refine W.sq ?_
 refine W.blk ?_
 obtain ⟨y1,hy1,hb1⟩:=byte_at (s:=s) (n:=n) (by omega)
 by_cases h2:(↑(UInt8.toNat y1):Int) < (33:Int)
 refine g 7 19 [.i ((↑(UInt8.toNat y1):Int)),.b (true),.b (true),.b (true),.b (true),.b (true)] ?_
 conv=>whnf
 refine ⟨⟨I,I,⟨(by omega),ixb (by assumption)⟩,I,I,dT (by omega),dT (by omega),dT (by omega),dT (by omega),dT (by omega),I⟩,?_⟩
 refine W.cn ?_
 conv=>whnf
 refine ⟨fun _=>?_,noF (rfl)⟩
 refine g 19 20 [] ?_
 conv=>whnf
 refine ⟨⟨I,I⟩,?_⟩
 refine W.ret ?_
 refine EndsW.rt ?_
 conv=>whnf
 refine ⟨⟨I,I,I⟩,?_,rfl⟩
 rotate_left 1
 refine g 7 19 [.i ((↑(UInt8.toNat y1):Int)),.b (false),.b (false),.b (false),.i ((↑(UInt8.toNat y1):Int)),.b (false),.b (false)] ?_
 conv=>whnf
 refine ⟨⟨I,I,⟨(by omega),ixb (by assumption)⟩,I,I,⟨dF (by omega),I⟩,⟨dF (by omega),I⟩,⟨dF (by omega),(by omega),ixb (by assumption)⟩,⟨dF (by omega),I⟩,dF (by omega),I⟩,?_⟩
 refine W.cn ?_
 conv=>whnf
 refine ⟨fun h3=>?_,fun h3=>?_⟩
 replace h3:=dt h3
 refine g 19 20 [] ?_
 conv=>whnf
 refine ⟨⟨I,I⟩,?_⟩
 refine W.ret ?_
 refine EndsW.rt ?_
 conv=>whnf
 refine ⟨⟨I,I,I⟩,?_,rfl⟩
 rotate_left 1
 replace h3:=df h3
 refine W.skip ?_
 refine rg [.i ((↑n:Int) + (1:Int))] ?_
 conv=>whnf
 refine ⟨⟨I,w64 (by omega) (by omega),I,I⟩,?_⟩
 rotate_left 1
 replace h1:=df h1
 refine W.exit ?_
 by_cases h2:(1:Int) ≤ (↑(ByteArray.size s):Int)
 refine g 7 28 [.b (true),.b (true),.b (true),.b (true)] ?_
 conv=>whnf
 refine ⟨⟨I,I,I,I,⟨dT (by omega),I⟩,⟨dT (by omega),I⟩,⟨dT (by omega),I⟩,dT (by omega),I,I⟩,?_⟩
 refine W.ret ?_
 refine EndsW.rt ?_
 conv=>whnf
 refine ⟨⟨I,I,I⟩,?_,rfl⟩
 rotate_left 1
 refine g 7 28 [.b (false),.b (false),.b (false),.b (false)] ?_
 conv=>whnf
 refine ⟨⟨I,I,I,I,dF (by omega),dF (by omega),dF (by omega),dF (by omega),I,I⟩,?_⟩
 refine W.ret ?_
 refine EndsW.rt ?_
 conv=>whnf
 refine ⟨⟨I,I,I⟩,?_,rfl⟩
 rotate_left 1
 ·exact vbf (plain_no hy1 (by omega))
 ·exact vbf (plain_no hy1 (by omega))
 ·refine ⟨n + 1,[],[],⟨rfl,⟨rfl,rfl,I⟩,I,I⟩,?_,?_⟩
  rotate_left 1
  (dsimp only; omega)
  dsimp only
  exact ⟨by omega,plain_step hc hy1 (by omega)⟩
 ·exact vbd ⟨fun e=>⟨fun m c h=>hc m c (by have:=ba_some h; omega) h,by omega,by omega⟩,fun e=>by have:=e.2; omega⟩
 ·exact vbf (fun e=>by have:=e.2; omega)
theorem c_spec_l1NameOk (s:ByteArray) (hs:s.size ≤ 9223372036854775807):F n_spec_l1NameOk [.val (.s s)] (.b (decide (plainB s))) [[]]:=by
 refine i_spec_l1NameOk ?_
 conv=>whnf
 refine g 0 0 [] ?_
 conv=>whnf
 refine ⟨⟨I,I⟩,?_⟩
 refine W.sq ?_
 refine g 0 0 [] ?_
 conv=>whnf
 refine ⟨⟨I,I⟩,?_⟩
 refine W.blk ?_
 refine W.lp (fun s (n:Nat)=>⟨[(0,s.s 0),(3,.i n)],[],[]⟩) (fun (n:Nat)=>n ≤ s.size ∧ ∀ (m:Nat) (c:UInt8),m < n → s[m]? = some c → 33 ≤ c.toNat ∧ c.toNat ≤ 126) (fun (n:Nat)=>s.size - n) (0) [] [] ⟨rfl,⟨rfl,rfl,I⟩,I,I⟩ (by simp) ?_
 rintro n ⟨hn,hc⟩
 conv=>whnf
 refine W.sq ?_
 refine g 5 7 [] ?_
 conv=>whnf
 refine ⟨⟨I,I,I,I,I⟩,?_⟩
 refine W.cn ?_
 conv=>whnf
 refine ⟨fun h1=>?_,fun h1=>?_⟩
 replace h1:=dt h1
 refine W.skip ?_
 refine W.sq ?_
 refine W.blk ?_
 obtain ⟨y1,hy1,hb1⟩:=byte_at (s:=s) (n:=n) (by omega)
 by_cases h2:(↑(UInt8.toNat y1):Int) < (33:Int)
 refine g 7 19 [.i ((↑(UInt8.toNat y1):Int)),.b (true),.b (true),.b (true),.b (true),.b (true)] ?_
 conv=>whnf
 refine ⟨⟨I,I,⟨(by omega),ixb (by assumption)⟩,I,I,dT (by omega),dT (by omega),dT (by omega),dT (by omega),dT (by omega),I⟩,?_⟩
 refine W.cn ?_
 conv=>whnf
 refine ⟨fun _=>?_,noF (rfl)⟩
 refine g 19 20 [] ?_
 conv=>whnf
 refine ⟨⟨I,I⟩,?_⟩
 refine W.ret ?_
 refine EndsW.rt ?_
 conv=>whnf
 refine ⟨⟨I,I,I⟩,?_,rfl⟩
 rotate_left 1
 refine g 7 19 [.i ((↑(UInt8.toNat y1):Int)),.b (false),.b (false),.b (false),.i ((↑(UInt8.toNat y1):Int)),.b (false),.b (false)] ?_
 conv=>whnf
 refine ⟨⟨I,I,⟨(by omega),ixb (by assumption)⟩,I,I,⟨dF (by omega),I⟩,⟨dF (by omega),I⟩,⟨dF (by omega),(by omega),ixb (by assumption)⟩,⟨dF (by omega),I⟩,dF (by omega),I⟩,?_⟩
 refine W.cn ?_
 conv=>whnf
 refine ⟨fun h3=>?_,fun h3=>?_⟩
 replace h3:=dt h3
 refine g 19 20 [] ?_
 conv=>whnf
 refine ⟨⟨I,I⟩,?_⟩
 refine W.ret ?_
 refine EndsW.rt ?_
 conv=>whnf
 refine ⟨⟨I,I,I⟩,?_,rfl⟩
 rotate_left 1
 replace h3:=df h3
 refine W.skip ?_
 refine rg [.i ((↑n:Int) + (1:Int))] ?_
 conv=>whnf
 refine ⟨⟨I,w64 (by omega) (by omega),I,I⟩,?_⟩
 rotate_left 1
 replace h1:=df h1
 refine W.exit ?_
 by_cases h2:(1:Int) ≤ (↑(ByteArray.size s):Int)
 refine g 7 28 [.b (true),.b (true),.b (true),.b (true)] ?_
 conv=>whnf
 refine ⟨⟨I,I,I,I,⟨dT (by omega),I⟩,⟨dT (by omega),I⟩,⟨dT (by omega),I⟩,dT (by omega),I,I⟩,?_⟩
 refine W.ret ?_
 refine EndsW.rt ?_
 conv=>whnf
 refine ⟨⟨I,I,I⟩,?_,rfl⟩
 rotate_left 1
 refine g 7 28 [.b (false),.b (false),.b (false),.b (false)] ?_
 conv=>whnf
 refine ⟨⟨I,I,I,I,dF (by omega),dF (by omega),dF (by omega),dF (by omega),I,I⟩,?_⟩
 refine W.ret ?_
 refine EndsW.rt ?_
 conv=>whnf
 refine ⟨⟨I,I,I⟩,?_,rfl⟩
 rotate_left 1
 ·exact vbf (plain_no hy1 (by omega))
 ·exact vbf (plain_no hy1 (by omega))
 ·refine ⟨n + 1,[],[],⟨rfl,⟨rfl,rfl,I⟩,I,I⟩,?_,?_⟩
  rotate_left 1
  (dsimp only; omega)
  dsimp only
  exact ⟨by omega,plain_step hc hy1 (by omega)⟩
 ·exact vbd ⟨fun e=>⟨fun m c h=>hc m c (by have:=ba_some h; omega) h,by omega,by omega⟩,fun e=>by have:=e.2; omega⟩
 ·exact vbf (fun e=>by have:=e.2; omega)
end Go.K
end
section
set_option linter.unusedVariables false
set_option linter.unusedSimpArgs false
set_option maxHeartbeats 4000000
set_option maxRecDepth 20000
open Go Go.Tm Go.Proofs Classical
namespace Go.K
def namesTo (xs:List Task) (n:Nat):Prop:=∀ (m:Nat) (t:Task),m < n → xs[m]? = some t → plainB t.name ∧ t.name ∉ (xs.take m).map Task.name
def namesOk (xs:List Task):Prop:=namesTo xs xs.length
def costsOk (xs:List Task):Prop:=∀ t ∈ xs,1 ≤ t.cost ∧ t.cost ≤ 20
def incr (last hi:Int):List Int → Prop
 | []=>True
 | d :: ds=>(last < d ∧ d < hi) ∧ incr d hi ds
def depOk (hi:Int) (d:List Int):Prop:=d.length ≤ 8 ∧ incr (-1) hi d
def depsTo (xs:List Task) (n:Nat):Prop:=∀ (m:Nat) (t:Task),m < n → xs[m]? = some t → depOk m t.deps
def depsOk (xs:List Task):Prop:=depsTo xs xs.length
noncomputable def checkPlan (xs:List Task):Int :=
 if ¬ (1 ≤ xs.length ∧ xs.length ≤ 40) then 1 else if ¬ namesOk xs then 2 else if ¬ costsOk xs then 3 else if ¬ depsOk xs then 4 else 0
theorem chk1 {xs:List Task} (h:¬ (1 ≤ xs.length ∧ xs.length ≤ 40)):checkPlan xs = 1:=by unfold checkPlan; rw [if_pos h]
theorem chk2 {xs:List Task} (h:1 ≤ xs.length ∧ xs.length ≤ 40) (h2:¬ namesOk xs):checkPlan xs = 2:=by unfold checkPlan; rw [if_neg (not_not_intro h),if_pos h2]
theorem chk3 {xs:List Task} (h:1 ≤ xs.length ∧ xs.length ≤ 40) (h2:namesOk xs) (h3:¬ costsOk xs):checkPlan xs = 3:=by unfold checkPlan; rw [if_neg (not_not_intro h),if_neg (not_not_intro h2),if_pos h3]
theorem chk4 {xs:List Task} (h:1 ≤ xs.length ∧ xs.length ≤ 40) (h2:namesOk xs) (h3:costsOk xs) (h4:¬ depsOk xs):checkPlan xs = 4:=by unfold checkPlan; rw [if_neg (not_not_intro h),if_neg (not_not_intro h2),if_neg (not_not_intro h3),if_pos h4]
theorem chk0 {xs:List Task} (h:1 ≤ xs.length ∧ xs.length ≤ 40) (h2:namesOk xs) (h3:costsOk xs) (h4:depsOk xs):checkPlan xs = 0:=by unfold checkPlan; rw [if_neg (not_not_intro h),if_neg (not_not_intro h2),if_neg (not_not_intro h3),if_neg (not_not_intro h4)]
theorem names_no {xs:List Task} {n:Nat} {t:Task} (ht:xs[n]? = some t) (h:¬ (plainB t.name ∧ t.name ∉ (xs.take n).map Task.name)):¬ namesOk xs:=fun e=>h (e n t (List.getElem?_eq_some_iff.1 ht).1 ht)
theorem to_step {P:Nat → Task → Prop} {xs:List Task} {n:Nat} {t:Task} (h:∀ (m:Nat) (t:Task),m < n → xs[m]? = some t → P m t) (ht:xs[n]? = some t) (hp:P n t):∀ (m:Nat) (t:Task),m < n + 1 → xs[m]? = some t → P m t:=fun m d hm hd=>by
 by_cases e:m = n
 ·subst e; rw [ht] at hd; cases hd; exact hp
 ·exact h m d (by omega) hd
theorem to_all {P:Nat → Task → Prop} {xs:List Task} {n:Nat} (h:∀ (m:Nat) (t:Task),m < n → xs[m]? = some t → P m t) (hn:xs.length ≤ n):∀ (m:Nat) (t:Task),m < xs.length → xs[m]? = some t → P m t:=fun m t hm ht=>h m t (by omega) ht
theorem costs_no {xs:List Task} {n:Nat} {t:Task} (ht:xs[n]? = some t) (h:¬ (1 ≤ t.cost ∧ t.cost ≤ 20)):¬ costsOk xs:=fun e=>h (e t (List.mem_of_getElem? ht))
theorem deps_no {xs:List Task} {n:Nat} {t:Task} (ht:xs[n]? = some t) (h:¬ depOk n t.deps):¬ depsOk xs:=fun e=>h (e n t (List.getElem?_eq_some_iff.1 ht).1 ht)
/-- Where a list of numbers stands: what is left must go on from the last one. -/
def incrAt (hi:Int) (d:List Int) (k:Nat) (last:Int):Prop:=incr (-1) hi d ↔ incr last hi (d.drop k)
theorem drop_at {α:Type} {d:List α} {k:Nat} {y:α} (h:d[k]? = some y):d.drop k = y :: d.drop (k + 1):=by
 have hk:=(List.getElem?_eq_some_iff.1 h)
 rw [List.drop_eq_getElem_cons hk.1,hk.2]
theorem incr_step {hi:Int} {d:List Int} {k:Nat} {last y:Int} (h:incrAt hi d k last) (hy:d[k]? = some y) (h1:last < y ∧ y < hi):incrAt hi d (k + 1) y:=by
 unfold incrAt at *; rw [h,drop_at hy,incr]; exact ⟨fun e=>e.2,fun e=>⟨h1,e⟩⟩
theorem incr_no {hi:Int} {d:List Int} {k:Nat} {last y:Int} (h:incrAt hi d k last) (hy:d[k]? = some y) (h1:¬ (last < y ∧ y < hi)):¬ incr (-1) hi d:=by
 unfold incrAt at *; rw [h,drop_at hy,incr]; exact fun e=>h1 e.1
theorem incr_end {hi:Int} {d:List Int} {k:Nat} {last:Int} (h:incrAt hi d k last) (hk:d.length ≤ k):incr (-1) hi d:=by
 unfold incrAt at *; rw [h,List.drop_eq_nil_of_le hk]; trivial
theorem c_impl_CheckPlan (p:Plan) (hp:planWf p):F n_impl_CheckPlan [.val (planR p)] (.i (checkPlan p.tasks)) [[]]:=by
 have hl:p.tasks.length ≤ 9223372036854775807:=hp.1
 have hw:∀ y ∈ p.tasks,y.name.size ≤ 9223372036854775807 ∧ y.deps.length ≤ 9223372036854775807:=hp.2
 refine i_impl_CheckPlan ?_
 conv=>whnf
 refine g 0 1 [] ?_
 conv=>whnf
 refine ⟨⟨⟨I,I⟩,I,I⟩,?_⟩
 refine g 14 17 [] ?_
 conv=>whnf
 refine ⟨⟨I,I,I,I,I⟩,?_⟩
 refine W.sq ?_
 by_cases h1:(↑(List.length (List.map taskT (Plan.tasks p))):Int) = (0:Int)
 simp only [List.length_map] at h1
 refine g 17 22 [.b (true),.b (true),.b (true)] ?_
 conv=>whnf
 refine ⟨⟨I,I,I,(by simp [*]),(by simp [*]),(by simp [*]),I⟩,?_⟩
 refine W.cn ?_
 conv=>whnf
 refine ⟨fun _=>?_,noF (rfl)⟩
 refine g 22 23 [] ?_
 conv=>whnf
 refine ⟨⟨I,I⟩,?_⟩
 refine W.ret ?_
 refine EndsW.rt ?_
 conv=>whnf
 refine ⟨⟨I,I,I⟩,?_,rfl⟩
 rotate_left 1
 simp only [List.length_map] at h1
 refine g 17 22 [.b (false),.b (false),.b (false)] ?_
 conv=>whnf
 refine ⟨⟨I,I,I,⟨(by simp_all),I⟩,⟨(by simp_all),I⟩,(by simp_all),I⟩,?_⟩
 refine W.cn ?_
 conv=>whnf
 refine ⟨fun h2=>?_,fun h2=>?_⟩
 replace h2:=dt h2
 simp only [List.length_map] at h2
 refine g 22 23 [] ?_
 conv=>whnf
 refine ⟨⟨I,I⟩,?_⟩
 refine W.ret ?_
 refine EndsW.rt ?_
 conv=>whnf
 refine ⟨⟨I,I,I⟩,?_,rfl⟩
 rotate_left 1
 replace h2:=df h2
 simp only [List.length_map] at h2
 refine W.skip ?_
 refine g 22 24 [] ?_
 conv=>whnf
 refine ⟨⟨I,I,I⟩,?_⟩
 refine W.sq ?_
 refine g 24 25 [] ?_
 conv=>whnf
 refine ⟨⟨I,I,I,I,I⟩,?_⟩
 refine W.blk ?_
 rotate_left 1
 ·exact vi (chk1 (by omega)).symm
 ·exact vi (chk1 (by omega)).symm
 have hlen:1 ≤ p.tasks.length ∧ p.tasks.length ≤ 40:=by omega
 refine W.lp (fun s (n:Nat)=>⟨[(1,s.s 1),(3,s.s 3),(4,s.s 4),(25,s.s 25),(26,s.s 26),(27,.i n)],[(1,[s.c 1 0])],[(23,(p.tasks.take n).map fun t=>Value.string t.name)]⟩) (fun (n:Nat)=>n ≤ p.tasks.length ∧ namesTo p.tasks n) (fun (n:Nat)=>p.tasks.length - n) (0) [some 1] [23] ⟨rfl,⟨rfl,rfl,rfl,rfl,rfl,rfl,I⟩,⟨⟨rfl,⟨rfl,I⟩⟩,I⟩,⟨rfl,I⟩⟩ ?_ ?_
 ·exact ⟨Nat.zero_le _,fun m t hm=>by omega⟩
 rintro n ⟨hn,hc⟩
 conv=>whnf
 refine g 0 0 [] ?_
 conv=>whnf
 refine ⟨⟨I,I⟩,?_⟩
 refine W.sq ?_
 refine W.cn ?_
 conv=>whnf
 refine ⟨fun h3=>?_,fun h3=>?_⟩
 replace h3:=dt h3
 simp only [List.length_map] at h3
 refine W.skip ?_
 refine W.sq ?_
 refine W.blk ?_
 obtain ⟨y1,hy1⟩:=some_at (xs:=Plan.tasks p) (n:=n) (by omega)
 have hm1:=hw y1 (List.mem_of_getElem? hy1)
 refine g 28 31 [.x (taskT y1)] ?_
 conv=>whnf
 refine ⟨⟨⟨(by omega),ixl (by assumption)⟩,I,I,⟨I,I,I,I⟩,I⟩,?_⟩
 refine W.sq ?_
 by_cases h4:plainB (Task.name y1)
 refine g 31 40 [.call (V.b (decide (plainB (Task.name y1)))) ([[]]),.b (false),.b (false),.b (false),.b (false),.b (decide (Task.name y1 ∈ List.map Task.name (List.take n (Plan.tasks p)))),.b (false)] ?_
 conv=>whnf
 refine ⟨⟨I,I,⟨⟨I,I⟩,I,⟨⟨I,I⟩,I⟩,⟨I,I⟩,Go.K.c_impl_plain _ (by omega)⟩,I,I,⟨notF (by omega),I⟩,⟨notF (by omega),I⟩,⟨notF (by omega),I⟩,⟨notF (by omega),mem_strs,kin_strs⟩,notF (by omega),I⟩,?_⟩
 refine W.cn ?_
 conv=>whnf
 refine ⟨fun h5=>?_,fun h5=>?_⟩
 replace h5:=dt h5
 refine g 40 41 [] ?_
 conv=>whnf
 refine ⟨⟨I,I⟩,?_⟩
 refine W.ret ?_
 refine EndsW.rt ?_
 conv=>whnf
 refine ⟨⟨I,I,I⟩,?_,rfl⟩
 rotate_left 1
 replace h5:=df h5
 refine W.skip ?_
 refine rg [] ?_
 conv=>whnf
 refine ⟨⟨I,I,I,kin_strs,I⟩,?_⟩
 refine rg [.i ((↑n:Int) + (1:Int))] ?_
 conv=>whnf
 refine ⟨⟨w64 (by omega) (by omega),I,I⟩,?_⟩
 rotate_left 1
 refine g 31 40 [.call (V.b (decide (plainB (Task.name y1)))) ([[]]),.b (true),.b (true),.b (true),.b (true),.b (true)] ?_
 conv=>whnf
 refine ⟨⟨I,I,⟨⟨I,I⟩,I,⟨⟨I,I⟩,I⟩,⟨I,I⟩,Go.K.c_impl_plain _ (by omega)⟩,I,I,notT (by omega),notT (by omega),notT (by omega),notT (by omega),notT (by omega),I⟩,?_⟩
 refine W.cn ?_
 conv=>whnf
 refine ⟨fun _=>?_,noF (rfl)⟩
 refine g 40 41 [] ?_
 conv=>whnf
 refine ⟨⟨I,I⟩,?_⟩
 refine W.ret ?_
 refine EndsW.rt ?_
 conv=>whnf
 refine ⟨⟨I,I,I⟩,?_,rfl⟩
 rotate_left 1
 replace h3:=df h3
 simp only [List.length_map] at h3
 refine W.exit ?_
 refine W.sq ?_
 refine g 4 46 [] ?_
 conv=>whnf
 refine ⟨⟨I,I,I,I,I⟩,?_⟩
 refine W.blk ?_
 rotate_left 1
 ·exact vi (chk2 hlen (names_no hy1 (by grind))).symm
 ·refine ⟨n + 1,[some 1],[23],⟨rfl,⟨rfl,rfl,rfl,rfl,rfl,rfl,I⟩,⟨⟨rfl,⟨rfl,I⟩⟩,I⟩,⟨(congrArg some (snoc_mapf (by assumption))),I⟩⟩,?_,?_⟩
  rotate_left 1
  (dsimp only; omega)
  dsimp only
  exact ⟨by omega,to_step hc hy1 (by grind)⟩
 ·exact vi (chk2 hlen (names_no hy1 (by grind))).symm
 have hnames:namesOk p.tasks:=to_all hc (by omega)
 refine W.lp (fun s (n:Nat)=>⟨[(1,s.s 1),(3,s.s 3),(46,s.s 46),(47,s.s 47),(48,.i n)],[(1,[s.c 1 0])],[]⟩) (fun (n:Nat)=>n ≤ p.tasks.length ∧ ∀ t ∈ p.tasks.take n,1 ≤ t.cost ∧ t.cost ≤ 20) (fun (n:Nat)=>p.tasks.length - n) (0) [some 1] [] ⟨rfl,⟨rfl,rfl,rfl,rfl,rfl,I⟩,⟨⟨rfl,⟨rfl,I⟩⟩,I⟩,I⟩ (by simp) ?_
 rintro n2 ⟨hn2,hc2⟩
 conv=>whnf
 refine g 0 0 [] ?_
 conv=>whnf
 refine ⟨⟨I,I⟩,?_⟩
 refine W.sq ?_
 refine W.cn ?_
 conv=>whnf
 refine ⟨fun h4=>?_,fun h4=>?_⟩
 replace h4:=dt h4
 simp only [List.length_map] at h4
 refine W.skip ?_
 refine W.sq ?_
 refine W.blk ?_
 obtain ⟨y1,hy1⟩:=some_at (xs:=Plan.tasks p) (n:=n2) (by omega)
 have hm1:=hw y1 (List.mem_of_getElem? hy1)
 refine g 49 52 [.x (taskT y1)] ?_
 conv=>whnf
 refine ⟨⟨⟨(by omega),ixl (by assumption)⟩,I,I,⟨I,I,I,I⟩,I⟩,?_⟩
 by_cases h5:Task.cost y1 < (1:Int)
 refine g 52 59 [.b (true),.b (true),.b (true),.b (true)] ?_
 conv=>whnf
 refine ⟨⟨I,I,I,I,dT (by omega),dT (by omega),dT (by omega),dT (by omega),I⟩,?_⟩
 refine W.cn ?_
 conv=>whnf
 refine ⟨fun _=>?_,noF (rfl)⟩
 refine g 8 9 [] ?_
 conv=>whnf
 refine ⟨⟨I,I⟩,?_⟩
 refine W.ret ?_
 refine EndsW.rt ?_
 conv=>whnf
 refine ⟨⟨I,I,I⟩,?_,rfl⟩
 rotate_left 1
 refine g 52 59 [.b (false),.b (false),.b (false),.b (false)] ?_
 conv=>whnf
 refine ⟨⟨I,I,I,I,⟨dF (by omega),I⟩,⟨dF (by omega),I⟩,⟨dF (by omega),I⟩,dF (by omega),I⟩,?_⟩
 refine W.cn ?_
 conv=>whnf
 refine ⟨fun h6=>?_,fun h6=>?_⟩
 replace h6:=dt h6
 refine g 8 9 [] ?_
 conv=>whnf
 refine ⟨⟨I,I⟩,?_⟩
 refine W.ret ?_
 refine EndsW.rt ?_
 conv=>whnf
 refine ⟨⟨I,I,I⟩,?_,rfl⟩
 rotate_left 1
 replace h6:=df h6
 refine W.skip ?_
 refine rg [.i ((↑n2:Int) + (1:Int))] ?_
 conv=>whnf
 refine ⟨⟨w64 (by omega) (by omega),I,I⟩,?_⟩
 rotate_left 1
 replace h4:=df h4
 simp only [List.length_map] at h4
 refine W.exit ?_
 refine W.sq ?_
 refine g 46 62 [] ?_
 conv=>whnf
 refine ⟨⟨I,I,I,I,I⟩,?_⟩
 refine W.blk ?_
 rotate_left 1
 ·exact vi (chk3 hlen hnames (costs_no (by assumption) (by omega))).symm
 ·exact vi (chk3 hlen hnames (costs_no (by assumption) (by omega))).symm
 ·refine ⟨n2 + 1,[some 1],[],⟨rfl,⟨rfl,rfl,rfl,rfl,rfl,I⟩,⟨⟨rfl,⟨rfl,I⟩⟩,I⟩,I⟩,?_,?_⟩
  rotate_left 1
  (dsimp only; omega)
  dsimp only
  exact ⟨by omega,all_take hc2 (by assumption) (by omega)⟩
 have hcosts:costsOk p.tasks:=all_done hc2 (by omega)
 refine W.lp (fun s (n:Nat)=>⟨[(3,s.s 3),(62,s.s 62),(63,s.s 63),(64,.i n)],[],[]⟩) (fun (n:Nat)=>n ≤ p.tasks.length ∧ depsTo p.tasks n) (fun (n:Nat)=>p.tasks.length - n) (0) [] [] ⟨rfl,⟨rfl,rfl,rfl,rfl,I⟩,I,I⟩ ?_ ?_
 ·exact ⟨Nat.zero_le _,fun m t hm=>by omega⟩
 rintro n3 ⟨hn3,hc3⟩
 conv=>whnf
 refine g 0 0 [] ?_
 conv=>whnf
 refine ⟨⟨I,I⟩,?_⟩
 refine W.sq ?_
 refine W.cn ?_
 conv=>whnf
 refine ⟨fun h5=>?_,fun h5=>?_⟩
 replace h5:=dt h5
 simp only [List.length_map] at h5
 refine W.skip ?_
 refine W.sq ?_
 refine W.blk ?_
 obtain ⟨y1,hy1⟩:=some_at (xs:=Plan.tasks p) (n:=n3) (by omega)
 have hm1:=hw y1 (List.mem_of_getElem? hy1)
 refine g 65 69 [.x (taskT y1)] ?_
 conv=>whnf
 refine ⟨⟨I,⟨(by omega),ixl (by assumption)⟩,I,I,I,⟨I,I,I,I⟩,I⟩,?_⟩
 refine W.sq ?_
 refine g 69 72 [] ?_
 conv=>whnf
 refine ⟨⟨I,I,I,I,I⟩,?_⟩
 refine W.cn ?_
 conv=>whnf
 refine ⟨fun h6=>?_,fun h6=>?_⟩
 replace h6:=dt h6
 simp only [List.length_map] at h6
 refine g 72 73 [] ?_
 conv=>whnf
 refine ⟨⟨I,I⟩,?_⟩
 refine W.ret ?_
 refine EndsW.rt ?_
 conv=>whnf
 refine ⟨⟨I,I,I⟩,?_,rfl⟩
 rotate_left 1
 replace h6:=df h6
 simp only [List.length_map] at h6
 refine W.skip ?_
 refine g 72 73 [] ?_
 conv=>whnf
 refine ⟨⟨I,I⟩,?_⟩
 refine g 10 11 [] ?_
 conv=>whnf
 refine ⟨⟨I,I,I,I,I⟩,?_⟩
 refine W.blk ?_
 rotate_left 1
 replace h5:=df h5
 simp only [List.length_map] at h5
 refine W.exit ?_
 refine g 62 66 [] ?_
 conv=>whnf
 refine ⟨⟨I,I⟩,?_⟩
 refine W.ret ?_
 refine EndsW.rt ?_
 conv=>whnf
 refine ⟨⟨I,I,I⟩,?_,rfl⟩
 rotate_left 1
 ·exact vi (chk4 hlen hnames hcosts (deps_no (by assumption) (fun e=>by have:=e.1; omega))).symm
 ·skip
  refine W.lp (fun s (x:Nat × Int)=>match x with | (k,last)=>⟨[(3,s.s 3),(9,s.s 9),(11,.i last),(62,s.s 62),(63,s.s 63),(64,s.s 64),(74,s.s 74),(75,s.s 75),(76,.i k)],[],[]⟩) (fun (x:Nat × Int)=>match x with | (k,last)=>k ≤ y1.deps.length ∧ incrAt n3 y1.deps k last) (fun (x:Nat × Int)=>match x with | (k,last)=>y1.deps.length - k) ((0,-1)) [] [] ⟨rfl,⟨rfl,rfl,rfl,rfl,rfl,rfl,rfl,rfl,rfl,I⟩,I,I⟩ ?_ ?_
  ·exact ⟨Nat.zero_le _,Iff.rfl⟩
  rintro ⟨k,last⟩ ⟨hk,hi⟩
  conv=>whnf
  refine g 0 0 [] ?_
  conv=>whnf
  refine ⟨⟨I,I⟩,?_⟩
  refine W.sq ?_
  refine W.cn ?_
  conv=>whnf
  refine ⟨fun h7=>?_,fun h7=>?_⟩
  replace h7:=dt h7
  simp only [List.length_map] at h7
  refine W.skip ?_
  refine W.sq ?_
  refine W.blk ?_
  obtain ⟨y2,hy2⟩:=some_at (xs:=Task.deps y1) (n:=k) (by omega)
  refine g 77 80 [.x (intT y2)] ?_
  conv=>whnf
  refine ⟨⟨⟨(by omega),ixl (by assumption)⟩,I,I,I⟩,?_⟩
  refine W.sq ?_
  by_cases h8:y2 ≤ last
  refine g 80 87 [.b (true),.b (true),.b (true),.b (true)] ?_
  conv=>whnf
  refine ⟨⟨I,I,I,I,dT (by omega),dT (by omega),dT (by omega),dT (by omega),I⟩,?_⟩
  refine W.cn ?_
  conv=>whnf
  refine ⟨fun _=>?_,noF (rfl)⟩
  refine g 87 88 [] ?_
  conv=>whnf
  refine ⟨⟨I,I⟩,?_⟩
  refine W.ret ?_
  refine EndsW.rt ?_
  conv=>whnf
  refine ⟨⟨I,I,I⟩,?_,rfl⟩
  rotate_left 1
  refine g 80 87 [.b (false),.b (false),.b (false),.b (false)] ?_
  conv=>whnf
  refine ⟨⟨I,I,I,I,⟨dF (by omega),I⟩,⟨dF (by omega),I⟩,⟨dF (by omega),I⟩,dF (by omega),I⟩,?_⟩
  refine W.cn ?_
  conv=>whnf
  refine ⟨fun h9=>?_,fun h9=>?_⟩
  replace h9:=dt h9
  refine g 87 88 [] ?_
  conv=>whnf
  refine ⟨⟨I,I⟩,?_⟩
  refine W.ret ?_
  refine EndsW.rt ?_
  conv=>whnf
  refine ⟨⟨I,I,I⟩,?_,rfl⟩
  rotate_left 1
  replace h9:=df h9
  refine W.skip ?_
  refine rg [] ?_
  conv=>whnf
  refine ⟨⟨I,I,I⟩,?_⟩
  refine rg [.i ((↑k:Int) + (1:Int))] ?_
  conv=>whnf
  refine ⟨⟨w64 (by omega) (by omega),I,I⟩,?_⟩
  rotate_left 1
  replace h7:=df h7
  simp only [List.length_map] at h7
  refine W.exit ?_
  refine rg [.i ((↑n3:Int) + (1:Int))] ?_
  conv=>whnf
  refine ⟨⟨w64 (by omega) (by omega),I,I⟩,?_⟩
  rotate_left 1
  ·exact vi (chk4 hlen hnames hcosts (deps_no hy1 (fun e=>incr_no hi (by assumption) (by omega) e.2))).symm
  ·exact vi (chk4 hlen hnames hcosts (deps_no hy1 (fun e=>incr_no hi (by assumption) (by omega) e.2))).symm
  ·refine ⟨(k + 1,y2),[],[],⟨rfl,⟨rfl,rfl,rfl,rfl,rfl,rfl,rfl,rfl,rfl,I⟩,I,I⟩,?_,?_⟩
   rotate_left 1
   (dsimp only; omega)
   dsimp only
   exact ⟨by omega,incr_step hi (by assumption) (by omega)⟩
  ·refine ⟨n3 + 1,[],[],⟨rfl,⟨rfl,rfl,rfl,rfl,I⟩,I,I⟩,?_,?_⟩
   rotate_left 1
   (dsimp only; omega)
   dsimp only
   exact ⟨by omega,to_step hc3 hy1 ⟨by omega,incr_end hi (by omega)⟩⟩
 exact vi (chk0 hlen hnames hcosts (to_all hc3 (by omega))).symm
end Go.K
end
section
set_option linter.unusedVariables false
set_option linter.unusedSimpArgs false
set_option maxHeartbeats 4000000
set_option maxRecDepth 20000
open Go Go.Tm Go.Proofs Classical
namespace Go.K
theorem mem_take_map {xs:List Task} {n k:Nat} {a:Task} (h:xs[k]? = some a) (hk:k < n):a.name ∈ (xs.take n).map Task.name:=by
 refine List.mem_map.2 ⟨a,?_,rfl⟩
 refine List.mem_of_getElem? (i:=k) ?_
 rw [List.getElem?_take,if_pos hk]; exact h
theorem nmem_take {xs:List Task} {n k:Nat} {s:ByteArray} {a:Task} (h:s ∉ (xs.take k).map Task.name) (ha:xs[k]? = some a) (hne:a.name ≠ s):s ∉ (xs.take (k + 1)).map Task.name:=by
 rw [List.take_add_one,ha]; simp only [List.map_append,List.mem_append,not_or]
 exact ⟨h,by simpa using fun e=>hne e.symm⟩
theorem last_at {d:List Int} {k:Nat} {l y:Int} (h:d[k - 1]? = some l) (hy:d[((k:Int) - 1).toNat]? = some y):y = l:=by
 have e:((k:Int) - 1).toNat = k - 1:=by omega
 rw [e,h] at hy; cases hy; rfl
theorem c_spec_CheckPlan (p:Plan) (hp:planWf p):F n_spec_CheckPlan [.val (planR p)] (.i (checkPlan p.tasks)) [[]]:=by
 have hl:p.tasks.length ≤ 9223372036854775807:=hp.1
 have hw:∀ y ∈ p.tasks,y.name.size ≤ 9223372036854775807 ∧ y.deps.length ≤ 9223372036854775807:=hp.2
 refine i_spec_CheckPlan ?_
 conv=>whnf
 refine g 0 1 [] ?_
 conv=>whnf
 refine ⟨⟨⟨I,I⟩,I,I⟩,?_⟩
 refine g 10 13 [] ?_
 conv=>whnf
 refine ⟨⟨I,I,I,I,I⟩,?_⟩
 refine W.sq ?_
 by_cases h1:(↑(List.length (List.map taskT (Plan.tasks p))):Int) < (1:Int)
 simp only [List.length_map] at h1
 refine g 14 16 [.b (true),.b (true),.b (true)] ?_
 conv=>whnf
 refine ⟨⟨I,I,I,(by simp [*]),(by simp [*]),(by simp [*]),I⟩,?_⟩
 refine W.cn ?_
 conv=>whnf
 refine ⟨fun _=>?_,noF (rfl)⟩
 refine g 17 19 [] ?_
 conv=>whnf
 refine ⟨⟨I,I⟩,?_⟩
 refine W.ret ?_
 refine EndsW.rt ?_
 conv=>whnf
 refine ⟨⟨I,I,I⟩,?_,rfl⟩
 rotate_left 1
 simp only [List.length_map] at h1
 refine g 14 16 [.b (false),.b (false),.b (false)] ?_
 conv=>whnf
 refine ⟨⟨I,I,I,⟨(by simp [*]),I⟩,⟨(by simp [*]),I⟩,(by simp [*]),I⟩,?_⟩
 refine W.cn ?_
 conv=>whnf
 refine ⟨fun h2=>?_,fun h2=>?_⟩
 replace h2:=dt h2
 simp only [List.length_map] at h2
 refine g 17 19 [] ?_
 conv=>whnf
 refine ⟨⟨I,I⟩,?_⟩
 refine W.ret ?_
 refine EndsW.rt ?_
 conv=>whnf
 refine ⟨⟨I,I,I⟩,?_,rfl⟩
 rotate_left 1
 replace h2:=df h2
 simp only [List.length_map] at h2
 refine W.skip ?_
 refine W.sq ?_
 refine g 17 19 [] ?_
 conv=>whnf
 refine ⟨⟨I,I⟩,?_⟩
 refine W.blk ?_
 rotate_left 1
 ·exact vi (chk1 (by omega)).symm
 ·exact vi (chk1 (by omega)).symm
 have hlen:1 ≤ p.tasks.length ∧ p.tasks.length ≤ 40:=by omega
 refine W.lp (fun s (n:Nat)=>⟨[(1,s.s 1),(3,s.s 3),(4,.i n),(13,s.s 13),(16,s.s 16)],[(1,[s.c 1 0])],[]⟩) (fun (n:Nat)=>n ≤ p.tasks.length ∧ namesTo p.tasks n) (fun (n:Nat)=>p.tasks.length - n) (0) [some 1] [] ⟨rfl,⟨rfl,rfl,rfl,rfl,rfl,I⟩,⟨⟨rfl,⟨rfl,I⟩⟩,I⟩,I⟩ ?_ ?_
 ·exact ⟨Nat.zero_le _,fun m t hm=>by omega⟩
 rintro n ⟨hn,hc⟩
 conv=>whnf
 refine W.sq ?_
 refine g 19 21 [] ?_
 conv=>whnf
 refine ⟨⟨I,I,I,I⟩,?_⟩
 refine W.cn ?_
 conv=>whnf
 refine ⟨fun h3=>?_,fun h3=>?_⟩
 replace h3:=dt h3
 simp only [List.length_map] at h3
 refine W.skip ?_
 refine W.sq ?_
 refine W.blk ?_
 refine W.sq ?_
 obtain ⟨y1,hy1⟩:=some_at (xs:=Plan.tasks p) (n:=n) (by omega)
 have hm1:=hw y1 (List.mem_of_getElem? hy1)
 refine g 21 31 [.x (taskT y1),.call (V.b (decide (plainB (Task.name y1)))) ([[]])] ?_
 conv=>whnf
 refine ⟨⟨I,I,I,⟨(by omega),ixl (by assumption)⟩,I,I,⟨⟨I,I⟩,I,⟨⟨I,I⟩,I⟩,⟨I,I⟩,Go.K.c_spec_l1NameOk _ (by omega)⟩,I,I⟩,?_⟩
 refine W.cn ?_
 conv=>whnf
 refine ⟨fun h4=>?_,fun h4=>?_⟩
 replace h4:=ndt h4
 refine g 31 32 [] ?_
 conv=>whnf
 refine ⟨⟨I,I⟩,?_⟩
 refine W.ret ?_
 refine EndsW.rt ?_
 conv=>whnf
 refine ⟨⟨I,I,I⟩,?_,rfl⟩
 rotate_left 1
 replace h4:=ndf h4
 refine W.skip ?_
 refine g 31 32 [] ?_
 conv=>whnf
 refine ⟨⟨I,I⟩,?_⟩
 refine W.blk ?_
 rotate_left 1
 replace h3:=df h3
 simp only [List.length_map] at h3
 refine W.exit ?_
 refine W.sq ?_
 refine g 4 5 [] ?_
 conv=>whnf
 refine ⟨⟨I,I⟩,?_⟩
 refine W.blk ?_
 rotate_left 1
 ·exact vi (chk2 hlen (names_no hy1 (fun e=>absurd e.1 (by assumption)))).symm
 ·refine W.lp (fun s (k:Nat)=>⟨[(1,s.s 1),(3,s.s 3),(4,s.s 4),(5,.i k),(13,s.s 13),(16,s.s 16)],[(1,[s.c 1 0])],[]⟩) (fun (k:Nat)=>k ≤ n ∧ y1.name ∉ (p.tasks.take k).map Task.name) (fun (k:Nat)=>n - k) (0) [some 1] [] ⟨rfl,⟨rfl,rfl,rfl,rfl,rfl,rfl,I⟩,⟨⟨rfl,⟨rfl,I⟩⟩,I⟩,I⟩ (by simp) ?_
  rintro k ⟨hk,hm⟩
  conv=>whnf
  refine W.sq ?_
  refine g 32 34 [] ?_
  conv=>whnf
  refine ⟨⟨I,I,I,I⟩,?_⟩
  refine W.cn ?_
  conv=>whnf
  refine ⟨fun h5=>?_,fun h5=>?_⟩
  replace h5:=dt h5
  refine W.skip ?_
  refine W.sq ?_
  refine W.blk ?_
  obtain ⟨y2,hy2⟩:=some_at (xs:=Plan.tasks p) (n:=k) (by omega)
  have hm2:=hw y2 (List.mem_of_getElem? hy2)
  refine gd 34 49 [[],[],[],[.x (taskT y2)],[],[],[],[],[],[.x (taskT y1)],[],[],[]] ?_
  conv=>whnf
  refine ⟨⟨I,I,I,⟨(by omega),ixl (by assumption)⟩,I,I,I,I,I,⟨(by omega),ixl (by assumption)⟩,I,I,I,I⟩,by kernel_rfl,?_⟩
  refine W.cn ?_
  conv=>whnf
  refine ⟨fun h6=>?_,fun h6=>?_⟩
  replace h6:=dt h6
  refine g 49 50 [] ?_
  conv=>whnf
  refine ⟨⟨I,I⟩,?_⟩
  refine W.ret ?_
  refine EndsW.rt ?_
  conv=>whnf
  refine ⟨⟨I,I,I⟩,?_,rfl⟩
  rotate_left 1
  replace h6:=df h6
  refine W.skip ?_
  refine rg [.i ((↑k:Int) + (1:Int))] ?_
  conv=>whnf
  refine ⟨⟨I,w64 (by omega) (by omega),I,I⟩,?_⟩
  rotate_left 1
  replace h5:=df h5
  refine W.exit ?_
  refine rg [.i ((↑n:Int) + (1:Int))] ?_
  conv=>whnf
  refine ⟨⟨I,w64 (by omega) (by omega),I,I⟩,?_⟩
  rotate_left 1
  ·exact vi (chk2 hlen (names_no hy1 (fun e=>e.2 (by rw [← (show y2.name = y1.name by assumption)]; exact mem_take_map hy2 (by omega))))).symm
  ·refine ⟨k + 1,[some 1],[],⟨rfl,⟨rfl,rfl,rfl,rfl,rfl,rfl,I⟩,⟨⟨rfl,⟨rfl,I⟩⟩,I⟩,I⟩,?_,?_⟩
   rotate_left 1
   (dsimp only; omega)
   dsimp only
   exact ⟨by omega,nmem_take (n:=n) hm hy2 (by assumption)⟩
  ·refine ⟨n + 1,[some 1],[],⟨rfl,⟨rfl,rfl,rfl,rfl,rfl,I⟩,⟨⟨rfl,⟨rfl,I⟩⟩,I⟩,I⟩,?_,?_⟩
   rotate_left 1
   (dsimp only; omega)
   dsimp only
   exact ⟨by omega,to_step hc hy1 ⟨by assumption,by rwa [show k = n by omega] at hm⟩⟩
 have hnames:namesOk p.tasks:=to_all hc (by omega)
 refine W.lp (fun s (n:Nat)=>⟨[(1,s.s 1),(3,s.s 3),(6,.i n),(13,s.s 13),(16,s.s 16)],[(1,[s.c 1 0])],[]⟩) (fun (n:Nat)=>n ≤ p.tasks.length ∧ ∀ t ∈ p.tasks.take n,1 ≤ t.cost ∧ t.cost ≤ 20) (fun (n:Nat)=>p.tasks.length - n) (0) [some 1] [] ⟨rfl,⟨rfl,rfl,rfl,rfl,rfl,I⟩,⟨⟨rfl,⟨rfl,I⟩⟩,I⟩,I⟩ (by simp) ?_
 rintro n2 ⟨hn2,hc2⟩
 conv=>whnf
 refine W.sq ?_
 refine g 50 52 [] ?_
 conv=>whnf
 refine ⟨⟨I,I,I,I⟩,?_⟩
 refine W.cn ?_
 conv=>whnf
 refine ⟨fun h4=>?_,fun h4=>?_⟩
 replace h4:=dt h4
 simp only [List.length_map] at h4
 refine W.skip ?_
 refine W.sq ?_
 refine W.blk ?_
 obtain ⟨y1,hy1⟩:=some_at (xs:=Plan.tasks p) (n:=n2) (by omega)
 have hm1:=hw y1 (List.mem_of_getElem? hy1)
 by_cases h5:Task.cost y1 < (1:Int)
 refine g 52 70 [.x (taskT y1),.b (true),.b (true),.b (true),.b (true),.b (true),.b (true),.b (true),.b (true)] ?_
 conv=>whnf
 refine ⟨⟨I,I,I,⟨(by omega),ixl (by assumption)⟩,I,I,I,I,dT (by omega),dT (by omega),dT (by omega),dT (by omega),dT (by omega),dT (by omega),dT (by omega),dT (by omega),I⟩,?_⟩
 refine W.cn ?_
 conv=>whnf
 refine ⟨fun _=>?_,noF (rfl)⟩
 refine g 70 71 [] ?_
 conv=>whnf
 refine ⟨⟨I,I⟩,?_⟩
 refine W.ret ?_
 refine EndsW.rt ?_
 conv=>whnf
 refine ⟨⟨I,I,I⟩,?_,rfl⟩
 rotate_left 1
 refine g 52 70 [.x (taskT y1),.b (false),.b (false),.b (false),.b (false),.x (taskT y1),.b (false),.b (false),.b (false),.b (false)] ?_
 conv=>whnf
 refine ⟨⟨I,I,I,⟨(by omega),ixl (by assumption)⟩,I,I,I,I,⟨dF (by omega),I⟩,⟨dF (by omega),I⟩,⟨dF (by omega),I⟩,⟨dF (by omega),(by omega),ixl (by assumption)⟩,⟨dF (by omega),I⟩,⟨dF (by omega),I⟩,⟨dF (by omega),I⟩,dF (by omega),I⟩,?_⟩
 refine W.cn ?_
 conv=>whnf
 refine ⟨fun h6=>?_,fun h6=>?_⟩
 replace h6:=dt h6
 refine g 70 71 [] ?_
 conv=>whnf
 refine ⟨⟨I,I⟩,?_⟩
 refine W.ret ?_
 refine EndsW.rt ?_
 conv=>whnf
 refine ⟨⟨I,I,I⟩,?_,rfl⟩
 rotate_left 1
 replace h6:=df h6
 refine W.skip ?_
 refine rg [.i ((↑n2:Int) + (1:Int))] ?_
 conv=>whnf
 refine ⟨⟨I,w64 (by omega) (by omega),I,I⟩,?_⟩
 rotate_left 1
 replace h4:=df h4
 simp only [List.length_map] at h4
 refine W.exit ?_
 refine W.sq ?_
 refine g 6 7 [] ?_
 conv=>whnf
 refine ⟨⟨I,I⟩,?_⟩
 refine W.blk ?_
 rotate_left 1
 ·exact vi (chk3 hlen hnames (costs_no (by assumption) (by omega))).symm
 ·exact vi (chk3 hlen hnames (costs_no (by assumption) (by omega))).symm
 ·refine ⟨n2 + 1,[some 1],[],⟨rfl,⟨rfl,rfl,rfl,rfl,rfl,I⟩,⟨⟨rfl,⟨rfl,I⟩⟩,I⟩,I⟩,?_,?_⟩
  rotate_left 1
  (dsimp only; omega)
  dsimp only
  exact ⟨by omega,all_take hc2 (by assumption) (by omega)⟩
 have hcosts:costsOk p.tasks:=all_done hc2 (by omega)
 refine W.lp (fun s (n:Nat)=>⟨[(1,s.s 1),(3,s.s 3),(7,.i n),(13,s.s 13),(16,s.s 16)],[(1,[s.c 1 0])],[]⟩) (fun (n:Nat)=>n ≤ p.tasks.length ∧ depsTo p.tasks n) (fun (n:Nat)=>p.tasks.length - n) (0) [some 1] [] ⟨rfl,⟨rfl,rfl,rfl,rfl,rfl,I⟩,⟨⟨rfl,⟨rfl,I⟩⟩,I⟩,I⟩ ?_ ?_
 ·exact ⟨Nat.zero_le _,fun m t hm=>by omega⟩
 rintro n3 ⟨hn3,hc3⟩
 conv=>whnf
 refine W.sq ?_
 refine g 71 73 [] ?_
 conv=>whnf
 refine ⟨⟨I,I,I,I⟩,?_⟩
 refine W.cn ?_
 conv=>whnf
 refine ⟨fun h5=>?_,fun h5=>?_⟩
 replace h5:=dt h5
 simp only [List.length_map] at h5
 refine W.skip ?_
 refine W.sq ?_
 refine W.blk ?_
 obtain ⟨y1,hy1⟩:=some_at (xs:=Plan.tasks p) (n:=n3) (by omega)
 have hm1:=hw y1 (List.mem_of_getElem? hy1)
 refine g 73 82 [.x (taskT y1)] ?_
 conv=>whnf
 refine ⟨⟨I,I,I,⟨(by omega),ixl (by assumption)⟩,I,I,I,I⟩,?_⟩
 refine W.sq ?_
 refine g 82 84 [] ?_
 conv=>whnf
 refine ⟨⟨I,I,I,I⟩,?_⟩
 refine W.cn ?_
 conv=>whnf
 refine ⟨fun h6=>?_,fun h6=>?_⟩
 replace h6:=dt h6
 simp only [List.length_map] at h6
 refine g 84 85 [] ?_
 conv=>whnf
 refine ⟨⟨I,I⟩,?_⟩
 refine W.ret ?_
 refine EndsW.rt ?_
 conv=>whnf
 refine ⟨⟨I,I,I⟩,?_,rfl⟩
 rotate_left 1
 replace h6:=df h6
 simp only [List.length_map] at h6
 refine W.skip ?_
 refine g 84 85 [] ?_
 conv=>whnf
 refine ⟨⟨I,I⟩,?_⟩
 refine W.blk ?_
 rotate_left 1
 replace h5:=df h5
 simp only [List.length_map] at h5
 refine W.exit ?_
 refine g 7 74 [] ?_
 conv=>whnf
 refine ⟨⟨I,I⟩,?_⟩
 refine W.ret ?_
 refine EndsW.rt ?_
 conv=>whnf
 refine ⟨⟨I,I,I⟩,?_,rfl⟩
 rotate_left 1
 ·exact vi (chk4 hlen hnames hcosts (deps_no (by assumption) (fun e=>by have:=e.1; omega))).symm
 ·refine W.lp (fun s (x:Nat × Int)=>match x with | (k,last)=>⟨[(1,s.s 1),(3,s.s 3),(7,s.s 7),(8,s.s 8),(9,.i k),(13,s.s 13),(16,s.s 16)],[(1,[s.c 1 0])],[]⟩) (fun (x:Nat × Int)=>match x with | (k,last)=>k ≤ y1.deps.length ∧ incrAt n3 y1.deps k last ∧ -1 ≤ last ∧ (k = 0 → last = -1) ∧ (0 < k → y1.deps[k - 1]? = some last)) (fun (x:Nat × Int)=>match x with | (k,last)=>y1.deps.length - k) ((0,-1)) [some 1] [] ⟨rfl,⟨rfl,rfl,rfl,rfl,rfl,rfl,rfl,I⟩,⟨⟨rfl,⟨rfl,I⟩⟩,I⟩,I⟩ ?_ ?_
  ·exact ⟨Nat.zero_le _,Iff.rfl,by omega,fun _=>rfl,fun h=>by omega⟩
  rintro ⟨k,last⟩ ⟨hk,hi,hlo,hz,hs⟩
  conv=>whnf
  refine W.sq ?_
  refine g 85 88 [] ?_
  conv=>whnf
  refine ⟨⟨I,I,I,I,I⟩,?_⟩
  refine W.cn ?_
  conv=>whnf
  refine ⟨fun h7=>?_,fun h7=>?_⟩
  replace h7:=dt h7
  simp only [List.length_map] at h7
  refine W.skip ?_
  refine W.sq ?_
  refine W.blk ?_
  obtain ⟨y2,hy2⟩:=some_at (xs:=Task.deps y1) (n:=k) (by omega)
  by_cases h8:y2 < (0:Int)
  refine gd 88 119 [[],[],[.x (intT y2)],[],[],[],[.b (true)],[.b (true)],[.b (true)],[.b (true)],[.b (true)],[.b (true)],[.b (true)],[],[.b (true)],[.b (true)],[.b (true)],[.b (false)],[.b (false)],[.b (false)],[.b (false)],[.b (false)],[.b (false)],[.b (false)],[.b (false)],[.b (false)],[.b (false)],[.b (true)],[.b (true)]] ?_
  conv=>whnf
  refine ⟨⟨I,I,⟨(by omega),ixl (by assumption)⟩,I,I,I,dT (by omega),dT (by omega),dT (by omega),dT (by omega),dT (by omega),dT (by omega),dT (by omega),I,rfl,rfl,rfl,I,I,I,I,I,I,I,I,I,I,rfl,rfl,I⟩,by kernel_rfl,?_⟩
  refine W.cn ?_
  conv=>whnf
  refine ⟨fun _=>?_,noF (rfl)⟩
  refine g 119 120 [] ?_
  conv=>whnf
  refine ⟨⟨I,I⟩,?_⟩
  refine W.ret ?_
  refine EndsW.rt ?_
  conv=>whnf
  refine ⟨⟨I,I,I⟩,?_,rfl⟩
  rotate_left 1
  by_cases h9:(↑n3:Int) ≤ y2
  refine gd 88 119 [[],[],[.x (intT y2)],[],[],[],[.b (false)],[.b (false)],[.b (false),.x (intT y2)],[.b (false)],[.b (false)],[.b (false)],[.b (false)],[],[.b (true)],[.b (true)],[.b (true)],[.b (false)],[.b (false)],[.b (false)],[.b (false)],[.b (false)],[.b (false)],[.b (false)],[.b (false)],[.b (false)],[.b (false)],[.b (true)],[.b (true)]] ?_
  conv=>whnf
  refine ⟨⟨I,I,⟨(by omega),ixl (by assumption)⟩,I,I,I,⟨dF (by omega),I⟩,⟨dF (by omega),I⟩,⟨dF (by omega),(by omega),ixl (by assumption)⟩,⟨dF (by omega),I⟩,⟨dF (by omega),I⟩,⟨dF (by omega),I⟩,dF (by omega),I,dT (by omega),dT (by omega),dT (by omega),I,I,I,I,I,I,I,I,I,I,dT (by omega),dT (by omega),I⟩,by kernel_rfl,?_⟩
  refine W.cn ?_
  conv=>whnf
  refine ⟨fun _=>?_,noF (rfl)⟩
  refine g 119 120 [] ?_
  conv=>whnf
  refine ⟨⟨I,I⟩,?_⟩
  refine W.ret ?_
  refine EndsW.rt ?_
  conv=>whnf
  refine ⟨⟨I,I,I⟩,?_,rfl⟩
  rotate_left 1
  by_cases h10:(0:Int) < (↑k:Int)
  obtain ⟨y3,hy3⟩:=some_at (xs:=Task.deps y1) (n:=Int.toNat ((↑k:Int) - (1:Int))) (by omega)
  refine gd 88 119 [[],[],[.x (intT y2)],[],[],[],[.b (false)],[.b (false)],[.b (false),.x (intT y2)],[.b (false)],[.b (false)],[.b (false)],[.b (false)],[],[.b (false)],[.b (false)],[.b (false)],[.b (true)],[.b (true)],[.b (true),.i ((↑k:Int) - (1:Int))],[.b (true),.x (intT y3)],[.b (true)],[.b (true)],[.b (true)],[.b (true),.x (intT y2)],[.b (true)],[.b (true)],[.b (false),.b (true)],[.b (false)]] ?_
  conv=>whnf
  refine ⟨⟨I,I,⟨(by omega),ixl (by assumption)⟩,I,I,I,⟨dF (by omega),I⟩,⟨dF (by omega),I⟩,⟨dF (by omega),(by omega),ixl (by assumption)⟩,⟨dF (by omega),I⟩,⟨dF (by omega),I⟩,⟨dF (by omega),I⟩,dF (by omega),I,⟨dF (by omega),I⟩,⟨dF (by omega),I⟩,⟨dF (by omega),I⟩,⟨dT (by omega),I⟩,⟨dT (by omega),I⟩,⟨dT (by omega),w64 (by omega) (by omega)⟩,⟨dT (by omega),(by omega),ixl (by assumption)⟩,⟨dT (by omega),I⟩,⟨dT (by omega),I⟩,⟨dT (by omega),I⟩,⟨dT (by omega),(by omega),ixl (by assumption)⟩,⟨dT (by omega),I⟩,⟨dT (by omega),I⟩,⟨dF (by omega),dT (by omega)⟩,dF (by omega),I⟩,by kernel_rfl,?_⟩
  refine W.cn ?_
  conv=>whnf
  refine ⟨fun h11=>?_,fun h11=>?_⟩
  replace h11:=dt h11
  refine g 119 120 [] ?_
  conv=>whnf
  refine ⟨⟨I,I⟩,?_⟩
  refine W.ret ?_
  refine EndsW.rt ?_
  conv=>whnf
  refine ⟨⟨I,I,I⟩,?_,rfl⟩
  rotate_left 1
  replace h11:=df h11
  refine W.skip ?_
  refine rg [.i ((↑k:Int) + (1:Int))] ?_
  conv=>whnf
  refine ⟨⟨I,w64 (by omega) (by omega),I,I⟩,?_⟩
  rotate_left 1
  refine gd 88 119 [[],[],[.x (intT y2)],[],[],[],[.b (false)],[.b (false)],[.b (false),.x (intT y2)],[.b (false)],[.b (false)],[.b (false)],[.b (false)],[],[.b (false)],[.b (false)],[.b (false)],[.b (false)],[.b (false)],[.b (false)],[.b (false)],[.b (false)],[.b (false)],[.b (false)],[.b (false)],[.b (false)],[.b (false)],[.b (false),.b (false)],[.b (false)]] ?_
  conv=>whnf
  refine ⟨⟨I,I,⟨(by omega),ixl (by assumption)⟩,I,I,I,⟨dF (by omega),I⟩,⟨dF (by omega),I⟩,⟨dF (by omega),(by omega),ixl (by assumption)⟩,⟨dF (by omega),I⟩,⟨dF (by omega),I⟩,⟨dF (by omega),I⟩,dF (by omega),I,⟨dF (by omega),I⟩,⟨dF (by omega),I⟩,⟨dF (by omega),I⟩,dF (by omega),dF (by omega),dF (by omega),dF (by omega),dF (by omega),dF (by omega),dF (by omega),dF (by omega),dF (by omega),dF (by omega),⟨dF (by omega),dF (by omega)⟩,dF (by omega),I⟩,by kernel_rfl,?_⟩
  refine W.cn ?_
  conv=>whnf
  refine ⟨noT (rfl),fun _=>?_⟩
  refine W.skip ?_
  refine rg [.i ((↑k:Int) + (1:Int))] ?_
  conv=>whnf
  refine ⟨⟨I,w64 (by omega) (by omega),I,I⟩,?_⟩
  rotate_left 1
  replace h7:=df h7
  simp only [List.length_map] at h7
  refine W.exit ?_
  refine rg [.i ((↑n3:Int) + (1:Int))] ?_
  conv=>whnf
  refine ⟨⟨I,w64 (by omega) (by omega),I,I⟩,?_⟩
  rotate_left 1
  ·exact vi (chk4 hlen hnames hcosts (deps_no hy1 (fun e=>incr_no hi hy2 (by omega) e.2))).symm
  ·exact vi (chk4 hlen hnames hcosts (deps_no hy1 (fun e=>incr_no hi hy2 (by omega) e.2))).symm
  ·have hl3:=last_at (hs (by omega)) hy3
   exact vi (chk4 hlen hnames hcosts (deps_no hy1 (fun e=>incr_no hi hy2 (by omega) e.2))).symm
  ·have hl3:=last_at (hs (by omega)) hy3
   refine ⟨(k + 1,y2),[some 1],[],⟨rfl,⟨rfl,rfl,rfl,rfl,rfl,rfl,rfl,I⟩,⟨⟨rfl,⟨rfl,I⟩⟩,I⟩,I⟩,?_,?_⟩
   rotate_left 1
   (dsimp only; omega)
   dsimp only
   exact ⟨by omega,incr_step hi hy2 (by omega),by omega,fun e=>by omega,fun _=>hy2⟩
  ·have hl3:=hz (by omega)
   refine ⟨(k + 1,y2),[some 1],[],⟨rfl,⟨rfl,rfl,rfl,rfl,rfl,rfl,rfl,I⟩,⟨⟨rfl,⟨rfl,I⟩⟩,I⟩,I⟩,?_,?_⟩
   rotate_left 1
   (dsimp only; omega)
   dsimp only
   exact ⟨by omega,incr_step hi hy2 (by omega),by omega,fun e=>by omega,fun _=>hy2⟩
  ·refine ⟨n3 + 1,[some 1],[],⟨rfl,⟨rfl,rfl,rfl,rfl,rfl,I⟩,⟨⟨rfl,⟨rfl,I⟩⟩,I⟩,I⟩,?_,?_⟩
   rotate_left 1
   (dsimp only; omega)
   dsimp only
   exact ⟨by omega,to_step hc3 hy1 ⟨by omega,incr_end hi (by omega)⟩⟩
 exact vi (chk0 hlen hnames hcosts (to_all hc3 (by omega))).symm
end Go.K
end
section
set_option linter.unusedVariables false
set_option linter.unusedSimpArgs false
open Go Go.Tm Go.Proofs
namespace Go.K
theorem valueV_size (nm:ByteArray) (xs:List ByteArray):(valueV nm xs).size = 8:=by unfold valueV; rw [bl_size,beL_len]
structure Tale where
 epoch:Int
 results:List ByteArray
end Go.K
end
section
set_option linter.unusedVariables false
set_option linter.unusedSimpArgs false
set_option maxHeartbeats 4000000
set_option maxRecDepth 20000
open Go Go.Tm Go.Proofs
namespace Go.K
theorem incr_range {hi:Int}:∀ {last:Int} {ds:List Int},incr last hi ds → ∀ d ∈ ds,last < d ∧ d < hi
 | _,[],_,d,h=>by cases h
 | last,x :: ds,h,d,hd=>by
   rw [incr] at h
   rcases List.mem_cons.1 hd with e | hd
   ·subst e; exact h.1
   ·have:=incr_range h.2 d hd; omega
theorem chk_inv {ts:List Task} (h:checkPlan ts = 0):(1 ≤ ts.length ∧ ts.length ≤ 40) ∧ namesOk ts ∧ costsOk ts ∧ depsOk ts:=by
 by_cases h1:1 ≤ ts.length ∧ ts.length ≤ 40
 ·by_cases h2:namesOk ts
  ·by_cases h3:costsOk ts
   ·by_cases h4:depsOk ts
    ·exact ⟨h1,h2,h3,h4⟩
    ·rw [chk4 h1 h2 h3 h4] at h; cases h
   ·rw [chk3 h1 h2 h3] at h; cases h
  ·rw [chk2 h1 h2] at h; cases h
 ·rw [chk1 h1] at h; cases h
theorem chk_task {ts:List Task} (h:checkPlan ts = 0) {n:Nat} {t:Task} (ht:ts[n]? = some t):(1 ≤ t.name.size ∧ t.name.size ≤ 30) ∧ (1 ≤ t.cost ∧ t.cost ≤ 20) ∧ t.deps.length ≤ 8 ∧ ∀ d ∈ t.deps,0 ≤ d ∧ d < n:=by
 obtain ⟨h1,h2,h3,h4⟩:=chk_inv h
 have hn:=(List.getElem?_eq_some_iff.1 ht).1
 refine ⟨(h2 n t hn ht).1.2,h3 t (List.mem_of_getElem? ht),(h4 n t hn ht).1,fun d hd=>?_⟩
 have:=incr_range (h4 n t hn ht).2 d hd
 omega
theorem totS_le8:∀ {xs:List ByteArray},(∀ s ∈ xs,s.size ≤ 8) → totS xs ≤ 8 * xs.length
 | [],_=>by simp [totS]
 | s :: xs,h=>by
   have:=totS_le8 (xs:=xs) fun y hy=>h y (List.mem_cons_of_mem _ hy)
   have:=h s (List.mem_cons_self ..)
   simp only [totS,List.length_cons]; omega
end Go.K
end
section
set_option linter.unusedVariables false
set_option linter.unusedSimpArgs false
set_option maxHeartbeats 4000000
set_option maxRecDepth 20000
open Go Go.Tm Go.Proofs
namespace Go.K
structure Story where
 code:Int
 epoch:Int
 results:List ByteArray
 deriving DecidableEq
end Go.K
end
section
set_option linter.unusedVariables false
set_option linter.unusedSimpArgs false
set_option maxHeartbeats 4000000
set_option maxRecDepth 20000
open Go Go.Tm Go.Proofs
namespace Go.K
abbrev u8s (l:List Int):T:=.slc [false] (l.map b1T)
theorem x_spec_DrawWorkerTick {xs:List A} {R:V → List (List V) → Prop} (hrun:forceH (iniH 9 xs) fun H=>W Try.prog 9 (bodyOf Try.f53) H (EndsW 9 E [(2,93,true),(3,45,true)] xs R)) (h:(okAs xs && Nat.ble xs.length 9) = true:=by rfl):∃ res outs,R res outs ∧ F 53 xs res outs:=by obtain ⟨r,o,h1,h2⟩:=Fn.any Try.func53 rfl rfl E_ok rfl h hrun; exact ⟨r,o,h1,e_spec_DrawWorkerTick,h2⟩
theorem x_spec_l1Rd_pick {xs:List A} {R:V → List (List V) → Prop} (hrun:forceH (iniH 99 xs) fun H=>W Try.prog 99 (bodyOf Try.f125) H (EndsW 99 E [(4,3,false)] xs R)) (h:(okAs xs && Nat.ble xs.length 99) = true:=by rfl):∃ res outs,R res outs ∧ F 125 xs res outs:=by obtain ⟨r,o,h1,h2⟩:=Fn.any Try.func125 rfl rfl E_ok rfl h hrun; exact ⟨r,o,h1,e_spec_l1Rd_pick,h2⟩
theorem x_spec_l1Draw {xs:List A} {R:V → List (List V) → Prop} (hrun:forceH (iniH 69 xs) fun H=>W Try.prog 69 (bodyOf Try.f129) H (EndsW 69 E [(2,45,true)] xs R)) (h:(okAs xs && Nat.ble xs.length 69) = true:=by rfl):∃ res outs,R res outs ∧ F 129 xs res outs:=by obtain ⟨r,o,h1,h2⟩:=Fn.any Try.func129 rfl rfl E_ok rfl h hrun; exact ⟨r,o,h1,e_spec_l1Draw,h2⟩
theorem x_spec_l1Spoil {xs:List A} {R:V → List (List V) → Prop} (hrun:forceH (iniH 140 xs) fun H=>W Try.prog 140 (bodyOf Try.f131) H (EndsW 140 E [(4,45,true)] xs R)) (h:(okAs xs && Nat.ble xs.length 140) = true:=by rfl):∃ res outs,R res outs ∧ F 131 xs res outs:=by obtain ⟨r,o,h1,h2⟩:=Fn.any Try.func131 rfl rfl E_ok rfl h hrun; exact ⟨r,o,h1,e_spec_l1Spoil,h2⟩
theorem x_spec_l3Any {xs:List A} {R:V → List (List V) → Prop} (hrun:forceH (iniH 25 xs) fun H=>W Try.prog 25 (bodyOf Try.f134) H (EndsW 25 E [(2,93,true),(3,45,true)] xs R)) (h:(okAs xs && Nat.ble xs.length 25) = true:=by rfl):∃ res outs,R res outs ∧ F 134 xs res outs:=by obtain ⟨r,o,h1,h2⟩:=Fn.any Try.func134 rfl rfl E_ok rfl h hrun; exact ⟨r,o,h1,e_spec_l3Any,h2⟩
theorem x_spec_l1Many {xs:List A} {R:V → List (List V) → Prop} (hrun:forceH (iniH 20 xs) fun H=>W Try.prog 20 (bodyOf Try.f171) H (EndsW 20 E [(4,9,false)] xs R)) (h:(okAs xs && Nat.ble xs.length 20) = true:=by rfl):∃ res outs,R res outs ∧ F 171 xs res outs:=by obtain ⟨r,o,h1,h2⟩:=Fn.any Try.func171 rfl rfl E_ok rfl h hrun; exact ⟨r,o,h1,e_spec_l1Many,h2⟩
theorem x_spec_l3Draw {xs:List A} {R:V → List (List V) → Prop} (hrun:forceH (iniH 74 xs) fun H=>W Try.prog 74 (bodyOf Try.f172) H (EndsW 74 E [(4,93,true)] xs R)) (h:(okAs xs && Nat.ble xs.length 74) = true:=by rfl):∃ res outs,R res outs ∧ F 172 xs res outs:=by obtain ⟨r,o,h1,h2⟩:=Fn.any Try.func172 rfl rfl E_ok rfl h hrun; exact ⟨r,o,h1,e_spec_l3Draw,h2⟩
theorem x_spec_l3Spoil {xs:List A} {R:V → List (List V) → Prop} (hrun:forceH (iniH 83 xs) fun H=>W Try.prog 83 (bodyOf Try.f173) H (EndsW 83 E [(4,93,true)] xs R)) (h:(okAs xs && Nat.ble xs.length 83) = true:=by rfl):∃ res outs,R res outs ∧ F 173 xs res outs:=by obtain ⟨r,o,h1,h2⟩:=Fn.any Try.func173 rfl rfl E_ok rfl h hrun; exact ⟨r,o,h1,e_spec_l3Spoil,h2⟩
/-- The reader of a code: its bytes, and the place. -/
abbrev rdC (l:List Int) (pos:Int):List V:=[.t (u8s l),.t (.i pos)]
def u8ok (l:List Int):Prop:=l.length ≤ 2000 ∧ ∀ x ∈ l,0 ≤ x ∧ x ≤ 255
theorem c_spec_l1Open (l:List Int) (h:l.length ≤ 1099511627776):F n_spec_l1Open [.val (.t (u8s l))] (.tup [.tup (rdC (l.take 2000) 0)]) [[]]:=by
 refine i_spec_l1Open ?_
 conv=>whnf
 refine g 0 0 [] ?_
 conv=>whnf
 refine ⟨⟨I,I⟩,?_⟩
 refine W.sq ?_
 refine g 3 5 [] ?_
 conv=>whnf
 refine ⟨⟨I,I,I,I⟩,?_⟩
 refine W.cn ?_
 conv=>whnf
 refine ⟨fun h1=>?_,fun h1=>?_⟩
 replace h1:=dt h1
 simp only [List.length_map] at h1
 refine rg [.n ((2000:Nat))] ?_
 conv=>whnf
 refine ⟨⟨I,⟨I,rfl,I,(by omega),(by simp only [lens]; omega)⟩,I,I⟩,?_⟩
 refine g 5 11 [] ?_
 conv=>whnf
 refine ⟨⟨I,I,⟨I,I,I⟩,I,I⟩,?_⟩
 refine W.ret ?_
 refine EndsW.rt ?_
 conv=>whnf
 refine ⟨I,?_,rfl⟩
 rotate_left 1
 replace h1:=df h1
 simp only [List.length_map] at h1
 refine W.skip ?_
 refine g 5 11 [] ?_
 conv=>whnf
 refine ⟨⟨I,I,⟨I,I,I⟩,I,I⟩,?_⟩
 refine W.ret ?_
 refine EndsW.rt ?_
 conv=>whnf
 refine ⟨I,?_,rfl⟩
 rotate_left 1
 ·rw [List.drop_zero,← List.map_take]
 ·rw [List.take_of_length_le (by omega)]
theorem tmod_rng {x n:Int} (hx:0 ≤ x) (hn:0 < n):0 ≤ x.tmod n ∧ x.tmod n < n:=⟨Int.tmod_nonneg _ hx,Int.tmod_lt_of_pos _ hn⟩
theorem tdiv_rng {x n:Int} (hx:0 ≤ x) (hn:0 < n):0 ≤ x.tdiv n ∧ x.tdiv n ≤ x:=by
 rw [Int.tdiv_eq_ediv_of_nonneg hx]
 exact ⟨Int.ediv_nonneg hx (by omega),Int.ediv_le_self _ hx⟩
theorem xor_rng {x y:Int} (hx:0 ≤ x) (hx2:x < 1099511627776) (hy:0 ≤ y) (hy2:y < 1099511627776):0 ≤ IntKind.i64.wrap ↑(BitVec.ofInt IntKind.i64.bits x ^^^ BitVec.ofInt IntKind.i64.bits y).toNat:=by
 have e1:(BitVec.ofInt IntKind.i64.bits x).toNat = x.toNat:=by
  rw [BitVec.toNat_ofInt]
  show (x % ((2 ^ 64:Nat):Int)).toNat = _
  rw [Int.emod_eq_of_lt hx (by omega)]
 have e2:(BitVec.ofInt IntKind.i64.bits y).toNat = y.toNat:=by
  rw [BitVec.toNat_ofInt]
  show (y % ((2 ^ 64:Nat):Int)).toNat = _
  rw [Int.emod_eq_of_lt hy (by omega)]
 have h:x.toNat ^^^ y.toNat < 2 ^ 40:=Nat.xor_lt_two_pow (by omega) (by omega)
 rw [BitVec.toNat_xor,e1,e2]
 have:(2:Nat) ^ 40 = 1099511627776:=by decide
 rw [w64 (by omega) (by omega)]
 omega
theorem ex_pick (l:List Int) (pos n:Int) (hl:u8ok l) (h0:0 ≤ pos) (h1:pos ≤ 1048576) (hn:n ≤ 1048576):∃ res outs,(∃ v,res = .i v ∧ outs = [rdC l (pos + 1),[]] ∧ 0 ≤ v ∧ (v < n ∨ v = 0)) ∧ F n_spec_l1Rd_pick [.ptr (rdC l pos),.val (.i n)] res outs:=by
 obtain ⟨hl1,hl2⟩:=hl
 by_cases hz:l.length = 0
 ·refine x_spec_l1Rd_pick ?_
  conv=>whnf
  refine g 0 0 [] ?_
  conv=>whnf
  refine ⟨⟨I,I⟩,?_⟩
  refine g 7 15 [.i (pos + (1:Int))] ?_
  conv=>whnf
  refine ⟨⟨I,I,I,I,I,w64 (by omega) (by omega),I,I,⟨I,I⟩,I⟩,?_⟩
  refine W.sq ?_
  by_cases h2:n < (1:Int)
  refine g 15 24 [.b (true),.b (true),.b (true),.b (true),.b (true),.b (true),.b (true)] ?_
  conv=>whnf
  refine ⟨⟨I,I,I,dT (by omega),dT (by omega),dT (by omega),dT (by omega),dT (by omega),dT (by omega),dT (by omega),I⟩,?_⟩
  refine W.cn ?_
  conv=>whnf
  refine ⟨fun _=>?_,noF (rfl)⟩
  refine g 24 25 [] ?_
  conv=>whnf
  refine ⟨⟨I,I⟩,?_⟩
  refine W.ret ?_
  refine EndsW.rt ?_
  conv=>whnf
  refine ⟨⟨I,I,I⟩,?_⟩
  rotate_left 1
  refine g 15 24 [.b (false),.b (false),.b (false),.b (false),.b (false),.b (false),.b (false)] ?_
  conv=>whnf
  refine ⟨⟨I,I,I,⟨dF (by omega),I⟩,⟨dF (by omega),I⟩,⟨dF (by omega),I⟩,⟨dF (by omega),I⟩,⟨dF (by omega),I⟩,⟨dF (by omega),I⟩,dF (by omega),I⟩,?_⟩
  refine W.cn ?_
  conv=>whnf
  refine ⟨fun _=>?_,noF (by simp [*])⟩
  refine g 24 25 [] ?_
  conv=>whnf
  refine ⟨⟨I,I⟩,?_⟩
  refine W.ret ?_
  refine EndsW.rt ?_
  conv=>whnf
  refine ⟨⟨I,I,I⟩,?_⟩
  rotate_left 1
  all_goals exact ⟨0,rfl,rfl,by omega,.inr rfl⟩
 ·have hp:(0:Int) < ((l.map b1T).length:Int):=by rw [List.length_map]; omega
  have hlm:((l.map b1T).length:Int) = l.length:=by rw [List.length_map]
  obtain ⟨m1,m2⟩:=tmod_rng (x:=pos + 1 - 1) (by omega) hp
  obtain ⟨m3,m4⟩:=tmod_rng (x:=(pos + 1 - 1) * 7 + 3) (by omega) hp
  obtain ⟨m5,m6⟩:=tdiv_rng (x:=pos + 1 - 1) (by omega) hp
  rw [hlm] at m1 m2 m3 m4 m5 m6
  refine x_spec_l1Rd_pick ?_
  conv=>whnf
  refine g 0 0 [] ?_
  conv=>whnf
  refine ⟨⟨I,I⟩,?_⟩
  refine g 7 15 [.i (pos + (1:Int))] ?_
  conv=>whnf
  refine ⟨⟨I,I,I,I,I,w64 (by omega) (by omega),I,I,⟨I,I⟩,I⟩,?_⟩
  refine W.sq ?_
  by_cases h2:n < (1:Int)
  refine g 15 24 [.b (true),.b (true),.b (true),.b (true),.b (true),.b (true),.b (true)] ?_
  conv=>whnf
  refine ⟨⟨I,I,I,dT (by omega),dT (by omega),dT (by omega),dT (by omega),dT (by omega),dT (by omega),dT (by omega),I⟩,?_⟩
  refine W.cn ?_
  conv=>whnf
  refine ⟨fun _=>?_,noF (rfl)⟩
  refine g 24 25 [] ?_
  conv=>whnf
  refine ⟨⟨I,I⟩,?_⟩
  refine W.ret ?_
  refine EndsW.rt ?_
  conv=>whnf
  refine ⟨⟨I,I,I⟩,?_⟩
  rotate_left 1
  refine g 15 24 [.b (false),.b (false),.b (false),.b (false),.b (false),.b (false),.b (false)] ?_
  conv=>whnf
  refine ⟨⟨I,I,I,⟨dF (by omega),I⟩,⟨dF (by omega),I⟩,⟨dF (by omega),I⟩,⟨dF (by omega),I⟩,⟨dF (by omega),I⟩,⟨dF (by omega),I⟩,dF (by omega),I⟩,?_⟩
  refine W.cn ?_
  conv=>whnf
  refine ⟨noT (dF (by omega)),fun _=>?_⟩
  refine W.skip ?_
  refine g 24 30 [.i (pos + (1:Int) - (1:Int))] ?_
  conv=>whnf
  refine ⟨⟨I,I,I,I,w64 (by omega) (by omega),I,I⟩,?_⟩
  refine W.sq ?_
  refine g 30 36 [] ?_
  conv=>whnf
  refine ⟨⟨I,I,I,I,I,I,I,I⟩,?_⟩
  refine W.cn ?_
  conv=>whnf
  refine ⟨fun h3=>?_,fun h3=>?_⟩
  replace h3:=dt h3
  simp only [List.length_map] at h3
  obtain ⟨y1,hy1⟩:=some_at (xs:=l) (n:=Int.toNat (pos + (1:Int) - (1:Int))) (by omega)
  have hm1:=hl2 y1 (List.mem_of_getElem? hy1)
  refine g 36 47 [.x (b1T y1),.i (y1),.i (Int.tmod y1 n)] ?_
  conv=>whnf
  refine ⟨⟨I,I,I,I,I,⟨(by omega),ixl (by assumption)⟩,I,w64 (by omega) (by omega),I,⟨(by omega),rfl⟩,I,I⟩,?_⟩
  refine W.ret ?_
  refine EndsW.rt ?_
  conv=>whnf
  refine ⟨⟨I,I,I⟩,?_⟩
  rotate_left 1
  replace h3:=df h3
  simp only [List.length_map] at h3
  refine W.skip ?_
  obtain ⟨y1,hy1⟩:=some_at (xs:=l) (n:=Int.toNat (Int.tmod (pos + (1:Int) - (1:Int)) (↑(List.length (List.map b1T l)):Int))) (by simp only [List.length_map] at *; omega)
  have hm1:=hl2 y1 (List.mem_of_getElem? hy1)
  obtain ⟨y2,hy2⟩:=some_at (xs:=l) (n:=Int.toNat (Int.tmod ((pos + (1:Int) - (1:Int)) * (7:Int) + (3:Int)) (↑(List.length (List.map b1T l)):Int))) (by simp only [List.length_map] at *; omega)
  have hm2:=hl2 y2 (List.mem_of_getElem? hy2)
  refine gd 36 92 [[],[],[],[],[],[],[],[],[],[],[.i (Int.tmod (pos + (1:Int) - (1:Int)) (↑(List.length (List.map b1T l)):Int))],[.x (b1T y1)],[],[.i (y1)],[.i (y1 * (131:Int))],[],[],[],[],[],[.i ((pos + (1:Int) - (1:Int)) * (7:Int))],[.i ((pos + (1:Int) - (1:Int)) * (7:Int) + (3:Int))],[],[],[],[],[],[.i (Int.tmod ((pos + (1:Int) - (1:Int)) * (7:Int) + (3:Int)) (↑(List.length (List.map b1T l)):Int))],[.x (b1T y2)],[],[.i (y2)],[.i (y2 * (1117:Int))],[.i (y1 * (131:Int) + y2 * (1117:Int))],[],[.i ((pos + (1:Int) - (1:Int)) * (29:Int))],[.i (y1 * (131:Int) + y2 * (1117:Int) + (pos + (1:Int) - (1:Int)) * (29:Int))],[],[],[],[],[],[],[.i (Int.tdiv (pos + (1:Int) - (1:Int)) (↑(List.length (List.map b1T l)):Int))],[.i (Int.tdiv (pos + (1:Int) - (1:Int)) (↑(List.length (List.map b1T l)):Int) * (53:Int))],[.i (y1 * (131:Int) + y2 * (1117:Int) + (pos + (1:Int) - (1:Int)) * (29:Int) + Int.tdiv (pos + (1:Int) - (1:Int)) (↑(List.length (List.map b1T l)):Int) * (53:Int))],[]] ?_
  conv=>whnf
  refine ⟨⟨I,I,I,I,I,I,I,I,I,I,⟨(by omega),rfl⟩,⟨(by simp only [lens]; omega),ixl (by assumption)⟩,I,w64 (by omega) (by omega),w64 (by omega) (by omega),I,I,I,I,I,w64 (by omega) (by omega),w64 (by omega) (by omega),I,I,I,I,I,⟨(by omega),rfl⟩,⟨(by simp only [lens]; omega),ixl (by assumption)⟩,I,w64 (by omega) (by omega),w64 (by omega) (by omega),w64 (by omega) (by omega),I,w64 (by omega) (by omega),w64 (by omega) (by omega),I,I,I,I,I,I,⟨(by omega),w64 (by simp only [lens]; omega) (by simp only [lens]; omega)⟩,w64 (by simp only [lens]; omega) (by simp only [lens]; omega),w64 (by simp only [lens]; omega) (by simp only [lens]; omega),I,I⟩,by kernel_rfl,?_⟩
  refine g 92 96 [.i (IntKind.wrap IntKind.i64 (Int.tdiv (y1 * (131:Int) + y2 * (1117:Int) + (pos + (1:Int) - (1:Int)) * (29:Int) + Int.tdiv (pos + (1:Int) - (1:Int)) (↑(List.length (List.map b1T l)):Int) * (53:Int)) (64:Int))),.i (IntKind.wrap IntKind.i64 (↑(BitVec.toNat (BitVec.ofInt (IntKind.bits IntKind.i64) (y1 * (131:Int) + y2 * (1117:Int) + (pos + (1:Int) - (1:Int)) * (29:Int) + Int.tdiv (pos + (1:Int) - (1:Int)) (↑(List.length (List.map b1T l)):Int) * (53:Int)) ^^^ BitVec.ofInt (IntKind.bits IntKind.i64) (IntKind.wrap IntKind.i64 (Int.tdiv (y1 * (131:Int) + y2 * (1117:Int) + (pos + (1:Int) - (1:Int)) * (29:Int) + Int.tdiv (pos + (1:Int) - (1:Int)) (↑(List.length (List.map b1T l)):Int) * (53:Int)) (64:Int))))):Int))] ?_
  conv=>whnf
  refine ⟨⟨I,I,⟨(by omega),rfl⟩,rfl,I,I⟩,?_⟩
  refine g 5 99 [.i (Int.tmod (IntKind.wrap IntKind.i64 (↑(BitVec.toNat (BitVec.ofInt (IntKind.bits IntKind.i64) (y1 * (131:Int) + y2 * (1117:Int) + (pos + (1:Int) - (1:Int)) * (29:Int) + Int.tdiv (pos + (1:Int) - (1:Int)) (↑(List.length (List.map b1T l)):Int) * (53:Int)) ^^^ BitVec.ofInt (IntKind.bits IntKind.i64) (IntKind.wrap IntKind.i64 (Int.tdiv (y1 * (131:Int) + y2 * (1117:Int) + (pos + (1:Int) - (1:Int)) * (29:Int) + Int.tdiv (pos + (1:Int) - (1:Int)) (↑(List.length (List.map b1T l)):Int) * (53:Int)) (64:Int))))):Int)) n)] ?_
  conv=>whnf
  refine ⟨⟨I,I,⟨(by omega),rfl⟩,I,I⟩,?_⟩
  refine W.ret ?_
  refine EndsW.rt ?_
  conv=>whnf
  refine ⟨⟨I,I,I⟩,?_⟩
  rotate_left 1
  ·exact ⟨0,rfl,rfl,by omega,.inr rfl⟩
  ·obtain ⟨k1,k2⟩:=tmod_rng (x:=y1) (n:=n) (by omega) (by omega)
   exact ⟨_,rfl,rfl,k1,.inl k2⟩
  ·obtain ⟨q5,q6⟩:=tdiv_rng (x:=pos + 1 - 1) (by omega) hp
   have hX:0 ≤ y1 * 131 + y2 * 1117 + (pos + 1 - 1) * 29 + (pos + 1 - 1).tdiv ↑(l.map b1T).length * 53 ∧ y1 * 131 + y2 * 1117 + (pos + 1 - 1) * 29 + (pos + 1 - 1).tdiv ↑(l.map b1T).length * 53 < 1099511627776:=by omega
   obtain ⟨q7,q8⟩:=tdiv_rng (n:=64) hX.1 (by omega)
   obtain ⟨k1,k2⟩:=tmod_rng (n:=n) (xor_rng hX.1 hX.2 (y:=IntKind.i64.wrap ((y1 * 131 + y2 * 1117 + (pos + 1 - 1) * 29 + (pos + 1 - 1).tdiv ↑(l.map b1T).length * 53).tdiv 64)) (by rw [w64 (by omega) (by omega)]; omega) (by rw [w64 (by omega) (by omega)]; omega)) (by omega)
   exact ⟨_,rfl,rfl,k1,.inl k2⟩
theorem ex_pick' (l:List Int) (pos n:Int) (h:u8ok l ∧ 0 ≤ pos ∧ pos ≤ 1048576 ∧ n ≤ 1048576):∃ v,F n_spec_l1Rd_pick [.ptr (rdC l pos),.val (.i n)] (.i v) [rdC l (pos + 1),[]] ∧ 0 ≤ v ∧ (v < n ∨ v = 0):=by
 obtain ⟨res,outs,⟨v,rfl,rfl,h0⟩,hF⟩:=ex_pick l pos n h.1 h.2.1 h.2.2.1 h.2.2.2
 exact ⟨v,hF,h0⟩
open Classical in
/-- What the reader picks. -/
noncomputable def pickV (l:List Int) (pos n:Int):Int:=if h:u8ok l ∧ 0 ≤ pos ∧ pos ≤ 1048576 ∧ n ≤ 1048576 then (ex_pick' l pos n h).choose else 0
theorem c_spec_l1Rd_pick (l:List Int) (pos n:Int) (hl:u8ok l) (h0:0 ≤ pos) (h1:pos ≤ 1048576) (hn:n ≤ 1048576):F n_spec_l1Rd_pick [.ptr (rdC l pos),.val (.i n)] (.i (pickV l pos n)) [rdC l (pos + 1),[]]:=by
 have h:u8ok l ∧ 0 ≤ pos ∧ pos ≤ 1048576 ∧ n ≤ 1048576:=⟨hl,h0,h1,hn⟩
 rw [pickV,dif_pos h]
 exact (ex_pick' l pos n h).choose_spec.1
theorem pick_rng (l:List Int) (pos n:Int):0 ≤ pickV l pos n ∧ (pickV l pos n < n ∨ pickV l pos n = 0):=by
 unfold pickV
 split
 ·rename_i h; exact (ex_pick' l pos n h).choose_spec.2
 ·exact ⟨Int.le_refl _,.inr rfl⟩
end Go.K
end
section
set_option linter.unusedVariables false
set_option linter.unusedSimpArgs false
set_option maxHeartbeats 4000000
set_option maxRecDepth 20000
open Go Go.Tm Go.Proofs
namespace Go.K
structure Message where
 kind:Int
 frm:Int
 to:Int
 epoch:Int
 lease:Int
 task:Int
 text:ByteArray
 inputs:List ByteArray
 deriving DecidableEq
abbrev messageT (x:Message):List T:=[.i x.kind,.i x.frm,.i x.to,.i x.epoch,.i x.lease,.i x.task,.s x.text,.slc [false] (x.inputs.map strT)]
abbrev messageR (x:Message):V:=.agg [.t (.i x.kind),.t (.i x.frm),.t (.i x.to),.t (.i x.epoch),.t (.i x.lease),.t (.i x.task),.t (.s x.text),.t (.slc [false] (x.inputs.map strT))]
abbrev messageO (x:Message):V:=.agg [.t (.i x.kind),.t (.i x.frm),.t (.i x.to),.t (.i x.epoch),.t (.i x.lease),.t (.i x.task),.t (.s x.text),.own [false] (x.inputs.map strT)]
abbrev messageK:List Bool:=[false,false,false,false,false,false,false,true]
def sumT (s:ByteArray):ByteArray:=bl (beL (fnvA h0v s) 8)
theorem sumT_size (s:ByteArray):(sumT s).size = 8:=by unfold sumT; rw [bl_size,beL_len]
def msgOk (m:Message):Prop:=(1 ≤ m.epoch ∧ m.epoch ≤ 300) ∧
 ((m.kind = 1 ∧ m.frm = 0 ∧ (1 ≤ m.to ∧ m.to ≤ 8) ∧ (1 ≤ m.lease ∧ m.lease ≤ 300000000) ∧ (0 ≤ m.task ∧ m.task ≤ 39) ∧ m.text = emp ∧ eights m.inputs) ∨
  (m.kind = 2 ∧ m.to = 0 ∧ (1 ≤ m.frm ∧ m.frm ≤ 8) ∧ (1 ≤ m.lease ∧ m.lease ≤ 300000000) ∧ m.task = 0 ∧ m.text = emp ∧ (m.inputs.length:Int) = 0) ∨
  (m.kind = 3 ∧ m.to = 0 ∧ (1 ≤ m.frm ∧ m.frm ≤ 8) ∧ (1 ≤ m.lease ∧ m.lease ≤ 300000000) ∧ (0 ≤ m.task ∧ m.task ≤ 39) ∧ (m.text.size:Int) = 8 ∧ (m.inputs.length:Int) = 0) ∨
  (m.kind = 4 ∧ m.frm = 0 ∧ (1 ≤ m.to ∧ m.to ≤ 8) ∧ (1 ≤ m.lease ∧ m.lease ≤ 300000000) ∧ m.task = 0 ∧ m.text = emp ∧ (m.inputs.length:Int) = 0) ∨
  (m.kind = 5 ∧ m.to = 0 ∧ (1 ≤ m.frm ∧ m.frm ≤ 8) ∧ m.lease = 0 ∧ m.task = 0 ∧ m.text = emp ∧ (m.inputs.length:Int) = 0))
instance (m:Message):Decidable (msgOk m):=by unfold msgOk; infer_instance
theorem c_impl_Message_valid (m:Message) (hl:m.inputs.length ≤ 9223372036854775806):F n_impl_Message_valid [.val (messageR m)] (.b (decide (msgOk m))) [[]]:=by
 refine i_impl_Message_valid ?_
 conv=>whnf
 refine g 0 1 [] ?_
 conv=>whnf
 refine ⟨⟨⟨I,I,I,I,I,I,I,I,I⟩,I,I⟩,?_⟩
 refine g 0 0 [] ?_
 conv=>whnf
 refine ⟨⟨I,I,I,I,I,I⟩,?_⟩
 refine W.sq ?_
 refine g 0 0 [] ?_
 conv=>whnf
 refine ⟨⟨I,I,I⟩,?_⟩
 refine W.blk ?_
 refine g 13 14 [] ?_
 conv=>whnf
 refine ⟨⟨I,I,I⟩,?_⟩
 refine W.cn ?_
 conv=>whnf
 refine ⟨fun h1=>?_,fun h1=>?_⟩
 replace h1:=dt h1
 refine rg [] ?_
 conv=>whnf
 refine ⟨⟨I,I,I,I,I⟩,?_⟩
 refine gd 11 26 [[],[],[],[],[],[]] ?_
 conv=>whnf
 refine ⟨⟨I,I,I,I,I,I,I⟩,by kernel_rfl,?_⟩
 refine W.sq ?_
 refine g 0 0 [] ?_
 conv=>whnf
 refine ⟨⟨I,I⟩,?_⟩
 refine W.cn ?_
 conv=>whnf
 refine ⟨fun _=>?_,noF (rfl)⟩
 refine rgd [[],[],[],[],[],[]] ?_
 conv=>whnf
 refine ⟨⟨I,I,I,I,I,I,I⟩,by kernel_rfl,?_⟩
 refine W.sq ?_
 by_cases h2:Message.frm m = (0:Int)
 by_cases h3:(1:Int) ≤ Message.to m ∧ Message.to m ≤ (8:Int)
 refine g 26 43 [.b (false),.b (false),.call (V.b (decide ((1:Int) ≤ Message.to m ∧ Message.to m ≤ (8:Int)))) ([[],[],[]]),.b (false),.b (false),.b (false),.b (false),.b (false),.call (V.b (decide ((1:Int) ≤ Message.epoch m ∧ Message.epoch m ≤ (300:Int)))) ([[],[],[]]),.b (false),.b (false)] ?_
 conv=>whnf
 refine ⟨⟨I,I,I,⟨notF (by omega),I⟩,⟨notF (by omega),⟨I,I,I,I⟩,I,⟨⟨I,I⟩,⟨I,I⟩,⟨I,I⟩,I⟩,⟨I,I⟩,Go.K.c_impl_within _ _ _⟩,⟨notF (by omega),I⟩,notF (by omega),I,⟨notF (by omega),I⟩,⟨notF (by omega),I⟩,⟨notF (by omega),⟨I,I,I,I⟩,I,⟨⟨I,I⟩,⟨I,I⟩,⟨I,I⟩,I⟩,⟨I,I⟩,Go.K.c_impl_within _ _ _⟩,⟨notF (by omega),I⟩,notF (by omega),I⟩,?_⟩
 refine W.cn ?_
 conv=>whnf
 refine ⟨fun h4=>?_,fun h4=>?_⟩
 replace h4:=ndt h4
 refine g 8 9 [] ?_
 conv=>whnf
 refine ⟨⟨I,I⟩,?_⟩
 refine W.ret ?_
 refine EndsW.rt ?_
 conv=>whnf
 refine ⟨⟨I,I,I⟩,?_,rfl⟩
 rotate_left 1
 replace h4:=ndf h4
 refine W.skip ?_
 refine W.sq ?_
 by_cases h5:(1:Int) ≤ Message.lease m ∧ Message.lease m ≤ (300000000:Int)
 refine g 43 59 [.b (true),.b (true),.b (true),.call (V.b (decide ((1:Int) ≤ Message.lease m ∧ Message.lease m ≤ (300000000:Int)))) ([[],[],[]]),.b (true),.b (true),.b (false),.b (false),.b (false),.b (false),.b (false),.b (false),.b (false),.b (false),.b (false)] ?_
 conv=>whnf
 refine ⟨⟨I,I,⟨rfl,I⟩,⟨rfl,I⟩,⟨rfl,⟨I,I,I,I⟩,I,⟨⟨I,I⟩,⟨I,I⟩,⟨I,I⟩,I⟩,⟨I,I⟩,Go.K.c_impl_within _ _ _⟩,⟨rfl,I⟩,rfl,I,⟨notF (by omega),I⟩,⟨notF (by omega),I⟩,⟨notF (by omega),I⟩,rfl,rfl,rfl,⟨notF (by omega),rfl⟩,notF (by omega),I⟩,?_⟩
 refine W.cn ?_
 conv=>whnf
 refine ⟨noT (rfl),fun _=>?_⟩
 refine W.skip ?_
 refine W.sq ?_
 by_cases h6:(0:Int) ≤ Message.task m ∧ Message.task m ≤ (39:Int)
 refine g 59 75 [.b (true),.b (true),.b (true),.call (V.b (decide ((0:Int) ≤ Message.task m ∧ Message.task m ≤ (39:Int)))) ([[],[],[]]),.b (true),.b (true),.b (false),.b (false),.b (false),.b (false),.b (false),.b (false),.b (false),.b (false),.b (false)] ?_
 conv=>whnf
 refine ⟨⟨I,I,⟨rfl,I⟩,⟨rfl,I⟩,⟨rfl,⟨I,I,I,I⟩,I,⟨⟨I,I⟩,⟨I,I⟩,⟨I,I⟩,I⟩,⟨I,I⟩,Go.K.c_impl_within _ _ _⟩,⟨rfl,I⟩,rfl,I,⟨notF (by omega),I⟩,⟨notF (by omega),I⟩,⟨notF (by omega),I⟩,rfl,rfl,rfl,⟨notF (by omega),rfl⟩,notF (by omega),I⟩,?_⟩
 refine W.cn ?_
 conv=>whnf
 refine ⟨noT (rfl),fun _=>?_⟩
 refine W.skip ?_
 refine W.sq ?_
 refine g 10 91 [.b (false),.b (false),.b (false),.b (false),.b (false),.b (false),.b (false),.b (false),.b (true),.b (true),.b (true),.b (false),.b (true),.b (false)] ?_
 conv=>whnf
 refine ⟨⟨I,I,rfl,rfl,rfl,rfl,rfl,I,⟨rfl,I⟩,⟨rfl,I⟩,⟨rfl,I⟩,⟨rfl,I⟩,⟨rfl,I⟩,⟨rfl,I⟩,⟨rfl,rfl⟩,rfl,I⟩,?_⟩
 refine W.cn ?_
 conv=>whnf
 refine ⟨fun h7=>?_,fun h7=>?_⟩
 replace h7:=ndt h7
 refine g 7 9 [] ?_
 conv=>whnf
 refine ⟨⟨I,I⟩,?_⟩
 refine W.ret ?_
 refine EndsW.rt ?_
 conv=>whnf
 refine ⟨⟨I,I,I⟩,?_,rfl⟩
 rotate_left 1
 replace h7:=ndf h7
 refine W.skip ?_
 by_cases h8:eights (Message.inputs m)
 refine g 5 108 [.b (true),.b (true),.b (true),.call (V.b (decide (eights (Message.inputs m)))) ([[]]),.b (true),.b (true),.b (true),.b (true),.b (false),.b (false),.b (false),.b (false),.b (true),.b (true)] ?_
 conv=>whnf
 refine ⟨⟨I,I,⟨rfl,I⟩,⟨rfl,I⟩,⟨rfl,⟨I,I⟩,I,⟨⟨I,I⟩,I⟩,⟨I,I⟩,Go.K.c_impl_eights _ (by omega)⟩,rfl,I,dT (by omega),dT (by omega),dT (by omega),I,I,I,I,dT (by omega),dT (by omega),I,I⟩,?_⟩
 refine W.ret ?_
 refine EndsW.rt ?_
 conv=>whnf
 refine ⟨⟨I,I,I⟩,?_,rfl⟩
 rotate_left 1
 refine g 5 108 [.b (true),.b (true),.b (true),.call (V.b (decide (eights (Message.inputs m)))) ([[]]),.b (true),.b (false),.b (false),.b (false),.b (false),.b (false),.b (false),.b (false),.b (false),.b (false),.b (false)] ?_
 conv=>whnf
 refine ⟨⟨I,I,⟨rfl,I⟩,⟨rfl,I⟩,⟨rfl,⟨I,I⟩,I,⟨⟨I,I⟩,I⟩,⟨I,I⟩,Go.K.c_impl_eights _ (by omega)⟩,rfl,I,⟨dF (by omega),I⟩,⟨dF (by omega),I⟩,⟨dF (by omega),I⟩,rfl,rfl,rfl,rfl,⟨dF (by omega),rfl⟩,dF (by omega),I,I⟩,?_⟩
 refine W.ret ?_
 refine EndsW.rt ?_
 conv=>whnf
 refine ⟨⟨I,I,I⟩,?_,rfl⟩
 rotate_left 1
 refine g 59 75 [.b (true),.b (true),.b (true),.call (V.b (decide ((0:Int) ≤ Message.task m ∧ Message.task m ≤ (39:Int)))) ([[],[],[]]),.b (true),.b (true),.b (true),.b (true),.b (true),.b (false),.b (false),.b (false),.b (true),.b (true)] ?_
 conv=>whnf
 refine ⟨⟨I,I,⟨rfl,I⟩,⟨rfl,I⟩,⟨rfl,⟨I,I,I,I⟩,I,⟨⟨I,I⟩,⟨I,I⟩,⟨I,I⟩,I⟩,⟨I,I⟩,Go.K.c_impl_within _ _ _⟩,⟨rfl,I⟩,rfl,I,notT (by omega),notT (by omega),notT (by omega),I,I,I,notT (by omega),notT (by omega),I⟩,?_⟩
 refine W.cn ?_
 conv=>whnf
 refine ⟨fun _=>?_,noF (rfl)⟩
 refine g 3 4 [] ?_
 conv=>whnf
 refine ⟨⟨I,I⟩,?_⟩
 refine W.ret ?_
 refine EndsW.rt ?_
 conv=>whnf
 refine ⟨⟨I,I,I⟩,?_,rfl⟩
 rotate_left 1
 refine g 43 59 [.b (true),.b (true),.b (true),.call (V.b (decide ((1:Int) ≤ Message.lease m ∧ Message.lease m ≤ (300000000:Int)))) ([[],[],[]]),.b (true),.b (true),.b (true),.b (true),.b (true),.b (false),.b (false),.b (false),.b (true),.b (true)] ?_
 conv=>whnf
 refine ⟨⟨I,I,⟨rfl,I⟩,⟨rfl,I⟩,⟨rfl,⟨I,I,I,I⟩,I,⟨⟨I,I⟩,⟨I,I⟩,⟨I,I⟩,I⟩,⟨I,I⟩,Go.K.c_impl_within _ _ _⟩,⟨rfl,I⟩,rfl,I,notT (by omega),notT (by omega),notT (by omega),I,I,I,notT (by omega),notT (by omega),I⟩,?_⟩
 refine W.cn ?_
 conv=>whnf
 refine ⟨fun _=>?_,noF (rfl)⟩
 refine g 3 4 [] ?_
 conv=>whnf
 refine ⟨⟨I,I⟩,?_⟩
 refine W.ret ?_
 refine EndsW.rt ?_
 conv=>whnf
 refine ⟨⟨I,I,I⟩,?_,rfl⟩
 rotate_left 1
 refine g 26 43 [.b (false),.b (false),.call (V.b (decide ((1:Int) ≤ Message.to m ∧ Message.to m ≤ (8:Int)))) ([[],[],[]]),.b (false),.b (false),.b (true),.b (true),.b (true),.b (true),.b (true)] ?_
 conv=>whnf
 refine ⟨⟨I,I,I,⟨notF (by omega),I⟩,⟨notF (by omega),⟨I,I,I,I⟩,I,⟨⟨I,I⟩,⟨I,I⟩,⟨I,I⟩,I⟩,⟨I,I⟩,Go.K.c_impl_within _ _ _⟩,⟨notF (by omega),I⟩,notF (by omega),I,notT (by omega),notT (by omega),notT (by omega),notT (by omega),notT (by omega),I⟩,?_⟩
 refine W.cn ?_
 conv=>whnf
 refine ⟨fun _=>?_,noF (rfl)⟩
 refine g 8 9 [] ?_
 conv=>whnf
 refine ⟨⟨I,I⟩,?_⟩
 refine W.ret ?_
 refine EndsW.rt ?_
 conv=>whnf
 refine ⟨⟨I,I,I⟩,?_,rfl⟩
 rotate_left 1
 refine g 26 43 [.b (true),.b (true),.b (true),.b (true),.b (true),.b (true),.b (true),.b (true),.b (true)] ?_
 conv=>whnf
 refine ⟨⟨I,I,I,notT (by omega),notT (by omega),notT (by omega),notT (by omega),I,rfl,rfl,rfl,rfl,rfl,I⟩,?_⟩
 refine W.cn ?_
 conv=>whnf
 refine ⟨fun _=>?_,noF (rfl)⟩
 refine g 8 9 [] ?_
 conv=>whnf
 refine ⟨⟨I,I⟩,?_⟩
 refine W.ret ?_
 refine EndsW.rt ?_
 conv=>whnf
 refine ⟨⟨I,I,I⟩,?_,rfl⟩
 rotate_left 1
 replace h1:=df h1
 refine g 12 13 [] ?_
 conv=>whnf
 refine ⟨⟨I,I,I⟩,?_⟩
 refine W.cn ?_
 conv=>whnf
 refine ⟨fun h2=>?_,fun h2=>?_⟩
 replace h2:=dt h2
 refine rg [] ?_
 conv=>whnf
 refine ⟨⟨I,I⟩,?_⟩
 refine gd 11 26 [[],[],[],[],[],[]] ?_
 conv=>whnf
 refine ⟨⟨I,I,I,I,I,I,I⟩,by kernel_rfl,?_⟩
 refine W.sq ?_
 refine g 0 0 [] ?_
 conv=>whnf
 refine ⟨⟨I,I⟩,?_⟩
 refine W.cn ?_
 conv=>whnf
 refine ⟨noT (rfl),fun _=>?_⟩
 refine W.skip ?_
 refine W.sq ?_
 by_cases h3:Message.to m = (0:Int)
 by_cases h4:(1:Int) ≤ Message.frm m ∧ Message.frm m ≤ (8:Int)
 refine g 26 43 [.b (false),.b (false),.call (V.b (decide ((1:Int) ≤ Message.frm m ∧ Message.frm m ≤ (8:Int)))) ([[],[],[]]),.b (false),.b (false),.b (false),.b (false),.b (false),.call (V.b (decide ((1:Int) ≤ Message.epoch m ∧ Message.epoch m ≤ (300:Int)))) ([[],[],[]]),.b (false),.b (false)] ?_
 conv=>whnf
 refine ⟨⟨I,I,I,⟨notF (by omega),I⟩,⟨notF (by omega),⟨I,I,I,I⟩,I,⟨⟨I,I⟩,⟨I,I⟩,⟨I,I⟩,I⟩,⟨I,I⟩,Go.K.c_impl_within _ _ _⟩,⟨notF (by omega),I⟩,notF (by omega),I,⟨notF (by omega),I⟩,⟨notF (by omega),I⟩,⟨notF (by omega),⟨I,I,I,I⟩,I,⟨⟨I,I⟩,⟨I,I⟩,⟨I,I⟩,I⟩,⟨I,I⟩,Go.K.c_impl_within _ _ _⟩,⟨notF (by omega),I⟩,notF (by omega),I⟩,?_⟩
 refine W.cn ?_
 conv=>whnf
 refine ⟨fun h5=>?_,fun h5=>?_⟩
 replace h5:=ndt h5
 refine g 8 9 [] ?_
 conv=>whnf
 refine ⟨⟨I,I⟩,?_⟩
 refine W.ret ?_
 refine EndsW.rt ?_
 conv=>whnf
 refine ⟨⟨I,I,I⟩,?_,rfl⟩
 rotate_left 1
 replace h5:=ndf h5
 refine W.skip ?_
 refine W.sq ?_
 by_cases h6:(1:Int) ≤ Message.lease m ∧ Message.lease m ≤ (300000000:Int)
 refine g 43 59 [.b (true),.b (true),.b (true),.call (V.b (decide ((1:Int) ≤ Message.lease m ∧ Message.lease m ≤ (300000000:Int)))) ([[],[],[]]),.b (true),.b (true),.b (false),.b (false),.b (false),.b (false),.b (false),.b (false),.b (false),.b (false),.b (false)] ?_
 conv=>whnf
 refine ⟨⟨I,I,⟨rfl,I⟩,⟨rfl,I⟩,⟨rfl,⟨I,I,I,I⟩,I,⟨⟨I,I⟩,⟨I,I⟩,⟨I,I⟩,I⟩,⟨I,I⟩,Go.K.c_impl_within _ _ _⟩,⟨rfl,I⟩,rfl,I,⟨notF (by omega),I⟩,⟨notF (by omega),I⟩,⟨notF (by omega),I⟩,rfl,rfl,rfl,⟨notF (by omega),rfl⟩,notF (by omega),I⟩,?_⟩
 refine W.cn ?_
 conv=>whnf
 refine ⟨noT (rfl),fun _=>?_⟩
 refine W.skip ?_
 refine W.sq ?_
 refine g 59 75 [.b (false),.b (false),.b (false),.b (false),.b (false),.b (false),.b (false),.b (false),.b (true),.b (true),.b (true),.b (false),.b (true),.b (false)] ?_
 conv=>whnf
 refine ⟨⟨I,I,rfl,rfl,rfl,rfl,rfl,I,⟨rfl,I⟩,⟨rfl,I⟩,⟨rfl,I⟩,⟨rfl,I⟩,⟨rfl,I⟩,⟨rfl,I⟩,⟨rfl,rfl⟩,rfl,I⟩,?_⟩
 refine W.cn ?_
 conv=>whnf
 refine ⟨fun h7=>?_,fun h7=>?_⟩
 replace h7:=ndt h7
 refine g 3 4 [] ?_
 conv=>whnf
 refine ⟨⟨I,I⟩,?_⟩
 refine W.ret ?_
 refine EndsW.rt ?_
 conv=>whnf
 refine ⟨⟨I,I,I⟩,?_,rfl⟩
 rotate_left 1
 replace h7:=ndf h7
 refine W.skip ?_
 refine W.sq ?_
 refine g 10 91 [.b (false),.b (false),.b (false),.b (false),.b (false),.b (false),.b (false),.b (false),.b (true),.b (true),.b (true),.b (false),.b (true),.b (false)] ?_
 conv=>whnf
 refine ⟨⟨I,I,rfl,rfl,rfl,rfl,rfl,I,⟨rfl,I⟩,⟨rfl,I⟩,⟨rfl,I⟩,⟨rfl,I⟩,⟨rfl,I⟩,⟨rfl,I⟩,⟨rfl,rfl⟩,rfl,I⟩,?_⟩
 refine W.cn ?_
 conv=>whnf
 refine ⟨fun h8=>?_,fun h8=>?_⟩
 replace h8:=ndt h8
 refine g 7 9 [] ?_
 conv=>whnf
 refine ⟨⟨I,I⟩,?_⟩
 refine W.ret ?_
 refine EndsW.rt ?_
 conv=>whnf
 refine ⟨⟨I,I,I⟩,?_,rfl⟩
 rotate_left 1
 replace h8:=ndf h8
 refine W.skip ?_
 refine g 5 108 [.b (false),.b (false),.b (false),.b (false),.b (false),.b (false),.b (false),.b (true),.b (true),.b (true),.b (true),.b (false),.b (true),.b (false)] ?_
 conv=>whnf
 refine ⟨⟨I,I,rfl,rfl,rfl,rfl,I,⟨rfl,I⟩,⟨rfl,I⟩,⟨rfl,I⟩,⟨rfl,I⟩,⟨rfl,I⟩,⟨rfl,I⟩,⟨rfl,I⟩,⟨rfl,rfl⟩,rfl,I,I⟩,?_⟩
 refine W.ret ?_
 refine EndsW.rt ?_
 conv=>whnf
 refine ⟨⟨I,I,I⟩,?_,rfl⟩
 rotate_left 1
 refine g 43 59 [.b (true),.b (true),.b (true),.call (V.b (decide ((1:Int) ≤ Message.lease m ∧ Message.lease m ≤ (300000000:Int)))) ([[],[],[]]),.b (true),.b (true),.b (true),.b (true),.b (true),.b (false),.b (false),.b (false),.b (true),.b (true)] ?_
 conv=>whnf
 refine ⟨⟨I,I,⟨rfl,I⟩,⟨rfl,I⟩,⟨rfl,⟨I,I,I,I⟩,I,⟨⟨I,I⟩,⟨I,I⟩,⟨I,I⟩,I⟩,⟨I,I⟩,Go.K.c_impl_within _ _ _⟩,⟨rfl,I⟩,rfl,I,notT (by omega),notT (by omega),notT (by omega),I,I,I,notT (by omega),notT (by omega),I⟩,?_⟩
 refine W.cn ?_
 conv=>whnf
 refine ⟨fun _=>?_,noF (rfl)⟩
 refine g 3 4 [] ?_
 conv=>whnf
 refine ⟨⟨I,I⟩,?_⟩
 refine W.ret ?_
 refine EndsW.rt ?_
 conv=>whnf
 refine ⟨⟨I,I,I⟩,?_,rfl⟩
 rotate_left 1
 refine g 26 43 [.b (false),.b (false),.call (V.b (decide ((1:Int) ≤ Message.frm m ∧ Message.frm m ≤ (8:Int)))) ([[],[],[]]),.b (false),.b (false),.b (true),.b (true),.b (true),.b (true),.b (true)] ?_
 conv=>whnf
 refine ⟨⟨I,I,I,⟨notF (by omega),I⟩,⟨notF (by omega),⟨I,I,I,I⟩,I,⟨⟨I,I⟩,⟨I,I⟩,⟨I,I⟩,I⟩,⟨I,I⟩,Go.K.c_impl_within _ _ _⟩,⟨notF (by omega),I⟩,notF (by omega),I,notT (by omega),notT (by omega),notT (by omega),notT (by omega),notT (by omega),I⟩,?_⟩
 refine W.cn ?_
 conv=>whnf
 refine ⟨fun _=>?_,noF (rfl)⟩
 refine g 8 9 [] ?_
 conv=>whnf
 refine ⟨⟨I,I⟩,?_⟩
 refine W.ret ?_
 refine EndsW.rt ?_
 conv=>whnf
 refine ⟨⟨I,I,I⟩,?_,rfl⟩
 rotate_left 1
 refine g 26 43 [.b (true),.b (true),.b (true),.b (true),.b (true),.b (true),.b (true),.b (true),.b (true)] ?_
 conv=>whnf
 refine ⟨⟨I,I,I,notT (by omega),notT (by omega),notT (by omega),notT (by omega),I,rfl,rfl,rfl,rfl,rfl,I⟩,?_⟩
 refine W.cn ?_
 conv=>whnf
 refine ⟨fun _=>?_,noF (rfl)⟩
 refine g 8 9 [] ?_
 conv=>whnf
 refine ⟨⟨I,I⟩,?_⟩
 refine W.ret ?_
 refine EndsW.rt ?_
 conv=>whnf
 refine ⟨⟨I,I,I⟩,?_,rfl⟩
 rotate_left 1
 replace h2:=df h2
 refine g 14 16 [] ?_
 conv=>whnf
 refine ⟨⟨I,I,I⟩,?_⟩
 refine W.cn ?_
 conv=>whnf
 refine ⟨fun h3=>?_,fun h3=>?_⟩
 replace h3:=dt h3
 refine rg [] ?_
 conv=>whnf
 refine ⟨⟨I,I,I,I⟩,?_⟩
 refine gd 11 26 [[],[],[],[],[],[]] ?_
 conv=>whnf
 refine ⟨⟨I,I,I,I,I,I,I⟩,by kernel_rfl,?_⟩
 refine W.sq ?_
 refine g 0 0 [] ?_
 conv=>whnf
 refine ⟨⟨I,I⟩,?_⟩
 refine W.cn ?_
 conv=>whnf
 refine ⟨noT (rfl),fun _=>?_⟩
 refine W.skip ?_
 refine W.sq ?_
 by_cases h4:Message.to m = (0:Int)
 by_cases h5:(1:Int) ≤ Message.frm m ∧ Message.frm m ≤ (8:Int)
 refine g 26 43 [.b (false),.b (false),.call (V.b (decide ((1:Int) ≤ Message.frm m ∧ Message.frm m ≤ (8:Int)))) ([[],[],[]]),.b (false),.b (false),.b (false),.b (false),.b (false),.call (V.b (decide ((1:Int) ≤ Message.epoch m ∧ Message.epoch m ≤ (300:Int)))) ([[],[],[]]),.b (false),.b (false)] ?_
 conv=>whnf
 refine ⟨⟨I,I,I,⟨notF (by omega),I⟩,⟨notF (by omega),⟨I,I,I,I⟩,I,⟨⟨I,I⟩,⟨I,I⟩,⟨I,I⟩,I⟩,⟨I,I⟩,Go.K.c_impl_within _ _ _⟩,⟨notF (by omega),I⟩,notF (by omega),I,⟨notF (by omega),I⟩,⟨notF (by omega),I⟩,⟨notF (by omega),⟨I,I,I,I⟩,I,⟨⟨I,I⟩,⟨I,I⟩,⟨I,I⟩,I⟩,⟨I,I⟩,Go.K.c_impl_within _ _ _⟩,⟨notF (by omega),I⟩,notF (by omega),I⟩,?_⟩
 refine W.cn ?_
 conv=>whnf
 refine ⟨fun h6=>?_,fun h6=>?_⟩
 replace h6:=ndt h6
 refine g 8 9 [] ?_
 conv=>whnf
 refine ⟨⟨I,I⟩,?_⟩
 refine W.ret ?_
 refine EndsW.rt ?_
 conv=>whnf
 refine ⟨⟨I,I,I⟩,?_,rfl⟩
 rotate_left 1
 replace h6:=ndf h6
 refine W.skip ?_
 refine W.sq ?_
 by_cases h7:(1:Int) ≤ Message.lease m ∧ Message.lease m ≤ (300000000:Int)
 refine g 43 59 [.b (true),.b (true),.b (true),.call (V.b (decide ((1:Int) ≤ Message.lease m ∧ Message.lease m ≤ (300000000:Int)))) ([[],[],[]]),.b (true),.b (true),.b (false),.b (false),.b (false),.b (false),.b (false),.b (false),.b (false),.b (false),.b (false)] ?_
 conv=>whnf
 refine ⟨⟨I,I,⟨rfl,I⟩,⟨rfl,I⟩,⟨rfl,⟨I,I,I,I⟩,I,⟨⟨I,I⟩,⟨I,I⟩,⟨I,I⟩,I⟩,⟨I,I⟩,Go.K.c_impl_within _ _ _⟩,⟨rfl,I⟩,rfl,I,⟨notF (by omega),I⟩,⟨notF (by omega),I⟩,⟨notF (by omega),I⟩,rfl,rfl,rfl,⟨notF (by omega),rfl⟩,notF (by omega),I⟩,?_⟩
 refine W.cn ?_
 conv=>whnf
 refine ⟨noT (rfl),fun _=>?_⟩
 refine W.skip ?_
 refine W.sq ?_
 by_cases h8:(0:Int) ≤ Message.task m ∧ Message.task m ≤ (39:Int)
 refine g 59 75 [.b (true),.b (true),.b (true),.call (V.b (decide ((0:Int) ≤ Message.task m ∧ Message.task m ≤ (39:Int)))) ([[],[],[]]),.b (true),.b (true),.b (false),.b (false),.b (false),.b (false),.b (false),.b (false),.b (false),.b (false),.b (false)] ?_
 conv=>whnf
 refine ⟨⟨I,I,⟨rfl,I⟩,⟨rfl,I⟩,⟨rfl,⟨I,I,I,I⟩,I,⟨⟨I,I⟩,⟨I,I⟩,⟨I,I⟩,I⟩,⟨I,I⟩,Go.K.c_impl_within _ _ _⟩,⟨rfl,I⟩,rfl,I,⟨notF (by omega),I⟩,⟨notF (by omega),I⟩,⟨notF (by omega),I⟩,rfl,rfl,rfl,⟨notF (by omega),rfl⟩,notF (by omega),I⟩,?_⟩
 refine W.cn ?_
 conv=>whnf
 refine ⟨noT (rfl),fun _=>?_⟩
 refine W.skip ?_
 refine W.sq ?_
 by_cases h9:(↑(ByteArray.size (Message.text m)):Int) = (8:Int)
 refine g 10 91 [.b (true),.b (true),.b (true),.b (true),.b (true),.b (false),.b (false),.b (false),.b (false),.b (false),.b (false),.b (false),.b (false),.b (false)] ?_
 conv=>whnf
 refine ⟨⟨I,I,⟨rfl,I⟩,⟨rfl,I⟩,⟨rfl,I⟩,⟨rfl,I⟩,rfl,I,⟨notF (by omega),I⟩,⟨notF (by omega),I⟩,⟨notF (by omega),I⟩,rfl,rfl,rfl,⟨notF (by omega),rfl⟩,notF (by omega),I⟩,?_⟩
 refine W.cn ?_
 conv=>whnf
 refine ⟨noT (rfl),fun _=>?_⟩
 refine W.skip ?_
 refine g 5 108 [.b (false),.b (false),.b (false),.b (false),.b (false),.b (false),.b (false),.b (true),.b (true),.b (true),.b (true),.b (false),.b (true),.b (false)] ?_
 conv=>whnf
 refine ⟨⟨I,I,rfl,rfl,rfl,rfl,I,⟨rfl,I⟩,⟨rfl,I⟩,⟨rfl,I⟩,⟨rfl,I⟩,⟨rfl,I⟩,⟨rfl,I⟩,⟨rfl,I⟩,⟨rfl,rfl⟩,rfl,I,I⟩,?_⟩
 refine W.ret ?_
 refine EndsW.rt ?_
 conv=>whnf
 refine ⟨⟨I,I,I⟩,?_,rfl⟩
 rotate_left 1
 refine g 10 91 [.b (true),.b (true),.b (true),.b (true),.b (true),.b (true),.b (true),.b (true),.b (false),.b (false),.b (false),.b (true),.b (true)] ?_
 conv=>whnf
 refine ⟨⟨I,I,⟨rfl,I⟩,⟨rfl,I⟩,⟨rfl,I⟩,⟨rfl,I⟩,rfl,I,notT (by omega),notT (by omega),notT (by omega),I,I,I,notT (by omega),notT (by omega),I⟩,?_⟩
 refine W.cn ?_
 conv=>whnf
 refine ⟨fun _=>?_,noF (rfl)⟩
 refine g 7 9 [] ?_
 conv=>whnf
 refine ⟨⟨I,I⟩,?_⟩
 refine W.ret ?_
 refine EndsW.rt ?_
 conv=>whnf
 refine ⟨⟨I,I,I⟩,?_,rfl⟩
 rotate_left 1
 refine g 59 75 [.b (true),.b (true),.b (true),.call (V.b (decide ((0:Int) ≤ Message.task m ∧ Message.task m ≤ (39:Int)))) ([[],[],[]]),.b (true),.b (true),.b (true),.b (true),.b (true),.b (false),.b (false),.b (false),.b (true),.b (true)] ?_
 conv=>whnf
 refine ⟨⟨I,I,⟨rfl,I⟩,⟨rfl,I⟩,⟨rfl,⟨I,I,I,I⟩,I,⟨⟨I,I⟩,⟨I,I⟩,⟨I,I⟩,I⟩,⟨I,I⟩,Go.K.c_impl_within _ _ _⟩,⟨rfl,I⟩,rfl,I,notT (by omega),notT (by omega),notT (by omega),I,I,I,notT (by omega),notT (by omega),I⟩,?_⟩
 refine W.cn ?_
 conv=>whnf
 refine ⟨fun _=>?_,noF (rfl)⟩
 refine g 3 4 [] ?_
 conv=>whnf
 refine ⟨⟨I,I⟩,?_⟩
 refine W.ret ?_
 refine EndsW.rt ?_
 conv=>whnf
 refine ⟨⟨I,I,I⟩,?_,rfl⟩
 rotate_left 1
 refine g 43 59 [.b (true),.b (true),.b (true),.call (V.b (decide ((1:Int) ≤ Message.lease m ∧ Message.lease m ≤ (300000000:Int)))) ([[],[],[]]),.b (true),.b (true),.b (true),.b (true),.b (true),.b (false),.b (false),.b (false),.b (true),.b (true)] ?_
 conv=>whnf
 refine ⟨⟨I,I,⟨rfl,I⟩,⟨rfl,I⟩,⟨rfl,⟨I,I,I,I⟩,I,⟨⟨I,I⟩,⟨I,I⟩,⟨I,I⟩,I⟩,⟨I,I⟩,Go.K.c_impl_within _ _ _⟩,⟨rfl,I⟩,rfl,I,notT (by omega),notT (by omega),notT (by omega),I,I,I,notT (by omega),notT (by omega),I⟩,?_⟩
 refine W.cn ?_
 conv=>whnf
 refine ⟨fun _=>?_,noF (rfl)⟩
 refine g 3 4 [] ?_
 conv=>whnf
 refine ⟨⟨I,I⟩,?_⟩
 refine W.ret ?_
 refine EndsW.rt ?_
 conv=>whnf
 refine ⟨⟨I,I,I⟩,?_,rfl⟩
 rotate_left 1
 refine g 26 43 [.b (false),.b (false),.call (V.b (decide ((1:Int) ≤ Message.frm m ∧ Message.frm m ≤ (8:Int)))) ([[],[],[]]),.b (false),.b (false),.b (true),.b (true),.b (true),.b (true),.b (true)] ?_
 conv=>whnf
 refine ⟨⟨I,I,I,⟨notF (by omega),I⟩,⟨notF (by omega),⟨I,I,I,I⟩,I,⟨⟨I,I⟩,⟨I,I⟩,⟨I,I⟩,I⟩,⟨I,I⟩,Go.K.c_impl_within _ _ _⟩,⟨notF (by omega),I⟩,notF (by omega),I,notT (by omega),notT (by omega),notT (by omega),notT (by omega),notT (by omega),I⟩,?_⟩
 refine W.cn ?_
 conv=>whnf
 refine ⟨fun _=>?_,noF (rfl)⟩
 refine g 8 9 [] ?_
 conv=>whnf
 refine ⟨⟨I,I⟩,?_⟩
 refine W.ret ?_
 refine EndsW.rt ?_
 conv=>whnf
 refine ⟨⟨I,I,I⟩,?_,rfl⟩
 rotate_left 1
 refine g 26 43 [.b (true),.b (true),.b (true),.b (true),.b (true),.b (true),.b (true),.b (true),.b (true)] ?_
 conv=>whnf
 refine ⟨⟨I,I,I,notT (by omega),notT (by omega),notT (by omega),notT (by omega),I,rfl,rfl,rfl,rfl,rfl,I⟩,?_⟩
 refine W.cn ?_
 conv=>whnf
 refine ⟨fun _=>?_,noF (rfl)⟩
 refine g 8 9 [] ?_
 conv=>whnf
 refine ⟨⟨I,I⟩,?_⟩
 refine W.ret ?_
 refine EndsW.rt ?_
 conv=>whnf
 refine ⟨⟨I,I,I⟩,?_,rfl⟩
 rotate_left 1
 replace h3:=df h3
 refine g 16 18 [] ?_
 conv=>whnf
 refine ⟨⟨I,I,I⟩,?_⟩
 refine W.cn ?_
 conv=>whnf
 refine ⟨fun h4=>?_,fun h4=>?_⟩
 replace h4:=dt h4
 refine rg [] ?_
 conv=>whnf
 refine ⟨⟨I,I,I⟩,?_⟩
 refine gd 11 26 [[],[],[],[],[],[]] ?_
 conv=>whnf
 refine ⟨⟨I,I,I,I,I,I,I⟩,by kernel_rfl,?_⟩
 refine W.sq ?_
 refine g 0 0 [] ?_
 conv=>whnf
 refine ⟨⟨I,I⟩,?_⟩
 refine W.cn ?_
 conv=>whnf
 refine ⟨fun _=>?_,noF (rfl)⟩
 refine rgd [[],[],[],[],[],[]] ?_
 conv=>whnf
 refine ⟨⟨I,I,I,I,I,I,I⟩,by kernel_rfl,?_⟩
 refine W.sq ?_
 by_cases h5:Message.frm m = (0:Int)
 by_cases h6:(1:Int) ≤ Message.to m ∧ Message.to m ≤ (8:Int)
 refine g 26 43 [.b (false),.b (false),.call (V.b (decide ((1:Int) ≤ Message.to m ∧ Message.to m ≤ (8:Int)))) ([[],[],[]]),.b (false),.b (false),.b (false),.b (false),.b (false),.call (V.b (decide ((1:Int) ≤ Message.epoch m ∧ Message.epoch m ≤ (300:Int)))) ([[],[],[]]),.b (false),.b (false)] ?_
 conv=>whnf
 refine ⟨⟨I,I,I,⟨notF (by omega),I⟩,⟨notF (by omega),⟨I,I,I,I⟩,I,⟨⟨I,I⟩,⟨I,I⟩,⟨I,I⟩,I⟩,⟨I,I⟩,Go.K.c_impl_within _ _ _⟩,⟨notF (by omega),I⟩,notF (by omega),I,⟨notF (by omega),I⟩,⟨notF (by omega),I⟩,⟨notF (by omega),⟨I,I,I,I⟩,I,⟨⟨I,I⟩,⟨I,I⟩,⟨I,I⟩,I⟩,⟨I,I⟩,Go.K.c_impl_within _ _ _⟩,⟨notF (by omega),I⟩,notF (by omega),I⟩,?_⟩
 refine W.cn ?_
 conv=>whnf
 refine ⟨fun h7=>?_,fun h7=>?_⟩
 replace h7:=ndt h7
 refine g 8 9 [] ?_
 conv=>whnf
 refine ⟨⟨I,I⟩,?_⟩
 refine W.ret ?_
 refine EndsW.rt ?_
 conv=>whnf
 refine ⟨⟨I,I,I⟩,?_,rfl⟩
 rotate_left 1
 replace h7:=ndf h7
 refine W.skip ?_
 refine W.sq ?_
 by_cases h8:(1:Int) ≤ Message.lease m ∧ Message.lease m ≤ (300000000:Int)
 refine g 43 59 [.b (true),.b (true),.b (true),.call (V.b (decide ((1:Int) ≤ Message.lease m ∧ Message.lease m ≤ (300000000:Int)))) ([[],[],[]]),.b (true),.b (true),.b (false),.b (false),.b (false),.b (false),.b (false),.b (false),.b (false),.b (false),.b (false)] ?_
 conv=>whnf
 refine ⟨⟨I,I,⟨rfl,I⟩,⟨rfl,I⟩,⟨rfl,⟨I,I,I,I⟩,I,⟨⟨I,I⟩,⟨I,I⟩,⟨I,I⟩,I⟩,⟨I,I⟩,Go.K.c_impl_within _ _ _⟩,⟨rfl,I⟩,rfl,I,⟨notF (by omega),I⟩,⟨notF (by omega),I⟩,⟨notF (by omega),I⟩,rfl,rfl,rfl,⟨notF (by omega),rfl⟩,notF (by omega),I⟩,?_⟩
 refine W.cn ?_
 conv=>whnf
 refine ⟨noT (rfl),fun _=>?_⟩
 refine W.skip ?_
 refine W.sq ?_
 refine g 59 75 [.b (false),.b (false),.b (false),.b (false),.b (false),.b (false),.b (false),.b (false),.b (true),.b (true),.b (true),.b (false),.b (true),.b (false)] ?_
 conv=>whnf
 refine ⟨⟨I,I,rfl,rfl,rfl,rfl,rfl,I,⟨rfl,I⟩,⟨rfl,I⟩,⟨rfl,I⟩,⟨rfl,I⟩,⟨rfl,I⟩,⟨rfl,I⟩,⟨rfl,rfl⟩,rfl,I⟩,?_⟩
 refine W.cn ?_
 conv=>whnf
 refine ⟨fun h9=>?_,fun h9=>?_⟩
 replace h9:=ndt h9
 refine g 3 4 [] ?_
 conv=>whnf
 refine ⟨⟨I,I⟩,?_⟩
 refine W.ret ?_
 refine EndsW.rt ?_
 conv=>whnf
 refine ⟨⟨I,I,I⟩,?_,rfl⟩
 rotate_left 1
 replace h9:=ndf h9
 refine W.skip ?_
 refine W.sq ?_
 refine g 10 91 [.b (false),.b (false),.b (false),.b (false),.b (false),.b (false),.b (false),.b (false),.b (true),.b (true),.b (true),.b (false),.b (true),.b (false)] ?_
 conv=>whnf
 refine ⟨⟨I,I,rfl,rfl,rfl,rfl,rfl,I,⟨rfl,I⟩,⟨rfl,I⟩,⟨rfl,I⟩,⟨rfl,I⟩,⟨rfl,I⟩,⟨rfl,I⟩,⟨rfl,rfl⟩,rfl,I⟩,?_⟩
 refine W.cn ?_
 conv=>whnf
 refine ⟨fun h10=>?_,fun h10=>?_⟩
 replace h10:=ndt h10
 refine g 7 9 [] ?_
 conv=>whnf
 refine ⟨⟨I,I⟩,?_⟩
 refine W.ret ?_
 refine EndsW.rt ?_
 conv=>whnf
 refine ⟨⟨I,I,I⟩,?_,rfl⟩
 rotate_left 1
 replace h10:=ndf h10
 refine W.skip ?_
 refine g 5 108 [.b (false),.b (false),.b (false),.b (false),.b (false),.b (false),.b (false),.b (true),.b (true),.b (true),.b (true),.b (false),.b (true),.b (false)] ?_
 conv=>whnf
 refine ⟨⟨I,I,rfl,rfl,rfl,rfl,I,⟨rfl,I⟩,⟨rfl,I⟩,⟨rfl,I⟩,⟨rfl,I⟩,⟨rfl,I⟩,⟨rfl,I⟩,⟨rfl,I⟩,⟨rfl,rfl⟩,rfl,I,I⟩,?_⟩
 refine W.ret ?_
 refine EndsW.rt ?_
 conv=>whnf
 refine ⟨⟨I,I,I⟩,?_,rfl⟩
 rotate_left 1
 refine g 43 59 [.b (true),.b (true),.b (true),.call (V.b (decide ((1:Int) ≤ Message.lease m ∧ Message.lease m ≤ (300000000:Int)))) ([[],[],[]]),.b (true),.b (true),.b (true),.b (true),.b (true),.b (false),.b (false),.b (false),.b (true),.b (true)] ?_
 conv=>whnf
 refine ⟨⟨I,I,⟨rfl,I⟩,⟨rfl,I⟩,⟨rfl,⟨I,I,I,I⟩,I,⟨⟨I,I⟩,⟨I,I⟩,⟨I,I⟩,I⟩,⟨I,I⟩,Go.K.c_impl_within _ _ _⟩,⟨rfl,I⟩,rfl,I,notT (by omega),notT (by omega),notT (by omega),I,I,I,notT (by omega),notT (by omega),I⟩,?_⟩
 refine W.cn ?_
 conv=>whnf
 refine ⟨fun _=>?_,noF (rfl)⟩
 refine g 3 4 [] ?_
 conv=>whnf
 refine ⟨⟨I,I⟩,?_⟩
 refine W.ret ?_
 refine EndsW.rt ?_
 conv=>whnf
 refine ⟨⟨I,I,I⟩,?_,rfl⟩
 rotate_left 1
 refine g 26 43 [.b (false),.b (false),.call (V.b (decide ((1:Int) ≤ Message.to m ∧ Message.to m ≤ (8:Int)))) ([[],[],[]]),.b (false),.b (false),.b (true),.b (true),.b (true),.b (true),.b (true)] ?_
 conv=>whnf
 refine ⟨⟨I,I,I,⟨notF (by omega),I⟩,⟨notF (by omega),⟨I,I,I,I⟩,I,⟨⟨I,I⟩,⟨I,I⟩,⟨I,I⟩,I⟩,⟨I,I⟩,Go.K.c_impl_within _ _ _⟩,⟨notF (by omega),I⟩,notF (by omega),I,notT (by omega),notT (by omega),notT (by omega),notT (by omega),notT (by omega),I⟩,?_⟩
 refine W.cn ?_
 conv=>whnf
 refine ⟨fun _=>?_,noF (rfl)⟩
 refine g 8 9 [] ?_
 conv=>whnf
 refine ⟨⟨I,I⟩,?_⟩
 refine W.ret ?_
 refine EndsW.rt ?_
 conv=>whnf
 refine ⟨⟨I,I,I⟩,?_,rfl⟩
 rotate_left 1
 refine g 26 43 [.b (true),.b (true),.b (true),.b (true),.b (true),.b (true),.b (true),.b (true),.b (true)] ?_
 conv=>whnf
 refine ⟨⟨I,I,I,notT (by omega),notT (by omega),notT (by omega),notT (by omega),I,rfl,rfl,rfl,rfl,rfl,I⟩,?_⟩
 refine W.cn ?_
 conv=>whnf
 refine ⟨fun _=>?_,noF (rfl)⟩
 refine g 8 9 [] ?_
 conv=>whnf
 refine ⟨⟨I,I⟩,?_⟩
 refine W.ret ?_
 refine EndsW.rt ?_
 conv=>whnf
 refine ⟨⟨I,I,I⟩,?_,rfl⟩
 rotate_left 1
 replace h4:=df h4
 refine g 11 20 [] ?_
 conv=>whnf
 refine ⟨⟨I,I,I⟩,?_⟩
 refine W.cn ?_
 conv=>whnf
 refine ⟨fun h5=>?_,fun h5=>?_⟩
 replace h5:=dt h5
 refine W.skip ?_
 refine gd 20 26 [[],[],[],[],[],[]] ?_
 conv=>whnf
 refine ⟨⟨I,I,I,I,I,I,I⟩,by kernel_rfl,?_⟩
 refine W.sq ?_
 refine g 0 0 [] ?_
 conv=>whnf
 refine ⟨⟨I,I⟩,?_⟩
 refine W.cn ?_
 conv=>whnf
 refine ⟨noT (rfl),fun _=>?_⟩
 refine W.skip ?_
 refine W.sq ?_
 by_cases h6:Message.to m = (0:Int)
 by_cases h7:(1:Int) ≤ Message.frm m ∧ Message.frm m ≤ (8:Int)
 refine g 26 43 [.b (false),.b (false),.call (V.b (decide ((1:Int) ≤ Message.frm m ∧ Message.frm m ≤ (8:Int)))) ([[],[],[]]),.b (false),.b (false),.b (false),.b (false),.b (false),.call (V.b (decide ((1:Int) ≤ Message.epoch m ∧ Message.epoch m ≤ (300:Int)))) ([[],[],[]]),.b (false),.b (false)] ?_
 conv=>whnf
 refine ⟨⟨I,I,I,⟨notF (by omega),I⟩,⟨notF (by omega),⟨I,I,I,I⟩,I,⟨⟨I,I⟩,⟨I,I⟩,⟨I,I⟩,I⟩,⟨I,I⟩,Go.K.c_impl_within _ _ _⟩,⟨notF (by omega),I⟩,notF (by omega),I,⟨notF (by omega),I⟩,⟨notF (by omega),I⟩,⟨notF (by omega),⟨I,I,I,I⟩,I,⟨⟨I,I⟩,⟨I,I⟩,⟨I,I⟩,I⟩,⟨I,I⟩,Go.K.c_impl_within _ _ _⟩,⟨notF (by omega),I⟩,notF (by omega),I⟩,?_⟩
 refine W.cn ?_
 conv=>whnf
 refine ⟨fun h8=>?_,fun h8=>?_⟩
 replace h8:=ndt h8
 refine g 8 9 [] ?_
 conv=>whnf
 refine ⟨⟨I,I⟩,?_⟩
 refine W.ret ?_
 refine EndsW.rt ?_
 conv=>whnf
 refine ⟨⟨I,I,I⟩,?_,rfl⟩
 rotate_left 1
 replace h8:=ndf h8
 refine W.skip ?_
 refine W.sq ?_
 refine g 43 59 [.b (false),.b (false),.b (false),.b (false),.b (false),.b (false),.b (false),.b (false),.b (true),.b (true),.b (true),.b (false),.b (true),.b (false)] ?_
 conv=>whnf
 refine ⟨⟨I,I,rfl,rfl,rfl,rfl,rfl,I,⟨rfl,I⟩,⟨rfl,I⟩,⟨rfl,I⟩,⟨rfl,I⟩,⟨rfl,I⟩,⟨rfl,I⟩,⟨rfl,rfl⟩,rfl,I⟩,?_⟩
 refine W.cn ?_
 conv=>whnf
 refine ⟨fun h9=>?_,fun h9=>?_⟩
 replace h9:=ndt h9
 refine g 3 4 [] ?_
 conv=>whnf
 refine ⟨⟨I,I⟩,?_⟩
 refine W.ret ?_
 refine EndsW.rt ?_
 conv=>whnf
 refine ⟨⟨I,I,I⟩,?_,rfl⟩
 rotate_left 1
 replace h9:=ndf h9
 refine W.skip ?_
 refine W.sq ?_
 refine g 59 75 [.b (false),.b (false),.b (false),.b (false),.b (false),.b (false),.b (false),.b (false),.b (true),.b (true),.b (true),.b (false),.b (true),.b (false)] ?_
 conv=>whnf
 refine ⟨⟨I,I,rfl,rfl,rfl,rfl,rfl,I,⟨rfl,I⟩,⟨rfl,I⟩,⟨rfl,I⟩,⟨rfl,I⟩,⟨rfl,I⟩,⟨rfl,I⟩,⟨rfl,rfl⟩,rfl,I⟩,?_⟩
 refine W.cn ?_
 conv=>whnf
 refine ⟨fun h10=>?_,fun h10=>?_⟩
 replace h10:=ndt h10
 refine g 3 4 [] ?_
 conv=>whnf
 refine ⟨⟨I,I⟩,?_⟩
 refine W.ret ?_
 refine EndsW.rt ?_
 conv=>whnf
 refine ⟨⟨I,I,I⟩,?_,rfl⟩
 rotate_left 1
 replace h10:=ndf h10
 refine W.skip ?_
 refine W.sq ?_
 refine g 10 91 [.b (false),.b (false),.b (false),.b (false),.b (false),.b (false),.b (false),.b (false),.b (true),.b (true),.b (true),.b (false),.b (true),.b (false)] ?_
 conv=>whnf
 refine ⟨⟨I,I,rfl,rfl,rfl,rfl,rfl,I,⟨rfl,I⟩,⟨rfl,I⟩,⟨rfl,I⟩,⟨rfl,I⟩,⟨rfl,I⟩,⟨rfl,I⟩,⟨rfl,rfl⟩,rfl,I⟩,?_⟩
 refine W.cn ?_
 conv=>whnf
 refine ⟨fun h11=>?_,fun h11=>?_⟩
 replace h11:=ndt h11
 refine g 7 9 [] ?_
 conv=>whnf
 refine ⟨⟨I,I⟩,?_⟩
 refine W.ret ?_
 refine EndsW.rt ?_
 conv=>whnf
 refine ⟨⟨I,I,I⟩,?_,rfl⟩
 rotate_left 1
 replace h11:=ndf h11
 refine W.skip ?_
 refine g 5 108 [.b (false),.b (false),.b (false),.b (false),.b (false),.b (false),.b (false),.b (true),.b (true),.b (true),.b (true),.b (false),.b (true),.b (false)] ?_
 conv=>whnf
 refine ⟨⟨I,I,rfl,rfl,rfl,rfl,I,⟨rfl,I⟩,⟨rfl,I⟩,⟨rfl,I⟩,⟨rfl,I⟩,⟨rfl,I⟩,⟨rfl,I⟩,⟨rfl,I⟩,⟨rfl,rfl⟩,rfl,I,I⟩,?_⟩
 refine W.ret ?_
 refine EndsW.rt ?_
 conv=>whnf
 refine ⟨⟨I,I,I⟩,?_,rfl⟩
 rotate_left 1
 refine g 26 43 [.b (false),.b (false),.call (V.b (decide ((1:Int) ≤ Message.frm m ∧ Message.frm m ≤ (8:Int)))) ([[],[],[]]),.b (false),.b (false),.b (true),.b (true),.b (true),.b (true),.b (true)] ?_
 conv=>whnf
 refine ⟨⟨I,I,I,⟨notF (by omega),I⟩,⟨notF (by omega),⟨I,I,I,I⟩,I,⟨⟨I,I⟩,⟨I,I⟩,⟨I,I⟩,I⟩,⟨I,I⟩,Go.K.c_impl_within _ _ _⟩,⟨notF (by omega),I⟩,notF (by omega),I,notT (by omega),notT (by omega),notT (by omega),notT (by omega),notT (by omega),I⟩,?_⟩
 refine W.cn ?_
 conv=>whnf
 refine ⟨fun _=>?_,noF (rfl)⟩
 refine g 8 9 [] ?_
 conv=>whnf
 refine ⟨⟨I,I⟩,?_⟩
 refine W.ret ?_
 refine EndsW.rt ?_
 conv=>whnf
 refine ⟨⟨I,I,I⟩,?_,rfl⟩
 rotate_left 1
 refine g 26 43 [.b (true),.b (true),.b (true),.b (true),.b (true),.b (true),.b (true),.b (true),.b (true)] ?_
 conv=>whnf
 refine ⟨⟨I,I,I,notT (by omega),notT (by omega),notT (by omega),notT (by omega),I,rfl,rfl,rfl,rfl,rfl,I⟩,?_⟩
 refine W.cn ?_
 conv=>whnf
 refine ⟨fun _=>?_,noF (rfl)⟩
 refine g 8 9 [] ?_
 conv=>whnf
 refine ⟨⟨I,I⟩,?_⟩
 refine W.ret ?_
 refine EndsW.rt ?_
 conv=>whnf
 refine ⟨⟨I,I,I⟩,?_,rfl⟩
 rotate_left 1
 replace h5:=df h5
 refine g 20 22 [] ?_
 conv=>whnf
 refine ⟨⟨I,I⟩,?_⟩
 refine W.ret ?_
 refine EndsW.rt ?_
 conv=>whnf
 refine ⟨⟨I,I,I⟩,?_,rfl⟩
 rotate_left 1
 all_goals (try simp only [List.length_map,decide_eq_true_eq,Bool.not_eq_true,Bool.not_eq_true',decide_eq_false_iff_not] at *)
 all_goals first
  | exact vbf (by unfold msgOk; grind)
  | exact vbt (by unfold msgOk; grind)
  | exact vbd (by unfold msgOk; grind)
end Go.K
end

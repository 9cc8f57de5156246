/- Contracts of functions of the program: what each call answers. -/
import Derived.Test.YtoknlfldllmhpaaGreatPartc
import Derived.Test.YtoknlfldllmhpaaGreatProg
set_option maxHeartbeats 8000000
set_option maxRecDepth 20000
set_option linter.unusedVariables false
set_option linter.unusedSimpArgs false
section
open Go Go.Tm Go.Proofs
namespace Go.K
def E:Env:=(.node (.node (.node (.node (.node (.node (.node .nil 2 ⟨(.int .i64),[.t (.v (.int .i64 0))],8⟩ .nil) 3 ⟨(.int .i64),[.t (.v (.int .i64 0))],8⟩ (.node .nil 4 ⟨.bool,[.b false],1⟩ .nil)) 5 ⟨(.int .u8),[.t (.v (.int .u8 0))],1⟩ (.node (.node .nil 6 ⟨(.int .u8),[.t (.v (.int .u8 0))],1⟩ .nil) 7 ⟨(.struct [(0,2),(1,3),(2,4),(3,6)]),[.t (.v (.int .i64 0)),.t (.v (.int .i64 0)),.b false,.t (.v (.int .u8 0))],24⟩ .nil)) 9 ⟨.str,[.s ⟨#[]⟩],16⟩ (.node (.node (.node .nil 12 ⟨(.int .u64),[.t (.v (.int .u64 0))],8⟩ .nil) 13 ⟨(.struct [(0,9),(1,12)]),[.s ⟨#[]⟩,.t (.v (.int .u64 0))],24⟩ .nil) 17 ⟨(.ptr 278),[.t (.v (.pointer none))],8⟩ (.node (.node .nil 18 ⟨(.struct [(0,17)]),[.t (.v (.pointer none))],8⟩ .nil) 19 ⟨(.struct [(0,17)]),[.t (.v (.pointer none))],8⟩ .nil))) 21 ⟨(.int .i32),[.t (.v (.int .i32 0))],4⟩ (.node (.node (.node (.node .nil 22 ⟨(.slice 218),[.own [false,false,true] []],24⟩ .nil) 23 ⟨(.struct [(0,22)]),[.own [false,false,true] []],24⟩ .nil) 24 ⟨(.struct [(0,22)]),[.own [false,false,true] []],24⟩ (.node (.node .nil 25 ⟨(.slice 9),[.own [false] []],24⟩ .nil) 26 ⟨(.struct [(0,25),(1,25)]),[.own [false] [],.own [false] []],48⟩ .nil)) 27 ⟨(.struct [(0,25),(1,25)]),[.own [false] [],.own [false] []],48⟩ (.node (.node (.node .nil 28 ⟨(.slice 223),[.own [false,false,false] []],24⟩ .nil) 29 ⟨(.slice 225),[.own [false,false] []],24⟩ .nil) 30 ⟨(.slice 227),[.own [false,false,false] []],24⟩ (.node (.node .nil 31 ⟨(.struct [(0,3),(1,4),(2,3),(3,3),(4,3),(5,3),(6,27),(8,25),(9,28),(10,29),(11,30)]),[.t (.v (.int .i64 0)),.b false,.t (.v (.int .i64 0)),.t (.v (.int .i64 0)),.t (.v (.int .i64 0)),.t (.v (.int .i64 0)),.own [false] [],.own [false] [],.own [false] [],.own [false,false,false] [],.own [false,false] [],.own [false,false,false] []],192⟩ .nil) 32 ⟨(.struct [(0,3),(1,4),(2,3),(3,3),(4,3),(5,3),(6,27),(8,25),(9,28),(10,29),(11,30)]),[.t (.v (.int .i64 0)),.b false,.t (.v (.int .i64 0)),.t (.v (.int .i64 0)),.t (.v (.int .i64 0)),.t (.v (.int .i64 0)),.own [false] [],.own [false] [],.own [false] [],.own [false,false,false] [],.own [false,false] [],.own [false,false,false] []],192⟩ .nil)))) 33 ⟨(.slice 134),[.own [false,false,false,false,false,false,false,false,true,false,false] []],24⟩ (.node (.node (.node (.node (.node .nil 34 ⟨(.slice 136),[.own [false,false,false] []],24⟩ .nil) 35 ⟨(.struct [(0,24),(1,9),(2,32),(14,33),(15,34),(16,9)]),[.own [false,false,true] [],.s ⟨#[]⟩,.t (.v (.int .i64 0)),.b false,.t (.v (.int .i64 0)),.t (.v (.int .i64 0)),.t (.v (.int .i64 0)),.t (.v (.int .i64 0)),.own [false] [],.own [false] [],.own [false] [],.own [false,false,false] [],.own [false,false] [],.own [false,false,false] [],.own [false,false,false,false,false,false,false,false,true,false,false] [],.own [false,false,false] [],.s ⟨#[]⟩],296⟩ .nil) 36 ⟨(.struct [(0,24),(1,9),(2,32),(14,33),(15,34),(16,9)]),[.own [false,false,true] [],.s ⟨#[]⟩,.t (.v (.int .i64 0)),.b false,.t (.v (.int .i64 0)),.t (.v (.int .i64 0)),.t (.v (.int .i64 0)),.t (.v (.int .i64 0)),.own [false] [],.own [false] [],.own [false] [],.own [false,false,false] [],.own [false,false] [],.own [false,false,false] [],.own [false,false,false,false,false,false,false,false,true,false,false] [],.own [false,false,false] [],.s ⟨#[]⟩],296⟩ (.node (.node .nil 37 ⟨(.struct [(0,3),(1,3),(2,3),(3,3)]),[.t (.v (.int .i64 0)),.t (.v (.int .i64 0)),.t (.v (.int .i64 0)),.t (.v (.int .i64 0))],32⟩ .nil) 38 ⟨(.struct [(0,3),(1,3),(2,3),(3,3)]),[.t (.v (.int .i64 0)),.t (.v (.int .i64 0)),.t (.v (.int .i64 0)),.t (.v (.int .i64 0))],32⟩ .nil)) 40 ⟨(.slice 198),[.own [false,false,true] []],24⟩ (.node (.node (.node .nil 41 ⟨(.struct [(0,40)]),[.own [false,false,true] []],24⟩ .nil) 42 ⟨(.struct [(0,40)]),[.own [false,false,true] []],24⟩ .nil) 43 ⟨(.struct [(0,25),(1,25)]),[.own [false] [],.own [false] []],48⟩ (.node (.node .nil 44 ⟨(.slice 206),[.own [false,false,false] []],24⟩ .nil) 45 ⟨(.slice 202),[.own [false,false] []],24⟩ .nil))) 46 ⟨(.slice 204),[.own [false,false,false] []],24⟩ (.node (.node (.node (.node .nil 47 ⟨(.struct [(0,3),(1,4),(2,3),(3,3),(4,3),(5,3),(6,43),(8,25),(9,44),(10,45),(11,46)]),[.t (.v (.int .i64 0)),.b false,.t (.v (.int .i64 0)),.t (.v (.int .i64 0)),.t (.v (.int .i64 0)),.t (.v (.int .i64 0)),.own [false] [],.own [false] [],.own [false] [],.own [false,false,false] [],.own [false,false] [],.own [false,false,false] []],192⟩ .nil) 48 ⟨(.struct [(0,3),(1,4),(2,3),(3,3),(4,3),(5,3),(6,43),(8,25),(9,44),(10,45),(11,46)]),[.t (.v (.int .i64 0)),.b false,.t (.v (.int .i64 0)),.t (.v (.int .i64 0)),.t (.v (.int .i64 0)),.t (.v (.int .i64 0)),.own [false] [],.own [false] [],.own [false] [],.own [false,false,false] [],.own [false,false] [],.own [false,false,false] []],192⟩ .nil) 49 ⟨(.slice 109),[.own [false,false,false,false,false,false,false,false,true,false,false] []],24⟩ (.node (.node .nil 50 ⟨(.slice 78),[.own [false,false,false] []],24⟩ .nil) 51 ⟨(.struct [(0,42),(1,9),(2,48),(14,49),(15,50),(16,9)]),[.own [false,false,true] [],.s ⟨#[]⟩,.t (.v (.int .i64 0)),.b false,.t (.v (.int .i64 0)),.t (.v (.int .i64 0)),.t (.v (.int .i64 0)),.t (.v (.int .i64 0)),.own [false] [],.own [false] [],.own [false] [],.own [false,false,false] [],.own [false,false] [],.own [false,false,false] [],.own [false,false,false,false,false,false,false,false,true,false,false] [],.own [false,false,false] [],.s ⟨#[]⟩],296⟩ .nil)) 52 ⟨(.struct [(0,42),(1,9),(2,48),(14,49),(15,50),(16,9)]),[.own [false,false,true] [],.s ⟨#[]⟩,.t (.v (.int .i64 0)),.b false,.t (.v (.int .i64 0)),.t (.v (.int .i64 0)),.t (.v (.int .i64 0)),.t (.v (.int .i64 0)),.own [false] [],.own [false] [],.own [false] [],.own [false,false,false] [],.own [false,false] [],.own [false,false,false] [],.own [false,false,false,false,false,false,false,false,true,false,false] [],.own [false,false,false] [],.s ⟨#[]⟩],296⟩ (.node (.node (.node .nil 55 ⟨(.struct [(0,3),(1,3),(2,3),(3,3)]),[.t (.v (.int .i64 0)),.t (.v (.int .i64 0)),.t (.v (.int .i64 0)),.t (.v (.int .i64 0))],32⟩ .nil) 62 ⟨(.slice 5),[.own [false] []],24⟩ .nil) 66 ⟨(.slice 55),[.own [false,false,false,false] []],24⟩ (.node (.node .nil 74 ⟨(.struct [(0,3),(1,3),(2,3),(3,3),(4,3),(5,3),(6,9),(7,25)]),[.t (.v (.int .i64 0)),.t (.v (.int .i64 0)),.t (.v (.int .i64 0)),.t (.v (.int .i64 0)),.t (.v (.int .i64 0)),.t (.v (.int .i64 0)),.s ⟨#[]⟩,.own [false] []],88⟩ .nil) 75 ⟨(.struct [(0,3),(1,3),(2,3),(3,3),(4,3),(5,3),(6,9),(7,25)]),[.t (.v (.int .i64 0)),.t (.v (.int .i64 0)),.t (.v (.int .i64 0)),.t (.v (.int .i64 0)),.t (.v (.int .i64 0)),.t (.v (.int .i64 0)),.s ⟨#[]⟩,.own [false] []],88⟩ .nil))))) 77 ⟨(.struct [(0,3),(1,9),(2,9)]),[.t (.v (.int .i64 0)),.s ⟨#[]⟩,.s ⟨#[]⟩],40⟩ (.node (.node (.node (.node (.node (.node .nil 78 ⟨(.struct [(0,3),(1,9),(2,9)]),[.t (.v (.int .i64 0)),.s ⟨#[]⟩,.s ⟨#[]⟩],40⟩ .nil) 100 ⟨(.ptr 192),[.t (.v (.pointer none))],8⟩ (.node .nil 108 ⟨(.struct [(0,3),(1,3),(2,4),(3,3),(4,3),(5,3),(6,3),(7,3),(8,25),(9,9),(10,3)]),[.t (.v (.int .i64 0)),.t (.v (.int .i64 0)),.b false,.t (.v (.int .i64 0)),.t (.v (.int .i64 0)),.t (.v (.int .i64 0)),.t (.v (.int .i64 0)),.t (.v (.int .i64 0)),.own [false] [],.s ⟨#[]⟩,.t (.v (.int .i64 0))],112⟩ .nil)) 109 ⟨(.struct [(0,3),(1,3),(2,4),(3,3),(4,3),(5,3),(6,3),(7,3),(8,25),(9,9),(10,3)]),[.t (.v (.int .i64 0)),.t (.v (.int .i64 0)),.b false,.t (.v (.int .i64 0)),.t (.v (.int .i64 0)),.t (.v (.int .i64 0)),.t (.v (.int .i64 0)),.t (.v (.int .i64 0)),.own [false] [],.s ⟨#[]⟩,.t (.v (.int .i64 0))],112⟩ (.node (.node .nil 114 ⟨(.int .u64),[.t (.v (.int .u64 0))],8⟩ .nil) 117 ⟨(.slice 4),[.own [false] []],24⟩ .nil)) 119 ⟨(.struct [(0,3),(1,3),(2,3),(3,9)]),[.t (.v (.int .i64 0)),.t (.v (.int .i64 0)),.t (.v (.int .i64 0)),.s ⟨#[]⟩],40⟩ (.node (.node (.node .nil 120 ⟨(.struct [(0,3),(1,3),(2,3),(3,9)]),[.t (.v (.int .i64 0)),.t (.v (.int .i64 0)),.t (.v (.int .i64 0)),.s ⟨#[]⟩],40⟩ .nil) 123 ⟨(.struct [(0,3),(1,3),(2,25)]),[.t (.v (.int .i64 0)),.t (.v (.int .i64 0)),.own [false] []],40⟩ .nil) 124 ⟨(.struct [(0,3),(1,3),(2,25)]),[.t (.v (.int .i64 0)),.t (.v (.int .i64 0)),.own [false] []],40⟩ (.node (.node .nil 134 ⟨(.struct [(0,3),(1,3),(2,4),(3,3),(4,3),(5,3),(6,3),(7,3),(8,25),(9,9),(10,3)]),[.t (.v (.int .i64 0)),.t (.v (.int .i64 0)),.b false,.t (.v (.int .i64 0)),.t (.v (.int .i64 0)),.t (.v (.int .i64 0)),.t (.v (.int .i64 0)),.t (.v (.int .i64 0)),.own [false] [],.s ⟨#[]⟩,.t (.v (.int .i64 0))],112⟩ .nil) 136 ⟨(.struct [(0,3),(1,9),(2,9)]),[.t (.v (.int .i64 0)),.s ⟨#[]⟩,.s ⟨#[]⟩],40⟩ .nil))) 156 ⟨(.ptr 52),[.t (.v (.pointer none))],8⟩ (.node (.node (.node (.node .nil 159 ⟨(.ptr 109),[.t (.v (.pointer none))],8⟩ .nil) 174 ⟨(.slice 75),[.own [false,false,false,false,false,false,false,true] []],24⟩ .nil) 175 ⟨(.struct [(0,48),(12,174)]),[.t (.v (.int .i64 0)),.b false,.t (.v (.int .i64 0)),.t (.v (.int .i64 0)),.t (.v (.int .i64 0)),.t (.v (.int .i64 0)),.own [false] [],.own [false] [],.own [false] [],.own [false,false,false] [],.own [false,false] [],.own [false,false,false] [],.own [false,false,false,false,false,false,false,true] []],216⟩ (.node (.node .nil 176 ⟨(.struct [(0,48),(12,174)]),[.t (.v (.int .i64 0)),.b false,.t (.v (.int .i64 0)),.t (.v (.int .i64 0)),.t (.v (.int .i64 0)),.t (.v (.int .i64 0)),.own [false] [],.own [false] [],.own [false] [],.own [false,false,false] [],.own [false,false] [],.own [false,false,false] [],.own [false,false,false,false,false,false,false,true] []],216⟩ .nil) 178 ⟨(.struct [(0,109),(11,174)]),[.t (.v (.int .i64 0)),.t (.v (.int .i64 0)),.b false,.t (.v (.int .i64 0)),.t (.v (.int .i64 0)),.t (.v (.int .i64 0)),.t (.v (.int .i64 0)),.t (.v (.int .i64 0)),.own [false] [],.s ⟨#[]⟩,.t (.v (.int .i64 0)),.own [false,false,false,false,false,false,false,true] []],136⟩ .nil)) 179 ⟨(.struct [(0,109),(11,174)]),[.t (.v (.int .i64 0)),.t (.v (.int .i64 0)),.b false,.t (.v (.int .i64 0)),.t (.v (.int .i64 0)),.t (.v (.int .i64 0)),.t (.v (.int .i64 0)),.t (.v (.int .i64 0)),.own [false] [],.s ⟨#[]⟩,.t (.v (.int .i64 0)),.own [false,false,false,false,false,false,false,true] []],136⟩ (.node (.node (.node .nil 191 ⟨(.struct [(0,62),(1,3)]),[.own [false] [],.t (.v (.int .i64 0))],32⟩ .nil) 192 ⟨(.struct [(0,62),(1,3)]),[.own [false] [],.t (.v (.int .i64 0))],32⟩ .nil) 196 ⟨(.slice 3),[.own [false] []],24⟩ (.node (.node .nil 197 ⟨(.struct [(0,9),(1,3),(2,196)]),[.s ⟨#[]⟩,.t (.v (.int .i64 0)),.own [false] []],48⟩ .nil) 198 ⟨(.struct [(0,9),(1,3),(2,196)]),[.s ⟨#[]⟩,.t (.v (.int .i64 0)),.own [false] []],48⟩ .nil)))) 201 ⟨(.struct [(0,4),(1,3)]),[.b false,.t (.v (.int .i64 0))],16⟩ (.node (.node (.node (.node (.node .nil 202 ⟨(.struct [(0,4),(1,3)]),[.b false,.t (.v (.int .i64 0))],16⟩ .nil) 203 ⟨(.struct [(0,3),(1,3),(2,3)]),[.t (.v (.int .i64 0)),.t (.v (.int .i64 0)),.t (.v (.int .i64 0))],24⟩ .nil) 204 ⟨(.struct [(0,3),(1,3),(2,3)]),[.t (.v (.int .i64 0)),.t (.v (.int .i64 0)),.t (.v (.int .i64 0))],24⟩ (.node (.node .nil 205 ⟨(.struct [(0,3),(1,3),(2,3)]),[.t (.v (.int .i64 0)),.t (.v (.int .i64 0)),.t (.v (.int .i64 0))],24⟩ .nil) 206 ⟨(.struct [(0,3),(1,3),(2,3)]),[.t (.v (.int .i64 0)),.t (.v (.int .i64 0)),.t (.v (.int .i64 0))],24⟩ .nil)) 207 ⟨(.map 9 4),[.t (.v (.map none))],8⟩ (.node (.node (.node .nil 208 ⟨(.map 3 4),[.t (.v (.map none))],8⟩ .nil) 210 ⟨(.int .u64),[.t (.v (.int .u64 0))],8⟩ .nil) 211 ⟨(.int .u64),[.t (.v (.int .u64 0))],8⟩ (.node (.node .nil 218 ⟨(.struct [(0,9),(1,3),(2,196)]),[.s ⟨#[]⟩,.t (.v (.int .i64 0)),.own [false] []],48⟩ .nil) 223 ⟨(.struct [(0,3),(1,3),(2,3)]),[.t (.v (.int .i64 0)),.t (.v (.int .i64 0)),.t (.v (.int .i64 0))],24⟩ .nil))) 225 ⟨(.struct [(0,4),(1,3)]),[.b false,.t (.v (.int .i64 0))],16⟩ (.node (.node (.node (.node .nil 227 ⟨(.struct [(0,3),(1,3),(2,3)]),[.t (.v (.int .i64 0)),.t (.v (.int .i64 0)),.t (.v (.int .i64 0))],24⟩ .nil) 228 ⟨(.ptr 48),[.t (.v (.pointer none))],8⟩ .nil) 242 ⟨(.ptr 202),[.t (.v (.pointer none))],8⟩ (.node (.node .nil 255 ⟨(.ptr 211),[.t (.v (.pointer none))],8⟩ .nil) 265 ⟨(.struct [(0,17),(1,17),(2,17),(3,9)]),[.t (.v (.pointer none)),.t (.v (.pointer none)),.t (.v (.pointer none)),.s ⟨#[]⟩],40⟩ .nil)) 270 ⟨(.int .u32),[.t (.v (.int .u32 0))],4⟩ (.node (.node (.node .nil 271 ⟨(.int .u8),[.t (.v (.int .u8 0))],1⟩ .nil) 272 ⟨(.int .u8),[.t (.v (.int .u8 0))],1⟩ .nil) 274 ⟨(.ptr 5),[.t (.v (.pointer none))],8⟩ (.node (.node .nil 275 ⟨(.int .i32),[.t (.v (.int .i32 0))],4⟩ .nil) 276 ⟨(.int .i32),[.t (.v (.int .i32 0))],4⟩ .nil))))))
set_option maxRecDepth 10000 in
theorem Zz:EnvOk Tryz.prog E:=by
 unfold E
 repeat (first|exact EnvOk.nil|refine EnvOk.node ?_ ⟨by kernel_rfl,by kernel_rfl,by simp,by simp[Aa,sc],by simp[Ty.agg],by simp,by simp,by simp⟩ ?_)
def md(f:FuncId):List Md:=(bif Nat.blt f 113 then(bif Nat.blt f 58 then(bif Nat.blt f 30 then(bif Nat.blt f 16 then(bif Nat.blt f 9 then(bif Nat.blt f 6 then(bif Nat.blt f 4 then [.v,.v]else(bif Nat.blt f 5 then [.v,.v]else [.v]))else(bif Nat.blt f 7 then [.v,.v]else(bif Nat.blt f 8 then [.v,.v]else [.v])))else(bif Nat.blt f 12 then(bif Nat.blt f 10 then [.v,.v]else(bif Nat.blt f 11 then [.v,.v]else [.v]))else(bif Nat.blt f 14 then(bif Nat.blt f 13 then [.v]else [.v,.v])else(bif Nat.blt f 15 then [.v,.v]else [.b,.v]))))else(bif Nat.blt f 23 then(bif Nat.blt f 19 then(bif Nat.blt f 17 then [.v,.v]else(bif Nat.blt f 18 then [.v,.v]else [.v,.v]))else(bif Nat.blt f 21 then(bif Nat.blt f 20 then [.v]else [.v])else(bif Nat.blt f 22 then [.v,.v]else [.v])))else(bif Nat.blt f 26 then(bif Nat.blt f 24 then [.v]else(bif Nat.blt f 25 then [.v]else [.v]))else(bif Nat.blt f 28 then(bif Nat.blt f 27 then [.v]else [.v,.v])else(bif Nat.blt f 29 then [.v]else [.v,.v])))))else(bif Nat.blt f 44 then(bif Nat.blt f 37 then(bif Nat.blt f 33 then(bif Nat.blt f 31 then [.v]else(bif Nat.blt f 32 then [.v]else [.v,.v]))else(bif Nat.blt f 35 then(bif Nat.blt f 34 then [.v,.v]else [.v,.v])else(bif Nat.blt f 36 then [.v,.v]else [.v])))else(bif Nat.blt f 40 then(bif Nat.blt f 38 then [.mv,.v]else(bif Nat.blt f 39 then [.v]else [.v]))else(bif Nat.blt f 42 then(bif Nat.blt f 41 then [.v]else [.v])else(bif Nat.blt f 43 then [.v]else [.p,.v]))))else(bif Nat.blt f 51 then(bif Nat.blt f 47 then(bif Nat.blt f 45 then [.v,.v]else(bif Nat.blt f 46 then [.v,.v]else [.v,.v]))else(bif Nat.blt f 49 then(bif Nat.blt f 48 then [.v,.v]else [.b,.v])else(bif Nat.blt f 50 then [.b,.v]else [.b,.v])))else(bif Nat.blt f 54 then(bif Nat.blt f 52 then [.b,.v]else(bif Nat.blt f 53 then [.v,.v]else [.v,.v]))else(bif Nat.blt f 56 then(bif Nat.blt f 55 then [.v,.v]else [.v,.v])else(bif Nat.blt f 57 then [.mv]else [.mv,.v]))))))else(bif Nat.blt f 85 then(bif Nat.blt f 71 then(bif Nat.blt f 64 then(bif Nat.blt f 61 then(bif Nat.blt f 59 then [.p]else(bif Nat.blt f 60 then [.p,.v]else [.v]))else(bif Nat.blt f 62 then [.p]else(bif Nat.blt f 63 then [.p]else [.p,.v])))else(bif Nat.blt f 67 then(bif Nat.blt f 65 then [.v]else(bif Nat.blt f 66 then [.v,.v,.v]else [.v]))else(bif Nat.blt f 69 then(bif Nat.blt f 68 then [.v,.v]else [.v,.v])else(bif Nat.blt f 70 then [.v,.v]else [.v]))))else(bif Nat.blt f 78 then(bif Nat.blt f 74 then(bif Nat.blt f 72 then [.v,.v,.v]else(bif Nat.blt f 73 then [.v]else [.v,.v]))else(bif Nat.blt f 76 then(bif Nat.blt f 75 then [.v]else [.v])else(bif Nat.blt f 77 then [.v,.v]else [.v])))else(bif Nat.blt f 81 then(bif Nat.blt f 79 then [.v]else(bif Nat.blt f 80 then [.v]else [.v]))else(bif Nat.blt f 83 then(bif Nat.blt f 82 then [.v,.v]else [.v])else(bif Nat.blt f 84 then [.v,.v]else [.v,.v])))))else(bif Nat.blt f 99 then(bif Nat.blt f 92 then(bif Nat.blt f 88 then(bif Nat.blt f 86 then [.v,.v]else(bif Nat.blt f 87 then [.v,.v]else [.v,.v]))else(bif Nat.blt f 90 then(bif Nat.blt f 89 then [.v,.v]else [.v,.v])else(bif Nat.blt f 91 then [.v,.v]else [.v])))else(bif Nat.blt f 95 then(bif Nat.blt f 93 then [.v]else(bif Nat.blt f 94 then [.v]else [.v]))else(bif Nat.blt f 97 then(bif Nat.blt f 96 then [.v,.v]else [.v,.v])else(bif Nat.blt f 98 then [.v,.v,.v,.v]else [.v,.v,.v]))))else(bif Nat.blt f 106 then(bif Nat.blt f 102 then(bif Nat.blt f 100 then [.v]else(bif Nat.blt f 101 then [.v,.v]else [.v]))else(bif Nat.blt f 104 then(bif Nat.blt f 103 then [.v]else [.v])else(bif Nat.blt f 105 then [.v]else [.v])))else(bif Nat.blt f 109 then(bif Nat.blt f 107 then [.v]else(bif Nat.blt f 108 then [.v]else [.v]))else(bif Nat.blt f 111 then(bif Nat.blt f 110 then [.v]else [.v])else(bif Nat.blt f 112 then [.v]else [.v])))))))else(bif Nat.blt f 168 then(bif Nat.blt f 140 then(bif Nat.blt f 126 then(bif Nat.blt f 119 then(bif Nat.blt f 116 then(bif Nat.blt f 114 then [.v]else(bif Nat.blt f 115 then [.v,.v]else [.v,.v]))else(bif Nat.blt f 117 then [.v,.v]else(bif Nat.blt f 118 then [.v,.v,.v,.v]else [.p,.v])))else(bif Nat.blt f 122 then(bif Nat.blt f 120 then [.p,.v]else(bif Nat.blt f 121 then [.v]else [.p,.v]))else(bif Nat.blt f 124 then(bif Nat.blt f 123 then [.v]else [.v,.v])else(bif Nat.blt f 125 then [.v,.v]else [.v,.v]))))else(bif Nat.blt f 133 then(bif Nat.blt f 129 then(bif Nat.blt f 127 then [.v,.v]else(bif Nat.blt f 128 then [.v,.v]else [.v,.v]))else(bif Nat.blt f 131 then(bif Nat.blt f 130 then [.v,.v]else [.v,.v])else(bif Nat.blt f 132 then [.b,.v]else [.b,.v])))else(bif Nat.blt f 136 then(bif Nat.blt f 134 then [.b,.v]else(bif Nat.blt f 135 then [.b,.v]else [.b,.v]))else(bif Nat.blt f 138 then(bif Nat.blt f 137 then [.b,.v]else [.v])else(bif Nat.blt f 139 then [.v,.v]else [.v,.v])))))else(bif Nat.blt f 154 then(bif Nat.blt f 147 then(bif Nat.blt f 143 then(bif Nat.blt f 141 then [.v,.v]else(bif Nat.blt f 142 then [.v,.v]else [.v,.v]))else(bif Nat.blt f 145 then(bif Nat.blt f 144 then [.v,.v]else [.v,.v])else(bif Nat.blt f 146 then [.v,.v]else [.v,.v,.v])))else(bif Nat.blt f 150 then(bif Nat.blt f 148 then [.v,.v]else(bif Nat.blt f 149 then [.v,.v]else [.v,.v]))else(bif Nat.blt f 152 then(bif Nat.blt f 151 then [.v,.v,.v]else [.v,.v,.v])else(bif Nat.blt f 153 then [.p,.v]else [.mv,.v]))))else(bif Nat.blt f 161 then(bif Nat.blt f 157 then(bif Nat.blt f 155 then [.v,.v,.v]else(bif Nat.blt f 156 then [.v,.v]else [.p,.v,.v]))else(bif Nat.blt f 159 then(bif Nat.blt f 158 then [.mv,.v,.v]else [.p])else(bif Nat.blt f 160 then [.p]else [.p,.mv])))else(bif Nat.blt f 164 then(bif Nat.blt f 162 then [.p]else(bif Nat.blt f 163 then [.v,.v]else [.v]))else(bif Nat.blt f 166 then(bif Nat.blt f 165 then [.v]else [.v])else(bif Nat.blt f 167 then [.v,.v]else [.v]))))))else(bif Nat.blt f 196 then(bif Nat.blt f 182 then(bif Nat.blt f 175 then(bif Nat.blt f 171 then(bif Nat.blt f 169 then [.v]else(bif Nat.blt f 170 then [.v,.v]else [.v,.v]))else(bif Nat.blt f 173 then(bif Nat.blt f 172 then [.p,.v]else [.v])else(bif Nat.blt f 174 then [.v,.v]else [.v,.v])))else(bif Nat.blt f 178 then(bif Nat.blt f 176 then [.v]else(bif Nat.blt f 177 then [.v]else [.v,.v]))else(bif Nat.blt f 180 then(bif Nat.blt f 179 then [.v]else [.v,.v,.v])else(bif Nat.blt f 181 then [.v,.v]else [.v]))))else(bif Nat.blt f 189 then(bif Nat.blt f 185 then(bif Nat.blt f 183 then [.v,.v]else(bif Nat.blt f 184 then [.v,.v]else [.v]))else(bif Nat.blt f 187 then(bif Nat.blt f 186 then [.v]else [.v])else(bif Nat.blt f 188 then [.v]else [.v,.v])))else(bif Nat.blt f 192 then(bif Nat.blt f 190 then [.v]else(bif Nat.blt f 191 then [.v,.v]else [.v,.v]))else(bif Nat.blt f 194 then(bif Nat.blt f 193 then [.v,.v]else [.v,.v])else(bif Nat.blt f 195 then [.b,.v]else [.v,.v])))))else(bif Nat.blt f 210 then(bif Nat.blt f 203 then(bif Nat.blt f 199 then(bif Nat.blt f 197 then [.mv,.v]else(bif Nat.blt f 198 then [.v,.v]else [.v]))else(bif Nat.blt f 201 then(bif Nat.blt f 200 then [.mv,.v]else [.mv,.v,.v])else(bif Nat.blt f 202 then [.v,.v]else [.p,.v,.v,.r 0])))else(bif Nat.blt f 206 then(bif Nat.blt f 204 then [.p]else(bif Nat.blt f 205 then [.p]else [.v,.v,.v]))else(bif Nat.blt f 208 then(bif Nat.blt f 207 then [.p,.mv]else [.p,.mv])else(bif Nat.blt f 209 then [.p,.mv]else [.v,.v]))))else(bif Nat.blt f 217 then(bif Nat.blt f 213 then(bif Nat.blt f 211 then [.p]else(bif Nat.blt f 212 then [.v]else [.v]))else(bif Nat.blt f 215 then(bif Nat.blt f 214 then [.v]else [.v])else(bif Nat.blt f 216 then [.v,.v]else [.v])))else(bif Nat.blt f 220 then(bif Nat.blt f 218 then [.v,.v]else(bif Nat.blt f 219 then [.v]else [.v]))else(bif Nat.blt f 222 then(bif Nat.blt f 221 then [.v]else [.p])else(bif Nat.blt f 223 then [.p]else [.v]))))))))
def sq(t:TypeId):Bool:=Nat.beq t 78||Nat.beq t 202||Nat.beq t 204||Nat.beq t 206
theorem aaO:∀ t,sq t = true→SqOk Tryz.prog t:=by
 intro t h
 simp only[sq,Bool.or_eq_true,Nat.beq_eq]at h
 rcases h with((rfl|rfl)|rfl)|rfl
 all_goals exact⟨by kernel_rfl,by kernel_rfl,by kernel_rfl,by kernel_rfl⟩
def F(f:FuncId)(xs:List A)(res:V)(outs:List (List V)):Prop:=Enters Tryz.prog f∧Tm.Fn Tryz.prog f xs res outs
def C:Cx:=⟨E,F,md,sq⟩
theorem ZA:CxOk Tryz.prog C:=⟨Zz,aaO,fun _ _ _ _ h=>h⟩
variable {nt id:Nat} {ops:Array Oper} {y:Code} {H:HD} {Q:Exit→HD→Prop}
theorem g(lo hi:Nat)(ans:List Ans)(h:O5 C nt ops ops.toList ans H fun p H=>oH lo hi H fun H=>p∧W Tryz.prog nt y H Q):W Tryz.prog nt (.seq (.region id ops false) y) H Q:=W.sg ZA lo hi ans h
theorem rg(ans:List Ans)(h:O5 C nt ops ops.toList ans H fun p H=>p∧Q .normal H):W Tryz.prog nt (.region id ops false) H Q:=W.rg ZA ans h
theorem Y6:Tryz.prog.follows .mixedOrders = true:=by kernel_rfl
theorem gd(lo hi:Nat)(ans:List (List Ans))(h:O6 C nt ops ops.toList ans H fun p r H=>oH lo hi H fun H=>p∧PP ops.toList r = true∧W Tryz.prog nt y H Q):W Tryz.prog nt (.seq (.region id ops true) y) H Q:=W.sgD ZA Y6 lo hi ans h
theorem rgd(ans:List (List Ans))(h:O6 C nt ops ops.toList ans H fun p r H=>p∧PP ops.toList r = true∧Q .normal H):W Tryz.prog nt (.region id ops true) H Q:=W.rgD ZA Y6 ans h
abbrev Q1(res:V)(outs:List (List V)):V→List (List V)→Prop:=fun r o=>r = res∧o = outs
def IT(i nt:Nat)(f:Func)(rs:List Rs):Prop:=∀ {xs:List A} {res:V} {outs:List (List V)} (hrun:lV (RY nt xs) fun H=>W Tryz.prog nt (ri f) H (EndsW nt E rs xs (Q1 res outs))) (h:(Ot xs && Nat.ble xs.length nt) = true:=by rfl),F i xs res outs
def XT(i nt:Nat)(f:Func)(rs:List Rs):Prop:=∀ {xs:List A} {R:V→List (List V)→Prop} (hrun:lV (RY nt xs) fun H=>W Tryz.prog nt (ri f) H (EndsW nt E rs xs R)) (h:(Ot xs && Nat.ble xs.length nt) = true:=by rfl),∃ res outs,R res outs∧F i xs res outs
theorem iM {i nt : Nat} {f : Func} {rs : List Rs} (hf : Tryz.prog.funcs[i]? = some f) (hb : f.body = some (ri f)) (hnt : f.ntmps = nt) (hrs : f.results = (rs.map nq).toArray) (h1 : (f.name == "runtime.NumGoroutine") = false ) (h2 : f.body.isNone = false) : IT i nt f rs := @fun _ _ _ hrun h => ⟨⟨f, hf, h1, h2⟩, Fn.one hf hb hnt Zz hrs h hrun⟩
theorem xM {i nt : Nat} {f : Func} {rs : List Rs} (hf : Tryz.prog.funcs[i]? = some f) (hb : f.body = some (ri f)) (hnt : f.ntmps = nt) (hrs : f.results = (rs.map nq).toArray) (h1 : (f.name == "runtime.NumGoroutine") = false ) (h2 : f.body.isNone = false) : XT i nt f rs := @fun _ _ hrun h => by obtain ⟨r, o, q1, q2⟩ := Fn.any hf hb hnt Zz hrs h hrun; exact ⟨r, o, q1, ⟨f, hf, h1, h2⟩, q2⟩
theorem RT{p q:Prop}(h:q)(f:Box q→p:=by
 intro h
 refine W.ret ?_
 refine EndsW.rt ?_
 conv=>whnf
 refine J (by repeat' first|exact I|refine J ?_ ?_) (J ?_ rfl)
 exact h.out):p:=f ⟨h⟩
abbrev qE:FuncId:=7
theorem dR:IT 7 74 Tryz.f7 [(4,4,false)]:=@iM _ _ _ _ Tryz.func7 rfl rfl rfl KR KR
abbrev xR:FuncId:=17
theorem xV:IT 17 48 Tryz.f17 [(4,52,true)]:=@iM _ _ _ _ Tryz.func17 rfl rfl rfl KR KR
abbrev lr:FuncId:=18
theorem xW:IT 18 38 Tryz.f18 [(4,52,true)]:=@iM _ _ _ _ Tryz.func18 rfl rfl rfl KR KR
abbrev ti:FuncId:=20
theorem tz:IT 20 96 Tryz.f20 [(2,4,false)]:=@iM _ _ _ _ Tryz.func20 rfl rfl rfl KR KR
abbrev qD:FuncId:=21
theorem Ec:IT 21 93 Tryz.f21 [(4,4,false)]:=@iM _ _ _ _ Tryz.func21 rfl rfl rfl KR KR
abbrev tq:FuncId:=22
theorem tD:IT 22 87 Tryz.f22 [(2,4,false)]:=@iM _ _ _ _ Tryz.func22 rfl rfl rfl KR KR
abbrev tQ:FuncId:=27
theorem Hn:IT 27 26 Tryz.f27 [(4,4,false)]:=@iM _ _ _ _ Tryz.func27 rfl rfl rfl KR KR
abbrev yz:FuncId:=28
abbrev rF:FuncId:=29
theorem gH:IT 29 77 Tryz.f29 [(4,9,false)]:=@iM _ _ _ _ Tryz.func29 rfl rfl rfl KR KR
abbrev Dm:FuncId:=36
theorem D2:IT 36 38 Tryz.f36 [(2,52,true)]:=@iM _ _ _ _ Tryz.func36 rfl rfl rfl KR KR
abbrev Jo:FuncId:=37
theorem dm:IT 37 112 Tryz.f37 [(4,52,true)]:=@iM _ _ _ _ Tryz.func37 rfl rfl rfl KR KR
abbrev tl:FuncId:=42
theorem tB:IT 42 36 Tryz.f42 [(2,52,true)]:=@iM _ _ _ _ Tryz.func42 rfl rfl rfl KR KR
abbrev Dk:FuncId:=56
theorem qK:IT 56 55 Tryz.f56 [(2,52,true)]:=@iM _ _ _ _ Tryz.func56 rfl rfl rfl KR KR
abbrev Aj:FuncId:=57
theorem cq:IT 57 83 Tryz.f57 [(4,52,true)]:=@iM _ _ _ _ Tryz.func57 rfl rfl rfl KR KR
abbrev tm:FuncId:=58
theorem lh:IT 58 62 Tryz.f58 []:=@iM _ _ _ _ Tryz.func58 rfl rfl rfl KR KR
abbrev j9:FuncId:=59
theorem bv:IT 59 65 Tryz.f59 []:=@iM _ _ _ _ Tryz.func59 rfl rfl rfl KR KR
abbrev Dw:FuncId:=60
theorem Eb:IT 60 11 Tryz.f60 [(2,100,false)]:=@iM _ _ _ _ Tryz.func60 rfl rfl rfl KR KR
abbrev GV:FuncId:=61
abbrev kp:FuncId:=62
abbrev fc:FuncId:=63
abbrev vh:FuncId:=64
theorem vT:IT 64 120 Tryz.f64 [(2,3,false)]:=@iM _ _ _ _ Tryz.func64 rfl rfl rfl KR KR
abbrev Js:FuncId:=65
theorem JJ:IT 65 15 Tryz.f65 [(6,4,false)]:=@iM _ _ _ _ Tryz.func65 rfl rfl rfl KR KR
abbrev ro:FuncId:=66
theorem rI:IT 66 129 Tryz.f66 [(2,4,false)]:=@iM _ _ _ _ Tryz.func66 rfl rfl rfl KR KR
abbrev mj:FuncId:=67
theorem mC:IT 67 219 Tryz.f67 [(4,4,false)]:=@iM _ _ _ _ Tryz.func67 rfl rfl rfl KR KR
abbrev G4:FuncId:=68
theorem Ho:IT 68 155 Tryz.f68 [(4,4,false)]:=@iM _ _ _ _ Tryz.func68 rfl rfl rfl KR KR
abbrev Am:FuncId:=69
theorem AG:IT 69 80 Tryz.f69 [(4,4,false)]:=@iM _ _ _ _ Tryz.func69 rfl rfl rfl KR KR
abbrev vI:FuncId:=70
theorem wm:IT 70 91 Tryz.f70 [(2,3,false)]:=@iM _ _ _ _ Tryz.func70 rfl rfl rfl KR KR
abbrev DT:FuncId:=71
theorem Ey:IT 71 15 Tryz.f71 [(6,4,false)]:=@iM _ _ _ _ Tryz.func71 rfl rfl rfl KR KR
abbrev rD:FuncId:=72
theorem rO:IT 72 124 Tryz.f72 [(2,4,false)]:=@iM _ _ _ _ Tryz.func72 rfl rfl rfl KR KR
abbrev mn:FuncId:=73
theorem mD:IT 73 281 Tryz.f73 [(4,4,false)]:=@iM _ _ _ _ Tryz.func73 rfl rfl rfl KR KR
abbrev oz:FuncId:=75
theorem oD:IT 75 108 Tryz.f75 [(2,4,false)]:=@iM _ _ _ _ Tryz.func75 rfl rfl rfl KR KR
abbrev Jw:FuncId:=76
theorem JO:IT 76 13 Tryz.f76 [(4,9,false)]:=@iM _ _ _ _ Tryz.func76 rfl rfl rfl KR KR
abbrev px:FuncId:=78
theorem pz:IT 78 11 Tryz.f78 [(2,25,false)]:=@iM _ _ _ _ Tryz.func78 rfl rfl rfl KR KR
abbrev mo:FuncId:=79
theorem wh:IT 79 36 Tryz.f79 [(2,120,true),(3,4,false)]:=@iM _ _ _ _ Tryz.func79 rfl rfl rfl KR KR
abbrev G3:FuncId:=80
theorem tX:IT 80 58 Tryz.f80 [(2,25,false)]:=@iM _ _ _ _ Tryz.func80 rfl rfl rfl KR KR
abbrev lN:FuncId:=81
theorem lP:IT 81 102 Tryz.f81 [(4,124,true)]:=@iM _ _ _ _ Tryz.func81 rfl rfl rfl KR KR
abbrev GX:FuncId:=82
theorem Hk:IT 82 10 Tryz.f82 [(2,25,false)]:=@iM _ _ _ _ Tryz.func82 rfl rfl rfl KR KR
abbrev Dv:FuncId:=91
theorem Ea:IT 91 34 Tryz.f91 [(2,42,true)]:=@iM _ _ _ _ Tryz.func91 rfl rfl rfl KR KR
abbrev qB:FuncId:=92
theorem D5:IT 92 28 Tryz.f92 [(2,48,true)]:=@iM _ _ _ _ Tryz.func92 rfl rfl rfl KR KR
abbrev Dp:FuncId:=93
theorem D3:IT 93 6 Tryz.f93 [(2,50,false)]:=@iM _ _ _ _ Tryz.func93 rfl rfl rfl KR KR
abbrev Ds:FuncId:=94
theorem D7:IT 94 9 Tryz.f94 [(2,109,true)]:=@iM _ _ _ _ Tryz.func94 rfl rfl rfl KR KR
abbrev Dy:FuncId:=95
theorem qO:IT 95 24 Tryz.f95 [(4,50,false)]:=@iM _ _ _ _ Tryz.func95 rfl rfl rfl KR KR
abbrev Ju:FuncId:=96
theorem JM:IT 96 21 Tryz.f96 [(4,50,false)]:=@iM _ _ _ _ Tryz.func96 rfl rfl rfl KR KR
abbrev Jv:FuncId:=97
theorem o8:IT 97 60 Tryz.f97 [(8,50,false)]:=@iM _ _ _ _ Tryz.func97 rfl rfl rfl KR KR
abbrev yC:FuncId:=98
theorem fr:IT 98 46 Tryz.f98 [(6,48,true)]:=@iM _ _ _ _ Tryz.func98 rfl rfl rfl KR KR
abbrev tf:FuncId:=99
theorem tu:IT 99 12 Tryz.f99 [(2,109,true)]:=@iM _ _ _ _ Tryz.func99 rfl rfl rfl KR KR
abbrev jq:FuncId:=100
theorem nW:IT 100 13 Tryz.f100 [(4,48,true)]:=@iM _ _ _ _ Tryz.func100 rfl rfl rfl KR KR
abbrev te:FuncId:=101
theorem lg:IT 101 25 Tryz.f101 [(2,109,true)]:=@iM _ _ _ _ Tryz.func101 rfl rfl rfl KR KR
abbrev vG:FuncId:=110
theorem wj:IT 110 26 Tryz.f110 [(2,42,true)]:=@iM _ _ _ _ Tryz.func110 rfl rfl rfl KR KR
abbrev mq:FuncId:=111
theorem wn:IT 111 33 Tryz.f111 [(2,48,true)]:=@iM _ _ _ _ Tryz.func111 rfl rfl rfl KR KR
abbrev DV:FuncId:=112
theorem EA:IT 112 6 Tryz.f112 [(2,50,false)]:=@iM _ _ _ _ Tryz.func112 rfl rfl rfl KR KR
abbrev rz:FuncId:=113
theorem rN:IT 113 8 Tryz.f113 [(2,109,true)]:=@iM _ _ _ _ Tryz.func113 rfl rfl rfl KR KR
abbrev jA:FuncId:=119
theorem jF:IT 119 19 Tryz.f119 [(4,159,false)]:=@iM _ _ _ _ Tryz.func119 rfl rfl rfl KR KR
abbrev yA:FuncId:=144
theorem gC:IT 144 115 Tryz.f144 [(4,176,true)]:=@iM _ _ _ _ Tryz.func144 rfl rfl rfl KR KR
abbrev tc:FuncId:=145
theorem aR:IT 145 86 Tryz.f145 [(4,179,true)]:=@iM _ _ _ _ Tryz.func145 rfl rfl rfl KR KR
abbrev Jt:FuncId:=146
theorem JK:IT 146 43 Tryz.f146 [(6,50,false)]:=@iM _ _ _ _ Tryz.func146 rfl rfl rfl KR KR
abbrev Ak:FuncId:=147
theorem AD:IT 147 18 Tryz.f147 [(4,4,false)]:=@iM _ _ _ _ Tryz.func147 rfl rfl rfl KR KR
abbrev Dx:FuncId:=148
theorem lQ:IT 148 20 Tryz.f148 [(4,4,false)]:=@iM _ _ _ _ Tryz.func148 rfl rfl rfl KR KR
abbrev rp:FuncId:=149
theorem gE:IT 149 81 Tryz.f149 [(4,75,true),(5,4,false)]:=@iM _ _ _ _ Tryz.func149 rfl rfl rfl KR KR
abbrev yB:FuncId:=150
theorem cy:IT 150 110 Tryz.f150 [(6,176,true)]:=@iM _ _ _ _ Tryz.func150 rfl rfl rfl KR KR
abbrev td:FuncId:=151
theorem aS:IT 151 121 Tryz.f151 [(6,179,true)]:=@iM _ _ _ _ Tryz.func151 rfl rfl rfl KR KR
abbrev vJ:FuncId:=152
theorem iC:IT 152 246 Tryz.f152 [(4,174,false)]:=@iM _ _ _ _ Tryz.func152 rfl rfl rfl KR KR
abbrev rA:FuncId:=153
theorem bd:IT 153 75 Tryz.f153 [(4,179,true)]:=@iM _ _ _ _ Tryz.func153 rfl rfl rfl KR KR
abbrev Jy:FuncId:=154
theorem JQ:IT 154 44 Tryz.f154 [(6,50,false)]:=@iM _ _ _ _ Tryz.func154 rfl rfl rfl KR KR
abbrev rE:FuncId:=155
theorem dp:IT 155 107 Tryz.f155 [(4,75,true),(5,4,false)]:=@iM _ _ _ _ Tryz.func155 rfl rfl rfl KR KR
abbrev vK:FuncId:=156
theorem cG:IT 156 131 Tryz.f156 []:=@iM _ _ _ _ Tryz.func156 rfl rfl rfl KR KR
abbrev rC:FuncId:=157
theorem bf:IT 157 95 Tryz.f157 [(6,109,true)]:=@iM _ _ _ _ Tryz.func157 rfl rfl rfl KR KR
abbrev Dl:FuncId:=158
abbrev iz:FuncId:=159
abbrev Ai:FuncId:=160
abbrev Al:FuncId:=161
theorem AE:IT 161 7 Tryz.f161 [(2,9,false)]:=@iM _ _ _ _ Tryz.func161 rfl rfl rfl KR KR
abbrev rq:FuncId:=162
theorem gF:IT 162 23 Tryz.f162 [(4,9,false)]:=@iM _ _ _ _ Tryz.func162 rfl rfl rfl KR KR
abbrev yw:FuncId:=163
theorem yZ:IT 163 28 Tryz.f163 [(2,4,false)]:=@iM _ _ _ _ Tryz.func163 rfl rfl rfl KR KR
abbrev ve:FuncId:=164
theorem vQ:IT 164 5 Tryz.f164 [(2,4,false)]:=@iM _ _ _ _ Tryz.func164 rfl rfl rfl KR KR
abbrev tb:FuncId:=165
theorem tt:IT 165 19 Tryz.f165 [(2,4,false)]:=@iM _ _ _ _ Tryz.func165 rfl rfl rfl KR KR
abbrev yu:FuncId:=166
theorem yX:IT 166 96 Tryz.f166 [(4,4,false)]:=@iM _ _ _ _ Tryz.func166 rfl rfl rfl KR KR
abbrev Hc:FuncId:=167
theorem Hw:IT 167 28 Tryz.f167 [(2,4,false)]:=@iM _ _ _ _ Tryz.func167 rfl rfl rfl KR KR
abbrev DU:FuncId:=168
theorem Ez:IT 168 18 Tryz.f168 [(2,4,false)]:=@iM _ _ _ _ Tryz.func168 rfl rfl rfl KR KR
abbrev qF:FuncId:=169
theorem lR:IT 169 92 Tryz.f169 [(4,124,true)]:=@iM _ _ _ _ Tryz.func169 rfl rfl rfl KR KR
abbrev Hb:FuncId:=170
theorem Hv:IT 170 19 Tryz.f170 [(4,4,false)]:=@iM _ _ _ _ Tryz.func170 rfl rfl rfl KR KR
abbrev tj:FuncId:=171
theorem tA:IT 171 22 Tryz.f171 []:=@iM _ _ _ _ Tryz.func171 rfl rfl rfl KR KR
abbrev vF:FuncId:=172
theorem wg:IT 172 23 Tryz.f172 [(2,9,false)]:=@iM _ _ _ _ Tryz.func172 rfl rfl rfl KR KR
abbrev Hf:FuncId:=173
theorem Hy:IT 173 22 Tryz.f173 [(4,9,false)]:=@iM _ _ _ _ Tryz.func173 rfl rfl rfl KR KR
abbrev Jx:FuncId:=174
theorem JP:IT 174 23 Tryz.f174 [(4,25,false)]:=@iM _ _ _ _ Tryz.func174 rfl rfl rfl KR KR
abbrev Hd:FuncId:=175
theorem Hx:IT 175 6 Tryz.f175 [(2,25,false)]:=@iM _ _ _ _ Tryz.func175 rfl rfl rfl KR KR
abbrev rG:FuncId:=176
theorem rP:IT 176 31 Tryz.f176 [(2,4,false)]:=@iM _ _ _ _ Tryz.func176 rfl rfl rfl KR KR
abbrev tP:FuncId:=177
theorem Hm:IT 177 26 Tryz.f177 [(4,9,false)]:=@iM _ _ _ _ Tryz.func177 rfl rfl rfl KR KR
abbrev vf:FuncId:=178
theorem vR:IT 178 32 Tryz.f178 [(2,120,true),(3,4,false)]:=@iM _ _ _ _ Tryz.func178 rfl rfl rfl KR KR
abbrev Dq:FuncId:=179
theorem D6:IT 179 29 Tryz.f179 [(6,4,false)]:=@iM _ _ _ _ Tryz.func179 rfl rfl rfl KR KR
abbrev GW:FuncId:=181
theorem Hj:IT 181 12 Tryz.f181 [(2,43,true)]:=@iM _ _ _ _ Tryz.func181 rfl rfl rfl KR KR
abbrev qC:FuncId:=182
theorem qN:IT 182 13 Tryz.f182 [(4,109,true)]:=@iM _ _ _ _ Tryz.func182 rfl rfl rfl KR KR
abbrev lH:FuncId:=183
theorem iX:IT 183 79 Tryz.f183 [(4,48,true)]:=@iM _ _ _ _ Tryz.func183 rfl rfl rfl KR KR
abbrev pw:FuncId:=188
theorem py:IT 188 13 Tryz.f188 [(4,109,true)]:=@iM _ _ _ _ Tryz.func188 rfl rfl rfl KR KR
abbrev vH:FuncId:=189
theorem wk:IT 189 24 Tryz.f189 [(2,9,false)]:=@iM _ _ _ _ Tryz.func189 rfl rfl rfl KR KR
abbrev lI:FuncId:=196
theorem D4:IT 196 138 Tryz.f196 [(4,176,true)]:=@iM _ _ _ _ Tryz.func196 rfl rfl rfl KR KR
abbrev Dr:FuncId:=197
theorem lO:IT 197 26 Tryz.f197 [(4,75,true)]:=@iM _ _ _ _ Tryz.func197 rfl rfl rfl KR KR
abbrev Jq:FuncId:=198
theorem JI:IT 198 120 Tryz.f198 [(2,4,false)]:=@iM _ _ _ _ Tryz.func198 rfl rfl rfl KR KR
abbrev qA:FuncId:=199
theorem qM:IT 199 28 Tryz.f199 [(4,48,true),(5,4,false)]:=@iM _ _ _ _ Tryz.func199 rfl rfl rfl KR KR
abbrev nS:FuncId:=200
theorem cx:IT 200 140 Tryz.f200 [(6,48,true)]:=@iM _ _ _ _ Tryz.func200 rfl rfl rfl KR KR
abbrev rB:FuncId:=201
theorem gG:IT 201 26 Tryz.f201 [(4,75,true)]:=@iM _ _ _ _ Tryz.func201 rfl rfl rfl KR KR
abbrev rH:FuncId:=202
theorem bL:IT 202 162 Tryz.f202 []:=@iM _ _ _ _ Tryz.func202 rfl rfl rfl KR KR
abbrev lJ:FuncId:=203
abbrev lM:FuncId:=204
abbrev yx:FuncId:=205
theorem gB:IT 205 45 Tryz.f205 [(6,52,true)]:=@iM _ _ _ _ Tryz.func205 rfl rfl rfl KR KR
abbrev kq:FuncId:=206
abbrev fe:FuncId:=207
abbrev kr:FuncId:=208
abbrev iU:FuncId:=209
abbrev Dn:FuncId:=210
abbrev GY:FuncId:=211
theorem Hl:IT 211 35 Tryz.f211 [(2,9,false)]:=@iM _ _ _ _ Tryz.func211 rfl rfl rfl KR KR
abbrev tN:FuncId:=212
theorem tV:IT 212 26 Tryz.f212 [(2,9,false)]:=@iM _ _ _ _ Tryz.func212 rfl rfl rfl KR KR
abbrev Du:FuncId:=213
theorem D9:IT 213 67 Tryz.f213 [(2,9,false)]:=@iM _ _ _ _ Tryz.func213 rfl rfl rfl KR KR
abbrev vg:FuncId:=214
theorem vS:IT 214 25 Tryz.f214 [(2,9,false)]:=@iM _ _ _ _ Tryz.func214 rfl rfl rfl KR KR
abbrev qz:FuncId:=218
theorem qL:IT 218 18 Tryz.f218 [(2,3,false)]:=@iM _ _ _ _ Tryz.func218 rfl rfl rfl KR KR
abbrev Dt:FuncId:=219
theorem D8:IT 219 16 Tryz.f219 [(2,4,false),(3,4,false),(4,4,false),(5,4,false),(6,4,false)]:=@iM _ _ _ _ Tryz.func219 rfl rfl rfl KR KR
abbrev nT:FuncId:=220
theorem yY:IT 220 18 Tryz.f220 [(2,25,false)]:=@iM _ _ _ _ Tryz.func220 rfl rfl rfl KR KR
abbrev lK:FuncId:=221
abbrev lL:FuncId:=222
abbrev Jp:FuncId:=223
theorem JH:IT 223 33 Tryz.f223 [(2,4,false)]:=@iM _ _ _ _ Tryz.func223 rfl rfl rfl KR KR
theorem fF{f:FuncId}{xs:List A}{r:V}{o:List (List V)}(h:F f xs r o:=by assumption):F f xs r o:=h
theorem QZ{p:Prop}(h:p:=by
 (repeat' first
  |exact True.intro
  |exact fF
  |refine J ?_ ?_
  |with_reducible rfl
  |exact w8 _
  |exact xA
  |exact ixb AS
  |exact nO
  |exact tO
  |exact dO
  |exact gt OM
  |assumption
  |exact wO
  |exact nbF AS
  |exact nbT AS
  |omega
  |rfl
  |exact mA
  |exact w8u _
  |exact LN
  |exact w64 LN LN
  |exact wu8 OM OM
  |exact jP LN
  |exact uH
  |exact uE
  |exact oa AS
  |(simp[*];done)
  |(simp_all;done)
 );done):p:=h
theorem QA{p:Prop}{q1:Prop}(h1:q1)(f:q1→p:=by
 (intro z1;repeat' first
  |exact True.intro
  |exact fF
  |(apply z1 <;> first|assumption|omega|(simp only[ka];omega)|skip)
  |refine J ?_ ?_
  |with_reducible rfl
  |exact w8 _
  |exact xA
  |exact ixb AS
  |exact nO
  |exact tO
  |exact dO
  |exact gt OM
  |assumption
  |exact wO
  |exact nbF AS
  |exact nbT AS
  |omega
  |rfl
  |exact mA
  |exact w8u _
  |exact LN
  |exact w64 LN LN
  |exact wu8 OM OM
  |exact jP LN
  |exact uH
  |exact uE
  |exact oa AS
  |(simp[*];done)
  |(simp_all;done)
 );done):p:=f h1
theorem QB{p:Prop}{q1:Prop}(h1:q1){q2:Prop}(h2:q2)(f:q1→q2→p:=by
 (intro z1 z2;repeat' first
  |exact True.intro
  |exact fF
  |(apply z1 <;> first|assumption|omega|(simp only[ka];omega)|skip)
  |(apply z2 <;> first|assumption|omega|(simp only[ka];omega)|skip)
  |refine J ?_ ?_
  |with_reducible rfl
  |exact w8 _
  |exact xA
  |exact ixb AS
  |exact nO
  |exact tO
  |exact dO
  |exact gt OM
  |assumption
  |exact wO
  |exact nbF AS
  |exact nbT AS
  |omega
  |rfl
  |exact mA
  |exact w8u _
  |exact LN
  |exact w64 LN LN
  |exact wu8 OM OM
  |exact jP LN
  |exact uH
  |exact uE
  |exact oa AS
  |(simp[*];done)
  |(simp_all;done)
 );done):p:=f h1 h2
theorem QC{p:Prop}{q1:Prop}(h1:q1){q2:Prop}(h2:q2){q3:Prop}(h3:q3)(f:q1→q2→q3→p:=by
 (intro z1 z2 z3;repeat' first
  |exact True.intro
  |exact fF
  |(apply z1 <;> first|assumption|omega|(simp only[ka];omega)|skip)
  |(apply z2 <;> first|assumption|omega|(simp only[ka];omega)|skip)
  |(apply z3 <;> first|assumption|omega|(simp only[ka];omega)|skip)
  |refine J ?_ ?_
  |with_reducible rfl
  |exact w8 _
  |exact xA
  |exact ixb AS
  |exact nO
  |exact tO
  |exact dO
  |exact gt OM
  |assumption
  |exact wO
  |exact nbF AS
  |exact nbT AS
  |omega
  |rfl
  |exact mA
  |exact w8u _
  |exact LN
  |exact w64 LN LN
  |exact wu8 OM OM
  |exact jP LN
  |exact uH
  |exact uE
  |exact oa AS
  |(simp[*];done)
  |(simp_all;done)
 );done):p:=f h1 h2 h3
end Go.K
end
section
open Go Go.Tm Go.Proofs
namespace Go.K
structure Entry where
 kind:Int
 epoch:Int
 task:Int
 text:ByteArray
 deriving DecidableEq
abbrev i7(k ep ta:Int)(tx:ByteArray):V:=.agg [.t (.i k),.t (.i ep),.t (.i ta),.t (.s tx)]
abbrev Entry.v(e:Entry):V:=i7 e.kind e.epoch e.task e.text
theorem ai(x lo hi:Int):F DT [.val (.i x),.val (.i lo),.val (.i hi)] (.b (decide (lo≤x∧x≤hi))) O3:=by
 refine Ey ?_
 conv=>whnf
 refine g 0 0 []<|J UA ?_
 by_cases h1:lo≤x
 refine g 7 15 [BT,BT,BT,BT]<|J QZ<|RT ?_
 exact vbd OM
 refine g 7 15 [BF,BF,BF,BF]<|J QZ<|RT ?_
 exact vbf OM
theorem aw(x lo hi:Int):F Js [.val (.i x),.val (.i lo),.val (.i hi)] (.b (decide (lo≤x∧x≤hi))) O3:=by
 refine JJ ?_
 conv=>whnf
 refine g 0 0 []<|J UA ?_
 by_cases h1:lo≤x
 refine g 7 15 [BT,BT,BT,BT]<|J QZ<|RT ?_
 exact vbd OM
 refine g 7 15 [BF,BF,BF,BF]<|J QZ<|RT ?_
 exact vbf OM
end Go.K
end
section
open Go Go.Tm Go.Proofs
namespace Go.K
def Entry.ok(e:Entry):Prop:=(1≤e.epoch∧e.epoch≤300)∧(0≤e.task∧e.task≤39)∧((e.kind = 1∧e.task = 0∧e.text = ⟨#[]⟩)∨(e.kind = 2∧(e.text.size:Int) = 8))
instance (e:Entry):Decidable e.ok:=by unfold Entry.ok;infer_instance
theorem kh(k ep ta:Int)(tx:ByteArray):F rG [.val (i7 k ep ta tx)] (.b (decide (Entry.ok ⟨k,ep,ta,tx⟩))) O1:=by
 refine rP ?_
 conv=>whnf
 refine g 0 1 []<|J QZ<|Ws ?_
 by_cases h1:(1:Int)≤ep∧ep≤(300:Int)
 refine g 5 12 [.call (V.b (decide (1≤ep∧ep≤300))) O3,BF,BF,BF,.call (V.b (decide (0≤ta∧ta≤39))) O3,BF,BF]<|J (QA @ai)<|Wc<|JN (fun h2=>?_) fun h2=>?_
 refine g 12 13 []<|J UA<|RT ?_
 rotate_left
 refine Wk<|Ws<|g 12 14 []<|J UB<|Wb<|g 16 17 []<|J UB<|Wc<|JD (fun h3=>?_) fun h3=>?_
 by_cases h4:ta = (0:Int)
 refine g 14 25 [BT,BT,BT,BT]<|J QZ<|RT ?_
 rotate_left
 refine g 14 25 [BF,BF,BF,BF]<|J QZ<|RT ?_
 rotate_left
 refine g 14 16 []<|J UB<|Wc<|JD (fun h4=>?_) fun h4=>?_
 refine g 25 31 []<|J UE<|RT ?_
 rotate_left
 refine Wk<|g 25 27 []<|J UA<|RT ?_
 rotate_left
 refine g 5 12 [.call (V.b (decide (1≤ep∧ep≤300))) O3,BT,BT,BT,BT,BT]<|J (QA @ai)<|Wc<|Kr (g 12 13 []<|J UA (RT ?_))
 rotate_left
 all_goals (first|exact vbt (by unfold Entry.ok;simp_all;done)|exact vbf (by unfold Entry.ok;simp_all;omega)|exact vbf (by unfold Entry.ok;simp_all)|exact vbd (by unfold Entry.ok;simp_all;done)|exact vbd (by unfold Entry.ok;simp_all;omega))
theorem J1(k ep ta:Int)(tx:ByteArray):F Jp [.val (i7 k ep ta tx)] (.b (decide (Entry.ok ⟨k,ep,ta,tx⟩))) O1:=by
 refine JH ?_
 conv=>whnf
 refine g 0 1 []<|J QZ<|Ws ?_
 by_cases h1:(1:Int)≤ep∧ep≤(300:Int)
 refine g 5 12 [.call (V.b (decide (1≤ep∧ep≤300))) O3,BF,BF,BF,.call (V.b (decide (0≤ta∧ta≤39))) O3,BF,BF]<|J (QA @aw)<|Wc<|JN (fun h2=>?_) fun h2=>?_
 refine g 12 13 []<|J UA<|RT ?_
 rotate_left
 refine Wk<|Ws<|g 12 15 []<|J UC<|Wc<|JD (fun h3=>?_) fun h3=>?_
 by_cases h4:ta = (0:Int)
 refine g 15 24 [BT,BT,BT,BT]<|J QZ<|RT ?_
 rotate_left
 refine g 15 24 [BF,BF,BF,BF]<|J QZ<|RT ?_
 rotate_left
 refine Wk ?_
 by_cases h4:k = (2:Int)
 refine g 15 33 [BT,BT,BT,BT,BT]<|J QZ<|RT ?_
 rotate_left
 refine g 15 33 [BF,BF,BF,BF,BF]<|J QZ<|RT ?_
 rotate_left
 refine g 5 12 [.call (V.b (decide (1≤ep∧ep≤300))) O3,BT,BT,BT,BT,BT]<|J (QA @aw)<|Wc<|Kr (g 12 13 []<|J UA (RT ?_))
 rotate_left
 all_goals (first|exact vbt (by unfold Entry.ok;simp_all;done)|exact vbf (by unfold Entry.ok;simp_all;omega)|exact vbf (by unfold Entry.ok;simp_all)|exact vbd (by unfold Entry.ok;simp_all;done)|exact vbd (by unfold Entry.ok;simp_all;omega))
abbrev emp:ByteArray:=⟨#[]⟩
def bl(l:List Int):ByteArray:=⟨(l.map fun n=>UInt8.ofNat n.toNat).toArray⟩
def M2(e:Entry):ByteArray:=if e.ok then bl [IntKind.u8.wrap e.kind,IntKind.u8.wrap (e.epoch.fdiv 256),IntKind.u8.wrap e.epoch,IntKind.u8.wrap e.task] ++e.text else emp
theorem mK(k ep ta:Int)(tx:ByteArray)(ht:tx.size≤281474976710656):F vH [.val (i7 k ep ta tx)] (.s (M2 ⟨k,ep,ta,tx⟩)) O1:=by
 refine wk ?_
 conv=>whnf
 refine g 0 0 []<|J QZ<|Ws<|g 4 5 [.call (V.b (decide (Entry.ok {kind:=k,epoch:=ep,task:=ta,text:=tx:Entry}))) O1]<|J (QA @kh)<|Wc<|JN (fun h1=>?_) fun h1=>?_
 refine g 5 6 []<|J UA<|RT ?_
 rotate_left
 refine Wk<|g 10 24 [.i (IntKind.wrap IntKind.u8 k),.i (Int.fdiv ep (2 ^ min (Int.toNat 8) (IntKind.bits IntKind.i64))),.i (IntKind.wrap IntKind.u8 (Int.fdiv ep (2 ^ min (Int.toNat 8) (IntKind.bits IntKind.i64)))),.i (IntKind.wrap IntKind.u8 ep),.i (IntKind.wrap IntKind.u8 ta),.s ({data:=List.toArray (bZ [[T.v (Value.int IntKind.u8 (IntKind.wrap IntKind.u8 k))],[T.v (Value.int IntKind.u8 (IntKind.wrap IntKind.u8 (Int.fdiv ep (2 ^ min (Int.toNat 8) (IntKind.bits IntKind.i64)))))],[T.v (Value.int IntKind.u8 (IntKind.wrap IntKind.u8 ep))],[T.v (Value.int IntKind.u8 (IntKind.wrap IntKind.u8 ta))]]):ByteArray}),.s ({data:=List.toArray (bZ [[T.v (Value.int IntKind.u8 (IntKind.wrap IntKind.u8 k))],[T.v (Value.int IntKind.u8 (IntKind.wrap IntKind.u8 (Int.fdiv ep (2 ^ min (Int.toNat 8) (IntKind.bits IntKind.i64)))))],[T.v (Value.int IntKind.u8 (IntKind.wrap IntKind.u8 ep))],[T.v (Value.int IntKind.u8 (IntKind.wrap IntKind.u8 ta))]]):ByteArray} ++tx)]<|J ⟨I,I,rfl,I,I,⟨OM,rfl⟩,rfl,I,I,rfl,I,I,rfl,⟨UA,UA,UA,UA,I⟩,⟨I,(by repeat (first|exact kK|refine jg ?_)),rfl⟩,I,I,⟨rfl,(by simp only[bsz,ByteArray.size_append,ka];omega)⟩,I,I⟩ ?_
 refine RT ?_
 rotate_left
 ·refine vs ?_
  simp only[M2,h1,if_false]
 ·refine vs ?_
  simp only[M2,h1,if_true];rfl
def bW(e:Entry):ByteArray:=if e.ok then bl [IntKind.u8.wrap e.kind,IntKind.u8.wrap (IntKind.i64.wrap (e.epoch.tdiv 256)),IntKind.u8.wrap (e.epoch.tmod 256),IntKind.u8.wrap e.task] ++e.text else emp
theorem dq(k ep ta:Int)(tx:ByteArray)(ht:tx.size≤281474976710656):F vg [.val (i7 k ep ta tx)] (.s (bW ⟨k,ep,ta,tx⟩)) O1:=by
 refine vS ?_
 conv=>whnf
 refine g 0 0 []<|J QZ<|Ws<|g 4 5 [.call (V.b (decide (Entry.ok {kind:=k,epoch:=ep,task:=ta,text:=tx:Entry}))) O1]<|J (QA @J1)<|Wc<|JN (fun h1=>?_) fun h1=>?_
 refine g 5 6 []<|J UA<|RT ?_
 rotate_left
 refine Wk<|g 10 25 [.i (IntKind.wrap IntKind.u8 k),.i (IntKind.wrap IntKind.i64 (Int.tdiv ep 256)),.i (IntKind.wrap IntKind.u8 (IntKind.wrap IntKind.i64 (Int.tdiv ep 256))),.i (Int.tmod ep 256),.i (IntKind.wrap IntKind.u8 (Int.tmod ep 256)),.i (IntKind.wrap IntKind.u8 ta),.s ({data:=List.toArray (bZ [[T.v (Value.int IntKind.u8 (IntKind.wrap IntKind.u8 k))],[T.v (Value.int IntKind.u8 (IntKind.wrap IntKind.u8 (IntKind.wrap IntKind.i64 (Int.tdiv ep 256))))],[T.v (Value.int IntKind.u8 (IntKind.wrap IntKind.u8 (Int.tmod ep 256)))],[T.v (Value.int IntKind.u8 (IntKind.wrap IntKind.u8 ta))]]):ByteArray}),.s ({data:=List.toArray (bZ [[T.v (Value.int IntKind.u8 (IntKind.wrap IntKind.u8 k))],[T.v (Value.int IntKind.u8 (IntKind.wrap IntKind.u8 (IntKind.wrap IntKind.i64 (Int.tdiv ep 256))))],[T.v (Value.int IntKind.u8 (IntKind.wrap IntKind.u8 (Int.tmod ep 256)))],[T.v (Value.int IntKind.u8 (IntKind.wrap IntKind.u8 ta))]]):ByteArray} ++tx)]<|J ⟨I,I,rfl,I,I,⟨OM,rfl⟩,rfl,I,I,⟨OM,rfl⟩,rfl,I,I,rfl,⟨UA,UA,UA,UA,I⟩,⟨I,(by repeat (first|exact kK|refine jg ?_)),rfl⟩,I,I,⟨rfl,(by simp only[bsz,ByteArray.size_append,ka];omega)⟩,I,I⟩ ?_
 refine RT ?_
 rotate_left
 ·refine vs ?_
  simp only[bW,h1,if_false]
 ·refine vs ?_
  simp only[bW,h1,if_true];rfl
def byt(s:ByteArray)(i:Nat):Int:=((s[i]?).map (fun b=>(b.toNat:Int))).getD 0
def H4(x y:Int):Int:=IntKind.i64.wrap ↑(BitVec.ofInt IntKind.i64.bits x|||BitVec.ofInt IntKind.i64.bits y).toNat
def rdI(s:ByteArray):Entry:=⟨byt s 0,H4 (IntKind.i64.wrap (byt s 1 * 256)) (byt s 2),byt s 3,s.extract 4 s.size⟩
def rdS(s:ByteArray):Entry:=⟨byt s 0,byt s 1 * 256+byt s 2,byt s 3,s.extract 4 s.size⟩
abbrev noE:Entry:=⟨0,0,0,emp⟩
abbrev mR(o:Option Entry):V:=match o with|some e=>.tup [e.v,.b true]|none=>.tup [noE.v,.b false]
def sj(s:ByteArray):Option Entry:=if(s.size:Int) < 4∨12 < (s.size:Int)then none else if(rdI s).ok then some (rdI s)else none
def eZ(s:ByteArray):Option Entry:=if(s.size:Int) < 4 then none else if bW (rdS s) = s then some (rdS s)else none
theorem bM{s:ByteArray}{i:Nat}{c:UInt8}(h:s[i]? = some c):byt s i = (c.toNat:Int):=by simp[byt,h]
theorem mJ(s:ByteArray)(ht:s.size≤281474976710656):F mo [.val (.s s)] (mR (sj s)) O1:=by
 refine wh ?_
 conv=>whnf
 refine g 0 0 []<|J UB<|Ws ?_
 by_cases h1:(↑(ByteArray.size s):Int) < (4:Int)
 refine g 5 12 [BT,BT,BT,BT]<|J QZ<|Wc<|Kr (g 12 14 []<|J QZ (RT ?_))
 rotate_left
 refine g 5 12 [BF,BF,BF,BF]<|J QZ<|Wc<|JD (fun h2=>?_) fun h2=>?_
 refine g 12 14 []<|J QZ<|RT ?_
 rotate_left
 refine Wk ?_
 obtain⟨y1,hy1,hb1⟩:=bF (s:=s) (n:=(0:Nat)) OM
 obtain⟨y2,hy2,hb2⟩:=bF (s:=s) (n:=(1:Nat)) OM
 obtain⟨y3,hy3,hb3⟩:=bF (s:=s) (n:=(2:Nat)) OM
 obtain⟨y4,hy4,hb4⟩:=bF (s:=s) (n:=(3:Nat)) OM
 refine gd 12 27 [[],[.i ((↑(UInt8.toNat y1):Int))],[.i ((↑(UInt8.toNat y1):Int))],[],[.i ((↑(UInt8.toNat y2):Int))],[.i ((↑(UInt8.toNat y2):Int))],[.i (IntKind.wrap IntKind.i64 ((↑(UInt8.toNat y2):Int) * 2 ^ min (Int.toNat 8) (IntKind.bits IntKind.i64)))],[],[.i ((↑(UInt8.toNat y3):Int))],[.i ((↑(UInt8.toNat y3):Int))],[.i (IntKind.wrap IntKind.i64 (↑(BitVec.toNat (BitVec.ofInt (IntKind.bits IntKind.i64) (IntKind.wrap IntKind.i64 ((↑(UInt8.toNat y2):Int) * 2 ^ min (Int.toNat 8) (IntKind.bits IntKind.i64)))|||BitVec.ofInt (IntKind.bits IntKind.i64) (↑(UInt8.toNat y3):Int))):Int))],[],[.i ((↑(UInt8.toNat y4):Int))],[.i ((↑(UInt8.toNat y4):Int))],[],[.n (4),.s (ByteArray.extract s 4 (ByteArray.size s))],[],[],[]] ?_
 conv=>whnf
 refine J QZ<|J KR<|Ws<|g 28 33 [.call (V.b (decide (Entry.ok {kind:=(↑(UInt8.toNat y1):Int),epoch:=IntKind.wrap IntKind.i64 (↑(BitVec.toNat (BitVec.ofInt (IntKind.bits IntKind.i64) (IntKind.wrap IntKind.i64 ((↑(UInt8.toNat y2):Int) * 2 ^ min (Int.toNat 8) (IntKind.bits IntKind.i64)))|||BitVec.ofInt (IntKind.bits IntKind.i64) (↑(UInt8.toNat y3):Int))):Int),task:=(↑(UInt8.toNat y4):Int),text:=ByteArray.extract s 4 (ByteArray.size s):Entry}))) O1]<|J (QA @kh)<|Wc<|JN (fun h3=>?_) fun h3=>?_
 refine g 33 35 []<|J QZ<|RT ?_
 rotate_left
 refine Wk<|g 33 36 []<|J QZ<|RT ?_
 rotate_left
 ·exact congrArg mR (show none = sj s by unfold sj;rw[if_pos OM])
 ·exact congrArg mR (show none = sj s by unfold sj;rw[if_pos OM])
 ·have e:rdI s = ⟨y1.toNat,H4 (IntKind.i64.wrap ((y2.toNat:Int) * 256)) y3.toNat,y4.toNat,s.extract 4 s.size⟩:=by simp only[rdI,bM hy1,bM hy2,bM hy3,bM hy4]
  exact congrArg mR (show none = sj s by unfold sj;rw[if_neg OM,e];exact(if_neg h3).symm)
 ·have e:rdI s = ⟨y1.toNat,H4 (IntKind.i64.wrap ((y2.toNat:Int) * 256)) y3.toNat,y4.toNat,s.extract 4 s.size⟩:=by simp only[rdI,bM hy1,bM hy2,bM hy3,bM hy4]
  exact congrArg mR (show some _ = sj s by unfold sj;rw[if_neg OM,e];exact(if_pos h3).symm)
theorem wt(s:ByteArray)(ht:s.size≤281474976710656):F vf [.val (.s s)] (mR (eZ s)) O1:=by
 refine vR ?_
 conv=>whnf
 refine g 0 0 []<|J UB<|Ws<|g 5 7 []<|J UC<|Wc<|JD (fun h1=>?_) fun h1=>?_
 refine g 7 9 []<|J QZ<|RT ?_
 rotate_left
 refine Wk ?_
 obtain⟨y1,hy1,hb1⟩:=bF (s:=s) (n:=(0:Nat)) OM
 obtain⟨y2,hy2,hb2⟩:=bF (s:=s) (n:=(1:Nat)) OM
 obtain⟨y3,hy3,hb3⟩:=bF (s:=s) (n:=(2:Nat)) OM
 obtain⟨y4,hy4,hb4⟩:=bF (s:=s) (n:=(3:Nat)) OM
 refine gd 7 26 [[],[.i ((↑(UInt8.toNat y1):Int))],[.i ((↑(UInt8.toNat y1):Int))],[],[.i ((↑(UInt8.toNat y2):Int))],[.i ((↑(UInt8.toNat y2):Int))],[.i ((↑(UInt8.toNat y2):Int) * 256)],[],[.i ((↑(UInt8.toNat y3):Int))],[.i ((↑(UInt8.toNat y3):Int))],[.i ((↑(UInt8.toNat y2):Int) * 256+ (↑(UInt8.toNat y3):Int))],[],[.i ((↑(UInt8.toNat y4):Int))],[.i ((↑(UInt8.toNat y4):Int))],[],[.n (4),.s (ByteArray.extract s 4 (ByteArray.size s))],[],[],[]] ?_
 conv=>whnf
 refine J QZ<|J KR<|Ws<|g 0 1 [.call (V.s (bW {kind:=(↑(UInt8.toNat y1):Int),epoch:=(↑(UInt8.toNat y2):Int) * 256+ (↑(UInt8.toNat y3):Int),task:=(↑(UInt8.toNat y4):Int),text:=ByteArray.extract s 4 (ByteArray.size s):Entry})) O1]<|J ⟨I,⟨UA,I,⟨UD,I⟩,UA,dq _ _ _ _ (by simp only[ByteArray.size_extract];omega)⟩,I,I,I⟩<|Wc<|JN (fun h2=>?_) fun h2=>?_
 refine g 28 31 []<|J QZ<|RT ?_
 rotate_left
 refine Wk<|g 28 32 []<|J QZ<|RT ?_
 rotate_left
 ·exact congrArg mR (show none = eZ s by unfold eZ;rw[if_pos OM])
 ·have e:rdS s = ⟨y1.toNat,(y2.toNat:Int) * 256+y3.toNat,y4.toNat,s.extract 4 s.size⟩:=by simp only[rdS,bM hy1,bM hy2,bM hy3,bM hy4]
  exact congrArg mR (show none = eZ s by unfold eZ;rw[if_neg OM,e];exact(if_neg h2).symm)
 ·have e:rdS s = ⟨y1.toNat,(y2.toNat:Int) * 256+y3.toNat,y4.toNat,s.extract 4 s.size⟩:=by simp only[rdS,bM hy1,bM hy2,bM hy3,bM hy4]
  exact congrArg mR (show some _ = eZ s by unfold eZ;rw[if_neg OM,e];exact(if_pos h2).symm)
end Go.K
end
section
open Go Go.Tm Go.Proofs
namespace Go.K
theorem OQ(e:Entry):M2 e = bW e:=by
 unfold M2 bW
 by_cases h:e.ok
 ·simp only[h,if_true]
  obtain⟨⟨h1,h2⟩,_⟩:=h
  have e1:e.epoch.fdiv 256 = e.epoch / 256:=Int.fdiv_eq_ediv_of_nonneg _ OM
  have e2:e.epoch.tdiv 256 = e.epoch / 256:=Int.tdiv_eq_ediv_of_nonneg OM
  have e3:e.epoch.tmod 256 = e.epoch % 256:=Int.tmod_eq_emod_of_nonneg OM
  have e4:IntKind.u8.wrap e.epoch = e.epoch % 256:=by simp[IntKind.wrap,IntKind.bits,IntKind.signed]
  rw[e1,e2,e3,wO,e4,wu8 (z:=e.epoch % 256) OM OM]
 ·simp only[h,if_false]
end Go.K
namespace Go.K
end Go.K
end
section
open Go Go.Tm Go.Proofs
namespace Go.K
theorem wP{l:List UInt8}{i:Nat}{c:UInt8}(h:l[i]? = some c):byt ⟨⟨l⟩⟩ i = (c.toNat:Int):=by
 have:(ByteArray.mk ⟨l⟩)[i]? = l[i]?:=by
  show(if h:i < (ByteArray.mk ⟨l⟩).size then some ((ByteArray.mk ⟨l⟩)[i])else none) = _
  have hsz:(ByteArray.mk ⟨l⟩).size = l.length:=rfl
  by_cases hi:i < l.length
  ·rw[dif_pos (by rw[hsz];exact hi),List.getElem?_eq_getElem hi];rfl
  ·rw[dif_neg (by rw[hsz];exact hi),List.getElem?_eq_none OM]
 exact bM (by rw[this];exact h)
theorem ZK(s:ByteArray)(h:4≤s.size):bl [byt s 0,byt s 1,byt s 2,byt s 3] ++s.extract 4 s.size = s:=by
 obtain⟨⟨l⟩⟩:=s
 match l,h with
 |a :: b :: c :: d :: r,_ =>
  rw[wP (c:=a) rfl,wP (c:=b) rfl,wP (c:=c) rfl,wP (c:=d) rfl]
  apply ByteArray.ext
  rw[ByteArray.data_append,ByteArray.data_extract]
  apply Array.ext'
  simp[bl,ByteArray.size]
theorem KV(a b:Nat)(ha:a < 256)(hb:b < 256):H4 (IntKind.i64.wrap ((a:Int) * 256)) b = (a:Int) * 256+b:=by
 rw[wO]
 unfold H4
 have e:((BitVec.ofInt IntKind.i64.bits ((a:Int) * 256))|||BitVec.ofInt IntKind.i64.bits (b:Int)).toNat = a * 256+b:=by
  have h1:BitVec.ofInt IntKind.i64.bits ((a:Int) * 256) = BitVec.ofNat IntKind.i64.bits (a * 256):=by
   rw[show((a:Int) * 256) = ((a * 256:Nat):Int) by simp];exact BitVec.ofInt_natCast ..
  have h2:BitVec.ofInt IntKind.i64.bits (b:Int) = BitVec.ofNat IntKind.i64.bits b:=BitVec.ofInt_natCast ..
  have hb64:IntKind.i64.bits = 64:=rfl
  rw[h1,h2,BitVec.toNat_or,BitVec.toNat_ofNat,BitVec.toNat_ofNat,hb64,Nat.mod_eq_of_lt OM,Nat.mod_eq_of_lt OM]
  have:=Nat.two_pow_add_eq_or_of_lt (i:=8) (b:=b) OM a
  rw[Nat.mul_comm]at this
  simpa using this.symm
 rw[e]
 rw[wO];simp
theorem eS(s:ByteArray)(i:Nat):∃ n:Nat,byt s i = n∧n < 256:=by
 unfold byt
 cases h:s[i]? with
 |none=>exact⟨0,rfl,by omega⟩
 |some c=>exact⟨c.toNat,rfl,UInt8.toNat_lt _⟩
theorem aaP(s:ByteArray):rdI s = rdS s:=by
 unfold rdI rdS
 obtain⟨a,ha,ha'⟩:=eS s 1
 obtain⟨b,hb,hb'⟩:=eS s 2
 rw[ha,hb,KV a b ha' hb']
theorem Oi(s:ByteArray):sj s = eZ s:=by
 unfold sj eZ
 rw[aaP]
 by_cases h4:(s.size:Int) < 4
 ·rw[if_pos OM,if_pos h4]
 ·rw[if_neg h4]
  have hx:(s.extract 4 s.size).size = s.size - 4:=by rw[ByteArray.size_extract];omega
  by_cases hok:(rdS s).ok
  ·have hform:bW (rdS s) = s:=by
    unfold bW
    rw[if_pos hok]
    obtain⟨⟨h1,h2⟩,⟨h3,h4'⟩,h5⟩:=hok
    obtain⟨a,ha,ha'⟩:=eS s 1
    obtain⟨b,hb,hb'⟩:=eS s 2
    have hk:IntKind.u8.wrap (rdS s).kind = byt s 0:=by
     obtain⟨c,hc,hc'⟩:=eS s 0
     show IntKind.u8.wrap (byt s 0) = _
     rw[wu8 OM OM]
    have ht:IntKind.u8.wrap (rdS s).task = byt s 3:=by
     obtain⟨c,hc,hc'⟩:=eS s 3
     show IntKind.u8.wrap (byt s 3) = _
     rw[wu8 OM OM]
    have he:(rdS s).epoch = (a:Int) * 256+b:=by show byt s 1 * 256+byt s 2 = _;rw[ha,hb]
    have e1:IntKind.u8.wrap (IntKind.i64.wrap ((rdS s).epoch.tdiv 256)) = byt s 1:=by
     rw[he,Int.tdiv_eq_ediv_of_nonneg OM,wO,wu8 OM OM,ha];omega
    have e2:IntKind.u8.wrap ((rdS s).epoch.tmod 256) = byt s 2:=by
     rw[he,Int.tmod_eq_emod_of_nonneg OM,wu8 OM OM,hb];omega
    rw[hk,ht,e1,e2]
    exact ZK s OM
   have hsz:¬((s.size:Int) < 4∨12 < (s.size:Int)):=by
    obtain⟨_,_,h5⟩:=hok
    have hr:(rdS s).text = s.extract 4 s.size:=rfl
    rcases h5 with⟨_,_,h6⟩|⟨_,h6⟩
    ·rw[hr]at h6
     have:=congrArg ByteArray.size h6
     rw[hx]at this
     have h0:(ByteArray.mk #[]).size = 0:=rfl
     omega
    ·rw[hr,hx]at h6;omega
   rw[if_neg hsz,if_pos hok,if_pos hform]
  ·have hform:bW (rdS s)≠s:=by
    unfold bW
    rw[if_neg hok]
    intro e
    have:=congrArg ByteArray.size e
    have h0:emp.size = 0:=rfl
    omega
   rw[if_neg hform,if_neg hok]
   simp
end Go.K
end
section
open Go Go.Tm Go.Proofs
namespace Go.K
abbrev ah(s:ByteArray):List T:=[.s s]
abbrev pp(xs:List ByteArray):T:=.slc [false] (xs.map ah)
end Go.K
end
section
open Go Go.Tm Go.Proofs
namespace Go.K
abbrev u8v(n:Int):V:=.t (.v (.int .u64 n))
def fnv(v:Int)(c:UInt8):Int:=IntKind.u64.wrap (IntKind.u64.wrap (BitVec.ofInt IntKind.u64.bits v ^^^ BitVec.ofInt IntKind.u64.bits (c.toNat:Int)).toNat * 1099511628211)
def n5(v:Int)(s:ByteArray)(n:Nat):Int:=(s.data.toList.take n).foldl fnv v
theorem Z2{s:ByteArray}{n:Nat}{c:UInt8}(h:s[n]? = some c):s.data.toList[n]? = some c:=by
 by_cases hn:n < s.size
 ·rw[getElem?_pos s n hn]at h
  have hd:n < s.data.toList.length:=by simpa using hn
  rw[List.getElem?_eq_getElem hd]
  rw[←h];simp;rfl
 ·rw[getElem?_neg s n hn]at h;cases h
theorem Gm{v:Int}{s:ByteArray}{n:Nat}{c:UInt8}(h:s[n]? = some c):n5 v s (n+1) = fnv (n5 v s n) c:=by
 unfold n5
 rw[List.take_add_one,Z2 h,List.foldl_append];rfl
theorem ZU(v:Int)(c:UInt8):0≤fnv v c∧fnv v c≤18446744073709551615:=ZI _
theorem Cd:∀ (l:List UInt8) (v:Int),0≤v∧v≤18446744073709551615→0≤l.foldl fnv v∧l.foldl fnv v≤18446744073709551615
 |[],_,h=>h
 |c :: l,v,_=>Cd l (fnv v c) (ZU v c)
theorem dE(v:Int)(tx:ByteArray)(hs:tx.size≤9223372036854775807):F tj [.ptr [u8v v],.val (.s tx)] (.tup []) [[u8v (n5 v tx tx.size)],[]]:=by
 refine tA ?_
 conv=>whnf
 refine g 0 0 []<|J UA<|Wb<|Wl (fun s (n:Nat)=>⟨[(0,s.s 0),(1,s.s 1),(4,.i n)],[(22,[u8v (n5 v tx n)])],[]⟩) (fun(n:Nat)=>n≤tx.size) (fun(n:Nat)=>tx.size - n) (0) [some 22] [] FZ OM ?_
 intro n hn
 conv=>whnf
 refine Ws<|g 5 8 []<|J UD<|Wc<|JD (fun h1=>?_) fun h1=>?_
 refine Wk<|Ws<|Wb ?_
 obtain⟨y1,hy1,hb1⟩:=bF (s:=tx) (n:=n) OM
 refine rgd [[],[],[],[],[],[],[.i ((↑(UInt8.toNat y1):Int))],[.i ((↑(UInt8.toNat y1):Int))],[.i (IntKind.wrap IntKind.u64 (↑(BitVec.toNat (BitVec.ofInt (IntKind.bits IntKind.u64) (n5 v tx n) ^^^ BitVec.ofInt (IntKind.bits IntKind.u64) (↑(UInt8.toNat y1):Int))):Int))],[.i (IntKind.wrap IntKind.u64 (IntKind.wrap IntKind.u64 (↑(BitVec.toNat (BitVec.ofInt (IntKind.bits IntKind.u64) (n5 v tx n) ^^^ BitVec.ofInt (IntKind.bits IntKind.u64) (↑(UInt8.toNat y1):Int))):Int) * 1099511628211))],[],[]] ?_
 conv=>whnf
 refine J QZ<|J KR<|rg [.i ((n:Int) +1)]<|J QZ ?_
 rotate_left
 refine We<|EndsW.nm<|J I<|J ?_ ?_
 rfl
 rotate_left
 ·refine⟨n+1,[some 22],[],⟨rfl,FZ,⟨⟨rfl,⟨(congrArg (fun z=>V.t (T.v (Value.int _ z))) (Gm AS).symm),I⟩⟩,I⟩,I⟩,?_,?_⟩
  rotate_left
  (dsimp only;omega)
  dsimp only
  omega
 ·rw[show n = tx.size from by omega]
def beL(v:Int):Nat→List Int
 |0=>[]
 |n+1=>(v / 256 ^ n % 256) :: beL v n
abbrev b1T(n:Int):List T:=[.v (.int .u8 n)]
theorem rk(v:Int):∀ n,(beL v n).length = n
 |0=>rfl
 |n+1=>by simp[beL,rk v n]
theorem PU(v:Int):∀ n i,i < n→(beL v n)[i]? = some (v / 256 ^ (n - 1 - i) % 256)
 |0,_,h=>by omega
 |n+1,0,_=>by simp[beL]
 |n+1,i+1,h=>by
  simp only[beL,List.getElem?_cons_succ]
  rw[PU v n i OM]
  congr 3
  congr 1
  omega
theorem S0{v:Int}{n:Nat}(h0:0≤v)(hn:n < 8):(fill b1T (b1T 0) (beL v 8) n).set n (b1T (IntKind.u8.wrap (v.fdiv (2 ^ min (56 - 8 * (n:Int)).toNat IntKind.u64.bits)))) = fill b1T (b1T 0) (beL v 8) (n+1):=by
 have e:IntKind.u8.wrap (v.fdiv (2 ^ min (56 - 8 * (n:Int)).toNat IntKind.u64.bits)) = v / 256 ^ (8 - 1 - n) % 256:=by
  rw[Int.fdiv_eq_ediv_of_nonneg _ (by exact Int.le_of_lt (Int.pow_pos (by decide)))]
  have:n = 0∨n = 1∨n = 2∨n = 3∨n = 4∨n = 5∨n = 6∨n = 7:=by omega
  rcases this with rfl|rfl|rfl|rfl|rfl|rfl|rfl|rfl <;> simp[IntKind.wrap,IntKind.bits,IntKind.signed]
 rw[e]
 exact il (PU v 8 n hn)
theorem uT(l:List Int):(⟨(bZ (l.map b1T)).toArray⟩:ByteArray) = bl l:=by
 simp[bZ,bl,b1T,Function.comp_def]
theorem mI(v:Int)(h0:0≤v)(h1:v≤18446744073709551615):F vF [.val (u8v v)] (.s (bl (beL v 8))) O1:=by
 have hx:=rk v 8
 refine wg ?_
 conv=>whnf
 refine g 0 0 []<|J UA<|g 5 6 [.n (8)]<|J QZ<|Ws<|g 6 7 []<|J UC<|Wb<|Wl (fun s (n:Nat)=>⟨(SK s [0,2,3,7] [(8,.i n)]),[(5,[.own [false] (fill b1T (b1T 0) (beL v 8) n)])],[]⟩) (fun(n:Nat)=>n≤8) (fun(n:Nat)=>8 - n) (0) [some 5] [] FZ OM ?_
 intro n hn
 conv=>whnf
 refine g 0 0 []<|J UA<|Ws<|Wc<|JD (fun h2=>?_) fun h2=>?_
 simp only[LM]at h2
 simp only[ka]at h2
 refine Wk<|Ws<|Wb<|g 10 11 []<|J UB<|rg [.i (8 * (n:Int)),.i ((56:Int) - 8 * (n:Int)),.i (Int.fdiv v (2 ^ min (Int.toNat ((56:Int) - 8 * (n:Int))) (IntKind.bits IntKind.u64))),.i (IntKind.wrap IntKind.u8 (Int.fdiv v (2 ^ min (Int.toNat ((56:Int) - 8 * (n:Int))) (IntKind.bits IntKind.u64)))),.n (n),.x (b1T 0)]<|J ⟨I,I,I,I,wO,wO,⟨OM,rfl⟩,rfl,Zao,⟨UA,im OM⟩,I⟩<|rg [.i ((n:Int) +1)]<|J QZ ?_
 rotate_left
 simp only[LM]at h2
 simp only[ka]at h2
 refine We<|g 3 9 [.s ({data:=List.toArray (bZ (fill b1T (b1T 0) (beL v 8) n)):ByteArray})]<|J ⟨I,⟨I,Nk,rfl⟩,I,I⟩<|RT ?_
 rotate_left
 ·refine⟨n+1,[some 5],[],⟨rfl,FZ,⟨⟨rfl,⟨(congrArg (V.own _) (S0 h0 OM)),I⟩⟩,I⟩,I⟩,?_,?_⟩
  rotate_left
  (dsimp only;omega)
  dsimp only
  omega
 ·rw[ir _ _ _ OM]
  exact vs (uT _)
theorem S3{v:Int}{n:Nat}(h0:0≤v):[b1T (IntKind.u8.wrap ((v / 256 ^ n).tmod 256))] ++ (beL v n).map b1T = (beL v (n+1)).map b1T:=by
 have h1:0≤v / 256 ^ n:=Int.ediv_nonneg h0 (Int.le_of_lt (Int.pow_pos (by decide)))
 rw[Int.tmod_eq_emod_of_nonneg h1]
 have h2:IntKind.u8.wrap (v / 256 ^ n % 256) = v / 256 ^ n % 256:=wu8 OM OM
 rw[h2];rfl
theorem XD{v:Int}{n:Nat}(h0:0≤v)(h2:v≤18446744073709551615):IntKind.u64.wrap ((v / 256 ^ n).tdiv 256) = v / 256 ^ (n+1):=by
 have h1:0≤v / 256 ^ n:=Int.ediv_nonneg h0 (Int.le_of_lt (Int.pow_pos (by decide)))
 have h3:v / 256 ^ n≤v:=Int.ediv_le_self _ h0
 rw[Int.tdiv_eq_ediv_of_nonneg h1,wu64 OM OM,Int.ediv_ediv_of_nonneg (Int.le_of_lt (Int.pow_pos (by decide))),Int.pow_succ]
def h0v:Int:=14695981039346656037
theorem nG(tx:ByteArray)(ht:tx.size≤9223372036854775807):F GY [.val (.s tx)] (.s (bl (beL (n5 h0v tx tx.size) 8))) O1:=by
 refine Hl ?_
 conv=>whnf
 refine g 0 0 []<|J UA<|g 0 0 []<|J UA<|Ws<|g 0 0 []<|J UA<|Wb<|Wl (fun s (n:Nat)=>⟨[(0,s.s 0),(2,s.s 2),(3,u8v (n5 h0v tx n)),(4,.i n)],[],[]⟩) (fun(n:Nat)=>n≤tx.size) (fun(n:Nat)=>tx.size - n) (0) [] [] FZ OM ?_
 intro n hn
 conv=>whnf
 refine Ws<|g 7 9 []<|J UD<|Wc<|JD (fun h1=>?_) fun h1=>?_
 refine Wk<|Ws<|Wb ?_
 obtain⟨y1,hy1,hb1⟩:=bF (s:=tx) (n:=n) OM
 refine rg [.i ((↑(UInt8.toNat y1):Int)),.i ((↑(UInt8.toNat y1):Int)),.i (IntKind.wrap IntKind.u64 (↑(BitVec.toNat (BitVec.ofInt (IntKind.bits IntKind.u64) (n5 h0v tx n) ^^^ BitVec.ofInt (IntKind.bits IntKind.u64) (↑(UInt8.toNat y1):Int))):Int)),.i (IntKind.wrap IntKind.u64 (IntKind.wrap IntKind.u64 (↑(BitVec.toNat (BitVec.ofInt (IntKind.bits IntKind.u64) (n5 h0v tx n) ^^^ BitVec.ofInt (IntKind.bits IntKind.u64) (↑(UInt8.toNat y1):Int))):Int) * 1099511628211))]<|J QZ<|rg [.i ((n:Int) +1)]<|J QZ ?_
 rotate_left
 refine We<|g 10 21 []<|J UB<|Ws<|g 4 5 []<|J UA<|Wb ?_
 rotate_left
 ·refine⟨n+1,[],[],⟨rfl,⟨rfl,rfl,(congrArg (fun z=>V.t (T.v (Value.int _ z))) (Gm AS).symm),rfl,I⟩,I,I⟩,?_,?_⟩
  rotate_left
  (dsimp only;omega)
  dsimp only
  omega
 have e:n = tx.size:=by omega
 subst e
 have hb:0≤n5 h0v tx tx.size∧n5 h0v tx tx.size≤18446744073709551615:=Cd _ _ (by unfold h0v;omega)
 generalize n5 h0v tx tx.size = v at hb ⊢
 obtain⟨hb0,hb1⟩:=hb
 refine Wl (fun s (n:Nat)=>⟨[(0,s.s 0),(2,s.s 2),(3,u8v (v / 256 ^ n)),(5,.ref ⟨5,none,0⟩),(6,.i n),(9,s.s 9)],[(5,[.own [false] ((beL v n).map b1T)])],[]⟩) (fun(n:Nat)=>n≤8) (fun(n:Nat)=>8 - n) (0) [some 20] [] ⟨rfl,⟨rfl,rfl,(congrArg (fun z=>V.t (T.v (Value.int _ z))) OM),rfl,rfl,rfl,I⟩,FZ,I⟩ OM ?_
 intro n hn2
 have hx:=rk v n
 conv=>whnf
 refine Ws<|g 21 22 []<|J UB<|Wc<|JD (fun h2=>?_) fun h2=>?_
 refine Wk<|Ws<|Wb<|g 22 31 [.i (Int.tmod (v / 256 ^ n) 256),.i (IntKind.wrap IntKind.u8 (Int.tmod (v / 256 ^ n) 256))]<|J QZ<|rg [.i (IntKind.wrap IntKind.u64 (Int.tdiv (v / 256 ^ n) 256))]<|J QZ<|rg [.i ((n:Int) +1)]<|J QZ ?_
 rotate_left
 refine We<|g 3 7 [.s ({data:=List.toArray (bZ (List.map b1T (beL v n))):ByteArray})]<|J ⟨I,⟨I,Q2,rfl⟩,I,I⟩<|RT ?_
 rotate_left
 ·refine⟨n+1,[some 30],[],⟨rfl,⟨rfl,rfl,(congrArg (fun z=>V.t (T.v (Value.int _ z))) (XD hb0 hb1)),rfl,rfl,rfl,I⟩,⟨⟨rfl,⟨(congrArg (V.own _) (S3 hb0)),I⟩⟩,I⟩,I⟩,?_,?_⟩
  rotate_left
  (dsimp only;omega)
  dsimp only
  omega
 ·rw[show n = 8 from by omega]
  exact vs (uT _)
def qV(nm:ByteArray)(xs:List ByteArray)(n:Nat):ByteArray:=(xs.take n).foldl (fun a s=>a++ (⟨#[0]⟩ ++s)) nm
theorem Gy{nm:ByteArray}{xs:List ByteArray}{n:Nat}{x:ByteArray}(h:xs[n]? = some x):qV nm xs (n+1) = qV nm xs n++ (⟨#[0]⟩ ++x):=by
 unfold qV;rw[List.take_add_one,h,List.foldl_append];rfl
theorem Gl:∀ (l:List ByteArray) (nm:ByteArray),((l.foldl (fun a s=>a++ (⟨#[0]⟩ ++s)) nm).size:Int) = nm.size+bV l+l.length
 |[],nm=>by simp[bV]
 |s :: l,nm=>by
  rw[List.foldl_cons,Gl l]
  have:(⟨#[0]⟩:ByteArray).size = 1:=rfl
  simp only[ByteArray.size_append,bV,List.length_cons,this];omega
theorem QS(nm:ByteArray)(xs:List ByteArray)(n:Nat)(h:n≤xs.length):((qV nm xs n).size:Int) = nm.size+bV (xs.take n) +n:=by
 unfold qV;rw[Gl,List.length_take,Nat.min_eq_left h]
theorem TW{nm:ByteArray}{xs:List ByteArray}{n:Nat}{x:ByteArray}(h:xs[n]? = some x):cN (qV nm xs n) ++ [[.v (.int .u8 0)]] ++cN x = cN (qV nm xs (n+1)):=by
 rw[Gy h,oc,oc,List.append_assoc];rfl
def gQ(v:Int)(s:ByteArray):Int:=s.data.toList.foldl fnv v
theorem ik(v:Int)(s:ByteArray):n5 v s s.size = gQ v s:=by
 unfold n5 gQ;rw[List.take_of_length_le (by simp)]
theorem uL(v:Int)(a b:ByteArray):gQ v (a++b) = gQ (gQ v a) b:=by
 simp[gQ,ByteArray.data_append,List.foldl_append]
theorem OT(s:ByteArray):0≤gQ h0v s∧gQ h0v s≤18446744073709551615:=Cd _ _ (by unfold h0v;omega)
def bG(nm:ByteArray)(xs:List ByteArray):ByteArray:=bl (beL (gQ h0v (qV nm xs xs.length)) 8)
theorem jW(nm:ByteArray)(xs:List ByteArray)(hn:nm.size≤1048576)(hl:xs.length≤1048576)(ht:bV xs≤1048576)(hs:∀ s∈xs,s.size≤1048576):F tP [.val (.s nm),.val (.t (pp xs))] (.s (bG nm xs)) O2:=by
 refine Hm ?_
 conv=>whnf
 refine g 0 0 []<|J UA<|g 7 9 []<|J QZ<|Ws<|g 0 0 []<|J UA<|Wb<|Wl (fun s (n:Nat)=>⟨(SK s [0,1,4] [(5,.ref ⟨5,none,0⟩),(6,.i n)]),[(5,[.own [false] (cN (qV nm xs n))])],[]⟩) (fun(n:Nat)=>n≤xs.length) (fun(n:Nat)=>xs.length - n) (0) [some 8] [] FZ OM ?_
 intro n hn
 have hc:=QS nm xs n OM
 have hb:=gR (qV nm xs n)
 have hle:=N5 xs n
 conv=>whnf
 refine Ws<|g 10 12 []<|J UD<|Wc<|JD (fun h1=>?_) fun h1=>?_
 simp only[LM]at h1
 refine Wk<|Ws<|Wb ?_
 obtain⟨y1,hy1⟩:=ae (xs:=xs) (n:=n) OM
 have hm1:=hs y1 (List.mem_of_getElem? hy1)
 refine rgd [[],[],[],[],[],[.x (ah y1)],[],[],[]] ?_
 conv=>whnf
 refine J QZ<|J KR<|rg [.i ((n:Int) +1)]<|J QZ ?_
 rotate_left
 simp only[LM]at h1
 refine We<|g 12 26 [.s (qV nm xs n),.call (V.s (bl (beL (n5 h0v (qV nm xs n) (ByteArray.size (qV nm xs n))) 8))) O1]<|J ⟨I,⟨I,j4 _,(ku _).symm⟩,⟨UA,I,US,UA,nG _ OM⟩,I,I⟩<|RT ?_
 rotate_left
 ·refine⟨n+1,[some 22],[],⟨rfl,FZ,⟨⟨rfl,⟨(congrArg (V.own _) (TW AS)),I⟩⟩,I⟩,I⟩,?_,?_⟩
  rotate_left
  (dsimp only;omega)
  dsimp only
  omega
 ·exact vs (by rw[ik,show n = xs.length from by omega];rfl)
theorem SW{nm:ByteArray}{xs:List ByteArray}{n:Nat}{x:ByteArray}(h:xs[n]? = some x):n5 (n5 (gQ h0v (qV nm xs n)) ⟨#[0]⟩ (⟨#[0]⟩:ByteArray).size) x x.size = gQ h0v (qV nm xs (n+1)):=by
 rw[ik,ik,Gy h,uL,uL]
theorem nJ(nm:ByteArray)(xs:List ByteArray)(hn:nm.size≤1048576)(hl:xs.length≤1048576)(hs:∀ s∈xs,s.size≤1048576):F Hf [.val (.s nm),.val (.t (pp xs))] (.s (bG nm xs)) O2:=by
 refine Hy ?_
 conv=>whnf
 refine g 0 0 []<|J UA<|g 0 0 []<|J UV<|g 0 1 [.call (V.tup []) ([[u8v (n5 14695981039346656037 nm (ByteArray.size nm))],[]])]<|J (QA @dE)<|Ws<|g 1 2 []<|J UC<|Wb<|Wl (fun s (n:Nat)=>⟨(SK s [4,5,10,11] [(12,.i n)]),[(5,[u8v (gQ h0v (qV nm xs n))])],[]⟩) (fun(n:Nat)=>n≤xs.length) (fun(n:Nat)=>xs.length - n) (0) [some 5] [] ⟨rfl,FZ,⟨⟨rfl,⟨(congrArg (fun z=>V.t (T.v (Value.int _ z))) (ik _ _)),I⟩⟩,I⟩,I⟩ OM ?_
 intro n hn
 have hb:=OT (qV nm xs n)
 conv=>whnf
 refine g 0 0 []<|J UA<|Ws<|Wc<|JD (fun h1=>?_) fun h1=>?_
 simp only[LM]at h1
 refine Wk<|Ws<|Wb ?_
 obtain⟨y1,hy1⟩:=ae (xs:=xs) (n:=n) OM
 have hm1:=hs y1 (List.mem_of_getElem? hy1)
 refine g 13 16 [.x (ah y1)]<|J QZ<|g 16 17 [.call (V.tup []) ([[u8v (n5 (gQ h0v (qV nm xs n)) {data:=#[(0:UInt8)]:ByteArray} (ByteArray.size {data:=#[(0:UInt8)]:ByteArray}))],[]])]<|J ⟨⟨UB,I,UV,UA,dE _ _ (by decide)⟩,I⟩<|rg [.call (V.tup []) ([[u8v (n5 (n5 (gQ h0v (qV nm xs n)) {data:=#[(0:UInt8)]:ByteArray} (ByteArray.size {data:=#[(0:UInt8)]:ByteArray})) y1 (ByteArray.size y1))],[]])]<|J (QA @dE)<|rg [.i ((n:Int) +1)]<|J QZ ?_
 rotate_left
 simp only[LM]at h1
 refine We<|g 5 22 [.call (V.s (bl (beL (gQ h0v (qV nm xs n)) 8))) O1]<|J (QA @mI)<|RT ?_
 rotate_left
 ·refine⟨n+1,[some 5],[],⟨rfl,FZ,⟨⟨rfl,⟨(congrArg (fun z=>V.t (T.v (Value.int _ z))) (SW AS)),I⟩⟩,I⟩,I⟩,?_,?_⟩
  rotate_left
  (dsimp only;omega)
  dsimp only
  omega
 ·exact vs (by rw[show n = xs.length from by omega];rfl)
end Go.K
end
section
open Go Go.Tm Go.Proofs
namespace Go.K
theorem nx{α β:Type}{f:α→β}{p:α→Prop}:∀ {xs:List β},(∀ y∈xs,∃ s,y = f s∧p s)→∃ ys:List α,xs = ys.map f∧∀ s∈ys,p s
 |[],_=>⟨[],rfl,fun _ h=>by cases h⟩
 |y :: xs,h=>by
  obtain⟨s,rfl,hp⟩:=h y (.head _)
  obtain⟨ys,rfl,hq⟩:=nx fun z hz=>h z (.tail _ hz)
  exact⟨s :: ys,rfl,fun z hz=>by rcases List.mem_cons.1 hz with rfl|hz;exact hp;exact hq z hz⟩
end Go.K
end
section
open Go Go.Tm Go.Proofs
namespace Go.K
structure Parcel where
 kind:Int
 frm:ByteArray
 text:ByteArray
 deriving DecidableEq
abbrev MI(k:Int)(a b:ByteArray):V:=.agg [.t (.i k),.t (.s a),.t (.s b)]
abbrev aY(p:Parcel):List T:=[.i p.kind,.s p.frm,.s p.text]
abbrev pkd:List Bool:=[false,false,false]
abbrev xQ(xs:List Parcel):T:=.slc pkd (xs.map aY)
abbrev noP:Parcel:=⟨0,emp,emp⟩
theorem gZ(l:List Int):(bl l).size = l.length:=by simp[bl,bsa]
theorem bS(xs:List Parcel)(k:Int)(hl:xs.length≤9223372036854775806):F Ak [.val (.t (xQ xs)),.val (.i k)] (.b (decide (xs.length≤2000∧0≤k∧k < xs.length))) O2:=by
 refine AD ?_
 conv=>whnf
 refine g 0 0 []<|J UA ?_
 by_cases h1:(↑(List.length (List.map aY xs)):Int)≤(2000:Int)
 simp only[LM]at h1
 by_cases h2:(0:Int)≤k
 refine g 5 18 (RL 8 BT [])<|J QZ<|RT ?_
 rotate_left
 refine g 5 18 [BT,BT,BT,BF,BF,BF,BF,BF]<|J QZ<|RT ?_
 exact vbf OM
 simp only[LM]at h1
 refine g 5 18 (RL 8 BF [])<|J QZ<|RT ?_
 exact vbf OM
 exact vbd (by simp only[List.length_map];omega)
theorem dU(xs:List Parcel)(hl:xs.length≤1048576):F Dp [.val (.t (xQ xs))] (.own pkd (xs.map aY)) O1:=by
 refine D3 ?_
 conv=>whnf
 refine g 0 0 []<|J UA<|g 3 6 []<|J QZ<|RT ?_
 rfl
theorem dW(xs:List Parcel)(hl:xs.length≤1048576):F DV [.val (.t (xQ xs))] (.own pkd (xs.map aY)) O1:=by
 refine EA ?_
 conv=>whnf
 refine g 0 0 []<|J UA<|g 3 6 []<|J QZ<|RT ?_
 rfl
def cJ(xs:List Parcel)(k:Int):List Parcel:=if xs.length≤2000∧0≤k∧k < xs.length then xs.take k.toNat++xs.drop (k.toNat+1)else xs
theorem Oy{xs:List Parcel}{k:Int}(h:¬(xs.length≤2000∧0≤k∧k < xs.length)):cJ xs k = xs:=if_neg h
theorem K6{xs:List Parcel}{k:Int}(h:xs.length≤2000∧0≤k∧k < xs.length):List.drop 0 (List.take k.toNat (xs.map aY)) ++List.drop (k+1).toNat (List.take (xs.map aY).length (xs.map aY)) = (cJ xs k).map aY:=by
 unfold cJ
 rw[if_pos h,List.drop_zero,List.take_length,show(k+1).toNat = k.toNat+1 from by omega,List.map_append,List.map_take,List.map_drop]
theorem yh(xs:List Parcel)(k:Int)(hl:xs.length≤1048576):F Ju [.val (.t (xQ xs)),.val (.i k)] (.own pkd ((cJ xs k).map aY)) O2:=by
 refine JM ?_
 conv=>whnf
 refine g 0 0 []<|J UA<|Ws<|g 5 8 [.call (V.b (decide (xs.length≤2000∧0≤k∧k < (↑xs.length:Int)))) O2]<|J (QA @bS)<|Wc<|JN (fun h1=>?_) fun h1=>?_
 refine g 8 11 [.call (V.own pkd (List.map aY xs)) O1]<|J (QA @dU)<|RT ?_
 rotate_left
 refine Wk<|gd 8 21 [[],[],[],[.n (Int.toNat k)],[],[],[],[.i (k+1)],[.n (Int.toNat (k+1))],[],[]] ?_
 conv=>whnf
 refine J QZ<|J KR<|RT ?_
 rotate_left
 ·rw[Oy h1]
 ·exact congrArg (V.own pkd) (K6 h1)
end Go.K
end
section
open Go Go.Tm Go.Proofs
namespace Go.K
abbrev eA(n:Int):List T:=[.i n]
structure Task where
 name:ByteArray
 cost:Int
 deps:List Int
 deriving DecidableEq
abbrev ay(x:Task):List T:=[.s x.name,.i x.cost,.slc [false] (x.deps.map eA)]
abbrev cI:List Bool:=[false,false,true]
def zR(x:Task):Prop:=x.name.size≤9223372036854775807∧x.deps.length≤9223372036854775807
structure Worker where
 number:Int
 epoch:Int
 up:Bool
 state:Int
 lease:Int
 task:Int
 cost:Int
 left:Int
 inputs:List ByteArray
 text:ByteArray
 since:Int
 deriving DecidableEq
abbrev ag(x:Worker):List T:=[.i x.number,.i x.epoch,.b x.up,.i x.state,.i x.lease,.i x.task,.i x.cost,.i x.left,.slc [false] (x.inputs.map ah),.s x.text,.i x.since]
abbrev dP(x:Worker):V:=.agg [.t (.i x.number),.t (.i x.epoch),.t (.b x.up),.t (.i x.state),.t (.i x.lease),.t (.i x.task),.t (.i x.cost),.t (.i x.left),.t (.slc [false] (x.inputs.map ah)),.t (.s x.text),.t (.i x.since)]
abbrev aA(x:Worker):V:=.agg [.t (.i x.number),.t (.i x.epoch),.t (.b x.up),.t (.i x.state),.t (.i x.lease),.t (.i x.task),.t (.i x.cost),.t (.i x.left),.own [false] (x.inputs.map ah),.t (.s x.text),.t (.i x.since)]
abbrev bB:List Bool:=[false,false,false,false,false,false,false,false,true,false,false]
abbrev fI:Worker:=⟨0,0,false,0,0,0,0,0,[],emp,0⟩
structure Plan where
 tasks:List Task
 deriving DecidableEq
abbrev cX(x:Plan):V:=.agg [.t (.slc cI (x.tasks.map ay))]
abbrev eH(x:Plan):V:=.agg [.own cI (x.tasks.map ay)]
def dD(x:Plan):Prop:=x.tasks.length≤9223372036854775807∧(∀ y∈x.tasks,zR y)
end Go.K
end
section
open Go Go.Tm Go.Proofs
namespace Go.K
def fm(xs:List ByteArray):Prop:=(∀ s∈xs,s.size = 8)∧xs.length≤8
instance (xs:List ByteArray):Decidable (fm xs):=by unfold fm;infer_instance
theorem Gu{xs:List ByteArray}{n:Nat}{y:ByteArray}(hy:xs[n]? = some y)(h:¬(y.size:Int) = 8):¬fm xs:=fun e=>h (by have:=e.1 y (List.mem_of_getElem? hy);omega)
theorem uU{α:Type}{p:α→Prop}{xs:List α}{n:Nat}{y:α}(h:∀ s∈xs.take n,p s)(hy:xs[n]? = some y)(hp:p y):∀ s∈xs.take (n+1),p s:=fun s hs=>by
 rw[List.take_add_one,hy]at hs
 rcases List.mem_append.1 hs with hs|hs
 ·exact h s hs
 ·simp at hs;subst hs;exact hp
theorem uV{α:Type}{p:α→Prop}{xs:List α}{n:Nat}(h:∀ s∈xs.take n,p s)(hn:xs.length≤n):∀ s∈xs,p s:=by rwa [aI hn]at h
theorem je(xs:List ByteArray)(hl:xs.length≤9223372036854775806):F DU [.val (.t (pp xs))] (.b (decide (fm xs))) O1:=by
 refine Ez ?_
 conv=>whnf
 refine g 0 0 []<|J UA<|Ws<|g 0 0 []<|J UC<|Wb<|Wl (fun s (n:Nat)=>⟨(SK s [0,5,6] [(7,.i n)]),[],[]⟩) (fun(n:Nat)=>n≤xs.length∧∀ s∈xs.take n,s.size = 8) (fun(n:Nat)=>xs.length - n) (0) [] [] FZ (by simp) ?_
 rintro n ⟨hn,hc⟩
 conv=>whnf
 refine g 0 0 []<|J UA<|Ws<|Wc<|JD (fun h1=>?_) fun h1=>?_
 simp only[LM]at h1
 refine Wk<|Ws<|Wb ?_
 obtain⟨y1,hy1⟩:=ae (xs:=xs) (n:=n) OM
 refine g 8 11 [.x (ah y1)]<|J QZ<|g 11 13 []<|J UC<|Wc<|JN (fun h2=>?_) fun h2=>?_
 refine g 13 14 []<|J UA<|RT ?_
 rotate_left
 refine Wk<|rg [.i ((n:Int) +1)]<|J QZ ?_
 rotate_left
 simp only[LM]at h1
 refine We<|g 5 18 []<|J UD<|RT ?_
 rotate_left
 ·exact vbf (Gu hy1 AS)
 ·refine⟨n+1,[],[],⟨rfl,⟨rfl,rfl,rfl,rfl,I⟩,I,I⟩,?_,?_⟩
  rotate_left
  (dsimp only;omega)
  dsimp only
  exact⟨by omega,uU hc hy1 OM⟩
 ·exact vbd ⟨fun e=>⟨uV hc OM,by simp only[LM]at e;omega⟩,fun e=>by have:=e.2;simp only[List.length_map];omega⟩
theorem fB(xs:List ByteArray)(hl:xs.length≤9223372036854775806):F tb [.val (.t (pp xs))] (.b (decide (fm xs))) O1:=by
 refine tt ?_
 conv=>whnf
 refine g 0 0 []<|J UA<|Ws<|g 0 0 []<|J UA<|Wb<|Wl (fun s (n:Nat)=>⟨[(0,s.s 0),(3,.i n)],[],[]⟩) (fun(n:Nat)=>n≤xs.length∧∀ s∈xs.take n,s.size = 8) (fun(n:Nat)=>xs.length - n) (0) [] [] FZ (by simp) ?_
 rintro n ⟨hn,hc⟩
 conv=>whnf
 refine Ws<|g 5 7 []<|J UD<|Wc<|JD (fun h1=>?_) fun h1=>?_
 simp only[LM]at h1
 refine Wk<|Ws<|Wb ?_
 obtain⟨y1,hy1⟩:=ae (xs:=xs) (n:=n) OM
 refine g 7 15 [.x (ah y1)]<|J QZ<|Wc<|JN (fun h2=>?_) fun h2=>?_
 refine g 15 16 []<|J UA<|RT ?_
 rotate_left
 refine Wk<|rg [.i ((n:Int) +1)]<|J QZ ?_
 rotate_left
 simp only[LM]at h1
 refine We<|g 7 19 []<|J UD<|RT ?_
 rotate_left
 ·exact vbf (Gu hy1 AS)
 ·refine⟨n+1,[],[],⟨rfl,⟨rfl,rfl,I⟩,I,I⟩,?_,?_⟩
  rotate_left
  (dsimp only;omega)
  dsimp only
  exact⟨by omega,uU hc hy1 OM⟩
 ·exact vbd ⟨fun e=>⟨uV hc OM,by simp only[LM]at e;omega⟩,fun e=>by have:=e.2;simp only[List.length_map];omega⟩
theorem aC(n:Int):F ve [.val (.i n)] (.b (decide (1≤n∧n≤300000000))) O1:=by
 refine vQ ?_
 conv=>whnf
 refine g 0 0 []<|J UA<|g 0 1 [.call (V.b (decide (1≤n∧n≤300000000))) O3]<|J (QA @aw)<|RT ?_
 rfl
end Go.K
end
section
open Go Go.Tm Go.Proofs Classical
namespace Go.K
def nv(s:ByteArray):Prop:=(∀ (n:Nat) (c:UInt8),s[n]? = some c→33≤c.toNat∧c.toNat≤126)∧1≤s.size∧s.size≤30
theorem uA{s:ByteArray}{n:Nat}{c:UInt8}(h:s[n]? = some c)(hc:¬(33≤(c.toNat:Int)∧(c.toNat:Int)≤126)):¬nv s:=fun e=>hc (by have:=e.1 n c h;omega)
theorem BO{s:ByteArray}{n:Nat}{c:UInt8}(hn:∀ (m:Nat) (c:UInt8),m < n→s[m]? = some c→33≤c.toNat∧c.toNat≤126)(h:s[n]? = some c)(hc:33≤(c.toNat:Int)∧(c.toNat:Int)≤126):∀ (m:Nat) (c:UInt8),m < n+1→s[m]? = some c→33≤c.toNat∧c.toNat≤126:=fun m d hm hd=>by
 by_cases e:m = n
 ·subst e;rw[h]at hd;cases hd;omega
 ·exact hn m d OM hd
theorem Ij{s:ByteArray}{n:Nat}{c:UInt8}(h:s[n]? = some c):n < s.size:=by
 by_cases hn:n < s.size
 ·exact hn
 ·rw[getElem?_neg s n hn]at h;cases h
theorem uc(s:ByteArray)(hs:s.size≤9223372036854775807):F Hc [.val (.s s)] (.b (decide (nv s))) O1:=by
 refine Hw ?_
 conv=>whnf
 refine g 0 0 []<|J UA<|Ws<|g 0 0 []<|J UA<|Wb<|Wl (fun s (n:Nat)=>⟨[(0,s.s 0),(3,.i n)],[],[]⟩) (fun(n:Nat)=>n≤s.size∧∀ (m:Nat) (c:UInt8),m < n→s[m]? = some c→33≤c.toNat∧c.toNat≤126) (fun(n:Nat)=>s.size - n) (0) [] [] FZ (by simp) ?_
 rintro n ⟨hn,hc⟩
 conv=>whnf
 refine Ws<|g 5 7 []<|J UD<|Wc<|JD (fun h1=>?_) fun h1=>?_
 refine Wk<|Ws<|Wb ?_
 obtain⟨y1,hy1,hb1⟩:=bF (s:=s) (n:=n) OM
 by_cases h2:(↑(UInt8.toNat y1):Int) < (33:Int)
 refine g 7 19 [.i ((↑(UInt8.toNat y1):Int)),BT,BT,BT,BT,BT]<|J QZ<|Wc<|Kr (g 19 20 []<|J UA (RT ?_))
 rotate_left
 refine g 7 19 [.i ((↑(UInt8.toNat y1):Int)),BF,BF,BF,.i ((↑(UInt8.toNat y1):Int)),BF,BF]<|J QZ<|Wc<|JD (fun h3=>?_) fun h3=>?_
 refine g 19 20 []<|J UA<|RT ?_
 rotate_left
 refine Wk<|rg [.i ((n:Int) +1)]<|J QZ ?_
 rotate_left
 refine We ?_
 by_cases h2:(1:Int)≤(↑(ByteArray.size s):Int)
 refine g 7 28 [BT,BT,BT,BT]<|J QZ<|RT ?_
 rotate_left
 refine g 7 28 [BF,BF,BF,BF]<|J QZ<|RT ?_
 rotate_left
 ·exact vbf (uA hy1 OM)
 ·exact vbf (uA hy1 OM)
 ·refine⟨n+1,[],[],⟨rfl,⟨rfl,rfl,I⟩,I,I⟩,?_,?_⟩
  rotate_left
  (dsimp only;omega)
  dsimp only
  exact⟨by omega,BO hc hy1 OM⟩
 ·exact vbd ⟨fun e=>⟨fun m c h=>hc m c (by have:=Ij h;omega) h,by omega,by omega⟩,fun e=>by have:=e.2;omega⟩
 ·exact vbf (fun e=>by have:=e.2;omega)
theorem zw(s:ByteArray)(hs:s.size≤9223372036854775807):F yw [.val (.s s)] (.b (decide (nv s))) O1:=by
 refine yZ ?_
 conv=>whnf
 refine g 0 0 []<|J UA<|Ws<|g 0 0 []<|J UA<|Wb<|Wl (fun s (n:Nat)=>⟨[(0,s.s 0),(3,.i n)],[],[]⟩) (fun(n:Nat)=>n≤s.size∧∀ (m:Nat) (c:UInt8),m < n→s[m]? = some c→33≤c.toNat∧c.toNat≤126) (fun(n:Nat)=>s.size - n) (0) [] [] FZ (by simp) ?_
 rintro n ⟨hn,hc⟩
 conv=>whnf
 refine Ws<|g 5 7 []<|J UD<|Wc<|JD (fun h1=>?_) fun h1=>?_
 refine Wk<|Ws<|Wb ?_
 obtain⟨y1,hy1,hb1⟩:=bF (s:=s) (n:=n) OM
 by_cases h2:(↑(UInt8.toNat y1):Int) < (33:Int)
 refine g 7 19 [.i ((↑(UInt8.toNat y1):Int)),BT,BT,BT,BT,BT]<|J QZ<|Wc<|Kr (g 19 20 []<|J UA (RT ?_))
 rotate_left
 refine g 7 19 [.i ((↑(UInt8.toNat y1):Int)),BF,BF,BF,.i ((↑(UInt8.toNat y1):Int)),BF,BF]<|J QZ<|Wc<|JD (fun h3=>?_) fun h3=>?_
 refine g 19 20 []<|J UA<|RT ?_
 rotate_left
 refine Wk<|rg [.i ((n:Int) +1)]<|J QZ ?_
 rotate_left
 refine We ?_
 by_cases h2:(1:Int)≤(↑(ByteArray.size s):Int)
 refine g 7 28 [BT,BT,BT,BT]<|J QZ<|RT ?_
 rotate_left
 refine g 7 28 [BF,BF,BF,BF]<|J QZ<|RT ?_
 rotate_left
 ·exact vbf (uA hy1 OM)
 ·exact vbf (uA hy1 OM)
 ·refine⟨n+1,[],[],⟨rfl,⟨rfl,rfl,I⟩,I,I⟩,?_,?_⟩
  rotate_left
  (dsimp only;omega)
  dsimp only
  exact⟨by omega,BO hc hy1 OM⟩
 ·exact vbd ⟨fun e=>⟨fun m c h=>hc m c (by have:=Ij h;omega) h,by omega,by omega⟩,fun e=>by have:=e.2;omega⟩
 ·exact vbf (fun e=>by have:=e.2;omega)
end Go.K
end
section
open Go Go.Tm Go.Proofs Classical
namespace Go.K
def H7(xs:List Task)(n:Nat):Prop:=∀ (m:Nat) (t:Task),m < n→xs[m]? = some t→nv t.name∧t.name ∉ (xs.take m).map Task.name
def iy(xs:List Task):Prop:=H7 xs xs.length
def jI(xs:List Task):Prop:=∀ t∈xs,1≤t.cost∧t.cost≤20
def Lc(last hi:Int):List Int→Prop
 |[]=>True
 |d :: ds=>(last < d∧d < hi)∧Lc d hi ds
def Zo(hi:Int)(d:List Int):Prop:=d.length≤8∧Lc (-1) hi d
def NT(xs:List Task)(n:Nat):Prop:=∀ (m:Nat) (t:Task),m < n→xs[m]? = some t→Zo m t.deps
def uj(xs:List Task):Prop:=NT xs xs.length
noncomputable def am(xs:List Task):Int :=
 if ¬(1≤xs.length∧xs.length≤40)then 1 else if ¬iy xs then 2 else if ¬jI xs then 3 else if ¬uj xs then 4 else 0
theorem Yh{xs:List Task}(h:¬(1≤xs.length∧xs.length≤40)):am xs = 1:=by unfold am;rw[if_pos h]
theorem Yg{xs:List Task}(h:1≤xs.length∧xs.length≤40)(h2:¬iy xs):am xs = 2:=by unfold am;rw[if_neg (not_not_intro h),if_pos h2]
theorem Yf{xs:List Task}(h:1≤xs.length∧xs.length≤40)(h2:iy xs)(h3:¬jI xs):am xs = 3:=by unfold am;rw[if_neg (not_not_intro h),if_neg (not_not_intro h2),if_pos h3]
theorem PQ{xs:List Task}(h:1≤xs.length∧xs.length≤40)(h2:iy xs)(h3:jI xs)(h4:¬uj xs):am xs = 4:=by unfold am;rw[if_neg (not_not_intro h),if_neg (not_not_intro h2),if_neg (not_not_intro h3),if_pos h4]
theorem abp{xs:List Task}(h:1≤xs.length∧xs.length≤40)(h2:iy xs)(h3:jI xs)(h4:uj xs):am xs = 0:=by unfold am;rw[if_neg (not_not_intro h),if_neg (not_not_intro h2),if_neg (not_not_intro h3),if_neg (not_not_intro h4)]
theorem uD{xs:List Task}{n:Nat}{t:Task}(ht:xs[n]? = some t)(h:¬(nv t.name∧t.name ∉ (xs.take n).map Task.name)):¬iy xs:=fun e=>h (e n t (List.getElem?_eq_some_iff.1 ht).1 ht)
theorem Br{P:Nat→Task→Prop}{xs:List Task}{n:Nat}{t:Task}(h:∀ (m:Nat) (t:Task),m < n→xs[m]? = some t→P m t)(ht:xs[n]? = some t)(hp:P n t):∀ (m:Nat) (t:Task),m < n+1→xs[m]? = some t→P m t:=fun m d hm hd=>by
 by_cases e:m = n
 ·subst e;rw[ht]at hd;cases hd;exact hp
 ·exact h m d OM hd
theorem It{P:Nat→Task→Prop}{xs:List Task}{n:Nat}(h:∀ (m:Nat) (t:Task),m < n→xs[m]? = some t→P m t)(hn:xs.length≤n):∀ (m:Nat) (t:Task),m < xs.length→xs[m]? = some t→P m t:=fun m t hm ht=>h m t OM ht
theorem uR{xs:List Task}{n:Nat}{t:Task}(ht:xs[n]? = some t)(h:¬(1≤t.cost∧t.cost≤20)):¬jI xs:=fun e=>h (e t (List.mem_of_getElem? ht))
theorem ot{xs:List Task}{n:Nat}{t:Task}(ht:xs[n]? = some t)(h:¬Zo n t.deps):¬uj xs:=fun e=>h (e n t (List.getElem?_eq_some_iff.1 ht).1 ht)
def oC(hi:Int)(d:List Int)(k:Nat)(last:Int):Prop:=Lc (-1) hi d↔Lc last hi (d.drop k)
theorem PL{α:Type}{d:List α}{k:Nat}{y:α}(h:d[k]? = some y):d.drop k = y :: d.drop (k+1):=by
 have hk:=(List.getElem?_eq_some_iff.1 h)
 rw[List.drop_eq_getElem_cons hk.1,hk.2]
theorem xh{hi:Int}{d:List Int}{k:Nat}{last y:Int}(h:oC hi d k last)(hy:d[k]? = some y)(h1:last < y∧y < hi):oC hi d (k+1) y:=by
 unfold oC at *;rw[h,PL hy,Lc];exact⟨fun e=>e.2,fun e=>⟨h1,e⟩⟩
theorem vP{hi:Int}{d:List Int}{k:Nat}{last y:Int}(h:oC hi d k last)(hy:d[k]? = some y)(h1:¬(last < y∧y < hi)):¬Lc (-1) hi d:=by
 unfold oC at *;rw[h,PL hy,Lc];exact fun e=>h1 e.1
theorem Lb{hi:Int}{d:List Int}{k:Nat}{last:Int}(h:oC hi d k last)(hk:d.length≤k):Lc (-1) hi d:=by
 unfold oC at *;rw[h,List.drop_eq_nil_of_le hk];trivial
theorem gc(p:Plan)(hp:dD p):F vI [.val (cX p)] (.i (am p.tasks)) O1:=by
 have hl:p.tasks.length≤9223372036854775807:=hp.1
 have hw:∀ y∈p.tasks,y.name.size≤9223372036854775807∧y.deps.length≤9223372036854775807:=hp.2
 refine wm ?_
 conv=>whnf
 refine g 0 1 []<|J QZ<|g 14 17 []<|J UD<|Ws ?_
 by_cases h1:(↑(List.length (List.map ay (Plan.tasks p))):Int) = (0:Int)
 simp only[LM]at h1
 refine g 17 22 [BT,BT,BT]<|J QZ<|Wc<|Kr (g 22 23 []<|J UA (RT ?_))
 rotate_left
 simp only[LM]at h1
 refine g 17 22 [BF,BF,BF]<|J QZ<|Wc<|JD (fun h2=>?_) fun h2=>?_
 simp only[LM]at h2
 refine g 22 23 []<|J UA<|RT ?_
 rotate_left
 simp only[LM]at h2
 refine Wk<|g 22 24 []<|J UB<|Ws<|g 24 25 []<|J UD<|Wb ?_
 rotate_left
 ·exact vi (Yh OM).symm
 ·exact vi (Yh OM).symm
 have hlen:1≤p.tasks.length∧p.tasks.length≤40:=by omega
 refine Wl (fun s (n:Nat)=>⟨(SK s [1,3,4,25,26] [(27,.i n)]),[(1,[s.c 1 0])],[(23,(p.tasks.take n).map fun t=>Value.string t.name)]⟩) (fun(n:Nat)=>n≤p.tasks.length∧H7 p.tasks n) (fun(n:Nat)=>p.tasks.length - n) (0) [some 1] [23] FZ ?_ ?_
 ·exact⟨Nat.zero_le _,fun m t hm=>by omega⟩
 rintro n ⟨hn,hc⟩
 conv=>whnf
 refine g 0 0 []<|J UA<|Ws<|Wc<|JD (fun h3=>?_) fun h3=>?_
 simp only[LM]at h3
 refine Wk<|Ws<|Wb ?_
 obtain⟨y1,hy1⟩:=ae (xs:=Plan.tasks p) (n:=n) OM
 have hm1:=hw y1 (List.mem_of_getElem? hy1)
 refine g 28 31 [.x (ay y1)]<|J QZ<|Ws ?_
 by_cases h4:nv (Task.name y1)
 refine g 31 40 [.call (V.b (decide (nv y1.name))) O1,BF,BF,BF,BF,.b (decide (y1.name∈List.map Task.name (List.take n p.tasks))),BF]<|J ⟨I,I,⟨UA,I,US,UA,uc _ OM⟩,I,I,⟨nO,I⟩,⟨nO,I⟩,⟨nO,I⟩,⟨nO,Tl,K7⟩,nO,I⟩<|Wc<|JD (fun h5=>?_) fun h5=>?_
 refine g 40 41 []<|J UA<|RT ?_
 rotate_left
 refine Wk<|rg []<|J ⟨I,I,I,K7,I⟩<|rg [.i ((n:Int) +1)]<|J QZ ?_
 rotate_left
 refine g 31 40 [.call (V.b (decide (nv y1.name))) O1,BT,BT,BT,BT,BT]<|J (QA @uc)<|Wc<|Kr (g 40 41 []<|J UA (RT ?_))
 rotate_left
 simp only[LM]at h3
 refine We<|Ws<|g 4 46 []<|J UD<|Wb ?_
 rotate_left
 ·exact vi (Yg hlen (uD hy1 (by grind))).symm
 ·refine⟨n+1,[some 1],[23],⟨rfl,FZ,FZ,⟨(congrArg some (P6 AS)),I⟩⟩,?_,?_⟩
  rotate_left
  (dsimp only;omega)
  dsimp only
  exact⟨by omega,Br hc hy1 (by grind)⟩
 ·exact vi (Yg hlen (uD hy1 (by grind))).symm
 have hnames:iy p.tasks:=It hc OM
 refine Wl (fun s (n:Nat)=>⟨(SK s [1,3,46,47] [(48,.i n)]),[(1,[s.c 1 0])],[]⟩) (fun(n:Nat)=>n≤p.tasks.length∧∀ t∈p.tasks.take n,1≤t.cost∧t.cost≤20) (fun(n:Nat)=>p.tasks.length - n) (0) [some 1] [] FZ (by simp) ?_
 rintro n2 ⟨hn2,hc2⟩
 conv=>whnf
 refine g 0 0 []<|J UA<|Ws<|Wc<|JD (fun h4=>?_) fun h4=>?_
 simp only[LM]at h4
 refine Wk<|Ws<|Wb ?_
 obtain⟨y1,hy1⟩:=ae (xs:=Plan.tasks p) (n:=n2) OM
 have hm1:=hw y1 (List.mem_of_getElem? hy1)
 refine g 49 52 [.x (ay y1)]<|J QZ ?_
 by_cases h5:Task.cost y1 < (1:Int)
 refine g 52 59 [BT,BT,BT,BT]<|J QZ<|Wc<|Kr (g 8 9 []<|J UA (RT ?_))
 rotate_left
 refine g 52 59 [BF,BF,BF,BF]<|J QZ<|Wc<|JD (fun h6=>?_) fun h6=>?_
 refine g 8 9 []<|J UA<|RT ?_
 rotate_left
 refine Wk<|rg [.i ((n2:Int) +1)]<|J QZ ?_
 rotate_left
 simp only[LM]at h4
 refine We<|Ws<|g 46 62 []<|J UD<|Wb ?_
 rotate_left
 ·exact vi (Yf hlen hnames (uR AS OM)).symm
 ·exact vi (Yf hlen hnames (uR AS OM)).symm
 ·refine⟨n2+1,[some 1],[],FZ,?_,?_⟩
  rotate_left
  (dsimp only;omega)
  dsimp only
  exact⟨by omega,uU hc2 AS OM⟩
 have hcosts:jI p.tasks:=uV hc2 OM
 refine Wl (fun s (n:Nat)=>⟨(SK s [3,62,63] [(64,.i n)]),[],[]⟩) (fun(n:Nat)=>n≤p.tasks.length∧NT p.tasks n) (fun(n:Nat)=>p.tasks.length - n) (0) [] [] FZ ?_ ?_
 ·exact⟨Nat.zero_le _,fun m t hm=>by omega⟩
 rintro n3 ⟨hn3,hc3⟩
 conv=>whnf
 refine g 0 0 []<|J UA<|Ws<|Wc<|JD (fun h5=>?_) fun h5=>?_
 simp only[LM]at h5
 refine Wk<|Ws<|Wb ?_
 obtain⟨y1,hy1⟩:=ae (xs:=Plan.tasks p) (n:=n3) OM
 have hm1:=hw y1 (List.mem_of_getElem? hy1)
 refine g 65 69 [.x (ay y1)]<|J QZ<|Ws<|g 69 72 []<|J UD<|Wc<|JD (fun h6=>?_) fun h6=>?_
 simp only[LM]at h6
 refine g 72 73 []<|J UA<|RT ?_
 rotate_left
 simp only[LM]at h6
 refine Wk<|g 72 73 []<|J UA<|g 10 11 []<|J UD<|Wb ?_
 rotate_left
 simp only[LM]at h5
 refine We<|g 62 66 []<|J UA<|RT ?_
 rotate_left
 ·exact vi (PQ hlen hnames hcosts (ot AS (fun e=>by have:=e.1;omega))).symm
 ·skip
  refine Wl (fun s (x:Nat×Int)=>match x with|(k,last)=>⟨((3,s.s 3)::(9,s.s 9)::(11,.i last)::(SK s [62,63,64,74,75] [(76,.i k)])),[],[]⟩) (fun(x:Nat×Int)=>match x with|(k,last)=>k≤y1.deps.length∧oC n3 y1.deps k last) (fun(x:Nat×Int)=>match x with|(k,last)=>y1.deps.length - k) ((0,-1)) [] [] FZ ?_ ?_
  ·exact⟨Nat.zero_le _,Iff.rfl⟩
  rintro⟨k,last⟩ ⟨hk,hi⟩
  conv=>whnf
  refine g 0 0 []<|J UA<|Ws<|Wc<|JD (fun h7=>?_) fun h7=>?_
  simp only[LM]at h7
  refine Wk<|Ws<|Wb ?_
  obtain⟨y2,hy2⟩:=ae (xs:=Task.deps y1) (n:=k) OM
  refine g 77 80 [.x (eA y2)]<|J QZ<|Ws ?_
  by_cases h8:y2≤last
  refine g 80 87 [BT,BT,BT,BT]<|J QZ<|Wc<|Kr (g 87 88 []<|J UA (RT ?_))
  rotate_left
  refine g 80 87 [BF,BF,BF,BF]<|J QZ<|Wc<|JD (fun h9=>?_) fun h9=>?_
  refine g 87 88 []<|J UA<|RT ?_
  rotate_left
  refine Wk<|rg []<|J UB<|rg [.i ((k:Int) +1)]<|J QZ ?_
  rotate_left
  simp only[LM]at h7
  refine We<|rg [.i ((n3:Int) +1)]<|J QZ ?_
  rotate_left
  ·exact vi (PQ hlen hnames hcosts (ot hy1 (fun e=>vP hi AS OM e.2))).symm
  ·exact vi (PQ hlen hnames hcosts (ot hy1 (fun e=>vP hi AS OM e.2))).symm
  ·refine⟨(k+1,y2),[],[],⟨rfl,⟨rfl,rfl,rfl,rfl,rfl,rfl,rfl,rfl,rfl,I⟩,I,I⟩,?_,?_⟩
   rotate_left
   (dsimp only;omega)
   dsimp only
   exact⟨by omega,xh hi AS OM⟩
  ·refine⟨n3+1,[],[],⟨rfl,⟨rfl,rfl,rfl,rfl,I⟩,I,I⟩,?_,?_⟩
   rotate_left
   (dsimp only;omega)
   dsimp only
   exact⟨by omega,Br hc3 hy1 ⟨by omega,Lb hi OM⟩⟩
 exact vi (abp hlen hnames hcosts (It hc3 OM)).symm
end Go.K
end
section
open Go Go.Tm Go.Proofs Classical
namespace Go.K
theorem Hh{xs:List Task}{n k:Nat}{a:Task}(h:xs[k]? = some a)(hk:k < n):a.name∈(xs.take n).map Task.name:=by
 refine List.mem_map.2 ⟨a,?_,rfl⟩
 refine List.mem_of_getElem? (i:=k) ?_
 rw[List.getElem?_take,if_pos hk];exact h
theorem Qj{xs:List Task}{n k:Nat}{s:ByteArray}{a:Task}(h:s ∉ (xs.take k).map Task.name)(ha:xs[k]? = some a)(hne:a.name≠s):s ∉ (xs.take (k+1)).map Task.name:=by
 rw[List.take_add_one,ha];simp only[List.map_append,List.mem_append,not_or]
 exact⟨h,by simpa using fun e=>hne e.symm⟩
theorem OA{d:List Int}{k:Nat}{l y:Int}(h:d[k - 1]? = some l)(hy:d[((k:Int) - 1).toNat]? = some y):y = l:=by
 have e:((k:Int) - 1).toNat = k - 1:=by omega
 rw[e,h]at hy;cases hy;rfl
theorem dr(p:Plan)(hp:dD p):F vh [.val (cX p)] (.i (am p.tasks)) O1:=by
 have hl:p.tasks.length≤9223372036854775807:=hp.1
 have hw:∀ y∈p.tasks,y.name.size≤9223372036854775807∧y.deps.length≤9223372036854775807:=hp.2
 refine vT ?_
 conv=>whnf
 refine g 0 1 []<|J QZ<|g 10 13 []<|J UD<|Ws ?_
 by_cases h1:(↑(List.length (List.map ay (Plan.tasks p))):Int) < (1:Int)
 simp only[LM]at h1
 refine g 14 16 [BT,BT,BT]<|J QZ<|Wc<|Kr (g 17 19 []<|J UA (RT ?_))
 rotate_left
 simp only[LM]at h1
 refine g 14 16 [BF,BF,BF]<|J QZ<|Wc<|JD (fun h2=>?_) fun h2=>?_
 simp only[LM]at h2
 refine g 17 19 []<|J UA<|RT ?_
 rotate_left
 simp only[LM]at h2
 refine Wk<|Ws<|g 17 19 []<|J UA<|Wb ?_
 rotate_left
 ·exact vi (Yh OM).symm
 ·exact vi (Yh OM).symm
 have hlen:1≤p.tasks.length∧p.tasks.length≤40:=by omega
 refine Wl (fun s (n:Nat)=>⟨[(1,s.s 1),(3,s.s 3),(4,.i n),(13,s.s 13),(16,s.s 16)],[(1,[s.c 1 0])],[]⟩) (fun(n:Nat)=>n≤p.tasks.length∧H7 p.tasks n) (fun(n:Nat)=>p.tasks.length - n) (0) [some 1] [] FZ ?_ ?_
 ·exact⟨Nat.zero_le _,fun m t hm=>by omega⟩
 rintro n ⟨hn,hc⟩
 conv=>whnf
 refine Ws<|g 19 21 []<|J UC<|Wc<|JD (fun h3=>?_) fun h3=>?_
 simp only[LM]at h3
 refine Wk<|Ws<|Wb<|Ws ?_
 obtain⟨y1,hy1⟩:=ae (xs:=Plan.tasks p) (n:=n) OM
 have hm1:=hw y1 (List.mem_of_getElem? hy1)
 refine g 21 31 [.x (ay y1),.call (V.b (decide (nv y1.name))) O1]<|J (QA @zw)<|Wc<|JN (fun h4=>?_) fun h4=>?_
 refine g 31 32 []<|J UA<|RT ?_
 rotate_left
 refine Wk<|g 31 32 []<|J UA<|Wb ?_
 rotate_left
 simp only[LM]at h3
 refine We<|Ws<|g 4 5 []<|J UA<|Wb ?_
 rotate_left
 ·exact vi (Yg hlen (uD hy1 (fun e=>absurd e.1 AS))).symm
 ·refine Wl (fun s (k:Nat)=>⟨(SK s [1,3,4] [(5,.i k),(13,s.s 13),(16,s.s 16)]),[(1,[s.c 1 0])],[]⟩) (fun(k:Nat)=>k≤n∧y1.name ∉ (p.tasks.take k).map Task.name) (fun(k:Nat)=>n - k) (0) [some 1] [] FZ (by simp) ?_
  rintro k ⟨hk,hm⟩
  conv=>whnf
  refine Ws<|g 32 34 []<|J UC<|Wc<|JD (fun h5=>?_) fun h5=>?_
  refine Wk<|Ws<|Wb ?_
  obtain⟨y2,hy2⟩:=ae (xs:=Plan.tasks p) (n:=k) OM
  have hm2:=hw y2 (List.mem_of_getElem? hy2)
  refine gd 34 49 [[],[],[],[.x (ay y2)],[],[],[],[],[],[.x (ay y1)],[],[],[]] ?_
  conv=>whnf
  refine J QZ<|J KR<|Wc<|JD (fun h6=>?_) fun h6=>?_
  refine g 49 50 []<|J UA<|RT ?_
  rotate_left
  refine Wk<|rg [.i ((k:Int) +1)]<|J QZ ?_
  rotate_left
  refine We<|rg [.i ((n:Int) +1)]<|J QZ ?_
  rotate_left
  ·exact vi (Yg hlen (uD hy1 (fun e=>e.2 (by rw[←(show y2.name = y1.name by assumption)];exact Hh hy2 OM)))).symm
  ·refine⟨k+1,[some 1],[],FZ,?_,?_⟩
   rotate_left
   (dsimp only;omega)
   dsimp only
   exact⟨by omega,Qj (n:=n) hm hy2 AS⟩
  ·refine⟨n+1,[some 1],[],FZ,?_,?_⟩
   rotate_left
   (dsimp only;omega)
   dsimp only
   exact⟨by omega,Br hc hy1 ⟨by assumption,by rwa [show k = n by omega]at hm⟩⟩
 have hnames:iy p.tasks:=It hc OM
 refine Wl (fun s (n:Nat)=>⟨[(1,s.s 1),(3,s.s 3),(6,.i n),(13,s.s 13),(16,s.s 16)],[(1,[s.c 1 0])],[]⟩) (fun(n:Nat)=>n≤p.tasks.length∧∀ t∈p.tasks.take n,1≤t.cost∧t.cost≤20) (fun(n:Nat)=>p.tasks.length - n) (0) [some 1] [] FZ (by simp) ?_
 rintro n2 ⟨hn2,hc2⟩
 conv=>whnf
 refine Ws<|g 50 52 []<|J UC<|Wc<|JD (fun h4=>?_) fun h4=>?_
 simp only[LM]at h4
 refine Wk<|Ws<|Wb ?_
 obtain⟨y1,hy1⟩:=ae (xs:=Plan.tasks p) (n:=n2) OM
 have hm1:=hw y1 (List.mem_of_getElem? hy1)
 by_cases h5:Task.cost y1 < (1:Int)
 refine g 52 70 (.x (ay y1)::(RL 8 BT []))<|J QZ<|Wc<|Kr (g 70 71 []<|J UA (RT ?_))
 rotate_left
 refine g 52 70 [.x (ay y1),BF,BF,BF,BF,.x (ay y1),BF,BF,BF,BF]<|J QZ<|Wc<|JD (fun h6=>?_) fun h6=>?_
 refine g 70 71 []<|J UA<|RT ?_
 rotate_left
 refine Wk<|rg [.i ((n2:Int) +1)]<|J QZ ?_
 rotate_left
 simp only[LM]at h4
 refine We<|Ws<|g 6 7 []<|J UA<|Wb ?_
 rotate_left
 ·exact vi (Yf hlen hnames (uR AS OM)).symm
 ·exact vi (Yf hlen hnames (uR AS OM)).symm
 ·refine⟨n2+1,[some 1],[],FZ,?_,?_⟩
  rotate_left
  (dsimp only;omega)
  dsimp only
  exact⟨by omega,uU hc2 AS OM⟩
 have hcosts:jI p.tasks:=uV hc2 OM
 refine Wl (fun s (n:Nat)=>⟨[(1,s.s 1),(3,s.s 3),(7,.i n),(13,s.s 13),(16,s.s 16)],[(1,[s.c 1 0])],[]⟩) (fun(n:Nat)=>n≤p.tasks.length∧NT p.tasks n) (fun(n:Nat)=>p.tasks.length - n) (0) [some 1] [] FZ ?_ ?_
 ·exact⟨Nat.zero_le _,fun m t hm=>by omega⟩
 rintro n3 ⟨hn3,hc3⟩
 conv=>whnf
 refine Ws<|g 71 73 []<|J UC<|Wc<|JD (fun h5=>?_) fun h5=>?_
 simp only[LM]at h5
 refine Wk<|Ws<|Wb ?_
 obtain⟨y1,hy1⟩:=ae (xs:=Plan.tasks p) (n:=n3) OM
 have hm1:=hw y1 (List.mem_of_getElem? hy1)
 refine g 73 82 [.x (ay y1)]<|J QZ<|Ws<|g 82 84 []<|J UC<|Wc<|JD (fun h6=>?_) fun h6=>?_
 simp only[LM]at h6
 refine g 84 85 []<|J UA<|RT ?_
 rotate_left
 simp only[LM]at h6
 refine Wk<|g 84 85 []<|J UA<|Wb ?_
 rotate_left
 simp only[LM]at h5
 refine We<|g 7 74 []<|J UA<|RT ?_
 rotate_left
 ·exact vi (PQ hlen hnames hcosts (ot AS (fun e=>by have:=e.1;omega))).symm
 ·refine Wl (fun s (x:Nat×Int)=>match x with|(k,last)=>⟨(SK s [1,3,7,8] [(9,.i k),(13,s.s 13),(16,s.s 16)]),[(1,[s.c 1 0])],[]⟩) (fun(x:Nat×Int)=>match x with|(k,last)=>k≤y1.deps.length∧oC n3 y1.deps k last∧ -1≤last∧(k = 0→last = -1)∧(0 < k→y1.deps[k - 1]? = some last)) (fun(x:Nat×Int)=>match x with|(k,last)=>y1.deps.length - k) ((0,-1)) [some 1] [] FZ ?_ ?_
  ·exact⟨Nat.zero_le _,Iff.rfl,by omega,fun _=>rfl,fun h=>by omega⟩
  rintro⟨k,last⟩ ⟨hk,hi,hlo,hz,hs⟩
  conv=>whnf
  refine Ws<|g 85 88 []<|J UD<|Wc<|JD (fun h7=>?_) fun h7=>?_
  simp only[LM]at h7
  refine Wk<|Ws<|Wb ?_
  obtain⟨y2,hy2⟩:=ae (xs:=Task.deps y1) (n:=k) OM
  by_cases h8:y2 < (0:Int)
  refine gd 88 119 [[],[],[.x (eA y2)],[],[],[],[BT],[BT],[BT],[BT],[BT],[BT],[BT],[],[BT],[BT],[BT],[BF],[BF],[BF],[BF],[BF],[BF],[BF],[BF],[BF],[BF],[BT],[BT]] ?_
  conv=>whnf
  refine J QZ<|J KR<|Wc<|Kr (g 119 120 []<|J UA (RT ?_))
  rotate_left
  by_cases h9:(↑n3:Int)≤y2
  refine gd 88 119 [[],[],[.x (eA y2)],[],[],[],[BF],[BF],[BF,.x (eA y2)],[BF],[BF],[BF],[BF],[],[BT],[BT],[BT],[BF],[BF],[BF],[BF],[BF],[BF],[BF],[BF],[BF],[BF],[BT],[BT]] ?_
  conv=>whnf
  refine J QZ<|J KR<|Wc<|Kr (g 119 120 []<|J UA (RT ?_))
  rotate_left
  by_cases h10:(0:Int) < (↑k:Int)
  obtain⟨y3,hy3⟩:=ae (xs:=Task.deps y1) (n:=Int.toNat ((↑k:Int) - (1:Int))) OM
  refine gd 88 119 [[],[],[.x (eA y2)],[],[],[],[BF],[BF],[BF,.x (eA y2)],[BF],[BF],[BF],[BF],[],[BF],[BF],[BF],[BT],[BT],[BT,.i ((k:Int) - 1)],[BT,.x (eA y3)],[BT],[BT],[BT],[BT,.x (eA y2)],[BT],[BT],[BF,BT],[BF]] ?_
  conv=>whnf
  refine J QZ<|J KR<|Wc<|JD (fun h11=>?_) fun h11=>?_
  refine g 119 120 []<|J UA<|RT ?_
  rotate_left
  refine Wk<|rg [.i ((k:Int) +1)]<|J QZ ?_
  rotate_left
  refine gd 88 119 [[],[],[.x (eA y2)],[],[],[],[BF],[BF],[BF,.x (eA y2)],[BF],[BF],[BF],[BF],[],[BF],[BF],[BF],[BF],[BF],[BF],[BF],[BF],[BF],[BF],[BF],[BF],[BF],[BF,BF],[BF]] ?_
  conv=>whnf
  refine J QZ<|J KR<|Wc<|Jr<|Wk<|rg [.i ((k:Int) +1)]<|J QZ ?_
  rotate_left
  simp only[LM]at h7
  refine We<|rg [.i ((n3:Int) +1)]<|J QZ ?_
  rotate_left
  ·exact vi (PQ hlen hnames hcosts (ot hy1 (fun e=>vP hi hy2 OM e.2))).symm
  ·exact vi (PQ hlen hnames hcosts (ot hy1 (fun e=>vP hi hy2 OM e.2))).symm
  ·have hl3:=OA (hs OM) hy3
   exact vi (PQ hlen hnames hcosts (ot hy1 (fun e=>vP hi hy2 OM e.2))).symm
  ·have hl3:=OA (hs OM) hy3
   refine⟨(k+1,y2),[some 1],[],FZ,?_,?_⟩
   rotate_left
   (dsimp only;omega)
   dsimp only
   exact⟨by omega,xh hi hy2 OM,by omega,fun e=>by omega,fun _=>hy2⟩
  ·have hl3:=hz OM
   refine⟨(k+1,y2),[some 1],[],FZ,?_,?_⟩
   rotate_left
   (dsimp only;omega)
   dsimp only
   exact⟨by omega,xh hi hy2 OM,by omega,fun e=>by omega,fun _=>hy2⟩
  ·refine⟨n3+1,[some 1],[],FZ,?_,?_⟩
   rotate_left
   (dsimp only;omega)
   dsimp only
   exact⟨by omega,Br hc3 hy1 ⟨by omega,Lb hi OM⟩⟩
 exact vi (abp hlen hnames hcosts (It hc3 OM)).symm
end Go.K
end
section
open Go Go.Tm Go.Proofs
namespace Go.K
def ev(all:List ByteArray)(ds:List Int):List ByteArray:=ds.map fun d=>(all[d.toNat]?).getD emp
def cY(ts:List Task)(n:Nat):List ByteArray:=(ts.take n).foldl (fun acc t=>acc++ [bG t.name (ev acc t.deps)]) []
theorem xE(ts:List Task):cY ts 0 = []:=by unfold cY;rw[List.take_zero];rfl
theorem jo{ts:List Task}{n:Nat}{t:Task}(h:ts[n]? = some t):cY ts (n+1) = cY ts n++ [bG t.name (ev (cY ts n) t.deps)]:=by
 unfold cY;rw[List.take_add_one,h];simp
theorem fR(ts:List Task):∀ n,n≤ts.length→(cY ts n).length = n
 |0,_=>by rw[xE];rfl
 |n+1,h=>by
  rw[jo (List.getElem?_eq_getElem OM),List.length_append,fR ts n OM];rfl
theorem oM(nm:ByteArray)(xs:List ByteArray):(bG nm xs).size = 8:=by unfold bG;rw[gZ,rk]
theorem nK(ts:List Task):∀ n,n≤ts.length→∀ s∈cY ts n,s.size = 8
 |0,_=>by rw[xE];intro s hs;cases hs
 |n+1,h=>by
  rw[jo (List.getElem?_eq_getElem OM)]
  intro s hs
  rcases List.mem_append.1 hs with hs|hs
  ·exact nK ts n OM s hs
  ·rw[List.mem_singleton.1 hs];exact oM _ _
noncomputable def eE(p:Plan):List ByteArray:=if am p.tasks = 0 then cY p.tasks p.tasks.length else []
def dj(rs:List ByteArray)(ds:List Int):Prop:=∀ d∈ds,¬(rs[d.toNat]?).getD emp = emp
noncomputable instance (rs:List ByteArray) (ds:List Int):Decidable (dj rs ds):=Classical.propDecidable _
structure Tale where
 epoch:Int
 results:List ByteArray
open Classical in
noncomputable def en(ts:List Task)(st:Tale)(s:ByteArray):Option Tale :=
 match eZ s with
 |none=>none
 |some e =>
  if e.kind = 1 then(if e.epoch = st.epoch+1 then some ⟨e.epoch,st.results⟩else none)
  else if e.epoch = st.epoch∧e.task < ts.length∧(st.results[e.task.toNat]?).getD emp = emp∧dj st.results ((ts[e.task.toNat]?).map Task.deps|>.getD [])then some ⟨st.epoch,st.results.set e.task.toNat e.text⟩else none
noncomputable def ld(ts:List Task)(st:Option Tale)(l:List ByteArray):Option Tale:=l.foldl (fun a s=>a.bind fun t=>en ts t s) st
noncomputable def mN(ts:List Task):Tale:=⟨0,List.replicate ts.length emp⟩
theorem pt(ts:List Task)(l:List ByteArray)(st:Option Tale)(m:List ByteArray):ld ts st (l++m) = ld ts (ld ts st l) m:=by unfold ld;rw[List.foldl_append]
theorem jk(ts:List Task):∀ (l:List ByteArray),ld ts none l = none
 |[]=>rfl
 |s :: l=>jk ts l
theorem jy(ts:List Task)(st:Option Tale):ld ts st [] = st:=rfl
theorem pU(ts:List Task)(t:Tale)(s:ByteArray)(l:List ByteArray):ld ts (some t) (s :: l) = ld ts (en ts t s) l:=rfl
theorem FR{ts:List Task}{xs:List ByteArray}{n:Nat}{s:ByteArray}{st:Option Tale}{t:Tale}(h:ld ts st (xs.take n) = some t)(hs:xs[n]? = some s):ld ts st (xs.take (n+1)) = en ts t s:=by
 rw[List.take_add_one,hs,pt,h];rfl
theorem S7{ts:List Task}{xs:List ByteArray}{n:Nat}{s:ByteArray}{st:Option Tale}{t:Tale}(h:ld ts st (xs.take n) = some t)(hs:xs[n]? = some s)(hb:en ts t s = none):ld ts st xs = none:=by
 have h2:=FR h hs
 rw[hb]at h2
 rw[←List.take_append_drop (n+1) xs,pt,h2,jk]
theorem S8{ts:List Task}{xs:List ByteArray}{n:Nat}{st:Option Tale}{t:Tale}(h:ld ts st (xs.take n) = some t)(hn:xs.length≤n):ld ts st xs = some t:=by
 rw[List.take_of_length_le hn]at h;exact h
theorem P5{ts:List Task}{t t':Tale}{s:ByteArray}(h:en ts t s = some t'):t'.results.length = t.results.length:=by
 unfold en at h
 split at h
 ·cases h
 ·split at h
  ·split at h
   ·cases h;rfl
   ·cases h
  ·split at h
   ·cases h;simp
   ·cases h
theorem uw(ts:List Task):∀ (l:List ByteArray) (t t':Tale),ld ts (some t) l = some t'→t'.results.length = t.results.length
 |[],t,t',h=>by rw[jy]at h;cases h;rfl
 |s :: l,t,t',h=>by
  rw[pU]at h
  cases hs:en ts t s with
  |none=>rw[hs,jk]at h;cases h
  |some u=>rw[hs]at h;rw[uw ts l u t' h,P5 hs]
end Go.K
end
section
open Go Go.Tm Go.Proofs
namespace Go.K
abbrev abd(ds:List Int):T:=.slc [false] (ds.map eA)
theorem BP{all:List ByteArray}{ds:List Int}{n:Nat}{d:Int}{y:ByteArray}(h:ds[n]? = some d)(hy:all[d.toNat]? = some y):ev all (ds.take (n+1)) = ev all (ds.take n) ++ [y]:=by
 unfold ev;rw[List.take_add_one,h];simp[hy]
theorem FX{all:List ByteArray}{ds:List Int}{n:Nat}{d:Int}{y:ByteArray}(h:ds[n]? = some d)(hy:all[d.toNat]? = some y):(ev all (ds.take n)).map ah++ [ah y] = (ev all (ds.take (n+1))).map ah:=by
 rw[BP h hy,List.map_append];rfl
theorem yi(all:List ByteArray)(ds:List Int)(hd:∀ d∈ds,0≤d∧d < all.length)(hl:ds.length≤1048576):F Jx [.val (.t (pp all)),.val (.t (abd ds))] (.own [false] ((ev all ds).map ah)) O2:=by
 refine JP ?_
 conv=>whnf
 refine g 0 0 []<|J UA<|g 0 0 []<|J UA<|Ws<|g 1 2 []<|J UC<|Wb<|Wl (fun s (n:Nat)=>⟨[(0,s.s 0),(4,s.s 4),(5,.ref ⟨5,none,0⟩),(8,s.s 8),(9,s.s 9),(10,.i n)],[(5,[.own [false] ((ev all (ds.take n)).map ah)])],[]⟩) (fun(n:Nat)=>n≤ds.length) (fun(n:Nat)=>ds.length - n) (0) [none] [] ⟨rfl,FZ,UA,I⟩ OM ?_
 intro n hn
 have hx:(ev all (ds.take n)).length = n:=by unfold ev;rw[List.length_map,List.length_take];omega
 conv=>whnf
 refine g 0 0 []<|J UA<|Ws<|Wc<|JD (fun h1=>?_) fun h1=>?_
 simp only[LM]at h1
 refine Wk<|Ws<|Wb ?_
 obtain⟨y1,hy1⟩:=ae (xs:=ds) (n:=n) OM
 have hm1:=hd y1 (List.mem_of_getElem? hy1)
 refine g 11 14 [.x (eA y1)]<|J QZ ?_
 obtain⟨y2,hy2⟩:=ae (xs:=all) (n:=Int.toNat y1) OM
 refine rg [.x (ah y2)]<|J QZ<|rg [.i ((n:Int) +1)]<|J QZ ?_
 rotate_left
 simp only[LM]at h1
 refine We<|g 5 12 []<|J UB<|RT ?_
 rotate_left
 ·refine⟨n+1,[some 20],[],⟨rfl,FZ,⟨⟨rfl,⟨(congrArg (V.own _) (FX AS AS)),I⟩⟩,I⟩,I⟩,?_,?_⟩
  rotate_left
  (dsimp only;omega)
  dsimp only
  omega
 ·rw[List.take_of_length_le OM]
theorem KJ{rs:List ByteArray}{ds:List Int}{n:Nat}{d:Int}{y:ByteArray}(h:ds[n]? = some d)(hy:rs[d.toNat]? = some y)(e:y = emp):¬dj rs ds:=fun hr=>hr d (List.mem_of_getElem? h) (by rw[hy];exact e)
theorem BK{rs:List ByteArray}{ds:List Int}{n:Nat}{d:Int}{y:ByteArray}(hc:dj rs (ds.take n))(h:ds[n]? = some d)(hy:rs[d.toNat]? = some y)(e:¬y = emp):dj rs (ds.take (n+1)):=by
 intro x hx
 rw[List.take_add_one,h]at hx
 rcases List.mem_append.1 hx with hx|hx
 ·exact hc x hx
 ·rw[Option.toList,List.mem_singleton]at hx;subst hx;rw[hy];exact e
theorem jX(all:List ByteArray)(ds:List Int)(hd:∀ d∈ds,0≤d∧d < all.length)(hl:ds.length≤1048576):F Hb [.val (.t (pp all)),.val (.t (abd ds))] (.b (decide (dj all ds))) O2:=by
 refine Hv ?_
 conv=>whnf
 refine g 0 0 []<|J UA<|Ws<|g 1 2 []<|J UC<|Wb ?_
 refine Wl (fun s (n:Nat)=>⟨(SK s [0,7,8] [(9,.i n)]),[],[]⟩) (fun(n:Nat)=>n≤ds.length∧dj all (ds.take n)) (fun(n:Nat)=>ds.length - n) (0) [] [] FZ ?_ ?_
 ·exact⟨Nat.zero_le _,by unfold dj;simp⟩
 rintro n ⟨hn,hc⟩
 conv=>whnf
 refine g 0 0 []<|J UA<|Ws<|Wc<|JD (fun h1=>?_) fun h1=>?_
 simp only[LM]at h1
 refine Wk<|Ws<|Wb ?_
 obtain⟨y1,hy1⟩:=ae (xs:=ds) (n:=n) OM
 have hm1:=hd y1 (List.mem_of_getElem? hy1)
 refine g 10 13 [.x (eA y1)]<|J QZ ?_
 obtain⟨y2,hy2⟩:=ae (xs:=all) (n:=Int.toNat y1) OM
 refine g 13 17 [.x (ah y2)]<|J QZ<|Wc<|JD (fun h2=>?_) fun h2=>?_
 refine g 6 7 []<|J UA<|RT ?_
 rotate_left
 refine Wk<|rg [.i ((n:Int) +1)]<|J QZ ?_
 rotate_left
 simp only[LM]at h1
 refine We<|g 7 11 []<|J UA<|RT ?_
 rotate_left
 ·exact vbf (KJ AS AS AS)
 ·refine⟨n+1,[],[],⟨rfl,⟨rfl,rfl,rfl,rfl,I⟩,I,I⟩,?_,?_⟩
  rotate_left
  (dsimp only;omega)
  dsimp only
  exact⟨by omega,BK hc AS AS AS⟩
 ·exact vbt (by rw[List.take_of_length_le OM]at hc;exact hc)
end Go.K
end
section
open Go Go.Tm Go.Proofs
namespace Go.K
theorem B6{hi:Int}:∀ {last:Int} {ds:List Int},Lc last hi ds→∀ d∈ds,last < d∧d < hi
 |_,[],_,d,h=>by cases h
 |last,x :: ds,h,d,hd=>by
  rw[Lc]at h
  rcases List.mem_cons.1 hd with e|hd
  ·subst e;exact h.1
  ·have:=B6 h.2 d hd;omega
theorem bX{ts:List Task}(h:am ts = 0):(1≤ts.length∧ts.length≤40)∧iy ts∧jI ts∧uj ts:=by
 by_cases h1:1≤ts.length∧ts.length≤40
 ·by_cases h2:iy ts
  ·by_cases h3:jI ts
   ·by_cases h4:uj ts
    ·exact⟨h1,h2,h3,h4⟩
    ·rw[PQ h1 h2 h3 h4]at h;cases h
   ·rw[Yf h1 h2 h3]at h;cases h
  ·rw[Yg h1 h2]at h;cases h
 ·rw[Yh h1]at h;cases h
theorem cz{ts:List Task}(h:am ts = 0){n:Nat}{t:Task}(ht:ts[n]? = some t):(1≤t.name.size∧t.name.size≤30)∧(1≤t.cost∧t.cost≤20)∧t.deps.length≤8∧∀ d∈t.deps,0≤d∧d < n:=by
 obtain⟨h1,h2,h3,h4⟩:=bX h
 have hn:=(List.getElem?_eq_some_iff.1 ht).1
 refine⟨(h2 n t hn ht).1.2,h3 t (List.mem_of_getElem? ht),(h4 n t hn ht).1,fun d hd=>?_⟩
 have:=B6 (h4 n t hn ht).2 d hd
 omega
theorem Bp{ts:List Task}{n:Nat}{t:Task}(h:ts[n]? = some t):(cY ts n).map ah++ [ah (bG t.name (ev (cY ts n) t.deps))] = (cY ts (n+1)).map ah:=by
 rw[jo h,List.map_append];rfl
theorem mY(all:List ByteArray)(ds:List Int):(ev all ds).length = ds.length:=by unfold ev;rw[List.length_map]
theorem BQ{all:List ByteArray}(hm:∀ s∈all,s.size = 8){ds:List Int}:∀ s∈ev all ds,s.size≤8:=by
 intro s hs
 unfold ev at hs
 obtain⟨d,hd,rfl⟩:=List.mem_map.1 hs
 cases hg:all[d.toNat]? with
 |none=>show emp.size≤8;decide
 |some y=>exact Nat.le_of_eq (hm y (List.mem_of_getElem? hg))
theorem CC:∀ {xs:List ByteArray},(∀ s∈xs,s.size≤8)→bV xs≤8 * xs.length
 |[],_=>by simp[bV]
 |s :: xs,h=>by
  have:=CC (xs:=xs) fun y hy=>h y (List.mem_cons_of_mem _ hy)
  have:=h s (List.mem_cons_self ..)
  simp only[bV,List.length_cons];omega
theorem ub(p:Plan)(hp:dD p):F G3 [.val (cX p)] (.own [false] ((eE p).map ah)) O1:=by
 have c1:=dr p hp
 by_cases h:am p.tasks = 0
 ·obtain⟨⟨hl1,hl2⟩,_⟩:=bX h
  rw[h]at c1
  refine tX ?_
  conv=>whnf
  refine g 0 0 []<|J QZ<|g 7 8 []<|J UB<|Ws<|g 8 10 [.call (V.i 0) O1]<|J QZ<|Wc<|Jr<|Wk<|Ws<|g 10 11 []<|J UA<|Wb<|Wl (fun s (n:Nat)=>⟨(SK s [0,1,2] [(3,.ref ⟨7,none,0⟩),(4,.i n)]),[(1,[s.c 1 0]),(7,[.own [false] ((cY p.tasks n).map ah)])],[]⟩) (fun(n:Nat)=>n≤p.tasks.length) (fun(n:Nat)=>p.tasks.length - n) (0) [some 1,some 7] [] FZ OM ?_
  intro n hn
  have hx:=fR p.tasks n hn
  have hm:=nK p.tasks n hn
  by_cases hn2:n < p.tasks.length
  ·obtain⟨t,ht⟩:=ae hn2
   obtain⟨⟨a1,a2⟩,_,a3,a4⟩:=cz h ht
   conv=>whnf
   refine Ws<|g 12 16 []<|J UE<|Wc<|J (fun _=>(Wk (Ws (Wb (g 16 20 []<|J UB (Ws (g 0 0 []<|J UA (Wb (Wl (fun s (k:Nat)=>⟨(SK s [0,1,2,3,4] [(5,.ref ⟨19,none,0⟩),(6,.i k)]),[(1,[s.c 1 0]),(7,[s.c 7 0]),(19,[.own [false] ((ev (cY p.tasks n) (t.deps.take k)).map ah)])],[]⟩) (fun(k:Nat)=>k≤t.deps.length) (fun(k:Nat)=>t.deps.length - k) (0) [some 1,some 7,some 19] [] FZ OM ?_))))))))) (noF SI)
   intro k hk
   have hxk:=mY (cY p.tasks n) (t.deps.take k)
   rw[List.length_take,Nat.min_eq_left hk]at hxk
   by_cases hk2:k < t.deps.length
   ·obtain⟨d,hd⟩:=ae hk2
    have hd2:=a4 d (List.mem_of_getElem? hd)
    obtain⟨y,hy⟩:=ae (xs:=cY p.tasks n) (n:=d.toNat) OM
    conv=>whnf
    refine Ws<|g 23 28 [.x (ay t)]<|J QZ<|Wc<|J (fun _=>(Wk (Ws (Wb (rg [.x (ay t),.x (eA d),.n (Int.toNat d),.x (ah y)]<|J QZ (rg [.i ((k:Int) +1)]<|J QZ ?_)))))) (noF SI)
    refine⟨k+1,[some 1,some 7,some 45],[],⟨rfl,FZ,⟨FZ,⟨FZ,⟨⟨rfl,⟨(congrArg (V.own _) (FX hd hy)),I⟩⟩,I⟩⟩⟩,I⟩,?_,?_⟩
    rotate_left
    (dsimp only;omega)
    dsimp only
    omega
   ·have hke:t.deps.take k = t.deps:=List.take_of_length_le OM
    rw[hke]
    have hps:=BQ (all:=cY p.tasks n) hm (ds:=t.deps)
    have htot:=CC hps
    have hpl:=mY (cY p.tasks n) t.deps
    have cv:=jW t.name (ev (cY p.tasks n) t.deps) OM OM OM (fun s hs=>by have:=hps s hs;omega)
    conv=>whnf
    refine Ws<|g 23 28 [.x (ay t)]<|J QZ<|Wc<|J (noT SI) fun _=>We<|rg [.x (ay t),.call (V.s (bG t.name (ev (cY p.tasks n) t.deps))) O2]<|J QZ<|rg [.i ((n:Int) +1)]<|J QZ ?_
    refine⟨n+1,[some 1,some 56],[],⟨rfl,FZ,⟨FZ,⟨⟨rfl,⟨(congrArg (V.own _) (Bp ht)),I⟩⟩,I⟩⟩,I⟩,?_,?_⟩
    rotate_left
    (dsimp only;omega)
    dsimp only
    omega
  ·conv=>whnf
   refine Ws<|g 12 16 []<|J UE<|Wc<|J (noT SI) fun _=>We<|g 3 58 []<|J UB<|RT ?_
   rw[eE,if_pos h,show n = p.tasks.length by omega]
 ·refine tX ?_
  conv=>whnf
  refine g 0 0 []<|J QZ<|g 7 8 []<|J UB<|Ws<|g 8 10 [.call (V.i (am p.tasks)) O1]<|J QZ<|Wc<|Kn (g 10 12 []<|J UB (RT ?_))
  rw[eE,if_neg h];rfl
end Go.K
end
section
open Go Go.Tm Go.Proofs
namespace Go.K
structure Story where
 code:Int
 epoch:Int
 results:List ByteArray
 deriving DecidableEq
abbrev gT(x:Story):V:=.agg [.t (.i x.code),.t (.i x.epoch),.own [false] (x.results.map ah)]
noncomputable def cQ(ts:List Task)(xs:List ByteArray)(n:Nat):Tale:=(ld ts (some (mN ts)) (xs.take n)).getD (mN ts)
def nn(ts:List Task)(xs:List ByteArray)(n:Nat):Prop:=ld ts (some (mN ts)) (xs.take n) = some (cQ ts xs n)
theorem lm(ts:List Task)(xs:List ByteArray):cQ ts xs 0 = mN ts:=by unfold cQ;rw[List.take_zero,jy];rfl
theorem xG(ts:List Task)(xs:List ByteArray):nn ts xs 0:=by unfold nn;rw[lm,List.take_zero,jy]
theorem pO{ts:List Task}{xs:List ByteArray}{n:Nat}{s:ByteArray}{t:Tale}(h:nn ts xs n)(hs:xs[n]? = some s)(hst:en ts (cQ ts xs n) s = some t):nn ts xs (n+1)∧cQ ts xs (n+1) = t:=by
 have e:=FR h hs
 rw[hst]at e
 have e2:cQ ts xs (n+1) = t:=by unfold cQ;rw[e];rfl
 exact⟨by unfold nn;rw[e,e2],e2⟩
theorem Ks{ts:List Task}{xs:List ByteArray}{n:Nat}(h:nn ts xs n):(cQ ts xs n).results.length = ts.length:=by
 rw[uw ts _ _ _ h,mN,List.length_replicate]
noncomputable def ax(p:Plan)(xs:List ByteArray):Story :=
 if am p.tasks = 0∧xs.length≤310 then
  match ld p.tasks (some (mN p.tasks)) xs with
  |none=>⟨2,0,[]⟩
  |some t=>⟨0,t.epoch,t.results⟩
 else⟨1,0,[]⟩
theorem nP{p:Plan}{xs:List ByteArray}(h:¬(am p.tasks = 0∧xs.length≤310)):ax p xs = ⟨1,0,[]⟩:=if_neg h
theorem eP{p:Plan}{xs:List ByteArray}{n:Nat}{s:ByteArray}(h:am p.tasks = 0)(hl:xs.length≤310)(hc:nn p.tasks xs n)(hs:xs[n]? = some s)(hst:en p.tasks (cQ p.tasks xs n) s = none):ax p xs = ⟨2,0,[]⟩:=by
 rw[ax,if_pos ⟨h,hl⟩,S7 hc hs hst]
theorem BI{p:Plan}{xs:List ByteArray}{n:Nat}(h:am p.tasks = 0)(hl:xs.length≤310)(hc:nn p.tasks xs n)(hn:xs.length≤n):ax p xs = ⟨0,(cQ p.tasks xs n).epoch,(cQ p.tasks xs n).results⟩:=by
 rw[ax,if_pos ⟨h,hl⟩,S8 hc hn]
theorem FP{ts:List Task}{t:Tale}{s:ByteArray}(h:eZ s = none):en ts t s = none:=by unfold en;rw[h]
theorem HW{ts:List Task}{t:Tale}{s:ByteArray}{e:Entry}(h:eZ s = some e)(hk:e.kind = 1)(he:e.epoch = t.epoch+1):en ts t s = some ⟨e.epoch,t.results⟩:=by
 unfold en;rw[h];simp only[if_pos hk,if_pos he]
theorem Bw{ts:List Task}{t:Tale}{s:ByteArray}{e:Entry}(h:eZ s = some e)(hk:e.kind = 1)(he:¬e.epoch = t.epoch+1):en ts t s = none:=by
 unfold en;rw[h];simp only[if_pos hk,if_neg he]
theorem CG{ts:List Task}{t:Tale}{s:ByteArray}{e:Entry}{k:Task}{y:ByteArray}(h:eZ s = some e)(hk:¬e.kind = 1)(he:e.epoch = t.epoch)(ht:e.task < ts.length)(hy:t.results[e.task.toNat]? = some y)(hy2:y = emp)(hkk:ts[e.task.toNat]? = some k)(hr:dj t.results k.deps):en ts t s = some ⟨t.epoch,t.results.set e.task.toNat e.text⟩:=by
 unfold en;rw[h];simp only[if_neg hk]
 rw[if_pos ⟨he,ht,by rw[hy];exact hy2,by rw[hkk];exact hr⟩]
theorem ut{ts:List Task}{t:Tale}{s:ByteArray}{e:Entry}(h:eZ s = some e)(hk:¬e.kind = 1)(hn:¬(e.epoch = t.epoch∧e.task < ts.length)):en ts t s = none:=by
 unfold en;rw[h];simp only[if_neg hk]
 rw[if_neg fun q=>hn ⟨q.1,q.2.1⟩]
theorem Kz{ts:List Task}{t:Tale}{s:ByteArray}{e:Entry}{y:ByteArray}(h:eZ s = some e)(hk:¬e.kind = 1)(hy:t.results[e.task.toNat]? = some y)(hn:¬y = emp):en ts t s = none:=by
 unfold en;rw[h];simp only[if_neg hk]
 rw[if_neg fun q=>hn (by have:=q.2.2.1;rw[hy]at this;exact this)]
theorem Ky{ts:List Task}{t:Tale}{s:ByteArray}{e:Entry}{k:Task}(h:eZ s = some e)(hk:¬e.kind = 1)(hkk:ts[e.task.toNat]? = some k)(hn:¬dj t.results k.deps):en ts t s = none:=by
 unfold en;rw[h];simp only[if_neg hk]
 rw[if_neg fun q=>hn (by have:=q.2.2.2;rw[hkk]at this;exact this)]
theorem kF{s:ByteArray}{e:Entry}(h:eZ s = some e):e.ok:=by
 unfold eZ at h
 split at h
 ·cases h
 ·split at h
  ·rename_i h1 h2
   cases h
   unfold bW at h2
   split at h2
   ·assumption
   ·rw[←h2]at h1;exact absurd (by decide:((emp.size:Nat):Int) < 4) h1
  ·cases h
theorem jc(p:Plan)(rs:List ByteArray)(k:Int){t:Task}(h0:0≤k)(ht:p.tasks[k.toNat]? = some t)(hd:∀ d∈t.deps,0≤d∧d < rs.length)(hl:t.deps.length≤1048576):F Dq [.val (cX p),.val (.t (pp rs)),.val (.i k)] (.b (decide (dj rs t.deps))) O3:=by
 have hk:=(List.getElem?_eq_some_iff.1 ht).1
 refine D6 ?_
 conv=>whnf
 refine g 0 1 []<|J QZ<|g 9 15 [.x (ay t)]<|J QZ<|Ws<|g 2 4 []<|J UA<|Wb ?_
 refine Wl (fun s (n:Nat)=>⟨[(1,s.s 1),(7,s.s 7),(8,.i n)],[],[]⟩) (fun(n:Nat)=>n≤t.deps.length∧dj rs (t.deps.take n)) (fun(n:Nat)=>t.deps.length - n) (0) [] [] FZ ?_ ?_
 ·exact⟨Nat.zero_le _,by unfold dj;simp⟩
 rintro n ⟨hn,hc⟩
 conv=>whnf
 refine Ws<|g 15 18 []<|J UD<|Wc<|JD (fun h1=>?_) fun h1=>?_
 simp only[LM]at h1
 refine Wk<|Ws<|Wb ?_
 obtain⟨y1,hy1⟩:=ae (xs:=Task.deps t) (n:=n) OM
 have hm1:=hd y1 (List.mem_of_getElem? hy1)
 obtain⟨y2,hy2⟩:=ae (xs:=rs) (n:=Int.toNat y1) OM
 refine g 18 28 [.x (eA y1),.x (ah y2)]<|J QZ<|Wc<|JD (fun h2=>?_) fun h2=>?_
 refine g 28 29 []<|J UA<|RT ?_
 rotate_left
 refine Wk<|rg [.i ((n:Int) +1)]<|J QZ ?_
 rotate_left
 simp only[LM]at h1
 refine We<|g 7 19 []<|J UA<|RT ?_
 rotate_left
 ·exact vbf (KJ AS AS AS)
 ·refine⟨n+1,[],[],Zah,?_,?_⟩
  rotate_left
  (dsimp only;omega)
  dsimp only
  exact⟨by omega,BK hc AS AS AS⟩
 ·exact vbt (by rw[List.take_of_length_le OM]at hc;exact hc)
theorem Kq{ts:List Task}{e:Entry}(h:e.ok):0≤e.task∧e.task≤39∧1≤e.epoch∧e.epoch≤300:=⟨h.2.1.1,h.2.1.2,h.1.1,h.1.2⟩
theorem Af(ts:List Task)(xs:List ByteArray):List.replicate ts.length (ah emp) = (cQ ts xs 0).results.map ah:=by rw[lm,mN,List.map_replicate]
theorem re(p:Plan)(xs:List ByteArray)(hp:dD p)(hx:∀ s∈xs,s.size≤281474976710656)(hl:xs.length≤9223372036854775806):F qF [.val (cX p),.val (.t (pp xs))] (gT (ax p xs)) O2:=by
 have c1:=gc p hp
 by_cases h:am p.tasks = 0
 ·obtain⟨⟨hl1,hl2⟩,_⟩:=bX h
  rw[h]at c1
  by_cases hl3:xs.length≤310
  ·refine lR ?_
   conv=>whnf
   refine g 0 0 []<|J QZ<|Ws<|g 13 18 [.call (V.i 0) O1,BF,BF,BF,BF]<|J QZ<|Wc<|J (fun h1=>?_) fun h1=>?_
   replace h1:=dt h1
   simp only[LM]at h1
   omega
   replace h1:=df h1
   simp only[LM]at h1
   refine Wk<|gd 21 24 [[],[],[],[.n (List.length (List.map ay p.tasks))],[],[]] ?_
   conv=>whnf
   refine J QZ<|J KR<|Ws<|g 11 12 []<|J UC<|Wb ?_
   refine Wl (fun s (n:Nat)=>⟨(SK s [0,1,2,4] ((5,.i (cQ p.tasks xs n).epoch)::(6,.ref ⟨23,none,0⟩)::(SK s [12,20,24,25] [(26,.i n)]))),[(2,[s.c 2 0]),(4,(CK s 4 0 3 [])),(23,[.own [false] ((cQ p.tasks xs n).results.map ah)])],[]⟩) (fun(n:Nat)=>n≤xs.length∧nn p.tasks xs n∧0≤(cQ p.tasks xs n).epoch∧(cQ p.tasks xs n).epoch≤300) (fun(n:Nat)=>xs.length - n) (0) [some 2,some 4,some 23] [] ⟨rfl,FZ,⟨FZ,⟨FZ,⟨⟨rfl,⟨(congrArg (V.own _) (by rw[List.length_map];exact Af _ _)),I⟩⟩,I⟩⟩⟩,I⟩ ?_ ?_
   ·rw[lm];exact⟨Nat.zero_le _,xG _ _,Int.le_refl _,by show(0:Int)≤300;omega⟩
   rintro n ⟨hn,hc,he0,he1⟩
   have hrl:=Ks hc
   by_cases hn2:n < xs.length
   ·obtain⟨s0,hs⟩:=ae hn2
    have hss:=hx s0 (List.mem_of_getElem? hs)
    have cr:=mJ s0 hss
    rw[Oi]at cr
    cases hr:eZ s0 with
    |none =>
     rw[hr]at cr
     conv=>whnf
     refine g 0 0 []<|J UA<|Ws<|Wc<|J (fun _=>(Wk (Ws (Wb (g 27 30 [.x (ah s0)]<|J QZ (g 30 35 [.call (mR none) O1]<|J QZ (Ws (g 8 9 []<|J UB (Wc<|Kr (g 35 38 []<|J QZ ?_)))))))))) (noF SI)
     refine RT ?_
     rw[eP h hl3 hc hs (FP hr)];rfl
    |some e =>
     rw[hr]at cr
     obtain⟨r1,r2,r3,r4⟩:=Kq (ts:=p.tasks) (kF hr)
     by_cases hk:e.kind = 1
     ·by_cases he:e.epoch = (cQ p.tasks xs n).epoch+1
      ·obtain⟨hc2,e1⟩:=pO hc hs (HW hr hk he)
       conv=>whnf
       refine g 0 0 []<|J UA<|Ws<|Wc<|J (fun _=>(Wk (Ws (Wb (g 27 30 [.x (ah s0)]<|J QZ (g 30 35 [.call (mR (some e)) O1]<|J QZ (Ws (g 8 9 []<|J UB (Wc<|Jr<|(Wk ?_)))))))))) (noF SI)
       refine Ws<|g 35 40 []<|J UC<|Wc<|Kt (Ws (g 40 45 [.i (Tale.epoch (cQ p.tasks xs n) +1)]<|J QZ (Wc<|Jn<|(Wk (g 45 49 []<|J UC (We (rg [.i ((n:Int) +1)]<|J QZ ?_)))))))
       refine⟨n+1,[some 2,some 4,some 23],[],⟨rfl,⟨FZ,rfl,rfl,rfl,(congrArg (fun z=>V.t (T.v (Value.int _ z))) (by rw[e1])),rfl,rfl,rfl,rfl,rfl,rfl,I⟩,⟨FZ,⟨FZ,⟨⟨rfl,⟨(congrArg (V.own _) (by rw[e1])),I⟩⟩,I⟩⟩⟩,I⟩,?_,?_⟩
       rotate_left
       (dsimp only;omega)
       dsimp only
       exact⟨by omega,hc2,by rw[e1];dsimp only;omega,by rw[e1];dsimp only;omega⟩
      ·conv=>whnf
       refine g 0 0 []<|J UA<|Ws<|Wc<|J (fun _=>(Wk (Ws (Wb (g 27 30 [.x (ah s0)]<|J QZ (g 30 35 [.call (mR (some e)) O1]<|J QZ (Ws (g 8 9 []<|J UB (Wc<|Jr<|(Wk ?_)))))))))) (noF SI)
       refine Ws<|g 35 40 []<|J UC<|Wc<|Kt (Ws (g 40 45 [.i (Tale.epoch (cQ p.tasks xs n) +1)]<|J QZ (Wc<|Kn (g 45 47 []<|J QZ (RT ?_)))))
       rw[eP h hl3 hc hs (Bw hr hk he)];rfl
     ·by_cases heq:e.epoch = (cQ p.tasks xs n).epoch
      ·by_cases hlt:e.task < p.tasks.length
       ·obtain⟨t,ht⟩:=ae (xs:=p.tasks) (n:=e.task.toNat) OM
        obtain⟨y,hy⟩:=ae (xs:=(cQ p.tasks xs n).results) (n:=e.task.toNat) OM
        by_cases hye:y = emp
        ·obtain⟨_,_,a3,a4⟩:=cz h ht
         have cd:=jX (cQ p.tasks xs n).results t.deps (fun d hd=>by have:=a4 d hd;omega) OM
         by_cases hrd:dj (cQ p.tasks xs n).results t.deps
         ·rw[decide_eq_true hrd]at cd
          obtain⟨hc2,e1⟩:=pO hc hs (CG hr hk heq hlt hy hye ht hrd)
          conv=>whnf
          refine g 0 0 []<|J UA<|Ws<|Wc<|J (fun _=>(Wk (Ws (Wb (g 27 30 [.x (ah s0)]<|J QZ (g 30 35 [.call (mR (some e)) O1]<|J QZ (Ws (g 8 9 []<|J UB (Wc<|Jr<|(Wk ?_)))))))))) (noF SI)
          refine Ws<|g 35 40 []<|J UC<|Wc<|Jf<|Wk<|Ws<|g 63 80 (RL 11 BF (.n (Int.toNat e.task)::BF::.x (ah y)::(RL 8 BF [.x (ay t),BF,BF,BF,.call VT O2,BF,BF]))) ?_
          conv=>whnf
          refine J QZ<|Wc<|Jr<|Wk<|rg [.n (Int.toNat e.task),.x (ah y)]<|J QZ<|rg [.i ((n:Int) +1)]<|J QZ ?_
          refine⟨n+1,[some 2,some 4,some 23],[],⟨rfl,⟨FZ,rfl,rfl,rfl,(congrArg (fun z=>V.t (T.v (Value.int _ z))) (by rw[e1])),rfl,rfl,rfl,rfl,rfl,rfl,I⟩,⟨FZ,⟨FZ,⟨⟨rfl,⟨(congrArg (V.own _) (by rw[e1,List.map_set];rfl)),I⟩⟩,I⟩⟩⟩,I⟩,?_,?_⟩
          rotate_left
          (dsimp only;omega)
          dsimp only
          exact⟨by omega,hc2,by rw[e1];dsimp only;omega,by rw[e1];dsimp only;omega⟩
         ·rw[decide_eq_false hrd]at cd
          conv=>whnf
          refine g 0 0 []<|J UA<|Ws<|Wc<|J (fun _=>(Wk (Ws (Wb (g 27 30 [.x (ah s0)]<|J QZ (g 30 35 [.call (mR (some e)) O1]<|J QZ (Ws (g 8 9 []<|J UB (Wc<|Jr<|(Wk ?_)))))))))) (noF SI)
          refine Ws<|g 35 40 []<|J UC<|Wc<|Jf<|Wk<|Ws<|g 63 80 (RL 11 BF (.n (Int.toNat e.task)::BF::.x (ah y)::(RL 8 BF [.x (ay t),BF,BF,BF,.call VF O2,BF,BF]))) ?_
          conv=>whnf
          refine J QZ<|Wc<|Kr (g 40 62 []<|J QZ (RT ?_))
          rw[eP h hl3 hc hs (Ky hr hk ht hrd)];rfl
        ·conv=>whnf
         refine g 0 0 []<|J UA<|Ws<|Wc<|J (fun _=>(Wk (Ws (Wb (g 27 30 [.x (ah s0)]<|J QZ (g 30 35 [.call (mR (some e)) O1]<|J QZ (Ws (g 8 9 []<|J UB (Wc<|Jr<|(Wk ?_)))))))))) (noF SI)
         refine Ws<|g 35 40 []<|J UC<|Wc<|Jf<|Wk<|Ws<|g 63 80 (RL 11 BF (.n (Int.toNat e.task)::BF::.x (ah y)::BF::BF::(RL 11 BT [])))<|J QZ<|Wc<|Kr (g 40 62 []<|J QZ (RT ?_))
         rw[eP h hl3 hc hs (Kz hr hk hy hye)];rfl
       ·conv=>whnf
        refine g 0 0 []<|J UA<|Ws<|Wc<|J (fun _=>(Wk (Ws (Wb (g 27 30 [.x (ah s0)]<|J QZ (g 30 35 [.call (mR (some e)) O1]<|J QZ (Ws (g 8 9 []<|J UB (Wc<|Jr<|(Wk ?_)))))))))) (noF SI)
        refine Ws<|g 35 40 []<|J UC<|Wc<|Jf<|Wk<|Ws<|g 63 80 (RL 7 BF (RL 18 BT []))<|J QZ<|Wc<|Kr (g 40 62 []<|J QZ (RT ?_))
        rw[eP h hl3 hc hs (ut hr hk (fun q=>hlt q.2))];rfl
      ·conv=>whnf
       refine g 0 0 []<|J UA<|Ws<|Wc<|J (fun _=>(Wk (Ws (Wb (g 27 30 [.x (ah s0)]<|J QZ (g 30 35 [.call (mR (some e)) O1]<|J QZ (Ws (g 8 9 []<|J UB (Wc<|Jr<|(Wk ?_)))))))))) (noF SI)
       refine Ws<|g 35 40 []<|J UC<|Wc<|Jf<|Wk<|Ws<|g 63 80 (RL 25 BT [])<|J QZ<|Wc<|Kr (g 40 62 []<|J QZ (RT ?_))
       rw[eP h hl3 hc hs (ut hr hk (fun q=>heq q.1))];rfl
   ·conv=>whnf
    refine g 0 0 []<|J UA<|Ws<|Wc<|J (noT SI) fun _=>We<|g 5 92 []<|J QZ<|RT ?_
    rw[BI h hl3 hc OM]
  ·refine lR ?_
   conv=>whnf
   refine g 0 0 []<|J QZ<|Ws<|g 13 18 [.call (V.i 0) O1,BF,BF,BF,BF]<|J QZ<|Wc<|JD (fun h1=>?_) fun h1=>?_
   simp only[LM]at h1
   refine g 18 20 []<|J QZ<|RT ?_
   rotate_left
   simp only[LM]at h1
   omega
   rw[nP (fun q=>hl3 q.2)];rfl
 ·refine lR ?_
  conv=>whnf
  refine g 0 0 []<|J QZ<|Ws<|g 13 18 [.call (V.i (am p.tasks)) O1,BT,BT,BT,BT]<|J QZ<|Wc<|Kr (g 18 20 []<|J QZ (RT ?_))
  rw[nP (fun q=>h q.1)];rfl
theorem jd(p:Plan)(xs:List ByteArray)(hp:dD p)(hx:∀ s∈xs,s.size≤281474976710656)(hl:xs.length≤9223372036854775806):F lN [.val (cX p),.val (.t (pp xs))] (gT (ax p xs)) O2:=by
 have c1:=dr p hp
 by_cases h:am p.tasks = 0
 ·obtain⟨⟨hl1,hl2⟩,_⟩:=bX h
  rw[h]at c1
  by_cases hl3:xs.length≤310
  ·refine lP ?_
   conv=>whnf
   refine g 0 0 []<|J QZ<|Ws<|g 10 13 [.call (V.i 0) O1,BF,BF,BF,BF]<|J QZ<|Wc<|J (fun h1=>?_) fun h1=>?_
   replace h1:=dt h1
   simp only[LM]at h1
   omega
   replace h1:=df h1
   simp only[LM]at h1
   refine Wk<|g 14 20 []<|J QZ<|Ws<|g 0 0 []<|J UA<|Wb<|Wl (fun s (n:Nat)=>⟨(SK s [0,1,2,4,5] [(6,.i n),(13,s.s 13)]),[(2,[s.c 2 0]),(4,(CK s 4 0 3 [])),(5,[.t (.i 0),.t (.i 0),.own [false] ((List.replicate n emp).map ah)])],[]⟩) (fun(n:Nat)=>n≤p.tasks.length) (fun(n:Nat)=>p.tasks.length - n) (0) [some 2,some 4,some 5] [] FZ OM ?_
   intro n hn
   conv=>whnf
   refine Ws<|g 20 22 []<|J UE<|Wc<|JD (fun h2=>?_) fun h2=>?_
   simp only[LM]at h2
   refine Wk<|Ws<|Wb<|rg []<|J QZ<|rg [.i ((n:Int) +1)]<|J QZ ?_
   rotate_left
   simp only[LM]at h2
   refine We<|Ws<|g 23 25 []<|J UA<|Wb ?_
   rotate_left
   ·refine⟨n+1,[some 2,some 4,some 5],[],⟨rfl,FZ,⟨FZ,⟨FZ,⟨(R3 ⟨(congrArg (V.own _) (by rw[List.replicate_succ',List.map_append];rfl)),I⟩),I⟩⟩⟩,I⟩,?_,?_⟩
    rotate_left
    (dsimp only;omega)
    dsimp only
    omega
   rw[show n = p.tasks.length by omega]
   refine Wl (fun s (n:Nat)=>⟨(SK s [0,1,2,4,5] [(7,.i n),(13,s.s 13),(22,s.s 22)]),[(2,[s.c 2 0]),(4,(CK s 4 0 3 [])),(5,[.t (.i 0),.t (.i (cQ p.tasks xs n).epoch),.own [false] ((cQ p.tasks xs n).results.map ah)])],[]⟩) (fun(n:Nat)=>n≤xs.length∧nn p.tasks xs n∧0≤(cQ p.tasks xs n).epoch∧(cQ p.tasks xs n).epoch≤300) (fun(n:Nat)=>xs.length - n) (0) [some 2,some 4,some 5] [] FZ ?_ ?_
   ·rw[lm];exact⟨Nat.zero_le _,xG _ _,Int.le_refl _,by show(0:Int)≤300;omega⟩
   rintro n ⟨hn,hc,he0,he1⟩
   have hrl:=Ks hc
   by_cases hn2:n < xs.length
   ·obtain⟨s0,hs⟩:=ae hn2
    have hss:=hx s0 (List.mem_of_getElem? hs)
    have cr:=wt s0 hss
    cases hr:eZ s0 with
    |none =>
     rw[hr]at cr
     conv=>whnf
     refine Ws<|g 32 35 []<|J UD<|Wc<|J (fun _=>(Wk (Ws (Wb (g 35 46 [.x (ah s0),.call (mR none) O1]<|J QZ (Ws (g 9 10 []<|J UB (Wc<|Kr (g 46 49 []<|J QZ (RT ?_)))))))))) (noF SI)
     rw[eP h hl3 hc hs (FP hr)];rfl
    |some e =>
     rw[hr]at cr
     obtain⟨r1,r2,r3,r4⟩:=Kq (ts:=p.tasks) (kF hr)
     by_cases hk:e.kind = 1
     ·by_cases he:e.epoch = (cQ p.tasks xs n).epoch+1
      ·obtain⟨hc2,e1⟩:=pO hc hs (HW hr hk he)
       conv=>whnf
       refine Ws<|g 32 35 []<|J UD<|Wc<|J (fun _=>(Wk (Ws (Wb (g 35 46 [.x (ah s0),.call (mR (some e)) O1]<|J QZ (Ws (g 9 10 []<|J UB (Wc<|Jr<|(Wk (Ws ?_)))))))))) (noF SI)
       refine g 46 51 []<|J UC<|Wc<|Kt (Ws (g 51 57 [.i (Tale.epoch (cQ p.tasks xs n) +1)]<|J QZ (Wc<|Jn<|(Wk (g 57 62 []<|J UW (We (rg [.i ((n:Int) +1)]<|J QZ ?_)))))))
       refine⟨n+1,[some 2,some 4,some 5],[],⟨rfl,FZ,⟨FZ,⟨FZ,⟨(R2 ⟨(congrArg (fun z=>V.t (T.v (Value.int _ z))) (by rw[e1])),⟨(congrArg (V.own _) (by rw[e1])),I⟩⟩),I⟩⟩⟩,I⟩,?_,?_⟩
       rotate_left
       (dsimp only;omega)
       dsimp only
       exact⟨by omega,hc2,by rw[e1];dsimp only;omega,by rw[e1];dsimp only;omega⟩
      ·conv=>whnf
       refine Ws<|g 32 35 []<|J UD<|Wc<|J (fun _=>(Wk (Ws (Wb (g 35 46 [.x (ah s0),.call (mR (some e)) O1]<|J QZ (Ws (g 9 10 []<|J UB (Wc<|Jr<|(Wk (Ws ?_)))))))))) (noF SI)
       refine g 46 51 []<|J UC<|Wc<|Kt (Ws (g 51 57 [.i (Tale.epoch (cQ p.tasks xs n) +1)]<|J QZ (Wc<|Kn (g 57 59 []<|J QZ (RT ?_)))))
       rw[eP h hl3 hc hs (Bw hr hk he)];rfl
     ·by_cases heq:e.epoch = (cQ p.tasks xs n).epoch
      ·by_cases hlt:e.task < p.tasks.length
       ·obtain⟨t,ht⟩:=ae (xs:=p.tasks) (n:=e.task.toNat) OM
        obtain⟨y,hy⟩:=ae (xs:=(cQ p.tasks xs n).results) (n:=e.task.toNat) OM
        by_cases hye:y = emp
        ·obtain⟨_,_,a3,a4⟩:=cz h ht
         have cd:=jc p (cQ p.tasks xs n).results e.task r1 ht (fun d hd=>by have:=a4 d hd;omega) OM
         by_cases hrd:dj (cQ p.tasks xs n).results t.deps
         ·rw[decide_eq_true hrd]at cd
          obtain⟨hc2,e1⟩:=pO hc hs (CG hr hk heq hlt hy hye ht hrd)
          conv=>whnf
          refine Ws<|g 32 35 []<|J UD<|Wc<|J (fun _=>(Wk (Ws (Wb (g 35 46 [.x (ah s0),.call (mR (some e)) O1]<|J QZ (Ws (g 9 10 []<|J UB (Wc<|Jr<|(Wk (Ws ?_)))))))))) (noF SI)
          refine g 46 51 []<|J UC<|Wc<|Jf<|Wk<|Ws<|g 63 92 (RL 12 BF (.n (Int.toNat e.task)::BF::.x (ah y)::(RL 8 BF [.call VT O3,BF,BF])))<|J QZ<|Wc<|Jr<|Wk<|rg [.n (Int.toNat e.task),.x (ah y)]<|J QZ<|rg [.i ((n:Int) +1)]<|J QZ ?_
          refine⟨n+1,[some 2,some 4,some 5],[],⟨rfl,FZ,⟨FZ,⟨FZ,⟨(R2 ⟨(congrArg (fun z=>V.t (T.v (Value.int _ z))) (by rw[e1])),⟨(congrArg (V.own _) (by rw[e1,List.map_set];rfl)),I⟩⟩),I⟩⟩⟩,I⟩,?_,?_⟩
          rotate_left
          (dsimp only;omega)
          dsimp only
          exact⟨by omega,hc2,by rw[e1];dsimp only;omega,by rw[e1];dsimp only;omega⟩
         ·rw[decide_eq_false hrd]at cd
          conv=>whnf
          refine Ws<|g 32 35 []<|J UD<|Wc<|J (fun _=>(Wk (Ws (Wb (g 35 46 [.x (ah s0),.call (mR (some e)) O1]<|J QZ (Ws (g 9 10 []<|J UB (Wc<|Jr<|(Wk (Ws ?_)))))))))) (noF SI)
          refine g 46 51 []<|J UC<|Wc<|Jf<|Wk<|Ws<|g 63 92 (RL 12 BF (.n (Int.toNat e.task)::BF::.x (ah y)::(RL 8 BF [.call VF O3,BF,BF])))<|J QZ<|Wc<|Kr (g 92 94 []<|J QZ (RT ?_))
          rw[eP h hl3 hc hs (Ky hr hk ht hrd)];rfl
        ·conv=>whnf
         refine Ws<|g 32 35 []<|J UD<|Wc<|J (fun _=>(Wk (Ws (Wb (g 35 46 [.x (ah s0),.call (mR (some e)) O1]<|J QZ (Ws (g 9 10 []<|J UB (Wc<|Jr<|(Wk (Ws ?_)))))))))) (noF SI)
         refine g 46 51 []<|J UC<|Wc<|Jf<|Wk<|Ws<|g 63 92 (RL 12 BF (.n (Int.toNat e.task)::BF::.x (ah y)::BF::BF::(RL 8 BT [])))<|J QZ<|Wc<|Kr (g 92 94 []<|J QZ (RT ?_))
         rw[eP h hl3 hc hs (Kz hr hk hy hye)];rfl
       ·conv=>whnf
        refine Ws<|g 32 35 []<|J UD<|Wc<|J (fun _=>(Wk (Ws (Wb (g 35 46 [.x (ah s0),.call (mR (some e)) O1]<|J QZ (Ws (g 9 10 []<|J UB (Wc<|Jr<|(Wk (Ws ?_)))))))))) (noF SI)
        refine g 46 51 []<|J UC<|Wc<|Jf<|Wk<|Ws<|g 63 92 (RL 7 BF (RL 16 BT []))<|J QZ<|Wc<|Kr (g 92 94 []<|J QZ (RT ?_))
        rw[eP h hl3 hc hs (ut hr hk (fun q=>hlt q.2))];rfl
      ·conv=>whnf
       refine Ws<|g 32 35 []<|J UD<|Wc<|J (fun _=>(Wk (Ws (Wb (g 35 46 [.x (ah s0),.call (mR (some e)) O1]<|J QZ (Ws (g 9 10 []<|J UB (Wc<|Jr<|(Wk (Ws ?_)))))))))) (noF SI)
       refine g 46 51 []<|J UC<|Wc<|Jf<|Wk<|Ws<|g 63 92 (RL 23 BT [])<|J QZ<|Wc<|Kr (g 92 94 []<|J QZ (RT ?_))
       rw[eP h hl3 hc hs (ut hr hk (fun q=>heq q.1))];rfl
   ·conv=>whnf
    refine Ws<|g 32 35 []<|J UD<|Wc<|J (noT SI) fun _=>We<|g 5 102 []<|J QZ<|RT ?_
    rw[BI h hl3 hc OM]
  ·refine lP ?_
   conv=>whnf
   refine g 0 0 []<|J QZ<|Ws<|g 10 13 [.call (V.i 0) O1,BF,BF,BF,BF]<|J QZ<|Wc<|JD (fun h1=>?_) fun h1=>?_
   simp only[LM]at h1
   refine g 14 19 []<|J QZ<|RT ?_
   rotate_left
   simp only[LM]at h1
   omega
   rw[nP (fun q=>hl3 q.2)];rfl
 ·refine lP ?_
  conv=>whnf
  refine g 0 0 []<|J QZ<|Ws<|g 10 13 [.call (V.i (am p.tasks)) O1,BT,BT,BT,BT]<|J QZ<|Wc<|Kr (g 14 19 []<|J QZ (RT ?_))
  rw[nP (fun q=>h q.1)];rfl
end Go.K
end
section
open Go Go.Tm Go.Proofs
namespace Go.K
abbrev u8s(l:List Int):T:=.slc [false] (l.map b1T)
theorem yq:XT 28 14 Tryz.f28 [(2,52,true),(3,3,false)]:=@xM _ _ _ _ Tryz.func28 rfl rfl rfl KR KR
theorem jR:XT 61 48 Tryz.f61 [(2,52,true)]:=@xM _ _ _ _ Tryz.func61 rfl rfl rfl KR KR
theorem bi:XT 62 50 Tryz.f62 [(2,55,true)]:=@xM _ _ _ _ Tryz.func62 rfl rfl rfl KR KR
theorem mf:XT 63 99 Tryz.f63 [(4,3,false)]:=@xM _ _ _ _ Tryz.func63 rfl rfl rfl KR KR
theorem fv:XT 158 141 Tryz.f158 [(2,52,true)]:=@xM _ _ _ _ Tryz.func158 rfl rfl rfl KR KR
theorem me:XT 159 40 Tryz.f159 [(2,52,true)]:=@xM _ _ _ _ Tryz.func159 rfl rfl rfl KR KR
theorem dx:XT 160 82 Tryz.f160 [(4,52,true)]:=@xM _ _ _ _ Tryz.func160 rfl rfl rfl KR KR
theorem dN:XT 203 190 Tryz.f203 [(2,48,true),(3,42,true)]:=@xM _ _ _ _ Tryz.func203 rfl rfl rfl KR KR
theorem qm:XT 204 69 Tryz.f204 [(2,42,true)]:=@xM _ _ _ _ Tryz.func204 rfl rfl rfl KR KR
theorem Ac:XT 206 198 Tryz.f206 [(4,48,true)]:=@xM _ _ _ _ Tryz.func206 rfl rfl rfl KR KR
theorem aQ:XT 207 83 Tryz.f207 [(4,109,true)]:=@xM _ _ _ _ Tryz.func207 rfl rfl rfl KR KR
theorem dy:XT 208 140 Tryz.f208 [(4,42,true)]:=@xM _ _ _ _ Tryz.func208 rfl rfl rfl KR KR
theorem C5:XT 209 20 Tryz.f209 [(4,9,false)]:=@xM _ _ _ _ Tryz.func209 rfl rfl rfl KR KR
theorem C4:XT 210 41 Tryz.f210 [(2,50,false)]:=@xM _ _ _ _ Tryz.func210 rfl rfl rfl KR KR
theorem ql:XT 221 23 Tryz.f221 [(2,120,true)]:=@xM _ _ _ _ Tryz.func221 rfl rfl rfl KR KR
theorem gu:XT 222 65 Tryz.f222 [(2,75,true)]:=@xM _ _ _ _ Tryz.func222 rfl rfl rfl KR KR
abbrev rdC(l:List Int)(pos:Int):List V:=[.t (u8s l),.t (.i pos)]
def dM(l:List Int):Prop:=l.length≤2000∧∀ x∈l,0≤x∧x≤255
theorem EN(l:List Int)(h:l.length≤1099511627776):F Dw [.val (.t (u8s l))] (.tup [.tup (rdC (l.take 2000) 0)]) O1:=by
 refine Eb ?_
 conv=>whnf
 refine g 0 0 []<|J UA<|Ws<|g 3 5 []<|J UC<|Wc<|JD (fun h1=>?_) fun h1=>?_
 simp only[LM]at h1
 refine rg [.n (2000)]<|J QZ<|g 5 11 []<|J QZ<|RT ?_
 rotate_left
 simp only[LM]at h1
 refine Wk<|g 5 11 []<|J QZ<|RT ?_
 rotate_left
 ·rw[List.drop_zero,←List.map_take]
 ·rw[List.take_of_length_le OM]
theorem ul{x n:Int}(hx:0≤x)(hn:0 < n):0≤x.tmod n∧x.tmod n < n:=⟨Int.tmod_nonneg _ hx,Int.tmod_lt_of_pos _ hn⟩
theorem CE{x n:Int}(hx:0≤x)(hn:0 < n):0≤x.tdiv n∧x.tdiv n≤x:=by
 rw[Int.tdiv_eq_ediv_of_nonneg hx]
 exact⟨Int.ediv_nonneg hx OM,Int.ediv_le_self _ hx⟩
theorem Xr{x y:Int}(hx:0≤x)(hx2:x < 1099511627776)(hy:0≤y)(hy2:y < 1099511627776):0≤IntKind.i64.wrap ↑(BitVec.ofInt IntKind.i64.bits x ^^^ BitVec.ofInt IntKind.i64.bits y).toNat:=by
 have e1:(BitVec.ofInt IntKind.i64.bits x).toNat = x.toNat:=by
  rw[BitVec.toNat_ofInt]
  show(x % ((2 ^ 64:Nat):Int)).toNat = _
  rw[Int.emod_eq_of_lt hx OM]
 have e2:(BitVec.ofInt IntKind.i64.bits y).toNat = y.toNat:=by
  rw[BitVec.toNat_ofInt]
  show(y % ((2 ^ 64:Nat):Int)).toNat = _
  rw[Int.emod_eq_of_lt hy OM]
 have h:x.toNat ^^^ y.toNat < 2 ^ 40:=Nat.xor_lt_two_pow OM OM
 rw[BitVec.toNat_xor,e1,e2]
 have:(2:Nat) ^ 40 = 1099511627776:=by decide
 rw[wO]
 omega
theorem XZ(l:List Int)(pos n:Int)(hl:dM l)(h0:0≤pos)(h1:pos≤1048576)(hn:n≤1048576):∃ res outs,(∃ v,res = .i v∧outs = [rdC l (pos+1),[]]∧0≤v∧(v < n∨v = 0))∧F fc [.ptr (rdC l pos),.val (.i n)] res outs:=by
 obtain⟨hl1,hl2⟩:=hl
 by_cases hz:l.length = 0
 ·refine mf ?_
  conv=>whnf
  refine g 0 0 []<|J UA<|g 7 15 [.i (pos+1)]<|J QZ<|Ws ?_
  by_cases h2:n < (1:Int)
  refine g 15 24 (RL 7 BT [])<|J QZ<|Wc<|Kr (g 24 25 []<|J UA (W.ret (EndsW.rt<|J UB ?_)))
  rotate_left
  refine g 15 24 (RL 7 BF [])<|J QZ<|Wc<|J (fun _=>(g 24 25 []<|J UA (W.ret (EndsW.rt<|J UB ?_)))) (noF SI)
  rotate_left
  all_goals exact⟨0,rfl,rfl,by omega,.inr rfl⟩
 ·have hp:(0:Int) < ((l.map b1T).length:Int):=by rw[List.length_map];omega
  have hlm:((l.map b1T).length:Int) = l.length:=by rw[List.length_map]
  obtain⟨m1,m2⟩:=ul (x:=pos+1 - 1) OM hp
  obtain⟨m3,m4⟩:=ul (x:=(pos+1 - 1) * 7+3) OM hp
  obtain⟨m5,m6⟩:=CE (x:=pos+1 - 1) OM hp
  rw[hlm]at m1 m2 m3 m4 m5 m6
  refine mf ?_
  conv=>whnf
  refine g 0 0 []<|J UA<|g 7 15 [.i (pos+1)]<|J QZ<|Ws ?_
  by_cases h2:n < (1:Int)
  refine g 15 24 (RL 7 BT [])<|J QZ<|Wc<|Kr (g 24 25 []<|J UA (W.ret (EndsW.rt<|J UB ?_)))
  rotate_left
  refine g 15 24 (RL 7 BF [])<|J QZ<|Wc<|Jf<|Wk<|g 24 30 [.i (pos+ (1:Int) - 1)]<|J QZ<|Ws<|g 30 36 []<|J UG<|Wc<|JD (fun h3=>?_) fun h3=>?_
  simp only[LM]at h3
  obtain⟨y1,hy1⟩:=ae (xs:=l) (n:=Int.toNat (pos+ (1:Int) - (1:Int))) OM
  have hm1:=hl2 y1 (List.mem_of_getElem? hy1)
  refine g 36 47 [.x (b1T y1),.i (y1),.i (Int.tmod y1 n)]<|J QZ<|W.ret<|EndsW.rt<|J UB ?_
  rotate_left
  simp only[LM]at h3
  refine Wk ?_
  obtain⟨y1,hy1⟩:=ae (xs:=l) (n:=Int.toNat (Int.tmod (pos+ (1:Int) - (1:Int)) (↑(List.length (List.map b1T l)):Int))) (by simp only[LM]at *;omega)
  have hm1:=hl2 y1 (List.mem_of_getElem? hy1)
  obtain⟨y2,hy2⟩:=ae (xs:=l) (n:=Int.toNat (Int.tmod ((pos+ (1:Int) - (1:Int)) * (7:Int) + (3:Int)) (↑(List.length (List.map b1T l)):Int))) (by simp only[LM]at *;omega)
  have hm2:=hl2 y2 (List.mem_of_getElem? hy2)
  refine gd 36 92 [[],[],[],[],[],[],[],[],[],[],[.i (Int.tmod (pos+ (1:Int) - 1) (↑(List.length (List.map b1T l)):Int))],[.x (b1T y1)],[],[.i (y1)],[.i (y1 * 131)],[],[],[],[],[],[.i ((pos+ (1:Int) - 1) * 7)],[.i ((pos+ (1:Int) - 1) * 7+3)],[],[],[],[],[],[.i (Int.tmod ((pos+ (1:Int) - 1) * 7+3) (↑(List.length (List.map b1T l)):Int))],[.x (b1T y2)],[],[.i (y2)],[.i (y2 * 1117)],[.i (y1 * 131+y2 * 1117)],[],[.i ((pos+ (1:Int) - 1) * 29)],[.i (y1 * 131+y2 * 1117+ (pos+ (1:Int) - 1) * 29)],[],[],[],[],[],[],[.i (Int.tdiv (pos+ (1:Int) - 1) (↑(List.length (List.map b1T l)):Int))],[.i (Int.tdiv (pos+ (1:Int) - 1) (↑(List.length (List.map b1T l)):Int) * 53)],[.i (y1 * 131+y2 * 1117+ (pos+ (1:Int) - 1) * 29+Int.tdiv (pos+ (1:Int) - 1) (↑(List.length (List.map b1T l)):Int) * 53)],[]] ?_
  conv=>whnf
  refine J QZ<|J KR<|g 92 96 [.i (IntKind.wrap IntKind.i64 (Int.tdiv (y1 * 131+y2 * 1117+ (pos+ (1:Int) - 1) * 29+Int.tdiv (pos+ (1:Int) - 1) (↑(List.length (List.map b1T l)):Int) * 53) 64)),.i (IntKind.wrap IntKind.i64 (↑(BitVec.toNat (BitVec.ofInt (IntKind.bits IntKind.i64) (y1 * 131+y2 * 1117+ (pos+ (1:Int) - 1) * 29+Int.tdiv (pos+ (1:Int) - 1) (↑(List.length (List.map b1T l)):Int) * 53) ^^^ BitVec.ofInt (IntKind.bits IntKind.i64) (IntKind.wrap IntKind.i64 (Int.tdiv (y1 * 131+y2 * 1117+ (pos+ (1:Int) - 1) * 29+Int.tdiv (pos+ (1:Int) - 1) (↑(List.length (List.map b1T l)):Int) * 53) 64)))):Int))]<|J QZ<|g 5 99 [.i (Int.tmod (IntKind.wrap IntKind.i64 (↑(BitVec.toNat (BitVec.ofInt (IntKind.bits IntKind.i64) (y1 * 131+y2 * 1117+ (pos+ (1:Int) - 1) * 29+Int.tdiv (pos+ (1:Int) - 1) (↑(List.length (List.map b1T l)):Int) * 53) ^^^ BitVec.ofInt (IntKind.bits IntKind.i64) (IntKind.wrap IntKind.i64 (Int.tdiv (y1 * 131+y2 * 1117+ (pos+ (1:Int) - 1) * 29+Int.tdiv (pos+ (1:Int) - 1) (↑(List.length (List.map b1T l)):Int) * 53) 64)))):Int)) n)]<|J QZ<|W.ret<|EndsW.rt<|J UB ?_
  rotate_left
  ·exact⟨0,rfl,rfl,by omega,.inr rfl⟩
  ·obtain⟨k1,k2⟩:=ul (x:=y1) (n:=n) OM OM
   exact⟨_,rfl,rfl,k1,.inl k2⟩
  ·obtain⟨q5,q6⟩:=CE (x:=pos+1 - 1) OM hp
   have hX:0≤y1 * 131+y2 * 1117+ (pos+1 - 1) * 29+ (pos+1 - 1).tdiv ↑(l.map b1T).length * 53∧y1 * 131+y2 * 1117+ (pos+1 - 1) * 29+ (pos+1 - 1).tdiv ↑(l.map b1T).length * 53 < 1099511627776:=by omega
   obtain⟨q7,q8⟩:=CE (n:=64) hX.1 OM
   obtain⟨k1,k2⟩:=ul (n:=n) (Xr hX.1 hX.2 (y:=IntKind.i64.wrap ((y1 * 131+y2 * 1117+ (pos+1 - 1) * 29+ (pos+1 - 1).tdiv ↑(l.map b1T).length * 53).tdiv 64)) (by rw[wO];omega) (by rw[wO];omega)) OM
   exact⟨_,rfl,rfl,k1,.inl k2⟩
theorem CV(l:List Int)(pos n:Int)(h:dM l∧0≤pos∧pos≤1048576∧n≤1048576):∃ v,F fc [.ptr (rdC l pos),.val (.i n)] (.i v) [rdC l (pos+1),[]]∧0≤v∧(v < n∨v = 0):=by
 obtain⟨res,outs,⟨v,rfl,rfl,h0⟩,hF⟩:=XZ l pos n h.1 h.2.1 h.2.2.1 h.2.2.2
 exact⟨v,hF,h0⟩
open Classical in
noncomputable def ac(l:List Int)(pos n:Int):Int:=if h:dM l∧0≤pos∧pos≤1048576∧n≤1048576 then(CV l pos n h).choose else 0
theorem aa(l:List Int)(pos n:Int)(hl:dM l)(h0:0≤pos)(h1:pos≤1048576)(hn:n≤1048576):F fc [.ptr (rdC l pos),.val (.i n)] (.i (ac l pos n)) [rdC l (pos+1),[]]:=by
 have h:dM l∧0≤pos∧pos≤1048576∧n≤1048576:=⟨hl,h0,h1,hn⟩
 rw[ac,dif_pos h]
 exact(CV l pos n h).choose_spec.1
theorem ak(l:List Int)(pos n:Int):0≤ac l pos n∧(ac l pos n < n∨ac l pos n = 0):=by
 unfold ac
 split
 ·rename_i h;exact(CV l pos n h).choose_spec.2
 ·exact⟨Int.le_refl _,.inr rfl⟩
end Go.K
end
section
open Go Go.Tm Go.Proofs
namespace Go.K
structure Message where
 kind:Int
 frm:Int
 to:Int
 epoch:Int
 lease:Int
 task:Int
 text:ByteArray
 inputs:List ByteArray
 deriving DecidableEq
abbrev aL(x:Message):List T:=[.i x.kind,.i x.frm,.i x.to,.i x.epoch,.i x.lease,.i x.task,.s x.text,.slc [false] (x.inputs.map ah)]
abbrev fb(x:Message):V:=.agg [.t (.i x.kind),.t (.i x.frm),.t (.i x.to),.t (.i x.epoch),.t (.i x.lease),.t (.i x.task),.t (.s x.text),.t (.slc [false] (x.inputs.map ah))]
abbrev bC(x:Message):V:=.agg [.t (.i x.kind),.t (.i x.frm),.t (.i x.to),.t (.i x.epoch),.t (.i x.lease),.t (.i x.task),.t (.s x.text),.own [false] (x.inputs.map ah)]
abbrev cU:List Bool:=[false,false,false,false,false,false,false,true]
abbrev Qi:Message:=⟨0,0,0,0,0,0,emp,[]⟩
def qp(s:ByteArray):ByteArray:=bl (beL (gQ h0v s) 8)
theorem ef(s:ByteArray):(qp s).size = 8:=by unfold qp;rw[gZ,rk]
def nul:ByteArray:=⟨#[0]⟩
def fS(body key:ByteArray):ByteArray:=qp (key++nul++body)
theorem S6(body key:ByteArray):bl (beL (gQ (gQ (gQ h0v key) nul) body) 8) = fS body key:=by unfold fS qp;rw[uL,uL]
theorem Lm(v:Int)(s:ByteArray)(h:0≤v∧v≤18446744073709551615):0≤gQ v s∧gQ v s≤18446744073709551615:=Cd _ _ h
theorem pj(body key:ByteArray)(h1:body.size≤9223372036854775807)(h2:key.size≤9223372036854775807):F Jw [.val (.s body),.val (.s key)] (.s (fS body key)) O2:=by
 have hb:=Lm (gQ (gQ h0v key) nul) body (Lm _ _ (OT key))
 have e1:=ik h0v key
 have e2:=ik (gQ h0v key) nul
 have e3:=ik (gQ (gQ h0v key) nul) body
 have c1:=dE h0v key h2
 rw[e1]at c1
 have c2:=dE (gQ h0v key) nul (by decide)
 rw[e2]at c2
 have c3:=dE (gQ (gQ h0v key) nul) body h1
 rw[e3]at c3
 have c4:=mI (gQ (gQ (gQ h0v key) nul) body) hb.1 hb.2
 rw[S6]at c4
 refine JO ?_
 conv=>whnf
 refine g 0 0 []<|J UA<|g 0 0 []<|J UV<|g 6 8 [.call (V.tup []) ([[u8v (gQ h0v key)],[]])]<|J QZ<|g 1 2 [.call (V.tup []) ([[u8v (gQ (gQ h0v key) nul)],[]])]<|J QZ<|g 0 1 [.call (V.tup []) ([[u8v (gQ (gQ (gQ h0v key) nul) body)],[]])]<|J QZ<|g 10 13 [.call (V.s (fS body key)) O1]<|J QZ<|RT ?_
 rfl
def bN(m:Message):Prop:=(1≤m.epoch∧m.epoch≤300)∧
 ((m.kind = 1∧m.frm = 0∧(1≤m.to∧m.to≤8)∧(1≤m.lease∧m.lease≤300000000)∧(0≤m.task∧m.task≤39)∧m.text = emp∧fm m.inputs)∨
  (m.kind = 2∧m.to = 0∧(1≤m.frm∧m.frm≤8)∧(1≤m.lease∧m.lease≤300000000)∧m.task = 0∧m.text = emp∧(m.inputs.length:Int) = 0)∨
  (m.kind = 3∧m.to = 0∧(1≤m.frm∧m.frm≤8)∧(1≤m.lease∧m.lease≤300000000)∧(0≤m.task∧m.task≤39)∧(m.text.size:Int) = 8∧(m.inputs.length:Int) = 0)∨
  (m.kind = 4∧m.frm = 0∧(1≤m.to∧m.to≤8)∧(1≤m.lease∧m.lease≤300000000)∧m.task = 0∧m.text = emp∧(m.inputs.length:Int) = 0)∨
  (m.kind = 5∧m.to = 0∧(1≤m.frm∧m.frm≤8)∧m.lease = 0∧m.task = 0∧m.text = emp∧(m.inputs.length:Int) = 0))
instance (m:Message):Decidable (bN m):=by unfold bN;infer_instance
theorem cR(m:Message)(hl:m.inputs.length≤9223372036854775806):F oz [.val (fb m)] (.b (decide (bN m))) O1:=by
 refine oD ?_
 conv=>whnf
 refine g 0 1 []<|J QZ<|g 0 0 []<|J UE<|Ws<|g 0 0 []<|J UB<|Wb<|g 13 14 []<|J UB<|Wc<|JD (fun h1=>?_) fun h1=>?_
 refine rg []<|J UD<|gd 11 26 [[],[],[],[],[],[]] ?_
 conv=>whnf
 refine J UF<|J KR<|Ws<|g 0 0 []<|J UA<|Wc<|Kr (rgd [[],[],[],[],[],[]] ?_)
 conv=>whnf
 refine⟨UF,by kernel_rfl,?_⟩
 refine Ws ?_
 by_cases h2:Message.frm m = (0:Int)
 by_cases h3:(1:Int)≤Message.to m∧Message.to m≤(8:Int)
 refine g 26 43 [BF,BF,.call (V.b (decide (1≤m.to∧m.to≤8))) O3,BF,BF,BF,BF,BF,.call (V.b (decide (1≤m.epoch∧m.epoch≤300))) O3,BF,BF]<|J (QA @ai)<|Wc<|JN (fun h4=>?_) fun h4=>?_
 refine g 8 9 []<|J UA<|RT ?_
 rotate_left
 refine Wk<|Ws ?_
 by_cases h5:(1:Int)≤Message.lease m∧Message.lease m≤(300000000:Int)
 refine g 43 59 (BT::BT::BT::.call (V.b (decide (1≤m.lease∧m.lease≤300000000))) O3::BT::BT::(RL 9 BF []))<|J (QA @ai)<|Wc<|Jr<|Wk<|Ws ?_
 by_cases h6:(0:Int)≤Message.task m∧Message.task m≤(39:Int)
 refine g 59 75 (BT::BT::BT::.call (V.b (decide (0≤m.task∧m.task≤39))) O3::BT::BT::(RL 9 BF []))<|J (QA @ai)<|Wc<|Jr<|Wk<|Ws<|g 10 91 (RL 8 BF [BT,BT,BT,BF,BT,BF])<|J QZ<|Wc<|JN (fun h7=>?_) fun h7=>?_
 refine g 7 9 []<|J UA<|RT ?_
 rotate_left
 refine Wk ?_
 by_cases h8:fm (Message.inputs m)
 refine g 5 108 [BT,BT,BT,.call (V.b (decide (fm m.inputs))) O1,BT,BT,BT,BT,BF,BF,BF,BF,BT,BT]<|J (QA @je)<|RT ?_
 rotate_left
 refine g 5 108 (BT::BT::BT::.call (V.b (decide (fm m.inputs))) O1::BT::(RL 10 BF []))<|J (QA @je)<|RT ?_
 rotate_left
 refine g 59 75 [BT,BT,BT,.call (V.b (decide (0≤m.task∧m.task≤39))) O3,BT,BT,BT,BT,BT,BF,BF,BF,BT,BT]<|J (QA @ai)<|Wc<|Kr (g 3 4 []<|J UA (RT ?_))
 rotate_left
 refine g 43 59 [BT,BT,BT,.call (V.b (decide (1≤m.lease∧m.lease≤300000000))) O3,BT,BT,BT,BT,BT,BF,BF,BF,BT,BT]<|J (QA @ai)<|Wc<|Kr (g 3 4 []<|J UA (RT ?_))
 rotate_left
 refine g 26 43 [BF,BF,.call (V.b (decide (1≤m.to∧m.to≤8))) O3,BF,BF,BT,BT,BT,BT,BT]<|J (QA @ai)<|Wc<|Kr (g 8 9 []<|J UA (RT ?_))
 rotate_left
 refine g 26 43 (RL 9 BT [])<|J QZ<|Wc<|Kr (g 8 9 []<|J UA (RT ?_))
 rotate_left
 refine g 12 13 []<|J UB<|Wc<|JD (fun h2=>?_) fun h2=>?_
 refine rg []<|J UA<|gd 11 26 [[],[],[],[],[],[]] ?_
 conv=>whnf
 refine J UF<|J KR<|Ws<|g 0 0 []<|J UA<|Wc<|Jr<|Wk<|Ws ?_
 by_cases h3:Message.to m = (0:Int)
 by_cases h4:(1:Int)≤Message.frm m∧Message.frm m≤(8:Int)
 refine g 26 43 [BF,BF,.call (V.b (decide (1≤m.frm∧m.frm≤8))) O3,BF,BF,BF,BF,BF,.call (V.b (decide (1≤m.epoch∧m.epoch≤300))) O3,BF,BF]<|J (QA @ai)<|Wc<|JN (fun h5=>?_) fun h5=>?_
 refine g 8 9 []<|J UA<|RT ?_
 rotate_left
 refine Wk<|Ws ?_
 by_cases h6:(1:Int)≤Message.lease m∧Message.lease m≤(300000000:Int)
 refine g 43 59 (BT::BT::BT::.call (V.b (decide (1≤m.lease∧m.lease≤300000000))) O3::BT::BT::(RL 9 BF []))<|J (QA @ai)<|Wc<|Jr<|Wk<|Ws<|g 59 75 (RL 8 BF [BT,BT,BT,BF,BT,BF])<|J QZ<|Wc<|JN (fun h7=>?_) fun h7=>?_
 refine g 3 4 []<|J UA<|RT ?_
 rotate_left
 refine Wk<|Ws<|g 10 91 (RL 8 BF [BT,BT,BT,BF,BT,BF])<|J QZ<|Wc<|JN (fun h8=>?_) fun h8=>?_
 refine g 7 9 []<|J UA<|RT ?_
 rotate_left
 refine Wk<|g 5 108 (RL 7 BF [BT,BT,BT,BT,BF,BT,BF])<|J QZ<|RT ?_
 rotate_left
 refine g 43 59 [BT,BT,BT,.call (V.b (decide (1≤m.lease∧m.lease≤300000000))) O3,BT,BT,BT,BT,BT,BF,BF,BF,BT,BT]<|J (QA @ai)<|Wc<|Kr (g 3 4 []<|J UA (RT ?_))
 rotate_left
 refine g 26 43 [BF,BF,.call (V.b (decide (1≤m.frm∧m.frm≤8))) O3,BF,BF,BT,BT,BT,BT,BT]<|J (QA @ai)<|Wc<|Kr (g 8 9 []<|J UA (RT ?_))
 rotate_left
 refine g 26 43 (RL 9 BT [])<|J QZ<|Wc<|Kr (g 8 9 []<|J UA (RT ?_))
 rotate_left
 refine g 14 16 []<|J UB<|Wc<|JD (fun h3=>?_) fun h3=>?_
 refine rg []<|J UC<|gd 11 26 [[],[],[],[],[],[]] ?_
 conv=>whnf
 refine J UF<|J KR<|Ws<|g 0 0 []<|J UA<|Wc<|Jr<|Wk<|Ws ?_
 by_cases h4:Message.to m = (0:Int)
 by_cases h5:(1:Int)≤Message.frm m∧Message.frm m≤(8:Int)
 refine g 26 43 [BF,BF,.call (V.b (decide (1≤m.frm∧m.frm≤8))) O3,BF,BF,BF,BF,BF,.call (V.b (decide (1≤m.epoch∧m.epoch≤300))) O3,BF,BF]<|J (QA @ai)<|Wc<|JN (fun h6=>?_) fun h6=>?_
 refine g 8 9 []<|J UA<|RT ?_
 rotate_left
 refine Wk<|Ws ?_
 by_cases h7:(1:Int)≤Message.lease m∧Message.lease m≤(300000000:Int)
 refine g 43 59 (BT::BT::BT::.call (V.b (decide (1≤m.lease∧m.lease≤300000000))) O3::BT::BT::(RL 9 BF []))<|J (QA @ai)<|Wc<|Jr<|Wk<|Ws ?_
 by_cases h8:(0:Int)≤Message.task m∧Message.task m≤(39:Int)
 refine g 59 75 (BT::BT::BT::.call (V.b (decide (0≤m.task∧m.task≤39))) O3::BT::BT::(RL 9 BF []))<|J (QA @ai)<|Wc<|Jr<|Wk<|Ws ?_
 by_cases h9:(↑(ByteArray.size (Message.text m)):Int) = (8:Int)
 refine g 10 91 (BT::BT::BT::BT::BT::(RL 9 BF []))<|J QZ<|Wc<|Jr<|Wk<|g 5 108 (RL 7 BF [BT,BT,BT,BT,BF,BT,BF])<|J QZ<|RT ?_
 rotate_left
 refine g 10 91 (RL 8 BT [BF,BF,BF,BT,BT])<|J QZ<|Wc<|Kr (g 7 9 []<|J UA (RT ?_))
 rotate_left
 refine g 59 75 [BT,BT,BT,.call (V.b (decide (0≤m.task∧m.task≤39))) O3,BT,BT,BT,BT,BT,BF,BF,BF,BT,BT]<|J (QA @ai)<|Wc<|Kr (g 3 4 []<|J UA (RT ?_))
 rotate_left
 refine g 43 59 [BT,BT,BT,.call (V.b (decide (1≤m.lease∧m.lease≤300000000))) O3,BT,BT,BT,BT,BT,BF,BF,BF,BT,BT]<|J (QA @ai)<|Wc<|Kr (g 3 4 []<|J UA (RT ?_))
 rotate_left
 refine g 26 43 [BF,BF,.call (V.b (decide (1≤m.frm∧m.frm≤8))) O3,BF,BF,BT,BT,BT,BT,BT]<|J (QA @ai)<|Wc<|Kr (g 8 9 []<|J UA (RT ?_))
 rotate_left
 refine g 26 43 (RL 9 BT [])<|J QZ<|Wc<|Kr (g 8 9 []<|J UA (RT ?_))
 rotate_left
 refine g 16 18 []<|J UB<|Wc<|JD (fun h4=>?_) fun h4=>?_
 refine rg []<|J UB<|gd 11 26 [[],[],[],[],[],[]] ?_
 conv=>whnf
 refine J UF<|J KR<|Ws<|g 0 0 []<|J UA<|Wc<|Kr (rgd [[],[],[],[],[],[]] ?_)
 conv=>whnf
 refine⟨UF,by kernel_rfl,?_⟩
 refine Ws ?_
 by_cases h5:Message.frm m = (0:Int)
 by_cases h6:(1:Int)≤Message.to m∧Message.to m≤(8:Int)
 refine g 26 43 [BF,BF,.call (V.b (decide (1≤m.to∧m.to≤8))) O3,BF,BF,BF,BF,BF,.call (V.b (decide (1≤m.epoch∧m.epoch≤300))) O3,BF,BF]<|J (QA @ai)<|Wc<|JN (fun h7=>?_) fun h7=>?_
 refine g 8 9 []<|J UA<|RT ?_
 rotate_left
 refine Wk<|Ws ?_
 by_cases h8:(1:Int)≤Message.lease m∧Message.lease m≤(300000000:Int)
 refine g 43 59 (BT::BT::BT::.call (V.b (decide (1≤m.lease∧m.lease≤300000000))) O3::BT::BT::(RL 9 BF []))<|J (QA @ai)<|Wc<|Jr<|Wk<|Ws<|g 59 75 (RL 8 BF [BT,BT,BT,BF,BT,BF])<|J QZ<|Wc<|JN (fun h9=>?_) fun h9=>?_
 refine g 3 4 []<|J UA<|RT ?_
 rotate_left
 refine Wk<|Ws<|g 10 91 (RL 8 BF [BT,BT,BT,BF,BT,BF])<|J QZ<|Wc<|JN (fun h10=>?_) fun h10=>?_
 refine g 7 9 []<|J UA<|RT ?_
 rotate_left
 refine Wk<|g 5 108 (RL 7 BF [BT,BT,BT,BT,BF,BT,BF])<|J QZ<|RT ?_
 rotate_left
 refine g 43 59 [BT,BT,BT,.call (V.b (decide (1≤m.lease∧m.lease≤300000000))) O3,BT,BT,BT,BT,BT,BF,BF,BF,BT,BT]<|J (QA @ai)<|Wc<|Kr (g 3 4 []<|J UA (RT ?_))
 rotate_left
 refine g 26 43 [BF,BF,.call (V.b (decide (1≤m.to∧m.to≤8))) O3,BF,BF,BT,BT,BT,BT,BT]<|J (QA @ai)<|Wc<|Kr (g 8 9 []<|J UA (RT ?_))
 rotate_left
 refine g 26 43 (RL 9 BT [])<|J QZ<|Wc<|Kr (g 8 9 []<|J UA (RT ?_))
 rotate_left
 refine g 11 20 []<|J UB<|Wc<|JD (fun h5=>?_) fun h5=>?_
 refine Wk<|gd 20 26 [[],[],[],[],[],[]] ?_
 conv=>whnf
 refine J UF<|J KR<|Ws<|g 0 0 []<|J UA<|Wc<|Jr<|Wk<|Ws ?_
 by_cases h6:Message.to m = (0:Int)
 by_cases h7:(1:Int)≤Message.frm m∧Message.frm m≤(8:Int)
 refine g 26 43 [BF,BF,.call (V.b (decide (1≤m.frm∧m.frm≤8))) O3,BF,BF,BF,BF,BF,.call (V.b (decide (1≤m.epoch∧m.epoch≤300))) O3,BF,BF]<|J (QA @ai)<|Wc<|JN (fun h8=>?_) fun h8=>?_
 refine g 8 9 []<|J UA<|RT ?_
 rotate_left
 refine Wk<|Ws<|g 43 59 (RL 8 BF [BT,BT,BT,BF,BT,BF])<|J QZ<|Wc<|JN (fun h9=>?_) fun h9=>?_
 refine g 3 4 []<|J UA<|RT ?_
 rotate_left
 refine Wk<|Ws<|g 59 75 (RL 8 BF [BT,BT,BT,BF,BT,BF])<|J QZ<|Wc<|JN (fun h10=>?_) fun h10=>?_
 refine g 3 4 []<|J UA<|RT ?_
 rotate_left
 refine Wk<|Ws<|g 10 91 (RL 8 BF [BT,BT,BT,BF,BT,BF])<|J QZ<|Wc<|JN (fun h11=>?_) fun h11=>?_
 refine g 7 9 []<|J UA<|RT ?_
 rotate_left
 refine Wk<|g 5 108 (RL 7 BF [BT,BT,BT,BT,BF,BT,BF])<|J QZ<|RT ?_
 rotate_left
 refine g 26 43 [BF,BF,.call (V.b (decide (1≤m.frm∧m.frm≤8))) O3,BF,BF,BT,BT,BT,BT,BT]<|J (QA @ai)<|Wc<|Kr (g 8 9 []<|J UA (RT ?_))
 rotate_left
 refine g 26 43 (RL 9 BT [])<|J QZ<|Wc<|Kr (g 8 9 []<|J UA (RT ?_))
 rotate_left
 refine g 20 22 []<|J UA<|RT ?_
 rotate_left
 all_goals (try simp only[List.length_map,decide_eq_true_eq,Bool.not_eq_true,Bool.not_eq_true',decide_eq_false_iff_not]at *)
 all_goals first
  |exact vbf (by unfold bN;grind)
  |exact vbt (by unfold bN;grind)
  |exact vbd (by unfold bN;grind)
theorem tup5{a b c d e a' b' c' d' e':Bool}(h1:a = a')(h2:b = b')(h3:c = c')(h4:d = d')(h5:e = e'):V.tup [V.t (T.v (Value.bool a)),V.t (T.v (Value.bool b)),V.t (T.v (Value.bool c)),V.t (T.v (Value.bool d)),V.t (T.v (Value.bool e))] = V.tup [.b a',.b b',.b c',.b d',.b e']:=by subst h1;subst h2;subst h3;subst h4;subst h5;rfl
theorem rb(k:Int):F Dt [.val (.i k)] (.tup [.b (decide (1≤k∧k≤4)),.b (decide (k = 1∨k = 3)),.b (decide (k = 3)),.b (decide (k = 1)),.b (decide (k = 1∨k = 4))]) O1:=by
 refine D8 ?_
 conv=>whnf
 refine g 0 0 []<|J UE<|Ws<|g 0 1 []<|J UA<|Wb<|g 9 10 []<|J UB<|Wc<|JD (fun h1=>?_) fun h1=>?_
 refine g 7 9 []<|J UE<|RT ?_
 rotate_left
 refine g 8 9 []<|J UB<|Wc<|JD (fun h2=>?_) fun h2=>?_
 refine g 7 12 []<|J UE<|RT ?_
 rotate_left
 refine g 10 12 []<|J UB<|Wc<|JD (fun h3=>?_) fun h3=>?_
 refine g 7 14 []<|J UE<|RT ?_
 rotate_left
 refine g 7 14 []<|J UB<|Wc<|JD (fun h4=>?_) fun h4=>?_
 refine g 14 16 []<|J UE<|RT ?_
 rotate_left
 refine Wk<|g 14 16 []<|J UE<|RT ?_
 rotate_left
 all_goals exact tup5 (by grind) (by grind) (by grind) (by grind) (by grind)
end Go.K
end
section
open Go Go.Tm Go.Proofs
namespace Go.K
def dl(p:Plan):Prop:=p.tasks.length≤64∧∀ t∈p.tasks,t.name.size≤64∧t.deps.length≤64
def dS(n:Int):ByteArray:=if n < 10 then bl [48+n]else bl [48+n.tdiv 10] ++bl [48+n.tmod 10]
theorem fK(n:Int):(dS n).size≤2:=by
 unfold dS;split
 ·rw[gZ];simp
 ·rw[ByteArray.size_append,gZ,gZ];simp
theorem XC{n:Int}(h:0≤n):n.tdiv 10 = n / 10:=Int.tdiv_eq_ediv_of_nonneg h
theorem XB{n:Int}(h:0≤n):n.tmod 10 = n % 10:=Int.tmod_eq_emod_of_nonneg h
theorem Wo(n:Int)(h0:0≤n)(h1:n < 10):F tN [.val (.i n)] (.s (dS n)) O1:=by
 have e:dS n = bl [48+n]:=if_pos h1
 refine tV ?_
 conv=>whnf
 refine g 0 0 []<|J UA<|Ws<|g 3 4 []<|J UB<|Wc<|Jf<|Wk<|Ws<|g 4 5 []<|J UB<|Wc<|Kt (g 10 16 [.i (48+n),.i (48+n),.s ({data:=List.toArray (bZ [[T.v (Value.int IntKind.u8 (48+n))]]):ByteArray})]<|J ⟨I,wO,wu8 OM OM,US,⟨I,(by repeat (first|exact kK|refine jg ?_)),rfl⟩,I,I⟩ ?_)
 refine RT ?_
 rw[e];exact vs (uT [48+n])
theorem gf(n:Int)(h0:0≤n)(h1:n < 100):F tN [.val (.i n)] (.s (dS n)) O1:=by
 by_cases h2:n < 10
 ·exact Wo n h0 h2
 ·have e:dS n = bl [48+n.tdiv 10] ++bl [48+n.tmod 10]:=if_neg h2
  have q1:=XC h0
  have q2:=XB h0
  have e2:dS (n.tdiv 10) = bl [48+n.tdiv 10]:=if_pos OM
  have c:=Wo (n.tdiv 10) OM OM
  have hsz:=fK (n.tdiv 10)
  refine tV ?_
  conv=>whnf
  refine g 0 0 []<|J UA<|Ws<|g 3 4 []<|J UB<|Wc<|Jf<|Wk<|Ws<|g 4 5 []<|J UB<|Wc<|Jf<|Wk<|gd 10 26 [[],[.i (Int.tdiv n 10)],[.call (V.s (dS (Int.tdiv n 10))) O1],[],[.i (Int.tmod n 10)],[.i (48+Int.tmod n 10)],[.i (48+Int.tmod n 10)],[],[.s ({data:=List.toArray (bZ [[T.v (Value.int IntKind.u8 (48+Int.tmod n 10))]]):ByteArray})],[.s (dS (Int.tdiv n 10) ++ {data:=List.toArray (bZ [[T.v (Value.int IntKind.u8 (48+Int.tmod n 10))]]):ByteArray})],[]] ?_
  conv=>whnf
  refine J ⟨I,⟨OM,wO⟩,Zan,I,⟨OM,rfl⟩,wO,wu8 OM OM,US,⟨I,(by repeat (first|exact kK|refine jg ?_)),rfl⟩,⟨rfl,(by simp only[bsz,ByteArray.size_append,ka];omega)⟩,I,I⟩<|J KR ?_
  refine RT ?_
  rw[e,e2];exact vs (congrArg (bl [48+n.tdiv 10] ++·) (uT [48+n.tmod 10]))
theorem dZ(l:List Int)(pos:Int)(hl:dM l)(h0:0≤pos)(h1:pos≤1048576):F Al [.ptr (rdC l pos)] (.s (qp (dS (ac l pos 50)))) [rdC l (pos+1)]:=by
 have hp:=ak l pos 50
 have c:=aa l pos 50 hl h0 h1 OM
 have cd:=gf (ac l pos 50) OM OM
 have hs:=fK (ac l pos 50)
 have cs:=nG (dS (ac l pos 50)) OM
 refine AE ?_
 conv=>whnf
 refine g 0 0 []<|J UA<|g 3 7 [.call (V.i (ac l pos 50)) ([rdC l (pos+1),[]]),.call (V.s (dS (ac l pos 50))) O1,.call (V.s (bl (beL (n5 h0v (dS (ac l pos 50)) (ByteArray.size (dS (ac l pos 50)))) 8))) O1]<|J QZ<|RT ?_
 rw[ik];rfl
theorem lX(p:Plan)(h:dl p):F Dv [.val (cX p)] (eH p) O1:=by
 obtain⟨hp1,hp2⟩:=h
 refine Ea ?_
 conv=>whnf
 refine g 0 0 []<|J QZ<|g 6 7 []<|J QZ<|Ws<|g 0 0 []<|J UA<|Wb<|Wl (fun s (n:Nat)=>⟨(SK s [0,1,2,3] [(4,.i n)]),[(1,[s.c 1 0]),(2,[s.c 2 0]),(3,[.own cI ((p.tasks.take n).map ay)])],[]⟩) (fun(n:Nat)=>n≤p.tasks.length) (fun(n:Nat)=>p.tasks.length - n) (0) [some 1,some 2,some 3] [] FZ OM ?_
 intro n hn
 conv=>whnf
 refine Ws<|g 7 11 []<|J UE<|Wc<|JD (fun h1=>?_) fun h1=>?_
 simp only[LM]at h1
 refine Wk<|Ws<|Wb ?_
 obtain⟨y1,hy1⟩:=ae (xs:=Plan.tasks p) (n:=n) OM
 have hm1:=hp2 y1 (List.mem_of_getElem? hy1)
 refine g 11 19 [.x (ay y1)]<|J QZ<|rgd [[],[],[],[],[],[],[],[],[],[],[],[],[],[],[]] ?_
 conv=>whnf
 refine J QZ<|J KR<|rg [.i ((n:Int) +1)]<|J QZ ?_
 rotate_left
 simp only[LM]at h1
 refine We<|g 3 34 []<|J UV<|RT ?_
 rotate_left
 ·refine⟨n+1,[some 1,some 2,some 3],[],⟨rfl,FZ,⟨FZ,⟨FZ,⟨⟨rfl,⟨(congrArg (V.own _) (pR AS)),I⟩⟩,I⟩⟩⟩,I⟩,?_,?_⟩
  rotate_left
  (dsimp only;omega)
  dsimp only
  omega
 ·rw[aI OM]
theorem Qs{m t:Int}(h:0≤m):(m / 2) * (t+t) = m * t - (m % 2) * t:=by
 have e:m * t = (2 * (m / 2) +m % 2) * t:=by rw[show 2 * (m / 2) +m % 2 = m by omega]
 rw[e,Int.add_mul,Int.mul_add,Int.mul_assoc,Int.two_mul];omega
def HY(s:ByteArray):Nat→ByteArray
 |0=>emp
 |n+1=>s++HY s n
theorem X4(s:ByteArray):emp++s = s:=by
 apply ByteArray.ext;simp[ByteArray.data_append,show emp.data = #[]from rfl]
theorem CI(s:ByteArray):∀ n,HY (s++s) n = HY s (2 * n)
 |0=>rfl
 |n+1=>by
  rw[show 2 * (n+1) = 2 * n+1+1 by omega]
  show(s++s) ++HY (s++s) n = s++ (s++HY s (2 * n))
  rw[CI s n,ByteArray.append_assoc]
theorem X1(s:ByteArray)(n:Int)(h0:0≤n)(h1:n≤1000)(hns:n * (s.size:Int)≤4096):∃ res outs,(∃ t,res = .s t∧outs = O2∧(t.size:Int)≤4096∧t = HY s n.toNat)∧F iU [.val (.s s),.val (.i n)] res outs:=by
 refine C5 ?_
 conv=>whnf
 refine g 0 0 []<|J UA<|g 0 0 []<|J UA<|Ws<|Wb ?_
 refine Wl (fun s (x:ByteArray×ByteArray×Int)=>⟨[(0,.s x.2.1),(1,.i x.2.2),(4,s.s 4),(5,.s x.1)],[],[]⟩) (fun(x:ByteArray×ByteArray×Int)=>0≤x.2.2∧x.2.2≤1000∧(x.1.size:Int) +x.2.2 * x.2.1.size≤4096∧x.1++HY x.2.1 x.2.2.toNat = HY s n.toNat) (fun(x:ByteArray×ByteArray×Int)=>x.2.2.toNat) ((emp,s,n)) [] [] FZ ?_ ?_
 ·refine⟨h0,h1,?_,X4 _⟩
  have:emp.size = 0:=rfl
  show((emp.size:Nat):Int) +n * s.size≤4096
  omega
 rintro⟨o,t,m⟩ ⟨hm0,hm1,hsz,hrp⟩
 dsimp only at hm0 hm1 hsz hrp
 have q1:m.tdiv 2 = m / 2:=Int.tdiv_eq_ediv_of_nonneg hm0
 have q2:m.tmod 2 = m % 2:=Int.tmod_eq_emod_of_nonneg hm0
 have q3:=Qs (t:=(t.size:Int)) hm0
 by_cases hm:0 < m
 ·have q4:=Int.mul_le_mul_of_nonneg_right (show 1≤m by omega) (show(0:Int)≤t.size by omega)
  rw[Int.one_mul]at q4
  by_cases ho:m.tmod 2 = 1
  ·have q5:m % 2 = 1:=by omega
   rw[q5,Int.one_mul]at q3
   conv=>whnf
   refine Ws<|g 6 7 []<|J UB<|Wc<|Kt (Wk (Wb (Ws (g 7 9 [.i (Int.tmod (Prod.snd (Prod.snd (o,t,m))) 2)]<|J QZ (Wc<|Kt (rg [.s (Prod.fst (o,t,m) ++Prod.fst (Prod.snd (o,t,m)))]<|J QZ (g 10 17 [.s (Prod.fst (Prod.snd (o,t,m)) ++Prod.fst (Prod.snd (o,t,m)))]<|J QZ (rg [.i (Int.tdiv (Prod.snd (Prod.snd (o,t,m))) 2)]<|J QZ ?_))))))))
   refine⟨(o++t,t++t,m / 2),[],[],⟨rfl,⟨rfl,(congrArg (fun z=>V.t (T.v (Value.int _ z))) (q1)),rfl,rfl,I⟩,I,I⟩,?_,?_⟩
   rotate_left
   (dsimp only;omega)
   dsimp only
   refine⟨by omega,by omega,?_,?_⟩
   ·rw[ByteArray.size_append,ByteArray.size_append,Int.natCast_add,Int.natCast_add,q3];omega
   ·rw[←hrp]
    rw[CI,ByteArray.append_assoc,show m.toNat = 2 * (m / 2).toNat+1 by omega];rfl
  ·have q5:m % 2 = 0:=by omega
   rw[q5,Int.zero_mul]at q3
   conv=>whnf
   refine Ws<|g 6 7 []<|J UB<|Wc<|Kt (Wk (Wb (Ws (g 7 9 [.i (Int.tmod (Prod.snd (Prod.snd (o,t,m))) 2)]<|J QZ (Wc<|Jf<|(Wk (g 10 17 [.s (Prod.fst (Prod.snd (o,t,m)) ++Prod.fst (Prod.snd (o,t,m)))]<|J QZ (rg [.i (Int.tdiv (Prod.snd (Prod.snd (o,t,m))) 2)]<|J QZ ?_))))))))
   refine⟨(o,t++t,m / 2),[],[],⟨rfl,⟨rfl,(congrArg (fun z=>V.t (T.v (Value.int _ z))) (q1)),rfl,rfl,I⟩,I,I⟩,?_,?_⟩
   rotate_left
   (dsimp only;omega)
   dsimp only
   refine⟨by omega,by omega,?_,?_⟩
   ·rw[ByteArray.size_append,Int.natCast_add,q3];omega
   ·rw[←hrp]
    rw[CI,show m.toNat = 2 * (m / 2).toNat by omega]
 ·conv=>whnf
  refine Ws<|g 6 7 []<|J UB<|Wc<|Jf<|We<|g 5 20 []<|J UB<|W.ret<|EndsW.rt<|J UB ?_
  rw[show m = 0 by omega,Int.zero_mul]at hsz
  exact⟨o,rfl,rfl,by omega,by
   rw[←hrp,show m.toNat = 0 by omega]
   apply ByteArray.ext;simp[HY,ByteArray.data_append,show emp.data = #[]from rfl]⟩
def t0B:ByteArray:=⟨#[116,48]⟩
def I2(ts:List Task):Prop:=(∀ t∈ts,t.name.size≤64∧t.deps.length≤64)∧∀ t,ts[0]? = some t→t.name = t0B
theorem dec0:(⟨#[116]⟩:ByteArray) ++dS 0 = t0B:=by decide+kernel
theorem kC{ts:List Task}{i:Nat}{c:Int}{ds:List Int}(hlen:ts.length = i)(h:I2 ts)(hd:ds.length≤64):I2 (ts++ [(⟨(⟨#[116]⟩:ByteArray) ++dS i,c,ds⟩:Task)]):=by
 refine⟨fun t ht=>?_,fun t ht=>?_⟩
 ·rcases List.mem_append.1 ht with ht|ht
  ·exact h.1 t ht
  ·rw[List.mem_singleton.1 ht]
   refine⟨?_,hd⟩
   have hds:=fK i
   show(((⟨#[116]⟩:ByteArray) ++dS i).size)≤64
   rw[ByteArray.size_append]
   have:(⟨#[116]⟩:ByteArray).size = 1:=rfl
   omega
 ·cases ts with
  |nil =>
   have e:i = 0:=hlen.symm
   subst e
   cases ht
   exact dec0
  |cons y ys=>exact h.2 t ht
theorem X3(l:List Int)(pos:Int)(hl:dM l)(h0:0≤pos)(h1:pos≤1000000):∃ res outs,(∃ p pos2,res = eH p∧outs = [rdC l pos2]∧dl p∧1≤p.tasks.length∧pos≤pos2∧pos2≤pos+4000∧∀ t,p.tasks[0]? = some t→t.name = t0B)∧F lM [.ptr (rdC l pos)] res outs:=by
 have hp1:=ak l pos 6
 have hp2:=ak l (pos+1) 12
 by_cases h12:ac l (pos+1) 12 = 0
 ·refine qm ?_
  conv=>whnf
  refine g 0 0 []<|J UA<|g 9 11 [.call (V.i (ac l pos 6)) ([rdC l (pos+1),[]]),.i (1+ac l pos 6)]<|J (QA @aa)<|Ws<|g 11 13 [.call (V.i (ac l (pos+1) 12)) ([rdC l (pos+1+1),[]])]<|J (QA @aa)<|Wc<|Kt (rg []<|J UA (g 13 15 []<|J QZ (Ws (g 0 0 []<|J UA (Wb ?_)))))
  refine Wl (fun s (x:Nat×List Task×Int)=>⟨(SK s [0,2,3,4] [(5,.i x.1),(8,s.s 8)]),[(2,[s.c 2 0]),(69,[.t (u8s l),.t (.i x.2.2)]),(4,[.own cI (x.2.1.map ay)])],[]⟩) (fun(x:Nat×List Task×Int)=>(x.1:Int)≤40∧x.2.1.length = x.1∧I2 x.2.1∧pos+2≤x.2.2∧x.2.2≤pos+2+90 * x.1) (fun(x:Nat×List Task×Int)=>((40:Int) - x.1).toNat) ((0,[],pos+2)) [some 2,some 69,some 4] [] ⟨rfl,FZ,⟨FZ,⟨(R2 ⟨(congrArg (fun z=>V.t (T.v (Value.int _ z))) (by show pos+1+1 = pos+2;omega)),I⟩),FZ⟩⟩,I⟩ ?_ ?_
  ·exact⟨by first|omega|(dsimp only;omega),rfl,⟨fun t ht=>(by cases ht),fun t ht=>(by cases ht)⟩,Int.le_refl _,by dsimp only;omega⟩
  rintro⟨i,ts,q⟩ ⟨hi,hlen,hsm,hq1,hq2⟩
  dsimp only at hi hlen hsm hq1 hq2
  have p5:=ak l q 5
  have p8:=ak l (q+1) 8
  by_cases hi2:(i:Int) < 40
  ·have cd:=gf i OM OM
   have hds:=fK i
   by_cases h8:ac l (q+1) 8 = 0
   ·skip
    conv=>whnf
    refine Ws<|g 15 17 []<|J UC<|Wc<|Kt (Wk (Ws (Wb (g 17 27 [.call (V.s (dS (i:Int))) O1,.s ({data:=#[(116:UInt8)]:ByteArray} ++dS (i:Int)),.call (V.i (ac l q 5)) ([rdC l (q+1),[]]),.i (1+ac l q 5)]<|J ⟨I,Zan,⟨rfl,(by simp only[bsz,bsa,ByteArray.size_append,List.size_toArray,ka];omega)⟩,I,⟨UB,I,UV,UA,aa _ _ _ OX OX OX OX⟩,wO,I,I,UC,I⟩ (Ws (g 27 29 [.call (V.i (ac l (q+1) 8)) ([rdC l (q+1+1),[]])]<|J (QA @aa) (Wc<|Kt (rg []<|J UV (Ws ?_)))))))))
    refine g 29 31 []<|J UA<|Wb<|Wl (fun s (y:Nat×List Int×Int)=>⟨(SK s [0,2,3,4,5,6] [(7,.i y.1),(8,s.s 8)]),[(2,[s.c 2 0]),(4,[s.c 4 0]),(69,[.t (u8s l),.t (.i y.2.2)]),(6,[.t (.s ((⟨#[116]⟩:ByteArray) ++dS i)),.t (.i (20)),.own [false] (y.2.1.map eA)])],[]⟩) (fun(y:Nat×List Int×Int)=>y.1≤i∧y.2.1.length≤y.1∧y.2.1.length≤8∧q+2≤y.2.2∧y.2.2≤q+2+2 * y.1) (fun(y:Nat×List Int×Int)=>i - y.1) ((0,[],q+2)) [some 2,some 4,some 69,some 6] [] ⟨rfl,FZ,⟨FZ,⟨FZ,⟨(R2 ⟨(congrArg (fun z=>V.t (T.v (Value.int _ z))) (by show q+1+1 = q+2;omega)),I⟩),FZ⟩⟩⟩,I⟩ (by simp) ?_
    rintro⟨k,ds,u⟩ ⟨g1,g2,g3,g4,g5⟩
    dsimp only at g1 g2 g3 g4 g5
    have p3:=ak l u 3
    have p2:=ak l (u+1) 2
    by_cases hk:k < i
    ·by_cases hd:ds.length < 8
     ·by_cases h3:ac l u 3 = 0
      ·conv=>whnf
       refine Ws<|g 31 39 [BT,BT,BT,BT,BT]<|J QZ<|Wc<|JD (fun h2=>?_) fun h2=>?_
       simp only[LM]at h2
       refine Wk<|Ws<|Wb<|g 43 55 [.call (V.i (ac l u 3)) ([rdC l (u+1),[]]),BT,BT,BT,BT,BT,BF,BF,BF,BT,BT]<|J (QA @aa)<|Wc<|Kr (rg []<|J QZ (rg [.i ((↑(Prod.fst (k,ds,u)):Int) +1)]<|J QZ ?_))
       rotate_left
       simp only[LM]at h2
       omega
       refine⟨(k+1,ds++ [(k:Int)],u+1),[some 2,some 4,some 69,some 6],[],⟨rfl,FZ,⟨FZ,⟨FZ,⟨FZ,⟨(R3 ⟨(congrArg (V.own _) (by rw[List.map_append];rfl)),I⟩),I⟩⟩⟩⟩,I⟩,?_,?_⟩
       rotate_left
       (dsimp only;omega)
       dsimp only
       exact⟨by omega,by rw[List.length_append];simp;omega,by rw[List.length_append];simp;omega,by first|omega|(dsimp only;omega),by first|omega|(dsimp only;omega)⟩
      ·by_cases hki:(k:Int) = (i:Int) - 1
       ·by_cases h2:ac l (u+1) 2 = 0
        ·conv=>whnf
         refine Ws<|g 31 39 [BT,BT,BT,BT,BT]<|J QZ<|Wc<|JD (fun h4=>?_) fun h4=>?_
         simp only[LM]at h4
         refine Wk<|Ws<|Wb<|g 43 55 [.call (V.i (ac l u 3)) ([rdC l (u+1),[]]),BF,BF,BF,.i ((↑(Prod.fst (i,ts,q)):Int) - 1),BF,BF,BT,BT,.call (V.i (ac l (u+1) 2)) ([rdC l (u+1+1),[]]),BT,BF,BT,BF]<|J (QA @aa)<|Wc<|Kt (rg []<|J QZ (rg [.i ((↑(Prod.fst (k,ds,u)):Int) +1)]<|J QZ ?_))
         rotate_left
         simp only[LM]at h4
         omega
         refine⟨(k+1,ds++ [(k:Int)],u+2),[some 2,some 4,some 69,some 6],[],⟨rfl,FZ,⟨FZ,⟨FZ,⟨(R2 ⟨(congrArg (fun z=>V.t (T.v (Value.int _ z))) (by show u+1+1 = u+2;omega)),I⟩),⟨(R3 ⟨(congrArg (V.own _) (by rw[List.map_append];rfl)),I⟩),I⟩⟩⟩⟩,I⟩,?_,?_⟩
         rotate_left
         (dsimp only;omega)
         dsimp only
         exact⟨by omega,by rw[List.length_append];simp;omega,by rw[List.length_append];simp;omega,by first|omega|(dsimp only;omega),by first|omega|(dsimp only;omega)⟩
        ·conv=>whnf
         refine Ws<|g 31 39 [BT,BT,BT,BT,BT]<|J QZ<|Wc<|JD (fun h4=>?_) fun h4=>?_
         simp only[LM]at h4
         refine Wk<|Ws<|Wb<|g 43 55 [.call (V.i (ac l u 3)) ([rdC l (u+1),[]]),BF,BF,BF,.i ((↑(Prod.fst (i,ts,q)):Int) - 1),BF,BF,BT,BT,.call (V.i (ac l (u+1) 2)) ([rdC l (u+1+1),[]]),BT,BF,BT,BF]<|J (QA @aa)<|Wc<|Jf<|Wk<|rg [.i ((↑(Prod.fst (k,ds,u)):Int) +1)]<|J QZ ?_
         rotate_left
         simp only[LM]at h4
         omega
         refine⟨(k+1,ds,u+2),[some 2,some 4,some 69,some 6],[],⟨rfl,FZ,⟨FZ,⟨FZ,⟨(R2 ⟨(congrArg (fun z=>V.t (T.v (Value.int _ z))) (by show u+1+1 = u+2;omega)),I⟩),FZ⟩⟩⟩,I⟩,?_,?_⟩
         rotate_left
         (dsimp only;omega)
         dsimp only
         omega
       ·conv=>whnf
        refine Ws<|g 31 39 [BT,BT,BT,BT,BT]<|J QZ<|Wc<|JD (fun h2=>?_) fun h2=>?_
        simp only[LM]at h2
        refine Wk<|Ws<|Wb<|g 43 55 (.call (V.i (ac l u 3)) ([rdC l (u+1),[]])::BF::BF::BF::.i ((↑(Prod.fst (i,ts,q)):Int) - 1)::(RL 8 BF []))<|J (QA @aa)<|Wc<|Jr<|Wk<|rg [.i ((↑(Prod.fst (k,ds,u)):Int) +1)]<|J QZ ?_
        rotate_left
        simp only[LM]at h2
        omega
        refine⟨(k+1,ds,u+1),[some 2,some 4,some 69,some 6],[],FZ,?_,?_⟩
        rotate_left
        (dsimp only;omega)
        dsimp only
        omega
     ·conv=>whnf
      refine Ws<|g 31 39 [BT,BT,BT,BT,BT]<|J QZ<|Wc<|J (fun h2=>?_) fun h2=>?_
      replace h2:=dt h2
      simp only[LM]at h2
      omega
      replace h2:=df h2
      simp only[LM]at h2
      refine We<|rg []<|J QZ<|rg [.i ((↑(Prod.fst (i,ts,q)):Int) +1)]<|J QZ ?_
      refine⟨(i+1,ts++ [(⟨((⟨#[116]⟩:ByteArray) ++dS i),20,ds⟩:Task)],u),[some 2,some 69,some 4],[],⟨rfl,FZ,⟨FZ,⟨FZ,⟨⟨rfl,⟨(congrArg (V.own _) (by rw[List.map_append];rfl)),I⟩⟩,I⟩⟩⟩,I⟩,?_,?_⟩
      rotate_left
      (dsimp only;omega)
      dsimp only
      refine⟨by first|omega|(dsimp only;omega),by rw[List.length_append];simp;omega,kC hlen hsm OM,by first|omega|(dsimp only;omega),by first|omega|(dsimp only;omega)⟩
    ·conv=>whnf
     refine Ws<|g 31 39 [BF,BF,BF,BF,BF]<|J QZ<|Wc<|Jr<|We<|rg []<|J QZ<|rg [.i ((↑(Prod.fst (i,ts,q)):Int) +1)]<|J QZ ?_
     refine⟨(i+1,ts++ [(⟨((⟨#[116]⟩:ByteArray) ++dS i),20,ds⟩:Task)],u),[some 2,some 69,some 4],[],⟨rfl,FZ,⟨FZ,⟨FZ,⟨⟨rfl,⟨(congrArg (V.own _) (by rw[List.map_append];rfl)),I⟩⟩,I⟩⟩⟩,I⟩,?_,?_⟩
     rotate_left
     (dsimp only;omega)
     dsimp only
     refine⟨by first|omega|(dsimp only;omega),by rw[List.length_append];simp;omega,kC hlen hsm OM,by first|omega|(dsimp only;omega),by first|omega|(dsimp only;omega)⟩
   ·skip
    conv=>whnf
    refine Ws<|g 15 17 []<|J UC<|Wc<|Kt (Wk (Ws (Wb (g 17 27 [.call (V.s (dS (i:Int))) O1,.s ({data:=#[(116:UInt8)]:ByteArray} ++dS (i:Int)),.call (V.i (ac l q 5)) ([rdC l (q+1),[]]),.i (1+ac l q 5)]<|J ⟨I,Zan,⟨rfl,(by simp only[bsz,bsa,ByteArray.size_append,List.size_toArray,ka];omega)⟩,I,⟨UB,I,UV,UA,aa _ _ _ OX OX OX OX⟩,wO,I,I,UC,I⟩ (Ws (g 27 29 [.call (V.i (ac l (q+1) 8)) ([rdC l (q+1+1),[]])]<|J (QA @aa) (Wc<|Jf<|(Wk (Ws ?_)))))))))
    refine g 29 30 []<|J UA<|Wb<|Wl (fun s (y:Nat×List Int×Int)=>⟨(SK s [0,2,3,4,5,6] [(7,.i y.1),(8,s.s 8)]),[(2,[s.c 2 0]),(4,[s.c 4 0]),(69,[.t (u8s l),.t (.i y.2.2)]),(6,[.t (.s ((⟨#[116]⟩:ByteArray) ++dS i)),.t (.i (1+ac l q 5)),.own [false] (y.2.1.map eA)])],[]⟩) (fun(y:Nat×List Int×Int)=>y.1≤i∧y.2.1.length≤y.1∧y.2.1.length≤8∧q+2≤y.2.2∧y.2.2≤q+2+2 * y.1) (fun(y:Nat×List Int×Int)=>i - y.1) ((0,[],q+2)) [some 2,some 4,some 69,some 6] [] ⟨rfl,FZ,⟨FZ,⟨FZ,⟨(R2 ⟨(congrArg (fun z=>V.t (T.v (Value.int _ z))) (by show q+1+1 = q+2;omega)),I⟩),FZ⟩⟩⟩,I⟩ (by simp) ?_
    rintro⟨k,ds,u⟩ ⟨g1,g2,g3,g4,g5⟩
    dsimp only at g1 g2 g3 g4 g5
    have p3:=ak l u 3
    have p2:=ak l (u+1) 2
    by_cases hk:k < i
    ·by_cases hd:ds.length < 8
     ·by_cases h3:ac l u 3 = 0
      ·conv=>whnf
       refine Ws<|g 31 39 [BT,BT,BT,BT,BT]<|J QZ<|Wc<|JD (fun h2=>?_) fun h2=>?_
       simp only[LM]at h2
       refine Wk<|Ws<|Wb<|g 43 55 [.call (V.i (ac l u 3)) ([rdC l (u+1),[]]),BT,BT,BT,BT,BT,BF,BF,BF,BT,BT]<|J (QA @aa)<|Wc<|Kr (rg []<|J QZ (rg [.i ((↑(Prod.fst (k,ds,u)):Int) +1)]<|J QZ ?_))
       rotate_left
       simp only[LM]at h2
       omega
       refine⟨(k+1,ds++ [(k:Int)],u+1),[some 2,some 4,some 69,some 6],[],⟨rfl,FZ,⟨FZ,⟨FZ,⟨FZ,⟨(R3 ⟨(congrArg (V.own _) (by rw[List.map_append];rfl)),I⟩),I⟩⟩⟩⟩,I⟩,?_,?_⟩
       rotate_left
       (dsimp only;omega)
       dsimp only
       exact⟨by omega,by rw[List.length_append];simp;omega,by rw[List.length_append];simp;omega,by first|omega|(dsimp only;omega),by first|omega|(dsimp only;omega)⟩
      ·by_cases hki:(k:Int) = (i:Int) - 1
       ·by_cases h2:ac l (u+1) 2 = 0
        ·conv=>whnf
         refine Ws<|g 31 39 [BT,BT,BT,BT,BT]<|J QZ<|Wc<|JD (fun h4=>?_) fun h4=>?_
         simp only[LM]at h4
         refine Wk<|Ws<|Wb<|g 43 55 [.call (V.i (ac l u 3)) ([rdC l (u+1),[]]),BF,BF,BF,.i ((↑(Prod.fst (i,ts,q)):Int) - 1),BF,BF,BT,BT,.call (V.i (ac l (u+1) 2)) ([rdC l (u+1+1),[]]),BT,BF,BT,BF]<|J (QA @aa)<|Wc<|Kt (rg []<|J QZ (rg [.i ((↑(Prod.fst (k,ds,u)):Int) +1)]<|J QZ ?_))
         rotate_left
         simp only[LM]at h4
         omega
         refine⟨(k+1,ds++ [(k:Int)],u+2),[some 2,some 4,some 69,some 6],[],⟨rfl,FZ,⟨FZ,⟨FZ,⟨(R2 ⟨(congrArg (fun z=>V.t (T.v (Value.int _ z))) (by show u+1+1 = u+2;omega)),I⟩),⟨(R3 ⟨(congrArg (V.own _) (by rw[List.map_append];rfl)),I⟩),I⟩⟩⟩⟩,I⟩,?_,?_⟩
         rotate_left
         (dsimp only;omega)
         dsimp only
         exact⟨by omega,by rw[List.length_append];simp;omega,by rw[List.length_append];simp;omega,by first|omega|(dsimp only;omega),by first|omega|(dsimp only;omega)⟩
        ·conv=>whnf
         refine Ws<|g 31 39 [BT,BT,BT,BT,BT]<|J QZ<|Wc<|JD (fun h4=>?_) fun h4=>?_
         simp only[LM]at h4
         refine Wk<|Ws<|Wb<|g 43 55 [.call (V.i (ac l u 3)) ([rdC l (u+1),[]]),BF,BF,BF,.i ((↑(Prod.fst (i,ts,q)):Int) - 1),BF,BF,BT,BT,.call (V.i (ac l (u+1) 2)) ([rdC l (u+1+1),[]]),BT,BF,BT,BF]<|J (QA @aa)<|Wc<|Jf<|Wk<|rg [.i ((↑(Prod.fst (k,ds,u)):Int) +1)]<|J QZ ?_
         rotate_left
         simp only[LM]at h4
         omega
         refine⟨(k+1,ds,u+2),[some 2,some 4,some 69,some 6],[],⟨rfl,FZ,⟨FZ,⟨FZ,⟨(R2 ⟨(congrArg (fun z=>V.t (T.v (Value.int _ z))) (by show u+1+1 = u+2;omega)),I⟩),FZ⟩⟩⟩,I⟩,?_,?_⟩
         rotate_left
         (dsimp only;omega)
         dsimp only
         omega
       ·conv=>whnf
        refine Ws<|g 31 39 [BT,BT,BT,BT,BT]<|J QZ<|Wc<|JD (fun h2=>?_) fun h2=>?_
        simp only[LM]at h2
        refine Wk<|Ws<|Wb<|g 43 55 (.call (V.i (ac l u 3)) ([rdC l (u+1),[]])::BF::BF::BF::.i ((↑(Prod.fst (i,ts,q)):Int) - 1)::(RL 8 BF []))<|J (QA @aa)<|Wc<|Jr<|Wk<|rg [.i ((↑(Prod.fst (k,ds,u)):Int) +1)]<|J QZ ?_
        rotate_left
        simp only[LM]at h2
        omega
        refine⟨(k+1,ds,u+1),[some 2,some 4,some 69,some 6],[],FZ,?_,?_⟩
        rotate_left
        (dsimp only;omega)
        dsimp only
        omega
     ·conv=>whnf
      refine Ws<|g 31 39 [BT,BT,BT,BT,BT]<|J QZ<|Wc<|J (fun h2=>?_) fun h2=>?_
      replace h2:=dt h2
      simp only[LM]at h2
      omega
      replace h2:=df h2
      simp only[LM]at h2
      refine We<|rg []<|J QZ<|rg [.i ((↑(Prod.fst (i,ts,q)):Int) +1)]<|J QZ ?_
      refine⟨(i+1,ts++ [(⟨((⟨#[116]⟩:ByteArray) ++dS i),1+ac l q 5,ds⟩:Task)],u),[some 2,some 69,some 4],[],⟨rfl,FZ,⟨FZ,⟨FZ,⟨⟨rfl,⟨(congrArg (V.own _) (by rw[List.map_append];rfl)),I⟩⟩,I⟩⟩⟩,I⟩,?_,?_⟩
      rotate_left
      (dsimp only;omega)
      dsimp only
      refine⟨by first|omega|(dsimp only;omega),by rw[List.length_append];simp;omega,kC hlen hsm OM,by first|omega|(dsimp only;omega),by first|omega|(dsimp only;omega)⟩
    ·conv=>whnf
     refine Ws<|g 31 39 [BF,BF,BF,BF,BF]<|J QZ<|Wc<|Jr<|We<|rg []<|J QZ<|rg [.i ((↑(Prod.fst (i,ts,q)):Int) +1)]<|J QZ ?_
     refine⟨(i+1,ts++ [(⟨((⟨#[116]⟩:ByteArray) ++dS i),1+ac l q 5,ds⟩:Task)],u),[some 2,some 69,some 4],[],⟨rfl,FZ,⟨FZ,⟨FZ,⟨⟨rfl,⟨(congrArg (V.own _) (by rw[List.map_append];rfl)),I⟩⟩,I⟩⟩⟩,I⟩,?_,?_⟩
     rotate_left
     (dsimp only;omega)
     dsimp only
     refine⟨by first|omega|(dsimp only;omega),by rw[List.length_append];simp;omega,kC hlen hsm OM,by first|omega|(dsimp only;omega),by first|omega|(dsimp only;omega)⟩
  ·conv=>whnf
   refine Ws<|g 15 17 []<|J UC<|Wc<|Jf<|We<|g 3 69 []<|J UV<|W.ret<|EndsW.rt<|J UB ?_
   exact⟨⟨ts⟩,q,rfl,rfl,⟨by first|omega|(dsimp only;omega),hsm.1⟩,by first|omega|(dsimp only;omega),by omega,by omega,hsm.2⟩
 ·refine qm ?_
  conv=>whnf
  refine g 0 0 []<|J UA<|g 9 11 [.call (V.i (ac l pos 6)) ([rdC l (pos+1),[]]),.i (1+ac l pos 6)]<|J (QA @aa)<|Ws<|g 11 13 [.call (V.i (ac l (pos+1) 12)) ([rdC l (pos+1+1),[]])]<|J (QA @aa)<|Wc<|Jf<|Wk<|g 13 15 []<|J QZ<|Ws<|g 0 0 []<|J UA<|Wb ?_
  refine Wl (fun s (x:Nat×List Task×Int)=>⟨(SK s [0,2,3,4] [(5,.i x.1),(8,s.s 8)]),[(2,[s.c 2 0]),(69,[.t (u8s l),.t (.i x.2.2)]),(4,[.own cI (x.2.1.map ay)])],[]⟩) (fun(x:Nat×List Task×Int)=>(x.1:Int)≤(1+ac l pos 6)∧x.2.1.length = x.1∧I2 x.2.1∧pos+2≤x.2.2∧x.2.2≤pos+2+90 * x.1) (fun(x:Nat×List Task×Int)=>(((1+ac l pos 6):Int) - x.1).toNat) ((0,[],pos+2)) [some 2,some 69,some 4] [] ⟨rfl,FZ,⟨FZ,⟨(R2 ⟨(congrArg (fun z=>V.t (T.v (Value.int _ z))) (by show pos+1+1 = pos+2;omega)),I⟩),FZ⟩⟩,I⟩ ?_ ?_
  ·exact⟨by first|omega|(dsimp only;omega),rfl,⟨fun t ht=>(by cases ht),fun t ht=>(by cases ht)⟩,Int.le_refl _,by dsimp only;omega⟩
  rintro⟨i,ts,q⟩ ⟨hi,hlen,hsm,hq1,hq2⟩
  dsimp only at hi hlen hsm hq1 hq2
  have p5:=ak l q 5
  have p8:=ak l (q+1) 8
  by_cases hi2:(i:Int) < (1+ac l pos 6)
  ·have cd:=gf i OM OM
   have hds:=fK i
   by_cases h8:ac l (q+1) 8 = 0
   ·skip
    conv=>whnf
    refine Ws<|g 15 17 []<|J UC<|Wc<|Kt (Wk (Ws (Wb (g 17 27 [.call (V.s (dS (i:Int))) O1,.s ({data:=#[(116:UInt8)]:ByteArray} ++dS (i:Int)),.call (V.i (ac l q 5)) ([rdC l (q+1),[]]),.i (1+ac l q 5)]<|J ⟨I,Zan,⟨rfl,(by simp only[bsz,bsa,ByteArray.size_append,List.size_toArray,ka];omega)⟩,I,⟨UB,I,UV,UA,aa _ _ _ OX OX OX OX⟩,wO,I,I,UC,I⟩ (Ws (g 27 29 [.call (V.i (ac l (q+1) 8)) ([rdC l (q+1+1),[]])]<|J (QA @aa) (Wc<|Kt (rg []<|J UV (Ws ?_)))))))))
    refine g 29 31 []<|J UA<|Wb<|Wl (fun s (y:Nat×List Int×Int)=>⟨(SK s [0,2,3,4,5,6] [(7,.i y.1),(8,s.s 8)]),[(2,[s.c 2 0]),(4,[s.c 4 0]),(69,[.t (u8s l),.t (.i y.2.2)]),(6,[.t (.s ((⟨#[116]⟩:ByteArray) ++dS i)),.t (.i (20)),.own [false] (y.2.1.map eA)])],[]⟩) (fun(y:Nat×List Int×Int)=>y.1≤i∧y.2.1.length≤y.1∧y.2.1.length≤8∧q+2≤y.2.2∧y.2.2≤q+2+2 * y.1) (fun(y:Nat×List Int×Int)=>i - y.1) ((0,[],q+2)) [some 2,some 4,some 69,some 6] [] ⟨rfl,FZ,⟨FZ,⟨FZ,⟨(R2 ⟨(congrArg (fun z=>V.t (T.v (Value.int _ z))) (by show q+1+1 = q+2;omega)),I⟩),FZ⟩⟩⟩,I⟩ (by simp) ?_
    rintro⟨k,ds,u⟩ ⟨g1,g2,g3,g4,g5⟩
    dsimp only at g1 g2 g3 g4 g5
    have p3:=ak l u 3
    have p2:=ak l (u+1) 2
    by_cases hk:k < i
    ·by_cases hd:ds.length < 8
     ·by_cases h3:ac l u 3 = 0
      ·conv=>whnf
       refine Ws<|g 31 39 [BT,BT,BT,BT,BT]<|J QZ<|Wc<|JD (fun h2=>?_) fun h2=>?_
       simp only[LM]at h2
       refine Wk<|Ws<|Wb<|g 43 55 [.call (V.i (ac l u 3)) ([rdC l (u+1),[]]),BT,BT,BT,BT,BT,BF,BF,BF,BT,BT]<|J (QA @aa)<|Wc<|Kr (rg []<|J QZ (rg [.i ((↑(Prod.fst (k,ds,u)):Int) +1)]<|J QZ ?_))
       rotate_left
       simp only[LM]at h2
       omega
       refine⟨(k+1,ds++ [(k:Int)],u+1),[some 2,some 4,some 69,some 6],[],⟨rfl,FZ,⟨FZ,⟨FZ,⟨FZ,⟨(R3 ⟨(congrArg (V.own _) (by rw[List.map_append];rfl)),I⟩),I⟩⟩⟩⟩,I⟩,?_,?_⟩
       rotate_left
       (dsimp only;omega)
       dsimp only
       exact⟨by omega,by rw[List.length_append];simp;omega,by rw[List.length_append];simp;omega,by first|omega|(dsimp only;omega),by first|omega|(dsimp only;omega)⟩
      ·by_cases hki:(k:Int) = (i:Int) - 1
       ·by_cases h2:ac l (u+1) 2 = 0
        ·conv=>whnf
         refine Ws<|g 31 39 [BT,BT,BT,BT,BT]<|J QZ<|Wc<|JD (fun h4=>?_) fun h4=>?_
         simp only[LM]at h4
         refine Wk<|Ws<|Wb<|g 43 55 [.call (V.i (ac l u 3)) ([rdC l (u+1),[]]),BF,BF,BF,.i ((↑(Prod.fst (i,ts,q)):Int) - 1),BF,BF,BT,BT,.call (V.i (ac l (u+1) 2)) ([rdC l (u+1+1),[]]),BT,BF,BT,BF]<|J (QA @aa)<|Wc<|Kt (rg []<|J QZ (rg [.i ((↑(Prod.fst (k,ds,u)):Int) +1)]<|J QZ ?_))
         rotate_left
         simp only[LM]at h4
         omega
         refine⟨(k+1,ds++ [(k:Int)],u+2),[some 2,some 4,some 69,some 6],[],⟨rfl,FZ,⟨FZ,⟨FZ,⟨(R2 ⟨(congrArg (fun z=>V.t (T.v (Value.int _ z))) (by show u+1+1 = u+2;omega)),I⟩),⟨(R3 ⟨(congrArg (V.own _) (by rw[List.map_append];rfl)),I⟩),I⟩⟩⟩⟩,I⟩,?_,?_⟩
         rotate_left
         (dsimp only;omega)
         dsimp only
         exact⟨by omega,by rw[List.length_append];simp;omega,by rw[List.length_append];simp;omega,by first|omega|(dsimp only;omega),by first|omega|(dsimp only;omega)⟩
        ·conv=>whnf
         refine Ws<|g 31 39 [BT,BT,BT,BT,BT]<|J QZ<|Wc<|JD (fun h4=>?_) fun h4=>?_
         simp only[LM]at h4
         refine Wk<|Ws<|Wb<|g 43 55 [.call (V.i (ac l u 3)) ([rdC l (u+1),[]]),BF,BF,BF,.i ((↑(Prod.fst (i,ts,q)):Int) - 1),BF,BF,BT,BT,.call (V.i (ac l (u+1) 2)) ([rdC l (u+1+1),[]]),BT,BF,BT,BF]<|J (QA @aa)<|Wc<|Jf<|Wk<|rg [.i ((↑(Prod.fst (k,ds,u)):Int) +1)]<|J QZ ?_
         rotate_left
         simp only[LM]at h4
         omega
         refine⟨(k+1,ds,u+2),[some 2,some 4,some 69,some 6],[],⟨rfl,FZ,⟨FZ,⟨FZ,⟨(R2 ⟨(congrArg (fun z=>V.t (T.v (Value.int _ z))) (by show u+1+1 = u+2;omega)),I⟩),FZ⟩⟩⟩,I⟩,?_,?_⟩
         rotate_left
         (dsimp only;omega)
         dsimp only
         omega
       ·conv=>whnf
        refine Ws<|g 31 39 [BT,BT,BT,BT,BT]<|J QZ<|Wc<|JD (fun h2=>?_) fun h2=>?_
        simp only[LM]at h2
        refine Wk<|Ws<|Wb<|g 43 55 (.call (V.i (ac l u 3)) ([rdC l (u+1),[]])::BF::BF::BF::.i ((↑(Prod.fst (i,ts,q)):Int) - 1)::(RL 8 BF []))<|J (QA @aa)<|Wc<|Jr<|Wk<|rg [.i ((↑(Prod.fst (k,ds,u)):Int) +1)]<|J QZ ?_
        rotate_left
        simp only[LM]at h2
        omega
        refine⟨(k+1,ds,u+1),[some 2,some 4,some 69,some 6],[],FZ,?_,?_⟩
        rotate_left
        (dsimp only;omega)
        dsimp only
        omega
     ·exfalso;omega
    ·conv=>whnf
     refine Ws<|g 31 39 [BF,BF,BF,BF,BF]<|J QZ<|Wc<|Jr<|We<|rg []<|J QZ<|rg [.i ((↑(Prod.fst (i,ts,q)):Int) +1)]<|J QZ ?_
     refine⟨(i+1,ts++ [(⟨((⟨#[116]⟩:ByteArray) ++dS i),20,ds⟩:Task)],u),[some 2,some 69,some 4],[],⟨rfl,FZ,⟨FZ,⟨FZ,⟨⟨rfl,⟨(congrArg (V.own _) (by rw[List.map_append];rfl)),I⟩⟩,I⟩⟩⟩,I⟩,?_,?_⟩
     rotate_left
     (dsimp only;omega)
     dsimp only
     refine⟨by first|omega|(dsimp only;omega),by rw[List.length_append];simp;omega,kC hlen hsm OM,by first|omega|(dsimp only;omega),by first|omega|(dsimp only;omega)⟩
   ·skip
    conv=>whnf
    refine Ws<|g 15 17 []<|J UC<|Wc<|Kt (Wk (Ws (Wb (g 17 27 [.call (V.s (dS (i:Int))) O1,.s ({data:=#[(116:UInt8)]:ByteArray} ++dS (i:Int)),.call (V.i (ac l q 5)) ([rdC l (q+1),[]]),.i (1+ac l q 5)]<|J ⟨I,Zan,⟨rfl,(by simp only[bsz,bsa,ByteArray.size_append,List.size_toArray,ka];omega)⟩,I,⟨UB,I,UV,UA,aa _ _ _ OX OX OX OX⟩,wO,I,I,UC,I⟩ (Ws (g 27 29 [.call (V.i (ac l (q+1) 8)) ([rdC l (q+1+1),[]])]<|J (QA @aa) (Wc<|Jf<|(Wk (Ws ?_)))))))))
    refine g 29 30 []<|J UA<|Wb<|Wl (fun s (y:Nat×List Int×Int)=>⟨(SK s [0,2,3,4,5,6] [(7,.i y.1),(8,s.s 8)]),[(2,[s.c 2 0]),(4,[s.c 4 0]),(69,[.t (u8s l),.t (.i y.2.2)]),(6,[.t (.s ((⟨#[116]⟩:ByteArray) ++dS i)),.t (.i (1+ac l q 5)),.own [false] (y.2.1.map eA)])],[]⟩) (fun(y:Nat×List Int×Int)=>y.1≤i∧y.2.1.length≤y.1∧y.2.1.length≤8∧q+2≤y.2.2∧y.2.2≤q+2+2 * y.1) (fun(y:Nat×List Int×Int)=>i - y.1) ((0,[],q+2)) [some 2,some 4,some 69,some 6] [] ⟨rfl,FZ,⟨FZ,⟨FZ,⟨(R2 ⟨(congrArg (fun z=>V.t (T.v (Value.int _ z))) (by show q+1+1 = q+2;omega)),I⟩),FZ⟩⟩⟩,I⟩ (by simp) ?_
    rintro⟨k,ds,u⟩ ⟨g1,g2,g3,g4,g5⟩
    dsimp only at g1 g2 g3 g4 g5
    have p3:=ak l u 3
    have p2:=ak l (u+1) 2
    by_cases hk:k < i
    ·by_cases hd:ds.length < 8
     ·by_cases h3:ac l u 3 = 0
      ·conv=>whnf
       refine Ws<|g 31 39 [BT,BT,BT,BT,BT]<|J QZ<|Wc<|JD (fun h2=>?_) fun h2=>?_
       simp only[LM]at h2
       refine Wk<|Ws<|Wb<|g 43 55 [.call (V.i (ac l u 3)) ([rdC l (u+1),[]]),BT,BT,BT,BT,BT,BF,BF,BF,BT,BT]<|J (QA @aa)<|Wc<|Kr (rg []<|J QZ (rg [.i ((↑(Prod.fst (k,ds,u)):Int) +1)]<|J QZ ?_))
       rotate_left
       simp only[LM]at h2
       omega
       refine⟨(k+1,ds++ [(k:Int)],u+1),[some 2,some 4,some 69,some 6],[],⟨rfl,FZ,⟨FZ,⟨FZ,⟨FZ,⟨(R3 ⟨(congrArg (V.own _) (by rw[List.map_append];rfl)),I⟩),I⟩⟩⟩⟩,I⟩,?_,?_⟩
       rotate_left
       (dsimp only;omega)
       dsimp only
       exact⟨by omega,by rw[List.length_append];simp;omega,by rw[List.length_append];simp;omega,by first|omega|(dsimp only;omega),by first|omega|(dsimp only;omega)⟩
      ·by_cases hki:(k:Int) = (i:Int) - 1
       ·by_cases h2:ac l (u+1) 2 = 0
        ·conv=>whnf
         refine Ws<|g 31 39 [BT,BT,BT,BT,BT]<|J QZ<|Wc<|JD (fun h4=>?_) fun h4=>?_
         simp only[LM]at h4
         refine Wk<|Ws<|Wb<|g 43 55 [.call (V.i (ac l u 3)) ([rdC l (u+1),[]]),BF,BF,BF,.i ((↑(Prod.fst (i,ts,q)):Int) - 1),BF,BF,BT,BT,.call (V.i (ac l (u+1) 2)) ([rdC l (u+1+1),[]]),BT,BF,BT,BF]<|J (QA @aa)<|Wc<|Kt (rg []<|J QZ (rg [.i ((↑(Prod.fst (k,ds,u)):Int) +1)]<|J QZ ?_))
         rotate_left
         simp only[LM]at h4
         omega
         refine⟨(k+1,ds++ [(k:Int)],u+2),[some 2,some 4,some 69,some 6],[],⟨rfl,FZ,⟨FZ,⟨FZ,⟨(R2 ⟨(congrArg (fun z=>V.t (T.v (Value.int _ z))) (by show u+1+1 = u+2;omega)),I⟩),⟨(R3 ⟨(congrArg (V.own _) (by rw[List.map_append];rfl)),I⟩),I⟩⟩⟩⟩,I⟩,?_,?_⟩
         rotate_left
         (dsimp only;omega)
         dsimp only
         exact⟨by omega,by rw[List.length_append];simp;omega,by rw[List.length_append];simp;omega,by first|omega|(dsimp only;omega),by first|omega|(dsimp only;omega)⟩
        ·conv=>whnf
         refine Ws<|g 31 39 [BT,BT,BT,BT,BT]<|J QZ<|Wc<|JD (fun h4=>?_) fun h4=>?_
         simp only[LM]at h4
         refine Wk<|Ws<|Wb<|g 43 55 [.call (V.i (ac l u 3)) ([rdC l (u+1),[]]),BF,BF,BF,.i ((↑(Prod.fst (i,ts,q)):Int) - 1),BF,BF,BT,BT,.call (V.i (ac l (u+1) 2)) ([rdC l (u+1+1),[]]),BT,BF,BT,BF]<|J (QA @aa)<|Wc<|Jf<|Wk<|rg [.i ((↑(Prod.fst (k,ds,u)):Int) +1)]<|J QZ ?_
         rotate_left
         simp only[LM]at h4
         omega
         refine⟨(k+1,ds,u+2),[some 2,some 4,some 69,some 6],[],⟨rfl,FZ,⟨FZ,⟨FZ,⟨(R2 ⟨(congrArg (fun z=>V.t (T.v (Value.int _ z))) (by show u+1+1 = u+2;omega)),I⟩),FZ⟩⟩⟩,I⟩,?_,?_⟩
         rotate_left
         (dsimp only;omega)
         dsimp only
         omega
       ·conv=>whnf
        refine Ws<|g 31 39 [BT,BT,BT,BT,BT]<|J QZ<|Wc<|JD (fun h2=>?_) fun h2=>?_
        simp only[LM]at h2
        refine Wk<|Ws<|Wb<|g 43 55 (.call (V.i (ac l u 3)) ([rdC l (u+1),[]])::BF::BF::BF::.i ((↑(Prod.fst (i,ts,q)):Int) - 1)::(RL 8 BF []))<|J (QA @aa)<|Wc<|Jr<|Wk<|rg [.i ((↑(Prod.fst (k,ds,u)):Int) +1)]<|J QZ ?_
        rotate_left
        simp only[LM]at h2
        omega
        refine⟨(k+1,ds,u+1),[some 2,some 4,some 69,some 6],[],FZ,?_,?_⟩
        rotate_left
        (dsimp only;omega)
        dsimp only
        omega
     ·exfalso;omega
    ·conv=>whnf
     refine Ws<|g 31 39 [BF,BF,BF,BF,BF]<|J QZ<|Wc<|Jr<|We<|rg []<|J QZ<|rg [.i ((↑(Prod.fst (i,ts,q)):Int) +1)]<|J QZ ?_
     refine⟨(i+1,ts++ [(⟨((⟨#[116]⟩:ByteArray) ++dS i),1+ac l q 5,ds⟩:Task)],u),[some 2,some 69,some 4],[],⟨rfl,FZ,⟨FZ,⟨FZ,⟨⟨rfl,⟨(congrArg (V.own _) (by rw[List.map_append];rfl)),I⟩⟩,I⟩⟩⟩,I⟩,?_,?_⟩
     rotate_left
     (dsimp only;omega)
     dsimp only
     refine⟨by first|omega|(dsimp only;omega),by rw[List.length_append];simp;omega,kC hlen hsm OM,by first|omega|(dsimp only;omega),by first|omega|(dsimp only;omega)⟩
  ·conv=>whnf
   refine Ws<|g 15 17 []<|J UC<|Wc<|Jf<|We<|g 3 69 []<|J UV<|W.ret<|EndsW.rt<|J UB ?_
   exact⟨⟨ts⟩,q,rfl,rfl,⟨by first|omega|(dsimp only;omega),hsm.1⟩,by first|omega|(dsimp only;omega),by omega,by omega,hsm.2⟩
theorem uP(l:List Int)(pos:Int)(h:dM l∧0≤pos∧pos≤1000000):∃ x:Plan×Int,F lM [.ptr (rdC l pos)] (eH x.1) [rdC l x.2]∧dl x.1∧1≤x.1.tasks.length∧pos≤x.2∧x.2≤pos+4000∧∀ t,x.1.tasks[0]? = some t→t.name = t0B:=by
 obtain⟨res,outs,⟨p,pos2,rfl,rfl,h1,h2,h3,h4⟩,hF⟩:=X3 l pos h.1 h.2.1 h.2.2
 exact⟨(p,pos2),hF,h1,h2,h3,h4⟩
open Classical in
noncomputable def mQ(l:List Int)(pos:Int):Plan×Int:=if h:dM l∧0≤pos∧pos≤1000000 then(uP l pos h).choose else(⟨[⟨emp,0,[]⟩]⟩,pos)
theorem EO(l:List Int)(pos:Int)(hl:dM l)(h0:0≤pos)(h1:pos≤1000000):F lM [.ptr (rdC l pos)] (eH (mQ l pos).1) [rdC l (mQ l pos).2]:=by
 have h:dM l∧0≤pos∧pos≤1000000:=⟨hl,h0,h1⟩
 rw[mQ,dif_pos h]
 exact(uP l pos h).choose_spec.1
theorem X7(l:List Int)(pos:Int):dl (mQ l pos).1∧1≤(mQ l pos).1.tasks.length∧pos≤(mQ l pos).2∧(mQ l pos).2≤pos+4000:=by
 unfold mQ
 split
 ·rename_i h;obtain⟨_,a,b,c,d,_⟩:=(uP l pos h).choose_spec;exact⟨a,b,c,d⟩
 ·refine⟨⟨by show 1≤64;omega,fun t ht=>?_⟩,Nat.le_refl _,Int.le_refl _,by dsimp only;omega⟩
  rw[List.mem_singleton.1 ht]
  have:emp.size = 0:=rfl
  exact⟨by dsimp only;omega,Nat.zero_le _⟩
theorem uO(s:ByteArray)(n:Int)(h:0≤n∧n≤1000∧n * (s.size:Int)≤4096):∃ t:ByteArray,F iU [.val (.s s),.val (.i n)] (.s t) O2∧(t.size:Int)≤4096∧t = HY s n.toNat:=by
 obtain⟨res,outs,⟨t,rfl,rfl,h1⟩,hF⟩:=X1 s n h.1 h.2.1 h.2.2
 exact⟨t,hF,h1⟩
open Classical in
noncomputable def mO(s:ByteArray)(n:Int):ByteArray:=if h:0≤n∧n≤1000∧n * (s.size:Int)≤4096 then(uO s n h).choose else emp
theorem F9(s:ByteArray)(n:Int)(h0:0≤n)(h1:n≤1000)(hs:n * (s.size:Int)≤4096):F iU [.val (.s s),.val (.i n)] (.s (mO s n)) O2:=by
 rw[mO,dif_pos ⟨h0,h1,hs⟩]
 exact(uO s n ⟨h0,h1,hs⟩).choose_spec.1
theorem lY(s:ByteArray)(n:Int)(h0:0≤n)(h1:n≤64)(hs:s.size≤64):F iU [.val (.s s),.val (.i n)] (.s (mO s n)) O2 :=
 F9 s n h0 OM (by
  have:=Int.mul_le_mul_of_nonneg_right h1 (show(0:Int)≤s.size by omega)
  omega)
theorem p9(s:ByteArray)(n:Int):(mO s n).size≤4096:=by
 unfold mO
 split
 ·rename_i h;have:=(uO s n h).choose_spec.2.1;omega
 ·show emp.size≤4096;decide
end Go.K
end
section
open Go Go.Tm Go.Proofs
namespace Go.K
def jx(t:Task):Prop:=t.name.size≤8192∧t.deps.length≤128
def kR(p:Plan):Prop:=p.tasks.length≤64∧∀ t∈p.tasks,jx t
theorem gq{p:Plan}(h:dl p):kR p:=⟨h.1,fun t ht=>⟨by have:=(h.2 t ht).1;omega,by have:=(h.2 t ht).2;omega⟩⟩
theorem IE{p:Plan}(h:kR p):dD p:=⟨by have:=h.1;omega,fun t ht=>⟨by have:=(h.2 t ht).1;omega,by have:=(h.2 t ht).2;omega⟩⟩
theorem B1{p:Plan}(h:dl p){n:Nat}{t:Task}(ht:jx t):kR ⟨p.tasks.set n t⟩:=by
 refine⟨by dsimp only;rw[List.length_set];exact h.1,fun y hy=>?_⟩
 rcases List.mem_or_eq_of_mem_set hy with hy|rfl
 ·exact(gq h).2 y hy
 ·exact ht
theorem Tk{ts:List Task}(h1:ts.length≤64)(h2:∀ t∈ts,jx t){n:Nat}{t:Task}(ht:jx t):kR ⟨ts.set n t⟩:=by
 refine⟨by dsimp only;rw[List.length_set];exact h1,fun y hy=>?_⟩
 rcases List.mem_or_eq_of_mem_set hy with hy|rfl
 ·exact h2 y hy
 ·exact ht
theorem Ou(c:ByteArray)(hc:c.size = 1)(i:Int):jx ⟨c++dS i,1,[]⟩:=by
 have:=fK i
 exact⟨by dsimp only;rw[ByteArray.size_append];omega,Nat.zero_le _⟩
theorem PV{ts:List Task}{x:Task}(h:∀ t∈ts,jx t)(hx:jx x):∀ t∈ts++ [x],jx t:=fun t ht=>by
 rcases List.mem_append.1 ht with ht|ht
 ·exact h t ht
 ·rw[List.mem_singleton.1 ht];exact hx
theorem my{α:Type}(xs:List α)(x:α):(xs++ [x]).length = xs.length+1:=by simp
theorem ia{ts:List Task}{n:Nat}{t:Task}:(ts.map ay).set n (ay t) = (ts.set n t).map ay:=by rw[List.map_set]
theorem Yk{xs:List Int}{x:Int}:(xs++ [x]).map eA = xs.map eA++ [eA x]:=by rw[List.map_append];rfl
theorem pv(xs:List ByteArray)(k:Int)(h0:0≤k)(h1:k < xs.length):∃ x,x∈xs∧(xs.map ah)[k.toNat]? = some (ah x):=by
 obtain⟨x,hx⟩:=ae (xs:=xs) (n:=k.toNat) OM
 exact⟨x,List.mem_of_getElem? hx,by rw[List.getElem?_map,hx];rfl⟩
theorem cZ(xs:List Int)(k:Int)(h0:0≤k)(h1:k < xs.length):∃ x,x∈xs∧(xs.map eA)[k.toNat]? = some (eA x):=by
 obtain⟨x,hx⟩:=ae (xs:=xs) (n:=k.toNat) OM
 exact⟨x,List.mem_of_getElem? hx,by rw[List.getElem?_map,hx];rfl⟩
abbrev Ym(l:List Int)(pos:Int):V→List (List V)→Prop:=fun res outs=>∃ p pos2,res = eH p∧outs = [rdC l pos2,[]]∧kR p∧pos≤pos2∧pos2≤pos+100
theorem TE(l:List Int)(pos:Int)(p:Plan)(hp:dl p)(hl:dM l)(h0:0≤pos)(h1:pos≤1000000):∃ res outs,Ym l pos res outs∧F kr [.ptr (rdC l pos),.val (eH p)] res outs:=by
 have hpp:=hp
 obtain⟨hp1,hp2⟩:=hpp
 have cpl:=lX p hp
 have r0:=ak l pos p.tasks.length
 have r1:=ak l (pos+1) 7
 by_cases hz:p.tasks.length = 0
 ·refine dy ?_
  conv=>whnf
  refine g 0 0 []<|J QZ<|g 9 11 [.call (eH p) O1]<|J QZ<|g 11 16 [.call (V.i (ac l pos (↑(List.length (List.map ay p.tasks)):Int))) ([rdC l (pos+1),[]])]<|J (QA @aa)<|Ws<|g 16 19 []<|J UD<|Wc<|J (fun _=>(g 19 21 []<|J UV (W.ret (EndsW.rt<|J UB ?_)))) (noF SI)
  exact⟨p,_,rfl,rfl,gq hp,by omega,by omega⟩
 ·obtain⟨kk,hkk⟩:=Int.eq_ofNat_of_zero_le r0.1
  obtain⟨t,ht⟩:=ae (xs:=p.tasks) (n:=kk) OM
  have ck:F fc [.ptr (rdC l pos),.val (.i ((p.tasks.map ay).length:Int))] (.i (kk:Int)) [rdC l (pos+1),[]]:=by
   have:=aa l pos p.tasks.length hl h0 OM OM
   rw[hkk]at this
   rw[List.length_map];exact this
  have hkl:kk < p.tasks.length:=by omega
  have hts:=hp2 t (List.mem_of_getElem? ht)
  obtain⟨t0,ht0⟩:=ae (xs:=p.tasks) (n:=0) OM
  have hts0:=hp2 t0 (List.mem_of_getElem? ht0)
  by_cases c0:ac l (pos+1) 7 = 0
  ·have r2:=ak l (pos+1+1) 5
   have m1:=p9 ⟨#[110]⟩ 30
   have m2:=p9 ⟨#[110]⟩ 31
   obtain⟨x,hx1,hx2⟩:=pv [⟨#[]⟩,⟨#[97,32,98]⟩,t0.name,mO ⟨#[110]⟩ 30,mO ⟨#[110]⟩ 31] (ac l (pos+1+1) 5) r2.1 (by show _ < (5:Int);omega)
   have hx3:([[T.s ⟨#[]⟩],[T.s ⟨#[97,32,98]⟩],[T.s t0.name],[T.s (mO ⟨#[110]⟩ 30)],[T.s (mO ⟨#[110]⟩ 31)]]:List (List T))[(ac l (pos+1+1) 5).toNat]? = some [T.s x]:=hx2
   refine dy ?_
   conv=>whnf
   refine g 0 0 []<|J QZ<|g 9 11 [.call (eH p) O1]<|J QZ<|g 11 16 [.call (V.i (kk:Int)) ([rdC l (pos+1),[]])]<|J QZ<|Ws<|g 16 19 []<|J UD<|Wc<|J (noT SI) fun _=>Wk<|Ws<|g 19 22 [.call (V.i (ac l (pos+1) 7)) ([rdC l (pos+1+1),[]])]<|J (QA @aa)<|Wb<|g 36 37 []<|J UB<|Wc<|Kt ?_
   refine rgd [[],[],[],[],[],[.n (0)],[],[.x (ay t0)],[.call (V.s (mO {data:=#[(110:UInt8)]:ByteArray} 30)) O2],[.call (V.s (mO {data:=#[(110:UInt8)]:ByteArray} 31)) O2],[],[],[.call (V.i (ac l (pos+1+1) 5)) ([rdC l (pos+1+1+1),[]])],[.n (Int.toNat (ac l (pos+1+1) 5))],[.x ([T.s x])],[.n (kk)],[],[.x (ay t)]] ?_
   conv=>whnf
   refine J ⟨I,I,I,I,I,Zao,I,xA,⟨UB,I,UT,UA,lY _ _ (by decide) (by decide) (by decide)⟩,⟨UB,I,UT,UA,lY _ _ (by decide) (by decide) (by decide)⟩,⟨UA,UA,UA,UA,UA,I⟩,I,⟨UB,I,UV,UA,aa _ _ _ OM OM OM OM⟩,Zas,AS,Zao,I,⟨UA,xA⟩,I⟩<|J KR<|g 5 140 []<|J UV<|W.ret<|EndsW.rt<|J UB ?_
   have hxs:x.size≤8192:=by
    have e1:(⟨#[]⟩:ByteArray).size = 0:=rfl
    have e2:(⟨#[97,32,98]⟩:ByteArray).size = 3:=rfl
    simp only[List.mem_cons,List.not_mem_nil,or_false]at hx1
    rcases hx1 with rfl|rfl|rfl|rfl|rfl <;> omega
   exact⟨⟨p.tasks.set kk ⟨x,t.cost,t.deps⟩⟩,_,congrArg (fun z=>V.agg [V.own cI z]) (ia (t:=⟨x,t.cost,t.deps⟩)),rfl,B1 hp ⟨hxs,by dsimp only;omega⟩,by omega,by omega⟩
  ·by_cases c1:ac l (pos+1) 7 = 1
   ·have r2:=ak l (pos+1+1) 4
    obtain⟨x,hx1,hx2⟩:=cZ [0,-1,20,21] (ac l (pos+1+1) 4) r2.1 (by show _ < (4:Int);omega)
    have hx3:([[T.i 0],[T.i (-1)],[T.i 20],[T.i 21]]:List (List T))[(ac l (pos+1+1) 4).toNat]? = some [T.i x]:=hx2
    refine dy ?_
    conv=>whnf
    refine g 0 0 []<|J QZ<|g 9 11 [.call (eH p) O1]<|J QZ<|g 11 16 [.call (V.i (kk:Int)) ([rdC l (pos+1),[]])]<|J QZ<|Ws<|g 16 19 []<|J UD<|Wc<|J (noT SI) fun _=>Wk<|Ws<|g 19 22 [.call (V.i (ac l (pos+1) 7)) ([rdC l (pos+1+1),[]])]<|J (QA @aa)<|Wb<|g 36 37 []<|J UB<|Wc<|Jf ?_
    refine g 35 36 []<|J UB<|Wc<|Kt (rgd [[],[],[],[],[],[.call (V.i (ac l (pos+1+1) 4)) ([rdC l (pos+1+1+1),[]])],[.n (Int.toNat (ac l (pos+1+1) 4))],[.x ([T.i x])],[.n (kk)],[],[.x (ay t)]] ?_)
    conv=>whnf
    refine⟨⟨I,I,I,⟨UA,UA,UA,UA,I⟩,I,⟨UB,I,UV,UA,aa _ _ _ OM OM OM OM⟩,Zas,AS,Zao,I,⟨UA,xA⟩,I⟩,by kernel_rfl,?_⟩
    refine g 5 140 []<|J UV<|W.ret<|EndsW.rt<|J UB ?_
    exact⟨⟨p.tasks.set kk ⟨t.name,x,t.deps⟩⟩,_,congrArg (fun z=>V.agg [V.own cI z]) (ia (t:=⟨t.name,x,t.deps⟩)),rfl,B1 hp ⟨by dsimp only;omega,by dsimp only;omega⟩,by omega,by omega⟩
   ·by_cases c2:ac l (pos+1) 7 = 2
    ·have r2:=ak l (pos+1+1) 4
     obtain⟨x,hx1,hx2⟩:=cZ [(kk:Int),-1,0,(kk:Int) +1] (ac l (pos+1+1) 4) r2.1 (by show _ < (4:Int);omega)
     have hx3:([[T.i (kk:Int)],[T.i (-1)],[T.i 0],[T.i ((kk:Int) +1)]]:List (List T))[(ac l (pos+1+1) 4).toNat]? = some [T.i x]:=hx2
     refine dy ?_
     conv=>whnf
     refine g 0 0 []<|J QZ<|g 9 11 [.call (eH p) O1]<|J QZ<|g 11 16 [.call (V.i (kk:Int)) ([rdC l (pos+1),[]])]<|J QZ<|Ws<|g 16 19 []<|J UD<|Wc<|J (noT SI) fun _=>Wk<|Ws<|g 19 22 [.call (V.i (ac l (pos+1) 7)) ([rdC l (pos+1+1),[]])]<|J (QA @aa)<|Wb<|g 36 37 []<|J UB<|Wc<|Jf ?_
     refine g 35 36 []<|J UB<|Wc<|Jf<|g 54 56 []<|J UB<|Wc<|Kt (rgd [[],[],[],[],[],[],[.n (kk)],[],[.x (ay t)],[],[],[.i ((kk:Int) +1)],[],[],[.call (V.i (ac l (pos+1+1) 4)) ([rdC l (pos+1+1+1),[]])],[.n (Int.toNat (ac l (pos+1+1) 4))],[.x ([T.i x])],[],[.x (ay t)],[.n (kk)],[],[.x (List.set (ay t) (0+2) T.hole)]] ?_)
     conv=>whnf
     refine⟨⟨I,I,I,I,I,I,Zao,I,xA,I,I,wO,⟨UA,UA,UA,UA,I⟩,I,⟨UB,I,UV,UA,aa _ _ _ OM OM OM OM⟩,Zas,AS,US,⟨I,xA,LN⟩,Zao,I,⟨UA,jP LN⟩,I⟩,by kernel_rfl,?_⟩
     rw[List.set_set]
     refine g 5 140 []<|J UV<|W.ret<|EndsW.rt<|J UB ?_
     exact⟨⟨p.tasks.set kk ⟨t.name,t.cost,t.deps++ [x]⟩⟩,_,congrArg (fun z=>V.agg [V.own cI z]) ((congrArg ((p.tasks.map ay).set kk) (show _ = ay ⟨t.name,t.cost,t.deps++ [x]⟩ by show [T.s t.name,T.i t.cost,T.slc [false] (t.deps.map eA++ [eA x])] = _;rw[←Yk])).trans ia),rfl,B1 hp ⟨by dsimp only;omega,by dsimp only;rw[List.length_append];simp;omega⟩,by omega,by omega⟩
    ·by_cases c3:ac l (pos+1) 7 = 3
     ·refine dy ?_
      conv=>whnf
      refine g 0 0 []<|J QZ<|g 9 11 [.call (eH p) O1]<|J QZ<|g 11 16 [.call (V.i (kk:Int)) ([rdC l (pos+1),[]])]<|J QZ<|Ws<|g 16 19 []<|J UD<|Wc<|J (noT SI) fun _=>Wk<|Ws<|g 19 22 [.call (V.i (ac l (pos+1) 7)) ([rdC l (pos+1+1),[]])]<|J (QA @aa)<|Wb<|g 36 37 []<|J UB<|Wc<|Jf ?_
      refine g 35 36 []<|J UB<|Wc<|Jf<|g 54 56 []<|J UB<|Wc<|Jf<|g 66 68 []<|J UB<|Wc<|Kt (rg []<|J QZ (g 5 140 []<|J UV (W.ret (EndsW.rt<|J UB ?_))))
      exact⟨⟨[]⟩,_,rfl,rfl,⟨Nat.zero_le _,fun t ht=>by cases ht⟩,by omega,by omega⟩
     ·by_cases c4:ac l (pos+1) 7 = 4
      ·refine dy ?_
       conv=>whnf
       refine g 0 0 []<|J QZ<|g 9 11 [.call (eH p) O1]<|J QZ<|g 11 16 [.call (V.i (kk:Int)) ([rdC l (pos+1),[]])]<|J QZ<|Ws<|g 16 19 []<|J UD<|Wc<|J (noT SI) fun _=>Wk<|Ws<|g 19 22 [.call (V.i (ac l (pos+1) 7)) ([rdC l (pos+1+1),[]])]<|J (QA @aa)<|Wb<|g 36 37 []<|J UB<|Wc<|Jf ?_
       refine g 35 36 []<|J UB<|Wc<|Jf<|g 54 56 []<|J UB<|Wc<|Jf<|g 66 68 []<|J UB<|Wc<|Jf<|g 89 91 []<|J UB<|Wc<|Kt (g 22 95 []<|J UA (Wb ?_))
       refine Wl (fun s (x:Nat×List Task×Int)=>⟨(SK s [0,1,4,5] [(7,.i x.1)]),[(141,[s.c 141 0]),(4,[s.c 4 0]),(140,[.t (u8s l),.t (.i x.2.2)]),(5,[.own cI (x.2.1.map ay)])],[]⟩) (fun(x:Nat×List Task×Int)=>x.1≤41∧x.1≤x.2.1.length∧(x.2.1.length≤41∨x.2.1.length≤64∧x.1 = 0)∧(∀ t∈x.2.1,jx t)∧pos+2≤x.2.2∧x.2.2≤pos+2+x.1) (fun(x:Nat×List Task×Int)=>64 - x.2.1.length) ((0,p.tasks,pos+2)) [some 141,some 4,some 140,some 5] [] ⟨rfl,FZ,⟨⟨rfl,UA⟩,⟨FZ,⟨(R2 ⟨(congrArg (fun z=>V.t (T.v (Value.int _ z))) (by show pos+1+1 = pos+2;omega)),I⟩),FZ⟩⟩⟩,I⟩ ?_ ?_
       ·exact⟨Nat.zero_le _,Nat.zero_le _,.inr ⟨hp1,rfl⟩,(gq hp).2,Int.le_refl _,by show pos+2≤pos+2+ ((0:Nat):Int);omega⟩
       rintro⟨i,ts,q⟩ ⟨i1,i2,i3,i4,i5,i6⟩
       dsimp only at i1 i2 i3 i4 i5 i6
       have r3:=ak l q 2
       by_cases hlt:(ts.length:Int) < 40+ac l q 2
       ·have cd:=gf i OM OM
        have hds:=fK i
        conv=>whnf
        refine Ws<|gd 95 101 [[],[],[],[],[.call (V.i (ac l q 2)) ([rdC l (q+1),[]])],[.i (40+ac l q 2)],[]] ?_
        conv=>whnf
        refine J (QA @aa)<|J KR<|Wc<|J (fun _=>(Wk (Ws (Wb (rgd [[],[],[],[.call (V.s (dS (i:Int))) O1],[.s ({data:=#[(120:UInt8)]:ByteArray} ++dS (i:Int))],[],[],[],[],[]] ?_))))) (noF SI)
        conv=>whnf
        refine⟨⟨I,I,I,Zan,⟨rfl,(by simp only[bsz,bsa,ByteArray.size_append,List.size_toArray,ka];omega)⟩,I,⟨UC,I⟩,Zap,I,UA,I⟩,by kernel_rfl,?_⟩
        refine rg [.i ((↑(Prod.fst (i,ts,q)):Int) +1)]<|J QZ ?_
        refine⟨(i+1,ts++ [(⟨(⟨#[120]⟩:ByteArray) ++dS i,1,[]⟩:Task)],q+1),[some 141,some 4,some 140,some 5],[],⟨rfl,FZ,⟨⟨rfl,UA⟩,⟨FZ,⟨FZ,⟨⟨rfl,⟨(congrArg (V.own _) (by rw[List.map_append];rfl)),I⟩⟩,I⟩⟩⟩⟩,I⟩,?_,?_⟩
        rotate_left
        rotate_right 1
        dsimp only
        ·refine⟨by omega,by rw[my];omega,.inl (by rw[my];omega),PV i4 (Ou _ rfl i),by omega,by omega⟩
        ·show 64 - (ts++ [_]).length < 64 - ts.length
         rw[my];omega
       ·conv=>whnf
        refine Ws<|gd 95 101 [[],[],[],[],[.call (V.i (ac l q 2)) ([rdC l (q+1),[]])],[.i (40+ac l q 2)],[]] ?_
        conv=>whnf
        refine J (QA @aa)<|J KR<|Wc<|J (noT SI) fun _=>We<|g 5 140 []<|J UV<|W.ret<|EndsW.rt<|J UB ?_
        exact⟨⟨ts⟩,_,rfl,rfl,⟨by dsimp only;omega,i4⟩,by omega,by omega⟩
      ·by_cases c5:ac l (pos+1) 7 = 5
       ·refine dy ?_
        conv=>whnf
        refine g 0 0 []<|J QZ<|g 9 11 [.call (eH p) O1]<|J QZ<|g 11 16 [.call (V.i (kk:Int)) ([rdC l (pos+1),[]])]<|J QZ<|Ws<|g 16 19 []<|J UD<|Wc<|J (noT SI) fun _=>Wk<|Ws<|g 19 22 [.call (V.i (ac l (pos+1) 7)) ([rdC l (pos+1+1),[]])]<|J (QA @aa)<|Wb<|g 36 37 []<|J UB<|Wc<|Jf ?_
        refine g 35 36 []<|J UB<|Wc<|Jf<|g 54 56 []<|J UB<|Wc<|Jf<|g 66 68 []<|J UB<|Wc<|Jf<|g 89 91 []<|J UB<|Wc<|Jf<|g 22 95 []<|J UB<|Wc<|Kt (Ws (g 113 115 []<|J UA ?_))
        refine Wb ?_
        refine Wl (fun s (x:Nat×List Task)=>⟨(SK s [0,1,3,4,5,6] [(8,.i x.1)]),[(140,[s.c 140 0,s.c 140 1]),(141,[s.c 141 0]),(3,[s.c 3 0]),(4,[s.c 4 0]),(5,[.own cI (x.2.map ay)])],[]⟩) (fun(x:Nat×List Task)=>x.1≤12∧x.1≤x.2.length∧x.2.length≤64∧(∀ t∈x.2,jx t)) (fun(x:Nat×List Task)=>64 - x.2.length) ((0,p.tasks)) [some 140,some 141,some 3,some 4,some 5] [] ⟨rfl,FZ,⟨FZ,⟨⟨rfl,UA⟩,FZ⟩⟩,I⟩ ?_ ?_
        ·exact⟨Nat.zero_le _,Nat.zero_le _,hp1,(gq hp).2⟩
        rintro⟨i,ts⟩ ⟨i1,i2,i3,i4⟩
        dsimp only at i1 i2 i3 i4
        by_cases hlt:ts.length < 12
        ·have cd:=gf i OM OM
         have hds:=fK i
         conv=>whnf
         refine Ws<|g 115 118 []<|J UD<|Wc<|JD (fun h2=>?_) fun h2=>?_
         simp only[LM]at h2
         refine Wk<|Ws<|Wb<|rgd [[],[],[],[.call (V.s (dS (i:Int))) O1],[.s ({data:=#[(121:UInt8)]:ByteArray} ++dS (i:Int))],[],[],[],[],[]] ?_
         conv=>whnf
         refine J ⟨I,I,I,Zan,⟨rfl,(by simp only[bsz,bsa,ByteArray.size_append,List.size_toArray,ka];omega)⟩,I,⟨UC,I⟩,Zap,I,UA,I⟩<|J KR<|rg [.i ((↑(Prod.fst (i,ts)):Int) +1)]<|J QZ ?_
         rotate_left
         simp only[LM]at h2
         omega
         refine⟨(i+1,ts++ [(⟨(⟨#[121]⟩:ByteArray) ++dS i,1,[]⟩:Task)]),[some 140,some 141,some 3,some 4,some 5],[],⟨rfl,FZ,⟨FZ,⟨⟨rfl,UA⟩,⟨FZ,⟨FZ,⟨⟨rfl,⟨(congrArg (V.own _) (by rw[List.map_append];rfl)),I⟩⟩,I⟩⟩⟩⟩⟩,I⟩,?_,?_⟩
         rotate_left
         rotate_right 1
         dsimp only
         ·refine⟨by omega,by rw[my];omega,by rw[my];omega,PV i4 (Ou _ rfl i)⟩
         ·show 64 - (ts++ [_]).length < 64 - ts.length
          rw[my];omega
        ·obtain⟨t11,ht11⟩:=ae (xs:=ts) (n:=11) OM
         have r3:=ak l (pos+1+1) 2
         conv=>whnf
         refine Ws<|g 115 118 []<|J UD<|Wc<|J (fun h2=>?_) fun h2=>?_
         replace h2:=dt h2
         simp only[LM]at h2
         omega
         replace h2:=df h2
         simp only[LM]at h2
         refine We<|rgd [[],[],[],[],[.call (V.i (ac l (pos+1+1) 2)) ([rdC l (pos+1+1+1),[]])],[.i (8+ac l (pos+1+1) 2)],[.n (Int.toNat (8+ac l (pos+1+1) 2))],[.n (11)],[],[.x (ay t11)]] ?_
         conv=>whnf
         refine J (QA @aa)<|J KR<|g 5 140 []<|J UV<|W.ret<|EndsW.rt<|J UB ?_
         have hm11:=i4 t11 (List.mem_of_getElem? ht11)
         exact⟨⟨ts.set 11 ⟨t11.name,t11.cost,([0,1,2,3,4,5,6,7,8]:List Int).take (8+ac l (pos+1+1) 2).toNat⟩⟩,_,congrArg (fun z=>V.agg [V.own cI z]) ((congrArg ((ts.map ay).set 11) (show _ = ay ⟨t11.name,t11.cost,([0,1,2,3,4,5,6,7,8]:List Int).take (8+ac l (pos+1+1) 2).toNat⟩ by show [T.s t11.name,T.i t11.cost,T.slc [false] _] = [T.s t11.name,T.i t11.cost,T.slc [false] _];rw[List.drop_zero,List.map_take];rfl)).trans ia),rfl,Tk i3 i4 ⟨hm11.1,by dsimp only;rw[List.length_take];show min _ 9≤128;omega⟩,by omega,by omega⟩
       ·refine dy ?_
        conv=>whnf
        refine g 0 0 []<|J QZ<|g 9 11 [.call (eH p) O1]<|J QZ<|g 11 16 [.call (V.i (kk:Int)) ([rdC l (pos+1),[]])]<|J QZ<|Ws<|g 16 19 []<|J UD<|Wc<|J (noT SI) fun _=>Wk<|Ws<|g 19 22 [.call (V.i (ac l (pos+1) 7)) ([rdC l (pos+1+1),[]])]<|J (QA @aa)<|Wb<|g 36 37 []<|J UB<|Wc<|Jf ?_
        refine g 35 36 []<|J UB<|Wc<|Jf<|g 54 56 []<|J UB<|Wc<|Jf<|g 66 68 []<|J UB<|Wc<|Jf<|g 89 91 []<|J UB<|Wc<|Jf<|g 22 95 []<|J UB<|Wc<|Jf<|rgd [[],[],[],[],[],[],[.n (kk)],[],[.x (ay t)],[.s (t.name++ {data:=#[(122:UInt8)]:ByteArray})],[.n (kk)],[],[.x (ay t)]] ?_
        conv=>whnf
        refine⟨⟨I,I,I,I,I,I,Zao,I,xA,⟨rfl,(by simp only[bsz,bsa,ByteArray.size_append,List.size_toArray,ka];omega)⟩,Zao,I,⟨UA,xA⟩,I⟩,by kernel_rfl,?_⟩
        refine g 5 34 []<|J UV<|W.ret<|EndsW.rt<|J UB ?_
        have e1:(⟨#[122]⟩:ByteArray).size = 1:=rfl
        exact⟨⟨p.tasks.set kk ⟨t.name++ ⟨#[122]⟩,t.cost,t.deps⟩⟩,_,congrArg (fun z=>V.agg [V.own cI z]) (ia (t:=⟨t.name++ ⟨#[122]⟩,t.cost,t.deps⟩)),rfl,B1 hp ⟨by dsimp only;rw[ByteArray.size_append];omega,by dsimp only;omega⟩,by omega,by omega⟩
theorem xp(l:List Int)(pos:Int)(p:Plan)(h:dl p∧dM l∧0≤pos∧pos≤1000000):∃ x:Plan×Int,F kr [.ptr (rdC l pos),.val (eH p)] (eH x.1) [rdC l x.2,[]]∧kR x.1∧pos≤x.2∧x.2≤pos+100:=by
 obtain⟨res,outs,⟨q,pos2,rfl,rfl,h1,h2,h3⟩,hF⟩:=TE l pos p h.1 h.2.1 h.2.2.1 h.2.2.2
 exact⟨(q,pos2),hF,h1,h2,h3⟩
open Classical in
noncomputable def ox(l:List Int)(pos:Int)(p:Plan):Plan×Int:=if h:dl p∧dM l∧0≤pos∧pos≤1000000 then(xp l pos p h).choose else(⟨[]⟩,pos)
theorem A6(l:List Int)(pos:Int)(p:Plan)(hp:dl p)(hl:dM l)(h0:0≤pos)(h1:pos≤1000000):F kr [.ptr (rdC l pos),.val (eH p)] (eH (ox l pos p).1) [rdC l (ox l pos p).2,[]]:=by
 have h:dl p∧dM l∧0≤pos∧pos≤1000000:=⟨hp,hl,h0,h1⟩
 rw[ox,dif_pos h]
 exact(xp l pos p h).choose_spec.1
theorem S5(l:List Int)(pos:Int)(p:Plan):kR (ox l pos p).1∧pos≤(ox l pos p).2∧(ox l pos p).2≤pos+100:=by
 unfold ox
 split
 ·rename_i h;exact(xp l pos p h).choose_spec.2
 ·exact⟨⟨Nat.zero_le _,fun t ht=>by cases ht⟩,Int.le_refl _,by dsimp only;omega⟩
end Go.K
end
section
open Go Go.Tm Go.Proofs
namespace Go.K
theorem pi(m:Message)(hl:m.inputs.length≤9223372036854775806):F Jq [.val (fb m)] (.b (decide (bN m))) O1:=by
 refine JI ?_
 conv=>whnf
 refine g 0 1 []<|J QZ<|Ws ?_
 by_cases h1:(1:Int)≤Message.kind m∧Message.kind m≤(5:Int)
 refine g 13 15 [.call (V.b (decide (1≤m.kind∧m.kind≤5))) O3,BF,BF,BF,.call (V.b (decide (1≤m.epoch∧m.epoch≤300))) O3,BF,BF]<|J (QA @aw)<|Wc<|JN (fun h2=>?_) fun h2=>?_
 refine g 8 9 []<|J UA<|RT ?_
 rotate_left
 refine Wk<|g 20 25 [.call (V.tup [V.b (decide (1≤m.kind∧m.kind≤4)),V.b (decide (m.kind = 1∨m.kind = 3)),V.b (decide (m.kind = 3)),V.b (decide (m.kind = 1)),V.b (decide (m.kind = 1∨m.kind = 4))]) O1]<|J (QA @rb)<|Ws ?_
 by_cases h3:Message.kind m = (1:Int)∨Message.kind m = (4:Int)
 by_cases h4:Message.frm m = (0:Int)
 by_cases h5:(1:Int)≤Message.to m∧Message.to m≤(8:Int)
 refine g 29 53 (BT::BT::BT::BT::BF::BF::BF::.call (V.b (decide (1≤m.to∧m.to≤8))) O3::BF::BT::BF::BT::(RL 15 BF []))<|J (QA @aw)<|Wc<|Jr<|Wk<|Ws ?_
 by_cases h6:(1:Int)≤Message.lease m∧Message.lease m≤(300000000:Int)
 by_cases h7:Message.kind m = (1:Int)∨Message.kind m = (3:Int)
 by_cases h8:(0:Int)≤Message.task m∧Message.task m≤(39:Int)
 refine g 11 87 (BT::BT::BT::.call (V.b (decide (1≤m.lease∧m.lease≤300000000))) O1::BT::BT::(RL 11 BF (BT::BT::BT::.call (V.b (decide (0≤m.task∧m.task≤39))) O3::BT::BF::BT::(RL 10 BF [])))) ?_
 conv=>whnf
 refine J (QB @aC @aw)<|Wc<|Jr<|Wk<|Ws<|g 10 103 (RL 8 BF [BT,BT,BT,BF,BT,BF])<|J QZ<|Wc<|JN (fun h9=>?_) fun h9=>?_
 refine g 7 9 []<|J UA<|RT ?_
 rotate_left
 refine Wk ?_
 by_cases h10:fm (Message.inputs m)
 refine g 5 120 [BT,BT,BT,.call (V.b (decide (fm m.inputs))) O1,BT,BT,BT,BT,BF,BF,BF,BF,BT,BT]<|J (QA @fB)<|RT ?_
 rotate_left
 refine g 5 120 (BT::BT::BT::.call (V.b (decide (fm m.inputs))) O1::BT::(RL 10 BF []))<|J (QA @fB)<|RT ?_
 rotate_left
 refine g 11 87 (BT::BT::BT::.call (V.b (decide (1≤m.lease∧m.lease≤300000000))) O1::BT::BT::(RL 11 BF [BT,BT,BT,.call (V.b (decide (0≤m.task∧m.task≤39))) O3,BT,BF,BT,BF,BT,BT,BT,BF,BF,BF,BT,BT])) ?_
 conv=>whnf
 refine J (QB @aC @aw)<|Wc<|Kr (g 3 4 []<|J UA (RT ?_))
 rotate_left
 refine g 11 87 (BT::BT::BT::.call (V.b (decide (1≤m.lease∧m.lease≤300000000))) O1::BT::BT::(RL 21 BF [BT,BT,BT,BF,BT,BF])) ?_
 conv=>whnf
 refine J (QA @aC)<|Wc<|JN (fun h8=>?_) fun h8=>?_
 refine g 3 4 []<|J UA<|RT ?_
 rotate_left
 refine Wk<|Ws<|g 10 103 (RL 8 BF [BT,BT,BT,BF,BT,BF])<|J QZ<|Wc<|JN (fun h9=>?_) fun h9=>?_
 refine g 7 9 []<|J UA<|RT ?_
 rotate_left
 refine Wk<|g 5 120 (RL 7 BF [BT,BT,BT,BT,BF,BT,BF])<|J QZ<|RT ?_
 rotate_left
 refine g 11 87 [BT,BT,BT,.call (V.b (decide (1≤m.lease∧m.lease≤300000000))) O1,BT,BT,BT,BT,BT,BF,BF,BF,BT,BT,BT,BT,BF,BF,BF,BF,BT,BT,BT,BT,BT,BF,BF,BF,BT,BT] ?_
 conv=>whnf
 refine J (QA @aC)<|Wc<|Kr (g 3 4 []<|J UA (RT ?_))
 rotate_left
 refine g 29 53 (BT::BT::BT::BT::BF::BF::BF::.call (V.b (decide (1≤m.to∧m.to≤8))) O3::BF::BT::BF::BT::BT::BT::BT::(RL 9 BF [BT,BT]))<|J (QA @aw)<|Wc<|Kr (g 11 16 []<|J UA (RT ?_))
 rotate_left
 refine g 29 53 (RL 14 BT (RL 9 BF [BT,BT]))<|J QZ<|Wc<|Kr (g 11 16 []<|J UA (RT ?_))
 rotate_left
 by_cases h4:Message.to m = (0:Int)
 refine g 29 53 (RL 13 BF [BT,BT,BT,BT,BF,BF,BF,.call (V.b (decide (1≤m.frm∧m.frm≤8))) O3,BF,BT,BF,BF,BT,BF])<|J (QA @aw)<|Wc<|JN (fun h5=>?_) fun h5=>?_
 refine g 11 16 []<|J UA<|RT ?_
 rotate_left
 refine Wk<|Ws ?_
 by_cases h6:(1:Int)≤Message.kind m∧Message.kind m≤(4:Int)
 by_cases h7:(1:Int)≤Message.lease m∧Message.lease m≤(300000000:Int)
 by_cases h8:Message.kind m = (1:Int)∨Message.kind m = (3:Int)
 by_cases h9:(0:Int)≤Message.task m∧Message.task m≤(39:Int)
 refine g 11 87 (BT::BT::BT::.call (V.b (decide (1≤m.lease∧m.lease≤300000000))) O1::BT::BT::(RL 11 BF (BT::BT::BT::.call (V.b (decide (0≤m.task∧m.task≤39))) O3::BT::BF::BT::(RL 10 BF [])))) ?_
 conv=>whnf
 refine J (QB @aC @aw)<|Wc<|Jr<|Wk<|Ws ?_
 by_cases h10:(↑(ByteArray.size (Message.text m)):Int) = (8:Int)
 refine g 10 103 (BT::BT::BT::BT::BT::(RL 9 BF []))<|J QZ<|Wc<|Jr<|Wk<|g 5 120 (RL 7 BF [BT,BT,BT,BT,BF,BT,BF])<|J QZ<|RT ?_
 rotate_left
 refine g 10 103 (RL 8 BT [BF,BF,BF,BT,BT])<|J QZ<|Wc<|Kr (g 7 9 []<|J UA (RT ?_))
 rotate_left
 refine g 11 87 (BT::BT::BT::.call (V.b (decide (1≤m.lease∧m.lease≤300000000))) O1::BT::BT::(RL 11 BF [BT,BT,BT,.call (V.b (decide (0≤m.task∧m.task≤39))) O3,BT,BF,BT,BF,BT,BT,BT,BF,BF,BF,BT,BT])) ?_
 conv=>whnf
 refine J (QB @aC @aw)<|Wc<|Kr (g 3 4 []<|J UA (RT ?_))
 rotate_left
 refine g 11 87 (BT::BT::BT::.call (V.b (decide (1≤m.lease∧m.lease≤300000000))) O1::BT::BT::(RL 21 BF [BT,BT,BT,BF,BT,BF])) ?_
 conv=>whnf
 refine J (QA @aC)<|Wc<|JN (fun h9=>?_) fun h9=>?_
 refine g 3 4 []<|J UA<|RT ?_
 rotate_left
 refine Wk<|Ws<|g 10 103 (RL 8 BF [BT,BT,BT,BF,BT,BF])<|J QZ<|Wc<|JN (fun h10=>?_) fun h10=>?_
 refine g 7 9 []<|J UA<|RT ?_
 rotate_left
 refine Wk<|g 5 120 (RL 7 BF [BT,BT,BT,BT,BF,BT,BF])<|J QZ<|RT ?_
 rotate_left
 refine g 11 87 [BT,BT,BT,.call (V.b (decide (1≤m.lease∧m.lease≤300000000))) O1,BT,BT,BT,BT,BT,BF,BF,BF,BT,BT,BT,BT,BF,BF,BF,BF,BT,BT,BT,BT,BT,BF,BF,BF,BT,BT] ?_
 conv=>whnf
 refine J (QA @aC)<|Wc<|Kr (g 3 4 []<|J UA (RT ?_))
 rotate_left
 by_cases h7:Message.lease m = (0:Int)
 refine g 11 87 (RL 8 BF (BT::BT::BT::BF::BT::(RL 13 BF [BT,BT,BT,BF,BT,BF]))) ?_
 conv=>whnf
 refine J QZ<|Wc<|JN (fun h8=>?_) fun h8=>?_
 refine g 3 4 []<|J UA<|RT ?_
 rotate_left
 refine Wk<|Ws<|g 10 103 (RL 8 BF [BT,BT,BT,BF,BT,BF])<|J QZ<|Wc<|JN (fun h9=>?_) fun h9=>?_
 refine g 7 9 []<|J UA<|RT ?_
 rotate_left
 refine Wk<|g 5 120 (RL 7 BF [BT,BT,BT,BT,BF,BT,BF])<|J QZ<|RT ?_
 rotate_left
 refine g 11 87 (RL 8 BF [BT,BT,BT,BF,BT,BF,BT,BT,BF,BF,BF,BF,BT,BT,BT,BT,BT,BF,BF,BF,BT,BT]) ?_
 conv=>whnf
 refine J QZ<|Wc<|Kr (g 3 4 []<|J UA (RT ?_))
 rotate_left
 refine g 29 53 (RL 13 BF (RL 10 BT [BF,BT,BF]))<|J QZ<|Wc<|Kr (g 11 16 []<|J UA (RT ?_))
 rotate_left
 refine g 13 15 [.call (V.b (decide (1≤m.kind∧m.kind≤5))) O3,BT,BT,BT,BT,BT]<|J (QA @aw)<|Wc<|Kr (g 8 9 []<|J UA (RT ?_))
 rotate_left
 all_goals (try simp only[List.length_map,decide_eq_true_eq,Bool.not_eq_true,Bool.not_eq_true',decide_eq_false_iff_not]at *)
 all_goals first
  |exact vbf (by unfold bN;grind)
  |exact vbt (by unfold bN;grind)
  |exact vbd (by unfold bN;grind)
end Go.K
end
section
open Go Go.Tm Go.Proofs
namespace Go.K
def B7(m:Message):List Int:=[m.kind,m.frm,m.to,m.epoch / 256,m.epoch % 256,m.lease / 16777216,m.lease / 65536 % 256,m.lease / 256 % 256,m.lease % 256,m.task,m.inputs.length]
def jJ:List ByteArray→ByteArray
 |[]=>emp
 |x :: l=>x++jJ l
theorem Na(s:ByteArray):emp++s = s:=by apply ByteArray.ext;simp[emp]
theorem IX(s:ByteArray):s++emp = s:=by apply ByteArray.ext;simp[emp]
theorem CY:∀ a b,jJ (a++b) = jJ a++jJ b
 |[],b=>by simp only[List.nil_append,jJ,Na]
 |x :: a,b=>by simp only[List.cons_append,jJ,CY a b,ByteArray.append_assoc]
theorem Gz{xs:List ByteArray}{n:Nat}{x:ByteArray}(h:xs[n]? = some x):jJ (xs.take (n+1)) = jJ (xs.take n) ++x:=by
 rw[List.take_add_one,h,CY];simp only[Option.toList,jJ,IX]
def dG(m:Message):ByteArray:=bl (B7 m) ++m.text++jJ m.inputs
theorem GB{l:List Int}(h:∀ n∈l,0≤n∧n≤255):cN (bl l) = l.map b1T:=by
 unfold cN bl b1T
 simp only[List.map_map]
 apply List.map_congr_left
 intro n hn
 obtain⟨h1,h2⟩:=h n hn
 simp only[Function.comp]
 congr 4
 simp;omega
theorem dw{m:Message}(h:bN m):m.inputs.length≤8∧(∀ s∈m.inputs,s.size = 8)∧m.text.size≤8:=by
 have he:emp.size = 0:=rfl
 obtain⟨_,h|h|h|h|h⟩:=h
 ·obtain⟨_,_,_,_,_,h1,h2,h3⟩:=h
  exact⟨h3,h2,by rw[h1];omega⟩
 all_goals
  obtain⟨_,_,_,_,_,h1,h2⟩:=h
  have:m.inputs = []:=List.eq_nil_of_length_eq_zero OM
  rw[this]
  refine⟨by simp,(fun s hs=>nomatch hs),?_⟩
  first
   |(rw[h1];omega)
   |omega
theorem gr{m:Message}(h:bN m):(1≤m.kind∧m.kind≤5)∧(0≤m.frm∧m.frm≤8)∧(0≤m.to∧m.to≤8)∧(1≤m.epoch∧m.epoch≤300)∧(0≤m.lease∧m.lease≤300000000)∧(0≤m.task∧m.task≤39):=by
 obtain⟨h0,h|h|h|h|h⟩:=h
 all_goals
  obtain⟨h1,h2,h3,h4,h5,_⟩:=h
  refine⟨?_,?_,?_,h0,?_,?_⟩ <;> omega
theorem Gh{m:Message}(h:bN m):∀ n∈B7 m,0≤n∧n≤255:=by
 obtain⟨h1,h2,h3,h4,h5,h6⟩:=gr h
 have h7:=(dw h).1
 intro n hn
 simp only[B7,List.mem_cons,List.not_mem_nil,or_false]at hn
 rcases hn with rfl|rfl|rfl|rfl|rfl|rfl|rfl|rfl|rfl|rfl|rfl <;> omega
def hY(m:Message)(n:Nat):ByteArray:=bl (B7 m) ++m.text++jJ (m.inputs.take n)
theorem sQ(m:Message):hY m 0 = bl (B7 m) ++m.text:=by unfold hY;rw[List.take_zero,jJ,IX]
theorem Cr{m:Message}{n:Nat}{x:ByteArray}(h:m.inputs[n]? = some x):cN (hY m n) ++cN x = cN (hY m (n+1)):=by
 unfold hY;rw[Gz h,←oc];simp only[ByteArray.append_assoc]
theorem xB(m:Message):hY m m.inputs.length = dG m:=by unfold hY dG;rw[List.take_length]
theorem sR{m:Message}(h:bN m)(n:Nat)(hn:n≤m.inputs.length):(hY m n).size = 11+m.text.size+8 * n:=by
 obtain⟨h7,h8,h9⟩:=dw h
 induction n with
 |zero=>rw[sQ,ByteArray.size_append,gZ];rfl
 |succ k ih =>
  have hk:k < m.inputs.length:=by omega
  have:=congrArg List.length (Cr (List.getElem?_eq_getElem hk))
  rw[List.length_append,gR,gR,gR,ih OM,h8 _ (List.getElem_mem hk)]at this
  omega
theorem Ni{m:Message}(h:bN m):[m.kind,m.frm,m.to,IntKind.u8.wrap (IntKind.i64.wrap (m.epoch.tdiv 256)),IntKind.u8.wrap (m.epoch.tmod 256),IntKind.u8.wrap (IntKind.i64.wrap (m.lease.tdiv 16777216)),IntKind.u8.wrap ((IntKind.i64.wrap (m.lease.tdiv 65536)).tmod 256),IntKind.u8.wrap ((IntKind.i64.wrap (m.lease.tdiv 256)).tmod 256),IntKind.u8.wrap (m.lease.tmod 256),m.task,IntKind.u8.wrap ((m.inputs.map ah).length:Int)].map b1T++cN m.text = cN (hY m 0):=by
 obtain⟨h1,h2,h3,h4,h5,h6⟩:=gr h
 have h7:=(dw h).1
 rw[sQ,oc,GB (Gh h)]
 unfold B7
 rw[List.length_map,Int.tdiv_eq_ediv_of_nonneg OM,Int.tdiv_eq_ediv_of_nonneg OM,Int.tdiv_eq_ediv_of_nonneg OM,Int.tdiv_eq_ediv_of_nonneg OM,w64 (z:=m.lease / 65536) OM OM,w64 (z:=m.lease / 256) OM OM,w64 (z:=m.lease / 16777216) OM OM,w64 (z:=m.epoch / 256) OM OM,Int.tmod_eq_emod_of_nonneg OM,Int.tmod_eq_emod_of_nonneg OM,Int.tmod_eq_emod_of_nonneg OM,Int.tmod_eq_emod_of_nonneg OM,wu8 OM OM,wu8 OM OM,wu8 OM OM,wu8 OM OM,wu8 OM OM,wu8 OM OM,wu8 OM OM]
theorem EL(m:Message)(h:bN m):F Du [.val (fb m)] (.s (dG m)) O1:=by
 obtain⟨h1,h2,h3,h4,h5,h6⟩:=gr h
 obtain⟨h7,h8,h9⟩:=dw h
 refine D9 ?_
 conv=>whnf
 refine g 0 0 []<|J QZ<|g 0 0 []<|J UC<|g 10 47 [.i m.kind,.i m.frm,.i m.to,.i (IntKind.wrap IntKind.i64 (Int.tdiv m.epoch 256)),.i (IntKind.wrap IntKind.u8 (IntKind.wrap IntKind.i64 (Int.tdiv m.epoch 256))),.i (Int.tmod m.epoch 256),.i (IntKind.wrap IntKind.u8 (Int.tmod m.epoch 256)),.i (IntKind.wrap IntKind.i64 (Int.tdiv m.lease 16777216)),.i (IntKind.wrap IntKind.u8 (IntKind.wrap IntKind.i64 (Int.tdiv m.lease 16777216))),.i (IntKind.wrap IntKind.i64 (Int.tdiv m.lease 65536)),.i (Int.tmod (IntKind.wrap IntKind.i64 (Int.tdiv m.lease 65536)) 256),.i (IntKind.wrap IntKind.u8 (Int.tmod (IntKind.wrap IntKind.i64 (Int.tdiv m.lease 65536)) 256)),.i (IntKind.wrap IntKind.i64 (Int.tdiv m.lease 256)),.i (Int.tmod (IntKind.wrap IntKind.i64 (Int.tdiv m.lease 256)) 256),.i (IntKind.wrap IntKind.u8 (Int.tmod (IntKind.wrap IntKind.i64 (Int.tdiv m.lease 256)) 256)),.i (Int.tmod m.lease 256),.i (IntKind.wrap IntKind.u8 (Int.tmod m.lease 256)),.i m.task,.i (IntKind.wrap IntKind.u8 (↑(List.length (List.map ah m.inputs)):Int))]<|J QZ<|g 47 51 []<|J QZ<|Ws<|g 6 9 []<|J UA<|Wb<|Wl (fun s (n:Nat)=>⟨[(1,s.s 1),(2,s.s 2),(4,.ref ⟨4,none,0⟩),(5,.i n),(9,s.s 9)],[(1,(CK s 1 0 8 [])),(4,[.own [false] (cN (hY m n))])],[]⟩) (fun(n:Nat)=>n≤m.inputs.length) (fun(n:Nat)=>m.inputs.length - n) (0) [some 1,some 50] [] ⟨rfl,FZ,⟨FZ,⟨⟨rfl,⟨(congrArg (V.own _) (Ni h)),I⟩⟩,I⟩⟩,I⟩ OM ?_
 intro n hn
 have hc:=sR h n hn
 have hb:=gR (hY m n)
 conv=>whnf
 refine Ws<|g 51 55 []<|J UE<|Wc<|JD (fun h10=>?_) fun h10=>?_
 simp only[LM]at h10
 refine Wk<|Ws<|Wb ?_
 obtain⟨y1,hy1⟩:=ae (xs:=Message.inputs m) (n:=n) OM
 have hm1:=h8 y1 (List.mem_of_getElem? hy1)
 refine rg [.x (ah y1)]<|J QZ<|rg [.i ((n:Int) +1)]<|J QZ ?_
 rotate_left
 simp only[LM]at h10
 refine We<|g 55 67 [.s (hY m n)]<|J ⟨I,⟨I,j4 _,(ku _).symm⟩,I,I⟩<|RT ?_
 rotate_left
 ·refine⟨n+1,[some 1,some 64],[],⟨rfl,FZ,⟨FZ,⟨⟨rfl,⟨(congrArg (V.own _) (Cr AS)),I⟩⟩,I⟩⟩,I⟩,?_,?_⟩
  rotate_left
  (dsimp only;omega)
  dsimp only
  omega
 ·exact vs (by rw[show n = m.inputs.length from by omega,xB])
end Go.K
end
section
open Go Go.Tm Go.Proofs
namespace Go.K
attribute [local irreducible] ByteArray.extract
def dY(m:Message)(key:ByteArray):ByteArray:=if bN m∧key.size≤30 then fS (dG m) key++dG m else emp
theorem gS{m:Message}(h:bN m):(dG m).size = 11+m.text.size+8 * m.inputs.length:=by
 rw[←xB,sR h _ (Nat.le_refl _)]
theorem dX(m:Message)(key:ByteArray)(hl:m.inputs.length≤9223372036854775806):F rq [.val (fb m),.val (.s key)] (.s (dY m key)) O2:=by
 have c1:=pi m hl
 have c2:=EL m
 by_cases h:bN m
 ·have hb:=gS h
  obtain⟨h7,h8,h9⟩:=dw h
  rw[show decide (bN m) = true from decide_eq_true h]at c1
  have c3:=c2 h
  clear c2
  by_cases hk:key.size≤30
  ·have c4:=nG (key++nul++dG m) (by rw[ByteArray.size_append,ByteArray.size_append];have:nul.size = 1:=rfl;omega)
   rw[ik,show bl (beL (gQ h0v (key++nul++dG m)) 8) = fS (dG m) key from rfl]at c4
   have hn:nul.size = 1:=rfl
   have h2:(fS (dG m) key).size = 8:=ef _
   refine gF ?_
   conv=>whnf
   refine g 0 1 []<|J QZ<|Ws<|g 6 9 [.call VT O1,BF,BF,BF,BF]<|J QZ<|Wc<|Jf<|Wk<|g 10 16 [.call (V.s (dG m)) O1]<|J QZ<|g 16 23 [.s (key++ {data:=#[(0:UInt8)]:ByteArray}),.s (key++ {data:=#[(0:UInt8)]:ByteArray} ++dG m),.call (V.s (fS (dG m) key)) O1,.s (fS (dG m) key++dG m)]<|J ⟨I,⟨rfl,(by simp only[bsz,bsa,ByteArray.size_append,List.size_toArray,ka];omega)⟩,I,⟨rfl,(by simp only[bsz,bsa,ByteArray.size_append,List.size_toArray,ka];omega)⟩,Zan,I,⟨rfl,OM⟩,I,I⟩<|RT ?_
   exact vs (if_pos ⟨h,hk⟩).symm
  ·refine gF ?_
   conv=>whnf
   refine g 0 1 []<|J QZ<|Ws<|g 6 9 [.call VT O1,BF,BF,BF,BF]<|J QZ<|Wc<|Kt (g 10 14 []<|J UA (RT ?_))
   exact vs (if_neg (fun h=>hk h.2)).symm
 ·rw[show decide (bN m) = false from decide_eq_false h]at c1
  clear c2
  refine gF ?_
  conv=>whnf
  refine g 0 1 []<|J QZ<|Ws<|g 6 9 [.call VF O1,BT,BT,BT,BT]<|J QZ<|Wc<|Kr (g 10 14 []<|J UA (RT ?_))
  exact vs (if_neg (fun x=>h x.1)).symm
def cM(r:ByteArray)(n:Nat):List ByteArray:=(List.range n).map fun k=>r.extract (8 * k) (8 * k+8)
def rdM(b:ByteArray):Message :=
 ⟨byt b 0,byt b 1,byt b 2,byt b 3 * 256+byt b 4,byt b 5 * 16777216+byt b 6 * 65536+byt b 7 * 256+byt b 8,byt b 9,if byt b 0 = 3 then b.extract 11 b.size else emp,if byt b 0 = 3 then []else cM (b.extract 11 b.size) ((b.size - 11) / 8)⟩
def eO(s key:ByteArray):Option Message:=if s.size < 19∨dY (rdM (s.extract 8 s.size)) key≠s then none else some (rdM (s.extract 8 s.size))
def gJ:Option Message→V
 |none=>.tup [bC Qi,.b false]
 |some m=>.tup [bC m,.b true]
theorem pg(r:ByteArray)(n:Nat):cM r (n+1) = cM r n++ [r.extract (8 * n) (8 * n+8)]:=by
 unfold cM;rw[List.range_succ,List.map_append];rfl
def rdF(b:ByteArray)(t:ByteArray)(l:List ByteArray):Message :=
 ⟨byt b 0,byt b 1,byt b 2,byt b 3 * 256+byt b 4,byt b 5 * 16777216+byt b 6 * 65536+byt b 7 * 256+byt b 8,byt b 9,t,l⟩
theorem oX{s key:ByteArray}(h:s.size < 19):eO s key = none:=if_pos (Or.inl h)
theorem KL{s key:ByteArray}{m:Message}(h:rdM (s.extract 8 s.size) = m)(h2:¬dY m key = s):eO s key = none:=if_pos (Or.inr (by rw[h];exact h2))
theorem pX{s key:ByteArray}{m:Message}(h0:¬s.size < 19)(h:rdM (s.extract 8 s.size) = m)(h2:dY m key = s):eO s key = some m:=by
 unfold eO;rw[h,if_neg];rintro(h|h);exact h0 h;exact h h2
def bE(s:ByteArray):ByteArray:=(s.extract 8 s.size).extract 11 (s.extract 8 s.size).size
def kP(s:ByteArray)(n:Nat):ByteArray:=(bE s).extract (8 * n) (bE s).size
theorem Mr(s:ByteArray):bE s = kP s 0:=by unfold kP;rw[Nat.mul_zero,ByteArray.extract_zero_size]
theorem Mu{s:ByteArray}{n:Nat}(hz:(bE s).size = s.size - 19)(h:8 * n≤s.size - 19):(kP s n).size = s.size - 19 - 8 * n:=by
 unfold kP;rw[ByteArray.size_extract];omega
theorem Mv{s:ByteArray}{n:Nat}(h:8 * n+8≤(bE s).size):(kP s n).extract 0 8 = (bE s).extract (8 * n) (8 * n+8):=by
 unfold kP;rw[ByteArray.extract_extract,Nat.min_eq_left OM,Nat.add_zero]
theorem Ms(s:ByteArray)(n:Nat)(h:8 * n+8≤(bE s).size):(kP s n).extract 8 (kP s n).size = kP s (n+1):=by
 have:(kP s n).size = (bE s).size - 8 * n:=by unfold kP;rw[ByteArray.size_extract];omega
 rw[this]
 unfold kP;rw[ByteArray.extract_extract,show 8 * n+8 = 8 * (n+1) by omega,show min (8 * n+ ((bE s).size - 8 * n)) (bE s).size = (bE s).size by omega]
theorem sO(r:ByteArray)(n:Nat):(cM r n).length = n:=by unfold cM;rw[List.length_map,List.length_range]
theorem JX{s:ByteArray}{n:Nat}(h:8 * n+8≤(bE s).size):(cM (bE s) n).map ah++ [ah ((kP s n).extract 0 8)] = (cM (bE s) (n+1)).map ah:=by
 rw[pg,List.map_append,Mv h];rfl
theorem ke(tx key:ByteArray)(ht:tx.size≤68719476736):F rp [.val (.s tx),.val (.s key)] (gJ (eO tx key)) O2:=by
 by_cases h0:tx.size < 19
 ·refine gE ?_
  conv=>whnf
  refine g 0 0 []<|J UB<|Ws<|g 9 11 []<|J UC<|Wc<|Kt (g 11 13 []<|J QZ (RT ?_))
  exact congrArg gJ (oX h0).symm
 have hx:(tx.extract 8 tx.size).size = tx.size - 8:=by rw[ByteArray.size_extract];omega
 obtain⟨y1,hy1,hb1⟩:=bF (s:=tx.extract 8 tx.size) (n:=0) OM
 obtain⟨y2,hy2,hb2⟩:=bF (s:=tx.extract 8 tx.size) (n:=1) OM
 obtain⟨y3,hy3,hb3⟩:=bF (s:=tx.extract 8 tx.size) (n:=2) OM
 obtain⟨y4,hy4,hb4⟩:=bF (s:=tx.extract 8 tx.size) (n:=3) OM
 obtain⟨y5,hy5,hb5⟩:=bF (s:=tx.extract 8 tx.size) (n:=4) OM
 obtain⟨y6,hy6,hb6⟩:=bF (s:=tx.extract 8 tx.size) (n:=5) OM
 obtain⟨y7,hy7,hb7⟩:=bF (s:=tx.extract 8 tx.size) (n:=6) OM
 obtain⟨y8,hy8,hb8⟩:=bF (s:=tx.extract 8 tx.size) (n:=7) OM
 obtain⟨y9,hy9,hb9⟩:=bF (s:=tx.extract 8 tx.size) (n:=8) OM
 obtain⟨y10,hy10,hb10⟩:=bF (s:=tx.extract 8 tx.size) (n:=9) OM
 have e:∀ t l,rdF (tx.extract 8 tx.size) t l = ⟨y1.toNat,y2.toNat,y3.toNat,(y4.toNat:Int) * 256+y5.toNat,(y6.toNat:Int) * 16777216+ (y7.toNat:Int) * 65536+ (y8.toNat:Int) * 256+y9.toNat,y10.toNat,t,l⟩:=by
  intro t l;simp only[rdF,bM hy1,bM hy2,bM hy3,bM hy4,bM hy5,bM hy6,bM hy7,bM hy8,bM hy9,bM hy10]
 by_cases h3:(y1.toNat:Int) = 3
 ·have e1:rdM (tx.extract 8 tx.size) = ⟨y1.toNat,y2.toNat,y3.toNat,(y4.toNat:Int) * 256+y5.toNat,(y6.toNat:Int) * 16777216+ (y7.toNat:Int) * 65536+ (y8.toNat:Int) * 256+y9.toNat,y10.toNat,(tx.extract 8 tx.size).extract 11 (tx.extract 8 tx.size).size,[]⟩:=by
   rw[←e];unfold rdM rdF;rw[bM hy1,if_pos h3,if_pos h3]
  have c1:=dX (rdM (tx.extract 8 tx.size)) key (by rw[e1];simp)
  rw[e1]at c1
  refine gE ?_
  conv=>whnf
  refine g 0 0 []<|J UB<|Ws<|g 9 11 []<|J UC<|Wc<|Jf<|Wk<|g 11 15 [.n (8),.s (ByteArray.extract tx 8 (ByteArray.size tx))]<|J QZ<|gd 15 36 [[],[.i ((↑(UInt8.toNat y1):Int))],[.i ((↑(UInt8.toNat y1):Int))],[],[.i ((↑(UInt8.toNat y2):Int))],[.i ((↑(UInt8.toNat y2):Int))],[],[.i ((↑(UInt8.toNat y3):Int))],[.i ((↑(UInt8.toNat y3):Int))],[],[.i ((↑(UInt8.toNat y4):Int))],[.i ((↑(UInt8.toNat y4):Int))],[.i ((↑(UInt8.toNat y4):Int) * 256)],[],[.i ((↑(UInt8.toNat y5):Int))],[.i ((↑(UInt8.toNat y5):Int))],[.i ((↑(UInt8.toNat y4):Int) * 256+ (↑(UInt8.toNat y5):Int))],[],[.i ((↑(UInt8.toNat y10):Int))],[.i ((↑(UInt8.toNat y10):Int))],[],[],[]] ?_
  conv=>whnf
  refine J QZ<|J KR<|gd 36 55 [[],[.i ((↑(UInt8.toNat y6):Int))],[.i ((↑(UInt8.toNat y6):Int))],[.i ((↑(UInt8.toNat y6):Int) * 16777216)],[],[.i ((↑(UInt8.toNat y7):Int))],[.i ((↑(UInt8.toNat y7):Int))],[.i ((↑(UInt8.toNat y7):Int) * 65536)],[.i ((↑(UInt8.toNat y6):Int) * 16777216+ (↑(UInt8.toNat y7):Int) * 65536)],[],[.i ((↑(UInt8.toNat y8):Int))],[.i ((↑(UInt8.toNat y8):Int))],[.i ((↑(UInt8.toNat y8):Int) * 256)],[.i ((↑(UInt8.toNat y6):Int) * 16777216+ (↑(UInt8.toNat y7):Int) * 65536+ (↑(UInt8.toNat y8):Int) * 256)],[],[.i ((↑(UInt8.toNat y9):Int))],[.i ((↑(UInt8.toNat y9):Int))],[.i ((↑(UInt8.toNat y6):Int) * 16777216+ (↑(UInt8.toNat y7):Int) * 65536+ (↑(UInt8.toNat y8):Int) * 256+ (↑(UInt8.toNat y9):Int))],[],[]] ?_
  conv=>whnf
  refine J QZ<|J KR<|g 55 57 [.n (11),.s (ByteArray.extract (ByteArray.extract tx 8 (ByteArray.size tx)) 11 (ByteArray.size (ByteArray.extract tx 8 (ByteArray.size tx))))]<|J QZ<|Ws<|g 57 59 []<|J UC<|Wc<|Kt (rg []<|J QZ (Ws (g 8 78 [.call (V.s (dY {kind:=(↑(UInt8.toNat y1):Int),frm:=(↑(UInt8.toNat y2):Int),to:=(↑(UInt8.toNat y3):Int),epoch:=(↑(UInt8.toNat y4):Int) * 256+ (↑(UInt8.toNat y5):Int),lease:=(↑(UInt8.toNat y6):Int) * 16777216+ (↑(UInt8.toNat y7):Int) * 65536+ (↑(UInt8.toNat y8):Int) * 256+ (↑(UInt8.toNat y9):Int),task:=(↑(UInt8.toNat y10):Int),text:=ByteArray.extract (ByteArray.extract tx 8 (ByteArray.size tx)) 11 (ByteArray.size (ByteArray.extract tx 8 (ByteArray.size tx))),inputs:=[]:Message} key)) O2]<|J QZ (Wc<|J (fun h1=>?_) fun h1=>?_))))
  replace h1:=ndt h1
  refine g 0 2 []<|J QZ<|RT ?_
  rotate_left
  replace h1:=ndf h1
  refine Wk<|g 6 81 []<|J QZ<|RT ?_
  rotate_left
  ·exact congrArg gJ (KL e1 AS).symm
  ·exact congrArg gJ (pX h0 e1 AS).symm
 ·have e1:∀ n,n = (tx.size - 19) / 8→rdM (tx.extract 8 tx.size) = ⟨y1.toNat,y2.toNat,y3.toNat,(y4.toNat:Int) * 256+y5.toNat,(y6.toNat:Int) * 16777216+ (y7.toNat:Int) * 65536+ (y8.toNat:Int) * 256+y9.toNat,y10.toNat,emp,cM (bE tx) n⟩:=by
   intro n hn;rw[←e];unfold rdM rdF;rw[bM hy1,if_neg h3,if_neg h3,hn,hx,bE,hx,show tx.size - 8 - 11 = tx.size - 19 by omega]
  have hz:(bE tx).size = tx.size - 19:=by unfold bE;rw[ByteArray.size_extract,hx];omega
  refine gE ?_
  conv=>whnf
  refine g 0 0 []<|J UB<|Ws<|g 9 11 []<|J UC<|Wc<|Jf<|Wk<|g 11 15 [.n (8),.s (ByteArray.extract tx 8 (ByteArray.size tx))]<|J QZ<|gd 15 36 [[],[.i ((↑(UInt8.toNat y1):Int))],[.i ((↑(UInt8.toNat y1):Int))],[],[.i ((↑(UInt8.toNat y2):Int))],[.i ((↑(UInt8.toNat y2):Int))],[],[.i ((↑(UInt8.toNat y3):Int))],[.i ((↑(UInt8.toNat y3):Int))],[],[.i ((↑(UInt8.toNat y4):Int))],[.i ((↑(UInt8.toNat y4):Int))],[.i ((↑(UInt8.toNat y4):Int) * 256)],[],[.i ((↑(UInt8.toNat y5):Int))],[.i ((↑(UInt8.toNat y5):Int))],[.i ((↑(UInt8.toNat y4):Int) * 256+ (↑(UInt8.toNat y5):Int))],[],[.i ((↑(UInt8.toNat y10):Int))],[.i ((↑(UInt8.toNat y10):Int))],[],[],[]] ?_
  conv=>whnf
  refine J QZ<|J KR<|gd 36 55 [[],[.i ((↑(UInt8.toNat y6):Int))],[.i ((↑(UInt8.toNat y6):Int))],[.i ((↑(UInt8.toNat y6):Int) * 16777216)],[],[.i ((↑(UInt8.toNat y7):Int))],[.i ((↑(UInt8.toNat y7):Int))],[.i ((↑(UInt8.toNat y7):Int) * 65536)],[.i ((↑(UInt8.toNat y6):Int) * 16777216+ (↑(UInt8.toNat y7):Int) * 65536)],[],[.i ((↑(UInt8.toNat y8):Int))],[.i ((↑(UInt8.toNat y8):Int))],[.i ((↑(UInt8.toNat y8):Int) * 256)],[.i ((↑(UInt8.toNat y6):Int) * 16777216+ (↑(UInt8.toNat y7):Int) * 65536+ (↑(UInt8.toNat y8):Int) * 256)],[],[.i ((↑(UInt8.toNat y9):Int))],[.i ((↑(UInt8.toNat y9):Int))],[.i ((↑(UInt8.toNat y6):Int) * 16777216+ (↑(UInt8.toNat y7):Int) * 65536+ (↑(UInt8.toNat y8):Int) * 256+ (↑(UInt8.toNat y9):Int))],[],[]] ?_
  conv=>whnf
  refine J QZ<|J KR<|g 55 57 [.n (11),.s (ByteArray.extract (ByteArray.extract tx 8 (ByteArray.size tx)) 11 (ByteArray.size (ByteArray.extract tx 8 (ByteArray.size tx))))]<|J QZ<|Ws<|g 57 59 []<|J UC<|Wc<|Jf<|Wb<|Wl (fun s (n:Nat)=>⟨(SK s [0,1,4,5,7] [(8,.s (kP tx n))]),[(4,(CK s 4 0 8 [])),(7,[.t (.i y1.toNat),.t (.i y2.toNat),.t (.i y3.toNat),.t (.i ((y4.toNat:Int) * 256+y5.toNat)),.t (.i ((y6.toNat:Int) * 16777216+ (y7.toNat:Int) * 65536+ (y8.toNat:Int) * 256+y9.toNat)),.t (.i y10.toNat),.t (.s emp),.own [false] ((cM (bE tx) n).map ah)])],[]⟩) (fun(n:Nat)=>8 * n≤tx.size - 19) (fun(n:Nat)=>tx.size - 8 * n) (0) [some 4,some 7] [] ⟨rfl,⟨rfl,rfl,rfl,rfl,rfl,(congrArg (fun z=>V.t (T.v (Value.string z))) (Mr tx)),I⟩,FZ,I⟩ OM ?_
  intro n hn
  have hs:=Mu (s:=tx) (n:=n) hz hn
  have c1:=fun n=>dX ⟨y1.toNat,y2.toNat,y3.toNat,(y4.toNat:Int) * 256+y5.toNat,(y6.toNat:Int) * 16777216+ (y7.toNat:Int) * 65536+ (y8.toNat:Int) * 256+y9.toNat,y10.toNat,emp,cM (bE tx) n⟩ key
  have c2:=c1 n (by simp only[cM,List.length_map,List.length_range];omega)
  clear c1
  have hcl:=sO (bE tx) n
  conv=>whnf
  refine Ws<|g 62 64 []<|J UC<|Wc<|JD (fun h1=>?_) fun h1=>?_
  refine Wk<|Wb<|gd 64 72 [[],[],[],[.n (8),.s (ByteArray.extract (kP tx n) 0 8)],[],[],[],[]] ?_
  conv=>whnf
  refine J QZ<|J KR<|rg [.n (8),.s (ByteArray.extract (kP tx n) 8 (ByteArray.size (kP tx n)))]<|J QZ ?_
  rotate_left
  refine We<|Ws<|g 8 78 [.call (V.s (dY {kind:=(↑(UInt8.toNat y1):Int),frm:=(↑(UInt8.toNat y2):Int),to:=(↑(UInt8.toNat y3):Int),epoch:=(↑(UInt8.toNat y4):Int) * 256+ (↑(UInt8.toNat y5):Int),lease:=(↑(UInt8.toNat y6):Int) * 16777216+ (↑(UInt8.toNat y7):Int) * 65536+ (↑(UInt8.toNat y8):Int) * 256+ (↑(UInt8.toNat y9):Int),task:=(↑(UInt8.toNat y10):Int),text:=emp,inputs:=cM (bE tx) n:Message} key)) O2]<|J QZ<|Wc<|JN (fun h2=>?_) fun h2=>?_
  refine g 0 2 []<|J QZ<|RT ?_
  rotate_left
  refine Wk<|g 7 81 []<|J QZ<|RT ?_
  rotate_left
  ·refine⟨n+1,[some 4,some 7],[],⟨rfl,⟨rfl,rfl,rfl,rfl,rfl,(congrArg (fun z=>V.t (T.v (Value.string z))) (Ms tx n OM)),I⟩,⟨FZ,⟨(R8 ⟨(congrArg (V.own _) (JX OM)),I⟩),I⟩⟩,I⟩,?_,?_⟩
   rotate_left
   (dsimp only;omega)
   dsimp only
   omega
  ·exact congrArg gJ (KL (e1 n OM) AS).symm
  ·exact congrArg gJ (pX h0 (e1 n OM) AS).symm
end Go.K
end
section
open Go Go.Tm Go.Proofs
namespace Go.K
attribute [local irreducible] ByteArray.extract
theorem CL(a i y:Nat)(hy:y < 2 ^ i)(h:a * 2 ^ i+y < 9223372036854775808):H4 ((a * 2 ^ i:Nat):Int) (y:Int) = ((a * 2 ^ i+y:Nat):Int):=by
 unfold H4
 have e:((BitVec.ofInt IntKind.i64.bits ((a * 2 ^ i:Nat):Int))|||BitVec.ofInt IntKind.i64.bits (y:Int)).toNat = a * 2 ^ i+y:=by
  rw[BitVec.ofInt_natCast,BitVec.ofInt_natCast]
  have hb64:IntKind.i64.bits = 64:=rfl
  rw[BitVec.toNat_or,BitVec.toNat_ofNat,BitVec.toNat_ofNat,hb64,Nat.mod_eq_of_lt OM,Nat.mod_eq_of_lt OM]
  have:=Nat.two_pow_add_eq_or_of_lt (i:=i) (b:=y) hy a
  rw[Nat.mul_comm]at this
  exact this.symm
 rw[e]
 rw[wO]
theorem Ti(a b:Nat)(ha:a < 256)(hb:b < 256):H4 (IntKind.i64.wrap ((a:Int) * 256)) b = (a:Int) * 256+b:=KV a b ha hb
theorem Th(a b c d:Nat)(ha:a < 256)(hb:b < 256)(hc:c < 256)(hd:d < 256):H4 (H4 (H4 (IntKind.i64.wrap ((a:Int) * 16777216)) (IntKind.i64.wrap ((b:Int) * 65536))) (IntKind.i64.wrap ((c:Int) * 256))) d = (a:Int) * 16777216+ (b:Int) * 65536+ (c:Int) * 256+d:=by
 rw[wO,wO,wO]
 have f1:((a * 16777216:Nat):Int) = (a:Int) * 16777216:=by rw[Int.natCast_mul];rfl
 have f2:((b * 65536:Nat):Int) = (b:Int) * 65536:=by rw[Int.natCast_mul];rfl
 have f3:a * 16777216+b * 65536 = (a * 256+b) * 65536:=by rw[Nat.add_mul,Nat.mul_assoc]
 have f4:((c * 256:Nat):Int) = (c:Int) * 256:=by rw[Int.natCast_mul];rfl
 have f5:(a * 256+b) * 65536+c * 256 = ((a * 256+b) * 256+c) * 256:=by rw[Nat.add_mul ((a * 256+b) * 256) c 256,Nat.mul_assoc (a * 256+b) 256 256]
 have f6:((((a * 256+b) * 256+c) * 256+d:Nat):Int) = (a:Int) * 16777216+ (b:Int) * 65536+ (c:Int) * 256+d:=by omega
 have e1:=CL a 24 (b * 65536) OM OM
 have e2:=CL (a * 256+b) 16 (c * 256) OM (by clear e1;omega)
 have e3:=CL ((a * 256+b) * 256+c) 8 d (by clear e1 e2;omega) (by clear e1 e2;omega)
 simp only[Nat.reducePow]at e1 e2 e3
 rw[f1,f2]at e1
 rw[e1]
 rw[f4]at e2
 rw[f3,e2]
 rw[f5,e3,f6]
theorem nz{m:Message}{s key:ByteArray}(h:¬s.size < 19):dY m key = s↔bN m∧key.size≤30∧dG m = s.extract 8 s.size∧s.extract 0 8 = fS (s.extract 8 s.size) key:=by
 unfold dY
 constructor
 ·intro e
  by_cases hc:bN m∧key.size≤30
  ·rw[if_pos hc]at e
   have h8:(fS (dG m) key).size = 8:=ef _
   have hb:s.extract 8 s.size = dG m:=by
    rw[←e,ByteArray.size_append,h8,ByteArray.extract_append_eq_right h8.symm OM]
   have hs:s.extract 0 8 = fS (dG m) key:=by
    rw[←e,ByteArray.extract_append_eq_left h8.symm]
   exact⟨hc.1,hc.2,hb.symm,by rw[hs,hb]⟩
  ·rw[if_neg hc]at e
   rw[←e]at h
   exact absurd (show emp.size < 19 by decide) h
 ·rintro⟨h1,h2,h3,h4⟩
  rw[if_pos ⟨h1,h2⟩,h3,←h4,ByteArray.extract_append_extract,Nat.min_eq_left OM,Nat.max_eq_right OM,ByteArray.extract_zero_size]
theorem ye(r:ByteArray):∀ n,8 * n≤r.size→jJ (cM r n) = r.extract 0 (8 * n)
 |0,_=>by
  have:(r.extract 0 (8 * 0)).size = 0:=by rw[ByteArray.size_extract];omega
  rw[show cM r 0 = []from rfl,jJ];exact(ByteArray.size_eq_zero_iff.1 this).symm
 |n+1,h=>by
  rw[pg,CY,ye r n OM,jJ,jJ,IX,ByteArray.extract_append_extract,Nat.min_eq_left OM,Nat.max_eq_right OM]
  rfl
theorem XE(s:ByteArray)(h:11≤s.size):bl [byt s 0,byt s 1,byt s 2,byt s 3,byt s 4,byt s 5,byt s 6,byt s 7,byt s 8,byt s 9,byt s 10] ++s.extract 11 s.size = s:=by
 obtain⟨⟨l⟩⟩:=s
 match l,h with
 |a :: b :: c :: d :: e :: f :: g :: i :: j :: k :: q :: r,_ =>
  rw[wP (c:=a) rfl,wP (c:=b) rfl,wP (c:=c) rfl,wP (c:=d) rfl,wP (c:=e) rfl,wP (c:=f) rfl,wP (c:=g) rfl,wP (c:=i) rfl,wP (c:=j) rfl,wP (c:=k) rfl,wP (c:=q) rfl]
  apply ByteArray.ext
  rw[ByteArray.data_append,ByteArray.data_extract]
  apply Array.ext'
  simp[bl,ByteArray.size]
theorem Z1{a0 a1 a2 a3 a4 a5 a6 a7 a8 a9 a10:Int}{r:ByteArray}(h:0≤a10∧a10≤255):byt (bl [a0,a1,a2,a3,a4,a5,a6,a7,a8,a9,a10] ++r) 10 = a10:=by
 obtain⟨⟨l⟩⟩:=r
 have e:bl [a0,a1,a2,a3,a4,a5,a6,a7,a8,a9,a10] ++ ⟨⟨l⟩⟩ = ⟨⟨(bl [a0,a1,a2,a3,a4,a5,a6,a7,a8,a9,a10]).data.toList++l⟩⟩:=by
  apply ByteArray.ext
  rw[ByteArray.data_append]
  apply Array.ext'
  simp
 rw[e,wP (c:=UInt8.ofNat a10.toNat) rfl]
 simp;omega
theorem qs(b:ByteArray):(rdM b).inputs.length = if byt b 0 = 3 then 0 else(b.size - 11) / 8:=by
 unfold rdM;dsimp only;split <;> simp[cM]
theorem T0{b:ByteArray}(h:11≤b.size)(hok:bN (rdM b)):dG (rdM b) = b↔byt b 10 = (rdM b).inputs.length∧(byt b 0≠3→b.size - 11 = 8 * ((b.size - 11) / 8)):=by
 have hx:(b.extract 11 b.size).size = b.size - 11:=by rw[ByteArray.size_extract];omega
 have hh:B7 (rdM b) = [byt b 0,byt b 1,byt b 2,byt b 3,byt b 4,byt b 5,byt b 6,byt b 7,byt b 8,byt b 9,((rdM b).inputs.length:Int)]:=by
  obtain⟨a3,e3,l3⟩:=eS b 3
  obtain⟨a4,e4,l4⟩:=eS b 4
  obtain⟨a5,e5,l5⟩:=eS b 5
  obtain⟨a6,e6,l6⟩:=eS b 6
  obtain⟨a7,e7,l7⟩:=eS b 7
  obtain⟨a8,e8,l8⟩:=eS b 8
  have f1:(rdM b).epoch = byt b 3 * 256+byt b 4:=rfl
  have f2:(rdM b).lease = byt b 5 * 16777216+byt b 6 * 65536+byt b 7 * 256+byt b 8:=rfl
  unfold B7
  rw[f1,f2,show(rdM b).kind = byt b 0 from rfl,show(rdM b).frm = byt b 1 from rfl,show(rdM b).to = byt b 2 from rfl,show(rdM b).task = byt b 9 from rfl]
  rw[e3,e4,e5,e6,e7,e8]
  congr 3
  congr 1;omega
  congr 1;omega
  congr 1;omega
  congr 1;omega
  congr 1;omega
  congr 1;omega
 have hsp:=XE b h
 have htl:byt b 0 = 3∨b.size - 11 = 8 * ((b.size - 11) / 8)→(rdM b).text++jJ (rdM b).inputs = b.extract 11 b.size:=by
  intro h3
  unfold rdM;dsimp only
  by_cases hk:byt b 0 = 3
  ·rw[if_pos hk,if_pos hk,jJ,IX]
  ·have h3:=h3.resolve_left hk
   rw[if_neg hk,if_neg hk,Na,ye _ _ OM,←h3,←hx,ByteArray.extract_zero_size]
 have hbody:dG (rdM b) = bl (B7 (rdM b)) ++ ((rdM b).text++jJ (rdM b).inputs):=by unfold dG;rw[ByteArray.append_assoc]
 constructor
 ·intro e
  have hn:(rdM b).inputs.length≤8:=(dw hok).1
  constructor
  ·have h1:=congrArg (fun x=>byt x 10) e
   rw[←h1,hbody,hh]
   exact Z1 OM
  ·intro hk
   have h2:=congrArg ByteArray.size e
   rw[gS hok,qs,if_neg hk]at h2
   have ht:(rdM b).text = emp:=if_neg hk
   rw[ht]at h2
   have h0:emp.size = 0:=rfl
   omega
 ·rintro⟨h1,h2⟩
  rw[hbody,htl (by by_cases hk:byt b 0 = 3;exact Or.inl hk;exact Or.inr (h2 hk)),hh,←h1]
  exact hsp
end Go.K
end

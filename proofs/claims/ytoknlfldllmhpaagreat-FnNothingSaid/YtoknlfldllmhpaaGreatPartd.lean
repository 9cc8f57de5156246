/- Contracts of functions of the program: what each call answers. -/
import Derived.Test.YtoknlfldllmhpaaGreatPartc
import Derived.Test.YtoknlfldllmhpaaGreatProg
set_option maxHeartbeats 8000000
set_option maxRecDepth 20000
set_option linter.unusedVariables false
set_option linter.unusedSimpArgs false
section
open Go Go.Tm Go.Proofs
namespace Go.K
def E:Env:=(.node (.node (.node (.node (.node (.node (.node .nil 2 ⟨(.int .i64),[.t (.v (.int .i64 0))],8⟩ .nil) 3 ⟨(.int .i64),[.t (.v (.int .i64 0))],8⟩ (.node .nil 4 ⟨.bool,[.b false],1⟩ .nil)) 5 ⟨(.int .u8),[.t (.v (.int .u8 0))],1⟩ (.node (.node .nil 6 ⟨(.int .u8),[.t (.v (.int .u8 0))],1⟩ .nil) 7 ⟨(.struct [(0,2),(1,3),(2,4),(3,6)]),[.t (.v (.int .i64 0)),.t (.v (.int .i64 0)),.b false,.t (.v (.int .u8 0))],24⟩ .nil)) 9 ⟨.str,[.s ⟨#[]⟩],16⟩ (.node (.node (.node .nil 12 ⟨(.int .u64),[.t (.v (.int .u64 0))],8⟩ .nil) 13 ⟨(.struct [(0,9),(1,12)]),[.s ⟨#[]⟩,.t (.v (.int .u64 0))],24⟩ .nil) 17 ⟨(.ptr 278),[.t (.v (.pointer none))],8⟩ (.node (.node .nil 18 ⟨(.struct [(0,17)]),[.t (.v (.pointer none))],8⟩ .nil) 19 ⟨(.struct [(0,17)]),[.t (.v (.pointer none))],8⟩ .nil))) 21 ⟨(.int .i32),[.t (.v (.int .i32 0))],4⟩ (.node (.node (.node (.node .nil 22 ⟨(.slice 218),[.own [false,false,true] []],24⟩ .nil) 23 ⟨(.struct [(0,22)]),[.own [false,false,true] []],24⟩ .nil) 24 ⟨(.struct [(0,22)]),[.own [false,false,true] []],24⟩ (.node (.node .nil 25 ⟨(.slice 9),[.own [false] []],24⟩ .nil) 26 ⟨(.struct [(0,25),(1,25)]),[.own [false] [],.own [false] []],48⟩ .nil)) 27 ⟨(.struct [(0,25),(1,25)]),[.own [false] [],.own [false] []],48⟩ (.node (.node (.node .nil 28 ⟨(.slice 223),[.own [false,false,false] []],24⟩ .nil) 29 ⟨(.slice 225),[.own [false,false] []],24⟩ .nil) 30 ⟨(.slice 227),[.own [false,false,false] []],24⟩ (.node (.node .nil 31 ⟨(.struct [(0,3),(1,4),(2,3),(3,3),(4,3),(5,3),(6,27),(8,25),(9,28),(10,29),(11,30)]),[.t (.v (.int .i64 0)),.b false,.t (.v (.int .i64 0)),.t (.v (.int .i64 0)),.t (.v (.int .i64 0)),.t (.v (.int .i64 0)),.own [false] [],.own [false] [],.own [false] [],.own [false,false,false] [],.own [false,false] [],.own [false,false,false] []],192⟩ .nil) 32 ⟨(.struct [(0,3),(1,4),(2,3),(3,3),(4,3),(5,3),(6,27),(8,25),(9,28),(10,29),(11,30)]),[.t (.v (.int .i64 0)),.b false,.t (.v (.int .i64 0)),.t (.v (.int .i64 0)),.t (.v (.int .i64 0)),.t (.v (.int .i64 0)),.own [false] [],.own [false] [],.own [false] [],.own [false,false,false] [],.own [false,false] [],.own [false,false,false] []],192⟩ .nil)))) 33 ⟨(.slice 134),[.own [false,false,false,false,false,false,false,false,true,false,false] []],24⟩ (.node (.node (.node (.node (.node .nil 34 ⟨(.slice 136),[.own [false,false,false] []],24⟩ .nil) 35 ⟨(.struct [(0,24),(1,9),(2,32),(14,33),(15,34),(16,9)]),[.own [false,false,true] [],.s ⟨#[]⟩,.t (.v (.int .i64 0)),.b false,.t (.v (.int .i64 0)),.t (.v (.int .i64 0)),.t (.v (.int .i64 0)),.t (.v (.int .i64 0)),.own [false] [],.own [false] [],.own [false] [],.own [false,false,false] [],.own [false,false] [],.own [false,false,false] [],.own [false,false,false,false,false,false,false,false,true,false,false] [],.own [false,false,false] [],.s ⟨#[]⟩],296⟩ .nil) 36 ⟨(.struct [(0,24),(1,9),(2,32),(14,33),(15,34),(16,9)]),[.own [false,false,true] [],.s ⟨#[]⟩,.t (.v (.int .i64 0)),.b false,.t (.v (.int .i64 0)),.t (.v (.int .i64 0)),.t (.v (.int .i64 0)),.t (.v (.int .i64 0)),.own [false] [],.own [false] [],.own [false] [],.own [false,false,false] [],.own [false,false] [],.own [false,false,false] [],.own [false,false,false,false,false,false,false,false,true,false,false] [],.own [false,false,false] [],.s ⟨#[]⟩],296⟩ (.node (.node .nil 37 ⟨(.struct [(0,3),(1,3),(2,3),(3,3)]),[.t (.v (.int .i64 0)),.t (.v (.int .i64 0)),.t (.v (.int .i64 0)),.t (.v (.int .i64 0))],32⟩ .nil) 38 ⟨(.struct [(0,3),(1,3),(2,3),(3,3)]),[.t (.v (.int .i64 0)),.t (.v (.int .i64 0)),.t (.v (.int .i64 0)),.t (.v (.int .i64 0))],32⟩ .nil)) 40 ⟨(.slice 198),[.own [false,false,true] []],24⟩ (.node (.node (.node .nil 41 ⟨(.struct [(0,40)]),[.own [false,false,true] []],24⟩ .nil) 42 ⟨(.struct [(0,40)]),[.own [false,false,true] []],24⟩ .nil) 43 ⟨(.struct [(0,25),(1,25)]),[.own [false] [],.own [false] []],48⟩ (.node (.node .nil 44 ⟨(.slice 206),[.own [false,false,false] []],24⟩ .nil) 45 ⟨(.slice 202),[.own [false,false] []],24⟩ .nil))) 46 ⟨(.slice 204),[.own [false,false,false] []],24⟩ (.node (.node (.node (.node .nil 47 ⟨(.struct [(0,3),(1,4),(2,3),(3,3),(4,3),(5,3),(6,43),(8,25),(9,44),(10,45),(11,46)]),[.t (.v (.int .i64 0)),.b false,.t (.v (.int .i64 0)),.t (.v (.int .i64 0)),.t (.v (.int .i64 0)),.t (.v (.int .i64 0)),.own [false] [],.own [false] [],.own [false] [],.own [false,false,false] [],.own [false,false] [],.own [false,false,false] []],192⟩ .nil) 48 ⟨(.struct [(0,3),(1,4),(2,3),(3,3),(4,3),(5,3),(6,43),(8,25),(9,44),(10,45),(11,46)]),[.t (.v (.int .i64 0)),.b false,.t (.v (.int .i64 0)),.t (.v (.int .i64 0)),.t (.v (.int .i64 0)),.t (.v (.int .i64 0)),.own [false] [],.own [false] [],.own [false] [],.own [false,false,false] [],.own [false,false] [],.own [false,false,false] []],192⟩ .nil) 49 ⟨(.slice 109),[.own [false,false,false,false,false,false,false,false,true,false,false] []],24⟩ (.node (.node .nil 50 ⟨(.slice 78),[.own [false,false,false] []],24⟩ .nil) 51 ⟨(.struct [(0,42),(1,9),(2,48),(14,49),(15,50),(16,9)]),[.own [false,false,true] [],.s ⟨#[]⟩,.t (.v (.int .i64 0)),.b false,.t (.v (.int .i64 0)),.t (.v (.int .i64 0)),.t (.v (.int .i64 0)),.t (.v (.int .i64 0)),.own [false] [],.own [false] [],.own [false] [],.own [false,false,false] [],.own [false,false] [],.own [false,false,false] [],.own [false,false,false,false,false,false,false,false,true,false,false] [],.own [false,false,false] [],.s ⟨#[]⟩],296⟩ .nil)) 52 ⟨(.struct [(0,42),(1,9),(2,48),(14,49),(15,50),(16,9)]),[.own [false,false,true] [],.s ⟨#[]⟩,.t (.v (.int .i64 0)),.b false,.t (.v (.int .i64 0)),.t (.v (.int .i64 0)),.t (.v (.int .i64 0)),.t (.v (.int .i64 0)),.own [false] [],.own [false] [],.own [false] [],.own [false,false,false] [],.own [false,false] [],.own [false,false,false] [],.own [false,false,false,false,false,false,false,false,true,false,false] [],.own [false,false,false] [],.s ⟨#[]⟩],296⟩ (.node (.node (.node .nil 55 ⟨(.struct [(0,3),(1,3),(2,3),(3,3)]),[.t (.v (.int .i64 0)),.t (.v (.int .i64 0)),.t (.v (.int .i64 0)),.t (.v (.int .i64 0))],32⟩ .nil) 62 ⟨(.slice 5),[.own [false] []],24⟩ .nil) 66 ⟨(.slice 55),[.own [false,false,false,false] []],24⟩ (.node (.node .nil 74 ⟨(.struct [(0,3),(1,3),(2,3),(3,3),(4,3),(5,3),(6,9),(7,25)]),[.t (.v (.int .i64 0)),.t (.v (.int .i64 0)),.t (.v (.int .i64 0)),.t (.v (.int .i64 0)),.t (.v (.int .i64 0)),.t (.v (.int .i64 0)),.s ⟨#[]⟩,.own [false] []],88⟩ .nil) 75 ⟨(.struct [(0,3),(1,3),(2,3),(3,3),(4,3),(5,3),(6,9),(7,25)]),[.t (.v (.int .i64 0)),.t (.v (.int .i64 0)),.t (.v (.int .i64 0)),.t (.v (.int .i64 0)),.t (.v (.int .i64 0)),.t (.v (.int .i64 0)),.s ⟨#[]⟩,.own [false] []],88⟩ .nil))))) 77 ⟨(.struct [(0,3),(1,9),(2,9)]),[.t (.v (.int .i64 0)),.s ⟨#[]⟩,.s ⟨#[]⟩],40⟩ (.node (.node (.node (.node (.node (.node .nil 78 ⟨(.struct [(0,3),(1,9),(2,9)]),[.t (.v (.int .i64 0)),.s ⟨#[]⟩,.s ⟨#[]⟩],40⟩ .nil) 100 ⟨(.ptr 192),[.t (.v (.pointer none))],8⟩ (.node .nil 108 ⟨(.struct [(0,3),(1,3),(2,4),(3,3),(4,3),(5,3),(6,3),(7,3),(8,25),(9,9),(10,3)]),[.t (.v (.int .i64 0)),.t (.v (.int .i64 0)),.b false,.t (.v (.int .i64 0)),.t (.v (.int .i64 0)),.t (.v (.int .i64 0)),.t (.v (.int .i64 0)),.t (.v (.int .i64 0)),.own [false] [],.s ⟨#[]⟩,.t (.v (.int .i64 0))],112⟩ .nil)) 109 ⟨(.struct [(0,3),(1,3),(2,4),(3,3),(4,3),(5,3),(6,3),(7,3),(8,25),(9,9),(10,3)]),[.t (.v (.int .i64 0)),.t (.v (.int .i64 0)),.b false,.t (.v (.int .i64 0)),.t (.v (.int .i64 0)),.t (.v (.int .i64 0)),.t (.v (.int .i64 0)),.t (.v (.int .i64 0)),.own [false] [],.s ⟨#[]⟩,.t (.v (.int .i64 0))],112⟩ (.node (.node .nil 114 ⟨(.int .u64),[.t (.v (.int .u64 0))],8⟩ .nil) 117 ⟨(.slice 4),[.own [false] []],24⟩ .nil)) 119 ⟨(.struct [(0,3),(1,3),(2,3),(3,9)]),[.t (.v (.int .i64 0)),.t (.v (.int .i64 0)),.t (.v (.int .i64 0)),.s ⟨#[]⟩],40⟩ (.node (.node (.node .nil 120 ⟨(.struct [(0,3),(1,3),(2,3),(3,9)]),[.t (.v (.int .i64 0)),.t (.v (.int .i64 0)),.t (.v (.int .i64 0)),.s ⟨#[]⟩],40⟩ .nil) 123 ⟨(.struct [(0,3),(1,3),(2,25)]),[.t (.v (.int .i64 0)),.t (.v (.int .i64 0)),.own [false] []],40⟩ .nil) 124 ⟨(.struct [(0,3),(1,3),(2,25)]),[.t (.v (.int .i64 0)),.t (.v (.int .i64 0)),.own [false] []],40⟩ (.node (.node .nil 134 ⟨(.struct [(0,3),(1,3),(2,4),(3,3),(4,3),(5,3),(6,3),(7,3),(8,25),(9,9),(10,3)]),[.t (.v (.int .i64 0)),.t (.v (.int .i64 0)),.b false,.t (.v (.int .i64 0)),.t (.v (.int .i64 0)),.t (.v (.int .i64 0)),.t (.v (.int .i64 0)),.t (.v (.int .i64 0)),.own [false] [],.s ⟨#[]⟩,.t (.v (.int .i64 0))],112⟩ .nil) 136 ⟨(.struct [(0,3),(1,9),(2,9)]),[.t (.v (.int .i64 0)),.s ⟨#[]⟩,.s ⟨#[]⟩],40⟩ .nil))) 156 ⟨(.ptr 52),[.t (.v (.pointer none))],8⟩ (.node (.node (.node (.node .nil 159 ⟨(.ptr 109),[.t (.v (.pointer none))],8⟩ .nil) 174 ⟨(.slice 75),[.own [false,false,false,false,false,false,false,true] []],24⟩ .nil) 175 ⟨(.struct [(0,48),(12,174)]),[.t (.v (.int .i64 0)),.b false,.t (.v (.int .i64 0)),.t (.v (.int .i64 0)),.t (.v (.int .i64 0)),.t (.v (.int .i64 0)),.own [false] [],.own [false] [],.own [false] [],.own [false,false,false] [],.own [false,false] [],.own [false,false,false] [],.own [false,false,false,false,false,false,false,true] []],216⟩ (.node (.node .nil 176 ⟨(.struct [(0,48),(12,174)]),[.t (.v (.int .i64 0)),.b false,.t (.v (.int .i64 0)),.t (.v (.int .i64 0)),.t (.v (.int .i64 0)),.t (.v (.int .i64 0)),.own [false] [],.own [false] [],.own [false] [],.own [false,false,false] [],.own [false,false] [],.own [false,false,false] [],.own [false,false,false,false,false,false,false,true] []],216⟩ .nil) 178 ⟨(.struct [(0,109),(11,174)]),[.t (.v (.int .i64 0)),.t (.v (.int .i64 0)),.b false,.t (.v (.int .i64 0)),.t (.v (.int .i64 0)),.t (.v (.int .i64 0)),.t (.v (.int .i64 0)),.t (.v (.int .i64 0)),.own [false] [],.s ⟨#[]⟩,.t (.v (.int .i64 0)),.own [false,false,false,false,false,false,false,true] []],136⟩ .nil)) 179 ⟨(.struct [(0,109),(11,174)]),[.t (.v (.int .i64 0)),.t (.v (.int .i64 0)),.b false,.t (.v (.int .i64 0)),.t (.v (.int .i64 0)),.t (.v (.int .i64 0)),.t (.v (.int .i64 0)),.t (.v (.int .i64 0)),.own [false] [],.s ⟨#[]⟩,.t (.v (.int .i64 0)),.own [false,false,false,false,false,false,false,true] []],136⟩ (.node (.node (.node .nil 191 ⟨(.struct [(0,62),(1,3)]),[.own [false] [],.t (.v (.int .i64 0))],32⟩ .nil) 192 ⟨(.struct [(0,62),(1,3)]),[.own [false] [],.t (.v (.int .i64 0))],32⟩ .nil) 196 ⟨(.slice 3),[.own [false] []],24⟩ (.node (.node .nil 197 ⟨(.struct [(0,9),(1,3),(2,196)]),[.s ⟨#[]⟩,.t (.v (.int .i64 0)),.own [false] []],48⟩ .nil) 198 ⟨(.struct [(0,9),(1,3),(2,196)]),[.s ⟨#[]⟩,.t (.v (.int .i64 0)),.own [false] []],48⟩ .nil)))) 201 ⟨(.struct [(0,4),(1,3)]),[.b false,.t (.v (.int .i64 0))],16⟩ (.node (.node (.node (.node (.node .nil 202 ⟨(.struct [(0,4),(1,3)]),[.b false,.t (.v (.int .i64 0))],16⟩ .nil) 203 ⟨(.struct [(0,3),(1,3),(2,3)]),[.t (.v (.int .i64 0)),.t (.v (.int .i64 0)),.t (.v (.int .i64 0))],24⟩ .nil) 204 ⟨(.struct [(0,3),(1,3),(2,3)]),[.t (.v (.int .i64 0)),.t (.v (.int .i64 0)),.t (.v (.int .i64 0))],24⟩ (.node (.node .nil 205 ⟨(.struct [(0,3),(1,3),(2,3)]),[.t (.v (.int .i64 0)),.t (.v (.int .i64 0)),.t (.v (.int .i64 0))],24⟩ .nil) 206 ⟨(.struct [(0,3),(1,3),(2,3)]),[.t (.v (.int .i64 0)),.t (.v (.int .i64 0)),.t (.v (.int .i64 0))],24⟩ .nil)) 207 ⟨(.map 9 4),[.t (.v (.map none))],8⟩ (.node (.node (.node .nil 208 ⟨(.map 3 4),[.t (.v (.map none))],8⟩ .nil) 210 ⟨(.int .u64),[.t (.v (.int .u64 0))],8⟩ .nil) 211 ⟨(.int .u64),[.t (.v (.int .u64 0))],8⟩ (.node (.node .nil 218 ⟨(.struct [(0,9),(1,3),(2,196)]),[.s ⟨#[]⟩,.t (.v (.int .i64 0)),.own [false] []],48⟩ .nil) 223 ⟨(.struct [(0,3),(1,3),(2,3)]),[.t (.v (.int .i64 0)),.t (.v (.int .i64 0)),.t (.v (.int .i64 0))],24⟩ .nil))) 225 ⟨(.struct [(0,4),(1,3)]),[.b false,.t (.v (.int .i64 0))],16⟩ (.node (.node (.node (.node .nil 227 ⟨(.struct [(0,3),(1,3),(2,3)]),[.t (.v (.int .i64 0)),.t (.v (.int .i64 0)),.t (.v (.int .i64 0))],24⟩ .nil) 228 ⟨(.ptr 48),[.t (.v (.pointer none))],8⟩ .nil) 242 ⟨(.ptr 202),[.t (.v (.pointer none))],8⟩ (.node (.node .nil 255 ⟨(.ptr 211),[.t (.v (.pointer none))],8⟩ .nil) 265 ⟨(.struct [(0,17),(1,17),(2,17),(3,9)]),[.t (.v (.pointer none)),.t (.v (.pointer none)),.t (.v (.pointer none)),.s ⟨#[]⟩],40⟩ .nil)) 270 ⟨(.int .u32),[.t (.v (.int .u32 0))],4⟩ (.node (.node (.node .nil 271 ⟨(.int .u8),[.t (.v (.int .u8 0))],1⟩ .nil) 272 ⟨(.int .u8),[.t (.v (.int .u8 0))],1⟩ .nil) 274 ⟨(.ptr 5),[.t (.v (.pointer none))],8⟩ (.node (.node .nil 275 ⟨(.int .i32),[.t (.v (.int .i32 0))],4⟩ .nil) 276 ⟨(.int .i32),[.t (.v (.int .i32 0))],4⟩ .nil))))))
set_option maxRecDepth 10000 in
theorem Y3:EnvOk Tryz.prog E:=by
 unfold E
 repeat (first|exact EnvOk.nil|refine EnvOk.node ?_ ⟨by kernel_rfl,by kernel_rfl,by simp,by simp[zC,sc],by simp[Ty.agg],by simp,by simp,by simp⟩ ?_)
def md(f:FuncId):List Md:=(bif Nat.blt f 113 then(bif Nat.blt f 58 then(bif Nat.blt f 30 then(bif Nat.blt f 16 then(bif Nat.blt f 9 then(bif Nat.blt f 6 then(bif Nat.blt f 4 then [.v,.v]else(bif Nat.blt f 5 then [.v,.v]else [.v]))else(bif Nat.blt f 7 then [.v,.v]else(bif Nat.blt f 8 then [.v,.v]else [.v])))else(bif Nat.blt f 12 then(bif Nat.blt f 10 then [.v,.v]else(bif Nat.blt f 11 then [.v,.v]else [.v]))else(bif Nat.blt f 14 then(bif Nat.blt f 13 then [.v]else [.v,.v])else(bif Nat.blt f 15 then [.v,.v]else [.b,.v]))))else(bif Nat.blt f 23 then(bif Nat.blt f 19 then(bif Nat.blt f 17 then [.v,.v]else(bif Nat.blt f 18 then [.v,.v]else [.v,.v]))else(bif Nat.blt f 21 then(bif Nat.blt f 20 then [.v]else [.v])else(bif Nat.blt f 22 then [.v,.v]else [.v])))else(bif Nat.blt f 26 then(bif Nat.blt f 24 then [.v]else(bif Nat.blt f 25 then [.v]else [.v]))else(bif Nat.blt f 28 then(bif Nat.blt f 27 then [.v]else [.v,.v])else(bif Nat.blt f 29 then [.v]else [.v,.v])))))else(bif Nat.blt f 44 then(bif Nat.blt f 37 then(bif Nat.blt f 33 then(bif Nat.blt f 31 then [.v]else(bif Nat.blt f 32 then [.v]else [.v,.v]))else(bif Nat.blt f 35 then(bif Nat.blt f 34 then [.v,.v]else [.v,.v])else(bif Nat.blt f 36 then [.v,.v]else [.v])))else(bif Nat.blt f 40 then(bif Nat.blt f 38 then [.mv,.v]else(bif Nat.blt f 39 then [.v]else [.v]))else(bif Nat.blt f 42 then(bif Nat.blt f 41 then [.v]else [.v])else(bif Nat.blt f 43 then [.v]else [.p,.v]))))else(bif Nat.blt f 51 then(bif Nat.blt f 47 then(bif Nat.blt f 45 then [.v,.v]else(bif Nat.blt f 46 then [.v,.v]else [.v,.v]))else(bif Nat.blt f 49 then(bif Nat.blt f 48 then [.v,.v]else [.b,.v])else(bif Nat.blt f 50 then [.b,.v]else [.b,.v])))else(bif Nat.blt f 54 then(bif Nat.blt f 52 then [.b,.v]else(bif Nat.blt f 53 then [.v,.v]else [.v,.v]))else(bif Nat.blt f 56 then(bif Nat.blt f 55 then [.v,.v]else [.v,.v])else(bif Nat.blt f 57 then [.mv]else [.mv,.v]))))))else(bif Nat.blt f 85 then(bif Nat.blt f 71 then(bif Nat.blt f 64 then(bif Nat.blt f 61 then(bif Nat.blt f 59 then [.p]else(bif Nat.blt f 60 then [.p,.v]else [.v]))else(bif Nat.blt f 62 then [.p]else(bif Nat.blt f 63 then [.p]else [.p,.v])))else(bif Nat.blt f 67 then(bif Nat.blt f 65 then [.v]else(bif Nat.blt f 66 then [.v,.v,.v]else [.v]))else(bif Nat.blt f 69 then(bif Nat.blt f 68 then [.v,.v]else [.v,.v])else(bif Nat.blt f 70 then [.v,.v]else [.v]))))else(bif Nat.blt f 78 then(bif Nat.blt f 74 then(bif Nat.blt f 72 then [.v,.v,.v]else(bif Nat.blt f 73 then [.v]else [.v,.v]))else(bif Nat.blt f 76 then(bif Nat.blt f 75 then [.v]else [.v])else(bif Nat.blt f 77 then [.v,.v]else [.v])))else(bif Nat.blt f 81 then(bif Nat.blt f 79 then [.v]else(bif Nat.blt f 80 then [.v]else [.v]))else(bif Nat.blt f 83 then(bif Nat.blt f 82 then [.v,.v]else [.v])else(bif Nat.blt f 84 then [.v,.v]else [.v,.v])))))else(bif Nat.blt f 99 then(bif Nat.blt f 92 then(bif Nat.blt f 88 then(bif Nat.blt f 86 then [.v,.v]else(bif Nat.blt f 87 then [.v,.v]else [.v,.v]))else(bif Nat.blt f 90 then(bif Nat.blt f 89 then [.v,.v]else [.v,.v])else(bif Nat.blt f 91 then [.v,.v]else [.v])))else(bif Nat.blt f 95 then(bif Nat.blt f 93 then [.v]else(bif Nat.blt f 94 then [.v]else [.v]))else(bif Nat.blt f 97 then(bif Nat.blt f 96 then [.v,.v]else [.v,.v])else(bif Nat.blt f 98 then [.v,.v,.v,.v]else [.v,.v,.v]))))else(bif Nat.blt f 106 then(bif Nat.blt f 102 then(bif Nat.blt f 100 then [.v]else(bif Nat.blt f 101 then [.v,.v]else [.v]))else(bif Nat.blt f 104 then(bif Nat.blt f 103 then [.v]else [.v])else(bif Nat.blt f 105 then [.v]else [.v])))else(bif Nat.blt f 109 then(bif Nat.blt f 107 then [.v]else(bif Nat.blt f 108 then [.v]else [.v]))else(bif Nat.blt f 111 then(bif Nat.blt f 110 then [.v]else [.v])else(bif Nat.blt f 112 then [.v]else [.v])))))))else(bif Nat.blt f 168 then(bif Nat.blt f 140 then(bif Nat.blt f 126 then(bif Nat.blt f 119 then(bif Nat.blt f 116 then(bif Nat.blt f 114 then [.v]else(bif Nat.blt f 115 then [.v,.v]else [.v,.v]))else(bif Nat.blt f 117 then [.v,.v]else(bif Nat.blt f 118 then [.v,.v,.v,.v]else [.p,.v])))else(bif Nat.blt f 122 then(bif Nat.blt f 120 then [.p,.v]else(bif Nat.blt f 121 then [.v]else [.p,.v]))else(bif Nat.blt f 124 then(bif Nat.blt f 123 then [.v]else [.v,.v])else(bif Nat.blt f 125 then [.v,.v]else [.v,.v]))))else(bif Nat.blt f 133 then(bif Nat.blt f 129 then(bif Nat.blt f 127 then [.v,.v]else(bif Nat.blt f 128 then [.v,.v]else [.v,.v]))else(bif Nat.blt f 131 then(bif Nat.blt f 130 then [.v,.v]else [.v,.v])else(bif Nat.blt f 132 then [.b,.v]else [.b,.v])))else(bif Nat.blt f 136 then(bif Nat.blt f 134 then [.b,.v]else(bif Nat.blt f 135 then [.b,.v]else [.b,.v]))else(bif Nat.blt f 138 then(bif Nat.blt f 137 then [.b,.v]else [.v])else(bif Nat.blt f 139 then [.v,.v]else [.v,.v])))))else(bif Nat.blt f 154 then(bif Nat.blt f 147 then(bif Nat.blt f 143 then(bif Nat.blt f 141 then [.v,.v]else(bif Nat.blt f 142 then [.v,.v]else [.v,.v]))else(bif Nat.blt f 145 then(bif Nat.blt f 144 then [.v,.v]else [.v,.v])else(bif Nat.blt f 146 then [.v,.v]else [.v,.v,.v])))else(bif Nat.blt f 150 then(bif Nat.blt f 148 then [.v,.v]else(bif Nat.blt f 149 then [.v,.v]else [.v,.v]))else(bif Nat.blt f 152 then(bif Nat.blt f 151 then [.v,.v,.v]else [.v,.v,.v])else(bif Nat.blt f 153 then [.p,.v]else [.mv,.v]))))else(bif Nat.blt f 161 then(bif Nat.blt f 157 then(bif Nat.blt f 155 then [.v,.v,.v]else(bif Nat.blt f 156 then [.v,.v]else [.p,.v,.v]))else(bif Nat.blt f 159 then(bif Nat.blt f 158 then [.mv,.v,.v]else [.p])else(bif Nat.blt f 160 then [.p]else [.p,.mv])))else(bif Nat.blt f 164 then(bif Nat.blt f 162 then [.p]else(bif Nat.blt f 163 then [.v,.v]else [.v]))else(bif Nat.blt f 166 then(bif Nat.blt f 165 then [.v]else [.v])else(bif Nat.blt f 167 then [.v,.v]else [.v]))))))else(bif Nat.blt f 196 then(bif Nat.blt f 182 then(bif Nat.blt f 175 then(bif Nat.blt f 171 then(bif Nat.blt f 169 then [.v]else(bif Nat.blt f 170 then [.v,.v]else [.v,.v]))else(bif Nat.blt f 173 then(bif Nat.blt f 172 then [.p,.v]else [.v])else(bif Nat.blt f 174 then [.v,.v]else [.v,.v])))else(bif Nat.blt f 178 then(bif Nat.blt f 176 then [.v]else(bif Nat.blt f 177 then [.v]else [.v,.v]))else(bif Nat.blt f 180 then(bif Nat.blt f 179 then [.v]else [.v,.v,.v])else(bif Nat.blt f 181 then [.v,.v]else [.v]))))else(bif Nat.blt f 189 then(bif Nat.blt f 185 then(bif Nat.blt f 183 then [.v,.v]else(bif Nat.blt f 184 then [.v,.v]else [.v]))else(bif Nat.blt f 187 then(bif Nat.blt f 186 then [.v]else [.v])else(bif Nat.blt f 188 then [.v]else [.v,.v])))else(bif Nat.blt f 192 then(bif Nat.blt f 190 then [.v]else(bif Nat.blt f 191 then [.v,.v]else [.v,.v]))else(bif Nat.blt f 194 then(bif Nat.blt f 193 then [.v,.v]else [.v,.v])else(bif Nat.blt f 195 then [.b,.v]else [.v,.v])))))else(bif Nat.blt f 210 then(bif Nat.blt f 203 then(bif Nat.blt f 199 then(bif Nat.blt f 197 then [.mv,.v]else(bif Nat.blt f 198 then [.v,.v]else [.v]))else(bif Nat.blt f 201 then(bif Nat.blt f 200 then [.mv,.v]else [.mv,.v,.v])else(bif Nat.blt f 202 then [.v,.v]else [.p,.v,.v,.r 0])))else(bif Nat.blt f 206 then(bif Nat.blt f 204 then [.p]else(bif Nat.blt f 205 then [.p]else [.v,.v,.v]))else(bif Nat.blt f 208 then(bif Nat.blt f 207 then [.p,.mv]else [.p,.mv])else(bif Nat.blt f 209 then [.p,.mv]else [.v,.v]))))else(bif Nat.blt f 217 then(bif Nat.blt f 213 then(bif Nat.blt f 211 then [.p]else(bif Nat.blt f 212 then [.v]else [.v]))else(bif Nat.blt f 215 then(bif Nat.blt f 214 then [.v]else [.v])else(bif Nat.blt f 216 then [.v,.v]else [.v])))else(bif Nat.blt f 220 then(bif Nat.blt f 218 then [.v,.v]else(bif Nat.blt f 219 then [.v]else [.v]))else(bif Nat.blt f 222 then(bif Nat.blt f 221 then [.v]else [.p])else(bif Nat.blt f 223 then [.p]else [.v]))))))))
def sq(t:TypeId):Bool:=Nat.beq t 78||Nat.beq t 202||Nat.beq t 204||Nat.beq t 206
theorem aah:∀ t,sq t = true→SqOk Tryz.prog t:=by
 intro t h
 simp only[sq,Bool.or_eq_true,Nat.beq_eq]at h
 rcases h with((rfl|rfl)|rfl)|rfl
 all_goals exact⟨by kernel_rfl,by kernel_rfl,by kernel_rfl,by kernel_rfl⟩
def F(f:FuncId)(xs:List A)(res:V)(outs:List (List V)):Prop:=Enters Tryz.prog f∧Tm.Fn Tryz.prog f xs res outs
def C:Cx:=⟨E,F,md,sq⟩
theorem Y4:CxOk Tryz.prog C:=⟨Y3,aah,fun _ _ _ _ h=>h⟩
variable {nt id:Nat} {ops:Array Oper} {y:Code} {H:HD} {Q:Exit→HD→Prop}
theorem g(lo hi:Nat)(ans:List Ans)(h:Ou C nt ops ops.toList ans H fun p H=>ot lo hi H fun H=>p∧W Tryz.prog nt y H Q):W Tryz.prog nt (.seq (.region id ops false) y) H Q:=W.sg Y4 lo hi ans h
theorem rg(ans:List Ans)(h:Ou C nt ops ops.toList ans H fun p H=>p∧Q .normal H):W Tryz.prog nt (.region id ops false) H Q:=W.rg Y4 ans h
theorem YA:Tryz.prog.follows .mixedOrders = true:=by kernel_rfl
theorem gd(lo hi:Nat)(ans:List (List Ans))(h:Ov C nt ops ops.toList ans H fun p r H=>ot lo hi H fun H=>p∧Pl ops.toList r = true∧W Tryz.prog nt y H Q):W Tryz.prog nt (.seq (.region id ops true) y) H Q:=W.sgD Y4 YA lo hi ans h
theorem rgd(ans:List (List Ans))(h:Ov C nt ops ops.toList ans H fun p r H=>p∧Pl ops.toList r = true∧Q .normal H):W Tryz.prog nt (.region id ops true) H Q:=W.rgD Y4 YA ans h
abbrev Q1(res:V)(outs:List (List V)):V→List (List V)→Prop:=fun r o=>r = res∧o = outs
def IT(i nt:Nat)(f:Func)(rs:List Rs):Prop:=∀ {xs:List A} {res:V} {outs:List (List V)} (hrun:lH (Ru nt xs) fun H=>W Tryz.prog nt (qP f) H (EndsW nt E rs xs (Q1 res outs))) (h:(NW xs && Nat.ble xs.length nt) = true:=by rfl),F i xs res outs
def XT(i nt:Nat)(f:Func)(rs:List Rs):Prop:=∀ {xs:List A} {R:V→List (List V)→Prop} (hrun:lH (Ru nt xs) fun H=>W Tryz.prog nt (qP f) H (EndsW nt E rs xs R)) (h:(NW xs && Nat.ble xs.length nt) = true:=by rfl),∃ res outs,R res outs∧F i xs res outs
theorem iM {i nt : Nat} {f : Func} {rs : List Rs} (hf : Tryz.prog.funcs[i]? = some f) (hb : f.body = some (qP f)) (hnt : f.ntmps = nt) (hrs : f.results = (rs.map m8).toArray) (h1 : (f.name == "runtime.NumGoroutine") = false ) (h2 : f.body.isNone = false) : IT i nt f rs := @fun _ _ _ hrun h => ⟨⟨f, hf, h1, h2⟩, Fn.one hf hb hnt Y3 hrs h hrun⟩
theorem xM {i nt : Nat} {f : Func} {rs : List Rs} (hf : Tryz.prog.funcs[i]? = some f) (hb : f.body = some (qP f)) (hnt : f.ntmps = nt) (hrs : f.results = (rs.map m8).toArray) (h1 : (f.name == "runtime.NumGoroutine") = false ) (h2 : f.body.isNone = false) : XT i nt f rs := @fun _ _ hrun h => by obtain ⟨r, o, q1, q2⟩ := Fn.any hf hb hnt Y3 hrs h hrun; exact ⟨r, o, q1, ⟨f, hf, h1, h2⟩, q2⟩
theorem RT{p q:Prop}(h:q)(f:Box q→p:=by
 intro h
 refine W.ret ?_
 refine EndsW.rt ?_
 conv=>whnf
 refine J (by repeat' first|exact I|refine J ?_ ?_) (J ?_ rfl)
 exact h.out):p:=f ⟨h⟩
abbrev vf:FuncId:=5
theorem il:IT 5 70 Tryz.f5 [(2,4,false)]:=@iM _ _ _ _ Tryz.func5 rfl rfl rfl KR KR
abbrev PQ:FuncId:=13
theorem FP:IT 13 14 Tryz.f13 [(4,52,true)]:=@iM _ _ _ _ Tryz.func13 rfl rfl rfl KR KR
abbrev Dd:FuncId:=19
abbrev sO:FuncId:=20
theorem sY:IT 20 96 Tryz.f20 [(2,4,false)]:=@iM _ _ _ _ Tryz.func20 rfl rfl rfl KR KR
abbrev Df:FuncId:=21
theorem DU:IT 21 93 Tryz.f21 [(4,4,false)]:=@iM _ _ _ _ Tryz.func21 rfl rfl rfl KR KR
abbrev sV:FuncId:=22
theorem td:IT 22 87 Tryz.f22 [(2,4,false)]:=@iM _ _ _ _ Tryz.func22 rfl rfl rfl KR KR
abbrev tA:FuncId:=27
theorem G7:IT 27 26 Tryz.f27 [(4,4,false)]:=@iM _ _ _ _ Tryz.func27 rfl rfl rfl KR KR
abbrev rk:FuncId:=29
theorem gy:IT 29 77 Tryz.f29 [(4,9,false)]:=@iM _ _ _ _ Tryz.func29 rfl rfl rfl KR KR
abbrev C2:FuncId:=36
theorem DJ:IT 36 38 Tryz.f36 [(2,52,true)]:=@iM _ _ _ _ Tryz.func36 rfl rfl rfl KR KR
abbrev I9:FuncId:=37
theorem di:IT 37 112 Tryz.f37 [(4,52,true)]:=@iM _ _ _ _ Tryz.func37 rfl rfl rfl KR KR
abbrev sQ:FuncId:=42
theorem tb:IT 42 36 Tryz.f42 [(2,52,true)]:=@iM _ _ _ _ Tryz.func42 rfl rfl rfl KR KR
abbrev yu:FuncId:=43
theorem bp:IT 43 131 Tryz.f43 []:=@iM _ _ _ _ Tryz.func43 rfl rfl rfl KR KR
abbrev C0:FuncId:=56
theorem qs:IT 56 55 Tryz.f56 [(2,52,true)]:=@iM _ _ _ _ Tryz.func56 rfl rfl rfl KR KR
abbrev zL:FuncId:=57
theorem bZ:IT 57 83 Tryz.f57 [(4,52,true)]:=@iM _ _ _ _ Tryz.func57 rfl rfl rfl KR KR
abbrev sR:FuncId:=58
theorem kV:IT 58 62 Tryz.f58 []:=@iM _ _ _ _ Tryz.func58 rfl rfl rfl KR KR
abbrev jX:FuncId:=59
theorem bu:IT 59 65 Tryz.f59 []:=@iM _ _ _ _ Tryz.func59 rfl rfl rfl KR KR
abbrev Db:FuncId:=60
theorem DT:IT 60 11 Tryz.f60 [(2,100,false)]:=@iM _ _ _ _ Tryz.func60 rfl rfl rfl KR KR
abbrev GF:FuncId:=61
abbrev kc:FuncId:=62
abbrev eT:FuncId:=63
abbrev uN:FuncId:=64
theorem vB:IT 64 120 Tryz.f64 [(2,3,false)]:=@iM _ _ _ _ Tryz.func64 rfl rfl rfl KR KR
abbrev Jc:FuncId:=65
theorem Jt:IT 65 15 Tryz.f65 [(6,4,false)]:=@iM _ _ _ _ Tryz.func65 rfl rfl rfl KR KR
abbrev qU:FuncId:=66
theorem ro:IT 66 129 Tryz.f66 [(2,4,false)]:=@iM _ _ _ _ Tryz.func66 rfl rfl rfl KR KR
abbrev lW:FuncId:=67
theorem mi:IT 67 219 Tryz.f67 [(4,4,false)]:=@iM _ _ _ _ Tryz.func67 rfl rfl rfl KR KR
abbrev GL:FuncId:=68
theorem G8:IT 68 155 Tryz.f68 [(4,4,false)]:=@iM _ _ _ _ Tryz.func68 rfl rfl rfl KR KR
abbrev zO:FuncId:=69
theorem Ag:IT 69 80 Tryz.f69 [(4,4,false)]:=@iM _ _ _ _ Tryz.func69 rfl rfl rfl KR KR
abbrev vm:FuncId:=70
theorem vX:IT 70 91 Tryz.f70 [(2,3,false)]:=@iM _ _ _ _ Tryz.func70 rfl rfl rfl KR KR
abbrev DA:FuncId:=71
theorem Ee:IT 71 15 Tryz.f71 [(6,4,false)]:=@iM _ _ _ _ Tryz.func71 rfl rfl rfl KR KR
abbrev ri:FuncId:=72
theorem ry:IT 72 124 Tryz.f72 [(2,4,false)]:=@iM _ _ _ _ Tryz.func72 rfl rfl rfl KR KR
abbrev lY:FuncId:=73
theorem mj:IT 73 281 Tryz.f73 [(4,4,false)]:=@iM _ _ _ _ Tryz.func73 rfl rfl rfl KR KR
abbrev od:FuncId:=75
theorem om:IT 75 108 Tryz.f75 [(2,4,false)]:=@iM _ _ _ _ Tryz.func75 rfl rfl rfl KR KR
abbrev Jg:FuncId:=76
theorem Jw:IT 76 13 Tryz.f76 [(4,9,false)]:=@iM _ _ _ _ Tryz.func76 rfl rfl rfl KR KR
abbrev pg:FuncId:=78
theorem pi:IT 78 11 Tryz.f78 [(2,25,false)]:=@iM _ _ _ _ Tryz.func78 rfl rfl rfl KR KR
abbrev lZ:FuncId:=79
theorem vU:IT 79 36 Tryz.f79 [(2,120,true),(3,4,false)]:=@iM _ _ _ _ Tryz.func79 rfl rfl rfl KR KR
abbrev GK:FuncId:=80
theorem tH:IT 80 58 Tryz.f80 [(2,25,false)]:=@iM _ _ _ _ Tryz.func80 rfl rfl rfl KR KR
abbrev lz:FuncId:=81
theorem lB:IT 81 102 Tryz.f81 [(4,124,true)]:=@iM _ _ _ _ Tryz.func81 rfl rfl rfl KR KR
abbrev GH:FuncId:=82
theorem G4:IT 82 10 Tryz.f82 [(2,25,false)]:=@iM _ _ _ _ Tryz.func82 rfl rfl rfl KR KR
abbrev Da:FuncId:=91
theorem DS:IT 91 34 Tryz.f91 [(2,42,true)]:=@iM _ _ _ _ Tryz.func91 rfl rfl rfl KR KR
abbrev ql:FuncId:=92
theorem DM:IT 92 28 Tryz.f92 [(2,48,true)]:=@iM _ _ _ _ Tryz.func92 rfl rfl rfl KR KR
abbrev C4:FuncId:=93
theorem DK:IT 93 6 Tryz.f93 [(2,50,false)]:=@iM _ _ _ _ Tryz.func93 rfl rfl rfl KR KR
abbrev C7:FuncId:=94
theorem DP:IT 94 9 Tryz.f94 [(2,109,true)]:=@iM _ _ _ _ Tryz.func94 rfl rfl rfl KR KR
abbrev De:FuncId:=95
theorem qw:IT 95 24 Tryz.f95 [(4,50,false)]:=@iM _ _ _ _ Tryz.func95 rfl rfl rfl KR KR
abbrev Je:FuncId:=96
theorem Jv:IT 96 21 Tryz.f96 [(4,50,false)]:=@iM _ _ _ _ Tryz.func96 rfl rfl rfl KR KR
abbrev Jf:FuncId:=97
theorem oQ:IT 97 60 Tryz.f97 [(8,50,false)]:=@iM _ _ _ _ Tryz.func97 rfl rfl rfl KR KR
abbrev ya:FuncId:=98
theorem ff:IT 98 46 Tryz.f98 [(6,48,true)]:=@iM _ _ _ _ Tryz.func98 rfl rfl rfl KR KR
abbrev sN:FuncId:=99
theorem sX:IT 99 12 Tryz.f99 [(2,109,true)]:=@iM _ _ _ _ Tryz.func99 rfl rfl rfl KR KR
abbrev jf:FuncId:=100
theorem nI:IT 100 13 Tryz.f100 [(4,48,true)]:=@iM _ _ _ _ Tryz.func100 rfl rfl rfl KR KR
abbrev sM:FuncId:=101
theorem kU:IT 101 25 Tryz.f101 [(2,109,true)]:=@iM _ _ _ _ Tryz.func101 rfl rfl rfl KR KR
abbrev vh:FuncId:=110
theorem vV:IT 110 26 Tryz.f110 [(2,42,true)]:=@iM _ _ _ _ Tryz.func110 rfl rfl rfl KR KR
abbrev l9:FuncId:=111
theorem vY:IT 111 33 Tryz.f111 [(2,48,true)]:=@iM _ _ _ _ Tryz.func111 rfl rfl rfl KR KR
abbrev DC:FuncId:=112
theorem Eg:IT 112 6 Tryz.f112 [(2,50,false)]:=@iM _ _ _ _ Tryz.func112 rfl rfl rfl KR KR
abbrev rb:FuncId:=113
theorem rx:IT 113 8 Tryz.f113 [(2,109,true)]:=@iM _ _ _ _ Tryz.func113 rfl rfl rfl KR KR
abbrev GR:FuncId:=114
theorem He:IT 114 15 Tryz.f114 [(4,4,false)]:=@iM _ _ _ _ Tryz.func114 rfl rfl rfl KR KR
abbrev Jj:FuncId:=115
theorem Jz:IT 115 20 Tryz.f115 [(4,50,false)]:=@iM _ _ _ _ Tryz.func115 rfl rfl rfl KR KR
abbrev DD:FuncId:=116
theorem qz:IT 116 24 Tryz.f116 [(4,50,false)]:=@iM _ _ _ _ Tryz.func116 rfl rfl rfl KR KR
abbrev Jk:FuncId:=117
theorem oT:IT 117 53 Tryz.f117 [(8,50,false)]:=@iM _ _ _ _ Tryz.func117 rfl rfl rfl KR KR
abbrev vp:FuncId:=118
theorem ml:IT 118 42 Tryz.f118 []:=@iM _ _ _ _ Tryz.func118 rfl rfl rfl KR KR
abbrev jq:FuncId:=119
theorem jx:IT 119 19 Tryz.f119 [(4,159,false)]:=@iM _ _ _ _ Tryz.func119 rfl rfl rfl KR KR
abbrev sU:FuncId:=120
theorem tc:IT 120 11 Tryz.f120 [(2,109,true)]:=@iM _ _ _ _ Tryz.func120 rfl rfl rfl KR KR
abbrev ij:FuncId:=121
theorem fL:IT 121 74 Tryz.f121 []:=@iM _ _ _ _ Tryz.func121 rfl rfl rfl KR KR
abbrev sS:FuncId:=122
theorem kW:IT 122 22 Tryz.f122 [(2,109,true)]:=@iM _ _ _ _ Tryz.func122 rfl rfl rfl KR KR
abbrev x7:FuncId:=144
theorem gt:IT 144 115 Tryz.f144 [(4,176,true)]:=@iM _ _ _ _ Tryz.func144 rfl rfl rfl KR KR
abbrev sK:FuncId:=145
theorem aR:IT 145 86 Tryz.f145 [(4,179,true)]:=@iM _ _ _ _ Tryz.func145 rfl rfl rfl KR KR
abbrev Jd:FuncId:=146
theorem Ju:IT 146 43 Tryz.f146 [(6,50,false)]:=@iM _ _ _ _ Tryz.func146 rfl rfl rfl KR KR
abbrev zM:FuncId:=147
theorem Ae:IT 147 18 Tryz.f147 [(4,4,false)]:=@iM _ _ _ _ Tryz.func147 rfl rfl rfl KR KR
abbrev Dc:FuncId:=148
theorem lC:IT 148 20 Tryz.f148 [(4,4,false)]:=@iM _ _ _ _ Tryz.func148 rfl rfl rfl KR KR
abbrev qV:FuncId:=149
theorem gv:IT 149 81 Tryz.f149 [(4,75,true),(5,4,false)]:=@iM _ _ _ _ Tryz.func149 rfl rfl rfl KR KR
abbrev x8:FuncId:=150
theorem ci:IT 150 110 Tryz.f150 [(6,176,true)]:=@iM _ _ _ _ Tryz.func150 rfl rfl rfl KR KR
abbrev sL:FuncId:=151
theorem aS:IT 151 121 Tryz.f151 [(6,179,true)]:=@iM _ _ _ _ Tryz.func151 rfl rfl rfl KR KR
abbrev vn:FuncId:=152
theorem im:IT 152 246 Tryz.f152 [(4,174,false)]:=@iM _ _ _ _ Tryz.func152 rfl rfl rfl KR KR
abbrev rd:FuncId:=153
theorem ba:IT 153 75 Tryz.f153 [(4,179,true)]:=@iM _ _ _ _ Tryz.func153 rfl rfl rfl KR KR
abbrev Ji:FuncId:=154
theorem Jy:IT 154 44 Tryz.f154 [(6,50,false)]:=@iM _ _ _ _ Tryz.func154 rfl rfl rfl KR KR
abbrev rj:FuncId:=155
theorem dj:IT 155 107 Tryz.f155 [(4,75,true),(5,4,false)]:=@iM _ _ _ _ Tryz.func155 rfl rfl rfl KR KR
abbrev vo:FuncId:=156
theorem cE:IT 156 131 Tryz.f156 []:=@iM _ _ _ _ Tryz.func156 rfl rfl rfl KR KR
abbrev rf:FuncId:=157
theorem bc:IT 157 95 Tryz.f157 [(6,109,true)]:=@iM _ _ _ _ Tryz.func157 rfl rfl rfl KR KR
abbrev C1:FuncId:=158
abbrev ii:FuncId:=159
abbrev zK:FuncId:=160
abbrev zN:FuncId:=161
theorem Af:IT 161 7 Tryz.f161 [(2,9,false)]:=@iM _ _ _ _ Tryz.func161 rfl rfl rfl KR KR
abbrev qW:FuncId:=162
theorem gw:IT 162 23 Tryz.f162 [(4,9,false)]:=@iM _ _ _ _ Tryz.func162 rfl rfl rfl KR KR
abbrev xX:FuncId:=163
theorem yC:IT 163 28 Tryz.f163 [(2,4,false)]:=@iM _ _ _ _ Tryz.func163 rfl rfl rfl KR KR
abbrev uK:FuncId:=164
theorem vw:IT 164 5 Tryz.f164 [(2,4,false)]:=@iM _ _ _ _ Tryz.func164 rfl rfl rfl KR KR
abbrev sJ:FuncId:=165
theorem sW:IT 165 19 Tryz.f165 [(2,4,false)]:=@iM _ _ _ _ Tryz.func165 rfl rfl rfl KR KR
abbrev xW:FuncId:=166
theorem yA:IT 166 96 Tryz.f166 [(4,4,false)]:=@iM _ _ _ _ Tryz.func166 rfl rfl rfl KR KR
abbrev GT:FuncId:=167
theorem Hg:IT 167 28 Tryz.f167 [(2,4,false)]:=@iM _ _ _ _ Tryz.func167 rfl rfl rfl KR KR
abbrev DB:FuncId:=168
theorem Ef:IT 168 18 Tryz.f168 [(2,4,false)]:=@iM _ _ _ _ Tryz.func168 rfl rfl rfl KR KR
abbrev qn:FuncId:=169
theorem lD:IT 169 92 Tryz.f169 [(4,124,true)]:=@iM _ _ _ _ Tryz.func169 rfl rfl rfl KR KR
abbrev GS:FuncId:=170
theorem Hf:IT 170 19 Tryz.f170 [(4,4,false)]:=@iM _ _ _ _ Tryz.func170 rfl rfl rfl KR KR
abbrev sP:FuncId:=171
theorem sZ:IT 171 22 Tryz.f171 []:=@iM _ _ _ _ Tryz.func171 rfl rfl rfl KR KR
abbrev vg:FuncId:=172
theorem vT:IT 172 23 Tryz.f172 [(2,9,false)]:=@iM _ _ _ _ Tryz.func172 rfl rfl rfl KR KR
abbrev GW:FuncId:=173
theorem Hi:IT 173 22 Tryz.f173 [(4,9,false)]:=@iM _ _ _ _ Tryz.func173 rfl rfl rfl KR KR
abbrev Jh:FuncId:=174
theorem Jx:IT 174 23 Tryz.f174 [(4,25,false)]:=@iM _ _ _ _ Tryz.func174 rfl rfl rfl KR KR
abbrev GU:FuncId:=175
theorem Hh:IT 175 6 Tryz.f175 [(2,25,false)]:=@iM _ _ _ _ Tryz.func175 rfl rfl rfl KR KR
abbrev rl:FuncId:=176
theorem rz:IT 176 31 Tryz.f176 [(2,4,false)]:=@iM _ _ _ _ Tryz.func176 rfl rfl rfl KR KR
abbrev tz:FuncId:=177
theorem G6:IT 177 26 Tryz.f177 [(4,9,false)]:=@iM _ _ _ _ Tryz.func177 rfl rfl rfl KR KR
abbrev uL:FuncId:=178
theorem vz:IT 178 32 Tryz.f178 [(2,120,true),(3,4,false)]:=@iM _ _ _ _ Tryz.func178 rfl rfl rfl KR KR
abbrev C5:FuncId:=179
theorem DN:IT 179 29 Tryz.f179 [(6,4,false)]:=@iM _ _ _ _ Tryz.func179 rfl rfl rfl KR KR
abbrev GG:FuncId:=181
theorem G3:IT 181 12 Tryz.f181 [(2,43,true)]:=@iM _ _ _ _ Tryz.func181 rfl rfl rfl KR KR
abbrev qm:FuncId:=182
theorem qv:IT 182 13 Tryz.f182 [(4,109,true)]:=@iM _ _ _ _ Tryz.func182 rfl rfl rfl KR KR
abbrev ls:FuncId:=183
theorem iK:IT 183 79 Tryz.f183 [(4,48,true)]:=@iM _ _ _ _ Tryz.func183 rfl rfl rfl KR KR
abbrev pf:FuncId:=188
theorem ph:IT 188 13 Tryz.f188 [(4,109,true)]:=@iM _ _ _ _ Tryz.func188 rfl rfl rfl KR KR
abbrev vj:FuncId:=189
theorem vW:IT 189 24 Tryz.f189 [(2,9,false)]:=@iM _ _ _ _ Tryz.func189 rfl rfl rfl KR KR
abbrev lu:FuncId:=196
theorem DL:IT 196 138 Tryz.f196 [(4,176,true)]:=@iM _ _ _ _ Tryz.func196 rfl rfl rfl KR KR
abbrev C6:FuncId:=197
theorem lA:IT 197 26 Tryz.f197 [(4,75,true)]:=@iM _ _ _ _ Tryz.func197 rfl rfl rfl KR KR
abbrev Jb:FuncId:=198
theorem Js:IT 198 120 Tryz.f198 [(2,4,false)]:=@iM _ _ _ _ Tryz.func198 rfl rfl rfl KR KR
abbrev qk:FuncId:=199
theorem qu:IT 199 28 Tryz.f199 [(4,48,true),(5,4,false)]:=@iM _ _ _ _ Tryz.func199 rfl rfl rfl KR KR
abbrev nD:FuncId:=200
theorem cg:IT 200 140 Tryz.f200 [(6,48,true)]:=@iM _ _ _ _ Tryz.func200 rfl rfl rfl KR KR
abbrev re:FuncId:=201
theorem gx:IT 201 26 Tryz.f201 [(4,75,true)]:=@iM _ _ _ _ Tryz.func201 rfl rfl rfl KR KR
abbrev rm:FuncId:=202
theorem bH:IT 202 162 Tryz.f202 []:=@iM _ _ _ _ Tryz.func202 rfl rfl rfl KR KR
abbrev lv:FuncId:=203
abbrev ly:FuncId:=204
abbrev xY:FuncId:=205
theorem gr:IT 205 45 Tryz.f205 [(6,52,true)]:=@iM _ _ _ _ Tryz.func205 rfl rfl rfl KR KR
abbrev ke:FuncId:=206
abbrev eU:FuncId:=207
abbrev kg:FuncId:=208
abbrev iH:FuncId:=209
abbrev C3:FuncId:=210
abbrev GI:FuncId:=211
theorem G5:IT 211 35 Tryz.f211 [(2,9,false)]:=@iM _ _ _ _ Tryz.func211 rfl rfl rfl KR KR
abbrev tw:FuncId:=212
theorem tF:IT 212 26 Tryz.f212 [(2,9,false)]:=@iM _ _ _ _ Tryz.func212 rfl rfl rfl KR KR
abbrev C9:FuncId:=213
theorem DR:IT 213 67 Tryz.f213 [(2,9,false)]:=@iM _ _ _ _ Tryz.func213 rfl rfl rfl KR KR
abbrev uM:FuncId:=214
theorem vA:IT 214 25 Tryz.f214 [(2,9,false)]:=@iM _ _ _ _ Tryz.func214 rfl rfl rfl KR KR
abbrev qi:FuncId:=218
theorem qt:IT 218 18 Tryz.f218 [(2,3,false)]:=@iM _ _ _ _ Tryz.func218 rfl rfl rfl KR KR
abbrev C8:FuncId:=219
theorem DQ:IT 219 16 Tryz.f219 [(2,4,false),(3,4,false),(4,4,false),(5,4,false),(6,4,false)]:=@iM _ _ _ _ Tryz.func219 rfl rfl rfl KR KR
abbrev nF:FuncId:=220
theorem yB:IT 220 18 Tryz.f220 [(2,25,false)]:=@iM _ _ _ _ Tryz.func220 rfl rfl rfl KR KR
abbrev lw:FuncId:=221
abbrev lx:FuncId:=222
abbrev Ja:FuncId:=223
theorem Jr:IT 223 33 Tryz.f223 [(2,4,false)]:=@iM _ _ _ _ Tryz.func223 rfl rfl rfl KR KR
theorem fF{f:FuncId}{xs:List A}{r:V}{o:List (List V)}(h:F f xs r o:=by assumption):F f xs r o:=h
theorem QZ{p:Prop}(h:p:=by
 (repeat' first
  |exact True.intro
  |exact fF
  |refine J ?_ ?_
  |with_reducible rfl
  |exact w8 _
  |exact xA
  |exact ixb AS
  |exact nO
  |exact tO
  |exact dO
  |exact dP OM
  |assumption
  |exact wO
  |exact nbF AS
  |exact nbT AS
  |omega
  |rfl
  |exact mA
  |exact w8u _
  |exact LN
  |exact w64 LN LN
  |exact wu8 OM OM
  |exact jH LN
  |exact uo
  |exact uk
  |exact nU AS
  |(simp[*];done)
  |(simp_all;done)
 );done):p:=h
theorem QA{p:Prop}{q1:Prop}(h1:q1)(f:q1→p:=by
 (intro z1;repeat' first
  |exact True.intro
  |exact fF
  |(apply z1 <;> first|assumption|omega|(simp only[jY];omega)|skip)
  |refine J ?_ ?_
  |with_reducible rfl
  |exact w8 _
  |exact xA
  |exact ixb AS
  |exact nO
  |exact tO
  |exact dO
  |exact dP OM
  |assumption
  |exact wO
  |exact nbF AS
  |exact nbT AS
  |omega
  |rfl
  |exact mA
  |exact w8u _
  |exact LN
  |exact w64 LN LN
  |exact wu8 OM OM
  |exact jH LN
  |exact uo
  |exact uk
  |exact nU AS
  |(simp[*];done)
  |(simp_all;done)
 );done):p:=f h1
theorem QB{p:Prop}{q1:Prop}(h1:q1){q2:Prop}(h2:q2)(f:q1→q2→p:=by
 (intro z1 z2;repeat' first
  |exact True.intro
  |exact fF
  |(apply z1 <;> first|assumption|omega|(simp only[jY];omega)|skip)
  |(apply z2 <;> first|assumption|omega|(simp only[jY];omega)|skip)
  |refine J ?_ ?_
  |with_reducible rfl
  |exact w8 _
  |exact xA
  |exact ixb AS
  |exact nO
  |exact tO
  |exact dO
  |exact dP OM
  |assumption
  |exact wO
  |exact nbF AS
  |exact nbT AS
  |omega
  |rfl
  |exact mA
  |exact w8u _
  |exact LN
  |exact w64 LN LN
  |exact wu8 OM OM
  |exact jH LN
  |exact uo
  |exact uk
  |exact nU AS
  |(simp[*];done)
  |(simp_all;done)
 );done):p:=f h1 h2
theorem QC{p:Prop}{q1:Prop}(h1:q1){q2:Prop}(h2:q2){q3:Prop}(h3:q3)(f:q1→q2→q3→p:=by
 (intro z1 z2 z3;repeat' first
  |exact True.intro
  |exact fF
  |(apply z1 <;> first|assumption|omega|(simp only[jY];omega)|skip)
  |(apply z2 <;> first|assumption|omega|(simp only[jY];omega)|skip)
  |(apply z3 <;> first|assumption|omega|(simp only[jY];omega)|skip)
  |refine J ?_ ?_
  |with_reducible rfl
  |exact w8 _
  |exact xA
  |exact ixb AS
  |exact nO
  |exact tO
  |exact dO
  |exact dP OM
  |assumption
  |exact wO
  |exact nbF AS
  |exact nbT AS
  |omega
  |rfl
  |exact mA
  |exact w8u _
  |exact LN
  |exact w64 LN LN
  |exact wu8 OM OM
  |exact jH LN
  |exact uo
  |exact uk
  |exact nU AS
  |(simp[*];done)
  |(simp_all;done)
 );done):p:=f h1 h2 h3
end Go.K
end
section
open Go Go.Tm Go.Proofs
namespace Go.K
structure Entry where
 kind:Int
 epoch:Int
 task:Int
 text:ByteArray
 deriving DecidableEq
abbrev iQ(k ep ta:Int)(tx:ByteArray):V:=.agg [.t (.i k),.t (.i ep),.t (.i ta),.t (.s tx)]
abbrev Entry.v(e:Entry):V:=iQ e.kind e.epoch e.task e.text
theorem ah(x lo hi:Int):F DA [.val (.i x),.val (.i lo),.val (.i hi)] (.b (decide (lo≤x∧x≤hi))) [[],[],[]]:=by
 refine Ee ?_
 conv=>whnf
 refine g 0 0 []<|J UA ?_
 by_cases h1:lo≤x
 refine g 7 15 [BT,BT,BT,BT]<|J QZ<|RT ?_
 exact vbd OM
 refine g 7 15 [BF,BF,BF,BF]<|J QZ<|RT ?_
 exact vbf OM
theorem av(x lo hi:Int):F Jc [.val (.i x),.val (.i lo),.val (.i hi)] (.b (decide (lo≤x∧x≤hi))) [[],[],[]]:=by
 refine Jt ?_
 conv=>whnf
 refine g 0 0 []<|J UA ?_
 by_cases h1:lo≤x
 refine g 7 15 [BT,BT,BT,BT]<|J QZ<|RT ?_
 exact vbd OM
 refine g 7 15 [BF,BF,BF,BF]<|J QZ<|RT ?_
 exact vbf OM
end Go.K
end
section
open Go Go.Tm Go.Proofs
namespace Go.K
def Entry.ok(e:Entry):Prop:=(1≤e.epoch∧e.epoch≤300)∧(0≤e.task∧e.task≤39)∧((e.kind = 1∧e.task = 0∧e.text = ⟨#[]⟩)∨(e.kind = 2∧(e.text.size:Int) = 8))
instance (e:Entry):Decidable e.ok:=by unfold Entry.ok;infer_instance
theorem j6(k ep ta:Int)(tx:ByteArray):F rl [.val (iQ k ep ta tx)] (.b (decide (Entry.ok ⟨k,ep,ta,tx⟩))) [[]]:=by
 refine rz ?_
 conv=>whnf
 refine g 0 1 []<|J QZ<|Ws ?_
 by_cases h1:(1:Int)≤ep∧ep≤(300:Int)
 refine g 5 12 [.call (V.b (decide (1≤ep∧ep≤300))) [[],[],[]],BF,BF,BF,.call (V.b (decide (0≤ta∧ta≤39))) [[],[],[]],BF,BF]<|J (QA @ah)<|Wc<|JN (fun h2=>?_) fun h2=>?_
 refine g 12 13 []<|J UA<|RT ?_
 rotate_left
 refine Wk<|Ws<|g 12 14 []<|J UB<|Wb<|g 16 17 []<|J UB<|Wc<|JD (fun h3=>?_) fun h3=>?_
 by_cases h4:ta = (0:Int)
 refine g 14 25 [BT,BT,BT,BT]<|J QZ<|RT ?_
 rotate_left
 refine g 14 25 [BF,BF,BF,BF]<|J QZ<|RT ?_
 rotate_left
 refine g 14 16 []<|J UB<|Wc<|JD (fun h4=>?_) fun h4=>?_
 refine g 25 31 []<|J UE<|RT ?_
 rotate_left
 refine Wk<|g 25 27 []<|J UA<|RT ?_
 rotate_left
 refine g 5 12 [.call (V.b (decide (1≤ep∧ep≤300))) [[],[],[]],BT,BT,BT,BT,BT]<|J (QA @ah)<|Wc<|J (fun _=>(g 12 13 []<|J UA (RT ?_))) (noF rfl)
 rotate_left
 all_goals (first|exact vbt (by unfold Entry.ok;simp_all;done)|exact vbf (by unfold Entry.ok;simp_all;omega)|exact vbf (by unfold Entry.ok;simp_all)|exact vbd (by unfold Entry.ok;simp_all;done)|exact vbd (by unfold Entry.ok;simp_all;omega))
theorem JJ(k ep ta:Int)(tx:ByteArray):F Ja [.val (iQ k ep ta tx)] (.b (decide (Entry.ok ⟨k,ep,ta,tx⟩))) [[]]:=by
 refine Jr ?_
 conv=>whnf
 refine g 0 1 []<|J QZ<|Ws ?_
 by_cases h1:(1:Int)≤ep∧ep≤(300:Int)
 refine g 5 12 [.call (V.b (decide (1≤ep∧ep≤300))) [[],[],[]],BF,BF,BF,.call (V.b (decide (0≤ta∧ta≤39))) [[],[],[]],BF,BF]<|J (QA @av)<|Wc<|JN (fun h2=>?_) fun h2=>?_
 refine g 12 13 []<|J UA<|RT ?_
 rotate_left
 refine Wk<|Ws<|g 12 15 []<|J UC<|Wc<|JD (fun h3=>?_) fun h3=>?_
 by_cases h4:ta = (0:Int)
 refine g 15 24 [BT,BT,BT,BT]<|J QZ<|RT ?_
 rotate_left
 refine g 15 24 [BF,BF,BF,BF]<|J QZ<|RT ?_
 rotate_left
 refine Wk ?_
 by_cases h4:k = (2:Int)
 refine g 15 33 [BT,BT,BT,BT,BT]<|J QZ<|RT ?_
 rotate_left
 refine g 15 33 [BF,BF,BF,BF,BF]<|J QZ<|RT ?_
 rotate_left
 refine g 5 12 [.call (V.b (decide (1≤ep∧ep≤300))) [[],[],[]],BT,BT,BT,BT,BT]<|J (QA @av)<|Wc<|J (fun _=>(g 12 13 []<|J UA (RT ?_))) (noF rfl)
 rotate_left
 all_goals (first|exact vbt (by unfold Entry.ok;simp_all;done)|exact vbf (by unfold Entry.ok;simp_all;omega)|exact vbf (by unfold Entry.ok;simp_all)|exact vbd (by unfold Entry.ok;simp_all;done)|exact vbd (by unfold Entry.ok;simp_all;omega))
abbrev emp:ByteArray:=⟨#[]⟩
def bl(l:List Int):ByteArray:=⟨(l.map fun n=>UInt8.ofNat n.toNat).toArray⟩
def MD(e:Entry):ByteArray:=if e.ok then bl [IntKind.u8.wrap e.kind,IntKind.u8.wrap (e.epoch.fdiv 256),IntKind.u8.wrap e.epoch,IntKind.u8.wrap e.task] ++e.text else emp
theorem my(k ep ta:Int)(tx:ByteArray)(ht:tx.size≤281474976710656):F vj [.val (iQ k ep ta tx)] (.s (MD ⟨k,ep,ta,tx⟩)) [[]]:=by
 refine vW ?_
 conv=>whnf
 refine g 0 0 []<|J QZ<|Ws<|g 4 5 [.call (V.b (decide (Entry.ok {kind:=k,epoch:=ep,task:=ta,text:=tx:Entry}))) [[]]]<|J (QA @j6)<|Wc<|JN (fun h1=>?_) fun h1=>?_
 refine g 5 6 []<|J UA<|RT ?_
 rotate_left
 refine Wk<|g 10 24 [.i (IntKind.wrap IntKind.u8 k),.i (Int.fdiv ep (2 ^ min (Int.toNat 8) (IntKind.bits IntKind.i64))),.i (IntKind.wrap IntKind.u8 (Int.fdiv ep (2 ^ min (Int.toNat 8) (IntKind.bits IntKind.i64)))),.i (IntKind.wrap IntKind.u8 ep),.i (IntKind.wrap IntKind.u8 ta),.s ({data:=List.toArray (bV [[T.v (Value.int IntKind.u8 (IntKind.wrap IntKind.u8 k))],[T.v (Value.int IntKind.u8 (IntKind.wrap IntKind.u8 (Int.fdiv ep (2 ^ min (Int.toNat 8) (IntKind.bits IntKind.i64)))))],[T.v (Value.int IntKind.u8 (IntKind.wrap IntKind.u8 ep))],[T.v (Value.int IntKind.u8 (IntKind.wrap IntKind.u8 ta))]]):ByteArray}),.s ({data:=List.toArray (bV [[T.v (Value.int IntKind.u8 (IntKind.wrap IntKind.u8 k))],[T.v (Value.int IntKind.u8 (IntKind.wrap IntKind.u8 (Int.fdiv ep (2 ^ min (Int.toNat 8) (IntKind.bits IntKind.i64)))))],[T.v (Value.int IntKind.u8 (IntKind.wrap IntKind.u8 ep))],[T.v (Value.int IntKind.u8 (IntKind.wrap IntKind.u8 ta))]]):ByteArray} ++tx)]<|J ⟨I,I,rfl,I,I,⟨OM,rfl⟩,rfl,I,I,rfl,I,I,rfl,⟨UA,UA,UA,UA,I⟩,⟨I,(by repeat (first|exact kA|refine iX ?_)),rfl⟩,I,I,⟨rfl,(by simp only[bsz,ByteArray.size_append,jY];omega)⟩,I,I⟩ ?_
 refine RT ?_
 rotate_left
 ·refine vs ?_
  simp only[MD,h1,if_false]
 ·refine vs ?_
  simp only[MD,h1,if_true];rfl
def bT(e:Entry):ByteArray:=if e.ok then bl [IntKind.u8.wrap e.kind,IntKind.u8.wrap (IntKind.i64.wrap (e.epoch.tdiv 256)),IntKind.u8.wrap (e.epoch.tmod 256),IntKind.u8.wrap e.task] ++e.text else emp
theorem dk(k ep ta:Int)(tx:ByteArray)(ht:tx.size≤281474976710656):F uM [.val (iQ k ep ta tx)] (.s (bT ⟨k,ep,ta,tx⟩)) [[]]:=by
 refine vA ?_
 conv=>whnf
 refine g 0 0 []<|J QZ<|Ws<|g 4 5 [.call (V.b (decide (Entry.ok {kind:=k,epoch:=ep,task:=ta,text:=tx:Entry}))) [[]]]<|J (QA @JJ)<|Wc<|JN (fun h1=>?_) fun h1=>?_
 refine g 5 6 []<|J UA<|RT ?_
 rotate_left
 refine Wk<|g 10 25 [.i (IntKind.wrap IntKind.u8 k),.i (IntKind.wrap IntKind.i64 (Int.tdiv ep 256)),.i (IntKind.wrap IntKind.u8 (IntKind.wrap IntKind.i64 (Int.tdiv ep 256))),.i (Int.tmod ep 256),.i (IntKind.wrap IntKind.u8 (Int.tmod ep 256)),.i (IntKind.wrap IntKind.u8 ta),.s ({data:=List.toArray (bV [[T.v (Value.int IntKind.u8 (IntKind.wrap IntKind.u8 k))],[T.v (Value.int IntKind.u8 (IntKind.wrap IntKind.u8 (IntKind.wrap IntKind.i64 (Int.tdiv ep 256))))],[T.v (Value.int IntKind.u8 (IntKind.wrap IntKind.u8 (Int.tmod ep 256)))],[T.v (Value.int IntKind.u8 (IntKind.wrap IntKind.u8 ta))]]):ByteArray}),.s ({data:=List.toArray (bV [[T.v (Value.int IntKind.u8 (IntKind.wrap IntKind.u8 k))],[T.v (Value.int IntKind.u8 (IntKind.wrap IntKind.u8 (IntKind.wrap IntKind.i64 (Int.tdiv ep 256))))],[T.v (Value.int IntKind.u8 (IntKind.wrap IntKind.u8 (Int.tmod ep 256)))],[T.v (Value.int IntKind.u8 (IntKind.wrap IntKind.u8 ta))]]):ByteArray} ++tx)]<|J ⟨I,I,rfl,I,I,⟨OM,rfl⟩,rfl,I,I,⟨OM,rfl⟩,rfl,I,I,rfl,⟨UA,UA,UA,UA,I⟩,⟨I,(by repeat (first|exact kA|refine iX ?_)),rfl⟩,I,I,⟨rfl,(by simp only[bsz,ByteArray.size_append,jY];omega)⟩,I,I⟩ ?_
 refine RT ?_
 rotate_left
 ·refine vs ?_
  simp only[bT,h1,if_false]
 ·refine vs ?_
  simp only[bT,h1,if_true];rfl
def byt(s:ByteArray)(i:Nat):Int:=((s[i]?).map (fun b=>(b.toNat:Int))).getD 0
def HO(x y:Int):Int:=IntKind.i64.wrap ↑(BitVec.ofInt IntKind.i64.bits x|||BitVec.ofInt IntKind.i64.bits y).toNat
def rdI(s:ByteArray):Entry:=⟨byt s 0,HO (IntKind.i64.wrap (byt s 1 * 256)) (byt s 2),byt s 3,s.extract 4 s.size⟩
def rdS(s:ByteArray):Entry:=⟨byt s 0,byt s 1 * 256+byt s 2,byt s 3,s.extract 4 s.size⟩
abbrev noE:Entry:=⟨0,0,0,emp⟩
abbrev mE(o:Option Entry):V:=match o with|some e=>.tup [e.v,.b true]|none=>.tup [noE.v,.b false]
def rV(s:ByteArray):Option Entry:=if(s.size:Int) < 4∨12 < (s.size:Int)then none else if(rdI s).ok then some (rdI s)else none
def eR(s:ByteArray):Option Entry:=if(s.size:Int) < 4 then none else if bT (rdS s) = s then some (rdS s)else none
theorem bI{s:ByteArray}{i:Nat}{c:UInt8}(h:s[i]? = some c):byt s i = (c.toNat:Int):=by simp[byt,h]
theorem mw(s:ByteArray)(ht:s.size≤281474976710656):F lZ [.val (.s s)] (mE (rV s)) [[]]:=by
 refine vU ?_
 conv=>whnf
 refine g 0 0 []<|J UB<|Ws ?_
 by_cases h1:(↑(ByteArray.size s):Int) < (4:Int)
 refine g 5 12 [BT,BT,BT,BT]<|J QZ<|Wc<|J (fun _=>(g 12 14 []<|J QZ (RT ?_))) (noF rfl)
 rotate_left
 refine g 5 12 [BF,BF,BF,BF]<|J QZ<|Wc<|JD (fun h2=>?_) fun h2=>?_
 refine g 12 14 []<|J QZ<|RT ?_
 rotate_left
 refine Wk ?_
 obtain⟨y1,hy1,hb1⟩:=bB (s:=s) (n:=(0:Nat)) OM
 obtain⟨y2,hy2,hb2⟩:=bB (s:=s) (n:=(1:Nat)) OM
 obtain⟨y3,hy3,hb3⟩:=bB (s:=s) (n:=(2:Nat)) OM
 obtain⟨y4,hy4,hb4⟩:=bB (s:=s) (n:=(3:Nat)) OM
 refine gd 12 27 [[],[.i ((↑(UInt8.toNat y1):Int))],[.i ((↑(UInt8.toNat y1):Int))],[],[.i ((↑(UInt8.toNat y2):Int))],[.i ((↑(UInt8.toNat y2):Int))],[.i (IntKind.wrap IntKind.i64 ((↑(UInt8.toNat y2):Int) * 2 ^ min (Int.toNat 8) (IntKind.bits IntKind.i64)))],[],[.i ((↑(UInt8.toNat y3):Int))],[.i ((↑(UInt8.toNat y3):Int))],[.i (IntKind.wrap IntKind.i64 (↑(BitVec.toNat (BitVec.ofInt (IntKind.bits IntKind.i64) (IntKind.wrap IntKind.i64 ((↑(UInt8.toNat y2):Int) * 2 ^ min (Int.toNat 8) (IntKind.bits IntKind.i64)))|||BitVec.ofInt (IntKind.bits IntKind.i64) (↑(UInt8.toNat y3):Int))):Int))],[],[.i ((↑(UInt8.toNat y4):Int))],[.i ((↑(UInt8.toNat y4):Int))],[],[.n (4),.s (ByteArray.extract s 4 (ByteArray.size s))],[],[],[]] ?_
 conv=>whnf
 refine J QZ<|J KR<|Ws<|g 28 33 [.call (V.b (decide (Entry.ok {kind:=(↑(UInt8.toNat y1):Int),epoch:=IntKind.wrap IntKind.i64 (↑(BitVec.toNat (BitVec.ofInt (IntKind.bits IntKind.i64) (IntKind.wrap IntKind.i64 ((↑(UInt8.toNat y2):Int) * 2 ^ min (Int.toNat 8) (IntKind.bits IntKind.i64)))|||BitVec.ofInt (IntKind.bits IntKind.i64) (↑(UInt8.toNat y3):Int))):Int),task:=(↑(UInt8.toNat y4):Int),text:=ByteArray.extract s 4 (ByteArray.size s):Entry}))) [[]]]<|J (QA @j6)<|Wc<|JN (fun h3=>?_) fun h3=>?_
 refine g 33 35 []<|J QZ<|RT ?_
 rotate_left
 refine Wk<|g 33 36 []<|J QZ<|RT ?_
 rotate_left
 ·exact congrArg mE (show none = rV s by unfold rV;rw[if_pos OM])
 ·exact congrArg mE (show none = rV s by unfold rV;rw[if_pos OM])
 ·have e:rdI s = ⟨y1.toNat,HO (IntKind.i64.wrap ((y2.toNat:Int) * 256)) y3.toNat,y4.toNat,s.extract 4 s.size⟩:=by simp only[rdI,bI hy1,bI hy2,bI hy3,bI hy4]
  exact congrArg mE (show none = rV s by unfold rV;rw[if_neg OM,e];exact(if_neg h3).symm)
 ·have e:rdI s = ⟨y1.toNat,HO (IntKind.i64.wrap ((y2.toNat:Int) * 256)) y3.toNat,y4.toNat,s.extract 4 s.size⟩:=by simp only[rdI,bI hy1,bI hy2,bI hy3,bI hy4]
  exact congrArg mE (show some _ = rV s by unfold rV;rw[if_neg OM,e];exact(if_pos h3).symm)
theorem v5(s:ByteArray)(ht:s.size≤281474976710656):F uL [.val (.s s)] (mE (eR s)) [[]]:=by
 refine vz ?_
 conv=>whnf
 refine g 0 0 []<|J UB<|Ws<|g 5 7 []<|J UC<|Wc<|JD (fun h1=>?_) fun h1=>?_
 refine g 7 9 []<|J QZ<|RT ?_
 rotate_left
 refine Wk ?_
 obtain⟨y1,hy1,hb1⟩:=bB (s:=s) (n:=(0:Nat)) OM
 obtain⟨y2,hy2,hb2⟩:=bB (s:=s) (n:=(1:Nat)) OM
 obtain⟨y3,hy3,hb3⟩:=bB (s:=s) (n:=(2:Nat)) OM
 obtain⟨y4,hy4,hb4⟩:=bB (s:=s) (n:=(3:Nat)) OM
 refine gd 7 26 [[],[.i ((↑(UInt8.toNat y1):Int))],[.i ((↑(UInt8.toNat y1):Int))],[],[.i ((↑(UInt8.toNat y2):Int))],[.i ((↑(UInt8.toNat y2):Int))],[.i ((↑(UInt8.toNat y2):Int) * 256)],[],[.i ((↑(UInt8.toNat y3):Int))],[.i ((↑(UInt8.toNat y3):Int))],[.i ((↑(UInt8.toNat y2):Int) * 256+ (↑(UInt8.toNat y3):Int))],[],[.i ((↑(UInt8.toNat y4):Int))],[.i ((↑(UInt8.toNat y4):Int))],[],[.n (4),.s (ByteArray.extract s 4 (ByteArray.size s))],[],[],[]] ?_
 conv=>whnf
 refine J QZ<|J KR<|Ws<|g 0 1 [.call (V.s (bT {kind:=(↑(UInt8.toNat y1):Int),epoch:=(↑(UInt8.toNat y2):Int) * 256+ (↑(UInt8.toNat y3):Int),task:=(↑(UInt8.toNat y4):Int),text:=ByteArray.extract s 4 (ByteArray.size s):Entry})) [[]]]<|J ⟨I,⟨UA,I,⟨UD,I⟩,UA,dk _ _ _ _ (by simp only[ByteArray.size_extract];omega)⟩,I,I,I⟩<|Wc<|JN (fun h2=>?_) fun h2=>?_
 refine g 28 31 []<|J QZ<|RT ?_
 rotate_left
 refine Wk<|g 28 32 []<|J QZ<|RT ?_
 rotate_left
 ·exact congrArg mE (show none = eR s by unfold eR;rw[if_pos OM])
 ·have e:rdS s = ⟨y1.toNat,(y2.toNat:Int) * 256+y3.toNat,y4.toNat,s.extract 4 s.size⟩:=by simp only[rdS,bI hy1,bI hy2,bI hy3,bI hy4]
  exact congrArg mE (show none = eR s by unfold eR;rw[if_neg OM,e];exact(if_neg h2).symm)
 ·have e:rdS s = ⟨y1.toNat,(y2.toNat:Int) * 256+y3.toNat,y4.toNat,s.extract 4 s.size⟩:=by simp only[rdS,bI hy1,bI hy2,bI hy3,bI hy4]
  exact congrArg mE (show some _ = eR s by unfold eR;rw[if_neg OM,e];exact(if_pos h2).symm)
end Go.K
end
section
open Go Go.Tm Go.Proofs
namespace Go.K
theorem Oi(e:Entry):MD e = bT e:=by
 unfold MD bT
 by_cases h:e.ok
 ·simp only[h,if_true]
  obtain⟨⟨h1,h2⟩,_⟩:=h
  have e1:e.epoch.fdiv 256 = e.epoch / 256:=Int.fdiv_eq_ediv_of_nonneg _ OM
  have e2:e.epoch.tdiv 256 = e.epoch / 256:=Int.tdiv_eq_ediv_of_nonneg OM
  have e3:e.epoch.tmod 256 = e.epoch % 256:=Int.tmod_eq_emod_of_nonneg OM
  have e4:IntKind.u8.wrap e.epoch = e.epoch % 256:=by simp[IntKind.wrap,IntKind.bits,IntKind.signed]
  rw[e1,e2,e3,wO,e4,wu8 (z:=e.epoch % 256) OM OM]
 ·simp only[h,if_false]
end Go.K
namespace Go.K
end Go.K
end
section
open Go Go.Tm Go.Proofs
namespace Go.K
theorem wv{l:List UInt8}{i:Nat}{c:UInt8}(h:l[i]? = some c):byt ⟨⟨l⟩⟩ i = (c.toNat:Int):=by
 have:(ByteArray.mk ⟨l⟩)[i]? = l[i]?:=by
  show(if h:i < (ByteArray.mk ⟨l⟩).size then some ((ByteArray.mk ⟨l⟩)[i])else none) = _
  have hsz:(ByteArray.mk ⟨l⟩).size = l.length:=rfl
  by_cases hi:i < l.length
  ·rw[dif_pos (by rw[hsz];exact hi),List.getElem?_eq_getElem hi];rfl
  ·rw[dif_neg (by rw[hsz];exact hi),List.getElem?_eq_none OM]
 exact bI (by rw[this];exact h)
theorem Zf(s:ByteArray)(h:4≤s.size):bl [byt s 0,byt s 1,byt s 2,byt s 3] ++s.extract 4 s.size = s:=by
 obtain⟨⟨l⟩⟩:=s
 match l,h with
 |a :: b :: c :: d :: r,_ =>
  rw[wv (c:=a) rfl,wv (c:=b) rfl,wv (c:=c) rfl,wv (c:=d) rfl]
  apply ByteArray.ext
  rw[ByteArray.data_append,ByteArray.data_extract]
  apply Array.ext'
  simp[bl,ByteArray.size]
theorem Kz(a b:Nat)(ha:a < 256)(hb:b < 256):HO (IntKind.i64.wrap ((a:Int) * 256)) b = (a:Int) * 256+b:=by
 rw[wO]
 unfold HO
 have e:((BitVec.ofInt IntKind.i64.bits ((a:Int) * 256))|||BitVec.ofInt IntKind.i64.bits (b:Int)).toNat = a * 256+b:=by
  have h1:BitVec.ofInt IntKind.i64.bits ((a:Int) * 256) = BitVec.ofNat IntKind.i64.bits (a * 256):=by
   rw[show((a:Int) * 256) = ((a * 256:Nat):Int) by simp];exact BitVec.ofInt_natCast ..
  have h2:BitVec.ofInt IntKind.i64.bits (b:Int) = BitVec.ofNat IntKind.i64.bits b:=BitVec.ofInt_natCast ..
  have hb64:IntKind.i64.bits = 64:=rfl
  rw[h1,h2,BitVec.toNat_or,BitVec.toNat_ofNat,BitVec.toNat_ofNat,hb64,Nat.mod_eq_of_lt OM,Nat.mod_eq_of_lt OM]
  have:=Nat.two_pow_add_eq_or_of_lt (i:=8) (b:=b) OM a
  rw[Nat.mul_comm]at this
  simpa using this.symm
 rw[e]
 rw[wO];simp
theorem eI(s:ByteArray)(i:Nat):∃ n:Nat,byt s i = n∧n < 256:=by
 unfold byt
 cases h:s[i]? with
 |none=>exact⟨0,rfl,by omega⟩
 |some c=>exact⟨c.toNat,rfl,UInt8.toNat_lt _⟩
theorem aai(s:ByteArray):rdI s = rdS s:=by
 unfold rdI rdS
 obtain⟨a,ha,ha'⟩:=eI s 1
 obtain⟨b,hb,hb'⟩:=eI s 2
 rw[ha,hb,Kz a b ha' hb']
theorem NO(s:ByteArray):rV s = eR s:=by
 unfold rV eR
 rw[aai]
 by_cases h4:(s.size:Int) < 4
 ·rw[if_pos OM,if_pos h4]
 ·rw[if_neg h4]
  have hx:(s.extract 4 s.size).size = s.size - 4:=by rw[ByteArray.size_extract];omega
  by_cases hok:(rdS s).ok
  ·have hform:bT (rdS s) = s:=by
    unfold bT
    rw[if_pos hok]
    obtain⟨⟨h1,h2⟩,⟨h3,h4'⟩,h5⟩:=hok
    obtain⟨a,ha,ha'⟩:=eI s 1
    obtain⟨b,hb,hb'⟩:=eI s 2
    have hk:IntKind.u8.wrap (rdS s).kind = byt s 0:=by
     obtain⟨c,hc,hc'⟩:=eI s 0
     show IntKind.u8.wrap (byt s 0) = _
     rw[wu8 OM OM]
    have ht:IntKind.u8.wrap (rdS s).task = byt s 3:=by
     obtain⟨c,hc,hc'⟩:=eI s 3
     show IntKind.u8.wrap (byt s 3) = _
     rw[wu8 OM OM]
    have he:(rdS s).epoch = (a:Int) * 256+b:=by show byt s 1 * 256+byt s 2 = _;rw[ha,hb]
    have e1:IntKind.u8.wrap (IntKind.i64.wrap ((rdS s).epoch.tdiv 256)) = byt s 1:=by
     rw[he,Int.tdiv_eq_ediv_of_nonneg OM,wO,wu8 OM OM,ha];omega
    have e2:IntKind.u8.wrap ((rdS s).epoch.tmod 256) = byt s 2:=by
     rw[he,Int.tmod_eq_emod_of_nonneg OM,wu8 OM OM,hb];omega
    rw[hk,ht,e1,e2]
    exact Zf s OM
   have hsz:¬((s.size:Int) < 4∨12 < (s.size:Int)):=by
    obtain⟨_,_,h5⟩:=hok
    have hr:(rdS s).text = s.extract 4 s.size:=rfl
    rcases h5 with⟨_,_,h6⟩|⟨_,h6⟩
    ·rw[hr]at h6
     have:=congrArg ByteArray.size h6
     rw[hx]at this
     have h0:(ByteArray.mk #[]).size = 0:=rfl
     omega
    ·rw[hr,hx]at h6;omega
   rw[if_neg hsz,if_pos hok,if_pos hform]
  ·have hform:bT (rdS s)≠s:=by
    unfold bT
    rw[if_neg hok]
    intro e
    have:=congrArg ByteArray.size e
    have h0:emp.size = 0:=rfl
    omega
   rw[if_neg hform,if_neg hok]
   simp
end Go.K
end
section
open Go Go.Tm Go.Proofs
namespace Go.K
abbrev ai(s:ByteArray):List T:=[.s s]
abbrev o9(xs:List ByteArray):T:=.slc [false] (xs.map ai)
end Go.K
end
section
open Go Go.Tm Go.Proofs
namespace Go.K
abbrev u8v(n:Int):V:=.t (.v (.int .u64 n))
def fnv(v:Int)(c:UInt8):Int:=IntKind.u64.wrap (IntKind.u64.wrap (BitVec.ofInt IntKind.u64.bits v ^^^ BitVec.ofInt IntKind.u64.bits (c.toNat:Int)).toNat * 1099511628211)
def nP(v:Int)(s:ByteArray)(n:Nat):Int:=(s.data.toList.take n).foldl fnv v
theorem Zy{s:ByteArray}{n:Nat}{c:UInt8}(h:s[n]? = some c):s.data.toList[n]? = some c:=by
 by_cases hn:n < s.size
 ·rw[getElem?_pos s n hn]at h
  have hd:n < s.data.toList.length:=by simpa using hn
  rw[List.getElem?_eq_getElem hd]
  rw[←h];simp;rfl
 ·rw[getElem?_neg s n hn]at h;cases h
theorem FW{v:Int}{s:ByteArray}{n:Nat}{c:UInt8}(h:s[n]? = some c):nP v s (n+1) = fnv (nP v s n) c:=by
 unfold nP
 rw[List.take_add_one,Zy h,List.foldl_append];rfl
theorem Zp(v:Int)(c:UInt8):0≤fnv v c∧fnv v c≤18446744073709551615:=Zd _
theorem BO:∀ (l:List UInt8) (v:Int),0≤v∧v≤18446744073709551615→0≤l.foldl fnv v∧l.foldl fnv v≤18446744073709551615
 |[],_,h=>h
 |c :: l,v,_=>BO l (fnv v c) (Zp v c)
theorem dz(v:Int)(tx:ByteArray)(hs:tx.size≤9223372036854775807):F sP [.ptr [u8v v],.val (.s tx)] (.tup []) [[u8v (nP v tx tx.size)],[]]:=by
 refine sZ ?_
 conv=>whnf
 refine g 0 0 []<|J UA<|Wb<|Wl (fun s (n:Nat)=>⟨[(0,s.s 0),(1,s.s 1),(4,.i n)],[(22,[u8v (nP v tx n)])],[]⟩) (fun(n:Nat)=>n≤tx.size) (fun(n:Nat)=>tx.size - n) (0) [some 22] [] FZ OM ?_
 intro n hn
 conv=>whnf
 refine Ws<|g 5 8 []<|J UD<|Wc<|JD (fun h1=>?_) fun h1=>?_
 refine Wk<|Ws<|Wb ?_
 obtain⟨y1,hy1,hb1⟩:=bB (s:=tx) (n:=n) OM
 refine rgd [[],[],[],[],[],[],[.i ((↑(UInt8.toNat y1):Int))],[.i ((↑(UInt8.toNat y1):Int))],[.i (IntKind.wrap IntKind.u64 (↑(BitVec.toNat (BitVec.ofInt (IntKind.bits IntKind.u64) (nP v tx n) ^^^ BitVec.ofInt (IntKind.bits IntKind.u64) (↑(UInt8.toNat y1):Int))):Int))],[.i (IntKind.wrap IntKind.u64 (IntKind.wrap IntKind.u64 (↑(BitVec.toNat (BitVec.ofInt (IntKind.bits IntKind.u64) (nP v tx n) ^^^ BitVec.ofInt (IntKind.bits IntKind.u64) (↑(UInt8.toNat y1):Int))):Int) * 1099511628211))],[],[]] ?_
 conv=>whnf
 refine J QZ<|J KR<|rg [.i ((n:Int) +1)]<|J QZ ?_
 rotate_left
 refine We<|EndsW.nm<|J I<|J ?_ ?_
 rfl
 rotate_left
 ·refine⟨n+1,[some 22],[],⟨rfl,FZ,⟨⟨rfl,⟨(congrArg (fun z=>V.t (T.v (Value.int _ z))) (FW AS).symm),I⟩⟩,I⟩,I⟩,?_,?_⟩
  rotate_left
  (dsimp only;omega)
  dsimp only
  omega
 ·rw[show n = tx.size from by omega]
def beL(v:Int):Nat→List Int
 |0=>[]
 |n+1=>(v / 256 ^ n % 256) :: beL v n
abbrev b1T(n:Int):List T:=[.v (.int .u8 n)]
theorem qR(v:Int):∀ n,(beL v n).length = n
 |0=>rfl
 |n+1=>by simp[beL,qR v n]
theorem Pr(v:Int):∀ n i,i < n→(beL v n)[i]? = some (v / 256 ^ (n - 1 - i) % 256)
 |0,_,h=>by omega
 |n+1,0,_=>by simp[beL]
 |n+1,i+1,h=>by
  simp only[beL,List.getElem?_cons_succ]
  rw[Pr v n i OM]
  congr 3
  congr 1
  omega
theorem Sq{v:Int}{n:Nat}(h0:0≤v)(hn:n < 8):(fill b1T (b1T 0) (beL v 8) n).set n (b1T (IntKind.u8.wrap (v.fdiv (2 ^ min (56 - 8 * (n:Int)).toNat IntKind.u64.bits)))) = fill b1T (b1T 0) (beL v 8) (n+1):=by
 have e:IntKind.u8.wrap (v.fdiv (2 ^ min (56 - 8 * (n:Int)).toNat IntKind.u64.bits)) = v / 256 ^ (8 - 1 - n) % 256:=by
  rw[Int.fdiv_eq_ediv_of_nonneg _ (by exact Int.le_of_lt (Int.pow_pos (by decide)))]
  have:n = 0∨n = 1∨n = 2∨n = 3∨n = 4∨n = 5∨n = 6∨n = 7:=by omega
  rcases this with rfl|rfl|rfl|rfl|rfl|rfl|rfl|rfl <;> simp[IntKind.wrap,IntKind.bits,IntKind.signed]
 rw[e]
 exact hJ (Pr v 8 n hn)
theorem uB(l:List Int):(⟨(bV (l.map b1T)).toArray⟩:ByteArray) = bl l:=by
 simp[bV,bl,b1T,Function.comp_def]
theorem mr(v:Int)(h0:0≤v)(h1:v≤18446744073709551615):F vg [.val (u8v v)] (.s (bl (beL v 8))) [[]]:=by
 have hx:=qR v 8
 refine vT ?_
 conv=>whnf
 refine g 0 0 []<|J UA<|g 5 6 [.n (8)]<|J QZ<|Ws<|g 6 7 []<|J UC<|Wb<|Wl (fun s (n:Nat)=>⟨(SK s [0,2,3,7] [(8,.i n)]),[(5,[.own [false] (fill b1T (b1T 0) (beL v 8) n)])],[]⟩) (fun(n:Nat)=>n≤8) (fun(n:Nat)=>8 - n) (0) [some 5] [] FZ OM ?_
 intro n hn
 conv=>whnf
 refine g 0 0 []<|J UA<|Ws<|Wc<|JD (fun h2=>?_) fun h2=>?_
 simp only[LM]at h2
 simp only[jY]at h2
 refine Wk<|Ws<|Wb<|g 10 11 []<|J UB<|rg [.i (8 * (n:Int)),.i ((56:Int) - 8 * (n:Int)),.i (Int.fdiv v (2 ^ min (Int.toNat ((56:Int) - 8 * (n:Int))) (IntKind.bits IntKind.u64))),.i (IntKind.wrap IntKind.u8 (Int.fdiv v (2 ^ min (Int.toNat ((56:Int) - 8 * (n:Int))) (IntKind.bits IntKind.u64)))),.n (n),.x (b1T 0)]<|J ⟨I,I,I,I,wO,wO,⟨OM,rfl⟩,rfl,Zan,⟨UA,hM OM⟩,I⟩<|rg [.i ((n:Int) +1)]<|J QZ ?_
 rotate_left
 simp only[LM]at h2
 simp only[jY]at h2
 refine We<|g 3 9 [.s ({data:=List.toArray (bV (fill b1T (b1T 0) (beL v 8) n)):ByteArray})]<|J ⟨I,⟨I,MS,rfl⟩,I,I⟩<|RT ?_
 rotate_left
 ·refine⟨n+1,[some 5],[],⟨rfl,FZ,⟨⟨rfl,⟨(congrArg (V.own _) (Sq h0 OM)),I⟩⟩,I⟩,I⟩,?_,?_⟩
  rotate_left
  (dsimp only;omega)
  dsimp only
  omega
 ·rw[hY _ _ _ OM]
  exact vs (uB _)
theorem Su{v:Int}{n:Nat}(h0:0≤v):[b1T (IntKind.u8.wrap ((v / 256 ^ n).tmod 256))] ++ (beL v n).map b1T = (beL v (n+1)).map b1T:=by
 have h1:0≤v / 256 ^ n:=Int.ediv_nonneg h0 (Int.le_of_lt (Int.pow_pos (by decide)))
 rw[Int.tmod_eq_emod_of_nonneg h1]
 have h2:IntKind.u8.wrap (v / 256 ^ n % 256) = v / 256 ^ n % 256:=wu8 OM OM
 rw[h2];rfl
theorem W3{v:Int}{n:Nat}(h0:0≤v)(h2:v≤18446744073709551615):IntKind.u64.wrap ((v / 256 ^ n).tdiv 256) = v / 256 ^ (n+1):=by
 have h1:0≤v / 256 ^ n:=Int.ediv_nonneg h0 (Int.le_of_lt (Int.pow_pos (by decide)))
 have h3:v / 256 ^ n≤v:=Int.ediv_le_self _ h0
 rw[Int.tdiv_eq_ediv_of_nonneg h1,wu64 OM OM,Int.ediv_ediv_of_nonneg (Int.le_of_lt (Int.pow_pos (by decide))),Int.pow_succ]
def h0v:Int:=14695981039346656037
theorem nr(tx:ByteArray)(ht:tx.size≤9223372036854775807):F GI [.val (.s tx)] (.s (bl (beL (nP h0v tx tx.size) 8))) [[]]:=by
 refine G5 ?_
 conv=>whnf
 refine g 0 0 []<|J UA<|g 0 0 []<|J UA<|Ws<|g 0 0 []<|J UA<|Wb<|Wl (fun s (n:Nat)=>⟨[(0,s.s 0),(2,s.s 2),(3,u8v (nP h0v tx n)),(4,.i n)],[],[]⟩) (fun(n:Nat)=>n≤tx.size) (fun(n:Nat)=>tx.size - n) (0) [] [] FZ OM ?_
 intro n hn
 conv=>whnf
 refine Ws<|g 7 9 []<|J UD<|Wc<|JD (fun h1=>?_) fun h1=>?_
 refine Wk<|Ws<|Wb ?_
 obtain⟨y1,hy1,hb1⟩:=bB (s:=tx) (n:=n) OM
 refine rg [.i ((↑(UInt8.toNat y1):Int)),.i ((↑(UInt8.toNat y1):Int)),.i (IntKind.wrap IntKind.u64 (↑(BitVec.toNat (BitVec.ofInt (IntKind.bits IntKind.u64) (nP h0v tx n) ^^^ BitVec.ofInt (IntKind.bits IntKind.u64) (↑(UInt8.toNat y1):Int))):Int)),.i (IntKind.wrap IntKind.u64 (IntKind.wrap IntKind.u64 (↑(BitVec.toNat (BitVec.ofInt (IntKind.bits IntKind.u64) (nP h0v tx n) ^^^ BitVec.ofInt (IntKind.bits IntKind.u64) (↑(UInt8.toNat y1):Int))):Int) * 1099511628211))]<|J QZ<|rg [.i ((n:Int) +1)]<|J QZ ?_
 rotate_left
 refine We<|g 10 21 []<|J UB<|Ws<|g 4 5 []<|J UA<|Wb ?_
 rotate_left
 ·refine⟨n+1,[],[],⟨rfl,⟨rfl,rfl,(congrArg (fun z=>V.t (T.v (Value.int _ z))) (FW AS).symm),rfl,I⟩,I,I⟩,?_,?_⟩
  rotate_left
  (dsimp only;omega)
  dsimp only
  omega
 have e:n = tx.size:=by omega
 subst e
 have hb:0≤nP h0v tx tx.size∧nP h0v tx tx.size≤18446744073709551615:=BO _ _ (by unfold h0v;omega)
 generalize nP h0v tx tx.size = v at hb ⊢
 obtain⟨hb0,hb1⟩:=hb
 refine Wl (fun s (n:Nat)=>⟨[(0,s.s 0),(2,s.s 2),(3,u8v (v / 256 ^ n)),(5,.ref ⟨5,none,0⟩),(6,.i n),(9,s.s 9)],[(5,[.own [false] ((beL v n).map b1T)])],[]⟩) (fun(n:Nat)=>n≤8) (fun(n:Nat)=>8 - n) (0) [some 20] [] ⟨rfl,⟨rfl,rfl,(congrArg (fun z=>V.t (T.v (Value.int _ z))) OM),rfl,rfl,rfl,I⟩,FZ,I⟩ OM ?_
 intro n hn2
 have hx:=qR v n
 conv=>whnf
 refine Ws<|g 21 22 []<|J UB<|Wc<|JD (fun h2=>?_) fun h2=>?_
 refine Wk<|Ws<|Wb<|g 22 31 [.i (Int.tmod (v / 256 ^ n) 256),.i (IntKind.wrap IntKind.u8 (Int.tmod (v / 256 ^ n) 256))]<|J QZ<|rg [.i (IntKind.wrap IntKind.u64 (Int.tdiv (v / 256 ^ n) 256))]<|J QZ<|rg [.i ((n:Int) +1)]<|J QZ ?_
 rotate_left
 refine We<|g 3 7 [.s ({data:=List.toArray (bV (List.map b1T (beL v n))):ByteArray})]<|J ⟨I,⟨I,Qt,rfl⟩,I,I⟩<|RT ?_
 rotate_left
 ·refine⟨n+1,[some 30],[],⟨rfl,⟨rfl,rfl,(congrArg (fun z=>V.t (T.v (Value.int _ z))) (W3 hb0 hb1)),rfl,rfl,rfl,I⟩,⟨⟨rfl,⟨(congrArg (V.own _) (Su hb0)),I⟩⟩,I⟩,I⟩,?_,?_⟩
  rotate_left
  (dsimp only;omega)
  dsimp only
  omega
 ·rw[show n = 8 from by omega]
  exact vs (uB _)
def qG(nm:ByteArray)(xs:List ByteArray)(n:Nat):ByteArray:=(xs.take n).foldl (fun a s=>a++ (⟨#[0]⟩ ++s)) nm
theorem Gf{nm:ByteArray}{xs:List ByteArray}{n:Nat}{x:ByteArray}(h:xs[n]? = some x):qG nm xs (n+1) = qG nm xs n++ (⟨#[0]⟩ ++x):=by
 unfold qG;rw[List.take_add_one,h,List.foldl_append];rfl
theorem FV:∀ (l:List ByteArray) (nm:ByteArray),((l.foldl (fun a s=>a++ (⟨#[0]⟩ ++s)) nm).size:Int) = nm.size+bS l+l.length
 |[],nm=>by simp[bS]
 |s :: l,nm=>by
  rw[List.foldl_cons,FV l]
  have:(⟨#[0]⟩:ByteArray).size = 1:=rfl
  simp only[ByteArray.size_append,bS,List.length_cons,this];omega
theorem Qm(nm:ByteArray)(xs:List ByteArray)(n:Nat)(h:n≤xs.length):((qG nm xs n).size:Int) = nm.size+bS (xs.take n) +n:=by
 unfold qG;rw[FV,List.length_take,Nat.min_eq_left h]
theorem Tl{nm:ByteArray}{xs:List ByteArray}{n:Nat}{x:ByteArray}(h:xs[n]? = some x):cL (qG nm xs n) ++ [[.v (.int .u8 0)]] ++cL x = cL (qG nm xs (n+1)):=by
 rw[Gf h,nV,nV,List.append_assoc];rfl
def gH(v:Int)(s:ByteArray):Int:=s.data.toList.foldl fnv v
theorem g9(v:Int)(s:ByteArray):nP v s s.size = gH v s:=by
 unfold nP gH;rw[List.take_of_length_le (by simp)]
theorem uu(v:Int)(a b:ByteArray):gH v (a++b) = gH (gH v a) b:=by
 simp[gH,ByteArray.data_append,List.foldl_append]
theorem Ok(s:ByteArray):0≤gH h0v s∧gH h0v s≤18446744073709551615:=BO _ _ (by unfold h0v;omega)
def bC(nm:ByteArray)(xs:List ByteArray):ByteArray:=bl (beL (gH h0v (qG nm xs xs.length)) 8)
theorem jO(nm:ByteArray)(xs:List ByteArray)(hn:nm.size≤1048576)(hl:xs.length≤1048576)(ht:bS xs≤1048576)(hs:∀ s∈xs,s.size≤1048576):F tz [.val (.s nm),.val (.t (o9 xs))] (.s (bC nm xs)) [[],[]]:=by
 refine G6 ?_
 conv=>whnf
 refine g 0 0 []<|J UA<|g 7 9 []<|J QZ<|Ws<|g 0 0 []<|J UA<|Wb<|Wl (fun s (n:Nat)=>⟨(SK s [0,1,4] [(5,.ref ⟨5,none,0⟩),(6,.i n)]),[(5,[.own [false] (cL (qG nm xs n))])],[]⟩) (fun(n:Nat)=>n≤xs.length) (fun(n:Nat)=>xs.length - n) (0) [some 8] [] FZ OM ?_
 intro n hn
 have hc:=Qm nm xs n OM
 have hb:=gI (qG nm xs n)
 have hle:=NB xs n
 conv=>whnf
 refine Ws<|g 10 12 []<|J UD<|Wc<|JD (fun h1=>?_) fun h1=>?_
 simp only[LM]at h1
 refine Wk<|Ws<|Wb ?_
 obtain⟨y1,hy1⟩:=ae (xs:=xs) (n:=n) OM
 have hm1:=hs y1 (List.mem_of_getElem? hy1)
 refine rgd [[],[],[],[],[],[.x (ai y1)],[],[],[]] ?_
 conv=>whnf
 refine J QZ<|J KR<|rg [.i ((n:Int) +1)]<|J QZ ?_
 rotate_left
 simp only[LM]at h1
 refine We<|g 12 26 [.s (qG nm xs n),.call (V.s (bl (beL (nP h0v (qG nm xs n) (ByteArray.size (qG nm xs n))) 8))) [[]]]<|J ⟨I,⟨I,jS _,(ki _).symm⟩,⟨UA,I,US,UA,nr _ OM⟩,I,I⟩<|RT ?_
 rotate_left
 ·refine⟨n+1,[some 22],[],⟨rfl,FZ,⟨⟨rfl,⟨(congrArg (V.own _) (Tl AS)),I⟩⟩,I⟩,I⟩,?_,?_⟩
  rotate_left
  (dsimp only;omega)
  dsimp only
  omega
 ·exact vs (by rw[g9,show n = xs.length from by omega];rfl)
theorem Sm{nm:ByteArray}{xs:List ByteArray}{n:Nat}{x:ByteArray}(h:xs[n]? = some x):nP (nP (gH h0v (qG nm xs n)) ⟨#[0]⟩ (⟨#[0]⟩:ByteArray).size) x x.size = gH h0v (qG nm xs (n+1)):=by
 rw[g9,g9,Gf h,uu,uu]
theorem nv(nm:ByteArray)(xs:List ByteArray)(hn:nm.size≤1048576)(hl:xs.length≤1048576)(hs:∀ s∈xs,s.size≤1048576):F GW [.val (.s nm),.val (.t (o9 xs))] (.s (bC nm xs)) [[],[]]:=by
 refine Hi ?_
 conv=>whnf
 refine g 0 0 []<|J UA<|g 0 0 []<|J UV<|g 0 1 [.call (V.tup []) ([[u8v (nP 14695981039346656037 nm (ByteArray.size nm))],[]])]<|J (QA @dz)<|Ws<|g 1 2 []<|J UC<|Wb<|Wl (fun s (n:Nat)=>⟨(SK s [4,5,10,11] [(12,.i n)]),[(5,[u8v (gH h0v (qG nm xs n))])],[]⟩) (fun(n:Nat)=>n≤xs.length) (fun(n:Nat)=>xs.length - n) (0) [some 5] [] ⟨rfl,FZ,⟨⟨rfl,⟨(congrArg (fun z=>V.t (T.v (Value.int _ z))) (g9 _ _)),I⟩⟩,I⟩,I⟩ OM ?_
 intro n hn
 have hb:=Ok (qG nm xs n)
 conv=>whnf
 refine g 0 0 []<|J UA<|Ws<|Wc<|JD (fun h1=>?_) fun h1=>?_
 simp only[LM]at h1
 refine Wk<|Ws<|Wb ?_
 obtain⟨y1,hy1⟩:=ae (xs:=xs) (n:=n) OM
 have hm1:=hs y1 (List.mem_of_getElem? hy1)
 refine g 13 16 [.x (ai y1)]<|J QZ<|g 16 17 [.call (V.tup []) ([[u8v (nP (gH h0v (qG nm xs n)) {data:=#[(0:UInt8)]:ByteArray} (ByteArray.size {data:=#[(0:UInt8)]:ByteArray}))],[]])]<|J ⟨⟨UB,I,UV,UA,dz _ _ (by decide)⟩,I⟩<|rg [.call (V.tup []) ([[u8v (nP (nP (gH h0v (qG nm xs n)) {data:=#[(0:UInt8)]:ByteArray} (ByteArray.size {data:=#[(0:UInt8)]:ByteArray})) y1 (ByteArray.size y1))],[]])]<|J (QA @dz)<|rg [.i ((n:Int) +1)]<|J QZ ?_
 rotate_left
 simp only[LM]at h1
 refine We<|g 5 22 [.call (V.s (bl (beL (gH h0v (qG nm xs n)) 8))) [[]]]<|J (QA @mr)<|RT ?_
 rotate_left
 ·refine⟨n+1,[some 5],[],⟨rfl,FZ,⟨⟨rfl,⟨(congrArg (fun z=>V.t (T.v (Value.int _ z))) (Sm AS)),I⟩⟩,I⟩,I⟩,?_,?_⟩
  rotate_left
  (dsimp only;omega)
  dsimp only
  omega
 ·exact vs (by rw[show n = xs.length from by omega];rfl)
end Go.K
end
section
open Go Go.Tm Go.Proofs
namespace Go.K
theorem nh{α β:Type}{f:α→β}{p:α→Prop}:∀ {xs:List β},(∀ y∈xs,∃ s,y = f s∧p s)→∃ ys:List α,xs = ys.map f∧∀ s∈ys,p s
 |[],_=>⟨[],rfl,fun _ h=>by cases h⟩
 |y :: xs,h=>by
  obtain⟨s,rfl,hp⟩:=h y (.head _)
  obtain⟨ys,rfl,hq⟩:=nh fun z hz=>h z (.tail _ hz)
  exact⟨s :: ys,rfl,fun z hz=>by rcases List.mem_cons.1 hz with rfl|hz;exact hp;exact hq z hz⟩
end Go.K
end
section
open Go Go.Tm Go.Proofs
namespace Go.K
structure Parcel where
 kind:Int
 frm:ByteArray
 text:ByteArray
 deriving DecidableEq
abbrev Mj(k:Int)(a b:ByteArray):V:=.agg [.t (.i k),.t (.s a),.t (.s b)]
abbrev bh(p:Parcel):List T:=[.i p.kind,.s p.frm,.s p.text]
abbrev pkd:List Bool:=[false,false,false]
abbrev xw(xs:List Parcel):T:=.slc pkd (xs.map bh)
abbrev noP:Parcel:=⟨0,emp,emp⟩
theorem gQ(l:List Int):(bl l).size = l.length:=by simp[bl,bsa]
theorem bP(xs:List Parcel)(k:Int)(hl:xs.length≤9223372036854775806):F zM [.val (.t (xw xs)),.val (.i k)] (.b (decide (xs.length≤2000∧0≤k∧k < xs.length))) [[],[]]:=by
 refine Ae ?_
 conv=>whnf
 refine g 0 0 []<|J UA ?_
 by_cases h1:(↑(List.length (List.map bh xs)):Int)≤(2000:Int)
 simp only[LM]at h1
 by_cases h2:(0:Int)≤k
 refine g 5 18 (RL 8 BT [])<|J QZ<|RT ?_
 rotate_left
 refine g 5 18 [BT,BT,BT,BF,BF,BF,BF,BF]<|J QZ<|RT ?_
 exact vbf OM
 simp only[LM]at h1
 refine g 5 18 (RL 8 BF [])<|J QZ<|RT ?_
 exact vbf OM
 exact vbd (by simp only[List.length_map];omega)
theorem da(xs:List Parcel)(k:Int)(hl:xs.length≤9223372036854775806):F GR [.val (.t (xw xs)),.val (.i k)] (.b (decide (xs.length≤2000∧0≤k∧k < xs.length))) [[],[]]:=by
 refine He ?_
 conv=>whnf
 refine g 0 0 []<|J UA ?_
 by_cases h1:(↑(List.length (List.map bh xs)):Int)≤(2000:Int)
 simp only[LM]at h1
 refine g 5 15 [BT,BT,BT,BT,.i ((↑(List.length (List.map bh xs)):Int) - 1),BT,.call (V.b (decide (0≤k∧k≤(↑(List.length (List.map bh xs)):Int) - 1))) [[],[],[]],BT]<|J (QA @ah)<|RT ?_
 rotate_left
 simp only[LM]at h1
 refine g 5 15 (RL 6 BF [])<|J QZ<|RT ?_
 exact vbf OM
 exact vbd (by simp only[List.length_map];omega)
theorem dK(xs:List Parcel)(hl:xs.length≤1048576):F C4 [.val (.t (xw xs))] (.own pkd (xs.map bh)) [[]]:=by
 refine DK ?_
 conv=>whnf
 refine g 0 0 []<|J UA<|g 3 6 []<|J QZ<|RT ?_
 rfl
theorem dM(xs:List Parcel)(hl:xs.length≤1048576):F DC [.val (.t (xw xs))] (.own pkd (xs.map bh)) [[]]:=by
 refine Eg ?_
 conv=>whnf
 refine g 0 0 []<|J UA<|g 3 6 []<|J QZ<|RT ?_
 rfl
def cF(xs:List Parcel)(k:Int):List Parcel:=if xs.length≤2000∧0≤k∧k < xs.length then xs.take k.toNat++xs.drop (k.toNat+1)else xs
theorem N1{xs:List Parcel}{k:Int}(h:¬(xs.length≤2000∧0≤k∧k < xs.length)):cF xs k = xs:=if_neg h
theorem KK{xs:List Parcel}{k:Int}(h:xs.length≤2000∧0≤k∧k < xs.length):List.drop 0 (List.take k.toNat (xs.map bh)) ++List.drop (k+1).toNat (List.take (xs.map bh).length (xs.map bh)) = (cF xs k).map bh:=by
 unfold cF
 rw[if_pos h,List.drop_zero,List.take_length,show(k+1).toNat = k.toNat+1 from by omega,List.map_append,List.map_take,List.map_drop]
theorem xO(xs:List Parcel)(k:Int)(hl:xs.length≤1048576):F Je [.val (.t (xw xs)),.val (.i k)] (.own pkd ((cF xs k).map bh)) [[],[]]:=by
 refine Jv ?_
 conv=>whnf
 refine g 0 0 []<|J UA<|Ws<|g 5 8 [.call (V.b (decide (xs.length≤2000∧0≤k∧k < (↑xs.length:Int)))) [[],[]]]<|J (QA @bP)<|Wc<|JN (fun h1=>?_) fun h1=>?_
 refine g 8 11 [.call (V.own pkd (List.map bh xs)) [[]]]<|J (QA @dK)<|RT ?_
 rotate_left
 refine Wk<|gd 8 21 [[],[],[],[.n (Int.toNat k)],[],[],[],[.i (k+1)],[.n (Int.toNat (k+1))],[],[]] ?_
 conv=>whnf
 refine J QZ<|J KR<|RT ?_
 rotate_left
 ·rw[N1 h1]
 ·exact congrArg (V.own pkd) (KK h1)
theorem JP(xs:List Parcel)(k:Int)(hl:xs.length≤1048576):F Jj [.val (.t (xw xs)),.val (.i k)] (.own pkd ((cF xs k).map bh)) [[],[]]:=by
 refine Jz ?_
 conv=>whnf
 refine g 0 0 []<|J UA<|g 6 8 [.call (V.own pkd (List.map bh xs)) [[]]]<|J (QA @dM)<|Ws<|g 8 10 [.call (V.b (decide (xs.length≤2000∧0≤k∧k < (↑xs.length:Int)))) [[],[]]]<|J (QA @da)<|Wc<|JD (fun h1=>?_) fun h1=>?_
 refine rgd [[],[],[.n (Int.toNat k)],[],[],[.i (k+1)],[.n (Int.toNat (k+1))],[],[]] ?_
 conv=>whnf
 refine J QZ<|J KR<|g 5 20 []<|J UB<|RT ?_
 rotate_left
 refine Wk<|g 5 20 []<|J UB<|RT ?_
 rotate_left
 ·exact congrArg (V.own pkd) (KK h1)
 ·rw[N1 h1]
end Go.K
end
section
open Go Go.Tm Go.Proofs
namespace Go.K
abbrev ef(n:Int):List T:=[.i n]
structure Task where
 name:ByteArray
 cost:Int
 deps:List Int
 deriving DecidableEq
abbrev ay(x:Task):List T:=[.s x.name,.i x.cost,.slc [false] (x.deps.map ef)]
abbrev cY:List Bool:=[false,false,true]
def zt(x:Task):Prop:=x.name.size≤9223372036854775807∧x.deps.length≤9223372036854775807
structure Worker where
 number:Int
 epoch:Int
 up:Bool
 state:Int
 lease:Int
 task:Int
 cost:Int
 left:Int
 inputs:List ByteArray
 text:ByteArray
 since:Int
 deriving DecidableEq
abbrev ag(x:Worker):List T:=[.i x.number,.i x.epoch,.b x.up,.i x.state,.i x.lease,.i x.task,.i x.cost,.i x.left,.slc [false] (x.inputs.map ai),.s x.text,.i x.since]
abbrev dI(x:Worker):V:=.agg [.t (.i x.number),.t (.i x.epoch),.t (.b x.up),.t (.i x.state),.t (.i x.lease),.t (.i x.task),.t (.i x.cost),.t (.i x.left),.t (.slc [false] (x.inputs.map ai)),.t (.s x.text),.t (.i x.since)]
abbrev aA(x:Worker):V:=.agg [.t (.i x.number),.t (.i x.epoch),.t (.b x.up),.t (.i x.state),.t (.i x.lease),.t (.i x.task),.t (.i x.cost),.t (.i x.left),.own [false] (x.inputs.map ai),.t (.s x.text),.t (.i x.since)]
abbrev cz:List Bool:=[false,false,false,false,false,false,false,false,true,false,false]
abbrev fv:Worker:=⟨0,0,false,0,0,0,0,0,[],emp,0⟩
structure Plan where
 tasks:List Task
 deriving DecidableEq
abbrev cV(x:Plan):V:=.agg [.t (.slc cY (x.tasks.map ay))]
abbrev eA(x:Plan):V:=.agg [.own cY (x.tasks.map ay)]
def dy(x:Plan):Prop:=x.tasks.length≤9223372036854775807∧(∀ y∈x.tasks,zt y)
end Go.K
end
section
open Go Go.Tm Go.Proofs
namespace Go.K
def fb(xs:List ByteArray):Prop:=(∀ s∈xs,s.size = 8)∧xs.length≤8
instance (xs:List ByteArray):Decidable (fb xs):=by unfold fb;infer_instance
theorem Gb{xs:List ByteArray}{n:Nat}{y:ByteArray}(hy:xs[n]? = some y)(h:¬(y.size:Int) = 8):¬fb xs:=fun e=>h (by have:=e.1 y (List.mem_of_getElem? hy);omega)
theorem uC{α:Type}{p:α→Prop}{xs:List α}{n:Nat}{y:α}(h:∀ s∈xs.take n,p s)(hy:xs[n]? = some y)(hp:p y):∀ s∈xs.take (n+1),p s:=fun s hs=>by
 rw[List.take_add_one,hy]at hs
 rcases List.mem_append.1 hs with hs|hs
 ·exact h s hs
 ·simp at hs;subst hs;exact hp
theorem uD{α:Type}{p:α→Prop}{xs:List α}{n:Nat}(h:∀ s∈xs.take n,p s)(hn:xs.length≤n):∀ s∈xs,p s:=by rwa [aH hn]at h
theorem iV(xs:List ByteArray)(hl:xs.length≤9223372036854775806):F DB [.val (.t (o9 xs))] (.b (decide (fb xs))) [[]]:=by
 refine Ef ?_
 conv=>whnf
 refine g 0 0 []<|J UA<|Ws<|g 0 0 []<|J UC<|Wb<|Wl (fun s (n:Nat)=>⟨(SK s [0,5,6] [(7,.i n)]),[],[]⟩) (fun(n:Nat)=>n≤xs.length∧∀ s∈xs.take n,s.size = 8) (fun(n:Nat)=>xs.length - n) (0) [] [] FZ (by simp) ?_
 rintro n ⟨hn,hc⟩
 conv=>whnf
 refine g 0 0 []<|J UA<|Ws<|Wc<|JD (fun h1=>?_) fun h1=>?_
 simp only[LM]at h1
 refine Wk<|Ws<|Wb ?_
 obtain⟨y1,hy1⟩:=ae (xs:=xs) (n:=n) OM
 refine g 8 11 [.x (ai y1)]<|J QZ<|g 11 13 []<|J UC<|Wc<|JN (fun h2=>?_) fun h2=>?_
 refine g 13 14 []<|J UA<|RT ?_
 rotate_left
 refine Wk<|rg [.i ((n:Int) +1)]<|J QZ ?_
 rotate_left
 simp only[LM]at h1
 refine We<|g 5 18 []<|J UD<|RT ?_
 rotate_left
 ·exact vbf (Gb hy1 AS)
 ·refine⟨n+1,[],[],⟨rfl,⟨rfl,rfl,rfl,rfl,I⟩,I,I⟩,?_,?_⟩
  rotate_left
  (dsimp only;omega)
  dsimp only
  exact⟨by omega,uC hc hy1 OM⟩
 ·exact vbd ⟨fun e=>⟨uD hc OM,by simp only[LM]at e;omega⟩,fun e=>by have:=e.2;simp only[List.length_map];omega⟩
theorem fo(xs:List ByteArray)(hl:xs.length≤9223372036854775806):F sJ [.val (.t (o9 xs))] (.b (decide (fb xs))) [[]]:=by
 refine sW ?_
 conv=>whnf
 refine g 0 0 []<|J UA<|Ws<|g 0 0 []<|J UA<|Wb<|Wl (fun s (n:Nat)=>⟨[(0,s.s 0),(3,.i n)],[],[]⟩) (fun(n:Nat)=>n≤xs.length∧∀ s∈xs.take n,s.size = 8) (fun(n:Nat)=>xs.length - n) (0) [] [] FZ (by simp) ?_
 rintro n ⟨hn,hc⟩
 conv=>whnf
 refine Ws<|g 5 7 []<|J UD<|Wc<|JD (fun h1=>?_) fun h1=>?_
 simp only[LM]at h1
 refine Wk<|Ws<|Wb ?_
 obtain⟨y1,hy1⟩:=ae (xs:=xs) (n:=n) OM
 refine g 7 15 [.x (ai y1)]<|J QZ<|Wc<|JN (fun h2=>?_) fun h2=>?_
 refine g 15 16 []<|J UA<|RT ?_
 rotate_left
 refine Wk<|rg [.i ((n:Int) +1)]<|J QZ ?_
 rotate_left
 simp only[LM]at h1
 refine We<|g 7 19 []<|J UD<|RT ?_
 rotate_left
 ·exact vbf (Gb hy1 AS)
 ·refine⟨n+1,[],[],⟨rfl,⟨rfl,rfl,I⟩,I,I⟩,?_,?_⟩
  rotate_left
  (dsimp only;omega)
  dsimp only
  exact⟨by omega,uC hc hy1 OM⟩
 ·exact vbd ⟨fun e=>⟨uD hc OM,by simp only[LM]at e;omega⟩,fun e=>by have:=e.2;simp only[List.length_map];omega⟩
theorem aC(n:Int):F uK [.val (.i n)] (.b (decide (1≤n∧n≤300000000))) [[]]:=by
 refine vw ?_
 conv=>whnf
 refine g 0 0 []<|J UA<|g 0 1 [.call (V.b (decide (1≤n∧n≤300000000))) [[],[],[]]]<|J (QA @av)<|RT ?_
 rfl
end Go.K
end
section
open Go Go.Tm Go.Proofs Classical
namespace Go.K
def nd(s:ByteArray):Prop:=(∀ (n:Nat) (c:UInt8),s[n]? = some c→33≤c.toNat∧c.toNat≤126)∧1≤s.size∧s.size≤30
theorem ug{s:ByteArray}{n:Nat}{c:UInt8}(h:s[n]? = some c)(hc:¬(33≤(c.toNat:Int)∧(c.toNat:Int)≤126)):¬nd s:=fun e=>hc (by have:=e.1 n c h;omega)
theorem Bp{s:ByteArray}{n:Nat}{c:UInt8}(hn:∀ (m:Nat) (c:UInt8),m < n→s[m]? = some c→33≤c.toNat∧c.toNat≤126)(h:s[n]? = some c)(hc:33≤(c.toNat:Int)∧(c.toNat:Int)≤126):∀ (m:Nat) (c:UInt8),m < n+1→s[m]? = some c→33≤c.toNat∧c.toNat≤126:=fun m d hm hd=>by
 by_cases e:m = n
 ·subst e;rw[h]at hd;cases hd;omega
 ·exact hn m d OM hd
theorem H3{s:ByteArray}{n:Nat}{c:UInt8}(h:s[n]? = some c):n < s.size:=by
 by_cases hn:n < s.size
 ·exact hn
 ·rw[getElem?_neg s n hn]at h;cases h
theorem tP(s:ByteArray)(hs:s.size≤9223372036854775807):F GT [.val (.s s)] (.b (decide (nd s))) [[]]:=by
 refine Hg ?_
 conv=>whnf
 refine g 0 0 []<|J UA<|Ws<|g 0 0 []<|J UA<|Wb<|Wl (fun s (n:Nat)=>⟨[(0,s.s 0),(3,.i n)],[],[]⟩) (fun(n:Nat)=>n≤s.size∧∀ (m:Nat) (c:UInt8),m < n→s[m]? = some c→33≤c.toNat∧c.toNat≤126) (fun(n:Nat)=>s.size - n) (0) [] [] FZ (by simp) ?_
 rintro n ⟨hn,hc⟩
 conv=>whnf
 refine Ws<|g 5 7 []<|J UD<|Wc<|JD (fun h1=>?_) fun h1=>?_
 refine Wk<|Ws<|Wb ?_
 obtain⟨y1,hy1,hb1⟩:=bB (s:=s) (n:=n) OM
 by_cases h2:(↑(UInt8.toNat y1):Int) < (33:Int)
 refine g 7 19 [.i ((↑(UInt8.toNat y1):Int)),BT,BT,BT,BT,BT]<|J QZ<|Wc<|J (fun _=>(g 19 20 []<|J UA (RT ?_))) (noF rfl)
 rotate_left
 refine g 7 19 [.i ((↑(UInt8.toNat y1):Int)),BF,BF,BF,.i ((↑(UInt8.toNat y1):Int)),BF,BF]<|J QZ<|Wc<|JD (fun h3=>?_) fun h3=>?_
 refine g 19 20 []<|J UA<|RT ?_
 rotate_left
 refine Wk<|rg [.i ((n:Int) +1)]<|J QZ ?_
 rotate_left
 refine We ?_
 by_cases h2:(1:Int)≤(↑(ByteArray.size s):Int)
 refine g 7 28 [BT,BT,BT,BT]<|J QZ<|RT ?_
 rotate_left
 refine g 7 28 [BF,BF,BF,BF]<|J QZ<|RT ?_
 rotate_left
 ·exact vbf (ug hy1 OM)
 ·exact vbf (ug hy1 OM)
 ·refine⟨n+1,[],[],⟨rfl,⟨rfl,rfl,I⟩,I,I⟩,?_,?_⟩
  rotate_left
  (dsimp only;omega)
  dsimp only
  exact⟨by omega,Bp hc hy1 OM⟩
 ·exact vbd ⟨fun e=>⟨fun m c h=>hc m c (by have:=H3 h;omega) h,by omega,by omega⟩,fun e=>by have:=e.2;omega⟩
 ·exact vbf (fun e=>by have:=e.2;omega)
theorem yW(s:ByteArray)(hs:s.size≤9223372036854775807):F xX [.val (.s s)] (.b (decide (nd s))) [[]]:=by
 refine yC ?_
 conv=>whnf
 refine g 0 0 []<|J UA<|Ws<|g 0 0 []<|J UA<|Wb<|Wl (fun s (n:Nat)=>⟨[(0,s.s 0),(3,.i n)],[],[]⟩) (fun(n:Nat)=>n≤s.size∧∀ (m:Nat) (c:UInt8),m < n→s[m]? = some c→33≤c.toNat∧c.toNat≤126) (fun(n:Nat)=>s.size - n) (0) [] [] FZ (by simp) ?_
 rintro n ⟨hn,hc⟩
 conv=>whnf
 refine Ws<|g 5 7 []<|J UD<|Wc<|JD (fun h1=>?_) fun h1=>?_
 refine Wk<|Ws<|Wb ?_
 obtain⟨y1,hy1,hb1⟩:=bB (s:=s) (n:=n) OM
 by_cases h2:(↑(UInt8.toNat y1):Int) < (33:Int)
 refine g 7 19 [.i ((↑(UInt8.toNat y1):Int)),BT,BT,BT,BT,BT]<|J QZ<|Wc<|J (fun _=>(g 19 20 []<|J UA (RT ?_))) (noF rfl)
 rotate_left
 refine g 7 19 [.i ((↑(UInt8.toNat y1):Int)),BF,BF,BF,.i ((↑(UInt8.toNat y1):Int)),BF,BF]<|J QZ<|Wc<|JD (fun h3=>?_) fun h3=>?_
 refine g 19 20 []<|J UA<|RT ?_
 rotate_left
 refine Wk<|rg [.i ((n:Int) +1)]<|J QZ ?_
 rotate_left
 refine We ?_
 by_cases h2:(1:Int)≤(↑(ByteArray.size s):Int)
 refine g 7 28 [BT,BT,BT,BT]<|J QZ<|RT ?_
 rotate_left
 refine g 7 28 [BF,BF,BF,BF]<|J QZ<|RT ?_
 rotate_left
 ·exact vbf (ug hy1 OM)
 ·exact vbf (ug hy1 OM)
 ·refine⟨n+1,[],[],⟨rfl,⟨rfl,rfl,I⟩,I,I⟩,?_,?_⟩
  rotate_left
  (dsimp only;omega)
  dsimp only
  exact⟨by omega,Bp hc hy1 OM⟩
 ·exact vbd ⟨fun e=>⟨fun m c h=>hc m c (by have:=H3 h;omega) h,by omega,by omega⟩,fun e=>by have:=e.2;omega⟩
 ·exact vbf (fun e=>by have:=e.2;omega)
end Go.K
end
section
open Go Go.Tm Go.Proofs Classical
namespace Go.K
def HR(xs:List Task)(n:Nat):Prop:=∀ (m:Nat) (t:Task),m < n→xs[m]? = some t→nd t.name∧t.name ∉ (xs.take m).map Task.name
def ig(xs:List Task):Prop:=HR xs xs.length
def jA(xs:List Task):Prop:=∀ t∈xs,1≤t.cost∧t.cost≤20
def KQ(last hi:Int):List Int→Prop
 |[]=>True
 |d :: ds=>(last < d∧d < hi)∧KQ d hi ds
def YS(hi:Int)(d:List Int):Prop:=d.length≤8∧KQ (-1) hi d
def Nr(xs:List Task)(n:Nat):Prop:=∀ (m:Nat) (t:Task),m < n→xs[m]? = some t→YS m t.deps
def tV(xs:List Task):Prop:=Nr xs xs.length
noncomputable def am(xs:List Task):Int :=
 if ¬(1≤xs.length∧xs.length≤40)then 1 else if ¬ig xs then 2 else if ¬jA xs then 3 else if ¬tV xs then 4 else 0
theorem XE{xs:List Task}(h:¬(1≤xs.length∧xs.length≤40)):am xs = 1:=by unfold am;rw[if_pos h]
theorem XD{xs:List Task}(h:1≤xs.length∧xs.length≤40)(h2:¬ig xs):am xs = 2:=by unfold am;rw[if_neg (not_not_intro h),if_pos h2]
theorem XC{xs:List Task}(h:1≤xs.length∧xs.length≤40)(h2:ig xs)(h3:¬jA xs):am xs = 3:=by unfold am;rw[if_neg (not_not_intro h),if_neg (not_not_intro h2),if_pos h3]
theorem Pm{xs:List Task}(h:1≤xs.length∧xs.length≤40)(h2:ig xs)(h3:jA xs)(h4:¬tV xs):am xs = 4:=by unfold am;rw[if_neg (not_not_intro h),if_neg (not_not_intro h2),if_neg (not_not_intro h3),if_pos h4]
theorem aaP{xs:List Task}(h:1≤xs.length∧xs.length≤40)(h2:ig xs)(h3:jA xs)(h4:tV xs):am xs = 0:=by unfold am;rw[if_neg (not_not_intro h),if_neg (not_not_intro h2),if_neg (not_not_intro h3),if_neg (not_not_intro h4)]
theorem uj{xs:List Task}{n:Nat}{t:Task}(ht:xs[n]? = some t)(h:¬(nd t.name∧t.name ∉ (xs.take n).map Task.name)):¬ig xs:=fun e=>h (e n t (List.getElem?_eq_some_iff.1 ht).1 ht)
theorem A4{P:Nat→Task→Prop}{xs:List Task}{n:Nat}{t:Task}(h:∀ (m:Nat) (t:Task),m < n→xs[m]? = some t→P m t)(ht:xs[n]? = some t)(hp:P n t):∀ (m:Nat) (t:Task),m < n+1→xs[m]? = some t→P m t:=fun m d hm hd=>by
 by_cases e:m = n
 ·subst e;rw[ht]at hd;cases hd;exact hp
 ·exact h m d OM hd
theorem Ia{P:Nat→Task→Prop}{xs:List Task}{n:Nat}(h:∀ (m:Nat) (t:Task),m < n→xs[m]? = some t→P m t)(hn:xs.length≤n):∀ (m:Nat) (t:Task),m < xs.length→xs[m]? = some t→P m t:=fun m t hm ht=>h m t OM ht
theorem uz{xs:List Task}{n:Nat}{t:Task}(ht:xs[n]? = some t)(h:¬(1≤t.cost∧t.cost≤20)):¬jA xs:=fun e=>h (e t (List.mem_of_getElem? ht))
theorem n7{xs:List Task}{n:Nat}{t:Task}(ht:xs[n]? = some t)(h:¬YS n t.deps):¬tV xs:=fun e=>h (e n t (List.getElem?_eq_some_iff.1 ht).1 ht)
def oi(hi:Int)(d:List Int)(k:Nat)(last:Int):Prop:=KQ (-1) hi d↔KQ last hi (d.drop k)
theorem Pg{α:Type}{d:List α}{k:Nat}{y:α}(h:d[k]? = some y):d.drop k = y :: d.drop (k+1):=by
 have hk:=(List.getElem?_eq_some_iff.1 h)
 rw[List.drop_eq_getElem_cons hk.1,hk.2]
theorem wN{hi:Int}{d:List Int}{k:Nat}{last y:Int}(h:oi hi d k last)(hy:d[k]? = some y)(h1:last < y∧y < hi):oi hi d (k+1) y:=by
 unfold oi at *;rw[h,Pg hy,KQ];exact⟨fun e=>e.2,fun e=>⟨h1,e⟩⟩
theorem vu{hi:Int}{d:List Int}{k:Nat}{last y:Int}(h:oi hi d k last)(hy:d[k]? = some y)(h1:¬(last < y∧y < hi)):¬KQ (-1) hi d:=by
 unfold oi at *;rw[h,Pg hy,KQ];exact fun e=>h1 e.1
theorem KP{hi:Int}{d:List Int}{k:Nat}{last:Int}(h:oi hi d k last)(hk:d.length≤k):KQ (-1) hi d:=by
 unfold oi at *;rw[h,List.drop_eq_nil_of_le hk];trivial
theorem fS(p:Plan)(hp:dy p):F vm [.val (cV p)] (.i (am p.tasks)) [[]]:=by
 have hl:p.tasks.length≤9223372036854775807:=hp.1
 have hw:∀ y∈p.tasks,y.name.size≤9223372036854775807∧y.deps.length≤9223372036854775807:=hp.2
 refine vX ?_
 conv=>whnf
 refine g 0 1 []<|J QZ<|g 14 17 []<|J UD<|Ws ?_
 by_cases h1:(↑(List.length (List.map ay (Plan.tasks p))):Int) = (0:Int)
 simp only[LM]at h1
 refine g 17 22 [BT,BT,BT]<|J QZ<|Wc<|J (fun _=>(g 22 23 []<|J UA (RT ?_))) (noF rfl)
 rotate_left
 simp only[LM]at h1
 refine g 17 22 [BF,BF,BF]<|J QZ<|Wc<|JD (fun h2=>?_) fun h2=>?_
 simp only[LM]at h2
 refine g 22 23 []<|J UA<|RT ?_
 rotate_left
 simp only[LM]at h2
 refine Wk<|g 22 24 []<|J UB<|Ws<|g 24 25 []<|J UD<|Wb ?_
 rotate_left
 ·exact vi (XE OM).symm
 ·exact vi (XE OM).symm
 have hlen:1≤p.tasks.length∧p.tasks.length≤40:=by omega
 refine Wl (fun s (n:Nat)=>⟨(SK s [1,3,4,25,26] [(27,.i n)]),[(1,[s.c 1 0])],[(23,(p.tasks.take n).map fun t=>Value.string t.name)]⟩) (fun(n:Nat)=>n≤p.tasks.length∧HR p.tasks n) (fun(n:Nat)=>p.tasks.length - n) (0) [some 1] [23] FZ ?_ ?_
 ·exact⟨Nat.zero_le _,fun m t hm=>by omega⟩
 rintro n ⟨hn,hc⟩
 conv=>whnf
 refine g 0 0 []<|J UA<|Ws<|Wc<|JD (fun h3=>?_) fun h3=>?_
 simp only[LM]at h3
 refine Wk<|Ws<|Wb ?_
 obtain⟨y1,hy1⟩:=ae (xs:=Plan.tasks p) (n:=n) OM
 have hm1:=hw y1 (List.mem_of_getElem? hy1)
 refine g 28 31 [.x (ay y1)]<|J QZ<|Ws ?_
 by_cases h4:nd (Task.name y1)
 refine g 31 40 [.call (V.b (decide (nd y1.name))) [[]],BF,BF,BF,BF,.b (decide (y1.name∈List.map Task.name (List.take n p.tasks))),BF]<|J ⟨I,I,⟨UA,I,US,UA,tP _ OM⟩,I,I,⟨nO,I⟩,⟨nO,I⟩,⟨nO,I⟩,⟨nO,SN,KL⟩,nO,I⟩<|Wc<|JD (fun h5=>?_) fun h5=>?_
 refine g 40 41 []<|J UA<|RT ?_
 rotate_left
 refine Wk<|rg []<|J ⟨I,I,I,KL,I⟩<|rg [.i ((n:Int) +1)]<|J QZ ?_
 rotate_left
 refine g 31 40 [.call (V.b (decide (nd y1.name))) [[]],BT,BT,BT,BT,BT]<|J (QA @tP)<|Wc<|J (fun _=>(g 40 41 []<|J UA (RT ?_))) (noF rfl)
 rotate_left
 simp only[LM]at h3
 refine We<|Ws<|g 4 46 []<|J UD<|Wb ?_
 rotate_left
 ·exact vi (XD hlen (uj hy1 (by grind))).symm
 ·refine⟨n+1,[some 1],[23],⟨rfl,FZ,FZ,⟨(congrArg some (PC AS)),I⟩⟩,?_,?_⟩
  rotate_left
  (dsimp only;omega)
  dsimp only
  exact⟨by omega,A4 hc hy1 (by grind)⟩
 ·exact vi (XD hlen (uj hy1 (by grind))).symm
 have hnames:ig p.tasks:=Ia hc OM
 refine Wl (fun s (n:Nat)=>⟨(SK s [1,3,46,47] [(48,.i n)]),[(1,[s.c 1 0])],[]⟩) (fun(n:Nat)=>n≤p.tasks.length∧∀ t∈p.tasks.take n,1≤t.cost∧t.cost≤20) (fun(n:Nat)=>p.tasks.length - n) (0) [some 1] [] FZ (by simp) ?_
 rintro n2 ⟨hn2,hc2⟩
 conv=>whnf
 refine g 0 0 []<|J UA<|Ws<|Wc<|JD (fun h4=>?_) fun h4=>?_
 simp only[LM]at h4
 refine Wk<|Ws<|Wb ?_
 obtain⟨y1,hy1⟩:=ae (xs:=Plan.tasks p) (n:=n2) OM
 have hm1:=hw y1 (List.mem_of_getElem? hy1)
 refine g 49 52 [.x (ay y1)]<|J QZ ?_
 by_cases h5:Task.cost y1 < (1:Int)
 refine g 52 59 [BT,BT,BT,BT]<|J QZ<|Wc<|J (fun _=>(g 8 9 []<|J UA (RT ?_))) (noF rfl)
 rotate_left
 refine g 52 59 [BF,BF,BF,BF]<|J QZ<|Wc<|JD (fun h6=>?_) fun h6=>?_
 refine g 8 9 []<|J UA<|RT ?_
 rotate_left
 refine Wk<|rg [.i ((n2:Int) +1)]<|J QZ ?_
 rotate_left
 simp only[LM]at h4
 refine We<|Ws<|g 46 62 []<|J UD<|Wb ?_
 rotate_left
 ·exact vi (XC hlen hnames (uz AS OM)).symm
 ·exact vi (XC hlen hnames (uz AS OM)).symm
 ·refine⟨n2+1,[some 1],[],FZ,?_,?_⟩
  rotate_left
  (dsimp only;omega)
  dsimp only
  exact⟨by omega,uC hc2 AS OM⟩
 have hcosts:jA p.tasks:=uD hc2 OM
 refine Wl (fun s (n:Nat)=>⟨(SK s [3,62,63] [(64,.i n)]),[],[]⟩) (fun(n:Nat)=>n≤p.tasks.length∧Nr p.tasks n) (fun(n:Nat)=>p.tasks.length - n) (0) [] [] FZ ?_ ?_
 ·exact⟨Nat.zero_le _,fun m t hm=>by omega⟩
 rintro n3 ⟨hn3,hc3⟩
 conv=>whnf
 refine g 0 0 []<|J UA<|Ws<|Wc<|JD (fun h5=>?_) fun h5=>?_
 simp only[LM]at h5
 refine Wk<|Ws<|Wb ?_
 obtain⟨y1,hy1⟩:=ae (xs:=Plan.tasks p) (n:=n3) OM
 have hm1:=hw y1 (List.mem_of_getElem? hy1)
 refine g 65 69 [.x (ay y1)]<|J QZ<|Ws<|g 69 72 []<|J UD<|Wc<|JD (fun h6=>?_) fun h6=>?_
 simp only[LM]at h6
 refine g 72 73 []<|J UA<|RT ?_
 rotate_left
 simp only[LM]at h6
 refine Wk<|g 72 73 []<|J UA<|g 10 11 []<|J UD<|Wb ?_
 rotate_left
 simp only[LM]at h5
 refine We<|g 62 66 []<|J UA<|RT ?_
 rotate_left
 ·exact vi (Pm hlen hnames hcosts (n7 AS (fun e=>by have:=e.1;omega))).symm
 ·skip
  refine Wl (fun s (x:Nat×Int)=>match x with|(k,last)=>⟨((3,s.s 3)::(9,s.s 9)::(11,.i last)::(SK s [62,63,64,74,75] [(76,.i k)])),[],[]⟩) (fun(x:Nat×Int)=>match x with|(k,last)=>k≤y1.deps.length∧oi n3 y1.deps k last) (fun(x:Nat×Int)=>match x with|(k,last)=>y1.deps.length - k) ((0,-1)) [] [] FZ ?_ ?_
  ·exact⟨Nat.zero_le _,Iff.rfl⟩
  rintro⟨k,last⟩ ⟨hk,hi⟩
  conv=>whnf
  refine g 0 0 []<|J UA<|Ws<|Wc<|JD (fun h7=>?_) fun h7=>?_
  simp only[LM]at h7
  refine Wk<|Ws<|Wb ?_
  obtain⟨y2,hy2⟩:=ae (xs:=Task.deps y1) (n:=k) OM
  refine g 77 80 [.x (ef y2)]<|J QZ<|Ws ?_
  by_cases h8:y2≤last
  refine g 80 87 [BT,BT,BT,BT]<|J QZ<|Wc<|J (fun _=>(g 87 88 []<|J UA (RT ?_))) (noF rfl)
  rotate_left
  refine g 80 87 [BF,BF,BF,BF]<|J QZ<|Wc<|JD (fun h9=>?_) fun h9=>?_
  refine g 87 88 []<|J UA<|RT ?_
  rotate_left
  refine Wk<|rg []<|J UB<|rg [.i ((k:Int) +1)]<|J QZ ?_
  rotate_left
  simp only[LM]at h7
  refine We<|rg [.i ((n3:Int) +1)]<|J QZ ?_
  rotate_left
  ·exact vi (Pm hlen hnames hcosts (n7 hy1 (fun e=>vu hi AS OM e.2))).symm
  ·exact vi (Pm hlen hnames hcosts (n7 hy1 (fun e=>vu hi AS OM e.2))).symm
  ·refine⟨(k+1,y2),[],[],⟨rfl,⟨rfl,rfl,rfl,rfl,rfl,rfl,rfl,rfl,rfl,I⟩,I,I⟩,?_,?_⟩
   rotate_left
   (dsimp only;omega)
   dsimp only
   exact⟨by omega,wN hi AS OM⟩
  ·refine⟨n3+1,[],[],⟨rfl,⟨rfl,rfl,rfl,rfl,I⟩,I,I⟩,?_,?_⟩
   rotate_left
   (dsimp only;omega)
   dsimp only
   exact⟨by omega,A4 hc3 hy1 ⟨by omega,KP hi OM⟩⟩
 exact vi (aaP hlen hnames hcosts (Ia hc3 OM)).symm
end Go.K
end
section
open Go Go.Tm Go.Proofs Classical
namespace Go.K
theorem GY{xs:List Task}{n k:Nat}{a:Task}(h:xs[k]? = some a)(hk:k < n):a.name∈(xs.take n).map Task.name:=by
 refine List.mem_map.2 ⟨a,?_,rfl⟩
 refine List.mem_of_getElem? (i:=k) ?_
 rw[List.getElem?_take,if_pos hk];exact h
theorem PO{xs:List Task}{n k:Nat}{s:ByteArray}{a:Task}(h:s ∉ (xs.take k).map Task.name)(ha:xs[k]? = some a)(hne:a.name≠s):s ∉ (xs.take (k+1)).map Task.name:=by
 rw[List.take_add_one,ha];simp only[List.map_append,List.mem_append,not_or]
 exact⟨h,by simpa using fun e=>hne e.symm⟩
theorem N4{d:List Int}{k:Nat}{l y:Int}(h:d[k - 1]? = some l)(hy:d[((k:Int) - 1).toNat]? = some y):y = l:=by
 have e:((k:Int) - 1).toNat = k - 1:=by omega
 rw[e,h]at hy;cases hy;rfl
theorem dl(p:Plan)(hp:dy p):F uN [.val (cV p)] (.i (am p.tasks)) [[]]:=by
 have hl:p.tasks.length≤9223372036854775807:=hp.1
 have hw:∀ y∈p.tasks,y.name.size≤9223372036854775807∧y.deps.length≤9223372036854775807:=hp.2
 refine vB ?_
 conv=>whnf
 refine g 0 1 []<|J QZ<|g 10 13 []<|J UD<|Ws ?_
 by_cases h1:(↑(List.length (List.map ay (Plan.tasks p))):Int) < (1:Int)
 simp only[LM]at h1
 refine g 14 16 [BT,BT,BT]<|J QZ<|Wc<|J (fun _=>(g 17 19 []<|J UA (RT ?_))) (noF rfl)
 rotate_left
 simp only[LM]at h1
 refine g 14 16 [BF,BF,BF]<|J QZ<|Wc<|JD (fun h2=>?_) fun h2=>?_
 simp only[LM]at h2
 refine g 17 19 []<|J UA<|RT ?_
 rotate_left
 simp only[LM]at h2
 refine Wk<|Ws<|g 17 19 []<|J UA<|Wb ?_
 rotate_left
 ·exact vi (XE OM).symm
 ·exact vi (XE OM).symm
 have hlen:1≤p.tasks.length∧p.tasks.length≤40:=by omega
 refine Wl (fun s (n:Nat)=>⟨[(1,s.s 1),(3,s.s 3),(4,.i n),(13,s.s 13),(16,s.s 16)],[(1,[s.c 1 0])],[]⟩) (fun(n:Nat)=>n≤p.tasks.length∧HR p.tasks n) (fun(n:Nat)=>p.tasks.length - n) (0) [some 1] [] FZ ?_ ?_
 ·exact⟨Nat.zero_le _,fun m t hm=>by omega⟩
 rintro n ⟨hn,hc⟩
 conv=>whnf
 refine Ws<|g 19 21 []<|J UC<|Wc<|JD (fun h3=>?_) fun h3=>?_
 simp only[LM]at h3
 refine Wk<|Ws<|Wb<|Ws ?_
 obtain⟨y1,hy1⟩:=ae (xs:=Plan.tasks p) (n:=n) OM
 have hm1:=hw y1 (List.mem_of_getElem? hy1)
 refine g 21 31 [.x (ay y1),.call (V.b (decide (nd y1.name))) [[]]]<|J (QA @yW)<|Wc<|JN (fun h4=>?_) fun h4=>?_
 refine g 31 32 []<|J UA<|RT ?_
 rotate_left
 refine Wk<|g 31 32 []<|J UA<|Wb ?_
 rotate_left
 simp only[LM]at h3
 refine We<|Ws<|g 4 5 []<|J UA<|Wb ?_
 rotate_left
 ·exact vi (XD hlen (uj hy1 (fun e=>absurd e.1 AS))).symm
 ·refine Wl (fun s (k:Nat)=>⟨(SK s [1,3,4] [(5,.i k),(13,s.s 13),(16,s.s 16)]),[(1,[s.c 1 0])],[]⟩) (fun(k:Nat)=>k≤n∧y1.name ∉ (p.tasks.take k).map Task.name) (fun(k:Nat)=>n - k) (0) [some 1] [] FZ (by simp) ?_
  rintro k ⟨hk,hm⟩
  conv=>whnf
  refine Ws<|g 32 34 []<|J UC<|Wc<|JD (fun h5=>?_) fun h5=>?_
  refine Wk<|Ws<|Wb ?_
  obtain⟨y2,hy2⟩:=ae (xs:=Plan.tasks p) (n:=k) OM
  have hm2:=hw y2 (List.mem_of_getElem? hy2)
  refine gd 34 49 [[],[],[],[.x (ay y2)],[],[],[],[],[],[.x (ay y1)],[],[],[]] ?_
  conv=>whnf
  refine J QZ<|J KR<|Wc<|JD (fun h6=>?_) fun h6=>?_
  refine g 49 50 []<|J UA<|RT ?_
  rotate_left
  refine Wk<|rg [.i ((k:Int) +1)]<|J QZ ?_
  rotate_left
  refine We<|rg [.i ((n:Int) +1)]<|J QZ ?_
  rotate_left
  ·exact vi (XD hlen (uj hy1 (fun e=>e.2 (by rw[←(show y2.name = y1.name by assumption)];exact GY hy2 OM)))).symm
  ·refine⟨k+1,[some 1],[],FZ,?_,?_⟩
   rotate_left
   (dsimp only;omega)
   dsimp only
   exact⟨by omega,PO (n:=n) hm hy2 AS⟩
  ·refine⟨n+1,[some 1],[],FZ,?_,?_⟩
   rotate_left
   (dsimp only;omega)
   dsimp only
   exact⟨by omega,A4 hc hy1 ⟨by assumption,by rwa [show k = n by omega]at hm⟩⟩
 have hnames:ig p.tasks:=Ia hc OM
 refine Wl (fun s (n:Nat)=>⟨[(1,s.s 1),(3,s.s 3),(6,.i n),(13,s.s 13),(16,s.s 16)],[(1,[s.c 1 0])],[]⟩) (fun(n:Nat)=>n≤p.tasks.length∧∀ t∈p.tasks.take n,1≤t.cost∧t.cost≤20) (fun(n:Nat)=>p.tasks.length - n) (0) [some 1] [] FZ (by simp) ?_
 rintro n2 ⟨hn2,hc2⟩
 conv=>whnf
 refine Ws<|g 50 52 []<|J UC<|Wc<|JD (fun h4=>?_) fun h4=>?_
 simp only[LM]at h4
 refine Wk<|Ws<|Wb ?_
 obtain⟨y1,hy1⟩:=ae (xs:=Plan.tasks p) (n:=n2) OM
 have hm1:=hw y1 (List.mem_of_getElem? hy1)
 by_cases h5:Task.cost y1 < (1:Int)
 refine g 52 70 (.x (ay y1)::(RL 8 BT []))<|J QZ<|Wc<|J (fun _=>(g 70 71 []<|J UA (RT ?_))) (noF rfl)
 rotate_left
 refine g 52 70 [.x (ay y1),BF,BF,BF,BF,.x (ay y1),BF,BF,BF,BF]<|J QZ<|Wc<|JD (fun h6=>?_) fun h6=>?_
 refine g 70 71 []<|J UA<|RT ?_
 rotate_left
 refine Wk<|rg [.i ((n2:Int) +1)]<|J QZ ?_
 rotate_left
 simp only[LM]at h4
 refine We<|Ws<|g 6 7 []<|J UA<|Wb ?_
 rotate_left
 ·exact vi (XC hlen hnames (uz AS OM)).symm
 ·exact vi (XC hlen hnames (uz AS OM)).symm
 ·refine⟨n2+1,[some 1],[],FZ,?_,?_⟩
  rotate_left
  (dsimp only;omega)
  dsimp only
  exact⟨by omega,uC hc2 AS OM⟩
 have hcosts:jA p.tasks:=uD hc2 OM
 refine Wl (fun s (n:Nat)=>⟨[(1,s.s 1),(3,s.s 3),(7,.i n),(13,s.s 13),(16,s.s 16)],[(1,[s.c 1 0])],[]⟩) (fun(n:Nat)=>n≤p.tasks.length∧Nr p.tasks n) (fun(n:Nat)=>p.tasks.length - n) (0) [some 1] [] FZ ?_ ?_
 ·exact⟨Nat.zero_le _,fun m t hm=>by omega⟩
 rintro n3 ⟨hn3,hc3⟩
 conv=>whnf
 refine Ws<|g 71 73 []<|J UC<|Wc<|JD (fun h5=>?_) fun h5=>?_
 simp only[LM]at h5
 refine Wk<|Ws<|Wb ?_
 obtain⟨y1,hy1⟩:=ae (xs:=Plan.tasks p) (n:=n3) OM
 have hm1:=hw y1 (List.mem_of_getElem? hy1)
 refine g 73 82 [.x (ay y1)]<|J QZ<|Ws<|g 82 84 []<|J UC<|Wc<|JD (fun h6=>?_) fun h6=>?_
 simp only[LM]at h6
 refine g 84 85 []<|J UA<|RT ?_
 rotate_left
 simp only[LM]at h6
 refine Wk<|g 84 85 []<|J UA<|Wb ?_
 rotate_left
 simp only[LM]at h5
 refine We<|g 7 74 []<|J UA<|RT ?_
 rotate_left
 ·exact vi (Pm hlen hnames hcosts (n7 AS (fun e=>by have:=e.1;omega))).symm
 ·refine Wl (fun s (x:Nat×Int)=>match x with|(k,last)=>⟨(SK s [1,3,7,8] [(9,.i k),(13,s.s 13),(16,s.s 16)]),[(1,[s.c 1 0])],[]⟩) (fun(x:Nat×Int)=>match x with|(k,last)=>k≤y1.deps.length∧oi n3 y1.deps k last∧ -1≤last∧(k = 0→last = -1)∧(0 < k→y1.deps[k - 1]? = some last)) (fun(x:Nat×Int)=>match x with|(k,last)=>y1.deps.length - k) ((0,-1)) [some 1] [] FZ ?_ ?_
  ·exact⟨Nat.zero_le _,Iff.rfl,by omega,fun _=>rfl,fun h=>by omega⟩
  rintro⟨k,last⟩ ⟨hk,hi,hlo,hz,hs⟩
  conv=>whnf
  refine Ws<|g 85 88 []<|J UD<|Wc<|JD (fun h7=>?_) fun h7=>?_
  simp only[LM]at h7
  refine Wk<|Ws<|Wb ?_
  obtain⟨y2,hy2⟩:=ae (xs:=Task.deps y1) (n:=k) OM
  by_cases h8:y2 < (0:Int)
  refine gd 88 119 [[],[],[.x (ef y2)],[],[],[],[BT],[BT],[BT],[BT],[BT],[BT],[BT],[],[BT],[BT],[BT],[BF],[BF],[BF],[BF],[BF],[BF],[BF],[BF],[BF],[BF],[BT],[BT]] ?_
  conv=>whnf
  refine J QZ<|J KR<|Wc<|J (fun _=>(g 119 120 []<|J UA (RT ?_))) (noF rfl)
  rotate_left
  by_cases h9:(↑n3:Int)≤y2
  refine gd 88 119 [[],[],[.x (ef y2)],[],[],[],[BF],[BF],[BF,.x (ef y2)],[BF],[BF],[BF],[BF],[],[BT],[BT],[BT],[BF],[BF],[BF],[BF],[BF],[BF],[BF],[BF],[BF],[BF],[BT],[BT]] ?_
  conv=>whnf
  refine J QZ<|J KR<|Wc<|J (fun _=>(g 119 120 []<|J UA (RT ?_))) (noF rfl)
  rotate_left
  by_cases h10:(0:Int) < (↑k:Int)
  obtain⟨y3,hy3⟩:=ae (xs:=Task.deps y1) (n:=Int.toNat ((↑k:Int) - (1:Int))) OM
  refine gd 88 119 [[],[],[.x (ef y2)],[],[],[],[BF],[BF],[BF,.x (ef y2)],[BF],[BF],[BF],[BF],[],[BF],[BF],[BF],[BT],[BT],[BT,.i ((k:Int) - 1)],[BT,.x (ef y3)],[BT],[BT],[BT],[BT,.x (ef y2)],[BT],[BT],[BF,BT],[BF]] ?_
  conv=>whnf
  refine J QZ<|J KR<|Wc<|JD (fun h11=>?_) fun h11=>?_
  refine g 119 120 []<|J UA<|RT ?_
  rotate_left
  refine Wk<|rg [.i ((k:Int) +1)]<|J QZ ?_
  rotate_left
  refine gd 88 119 [[],[],[.x (ef y2)],[],[],[],[BF],[BF],[BF,.x (ef y2)],[BF],[BF],[BF],[BF],[],[BF],[BF],[BF],[BF],[BF],[BF],[BF],[BF],[BF],[BF],[BF],[BF],[BF],[BF,BF],[BF]] ?_
  conv=>whnf
  refine J QZ<|J KR<|Wc<|J (noT rfl) fun _=>Wk<|rg [.i ((k:Int) +1)]<|J QZ ?_
  rotate_left
  simp only[LM]at h7
  refine We<|rg [.i ((n3:Int) +1)]<|J QZ ?_
  rotate_left
  ·exact vi (Pm hlen hnames hcosts (n7 hy1 (fun e=>vu hi hy2 OM e.2))).symm
  ·exact vi (Pm hlen hnames hcosts (n7 hy1 (fun e=>vu hi hy2 OM e.2))).symm
  ·have hl3:=N4 (hs OM) hy3
   exact vi (Pm hlen hnames hcosts (n7 hy1 (fun e=>vu hi hy2 OM e.2))).symm
  ·have hl3:=N4 (hs OM) hy3
   refine⟨(k+1,y2),[some 1],[],FZ,?_,?_⟩
   rotate_left
   (dsimp only;omega)
   dsimp only
   exact⟨by omega,wN hi hy2 OM,by omega,fun e=>by omega,fun _=>hy2⟩
  ·have hl3:=hz OM
   refine⟨(k+1,y2),[some 1],[],FZ,?_,?_⟩
   rotate_left
   (dsimp only;omega)
   dsimp only
   exact⟨by omega,wN hi hy2 OM,by omega,fun e=>by omega,fun _=>hy2⟩
  ·refine⟨n3+1,[some 1],[],FZ,?_,?_⟩
   rotate_left
   (dsimp only;omega)
   dsimp only
   exact⟨by omega,A4 hc3 hy1 ⟨by omega,KP hi OM⟩⟩
 exact vi (aaP hlen hnames hcosts (Ia hc3 OM)).symm
end Go.K
end
section
open Go Go.Tm Go.Proofs
namespace Go.K
def eb(all:List ByteArray)(ds:List Int):List ByteArray:=ds.map fun d=>(all[d.toNat]?).getD emp
def cW(ts:List Task)(n:Nat):List ByteArray:=(ts.take n).foldl (fun acc t=>acc++ [bC t.name (eb acc t.deps)]) []
theorem w9(ts:List Task):cW ts 0 = []:=by unfold cW;rw[List.take_zero];rfl
theorem jd{ts:List Task}{n:Nat}{t:Task}(h:ts[n]? = some t):cW ts (n+1) = cW ts n++ [bC t.name (eb (cW ts n) t.deps)]:=by
 unfold cW;rw[List.take_add_one,h];simp
theorem fG(ts:List Task):∀ n,n≤ts.length→(cW ts n).length = n
 |0,_=>by rw[w9];rfl
 |n+1,h=>by
  rw[jd (List.getElem?_eq_getElem OM),List.length_append,fG ts n OM];rfl
theorem oz(nm:ByteArray)(xs:List ByteArray):(bC nm xs).size = 8:=by unfold bC;rw[gQ,qR]
theorem nw(ts:List Task):∀ n,n≤ts.length→∀ s∈cW ts n,s.size = 8
 |0,_=>by rw[w9];intro s hs;cases hs
 |n+1,h=>by
  rw[jd (List.getElem?_eq_getElem OM)]
  intro s hs
  rcases List.mem_append.1 hs with hs|hs
  ·exact nw ts n OM s hs
  ·rw[List.mem_singleton.1 hs];exact oz _ _
noncomputable def ev(p:Plan):List ByteArray:=if am p.tasks = 0 then cW p.tasks p.tasks.length else []
def de(rs:List ByteArray)(ds:List Int):Prop:=∀ d∈ds,¬(rs[d.toNat]?).getD emp = emp
noncomputable instance (rs:List ByteArray) (ds:List Int):Decidable (de rs ds):=Classical.propDecidable _
structure Tale where
 epoch:Int
 results:List ByteArray
open Classical in
noncomputable def d9(ts:List Task)(st:Tale)(s:ByteArray):Option Tale :=
 match eR s with
 |none=>none
 |some e =>
  if e.kind = 1 then(if e.epoch = st.epoch+1 then some ⟨e.epoch,st.results⟩else none)
  else if e.epoch = st.epoch∧e.task < ts.length∧(st.results[e.task.toNat]?).getD emp = emp∧de st.results ((ts[e.task.toNat]?).map Task.deps|>.getD [])then some ⟨st.epoch,st.results.set e.task.toNat e.text⟩else none
noncomputable def kS(ts:List Task)(st:Option Tale)(l:List ByteArray):Option Tale:=l.foldl (fun a s=>a.bind fun t=>d9 ts t s) st
noncomputable def mC(ts:List Task):Tale:=⟨0,List.replicate ts.length emp⟩
theorem pc(ts:List Task)(l:List ByteArray)(st:Option Tale)(m:List ByteArray):kS ts st (l++m) = kS ts (kS ts st l) m:=by unfold kS;rw[List.foldl_append]
theorem ja(ts:List Task):∀ (l:List ByteArray),kS ts none l = none
 |[]=>rfl
 |s :: l=>ja ts l
theorem jn(ts:List Task)(st:Option Tale):kS ts st [] = st:=rfl
theorem pG(ts:List Task)(t:Tale)(s:ByteArray)(l:List ByteArray):kS ts (some t) (s :: l) = kS ts (d9 ts t s) l:=rfl
theorem Fx{ts:List Task}{xs:List ByteArray}{n:Nat}{s:ByteArray}{st:Option Tale}{t:Tale}(h:kS ts st (xs.take n) = some t)(hs:xs[n]? = some s):kS ts st (xs.take (n+1)) = d9 ts t s:=by
 rw[List.take_add_one,hs,pc,h];rfl
theorem Sy{ts:List Task}{xs:List ByteArray}{n:Nat}{s:ByteArray}{st:Option Tale}{t:Tale}(h:kS ts st (xs.take n) = some t)(hs:xs[n]? = some s)(hb:d9 ts t s = none):kS ts st xs = none:=by
 have h2:=Fx h hs
 rw[hb]at h2
 rw[←List.take_append_drop (n+1) xs,pc,h2,ja]
theorem Sz{ts:List Task}{xs:List ByteArray}{n:Nat}{st:Option Tale}{t:Tale}(h:kS ts st (xs.take n) = some t)(hn:xs.length≤n):kS ts st xs = some t:=by
 rw[List.take_of_length_le hn]at h;exact h
theorem PB{ts:List Task}{t t':Tale}{s:ByteArray}(h:d9 ts t s = some t'):t'.results.length = t.results.length:=by
 unfold d9 at h
 split at h
 ·cases h
 ·split at h
  ·split at h
   ·cases h;rfl
   ·cases h
  ·split at h
   ·cases h;simp
   ·cases h
theorem ud(ts:List Task):∀ (l:List ByteArray) (t t':Tale),kS ts (some t) l = some t'→t'.results.length = t.results.length
 |[],t,t',h=>by rw[jn]at h;cases h;rfl
 |s :: l,t,t',h=>by
  rw[pG]at h
  cases hs:d9 ts t s with
  |none=>rw[hs,ja]at h;cases h
  |some u=>rw[hs]at h;rw[ud ts l u t' h,PB hs]
end Go.K
end
section
open Go Go.Tm Go.Proofs
namespace Go.K
abbrev aaE(ds:List Int):T:=.slc [false] (ds.map ef)
theorem Bq{all:List ByteArray}{ds:List Int}{n:Nat}{d:Int}{y:ByteArray}(h:ds[n]? = some d)(hy:all[d.toNat]? = some y):eb all (ds.take (n+1)) = eb all (ds.take n) ++ [y]:=by
 unfold eb;rw[List.take_add_one,h];simp[hy]
theorem FE{all:List ByteArray}{ds:List Int}{n:Nat}{d:Int}{y:ByteArray}(h:ds[n]? = some d)(hy:all[d.toNat]? = some y):(eb all (ds.take n)).map ai++ [ai y] = (eb all (ds.take (n+1))).map ai:=by
 rw[Bq h hy,List.map_append];rfl
theorem xP(all:List ByteArray)(ds:List Int)(hd:∀ d∈ds,0≤d∧d < all.length)(hl:ds.length≤1048576):F Jh [.val (.t (o9 all)),.val (.t (aaE ds))] (.own [false] ((eb all ds).map ai)) [[],[]]:=by
 refine Jx ?_
 conv=>whnf
 refine g 0 0 []<|J UA<|g 0 0 []<|J UA<|Ws<|g 1 2 []<|J UC<|Wb<|Wl (fun s (n:Nat)=>⟨[(0,s.s 0),(4,s.s 4),(5,.ref ⟨5,none,0⟩),(8,s.s 8),(9,s.s 9),(10,.i n)],[(5,[.own [false] ((eb all (ds.take n)).map ai)])],[]⟩) (fun(n:Nat)=>n≤ds.length) (fun(n:Nat)=>ds.length - n) (0) [none] [] ⟨rfl,FZ,UA,I⟩ OM ?_
 intro n hn
 have hx:(eb all (ds.take n)).length = n:=by unfold eb;rw[List.length_map,List.length_take];omega
 conv=>whnf
 refine g 0 0 []<|J UA<|Ws<|Wc<|JD (fun h1=>?_) fun h1=>?_
 simp only[LM]at h1
 refine Wk<|Ws<|Wb ?_
 obtain⟨y1,hy1⟩:=ae (xs:=ds) (n:=n) OM
 have hm1:=hd y1 (List.mem_of_getElem? hy1)
 refine g 11 14 [.x (ef y1)]<|J QZ ?_
 obtain⟨y2,hy2⟩:=ae (xs:=all) (n:=Int.toNat y1) OM
 refine rg [.x (ai y2)]<|J QZ<|rg [.i ((n:Int) +1)]<|J QZ ?_
 rotate_left
 simp only[LM]at h1
 refine We<|g 5 12 []<|J UB<|RT ?_
 rotate_left
 ·refine⟨n+1,[some 20],[],⟨rfl,FZ,⟨⟨rfl,⟨(congrArg (V.own _) (FE AS AS)),I⟩⟩,I⟩,I⟩,?_,?_⟩
  rotate_left
  (dsimp only;omega)
  dsimp only
  omega
 ·rw[List.take_of_length_le OM]
theorem Kn{rs:List ByteArray}{ds:List Int}{n:Nat}{d:Int}{y:ByteArray}(h:ds[n]? = some d)(hy:rs[d.toNat]? = some y)(e:y = emp):¬de rs ds:=fun hr=>hr d (List.mem_of_getElem? h) (by rw[hy];exact e)
theorem Bl{rs:List ByteArray}{ds:List Int}{n:Nat}{d:Int}{y:ByteArray}(hc:de rs (ds.take n))(h:ds[n]? = some d)(hy:rs[d.toNat]? = some y)(e:¬y = emp):de rs (ds.take (n+1)):=by
 intro x hx
 rw[List.take_add_one,h]at hx
 rcases List.mem_append.1 hx with hx|hx
 ·exact hc x hx
 ·rw[Option.toList,List.mem_singleton]at hx;subst hx;rw[hy];exact e
theorem jP(all:List ByteArray)(ds:List Int)(hd:∀ d∈ds,0≤d∧d < all.length)(hl:ds.length≤1048576):F GS [.val (.t (o9 all)),.val (.t (aaE ds))] (.b (decide (de all ds))) [[],[]]:=by
 refine Hf ?_
 conv=>whnf
 refine g 0 0 []<|J UA<|Ws<|g 1 2 []<|J UC<|Wb ?_
 refine Wl (fun s (n:Nat)=>⟨(SK s [0,7,8] [(9,.i n)]),[],[]⟩) (fun(n:Nat)=>n≤ds.length∧de all (ds.take n)) (fun(n:Nat)=>ds.length - n) (0) [] [] FZ ?_ ?_
 ·exact⟨Nat.zero_le _,by unfold de;simp⟩
 rintro n ⟨hn,hc⟩
 conv=>whnf
 refine g 0 0 []<|J UA<|Ws<|Wc<|JD (fun h1=>?_) fun h1=>?_
 simp only[LM]at h1
 refine Wk<|Ws<|Wb ?_
 obtain⟨y1,hy1⟩:=ae (xs:=ds) (n:=n) OM
 have hm1:=hd y1 (List.mem_of_getElem? hy1)
 refine g 10 13 [.x (ef y1)]<|J QZ ?_
 obtain⟨y2,hy2⟩:=ae (xs:=all) (n:=Int.toNat y1) OM
 refine g 13 17 [.x (ai y2)]<|J QZ<|Wc<|JD (fun h2=>?_) fun h2=>?_
 refine g 6 7 []<|J UA<|RT ?_
 rotate_left
 refine Wk<|rg [.i ((n:Int) +1)]<|J QZ ?_
 rotate_left
 simp only[LM]at h1
 refine We<|g 7 11 []<|J UA<|RT ?_
 rotate_left
 ·exact vbf (Kn AS AS AS)
 ·refine⟨n+1,[],[],⟨rfl,⟨rfl,rfl,rfl,rfl,I⟩,I,I⟩,?_,?_⟩
  rotate_left
  (dsimp only;omega)
  dsimp only
  exact⟨by omega,Bl hc AS AS AS⟩
 ·exact vbt (by rw[List.take_of_length_le OM]at hc;exact hc)
end Go.K
end
section
open Go Go.Tm Go.Proofs
namespace Go.K
theorem BH{hi:Int}:∀ {last:Int} {ds:List Int},KQ last hi ds→∀ d∈ds,last < d∧d < hi
 |_,[],_,d,h=>by cases h
 |last,x :: ds,h,d,hd=>by
  rw[KQ]at h
  rcases List.mem_cons.1 hd with e|hd
  ·subst e;exact h.1
  ·have:=BH h.2 d hd;omega
theorem bU{ts:List Task}(h:am ts = 0):(1≤ts.length∧ts.length≤40)∧ig ts∧jA ts∧tV ts:=by
 by_cases h1:1≤ts.length∧ts.length≤40
 ·by_cases h2:ig ts
  ·by_cases h3:jA ts
   ·by_cases h4:tV ts
    ·exact⟨h1,h2,h3,h4⟩
    ·rw[Pm h1 h2 h3 h4]at h;cases h
   ·rw[XC h1 h2 h3]at h;cases h
  ·rw[XD h1 h2]at h;cases h
 ·rw[XE h1]at h;cases h
theorem cq{ts:List Task}(h:am ts = 0){n:Nat}{t:Task}(ht:ts[n]? = some t):(1≤t.name.size∧t.name.size≤30)∧(1≤t.cost∧t.cost≤20)∧t.deps.length≤8∧∀ d∈t.deps,0≤d∧d < n:=by
 obtain⟨h1,h2,h3,h4⟩:=bU h
 have hn:=(List.getElem?_eq_some_iff.1 ht).1
 refine⟨(h2 n t hn ht).1.2,h3 t (List.mem_of_getElem? ht),(h4 n t hn ht).1,fun d hd=>?_⟩
 have:=BH (h4 n t hn ht).2 d hd
 omega
theorem A2{ts:List Task}{n:Nat}{t:Task}(h:ts[n]? = some t):(cW ts n).map ai++ [ai (bC t.name (eb (cW ts n) t.deps))] = (cW ts (n+1)).map ai:=by
 rw[jd h,List.map_append];rfl
theorem mK(all:List ByteArray)(ds:List Int):(eb all ds).length = ds.length:=by unfold eb;rw[List.length_map]
theorem Br{all:List ByteArray}(hm:∀ s∈all,s.size = 8){ds:List Int}:∀ s∈eb all ds,s.size≤8:=by
 intro s hs
 unfold eb at hs
 obtain⟨d,hd,rfl⟩:=List.mem_map.1 hs
 cases hg:all[d.toNat]? with
 |none=>show emp.size≤8;decide
 |some y=>exact Nat.le_of_eq (hm y (List.mem_of_getElem? hg))
theorem Ce:∀ {xs:List ByteArray},(∀ s∈xs,s.size≤8)→bS xs≤8 * xs.length
 |[],_=>by simp[bS]
 |s :: xs,h=>by
  have:=Ce (xs:=xs) fun y hy=>h y (List.mem_cons_of_mem _ hy)
  have:=h s (List.mem_cons_self ..)
  simp only[bS,List.length_cons];omega
theorem tN(p:Plan)(hp:dy p):F GK [.val (cV p)] (.own [false] ((ev p).map ai)) [[]]:=by
 have c1:=dl p hp
 by_cases h:am p.tasks = 0
 ·obtain⟨⟨hl1,hl2⟩,_⟩:=bU h
  rw[h]at c1
  refine tH ?_
  conv=>whnf
  refine g 0 0 []<|J QZ<|g 7 8 []<|J UB<|Ws<|g 8 10 [.call (V.i 0) [[]]]<|J QZ<|Wc<|J (noT rfl) fun _=>Wk<|Ws<|g 10 11 []<|J UA<|Wb<|Wl (fun s (n:Nat)=>⟨(SK s [0,1,2] [(3,.ref ⟨7,none,0⟩),(4,.i n)]),[(1,[s.c 1 0]),(7,[.own [false] ((cW p.tasks n).map ai)])],[]⟩) (fun(n:Nat)=>n≤p.tasks.length) (fun(n:Nat)=>p.tasks.length - n) (0) [some 1,some 7] [] FZ OM ?_
  intro n hn
  have hx:=fG p.tasks n hn
  have hm:=nw p.tasks n hn
  by_cases hn2:n < p.tasks.length
  ·obtain⟨t,ht⟩:=ae hn2
   obtain⟨⟨a1,a2⟩,_,a3,a4⟩:=cq h ht
   conv=>whnf
   refine Ws<|g 12 16 []<|J UE<|Wc<|J (fun _=>(Wk (Ws (Wb (g 16 20 []<|J UB (Ws (g 0 0 []<|J UA (Wb (Wl (fun s (k:Nat)=>⟨(SK s [0,1,2,3,4] [(5,.ref ⟨19,none,0⟩),(6,.i k)]),[(1,[s.c 1 0]),(7,[s.c 7 0]),(19,[.own [false] ((eb (cW p.tasks n) (t.deps.take k)).map ai)])],[]⟩) (fun(k:Nat)=>k≤t.deps.length) (fun(k:Nat)=>t.deps.length - k) (0) [some 1,some 7,some 19] [] FZ OM ?_))))))))) (noF SI)
   intro k hk
   have hxk:=mK (cW p.tasks n) (t.deps.take k)
   rw[List.length_take,Nat.min_eq_left hk]at hxk
   by_cases hk2:k < t.deps.length
   ·obtain⟨d,hd⟩:=ae hk2
    have hd2:=a4 d (List.mem_of_getElem? hd)
    obtain⟨y,hy⟩:=ae (xs:=cW p.tasks n) (n:=d.toNat) OM
    conv=>whnf
    refine Ws<|g 23 28 [.x (ay t)]<|J QZ<|Wc<|J (fun _=>(Wk (Ws (Wb (rg [.x (ay t),.x (ef d),.n (Int.toNat d),.x (ai y)]<|J QZ (rg [.i ((k:Int) +1)]<|J QZ ?_)))))) (noF SI)
    refine⟨k+1,[some 1,some 7,some 45],[],⟨rfl,FZ,⟨FZ,⟨FZ,⟨⟨rfl,⟨(congrArg (V.own _) (FE hd hy)),I⟩⟩,I⟩⟩⟩,I⟩,?_,?_⟩
    rotate_left
    (dsimp only;omega)
    dsimp only
    omega
   ·have hke:t.deps.take k = t.deps:=List.take_of_length_le OM
    rw[hke]
    have hps:=Br (all:=cW p.tasks n) hm (ds:=t.deps)
    have htot:=Ce hps
    have hpl:=mK (cW p.tasks n) t.deps
    have cv:=jO t.name (eb (cW p.tasks n) t.deps) OM OM OM (fun s hs=>by have:=hps s hs;omega)
    conv=>whnf
    refine Ws<|g 23 28 [.x (ay t)]<|J QZ<|Wc<|J (noT SI) fun _=>We<|rg [.x (ay t),.call (V.s (bC t.name (eb (cW p.tasks n) t.deps))) [[],[]]]<|J QZ<|rg [.i ((n:Int) +1)]<|J QZ ?_
    refine⟨n+1,[some 1,some 56],[],⟨rfl,FZ,⟨FZ,⟨⟨rfl,⟨(congrArg (V.own _) (A2 ht)),I⟩⟩,I⟩⟩,I⟩,?_,?_⟩
    rotate_left
    (dsimp only;omega)
    dsimp only
    omega
  ·conv=>whnf
   refine Ws<|g 12 16 []<|J UE<|Wc<|J (noT SI) fun _=>We<|g 3 58 []<|J UB<|RT ?_
   rw[ev,if_pos h,show n = p.tasks.length by omega]
 ·refine tH ?_
  conv=>whnf
  refine g 0 0 []<|J QZ<|g 7 8 []<|J UB<|Ws<|g 8 10 [.call (V.i (am p.tasks)) [[]]]<|J QZ<|Wc<|J (fun _=>(g 10 12 []<|J UB (RT ?_))) (noF (dP OM))
  rw[ev,if_neg h];rfl
end Go.K
end
section
open Go Go.Tm Go.Proofs
namespace Go.K
structure Story where
 code:Int
 epoch:Int
 results:List ByteArray
 deriving DecidableEq
abbrev gK(x:Story):V:=.agg [.t (.i x.code),.t (.i x.epoch),.own [false] (x.results.map ai)]
noncomputable def cN(ts:List Task)(xs:List ByteArray)(n:Nat):Tale:=(kS ts (some (mC ts)) (xs.take n)).getD (mC ts)
def mZ(ts:List Task)(xs:List ByteArray)(n:Nat):Prop:=kS ts (some (mC ts)) (xs.take n) = some (cN ts xs n)
theorem kY(ts:List Task)(xs:List ByteArray):cN ts xs 0 = mC ts:=by unfold cN;rw[List.take_zero,jn];rfl
theorem xb(ts:List Task)(xs:List ByteArray):mZ ts xs 0:=by unfold mZ;rw[kY,List.take_zero,jn]
theorem pA{ts:List Task}{xs:List ByteArray}{n:Nat}{s:ByteArray}{t:Tale}(h:mZ ts xs n)(hs:xs[n]? = some s)(hst:d9 ts (cN ts xs n) s = some t):mZ ts xs (n+1)∧cN ts xs (n+1) = t:=by
 have e:=Fx h hs
 rw[hst]at e
 have e2:cN ts xs (n+1) = t:=by unfold cN;rw[e];rfl
 exact⟨by unfold mZ;rw[e,e2],e2⟩
theorem J7{ts:List Task}{xs:List ByteArray}{n:Nat}(h:mZ ts xs n):(cN ts xs n).results.length = ts.length:=by
 rw[ud ts _ _ _ h,mC,List.length_replicate]
noncomputable def aw(p:Plan)(xs:List ByteArray):Story :=
 if am p.tasks = 0∧xs.length≤310 then
  match kS p.tasks (some (mC p.tasks)) xs with
  |none=>⟨2,0,[]⟩
  |some t=>⟨0,t.epoch,t.results⟩
 else⟨1,0,[]⟩
theorem nA{p:Plan}{xs:List ByteArray}(h:¬(am p.tasks = 0∧xs.length≤310)):aw p xs = ⟨1,0,[]⟩:=if_neg h
theorem eH{p:Plan}{xs:List ByteArray}{n:Nat}{s:ByteArray}(h:am p.tasks = 0)(hl:xs.length≤310)(hc:mZ p.tasks xs n)(hs:xs[n]? = some s)(hst:d9 p.tasks (cN p.tasks xs n) s = none):aw p xs = ⟨2,0,[]⟩:=by
 rw[aw,if_pos ⟨h,hl⟩,Sy hc hs hst]
theorem Bj{p:Plan}{xs:List ByteArray}{n:Nat}(h:am p.tasks = 0)(hl:xs.length≤310)(hc:mZ p.tasks xs n)(hn:xs.length≤n):aw p xs = ⟨0,(cN p.tasks xs n).epoch,(cN p.tasks xs n).results⟩:=by
 rw[aw,if_pos ⟨h,hl⟩,Sz hc hn]
theorem Fv{ts:List Task}{t:Tale}{s:ByteArray}(h:eR s = none):d9 ts t s = none:=by unfold d9;rw[h]
theorem HK{ts:List Task}{t:Tale}{s:ByteArray}{e:Entry}(h:eR s = some e)(hk:e.kind = 1)(he:e.epoch = t.epoch+1):d9 ts t s = some ⟨e.epoch,t.results⟩:=by
 unfold d9;rw[h];simp only[if_pos hk,if_pos he]
theorem A9{ts:List Task}{t:Tale}{s:ByteArray}{e:Entry}(h:eR s = some e)(hk:e.kind = 1)(he:¬e.epoch = t.epoch+1):d9 ts t s = none:=by
 unfold d9;rw[h];simp only[if_pos hk,if_neg he]
theorem Cj{ts:List Task}{t:Tale}{s:ByteArray}{e:Entry}{k:Task}{y:ByteArray}(h:eR s = some e)(hk:¬e.kind = 1)(he:e.epoch = t.epoch)(ht:e.task < ts.length)(hy:t.results[e.task.toNat]? = some y)(hy2:y = emp)(hkk:ts[e.task.toNat]? = some k)(hr:de t.results k.deps):d9 ts t s = some ⟨t.epoch,t.results.set e.task.toNat e.text⟩:=by
 unfold d9;rw[h];simp only[if_neg hk]
 rw[if_pos ⟨he,ht,by rw[hy];exact hy2,by rw[hkk];exact hr⟩]
theorem ua{ts:List Task}{t:Tale}{s:ByteArray}{e:Entry}(h:eR s = some e)(hk:¬e.kind = 1)(hn:¬(e.epoch = t.epoch∧e.task < ts.length)):d9 ts t s = none:=by
 unfold d9;rw[h];simp only[if_neg hk]
 rw[if_neg fun q=>hn ⟨q.1,q.2.1⟩]
theorem Kc{ts:List Task}{t:Tale}{s:ByteArray}{e:Entry}{y:ByteArray}(h:eR s = some e)(hk:¬e.kind = 1)(hy:t.results[e.task.toNat]? = some y)(hn:¬y = emp):d9 ts t s = none:=by
 unfold d9;rw[h];simp only[if_neg hk]
 rw[if_neg fun q=>hn (by have:=q.2.2.1;rw[hy]at this;exact this)]
theorem Kb{ts:List Task}{t:Tale}{s:ByteArray}{e:Entry}{k:Task}(h:eR s = some e)(hk:¬e.kind = 1)(hkk:ts[e.task.toNat]? = some k)(hn:¬de t.results k.deps):d9 ts t s = none:=by
 unfold d9;rw[h];simp only[if_neg hk]
 rw[if_neg fun q=>hn (by have:=q.2.2.2;rw[hkk]at this;exact this)]
theorem kq{s:ByteArray}{e:Entry}(h:eR s = some e):e.ok:=by
 unfold eR at h
 split at h
 ·cases h
 ·split at h
  ·rename_i h1 h2
   cases h
   unfold bT at h2
   split at h2
   ·assumption
   ·rw[←h2]at h1;exact absurd (by decide:((emp.size:Nat):Int) < 4) h1
  ·cases h
theorem iT(p:Plan)(rs:List ByteArray)(k:Int){t:Task}(h0:0≤k)(ht:p.tasks[k.toNat]? = some t)(hd:∀ d∈t.deps,0≤d∧d < rs.length)(hl:t.deps.length≤1048576):F C5 [.val (cV p),.val (.t (o9 rs)),.val (.i k)] (.b (decide (de rs t.deps))) [[],[],[]]:=by
 have hk:=(List.getElem?_eq_some_iff.1 ht).1
 refine DN ?_
 conv=>whnf
 refine g 0 1 []<|J QZ<|g 9 15 [.x (ay t)]<|J QZ<|Ws<|g 2 4 []<|J UA<|Wb ?_
 refine Wl (fun s (n:Nat)=>⟨[(1,s.s 1),(7,s.s 7),(8,.i n)],[],[]⟩) (fun(n:Nat)=>n≤t.deps.length∧de rs (t.deps.take n)) (fun(n:Nat)=>t.deps.length - n) (0) [] [] FZ ?_ ?_
 ·exact⟨Nat.zero_le _,by unfold de;simp⟩
 rintro n ⟨hn,hc⟩
 conv=>whnf
 refine Ws<|g 15 18 []<|J UD<|Wc<|JD (fun h1=>?_) fun h1=>?_
 simp only[LM]at h1
 refine Wk<|Ws<|Wb ?_
 obtain⟨y1,hy1⟩:=ae (xs:=Task.deps t) (n:=n) OM
 have hm1:=hd y1 (List.mem_of_getElem? hy1)
 obtain⟨y2,hy2⟩:=ae (xs:=rs) (n:=Int.toNat y1) OM
 refine g 18 28 [.x (ef y1),.x (ai y2)]<|J QZ<|Wc<|JD (fun h2=>?_) fun h2=>?_
 refine g 28 29 []<|J UA<|RT ?_
 rotate_left
 refine Wk<|rg [.i ((n:Int) +1)]<|J QZ ?_
 rotate_left
 simp only[LM]at h1
 refine We<|g 7 19 []<|J UA<|RT ?_
 rotate_left
 ·exact vbf (Kn AS AS AS)
 ·refine⟨n+1,[],[],Zag,?_,?_⟩
  rotate_left
  (dsimp only;omega)
  dsimp only
  exact⟨by omega,Bl hc AS AS AS⟩
 ·exact vbt (by rw[List.take_of_length_le OM]at hc;exact hc)
theorem J6{ts:List Task}{e:Entry}(h:e.ok):0≤e.task∧e.task≤39∧1≤e.epoch∧e.epoch≤300:=⟨h.2.1.1,h.2.1.2,h.1.1,h.1.2⟩
theorem zH(ts:List Task)(xs:List ByteArray):List.replicate ts.length (ai emp) = (cN ts xs 0).results.map ai:=by rw[kY,mC,List.map_replicate]
theorem qN(p:Plan)(xs:List ByteArray)(hp:dy p)(hx:∀ s∈xs,s.size≤281474976710656)(hl:xs.length≤9223372036854775806):F qn [.val (cV p),.val (.t (o9 xs))] (gK (aw p xs)) [[],[]]:=by
 have c1:=fS p hp
 by_cases h:am p.tasks = 0
 ·obtain⟨⟨hl1,hl2⟩,_⟩:=bU h
  rw[h]at c1
  by_cases hl3:xs.length≤310
  ·refine lD ?_
   conv=>whnf
   refine g 0 0 []<|J QZ<|Ws<|g 13 18 [.call (V.i 0) [[]],BF,BF,BF,BF]<|J QZ<|Wc<|J (fun h1=>?_) fun h1=>?_
   replace h1:=dt h1
   simp only[LM]at h1
   omega
   replace h1:=df h1
   simp only[LM]at h1
   refine Wk<|gd 21 24 [[],[],[],[.n (List.length (List.map ay p.tasks))],[],[]] ?_
   conv=>whnf
   refine J QZ<|J KR<|Ws<|g 11 12 []<|J UC<|Wb ?_
   refine Wl (fun s (n:Nat)=>⟨(SK s [0,1,2,4] ((5,.i (cN p.tasks xs n).epoch)::(6,.ref ⟨23,none,0⟩)::(SK s [12,20,24,25] [(26,.i n)]))),[(2,[s.c 2 0]),(4,(CK s 4 0 3 [])),(23,[.own [false] ((cN p.tasks xs n).results.map ai)])],[]⟩) (fun(n:Nat)=>n≤xs.length∧mZ p.tasks xs n∧0≤(cN p.tasks xs n).epoch∧(cN p.tasks xs n).epoch≤300) (fun(n:Nat)=>xs.length - n) (0) [some 2,some 4,some 23] [] ⟨rfl,FZ,⟨FZ,⟨FZ,⟨⟨rfl,⟨(congrArg (V.own _) (by rw[List.length_map];exact zH _ _)),I⟩⟩,I⟩⟩⟩,I⟩ ?_ ?_
   ·rw[kY];exact⟨Nat.zero_le _,xb _ _,Int.le_refl _,by show(0:Int)≤300;omega⟩
   rintro n ⟨hn,hc,he0,he1⟩
   have hrl:=J7 hc
   by_cases hn2:n < xs.length
   ·obtain⟨s0,hs⟩:=ae hn2
    have hss:=hx s0 (List.mem_of_getElem? hs)
    have cr:=mw s0 hss
    rw[NO]at cr
    cases hr:eR s0 with
    |none =>
     rw[hr]at cr
     conv=>whnf
     refine g 0 0 []<|J UA<|Ws<|Wc<|J (fun _=>(Wk (Ws (Wb (g 27 30 [.x (ai s0)]<|J QZ (g 30 35 [.call (mE none) [[]]]<|J QZ (Ws (g 8 9 []<|J UB (Wc<|J (fun _=>(g 35 38 []<|J QZ ?_)) (noF rfl)))))))))) (noF SI)
     refine RT ?_
     rw[eH h hl3 hc hs (Fv hr)];rfl
    |some e =>
     rw[hr]at cr
     obtain⟨r1,r2,r3,r4⟩:=J6 (ts:=p.tasks) (kq hr)
     by_cases hk:e.kind = 1
     ·by_cases he:e.epoch = (cN p.tasks xs n).epoch+1
      ·obtain⟨hc2,e1⟩:=pA hc hs (HK hr hk he)
       conv=>whnf
       refine g 0 0 []<|J UA<|Ws<|Wc<|J (fun _=>(Wk (Ws (Wb (g 27 30 [.x (ai s0)]<|J QZ (g 30 35 [.call (mE (some e)) [[]]]<|J QZ (Ws (g 8 9 []<|J UB (Wc<|J (noT rfl) fun _=>(Wk ?_)))))))))) (noF SI)
       refine Ws<|g 35 40 []<|J UC<|Wc<|J (fun _=>(Ws (g 40 45 [.i (Tale.epoch (cN p.tasks xs n) +1)]<|J QZ (Wc<|J (noT nO) fun _=>(Wk (g 45 49 []<|J UC (We (rg [.i ((n:Int) +1)]<|J QZ ?_)))))))) (noF tO)
       refine⟨n+1,[some 2,some 4,some 23],[],⟨rfl,⟨FZ,rfl,rfl,rfl,(congrArg (fun z=>V.t (T.v (Value.int _ z))) (by rw[e1])),rfl,rfl,rfl,rfl,rfl,rfl,I⟩,⟨FZ,⟨FZ,⟨⟨rfl,⟨(congrArg (V.own _) (by rw[e1])),I⟩⟩,I⟩⟩⟩,I⟩,?_,?_⟩
       rotate_left
       (dsimp only;omega)
       dsimp only
       exact⟨by omega,hc2,by rw[e1];dsimp only;omega,by rw[e1];dsimp only;omega⟩
      ·conv=>whnf
       refine g 0 0 []<|J UA<|Ws<|Wc<|J (fun _=>(Wk (Ws (Wb (g 27 30 [.x (ai s0)]<|J QZ (g 30 35 [.call (mE (some e)) [[]]]<|J QZ (Ws (g 8 9 []<|J UB (Wc<|J (noT rfl) fun _=>(Wk ?_)))))))))) (noF SI)
       refine Ws<|g 35 40 []<|J UC<|Wc<|J (fun _=>(Ws (g 40 45 [.i (Tale.epoch (cN p.tasks xs n) +1)]<|J QZ (Wc<|J (fun _=>(g 45 47 []<|J QZ (RT ?_))) (noF (dP OM)))))) (noF tO)
       rw[eH h hl3 hc hs (A9 hr hk he)];rfl
     ·by_cases heq:e.epoch = (cN p.tasks xs n).epoch
      ·by_cases hlt:e.task < p.tasks.length
       ·obtain⟨t,ht⟩:=ae (xs:=p.tasks) (n:=e.task.toNat) OM
        obtain⟨y,hy⟩:=ae (xs:=(cN p.tasks xs n).results) (n:=e.task.toNat) OM
        by_cases hye:y = emp
        ·obtain⟨_,_,a3,a4⟩:=cq h ht
         have cd:=jP (cN p.tasks xs n).results t.deps (fun d hd=>by have:=a4 d hd;omega) OM
         by_cases hrd:de (cN p.tasks xs n).results t.deps
         ·rw[decide_eq_true hrd]at cd
          obtain⟨hc2,e1⟩:=pA hc hs (Cj hr hk heq hlt hy hye ht hrd)
          conv=>whnf
          refine g 0 0 []<|J UA<|Ws<|Wc<|J (fun _=>(Wk (Ws (Wb (g 27 30 [.x (ai s0)]<|J QZ (g 30 35 [.call (mE (some e)) [[]]]<|J QZ (Ws (g 8 9 []<|J UB (Wc<|J (noT rfl) fun _=>(Wk ?_)))))))))) (noF SI)
          refine Ws<|g 35 40 []<|J UC<|Wc<|J (noT dO) fun _=>Wk<|Ws<|g 63 80 (RL 11 BF (.n (Int.toNat e.task)::BF::.x (ai y)::(RL 8 BF [.x (ay t),BF,BF,BF,.call VT [[],[]],BF,BF]))) ?_
          conv=>whnf
          refine J QZ<|Wc<|J (noT rfl) fun _=>Wk<|rg [.n (Int.toNat e.task),.x (ai y)]<|J QZ<|rg [.i ((n:Int) +1)]<|J QZ ?_
          refine⟨n+1,[some 2,some 4,some 23],[],⟨rfl,⟨FZ,rfl,rfl,rfl,(congrArg (fun z=>V.t (T.v (Value.int _ z))) (by rw[e1])),rfl,rfl,rfl,rfl,rfl,rfl,I⟩,⟨FZ,⟨FZ,⟨⟨rfl,⟨(congrArg (V.own _) (by rw[e1,List.map_set];rfl)),I⟩⟩,I⟩⟩⟩,I⟩,?_,?_⟩
          rotate_left
          (dsimp only;omega)
          dsimp only
          exact⟨by omega,hc2,by rw[e1];dsimp only;omega,by rw[e1];dsimp only;omega⟩
         ·rw[decide_eq_false hrd]at cd
          conv=>whnf
          refine g 0 0 []<|J UA<|Ws<|Wc<|J (fun _=>(Wk (Ws (Wb (g 27 30 [.x (ai s0)]<|J QZ (g 30 35 [.call (mE (some e)) [[]]]<|J QZ (Ws (g 8 9 []<|J UB (Wc<|J (noT rfl) fun _=>(Wk ?_)))))))))) (noF SI)
          refine Ws<|g 35 40 []<|J UC<|Wc<|J (noT dO) fun _=>Wk<|Ws<|g 63 80 (RL 11 BF (.n (Int.toNat e.task)::BF::.x (ai y)::(RL 8 BF [.x (ay t),BF,BF,BF,.call VF [[],[]],BF,BF]))) ?_
          conv=>whnf
          refine J QZ<|Wc<|J (fun _=>(g 40 62 []<|J QZ (RT ?_))) (noF rfl)
          rw[eH h hl3 hc hs (Kb hr hk ht hrd)];rfl
        ·conv=>whnf
         refine g 0 0 []<|J UA<|Ws<|Wc<|J (fun _=>(Wk (Ws (Wb (g 27 30 [.x (ai s0)]<|J QZ (g 30 35 [.call (mE (some e)) [[]]]<|J QZ (Ws (g 8 9 []<|J UB (Wc<|J (noT rfl) fun _=>(Wk ?_)))))))))) (noF SI)
         refine Ws<|g 35 40 []<|J UC<|Wc<|J (noT dO) fun _=>Wk<|Ws<|g 63 80 (RL 11 BF (.n (Int.toNat e.task)::BF::.x (ai y)::BF::BF::(RL 11 BT [])))<|J QZ<|Wc<|J (fun _=>(g 40 62 []<|J QZ (RT ?_))) (noF rfl)
         rw[eH h hl3 hc hs (Kc hr hk hy hye)];rfl
       ·conv=>whnf
        refine g 0 0 []<|J UA<|Ws<|Wc<|J (fun _=>(Wk (Ws (Wb (g 27 30 [.x (ai s0)]<|J QZ (g 30 35 [.call (mE (some e)) [[]]]<|J QZ (Ws (g 8 9 []<|J UB (Wc<|J (noT rfl) fun _=>(Wk ?_)))))))))) (noF SI)
        refine Ws<|g 35 40 []<|J UC<|Wc<|J (noT dO) fun _=>Wk<|Ws<|g 63 80 (RL 7 BF (RL 18 BT []))<|J QZ<|Wc<|J (fun _=>(g 40 62 []<|J QZ (RT ?_))) (noF rfl)
        rw[eH h hl3 hc hs (ua hr hk (fun q=>hlt q.2))];rfl
      ·conv=>whnf
       refine g 0 0 []<|J UA<|Ws<|Wc<|J (fun _=>(Wk (Ws (Wb (g 27 30 [.x (ai s0)]<|J QZ (g 30 35 [.call (mE (some e)) [[]]]<|J QZ (Ws (g 8 9 []<|J UB (Wc<|J (noT rfl) fun _=>(Wk ?_)))))))))) (noF SI)
       refine Ws<|g 35 40 []<|J UC<|Wc<|J (noT dO) fun _=>Wk<|Ws<|g 63 80 (RL 25 BT [])<|J QZ<|Wc<|J (fun _=>(g 40 62 []<|J QZ (RT ?_))) (noF rfl)
       rw[eH h hl3 hc hs (ua hr hk (fun q=>heq q.1))];rfl
   ·conv=>whnf
    refine g 0 0 []<|J UA<|Ws<|Wc<|J (noT SI) fun _=>We<|g 5 92 []<|J QZ<|RT ?_
    rw[Bj h hl3 hc OM]
  ·refine lD ?_
   conv=>whnf
   refine g 0 0 []<|J QZ<|Ws<|g 13 18 [.call (V.i 0) [[]],BF,BF,BF,BF]<|J QZ<|Wc<|JD (fun h1=>?_) fun h1=>?_
   simp only[LM]at h1
   refine g 18 20 []<|J QZ<|RT ?_
   rotate_left
   simp only[LM]at h1
   omega
   rw[nA (fun q=>hl3 q.2)];rfl
 ·refine lD ?_
  conv=>whnf
  refine g 0 0 []<|J QZ<|Ws<|g 13 18 [.call (V.i (am p.tasks)) [[]],BT,BT,BT,BT]<|J QZ<|Wc<|J (fun _=>(g 18 20 []<|J QZ (RT ?_))) (noF rfl)
  rw[nA (fun q=>h q.1)];rfl
theorem iU(p:Plan)(xs:List ByteArray)(hp:dy p)(hx:∀ s∈xs,s.size≤281474976710656)(hl:xs.length≤9223372036854775806):F lz [.val (cV p),.val (.t (o9 xs))] (gK (aw p xs)) [[],[]]:=by
 have c1:=dl p hp
 by_cases h:am p.tasks = 0
 ·obtain⟨⟨hl1,hl2⟩,_⟩:=bU h
  rw[h]at c1
  by_cases hl3:xs.length≤310
  ·refine lB ?_
   conv=>whnf
   refine g 0 0 []<|J QZ<|Ws<|g 10 13 [.call (V.i 0) [[]],BF,BF,BF,BF]<|J QZ<|Wc<|J (fun h1=>?_) fun h1=>?_
   replace h1:=dt h1
   simp only[LM]at h1
   omega
   replace h1:=df h1
   simp only[LM]at h1
   refine Wk<|g 14 20 []<|J QZ<|Ws<|g 0 0 []<|J UA<|Wb<|Wl (fun s (n:Nat)=>⟨(SK s [0,1,2,4,5] [(6,.i n),(13,s.s 13)]),[(2,[s.c 2 0]),(4,(CK s 4 0 3 [])),(5,[.t (.i 0),.t (.i 0),.own [false] ((List.replicate n emp).map ai)])],[]⟩) (fun(n:Nat)=>n≤p.tasks.length) (fun(n:Nat)=>p.tasks.length - n) (0) [some 2,some 4,some 5] [] FZ OM ?_
   intro n hn
   conv=>whnf
   refine Ws<|g 20 22 []<|J UE<|Wc<|JD (fun h2=>?_) fun h2=>?_
   simp only[LM]at h2
   refine Wk<|Ws<|Wb<|rg []<|J QZ<|rg [.i ((n:Int) +1)]<|J QZ ?_
   rotate_left
   simp only[LM]at h2
   refine We<|Ws<|g 23 25 []<|J UA<|Wb ?_
   rotate_left
   ·refine⟨n+1,[some 2,some 4,some 5],[],⟨rfl,FZ,⟨FZ,⟨FZ,⟨⟨rfl,⟨rfl,⟨rfl,⟨(congrArg (V.own _) (by rw[List.replicate_succ',List.map_append];rfl)),I⟩⟩⟩⟩,I⟩⟩⟩,I⟩,?_,?_⟩
    rotate_left
    (dsimp only;omega)
    dsimp only
    omega
   rw[show n = p.tasks.length by omega]
   refine Wl (fun s (n:Nat)=>⟨(SK s [0,1,2,4,5] [(7,.i n),(13,s.s 13),(22,s.s 22)]),[(2,[s.c 2 0]),(4,(CK s 4 0 3 [])),(5,[.t (.i 0),.t (.i (cN p.tasks xs n).epoch),.own [false] ((cN p.tasks xs n).results.map ai)])],[]⟩) (fun(n:Nat)=>n≤xs.length∧mZ p.tasks xs n∧0≤(cN p.tasks xs n).epoch∧(cN p.tasks xs n).epoch≤300) (fun(n:Nat)=>xs.length - n) (0) [some 2,some 4,some 5] [] FZ ?_ ?_
   ·rw[kY];exact⟨Nat.zero_le _,xb _ _,Int.le_refl _,by show(0:Int)≤300;omega⟩
   rintro n ⟨hn,hc,he0,he1⟩
   have hrl:=J7 hc
   by_cases hn2:n < xs.length
   ·obtain⟨s0,hs⟩:=ae hn2
    have hss:=hx s0 (List.mem_of_getElem? hs)
    have cr:=v5 s0 hss
    cases hr:eR s0 with
    |none =>
     rw[hr]at cr
     conv=>whnf
     refine Ws<|g 32 35 []<|J UD<|Wc<|J (fun _=>(Wk (Ws (Wb (g 35 46 [.x (ai s0),.call (mE none) [[]]]<|J QZ (Ws (g 9 10 []<|J UB (Wc<|J (fun _=>(g 46 49 []<|J QZ (RT ?_))) (noF rfl))))))))) (noF SI)
     rw[eH h hl3 hc hs (Fv hr)];rfl
    |some e =>
     rw[hr]at cr
     obtain⟨r1,r2,r3,r4⟩:=J6 (ts:=p.tasks) (kq hr)
     by_cases hk:e.kind = 1
     ·by_cases he:e.epoch = (cN p.tasks xs n).epoch+1
      ·obtain⟨hc2,e1⟩:=pA hc hs (HK hr hk he)
       conv=>whnf
       refine Ws<|g 32 35 []<|J UD<|Wc<|J (fun _=>(Wk (Ws (Wb (g 35 46 [.x (ai s0),.call (mE (some e)) [[]]]<|J QZ (Ws (g 9 10 []<|J UB (Wc<|J (noT rfl) fun _=>(Wk (Ws ?_)))))))))) (noF SI)
       refine g 46 51 []<|J UC<|Wc<|J (fun _=>(Ws (g 51 57 [.i (Tale.epoch (cN p.tasks xs n) +1)]<|J QZ (Wc<|J (noT nO) fun _=>(Wk (g 57 62 []<|J UW (We (rg [.i ((n:Int) +1)]<|J QZ ?_)))))))) (noF tO)
       refine⟨n+1,[some 2,some 4,some 5],[],⟨rfl,FZ,⟨FZ,⟨FZ,⟨⟨rfl,⟨rfl,⟨(congrArg (fun z=>V.t (T.v (Value.int _ z))) (by rw[e1])),⟨(congrArg (V.own _) (by rw[e1])),I⟩⟩⟩⟩,I⟩⟩⟩,I⟩,?_,?_⟩
       rotate_left
       (dsimp only;omega)
       dsimp only
       exact⟨by omega,hc2,by rw[e1];dsimp only;omega,by rw[e1];dsimp only;omega⟩
      ·conv=>whnf
       refine Ws<|g 32 35 []<|J UD<|Wc<|J (fun _=>(Wk (Ws (Wb (g 35 46 [.x (ai s0),.call (mE (some e)) [[]]]<|J QZ (Ws (g 9 10 []<|J UB (Wc<|J (noT rfl) fun _=>(Wk (Ws ?_)))))))))) (noF SI)
       refine g 46 51 []<|J UC<|Wc<|J (fun _=>(Ws (g 51 57 [.i (Tale.epoch (cN p.tasks xs n) +1)]<|J QZ (Wc<|J (fun _=>(g 57 59 []<|J QZ (RT ?_))) (noF (dP OM)))))) (noF tO)
       rw[eH h hl3 hc hs (A9 hr hk he)];rfl
     ·by_cases heq:e.epoch = (cN p.tasks xs n).epoch
      ·by_cases hlt:e.task < p.tasks.length
       ·obtain⟨t,ht⟩:=ae (xs:=p.tasks) (n:=e.task.toNat) OM
        obtain⟨y,hy⟩:=ae (xs:=(cN p.tasks xs n).results) (n:=e.task.toNat) OM
        by_cases hye:y = emp
        ·obtain⟨_,_,a3,a4⟩:=cq h ht
         have cd:=iT p (cN p.tasks xs n).results e.task r1 ht (fun d hd=>by have:=a4 d hd;omega) OM
         by_cases hrd:de (cN p.tasks xs n).results t.deps
         ·rw[decide_eq_true hrd]at cd
          obtain⟨hc2,e1⟩:=pA hc hs (Cj hr hk heq hlt hy hye ht hrd)
          conv=>whnf
          refine Ws<|g 32 35 []<|J UD<|Wc<|J (fun _=>(Wk (Ws (Wb (g 35 46 [.x (ai s0),.call (mE (some e)) [[]]]<|J QZ (Ws (g 9 10 []<|J UB (Wc<|J (noT rfl) fun _=>(Wk (Ws ?_)))))))))) (noF SI)
          refine g 46 51 []<|J UC<|Wc<|J (noT dO) fun _=>Wk<|Ws<|g 63 92 (RL 12 BF (.n (Int.toNat e.task)::BF::.x (ai y)::(RL 8 BF [.call VT [[],[],[]],BF,BF])))<|J QZ<|Wc<|J (noT rfl) fun _=>Wk<|rg [.n (Int.toNat e.task),.x (ai y)]<|J QZ<|rg [.i ((n:Int) +1)]<|J QZ ?_
          refine⟨n+1,[some 2,some 4,some 5],[],⟨rfl,FZ,⟨FZ,⟨FZ,⟨⟨rfl,⟨rfl,⟨(congrArg (fun z=>V.t (T.v (Value.int _ z))) (by rw[e1])),⟨(congrArg (V.own _) (by rw[e1,List.map_set];rfl)),I⟩⟩⟩⟩,I⟩⟩⟩,I⟩,?_,?_⟩
          rotate_left
          (dsimp only;omega)
          dsimp only
          exact⟨by omega,hc2,by rw[e1];dsimp only;omega,by rw[e1];dsimp only;omega⟩
         ·rw[decide_eq_false hrd]at cd
          conv=>whnf
          refine Ws<|g 32 35 []<|J UD<|Wc<|J (fun _=>(Wk (Ws (Wb (g 35 46 [.x (ai s0),.call (mE (some e)) [[]]]<|J QZ (Ws (g 9 10 []<|J UB (Wc<|J (noT rfl) fun _=>(Wk (Ws ?_)))))))))) (noF SI)
          refine g 46 51 []<|J UC<|Wc<|J (noT dO) fun _=>Wk<|Ws<|g 63 92 (RL 12 BF (.n (Int.toNat e.task)::BF::.x (ai y)::(RL 8 BF [.call VF [[],[],[]],BF,BF])))<|J QZ<|Wc<|J (fun _=>(g 92 94 []<|J QZ (RT ?_))) (noF rfl)
          rw[eH h hl3 hc hs (Kb hr hk ht hrd)];rfl
        ·conv=>whnf
         refine Ws<|g 32 35 []<|J UD<|Wc<|J (fun _=>(Wk (Ws (Wb (g 35 46 [.x (ai s0),.call (mE (some e)) [[]]]<|J QZ (Ws (g 9 10 []<|J UB (Wc<|J (noT rfl) fun _=>(Wk (Ws ?_)))))))))) (noF SI)
         refine g 46 51 []<|J UC<|Wc<|J (noT dO) fun _=>Wk<|Ws<|g 63 92 (RL 12 BF (.n (Int.toNat e.task)::BF::.x (ai y)::BF::BF::(RL 8 BT [])))<|J QZ<|Wc<|J (fun _=>(g 92 94 []<|J QZ (RT ?_))) (noF rfl)
         rw[eH h hl3 hc hs (Kc hr hk hy hye)];rfl
       ·conv=>whnf
        refine Ws<|g 32 35 []<|J UD<|Wc<|J (fun _=>(Wk (Ws (Wb (g 35 46 [.x (ai s0),.call (mE (some e)) [[]]]<|J QZ (Ws (g 9 10 []<|J UB (Wc<|J (noT rfl) fun _=>(Wk (Ws ?_)))))))))) (noF SI)
        refine g 46 51 []<|J UC<|Wc<|J (noT dO) fun _=>Wk<|Ws<|g 63 92 (RL 7 BF (RL 16 BT []))<|J QZ<|Wc<|J (fun _=>(g 92 94 []<|J QZ (RT ?_))) (noF rfl)
        rw[eH h hl3 hc hs (ua hr hk (fun q=>hlt q.2))];rfl
      ·conv=>whnf
       refine Ws<|g 32 35 []<|J UD<|Wc<|J (fun _=>(Wk (Ws (Wb (g 35 46 [.x (ai s0),.call (mE (some e)) [[]]]<|J QZ (Ws (g 9 10 []<|J UB (Wc<|J (noT rfl) fun _=>(Wk (Ws ?_)))))))))) (noF SI)
       refine g 46 51 []<|J UC<|Wc<|J (noT dO) fun _=>Wk<|Ws<|g 63 92 (RL 23 BT [])<|J QZ<|Wc<|J (fun _=>(g 92 94 []<|J QZ (RT ?_))) (noF rfl)
       rw[eH h hl3 hc hs (ua hr hk (fun q=>heq q.1))];rfl
   ·conv=>whnf
    refine Ws<|g 32 35 []<|J UD<|Wc<|J (noT SI) fun _=>We<|g 5 102 []<|J QZ<|RT ?_
    rw[Bj h hl3 hc OM]
  ·refine lB ?_
   conv=>whnf
   refine g 0 0 []<|J QZ<|Ws<|g 10 13 [.call (V.i 0) [[]],BF,BF,BF,BF]<|J QZ<|Wc<|JD (fun h1=>?_) fun h1=>?_
   simp only[LM]at h1
   refine g 14 19 []<|J QZ<|RT ?_
   rotate_left
   simp only[LM]at h1
   omega
   rw[nA (fun q=>hl3 q.2)];rfl
 ·refine lB ?_
  conv=>whnf
  refine g 0 0 []<|J QZ<|Ws<|g 10 13 [.call (V.i (am p.tasks)) [[]],BT,BT,BT,BT]<|J QZ<|Wc<|J (fun _=>(g 14 19 []<|J QZ (RT ?_))) (noF rfl)
  rw[nA (fun q=>h q.1)];rfl
end Go.K
end
section
open Go Go.Tm Go.Proofs
namespace Go.K
abbrev u8s(l:List Int):T:=.slc [false] (l.map b1T)
theorem CL:XT 19 26 Tryz.f19 [(2,52,true),(3,55,true)]:=@xM _ _ _ _ Tryz.func19 rfl rfl rfl KR KR
theorem jJ:XT 61 48 Tryz.f61 [(2,52,true)]:=@xM _ _ _ _ Tryz.func61 rfl rfl rfl KR KR
theorem bg:XT 62 50 Tryz.f62 [(2,55,true)]:=@xM _ _ _ _ Tryz.func62 rfl rfl rfl KR KR
theorem lR:XT 63 99 Tryz.f63 [(4,3,false)]:=@xM _ _ _ _ Tryz.func63 rfl rfl rfl KR KR
theorem fh:XT 158 141 Tryz.f158 [(2,52,true)]:=@xM _ _ _ _ Tryz.func158 rfl rfl rfl KR KR
theorem lQ:XT 159 40 Tryz.f159 [(2,52,true)]:=@xM _ _ _ _ Tryz.func159 rfl rfl rfl KR KR
theorem dq:XT 160 82 Tryz.f160 [(4,52,true)]:=@xM _ _ _ _ Tryz.func160 rfl rfl rfl KR KR
theorem dH:XT 203 190 Tryz.f203 [(2,48,true),(3,42,true)]:=@xM _ _ _ _ Tryz.func203 rfl rfl rfl KR KR
theorem pY:XT 204 69 Tryz.f204 [(2,42,true)]:=@xM _ _ _ _ Tryz.func204 rfl rfl rfl KR KR
theorem zE:XT 206 198 Tryz.f206 [(4,48,true)]:=@xM _ _ _ _ Tryz.func206 rfl rfl rfl KR KR
theorem aQ:XT 207 83 Tryz.f207 [(4,109,true)]:=@xM _ _ _ _ Tryz.func207 rfl rfl rfl KR KR
theorem dr:XT 208 140 Tryz.f208 [(4,42,true)]:=@xM _ _ _ _ Tryz.func208 rfl rfl rfl KR KR
theorem CJ:XT 209 20 Tryz.f209 [(4,9,false)]:=@xM _ _ _ _ Tryz.func209 rfl rfl rfl KR KR
theorem CI:XT 210 41 Tryz.f210 [(2,50,false)]:=@xM _ _ _ _ Tryz.func210 rfl rfl rfl KR KR
theorem pX:XT 221 23 Tryz.f221 [(2,120,true)]:=@xM _ _ _ _ Tryz.func221 rfl rfl rfl KR KR
theorem gh:XT 222 65 Tryz.f222 [(2,75,true)]:=@xM _ _ _ _ Tryz.func222 rfl rfl rfl KR KR
abbrev rdC(l:List Int)(pos:Int):List V:=[.t (u8s l),.t (.i pos)]
def dN(l:List Int):Prop:=l.length≤2000∧∀ x∈l,0≤x∧x≤255
theorem Eu(l:List Int)(h:l.length≤1099511627776):F Db [.val (.t (u8s l))] (.tup [.tup (rdC (l.take 2000) 0)]) [[]]:=by
 refine DT ?_
 conv=>whnf
 refine g 0 0 []<|J UA<|Ws<|g 3 5 []<|J UC<|Wc<|JD (fun h1=>?_) fun h1=>?_
 simp only[LM]at h1
 refine rg [.n (2000)]<|J QZ<|g 5 11 []<|J QZ<|RT ?_
 rotate_left
 simp only[LM]at h1
 refine Wk<|g 5 11 []<|J QZ<|RT ?_
 rotate_left
 ·rw[List.drop_zero,←List.map_take]
 ·rw[List.take_of_length_le OM]
theorem tX{x n:Int}(hx:0≤x)(hn:0 < n):0≤x.tmod n∧x.tmod n < n:=⟨Int.tmod_nonneg _ hx,Int.tmod_lt_of_pos _ hn⟩
theorem Ch{x n:Int}(hx:0≤x)(hn:0 < n):0≤x.tdiv n∧x.tdiv n≤x:=by
 rw[Int.tdiv_eq_ediv_of_nonneg hx]
 exact⟨Int.ediv_nonneg hx OM,Int.ediv_le_self _ hx⟩
theorem WR{x y:Int}(hx:0≤x)(hx2:x < 1099511627776)(hy:0≤y)(hy2:y < 1099511627776):0≤IntKind.i64.wrap ↑(BitVec.ofInt IntKind.i64.bits x ^^^ BitVec.ofInt IntKind.i64.bits y).toNat:=by
 have e1:(BitVec.ofInt IntKind.i64.bits x).toNat = x.toNat:=by
  rw[BitVec.toNat_ofInt]
  show(x % ((2 ^ 64:Nat):Int)).toNat = _
  rw[Int.emod_eq_of_lt hx OM]
 have e2:(BitVec.ofInt IntKind.i64.bits y).toNat = y.toNat:=by
  rw[BitVec.toNat_ofInt]
  show(y % ((2 ^ 64:Nat):Int)).toNat = _
  rw[Int.emod_eq_of_lt hy OM]
 have h:x.toNat ^^^ y.toNat < 2 ^ 40:=Nat.xor_lt_two_pow OM OM
 rw[BitVec.toNat_xor,e1,e2]
 have:(2:Nat) ^ 40 = 1099511627776:=by decide
 rw[wO]
 omega
theorem Xo(l:List Int)(pos n:Int)(hl:dN l)(h0:0≤pos)(h1:pos≤1048576)(hn:n≤1048576):∃ res outs,(∃ v,res = .i v∧outs = [rdC l (pos+1),[]]∧0≤v∧(v < n∨v = 0))∧F eT [.ptr (rdC l pos),.val (.i n)] res outs:=by
 obtain⟨hl1,hl2⟩:=hl
 by_cases hz:l.length = 0
 ·refine lR ?_
  conv=>whnf
  refine g 0 0 []<|J UA<|g 7 15 [.i (pos+1)]<|J QZ<|Ws ?_
  by_cases h2:n < (1:Int)
  refine g 15 24 (RL 7 BT [])<|J QZ<|Wc<|J (fun _=>(g 24 25 []<|J UA (W.ret (EndsW.rt<|J UB ?_)))) (noF rfl)
  rotate_left
  refine g 15 24 (RL 7 BF [])<|J QZ<|Wc<|J (fun _=>(g 24 25 []<|J UA (W.ret (EndsW.rt<|J UB ?_)))) (noF SI)
  rotate_left
  all_goals exact⟨0,rfl,rfl,by omega,.inr rfl⟩
 ·have hp:(0:Int) < ((l.map b1T).length:Int):=by rw[List.length_map];omega
  have hlm:((l.map b1T).length:Int) = l.length:=by rw[List.length_map]
  obtain⟨m1,m2⟩:=tX (x:=pos+1 - 1) OM hp
  obtain⟨m3,m4⟩:=tX (x:=(pos+1 - 1) * 7+3) OM hp
  obtain⟨m5,m6⟩:=Ch (x:=pos+1 - 1) OM hp
  rw[hlm]at m1 m2 m3 m4 m5 m6
  refine lR ?_
  conv=>whnf
  refine g 0 0 []<|J UA<|g 7 15 [.i (pos+1)]<|J QZ<|Ws ?_
  by_cases h2:n < (1:Int)
  refine g 15 24 (RL 7 BT [])<|J QZ<|Wc<|J (fun _=>(g 24 25 []<|J UA (W.ret (EndsW.rt<|J UB ?_)))) (noF rfl)
  rotate_left
  refine g 15 24 (RL 7 BF [])<|J QZ<|Wc<|J (noT dO) fun _=>Wk<|g 24 30 [.i (pos+ (1:Int) - 1)]<|J QZ<|Ws<|g 30 36 []<|J UG<|Wc<|JD (fun h3=>?_) fun h3=>?_
  simp only[LM]at h3
  obtain⟨y1,hy1⟩:=ae (xs:=l) (n:=Int.toNat (pos+ (1:Int) - (1:Int))) OM
  have hm1:=hl2 y1 (List.mem_of_getElem? hy1)
  refine g 36 47 [.x (b1T y1),.i (y1),.i (Int.tmod y1 n)]<|J QZ<|W.ret<|EndsW.rt<|J UB ?_
  rotate_left
  simp only[LM]at h3
  refine Wk ?_
  obtain⟨y1,hy1⟩:=ae (xs:=l) (n:=Int.toNat (Int.tmod (pos+ (1:Int) - (1:Int)) (↑(List.length (List.map b1T l)):Int))) (by simp only[LM]at *;omega)
  have hm1:=hl2 y1 (List.mem_of_getElem? hy1)
  obtain⟨y2,hy2⟩:=ae (xs:=l) (n:=Int.toNat (Int.tmod ((pos+ (1:Int) - (1:Int)) * (7:Int) + (3:Int)) (↑(List.length (List.map b1T l)):Int))) (by simp only[LM]at *;omega)
  have hm2:=hl2 y2 (List.mem_of_getElem? hy2)
  refine gd 36 92 [[],[],[],[],[],[],[],[],[],[],[.i (Int.tmod (pos+ (1:Int) - 1) (↑(List.length (List.map b1T l)):Int))],[.x (b1T y1)],[],[.i (y1)],[.i (y1 * 131)],[],[],[],[],[],[.i ((pos+ (1:Int) - 1) * 7)],[.i ((pos+ (1:Int) - 1) * 7+3)],[],[],[],[],[],[.i (Int.tmod ((pos+ (1:Int) - 1) * 7+3) (↑(List.length (List.map b1T l)):Int))],[.x (b1T y2)],[],[.i (y2)],[.i (y2 * 1117)],[.i (y1 * 131+y2 * 1117)],[],[.i ((pos+ (1:Int) - 1) * 29)],[.i (y1 * 131+y2 * 1117+ (pos+ (1:Int) - 1) * 29)],[],[],[],[],[],[],[.i (Int.tdiv (pos+ (1:Int) - 1) (↑(List.length (List.map b1T l)):Int))],[.i (Int.tdiv (pos+ (1:Int) - 1) (↑(List.length (List.map b1T l)):Int) * 53)],[.i (y1 * 131+y2 * 1117+ (pos+ (1:Int) - 1) * 29+Int.tdiv (pos+ (1:Int) - 1) (↑(List.length (List.map b1T l)):Int) * 53)],[]] ?_
  conv=>whnf
  refine J QZ<|J KR<|g 92 96 [.i (IntKind.wrap IntKind.i64 (Int.tdiv (y1 * 131+y2 * 1117+ (pos+ (1:Int) - 1) * 29+Int.tdiv (pos+ (1:Int) - 1) (↑(List.length (List.map b1T l)):Int) * 53) 64)),.i (IntKind.wrap IntKind.i64 (↑(BitVec.toNat (BitVec.ofInt (IntKind.bits IntKind.i64) (y1 * 131+y2 * 1117+ (pos+ (1:Int) - 1) * 29+Int.tdiv (pos+ (1:Int) - 1) (↑(List.length (List.map b1T l)):Int) * 53) ^^^ BitVec.ofInt (IntKind.bits IntKind.i64) (IntKind.wrap IntKind.i64 (Int.tdiv (y1 * 131+y2 * 1117+ (pos+ (1:Int) - 1) * 29+Int.tdiv (pos+ (1:Int) - 1) (↑(List.length (List.map b1T l)):Int) * 53) 64)))):Int))]<|J QZ<|g 5 99 [.i (Int.tmod (IntKind.wrap IntKind.i64 (↑(BitVec.toNat (BitVec.ofInt (IntKind.bits IntKind.i64) (y1 * 131+y2 * 1117+ (pos+ (1:Int) - 1) * 29+Int.tdiv (pos+ (1:Int) - 1) (↑(List.length (List.map b1T l)):Int) * 53) ^^^ BitVec.ofInt (IntKind.bits IntKind.i64) (IntKind.wrap IntKind.i64 (Int.tdiv (y1 * 131+y2 * 1117+ (pos+ (1:Int) - 1) * 29+Int.tdiv (pos+ (1:Int) - 1) (↑(List.length (List.map b1T l)):Int) * 53) 64)))):Int)) n)]<|J QZ<|W.ret<|EndsW.rt<|J UB ?_
  rotate_left
  ·exact⟨0,rfl,rfl,by omega,.inr rfl⟩
  ·obtain⟨k1,k2⟩:=tX (x:=y1) (n:=n) OM OM
   exact⟨_,rfl,rfl,k1,.inl k2⟩
  ·obtain⟨q5,q6⟩:=Ch (x:=pos+1 - 1) OM hp
   have hX:0≤y1 * 131+y2 * 1117+ (pos+1 - 1) * 29+ (pos+1 - 1).tdiv ↑(l.map b1T).length * 53∧y1 * 131+y2 * 1117+ (pos+1 - 1) * 29+ (pos+1 - 1).tdiv ↑(l.map b1T).length * 53 < 1099511627776:=by omega
   obtain⟨q7,q8⟩:=Ch (n:=64) hX.1 OM
   obtain⟨k1,k2⟩:=tX (n:=n) (WR hX.1 hX.2 (y:=IntKind.i64.wrap ((y1 * 131+y2 * 1117+ (pos+1 - 1) * 29+ (pos+1 - 1).tdiv ↑(l.map b1T).length * 53).tdiv 64)) (by rw[wO];omega) (by rw[wO];omega)) OM
   exact⟨_,rfl,rfl,k1,.inl k2⟩
theorem Cw(l:List Int)(pos n:Int)(h:dN l∧0≤pos∧pos≤1048576∧n≤1048576):∃ v,F eT [.ptr (rdC l pos),.val (.i n)] (.i v) [rdC l (pos+1),[]]∧0≤v∧(v < n∨v = 0):=by
 obtain⟨res,outs,⟨v,rfl,rfl,h0⟩,hF⟩:=Xo l pos n h.1 h.2.1 h.2.2.1 h.2.2.2
 exact⟨v,hF,h0⟩
open Classical in
noncomputable def ac(l:List Int)(pos n:Int):Int:=if h:dN l∧0≤pos∧pos≤1048576∧n≤1048576 then(Cw l pos n h).choose else 0
theorem aa(l:List Int)(pos n:Int)(hl:dN l)(h0:0≤pos)(h1:pos≤1048576)(hn:n≤1048576):F eT [.ptr (rdC l pos),.val (.i n)] (.i (ac l pos n)) [rdC l (pos+1),[]]:=by
 have h:dN l∧0≤pos∧pos≤1048576∧n≤1048576:=⟨hl,h0,h1,hn⟩
 rw[ac,dif_pos h]
 exact(Cw l pos n h).choose_spec.1
theorem aj(l:List Int)(pos n:Int):0≤ac l pos n∧(ac l pos n < n∨ac l pos n = 0):=by
 unfold ac
 split
 ·rename_i h;exact(Cw l pos n h).choose_spec.2
 ·exact⟨Int.le_refl _,.inr rfl⟩
end Go.K
end
section
open Go Go.Tm Go.Proofs
namespace Go.K
structure Message where
 kind:Int
 frm:Int
 to:Int
 epoch:Int
 lease:Int
 task:Int
 text:ByteArray
 inputs:List ByteArray
 deriving DecidableEq
abbrev aL(x:Message):List T:=[.i x.kind,.i x.frm,.i x.to,.i x.epoch,.i x.lease,.i x.task,.s x.text,.slc [false] (x.inputs.map ai)]
abbrev eS(x:Message):V:=.agg [.t (.i x.kind),.t (.i x.frm),.t (.i x.to),.t (.i x.epoch),.t (.i x.lease),.t (.i x.task),.t (.s x.text),.t (.slc [false] (x.inputs.map ai))]
abbrev bx(x:Message):V:=.agg [.t (.i x.kind),.t (.i x.frm),.t (.i x.to),.t (.i x.epoch),.t (.i x.lease),.t (.i x.task),.t (.s x.text),.own [false] (x.inputs.map ai)]
abbrev cS:List Bool:=[false,false,false,false,false,false,false,true]
abbrev PN:Message:=⟨0,0,0,0,0,0,emp,[]⟩
def qa(s:ByteArray):ByteArray:=bl (beL (gH h0v s) 8)
theorem dY(s:ByteArray):(qa s).size = 8:=by unfold qa;rw[gQ,qR]
def nul:ByteArray:=⟨#[0]⟩
def fH(body key:ByteArray):ByteArray:=qa (key++nul++body)
theorem Sx(body key:ByteArray):bl (beL (gH (gH (gH h0v key) nul) body) 8) = fH body key:=by unfold fH qa;rw[uu,uu]
theorem K0(v:Int)(s:ByteArray)(h:0≤v∧v≤18446744073709551615):0≤gH v s∧gH v s≤18446744073709551615:=BO _ _ h
theorem o5(body key:ByteArray)(h1:body.size≤9223372036854775807)(h2:key.size≤9223372036854775807):F Jg [.val (.s body),.val (.s key)] (.s (fH body key)) [[],[]]:=by
 have hb:=K0 (gH (gH h0v key) nul) body (K0 _ _ (Ok key))
 have e1:=g9 h0v key
 have e2:=g9 (gH h0v key) nul
 have e3:=g9 (gH (gH h0v key) nul) body
 have c1:=dz h0v key h2
 rw[e1]at c1
 have c2:=dz (gH h0v key) nul (by decide)
 rw[e2]at c2
 have c3:=dz (gH (gH h0v key) nul) body h1
 rw[e3]at c3
 have c4:=mr (gH (gH (gH h0v key) nul) body) hb.1 hb.2
 rw[Sx]at c4
 refine Jw ?_
 conv=>whnf
 refine g 0 0 []<|J UA<|g 0 0 []<|J UV<|g 6 8 [.call (V.tup []) ([[u8v (gH h0v key)],[]])]<|J QZ<|g 1 2 [.call (V.tup []) ([[u8v (gH (gH h0v key) nul)],[]])]<|J QZ<|g 0 1 [.call (V.tup []) ([[u8v (gH (gH (gH h0v key) nul) body)],[]])]<|J QZ<|g 10 13 [.call (V.s (fH body key)) [[]]]<|J QZ<|RT ?_
 rfl
def bL(m:Message):Prop:=(1≤m.epoch∧m.epoch≤300)∧
 ((m.kind = 1∧m.frm = 0∧(1≤m.to∧m.to≤8)∧(1≤m.lease∧m.lease≤300000000)∧(0≤m.task∧m.task≤39)∧m.text = emp∧fb m.inputs)∨
  (m.kind = 2∧m.to = 0∧(1≤m.frm∧m.frm≤8)∧(1≤m.lease∧m.lease≤300000000)∧m.task = 0∧m.text = emp∧(m.inputs.length:Int) = 0)∨
  (m.kind = 3∧m.to = 0∧(1≤m.frm∧m.frm≤8)∧(1≤m.lease∧m.lease≤300000000)∧(0≤m.task∧m.task≤39)∧(m.text.size:Int) = 8∧(m.inputs.length:Int) = 0)∨
  (m.kind = 4∧m.frm = 0∧(1≤m.to∧m.to≤8)∧(1≤m.lease∧m.lease≤300000000)∧m.task = 0∧m.text = emp∧(m.inputs.length:Int) = 0)∨
  (m.kind = 5∧m.to = 0∧(1≤m.frm∧m.frm≤8)∧m.lease = 0∧m.task = 0∧m.text = emp∧(m.inputs.length:Int) = 0))
instance (m:Message):Decidable (bL m):=by unfold bL;infer_instance
theorem cO(m:Message)(hl:m.inputs.length≤9223372036854775806):F od [.val (eS m)] (.b (decide (bL m))) [[]]:=by
 refine om ?_
 conv=>whnf
 refine g 0 1 []<|J QZ<|g 0 0 []<|J UE<|Ws<|g 0 0 []<|J UB<|Wb<|g 13 14 []<|J UB<|Wc<|JD (fun h1=>?_) fun h1=>?_
 refine rg []<|J UD<|gd 11 26 [[],[],[],[],[],[]] ?_
 conv=>whnf
 refine J UF<|J KR<|Ws<|g 0 0 []<|J UA<|Wc<|J (fun _=>(rgd [[],[],[],[],[],[]] ?_)) (noF rfl)
 conv=>whnf
 refine⟨UF,by kernel_rfl,?_⟩
 refine Ws ?_
 by_cases h2:Message.frm m = (0:Int)
 by_cases h3:(1:Int)≤Message.to m∧Message.to m≤(8:Int)
 refine g 26 43 [BF,BF,.call (V.b (decide (1≤m.to∧m.to≤8))) [[],[],[]],BF,BF,BF,BF,BF,.call (V.b (decide (1≤m.epoch∧m.epoch≤300))) [[],[],[]],BF,BF]<|J (QA @ah)<|Wc<|JN (fun h4=>?_) fun h4=>?_
 refine g 8 9 []<|J UA<|RT ?_
 rotate_left
 refine Wk<|Ws ?_
 by_cases h5:(1:Int)≤Message.lease m∧Message.lease m≤(300000000:Int)
 refine g 43 59 (BT::BT::BT::.call (V.b (decide (1≤m.lease∧m.lease≤300000000))) [[],[],[]]::BT::BT::(RL 9 BF []))<|J (QA @ah)<|Wc<|J (noT rfl) fun _=>Wk<|Ws ?_
 by_cases h6:(0:Int)≤Message.task m∧Message.task m≤(39:Int)
 refine g 59 75 (BT::BT::BT::.call (V.b (decide (0≤m.task∧m.task≤39))) [[],[],[]]::BT::BT::(RL 9 BF []))<|J (QA @ah)<|Wc<|J (noT rfl) fun _=>Wk<|Ws<|g 10 91 (RL 8 BF [BT,BT,BT,BF,BT,BF])<|J QZ<|Wc<|JN (fun h7=>?_) fun h7=>?_
 refine g 7 9 []<|J UA<|RT ?_
 rotate_left
 refine Wk ?_
 by_cases h8:fb (Message.inputs m)
 refine g 5 108 [BT,BT,BT,.call (V.b (decide (fb m.inputs))) [[]],BT,BT,BT,BT,BF,BF,BF,BF,BT,BT]<|J (QA @iV)<|RT ?_
 rotate_left
 refine g 5 108 (BT::BT::BT::.call (V.b (decide (fb m.inputs))) [[]]::BT::(RL 10 BF []))<|J (QA @iV)<|RT ?_
 rotate_left
 refine g 59 75 [BT,BT,BT,.call (V.b (decide (0≤m.task∧m.task≤39))) [[],[],[]],BT,BT,BT,BT,BT,BF,BF,BF,BT,BT]<|J (QA @ah)<|Wc<|J (fun _=>(g 3 4 []<|J UA (RT ?_))) (noF rfl)
 rotate_left
 refine g 43 59 [BT,BT,BT,.call (V.b (decide (1≤m.lease∧m.lease≤300000000))) [[],[],[]],BT,BT,BT,BT,BT,BF,BF,BF,BT,BT]<|J (QA @ah)<|Wc<|J (fun _=>(g 3 4 []<|J UA (RT ?_))) (noF rfl)
 rotate_left
 refine g 26 43 [BF,BF,.call (V.b (decide (1≤m.to∧m.to≤8))) [[],[],[]],BF,BF,BT,BT,BT,BT,BT]<|J (QA @ah)<|Wc<|J (fun _=>(g 8 9 []<|J UA (RT ?_))) (noF rfl)
 rotate_left
 refine g 26 43 (RL 9 BT [])<|J QZ<|Wc<|J (fun _=>(g 8 9 []<|J UA (RT ?_))) (noF rfl)
 rotate_left
 refine g 12 13 []<|J UB<|Wc<|JD (fun h2=>?_) fun h2=>?_
 refine rg []<|J UA<|gd 11 26 [[],[],[],[],[],[]] ?_
 conv=>whnf
 refine J UF<|J KR<|Ws<|g 0 0 []<|J UA<|Wc<|J (noT rfl) fun _=>Wk<|Ws ?_
 by_cases h3:Message.to m = (0:Int)
 by_cases h4:(1:Int)≤Message.frm m∧Message.frm m≤(8:Int)
 refine g 26 43 [BF,BF,.call (V.b (decide (1≤m.frm∧m.frm≤8))) [[],[],[]],BF,BF,BF,BF,BF,.call (V.b (decide (1≤m.epoch∧m.epoch≤300))) [[],[],[]],BF,BF]<|J (QA @ah)<|Wc<|JN (fun h5=>?_) fun h5=>?_
 refine g 8 9 []<|J UA<|RT ?_
 rotate_left
 refine Wk<|Ws ?_
 by_cases h6:(1:Int)≤Message.lease m∧Message.lease m≤(300000000:Int)
 refine g 43 59 (BT::BT::BT::.call (V.b (decide (1≤m.lease∧m.lease≤300000000))) [[],[],[]]::BT::BT::(RL 9 BF []))<|J (QA @ah)<|Wc<|J (noT rfl) fun _=>Wk<|Ws<|g 59 75 (RL 8 BF [BT,BT,BT,BF,BT,BF])<|J QZ<|Wc<|JN (fun h7=>?_) fun h7=>?_
 refine g 3 4 []<|J UA<|RT ?_
 rotate_left
 refine Wk<|Ws<|g 10 91 (RL 8 BF [BT,BT,BT,BF,BT,BF])<|J QZ<|Wc<|JN (fun h8=>?_) fun h8=>?_
 refine g 7 9 []<|J UA<|RT ?_
 rotate_left
 refine Wk<|g 5 108 (RL 7 BF [BT,BT,BT,BT,BF,BT,BF])<|J QZ<|RT ?_
 rotate_left
 refine g 43 59 [BT,BT,BT,.call (V.b (decide (1≤m.lease∧m.lease≤300000000))) [[],[],[]],BT,BT,BT,BT,BT,BF,BF,BF,BT,BT]<|J (QA @ah)<|Wc<|J (fun _=>(g 3 4 []<|J UA (RT ?_))) (noF rfl)
 rotate_left
 refine g 26 43 [BF,BF,.call (V.b (decide (1≤m.frm∧m.frm≤8))) [[],[],[]],BF,BF,BT,BT,BT,BT,BT]<|J (QA @ah)<|Wc<|J (fun _=>(g 8 9 []<|J UA (RT ?_))) (noF rfl)
 rotate_left
 refine g 26 43 (RL 9 BT [])<|J QZ<|Wc<|J (fun _=>(g 8 9 []<|J UA (RT ?_))) (noF rfl)
 rotate_left
 refine g 14 16 []<|J UB<|Wc<|JD (fun h3=>?_) fun h3=>?_
 refine rg []<|J UC<|gd 11 26 [[],[],[],[],[],[]] ?_
 conv=>whnf
 refine J UF<|J KR<|Ws<|g 0 0 []<|J UA<|Wc<|J (noT rfl) fun _=>Wk<|Ws ?_
 by_cases h4:Message.to m = (0:Int)
 by_cases h5:(1:Int)≤Message.frm m∧Message.frm m≤(8:Int)
 refine g 26 43 [BF,BF,.call (V.b (decide (1≤m.frm∧m.frm≤8))) [[],[],[]],BF,BF,BF,BF,BF,.call (V.b (decide (1≤m.epoch∧m.epoch≤300))) [[],[],[]],BF,BF]<|J (QA @ah)<|Wc<|JN (fun h6=>?_) fun h6=>?_
 refine g 8 9 []<|J UA<|RT ?_
 rotate_left
 refine Wk<|Ws ?_
 by_cases h7:(1:Int)≤Message.lease m∧Message.lease m≤(300000000:Int)
 refine g 43 59 (BT::BT::BT::.call (V.b (decide (1≤m.lease∧m.lease≤300000000))) [[],[],[]]::BT::BT::(RL 9 BF []))<|J (QA @ah)<|Wc<|J (noT rfl) fun _=>Wk<|Ws ?_
 by_cases h8:(0:Int)≤Message.task m∧Message.task m≤(39:Int)
 refine g 59 75 (BT::BT::BT::.call (V.b (decide (0≤m.task∧m.task≤39))) [[],[],[]]::BT::BT::(RL 9 BF []))<|J (QA @ah)<|Wc<|J (noT rfl) fun _=>Wk<|Ws ?_
 by_cases h9:(↑(ByteArray.size (Message.text m)):Int) = (8:Int)
 refine g 10 91 (BT::BT::BT::BT::BT::(RL 9 BF []))<|J QZ<|Wc<|J (noT rfl) fun _=>Wk<|g 5 108 (RL 7 BF [BT,BT,BT,BT,BF,BT,BF])<|J QZ<|RT ?_
 rotate_left
 refine g 10 91 (RL 8 BT [BF,BF,BF,BT,BT])<|J QZ<|Wc<|J (fun _=>(g 7 9 []<|J UA (RT ?_))) (noF rfl)
 rotate_left
 refine g 59 75 [BT,BT,BT,.call (V.b (decide (0≤m.task∧m.task≤39))) [[],[],[]],BT,BT,BT,BT,BT,BF,BF,BF,BT,BT]<|J (QA @ah)<|Wc<|J (fun _=>(g 3 4 []<|J UA (RT ?_))) (noF rfl)
 rotate_left
 refine g 43 59 [BT,BT,BT,.call (V.b (decide (1≤m.lease∧m.lease≤300000000))) [[],[],[]],BT,BT,BT,BT,BT,BF,BF,BF,BT,BT]<|J (QA @ah)<|Wc<|J (fun _=>(g 3 4 []<|J UA (RT ?_))) (noF rfl)
 rotate_left
 refine g 26 43 [BF,BF,.call (V.b (decide (1≤m.frm∧m.frm≤8))) [[],[],[]],BF,BF,BT,BT,BT,BT,BT]<|J (QA @ah)<|Wc<|J (fun _=>(g 8 9 []<|J UA (RT ?_))) (noF rfl)
 rotate_left
 refine g 26 43 (RL 9 BT [])<|J QZ<|Wc<|J (fun _=>(g 8 9 []<|J UA (RT ?_))) (noF rfl)
 rotate_left
 refine g 16 18 []<|J UB<|Wc<|JD (fun h4=>?_) fun h4=>?_
 refine rg []<|J UB<|gd 11 26 [[],[],[],[],[],[]] ?_
 conv=>whnf
 refine J UF<|J KR<|Ws<|g 0 0 []<|J UA<|Wc<|J (fun _=>(rgd [[],[],[],[],[],[]] ?_)) (noF rfl)
 conv=>whnf
 refine⟨UF,by kernel_rfl,?_⟩
 refine Ws ?_
 by_cases h5:Message.frm m = (0:Int)
 by_cases h6:(1:Int)≤Message.to m∧Message.to m≤(8:Int)
 refine g 26 43 [BF,BF,.call (V.b (decide (1≤m.to∧m.to≤8))) [[],[],[]],BF,BF,BF,BF,BF,.call (V.b (decide (1≤m.epoch∧m.epoch≤300))) [[],[],[]],BF,BF]<|J (QA @ah)<|Wc<|JN (fun h7=>?_) fun h7=>?_
 refine g 8 9 []<|J UA<|RT ?_
 rotate_left
 refine Wk<|Ws ?_
 by_cases h8:(1:Int)≤Message.lease m∧Message.lease m≤(300000000:Int)
 refine g 43 59 (BT::BT::BT::.call (V.b (decide (1≤m.lease∧m.lease≤300000000))) [[],[],[]]::BT::BT::(RL 9 BF []))<|J (QA @ah)<|Wc<|J (noT rfl) fun _=>Wk<|Ws<|g 59 75 (RL 8 BF [BT,BT,BT,BF,BT,BF])<|J QZ<|Wc<|JN (fun h9=>?_) fun h9=>?_
 refine g 3 4 []<|J UA<|RT ?_
 rotate_left
 refine Wk<|Ws<|g 10 91 (RL 8 BF [BT,BT,BT,BF,BT,BF])<|J QZ<|Wc<|JN (fun h10=>?_) fun h10=>?_
 refine g 7 9 []<|J UA<|RT ?_
 rotate_left
 refine Wk<|g 5 108 (RL 7 BF [BT,BT,BT,BT,BF,BT,BF])<|J QZ<|RT ?_
 rotate_left
 refine g 43 59 [BT,BT,BT,.call (V.b (decide (1≤m.lease∧m.lease≤300000000))) [[],[],[]],BT,BT,BT,BT,BT,BF,BF,BF,BT,BT]<|J (QA @ah)<|Wc<|J (fun _=>(g 3 4 []<|J UA (RT ?_))) (noF rfl)
 rotate_left
 refine g 26 43 [BF,BF,.call (V.b (decide (1≤m.to∧m.to≤8))) [[],[],[]],BF,BF,BT,BT,BT,BT,BT]<|J (QA @ah)<|Wc<|J (fun _=>(g 8 9 []<|J UA (RT ?_))) (noF rfl)
 rotate_left
 refine g 26 43 (RL 9 BT [])<|J QZ<|Wc<|J (fun _=>(g 8 9 []<|J UA (RT ?_))) (noF rfl)
 rotate_left
 refine g 11 20 []<|J UB<|Wc<|JD (fun h5=>?_) fun h5=>?_
 refine Wk<|gd 20 26 [[],[],[],[],[],[]] ?_
 conv=>whnf
 refine J UF<|J KR<|Ws<|g 0 0 []<|J UA<|Wc<|J (noT rfl) fun _=>Wk<|Ws ?_
 by_cases h6:Message.to m = (0:Int)
 by_cases h7:(1:Int)≤Message.frm m∧Message.frm m≤(8:Int)
 refine g 26 43 [BF,BF,.call (V.b (decide (1≤m.frm∧m.frm≤8))) [[],[],[]],BF,BF,BF,BF,BF,.call (V.b (decide (1≤m.epoch∧m.epoch≤300))) [[],[],[]],BF,BF]<|J (QA @ah)<|Wc<|JN (fun h8=>?_) fun h8=>?_
 refine g 8 9 []<|J UA<|RT ?_
 rotate_left
 refine Wk<|Ws<|g 43 59 (RL 8 BF [BT,BT,BT,BF,BT,BF])<|J QZ<|Wc<|JN (fun h9=>?_) fun h9=>?_
 refine g 3 4 []<|J UA<|RT ?_
 rotate_left
 refine Wk<|Ws<|g 59 75 (RL 8 BF [BT,BT,BT,BF,BT,BF])<|J QZ<|Wc<|JN (fun h10=>?_) fun h10=>?_
 refine g 3 4 []<|J UA<|RT ?_
 rotate_left
 refine Wk<|Ws<|g 10 91 (RL 8 BF [BT,BT,BT,BF,BT,BF])<|J QZ<|Wc<|JN (fun h11=>?_) fun h11=>?_
 refine g 7 9 []<|J UA<|RT ?_
 rotate_left
 refine Wk<|g 5 108 (RL 7 BF [BT,BT,BT,BT,BF,BT,BF])<|J QZ<|RT ?_
 rotate_left
 refine g 26 43 [BF,BF,.call (V.b (decide (1≤m.frm∧m.frm≤8))) [[],[],[]],BF,BF,BT,BT,BT,BT,BT]<|J (QA @ah)<|Wc<|J (fun _=>(g 8 9 []<|J UA (RT ?_))) (noF rfl)
 rotate_left
 refine g 26 43 (RL 9 BT [])<|J QZ<|Wc<|J (fun _=>(g 8 9 []<|J UA (RT ?_))) (noF rfl)
 rotate_left
 refine g 20 22 []<|J UA<|RT ?_
 rotate_left
 all_goals (try simp only[List.length_map,decide_eq_true_eq,Bool.not_eq_true,Bool.not_eq_true',decide_eq_false_iff_not]at *)
 all_goals first
  |exact vbf (by unfold bL;grind)
  |exact vbt (by unfold bL;grind)
  |exact vbd (by unfold bL;grind)
theorem tup5{a b c d e a' b' c' d' e':Bool}(h1:a = a')(h2:b = b')(h3:c = c')(h4:d = d')(h5:e = e'):V.tup [V.t (T.v (Value.bool a)),V.t (T.v (Value.bool b)),V.t (T.v (Value.bool c)),V.t (T.v (Value.bool d)),V.t (T.v (Value.bool e))] = V.tup [.b a',.b b',.b c',.b d',.b e']:=by subst h1;subst h2;subst h3;subst h4;subst h5;rfl
theorem qL(k:Int):F C8 [.val (.i k)] (.tup [.b (decide (1≤k∧k≤4)),.b (decide (k = 1∨k = 3)),.b (decide (k = 3)),.b (decide (k = 1)),.b (decide (k = 1∨k = 4))]) [[]]:=by
 refine DQ ?_
 conv=>whnf
 refine g 0 0 []<|J UE<|Ws<|g 0 1 []<|J UA<|Wb<|g 9 10 []<|J UB<|Wc<|JD (fun h1=>?_) fun h1=>?_
 refine g 7 9 []<|J UE<|RT ?_
 rotate_left
 refine g 8 9 []<|J UB<|Wc<|JD (fun h2=>?_) fun h2=>?_
 refine g 7 12 []<|J UE<|RT ?_
 rotate_left
 refine g 10 12 []<|J UB<|Wc<|JD (fun h3=>?_) fun h3=>?_
 refine g 7 14 []<|J UE<|RT ?_
 rotate_left
 refine g 7 14 []<|J UB<|Wc<|JD (fun h4=>?_) fun h4=>?_
 refine g 14 16 []<|J UE<|RT ?_
 rotate_left
 refine Wk<|g 14 16 []<|J UE<|RT ?_
 rotate_left
 all_goals exact tup5 (by grind) (by grind) (by grind) (by grind) (by grind)
end Go.K
end
section
open Go Go.Tm Go.Proofs
namespace Go.K
def dh(p:Plan):Prop:=p.tasks.length≤64∧∀ t∈p.tasks,t.name.size≤64∧t.deps.length≤64
def dD(n:Int):ByteArray:=if n < 10 then bl [48+n]else bl [48+n.tdiv 10] ++bl [48+n.tmod 10]
theorem gg(n:Int):(dD n).size≤2:=by
 unfold dD;split
 ·rw[gQ];simp
 ·rw[ByteArray.size_append,gQ,gQ];simp
theorem W2{n:Int}(h:0≤n):n.tdiv 10 = n / 10:=Int.tdiv_eq_ediv_of_nonneg h
theorem W1{n:Int}(h:0≤n):n.tmod 10 = n % 10:=Int.tmod_eq_emod_of_nonneg h
theorem VI(n:Int)(h0:0≤n)(h1:n < 10):F tw [.val (.i n)] (.s (dD n)) [[]]:=by
 have e:dD n = bl [48+n]:=if_pos h1
 refine tF ?_
 conv=>whnf
 refine g 0 0 []<|J UA<|Ws<|g 3 4 []<|J UB<|Wc<|J (noT dO) fun _=>Wk<|Ws<|g 4 5 []<|J UB<|Wc<|J (fun _=>(g 10 16 [.i (48+n),.i (48+n),.s ({data:=List.toArray (bV [[T.v (Value.int IntKind.u8 (48+n))]]):ByteArray})]<|J ⟨I,wO,wu8 OM OM,US,⟨I,(by repeat (first|exact kA|refine iX ?_)),rfl⟩,I,I⟩ ?_)) (noF tO)
 refine RT ?_
 rw[e];exact vs (uB [48+n])
theorem fU(n:Int)(h0:0≤n)(h1:n < 100):F tw [.val (.i n)] (.s (dD n)) [[]]:=by
 by_cases h2:n < 10
 ·exact VI n h0 h2
 ·have e:dD n = bl [48+n.tdiv 10] ++bl [48+n.tmod 10]:=if_neg h2
  have q1:=W2 h0
  have q2:=W1 h0
  have e2:dD (n.tdiv 10) = bl [48+n.tdiv 10]:=if_pos OM
  have c:=VI (n.tdiv 10) OM OM
  have hsz:=gg (n.tdiv 10)
  refine tF ?_
  conv=>whnf
  refine g 0 0 []<|J UA<|Ws<|g 3 4 []<|J UB<|Wc<|J (noT dO) fun _=>Wk<|Ws<|g 4 5 []<|J UB<|Wc<|J (noT dO) fun _=>Wk<|gd 10 26 [[],[.i (Int.tdiv n 10)],[.call (V.s (dD (Int.tdiv n 10))) [[]]],[],[.i (Int.tmod n 10)],[.i (48+Int.tmod n 10)],[.i (48+Int.tmod n 10)],[],[.s ({data:=List.toArray (bV [[T.v (Value.int IntKind.u8 (48+Int.tmod n 10))]]):ByteArray})],[.s (dD (Int.tdiv n 10) ++ {data:=List.toArray (bV [[T.v (Value.int IntKind.u8 (48+Int.tmod n 10))]]):ByteArray})],[]] ?_
  conv=>whnf
  refine J ⟨I,⟨OM,wO⟩,Zam,I,⟨OM,rfl⟩,wO,wu8 OM OM,US,⟨I,(by repeat (first|exact kA|refine iX ?_)),rfl⟩,⟨rfl,(by simp only[bsz,ByteArray.size_append,jY];omega)⟩,I,I⟩<|J KR ?_
  refine RT ?_
  rw[e,e2];exact vs (congrArg (bl [48+n.tdiv 10] ++·) (uB [48+n.tmod 10]))
theorem dS(l:List Int)(pos:Int)(hl:dN l)(h0:0≤pos)(h1:pos≤1048576):F zN [.ptr (rdC l pos)] (.s (qa (dD (ac l pos 50)))) [rdC l (pos+1)]:=by
 have hp:=aj l pos 50
 have c:=aa l pos 50 hl h0 h1 OM
 have cd:=fU (ac l pos 50) OM OM
 have hs:=gg (ac l pos 50)
 have cs:=nr (dD (ac l pos 50)) OM
 refine Af ?_
 conv=>whnf
 refine g 0 0 []<|J UA<|g 3 7 [.call (V.i (ac l pos 50)) ([rdC l (pos+1),[]]),.call (V.s (dD (ac l pos 50))) [[]],.call (V.s (bl (beL (nP h0v (dD (ac l pos 50)) (ByteArray.size (dD (ac l pos 50)))) 8))) [[]]]<|J QZ<|RT ?_
 rw[g9];rfl
theorem lL(p:Plan)(h:dh p):F Da [.val (cV p)] (eA p) [[]]:=by
 obtain⟨hp1,hp2⟩:=h
 refine DS ?_
 conv=>whnf
 refine g 0 0 []<|J QZ<|g 6 7 []<|J QZ<|Ws<|g 0 0 []<|J UA<|Wb<|Wl (fun s (n:Nat)=>⟨(SK s [0,1,2,3] [(4,.i n)]),[(1,[s.c 1 0]),(2,[s.c 2 0]),(34,[s.c 34 0]),(3,[.own cY ((p.tasks.take n).map ay)])],[]⟩) (fun(n:Nat)=>n≤p.tasks.length) (fun(n:Nat)=>p.tasks.length - n) (0) [some 1,some 2,some 34,some 3] [] FZ OM ?_
 intro n hn
 conv=>whnf
 refine Ws<|g 7 11 []<|J UE<|Wc<|JD (fun h1=>?_) fun h1=>?_
 simp only[LM]at h1
 refine Wk<|Ws<|Wb ?_
 obtain⟨y1,hy1⟩:=ae (xs:=Plan.tasks p) (n:=n) OM
 have hm1:=hp2 y1 (List.mem_of_getElem? hy1)
 refine g 11 19 [.x (ay y1)]<|J QZ<|rgd [[],[],[],[],[],[],[],[],[],[],[],[],[],[],[]] ?_
 conv=>whnf
 refine J QZ<|J KR<|rg [.i ((n:Int) +1)]<|J QZ ?_
 rotate_left
 simp only[LM]at h1
 refine We<|g 3 34 []<|J UV<|RT ?_
 rotate_left
 ·refine⟨n+1,[some 1,some 2,some 34,some 3],[],⟨rfl,FZ,⟨FZ,⟨FZ,⟨FZ,⟨⟨rfl,⟨(congrArg (V.own _) (pD AS)),I⟩⟩,I⟩⟩⟩⟩,I⟩,?_,?_⟩
  rotate_left
  (dsimp only;omega)
  dsimp only
  omega
 ·rw[aH OM]
theorem PX{m t:Int}(h:0≤m):(m / 2) * (t+t) = m * t - (m % 2) * t:=by
 have e:m * t = (2 * (m / 2) +m % 2) * t:=by rw[show 2 * (m / 2) +m % 2 = m by omega]
 rw[e,Int.add_mul,Int.mul_add,Int.mul_assoc,Int.two_mul];omega
theorem Xp(s:ByteArray)(n:Int)(h0:0≤n)(h1:n≤1000)(hns:n * (s.size:Int)≤4096):∃ res outs,(∃ t,res = .s t∧outs = [[],[]]∧(t.size:Int)≤4096)∧F iH [.val (.s s),.val (.i n)] res outs:=by
 refine CJ ?_
 conv=>whnf
 refine g 0 0 []<|J UA<|g 0 0 []<|J UA<|Ws<|Wb ?_
 refine Wl (fun s (x:ByteArray×ByteArray×Int)=>⟨[(0,.s x.2.1),(1,.i x.2.2),(4,s.s 4),(5,.s x.1)],[],[]⟩) (fun(x:ByteArray×ByteArray×Int)=>0≤x.2.2∧x.2.2≤1000∧(x.1.size:Int) +x.2.2 * x.2.1.size≤4096) (fun(x:ByteArray×ByteArray×Int)=>x.2.2.toNat) ((emp,s,n)) [] [] FZ ?_ ?_
 ·refine⟨h0,h1,?_⟩
  have:emp.size = 0:=rfl
  show((emp.size:Nat):Int) +n * s.size≤4096
  omega
 rintro⟨o,t,m⟩ ⟨hm0,hm1,hsz⟩
 dsimp only at hm0 hm1 hsz
 have q1:m.tdiv 2 = m / 2:=Int.tdiv_eq_ediv_of_nonneg hm0
 have q2:m.tmod 2 = m % 2:=Int.tmod_eq_emod_of_nonneg hm0
 have q3:=PX (t:=(t.size:Int)) hm0
 by_cases hm:0 < m
 ·have q4:=Int.mul_le_mul_of_nonneg_right (show 1≤m by omega) (show(0:Int)≤t.size by omega)
  rw[Int.one_mul]at q4
  by_cases ho:m.tmod 2 = 1
  ·have q5:m % 2 = 1:=by omega
   rw[q5,Int.one_mul]at q3
   conv=>whnf
   refine Ws<|g 6 7 []<|J UB<|Wc<|J (fun _=>(Wk (Wb (Ws (g 7 9 [.i (Int.tmod (Prod.snd (Prod.snd (o,t,m))) 2)]<|J QZ (Wc<|J (fun _=>(rg [.s (Prod.fst (o,t,m) ++Prod.fst (Prod.snd (o,t,m)))]<|J QZ (g 10 17 [.s (Prod.fst (Prod.snd (o,t,m)) ++Prod.fst (Prod.snd (o,t,m)))]<|J QZ (rg [.i (Int.tdiv (Prod.snd (Prod.snd (o,t,m))) 2)]<|J QZ ?_)))) (noF tO))))))) (noF tO)
   refine⟨(o++t,t++t,m / 2),[],[],⟨rfl,⟨rfl,(congrArg (fun z=>V.t (T.v (Value.int _ z))) (q1)),rfl,rfl,I⟩,I,I⟩,?_,?_⟩
   rotate_left
   (dsimp only;omega)
   dsimp only
   refine⟨by omega,by omega,?_⟩
   rw[ByteArray.size_append,ByteArray.size_append,Int.natCast_add,Int.natCast_add,q3];omega
  ·have q5:m % 2 = 0:=by omega
   rw[q5,Int.zero_mul]at q3
   conv=>whnf
   refine Ws<|g 6 7 []<|J UB<|Wc<|J (fun _=>(Wk (Wb (Ws (g 7 9 [.i (Int.tmod (Prod.snd (Prod.snd (o,t,m))) 2)]<|J QZ (Wc<|J (noT dO) fun _=>(Wk (g 10 17 [.s (Prod.fst (Prod.snd (o,t,m)) ++Prod.fst (Prod.snd (o,t,m)))]<|J QZ (rg [.i (Int.tdiv (Prod.snd (Prod.snd (o,t,m))) 2)]<|J QZ ?_))))))))) (noF tO)
   refine⟨(o,t++t,m / 2),[],[],⟨rfl,⟨rfl,(congrArg (fun z=>V.t (T.v (Value.int _ z))) (q1)),rfl,rfl,I⟩,I,I⟩,?_,?_⟩
   rotate_left
   (dsimp only;omega)
   dsimp only
   refine⟨by omega,by omega,?_⟩
   rw[ByteArray.size_append,Int.natCast_add,q3];omega
 ·conv=>whnf
  refine Ws<|g 6 7 []<|J UB<|Wc<|J (noT dO) fun _=>We<|g 5 20 []<|J UB<|W.ret<|EndsW.rt<|J UB ?_
  rw[show m = 0 by omega,Int.zero_mul]at hsz
  exact⟨o,rfl,rfl,by omega⟩
theorem Xr(l:List Int)(pos:Int)(hl:dN l)(h0:0≤pos)(h1:pos≤1000000):∃ res outs,(∃ p pos2,res = eA p∧outs = [rdC l pos2]∧dh p∧1≤p.tasks.length∧pos≤pos2∧pos2≤pos+4000)∧F ly [.ptr (rdC l pos)] res outs:=by
 have hp1:=aj l pos 6
 have hp2:=aj l (pos+1) 12
 by_cases h12:ac l (pos+1) 12 = 0
 ·refine pY ?_
  conv=>whnf
  refine g 0 0 []<|J UA<|g 9 11 [.call (V.i (ac l pos 6)) ([rdC l (pos+1),[]]),.i (1+ac l pos 6)]<|J (QA @aa)<|Ws<|g 11 13 [.call (V.i (ac l (pos+1) 12)) ([rdC l (pos+1+1),[]])]<|J (QA @aa)<|Wc<|J (fun _=>(rg []<|J UA (g 13 15 []<|J QZ (Ws (g 0 0 []<|J UA (Wb (Wl (fun s (x:Nat×List Task×Int)=>⟨(SK s [0,2,3,4] [(5,.i x.1),(8,s.s 8)]),[(2,[s.c 2 0]),(69,[.t (u8s l),.t (.i x.2.2)]),(4,[.own cY (x.2.1.map ay)])],[]⟩) (fun(x:Nat×List Task×Int)=>(x.1:Int)≤40∧x.2.1.length = x.1∧(∀ t∈x.2.1,t.name.size≤64∧t.deps.length≤64)∧pos+2≤x.2.2∧x.2.2≤pos+2+90 * x.1) (fun(x:Nat×List Task×Int)=>((40:Int) - x.1).toNat) ((0,[],pos+2)) [some 2,some 69,some 4] [] ⟨rfl,FZ,⟨FZ,⟨⟨rfl,⟨rfl,⟨(congrArg (fun z=>V.t (T.v (Value.int _ z))) (by show pos+1+1 = pos+2;omega)),I⟩⟩⟩,FZ⟩⟩,I⟩ (by simp) ?_))))))) (noF tO)
  rintro⟨i,ts,q⟩ ⟨hi,hlen,hsm,hq1,hq2⟩
  dsimp only at hi hlen hsm hq1 hq2
  have p5:=aj l q 5
  have p8:=aj l (q+1) 8
  by_cases hi2:(i:Int) < 40
  ·have cd:=fU i OM OM
   have hds:=gg i
   by_cases h8:ac l (q+1) 8 = 0
   ·skip
    conv=>whnf
    refine Ws<|g 15 17 []<|J UC<|Wc<|J (fun _=>(Wk (Ws (Wb (g 17 27 [.call (V.s (dD (i:Int))) [[]],.s ({data:=#[(116:UInt8)]:ByteArray} ++dD (i:Int)),.call (V.i (ac l q 5)) ([rdC l (q+1),[]]),.i (1+ac l q 5)]<|J ⟨I,Zam,⟨rfl,(by simp only[bsz,bsa,ByteArray.size_append,List.size_toArray,jY];omega)⟩,I,⟨UB,I,UV,UA,aa _ _ _ OX OX OX OX⟩,wO,I,I,UC,I⟩ (Ws (g 27 29 [.call (V.i (ac l (q+1) 8)) ([rdC l (q+1+1),[]])]<|J (QA @aa) (Wc<|J (fun _=>(rg []<|J UV (Ws ?_))) (noF tO))))))))) (noF tO)
    refine g 29 31 []<|J UA<|Wb<|Wl (fun s (y:Nat×List Int×Int)=>⟨(SK s [0,2,3,4,5,6] [(7,.i y.1),(8,s.s 8)]),[(2,[s.c 2 0]),(4,[s.c 4 0]),(69,[.t (u8s l),.t (.i y.2.2)]),(6,[.t (.s ((⟨#[116]⟩:ByteArray) ++dD i)),.t (.i (20)),.own [false] (y.2.1.map ef)])],[]⟩) (fun(y:Nat×List Int×Int)=>y.1≤i∧y.2.1.length≤y.1∧y.2.1.length≤8∧q+2≤y.2.2∧y.2.2≤q+2+2 * y.1) (fun(y:Nat×List Int×Int)=>i - y.1) ((0,[],q+2)) [some 2,some 4,some 69,some 6] [] ⟨rfl,FZ,⟨FZ,⟨FZ,⟨⟨rfl,⟨rfl,⟨(congrArg (fun z=>V.t (T.v (Value.int _ z))) (by show q+1+1 = q+2;omega)),I⟩⟩⟩,FZ⟩⟩⟩,I⟩ (by simp) ?_
    rintro⟨k,ds,u⟩ ⟨g1,g2,g3,g4,g5⟩
    dsimp only at g1 g2 g3 g4 g5
    have p3:=aj l u 3
    have p2:=aj l (u+1) 2
    by_cases hk:k < i
    ·by_cases hd:ds.length < 8
     ·by_cases h3:ac l u 3 = 0
      ·conv=>whnf
       refine Ws<|g 35 39 [BT,BT,BT,BT,BT]<|J QZ<|Wc<|JD (fun h2=>?_) fun h2=>?_
       simp only[LM]at h2
       refine Wk<|Ws<|Wb<|g 39 55 [.call (V.i (ac l u 3)) ([rdC l (u+1),[]]),BT,BT,BT,BT,BT,BF,BF,BF,BT,BT]<|J (QA @aa)<|Wc<|J (fun _=>(rg []<|J QZ (rg [.i ((↑(Prod.fst (k,ds,u)):Int) +1)]<|J QZ ?_))) (noF rfl)
       rotate_left
       simp only[LM]at h2
       omega
       refine⟨(k+1,ds++ [(k:Int)],u+1),[some 2,some 4,some 69,some 6],[],⟨rfl,FZ,⟨FZ,⟨FZ,⟨FZ,⟨⟨rfl,⟨rfl,⟨rfl,⟨(congrArg (V.own _) (by rw[List.map_append];rfl)),I⟩⟩⟩⟩,I⟩⟩⟩⟩,I⟩,?_,?_⟩
       rotate_left
       (dsimp only;omega)
       dsimp only
       exact⟨by omega,by rw[List.length_append];simp;omega,by rw[List.length_append];simp;omega,by first|omega|(dsimp only;omega),by first|omega|(dsimp only;omega)⟩
      ·by_cases hki:(k:Int) = (i:Int) - 1
       ·by_cases h2:ac l (u+1) 2 = 0
        ·conv=>whnf
         refine Ws<|g 35 39 [BT,BT,BT,BT,BT]<|J QZ<|Wc<|JD (fun h4=>?_) fun h4=>?_
         simp only[LM]at h4
         refine Wk<|Ws<|Wb<|g 39 55 [.call (V.i (ac l u 3)) ([rdC l (u+1),[]]),BF,BF,BF,.i ((↑(Prod.fst (i,ts,q)):Int) - 1),BF,BF,BT,BT,.call (V.i (ac l (u+1) 2)) ([rdC l (u+1+1),[]]),BT,BF,BT,BF]<|J (QA @aa)<|Wc<|J (fun _=>(rg []<|J QZ (rg [.i ((↑(Prod.fst (k,ds,u)):Int) +1)]<|J QZ ?_))) (noF tO)
         rotate_left
         simp only[LM]at h4
         omega
         refine⟨(k+1,ds++ [(k:Int)],u+2),[some 2,some 4,some 69,some 6],[],⟨rfl,FZ,⟨FZ,⟨FZ,⟨⟨rfl,⟨rfl,⟨(congrArg (fun z=>V.t (T.v (Value.int _ z))) (by show u+1+1 = u+2;omega)),I⟩⟩⟩,⟨⟨rfl,⟨rfl,⟨rfl,⟨(congrArg (V.own _) (by rw[List.map_append];rfl)),I⟩⟩⟩⟩,I⟩⟩⟩⟩,I⟩,?_,?_⟩
         rotate_left
         (dsimp only;omega)
         dsimp only
         exact⟨by omega,by rw[List.length_append];simp;omega,by rw[List.length_append];simp;omega,by first|omega|(dsimp only;omega),by first|omega|(dsimp only;omega)⟩
        ·conv=>whnf
         refine Ws<|g 35 39 [BT,BT,BT,BT,BT]<|J QZ<|Wc<|JD (fun h4=>?_) fun h4=>?_
         simp only[LM]at h4
         refine Wk<|Ws<|Wb<|g 39 55 [.call (V.i (ac l u 3)) ([rdC l (u+1),[]]),BF,BF,BF,.i ((↑(Prod.fst (i,ts,q)):Int) - 1),BF,BF,BT,BT,.call (V.i (ac l (u+1) 2)) ([rdC l (u+1+1),[]]),BT,BF,BT,BF]<|J (QA @aa)<|Wc<|J (noT dO) fun _=>Wk<|rg [.i ((↑(Prod.fst (k,ds,u)):Int) +1)]<|J QZ ?_
         rotate_left
         simp only[LM]at h4
         omega
         refine⟨(k+1,ds,u+2),[some 2,some 4,some 69,some 6],[],⟨rfl,FZ,⟨FZ,⟨FZ,⟨⟨rfl,⟨rfl,⟨(congrArg (fun z=>V.t (T.v (Value.int _ z))) (by show u+1+1 = u+2;omega)),I⟩⟩⟩,FZ⟩⟩⟩,I⟩,?_,?_⟩
         rotate_left
         (dsimp only;omega)
         dsimp only
         omega
       ·conv=>whnf
        refine Ws<|g 35 39 [BT,BT,BT,BT,BT]<|J QZ<|Wc<|JD (fun h2=>?_) fun h2=>?_
        simp only[LM]at h2
        refine Wk<|Ws<|Wb<|g 39 55 (.call (V.i (ac l u 3)) ([rdC l (u+1),[]])::BF::BF::BF::.i ((↑(Prod.fst (i,ts,q)):Int) - 1)::(RL 8 BF []))<|J (QA @aa)<|Wc<|J (noT rfl) fun _=>Wk<|rg [.i ((↑(Prod.fst (k,ds,u)):Int) +1)]<|J QZ ?_
        rotate_left
        simp only[LM]at h2
        omega
        refine⟨(k+1,ds,u+1),[some 2,some 4,some 69,some 6],[],FZ,?_,?_⟩
        rotate_left
        (dsimp only;omega)
        dsimp only
        omega
     ·conv=>whnf
      refine Ws<|g 35 39 [BT,BT,BT,BT,BT]<|J QZ<|Wc<|J (fun h2=>?_) fun h2=>?_
      replace h2:=dt h2
      simp only[LM]at h2
      omega
      replace h2:=df h2
      simp only[LM]at h2
      refine We<|rg []<|J QZ<|rg [.i ((↑(Prod.fst (i,ts,q)):Int) +1)]<|J QZ ?_
      refine⟨(i+1,ts++ [(⟨((⟨#[116]⟩:ByteArray) ++dD i),20,ds⟩:Task)],u),[some 2,some 69,some 4],[],⟨rfl,FZ,⟨FZ,⟨FZ,⟨⟨rfl,⟨(congrArg (V.own _) (by rw[List.map_append];rfl)),I⟩⟩,I⟩⟩⟩,I⟩,?_,?_⟩
      rotate_left
      (dsimp only;omega)
      dsimp only
      refine⟨by first|omega|(dsimp only;omega),by rw[List.length_append];simp;omega,fun t ht=>?_,by first|omega|(dsimp only;omega),by first|omega|(dsimp only;omega)⟩
      rcases List.mem_append.1 ht with ht|ht
      ·exact hsm t ht
      ·rw[List.mem_singleton.1 ht]
       refine⟨?_,by first|omega|(dsimp only;omega)⟩
       show(((⟨#[116]⟩:ByteArray) ++dD i).size)≤64
       rw[ByteArray.size_append]
       have:(⟨#[116]⟩:ByteArray).size = 1:=rfl
       omega
    ·conv=>whnf
     refine Ws<|g 35 39 [BF,BF,BF,BF,BF]<|J QZ<|Wc<|J (noT rfl) fun _=>We<|rg []<|J QZ<|rg [.i ((↑(Prod.fst (i,ts,q)):Int) +1)]<|J QZ ?_
     refine⟨(i+1,ts++ [(⟨((⟨#[116]⟩:ByteArray) ++dD i),20,ds⟩:Task)],u),[some 2,some 69,some 4],[],⟨rfl,FZ,⟨FZ,⟨FZ,⟨⟨rfl,⟨(congrArg (V.own _) (by rw[List.map_append];rfl)),I⟩⟩,I⟩⟩⟩,I⟩,?_,?_⟩
     rotate_left
     (dsimp only;omega)
     dsimp only
     refine⟨by first|omega|(dsimp only;omega),by rw[List.length_append];simp;omega,fun t ht=>?_,by first|omega|(dsimp only;omega),by first|omega|(dsimp only;omega)⟩
     rcases List.mem_append.1 ht with ht|ht
     ·exact hsm t ht
     ·rw[List.mem_singleton.1 ht]
      refine⟨?_,by first|omega|(dsimp only;omega)⟩
      show(((⟨#[116]⟩:ByteArray) ++dD i).size)≤64
      rw[ByteArray.size_append]
      have:(⟨#[116]⟩:ByteArray).size = 1:=rfl
      omega
   ·skip
    conv=>whnf
    refine Ws<|g 15 17 []<|J UC<|Wc<|J (fun _=>(Wk (Ws (Wb (g 17 27 [.call (V.s (dD (i:Int))) [[]],.s ({data:=#[(116:UInt8)]:ByteArray} ++dD (i:Int)),.call (V.i (ac l q 5)) ([rdC l (q+1),[]]),.i (1+ac l q 5)]<|J ⟨I,Zam,⟨rfl,(by simp only[bsz,bsa,ByteArray.size_append,List.size_toArray,jY];omega)⟩,I,⟨UB,I,UV,UA,aa _ _ _ OX OX OX OX⟩,wO,I,I,UC,I⟩ (Ws (g 27 29 [.call (V.i (ac l (q+1) 8)) ([rdC l (q+1+1),[]])]<|J (QA @aa) (Wc<|J (noT dO) fun _=>(Wk (Ws ?_)))))))))) (noF tO)
    refine g 29 30 []<|J UA<|Wb<|Wl (fun s (y:Nat×List Int×Int)=>⟨(SK s [0,2,3,4,5,6] [(7,.i y.1),(8,s.s 8)]),[(2,[s.c 2 0]),(4,[s.c 4 0]),(69,[.t (u8s l),.t (.i y.2.2)]),(6,[.t (.s ((⟨#[116]⟩:ByteArray) ++dD i)),.t (.i (1+ac l q 5)),.own [false] (y.2.1.map ef)])],[]⟩) (fun(y:Nat×List Int×Int)=>y.1≤i∧y.2.1.length≤y.1∧y.2.1.length≤8∧q+2≤y.2.2∧y.2.2≤q+2+2 * y.1) (fun(y:Nat×List Int×Int)=>i - y.1) ((0,[],q+2)) [some 2,some 4,some 69,some 6] [] ⟨rfl,FZ,⟨FZ,⟨FZ,⟨⟨rfl,⟨rfl,⟨(congrArg (fun z=>V.t (T.v (Value.int _ z))) (by show q+1+1 = q+2;omega)),I⟩⟩⟩,FZ⟩⟩⟩,I⟩ (by simp) ?_
    rintro⟨k,ds,u⟩ ⟨g1,g2,g3,g4,g5⟩
    dsimp only at g1 g2 g3 g4 g5
    have p3:=aj l u 3
    have p2:=aj l (u+1) 2
    by_cases hk:k < i
    ·by_cases hd:ds.length < 8
     ·by_cases h3:ac l u 3 = 0
      ·conv=>whnf
       refine Ws<|g 35 39 [BT,BT,BT,BT,BT]<|J QZ<|Wc<|JD (fun h2=>?_) fun h2=>?_
       simp only[LM]at h2
       refine Wk<|Ws<|Wb<|g 39 55 [.call (V.i (ac l u 3)) ([rdC l (u+1),[]]),BT,BT,BT,BT,BT,BF,BF,BF,BT,BT]<|J (QA @aa)<|Wc<|J (fun _=>(rg []<|J QZ (rg [.i ((↑(Prod.fst (k,ds,u)):Int) +1)]<|J QZ ?_))) (noF rfl)
       rotate_left
       simp only[LM]at h2
       omega
       refine⟨(k+1,ds++ [(k:Int)],u+1),[some 2,some 4,some 69,some 6],[],⟨rfl,FZ,⟨FZ,⟨FZ,⟨FZ,⟨⟨rfl,⟨rfl,⟨rfl,⟨(congrArg (V.own _) (by rw[List.map_append];rfl)),I⟩⟩⟩⟩,I⟩⟩⟩⟩,I⟩,?_,?_⟩
       rotate_left
       (dsimp only;omega)
       dsimp only
       exact⟨by omega,by rw[List.length_append];simp;omega,by rw[List.length_append];simp;omega,by first|omega|(dsimp only;omega),by first|omega|(dsimp only;omega)⟩
      ·by_cases hki:(k:Int) = (i:Int) - 1
       ·by_cases h2:ac l (u+1) 2 = 0
        ·conv=>whnf
         refine Ws<|g 35 39 [BT,BT,BT,BT,BT]<|J QZ<|Wc<|JD (fun h4=>?_) fun h4=>?_
         simp only[LM]at h4
         refine Wk<|Ws<|Wb<|g 39 55 [.call (V.i (ac l u 3)) ([rdC l (u+1),[]]),BF,BF,BF,.i ((↑(Prod.fst (i,ts,q)):Int) - 1),BF,BF,BT,BT,.call (V.i (ac l (u+1) 2)) ([rdC l (u+1+1),[]]),BT,BF,BT,BF]<|J (QA @aa)<|Wc<|J (fun _=>(rg []<|J QZ (rg [.i ((↑(Prod.fst (k,ds,u)):Int) +1)]<|J QZ ?_))) (noF tO)
         rotate_left
         simp only[LM]at h4
         omega
         refine⟨(k+1,ds++ [(k:Int)],u+2),[some 2,some 4,some 69,some 6],[],⟨rfl,FZ,⟨FZ,⟨FZ,⟨⟨rfl,⟨rfl,⟨(congrArg (fun z=>V.t (T.v (Value.int _ z))) (by show u+1+1 = u+2;omega)),I⟩⟩⟩,⟨⟨rfl,⟨rfl,⟨rfl,⟨(congrArg (V.own _) (by rw[List.map_append];rfl)),I⟩⟩⟩⟩,I⟩⟩⟩⟩,I⟩,?_,?_⟩
         rotate_left
         (dsimp only;omega)
         dsimp only
         exact⟨by omega,by rw[List.length_append];simp;omega,by rw[List.length_append];simp;omega,by first|omega|(dsimp only;omega),by first|omega|(dsimp only;omega)⟩
        ·conv=>whnf
         refine Ws<|g 35 39 [BT,BT,BT,BT,BT]<|J QZ<|Wc<|JD (fun h4=>?_) fun h4=>?_
         simp only[LM]at h4
         refine Wk<|Ws<|Wb<|g 39 55 [.call (V.i (ac l u 3)) ([rdC l (u+1),[]]),BF,BF,BF,.i ((↑(Prod.fst (i,ts,q)):Int) - 1),BF,BF,BT,BT,.call (V.i (ac l (u+1) 2)) ([rdC l (u+1+1),[]]),BT,BF,BT,BF]<|J (QA @aa)<|Wc<|J (noT dO) fun _=>Wk<|rg [.i ((↑(Prod.fst (k,ds,u)):Int) +1)]<|J QZ ?_
         rotate_left
         simp only[LM]at h4
         omega
         refine⟨(k+1,ds,u+2),[some 2,some 4,some 69,some 6],[],⟨rfl,FZ,⟨FZ,⟨FZ,⟨⟨rfl,⟨rfl,⟨(congrArg (fun z=>V.t (T.v (Value.int _ z))) (by show u+1+1 = u+2;omega)),I⟩⟩⟩,FZ⟩⟩⟩,I⟩,?_,?_⟩
         rotate_left
         (dsimp only;omega)
         dsimp only
         omega
       ·conv=>whnf
        refine Ws<|g 35 39 [BT,BT,BT,BT,BT]<|J QZ<|Wc<|JD (fun h2=>?_) fun h2=>?_
        simp only[LM]at h2
        refine Wk<|Ws<|Wb<|g 39 55 (.call (V.i (ac l u 3)) ([rdC l (u+1),[]])::BF::BF::BF::.i ((↑(Prod.fst (i,ts,q)):Int) - 1)::(RL 8 BF []))<|J (QA @aa)<|Wc<|J (noT rfl) fun _=>Wk<|rg [.i ((↑(Prod.fst (k,ds,u)):Int) +1)]<|J QZ ?_
        rotate_left
        simp only[LM]at h2
        omega
        refine⟨(k+1,ds,u+1),[some 2,some 4,some 69,some 6],[],FZ,?_,?_⟩
        rotate_left
        (dsimp only;omega)
        dsimp only
        omega
     ·conv=>whnf
      refine Ws<|g 35 39 [BT,BT,BT,BT,BT]<|J QZ<|Wc<|J (fun h2=>?_) fun h2=>?_
      replace h2:=dt h2
      simp only[LM]at h2
      omega
      replace h2:=df h2
      simp only[LM]at h2
      refine We<|rg []<|J QZ<|rg [.i ((↑(Prod.fst (i,ts,q)):Int) +1)]<|J QZ ?_
      refine⟨(i+1,ts++ [(⟨((⟨#[116]⟩:ByteArray) ++dD i),1+ac l q 5,ds⟩:Task)],u),[some 2,some 69,some 4],[],⟨rfl,FZ,⟨FZ,⟨FZ,⟨⟨rfl,⟨(congrArg (V.own _) (by rw[List.map_append];rfl)),I⟩⟩,I⟩⟩⟩,I⟩,?_,?_⟩
      rotate_left
      (dsimp only;omega)
      dsimp only
      refine⟨by first|omega|(dsimp only;omega),by rw[List.length_append];simp;omega,fun t ht=>?_,by first|omega|(dsimp only;omega),by first|omega|(dsimp only;omega)⟩
      rcases List.mem_append.1 ht with ht|ht
      ·exact hsm t ht
      ·rw[List.mem_singleton.1 ht]
       refine⟨?_,by first|omega|(dsimp only;omega)⟩
       show(((⟨#[116]⟩:ByteArray) ++dD i).size)≤64
       rw[ByteArray.size_append]
       have:(⟨#[116]⟩:ByteArray).size = 1:=rfl
       omega
    ·conv=>whnf
     refine Ws<|g 35 39 [BF,BF,BF,BF,BF]<|J QZ<|Wc<|J (noT rfl) fun _=>We<|rg []<|J QZ<|rg [.i ((↑(Prod.fst (i,ts,q)):Int) +1)]<|J QZ ?_
     refine⟨(i+1,ts++ [(⟨((⟨#[116]⟩:ByteArray) ++dD i),1+ac l q 5,ds⟩:Task)],u),[some 2,some 69,some 4],[],⟨rfl,FZ,⟨FZ,⟨FZ,⟨⟨rfl,⟨(congrArg (V.own _) (by rw[List.map_append];rfl)),I⟩⟩,I⟩⟩⟩,I⟩,?_,?_⟩
     rotate_left
     (dsimp only;omega)
     dsimp only
     refine⟨by first|omega|(dsimp only;omega),by rw[List.length_append];simp;omega,fun t ht=>?_,by first|omega|(dsimp only;omega),by first|omega|(dsimp only;omega)⟩
     rcases List.mem_append.1 ht with ht|ht
     ·exact hsm t ht
     ·rw[List.mem_singleton.1 ht]
      refine⟨?_,by first|omega|(dsimp only;omega)⟩
      show(((⟨#[116]⟩:ByteArray) ++dD i).size)≤64
      rw[ByteArray.size_append]
      have:(⟨#[116]⟩:ByteArray).size = 1:=rfl
      omega
  ·conv=>whnf
   refine Ws<|g 15 17 []<|J UC<|Wc<|J (noT dO) fun _=>We<|g 3 69 []<|J UV<|W.ret<|EndsW.rt<|J UB ?_
   exact⟨⟨ts⟩,q,rfl,rfl,⟨by first|omega|(dsimp only;omega),hsm⟩,by first|omega|(dsimp only;omega),by omega,by omega⟩
 ·refine pY ?_
  conv=>whnf
  refine g 0 0 []<|J UA<|g 9 11 [.call (V.i (ac l pos 6)) ([rdC l (pos+1),[]]),.i (1+ac l pos 6)]<|J (QA @aa)<|Ws<|g 11 13 [.call (V.i (ac l (pos+1) 12)) ([rdC l (pos+1+1),[]])]<|J (QA @aa)<|Wc<|J (noT dO) fun _=>Wk<|g 13 15 []<|J QZ<|Ws<|g 0 0 []<|J UA<|Wb<|Wl (fun s (x:Nat×List Task×Int)=>⟨(SK s [0,2,3,4] [(5,.i x.1),(8,s.s 8)]),[(2,[s.c 2 0]),(69,[.t (u8s l),.t (.i x.2.2)]),(4,[.own cY (x.2.1.map ay)])],[]⟩) (fun(x:Nat×List Task×Int)=>(x.1:Int)≤(1+ac l pos 6)∧x.2.1.length = x.1∧(∀ t∈x.2.1,t.name.size≤64∧t.deps.length≤64)∧pos+2≤x.2.2∧x.2.2≤pos+2+90 * x.1) (fun(x:Nat×List Task×Int)=>(((1+ac l pos 6):Int) - x.1).toNat) ((0,[],pos+2)) [some 2,some 69,some 4] [] ⟨rfl,FZ,⟨FZ,⟨⟨rfl,⟨rfl,⟨(congrArg (fun z=>V.t (T.v (Value.int _ z))) (by show pos+1+1 = pos+2;omega)),I⟩⟩⟩,FZ⟩⟩,I⟩ ⟨by omega,by simp⟩ ?_
  rintro⟨i,ts,q⟩ ⟨hi,hlen,hsm,hq1,hq2⟩
  dsimp only at hi hlen hsm hq1 hq2
  have p5:=aj l q 5
  have p8:=aj l (q+1) 8
  by_cases hi2:(i:Int) < (1+ac l pos 6)
  ·have cd:=fU i OM OM
   have hds:=gg i
   by_cases h8:ac l (q+1) 8 = 0
   ·skip
    conv=>whnf
    refine Ws<|g 15 17 []<|J UC<|Wc<|J (fun _=>(Wk (Ws (Wb (g 17 27 [.call (V.s (dD (i:Int))) [[]],.s ({data:=#[(116:UInt8)]:ByteArray} ++dD (i:Int)),.call (V.i (ac l q 5)) ([rdC l (q+1),[]]),.i (1+ac l q 5)]<|J ⟨I,Zam,⟨rfl,(by simp only[bsz,bsa,ByteArray.size_append,List.size_toArray,jY];omega)⟩,I,⟨UB,I,UV,UA,aa _ _ _ OX OX OX OX⟩,wO,I,I,UC,I⟩ (Ws (g 27 29 [.call (V.i (ac l (q+1) 8)) ([rdC l (q+1+1),[]])]<|J (QA @aa) (Wc<|J (fun _=>(rg []<|J UV (Ws ?_))) (noF tO))))))))) (noF tO)
    refine g 29 31 []<|J UA<|Wb<|Wl (fun s (y:Nat×List Int×Int)=>⟨(SK s [0,2,3,4,5,6] [(7,.i y.1),(8,s.s 8)]),[(2,[s.c 2 0]),(4,[s.c 4 0]),(69,[.t (u8s l),.t (.i y.2.2)]),(6,[.t (.s ((⟨#[116]⟩:ByteArray) ++dD i)),.t (.i (20)),.own [false] (y.2.1.map ef)])],[]⟩) (fun(y:Nat×List Int×Int)=>y.1≤i∧y.2.1.length≤y.1∧y.2.1.length≤8∧q+2≤y.2.2∧y.2.2≤q+2+2 * y.1) (fun(y:Nat×List Int×Int)=>i - y.1) ((0,[],q+2)) [some 2,some 4,some 69,some 6] [] ⟨rfl,FZ,⟨FZ,⟨FZ,⟨⟨rfl,⟨rfl,⟨(congrArg (fun z=>V.t (T.v (Value.int _ z))) (by show q+1+1 = q+2;omega)),I⟩⟩⟩,FZ⟩⟩⟩,I⟩ (by simp) ?_
    rintro⟨k,ds,u⟩ ⟨g1,g2,g3,g4,g5⟩
    dsimp only at g1 g2 g3 g4 g5
    have p3:=aj l u 3
    have p2:=aj l (u+1) 2
    by_cases hk:k < i
    ·by_cases hd:ds.length < 8
     ·by_cases h3:ac l u 3 = 0
      ·conv=>whnf
       refine Ws<|g 35 39 [BT,BT,BT,BT,BT]<|J QZ<|Wc<|JD (fun h2=>?_) fun h2=>?_
       simp only[LM]at h2
       refine Wk<|Ws<|Wb<|g 39 55 [.call (V.i (ac l u 3)) ([rdC l (u+1),[]]),BT,BT,BT,BT,BT,BF,BF,BF,BT,BT]<|J (QA @aa)<|Wc<|J (fun _=>(rg []<|J QZ (rg [.i ((↑(Prod.fst (k,ds,u)):Int) +1)]<|J QZ ?_))) (noF rfl)
       rotate_left
       simp only[LM]at h2
       omega
       refine⟨(k+1,ds++ [(k:Int)],u+1),[some 2,some 4,some 69,some 6],[],⟨rfl,FZ,⟨FZ,⟨FZ,⟨FZ,⟨⟨rfl,⟨rfl,⟨rfl,⟨(congrArg (V.own _) (by rw[List.map_append];rfl)),I⟩⟩⟩⟩,I⟩⟩⟩⟩,I⟩,?_,?_⟩
       rotate_left
       (dsimp only;omega)
       dsimp only
       exact⟨by omega,by rw[List.length_append];simp;omega,by rw[List.length_append];simp;omega,by first|omega|(dsimp only;omega),by first|omega|(dsimp only;omega)⟩
      ·by_cases hki:(k:Int) = (i:Int) - 1
       ·by_cases h2:ac l (u+1) 2 = 0
        ·conv=>whnf
         refine Ws<|g 35 39 [BT,BT,BT,BT,BT]<|J QZ<|Wc<|JD (fun h4=>?_) fun h4=>?_
         simp only[LM]at h4
         refine Wk<|Ws<|Wb<|g 39 55 [.call (V.i (ac l u 3)) ([rdC l (u+1),[]]),BF,BF,BF,.i ((↑(Prod.fst (i,ts,q)):Int) - 1),BF,BF,BT,BT,.call (V.i (ac l (u+1) 2)) ([rdC l (u+1+1),[]]),BT,BF,BT,BF]<|J (QA @aa)<|Wc<|J (fun _=>(rg []<|J QZ (rg [.i ((↑(Prod.fst (k,ds,u)):Int) +1)]<|J QZ ?_))) (noF tO)
         rotate_left
         simp only[LM]at h4
         omega
         refine⟨(k+1,ds++ [(k:Int)],u+2),[some 2,some 4,some 69,some 6],[],⟨rfl,FZ,⟨FZ,⟨FZ,⟨⟨rfl,⟨rfl,⟨(congrArg (fun z=>V.t (T.v (Value.int _ z))) (by show u+1+1 = u+2;omega)),I⟩⟩⟩,⟨⟨rfl,⟨rfl,⟨rfl,⟨(congrArg (V.own _) (by rw[List.map_append];rfl)),I⟩⟩⟩⟩,I⟩⟩⟩⟩,I⟩,?_,?_⟩
         rotate_left
         (dsimp only;omega)
         dsimp only
         exact⟨by omega,by rw[List.length_append];simp;omega,by rw[List.length_append];simp;omega,by first|omega|(dsimp only;omega),by first|omega|(dsimp only;omega)⟩
        ·conv=>whnf
         refine Ws<|g 35 39 [BT,BT,BT,BT,BT]<|J QZ<|Wc<|JD (fun h4=>?_) fun h4=>?_
         simp only[LM]at h4
         refine Wk<|Ws<|Wb<|g 39 55 [.call (V.i (ac l u 3)) ([rdC l (u+1),[]]),BF,BF,BF,.i ((↑(Prod.fst (i,ts,q)):Int) - 1),BF,BF,BT,BT,.call (V.i (ac l (u+1) 2)) ([rdC l (u+1+1),[]]),BT,BF,BT,BF]<|J (QA @aa)<|Wc<|J (noT dO) fun _=>Wk<|rg [.i ((↑(Prod.fst (k,ds,u)):Int) +1)]<|J QZ ?_
         rotate_left
         simp only[LM]at h4
         omega
         refine⟨(k+1,ds,u+2),[some 2,some 4,some 69,some 6],[],⟨rfl,FZ,⟨FZ,⟨FZ,⟨⟨rfl,⟨rfl,⟨(congrArg (fun z=>V.t (T.v (Value.int _ z))) (by show u+1+1 = u+2;omega)),I⟩⟩⟩,FZ⟩⟩⟩,I⟩,?_,?_⟩
         rotate_left
         (dsimp only;omega)
         dsimp only
         omega
       ·conv=>whnf
        refine Ws<|g 35 39 [BT,BT,BT,BT,BT]<|J QZ<|Wc<|JD (fun h2=>?_) fun h2=>?_
        simp only[LM]at h2
        refine Wk<|Ws<|Wb<|g 39 55 (.call (V.i (ac l u 3)) ([rdC l (u+1),[]])::BF::BF::BF::.i ((↑(Prod.fst (i,ts,q)):Int) - 1)::(RL 8 BF []))<|J (QA @aa)<|Wc<|J (noT rfl) fun _=>Wk<|rg [.i ((↑(Prod.fst (k,ds,u)):Int) +1)]<|J QZ ?_
        rotate_left
        simp only[LM]at h2
        omega
        refine⟨(k+1,ds,u+1),[some 2,some 4,some 69,some 6],[],FZ,?_,?_⟩
        rotate_left
        (dsimp only;omega)
        dsimp only
        omega
     ·exfalso;omega
    ·conv=>whnf
     refine Ws<|g 35 39 [BF,BF,BF,BF,BF]<|J QZ<|Wc<|J (noT rfl) fun _=>We<|rg []<|J QZ<|rg [.i ((↑(Prod.fst (i,ts,q)):Int) +1)]<|J QZ ?_
     refine⟨(i+1,ts++ [(⟨((⟨#[116]⟩:ByteArray) ++dD i),20,ds⟩:Task)],u),[some 2,some 69,some 4],[],⟨rfl,FZ,⟨FZ,⟨FZ,⟨⟨rfl,⟨(congrArg (V.own _) (by rw[List.map_append];rfl)),I⟩⟩,I⟩⟩⟩,I⟩,?_,?_⟩
     rotate_left
     (dsimp only;omega)
     dsimp only
     refine⟨by first|omega|(dsimp only;omega),by rw[List.length_append];simp;omega,fun t ht=>?_,by first|omega|(dsimp only;omega),by first|omega|(dsimp only;omega)⟩
     rcases List.mem_append.1 ht with ht|ht
     ·exact hsm t ht
     ·rw[List.mem_singleton.1 ht]
      refine⟨?_,by first|omega|(dsimp only;omega)⟩
      show(((⟨#[116]⟩:ByteArray) ++dD i).size)≤64
      rw[ByteArray.size_append]
      have:(⟨#[116]⟩:ByteArray).size = 1:=rfl
      omega
   ·skip
    conv=>whnf
    refine Ws<|g 15 17 []<|J UC<|Wc<|J (fun _=>(Wk (Ws (Wb (g 17 27 [.call (V.s (dD (i:Int))) [[]],.s ({data:=#[(116:UInt8)]:ByteArray} ++dD (i:Int)),.call (V.i (ac l q 5)) ([rdC l (q+1),[]]),.i (1+ac l q 5)]<|J ⟨I,Zam,⟨rfl,(by simp only[bsz,bsa,ByteArray.size_append,List.size_toArray,jY];omega)⟩,I,⟨UB,I,UV,UA,aa _ _ _ OX OX OX OX⟩,wO,I,I,UC,I⟩ (Ws (g 27 29 [.call (V.i (ac l (q+1) 8)) ([rdC l (q+1+1),[]])]<|J (QA @aa) (Wc<|J (noT dO) fun _=>(Wk (Ws ?_)))))))))) (noF tO)
    refine g 29 30 []<|J UA<|Wb<|Wl (fun s (y:Nat×List Int×Int)=>⟨(SK s [0,2,3,4,5,6] [(7,.i y.1),(8,s.s 8)]),[(2,[s.c 2 0]),(4,[s.c 4 0]),(69,[.t (u8s l),.t (.i y.2.2)]),(6,[.t (.s ((⟨#[116]⟩:ByteArray) ++dD i)),.t (.i (1+ac l q 5)),.own [false] (y.2.1.map ef)])],[]⟩) (fun(y:Nat×List Int×Int)=>y.1≤i∧y.2.1.length≤y.1∧y.2.1.length≤8∧q+2≤y.2.2∧y.2.2≤q+2+2 * y.1) (fun(y:Nat×List Int×Int)=>i - y.1) ((0,[],q+2)) [some 2,some 4,some 69,some 6] [] ⟨rfl,FZ,⟨FZ,⟨FZ,⟨⟨rfl,⟨rfl,⟨(congrArg (fun z=>V.t (T.v (Value.int _ z))) (by show q+1+1 = q+2;omega)),I⟩⟩⟩,FZ⟩⟩⟩,I⟩ (by simp) ?_
    rintro⟨k,ds,u⟩ ⟨g1,g2,g3,g4,g5⟩
    dsimp only at g1 g2 g3 g4 g5
    have p3:=aj l u 3
    have p2:=aj l (u+1) 2
    by_cases hk:k < i
    ·by_cases hd:ds.length < 8
     ·by_cases h3:ac l u 3 = 0
      ·conv=>whnf
       refine Ws<|g 35 39 [BT,BT,BT,BT,BT]<|J QZ<|Wc<|JD (fun h2=>?_) fun h2=>?_
       simp only[LM]at h2
       refine Wk<|Ws<|Wb<|g 39 55 [.call (V.i (ac l u 3)) ([rdC l (u+1),[]]),BT,BT,BT,BT,BT,BF,BF,BF,BT,BT]<|J (QA @aa)<|Wc<|J (fun _=>(rg []<|J QZ (rg [.i ((↑(Prod.fst (k,ds,u)):Int) +1)]<|J QZ ?_))) (noF rfl)
       rotate_left
       simp only[LM]at h2
       omega
       refine⟨(k+1,ds++ [(k:Int)],u+1),[some 2,some 4,some 69,some 6],[],⟨rfl,FZ,⟨FZ,⟨FZ,⟨FZ,⟨⟨rfl,⟨rfl,⟨rfl,⟨(congrArg (V.own _) (by rw[List.map_append];rfl)),I⟩⟩⟩⟩,I⟩⟩⟩⟩,I⟩,?_,?_⟩
       rotate_left
       (dsimp only;omega)
       dsimp only
       exact⟨by omega,by rw[List.length_append];simp;omega,by rw[List.length_append];simp;omega,by first|omega|(dsimp only;omega),by first|omega|(dsimp only;omega)⟩
      ·by_cases hki:(k:Int) = (i:Int) - 1
       ·by_cases h2:ac l (u+1) 2 = 0
        ·conv=>whnf
         refine Ws<|g 35 39 [BT,BT,BT,BT,BT]<|J QZ<|Wc<|JD (fun h4=>?_) fun h4=>?_
         simp only[LM]at h4
         refine Wk<|Ws<|Wb<|g 39 55 [.call (V.i (ac l u 3)) ([rdC l (u+1),[]]),BF,BF,BF,.i ((↑(Prod.fst (i,ts,q)):Int) - 1),BF,BF,BT,BT,.call (V.i (ac l (u+1) 2)) ([rdC l (u+1+1),[]]),BT,BF,BT,BF]<|J (QA @aa)<|Wc<|J (fun _=>(rg []<|J QZ (rg [.i ((↑(Prod.fst (k,ds,u)):Int) +1)]<|J QZ ?_))) (noF tO)
         rotate_left
         simp only[LM]at h4
         omega
         refine⟨(k+1,ds++ [(k:Int)],u+2),[some 2,some 4,some 69,some 6],[],⟨rfl,FZ,⟨FZ,⟨FZ,⟨⟨rfl,⟨rfl,⟨(congrArg (fun z=>V.t (T.v (Value.int _ z))) (by show u+1+1 = u+2;omega)),I⟩⟩⟩,⟨⟨rfl,⟨rfl,⟨rfl,⟨(congrArg (V.own _) (by rw[List.map_append];rfl)),I⟩⟩⟩⟩,I⟩⟩⟩⟩,I⟩,?_,?_⟩
         rotate_left
         (dsimp only;omega)
         dsimp only
         exact⟨by omega,by rw[List.length_append];simp;omega,by rw[List.length_append];simp;omega,by first|omega|(dsimp only;omega),by first|omega|(dsimp only;omega)⟩
        ·conv=>whnf
         refine Ws<|g 35 39 [BT,BT,BT,BT,BT]<|J QZ<|Wc<|JD (fun h4=>?_) fun h4=>?_
         simp only[LM]at h4
         refine Wk<|Ws<|Wb<|g 39 55 [.call (V.i (ac l u 3)) ([rdC l (u+1),[]]),BF,BF,BF,.i ((↑(Prod.fst (i,ts,q)):Int) - 1),BF,BF,BT,BT,.call (V.i (ac l (u+1) 2)) ([rdC l (u+1+1),[]]),BT,BF,BT,BF]<|J (QA @aa)<|Wc<|J (noT dO) fun _=>Wk<|rg [.i ((↑(Prod.fst (k,ds,u)):Int) +1)]<|J QZ ?_
         rotate_left
         simp only[LM]at h4
         omega
         refine⟨(k+1,ds,u+2),[some 2,some 4,some 69,some 6],[],⟨rfl,FZ,⟨FZ,⟨FZ,⟨⟨rfl,⟨rfl,⟨(congrArg (fun z=>V.t (T.v (Value.int _ z))) (by show u+1+1 = u+2;omega)),I⟩⟩⟩,FZ⟩⟩⟩,I⟩,?_,?_⟩
         rotate_left
         (dsimp only;omega)
         dsimp only
         omega
       ·conv=>whnf
        refine Ws<|g 35 39 [BT,BT,BT,BT,BT]<|J QZ<|Wc<|JD (fun h2=>?_) fun h2=>?_
        simp only[LM]at h2
        refine Wk<|Ws<|Wb<|g 39 55 (.call (V.i (ac l u 3)) ([rdC l (u+1),[]])::BF::BF::BF::.i ((↑(Prod.fst (i,ts,q)):Int) - 1)::(RL 8 BF []))<|J (QA @aa)<|Wc<|J (noT rfl) fun _=>Wk<|rg [.i ((↑(Prod.fst (k,ds,u)):Int) +1)]<|J QZ ?_
        rotate_left
        simp only[LM]at h2
        omega
        refine⟨(k+1,ds,u+1),[some 2,some 4,some 69,some 6],[],FZ,?_,?_⟩
        rotate_left
        (dsimp only;omega)
        dsimp only
        omega
     ·exfalso;omega
    ·conv=>whnf
     refine Ws<|g 35 39 [BF,BF,BF,BF,BF]<|J QZ<|Wc<|J (noT rfl) fun _=>We<|rg []<|J QZ<|rg [.i ((↑(Prod.fst (i,ts,q)):Int) +1)]<|J QZ ?_
     refine⟨(i+1,ts++ [(⟨((⟨#[116]⟩:ByteArray) ++dD i),1+ac l q 5,ds⟩:Task)],u),[some 2,some 69,some 4],[],⟨rfl,FZ,⟨FZ,⟨FZ,⟨⟨rfl,⟨(congrArg (V.own _) (by rw[List.map_append];rfl)),I⟩⟩,I⟩⟩⟩,I⟩,?_,?_⟩
     rotate_left
     (dsimp only;omega)
     dsimp only
     refine⟨by first|omega|(dsimp only;omega),by rw[List.length_append];simp;omega,fun t ht=>?_,by first|omega|(dsimp only;omega),by first|omega|(dsimp only;omega)⟩
     rcases List.mem_append.1 ht with ht|ht
     ·exact hsm t ht
     ·rw[List.mem_singleton.1 ht]
      refine⟨?_,by first|omega|(dsimp only;omega)⟩
      show(((⟨#[116]⟩:ByteArray) ++dD i).size)≤64
      rw[ByteArray.size_append]
      have:(⟨#[116]⟩:ByteArray).size = 1:=rfl
      omega
  ·conv=>whnf
   refine Ws<|g 15 17 []<|J UC<|Wc<|J (noT dO) fun _=>We<|g 3 69 []<|J UV<|W.ret<|EndsW.rt<|J UB ?_
   exact⟨⟨ts⟩,q,rfl,rfl,⟨by first|omega|(dsimp only;omega),hsm⟩,by first|omega|(dsimp only;omega),by omega,by omega⟩
theorem CA(l:List Int)(pos:Int)(h:dN l∧0≤pos∧pos≤1000000):∃ x:Plan×Int,F ly [.ptr (rdC l pos)] (eA x.1) [rdC l x.2]∧dh x.1∧1≤x.1.tasks.length∧pos≤x.2∧x.2≤pos+4000:=by
 obtain⟨res,outs,⟨p,pos2,rfl,rfl,h1,h2,h3,h4⟩,hF⟩:=Xr l pos h.1 h.2.1 h.2.2
 exact⟨(p,pos2),hF,h1,h2,h3,h4⟩
open Classical in
noncomputable def ou(l:List Int)(pos:Int):Plan×Int:=if h:dN l∧0≤pos∧pos≤1000000 then(CA l pos h).choose else(⟨[⟨emp,0,[]⟩]⟩,pos)
theorem Ev(l:List Int)(pos:Int)(hl:dN l)(h0:0≤pos)(h1:pos≤1000000):F ly [.ptr (rdC l pos)] (eA (ou l pos).1) [rdC l (ou l pos).2]:=by
 have h:dN l∧0≤pos∧pos≤1000000:=⟨hl,h0,h1⟩
 rw[ou,dif_pos h]
 exact(CA l pos h).choose_spec.1
theorem Xu(l:List Int)(pos:Int):dh (ou l pos).1∧1≤(ou l pos).1.tasks.length∧pos≤(ou l pos).2∧(ou l pos).2≤pos+4000:=by
 unfold ou
 split
 ·rename_i h;exact(CA l pos h).choose_spec.2
 ·refine⟨⟨by show 1≤64;omega,fun t ht=>?_⟩,Nat.le_refl _,Int.le_refl _,by dsimp only;omega⟩
  rw[List.mem_singleton.1 ht]
  have:emp.size = 0:=rfl
  exact⟨by dsimp only;omega,Nat.zero_le _⟩
theorem Cy(s:ByteArray)(n:Int)(h:0≤n∧n≤1000∧n * (s.size:Int)≤4096):∃ t:ByteArray,F iH [.val (.s s),.val (.i n)] (.s t) [[],[]]∧(t.size:Int)≤4096:=by
 obtain⟨res,outs,⟨t,rfl,rfl,h1⟩,hF⟩:=Xp s n h.1 h.2.1 h.2.2
 exact⟨t,hF,h1⟩
open Classical in
noncomputable def oe(s:ByteArray)(n:Int):ByteArray:=if h:0≤n∧n≤1000∧n * (s.size:Int)≤4096 then(Cy s n h).choose else emp
theorem FI(s:ByteArray)(n:Int)(h0:0≤n)(h1:n≤1000)(hs:n * (s.size:Int)≤4096):F iH [.val (.s s),.val (.i n)] (.s (oe s n)) [[],[]]:=by
 rw[oe,dif_pos ⟨h0,h1,hs⟩]
 exact(Cy s n ⟨h0,h1,hs⟩).choose_spec.1
theorem lM(s:ByteArray)(n:Int)(h0:0≤n)(h1:n≤64)(hs:s.size≤64):F iH [.val (.s s),.val (.i n)] (.s (oe s n)) [[],[]] :=
 FI s n h0 OM (by
  have:=Int.mul_le_mul_of_nonneg_right h1 (show(0:Int)≤s.size by omega)
  omega)
theorem pM(s:ByteArray)(n:Int):(oe s n).size≤4096:=by
 unfold oe
 split
 ·rename_i h;have:=(Cy s n h).choose_spec.2;omega
 ·show emp.size≤4096;decide
end Go.K
end
section
open Go Go.Tm Go.Proofs
namespace Go.K
def jm(t:Task):Prop:=t.name.size≤8192∧t.deps.length≤128
def kH(p:Plan):Prop:=p.tasks.length≤64∧∀ t∈p.tasks,jm t
theorem ge{p:Plan}(h:dh p):kH p:=⟨h.1,fun t ht=>⟨by have:=(h.2 t ht).1;omega,by have:=(h.2 t ht).2;omega⟩⟩
theorem Im{p:Plan}(h:kH p):dy p:=⟨by have:=h.1;omega,fun t ht=>⟨by have:=(h.2 t ht).1;omega,by have:=(h.2 t ht).2;omega⟩⟩
theorem BB{p:Plan}(h:dh p){n:Nat}{t:Task}(ht:jm t):kH ⟨p.tasks.set n t⟩:=by
 refine⟨by dsimp only;rw[List.length_set];exact h.1,fun y hy=>?_⟩
 rcases List.mem_or_eq_of_mem_set hy with hy|rfl
 ·exact(ge h).2 y hy
 ·exact ht
theorem SM{ts:List Task}(h1:ts.length≤64)(h2:∀ t∈ts,jm t){n:Nat}{t:Task}(ht:jm t):kH ⟨ts.set n t⟩:=by
 refine⟨by dsimp only;rw[List.length_set];exact h1,fun y hy=>?_⟩
 rcases List.mem_or_eq_of_mem_set hy with hy|rfl
 ·exact h2 y hy
 ·exact ht
theorem NX(c:ByteArray)(hc:c.size = 1)(i:Int):jm ⟨c++dD i,1,[]⟩:=by
 have:=gg i
 exact⟨by dsimp only;rw[ByteArray.size_append];omega,Nat.zero_le _⟩
theorem Ps{ts:List Task}{x:Task}(h:∀ t∈ts,jm t)(hx:jm x):∀ t∈ts++ [x],jm t:=fun t ht=>by
 rcases List.mem_append.1 ht with ht|ht
 ·exact h t ht
 ·rw[List.mem_singleton.1 ht];exact hx
theorem mf{α:Type}(xs:List α)(x:α):(xs++ [x]).length = xs.length+1:=by simp
theorem gW{ts:List Task}{n:Nat}{t:Task}:(ts.map ay).set n (ay t) = (ts.set n t).map ay:=by rw[List.map_set]
theorem XH{xs:List Int}{x:Int}:(xs++ [x]).map ef = xs.map ef++ [ef x]:=by rw[List.map_append];rfl
theorem pe(xs:List ByteArray)(k:Int)(h0:0≤k)(h1:k < xs.length):∃ x,x∈xs∧(xs.map ai)[k.toNat]? = some (ai x):=by
 obtain⟨x,hx⟩:=ae (xs:=xs) (n:=k.toNat) OM
 exact⟨x,List.mem_of_getElem? hx,by rw[List.getElem?_map,hx];rfl⟩
theorem cX(xs:List Int)(k:Int)(h0:0≤k)(h1:k < xs.length):∃ x,x∈xs∧(xs.map ef)[k.toNat]? = some (ef x):=by
 obtain⟨x,hx⟩:=ae (xs:=xs) (n:=k.toNat) OM
 exact⟨x,List.mem_of_getElem? hx,by rw[List.getElem?_map,hx];rfl⟩
abbrev XJ(l:List Int)(pos:Int):V→List (List V)→Prop:=fun res outs=>∃ p pos2,res = eA p∧outs = [rdC l pos2,[]]∧kH p∧pos≤pos2∧pos2≤pos+100
theorem S4(l:List Int)(pos:Int)(p:Plan)(hp:dh p)(hl:dN l)(h0:0≤pos)(h1:pos≤1000000):∃ res outs,XJ l pos res outs∧F kg [.ptr (rdC l pos),.val (eA p)] res outs:=by
 have hpp:=hp
 obtain⟨hp1,hp2⟩:=hpp
 have cpl:=lL p hp
 have r0:=aj l pos p.tasks.length
 have r1:=aj l (pos+1) 7
 by_cases hz:p.tasks.length = 0
 ·refine dr ?_
  conv=>whnf
  refine g 0 0 []<|J QZ<|g 9 11 [.call (eA p) [[]]]<|J QZ<|g 11 16 [.call (V.i (ac l pos (↑(List.length (List.map ay p.tasks)):Int))) ([rdC l (pos+1),[]])]<|J (QA @aa)<|Ws<|g 16 19 []<|J UD<|Wc<|J (fun _=>(g 19 21 []<|J UV (W.ret (EndsW.rt<|J UB ?_)))) (noF SI)
  exact⟨p,_,rfl,rfl,ge hp,by omega,by omega⟩
 ·obtain⟨kk,hkk⟩:=Int.eq_ofNat_of_zero_le r0.1
  obtain⟨t,ht⟩:=ae (xs:=p.tasks) (n:=kk) OM
  have ck:F eT [.ptr (rdC l pos),.val (.i ((p.tasks.map ay).length:Int))] (.i (kk:Int)) [rdC l (pos+1),[]]:=by
   have:=aa l pos p.tasks.length hl h0 OM OM
   rw[hkk]at this
   rw[List.length_map];exact this
  have hkl:kk < p.tasks.length:=by omega
  have hts:=hp2 t (List.mem_of_getElem? ht)
  obtain⟨t0,ht0⟩:=ae (xs:=p.tasks) (n:=0) OM
  have hts0:=hp2 t0 (List.mem_of_getElem? ht0)
  by_cases c0:ac l (pos+1) 7 = 0
  ·have r2:=aj l (pos+1+1) 5
   have m1:=pM ⟨#[110]⟩ 30
   have m2:=pM ⟨#[110]⟩ 31
   obtain⟨x,hx1,hx2⟩:=pe [⟨#[]⟩,⟨#[97,32,98]⟩,t0.name,oe ⟨#[110]⟩ 30,oe ⟨#[110]⟩ 31] (ac l (pos+1+1) 5) r2.1 (by show _ < (5:Int);omega)
   have hx3:([[T.s ⟨#[]⟩],[T.s ⟨#[97,32,98]⟩],[T.s t0.name],[T.s (oe ⟨#[110]⟩ 30)],[T.s (oe ⟨#[110]⟩ 31)]]:List (List T))[(ac l (pos+1+1) 5).toNat]? = some [T.s x]:=hx2
   refine dr ?_
   conv=>whnf
   refine g 0 0 []<|J QZ<|g 9 11 [.call (eA p) [[]]]<|J QZ<|g 11 16 [.call (V.i (kk:Int)) ([rdC l (pos+1),[]])]<|J QZ<|Ws<|g 16 19 []<|J UD<|Wc<|J (noT SI) fun _=>Wk<|Ws<|g 19 22 [.call (V.i (ac l (pos+1) 7)) ([rdC l (pos+1+1),[]])]<|J (QA @aa)<|Wb<|g 36 37 []<|J UB<|Wc<|J (fun _=>?_) (noF tO)
   refine rgd [[],[],[],[],[],[.n (0)],[],[.x (ay t0)],[.call (V.s (oe {data:=#[(110:UInt8)]:ByteArray} 30)) [[],[]]],[.call (V.s (oe {data:=#[(110:UInt8)]:ByteArray} 31)) [[],[]]],[],[],[.call (V.i (ac l (pos+1+1) 5)) ([rdC l (pos+1+1+1),[]])],[.n (Int.toNat (ac l (pos+1+1) 5))],[.x ([T.s x])],[.n (kk)],[],[.x (ay t)]] ?_
   conv=>whnf
   refine J ⟨I,I,I,I,I,Zan,I,xA,⟨UB,I,UT,UA,lM _ _ (by decide) (by decide) (by decide)⟩,⟨UB,I,UT,UA,lM _ _ (by decide) (by decide) (by decide)⟩,⟨UA,UA,UA,UA,UA,I⟩,I,⟨UB,I,UV,UA,aa _ _ _ OM OM OM OM⟩,Zar,AS,Zan,I,⟨UA,xA⟩,I⟩<|J KR<|g 5 140 []<|J UV<|W.ret<|EndsW.rt<|J UB ?_
   have hxs:x.size≤8192:=by
    have e1:(⟨#[]⟩:ByteArray).size = 0:=rfl
    have e2:(⟨#[97,32,98]⟩:ByteArray).size = 3:=rfl
    simp only[List.mem_cons,List.not_mem_nil,or_false]at hx1
    rcases hx1 with rfl|rfl|rfl|rfl|rfl <;> omega
   exact⟨⟨p.tasks.set kk ⟨x,t.cost,t.deps⟩⟩,_,congrArg (fun z=>V.agg [V.own cY z]) (gW (t:=⟨x,t.cost,t.deps⟩)),rfl,BB hp ⟨hxs,by dsimp only;omega⟩,by omega,by omega⟩
  ·by_cases c1:ac l (pos+1) 7 = 1
   ·have r2:=aj l (pos+1+1) 4
    obtain⟨x,hx1,hx2⟩:=cX [0,-1,20,21] (ac l (pos+1+1) 4) r2.1 (by show _ < (4:Int);omega)
    have hx3:([[T.i 0],[T.i (-1)],[T.i 20],[T.i 21]]:List (List T))[(ac l (pos+1+1) 4).toNat]? = some [T.i x]:=hx2
    refine dr ?_
    conv=>whnf
    refine g 0 0 []<|J QZ<|g 9 11 [.call (eA p) [[]]]<|J QZ<|g 11 16 [.call (V.i (kk:Int)) ([rdC l (pos+1),[]])]<|J QZ<|Ws<|g 16 19 []<|J UD<|Wc<|J (noT SI) fun _=>Wk<|Ws<|g 19 22 [.call (V.i (ac l (pos+1) 7)) ([rdC l (pos+1+1),[]])]<|J (QA @aa)<|Wb<|g 36 37 []<|J UB<|Wc<|J (noT dO) fun _=>?_
    refine g 35 36 []<|J UB<|Wc<|J (fun _=>(rgd [[],[],[],[],[],[.call (V.i (ac l (pos+1+1) 4)) ([rdC l (pos+1+1+1),[]])],[.n (Int.toNat (ac l (pos+1+1) 4))],[.x ([T.i x])],[.n (kk)],[],[.x (ay t)]] ?_)) (noF tO)
    conv=>whnf
    refine⟨⟨I,I,I,⟨UA,UA,UA,UA,I⟩,I,⟨UB,I,UV,UA,aa _ _ _ OM OM OM OM⟩,Zar,AS,Zan,I,⟨UA,xA⟩,I⟩,by kernel_rfl,?_⟩
    refine g 5 140 []<|J UV<|W.ret<|EndsW.rt<|J UB ?_
    exact⟨⟨p.tasks.set kk ⟨t.name,x,t.deps⟩⟩,_,congrArg (fun z=>V.agg [V.own cY z]) (gW (t:=⟨t.name,x,t.deps⟩)),rfl,BB hp ⟨by dsimp only;omega,by dsimp only;omega⟩,by omega,by omega⟩
   ·by_cases c2:ac l (pos+1) 7 = 2
    ·have r2:=aj l (pos+1+1) 4
     obtain⟨x,hx1,hx2⟩:=cX [(kk:Int),-1,0,(kk:Int) +1] (ac l (pos+1+1) 4) r2.1 (by show _ < (4:Int);omega)
     have hx3:([[T.i (kk:Int)],[T.i (-1)],[T.i 0],[T.i ((kk:Int) +1)]]:List (List T))[(ac l (pos+1+1) 4).toNat]? = some [T.i x]:=hx2
     refine dr ?_
     conv=>whnf
     refine g 0 0 []<|J QZ<|g 9 11 [.call (eA p) [[]]]<|J QZ<|g 11 16 [.call (V.i (kk:Int)) ([rdC l (pos+1),[]])]<|J QZ<|Ws<|g 16 19 []<|J UD<|Wc<|J (noT SI) fun _=>Wk<|Ws<|g 19 22 [.call (V.i (ac l (pos+1) 7)) ([rdC l (pos+1+1),[]])]<|J (QA @aa)<|Wb<|g 36 37 []<|J UB<|Wc<|J (noT dO) fun _=>?_
     refine g 35 36 []<|J UB<|Wc<|J (noT dO) fun _=>g 54 56 []<|J UB<|Wc<|J (fun _=>(rgd [[],[],[],[],[],[],[.n (kk)],[],[.x (ay t)],[],[],[.i ((kk:Int) +1)],[],[],[.call (V.i (ac l (pos+1+1) 4)) ([rdC l (pos+1+1+1),[]])],[.n (Int.toNat (ac l (pos+1+1) 4))],[.x ([T.i x])],[],[.x (ay t)],[.n (kk)],[],[.x (List.set (ay t) (0+2) T.hole)]] ?_)) (noF tO)
     conv=>whnf
     refine⟨⟨I,I,I,I,I,I,Zan,I,xA,I,I,wO,⟨UA,UA,UA,UA,I⟩,I,⟨UB,I,UV,UA,aa _ _ _ OM OM OM OM⟩,Zar,AS,US,⟨I,xA,LN⟩,Zan,I,⟨UA,jH LN⟩,I⟩,by kernel_rfl,?_⟩
     rw[List.set_set]
     refine g 5 140 []<|J UV<|W.ret<|EndsW.rt<|J UB ?_
     exact⟨⟨p.tasks.set kk ⟨t.name,t.cost,t.deps++ [x]⟩⟩,_,congrArg (fun z=>V.agg [V.own cY z]) ((congrArg ((p.tasks.map ay).set kk) (show _ = ay ⟨t.name,t.cost,t.deps++ [x]⟩ by show [T.s t.name,T.i t.cost,T.slc [false] (t.deps.map ef++ [ef x])] = _;rw[←XH])).trans gW),rfl,BB hp ⟨by dsimp only;omega,by dsimp only;rw[List.length_append];simp;omega⟩,by omega,by omega⟩
    ·by_cases c3:ac l (pos+1) 7 = 3
     ·refine dr ?_
      conv=>whnf
      refine g 0 0 []<|J QZ<|g 9 11 [.call (eA p) [[]]]<|J QZ<|g 11 16 [.call (V.i (kk:Int)) ([rdC l (pos+1),[]])]<|J QZ<|Ws<|g 16 19 []<|J UD<|Wc<|J (noT SI) fun _=>Wk<|Ws<|g 19 22 [.call (V.i (ac l (pos+1) 7)) ([rdC l (pos+1+1),[]])]<|J (QA @aa)<|Wb<|g 36 37 []<|J UB<|Wc<|J (noT dO) fun _=>?_
      refine g 35 36 []<|J UB<|Wc<|J (noT dO) fun _=>g 54 56 []<|J UB<|Wc<|J (noT dO) fun _=>g 66 68 []<|J UB<|Wc<|J (fun _=>(rg []<|J QZ (g 5 140 []<|J UV (W.ret (EndsW.rt<|J UB ?_))))) (noF tO)
      exact⟨⟨[]⟩,_,rfl,rfl,⟨Nat.zero_le _,fun t ht=>by cases ht⟩,by omega,by omega⟩
     ·by_cases c4:ac l (pos+1) 7 = 4
      ·refine dr ?_
       conv=>whnf
       refine g 0 0 []<|J QZ<|g 9 11 [.call (eA p) [[]]]<|J QZ<|g 11 16 [.call (V.i (kk:Int)) ([rdC l (pos+1),[]])]<|J QZ<|Ws<|g 16 19 []<|J UD<|Wc<|J (noT SI) fun _=>Wk<|Ws<|g 19 22 [.call (V.i (ac l (pos+1) 7)) ([rdC l (pos+1+1),[]])]<|J (QA @aa)<|Wb<|g 36 37 []<|J UB<|Wc<|J (noT dO) fun _=>?_
       refine g 35 36 []<|J UB<|Wc<|J (noT dO) fun _=>g 54 56 []<|J UB<|Wc<|J (noT dO) fun _=>g 66 68 []<|J UB<|Wc<|J (noT dO) fun _=>g 89 91 []<|J UB<|Wc<|J (fun _=>(g 22 95 []<|J UA (Wb ?_))) (noF tO)
       refine Wl (fun s (x:Nat×List Task×Int)=>⟨(SK s [0,1,4,5] [(7,.i x.1)]),[(141,[s.c 141 0]),(4,[s.c 4 0]),(140,[.t (u8s l),.t (.i x.2.2)]),(5,[.own cY (x.2.1.map ay)])],[]⟩) (fun(x:Nat×List Task×Int)=>x.1≤41∧x.1≤x.2.1.length∧(x.2.1.length≤41∨x.2.1.length≤64∧x.1 = 0)∧(∀ t∈x.2.1,jm t)∧pos+2≤x.2.2∧x.2.2≤pos+2+x.1) (fun(x:Nat×List Task×Int)=>64 - x.2.1.length) ((0,p.tasks,pos+2)) [some 141,some 4,some 140,some 5] [] ⟨rfl,FZ,⟨⟨rfl,UA⟩,⟨FZ,⟨⟨rfl,⟨rfl,⟨(congrArg (fun z=>V.t (T.v (Value.int _ z))) (by show pos+1+1 = pos+2;omega)),I⟩⟩⟩,FZ⟩⟩⟩,I⟩ ?_ ?_
       ·exact⟨Nat.zero_le _,Nat.zero_le _,.inr ⟨hp1,rfl⟩,(ge hp).2,Int.le_refl _,by show pos+2≤pos+2+ ((0:Nat):Int);omega⟩
       rintro⟨i,ts,q⟩ ⟨i1,i2,i3,i4,i5,i6⟩
       dsimp only at i1 i2 i3 i4 i5 i6
       have r3:=aj l q 2
       by_cases hlt:(ts.length:Int) < 40+ac l q 2
       ·have cd:=fU i OM OM
        have hds:=gg i
        conv=>whnf
        refine Ws<|gd 95 101 [[],[],[],[],[.call (V.i (ac l q 2)) ([rdC l (q+1),[]])],[.i (40+ac l q 2)],[]] ?_
        conv=>whnf
        refine J (QA @aa)<|J KR<|Wc<|J (fun _=>(Wk (Ws (Wb (rgd [[],[],[],[.call (V.s (dD (i:Int))) [[]]],[.s ({data:=#[(120:UInt8)]:ByteArray} ++dD (i:Int))],[],[],[],[],[]] ?_))))) (noF SI)
        conv=>whnf
        refine⟨⟨I,I,I,Zam,⟨rfl,(by simp only[bsz,bsa,ByteArray.size_append,List.size_toArray,jY];omega)⟩,I,⟨UC,I⟩,Zao,I,UA,I⟩,by kernel_rfl,?_⟩
        refine rg [.i ((↑(Prod.fst (i,ts,q)):Int) +1)]<|J QZ ?_
        refine⟨(i+1,ts++ [(⟨(⟨#[120]⟩:ByteArray) ++dD i,1,[]⟩:Task)],q+1),[some 141,some 4,some 140,some 5],[],⟨rfl,FZ,⟨⟨rfl,UA⟩,⟨FZ,⟨FZ,⟨⟨rfl,⟨(congrArg (V.own _) (by rw[List.map_append];rfl)),I⟩⟩,I⟩⟩⟩⟩,I⟩,?_,?_⟩
        rotate_left
        rotate_right 1
        dsimp only
        ·refine⟨by omega,by rw[mf];omega,.inl (by rw[mf];omega),Ps i4 (NX _ rfl i),by omega,by omega⟩
        ·show 64 - (ts++ [_]).length < 64 - ts.length
         rw[mf];omega
       ·conv=>whnf
        refine Ws<|gd 95 101 [[],[],[],[],[.call (V.i (ac l q 2)) ([rdC l (q+1),[]])],[.i (40+ac l q 2)],[]] ?_
        conv=>whnf
        refine J (QA @aa)<|J KR<|Wc<|J (noT SI) fun _=>We<|g 5 140 []<|J UV<|W.ret<|EndsW.rt<|J UB ?_
        exact⟨⟨ts⟩,_,rfl,rfl,⟨by dsimp only;omega,i4⟩,by omega,by omega⟩
      ·by_cases c5:ac l (pos+1) 7 = 5
       ·refine dr ?_
        conv=>whnf
        refine g 0 0 []<|J QZ<|g 9 11 [.call (eA p) [[]]]<|J QZ<|g 11 16 [.call (V.i (kk:Int)) ([rdC l (pos+1),[]])]<|J QZ<|Ws<|g 16 19 []<|J UD<|Wc<|J (noT SI) fun _=>Wk<|Ws<|g 19 22 [.call (V.i (ac l (pos+1) 7)) ([rdC l (pos+1+1),[]])]<|J (QA @aa)<|Wb<|g 36 37 []<|J UB<|Wc<|J (noT dO) fun _=>?_
        refine g 35 36 []<|J UB<|Wc<|J (noT dO) fun _=>g 54 56 []<|J UB<|Wc<|J (noT dO) fun _=>g 66 68 []<|J UB<|Wc<|J (noT dO) fun _=>g 89 91 []<|J UB<|Wc<|J (noT dO) fun _=>g 22 95 []<|J UB<|Wc<|J (fun _=>(Ws (g 113 115 []<|J UA ?_))) (noF tO)
        refine Wb ?_
        refine Wl (fun s (x:Nat×List Task)=>⟨(SK s [0,1,3,4,5,6] [(8,.i x.1)]),[(140,[s.c 140 0,s.c 140 1]),(141,[s.c 141 0]),(3,[s.c 3 0]),(4,[s.c 4 0]),(5,[.own cY (x.2.map ay)])],[]⟩) (fun(x:Nat×List Task)=>x.1≤12∧x.1≤x.2.length∧x.2.length≤64∧(∀ t∈x.2,jm t)) (fun(x:Nat×List Task)=>64 - x.2.length) ((0,p.tasks)) [some 140,some 141,some 3,some 4,some 5] [] ⟨rfl,FZ,⟨FZ,⟨⟨rfl,UA⟩,FZ⟩⟩,I⟩ ?_ ?_
        ·exact⟨Nat.zero_le _,Nat.zero_le _,hp1,(ge hp).2⟩
        rintro⟨i,ts⟩ ⟨i1,i2,i3,i4⟩
        dsimp only at i1 i2 i3 i4
        by_cases hlt:ts.length < 12
        ·have cd:=fU i OM OM
         have hds:=gg i
         conv=>whnf
         refine Ws<|g 115 118 []<|J UD<|Wc<|JD (fun h2=>?_) fun h2=>?_
         simp only[LM]at h2
         refine Wk<|Ws<|Wb<|rgd [[],[],[],[.call (V.s (dD (i:Int))) [[]]],[.s ({data:=#[(121:UInt8)]:ByteArray} ++dD (i:Int))],[],[],[],[],[]] ?_
         conv=>whnf
         refine J ⟨I,I,I,Zam,⟨rfl,(by simp only[bsz,bsa,ByteArray.size_append,List.size_toArray,jY];omega)⟩,I,⟨UC,I⟩,Zao,I,UA,I⟩<|J KR<|rg [.i ((↑(Prod.fst (i,ts)):Int) +1)]<|J QZ ?_
         rotate_left
         simp only[LM]at h2
         omega
         refine⟨(i+1,ts++ [(⟨(⟨#[121]⟩:ByteArray) ++dD i,1,[]⟩:Task)]),[some 140,some 141,some 3,some 4,some 5],[],⟨rfl,FZ,⟨FZ,⟨⟨rfl,UA⟩,⟨FZ,⟨FZ,⟨⟨rfl,⟨(congrArg (V.own _) (by rw[List.map_append];rfl)),I⟩⟩,I⟩⟩⟩⟩⟩,I⟩,?_,?_⟩
         rotate_left
         rotate_right 1
         dsimp only
         ·refine⟨by omega,by rw[mf];omega,by rw[mf];omega,Ps i4 (NX _ rfl i)⟩
         ·show 64 - (ts++ [_]).length < 64 - ts.length
          rw[mf];omega
        ·obtain⟨t11,ht11⟩:=ae (xs:=ts) (n:=11) OM
         have r3:=aj l (pos+1+1) 2
         conv=>whnf
         refine Ws<|g 115 118 []<|J UD<|Wc<|J (fun h2=>?_) fun h2=>?_
         replace h2:=dt h2
         simp only[LM]at h2
         omega
         replace h2:=df h2
         simp only[LM]at h2
         refine We<|rgd [[],[],[],[],[.call (V.i (ac l (pos+1+1) 2)) ([rdC l (pos+1+1+1),[]])],[.i (8+ac l (pos+1+1) 2)],[.n (Int.toNat (8+ac l (pos+1+1) 2))],[.n (11)],[],[.x (ay t11)]] ?_
         conv=>whnf
         refine J (QA @aa)<|J KR<|g 5 140 []<|J UV<|W.ret<|EndsW.rt<|J UB ?_
         have hm11:=i4 t11 (List.mem_of_getElem? ht11)
         exact⟨⟨ts.set 11 ⟨t11.name,t11.cost,([0,1,2,3,4,5,6,7,8]:List Int).take (8+ac l (pos+1+1) 2).toNat⟩⟩,_,congrArg (fun z=>V.agg [V.own cY z]) ((congrArg ((ts.map ay).set 11) (show _ = ay ⟨t11.name,t11.cost,([0,1,2,3,4,5,6,7,8]:List Int).take (8+ac l (pos+1+1) 2).toNat⟩ by show [T.s t11.name,T.i t11.cost,T.slc [false] _] = [T.s t11.name,T.i t11.cost,T.slc [false] _];rw[List.drop_zero,List.map_take];rfl)).trans gW),rfl,SM i3 i4 ⟨hm11.1,by dsimp only;rw[List.length_take];show min _ 9≤128;omega⟩,by omega,by omega⟩
       ·refine dr ?_
        conv=>whnf
        refine g 0 0 []<|J QZ<|g 9 11 [.call (eA p) [[]]]<|J QZ<|g 11 16 [.call (V.i (kk:Int)) ([rdC l (pos+1),[]])]<|J QZ<|Ws<|g 16 19 []<|J UD<|Wc<|J (noT SI) fun _=>Wk<|Ws<|g 19 22 [.call (V.i (ac l (pos+1) 7)) ([rdC l (pos+1+1),[]])]<|J (QA @aa)<|Wb<|g 36 37 []<|J UB<|Wc<|J (noT dO) fun _=>?_
        refine g 35 36 []<|J UB<|Wc<|J (noT dO) fun _=>g 54 56 []<|J UB<|Wc<|J (noT dO) fun _=>g 66 68 []<|J UB<|Wc<|J (noT dO) fun _=>g 89 91 []<|J UB<|Wc<|J (noT dO) fun _=>g 22 95 []<|J UB<|Wc<|J (noT dO) fun _=>rgd [[],[],[],[],[],[],[.n (kk)],[],[.x (ay t)],[.s (t.name++ {data:=#[(122:UInt8)]:ByteArray})],[.n (kk)],[],[.x (ay t)]] ?_
        conv=>whnf
        refine⟨⟨I,I,I,I,I,I,Zan,I,xA,⟨rfl,(by simp only[bsz,bsa,ByteArray.size_append,List.size_toArray,jY];omega)⟩,Zan,I,⟨UA,xA⟩,I⟩,by kernel_rfl,?_⟩
        refine g 5 34 []<|J UV<|W.ret<|EndsW.rt<|J UB ?_
        have e1:(⟨#[122]⟩:ByteArray).size = 1:=rfl
        exact⟨⟨p.tasks.set kk ⟨t.name++ ⟨#[122]⟩,t.cost,t.deps⟩⟩,_,congrArg (fun z=>V.agg [V.own cY z]) (gW (t:=⟨t.name++ ⟨#[122]⟩,t.cost,t.deps⟩)),rfl,BB hp ⟨by dsimp only;rw[ByteArray.size_append];omega,by dsimp only;omega⟩,by omega,by omega⟩
theorem wR(l:List Int)(pos:Int)(p:Plan)(h:dh p∧dN l∧0≤pos∧pos≤1000000):∃ x:Plan×Int,F kg [.ptr (rdC l pos),.val (eA p)] (eA x.1) [rdC l x.2,[]]∧kH x.1∧pos≤x.2∧x.2≤pos+100:=by
 obtain⟨res,outs,⟨q,pos2,rfl,rfl,h1,h2,h3⟩,hF⟩:=S4 l pos p h.1 h.2.1 h.2.2.1 h.2.2.2
 exact⟨(q,pos2),hF,h1,h2,h3⟩
open Classical in
noncomputable def oa(l:List Int)(pos:Int)(p:Plan):Plan×Int:=if h:dh p∧dN l∧0≤pos∧pos≤1000000 then(wR l pos p h).choose else(⟨[]⟩,pos)
theorem AE(l:List Int)(pos:Int)(p:Plan)(hp:dh p)(hl:dN l)(h0:0≤pos)(h1:pos≤1000000):F kg [.ptr (rdC l pos),.val (eA p)] (eA (oa l pos p).1) [rdC l (oa l pos p).2,[]]:=by
 have h:dh p∧dN l∧0≤pos∧pos≤1000000:=⟨hp,hl,h0,h1⟩
 rw[oa,dif_pos h]
 exact(wR l pos p h).choose_spec.1
theorem Sw(l:List Int)(pos:Int)(p:Plan):kH (oa l pos p).1∧pos≤(oa l pos p).2∧(oa l pos p).2≤pos+100:=by
 unfold oa
 split
 ·rename_i h;exact(wR l pos p h).choose_spec.2
 ·exact⟨⟨Nat.zero_le _,fun t ht=>by cases ht⟩,Int.le_refl _,by dsimp only;omega⟩
end Go.K
end
section
open Go Go.Tm Go.Proofs
namespace Go.K
theorem o4(m:Message)(hl:m.inputs.length≤9223372036854775806):F Jb [.val (eS m)] (.b (decide (bL m))) [[]]:=by
 refine Js ?_
 conv=>whnf
 refine g 0 1 []<|J QZ<|Ws ?_
 by_cases h1:(1:Int)≤Message.kind m∧Message.kind m≤(5:Int)
 refine g 13 15 [.call (V.b (decide (1≤m.kind∧m.kind≤5))) [[],[],[]],BF,BF,BF,.call (V.b (decide (1≤m.epoch∧m.epoch≤300))) [[],[],[]],BF,BF]<|J (QA @av)<|Wc<|JN (fun h2=>?_) fun h2=>?_
 refine g 8 9 []<|J UA<|RT ?_
 rotate_left
 refine Wk<|g 20 25 [.call (V.tup [V.b (decide (1≤m.kind∧m.kind≤4)),V.b (decide (m.kind = 1∨m.kind = 3)),V.b (decide (m.kind = 3)),V.b (decide (m.kind = 1)),V.b (decide (m.kind = 1∨m.kind = 4))]) [[]]]<|J (QA @qL)<|Ws ?_
 by_cases h3:Message.kind m = (1:Int)∨Message.kind m = (4:Int)
 by_cases h4:Message.frm m = (0:Int)
 by_cases h5:(1:Int)≤Message.to m∧Message.to m≤(8:Int)
 refine g 29 53 (BT::BT::BT::BT::BF::BF::BF::.call (V.b (decide (1≤m.to∧m.to≤8))) [[],[],[]]::BF::BT::BF::BT::(RL 15 BF []))<|J (QA @av)<|Wc<|J (noT rfl) fun _=>Wk<|Ws ?_
 by_cases h6:(1:Int)≤Message.lease m∧Message.lease m≤(300000000:Int)
 by_cases h7:Message.kind m = (1:Int)∨Message.kind m = (3:Int)
 by_cases h8:(0:Int)≤Message.task m∧Message.task m≤(39:Int)
 refine g 11 87 (BT::BT::BT::.call (V.b (decide (1≤m.lease∧m.lease≤300000000))) [[]]::BT::BT::(RL 11 BF (BT::BT::BT::.call (V.b (decide (0≤m.task∧m.task≤39))) [[],[],[]]::BT::BF::BT::(RL 10 BF [])))) ?_
 conv=>whnf
 refine J (QB @aC @av)<|Wc<|J (noT rfl) fun _=>Wk<|Ws<|g 10 103 (RL 8 BF [BT,BT,BT,BF,BT,BF])<|J QZ<|Wc<|JN (fun h9=>?_) fun h9=>?_
 refine g 7 9 []<|J UA<|RT ?_
 rotate_left
 refine Wk ?_
 by_cases h10:fb (Message.inputs m)
 refine g 5 120 [BT,BT,BT,.call (V.b (decide (fb m.inputs))) [[]],BT,BT,BT,BT,BF,BF,BF,BF,BT,BT]<|J (QA @fo)<|RT ?_
 rotate_left
 refine g 5 120 (BT::BT::BT::.call (V.b (decide (fb m.inputs))) [[]]::BT::(RL 10 BF []))<|J (QA @fo)<|RT ?_
 rotate_left
 refine g 11 87 (BT::BT::BT::.call (V.b (decide (1≤m.lease∧m.lease≤300000000))) [[]]::BT::BT::(RL 11 BF [BT,BT,BT,.call (V.b (decide (0≤m.task∧m.task≤39))) [[],[],[]],BT,BF,BT,BF,BT,BT,BT,BF,BF,BF,BT,BT])) ?_
 conv=>whnf
 refine J (QB @aC @av)<|Wc<|J (fun _=>(g 3 4 []<|J UA (RT ?_))) (noF rfl)
 rotate_left
 refine g 11 87 (BT::BT::BT::.call (V.b (decide (1≤m.lease∧m.lease≤300000000))) [[]]::BT::BT::(RL 21 BF [BT,BT,BT,BF,BT,BF])) ?_
 conv=>whnf
 refine J (QA @aC)<|Wc<|JN (fun h8=>?_) fun h8=>?_
 refine g 3 4 []<|J UA<|RT ?_
 rotate_left
 refine Wk<|Ws<|g 10 103 (RL 8 BF [BT,BT,BT,BF,BT,BF])<|J QZ<|Wc<|JN (fun h9=>?_) fun h9=>?_
 refine g 7 9 []<|J UA<|RT ?_
 rotate_left
 refine Wk<|g 5 120 (RL 7 BF [BT,BT,BT,BT,BF,BT,BF])<|J QZ<|RT ?_
 rotate_left
 refine g 11 87 [BT,BT,BT,.call (V.b (decide (1≤m.lease∧m.lease≤300000000))) [[]],BT,BT,BT,BT,BT,BF,BF,BF,BT,BT,BT,BT,BF,BF,BF,BF,BT,BT,BT,BT,BT,BF,BF,BF,BT,BT] ?_
 conv=>whnf
 refine J (QA @aC)<|Wc<|J (fun _=>(g 3 4 []<|J UA (RT ?_))) (noF rfl)
 rotate_left
 refine g 29 53 (BT::BT::BT::BT::BF::BF::BF::.call (V.b (decide (1≤m.to∧m.to≤8))) [[],[],[]]::BF::BT::BF::BT::BT::BT::BT::(RL 9 BF [BT,BT]))<|J (QA @av)<|Wc<|J (fun _=>(g 11 16 []<|J UA (RT ?_))) (noF rfl)
 rotate_left
 refine g 29 53 (RL 14 BT (RL 9 BF [BT,BT]))<|J QZ<|Wc<|J (fun _=>(g 11 16 []<|J UA (RT ?_))) (noF rfl)
 rotate_left
 by_cases h4:Message.to m = (0:Int)
 refine g 29 53 (RL 13 BF [BT,BT,BT,BT,BF,BF,BF,.call (V.b (decide (1≤m.frm∧m.frm≤8))) [[],[],[]],BF,BT,BF,BF,BT,BF])<|J (QA @av)<|Wc<|JN (fun h5=>?_) fun h5=>?_
 refine g 11 16 []<|J UA<|RT ?_
 rotate_left
 refine Wk<|Ws ?_
 by_cases h6:(1:Int)≤Message.kind m∧Message.kind m≤(4:Int)
 by_cases h7:(1:Int)≤Message.lease m∧Message.lease m≤(300000000:Int)
 by_cases h8:Message.kind m = (1:Int)∨Message.kind m = (3:Int)
 by_cases h9:(0:Int)≤Message.task m∧Message.task m≤(39:Int)
 refine g 11 87 (BT::BT::BT::.call (V.b (decide (1≤m.lease∧m.lease≤300000000))) [[]]::BT::BT::(RL 11 BF (BT::BT::BT::.call (V.b (decide (0≤m.task∧m.task≤39))) [[],[],[]]::BT::BF::BT::(RL 10 BF [])))) ?_
 conv=>whnf
 refine J (QB @aC @av)<|Wc<|J (noT rfl) fun _=>Wk<|Ws ?_
 by_cases h10:(↑(ByteArray.size (Message.text m)):Int) = (8:Int)
 refine g 10 103 (BT::BT::BT::BT::BT::(RL 9 BF []))<|J QZ<|Wc<|J (noT rfl) fun _=>Wk<|g 5 120 (RL 7 BF [BT,BT,BT,BT,BF,BT,BF])<|J QZ<|RT ?_
 rotate_left
 refine g 10 103 (RL 8 BT [BF,BF,BF,BT,BT])<|J QZ<|Wc<|J (fun _=>(g 7 9 []<|J UA (RT ?_))) (noF rfl)
 rotate_left
 refine g 11 87 (BT::BT::BT::.call (V.b (decide (1≤m.lease∧m.lease≤300000000))) [[]]::BT::BT::(RL 11 BF [BT,BT,BT,.call (V.b (decide (0≤m.task∧m.task≤39))) [[],[],[]],BT,BF,BT,BF,BT,BT,BT,BF,BF,BF,BT,BT])) ?_
 conv=>whnf
 refine J (QB @aC @av)<|Wc<|J (fun _=>(g 3 4 []<|J UA (RT ?_))) (noF rfl)
 rotate_left
 refine g 11 87 (BT::BT::BT::.call (V.b (decide (1≤m.lease∧m.lease≤300000000))) [[]]::BT::BT::(RL 21 BF [BT,BT,BT,BF,BT,BF])) ?_
 conv=>whnf
 refine J (QA @aC)<|Wc<|JN (fun h9=>?_) fun h9=>?_
 refine g 3 4 []<|J UA<|RT ?_
 rotate_left
 refine Wk<|Ws<|g 10 103 (RL 8 BF [BT,BT,BT,BF,BT,BF])<|J QZ<|Wc<|JN (fun h10=>?_) fun h10=>?_
 refine g 7 9 []<|J UA<|RT ?_
 rotate_left
 refine Wk<|g 5 120 (RL 7 BF [BT,BT,BT,BT,BF,BT,BF])<|J QZ<|RT ?_
 rotate_left
 refine g 11 87 [BT,BT,BT,.call (V.b (decide (1≤m.lease∧m.lease≤300000000))) [[]],BT,BT,BT,BT,BT,BF,BF,BF,BT,BT,BT,BT,BF,BF,BF,BF,BT,BT,BT,BT,BT,BF,BF,BF,BT,BT] ?_
 conv=>whnf
 refine J (QA @aC)<|Wc<|J (fun _=>(g 3 4 []<|J UA (RT ?_))) (noF rfl)
 rotate_left
 by_cases h7:Message.lease m = (0:Int)
 refine g 11 87 (RL 8 BF (BT::BT::BT::BF::BT::(RL 13 BF [BT,BT,BT,BF,BT,BF]))) ?_
 conv=>whnf
 refine J QZ<|Wc<|JN (fun h8=>?_) fun h8=>?_
 refine g 3 4 []<|J UA<|RT ?_
 rotate_left
 refine Wk<|Ws<|g 10 103 (RL 8 BF [BT,BT,BT,BF,BT,BF])<|J QZ<|Wc<|JN (fun h9=>?_) fun h9=>?_
 refine g 7 9 []<|J UA<|RT ?_
 rotate_left
 refine Wk<|g 5 120 (RL 7 BF [BT,BT,BT,BT,BF,BT,BF])<|J QZ<|RT ?_
 rotate_left
 refine g 11 87 (RL 8 BF [BT,BT,BT,BF,BT,BF,BT,BT,BF,BF,BF,BF,BT,BT,BT,BT,BT,BF,BF,BF,BT,BT]) ?_
 conv=>whnf
 refine J QZ<|Wc<|J (fun _=>(g 3 4 []<|J UA (RT ?_))) (noF rfl)
 rotate_left
 refine g 29 53 (RL 13 BF (RL 10 BT [BF,BT,BF]))<|J QZ<|Wc<|J (fun _=>(g 11 16 []<|J UA (RT ?_))) (noF rfl)
 rotate_left
 refine g 13 15 [.call (V.b (decide (1≤m.kind∧m.kind≤5))) [[],[],[]],BT,BT,BT,BT,BT]<|J (QA @av)<|Wc<|J (fun _=>(g 8 9 []<|J UA (RT ?_))) (noF rfl)
 rotate_left
 all_goals (try simp only[List.length_map,decide_eq_true_eq,Bool.not_eq_true,Bool.not_eq_true',decide_eq_false_iff_not]at *)
 all_goals first
  |exact vbf (by unfold bL;grind)
  |exact vbt (by unfold bL;grind)
  |exact vbd (by unfold bL;grind)
end Go.K
end
section
open Go Go.Tm Go.Proofs
namespace Go.K
def BI(m:Message):List Int:=[m.kind,m.frm,m.to,m.epoch / 256,m.epoch % 256,m.lease / 16777216,m.lease / 65536 % 256,m.lease / 256 % 256,m.lease % 256,m.task,m.inputs.length]
def jB:List ByteArray→ByteArray
 |[]=>emp
 |x :: l=>x++jB l
theorem ML(s:ByteArray):emp++s = s:=by apply ByteArray.ext;simp[emp]
theorem IG(s:ByteArray):s++emp = s:=by apply ByteArray.ext;simp[emp]
theorem CC:∀ a b,jB (a++b) = jB a++jB b
 |[],b=>by simp only[List.nil_append,jB,ML]
 |x :: a,b=>by simp only[List.cons_append,jB,CC a b,ByteArray.append_assoc]
theorem Gg{xs:List ByteArray}{n:Nat}{x:ByteArray}(h:xs[n]? = some x):jB (xs.take (n+1)) = jB (xs.take n) ++x:=by
 rw[List.take_add_one,h,CC];simp only[Option.toList,jB,IG]
def dA(m:Message):ByteArray:=bl (BI m) ++m.text++jB m.inputs
theorem Gj{l:List Int}(h:∀ n∈l,0≤n∧n≤255):cL (bl l) = l.map b1T:=by
 unfold cL bl b1T
 simp only[List.map_map]
 apply List.map_congr_left
 intro n hn
 obtain⟨h1,h2⟩:=h n hn
 simp only[Function.comp]
 congr 4
 simp;omega
theorem dp{m:Message}(h:bL m):m.inputs.length≤8∧(∀ s∈m.inputs,s.size = 8)∧m.text.size≤8:=by
 have he:emp.size = 0:=rfl
 obtain⟨_,h|h|h|h|h⟩:=h
 ·obtain⟨_,_,_,_,_,h1,h2,h3⟩:=h
  exact⟨h3,h2,by rw[h1];omega⟩
 all_goals
  obtain⟨_,_,_,_,_,h1,h2⟩:=h
  have:m.inputs = []:=List.eq_nil_of_length_eq_zero OM
  rw[this]
  refine⟨by simp,(fun s hs=>nomatch hs),?_⟩
  first
   |(rw[h1];omega)
   |omega
theorem gf{m:Message}(h:bL m):(1≤m.kind∧m.kind≤5)∧(0≤m.frm∧m.frm≤8)∧(0≤m.to∧m.to≤8)∧(1≤m.epoch∧m.epoch≤300)∧(0≤m.lease∧m.lease≤300000000)∧(0≤m.task∧m.task≤39):=by
 obtain⟨h0,h|h|h|h|h⟩:=h
 all_goals
  obtain⟨h1,h2,h3,h4,h5,_⟩:=h
  refine⟨?_,?_,?_,h0,?_,?_⟩ <;> omega
theorem FR{m:Message}(h:bL m):∀ n∈BI m,0≤n∧n≤255:=by
 obtain⟨h1,h2,h3,h4,h5,h6⟩:=gf h
 have h7:=(dp h).1
 intro n hn
 simp only[BI,List.mem_cons,List.not_mem_nil,or_false]at hn
 rcases hn with rfl|rfl|rfl|rfl|rfl|rfl|rfl|rfl|rfl|rfl|rfl <;> omega
def gU(m:Message)(n:Nat):ByteArray:=bl (BI m) ++m.text++jB (m.inputs.take n)
theorem sB(m:Message):gU m 0 = bl (BI m) ++m.text:=by unfold gU;rw[List.take_zero,jB,IG]
theorem B4{m:Message}{n:Nat}{x:ByteArray}(h:m.inputs[n]? = some x):cL (gU m n) ++cL x = cL (gU m (n+1)):=by
 unfold gU;rw[Gg h,←nV];simp only[ByteArray.append_assoc]
theorem wX(m:Message):gU m m.inputs.length = dA m:=by unfold gU dA;rw[List.take_length]
theorem sC{m:Message}(h:bL m)(n:Nat)(hn:n≤m.inputs.length):(gU m n).size = 11+m.text.size+8 * n:=by
 obtain⟨h7,h8,h9⟩:=dp h
 induction n with
 |zero=>rw[sB,ByteArray.size_append,gQ];rfl
 |succ k ih =>
  have hk:k < m.inputs.length:=by omega
  have:=congrArg List.length (B4 (List.getElem?_eq_getElem hk))
  rw[List.length_append,gI,gI,gI,ih OM,h8 _ (List.getElem_mem hk)]at this
  omega
theorem MQ{m:Message}(h:bL m):[m.kind,m.frm,m.to,IntKind.u8.wrap (IntKind.i64.wrap (m.epoch.tdiv 256)),IntKind.u8.wrap (m.epoch.tmod 256),IntKind.u8.wrap (IntKind.i64.wrap (m.lease.tdiv 16777216)),IntKind.u8.wrap ((IntKind.i64.wrap (m.lease.tdiv 65536)).tmod 256),IntKind.u8.wrap ((IntKind.i64.wrap (m.lease.tdiv 256)).tmod 256),IntKind.u8.wrap (m.lease.tmod 256),m.task,IntKind.u8.wrap ((m.inputs.map ai).length:Int)].map b1T++cL m.text = cL (gU m 0):=by
 obtain⟨h1,h2,h3,h4,h5,h6⟩:=gf h
 have h7:=(dp h).1
 rw[sB,nV,Gj (FR h)]
 unfold BI
 rw[List.length_map,Int.tdiv_eq_ediv_of_nonneg OM,Int.tdiv_eq_ediv_of_nonneg OM,Int.tdiv_eq_ediv_of_nonneg OM,Int.tdiv_eq_ediv_of_nonneg OM,w64 (z:=m.lease / 65536) OM OM,w64 (z:=m.lease / 256) OM OM,w64 (z:=m.lease / 16777216) OM OM,w64 (z:=m.epoch / 256) OM OM,Int.tmod_eq_emod_of_nonneg OM,Int.tmod_eq_emod_of_nonneg OM,Int.tmod_eq_emod_of_nonneg OM,Int.tmod_eq_emod_of_nonneg OM,wu8 OM OM,wu8 OM OM,wu8 OM OM,wu8 OM OM,wu8 OM OM,wu8 OM OM,wu8 OM OM]
theorem Et(m:Message)(h:bL m):F C9 [.val (eS m)] (.s (dA m)) [[]]:=by
 obtain⟨h1,h2,h3,h4,h5,h6⟩:=gf h
 obtain⟨h7,h8,h9⟩:=dp h
 refine DR ?_
 conv=>whnf
 refine g 0 0 []<|J QZ<|g 0 0 []<|J UC<|g 10 47 [.i m.kind,.i m.frm,.i m.to,.i (IntKind.wrap IntKind.i64 (Int.tdiv m.epoch 256)),.i (IntKind.wrap IntKind.u8 (IntKind.wrap IntKind.i64 (Int.tdiv m.epoch 256))),.i (Int.tmod m.epoch 256),.i (IntKind.wrap IntKind.u8 (Int.tmod m.epoch 256)),.i (IntKind.wrap IntKind.i64 (Int.tdiv m.lease 16777216)),.i (IntKind.wrap IntKind.u8 (IntKind.wrap IntKind.i64 (Int.tdiv m.lease 16777216))),.i (IntKind.wrap IntKind.i64 (Int.tdiv m.lease 65536)),.i (Int.tmod (IntKind.wrap IntKind.i64 (Int.tdiv m.lease 65536)) 256),.i (IntKind.wrap IntKind.u8 (Int.tmod (IntKind.wrap IntKind.i64 (Int.tdiv m.lease 65536)) 256)),.i (IntKind.wrap IntKind.i64 (Int.tdiv m.lease 256)),.i (Int.tmod (IntKind.wrap IntKind.i64 (Int.tdiv m.lease 256)) 256),.i (IntKind.wrap IntKind.u8 (Int.tmod (IntKind.wrap IntKind.i64 (Int.tdiv m.lease 256)) 256)),.i (Int.tmod m.lease 256),.i (IntKind.wrap IntKind.u8 (Int.tmod m.lease 256)),.i m.task,.i (IntKind.wrap IntKind.u8 (↑(List.length (List.map ai m.inputs)):Int))]<|J QZ<|g 47 51 []<|J QZ<|Ws<|g 6 9 []<|J UA<|Wb<|Wl (fun s (n:Nat)=>⟨[(1,s.s 1),(2,s.s 2),(4,.ref ⟨4,none,0⟩),(5,.i n),(9,s.s 9)],[(1,(CK s 1 0 8 [])),(4,[.own [false] (cL (gU m n))])],[]⟩) (fun(n:Nat)=>n≤m.inputs.length) (fun(n:Nat)=>m.inputs.length - n) (0) [some 1,some 50] [] ⟨rfl,FZ,⟨FZ,⟨⟨rfl,⟨(congrArg (V.own _) (MQ h)),I⟩⟩,I⟩⟩,I⟩ OM ?_
 intro n hn
 have hc:=sC h n hn
 have hb:=gI (gU m n)
 conv=>whnf
 refine Ws<|g 51 55 []<|J UE<|Wc<|JD (fun h10=>?_) fun h10=>?_
 simp only[LM]at h10
 refine Wk<|Ws<|Wb ?_
 obtain⟨y1,hy1⟩:=ae (xs:=Message.inputs m) (n:=n) OM
 have hm1:=h8 y1 (List.mem_of_getElem? hy1)
 refine rg [.x (ai y1)]<|J QZ<|rg [.i ((n:Int) +1)]<|J QZ ?_
 rotate_left
 simp only[LM]at h10
 refine We<|g 55 67 [.s (gU m n)]<|J ⟨I,⟨I,jS _,(ki _).symm⟩,I,I⟩<|RT ?_
 rotate_left
 ·refine⟨n+1,[some 1,some 64],[],⟨rfl,FZ,⟨FZ,⟨⟨rfl,⟨(congrArg (V.own _) (B4 AS)),I⟩⟩,I⟩⟩,I⟩,?_,?_⟩
  rotate_left
  (dsimp only;omega)
  dsimp only
  omega
 ·exact vs (by rw[show n = m.inputs.length from by omega,wX])
end Go.K
end
section
open Go Go.Tm Go.Proofs
namespace Go.K
attribute [local irreducible] ByteArray.extract
def dR(m:Message)(key:ByteArray):ByteArray:=if bL m∧key.size≤30 then fH (dA m) key++dA m else emp
theorem gJ{m:Message}(h:bL m):(dA m).size = 11+m.text.size+8 * m.inputs.length:=by
 rw[←wX,sC h _ (Nat.le_refl _)]
theorem dQ(m:Message)(key:ByteArray)(hl:m.inputs.length≤9223372036854775806):F qW [.val (eS m),.val (.s key)] (.s (dR m key)) [[],[]]:=by
 have c1:=o4 m hl
 have c2:=Et m
 by_cases h:bL m
 ·have hb:=gJ h
  obtain⟨h7,h8,h9⟩:=dp h
  rw[show decide (bL m) = true from decide_eq_true h]at c1
  have c3:=c2 h
  clear c2
  by_cases hk:key.size≤30
  ·have c4:=nr (key++nul++dA m) (by rw[ByteArray.size_append,ByteArray.size_append];have:nul.size = 1:=rfl;omega)
   rw[g9,show bl (beL (gH h0v (key++nul++dA m)) 8) = fH (dA m) key from rfl]at c4
   have hn:nul.size = 1:=rfl
   have h2:(fH (dA m) key).size = 8:=dY _
   refine gw ?_
   conv=>whnf
   refine g 0 1 []<|J QZ<|Ws<|g 6 9 [.call VT [[]],BF,BF,BF,BF]<|J QZ<|Wc<|J (noT dO) fun _=>Wk<|g 10 16 [.call (V.s (dA m)) [[]]]<|J QZ<|g 16 23 [.s (key++ {data:=#[(0:UInt8)]:ByteArray}),.s (key++ {data:=#[(0:UInt8)]:ByteArray} ++dA m),.call (V.s (fH (dA m) key)) [[]],.s (fH (dA m) key++dA m)]<|J ⟨I,⟨rfl,(by simp only[bsz,bsa,ByteArray.size_append,List.size_toArray,jY];omega)⟩,I,⟨rfl,(by simp only[bsz,bsa,ByteArray.size_append,List.size_toArray,jY];omega)⟩,Zam,I,⟨rfl,OM⟩,I,I⟩<|RT ?_
   exact vs (if_pos ⟨h,hk⟩).symm
  ·refine gw ?_
   conv=>whnf
   refine g 0 1 []<|J QZ<|Ws<|g 6 9 [.call VT [[]],BF,BF,BF,BF]<|J QZ<|Wc<|J (fun _=>(g 10 14 []<|J UA (RT ?_))) (noF tO)
   exact vs (if_neg (fun h=>hk h.2)).symm
 ·rw[show decide (bL m) = false from decide_eq_false h]at c1
  clear c2
  refine gw ?_
  conv=>whnf
  refine g 0 1 []<|J QZ<|Ws<|g 6 9 [.call VF [[]],BT,BT,BT,BT]<|J QZ<|Wc<|J (fun _=>(g 10 14 []<|J UA (RT ?_))) (noF rfl)
  exact vs (if_neg (fun x=>h x.1)).symm
def cK(r:ByteArray)(n:Nat):List ByteArray:=(List.range n).map fun k=>r.extract (8 * k) (8 * k+8)
def rdM(b:ByteArray):Message :=
 ⟨byt b 0,byt b 1,byt b 2,byt b 3 * 256+byt b 4,byt b 5 * 16777216+byt b 6 * 65536+byt b 7 * 256+byt b 8,byt b 9,if byt b 0 = 3 then b.extract 11 b.size else emp,if byt b 0 = 3 then []else cK (b.extract 11 b.size) ((b.size - 11) / 8)⟩
def eG(s key:ByteArray):Option Message:=if s.size < 19∨dR (rdM (s.extract 8 s.size)) key≠s then none else some (rdM (s.extract 8 s.size))
def gA:Option Message→V
 |none=>.tup [bx PN,.b false]
 |some m=>.tup [bx m,.b true]
theorem oY(r:ByteArray)(n:Nat):cK r (n+1) = cK r n++ [r.extract (8 * n) (8 * n+8)]:=by
 unfold cK;rw[List.range_succ,List.map_append];rfl
def rdF(b:ByteArray)(t:ByteArray)(l:List ByteArray):Message :=
 ⟨byt b 0,byt b 1,byt b 2,byt b 3 * 256+byt b 4,byt b 5 * 16777216+byt b 6 * 65536+byt b 7 * 256+byt b 8,byt b 9,t,l⟩
theorem oI{s key:ByteArray}(h:s.size < 19):eG s key = none:=if_pos (Or.inl h)
theorem Kp{s key:ByteArray}{m:Message}(h:rdM (s.extract 8 s.size) = m)(h2:¬dR m key = s):eG s key = none:=if_pos (Or.inr (by rw[h];exact h2))
theorem pJ{s key:ByteArray}{m:Message}(h0:¬s.size < 19)(h:rdM (s.extract 8 s.size) = m)(h2:dR m key = s):eG s key = some m:=by
 unfold eG;rw[h,if_neg];rintro(h|h);exact h0 h;exact h h2
def bA(s:ByteArray):ByteArray:=(s.extract 8 s.size).extract 11 (s.extract 8 s.size).size
def kF(s:ByteArray)(n:Nat):ByteArray:=(bA s).extract (8 * n) (bA s).size
theorem L2(s:ByteArray):bA s = kF s 0:=by unfold kF;rw[Nat.mul_zero,ByteArray.extract_zero_size]
theorem L4{s:ByteArray}{n:Nat}(hz:(bA s).size = s.size - 19)(h:8 * n≤s.size - 19):(kF s n).size = s.size - 19 - 8 * n:=by
 unfold kF;rw[ByteArray.size_extract];omega
theorem L5{s:ByteArray}{n:Nat}(h:8 * n+8≤(bA s).size):(kF s n).extract 0 8 = (bA s).extract (8 * n) (8 * n+8):=by
 unfold kF;rw[ByteArray.extract_extract,Nat.min_eq_left OM,Nat.add_zero]
theorem L3(s:ByteArray)(n:Nat)(h:8 * n+8≤(bA s).size):(kF s n).extract 8 (kF s n).size = kF s (n+1):=by
 have:(kF s n).size = (bA s).size - 8 * n:=by unfold kF;rw[ByteArray.size_extract];omega
 rw[this]
 unfold kF;rw[ByteArray.extract_extract,show 8 * n+8 = 8 * (n+1) by omega,show min (8 * n+ ((bA s).size - 8 * n)) (bA s).size = (bA s).size by omega]
theorem sz(r:ByteArray)(n:Nat):(cK r n).length = n:=by unfold cK;rw[List.length_map,List.length_range]
theorem JF{s:ByteArray}{n:Nat}(h:8 * n+8≤(bA s).size):(cK (bA s) n).map ai++ [ai ((kF s n).extract 0 8)] = (cK (bA s) (n+1)).map ai:=by
 rw[oY,List.map_append,L5 h];rfl
theorem j5(tx key:ByteArray)(ht:tx.size≤68719476736):F qV [.val (.s tx),.val (.s key)] (gA (eG tx key)) [[],[]]:=by
 by_cases h0:tx.size < 19
 ·refine gv ?_
  conv=>whnf
  refine g 0 0 []<|J UB<|Ws<|g 9 11 []<|J UC<|Wc<|J (fun _=>(g 11 13 []<|J QZ (RT ?_))) (noF tO)
  exact congrArg gA (oI h0).symm
 have hx:(tx.extract 8 tx.size).size = tx.size - 8:=by rw[ByteArray.size_extract];omega
 obtain⟨y1,hy1,hb1⟩:=bB (s:=tx.extract 8 tx.size) (n:=0) OM
 obtain⟨y2,hy2,hb2⟩:=bB (s:=tx.extract 8 tx.size) (n:=1) OM
 obtain⟨y3,hy3,hb3⟩:=bB (s:=tx.extract 8 tx.size) (n:=2) OM
 obtain⟨y4,hy4,hb4⟩:=bB (s:=tx.extract 8 tx.size) (n:=3) OM
 obtain⟨y5,hy5,hb5⟩:=bB (s:=tx.extract 8 tx.size) (n:=4) OM
 obtain⟨y6,hy6,hb6⟩:=bB (s:=tx.extract 8 tx.size) (n:=5) OM
 obtain⟨y7,hy7,hb7⟩:=bB (s:=tx.extract 8 tx.size) (n:=6) OM
 obtain⟨y8,hy8,hb8⟩:=bB (s:=tx.extract 8 tx.size) (n:=7) OM
 obtain⟨y9,hy9,hb9⟩:=bB (s:=tx.extract 8 tx.size) (n:=8) OM
 obtain⟨y10,hy10,hb10⟩:=bB (s:=tx.extract 8 tx.size) (n:=9) OM
 have e:∀ t l,rdF (tx.extract 8 tx.size) t l = ⟨y1.toNat,y2.toNat,y3.toNat,(y4.toNat:Int) * 256+y5.toNat,(y6.toNat:Int) * 16777216+ (y7.toNat:Int) * 65536+ (y8.toNat:Int) * 256+y9.toNat,y10.toNat,t,l⟩:=by
  intro t l;simp only[rdF,bI hy1,bI hy2,bI hy3,bI hy4,bI hy5,bI hy6,bI hy7,bI hy8,bI hy9,bI hy10]
 by_cases h3:(y1.toNat:Int) = 3
 ·have e1:rdM (tx.extract 8 tx.size) = ⟨y1.toNat,y2.toNat,y3.toNat,(y4.toNat:Int) * 256+y5.toNat,(y6.toNat:Int) * 16777216+ (y7.toNat:Int) * 65536+ (y8.toNat:Int) * 256+y9.toNat,y10.toNat,(tx.extract 8 tx.size).extract 11 (tx.extract 8 tx.size).size,[]⟩:=by
   rw[←e];unfold rdM rdF;rw[bI hy1,if_pos h3,if_pos h3]
  have c1:=dQ (rdM (tx.extract 8 tx.size)) key (by rw[e1];simp)
  rw[e1]at c1
  refine gv ?_
  conv=>whnf
  refine g 0 0 []<|J UB<|Ws<|g 9 11 []<|J UC<|Wc<|J (noT dO) fun _=>Wk<|g 11 15 [.n (8),.s (ByteArray.extract tx 8 (ByteArray.size tx))]<|J QZ<|gd 15 36 [[],[.i ((↑(UInt8.toNat y1):Int))],[.i ((↑(UInt8.toNat y1):Int))],[],[.i ((↑(UInt8.toNat y2):Int))],[.i ((↑(UInt8.toNat y2):Int))],[],[.i ((↑(UInt8.toNat y3):Int))],[.i ((↑(UInt8.toNat y3):Int))],[],[.i ((↑(UInt8.toNat y4):Int))],[.i ((↑(UInt8.toNat y4):Int))],[.i ((↑(UInt8.toNat y4):Int) * 256)],[],[.i ((↑(UInt8.toNat y5):Int))],[.i ((↑(UInt8.toNat y5):Int))],[.i ((↑(UInt8.toNat y4):Int) * 256+ (↑(UInt8.toNat y5):Int))],[],[.i ((↑(UInt8.toNat y10):Int))],[.i ((↑(UInt8.toNat y10):Int))],[],[],[]] ?_
  conv=>whnf
  refine J QZ<|J KR<|gd 36 55 [[],[.i ((↑(UInt8.toNat y6):Int))],[.i ((↑(UInt8.toNat y6):Int))],[.i ((↑(UInt8.toNat y6):Int) * 16777216)],[],[.i ((↑(UInt8.toNat y7):Int))],[.i ((↑(UInt8.toNat y7):Int))],[.i ((↑(UInt8.toNat y7):Int) * 65536)],[.i ((↑(UInt8.toNat y6):Int) * 16777216+ (↑(UInt8.toNat y7):Int) * 65536)],[],[.i ((↑(UInt8.toNat y8):Int))],[.i ((↑(UInt8.toNat y8):Int))],[.i ((↑(UInt8.toNat y8):Int) * 256)],[.i ((↑(UInt8.toNat y6):Int) * 16777216+ (↑(UInt8.toNat y7):Int) * 65536+ (↑(UInt8.toNat y8):Int) * 256)],[],[.i ((↑(UInt8.toNat y9):Int))],[.i ((↑(UInt8.toNat y9):Int))],[.i ((↑(UInt8.toNat y6):Int) * 16777216+ (↑(UInt8.toNat y7):Int) * 65536+ (↑(UInt8.toNat y8):Int) * 256+ (↑(UInt8.toNat y9):Int))],[],[]] ?_
  conv=>whnf
  refine J QZ<|J KR<|g 55 57 [.n (11),.s (ByteArray.extract (ByteArray.extract tx 8 (ByteArray.size tx)) 11 (ByteArray.size (ByteArray.extract tx 8 (ByteArray.size tx))))]<|J QZ<|Ws<|g 57 59 []<|J UC<|Wc<|J (fun _=>(rg []<|J QZ (Ws (g 8 78 [.call (V.s (dR {kind:=(↑(UInt8.toNat y1):Int),frm:=(↑(UInt8.toNat y2):Int),to:=(↑(UInt8.toNat y3):Int),epoch:=(↑(UInt8.toNat y4):Int) * 256+ (↑(UInt8.toNat y5):Int),lease:=(↑(UInt8.toNat y6):Int) * 16777216+ (↑(UInt8.toNat y7):Int) * 65536+ (↑(UInt8.toNat y8):Int) * 256+ (↑(UInt8.toNat y9):Int),task:=(↑(UInt8.toNat y10):Int),text:=ByteArray.extract (ByteArray.extract tx 8 (ByteArray.size tx)) 11 (ByteArray.size (ByteArray.extract tx 8 (ByteArray.size tx))),inputs:=[]:Message} key)) [[],[]]]<|J QZ (Wc<|J (fun h1=>?_) fun h1=>?_))))) (noF tO)
  replace h1:=ndt h1
  refine g 0 2 []<|J QZ<|RT ?_
  rotate_left
  replace h1:=ndf h1
  refine Wk<|g 6 81 []<|J QZ<|RT ?_
  rotate_left
  ·exact congrArg gA (Kp e1 AS).symm
  ·exact congrArg gA (pJ h0 e1 AS).symm
 ·have e1:∀ n,n = (tx.size - 19) / 8→rdM (tx.extract 8 tx.size) = ⟨y1.toNat,y2.toNat,y3.toNat,(y4.toNat:Int) * 256+y5.toNat,(y6.toNat:Int) * 16777216+ (y7.toNat:Int) * 65536+ (y8.toNat:Int) * 256+y9.toNat,y10.toNat,emp,cK (bA tx) n⟩:=by
   intro n hn;rw[←e];unfold rdM rdF;rw[bI hy1,if_neg h3,if_neg h3,hn,hx,bA,hx,show tx.size - 8 - 11 = tx.size - 19 by omega]
  have hz:(bA tx).size = tx.size - 19:=by unfold bA;rw[ByteArray.size_extract,hx];omega
  refine gv ?_
  conv=>whnf
  refine g 0 0 []<|J UB<|Ws<|g 9 11 []<|J UC<|Wc<|J (noT dO) fun _=>Wk<|g 11 15 [.n (8),.s (ByteArray.extract tx 8 (ByteArray.size tx))]<|J QZ<|gd 15 36 [[],[.i ((↑(UInt8.toNat y1):Int))],[.i ((↑(UInt8.toNat y1):Int))],[],[.i ((↑(UInt8.toNat y2):Int))],[.i ((↑(UInt8.toNat y2):Int))],[],[.i ((↑(UInt8.toNat y3):Int))],[.i ((↑(UInt8.toNat y3):Int))],[],[.i ((↑(UInt8.toNat y4):Int))],[.i ((↑(UInt8.toNat y4):Int))],[.i ((↑(UInt8.toNat y4):Int) * 256)],[],[.i ((↑(UInt8.toNat y5):Int))],[.i ((↑(UInt8.toNat y5):Int))],[.i ((↑(UInt8.toNat y4):Int) * 256+ (↑(UInt8.toNat y5):Int))],[],[.i ((↑(UInt8.toNat y10):Int))],[.i ((↑(UInt8.toNat y10):Int))],[],[],[]] ?_
  conv=>whnf
  refine J QZ<|J KR<|gd 36 55 [[],[.i ((↑(UInt8.toNat y6):Int))],[.i ((↑(UInt8.toNat y6):Int))],[.i ((↑(UInt8.toNat y6):Int) * 16777216)],[],[.i ((↑(UInt8.toNat y7):Int))],[.i ((↑(UInt8.toNat y7):Int))],[.i ((↑(UInt8.toNat y7):Int) * 65536)],[.i ((↑(UInt8.toNat y6):Int) * 16777216+ (↑(UInt8.toNat y7):Int) * 65536)],[],[.i ((↑(UInt8.toNat y8):Int))],[.i ((↑(UInt8.toNat y8):Int))],[.i ((↑(UInt8.toNat y8):Int) * 256)],[.i ((↑(UInt8.toNat y6):Int) * 16777216+ (↑(UInt8.toNat y7):Int) * 65536+ (↑(UInt8.toNat y8):Int) * 256)],[],[.i ((↑(UInt8.toNat y9):Int))],[.i ((↑(UInt8.toNat y9):Int))],[.i ((↑(UInt8.toNat y6):Int) * 16777216+ (↑(UInt8.toNat y7):Int) * 65536+ (↑(UInt8.toNat y8):Int) * 256+ (↑(UInt8.toNat y9):Int))],[],[]] ?_
  conv=>whnf
  refine J QZ<|J KR<|g 55 57 [.n (11),.s (ByteArray.extract (ByteArray.extract tx 8 (ByteArray.size tx)) 11 (ByteArray.size (ByteArray.extract tx 8 (ByteArray.size tx))))]<|J QZ<|Ws<|g 57 59 []<|J UC<|Wc<|J (noT dO) fun _=>Wb<|Wl (fun s (n:Nat)=>⟨(SK s [0,1,4,5,7] [(8,.s (kF tx n))]),[(4,(CK s 4 0 8 [])),(7,[.t (.i y1.toNat),.t (.i y2.toNat),.t (.i y3.toNat),.t (.i ((y4.toNat:Int) * 256+y5.toNat)),.t (.i ((y6.toNat:Int) * 16777216+ (y7.toNat:Int) * 65536+ (y8.toNat:Int) * 256+y9.toNat)),.t (.i y10.toNat),.t (.s emp),.own [false] ((cK (bA tx) n).map ai)])],[]⟩) (fun(n:Nat)=>8 * n≤tx.size - 19) (fun(n:Nat)=>tx.size - 8 * n) (0) [some 4,some 7] [] ⟨rfl,⟨rfl,rfl,rfl,rfl,rfl,(congrArg (fun z=>V.t (T.v (Value.string z))) (L2 tx)),I⟩,FZ,I⟩ OM ?_
  intro n hn
  have hs:=L4 (s:=tx) (n:=n) hz hn
  have c1:=fun n=>dQ ⟨y1.toNat,y2.toNat,y3.toNat,(y4.toNat:Int) * 256+y5.toNat,(y6.toNat:Int) * 16777216+ (y7.toNat:Int) * 65536+ (y8.toNat:Int) * 256+y9.toNat,y10.toNat,emp,cK (bA tx) n⟩ key
  have c2:=c1 n (by simp only[cK,List.length_map,List.length_range];omega)
  clear c1
  have hcl:=sz (bA tx) n
  conv=>whnf
  refine Ws<|g 62 64 []<|J UC<|Wc<|JD (fun h1=>?_) fun h1=>?_
  refine Wk<|Wb<|gd 64 72 [[],[],[],[.n (8),.s (ByteArray.extract (kF tx n) 0 8)],[],[],[],[]] ?_
  conv=>whnf
  refine J QZ<|J KR<|rg [.n (8),.s (ByteArray.extract (kF tx n) 8 (ByteArray.size (kF tx n)))]<|J QZ ?_
  rotate_left
  refine We<|Ws<|g 8 78 [.call (V.s (dR {kind:=(↑(UInt8.toNat y1):Int),frm:=(↑(UInt8.toNat y2):Int),to:=(↑(UInt8.toNat y3):Int),epoch:=(↑(UInt8.toNat y4):Int) * 256+ (↑(UInt8.toNat y5):Int),lease:=(↑(UInt8.toNat y6):Int) * 16777216+ (↑(UInt8.toNat y7):Int) * 65536+ (↑(UInt8.toNat y8):Int) * 256+ (↑(UInt8.toNat y9):Int),task:=(↑(UInt8.toNat y10):Int),text:=emp,inputs:=cK (bA tx) n:Message} key)) [[],[]]]<|J QZ<|Wc<|JN (fun h2=>?_) fun h2=>?_
  refine g 0 2 []<|J QZ<|RT ?_
  rotate_left
  refine Wk<|g 7 81 []<|J QZ<|RT ?_
  rotate_left
  ·refine⟨n+1,[some 4,some 7],[],⟨rfl,⟨rfl,rfl,rfl,rfl,rfl,(congrArg (fun z=>V.t (T.v (Value.string z))) (L3 tx n OM)),I⟩,⟨FZ,⟨⟨rfl,⟨rfl,⟨rfl,⟨rfl,⟨rfl,⟨rfl,⟨rfl,⟨rfl,⟨(congrArg (V.own _) (JF OM)),I⟩⟩⟩⟩⟩⟩⟩⟩⟩,I⟩⟩,I⟩,?_,?_⟩
   rotate_left
   (dsimp only;omega)
   dsimp only
   omega
  ·exact congrArg gA (Kp (e1 n OM) AS).symm
  ·exact congrArg gA (pJ h0 (e1 n OM) AS).symm
end Go.K
end

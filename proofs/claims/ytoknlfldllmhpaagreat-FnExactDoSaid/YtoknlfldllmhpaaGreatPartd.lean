/- Contracts of functions of the program: what each call answers. -/
import Derived.Test.YtoknlfldllmhpaaGreatPartc
import Derived.Test.YtoknlfldllmhpaaGreatProg
set_option maxHeartbeats 8000000
set_option maxRecDepth 20000
set_option linter.unusedVariables false
set_option linter.unusedSimpArgs false
section
open Go Go.Tm Go.Proofs
namespace Go.K
def E:Env:=(.node (.node (.node (.node (.node (.node (.node .nil 2 ⟨(.int .i64),[.t (.v (.int .i64 0))],8⟩ .nil) 3 ⟨(.int .i64),[.t (.v (.int .i64 0))],8⟩ (.node .nil 4 ⟨.bool,[.b false],1⟩ .nil)) 5 ⟨(.int .u8),[.t (.v (.int .u8 0))],1⟩ (.node (.node .nil 6 ⟨(.int .u8),[.t (.v (.int .u8 0))],1⟩ .nil) 7 ⟨(.struct [(0,2),(1,3),(2,4),(3,6)]),[.t (.v (.int .i64 0)),.t (.v (.int .i64 0)),.b false,.t (.v (.int .u8 0))],24⟩ .nil)) 9 ⟨.str,[.s ⟨#[]⟩],16⟩ (.node (.node (.node .nil 12 ⟨(.int .u64),[.t (.v (.int .u64 0))],8⟩ .nil) 13 ⟨(.struct [(0,9),(1,12)]),[.s ⟨#[]⟩,.t (.v (.int .u64 0))],24⟩ .nil) 17 ⟨(.ptr 278),[.t (.v (.pointer none))],8⟩ (.node (.node .nil 18 ⟨(.struct [(0,17)]),[.t (.v (.pointer none))],8⟩ .nil) 19 ⟨(.struct [(0,17)]),[.t (.v (.pointer none))],8⟩ .nil))) 21 ⟨(.int .i32),[.t (.v (.int .i32 0))],4⟩ (.node (.node (.node (.node .nil 22 ⟨(.slice 218),[.own [false,false,true] []],24⟩ .nil) 23 ⟨(.struct [(0,22)]),[.own [false,false,true] []],24⟩ .nil) 24 ⟨(.struct [(0,22)]),[.own [false,false,true] []],24⟩ (.node (.node .nil 25 ⟨(.slice 9),[.own [false] []],24⟩ .nil) 26 ⟨(.struct [(0,25),(1,25)]),[.own [false] [],.own [false] []],48⟩ .nil)) 27 ⟨(.struct [(0,25),(1,25)]),[.own [false] [],.own [false] []],48⟩ (.node (.node (.node .nil 28 ⟨(.slice 223),[.own [false,false,false] []],24⟩ .nil) 29 ⟨(.slice 225),[.own [false,false] []],24⟩ .nil) 30 ⟨(.slice 227),[.own [false,false,false] []],24⟩ (.node (.node .nil 31 ⟨(.struct [(0,3),(1,4),(2,3),(3,3),(4,3),(5,3),(6,27),(8,25),(9,28),(10,29),(11,30)]),[.t (.v (.int .i64 0)),.b false,.t (.v (.int .i64 0)),.t (.v (.int .i64 0)),.t (.v (.int .i64 0)),.t (.v (.int .i64 0)),.own [false] [],.own [false] [],.own [false] [],.own [false,false,false] [],.own [false,false] [],.own [false,false,false] []],192⟩ .nil) 32 ⟨(.struct [(0,3),(1,4),(2,3),(3,3),(4,3),(5,3),(6,27),(8,25),(9,28),(10,29),(11,30)]),[.t (.v (.int .i64 0)),.b false,.t (.v (.int .i64 0)),.t (.v (.int .i64 0)),.t (.v (.int .i64 0)),.t (.v (.int .i64 0)),.own [false] [],.own [false] [],.own [false] [],.own [false,false,false] [],.own [false,false] [],.own [false,false,false] []],192⟩ .nil)))) 33 ⟨(.slice 134),[.own [false,false,false,false,false,false,false,false,true,false,false] []],24⟩ (.node (.node (.node (.node (.node .nil 34 ⟨(.slice 136),[.own [false,false,false] []],24⟩ .nil) 35 ⟨(.struct [(0,24),(1,9),(2,32),(14,33),(15,34),(16,9)]),[.own [false,false,true] [],.s ⟨#[]⟩,.t (.v (.int .i64 0)),.b false,.t (.v (.int .i64 0)),.t (.v (.int .i64 0)),.t (.v (.int .i64 0)),.t (.v (.int .i64 0)),.own [false] [],.own [false] [],.own [false] [],.own [false,false,false] [],.own [false,false] [],.own [false,false,false] [],.own [false,false,false,false,false,false,false,false,true,false,false] [],.own [false,false,false] [],.s ⟨#[]⟩],296⟩ .nil) 36 ⟨(.struct [(0,24),(1,9),(2,32),(14,33),(15,34),(16,9)]),[.own [false,false,true] [],.s ⟨#[]⟩,.t (.v (.int .i64 0)),.b false,.t (.v (.int .i64 0)),.t (.v (.int .i64 0)),.t (.v (.int .i64 0)),.t (.v (.int .i64 0)),.own [false] [],.own [false] [],.own [false] [],.own [false,false,false] [],.own [false,false] [],.own [false,false,false] [],.own [false,false,false,false,false,false,false,false,true,false,false] [],.own [false,false,false] [],.s ⟨#[]⟩],296⟩ (.node (.node .nil 37 ⟨(.struct [(0,3),(1,3),(2,3),(3,3)]),[.t (.v (.int .i64 0)),.t (.v (.int .i64 0)),.t (.v (.int .i64 0)),.t (.v (.int .i64 0))],32⟩ .nil) 38 ⟨(.struct [(0,3),(1,3),(2,3),(3,3)]),[.t (.v (.int .i64 0)),.t (.v (.int .i64 0)),.t (.v (.int .i64 0)),.t (.v (.int .i64 0))],32⟩ .nil)) 40 ⟨(.slice 198),[.own [false,false,true] []],24⟩ (.node (.node (.node .nil 41 ⟨(.struct [(0,40)]),[.own [false,false,true] []],24⟩ .nil) 42 ⟨(.struct [(0,40)]),[.own [false,false,true] []],24⟩ .nil) 43 ⟨(.struct [(0,25),(1,25)]),[.own [false] [],.own [false] []],48⟩ (.node (.node .nil 44 ⟨(.slice 206),[.own [false,false,false] []],24⟩ .nil) 45 ⟨(.slice 202),[.own [false,false] []],24⟩ .nil))) 46 ⟨(.slice 204),[.own [false,false,false] []],24⟩ (.node (.node (.node (.node .nil 47 ⟨(.struct [(0,3),(1,4),(2,3),(3,3),(4,3),(5,3),(6,43),(8,25),(9,44),(10,45),(11,46)]),[.t (.v (.int .i64 0)),.b false,.t (.v (.int .i64 0)),.t (.v (.int .i64 0)),.t (.v (.int .i64 0)),.t (.v (.int .i64 0)),.own [false] [],.own [false] [],.own [false] [],.own [false,false,false] [],.own [false,false] [],.own [false,false,false] []],192⟩ .nil) 48 ⟨(.struct [(0,3),(1,4),(2,3),(3,3),(4,3),(5,3),(6,43),(8,25),(9,44),(10,45),(11,46)]),[.t (.v (.int .i64 0)),.b false,.t (.v (.int .i64 0)),.t (.v (.int .i64 0)),.t (.v (.int .i64 0)),.t (.v (.int .i64 0)),.own [false] [],.own [false] [],.own [false] [],.own [false,false,false] [],.own [false,false] [],.own [false,false,false] []],192⟩ .nil) 49 ⟨(.slice 109),[.own [false,false,false,false,false,false,false,false,true,false,false] []],24⟩ (.node (.node .nil 50 ⟨(.slice 78),[.own [false,false,false] []],24⟩ .nil) 51 ⟨(.struct [(0,42),(1,9),(2,48),(14,49),(15,50),(16,9)]),[.own [false,false,true] [],.s ⟨#[]⟩,.t (.v (.int .i64 0)),.b false,.t (.v (.int .i64 0)),.t (.v (.int .i64 0)),.t (.v (.int .i64 0)),.t (.v (.int .i64 0)),.own [false] [],.own [false] [],.own [false] [],.own [false,false,false] [],.own [false,false] [],.own [false,false,false] [],.own [false,false,false,false,false,false,false,false,true,false,false] [],.own [false,false,false] [],.s ⟨#[]⟩],296⟩ .nil)) 52 ⟨(.struct [(0,42),(1,9),(2,48),(14,49),(15,50),(16,9)]),[.own [false,false,true] [],.s ⟨#[]⟩,.t (.v (.int .i64 0)),.b false,.t (.v (.int .i64 0)),.t (.v (.int .i64 0)),.t (.v (.int .i64 0)),.t (.v (.int .i64 0)),.own [false] [],.own [false] [],.own [false] [],.own [false,false,false] [],.own [false,false] [],.own [false,false,false] [],.own [false,false,false,false,false,false,false,false,true,false,false] [],.own [false,false,false] [],.s ⟨#[]⟩],296⟩ (.node (.node (.node .nil 55 ⟨(.struct [(0,3),(1,3),(2,3),(3,3)]),[.t (.v (.int .i64 0)),.t (.v (.int .i64 0)),.t (.v (.int .i64 0)),.t (.v (.int .i64 0))],32⟩ .nil) 62 ⟨(.slice 5),[.own [false] []],24⟩ .nil) 66 ⟨(.slice 55),[.own [false,false,false,false] []],24⟩ (.node (.node .nil 74 ⟨(.struct [(0,3),(1,3),(2,3),(3,3),(4,3),(5,3),(6,9),(7,25)]),[.t (.v (.int .i64 0)),.t (.v (.int .i64 0)),.t (.v (.int .i64 0)),.t (.v (.int .i64 0)),.t (.v (.int .i64 0)),.t (.v (.int .i64 0)),.s ⟨#[]⟩,.own [false] []],88⟩ .nil) 75 ⟨(.struct [(0,3),(1,3),(2,3),(3,3),(4,3),(5,3),(6,9),(7,25)]),[.t (.v (.int .i64 0)),.t (.v (.int .i64 0)),.t (.v (.int .i64 0)),.t (.v (.int .i64 0)),.t (.v (.int .i64 0)),.t (.v (.int .i64 0)),.s ⟨#[]⟩,.own [false] []],88⟩ .nil))))) 77 ⟨(.struct [(0,3),(1,9),(2,9)]),[.t (.v (.int .i64 0)),.s ⟨#[]⟩,.s ⟨#[]⟩],40⟩ (.node (.node (.node (.node (.node (.node .nil 78 ⟨(.struct [(0,3),(1,9),(2,9)]),[.t (.v (.int .i64 0)),.s ⟨#[]⟩,.s ⟨#[]⟩],40⟩ .nil) 100 ⟨(.ptr 192),[.t (.v (.pointer none))],8⟩ (.node .nil 108 ⟨(.struct [(0,3),(1,3),(2,4),(3,3),(4,3),(5,3),(6,3),(7,3),(8,25),(9,9),(10,3)]),[.t (.v (.int .i64 0)),.t (.v (.int .i64 0)),.b false,.t (.v (.int .i64 0)),.t (.v (.int .i64 0)),.t (.v (.int .i64 0)),.t (.v (.int .i64 0)),.t (.v (.int .i64 0)),.own [false] [],.s ⟨#[]⟩,.t (.v (.int .i64 0))],112⟩ .nil)) 109 ⟨(.struct [(0,3),(1,3),(2,4),(3,3),(4,3),(5,3),(6,3),(7,3),(8,25),(9,9),(10,3)]),[.t (.v (.int .i64 0)),.t (.v (.int .i64 0)),.b false,.t (.v (.int .i64 0)),.t (.v (.int .i64 0)),.t (.v (.int .i64 0)),.t (.v (.int .i64 0)),.t (.v (.int .i64 0)),.own [false] [],.s ⟨#[]⟩,.t (.v (.int .i64 0))],112⟩ (.node (.node .nil 114 ⟨(.int .u64),[.t (.v (.int .u64 0))],8⟩ .nil) 117 ⟨(.slice 4),[.own [false] []],24⟩ .nil)) 119 ⟨(.struct [(0,3),(1,3),(2,3),(3,9)]),[.t (.v (.int .i64 0)),.t (.v (.int .i64 0)),.t (.v (.int .i64 0)),.s ⟨#[]⟩],40⟩ (.node (.node (.node .nil 120 ⟨(.struct [(0,3),(1,3),(2,3),(3,9)]),[.t (.v (.int .i64 0)),.t (.v (.int .i64 0)),.t (.v (.int .i64 0)),.s ⟨#[]⟩],40⟩ .nil) 123 ⟨(.struct [(0,3),(1,3),(2,25)]),[.t (.v (.int .i64 0)),.t (.v (.int .i64 0)),.own [false] []],40⟩ .nil) 124 ⟨(.struct [(0,3),(1,3),(2,25)]),[.t (.v (.int .i64 0)),.t (.v (.int .i64 0)),.own [false] []],40⟩ (.node (.node .nil 134 ⟨(.struct [(0,3),(1,3),(2,4),(3,3),(4,3),(5,3),(6,3),(7,3),(8,25),(9,9),(10,3)]),[.t (.v (.int .i64 0)),.t (.v (.int .i64 0)),.b false,.t (.v (.int .i64 0)),.t (.v (.int .i64 0)),.t (.v (.int .i64 0)),.t (.v (.int .i64 0)),.t (.v (.int .i64 0)),.own [false] [],.s ⟨#[]⟩,.t (.v (.int .i64 0))],112⟩ .nil) 136 ⟨(.struct [(0,3),(1,9),(2,9)]),[.t (.v (.int .i64 0)),.s ⟨#[]⟩,.s ⟨#[]⟩],40⟩ .nil))) 156 ⟨(.ptr 52),[.t (.v (.pointer none))],8⟩ (.node (.node (.node (.node .nil 159 ⟨(.ptr 109),[.t (.v (.pointer none))],8⟩ .nil) 174 ⟨(.slice 75),[.own [false,false,false,false,false,false,false,true] []],24⟩ .nil) 175 ⟨(.struct [(0,48),(12,174)]),[.t (.v (.int .i64 0)),.b false,.t (.v (.int .i64 0)),.t (.v (.int .i64 0)),.t (.v (.int .i64 0)),.t (.v (.int .i64 0)),.own [false] [],.own [false] [],.own [false] [],.own [false,false,false] [],.own [false,false] [],.own [false,false,false] [],.own [false,false,false,false,false,false,false,true] []],216⟩ (.node (.node .nil 176 ⟨(.struct [(0,48),(12,174)]),[.t (.v (.int .i64 0)),.b false,.t (.v (.int .i64 0)),.t (.v (.int .i64 0)),.t (.v (.int .i64 0)),.t (.v (.int .i64 0)),.own [false] [],.own [false] [],.own [false] [],.own [false,false,false] [],.own [false,false] [],.own [false,false,false] [],.own [false,false,false,false,false,false,false,true] []],216⟩ .nil) 178 ⟨(.struct [(0,109),(11,174)]),[.t (.v (.int .i64 0)),.t (.v (.int .i64 0)),.b false,.t (.v (.int .i64 0)),.t (.v (.int .i64 0)),.t (.v (.int .i64 0)),.t (.v (.int .i64 0)),.t (.v (.int .i64 0)),.own [false] [],.s ⟨#[]⟩,.t (.v (.int .i64 0)),.own [false,false,false,false,false,false,false,true] []],136⟩ .nil)) 179 ⟨(.struct [(0,109),(11,174)]),[.t (.v (.int .i64 0)),.t (.v (.int .i64 0)),.b false,.t (.v (.int .i64 0)),.t (.v (.int .i64 0)),.t (.v (.int .i64 0)),.t (.v (.int .i64 0)),.t (.v (.int .i64 0)),.own [false] [],.s ⟨#[]⟩,.t (.v (.int .i64 0)),.own [false,false,false,false,false,false,false,true] []],136⟩ (.node (.node (.node .nil 191 ⟨(.struct [(0,62),(1,3)]),[.own [false] [],.t (.v (.int .i64 0))],32⟩ .nil) 192 ⟨(.struct [(0,62),(1,3)]),[.own [false] [],.t (.v (.int .i64 0))],32⟩ .nil) 196 ⟨(.slice 3),[.own [false] []],24⟩ (.node (.node .nil 197 ⟨(.struct [(0,9),(1,3),(2,196)]),[.s ⟨#[]⟩,.t (.v (.int .i64 0)),.own [false] []],48⟩ .nil) 198 ⟨(.struct [(0,9),(1,3),(2,196)]),[.s ⟨#[]⟩,.t (.v (.int .i64 0)),.own [false] []],48⟩ .nil)))) 201 ⟨(.struct [(0,4),(1,3)]),[.b false,.t (.v (.int .i64 0))],16⟩ (.node (.node (.node (.node (.node .nil 202 ⟨(.struct [(0,4),(1,3)]),[.b false,.t (.v (.int .i64 0))],16⟩ .nil) 203 ⟨(.struct [(0,3),(1,3),(2,3)]),[.t (.v (.int .i64 0)),.t (.v (.int .i64 0)),.t (.v (.int .i64 0))],24⟩ .nil) 204 ⟨(.struct [(0,3),(1,3),(2,3)]),[.t (.v (.int .i64 0)),.t (.v (.int .i64 0)),.t (.v (.int .i64 0))],24⟩ (.node (.node .nil 205 ⟨(.struct [(0,3),(1,3),(2,3)]),[.t (.v (.int .i64 0)),.t (.v (.int .i64 0)),.t (.v (.int .i64 0))],24⟩ .nil) 206 ⟨(.struct [(0,3),(1,3),(2,3)]),[.t (.v (.int .i64 0)),.t (.v (.int .i64 0)),.t (.v (.int .i64 0))],24⟩ .nil)) 207 ⟨(.map 9 4),[.t (.v (.map none))],8⟩ (.node (.node (.node .nil 208 ⟨(.map 3 4),[.t (.v (.map none))],8⟩ .nil) 210 ⟨(.int .u64),[.t (.v (.int .u64 0))],8⟩ .nil) 211 ⟨(.int .u64),[.t (.v (.int .u64 0))],8⟩ (.node (.node .nil 218 ⟨(.struct [(0,9),(1,3),(2,196)]),[.s ⟨#[]⟩,.t (.v (.int .i64 0)),.own [false] []],48⟩ .nil) 223 ⟨(.struct [(0,3),(1,3),(2,3)]),[.t (.v (.int .i64 0)),.t (.v (.int .i64 0)),.t (.v (.int .i64 0))],24⟩ .nil))) 225 ⟨(.struct [(0,4),(1,3)]),[.b false,.t (.v (.int .i64 0))],16⟩ (.node (.node (.node (.node .nil 227 ⟨(.struct [(0,3),(1,3),(2,3)]),[.t (.v (.int .i64 0)),.t (.v (.int .i64 0)),.t (.v (.int .i64 0))],24⟩ .nil) 228 ⟨(.ptr 48),[.t (.v (.pointer none))],8⟩ .nil) 242 ⟨(.ptr 202),[.t (.v (.pointer none))],8⟩ (.node (.node .nil 255 ⟨(.ptr 211),[.t (.v (.pointer none))],8⟩ .nil) 265 ⟨(.struct [(0,17),(1,17),(2,17),(3,9)]),[.t (.v (.pointer none)),.t (.v (.pointer none)),.t (.v (.pointer none)),.s ⟨#[]⟩],40⟩ .nil)) 270 ⟨(.int .u32),[.t (.v (.int .u32 0))],4⟩ (.node (.node (.node .nil 271 ⟨(.int .u8),[.t (.v (.int .u8 0))],1⟩ .nil) 272 ⟨(.int .u8),[.t (.v (.int .u8 0))],1⟩ .nil) 274 ⟨(.ptr 5),[.t (.v (.pointer none))],8⟩ (.node (.node .nil 275 ⟨(.int .i32),[.t (.v (.int .i32 0))],4⟩ .nil) 276 ⟨(.int .i32),[.t (.v (.int .i32 0))],4⟩ .nil))))))
set_option maxRecDepth 10000 in
theorem dW:EnvOk Tryz.prog E:=by
 unfold E
 repeat (first|exact EnvOk.nil|refine EnvOk.node ?_ ⟨by kernel_rfl,by kernel_rfl,by simp,by simp[xO,sc],by simp[Ty.agg],by simp,by simp,by simp⟩ ?_)
def md(f:FuncId):List Md:=(bif Nat.blt f 113 then(bif Nat.blt f 58 then(bif Nat.blt f 30 then(bif Nat.blt f 16 then(bif Nat.blt f 9 then(bif Nat.blt f 6 then(bif Nat.blt f 4 then [.v,.v]else(bif Nat.blt f 5 then [.v,.v]else [.v]))else(bif Nat.blt f 7 then [.v,.v]else(bif Nat.blt f 8 then [.v,.v]else [.v])))else(bif Nat.blt f 12 then(bif Nat.blt f 10 then [.v,.v]else(bif Nat.blt f 11 then [.v,.v]else [.v]))else(bif Nat.blt f 14 then(bif Nat.blt f 13 then [.v]else [.v,.v])else(bif Nat.blt f 15 then [.v,.v]else [.b,.v]))))else(bif Nat.blt f 23 then(bif Nat.blt f 19 then(bif Nat.blt f 17 then [.v,.v]else(bif Nat.blt f 18 then [.v,.v]else [.v,.v]))else(bif Nat.blt f 21 then(bif Nat.blt f 20 then [.v]else [.v])else(bif Nat.blt f 22 then [.v,.v]else [.v])))else(bif Nat.blt f 26 then(bif Nat.blt f 24 then [.v]else(bif Nat.blt f 25 then [.v]else [.v]))else(bif Nat.blt f 28 then(bif Nat.blt f 27 then [.v]else [.v,.v])else(bif Nat.blt f 29 then [.v]else [.v,.v])))))else(bif Nat.blt f 44 then(bif Nat.blt f 37 then(bif Nat.blt f 33 then(bif Nat.blt f 31 then [.v]else(bif Nat.blt f 32 then [.v]else [.v,.v]))else(bif Nat.blt f 35 then(bif Nat.blt f 34 then [.v,.v]else [.v,.v])else(bif Nat.blt f 36 then [.v,.v]else [.v])))else(bif Nat.blt f 40 then(bif Nat.blt f 38 then [.mv,.v]else(bif Nat.blt f 39 then [.v]else [.v]))else(bif Nat.blt f 42 then(bif Nat.blt f 41 then [.v]else [.v])else(bif Nat.blt f 43 then [.v]else [.p,.v]))))else(bif Nat.blt f 51 then(bif Nat.blt f 47 then(bif Nat.blt f 45 then [.v,.v]else(bif Nat.blt f 46 then [.v,.v]else [.v,.v]))else(bif Nat.blt f 49 then(bif Nat.blt f 48 then [.v,.v]else [.b,.v])else(bif Nat.blt f 50 then [.b,.v]else [.b,.v])))else(bif Nat.blt f 54 then(bif Nat.blt f 52 then [.b,.v]else(bif Nat.blt f 53 then [.v,.v]else [.v,.v]))else(bif Nat.blt f 56 then(bif Nat.blt f 55 then [.v,.v]else [.v,.v])else(bif Nat.blt f 57 then [.mv]else [.mv,.v]))))))else(bif Nat.blt f 85 then(bif Nat.blt f 71 then(bif Nat.blt f 64 then(bif Nat.blt f 61 then(bif Nat.blt f 59 then [.p]else(bif Nat.blt f 60 then [.p,.v]else [.v]))else(bif Nat.blt f 62 then [.p]else(bif Nat.blt f 63 then [.p]else [.p,.v])))else(bif Nat.blt f 67 then(bif Nat.blt f 65 then [.v]else(bif Nat.blt f 66 then [.v,.v,.v]else [.v]))else(bif Nat.blt f 69 then(bif Nat.blt f 68 then [.v,.v]else [.v,.v])else(bif Nat.blt f 70 then [.v,.v]else [.v]))))else(bif Nat.blt f 78 then(bif Nat.blt f 74 then(bif Nat.blt f 72 then [.v,.v,.v]else(bif Nat.blt f 73 then [.v]else [.v,.v]))else(bif Nat.blt f 76 then(bif Nat.blt f 75 then [.v]else [.v])else(bif Nat.blt f 77 then [.v,.v]else [.v])))else(bif Nat.blt f 81 then(bif Nat.blt f 79 then [.v]else(bif Nat.blt f 80 then [.v]else [.v]))else(bif Nat.blt f 83 then(bif Nat.blt f 82 then [.v,.v]else [.v])else(bif Nat.blt f 84 then [.v,.v]else [.v,.v])))))else(bif Nat.blt f 99 then(bif Nat.blt f 92 then(bif Nat.blt f 88 then(bif Nat.blt f 86 then [.v,.v]else(bif Nat.blt f 87 then [.v,.v]else [.v,.v]))else(bif Nat.blt f 90 then(bif Nat.blt f 89 then [.v,.v]else [.v,.v])else(bif Nat.blt f 91 then [.v,.v]else [.v])))else(bif Nat.blt f 95 then(bif Nat.blt f 93 then [.v]else(bif Nat.blt f 94 then [.v]else [.v]))else(bif Nat.blt f 97 then(bif Nat.blt f 96 then [.v,.v]else [.v,.v])else(bif Nat.blt f 98 then [.v,.v,.v,.v]else [.v,.v,.v]))))else(bif Nat.blt f 106 then(bif Nat.blt f 102 then(bif Nat.blt f 100 then [.v]else(bif Nat.blt f 101 then [.v,.v]else [.v]))else(bif Nat.blt f 104 then(bif Nat.blt f 103 then [.v]else [.v])else(bif Nat.blt f 105 then [.v]else [.v])))else(bif Nat.blt f 109 then(bif Nat.blt f 107 then [.v]else(bif Nat.blt f 108 then [.v]else [.v]))else(bif Nat.blt f 111 then(bif Nat.blt f 110 then [.v]else [.v])else(bif Nat.blt f 112 then [.v]else [.v])))))))else(bif Nat.blt f 168 then(bif Nat.blt f 140 then(bif Nat.blt f 126 then(bif Nat.blt f 119 then(bif Nat.blt f 116 then(bif Nat.blt f 114 then [.v]else(bif Nat.blt f 115 then [.v,.v]else [.v,.v]))else(bif Nat.blt f 117 then [.v,.v]else(bif Nat.blt f 118 then [.v,.v,.v,.v]else [.p,.v])))else(bif Nat.blt f 122 then(bif Nat.blt f 120 then [.p,.v]else(bif Nat.blt f 121 then [.v]else [.p,.v]))else(bif Nat.blt f 124 then(bif Nat.blt f 123 then [.v]else [.v,.v])else(bif Nat.blt f 125 then [.v,.v]else [.v,.v]))))else(bif Nat.blt f 133 then(bif Nat.blt f 129 then(bif Nat.blt f 127 then [.v,.v]else(bif Nat.blt f 128 then [.v,.v]else [.v,.v]))else(bif Nat.blt f 131 then(bif Nat.blt f 130 then [.v,.v]else [.v,.v])else(bif Nat.blt f 132 then [.b,.v]else [.b,.v])))else(bif Nat.blt f 136 then(bif Nat.blt f 134 then [.b,.v]else(bif Nat.blt f 135 then [.b,.v]else [.b,.v]))else(bif Nat.blt f 138 then(bif Nat.blt f 137 then [.b,.v]else [.v])else(bif Nat.blt f 139 then [.v,.v]else [.v,.v])))))else(bif Nat.blt f 154 then(bif Nat.blt f 147 then(bif Nat.blt f 143 then(bif Nat.blt f 141 then [.v,.v]else(bif Nat.blt f 142 then [.v,.v]else [.v,.v]))else(bif Nat.blt f 145 then(bif Nat.blt f 144 then [.v,.v]else [.v,.v])else(bif Nat.blt f 146 then [.v,.v]else [.v,.v,.v])))else(bif Nat.blt f 150 then(bif Nat.blt f 148 then [.v,.v]else(bif Nat.blt f 149 then [.v,.v]else [.v,.v]))else(bif Nat.blt f 152 then(bif Nat.blt f 151 then [.v,.v,.v]else [.v,.v,.v])else(bif Nat.blt f 153 then [.p,.v]else [.mv,.v]))))else(bif Nat.blt f 161 then(bif Nat.blt f 157 then(bif Nat.blt f 155 then [.v,.v,.v]else(bif Nat.blt f 156 then [.v,.v]else [.p,.v,.v]))else(bif Nat.blt f 159 then(bif Nat.blt f 158 then [.mv,.v,.v]else [.p])else(bif Nat.blt f 160 then [.p]else [.p,.mv])))else(bif Nat.blt f 164 then(bif Nat.blt f 162 then [.p]else(bif Nat.blt f 163 then [.v,.v]else [.v]))else(bif Nat.blt f 166 then(bif Nat.blt f 165 then [.v]else [.v])else(bif Nat.blt f 167 then [.v,.v]else [.v]))))))else(bif Nat.blt f 196 then(bif Nat.blt f 182 then(bif Nat.blt f 175 then(bif Nat.blt f 171 then(bif Nat.blt f 169 then [.v]else(bif Nat.blt f 170 then [.v,.v]else [.v,.v]))else(bif Nat.blt f 173 then(bif Nat.blt f 172 then [.p,.v]else [.v])else(bif Nat.blt f 174 then [.v,.v]else [.v,.v])))else(bif Nat.blt f 178 then(bif Nat.blt f 176 then [.v]else(bif Nat.blt f 177 then [.v]else [.v,.v]))else(bif Nat.blt f 180 then(bif Nat.blt f 179 then [.v]else [.v,.v,.v])else(bif Nat.blt f 181 then [.v,.v]else [.v]))))else(bif Nat.blt f 189 then(bif Nat.blt f 185 then(bif Nat.blt f 183 then [.v,.v]else(bif Nat.blt f 184 then [.v,.v]else [.v]))else(bif Nat.blt f 187 then(bif Nat.blt f 186 then [.v]else [.v])else(bif Nat.blt f 188 then [.v]else [.v,.v])))else(bif Nat.blt f 192 then(bif Nat.blt f 190 then [.v]else(bif Nat.blt f 191 then [.v,.v]else [.v,.v]))else(bif Nat.blt f 194 then(bif Nat.blt f 193 then [.v,.v]else [.v,.v])else(bif Nat.blt f 195 then [.b,.v]else [.v,.v])))))else(bif Nat.blt f 210 then(bif Nat.blt f 203 then(bif Nat.blt f 199 then(bif Nat.blt f 197 then [.mv,.v]else(bif Nat.blt f 198 then [.v,.v]else [.v]))else(bif Nat.blt f 201 then(bif Nat.blt f 200 then [.mv,.v]else [.mv,.v,.v])else(bif Nat.blt f 202 then [.v,.v]else [.p,.v,.v,.r 0])))else(bif Nat.blt f 206 then(bif Nat.blt f 204 then [.p]else(bif Nat.blt f 205 then [.p]else [.v,.v,.v]))else(bif Nat.blt f 208 then(bif Nat.blt f 207 then [.p,.mv]else [.p,.mv])else(bif Nat.blt f 209 then [.p,.mv]else [.v,.v]))))else(bif Nat.blt f 217 then(bif Nat.blt f 213 then(bif Nat.blt f 211 then [.p]else(bif Nat.blt f 212 then [.v]else [.v]))else(bif Nat.blt f 215 then(bif Nat.blt f 214 then [.v]else [.v])else(bif Nat.blt f 216 then [.v,.v]else [.v])))else(bif Nat.blt f 220 then(bif Nat.blt f 218 then [.v,.v]else(bif Nat.blt f 219 then [.v]else [.v]))else(bif Nat.blt f 222 then(bif Nat.blt f 221 then [.v]else [.p])else(bif Nat.blt f 223 then [.p]else [.v]))))))))
def sq(t:TypeId):Bool:=Nat.beq t 78||Nat.beq t 202||Nat.beq t 204||Nat.beq t 206
theorem XH:∀ t,sq t = true→SqOk Tryz.prog t:=by
 intro t h
 simp only[sq,Bool.or_eq_true,Nat.beq_eq]at h
 rcases h with((rfl|rfl)|rfl)|rfl
 all_goals exact⟨by kernel_rfl,by kernel_rfl,by kernel_rfl,by kernel_rfl⟩
def F(f:FuncId)(xs:List A)(res:V)(outs:List (List V)):Prop:=Enters Tryz.prog f∧Tm.Fn Tryz.prog f xs res outs
def C:Cx:=⟨E,F,md,sq⟩
theorem Wy:CxOk Tryz.prog C:=⟨dW,XH,fun _ _ _ _ h=>h⟩
variable {nt id:Nat} {ops:Array Oper} {y:Code} {H:HD} {Q:Exit→HD→Prop}
theorem g(lo hi:Nat)(ans:List Ans)(h:ML C nt ops ops.toList ans H fun p H=>nb lo hi H fun H=>p∧W Tryz.prog nt y H Q):W Tryz.prog nt (.seq (.region id ops false) y) H Q:=W.sg Wy lo hi ans h
theorem rg(ans:List Ans)(h:ML C nt ops ops.toList ans H fun p H=>p∧Q .normal H):W Tryz.prog nt (.region id ops false) H Q:=W.rg Wy ans h
theorem V3:Tryz.prog.follows .mixedOrders = true:=by kernel_rfl
theorem gd(lo hi:Nat)(ans:List (List Ans))(h:MM C nt ops ops.toList ans H fun p r H=>nb lo hi H fun H=>p∧Nu ops.toList r = true∧W Tryz.prog nt y H Q):W Tryz.prog nt (.seq (.region id ops true) y) H Q:=W.sgD Wy V3 lo hi ans h
theorem rgd(ans:List (List Ans))(h:MM C nt ops ops.toList ans H fun p r H=>p∧Nu ops.toList r = true∧Q .normal H):W Tryz.prog nt (.region id ops true) H Q:=W.rgD Wy V3 ans h
abbrev Q1(res:V)(outs:List (List V)):V→List (List V)→Prop:=fun r o=>r = res∧o = outs
def IT(i nt:Nat)(f:Func)(rs:List Rs):Prop:=∀ {xs:List A} {res:V} {outs:List (List V)} (hrun:aN (dL nt xs) fun H=>W Tryz.prog nt (aW f) H (EndsW nt E rs xs (Q1 res outs))) (h:(dB xs && Nat.ble xs.length nt) = true:=by rfl),F i xs res outs
theorem iM {i nt : Nat} {f : Func} {rs : List Rs} (hf : Tryz.prog.funcs[i]? = some f) (hb : f.body = some (aW f)) (hnt : f.ntmps = nt) (hrs : f.results = (rs.map lO).toArray) (h1 : (f.name == "runtime.NumGoroutine") = false ) (h2 : f.body.isNone = false) : IT i nt f rs := @fun _ _ _ hrun h => ⟨⟨f, hf, h1, h2⟩, Fn.one hf hb hnt dW hrs h hrun⟩
theorem RT{p q:Prop}(h:q)(f:Box q→p:=by
 intro h
 refine W.ret ?_
 refine EndsW.rt ?_
 conv=>whnf
 refine J (by repeat' first|exact I|refine J ?_ ?_) (J ?_ rfl)
 exact h.out):p:=f ⟨h⟩
abbrev EZ:TypeId:=24
abbrev Hk:TypeId:=27
abbrev E1:TypeId:=32
abbrev Bk:TypeId:=36
abbrev Bl:TypeId:=38
abbrev xR:TypeId:=134
abbrev xS:TypeId:=136
abbrev EX:TypeId:=218
abbrev Hl:TypeId:=223
abbrev EY:TypeId:=225
abbrev E0:TypeId:=227
abbrev tl:FuncId:=3
theorem kZ:IT 3 77 Tryz.f3 [(4,4,false)]:=@iM _ _ _ _ Tryz.func3 rfl rfl rfl KR KR
abbrev yc:FuncId:=9
theorem yy:IT 9 44 Tryz.f9 [(4,3,false)]:=@iM _ _ _ _ Tryz.func9 rfl rfl rfl KR KR
abbrev NY:FuncId:=10
theorem Es:IT 10 14 Tryz.f10 [(4,52,true)]:=@iM _ _ _ _ Tryz.func10 rfl rfl rfl KR KR
abbrev xZ:FuncId:=11
theorem yq:IT 11 27 Tryz.f11 [(2,52,true)]:=@iM _ _ _ _ Tryz.func11 rfl rfl rfl KR KR
abbrev yb:FuncId:=12
theorem yx:IT 12 17 Tryz.f12 [(2,55,true)]:=@iM _ _ _ _ Tryz.func12 rfl rfl rfl KR KR
abbrev NZ:FuncId:=13
theorem Et:IT 13 14 Tryz.f13 [(4,52,true)]:=@iM _ _ _ _ Tryz.func13 rfl rfl rfl KR KR
abbrev yi:FuncId:=14
theorem yE:IT 14 39 Tryz.f14 [(4,4,false)]:=@iM _ _ _ _ Tryz.func14 rfl rfl rfl KR KR
abbrev sW:FuncId:=15
theorem tN:IT 15 22 Tryz.f15 [(4,3,false)]:=@iM _ _ _ _ Tryz.func15 rfl rfl rfl KR KR
abbrev tb:FuncId:=16
theorem tS:IT 16 30 Tryz.f16 [(4,3,false)]:=@iM _ _ _ _ Tryz.func16 rfl rfl rfl KR KR
abbrev qS:FuncId:=20
theorem rb:IT 20 96 Tryz.f20 [(2,4,false)]:=@iM _ _ _ _ Tryz.func20 rfl rfl rfl KR KR
abbrev qY:FuncId:=22
theorem ri:IT 22 87 Tryz.f22 [(2,4,false)]:=@iM _ _ _ _ Tryz.func22 rfl rfl rfl KR KR
abbrev pB:FuncId:=29
theorem fN:IT 29 77 Tryz.f29 [(4,9,false)]:=@iM _ _ _ _ Tryz.func29 rfl rfl rfl KR KR
abbrev BR:FuncId:=32
theorem Cv:IT 32 12 Tryz.f32 [(4,3,false)]:=@iM _ _ _ _ Tryz.func32 rfl rfl rfl KR KR
abbrev BV:FuncId:=33
theorem Cz:IT 33 36 Tryz.f33 [(4,3,false)]:=@iM _ _ _ _ Tryz.func33 rfl rfl rfl KR KR
abbrev sU:FuncId:=34
theorem tK:IT 34 27 Tryz.f34 [(4,3,false)]:=@iM _ _ _ _ Tryz.func34 rfl rfl rfl KR KR
abbrev kP:FuncId:=35
theorem tM:IT 35 27 Tryz.f35 [(4,3,false)]:=@iM _ _ _ _ Tryz.func35 rfl rfl rfl KR KR
abbrev Bw:FuncId:=36
theorem Cd:IT 36 38 Tryz.f36 [(2,52,true)]:=@iM _ _ _ _ Tryz.func36 rfl rfl rfl KR KR
abbrev Hx:FuncId:=37
theorem cW:IT 37 112 Tryz.f37 [(4,52,true)]:=@iM _ _ _ _ Tryz.func37 rfl rfl rfl KR KR
abbrev BL:FuncId:=38
theorem Cp:IT 38 9 Tryz.f38 [(2,42,true)]:=@iM _ _ _ _ Tryz.func38 rfl rfl rfl KR KR
abbrev BP:FuncId:=39
theorem Ct:IT 39 43 Tryz.f39 [(2,48,true)]:=@iM _ _ _ _ Tryz.func39 rfl rfl rfl KR KR
abbrev sR:FuncId:=40
theorem tH:IT 40 23 Tryz.f40 [(2,49,false)]:=@iM _ _ _ _ Tryz.func40 rfl rfl rfl KR KR
abbrev sT:FuncId:=41
theorem tJ:IT 41 23 Tryz.f41 [(2,50,false)]:=@iM _ _ _ _ Tryz.func41 rfl rfl rfl KR KR
abbrev qU:FuncId:=42
theorem re:IT 42 36 Tryz.f42 [(2,52,true)]:=@iM _ _ _ _ Tryz.func42 rfl rfl rfl KR KR
abbrev wq:FuncId:=43
theorem bq:IT 43 131 Tryz.f43 []:=@iM _ _ _ _ Tryz.func43 rfl rfl rfl KR KR
abbrev BZ:FuncId:=44
theorem CC:IT 44 11 Tryz.f44 [(4,4,false)]:=@iM _ _ _ _ Tryz.func44 rfl rfl rfl KR KR
abbrev B3:FuncId:=45
theorem CG:IT 45 65 Tryz.f45 [(4,4,false)]:=@iM _ _ _ _ Tryz.func45 rfl rfl rfl KR KR
abbrev tf:FuncId:=46
theorem tW:IT 46 27 Tryz.f46 [(4,4,false)]:=@iM _ _ _ _ Tryz.func46 rfl rfl rfl KR KR
abbrev tj:FuncId:=47
theorem tY:IT 47 27 Tryz.f47 [(4,4,false)]:=@iM _ _ _ _ Tryz.func47 rfl rfl rfl KR KR
abbrev wc:FuncId:=48
theorem wF:IT 48 10 Tryz.f48 [(4,3,false)]:=@iM _ _ _ _ Tryz.func48 rfl rfl rfl KR KR
abbrev wg:FuncId:=49
theorem wI:IT 49 26 Tryz.f49 [(4,3,false)]:=@iM _ _ _ _ Tryz.func49 rfl rfl rfl KR KR
abbrev pq:FuncId:=50
theorem pF:IT 50 93 Tryz.f50 [(4,3,false)]:=@iM _ _ _ _ Tryz.func50 rfl rfl rfl KR KR
abbrev iZ:FuncId:=51
theorem jb:IT 51 36 Tryz.f51 [(4,3,false)]:=@iM _ _ _ _ Tryz.func51 rfl rfl rfl KR KR
abbrev wh:FuncId:=52
theorem wJ:IT 52 12 Tryz.f52 [(4,3,false)]:=@iM _ _ _ _ Tryz.func52 rfl rfl rfl KR KR
abbrev wm:FuncId:=53
theorem wM:IT 53 36 Tryz.f53 [(4,3,false)]:=@iM _ _ _ _ Tryz.func53 rfl rfl rfl KR KR
abbrev pt:FuncId:=54
theorem pH:IT 54 115 Tryz.f54 [(4,3,false)]:=@iM _ _ _ _ Tryz.func54 rfl rfl rfl KR KR
abbrev i7:FuncId:=55
theorem jc:IT 55 42 Tryz.f55 [(4,3,false)]:=@iM _ _ _ _ Tryz.func55 rfl rfl rfl KR KR
abbrev Bv:FuncId:=56
theorem oU:IT 56 55 Tryz.f56 [(2,52,true)]:=@iM _ _ _ _ Tryz.func56 rfl rfl rfl KR KR
abbrev xW:FuncId:=57
theorem bV:IT 57 83 Tryz.f57 [(4,52,true)]:=@iM _ _ _ _ Tryz.func57 rfl rfl rfl KR KR
abbrev qV:FuncId:=58
theorem jW:IT 58 62 Tryz.f58 []:=@iM _ _ _ _ Tryz.func58 rfl rfl rfl KR KR
abbrev ja:FuncId:=59
theorem br:IT 59 65 Tryz.f59 []:=@iM _ _ _ _ Tryz.func59 rfl rfl rfl KR KR
abbrev sQ:FuncId:=64
theorem tG:IT 64 120 Tryz.f64 [(2,3,false)]:=@iM _ _ _ _ Tryz.func64 rfl rfl rfl KR KR
abbrev HA:FuncId:=65
theorem HS:IT 65 15 Tryz.f65 [(6,4,false)]:=@iM _ _ _ _ Tryz.func65 rfl rfl rfl KR KR
abbrev pn:FuncId:=66
theorem pE:IT 66 129 Tryz.f66 [(2,4,false)]:=@iM _ _ _ _ Tryz.func66 rfl rfl rfl KR KR
abbrev kO:FuncId:=67
theorem kY:IT 67 219 Tryz.f67 [(4,4,false)]:=@iM _ _ _ _ Tryz.func67 rfl rfl rfl KR KR
abbrev tq:FuncId:=70
theorem ub:IT 70 91 Tryz.f70 [(2,3,false)]:=@iM _ _ _ _ Tryz.func70 rfl rfl rfl KR KR
abbrev B4:FuncId:=71
theorem CH:IT 71 15 Tryz.f71 [(6,4,false)]:=@iM _ _ _ _ Tryz.func71 rfl rfl rfl KR KR
abbrev pz:FuncId:=72
theorem pK:IT 72 124 Tryz.f72 [(2,4,false)]:=@iM _ _ _ _ Tryz.func72 rfl rfl rfl KR KR
abbrev kQ:FuncId:=73
theorem lb:IT 73 281 Tryz.f73 [(4,4,false)]:=@iM _ _ _ _ Tryz.func73 rfl rfl rfl KR KR
abbrev mX:FuncId:=75
theorem m8:IT 75 108 Tryz.f75 [(2,4,false)]:=@iM _ _ _ _ Tryz.func75 rfl rfl rfl KR KR
abbrev HF:FuncId:=76
theorem HV:IT 76 13 Tryz.f76 [(4,9,false)]:=@iM _ _ _ _ Tryz.func76 rfl rfl rfl KR KR
abbrev nM:FuncId:=78
theorem nP:IT 78 11 Tryz.f78 [(2,25,false)]:=@iM _ _ _ _ Tryz.func78 rfl rfl rfl KR KR
abbrev kR:FuncId:=79
theorem t8:IT 79 36 Tryz.f79 [(2,120,true),(3,4,false)]:=@iM _ _ _ _ Tryz.func79 rfl rfl rfl KR KR
abbrev kv:FuncId:=81
theorem ky:IT 81 102 Tryz.f81 [(4,124,true)]:=@iM _ _ _ _ Tryz.func81 rfl rfl rfl KR KR
abbrev E9:FuncId:=82
theorem FE:IT 82 10 Tryz.f82 [(2,25,false)]:=@iM _ _ _ _ Tryz.func82 rfl rfl rfl KR KR
abbrev yd:FuncId:=83
theorem yz:IT 83 27 Tryz.f83 [(4,3,false)]:=@iM _ _ _ _ Tryz.func83 rfl rfl rfl KR KR
abbrev Fl:FuncId:=84
theorem FK:IT 84 18 Tryz.f84 [(4,3,false)]:=@iM _ _ _ _ Tryz.func84 rfl rfl rfl KR KR
abbrev sV:FuncId:=85
theorem tL:IT 85 28 Tryz.f85 [(4,3,false)]:=@iM _ _ _ _ Tryz.func85 rfl rfl rfl KR KR
abbrev BS:FuncId:=86
theorem Cw:IT 86 12 Tryz.f86 [(4,3,false)]:=@iM _ _ _ _ Tryz.func86 rfl rfl rfl KR KR
abbrev ye:FuncId:=87
theorem yA:IT 87 12 Tryz.f87 [(4,3,false)]:=@iM _ _ _ _ Tryz.func87 rfl rfl rfl KR KR
abbrev yf:FuncId:=88
theorem yB:IT 88 12 Tryz.f88 [(4,3,false)]:=@iM _ _ _ _ Tryz.func88 rfl rfl rfl KR KR
abbrev v9:FuncId:=89
theorem wC:IT 89 19 Tryz.f89 [(4,3,false)]:=@iM _ _ _ _ Tryz.func89 rfl rfl rfl KR KR
abbrev wa:FuncId:=90
theorem wD:IT 90 20 Tryz.f90 [(4,3,false)]:=@iM _ _ _ _ Tryz.func90 rfl rfl rfl KR KR
abbrev BE:FuncId:=91
theorem Cl:IT 91 34 Tryz.f91 [(2,42,true)]:=@iM _ _ _ _ Tryz.func91 rfl rfl rfl KR KR
abbrev oL:FuncId:=92
theorem Cg:IT 92 28 Tryz.f92 [(2,48,true)]:=@iM _ _ _ _ Tryz.func92 rfl rfl rfl KR KR
abbrev Bx:FuncId:=93
theorem Ce:IT 93 6 Tryz.f93 [(2,50,false)]:=@iM _ _ _ _ Tryz.func93 rfl rfl rfl KR KR
abbrev BB:FuncId:=94
theorem Ci:IT 94 9 Tryz.f94 [(2,109,true)]:=@iM _ _ _ _ Tryz.func94 rfl rfl rfl KR KR
abbrev BI:FuncId:=95
theorem oY:IT 95 24 Tryz.f95 [(4,50,false)]:=@iM _ _ _ _ Tryz.func95 rfl rfl rfl KR KR
abbrev HC:FuncId:=96
theorem HU:IT 96 21 Tryz.f96 [(4,50,false)]:=@iM _ _ _ _ Tryz.func96 rfl rfl rfl KR KR
abbrev HE:FuncId:=97
theorem nx:IT 97 60 Tryz.f97 [(8,50,false)]:=@iM _ _ _ _ Tryz.func97 rfl rfl rfl KR KR
abbrev v6:FuncId:=98
theorem eI:IT 98 46 Tryz.f98 [(6,48,true)]:=@iM _ _ _ _ Tryz.func98 rfl rfl rfl KR KR
abbrev qR:FuncId:=99
theorem ra:IT 99 12 Tryz.f99 [(2,109,true)]:=@iM _ _ _ _ Tryz.func99 rfl rfl rfl KR KR
abbrev v5:FuncId:=100
theorem my:IT 100 13 Tryz.f100 [(4,48,true)]:=@iM _ _ _ _ Tryz.func100 rfl rfl rfl KR KR
abbrev qQ:FuncId:=101
theorem jV:IT 101 25 Tryz.f101 [(2,109,true)]:=@iM _ _ _ _ Tryz.func101 rfl rfl rfl KR KR
abbrev x7:FuncId:=102
theorem yr:IT 102 23 Tryz.f102 [(2,40,false)]:=@iM _ _ _ _ Tryz.func102 rfl rfl rfl KR KR
abbrev Fj:FuncId:=103
theorem FI:IT 103 13 Tryz.f103 [(2,43,true)]:=@iM _ _ _ _ Tryz.func103 rfl rfl rfl KR KR
abbrev sS:FuncId:=104
theorem tI:IT 104 22 Tryz.f104 [(2,25,false)]:=@iM _ _ _ _ Tryz.func104 rfl rfl rfl KR KR
abbrev BN:FuncId:=105
theorem Cr:IT 105 23 Tryz.f105 [(2,44,false)]:=@iM _ _ _ _ Tryz.func105 rfl rfl rfl KR KR
abbrev x8:FuncId:=106
theorem yu:IT 106 23 Tryz.f106 [(2,45,false)]:=@iM _ _ _ _ Tryz.func106 rfl rfl rfl KR KR
abbrev ya:FuncId:=107
theorem yw:IT 107 23 Tryz.f107 [(2,46,false)]:=@iM _ _ _ _ Tryz.func107 rfl rfl rfl KR KR
abbrev v7:FuncId:=108
theorem wA:IT 108 39 Tryz.f108 [(2,109,true)]:=@iM _ _ _ _ Tryz.func108 rfl rfl rfl KR KR
abbrev v8:FuncId:=109
theorem wB:IT 109 14 Tryz.f109 [(2,78,true)]:=@iM _ _ _ _ Tryz.func109 rfl rfl rfl KR KR
abbrev tn:FuncId:=110
theorem t9:IT 110 26 Tryz.f110 [(2,42,true)]:=@iM _ _ _ _ Tryz.func110 rfl rfl rfl KR KR
abbrev kS:FuncId:=111
theorem uc:IT 111 33 Tryz.f111 [(2,48,true)]:=@iM _ _ _ _ Tryz.func111 rfl rfl rfl KR KR
abbrev B6:FuncId:=112
theorem CJ:IT 112 6 Tryz.f112 [(2,50,false)]:=@iM _ _ _ _ Tryz.func112 rfl rfl rfl KR KR
abbrev pv:FuncId:=113
theorem pJ:IT 113 8 Tryz.f113 [(2,109,true)]:=@iM _ _ _ _ Tryz.func113 rfl rfl rfl KR KR
abbrev Fu:FuncId:=114
theorem FN:IT 114 15 Tryz.f114 [(4,4,false)]:=@iM _ _ _ _ Tryz.func114 rfl rfl rfl KR KR
abbrev HI:FuncId:=115
theorem HY:IT 115 20 Tryz.f115 [(4,50,false)]:=@iM _ _ _ _ Tryz.func115 rfl rfl rfl KR KR
abbrev B7:FuncId:=116
theorem oZ:IT 116 24 Tryz.f116 [(4,50,false)]:=@iM _ _ _ _ Tryz.func116 rfl rfl rfl KR KR
abbrev HJ:FuncId:=117
theorem ny:IT 117 53 Tryz.f117 [(8,50,false)]:=@iM _ _ _ _ Tryz.func117 rfl rfl rfl KR KR
abbrev tw:FuncId:=118
theorem lc:IT 118 42 Tryz.f118 []:=@iM _ _ _ _ Tryz.func118 rfl rfl rfl KR KR
abbrev iy:FuncId:=119
theorem iD:IT 119 19 Tryz.f119 [(4,159,false)]:=@iM _ _ _ _ Tryz.func119 rfl rfl rfl KR KR
abbrev qX:FuncId:=120
theorem rf:IT 120 11 Tryz.f120 [(2,109,true)]:=@iM _ _ _ _ Tryz.func120 rfl rfl rfl KR KR
abbrev gL:FuncId:=121
theorem fe:IT 121 74 Tryz.f121 []:=@iM _ _ _ _ Tryz.func121 rfl rfl rfl KR KR
abbrev qW:FuncId:=122
theorem jX:IT 122 22 Tryz.f122 [(2,109,true)]:=@iM _ _ _ _ Tryz.func122 rfl rfl rfl KR KR
abbrev yk:FuncId:=123
theorem yF:IT 123 27 Tryz.f123 [(4,4,false)]:=@iM _ _ _ _ Tryz.func123 rfl rfl rfl KR KR
abbrev Fs:FuncId:=124
theorem FL:IT 124 17 Tryz.f124 [(4,4,false)]:=@iM _ _ _ _ Tryz.func124 rfl rfl rfl KR KR
abbrev ti:FuncId:=125
theorem tX:IT 125 26 Tryz.f125 [(4,4,false)]:=@iM _ _ _ _ Tryz.func125 rfl rfl rfl KR KR
abbrev B1:FuncId:=126
theorem CE:IT 126 27 Tryz.f126 [(4,4,false)]:=@iM _ _ _ _ Tryz.func126 rfl rfl rfl KR KR
abbrev yl:FuncId:=127
theorem yG:IT 127 27 Tryz.f127 [(4,4,false)]:=@iM _ _ _ _ Tryz.func127 rfl rfl rfl KR KR
abbrev ym:FuncId:=128
theorem yH:IT 128 27 Tryz.f128 [(4,4,false)]:=@iM _ _ _ _ Tryz.func128 rfl rfl rfl KR KR
abbrev wn:FuncId:=129
theorem wN:IT 129 61 Tryz.f129 [(4,4,false)]:=@iM _ _ _ _ Tryz.func129 rfl rfl rfl KR KR
abbrev wo:FuncId:=130
theorem wP:IT 130 20 Tryz.f130 [(4,4,false)]:=@iM _ _ _ _ Tryz.func130 rfl rfl rfl KR KR
abbrev sX:FuncId:=131
theorem tP:IT 131 35 Tryz.f131 [(4,3,false)]:=@iM _ _ _ _ Tryz.func131 rfl rfl rfl KR KR
abbrev yg:FuncId:=132
theorem yC:IT 132 14 Tryz.f132 [(4,3,false)]:=@iM _ _ _ _ Tryz.func132 rfl rfl rfl KR KR
abbrev pr:FuncId:=133
theorem pG:IT 133 20 Tryz.f133 [(4,3,false)]:=@iM _ _ _ _ Tryz.func133 rfl rfl rfl KR KR
abbrev wd:FuncId:=134
theorem wG:IT 134 34 Tryz.f134 [(4,3,false)]:=@iM _ _ _ _ Tryz.func134 rfl rfl rfl KR KR
abbrev sY:FuncId:=135
theorem tQ:IT 135 29 Tryz.f135 [(4,3,false)]:=@iM _ _ _ _ Tryz.func135 rfl rfl rfl KR KR
abbrev sZ:FuncId:=136
theorem tR:IT 136 34 Tryz.f136 [(4,3,false)]:=@iM _ _ _ _ Tryz.func136 rfl rfl rfl KR KR
abbrev wb:FuncId:=137
theorem wE:IT 137 20 Tryz.f137 [(2,9,false)]:=@iM _ _ _ _ Tryz.func137 rfl rfl rfl KR KR
abbrev tc:FuncId:=138
theorem tT:IT 138 41 Tryz.f138 [(4,3,false)]:=@iM _ _ _ _ Tryz.func138 rfl rfl rfl KR KR
abbrev yh:FuncId:=139
theorem yD:IT 139 18 Tryz.f139 [(4,3,false)]:=@iM _ _ _ _ Tryz.func139 rfl rfl rfl KR KR
abbrev pu:FuncId:=140
theorem pI:IT 140 22 Tryz.f140 [(4,3,false)]:=@iM _ _ _ _ Tryz.func140 rfl rfl rfl KR KR
abbrev wj:FuncId:=141
theorem wK:IT 141 40 Tryz.f141 [(4,3,false)]:=@iM _ _ _ _ Tryz.func141 rfl rfl rfl KR KR
abbrev td:FuncId:=142
theorem tU:IT 142 33 Tryz.f142 [(4,3,false)]:=@iM _ _ _ _ Tryz.func142 rfl rfl rfl KR KR
abbrev te:FuncId:=143
theorem tV:IT 143 40 Tryz.f143 [(4,3,false)]:=@iM _ _ _ _ Tryz.func143 rfl rfl rfl KR KR
abbrev vZ:FuncId:=144
theorem fH:IT 144 115 Tryz.f144 [(4,176,true)]:=@iM _ _ _ _ Tryz.func144 rfl rfl rfl KR KR
abbrev qO:FuncId:=145
theorem aS:IT 145 86 Tryz.f145 [(4,179,true)]:=@iM _ _ _ _ Tryz.func145 rfl rfl rfl KR KR
abbrev HB:FuncId:=146
theorem HT:IT 146 43 Tryz.f146 [(6,50,false)]:=@iM _ _ _ _ Tryz.func146 rfl rfl rfl KR KR
abbrev xX:FuncId:=147
theorem yn:IT 147 18 Tryz.f147 [(4,4,false)]:=@iM _ _ _ _ Tryz.func147 rfl rfl rfl KR KR
abbrev BH:FuncId:=148
theorem kz:IT 148 20 Tryz.f148 [(4,4,false)]:=@iM _ _ _ _ Tryz.func148 rfl rfl rfl KR KR
abbrev po:FuncId:=149
theorem fK:IT 149 81 Tryz.f149 [(4,75,true),(5,4,false)]:=@iM _ _ _ _ Tryz.func149 rfl rfl rfl KR KR
abbrev v4:FuncId:=150
theorem bX:IT 150 110 Tryz.f150 [(6,176,true)]:=@iM _ _ _ _ Tryz.func150 rfl rfl rfl KR KR
abbrev qP:FuncId:=151
theorem aU:IT 151 121 Tryz.f151 [(6,179,true)]:=@iM _ _ _ _ Tryz.func151 rfl rfl rfl KR KR
abbrev tt:FuncId:=152
theorem gN:IT 152 246 Tryz.f152 [(4,174,false)]:=@iM _ _ _ _ Tryz.func152 rfl rfl rfl KR KR
abbrev pw:FuncId:=153
theorem bc:IT 153 75 Tryz.f153 [(4,179,true)]:=@iM _ _ _ _ Tryz.func153 rfl rfl rfl KR KR
abbrev HH:FuncId:=154
theorem HX:IT 154 44 Tryz.f154 [(6,50,false)]:=@iM _ _ _ _ Tryz.func154 rfl rfl rfl KR KR
abbrev pA:FuncId:=155
theorem cX:IT 155 107 Tryz.f155 [(4,75,true),(5,4,false)]:=@iM _ _ _ _ Tryz.func155 rfl rfl rfl KR KR
abbrev tu:FuncId:=156
theorem co:IT 156 131 Tryz.f156 []:=@iM _ _ _ _ Tryz.func156 rfl rfl rfl KR KR
abbrev py:FuncId:=157
theorem bd:IT 157 95 Tryz.f157 [(6,109,true)]:=@iM _ _ _ _ Tryz.func157 rfl rfl rfl KR KR
abbrev pp:FuncId:=162
theorem fL:IT 162 23 Tryz.f162 [(4,9,false)]:=@iM _ _ _ _ Tryz.func162 rfl rfl rfl KR KR
abbrev vW:FuncId:=163
theorem wz:IT 163 28 Tryz.f163 [(2,4,false)]:=@iM _ _ _ _ Tryz.func163 rfl rfl rfl KR KR
abbrev sN:FuncId:=164
theorem tD:IT 164 5 Tryz.f164 [(2,4,false)]:=@iM _ _ _ _ Tryz.func164 rfl rfl rfl KR KR
abbrev qN:FuncId:=165
theorem qZ:IT 165 19 Tryz.f165 [(2,4,false)]:=@iM _ _ _ _ Tryz.func165 rfl rfl rfl KR KR
abbrev vV:FuncId:=166
theorem wy:IT 166 96 Tryz.f166 [(4,4,false)]:=@iM _ _ _ _ Tryz.func166 rfl rfl rfl KR KR
abbrev Fw:FuncId:=167
theorem FP:IT 167 28 Tryz.f167 [(2,4,false)]:=@iM _ _ _ _ Tryz.func167 rfl rfl rfl KR KR
abbrev B5:FuncId:=168
theorem CI:IT 168 18 Tryz.f168 [(2,4,false)]:=@iM _ _ _ _ Tryz.func168 rfl rfl rfl KR KR
abbrev oN:FuncId:=169
theorem kA:IT 169 92 Tryz.f169 [(4,124,true)]:=@iM _ _ _ _ Tryz.func169 rfl rfl rfl KR KR
abbrev Fv:FuncId:=170
theorem FO:IT 170 19 Tryz.f170 [(4,4,false)]:=@iM _ _ _ _ Tryz.func170 rfl rfl rfl KR KR
abbrev qT:FuncId:=171
theorem rd:IT 171 22 Tryz.f171 []:=@iM _ _ _ _ Tryz.func171 rfl rfl rfl KR KR
abbrev tm:FuncId:=172
theorem tZ:IT 172 23 Tryz.f172 [(2,9,false)]:=@iM _ _ _ _ Tryz.func172 rfl rfl rfl KR KR
abbrev Fz:FuncId:=173
theorem FR:IT 173 22 Tryz.f173 [(4,9,false)]:=@iM _ _ _ _ Tryz.func173 rfl rfl rfl KR KR
abbrev HG:FuncId:=174
theorem HW:IT 174 23 Tryz.f174 [(4,25,false)]:=@iM _ _ _ _ Tryz.func174 rfl rfl rfl KR KR
abbrev Fx:FuncId:=175
theorem FQ:IT 175 6 Tryz.f175 [(2,25,false)]:=@iM _ _ _ _ Tryz.func175 rfl rfl rfl KR KR
abbrev pC:FuncId:=176
theorem pL:IT 176 31 Tryz.f176 [(2,4,false)]:=@iM _ _ _ _ Tryz.func176 rfl rfl rfl KR KR
abbrev Fg:FuncId:=177
theorem FG:IT 177 26 Tryz.f177 [(4,9,false)]:=@iM _ _ _ _ Tryz.func177 rfl rfl rfl KR KR
abbrev sO:FuncId:=178
theorem tE:IT 178 32 Tryz.f178 [(2,120,true),(3,4,false)]:=@iM _ _ _ _ Tryz.func178 rfl rfl rfl KR KR
abbrev Bz:FuncId:=179
theorem Ch:IT 179 29 Tryz.f179 [(6,4,false)]:=@iM _ _ _ _ Tryz.func179 rfl rfl rfl KR KR
abbrev BQ:FuncId:=180
theorem Cu:IT 180 19 Tryz.f180 [(4,3,false)]:=@iM _ _ _ _ Tryz.func180 rfl rfl rfl KR KR
abbrev E8:FuncId:=181
theorem FD:IT 181 12 Tryz.f181 [(2,43,true)]:=@iM _ _ _ _ Tryz.func181 rfl rfl rfl KR KR
abbrev oM:FuncId:=182
theorem oX:IT 182 13 Tryz.f182 [(4,109,true)]:=@iM _ _ _ _ Tryz.func182 rfl rfl rfl KR KR
abbrev kn:FuncId:=183
theorem gZ:IT 183 79 Tryz.f183 [(4,48,true)]:=@iM _ _ _ _ Tryz.func183 rfl rfl rfl KR KR
abbrev BJ:FuncId:=184
theorem Cn:IT 184 15 Tryz.f184 [(2,198,true)]:=@iM _ _ _ _ Tryz.func184 rfl rfl rfl KR KR
abbrev Fk:FuncId:=185
theorem FJ:IT 185 14 Tryz.f185 [(2,206,true)]:=@iM _ _ _ _ Tryz.func185 rfl rfl rfl KR KR
abbrev BK:FuncId:=186
theorem Co:IT 186 11 Tryz.f186 [(2,202,true)]:=@iM _ _ _ _ Tryz.func186 rfl rfl rfl KR KR
abbrev BM:FuncId:=187
theorem Cq:IT 187 14 Tryz.f187 [(2,204,true)]:=@iM _ _ _ _ Tryz.func187 rfl rfl rfl KR KR
abbrev nL:FuncId:=188
theorem nN:IT 188 13 Tryz.f188 [(4,109,true)]:=@iM _ _ _ _ Tryz.func188 rfl rfl rfl KR KR
abbrev tp:FuncId:=189
theorem ua:IT 189 24 Tryz.f189 [(2,9,false)]:=@iM _ _ _ _ Tryz.func189 rfl rfl rfl KR KR
abbrev BW:FuncId:=190
theorem CA:IT 190 21 Tryz.f190 [(4,4,false)]:=@iM _ _ _ _ Tryz.func190 rfl rfl rfl KR KR
abbrev Ft:FuncId:=191
theorem FM:IT 191 20 Tryz.f191 [(4,4,false)]:=@iM _ _ _ _ Tryz.func191 rfl rfl rfl KR KR
abbrev BX:FuncId:=192
theorem CB:IT 192 15 Tryz.f192 [(4,4,false)]:=@iM _ _ _ _ Tryz.func192 rfl rfl rfl KR KR
abbrev B0:FuncId:=193
theorem CD:IT 193 20 Tryz.f193 [(4,4,false)]:=@iM _ _ _ _ Tryz.func193 rfl rfl rfl KR KR
abbrev we:FuncId:=194
theorem wH:IT 194 19 Tryz.f194 [(4,3,false)]:=@iM _ _ _ _ Tryz.func194 rfl rfl rfl KR KR
abbrev wk:FuncId:=195
theorem wL:IT 195 21 Tryz.f195 [(4,3,false)]:=@iM _ _ _ _ Tryz.func195 rfl rfl rfl KR KR
abbrev ko:FuncId:=196
theorem Cf:IT 196 138 Tryz.f196 [(4,176,true)]:=@iM _ _ _ _ Tryz.func196 rfl rfl rfl KR KR
abbrev BA:FuncId:=197
theorem kw:IT 197 26 Tryz.f197 [(4,75,true)]:=@iM _ _ _ _ Tryz.func197 rfl rfl rfl KR KR
abbrev Hz:FuncId:=198
theorem HR:IT 198 120 Tryz.f198 [(2,4,false)]:=@iM _ _ _ _ Tryz.func198 rfl rfl rfl KR KR
abbrev oK:FuncId:=199
theorem oW:IT 199 28 Tryz.f199 [(4,48,true),(5,4,false)]:=@iM _ _ _ _ Tryz.func199 rfl rfl rfl KR KR
abbrev mr:FuncId:=200
theorem bW:IT 200 140 Tryz.f200 [(6,48,true)]:=@iM _ _ _ _ Tryz.func200 rfl rfl rfl KR KR
abbrev px:FuncId:=201
theorem fM:IT 201 26 Tryz.f201 [(4,75,true)]:=@iM _ _ _ _ Tryz.func201 rfl rfl rfl KR KR
abbrev pD:FuncId:=202
theorem bG:IT 202 162 Tryz.f202 []:=@iM _ _ _ _ Tryz.func202 rfl rfl rfl KR KR
abbrev Fd:FuncId:=211
theorem FF:IT 211 35 Tryz.f211 [(2,9,false)]:=@iM _ _ _ _ Tryz.func211 rfl rfl rfl KR KR
abbrev BD:FuncId:=213
theorem Ck:IT 213 67 Tryz.f213 [(2,9,false)]:=@iM _ _ _ _ Tryz.func213 rfl rfl rfl KR KR
abbrev sP:FuncId:=214
theorem tF:IT 214 25 Tryz.f214 [(2,9,false)]:=@iM _ _ _ _ Tryz.func214 rfl rfl rfl KR KR
abbrev BU:FuncId:=215
theorem Cy:IT 215 12 Tryz.f215 [(4,3,false)]:=@iM _ _ _ _ Tryz.func215 rfl rfl rfl KR KR
abbrev BO:FuncId:=216
theorem Cs:IT 216 22 Tryz.f216 [(2,196,false)]:=@iM _ _ _ _ Tryz.func216 rfl rfl rfl KR KR
abbrev B2:FuncId:=217
theorem CF:IT 217 26 Tryz.f217 [(4,4,false)]:=@iM _ _ _ _ Tryz.func217 rfl rfl rfl KR KR
abbrev oJ:FuncId:=218
theorem oV:IT 218 18 Tryz.f218 [(2,3,false)]:=@iM _ _ _ _ Tryz.func218 rfl rfl rfl KR KR
abbrev BC:FuncId:=219
theorem Cj:IT 219 16 Tryz.f219 [(2,4,false),(3,4,false),(4,4,false),(5,4,false),(6,4,false)]:=@iM _ _ _ _ Tryz.func219 rfl rfl rfl KR KR
abbrev Hy:FuncId:=223
theorem HQ:IT 223 33 Tryz.f223 [(2,4,false)]:=@iM _ _ _ _ Tryz.func223 rfl rfl rfl KR KR
end Go.K
end
section
open Go Go.Tm Go.Proofs
namespace Go.K
structure Entry where
 kind:Int
 epoch:Int
 task:Int
 text:ByteArray
 deriving DecidableEq
abbrev jv(k ep ta:Int)(tx:ByteArray):V:=.agg [.t (.i k),.t (.i ep),.t (.i ta),.t (.s tx)]
abbrev Entry.v(e:Entry):V:=jv e.kind e.epoch e.task e.text
theorem aa(x lo hi:Int):F B4 [.val (.i x),.val (.i lo),.val (.i hi)] (.b (decide (lo≤x∧x≤hi))) [[],[],[]]:=by
 refine CH ?_
 conv=>whnf
 refine g 0 0 []<|J UA ?_
 by_cases h1:lo≤x
 refine g 7 15 [BT,BT,BT,BT]<|J Zce<|RT ?_
 exact vbd OM
 refine g 7 15 [BF,BF,BF,BF]<|J Zc5<|RT ?_
 exact vbf OM
theorem ah(x lo hi:Int):F HA [.val (.i x),.val (.i lo),.val (.i hi)] (.b (decide (lo≤x∧x≤hi))) [[],[],[]]:=by
 refine HS ?_
 conv=>whnf
 refine g 0 0 []<|J UA ?_
 by_cases h1:lo≤x
 refine g 7 15 [BT,BT,BT,BT]<|J Zce<|RT ?_
 exact vbd OM
 refine g 7 15 [BF,BF,BF,BF]<|J Zc5<|RT ?_
 exact vbf OM
end Go.K
end
section
open Go Go.Tm Go.Proofs
namespace Go.K
def Entry.ok(e:Entry):Prop:=(1≤e.epoch∧e.epoch≤300)∧(0≤e.task∧e.task≤39)∧((e.kind = 1∧e.task = 0∧e.text = ⟨#[]⟩)∨(e.kind = 2∧(e.text.size:Int) = 8))
instance (e:Entry):Decidable e.ok:=by unfold Entry.ok;infer_instance
theorem je(k ep ta:Int)(tx:ByteArray):F pC [.val (jv k ep ta tx)] (.b (decide (Entry.ok ⟨k,ep,ta,tx⟩))) [[]]:=by
 refine pL ?_
 conv=>whnf
 refine g 0 1 []<|J ⟨UD,I,I⟩<|W.sq ?_
 by_cases h1:(1:Int)≤ep∧ep≤(300:Int)
 refine g 5 12 [.call (V.b (decide (1≤ep∧ep≤300))) [[],[],[]],BF,BF,BF,.call (V.b (decide (0≤ta∧ta≤39))) [[],[],[]],BF,BF]<|J ⟨I,I,⟨UC,I,UU,UA,aa _ _ _⟩,I,I,⟨nO,I⟩,⟨nO,I⟩,⟨nO,UC,I,UU,UA,aa _ _ _⟩,⟨nO,I⟩,nO,I⟩<|W.cn<|J (fun h2=>?_) fun h2=>?_
 replace h2:=ndt h2
 refine g 12 13 []<|J UA<|RT ?_
 rotate_left
 replace h2:=ndf h2
 refine W.skip<|W.sq<|g 12 14 []<|J UB<|W.blk<|g 16 17 []<|J UB<|W.cn<|J (fun h3=>?_) fun h3=>?_
 replace h3:=dt h3
 by_cases h4:ta = (0:Int)
 refine g 14 25 [BT,BT,BT,BT]<|J Zce<|RT ?_
 rotate_left
 refine g 14 25 [BF,BF,BF,BF]<|J Zc5<|RT ?_
 rotate_left
 replace h3:=df h3
 refine g 14 16 []<|J UB<|W.cn<|J (fun h4=>?_) fun h4=>?_
 replace h4:=dt h4
 refine g 25 31 []<|J UE<|RT ?_
 rotate_left
 replace h4:=df h4
 refine W.skip<|g 25 27 []<|J UA<|RT ?_
 rotate_left
 refine g 5 12 [.call (V.b (decide (1≤ep∧ep≤300))) [[],[],[]],BT,BT,BT,BT,BT]<|J ⟨I,I,⟨UC,I,UU,UA,aa _ _ _⟩,I,I,ag OM,ag OM,ag OM,ag OM,ag OM,I⟩<|W.cn<|J (fun _=>(g 12 13 []<|J UA (RT ?_))) (noF rfl)
 rotate_left
 all_goals (first|exact vbt (by unfold Entry.ok;simp_all;done)|exact vbf (by unfold Entry.ok;simp_all;omega)|exact vbf (by unfold Entry.ok;simp_all)|exact vbd (by unfold Entry.ok;simp_all;done)|exact vbd (by unfold Entry.ok;simp_all;omega))
theorem Ih(k ep ta:Int)(tx:ByteArray):F Hy [.val (jv k ep ta tx)] (.b (decide (Entry.ok ⟨k,ep,ta,tx⟩))) [[]]:=by
 refine HQ ?_
 conv=>whnf
 refine g 0 1 []<|J ⟨UD,I,I⟩<|W.sq ?_
 by_cases h1:(1:Int)≤ep∧ep≤(300:Int)
 refine g 5 12 [.call (V.b (decide (1≤ep∧ep≤300))) [[],[],[]],BF,BF,BF,.call (V.b (decide (0≤ta∧ta≤39))) [[],[],[]],BF,BF]<|J ⟨I,I,⟨UC,I,UU,UA,ah _ _ _⟩,I,I,⟨nO,I⟩,⟨nO,I⟩,⟨nO,UC,I,UU,UA,ah _ _ _⟩,⟨nO,I⟩,nO,I⟩<|W.cn<|J (fun h2=>?_) fun h2=>?_
 replace h2:=ndt h2
 refine g 12 13 []<|J UA<|RT ?_
 rotate_left
 replace h2:=ndf h2
 refine W.skip<|W.sq<|g 12 15 []<|J UC<|W.cn<|J (fun h3=>?_) fun h3=>?_
 replace h3:=dt h3
 by_cases h4:ta = (0:Int)
 refine g 15 24 [BT,BT,BT,BT]<|J Zce<|RT ?_
 rotate_left
 refine g 15 24 [BF,BF,BF,BF]<|J Zc5<|RT ?_
 rotate_left
 replace h3:=df h3
 refine W.skip ?_
 by_cases h4:k = (2:Int)
 refine g 15 33 [BT,BT,BT,BT,BT]<|J ⟨I,I,I,I,⟨tO,I⟩,⟨tO,I⟩,⟨tO,I⟩,⟨tO,I⟩,tO,I,I⟩<|RT ?_
 rotate_left
 refine g 15 33 [BF,BF,BF,BF,BF]<|J ⟨I,I,I,I,dO,dO,dO,dO,dO,I,I⟩<|RT ?_
 rotate_left
 refine g 5 12 [.call (V.b (decide (1≤ep∧ep≤300))) [[],[],[]],BT,BT,BT,BT,BT]<|J ⟨I,I,⟨UC,I,UU,UA,ah _ _ _⟩,I,I,ag OM,ag OM,ag OM,ag OM,ag OM,I⟩<|W.cn<|J (fun _=>(g 12 13 []<|J UA (RT ?_))) (noF rfl)
 rotate_left
 all_goals (first|exact vbt (by unfold Entry.ok;simp_all;done)|exact vbf (by unfold Entry.ok;simp_all;omega)|exact vbf (by unfold Entry.ok;simp_all)|exact vbd (by unfold Entry.ok;simp_all;done)|exact vbd (by unfold Entry.ok;simp_all;omega))
abbrev emp:ByteArray:=⟨#[]⟩
def bl(l:List Int):ByteArray:=⟨(l.map fun n=>UInt8.ofNat n.toNat).toArray⟩
def K8(e:Entry):ByteArray:=if e.ok then bl [IntKind.u8.wrap e.kind,IntKind.u8.wrap (e.epoch.fdiv 256),IntKind.u8.wrap e.epoch,IntKind.u8.wrap e.task] ++e.text else emp
theorem lk(k ep ta:Int)(tx:ByteArray)(ht:tx.size≤281474976710656):F tp [.val (jv k ep ta tx)] (.s (K8 ⟨k,ep,ta,tx⟩)) [[]]:=by
 refine ua ?_
 conv=>whnf
 refine g 0 0 []<|J ⟨UD,I,I⟩<|W.sq<|g 4 5 [.call (V.b (decide (Entry.ok {kind:=k,epoch:=ep,task:=ta,text:=tx:Entry}))) [[]]]<|J ⟨I,⟨UA,I,⟨UD,I⟩,UA,je _ _ _ _⟩,I,I⟩<|W.cn<|J (fun h1=>?_) fun h1=>?_
 replace h1:=ndt h1
 refine g 5 6 []<|J UA<|RT ?_
 rotate_left
 replace h1:=ndf h1
 refine W.skip<|g 10 24 [.i (IntKind.wrap IntKind.u8 k),.i (Int.fdiv ep (2 ^ min (Int.toNat 8) (IntKind.bits IntKind.i64))),.i (IntKind.wrap IntKind.u8 (Int.fdiv ep (2 ^ min (Int.toNat 8) (IntKind.bits IntKind.i64)))),.i (IntKind.wrap IntKind.u8 ep),.i (IntKind.wrap IntKind.u8 ta),.s ({data:=List.toArray (bQ [[T.v (Value.int IntKind.u8 (IntKind.wrap IntKind.u8 k))],[T.v (Value.int IntKind.u8 (IntKind.wrap IntKind.u8 (Int.fdiv ep (2 ^ min (Int.toNat 8) (IntKind.bits IntKind.i64)))))],[T.v (Value.int IntKind.u8 (IntKind.wrap IntKind.u8 ep))],[T.v (Value.int IntKind.u8 (IntKind.wrap IntKind.u8 ta))]]):ByteArray}),.s ({data:=List.toArray (bQ [[T.v (Value.int IntKind.u8 (IntKind.wrap IntKind.u8 k))],[T.v (Value.int IntKind.u8 (IntKind.wrap IntKind.u8 (Int.fdiv ep (2 ^ min (Int.toNat 8) (IntKind.bits IntKind.i64)))))],[T.v (Value.int IntKind.u8 (IntKind.wrap IntKind.u8 ep))],[T.v (Value.int IntKind.u8 (IntKind.wrap IntKind.u8 ta))]]):ByteArray} ++tx)]<|J ⟨I,I,rfl,I,I,Zdp,rfl,I,I,rfl,I,I,rfl,Zc8,⟨I,(by repeat (first|exact jB|refine hM ?_)),rfl⟩,I,I,⟨rfl,(by simp only[bsz,ByteArray.size_append,mP];omega)⟩,I,I⟩ ?_
 refine RT ?_
 rotate_left
 ·refine vs ?_
  simp only[K8,h1,if_false]
 ·refine vs ?_
  simp only[K8,h1,if_true];rfl
def dc(e:Entry):ByteArray:=if e.ok then bl [IntKind.u8.wrap e.kind,IntKind.u8.wrap (IntKind.i64.wrap (e.epoch.tdiv 256)),IntKind.u8.wrap (e.epoch.tmod 256),IntKind.u8.wrap e.task] ++e.text else emp
theorem gO(k ep ta:Int)(tx:ByteArray)(ht:tx.size≤281474976710656):F sP [.val (jv k ep ta tx)] (.s (dc ⟨k,ep,ta,tx⟩)) [[]]:=by
 refine tF ?_
 conv=>whnf
 refine g 0 0 []<|J ⟨UD,I,I⟩<|W.sq<|g 4 5 [.call (V.b (decide (Entry.ok {kind:=k,epoch:=ep,task:=ta,text:=tx:Entry}))) [[]]]<|J ⟨I,⟨UA,I,⟨UD,I⟩,UA,Ih _ _ _ _⟩,I,I⟩<|W.cn<|J (fun h1=>?_) fun h1=>?_
 replace h1:=ndt h1
 refine g 5 6 []<|J UA<|RT ?_
 rotate_left
 replace h1:=ndf h1
 refine W.skip<|g 10 25 [.i (IntKind.wrap IntKind.u8 k),.i (IntKind.wrap IntKind.i64 (Int.tdiv ep 256)),.i (IntKind.wrap IntKind.u8 (IntKind.wrap IntKind.i64 (Int.tdiv ep 256))),.i (Int.tmod ep 256),.i (IntKind.wrap IntKind.u8 (Int.tmod ep 256)),.i (IntKind.wrap IntKind.u8 ta),.s ({data:=List.toArray (bQ [[T.v (Value.int IntKind.u8 (IntKind.wrap IntKind.u8 k))],[T.v (Value.int IntKind.u8 (IntKind.wrap IntKind.u8 (IntKind.wrap IntKind.i64 (Int.tdiv ep 256))))],[T.v (Value.int IntKind.u8 (IntKind.wrap IntKind.u8 (Int.tmod ep 256)))],[T.v (Value.int IntKind.u8 (IntKind.wrap IntKind.u8 ta))]]):ByteArray}),.s ({data:=List.toArray (bQ [[T.v (Value.int IntKind.u8 (IntKind.wrap IntKind.u8 k))],[T.v (Value.int IntKind.u8 (IntKind.wrap IntKind.u8 (IntKind.wrap IntKind.i64 (Int.tdiv ep 256))))],[T.v (Value.int IntKind.u8 (IntKind.wrap IntKind.u8 (Int.tmod ep 256)))],[T.v (Value.int IntKind.u8 (IntKind.wrap IntKind.u8 ta))]]):ByteArray} ++tx)]<|J ⟨I,I,rfl,I,I,Zdp,rfl,I,I,Zdp,rfl,I,I,rfl,Zc8,⟨I,(by repeat (first|exact jB|refine hM ?_)),rfl⟩,I,I,⟨rfl,(by simp only[bsz,ByteArray.size_append,mP];omega)⟩,I,I⟩ ?_
 refine RT ?_
 rotate_left
 ·refine vs ?_
  simp only[dc,h1,if_false]
 ·refine vs ?_
  simp only[dc,h1,if_true];rfl
def byt(s:ByteArray)(i:Nat):Int:=((s[i]?).map (fun b=>(b.toNat:Int))).getD 0
def Gq(x y:Int):Int:=IntKind.i64.wrap ↑(BitVec.ofInt IntKind.i64.bits x|||BitVec.ofInt IntKind.i64.bits y).toNat
def rdI(s:ByteArray):Entry:=⟨byt s 0,Gq (IntKind.i64.wrap (byt s 1 * 256)) (byt s 2),byt s 3,s.extract 4 s.size⟩
def rdS(s:ByteArray):Entry:=⟨byt s 0,byt s 1 * 256+byt s 2,byt s 3,s.extract 4 s.size⟩
abbrev noE:Entry:=⟨0,0,0,emp⟩
abbrev lq(o:Option Entry):V:=match o with|some e=>.tup [e.v,.b true]|none=>.tup [noE.v,.b false]
def qf(s:ByteArray):Option Entry:=if(s.size:Int) < 4∨12 < (s.size:Int)then none else if(rdI s).ok then some (rdI s)else none
def ed(s:ByteArray):Option Entry:=if(s.size:Int) < 4 then none else if dc (rdS s) = s then some (rdS s)else none
theorem bH{s:ByteArray}{i:Nat}{c:UInt8}(h:s[i]? = some c):byt s i = (c.toNat:Int):=by simp[byt,h]
theorem lj(s:ByteArray)(ht:s.size≤281474976710656):F kR [.val (.s s)] (lq (qf s)) [[]]:=by
 refine t8 ?_
 conv=>whnf
 refine g 0 0 []<|J UB<|W.sq ?_
 by_cases h1:(↑(ByteArray.size s):Int) < (4:Int)
 refine g 5 12 [BT,BT,BT,BT]<|J ⟨I,I,I,I,tO,tO,tO,tO,I⟩<|W.cn<|J (fun _=>(g 12 14 []<|J ⟨I,UD,I,I⟩ (RT ?_))) (noF rfl)
 rotate_left
 refine g 5 12 [BF,BF,BF,BF]<|J ⟨I,I,I,I,⟨dO,I⟩,⟨dO,I⟩,⟨dO,I⟩,dO,I⟩<|W.cn<|J (fun h2=>?_) fun h2=>?_
 replace h2:=dt h2
 refine g 12 14 []<|J ⟨I,UD,I,I⟩<|RT ?_
 rotate_left
 replace h2:=df h2
 refine W.skip ?_
 obtain⟨y1,hy1,hb1⟩:=bz (s:=s) (n:=(0:Nat)) OM
 obtain⟨y2,hy2,hb2⟩:=bz (s:=s) (n:=(1:Nat)) OM
 obtain⟨y3,hy3,hb3⟩:=bz (s:=s) (n:=(2:Nat)) OM
 obtain⟨y4,hy4,hb4⟩:=bz (s:=s) (n:=(3:Nat)) OM
 refine gd 12 27 [[],[.i ((↑(UInt8.toNat y1):Int))],[.i ((↑(UInt8.toNat y1):Int))],[],[.i ((↑(UInt8.toNat y2):Int))],[.i ((↑(UInt8.toNat y2):Int))],[.i (IntKind.wrap IntKind.i64 ((↑(UInt8.toNat y2):Int) * 2 ^ min (Int.toNat 8) (IntKind.bits IntKind.i64)))],[],[.i ((↑(UInt8.toNat y3):Int))],[.i ((↑(UInt8.toNat y3):Int))],[.i (IntKind.wrap IntKind.i64 (↑(BitVec.toNat (BitVec.ofInt (IntKind.bits IntKind.i64) (IntKind.wrap IntKind.i64 ((↑(UInt8.toNat y2):Int) * 2 ^ min (Int.toNat 8) (IntKind.bits IntKind.i64)))|||BitVec.ofInt (IntKind.bits IntKind.i64) (↑(UInt8.toNat y3):Int))):Int))],[],[.i ((↑(UInt8.toNat y4):Int))],[.i ((↑(UInt8.toNat y4):Int))],[],[.n (4),.s (ByteArray.extract s 4 (ByteArray.size s))],[],[],[]] ?_
 conv=>whnf
 refine J ⟨I,Zc2,w8 _,I,Zc2,w8 _,Zdp,I,Zc2,w8 _,rfl,I,Zc2,w8 _,I,⟨I,rfl,OM,OM,rfl⟩,I,I,UD,I⟩<|J KR<|W.sq<|g 28 33 [.call (V.b (decide (Entry.ok {kind:=(↑(UInt8.toNat y1):Int),epoch:=IntKind.wrap IntKind.i64 (↑(BitVec.toNat (BitVec.ofInt (IntKind.bits IntKind.i64) (IntKind.wrap IntKind.i64 ((↑(UInt8.toNat y2):Int) * 2 ^ min (Int.toNat 8) (IntKind.bits IntKind.i64)))|||BitVec.ofInt (IntKind.bits IntKind.i64) (↑(UInt8.toNat y3):Int))):Int),task:=(↑(UInt8.toNat y4):Int),text:=ByteArray.extract s 4 (ByteArray.size s):Entry}))) [[]]]<|J ⟨I,⟨UA,I,⟨UD,I⟩,UA,je _ _ _ _⟩,I,I⟩<|W.cn<|J (fun h3=>?_) fun h3=>?_
 replace h3:=ndt h3
 refine g 33 35 []<|J ⟨I,UD,I,I⟩<|RT ?_
 rotate_left
 replace h3:=ndf h3
 refine W.skip<|g 33 36 []<|J ⟨I,UD,I,I⟩<|RT ?_
 rotate_left
 ·exact congrArg lq (show none = qf s by unfold qf;rw[if_pos OM])
 ·exact congrArg lq (show none = qf s by unfold qf;rw[if_pos OM])
 ·have e:rdI s = ⟨y1.toNat,Gq (IntKind.i64.wrap ((y2.toNat:Int) * 256)) y3.toNat,y4.toNat,s.extract 4 s.size⟩:=by simp only[rdI,bH hy1,bH hy2,bH hy3,bH hy4]
  exact congrArg lq (show none = qf s by unfold qf;rw[if_neg OM,e];exact(if_neg h3).symm)
 ·have e:rdI s = ⟨y1.toNat,Gq (IntKind.i64.wrap ((y2.toNat:Int) * 256)) y3.toNat,y4.toNat,s.extract 4 s.size⟩:=by simp only[rdI,bH hy1,bH hy2,bH hy3,bH hy4]
  exact congrArg lq (show some _ = qf s by unfold qf;rw[if_neg OM,e];exact(if_pos h3).symm)
theorem uj(s:ByteArray)(ht:s.size≤281474976710656):F sO [.val (.s s)] (lq (ed s)) [[]]:=by
 refine tE ?_
 conv=>whnf
 refine g 0 0 []<|J UB<|W.sq<|g 5 7 []<|J UC<|W.cn<|J (fun h1=>?_) fun h1=>?_
 replace h1:=dt h1
 refine g 7 9 []<|J ⟨I,UD,I,I⟩<|RT ?_
 rotate_left
 replace h1:=df h1
 refine W.skip ?_
 obtain⟨y1,hy1,hb1⟩:=bz (s:=s) (n:=(0:Nat)) OM
 obtain⟨y2,hy2,hb2⟩:=bz (s:=s) (n:=(1:Nat)) OM
 obtain⟨y3,hy3,hb3⟩:=bz (s:=s) (n:=(2:Nat)) OM
 obtain⟨y4,hy4,hb4⟩:=bz (s:=s) (n:=(3:Nat)) OM
 refine gd 7 26 [[],[.i ((↑(UInt8.toNat y1):Int))],[.i ((↑(UInt8.toNat y1):Int))],[],[.i ((↑(UInt8.toNat y2):Int))],[.i ((↑(UInt8.toNat y2):Int))],[.i ((↑(UInt8.toNat y2):Int) * 256)],[],[.i ((↑(UInt8.toNat y3):Int))],[.i ((↑(UInt8.toNat y3):Int))],[.i ((↑(UInt8.toNat y2):Int) * 256+ (↑(UInt8.toNat y3):Int))],[],[.i ((↑(UInt8.toNat y4):Int))],[.i ((↑(UInt8.toNat y4):Int))],[],[.n (4),.s (ByteArray.extract s 4 (ByteArray.size s))],[],[],[]] ?_
 conv=>whnf
 refine J ⟨I,Zc2,w8 _,I,Zc2,w8 _,wO,I,Zc2,w8 _,wO,I,Zc2,w8 _,I,⟨I,rfl,OM,OM,rfl⟩,I,I,UD,I⟩<|J KR<|W.sq<|g 0 1 [.call (V.s (dc {kind:=(↑(UInt8.toNat y1):Int),epoch:=(↑(UInt8.toNat y2):Int) * 256+ (↑(UInt8.toNat y3):Int),task:=(↑(UInt8.toNat y4):Int),text:=ByteArray.extract s 4 (ByteArray.size s):Entry})) [[]]]<|J ⟨I,⟨UA,I,⟨UD,I⟩,UA,gO _ _ _ _ (by simp only[ByteArray.size_extract];omega)⟩,I,I,I⟩<|W.cn<|J (fun h2=>?_) fun h2=>?_
 replace h2:=ndt h2
 refine g 28 31 []<|J ⟨I,UD,I,I⟩<|RT ?_
 rotate_left
 replace h2:=ndf h2
 refine W.skip<|g 28 32 []<|J ⟨I,UD,I,I⟩<|RT ?_
 rotate_left
 ·exact congrArg lq (show none = ed s by unfold ed;rw[if_pos OM])
 ·have e:rdS s = ⟨y1.toNat,(y2.toNat:Int) * 256+y3.toNat,y4.toNat,s.extract 4 s.size⟩:=by simp only[rdS,bH hy1,bH hy2,bH hy3,bH hy4]
  exact congrArg lq (show none = ed s by unfold ed;rw[if_neg OM,e];exact(if_neg h2).symm)
 ·have e:rdS s = ⟨y1.toNat,(y2.toNat:Int) * 256+y3.toNat,y4.toNat,s.extract 4 s.size⟩:=by simp only[rdS,bH hy1,bH hy2,bH hy3,bH hy4]
  exact congrArg lq (show some _ = ed s by unfold ed;rw[if_neg OM,e];exact(if_pos h2).symm)
end Go.K
end
section
open Go Go.Tm Go.Proofs
namespace Go.K
theorem MB(e:Entry):K8 e = dc e:=by
 unfold K8 dc
 by_cases h:e.ok
 ·simp only[h,if_true]
  obtain⟨⟨h1,h2⟩,_⟩:=h
  have e1:e.epoch.fdiv 256 = e.epoch / 256:=Int.fdiv_eq_ediv_of_nonneg _ OM
  have e2:e.epoch.tdiv 256 = e.epoch / 256:=Int.tdiv_eq_ediv_of_nonneg OM
  have e3:e.epoch.tmod 256 = e.epoch % 256:=Int.tmod_eq_emod_of_nonneg OM
  have e4:IntKind.u8.wrap e.epoch = e.epoch % 256:=by simp[IntKind.wrap,IntKind.bits,IntKind.signed]
  rw[e1,e2,e3,wO,e4,wu8 (z:=e.epoch % 256) OM OM]
 ·simp only[h,if_false]
end Go.K
namespace Go.K
end Go.K
end
section
open Go Go.Tm Go.Proofs
namespace Go.K
theorem uH{l:List UInt8}{i:Nat}{c:UInt8}(h:l[i]? = some c):byt ⟨⟨l⟩⟩ i = (c.toNat:Int):=by
 have:(ByteArray.mk ⟨l⟩)[i]? = l[i]?:=by
  show(if h:i < (ByteArray.mk ⟨l⟩).size then some ((ByteArray.mk ⟨l⟩)[i])else none) = _
  have hsz:(ByteArray.mk ⟨l⟩).size = l.length:=rfl
  by_cases hi:i < l.length
  ·rw[dif_pos (by rw[hsz];exact hi),List.getElem?_eq_getElem hi];rfl
  ·rw[dif_neg (by rw[hsz];exact hi),List.getElem?_eq_none OM]
 exact bH (by rw[this];exact h)
theorem WF(s:ByteArray)(h:4≤s.size):bl [byt s 0,byt s 1,byt s 2,byt s 3] ++s.extract 4 s.size = s:=by
 obtain⟨⟨l⟩⟩:=s
 match l,h with
 |a :: b :: c :: d :: r,_ =>
  rw[uH (c:=a) rfl,uH (c:=b) rfl,uH (c:=c) rfl,uH (c:=d) rfl]
  apply ByteArray.ext
  rw[ByteArray.data_append,ByteArray.data_extract]
  apply Array.ext'
  simp[bl,ByteArray.size]
theorem I7(a b:Nat)(ha:a < 256)(hb:b < 256):Gq (IntKind.i64.wrap ((a:Int) * 256)) b = (a:Int) * 256+b:=by
 rw[wO]
 unfold Gq
 have e:((BitVec.ofInt IntKind.i64.bits ((a:Int) * 256))|||BitVec.ofInt IntKind.i64.bits (b:Int)).toNat = a * 256+b:=by
  have h1:BitVec.ofInt IntKind.i64.bits ((a:Int) * 256) = BitVec.ofNat IntKind.i64.bits (a * 256):=by
   rw[show((a:Int) * 256) = ((a * 256:Nat):Int) by simp];exact BitVec.ofInt_natCast ..
  have h2:BitVec.ofInt IntKind.i64.bits (b:Int) = BitVec.ofNat IntKind.i64.bits b:=BitVec.ofInt_natCast ..
  have hb64:IntKind.i64.bits = 64:=rfl
  rw[h1,h2,BitVec.toNat_or,BitVec.toNat_ofNat,BitVec.toNat_ofNat,hb64,Nat.mod_eq_of_lt OM,Nat.mod_eq_of_lt OM]
  have:=Nat.two_pow_add_eq_or_of_lt (i:=8) (b:=b) OM a
  rw[Nat.mul_comm]at this
  simpa using this.symm
 rw[e]
 rw[wO];simp
theorem dY(s:ByteArray)(i:Nat):∃ n:Nat,byt s i = n∧n < 256:=by
 unfold byt
 cases h:s[i]? with
 |none=>exact⟨0,rfl,by omega⟩
 |some c=>exact⟨c.toNat,rfl,UInt8.toNat_lt _⟩
theorem XI(s:ByteArray):rdI s = rdS s:=by
 unfold rdI rdS
 obtain⟨a,ha,ha'⟩:=dY s 1
 obtain⟨b,hb,hb'⟩:=dY s 2
 rw[ha,hb,I7 a b ha' hb']
theorem Mb(s:ByteArray):qf s = ed s:=by
 unfold qf ed
 rw[XI]
 by_cases h4:(s.size:Int) < 4
 ·rw[if_pos OM,if_pos h4]
 ·rw[if_neg h4]
  have hx:(s.extract 4 s.size).size = s.size - 4:=by rw[ByteArray.size_extract];omega
  by_cases hok:(rdS s).ok
  ·have hform:dc (rdS s) = s:=by
    unfold dc
    rw[if_pos hok]
    obtain⟨⟨h1,h2⟩,⟨h3,h4'⟩,h5⟩:=hok
    obtain⟨a,ha,ha'⟩:=dY s 1
    obtain⟨b,hb,hb'⟩:=dY s 2
    have hk:IntKind.u8.wrap (rdS s).kind = byt s 0:=by
     obtain⟨c,hc,hc'⟩:=dY s 0
     show IntKind.u8.wrap (byt s 0) = _
     rw[wu8 OM OM]
    have ht:IntKind.u8.wrap (rdS s).task = byt s 3:=by
     obtain⟨c,hc,hc'⟩:=dY s 3
     show IntKind.u8.wrap (byt s 3) = _
     rw[wu8 OM OM]
    have he:(rdS s).epoch = (a:Int) * 256+b:=by show byt s 1 * 256+byt s 2 = _;rw[ha,hb]
    have e1:IntKind.u8.wrap (IntKind.i64.wrap ((rdS s).epoch.tdiv 256)) = byt s 1:=by
     rw[he,Int.tdiv_eq_ediv_of_nonneg OM,wO,wu8 OM OM,ha];omega
    have e2:IntKind.u8.wrap ((rdS s).epoch.tmod 256) = byt s 2:=by
     rw[he,Int.tmod_eq_emod_of_nonneg OM,wu8 OM OM,hb];omega
    rw[hk,ht,e1,e2]
    exact WF s OM
   have hsz:¬((s.size:Int) < 4∨12 < (s.size:Int)):=by
    obtain⟨_,_,h5⟩:=hok
    have hr:(rdS s).text = s.extract 4 s.size:=rfl
    rcases h5 with⟨_,_,h6⟩|⟨_,h6⟩
    ·rw[hr]at h6
     have:=congrArg ByteArray.size h6
     rw[hx]at this
     have h0:(ByteArray.mk #[]).size = 0:=rfl
     omega
    ·rw[hr,hx]at h6;omega
   rw[if_neg hsz,if_pos hok,if_pos hform]
  ·have hform:dc (rdS s)≠s:=by
    unfold dc
    rw[if_neg hok]
    intro e
    have:=congrArg ByteArray.size e
    have h0:emp.size = 0:=rfl
    omega
   rw[if_neg hform,if_neg hok]
   simp
end Go.K
end
section
open Go Go.Tm Go.Proofs
namespace Go.K
abbrev ak(s:ByteArray):List T:=[.s s]
abbrev pZ(xs:List ByteArray):T:=.slc [false] (xs.map ak)
theorem fj(xs:List ByteArray)(left:Int)(hl:xs.length≤9223372036854775807)(hs:∀ s∈xs,s.size≤9223372036854775807)(h:left≤1048576)(h0:0≤left) :
 F sV [.val (.t (pZ xs)),.val (.i left)] (.i (if left - xs.length - bP xs < 0 then -1 else left - xs.length - bP xs)) [[],[]]:=by
 have hnn:=bi xs
 refine tL ?_
 conv=>whnf
 refine g 0 0 []<|J UA<|g 6 10 [.i (left - (↑(List.length (List.map ak xs)):Int))]<|J ⟨I,I,I,w64 LN LN,I,I⟩<|W.sq<|g 10 11 []<|J UB<|W.cn<|J (fun h1=>?_) fun h1=>?_
 replace h1:=dt h1
 simp only[LM]at h1
 refine g 11 12 []<|J UA<|RT ?_
 exact vi OM
 replace h1:=df h1
 simp only[LM]at h1
 refine W.skip<|W.sq<|g 11 12 []<|J UA<|W.blk ?_
 refine W.lp (fun s (n:Nat)=>⟨[(0,s.s 0),(1,.i (left - xs.length - bP (xs.take n))),(5,.i n)],[],[]⟩) (fun(n:Nat)=>n≤xs.length∧0≤left - xs.length - bP (xs.take n)) (fun(n:Nat)=>xs.length - n) (0) [] [] ⟨rfl,⟨rfl,(congrArg (fun z=>V.t (T.v (Value.int _ z))) (by simp[bP])),rfl,I⟩,I,I⟩ ?_ ?_
 ·simp[bP];omega
 rintro n ⟨hn,hc⟩
 have hq:=bi (xs.take n)
 have hle:=L0 xs (n+1)
 conv=>whnf
 refine W.sq<|g 12 15 []<|J UD<|W.cn<|J (fun h2=>?_) fun h2=>?_
 replace h2:=dt h2
 simp only[LM]at h2
 refine W.skip<|W.sq<|W.blk ?_
 obtain⟨y1,hy1⟩:=af (xs:=xs) (n:=n) OM
 have hm1:=hs y1 (List.mem_of_getElem? hy1)
 have hk1:=DZ hy1
 refine g 15 25 [.x (ak y1),.i (left - (↑xs.length:Int) - bP (List.take n xs) - (↑(ByteArray.size y1):Int))]<|J ⟨I,I,I,Zdg,I,I,wO,I,I⟩<|g 25 26 []<|J UB<|W.cn<|J (fun h3=>?_) fun h3=>?_
 replace h3:=dt h3
 refine g 26 27 []<|J UA<|RT ?_
 exact vi OM
 replace h3:=df h3
 refine W.skip<|rg [.i ((n:Int) +1)]<|J Zdd ?_
 rotate_left
 replace h2:=df h2
 simp only[LM]at h2
 refine W.exit<|g 5 28 []<|J UB<|RT ?_
 rotate_left
 ·refine⟨n+1,[],[],⟨rfl,⟨rfl,(congrArg (fun z=>V.t (T.v (Value.int _ z))) (by rw[DZ AS];omega)),rfl,I⟩,I,I⟩,?_,?_⟩
  rotate_left
  (dsimp only;omega)
  dsimp only
  omega
 ·have e:xs.take n = xs:=List.take_of_length_le OM
  rw[e]at hc ⊢
  exact vi (by split <;> omega)
theorem fi(xs:List ByteArray)(hl:xs.length≤1048576):F sS [.val (.t (pZ xs))] (.own [false] (xs.map ak)) [[]]:=by
 refine tI ?_
 conv=>whnf
 refine g 0 0 []<|J UA<|g 5 8 [.n (List.length (List.map ak xs))]<|J Zcs<|W.sq<|g 0 0 []<|J UA<|W.blk<|W.lp (fun s (n:Nat)=>⟨[(0,s.s 0),(2,s.s 2),(3,s.s 3),(4,.i n)],[(7,[.own [false] (fill ak (ak emp) xs n)])],[]⟩) (fun(n:Nat)=>n≤xs.length) (fun(n:Nat)=>xs.length - n) (0) [some 7] [] ⟨rfl,Za6,⟨⟨rfl,⟨(congrArg (V.own _) (fg (by simp) rfl)),I⟩⟩,I⟩,I⟩ OM ?_
 intro n hn
 conv=>whnf
 refine W.sq<|g 8 11 []<|J UD<|W.cn<|J (fun h1=>?_) fun h1=>?_
 replace h1:=dt h1
 simp only[LM]at h1
 refine W.skip<|W.sq<|W.blk ?_
 obtain⟨y1,hy1⟩:=af (xs:=xs) (n:=n) OM
 refine rg [.x (ak y1),.n (n),.x (ak emp)]<|J ⟨I,I,I,I,Zdg,I,Zdf,⟨UA,gG OM⟩,I⟩<|rg [.i ((n:Int) +1)]<|J Zdd ?_
 rotate_left
 replace h1:=df h1
 simp only[LM]at h1
 refine W.exit<|g 3 22 []<|J UB<|RT ?_
 rotate_left
 ·refine⟨n+1,[some 7],[],⟨rfl,Za6,⟨⟨rfl,⟨(congrArg (V.own _) (gF AS)),I⟩⟩,I⟩,I⟩,?_,?_⟩
  rotate_left
  (dsimp only;omega)
  dsimp only
  omega
 ·have e:fill ak (ak emp) xs n = xs.map ak:=gH _ _ _ OM
  rw[←e]
theorem fk(xs ys:List ByteArray)(hl:xs.length≤9223372036854775806):F ti [.val (.t (pZ xs)),.val (.t (pZ ys))] (.b (decide (xs = ys))) [[],[]]:=by
 refine tX ?_
 conv=>whnf
 refine g 0 0 []<|J UA<|W.sq<|g 6 10 []<|J UE<|W.cn<|J (fun h1=>?_) fun h1=>?_
 replace h1:=ndt h1
 simp only[LM]at h1
 refine g 10 11 []<|J UA<|RT ?_
 rotate_left
 replace h1:=ndf h1
 simp only[LM]at h1
 refine W.skip<|W.sq<|g 10 11 []<|J UA<|W.blk ?_
 rotate_left
 ·exact vbf (fun e=>h1 (by rw[e]))
 refine W.lp (fun s (n:Nat)=>⟨[(0,s.s 0),(1,s.s 1),(5,.i n)],[],[]⟩) (fun(n:Nat)=>n≤xs.length∧xs.take n = ys.take n) (fun(n:Nat)=>xs.length - n) (0) [] [] Zbb (by simp) ?_
 rintro n ⟨hn,hc⟩
 conv=>whnf
 refine W.sq<|g 11 14 []<|J UD<|W.cn<|J (fun h2=>?_) fun h2=>?_
 replace h2:=dt h2
 simp only[LM]at h2
 refine W.skip<|W.sq<|W.blk ?_
 obtain⟨y1,hy1⟩:=af (xs:=xs) (n:=n) OM
 obtain⟨y2,hy2⟩:=af (xs:=ys) (n:=n) OM
 refine gd 14 25 [[],[],[.x (ak y1)],[],[],[],[.x (ak y2)],[],[]] ?_
 conv=>whnf
 refine J ⟨I,I,Zdg,I,I,I,Zdg,I,I,I⟩<|J KR<|W.cn<|J (fun h3=>?_) fun h3=>?_
 replace h3:=ndt h3
 refine g 25 26 []<|J UA<|RT ?_
 rotate_left
 replace h3:=ndf h3
 refine W.skip<|rg [.i ((n:Int) +1)]<|J Zdd ?_
 rotate_left
 replace h2:=df h2
 simp only[LM]at h2
 refine W.exit<|g 0 2 []<|J UA<|RT ?_
 rotate_left
 ·exact vbf (fun e=>by subst e;rw[hy1]at hy2;cases hy2;exact h3 rfl)
 ·refine⟨n+1,[],[],Zbb,?_,?_⟩
  rotate_left
  (dsimp only;omega)
  dsimp only
  exact⟨by omega,by rw[List.take_add_one,List.take_add_one,hy1,hy2,hc,h3]⟩
 ·exact vbt (by rw[List.take_of_length_le OM,List.take_of_length_le OM]at hc;exact hc)
end Go.K
end
section
open Go Go.Tm Go.Proofs
namespace Go.K
abbrev u8v(n:Int):V:=.t (.v (.int .u64 n))
def fnv(v:Int)(c:UInt8):Int:=IntKind.u64.wrap (IntKind.u64.wrap (BitVec.ofInt IntKind.u64.bits v ^^^ BitVec.ofInt IntKind.u64.bits (c.toNat:Int)).toNat * 1099511628211)
def mE(v:Int)(s:ByteArray)(n:Nat):Int:=(s.data.toList.take n).foldl fnv v
theorem WX{s:ByteArray}{n:Nat}{c:UInt8}(h:s[n]? = some c):s.data.toList[n]? = some c:=by
 by_cases hn:n < s.size
 ·rw[getElem?_pos s n hn]at h
  have hd:n < s.data.toList.length:=by simpa using hn
  rw[List.getElem?_eq_getElem hd]
  rw[←h];simp;rfl
 ·rw[getElem?_neg s n hn]at h;cases h
theorem Ez{v:Int}{s:ByteArray}{n:Nat}{c:UInt8}(h:s[n]? = some c):mE v s (n+1) = fnv (mE v s n) c:=by
 unfold mE
 rw[List.take_add_one,WX h,List.foldl_append];rfl
theorem WQ(v:Int)(c:UInt8):0≤fnv v c∧fnv v c≤18446744073709551615:=WD _
theorem Ak:∀ (l:List UInt8) (v:Int),0≤v∧v≤18446744073709551615→0≤l.foldl fnv v∧l.foldl fnv v≤18446744073709551615
 |[],_,h=>h
 |c :: l,v,_=>Ak l (fnv v c) (WQ v c)
theorem dm(v:Int)(tx:ByteArray)(hs:tx.size≤9223372036854775807):F qT [.ptr [u8v v],.val (.s tx)] (.tup []) [[u8v (mE v tx tx.size)],[]]:=by
 refine rd ?_
 conv=>whnf
 refine g 0 0 []<|J UA<|W.blk<|W.lp (fun s (n:Nat)=>⟨[(0,s.s 0),(1,s.s 1),(4,.i n)],[(22,[u8v (mE v tx n)])],[]⟩) (fun(n:Nat)=>n≤tx.size) (fun(n:Nat)=>tx.size - n) (0) [some 22] [] ⟨rfl,⟨rfl,rfl,rfl,I⟩,Zdn,I⟩ OM ?_
 intro n hn
 conv=>whnf
 refine W.sq<|g 5 8 []<|J UD<|W.cn<|J (fun h1=>?_) fun h1=>?_
 replace h1:=dt h1
 refine W.skip<|W.sq<|W.blk ?_
 obtain⟨y1,hy1,hb1⟩:=bz (s:=tx) (n:=n) OM
 refine rgd [[],[],[],[],[],[],[.i ((↑(UInt8.toNat y1):Int))],[.i ((↑(UInt8.toNat y1):Int))],[.i (IntKind.wrap IntKind.u64 (↑(BitVec.toNat (BitVec.ofInt (IntKind.bits IntKind.u64) (mE v tx n) ^^^ BitVec.ofInt (IntKind.bits IntKind.u64) (↑(UInt8.toNat y1):Int))):Int))],[.i (IntKind.wrap IntKind.u64 (IntKind.wrap IntKind.u64 (↑(BitVec.toNat (BitVec.ofInt (IntKind.bits IntKind.u64) (mE v tx n) ^^^ BitVec.ofInt (IntKind.bits IntKind.u64) (↑(UInt8.toNat y1):Int))):Int) * 1099511628211))],[],[]] ?_
 conv=>whnf
 refine J ⟨I,I,I,I,I,I,Zc2,w8u _,rfl,rfl,I,UA,I⟩<|J KR<|rg [.i ((n:Int) +1)]<|J Zdd ?_
 rotate_left
 replace h1:=df h1
 refine W.exit<|EndsW.nm<|J I<|J ?_ ?_
 rfl
 rotate_left
 ·refine⟨n+1,[some 22],[],⟨rfl,⟨rfl,rfl,rfl,I⟩,⟨⟨rfl,⟨(congrArg (fun z=>V.t (T.v (Value.int _ z))) (Ez AS).symm),I⟩⟩,I⟩,I⟩,?_,?_⟩
  rotate_left
  (dsimp only;omega)
  dsimp only
  omega
 ·rw[show n = tx.size from by omega]
def beL(v:Int):Nat→List Int
 |0=>[]
 |n+1=>(v / 256 ^ n % 256) :: beL v n
abbrev b1T(n:Int):List T:=[.v (.int .u8 n)]
theorem pj(v:Int):∀ n,(beL v n).length = n
 |0=>rfl
 |n+1=>by simp[beL,pj v n]
theorem Ny(v:Int):∀ n i,i < n→(beL v n)[i]? = some (v / 256 ^ (n - 1 - i) % 256)
 |0,_,h=>by omega
 |n+1,0,_=>by simp[beL]
 |n+1,i+1,h=>by
  simp only[beL,List.getElem?_cons_succ]
  rw[Ny v n i OM]
  congr 3
  congr 1
  omega
theorem Qm{v:Int}{n:Nat}(h0:0≤v)(hn:n < 8):(fill b1T (b1T 0) (beL v 8) n).set n (b1T (IntKind.u8.wrap (v.fdiv (2 ^ min (56 - 8 * (n:Int)).toNat IntKind.u64.bits)))) = fill b1T (b1T 0) (beL v 8) (n+1):=by
 have e:IntKind.u8.wrap (v.fdiv (2 ^ min (56 - 8 * (n:Int)).toNat IntKind.u64.bits)) = v / 256 ^ (8 - 1 - n) % 256:=by
  rw[Int.fdiv_eq_ediv_of_nonneg _ (by exact Int.le_of_lt (Int.pow_pos (by decide)))]
  have:n = 0∨n = 1∨n = 2∨n = 3∨n = 4∨n = 5∨n = 6∨n = 7:=by omega
  rcases this with rfl|rfl|rfl|rfl|rfl|rfl|rfl|rfl <;> simp[IntKind.wrap,IntKind.bits,IntKind.signed]
 rw[e]
 exact gF (Ny v 8 n hn)
theorem sD(l:List Int):(⟨(bQ (l.map b1T)).toArray⟩:ByteArray) = bl l:=by
 simp[bQ,bl,b1T,Function.comp_def]
theorem li(v:Int)(h0:0≤v)(h1:v≤18446744073709551615):F tm [.val (u8v v)] (.s (bl (beL v 8))) [[]]:=by
 have hx:=pj v 8
 refine tZ ?_
 conv=>whnf
 refine g 0 0 []<|J UA<|g 5 6 [.n (8)]<|J ⟨⟨rfl,rfl,LN⟩,I,I⟩<|W.sq<|g 6 7 []<|J UC<|W.blk<|W.lp (fun s (n:Nat)=>⟨[(0,s.s 0),(2,s.s 2),(3,s.s 3),(7,s.s 7),(8,.i n)],[(5,[.own [false] (fill b1T (b1T 0) (beL v 8) n)])],[]⟩) (fun(n:Nat)=>n≤8) (fun(n:Nat)=>8 - n) (0) [some 5] [] ⟨rfl,Zbd,Zdn,I⟩ OM ?_
 intro n hn
 conv=>whnf
 refine g 0 0 []<|J UA<|W.sq<|W.cn<|J (fun h2=>?_) fun h2=>?_
 replace h2:=dt h2
 simp only[LM]at h2
 simp only[mP]at h2
 refine W.skip<|W.sq<|W.blk<|g 10 11 []<|J UB<|rg [.i (8 * (n:Int)),.i (56 - 8 * (n:Int)),.i (Int.fdiv v (2 ^ min (Int.toNat (56 - 8 * (n:Int))) (IntKind.bits IntKind.u64))),.i (IntKind.wrap IntKind.u8 (Int.fdiv v (2 ^ min (Int.toNat (56 - 8 * (n:Int))) (IntKind.bits IntKind.u64)))),.n (n),.x (b1T 0)]<|J ⟨I,I,I,I,wO,wO,Zdp,rfl,Zdf,⟨UA,gG OM⟩,I⟩<|rg [.i ((n:Int) +1)]<|J Zdm ?_
 rotate_left
 replace h2:=df h2
 simp only[LM]at h2
 simp only[mP]at h2
 refine W.exit<|g 3 9 [.s ({data:=List.toArray (bQ (fill b1T (b1T 0) (beL v 8) n)):ByteArray})]<|J ⟨I,⟨I,Lm,rfl⟩,I,I⟩<|RT ?_
 rotate_left
 ·refine⟨n+1,[some 5],[],⟨rfl,Zbd,⟨⟨rfl,⟨(congrArg (V.own _) (Qm h0 OM)),I⟩⟩,I⟩,I⟩,?_,?_⟩
  rotate_left
  (dsimp only;omega)
  dsimp only
  omega
 ·rw[gH _ _ _ OM]
  exact vs (sD _)
theorem Qp{v:Int}{n:Nat}(h0:0≤v):[b1T (IntKind.u8.wrap ((v / 256 ^ n).tmod 256))] ++ (beL v n).map b1T = (beL v (n+1)).map b1T:=by
 have h1:0≤v / 256 ^ n:=Int.ediv_nonneg h0 (Int.le_of_lt (Int.pow_pos (by decide)))
 rw[Int.tmod_eq_emod_of_nonneg h1]
 have h2:IntKind.u8.wrap (v / 256 ^ n % 256) = v / 256 ^ n % 256:=wu8 OM OM
 rw[h2];rfl
theorem Um{v:Int}{n:Nat}(h0:0≤v)(h2:v≤18446744073709551615):IntKind.u64.wrap ((v / 256 ^ n).tdiv 256) = v / 256 ^ (n+1):=by
 have h1:0≤v / 256 ^ n:=Int.ediv_nonneg h0 (Int.le_of_lt (Int.pow_pos (by decide)))
 have h3:v / 256 ^ n≤v:=Int.ediv_le_self _ h0
 rw[Int.tdiv_eq_ediv_of_nonneg h1,wu64 OM OM,Int.ediv_ediv_of_nonneg (Int.le_of_lt (Int.pow_pos (by decide))),Int.pow_succ]
def h0v:Int:=14695981039346656037
theorem lZ(tx:ByteArray)(ht:tx.size≤9223372036854775807):F Fd [.val (.s tx)] (.s (bl (beL (mE h0v tx tx.size) 8))) [[]]:=by
 refine FF ?_
 conv=>whnf
 refine g 0 0 []<|J UA<|g 0 0 []<|J UA<|W.sq<|g 0 0 []<|J UA<|W.blk<|W.lp (fun s (n:Nat)=>⟨[(0,s.s 0),(2,s.s 2),(3,u8v (mE h0v tx n)),(4,.i n)],[],[]⟩) (fun(n:Nat)=>n≤tx.size) (fun(n:Nat)=>tx.size - n) (0) [] [] ⟨rfl,Za6,I,I⟩ OM ?_
 intro n hn
 conv=>whnf
 refine W.sq<|g 7 9 []<|J UD<|W.cn<|J (fun h1=>?_) fun h1=>?_
 replace h1:=dt h1
 refine W.skip<|W.sq<|W.blk ?_
 obtain⟨y1,hy1,hb1⟩:=bz (s:=tx) (n:=n) OM
 refine rg [.i ((↑(UInt8.toNat y1):Int)),.i ((↑(UInt8.toNat y1):Int)),.i (IntKind.wrap IntKind.u64 (↑(BitVec.toNat (BitVec.ofInt (IntKind.bits IntKind.u64) (mE h0v tx n) ^^^ BitVec.ofInt (IntKind.bits IntKind.u64) (↑(UInt8.toNat y1):Int))):Int)),.i (IntKind.wrap IntKind.u64 (IntKind.wrap IntKind.u64 (↑(BitVec.toNat (BitVec.ofInt (IntKind.bits IntKind.u64) (mE h0v tx n) ^^^ BitVec.ofInt (IntKind.bits IntKind.u64) (↑(UInt8.toNat y1):Int))):Int) * 1099511628211))]<|J ⟨I,I,I,Zc2,w8u _,rfl,rfl,I,I⟩<|rg [.i ((n:Int) +1)]<|J Zdd ?_
 rotate_left
 replace h1:=df h1
 refine W.exit<|g 10 21 []<|J UB<|W.sq<|g 4 5 []<|J UA<|W.blk ?_
 rotate_left
 ·refine⟨n+1,[],[],⟨rfl,⟨rfl,rfl,(congrArg (fun z=>V.t (T.v (Value.int _ z))) (Ez AS).symm),rfl,I⟩,I,I⟩,?_,?_⟩
  rotate_left
  (dsimp only;omega)
  dsimp only
  omega
 have e:n = tx.size:=by omega
 subst e
 have hb:0≤mE h0v tx tx.size∧mE h0v tx tx.size≤18446744073709551615:=Ak _ _ (by unfold h0v;omega)
 generalize mE h0v tx tx.size = v at hb ⊢
 obtain⟨hb0,hb1⟩:=hb
 refine W.lp (fun s (n:Nat)=>⟨[(0,s.s 0),(2,s.s 2),(3,u8v (v / 256 ^ n)),(5,.ref ⟨5,none,0⟩),(6,.i n),(9,s.s 9)],[(5,[.own [false] ((beL v n).map b1T)])],[]⟩) (fun(n:Nat)=>n≤8) (fun(n:Nat)=>8 - n) (0) [some 20] [] ⟨rfl,⟨rfl,rfl,(congrArg (fun z=>V.t (T.v (Value.int _ z))) OM),rfl,rfl,rfl,I⟩,Zdn,I⟩ OM ?_
 intro n hn2
 have hx:=pj v n
 conv=>whnf
 refine W.sq<|g 21 22 []<|J UB<|W.cn<|J (fun h2=>?_) fun h2=>?_
 replace h2:=dt h2
 refine W.skip<|W.sq<|W.blk<|g 22 31 [.i (Int.tmod (v / 256 ^ n) 256),.i (IntKind.wrap IntKind.u8 (Int.tmod (v / 256 ^ n) 256))]<|J ⟨I,Zdp,rfl,US,I,Zdi,I,I⟩<|rg [.i (IntKind.wrap IntKind.u64 (Int.tdiv (v / 256 ^ n) 256))]<|J ⟨I,Zdp,I,I⟩<|rg [.i ((n:Int) +1)]<|J Zdd ?_
 rotate_left
 replace h2:=df h2
 refine W.exit<|g 3 7 [.s ({data:=List.toArray (bQ (List.map b1T (beL v n))):ByteArray})]<|J ⟨I,⟨I,OD,rfl⟩,I,I⟩<|RT ?_
 rotate_left
 ·refine⟨n+1,[some 30],[],⟨rfl,⟨rfl,rfl,(congrArg (fun z=>V.t (T.v (Value.int _ z))) (Um hb0 hb1)),rfl,rfl,rfl,I⟩,⟨⟨rfl,⟨(congrArg (V.own _) (Qp hb0)),I⟩⟩,I⟩,I⟩,?_,?_⟩
  rotate_left
  (dsimp only;omega)
  dsimp only
  omega
 ·rw[show n = 8 from by omega]
  exact vs (sD _)
def o8(nm:ByteArray)(xs:List ByteArray)(n:Nat):ByteArray:=(xs.take n).foldl (fun a s=>a++ (⟨#[0]⟩ ++s)) nm
theorem EK{nm:ByteArray}{xs:List ByteArray}{n:Nat}{x:ByteArray}(h:xs[n]? = some x):o8 nm xs (n+1) = o8 nm xs n++ (⟨#[0]⟩ ++x):=by
 unfold o8;rw[List.take_add_one,h,List.foldl_append];rfl
theorem Ey:∀ (l:List ByteArray) (nm:ByteArray),((l.foldl (fun a s=>a++ (⟨#[0]⟩ ++s)) nm).size:Int) = nm.size+bP l+l.length
 |[],nm=>by simp[bP]
 |s :: l,nm=>by
  rw[List.foldl_cons,Ey l]
  have:(⟨#[0]⟩:ByteArray).size = 1:=rfl
  simp only[ByteArray.size_append,bP,List.length_cons,this];omega
theorem Ov(nm:ByteArray)(xs:List ByteArray)(n:Nat)(h:n≤xs.length):((o8 nm xs n).size:Int) = nm.size+bP (xs.take n) +n:=by
 unfold o8;rw[Ey,List.length_take,Nat.min_eq_left h]
theorem Rb{nm:ByteArray}{xs:List ByteArray}{n:Nat}{x:ByteArray}(h:xs[n]? = some x):cB (o8 nm xs n) ++ [[.v (.int .u8 0)]] ++cB x = cB (o8 nm xs (n+1)):=by
 rw[EK h,mJ,mJ,List.append_assoc];rfl
def fY(v:Int)(s:ByteArray):Int:=s.data.toList.foldl fnv v
theorem gE(v:Int)(s:ByteArray):mE v s s.size = fY v s:=by
 unfold mE fY;rw[List.take_of_length_le (by simp)]
theorem sy(v:Int)(a b:ByteArray):fY v (a++b) = fY (fY v a) b:=by
 simp[fY,ByteArray.data_append,List.foldl_append]
theorem MD(s:ByteArray):0≤fY h0v s∧fY h0v s≤18446744073709551615:=Ak _ _ (by unfold h0v;omega)
def cD(nm:ByteArray)(xs:List ByteArray):ByteArray:=bl (beL (fY h0v (o8 nm xs xs.length)) 8)
theorem l9(nm:ByteArray)(xs:List ByteArray)(hn:nm.size≤1048576)(hl:xs.length≤1048576)(ht:bP xs≤1048576)(hs:∀ s∈xs,s.size≤1048576):F Fg [.val (.s nm),.val (.t (pZ xs))] (.s (cD nm xs)) [[],[]]:=by
 refine FG ?_
 conv=>whnf
 refine g 0 0 []<|J UA<|g 7 9 []<|J ⟨I,OM,I,I⟩<|W.sq<|g 0 0 []<|J UA<|W.blk<|W.lp (fun s (n:Nat)=>⟨[(0,s.s 0),(1,s.s 1),(4,s.s 4),(5,.ref ⟨5,none,0⟩),(6,.i n)],[(5,[.own [false] (cB (o8 nm xs n))])],[]⟩) (fun(n:Nat)=>n≤xs.length) (fun(n:Nat)=>xs.length - n) (0) [some 8] [] ⟨rfl,Zbd,Zdn,I⟩ OM ?_
 intro n hn
 have hc:=Ov nm xs n OM
 have hb:=fZ (o8 nm xs n)
 have hle:=L0 xs n
 conv=>whnf
 refine W.sq<|g 10 12 []<|J UD<|W.cn<|J (fun h1=>?_) fun h1=>?_
 replace h1:=dt h1
 simp only[LM]at h1
 refine W.skip<|W.sq<|W.blk ?_
 obtain⟨y1,hy1⟩:=af (xs:=xs) (n:=n) OM
 have hm1:=hs y1 (List.mem_of_getElem? hy1)
 refine rgd [[],[],[],[],[],[.x (ak y1)],[],[],[]] ?_
 conv=>whnf
 refine J ⟨I,US,Zdi,I,I,Zdg,I,Zdi,I,I⟩<|J KR<|rg [.i ((n:Int) +1)]<|J Zdd ?_
 rotate_left
 replace h1:=df h1
 simp only[LM]at h1
 refine W.exit<|g 12 26 [.s (o8 nm xs n),.call (V.s (bl (beL (mE h0v (o8 nm xs n) (ByteArray.size (o8 nm xs n))) 8))) [[]]]<|J ⟨I,⟨I,iW _,(jo _).symm⟩,⟨UA,I,US,UA,lZ _ OM⟩,I,I⟩<|RT ?_
 rotate_left
 ·refine⟨n+1,[some 22],[],⟨rfl,Zbd,⟨⟨rfl,⟨(congrArg (V.own _) (Rb AS)),I⟩⟩,I⟩,I⟩,?_,?_⟩
  rotate_left
  (dsimp only;omega)
  dsimp only
  omega
 ·exact vs (by rw[gE,show n = xs.length from by omega];rfl)
theorem Qi{nm:ByteArray}{xs:List ByteArray}{n:Nat}{x:ByteArray}(h:xs[n]? = some x):mE (mE (fY h0v (o8 nm xs n)) ⟨#[0]⟩ (⟨#[0]⟩:ByteArray).size) x x.size = fY h0v (o8 nm xs (n+1)):=by
 rw[gE,gE,EK h,sy,sy]
theorem mf(nm:ByteArray)(xs:List ByteArray)(hn:nm.size≤1048576)(hl:xs.length≤1048576)(hs:∀ s∈xs,s.size≤1048576):F Fz [.val (.s nm),.val (.t (pZ xs))] (.s (cD nm xs)) [[],[]]:=by
 refine FR ?_
 conv=>whnf
 refine g 0 0 []<|J UA<|g 0 0 []<|J UV<|g 0 1 [.call (V.tup []) ([[u8v (mE 14695981039346656037 nm (ByteArray.size nm))],[]])]<|J ⟨I,⟨UB,I,UV,UA,dm _ _ OM⟩,I⟩<|W.sq<|g 1 2 []<|J UC<|W.blk<|W.lp (fun s (n:Nat)=>⟨[(4,s.s 4),(5,s.s 5),(10,s.s 10),(11,s.s 11),(12,.i n)],[(5,[u8v (fY h0v (o8 nm xs n))])],[]⟩) (fun(n:Nat)=>n≤xs.length) (fun(n:Nat)=>xs.length - n) (0) [some 5] [] ⟨rfl,Zbd,⟨⟨rfl,⟨(congrArg (fun z=>V.t (T.v (Value.int _ z))) (gE _ _)),I⟩⟩,I⟩,I⟩ OM ?_
 intro n hn
 have hb:=MD (o8 nm xs n)
 conv=>whnf
 refine g 0 0 []<|J UA<|W.sq<|W.cn<|J (fun h1=>?_) fun h1=>?_
 replace h1:=dt h1
 simp only[LM]at h1
 refine W.skip<|W.sq<|W.blk ?_
 obtain⟨y1,hy1⟩:=af (xs:=xs) (n:=n) OM
 have hm1:=hs y1 (List.mem_of_getElem? hy1)
 refine g 13 16 [.x (ak y1)]<|J Zb4<|g 16 17 [.call (V.tup []) ([[u8v (mE (fY h0v (o8 nm xs n)) {data:=#[(0:UInt8)]:ByteArray} (ByteArray.size {data:=#[(0:UInt8)]:ByteArray}))],[]])]<|J ⟨⟨UB,I,UV,UA,dm _ _ (by decide)⟩,I⟩<|rg [.call (V.tup []) ([[u8v (mE (mE (fY h0v (o8 nm xs n)) {data:=#[(0:UInt8)]:ByteArray} (ByteArray.size {data:=#[(0:UInt8)]:ByteArray})) y1 (ByteArray.size y1))],[]])]<|J ⟨I,⟨UB,I,UV,UA,dm _ _ OM⟩,I⟩<|rg [.i ((n:Int) +1)]<|J Zdm ?_
 rotate_left
 replace h1:=df h1
 simp only[LM]at h1
 refine W.exit<|g 5 22 [.call (V.s (bl (beL (fY h0v (o8 nm xs n)) 8))) [[]]]<|J ⟨I,⟨UA,I,US,UA,li _ OM OM⟩,I,I⟩<|RT ?_
 rotate_left
 ·refine⟨n+1,[some 5],[],⟨rfl,Zbd,⟨⟨rfl,⟨(congrArg (fun z=>V.t (T.v (Value.int _ z))) (Qi AS)),I⟩⟩,I⟩,I⟩,?_,?_⟩
  rotate_left
  (dsimp only;omega)
  dsimp only
  omega
 ·exact vs (by rw[show n = xs.length from by omega];rfl)
end Go.K
end
section
open Go Go.Tm Go.Proofs
namespace Go.K
theorem AN:∀ {l:List ByteArray} {s:ByteArray},s∈l→(s.size:Int)≤bP l
 |x :: l,s,h=>by
  rcases List.mem_cons.1 h with rfl|h
  ·have:=bi l;simp only[bP];omega
  ·have:=AN h;simp only[bP];omega
theorem lT{α β:Type}{f:α→β}{p:α→Prop}:∀ {xs:List β},(∀ y∈xs,∃ s,y = f s∧p s)→∃ ys:List α,xs = ys.map f∧∀ s∈ys,p s
 |[],_=>⟨[],rfl,fun _ h=>by cases h⟩
 |y :: xs,h=>by
  obtain⟨s,rfl,hp⟩:=h y (.head _)
  obtain⟨ys,rfl,hq⟩:=lT fun z hz=>h z (.tail _ hz)
  exact⟨s :: ys,rfl,fun z hz=>by rcases List.mem_cons.1 hz with rfl|hz;exact hp;exact hq z hz⟩
theorem zo{n:Nat}{xs:List (List T)}(h:∀ y∈xs,wfT E (n+1) 9 y):∃ ys:List ByteArray,xs = ys.map ak∧∀ s∈ys,s.size≤9223372036854775807:=lT (p:=fun s:ByteArray=>s.size≤9223372036854775807) fun y hy=>h y hy
end Go.K
end
section
open Go Go.Tm Go.Proofs
namespace Go.K
structure Parcel where
 kind:Int
 frm:ByteArray
 text:ByteArray
 deriving DecidableEq
abbrev KO(k:Int)(a b:ByteArray):V:=.agg [.t (.i k),.t (.s a),.t (.s b)]
abbrev bx(p:Parcel):List T:=[.i p.kind,.s p.frm,.s p.text]
abbrev pkd:List Bool:=[false,false,false]
abbrev vB(xs:List Parcel):T:=.slc pkd (xs.map bx)
abbrev noP:Parcel:=⟨0,emp,emp⟩
theorem xi(k:Int)(a b:ByteArray)(left:Int)(h:left≤1048576)(h0:0≤left)(ha:a.size≤9223372036854775807)(hb:b.size≤9223372036854775807):F wa [.val (KO k a b),.val (.i left)] (.i (if left - a.size - b.size < 0 then -1 else left - a.size - b.size)) [[],[]]:=by
 refine wD ?_
 conv=>whnf
 refine g 0 1 []<|J ⟨UC,I,I⟩<|g 5 10 [.i (left - (↑(ByteArray.size a):Int))]<|J Zc7<|W.sq<|g 10 11 []<|J UB<|W.cn<|J (fun h1=>?_) fun h1=>?_
 replace h1:=dt h1
 refine g 11 12 []<|J UA<|RT ?_
 exact vi OM
 replace h1:=df h1
 refine W.skip<|g 11 17 [.i (left - (↑(ByteArray.size a):Int) - (↑(ByteArray.size b):Int))]<|J Zc7<|W.sq<|g 2 3 []<|J UB<|W.cn<|J (fun h2=>?_) fun h2=>?_
 replace h2:=dt h2
 refine g 17 19 []<|J UA<|RT ?_
 exact vi OM
 replace h2:=df h2
 refine W.skip<|g 17 20 []<|J UB<|RT ?_
 exact vi OM
theorem xg(k:Int)(a b:ByteArray):F v8 [.val (KO k a b)] (KO k a b) [[]]:=by
 refine wB ?_
 conv=>whnf
 refine g 0 1 []<|J ⟨UC,I,I⟩<|g 0 0 []<|J UA<|g 4 7 []<|J UW<|g 7 10 []<|J UW<|g 10 13 []<|J UW<|g 3 14 []<|J Zd5<|RT ?_
 rfl
theorem xz(k:Int)(a b:ByteArray)(k':Int)(a' b':ByteArray):F wo [.val (KO k a b),.val (KO k' a' b')] (.b (decide ((⟨k,a,b⟩:Parcel) = ⟨k',a',b'⟩))) [[],[]]:=by
 refine wP ?_
 conv=>whnf
 refine g 0 2 []<|J ⟨UC,UC,I,I⟩<|W.sq<|g 5 9 []<|J UE<|W.cn<|J (fun h1=>?_) fun h1=>?_
 replace h1:=ndt h1
 refine g 9 10 []<|J UA<|RT ?_
 rotate_left
 replace h1:=ndf h1
 refine W.skip<|W.sq<|g 9 14 []<|J UE<|W.cn<|J (fun h2=>?_) fun h2=>?_
 replace h2:=ndt h2
 refine g 14 15 []<|J UA<|RT ?_
 rotate_left
 replace h2:=ndf h2
 refine W.skip<|W.sq<|g 14 19 []<|J UE<|W.cn<|J (fun h3=>?_) fun h3=>?_
 replace h3:=ndt h3
 refine g 2 4 []<|J UA<|RT ?_
 rotate_left
 replace h3:=ndf h3
 refine W.skip<|g 2 4 []<|J UA<|RT ?_
 rotate_left
 all_goals (first|exact vbt SI|exact vbf SI)
def iP:List Parcel→Int
 |[]=>0
 |p :: l=>(p.frm.size:Int) +p.text.size+iP l
theorem sH:∀ l,0≤iP l
 |[]=>by simp[iP]
 |s :: l=>by have:=sH l;simp only[iP];omega
theorem ni:∀ a b,iP (a++b) = iP a+iP b
 |[],b=>by simp[iP]
 |s :: a,b=>by simp only[List.cons_append,iP,ni a b];omega
theorem D0{l:List Parcel}{n:Nat}{x:Parcel}(h:l[n]? = some x):iP (l.take (n+1)) = iP (l.take n) + (x.frm.size+x.text.size):=by
 rw[List.take_add_one,h,ni];simp[iP]
theorem Uj(l:List Parcel)(n:Nat):iP (l.take n)≤iP l:=by
 have h:=ni (l.take n) (l.drop n)
 rw[List.take_append_drop]at h
 have:=sH (l.drop n);omega
theorem lf(xs:List Parcel)(left:Int)(hl:xs.length≤9223372036854775807)(hs:∀ p∈xs,p.frm.size≤9223372036854775807∧p.text.size≤9223372036854775807)(h:left≤1048576)(h0:0≤left) :
 F kP [.val (.t (vB xs)),.val (.i left)] (.i (if left - xs.length - iP xs < 0 then -1 else left - xs.length - iP xs)) [[],[]]:=by
 have hnn:=sH xs
 refine tM ?_
 conv=>whnf
 refine g 0 0 []<|J UA<|g 6 10 [.i (left - (↑(List.length (List.map bx xs)):Int))]<|J ⟨I,I,I,w64 LN LN,I,I⟩<|W.sq<|g 10 11 []<|J UB<|W.cn<|J (fun h1=>?_) fun h1=>?_
 replace h1:=dt h1
 simp only[LM]at h1
 refine g 11 12 []<|J UA<|RT ?_
 exact vi OM
 replace h1:=df h1
 simp only[LM]at h1
 refine W.skip<|W.sq<|g 11 12 []<|J UA<|W.blk ?_
 refine W.lp (fun s (n:Nat)=>⟨[(0,s.s 0),(1,.i (left - xs.length - iP (xs.take n))),(5,.i n)],[],[]⟩) (fun(n:Nat)=>n≤xs.length∧0≤left - xs.length - iP (xs.take n)) (fun(n:Nat)=>xs.length - n) (0) [] [] ⟨rfl,⟨rfl,(congrArg (fun z=>V.t (T.v (Value.int _ z))) (by simp[iP])),rfl,I⟩,I,I⟩ ?_ ?_
 ·simp[iP];omega
 rintro n ⟨hn,hc⟩
 have hq:=sH (xs.take n)
 have hle:=Uj xs (n+1)
 conv=>whnf
 refine W.sq<|g 12 15 []<|J UD<|W.cn<|J (fun h2=>?_) fun h2=>?_
 replace h2:=dt h2
 simp only[LM]at h2
 refine W.skip<|W.sq<|W.blk ?_
 obtain⟨y1,hy1⟩:=af (xs:=xs) (n:=n) OM
 have hm1:=hs y1 (List.mem_of_getElem? hy1)
 have hk1:=D0 hy1
 refine g 15 24 [.x (bx y1),.call (V.i (if left - (↑xs.length:Int) - iP (List.take n xs) - (↑(ByteArray.size y1.frm):Int) - (↑(ByteArray.size y1.text):Int) < 0 then(-1)else left - (↑xs.length:Int) - iP (List.take n xs) - (↑(ByteArray.size y1.frm):Int) - (↑(ByteArray.size y1.text):Int))) [[],[]]]<|J ⟨I,I,Zdg,I,I,⟨UB,I,⟨UC,UA,I⟩,UA,xi _ _ _ _ OM OM OM OM⟩,I,I⟩<|g 24 25 []<|J UB<|W.cn<|J (fun h3=>?_) fun h3=>?_
 replace h3:=dt h3
 refine g 25 26 []<|J UA<|RT ?_
 exact vi OM
 replace h3:=df h3
 refine W.skip<|rg [.i ((n:Int) +1)]<|J Zdd ?_
 rotate_left
 replace h2:=df h2
 simp only[LM]at h2
 refine W.exit<|g 5 27 []<|J UB<|RT ?_
 rotate_left
 ·refine⟨n+1,[],[],⟨rfl,⟨rfl,(congrArg (fun z=>V.t (T.v (Value.int _ z))) (by rw[D0 AS];omega)),rfl,I⟩,I,I⟩,?_,?_⟩
  rotate_left
  (dsimp only;omega)
  dsimp only
  omega
 ·have e:xs.take n = xs:=List.take_of_length_le OM
  rw[e]at hc ⊢
  exact vi (by split <;> omega)
theorem ul(xs:List Parcel)(hl:xs.length≤1048576):F sT [.val (.t (vB xs))] (.own pkd (xs.map bx)) [[]]:=by
 refine tJ ?_
 conv=>whnf
 refine g 0 0 []<|J UA<|g 5 8 [.n (List.length (List.map bx xs))]<|J Zcs<|W.sq<|g 0 0 []<|J UA<|W.blk<|W.lp (fun s (n:Nat)=>⟨[(0,s.s 0),(2,s.s 2),(3,s.s 3),(4,.i n)],[(7,[.own pkd (fill bx (bx noP) xs n)])],[]⟩) (fun(n:Nat)=>n≤xs.length) (fun(n:Nat)=>xs.length - n) (0) [some 7] [] ⟨rfl,Za6,⟨⟨rfl,⟨(congrArg (V.own _) (fg (by simp) rfl)),I⟩⟩,I⟩,I⟩ OM ?_
 intro n hn
 conv=>whnf
 refine W.sq<|g 8 11 []<|J UD<|W.cn<|J (fun h1=>?_) fun h1=>?_
 replace h1:=dt h1
 simp only[LM]at h1
 refine W.skip<|W.sq<|W.blk ?_
 obtain⟨y1,hy1⟩:=af (xs:=xs) (n:=n) OM
 refine rg [.x (bx y1),.call (KO y1.kind y1.frm y1.text) [[]],.n (n),.x (bx noP)]<|J ⟨I,I,I,I,Zdg,I,⟨UA,I,⟨UC,I⟩,UA,xg _ _ _⟩,Zdf,⟨UC,gG OM⟩,I⟩<|rg [.i ((n:Int) +1)]<|J Zdd ?_
 rotate_left
 replace h1:=df h1
 simp only[LM]at h1
 refine W.exit<|g 3 23 []<|J UB<|RT ?_
 rotate_left
 ·refine⟨n+1,[some 7],[],⟨rfl,Za6,⟨⟨rfl,⟨(congrArg (V.own _) (gF AS)),I⟩⟩,I⟩,I⟩,?_,?_⟩
  rotate_left
  (dsimp only;omega)
  dsimp only
  omega
 ·have e:fill bx (bx noP) xs n = xs.map bx:=gH _ _ _ OM
  rw[←e]
theorem ux(xs ys:List Parcel)(hl:xs.length≤9223372036854775806):F tj [.val (.t (vB xs)),.val (.t (vB ys))] (.b (decide (xs = ys))) [[],[]]:=by
 refine tY ?_
 conv=>whnf
 refine g 0 0 []<|J UA<|W.sq<|g 6 10 []<|J UE<|W.cn<|J (fun h1=>?_) fun h1=>?_
 replace h1:=ndt h1
 simp only[LM]at h1
 refine g 10 11 []<|J UA<|RT ?_
 rotate_left
 replace h1:=ndf h1
 simp only[LM]at h1
 refine W.skip<|W.sq<|g 10 11 []<|J UA<|W.blk ?_
 rotate_left
 ·exact vbf (fun e=>h1 (by rw[e]))
 refine W.lp (fun s (n:Nat)=>⟨[(0,s.s 0),(1,s.s 1),(5,.i n)],[],[]⟩) (fun(n:Nat)=>n≤xs.length∧xs.take n = ys.take n) (fun(n:Nat)=>xs.length - n) (0) [] [] Zbb (by simp) ?_
 rintro n ⟨hn,hc⟩
 conv=>whnf
 refine W.sq<|g 11 14 []<|J UD<|W.cn<|J (fun h2=>?_) fun h2=>?_
 replace h2:=dt h2
 simp only[LM]at h2
 refine W.skip<|W.sq<|W.blk ?_
 obtain⟨y1,hy1⟩:=af (xs:=xs) (n:=n) OM
 obtain⟨y2,hy2⟩:=af (xs:=ys) (n:=n) OM
 refine gd 14 26 [[],[],[.x (bx y1)],[],[],[],[.x (bx y2)],[],[.call (V.b (decide (y1 = y2))) [[],[]]],[]] ?_
 conv=>whnf
 refine J ⟨I,I,Zdg,I,I,I,Zdg,I,⟨UB,I,⟨UC,UC,I⟩,UA,xz _ _ _ _ _ _⟩,I,I⟩<|J KR<|W.cn<|J (fun h3=>?_) fun h3=>?_
 replace h3:=ndt h3
 refine g 26 27 []<|J UA<|RT ?_
 rotate_left
 replace h3:=ndf h3
 refine W.skip<|rg [.i ((n:Int) +1)]<|J Zdd ?_
 rotate_left
 replace h2:=df h2
 simp only[LM]at h2
 refine W.exit<|g 0 2 []<|J UA<|RT ?_
 rotate_left
 ·exact vbf (fun e=>by subst e;rw[hy1]at hy2;cases hy2;exact h3 rfl)
 ·refine⟨n+1,[],[],Zbb,?_,?_⟩
  rotate_left
  (dsimp only;omega)
  dsimp only
  exact⟨by omega,by rw[List.take_add_one,List.take_add_one,hy1,hy2,hc,h3]⟩
 ·exact vbt (by rw[List.take_of_length_le OM,List.take_of_length_le OM]at hc;exact hc)
def dgs(fuel:Nat)(k:Int)(s:ByteArray):ByteArray:=match fuel with
 |0=>s
 |f+1=>if k≤0 then s else dgs f (k / 10) (bl [48+k % 10] ++s)
def bF(k:Int):ByteArray:=if k≤0 then bl [109,48]else bl [109] ++dgs 20 k emp
theorem Q5{f:Nat}{a:Int}{t:ByteArray}(h0:0 < a)(h:a < 10 ^ f):∃ g,f = g+1∧a / 10 < 10 ^ g∧dgs f a t = dgs g (a / 10) (bl [48+a % 10] ++t):=by
 cases f with
 |zero=>simp at h;omega
 |succ g =>
  refine⟨g,rfl,?_,?_⟩
  ·rw[Int.pow_succ]at h;omega
  ·rw[dgs,if_neg OM]
theorem U5{f:Nat}{a:Int}{t:ByteArray}(h0:¬0 < a):dgs f a t = t:=by
 cases f with
 |zero=>rfl
 |succ g=>rw[dgs,if_pos OM]
theorem WH{a:Int}(h0:0≤a)(h1:a≤1099511627776):IntKind.i64.wrap (a.tdiv 10) = a / 10:=by
 rw[Int.tdiv_eq_ediv_of_nonneg h0,wO]
theorem WI{a:Int}{t:ByteArray}(h0:0≤a):(⟨(bQ [[T.v (Value.int IntKind.u8 (IntKind.u8.wrap (IntKind.i64.wrap (48+a.tmod 10))))]]).toArray⟩:ByteArray) ++t = bl [48+a % 10] ++t:=by
 rw[Int.tmod_eq_emod_of_nonneg h0,wO,wu8 OM OM];rfl
theorem gk(l:List Int):(bl l).size = l.length:=by simp[bl,bsa]
theorem bm(k:Int)(h:k≤1099511627776):F wb [.val (.i k)] (.s (bF k)) [[]]:=by
 refine wE ?_
 conv=>whnf
 refine g 0 0 []<|J UA<|W.sq<|g 4 5 []<|J UB<|W.cn<|J (fun h1=>?_) fun h1=>?_
 replace h1:=dt h1
 refine g 5 6 []<|J UA<|RT ?_
 rotate_left
 replace h1:=df h1
 refine W.skip<|g 5 6 []<|J UA<|W.sq<|W.blk ?_
 rotate_left
 ·exact vs (by unfold bF;rw[if_pos OM];rfl)
 refine W.lp (fun s (x:Nat×Int×ByteArray)=>match x with|(f,a,t)=>⟨[(0,.i a),(2,s.s 2),(3,.s t)],[],[]⟩) (fun(x:Nat×Int×ByteArray)=>match x with|(f,a,t)=>0≤a∧a≤1099511627776∧a < 10 ^ f∧f≤20∧(t.size:Int)≤20 - f∧dgs f a t = dgs 20 k emp) (fun(x:Nat×Int×ByteArray)=>match x with|(f,a,t)=>f) ((20,k,emp)) [] [] ⟨rfl,⟨rfl,rfl,rfl,I⟩,I,I⟩ ?_ ?_
 ·exact⟨by omega,by omega,by omega,by omega,by show((0:Nat):Int)≤20 - ((20:Nat):Int);omega,rfl⟩
 rintro⟨f,a,t⟩ ⟨g1,ga,g2,g3,g4,g5⟩
 conv=>whnf
 refine W.sq<|g 6 7 []<|J UB<|W.cn<|J (fun h2=>?_) fun h2=>?_
 replace h2:=dt h2
 refine W.skip<|W.blk<|g 10 16 [.i (Int.tmod a 10),.i (IntKind.wrap IntKind.i64 (48+Int.tmod a 10)),.i (IntKind.wrap IntKind.u8 (IntKind.wrap IntKind.i64 (48+Int.tmod a 10))),.s ({data:=List.toArray (bQ [[T.v (Value.int IntKind.u8 (IntKind.wrap IntKind.u8 (IntKind.wrap IntKind.i64 (48+Int.tmod a 10))))]]):ByteArray}),.s ({data:=List.toArray (bQ [[T.v (Value.int IntKind.u8 (IntKind.wrap IntKind.u8 (IntKind.wrap IntKind.i64 (48+Int.tmod a 10))))]]):ByteArray} ++t)]<|J ⟨I,Zdp,rfl,rfl,US,⟨I,(by repeat (first|exact jB|refine hM ?_)),rfl⟩,I,⟨rfl,(by simp only[bsz,ByteArray.size_append,mP];omega)⟩,I,I⟩ ?_
 refine rg [.i (IntKind.wrap IntKind.i64 (Int.tdiv a 10))]<|J ⟨I,Zdp,I,I⟩ ?_
 rotate_left
 replace h2:=df h2
 refine W.exit<|g 3 20 [.s ({data:=#[(109:UInt8)]:ByteArray} ++t)]<|J ⟨I,⟨rfl,(by simp only[bsz,bsa,ByteArray.size_append,List.size_toArray,mP];omega)⟩,I,I⟩<|RT ?_
 rotate_left
 ·obtain⟨g,rfl,g6,g7⟩:=Q5 (t:=t) h2 g2
  refine⟨(g,a / 10,bl [48+a % 10] ++t),[],[],⟨rfl,⟨(congrArg (fun z=>V.t (T.v (Value.int _ z))) (WH g1 ga)),rfl,(congrArg (fun z=>V.t (T.v (Value.string z))) (WI g1)),I⟩,I,I⟩,?_,?_⟩
  rotate_left
  (dsimp only;omega)
  dsimp only
  have e:=gk [48+a % 10]
  exact⟨by omega,by omega,g6,by omega,by rw[ByteArray.size_append,e,List.length_cons,List.length_nil];omega,by rw[←g7];exact g5⟩
 ·exact vs (by unfold bF;rw[if_neg h1,←g5,U5 h2];rfl)
theorem bM(xs:List Parcel)(k:Int)(hl:xs.length≤9223372036854775806):F xX [.val (.t (vB xs)),.val (.i k)] (.b (decide (xs.length≤2000∧0≤k∧k < xs.length))) [[],[]]:=by
 refine yn ?_
 conv=>whnf
 refine g 0 0 []<|J UA ?_
 by_cases h1:(↑(List.length (List.map bx xs)):Int)≤(2000:Int)
 simp only[LM]at h1
 by_cases h2:(0:Int)≤k
 refine g 5 18 [BT,BT,BT,BT,BT,BT,BT,BT]<|J ⟨I,I,I,I,⟨SI,I⟩,⟨SI,I⟩,SI,I,⟨tO,I⟩,⟨tO,I⟩,⟨tO,I⟩,⟨tO,I⟩,tO,I,I⟩<|RT ?_
 rotate_left
 refine g 5 18 [BT,BT,BT,BF,BF,BF,BF,BF]<|J ⟨I,I,I,I,⟨SI,I⟩,⟨SI,I⟩,SI,I,dO,dO,dO,dO,dO,I,I⟩<|RT ?_
 exact vbf OM
 simp only[LM]at h1
 refine g 5 18 [BF,BF,BF,BF,BF,BF,BF,BF]<|J ⟨I,I,I,I,SI,SI,SI,I,rfl,rfl,rfl,rfl,rfl,I,I⟩<|RT ?_
 exact vbf OM
 exact vbd (by simp only[List.length_map];omega)
theorem cQ(xs:List Parcel)(k:Int)(hl:xs.length≤9223372036854775806):F Fu [.val (.t (vB xs)),.val (.i k)] (.b (decide (xs.length≤2000∧0≤k∧k < xs.length))) [[],[]]:=by
 refine FN ?_
 conv=>whnf
 refine g 0 0 []<|J UA ?_
 by_cases h1:(↑(List.length (List.map bx xs)):Int)≤(2000:Int)
 simp only[LM]at h1
 refine g 5 15 [BT,BT,BT,BT,.i ((↑(List.length (List.map bx xs)):Int) - 1),BT,.call (V.b (decide (0≤k∧k≤(↑(List.length (List.map bx xs)):Int) - 1))) [[],[],[]],BT]<|J ⟨I,I,I,I,⟨SI,I⟩,⟨SI,I⟩,⟨SI,I⟩,⟨SI,w64 LN LN⟩,⟨SI,UC,I,UU,UA,aa _ _ _⟩,SI,I,I⟩<|RT ?_
 rotate_left
 simp only[LM]at h1
 refine g 5 15 [BF,BF,BF,BF,BF,BF]<|J ⟨I,I,I,I,SI,SI,SI,SI,SI,SI,I,I⟩<|RT ?_
 exact vbf OM
 exact vbd (by simp only[List.length_map];omega)
theorem dy(xs:List Parcel)(hl:xs.length≤1048576):F Bx [.val (.t (vB xs))] (.own pkd (xs.map bx)) [[]]:=by
 refine Ce ?_
 conv=>whnf
 refine g 0 0 []<|J UA<|g 3 6 []<|J ⟨I,I,Zdi,I,I⟩<|RT ?_
 rfl
theorem dA(xs:List Parcel)(hl:xs.length≤1048576):F B6 [.val (.t (vB xs))] (.own pkd (xs.map bx)) [[]]:=by
 refine CJ ?_
 conv=>whnf
 refine g 0 0 []<|J UA<|g 3 6 []<|J ⟨I,I,Zdi,I,I⟩<|RT ?_
 rfl
def cq(xs:List Parcel)(k:Int):List Parcel:=if xs.length≤2000∧0≤k∧k < xs.length then xs.take k.toNat++xs.drop (k.toNat+1)else xs
theorem Mo{xs:List Parcel}{k:Int}(h:¬(xs.length≤2000∧0≤k∧k < xs.length)):cq xs k = xs:=if_neg h
theorem Jh{xs:List Parcel}{k:Int}(h:xs.length≤2000∧0≤k∧k < xs.length):List.drop 0 (List.take k.toNat (xs.map bx)) ++List.drop (k+1).toNat (List.take (xs.map bx).length (xs.map bx)) = (cq xs k).map bx:=by
 unfold cq
 rw[if_pos h,List.drop_zero,List.take_length,show(k+1).toNat = k.toNat+1 from by omega,List.map_append,List.map_take,List.map_drop]
theorem vO(xs:List Parcel)(k:Int)(hl:xs.length≤1048576):F HC [.val (.t (vB xs)),.val (.i k)] (.own pkd ((cq xs k).map bx)) [[],[]]:=by
 refine HU ?_
 conv=>whnf
 refine g 0 0 []<|J UA<|W.sq<|g 5 8 [.call (V.b (decide (xs.length≤2000∧0≤k∧k < (↑xs.length:Int)))) [[],[]]]<|J ⟨I,I,⟨UB,I,UT,UA,bM _ _ OM⟩,I,I⟩<|W.cn<|J (fun h1=>?_) fun h1=>?_
 replace h1:=ndt h1
 refine g 8 11 [.call (V.own pkd (List.map bx xs)) [[]]]<|J ⟨I,⟨UA,I,US,UA,dy _ OM⟩,I,I⟩<|RT ?_
 rotate_left
 replace h1:=ndf h1
 refine W.skip<|gd 8 21 [[],[],[],[.n (Int.toNat k)],[],[],[],[.i (k+1)],[.n (Int.toNat (k+1))],[],[]] ?_
 conv=>whnf
 refine J ⟨I,I,I,⟨I,OM,I,OM,LN⟩,Zdi,I,I,wO,⟨I,I,OM,LN,OM⟩,Zdi,I,I⟩<|J KR<|RT ?_
 rotate_left
 ·rw[Mo h1]
 ·exact congrArg (V.own pkd) (Jh h1)
theorem Im(xs:List Parcel)(k:Int)(hl:xs.length≤1048576):F HI [.val (.t (vB xs)),.val (.i k)] (.own pkd ((cq xs k).map bx)) [[],[]]:=by
 refine HY ?_
 conv=>whnf
 refine g 0 0 []<|J UA<|g 6 8 [.call (V.own pkd (List.map bx xs)) [[]]]<|J ⟨I,⟨UA,I,US,UA,dA _ OM⟩,I,I⟩<|W.sq<|g 8 10 [.call (V.b (decide (xs.length≤2000∧0≤k∧k < (↑xs.length:Int)))) [[],[]]]<|J ⟨I,I,⟨UB,I,UT,UA,cQ _ _ OM⟩,I⟩<|W.cn<|J (fun h1=>?_) fun h1=>?_
 replace h1:=dt h1
 refine rgd [[],[],[.n (Int.toNat k)],[],[],[.i (k+1)],[.n (Int.toNat (k+1))],[],[]] ?_
 conv=>whnf
 refine J ⟨I,I,⟨I,OM,I,OM,LN⟩,I,I,wO,⟨I,I,OM,LN,OM⟩,Zdi,I,I⟩<|J KR<|g 5 20 []<|J UB<|RT ?_
 rotate_left
 replace h1:=df h1
 refine W.skip<|g 5 20 []<|J UB<|RT ?_
 rotate_left
 ·exact congrArg (V.own pkd) (Jh h1)
 ·rw[Mo h1]
end Go.K
end
section
open Go Go.Tm Go.Proofs
namespace Go.K
abbrev dK(n:Int):List T:=[.i n]
structure Task where
 name:ByteArray
 cost:Int
 deps:List Int
 deriving DecidableEq
abbrev ay(x:Task):List T:=[.s x.name,.i x.cost,.slc [false] (x.deps.map dK)]
abbrev OP(x:Task):V:=.agg [.t (.s x.name),.t (.i x.cost),.t (.slc [false] (x.deps.map dK))]
abbrev VQ(x:Task):V:=.agg [.t (.s x.name),.t (.i x.cost),.own [false] (x.deps.map dK)]
abbrev dE:List Bool:=[false,false,true]
abbrev LG:Task:=⟨emp,0,[]⟩
def dk(x:Task):Int:=(x.name.size:Int) + ((x.deps.length:Int))
theorem cV(x:Task):0≤dk x:=by
 simp only[dk];omega
def xD(x:Task):Prop:=x.name.size≤9223372036854775807∧x.deps.length≤9223372036854775807
structure Worker where
 number:Int
 epoch:Int
 up:Bool
 state:Int
 lease:Int
 task:Int
 cost:Int
 left:Int
 inputs:List ByteArray
 text:ByteArray
 since:Int
 deriving DecidableEq
abbrev ar(x:Worker):List T:=[.i x.number,.i x.epoch,.b x.up,.i x.state,.i x.lease,.i x.task,.i x.cost,.i x.left,.slc [false] (x.inputs.map ak),.s x.text,.i x.since]
abbrev dS(x:Worker):V:=.agg [.t (.i x.number),.t (.i x.epoch),.t (.b x.up),.t (.i x.state),.t (.i x.lease),.t (.i x.task),.t (.i x.cost),.t (.i x.left),.t (.slc [false] (x.inputs.map ak)),.t (.s x.text),.t (.i x.since)]
abbrev aC(x:Worker):V:=.agg [.t (.i x.number),.t (.i x.epoch),.t (.b x.up),.t (.i x.state),.t (.i x.lease),.t (.i x.task),.t (.i x.cost),.t (.i x.left),.own [false] (x.inputs.map ak),.t (.s x.text),.t (.i x.since)]
abbrev dp:List Bool:=[false,false,false,false,false,false,false,false,true,false,false]
abbrev iw:Worker:=⟨0,0,false,0,0,0,0,0,[],emp,0⟩
def aQ(x:Worker):Int:=((x.inputs.length:Int) +bP x.inputs) + (x.text.size:Int)
theorem b9(x:Worker):0≤aQ x:=by
 have hn0:=bi x.inputs
 simp only[aQ];omega
def lK(x:Worker):Prop:=x.inputs.length≤9223372036854775807∧(∀ s∈x.inputs,s.size≤9223372036854775807)∧x.text.size≤9223372036854775807
structure Plan where
 tasks:List Task
 deriving DecidableEq
abbrev XK(x:Plan):List T:=[.slc dE (x.tasks.map ay)]
abbrev cO(x:Plan):V:=.agg [.t (.slc dE (x.tasks.map ay))]
abbrev eS(x:Plan):V:=.agg [.own dE (x.tasks.map ay)]
def aJ(x:Plan):Int:=((x.tasks.length:Int) +aj dk x.tasks)
theorem lz(x:Plan):0≤aJ x:=by
 have hn0:=aI cV x.tasks
 simp only[aJ];omega
def dl(x:Plan):Prop:=x.tasks.length≤9223372036854775807∧(∀ y∈x.tasks,xD y)
theorem Dv(xs:List Int)(left:Int)(hl:xs.length≤9223372036854775807)(h:left≤1048576)(h0:0≤left):F BU [.val (.t (.slc [false] (xs.map dK))),.val (.i left)] (.i (if left - xs.length < 0 then -1 else left - xs.length)) [[],[]]:=by
 refine Cy ?_
 conv=>whnf
 refine g 0 0 []<|J UA<|g 5 9 [.i (left - (↑(List.length (List.map dK xs)):Int))]<|J ⟨I,I,I,w64 LN LN,I,I⟩<|W.sq<|g 0 1 []<|J UB<|W.cn<|J (fun h1=>?_) fun h1=>?_
 replace h1:=dt h1
 simp only[LM]at h1
 refine g 9 11 []<|J UA<|RT ?_
 exact vi OM
 replace h1:=df h1
 simp only[LM]at h1
 refine W.skip<|g 9 12 []<|J UB<|RT ?_
 (simp[*];done)
theorem Dq(xs:List Int)(h:(xs.length:Int)≤1048576):F BO [.val (.t (.slc [false] (xs.map dK)))] (.own [false] (xs.map dK)) [[]]:=by
 refine Cs ?_
 conv=>whnf
 refine g 0 0 []<|J UA<|g 5 8 [.n (List.length (List.map dK xs))]<|J Zcs<|W.sq<|g 0 0 []<|J UA<|W.blk<|W.lp (fun s (n:Nat)=>⟨[(0,s.s 0),(2,s.s 2),(3,s.s 3),(4,.i n)],[(7,[.own [false] (fill dK (dK 0) xs n)])],[]⟩) (fun(n:Nat)=>n≤xs.length) (fun(n:Nat)=>xs.length - n) (0) [some 7] [] ⟨rfl,Za6,⟨⟨rfl,⟨(congrArg (V.own _) (fg (by simp) rfl)),I⟩⟩,I⟩,I⟩ OM ?_
 intro n hn
 conv=>whnf
 refine W.sq<|g 8 11 []<|J UD<|W.cn<|J (fun h1=>?_) fun h1=>?_
 replace h1:=dt h1
 simp only[LM]at h1
 refine W.skip<|W.sq<|W.blk ?_
 obtain⟨y1,hy1⟩:=af (xs:=xs) (n:=n) OM
 refine rg [.x (dK y1),.n (n),.x (dK 0)]<|J ⟨I,I,I,I,Zdg,I,Zdf,⟨UA,gG OM⟩,I⟩<|rg [.i ((n:Int) +1)]<|J Zdd ?_
 rotate_left
 replace h1:=df h1
 simp only[LM]at h1
 refine W.exit<|g 3 22 []<|J UB<|RT ?_
 rotate_left
 ·refine⟨n+1,[some 7],[],⟨rfl,Za6,⟨⟨rfl,⟨(congrArg (V.own _) (gF AS)),I⟩⟩,I⟩,I⟩,?_,?_⟩
  rotate_left
  (dsimp only;omega)
  dsimp only
  omega
 ·have e:fill dK (dK 0) xs n = xs.map dK:=gH _ _ _ OM
  rw[←e]
theorem DC(xs ys:List Int)(hl:xs.length≤9223372036854775806):F B2 [.val (.t (.slc [false] (xs.map dK))),.val (.t (.slc [false] (ys.map dK)))] (.b (decide (xs = ys))) [[],[]]:=by
 refine CF ?_
 conv=>whnf
 refine g 0 0 []<|J UA<|W.sq<|g 6 10 []<|J UE<|W.cn<|J (fun h1=>?_) fun h1=>?_
 replace h1:=ndt h1
 simp only[LM]at h1
 refine g 10 11 []<|J UA<|RT ?_
 rotate_left
 replace h1:=ndf h1
 simp only[LM]at h1
 refine W.skip<|W.sq<|g 10 11 []<|J UA<|W.blk ?_
 rotate_left
 ·exact vbf (fun e=>h1 (by rw[e]))
 refine W.lp (fun s (n:Nat)=>⟨[(0,s.s 0),(1,s.s 1),(5,.i n)],[],[]⟩) (fun(n:Nat)=>n≤xs.length∧xs.take n = ys.take n) (fun(n:Nat)=>xs.length - n) (0) [] [] Zbb (by simp) ?_
 rintro n ⟨hn,hc⟩
 conv=>whnf
 refine W.sq<|g 11 14 []<|J UD<|W.cn<|J (fun h2=>?_) fun h2=>?_
 replace h2:=dt h2
 simp only[LM]at h2
 refine W.skip<|W.sq<|W.blk ?_
 obtain⟨y1,hy1⟩:=af (xs:=xs) (n:=n) OM
 obtain⟨y2,hy2⟩:=af (xs:=ys) (n:=n) OM
 refine gd 14 25 [[],[],[.x (dK y1)],[],[],[],[.x (dK y2)],[],[]] ?_
 conv=>whnf
 refine J ⟨I,I,Zdg,I,I,I,Zdg,I,I,I⟩<|J KR<|W.cn<|J (fun h3=>?_) fun h3=>?_
 replace h3:=ndt h3
 refine g 25 26 []<|J UA<|RT ?_
 rotate_left
 replace h3:=ndf h3
 refine W.skip<|rg [.i ((n:Int) +1)]<|J Zdd ?_
 rotate_left
 replace h2:=df h2
 simp only[LM]at h2
 refine W.exit<|g 0 2 []<|J UA<|RT ?_
 rotate_left
 ·exact vbf (fun e=>by subst e;rw[hy1]at hy2;cases hy2;exact h3 rfl)
 ·refine⟨n+1,[],[],Zbb,?_,?_⟩
  rotate_left
  (dsimp only;omega)
  dsimp only
  exact⟨by omega,jD hc hy1 (by rw[hy2];exact congrArg some (Eq.symm h3))⟩
 ·exact vbt (by rw[aE OM,aE OM]at hc;exact hc)
theorem Ds(x:Task)(left:Int)(hw:xD x)(h:left≤1048576)(h0:0≤left):F BQ [.val (OP x),.val (.i left)] (.i (if left - dk x < 0 then -1 else left - dk x)) [[],[]]:=by
 obtain⟨hw0,hw1⟩:=hw
 have hz:dk x = (x.name.size:Int) + ((x.deps.length:Int)):=rfl
 refine Cu ?_
 conv=>whnf
 refine g 0 1 []<|J ⟨UC,I,I⟩<|g 5 10 [.i (left - (↑(ByteArray.size x.name):Int))]<|J Zc7<|W.sq<|g 10 11 []<|J UB<|W.cn<|J (fun h1=>?_) fun h1=>?_
 replace h1:=dt h1
 refine g 11 12 []<|J UA<|RT ?_
 exact vi OM
 replace h1:=df h1
 refine W.skip<|g 11 16 [.call (V.i (if left - (↑(ByteArray.size x.name):Int) - (↑(List.length x.deps):Int) < 0 then(-1)else left - (↑(ByteArray.size x.name):Int) - (↑(List.length x.deps):Int))) [[],[]]]<|J ⟨I,I,I,⟨UB,I,UT,UA,Dv _ _ OM OM OM⟩,I,I⟩<|W.sq<|g 2 3 []<|J UB<|W.cn<|J (fun h2=>?_) fun h2=>?_
 replace h2:=dt h2
 refine g 16 18 []<|J UA<|RT ?_
 exact vi OM
 replace h2:=df h2
 refine W.skip<|g 16 19 []<|J UB<|RT ?_
 exact vi OM
theorem Dk(x:Task)(h:dk x≤1048576):F BJ [.val (OP x)] (VQ x) [[]]:=by
 have hz:dk x = (x.name.size:Int) + ((x.deps.length:Int)):=rfl
 refine Cn ?_
 conv=>whnf
 refine g 0 1 []<|J ⟨UC,I,I⟩<|g 0 0 []<|J UA<|g 4 7 []<|J UW<|g 7 10 []<|J UW<|g 10 14 [.call (V.own [false] (List.map dK x.deps)) [[]]]<|J ⟨I,I,⟨UA,I,US,UA,Dq _ OM⟩,I,UA,I⟩<|g 3 15 []<|J Zd5<|RT ?_
 rfl
def mM(a:Task):Prop:=a.deps.length≤9223372036854775806
theorem zu{a:Task}(h:dk a≤1048576):mM a:=by
 simp only[dk]at h
 simp only[mM]
 exact by omega
theorem Dx(a b:Task)(hl:mM a):F BW [.val (OP a),.val (OP b)] (.b (decide (a = b))) [[],[]]:=by
 obtain⟨a_name,a_cost,a_deps⟩:=a
 obtain⟨b_name,b_cost,b_deps⟩:=b
 simp only[mM]at hl
 refine CA ?_
 conv=>whnf
 refine g 0 2 []<|J ⟨UC,UC,I,I⟩<|W.sq<|g 5 9 []<|J UE<|W.cn<|J (fun h1=>?_) fun h1=>?_
 replace h1:=ndt h1
 refine g 9 10 []<|J UA<|RT ?_
 rotate_left
 replace h1:=ndf h1
 refine W.skip<|W.sq<|g 9 14 []<|J UE<|W.cn<|J (fun h2=>?_) fun h2=>?_
 replace h2:=ndt h2
 refine g 14 15 []<|J UA<|RT ?_
 rotate_left
 replace h2:=ndf h2
 refine W.skip<|W.sq<|g 14 20 [.call (V.b (decide (a_deps = b_deps))) [[],[]]]<|J ⟨I,I,I,I,⟨UB,I,UT,UA,DC _ _ OM⟩,I,I⟩<|W.cn<|J (fun h3=>?_) fun h3=>?_
 replace h3:=ndt h3
 refine g 2 4 []<|J UA<|RT ?_
 rotate_left
 replace h3:=ndf h3
 refine W.skip<|g 2 4 []<|J UA<|RT ?_
 rotate_left
 all_goals (first|exact vbt (by simp_all;done)|exact vbf (by simp_all;done))
theorem yZ(xs:List Task)(left:Int)(hl:xs.length≤9223372036854775807)(hs:∀ y∈xs,xD y)(h:left≤1048576)(h0:0≤left):F yd [.val (.t (.slc dE (xs.map ay))),.val (.i left)] (.i (if left - (xs.length+aj dk xs) < 0 then -1 else left - (xs.length+aj dk xs))) [[],[]]:=by
 have hnn:=aI cV xs
 refine yz ?_
 conv=>whnf
 refine g 0 0 []<|J UA<|g 6 10 [.i (left - (↑(List.length (List.map ay xs)):Int))]<|J ⟨I,I,I,w64 LN LN,I,I⟩<|W.sq<|g 10 11 []<|J UB<|W.cn<|J (fun h1=>?_) fun h1=>?_
 replace h1:=dt h1
 simp only[LM]at h1
 refine g 11 12 []<|J UA<|RT ?_
 exact vi OM
 replace h1:=df h1
 simp only[LM]at h1
 refine W.skip<|W.sq<|g 11 12 []<|J UA<|W.blk ?_
 refine W.lp (fun s (n:Nat)=>⟨[(0,s.s 0),(1,.i (left - xs.length - aj dk (xs.take n))),(5,.i n)],[],[]⟩) (fun(n:Nat)=>n≤xs.length∧0≤left - xs.length - aj dk (xs.take n)) (fun(n:Nat)=>xs.length - n) (0) [] [] ⟨rfl,⟨rfl,(congrArg (fun z=>V.t (T.v (Value.int _ z))) (by simp[aj])),rfl,I⟩,I,I⟩ ?_ ?_
 ·simp[aj];omega
 rintro n ⟨hn,hc⟩
 have hq:=aI cV (xs.take n)
 have hle:=dx cV xs (n+1)
 conv=>whnf
 refine W.sq<|g 12 15 []<|J UD<|W.cn<|J (fun h2=>?_) fun h2=>?_
 replace h2:=dt h2
 simp only[LM]at h2
 refine W.skip<|W.sq<|W.blk ?_
 obtain⟨y1,hy1⟩:=af (xs:=xs) (n:=n) OM
 have hm1:=hs y1 (List.mem_of_getElem? hy1)
 have hk1:=bB (f:=dk) hy1
 have hk2:=cV y1
 refine g 15 24 [.x (ay y1),.call (V.i (if left - (↑xs.length:Int) - aj dk (List.take n xs) - dk y1 < 0 then(-1)else left - (↑xs.length:Int) - aj dk (List.take n xs) - dk y1)) [[],[]]]<|J ⟨I,I,Zdg,I,I,⟨UB,I,⟨UC,UA,I⟩,UA,Ds _ _ OM OM OM⟩,I,I⟩<|g 24 25 []<|J UB<|W.cn<|J (fun h3=>?_) fun h3=>?_
 replace h3:=dt h3
 refine g 25 26 []<|J UA<|RT ?_
 exact vi OM
 replace h3:=df h3
 refine W.skip<|rg [.i ((n:Int) +1)]<|J Zdd ?_
 rotate_left
 replace h2:=df h2
 simp only[LM]at h2
 refine W.exit<|g 5 27 []<|J UB<|RT ?_
 rotate_left
 ·refine⟨n+1,[],[],⟨rfl,⟨rfl,(congrArg (fun z=>V.t (T.v (Value.int _ z))) (by rw[bB AS];omega)),rfl,I⟩,I,I⟩,?_,?_⟩
  rotate_left
  (dsimp only;omega)
  dsimp only
  omega
 ·have e:xs.take n = xs:=aE OM
  rw[e]at hc ⊢
  exact vi (by split <;> omega)
theorem yV(xs:List Task)(h:(xs.length:Int) +aj dk xs≤1048576):F x7 [.val (.t (.slc dE (xs.map ay)))] (.own dE (xs.map ay)) [[]]:=by
 have hnn:=aI cV xs
 refine yr ?_
 conv=>whnf
 refine g 0 0 []<|J UA<|g 5 8 [.n (List.length (List.map ay xs))]<|J Zcs<|W.sq<|g 0 0 []<|J UA<|W.blk<|W.lp (fun s (n:Nat)=>⟨[(0,s.s 0),(2,s.s 2),(3,s.s 3),(4,.i n)],[(7,[.own dE (fill ay (ay LG) xs n)])],[]⟩) (fun(n:Nat)=>n≤xs.length) (fun(n:Nat)=>xs.length - n) (0) [some 7] [] ⟨rfl,Za6,⟨⟨rfl,⟨(congrArg (V.own _) (fg (by simp) rfl)),I⟩⟩,I⟩,I⟩ OM ?_
 intro n hn
 conv=>whnf
 refine W.sq<|g 8 11 []<|J UD<|W.cn<|J (fun h1=>?_) fun h1=>?_
 replace h1:=dt h1
 simp only[LM]at h1
 refine W.skip<|W.sq<|W.blk ?_
 obtain⟨y1,hy1⟩:=af (xs:=xs) (n:=n) OM
 have hk1:=gJ cV (List.mem_of_getElem? hy1)
 refine rg [.x (ay y1),.call (VQ y1) [[]],.n (n),.x (ay LG)]<|J ⟨I,I,I,I,Zdg,I,⟨UA,I,⟨UC,I⟩,UA,Dk _ OM⟩,Zdf,⟨UC,gG OM⟩,I⟩<|rg [.i ((n:Int) +1)]<|J Zdd ?_
 rotate_left
 replace h1:=df h1
 simp only[LM]at h1
 refine W.exit<|g 3 23 []<|J UB<|RT ?_
 rotate_left
 ·refine⟨n+1,[some 7],[],⟨rfl,Za6,⟨⟨rfl,⟨(congrArg (V.own _) (gF AS)),I⟩⟩,I⟩,I⟩,?_,?_⟩
  rotate_left
  (dsimp only;omega)
  dsimp only
  omega
 ·have e:fill ay (ay LG) xs n = xs.map ay:=gH _ _ _ OM
  rw[←e]
theorem zf(xs ys:List Task)(hl:xs.length≤9223372036854775806)(hs:∀ y∈xs,mM y):F yk [.val (.t (.slc dE (xs.map ay))),.val (.t (.slc dE (ys.map ay)))] (.b (decide (xs = ys))) [[],[]]:=by
 refine yF ?_
 conv=>whnf
 refine g 0 0 []<|J UA<|W.sq<|g 6 10 []<|J UE<|W.cn<|J (fun h1=>?_) fun h1=>?_
 replace h1:=ndt h1
 simp only[LM]at h1
 refine g 10 11 []<|J UA<|RT ?_
 rotate_left
 replace h1:=ndf h1
 simp only[LM]at h1
 refine W.skip<|W.sq<|g 10 11 []<|J UA<|W.blk ?_
 rotate_left
 ·exact vbf (fun e=>h1 (by rw[e]))
 refine W.lp (fun s (n:Nat)=>⟨[(0,s.s 0),(1,s.s 1),(5,.i n)],[],[]⟩) (fun(n:Nat)=>n≤xs.length∧xs.take n = ys.take n) (fun(n:Nat)=>xs.length - n) (0) [] [] Zbb (by simp) ?_
 rintro n ⟨hn,hc⟩
 conv=>whnf
 refine W.sq<|g 11 14 []<|J UD<|W.cn<|J (fun h2=>?_) fun h2=>?_
 replace h2:=dt h2
 simp only[LM]at h2
 refine W.skip<|W.sq<|W.blk ?_
 obtain⟨y1,hy1⟩:=af (xs:=xs) (n:=n) OM
 have hm1:=hs y1 (List.mem_of_getElem? hy1)
 obtain⟨y2,hy2⟩:=af (xs:=ys) (n:=n) OM
 refine gd 14 26 [[],[],[.x (ay y1)],[],[],[],[.x (ay y2)],[],[.call (V.b (decide (y1 = y2))) [[],[]]],[]] ?_
 conv=>whnf
 refine J ⟨I,I,Zdg,I,I,I,Zdg,I,⟨UB,I,⟨UC,UC,I⟩,UA,Dx _ _ OM⟩,I,I⟩<|J KR<|W.cn<|J (fun h3=>?_) fun h3=>?_
 replace h3:=ndt h3
 refine g 26 27 []<|J UA<|RT ?_
 rotate_left
 replace h3:=ndf h3
 refine W.skip<|rg [.i ((n:Int) +1)]<|J Zdd ?_
 rotate_left
 replace h2:=df h2
 simp only[LM]at h2
 refine W.exit<|g 0 2 []<|J UA<|RT ?_
 rotate_left
 ·exact vbf (fun e=>by subst e;rw[hy1]at hy2;cases hy2;exact h3 rfl)
 ·refine⟨n+1,[],[],Zbb,?_,?_⟩
  rotate_left
  (dsimp only;omega)
  dsimp only
  exact⟨by omega,jD hc hy1 (by rw[hy2];exact congrArg some (Eq.symm h3))⟩
 ·exact vbt (by rw[aE OM,aE OM]at hc;exact hc)
theorem Dt(x:Plan)(left:Int)(hw:dl x)(h:left≤1048576)(h0:0≤left):F BR [.val (cO x),.val (.i left)] (.i (if left - aJ x < 0 then -1 else left - aJ x)) [[],[]]:=by
 have hn0:=aI cV x.tasks
 obtain⟨hw0,hw1⟩:=hw
 have hz:aJ x = ((x.tasks.length:Int) +aj dk x.tasks):=rfl
 refine Cv ?_
 conv=>whnf
 refine g 0 1 []<|J Zdq<|g 5 9 [.call (V.i (if left - ((↑(List.length x.tasks):Int) +aj dk x.tasks) < 0 then(-1)else left - ((↑(List.length x.tasks):Int) +aj dk x.tasks))) [[],[]]]<|J ⟨I,I,I,⟨UB,I,UT,UA,yZ _ _ OM OM OM OM⟩,I,I⟩<|W.sq<|g 2 3 []<|J UB<|W.cn<|J (fun h1=>?_) fun h1=>?_
 replace h1:=dt h1
 refine g 9 11 []<|J UA<|RT ?_
 exact vi OM
 replace h1:=df h1
 refine W.skip<|g 9 12 []<|J UB<|RT ?_
 rfl
theorem Dm(x:Plan)(h:aJ x≤1048576):F BL [.val (cO x)] (eS x) [[]]:=by
 have hn0:=aI cV x.tasks
 have hz:aJ x = ((x.tasks.length:Int) +aj dk x.tasks):=rfl
 refine Cp ?_
 conv=>whnf
 refine g 0 1 []<|J Zdq<|g 0 0 []<|J UA<|g 4 8 [.call (V.own dE (List.map ay x.tasks)) [[]]]<|J ⟨I,I,⟨UA,I,US,UA,yV _ OM⟩,I,UA,I⟩<|g 3 9 []<|J UV<|RT ?_
 rfl
def mO(a:Plan):Prop:=a.tasks.length≤9223372036854775806∧(∀ y∈a.tasks,mM y)
theorem Dz(a b:Plan)(hl:mO a):F BZ [.val (cO a),.val (cO b)] (.b (decide (a = b))) [[],[]]:=by
 obtain⟨a_tasks⟩:=a
 obtain⟨b_tasks⟩:=b
 simp only[mO]at hl
 obtain⟨hl0,hl1⟩:=hl
 refine CC ?_
 conv=>whnf
 refine g 0 2 []<|J ⟨UA,UA,I,I⟩<|W.sq<|g 5 10 [.call (V.b (decide (a_tasks = b_tasks))) [[],[]]]<|J ⟨I,I,I,I,⟨UB,I,UT,UA,zf _ _ OM OM⟩,I,I⟩<|W.cn<|J (fun h1=>?_) fun h1=>?_
 replace h1:=ndt h1
 refine g 2 4 []<|J UA<|RT ?_
 rotate_left
 replace h1:=ndf h1
 refine W.skip<|g 2 4 []<|J UA<|RT ?_
 rotate_left
 all_goals (first|exact vbt (by simp_all;done)|exact vbf (by simp_all;done))
end Go.K
end
section
open Go Go.Tm Go.Proofs
namespace Go.K
theorem xh(x:Worker)(left:Int)(hw:lK x)(h:left≤1048576)(h0:0≤left):F v9 [.val (dS x),.val (.i left)] (.i (if left - aQ x < 0 then -1 else left - aQ x)) [[],[]]:=by
 have hn0:=bi x.inputs
 obtain⟨hw0,hw1,hw2⟩:=hw
 have hz:aQ x = ((x.inputs.length:Int) +bP x.inputs) + (x.text.size:Int):=rfl
 refine wC ?_
 conv=>whnf
 refine g 0 1 []<|J Zd6<|g 5 9 [.call (V.i (if left - (↑(List.length x.inputs):Int) - bP x.inputs < 0 then(-1)else left - (↑(List.length x.inputs):Int) - bP x.inputs)) [[],[]]]<|J ⟨I,I,I,⟨UB,I,UT,UA,fj _ _ OM OM OM OM⟩,I,I⟩<|W.sq<|g 9 10 []<|J UB<|W.cn<|J (fun h1=>?_) fun h1=>?_
 replace h1:=dt h1
 refine g 10 11 []<|J UA<|RT ?_
 exact vi OM
 replace h1:=df h1
 refine W.skip<|g 10 16 [.i ((if left - (↑(List.length x.inputs):Int) - bP x.inputs < 0 then(-1)else left - (↑(List.length x.inputs):Int) - bP x.inputs) - (↑(ByteArray.size x.text):Int))]<|J Zc7<|W.sq<|g 2 3 []<|J UB<|W.cn<|J (fun h2=>?_) fun h2=>?_
 replace h2:=dt h2
 refine g 16 18 []<|J UA<|RT ?_
 exact vi OM
 replace h2:=df h2
 refine W.skip<|g 16 19 []<|J UB<|RT ?_
 exact vi OM
theorem xf(x:Worker)(h:aQ x≤1048576):F v7 [.val (dS x)] (aC x) [[]]:=by
 have hn0:=bi x.inputs
 have hz:aQ x = ((x.inputs.length:Int) +bP x.inputs) + (x.text.size:Int):=rfl
 refine wA ?_
 conv=>whnf
 refine g 0 1 []<|J Zd6<|g 0 0 []<|J UA<|g 4 7 []<|J UW<|g 7 10 []<|J UW<|g 10 13 []<|J UW<|g 13 16 []<|J UW<|g 16 19 []<|J UW<|g 19 22 []<|J UW<|g 22 25 []<|J UW<|g 25 28 []<|J UW<|g 28 32 [.call (V.own [false] (List.map ak x.inputs)) [[]]]<|J ⟨I,I,⟨UA,I,US,UA,fi _ OM⟩,I,UA,I⟩<|g 32 35 []<|J UW ?_
 refine g 35 38 []<|J UW<|g 3 39 []<|J Zec<|RT ?_
 rfl
def hY(a:Worker):Prop:=a.inputs.length≤9223372036854775806
theorem EW{a:Worker}(h:aQ a≤1048576):hY a:=by
 have:=bi a.inputs
 simp only[aQ]at h
 simp only[hY]
 exact by omega
theorem xy(a b:Worker)(hl:hY a):F wn [.val (dS a),.val (dS b)] (.b (decide (a = b))) [[],[]]:=by
 obtain⟨a_number,a_epoch,a_up,a_state,a_lease,a_task,a_cost,a_left,a_inputs,a_text,a_since⟩:=a
 obtain⟨b_number,b_epoch,b_up,b_state,b_lease,b_task,b_cost,b_left,b_inputs,b_text,b_since⟩:=b
 simp only[hY]at hl
 refine wN ?_
 conv=>whnf
 refine g 0 2 []<|J ⟨UK,UK,I,I⟩<|W.sq<|g 5 9 []<|J UE<|W.cn<|J (fun h1=>?_) fun h1=>?_
 replace h1:=ndt h1
 refine g 9 10 []<|J UA<|RT ?_
 rotate_left
 replace h1:=ndf h1
 refine W.skip<|W.sq<|g 9 14 []<|J UE<|W.cn<|J (fun h2=>?_) fun h2=>?_
 replace h2:=ndt h2
 refine g 14 15 []<|J UA<|RT ?_
 rotate_left
 replace h2:=ndf h2
 refine W.skip<|W.sq<|g 14 19 []<|J UE<|W.cn<|J (fun h3=>?_) fun h3=>?_
 replace h3:=nbt h3
 refine g 19 20 []<|J UA<|RT ?_
 rotate_left
 replace h3:=nbf h3
 refine W.skip<|W.sq<|g 19 24 []<|J UE<|W.cn<|J (fun h4=>?_) fun h4=>?_
 replace h4:=ndt h4
 refine g 24 25 []<|J UA<|RT ?_
 rotate_left
 replace h4:=ndf h4
 refine W.skip<|W.sq<|g 24 29 []<|J UE<|W.cn<|J (fun h5=>?_) fun h5=>?_
 replace h5:=ndt h5
 refine g 29 30 []<|J UA<|RT ?_
 rotate_left
 replace h5:=ndf h5
 refine W.skip<|W.sq<|g 29 34 []<|J UE<|W.cn<|J (fun h6=>?_) fun h6=>?_
 replace h6:=ndt h6
 refine g 34 35 []<|J UA<|RT ?_
 rotate_left
 replace h6:=ndf h6
 refine W.skip<|W.sq<|g 34 39 []<|J UE<|W.cn<|J (fun h7=>?_) fun h7=>?_
 replace h7:=ndt h7
 refine g 39 40 []<|J UA<|RT ?_
 rotate_left
 replace h7:=ndf h7
 refine W.skip<|W.sq<|g 39 44 []<|J UE<|W.cn<|J (fun h8=>?_) fun h8=>?_
 replace h8:=ndt h8
 refine g 44 45 []<|J UA<|RT ?_
 rotate_left
 replace h8:=ndf h8
 refine W.skip<|W.sq<|g 44 50 [.call (V.b (decide (a_inputs = b_inputs))) [[],[]]]<|J ⟨I,I,I,I,⟨UB,I,UT,UA,fk _ _ OM⟩,I,I⟩<|W.cn<|J (fun h9=>?_) fun h9=>?_
 replace h9:=ndt h9
 refine g 50 51 []<|J UA<|RT ?_
 rotate_left
 replace h9:=ndf h9
 refine W.skip<|W.sq<|g 50 55 []<|J UE<|W.cn<|J (fun h10=>?_) fun h10=>?_
 replace h10:=ndt h10
 refine g 55 56 []<|J UA<|RT ?_
 rotate_left
 replace h10:=ndf h10
 refine W.skip<|W.sq<|g 55 60 []<|J UE<|W.cn<|J (fun h11=>?_) fun h11=>?_
 replace h11:=ndt h11
 refine g 2 4 []<|J UA<|RT ?_
 rotate_left
 replace h11:=ndf h11
 refine W.skip<|g 2 4 []<|J UA<|RT ?_
 rotate_left
 all_goals (first|exact vbt (by simp_all;done)|exact vbf (by simp_all;done))
theorem ew(xs:List ByteArray)(k:Int)(hl:xs.length≤9223372036854775806)(h0:0≤k)(hk:k+xs.length≤1099511627776):F pr [.bor (.own [false] (xs.map ak)),.val (.i k)] (.i (k+xs.length)) [[.own [false] ((mkL (fun k _=>bF k) (fun _=>1) k xs).map ak)],[]]:=by
 refine pG ?_
 conv=>whnf
 refine g 0 0 []<|J UA<|W.sq<|g 0 0 []<|J UA<|W.blk<|W.lp (fun s (n:Nat)=>⟨[(0,s.s 0),(1,.i (k+n)),(4,s.s 4),(5,.i n)],[(20,[.own [false] ((mkN (fun k _=>bF k) (fun _=>1) k xs n).map ak)])],[]⟩) (fun(n:Nat)=>n≤xs.length) (fun(n:Nat)=>xs.length - n) (0) [some 20] [] ⟨rfl,⟨rfl,(congrArg (fun z=>V.t (T.v (Value.int _ z))) (by simp[aj])),rfl,rfl,I⟩,Zdn,I⟩ OM ?_
 intro n hn
 have hx:=kT (fun k _=>bF k) (fun _=>1) k xs n
 have hs1:∀ x,xs[n]? = some x→((mkN (fun k _=>bF k) (fun _=>1) k xs n).map ak).set n (ak (bF (k+n))) = (mkN (fun k _=>bF k) (fun _=>1) k xs (n+1)).map ak:=fun x hx=>by
  have:=iz (f:=(fun k _=>bF k)) (c:=(fun _=>1)) (g:=ak) (k:=k) hx
  rw[sI,List.length_take,Nat.min_eq_left hn]at this;exact this
 conv=>whnf
 refine W.sq<|g 6 9 []<|J UD<|W.cn<|J (fun h1=>?_) fun h1=>?_
 replace h1:=dt h1
 simp only[LM]at h1
 refine W.skip<|W.sq<|W.blk ?_
 obtain⟨y1,hy1⟩:=af (xs:=xs) (n:=n) OM
 refine g 9 17 [.call (V.s (bF (k+ (n:Int)))) [[]],.n (n),.x (ak y1)]<|J ⟨I,I,I,⟨UA,I,US,UA,bm _ OM⟩,Zdf,⟨UA,iA AS⟩,I⟩<|rg [.i (k+ (n:Int) +1)]<|J Zdd<|rg [.i ((n:Int) +1)]<|J Zdd ?_
 rotate_left
 replace h1:=df h1
 simp only[LM]at h1
 refine W.exit<|g 5 20 []<|J UB<|W.ret<|EndsW.rt<|J UB<|J ?_ ?_
 exact vi OM
 rotate_left
 ·refine⟨n+1,[some 20],[],⟨rfl,⟨rfl,(congrArg (fun z=>V.t (T.v (Value.int _ z))) OM),rfl,rfl,I⟩,⟨⟨rfl,⟨(congrArg (V.own _) (hs1 _ AS)),I⟩⟩,I⟩,I⟩,?_,?_⟩
  rotate_left
  (dsimp only;omega)
  dsimp only
  omega
 ·have e:=kU (fun k _=>bF k) (fun _=>1) k xs (n:=n) OM
  rw[show n = xs.length by omega]at e ⊢
  rw[e]
theorem ey(xs:List ByteArray)(k:Int)(hl:xs.length≤9223372036854775806)(h0:0≤k)(hk:k+xs.length≤1099511627776):F pu [.val (.t (.slc [false] ((mkL (fun k _=>bF k) (fun _=>1) k xs).map ak))),.val (.i k)] (.i (k+xs.length)) [[],[]]:=by
 have hx:=fb (fun k _=>bF k) (fun _=>1) k xs
 refine pI ?_
 conv=>whnf
 refine g 0 0 []<|J UA<|W.sq<|g 0 0 []<|J UA<|W.blk<|W.lp (fun s (n:Nat)=>⟨[(0,s.s 0),(1,.i (k+n)),(5,.i n)],[],[]⟩) (fun(n:Nat)=>n≤xs.length) (fun(n:Nat)=>xs.length - n) (0) [] [] ⟨rfl,⟨rfl,(congrArg (fun z=>V.t (T.v (Value.int _ z))) (by simp[aj])),rfl,I⟩,I,I⟩ OM ?_
 intro n hn
 have hs1:∀ x,xs[n]? = some x→(mkL (fun k _=>bF k) (fun _=>1) k xs)[n]? = some (bF (k+n)):=fun x hx=>by
  have:=jJ (f:=(fun k _=>bF k)) (c:=(fun _=>1)) (k:=k) hx
  rw[sI,List.length_take,Nat.min_eq_left hn]at this;exact this
 conv=>whnf
 refine W.sq<|g 6 9 []<|J UD<|W.cn<|J (fun h1=>?_) fun h1=>?_
 replace h1:=dt h1
 simp only[LM]at h1
 refine W.skip<|W.sq<|W.blk<|W.sq ?_
 obtain⟨y1,hy1⟩:=af (xs:=xs) (n:=n) OM
 have hk1:=hs1 _ hy1
 refine gd 9 18 [[],[],[.x (ak (bF (k+ (n:Int))))],[],[],[.call (V.s (bF (k+ (n:Int)))) [[]]],[]] ?_
 conv=>whnf
 refine J ⟨I,I,Zdg,I,I,⟨UA,I,US,UA,bm _ OM⟩,I,I⟩<|J KR<|W.cn<|J (noT (eh rfl)) fun _=>W.skip<|rg [.i (k+ (n:Int) +1)]<|J Zdd<|rg [.i ((n:Int) +1)]<|J Zdd ?_
 rotate_left
 replace h1:=df h1
 simp only[LM]at h1
 refine W.exit<|g 5 22 []<|J UB<|RT ?_
 exact vi OM
 refine⟨n+1,[],[],⟨rfl,⟨rfl,(congrArg (fun z=>V.t (T.v (Value.int _ z))) OM),rfl,I⟩,I,I⟩,?_,?_⟩
 rotate_left
 (dsimp only;omega)
 dsimp only
 omega
end Go.K
end
section
open Go Go.Tm Go.Proofs
namespace Go.K
def eE(xs:List ByteArray):Prop:=(∀ s∈xs,s.size = 8)∧xs.length≤8
instance (xs:List ByteArray):Decidable (eE xs):=by unfold eE;infer_instance
theorem EG{xs:List ByteArray}{n:Nat}{y:ByteArray}(hy:xs[n]? = some y)(h:¬(y.size:Int) = 8):¬eE xs:=fun e=>h (by have:=e.1 y (List.mem_of_getElem? hy);omega)
theorem sF{α:Type}{p:α→Prop}{xs:List α}{n:Nat}{y:α}(h:∀ s∈xs.take n,p s)(hy:xs[n]? = some y)(hp:p y):∀ s∈xs.take (n+1),p s:=fun s hs=>by
 rw[List.take_add_one,hy]at hs
 rcases List.mem_append.1 hs with hs|hs
 ·exact h s hs
 ·simp at hs;subst hs;exact hp
theorem sG{α:Type}{p:α→Prop}{xs:List α}{n:Nat}(h:∀ s∈xs.take n,p s)(hn:xs.length≤n):∀ s∈xs,p s:=by rwa [aE hn]at h
theorem hL(xs:List ByteArray)(hl:xs.length≤9223372036854775806):F B5 [.val (.t (pZ xs))] (.b (decide (eE xs))) [[]]:=by
 refine CI ?_
 conv=>whnf
 refine g 0 0 []<|J UA<|W.sq<|g 0 0 []<|J UC<|W.blk<|W.lp (fun s (n:Nat)=>⟨[(0,s.s 0),(5,s.s 5),(6,s.s 6),(7,.i n)],[],[]⟩) (fun(n:Nat)=>n≤xs.length∧∀ s∈xs.take n,s.size = 8) (fun(n:Nat)=>xs.length - n) (0) [] [] ⟨rfl,Za6,I,I⟩ (by simp) ?_
 rintro n ⟨hn,hc⟩
 conv=>whnf
 refine g 0 0 []<|J UA<|W.sq<|W.cn<|J (fun h1=>?_) fun h1=>?_
 replace h1:=dt h1
 simp only[LM]at h1
 refine W.skip<|W.sq<|W.blk ?_
 obtain⟨y1,hy1⟩:=af (xs:=xs) (n:=n) OM
 refine g 8 11 [.x (ak y1)]<|J Zb4<|g 11 13 []<|J UC<|W.cn<|J (fun h2=>?_) fun h2=>?_
 replace h2:=ndt h2
 refine g 13 14 []<|J UA<|RT ?_
 rotate_left
 replace h2:=ndf h2
 refine W.skip<|rg [.i ((n:Int) +1)]<|J Zdm ?_
 rotate_left
 replace h1:=df h1
 simp only[LM]at h1
 refine W.exit<|g 5 18 []<|J UD<|RT ?_
 rotate_left
 ·exact vbf (EG hy1 AS)
 ·refine⟨n+1,[],[],⟨rfl,Za6,I,I⟩,?_,?_⟩
  rotate_left
  (dsimp only;omega)
  dsimp only
  exact⟨by omega,sF hc hy1 OM⟩
 ·exact vbd ⟨fun e=>⟨sG hc OM,by simp only[LM]at e;omega⟩,fun e=>by have:=e.2;simp only[List.length_map];omega⟩
theorem eN(xs:List ByteArray)(hl:xs.length≤9223372036854775806):F qN [.val (.t (pZ xs))] (.b (decide (eE xs))) [[]]:=by
 refine qZ ?_
 conv=>whnf
 refine g 0 0 []<|J UA<|W.sq<|g 0 0 []<|J UA<|W.blk<|W.lp (fun s (n:Nat)=>⟨[(0,s.s 0),(3,.i n)],[],[]⟩) (fun(n:Nat)=>n≤xs.length∧∀ s∈xs.take n,s.size = 8) (fun(n:Nat)=>xs.length - n) (0) [] [] Zc6 (by simp) ?_
 rintro n ⟨hn,hc⟩
 conv=>whnf
 refine W.sq<|g 5 7 []<|J UD<|W.cn<|J (fun h1=>?_) fun h1=>?_
 replace h1:=dt h1
 simp only[LM]at h1
 refine W.skip<|W.sq<|W.blk ?_
 obtain⟨y1,hy1⟩:=af (xs:=xs) (n:=n) OM
 refine g 7 15 [.x (ak y1)]<|J ⟨I,I,Zdg,I,I,I,I⟩<|W.cn<|J (fun h2=>?_) fun h2=>?_
 replace h2:=ndt h2
 refine g 15 16 []<|J UA<|RT ?_
 rotate_left
 replace h2:=ndf h2
 refine W.skip<|rg [.i ((n:Int) +1)]<|J Zdd ?_
 rotate_left
 replace h1:=df h1
 simp only[LM]at h1
 refine W.exit<|g 7 19 []<|J UD<|RT ?_
 rotate_left
 ·exact vbf (EG hy1 AS)
 ·refine⟨n+1,[],[],Zc6,?_,?_⟩
  rotate_left
  (dsimp only;omega)
  dsimp only
  exact⟨by omega,sF hc hy1 OM⟩
 ·exact vbd ⟨fun e=>⟨sG hc OM,by simp only[LM]at e;omega⟩,fun e=>by have:=e.2;simp only[List.length_map];omega⟩
theorem aA(n:Int):F sN [.val (.i n)] (.b (decide (1≤n∧n≤300000000))) [[]]:=by
 refine tD ?_
 conv=>whnf
 refine g 0 0 []<|J UA<|g 0 1 [.call (V.b (decide (1≤n∧n≤300000000))) [[],[],[]]]<|J ⟨I,⟨UC,I,UU,UA,ah _ _ _⟩,I,I⟩<|RT ?_
 rfl
end Go.K
end
section
open Go Go.Tm Go.Proofs Classical
namespace Go.K
def mW(s:ByteArray):Prop:=(∀ (n:Nat) (c:UInt8),s[n]? = some c→33≤c.toNat∧c.toNat≤126)∧1≤s.size∧s.size≤30
theorem sj{s:ByteArray}{n:Nat}{c:UInt8}(h:s[n]? = some c)(hc:¬(33≤(c.toNat:Int)∧(c.toNat:Int)≤126)):¬mW s:=fun e=>hc (by have:=e.1 n c h;omega)
theorem zM{s:ByteArray}{n:Nat}{c:UInt8}(hn:∀ (m:Nat) (c:UInt8),m < n→s[m]? = some c→33≤c.toNat∧c.toNat≤126)(h:s[n]? = some c)(hc:33≤(c.toNat:Int)∧(c.toNat:Int)≤126):∀ (m:Nat) (c:UInt8),m < n+1→s[m]? = some c→33≤c.toNat∧c.toNat≤126:=fun m d hm hd=>by
 by_cases e:m = n
 ·subst e;rw[h]at hd;cases hd;omega
 ·exact hn m d OM hd
theorem Nz{s:ByteArray}{n:Nat}{c:UInt8}(h:s[n]? = some c):n < s.size:=by
 by_cases hn:n < s.size
 ·exact hn
 ·rw[getElem?_neg s n hn]at h;cases h
theorem rQ(s:ByteArray)(hs:s.size≤9223372036854775807):F Fw [.val (.s s)] (.b (decide (mW s))) [[]]:=by
 refine FP ?_
 conv=>whnf
 refine g 0 0 []<|J UA<|W.sq<|g 0 0 []<|J UA<|W.blk<|W.lp (fun s (n:Nat)=>⟨[(0,s.s 0),(3,.i n)],[],[]⟩) (fun(n:Nat)=>n≤s.size∧∀ (m:Nat) (c:UInt8),m < n→s[m]? = some c→33≤c.toNat∧c.toNat≤126) (fun(n:Nat)=>s.size - n) (0) [] [] Zc6 (by simp) ?_
 rintro n ⟨hn,hc⟩
 conv=>whnf
 refine W.sq<|g 5 7 []<|J UD<|W.cn<|J (fun h1=>?_) fun h1=>?_
 replace h1:=dt h1
 refine W.skip<|W.sq<|W.blk ?_
 obtain⟨y1,hy1,hb1⟩:=bz (s:=s) (n:=n) OM
 by_cases h2:(↑(UInt8.toNat y1):Int) < (33:Int)
 refine g 7 19 [.i ((↑(UInt8.toNat y1):Int)),BT,BT,BT,BT,BT]<|J ⟨I,I,Zc2,I,I,tO,tO,tO,tO,tO,I⟩<|W.cn<|J (fun _=>(g 19 20 []<|J UA (RT ?_))) (noF rfl)
 rotate_left
 refine g 7 19 [.i ((↑(UInt8.toNat y1):Int)),BF,BF,BF,.i ((↑(UInt8.toNat y1):Int)),BF,BF]<|J ⟨I,I,Zc2,I,I,⟨dO,I⟩,⟨dO,I⟩,⟨dO,OM,ixb AS⟩,⟨dO,I⟩,dO,I⟩<|W.cn<|J (fun h3=>?_) fun h3=>?_
 replace h3:=dt h3
 refine g 19 20 []<|J UA<|RT ?_
 rotate_left
 replace h3:=df h3
 refine W.skip<|rg [.i ((n:Int) +1)]<|J Zdd ?_
 rotate_left
 replace h1:=df h1
 refine W.exit ?_
 by_cases h2:(1:Int)≤(↑(ByteArray.size s):Int)
 refine g 7 28 [BT,BT,BT,BT]<|J Zce<|RT ?_
 rotate_left
 refine g 7 28 [BF,BF,BF,BF]<|J Zc5<|RT ?_
 rotate_left
 ·exact vbf (sj hy1 OM)
 ·exact vbf (sj hy1 OM)
 ·refine⟨n+1,[],[],Zc6,?_,?_⟩
  rotate_left
  (dsimp only;omega)
  dsimp only
  exact⟨by omega,zM hc hy1 OM⟩
 ·exact vbd ⟨fun e=>⟨fun m c h=>hc m c (by have:=Nz h;omega) h,by omega,by omega⟩,fun e=>by have:=e.2;omega⟩
 ·exact vbf (fun e=>by have:=e.2;omega)
theorem wZ(s:ByteArray)(hs:s.size≤9223372036854775807):F vW [.val (.s s)] (.b (decide (mW s))) [[]]:=by
 refine wz ?_
 conv=>whnf
 refine g 0 0 []<|J UA<|W.sq<|g 0 0 []<|J UA<|W.blk<|W.lp (fun s (n:Nat)=>⟨[(0,s.s 0),(3,.i n)],[],[]⟩) (fun(n:Nat)=>n≤s.size∧∀ (m:Nat) (c:UInt8),m < n→s[m]? = some c→33≤c.toNat∧c.toNat≤126) (fun(n:Nat)=>s.size - n) (0) [] [] Zc6 (by simp) ?_
 rintro n ⟨hn,hc⟩
 conv=>whnf
 refine W.sq<|g 5 7 []<|J UD<|W.cn<|J (fun h1=>?_) fun h1=>?_
 replace h1:=dt h1
 refine W.skip<|W.sq<|W.blk ?_
 obtain⟨y1,hy1,hb1⟩:=bz (s:=s) (n:=n) OM
 by_cases h2:(↑(UInt8.toNat y1):Int) < (33:Int)
 refine g 7 19 [.i ((↑(UInt8.toNat y1):Int)),BT,BT,BT,BT,BT]<|J ⟨I,I,Zc2,I,I,tO,tO,tO,tO,tO,I⟩<|W.cn<|J (fun _=>(g 19 20 []<|J UA (RT ?_))) (noF rfl)
 rotate_left
 refine g 7 19 [.i ((↑(UInt8.toNat y1):Int)),BF,BF,BF,.i ((↑(UInt8.toNat y1):Int)),BF,BF]<|J ⟨I,I,Zc2,I,I,⟨dO,I⟩,⟨dO,I⟩,⟨dO,OM,ixb AS⟩,⟨dO,I⟩,dO,I⟩<|W.cn<|J (fun h3=>?_) fun h3=>?_
 replace h3:=dt h3
 refine g 19 20 []<|J UA<|RT ?_
 rotate_left
 replace h3:=df h3
 refine W.skip<|rg [.i ((n:Int) +1)]<|J Zdd ?_
 rotate_left
 replace h1:=df h1
 refine W.exit ?_
 by_cases h2:(1:Int)≤(↑(ByteArray.size s):Int)
 refine g 7 28 [BT,BT,BT,BT]<|J Zce<|RT ?_
 rotate_left
 refine g 7 28 [BF,BF,BF,BF]<|J Zc5<|RT ?_
 rotate_left
 ·exact vbf (sj hy1 OM)
 ·exact vbf (sj hy1 OM)
 ·refine⟨n+1,[],[],Zc6,?_,?_⟩
  rotate_left
  (dsimp only;omega)
  dsimp only
  exact⟨by omega,zM hc hy1 OM⟩
 ·exact vbd ⟨fun e=>⟨fun m c h=>hc m c (by have:=Nz h;omega) h,by omega,by omega⟩,fun e=>by have:=e.2;omega⟩
 ·exact vbf (fun e=>by have:=e.2;omega)
end Go.K
end
section
open Go Go.Tm Go.Proofs Classical
namespace Go.K
def Gt(xs:List Task)(n:Nat):Prop:=∀ (m:Nat) (t:Task),m < n→xs[m]? = some t→mW t.name∧t.name ∉ (xs.take m).map Task.name
def ix(xs:List Task):Prop:=Gt xs xs.length
def jM(xs:List Task):Prop:=∀ t∈xs,1≤t.cost∧t.cost≤20
def Jn(last hi:Int):List Int→Prop
 |[]=>True
 |d :: ds=>(last < d∧d < hi)∧Jn d hi ds
def Wm(hi:Int)(d:List Int):Prop:=d.length≤8∧Jn (-1) hi d
def LQ(xs:List Task)(n:Nat):Prop:=∀ (m:Nat) (t:Task),m < n→xs[m]? = some t→Wm m t.deps
def xI(xs:List Task):Prop:=LQ xs xs.length
noncomputable def aq(xs:List Task):Int :=
 if ¬(1≤xs.length∧xs.length≤40)then 1 else if ¬ix xs then 2 else if ¬jM xs then 3 else if ¬xI xs then 4 else 0
theorem Vc{xs:List Task}(h:¬(1≤xs.length∧xs.length≤40)):aq xs = 1:=by unfold aq;rw[if_pos h]
theorem Vb{xs:List Task}(h:1≤xs.length∧xs.length≤40)(h2:¬ix xs):aq xs = 2:=by unfold aq;rw[if_neg (not_not_intro h),if_pos h2]
theorem Va{xs:List Task}(h:1≤xs.length∧xs.length≤40)(h2:ix xs)(h3:¬jM xs):aq xs = 3:=by unfold aq;rw[if_neg (not_not_intro h),if_neg (not_not_intro h2),if_pos h3]
theorem Nv{xs:List Task}(h:1≤xs.length∧xs.length≤40)(h2:ix xs)(h3:jM xs)(h4:¬xI xs):aq xs = 4:=by unfold aq;rw[if_neg (not_not_intro h),if_neg (not_not_intro h2),if_neg (not_not_intro h3),if_pos h4]
theorem Yl{xs:List Task}(h:1≤xs.length∧xs.length≤40)(h2:ix xs)(h3:jM xs)(h4:xI xs):aq xs = 0:=by unfold aq;rw[if_neg (not_not_intro h),if_neg (not_not_intro h2),if_neg (not_not_intro h3),if_neg (not_not_intro h4)]
theorem sn{xs:List Task}{n:Nat}{t:Task}(ht:xs[n]? = some t)(h:¬(mW t.name∧t.name ∉ (xs.take n).map Task.name)):¬ix xs:=fun e=>h (e n t (List.getElem?_eq_some_iff.1 ht).1 ht)
theorem zr{P:Nat→Task→Prop}{xs:List Task}{n:Nat}{t:Task}(h:∀ (m:Nat) (t:Task),m < n→xs[m]? = some t→P m t)(ht:xs[n]? = some t)(hp:P n t):∀ (m:Nat) (t:Task),m < n+1→xs[m]? = some t→P m t:=fun m d hm hd=>by
 by_cases e:m = n
 ·subst e;rw[ht]at hd;cases hd;exact hp
 ·exact h m d OM hd
theorem GI{P:Nat→Task→Prop}{xs:List Task}{n:Nat}(h:∀ (m:Nat) (t:Task),m < n→xs[m]? = some t→P m t)(hn:xs.length≤n):∀ (m:Nat) (t:Task),m < xs.length→xs[m]? = some t→P m t:=fun m t hm ht=>h m t OM ht
theorem sB{xs:List Task}{n:Nat}{t:Task}(ht:xs[n]? = some t)(h:¬(1≤t.cost∧t.cost≤20)):¬jM xs:=fun e=>h (e t (List.mem_of_getElem? ht))
theorem mS{xs:List Task}{n:Nat}{t:Task}(ht:xs[n]? = some t)(h:¬Wm n t.deps):¬xI xs:=fun e=>h (e n t (List.getElem?_eq_some_iff.1 ht).1 ht)
def m7(hi:Int)(d:List Int)(k:Nat)(last:Int):Prop:=Jn (-1) hi d↔Jn last hi (d.drop k)
theorem Nr{α:Type}{d:List α}{k:Nat}{y:α}(h:d[k]? = some y):d.drop k = y :: d.drop (k+1):=by
 have hk:=(List.getElem?_eq_some_iff.1 h)
 rw[List.drop_eq_getElem_cons hk.1,hk.2]
theorem uW{hi:Int}{d:List Int}{k:Nat}{last y:Int}(h:m7 hi d k last)(hy:d[k]? = some y)(h1:last < y∧y < hi):m7 hi d (k+1) y:=by
 unfold m7 at *;rw[h,Nr hy,Jn];exact⟨fun e=>e.2,fun e=>⟨h1,e⟩⟩
theorem tC{hi:Int}{d:List Int}{k:Nat}{last y:Int}(h:m7 hi d k last)(hy:d[k]? = some y)(h1:¬(last < y∧y < hi)):¬Jn (-1) hi d:=by
 unfold m7 at *;rw[h,Nr hy,Jn];exact fun e=>h1 e.1
theorem Jm{hi:Int}{d:List Int}{k:Nat}{last:Int}(h:m7 hi d k last)(hk:d.length≤k):Jn (-1) hi d:=by
 unfold m7 at *;rw[h,List.drop_eq_nil_of_le hk];trivial
theorem fm(p:Plan)(hp:dl p):F tq [.val (cO p)] (.i (aq p.tasks)) [[]]:=by
 have hl:p.tasks.length≤9223372036854775807:=hp.1
 have hw:∀ y∈p.tasks,y.name.size≤9223372036854775807∧y.deps.length≤9223372036854775807:=hp.2
 refine ub ?_
 conv=>whnf
 refine g 0 1 []<|J Zdq<|g 14 17 []<|J UD<|W.sq ?_
 by_cases h1:(↑(List.length (List.map ay (Plan.tasks p))):Int) = (0:Int)
 simp only[LM]at h1
 refine g 17 22 [BT,BT,BT]<|J ⟨I,I,I,SI,SI,SI,I⟩<|W.cn<|J (fun _=>(g 22 23 []<|J UA (RT ?_))) (noF rfl)
 rotate_left
 simp only[LM]at h1
 refine g 17 22 [BF,BF,BF]<|J ⟨I,I,I,⟨(by simp_all),I⟩,⟨(by simp_all),I⟩,(by simp_all),I⟩<|W.cn<|J (fun h2=>?_) fun h2=>?_
 replace h2:=dt h2
 simp only[LM]at h2
 refine g 22 23 []<|J UA<|RT ?_
 rotate_left
 replace h2:=df h2
 simp only[LM]at h2
 refine W.skip<|g 22 24 []<|J UB<|W.sq<|g 24 25 []<|J UD<|W.blk ?_
 rotate_left
 ·exact vi (Vc OM).symm
 ·exact vi (Vc OM).symm
 have hlen:1≤p.tasks.length∧p.tasks.length≤40:=by omega
 refine W.lp (fun s (n:Nat)=>⟨[(1,s.s 1),(3,s.s 3),(4,s.s 4),(25,s.s 25),(26,s.s 26),(27,.i n)],[(1,[s.c 1 0])],[(23,(p.tasks.take n).map fun t=>Value.string t.name)]⟩) (fun(n:Nat)=>n≤p.tasks.length∧Gt p.tasks n) (fun(n:Nat)=>p.tasks.length - n) (0) [some 1] [23] ⟨rfl,⟨rfl,rfl,rfl,rfl,rfl,rfl,I⟩,⟨⟨rfl,⟨rfl,I⟩⟩,I⟩,⟨rfl,I⟩⟩ ?_ ?_
 ·exact⟨Nat.zero_le _,fun m t hm=>by omega⟩
 rintro n ⟨hn,hc⟩
 conv=>whnf
 refine g 0 0 []<|J UA<|W.sq<|W.cn<|J (fun h3=>?_) fun h3=>?_
 replace h3:=dt h3
 simp only[LM]at h3
 refine W.skip<|W.sq<|W.blk ?_
 obtain⟨y1,hy1⟩:=af (xs:=Plan.tasks p) (n:=n) OM
 have hm1:=hw y1 (List.mem_of_getElem? hy1)
 refine g 28 31 [.x (ay y1)]<|J Zci<|W.sq ?_
 by_cases h4:mW (Task.name y1)
 refine g 31 40 [.call (V.b (decide (mW y1.name))) [[]],BF,BF,BF,BF,.b (decide (y1.name∈List.map Task.name (List.take n p.tasks))),BF]<|J ⟨I,I,⟨UA,I,US,UA,rQ _ OM⟩,I,I,⟨nO,I⟩,⟨nO,I⟩,⟨nO,I⟩,⟨nO,QI,Ji⟩,nO,I⟩<|W.cn<|J (fun h5=>?_) fun h5=>?_
 replace h5:=dt h5
 refine g 40 41 []<|J UA<|RT ?_
 rotate_left
 replace h5:=df h5
 refine W.skip<|rg []<|J ⟨I,I,I,Ji,I⟩<|rg [.i ((n:Int) +1)]<|J Zdm ?_
 rotate_left
 refine g 31 40 [.call (V.b (decide (mW y1.name))) [[]],BT,BT,BT,BT,BT]<|J ⟨I,I,⟨UA,I,US,UA,rQ _ OM⟩,I,I,ag OM,ag OM,ag OM,ag OM,ag OM,I⟩<|W.cn<|J (fun _=>(g 40 41 []<|J UA (RT ?_))) (noF rfl)
 rotate_left
 replace h3:=df h3
 simp only[LM]at h3
 refine W.exit<|W.sq<|g 4 46 []<|J UD<|W.blk ?_
 rotate_left
 ·exact vi (Vb hlen (sn hy1 (by grind))).symm
 ·refine⟨n+1,[some 1],[23],⟨rfl,Zay,Zdn,⟨(congrArg some (NL AS)),I⟩⟩,?_,?_⟩
  rotate_left
  (dsimp only;omega)
  dsimp only
  exact⟨by omega,zr hc hy1 (by grind)⟩
 ·exact vi (Vb hlen (sn hy1 (by grind))).symm
 have hnames:ix p.tasks:=GI hc OM
 refine W.lp (fun s (n:Nat)=>⟨[(1,s.s 1),(3,s.s 3),(46,s.s 46),(47,s.s 47),(48,.i n)],[(1,[s.c 1 0])],[]⟩) (fun(n:Nat)=>n≤p.tasks.length∧∀ t∈p.tasks.take n,1≤t.cost∧t.cost≤20) (fun(n:Nat)=>p.tasks.length - n) (0) [some 1] [] ⟨rfl,Zbd,Zdn,I⟩ (by simp) ?_
 rintro n2 ⟨hn2,hc2⟩
 conv=>whnf
 refine g 0 0 []<|J UA<|W.sq<|W.cn<|J (fun h4=>?_) fun h4=>?_
 replace h4:=dt h4
 simp only[LM]at h4
 refine W.skip<|W.sq<|W.blk ?_
 obtain⟨y1,hy1⟩:=af (xs:=Plan.tasks p) (n:=n2) OM
 have hm1:=hw y1 (List.mem_of_getElem? hy1)
 refine g 49 52 [.x (ay y1)]<|J Zci ?_
 by_cases h5:Task.cost y1 < (1:Int)
 refine g 52 59 [BT,BT,BT,BT]<|J ⟨I,I,I,I,tO,tO,tO,tO,I⟩<|W.cn<|J (fun _=>(g 8 9 []<|J UA (RT ?_))) (noF rfl)
 rotate_left
 refine g 52 59 [BF,BF,BF,BF]<|J ⟨I,I,I,I,⟨dO,I⟩,⟨dO,I⟩,⟨dO,I⟩,dO,I⟩<|W.cn<|J (fun h6=>?_) fun h6=>?_
 replace h6:=dt h6
 refine g 8 9 []<|J UA<|RT ?_
 rotate_left
 replace h6:=df h6
 refine W.skip<|rg [.i ((n2:Int) +1)]<|J Zdm ?_
 rotate_left
 replace h4:=df h4
 simp only[LM]at h4
 refine W.exit<|W.sq<|g 46 62 []<|J UD<|W.blk ?_
 rotate_left
 ·exact vi (Va hlen hnames (sB AS OM)).symm
 ·exact vi (Va hlen hnames (sB AS OM)).symm
 ·refine⟨n2+1,[some 1],[],⟨rfl,Zbd,Zdn,I⟩,?_,?_⟩
  rotate_left
  (dsimp only;omega)
  dsimp only
  exact⟨by omega,sF hc2 AS OM⟩
 have hcosts:jM p.tasks:=sG hc2 OM
 refine W.lp (fun s (n:Nat)=>⟨[(3,s.s 3),(62,s.s 62),(63,s.s 63),(64,.i n)],[],[]⟩) (fun(n:Nat)=>n≤p.tasks.length∧LQ p.tasks n) (fun(n:Nat)=>p.tasks.length - n) (0) [] [] ⟨rfl,⟨rfl,rfl,rfl,rfl,I⟩,I,I⟩ ?_ ?_
 ·exact⟨Nat.zero_le _,fun m t hm=>by omega⟩
 rintro n3 ⟨hn3,hc3⟩
 conv=>whnf
 refine g 0 0 []<|J UA<|W.sq<|W.cn<|J (fun h5=>?_) fun h5=>?_
 replace h5:=dt h5
 simp only[LM]at h5
 refine W.skip<|W.sq<|W.blk ?_
 obtain⟨y1,hy1⟩:=af (xs:=Plan.tasks p) (n:=n3) OM
 have hm1:=hw y1 (List.mem_of_getElem? hy1)
 refine g 65 69 [.x (ay y1)]<|J Zbu<|W.sq<|g 69 72 []<|J UD<|W.cn<|J (fun h6=>?_) fun h6=>?_
 replace h6:=dt h6
 simp only[LM]at h6
 refine g 72 73 []<|J UA<|RT ?_
 rotate_left
 replace h6:=df h6
 simp only[LM]at h6
 refine W.skip<|g 72 73 []<|J UA<|g 10 11 []<|J UD<|W.blk ?_
 rotate_left
 replace h5:=df h5
 simp only[LM]at h5
 refine W.exit<|g 62 66 []<|J UA<|RT ?_
 rotate_left
 ·exact vi (Nv hlen hnames hcosts (mS AS (fun e=>by have:=e.1;omega))).symm
 ·skip
  refine W.lp (fun s (x:Nat×Int)=>match x with|(k,last)=>⟨[(3,s.s 3),(9,s.s 9),(11,.i last),(62,s.s 62),(63,s.s 63),(64,s.s 64),(74,s.s 74),(75,s.s 75),(76,.i k)],[],[]⟩) (fun(x:Nat×Int)=>match x with|(k,last)=>k≤y1.deps.length∧m7 n3 y1.deps k last) (fun(x:Nat×Int)=>match x with|(k,last)=>y1.deps.length - k) ((0,-1)) [] [] ⟨rfl,⟨rfl,rfl,rfl,rfl,rfl,rfl,rfl,rfl,rfl,I⟩,I,I⟩ ?_ ?_
  ·exact⟨Nat.zero_le _,Iff.rfl⟩
  rintro⟨k,last⟩ ⟨hk,hi⟩
  conv=>whnf
  refine g 0 0 []<|J UA<|W.sq<|W.cn<|J (fun h7=>?_) fun h7=>?_
  replace h7:=dt h7
  simp only[LM]at h7
  refine W.skip<|W.sq<|W.blk ?_
  obtain⟨y2,hy2⟩:=af (xs:=Task.deps y1) (n:=k) OM
  refine g 77 80 [.x (dK y2)]<|J Zb4<|W.sq ?_
  by_cases h8:y2≤last
  refine g 80 87 [BT,BT,BT,BT]<|J ⟨I,I,I,I,tO,tO,tO,tO,I⟩<|W.cn<|J (fun _=>(g 87 88 []<|J UA (RT ?_))) (noF rfl)
  rotate_left
  refine g 80 87 [BF,BF,BF,BF]<|J ⟨I,I,I,I,⟨dO,I⟩,⟨dO,I⟩,⟨dO,I⟩,dO,I⟩<|W.cn<|J (fun h9=>?_) fun h9=>?_
  replace h9:=dt h9
  refine g 87 88 []<|J UA<|RT ?_
  rotate_left
  replace h9:=df h9
  refine W.skip<|rg []<|J UB<|rg [.i ((k:Int) +1)]<|J Zdm ?_
  rotate_left
  replace h7:=df h7
  simp only[LM]at h7
  refine W.exit<|rg [.i ((n3:Int) +1)]<|J Zdm ?_
  rotate_left
  ·exact vi (Nv hlen hnames hcosts (mS hy1 (fun e=>tC hi AS OM e.2))).symm
  ·exact vi (Nv hlen hnames hcosts (mS hy1 (fun e=>tC hi AS OM e.2))).symm
  ·refine⟨(k+1,y2),[],[],⟨rfl,⟨rfl,rfl,rfl,rfl,rfl,rfl,rfl,rfl,rfl,I⟩,I,I⟩,?_,?_⟩
   rotate_left
   (dsimp only;omega)
   dsimp only
   exact⟨by omega,uW hi AS OM⟩
  ·refine⟨n3+1,[],[],⟨rfl,Za6,I,I⟩,?_,?_⟩
   rotate_left
   (dsimp only;omega)
   dsimp only
   exact⟨by omega,zr hc3 hy1 ⟨by omega,Jm hi OM⟩⟩
 exact vi (Yl hlen hnames hcosts (GI hc3 OM)).symm
end Go.K
end
section
open Go Go.Tm Go.Proofs Classical
namespace Go.K
theorem FB{xs:List Task}{n k:Nat}{a:Task}(h:xs[k]? = some a)(hk:k < n):a.name∈(xs.take n).map Task.name:=by
 refine List.mem_map.2 ⟨a,?_,rfl⟩
 refine List.mem_of_getElem? (i:=k) ?_
 rw[List.getElem?_take,if_pos hk];exact h
theorem NX{xs:List Task}{n k:Nat}{s:ByteArray}{a:Task}(h:s ∉ (xs.take k).map Task.name)(ha:xs[k]? = some a)(hne:a.name≠s):s ∉ (xs.take (k+1)).map Task.name:=by
 rw[List.take_add_one,ha];simp only[List.map_append,List.mem_append,not_or]
 exact⟨h,by simpa using fun e=>hne e.symm⟩
theorem Mq{d:List Int}{k:Nat}{l y:Int}(h:d[k - 1]? = some l)(hy:d[((k:Int) - 1).toNat]? = some y):y = l:=by
 have e:((k:Int) - 1).toNat = k - 1:=by omega
 rw[e,h]at hy;cases hy;rfl
theorem cY(p:Plan)(hp:dl p):F sQ [.val (cO p)] (.i (aq p.tasks)) [[]]:=by
 have hl:p.tasks.length≤9223372036854775807:=hp.1
 have hw:∀ y∈p.tasks,y.name.size≤9223372036854775807∧y.deps.length≤9223372036854775807:=hp.2
 refine tG ?_
 conv=>whnf
 refine g 0 1 []<|J Zdq<|g 10 13 []<|J UD<|W.sq ?_
 by_cases h1:(↑(List.length (List.map ay (Plan.tasks p))):Int) < (1:Int)
 simp only[LM]at h1
 refine g 14 16 [BT,BT,BT]<|J ⟨I,I,I,SI,SI,SI,I⟩<|W.cn<|J (fun _=>(g 17 19 []<|J UA (RT ?_))) (noF rfl)
 rotate_left
 simp only[LM]at h1
 refine g 14 16 [BF,BF,BF]<|J ⟨I,I,I,⟨SI,I⟩,⟨SI,I⟩,SI,I⟩<|W.cn<|J (fun h2=>?_) fun h2=>?_
 replace h2:=dt h2
 simp only[LM]at h2
 refine g 17 19 []<|J UA<|RT ?_
 rotate_left
 replace h2:=df h2
 simp only[LM]at h2
 refine W.skip<|W.sq<|g 17 19 []<|J UA<|W.blk ?_
 rotate_left
 ·exact vi (Vc OM).symm
 ·exact vi (Vc OM).symm
 have hlen:1≤p.tasks.length∧p.tasks.length≤40:=by omega
 refine W.lp (fun s (n:Nat)=>⟨[(1,s.s 1),(3,s.s 3),(4,.i n),(13,s.s 13),(16,s.s 16)],[(1,[s.c 1 0])],[]⟩) (fun(n:Nat)=>n≤p.tasks.length∧Gt p.tasks n) (fun(n:Nat)=>p.tasks.length - n) (0) [some 1] [] ⟨rfl,⟨rfl,rfl,rfl,rfl,rfl,I⟩,⟨⟨rfl,⟨rfl,I⟩⟩,I⟩,I⟩ ?_ ?_
 ·exact⟨Nat.zero_le _,fun m t hm=>by omega⟩
 rintro n ⟨hn,hc⟩
 conv=>whnf
 refine W.sq<|g 19 21 []<|J UC<|W.cn<|J (fun h3=>?_) fun h3=>?_
 replace h3:=dt h3
 simp only[LM]at h3
 refine W.skip<|W.sq<|W.blk<|W.sq ?_
 obtain⟨y1,hy1⟩:=af (xs:=Plan.tasks p) (n:=n) OM
 have hm1:=hw y1 (List.mem_of_getElem? hy1)
 refine g 21 31 [.x (ay y1),.call (V.b (decide (mW y1.name))) [[]]]<|J ⟨I,I,I,Zdg,I,I,⟨UA,I,US,UA,wZ _ OM⟩,I,I⟩<|W.cn<|J (fun h4=>?_) fun h4=>?_
 replace h4:=ndt h4
 refine g 31 32 []<|J UA<|RT ?_
 rotate_left
 replace h4:=ndf h4
 refine W.skip<|g 31 32 []<|J UA<|W.blk ?_
 rotate_left
 replace h3:=df h3
 simp only[LM]at h3
 refine W.exit<|W.sq<|g 4 5 []<|J UA<|W.blk ?_
 rotate_left
 ·exact vi (Vb hlen (sn hy1 (fun e=>absurd e.1 AS))).symm
 ·refine W.lp (fun s (k:Nat)=>⟨[(1,s.s 1),(3,s.s 3),(4,s.s 4),(5,.i k),(13,s.s 13),(16,s.s 16)],[(1,[s.c 1 0])],[]⟩) (fun(k:Nat)=>k≤n∧y1.name ∉ (p.tasks.take k).map Task.name) (fun(k:Nat)=>n - k) (0) [some 1] [] ⟨rfl,Zay,Zdn,I⟩ (by simp) ?_
  rintro k ⟨hk,hm⟩
  conv=>whnf
  refine W.sq<|g 32 34 []<|J UC<|W.cn<|J (fun h5=>?_) fun h5=>?_
  replace h5:=dt h5
  refine W.skip<|W.sq<|W.blk ?_
  obtain⟨y2,hy2⟩:=af (xs:=Plan.tasks p) (n:=k) OM
  have hm2:=hw y2 (List.mem_of_getElem? hy2)
  refine gd 34 49 [[],[],[],[.x (ay y2)],[],[],[],[],[],[.x (ay y1)],[],[],[]] ?_
  conv=>whnf
  refine J ⟨I,I,I,Zdg,I,I,I,I,I,Zdg,I,I,I,I⟩<|J KR<|W.cn<|J (fun h6=>?_) fun h6=>?_
  replace h6:=dt h6
  refine g 49 50 []<|J UA<|RT ?_
  rotate_left
  replace h6:=df h6
  refine W.skip<|rg [.i ((k:Int) +1)]<|J Zdd ?_
  rotate_left
  replace h5:=df h5
  refine W.exit<|rg [.i ((n:Int) +1)]<|J Zdd ?_
  rotate_left
  ·exact vi (Vb hlen (sn hy1 (fun e=>e.2 (by rw[←(show y2.name = y1.name by assumption)];exact FB hy2 OM)))).symm
  ·refine⟨k+1,[some 1],[],⟨rfl,Zay,Zdn,I⟩,?_,?_⟩
   rotate_left
   (dsimp only;omega)
   dsimp only
   exact⟨by omega,NX (n:=n) hm hy2 AS⟩
  ·refine⟨n+1,[some 1],[],⟨rfl,Zbd,Zdn,I⟩,?_,?_⟩
   rotate_left
   (dsimp only;omega)
   dsimp only
   exact⟨by omega,zr hc hy1 ⟨by assumption,by rwa [show k = n by omega]at hm⟩⟩
 have hnames:ix p.tasks:=GI hc OM
 refine W.lp (fun s (n:Nat)=>⟨[(1,s.s 1),(3,s.s 3),(6,.i n),(13,s.s 13),(16,s.s 16)],[(1,[s.c 1 0])],[]⟩) (fun(n:Nat)=>n≤p.tasks.length∧∀ t∈p.tasks.take n,1≤t.cost∧t.cost≤20) (fun(n:Nat)=>p.tasks.length - n) (0) [some 1] [] ⟨rfl,Zbd,Zdn,I⟩ (by simp) ?_
 rintro n2 ⟨hn2,hc2⟩
 conv=>whnf
 refine W.sq<|g 50 52 []<|J UC<|W.cn<|J (fun h4=>?_) fun h4=>?_
 replace h4:=dt h4
 simp only[LM]at h4
 refine W.skip<|W.sq<|W.blk ?_
 obtain⟨y1,hy1⟩:=af (xs:=Plan.tasks p) (n:=n2) OM
 have hm1:=hw y1 (List.mem_of_getElem? hy1)
 by_cases h5:Task.cost y1 < (1:Int)
 refine g 52 70 [.x (ay y1),BT,BT,BT,BT,BT,BT,BT,BT]<|J ⟨I,I,I,Zdg,I,I,I,I,tO,tO,tO,tO,tO,tO,tO,tO,I⟩<|W.cn<|J (fun _=>(g 70 71 []<|J UA (RT ?_))) (noF rfl)
 rotate_left
 refine g 52 70 [.x (ay y1),BF,BF,BF,BF,.x (ay y1),BF,BF,BF,BF]<|J ⟨I,I,I,Zdg,I,I,I,I,⟨dO,I⟩,⟨dO,I⟩,⟨dO,I⟩,⟨dO,OM,xA⟩,⟨dO,I⟩,⟨dO,I⟩,⟨dO,I⟩,dO,I⟩<|W.cn<|J (fun h6=>?_) fun h6=>?_
 replace h6:=dt h6
 refine g 70 71 []<|J UA<|RT ?_
 rotate_left
 replace h6:=df h6
 refine W.skip<|rg [.i ((n2:Int) +1)]<|J Zdd ?_
 rotate_left
 replace h4:=df h4
 simp only[LM]at h4
 refine W.exit<|W.sq<|g 6 7 []<|J UA<|W.blk ?_
 rotate_left
 ·exact vi (Va hlen hnames (sB AS OM)).symm
 ·exact vi (Va hlen hnames (sB AS OM)).symm
 ·refine⟨n2+1,[some 1],[],⟨rfl,Zbd,Zdn,I⟩,?_,?_⟩
  rotate_left
  (dsimp only;omega)
  dsimp only
  exact⟨by omega,sF hc2 AS OM⟩
 have hcosts:jM p.tasks:=sG hc2 OM
 refine W.lp (fun s (n:Nat)=>⟨[(1,s.s 1),(3,s.s 3),(7,.i n),(13,s.s 13),(16,s.s 16)],[(1,[s.c 1 0])],[]⟩) (fun(n:Nat)=>n≤p.tasks.length∧LQ p.tasks n) (fun(n:Nat)=>p.tasks.length - n) (0) [some 1] [] ⟨rfl,⟨rfl,rfl,rfl,rfl,rfl,I⟩,⟨⟨rfl,⟨rfl,I⟩⟩,I⟩,I⟩ ?_ ?_
 ·exact⟨Nat.zero_le _,fun m t hm=>by omega⟩
 rintro n3 ⟨hn3,hc3⟩
 conv=>whnf
 refine W.sq<|g 71 73 []<|J UC<|W.cn<|J (fun h5=>?_) fun h5=>?_
 replace h5:=dt h5
 simp only[LM]at h5
 refine W.skip<|W.sq<|W.blk ?_
 obtain⟨y1,hy1⟩:=af (xs:=Plan.tasks p) (n:=n3) OM
 have hm1:=hw y1 (List.mem_of_getElem? hy1)
 refine g 73 82 [.x (ay y1)]<|J ⟨I,I,I,Zdg,I,I,I,I⟩<|W.sq<|g 82 84 []<|J UC<|W.cn<|J (fun h6=>?_) fun h6=>?_
 replace h6:=dt h6
 simp only[LM]at h6
 refine g 84 85 []<|J UA<|RT ?_
 rotate_left
 replace h6:=df h6
 simp only[LM]at h6
 refine W.skip<|g 84 85 []<|J UA<|W.blk ?_
 rotate_left
 replace h5:=df h5
 simp only[LM]at h5
 refine W.exit<|g 7 74 []<|J UA<|RT ?_
 rotate_left
 ·exact vi (Nv hlen hnames hcosts (mS AS (fun e=>by have:=e.1;omega))).symm
 ·refine W.lp (fun s (x:Nat×Int)=>match x with|(k,last)=>⟨[(1,s.s 1),(3,s.s 3),(7,s.s 7),(8,s.s 8),(9,.i k),(13,s.s 13),(16,s.s 16)],[(1,[s.c 1 0])],[]⟩) (fun(x:Nat×Int)=>match x with|(k,last)=>k≤y1.deps.length∧m7 n3 y1.deps k last∧ -1≤last∧(k = 0→last = -1)∧(0 < k→y1.deps[k - 1]? = some last)) (fun(x:Nat×Int)=>match x with|(k,last)=>y1.deps.length - k) ((0,-1)) [some 1] [] ⟨rfl,⟨rfl,rfl,rfl,rfl,rfl,rfl,rfl,I⟩,⟨⟨rfl,⟨rfl,I⟩⟩,I⟩,I⟩ ?_ ?_
  ·exact⟨Nat.zero_le _,Iff.rfl,by omega,fun _=>rfl,fun h=>by omega⟩
  rintro⟨k,last⟩ ⟨hk,hi,hlo,hz,hs⟩
  conv=>whnf
  refine W.sq<|g 85 88 []<|J UD<|W.cn<|J (fun h7=>?_) fun h7=>?_
  replace h7:=dt h7
  simp only[LM]at h7
  refine W.skip<|W.sq<|W.blk ?_
  obtain⟨y2,hy2⟩:=af (xs:=Task.deps y1) (n:=k) OM
  by_cases h8:y2 < (0:Int)
  refine gd 88 119 [[],[],[.x (dK y2)],[],[],[],[BT],[BT],[BT],[BT],[BT],[BT],[BT],[],[BT],[BT],[BT],[BF],[BF],[BF],[BF],[BF],[BF],[BF],[BF],[BF],[BF],[BT],[BT]] ?_
  conv=>whnf
  refine J ⟨I,I,Zdg,I,I,I,tO,tO,tO,tO,tO,tO,tO,I,rfl,rfl,rfl,I,I,I,I,I,I,I,I,I,I,rfl,rfl,I⟩<|J KR<|W.cn<|J (fun _=>(g 119 120 []<|J UA (RT ?_))) (noF rfl)
  rotate_left
  by_cases h9:(↑n3:Int)≤y2
  refine gd 88 119 [[],[],[.x (dK y2)],[],[],[],[BF],[BF],[BF,.x (dK y2)],[BF],[BF],[BF],[BF],[],[BT],[BT],[BT],[BF],[BF],[BF],[BF],[BF],[BF],[BF],[BF],[BF],[BF],[BT],[BT]] ?_
  conv=>whnf
  refine J ⟨I,I,Zdg,I,I,I,⟨dO,I⟩,⟨dO,I⟩,⟨dO,OM,xA⟩,⟨dO,I⟩,⟨dO,I⟩,⟨dO,I⟩,dO,I,tO,tO,tO,I,I,I,I,I,I,I,I,I,I,tO,tO,I⟩<|J KR<|W.cn<|J (fun _=>(g 119 120 []<|J UA (RT ?_))) (noF rfl)
  rotate_left
  by_cases h10:(0:Int) < (↑k:Int)
  obtain⟨y3,hy3⟩:=af (xs:=Task.deps y1) (n:=Int.toNat ((↑k:Int) - (1:Int))) OM
  refine gd 88 119 [[],[],[.x (dK y2)],[],[],[],[BF],[BF],[BF,.x (dK y2)],[BF],[BF],[BF],[BF],[],[BF],[BF],[BF],[BT],[BT],[BT,.i ((k:Int) - 1)],[BT,.x (dK y3)],[BT],[BT],[BT],[BT,.x (dK y2)],[BT],[BT],[BF,BT],[BF]] ?_
  conv=>whnf
  refine J ⟨I,I,Zdg,I,I,I,⟨dO,I⟩,⟨dO,I⟩,⟨dO,OM,xA⟩,⟨dO,I⟩,⟨dO,I⟩,⟨dO,I⟩,dO,I,⟨dO,I⟩,⟨dO,I⟩,⟨dO,I⟩,⟨tO,I⟩,⟨tO,I⟩,⟨tO,wO⟩,⟨tO,OM,xA⟩,⟨tO,I⟩,⟨tO,I⟩,⟨tO,I⟩,⟨tO,OM,xA⟩,⟨tO,I⟩,⟨tO,I⟩,⟨dO,tO⟩,dO,I⟩<|J KR<|W.cn<|J (fun h11=>?_) fun h11=>?_
  replace h11:=dt h11
  refine g 119 120 []<|J UA<|RT ?_
  rotate_left
  replace h11:=df h11
  refine W.skip<|rg [.i ((k:Int) +1)]<|J Zdd ?_
  rotate_left
  refine gd 88 119 [[],[],[.x (dK y2)],[],[],[],[BF],[BF],[BF,.x (dK y2)],[BF],[BF],[BF],[BF],[],[BF],[BF],[BF],[BF],[BF],[BF],[BF],[BF],[BF],[BF],[BF],[BF],[BF],[BF,BF],[BF]] ?_
  conv=>whnf
  refine J ⟨I,I,Zdg,I,I,I,⟨dO,I⟩,⟨dO,I⟩,⟨dO,OM,xA⟩,⟨dO,I⟩,⟨dO,I⟩,⟨dO,I⟩,dO,I,⟨dO,I⟩,⟨dO,I⟩,⟨dO,I⟩,dO,dO,dO,dO,dO,dO,dO,dO,dO,dO,⟨dO,dO⟩,dO,I⟩<|J KR<|W.cn<|J (noT rfl) fun _=>W.skip<|rg [.i ((k:Int) +1)]<|J Zdd ?_
  rotate_left
  replace h7:=df h7
  simp only[LM]at h7
  refine W.exit<|rg [.i ((n3:Int) +1)]<|J Zdd ?_
  rotate_left
  ·exact vi (Nv hlen hnames hcosts (mS hy1 (fun e=>tC hi hy2 OM e.2))).symm
  ·exact vi (Nv hlen hnames hcosts (mS hy1 (fun e=>tC hi hy2 OM e.2))).symm
  ·have hl3:=Mq (hs OM) hy3
   exact vi (Nv hlen hnames hcosts (mS hy1 (fun e=>tC hi hy2 OM e.2))).symm
  ·have hl3:=Mq (hs OM) hy3
   refine⟨(k+1,y2),[some 1],[],⟨rfl,Zbi,Zdn,I⟩,?_,?_⟩
   rotate_left
   (dsimp only;omega)
   dsimp only
   exact⟨by omega,uW hi hy2 OM,by omega,fun e=>by omega,fun _=>hy2⟩
  ·have hl3:=hz OM
   refine⟨(k+1,y2),[some 1],[],⟨rfl,Zbi,Zdn,I⟩,?_,?_⟩
   rotate_left
   (dsimp only;omega)
   dsimp only
   exact⟨by omega,uW hi hy2 OM,by omega,fun e=>by omega,fun _=>hy2⟩
  ·refine⟨n3+1,[some 1],[],⟨rfl,Zbd,Zdn,I⟩,?_,?_⟩
   rotate_left
   (dsimp only;omega)
   dsimp only
   exact⟨by omega,zr hc3 hy1 ⟨by omega,Jm hi OM⟩⟩
 exact vi (Yl hlen hnames hcosts (GI hc3 OM)).symm
end Go.K
end
section
open Go Go.Tm Go.Proofs
namespace Go.K
theorem Ud{n:Nat}{x:List T}(h:wfT E (n+3) EX x):∃ v:Task,x = ay v∧xD v:=by
 obtain⟨y0,z0,e0,⟨name,rfl,hname⟩,y1,z1,e1,⟨cost,rfl,_,_⟩,y2,z2,e2,⟨ldeps,rfl,hdeps,gdeps⟩,e3⟩:=h
 subst e3
 subst e2
 subst e1
 obtain⟨deps,rfl,_⟩:=lT (f:=dK) (p:=fun _=>True) (xs:=ldeps) fun y hy=>by obtain⟨m,hm,_⟩:=gdeps y hy;exact⟨m,hm,trivial⟩
 subst e0
 exact⟨⟨name,cost,deps⟩,rfl,⟨hname,by rw[List.length_map]at hdeps;exact hdeps⟩⟩
theorem Uf{n:Nat}{x:List T}(h:wfT E (n+5) EZ x):∃ v:Plan,x = XK v∧dl v:=by
 obtain⟨y0,z0,e0,⟨ltasks,rfl,htasks,gtasks⟩,e1⟩:=h
 subst e1
 obtain⟨tasks,rfl,wtasks⟩:=lT (f:=ay) (p:=xD) (xs:=ltasks) fun y hy=>Ud (gtasks y hy)
 subst e0
 exact⟨⟨tasks⟩,rfl,⟨by rw[List.length_map]at htasks;exact htasks,wtasks⟩⟩
theorem NE{n:Nat}{x:List T}(h:wfT E (n+3) xR x):∃ v:Worker,x = ar v∧lK v:=by
 obtain⟨y0,z0,e0,⟨number,rfl,_,_⟩,y1,z1,e1,⟨epoch,rfl,_,_⟩,y2,z2,e2,⟨up,rfl⟩,y3,z3,e3,⟨state,rfl,_,_⟩,y4,z4,e4,⟨lease,rfl,_,_⟩,y5,z5,e5,⟨task,rfl,_,_⟩,y6,z6,e6,⟨cost,rfl,_,_⟩,y7,z7,e7,⟨left,rfl,_,_⟩,y8,z8,e8,⟨linputs,rfl,hinputs,ginputs⟩,y9,z9,e9,⟨text,rfl,htext⟩,y10,z10,e10,⟨since,rfl,_,_⟩,e11⟩:=h
 subst e11
 subst e10
 subst e9
 subst e8
 subst e7
 subst e6
 subst e5
 subst e4
 subst e3
 subst e2
 subst e1
 obtain⟨inputs,rfl,winputs⟩:=zo ginputs
 subst e0
 exact⟨⟨number,epoch,up,state,lease,task,cost,left,inputs,text,since⟩,rfl,⟨by rw[List.length_map]at hinputs;exact hinputs,winputs,htext⟩⟩
end Go.K
end
section
open Go Go.Tm Go.Proofs
namespace Go.K
def dI(all:List ByteArray)(ds:List Int):List ByteArray:=ds.map fun d=>(all[d.toNat]?).getD emp
theorem vh(nm:ByteArray)(xs:List ByteArray):(cD nm xs).size = 8:=by unfold cD;rw[gk,pj]
def cU(rs:List ByteArray)(ds:List Int):Prop:=∀ d∈ds,¬(rs[d.toNat]?).getD emp = emp
noncomputable instance (rs:List ByteArray) (ds:List Int):Decidable (cU rs ds):=Classical.propDecidable _
structure Tale where
 epoch:Int
 results:List ByteArray
open Classical in
noncomputable def dG(ts:List Task)(st:Tale)(s:ByteArray):Option Tale :=
 match ed s with
 |none=>none
 |some e =>
  if e.kind = 1 then(if e.epoch = st.epoch+1 then some ⟨e.epoch,st.results⟩else none)
  else if e.epoch = st.epoch∧e.task < ts.length∧(st.results[e.task.toNat]?).getD emp = emp∧cU st.results ((ts[e.task.toNat]?).map Task.deps|>.getD [])then some ⟨st.epoch,st.results.set e.task.toNat e.text⟩else none
noncomputable def jU(ts:List Task)(st:Option Tale)(l:List ByteArray):Option Tale:=l.foldl (fun a s=>a.bind fun t=>dG ts t s) st
noncomputable def lm(ts:List Task):Tale:=⟨0,List.replicate ts.length emp⟩
theorem nI(ts:List Task)(l:List ByteArray)(st:Option Tale)(m:List ByteArray):jU ts st (l++m) = jU ts (jU ts st l) m:=by unfold jU;rw[List.foldl_append]
theorem ib(ts:List Task):∀ (l:List ByteArray),jU ts none l = none
 |[]=>rfl
 |s :: l=>ib ts l
theorem jQ(ts:List Task)(st:Option Tale):jU ts st [] = st:=rfl
theorem oc(ts:List Task)(t:Tale)(s:ByteArray)(l:List ByteArray):jU ts (some t) (s :: l) = jU ts (dG ts t s) l:=rfl
theorem Ec{ts:List Task}{xs:List ByteArray}{n:Nat}{s:ByteArray}{st:Option Tale}{t:Tale}(h:jU ts st (xs.take n) = some t)(hs:xs[n]? = some s):jU ts st (xs.take (n+1)) = dG ts t s:=by
 rw[List.take_add_one,hs,nI,h];rfl
theorem Qs{ts:List Task}{xs:List ByteArray}{n:Nat}{s:ByteArray}{st:Option Tale}{t:Tale}(h:jU ts st (xs.take n) = some t)(hs:xs[n]? = some s)(hb:dG ts t s = none):jU ts st xs = none:=by
 have h2:=Ec h hs
 rw[hb]at h2
 rw[←List.take_append_drop (n+1) xs,nI,h2,ib]
theorem Qt{ts:List Task}{xs:List ByteArray}{n:Nat}{st:Option Tale}{t:Tale}(h:jU ts st (xs.take n) = some t)(hn:xs.length≤n):jU ts st xs = some t:=by
 rw[List.take_of_length_le hn]at h;exact h
theorem NK{ts:List Task}{t t':Tale}{s:ByteArray}(h:dG ts t s = some t'):t'.results.length = t.results.length:=by
 unfold dG at h
 split at h
 ·cases h
 ·split at h
  ·split at h
   ·cases h;rfl
   ·cases h
  ·split at h
   ·cases h;simp
   ·cases h
theorem sd(ts:List Task):∀ (l:List ByteArray) (t t':Tale),jU ts (some t) l = some t'→t'.results.length = t.results.length
 |[],t,t',h=>by rw[jQ]at h;cases h;rfl
 |s :: l,t,t',h=>by
  rw[oc]at h
  cases hs:dG ts t s with
  |none=>rw[hs,ib]at h;cases h
  |some u=>rw[hs]at h;rw[sd ts l u t' h,NK hs]
end Go.K
end
section
open Go Go.Tm Go.Proofs
namespace Go.K
abbrev X8(ds:List Int):T:=.slc [false] (ds.map dK)
theorem zN{all:List ByteArray}{ds:List Int}{n:Nat}{d:Int}{y:ByteArray}(h:ds[n]? = some d)(hy:all[d.toNat]? = some y):dI all (ds.take (n+1)) = dI all (ds.take n) ++ [y]:=by
 unfold dI;rw[List.take_add_one,h];simp[hy]
theorem Ei{all:List ByteArray}{ds:List Int}{n:Nat}{d:Int}{y:ByteArray}(h:ds[n]? = some d)(hy:all[d.toNat]? = some y):(dI all (ds.take n)).map ak++ [ak y] = (dI all (ds.take (n+1))).map ak:=by
 rw[zN h hy,List.map_append];rfl
theorem vP(all:List ByteArray)(ds:List Int)(hd:∀ d∈ds,0≤d∧d < all.length)(hl:ds.length≤1048576):F HG [.val (.t (pZ all)),.val (.t (X8 ds))] (.own [false] ((dI all ds).map ak)) [[],[]]:=by
 refine HW ?_
 conv=>whnf
 refine g 0 0 []<|J UA<|g 0 0 []<|J UA<|W.sq<|g 1 2 []<|J UC<|W.blk<|W.lp (fun s (n:Nat)=>⟨[(0,s.s 0),(4,s.s 4),(5,.ref ⟨5,none,0⟩),(8,s.s 8),(9,s.s 9),(10,.i n)],[(5,[.own [false] ((dI all (ds.take n)).map ak)])],[]⟩) (fun(n:Nat)=>n≤ds.length) (fun(n:Nat)=>ds.length - n) (0) [none] [] ⟨rfl,⟨rfl,rfl,⟨rfl,rfl,rfl⟩,rfl,rfl,rfl,I⟩,UA,I⟩ OM ?_
 intro n hn
 have hx:(dI all (ds.take n)).length = n:=by unfold dI;rw[List.length_map,List.length_take];omega
 conv=>whnf
 refine g 0 0 []<|J UA<|W.sq<|W.cn<|J (fun h1=>?_) fun h1=>?_
 replace h1:=dt h1
 simp only[LM]at h1
 refine W.skip<|W.sq<|W.blk ?_
 obtain⟨y1,hy1⟩:=af (xs:=ds) (n:=n) OM
 have hm1:=hd y1 (List.mem_of_getElem? hy1)
 refine g 11 14 [.x (dK y1)]<|J Zb4 ?_
 obtain⟨y2,hy2⟩:=af (xs:=all) (n:=Int.toNat y1) OM
 refine rg [.x (ak y2)]<|J ⟨I,I,I,Zdg,I,US,Zdi,I,I⟩<|rg [.i ((n:Int) +1)]<|J Zdm ?_
 rotate_left
 replace h1:=df h1
 simp only[LM]at h1
 refine W.exit<|g 5 12 []<|J UB<|RT ?_
 rotate_left
 ·refine⟨n+1,[some 20],[],⟨rfl,Zay,⟨⟨rfl,⟨(congrArg (V.own _) (Ei AS AS)),I⟩⟩,I⟩,I⟩,?_,?_⟩
  rotate_left
  (dsimp only;omega)
  dsimp only
  omega
 ·rw[List.take_of_length_le OM]
theorem IY{rs:List ByteArray}{ds:List Int}{n:Nat}{d:Int}{y:ByteArray}(h:ds[n]? = some d)(hy:rs[d.toNat]? = some y)(e:y = emp):¬cU rs ds:=fun hr=>hr d (List.mem_of_getElem? h) (by rw[hy];exact e)
theorem zI{rs:List ByteArray}{ds:List Int}{n:Nat}{d:Int}{y:ByteArray}(hc:cU rs (ds.take n))(h:ds[n]? = some d)(hy:rs[d.toNat]? = some y)(e:¬y = emp):cU rs (ds.take (n+1)):=by
 intro x hx
 rw[List.take_add_one,h]at hx
 rcases List.mem_append.1 hx with hx|hx
 ·exact hc x hx
 ·rw[Option.toList,List.mem_singleton]at hx;subst hx;rw[hy];exact e
theorem iU(all:List ByteArray)(ds:List Int)(hd:∀ d∈ds,0≤d∧d < all.length)(hl:ds.length≤1048576):F Fv [.val (.t (pZ all)),.val (.t (X8 ds))] (.b (decide (cU all ds))) [[],[]]:=by
 refine FO ?_
 conv=>whnf
 refine g 0 0 []<|J UA<|W.sq<|g 1 2 []<|J UC<|W.blk ?_
 refine W.lp (fun s (n:Nat)=>⟨[(0,s.s 0),(7,s.s 7),(8,s.s 8),(9,.i n)],[],[]⟩) (fun(n:Nat)=>n≤ds.length∧cU all (ds.take n)) (fun(n:Nat)=>ds.length - n) (0) [] [] ⟨rfl,⟨rfl,rfl,rfl,rfl,I⟩,I,I⟩ ?_ ?_
 ·exact⟨Nat.zero_le _,by unfold cU;simp⟩
 rintro n ⟨hn,hc⟩
 conv=>whnf
 refine g 0 0 []<|J UA<|W.sq<|W.cn<|J (fun h1=>?_) fun h1=>?_
 replace h1:=dt h1
 simp only[LM]at h1
 refine W.skip<|W.sq<|W.blk ?_
 obtain⟨y1,hy1⟩:=af (xs:=ds) (n:=n) OM
 have hm1:=hd y1 (List.mem_of_getElem? hy1)
 refine g 10 13 [.x (dK y1)]<|J Zb4 ?_
 obtain⟨y2,hy2⟩:=af (xs:=all) (n:=Int.toNat y1) OM
 refine g 13 17 [.x (ak y2)]<|J ⟨I,I,Zdg,I,I,I⟩<|W.cn<|J (fun h2=>?_) fun h2=>?_
 replace h2:=dt h2
 refine g 6 7 []<|J UA<|RT ?_
 rotate_left
 replace h2:=df h2
 refine W.skip<|rg [.i ((n:Int) +1)]<|J Zdm ?_
 rotate_left
 replace h1:=df h1
 simp only[LM]at h1
 refine W.exit<|g 7 11 []<|J UA<|RT ?_
 rotate_left
 ·exact vbf (IY AS AS AS)
 ·refine⟨n+1,[],[],⟨rfl,Za6,I,I⟩,?_,?_⟩
  rotate_left
  (dsimp only;omega)
  dsimp only
  exact⟨by omega,zI hc AS AS AS⟩
 ·exact vbt (by rw[List.take_of_length_le OM]at hc;exact hc)
end Go.K
end
section
open Go Go.Tm Go.Proofs
namespace Go.K
theorem Ad{hi:Int}:∀ {last:Int} {ds:List Int},Jn last hi ds→∀ d∈ds,last < d∧d < hi
 |_,[],_,d,h=>by cases h
 |last,x :: ds,h,d,hd=>by
  rw[Jn]at h
  rcases List.mem_cons.1 hd with e|hd
  ·subst e;exact h.1
  ·have:=Ad h.2 d hd;omega
theorem bT{ts:List Task}(h:aq ts = 0):(1≤ts.length∧ts.length≤40)∧ix ts∧jM ts∧xI ts:=by
 by_cases h1:1≤ts.length∧ts.length≤40
 ·by_cases h2:ix ts
  ·by_cases h3:jM ts
   ·by_cases h4:xI ts
    ·exact⟨h1,h2,h3,h4⟩
    ·rw[Nv h1 h2 h3 h4]at h;cases h
   ·rw[Va h1 h2 h3]at h;cases h
  ·rw[Vb h1 h2]at h;cases h
 ·rw[Vc h1]at h;cases h
theorem bZ{ts:List Task}(h:aq ts = 0){n:Nat}{t:Task}(ht:ts[n]? = some t):(1≤t.name.size∧t.name.size≤30)∧(1≤t.cost∧t.cost≤20)∧t.deps.length≤8∧∀ d∈t.deps,0≤d∧d < n:=by
 obtain⟨h1,h2,h3,h4⟩:=bT h
 have hn:=(List.getElem?_eq_some_iff.1 ht).1
 refine⟨(h2 n t hn ht).1.2,h3 t (List.mem_of_getElem? ht),(h4 n t hn ht).1,fun d hd=>?_⟩
 have:=Ad (h4 n t hn ht).2 d hd
 omega
theorem lA(all:List ByteArray)(ds:List Int):(dI all ds).length = ds.length:=by unfold dI;rw[List.length_map]
theorem AO:∀ {xs:List ByteArray},(∀ s∈xs,s.size≤8)→bP xs≤8 * xs.length
 |[],_=>by simp[bP]
 |s :: xs,h=>by
  have:=AO (xs:=xs) fun y hy=>h y (List.mem_cons_of_mem _ hy)
  have:=h s (List.mem_cons_self ..)
  simp only[bP,List.length_cons];omega
end Go.K
end
section
open Go Go.Tm Go.Proofs
namespace Go.K
structure Story where
 code:Int
 epoch:Int
 results:List ByteArray
 deriving DecidableEq
abbrev gc(x:Story):V:=.agg [.t (.i x.code),.t (.i x.epoch),.own [false] (x.results.map ak)]
noncomputable def cF(ts:List Task)(xs:List ByteArray)(n:Nat):Tale:=(jU ts (some (lm ts)) (xs.take n)).getD (lm ts)
def lM(ts:List Task)(xs:List ByteArray)(n:Nat):Prop:=jU ts (some (lm ts)) (xs.take n) = some (cF ts xs n)
theorem jZ(ts:List Task)(xs:List ByteArray):cF ts xs 0 = lm ts:=by unfold cF;rw[List.take_zero,jQ];rfl
theorem vo(ts:List Task)(xs:List ByteArray):lM ts xs 0:=by unfold lM;rw[jZ,List.take_zero,jQ]
theorem n6{ts:List Task}{xs:List ByteArray}{n:Nat}{s:ByteArray}{t:Tale}(h:lM ts xs n)(hs:xs[n]? = some s)(hst:dG ts (cF ts xs n) s = some t):lM ts xs (n+1)∧cF ts xs (n+1) = t:=by
 have e:=Ec h hs
 rw[hst]at e
 have e2:cF ts xs (n+1) = t:=by unfold cF;rw[e];rfl
 exact⟨by unfold lM;rw[e,e2],e2⟩
theorem IG{ts:List Task}{xs:List ByteArray}{n:Nat}(h:lM ts xs n):(cF ts xs n).results.length = ts.length:=by
 rw[sd ts _ _ _ h,lm,List.length_replicate]
noncomputable def aw(p:Plan)(xs:List ByteArray):Story :=
 if aq p.tasks = 0∧xs.length≤310 then
  match jU p.tasks (some (lm p.tasks)) xs with
  |none=>⟨2,0,[]⟩
  |some t=>⟨0,t.epoch,t.results⟩
 else⟨1,0,[]⟩
theorem mn{p:Plan}{xs:List ByteArray}(h:¬(aq p.tasks = 0∧xs.length≤310)):aw p xs = ⟨1,0,[]⟩:=if_neg h
theorem dX{p:Plan}{xs:List ByteArray}{n:Nat}{s:ByteArray}(h:aq p.tasks = 0)(hl:xs.length≤310)(hc:lM p.tasks xs n)(hs:xs[n]? = some s)(hst:dG p.tasks (cF p.tasks xs n) s = none):aw p xs = ⟨2,0,[]⟩:=by
 rw[aw,if_pos ⟨h,hl⟩,Qs hc hs hst]
theorem zG{p:Plan}{xs:List ByteArray}{n:Nat}(h:aq p.tasks = 0)(hl:xs.length≤310)(hc:lM p.tasks xs n)(hn:xs.length≤n):aw p xs = ⟨0,(cF p.tasks xs n).epoch,(cF p.tasks xs n).results⟩:=by
 rw[aw,if_pos ⟨h,hl⟩,Qt hc hn]
theorem Ea{ts:List Task}{t:Tale}{s:ByteArray}(h:ed s = none):dG ts t s = none:=by unfold dG;rw[h]
theorem Gl{ts:List Task}{t:Tale}{s:ByteArray}{e:Entry}(h:ed s = some e)(hk:e.kind = 1)(he:e.epoch = t.epoch+1):dG ts t s = some ⟨e.epoch,t.results⟩:=by
 unfold dG;rw[h];simp only[if_pos hk,if_pos he]
theorem zy{ts:List Task}{t:Tale}{s:ByteArray}{e:Entry}(h:ed s = some e)(hk:e.kind = 1)(he:¬e.epoch = t.epoch+1):dG ts t s = none:=by
 unfold dG;rw[h];simp only[if_pos hk,if_neg he]
theorem AY{ts:List Task}{t:Tale}{s:ByteArray}{e:Entry}{k:Task}{y:ByteArray}(h:ed s = some e)(hk:¬e.kind = 1)(he:e.epoch = t.epoch)(ht:e.task < ts.length)(hy:t.results[e.task.toNat]? = some y)(hy2:y = emp)(hkk:ts[e.task.toNat]? = some k)(hr:cU t.results k.deps):dG ts t s = some ⟨t.epoch,t.results.set e.task.toNat e.text⟩:=by
 unfold dG;rw[h];simp only[if_neg hk]
 rw[if_pos ⟨he,ht,by rw[hy];exact hy2,by rw[hkk];exact hr⟩]
theorem r9{ts:List Task}{t:Tale}{s:ByteArray}{e:Entry}(h:ed s = some e)(hk:¬e.kind = 1)(hn:¬(e.epoch = t.epoch∧e.task < ts.length)):dG ts t s = none:=by
 unfold dG;rw[h];simp only[if_neg hk]
 rw[if_neg fun q=>hn ⟨q.1,q.2.1⟩]
theorem IL{ts:List Task}{t:Tale}{s:ByteArray}{e:Entry}{y:ByteArray}(h:ed s = some e)(hk:¬e.kind = 1)(hy:t.results[e.task.toNat]? = some y)(hn:¬y = emp):dG ts t s = none:=by
 unfold dG;rw[h];simp only[if_neg hk]
 rw[if_neg fun q=>hn (by have:=q.2.2.1;rw[hy]at this;exact this)]
theorem IK{ts:List Task}{t:Tale}{s:ByteArray}{e:Entry}{k:Task}(h:ed s = some e)(hk:¬e.kind = 1)(hkk:ts[e.task.toNat]? = some k)(hn:¬cU t.results k.deps):dG ts t s = none:=by
 unfold dG;rw[h];simp only[if_neg hk]
 rw[if_neg fun q=>hn (by have:=q.2.2.2;rw[hkk]at this;exact this)]
theorem ju{s:ByteArray}{e:Entry}(h:ed s = some e):e.ok:=by
 unfold ed at h
 split at h
 ·cases h
 ·split at h
  ·rename_i h1 h2
   cases h
   unfold dc at h2
   split at h2
   ·assumption
   ·rw[←h2]at h1;exact absurd (by decide:((emp.size:Nat):Int) < 4) h1
  ·cases h
theorem g9(p:Plan)(rs:List ByteArray)(k:Int){t:Task}(h0:0≤k)(ht:p.tasks[k.toNat]? = some t)(hd:∀ d∈t.deps,0≤d∧d < rs.length)(hl:t.deps.length≤1048576):F Bz [.val (cO p),.val (.t (pZ rs)),.val (.i k)] (.b (decide (cU rs t.deps))) [[],[],[]]:=by
 have hk:=(List.getElem?_eq_some_iff.1 ht).1
 refine Ch ?_
 conv=>whnf
 refine g 0 1 []<|J Zdq<|g 9 15 [.x (ay t)]<|J ⟨I,I,I,⟨AS,xA⟩,I,I,I,I⟩<|W.sq<|g 2 4 []<|J UA<|W.blk ?_
 refine W.lp (fun s (n:Nat)=>⟨[(1,s.s 1),(7,s.s 7),(8,.i n)],[],[]⟩) (fun(n:Nat)=>n≤t.deps.length∧cU rs (t.deps.take n)) (fun(n:Nat)=>t.deps.length - n) (0) [] [] ⟨rfl,⟨rfl,rfl,rfl,I⟩,I,I⟩ ?_ ?_
 ·exact⟨Nat.zero_le _,by unfold cU;simp⟩
 rintro n ⟨hn,hc⟩
 conv=>whnf
 refine W.sq<|g 15 18 []<|J UD<|W.cn<|J (fun h1=>?_) fun h1=>?_
 replace h1:=dt h1
 simp only[LM]at h1
 refine W.skip<|W.sq<|W.blk ?_
 obtain⟨y1,hy1⟩:=af (xs:=Task.deps t) (n:=n) OM
 have hm1:=hd y1 (List.mem_of_getElem? hy1)
 obtain⟨y2,hy2⟩:=af (xs:=rs) (n:=Int.toNat y1) OM
 refine g 18 28 [.x (dK y1),.x (ak y2)]<|J ⟨I,I,I,Zdg,I,Zdg,I,I,I⟩<|W.cn<|J (fun h2=>?_) fun h2=>?_
 replace h2:=dt h2
 refine g 28 29 []<|J UA<|RT ?_
 rotate_left
 replace h2:=df h2
 refine W.skip<|rg [.i ((n:Int) +1)]<|J Zdd ?_
 rotate_left
 replace h1:=df h1
 simp only[LM]at h1
 refine W.exit<|g 7 19 []<|J UA<|RT ?_
 rotate_left
 ·exact vbf (IY AS AS AS)
 ·refine⟨n+1,[],[],Zbb,?_,?_⟩
  rotate_left
  (dsimp only;omega)
  dsimp only
  exact⟨by omega,zI hc AS AS AS⟩
 ·exact vbt (by rw[List.take_of_length_le OM]at hc;exact hc)
theorem IE{ts:List Task}{e:Entry}(h:e.ok):0≤e.task∧e.task≤39∧1≤e.epoch∧e.epoch≤300:=⟨h.2.1.1,h.2.1.2,h.1.1,h.1.2⟩
theorem xT(ts:List Task)(xs:List ByteArray):List.replicate ts.length (ak emp) = (cF ts xs 0).results.map ak:=by rw[jZ,lm,List.map_replicate]
theorem pg(p:Plan)(xs:List ByteArray)(hp:dl p)(hx:∀ s∈xs,s.size≤281474976710656)(hl:xs.length≤9223372036854775806):F oN [.val (cO p),.val (.t (pZ xs))] (gc (aw p xs)) [[],[]]:=by
 have c1:=fm p hp
 by_cases h:aq p.tasks = 0
 ·obtain⟨⟨hl1,hl2⟩,_⟩:=bT h
  rw[h]at c1
  by_cases hl3:xs.length≤310
  ·refine kA ?_
   conv=>whnf
   refine g 0 0 []<|J Zdq<|W.sq<|g 13 18 [.call (V.i 0) [[]],BF,BF,BF,BF]<|J ⟨I,Zai,I,I,Zdc,Zdc,Zdc,rfl,I⟩<|W.cn<|J (fun h1=>?_) fun h1=>?_
   replace h1:=dt h1
   simp only[LM]at h1
   omega
   replace h1:=df h1
   simp only[LM]at h1
   refine W.skip<|gd 21 24 [[],[],[],[.n (List.length (List.map ay p.tasks))],[],[]] ?_
   conv=>whnf
   refine J ⟨I,I,I,⟨rfl,rfl,LN⟩,I,I,I⟩<|J KR<|W.sq<|g 11 12 []<|J UC<|W.blk ?_
   refine W.lp (fun s (n:Nat)=>⟨[(0,s.s 0),(1,s.s 1),(2,s.s 2),(4,s.s 4),(5,.i (cF p.tasks xs n).epoch),(6,.ref ⟨23,none,0⟩),(12,s.s 12),(20,s.s 20),(24,s.s 24),(25,s.s 25),(26,.i n)],[(2,[s.c 2 0]),(4,[s.c 4 0,s.c 4 1,s.c 4 2]),(23,[.own [false] ((cF p.tasks xs n).results.map ak)])],[]⟩) (fun(n:Nat)=>n≤xs.length∧lM p.tasks xs n∧0≤(cF p.tasks xs n).epoch∧(cF p.tasks xs n).epoch≤300) (fun(n:Nat)=>xs.length - n) (0) [some 2,some 4,some 23] [] ⟨rfl,⟨⟨_,rfl,_,_,rfl,rfl,rfl⟩,rfl,rfl,rfl,rfl,rfl,rfl,rfl,rfl,rfl,rfl,I⟩,⟨⟨rfl,⟨rfl,I⟩⟩,⟨⟨rfl,⟨rfl,⟨rfl,⟨rfl,I⟩⟩⟩⟩,⟨⟨rfl,⟨(congrArg (V.own _) (by rw[List.length_map];exact xT _ _)),I⟩⟩,I⟩⟩⟩,I⟩ ?_ ?_
   ·rw[jZ];exact⟨Nat.zero_le _,vo _ _,Int.le_refl _,by show(0:Int)≤300;omega⟩
   rintro n ⟨hn,hc,he0,he1⟩
   have hrl:=IG hc
   by_cases hn2:n < xs.length
   ·obtain⟨s0,hs⟩:=af hn2
    have hss:=hx s0 (List.mem_of_getElem? hs)
    have cr:=lj s0 hss
    rw[Mb]at cr
    cases hr:ed s0 with
    |none =>
     rw[hr]at cr
     conv=>whnf
     refine g 0 0 []<|J UA<|W.sq<|W.cn<|J (fun _=>(W.skip (W.sq (W.blk (g 27 30 [.x (ak s0)]<|J Zb4 (g 30 35 [.call (lq none) [[]]]<|J Zd3 (W.sq (g 8 9 []<|J UB (W.cn<|J (fun _=>(g 35 38 []<|J Zd5 ?_)) (noF rfl)))))))))) (noF SI)
     refine RT ?_
     rw[dX h hl3 hc hs (Ea hr)];rfl
    |some e =>
     rw[hr]at cr
     obtain⟨r1,r2,r3,r4⟩:=IE (ts:=p.tasks) (ju hr)
     by_cases hk:e.kind = 1
     ·by_cases he:e.epoch = (cF p.tasks xs n).epoch+1
      ·obtain⟨hc2,e1⟩:=n6 hc hs (Gl hr hk he)
       conv=>whnf
       refine g 0 0 []<|J UA<|W.sq<|W.cn<|J (fun _=>(W.skip (W.sq (W.blk (g 27 30 [.x (ak s0)]<|J Zb4 (g 30 35 [.call (lq (some e)) [[]]]<|J Zd3 (W.sq (g 8 9 []<|J UB (W.cn<|J (noT rfl) fun _=>(W.skip ?_)))))))))) (noF SI)
       refine W.sq<|g 35 40 []<|J UC<|W.cn<|J (fun _=>(W.sq (g 40 45 [.i (Tale.epoch (cF p.tasks xs n) +1)]<|J ⟨I,I,I,wO,I,I⟩ (W.cn<|J (noT nO) fun _=>(W.skip (g 45 49 []<|J UC (W.exit (rg [.i ((n:Int) +1)]<|J Zdm ?_)))))))) (noF tO)
       refine⟨n+1,[some 2,some 4,some 23],[],⟨rfl,⟨Zag,rfl,rfl,rfl,(congrArg (fun z=>V.t (T.v (Value.int _ z))) (by rw[e1])),rfl,rfl,rfl,rfl,rfl,rfl,I⟩,⟨Zac,⟨Zdh,⟨⟨rfl,⟨(congrArg (V.own _) (by rw[e1])),I⟩⟩,I⟩⟩⟩,I⟩,?_,?_⟩
       rotate_left
       (dsimp only;omega)
       dsimp only
       exact⟨by omega,hc2,by rw[e1];dsimp only;omega,by rw[e1];dsimp only;omega⟩
      ·conv=>whnf
       refine g 0 0 []<|J UA<|W.sq<|W.cn<|J (fun _=>(W.skip (W.sq (W.blk (g 27 30 [.x (ak s0)]<|J Zb4 (g 30 35 [.call (lq (some e)) [[]]]<|J Zd3 (W.sq (g 8 9 []<|J UB (W.cn<|J (noT rfl) fun _=>(W.skip ?_)))))))))) (noF SI)
       refine W.sq<|g 35 40 []<|J UC<|W.cn<|J (fun _=>(W.sq (g 40 45 [.i (Tale.epoch (cF p.tasks xs n) +1)]<|J ⟨I,I,I,wO,I,I⟩ (W.cn<|J (fun _=>(g 45 47 []<|J Zd5 (RT ?_))) (noF (ag OM)))))) (noF tO)
       rw[dX h hl3 hc hs (zy hr hk he)];rfl
     ·by_cases heq:e.epoch = (cF p.tasks xs n).epoch
      ·by_cases hlt:e.task < p.tasks.length
       ·obtain⟨t,ht⟩:=af (xs:=p.tasks) (n:=e.task.toNat) OM
        obtain⟨y,hy⟩:=af (xs:=(cF p.tasks xs n).results) (n:=e.task.toNat) OM
        by_cases hye:y = emp
        ·obtain⟨_,_,a3,a4⟩:=bZ h ht
         have cd:=iU (cF p.tasks xs n).results t.deps (fun d hd=>by have:=a4 d hd;omega) OM
         by_cases hrd:cU (cF p.tasks xs n).results t.deps
         ·rw[decide_eq_true hrd]at cd
          obtain⟨hc2,e1⟩:=n6 hc hs (AY hr hk heq hlt hy hye ht hrd)
          conv=>whnf
          refine g 0 0 []<|J UA<|W.sq<|W.cn<|J (fun _=>(W.skip (W.sq (W.blk (g 27 30 [.x (ak s0)]<|J Zb4 (g 30 35 [.call (lq (some e)) [[]]]<|J Zd3 (W.sq (g 8 9 []<|J UB (W.cn<|J (noT rfl) fun _=>(W.skip ?_)))))))))) (noF SI)
          refine W.sq<|g 35 40 []<|J UC<|W.cn<|J (noT dO) fun _=>W.skip<|W.sq<|g 63 80 [BF,BF,BF,BF,BF,BF,BF,BF,BF,BF,BF,.n (Int.toNat e.task),BF,.x (ak y),BF,BF,BF,BF,BF,BF,BF,BF,.x (ay t),BF,BF,BF,.call VT [[],[]],BF,BF] ?_
          conv=>whnf
          refine J Za8<|W.cn<|J (noT rfl) fun _=>W.skip<|rg [.n (Int.toNat e.task),.x (ak y)]<|J ⟨I,I,I,I,I,Zdo,Zeh,I⟩<|rg [.i ((n:Int) +1)]<|J Zdm ?_
          refine⟨n+1,[some 2,some 4,some 23],[],⟨rfl,⟨Zag,rfl,rfl,rfl,(congrArg (fun z=>V.t (T.v (Value.int _ z))) (by rw[e1])),rfl,rfl,rfl,rfl,rfl,rfl,I⟩,⟨Zac,⟨Zdh,⟨⟨rfl,⟨(congrArg (V.own _) (by rw[e1,List.map_set];rfl)),I⟩⟩,I⟩⟩⟩,I⟩,?_,?_⟩
          rotate_left
          (dsimp only;omega)
          dsimp only
          exact⟨by omega,hc2,by rw[e1];dsimp only;omega,by rw[e1];dsimp only;omega⟩
         ·rw[decide_eq_false hrd]at cd
          conv=>whnf
          refine g 0 0 []<|J UA<|W.sq<|W.cn<|J (fun _=>(W.skip (W.sq (W.blk (g 27 30 [.x (ak s0)]<|J Zb4 (g 30 35 [.call (lq (some e)) [[]]]<|J Zd3 (W.sq (g 8 9 []<|J UB (W.cn<|J (noT rfl) fun _=>(W.skip ?_)))))))))) (noF SI)
          refine W.sq<|g 35 40 []<|J UC<|W.cn<|J (noT dO) fun _=>W.skip<|W.sq<|g 63 80 [BF,BF,BF,BF,BF,BF,BF,BF,BF,BF,BF,.n (Int.toNat e.task),BF,.x (ak y),BF,BF,BF,BF,BF,BF,BF,BF,.x (ay t),BF,BF,BF,.call VF [[],[]],BF,BF] ?_
          conv=>whnf
          refine J Za8<|W.cn<|J (fun _=>(g 40 62 []<|J Zd5 (RT ?_))) (noF rfl)
          rw[dX h hl3 hc hs (IK hr hk ht hrd)];rfl
        ·conv=>whnf
         refine g 0 0 []<|J UA<|W.sq<|W.cn<|J (fun _=>(W.skip (W.sq (W.blk (g 27 30 [.x (ak s0)]<|J Zb4 (g 30 35 [.call (lq (some e)) [[]]]<|J Zd3 (W.sq (g 8 9 []<|J UB (W.cn<|J (noT rfl) fun _=>(W.skip ?_)))))))))) (noF SI)
         refine W.sq<|g 35 40 []<|J UC<|W.cn<|J (noT dO) fun _=>W.skip<|W.sq<|g 63 80 [BF,BF,BF,BF,BF,BF,BF,BF,BF,BF,BF,.n (Int.toNat e.task),BF,.x (ak y),BF,BF,BT,BT,BT,BT,BT,BT,BT,BT,BT,BT,BT]<|J ⟨I,I,I,I,I,⟨nO,I⟩,⟨nO,I⟩,⟨nO,I⟩,⟨nO,I⟩,⟨nO,I⟩,⟨nO,I⟩,nO,I,⟨SI,I⟩,⟨SI,I⟩,⟨SI,I⟩,⟨SI,OM,LN⟩,⟨SI,xA⟩,⟨SI,I⟩,SI,I,ag OM,ag OM,ag OM,ag OM,ag OM,ag OM,ag OM,ag OM,ag OM,ag OM,ag OM,I⟩<|W.cn<|J (fun _=>(g 40 62 []<|J Zd5 (RT ?_))) (noF rfl)
         rw[dX h hl3 hc hs (IL hr hk hy hye)];rfl
       ·conv=>whnf
        refine g 0 0 []<|J UA<|W.sq<|W.cn<|J (fun _=>(W.skip (W.sq (W.blk (g 27 30 [.x (ak s0)]<|J Zb4 (g 30 35 [.call (lq (some e)) [[]]]<|J Zd3 (W.sq (g 8 9 []<|J UB (W.cn<|J (noT rfl) fun _=>(W.skip ?_)))))))))) (noF SI)
        refine W.sq<|g 35 40 []<|J UC<|W.cn<|J (noT dO) fun _=>W.skip<|W.sq<|g 63 80 [BF,BF,BF,BF,BF,BF,BF,BT,BT,BT,BT,BT,BT,BT,BT,BT,BT,BT,BT,BT,BT,BT,BT,BT,BT]<|J ⟨I,I,I,I,I,⟨nO,I⟩,⟨nO,I⟩,⟨nO,I⟩,⟨nO,I⟩,⟨nO,I⟩,⟨nO,I⟩,nO,I,(by simp_all),(by simp_all),(by simp_all),(by simp_all),(by simp_all),(by simp_all),(by simp_all),I,rfl,rfl,rfl,rfl,rfl,rfl,rfl,rfl,rfl,rfl,rfl,I⟩<|W.cn<|J (fun _=>(g 40 62 []<|J Zd5 (RT ?_))) (noF rfl)
        rw[dX h hl3 hc hs (r9 hr hk (fun q=>hlt q.2))];rfl
      ·conv=>whnf
       refine g 0 0 []<|J UA<|W.sq<|W.cn<|J (fun _=>(W.skip (W.sq (W.blk (g 27 30 [.x (ak s0)]<|J Zb4 (g 30 35 [.call (lq (some e)) [[]]]<|J Zd3 (W.sq (g 8 9 []<|J UB (W.cn<|J (noT rfl) fun _=>(W.skip ?_)))))))))) (noF SI)
       refine W.sq<|g 35 40 []<|J UC<|W.cn<|J (noT dO) fun _=>W.skip<|W.sq<|g 63 80 [BT,BT,BT,BT,BT,BT,BT,BT,BT,BT,BT,BT,BT,BT,BT,BT,BT,BT,BT,BT,BT,BT,BT,BT,BT]<|J ⟨I,I,I,I,I,ag OM,ag OM,ag OM,ag OM,ag OM,ag OM,ag OM,I,rfl,rfl,rfl,rfl,rfl,rfl,rfl,I,rfl,rfl,rfl,rfl,rfl,rfl,rfl,rfl,rfl,rfl,rfl,I⟩<|W.cn<|J (fun _=>(g 40 62 []<|J Zd5 (RT ?_))) (noF rfl)
       rw[dX h hl3 hc hs (r9 hr hk (fun q=>heq q.1))];rfl
   ·conv=>whnf
    refine g 0 0 []<|J UA<|W.sq<|W.cn<|J (noT SI) fun _=>W.exit<|g 5 92 []<|J ⟨I,I,I,UC,I⟩<|RT ?_
    rw[zG h hl3 hc OM]
  ·refine kA ?_
   conv=>whnf
   refine g 0 0 []<|J Zdq<|W.sq<|g 13 18 [.call (V.i 0) [[]],BF,BF,BF,BF]<|J ⟨I,Zai,I,I,Zdc,Zdc,Zdc,rfl,I⟩<|W.cn<|J (fun h1=>?_) fun h1=>?_
   replace h1:=dt h1
   simp only[LM]at h1
   refine g 18 20 []<|J Zd5<|RT ?_
   rotate_left
   replace h1:=df h1
   simp only[LM]at h1
   omega
   rw[mn (fun q=>hl3 q.2)];rfl
 ·refine kA ?_
  conv=>whnf
  refine g 0 0 []<|J Zdq<|W.sq<|g 13 18 [.call (V.i (aq p.tasks)) [[]],BT,BT,BT,BT]<|J ⟨I,Zai,I,I,ag OM,ag OM,ag OM,ag OM,I⟩<|W.cn<|J (fun _=>(g 18 20 []<|J Zd5 (RT ?_))) (noF rfl)
  rw[mn (fun q=>h q.1)];rfl
theorem hJ(p:Plan)(xs:List ByteArray)(hp:dl p)(hx:∀ s∈xs,s.size≤281474976710656)(hl:xs.length≤9223372036854775806):F kv [.val (cO p),.val (.t (pZ xs))] (gc (aw p xs)) [[],[]]:=by
 have c1:=cY p hp
 by_cases h:aq p.tasks = 0
 ·obtain⟨⟨hl1,hl2⟩,_⟩:=bT h
  rw[h]at c1
  by_cases hl3:xs.length≤310
  ·refine ky ?_
   conv=>whnf
   refine g 0 0 []<|J Zdq<|W.sq<|g 10 13 [.call (V.i 0) [[]],BF,BF,BF,BF]<|J ⟨I,Zai,I,I,Zdc,Zdc,Zdc,rfl,I⟩<|W.cn<|J (fun h1=>?_) fun h1=>?_
   replace h1:=dt h1
   simp only[LM]at h1
   omega
   replace h1:=df h1
   simp only[LM]at h1
   refine W.skip<|g 14 20 []<|J ⟨I,I,UC,I⟩<|W.sq<|g 0 0 []<|J UA<|W.blk<|W.lp (fun s (n:Nat)=>⟨[(0,s.s 0),(1,s.s 1),(2,s.s 2),(4,s.s 4),(5,s.s 5),(6,.i n),(13,s.s 13)],[(2,[s.c 2 0]),(4,[s.c 4 0,s.c 4 1,s.c 4 2]),(5,[.t (.i 0),.t (.i 0),.own [false] ((List.replicate n emp).map ak)])],[]⟩) (fun(n:Nat)=>n≤p.tasks.length) (fun(n:Nat)=>p.tasks.length - n) (0) [some 2,some 4,some 5] [] ⟨rfl,Zd7,⟨Zac,⟨Zdh,Zes⟩⟩,I⟩ OM ?_
   intro n hn
   conv=>whnf
   refine W.sq<|g 20 22 []<|J UE<|W.cn<|J (fun h2=>?_) fun h2=>?_
   replace h2:=dt h2
   simp only[LM]at h2
   refine W.skip<|W.sq<|W.blk<|rg []<|J ⟨I,I,US,Zdi,I,UA,I⟩<|rg [.i ((n:Int) +1)]<|J Zdd ?_
   rotate_left
   replace h2:=df h2
   simp only[LM]at h2
   refine W.exit<|W.sq<|g 23 25 []<|J UA<|W.blk ?_
   rotate_left
   ·refine⟨n+1,[some 2,some 4,some 5],[],⟨rfl,Zd7,⟨Zac,⟨Zdh,⟨⟨rfl,⟨rfl,⟨rfl,⟨(congrArg (V.own _) (by rw[List.replicate_succ',List.map_append];rfl)),I⟩⟩⟩⟩,I⟩⟩⟩,I⟩,?_,?_⟩
    rotate_left
    (dsimp only;omega)
    dsimp only
    omega
   rw[show n = p.tasks.length by omega]
   refine W.lp (fun s (n:Nat)=>⟨[(0,s.s 0),(1,s.s 1),(2,s.s 2),(4,s.s 4),(5,s.s 5),(7,.i n),(13,s.s 13),(22,s.s 22)],[(2,[s.c 2 0]),(4,[s.c 4 0,s.c 4 1,s.c 4 2]),(5,[.t (.i 0),.t (.i (cF p.tasks xs n).epoch),.own [false] ((cF p.tasks xs n).results.map ak)])],[]⟩) (fun(n:Nat)=>n≤xs.length∧lM p.tasks xs n∧0≤(cF p.tasks xs n).epoch∧(cF p.tasks xs n).epoch≤300) (fun(n:Nat)=>xs.length - n) (0) [some 2,some 4,some 5] [] ⟨rfl,⟨⟨_,rfl,_,_,rfl,rfl,rfl⟩,rfl,rfl,rfl,rfl,rfl,rfl,rfl,I⟩,⟨⟨rfl,⟨rfl,I⟩⟩,⟨⟨rfl,⟨rfl,⟨rfl,⟨rfl,I⟩⟩⟩⟩,⟨⟨rfl,⟨rfl,⟨rfl,⟨rfl,I⟩⟩⟩⟩,I⟩⟩⟩,I⟩ ?_ ?_
   ·rw[jZ];exact⟨Nat.zero_le _,vo _ _,Int.le_refl _,by show(0:Int)≤300;omega⟩
   rintro n ⟨hn,hc,he0,he1⟩
   have hrl:=IG hc
   by_cases hn2:n < xs.length
   ·obtain⟨s0,hs⟩:=af hn2
    have hss:=hx s0 (List.mem_of_getElem? hs)
    have cr:=uj s0 hss
    cases hr:ed s0 with
    |none =>
     rw[hr]at cr
     conv=>whnf
     refine W.sq<|g 32 35 []<|J UD<|W.cn<|J (fun _=>(W.skip (W.sq (W.blk (g 35 46 [.x (ak s0),.call (lq none) [[]]]<|J Zem (W.sq (g 9 10 []<|J UB (W.cn<|J (fun _=>(g 46 49 []<|J Zd5 (RT ?_))) (noF rfl))))))))) (noF SI)
     rw[dX h hl3 hc hs (Ea hr)];rfl
    |some e =>
     rw[hr]at cr
     obtain⟨r1,r2,r3,r4⟩:=IE (ts:=p.tasks) (ju hr)
     by_cases hk:e.kind = 1
     ·by_cases he:e.epoch = (cF p.tasks xs n).epoch+1
      ·obtain⟨hc2,e1⟩:=n6 hc hs (Gl hr hk he)
       conv=>whnf
       refine W.sq<|g 32 35 []<|J UD<|W.cn<|J (fun _=>(W.skip (W.sq (W.blk (g 35 46 [.x (ak s0),.call (lq (some e)) [[]]]<|J Zem (W.sq (g 9 10 []<|J UB (W.cn<|J (noT rfl) fun _=>(W.skip (W.sq ?_)))))))))) (noF SI)
       refine g 46 51 []<|J UC<|W.cn<|J (fun _=>(W.sq (g 51 57 [.i (Tale.epoch (cF p.tasks xs n) +1)]<|J Zc7 (W.cn<|J (noT nO) fun _=>(W.skip (g 57 62 []<|J UW (W.exit (rg [.i ((n:Int) +1)]<|J Zdd ?_)))))))) (noF tO)
       refine⟨n+1,[some 2,some 4,some 5],[],⟨rfl,⟨Zag,rfl,rfl,rfl,rfl,rfl,rfl,rfl,I⟩,⟨Zac,⟨Zdh,⟨⟨rfl,⟨rfl,⟨(congrArg (fun z=>V.t (T.v (Value.int _ z))) (by rw[e1])),⟨(congrArg (V.own _) (by rw[e1])),I⟩⟩⟩⟩,I⟩⟩⟩,I⟩,?_,?_⟩
       rotate_left
       (dsimp only;omega)
       dsimp only
       exact⟨by omega,hc2,by rw[e1];dsimp only;omega,by rw[e1];dsimp only;omega⟩
      ·conv=>whnf
       refine W.sq<|g 32 35 []<|J UD<|W.cn<|J (fun _=>(W.skip (W.sq (W.blk (g 35 46 [.x (ak s0),.call (lq (some e)) [[]]]<|J Zem (W.sq (g 9 10 []<|J UB (W.cn<|J (noT rfl) fun _=>(W.skip (W.sq ?_)))))))))) (noF SI)
       refine g 46 51 []<|J UC<|W.cn<|J (fun _=>(W.sq (g 51 57 [.i (Tale.epoch (cF p.tasks xs n) +1)]<|J Zc7 (W.cn<|J (fun _=>(g 57 59 []<|J Zd5 (RT ?_))) (noF (ag OM)))))) (noF tO)
       rw[dX h hl3 hc hs (zy hr hk he)];rfl
     ·by_cases heq:e.epoch = (cF p.tasks xs n).epoch
      ·by_cases hlt:e.task < p.tasks.length
       ·obtain⟨t,ht⟩:=af (xs:=p.tasks) (n:=e.task.toNat) OM
        obtain⟨y,hy⟩:=af (xs:=(cF p.tasks xs n).results) (n:=e.task.toNat) OM
        by_cases hye:y = emp
        ·obtain⟨_,_,a3,a4⟩:=bZ h ht
         have cd:=g9 p (cF p.tasks xs n).results e.task r1 ht (fun d hd=>by have:=a4 d hd;omega) OM
         by_cases hrd:cU (cF p.tasks xs n).results t.deps
         ·rw[decide_eq_true hrd]at cd
          obtain⟨hc2,e1⟩:=n6 hc hs (AY hr hk heq hlt hy hye ht hrd)
          conv=>whnf
          refine W.sq<|g 32 35 []<|J UD<|W.cn<|J (fun _=>(W.skip (W.sq (W.blk (g 35 46 [.x (ak s0),.call (lq (some e)) [[]]]<|J Zem (W.sq (g 9 10 []<|J UB (W.cn<|J (noT rfl) fun _=>(W.skip (W.sq ?_)))))))))) (noF SI)
          refine g 46 51 []<|J UC<|W.cn<|J (noT dO) fun _=>W.skip<|W.sq<|g 63 92 [BF,BF,BF,BF,BF,BF,BF,BF,BF,BF,BF,BF,.n (Int.toNat e.task),BF,.x (ak y),BF,BF,BF,BF,BF,BF,BF,BF,.call VT [[],[],[]],BF,BF]<|J Zbe<|W.cn<|J (noT rfl) fun _=>W.skip<|rg [.n (Int.toNat e.task),.x (ak y)]<|J ⟨I,I,I,I,I,I,Zdo,Zeh,I⟩<|rg [.i ((n:Int) +1)]<|J Zdd ?_
          refine⟨n+1,[some 2,some 4,some 5],[],⟨rfl,⟨Zag,rfl,rfl,rfl,rfl,rfl,rfl,rfl,I⟩,⟨Zac,⟨Zdh,⟨⟨rfl,⟨rfl,⟨(congrArg (fun z=>V.t (T.v (Value.int _ z))) (by rw[e1])),⟨(congrArg (V.own _) (by rw[e1,List.map_set];rfl)),I⟩⟩⟩⟩,I⟩⟩⟩,I⟩,?_,?_⟩
          rotate_left
          (dsimp only;omega)
          dsimp only
          exact⟨by omega,hc2,by rw[e1];dsimp only;omega,by rw[e1];dsimp only;omega⟩
         ·rw[decide_eq_false hrd]at cd
          conv=>whnf
          refine W.sq<|g 32 35 []<|J UD<|W.cn<|J (fun _=>(W.skip (W.sq (W.blk (g 35 46 [.x (ak s0),.call (lq (some e)) [[]]]<|J Zem (W.sq (g 9 10 []<|J UB (W.cn<|J (noT rfl) fun _=>(W.skip (W.sq ?_)))))))))) (noF SI)
          refine g 46 51 []<|J UC<|W.cn<|J (noT dO) fun _=>W.skip<|W.sq<|g 63 92 [BF,BF,BF,BF,BF,BF,BF,BF,BF,BF,BF,BF,.n (Int.toNat e.task),BF,.x (ak y),BF,BF,BF,BF,BF,BF,BF,BF,.call VF [[],[],[]],BF,BF]<|J Zbe<|W.cn<|J (fun _=>(g 92 94 []<|J Zd5 (RT ?_))) (noF rfl)
          rw[dX h hl3 hc hs (IK hr hk ht hrd)];rfl
        ·conv=>whnf
         refine W.sq<|g 32 35 []<|J UD<|W.cn<|J (fun _=>(W.skip (W.sq (W.blk (g 35 46 [.x (ak s0),.call (lq (some e)) [[]]]<|J Zem (W.sq (g 9 10 []<|J UB (W.cn<|J (noT rfl) fun _=>(W.skip (W.sq ?_)))))))))) (noF SI)
         refine g 46 51 []<|J UC<|W.cn<|J (noT dO) fun _=>W.skip<|W.sq<|g 63 92 [BF,BF,BF,BF,BF,BF,BF,BF,BF,BF,BF,BF,.n (Int.toNat e.task),BF,.x (ak y),BF,BF,BT,BT,BT,BT,BT,BT,BT,BT]<|J ⟨I,I,I,I,I,I,⟨nO,I⟩,⟨nO,I⟩,⟨nO,I⟩,⟨nO,I⟩,⟨nO,I⟩,⟨nO,I⟩,nO,I,⟨SI,I⟩,⟨SI,I⟩,⟨SI,I⟩,⟨SI,I⟩,⟨SI,OM,LN⟩,⟨SI,xA⟩,⟨SI,I⟩,SI,I,ag OM,ag OM,ag OM,ag OM,ag OM,ag OM,ag OM,ag OM,I⟩<|W.cn<|J (fun _=>(g 92 94 []<|J Zd5 (RT ?_))) (noF rfl)
         rw[dX h hl3 hc hs (IL hr hk hy hye)];rfl
       ·conv=>whnf
        refine W.sq<|g 32 35 []<|J UD<|W.cn<|J (fun _=>(W.skip (W.sq (W.blk (g 35 46 [.x (ak s0),.call (lq (some e)) [[]]]<|J Zem (W.sq (g 9 10 []<|J UB (W.cn<|J (noT rfl) fun _=>(W.skip (W.sq ?_)))))))))) (noF SI)
        refine g 46 51 []<|J UC<|W.cn<|J (noT dO) fun _=>W.skip<|W.sq<|g 63 92 [BF,BF,BF,BF,BF,BF,BF,BT,BT,BT,BT,BT,BT,BT,BT,BT,BT,BT,BT,BT,BT,BT,BT]<|J ⟨I,I,I,I,I,I,⟨nO,I⟩,⟨nO,I⟩,⟨nO,I⟩,⟨nO,I⟩,⟨nO,I⟩,⟨nO,I⟩,nO,I,(by simp_all),(by simp_all),(by simp_all),(by simp_all),(by simp_all),(by simp_all),(by simp_all),(by simp_all),I,rfl,rfl,rfl,rfl,rfl,rfl,rfl,rfl,I⟩<|W.cn<|J (fun _=>(g 92 94 []<|J Zd5 (RT ?_))) (noF rfl)
        rw[dX h hl3 hc hs (r9 hr hk (fun q=>hlt q.2))];rfl
      ·conv=>whnf
       refine W.sq<|g 32 35 []<|J UD<|W.cn<|J (fun _=>(W.skip (W.sq (W.blk (g 35 46 [.x (ak s0),.call (lq (some e)) [[]]]<|J Zem (W.sq (g 9 10 []<|J UB (W.cn<|J (noT rfl) fun _=>(W.skip (W.sq ?_)))))))))) (noF SI)
       refine g 46 51 []<|J UC<|W.cn<|J (noT dO) fun _=>W.skip<|W.sq<|g 63 92 [BT,BT,BT,BT,BT,BT,BT,BT,BT,BT,BT,BT,BT,BT,BT,BT,BT,BT,BT,BT,BT,BT,BT]<|J ⟨I,I,I,I,I,I,ag OM,ag OM,ag OM,ag OM,ag OM,ag OM,ag OM,I,rfl,rfl,rfl,rfl,rfl,rfl,rfl,rfl,I,rfl,rfl,rfl,rfl,rfl,rfl,rfl,rfl,I⟩<|W.cn<|J (fun _=>(g 92 94 []<|J Zd5 (RT ?_))) (noF rfl)
       rw[dX h hl3 hc hs (r9 hr hk (fun q=>heq q.1))];rfl
   ·conv=>whnf
    refine W.sq<|g 32 35 []<|J UD<|W.cn<|J (noT SI) fun _=>W.exit<|g 5 102 []<|J Zd5<|RT ?_
    rw[zG h hl3 hc OM]
  ·refine ky ?_
   conv=>whnf
   refine g 0 0 []<|J Zdq<|W.sq<|g 10 13 [.call (V.i 0) [[]],BF,BF,BF,BF]<|J ⟨I,Zai,I,I,Zdc,Zdc,Zdc,rfl,I⟩<|W.cn<|J (fun h1=>?_) fun h1=>?_
   replace h1:=dt h1
   simp only[LM]at h1
   refine g 14 19 []<|J Zd5<|RT ?_
   rotate_left
   replace h1:=df h1
   simp only[LM]at h1
   omega
   rw[mn (fun q=>hl3 q.2)];rfl
 ·refine ky ?_
  conv=>whnf
  refine g 0 0 []<|J Zdq<|W.sq<|g 10 13 [.call (V.i (aq p.tasks)) [[]],BT,BT,BT,BT]<|J ⟨I,Zai,I,I,ag OM,ag OM,ag OM,ag OM,I⟩<|W.cn<|J (fun _=>(g 14 19 []<|J Zd5 (RT ?_))) (noF rfl)
  rw[mn (fun q=>h q.1)];rfl
end Go.K
end
section
open Go Go.Tm Go.Proofs
namespace Go.K
def gA(w:Worker):Prop:=(1≤w.lease∧w.lease≤300000000)∧(0≤w.task∧w.task≤39)
def eX(w:Worker):Prop:=w.state = 0∧w.lease = 0∧w.task = 0∧w.cost = 0∧w.left = 0∧(w.inputs.length:Int) = 0∧w.text = emp
def eb(w:Worker):Prop:=w.state = 1∧gA w∧(1≤w.cost∧w.cost≤20)∧(1≤w.left∧w.left≤w.cost)∧eE w.inputs∧w.text = emp
def eW(w:Worker):Prop:=w.state = 2∧gA w∧w.cost = 0∧w.left = 0∧(w.inputs.length:Int) = 0∧(w.text.size:Int) = 8
def av(w:Worker):Prop:=(1≤w.number∧w.number≤8)∧(1≤w.epoch∧w.epoch≤300)∧(0≤w.since∧w.since≤1000000)∧(w.up = true∨(w.state = 0∧w.since = 0))∧(eX w∨eb w∨eW w)
instance (w:Worker):Decidable (av w):=by unfold av eX eb eW gA;infer_instance
theorem eA(w:Worker)(hl:w.inputs.length≤9223372036854775806):F pz [.val (dS w)] (.b (decide (av w))) [[]]:=by
 refine pK ?_
 conv=>whnf
 refine g 0 1 []<|J Zd6<|W.sq ?_
 by_cases h1:(1:Int)≤Worker.number w∧Worker.number w≤(8:Int)
 by_cases h2:(1:Int)≤Worker.epoch w∧Worker.epoch w≤(300:Int)
 refine g 14 17 [.call (V.b (decide (1≤w.number∧w.number≤8))) [[],[],[]],BF,BF,BF,.call (V.b (decide (1≤w.epoch∧w.epoch≤300))) [[],[],[]],BF,BF,BF,BF,BF,.call (V.b (decide (0≤w.since∧w.since≤1000000))) [[],[],[]],BF,BF]<|J ⟨I,I,⟨UC,I,UU,UA,aa _ _ _⟩,I,I,⟨nO,I⟩,⟨nO,I⟩,⟨nO,UC,I,UU,UA,aa _ _ _⟩,⟨nO,I⟩,nO,I,⟨nO,I⟩,⟨nO,I⟩,⟨nO,UC,I,UU,UA,aa _ _ _⟩,⟨nO,I⟩,nO,I⟩<|W.cn<|J (fun h3=>?_) fun h3=>?_
 replace h3:=ndt h3
 refine g 9 11 []<|J UA<|RT ?_
 rotate_left
 replace h3:=ndf h3
 refine W.skip<|W.sq ?_
 by_cases h4:Worker.up w = true
 refine g 25 32 [BF,BF,BF,BF,BF,BF,BF,BF,BF]<|J ⟨I,I,I,I,nbF AS,nbF AS,nbF AS,nbF AS,I,I,I,nbF AS,nbF AS,I⟩<|W.cn<|J (noT rfl) fun _=>W.skip ?_
 by_cases h5:(1:Int)≤Worker.lease w∧Worker.lease w≤(300000000:Int)
 refine g 32 41 [.call (V.b (decide (1≤w.lease∧w.lease≤300000000))) [[],[],[]],BT,BT,BT,.call (V.b (decide (0≤w.task∧w.task≤39))) [[],[],[]],BT]<|J ⟨I,I,⟨UC,I,UU,UA,aa _ _ _⟩,I,⟨tO,I⟩,⟨tO,I⟩,⟨tO,UC,I,UU,UA,aa _ _ _⟩,tO,I,I⟩<|W.sq<|g 19 24 []<|J UB<|W.blk<|g 9 11 []<|J UB<|W.cn<|J (fun h6=>?_) fun h6=>?_
 replace h6:=dt h6
 refine g 5 74 [BF,BF,BF,BF,BF,BF,BF,BF,BF,BF,BF,BF,BF,BF,BF,BF,BF,BF,BF,BF,BF]<|J Za7<|RT ?_
 rotate_left
 replace h6:=df h6
 refine g 7 9 []<|J UB<|W.cn<|J (fun h7=>?_) fun h7=>?_
 replace h7:=dt h7
 by_cases h8:(0:Int)≤Worker.task w∧Worker.task w≤(39:Int)
 by_cases h9:(1:Int)≤Worker.cost w∧Worker.cost w≤(20:Int)
 by_cases h10:(1:Int)≤Worker.left w∧Worker.left w≤Worker.cost w
 by_cases h11:eE (Worker.inputs w)
 refine g 5 99 [BT,BT,BT,.call (V.b (decide (1≤w.cost∧w.cost≤20))) [[],[],[]],BT,BT,BT,BT,BT,BT,.call (V.b (decide (1≤w.left∧w.left≤w.cost))) [[],[],[]],BT,BT,BT,BT,.call (V.b (decide (eE w.inputs))) [[]],BT,BT,BT,BT,BT]<|J ⟨I,I,⟨tO,I⟩,⟨tO,I⟩,⟨tO,UC,I,UU,UA,aa _ _ _⟩,tO,I,⟨tO,I⟩,⟨tO,I⟩,⟨tO,I⟩,⟨tO,I⟩,⟨tO,UC,I,UU,UA,aa _ _ _⟩,tO,I,⟨tO,I⟩,⟨tO,I⟩,⟨tO,UA,I,US,UA,hL _ OM⟩,tO,I,⟨tO,I⟩,⟨tO,I⟩,⟨tO,I⟩,tO,I,I⟩<|RT ?_
 rotate_left
 refine g 5 99 [BT,BT,BT,.call (V.b (decide (1≤w.cost∧w.cost≤20))) [[],[],[]],BT,BT,BT,BT,BT,BT,.call (V.b (decide (1≤w.left∧w.left≤w.cost))) [[],[],[]],BT,BT,BT,BT,.call (V.b (decide (eE w.inputs))) [[]],BT,BF,BF,BF,BF]<|J ⟨I,I,⟨tO,I⟩,⟨tO,I⟩,⟨tO,UC,I,UU,UA,aa _ _ _⟩,tO,I,⟨tO,I⟩,⟨tO,I⟩,⟨tO,I⟩,⟨tO,I⟩,⟨tO,UC,I,UU,UA,aa _ _ _⟩,tO,I,⟨tO,I⟩,⟨tO,I⟩,⟨tO,UA,I,US,UA,hL _ OM⟩,tO,I,dO,dO,dO,dO,I,I⟩<|RT ?_
 rotate_left
 refine g 5 99 [BT,BT,BT,.call (V.b (decide (1≤w.cost∧w.cost≤20))) [[],[],[]],BT,BT,BT,BT,BT,BT,.call (V.b (decide (1≤w.left∧w.left≤w.cost))) [[],[],[]],BT,BF,BF,BF,BF,BF,BF,BF,BF]<|J ⟨I,I,⟨tO,I⟩,⟨tO,I⟩,⟨tO,UC,I,UU,UA,aa _ _ _⟩,tO,I,⟨tO,I⟩,⟨tO,I⟩,⟨tO,I⟩,⟨tO,I⟩,⟨tO,UC,I,UU,UA,aa _ _ _⟩,tO,I,dO,dO,dO,dO,I,rfl,rfl,rfl,rfl,I,I⟩<|RT ?_
 rotate_left
 refine g 5 99 [BT,BT,BT,.call (V.b (decide (1≤w.cost∧w.cost≤20))) [[],[],[]],BT,BF,BF,BF,BF,BF,BF,BF,BF,BF,BF,BF,BF,BF,BF]<|J ⟨I,I,⟨tO,I⟩,⟨tO,I⟩,⟨tO,UC,I,UU,UA,aa _ _ _⟩,tO,I,dO,dO,dO,dO,dO,dO,I,rfl,rfl,rfl,rfl,I,rfl,rfl,rfl,rfl,I,I⟩<|RT ?_
 rotate_left
 refine g 5 99 [BF,BF,BF,BF,BF,BF,BF,BF,BF,BF,BF,BF,BF,BF,BF,BF,BF,BF]<|J ⟨I,I,dO,dO,dO,dO,I,rfl,rfl,rfl,rfl,rfl,rfl,I,rfl,rfl,rfl,rfl,I,rfl,rfl,rfl,rfl,I,I⟩<|RT ?_
 rotate_left
 replace h7:=df h7
 refine g 18 76 []<|J UB<|W.cn<|J (fun h8=>?_) fun h8=>?_
 replace h8:=dt h8
 by_cases h9:(0:Int)≤Worker.task w∧Worker.task w≤(39:Int)
 by_cases h10:Worker.cost w = (0:Int)
 by_cases h11:Worker.left w = (0:Int)
 by_cases h12:(↑(List.length (List.map ak (Worker.inputs w))):Int) = (0:Int)
 simp only[LM]at h12
 refine g 5 124 [BT,BT,BT,BT,BT,BT,BT,BT,BT,BT,BT,BT,BT,BT,BT,BT,BT,BT]<|J ⟨I,I,⟨tO,I⟩,⟨tO,I⟩,⟨tO,I⟩,tO,I,⟨tO,I⟩,⟨tO,I⟩,⟨tO,I⟩,tO,I,⟨tO,I⟩,⟨tO,I⟩,⟨tO,I⟩,⟨tO,I⟩,tO,I,⟨SI,I⟩,⟨SI,I⟩,⟨SI,I⟩,⟨SI,I⟩,SI,I,I⟩<|RT ?_
 rotate_left
 simp only[LM]at h12
 refine g 5 124 [BT,BT,BT,BT,BT,BT,BT,BT,BT,BT,BT,BT,BT,BF,BF,BF,BF,BF]<|J ⟨I,I,⟨tO,I⟩,⟨tO,I⟩,⟨tO,I⟩,tO,I,⟨tO,I⟩,⟨tO,I⟩,⟨tO,I⟩,tO,I,⟨tO,I⟩,⟨tO,I⟩,⟨tO,I⟩,⟨tO,I⟩,tO,I,(by simp_all),(by simp_all),(by simp_all),(by simp_all),(by simp_all),I,I⟩<|RT ?_
 rotate_left
 refine g 5 124 [BT,BT,BT,BT,BT,BT,BT,BT,BF,BF,BF,BF,BF,BF,BF,BF,BF,BF]<|J ⟨I,I,⟨tO,I⟩,⟨tO,I⟩,⟨tO,I⟩,tO,I,⟨tO,I⟩,⟨tO,I⟩,⟨tO,I⟩,tO,I,dO,dO,dO,dO,dO,I,rfl,rfl,rfl,rfl,rfl,I,I⟩<|RT ?_
 rotate_left
 refine g 5 124 [BT,BT,BT,BT,BF,BF,BF,BF,BF,BF,BF,BF,BF,BF,BF,BF,BF,BF]<|J ⟨I,I,⟨tO,I⟩,⟨tO,I⟩,⟨tO,I⟩,tO,I,dO,dO,dO,dO,I,rfl,rfl,rfl,rfl,rfl,I,rfl,rfl,rfl,rfl,rfl,I,I⟩<|RT ?_
 rotate_left
 refine g 5 124 [BF,BF,BF,BF,BF,BF,BF,BF,BF,BF,BF,BF,BF,BF,BF,BF,BF,BF]<|J ⟨I,I,dO,dO,dO,dO,I,rfl,rfl,rfl,rfl,I,rfl,rfl,rfl,rfl,rfl,I,rfl,rfl,rfl,rfl,rfl,I,I⟩<|RT ?_
 rotate_left
 replace h8:=df h8
 refine W.skip<|g 5 101 []<|J UA<|RT ?_
 rotate_left
 refine g 32 41 [.call (V.b (decide (1≤w.lease∧w.lease≤300000000))) [[],[],[]],BF,BF,BF,BF]<|J ⟨I,I,⟨UC,I,UU,UA,aa _ _ _⟩,I,dO,dO,dO,dO,I,I⟩<|W.sq<|g 19 24 []<|J UB<|W.blk<|g 9 11 []<|J UB<|W.cn<|J (fun h6=>?_) fun h6=>?_
 replace h6:=dt h6
 by_cases h7:Worker.lease w = (0:Int)
 by_cases h8:Worker.task w = (0:Int)
 by_cases h9:Worker.cost w = (0:Int)
 by_cases h10:Worker.left w = (0:Int)
 by_cases h11:(↑(List.length (List.map ak (Worker.inputs w))):Int) = (0:Int)
 simp only[LM]at h11
 refine g 5 74 [BT,BT,BT,BT,BT,BT,BT,BT,BT,BT,BT,BT,BT,BT,BT,BT,BT,BT,BT,BT,BT]<|J Zau<|RT ?_
 rotate_left
 simp only[LM]at h11
 refine g 5 74 [BT,BT,BT,BT,BT,BT,BT,BT,BT,BT,BT,BT,BT,BT,BT,BT,BT,BF,BF,BF,BF]<|J ⟨I,I,I,I,⟨tO,I⟩,⟨tO,I⟩,⟨tO,I⟩,tO,I,⟨tO,I⟩,⟨tO,I⟩,⟨tO,I⟩,tO,I,⟨tO,I⟩,⟨tO,I⟩,⟨tO,I⟩,tO,I,⟨tO,I⟩,⟨tO,I⟩,⟨tO,I⟩,⟨tO,I⟩,tO,I,(by simp_all),(by simp_all),(by simp_all),(by simp_all),I,I⟩<|RT ?_
 rotate_left
 refine g 5 74 [BT,BT,BT,BT,BT,BT,BT,BT,BT,BT,BT,BT,BF,BF,BF,BF,BF,BF,BF,BF,BF]<|J Za1<|RT ?_
 rotate_left
 refine g 5 74 [BT,BT,BT,BT,BT,BT,BT,BT,BF,BF,BF,BF,BF,BF,BF,BF,BF,BF,BF,BF,BF]<|J Zbc<|RT ?_
 rotate_left
 refine g 5 74 [BT,BT,BT,BT,BF,BF,BF,BF,BF,BF,BF,BF,BF,BF,BF,BF,BF,BF,BF,BF,BF]<|J Zbn<|RT ?_
 rotate_left
 refine g 5 74 [BF,BF,BF,BF,BF,BF,BF,BF,BF,BF,BF,BF,BF,BF,BF,BF,BF,BF,BF,BF,BF]<|J Za7<|RT ?_
 rotate_left
 replace h6:=df h6
 refine g 7 9 []<|J UB<|W.cn<|J (fun h7=>?_) fun h7=>?_
 replace h7:=dt h7
 refine g 5 99 [BF,BF,BF,BF,BF,BF,BF,BF,BF,BF,BF,BF,BF,BF,BF,BF,BF,BF]<|J ⟨I,I,rfl,rfl,rfl,rfl,I,rfl,rfl,rfl,rfl,rfl,rfl,I,rfl,rfl,rfl,rfl,I,rfl,rfl,rfl,rfl,I,I⟩<|RT ?_
 rotate_left
 replace h7:=df h7
 refine g 18 76 []<|J UB<|W.cn<|J (fun h8=>?_) fun h8=>?_
 replace h8:=dt h8
 refine g 5 124 [BF,BF,BF,BF,BF,BF,BF,BF,BF,BF,BF,BF,BF,BF,BF,BF,BF,BF]<|J ⟨I,I,rfl,rfl,rfl,rfl,I,rfl,rfl,rfl,rfl,I,rfl,rfl,rfl,rfl,rfl,I,rfl,rfl,rfl,rfl,rfl,I,I⟩<|RT ?_
 rotate_left
 replace h8:=df h8
 refine W.skip<|g 5 101 []<|J UA<|RT ?_
 rotate_left
 replace h4:=Bool.eq_false_iff.2 h4
 by_cases h5:Worker.state w = (0:Int)
 refine g 25 32 [BT,BT,BT,BT,BF,BF,BF,BT,BF,BT]<|J Zco<|W.cn<|J (fun h6=>?_) fun h6=>?_
 replace h6:=ndt h6
 refine g 19 24 []<|J UA<|RT ?_
 rotate_left
 replace h6:=ndf h6
 refine W.skip ?_
 by_cases h7:(1:Int)≤Worker.lease w∧Worker.lease w≤(300000000:Int)
 refine g 32 41 [.call (V.b (decide (1≤w.lease∧w.lease≤300000000))) [[],[],[]],BT,BT,BT,.call (V.b (decide (0≤w.task∧w.task≤39))) [[],[],[]],BT]<|J ⟨I,I,⟨UC,I,UU,UA,aa _ _ _⟩,I,⟨tO,I⟩,⟨tO,I⟩,⟨tO,UC,I,UU,UA,aa _ _ _⟩,tO,I,I⟩<|W.sq<|g 19 24 []<|J UB<|W.blk<|g 9 11 []<|J UB<|W.cn<|J (fun _=>(g 5 74 [BF,BF,BF,BF,BF,BF,BF,BF,BF,BF,BF,BF,BF,BF,BF,BF,BF,BF,BF,BF,BF]<|J Za7 (RT ?_))) (noF tO)
 rotate_left
 refine g 32 41 [.call (V.b (decide (1≤w.lease∧w.lease≤300000000))) [[],[],[]],BF,BF,BF,BF]<|J ⟨I,I,⟨UC,I,UU,UA,aa _ _ _⟩,I,dO,dO,dO,dO,I,I⟩<|W.sq<|g 19 24 []<|J UB<|W.blk<|g 9 11 []<|J UB<|W.cn<|J (fun _=>?_) (noF tO)
 by_cases h8:Worker.lease w = (0:Int)
 by_cases h9:Worker.task w = (0:Int)
 by_cases h10:Worker.cost w = (0:Int)
 by_cases h11:Worker.left w = (0:Int)
 by_cases h12:(↑(List.length (List.map ak (Worker.inputs w))):Int) = (0:Int)
 simp only[LM]at h12
 refine g 5 74 [BT,BT,BT,BT,BT,BT,BT,BT,BT,BT,BT,BT,BT,BT,BT,BT,BT,BT,BT,BT,BT]<|J Zau<|RT ?_
 rotate_left
 simp only[LM]at h12
 refine g 5 74 [BT,BT,BT,BT,BT,BT,BT,BT,BT,BT,BT,BT,BT,BT,BT,BT,BT,BF,BF,BF,BF]<|J ⟨I,I,I,I,⟨tO,I⟩,⟨tO,I⟩,⟨tO,I⟩,tO,I,⟨tO,I⟩,⟨tO,I⟩,⟨tO,I⟩,tO,I,⟨tO,I⟩,⟨tO,I⟩,⟨tO,I⟩,tO,I,⟨tO,I⟩,⟨tO,I⟩,⟨tO,I⟩,⟨tO,I⟩,tO,I,(by simp_all),(by simp_all),(by simp_all),(by simp_all),I,I⟩<|RT ?_
 rotate_left
 refine g 5 74 [BT,BT,BT,BT,BT,BT,BT,BT,BT,BT,BT,BT,BF,BF,BF,BF,BF,BF,BF,BF,BF]<|J Za1<|RT ?_
 rotate_left
 refine g 5 74 [BT,BT,BT,BT,BT,BT,BT,BT,BF,BF,BF,BF,BF,BF,BF,BF,BF,BF,BF,BF,BF]<|J Zbc<|RT ?_
 rotate_left
 refine g 5 74 [BT,BT,BT,BT,BF,BF,BF,BF,BF,BF,BF,BF,BF,BF,BF,BF,BF,BF,BF,BF,BF]<|J Zbn<|RT ?_
 rotate_left
 refine g 5 74 [BF,BF,BF,BF,BF,BF,BF,BF,BF,BF,BF,BF,BF,BF,BF,BF,BF,BF,BF,BF,BF]<|J Za7<|RT ?_
 rotate_left
 refine g 25 32 [BT,BT,BT,BT,BT,BT,BT,BT,BT,BT]<|J Zcq<|W.cn<|J (fun _=>(g 19 24 []<|J UA (RT ?_))) (noF rfl)
 rotate_left
 refine g 14 17 [.call (V.b (decide (1≤w.number∧w.number≤8))) [[],[],[]],BF,BF,BF,.call (V.b (decide (1≤w.epoch∧w.epoch≤300))) [[],[],[]],BF,BF,BT,BT,BT,BT,BT]<|J ⟨I,I,⟨UC,I,UU,UA,aa _ _ _⟩,I,I,⟨nO,I⟩,⟨nO,I⟩,⟨nO,UC,I,UU,UA,aa _ _ _⟩,⟨nO,I⟩,nO,I,ag OM,ag OM,ag OM,ag OM,ag OM,I⟩<|W.cn<|J (fun _=>(g 9 11 []<|J UA (RT ?_))) (noF rfl)
 rotate_left
 refine g 14 17 [.call (V.b (decide (1≤w.number∧w.number≤8))) [[],[],[]],BT,BT,BT,BT,BT,BT,BT,BT,BT,BT]<|J ⟨I,I,⟨UC,I,UU,UA,aa _ _ _⟩,I,I,ag OM,ag OM,ag OM,ag OM,ag OM,I,rfl,rfl,rfl,rfl,rfl,I⟩<|W.cn<|J (fun _=>(g 9 11 []<|J UA (RT ?_))) (noF rfl)
 rotate_left
 all_goals (try simp only[List.length_map,decide_eq_true_eq,Bool.not_eq_true,Bool.not_eq_true',decide_eq_false_iff_not]at *)
 all_goals first
  |exact vbf (by unfold av eX eb eW gA;grind)
  |exact vbt (by unfold av eX eb eW gA;grind)
  |exact vbd (by unfold av eX eb eW gA;grind)
theorem au(w:Worker)(hl:w.inputs.length≤9223372036854775806):F pn [.val (dS w)] (.b (decide (av w))) [[]]:=by
 refine pE ?_
 conv=>whnf
 refine g 0 1 []<|J Zd6<|W.sq ?_
 by_cases h1:(1:Int)≤Worker.number w∧Worker.number w≤(8:Int)
 by_cases h2:(1:Int)≤Worker.epoch w∧Worker.epoch w≤(300:Int)
 refine g 9 13 [.call (V.b (decide (1≤w.number∧w.number≤8))) [[],[],[]],BF,BF,BF,.call (V.b (decide (1≤w.epoch∧w.epoch≤300))) [[],[],[]],BF,BF,BF,BF,BF,.call (V.b (decide (0≤w.since∧w.since≤1000000))) [[],[],[]],BF,BF]<|J ⟨I,I,⟨UC,I,UU,UA,ah _ _ _⟩,I,I,⟨nO,I⟩,⟨nO,I⟩,⟨nO,UC,I,UU,UA,ah _ _ _⟩,⟨nO,I⟩,nO,I,⟨nO,I⟩,⟨nO,I⟩,⟨nO,UC,I,UU,UA,ah _ _ _⟩,⟨nO,I⟩,nO,I⟩<|W.cn<|J (fun h3=>?_) fun h3=>?_
 replace h3:=ndt h3
 refine g 15 18 []<|J UA<|RT ?_
 rotate_left
 replace h3:=ndf h3
 refine W.skip<|W.sq ?_
 by_cases h4:Worker.up w = true
 refine g 26 31 [BF,BF,BF,BF,BF,BF,BF,BF,BF]<|J ⟨I,I,I,I,nbF AS,nbF AS,nbF AS,nbF AS,I,I,I,nbF AS,nbF AS,I⟩<|W.cn<|J (noT rfl) fun _=>W.skip<|W.sq<|g 5 8 []<|J UB<|W.blk<|g 15 18 []<|J UB<|W.cn<|J (fun h5=>?_) fun h5=>?_
 replace h5:=dt h5
 by_cases h6:Worker.lease w = (0:Int)
 by_cases h7:Worker.task w = (0:Int)
 by_cases h8:Worker.cost w = (0:Int)
 by_cases h9:Worker.left w = (0:Int)
 by_cases h10:(↑(List.length (List.map ak (Worker.inputs w))):Int) = (0:Int)
 simp only[LM]at h10
 refine g 8 65 [BT,BT,BT,BT,BT,BT,BT,BT,BT,BT,BT,BT,BT,BT,BT,BT,BT,BT,BT,BT,BT]<|J Zau<|RT ?_
 rotate_left
 simp only[LM]at h10
 refine g 8 65 [BT,BT,BT,BT,BT,BT,BT,BT,BT,BT,BT,BT,BT,BT,BT,BT,BT,BF,BF,BF,BF]<|J ⟨I,I,I,I,⟨tO,I⟩,⟨tO,I⟩,⟨tO,I⟩,tO,I,⟨tO,I⟩,⟨tO,I⟩,⟨tO,I⟩,tO,I,⟨tO,I⟩,⟨tO,I⟩,⟨tO,I⟩,tO,I,⟨tO,I⟩,⟨tO,I⟩,⟨tO,I⟩,⟨tO,I⟩,tO,I,(by simp_all),(by simp_all),(by simp_all),(by simp_all),I,I⟩<|RT ?_
 rotate_left
 refine g 8 65 [BT,BT,BT,BT,BT,BT,BT,BT,BT,BT,BT,BT,BF,BF,BF,BF,BF,BF,BF,BF,BF]<|J Za1<|RT ?_
 rotate_left
 refine g 8 65 [BT,BT,BT,BT,BT,BT,BT,BT,BF,BF,BF,BF,BF,BF,BF,BF,BF,BF,BF,BF,BF]<|J Zbc<|RT ?_
 rotate_left
 refine g 8 65 [BT,BT,BT,BT,BF,BF,BF,BF,BF,BF,BF,BF,BF,BF,BF,BF,BF,BF,BF,BF,BF]<|J Zbn<|RT ?_
 rotate_left
 refine g 8 65 [BF,BF,BF,BF,BF,BF,BF,BF,BF,BF,BF,BF,BF,BF,BF,BF,BF,BF,BF,BF,BF]<|J Za7<|RT ?_
 rotate_left
 replace h5:=df h5
 refine g 21 24 []<|J UB<|W.cn<|J (fun h6=>?_) fun h6=>?_
 replace h6:=dt h6
 by_cases h7:(1:Int)≤Worker.lease w∧Worker.lease w≤(300000000:Int)
 by_cases h8:(0:Int)≤Worker.task w∧Worker.task w≤(39:Int)
 by_cases h9:(1:Int)≤Worker.cost w∧Worker.cost w≤(20:Int)
 by_cases h10:(1:Int)≤Worker.left w∧Worker.left w≤Worker.cost w
 by_cases h11:eE (Worker.inputs w)
 refine g 8 97 [.call (V.b (decide (1≤w.lease∧w.lease≤300000000))) [[]],BT,BT,BT,.call (V.b (decide (0≤w.task∧w.task≤39))) [[],[],[]],BT,BT,BT,BT,.call (V.b (decide (1≤w.cost∧w.cost≤20))) [[],[],[]],BT,BT,BT,BT,BT,BT,.call (V.b (decide (1≤w.left∧w.left≤w.cost))) [[],[],[]],BT,BT,BT,BT,.call (V.b (decide (eE w.inputs))) [[]],BT,BT,BT,BT,BT]<|J ⟨I,I,⟨UA,I,US,UA,aA _⟩,I,⟨tO,I⟩,⟨tO,I⟩,⟨tO,UC,I,UU,UA,ah _ _ _⟩,tO,I,⟨tO,I⟩,⟨tO,I⟩,⟨tO,UC,I,UU,UA,ah _ _ _⟩,tO,I,⟨tO,I⟩,⟨tO,I⟩,⟨tO,I⟩,⟨tO,I⟩,⟨tO,UC,I,UU,UA,ah _ _ _⟩,tO,I,⟨tO,I⟩,⟨tO,I⟩,⟨tO,UA,I,US,UA,eN _ OM⟩,tO,I,⟨tO,I⟩,⟨tO,I⟩,⟨tO,I⟩,tO,I,I⟩<|RT ?_
 rotate_left
 refine g 8 97 [.call (V.b (decide (1≤w.lease∧w.lease≤300000000))) [[]],BT,BT,BT,.call (V.b (decide (0≤w.task∧w.task≤39))) [[],[],[]],BT,BT,BT,BT,.call (V.b (decide (1≤w.cost∧w.cost≤20))) [[],[],[]],BT,BT,BT,BT,BT,BT,.call (V.b (decide (1≤w.left∧w.left≤w.cost))) [[],[],[]],BT,BT,BT,BT,.call (V.b (decide (eE w.inputs))) [[]],BT,BF,BF,BF,BF]<|J ⟨I,I,⟨UA,I,US,UA,aA _⟩,I,⟨tO,I⟩,⟨tO,I⟩,⟨tO,UC,I,UU,UA,ah _ _ _⟩,tO,I,⟨tO,I⟩,⟨tO,I⟩,⟨tO,UC,I,UU,UA,ah _ _ _⟩,tO,I,⟨tO,I⟩,⟨tO,I⟩,⟨tO,I⟩,⟨tO,I⟩,⟨tO,UC,I,UU,UA,ah _ _ _⟩,tO,I,⟨tO,I⟩,⟨tO,I⟩,⟨tO,UA,I,US,UA,eN _ OM⟩,tO,I,dO,dO,dO,dO,I,I⟩<|RT ?_
 rotate_left
 refine g 8 97 [.call (V.b (decide (1≤w.lease∧w.lease≤300000000))) [[]],BT,BT,BT,.call (V.b (decide (0≤w.task∧w.task≤39))) [[],[],[]],BT,BT,BT,BT,.call (V.b (decide (1≤w.cost∧w.cost≤20))) [[],[],[]],BT,BT,BT,BT,BT,BT,.call (V.b (decide (1≤w.left∧w.left≤w.cost))) [[],[],[]],BT,BF,BF,BF,BF,BF,BF,BF,BF]<|J ⟨I,I,⟨UA,I,US,UA,aA _⟩,I,⟨tO,I⟩,⟨tO,I⟩,⟨tO,UC,I,UU,UA,ah _ _ _⟩,tO,I,⟨tO,I⟩,⟨tO,I⟩,⟨tO,UC,I,UU,UA,ah _ _ _⟩,tO,I,⟨tO,I⟩,⟨tO,I⟩,⟨tO,I⟩,⟨tO,I⟩,⟨tO,UC,I,UU,UA,ah _ _ _⟩,tO,I,dO,dO,dO,dO,I,rfl,rfl,rfl,rfl,I,I⟩<|RT ?_
 rotate_left
 refine g 8 97 [.call (V.b (decide (1≤w.lease∧w.lease≤300000000))) [[]],BT,BT,BT,.call (V.b (decide (0≤w.task∧w.task≤39))) [[],[],[]],BT,BT,BT,BT,.call (V.b (decide (1≤w.cost∧w.cost≤20))) [[],[],[]],BT,BF,BF,BF,BF,BF,BF,BF,BF,BF,BF,BF,BF,BF,BF]<|J ⟨I,I,⟨UA,I,US,UA,aA _⟩,I,⟨tO,I⟩,⟨tO,I⟩,⟨tO,UC,I,UU,UA,ah _ _ _⟩,tO,I,⟨tO,I⟩,⟨tO,I⟩,⟨tO,UC,I,UU,UA,ah _ _ _⟩,tO,I,dO,dO,dO,dO,dO,dO,I,rfl,rfl,rfl,rfl,I,rfl,rfl,rfl,rfl,I,I⟩<|RT ?_
 rotate_left
 refine g 8 97 [.call (V.b (decide (1≤w.lease∧w.lease≤300000000))) [[]],BT,BT,BT,.call (V.b (decide (0≤w.task∧w.task≤39))) [[],[],[]],BT,BF,BF,BF,BF,BF,BF,BF,BF,BF,BF,BF,BF,BF,BF,BF,BF,BF,BF]<|J ⟨I,I,⟨UA,I,US,UA,aA _⟩,I,⟨tO,I⟩,⟨tO,I⟩,⟨tO,UC,I,UU,UA,ah _ _ _⟩,tO,I,dO,dO,dO,dO,I,rfl,rfl,rfl,rfl,rfl,rfl,I,rfl,rfl,rfl,rfl,I,rfl,rfl,rfl,rfl,I,I⟩<|RT ?_
 rotate_left
 refine g 8 97 [.call (V.b (decide (1≤w.lease∧w.lease≤300000000))) [[]],BF,BF,BF,BF,BF,BF,BF,BF,BF,BF,BF,BF,BF,BF,BF,BF,BF,BF,BF,BF,BF,BF]<|J ⟨I,I,⟨UA,I,US,UA,aA _⟩,I,dO,dO,dO,dO,I,rfl,rfl,rfl,rfl,I,rfl,rfl,rfl,rfl,rfl,rfl,I,rfl,rfl,rfl,rfl,I,rfl,rfl,rfl,rfl,I,I⟩<|RT ?_
 rotate_left
 replace h6:=df h6
 refine g 25 67 []<|J UB<|W.cn<|J (fun h7=>?_) fun h7=>?_
 replace h7:=dt h7
 by_cases h8:(1:Int)≤Worker.lease w∧Worker.lease w≤(300000000:Int)
 by_cases h9:(0:Int)≤Worker.task w∧Worker.task w≤(39:Int)
 by_cases h10:(↑(ByteArray.size (Worker.text w)):Int) = (8:Int)
 by_cases h11:Worker.cost w = (0:Int)
 by_cases h12:Worker.left w = (0:Int)
 refine g 8 129 [.call (V.b (decide (1≤w.lease∧w.lease≤300000000))) [[]],BT,BT,BT,.call (V.b (decide (0≤w.task∧w.task≤39))) [[],[],[]],BT,BT,BT,BT,BT,BT,BT,BT,BT,BT,BT,BT,BT,BT,BT,BT,BT,BT,BT]<|J ⟨I,I,⟨UA,I,US,UA,aA _⟩,I,⟨tO,I⟩,⟨tO,I⟩,⟨tO,UC,I,UU,UA,ah _ _ _⟩,tO,I,⟨tO,I⟩,⟨tO,I⟩,⟨tO,I⟩,⟨tO,I⟩,tO,I,⟨tO,I⟩,⟨tO,I⟩,⟨tO,I⟩,tO,I,⟨tO,I⟩,⟨tO,I⟩,⟨tO,I⟩,tO,I,⟨tO,I⟩,⟨tO,I⟩,⟨tO,I⟩,⟨tO,I⟩,tO,I,I⟩<|RT ?_
 rotate_left
 refine g 8 129 [.call (V.b (decide (1≤w.lease∧w.lease≤300000000))) [[]],BT,BT,BT,.call (V.b (decide (0≤w.task∧w.task≤39))) [[],[],[]],BT,BT,BT,BT,BT,BT,BT,BT,BT,BT,BT,BT,BT,BT,BF,BF,BF,BF,BF]<|J ⟨I,I,⟨UA,I,US,UA,aA _⟩,I,⟨tO,I⟩,⟨tO,I⟩,⟨tO,UC,I,UU,UA,ah _ _ _⟩,tO,I,⟨tO,I⟩,⟨tO,I⟩,⟨tO,I⟩,⟨tO,I⟩,tO,I,⟨tO,I⟩,⟨tO,I⟩,⟨tO,I⟩,tO,I,⟨tO,I⟩,⟨tO,I⟩,⟨tO,I⟩,tO,I,dO,dO,dO,dO,dO,I,I⟩<|RT ?_
 rotate_left
 refine g 8 129 [.call (V.b (decide (1≤w.lease∧w.lease≤300000000))) [[]],BT,BT,BT,.call (V.b (decide (0≤w.task∧w.task≤39))) [[],[],[]],BT,BT,BT,BT,BT,BT,BT,BT,BT,BT,BF,BF,BF,BF,BF,BF,BF,BF,BF]<|J ⟨I,I,⟨UA,I,US,UA,aA _⟩,I,⟨tO,I⟩,⟨tO,I⟩,⟨tO,UC,I,UU,UA,ah _ _ _⟩,tO,I,⟨tO,I⟩,⟨tO,I⟩,⟨tO,I⟩,⟨tO,I⟩,tO,I,⟨tO,I⟩,⟨tO,I⟩,⟨tO,I⟩,tO,I,dO,dO,dO,dO,I,rfl,rfl,rfl,rfl,rfl,I,I⟩<|RT ?_
 rotate_left
 refine g 8 129 [.call (V.b (decide (1≤w.lease∧w.lease≤300000000))) [[]],BT,BT,BT,.call (V.b (decide (0≤w.task∧w.task≤39))) [[],[],[]],BT,BT,BT,BT,BT,BT,BF,BF,BF,BF,BF,BF,BF,BF,BF,BF,BF,BF,BF]<|J ⟨I,I,⟨UA,I,US,UA,aA _⟩,I,⟨tO,I⟩,⟨tO,I⟩,⟨tO,UC,I,UU,UA,ah _ _ _⟩,tO,I,⟨tO,I⟩,⟨tO,I⟩,⟨tO,I⟩,⟨tO,I⟩,tO,I,dO,dO,dO,dO,I,rfl,rfl,rfl,rfl,I,rfl,rfl,rfl,rfl,rfl,I,I⟩<|RT ?_
 rotate_left
 refine g 8 129 [.call (V.b (decide (1≤w.lease∧w.lease≤300000000))) [[]],BT,BT,BT,.call (V.b (decide (0≤w.task∧w.task≤39))) [[],[],[]],BT,BF,BF,BF,BF,BF,BF,BF,BF,BF,BF,BF,BF,BF,BF,BF,BF,BF,BF]<|J ⟨I,I,⟨UA,I,US,UA,aA _⟩,I,⟨tO,I⟩,⟨tO,I⟩,⟨tO,UC,I,UU,UA,ah _ _ _⟩,tO,I,dO,dO,dO,dO,dO,I,rfl,rfl,rfl,rfl,I,rfl,rfl,rfl,rfl,I,rfl,rfl,rfl,rfl,rfl,I,I⟩<|RT ?_
 rotate_left
 refine g 8 129 [.call (V.b (decide (1≤w.lease∧w.lease≤300000000))) [[]],BF,BF,BF,BF,BF,BF,BF,BF,BF,BF,BF,BF,BF,BF,BF,BF,BF,BF,BF,BF,BF,BF]<|J ⟨I,I,⟨UA,I,US,UA,aA _⟩,I,dO,dO,dO,dO,I,rfl,rfl,rfl,rfl,rfl,I,rfl,rfl,rfl,rfl,I,rfl,rfl,rfl,rfl,I,rfl,rfl,rfl,rfl,rfl,I,I⟩<|RT ?_
 rotate_left
 replace h7:=df h7
 refine W.skip<|g 8 99 []<|J UA<|RT ?_
 rotate_left
 replace h4:=Bool.eq_false_iff.2 h4
 by_cases h5:Worker.state w = (0:Int)
 refine g 26 31 [BT,BT,BT,BT,BF,BF,BF,BT,BF,BT]<|J Zco<|W.cn<|J (fun h6=>?_) fun h6=>?_
 replace h6:=ndt h6
 refine g 5 8 []<|J UA<|RT ?_
 rotate_left
 replace h6:=ndf h6
 refine W.skip<|W.sq<|g 5 8 []<|J UB<|W.blk<|g 15 18 []<|J UB<|W.cn<|J (fun _=>?_) (noF tO)
 by_cases h7:Worker.lease w = (0:Int)
 by_cases h8:Worker.task w = (0:Int)
 by_cases h9:Worker.cost w = (0:Int)
 by_cases h10:Worker.left w = (0:Int)
 by_cases h11:(↑(List.length (List.map ak (Worker.inputs w))):Int) = (0:Int)
 simp only[LM]at h11
 refine g 8 65 [BT,BT,BT,BT,BT,BT,BT,BT,BT,BT,BT,BT,BT,BT,BT,BT,BT,BT,BT,BT,BT]<|J Zau<|RT ?_
 rotate_left
 simp only[LM]at h11
 refine g 8 65 [BT,BT,BT,BT,BT,BT,BT,BT,BT,BT,BT,BT,BT,BT,BT,BT,BT,BF,BF,BF,BF]<|J ⟨I,I,I,I,⟨tO,I⟩,⟨tO,I⟩,⟨tO,I⟩,tO,I,⟨tO,I⟩,⟨tO,I⟩,⟨tO,I⟩,tO,I,⟨tO,I⟩,⟨tO,I⟩,⟨tO,I⟩,tO,I,⟨tO,I⟩,⟨tO,I⟩,⟨tO,I⟩,⟨tO,I⟩,tO,I,(by simp_all),(by simp_all),(by simp_all),(by simp_all),I,I⟩<|RT ?_
 rotate_left
 refine g 8 65 [BT,BT,BT,BT,BT,BT,BT,BT,BT,BT,BT,BT,BF,BF,BF,BF,BF,BF,BF,BF,BF]<|J Za1<|RT ?_
 rotate_left
 refine g 8 65 [BT,BT,BT,BT,BT,BT,BT,BT,BF,BF,BF,BF,BF,BF,BF,BF,BF,BF,BF,BF,BF]<|J Zbc<|RT ?_
 rotate_left
 refine g 8 65 [BT,BT,BT,BT,BF,BF,BF,BF,BF,BF,BF,BF,BF,BF,BF,BF,BF,BF,BF,BF,BF]<|J Zbn<|RT ?_
 rotate_left
 refine g 8 65 [BF,BF,BF,BF,BF,BF,BF,BF,BF,BF,BF,BF,BF,BF,BF,BF,BF,BF,BF,BF,BF]<|J Za7<|RT ?_
 rotate_left
 refine g 26 31 [BT,BT,BT,BT,BT,BT,BT,BT,BT,BT]<|J Zcq<|W.cn<|J (fun _=>(g 5 8 []<|J UA (RT ?_))) (noF rfl)
 rotate_left
 refine g 9 13 [.call (V.b (decide (1≤w.number∧w.number≤8))) [[],[],[]],BF,BF,BF,.call (V.b (decide (1≤w.epoch∧w.epoch≤300))) [[],[],[]],BF,BF,BT,BT,BT,BT,BT]<|J ⟨I,I,⟨UC,I,UU,UA,ah _ _ _⟩,I,I,⟨nO,I⟩,⟨nO,I⟩,⟨nO,UC,I,UU,UA,ah _ _ _⟩,⟨nO,I⟩,nO,I,ag OM,ag OM,ag OM,ag OM,ag OM,I⟩<|W.cn<|J (fun _=>(g 15 18 []<|J UA (RT ?_))) (noF rfl)
 rotate_left
 refine g 9 13 [.call (V.b (decide (1≤w.number∧w.number≤8))) [[],[],[]],BT,BT,BT,BT,BT,BT,BT,BT,BT,BT]<|J ⟨I,I,⟨UC,I,UU,UA,ah _ _ _⟩,I,I,ag OM,ag OM,ag OM,ag OM,ag OM,I,rfl,rfl,rfl,rfl,rfl,I⟩<|W.cn<|J (fun _=>(g 15 18 []<|J UA (RT ?_))) (noF rfl)
 rotate_left
 all_goals (try simp only[List.length_map,decide_eq_true_eq,Bool.not_eq_true,Bool.not_eq_true',decide_eq_false_iff_not]at *)
 all_goals first
  |exact vbf (by unfold av eX eb eW gA;grind)
  |exact vbt (by unfold av eX eb eW gA;grind)
  |exact vbd (by unfold av eX eb eW gA;grind)
end Go.K
end
section
open Go Go.Tm Go.Proofs
namespace Go.K
theorem pc(w:Worker)(s:Int):F oM [.val (dS w),.val (.i s)] (aC ⟨w.number,w.epoch,w.up,0,0,0,0,0,[],emp,s⟩) [[],[]]:=by
 refine oX ?_
 conv=>whnf
 refine g 0 0 []<|J Zd6<|g 5 13 []<|J ⟨I,I,I,I,I,I,I,I,UK,I⟩<|RT ?_
 rfl
theorem iI(w:Worker)(s:Int):F nL [.val (dS w),.val (.i s)] (aC ⟨w.number,w.epoch,w.up,0,0,0,0,0,[],emp,s⟩) [[],[]]:=by
 refine nN ?_
 conv=>whnf
 refine g 0 0 []<|J Zd6<|g 5 13 []<|J ⟨I,I,I,I,I,I,I,I,UK,I⟩<|RT ?_
 rfl
theorem eG(xs:List ByteArray)(hl:xs.length≤1048576):F Fx [.val (.t (pZ xs))] (.own [false] (xs.map ak)) [[]]:=by
 refine FQ ?_
 conv=>whnf
 refine g 0 0 []<|J UA<|g 3 6 []<|J ⟨I,I,Zdi,I,I⟩<|RT ?_
 rfl
theorem aD(w:Worker)(hl:w.inputs.length≤1048576):F BB [.val (dS w)] (aC w) [[]]:=by
 refine Ci ?_
 conv=>whnf
 refine g 0 1 []<|J Zd6<|g 3 8 []<|J Zcc<|g 1 2 []<|J Zec<|RT ?_
 rfl
theorem fP(w:Worker)(hl:w.inputs.length≤1048576):F pv [.val (dS w)] (aC w) [[]]:=by
 refine pJ ?_
 conv=>whnf
 refine g 0 1 []<|J Zd6<|g 3 7 [.call (V.own [false] (List.map ak w.inputs)) [[]]]<|J ⟨I,I,⟨UA,I,US,UA,eG _ OM⟩,I,UA,I⟩<|g 1 2 []<|J Zec<|RT ?_
 rfl
def n4(w:Worker):Worker:=if av w then⟨w.number,w.epoch,false,0,0,0,0,0,[],emp,0⟩else iw
def ll(w:Worker):Worker:=if av w then(if w.up = true∨300≤w.epoch then w else⟨w.number,w.epoch+1,true,0,0,0,0,0,[],emp,3⟩)else iw
theorem MI{w:Worker}(h:¬av w):n4 w = iw:=if_neg h
theorem MH{w:Worker}(h:av w):n4 w = ⟨w.number,w.epoch,false,0,0,0,0,0,[],emp,0⟩:=if_pos h
theorem rx(w:Worker)(hl:w.inputs.length≤1048576):F qX [.val (dS w)] (aC (n4 w)) [[]]:=by
 refine rf ?_
 conv=>whnf
 refine g 0 1 []<|J Zd6<|W.sq<|g 3 5 [.call (V.b (decide (av w))) [[]]]<|J ⟨I,⟨UA,I,⟨UK,I⟩,UA,eA _ OM⟩,I,I⟩<|W.cn<|J (fun h1=>?_) fun h1=>?_
 replace h1:=ndt h1
 refine g 5 7 []<|J Zec<|RT ?_
 rotate_left
 replace h1:=ndf h1
 refine W.skip<|g 5 9 [.call (aC {number:=w.number,epoch:=w.epoch,up:=w.up,state:=0,lease:=0,task:=0,cost:=0,left:=0,inputs:=[],text:=emp,since:=0:Worker}) [[],[]]]<|J ⟨I,⟨UB,I,⟨UK,UA,I⟩,UA,iI _ _⟩,UK,I⟩<|g 9 10 []<|J UV<|g 1 2 []<|J Zec<|RT ?_
 rotate_left
 ·exact congrArg aC (Eq.symm (MI h1))
 ·exact congrArg aC (Eq.symm (MH h1))
theorem rp(w:Worker)(hl:w.inputs.length≤1048576):F qR [.val (dS w)] (aC (n4 w)) [[]]:=by
 refine ra ?_
 conv=>whnf
 refine g 0 1 []<|J Zd6<|W.sq<|g 4 6 [.call (V.b (decide (av w))) [[]]]<|J ⟨I,⟨UA,I,⟨UK,I⟩,UA,au _ OM⟩,I,I⟩<|W.cn<|J (fun h1=>?_) fun h1=>?_
 replace h1:=ndt h1
 refine g 6 8 []<|J Zec<|RT ?_
 rotate_left
 replace h1:=ndf h1
 refine W.skip<|g 6 10 [.call (aC {number:=w.number,epoch:=w.epoch,up:=w.up,state:=0,lease:=0,task:=0,cost:=0,left:=0,inputs:=[],text:=emp,since:=0:Worker}) [[],[]]]<|J ⟨I,⟨UB,I,⟨UK,UA,I⟩,UA,pc _ _⟩,I,UK,I⟩<|g 1 2 []<|J UV<|g 3 12 []<|J Zec<|RT ?_
 rotate_left
 ·exact congrArg aC (Eq.symm (MI h1))
 ·exact congrArg aC (Eq.symm (MH h1))
theorem I9{w:Worker}(h:av w):1≤w.epoch∧w.epoch≤300:=h.2.1
theorem L4{w:Worker}(h:¬av w):ll w = iw:=if_neg h
theorem od{w:Worker}(h:av w)(h1:w.up = true∨300≤w.epoch):ll w = w:=by rw[ll,if_pos h,if_pos h1]
theorem L3{w:Worker}(h:av w)(h1:¬(w.up = true∨300≤w.epoch)):ll w = ⟨w.number,w.epoch+1,true,0,0,0,0,0,[],emp,3⟩:=by rw[ll,if_pos h,if_neg h1]
theorem rv(w:Worker)(hl:w.inputs.length≤1048576):F qW [.val (dS w)] (aC (ll w)) [[]]:=by
 by_cases h:av w
 ·have he:=I9 h
  refine jX ?_
  conv=>whnf
  refine g 0 0 []<|J Zd6<|W.sq<|g 3 5 [.call (V.b (decide (av w))) [[]]]<|J ⟨I,⟨UA,I,⟨UK,I⟩,UA,eA _ OM⟩,I,I⟩<|W.cn<|J (noT nO) fun _=>W.skip<|W.sq ?_
  by_cases h1:Worker.up w = true
  refine g 5 10 [BT,BT,BT,BT]<|J ⟨I,I,I,AS,AS,AS,AS,I⟩<|W.cn<|J (fun _=>(g 11 16 [.call (aC w) [[]]]<|J ⟨I,⟨UA,I,⟨UK,I⟩,UA,fP _ OM⟩,UK,I⟩ (RT ?_))) (noF rfl)
  rotate_left
  replace h1:=Bool.eq_false_iff.2 h1
  refine g 5 10 [BF,BF,BF,BF]<|J ⟨I,I,I,⟨AS,I⟩,⟨AS,I⟩,⟨AS,I⟩,AS,I⟩<|W.cn<|J (fun h2=>?_) fun h2=>?_
  replace h2:=dt h2
  refine g 11 16 [.call (aC w) [[]]]<|J ⟨I,⟨UA,I,⟨UK,I⟩,UA,fP _ OM⟩,UK,I⟩<|RT ?_
  rotate_left
  replace h2:=df h2
  refine W.skip<|g 10 22 [.i (w.epoch+1)]<|J ⟨I,I,I,I,wO,I,UK,I⟩<|RT ?_
  rotate_left
  ·rw[od h (by grind)]
  ·rw[od h (by grind)]
  ·exact congrArg aC (Eq.symm (L3 h (by grind)))
 ·refine jX ?_
  conv=>whnf
  refine g 0 0 []<|J Zd6<|W.sq<|g 3 5 [.call (V.b (decide (av w))) [[]]]<|J ⟨I,⟨UA,I,⟨UK,I⟩,UA,eA _ OM⟩,I,I⟩<|W.cn<|J (fun _=>(g 5 7 []<|J Zec (RT ?_))) (noF (ag OM))
  exact congrArg aC (Eq.symm (L4 h))
theorem ro(w:Worker)(hl:w.inputs.length≤1048576):F qQ [.val (dS w)] (aC (ll w)) [[]]:=by
 by_cases h:av w
 ·have he:=I9 h
  refine jV ?_
  conv=>whnf
  refine g 0 1 []<|J Zd6<|W.sq<|g 4 6 [.call (V.b (decide (av w))) [[]]]<|J ⟨I,⟨UA,I,⟨UK,I⟩,UA,au _ OM⟩,I,I⟩<|W.cn<|J (noT nO) fun _=>W.skip<|W.sq ?_
  by_cases h1:Worker.up w = true
  refine g 6 14 [BT,BT,BT,BT]<|J ⟨I,I,I,AS,AS,AS,AS,I⟩<|W.cn<|J (fun _=>(g 14 17 [.call (aC w) [[]]]<|J ⟨I,⟨UA,I,⟨UK,I⟩,UA,aD _ OM⟩,UK,I⟩ (RT ?_))) (noF rfl)
  rotate_left
  replace h1:=Bool.eq_false_iff.2 h1
  refine g 6 14 [BF,BF,BF,BF]<|J ⟨I,I,I,⟨AS,I⟩,⟨AS,I⟩,⟨AS,I⟩,AS,I⟩<|W.cn<|J (fun h2=>?_) fun h2=>?_
  replace h2:=dt h2
  refine g 14 17 [.call (aC w) [[]]]<|J ⟨I,⟨UA,I,⟨UK,I⟩,UA,aD _ OM⟩,UK,I⟩<|RT ?_
  rotate_left
  replace h2:=df h2
  refine W.skip<|g 14 19 [.call (aC {number:=w.number,epoch:=w.epoch,up:=w.up,state:=0,lease:=0,task:=0,cost:=0,left:=0,inputs:=[],text:=emp,since:=3:Worker}) [[],[]]]<|J ⟨I,⟨UB,I,⟨UK,UA,I⟩,UA,pc _ _⟩,I,UK,I⟩<|g 19 20 []<|J UV<|g 20 24 [.i (w.epoch+1)]<|J Zbf<|g 3 25 []<|J Zec<|RT ?_
  rotate_left
  ·rw[od h (by grind)]
  ·rw[od h (by grind)]
  ·exact congrArg aC (Eq.symm (L3 h (by grind)))
 ·refine jV ?_
  conv=>whnf
  refine g 0 1 []<|J Zd6<|W.sq<|g 4 6 [.call (V.b (decide (av w))) [[]]]<|J ⟨I,⟨UA,I,⟨UK,I⟩,UA,au _ OM⟩,I,I⟩<|W.cn<|J (fun _=>(g 6 8 []<|J Zec (RT ?_))) (noF (ag OM))
  exact congrArg aC (Eq.symm (L4 h))
end Go.K
end
section
open Go Go.Tm Go.Proofs
namespace Go.K
structure Log where
 safe:List ByteArray
 loose:List ByteArray
 deriving DecidableEq
abbrev logT(x:Log):List T:=[.slc [false] (x.safe.map ak),.slc [false] (x.loose.map ak)]
abbrev Py(x:Log):V:=.agg [.t (.slc [false] (x.safe.map ak)),.t (.slc [false] (x.loose.map ak))]
abbrev Pz(x:Log):V:=.agg [.own [false] (x.safe.map ak),.own [false] (x.loose.map ak)]
def bg(x:Log):Int:=((x.safe.length:Int) +bP x.safe) + ((x.loose.length:Int) +bP x.loose)
theorem A3(x:Log):0≤bg x:=by
 have hn0:=bi x.safe
 have hn1:=bi x.loose
 simp only[bg];omega
def To(x:Log):Prop:=x.safe.length≤9223372036854775807∧(∀ s∈x.safe,s.size≤9223372036854775807)∧x.loose.length≤9223372036854775807∧(∀ s∈x.loose,s.size≤9223372036854775807)
structure Job where
 lease:Int
 worker:Int
 til:Int
 deriving DecidableEq
abbrev aV(x:Job):List T:=[.i x.lease,.i x.worker,.i x.til]
abbrev Xk(x:Job):V:=.agg [.t (.i x.lease),.t (.i x.worker),.t (.i x.til)]
abbrev X7(x:Job):V:=.agg [.t (.i x.lease),.t (.i x.worker),.t (.i x.til)]
abbrev eT:List Bool:=[false,false,false]
abbrev fz:Job:=⟨0,0,0⟩
def V9(x:Job):Prop:=True
structure Seat where
 free:Bool
 epoch:Int
 deriving DecidableEq
abbrev aF(x:Seat):List T:=[.b x.free,.i x.epoch]
abbrev Tj(x:Seat):V:=.agg [.t (.b x.free),.t (.i x.epoch)]
abbrev VV(x:Seat):V:=.agg [.t (.b x.free),.t (.i x.epoch)]
abbrev cM:List Bool:=[false,false]
abbrev gW:Seat:=⟨false,0⟩
def RJ(x:Seat):Prop:=True
structure Owed where
 worker:Int
 lease:Int
 task:Int
 deriving DecidableEq
abbrev aR(x:Owed):List T:=[.i x.worker,.i x.lease,.i x.task]
abbrev Tn(x:Owed):V:=.agg [.t (.i x.worker),.t (.i x.lease),.t (.i x.task)]
abbrev V0(x:Owed):V:=.agg [.t (.i x.worker),.t (.i x.lease),.t (.i x.task)]
abbrev cP:List Bool:=[false,false,false]
abbrev LH:Owed:=⟨0,0,0⟩
def RQ(x:Owed):Prop:=True
structure Boss where
 workers:Int
 up:Bool
 now:Int
 since:Int
 epoch:Int
 given:Int
 log:Log
 results:List ByteArray
 jobs:List Job
 seats:List Seat
 owed:List Owed
 deriving DecidableEq
abbrev XO(x:Boss):List T:=[.i x.workers,.b x.up,.i x.now,.i x.since,.i x.epoch,.i x.given,.slc [false] (x.log.safe.map ak),.slc [false] (x.log.loose.map ak),.slc [false] (x.results.map ak),.slc eT (x.jobs.map aV),.slc cM (x.seats.map aF),.slc cP (x.owed.map aR)]
abbrev fJ(x:Boss):V:=.agg [.t (.i x.workers),.t (.b x.up),.t (.i x.now),.t (.i x.since),.t (.i x.epoch),.t (.i x.given),.t (.slc [false] (x.log.safe.map ak)),.t (.slc [false] (x.log.loose.map ak)),.t (.slc [false] (x.results.map ak)),.t (.slc eT (x.jobs.map aV)),.t (.slc cM (x.seats.map aF)),.t (.slc cP (x.owed.map aR))]
abbrev aL(x:Boss):V:=.agg [.t (.i x.workers),.t (.b x.up),.t (.i x.now),.t (.i x.since),.t (.i x.epoch),.t (.i x.given),.own [false] (x.log.safe.map ak),.own [false] (x.log.loose.map ak),.own [false] (x.results.map ak),.own eT (x.jobs.map aV),.own cM (x.seats.map aF),.own cP (x.owed.map aR)]
abbrev km:Boss:=⟨0,false,0,0,0,0,⟨[],[]⟩,[],[],[],[]⟩
def bI(x:Boss):Int:=bg x.log+ ((x.results.length:Int) +bP x.results) + ((x.jobs.length:Int)) + ((x.seats.length:Int)) + ((x.owed.length:Int))
theorem jz(x:Boss):0≤bI x:=by
 have hn0:=A3 x.log
 have hn1:=bi x.results
 simp only[bI];omega
def Ha(x:Boss):Prop:=To x.log∧x.results.length≤9223372036854775807∧(∀ s∈x.results,s.size≤9223372036854775807)∧x.jobs.length≤9223372036854775807∧x.seats.length≤9223372036854775807∧x.owed.length≤9223372036854775807
def atS(rs:List ByteArray)(k:Int):ByteArray:=(rs[k.toNat]?).getD emp
def nc(ts:List Task)(n:Nat):List Int:=((ts[n]?).map Task.deps).getD []
structure JobOk (b:Boss) (ts:List Task) (i:Nat) (j:Job):Prop where
 lease:(b.epoch - 1) * 1000000+1≤j.lease∧j.lease≤(b.epoch - 1) * 1000000+b.given
 worker:1≤j.worker∧j.worker≤b.workers
 til:b.now+1≤j.til∧j.til≤b.now+12
 res:atS b.results (i:Int) = emp
 ready:cU b.results (nc ts i)
 once:j.lease ∉ (b.jobs.take i).map Job.lease
def GU(b:Boss)(ts:List Task)(i:Nat)(j:Job):Prop:=(j.lease = 0→j.worker = 0∧j.til = 0)∧(¬j.lease = 0→JobOk b ts i j)
def gY(b:Boss)(ts:List Task)(n:Nat):Prop:=∀ (m:Nat) (j:Job),m < n→b.jobs[m]? = some j→GU b ts m j
structure OwedOk (b:Boss) (ts:List Task) (o:Owed):Prop where
 worker:1≤o.worker∧o.worker≤b.workers
 lease:1≤o.lease∧o.lease≤300000000
 task:0≤o.task∧o.task≤(ts.length:Int) - 1
 res:¬atS b.results o.task = emp
structure UpOk (b:Boss) (ts:List Task) (st:Story):Prop where
 epoch:b.epoch = st.epoch
 pos:1≤b.epoch
 rlen:b.results.length = ts.length
 jlen:b.jobs.length = ts.length
 slen:(b.seats.length:Int) = b.workers
 res:b.results = st.results
 since:0≤b.since∧b.since≤1
 given:0≤b.given∧b.given≤1000000
 olen:b.owed.length≤2000
 jobs:gY b ts b.jobs.length
 seats:∀ s∈b.seats,0≤s.epoch∧s.epoch≤300
 owed:∀ o∈b.owed,OwedOk b ts o
structure DownOk (b:Boss):Prop where
 loose:b.log.loose.length = 0
 since:b.since = 0
 epoch:b.epoch = 0
 given:b.given = 0
 res:b.results.length = 0
 jobs:b.jobs.length = 0
 seats:b.seats.length = 0
 owed:b.owed.length = 0
noncomputable def cx(b:Boss)(p:Plan):Story:=aw p (b.log.safe++b.log.loose)
structure BossOk (b:Boss) (p:Plan):Prop where
 plan:aq p.tasks = 0
 workers:1≤b.workers∧b.workers≤8
 now:0≤b.now∧b.now≤1000000
 code:(cx b p).code = 0
 up:b.up = true→UpOk b p.tasks (cx b p)
 down:b.up = false→DownOk b
noncomputable instance (b:Boss) (p:Plan):Decidable (BossOk b p):=Classical.propDecidable _
theorem fX{b:Boss}{p:Plan}(hup:b.up = true)(h:¬UpOk b p.tasks (cx b p)):¬BossOk b p:=fun q=>h (q.up hup)
theorem zU{b:Boss}{p:Plan}(hup:b.up = false)(h:¬DownOk b):¬BossOk b p:=fun q=>h (q.down hup)
theorem cz{p:Plan}{xs:List ByteArray}(h:(aw p xs).code = 0):aq p.tasks = 0∧xs.length≤310∧(aw p xs).results.length = p.tasks.length∧∃ t,jU p.tasks (some (lm p.tasks)) xs = some t∧aw p xs = ⟨0,t.epoch,t.results⟩:=by
 unfold aw at h ⊢
 by_cases hq:aq p.tasks = 0∧xs.length≤310
 ·rw[if_pos hq]at h ⊢
  cases hr:jU p.tasks (some (lm p.tasks)) xs with
  |none=>rw[hr]at h;cases h
  |some t =>
   refine⟨hq.1,hq.2,?_,t,rfl,rfl⟩
   have:=sd p.tasks xs _ _ hr
   rw[lm,List.length_replicate]at this
   exact this
 ·rw[if_neg hq]at h;cases h
theorem Qq{ts:List Task}{t t':Tale}{s:ByteArray}(h:dG ts t s = some t')(h0:0≤t.epoch∧t.epoch≤300):0≤t'.epoch∧t'.epoch≤300:=by
 unfold dG at h
 split at h
 ·cases h
 ·rename_i e he
  have hr:=ju he
  split at h
  ·split at h
   ·cases h;have:=hr.1;exact⟨by dsimp only;omega,this.2⟩
   ·cases h
  ·split at h
   ·cases h;exact h0
   ·cases h
theorem L2{ts:List Task}:∀ {l:List ByteArray} {t t':Tale},jU ts (some t) l = some t'→0≤t.epoch∧t.epoch≤300→0≤t'.epoch∧t'.epoch≤300
 |[],t,t',h,h0=>by rw[jQ]at h;cases h;exact h0
 |s :: l,t,t',h,h0=>by
  rw[oc]at h
  cases hs:dG ts t s with
  |none=>rw[hs,ib]at h;cases h
  |some u=>rw[hs]at h;exact L2 h (Qq hs h0)
theorem fw{p:Plan}{xs:List ByteArray}(h:(aw p xs).code = 0):0≤(aw p xs).epoch∧(aw p xs).epoch≤300:=by
 obtain⟨_,_,_,t,h1,h2⟩:=cz h
 rw[h2]
 exact L2 h1 ⟨Int.le_refl _,by show(0:Int)≤300;omega⟩
theorem mQ{b:Boss}{ts:List Task}{st:Story}{n:Nat}{j:Job}(hj:b.jobs[n]? = some j)(h:¬GU b ts n j):¬UpOk b ts st:=fun q=>h (q.jobs n j (List.getElem?_eq_some_iff.1 hj).1 hj)
theorem oi{b:Boss}{ts:List Task}{n:Nat}{j:Job}(hc:gY b ts n)(hj:b.jobs[n]? = some j)(h:GU b ts n j):gY b ts (n+1):=fun m k hm hk=>by
 by_cases e:m = n
 ·subst e;rw[hj]at hk;cases hk;exact h
 ·exact hc m k OM hk
theorem jA{rs:List ByteArray}{n:Nat}{y:ByteArray}(h:rs[n]? = some y):atS rs (n:Int) = y:=by unfold atS;rw[Int.toNat_natCast,h];rfl
theorem jN{rs:List ByteArray}{k:Int}{y:ByteArray}(h:rs[k.toNat]? = some y):atS rs k = y:=by unfold atS;rw[h];rfl
theorem dP{ts:List Task}{n:Nat}{t:Task}(h:ts[n]? = some t):nc ts n = t.deps:=by unfold nc;rw[h];rfl
def mw(b:Boss)(n:Nat):List Value:=(((b.jobs.take n).map Job.lease).filter (fun l=>decide (¬l = 0))).map fun l=>Value.int .i64 l
theorem Ep{b:Boss}{n:Nat}{l:Int}(h:¬l = 0):Value.int .i64 l∈mw b n↔l∈(b.jobs.take n).map Job.lease:=by
 simp[mw,h]
theorem N6(b:Boss)(n:Nat)(l0:Int):∀ x∈mw b n,kin (.int .i64 l0) x:=by
 intro x hx
 obtain⟨l,_,rfl⟩:=List.mem_map.1 hx
 rfl
theorem KV{b:Boss}{n:Nat}{j:Job}(h:b.jobs[n]? = some j)(h0:j.lease = 0):mw b (n+1) = mw b n:=by
 unfold mw;rw[List.take_add_one,h];simp[h0]
theorem KU{b:Boss}{n:Nat}{j:Job}(h:b.jobs[n]? = some j)(h0:¬j.lease = 0):mw b n++ [Value.int .i64 j.lease] = mw b (n+1):=by
 unfold mw;rw[List.take_add_one,h];simp[h0]
theorem IM{b:Boss}{ts:List Task}{st:Story}{n:Nat}{s:Seat}(hs:b.seats[n]? = some s)(h:¬(0≤s.epoch∧s.epoch≤300)):¬UpOk b ts st:=fun q=>h (q.seats s (List.mem_of_getElem? hs))
theorem kN{b:Boss}{ts:List Task}{st:Story}{n:Nat}{o:Owed}(hs:b.owed[n]? = some o)(h:¬OwedOk b ts o):¬UpOk b ts st:=fun q=>h (q.owed o (List.mem_of_getElem? hs))
theorem dN{α:Type}{p:α→Prop}{xs:List α}{n:Nat}{x:α}(hc:∀ y∈xs.take n,p y)(h:xs[n]? = some x)(hp:p x):∀ y∈xs.take (n+1),p y:=by
 intro y hy
 rw[List.take_add_one,h]at hy
 rcases List.mem_append.1 hy with hy|hy
 ·exact hc y hy
 ·rw[Option.toList,List.mem_singleton]at hy;subst hy;exact hp
theorem iJ(b:Boss)(h1:b.log.safe.length≤1048576)(h2:b.log.loose.length≤1048576):F nM [.val (fJ b)] (.own [false] ((b.log.safe++b.log.loose).map ak)) [[]]:=by
 refine nP ?_
 conv=>whnf
 refine g 0 1 []<|J Zej<|gd 3 11 [[],[],[],[.call (V.own [false] (List.map ak b.log.safe)) [[]]],[],[],[],[],[]] ?_
 conv=>whnf
 refine J ⟨I,I,I,⟨UA,I,US,UA,eG _ OM⟩,I,I,I,Zdi,I,I⟩<|J KR<|RT ?_
 rw[List.map_append];rfl
theorem lY(l:Log)(h1:l.safe.length≤1048576)(h2:l.loose.length≤1048576):F E9 [.val (Py l)] (.own [false] ((l.safe++l.loose).map ak)) [[]]:=by
 refine FE ?_
 conv=>whnf
 refine g 0 1 []<|J ⟨UB,I,I⟩<|gd 3 10 [[],[],[],[],[],[],[],[]] ?_
 conv=>whnf
 refine J ⟨I,I,I,Zdi,I,I,Zdi,I,I⟩<|J KR<|RT ?_
 rw[List.map_append];rfl
end Go.K
end

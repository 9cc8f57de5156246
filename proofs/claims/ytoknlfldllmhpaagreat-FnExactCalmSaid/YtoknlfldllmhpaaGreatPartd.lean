/- Contracts of functions of the program: what each call answers. -/
import Derived.Test.YtoknlfldllmhpaaGreatPartc
import Derived.Test.YtoknlfldllmhpaaGreatProg
set_option maxHeartbeats 8000000
set_option maxRecDepth 20000
set_option linter.unusedVariables false
set_option linter.unusedSimpArgs false
section
open Go Go.Tm Go.Proofs
namespace Go.K
def E:Env:=(.node (.node (.node (.node (.node (.node (.node .nil 2 ⟨(.int .i64),[.t (.v (.int .i64 0))],8⟩ .nil) 3 ⟨(.int .i64),[.t (.v (.int .i64 0))],8⟩ (.node .nil 4 ⟨.bool,[.b false],1⟩ .nil)) 5 ⟨(.int .u8),[.t (.v (.int .u8 0))],1⟩ (.node (.node .nil 6 ⟨(.int .u8),[.t (.v (.int .u8 0))],1⟩ .nil) 7 ⟨(.struct [(0,2),(1,3),(2,4),(3,6)]),[.t (.v (.int .i64 0)),.t (.v (.int .i64 0)),.b false,.t (.v (.int .u8 0))],24⟩ .nil)) 9 ⟨.str,[.s ⟨#[]⟩],16⟩ (.node (.node (.node .nil 12 ⟨(.int .u64),[.t (.v (.int .u64 0))],8⟩ .nil) 13 ⟨(.struct [(0,9),(1,12)]),[.s ⟨#[]⟩,.t (.v (.int .u64 0))],24⟩ .nil) 17 ⟨(.ptr 278),[.t (.v (.pointer none))],8⟩ (.node (.node .nil 18 ⟨(.struct [(0,17)]),[.t (.v (.pointer none))],8⟩ .nil) 19 ⟨(.struct [(0,17)]),[.t (.v (.pointer none))],8⟩ .nil))) 21 ⟨(.int .i32),[.t (.v (.int .i32 0))],4⟩ (.node (.node (.node (.node .nil 22 ⟨(.slice 218),[.own [false,false,true] []],24⟩ .nil) 23 ⟨(.struct [(0,22)]),[.own [false,false,true] []],24⟩ .nil) 24 ⟨(.struct [(0,22)]),[.own [false,false,true] []],24⟩ (.node (.node .nil 25 ⟨(.slice 9),[.own [false] []],24⟩ .nil) 26 ⟨(.struct [(0,25),(1,25)]),[.own [false] [],.own [false] []],48⟩ .nil)) 27 ⟨(.struct [(0,25),(1,25)]),[.own [false] [],.own [false] []],48⟩ (.node (.node (.node .nil 28 ⟨(.slice 223),[.own [false,false,false] []],24⟩ .nil) 29 ⟨(.slice 225),[.own [false,false] []],24⟩ .nil) 30 ⟨(.slice 227),[.own [false,false,false] []],24⟩ (.node (.node .nil 31 ⟨(.struct [(0,3),(1,4),(2,3),(3,3),(4,3),(5,3),(6,27),(8,25),(9,28),(10,29),(11,30)]),[.t (.v (.int .i64 0)),.b false,.t (.v (.int .i64 0)),.t (.v (.int .i64 0)),.t (.v (.int .i64 0)),.t (.v (.int .i64 0)),.own [false] [],.own [false] [],.own [false] [],.own [false,false,false] [],.own [false,false] [],.own [false,false,false] []],192⟩ .nil) 32 ⟨(.struct [(0,3),(1,4),(2,3),(3,3),(4,3),(5,3),(6,27),(8,25),(9,28),(10,29),(11,30)]),[.t (.v (.int .i64 0)),.b false,.t (.v (.int .i64 0)),.t (.v (.int .i64 0)),.t (.v (.int .i64 0)),.t (.v (.int .i64 0)),.own [false] [],.own [false] [],.own [false] [],.own [false,false,false] [],.own [false,false] [],.own [false,false,false] []],192⟩ .nil)))) 33 ⟨(.slice 134),[.own [false,false,false,false,false,false,false,false,true,false,false] []],24⟩ (.node (.node (.node (.node (.node .nil 34 ⟨(.slice 136),[.own [false,false,false] []],24⟩ .nil) 35 ⟨(.struct [(0,24),(1,9),(2,32),(14,33),(15,34),(16,9)]),[.own [false,false,true] [],.s ⟨#[]⟩,.t (.v (.int .i64 0)),.b false,.t (.v (.int .i64 0)),.t (.v (.int .i64 0)),.t (.v (.int .i64 0)),.t (.v (.int .i64 0)),.own [false] [],.own [false] [],.own [false] [],.own [false,false,false] [],.own [false,false] [],.own [false,false,false] [],.own [false,false,false,false,false,false,false,false,true,false,false] [],.own [false,false,false] [],.s ⟨#[]⟩],296⟩ .nil) 36 ⟨(.struct [(0,24),(1,9),(2,32),(14,33),(15,34),(16,9)]),[.own [false,false,true] [],.s ⟨#[]⟩,.t (.v (.int .i64 0)),.b false,.t (.v (.int .i64 0)),.t (.v (.int .i64 0)),.t (.v (.int .i64 0)),.t (.v (.int .i64 0)),.own [false] [],.own [false] [],.own [false] [],.own [false,false,false] [],.own [false,false] [],.own [false,false,false] [],.own [false,false,false,false,false,false,false,false,true,false,false] [],.own [false,false,false] [],.s ⟨#[]⟩],296⟩ (.node (.node .nil 37 ⟨(.struct [(0,3),(1,3),(2,3),(3,3)]),[.t (.v (.int .i64 0)),.t (.v (.int .i64 0)),.t (.v (.int .i64 0)),.t (.v (.int .i64 0))],32⟩ .nil) 38 ⟨(.struct [(0,3),(1,3),(2,3),(3,3)]),[.t (.v (.int .i64 0)),.t (.v (.int .i64 0)),.t (.v (.int .i64 0)),.t (.v (.int .i64 0))],32⟩ .nil)) 40 ⟨(.slice 198),[.own [false,false,true] []],24⟩ (.node (.node (.node .nil 41 ⟨(.struct [(0,40)]),[.own [false,false,true] []],24⟩ .nil) 42 ⟨(.struct [(0,40)]),[.own [false,false,true] []],24⟩ .nil) 43 ⟨(.struct [(0,25),(1,25)]),[.own [false] [],.own [false] []],48⟩ (.node (.node .nil 44 ⟨(.slice 206),[.own [false,false,false] []],24⟩ .nil) 45 ⟨(.slice 202),[.own [false,false] []],24⟩ .nil))) 46 ⟨(.slice 204),[.own [false,false,false] []],24⟩ (.node (.node (.node (.node .nil 47 ⟨(.struct [(0,3),(1,4),(2,3),(3,3),(4,3),(5,3),(6,43),(8,25),(9,44),(10,45),(11,46)]),[.t (.v (.int .i64 0)),.b false,.t (.v (.int .i64 0)),.t (.v (.int .i64 0)),.t (.v (.int .i64 0)),.t (.v (.int .i64 0)),.own [false] [],.own [false] [],.own [false] [],.own [false,false,false] [],.own [false,false] [],.own [false,false,false] []],192⟩ .nil) 48 ⟨(.struct [(0,3),(1,4),(2,3),(3,3),(4,3),(5,3),(6,43),(8,25),(9,44),(10,45),(11,46)]),[.t (.v (.int .i64 0)),.b false,.t (.v (.int .i64 0)),.t (.v (.int .i64 0)),.t (.v (.int .i64 0)),.t (.v (.int .i64 0)),.own [false] [],.own [false] [],.own [false] [],.own [false,false,false] [],.own [false,false] [],.own [false,false,false] []],192⟩ .nil) 49 ⟨(.slice 109),[.own [false,false,false,false,false,false,false,false,true,false,false] []],24⟩ (.node (.node .nil 50 ⟨(.slice 78),[.own [false,false,false] []],24⟩ .nil) 51 ⟨(.struct [(0,42),(1,9),(2,48),(14,49),(15,50),(16,9)]),[.own [false,false,true] [],.s ⟨#[]⟩,.t (.v (.int .i64 0)),.b false,.t (.v (.int .i64 0)),.t (.v (.int .i64 0)),.t (.v (.int .i64 0)),.t (.v (.int .i64 0)),.own [false] [],.own [false] [],.own [false] [],.own [false,false,false] [],.own [false,false] [],.own [false,false,false] [],.own [false,false,false,false,false,false,false,false,true,false,false] [],.own [false,false,false] [],.s ⟨#[]⟩],296⟩ .nil)) 52 ⟨(.struct [(0,42),(1,9),(2,48),(14,49),(15,50),(16,9)]),[.own [false,false,true] [],.s ⟨#[]⟩,.t (.v (.int .i64 0)),.b false,.t (.v (.int .i64 0)),.t (.v (.int .i64 0)),.t (.v (.int .i64 0)),.t (.v (.int .i64 0)),.own [false] [],.own [false] [],.own [false] [],.own [false,false,false] [],.own [false,false] [],.own [false,false,false] [],.own [false,false,false,false,false,false,false,false,true,false,false] [],.own [false,false,false] [],.s ⟨#[]⟩],296⟩ (.node (.node (.node .nil 55 ⟨(.struct [(0,3),(1,3),(2,3),(3,3)]),[.t (.v (.int .i64 0)),.t (.v (.int .i64 0)),.t (.v (.int .i64 0)),.t (.v (.int .i64 0))],32⟩ .nil) 62 ⟨(.slice 5),[.own [false] []],24⟩ .nil) 66 ⟨(.slice 55),[.own [false,false,false,false] []],24⟩ (.node (.node .nil 74 ⟨(.struct [(0,3),(1,3),(2,3),(3,3),(4,3),(5,3),(6,9),(7,25)]),[.t (.v (.int .i64 0)),.t (.v (.int .i64 0)),.t (.v (.int .i64 0)),.t (.v (.int .i64 0)),.t (.v (.int .i64 0)),.t (.v (.int .i64 0)),.s ⟨#[]⟩,.own [false] []],88⟩ .nil) 75 ⟨(.struct [(0,3),(1,3),(2,3),(3,3),(4,3),(5,3),(6,9),(7,25)]),[.t (.v (.int .i64 0)),.t (.v (.int .i64 0)),.t (.v (.int .i64 0)),.t (.v (.int .i64 0)),.t (.v (.int .i64 0)),.t (.v (.int .i64 0)),.s ⟨#[]⟩,.own [false] []],88⟩ .nil))))) 77 ⟨(.struct [(0,3),(1,9),(2,9)]),[.t (.v (.int .i64 0)),.s ⟨#[]⟩,.s ⟨#[]⟩],40⟩ (.node (.node (.node (.node (.node (.node .nil 78 ⟨(.struct [(0,3),(1,9),(2,9)]),[.t (.v (.int .i64 0)),.s ⟨#[]⟩,.s ⟨#[]⟩],40⟩ .nil) 100 ⟨(.ptr 192),[.t (.v (.pointer none))],8⟩ (.node .nil 108 ⟨(.struct [(0,3),(1,3),(2,4),(3,3),(4,3),(5,3),(6,3),(7,3),(8,25),(9,9),(10,3)]),[.t (.v (.int .i64 0)),.t (.v (.int .i64 0)),.b false,.t (.v (.int .i64 0)),.t (.v (.int .i64 0)),.t (.v (.int .i64 0)),.t (.v (.int .i64 0)),.t (.v (.int .i64 0)),.own [false] [],.s ⟨#[]⟩,.t (.v (.int .i64 0))],112⟩ .nil)) 109 ⟨(.struct [(0,3),(1,3),(2,4),(3,3),(4,3),(5,3),(6,3),(7,3),(8,25),(9,9),(10,3)]),[.t (.v (.int .i64 0)),.t (.v (.int .i64 0)),.b false,.t (.v (.int .i64 0)),.t (.v (.int .i64 0)),.t (.v (.int .i64 0)),.t (.v (.int .i64 0)),.t (.v (.int .i64 0)),.own [false] [],.s ⟨#[]⟩,.t (.v (.int .i64 0))],112⟩ (.node (.node .nil 114 ⟨(.int .u64),[.t (.v (.int .u64 0))],8⟩ .nil) 117 ⟨(.slice 4),[.own [false] []],24⟩ .nil)) 119 ⟨(.struct [(0,3),(1,3),(2,3),(3,9)]),[.t (.v (.int .i64 0)),.t (.v (.int .i64 0)),.t (.v (.int .i64 0)),.s ⟨#[]⟩],40⟩ (.node (.node (.node .nil 120 ⟨(.struct [(0,3),(1,3),(2,3),(3,9)]),[.t (.v (.int .i64 0)),.t (.v (.int .i64 0)),.t (.v (.int .i64 0)),.s ⟨#[]⟩],40⟩ .nil) 123 ⟨(.struct [(0,3),(1,3),(2,25)]),[.t (.v (.int .i64 0)),.t (.v (.int .i64 0)),.own [false] []],40⟩ .nil) 124 ⟨(.struct [(0,3),(1,3),(2,25)]),[.t (.v (.int .i64 0)),.t (.v (.int .i64 0)),.own [false] []],40⟩ (.node (.node .nil 134 ⟨(.struct [(0,3),(1,3),(2,4),(3,3),(4,3),(5,3),(6,3),(7,3),(8,25),(9,9),(10,3)]),[.t (.v (.int .i64 0)),.t (.v (.int .i64 0)),.b false,.t (.v (.int .i64 0)),.t (.v (.int .i64 0)),.t (.v (.int .i64 0)),.t (.v (.int .i64 0)),.t (.v (.int .i64 0)),.own [false] [],.s ⟨#[]⟩,.t (.v (.int .i64 0))],112⟩ .nil) 136 ⟨(.struct [(0,3),(1,9),(2,9)]),[.t (.v (.int .i64 0)),.s ⟨#[]⟩,.s ⟨#[]⟩],40⟩ .nil))) 156 ⟨(.ptr 52),[.t (.v (.pointer none))],8⟩ (.node (.node (.node (.node .nil 159 ⟨(.ptr 109),[.t (.v (.pointer none))],8⟩ .nil) 174 ⟨(.slice 75),[.own [false,false,false,false,false,false,false,true] []],24⟩ .nil) 175 ⟨(.struct [(0,48),(12,174)]),[.t (.v (.int .i64 0)),.b false,.t (.v (.int .i64 0)),.t (.v (.int .i64 0)),.t (.v (.int .i64 0)),.t (.v (.int .i64 0)),.own [false] [],.own [false] [],.own [false] [],.own [false,false,false] [],.own [false,false] [],.own [false,false,false] [],.own [false,false,false,false,false,false,false,true] []],216⟩ (.node (.node .nil 176 ⟨(.struct [(0,48),(12,174)]),[.t (.v (.int .i64 0)),.b false,.t (.v (.int .i64 0)),.t (.v (.int .i64 0)),.t (.v (.int .i64 0)),.t (.v (.int .i64 0)),.own [false] [],.own [false] [],.own [false] [],.own [false,false,false] [],.own [false,false] [],.own [false,false,false] [],.own [false,false,false,false,false,false,false,true] []],216⟩ .nil) 178 ⟨(.struct [(0,109),(11,174)]),[.t (.v (.int .i64 0)),.t (.v (.int .i64 0)),.b false,.t (.v (.int .i64 0)),.t (.v (.int .i64 0)),.t (.v (.int .i64 0)),.t (.v (.int .i64 0)),.t (.v (.int .i64 0)),.own [false] [],.s ⟨#[]⟩,.t (.v (.int .i64 0)),.own [false,false,false,false,false,false,false,true] []],136⟩ .nil)) 179 ⟨(.struct [(0,109),(11,174)]),[.t (.v (.int .i64 0)),.t (.v (.int .i64 0)),.b false,.t (.v (.int .i64 0)),.t (.v (.int .i64 0)),.t (.v (.int .i64 0)),.t (.v (.int .i64 0)),.t (.v (.int .i64 0)),.own [false] [],.s ⟨#[]⟩,.t (.v (.int .i64 0)),.own [false,false,false,false,false,false,false,true] []],136⟩ (.node (.node (.node .nil 191 ⟨(.struct [(0,62),(1,3)]),[.own [false] [],.t (.v (.int .i64 0))],32⟩ .nil) 192 ⟨(.struct [(0,62),(1,3)]),[.own [false] [],.t (.v (.int .i64 0))],32⟩ .nil) 196 ⟨(.slice 3),[.own [false] []],24⟩ (.node (.node .nil 197 ⟨(.struct [(0,9),(1,3),(2,196)]),[.s ⟨#[]⟩,.t (.v (.int .i64 0)),.own [false] []],48⟩ .nil) 198 ⟨(.struct [(0,9),(1,3),(2,196)]),[.s ⟨#[]⟩,.t (.v (.int .i64 0)),.own [false] []],48⟩ .nil)))) 201 ⟨(.struct [(0,4),(1,3)]),[.b false,.t (.v (.int .i64 0))],16⟩ (.node (.node (.node (.node (.node .nil 202 ⟨(.struct [(0,4),(1,3)]),[.b false,.t (.v (.int .i64 0))],16⟩ .nil) 203 ⟨(.struct [(0,3),(1,3),(2,3)]),[.t (.v (.int .i64 0)),.t (.v (.int .i64 0)),.t (.v (.int .i64 0))],24⟩ .nil) 204 ⟨(.struct [(0,3),(1,3),(2,3)]),[.t (.v (.int .i64 0)),.t (.v (.int .i64 0)),.t (.v (.int .i64 0))],24⟩ (.node (.node .nil 205 ⟨(.struct [(0,3),(1,3),(2,3)]),[.t (.v (.int .i64 0)),.t (.v (.int .i64 0)),.t (.v (.int .i64 0))],24⟩ .nil) 206 ⟨(.struct [(0,3),(1,3),(2,3)]),[.t (.v (.int .i64 0)),.t (.v (.int .i64 0)),.t (.v (.int .i64 0))],24⟩ .nil)) 207 ⟨(.map 9 4),[.t (.v (.map none))],8⟩ (.node (.node (.node .nil 208 ⟨(.map 3 4),[.t (.v (.map none))],8⟩ .nil) 210 ⟨(.int .u64),[.t (.v (.int .u64 0))],8⟩ .nil) 211 ⟨(.int .u64),[.t (.v (.int .u64 0))],8⟩ (.node (.node .nil 218 ⟨(.struct [(0,9),(1,3),(2,196)]),[.s ⟨#[]⟩,.t (.v (.int .i64 0)),.own [false] []],48⟩ .nil) 223 ⟨(.struct [(0,3),(1,3),(2,3)]),[.t (.v (.int .i64 0)),.t (.v (.int .i64 0)),.t (.v (.int .i64 0))],24⟩ .nil))) 225 ⟨(.struct [(0,4),(1,3)]),[.b false,.t (.v (.int .i64 0))],16⟩ (.node (.node (.node (.node .nil 227 ⟨(.struct [(0,3),(1,3),(2,3)]),[.t (.v (.int .i64 0)),.t (.v (.int .i64 0)),.t (.v (.int .i64 0))],24⟩ .nil) 228 ⟨(.ptr 48),[.t (.v (.pointer none))],8⟩ .nil) 242 ⟨(.ptr 202),[.t (.v (.pointer none))],8⟩ (.node (.node .nil 255 ⟨(.ptr 211),[.t (.v (.pointer none))],8⟩ .nil) 265 ⟨(.struct [(0,17),(1,17),(2,17),(3,9)]),[.t (.v (.pointer none)),.t (.v (.pointer none)),.t (.v (.pointer none)),.s ⟨#[]⟩],40⟩ .nil)) 270 ⟨(.int .u32),[.t (.v (.int .u32 0))],4⟩ (.node (.node (.node .nil 271 ⟨(.int .u8),[.t (.v (.int .u8 0))],1⟩ .nil) 272 ⟨(.int .u8),[.t (.v (.int .u8 0))],1⟩ .nil) 274 ⟨(.ptr 5),[.t (.v (.pointer none))],8⟩ (.node (.node .nil 275 ⟨(.int .i32),[.t (.v (.int .i32 0))],4⟩ .nil) 276 ⟨(.int .i32),[.t (.v (.int .i32 0))],4⟩ .nil))))))
set_option maxRecDepth 10000 in
theorem ec:EnvOk Tryz.prog E:=by
 unfold E
 repeat (first|exact EnvOk.nil|refine EnvOk.node ?_ ⟨by kernel_rfl,by kernel_rfl,by simp,by simp[yk,sc],by simp[Ty.agg],by simp,by simp,by simp⟩ ?_)
def md(f:FuncId):List Md:=(bif Nat.blt f 113 then(bif Nat.blt f 58 then(bif Nat.blt f 30 then(bif Nat.blt f 16 then(bif Nat.blt f 9 then(bif Nat.blt f 6 then(bif Nat.blt f 4 then [.v,.v]else(bif Nat.blt f 5 then [.v,.v]else [.v]))else(bif Nat.blt f 7 then [.v,.v]else(bif Nat.blt f 8 then [.v,.v]else [.v])))else(bif Nat.blt f 12 then(bif Nat.blt f 10 then [.v,.v]else(bif Nat.blt f 11 then [.v,.v]else [.v]))else(bif Nat.blt f 14 then(bif Nat.blt f 13 then [.v]else [.v,.v])else(bif Nat.blt f 15 then [.v,.v]else [.b,.v]))))else(bif Nat.blt f 23 then(bif Nat.blt f 19 then(bif Nat.blt f 17 then [.v,.v]else(bif Nat.blt f 18 then [.v,.v]else [.v,.v]))else(bif Nat.blt f 21 then(bif Nat.blt f 20 then [.v]else [.v])else(bif Nat.blt f 22 then [.v,.v]else [.v])))else(bif Nat.blt f 26 then(bif Nat.blt f 24 then [.v]else(bif Nat.blt f 25 then [.v]else [.v]))else(bif Nat.blt f 28 then(bif Nat.blt f 27 then [.v]else [.v,.v])else(bif Nat.blt f 29 then [.v]else [.v,.v])))))else(bif Nat.blt f 44 then(bif Nat.blt f 37 then(bif Nat.blt f 33 then(bif Nat.blt f 31 then [.v]else(bif Nat.blt f 32 then [.v]else [.v,.v]))else(bif Nat.blt f 35 then(bif Nat.blt f 34 then [.v,.v]else [.v,.v])else(bif Nat.blt f 36 then [.v,.v]else [.v])))else(bif Nat.blt f 40 then(bif Nat.blt f 38 then [.mv,.v]else(bif Nat.blt f 39 then [.v]else [.v]))else(bif Nat.blt f 42 then(bif Nat.blt f 41 then [.v]else [.v])else(bif Nat.blt f 43 then [.v]else [.p,.v]))))else(bif Nat.blt f 51 then(bif Nat.blt f 47 then(bif Nat.blt f 45 then [.v,.v]else(bif Nat.blt f 46 then [.v,.v]else [.v,.v]))else(bif Nat.blt f 49 then(bif Nat.blt f 48 then [.v,.v]else [.b,.v])else(bif Nat.blt f 50 then [.b,.v]else [.b,.v])))else(bif Nat.blt f 54 then(bif Nat.blt f 52 then [.b,.v]else(bif Nat.blt f 53 then [.v,.v]else [.v,.v]))else(bif Nat.blt f 56 then(bif Nat.blt f 55 then [.v,.v]else [.v,.v])else(bif Nat.blt f 57 then [.mv]else [.mv,.v]))))))else(bif Nat.blt f 85 then(bif Nat.blt f 71 then(bif Nat.blt f 64 then(bif Nat.blt f 61 then(bif Nat.blt f 59 then [.p]else(bif Nat.blt f 60 then [.p,.v]else [.v]))else(bif Nat.blt f 62 then [.p]else(bif Nat.blt f 63 then [.p]else [.p,.v])))else(bif Nat.blt f 67 then(bif Nat.blt f 65 then [.v]else(bif Nat.blt f 66 then [.v,.v,.v]else [.v]))else(bif Nat.blt f 69 then(bif Nat.blt f 68 then [.v,.v]else [.v,.v])else(bif Nat.blt f 70 then [.v,.v]else [.v]))))else(bif Nat.blt f 78 then(bif Nat.blt f 74 then(bif Nat.blt f 72 then [.v,.v,.v]else(bif Nat.blt f 73 then [.v]else [.v,.v]))else(bif Nat.blt f 76 then(bif Nat.blt f 75 then [.v]else [.v])else(bif Nat.blt f 77 then [.v,.v]else [.v])))else(bif Nat.blt f 81 then(bif Nat.blt f 79 then [.v]else(bif Nat.blt f 80 then [.v]else [.v]))else(bif Nat.blt f 83 then(bif Nat.blt f 82 then [.v,.v]else [.v])else(bif Nat.blt f 84 then [.v,.v]else [.v,.v])))))else(bif Nat.blt f 99 then(bif Nat.blt f 92 then(bif Nat.blt f 88 then(bif Nat.blt f 86 then [.v,.v]else(bif Nat.blt f 87 then [.v,.v]else [.v,.v]))else(bif Nat.blt f 90 then(bif Nat.blt f 89 then [.v,.v]else [.v,.v])else(bif Nat.blt f 91 then [.v,.v]else [.v])))else(bif Nat.blt f 95 then(bif Nat.blt f 93 then [.v]else(bif Nat.blt f 94 then [.v]else [.v]))else(bif Nat.blt f 97 then(bif Nat.blt f 96 then [.v,.v]else [.v,.v])else(bif Nat.blt f 98 then [.v,.v,.v,.v]else [.v,.v,.v]))))else(bif Nat.blt f 106 then(bif Nat.blt f 102 then(bif Nat.blt f 100 then [.v]else(bif Nat.blt f 101 then [.v,.v]else [.v]))else(bif Nat.blt f 104 then(bif Nat.blt f 103 then [.v]else [.v])else(bif Nat.blt f 105 then [.v]else [.v])))else(bif Nat.blt f 109 then(bif Nat.blt f 107 then [.v]else(bif Nat.blt f 108 then [.v]else [.v]))else(bif Nat.blt f 111 then(bif Nat.blt f 110 then [.v]else [.v])else(bif Nat.blt f 112 then [.v]else [.v])))))))else(bif Nat.blt f 168 then(bif Nat.blt f 140 then(bif Nat.blt f 126 then(bif Nat.blt f 119 then(bif Nat.blt f 116 then(bif Nat.blt f 114 then [.v]else(bif Nat.blt f 115 then [.v,.v]else [.v,.v]))else(bif Nat.blt f 117 then [.v,.v]else(bif Nat.blt f 118 then [.v,.v,.v,.v]else [.p,.v])))else(bif Nat.blt f 122 then(bif Nat.blt f 120 then [.p,.v]else(bif Nat.blt f 121 then [.v]else [.p,.v]))else(bif Nat.blt f 124 then(bif Nat.blt f 123 then [.v]else [.v,.v])else(bif Nat.blt f 125 then [.v,.v]else [.v,.v]))))else(bif Nat.blt f 133 then(bif Nat.blt f 129 then(bif Nat.blt f 127 then [.v,.v]else(bif Nat.blt f 128 then [.v,.v]else [.v,.v]))else(bif Nat.blt f 131 then(bif Nat.blt f 130 then [.v,.v]else [.v,.v])else(bif Nat.blt f 132 then [.b,.v]else [.b,.v])))else(bif Nat.blt f 136 then(bif Nat.blt f 134 then [.b,.v]else(bif Nat.blt f 135 then [.b,.v]else [.b,.v]))else(bif Nat.blt f 138 then(bif Nat.blt f 137 then [.b,.v]else [.v])else(bif Nat.blt f 139 then [.v,.v]else [.v,.v])))))else(bif Nat.blt f 154 then(bif Nat.blt f 147 then(bif Nat.blt f 143 then(bif Nat.blt f 141 then [.v,.v]else(bif Nat.blt f 142 then [.v,.v]else [.v,.v]))else(bif Nat.blt f 145 then(bif Nat.blt f 144 then [.v,.v]else [.v,.v])else(bif Nat.blt f 146 then [.v,.v]else [.v,.v,.v])))else(bif Nat.blt f 150 then(bif Nat.blt f 148 then [.v,.v]else(bif Nat.blt f 149 then [.v,.v]else [.v,.v]))else(bif Nat.blt f 152 then(bif Nat.blt f 151 then [.v,.v,.v]else [.v,.v,.v])else(bif Nat.blt f 153 then [.p,.v]else [.mv,.v]))))else(bif Nat.blt f 161 then(bif Nat.blt f 157 then(bif Nat.blt f 155 then [.v,.v,.v]else(bif Nat.blt f 156 then [.v,.v]else [.p,.v,.v]))else(bif Nat.blt f 159 then(bif Nat.blt f 158 then [.mv,.v,.v]else [.p])else(bif Nat.blt f 160 then [.p]else [.p,.mv])))else(bif Nat.blt f 164 then(bif Nat.blt f 162 then [.p]else(bif Nat.blt f 163 then [.v,.v]else [.v]))else(bif Nat.blt f 166 then(bif Nat.blt f 165 then [.v]else [.v])else(bif Nat.blt f 167 then [.v,.v]else [.v]))))))else(bif Nat.blt f 196 then(bif Nat.blt f 182 then(bif Nat.blt f 175 then(bif Nat.blt f 171 then(bif Nat.blt f 169 then [.v]else(bif Nat.blt f 170 then [.v,.v]else [.v,.v]))else(bif Nat.blt f 173 then(bif Nat.blt f 172 then [.p,.v]else [.v])else(bif Nat.blt f 174 then [.v,.v]else [.v,.v])))else(bif Nat.blt f 178 then(bif Nat.blt f 176 then [.v]else(bif Nat.blt f 177 then [.v]else [.v,.v]))else(bif Nat.blt f 180 then(bif Nat.blt f 179 then [.v]else [.v,.v,.v])else(bif Nat.blt f 181 then [.v,.v]else [.v]))))else(bif Nat.blt f 189 then(bif Nat.blt f 185 then(bif Nat.blt f 183 then [.v,.v]else(bif Nat.blt f 184 then [.v,.v]else [.v]))else(bif Nat.blt f 187 then(bif Nat.blt f 186 then [.v]else [.v])else(bif Nat.blt f 188 then [.v]else [.v,.v])))else(bif Nat.blt f 192 then(bif Nat.blt f 190 then [.v]else(bif Nat.blt f 191 then [.v,.v]else [.v,.v]))else(bif Nat.blt f 194 then(bif Nat.blt f 193 then [.v,.v]else [.v,.v])else(bif Nat.blt f 195 then [.b,.v]else [.v,.v])))))else(bif Nat.blt f 210 then(bif Nat.blt f 203 then(bif Nat.blt f 199 then(bif Nat.blt f 197 then [.mv,.v]else(bif Nat.blt f 198 then [.v,.v]else [.v]))else(bif Nat.blt f 201 then(bif Nat.blt f 200 then [.mv,.v]else [.mv,.v,.v])else(bif Nat.blt f 202 then [.v,.v]else [.p,.v,.v,.r 0])))else(bif Nat.blt f 206 then(bif Nat.blt f 204 then [.p]else(bif Nat.blt f 205 then [.p]else [.v,.v,.v]))else(bif Nat.blt f 208 then(bif Nat.blt f 207 then [.p,.mv]else [.p,.mv])else(bif Nat.blt f 209 then [.p,.mv]else [.v,.v]))))else(bif Nat.blt f 217 then(bif Nat.blt f 213 then(bif Nat.blt f 211 then [.p]else(bif Nat.blt f 212 then [.v]else [.v]))else(bif Nat.blt f 215 then(bif Nat.blt f 214 then [.v]else [.v])else(bif Nat.blt f 216 then [.v,.v]else [.v])))else(bif Nat.blt f 220 then(bif Nat.blt f 218 then [.v,.v]else(bif Nat.blt f 219 then [.v]else [.v]))else(bif Nat.blt f 222 then(bif Nat.blt f 221 then [.v]else [.p])else(bif Nat.blt f 223 then [.p]else [.v]))))))))
def sq(t:TypeId):Bool:=Nat.beq t 78||Nat.beq t 202||Nat.beq t 204||Nat.beq t 206
theorem X1:∀ t,sq t = true→SqOk Tryz.prog t:=by
 intro t h
 simp only[sq,Bool.or_eq_true,Nat.beq_eq]at h
 rcases h with((rfl|rfl)|rfl)|rfl
 all_goals exact⟨by kernel_rfl,by kernel_rfl,by kernel_rfl,by kernel_rfl⟩
def F(f:FuncId)(xs:List A)(res:V)(outs:List (List V)):Prop:=Enters Tryz.prog f∧Tm.Fn Tryz.prog f xs res outs
def C:Cx:=⟨E,F,md,sq⟩
theorem WO:CxOk Tryz.prog C:=⟨ec,X1,fun _ _ _ _ h=>h⟩
variable {nt id:Nat} {ops:Array Oper} {y:Code} {H:HD} {Q:Exit→HD→Prop}
theorem g(lo hi:Nat)(ans:List Ans)(h:M9 C nt ops ops.toList ans H fun p H=>nu lo hi H fun H=>p∧W Tryz.prog nt y H Q):W Tryz.prog nt (.seq (.region id ops false) y) H Q:=W.sg WO lo hi ans h
theorem rg(ans:List Ans)(h:M9 C nt ops ops.toList ans H fun p H=>p∧Q .normal H):W Tryz.prog nt (.region id ops false) H Q:=W.rg WO ans h
theorem Wk:Tryz.prog.follows .mixedOrders = true:=by kernel_rfl
theorem gd(lo hi:Nat)(ans:List (List Ans))(h:Na C nt ops ops.toList ans H fun p r H=>nu lo hi H fun H=>p∧NT ops.toList r = true∧W Tryz.prog nt y H Q):W Tryz.prog nt (.seq (.region id ops true) y) H Q:=W.sgD WO Wk lo hi ans h
theorem rgd(ans:List (List Ans))(h:Na C nt ops ops.toList ans H fun p r H=>p∧NT ops.toList r = true∧Q .normal H):W Tryz.prog nt (.region id ops true) H Q:=W.rgD WO Wk ans h
abbrev Q1(res:V)(outs:List (List V)):V→List (List V)→Prop:=fun r o=>r = res∧o = outs
def IT(i nt:Nat)(f:Func)(rs:List Rs):Prop:=∀ {xs:List A} {res:V} {outs:List (List V)} (hrun:aP (dS nt xs) fun H=>W Tryz.prog nt (aW f) H (EndsW nt E rs xs (Q1 res outs))) (h:(dJ xs && Nat.ble xs.length nt) = true:=by rfl),F i xs res outs
theorem iM {i nt : Nat} {f : Func} {rs : List Rs} (hf : Tryz.prog.funcs[i]? = some f) (hb : f.body = some (aW f)) (hnt : f.ntmps = nt) (hrs : f.results = (rs.map me).toArray) (h1 : (f.name == "runtime.NumGoroutine") = false ) (h2 : f.body.isNone = false) : IT i nt f rs := @fun _ _ _ hrun h => ⟨⟨f, hf, h1, h2⟩, Fn.one hf hb hnt ec hrs h hrun⟩
theorem RT{p q:Prop}(h:q)(f:Box q→p:=by
 intro h
 refine W.ret ?_
 refine EndsW.rt ?_
 conv=>whnf
 refine J (by repeat' first|exact I|refine J ?_ ?_) (J ?_ rfl)
 exact h.out):p:=f ⟨h⟩
abbrev Fu:TypeId:=24
abbrev HG:TypeId:=27
abbrev Fw:TypeId:=32
abbrev BG:TypeId:=36
abbrev yn:TypeId:=134
abbrev yp:TypeId:=136
abbrev Fs:TypeId:=218
abbrev HH:TypeId:=223
abbrev Ft:TypeId:=225
abbrev Fv:TypeId:=227
abbrev pM:FuncId:=4
theorem jr:IT 4 74 Tryz.f4 [(4,4,false)]:=@iM _ _ _ _ Tryz.func4 rfl rfl rfl KR KR
abbrev yE:FuncId:=9
theorem yV:IT 9 44 Tryz.f9 [(4,3,false)]:=@iM _ _ _ _ Tryz.func9 rfl rfl rfl KR KR
abbrev yz:FuncId:=11
theorem yQ:IT 11 27 Tryz.f11 [(2,52,true)]:=@iM _ _ _ _ Tryz.func11 rfl rfl rfl KR KR
abbrev yK:FuncId:=14
theorem zb:IT 14 39 Tryz.f14 [(4,4,false)]:=@iM _ _ _ _ Tryz.func14 rfl rfl rfl KR KR
abbrev tt:FuncId:=15
theorem ud:IT 15 22 Tryz.f15 [(4,3,false)]:=@iM _ _ _ _ Tryz.func15 rfl rfl rfl KR KR
abbrev tB:FuncId:=16
theorem uh:IT 16 30 Tryz.f16 [(4,3,false)]:=@iM _ _ _ _ Tryz.func16 rfl rfl rfl KR KR
abbrev HZ:FuncId:=17
theorem vZ:IT 17 48 Tryz.f17 [(4,52,true)]:=@iM _ _ _ _ Tryz.func17 rfl rfl rfl KR KR
abbrev H8:FuncId:=18
theorem v4:IT 18 38 Tryz.f18 [(4,52,true)]:=@iM _ _ _ _ Tryz.func18 rfl rfl rfl KR KR
abbrev rm:FuncId:=20
theorem rA:IT 20 96 Tryz.f20 [(2,4,false)]:=@iM _ _ _ _ Tryz.func20 rfl rfl rfl KR KR
abbrev rx:FuncId:=22
theorem rE:IT 22 87 Tryz.f22 [(2,4,false)]:=@iM _ _ _ _ Tryz.func22 rfl rfl rfl KR KR
abbrev pT:FuncId:=29
theorem gf:IT 29 77 Tryz.f29 [(4,9,false)]:=@iM _ _ _ _ Tryz.func29 rfl rfl rfl KR KR
abbrev Cd:FuncId:=32
theorem CR:IT 32 12 Tryz.f32 [(4,3,false)]:=@iM _ _ _ _ Tryz.func32 rfl rfl rfl KR KR
abbrev Cg:FuncId:=33
theorem CU:IT 33 36 Tryz.f33 [(4,3,false)]:=@iM _ _ _ _ Tryz.func33 rfl rfl rfl KR KR
abbrev tp:FuncId:=34
theorem ua:IT 34 27 Tryz.f34 [(4,3,false)]:=@iM _ _ _ _ Tryz.func34 rfl rfl rfl KR KR
abbrev lf:FuncId:=35
theorem uc:IT 35 27 Tryz.f35 [(4,3,false)]:=@iM _ _ _ _ Tryz.func35 rfl rfl rfl KR KR
abbrev BS:FuncId:=36
theorem Cz:IT 36 38 Tryz.f36 [(2,52,true)]:=@iM _ _ _ _ Tryz.func36 rfl rfl rfl KR KR
abbrev B7:FuncId:=38
theorem CL:IT 38 9 Tryz.f38 [(2,42,true)]:=@iM _ _ _ _ Tryz.func38 rfl rfl rfl KR KR
abbrev Cb:FuncId:=39
theorem CP:IT 39 43 Tryz.f39 [(2,48,true)]:=@iM _ _ _ _ Tryz.func39 rfl rfl rfl KR KR
abbrev tl:FuncId:=40
theorem tZ:IT 40 23 Tryz.f40 [(2,49,false)]:=@iM _ _ _ _ Tryz.func40 rfl rfl rfl KR KR
abbrev tn:FuncId:=41
theorem t9:IT 41 23 Tryz.f41 [(2,50,false)]:=@iM _ _ _ _ Tryz.func41 rfl rfl rfl KR KR
abbrev rp:FuncId:=42
theorem rC:IT 42 36 Tryz.f42 [(2,52,true)]:=@iM _ _ _ _ Tryz.func42 rfl rfl rfl KR KR
abbrev Cj:FuncId:=44
theorem CX:IT 44 11 Tryz.f44 [(4,4,false)]:=@iM _ _ _ _ Tryz.func44 rfl rfl rfl KR KR
abbrev Cn:FuncId:=45
theorem C1:IT 45 65 Tryz.f45 [(4,4,false)]:=@iM _ _ _ _ Tryz.func45 rfl rfl rfl KR KR
abbrev tF:FuncId:=46
theorem ul:IT 46 27 Tryz.f46 [(4,4,false)]:=@iM _ _ _ _ Tryz.func46 rfl rfl rfl KR KR
abbrev tH:FuncId:=47
theorem uo:IT 47 27 Tryz.f47 [(4,4,false)]:=@iM _ _ _ _ Tryz.func47 rfl rfl rfl KR KR
abbrev wG:FuncId:=48
theorem xd:IT 48 10 Tryz.f48 [(4,3,false)]:=@iM _ _ _ _ Tryz.func48 rfl rfl rfl KR KR
abbrev wJ:FuncId:=49
theorem xh:IT 49 26 Tryz.f49 [(4,3,false)]:=@iM _ _ _ _ Tryz.func49 rfl rfl rfl KR KR
abbrev pI:FuncId:=50
theorem pX:IT 50 93 Tryz.f50 [(4,3,false)]:=@iM _ _ _ _ Tryz.func50 rfl rfl rfl KR KR
abbrev jm:FuncId:=51
theorem jp:IT 51 36 Tryz.f51 [(4,3,false)]:=@iM _ _ _ _ Tryz.func51 rfl rfl rfl KR KR
abbrev wK:FuncId:=52
theorem xi:IT 52 12 Tryz.f52 [(4,3,false)]:=@iM _ _ _ _ Tryz.func52 rfl rfl rfl KR KR
abbrev wN:FuncId:=53
theorem xp:IT 53 36 Tryz.f53 [(4,3,false)]:=@iM _ _ _ _ Tryz.func53 rfl rfl rfl KR KR
abbrev pK:FuncId:=54
theorem pZ:IT 54 115 Tryz.f54 [(4,3,false)]:=@iM _ _ _ _ Tryz.func54 rfl rfl rfl KR KR
abbrev jn:FuncId:=55
theorem jq:IT 55 42 Tryz.f55 [(4,3,false)]:=@iM _ _ _ _ Tryz.func55 rfl rfl rfl KR KR
abbrev BR:FuncId:=56
theorem pg:IT 56 55 Tryz.f56 [(2,52,true)]:=@iM _ _ _ _ Tryz.func56 rfl rfl rfl KR KR
abbrev yw:FuncId:=57
theorem bW:IT 57 83 Tryz.f57 [(4,52,true)]:=@iM _ _ _ _ Tryz.func57 rfl rfl rfl KR KR
abbrev rq:FuncId:=58
theorem kg:IT 58 62 Tryz.f58 []:=@iM _ _ _ _ Tryz.func58 rfl rfl rfl KR KR
abbrev jo:FuncId:=59
theorem bw:IT 59 65 Tryz.f59 []:=@iM _ _ _ _ Tryz.func59 rfl rfl rfl KR KR
abbrev tj:FuncId:=64
theorem tY:IT 64 120 Tryz.f64 [(2,3,false)]:=@iM _ _ _ _ Tryz.func64 rfl rfl rfl KR KR
abbrev HW:FuncId:=65
theorem Ii:IT 65 15 Tryz.f65 [(6,4,false)]:=@iM _ _ _ _ Tryz.func65 rfl rfl rfl KR KR
abbrev pF:FuncId:=66
theorem pW:IT 66 129 Tryz.f66 [(2,4,false)]:=@iM _ _ _ _ Tryz.func66 rfl rfl rfl KR KR
abbrev le:FuncId:=67
theorem lq:IT 67 219 Tryz.f67 [(4,4,false)]:=@iM _ _ _ _ Tryz.func67 rfl rfl rfl KR KR
abbrev tM:FuncId:=70
theorem uv:IT 70 91 Tryz.f70 [(2,3,false)]:=@iM _ _ _ _ Tryz.func70 rfl rfl rfl KR KR
abbrev Co:FuncId:=71
theorem C2:IT 71 15 Tryz.f71 [(6,4,false)]:=@iM _ _ _ _ Tryz.func71 rfl rfl rfl KR KR
abbrev pR:FuncId:=72
theorem qb:IT 72 124 Tryz.f72 [(2,4,false)]:=@iM _ _ _ _ Tryz.func72 rfl rfl rfl KR KR
abbrev lg:FuncId:=73
theorem ls:IT 73 281 Tryz.f73 [(4,4,false)]:=@iM _ _ _ _ Tryz.func73 rfl rfl rfl KR KR
abbrev nk:FuncId:=75
theorem nq:IT 75 108 Tryz.f75 [(2,4,false)]:=@iM _ _ _ _ Tryz.func75 rfl rfl rfl KR KR
abbrev H4:FuncId:=76
theorem Il:IT 76 13 Tryz.f76 [(4,9,false)]:=@iM _ _ _ _ Tryz.func76 rfl rfl rfl KR KR
abbrev n7:FuncId:=78
theorem n9:IT 78 11 Tryz.f78 [(2,25,false)]:=@iM _ _ _ _ Tryz.func78 rfl rfl rfl KR KR
abbrev lh:FuncId:=79
theorem ur:IT 79 36 Tryz.f79 [(2,120,true),(3,4,false)]:=@iM _ _ _ _ Tryz.func79 rfl rfl rfl KR KR
abbrev kL:FuncId:=81
theorem kN:IT 81 102 Tryz.f81 [(4,124,true)]:=@iM _ _ _ _ Tryz.func81 rfl rfl rfl KR KR
abbrev FE:FuncId:=82
theorem FZ:IT 82 10 Tryz.f82 [(2,25,false)]:=@iM _ _ _ _ Tryz.func82 rfl rfl rfl KR KR
abbrev yF:FuncId:=83
theorem yW:IT 83 27 Tryz.f83 [(4,3,false)]:=@iM _ _ _ _ Tryz.func83 rfl rfl rfl KR KR
abbrev FM:FuncId:=84
theorem Gc:IT 84 18 Tryz.f84 [(4,3,false)]:=@iM _ _ _ _ Tryz.func84 rfl rfl rfl KR KR
abbrev tq:FuncId:=85
theorem ub:IT 85 28 Tryz.f85 [(4,3,false)]:=@iM _ _ _ _ Tryz.func85 rfl rfl rfl KR KR
abbrev Ce:FuncId:=86
theorem CS:IT 86 12 Tryz.f86 [(4,3,false)]:=@iM _ _ _ _ Tryz.func86 rfl rfl rfl KR KR
abbrev yG:FuncId:=87
theorem yX:IT 87 12 Tryz.f87 [(4,3,false)]:=@iM _ _ _ _ Tryz.func87 rfl rfl rfl KR KR
abbrev yH:FuncId:=88
theorem yY:IT 88 12 Tryz.f88 [(4,3,false)]:=@iM _ _ _ _ Tryz.func88 rfl rfl rfl KR KR
abbrev wD:FuncId:=89
theorem w9:IT 89 19 Tryz.f89 [(4,3,false)]:=@iM _ _ _ _ Tryz.func89 rfl rfl rfl KR KR
abbrev wE:FuncId:=90
theorem xa:IT 90 20 Tryz.f90 [(4,3,false)]:=@iM _ _ _ _ Tryz.func90 rfl rfl rfl KR KR
abbrev B1:FuncId:=91
theorem CH:IT 91 34 Tryz.f91 [(2,42,true)]:=@iM _ _ _ _ Tryz.func91 rfl rfl rfl KR KR
abbrev o7:FuncId:=92
theorem CC:IT 92 28 Tryz.f92 [(2,48,true)]:=@iM _ _ _ _ Tryz.func92 rfl rfl rfl KR KR
abbrev BU:FuncId:=93
theorem CA:IT 93 6 Tryz.f93 [(2,50,false)]:=@iM _ _ _ _ Tryz.func93 rfl rfl rfl KR KR
abbrev BX:FuncId:=94
theorem CE:IT 94 9 Tryz.f94 [(2,109,true)]:=@iM _ _ _ _ Tryz.func94 rfl rfl rfl KR KR
abbrev HY:FuncId:=96
theorem Ik:IT 96 21 Tryz.f96 [(4,50,false)]:=@iM _ _ _ _ Tryz.func96 rfl rfl rfl KR KR
abbrev yA:FuncId:=102
theorem yR:IT 102 23 Tryz.f102 [(2,40,false)]:=@iM _ _ _ _ Tryz.func102 rfl rfl rfl KR KR
abbrev FK:FuncId:=103
theorem Ga:IT 103 13 Tryz.f103 [(2,43,true)]:=@iM _ _ _ _ Tryz.func103 rfl rfl rfl KR KR
abbrev tm:FuncId:=104
theorem t8:IT 104 22 Tryz.f104 [(2,25,false)]:=@iM _ _ _ _ Tryz.func104 rfl rfl rfl KR KR
abbrev B9:FuncId:=105
theorem CN:IT 105 23 Tryz.f105 [(2,44,false)]:=@iM _ _ _ _ Tryz.func105 rfl rfl rfl KR KR
abbrev yB:FuncId:=106
theorem yS:IT 106 23 Tryz.f106 [(2,45,false)]:=@iM _ _ _ _ Tryz.func106 rfl rfl rfl KR KR
abbrev yC:FuncId:=107
theorem yT:IT 107 23 Tryz.f107 [(2,46,false)]:=@iM _ _ _ _ Tryz.func107 rfl rfl rfl KR KR
abbrev wB:FuncId:=108
theorem wY:IT 108 39 Tryz.f108 [(2,109,true)]:=@iM _ _ _ _ Tryz.func108 rfl rfl rfl KR KR
abbrev wC:FuncId:=109
theorem wZ:IT 109 14 Tryz.f109 [(2,78,true)]:=@iM _ _ _ _ Tryz.func109 rfl rfl rfl KR KR
abbrev tK:FuncId:=110
theorem ut:IT 110 26 Tryz.f110 [(2,42,true)]:=@iM _ _ _ _ Tryz.func110 rfl rfl rfl KR KR
abbrev li:FuncId:=111
theorem uw:IT 111 33 Tryz.f111 [(2,48,true)]:=@iM _ _ _ _ Tryz.func111 rfl rfl rfl KR KR
abbrev Cq:FuncId:=112
theorem C4:IT 112 6 Tryz.f112 [(2,50,false)]:=@iM _ _ _ _ Tryz.func112 rfl rfl rfl KR KR
abbrev pN:FuncId:=113
theorem qa:IT 113 8 Tryz.f113 [(2,109,true)]:=@iM _ _ _ _ Tryz.func113 rfl rfl rfl KR KR
abbrev iO:FuncId:=119
theorem iU:IT 119 19 Tryz.f119 [(4,159,false)]:=@iM _ _ _ _ Tryz.func119 rfl rfl rfl KR KR
abbrev yL:FuncId:=123
theorem zd:IT 123 27 Tryz.f123 [(4,4,false)]:=@iM _ _ _ _ Tryz.func123 rfl rfl rfl KR KR
abbrev FN:FuncId:=124
theorem Gd:IT 124 17 Tryz.f124 [(4,4,false)]:=@iM _ _ _ _ Tryz.func124 rfl rfl rfl KR KR
abbrev tG:FuncId:=125
theorem um:IT 125 26 Tryz.f125 [(4,4,false)]:=@iM _ _ _ _ Tryz.func125 rfl rfl rfl KR KR
abbrev Cl:FuncId:=126
theorem CZ:IT 126 27 Tryz.f126 [(4,4,false)]:=@iM _ _ _ _ Tryz.func126 rfl rfl rfl KR KR
abbrev yM:FuncId:=127
theorem ze:IT 127 27 Tryz.f127 [(4,4,false)]:=@iM _ _ _ _ Tryz.func127 rfl rfl rfl KR KR
abbrev yN:FuncId:=128
theorem zf:IT 128 27 Tryz.f128 [(4,4,false)]:=@iM _ _ _ _ Tryz.func128 rfl rfl rfl KR KR
abbrev wP:FuncId:=129
theorem xq:IT 129 61 Tryz.f129 [(4,4,false)]:=@iM _ _ _ _ Tryz.func129 rfl rfl rfl KR KR
abbrev wQ:FuncId:=130
theorem xr:IT 130 20 Tryz.f130 [(4,4,false)]:=@iM _ _ _ _ Tryz.func130 rfl rfl rfl KR KR
abbrev tu:FuncId:=131
theorem ue:IT 131 35 Tryz.f131 [(4,3,false)]:=@iM _ _ _ _ Tryz.func131 rfl rfl rfl KR KR
abbrev yI:FuncId:=132
theorem yZ:IT 132 14 Tryz.f132 [(4,3,false)]:=@iM _ _ _ _ Tryz.func132 rfl rfl rfl KR KR
abbrev pJ:FuncId:=133
theorem pY:IT 133 20 Tryz.f133 [(4,3,false)]:=@iM _ _ _ _ Tryz.func133 rfl rfl rfl KR KR
abbrev wH:FuncId:=134
theorem xf:IT 134 34 Tryz.f134 [(4,3,false)]:=@iM _ _ _ _ Tryz.func134 rfl rfl rfl KR KR
abbrev tz:FuncId:=135
theorem uf:IT 135 29 Tryz.f135 [(4,3,false)]:=@iM _ _ _ _ Tryz.func135 rfl rfl rfl KR KR
abbrev tA:FuncId:=136
theorem ug:IT 136 34 Tryz.f136 [(4,3,false)]:=@iM _ _ _ _ Tryz.func136 rfl rfl rfl KR KR
abbrev wF:FuncId:=137
theorem xb:IT 137 20 Tryz.f137 [(2,9,false)]:=@iM _ _ _ _ Tryz.func137 rfl rfl rfl KR KR
abbrev tC:FuncId:=138
theorem ui:IT 138 41 Tryz.f138 [(4,3,false)]:=@iM _ _ _ _ Tryz.func138 rfl rfl rfl KR KR
abbrev yJ:FuncId:=139
theorem za:IT 139 18 Tryz.f139 [(4,3,false)]:=@iM _ _ _ _ Tryz.func139 rfl rfl rfl KR KR
abbrev pL:FuncId:=140
theorem p9:IT 140 22 Tryz.f140 [(4,3,false)]:=@iM _ _ _ _ Tryz.func140 rfl rfl rfl KR KR
abbrev wL:FuncId:=141
theorem xm:IT 141 40 Tryz.f141 [(4,3,false)]:=@iM _ _ _ _ Tryz.func141 rfl rfl rfl KR KR
abbrev tD:FuncId:=142
theorem uj:IT 142 33 Tryz.f142 [(4,3,false)]:=@iM _ _ _ _ Tryz.func142 rfl rfl rfl KR KR
abbrev tE:FuncId:=143
theorem uk:IT 143 40 Tryz.f143 [(4,3,false)]:=@iM _ _ _ _ Tryz.func143 rfl rfl rfl KR KR
abbrev wx:FuncId:=144
theorem fY:IT 144 115 Tryz.f144 [(4,176,true)]:=@iM _ _ _ _ Tryz.func144 rfl rfl rfl KR KR
abbrev ri:FuncId:=145
theorem aU:IT 145 86 Tryz.f145 [(4,179,true)]:=@iM _ _ _ _ Tryz.func145 rfl rfl rfl KR KR
abbrev HX:FuncId:=146
theorem Ij:IT 146 43 Tryz.f146 [(6,50,false)]:=@iM _ _ _ _ Tryz.func146 rfl rfl rfl KR KR
abbrev yx:FuncId:=147
theorem yO:IT 147 18 Tryz.f147 [(4,4,false)]:=@iM _ _ _ _ Tryz.func147 rfl rfl rfl KR KR
abbrev B3:FuncId:=148
theorem kO:IT 148 20 Tryz.f148 [(4,4,false)]:=@iM _ _ _ _ Tryz.func148 rfl rfl rfl KR KR
abbrev pG:FuncId:=149
theorem gb:IT 149 81 Tryz.f149 [(4,75,true),(5,4,false)]:=@iM _ _ _ _ Tryz.func149 rfl rfl rfl KR KR
abbrev wy:FuncId:=150
theorem bZ:IT 150 110 Tryz.f150 [(6,176,true)]:=@iM _ _ _ _ Tryz.func150 rfl rfl rfl KR KR
abbrev rj:FuncId:=151
theorem aV:IT 151 121 Tryz.f151 [(6,179,true)]:=@iM _ _ _ _ Tryz.func151 rfl rfl rfl KR KR
abbrev tN:FuncId:=152
theorem g8:IT 152 246 Tryz.f152 [(4,174,false)]:=@iM _ _ _ _ Tryz.func152 rfl rfl rfl KR KR
abbrev pO:FuncId:=153
theorem bd:IT 153 75 Tryz.f153 [(4,179,true)]:=@iM _ _ _ _ Tryz.func153 rfl rfl rfl KR KR
abbrev H6:FuncId:=154
theorem Io:IT 154 44 Tryz.f154 [(6,50,false)]:=@iM _ _ _ _ Tryz.func154 rfl rfl rfl KR KR
abbrev pS:FuncId:=155
theorem dc:IT 155 107 Tryz.f155 [(4,75,true),(5,4,false)]:=@iM _ _ _ _ Tryz.func155 rfl rfl rfl KR KR
abbrev tP:FuncId:=156
theorem cq:IT 156 131 Tryz.f156 []:=@iM _ _ _ _ Tryz.func156 rfl rfl rfl KR KR
abbrev pQ:FuncId:=157
theorem bf:IT 157 95 Tryz.f157 [(6,109,true)]:=@iM _ _ _ _ Tryz.func157 rfl rfl rfl KR KR
abbrev pH:FuncId:=162
theorem gc:IT 162 23 Tryz.f162 [(4,9,false)]:=@iM _ _ _ _ Tryz.func162 rfl rfl rfl KR KR
abbrev wt:FuncId:=163
theorem wX:IT 163 28 Tryz.f163 [(2,4,false)]:=@iM _ _ _ _ Tryz.func163 rfl rfl rfl KR KR
abbrev te:FuncId:=164
theorem tV:IT 164 5 Tryz.f164 [(2,4,false)]:=@iM _ _ _ _ Tryz.func164 rfl rfl rfl KR KR
abbrev rf:FuncId:=165
theorem ry:IT 165 19 Tryz.f165 [(2,4,false)]:=@iM _ _ _ _ Tryz.func165 rfl rfl rfl KR KR
abbrev wq:FuncId:=166
theorem wW:IT 166 96 Tryz.f166 [(4,4,false)]:=@iM _ _ _ _ Tryz.func166 rfl rfl rfl KR KR
abbrev FR:FuncId:=167
theorem Gh:IT 167 28 Tryz.f167 [(2,4,false)]:=@iM _ _ _ _ Tryz.func167 rfl rfl rfl KR KR
abbrev Cp:FuncId:=168
theorem C3:IT 168 18 Tryz.f168 [(2,4,false)]:=@iM _ _ _ _ Tryz.func168 rfl rfl rfl KR KR
abbrev o9:FuncId:=169
theorem kP:IT 169 92 Tryz.f169 [(4,124,true)]:=@iM _ _ _ _ Tryz.func169 rfl rfl rfl KR KR
abbrev FQ:FuncId:=170
theorem Gg:IT 170 19 Tryz.f170 [(4,4,false)]:=@iM _ _ _ _ Tryz.func170 rfl rfl rfl KR KR
abbrev ro:FuncId:=171
theorem rB:IT 171 22 Tryz.f171 []:=@iM _ _ _ _ Tryz.func171 rfl rfl rfl KR KR
abbrev tJ:FuncId:=172
theorem uq:IT 172 23 Tryz.f172 [(2,9,false)]:=@iM _ _ _ _ Tryz.func172 rfl rfl rfl KR KR
abbrev FU:FuncId:=173
theorem Gj:IT 173 22 Tryz.f173 [(4,9,false)]:=@iM _ _ _ _ Tryz.func173 rfl rfl rfl KR KR
abbrev H5:FuncId:=174
theorem Im:IT 174 23 Tryz.f174 [(4,25,false)]:=@iM _ _ _ _ Tryz.func174 rfl rfl rfl KR KR
abbrev FS:FuncId:=175
theorem Gi:IT 175 6 Tryz.f175 [(2,25,false)]:=@iM _ _ _ _ Tryz.func175 rfl rfl rfl KR KR
abbrev pU:FuncId:=176
theorem qc:IT 176 31 Tryz.f176 [(2,4,false)]:=@iM _ _ _ _ Tryz.func176 rfl rfl rfl KR KR
abbrev FH:FuncId:=177
theorem F8:IT 177 26 Tryz.f177 [(4,9,false)]:=@iM _ _ _ _ Tryz.func177 rfl rfl rfl KR KR
abbrev tf:FuncId:=178
theorem tW:IT 178 32 Tryz.f178 [(2,120,true),(3,4,false)]:=@iM _ _ _ _ Tryz.func178 rfl rfl rfl KR KR
abbrev BV:FuncId:=179
theorem CD:IT 179 29 Tryz.f179 [(6,4,false)]:=@iM _ _ _ _ Tryz.func179 rfl rfl rfl KR KR
abbrev Cc:FuncId:=180
theorem CQ:IT 180 19 Tryz.f180 [(4,3,false)]:=@iM _ _ _ _ Tryz.func180 rfl rfl rfl KR KR
abbrev FD:FuncId:=181
theorem FY:IT 181 12 Tryz.f181 [(2,43,true)]:=@iM _ _ _ _ Tryz.func181 rfl rfl rfl KR KR
abbrev o8:FuncId:=182
theorem pj:IT 182 13 Tryz.f182 [(4,109,true)]:=@iM _ _ _ _ Tryz.func182 rfl rfl rfl KR KR
abbrev B5:FuncId:=184
theorem CJ:IT 184 15 Tryz.f184 [(2,198,true)]:=@iM _ _ _ _ Tryz.func184 rfl rfl rfl KR KR
abbrev FL:FuncId:=185
theorem Gb:IT 185 14 Tryz.f185 [(2,206,true)]:=@iM _ _ _ _ Tryz.func185 rfl rfl rfl KR KR
abbrev B6:FuncId:=186
theorem CK:IT 186 11 Tryz.f186 [(2,202,true)]:=@iM _ _ _ _ Tryz.func186 rfl rfl rfl KR KR
abbrev B8:FuncId:=187
theorem CM:IT 187 14 Tryz.f187 [(2,204,true)]:=@iM _ _ _ _ Tryz.func187 rfl rfl rfl KR KR
abbrev n6:FuncId:=188
theorem n8:IT 188 13 Tryz.f188 [(4,109,true)]:=@iM _ _ _ _ Tryz.func188 rfl rfl rfl KR KR
abbrev tL:FuncId:=189
theorem uu:IT 189 24 Tryz.f189 [(2,9,false)]:=@iM _ _ _ _ Tryz.func189 rfl rfl rfl KR KR
abbrev Ch:FuncId:=190
theorem CV:IT 190 21 Tryz.f190 [(4,4,false)]:=@iM _ _ _ _ Tryz.func190 rfl rfl rfl KR KR
abbrev FO:FuncId:=191
theorem Ge:IT 191 20 Tryz.f191 [(4,4,false)]:=@iM _ _ _ _ Tryz.func191 rfl rfl rfl KR KR
abbrev Ci:FuncId:=192
theorem CW:IT 192 15 Tryz.f192 [(4,4,false)]:=@iM _ _ _ _ Tryz.func192 rfl rfl rfl KR KR
abbrev Ck:FuncId:=193
theorem CY:IT 193 20 Tryz.f193 [(4,4,false)]:=@iM _ _ _ _ Tryz.func193 rfl rfl rfl KR KR
abbrev wI:FuncId:=194
theorem xg:IT 194 19 Tryz.f194 [(4,3,false)]:=@iM _ _ _ _ Tryz.func194 rfl rfl rfl KR KR
abbrev wM:FuncId:=195
theorem xn:IT 195 21 Tryz.f195 [(4,3,false)]:=@iM _ _ _ _ Tryz.func195 rfl rfl rfl KR KR
abbrev kG:FuncId:=196
theorem CB:IT 196 138 Tryz.f196 [(4,176,true)]:=@iM _ _ _ _ Tryz.func196 rfl rfl rfl KR KR
abbrev BW:FuncId:=197
theorem kM:IT 197 26 Tryz.f197 [(4,75,true)]:=@iM _ _ _ _ Tryz.func197 rfl rfl rfl KR KR
abbrev HV:FuncId:=198
theorem Ih:IT 198 120 Tryz.f198 [(2,4,false)]:=@iM _ _ _ _ Tryz.func198 rfl rfl rfl KR KR
abbrev o6:FuncId:=199
theorem pi:IT 199 28 Tryz.f199 [(4,48,true),(5,4,false)]:=@iM _ _ _ _ Tryz.func199 rfl rfl rfl KR KR
abbrev mK:FuncId:=200
theorem bX:IT 200 140 Tryz.f200 [(6,48,true)]:=@iM _ _ _ _ Tryz.func200 rfl rfl rfl KR KR
abbrev pP:FuncId:=201
theorem ge:IT 201 26 Tryz.f201 [(4,75,true)]:=@iM _ _ _ _ Tryz.func201 rfl rfl rfl KR KR
abbrev pV:FuncId:=202
theorem bH:IT 202 162 Tryz.f202 []:=@iM _ _ _ _ Tryz.func202 rfl rfl rfl KR KR
abbrev FF:FuncId:=211
theorem F7:IT 211 35 Tryz.f211 [(2,9,false)]:=@iM _ _ _ _ Tryz.func211 rfl rfl rfl KR KR
abbrev B0:FuncId:=213
theorem CG:IT 213 67 Tryz.f213 [(2,9,false)]:=@iM _ _ _ _ Tryz.func213 rfl rfl rfl KR KR
abbrev ti:FuncId:=214
theorem tX:IT 214 25 Tryz.f214 [(2,9,false)]:=@iM _ _ _ _ Tryz.func214 rfl rfl rfl KR KR
abbrev Cf:FuncId:=215
theorem CT:IT 215 12 Tryz.f215 [(4,3,false)]:=@iM _ _ _ _ Tryz.func215 rfl rfl rfl KR KR
abbrev Ca:FuncId:=216
theorem CO:IT 216 22 Tryz.f216 [(2,196,false)]:=@iM _ _ _ _ Tryz.func216 rfl rfl rfl KR KR
abbrev Cm:FuncId:=217
theorem C0:IT 217 26 Tryz.f217 [(4,4,false)]:=@iM _ _ _ _ Tryz.func217 rfl rfl rfl KR KR
abbrev o5:FuncId:=218
theorem ph:IT 218 18 Tryz.f218 [(2,3,false)]:=@iM _ _ _ _ Tryz.func218 rfl rfl rfl KR KR
abbrev BZ:FuncId:=219
theorem CF:IT 219 16 Tryz.f219 [(2,4,false),(3,4,false),(4,4,false),(5,4,false),(6,4,false)]:=@iM _ _ _ _ Tryz.func219 rfl rfl rfl KR KR
abbrev HU:FuncId:=223
theorem Ig:IT 223 33 Tryz.f223 [(2,4,false)]:=@iM _ _ _ _ Tryz.func223 rfl rfl rfl KR KR
end Go.K
end
section
open Go Go.Tm Go.Proofs
namespace Go.K
structure Entry where
 kind:Int
 epoch:Int
 task:Int
 text:ByteArray
 deriving DecidableEq
abbrev jL(k ep ta:Int)(tx:ByteArray):V:=.agg [.t (.i k),.t (.i ep),.t (.i ta),.t (.s tx)]
abbrev Entry.v(e:Entry):V:=jL e.kind e.epoch e.task e.text
theorem aa(x lo hi:Int):F Co [.val (.i x),.val (.i lo),.val (.i hi)] (.b (decide (lo≤x∧x≤hi))) [[],[],[]]:=by
 refine C2 ?_
 conv=>whnf
 refine g 0 0 []<|J UA ?_
 by_cases h1:lo≤x
 refine g 7 15 [BT,BT,BT,BT]<|J Zcg<|RT ?_
 exact vbd OM
 refine g 7 15 [BF,BF,BF,BF]<|J Zc8<|RT ?_
 exact vbf OM
theorem ah(x lo hi:Int):F HW [.val (.i x),.val (.i lo),.val (.i hi)] (.b (decide (lo≤x∧x≤hi))) [[],[],[]]:=by
 refine Ii ?_
 conv=>whnf
 refine g 0 0 []<|J UA ?_
 by_cases h1:lo≤x
 refine g 7 15 [BT,BT,BT,BT]<|J Zcg<|RT ?_
 exact vbd OM
 refine g 7 15 [BF,BF,BF,BF]<|J Zc8<|RT ?_
 exact vbf OM
end Go.K
end
section
open Go Go.Tm Go.Proofs
namespace Go.K
def Entry.ok(e:Entry):Prop:=(1≤e.epoch∧e.epoch≤300)∧(0≤e.task∧e.task≤39)∧((e.kind = 1∧e.task = 0∧e.text = ⟨#[]⟩)∨(e.kind = 2∧(e.text.size:Int) = 8))
instance (e:Entry):Decidable e.ok:=by unfold Entry.ok;infer_instance
theorem jv(k ep ta:Int)(tx:ByteArray):F pU [.val (jL k ep ta tx)] (.b (decide (Entry.ok ⟨k,ep,ta,tx⟩))) [[]]:=by
 refine qc ?_
 conv=>whnf
 refine g 0 1 []<|J ⟨UD,I,I⟩<|W.sq ?_
 by_cases h1:(1:Int)≤ep∧ep≤(300:Int)
 refine g 5 12 [.call (V.b (decide (1≤ep∧ep≤300))) [[],[],[]],BF,BF,BF,.call (V.b (decide (0≤ta∧ta≤39))) [[],[],[]],BF,BF]<|J ⟨I,I,⟨UC,I,UU,UA,aa _ _ _⟩,I,I,⟨nO,I⟩,⟨nO,I⟩,⟨nO,UC,I,UU,UA,aa _ _ _⟩,⟨nO,I⟩,nO,I⟩<|W.cn<|J (fun h2=>?_) fun h2=>?_
 replace h2:=ndt h2
 refine g 12 13 []<|J UA<|RT ?_
 rotate_left
 replace h2:=ndf h2
 refine W.skip<|W.sq<|g 12 14 []<|J UB<|W.blk<|g 16 17 []<|J UB<|W.cn<|J (fun h3=>?_) fun h3=>?_
 replace h3:=dt h3
 by_cases h4:ta = (0:Int)
 refine g 14 25 [BT,BT,BT,BT]<|J Zcg<|RT ?_
 rotate_left
 refine g 14 25 [BF,BF,BF,BF]<|J Zc8<|RT ?_
 rotate_left
 replace h3:=df h3
 refine g 14 16 []<|J UB<|W.cn<|J (fun h4=>?_) fun h4=>?_
 replace h4:=dt h4
 refine g 25 31 []<|J UE<|RT ?_
 rotate_left
 replace h4:=df h4
 refine W.skip<|g 25 27 []<|J UA<|RT ?_
 rotate_left
 refine g 5 12 [.call (V.b (decide (1≤ep∧ep≤300))) [[],[],[]],BT,BT,BT,BT,BT]<|J ⟨I,I,⟨UC,I,UU,UA,aa _ _ _⟩,I,I,ag OM,ag OM,ag OM,ag OM,ag OM,I⟩<|W.cn<|J (fun _=>(g 12 13 []<|J UA (RT ?_))) (noF rfl)
 rotate_left
 all_goals (first|exact vbt (by unfold Entry.ok;simp_all;done)|exact vbf (by unfold Entry.ok;simp_all;omega)|exact vbf (by unfold Entry.ok;simp_all)|exact vbd (by unfold Entry.ok;simp_all;done)|exact vbd (by unfold Entry.ok;simp_all;omega))
theorem IH(k ep ta:Int)(tx:ByteArray):F HU [.val (jL k ep ta tx)] (.b (decide (Entry.ok ⟨k,ep,ta,tx⟩))) [[]]:=by
 refine Ig ?_
 conv=>whnf
 refine g 0 1 []<|J ⟨UD,I,I⟩<|W.sq ?_
 by_cases h1:(1:Int)≤ep∧ep≤(300:Int)
 refine g 5 12 [.call (V.b (decide (1≤ep∧ep≤300))) [[],[],[]],BF,BF,BF,.call (V.b (decide (0≤ta∧ta≤39))) [[],[],[]],BF,BF]<|J ⟨I,I,⟨UC,I,UU,UA,ah _ _ _⟩,I,I,⟨nO,I⟩,⟨nO,I⟩,⟨nO,UC,I,UU,UA,ah _ _ _⟩,⟨nO,I⟩,nO,I⟩<|W.cn<|J (fun h2=>?_) fun h2=>?_
 replace h2:=ndt h2
 refine g 12 13 []<|J UA<|RT ?_
 rotate_left
 replace h2:=ndf h2
 refine W.skip<|W.sq<|g 12 15 []<|J UC<|W.cn<|J (fun h3=>?_) fun h3=>?_
 replace h3:=dt h3
 by_cases h4:ta = (0:Int)
 refine g 15 24 [BT,BT,BT,BT]<|J Zcg<|RT ?_
 rotate_left
 refine g 15 24 [BF,BF,BF,BF]<|J Zc8<|RT ?_
 rotate_left
 replace h3:=df h3
 refine W.skip ?_
 by_cases h4:k = (2:Int)
 refine g 15 33 [BT,BT,BT,BT,BT]<|J ⟨I,I,I,I,⟨tO,I⟩,⟨tO,I⟩,⟨tO,I⟩,⟨tO,I⟩,tO,I,I⟩<|RT ?_
 rotate_left
 refine g 15 33 [BF,BF,BF,BF,BF]<|J ⟨I,I,I,I,dO,dO,dO,dO,dO,I,I⟩<|RT ?_
 rotate_left
 refine g 5 12 [.call (V.b (decide (1≤ep∧ep≤300))) [[],[],[]],BT,BT,BT,BT,BT]<|J ⟨I,I,⟨UC,I,UU,UA,ah _ _ _⟩,I,I,ag OM,ag OM,ag OM,ag OM,ag OM,I⟩<|W.cn<|J (fun _=>(g 12 13 []<|J UA (RT ?_))) (noF rfl)
 rotate_left
 all_goals (first|exact vbt (by unfold Entry.ok;simp_all;done)|exact vbf (by unfold Entry.ok;simp_all;omega)|exact vbf (by unfold Entry.ok;simp_all)|exact vbd (by unfold Entry.ok;simp_all;done)|exact vbd (by unfold Entry.ok;simp_all;omega))
abbrev emp:ByteArray:=⟨#[]⟩
def bl(l:List Int):ByteArray:=⟨(l.map fun n=>UInt8.ofNat n.toNat).toArray⟩
def Lx(e:Entry):ByteArray:=if e.ok then bl [IntKind.u8.wrap e.kind,IntKind.u8.wrap (e.epoch.fdiv 256),IntKind.u8.wrap e.epoch,IntKind.u8.wrap e.task] ++e.text else emp
theorem lA(k ep ta:Int)(tx:ByteArray)(ht:tx.size≤281474976710656):F tL [.val (jL k ep ta tx)] (.s (Lx ⟨k,ep,ta,tx⟩)) [[]]:=by
 refine uu ?_
 conv=>whnf
 refine g 0 0 []<|J ⟨UD,I,I⟩<|W.sq<|g 4 5 [.call (V.b (decide (Entry.ok {kind:=k,epoch:=ep,task:=ta,text:=tx:Entry}))) [[]]]<|J ⟨I,⟨UA,I,⟨UD,I⟩,UA,jv _ _ _ _⟩,I,I⟩<|W.cn<|J (fun h1=>?_) fun h1=>?_
 replace h1:=ndt h1
 refine g 5 6 []<|J UA<|RT ?_
 rotate_left
 replace h1:=ndf h1
 refine W.skip<|g 10 24 [.i (IntKind.wrap IntKind.u8 k),.i (Int.fdiv ep (2 ^ min (Int.toNat 8) (IntKind.bits IntKind.i64))),.i (IntKind.wrap IntKind.u8 (Int.fdiv ep (2 ^ min (Int.toNat 8) (IntKind.bits IntKind.i64)))),.i (IntKind.wrap IntKind.u8 ep),.i (IntKind.wrap IntKind.u8 ta),.s ({data:=List.toArray (bR [[T.v (Value.int IntKind.u8 (IntKind.wrap IntKind.u8 k))],[T.v (Value.int IntKind.u8 (IntKind.wrap IntKind.u8 (Int.fdiv ep (2 ^ min (Int.toNat 8) (IntKind.bits IntKind.i64)))))],[T.v (Value.int IntKind.u8 (IntKind.wrap IntKind.u8 ep))],[T.v (Value.int IntKind.u8 (IntKind.wrap IntKind.u8 ta))]]):ByteArray}),.s ({data:=List.toArray (bR [[T.v (Value.int IntKind.u8 (IntKind.wrap IntKind.u8 k))],[T.v (Value.int IntKind.u8 (IntKind.wrap IntKind.u8 (Int.fdiv ep (2 ^ min (Int.toNat 8) (IntKind.bits IntKind.i64)))))],[T.v (Value.int IntKind.u8 (IntKind.wrap IntKind.u8 ep))],[T.v (Value.int IntKind.u8 (IntKind.wrap IntKind.u8 ta))]]):ByteArray} ++tx)]<|J ⟨I,I,rfl,I,I,Zds,rfl,I,I,rfl,I,I,rfl,Zdc,⟨I,(by repeat (first|exact jR|refine iu ?_)),rfl⟩,I,I,⟨rfl,(by simp only[bsz,ByteArray.size_append,na];omega)⟩,I,I⟩ ?_
 refine RT ?_
 rotate_left
 ·refine vs ?_
  simp only[Lx,h1,if_false]
 ·refine vs ?_
  simp only[Lx,h1,if_true];rfl
def dk(e:Entry):ByteArray:=if e.ok then bl [IntKind.u8.wrap e.kind,IntKind.u8.wrap (IntKind.i64.wrap (e.epoch.tdiv 256)),IntKind.u8.wrap (e.epoch.tmod 256),IntKind.u8.wrap e.task] ++e.text else emp
theorem g9(k ep ta:Int)(tx:ByteArray)(ht:tx.size≤281474976710656):F ti [.val (jL k ep ta tx)] (.s (dk ⟨k,ep,ta,tx⟩)) [[]]:=by
 refine tX ?_
 conv=>whnf
 refine g 0 0 []<|J ⟨UD,I,I⟩<|W.sq<|g 4 5 [.call (V.b (decide (Entry.ok {kind:=k,epoch:=ep,task:=ta,text:=tx:Entry}))) [[]]]<|J ⟨I,⟨UA,I,⟨UD,I⟩,UA,IH _ _ _ _⟩,I,I⟩<|W.cn<|J (fun h1=>?_) fun h1=>?_
 replace h1:=ndt h1
 refine g 5 6 []<|J UA<|RT ?_
 rotate_left
 replace h1:=ndf h1
 refine W.skip<|g 10 25 [.i (IntKind.wrap IntKind.u8 k),.i (IntKind.wrap IntKind.i64 (Int.tdiv ep 256)),.i (IntKind.wrap IntKind.u8 (IntKind.wrap IntKind.i64 (Int.tdiv ep 256))),.i (Int.tmod ep 256),.i (IntKind.wrap IntKind.u8 (Int.tmod ep 256)),.i (IntKind.wrap IntKind.u8 ta),.s ({data:=List.toArray (bR [[T.v (Value.int IntKind.u8 (IntKind.wrap IntKind.u8 k))],[T.v (Value.int IntKind.u8 (IntKind.wrap IntKind.u8 (IntKind.wrap IntKind.i64 (Int.tdiv ep 256))))],[T.v (Value.int IntKind.u8 (IntKind.wrap IntKind.u8 (Int.tmod ep 256)))],[T.v (Value.int IntKind.u8 (IntKind.wrap IntKind.u8 ta))]]):ByteArray}),.s ({data:=List.toArray (bR [[T.v (Value.int IntKind.u8 (IntKind.wrap IntKind.u8 k))],[T.v (Value.int IntKind.u8 (IntKind.wrap IntKind.u8 (IntKind.wrap IntKind.i64 (Int.tdiv ep 256))))],[T.v (Value.int IntKind.u8 (IntKind.wrap IntKind.u8 (Int.tmod ep 256)))],[T.v (Value.int IntKind.u8 (IntKind.wrap IntKind.u8 ta))]]):ByteArray} ++tx)]<|J ⟨I,I,rfl,I,I,Zds,rfl,I,I,Zds,rfl,I,I,rfl,Zdc,⟨I,(by repeat (first|exact jR|refine iu ?_)),rfl⟩,I,I,⟨rfl,(by simp only[bsz,ByteArray.size_append,na];omega)⟩,I,I⟩ ?_
 refine RT ?_
 rotate_left
 ·refine vs ?_
  simp only[dk,h1,if_false]
 ·refine vs ?_
  simp only[dk,h1,if_true];rfl
def byt(s:ByteArray)(i:Nat):Int:=((s[i]?).map (fun b=>(b.toNat:Int))).getD 0
def GL(x y:Int):Int:=IntKind.i64.wrap ↑(BitVec.ofInt IntKind.i64.bits x|||BitVec.ofInt IntKind.i64.bits y).toNat
def rdI(s:ByteArray):Entry:=⟨byt s 0,GL (IntKind.i64.wrap (byt s 1 * 256)) (byt s 2),byt s 3,s.extract 4 s.size⟩
def rdS(s:ByteArray):Entry:=⟨byt s 0,byt s 1 * 256+byt s 2,byt s 3,s.extract 4 s.size⟩
abbrev noE:Entry:=⟨0,0,0,emp⟩
abbrev lE(o:Option Entry):V:=match o with|some e=>.tup [e.v,.b true]|none=>.tup [noE.v,.b false]
def qz(s:ByteArray):Option Entry:=if(s.size:Int) < 4∨12 < (s.size:Int)then none else if(rdI s).ok then some (rdI s)else none
def ey(s:ByteArray):Option Entry:=if(s.size:Int) < 4 then none else if dk (rdS s) = s then some (rdS s)else none
theorem bI{s:ByteArray}{i:Nat}{c:UInt8}(h:s[i]? = some c):byt s i = (c.toNat:Int):=by simp[byt,h]
theorem lz(s:ByteArray)(ht:s.size≤281474976710656):F lh [.val (.s s)] (lE (qz s)) [[]]:=by
 refine ur ?_
 conv=>whnf
 refine g 0 0 []<|J UB<|W.sq ?_
 by_cases h1:(↑(ByteArray.size s):Int) < (4:Int)
 refine g 5 12 [BT,BT,BT,BT]<|J ⟨I,I,I,I,tO,tO,tO,tO,I⟩<|W.cn<|J (fun _=>(g 12 14 []<|J ⟨I,UD,I,I⟩ (RT ?_))) (noF rfl)
 rotate_left
 refine g 5 12 [BF,BF,BF,BF]<|J ⟨I,I,I,I,⟨dO,I⟩,⟨dO,I⟩,⟨dO,I⟩,dO,I⟩<|W.cn<|J (fun h2=>?_) fun h2=>?_
 replace h2:=dt h2
 refine g 12 14 []<|J ⟨I,UD,I,I⟩<|RT ?_
 rotate_left
 replace h2:=df h2
 refine W.skip ?_
 obtain⟨y1,hy1,hb1⟩:=bB (s:=s) (n:=(0:Nat)) OM
 obtain⟨y2,hy2,hb2⟩:=bB (s:=s) (n:=(1:Nat)) OM
 obtain⟨y3,hy3,hb3⟩:=bB (s:=s) (n:=(2:Nat)) OM
 obtain⟨y4,hy4,hb4⟩:=bB (s:=s) (n:=(3:Nat)) OM
 refine gd 12 27 [[],[.i ((↑(UInt8.toNat y1):Int))],[.i ((↑(UInt8.toNat y1):Int))],[],[.i ((↑(UInt8.toNat y2):Int))],[.i ((↑(UInt8.toNat y2):Int))],[.i (IntKind.wrap IntKind.i64 ((↑(UInt8.toNat y2):Int) * 2 ^ min (Int.toNat 8) (IntKind.bits IntKind.i64)))],[],[.i ((↑(UInt8.toNat y3):Int))],[.i ((↑(UInt8.toNat y3):Int))],[.i (IntKind.wrap IntKind.i64 (↑(BitVec.toNat (BitVec.ofInt (IntKind.bits IntKind.i64) (IntKind.wrap IntKind.i64 ((↑(UInt8.toNat y2):Int) * 2 ^ min (Int.toNat 8) (IntKind.bits IntKind.i64)))|||BitVec.ofInt (IntKind.bits IntKind.i64) (↑(UInt8.toNat y3):Int))):Int))],[],[.i ((↑(UInt8.toNat y4):Int))],[.i ((↑(UInt8.toNat y4):Int))],[],[.n (4),.s (ByteArray.extract s 4 (ByteArray.size s))],[],[],[]] ?_
 conv=>whnf
 refine J ⟨I,Zc5,w8 _,I,Zc5,w8 _,Zds,I,Zc5,w8 _,rfl,I,Zc5,w8 _,I,⟨I,rfl,OM,OM,rfl⟩,I,I,UD,I⟩<|J KR<|W.sq<|g 28 33 [.call (V.b (decide (Entry.ok {kind:=(↑(UInt8.toNat y1):Int),epoch:=IntKind.wrap IntKind.i64 (↑(BitVec.toNat (BitVec.ofInt (IntKind.bits IntKind.i64) (IntKind.wrap IntKind.i64 ((↑(UInt8.toNat y2):Int) * 2 ^ min (Int.toNat 8) (IntKind.bits IntKind.i64)))|||BitVec.ofInt (IntKind.bits IntKind.i64) (↑(UInt8.toNat y3):Int))):Int),task:=(↑(UInt8.toNat y4):Int),text:=ByteArray.extract s 4 (ByteArray.size s):Entry}))) [[]]]<|J ⟨I,⟨UA,I,⟨UD,I⟩,UA,jv _ _ _ _⟩,I,I⟩<|W.cn<|J (fun h3=>?_) fun h3=>?_
 replace h3:=ndt h3
 refine g 33 35 []<|J ⟨I,UD,I,I⟩<|RT ?_
 rotate_left
 replace h3:=ndf h3
 refine W.skip<|g 33 36 []<|J ⟨I,UD,I,I⟩<|RT ?_
 rotate_left
 ·exact congrArg lE (show none = qz s by unfold qz;rw[if_pos OM])
 ·exact congrArg lE (show none = qz s by unfold qz;rw[if_pos OM])
 ·have e:rdI s = ⟨y1.toNat,GL (IntKind.i64.wrap ((y2.toNat:Int) * 256)) y3.toNat,y4.toNat,s.extract 4 s.size⟩:=by simp only[rdI,bI hy1,bI hy2,bI hy3,bI hy4]
  exact congrArg lE (show none = qz s by unfold qz;rw[if_neg OM,e];exact(if_neg h3).symm)
 ·have e:rdI s = ⟨y1.toNat,GL (IntKind.i64.wrap ((y2.toNat:Int) * 256)) y3.toNat,y4.toNat,s.extract 4 s.size⟩:=by simp only[rdI,bI hy1,bI hy2,bI hy3,bI hy4]
  exact congrArg lE (show some _ = qz s by unfold qz;rw[if_neg OM,e];exact(if_pos h3).symm)
theorem uF(s:ByteArray)(ht:s.size≤281474976710656):F tf [.val (.s s)] (lE (ey s)) [[]]:=by
 refine tW ?_
 conv=>whnf
 refine g 0 0 []<|J UB<|W.sq<|g 5 7 []<|J UC<|W.cn<|J (fun h1=>?_) fun h1=>?_
 replace h1:=dt h1
 refine g 7 9 []<|J ⟨I,UD,I,I⟩<|RT ?_
 rotate_left
 replace h1:=df h1
 refine W.skip ?_
 obtain⟨y1,hy1,hb1⟩:=bB (s:=s) (n:=(0:Nat)) OM
 obtain⟨y2,hy2,hb2⟩:=bB (s:=s) (n:=(1:Nat)) OM
 obtain⟨y3,hy3,hb3⟩:=bB (s:=s) (n:=(2:Nat)) OM
 obtain⟨y4,hy4,hb4⟩:=bB (s:=s) (n:=(3:Nat)) OM
 refine gd 7 26 [[],[.i ((↑(UInt8.toNat y1):Int))],[.i ((↑(UInt8.toNat y1):Int))],[],[.i ((↑(UInt8.toNat y2):Int))],[.i ((↑(UInt8.toNat y2):Int))],[.i ((↑(UInt8.toNat y2):Int) * 256)],[],[.i ((↑(UInt8.toNat y3):Int))],[.i ((↑(UInt8.toNat y3):Int))],[.i ((↑(UInt8.toNat y2):Int) * 256+ (↑(UInt8.toNat y3):Int))],[],[.i ((↑(UInt8.toNat y4):Int))],[.i ((↑(UInt8.toNat y4):Int))],[],[.n (4),.s (ByteArray.extract s 4 (ByteArray.size s))],[],[],[]] ?_
 conv=>whnf
 refine J ⟨I,Zc5,w8 _,I,Zc5,w8 _,wO,I,Zc5,w8 _,wO,I,Zc5,w8 _,I,⟨I,rfl,OM,OM,rfl⟩,I,I,UD,I⟩<|J KR<|W.sq<|g 0 1 [.call (V.s (dk {kind:=(↑(UInt8.toNat y1):Int),epoch:=(↑(UInt8.toNat y2):Int) * 256+ (↑(UInt8.toNat y3):Int),task:=(↑(UInt8.toNat y4):Int),text:=ByteArray.extract s 4 (ByteArray.size s):Entry})) [[]]]<|J ⟨I,⟨UA,I,⟨UD,I⟩,UA,g9 _ _ _ _ (by simp only[ByteArray.size_extract];omega)⟩,I,I,I⟩<|W.cn<|J (fun h2=>?_) fun h2=>?_
 replace h2:=ndt h2
 refine g 28 31 []<|J ⟨I,UD,I,I⟩<|RT ?_
 rotate_left
 replace h2:=ndf h2
 refine W.skip<|g 28 32 []<|J ⟨I,UD,I,I⟩<|RT ?_
 rotate_left
 ·exact congrArg lE (show none = ey s by unfold ey;rw[if_pos OM])
 ·have e:rdS s = ⟨y1.toNat,(y2.toNat:Int) * 256+y3.toNat,y4.toNat,s.extract 4 s.size⟩:=by simp only[rdS,bI hy1,bI hy2,bI hy3,bI hy4]
  exact congrArg lE (show none = ey s by unfold ey;rw[if_neg OM,e];exact(if_neg h2).symm)
 ·have e:rdS s = ⟨y1.toNat,(y2.toNat:Int) * 256+y3.toNat,y4.toNat,s.extract 4 s.size⟩:=by simp only[rdS,bI hy1,bI hy2,bI hy3,bI hy4]
  exact congrArg lE (show some _ = ey s by unfold ey;rw[if_neg OM,e];exact(if_pos h2).symm)
end Go.K
end
section
open Go Go.Tm Go.Proofs
namespace Go.K
theorem M0(e:Entry):Lx e = dk e:=by
 unfold Lx dk
 by_cases h:e.ok
 ·simp only[h,if_true]
  obtain⟨⟨h1,h2⟩,_⟩:=h
  have e1:e.epoch.fdiv 256 = e.epoch / 256:=Int.fdiv_eq_ediv_of_nonneg _ OM
  have e2:e.epoch.tdiv 256 = e.epoch / 256:=Int.tdiv_eq_ediv_of_nonneg OM
  have e3:e.epoch.tmod 256 = e.epoch % 256:=Int.tmod_eq_emod_of_nonneg OM
  have e4:IntKind.u8.wrap e.epoch = e.epoch % 256:=by simp[IntKind.wrap,IntKind.bits,IntKind.signed]
  rw[e1,e2,e3,wO,e4,wu8 (z:=e.epoch % 256) OM OM]
 ·simp only[h,if_false]
end Go.K
namespace Go.K
end Go.K
end
section
open Go Go.Tm Go.Proofs
namespace Go.K
theorem uZ{l:List UInt8}{i:Nat}{c:UInt8}(h:l[i]? = some c):byt ⟨⟨l⟩⟩ i = (c.toNat:Int):=by
 have:(ByteArray.mk ⟨l⟩)[i]? = l[i]?:=by
  show(if h:i < (ByteArray.mk ⟨l⟩).size then some ((ByteArray.mk ⟨l⟩)[i])else none) = _
  have hsz:(ByteArray.mk ⟨l⟩).size = l.length:=rfl
  by_cases hi:i < l.length
  ·rw[dif_pos (by rw[hsz];exact hi),List.getElem?_eq_getElem hi];rfl
  ·rw[dif_neg (by rw[hsz];exact hi),List.getElem?_eq_none OM]
 exact bI (by rw[this];exact h)
theorem WV(s:ByteArray)(h:4≤s.size):bl [byt s 0,byt s 1,byt s 2,byt s 3] ++s.extract 4 s.size = s:=by
 obtain⟨⟨l⟩⟩:=s
 match l,h with
 |a :: b :: c :: d :: r,_ =>
  rw[uZ (c:=a) rfl,uZ (c:=b) rfl,uZ (c:=c) rfl,uZ (c:=d) rfl]
  apply ByteArray.ext
  rw[ByteArray.data_append,ByteArray.data_extract]
  apply Array.ext'
  simp[bl,ByteArray.size]
theorem Jw(a b:Nat)(ha:a < 256)(hb:b < 256):GL (IntKind.i64.wrap ((a:Int) * 256)) b = (a:Int) * 256+b:=by
 rw[wO]
 unfold GL
 have e:((BitVec.ofInt IntKind.i64.bits ((a:Int) * 256))|||BitVec.ofInt IntKind.i64.bits (b:Int)).toNat = a * 256+b:=by
  have h1:BitVec.ofInt IntKind.i64.bits ((a:Int) * 256) = BitVec.ofNat IntKind.i64.bits (a * 256):=by
   rw[show((a:Int) * 256) = ((a * 256:Nat):Int) by simp];exact BitVec.ofInt_natCast ..
  have h2:BitVec.ofInt IntKind.i64.bits (b:Int) = BitVec.ofNat IntKind.i64.bits b:=BitVec.ofInt_natCast ..
  have hb64:IntKind.i64.bits = 64:=rfl
  rw[h1,h2,BitVec.toNat_or,BitVec.toNat_ofNat,BitVec.toNat_ofNat,hb64,Nat.mod_eq_of_lt OM,Nat.mod_eq_of_lt OM]
  have:=Nat.two_pow_add_eq_or_of_lt (i:=8) (b:=b) OM a
  rw[Nat.mul_comm]at this
  simpa using this.symm
 rw[e]
 rw[wO];simp
theorem ef(s:ByteArray)(i:Nat):∃ n:Nat,byt s i = n∧n < 256:=by
 unfold byt
 cases h:s[i]? with
 |none=>exact⟨0,rfl,by omega⟩
 |some c=>exact⟨c.toNat,rfl,UInt8.toNat_lt _⟩
theorem X2(s:ByteArray):rdI s = rdS s:=by
 unfold rdI rdS
 obtain⟨a,ha,ha'⟩:=ef s 1
 obtain⟨b,hb,hb'⟩:=ef s 2
 rw[ha,hb,Jw a b ha' hb']
theorem MB(s:ByteArray):qz s = ey s:=by
 unfold qz ey
 rw[X2]
 by_cases h4:(s.size:Int) < 4
 ·rw[if_pos OM,if_pos h4]
 ·rw[if_neg h4]
  have hx:(s.extract 4 s.size).size = s.size - 4:=by rw[ByteArray.size_extract];omega
  by_cases hok:(rdS s).ok
  ·have hform:dk (rdS s) = s:=by
    unfold dk
    rw[if_pos hok]
    obtain⟨⟨h1,h2⟩,⟨h3,h4'⟩,h5⟩:=hok
    obtain⟨a,ha,ha'⟩:=ef s 1
    obtain⟨b,hb,hb'⟩:=ef s 2
    have hk:IntKind.u8.wrap (rdS s).kind = byt s 0:=by
     obtain⟨c,hc,hc'⟩:=ef s 0
     show IntKind.u8.wrap (byt s 0) = _
     rw[wu8 OM OM]
    have ht:IntKind.u8.wrap (rdS s).task = byt s 3:=by
     obtain⟨c,hc,hc'⟩:=ef s 3
     show IntKind.u8.wrap (byt s 3) = _
     rw[wu8 OM OM]
    have he:(rdS s).epoch = (a:Int) * 256+b:=by show byt s 1 * 256+byt s 2 = _;rw[ha,hb]
    have e1:IntKind.u8.wrap (IntKind.i64.wrap ((rdS s).epoch.tdiv 256)) = byt s 1:=by
     rw[he,Int.tdiv_eq_ediv_of_nonneg OM,wO,wu8 OM OM,ha];omega
    have e2:IntKind.u8.wrap ((rdS s).epoch.tmod 256) = byt s 2:=by
     rw[he,Int.tmod_eq_emod_of_nonneg OM,wu8 OM OM,hb];omega
    rw[hk,ht,e1,e2]
    exact WV s OM
   have hsz:¬((s.size:Int) < 4∨12 < (s.size:Int)):=by
    obtain⟨_,_,h5⟩:=hok
    have hr:(rdS s).text = s.extract 4 s.size:=rfl
    rcases h5 with⟨_,_,h6⟩|⟨_,h6⟩
    ·rw[hr]at h6
     have:=congrArg ByteArray.size h6
     rw[hx]at this
     have h0:(ByteArray.mk #[]).size = 0:=rfl
     omega
    ·rw[hr,hx]at h6;omega
   rw[if_neg hsz,if_pos hok,if_pos hform]
  ·have hform:dk (rdS s)≠s:=by
    unfold dk
    rw[if_neg hok]
    intro e
    have:=congrArg ByteArray.size e
    have h0:emp.size = 0:=rfl
    omega
   rw[if_neg hform,if_neg hok]
   simp
end Go.K
end
section
open Go Go.Tm Go.Proofs
namespace Go.K
abbrev aj(s:ByteArray):List T:=[.s s]
abbrev qq(xs:List ByteArray):T:=.slc [false] (xs.map aj)
theorem fE(xs:List ByteArray)(left:Int)(hl:xs.length≤9223372036854775807)(hs:∀ s∈xs,s.size≤9223372036854775807)(h:left≤1048576)(h0:0≤left) :
 F tq [.val (.t (qq xs)),.val (.i left)] (.i (if left - xs.length - bQ xs < 0 then -1 else left - xs.length - bQ xs)) [[],[]]:=by
 have hnn:=bm xs
 refine ub ?_
 conv=>whnf
 refine g 0 0 []<|J UA<|g 6 10 [.i (left - (↑(List.length (List.map aj xs)):Int))]<|J ⟨I,I,I,w64 LN LN,I,I⟩<|W.sq<|g 10 11 []<|J UB<|W.cn<|J (fun h1=>?_) fun h1=>?_
 replace h1:=dt h1
 simp only[LM]at h1
 refine g 11 12 []<|J UA<|RT ?_
 exact vi OM
 replace h1:=df h1
 simp only[LM]at h1
 refine W.skip<|W.sq<|g 11 12 []<|J UA<|W.blk ?_
 refine W.lp (fun s (n:Nat)=>⟨[(0,s.s 0),(1,.i (left - xs.length - bQ (xs.take n))),(5,.i n)],[],[]⟩) (fun(n:Nat)=>n≤xs.length∧0≤left - xs.length - bQ (xs.take n)) (fun(n:Nat)=>xs.length - n) (0) [] [] ⟨rfl,⟨rfl,(congrArg (fun z=>V.t (T.v (Value.int _ z))) (by simp[bQ])),rfl,I⟩,I,I⟩ ?_ ?_
 ·simp[bQ];omega
 rintro n ⟨hn,hc⟩
 have hq:=bm (xs.take n)
 have hle:=Mq xs (n+1)
 conv=>whnf
 refine W.sq<|g 12 15 []<|J UD<|W.cn<|J (fun h2=>?_) fun h2=>?_
 replace h2:=dt h2
 simp only[LM]at h2
 refine W.skip<|W.sq<|W.blk ?_
 obtain⟨y1,hy1⟩:=af (xs:=xs) (n:=n) OM
 have hm1:=hs y1 (List.mem_of_getElem? hy1)
 have hk1:=El hy1
 refine g 15 25 [.x (aj y1),.i (left - (↑xs.length:Int) - bQ (List.take n xs) - (↑(ByteArray.size y1):Int))]<|J ⟨I,I,I,Zdl,I,I,wO,I,I⟩<|g 25 26 []<|J UB<|W.cn<|J (fun h3=>?_) fun h3=>?_
 replace h3:=dt h3
 refine g 26 27 []<|J UA<|RT ?_
 exact vi OM
 replace h3:=df h3
 refine W.skip<|rg [.i ((n:Int) +1)]<|J Zdi ?_
 rotate_left
 replace h2:=df h2
 simp only[LM]at h2
 refine W.exit<|g 5 28 []<|J UB<|RT ?_
 rotate_left
 ·refine⟨n+1,[],[],⟨rfl,⟨rfl,(congrArg (fun z=>V.t (T.v (Value.int _ z))) (by rw[El AS];omega)),rfl,I⟩,I,I⟩,?_,?_⟩
  rotate_left
  (dsimp only;omega)
  dsimp only
  omega
 ·have e:xs.take n = xs:=List.take_of_length_le OM
  rw[e]at hc ⊢
  exact vi (by split <;> omega)
theorem fD(xs:List ByteArray)(hl:xs.length≤1048576):F tm [.val (.t (qq xs))] (.own [false] (xs.map aj)) [[]]:=by
 refine t8 ?_
 conv=>whnf
 refine g 0 0 []<|J UA<|g 5 8 [.n (List.length (List.map aj xs))]<|J Zcu<|W.sq<|g 0 0 []<|J UA<|W.blk<|W.lp (fun s (n:Nat)=>⟨[(0,s.s 0),(2,s.s 2),(3,s.s 3),(4,.i n)],[(7,[.own [false] (fill aj (aj emp) xs n)])],[]⟩) (fun(n:Nat)=>n≤xs.length) (fun(n:Nat)=>xs.length - n) (0) [some 7] [] ⟨rfl,Zay,⟨⟨rfl,⟨(congrArg (V.own _) (fB (by simp) rfl)),I⟩⟩,I⟩,I⟩ OM ?_
 intro n hn
 conv=>whnf
 refine W.sq<|g 8 11 []<|J UD<|W.cn<|J (fun h1=>?_) fun h1=>?_
 replace h1:=dt h1
 simp only[LM]at h1
 refine W.skip<|W.sq<|W.blk ?_
 obtain⟨y1,hy1⟩:=af (xs:=xs) (n:=n) OM
 refine rg [.x (aj y1),.n (n),.x (aj emp)]<|J ⟨I,I,I,I,Zdl,I,Zdj,⟨UA,gT OM⟩,I⟩<|rg [.i ((n:Int) +1)]<|J Zdi ?_
 rotate_left
 replace h1:=df h1
 simp only[LM]at h1
 refine W.exit<|g 3 22 []<|J UB<|RT ?_
 rotate_left
 ·refine⟨n+1,[some 7],[],⟨rfl,Zay,⟨⟨rfl,⟨(congrArg (V.own _) (gS AS)),I⟩⟩,I⟩,I⟩,?_,?_⟩
  rotate_left
  (dsimp only;omega)
  dsimp only
  omega
 ·have e:fill aj (aj emp) xs n = xs.map aj:=gU _ _ _ OM
  rw[←e]
theorem fH(xs ys:List ByteArray)(hl:xs.length≤9223372036854775806):F tG [.val (.t (qq xs)),.val (.t (qq ys))] (.b (decide (xs = ys))) [[],[]]:=by
 refine um ?_
 conv=>whnf
 refine g 0 0 []<|J UA<|W.sq<|g 6 10 []<|J UE<|W.cn<|J (fun h1=>?_) fun h1=>?_
 replace h1:=ndt h1
 simp only[LM]at h1
 refine g 10 11 []<|J UA<|RT ?_
 rotate_left
 replace h1:=ndf h1
 simp only[LM]at h1
 refine W.skip<|W.sq<|g 10 11 []<|J UA<|W.blk ?_
 rotate_left
 ·exact vbf (fun e=>h1 (by rw[e]))
 refine W.lp (fun s (n:Nat)=>⟨[(0,s.s 0),(1,s.s 1),(5,.i n)],[],[]⟩) (fun(n:Nat)=>n≤xs.length∧xs.take n = ys.take n) (fun(n:Nat)=>xs.length - n) (0) [] [] Zbe (by simp) ?_
 rintro n ⟨hn,hc⟩
 conv=>whnf
 refine W.sq<|g 11 14 []<|J UD<|W.cn<|J (fun h2=>?_) fun h2=>?_
 replace h2:=dt h2
 simp only[LM]at h2
 refine W.skip<|W.sq<|W.blk ?_
 obtain⟨y1,hy1⟩:=af (xs:=xs) (n:=n) OM
 obtain⟨y2,hy2⟩:=af (xs:=ys) (n:=n) OM
 refine gd 14 25 [[],[],[.x (aj y1)],[],[],[],[.x (aj y2)],[],[]] ?_
 conv=>whnf
 refine J ⟨I,I,Zdl,I,I,I,Zdl,I,I,I⟩<|J KR<|W.cn<|J (fun h3=>?_) fun h3=>?_
 replace h3:=ndt h3
 refine g 25 26 []<|J UA<|RT ?_
 rotate_left
 replace h3:=ndf h3
 refine W.skip<|rg [.i ((n:Int) +1)]<|J Zdi ?_
 rotate_left
 replace h2:=df h2
 simp only[LM]at h2
 refine W.exit<|g 0 2 []<|J UA<|RT ?_
 rotate_left
 ·exact vbf (fun e=>by subst e;rw[hy1]at hy2;cases hy2;exact h3 rfl)
 ·refine⟨n+1,[],[],Zbe,?_,?_⟩
  rotate_left
  (dsimp only;omega)
  dsimp only
  exact⟨by omega,by rw[List.take_add_one,List.take_add_one,hy1,hy2,hc,h3]⟩
 ·exact vbt (by rw[List.take_of_length_le OM,List.take_of_length_le OM]at hc;exact hc)
end Go.K
end
section
open Go Go.Tm Go.Proofs
namespace Go.K
abbrev u8v(n:Int):V:=.t (.v (.int .u64 n))
def fnv(v:Int)(c:UInt8):Int:=IntKind.u64.wrap (IntKind.u64.wrap (BitVec.ofInt IntKind.u64.bits v ^^^ BitVec.ofInt IntKind.u64.bits (c.toNat:Int)).toNat * 1099511628211)
def mS(v:Int)(s:ByteArray)(n:Nat):Int:=(s.data.toList.take n).foldl fnv v
theorem Xd{s:ByteArray}{n:Nat}{c:UInt8}(h:s[n]? = some c):s.data.toList[n]? = some c:=by
 by_cases hn:n < s.size
 ·rw[getElem?_pos s n hn]at h
  have hd:n < s.data.toList.length:=by simpa using hn
  rw[List.getElem?_eq_getElem hd]
  rw[←h];simp;rfl
 ·rw[getElem?_neg s n hn]at h;cases h
theorem EV{v:Int}{s:ByteArray}{n:Nat}{c:UInt8}(h:s[n]? = some c):mS v s (n+1) = fnv (mS v s n) c:=by
 unfold mS
 rw[List.take_add_one,Xd h,List.foldl_append];rfl
theorem W6(v:Int)(c:UInt8):0≤fnv v c∧fnv v c≤18446744073709551615:=WT _
theorem AJ:∀ (l:List UInt8) (v:Int),0≤v∧v≤18446744073709551615→0≤l.foldl fnv v∧l.foldl fnv v≤18446744073709551615
 |[],_,h=>h
 |c :: l,v,_=>AJ l (fnv v c) (W6 v c)
theorem dw(v:Int)(tx:ByteArray)(hs:tx.size≤9223372036854775807):F ro [.ptr [u8v v],.val (.s tx)] (.tup []) [[u8v (mS v tx tx.size)],[]]:=by
 refine rB ?_
 conv=>whnf
 refine g 0 0 []<|J UA<|W.blk<|W.lp (fun s (n:Nat)=>⟨[(0,s.s 0),(1,s.s 1),(4,.i n)],[(22,[u8v (mS v tx n)])],[]⟩) (fun(n:Nat)=>n≤tx.size) (fun(n:Nat)=>tx.size - n) (0) [some 22] [] ⟨rfl,⟨rfl,rfl,rfl,I⟩,Zdq,I⟩ OM ?_
 intro n hn
 conv=>whnf
 refine W.sq<|g 5 8 []<|J UD<|W.cn<|J (fun h1=>?_) fun h1=>?_
 replace h1:=dt h1
 refine W.skip<|W.sq<|W.blk ?_
 obtain⟨y1,hy1,hb1⟩:=bB (s:=tx) (n:=n) OM
 refine rgd [[],[],[],[],[],[],[.i ((↑(UInt8.toNat y1):Int))],[.i ((↑(UInt8.toNat y1):Int))],[.i (IntKind.wrap IntKind.u64 (↑(BitVec.toNat (BitVec.ofInt (IntKind.bits IntKind.u64) (mS v tx n) ^^^ BitVec.ofInt (IntKind.bits IntKind.u64) (↑(UInt8.toNat y1):Int))):Int))],[.i (IntKind.wrap IntKind.u64 (IntKind.wrap IntKind.u64 (↑(BitVec.toNat (BitVec.ofInt (IntKind.bits IntKind.u64) (mS v tx n) ^^^ BitVec.ofInt (IntKind.bits IntKind.u64) (↑(UInt8.toNat y1):Int))):Int) * 1099511628211))],[],[]] ?_
 conv=>whnf
 refine J ⟨I,I,I,I,I,I,Zc5,w8u _,rfl,rfl,I,UA,I⟩<|J KR<|rg [.i ((n:Int) +1)]<|J Zdi ?_
 rotate_left
 replace h1:=df h1
 refine W.exit<|EndsW.nm<|J I<|J ?_ ?_
 rfl
 rotate_left
 ·refine⟨n+1,[some 22],[],⟨rfl,⟨rfl,rfl,rfl,I⟩,⟨⟨rfl,⟨(congrArg (fun z=>V.t (T.v (Value.int _ z))) (EV AS).symm),I⟩⟩,I⟩,I⟩,?_,?_⟩
  rotate_left
  (dsimp only;omega)
  dsimp only
  omega
 ·rw[show n = tx.size from by omega]
def beL(v:Int):Nat→List Int
 |0=>[]
 |n+1=>(v / 256 ^ n % 256) :: beL v n
abbrev b1T(n:Int):List T:=[.v (.int .u8 n)]
theorem pC(v:Int):∀ n,(beL v n).length = n
 |0=>rfl
 |n+1=>by simp[beL,pC v n]
theorem NW(v:Int):∀ n i,i < n→(beL v n)[i]? = some (v / 256 ^ (n - 1 - i) % 256)
 |0,_,h=>by omega
 |n+1,0,_=>by simp[beL]
 |n+1,i+1,h=>by
  simp only[beL,List.getElem?_cons_succ]
  rw[NW v n i OM]
  congr 3
  congr 1
  omega
theorem QG{v:Int}{n:Nat}(h0:0≤v)(hn:n < 8):(fill b1T (b1T 0) (beL v 8) n).set n (b1T (IntKind.u8.wrap (v.fdiv (2 ^ min (56 - 8 * (n:Int)).toNat IntKind.u64.bits)))) = fill b1T (b1T 0) (beL v 8) (n+1):=by
 have e:IntKind.u8.wrap (v.fdiv (2 ^ min (56 - 8 * (n:Int)).toNat IntKind.u64.bits)) = v / 256 ^ (8 - 1 - n) % 256:=by
  rw[Int.fdiv_eq_ediv_of_nonneg _ (by exact Int.le_of_lt (Int.pow_pos (by decide)))]
  have:n = 0∨n = 1∨n = 2∨n = 3∨n = 4∨n = 5∨n = 6∨n = 7:=by omega
  rcases this with rfl|rfl|rfl|rfl|rfl|rfl|rfl|rfl <;> simp[IntKind.wrap,IntKind.bits,IntKind.signed]
 rw[e]
 exact gS (NW v 8 n hn)
theorem sR(l:List Int):(⟨(bR (l.map b1T)).toArray⟩:ByteArray) = bl l:=by
 simp[bR,bl,b1T,Function.comp_def]
theorem ly(v:Int)(h0:0≤v)(h1:v≤18446744073709551615):F tJ [.val (u8v v)] (.s (bl (beL v 8))) [[]]:=by
 have hx:=pC v 8
 refine uq ?_
 conv=>whnf
 refine g 0 0 []<|J UA<|g 5 6 [.n (8)]<|J ⟨⟨rfl,rfl,LN⟩,I,I⟩<|W.sq<|g 6 7 []<|J UC<|W.blk<|W.lp (fun s (n:Nat)=>⟨[(0,s.s 0),(2,s.s 2),(3,s.s 3),(7,s.s 7),(8,.i n)],[(5,[.own [false] (fill b1T (b1T 0) (beL v 8) n)])],[]⟩) (fun(n:Nat)=>n≤8) (fun(n:Nat)=>8 - n) (0) [some 5] [] ⟨rfl,Zbg,Zdq,I⟩ OM ?_
 intro n hn
 conv=>whnf
 refine g 0 0 []<|J UA<|W.sq<|W.cn<|J (fun h2=>?_) fun h2=>?_
 replace h2:=dt h2
 simp only[LM]at h2
 simp only[na]at h2
 refine W.skip<|W.sq<|W.blk<|g 10 11 []<|J UB<|rg [.i (8 * (n:Int)),.i (56 - 8 * (n:Int)),.i (Int.fdiv v (2 ^ min (Int.toNat (56 - 8 * (n:Int))) (IntKind.bits IntKind.u64))),.i (IntKind.wrap IntKind.u8 (Int.fdiv v (2 ^ min (Int.toNat (56 - 8 * (n:Int))) (IntKind.bits IntKind.u64)))),.n (n),.x (b1T 0)]<|J ⟨I,I,I,I,wO,wO,Zds,rfl,Zdj,⟨UA,gT OM⟩,I⟩<|rg [.i ((n:Int) +1)]<|J Zdn ?_
 rotate_left
 replace h2:=df h2
 simp only[LM]at h2
 simp only[na]at h2
 refine W.exit<|g 3 9 [.s ({data:=List.toArray (bR (fill b1T (b1T 0) (beL v 8) n)):ByteArray})]<|J ⟨I,⟨I,LO,rfl⟩,I,I⟩<|RT ?_
 rotate_left
 ·refine⟨n+1,[some 5],[],⟨rfl,Zbg,⟨⟨rfl,⟨(congrArg (V.own _) (QG h0 OM)),I⟩⟩,I⟩,I⟩,?_,?_⟩
  rotate_left
  (dsimp only;omega)
  dsimp only
  omega
 ·rw[gU _ _ _ OM]
  exact vs (sR _)
theorem QJ{v:Int}{n:Nat}(h0:0≤v):[b1T (IntKind.u8.wrap ((v / 256 ^ n).tmod 256))] ++ (beL v n).map b1T = (beL v (n+1)).map b1T:=by
 have h1:0≤v / 256 ^ n:=Int.ediv_nonneg h0 (Int.le_of_lt (Int.pow_pos (by decide)))
 rw[Int.tmod_eq_emod_of_nonneg h1]
 have h2:IntKind.u8.wrap (v / 256 ^ n % 256) = v / 256 ^ n % 256:=wu8 OM OM
 rw[h2];rfl
theorem U3{v:Int}{n:Nat}(h0:0≤v)(h2:v≤18446744073709551615):IntKind.u64.wrap ((v / 256 ^ n).tdiv 256) = v / 256 ^ (n+1):=by
 have h1:0≤v / 256 ^ n:=Int.ediv_nonneg h0 (Int.le_of_lt (Int.pow_pos (by decide)))
 have h3:v / 256 ^ n≤v:=Int.ediv_le_self _ h0
 rw[Int.tdiv_eq_ediv_of_nonneg h1,wu64 OM OM,Int.ediv_ediv_of_nonneg (Int.le_of_lt (Int.pow_pos (by decide))),Int.pow_succ]
def h0v:Int:=14695981039346656037
theorem mt(tx:ByteArray)(ht:tx.size≤9223372036854775807):F FF [.val (.s tx)] (.s (bl (beL (mS h0v tx tx.size) 8))) [[]]:=by
 refine F7 ?_
 conv=>whnf
 refine g 0 0 []<|J UA<|g 0 0 []<|J UA<|W.sq<|g 0 0 []<|J UA<|W.blk<|W.lp (fun s (n:Nat)=>⟨[(0,s.s 0),(2,s.s 2),(3,u8v (mS h0v tx n)),(4,.i n)],[],[]⟩) (fun(n:Nat)=>n≤tx.size) (fun(n:Nat)=>tx.size - n) (0) [] [] ⟨rfl,Zay,I,I⟩ OM ?_
 intro n hn
 conv=>whnf
 refine W.sq<|g 7 9 []<|J UD<|W.cn<|J (fun h1=>?_) fun h1=>?_
 replace h1:=dt h1
 refine W.skip<|W.sq<|W.blk ?_
 obtain⟨y1,hy1,hb1⟩:=bB (s:=tx) (n:=n) OM
 refine rg [.i ((↑(UInt8.toNat y1):Int)),.i ((↑(UInt8.toNat y1):Int)),.i (IntKind.wrap IntKind.u64 (↑(BitVec.toNat (BitVec.ofInt (IntKind.bits IntKind.u64) (mS h0v tx n) ^^^ BitVec.ofInt (IntKind.bits IntKind.u64) (↑(UInt8.toNat y1):Int))):Int)),.i (IntKind.wrap IntKind.u64 (IntKind.wrap IntKind.u64 (↑(BitVec.toNat (BitVec.ofInt (IntKind.bits IntKind.u64) (mS h0v tx n) ^^^ BitVec.ofInt (IntKind.bits IntKind.u64) (↑(UInt8.toNat y1):Int))):Int) * 1099511628211))]<|J ⟨I,I,I,Zc5,w8u _,rfl,rfl,I,I⟩<|rg [.i ((n:Int) +1)]<|J Zdi ?_
 rotate_left
 replace h1:=df h1
 refine W.exit<|g 10 21 []<|J UB<|W.sq<|g 4 5 []<|J UA<|W.blk ?_
 rotate_left
 ·refine⟨n+1,[],[],⟨rfl,⟨rfl,rfl,(congrArg (fun z=>V.t (T.v (Value.int _ z))) (EV AS).symm),rfl,I⟩,I,I⟩,?_,?_⟩
  rotate_left
  (dsimp only;omega)
  dsimp only
  omega
 have e:n = tx.size:=by omega
 subst e
 have hb:0≤mS h0v tx tx.size∧mS h0v tx tx.size≤18446744073709551615:=AJ _ _ (by unfold h0v;omega)
 generalize mS h0v tx tx.size = v at hb ⊢
 obtain⟨hb0,hb1⟩:=hb
 refine W.lp (fun s (n:Nat)=>⟨[(0,s.s 0),(2,s.s 2),(3,u8v (v / 256 ^ n)),(5,.ref ⟨5,none,0⟩),(6,.i n),(9,s.s 9)],[(5,[.own [false] ((beL v n).map b1T)])],[]⟩) (fun(n:Nat)=>n≤8) (fun(n:Nat)=>8 - n) (0) [some 20] [] ⟨rfl,⟨rfl,rfl,(congrArg (fun z=>V.t (T.v (Value.int _ z))) OM),rfl,rfl,rfl,I⟩,Zdq,I⟩ OM ?_
 intro n hn2
 have hx:=pC v n
 conv=>whnf
 refine W.sq<|g 21 22 []<|J UB<|W.cn<|J (fun h2=>?_) fun h2=>?_
 replace h2:=dt h2
 refine W.skip<|W.sq<|W.blk<|g 22 31 [.i (Int.tmod (v / 256 ^ n) 256),.i (IntKind.wrap IntKind.u8 (Int.tmod (v / 256 ^ n) 256))]<|J ⟨I,Zds,rfl,US,I,Zdm,I,I⟩<|rg [.i (IntKind.wrap IntKind.u64 (Int.tdiv (v / 256 ^ n) 256))]<|J ⟨I,Zds,I,I⟩<|rg [.i ((n:Int) +1)]<|J Zdi ?_
 rotate_left
 replace h2:=df h2
 refine W.exit<|g 3 7 [.s ({data:=List.toArray (bR (List.map b1T (beL v n))):ByteArray})]<|J ⟨I,⟨I,O1,rfl⟩,I,I⟩<|RT ?_
 rotate_left
 ·refine⟨n+1,[some 30],[],⟨rfl,⟨rfl,rfl,(congrArg (fun z=>V.t (T.v (Value.int _ z))) (U3 hb0 hb1)),rfl,rfl,rfl,I⟩,⟨⟨rfl,⟨(congrArg (V.own _) (QJ hb0)),I⟩⟩,I⟩,I⟩,?_,?_⟩
  rotate_left
  (dsimp only;omega)
  dsimp only
  omega
 ·rw[show n = 8 from by omega]
  exact vs (sR _)
def pr(nm:ByteArray)(xs:List ByteArray)(n:Nat):ByteArray:=(xs.take n).foldl (fun a s=>a++ (⟨#[0]⟩ ++s)) nm
theorem E6{nm:ByteArray}{xs:List ByteArray}{n:Nat}{x:ByteArray}(h:xs[n]? = some x):pr nm xs (n+1) = pr nm xs n++ (⟨#[0]⟩ ++x):=by
 unfold pr;rw[List.take_add_one,h,List.foldl_append];rfl
theorem EU:∀ (l:List ByteArray) (nm:ByteArray),((l.foldl (fun a s=>a++ (⟨#[0]⟩ ++s)) nm).size:Int) = nm.size+bQ l+l.length
 |[],nm=>by simp[bQ]
 |s :: l,nm=>by
  rw[List.foldl_cons,EU l]
  have:(⟨#[0]⟩:ByteArray).size = 1:=rfl
  simp only[ByteArray.size_append,bQ,List.length_cons,this];omega
theorem OT(nm:ByteArray)(xs:List ByteArray)(n:Nat)(h:n≤xs.length):((pr nm xs n).size:Int) = nm.size+bQ (xs.take n) +n:=by
 unfold pr;rw[EU,List.length_take,Nat.min_eq_left h]
theorem Rx{nm:ByteArray}{xs:List ByteArray}{n:Nat}{x:ByteArray}(h:xs[n]? = some x):cG (pr nm xs n) ++ [[.v (.int .u8 0)]] ++cG x = cG (pr nm xs (n+1)):=by
 rw[E6 h,mX,mX,List.append_assoc];rfl
def gt(v:Int)(s:ByteArray):Int:=s.data.toList.foldl fnv v
theorem gR(v:Int)(s:ByteArray):mS v s s.size = gt v s:=by
 unfold mS gt;rw[List.take_of_length_le (by simp)]
theorem sM(v:Int)(a b:ByteArray):gt v (a++b) = gt (gt v a) b:=by
 simp[gt,ByteArray.data_append,List.foldl_append]
theorem M1(s:ByteArray):0≤gt h0v s∧gt h0v s≤18446744073709551615:=AJ _ _ (by unfold h0v;omega)
def cI(nm:ByteArray)(xs:List ByteArray):ByteArray:=bl (beL (gt h0v (pr nm xs xs.length)) 8)
theorem mw(nm:ByteArray)(xs:List ByteArray)(hn:nm.size≤1048576)(hl:xs.length≤1048576)(ht:bQ xs≤1048576)(hs:∀ s∈xs,s.size≤1048576):F FH [.val (.s nm),.val (.t (qq xs))] (.s (cI nm xs)) [[],[]]:=by
 refine F8 ?_
 conv=>whnf
 refine g 0 0 []<|J UA<|g 7 9 []<|J ⟨I,OM,I,I⟩<|W.sq<|g 0 0 []<|J UA<|W.blk<|W.lp (fun s (n:Nat)=>⟨[(0,s.s 0),(1,s.s 1),(4,s.s 4),(5,.ref ⟨5,none,0⟩),(6,.i n)],[(5,[.own [false] (cG (pr nm xs n))])],[]⟩) (fun(n:Nat)=>n≤xs.length) (fun(n:Nat)=>xs.length - n) (0) [some 8] [] ⟨rfl,Zbg,Zdq,I⟩ OM ?_
 intro n hn
 have hc:=OT nm xs n OM
 have hb:=gu (pr nm xs n)
 have hle:=Mq xs n
 conv=>whnf
 refine W.sq<|g 10 12 []<|J UD<|W.cn<|J (fun h1=>?_) fun h1=>?_
 replace h1:=dt h1
 simp only[LM]at h1
 refine W.skip<|W.sq<|W.blk ?_
 obtain⟨y1,hy1⟩:=af (xs:=xs) (n:=n) OM
 have hm1:=hs y1 (List.mem_of_getElem? hy1)
 refine rgd [[],[],[],[],[],[.x (aj y1)],[],[],[]] ?_
 conv=>whnf
 refine J ⟨I,US,Zdm,I,I,Zdl,I,Zdm,I,I⟩<|J KR<|rg [.i ((n:Int) +1)]<|J Zdi ?_
 rotate_left
 replace h1:=df h1
 simp only[LM]at h1
 refine W.exit<|g 12 26 [.s (pr nm xs n),.call (V.s (bl (beL (mS h0v (pr nm xs n) (ByteArray.size (pr nm xs n))) 8))) [[]]]<|J ⟨I,⟨I,ji _,(jF _).symm⟩,⟨UA,I,US,UA,mt _ OM⟩,I,I⟩<|RT ?_
 rotate_left
 ·refine⟨n+1,[some 22],[],⟨rfl,Zbg,⟨⟨rfl,⟨(congrArg (V.own _) (Rx AS)),I⟩⟩,I⟩,I⟩,?_,?_⟩
  rotate_left
  (dsimp only;omega)
  dsimp only
  omega
 ·exact vs (by rw[gR,show n = xs.length from by omega];rfl)
theorem QC{nm:ByteArray}{xs:List ByteArray}{n:Nat}{x:ByteArray}(h:xs[n]? = some x):mS (mS (gt h0v (pr nm xs n)) ⟨#[0]⟩ (⟨#[0]⟩:ByteArray).size) x x.size = gt h0v (pr nm xs (n+1)):=by
 rw[gR,gR,E6 h,sM,sM]
theorem mB(nm:ByteArray)(xs:List ByteArray)(hn:nm.size≤1048576)(hl:xs.length≤1048576)(hs:∀ s∈xs,s.size≤1048576):F FU [.val (.s nm),.val (.t (qq xs))] (.s (cI nm xs)) [[],[]]:=by
 refine Gj ?_
 conv=>whnf
 refine g 0 0 []<|J UA<|g 0 0 []<|J UV<|g 0 1 [.call (V.tup []) ([[u8v (mS 14695981039346656037 nm (ByteArray.size nm))],[]])]<|J ⟨I,⟨UB,I,UV,UA,dw _ _ OM⟩,I⟩<|W.sq<|g 1 2 []<|J UC<|W.blk<|W.lp (fun s (n:Nat)=>⟨[(4,s.s 4),(5,s.s 5),(10,s.s 10),(11,s.s 11),(12,.i n)],[(5,[u8v (gt h0v (pr nm xs n))])],[]⟩) (fun(n:Nat)=>n≤xs.length) (fun(n:Nat)=>xs.length - n) (0) [some 5] [] ⟨rfl,Zbg,⟨⟨rfl,⟨(congrArg (fun z=>V.t (T.v (Value.int _ z))) (gR _ _)),I⟩⟩,I⟩,I⟩ OM ?_
 intro n hn
 have hb:=M1 (pr nm xs n)
 conv=>whnf
 refine g 0 0 []<|J UA<|W.sq<|W.cn<|J (fun h1=>?_) fun h1=>?_
 replace h1:=dt h1
 simp only[LM]at h1
 refine W.skip<|W.sq<|W.blk ?_
 obtain⟨y1,hy1⟩:=af (xs:=xs) (n:=n) OM
 have hm1:=hs y1 (List.mem_of_getElem? hy1)
 refine g 13 16 [.x (aj y1)]<|J Zb6<|g 16 17 [.call (V.tup []) ([[u8v (mS (gt h0v (pr nm xs n)) {data:=#[(0:UInt8)]:ByteArray} (ByteArray.size {data:=#[(0:UInt8)]:ByteArray}))],[]])]<|J ⟨⟨UB,I,UV,UA,dw _ _ (by decide)⟩,I⟩<|rg [.call (V.tup []) ([[u8v (mS (mS (gt h0v (pr nm xs n)) {data:=#[(0:UInt8)]:ByteArray} (ByteArray.size {data:=#[(0:UInt8)]:ByteArray})) y1 (ByteArray.size y1))],[]])]<|J ⟨I,⟨UB,I,UV,UA,dw _ _ OM⟩,I⟩<|rg [.i ((n:Int) +1)]<|J Zdn ?_
 rotate_left
 replace h1:=df h1
 simp only[LM]at h1
 refine W.exit<|g 5 22 [.call (V.s (bl (beL (gt h0v (pr nm xs n)) 8))) [[]]]<|J ⟨I,⟨UA,I,US,UA,ly _ OM OM⟩,I,I⟩<|RT ?_
 rotate_left
 ·refine⟨n+1,[some 5],[],⟨rfl,Zbg,⟨⟨rfl,⟨(congrArg (fun z=>V.t (T.v (Value.int _ z))) (QC AS)),I⟩⟩,I⟩,I⟩,?_,?_⟩
  rotate_left
  (dsimp only;omega)
  dsimp only
  omega
 ·exact vs (by rw[show n = xs.length from by omega];rfl)
end Go.K
end
section
open Go Go.Tm Go.Proofs
namespace Go.K
theorem Bc:∀ {l:List ByteArray} {s:ByteArray},s∈l→(s.size:Int)≤bQ l
 |x :: l,s,h=>by
  rcases List.mem_cons.1 h with rfl|h
  ·have:=bm l;simp only[bQ];omega
  ·have:=Bc h;simp only[bQ];omega
theorem mj{α β:Type}{f:α→β}{p:α→Prop}:∀ {xs:List β},(∀ y∈xs,∃ s,y = f s∧p s)→∃ ys:List α,xs = ys.map f∧∀ s∈ys,p s
 |[],_=>⟨[],rfl,fun _ h=>by cases h⟩
 |y :: xs,h=>by
  obtain⟨s,rfl,hp⟩:=h y (.head _)
  obtain⟨ys,rfl,hq⟩:=mj fun z hz=>h z (.tail _ hz)
  exact⟨s :: ys,rfl,fun z hz=>by rcases List.mem_cons.1 hz with rfl|hz;exact hp;exact hq z hz⟩
theorem zL{n:Nat}{xs:List (List T)}(h:∀ y∈xs,wfT E (n+1) 9 y):∃ ys:List ByteArray,xs = ys.map aj∧∀ s∈ys,s.size≤9223372036854775807:=mj (p:=fun s:ByteArray=>s.size≤9223372036854775807) fun y hy=>h y hy
end Go.K
end
section
open Go Go.Tm Go.Proofs
namespace Go.K
structure Parcel where
 kind:Int
 frm:ByteArray
 text:ByteArray
 deriving DecidableEq
abbrev Ld(k:Int)(a b:ByteArray):V:=.agg [.t (.i k),.t (.s a),.t (.s b)]
abbrev bv(p:Parcel):List T:=[.i p.kind,.s p.frm,.s p.text]
abbrev pkd:List Bool:=[false,false,false]
abbrev vV(xs:List Parcel):T:=.slc pkd (xs.map bv)
abbrev noP:Parcel:=⟨0,emp,emp⟩
theorem xO(k:Int)(a b:ByteArray)(left:Int)(h:left≤1048576)(h0:0≤left)(ha:a.size≤9223372036854775807)(hb:b.size≤9223372036854775807):F wE [.val (Ld k a b),.val (.i left)] (.i (if left - a.size - b.size < 0 then -1 else left - a.size - b.size)) [[],[]]:=by
 refine xa ?_
 conv=>whnf
 refine g 0 1 []<|J ⟨UC,I,I⟩<|g 5 10 [.i (left - (↑(ByteArray.size a):Int))]<|J Zdb<|W.sq<|g 10 11 []<|J UB<|W.cn<|J (fun h1=>?_) fun h1=>?_
 replace h1:=dt h1
 refine g 11 12 []<|J UA<|RT ?_
 exact vi OM
 replace h1:=df h1
 refine W.skip<|g 11 17 [.i (left - (↑(ByteArray.size a):Int) - (↑(ByteArray.size b):Int))]<|J Zdb<|W.sq<|g 2 3 []<|J UB<|W.cn<|J (fun h2=>?_) fun h2=>?_
 replace h2:=dt h2
 refine g 17 19 []<|J UA<|RT ?_
 exact vi OM
 replace h2:=df h2
 refine W.skip<|g 17 20 []<|J UB<|RT ?_
 exact vi OM
theorem xL(k:Int)(a b:ByteArray):F wC [.val (Ld k a b)] (Ld k a b) [[]]:=by
 refine wZ ?_
 conv=>whnf
 refine g 0 1 []<|J ⟨UC,I,I⟩<|g 0 0 []<|J UA<|g 4 7 []<|J UW<|g 7 10 []<|J UW<|g 10 13 []<|J UW<|g 3 14 []<|J Zd8<|RT ?_
 rfl
theorem xY(k:Int)(a b:ByteArray)(k':Int)(a' b':ByteArray):F wQ [.val (Ld k a b),.val (Ld k' a' b')] (.b (decide ((⟨k,a,b⟩:Parcel) = ⟨k',a',b'⟩))) [[],[]]:=by
 refine xr ?_
 conv=>whnf
 refine g 0 2 []<|J ⟨UC,UC,I,I⟩<|W.sq<|g 5 9 []<|J UE<|W.cn<|J (fun h1=>?_) fun h1=>?_
 replace h1:=ndt h1
 refine g 9 10 []<|J UA<|RT ?_
 rotate_left
 replace h1:=ndf h1
 refine W.skip<|W.sq<|g 9 14 []<|J UE<|W.cn<|J (fun h2=>?_) fun h2=>?_
 replace h2:=ndt h2
 refine g 14 15 []<|J UA<|RT ?_
 rotate_left
 replace h2:=ndf h2
 refine W.skip<|W.sq<|g 14 19 []<|J UE<|W.cn<|J (fun h3=>?_) fun h3=>?_
 replace h3:=ndt h3
 refine g 2 4 []<|J UA<|RT ?_
 rotate_left
 replace h3:=ndf h3
 refine W.skip<|g 2 4 []<|J UA<|RT ?_
 rotate_left
 all_goals (first|exact vbt SI|exact vbf SI)
def jc:List Parcel→Int
 |[]=>0
 |p :: l=>(p.frm.size:Int) +p.text.size+jc l
theorem sX:∀ l,0≤jc l
 |[]=>by simp[jc]
 |s :: l=>by have:=sX l;simp only[jc];omega
theorem nA:∀ a b,jc (a++b) = jc a+jc b
 |[],b=>by simp[jc]
 |s :: a,b=>by simp only[List.cons_append,jc,nA a b];omega
theorem Em{l:List Parcel}{n:Nat}{x:Parcel}(h:l[n]? = some x):jc (l.take (n+1)) = jc (l.take n) + (x.frm.size+x.text.size):=by
 rw[List.take_add_one,h,nA];simp[jc]
theorem U0(l:List Parcel)(n:Nat):jc (l.take n)≤jc l:=by
 have h:=nA (l.take n) (l.drop n)
 rw[List.take_append_drop]at h
 have:=sX (l.drop n);omega
theorem lx(xs:List Parcel)(left:Int)(hl:xs.length≤9223372036854775807)(hs:∀ p∈xs,p.frm.size≤9223372036854775807∧p.text.size≤9223372036854775807)(h:left≤1048576)(h0:0≤left) :
 F lf [.val (.t (vV xs)),.val (.i left)] (.i (if left - xs.length - jc xs < 0 then -1 else left - xs.length - jc xs)) [[],[]]:=by
 have hnn:=sX xs
 refine uc ?_
 conv=>whnf
 refine g 0 0 []<|J UA<|g 6 10 [.i (left - (↑(List.length (List.map bv xs)):Int))]<|J ⟨I,I,I,w64 LN LN,I,I⟩<|W.sq<|g 10 11 []<|J UB<|W.cn<|J (fun h1=>?_) fun h1=>?_
 replace h1:=dt h1
 simp only[LM]at h1
 refine g 11 12 []<|J UA<|RT ?_
 exact vi OM
 replace h1:=df h1
 simp only[LM]at h1
 refine W.skip<|W.sq<|g 11 12 []<|J UA<|W.blk ?_
 refine W.lp (fun s (n:Nat)=>⟨[(0,s.s 0),(1,.i (left - xs.length - jc (xs.take n))),(5,.i n)],[],[]⟩) (fun(n:Nat)=>n≤xs.length∧0≤left - xs.length - jc (xs.take n)) (fun(n:Nat)=>xs.length - n) (0) [] [] ⟨rfl,⟨rfl,(congrArg (fun z=>V.t (T.v (Value.int _ z))) (by simp[jc])),rfl,I⟩,I,I⟩ ?_ ?_
 ·simp[jc];omega
 rintro n ⟨hn,hc⟩
 have hq:=sX (xs.take n)
 have hle:=U0 xs (n+1)
 conv=>whnf
 refine W.sq<|g 12 15 []<|J UD<|W.cn<|J (fun h2=>?_) fun h2=>?_
 replace h2:=dt h2
 simp only[LM]at h2
 refine W.skip<|W.sq<|W.blk ?_
 obtain⟨y1,hy1⟩:=af (xs:=xs) (n:=n) OM
 have hm1:=hs y1 (List.mem_of_getElem? hy1)
 have hk1:=Em hy1
 refine g 15 24 [.x (bv y1),.call (V.i (if left - (↑xs.length:Int) - jc (List.take n xs) - (↑(ByteArray.size y1.frm):Int) - (↑(ByteArray.size y1.text):Int) < 0 then(-1)else left - (↑xs.length:Int) - jc (List.take n xs) - (↑(ByteArray.size y1.frm):Int) - (↑(ByteArray.size y1.text):Int))) [[],[]]]<|J ⟨I,I,Zdl,I,I,⟨UB,I,⟨UC,UA,I⟩,UA,xO _ _ _ _ OM OM OM OM⟩,I,I⟩<|g 24 25 []<|J UB<|W.cn<|J (fun h3=>?_) fun h3=>?_
 replace h3:=dt h3
 refine g 25 26 []<|J UA<|RT ?_
 exact vi OM
 replace h3:=df h3
 refine W.skip<|rg [.i ((n:Int) +1)]<|J Zdi ?_
 rotate_left
 replace h2:=df h2
 simp only[LM]at h2
 refine W.exit<|g 5 27 []<|J UB<|RT ?_
 rotate_left
 ·refine⟨n+1,[],[],⟨rfl,⟨rfl,(congrArg (fun z=>V.t (T.v (Value.int _ z))) (by rw[Em AS];omega)),rfl,I⟩,I,I⟩,?_,?_⟩
  rotate_left
  (dsimp only;omega)
  dsimp only
  omega
 ·have e:xs.take n = xs:=List.take_of_length_le OM
  rw[e]at hc ⊢
  exact vi (by split <;> omega)
theorem uH(xs:List Parcel)(hl:xs.length≤1048576):F tn [.val (.t (vV xs))] (.own pkd (xs.map bv)) [[]]:=by
 refine t9 ?_
 conv=>whnf
 refine g 0 0 []<|J UA<|g 5 8 [.n (List.length (List.map bv xs))]<|J Zcu<|W.sq<|g 0 0 []<|J UA<|W.blk<|W.lp (fun s (n:Nat)=>⟨[(0,s.s 0),(2,s.s 2),(3,s.s 3),(4,.i n)],[(7,[.own pkd (fill bv (bv noP) xs n)])],[]⟩) (fun(n:Nat)=>n≤xs.length) (fun(n:Nat)=>xs.length - n) (0) [some 7] [] ⟨rfl,Zay,⟨⟨rfl,⟨(congrArg (V.own _) (fB (by simp) rfl)),I⟩⟩,I⟩,I⟩ OM ?_
 intro n hn
 conv=>whnf
 refine W.sq<|g 8 11 []<|J UD<|W.cn<|J (fun h1=>?_) fun h1=>?_
 replace h1:=dt h1
 simp only[LM]at h1
 refine W.skip<|W.sq<|W.blk ?_
 obtain⟨y1,hy1⟩:=af (xs:=xs) (n:=n) OM
 refine rg [.x (bv y1),.call (Ld y1.kind y1.frm y1.text) [[]],.n (n),.x (bv noP)]<|J ⟨I,I,I,I,Zdl,I,⟨UA,I,⟨UC,I⟩,UA,xL _ _ _⟩,Zdj,⟨UC,gT OM⟩,I⟩<|rg [.i ((n:Int) +1)]<|J Zdi ?_
 rotate_left
 replace h1:=df h1
 simp only[LM]at h1
 refine W.exit<|g 3 23 []<|J UB<|RT ?_
 rotate_left
 ·refine⟨n+1,[some 7],[],⟨rfl,Zay,⟨⟨rfl,⟨(congrArg (V.own _) (gS AS)),I⟩⟩,I⟩,I⟩,?_,?_⟩
  rotate_left
  (dsimp only;omega)
  dsimp only
  omega
 ·have e:fill bv (bv noP) xs n = xs.map bv:=gU _ _ _ OM
  rw[←e]
theorem uQ(xs ys:List Parcel)(hl:xs.length≤9223372036854775806):F tH [.val (.t (vV xs)),.val (.t (vV ys))] (.b (decide (xs = ys))) [[],[]]:=by
 refine uo ?_
 conv=>whnf
 refine g 0 0 []<|J UA<|W.sq<|g 6 10 []<|J UE<|W.cn<|J (fun h1=>?_) fun h1=>?_
 replace h1:=ndt h1
 simp only[LM]at h1
 refine g 10 11 []<|J UA<|RT ?_
 rotate_left
 replace h1:=ndf h1
 simp only[LM]at h1
 refine W.skip<|W.sq<|g 10 11 []<|J UA<|W.blk ?_
 rotate_left
 ·exact vbf (fun e=>h1 (by rw[e]))
 refine W.lp (fun s (n:Nat)=>⟨[(0,s.s 0),(1,s.s 1),(5,.i n)],[],[]⟩) (fun(n:Nat)=>n≤xs.length∧xs.take n = ys.take n) (fun(n:Nat)=>xs.length - n) (0) [] [] Zbe (by simp) ?_
 rintro n ⟨hn,hc⟩
 conv=>whnf
 refine W.sq<|g 11 14 []<|J UD<|W.cn<|J (fun h2=>?_) fun h2=>?_
 replace h2:=dt h2
 simp only[LM]at h2
 refine W.skip<|W.sq<|W.blk ?_
 obtain⟨y1,hy1⟩:=af (xs:=xs) (n:=n) OM
 obtain⟨y2,hy2⟩:=af (xs:=ys) (n:=n) OM
 refine gd 14 26 [[],[],[.x (bv y1)],[],[],[],[.x (bv y2)],[],[.call (V.b (decide (y1 = y2))) [[],[]]],[]] ?_
 conv=>whnf
 refine J ⟨I,I,Zdl,I,I,I,Zdl,I,⟨UB,I,⟨UC,UC,I⟩,UA,xY _ _ _ _ _ _⟩,I,I⟩<|J KR<|W.cn<|J (fun h3=>?_) fun h3=>?_
 replace h3:=ndt h3
 refine g 26 27 []<|J UA<|RT ?_
 rotate_left
 replace h3:=ndf h3
 refine W.skip<|rg [.i ((n:Int) +1)]<|J Zdi ?_
 rotate_left
 replace h2:=df h2
 simp only[LM]at h2
 refine W.exit<|g 0 2 []<|J UA<|RT ?_
 rotate_left
 ·exact vbf (fun e=>by subst e;rw[hy1]at hy2;cases hy2;exact h3 rfl)
 ·refine⟨n+1,[],[],Zbe,?_,?_⟩
  rotate_left
  (dsimp only;omega)
  dsimp only
  exact⟨by omega,by rw[List.take_add_one,List.take_add_one,hy1,hy2,hc,h3]⟩
 ·exact vbt (by rw[List.take_of_length_le OM,List.take_of_length_le OM]at hc;exact hc)
def dgs(fuel:Nat)(k:Int)(s:ByteArray):ByteArray:=match fuel with
 |0=>s
 |f+1=>if k≤0 then s else dgs f (k / 10) (bl [48+k % 10] ++s)
def bG(k:Int):ByteArray:=if k≤0 then bl [109,48]else bl [109] ++dgs 20 k emp
theorem Rq{f:Nat}{a:Int}{t:ByteArray}(h0:0 < a)(h:a < 10 ^ f):∃ g,f = g+1∧a / 10 < 10 ^ g∧dgs f a t = dgs g (a / 10) (bl [48+a % 10] ++t):=by
 cases f with
 |zero=>simp at h;omega
 |succ g =>
  refine⟨g,rfl,?_,?_⟩
  ·rw[Int.pow_succ]at h;omega
  ·rw[dgs,if_neg OM]
theorem Vq{f:Nat}{a:Int}{t:ByteArray}(h0:¬0 < a):dgs f a t = t:=by
 cases f with
 |zero=>rfl
 |succ g=>rw[dgs,if_pos OM]
theorem WX{a:Int}(h0:0≤a)(h1:a≤1099511627776):IntKind.i64.wrap (a.tdiv 10) = a / 10:=by
 rw[Int.tdiv_eq_ediv_of_nonneg h0,wO]
theorem WY{a:Int}{t:ByteArray}(h0:0≤a):(⟨(bR [[T.v (Value.int IntKind.u8 (IntKind.u8.wrap (IntKind.i64.wrap (48+a.tmod 10))))]]).toArray⟩:ByteArray) ++t = bl [48+a % 10] ++t:=by
 rw[Int.tmod_eq_emod_of_nonneg h0,wO,wu8 OM OM];rfl
theorem gD(l:List Int):(bl l).size = l.length:=by simp[bl,bsa]
theorem bn(k:Int)(h:k≤1099511627776):F wF [.val (.i k)] (.s (bG k)) [[]]:=by
 refine xb ?_
 conv=>whnf
 refine g 0 0 []<|J UA<|W.sq<|g 4 5 []<|J UB<|W.cn<|J (fun h1=>?_) fun h1=>?_
 replace h1:=dt h1
 refine g 5 6 []<|J UA<|RT ?_
 rotate_left
 replace h1:=df h1
 refine W.skip<|g 5 6 []<|J UA<|W.sq<|W.blk ?_
 rotate_left
 ·exact vs (by unfold bG;rw[if_pos OM];rfl)
 refine W.lp (fun s (x:Nat×Int×ByteArray)=>match x with|(f,a,t)=>⟨[(0,.i a),(2,s.s 2),(3,.s t)],[],[]⟩) (fun(x:Nat×Int×ByteArray)=>match x with|(f,a,t)=>0≤a∧a≤1099511627776∧a < 10 ^ f∧f≤20∧(t.size:Int)≤20 - f∧dgs f a t = dgs 20 k emp) (fun(x:Nat×Int×ByteArray)=>match x with|(f,a,t)=>f) ((20,k,emp)) [] [] ⟨rfl,⟨rfl,rfl,rfl,I⟩,I,I⟩ ?_ ?_
 ·exact⟨by omega,by omega,by omega,by omega,by show((0:Nat):Int)≤20 - ((20:Nat):Int);omega,rfl⟩
 rintro⟨f,a,t⟩ ⟨g1,ga,g2,g3,g4,g5⟩
 conv=>whnf
 refine W.sq<|g 6 7 []<|J UB<|W.cn<|J (fun h2=>?_) fun h2=>?_
 replace h2:=dt h2
 refine W.skip<|W.blk<|g 10 16 [.i (Int.tmod a 10),.i (IntKind.wrap IntKind.i64 (48+Int.tmod a 10)),.i (IntKind.wrap IntKind.u8 (IntKind.wrap IntKind.i64 (48+Int.tmod a 10))),.s ({data:=List.toArray (bR [[T.v (Value.int IntKind.u8 (IntKind.wrap IntKind.u8 (IntKind.wrap IntKind.i64 (48+Int.tmod a 10))))]]):ByteArray}),.s ({data:=List.toArray (bR [[T.v (Value.int IntKind.u8 (IntKind.wrap IntKind.u8 (IntKind.wrap IntKind.i64 (48+Int.tmod a 10))))]]):ByteArray} ++t)]<|J ⟨I,Zds,rfl,rfl,US,⟨I,(by repeat (first|exact jR|refine iu ?_)),rfl⟩,I,⟨rfl,(by simp only[bsz,ByteArray.size_append,na];omega)⟩,I,I⟩ ?_
 refine rg [.i (IntKind.wrap IntKind.i64 (Int.tdiv a 10))]<|J ⟨I,Zds,I,I⟩ ?_
 rotate_left
 replace h2:=df h2
 refine W.exit<|g 3 20 [.s ({data:=#[(109:UInt8)]:ByteArray} ++t)]<|J ⟨I,⟨rfl,(by simp only[bsz,bsa,ByteArray.size_append,List.size_toArray,na];omega)⟩,I,I⟩<|RT ?_
 rotate_left
 ·obtain⟨g,rfl,g6,g7⟩:=Rq (t:=t) h2 g2
  refine⟨(g,a / 10,bl [48+a % 10] ++t),[],[],⟨rfl,⟨(congrArg (fun z=>V.t (T.v (Value.int _ z))) (WX g1 ga)),rfl,(congrArg (fun z=>V.t (T.v (Value.string z))) (WY g1)),I⟩,I,I⟩,?_,?_⟩
  rotate_left
  (dsimp only;omega)
  dsimp only
  have e:=gD [48+a % 10]
  exact⟨by omega,by omega,g6,by omega,by rw[ByteArray.size_append,e,List.length_cons,List.length_nil];omega,by rw[←g7];exact g5⟩
 ·exact vs (by unfold bG;rw[if_neg h1,←g5,Vq h2];rfl)
theorem bN(xs:List Parcel)(k:Int)(hl:xs.length≤9223372036854775806):F yx [.val (.t (vV xs)),.val (.i k)] (.b (decide (xs.length≤2000∧0≤k∧k < xs.length))) [[],[]]:=by
 refine yO ?_
 conv=>whnf
 refine g 0 0 []<|J UA ?_
 by_cases h1:(↑(List.length (List.map bv xs)):Int)≤(2000:Int)
 simp only[LM]at h1
 by_cases h2:(0:Int)≤k
 refine g 5 18 [BT,BT,BT,BT,BT,BT,BT,BT]<|J ⟨I,I,I,I,⟨SI,I⟩,⟨SI,I⟩,SI,I,⟨tO,I⟩,⟨tO,I⟩,⟨tO,I⟩,⟨tO,I⟩,tO,I,I⟩<|RT ?_
 rotate_left
 refine g 5 18 [BT,BT,BT,BF,BF,BF,BF,BF]<|J ⟨I,I,I,I,⟨SI,I⟩,⟨SI,I⟩,SI,I,dO,dO,dO,dO,dO,I,I⟩<|RT ?_
 exact vbf OM
 simp only[LM]at h1
 refine g 5 18 [BF,BF,BF,BF,BF,BF,BF,BF]<|J ⟨I,I,I,I,SI,SI,SI,I,rfl,rfl,rfl,rfl,rfl,I,I⟩<|RT ?_
 exact vbf OM
 exact vbd (by simp only[List.length_map];omega)
theorem dG(xs:List Parcel)(hl:xs.length≤1048576):F BU [.val (.t (vV xs))] (.own pkd (xs.map bv)) [[]]:=by
 refine CA ?_
 conv=>whnf
 refine g 0 0 []<|J UA<|g 3 6 []<|J ⟨I,I,Zdm,I,I⟩<|RT ?_
 rfl
theorem dI(xs:List Parcel)(hl:xs.length≤1048576):F Cq [.val (.t (vV xs))] (.own pkd (xs.map bv)) [[]]:=by
 refine C4 ?_
 conv=>whnf
 refine g 0 0 []<|J UA<|g 3 6 []<|J ⟨I,I,Zdm,I,I⟩<|RT ?_
 rfl
def cz(xs:List Parcel)(k:Int):List Parcel:=if xs.length≤2000∧0≤k∧k < xs.length then xs.take k.toNat++xs.drop (k.toNat+1)else xs
theorem MN{xs:List Parcel}{k:Int}(h:¬(xs.length≤2000∧0≤k∧k < xs.length)):cz xs k = xs:=if_neg h
theorem JG{xs:List Parcel}{k:Int}(h:xs.length≤2000∧0≤k∧k < xs.length):List.drop 0 (List.take k.toNat (xs.map bv)) ++List.drop (k+1).toNat (List.take (xs.map bv).length (xs.map bv)) = (cz xs k).map bv:=by
 unfold cz
 rw[if_pos h,List.drop_zero,List.take_length,show(k+1).toNat = k.toNat+1 from by omega,List.map_append,List.map_take,List.map_drop]
theorem we(xs:List Parcel)(k:Int)(hl:xs.length≤1048576):F HY [.val (.t (vV xs)),.val (.i k)] (.own pkd ((cz xs k).map bv)) [[],[]]:=by
 refine Ik ?_
 conv=>whnf
 refine g 0 0 []<|J UA<|W.sq<|g 5 8 [.call (V.b (decide (xs.length≤2000∧0≤k∧k < (↑xs.length:Int)))) [[],[]]]<|J ⟨I,I,⟨UB,I,UT,UA,bN _ _ OM⟩,I,I⟩<|W.cn<|J (fun h1=>?_) fun h1=>?_
 replace h1:=ndt h1
 refine g 8 11 [.call (V.own pkd (List.map bv xs)) [[]]]<|J ⟨I,⟨UA,I,US,UA,dG _ OM⟩,I,I⟩<|RT ?_
 rotate_left
 replace h1:=ndf h1
 refine W.skip<|gd 8 21 [[],[],[],[.n (Int.toNat k)],[],[],[],[.i (k+1)],[.n (Int.toNat (k+1))],[],[]] ?_
 conv=>whnf
 refine J ⟨I,I,I,⟨I,OM,I,OM,LN⟩,Zdm,I,I,wO,⟨I,I,OM,LN,OM⟩,Zdm,I,I⟩<|J KR<|RT ?_
 rotate_left
 ·rw[MN h1]
 ·exact congrArg (V.own pkd) (JG h1)
end Go.K
end
section
open Go Go.Tm Go.Proofs
namespace Go.K
abbrev dR(n:Int):List T:=[.i n]
structure Task where
 name:ByteArray
 cost:Int
 deps:List Int
 deriving DecidableEq
abbrev ay(x:Task):List T:=[.s x.name,.i x.cost,.slc [false] (x.deps.map dR)]
abbrev Pb(x:Task):V:=.agg [.t (.s x.name),.t (.i x.cost),.t (.slc [false] (x.deps.map dR))]
abbrev V9(x:Task):V:=.agg [.t (.s x.name),.t (.i x.cost),.own [false] (x.deps.map dR)]
abbrev dg:List Bool:=[false,false,true]
abbrev L7:Task:=⟨emp,0,[]⟩
def du(x:Task):Int:=(x.name.size:Int) + ((x.deps.length:Int))
theorem cZ(x:Task):0≤du x:=by
 simp only[du];omega
def x8(x:Task):Prop:=x.name.size≤9223372036854775807∧x.deps.length≤9223372036854775807
structure Worker where
 number:Int
 epoch:Int
 up:Bool
 state:Int
 lease:Int
 task:Int
 cost:Int
 left:Int
 inputs:List ByteArray
 text:ByteArray
 since:Int
 deriving DecidableEq
abbrev ar(x:Worker):List T:=[.i x.number,.i x.epoch,.b x.up,.i x.state,.i x.lease,.i x.task,.i x.cost,.i x.left,.slc [false] (x.inputs.map aj),.s x.text,.i x.since]
abbrev dZ(x:Worker):V:=.agg [.t (.i x.number),.t (.i x.epoch),.t (.b x.up),.t (.i x.state),.t (.i x.lease),.t (.i x.task),.t (.i x.cost),.t (.i x.left),.t (.slc [false] (x.inputs.map aj)),.t (.s x.text),.t (.i x.since)]
abbrev aD(x:Worker):V:=.agg [.t (.i x.number),.t (.i x.epoch),.t (.b x.up),.t (.i x.state),.t (.i x.lease),.t (.i x.task),.t (.i x.cost),.t (.i x.left),.own [false] (x.inputs.map aj),.t (.s x.text),.t (.i x.since)]
abbrev cB:List Bool:=[false,false,false,false,false,false,false,false,true,false,false]
abbrev iK:Worker:=⟨0,0,false,0,0,0,0,0,[],emp,0⟩
def aS(x:Worker):Int:=((x.inputs.length:Int) +bQ x.inputs) + (x.text.size:Int)
theorem cg(x:Worker):0≤aS x:=by
 have hn0:=bm x.inputs
 simp only[aS];omega
def lY(x:Worker):Prop:=x.inputs.length≤9223372036854775807∧(∀ s∈x.inputs,s.size≤9223372036854775807)∧x.text.size≤9223372036854775807
structure Plan where
 tasks:List Task
 deriving DecidableEq
abbrev X4(x:Plan):List T:=[.slc dg (x.tasks.map ay)]
abbrev cR(x:Plan):V:=.agg [.t (.slc dg (x.tasks.map ay))]
abbrev fj(x:Plan):V:=.agg [.own dg (x.tasks.map ay)]
def aK(x:Plan):Int:=((x.tasks.length:Int) +ak du x.tasks)
theorem lM(x:Plan):0≤aK x:=by
 have hn0:=aJ cZ x.tasks
 simp only[aK];omega
def dv(x:Plan):Prop:=x.tasks.length≤9223372036854775807∧(∀ y∈x.tasks,x8 y)
theorem DQ(xs:List Int)(left:Int)(hl:xs.length≤9223372036854775807)(h:left≤1048576)(h0:0≤left):F Cf [.val (.t (.slc [false] (xs.map dR))),.val (.i left)] (.i (if left - xs.length < 0 then -1 else left - xs.length)) [[],[]]:=by
 refine CT ?_
 conv=>whnf
 refine g 0 0 []<|J UA<|g 5 9 [.i (left - (↑(List.length (List.map dR xs)):Int))]<|J ⟨I,I,I,w64 LN LN,I,I⟩<|W.sq<|g 0 1 []<|J UB<|W.cn<|J (fun h1=>?_) fun h1=>?_
 replace h1:=dt h1
 simp only[LM]at h1
 refine g 9 11 []<|J UA<|RT ?_
 exact vi OM
 replace h1:=df h1
 simp only[LM]at h1
 refine W.skip<|g 9 12 []<|J UB<|RT ?_
 (simp[*];done)
theorem DK(xs:List Int)(h:(xs.length:Int)≤1048576):F Ca [.val (.t (.slc [false] (xs.map dR)))] (.own [false] (xs.map dR)) [[]]:=by
 refine CO ?_
 conv=>whnf
 refine g 0 0 []<|J UA<|g 5 8 [.n (List.length (List.map dR xs))]<|J Zcu<|W.sq<|g 0 0 []<|J UA<|W.blk<|W.lp (fun s (n:Nat)=>⟨[(0,s.s 0),(2,s.s 2),(3,s.s 3),(4,.i n)],[(7,[.own [false] (fill dR (dR 0) xs n)])],[]⟩) (fun(n:Nat)=>n≤xs.length) (fun(n:Nat)=>xs.length - n) (0) [some 7] [] ⟨rfl,Zay,⟨⟨rfl,⟨(congrArg (V.own _) (fB (by simp) rfl)),I⟩⟩,I⟩,I⟩ OM ?_
 intro n hn
 conv=>whnf
 refine W.sq<|g 8 11 []<|J UD<|W.cn<|J (fun h1=>?_) fun h1=>?_
 replace h1:=dt h1
 simp only[LM]at h1
 refine W.skip<|W.sq<|W.blk ?_
 obtain⟨y1,hy1⟩:=af (xs:=xs) (n:=n) OM
 refine rg [.x (dR y1),.n (n),.x (dR 0)]<|J ⟨I,I,I,I,Zdl,I,Zdj,⟨UA,gT OM⟩,I⟩<|rg [.i ((n:Int) +1)]<|J Zdi ?_
 rotate_left
 replace h1:=df h1
 simp only[LM]at h1
 refine W.exit<|g 3 22 []<|J UB<|RT ?_
 rotate_left
 ·refine⟨n+1,[some 7],[],⟨rfl,Zay,⟨⟨rfl,⟨(congrArg (V.own _) (gS AS)),I⟩⟩,I⟩,I⟩,?_,?_⟩
  rotate_left
  (dsimp only;omega)
  dsimp only
  omega
 ·have e:fill dR (dR 0) xs n = xs.map dR:=gU _ _ _ OM
  rw[←e]
theorem DX(xs ys:List Int)(hl:xs.length≤9223372036854775806):F Cm [.val (.t (.slc [false] (xs.map dR))),.val (.t (.slc [false] (ys.map dR)))] (.b (decide (xs = ys))) [[],[]]:=by
 refine C0 ?_
 conv=>whnf
 refine g 0 0 []<|J UA<|W.sq<|g 6 10 []<|J UE<|W.cn<|J (fun h1=>?_) fun h1=>?_
 replace h1:=ndt h1
 simp only[LM]at h1
 refine g 10 11 []<|J UA<|RT ?_
 rotate_left
 replace h1:=ndf h1
 simp only[LM]at h1
 refine W.skip<|W.sq<|g 10 11 []<|J UA<|W.blk ?_
 rotate_left
 ·exact vbf (fun e=>h1 (by rw[e]))
 refine W.lp (fun s (n:Nat)=>⟨[(0,s.s 0),(1,s.s 1),(5,.i n)],[],[]⟩) (fun(n:Nat)=>n≤xs.length∧xs.take n = ys.take n) (fun(n:Nat)=>xs.length - n) (0) [] [] Zbe (by simp) ?_
 rintro n ⟨hn,hc⟩
 conv=>whnf
 refine W.sq<|g 11 14 []<|J UD<|W.cn<|J (fun h2=>?_) fun h2=>?_
 replace h2:=dt h2
 simp only[LM]at h2
 refine W.skip<|W.sq<|W.blk ?_
 obtain⟨y1,hy1⟩:=af (xs:=xs) (n:=n) OM
 obtain⟨y2,hy2⟩:=af (xs:=ys) (n:=n) OM
 refine gd 14 25 [[],[],[.x (dR y1)],[],[],[],[.x (dR y2)],[],[]] ?_
 conv=>whnf
 refine J ⟨I,I,Zdl,I,I,I,Zdl,I,I,I⟩<|J KR<|W.cn<|J (fun h3=>?_) fun h3=>?_
 replace h3:=ndt h3
 refine g 25 26 []<|J UA<|RT ?_
 rotate_left
 replace h3:=ndf h3
 refine W.skip<|rg [.i ((n:Int) +1)]<|J Zdi ?_
 rotate_left
 replace h2:=df h2
 simp only[LM]at h2
 refine W.exit<|g 0 2 []<|J UA<|RT ?_
 rotate_left
 ·exact vbf (fun e=>by subst e;rw[hy1]at hy2;cases hy2;exact h3 rfl)
 ·refine⟨n+1,[],[],Zbe,?_,?_⟩
  rotate_left
  (dsimp only;omega)
  dsimp only
  exact⟨by omega,jT hc hy1 (by rw[hy2];exact congrArg some (Eq.symm h3))⟩
 ·exact vbt (by rw[aF OM,aF OM]at hc;exact hc)
theorem DM(x:Task)(left:Int)(hw:x8 x)(h:left≤1048576)(h0:0≤left):F Cc [.val (Pb x),.val (.i left)] (.i (if left - du x < 0 then -1 else left - du x)) [[],[]]:=by
 obtain⟨hw0,hw1⟩:=hw
 have hz:du x = (x.name.size:Int) + ((x.deps.length:Int)):=rfl
 refine CQ ?_
 conv=>whnf
 refine g 0 1 []<|J ⟨UC,I,I⟩<|g 5 10 [.i (left - (↑(ByteArray.size x.name):Int))]<|J Zdb<|W.sq<|g 10 11 []<|J UB<|W.cn<|J (fun h1=>?_) fun h1=>?_
 replace h1:=dt h1
 refine g 11 12 []<|J UA<|RT ?_
 exact vi OM
 replace h1:=df h1
 refine W.skip<|g 11 16 [.call (V.i (if left - (↑(ByteArray.size x.name):Int) - (↑(List.length x.deps):Int) < 0 then(-1)else left - (↑(ByteArray.size x.name):Int) - (↑(List.length x.deps):Int))) [[],[]]]<|J ⟨I,I,I,⟨UB,I,UT,UA,DQ _ _ OM OM OM⟩,I,I⟩<|W.sq<|g 2 3 []<|J UB<|W.cn<|J (fun h2=>?_) fun h2=>?_
 replace h2:=dt h2
 refine g 16 18 []<|J UA<|RT ?_
 exact vi OM
 replace h2:=df h2
 refine W.skip<|g 16 19 []<|J UB<|RT ?_
 exact vi OM
theorem DF(x:Task)(h:du x≤1048576):F B5 [.val (Pb x)] (V9 x) [[]]:=by
 have hz:du x = (x.name.size:Int) + ((x.deps.length:Int)):=rfl
 refine CJ ?_
 conv=>whnf
 refine g 0 1 []<|J ⟨UC,I,I⟩<|g 0 0 []<|J UA<|g 4 7 []<|J UW<|g 7 10 []<|J UW<|g 10 14 [.call (V.own [false] (List.map dR x.deps)) [[]]]<|J ⟨I,I,⟨UA,I,US,UA,DK _ OM⟩,I,UA,I⟩<|g 3 15 []<|J Zd8<|RT ?_
 rfl
def m7(a:Task):Prop:=a.deps.length≤9223372036854775806
theorem zQ{a:Task}(h:du a≤1048576):m7 a:=by
 simp only[du]at h
 simp only[m7]
 exact by omega
theorem DS(a b:Task)(hl:m7 a):F Ch [.val (Pb a),.val (Pb b)] (.b (decide (a = b))) [[],[]]:=by
 obtain⟨a_name,a_cost,a_deps⟩:=a
 obtain⟨b_name,b_cost,b_deps⟩:=b
 simp only[m7]at hl
 refine CV ?_
 conv=>whnf
 refine g 0 2 []<|J ⟨UC,UC,I,I⟩<|W.sq<|g 5 9 []<|J UE<|W.cn<|J (fun h1=>?_) fun h1=>?_
 replace h1:=ndt h1
 refine g 9 10 []<|J UA<|RT ?_
 rotate_left
 replace h1:=ndf h1
 refine W.skip<|W.sq<|g 9 14 []<|J UE<|W.cn<|J (fun h2=>?_) fun h2=>?_
 replace h2:=ndt h2
 refine g 14 15 []<|J UA<|RT ?_
 rotate_left
 replace h2:=ndf h2
 refine W.skip<|W.sq<|g 14 20 [.call (V.b (decide (a_deps = b_deps))) [[],[]]]<|J ⟨I,I,I,I,⟨UB,I,UT,UA,DX _ _ OM⟩,I,I⟩<|W.cn<|J (fun h3=>?_) fun h3=>?_
 replace h3:=ndt h3
 refine g 2 4 []<|J UA<|RT ?_
 rotate_left
 replace h3:=ndf h3
 refine W.skip<|g 2 4 []<|J UA<|RT ?_
 rotate_left
 all_goals (first|exact vbt (by simp_all;done)|exact vbf (by simp_all;done))
theorem zx(xs:List Task)(left:Int)(hl:xs.length≤9223372036854775807)(hs:∀ y∈xs,x8 y)(h:left≤1048576)(h0:0≤left):F yF [.val (.t (.slc dg (xs.map ay))),.val (.i left)] (.i (if left - (xs.length+ak du xs) < 0 then -1 else left - (xs.length+ak du xs))) [[],[]]:=by
 have hnn:=aJ cZ xs
 refine yW ?_
 conv=>whnf
 refine g 0 0 []<|J UA<|g 6 10 [.i (left - (↑(List.length (List.map ay xs)):Int))]<|J ⟨I,I,I,w64 LN LN,I,I⟩<|W.sq<|g 10 11 []<|J UB<|W.cn<|J (fun h1=>?_) fun h1=>?_
 replace h1:=dt h1
 simp only[LM]at h1
 refine g 11 12 []<|J UA<|RT ?_
 exact vi OM
 replace h1:=df h1
 simp only[LM]at h1
 refine W.skip<|W.sq<|g 11 12 []<|J UA<|W.blk ?_
 refine W.lp (fun s (n:Nat)=>⟨[(0,s.s 0),(1,.i (left - xs.length - ak du (xs.take n))),(5,.i n)],[],[]⟩) (fun(n:Nat)=>n≤xs.length∧0≤left - xs.length - ak du (xs.take n)) (fun(n:Nat)=>xs.length - n) (0) [] [] ⟨rfl,⟨rfl,(congrArg (fun z=>V.t (T.v (Value.int _ z))) (by simp[ak])),rfl,I⟩,I,I⟩ ?_ ?_
 ·simp[ak];omega
 rintro n ⟨hn,hc⟩
 have hq:=aJ cZ (xs.take n)
 have hle:=dE cZ xs (n+1)
 conv=>whnf
 refine W.sq<|g 12 15 []<|J UD<|W.cn<|J (fun h2=>?_) fun h2=>?_
 replace h2:=dt h2
 simp only[LM]at h2
 refine W.skip<|W.sq<|W.blk ?_
 obtain⟨y1,hy1⟩:=af (xs:=xs) (n:=n) OM
 have hm1:=hs y1 (List.mem_of_getElem? hy1)
 have hk1:=bD (f:=du) hy1
 have hk2:=cZ y1
 refine g 15 24 [.x (ay y1),.call (V.i (if left - (↑xs.length:Int) - ak du (List.take n xs) - du y1 < 0 then(-1)else left - (↑xs.length:Int) - ak du (List.take n xs) - du y1)) [[],[]]]<|J ⟨I,I,Zdl,I,I,⟨UB,I,⟨UC,UA,I⟩,UA,DM _ _ OM OM OM⟩,I,I⟩<|g 24 25 []<|J UB<|W.cn<|J (fun h3=>?_) fun h3=>?_
 replace h3:=dt h3
 refine g 25 26 []<|J UA<|RT ?_
 exact vi OM
 replace h3:=df h3
 refine W.skip<|rg [.i ((n:Int) +1)]<|J Zdi ?_
 rotate_left
 replace h2:=df h2
 simp only[LM]at h2
 refine W.exit<|g 5 27 []<|J UB<|RT ?_
 rotate_left
 ·refine⟨n+1,[],[],⟨rfl,⟨rfl,(congrArg (fun z=>V.t (T.v (Value.int _ z))) (by rw[bD AS];omega)),rfl,I⟩,I,I⟩,?_,?_⟩
  rotate_left
  (dsimp only;omega)
  dsimp only
  omega
 ·have e:xs.take n = xs:=aF OM
  rw[e]at hc ⊢
  exact vi (by split <;> omega)
theorem zt(xs:List Task)(h:(xs.length:Int) +ak du xs≤1048576):F yA [.val (.t (.slc dg (xs.map ay)))] (.own dg (xs.map ay)) [[]]:=by
 have hnn:=aJ cZ xs
 refine yR ?_
 conv=>whnf
 refine g 0 0 []<|J UA<|g 5 8 [.n (List.length (List.map ay xs))]<|J Zcu<|W.sq<|g 0 0 []<|J UA<|W.blk<|W.lp (fun s (n:Nat)=>⟨[(0,s.s 0),(2,s.s 2),(3,s.s 3),(4,.i n)],[(7,[.own dg (fill ay (ay L7) xs n)])],[]⟩) (fun(n:Nat)=>n≤xs.length) (fun(n:Nat)=>xs.length - n) (0) [some 7] [] ⟨rfl,Zay,⟨⟨rfl,⟨(congrArg (V.own _) (fB (by simp) rfl)),I⟩⟩,I⟩,I⟩ OM ?_
 intro n hn
 conv=>whnf
 refine W.sq<|g 8 11 []<|J UD<|W.cn<|J (fun h1=>?_) fun h1=>?_
 replace h1:=dt h1
 simp only[LM]at h1
 refine W.skip<|W.sq<|W.blk ?_
 obtain⟨y1,hy1⟩:=af (xs:=xs) (n:=n) OM
 have hk1:=gW cZ (List.mem_of_getElem? hy1)
 refine rg [.x (ay y1),.call (V9 y1) [[]],.n (n),.x (ay L7)]<|J ⟨I,I,I,I,Zdl,I,⟨UA,I,⟨UC,I⟩,UA,DF _ OM⟩,Zdj,⟨UC,gT OM⟩,I⟩<|rg [.i ((n:Int) +1)]<|J Zdi ?_
 rotate_left
 replace h1:=df h1
 simp only[LM]at h1
 refine W.exit<|g 3 23 []<|J UB<|RT ?_
 rotate_left
 ·refine⟨n+1,[some 7],[],⟨rfl,Zay,⟨⟨rfl,⟨(congrArg (V.own _) (gS AS)),I⟩⟩,I⟩,I⟩,?_,?_⟩
  rotate_left
  (dsimp only;omega)
  dsimp only
  omega
 ·have e:fill ay (ay L7) xs n = xs.map ay:=gU _ _ _ OM
  rw[←e]
theorem zC(xs ys:List Task)(hl:xs.length≤9223372036854775806)(hs:∀ y∈xs,m7 y):F yL [.val (.t (.slc dg (xs.map ay))),.val (.t (.slc dg (ys.map ay)))] (.b (decide (xs = ys))) [[],[]]:=by
 refine zd ?_
 conv=>whnf
 refine g 0 0 []<|J UA<|W.sq<|g 6 10 []<|J UE<|W.cn<|J (fun h1=>?_) fun h1=>?_
 replace h1:=ndt h1
 simp only[LM]at h1
 refine g 10 11 []<|J UA<|RT ?_
 rotate_left
 replace h1:=ndf h1
 simp only[LM]at h1
 refine W.skip<|W.sq<|g 10 11 []<|J UA<|W.blk ?_
 rotate_left
 ·exact vbf (fun e=>h1 (by rw[e]))
 refine W.lp (fun s (n:Nat)=>⟨[(0,s.s 0),(1,s.s 1),(5,.i n)],[],[]⟩) (fun(n:Nat)=>n≤xs.length∧xs.take n = ys.take n) (fun(n:Nat)=>xs.length - n) (0) [] [] Zbe (by simp) ?_
 rintro n ⟨hn,hc⟩
 conv=>whnf
 refine W.sq<|g 11 14 []<|J UD<|W.cn<|J (fun h2=>?_) fun h2=>?_
 replace h2:=dt h2
 simp only[LM]at h2
 refine W.skip<|W.sq<|W.blk ?_
 obtain⟨y1,hy1⟩:=af (xs:=xs) (n:=n) OM
 have hm1:=hs y1 (List.mem_of_getElem? hy1)
 obtain⟨y2,hy2⟩:=af (xs:=ys) (n:=n) OM
 refine gd 14 26 [[],[],[.x (ay y1)],[],[],[],[.x (ay y2)],[],[.call (V.b (decide (y1 = y2))) [[],[]]],[]] ?_
 conv=>whnf
 refine J ⟨I,I,Zdl,I,I,I,Zdl,I,⟨UB,I,⟨UC,UC,I⟩,UA,DS _ _ OM⟩,I,I⟩<|J KR<|W.cn<|J (fun h3=>?_) fun h3=>?_
 replace h3:=ndt h3
 refine g 26 27 []<|J UA<|RT ?_
 rotate_left
 replace h3:=ndf h3
 refine W.skip<|rg [.i ((n:Int) +1)]<|J Zdi ?_
 rotate_left
 replace h2:=df h2
 simp only[LM]at h2
 refine W.exit<|g 0 2 []<|J UA<|RT ?_
 rotate_left
 ·exact vbf (fun e=>by subst e;rw[hy1]at hy2;cases hy2;exact h3 rfl)
 ·refine⟨n+1,[],[],Zbe,?_,?_⟩
  rotate_left
  (dsimp only;omega)
  dsimp only
  exact⟨by omega,jT hc hy1 (by rw[hy2];exact congrArg some (Eq.symm h3))⟩
 ·exact vbt (by rw[aF OM,aF OM]at hc;exact hc)
theorem DN(x:Plan)(left:Int)(hw:dv x)(h:left≤1048576)(h0:0≤left):F Cd [.val (cR x),.val (.i left)] (.i (if left - aK x < 0 then -1 else left - aK x)) [[],[]]:=by
 have hn0:=aJ cZ x.tasks
 obtain⟨hw0,hw1⟩:=hw
 have hz:aK x = ((x.tasks.length:Int) +ak du x.tasks):=rfl
 refine CR ?_
 conv=>whnf
 refine g 0 1 []<|J Zdt<|g 5 9 [.call (V.i (if left - ((↑(List.length x.tasks):Int) +ak du x.tasks) < 0 then(-1)else left - ((↑(List.length x.tasks):Int) +ak du x.tasks))) [[],[]]]<|J ⟨I,I,I,⟨UB,I,UT,UA,zx _ _ OM OM OM OM⟩,I,I⟩<|W.sq<|g 2 3 []<|J UB<|W.cn<|J (fun h1=>?_) fun h1=>?_
 replace h1:=dt h1
 refine g 9 11 []<|J UA<|RT ?_
 exact vi OM
 replace h1:=df h1
 refine W.skip<|g 9 12 []<|J UB<|RT ?_
 rfl
theorem DH(x:Plan)(h:aK x≤1048576):F B7 [.val (cR x)] (fj x) [[]]:=by
 have hn0:=aJ cZ x.tasks
 have hz:aK x = ((x.tasks.length:Int) +ak du x.tasks):=rfl
 refine CL ?_
 conv=>whnf
 refine g 0 1 []<|J Zdt<|g 0 0 []<|J UA<|g 4 8 [.call (V.own dg (List.map ay x.tasks)) [[]]]<|J ⟨I,I,⟨UA,I,US,UA,zt _ OM⟩,I,UA,I⟩<|g 3 9 []<|J UV<|RT ?_
 rfl
def m9(a:Plan):Prop:=a.tasks.length≤9223372036854775806∧(∀ y∈a.tasks,m7 y)
theorem DU(a b:Plan)(hl:m9 a):F Cj [.val (cR a),.val (cR b)] (.b (decide (a = b))) [[],[]]:=by
 obtain⟨a_tasks⟩:=a
 obtain⟨b_tasks⟩:=b
 simp only[m9]at hl
 obtain⟨hl0,hl1⟩:=hl
 refine CX ?_
 conv=>whnf
 refine g 0 2 []<|J ⟨UA,UA,I,I⟩<|W.sq<|g 5 10 [.call (V.b (decide (a_tasks = b_tasks))) [[],[]]]<|J ⟨I,I,I,I,⟨UB,I,UT,UA,zC _ _ OM OM⟩,I,I⟩<|W.cn<|J (fun h1=>?_) fun h1=>?_
 replace h1:=ndt h1
 refine g 2 4 []<|J UA<|RT ?_
 rotate_left
 replace h1:=ndf h1
 refine W.skip<|g 2 4 []<|J UA<|RT ?_
 rotate_left
 all_goals (first|exact vbt (by simp_all;done)|exact vbf (by simp_all;done))
end Go.K
end
section
open Go Go.Tm Go.Proofs
namespace Go.K
theorem xN(x:Worker)(left:Int)(hw:lY x)(h:left≤1048576)(h0:0≤left):F wD [.val (dZ x),.val (.i left)] (.i (if left - aS x < 0 then -1 else left - aS x)) [[],[]]:=by
 have hn0:=bm x.inputs
 obtain⟨hw0,hw1,hw2⟩:=hw
 have hz:aS x = ((x.inputs.length:Int) +bQ x.inputs) + (x.text.size:Int):=rfl
 refine w9 ?_
 conv=>whnf
 refine g 0 1 []<|J Zd9<|g 5 9 [.call (V.i (if left - (↑(List.length x.inputs):Int) - bQ x.inputs < 0 then(-1)else left - (↑(List.length x.inputs):Int) - bQ x.inputs)) [[],[]]]<|J ⟨I,I,I,⟨UB,I,UT,UA,fE _ _ OM OM OM OM⟩,I,I⟩<|W.sq<|g 9 10 []<|J UB<|W.cn<|J (fun h1=>?_) fun h1=>?_
 replace h1:=dt h1
 refine g 10 11 []<|J UA<|RT ?_
 exact vi OM
 replace h1:=df h1
 refine W.skip<|g 10 16 [.i ((if left - (↑(List.length x.inputs):Int) - bQ x.inputs < 0 then(-1)else left - (↑(List.length x.inputs):Int) - bQ x.inputs) - (↑(ByteArray.size x.text):Int))]<|J Zdb<|W.sq<|g 2 3 []<|J UB<|W.cn<|J (fun h2=>?_) fun h2=>?_
 replace h2:=dt h2
 refine g 16 18 []<|J UA<|RT ?_
 exact vi OM
 replace h2:=df h2
 refine W.skip<|g 16 19 []<|J UB<|RT ?_
 exact vi OM
theorem xK(x:Worker)(h:aS x≤1048576):F wB [.val (dZ x)] (aD x) [[]]:=by
 have hn0:=bm x.inputs
 have hz:aS x = ((x.inputs.length:Int) +bQ x.inputs) + (x.text.size:Int):=rfl
 refine wY ?_
 conv=>whnf
 refine g 0 1 []<|J Zd9<|g 0 0 []<|J UA<|g 4 7 []<|J UW<|g 7 10 []<|J UW<|g 10 13 []<|J UW<|g 13 16 []<|J UW<|g 16 19 []<|J UW<|g 19 22 []<|J UW<|g 22 25 []<|J UW<|g 25 28 []<|J UW<|g 28 32 [.call (V.own [false] (List.map aj x.inputs)) [[]]]<|J ⟨I,I,⟨UA,I,US,UA,fD _ OM⟩,I,UA,I⟩<|g 32 35 []<|J UW ?_
 refine g 35 38 []<|J UW<|g 3 39 []<|J Zeh<|RT ?_
 rfl
def iv(a:Worker):Prop:=a.inputs.length≤9223372036854775806
theorem Fl{a:Worker}(h:aS a≤1048576):iv a:=by
 have:=bm a.inputs
 simp only[aS]at h
 simp only[iv]
 exact by omega
theorem xX(a b:Worker)(hl:iv a):F wP [.val (dZ a),.val (dZ b)] (.b (decide (a = b))) [[],[]]:=by
 obtain⟨a_number,a_epoch,a_up,a_state,a_lease,a_task,a_cost,a_left,a_inputs,a_text,a_since⟩:=a
 obtain⟨b_number,b_epoch,b_up,b_state,b_lease,b_task,b_cost,b_left,b_inputs,b_text,b_since⟩:=b
 simp only[iv]at hl
 refine xq ?_
 conv=>whnf
 refine g 0 2 []<|J ⟨UK,UK,I,I⟩<|W.sq<|g 5 9 []<|J UE<|W.cn<|J (fun h1=>?_) fun h1=>?_
 replace h1:=ndt h1
 refine g 9 10 []<|J UA<|RT ?_
 rotate_left
 replace h1:=ndf h1
 refine W.skip<|W.sq<|g 9 14 []<|J UE<|W.cn<|J (fun h2=>?_) fun h2=>?_
 replace h2:=ndt h2
 refine g 14 15 []<|J UA<|RT ?_
 rotate_left
 replace h2:=ndf h2
 refine W.skip<|W.sq<|g 14 19 []<|J UE<|W.cn<|J (fun h3=>?_) fun h3=>?_
 replace h3:=nbt h3
 refine g 19 20 []<|J UA<|RT ?_
 rotate_left
 replace h3:=nbf h3
 refine W.skip<|W.sq<|g 19 24 []<|J UE<|W.cn<|J (fun h4=>?_) fun h4=>?_
 replace h4:=ndt h4
 refine g 24 25 []<|J UA<|RT ?_
 rotate_left
 replace h4:=ndf h4
 refine W.skip<|W.sq<|g 24 29 []<|J UE<|W.cn<|J (fun h5=>?_) fun h5=>?_
 replace h5:=ndt h5
 refine g 29 30 []<|J UA<|RT ?_
 rotate_left
 replace h5:=ndf h5
 refine W.skip<|W.sq<|g 29 34 []<|J UE<|W.cn<|J (fun h6=>?_) fun h6=>?_
 replace h6:=ndt h6
 refine g 34 35 []<|J UA<|RT ?_
 rotate_left
 replace h6:=ndf h6
 refine W.skip<|W.sq<|g 34 39 []<|J UE<|W.cn<|J (fun h7=>?_) fun h7=>?_
 replace h7:=ndt h7
 refine g 39 40 []<|J UA<|RT ?_
 rotate_left
 replace h7:=ndf h7
 refine W.skip<|W.sq<|g 39 44 []<|J UE<|W.cn<|J (fun h8=>?_) fun h8=>?_
 replace h8:=ndt h8
 refine g 44 45 []<|J UA<|RT ?_
 rotate_left
 replace h8:=ndf h8
 refine W.skip<|W.sq<|g 44 50 [.call (V.b (decide (a_inputs = b_inputs))) [[],[]]]<|J ⟨I,I,I,I,⟨UB,I,UT,UA,fH _ _ OM⟩,I,I⟩<|W.cn<|J (fun h9=>?_) fun h9=>?_
 replace h9:=ndt h9
 refine g 50 51 []<|J UA<|RT ?_
 rotate_left
 replace h9:=ndf h9
 refine W.skip<|W.sq<|g 50 55 []<|J UE<|W.cn<|J (fun h10=>?_) fun h10=>?_
 replace h10:=ndt h10
 refine g 55 56 []<|J UA<|RT ?_
 rotate_left
 replace h10:=ndf h10
 refine W.skip<|W.sq<|g 55 60 []<|J UE<|W.cn<|J (fun h11=>?_) fun h11=>?_
 replace h11:=ndt h11
 refine g 2 4 []<|J UA<|RT ?_
 rotate_left
 replace h11:=ndf h11
 refine W.skip<|g 2 4 []<|J UA<|RT ?_
 rotate_left
 all_goals (first|exact vbt (by simp_all;done)|exact vbf (by simp_all;done))
theorem eJ(xs:List ByteArray)(k:Int)(hl:xs.length≤9223372036854775806)(h0:0≤k)(hk:k+xs.length≤1099511627776):F pJ [.bor (.own [false] (xs.map aj)),.val (.i k)] (.i (k+xs.length)) [[.own [false] ((mkL (fun k _=>bG k) (fun _=>1) k xs).map aj)],[]]:=by
 refine pY ?_
 conv=>whnf
 refine g 0 0 []<|J UA<|W.sq<|g 0 0 []<|J UA<|W.blk<|W.lp (fun s (n:Nat)=>⟨[(0,s.s 0),(1,.i (k+n)),(4,s.s 4),(5,.i n)],[(20,[.own [false] ((mkN (fun k _=>bG k) (fun _=>1) k xs n).map aj)])],[]⟩) (fun(n:Nat)=>n≤xs.length) (fun(n:Nat)=>xs.length - n) (0) [some 20] [] ⟨rfl,⟨rfl,(congrArg (fun z=>V.t (T.v (Value.int _ z))) (by simp[ak])),rfl,rfl,I⟩,Zdq,I⟩ OM ?_
 intro n hn
 have hx:=lj (fun k _=>bG k) (fun _=>1) k xs n
 have hs1:∀ x,xs[n]? = some x→((mkN (fun k _=>bG k) (fun _=>1) k xs n).map aj).set n (aj (bG (k+n))) = (mkN (fun k _=>bG k) (fun _=>1) k xs (n+1)).map aj:=fun x hx=>by
  have:=iP (f:=(fun k _=>bG k)) (c:=(fun _=>1)) (g:=aj) (k:=k) hx
  rw[sY,List.length_take,Nat.min_eq_left hn]at this;exact this
 conv=>whnf
 refine W.sq<|g 6 9 []<|J UD<|W.cn<|J (fun h1=>?_) fun h1=>?_
 replace h1:=dt h1
 simp only[LM]at h1
 refine W.skip<|W.sq<|W.blk ?_
 obtain⟨y1,hy1⟩:=af (xs:=xs) (n:=n) OM
 refine g 9 17 [.call (V.s (bG (k+ (n:Int)))) [[]],.n (n),.x (aj y1)]<|J ⟨I,I,I,⟨UA,I,US,UA,bn _ OM⟩,Zdj,⟨UA,iQ AS⟩,I⟩<|rg [.i (k+ (n:Int) +1)]<|J Zdi<|rg [.i ((n:Int) +1)]<|J Zdi ?_
 rotate_left
 replace h1:=df h1
 simp only[LM]at h1
 refine W.exit<|g 5 20 []<|J UB<|W.ret<|EndsW.rt<|J UB<|J ?_ ?_
 exact vi OM
 rotate_left
 ·refine⟨n+1,[some 20],[],⟨rfl,⟨rfl,(congrArg (fun z=>V.t (T.v (Value.int _ z))) OM),rfl,rfl,I⟩,⟨⟨rfl,⟨(congrArg (V.own _) (hs1 _ AS)),I⟩⟩,I⟩,I⟩,?_,?_⟩
  rotate_left
  (dsimp only;omega)
  dsimp only
  omega
 ·have e:=lk (fun k _=>bG k) (fun _=>1) k xs (n:=n) OM
  rw[show n = xs.length by omega]at e ⊢
  rw[e]
theorem eK(xs:List ByteArray)(k:Int)(hl:xs.length≤9223372036854775806)(h0:0≤k)(hk:k+xs.length≤1099511627776):F pL [.val (.t (.slc [false] ((mkL (fun k _=>bG k) (fun _=>1) k xs).map aj))),.val (.i k)] (.i (k+xs.length)) [[],[]]:=by
 have hx:=fw (fun k _=>bG k) (fun _=>1) k xs
 refine p9 ?_
 conv=>whnf
 refine g 0 0 []<|J UA<|W.sq<|g 0 0 []<|J UA<|W.blk<|W.lp (fun s (n:Nat)=>⟨[(0,s.s 0),(1,.i (k+n)),(5,.i n)],[],[]⟩) (fun(n:Nat)=>n≤xs.length) (fun(n:Nat)=>xs.length - n) (0) [] [] ⟨rfl,⟨rfl,(congrArg (fun z=>V.t (T.v (Value.int _ z))) (by simp[ak])),rfl,I⟩,I,I⟩ OM ?_
 intro n hn
 have hs1:∀ x,xs[n]? = some x→(mkL (fun k _=>bG k) (fun _=>1) k xs)[n]? = some (bG (k+n)):=fun x hx=>by
  have:=jZ (f:=(fun k _=>bG k)) (c:=(fun _=>1)) (k:=k) hx
  rw[sY,List.length_take,Nat.min_eq_left hn]at this;exact this
 conv=>whnf
 refine W.sq<|g 6 9 []<|J UD<|W.cn<|J (fun h1=>?_) fun h1=>?_
 replace h1:=dt h1
 simp only[LM]at h1
 refine W.skip<|W.sq<|W.blk<|W.sq ?_
 obtain⟨y1,hy1⟩:=af (xs:=xs) (n:=n) OM
 have hk1:=hs1 _ hy1
 refine gd 9 18 [[],[],[.x (aj (bG (k+ (n:Int))))],[],[],[.call (V.s (bG (k+ (n:Int)))) [[]]],[]] ?_
 conv=>whnf
 refine J ⟨I,I,Zdl,I,I,⟨UA,I,US,UA,bn _ OM⟩,I,I⟩<|J KR<|W.cn<|J (noT (ea rfl)) fun _=>W.skip<|rg [.i (k+ (n:Int) +1)]<|J Zdi<|rg [.i ((n:Int) +1)]<|J Zdi ?_
 rotate_left
 replace h1:=df h1
 simp only[LM]at h1
 refine W.exit<|g 5 22 []<|J UB<|RT ?_
 exact vi OM
 refine⟨n+1,[],[],⟨rfl,⟨rfl,(congrArg (fun z=>V.t (T.v (Value.int _ z))) OM),rfl,I⟩,I,I⟩,?_,?_⟩
 rotate_left
 (dsimp only;omega)
 dsimp only
 omega
end Go.K
end
section
open Go Go.Tm Go.Proofs
namespace Go.K
def eP(xs:List ByteArray):Prop:=(∀ s∈xs,s.size = 8)∧xs.length≤8
instance (xs:List ByteArray):Decidable (eP xs):=by unfold eP;infer_instance
theorem E2{xs:List ByteArray}{n:Nat}{y:ByteArray}(hy:xs[n]? = some y)(h:¬(y.size:Int) = 8):¬eP xs:=fun e=>h (by have:=e.1 y (List.mem_of_getElem? hy);omega)
theorem sT{α:Type}{p:α→Prop}{xs:List α}{n:Nat}{y:α}(h:∀ s∈xs.take n,p s)(hy:xs[n]? = some y)(hp:p y):∀ s∈xs.take (n+1),p s:=fun s hs=>by
 rw[List.take_add_one,hy]at hs
 rcases List.mem_append.1 hs with hs|hs
 ·exact h s hs
 ·simp at hs;subst hs;exact hp
theorem sU{α:Type}{p:α→Prop}{xs:List α}{n:Nat}(h:∀ s∈xs.take n,p s)(hn:xs.length≤n):∀ s∈xs,p s:=by rwa [aF hn]at h
theorem ir(xs:List ByteArray)(hl:xs.length≤9223372036854775806):F Cp [.val (.t (qq xs))] (.b (decide (eP xs))) [[]]:=by
 refine C3 ?_
 conv=>whnf
 refine g 0 0 []<|J UA<|W.sq<|g 0 0 []<|J UC<|W.blk<|W.lp (fun s (n:Nat)=>⟨[(0,s.s 0),(5,s.s 5),(6,s.s 6),(7,.i n)],[],[]⟩) (fun(n:Nat)=>n≤xs.length∧∀ s∈xs.take n,s.size = 8) (fun(n:Nat)=>xs.length - n) (0) [] [] ⟨rfl,Zay,I,I⟩ (by simp) ?_
 rintro n ⟨hn,hc⟩
 conv=>whnf
 refine g 0 0 []<|J UA<|W.sq<|W.cn<|J (fun h1=>?_) fun h1=>?_
 replace h1:=dt h1
 simp only[LM]at h1
 refine W.skip<|W.sq<|W.blk ?_
 obtain⟨y1,hy1⟩:=af (xs:=xs) (n:=n) OM
 refine g 8 11 [.x (aj y1)]<|J Zb6<|g 11 13 []<|J UC<|W.cn<|J (fun h2=>?_) fun h2=>?_
 replace h2:=ndt h2
 refine g 13 14 []<|J UA<|RT ?_
 rotate_left
 replace h2:=ndf h2
 refine W.skip<|rg [.i ((n:Int) +1)]<|J Zdn ?_
 rotate_left
 replace h1:=df h1
 simp only[LM]at h1
 refine W.exit<|g 5 18 []<|J UD<|RT ?_
 rotate_left
 ·exact vbf (E2 hy1 AS)
 ·refine⟨n+1,[],[],⟨rfl,Zay,I,I⟩,?_,?_⟩
  rotate_left
  (dsimp only;omega)
  dsimp only
  exact⟨by omega,sT hc hy1 OM⟩
 ·exact vbd ⟨fun e=>⟨sU hc OM,by simp only[LM]at e;omega⟩,fun e=>by have:=e.2;simp only[List.length_map];omega⟩
theorem fb(xs:List ByteArray)(hl:xs.length≤9223372036854775806):F rf [.val (.t (qq xs))] (.b (decide (eP xs))) [[]]:=by
 refine ry ?_
 conv=>whnf
 refine g 0 0 []<|J UA<|W.sq<|g 0 0 []<|J UA<|W.blk<|W.lp (fun s (n:Nat)=>⟨[(0,s.s 0),(3,.i n)],[],[]⟩) (fun(n:Nat)=>n≤xs.length∧∀ s∈xs.take n,s.size = 8) (fun(n:Nat)=>xs.length - n) (0) [] [] Zc9 (by simp) ?_
 rintro n ⟨hn,hc⟩
 conv=>whnf
 refine W.sq<|g 5 7 []<|J UD<|W.cn<|J (fun h1=>?_) fun h1=>?_
 replace h1:=dt h1
 simp only[LM]at h1
 refine W.skip<|W.sq<|W.blk ?_
 obtain⟨y1,hy1⟩:=af (xs:=xs) (n:=n) OM
 refine g 7 15 [.x (aj y1)]<|J ⟨I,I,Zdl,I,I,I,I⟩<|W.cn<|J (fun h2=>?_) fun h2=>?_
 replace h2:=ndt h2
 refine g 15 16 []<|J UA<|RT ?_
 rotate_left
 replace h2:=ndf h2
 refine W.skip<|rg [.i ((n:Int) +1)]<|J Zdi ?_
 rotate_left
 replace h1:=df h1
 simp only[LM]at h1
 refine W.exit<|g 7 19 []<|J UD<|RT ?_
 rotate_left
 ·exact vbf (E2 hy1 AS)
 ·refine⟨n+1,[],[],Zc9,?_,?_⟩
  rotate_left
  (dsimp only;omega)
  dsimp only
  exact⟨by omega,sT hc hy1 OM⟩
 ·exact vbd ⟨fun e=>⟨sU hc OM,by simp only[LM]at e;omega⟩,fun e=>by have:=e.2;simp only[List.length_map];omega⟩
theorem aA(n:Int):F te [.val (.i n)] (.b (decide (1≤n∧n≤300000000))) [[]]:=by
 refine tV ?_
 conv=>whnf
 refine g 0 0 []<|J UA<|g 0 1 [.call (V.b (decide (1≤n∧n≤300000000))) [[],[],[]]]<|J ⟨I,⟨UC,I,UU,UA,ah _ _ _⟩,I,I⟩<|RT ?_
 rfl
end Go.K
end
section
open Go Go.Tm Go.Proofs Classical
namespace Go.K
def nj(s:ByteArray):Prop:=(∀ (n:Nat) (c:UInt8),s[n]? = some c→33≤c.toNat∧c.toNat≤126)∧1≤s.size∧s.size≤30
theorem sE{s:ByteArray}{n:Nat}{c:UInt8}(h:s[n]? = some c)(hc:¬(33≤(c.toNat:Int)∧(c.toNat:Int)≤126)):¬nj s:=fun e=>hc (by have:=e.1 n c h;omega)
theorem Ai{s:ByteArray}{n:Nat}{c:UInt8}(hn:∀ (m:Nat) (c:UInt8),m < n→s[m]? = some c→33≤c.toNat∧c.toNat≤126)(h:s[n]? = some c)(hc:33≤(c.toNat:Int)∧(c.toNat:Int)≤126):∀ (m:Nat) (c:UInt8),m < n+1→s[m]? = some c→33≤c.toNat∧c.toNat≤126:=fun m d hm hd=>by
 by_cases e:m = n
 ·subst e;rw[h]at hd;cases hd;omega
 ·exact hn m d OM hd
theorem NX{s:ByteArray}{n:Nat}{c:UInt8}(h:s[n]? = some c):n < s.size:=by
 by_cases hn:n < s.size
 ·exact hn
 ·rw[getElem?_neg s n hn]at h;cases h
theorem sa(s:ByteArray)(hs:s.size≤9223372036854775807):F FR [.val (.s s)] (.b (decide (nj s))) [[]]:=by
 refine Gh ?_
 conv=>whnf
 refine g 0 0 []<|J UA<|W.sq<|g 0 0 []<|J UA<|W.blk<|W.lp (fun s (n:Nat)=>⟨[(0,s.s 0),(3,.i n)],[],[]⟩) (fun(n:Nat)=>n≤s.size∧∀ (m:Nat) (c:UInt8),m < n→s[m]? = some c→33≤c.toNat∧c.toNat≤126) (fun(n:Nat)=>s.size - n) (0) [] [] Zc9 (by simp) ?_
 rintro n ⟨hn,hc⟩
 conv=>whnf
 refine W.sq<|g 5 7 []<|J UD<|W.cn<|J (fun h1=>?_) fun h1=>?_
 replace h1:=dt h1
 refine W.skip<|W.sq<|W.blk ?_
 obtain⟨y1,hy1,hb1⟩:=bB (s:=s) (n:=n) OM
 by_cases h2:(↑(UInt8.toNat y1):Int) < (33:Int)
 refine g 7 19 [.i ((↑(UInt8.toNat y1):Int)),BT,BT,BT,BT,BT]<|J ⟨I,I,Zc5,I,I,tO,tO,tO,tO,tO,I⟩<|W.cn<|J (fun _=>(g 19 20 []<|J UA (RT ?_))) (noF rfl)
 rotate_left
 refine g 7 19 [.i ((↑(UInt8.toNat y1):Int)),BF,BF,BF,.i ((↑(UInt8.toNat y1):Int)),BF,BF]<|J ⟨I,I,Zc5,I,I,⟨dO,I⟩,⟨dO,I⟩,⟨dO,OM,ixb AS⟩,⟨dO,I⟩,dO,I⟩<|W.cn<|J (fun h3=>?_) fun h3=>?_
 replace h3:=dt h3
 refine g 19 20 []<|J UA<|RT ?_
 rotate_left
 replace h3:=df h3
 refine W.skip<|rg [.i ((n:Int) +1)]<|J Zdi ?_
 rotate_left
 replace h1:=df h1
 refine W.exit ?_
 by_cases h2:(1:Int)≤(↑(ByteArray.size s):Int)
 refine g 7 28 [BT,BT,BT,BT]<|J Zcg<|RT ?_
 rotate_left
 refine g 7 28 [BF,BF,BF,BF]<|J Zc8<|RT ?_
 rotate_left
 ·exact vbf (sE hy1 OM)
 ·exact vbf (sE hy1 OM)
 ·refine⟨n+1,[],[],Zc9,?_,?_⟩
  rotate_left
  (dsimp only;omega)
  dsimp only
  exact⟨by omega,Ai hc hy1 OM⟩
 ·exact vbd ⟨fun e=>⟨fun m c h=>hc m c (by have:=NX h;omega) h,by omega,by omega⟩,fun e=>by have:=e.2;omega⟩
 ·exact vbf (fun e=>by have:=e.2;omega)
theorem xF(s:ByteArray)(hs:s.size≤9223372036854775807):F wt [.val (.s s)] (.b (decide (nj s))) [[]]:=by
 refine wX ?_
 conv=>whnf
 refine g 0 0 []<|J UA<|W.sq<|g 0 0 []<|J UA<|W.blk<|W.lp (fun s (n:Nat)=>⟨[(0,s.s 0),(3,.i n)],[],[]⟩) (fun(n:Nat)=>n≤s.size∧∀ (m:Nat) (c:UInt8),m < n→s[m]? = some c→33≤c.toNat∧c.toNat≤126) (fun(n:Nat)=>s.size - n) (0) [] [] Zc9 (by simp) ?_
 rintro n ⟨hn,hc⟩
 conv=>whnf
 refine W.sq<|g 5 7 []<|J UD<|W.cn<|J (fun h1=>?_) fun h1=>?_
 replace h1:=dt h1
 refine W.skip<|W.sq<|W.blk ?_
 obtain⟨y1,hy1,hb1⟩:=bB (s:=s) (n:=n) OM
 by_cases h2:(↑(UInt8.toNat y1):Int) < (33:Int)
 refine g 7 19 [.i ((↑(UInt8.toNat y1):Int)),BT,BT,BT,BT,BT]<|J ⟨I,I,Zc5,I,I,tO,tO,tO,tO,tO,I⟩<|W.cn<|J (fun _=>(g 19 20 []<|J UA (RT ?_))) (noF rfl)
 rotate_left
 refine g 7 19 [.i ((↑(UInt8.toNat y1):Int)),BF,BF,BF,.i ((↑(UInt8.toNat y1):Int)),BF,BF]<|J ⟨I,I,Zc5,I,I,⟨dO,I⟩,⟨dO,I⟩,⟨dO,OM,ixb AS⟩,⟨dO,I⟩,dO,I⟩<|W.cn<|J (fun h3=>?_) fun h3=>?_
 replace h3:=dt h3
 refine g 19 20 []<|J UA<|RT ?_
 rotate_left
 replace h3:=df h3
 refine W.skip<|rg [.i ((n:Int) +1)]<|J Zdi ?_
 rotate_left
 replace h1:=df h1
 refine W.exit ?_
 by_cases h2:(1:Int)≤(↑(ByteArray.size s):Int)
 refine g 7 28 [BT,BT,BT,BT]<|J Zcg<|RT ?_
 rotate_left
 refine g 7 28 [BF,BF,BF,BF]<|J Zc8<|RT ?_
 rotate_left
 ·exact vbf (sE hy1 OM)
 ·exact vbf (sE hy1 OM)
 ·refine⟨n+1,[],[],Zc9,?_,?_⟩
  rotate_left
  (dsimp only;omega)
  dsimp only
  exact⟨by omega,Ai hc hy1 OM⟩
 ·exact vbd ⟨fun e=>⟨fun m c h=>hc m c (by have:=NX h;omega) h,by omega,by omega⟩,fun e=>by have:=e.2;omega⟩
 ·exact vbf (fun e=>by have:=e.2;omega)
end Go.K
end
section
open Go Go.Tm Go.Proofs Classical
namespace Go.K
def GO(xs:List Task)(n:Nat):Prop:=∀ (m:Nat) (t:Task),m < n→xs[m]? = some t→nj t.name∧t.name ∉ (xs.take m).map Task.name
def iL(xs:List Task):Prop:=GO xs xs.length
def j6(xs:List Task):Prop:=∀ t∈xs,1≤t.cost∧t.cost≤20
def JN(last hi:Int):List Int→Prop
 |[]=>True
 |d :: ds=>(last < d∧d < hi)∧JN d hi ds
def WD(hi:Int)(d:List Int):Prop:=d.length≤8∧JN (-1) hi d
def Mg(xs:List Task)(n:Nat):Prop:=∀ (m:Nat) (t:Task),m < n→xs[m]? = some t→WD m t.deps
def ye(xs:List Task):Prop:=Mg xs xs.length
noncomputable def aq(xs:List Task):Int :=
 if ¬(1≤xs.length∧xs.length≤40)then 1 else if ¬iL xs then 2 else if ¬j6 xs then 3 else if ¬ye xs then 4 else 0
theorem Vx{xs:List Task}(h:¬(1≤xs.length∧xs.length≤40)):aq xs = 1:=by unfold aq;rw[if_pos h]
theorem Vw{xs:List Task}(h:1≤xs.length∧xs.length≤40)(h2:¬iL xs):aq xs = 2:=by unfold aq;rw[if_neg (not_not_intro h),if_pos h2]
theorem Vv{xs:List Task}(h:1≤xs.length∧xs.length≤40)(h2:iL xs)(h3:¬j6 xs):aq xs = 3:=by unfold aq;rw[if_neg (not_not_intro h),if_neg (not_not_intro h2),if_pos h3]
theorem NU{xs:List Task}(h:1≤xs.length∧xs.length≤40)(h2:iL xs)(h3:j6 xs)(h4:¬ye xs):aq xs = 4:=by unfold aq;rw[if_neg (not_not_intro h),if_neg (not_not_intro h2),if_neg (not_not_intro h3),if_pos h4]
theorem YD{xs:List Task}(h:1≤xs.length∧xs.length≤40)(h2:iL xs)(h3:j6 xs)(h4:ye xs):aq xs = 0:=by unfold aq;rw[if_neg (not_not_intro h),if_neg (not_not_intro h2),if_neg (not_not_intro h3),if_neg (not_not_intro h4)]
theorem sH{xs:List Task}{n:Nat}{t:Task}(ht:xs[n]? = some t)(h:¬(nj t.name∧t.name ∉ (xs.take n).map Task.name)):¬iL xs:=fun e=>h (e n t (List.getElem?_eq_some_iff.1 ht).1 ht)
theorem zO{P:Nat→Task→Prop}{xs:List Task}{n:Nat}{t:Task}(h:∀ (m:Nat) (t:Task),m < n→xs[m]? = some t→P m t)(ht:xs[n]? = some t)(hp:P n t):∀ (m:Nat) (t:Task),m < n+1→xs[m]? = some t→P m t:=fun m d hm hd=>by
 by_cases e:m = n
 ·subst e;rw[ht]at hd;cases hd;exact hp
 ·exact h m d OM hd
theorem G7{P:Nat→Task→Prop}{xs:List Task}{n:Nat}(h:∀ (m:Nat) (t:Task),m < n→xs[m]? = some t→P m t)(hn:xs.length≤n):∀ (m:Nat) (t:Task),m < xs.length→xs[m]? = some t→P m t:=fun m t hm ht=>h m t OM ht
theorem sP{xs:List Task}{n:Nat}{t:Task}(ht:xs[n]? = some t)(h:¬(1≤t.cost∧t.cost≤20)):¬j6 xs:=fun e=>h (e t (List.mem_of_getElem? ht))
theorem nd{xs:List Task}{n:Nat}{t:Task}(ht:xs[n]? = some t)(h:¬WD n t.deps):¬ye xs:=fun e=>h (e n t (List.getElem?_eq_some_iff.1 ht).1 ht)
def np(hi:Int)(d:List Int)(k:Nat)(last:Int):Prop:=JN (-1) hi d↔JN last hi (d.drop k)
theorem NQ{α:Type}{d:List α}{k:Nat}{y:α}(h:d[k]? = some y):d.drop k = y :: d.drop (k+1):=by
 have hk:=(List.getElem?_eq_some_iff.1 h)
 rw[List.drop_eq_getElem_cons hk.1,hk.2]
theorem vt{hi:Int}{d:List Int}{k:Nat}{last y:Int}(h:np hi d k last)(hy:d[k]? = some y)(h1:last < y∧y < hi):np hi d (k+1) y:=by
 unfold np at *;rw[h,NQ hy,JN];exact⟨fun e=>e.2,fun e=>⟨h1,e⟩⟩
theorem tU{hi:Int}{d:List Int}{k:Nat}{last y:Int}(h:np hi d k last)(hy:d[k]? = some y)(h1:¬(last < y∧y < hi)):¬JN (-1) hi d:=by
 unfold np at *;rw[h,NQ hy,JN];exact fun e=>h1 e.1
theorem JM{hi:Int}{d:List Int}{k:Nat}{last:Int}(h:np hi d k last)(hk:d.length≤k):JN (-1) hi d:=by
 unfold np at *;rw[h,List.drop_eq_nil_of_le hk];trivial
theorem fI(p:Plan)(hp:dv p):F tM [.val (cR p)] (.i (aq p.tasks)) [[]]:=by
 have hl:p.tasks.length≤9223372036854775807:=hp.1
 have hw:∀ y∈p.tasks,y.name.size≤9223372036854775807∧y.deps.length≤9223372036854775807:=hp.2
 refine uv ?_
 conv=>whnf
 refine g 0 1 []<|J Zdt<|g 14 17 []<|J UD<|W.sq ?_
 by_cases h1:(↑(List.length (List.map ay (Plan.tasks p))):Int) = (0:Int)
 simp only[LM]at h1
 refine g 17 22 [BT,BT,BT]<|J ⟨I,I,I,SI,SI,SI,I⟩<|W.cn<|J (fun _=>(g 22 23 []<|J UA (RT ?_))) (noF rfl)
 rotate_left
 simp only[LM]at h1
 refine g 17 22 [BF,BF,BF]<|J ⟨I,I,I,⟨(by simp_all),I⟩,⟨(by simp_all),I⟩,(by simp_all),I⟩<|W.cn<|J (fun h2=>?_) fun h2=>?_
 replace h2:=dt h2
 simp only[LM]at h2
 refine g 22 23 []<|J UA<|RT ?_
 rotate_left
 replace h2:=df h2
 simp only[LM]at h2
 refine W.skip<|g 22 24 []<|J UB<|W.sq<|g 24 25 []<|J UD<|W.blk ?_
 rotate_left
 ·exact vi (Vx OM).symm
 ·exact vi (Vx OM).symm
 have hlen:1≤p.tasks.length∧p.tasks.length≤40:=by omega
 refine W.lp (fun s (n:Nat)=>⟨[(1,s.s 1),(3,s.s 3),(4,s.s 4),(25,s.s 25),(26,s.s 26),(27,.i n)],[(1,[s.c 1 0])],[(23,(p.tasks.take n).map fun t=>Value.string t.name)]⟩) (fun(n:Nat)=>n≤p.tasks.length∧GO p.tasks n) (fun(n:Nat)=>p.tasks.length - n) (0) [some 1] [23] ⟨rfl,⟨rfl,rfl,rfl,rfl,rfl,rfl,I⟩,⟨⟨rfl,⟨rfl,I⟩⟩,I⟩,⟨rfl,I⟩⟩ ?_ ?_
 ·exact⟨Nat.zero_le _,fun m t hm=>by omega⟩
 rintro n ⟨hn,hc⟩
 conv=>whnf
 refine g 0 0 []<|J UA<|W.sq<|W.cn<|J (fun h3=>?_) fun h3=>?_
 replace h3:=dt h3
 simp only[LM]at h3
 refine W.skip<|W.sq<|W.blk ?_
 obtain⟨y1,hy1⟩:=af (xs:=Plan.tasks p) (n:=n) OM
 have hm1:=hw y1 (List.mem_of_getElem? hy1)
 refine g 28 31 [.x (ay y1)]<|J Zck<|W.sq ?_
 by_cases h4:nj (Task.name y1)
 refine g 31 40 [.call (V.b (decide (nj y1.name))) [[]],BF,BF,BF,BF,.b (decide (y1.name∈List.map Task.name (List.take n p.tasks))),BF]<|J ⟨I,I,⟨UA,I,US,UA,sa _ OM⟩,I,I,⟨nO,I⟩,⟨nO,I⟩,⟨nO,I⟩,⟨nO,Q4,JH⟩,nO,I⟩<|W.cn<|J (fun h5=>?_) fun h5=>?_
 replace h5:=dt h5
 refine g 40 41 []<|J UA<|RT ?_
 rotate_left
 replace h5:=df h5
 refine W.skip<|rg []<|J ⟨I,I,I,JH,I⟩<|rg [.i ((n:Int) +1)]<|J Zdn ?_
 rotate_left
 refine g 31 40 [.call (V.b (decide (nj y1.name))) [[]],BT,BT,BT,BT,BT]<|J ⟨I,I,⟨UA,I,US,UA,sa _ OM⟩,I,I,ag OM,ag OM,ag OM,ag OM,ag OM,I⟩<|W.cn<|J (fun _=>(g 40 41 []<|J UA (RT ?_))) (noF rfl)
 rotate_left
 replace h3:=df h3
 simp only[LM]at h3
 refine W.exit<|W.sq<|g 4 46 []<|J UD<|W.blk ?_
 rotate_left
 ·exact vi (Vw hlen (sH hy1 (by grind))).symm
 ·refine⟨n+1,[some 1],[23],⟨rfl,Za0,Zdq,⟨(congrArg some (N9 AS)),I⟩⟩,?_,?_⟩
  rotate_left
  (dsimp only;omega)
  dsimp only
  exact⟨by omega,zO hc hy1 (by grind)⟩
 ·exact vi (Vw hlen (sH hy1 (by grind))).symm
 have hnames:iL p.tasks:=G7 hc OM
 refine W.lp (fun s (n:Nat)=>⟨[(1,s.s 1),(3,s.s 3),(46,s.s 46),(47,s.s 47),(48,.i n)],[(1,[s.c 1 0])],[]⟩) (fun(n:Nat)=>n≤p.tasks.length∧∀ t∈p.tasks.take n,1≤t.cost∧t.cost≤20) (fun(n:Nat)=>p.tasks.length - n) (0) [some 1] [] ⟨rfl,Zbg,Zdq,I⟩ (by simp) ?_
 rintro n2 ⟨hn2,hc2⟩
 conv=>whnf
 refine g 0 0 []<|J UA<|W.sq<|W.cn<|J (fun h4=>?_) fun h4=>?_
 replace h4:=dt h4
 simp only[LM]at h4
 refine W.skip<|W.sq<|W.blk ?_
 obtain⟨y1,hy1⟩:=af (xs:=Plan.tasks p) (n:=n2) OM
 have hm1:=hw y1 (List.mem_of_getElem? hy1)
 refine g 49 52 [.x (ay y1)]<|J Zck ?_
 by_cases h5:Task.cost y1 < (1:Int)
 refine g 52 59 [BT,BT,BT,BT]<|J ⟨I,I,I,I,tO,tO,tO,tO,I⟩<|W.cn<|J (fun _=>(g 8 9 []<|J UA (RT ?_))) (noF rfl)
 rotate_left
 refine g 52 59 [BF,BF,BF,BF]<|J ⟨I,I,I,I,⟨dO,I⟩,⟨dO,I⟩,⟨dO,I⟩,dO,I⟩<|W.cn<|J (fun h6=>?_) fun h6=>?_
 replace h6:=dt h6
 refine g 8 9 []<|J UA<|RT ?_
 rotate_left
 replace h6:=df h6
 refine W.skip<|rg [.i ((n2:Int) +1)]<|J Zdn ?_
 rotate_left
 replace h4:=df h4
 simp only[LM]at h4
 refine W.exit<|W.sq<|g 46 62 []<|J UD<|W.blk ?_
 rotate_left
 ·exact vi (Vv hlen hnames (sP AS OM)).symm
 ·exact vi (Vv hlen hnames (sP AS OM)).symm
 ·refine⟨n2+1,[some 1],[],⟨rfl,Zbg,Zdq,I⟩,?_,?_⟩
  rotate_left
  (dsimp only;omega)
  dsimp only
  exact⟨by omega,sT hc2 AS OM⟩
 have hcosts:j6 p.tasks:=sU hc2 OM
 refine W.lp (fun s (n:Nat)=>⟨[(3,s.s 3),(62,s.s 62),(63,s.s 63),(64,.i n)],[],[]⟩) (fun(n:Nat)=>n≤p.tasks.length∧Mg p.tasks n) (fun(n:Nat)=>p.tasks.length - n) (0) [] [] ⟨rfl,⟨rfl,rfl,rfl,rfl,I⟩,I,I⟩ ?_ ?_
 ·exact⟨Nat.zero_le _,fun m t hm=>by omega⟩
 rintro n3 ⟨hn3,hc3⟩
 conv=>whnf
 refine g 0 0 []<|J UA<|W.sq<|W.cn<|J (fun h5=>?_) fun h5=>?_
 replace h5:=dt h5
 simp only[LM]at h5
 refine W.skip<|W.sq<|W.blk ?_
 obtain⟨y1,hy1⟩:=af (xs:=Plan.tasks p) (n:=n3) OM
 have hm1:=hw y1 (List.mem_of_getElem? hy1)
 refine g 65 69 [.x (ay y1)]<|J Zbv<|W.sq<|g 69 72 []<|J UD<|W.cn<|J (fun h6=>?_) fun h6=>?_
 replace h6:=dt h6
 simp only[LM]at h6
 refine g 72 73 []<|J UA<|RT ?_
 rotate_left
 replace h6:=df h6
 simp only[LM]at h6
 refine W.skip<|g 72 73 []<|J UA<|g 10 11 []<|J UD<|W.blk ?_
 rotate_left
 replace h5:=df h5
 simp only[LM]at h5
 refine W.exit<|g 62 66 []<|J UA<|RT ?_
 rotate_left
 ·exact vi (NU hlen hnames hcosts (nd AS (fun e=>by have:=e.1;omega))).symm
 ·skip
  refine W.lp (fun s (x:Nat×Int)=>match x with|(k,last)=>⟨[(3,s.s 3),(9,s.s 9),(11,.i last),(62,s.s 62),(63,s.s 63),(64,s.s 64),(74,s.s 74),(75,s.s 75),(76,.i k)],[],[]⟩) (fun(x:Nat×Int)=>match x with|(k,last)=>k≤y1.deps.length∧np n3 y1.deps k last) (fun(x:Nat×Int)=>match x with|(k,last)=>y1.deps.length - k) ((0,-1)) [] [] ⟨rfl,⟨rfl,rfl,rfl,rfl,rfl,rfl,rfl,rfl,rfl,I⟩,I,I⟩ ?_ ?_
  ·exact⟨Nat.zero_le _,Iff.rfl⟩
  rintro⟨k,last⟩ ⟨hk,hi⟩
  conv=>whnf
  refine g 0 0 []<|J UA<|W.sq<|W.cn<|J (fun h7=>?_) fun h7=>?_
  replace h7:=dt h7
  simp only[LM]at h7
  refine W.skip<|W.sq<|W.blk ?_
  obtain⟨y2,hy2⟩:=af (xs:=Task.deps y1) (n:=k) OM
  refine g 77 80 [.x (dR y2)]<|J Zb6<|W.sq ?_
  by_cases h8:y2≤last
  refine g 80 87 [BT,BT,BT,BT]<|J ⟨I,I,I,I,tO,tO,tO,tO,I⟩<|W.cn<|J (fun _=>(g 87 88 []<|J UA (RT ?_))) (noF rfl)
  rotate_left
  refine g 80 87 [BF,BF,BF,BF]<|J ⟨I,I,I,I,⟨dO,I⟩,⟨dO,I⟩,⟨dO,I⟩,dO,I⟩<|W.cn<|J (fun h9=>?_) fun h9=>?_
  replace h9:=dt h9
  refine g 87 88 []<|J UA<|RT ?_
  rotate_left
  replace h9:=df h9
  refine W.skip<|rg []<|J UB<|rg [.i ((k:Int) +1)]<|J Zdn ?_
  rotate_left
  replace h7:=df h7
  simp only[LM]at h7
  refine W.exit<|rg [.i ((n3:Int) +1)]<|J Zdn ?_
  rotate_left
  ·exact vi (NU hlen hnames hcosts (nd hy1 (fun e=>tU hi AS OM e.2))).symm
  ·exact vi (NU hlen hnames hcosts (nd hy1 (fun e=>tU hi AS OM e.2))).symm
  ·refine⟨(k+1,y2),[],[],⟨rfl,⟨rfl,rfl,rfl,rfl,rfl,rfl,rfl,rfl,rfl,I⟩,I,I⟩,?_,?_⟩
   rotate_left
   (dsimp only;omega)
   dsimp only
   exact⟨by omega,vt hi AS OM⟩
  ·refine⟨n3+1,[],[],⟨rfl,Zay,I,I⟩,?_,?_⟩
   rotate_left
   (dsimp only;omega)
   dsimp only
   exact⟨by omega,zO hc3 hy1 ⟨by omega,JM hi OM⟩⟩
 exact vi (YD hlen hnames hcosts (G7 hc3 OM)).symm
end Go.K
end
section
open Go Go.Tm Go.Proofs Classical
namespace Go.K
theorem FW{xs:List Task}{n k:Nat}{a:Task}(h:xs[k]? = some a)(hk:k < n):a.name∈(xs.take n).map Task.name:=by
 refine List.mem_map.2 ⟨a,?_,rfl⟩
 refine List.mem_of_getElem? (i:=k) ?_
 rw[List.getElem?_take,if_pos hk];exact h
theorem On{xs:List Task}{n k:Nat}{s:ByteArray}{a:Task}(h:s ∉ (xs.take k).map Task.name)(ha:xs[k]? = some a)(hne:a.name≠s):s ∉ (xs.take (k+1)).map Task.name:=by
 rw[List.take_add_one,ha];simp only[List.map_append,List.mem_append,not_or]
 exact⟨h,by simpa using fun e=>hne e.symm⟩
theorem MP{d:List Int}{k:Nat}{l y:Int}(h:d[k - 1]? = some l)(hy:d[((k:Int) - 1).toNat]? = some y):y = l:=by
 have e:((k:Int) - 1).toNat = k - 1:=by omega
 rw[e,h]at hy;cases hy;rfl
theorem de(p:Plan)(hp:dv p):F tj [.val (cR p)] (.i (aq p.tasks)) [[]]:=by
 have hl:p.tasks.length≤9223372036854775807:=hp.1
 have hw:∀ y∈p.tasks,y.name.size≤9223372036854775807∧y.deps.length≤9223372036854775807:=hp.2
 refine tY ?_
 conv=>whnf
 refine g 0 1 []<|J Zdt<|g 10 13 []<|J UD<|W.sq ?_
 by_cases h1:(↑(List.length (List.map ay (Plan.tasks p))):Int) < (1:Int)
 simp only[LM]at h1
 refine g 14 16 [BT,BT,BT]<|J ⟨I,I,I,SI,SI,SI,I⟩<|W.cn<|J (fun _=>(g 17 19 []<|J UA (RT ?_))) (noF rfl)
 rotate_left
 simp only[LM]at h1
 refine g 14 16 [BF,BF,BF]<|J ⟨I,I,I,⟨SI,I⟩,⟨SI,I⟩,SI,I⟩<|W.cn<|J (fun h2=>?_) fun h2=>?_
 replace h2:=dt h2
 simp only[LM]at h2
 refine g 17 19 []<|J UA<|RT ?_
 rotate_left
 replace h2:=df h2
 simp only[LM]at h2
 refine W.skip<|W.sq<|g 17 19 []<|J UA<|W.blk ?_
 rotate_left
 ·exact vi (Vx OM).symm
 ·exact vi (Vx OM).symm
 have hlen:1≤p.tasks.length∧p.tasks.length≤40:=by omega
 refine W.lp (fun s (n:Nat)=>⟨[(1,s.s 1),(3,s.s 3),(4,.i n),(13,s.s 13),(16,s.s 16)],[(1,[s.c 1 0])],[]⟩) (fun(n:Nat)=>n≤p.tasks.length∧GO p.tasks n) (fun(n:Nat)=>p.tasks.length - n) (0) [some 1] [] ⟨rfl,⟨rfl,rfl,rfl,rfl,rfl,I⟩,⟨⟨rfl,⟨rfl,I⟩⟩,I⟩,I⟩ ?_ ?_
 ·exact⟨Nat.zero_le _,fun m t hm=>by omega⟩
 rintro n ⟨hn,hc⟩
 conv=>whnf
 refine W.sq<|g 19 21 []<|J UC<|W.cn<|J (fun h3=>?_) fun h3=>?_
 replace h3:=dt h3
 simp only[LM]at h3
 refine W.skip<|W.sq<|W.blk<|W.sq ?_
 obtain⟨y1,hy1⟩:=af (xs:=Plan.tasks p) (n:=n) OM
 have hm1:=hw y1 (List.mem_of_getElem? hy1)
 refine g 21 31 [.x (ay y1),.call (V.b (decide (nj y1.name))) [[]]]<|J ⟨I,I,I,Zdl,I,I,⟨UA,I,US,UA,xF _ OM⟩,I,I⟩<|W.cn<|J (fun h4=>?_) fun h4=>?_
 replace h4:=ndt h4
 refine g 31 32 []<|J UA<|RT ?_
 rotate_left
 replace h4:=ndf h4
 refine W.skip<|g 31 32 []<|J UA<|W.blk ?_
 rotate_left
 replace h3:=df h3
 simp only[LM]at h3
 refine W.exit<|W.sq<|g 4 5 []<|J UA<|W.blk ?_
 rotate_left
 ·exact vi (Vw hlen (sH hy1 (fun e=>absurd e.1 AS))).symm
 ·refine W.lp (fun s (k:Nat)=>⟨[(1,s.s 1),(3,s.s 3),(4,s.s 4),(5,.i k),(13,s.s 13),(16,s.s 16)],[(1,[s.c 1 0])],[]⟩) (fun(k:Nat)=>k≤n∧y1.name ∉ (p.tasks.take k).map Task.name) (fun(k:Nat)=>n - k) (0) [some 1] [] ⟨rfl,Za0,Zdq,I⟩ (by simp) ?_
  rintro k ⟨hk,hm⟩
  conv=>whnf
  refine W.sq<|g 32 34 []<|J UC<|W.cn<|J (fun h5=>?_) fun h5=>?_
  replace h5:=dt h5
  refine W.skip<|W.sq<|W.blk ?_
  obtain⟨y2,hy2⟩:=af (xs:=Plan.tasks p) (n:=k) OM
  have hm2:=hw y2 (List.mem_of_getElem? hy2)
  refine gd 34 49 [[],[],[],[.x (ay y2)],[],[],[],[],[],[.x (ay y1)],[],[],[]] ?_
  conv=>whnf
  refine J ⟨I,I,I,Zdl,I,I,I,I,I,Zdl,I,I,I,I⟩<|J KR<|W.cn<|J (fun h6=>?_) fun h6=>?_
  replace h6:=dt h6
  refine g 49 50 []<|J UA<|RT ?_
  rotate_left
  replace h6:=df h6
  refine W.skip<|rg [.i ((k:Int) +1)]<|J Zdi ?_
  rotate_left
  replace h5:=df h5
  refine W.exit<|rg [.i ((n:Int) +1)]<|J Zdi ?_
  rotate_left
  ·exact vi (Vw hlen (sH hy1 (fun e=>e.2 (by rw[←(show y2.name = y1.name by assumption)];exact FW hy2 OM)))).symm
  ·refine⟨k+1,[some 1],[],⟨rfl,Za0,Zdq,I⟩,?_,?_⟩
   rotate_left
   (dsimp only;omega)
   dsimp only
   exact⟨by omega,On (n:=n) hm hy2 AS⟩
  ·refine⟨n+1,[some 1],[],⟨rfl,Zbg,Zdq,I⟩,?_,?_⟩
   rotate_left
   (dsimp only;omega)
   dsimp only
   exact⟨by omega,zO hc hy1 ⟨by assumption,by rwa [show k = n by omega]at hm⟩⟩
 have hnames:iL p.tasks:=G7 hc OM
 refine W.lp (fun s (n:Nat)=>⟨[(1,s.s 1),(3,s.s 3),(6,.i n),(13,s.s 13),(16,s.s 16)],[(1,[s.c 1 0])],[]⟩) (fun(n:Nat)=>n≤p.tasks.length∧∀ t∈p.tasks.take n,1≤t.cost∧t.cost≤20) (fun(n:Nat)=>p.tasks.length - n) (0) [some 1] [] ⟨rfl,Zbg,Zdq,I⟩ (by simp) ?_
 rintro n2 ⟨hn2,hc2⟩
 conv=>whnf
 refine W.sq<|g 50 52 []<|J UC<|W.cn<|J (fun h4=>?_) fun h4=>?_
 replace h4:=dt h4
 simp only[LM]at h4
 refine W.skip<|W.sq<|W.blk ?_
 obtain⟨y1,hy1⟩:=af (xs:=Plan.tasks p) (n:=n2) OM
 have hm1:=hw y1 (List.mem_of_getElem? hy1)
 by_cases h5:Task.cost y1 < (1:Int)
 refine g 52 70 [.x (ay y1),BT,BT,BT,BT,BT,BT,BT,BT]<|J ⟨I,I,I,Zdl,I,I,I,I,tO,tO,tO,tO,tO,tO,tO,tO,I⟩<|W.cn<|J (fun _=>(g 70 71 []<|J UA (RT ?_))) (noF rfl)
 rotate_left
 refine g 52 70 [.x (ay y1),BF,BF,BF,BF,.x (ay y1),BF,BF,BF,BF]<|J ⟨I,I,I,Zdl,I,I,I,I,⟨dO,I⟩,⟨dO,I⟩,⟨dO,I⟩,⟨dO,OM,xA⟩,⟨dO,I⟩,⟨dO,I⟩,⟨dO,I⟩,dO,I⟩<|W.cn<|J (fun h6=>?_) fun h6=>?_
 replace h6:=dt h6
 refine g 70 71 []<|J UA<|RT ?_
 rotate_left
 replace h6:=df h6
 refine W.skip<|rg [.i ((n2:Int) +1)]<|J Zdi ?_
 rotate_left
 replace h4:=df h4
 simp only[LM]at h4
 refine W.exit<|W.sq<|g 6 7 []<|J UA<|W.blk ?_
 rotate_left
 ·exact vi (Vv hlen hnames (sP AS OM)).symm
 ·exact vi (Vv hlen hnames (sP AS OM)).symm
 ·refine⟨n2+1,[some 1],[],⟨rfl,Zbg,Zdq,I⟩,?_,?_⟩
  rotate_left
  (dsimp only;omega)
  dsimp only
  exact⟨by omega,sT hc2 AS OM⟩
 have hcosts:j6 p.tasks:=sU hc2 OM
 refine W.lp (fun s (n:Nat)=>⟨[(1,s.s 1),(3,s.s 3),(7,.i n),(13,s.s 13),(16,s.s 16)],[(1,[s.c 1 0])],[]⟩) (fun(n:Nat)=>n≤p.tasks.length∧Mg p.tasks n) (fun(n:Nat)=>p.tasks.length - n) (0) [some 1] [] ⟨rfl,⟨rfl,rfl,rfl,rfl,rfl,I⟩,⟨⟨rfl,⟨rfl,I⟩⟩,I⟩,I⟩ ?_ ?_
 ·exact⟨Nat.zero_le _,fun m t hm=>by omega⟩
 rintro n3 ⟨hn3,hc3⟩
 conv=>whnf
 refine W.sq<|g 71 73 []<|J UC<|W.cn<|J (fun h5=>?_) fun h5=>?_
 replace h5:=dt h5
 simp only[LM]at h5
 refine W.skip<|W.sq<|W.blk ?_
 obtain⟨y1,hy1⟩:=af (xs:=Plan.tasks p) (n:=n3) OM
 have hm1:=hw y1 (List.mem_of_getElem? hy1)
 refine g 73 82 [.x (ay y1)]<|J ⟨I,I,I,Zdl,I,I,I,I⟩<|W.sq<|g 82 84 []<|J UC<|W.cn<|J (fun h6=>?_) fun h6=>?_
 replace h6:=dt h6
 simp only[LM]at h6
 refine g 84 85 []<|J UA<|RT ?_
 rotate_left
 replace h6:=df h6
 simp only[LM]at h6
 refine W.skip<|g 84 85 []<|J UA<|W.blk ?_
 rotate_left
 replace h5:=df h5
 simp only[LM]at h5
 refine W.exit<|g 7 74 []<|J UA<|RT ?_
 rotate_left
 ·exact vi (NU hlen hnames hcosts (nd AS (fun e=>by have:=e.1;omega))).symm
 ·refine W.lp (fun s (x:Nat×Int)=>match x with|(k,last)=>⟨[(1,s.s 1),(3,s.s 3),(7,s.s 7),(8,s.s 8),(9,.i k),(13,s.s 13),(16,s.s 16)],[(1,[s.c 1 0])],[]⟩) (fun(x:Nat×Int)=>match x with|(k,last)=>k≤y1.deps.length∧np n3 y1.deps k last∧ -1≤last∧(k = 0→last = -1)∧(0 < k→y1.deps[k - 1]? = some last)) (fun(x:Nat×Int)=>match x with|(k,last)=>y1.deps.length - k) ((0,-1)) [some 1] [] ⟨rfl,⟨rfl,rfl,rfl,rfl,rfl,rfl,rfl,I⟩,⟨⟨rfl,⟨rfl,I⟩⟩,I⟩,I⟩ ?_ ?_
  ·exact⟨Nat.zero_le _,Iff.rfl,by omega,fun _=>rfl,fun h=>by omega⟩
  rintro⟨k,last⟩ ⟨hk,hi,hlo,hz,hs⟩
  conv=>whnf
  refine W.sq<|g 85 88 []<|J UD<|W.cn<|J (fun h7=>?_) fun h7=>?_
  replace h7:=dt h7
  simp only[LM]at h7
  refine W.skip<|W.sq<|W.blk ?_
  obtain⟨y2,hy2⟩:=af (xs:=Task.deps y1) (n:=k) OM
  by_cases h8:y2 < (0:Int)
  refine gd 88 119 [[],[],[.x (dR y2)],[],[],[],[BT],[BT],[BT],[BT],[BT],[BT],[BT],[],[BT],[BT],[BT],[BF],[BF],[BF],[BF],[BF],[BF],[BF],[BF],[BF],[BF],[BT],[BT]] ?_
  conv=>whnf
  refine J ⟨I,I,Zdl,I,I,I,tO,tO,tO,tO,tO,tO,tO,I,rfl,rfl,rfl,I,I,I,I,I,I,I,I,I,I,rfl,rfl,I⟩<|J KR<|W.cn<|J (fun _=>(g 119 120 []<|J UA (RT ?_))) (noF rfl)
  rotate_left
  by_cases h9:(↑n3:Int)≤y2
  refine gd 88 119 [[],[],[.x (dR y2)],[],[],[],[BF],[BF],[BF,.x (dR y2)],[BF],[BF],[BF],[BF],[],[BT],[BT],[BT],[BF],[BF],[BF],[BF],[BF],[BF],[BF],[BF],[BF],[BF],[BT],[BT]] ?_
  conv=>whnf
  refine J ⟨I,I,Zdl,I,I,I,⟨dO,I⟩,⟨dO,I⟩,⟨dO,OM,xA⟩,⟨dO,I⟩,⟨dO,I⟩,⟨dO,I⟩,dO,I,tO,tO,tO,I,I,I,I,I,I,I,I,I,I,tO,tO,I⟩<|J KR<|W.cn<|J (fun _=>(g 119 120 []<|J UA (RT ?_))) (noF rfl)
  rotate_left
  by_cases h10:(0:Int) < (↑k:Int)
  obtain⟨y3,hy3⟩:=af (xs:=Task.deps y1) (n:=Int.toNat ((↑k:Int) - (1:Int))) OM
  refine gd 88 119 [[],[],[.x (dR y2)],[],[],[],[BF],[BF],[BF,.x (dR y2)],[BF],[BF],[BF],[BF],[],[BF],[BF],[BF],[BT],[BT],[BT,.i ((k:Int) - 1)],[BT,.x (dR y3)],[BT],[BT],[BT],[BT,.x (dR y2)],[BT],[BT],[BF,BT],[BF]] ?_
  conv=>whnf
  refine J ⟨I,I,Zdl,I,I,I,⟨dO,I⟩,⟨dO,I⟩,⟨dO,OM,xA⟩,⟨dO,I⟩,⟨dO,I⟩,⟨dO,I⟩,dO,I,⟨dO,I⟩,⟨dO,I⟩,⟨dO,I⟩,⟨tO,I⟩,⟨tO,I⟩,⟨tO,wO⟩,⟨tO,OM,xA⟩,⟨tO,I⟩,⟨tO,I⟩,⟨tO,I⟩,⟨tO,OM,xA⟩,⟨tO,I⟩,⟨tO,I⟩,⟨dO,tO⟩,dO,I⟩<|J KR<|W.cn<|J (fun h11=>?_) fun h11=>?_
  replace h11:=dt h11
  refine g 119 120 []<|J UA<|RT ?_
  rotate_left
  replace h11:=df h11
  refine W.skip<|rg [.i ((k:Int) +1)]<|J Zdi ?_
  rotate_left
  refine gd 88 119 [[],[],[.x (dR y2)],[],[],[],[BF],[BF],[BF,.x (dR y2)],[BF],[BF],[BF],[BF],[],[BF],[BF],[BF],[BF],[BF],[BF],[BF],[BF],[BF],[BF],[BF],[BF],[BF],[BF,BF],[BF]] ?_
  conv=>whnf
  refine J ⟨I,I,Zdl,I,I,I,⟨dO,I⟩,⟨dO,I⟩,⟨dO,OM,xA⟩,⟨dO,I⟩,⟨dO,I⟩,⟨dO,I⟩,dO,I,⟨dO,I⟩,⟨dO,I⟩,⟨dO,I⟩,dO,dO,dO,dO,dO,dO,dO,dO,dO,dO,⟨dO,dO⟩,dO,I⟩<|J KR<|W.cn<|J (noT rfl) fun _=>W.skip<|rg [.i ((k:Int) +1)]<|J Zdi ?_
  rotate_left
  replace h7:=df h7
  simp only[LM]at h7
  refine W.exit<|rg [.i ((n3:Int) +1)]<|J Zdi ?_
  rotate_left
  ·exact vi (NU hlen hnames hcosts (nd hy1 (fun e=>tU hi hy2 OM e.2))).symm
  ·exact vi (NU hlen hnames hcosts (nd hy1 (fun e=>tU hi hy2 OM e.2))).symm
  ·have hl3:=MP (hs OM) hy3
   exact vi (NU hlen hnames hcosts (nd hy1 (fun e=>tU hi hy2 OM e.2))).symm
  ·have hl3:=MP (hs OM) hy3
   refine⟨(k+1,y2),[some 1],[],⟨rfl,Zbb,Zdq,I⟩,?_,?_⟩
   rotate_left
   (dsimp only;omega)
   dsimp only
   exact⟨by omega,vt hi hy2 OM,by omega,fun e=>by omega,fun _=>hy2⟩
  ·have hl3:=hz OM
   refine⟨(k+1,y2),[some 1],[],⟨rfl,Zbb,Zdq,I⟩,?_,?_⟩
   rotate_left
   (dsimp only;omega)
   dsimp only
   exact⟨by omega,vt hi hy2 OM,by omega,fun e=>by omega,fun _=>hy2⟩
  ·refine⟨n3+1,[some 1],[],⟨rfl,Zbg,Zdq,I⟩,?_,?_⟩
   rotate_left
   (dsimp only;omega)
   dsimp only
   exact⟨by omega,zO hc3 hy1 ⟨by omega,JM hi OM⟩⟩
 exact vi (YD hlen hnames hcosts (G7 hc3 OM)).symm
end Go.K
end
section
open Go Go.Tm Go.Proofs
namespace Go.K
theorem Ux{n:Nat}{x:List T}(h:wfT E (n+3) Fs x):∃ v:Task,x = ay v∧x8 v:=by
 obtain⟨y0,z0,e0,⟨name,rfl,hname⟩,y1,z1,e1,⟨cost,rfl,_,_⟩,y2,z2,e2,⟨ldeps,rfl,hdeps,gdeps⟩,e3⟩:=h
 subst e3
 subst e2
 subst e1
 obtain⟨deps,rfl,_⟩:=mj (f:=dR) (p:=fun _=>True) (xs:=ldeps) fun y hy=>by obtain⟨m,hm,_⟩:=gdeps y hy;exact⟨m,hm,trivial⟩
 subst e0
 exact⟨⟨name,cost,deps⟩,rfl,⟨hname,by rw[List.length_map]at hdeps;exact hdeps⟩⟩
theorem Uz{n:Nat}{x:List T}(h:wfT E (n+5) Fu x):∃ v:Plan,x = X4 v∧dv v:=by
 obtain⟨y0,z0,e0,⟨ltasks,rfl,htasks,gtasks⟩,e1⟩:=h
 subst e1
 obtain⟨tasks,rfl,wtasks⟩:=mj (f:=ay) (p:=x8) (xs:=ltasks) fun y hy=>Ux (gtasks y hy)
 subst e0
 exact⟨⟨tasks⟩,rfl,⟨by rw[List.length_map]at htasks;exact htasks,wtasks⟩⟩
theorem N1{n:Nat}{x:List T}(h:wfT E (n+3) yn x):∃ v:Worker,x = ar v∧lY v:=by
 obtain⟨y0,z0,e0,⟨number,rfl,_,_⟩,y1,z1,e1,⟨epoch,rfl,_,_⟩,y2,z2,e2,⟨up,rfl⟩,y3,z3,e3,⟨state,rfl,_,_⟩,y4,z4,e4,⟨lease,rfl,_,_⟩,y5,z5,e5,⟨task,rfl,_,_⟩,y6,z6,e6,⟨cost,rfl,_,_⟩,y7,z7,e7,⟨left,rfl,_,_⟩,y8,z8,e8,⟨linputs,rfl,hinputs,ginputs⟩,y9,z9,e9,⟨text,rfl,htext⟩,y10,z10,e10,⟨since,rfl,_,_⟩,e11⟩:=h
 subst e11
 subst e10
 subst e9
 subst e8
 subst e7
 subst e6
 subst e5
 subst e4
 subst e3
 subst e2
 subst e1
 obtain⟨inputs,rfl,winputs⟩:=zL ginputs
 subst e0
 exact⟨⟨number,epoch,up,state,lease,task,cost,left,inputs,text,since⟩,rfl,⟨by rw[List.length_map]at hinputs;exact hinputs,winputs,htext⟩⟩
end Go.K
end
section
open Go Go.Tm Go.Proofs
namespace Go.K
def dP(all:List ByteArray)(ds:List Int):List ByteArray:=ds.map fun d=>(all[d.toNat]?).getD emp
theorem vI(nm:ByteArray)(xs:List ByteArray):(cI nm xs).size = 8:=by unfold cI;rw[gD,pC]
def cX(rs:List ByteArray)(ds:List Int):Prop:=∀ d∈ds,¬(rs[d.toNat]?).getD emp = emp
noncomputable instance (rs:List ByteArray) (ds:List Int):Decidable (cX rs ds):=Classical.propDecidable _
structure Tale where
 epoch:Int
 results:List ByteArray
open Classical in
noncomputable def dM(ts:List Task)(st:Tale)(s:ByteArray):Option Tale :=
 match ey s with
 |none=>none
 |some e =>
  if e.kind = 1 then(if e.epoch = st.epoch+1 then some ⟨e.epoch,st.results⟩else none)
  else if e.epoch = st.epoch∧e.task < ts.length∧(st.results[e.task.toNat]?).getD emp = emp∧cX st.results ((ts[e.task.toNat]?).map Task.deps|>.getD [])then some ⟨st.epoch,st.results.set e.task.toNat e.text⟩else none
noncomputable def ke(ts:List Task)(st:Option Tale)(l:List ByteArray):Option Tale:=l.foldl (fun a s=>a.bind fun t=>dM ts t s) st
noncomputable def lC(ts:List Task):Tale:=⟨0,List.replicate ts.length emp⟩
theorem n0(ts:List Task)(l:List ByteArray)(st:Option Tale)(m:List ByteArray):ke ts st (l++m) = ke ts (ke ts st l) m:=by unfold ke;rw[List.foldl_append]
theorem iy(ts:List Task):∀ (l:List ByteArray),ke ts none l = none
 |[]=>rfl
 |s :: l=>iy ts l
theorem ka(ts:List Task)(st:Option Tale):ke ts st [] = st:=rfl
theorem oC(ts:List Task)(t:Tale)(s:ByteArray)(l:List ByteArray):ke ts (some t) (s :: l) = ke ts (dM ts t s) l:=rfl
theorem Ez{ts:List Task}{xs:List ByteArray}{n:Nat}{s:ByteArray}{st:Option Tale}{t:Tale}(h:ke ts st (xs.take n) = some t)(hs:xs[n]? = some s):ke ts st (xs.take (n+1)) = dM ts t s:=by
 rw[List.take_add_one,hs,n0,h];rfl
theorem QM{ts:List Task}{xs:List ByteArray}{n:Nat}{s:ByteArray}{st:Option Tale}{t:Tale}(h:ke ts st (xs.take n) = some t)(hs:xs[n]? = some s)(hb:dM ts t s = none):ke ts st xs = none:=by
 have h2:=Ez h hs
 rw[hb]at h2
 rw[←List.take_append_drop (n+1) xs,n0,h2,iy]
theorem QN{ts:List Task}{xs:List ByteArray}{n:Nat}{st:Option Tale}{t:Tale}(h:ke ts st (xs.take n) = some t)(hn:xs.length≤n):ke ts st xs = some t:=by
 rw[List.take_of_length_le hn]at h;exact h
theorem N8{ts:List Task}{t t':Tale}{s:ByteArray}(h:dM ts t s = some t'):t'.results.length = t.results.length:=by
 unfold dM at h
 split at h
 ·cases h
 ·split at h
  ·split at h
   ·cases h;rfl
   ·cases h
  ·split at h
   ·cases h;simp
   ·cases h
theorem sA(ts:List Task):∀ (l:List ByteArray) (t t':Tale),ke ts (some t) l = some t'→t'.results.length = t.results.length
 |[],t,t',h=>by rw[ka]at h;cases h;rfl
 |s :: l,t,t',h=>by
  rw[oC]at h
  cases hs:dM ts t s with
  |none=>rw[hs,iy]at h;cases h
  |some u=>rw[hs]at h;rw[sA ts l u t' h,N8 hs]
end Go.K
end
section
open Go Go.Tm Go.Proofs
namespace Go.K
abbrev Yq(ds:List Int):T:=.slc [false] (ds.map dR)
theorem Aj{all:List ByteArray}{ds:List Int}{n:Nat}{d:Int}{y:ByteArray}(h:ds[n]? = some d)(hy:all[d.toNat]? = some y):dP all (ds.take (n+1)) = dP all (ds.take n) ++ [y]:=by
 unfold dP;rw[List.take_add_one,h];simp[hy]
theorem EF{all:List ByteArray}{ds:List Int}{n:Nat}{d:Int}{y:ByteArray}(h:ds[n]? = some d)(hy:all[d.toNat]? = some y):(dP all (ds.take n)).map aj++ [aj y] = (dP all (ds.take (n+1))).map aj:=by
 rw[Aj h hy,List.map_append];rfl
theorem wg(all:List ByteArray)(ds:List Int)(hd:∀ d∈ds,0≤d∧d < all.length)(hl:ds.length≤1048576):F H5 [.val (.t (qq all)),.val (.t (Yq ds))] (.own [false] ((dP all ds).map aj)) [[],[]]:=by
 refine Im ?_
 conv=>whnf
 refine g 0 0 []<|J UA<|g 0 0 []<|J UA<|W.sq<|g 1 2 []<|J UC<|W.blk<|W.lp (fun s (n:Nat)=>⟨[(0,s.s 0),(4,s.s 4),(5,.ref ⟨5,none,0⟩),(8,s.s 8),(9,s.s 9),(10,.i n)],[(5,[.own [false] ((dP all (ds.take n)).map aj)])],[]⟩) (fun(n:Nat)=>n≤ds.length) (fun(n:Nat)=>ds.length - n) (0) [none] [] ⟨rfl,⟨rfl,rfl,⟨rfl,rfl,rfl⟩,rfl,rfl,rfl,I⟩,UA,I⟩ OM ?_
 intro n hn
 have hx:(dP all (ds.take n)).length = n:=by unfold dP;rw[List.length_map,List.length_take];omega
 conv=>whnf
 refine g 0 0 []<|J UA<|W.sq<|W.cn<|J (fun h1=>?_) fun h1=>?_
 replace h1:=dt h1
 simp only[LM]at h1
 refine W.skip<|W.sq<|W.blk ?_
 obtain⟨y1,hy1⟩:=af (xs:=ds) (n:=n) OM
 have hm1:=hd y1 (List.mem_of_getElem? hy1)
 refine g 11 14 [.x (dR y1)]<|J Zb6 ?_
 obtain⟨y2,hy2⟩:=af (xs:=all) (n:=Int.toNat y1) OM
 refine rg [.x (aj y2)]<|J ⟨I,I,I,Zdl,I,US,Zdm,I,I⟩<|rg [.i ((n:Int) +1)]<|J Zdn ?_
 rotate_left
 replace h1:=df h1
 simp only[LM]at h1
 refine W.exit<|g 5 12 []<|J UB<|RT ?_
 rotate_left
 ·refine⟨n+1,[some 20],[],⟨rfl,Za0,⟨⟨rfl,⟨(congrArg (V.own _) (EF AS AS)),I⟩⟩,I⟩,I⟩,?_,?_⟩
  rotate_left
  (dsimp only;omega)
  dsimp only
  omega
 ·rw[List.take_of_length_le OM]
theorem Jn{rs:List ByteArray}{ds:List Int}{n:Nat}{d:Int}{y:ByteArray}(h:ds[n]? = some d)(hy:rs[d.toNat]? = some y)(e:y = emp):¬cX rs ds:=fun hr=>hr d (List.mem_of_getElem? h) (by rw[hy];exact e)
theorem Ae{rs:List ByteArray}{ds:List Int}{n:Nat}{d:Int}{y:ByteArray}(hc:cX rs (ds.take n))(h:ds[n]? = some d)(hy:rs[d.toNat]? = some y)(e:¬y = emp):cX rs (ds.take (n+1)):=by
 intro x hx
 rw[List.take_add_one,h]at hx
 rcases List.mem_append.1 hx with hx|hx
 ·exact hc x hx
 ·rw[Option.toList,List.mem_singleton]at hx;subst hx;rw[hy];exact e
theorem jg(all:List ByteArray)(ds:List Int)(hd:∀ d∈ds,0≤d∧d < all.length)(hl:ds.length≤1048576):F FQ [.val (.t (qq all)),.val (.t (Yq ds))] (.b (decide (cX all ds))) [[],[]]:=by
 refine Gg ?_
 conv=>whnf
 refine g 0 0 []<|J UA<|W.sq<|g 1 2 []<|J UC<|W.blk ?_
 refine W.lp (fun s (n:Nat)=>⟨[(0,s.s 0),(7,s.s 7),(8,s.s 8),(9,.i n)],[],[]⟩) (fun(n:Nat)=>n≤ds.length∧cX all (ds.take n)) (fun(n:Nat)=>ds.length - n) (0) [] [] ⟨rfl,⟨rfl,rfl,rfl,rfl,I⟩,I,I⟩ ?_ ?_
 ·exact⟨Nat.zero_le _,by unfold cX;simp⟩
 rintro n ⟨hn,hc⟩
 conv=>whnf
 refine g 0 0 []<|J UA<|W.sq<|W.cn<|J (fun h1=>?_) fun h1=>?_
 replace h1:=dt h1
 simp only[LM]at h1
 refine W.skip<|W.sq<|W.blk ?_
 obtain⟨y1,hy1⟩:=af (xs:=ds) (n:=n) OM
 have hm1:=hd y1 (List.mem_of_getElem? hy1)
 refine g 10 13 [.x (dR y1)]<|J Zb6 ?_
 obtain⟨y2,hy2⟩:=af (xs:=all) (n:=Int.toNat y1) OM
 refine g 13 17 [.x (aj y2)]<|J ⟨I,I,Zdl,I,I,I⟩<|W.cn<|J (fun h2=>?_) fun h2=>?_
 replace h2:=dt h2
 refine g 6 7 []<|J UA<|RT ?_
 rotate_left
 replace h2:=df h2
 refine W.skip<|rg [.i ((n:Int) +1)]<|J Zdn ?_
 rotate_left
 replace h1:=df h1
 simp only[LM]at h1
 refine W.exit<|g 7 11 []<|J UA<|RT ?_
 rotate_left
 ·exact vbf (Jn AS AS AS)
 ·refine⟨n+1,[],[],⟨rfl,Zay,I,I⟩,?_,?_⟩
  rotate_left
  (dsimp only;omega)
  dsimp only
  exact⟨by omega,Ae hc AS AS AS⟩
 ·exact vbt (by rw[List.take_of_length_le OM]at hc;exact hc)
end Go.K
end
section
open Go Go.Tm Go.Proofs
namespace Go.K
theorem AA{hi:Int}:∀ {last:Int} {ds:List Int},JN last hi ds→∀ d∈ds,last < d∧d < hi
 |_,[],_,d,h=>by cases h
 |last,x :: ds,h,d,hd=>by
  rw[JN]at h
  rcases List.mem_cons.1 hd with e|hd
  ·subst e;exact h.1
  ·have:=AA h.2 d hd;omega
theorem bU{ts:List Task}(h:aq ts = 0):(1≤ts.length∧ts.length≤40)∧iL ts∧j6 ts∧ye ts:=by
 by_cases h1:1≤ts.length∧ts.length≤40
 ·by_cases h2:iL ts
  ·by_cases h3:j6 ts
   ·by_cases h4:ye ts
    ·exact⟨h1,h2,h3,h4⟩
    ·rw[NU h1 h2 h3 h4]at h;cases h
   ·rw[Vv h1 h2 h3]at h;cases h
  ·rw[Vw h1 h2]at h;cases h
 ·rw[Vx h1]at h;cases h
theorem b9{ts:List Task}(h:aq ts = 0){n:Nat}{t:Task}(ht:ts[n]? = some t):(1≤t.name.size∧t.name.size≤30)∧(1≤t.cost∧t.cost≤20)∧t.deps.length≤8∧∀ d∈t.deps,0≤d∧d < n:=by
 obtain⟨h1,h2,h3,h4⟩:=bU h
 have hn:=(List.getElem?_eq_some_iff.1 ht).1
 refine⟨(h2 n t hn ht).1.2,h3 t (List.mem_of_getElem? ht),(h4 n t hn ht).1,fun d hd=>?_⟩
 have:=AA (h4 n t hn ht).2 d hd
 omega
theorem lN(all:List ByteArray)(ds:List Int):(dP all ds).length = ds.length:=by unfold dP;rw[List.length_map]
theorem Bd:∀ {xs:List ByteArray},(∀ s∈xs,s.size≤8)→bQ xs≤8 * xs.length
 |[],_=>by simp[bQ]
 |s :: xs,h=>by
  have:=Bd (xs:=xs) fun y hy=>h y (List.mem_cons_of_mem _ hy)
  have:=h s (List.mem_cons_self ..)
  simp only[bQ,List.length_cons];omega
end Go.K
end
section
open Go Go.Tm Go.Proofs
namespace Go.K
structure Story where
 code:Int
 epoch:Int
 results:List ByteArray
 deriving DecidableEq
abbrev gw(x:Story):V:=.agg [.t (.i x.code),.t (.i x.epoch),.own [false] (x.results.map aj)]
noncomputable def cK(ts:List Task)(xs:List ByteArray)(n:Nat):Tale:=(ke ts (some (lC ts)) (xs.take n)).getD (lC ts)
def l9(ts:List Task)(xs:List ByteArray)(n:Nat):Prop:=ke ts (some (lC ts)) (xs.take n) = some (cK ts xs n)
theorem km(ts:List Task)(xs:List ByteArray):cK ts xs 0 = lC ts:=by unfold cK;rw[List.take_zero,ka];rfl
theorem vM(ts:List Task)(xs:List ByteArray):l9 ts xs 0:=by unfold l9;rw[km,List.take_zero,ka]
theorem ox{ts:List Task}{xs:List ByteArray}{n:Nat}{s:ByteArray}{t:Tale}(h:l9 ts xs n)(hs:xs[n]? = some s)(hst:dM ts (cK ts xs n) s = some t):l9 ts xs (n+1)∧cK ts xs (n+1) = t:=by
 have e:=Ez h hs
 rw[hst]at e
 have e2:cK ts xs (n+1) = t:=by unfold cK;rw[e];rfl
 exact⟨by unfold l9;rw[e,e2],e2⟩
theorem I8{ts:List Task}{xs:List ByteArray}{n:Nat}(h:l9 ts xs n):(cK ts xs n).results.length = ts.length:=by
 rw[sA ts _ _ _ h,lC,List.length_replicate]
noncomputable def aw(p:Plan)(xs:List ByteArray):Story :=
 if aq p.tasks = 0∧xs.length≤310 then
  match ke p.tasks (some (lC p.tasks)) xs with
  |none=>⟨2,0,[]⟩
  |some t=>⟨0,t.epoch,t.results⟩
 else⟨1,0,[]⟩
theorem mH{p:Plan}{xs:List ByteArray}(h:¬(aq p.tasks = 0∧xs.length≤310)):aw p xs = ⟨1,0,[]⟩:=if_neg h
theorem ed{p:Plan}{xs:List ByteArray}{n:Nat}{s:ByteArray}(h:aq p.tasks = 0)(hl:xs.length≤310)(hc:l9 p.tasks xs n)(hs:xs[n]? = some s)(hst:dM p.tasks (cK p.tasks xs n) s = none):aw p xs = ⟨2,0,[]⟩:=by
 rw[aw,if_pos ⟨h,hl⟩,QM hc hs hst]
theorem Ac{p:Plan}{xs:List ByteArray}{n:Nat}(h:aq p.tasks = 0)(hl:xs.length≤310)(hc:l9 p.tasks xs n)(hn:xs.length≤n):aw p xs = ⟨0,(cK p.tasks xs n).epoch,(cK p.tasks xs n).results⟩:=by
 rw[aw,if_pos ⟨h,hl⟩,QN hc hn]
theorem Ex{ts:List Task}{t:Tale}{s:ByteArray}(h:ey s = none):dM ts t s = none:=by unfold dM;rw[h]
theorem GH{ts:List Task}{t:Tale}{s:ByteArray}{e:Entry}(h:ey s = some e)(hk:e.kind = 1)(he:e.epoch = t.epoch+1):dM ts t s = some ⟨e.epoch,t.results⟩:=by
 unfold dM;rw[h];simp only[if_pos hk,if_pos he]
theorem zU{ts:List Task}{t:Tale}{s:ByteArray}{e:Entry}(h:ey s = some e)(hk:e.kind = 1)(he:¬e.epoch = t.epoch+1):dM ts t s = none:=by
 unfold dM;rw[h];simp only[if_pos hk,if_neg he]
theorem Bi{ts:List Task}{t:Tale}{s:ByteArray}{e:Entry}{k:Task}{y:ByteArray}(h:ey s = some e)(hk:¬e.kind = 1)(he:e.epoch = t.epoch)(ht:e.task < ts.length)(hy:t.results[e.task.toNat]? = some y)(hy2:y = emp)(hkk:ts[e.task.toNat]? = some k)(hr:cX t.results k.deps):dM ts t s = some ⟨t.epoch,t.results.set e.task.toNat e.text⟩:=by
 unfold dM;rw[h];simp only[if_neg hk]
 rw[if_pos ⟨he,ht,by rw[hy];exact hy2,by rw[hkk];exact hr⟩]
theorem sw{ts:List Task}{t:Tale}{s:ByteArray}{e:Entry}(h:ey s = some e)(hk:¬e.kind = 1)(hn:¬(e.epoch = t.epoch∧e.task < ts.length)):dM ts t s = none:=by
 unfold dM;rw[h];simp only[if_neg hk]
 rw[if_neg fun q=>hn ⟨q.1,q.2.1⟩]
theorem Jd{ts:List Task}{t:Tale}{s:ByteArray}{e:Entry}{y:ByteArray}(h:ey s = some e)(hk:¬e.kind = 1)(hy:t.results[e.task.toNat]? = some y)(hn:¬y = emp):dM ts t s = none:=by
 unfold dM;rw[h];simp only[if_neg hk]
 rw[if_neg fun q=>hn (by have:=q.2.2.1;rw[hy]at this;exact this)]
theorem Jc{ts:List Task}{t:Tale}{s:ByteArray}{e:Entry}{k:Task}(h:ey s = some e)(hk:¬e.kind = 1)(hkk:ts[e.task.toNat]? = some k)(hn:¬cX t.results k.deps):dM ts t s = none:=by
 unfold dM;rw[h];simp only[if_neg hk]
 rw[if_neg fun q=>hn (by have:=q.2.2.2;rw[hkk]at this;exact this)]
theorem jK{s:ByteArray}{e:Entry}(h:ey s = some e):e.ok:=by
 unfold ey at h
 split at h
 ·cases h
 ·split at h
  ·rename_i h1 h2
   cases h
   unfold dk at h2
   split at h2
   ·assumption
   ·rw[←h2]at h1;exact absurd (by decide:((emp.size:Nat):Int) < 4) h1
  ·cases h
theorem im(p:Plan)(rs:List ByteArray)(k:Int){t:Task}(h0:0≤k)(ht:p.tasks[k.toNat]? = some t)(hd:∀ d∈t.deps,0≤d∧d < rs.length)(hl:t.deps.length≤1048576):F BV [.val (cR p),.val (.t (qq rs)),.val (.i k)] (.b (decide (cX rs t.deps))) [[],[],[]]:=by
 have hk:=(List.getElem?_eq_some_iff.1 ht).1
 refine CD ?_
 conv=>whnf
 refine g 0 1 []<|J Zdt<|g 9 15 [.x (ay t)]<|J ⟨I,I,I,⟨AS,xA⟩,I,I,I,I⟩<|W.sq<|g 2 4 []<|J UA<|W.blk ?_
 refine W.lp (fun s (n:Nat)=>⟨[(1,s.s 1),(7,s.s 7),(8,.i n)],[],[]⟩) (fun(n:Nat)=>n≤t.deps.length∧cX rs (t.deps.take n)) (fun(n:Nat)=>t.deps.length - n) (0) [] [] ⟨rfl,⟨rfl,rfl,rfl,I⟩,I,I⟩ ?_ ?_
 ·exact⟨Nat.zero_le _,by unfold cX;simp⟩
 rintro n ⟨hn,hc⟩
 conv=>whnf
 refine W.sq<|g 15 18 []<|J UD<|W.cn<|J (fun h1=>?_) fun h1=>?_
 replace h1:=dt h1
 simp only[LM]at h1
 refine W.skip<|W.sq<|W.blk ?_
 obtain⟨y1,hy1⟩:=af (xs:=Task.deps t) (n:=n) OM
 have hm1:=hd y1 (List.mem_of_getElem? hy1)
 obtain⟨y2,hy2⟩:=af (xs:=rs) (n:=Int.toNat y1) OM
 refine g 18 28 [.x (dR y1),.x (aj y2)]<|J ⟨I,I,I,Zdl,I,Zdl,I,I,I⟩<|W.cn<|J (fun h2=>?_) fun h2=>?_
 replace h2:=dt h2
 refine g 28 29 []<|J UA<|RT ?_
 rotate_left
 replace h2:=df h2
 refine W.skip<|rg [.i ((n:Int) +1)]<|J Zdi ?_
 rotate_left
 replace h1:=df h1
 simp only[LM]at h1
 refine W.exit<|g 7 19 []<|J UA<|RT ?_
 rotate_left
 ·exact vbf (Jn AS AS AS)
 ·refine⟨n+1,[],[],Zbe,?_,?_⟩
  rotate_left
  (dsimp only;omega)
  dsimp only
  exact⟨by omega,Ae hc AS AS AS⟩
 ·exact vbt (by rw[List.take_of_length_le OM]at hc;exact hc)
theorem I7{ts:List Task}{e:Entry}(h:e.ok):0≤e.task∧e.task≤39∧1≤e.epoch∧e.epoch≤300:=⟨h.2.1.1,h.2.1.2,h.1.1,h.1.2⟩
theorem yq(ts:List Task)(xs:List ByteArray):List.replicate ts.length (aj emp) = (cK ts xs 0).results.map aj:=by rw[km,lC,List.map_replicate]
theorem pz(p:Plan)(xs:List ByteArray)(hp:dv p)(hx:∀ s∈xs,s.size≤281474976710656)(hl:xs.length≤9223372036854775806):F o9 [.val (cR p),.val (.t (qq xs))] (gw (aw p xs)) [[],[]]:=by
 have c1:=fI p hp
 by_cases h:aq p.tasks = 0
 ·obtain⟨⟨hl1,hl2⟩,_⟩:=bU h
  rw[h]at c1
  by_cases hl3:xs.length≤310
  ·refine kP ?_
   conv=>whnf
   refine g 0 0 []<|J Zdt<|W.sq<|g 13 18 [.call (V.i 0) [[]],BF,BF,BF,BF]<|J ⟨I,Zak,I,I,Zdh,Zdh,Zdh,rfl,I⟩<|W.cn<|J (fun h1=>?_) fun h1=>?_
   replace h1:=dt h1
   simp only[LM]at h1
   omega
   replace h1:=df h1
   simp only[LM]at h1
   refine W.skip<|gd 21 24 [[],[],[],[.n (List.length (List.map ay p.tasks))],[],[]] ?_
   conv=>whnf
   refine J ⟨I,I,I,⟨rfl,rfl,LN⟩,I,I,I⟩<|J KR<|W.sq<|g 11 12 []<|J UC<|W.blk ?_
   refine W.lp (fun s (n:Nat)=>⟨[(0,s.s 0),(1,s.s 1),(2,s.s 2),(4,s.s 4),(5,.i (cK p.tasks xs n).epoch),(6,.ref ⟨23,none,0⟩),(12,s.s 12),(20,s.s 20),(24,s.s 24),(25,s.s 25),(26,.i n)],[(2,[s.c 2 0]),(4,[s.c 4 0,s.c 4 1,s.c 4 2]),(23,[.own [false] ((cK p.tasks xs n).results.map aj)])],[]⟩) (fun(n:Nat)=>n≤xs.length∧l9 p.tasks xs n∧0≤(cK p.tasks xs n).epoch∧(cK p.tasks xs n).epoch≤300) (fun(n:Nat)=>xs.length - n) (0) [some 2,some 4,some 23] [] ⟨rfl,⟨⟨_,rfl,_,_,rfl,rfl,rfl⟩,rfl,rfl,rfl,rfl,rfl,rfl,rfl,rfl,rfl,rfl,I⟩,⟨⟨rfl,⟨rfl,I⟩⟩,⟨⟨rfl,⟨rfl,⟨rfl,⟨rfl,I⟩⟩⟩⟩,⟨⟨rfl,⟨(congrArg (V.own _) (by rw[List.length_map];exact yq _ _)),I⟩⟩,I⟩⟩⟩,I⟩ ?_ ?_
   ·rw[km];exact⟨Nat.zero_le _,vM _ _,Int.le_refl _,by show(0:Int)≤300;omega⟩
   rintro n ⟨hn,hc,he0,he1⟩
   have hrl:=I8 hc
   by_cases hn2:n < xs.length
   ·obtain⟨s0,hs⟩:=af hn2
    have hss:=hx s0 (List.mem_of_getElem? hs)
    have cr:=lz s0 hss
    rw[MB]at cr
    cases hr:ey s0 with
    |none =>
     rw[hr]at cr
     conv=>whnf
     refine g 0 0 []<|J UA<|W.sq<|W.cn<|J (fun _=>(W.skip (W.sq (W.blk (g 27 30 [.x (aj s0)]<|J Zb6 (g 30 35 [.call (lE none) [[]]]<|J Zd6 (W.sq (g 8 9 []<|J UB (W.cn<|J (fun _=>(g 35 38 []<|J Zd8 ?_)) (noF rfl)))))))))) (noF SI)
     refine RT ?_
     rw[ed h hl3 hc hs (Ex hr)];rfl
    |some e =>
     rw[hr]at cr
     obtain⟨r1,r2,r3,r4⟩:=I7 (ts:=p.tasks) (jK hr)
     by_cases hk:e.kind = 1
     ·by_cases he:e.epoch = (cK p.tasks xs n).epoch+1
      ·obtain⟨hc2,e1⟩:=ox hc hs (GH hr hk he)
       conv=>whnf
       refine g 0 0 []<|J UA<|W.sq<|W.cn<|J (fun _=>(W.skip (W.sq (W.blk (g 27 30 [.x (aj s0)]<|J Zb6 (g 30 35 [.call (lE (some e)) [[]]]<|J Zd6 (W.sq (g 8 9 []<|J UB (W.cn<|J (noT rfl) fun _=>(W.skip ?_)))))))))) (noF SI)
       refine W.sq<|g 35 40 []<|J UC<|W.cn<|J (fun _=>(W.sq (g 40 45 [.i (Tale.epoch (cK p.tasks xs n) +1)]<|J ⟨I,I,I,wO,I,I⟩ (W.cn<|J (noT nO) fun _=>(W.skip (g 45 49 []<|J UC (W.exit (rg [.i ((n:Int) +1)]<|J Zdn ?_)))))))) (noF tO)
       refine⟨n+1,[some 2,some 4,some 23],[],⟨rfl,⟨Zai,rfl,rfl,rfl,(congrArg (fun z=>V.t (T.v (Value.int _ z))) (by rw[e1])),rfl,rfl,rfl,rfl,rfl,rfl,I⟩,⟨Zad,⟨Zac,⟨⟨rfl,⟨(congrArg (V.own _) (by rw[e1])),I⟩⟩,I⟩⟩⟩,I⟩,?_,?_⟩
       rotate_left
       (dsimp only;omega)
       dsimp only
       exact⟨by omega,hc2,by rw[e1];dsimp only;omega,by rw[e1];dsimp only;omega⟩
      ·conv=>whnf
       refine g 0 0 []<|J UA<|W.sq<|W.cn<|J (fun _=>(W.skip (W.sq (W.blk (g 27 30 [.x (aj s0)]<|J Zb6 (g 30 35 [.call (lE (some e)) [[]]]<|J Zd6 (W.sq (g 8 9 []<|J UB (W.cn<|J (noT rfl) fun _=>(W.skip ?_)))))))))) (noF SI)
       refine W.sq<|g 35 40 []<|J UC<|W.cn<|J (fun _=>(W.sq (g 40 45 [.i (Tale.epoch (cK p.tasks xs n) +1)]<|J ⟨I,I,I,wO,I,I⟩ (W.cn<|J (fun _=>(g 45 47 []<|J Zd8 (RT ?_))) (noF (ag OM)))))) (noF tO)
       rw[ed h hl3 hc hs (zU hr hk he)];rfl
     ·by_cases heq:e.epoch = (cK p.tasks xs n).epoch
      ·by_cases hlt:e.task < p.tasks.length
       ·obtain⟨t,ht⟩:=af (xs:=p.tasks) (n:=e.task.toNat) OM
        obtain⟨y,hy⟩:=af (xs:=(cK p.tasks xs n).results) (n:=e.task.toNat) OM
        by_cases hye:y = emp
        ·obtain⟨_,_,a3,a4⟩:=b9 h ht
         have cd:=jg (cK p.tasks xs n).results t.deps (fun d hd=>by have:=a4 d hd;omega) OM
         by_cases hrd:cX (cK p.tasks xs n).results t.deps
         ·rw[decide_eq_true hrd]at cd
          obtain⟨hc2,e1⟩:=ox hc hs (Bi hr hk heq hlt hy hye ht hrd)
          conv=>whnf
          refine g 0 0 []<|J UA<|W.sq<|W.cn<|J (fun _=>(W.skip (W.sq (W.blk (g 27 30 [.x (aj s0)]<|J Zb6 (g 30 35 [.call (lE (some e)) [[]]]<|J Zd6 (W.sq (g 8 9 []<|J UB (W.cn<|J (noT rfl) fun _=>(W.skip ?_)))))))))) (noF SI)
          refine W.sq<|g 35 40 []<|J UC<|W.cn<|J (noT dO) fun _=>W.skip<|W.sq<|g 63 80 [BF,BF,BF,BF,BF,BF,BF,BF,BF,BF,BF,.n (Int.toNat e.task),BF,.x (aj y),BF,BF,BF,BF,BF,BF,BF,BF,.x (ay t),BF,BF,BF,.call VT [[],[]],BF,BF] ?_
          conv=>whnf
          refine J Zba<|W.cn<|J (noT rfl) fun _=>W.skip<|rg [.n (Int.toNat e.task),.x (aj y)]<|J ⟨I,I,I,I,I,Zdr,Zem,I⟩<|rg [.i ((n:Int) +1)]<|J Zdn ?_
          refine⟨n+1,[some 2,some 4,some 23],[],⟨rfl,⟨Zai,rfl,rfl,rfl,(congrArg (fun z=>V.t (T.v (Value.int _ z))) (by rw[e1])),rfl,rfl,rfl,rfl,rfl,rfl,I⟩,⟨Zad,⟨Zac,⟨⟨rfl,⟨(congrArg (V.own _) (by rw[e1,List.map_set];rfl)),I⟩⟩,I⟩⟩⟩,I⟩,?_,?_⟩
          rotate_left
          (dsimp only;omega)
          dsimp only
          exact⟨by omega,hc2,by rw[e1];dsimp only;omega,by rw[e1];dsimp only;omega⟩
         ·rw[decide_eq_false hrd]at cd
          conv=>whnf
          refine g 0 0 []<|J UA<|W.sq<|W.cn<|J (fun _=>(W.skip (W.sq (W.blk (g 27 30 [.x (aj s0)]<|J Zb6 (g 30 35 [.call (lE (some e)) [[]]]<|J Zd6 (W.sq (g 8 9 []<|J UB (W.cn<|J (noT rfl) fun _=>(W.skip ?_)))))))))) (noF SI)
          refine W.sq<|g 35 40 []<|J UC<|W.cn<|J (noT dO) fun _=>W.skip<|W.sq<|g 63 80 [BF,BF,BF,BF,BF,BF,BF,BF,BF,BF,BF,.n (Int.toNat e.task),BF,.x (aj y),BF,BF,BF,BF,BF,BF,BF,BF,.x (ay t),BF,BF,BF,.call VF [[],[]],BF,BF] ?_
          conv=>whnf
          refine J Zba<|W.cn<|J (fun _=>(g 40 62 []<|J Zd8 (RT ?_))) (noF rfl)
          rw[ed h hl3 hc hs (Jc hr hk ht hrd)];rfl
        ·conv=>whnf
         refine g 0 0 []<|J UA<|W.sq<|W.cn<|J (fun _=>(W.skip (W.sq (W.blk (g 27 30 [.x (aj s0)]<|J Zb6 (g 30 35 [.call (lE (some e)) [[]]]<|J Zd6 (W.sq (g 8 9 []<|J UB (W.cn<|J (noT rfl) fun _=>(W.skip ?_)))))))))) (noF SI)
         refine W.sq<|g 35 40 []<|J UC<|W.cn<|J (noT dO) fun _=>W.skip<|W.sq<|g 63 80 [BF,BF,BF,BF,BF,BF,BF,BF,BF,BF,BF,.n (Int.toNat e.task),BF,.x (aj y),BF,BF,BT,BT,BT,BT,BT,BT,BT,BT,BT,BT,BT]<|J ⟨I,I,I,I,I,⟨nO,I⟩,⟨nO,I⟩,⟨nO,I⟩,⟨nO,I⟩,⟨nO,I⟩,⟨nO,I⟩,nO,I,⟨SI,I⟩,⟨SI,I⟩,⟨SI,I⟩,⟨SI,OM,LN⟩,⟨SI,xA⟩,⟨SI,I⟩,SI,I,ag OM,ag OM,ag OM,ag OM,ag OM,ag OM,ag OM,ag OM,ag OM,ag OM,ag OM,I⟩<|W.cn<|J (fun _=>(g 40 62 []<|J Zd8 (RT ?_))) (noF rfl)
         rw[ed h hl3 hc hs (Jd hr hk hy hye)];rfl
       ·conv=>whnf
        refine g 0 0 []<|J UA<|W.sq<|W.cn<|J (fun _=>(W.skip (W.sq (W.blk (g 27 30 [.x (aj s0)]<|J Zb6 (g 30 35 [.call (lE (some e)) [[]]]<|J Zd6 (W.sq (g 8 9 []<|J UB (W.cn<|J (noT rfl) fun _=>(W.skip ?_)))))))))) (noF SI)
        refine W.sq<|g 35 40 []<|J UC<|W.cn<|J (noT dO) fun _=>W.skip<|W.sq<|g 63 80 [BF,BF,BF,BF,BF,BF,BF,BT,BT,BT,BT,BT,BT,BT,BT,BT,BT,BT,BT,BT,BT,BT,BT,BT,BT]<|J ⟨I,I,I,I,I,⟨nO,I⟩,⟨nO,I⟩,⟨nO,I⟩,⟨nO,I⟩,⟨nO,I⟩,⟨nO,I⟩,nO,I,(by simp_all),(by simp_all),(by simp_all),(by simp_all),(by simp_all),(by simp_all),(by simp_all),I,rfl,rfl,rfl,rfl,rfl,rfl,rfl,rfl,rfl,rfl,rfl,I⟩<|W.cn<|J (fun _=>(g 40 62 []<|J Zd8 (RT ?_))) (noF rfl)
        rw[ed h hl3 hc hs (sw hr hk (fun q=>hlt q.2))];rfl
      ·conv=>whnf
       refine g 0 0 []<|J UA<|W.sq<|W.cn<|J (fun _=>(W.skip (W.sq (W.blk (g 27 30 [.x (aj s0)]<|J Zb6 (g 30 35 [.call (lE (some e)) [[]]]<|J Zd6 (W.sq (g 8 9 []<|J UB (W.cn<|J (noT rfl) fun _=>(W.skip ?_)))))))))) (noF SI)
       refine W.sq<|g 35 40 []<|J UC<|W.cn<|J (noT dO) fun _=>W.skip<|W.sq<|g 63 80 [BT,BT,BT,BT,BT,BT,BT,BT,BT,BT,BT,BT,BT,BT,BT,BT,BT,BT,BT,BT,BT,BT,BT,BT,BT]<|J ⟨I,I,I,I,I,ag OM,ag OM,ag OM,ag OM,ag OM,ag OM,ag OM,I,rfl,rfl,rfl,rfl,rfl,rfl,rfl,I,rfl,rfl,rfl,rfl,rfl,rfl,rfl,rfl,rfl,rfl,rfl,I⟩<|W.cn<|J (fun _=>(g 40 62 []<|J Zd8 (RT ?_))) (noF rfl)
       rw[ed h hl3 hc hs (sw hr hk (fun q=>heq q.1))];rfl
   ·conv=>whnf
    refine g 0 0 []<|J UA<|W.sq<|W.cn<|J (noT SI) fun _=>W.exit<|g 5 92 []<|J ⟨I,I,I,UC,I⟩<|RT ?_
    rw[Ac h hl3 hc OM]
  ·refine kP ?_
   conv=>whnf
   refine g 0 0 []<|J Zdt<|W.sq<|g 13 18 [.call (V.i 0) [[]],BF,BF,BF,BF]<|J ⟨I,Zak,I,I,Zdh,Zdh,Zdh,rfl,I⟩<|W.cn<|J (fun h1=>?_) fun h1=>?_
   replace h1:=dt h1
   simp only[LM]at h1
   refine g 18 20 []<|J Zd8<|RT ?_
   rotate_left
   replace h1:=df h1
   simp only[LM]at h1
   omega
   rw[mH (fun q=>hl3 q.2)];rfl
 ·refine kP ?_
  conv=>whnf
  refine g 0 0 []<|J Zdt<|W.sq<|g 13 18 [.call (V.i (aq p.tasks)) [[]],BT,BT,BT,BT]<|J ⟨I,Zak,I,I,ag OM,ag OM,ag OM,ag OM,I⟩<|W.cn<|J (fun _=>(g 18 20 []<|J Zd8 (RT ?_))) (noF rfl)
  rw[mH (fun q=>h q.1)];rfl
theorem io(p:Plan)(xs:List ByteArray)(hp:dv p)(hx:∀ s∈xs,s.size≤281474976710656)(hl:xs.length≤9223372036854775806):F kL [.val (cR p),.val (.t (qq xs))] (gw (aw p xs)) [[],[]]:=by
 have c1:=de p hp
 by_cases h:aq p.tasks = 0
 ·obtain⟨⟨hl1,hl2⟩,_⟩:=bU h
  rw[h]at c1
  by_cases hl3:xs.length≤310
  ·refine kN ?_
   conv=>whnf
   refine g 0 0 []<|J Zdt<|W.sq<|g 10 13 [.call (V.i 0) [[]],BF,BF,BF,BF]<|J ⟨I,Zak,I,I,Zdh,Zdh,Zdh,rfl,I⟩<|W.cn<|J (fun h1=>?_) fun h1=>?_
   replace h1:=dt h1
   simp only[LM]at h1
   omega
   replace h1:=df h1
   simp only[LM]at h1
   refine W.skip<|g 14 20 []<|J ⟨I,I,UC,I⟩<|W.sq<|g 0 0 []<|J UA<|W.blk<|W.lp (fun s (n:Nat)=>⟨[(0,s.s 0),(1,s.s 1),(2,s.s 2),(4,s.s 4),(5,s.s 5),(6,.i n),(13,s.s 13)],[(2,[s.c 2 0]),(4,[s.c 4 0,s.c 4 1,s.c 4 2]),(5,[.t (.i 0),.t (.i 0),.own [false] ((List.replicate n emp).map aj)])],[]⟩) (fun(n:Nat)=>n≤p.tasks.length) (fun(n:Nat)=>p.tasks.length - n) (0) [some 2,some 4,some 5] [] ⟨rfl,Zea,⟨Zad,⟨Zac,Zee⟩⟩,I⟩ OM ?_
   intro n hn
   conv=>whnf
   refine W.sq<|g 20 22 []<|J UE<|W.cn<|J (fun h2=>?_) fun h2=>?_
   replace h2:=dt h2
   simp only[LM]at h2
   refine W.skip<|W.sq<|W.blk<|rg []<|J ⟨I,I,US,Zdm,I,UA,I⟩<|rg [.i ((n:Int) +1)]<|J Zdi ?_
   rotate_left
   replace h2:=df h2
   simp only[LM]at h2
   refine W.exit<|W.sq<|g 23 25 []<|J UA<|W.blk ?_
   rotate_left
   ·refine⟨n+1,[some 2,some 4,some 5],[],⟨rfl,Zea,⟨Zad,⟨Zac,⟨⟨rfl,⟨rfl,⟨rfl,⟨(congrArg (V.own _) (by rw[List.replicate_succ',List.map_append];rfl)),I⟩⟩⟩⟩,I⟩⟩⟩,I⟩,?_,?_⟩
    rotate_left
    (dsimp only;omega)
    dsimp only
    omega
   rw[show n = p.tasks.length by omega]
   refine W.lp (fun s (n:Nat)=>⟨[(0,s.s 0),(1,s.s 1),(2,s.s 2),(4,s.s 4),(5,s.s 5),(7,.i n),(13,s.s 13),(22,s.s 22)],[(2,[s.c 2 0]),(4,[s.c 4 0,s.c 4 1,s.c 4 2]),(5,[.t (.i 0),.t (.i (cK p.tasks xs n).epoch),.own [false] ((cK p.tasks xs n).results.map aj)])],[]⟩) (fun(n:Nat)=>n≤xs.length∧l9 p.tasks xs n∧0≤(cK p.tasks xs n).epoch∧(cK p.tasks xs n).epoch≤300) (fun(n:Nat)=>xs.length - n) (0) [some 2,some 4,some 5] [] ⟨rfl,⟨⟨_,rfl,_,_,rfl,rfl,rfl⟩,rfl,rfl,rfl,rfl,rfl,rfl,rfl,I⟩,⟨⟨rfl,⟨rfl,I⟩⟩,⟨⟨rfl,⟨rfl,⟨rfl,⟨rfl,I⟩⟩⟩⟩,⟨⟨rfl,⟨rfl,⟨rfl,⟨rfl,I⟩⟩⟩⟩,I⟩⟩⟩,I⟩ ?_ ?_
   ·rw[km];exact⟨Nat.zero_le _,vM _ _,Int.le_refl _,by show(0:Int)≤300;omega⟩
   rintro n ⟨hn,hc,he0,he1⟩
   have hrl:=I8 hc
   by_cases hn2:n < xs.length
   ·obtain⟨s0,hs⟩:=af hn2
    have hss:=hx s0 (List.mem_of_getElem? hs)
    have cr:=uF s0 hss
    cases hr:ey s0 with
    |none =>
     rw[hr]at cr
     conv=>whnf
     refine W.sq<|g 32 35 []<|J UD<|W.cn<|J (fun _=>(W.skip (W.sq (W.blk (g 35 46 [.x (aj s0),.call (lE none) [[]]]<|J Zet (W.sq (g 9 10 []<|J UB (W.cn<|J (fun _=>(g 46 49 []<|J Zd8 (RT ?_))) (noF rfl))))))))) (noF SI)
     rw[ed h hl3 hc hs (Ex hr)];rfl
    |some e =>
     rw[hr]at cr
     obtain⟨r1,r2,r3,r4⟩:=I7 (ts:=p.tasks) (jK hr)
     by_cases hk:e.kind = 1
     ·by_cases he:e.epoch = (cK p.tasks xs n).epoch+1
      ·obtain⟨hc2,e1⟩:=ox hc hs (GH hr hk he)
       conv=>whnf
       refine W.sq<|g 32 35 []<|J UD<|W.cn<|J (fun _=>(W.skip (W.sq (W.blk (g 35 46 [.x (aj s0),.call (lE (some e)) [[]]]<|J Zet (W.sq (g 9 10 []<|J UB (W.cn<|J (noT rfl) fun _=>(W.skip (W.sq ?_)))))))))) (noF SI)
       refine g 46 51 []<|J UC<|W.cn<|J (fun _=>(W.sq (g 51 57 [.i (Tale.epoch (cK p.tasks xs n) +1)]<|J Zdb (W.cn<|J (noT nO) fun _=>(W.skip (g 57 62 []<|J UW (W.exit (rg [.i ((n:Int) +1)]<|J Zdi ?_)))))))) (noF tO)
       refine⟨n+1,[some 2,some 4,some 5],[],⟨rfl,⟨Zai,rfl,rfl,rfl,rfl,rfl,rfl,rfl,I⟩,⟨Zad,⟨Zac,⟨⟨rfl,⟨rfl,⟨(congrArg (fun z=>V.t (T.v (Value.int _ z))) (by rw[e1])),⟨(congrArg (V.own _) (by rw[e1])),I⟩⟩⟩⟩,I⟩⟩⟩,I⟩,?_,?_⟩
       rotate_left
       (dsimp only;omega)
       dsimp only
       exact⟨by omega,hc2,by rw[e1];dsimp only;omega,by rw[e1];dsimp only;omega⟩
      ·conv=>whnf
       refine W.sq<|g 32 35 []<|J UD<|W.cn<|J (fun _=>(W.skip (W.sq (W.blk (g 35 46 [.x (aj s0),.call (lE (some e)) [[]]]<|J Zet (W.sq (g 9 10 []<|J UB (W.cn<|J (noT rfl) fun _=>(W.skip (W.sq ?_)))))))))) (noF SI)
       refine g 46 51 []<|J UC<|W.cn<|J (fun _=>(W.sq (g 51 57 [.i (Tale.epoch (cK p.tasks xs n) +1)]<|J Zdb (W.cn<|J (fun _=>(g 57 59 []<|J Zd8 (RT ?_))) (noF (ag OM)))))) (noF tO)
       rw[ed h hl3 hc hs (zU hr hk he)];rfl
     ·by_cases heq:e.epoch = (cK p.tasks xs n).epoch
      ·by_cases hlt:e.task < p.tasks.length
       ·obtain⟨t,ht⟩:=af (xs:=p.tasks) (n:=e.task.toNat) OM
        obtain⟨y,hy⟩:=af (xs:=(cK p.tasks xs n).results) (n:=e.task.toNat) OM
        by_cases hye:y = emp
        ·obtain⟨_,_,a3,a4⟩:=b9 h ht
         have cd:=im p (cK p.tasks xs n).results e.task r1 ht (fun d hd=>by have:=a4 d hd;omega) OM
         by_cases hrd:cX (cK p.tasks xs n).results t.deps
         ·rw[decide_eq_true hrd]at cd
          obtain⟨hc2,e1⟩:=ox hc hs (Bi hr hk heq hlt hy hye ht hrd)
          conv=>whnf
          refine W.sq<|g 32 35 []<|J UD<|W.cn<|J (fun _=>(W.skip (W.sq (W.blk (g 35 46 [.x (aj s0),.call (lE (some e)) [[]]]<|J Zet (W.sq (g 9 10 []<|J UB (W.cn<|J (noT rfl) fun _=>(W.skip (W.sq ?_)))))))))) (noF SI)
          refine g 46 51 []<|J UC<|W.cn<|J (noT dO) fun _=>W.skip<|W.sq<|g 63 92 [BF,BF,BF,BF,BF,BF,BF,BF,BF,BF,BF,BF,.n (Int.toNat e.task),BF,.x (aj y),BF,BF,BF,BF,BF,BF,BF,BF,.call VT [[],[],[]],BF,BF]<|J Zbh<|W.cn<|J (noT rfl) fun _=>W.skip<|rg [.n (Int.toNat e.task),.x (aj y)]<|J ⟨I,I,I,I,I,I,Zdr,Zem,I⟩<|rg [.i ((n:Int) +1)]<|J Zdi ?_
          refine⟨n+1,[some 2,some 4,some 5],[],⟨rfl,⟨Zai,rfl,rfl,rfl,rfl,rfl,rfl,rfl,I⟩,⟨Zad,⟨Zac,⟨⟨rfl,⟨rfl,⟨(congrArg (fun z=>V.t (T.v (Value.int _ z))) (by rw[e1])),⟨(congrArg (V.own _) (by rw[e1,List.map_set];rfl)),I⟩⟩⟩⟩,I⟩⟩⟩,I⟩,?_,?_⟩
          rotate_left
          (dsimp only;omega)
          dsimp only
          exact⟨by omega,hc2,by rw[e1];dsimp only;omega,by rw[e1];dsimp only;omega⟩
         ·rw[decide_eq_false hrd]at cd
          conv=>whnf
          refine W.sq<|g 32 35 []<|J UD<|W.cn<|J (fun _=>(W.skip (W.sq (W.blk (g 35 46 [.x (aj s0),.call (lE (some e)) [[]]]<|J Zet (W.sq (g 9 10 []<|J UB (W.cn<|J (noT rfl) fun _=>(W.skip (W.sq ?_)))))))))) (noF SI)
          refine g 46 51 []<|J UC<|W.cn<|J (noT dO) fun _=>W.skip<|W.sq<|g 63 92 [BF,BF,BF,BF,BF,BF,BF,BF,BF,BF,BF,BF,.n (Int.toNat e.task),BF,.x (aj y),BF,BF,BF,BF,BF,BF,BF,BF,.call VF [[],[],[]],BF,BF]<|J Zbh<|W.cn<|J (fun _=>(g 92 94 []<|J Zd8 (RT ?_))) (noF rfl)
          rw[ed h hl3 hc hs (Jc hr hk ht hrd)];rfl
        ·conv=>whnf
         refine W.sq<|g 32 35 []<|J UD<|W.cn<|J (fun _=>(W.skip (W.sq (W.blk (g 35 46 [.x (aj s0),.call (lE (some e)) [[]]]<|J Zet (W.sq (g 9 10 []<|J UB (W.cn<|J (noT rfl) fun _=>(W.skip (W.sq ?_)))))))))) (noF SI)
         refine g 46 51 []<|J UC<|W.cn<|J (noT dO) fun _=>W.skip<|W.sq<|g 63 92 [BF,BF,BF,BF,BF,BF,BF,BF,BF,BF,BF,BF,.n (Int.toNat e.task),BF,.x (aj y),BF,BF,BT,BT,BT,BT,BT,BT,BT,BT]<|J ⟨I,I,I,I,I,I,⟨nO,I⟩,⟨nO,I⟩,⟨nO,I⟩,⟨nO,I⟩,⟨nO,I⟩,⟨nO,I⟩,nO,I,⟨SI,I⟩,⟨SI,I⟩,⟨SI,I⟩,⟨SI,I⟩,⟨SI,OM,LN⟩,⟨SI,xA⟩,⟨SI,I⟩,SI,I,ag OM,ag OM,ag OM,ag OM,ag OM,ag OM,ag OM,ag OM,I⟩<|W.cn<|J (fun _=>(g 92 94 []<|J Zd8 (RT ?_))) (noF rfl)
         rw[ed h hl3 hc hs (Jd hr hk hy hye)];rfl
       ·conv=>whnf
        refine W.sq<|g 32 35 []<|J UD<|W.cn<|J (fun _=>(W.skip (W.sq (W.blk (g 35 46 [.x (aj s0),.call (lE (some e)) [[]]]<|J Zet (W.sq (g 9 10 []<|J UB (W.cn<|J (noT rfl) fun _=>(W.skip (W.sq ?_)))))))))) (noF SI)
        refine g 46 51 []<|J UC<|W.cn<|J (noT dO) fun _=>W.skip<|W.sq<|g 63 92 [BF,BF,BF,BF,BF,BF,BF,BT,BT,BT,BT,BT,BT,BT,BT,BT,BT,BT,BT,BT,BT,BT,BT]<|J ⟨I,I,I,I,I,I,⟨nO,I⟩,⟨nO,I⟩,⟨nO,I⟩,⟨nO,I⟩,⟨nO,I⟩,⟨nO,I⟩,nO,I,(by simp_all),(by simp_all),(by simp_all),(by simp_all),(by simp_all),(by simp_all),(by simp_all),(by simp_all),I,rfl,rfl,rfl,rfl,rfl,rfl,rfl,rfl,I⟩<|W.cn<|J (fun _=>(g 92 94 []<|J Zd8 (RT ?_))) (noF rfl)
        rw[ed h hl3 hc hs (sw hr hk (fun q=>hlt q.2))];rfl
      ·conv=>whnf
       refine W.sq<|g 32 35 []<|J UD<|W.cn<|J (fun _=>(W.skip (W.sq (W.blk (g 35 46 [.x (aj s0),.call (lE (some e)) [[]]]<|J Zet (W.sq (g 9 10 []<|J UB (W.cn<|J (noT rfl) fun _=>(W.skip (W.sq ?_)))))))))) (noF SI)
       refine g 46 51 []<|J UC<|W.cn<|J (noT dO) fun _=>W.skip<|W.sq<|g 63 92 [BT,BT,BT,BT,BT,BT,BT,BT,BT,BT,BT,BT,BT,BT,BT,BT,BT,BT,BT,BT,BT,BT,BT]<|J ⟨I,I,I,I,I,I,ag OM,ag OM,ag OM,ag OM,ag OM,ag OM,ag OM,I,rfl,rfl,rfl,rfl,rfl,rfl,rfl,rfl,I,rfl,rfl,rfl,rfl,rfl,rfl,rfl,rfl,I⟩<|W.cn<|J (fun _=>(g 92 94 []<|J Zd8 (RT ?_))) (noF rfl)
       rw[ed h hl3 hc hs (sw hr hk (fun q=>heq q.1))];rfl
   ·conv=>whnf
    refine W.sq<|g 32 35 []<|J UD<|W.cn<|J (noT SI) fun _=>W.exit<|g 5 102 []<|J Zd8<|RT ?_
    rw[Ac h hl3 hc OM]
  ·refine kN ?_
   conv=>whnf
   refine g 0 0 []<|J Zdt<|W.sq<|g 10 13 [.call (V.i 0) [[]],BF,BF,BF,BF]<|J ⟨I,Zak,I,I,Zdh,Zdh,Zdh,rfl,I⟩<|W.cn<|J (fun h1=>?_) fun h1=>?_
   replace h1:=dt h1
   simp only[LM]at h1
   refine g 14 19 []<|J Zd8<|RT ?_
   rotate_left
   replace h1:=df h1
   simp only[LM]at h1
   omega
   rw[mH (fun q=>hl3 q.2)];rfl
 ·refine kN ?_
  conv=>whnf
  refine g 0 0 []<|J Zdt<|W.sq<|g 10 13 [.call (V.i (aq p.tasks)) [[]],BT,BT,BT,BT]<|J ⟨I,Zak,I,I,ag OM,ag OM,ag OM,ag OM,I⟩<|W.cn<|J (fun _=>(g 14 19 []<|J Zd8 (RT ?_))) (noF rfl)
  rw[mH (fun q=>h q.1)];rfl
end Go.K
end
section
open Go Go.Tm Go.Proofs
namespace Go.K
def gM(w:Worker):Prop:=(1≤w.lease∧w.lease≤300000000)∧(0≤w.task∧w.task≤39)
def fq(w:Worker):Prop:=w.state = 0∧w.lease = 0∧w.task = 0∧w.cost = 0∧w.left = 0∧(w.inputs.length:Int) = 0∧w.text = emp
def ev(w:Worker):Prop:=w.state = 1∧gM w∧(1≤w.cost∧w.cost≤20)∧(1≤w.left∧w.left≤w.cost)∧eP w.inputs∧w.text = emp
def fp(w:Worker):Prop:=w.state = 2∧gM w∧w.cost = 0∧w.left = 0∧(w.inputs.length:Int) = 0∧(w.text.size:Int) = 8
def av(w:Worker):Prop:=(1≤w.number∧w.number≤8)∧(1≤w.epoch∧w.epoch≤300)∧(0≤w.since∧w.since≤1000000)∧(w.up = true∨(w.state = 0∧w.since = 0))∧(fq w∨ev w∨fp w)
instance (w:Worker):Decidable (av w):=by unfold av fq ev fp gM;infer_instance
theorem eL(w:Worker)(hl:w.inputs.length≤9223372036854775806):F pR [.val (dZ w)] (.b (decide (av w))) [[]]:=by
 refine qb ?_
 conv=>whnf
 refine g 0 1 []<|J Zd9<|W.sq ?_
 by_cases h1:(1:Int)≤Worker.number w∧Worker.number w≤(8:Int)
 by_cases h2:(1:Int)≤Worker.epoch w∧Worker.epoch w≤(300:Int)
 refine g 14 17 [.call (V.b (decide (1≤w.number∧w.number≤8))) [[],[],[]],BF,BF,BF,.call (V.b (decide (1≤w.epoch∧w.epoch≤300))) [[],[],[]],BF,BF,BF,BF,BF,.call (V.b (decide (0≤w.since∧w.since≤1000000))) [[],[],[]],BF,BF]<|J ⟨I,I,⟨UC,I,UU,UA,aa _ _ _⟩,I,I,⟨nO,I⟩,⟨nO,I⟩,⟨nO,UC,I,UU,UA,aa _ _ _⟩,⟨nO,I⟩,nO,I,⟨nO,I⟩,⟨nO,I⟩,⟨nO,UC,I,UU,UA,aa _ _ _⟩,⟨nO,I⟩,nO,I⟩<|W.cn<|J (fun h3=>?_) fun h3=>?_
 replace h3:=ndt h3
 refine g 9 11 []<|J UA<|RT ?_
 rotate_left
 replace h3:=ndf h3
 refine W.skip<|W.sq ?_
 by_cases h4:Worker.up w = true
 refine g 25 32 [BF,BF,BF,BF,BF,BF,BF,BF,BF]<|J ⟨I,I,I,I,nbF AS,nbF AS,nbF AS,nbF AS,I,I,I,nbF AS,nbF AS,I⟩<|W.cn<|J (noT rfl) fun _=>W.skip ?_
 by_cases h5:(1:Int)≤Worker.lease w∧Worker.lease w≤(300000000:Int)
 refine g 32 41 [.call (V.b (decide (1≤w.lease∧w.lease≤300000000))) [[],[],[]],BT,BT,BT,.call (V.b (decide (0≤w.task∧w.task≤39))) [[],[],[]],BT]<|J ⟨I,I,⟨UC,I,UU,UA,aa _ _ _⟩,I,⟨tO,I⟩,⟨tO,I⟩,⟨tO,UC,I,UU,UA,aa _ _ _⟩,tO,I,I⟩<|W.sq<|g 19 24 []<|J UB<|W.blk<|g 9 11 []<|J UB<|W.cn<|J (fun h6=>?_) fun h6=>?_
 replace h6:=dt h6
 refine g 5 74 [BF,BF,BF,BF,BF,BF,BF,BF,BF,BF,BF,BF,BF,BF,BF,BF,BF,BF,BF,BF,BF]<|J Za9<|RT ?_
 rotate_left
 replace h6:=df h6
 refine g 7 9 []<|J UB<|W.cn<|J (fun h7=>?_) fun h7=>?_
 replace h7:=dt h7
 by_cases h8:(0:Int)≤Worker.task w∧Worker.task w≤(39:Int)
 by_cases h9:(1:Int)≤Worker.cost w∧Worker.cost w≤(20:Int)
 by_cases h10:(1:Int)≤Worker.left w∧Worker.left w≤Worker.cost w
 by_cases h11:eP (Worker.inputs w)
 refine g 5 99 [BT,BT,BT,.call (V.b (decide (1≤w.cost∧w.cost≤20))) [[],[],[]],BT,BT,BT,BT,BT,BT,.call (V.b (decide (1≤w.left∧w.left≤w.cost))) [[],[],[]],BT,BT,BT,BT,.call (V.b (decide (eP w.inputs))) [[]],BT,BT,BT,BT,BT]<|J ⟨I,I,⟨tO,I⟩,⟨tO,I⟩,⟨tO,UC,I,UU,UA,aa _ _ _⟩,tO,I,⟨tO,I⟩,⟨tO,I⟩,⟨tO,I⟩,⟨tO,I⟩,⟨tO,UC,I,UU,UA,aa _ _ _⟩,tO,I,⟨tO,I⟩,⟨tO,I⟩,⟨tO,UA,I,US,UA,ir _ OM⟩,tO,I,⟨tO,I⟩,⟨tO,I⟩,⟨tO,I⟩,tO,I,I⟩<|RT ?_
 rotate_left
 refine g 5 99 [BT,BT,BT,.call (V.b (decide (1≤w.cost∧w.cost≤20))) [[],[],[]],BT,BT,BT,BT,BT,BT,.call (V.b (decide (1≤w.left∧w.left≤w.cost))) [[],[],[]],BT,BT,BT,BT,.call (V.b (decide (eP w.inputs))) [[]],BT,BF,BF,BF,BF]<|J ⟨I,I,⟨tO,I⟩,⟨tO,I⟩,⟨tO,UC,I,UU,UA,aa _ _ _⟩,tO,I,⟨tO,I⟩,⟨tO,I⟩,⟨tO,I⟩,⟨tO,I⟩,⟨tO,UC,I,UU,UA,aa _ _ _⟩,tO,I,⟨tO,I⟩,⟨tO,I⟩,⟨tO,UA,I,US,UA,ir _ OM⟩,tO,I,dO,dO,dO,dO,I,I⟩<|RT ?_
 rotate_left
 refine g 5 99 [BT,BT,BT,.call (V.b (decide (1≤w.cost∧w.cost≤20))) [[],[],[]],BT,BT,BT,BT,BT,BT,.call (V.b (decide (1≤w.left∧w.left≤w.cost))) [[],[],[]],BT,BF,BF,BF,BF,BF,BF,BF,BF]<|J ⟨I,I,⟨tO,I⟩,⟨tO,I⟩,⟨tO,UC,I,UU,UA,aa _ _ _⟩,tO,I,⟨tO,I⟩,⟨tO,I⟩,⟨tO,I⟩,⟨tO,I⟩,⟨tO,UC,I,UU,UA,aa _ _ _⟩,tO,I,dO,dO,dO,dO,I,rfl,rfl,rfl,rfl,I,I⟩<|RT ?_
 rotate_left
 refine g 5 99 [BT,BT,BT,.call (V.b (decide (1≤w.cost∧w.cost≤20))) [[],[],[]],BT,BF,BF,BF,BF,BF,BF,BF,BF,BF,BF,BF,BF,BF,BF]<|J ⟨I,I,⟨tO,I⟩,⟨tO,I⟩,⟨tO,UC,I,UU,UA,aa _ _ _⟩,tO,I,dO,dO,dO,dO,dO,dO,I,rfl,rfl,rfl,rfl,I,rfl,rfl,rfl,rfl,I,I⟩<|RT ?_
 rotate_left
 refine g 5 99 [BF,BF,BF,BF,BF,BF,BF,BF,BF,BF,BF,BF,BF,BF,BF,BF,BF,BF]<|J ⟨I,I,dO,dO,dO,dO,I,rfl,rfl,rfl,rfl,rfl,rfl,I,rfl,rfl,rfl,rfl,I,rfl,rfl,rfl,rfl,I,I⟩<|RT ?_
 rotate_left
 replace h7:=df h7
 refine g 18 76 []<|J UB<|W.cn<|J (fun h8=>?_) fun h8=>?_
 replace h8:=dt h8
 by_cases h9:(0:Int)≤Worker.task w∧Worker.task w≤(39:Int)
 by_cases h10:Worker.cost w = (0:Int)
 by_cases h11:Worker.left w = (0:Int)
 by_cases h12:(↑(List.length (List.map aj (Worker.inputs w))):Int) = (0:Int)
 simp only[LM]at h12
 refine g 5 124 [BT,BT,BT,BT,BT,BT,BT,BT,BT,BT,BT,BT,BT,BT,BT,BT,BT,BT]<|J ⟨I,I,⟨tO,I⟩,⟨tO,I⟩,⟨tO,I⟩,tO,I,⟨tO,I⟩,⟨tO,I⟩,⟨tO,I⟩,tO,I,⟨tO,I⟩,⟨tO,I⟩,⟨tO,I⟩,⟨tO,I⟩,tO,I,⟨SI,I⟩,⟨SI,I⟩,⟨SI,I⟩,⟨SI,I⟩,SI,I,I⟩<|RT ?_
 rotate_left
 simp only[LM]at h12
 refine g 5 124 [BT,BT,BT,BT,BT,BT,BT,BT,BT,BT,BT,BT,BT,BF,BF,BF,BF,BF]<|J ⟨I,I,⟨tO,I⟩,⟨tO,I⟩,⟨tO,I⟩,tO,I,⟨tO,I⟩,⟨tO,I⟩,⟨tO,I⟩,tO,I,⟨tO,I⟩,⟨tO,I⟩,⟨tO,I⟩,⟨tO,I⟩,tO,I,(by simp_all),(by simp_all),(by simp_all),(by simp_all),(by simp_all),I,I⟩<|RT ?_
 rotate_left
 refine g 5 124 [BT,BT,BT,BT,BT,BT,BT,BT,BF,BF,BF,BF,BF,BF,BF,BF,BF,BF]<|J ⟨I,I,⟨tO,I⟩,⟨tO,I⟩,⟨tO,I⟩,tO,I,⟨tO,I⟩,⟨tO,I⟩,⟨tO,I⟩,tO,I,dO,dO,dO,dO,dO,I,rfl,rfl,rfl,rfl,rfl,I,I⟩<|RT ?_
 rotate_left
 refine g 5 124 [BT,BT,BT,BT,BF,BF,BF,BF,BF,BF,BF,BF,BF,BF,BF,BF,BF,BF]<|J ⟨I,I,⟨tO,I⟩,⟨tO,I⟩,⟨tO,I⟩,tO,I,dO,dO,dO,dO,I,rfl,rfl,rfl,rfl,rfl,I,rfl,rfl,rfl,rfl,rfl,I,I⟩<|RT ?_
 rotate_left
 refine g 5 124 [BF,BF,BF,BF,BF,BF,BF,BF,BF,BF,BF,BF,BF,BF,BF,BF,BF,BF]<|J ⟨I,I,dO,dO,dO,dO,I,rfl,rfl,rfl,rfl,I,rfl,rfl,rfl,rfl,rfl,I,rfl,rfl,rfl,rfl,rfl,I,I⟩<|RT ?_
 rotate_left
 replace h8:=df h8
 refine W.skip<|g 5 101 []<|J UA<|RT ?_
 rotate_left
 refine g 32 41 [.call (V.b (decide (1≤w.lease∧w.lease≤300000000))) [[],[],[]],BF,BF,BF,BF]<|J ⟨I,I,⟨UC,I,UU,UA,aa _ _ _⟩,I,dO,dO,dO,dO,I,I⟩<|W.sq<|g 19 24 []<|J UB<|W.blk<|g 9 11 []<|J UB<|W.cn<|J (fun h6=>?_) fun h6=>?_
 replace h6:=dt h6
 by_cases h7:Worker.lease w = (0:Int)
 by_cases h8:Worker.task w = (0:Int)
 by_cases h9:Worker.cost w = (0:Int)
 by_cases h10:Worker.left w = (0:Int)
 by_cases h11:(↑(List.length (List.map aj (Worker.inputs w))):Int) = (0:Int)
 simp only[LM]at h11
 refine g 5 74 [BT,BT,BT,BT,BT,BT,BT,BT,BT,BT,BT,BT,BT,BT,BT,BT,BT,BT,BT,BT,BT]<|J Zav<|RT ?_
 rotate_left
 simp only[LM]at h11
 refine g 5 74 [BT,BT,BT,BT,BT,BT,BT,BT,BT,BT,BT,BT,BT,BT,BT,BT,BT,BF,BF,BF,BF]<|J ⟨I,I,I,I,⟨tO,I⟩,⟨tO,I⟩,⟨tO,I⟩,tO,I,⟨tO,I⟩,⟨tO,I⟩,⟨tO,I⟩,tO,I,⟨tO,I⟩,⟨tO,I⟩,⟨tO,I⟩,tO,I,⟨tO,I⟩,⟨tO,I⟩,⟨tO,I⟩,⟨tO,I⟩,tO,I,(by simp_all),(by simp_all),(by simp_all),(by simp_all),I,I⟩<|RT ?_
 rotate_left
 refine g 5 74 [BT,BT,BT,BT,BT,BT,BT,BT,BT,BT,BT,BT,BF,BF,BF,BF,BF,BF,BF,BF,BF]<|J Za4<|RT ?_
 rotate_left
 refine g 5 74 [BT,BT,BT,BT,BT,BT,BT,BT,BF,BF,BF,BF,BF,BF,BF,BF,BF,BF,BF,BF,BF]<|J Zbf<|RT ?_
 rotate_left
 refine g 5 74 [BT,BT,BT,BT,BF,BF,BF,BF,BF,BF,BF,BF,BF,BF,BF,BF,BF,BF,BF,BF,BF]<|J Zbp<|RT ?_
 rotate_left
 refine g 5 74 [BF,BF,BF,BF,BF,BF,BF,BF,BF,BF,BF,BF,BF,BF,BF,BF,BF,BF,BF,BF,BF]<|J Za9<|RT ?_
 rotate_left
 replace h6:=df h6
 refine g 7 9 []<|J UB<|W.cn<|J (fun h7=>?_) fun h7=>?_
 replace h7:=dt h7
 refine g 5 99 [BF,BF,BF,BF,BF,BF,BF,BF,BF,BF,BF,BF,BF,BF,BF,BF,BF,BF]<|J ⟨I,I,rfl,rfl,rfl,rfl,I,rfl,rfl,rfl,rfl,rfl,rfl,I,rfl,rfl,rfl,rfl,I,rfl,rfl,rfl,rfl,I,I⟩<|RT ?_
 rotate_left
 replace h7:=df h7
 refine g 18 76 []<|J UB<|W.cn<|J (fun h8=>?_) fun h8=>?_
 replace h8:=dt h8
 refine g 5 124 [BF,BF,BF,BF,BF,BF,BF,BF,BF,BF,BF,BF,BF,BF,BF,BF,BF,BF]<|J ⟨I,I,rfl,rfl,rfl,rfl,I,rfl,rfl,rfl,rfl,I,rfl,rfl,rfl,rfl,rfl,I,rfl,rfl,rfl,rfl,rfl,I,I⟩<|RT ?_
 rotate_left
 replace h8:=df h8
 refine W.skip<|g 5 101 []<|J UA<|RT ?_
 rotate_left
 replace h4:=Bool.eq_false_iff.2 h4
 by_cases h5:Worker.state w = (0:Int)
 refine g 25 32 [BT,BT,BT,BT,BF,BF,BF,BT,BF,BT]<|J Zcq<|W.cn<|J (fun h6=>?_) fun h6=>?_
 replace h6:=ndt h6
 refine g 19 24 []<|J UA<|RT ?_
 rotate_left
 replace h6:=ndf h6
 refine W.skip ?_
 by_cases h7:(1:Int)≤Worker.lease w∧Worker.lease w≤(300000000:Int)
 refine g 32 41 [.call (V.b (decide (1≤w.lease∧w.lease≤300000000))) [[],[],[]],BT,BT,BT,.call (V.b (decide (0≤w.task∧w.task≤39))) [[],[],[]],BT]<|J ⟨I,I,⟨UC,I,UU,UA,aa _ _ _⟩,I,⟨tO,I⟩,⟨tO,I⟩,⟨tO,UC,I,UU,UA,aa _ _ _⟩,tO,I,I⟩<|W.sq<|g 19 24 []<|J UB<|W.blk<|g 9 11 []<|J UB<|W.cn<|J (fun _=>(g 5 74 [BF,BF,BF,BF,BF,BF,BF,BF,BF,BF,BF,BF,BF,BF,BF,BF,BF,BF,BF,BF,BF]<|J Za9 (RT ?_))) (noF tO)
 rotate_left
 refine g 32 41 [.call (V.b (decide (1≤w.lease∧w.lease≤300000000))) [[],[],[]],BF,BF,BF,BF]<|J ⟨I,I,⟨UC,I,UU,UA,aa _ _ _⟩,I,dO,dO,dO,dO,I,I⟩<|W.sq<|g 19 24 []<|J UB<|W.blk<|g 9 11 []<|J UB<|W.cn<|J (fun _=>?_) (noF tO)
 by_cases h8:Worker.lease w = (0:Int)
 by_cases h9:Worker.task w = (0:Int)
 by_cases h10:Worker.cost w = (0:Int)
 by_cases h11:Worker.left w = (0:Int)
 by_cases h12:(↑(List.length (List.map aj (Worker.inputs w))):Int) = (0:Int)
 simp only[LM]at h12
 refine g 5 74 [BT,BT,BT,BT,BT,BT,BT,BT,BT,BT,BT,BT,BT,BT,BT,BT,BT,BT,BT,BT,BT]<|J Zav<|RT ?_
 rotate_left
 simp only[LM]at h12
 refine g 5 74 [BT,BT,BT,BT,BT,BT,BT,BT,BT,BT,BT,BT,BT,BT,BT,BT,BT,BF,BF,BF,BF]<|J ⟨I,I,I,I,⟨tO,I⟩,⟨tO,I⟩,⟨tO,I⟩,tO,I,⟨tO,I⟩,⟨tO,I⟩,⟨tO,I⟩,tO,I,⟨tO,I⟩,⟨tO,I⟩,⟨tO,I⟩,tO,I,⟨tO,I⟩,⟨tO,I⟩,⟨tO,I⟩,⟨tO,I⟩,tO,I,(by simp_all),(by simp_all),(by simp_all),(by simp_all),I,I⟩<|RT ?_
 rotate_left
 refine g 5 74 [BT,BT,BT,BT,BT,BT,BT,BT,BT,BT,BT,BT,BF,BF,BF,BF,BF,BF,BF,BF,BF]<|J Za4<|RT ?_
 rotate_left
 refine g 5 74 [BT,BT,BT,BT,BT,BT,BT,BT,BF,BF,BF,BF,BF,BF,BF,BF,BF,BF,BF,BF,BF]<|J Zbf<|RT ?_
 rotate_left
 refine g 5 74 [BT,BT,BT,BT,BF,BF,BF,BF,BF,BF,BF,BF,BF,BF,BF,BF,BF,BF,BF,BF,BF]<|J Zbp<|RT ?_
 rotate_left
 refine g 5 74 [BF,BF,BF,BF,BF,BF,BF,BF,BF,BF,BF,BF,BF,BF,BF,BF,BF,BF,BF,BF,BF]<|J Za9<|RT ?_
 rotate_left
 refine g 25 32 [BT,BT,BT,BT,BT,BT,BT,BT,BT,BT]<|J Zcs<|W.cn<|J (fun _=>(g 19 24 []<|J UA (RT ?_))) (noF rfl)
 rotate_left
 refine g 14 17 [.call (V.b (decide (1≤w.number∧w.number≤8))) [[],[],[]],BF,BF,BF,.call (V.b (decide (1≤w.epoch∧w.epoch≤300))) [[],[],[]],BF,BF,BT,BT,BT,BT,BT]<|J ⟨I,I,⟨UC,I,UU,UA,aa _ _ _⟩,I,I,⟨nO,I⟩,⟨nO,I⟩,⟨nO,UC,I,UU,UA,aa _ _ _⟩,⟨nO,I⟩,nO,I,ag OM,ag OM,ag OM,ag OM,ag OM,I⟩<|W.cn<|J (fun _=>(g 9 11 []<|J UA (RT ?_))) (noF rfl)
 rotate_left
 refine g 14 17 [.call (V.b (decide (1≤w.number∧w.number≤8))) [[],[],[]],BT,BT,BT,BT,BT,BT,BT,BT,BT,BT]<|J ⟨I,I,⟨UC,I,UU,UA,aa _ _ _⟩,I,I,ag OM,ag OM,ag OM,ag OM,ag OM,I,rfl,rfl,rfl,rfl,rfl,I⟩<|W.cn<|J (fun _=>(g 9 11 []<|J UA (RT ?_))) (noF rfl)
 rotate_left
 all_goals (try simp only[List.length_map,decide_eq_true_eq,Bool.not_eq_true,Bool.not_eq_true',decide_eq_false_iff_not]at *)
 all_goals first
  |exact vbf (by unfold av fq ev fp gM;grind)
  |exact vbt (by unfold av fq ev fp gM;grind)
  |exact vbd (by unfold av fq ev fp gM;grind)
theorem au(w:Worker)(hl:w.inputs.length≤9223372036854775806):F pF [.val (dZ w)] (.b (decide (av w))) [[]]:=by
 refine pW ?_
 conv=>whnf
 refine g 0 1 []<|J Zd9<|W.sq ?_
 by_cases h1:(1:Int)≤Worker.number w∧Worker.number w≤(8:Int)
 by_cases h2:(1:Int)≤Worker.epoch w∧Worker.epoch w≤(300:Int)
 refine g 9 13 [.call (V.b (decide (1≤w.number∧w.number≤8))) [[],[],[]],BF,BF,BF,.call (V.b (decide (1≤w.epoch∧w.epoch≤300))) [[],[],[]],BF,BF,BF,BF,BF,.call (V.b (decide (0≤w.since∧w.since≤1000000))) [[],[],[]],BF,BF]<|J ⟨I,I,⟨UC,I,UU,UA,ah _ _ _⟩,I,I,⟨nO,I⟩,⟨nO,I⟩,⟨nO,UC,I,UU,UA,ah _ _ _⟩,⟨nO,I⟩,nO,I,⟨nO,I⟩,⟨nO,I⟩,⟨nO,UC,I,UU,UA,ah _ _ _⟩,⟨nO,I⟩,nO,I⟩<|W.cn<|J (fun h3=>?_) fun h3=>?_
 replace h3:=ndt h3
 refine g 15 18 []<|J UA<|RT ?_
 rotate_left
 replace h3:=ndf h3
 refine W.skip<|W.sq ?_
 by_cases h4:Worker.up w = true
 refine g 26 31 [BF,BF,BF,BF,BF,BF,BF,BF,BF]<|J ⟨I,I,I,I,nbF AS,nbF AS,nbF AS,nbF AS,I,I,I,nbF AS,nbF AS,I⟩<|W.cn<|J (noT rfl) fun _=>W.skip<|W.sq<|g 5 8 []<|J UB<|W.blk<|g 15 18 []<|J UB<|W.cn<|J (fun h5=>?_) fun h5=>?_
 replace h5:=dt h5
 by_cases h6:Worker.lease w = (0:Int)
 by_cases h7:Worker.task w = (0:Int)
 by_cases h8:Worker.cost w = (0:Int)
 by_cases h9:Worker.left w = (0:Int)
 by_cases h10:(↑(List.length (List.map aj (Worker.inputs w))):Int) = (0:Int)
 simp only[LM]at h10
 refine g 8 65 [BT,BT,BT,BT,BT,BT,BT,BT,BT,BT,BT,BT,BT,BT,BT,BT,BT,BT,BT,BT,BT]<|J Zav<|RT ?_
 rotate_left
 simp only[LM]at h10
 refine g 8 65 [BT,BT,BT,BT,BT,BT,BT,BT,BT,BT,BT,BT,BT,BT,BT,BT,BT,BF,BF,BF,BF]<|J ⟨I,I,I,I,⟨tO,I⟩,⟨tO,I⟩,⟨tO,I⟩,tO,I,⟨tO,I⟩,⟨tO,I⟩,⟨tO,I⟩,tO,I,⟨tO,I⟩,⟨tO,I⟩,⟨tO,I⟩,tO,I,⟨tO,I⟩,⟨tO,I⟩,⟨tO,I⟩,⟨tO,I⟩,tO,I,(by simp_all),(by simp_all),(by simp_all),(by simp_all),I,I⟩<|RT ?_
 rotate_left
 refine g 8 65 [BT,BT,BT,BT,BT,BT,BT,BT,BT,BT,BT,BT,BF,BF,BF,BF,BF,BF,BF,BF,BF]<|J Za4<|RT ?_
 rotate_left
 refine g 8 65 [BT,BT,BT,BT,BT,BT,BT,BT,BF,BF,BF,BF,BF,BF,BF,BF,BF,BF,BF,BF,BF]<|J Zbf<|RT ?_
 rotate_left
 refine g 8 65 [BT,BT,BT,BT,BF,BF,BF,BF,BF,BF,BF,BF,BF,BF,BF,BF,BF,BF,BF,BF,BF]<|J Zbp<|RT ?_
 rotate_left
 refine g 8 65 [BF,BF,BF,BF,BF,BF,BF,BF,BF,BF,BF,BF,BF,BF,BF,BF,BF,BF,BF,BF,BF]<|J Za9<|RT ?_
 rotate_left
 replace h5:=df h5
 refine g 21 24 []<|J UB<|W.cn<|J (fun h6=>?_) fun h6=>?_
 replace h6:=dt h6
 by_cases h7:(1:Int)≤Worker.lease w∧Worker.lease w≤(300000000:Int)
 by_cases h8:(0:Int)≤Worker.task w∧Worker.task w≤(39:Int)
 by_cases h9:(1:Int)≤Worker.cost w∧Worker.cost w≤(20:Int)
 by_cases h10:(1:Int)≤Worker.left w∧Worker.left w≤Worker.cost w
 by_cases h11:eP (Worker.inputs w)
 refine g 8 97 [.call (V.b (decide (1≤w.lease∧w.lease≤300000000))) [[]],BT,BT,BT,.call (V.b (decide (0≤w.task∧w.task≤39))) [[],[],[]],BT,BT,BT,BT,.call (V.b (decide (1≤w.cost∧w.cost≤20))) [[],[],[]],BT,BT,BT,BT,BT,BT,.call (V.b (decide (1≤w.left∧w.left≤w.cost))) [[],[],[]],BT,BT,BT,BT,.call (V.b (decide (eP w.inputs))) [[]],BT,BT,BT,BT,BT]<|J ⟨I,I,⟨UA,I,US,UA,aA _⟩,I,⟨tO,I⟩,⟨tO,I⟩,⟨tO,UC,I,UU,UA,ah _ _ _⟩,tO,I,⟨tO,I⟩,⟨tO,I⟩,⟨tO,UC,I,UU,UA,ah _ _ _⟩,tO,I,⟨tO,I⟩,⟨tO,I⟩,⟨tO,I⟩,⟨tO,I⟩,⟨tO,UC,I,UU,UA,ah _ _ _⟩,tO,I,⟨tO,I⟩,⟨tO,I⟩,⟨tO,UA,I,US,UA,fb _ OM⟩,tO,I,⟨tO,I⟩,⟨tO,I⟩,⟨tO,I⟩,tO,I,I⟩<|RT ?_
 rotate_left
 refine g 8 97 [.call (V.b (decide (1≤w.lease∧w.lease≤300000000))) [[]],BT,BT,BT,.call (V.b (decide (0≤w.task∧w.task≤39))) [[],[],[]],BT,BT,BT,BT,.call (V.b (decide (1≤w.cost∧w.cost≤20))) [[],[],[]],BT,BT,BT,BT,BT,BT,.call (V.b (decide (1≤w.left∧w.left≤w.cost))) [[],[],[]],BT,BT,BT,BT,.call (V.b (decide (eP w.inputs))) [[]],BT,BF,BF,BF,BF]<|J ⟨I,I,⟨UA,I,US,UA,aA _⟩,I,⟨tO,I⟩,⟨tO,I⟩,⟨tO,UC,I,UU,UA,ah _ _ _⟩,tO,I,⟨tO,I⟩,⟨tO,I⟩,⟨tO,UC,I,UU,UA,ah _ _ _⟩,tO,I,⟨tO,I⟩,⟨tO,I⟩,⟨tO,I⟩,⟨tO,I⟩,⟨tO,UC,I,UU,UA,ah _ _ _⟩,tO,I,⟨tO,I⟩,⟨tO,I⟩,⟨tO,UA,I,US,UA,fb _ OM⟩,tO,I,dO,dO,dO,dO,I,I⟩<|RT ?_
 rotate_left
 refine g 8 97 [.call (V.b (decide (1≤w.lease∧w.lease≤300000000))) [[]],BT,BT,BT,.call (V.b (decide (0≤w.task∧w.task≤39))) [[],[],[]],BT,BT,BT,BT,.call (V.b (decide (1≤w.cost∧w.cost≤20))) [[],[],[]],BT,BT,BT,BT,BT,BT,.call (V.b (decide (1≤w.left∧w.left≤w.cost))) [[],[],[]],BT,BF,BF,BF,BF,BF,BF,BF,BF]<|J ⟨I,I,⟨UA,I,US,UA,aA _⟩,I,⟨tO,I⟩,⟨tO,I⟩,⟨tO,UC,I,UU,UA,ah _ _ _⟩,tO,I,⟨tO,I⟩,⟨tO,I⟩,⟨tO,UC,I,UU,UA,ah _ _ _⟩,tO,I,⟨tO,I⟩,⟨tO,I⟩,⟨tO,I⟩,⟨tO,I⟩,⟨tO,UC,I,UU,UA,ah _ _ _⟩,tO,I,dO,dO,dO,dO,I,rfl,rfl,rfl,rfl,I,I⟩<|RT ?_
 rotate_left
 refine g 8 97 [.call (V.b (decide (1≤w.lease∧w.lease≤300000000))) [[]],BT,BT,BT,.call (V.b (decide (0≤w.task∧w.task≤39))) [[],[],[]],BT,BT,BT,BT,.call (V.b (decide (1≤w.cost∧w.cost≤20))) [[],[],[]],BT,BF,BF,BF,BF,BF,BF,BF,BF,BF,BF,BF,BF,BF,BF]<|J ⟨I,I,⟨UA,I,US,UA,aA _⟩,I,⟨tO,I⟩,⟨tO,I⟩,⟨tO,UC,I,UU,UA,ah _ _ _⟩,tO,I,⟨tO,I⟩,⟨tO,I⟩,⟨tO,UC,I,UU,UA,ah _ _ _⟩,tO,I,dO,dO,dO,dO,dO,dO,I,rfl,rfl,rfl,rfl,I,rfl,rfl,rfl,rfl,I,I⟩<|RT ?_
 rotate_left
 refine g 8 97 [.call (V.b (decide (1≤w.lease∧w.lease≤300000000))) [[]],BT,BT,BT,.call (V.b (decide (0≤w.task∧w.task≤39))) [[],[],[]],BT,BF,BF,BF,BF,BF,BF,BF,BF,BF,BF,BF,BF,BF,BF,BF,BF,BF,BF]<|J ⟨I,I,⟨UA,I,US,UA,aA _⟩,I,⟨tO,I⟩,⟨tO,I⟩,⟨tO,UC,I,UU,UA,ah _ _ _⟩,tO,I,dO,dO,dO,dO,I,rfl,rfl,rfl,rfl,rfl,rfl,I,rfl,rfl,rfl,rfl,I,rfl,rfl,rfl,rfl,I,I⟩<|RT ?_
 rotate_left
 refine g 8 97 [.call (V.b (decide (1≤w.lease∧w.lease≤300000000))) [[]],BF,BF,BF,BF,BF,BF,BF,BF,BF,BF,BF,BF,BF,BF,BF,BF,BF,BF,BF,BF,BF,BF]<|J ⟨I,I,⟨UA,I,US,UA,aA _⟩,I,dO,dO,dO,dO,I,rfl,rfl,rfl,rfl,I,rfl,rfl,rfl,rfl,rfl,rfl,I,rfl,rfl,rfl,rfl,I,rfl,rfl,rfl,rfl,I,I⟩<|RT ?_
 rotate_left
 replace h6:=df h6
 refine g 25 67 []<|J UB<|W.cn<|J (fun h7=>?_) fun h7=>?_
 replace h7:=dt h7
 by_cases h8:(1:Int)≤Worker.lease w∧Worker.lease w≤(300000000:Int)
 by_cases h9:(0:Int)≤Worker.task w∧Worker.task w≤(39:Int)
 by_cases h10:(↑(ByteArray.size (Worker.text w)):Int) = (8:Int)
 by_cases h11:Worker.cost w = (0:Int)
 by_cases h12:Worker.left w = (0:Int)
 refine g 8 129 [.call (V.b (decide (1≤w.lease∧w.lease≤300000000))) [[]],BT,BT,BT,.call (V.b (decide (0≤w.task∧w.task≤39))) [[],[],[]],BT,BT,BT,BT,BT,BT,BT,BT,BT,BT,BT,BT,BT,BT,BT,BT,BT,BT,BT]<|J ⟨I,I,⟨UA,I,US,UA,aA _⟩,I,⟨tO,I⟩,⟨tO,I⟩,⟨tO,UC,I,UU,UA,ah _ _ _⟩,tO,I,⟨tO,I⟩,⟨tO,I⟩,⟨tO,I⟩,⟨tO,I⟩,tO,I,⟨tO,I⟩,⟨tO,I⟩,⟨tO,I⟩,tO,I,⟨tO,I⟩,⟨tO,I⟩,⟨tO,I⟩,tO,I,⟨tO,I⟩,⟨tO,I⟩,⟨tO,I⟩,⟨tO,I⟩,tO,I,I⟩<|RT ?_
 rotate_left
 refine g 8 129 [.call (V.b (decide (1≤w.lease∧w.lease≤300000000))) [[]],BT,BT,BT,.call (V.b (decide (0≤w.task∧w.task≤39))) [[],[],[]],BT,BT,BT,BT,BT,BT,BT,BT,BT,BT,BT,BT,BT,BT,BF,BF,BF,BF,BF]<|J ⟨I,I,⟨UA,I,US,UA,aA _⟩,I,⟨tO,I⟩,⟨tO,I⟩,⟨tO,UC,I,UU,UA,ah _ _ _⟩,tO,I,⟨tO,I⟩,⟨tO,I⟩,⟨tO,I⟩,⟨tO,I⟩,tO,I,⟨tO,I⟩,⟨tO,I⟩,⟨tO,I⟩,tO,I,⟨tO,I⟩,⟨tO,I⟩,⟨tO,I⟩,tO,I,dO,dO,dO,dO,dO,I,I⟩<|RT ?_
 rotate_left
 refine g 8 129 [.call (V.b (decide (1≤w.lease∧w.lease≤300000000))) [[]],BT,BT,BT,.call (V.b (decide (0≤w.task∧w.task≤39))) [[],[],[]],BT,BT,BT,BT,BT,BT,BT,BT,BT,BT,BF,BF,BF,BF,BF,BF,BF,BF,BF]<|J ⟨I,I,⟨UA,I,US,UA,aA _⟩,I,⟨tO,I⟩,⟨tO,I⟩,⟨tO,UC,I,UU,UA,ah _ _ _⟩,tO,I,⟨tO,I⟩,⟨tO,I⟩,⟨tO,I⟩,⟨tO,I⟩,tO,I,⟨tO,I⟩,⟨tO,I⟩,⟨tO,I⟩,tO,I,dO,dO,dO,dO,I,rfl,rfl,rfl,rfl,rfl,I,I⟩<|RT ?_
 rotate_left
 refine g 8 129 [.call (V.b (decide (1≤w.lease∧w.lease≤300000000))) [[]],BT,BT,BT,.call (V.b (decide (0≤w.task∧w.task≤39))) [[],[],[]],BT,BT,BT,BT,BT,BT,BF,BF,BF,BF,BF,BF,BF,BF,BF,BF,BF,BF,BF]<|J ⟨I,I,⟨UA,I,US,UA,aA _⟩,I,⟨tO,I⟩,⟨tO,I⟩,⟨tO,UC,I,UU,UA,ah _ _ _⟩,tO,I,⟨tO,I⟩,⟨tO,I⟩,⟨tO,I⟩,⟨tO,I⟩,tO,I,dO,dO,dO,dO,I,rfl,rfl,rfl,rfl,I,rfl,rfl,rfl,rfl,rfl,I,I⟩<|RT ?_
 rotate_left
 refine g 8 129 [.call (V.b (decide (1≤w.lease∧w.lease≤300000000))) [[]],BT,BT,BT,.call (V.b (decide (0≤w.task∧w.task≤39))) [[],[],[]],BT,BF,BF,BF,BF,BF,BF,BF,BF,BF,BF,BF,BF,BF,BF,BF,BF,BF,BF]<|J ⟨I,I,⟨UA,I,US,UA,aA _⟩,I,⟨tO,I⟩,⟨tO,I⟩,⟨tO,UC,I,UU,UA,ah _ _ _⟩,tO,I,dO,dO,dO,dO,dO,I,rfl,rfl,rfl,rfl,I,rfl,rfl,rfl,rfl,I,rfl,rfl,rfl,rfl,rfl,I,I⟩<|RT ?_
 rotate_left
 refine g 8 129 [.call (V.b (decide (1≤w.lease∧w.lease≤300000000))) [[]],BF,BF,BF,BF,BF,BF,BF,BF,BF,BF,BF,BF,BF,BF,BF,BF,BF,BF,BF,BF,BF,BF]<|J ⟨I,I,⟨UA,I,US,UA,aA _⟩,I,dO,dO,dO,dO,I,rfl,rfl,rfl,rfl,rfl,I,rfl,rfl,rfl,rfl,I,rfl,rfl,rfl,rfl,I,rfl,rfl,rfl,rfl,rfl,I,I⟩<|RT ?_
 rotate_left
 replace h7:=df h7
 refine W.skip<|g 8 99 []<|J UA<|RT ?_
 rotate_left
 replace h4:=Bool.eq_false_iff.2 h4
 by_cases h5:Worker.state w = (0:Int)
 refine g 26 31 [BT,BT,BT,BT,BF,BF,BF,BT,BF,BT]<|J Zcq<|W.cn<|J (fun h6=>?_) fun h6=>?_
 replace h6:=ndt h6
 refine g 5 8 []<|J UA<|RT ?_
 rotate_left
 replace h6:=ndf h6
 refine W.skip<|W.sq<|g 5 8 []<|J UB<|W.blk<|g 15 18 []<|J UB<|W.cn<|J (fun _=>?_) (noF tO)
 by_cases h7:Worker.lease w = (0:Int)
 by_cases h8:Worker.task w = (0:Int)
 by_cases h9:Worker.cost w = (0:Int)
 by_cases h10:Worker.left w = (0:Int)
 by_cases h11:(↑(List.length (List.map aj (Worker.inputs w))):Int) = (0:Int)
 simp only[LM]at h11
 refine g 8 65 [BT,BT,BT,BT,BT,BT,BT,BT,BT,BT,BT,BT,BT,BT,BT,BT,BT,BT,BT,BT,BT]<|J Zav<|RT ?_
 rotate_left
 simp only[LM]at h11
 refine g 8 65 [BT,BT,BT,BT,BT,BT,BT,BT,BT,BT,BT,BT,BT,BT,BT,BT,BT,BF,BF,BF,BF]<|J ⟨I,I,I,I,⟨tO,I⟩,⟨tO,I⟩,⟨tO,I⟩,tO,I,⟨tO,I⟩,⟨tO,I⟩,⟨tO,I⟩,tO,I,⟨tO,I⟩,⟨tO,I⟩,⟨tO,I⟩,tO,I,⟨tO,I⟩,⟨tO,I⟩,⟨tO,I⟩,⟨tO,I⟩,tO,I,(by simp_all),(by simp_all),(by simp_all),(by simp_all),I,I⟩<|RT ?_
 rotate_left
 refine g 8 65 [BT,BT,BT,BT,BT,BT,BT,BT,BT,BT,BT,BT,BF,BF,BF,BF,BF,BF,BF,BF,BF]<|J Za4<|RT ?_
 rotate_left
 refine g 8 65 [BT,BT,BT,BT,BT,BT,BT,BT,BF,BF,BF,BF,BF,BF,BF,BF,BF,BF,BF,BF,BF]<|J Zbf<|RT ?_
 rotate_left
 refine g 8 65 [BT,BT,BT,BT,BF,BF,BF,BF,BF,BF,BF,BF,BF,BF,BF,BF,BF,BF,BF,BF,BF]<|J Zbp<|RT ?_
 rotate_left
 refine g 8 65 [BF,BF,BF,BF,BF,BF,BF,BF,BF,BF,BF,BF,BF,BF,BF,BF,BF,BF,BF,BF,BF]<|J Za9<|RT ?_
 rotate_left
 refine g 26 31 [BT,BT,BT,BT,BT,BT,BT,BT,BT,BT]<|J Zcs<|W.cn<|J (fun _=>(g 5 8 []<|J UA (RT ?_))) (noF rfl)
 rotate_left
 refine g 9 13 [.call (V.b (decide (1≤w.number∧w.number≤8))) [[],[],[]],BF,BF,BF,.call (V.b (decide (1≤w.epoch∧w.epoch≤300))) [[],[],[]],BF,BF,BT,BT,BT,BT,BT]<|J ⟨I,I,⟨UC,I,UU,UA,ah _ _ _⟩,I,I,⟨nO,I⟩,⟨nO,I⟩,⟨nO,UC,I,UU,UA,ah _ _ _⟩,⟨nO,I⟩,nO,I,ag OM,ag OM,ag OM,ag OM,ag OM,I⟩<|W.cn<|J (fun _=>(g 15 18 []<|J UA (RT ?_))) (noF rfl)
 rotate_left
 refine g 9 13 [.call (V.b (decide (1≤w.number∧w.number≤8))) [[],[],[]],BT,BT,BT,BT,BT,BT,BT,BT,BT,BT]<|J ⟨I,I,⟨UC,I,UU,UA,ah _ _ _⟩,I,I,ag OM,ag OM,ag OM,ag OM,ag OM,I,rfl,rfl,rfl,rfl,rfl,I⟩<|W.cn<|J (fun _=>(g 15 18 []<|J UA (RT ?_))) (noF rfl)
 rotate_left
 all_goals (try simp only[List.length_map,decide_eq_true_eq,Bool.not_eq_true,Bool.not_eq_true',decide_eq_false_iff_not]at *)
 all_goals first
  |exact vbf (by unfold av fq ev fp gM;grind)
  |exact vbt (by unfold av fq ev fp gM;grind)
  |exact vbd (by unfold av fq ev fp gM;grind)
end Go.K
end
section
open Go Go.Tm Go.Proofs
namespace Go.K
theorem iY(w:Worker)(s:Int):F n6 [.val (dZ w),.val (.i s)] (aD ⟨w.number,w.epoch,w.up,0,0,0,0,0,[],emp,s⟩) [[],[]]:=by
 refine n8 ?_
 conv=>whnf
 refine g 0 0 []<|J Zd9<|g 5 13 []<|J ⟨I,I,I,I,I,I,I,I,UK,I⟩<|RT ?_
 rfl
theorem eS(xs:List ByteArray)(hl:xs.length≤1048576):F FS [.val (.t (qq xs))] (.own [false] (xs.map aj)) [[]]:=by
 refine Gi ?_
 conv=>whnf
 refine g 0 0 []<|J UA<|g 3 6 []<|J ⟨I,I,Zdm,I,I⟩<|RT ?_
 rfl
theorem aE(w:Worker)(hl:w.inputs.length≤1048576):F BX [.val (dZ w)] (aD w) [[]]:=by
 refine CE ?_
 conv=>whnf
 refine g 0 1 []<|J Zd9<|g 3 8 []<|J Zce<|g 1 2 []<|J Zeh<|RT ?_
 rfl
theorem gh(w:Worker)(hl:w.inputs.length≤1048576):F pN [.val (dZ w)] (aD w) [[]]:=by
 refine qa ?_
 conv=>whnf
 refine g 0 1 []<|J Zd9<|g 3 7 [.call (V.own [false] (List.map aj w.inputs)) [[]]]<|J ⟨I,I,⟨UA,I,US,UA,eS _ OM⟩,I,UA,I⟩<|g 1 2 []<|J Zeh<|RT ?_
 rfl
end Go.K
end
section
open Go Go.Tm Go.Proofs
namespace Go.K
structure Log where
 safe:List ByteArray
 loose:List ByteArray
 deriving DecidableEq
abbrev logT(x:Log):List T:=[.slc [false] (x.safe.map aj),.slc [false] (x.loose.map aj)]
abbrev PT(x:Log):V:=.agg [.t (.slc [false] (x.safe.map aj)),.t (.slc [false] (x.loose.map aj))]
abbrev PU(x:Log):V:=.agg [.own [false] (x.safe.map aj),.own [false] (x.loose.map aj)]
def bh(x:Log):Int:=((x.safe.length:Int) +bQ x.safe) + ((x.loose.length:Int) +bQ x.loose)
theorem Bn(x:Log):0≤bh x:=by
 have hn0:=bm x.safe
 have hn1:=bm x.loose
 simp only[bh];omega
def TK(x:Log):Prop:=x.safe.length≤9223372036854775807∧(∀ s∈x.safe,s.size≤9223372036854775807)∧x.loose.length≤9223372036854775807∧(∀ s∈x.loose,s.size≤9223372036854775807)
structure Job where
 lease:Int
 worker:Int
 til:Int
 deriving DecidableEq
abbrev aO(x:Job):List T:=[.i x.lease,.i x.worker,.i x.til]
abbrev XB(x:Job):V:=.agg [.t (.i x.lease),.t (.i x.worker),.t (.i x.til)]
abbrev Yp(x:Job):V:=.agg [.t (.i x.lease),.t (.i x.worker),.t (.i x.til)]
abbrev eG:List Bool:=[false,false,false]
abbrev fR:Job:=⟨0,0,0⟩
def Wq(x:Job):Prop:=True
structure Seat where
 free:Bool
 epoch:Int
 deriving DecidableEq
abbrev aG(x:Seat):List T:=[.b x.free,.i x.epoch]
abbrev TF(x:Seat):V:=.agg [.t (.b x.free),.t (.i x.epoch)]
abbrev Wc(x:Seat):V:=.agg [.t (.b x.free),.t (.i x.epoch)]
abbrev cx:List Bool:=[false,false]
abbrev ig:Seat:=⟨false,0⟩
def Sb(x:Seat):Prop:=True
structure Owed where
 worker:Int
 lease:Int
 task:Int
 deriving DecidableEq
abbrev aL(x:Owed):List T:=[.i x.worker,.i x.lease,.i x.task]
abbrev TJ(x:Owed):V:=.agg [.t (.i x.worker),.t (.i x.lease),.t (.i x.task)]
abbrev Wh(x:Owed):V:=.agg [.t (.i x.worker),.t (.i x.lease),.t (.i x.task)]
abbrev cy:List Bool:=[false,false,false]
abbrev L8:Owed:=⟨0,0,0⟩
def Si(x:Owed):Prop:=True
structure Boss where
 workers:Int
 up:Bool
 now:Int
 since:Int
 epoch:Int
 given:Int
 log:Log
 results:List ByteArray
 jobs:List Job
 seats:List Seat
 owed:List Owed
 deriving DecidableEq
abbrev X8(x:Boss):List T:=[.i x.workers,.b x.up,.i x.now,.i x.since,.i x.epoch,.i x.given,.slc [false] (x.log.safe.map aj),.slc [false] (x.log.loose.map aj),.slc [false] (x.results.map aj),.slc eG (x.jobs.map aO),.slc cx (x.seats.map aG),.slc cy (x.owed.map aL)]
abbrev f0(x:Boss):V:=.agg [.t (.i x.workers),.t (.b x.up),.t (.i x.now),.t (.i x.since),.t (.i x.epoch),.t (.i x.given),.t (.slc [false] (x.log.safe.map aj)),.t (.slc [false] (x.log.loose.map aj)),.t (.slc [false] (x.results.map aj)),.t (.slc eG (x.jobs.map aO)),.t (.slc cx (x.seats.map aG)),.t (.slc cy (x.owed.map aL))]
abbrev aN(x:Boss):V:=.agg [.t (.i x.workers),.t (.b x.up),.t (.i x.now),.t (.i x.since),.t (.i x.epoch),.t (.i x.given),.own [false] (x.log.safe.map aj),.own [false] (x.log.loose.map aj),.own [false] (x.results.map aj),.own eG (x.jobs.map aO),.own cx (x.seats.map aG),.own cy (x.owed.map aL)]
abbrev kE:Boss:=⟨0,false,0,0,0,0,⟨[],[]⟩,[],[],[],[]⟩
def bJ(x:Boss):Int:=bh x.log+ ((x.results.length:Int) +bQ x.results) + ((x.jobs.length:Int)) + ((x.seats.length:Int)) + ((x.owed.length:Int))
theorem jP(x:Boss):0≤bJ x:=by
 have hn0:=Bn x.log
 have hn1:=bm x.results
 simp only[bJ];omega
def Hw(x:Boss):Prop:=TK x.log∧x.results.length≤9223372036854775807∧(∀ s∈x.results,s.size≤9223372036854775807)∧x.jobs.length≤9223372036854775807∧x.seats.length≤9223372036854775807∧x.owed.length≤9223372036854775807
def atS(rs:List ByteArray)(k:Int):ByteArray:=(rs[k.toNat]?).getD emp
def nv(ts:List Task)(n:Nat):List Int:=((ts[n]?).map Task.deps).getD []
structure JobOk (b:Boss) (ts:List Task) (i:Nat) (j:Job):Prop where
 lease:(b.epoch - 1) * 1000000+1≤j.lease∧j.lease≤(b.epoch - 1) * 1000000+b.given
 worker:1≤j.worker∧j.worker≤b.workers
 til:b.now+1≤j.til∧j.til≤b.now+12
 res:atS b.results (i:Int) = emp
 ready:cX b.results (nv ts i)
 once:j.lease ∉ (b.jobs.take i).map Job.lease
def Hj(b:Boss)(ts:List Task)(i:Nat)(j:Job):Prop:=(j.lease = 0→j.worker = 0∧j.til = 0)∧(¬j.lease = 0→JobOk b ts i j)
def ij(b:Boss)(ts:List Task)(n:Nat):Prop:=∀ (m:Nat) (j:Job),m < n→b.jobs[m]? = some j→Hj b ts m j
structure OwedOk (b:Boss) (ts:List Task) (o:Owed):Prop where
 worker:1≤o.worker∧o.worker≤b.workers
 lease:1≤o.lease∧o.lease≤300000000
 task:0≤o.task∧o.task≤(ts.length:Int) - 1
 res:¬atS b.results o.task = emp
structure UpOk (b:Boss) (ts:List Task) (st:Story):Prop where
 epoch:b.epoch = st.epoch
 pos:1≤b.epoch
 rlen:b.results.length = ts.length
 jlen:b.jobs.length = ts.length
 slen:(b.seats.length:Int) = b.workers
 res:b.results = st.results
 since:0≤b.since∧b.since≤1
 given:0≤b.given∧b.given≤1000000
 olen:b.owed.length≤2000
 jobs:ij b ts b.jobs.length
 seats:∀ s∈b.seats,0≤s.epoch∧s.epoch≤300
 owed:∀ o∈b.owed,OwedOk b ts o
structure DownOk (b:Boss):Prop where
 loose:b.log.loose.length = 0
 since:b.since = 0
 epoch:b.epoch = 0
 given:b.given = 0
 res:b.results.length = 0
 jobs:b.jobs.length = 0
 seats:b.seats.length = 0
 owed:b.owed.length = 0
noncomputable def cA(b:Boss)(p:Plan):Story:=aw p (b.log.safe++b.log.loose)
structure BossOk (b:Boss) (p:Plan):Prop where
 plan:aq p.tasks = 0
 workers:1≤b.workers∧b.workers≤8
 now:0≤b.now∧b.now≤1000000
 code:(cA b p).code = 0
 up:b.up = true→UpOk b p.tasks (cA b p)
 down:b.up = false→DownOk b
noncomputable instance (b:Boss) (p:Plan):Decidable (BossOk b p):=Classical.propDecidable _
theorem gr{b:Boss}{p:Plan}(hup:b.up = true)(h:¬UpOk b p.tasks (cA b p)):¬BossOk b p:=fun q=>h (q.up hup)
theorem Aq{b:Boss}{p:Plan}(hup:b.up = false)(h:¬DownOk b):¬BossOk b p:=fun q=>h (q.down hup)
theorem cE{p:Plan}{xs:List ByteArray}(h:(aw p xs).code = 0):aq p.tasks = 0∧xs.length≤310∧(aw p xs).results.length = p.tasks.length∧∃ t,ke p.tasks (some (lC p.tasks)) xs = some t∧aw p xs = ⟨0,t.epoch,t.results⟩:=by
 unfold aw at h ⊢
 by_cases hq:aq p.tasks = 0∧xs.length≤310
 ·rw[if_pos hq]at h ⊢
  cases hr:ke p.tasks (some (lC p.tasks)) xs with
  |none=>rw[hr]at h;cases h
  |some t =>
   refine⟨hq.1,hq.2,?_,t,rfl,rfl⟩
   have:=sA p.tasks xs _ _ hr
   rw[lC,List.length_replicate]at this
   exact this
 ·rw[if_neg hq]at h;cases h
theorem QK{ts:List Task}{t t':Tale}{s:ByteArray}(h:dM ts t s = some t')(h0:0≤t.epoch∧t.epoch≤300):0≤t'.epoch∧t'.epoch≤300:=by
 unfold dM at h
 split at h
 ·cases h
 ·rename_i e he
  have hr:=jK he
  split at h
  ·split at h
   ·cases h;have:=hr.1;exact⟨by dsimp only;omega,this.2⟩
   ·cases h
  ·split at h
   ·cases h;exact h0
   ·cases h
theorem Ms{ts:List Task}:∀ {l:List ByteArray} {t t':Tale},ke ts (some t) l = some t'→0≤t.epoch∧t.epoch≤300→0≤t'.epoch∧t'.epoch≤300
 |[],t,t',h,h0=>by rw[ka]at h;cases h;exact h0
 |s :: l,t,t',h,h0=>by
  rw[oC]at h
  cases hs:dM ts t s with
  |none=>rw[hs,iy]at h;cases h
  |some u=>rw[hs]at h;exact Ms h (QK hs h0)
theorem fP{p:Plan}{xs:List ByteArray}(h:(aw p xs).code = 0):0≤(aw p xs).epoch∧(aw p xs).epoch≤300:=by
 obtain⟨_,_,_,t,h1,h2⟩:=cE h
 rw[h2]
 exact Ms h1 ⟨Int.le_refl _,by show(0:Int)≤300;omega⟩
theorem nb{b:Boss}{ts:List Task}{st:Story}{n:Nat}{j:Job}(hj:b.jobs[n]? = some j)(h:¬Hj b ts n j):¬UpOk b ts st:=fun q=>h (q.jobs n j (List.getElem?_eq_some_iff.1 hj).1 hj)
theorem oI{b:Boss}{ts:List Task}{n:Nat}{j:Job}(hc:ij b ts n)(hj:b.jobs[n]? = some j)(h:Hj b ts n j):ij b ts (n+1):=fun m k hm hk=>by
 by_cases e:m = n
 ·subst e;rw[hj]at hk;cases hk;exact h
 ·exact hc m k OM hk
theorem jQ{rs:List ByteArray}{n:Nat}{y:ByteArray}(h:rs[n]? = some y):atS rs (n:Int) = y:=by unfold atS;rw[Int.toNat_natCast,h];rfl
theorem j7{rs:List ByteArray}{k:Int}{y:ByteArray}(h:rs[k.toNat]? = some y):atS rs k = y:=by unfold atS;rw[h];rfl
theorem dW{ts:List Task}{n:Nat}{t:Task}(h:ts[n]? = some t):nv ts n = t.deps:=by unfold nv;rw[h];rfl
def mM(b:Boss)(n:Nat):List Value:=(((b.jobs.take n).map Job.lease).filter (fun l=>decide (¬l = 0))).map fun l=>Value.int .i64 l
theorem EM{b:Boss}{n:Nat}{l:Int}(h:¬l = 0):Value.int .i64 l∈mM b n↔l∈(b.jobs.take n).map Job.lease:=by
 simp[mM,h]
theorem Ox(b:Boss)(n:Nat)(l0:Int):∀ x∈mM b n,kin (.int .i64 l0) x:=by
 intro x hx
 obtain⟨l,_,rfl⟩:=List.mem_map.1 hx
 rfl
theorem Lj{b:Boss}{n:Nat}{j:Job}(h:b.jobs[n]? = some j)(h0:j.lease = 0):mM b (n+1) = mM b n:=by
 unfold mM;rw[List.take_add_one,h];simp[h0]
theorem Li{b:Boss}{n:Nat}{j:Job}(h:b.jobs[n]? = some j)(h0:¬j.lease = 0):mM b n++ [Value.int .i64 j.lease] = mM b (n+1):=by
 unfold mM;rw[List.take_add_one,h];simp[h0]
theorem Je{b:Boss}{ts:List Task}{st:Story}{n:Nat}{s:Seat}(hs:b.seats[n]? = some s)(h:¬(0≤s.epoch∧s.epoch≤300)):¬UpOk b ts st:=fun q=>h (q.seats s (List.mem_of_getElem? hs))
theorem ld{b:Boss}{ts:List Task}{st:Story}{n:Nat}{o:Owed}(hs:b.owed[n]? = some o)(h:¬OwedOk b ts o):¬UpOk b ts st:=fun q=>h (q.owed o (List.mem_of_getElem? hs))
theorem dV{α:Type}{p:α→Prop}{xs:List α}{n:Nat}{x:α}(hc:∀ y∈xs.take n,p y)(h:xs[n]? = some x)(hp:p x):∀ y∈xs.take (n+1),p y:=by
 intro y hy
 rw[List.take_add_one,h]at hy
 rcases List.mem_append.1 hy with hy|hy
 ·exact hc y hy
 ·rw[Option.toList,List.mem_singleton]at hy;subst hy;exact hp
theorem iZ(b:Boss)(h1:b.log.safe.length≤1048576)(h2:b.log.loose.length≤1048576):F n7 [.val (f0 b)] (.own [false] ((b.log.safe++b.log.loose).map aj)) [[]]:=by
 refine n9 ?_
 conv=>whnf
 refine g 0 1 []<|J Zep<|gd 3 11 [[],[],[],[.call (V.own [false] (List.map aj b.log.safe)) [[]]],[],[],[],[],[]] ?_
 conv=>whnf
 refine J ⟨I,I,I,⟨UA,I,US,UA,eS _ OM⟩,I,I,I,Zdm,I,I⟩<|J KR<|RT ?_
 rw[List.map_append];rfl
theorem mr(l:Log)(h1:l.safe.length≤1048576)(h2:l.loose.length≤1048576):F FE [.val (PT l)] (.own [false] ((l.safe++l.loose).map aj)) [[]]:=by
 refine FZ ?_
 conv=>whnf
 refine g 0 1 []<|J ⟨UB,I,I⟩<|gd 3 10 [[],[],[],[],[],[],[],[]] ?_
 conv=>whnf
 refine J ⟨I,I,I,Zdm,I,I,Zdm,I,I⟩<|J KR<|RT ?_
 rw[List.map_append];rfl
end Go.K
end

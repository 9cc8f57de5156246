/- Contracts of functions of the program: what each call answers. -/
import Derived.Test.YtglgidpbcnngdaaPartc
import Derived.Test.YtglgidpbcnngdaaProg
section
set_option linter.unusedVariables false
set_option linter.unusedSimpArgs false
open Go Go.Tm Go.Proofs
namespace Go.K
def E : Env := (.node (.node (.node (.node (.node (.node (.node .nil 2 ⟨(.int .i64), [.t (.v (.int .i64 0))], 8⟩ .nil) 3 ⟨(.int .i64), [.t (.v (.int .i64 0))], 8⟩ .nil) 4 ⟨.bool, [.b false], 1⟩ (.node (.node .nil 5 ⟨(.int .u8), [.t (.v (.int .u8 0))], 1⟩ .nil) 6 ⟨(.int .u8), [.t (.v (.int .u8 0))], 1⟩ .nil)) 7 ⟨(.struct [(0, 2), (1, 3), (2, 4), (3, 6)]), [.t (.v (.int .i64 0)), .t (.v (.int .i64 0)), .b false, .t (.v (.int .u8 0))], 24⟩ (.node (.node (.node .nil 9 ⟨.str, [.s ⟨#[]⟩], 16⟩ .nil) 12 ⟨(.int .u64), [.t (.v (.int .u64 0))], 8⟩ .nil) 13 ⟨(.struct [(0, 9), (1, 12)]), [.s ⟨#[]⟩, .t (.v (.int .u64 0))], 24⟩ (.node .nil 17 ⟨(.ptr 238), [.t (.v (.pointer none))], 8⟩ .nil))) 18 ⟨(.struct [(0, 17)]), [.t (.v (.pointer none))], 8⟩ (.node (.node (.node (.node .nil 19 ⟨(.struct [(0, 17)]), [.t (.v (.pointer none))], 8⟩ .nil) 21 ⟨(.int .i32), [.t (.v (.int .i32 0))], 4⟩ .nil) 22 ⟨(.slice 9), [.own [false] []], 24⟩ (.node .nil 23 ⟨(.struct [(0, 3), (1, 3), (2, 3), (3, 3), (4, 3), (5, 3), (6, 9), (7, 22)]), [.t (.v (.int .i64 0)), .t (.v (.int .i64 0)), .t (.v (.int .i64 0)), .t (.v (.int .i64 0)), .t (.v (.int .i64 0)), .t (.v (.int .i64 0)), .s ⟨#[]⟩, .own [false] []], 88⟩ .nil)) 24 ⟨(.struct [(0, 3), (1, 3), (2, 3), (3, 3), (4, 3), (5, 3), (6, 9), (7, 22)]), [.t (.v (.int .i64 0)), .t (.v (.int .i64 0)), .t (.v (.int .i64 0)), .t (.v (.int .i64 0)), .t (.v (.int .i64 0)), .t (.v (.int .i64 0)), .s ⟨#[]⟩, .own [false] []], 88⟩ (.node (.node (.node .nil 27 ⟨(.struct [(0, 3), (1, 3), (2, 3), (3, 3), (4, 3), (5, 3), (6, 9), (7, 22)]), [.t (.v (.int .i64 0)), .t (.v (.int .i64 0)), .t (.v (.int .i64 0)), .t (.v (.int .i64 0)), .t (.v (.int .i64 0)), .t (.v (.int .i64 0)), .s ⟨#[]⟩, .own [false] []], 88⟩ .nil) 31 ⟨(.slice 5), [.own [false] []], 24⟩ .nil) 32 ⟨(.slice 40), [.own [false, false, true] []], 24⟩ (.node .nil 33 ⟨(.struct [(0, 32)]), [.own [false, false, true] []], 24⟩ .nil)))) 34 ⟨(.struct [(0, 32)]), [.own [false, false, true] []], 24⟩ (.node (.node (.node (.node (.node .nil 38 ⟨(.slice 3), [.own [false] []], 24⟩ .nil) 39 ⟨(.struct [(0, 9), (1, 3), (2, 38)]), [.s ⟨#[]⟩, .t (.v (.int .i64 0)), .own [false] []], 48⟩ .nil) 40 ⟨(.struct [(0, 9), (1, 3), (2, 38)]), [.s ⟨#[]⟩, .t (.v (.int .i64 0)), .own [false] []], 48⟩ (.node (.node .nil 47 ⟨(.slice 204), [.own [false, false, true] []], 24⟩ .nil) 48 ⟨(.struct [(0, 47)]), [.own [false, false, true] []], 24⟩ .nil)) 49 ⟨(.struct [(0, 47)]), [.own [false, false, true] []], 24⟩ (.node (.node (.node .nil 61 ⟨(.struct [(0, 3), (1, 3), (2, 22)]), [.t (.v (.int .i64 0)), .t (.v (.int .i64 0)), .own [false] []], 40⟩ .nil) 62 ⟨(.struct [(0, 3), (1, 3), (2, 22)]), [.t (.v (.int .i64 0)), .t (.v (.int .i64 0)), .own [false] []], 40⟩ .nil) 68 ⟨(.slice 158), [.own [false, false, false] []], 24⟩ (.node .nil 69 ⟨(.slice 24), [.own [false, false, false, false, false, false, false, true] []], 24⟩ .nil))) 72 ⟨(.slice 160), [.own [false, false, false] []], 24⟩ (.node (.node (.node (.node .nil 75 ⟨(.slice 27), [.own [false, false, false, false, false, false, false, true] []], 24⟩ .nil) 82 ⟨(.struct [(0, 3), (1, 3), (2, 3), (3, 9)]), [.t (.v (.int .i64 0)), .t (.v (.int .i64 0)), .t (.v (.int .i64 0)), .s ⟨#[]⟩], 40⟩ .nil) 83 ⟨(.struct [(0, 3), (1, 3), (2, 3), (3, 9)]), [.t (.v (.int .i64 0)), .t (.v (.int .i64 0)), .t (.v (.int .i64 0)), .s ⟨#[]⟩], 40⟩ (.node .nil 91 ⟨(.struct [(0, 3), (1, 3), (2, 4), (3, 3), (4, 3), (5, 3), (6, 3), (7, 3), (8, 22), (9, 9), (10, 3)]), [.t (.v (.int .i64 0)), .t (.v (.int .i64 0)), .b false, .t (.v (.int .i64 0)), .t (.v (.int .i64 0)), .t (.v (.int .i64 0)), .t (.v (.int .i64 0)), .t (.v (.int .i64 0)), .own [false] [], .s ⟨#[]⟩, .t (.v (.int .i64 0))], 112⟩ .nil)) 92 ⟨(.struct [(0, 3), (1, 3), (2, 4), (3, 3), (4, 3), (5, 3), (6, 3), (7, 3), (8, 22), (9, 9), (10, 3)]), [.t (.v (.int .i64 0)), .t (.v (.int .i64 0)), .b false, .t (.v (.int .i64 0)), .t (.v (.int .i64 0)), .t (.v (.int .i64 0)), .t (.v (.int .i64 0)), .t (.v (.int .i64 0)), .own [false] [], .s ⟨#[]⟩, .t (.v (.int .i64 0))], 112⟩ (.node (.node (.node .nil 96 ⟨(.struct [(0, 92), (11, 75)]), [.t (.v (.int .i64 0)), .t (.v (.int .i64 0)), .b false, .t (.v (.int .i64 0)), .t (.v (.int .i64 0)), .t (.v (.int .i64 0)), .t (.v (.int .i64 0)), .t (.v (.int .i64 0)), .own [false] [], .s ⟨#[]⟩, .t (.v (.int .i64 0)), .own [false, false, false, false, false, false, false, true] []], 136⟩ .nil) 97 ⟨(.struct [(0, 92), (11, 75)]), [.t (.v (.int .i64 0)), .t (.v (.int .i64 0)), .b false, .t (.v (.int .i64 0)), .t (.v (.int .i64 0)), .t (.v (.int .i64 0)), .t (.v (.int .i64 0)), .t (.v (.int .i64 0)), .own [false] [], .s ⟨#[]⟩, .t (.v (.int .i64 0)), .own [false, false, false, false, false, false, false, true] []], 136⟩ .nil) 100 ⟨(.struct [(0, 3), (1, 3), (2, 4), (3, 3), (4, 3), (5, 3), (6, 3), (7, 3), (8, 22), (9, 9), (10, 3)]), [.t (.v (.int .i64 0)), .t (.v (.int .i64 0)), .b false, .t (.v (.int .i64 0)), .t (.v (.int .i64 0)), .t (.v (.int .i64 0)), .t (.v (.int .i64 0)), .t (.v (.int .i64 0)), .own [false] [], .s ⟨#[]⟩, .t (.v (.int .i64 0))], 112⟩ (.node .nil 109 ⟨(.struct [(0, 22), (1, 22)]), [.own [false] [], .own [false] []], 48⟩ .nil))))) 110 ⟨(.struct [(0, 22), (1, 22)]), [.own [false] [], .own [false] []], 48⟩ (.node (.node (.node (.node (.node (.node .nil 111 ⟨(.slice 214), [.own [false, false, false] []], 24⟩ .nil) 112 ⟨(.slice 216), [.own [false, false] []], 24⟩ .nil) 113 ⟨(.slice 218), [.own [false, false, false] []], 24⟩ (.node (.node .nil 114 ⟨(.struct [(0, 3), (1, 4), (2, 3), (3, 3), (4, 3), (5, 3), (6, 110), (8, 22), (9, 111), (10, 112), (11, 113)]), [.t (.v (.int .i64 0)), .b false, .t (.v (.int .i64 0)), .t (.v (.int .i64 0)), .t (.v (.int .i64 0)), .t (.v (.int .i64 0)), .own [false] [], .own [false] [], .own [false] [], .own [false, false, false] [], .own [false, false] [], .own [false, false, false] []], 192⟩ .nil) 115 ⟨(.struct [(0, 3), (1, 4), (2, 3), (3, 3), (4, 3), (5, 3), (6, 110), (8, 22), (9, 111), (10, 112), (11, 113)]), [.t (.v (.int .i64 0)), .b false, .t (.v (.int .i64 0)), .t (.v (.int .i64 0)), .t (.v (.int .i64 0)), .t (.v (.int .i64 0)), .own [false] [], .own [false] [], .own [false] [], .own [false, false, false] [], .own [false, false] [], .own [false, false, false] []], 192⟩ .nil)) 118 ⟨(.struct [(0, 22), (1, 22)]), [.own [false] [], .own [false] []], 48⟩ (.node (.node (.node .nil 119 ⟨(.slice 192), [.own [false, false, false] []], 24⟩ .nil) 120 ⟨(.slice 182), [.own [false, false] []], 24⟩ .nil) 121 ⟨(.slice 184), [.own [false, false, false] []], 24⟩ (.node .nil 122 ⟨(.struct [(0, 3), (1, 4), (2, 3), (3, 3), (4, 3), (5, 3), (6, 118), (8, 22), (9, 119), (10, 120), (11, 121)]), [.t (.v (.int .i64 0)), .b false, .t (.v (.int .i64 0)), .t (.v (.int .i64 0)), .t (.v (.int .i64 0)), .t (.v (.int .i64 0)), .own [false] [], .own [false] [], .own [false] [], .own [false, false, false] [], .own [false, false] [], .own [false, false, false] []], 192⟩ .nil))) 123 ⟨(.struct [(0, 3), (1, 4), (2, 3), (3, 3), (4, 3), (5, 3), (6, 118), (8, 22), (9, 119), (10, 120), (11, 121)]), [.t (.v (.int .i64 0)), .b false, .t (.v (.int .i64 0)), .t (.v (.int .i64 0)), .t (.v (.int .i64 0)), .t (.v (.int .i64 0)), .own [false] [], .own [false] [], .own [false] [], .own [false, false, false] [], .own [false, false] [], .own [false, false, false] []], 192⟩ (.node (.node (.node (.node .nil 131 ⟨(.int .u64), [.t (.v (.int .u64 0))], 8⟩ .nil) 133 ⟨(.ptr 200), [.t (.v (.pointer none))], 8⟩ .nil) 139 ⟨(.map 9 4), [.t (.v (.map none))], 8⟩ (.node .nil 141 ⟨(.int .u64), [.t (.v (.int .u64 0))], 8⟩ .nil)) 142 ⟨(.int .u64), [.t (.v (.int .u64 0))], 8⟩ (.node (.node (.node .nil 157 ⟨(.struct [(0, 3), (1, 9), (2, 9)]), [.t (.v (.int .i64 0)), .s ⟨#[]⟩, .s ⟨#[]⟩], 40⟩ .nil) 158 ⟨(.struct [(0, 3), (1, 9), (2, 9)]), [.t (.v (.int .i64 0)), .s ⟨#[]⟩, .s ⟨#[]⟩], 40⟩ .nil) 160 ⟨(.struct [(0, 3), (1, 9), (2, 9)]), [.t (.v (.int .i64 0)), .s ⟨#[]⟩, .s ⟨#[]⟩], 40⟩ (.node .nil 181 ⟨(.struct [(0, 4), (1, 3)]), [.b false, .t (.v (.int .i64 0))], 16⟩ .nil)))) 182 ⟨(.struct [(0, 4), (1, 3)]), [.b false, .t (.v (.int .i64 0))], 16⟩ (.node (.node (.node (.node (.node .nil 183 ⟨(.struct [(0, 3), (1, 3), (2, 3)]), [.t (.v (.int .i64 0)), .t (.v (.int .i64 0)), .t (.v (.int .i64 0))], 24⟩ .nil) 184 ⟨(.struct [(0, 3), (1, 3), (2, 3)]), [.t (.v (.int .i64 0)), .t (.v (.int .i64 0)), .t (.v (.int .i64 0))], 24⟩ .nil) 190 ⟨(.map 3 4), [.t (.v (.map none))], 8⟩ (.node .nil 191 ⟨(.struct [(0, 3), (1, 3), (2, 3)]), [.t (.v (.int .i64 0)), .t (.v (.int .i64 0)), .t (.v (.int .i64 0))], 24⟩ .nil)) 192 ⟨(.struct [(0, 3), (1, 3), (2, 3)]), [.t (.v (.int .i64 0)), .t (.v (.int .i64 0)), .t (.v (.int .i64 0))], 24⟩ (.node (.node (.node .nil 199 ⟨(.struct [(0, 31), (1, 3)]), [.own [false] [], .t (.v (.int .i64 0))], 32⟩ .nil) 200 ⟨(.struct [(0, 31), (1, 3)]), [.own [false] [], .t (.v (.int .i64 0))], 32⟩ .nil) 202 ⟨(.ptr 142), [.t (.v (.pointer none))], 8⟩ (.node .nil 204 ⟨(.struct [(0, 9), (1, 3), (2, 38)]), [.s ⟨#[]⟩, .t (.v (.int .i64 0)), .own [false] []], 48⟩ .nil))) 214 ⟨(.struct [(0, 3), (1, 3), (2, 3)]), [.t (.v (.int .i64 0)), .t (.v (.int .i64 0)), .t (.v (.int .i64 0))], 24⟩ (.node (.node (.node (.node .nil 216 ⟨(.struct [(0, 4), (1, 3)]), [.b false, .t (.v (.int .i64 0))], 16⟩ .nil) 218 ⟨(.struct [(0, 3), (1, 3), (2, 3)]), [.t (.v (.int .i64 0)), .t (.v (.int .i64 0)), .t (.v (.int .i64 0))], 24⟩ .nil) 224 ⟨(.struct [(0, 17), (1, 17), (2, 17), (3, 9)]), [.t (.v (.pointer none)), .t (.v (.pointer none)), .t (.v (.pointer none)), .s ⟨#[]⟩], 40⟩ (.node .nil 230 ⟨(.int .u32), [.t (.v (.int .u32 0))], 4⟩ .nil)) 231 ⟨(.int .u8), [.t (.v (.int .u8 0))], 1⟩ (.node (.node (.node .nil 232 ⟨(.int .u8), [.t (.v (.int .u8 0))], 1⟩ .nil) 234 ⟨(.ptr 5), [.t (.v (.pointer none))], 8⟩ .nil) 235 ⟨(.int .i32), [.t (.v (.int .i32 0))], 4⟩ (.node .nil 236 ⟨(.int .i32), [.t (.v (.int .i32 0))], 4⟩ .nil))))))
set_option maxRecDepth 10000 in
theorem E_ok : EnvOk Try.prog E := by
  unfold E
  repeat (first | exact EnvOk.nil | refine EnvOk.node ?_ ⟨by kernel_rfl, by kernel_rfl, by simp, by simp [zcOk, sc], by simp [Ty.agg], by simp, by simp, by simp⟩ ?_)
def md (f : FuncId) : List Md := (bif Nat.blt f 87 then (bif Nat.blt f 45 then (bif Nat.blt f 24 then (bif Nat.blt f 13 then (bif Nat.blt f 8 then (bif Nat.blt f 5 then (bif Nat.blt f 4 then [.v, .v] else [.v]) else (bif Nat.blt f 6 then [.v, .v] else (bif Nat.blt f 7 then [.v] else [.v]))) else (bif Nat.blt f 10 then (bif Nat.blt f 9 then [.v, .v] else [.v, .v, .v]) else (bif Nat.blt f 11 then [.v] else (bif Nat.blt f 12 then [.v] else [.v, .v])))) else (bif Nat.blt f 18 then (bif Nat.blt f 15 then (bif Nat.blt f 14 then [.v, .v, .v] else [.v, .v]) else (bif Nat.blt f 16 then [.v, .v] else (bif Nat.blt f 17 then [.v, .v] else [.v]))) else (bif Nat.blt f 21 then (bif Nat.blt f 19 then [.v, .v] else (bif Nat.blt f 20 then [.v, .v] else [.v])) else (bif Nat.blt f 22 then [.v] else (bif Nat.blt f 23 then [.v] else [.v]))))) else (bif Nat.blt f 34 then (bif Nat.blt f 29 then (bif Nat.blt f 26 then (bif Nat.blt f 25 then [.v, .v] else [.v, .v]) else (bif Nat.blt f 27 then [.v, .v] else (bif Nat.blt f 28 then [.v, .v] else [.b, .v]))) else (bif Nat.blt f 31 then (bif Nat.blt f 30 then [.v, .v] else [.v, .v]) else (bif Nat.blt f 32 then [.v] else (bif Nat.blt f 33 then [.v] else [.v, .v])))) else (bif Nat.blt f 39 then (bif Nat.blt f 36 then (bif Nat.blt f 35 then [.v, .v] else [.b, .v]) else (bif Nat.blt f 37 then [.b, .v] else (bif Nat.blt f 38 then [.v, .v] else [.v]))) else (bif Nat.blt f 42 then (bif Nat.blt f 40 then [.v, .v] else (bif Nat.blt f 41 then [.v] else [.v, .v])) else (bif Nat.blt f 43 then [.v, .v] else (bif Nat.blt f 44 then [.v] else [.v, .v])))))) else (bif Nat.blt f 66 then (bif Nat.blt f 55 then (bif Nat.blt f 50 then (bif Nat.blt f 47 then (bif Nat.blt f 46 then [.v, .v] else [.b, .v]) else (bif Nat.blt f 48 then [.v, .v] else (bif Nat.blt f 49 then [.v, .v] else [.v, .v]))) else (bif Nat.blt f 52 then (bif Nat.blt f 51 then [.v, .v, .v] else [.v]) else (bif Nat.blt f 53 then [.v] else (bif Nat.blt f 54 then [.v, .v, .v] else [.v, .v])))) else (bif Nat.blt f 60 then (bif Nat.blt f 57 then (bif Nat.blt f 56 then [.v, .v] else [.b, .v]) else (bif Nat.blt f 58 then [.b, .v] else (bif Nat.blt f 59 then [.v, .v] else [.v]))) else (bif Nat.blt f 63 then (bif Nat.blt f 61 then [.v] else (bif Nat.blt f 62 then [.v] else [.v])) else (bif Nat.blt f 64 then [.v] else (bif Nat.blt f 65 then [.v] else [.v]))))) else (bif Nat.blt f 76 then (bif Nat.blt f 71 then (bif Nat.blt f 68 then (bif Nat.blt f 67 then [.v, .v] else [.v]) else (bif Nat.blt f 69 then [.v] else (bif Nat.blt f 70 then [.v] else [.v, .v, .v]))) else (bif Nat.blt f 73 then (bif Nat.blt f 72 then [.v, .v] else [.v, .v]) else (bif Nat.blt f 74 then [.v, .v] else (bif Nat.blt f 75 then [.v] else [.v, .v])))) else (bif Nat.blt f 81 then (bif Nat.blt f 78 then (bif Nat.blt f 77 then [.v, .v] else [.b, .v]) else (bif Nat.blt f 79 then [.b, .v] else (bif Nat.blt f 80 then [.v, .v] else [.v, .v, .v]))) else (bif Nat.blt f 84 then (bif Nat.blt f 82 then [.v, .v] else (bif Nat.blt f 83 then [.v, .v] else [.v])) else (bif Nat.blt f 85 then [.v, .v] else (bif Nat.blt f 86 then [.v, .v] else [.v]))))))) else (bif Nat.blt f 129 then (bif Nat.blt f 108 then (bif Nat.blt f 97 then (bif Nat.blt f 92 then (bif Nat.blt f 89 then (bif Nat.blt f 88 then [.v] else [.v]) else (bif Nat.blt f 90 then [.v] else (bif Nat.blt f 91 then [.v, .v] else [.v]))) else (bif Nat.blt f 94 then (bif Nat.blt f 93 then [.p] else [.p, .v]) else (bif Nat.blt f 95 then [.p, .v] else (bif Nat.blt f 96 then [.v, .v] else [.v])))) else (bif Nat.blt f 102 then (bif Nat.blt f 99 then (bif Nat.blt f 98 then [.v] else [.p, .v]) else (bif Nat.blt f 100 then [.v] else (bif Nat.blt f 101 then [.v, .v] else [.v]))) else (bif Nat.blt f 105 then (bif Nat.blt f 103 then [.v, .v] else (bif Nat.blt f 104 then [.b, .v] else [.v])) else (bif Nat.blt f 106 then [.p] else (bif Nat.blt f 107 then [.p, .v] else [.v, .v]))))) else (bif Nat.blt f 118 then (bif Nat.blt f 113 then (bif Nat.blt f 110 then (bif Nat.blt f 109 then [.p, .v] else [.v, .v, .v]) else (bif Nat.blt f 111 then [.v, .v] else (bif Nat.blt f 112 then [.v, .v] else [.v]))) else (bif Nat.blt f 115 then (bif Nat.blt f 114 then [.v] else [.v]) else (bif Nat.blt f 116 then [.v, .v] else (bif Nat.blt f 117 then [.p] else [.v])))) else (bif Nat.blt f 123 then (bif Nat.blt f 120 then (bif Nat.blt f 119 then [.v] else [.p, .v]) else (bif Nat.blt f 121 then [.p] else (bif Nat.blt f 122 then [.v, .v, .v] else [.v]))) else (bif Nat.blt f 126 then (bif Nat.blt f 124 then [.v] else (bif Nat.blt f 125 then [.v, .v, .v] else [.v])) else (bif Nat.blt f 127 then [.v] else (bif Nat.blt f 128 then [.v, .v, .v] else [.v, .v])))))) else (bif Nat.blt f 150 then (bif Nat.blt f 139 then (bif Nat.blt f 134 then (bif Nat.blt f 131 then (bif Nat.blt f 130 then [.v] else [.v, .v]) else (bif Nat.blt f 132 then [.v, .v] else (bif Nat.blt f 133 then [.v, .v] else [.v, .v]))) else (bif Nat.blt f 136 then (bif Nat.blt f 135 then [.v, .v] else [.v, .v]) else (bif Nat.blt f 137 then [.v, .v] else (bif Nat.blt f 138 then [.v, .v] else [.v])))) else (bif Nat.blt f 144 then (bif Nat.blt f 141 then (bif Nat.blt f 140 then [.v, .v] else [.v]) else (bif Nat.blt f 142 then [.v] else (bif Nat.blt f 143 then [.v] else [.v]))) else (bif Nat.blt f 147 then (bif Nat.blt f 145 then [.v] else (bif Nat.blt f 146 then [.v, .v] else [.v, .v])) else (bif Nat.blt f 148 then [.v, .v] else (bif Nat.blt f 149 then [.v, .v] else [.v]))))) else (bif Nat.blt f 160 then (bif Nat.blt f 155 then (bif Nat.blt f 152 then (bif Nat.blt f 151 then [.v] else [.v]) else (bif Nat.blt f 153 then [.v, .v] else (bif Nat.blt f 154 then [.v] else [.v, .v]))) else (bif Nat.blt f 157 then (bif Nat.blt f 156 then [.b, .v] else [.p]) else (bif Nat.blt f 158 then [.p, .v] else (bif Nat.blt f 159 then [.p, .v] else [.v])))) else (bif Nat.blt f 165 then (bif Nat.blt f 162 then (bif Nat.blt f 161 then [.v, .v] else [.v, .v]) else (bif Nat.blt f 163 then [.v] else (bif Nat.blt f 164 then [.v] else [.v]))) else (bif Nat.blt f 168 then (bif Nat.blt f 166 then [.v, .v] else (bif Nat.blt f 167 then [.v, .v] else [.v, .v])) else (bif Nat.blt f 169 then [.v, .v] else (bif Nat.blt f 170 then [.v] else [.v, .v]))))))))
def sq (t : TypeId) : Bool := Nat.beq t 83 || Nat.beq t 192
theorem sq_ok : ∀ t, sq t = true → SqOk Try.prog t := by
  intro t h
  simp only [sq, Bool.or_eq_true, Nat.beq_eq] at h
  rcases h with rfl | rfl
  all_goals exact ⟨by kernel_rfl, by kernel_rfl, by kernel_rfl, by kernel_rfl⟩
def F (f : FuncId) (xs : List A) (res : V) (outs : List (List V)) : Prop := Enters Try.prog f ∧ Tm.Fn Try.prog f xs res outs
def C : Cx := ⟨E, F, md, sq⟩
theorem C_ok : CxOk Try.prog C := ⟨E_ok, sq_ok, fun _ _ _ _ h => h⟩
variable {nt id : Nat} {ops : Array Oper} {y : Code} {H : HD} {Q : Exit → HD → Prop}
theorem g (lo hi : Nat) (ans : List Ans) (h : evSH C nt ops ops.toList ans H fun p H => dropH lo hi H fun H => p ∧ W Try.prog nt y H Q) : W Try.prog nt (.seq (.region id ops false) y) H Q := W.sg C_ok lo hi ans h
theorem rg (ans : List Ans) (h : evSH C nt ops ops.toList ans H fun p H => p ∧ Q .normal H) : W Try.prog nt (.region id ops false) H Q := W.rg C_ok ans h
theorem mixed : Try.prog.follows .mixedOrders = true := by kernel_rfl
theorem gd (lo hi : Nat) (ans : List (List Ans)) (h : evEH C nt ops ops.toList ans H fun p r H => dropH lo hi H fun H => p ∧ chkE ops.toList r = true ∧ W Try.prog nt y H Q) : W Try.prog nt (.seq (.region id ops true) y) H Q := W.sgD C_ok mixed lo hi ans h
theorem rgd (ans : List (List Ans)) (h : evEH C nt ops ops.toList ans H fun p r H => p ∧ chkE ops.toList r = true ∧ Q .normal H) : W Try.prog nt (.region id ops true) H Q := W.rgD C_ok mixed ans h
abbrev Q1 (res : V) (outs : List (List V)) : V → List (List V) → Prop := fun r o => r = res ∧ o = outs
abbrev ty_laws_Message : TypeId := 24
abbrev ty_laws_Parcel : TypeId := 158
abbrev n_laws_FnExactPost : FuncId := 9
theorem e_laws_FnExactPost : Enters Try.prog 9 := ⟨Try.f9, Try.func9, by kernel_rfl, by kernel_rfl⟩
theorem i_laws_FnExactPost {xs : List A} {res : V} {outs : List (List V)} (hrun : forceH (iniH 100 xs) fun H => W Try.prog 100 (bodyOf Try.f9) H (EndsW 100 E [(6, 4, false)] xs (Q1 res outs))) (h : (okAs xs && Nat.ble xs.length 100) = true := by rfl) : F 9 xs res outs := ⟨e_laws_FnExactPost, Fn.one Try.func9 rfl rfl E_ok rfl h hrun⟩
abbrev n_laws_szMessage : FuncId := 15
theorem e_laws_szMessage : Enters Try.prog 15 := ⟨Try.f15, Try.func15, by kernel_rfl, by kernel_rfl⟩
theorem i_laws_szMessage {xs : List A} {res : V} {outs : List (List V)} (hrun : forceH (iniH 19 xs) fun H => W Try.prog 19 (bodyOf Try.f15) H (EndsW 19 E [(4, 3, false)] xs (Q1 res outs))) (h : (okAs xs && Nat.ble xs.length 19) = true := by rfl) : F 15 xs res outs := ⟨e_laws_szMessage, Fn.one Try.func15 rfl rfl E_ok rfl h hrun⟩
abbrev n_spec_FormMessage : FuncId := 16
theorem e_spec_FormMessage : Enters Try.prog 16 := ⟨Try.f16, Try.func16, by kernel_rfl, by kernel_rfl⟩
theorem i_spec_FormMessage {xs : List A} {res : V} {outs : List (List V)} (hrun : forceH (iniH 23 xs) fun H => W Try.prog 23 (bodyOf Try.f16) H (EndsW 23 E [(4, 9, false)] xs (Q1 res outs))) (h : (okAs xs && Nat.ble xs.length 23) = true := by rfl) : F 16 xs res outs := ⟨e_spec_FormMessage, Fn.one Try.func16 rfl rfl E_ok rfl h hrun⟩
abbrev n_laws_toMessage : FuncId := 17
theorem e_laws_toMessage : Enters Try.prog 17 := ⟨Try.f17, Try.func17, by kernel_rfl, by kernel_rfl⟩
theorem i_laws_toMessage {xs : List A} {res : V} {outs : List (List V)} (hrun : forceH (iniH 30 xs) fun H => W Try.prog 30 (bodyOf Try.f17) H (EndsW 30 E [(2, 27, true)] xs (Q1 res outs))) (h : (okAs xs && Nat.ble xs.length 30) = true := by rfl) : F 17 xs res outs := ⟨e_laws_toMessage, Fn.one Try.func17 rfl rfl E_ok rfl h hrun⟩
abbrev n_impl_FormMessage : FuncId := 18
theorem e_impl_FormMessage : Enters Try.prog 18 := ⟨Try.f18, Try.func18, by kernel_rfl, by kernel_rfl⟩
theorem i_impl_FormMessage {xs : List A} {res : V} {outs : List (List V)} (hrun : forceH (iniH 77 xs) fun H => W Try.prog 77 (bodyOf Try.f18) H (EndsW 77 E [(4, 9, false)] xs (Q1 res outs))) (h : (okAs xs && Nat.ble xs.length 77) = true := by rfl) : F 18 xs res outs := ⟨e_impl_FormMessage, Fn.one Try.func18 rfl rfl E_ok rfl h hrun⟩
abbrev n_laws_eqMessage : FuncId := 19
theorem e_laws_eqMessage : Enters Try.prog 19 := ⟨Try.f19, Try.func19, by kernel_rfl, by kernel_rfl⟩
theorem i_laws_eqMessage {xs : List A} {res : V} {outs : List (List V)} (hrun : forceH (iniH 46 xs) fun H => W Try.prog 46 (bodyOf Try.f19) H (EndsW 46 E [(4, 4, false)] xs (Q1 res outs))) (h : (okAs xs && Nat.ble xs.length 46) = true := by rfl) : F 19 xs res outs := ⟨e_laws_eqMessage, Fn.one Try.func19 rfl rfl E_ok rfl h hrun⟩
abbrev n_laws_eqStringS : FuncId := 33
theorem e_laws_eqStringS : Enters Try.prog 33 := ⟨Try.f33, Try.func33, by kernel_rfl, by kernel_rfl⟩
theorem i_laws_eqStringS {xs : List A} {res : V} {outs : List (List V)} (hrun : forceH (iniH 26 xs) fun H => W Try.prog 26 (bodyOf Try.f33) H (EndsW 26 E [(4, 4, false)] xs (Q1 res outs))) (h : (okAs xs && Nat.ble xs.length 26) = true := by rfl) : F 33 xs res outs := ⟨e_laws_eqStringS, Fn.one Try.func33 rfl rfl E_ok rfl h hrun⟩
abbrev n_laws_markStringS : FuncId := 36
theorem e_laws_markStringS : Enters Try.prog 36 := ⟨Try.f36, Try.func36, by kernel_rfl, by kernel_rfl⟩
theorem i_laws_markStringS {xs : List A} {res : V} {outs : List (List V)} (hrun : forceH (iniH 20 xs) fun H => W Try.prog 20 (bodyOf Try.f36) H (EndsW 20 E [(4, 3, false)] xs (Q1 res outs))) (h : (okAs xs && Nat.ble xs.length 20) = true := by rfl) : F 36 xs res outs := ⟨e_laws_markStringS, Fn.one Try.func36 rfl rfl E_ok rfl h hrun⟩
abbrev n_laws_szStringS : FuncId := 41
theorem e_laws_szStringS : Enters Try.prog 41 := ⟨Try.f41, Try.func41, by kernel_rfl, by kernel_rfl⟩
theorem i_laws_szStringS {xs : List A} {res : V} {outs : List (List V)} (hrun : forceH (iniH 28 xs) fun H => W Try.prog 28 (bodyOf Try.f41) H (EndsW 28 E [(4, 3, false)] xs (Q1 res outs))) (h : (okAs xs && Nat.ble xs.length 28) = true := by rfl) : F 41 xs res outs := ⟨e_laws_szStringS, Fn.one Try.func41 rfl rfl E_ok rfl h hrun⟩
abbrev n_laws_toStringS : FuncId := 43
theorem e_laws_toStringS : Enters Try.prog 43 := ⟨Try.f43, Try.func43, by kernel_rfl, by kernel_rfl⟩
theorem i_laws_toStringS {xs : List A} {res : V} {outs : List (List V)} (hrun : forceH (iniH 22 xs) fun H => W Try.prog 22 (bodyOf Try.f43) H (EndsW 22 E [(2, 22, false)] xs (Q1 res outs))) (h : (okAs xs && Nat.ble xs.length 22) = true := by rfl) : F 43 xs res outs := ⟨e_laws_toStringS, Fn.one Try.func43 rfl rfl E_ok rfl h hrun⟩
abbrev n_laws_szParcelS : FuncId := 48
theorem e_laws_szParcelS : Enters Try.prog 48 := ⟨Try.f48, Try.func48, by kernel_rfl, by kernel_rfl⟩
theorem i_laws_szParcelS {xs : List A} {res : V} {outs : List (List V)} (hrun : forceH (iniH 27 xs) fun H => W Try.prog 27 (bodyOf Try.f48) H (EndsW 27 E [(4, 3, false)] xs (Q1 res outs))) (h : (okAs xs && Nat.ble xs.length 27) = true := by rfl) : F 48 xs res outs := ⟨e_laws_szParcelS, Fn.one Try.func48 rfl rfl E_ok rfl h hrun⟩
abbrev n_laws_szMessageS : FuncId := 49
theorem e_laws_szMessageS : Enters Try.prog 49 := ⟨Try.f49, Try.func49, by kernel_rfl, by kernel_rfl⟩
theorem i_laws_szMessageS {xs : List A} {res : V} {outs : List (List V)} (hrun : forceH (iniH 27 xs) fun H => W Try.prog 27 (bodyOf Try.f49) H (EndsW 27 E [(4, 3, false)] xs (Q1 res outs))) (h : (okAs xs && Nat.ble xs.length 27) = true := by rfl) : F 49 xs res outs := ⟨e_laws_szMessageS, Fn.one Try.func49 rfl rfl E_ok rfl h hrun⟩
abbrev n_spec_Post : FuncId := 50
theorem e_spec_Post : Enters Try.prog 50 := ⟨Try.f50, Try.func50, by kernel_rfl, by kernel_rfl⟩
theorem i_spec_Post {xs : List A} {res : V} {outs : List (List V)} (hrun : forceH (iniH 43 xs) fun H => W Try.prog 43 (bodyOf Try.f50) H (EndsW 43 E [(6, 72, false)] xs (Q1 res outs))) (h : (okAs xs && Nat.ble xs.length 43) = true := by rfl) : F 50 xs res outs := ⟨e_spec_Post, Fn.one Try.func50 rfl rfl E_ok rfl h hrun⟩
abbrev n_laws_toParcelS : FuncId := 51
theorem e_laws_toParcelS : Enters Try.prog 51 := ⟨Try.f51, Try.func51, by kernel_rfl, by kernel_rfl⟩
theorem i_laws_toParcelS {xs : List A} {res : V} {outs : List (List V)} (hrun : forceH (iniH 23 xs) fun H => W Try.prog 23 (bodyOf Try.f51) H (EndsW 23 E [(2, 72, false)] xs (Q1 res outs))) (h : (okAs xs && Nat.ble xs.length 23) = true := by rfl) : F 51 xs res outs := ⟨e_laws_toParcelS, Fn.one Try.func51 rfl rfl E_ok rfl h hrun⟩
abbrev n_laws_toMessageS : FuncId := 52
theorem e_laws_toMessageS : Enters Try.prog 52 := ⟨Try.f52, Try.func52, by kernel_rfl, by kernel_rfl⟩
theorem i_laws_toMessageS {xs : List A} {res : V} {outs : List (List V)} (hrun : forceH (iniH 23 xs) fun H => W Try.prog 23 (bodyOf Try.f52) H (EndsW 23 E [(2, 75, false)] xs (Q1 res outs))) (h : (okAs xs && Nat.ble xs.length 23) = true := by rfl) : F 52 xs res outs := ⟨e_laws_toMessageS, Fn.one Try.func52 rfl rfl E_ok rfl h hrun⟩
abbrev n_impl_Post : FuncId := 53
theorem e_impl_Post : Enters Try.prog 53 := ⟨Try.f53, Try.func53, by kernel_rfl, by kernel_rfl⟩
theorem i_impl_Post {xs : List A} {res : V} {outs : List (List V)} (hrun : forceH (iniH 44 xs) fun H => W Try.prog 44 (bodyOf Try.f53) H (EndsW 44 E [(6, 72, false)] xs (Q1 res outs))) (h : (okAs xs && Nat.ble xs.length 44) = true := by rfl) : F 53 xs res outs := ⟨e_impl_Post, Fn.one Try.func53 rfl rfl E_ok rfl h hrun⟩
abbrev n_laws_eqParcelS : FuncId := 54
theorem e_laws_eqParcelS : Enters Try.prog 54 := ⟨Try.f54, Try.func54, by kernel_rfl, by kernel_rfl⟩
theorem i_laws_eqParcelS {xs : List A} {res : V} {outs : List (List V)} (hrun : forceH (iniH 27 xs) fun H => W Try.prog 27 (bodyOf Try.f54) H (EndsW 27 E [(4, 4, false)] xs (Q1 res outs))) (h : (okAs xs && Nat.ble xs.length 27) = true := by rfl) : F 54 xs res outs := ⟨e_laws_eqParcelS, Fn.one Try.func54 rfl rfl E_ok rfl h hrun⟩
abbrev n_laws_eqMessageS : FuncId := 55
theorem e_laws_eqMessageS : Enters Try.prog 55 := ⟨Try.f55, Try.func55, by kernel_rfl, by kernel_rfl⟩
theorem i_laws_eqMessageS {xs : List A} {res : V} {outs : List (List V)} (hrun : forceH (iniH 27 xs) fun H => W Try.prog 27 (bodyOf Try.f55) H (EndsW 27 E [(4, 4, false)] xs (Q1 res outs))) (h : (okAs xs && Nat.ble xs.length 27) = true := by rfl) : F 55 xs res outs := ⟨e_laws_eqMessageS, Fn.one Try.func55 rfl rfl E_ok rfl h hrun⟩
abbrev n_laws_markParcelS : FuncId := 56
theorem e_laws_markParcelS : Enters Try.prog 56 := ⟨Try.f56, Try.func56, by kernel_rfl, by kernel_rfl⟩
theorem i_laws_markParcelS {xs : List A} {res : V} {outs : List (List V)} (hrun : forceH (iniH 36 xs) fun H => W Try.prog 36 (bodyOf Try.f56) H (EndsW 36 E [(4, 3, false)] xs (Q1 res outs))) (h : (okAs xs && Nat.ble xs.length 36) = true := by rfl) : F 56 xs res outs := ⟨e_laws_markParcelS, Fn.one Try.func56 rfl rfl E_ok rfl h hrun⟩
abbrev n_laws_markMessageS : FuncId := 57
theorem e_laws_markMessageS : Enters Try.prog 57 := ⟨Try.f57, Try.func57, by kernel_rfl, by kernel_rfl⟩
theorem i_laws_markMessageS {xs : List A} {res : V} {outs : List (List V)} (hrun : forceH (iniH 70 xs) fun H => W Try.prog 70 (bodyOf Try.f57) H (EndsW 70 E [(4, 3, false)] xs (Q1 res outs))) (h : (okAs xs && Nat.ble xs.length 70) = true := by rfl) : F 57 xs res outs := ⟨e_laws_markMessageS, Fn.one Try.func57 rfl rfl E_ok rfl h hrun⟩
abbrev n_laws_heldParcelS : FuncId := 58
theorem e_laws_heldParcelS : Enters Try.prog 58 := ⟨Try.f58, Try.func58, by kernel_rfl, by kernel_rfl⟩
theorem i_laws_heldParcelS {xs : List A} {res : V} {outs : List (List V)} (hrun : forceH (iniH 42 xs) fun H => W Try.prog 42 (bodyOf Try.f58) H (EndsW 42 E [(4, 3, false)] xs (Q1 res outs))) (h : (okAs xs && Nat.ble xs.length 42) = true := by rfl) : F 58 xs res outs := ⟨e_laws_heldParcelS, Fn.one Try.func58 rfl rfl E_ok rfl h hrun⟩
abbrev n_spec_l2Ok : FuncId := 86
theorem e_spec_l2Ok : Enters Try.prog 86 := ⟨Try.f86, Try.func86, by kernel_rfl, by kernel_rfl⟩
theorem i_spec_l2Ok {xs : List A} {res : V} {outs : List (List V)} (hrun : forceH (iniH 120 xs) fun H => W Try.prog 120 (bodyOf Try.f86) H (EndsW 120 E [(2, 4, false)] xs (Q1 res outs))) (h : (okAs xs && Nat.ble xs.length 120) = true := by rfl) : F 86 xs res outs := ⟨e_spec_l2Ok, Fn.one Try.func86 rfl rfl E_ok rfl h hrun⟩
abbrev n_spec_l2Body : FuncId := 87
theorem e_spec_l2Body : Enters Try.prog 87 := ⟨Try.f87, Try.func87, by kernel_rfl, by kernel_rfl⟩
theorem i_spec_l2Body {xs : List A} {res : V} {outs : List (List V)} (hrun : forceH (iniH 67 xs) fun H => W Try.prog 67 (bodyOf Try.f87) H (EndsW 67 E [(2, 9, false)] xs (Q1 res outs))) (h : (okAs xs && Nat.ble xs.length 67) = true := by rfl) : F 87 xs res outs := ⟨e_spec_l2Body, Fn.one Try.func87 rfl rfl E_ok rfl h hrun⟩
abbrev n_spec_l1Sum : FuncId := 88
theorem e_spec_l1Sum : Enters Try.prog 88 := ⟨Try.f88, Try.func88, by kernel_rfl, by kernel_rfl⟩
theorem i_spec_l1Sum {xs : List A} {res : V} {outs : List (List V)} (hrun : forceH (iniH 35 xs) fun H => W Try.prog 35 (bodyOf Try.f88) H (EndsW 35 E [(2, 9, false)] xs (Q1 res outs))) (h : (okAs xs && Nat.ble xs.length 35) = true := by rfl) : F 88 xs res outs := ⟨e_spec_l1Sum, Fn.one Try.func88 rfl rfl E_ok rfl h hrun⟩
abbrev n_impl_Message_valid : FuncId := 89
theorem e_impl_Message_valid : Enters Try.prog 89 := ⟨Try.f89, Try.func89, by kernel_rfl, by kernel_rfl⟩
theorem i_impl_Message_valid {xs : List A} {res : V} {outs : List (List V)} (hrun : forceH (iniH 108 xs) fun H => W Try.prog 108 (bodyOf Try.f89) H (EndsW 108 E [(2, 4, false)] xs (Q1 res outs))) (h : (okAs xs && Nat.ble xs.length 108) = true := by rfl) : F 89 xs res outs := ⟨e_impl_Message_valid, Fn.one Try.func89 rfl rfl E_ok rfl h hrun⟩
abbrev n_impl_seal : FuncId := 90
theorem e_impl_seal : Enters Try.prog 90 := ⟨Try.f90, Try.func90, by kernel_rfl, by kernel_rfl⟩
theorem i_impl_seal {xs : List A} {res : V} {outs : List (List V)} (hrun : forceH (iniH 13 xs) fun H => W Try.prog 13 (bodyOf Try.f90) H (EndsW 13 E [(4, 9, false)] xs (Q1 res outs))) (h : (okAs xs && Nat.ble xs.length 13) = true := by rfl) : F 90 xs res outs := ⟨e_impl_seal, Fn.one Try.func90 rfl rfl E_ok rfl h hrun⟩
abbrev n_impl_hash_bytes : FuncId := 98
theorem e_impl_hash_bytes : Enters Try.prog 98 := ⟨Try.f98, Try.func98, by kernel_rfl, by kernel_rfl⟩
theorem i_impl_hash_bytes {xs : List A} {res : V} {outs : List (List V)} (hrun : forceH (iniH 22 xs) fun H => W Try.prog 22 (bodyOf Try.f98) H (EndsW 22 E [] xs (Q1 res outs))) (h : (okAs xs && Nat.ble xs.length 22) = true := by rfl) : F 98 xs res outs := ⟨e_impl_hash_bytes, Fn.one Try.func98 rfl rfl E_ok rfl h hrun⟩
abbrev n_impl_hash_text : FuncId := 99
theorem e_impl_hash_text : Enters Try.prog 99 := ⟨Try.f99, Try.func99, by kernel_rfl, by kernel_rfl⟩
theorem i_impl_hash_text {xs : List A} {res : V} {outs : List (List V)} (hrun : forceH (iniH 23 xs) fun H => W Try.prog 23 (bodyOf Try.f99) H (EndsW 23 E [(2, 9, false)] xs (Q1 res outs))) (h : (okAs xs && Nat.ble xs.length 23) = true := by rfl) : F 99 xs res outs := ⟨e_impl_hash_text, Fn.one Try.func99 rfl rfl E_ok rfl h hrun⟩
abbrev n_laws_markText : FuncId := 104
theorem e_laws_markText : Enters Try.prog 104 := ⟨Try.f104, Try.func104, by kernel_rfl, by kernel_rfl⟩
theorem i_laws_markText {xs : List A} {res : V} {outs : List (List V)} (hrun : forceH (iniH 20 xs) fun H => W Try.prog 20 (bodyOf Try.f104) H (EndsW 20 E [(2, 9, false)] xs (Q1 res outs))) (h : (okAs xs && Nat.ble xs.length 20) = true := by rfl) : F 104 xs res outs := ⟨e_laws_markText, Fn.one Try.func104 rfl rfl E_ok rfl h hrun⟩
abbrev n_laws_szParcel : FuncId := 111
theorem e_laws_szParcel : Enters Try.prog 111 := ⟨Try.f111, Try.func111, by kernel_rfl, by kernel_rfl⟩
theorem i_laws_szParcel {xs : List A} {res : V} {outs : List (List V)} (hrun : forceH (iniH 20 xs) fun H => W Try.prog 20 (bodyOf Try.f111) H (EndsW 20 E [(4, 3, false)] xs (Q1 res outs))) (h : (okAs xs && Nat.ble xs.length 20) = true := by rfl) : F 111 xs res outs := ⟨e_laws_szParcel, Fn.one Try.func111 rfl rfl E_ok rfl h hrun⟩
abbrev n_spec_l6Copy : FuncId := 112
theorem e_spec_l6Copy : Enters Try.prog 112 := ⟨Try.f112, Try.func112, by kernel_rfl, by kernel_rfl⟩
theorem i_spec_l6Copy {xs : List A} {res : V} {outs : List (List V)} (hrun : forceH (iniH 6 xs) fun H => W Try.prog 6 (bodyOf Try.f112) H (EndsW 6 E [(2, 72, false)] xs (Q1 res outs))) (h : (okAs xs && Nat.ble xs.length 6) = true := by rfl) : F 112 xs res outs := ⟨e_spec_l6Copy, Fn.one Try.func112 rfl rfl E_ok rfl h hrun⟩
abbrev n_laws_toParcel : FuncId := 113
theorem e_laws_toParcel : Enters Try.prog 113 := ⟨Try.f113, Try.func113, by kernel_rfl, by kernel_rfl⟩
theorem i_laws_toParcel {xs : List A} {res : V} {outs : List (List V)} (hrun : forceH (iniH 14 xs) fun H => W Try.prog 14 (bodyOf Try.f113) H (EndsW 14 E [(2, 160, true)] xs (Q1 res outs))) (h : (okAs xs && Nat.ble xs.length 14) = true := by rfl) : F 113 xs res outs := ⟨e_laws_toParcel, Fn.one Try.func113 rfl rfl E_ok rfl h hrun⟩
abbrev n_impl_copied : FuncId := 114
theorem e_impl_copied : Enters Try.prog 114 := ⟨Try.f114, Try.func114, by kernel_rfl, by kernel_rfl⟩
theorem i_impl_copied {xs : List A} {res : V} {outs : List (List V)} (hrun : forceH (iniH 6 xs) fun H => W Try.prog 6 (bodyOf Try.f114) H (EndsW 6 E [(2, 72, false)] xs (Q1 res outs))) (h : (okAs xs && Nat.ble xs.length 6) = true := by rfl) : F 114 xs res outs := ⟨e_impl_copied, Fn.one Try.func114 rfl rfl E_ok rfl h hrun⟩
abbrev n_laws_eqParcel : FuncId := 115
theorem e_laws_eqParcel : Enters Try.prog 115 := ⟨Try.f115, Try.func115, by kernel_rfl, by kernel_rfl⟩
theorem i_laws_eqParcel {xs : List A} {res : V} {outs : List (List V)} (hrun : forceH (iniH 20 xs) fun H => W Try.prog 20 (bodyOf Try.f115) H (EndsW 20 E [(4, 4, false)] xs (Q1 res outs))) (h : (okAs xs && Nat.ble xs.length 20) = true := by rfl) : F 115 xs res outs := ⟨e_laws_eqParcel, Fn.one Try.func115 rfl rfl E_ok rfl h hrun⟩
abbrev n_spec_l2In : FuncId := 121
theorem e_spec_l2In : Enters Try.prog 121 := ⟨Try.f121, Try.func121, by kernel_rfl, by kernel_rfl⟩
theorem i_spec_l2In {xs : List A} {res : V} {outs : List (List V)} (hrun : forceH (iniH 15 xs) fun H => W Try.prog 15 (bodyOf Try.f121) H (EndsW 15 E [(6, 4, false)] xs (Q1 res outs))) (h : (okAs xs && Nat.ble xs.length 15) = true := by rfl) : F 121 xs res outs := ⟨e_spec_l2In, Fn.one Try.func121 rfl rfl E_ok rfl h hrun⟩
abbrev n_spec_l2LeaseOk : FuncId := 122
theorem e_spec_l2LeaseOk : Enters Try.prog 122 := ⟨Try.f122, Try.func122, by kernel_rfl, by kernel_rfl⟩
theorem i_spec_l2LeaseOk {xs : List A} {res : V} {outs : List (List V)} (hrun : forceH (iniH 5 xs) fun H => W Try.prog 5 (bodyOf Try.f122) H (EndsW 5 E [(2, 4, false)] xs (Q1 res outs))) (h : (okAs xs && Nat.ble xs.length 5) = true := by rfl) : F 122 xs res outs := ⟨e_spec_l2LeaseOk, Fn.one Try.func122 rfl rfl E_ok rfl h hrun⟩
abbrev n_spec_l2InputsOk : FuncId := 123
theorem e_spec_l2InputsOk : Enters Try.prog 123 := ⟨Try.f123, Try.func123, by kernel_rfl, by kernel_rfl⟩
theorem i_spec_l2InputsOk {xs : List A} {res : V} {outs : List (List V)} (hrun : forceH (iniH 19 xs) fun H => W Try.prog 19 (bodyOf Try.f123) H (EndsW 19 E [(2, 4, false)] xs (Q1 res outs))) (h : (okAs xs && Nat.ble xs.length 19) = true := by rfl) : F 123 xs res outs := ⟨e_spec_l2InputsOk, Fn.one Try.func123 rfl rfl E_ok rfl h hrun⟩
abbrev n_impl_within : FuncId := 124
theorem e_impl_within : Enters Try.prog 124 := ⟨Try.f124, Try.func124, by kernel_rfl, by kernel_rfl⟩
theorem i_impl_within {xs : List A} {res : V} {outs : List (List V)} (hrun : forceH (iniH 15 xs) fun H => W Try.prog 15 (bodyOf Try.f124) H (EndsW 15 E [(6, 4, false)] xs (Q1 res outs))) (h : (okAs xs && Nat.ble xs.length 15) = true := by rfl) : F 124 xs res outs := ⟨e_impl_within, Fn.one Try.func124 rfl rfl E_ok rfl h hrun⟩
abbrev n_impl_eights : FuncId := 125
theorem e_impl_eights : Enters Try.prog 125 := ⟨Try.f125, Try.func125, by kernel_rfl, by kernel_rfl⟩
theorem i_impl_eights {xs : List A} {res : V} {outs : List (List V)} (hrun : forceH (iniH 18 xs) fun H => W Try.prog 18 (bodyOf Try.f125) H (EndsW 18 E [(2, 4, false)] xs (Q1 res outs))) (h : (okAs xs && Nat.ble xs.length 18) = true := by rfl) : F 125 xs res outs := ⟨e_impl_eights, Fn.one Try.func125 rfl rfl E_ok rfl h hrun⟩
abbrev n_spec_l2Uses : FuncId := 149
theorem e_spec_l2Uses : Enters Try.prog 149 := ⟨Try.f149, Try.func149, by kernel_rfl, by kernel_rfl⟩
theorem i_spec_l2Uses {xs : List A} {res : V} {outs : List (List V)} (hrun : forceH (iniH 16 xs) fun H => W Try.prog 16 (bodyOf Try.f149) H (EndsW 16 E [(2, 4, false), (3, 4, false), (4, 4, false), (5, 4, false), (6, 4, false)] xs (Q1 res outs))) (h : (okAs xs && Nat.ble xs.length 16) = true := by rfl) : F 149 xs res outs := ⟨e_spec_l2Uses, Fn.one Try.func149 rfl rfl E_ok rfl h hrun⟩
end Go.K

end

section
set_option linter.unusedVariables false
set_option linter.unusedSimpArgs false
set_option maxHeartbeats 4000000
set_option maxRecDepth 20000
open Go Go.Tm Go.Proofs
namespace Go.K
structure Entry where
  kind : Int
  epoch : Int
  task : Int
  text : ByteArray
  deriving DecidableEq
abbrev entryV (k ep ta : Int) (tx : ByteArray) : V := .agg [.t (.i k), .t (.i ep), .t (.i ta), .t (.s tx)]
abbrev Entry.v (e : Entry) : V := entryV e.kind e.epoch e.task e.text
theorem c_impl_within (x lo hi : Int) : F n_impl_within [.val (.i x), .val (.i lo), .val (.i hi)] (.b (decide (lo ≤ x ∧ x ≤ hi))) [[], [], []] := by
  refine i_impl_within ?_
  conv => whnf
  refine g 0 0 [] ?_
  conv => whnf
  refine ⟨⟨I, I⟩, ?_⟩
  by_cases h1 : lo ≤ x
  refine g 7 15 [.b (true), .b (true), .b (true), .b (true)] ?_
  conv => whnf
  refine ⟨⟨I, I, I, I, ⟨decide_eq_true (by omega), I⟩, ⟨decide_eq_true (by omega), I⟩, ⟨decide_eq_true (by omega), I⟩, decide_eq_true (by omega), I, I⟩, ?_⟩
  refine W.ret ?_
  refine EndsW.rt ?_
  conv => whnf
  refine ⟨⟨I, I, I⟩, ?_, rfl⟩
  exact vbd (by omega)
  refine g 7 15 [.b (false), .b (false), .b (false), .b (false)] ?_
  conv => whnf
  refine ⟨⟨I, I, I, I, decide_eq_false (by omega), decide_eq_false (by omega), decide_eq_false (by omega), decide_eq_false (by omega), I, I⟩, ?_⟩
  refine W.ret ?_
  refine EndsW.rt ?_
  conv => whnf
  refine ⟨⟨I, I, I⟩, ?_, rfl⟩
  exact vbf (by omega)
theorem c_spec_l2In (x lo hi : Int) : F n_spec_l2In [.val (.i x), .val (.i lo), .val (.i hi)] (.b (decide (lo ≤ x ∧ x ≤ hi))) [[], [], []] := by
  refine i_spec_l2In ?_
  conv => whnf
  refine g 0 0 [] ?_
  conv => whnf
  refine ⟨⟨I, I⟩, ?_⟩
  by_cases h1 : lo ≤ x
  refine g 7 15 [.b (true), .b (true), .b (true), .b (true)] ?_
  conv => whnf
  refine ⟨⟨I, I, I, I, ⟨decide_eq_true (by omega), I⟩, ⟨decide_eq_true (by omega), I⟩, ⟨decide_eq_true (by omega), I⟩, decide_eq_true (by omega), I, I⟩, ?_⟩
  refine W.ret ?_
  refine EndsW.rt ?_
  conv => whnf
  refine ⟨⟨I, I, I⟩, ?_, rfl⟩
  exact vbd (by omega)
  refine g 7 15 [.b (false), .b (false), .b (false), .b (false)] ?_
  conv => whnf
  refine ⟨⟨I, I, I, I, decide_eq_false (by omega), decide_eq_false (by omega), decide_eq_false (by omega), decide_eq_false (by omega), I, I⟩, ?_⟩
  refine W.ret ?_
  refine EndsW.rt ?_
  conv => whnf
  refine ⟨⟨I, I, I⟩, ?_, rfl⟩
  exact vbf (by omega)
end Go.K

end

section
set_option linter.unusedVariables false
set_option linter.unusedSimpArgs false
set_option maxHeartbeats 4000000
set_option maxRecDepth 20000
open Go Go.Tm Go.Proofs
namespace Go.K
def Entry.ok (e : Entry) : Prop := (1 ≤ e.epoch ∧ e.epoch ≤ 300) ∧ (0 ≤ e.task ∧ e.task ≤ 39) ∧ ((e.kind = 1 ∧ e.task = 0 ∧ e.text = ⟨#[]⟩) ∨ (e.kind = 2 ∧ (e.text.size : Int) = 8))
instance (e : Entry) : Decidable e.ok := by unfold Entry.ok; infer_instance
abbrev emp : ByteArray := ⟨#[]⟩
def bl (l : List Int) : ByteArray := ⟨(l.map fun n => UInt8.ofNat n.toNat).toArray⟩
end Go.K

end

section
set_option linter.unusedVariables false
set_option linter.unusedSimpArgs false
set_option maxHeartbeats 4000000
set_option maxRecDepth 20000
open Go Go.Tm Go.Proofs
namespace Go.K
abbrev strT (s : ByteArray) : List T := [.s s]
abbrev strs (xs : List ByteArray) : T := .slc [false] (xs.map strT)
theorem c_laws_szStringS (xs : List ByteArray) (left : Int) (hl : xs.length ≤ 9223372036854775807) (hs : ∀ s ∈ xs, s.size ≤ 9223372036854775807) (h : left ≤ 1048576) (h0 : 0 ≤ left) :
    F n_laws_szStringS [.val (.t (strs xs)), .val (.i left)] (.i (if left - xs.length - totS xs < 0 then -1 else left - xs.length - totS xs)) [[], []] := by
  have hnn := totS_nn xs
  refine i_laws_szStringS ?_
  conv => whnf
  refine g 0 0 [] ?_
  conv => whnf
  refine ⟨⟨I, I⟩, ?_⟩
  refine g 6 10 [.i (left - (↑(List.length (List.map strT xs)) : Int))] ?_
  conv => whnf
  refine ⟨⟨I, I, I, w64 (by simp only [List.length_map, List.length_append, List.length_set, List.length_replicate, List.length_cons, List.length_nil, List.length_take, List.length_drop, fill_len, fillI_len, List.length_range, bytesT_len]; omega) (by simp only [List.length_map, List.length_append, List.length_set, List.length_replicate, List.length_cons, List.length_nil, List.length_take, List.length_drop, fill_len, fillI_len, List.length_range, bytesT_len]; omega), I, I⟩, ?_⟩
  refine W.sq ?_
  refine g 10 11 [] ?_
  conv => whnf
  refine ⟨⟨I, I, I⟩, ?_⟩
  refine W.cn ?_
  conv => whnf
  refine ⟨fun h1 => ?_, fun h1 => ?_⟩
  replace h1 := dt h1
  simp only [List.length_map] at h1
  refine g 11 12 [] ?_
  conv => whnf
  refine ⟨⟨I, I⟩, ?_⟩
  refine W.ret ?_
  refine EndsW.rt ?_
  conv => whnf
  refine ⟨⟨I, I, I⟩, ?_, rfl⟩
  exact vi (by omega)
  replace h1 := df h1
  simp only [List.length_map] at h1
  refine W.skip ?_
  refine W.sq ?_
  refine g 11 12 [] ?_
  conv => whnf
  refine ⟨⟨I, I⟩, ?_⟩
  refine W.blk ?_
  refine W.lp (fun s (n : Nat) => ⟨[(0, s.s 0), (1, .i (left - xs.length - totS (xs.take n))), (5, .i n)], [], []⟩) (fun (n : Nat) => n ≤ xs.length ∧ 0 ≤ left - xs.length - totS (xs.take n)) (fun (n : Nat) => xs.length - n) (0) [] [] ⟨rfl, ⟨rfl, (congrArg (fun z => V.t (T.v (Value.int _ z))) (by simp [totS])), rfl, I⟩, I, I⟩ ?_ ?_
  · simp [totS]; omega
  rintro n ⟨hn, hc⟩
  have hq := totS_nn (xs.take n)
  have hle := totS_le xs (n + 1)
  conv => whnf
  refine W.sq ?_
  refine g 12 15 [] ?_
  conv => whnf
  refine ⟨⟨I, I, I, I, I⟩, ?_⟩
  refine W.cn ?_
  conv => whnf
  refine ⟨fun h2 => ?_, fun h2 => ?_⟩
  replace h2 := dt h2
  simp only [List.length_map] at h2
  refine W.skip ?_
  refine W.sq ?_
  refine W.blk ?_
  obtain ⟨y1, hy1⟩ := some_at (xs := xs) (n := n) (by omega)
  have hm1 := hs y1 (List.mem_of_getElem? hy1)
  have hk1 := totS_take hy1
  refine g 15 25 [.x (strT y1), .i (left - (↑(List.length xs) : Int) - totS (List.take n xs) - (↑(ByteArray.size y1) : Int))] ?_
  conv => whnf
  refine ⟨⟨I, I, I, ⟨(by omega), ixl (by assumption)⟩, I, I, w64 (by omega) (by omega), I, I⟩, ?_⟩
  refine g 25 26 [] ?_
  conv => whnf
  refine ⟨⟨I, I, I⟩, ?_⟩
  refine W.cn ?_
  conv => whnf
  refine ⟨fun h3 => ?_, fun h3 => ?_⟩
  replace h3 := dt h3
  refine g 26 27 [] ?_
  conv => whnf
  refine ⟨⟨I, I⟩, ?_⟩
  refine W.ret ?_
  refine EndsW.rt ?_
  conv => whnf
  refine ⟨⟨I, I, I⟩, ?_, rfl⟩
  exact vi (by omega)
  replace h3 := df h3
  refine W.skip ?_
  refine rg [.i ((↑n : Int) + (1 : Int))] ?_
  conv => whnf
  refine ⟨⟨I, w64 (by omega) (by omega), I, I⟩, ?_⟩
  rotate_left 1
  replace h2 := df h2
  simp only [List.length_map] at h2
  refine W.exit ?_
  refine g 5 28 [] ?_
  conv => whnf
  refine ⟨⟨I, I, I⟩, ?_⟩
  refine W.ret ?_
  refine EndsW.rt ?_
  conv => whnf
  refine ⟨⟨I, I, I⟩, ?_, rfl⟩
  rotate_left 1
  · refine ⟨n + 1, [], [], ⟨rfl, ⟨rfl, (congrArg (fun z => V.t (T.v (Value.int _ z))) (by rw [totS_take (by assumption)]; omega)), rfl, I⟩, I, I⟩, ?_, ?_⟩
    rotate_left 1
    (dsimp only; omega)
    dsimp only
    omega
  · have e : xs.take n = xs := List.take_of_length_le (by omega)
    rw [e] at hc ⊢
    exact vi (by split <;> omega)
theorem c_laws_toStringS (xs : List ByteArray) (hl : xs.length ≤ 1048576) : F n_laws_toStringS [.val (.t (strs xs))] (.own [false] (xs.map strT)) [[]] := by
  refine i_laws_toStringS ?_
  conv => whnf
  refine g 0 0 [] ?_
  conv => whnf
  refine ⟨⟨I, I⟩, ?_⟩
  refine g 5 8 [.n (List.length (List.map strT xs))] ?_
  conv => whnf
  refine ⟨⟨I, I, ⟨rfl, rfl, (by simp only [List.length_map, List.length_append, List.length_set, List.length_replicate, List.length_cons, List.length_nil, List.length_take, List.length_drop, fill_len, fillI_len, List.length_range, bytesT_len]; omega)⟩, I, I⟩, ?_⟩
  refine W.sq ?_
  refine g 0 0 [] ?_
  conv => whnf
  refine ⟨⟨I, I⟩, ?_⟩
  refine W.blk ?_
  refine W.lp (fun s (n : Nat) => ⟨[(0, s.s 0), (2, s.s 2), (3, s.s 3), (4, .i n)], [(7, [.own [false] (fill strT (strT emp) xs n)])], []⟩) (fun (n : Nat) => n ≤ xs.length) (fun (n : Nat) => xs.length - n) (0) [some 7] [] ⟨rfl, ⟨rfl, rfl, rfl, rfl, I⟩, ⟨⟨rfl, ⟨(congrArg (V.own _) (fill_zero' (by simp) rfl)), I⟩⟩, I⟩, I⟩ (by omega) ?_
  intro n hn
  conv => whnf
  refine W.sq ?_
  refine g 8 11 [] ?_
  conv => whnf
  refine ⟨⟨I, I, I, I, I⟩, ?_⟩
  refine W.cn ?_
  conv => whnf
  refine ⟨fun h1 => ?_, fun h1 => ?_⟩
  replace h1 := dt h1
  simp only [List.length_map] at h1
  refine W.skip ?_
  refine W.sq ?_
  refine W.blk ?_
  obtain ⟨y1, hy1⟩ := some_at (xs := xs) (n := n) (by omega)
  refine rg [.x (strT y1), .n (n), .x (strT emp)] ?_
  conv => whnf
  refine ⟨⟨I, I, I, I, ⟨(by omega), ixl (by assumption)⟩, I, ⟨rfl, (by simp only [List.length_map, List.length_append, List.length_set, List.length_replicate, List.length_cons, List.length_nil, List.length_take, List.length_drop, fill_len, fillI_len, List.length_range, bytesT_len]; omega)⟩, ⟨⟨I, I⟩, fill_get (by omega)⟩, I⟩, ?_⟩
  refine rg [.i ((↑n : Int) + (1 : Int))] ?_
  conv => whnf
  refine ⟨⟨I, w64 (by omega) (by omega), I, I⟩, ?_⟩
  rotate_left 1
  replace h1 := df h1
  simp only [List.length_map] at h1
  refine W.exit ?_
  refine g 3 22 [] ?_
  conv => whnf
  refine ⟨⟨I, I, I⟩, ?_⟩
  refine W.ret ?_
  refine EndsW.rt ?_
  conv => whnf
  refine ⟨⟨I, I, I⟩, ?_, rfl⟩
  rotate_left 1
  · refine ⟨n + 1, [some 7], [], ⟨rfl, ⟨rfl, rfl, rfl, rfl, I⟩, ⟨⟨rfl, ⟨(congrArg (V.own _) (fill_set (by assumption))), I⟩⟩, I⟩, I⟩, ?_, ?_⟩
    rotate_left 1
    (dsimp only; omega)
    dsimp only
    omega
  · have e : fill strT (strT emp) xs n = xs.map strT := fill_all _ _ _ (by omega)
    rw [← e]
theorem c_laws_eqStringS (xs ys : List ByteArray) (hl : xs.length ≤ 9223372036854775806) : F n_laws_eqStringS [.val (.t (strs xs)), .val (.t (strs ys))] (.b (decide (xs = ys))) [[], []] := by
  refine i_laws_eqStringS ?_
  conv => whnf
  refine g 0 0 [] ?_
  conv => whnf
  refine ⟨⟨I, I⟩, ?_⟩
  refine W.sq ?_
  refine g 6 10 [] ?_
  conv => whnf
  refine ⟨⟨I, I, I, I, I, I⟩, ?_⟩
  refine W.cn ?_
  conv => whnf
  refine ⟨fun h1 => ?_, fun h1 => ?_⟩
  replace h1 := ndt h1
  simp only [List.length_map] at h1
  refine g 10 11 [] ?_
  conv => whnf
  refine ⟨⟨I, I⟩, ?_⟩
  refine W.ret ?_
  refine EndsW.rt ?_
  conv => whnf
  refine ⟨⟨I, I, I⟩, ?_, rfl⟩
  rotate_left 1
  replace h1 := ndf h1
  simp only [List.length_map] at h1
  refine W.skip ?_
  refine W.sq ?_
  refine g 10 11 [] ?_
  conv => whnf
  refine ⟨⟨I, I⟩, ?_⟩
  refine W.blk ?_
  rotate_left 1
  · exact vbf (fun e => h1 (by rw [e]))
  refine W.lp (fun s (n : Nat) => ⟨[(0, s.s 0), (1, s.s 1), (5, .i n)], [], []⟩) (fun (n : Nat) => n ≤ xs.length ∧ xs.take n = ys.take n) (fun (n : Nat) => xs.length - n) (0) [] [] ⟨rfl, ⟨rfl, rfl, rfl, I⟩, I, I⟩ (by simp) ?_
  rintro n ⟨hn, hc⟩
  conv => whnf
  refine W.sq ?_
  refine g 11 14 [] ?_
  conv => whnf
  refine ⟨⟨I, I, I, I, I⟩, ?_⟩
  refine W.cn ?_
  conv => whnf
  refine ⟨fun h2 => ?_, fun h2 => ?_⟩
  replace h2 := dt h2
  simp only [List.length_map] at h2
  refine W.skip ?_
  refine W.sq ?_
  refine W.blk ?_
  obtain ⟨y1, hy1⟩ := some_at (xs := xs) (n := n) (by omega)
  obtain ⟨y2, hy2⟩ := some_at (xs := ys) (n := n) (by omega)
  refine gd 14 25 [[], [], [.x (strT y1)], [], [], [], [.x (strT y2)], [], []] ?_
  conv => whnf
  refine ⟨⟨I, I, ⟨(by omega), ixl (by assumption)⟩, I, I, I, ⟨(by omega), ixl (by assumption)⟩, I, I, I⟩, by kernel_rfl, ?_⟩
  refine W.cn ?_
  conv => whnf
  refine ⟨fun h3 => ?_, fun h3 => ?_⟩
  replace h3 := ndt h3
  refine g 25 26 [] ?_
  conv => whnf
  refine ⟨⟨I, I⟩, ?_⟩
  refine W.ret ?_
  refine EndsW.rt ?_
  conv => whnf
  refine ⟨⟨I, I, I⟩, ?_, rfl⟩
  rotate_left 1
  replace h3 := ndf h3
  refine W.skip ?_
  refine rg [.i ((↑n : Int) + (1 : Int))] ?_
  conv => whnf
  refine ⟨⟨I, w64 (by omega) (by omega), I, I⟩, ?_⟩
  rotate_left 1
  replace h2 := df h2
  simp only [List.length_map] at h2
  refine W.exit ?_
  refine g 0 2 [] ?_
  conv => whnf
  refine ⟨⟨I, I⟩, ?_⟩
  refine W.ret ?_
  refine EndsW.rt ?_
  conv => whnf
  refine ⟨⟨I, I, I⟩, ?_, rfl⟩
  rotate_left 1
  · exact vbf (fun e => by subst e; rw [hy1] at hy2; cases hy2; exact h3 rfl)
  · refine ⟨n + 1, [], [], ⟨rfl, ⟨rfl, rfl, rfl, I⟩, I, I⟩, ?_, ?_⟩
    rotate_left 1
    (dsimp only; omega)
    dsimp only
    exact ⟨by omega, by rw [List.take_add_one, List.take_add_one, hy1, hy2, hc, h3]⟩
  · exact vbt (by rw [List.take_of_length_le (by omega), List.take_of_length_le (by omega)] at hc; exact hc)
end Go.K

end

section
set_option linter.unusedVariables false
set_option linter.unusedSimpArgs false
set_option maxHeartbeats 4000000
set_option maxRecDepth 20000
open Go Go.Tm Go.Proofs
namespace Go.K
abbrev u8v (n : Int) : V := .t (.v (.int .u64 n))
def fnv (v : Int) (c : UInt8) : Int := IntKind.u64.wrap (IntKind.u64.wrap (BitVec.ofInt IntKind.u64.bits v ^^^ BitVec.ofInt IntKind.u64.bits (c.toNat : Int)).toNat * 1099511628211)
def fnvs (v : Int) (s : ByteArray) (n : Nat) : Int := (s.data.toList.take n).foldl fnv v
theorem ba_get {s : ByteArray} {n : Nat} {c : UInt8} (h : s[n]? = some c) : s.data.toList[n]? = some c := by
  by_cases hn : n < s.size
  · rw [getElem?_pos s n hn] at h
    have hd : n < s.data.toList.length := by simpa using hn
    rw [List.getElem?_eq_getElem hd]
    rw [← h]; simp; rfl
  · rw [getElem?_neg s n hn] at h; cases h
theorem fnvs_succ {v : Int} {s : ByteArray} {n : Nat} {c : UInt8} (h : s[n]? = some c) : fnvs v s (n + 1) = fnv (fnvs v s n) c := by
  unfold fnvs
  rw [List.take_add_one, ba_get h, List.foldl_append]; rfl
theorem fnv_bd (v : Int) (c : UInt8) : 0 ≤ fnv v c ∧ fnv v c ≤ 18446744073709551615 := u64_bd _
theorem fold_bd : ∀ (l : List UInt8) (v : Int), 0 ≤ v ∧ v ≤ 18446744073709551615 → 0 ≤ l.foldl fnv v ∧ l.foldl fnv v ≤ 18446744073709551615
  | [], _, h => h
  | c :: l, v, _ => fold_bd l (fnv v c) (fnv_bd v c)
theorem c_impl_hash_bytes (v : Int) (tx : ByteArray) (hs : tx.size ≤ 9223372036854775807) : F n_impl_hash_bytes [.ptr [u8v v], .val (.s tx)] (.tup []) [[u8v (fnvs v tx tx.size)], []] := by
  refine i_impl_hash_bytes ?_
  conv => whnf
  refine g 0 0 [] ?_
  conv => whnf
  refine ⟨⟨I, I⟩, ?_⟩
  refine W.blk ?_
  refine W.lp (fun s (n : Nat) => ⟨[(0, s.s 0), (1, s.s 1), (4, .i n)], [(22, [u8v (fnvs v tx n)])], []⟩) (fun (n : Nat) => n ≤ tx.size) (fun (n : Nat) => tx.size - n) (0) [some 22] [] ⟨rfl, ⟨rfl, rfl, rfl, I⟩, ⟨⟨rfl, ⟨rfl, I⟩⟩, I⟩, I⟩ (by omega) ?_
  intro n hn
  conv => whnf
  refine W.sq ?_
  refine g 5 8 [] ?_
  conv => whnf
  refine ⟨⟨I, I, I, I, I⟩, ?_⟩
  refine W.cn ?_
  conv => whnf
  refine ⟨fun h1 => ?_, fun h1 => ?_⟩
  replace h1 := dt h1
  refine W.skip ?_
  refine W.sq ?_
  refine W.blk ?_
  obtain ⟨y1, hy1, hb1⟩ := byte_at (s := tx) (n := n) (by omega)
  refine rgd [[], [], [], [], [], [], [.i ((↑(UInt8.toNat y1) : Int))], [.i ((↑(UInt8.toNat y1) : Int))], [.i (IntKind.wrap IntKind.u64 (↑(BitVec.toNat (BitVec.ofInt (IntKind.bits IntKind.u64) (fnvs v tx n) ^^^ BitVec.ofInt (IntKind.bits IntKind.u64) (↑(UInt8.toNat y1) : Int))) : Int))], [.i (IntKind.wrap IntKind.u64 (IntKind.wrap IntKind.u64 (↑(BitVec.toNat (BitVec.ofInt (IntKind.bits IntKind.u64) (fnvs v tx n) ^^^ BitVec.ofInt (IntKind.bits IntKind.u64) (↑(UInt8.toNat y1) : Int))) : Int) * (1099511628211 : Int)))], [], []] ?_
  conv => whnf
  refine ⟨⟨I, I, I, I, I, I, ⟨(by omega), ixb (by assumption)⟩, w8u _, rfl, rfl, I, ⟨I, I⟩, I⟩, by kernel_rfl, ?_⟩
  refine rg [.i ((↑n : Int) + (1 : Int))] ?_
  conv => whnf
  refine ⟨⟨I, w64 (by omega) (by omega), I, I⟩, ?_⟩
  rotate_left 1
  replace h1 := df h1
  refine W.exit ?_
  refine EndsW.nm ?_
  conv => whnf
  refine ⟨I, ?_, ?_⟩
  rfl
  rotate_left 1
  · refine ⟨n + 1, [some 22], [], ⟨rfl, ⟨rfl, rfl, rfl, I⟩, ⟨⟨rfl, ⟨(congrArg (fun z => V.t (T.v (Value.int _ z))) (fnvs_succ (by assumption)).symm), I⟩⟩, I⟩, I⟩, ?_, ?_⟩
    rotate_left 1
    (dsimp only; omega)
    dsimp only
    omega
  · rw [show n = tx.size from by omega]
/-- The bytes of a number, the greatest first. -/
def beL (v : Int) : Nat → List Int
  | 0 => []
  | n + 1 => (v / 256 ^ n % 256) :: beL v n
abbrev b1T (n : Int) : List T := [.v (.int .u8 n)]
theorem beL_len (v : Int) : ∀ n, (beL v n).length = n
  | 0 => rfl
  | n + 1 => by simp [beL, beL_len v n]
theorem beL_get (v : Int) : ∀ n i, i < n → (beL v n)[i]? = some (v / 256 ^ (n - 1 - i) % 256)
  | 0, _, h => by omega
  | n + 1, 0, _ => by simp [beL]
  | n + 1, i + 1, h => by
    simp only [beL, List.getElem?_cons_succ]
    rw [beL_get v n i (by omega)]
    congr 3
    congr 1
    omega
theorem text_set {v : Int} {n : Nat} (h0 : 0 ≤ v) (hn : n < 8) : (fill b1T (b1T 0) (beL v 8) n).set n (b1T (IntKind.u8.wrap (v.fdiv (2 ^ min (56 - 8 * (n : Int)).toNat IntKind.u64.bits)))) = fill b1T (b1T 0) (beL v 8) (n + 1) := by
  have e : IntKind.u8.wrap (v.fdiv (2 ^ min (56 - 8 * (n : Int)).toNat IntKind.u64.bits)) = v / 256 ^ (8 - 1 - n) % 256 := by
    rw [Int.fdiv_eq_ediv_of_nonneg _ (by exact Int.le_of_lt (Int.pow_pos (by decide)))]
    have : n = 0 ∨ n = 1 ∨ n = 2 ∨ n = 3 ∨ n = 4 ∨ n = 5 ∨ n = 6 ∨ n = 7 := by omega
    rcases this with rfl | rfl | rfl | rfl | rfl | rfl | rfl | rfl <;> simp [IntKind.wrap, IntKind.bits, IntKind.signed]
  rw [e]
  exact fill_set (beL_get v 8 n hn)
theorem bytes_b1 (l : List Int) : (⟨(bytesOf (l.map b1T)).toArray⟩ : ByteArray) = bl l := by
  simp [bytesOf, bl, b1T, Function.comp_def]
theorem c_impl_hash_text (v : Int) (h0 : 0 ≤ v) (h1 : v ≤ 18446744073709551615) : F n_impl_hash_text [.val (u8v v)] (.s (bl (beL v 8))) [[]] := by
  have hx := beL_len v 8
  refine i_impl_hash_text ?_
  conv => whnf
  refine g 0 0 [] ?_
  conv => whnf
  refine ⟨⟨I, I⟩, ?_⟩
  refine g 5 6 [.n ((8 : Nat))] ?_
  conv => whnf
  refine ⟨⟨⟨rfl, rfl, (by simp only [List.length_map, List.length_append, List.length_set, List.length_replicate, List.length_cons, List.length_nil, List.length_take, List.length_drop, fill_len, fillI_len, List.length_range, bytesT_len]; omega)⟩, I, I⟩, ?_⟩
  refine W.sq ?_
  refine g 6 7 [] ?_
  conv => whnf
  refine ⟨⟨I, I, I, I⟩, ?_⟩
  refine W.blk ?_
  refine W.lp (fun s (n : Nat) => ⟨[(0, s.s 0), (2, s.s 2), (3, s.s 3), (7, s.s 7), (8, .i n)], [(5, [.own [false] (fill b1T (b1T 0) (beL v 8) n)])], []⟩) (fun (n : Nat) => n ≤ 8) (fun (n : Nat) => 8 - n) (0) [some 5] [] ⟨rfl, ⟨rfl, rfl, rfl, rfl, rfl, I⟩, ⟨⟨rfl, ⟨rfl, I⟩⟩, I⟩, I⟩ (by omega) ?_
  intro n hn
  conv => whnf
  refine g 0 0 [] ?_
  conv => whnf
  refine ⟨⟨I, I⟩, ?_⟩
  refine W.sq ?_
  refine W.cn ?_
  conv => whnf
  refine ⟨fun h2 => ?_, fun h2 => ?_⟩
  replace h2 := dt h2
  simp only [List.length_map] at h2
  simp only [List.length_map, List.length_append, List.length_set, List.length_replicate, List.length_cons, List.length_nil, List.length_take, List.length_drop, fill_len, fillI_len, List.length_range, bytesT_len] at h2
  refine W.skip ?_
  refine W.sq ?_
  refine W.blk ?_
  refine g 10 11 [] ?_
  conv => whnf
  refine ⟨⟨I, I, I⟩, ?_⟩
  refine rg [.i ((8 : Int) * (↑n : Int)), .i ((56 : Int) - (8 : Int) * (↑n : Int)), .i (Int.fdiv v ((2 : Int) ^ min (Int.toNat ((56 : Int) - (8 : Int) * (↑n : Int))) (IntKind.bits IntKind.u64))), .i (IntKind.wrap IntKind.u8 (Int.fdiv v ((2 : Int) ^ min (Int.toNat ((56 : Int) - (8 : Int) * (↑n : Int))) (IntKind.bits IntKind.u64)))), .n (n), .x (b1T (0 : Int))] ?_
  conv => whnf
  refine ⟨⟨I, I, I, I, w64 (by omega) (by omega), w64 (by omega) (by omega), ⟨(by omega), rfl⟩, rfl, ⟨rfl, (by simp only [List.length_map, List.length_append, List.length_set, List.length_replicate, List.length_cons, List.length_nil, List.length_take, List.length_drop, fill_len, fillI_len, List.length_range, bytesT_len]; omega)⟩, ⟨⟨I, I⟩, fill_get (by omega)⟩, I⟩, ?_⟩
  refine rg [.i ((↑n : Int) + (1 : Int))] ?_
  conv => whnf
  refine ⟨⟨w64 (by omega) (by omega), I, I⟩, ?_⟩
  rotate_left 1
  replace h2 := df h2
  simp only [List.length_map] at h2
  simp only [List.length_map, List.length_append, List.length_set, List.length_replicate, List.length_cons, List.length_nil, List.length_take, List.length_drop, fill_len, fillI_len, List.length_range, bytesT_len] at h2
  refine W.exit ?_
  refine g 3 9 [.s ({ data := List.toArray (bytesOf (fill b1T (b1T (0 : Int)) (beL v (8 : Nat)) n)) : ByteArray })] ?_
  conv => whnf
  refine ⟨⟨I, ⟨I, allU8_fill, rfl⟩, I, I⟩, ?_⟩
  refine W.ret ?_
  refine EndsW.rt ?_
  conv => whnf
  refine ⟨⟨I, I, I⟩, ?_, rfl⟩
  rotate_left 1
  · refine ⟨n + 1, [some 5], [], ⟨rfl, ⟨rfl, rfl, rfl, rfl, rfl, I⟩, ⟨⟨rfl, ⟨(congrArg (V.own _) (text_set h0 (by omega))), I⟩⟩, I⟩, I⟩, ?_, ?_⟩
    rotate_left 1
    (dsimp only; omega)
    dsimp only
    omega
  · rw [fill_all _ _ _ (by omega)]
    exact vs (bytes_b1 _)
theorem sum_step {v : Int} {n : Nat} (h0 : 0 ≤ v) : [b1T (IntKind.u8.wrap ((v / 256 ^ n).tmod 256))] ++ (beL v n).map b1T = (beL v (n + 1)).map b1T := by
  have h1 : 0 ≤ v / 256 ^ n := Int.ediv_nonneg h0 (Int.le_of_lt (Int.pow_pos (by decide)))
  rw [Int.tmod_eq_emod_of_nonneg h1]
  have h2 : IntKind.u8.wrap (v / 256 ^ n % 256) = v / 256 ^ n % 256 := wu8 (by omega) (by omega)
  rw [h2]; rfl
theorem sum_div {v : Int} {n : Nat} (h0 : 0 ≤ v) (h2 : v ≤ 18446744073709551615) : IntKind.u64.wrap ((v / 256 ^ n).tdiv 256) = v / 256 ^ (n + 1) := by
  have h1 : 0 ≤ v / 256 ^ n := Int.ediv_nonneg h0 (Int.le_of_lt (Int.pow_pos (by decide)))
  have h3 : v / 256 ^ n ≤ v := Int.ediv_le_self _ h0
  rw [Int.tdiv_eq_ediv_of_nonneg h1, wu64 (by omega) (by omega), Int.ediv_ediv_of_nonneg (Int.le_of_lt (Int.pow_pos (by decide))), Int.pow_succ]
def h0v : Int := 14695981039346656037
theorem c_spec_l1Sum (tx : ByteArray) (ht : tx.size ≤ 9223372036854775807) : F n_spec_l1Sum [.val (.s tx)] (.s (bl (beL (fnvs h0v tx tx.size) 8))) [[]] := by
  refine i_spec_l1Sum ?_
  conv => whnf
  refine g 0 0 [] ?_
  conv => whnf
  refine ⟨⟨I, I⟩, ?_⟩
  refine g 0 0 [] ?_
  conv => whnf
  refine ⟨⟨I, I⟩, ?_⟩
  refine W.sq ?_
  refine g 0 0 [] ?_
  conv => whnf
  refine ⟨⟨I, I⟩, ?_⟩
  refine W.blk ?_
  refine W.lp (fun s (n : Nat) => ⟨[(0, s.s 0), (2, s.s 2), (3, u8v (fnvs h0v tx n)), (4, .i n)], [], []⟩) (fun (n : Nat) => n ≤ tx.size) (fun (n : Nat) => tx.size - n) (0) [] [] ⟨rfl, ⟨rfl, rfl, rfl, rfl, I⟩, I, I⟩ (by omega) ?_
  intro n hn
  conv => whnf
  refine W.sq ?_
  refine g 7 9 [] ?_
  conv => whnf
  refine ⟨⟨I, I, I, I, I⟩, ?_⟩
  refine W.cn ?_
  conv => whnf
  refine ⟨fun h1 => ?_, fun h1 => ?_⟩
  replace h1 := dt h1
  refine W.skip ?_
  refine W.sq ?_
  refine W.blk ?_
  obtain ⟨y1, hy1, hb1⟩ := byte_at (s := tx) (n := n) (by omega)
  refine rg [.i ((↑(UInt8.toNat y1) : Int)), .i ((↑(UInt8.toNat y1) : Int)), .i (IntKind.wrap IntKind.u64 (↑(BitVec.toNat (BitVec.ofInt (IntKind.bits IntKind.u64) (fnvs h0v tx n) ^^^ BitVec.ofInt (IntKind.bits IntKind.u64) (↑(UInt8.toNat y1) : Int))) : Int)), .i (IntKind.wrap IntKind.u64 (IntKind.wrap IntKind.u64 (↑(BitVec.toNat (BitVec.ofInt (IntKind.bits IntKind.u64) (fnvs h0v tx n) ^^^ BitVec.ofInt (IntKind.bits IntKind.u64) (↑(UInt8.toNat y1) : Int))) : Int) * (1099511628211 : Int)))] ?_
  conv => whnf
  refine ⟨⟨I, I, I, ⟨(by omega), ixb (by assumption)⟩, w8u _, rfl, rfl, I, I⟩, ?_⟩
  refine rg [.i ((↑n : Int) + (1 : Int))] ?_
  conv => whnf
  refine ⟨⟨I, w64 (by omega) (by omega), I, I⟩, ?_⟩
  rotate_left 1
  replace h1 := df h1
  refine W.exit ?_
  refine g 10 21 [] ?_
  conv => whnf
  refine ⟨⟨I, I, I⟩, ?_⟩
  refine W.sq ?_
  refine g 4 5 [] ?_
  conv => whnf
  refine ⟨⟨I, I⟩, ?_⟩
  refine W.blk ?_
  rotate_left 1
  · refine ⟨n + 1, [], [], ⟨rfl, ⟨rfl, rfl, (congrArg (fun z => V.t (T.v (Value.int _ z))) (fnvs_succ (by assumption)).symm), rfl, I⟩, I, I⟩, ?_, ?_⟩
    rotate_left 1
    (dsimp only; omega)
    dsimp only
    omega
  have e : n = tx.size := by omega
  subst e
  have hb : 0 ≤ fnvs h0v tx tx.size ∧ fnvs h0v tx tx.size ≤ 18446744073709551615 := fold_bd _ _ (by unfold h0v; omega)
  generalize fnvs h0v tx tx.size = v at hb ⊢
  obtain ⟨hb0, hb1⟩ := hb
  refine W.lp (fun s (n : Nat) => ⟨[(0, s.s 0), (2, s.s 2), (3, u8v (v / 256 ^ n)), (5, .ref ⟨5, none, 0⟩), (6, .i n), (9, s.s 9)], [(5, [.own [false] ((beL v n).map b1T)])], []⟩) (fun (n : Nat) => n ≤ 8) (fun (n : Nat) => 8 - n) (0) [some 20] [] ⟨rfl, ⟨rfl, rfl, (congrArg (fun z => V.t (T.v (Value.int _ z))) (by omega)), rfl, rfl, rfl, I⟩, ⟨⟨rfl, ⟨rfl, I⟩⟩, I⟩, I⟩ (by omega) ?_
  intro n hn2
  have hx := beL_len v n
  conv => whnf
  refine W.sq ?_
  refine g 21 22 [] ?_
  conv => whnf
  refine ⟨⟨I, I, I⟩, ?_⟩
  refine W.cn ?_
  conv => whnf
  refine ⟨fun h2 => ?_, fun h2 => ?_⟩
  replace h2 := dt h2
  refine W.skip ?_
  refine W.sq ?_
  refine W.blk ?_
  refine g 22 31 [.i (Int.tmod (v / (256 : Int) ^ n) (256 : Int)), .i (IntKind.wrap IntKind.u8 (Int.tmod (v / (256 : Int) ^ n) (256 : Int)))] ?_
  conv => whnf
  refine ⟨⟨I, ⟨(by omega), rfl⟩, rfl, ⟨⟨I, I⟩, I⟩, I, ⟨I, I, (by simp only [List.length_map, List.length_append, List.length_set, List.length_replicate, List.length_cons, List.length_nil, List.length_take, List.length_drop, fill_len, fillI_len, List.length_range, bytesT_len]; omega)⟩, I, I⟩, ?_⟩
  refine rg [.i (IntKind.wrap IntKind.u64 (Int.tdiv (v / (256 : Int) ^ n) (256 : Int)))] ?_
  conv => whnf
  refine ⟨⟨I, ⟨(by omega), rfl⟩, I, I⟩, ?_⟩
  refine rg [.i ((↑n : Int) + (1 : Int))] ?_
  conv => whnf
  refine ⟨⟨I, w64 (by omega) (by omega), I, I⟩, ?_⟩
  rotate_left 1
  replace h2 := df h2
  refine W.exit ?_
  refine g 3 7 [.s ({ data := List.toArray (bytesOf (List.map b1T (beL v n))) : ByteArray })] ?_
  conv => whnf
  refine ⟨⟨I, ⟨I, allU8_map, rfl⟩, I, I⟩, ?_⟩
  refine W.ret ?_
  refine EndsW.rt ?_
  conv => whnf
  refine ⟨⟨I, I, I⟩, ?_, rfl⟩
  rotate_left 1
  · refine ⟨n + 1, [some 30], [], ⟨rfl, ⟨rfl, rfl, (congrArg (fun z => V.t (T.v (Value.int _ z))) (sum_div hb0 hb1)), rfl, rfl, rfl, I⟩, ⟨⟨rfl, ⟨(congrArg (V.own _) (sum_step hb0)), I⟩⟩, I⟩, I⟩, ?_, ?_⟩
    rotate_left 1
    (dsimp only; omega)
    dsimp only
    omega
  · rw [show n = 8 from by omega]
    exact vs (bytes_b1 _)
def fnvA (v : Int) (s : ByteArray) : Int := s.data.toList.foldl fnv v
theorem fnvs_all (v : Int) (s : ByteArray) : fnvs v s s.size = fnvA v s := by
  unfold fnvs fnvA; rw [List.take_of_length_le (by simp)]
theorem fnvA_app (v : Int) (a b : ByteArray) : fnvA v (a ++ b) = fnvA (fnvA v a) b := by
  simp [fnvA, ByteArray.data_append, List.foldl_append]
theorem fnvA_bd (s : ByteArray) : 0 ≤ fnvA h0v s ∧ fnvA h0v s ≤ 18446744073709551615 := fold_bd _ _ (by unfold h0v; omega)
end Go.K
end

section
set_option linter.unusedVariables false
set_option linter.unusedSimpArgs false
set_option maxHeartbeats 4000000
set_option maxRecDepth 20000
open Go Go.Tm Go.Proofs
namespace Go.K
theorem map_of {α β : Type} {f : α → β} {p : α → Prop} : ∀ {xs : List β}, (∀ y ∈ xs, ∃ s, y = f s ∧ p s) → ∃ ys : List α, xs = ys.map f ∧ ∀ s ∈ ys, p s
  | [], _ => ⟨[], rfl, fun _ h => by cases h⟩
  | y :: xs, h => by
    obtain ⟨s, rfl, hp⟩ := h y (.head _)
    obtain ⟨ys, rfl, hq⟩ := map_of fun z hz => h z (.tail _ hz)
    exact ⟨s :: ys, rfl, fun z hz => by rcases List.mem_cons.1 hz with rfl | hz; exact hp; exact hq z hz⟩
theorem wf_strs {n : Nat} {xs : List (List T)} (h : ∀ y ∈ xs, wfT E (n + 1) 9 y) : ∃ ys : List ByteArray, xs = ys.map strT ∧ ∀ s ∈ ys, s.size ≤ 9223372036854775807 := map_of (p := fun s : ByteArray => s.size ≤ 9223372036854775807) fun y hy => h y hy
end Go.K

end

section
set_option linter.unusedVariables false
set_option linter.unusedSimpArgs false
set_option maxHeartbeats 4000000
set_option maxRecDepth 20000
open Go Go.Tm Go.Proofs
namespace Go.K
structure Parcel where
  kind : Int
  frm : ByteArray
  text : ByteArray
  deriving DecidableEq
abbrev parV (k : Int) (a b : ByteArray) : V := .agg [.t (.i k), .t (.s a), .t (.s b)]
abbrev parT (p : Parcel) : List T := [.i p.kind, .s p.frm, .s p.text]
abbrev pkd : List Bool := [false, false, false]
abbrev pars (xs : List Parcel) : T := .slc pkd (xs.map parT)
abbrev noP : Parcel := ⟨0, emp, emp⟩
theorem c_laws_szParcel (k : Int) (a b : ByteArray) (left : Int) (h : left ≤ 1048576) (h0 : 0 ≤ left) (ha : a.size ≤ 9223372036854775807) (hb : b.size ≤ 9223372036854775807) : F n_laws_szParcel [.val (parV k a b), .val (.i left)] (.i (if left - a.size - b.size < 0 then -1 else left - a.size - b.size)) [[], []] := by
  refine i_laws_szParcel ?_
  conv => whnf
  refine g 0 1 [] ?_
  conv => whnf
  refine ⟨⟨⟨I, I, I, I⟩, I, I⟩, ?_⟩
  refine g 5 10 [.i (left - (↑(ByteArray.size a) : Int))] ?_
  conv => whnf
  refine ⟨⟨I, I, I, I, w64 (by omega) (by omega), I, I⟩, ?_⟩
  refine W.sq ?_
  refine g 10 11 [] ?_
  conv => whnf
  refine ⟨⟨I, I, I⟩, ?_⟩
  refine W.cn ?_
  conv => whnf
  refine ⟨fun h1 => ?_, fun h1 => ?_⟩
  replace h1 := dt h1
  refine g 11 12 [] ?_
  conv => whnf
  refine ⟨⟨I, I⟩, ?_⟩
  refine W.ret ?_
  refine EndsW.rt ?_
  conv => whnf
  refine ⟨⟨I, I, I⟩, ?_, rfl⟩
  exact vi (by omega)
  replace h1 := df h1
  refine W.skip ?_
  refine g 11 17 [.i (left - (↑(ByteArray.size a) : Int) - (↑(ByteArray.size b) : Int))] ?_
  conv => whnf
  refine ⟨⟨I, I, I, I, w64 (by omega) (by omega), I, I⟩, ?_⟩
  refine W.sq ?_
  refine g 2 3 [] ?_
  conv => whnf
  refine ⟨⟨I, I, I⟩, ?_⟩
  refine W.cn ?_
  conv => whnf
  refine ⟨fun h2 => ?_, fun h2 => ?_⟩
  replace h2 := dt h2
  refine g 17 19 [] ?_
  conv => whnf
  refine ⟨⟨I, I⟩, ?_⟩
  refine W.ret ?_
  refine EndsW.rt ?_
  conv => whnf
  refine ⟨⟨I, I, I⟩, ?_, rfl⟩
  exact vi (by omega)
  replace h2 := df h2
  refine W.skip ?_
  refine g 17 20 [] ?_
  conv => whnf
  refine ⟨⟨I, I, I⟩, ?_⟩
  refine W.ret ?_
  refine EndsW.rt ?_
  conv => whnf
  refine ⟨⟨I, I, I⟩, ?_, rfl⟩
  exact vi (by omega)
theorem c_laws_toParcel (k : Int) (a b : ByteArray) : F n_laws_toParcel [.val (parV k a b)] (parV k a b) [[]] := by
  refine i_laws_toParcel ?_
  conv => whnf
  refine g 0 1 [] ?_
  conv => whnf
  refine ⟨⟨⟨I, I, I, I⟩, I, I⟩, ?_⟩
  refine g 0 0 [] ?_
  conv => whnf
  refine ⟨⟨I, I⟩, ?_⟩
  refine g 4 7 [] ?_
  conv => whnf
  refine ⟨⟨I, I, I, ⟨I, I⟩, I⟩, ?_⟩
  refine g 7 10 [] ?_
  conv => whnf
  refine ⟨⟨I, I, I, ⟨I, I⟩, I⟩, ?_⟩
  refine g 10 13 [] ?_
  conv => whnf
  refine ⟨⟨I, I, I, ⟨I, I⟩, I⟩, ?_⟩
  refine g 3 14 [] ?_
  conv => whnf
  refine ⟨⟨I, ⟨I, I, I, I⟩, I⟩, ?_⟩
  refine W.ret ?_
  refine EndsW.rt ?_
  conv => whnf
  refine ⟨⟨I, I, I, I, I⟩, ?_, rfl⟩
  rfl
theorem c_laws_eqParcel (k : Int) (a b : ByteArray) (k' : Int) (a' b' : ByteArray) : F n_laws_eqParcel [.val (parV k a b), .val (parV k' a' b')] (.b (decide ((⟨k, a, b⟩ : Parcel) = ⟨k', a', b'⟩))) [[], []] := by
  refine i_laws_eqParcel ?_
  conv => whnf
  refine g 0 2 [] ?_
  conv => whnf
  refine ⟨⟨⟨I, I, I, I⟩, ⟨I, I, I, I⟩, I, I⟩, ?_⟩
  refine W.sq ?_
  refine g 5 9 [] ?_
  conv => whnf
  refine ⟨⟨I, I, I, I, I, I⟩, ?_⟩
  refine W.cn ?_
  conv => whnf
  refine ⟨fun h1 => ?_, fun h1 => ?_⟩
  replace h1 := ndt h1
  refine g 9 10 [] ?_
  conv => whnf
  refine ⟨⟨I, I⟩, ?_⟩
  refine W.ret ?_
  refine EndsW.rt ?_
  conv => whnf
  refine ⟨⟨I, I, I⟩, ?_, rfl⟩
  rotate_left 1
  replace h1 := ndf h1
  refine W.skip ?_
  refine W.sq ?_
  refine g 9 14 [] ?_
  conv => whnf
  refine ⟨⟨I, I, I, I, I, I⟩, ?_⟩
  refine W.cn ?_
  conv => whnf
  refine ⟨fun h2 => ?_, fun h2 => ?_⟩
  replace h2 := ndt h2
  refine g 14 15 [] ?_
  conv => whnf
  refine ⟨⟨I, I⟩, ?_⟩
  refine W.ret ?_
  refine EndsW.rt ?_
  conv => whnf
  refine ⟨⟨I, I, I⟩, ?_, rfl⟩
  rotate_left 1
  replace h2 := ndf h2
  refine W.skip ?_
  refine W.sq ?_
  refine g 14 19 [] ?_
  conv => whnf
  refine ⟨⟨I, I, I, I, I, I⟩, ?_⟩
  refine W.cn ?_
  conv => whnf
  refine ⟨fun h3 => ?_, fun h3 => ?_⟩
  replace h3 := ndt h3
  refine g 2 4 [] ?_
  conv => whnf
  refine ⟨⟨I, I⟩, ?_⟩
  refine W.ret ?_
  refine EndsW.rt ?_
  conv => whnf
  refine ⟨⟨I, I, I⟩, ?_, rfl⟩
  rotate_left 1
  replace h3 := ndf h3
  refine W.skip ?_
  refine g 2 4 [] ?_
  conv => whnf
  refine ⟨⟨I, I⟩, ?_⟩
  refine W.ret ?_
  refine EndsW.rt ?_
  conv => whnf
  refine ⟨⟨I, I, I⟩, ?_, rfl⟩
  rotate_left 1
  all_goals (first | exact vbt (by simp [*]) | exact vbf (by simp [*]))
/-- What is counted of parcels. -/
def totP : List Parcel → Int
  | [] => 0
  | p :: l => (p.frm.size : Int) + p.text.size + totP l
theorem totP_nn : ∀ l, 0 ≤ totP l
  | [] => by simp [totP]
  | s :: l => by have := totP_nn l; simp only [totP]; omega
theorem totP_append : ∀ a b, totP (a ++ b) = totP a + totP b
  | [], b => by simp [totP]
  | s :: a, b => by simp only [List.cons_append, totP, totP_append a b]; omega
theorem totP_take {l : List Parcel} {n : Nat} {x : Parcel} (h : l[n]? = some x) : totP (l.take (n + 1)) = totP (l.take n) + (x.frm.size + x.text.size) := by
  rw [List.take_add_one, h, totP_append]; simp [totP]
theorem totP_le (l : List Parcel) (n : Nat) : totP (l.take n) ≤ totP l := by
  have h := totP_append (l.take n) (l.drop n)
  rw [List.take_append_drop] at h
  have := totP_nn (l.drop n); omega
theorem c_laws_szParcelS (xs : List Parcel) (left : Int) (hl : xs.length ≤ 9223372036854775807) (hs : ∀ p ∈ xs, p.frm.size ≤ 9223372036854775807 ∧ p.text.size ≤ 9223372036854775807) (h : left ≤ 1048576) (h0 : 0 ≤ left) :
    F n_laws_szParcelS [.val (.t (pars xs)), .val (.i left)] (.i (if left - xs.length - totP xs < 0 then -1 else left - xs.length - totP xs)) [[], []] := by
  have hnn := totP_nn xs
  refine i_laws_szParcelS ?_
  conv => whnf
  refine g 0 0 [] ?_
  conv => whnf
  refine ⟨⟨I, I⟩, ?_⟩
  refine g 6 10 [.i (left - (↑(List.length (List.map parT xs)) : Int))] ?_
  conv => whnf
  refine ⟨⟨I, I, I, w64 (by simp only [List.length_map, List.length_append, List.length_set, List.length_replicate, List.length_cons, List.length_nil, List.length_take, List.length_drop, fill_len, fillI_len, List.length_range, bytesT_len]; omega) (by simp only [List.length_map, List.length_append, List.length_set, List.length_replicate, List.length_cons, List.length_nil, List.length_take, List.length_drop, fill_len, fillI_len, List.length_range, bytesT_len]; omega), I, I⟩, ?_⟩
  refine W.sq ?_
  refine g 10 11 [] ?_
  conv => whnf
  refine ⟨⟨I, I, I⟩, ?_⟩
  refine W.cn ?_
  conv => whnf
  refine ⟨fun h1 => ?_, fun h1 => ?_⟩
  replace h1 := dt h1
  simp only [List.length_map] at h1
  refine g 11 12 [] ?_
  conv => whnf
  refine ⟨⟨I, I⟩, ?_⟩
  refine W.ret ?_
  refine EndsW.rt ?_
  conv => whnf
  refine ⟨⟨I, I, I⟩, ?_, rfl⟩
  exact vi (by omega)
  replace h1 := df h1
  simp only [List.length_map] at h1
  refine W.skip ?_
  refine W.sq ?_
  refine g 11 12 [] ?_
  conv => whnf
  refine ⟨⟨I, I⟩, ?_⟩
  refine W.blk ?_
  refine W.lp (fun s (n : Nat) => ⟨[(0, s.s 0), (1, .i (left - xs.length - totP (xs.take n))), (5, .i n)], [], []⟩) (fun (n : Nat) => n ≤ xs.length ∧ 0 ≤ left - xs.length - totP (xs.take n)) (fun (n : Nat) => xs.length - n) (0) [] [] ⟨rfl, ⟨rfl, (congrArg (fun z => V.t (T.v (Value.int _ z))) (by simp [totP])), rfl, I⟩, I, I⟩ ?_ ?_
  · simp [totP]; omega
  rintro n ⟨hn, hc⟩
  have hq := totP_nn (xs.take n)
  have hle := totP_le xs (n + 1)
  conv => whnf
  refine W.sq ?_
  refine g 12 15 [] ?_
  conv => whnf
  refine ⟨⟨I, I, I, I, I⟩, ?_⟩
  refine W.cn ?_
  conv => whnf
  refine ⟨fun h2 => ?_, fun h2 => ?_⟩
  replace h2 := dt h2
  simp only [List.length_map] at h2
  refine W.skip ?_
  refine W.sq ?_
  refine W.blk ?_
  obtain ⟨y1, hy1⟩ := some_at (xs := xs) (n := n) (by omega)
  have hm1 := hs y1 (List.mem_of_getElem? hy1)
  have hk1 := totP_take hy1
  refine g 15 24 [.x (parT y1), .call (V.i (if left - (↑(List.length xs) : Int) - totP (List.take n xs) - (↑(ByteArray.size (Parcel.frm y1)) : Int) - (↑(ByteArray.size (Parcel.text y1)) : Int) < (0 : Int) then (-1 : Int) else left - (↑(List.length xs) : Int) - totP (List.take n xs) - (↑(ByteArray.size (Parcel.frm y1)) : Int) - (↑(ByteArray.size (Parcel.text y1)) : Int))) ([[], []])] ?_
  conv => whnf
  refine ⟨⟨I, I, ⟨(by omega), ixl (by assumption)⟩, I, I, ⟨⟨I, I, I⟩, I, ⟨⟨I, I, I, I⟩, ⟨I, I⟩, I⟩, ⟨I, I⟩, Go.K.c_laws_szParcel _ _ _ _ (by omega) (by omega) (by omega) (by omega)⟩, I, I⟩, ?_⟩
  refine g 24 25 [] ?_
  conv => whnf
  refine ⟨⟨I, I, I⟩, ?_⟩
  refine W.cn ?_
  conv => whnf
  refine ⟨fun h3 => ?_, fun h3 => ?_⟩
  replace h3 := dt h3
  refine g 25 26 [] ?_
  conv => whnf
  refine ⟨⟨I, I⟩, ?_⟩
  refine W.ret ?_
  refine EndsW.rt ?_
  conv => whnf
  refine ⟨⟨I, I, I⟩, ?_, rfl⟩
  exact vi (by omega)
  replace h3 := df h3
  refine W.skip ?_
  refine rg [.i ((↑n : Int) + (1 : Int))] ?_
  conv => whnf
  refine ⟨⟨I, w64 (by omega) (by omega), I, I⟩, ?_⟩
  rotate_left 1
  replace h2 := df h2
  simp only [List.length_map] at h2
  refine W.exit ?_
  refine g 5 27 [] ?_
  conv => whnf
  refine ⟨⟨I, I, I⟩, ?_⟩
  refine W.ret ?_
  refine EndsW.rt ?_
  conv => whnf
  refine ⟨⟨I, I, I⟩, ?_, rfl⟩
  rotate_left 1
  · refine ⟨n + 1, [], [], ⟨rfl, ⟨rfl, (congrArg (fun z => V.t (T.v (Value.int _ z))) (by rw [totP_take (by assumption)]; omega)), rfl, I⟩, I, I⟩, ?_, ?_⟩
    rotate_left 1
    (dsimp only; omega)
    dsimp only
    omega
  · have e : xs.take n = xs := List.take_of_length_le (by omega)
    rw [e] at hc ⊢
    exact vi (by split <;> omega)
theorem c_laws_toParcelS (xs : List Parcel) (hl : xs.length ≤ 1048576) : F n_laws_toParcelS [.val (.t (pars xs))] (.own pkd (xs.map parT)) [[]] := by
  refine i_laws_toParcelS ?_
  conv => whnf
  refine g 0 0 [] ?_
  conv => whnf
  refine ⟨⟨I, I⟩, ?_⟩
  refine g 5 8 [.n (List.length (List.map parT xs))] ?_
  conv => whnf
  refine ⟨⟨I, I, ⟨rfl, rfl, (by simp only [List.length_map, List.length_append, List.length_set, List.length_replicate, List.length_cons, List.length_nil, List.length_take, List.length_drop, fill_len, fillI_len, List.length_range, bytesT_len]; omega)⟩, I, I⟩, ?_⟩
  refine W.sq ?_
  refine g 0 0 [] ?_
  conv => whnf
  refine ⟨⟨I, I⟩, ?_⟩
  refine W.blk ?_
  refine W.lp (fun s (n : Nat) => ⟨[(0, s.s 0), (2, s.s 2), (3, s.s 3), (4, .i n)], [(7, [.own pkd (fill parT (parT noP) xs n)])], []⟩) (fun (n : Nat) => n ≤ xs.length) (fun (n : Nat) => xs.length - n) (0) [some 7] [] ⟨rfl, ⟨rfl, rfl, rfl, rfl, I⟩, ⟨⟨rfl, ⟨(congrArg (V.own _) (fill_zero' (by simp) rfl)), I⟩⟩, I⟩, I⟩ (by omega) ?_
  intro n hn
  conv => whnf
  refine W.sq ?_
  refine g 8 11 [] ?_
  conv => whnf
  refine ⟨⟨I, I, I, I, I⟩, ?_⟩
  refine W.cn ?_
  conv => whnf
  refine ⟨fun h1 => ?_, fun h1 => ?_⟩
  replace h1 := dt h1
  simp only [List.length_map] at h1
  refine W.skip ?_
  refine W.sq ?_
  refine W.blk ?_
  obtain ⟨y1, hy1⟩ := some_at (xs := xs) (n := n) (by omega)
  refine rg [.x (parT y1), .call (parV (Parcel.kind y1) (Parcel.frm y1) (Parcel.text y1)) ([[]]), .n (n), .x (parT noP)] ?_
  conv => whnf
  refine ⟨⟨I, I, I, I, ⟨(by omega), ixl (by assumption)⟩, I, ⟨⟨I, I⟩, I, ⟨⟨I, I, I, I⟩, I⟩, ⟨I, I⟩, Go.K.c_laws_toParcel _ _ _⟩, ⟨rfl, (by simp only [List.length_map, List.length_append, List.length_set, List.length_replicate, List.length_cons, List.length_nil, List.length_take, List.length_drop, fill_len, fillI_len, List.length_range, bytesT_len]; omega)⟩, ⟨⟨I, I, I, I⟩, fill_get (by omega)⟩, I⟩, ?_⟩
  refine rg [.i ((↑n : Int) + (1 : Int))] ?_
  conv => whnf
  refine ⟨⟨I, w64 (by omega) (by omega), I, I⟩, ?_⟩
  rotate_left 1
  replace h1 := df h1
  simp only [List.length_map] at h1
  refine W.exit ?_
  refine g 3 23 [] ?_
  conv => whnf
  refine ⟨⟨I, I, I⟩, ?_⟩
  refine W.ret ?_
  refine EndsW.rt ?_
  conv => whnf
  refine ⟨⟨I, I, I⟩, ?_, rfl⟩
  rotate_left 1
  · refine ⟨n + 1, [some 7], [], ⟨rfl, ⟨rfl, rfl, rfl, rfl, I⟩, ⟨⟨rfl, ⟨(congrArg (V.own _) (fill_set (by assumption))), I⟩⟩, I⟩, I⟩, ?_, ?_⟩
    rotate_left 1
    (dsimp only; omega)
    dsimp only
    omega
  · have e : fill parT (parT noP) xs n = xs.map parT := fill_all _ _ _ (by omega)
    rw [← e]
theorem c_laws_eqParcelS (xs ys : List Parcel) (hl : xs.length ≤ 9223372036854775806) : F n_laws_eqParcelS [.val (.t (pars xs)), .val (.t (pars ys))] (.b (decide (xs = ys))) [[], []] := by
  refine i_laws_eqParcelS ?_
  conv => whnf
  refine g 0 0 [] ?_
  conv => whnf
  refine ⟨⟨I, I⟩, ?_⟩
  refine W.sq ?_
  refine g 6 10 [] ?_
  conv => whnf
  refine ⟨⟨I, I, I, I, I, I⟩, ?_⟩
  refine W.cn ?_
  conv => whnf
  refine ⟨fun h1 => ?_, fun h1 => ?_⟩
  replace h1 := ndt h1
  simp only [List.length_map] at h1
  refine g 10 11 [] ?_
  conv => whnf
  refine ⟨⟨I, I⟩, ?_⟩
  refine W.ret ?_
  refine EndsW.rt ?_
  conv => whnf
  refine ⟨⟨I, I, I⟩, ?_, rfl⟩
  rotate_left 1
  replace h1 := ndf h1
  simp only [List.length_map] at h1
  refine W.skip ?_
  refine W.sq ?_
  refine g 10 11 [] ?_
  conv => whnf
  refine ⟨⟨I, I⟩, ?_⟩
  refine W.blk ?_
  rotate_left 1
  · exact vbf (fun e => h1 (by rw [e]))
  refine W.lp (fun s (n : Nat) => ⟨[(0, s.s 0), (1, s.s 1), (5, .i n)], [], []⟩) (fun (n : Nat) => n ≤ xs.length ∧ xs.take n = ys.take n) (fun (n : Nat) => xs.length - n) (0) [] [] ⟨rfl, ⟨rfl, rfl, rfl, I⟩, I, I⟩ (by simp) ?_
  rintro n ⟨hn, hc⟩
  conv => whnf
  refine W.sq ?_
  refine g 11 14 [] ?_
  conv => whnf
  refine ⟨⟨I, I, I, I, I⟩, ?_⟩
  refine W.cn ?_
  conv => whnf
  refine ⟨fun h2 => ?_, fun h2 => ?_⟩
  replace h2 := dt h2
  simp only [List.length_map] at h2
  refine W.skip ?_
  refine W.sq ?_
  refine W.blk ?_
  obtain ⟨y1, hy1⟩ := some_at (xs := xs) (n := n) (by omega)
  obtain ⟨y2, hy2⟩ := some_at (xs := ys) (n := n) (by omega)
  refine gd 14 26 [[], [], [.x (parT y1)], [], [], [], [.x (parT y2)], [], [.call (V.b (decide (y1 = y2))) ([[], []])], []] ?_
  conv => whnf
  refine ⟨⟨I, I, ⟨(by omega), ixl (by assumption)⟩, I, I, I, ⟨(by omega), ixl (by assumption)⟩, I, ⟨⟨I, I, I⟩, I, ⟨⟨I, I, I, I⟩, ⟨I, I, I, I⟩, I⟩, ⟨I, I⟩, Go.K.c_laws_eqParcel _ _ _ _ _ _⟩, I, I⟩, by kernel_rfl, ?_⟩
  refine W.cn ?_
  conv => whnf
  refine ⟨fun h3 => ?_, fun h3 => ?_⟩
  replace h3 := ndt h3
  refine g 26 27 [] ?_
  conv => whnf
  refine ⟨⟨I, I⟩, ?_⟩
  refine W.ret ?_
  refine EndsW.rt ?_
  conv => whnf
  refine ⟨⟨I, I, I⟩, ?_, rfl⟩
  rotate_left 1
  replace h3 := ndf h3
  refine W.skip ?_
  refine rg [.i ((↑n : Int) + (1 : Int))] ?_
  conv => whnf
  refine ⟨⟨I, w64 (by omega) (by omega), I, I⟩, ?_⟩
  rotate_left 1
  replace h2 := df h2
  simp only [List.length_map] at h2
  refine W.exit ?_
  refine g 0 2 [] ?_
  conv => whnf
  refine ⟨⟨I, I⟩, ?_⟩
  refine W.ret ?_
  refine EndsW.rt ?_
  conv => whnf
  refine ⟨⟨I, I, I⟩, ?_, rfl⟩
  rotate_left 1
  · exact vbf (fun e => by subst e; rw [hy1] at hy2; cases hy2; exact h3 rfl)
  · refine ⟨n + 1, [], [], ⟨rfl, ⟨rfl, rfl, rfl, I⟩, I, I⟩, ?_, ?_⟩
    rotate_left 1
    (dsimp only; omega)
    dsimp only
    exact ⟨by omega, by rw [List.take_add_one, List.take_add_one, hy1, hy2, hc, h3]⟩
  · exact vbt (by rw [List.take_of_length_le (by omega), List.take_of_length_le (by omega)] at hc; exact hc)
/-- The digits of a number ahead of a text. -/
def dgs (fuel : Nat) (k : Int) (s : ByteArray) : ByteArray := match fuel with
  | 0 => s
  | f + 1 => if k ≤ 0 then s else dgs f (k / 10) (bl [48 + k % 10] ++ s)
def markT (k : Int) : ByteArray := if k ≤ 0 then bl [109, 48] else bl [109] ++ dgs 20 k emp
theorem dgs_step {f : Nat} {a : Int} {t : ByteArray} (h0 : 0 < a) (h : a < 10 ^ f) : ∃ g, f = g + 1 ∧ a / 10 < 10 ^ g ∧ dgs f a t = dgs g (a / 10) (bl [48 + a % 10] ++ t) := by
  cases f with
  | zero => simp at h; omega
  | succ g =>
    refine ⟨g, rfl, ?_, ?_⟩
    · rw [Int.pow_succ] at h; omega
    · rw [dgs, if_neg (by omega)]
theorem dgs_end {f : Nat} {a : Int} {t : ByteArray} (h0 : ¬ 0 < a) : dgs f a t = t := by
  cases f with
  | zero => rfl
  | succ g => rw [dgs, if_pos (by omega)]
theorem mt_div {a : Int} (h0 : 0 ≤ a) (h1 : a ≤ 1099511627776) : IntKind.i64.wrap (a.tdiv 10) = a / 10 := by
  rw [Int.tdiv_eq_ediv_of_nonneg h0, w64 (by omega) (by omega)]
theorem mt_dig {a : Int} {t : ByteArray} (h0 : 0 ≤ a) : (⟨(bytesOf [[T.v (Value.int IntKind.u8 (IntKind.u8.wrap (IntKind.i64.wrap (48 + a.tmod 10))))]]).toArray⟩ : ByteArray) ++ t = bl [48 + a % 10] ++ t := by
  rw [Int.tmod_eq_emod_of_nonneg h0, w64 (by omega) (by omega), wu8 (by omega) (by omega)]; rfl
theorem bl_size (l : List Int) : (bl l).size = l.length := by simp [bl, bsa]
theorem c_laws_markText (k : Int) (h : k ≤ 1099511627776) : F n_laws_markText [.val (.i k)] (.s (markT k)) [[]] := by
  refine i_laws_markText ?_
  conv => whnf
  refine g 0 0 [] ?_
  conv => whnf
  refine ⟨⟨I, I⟩, ?_⟩
  refine W.sq ?_
  refine g 4 5 [] ?_
  conv => whnf
  refine ⟨⟨I, I, I⟩, ?_⟩
  refine W.cn ?_
  conv => whnf
  refine ⟨fun h1 => ?_, fun h1 => ?_⟩
  replace h1 := dt h1
  refine g 5 6 [] ?_
  conv => whnf
  refine ⟨⟨I, I⟩, ?_⟩
  refine W.ret ?_
  refine EndsW.rt ?_
  conv => whnf
  refine ⟨⟨I, I, I⟩, ?_, rfl⟩
  rotate_left 1
  replace h1 := df h1
  refine W.skip ?_
  refine g 5 6 [] ?_
  conv => whnf
  refine ⟨⟨I, I⟩, ?_⟩
  refine W.sq ?_
  refine W.blk ?_
  rotate_left 1
  · exact vs (by unfold markT; rw [if_pos (by omega)]; rfl)
  refine W.lp (fun s (x : Nat × Int × ByteArray) => match x with | (f, a, t) => ⟨[(0, .i a), (2, s.s 2), (3, .s t)], [], []⟩) (fun (x : Nat × Int × ByteArray) => match x with | (f, a, t) => 0 ≤ a ∧ a ≤ 1099511627776 ∧ a < 10 ^ f ∧ f ≤ 20 ∧ (t.size : Int) ≤ 20 - f ∧ dgs f a t = dgs 20 k emp) (fun (x : Nat × Int × ByteArray) => match x with | (f, a, t) => f) ((20, k, emp)) [] [] ⟨rfl, ⟨rfl, rfl, rfl, I⟩, I, I⟩ ?_ ?_
  · exact ⟨by omega, by omega, by omega, by omega, by show ((0 : Nat) : Int) ≤ 20 - ((20 : Nat) : Int); omega, rfl⟩
  rintro ⟨f, a, t⟩ ⟨g1, ga, g2, g3, g4, g5⟩
  conv => whnf
  refine W.sq ?_
  refine g 6 7 [] ?_
  conv => whnf
  refine ⟨⟨I, I, I⟩, ?_⟩
  refine W.cn ?_
  conv => whnf
  refine ⟨fun h2 => ?_, fun h2 => ?_⟩
  replace h2 := dt h2
  refine W.skip ?_
  refine W.blk ?_
  refine g 10 16 [.i (Int.tmod a (10 : Int)), .i (IntKind.wrap IntKind.i64 ((48 : Int) + Int.tmod a (10 : Int))), .i (IntKind.wrap IntKind.u8 (IntKind.wrap IntKind.i64 ((48 : Int) + Int.tmod a (10 : Int)))), .s ({ data := List.toArray (bytesOf [[T.v (Value.int IntKind.u8 (IntKind.wrap IntKind.u8 (IntKind.wrap IntKind.i64 ((48 : Int) + Int.tmod a (10 : Int)))))]]) : ByteArray }), .s ({ data := List.toArray (bytesOf [[T.v (Value.int IntKind.u8 (IntKind.wrap IntKind.u8 (IntKind.wrap IntKind.i64 ((48 : Int) + Int.tmod a (10 : Int)))))]]) : ByteArray } ++ t)] ?_
  conv => whnf
  refine ⟨⟨I, ⟨(by omega), rfl⟩, rfl, rfl, ⟨⟨I, I⟩, I⟩, ⟨I, (by repeat (first | exact allU8_nil | refine allU8_cons ?_)), rfl⟩, I, ⟨rfl, (by simp only [bsz, ByteArray.size_append, List.length_map, List.length_append, List.length_set, List.length_replicate, List.length_cons, List.length_nil, List.length_take, List.length_drop, fill_len, fillI_len, List.length_range, bytesT_len]; omega)⟩, I, I⟩, ?_⟩
  refine rg [.i (IntKind.wrap IntKind.i64 (Int.tdiv a (10 : Int)))] ?_
  conv => whnf
  refine ⟨⟨I, ⟨(by omega), rfl⟩, I, I⟩, ?_⟩
  rotate_left 1
  replace h2 := df h2
  refine W.exit ?_
  refine g 3 20 [.s ({ data := #[(109 : UInt8)] : ByteArray } ++ t)] ?_
  conv => whnf
  refine ⟨⟨I, ⟨rfl, (by simp only [bsz, bsa, ByteArray.size_append, List.size_toArray, List.length_map, List.length_append, List.length_set, List.length_replicate, List.length_cons, List.length_nil, List.length_take, List.length_drop, fill_len, fillI_len, List.length_range, bytesT_len]; omega)⟩, I, I⟩, ?_⟩
  refine W.ret ?_
  refine EndsW.rt ?_
  conv => whnf
  refine ⟨⟨I, I, I⟩, ?_, rfl⟩
  rotate_left 1
  · obtain ⟨g, rfl, g6, g7⟩ := dgs_step (t := t) h2 g2
    refine ⟨(g, a / 10, bl [48 + a % 10] ++ t), [], [], ⟨rfl, ⟨(congrArg (fun z => V.t (T.v (Value.int _ z))) (mt_div g1 ga)), rfl, (congrArg (fun z => V.t (T.v (Value.string z))) (mt_dig g1)), I⟩, I, I⟩, ?_, ?_⟩
    rotate_left 1
    (dsimp only; omega)
    dsimp only
    have e := bl_size [48 + a % 10]
    exact ⟨by omega, by omega, g6, by omega, by rw [ByteArray.size_append, e, List.length_cons, List.length_nil]; omega, by rw [← g7]; exact g5⟩
  · exact vs (by unfold markT; rw [if_neg h1, ← g5, dgs_end h2]; rfl)
/-- The k-th mark of parcels. -/
def mkP (k : Int) (i : Nat) : Parcel := ⟨k + 3 * i, markT (k + 3 * i + 1), markT (k + 3 * i + 1 + 1)⟩
abbrev mkPT (k : Int) (i : Nat) : List T := parT (mkP k i)
theorem mark_step {k : Int} {ys : List (List T)} {n : Nat} {a b : List T} (h : n < ys.length) : (((fillI (mkPT k) ys n).set n a).set n b).set n [T.v (.int .i64 (k + 3 * (n : Int))), T.v (.string (markT (k + 3 * (n : Int) + 1))), T.v (.string (markT (k + 3 * (n : Int) + 1 + 1)))] = fillI (mkPT k) ys (n + 1) := by
  rw [List.set_set, List.set_set]; exact fillI_set h
theorem c_laws_markParcelS (xs : List Parcel) (k : Int) (hk : 0 ≤ k ∧ k ≤ 549755813888) (hl : xs.length ≤ 1048576) : F n_laws_markParcelS [.bor (.own pkd (xs.map parT)), .val (.i k)] (.i (k + 3 * xs.length)) [[.own pkd ((List.range xs.length).map (mkPT k))], []] := by
  refine i_laws_markParcelS ?_
  conv => whnf
  refine g 0 0 [] ?_
  conv => whnf
  refine ⟨⟨I, I⟩, ?_⟩
  refine W.sq ?_
  refine g 0 0 [] ?_
  conv => whnf
  refine ⟨⟨I, I⟩, ?_⟩
  refine W.blk ?_
  refine W.lp (fun s (n : Nat) => ⟨[(0, s.s 0), (1, .i (k + 3 * n)), (4, s.s 4), (5, .i n)], [(36, [.own pkd (fillI (mkPT k) (xs.map parT) n)])], []⟩) (fun (n : Nat) => n ≤ xs.length) (fun (n : Nat) => xs.length - n) (0) [some 36] [] ⟨rfl, ⟨rfl, (congrArg (fun z => V.t (T.v (Value.int _ z))) (by omega)), rfl, rfl, I⟩, ⟨⟨rfl, ⟨rfl, I⟩⟩, I⟩, I⟩ (by omega) ?_
  intro n hn
  have hx : (fillI (mkPT k) (xs.map parT) n).length = xs.length := by rw [fillI_len, List.length_map]; omega
  conv => whnf
  refine W.sq ?_
  refine g 6 9 [] ?_
  conv => whnf
  refine ⟨⟨I, I, I, I, I⟩, ?_⟩
  refine W.cn ?_
  conv => whnf
  refine ⟨fun h1 => ?_, fun h1 => ?_⟩
  replace h1 := dt h1
  simp only [List.length_map, List.length_append, List.length_set, List.length_replicate, List.length_cons, List.length_nil, List.length_take, List.length_drop, fill_len, fillI_len, List.length_range, bytesT_len] at h1
  refine W.skip ?_
  refine W.sq ?_
  refine W.blk ?_
  obtain ⟨y1, hy1⟩ := some_at (xs := xs) (n := n) (by omega)
  refine g 9 17 [.n (n), .x (parT y1)] ?_
  conv => whnf
  refine ⟨⟨I, I, I, ⟨rfl, (by omega)⟩, I, ⟨⟨I, I⟩, fillI_get (ixl (by assumption))⟩, I⟩, ?_⟩
  refine g 17 19 [.i (k + (3 : Int) * (↑n : Int) + (1 : Int))] ?_
  conv => whnf
  refine ⟨⟨I, w64 (by omega) (by omega), I, I⟩, ?_⟩
  refine g 19 25 [.call (V.s (markT (k + (3 : Int) * (↑n : Int) + (1 : Int)))) ([[]]), .n (n), .x (patch (parT y1) ((0 : Nat) + (0 : Nat)) [T.v (Value.int IntKind.i64 (k + (3 : Int) * (↑n : Int)))])] ?_
  conv => whnf
  refine ⟨⟨I, I, I, ⟨⟨I, I⟩, I, ⟨⟨I, I⟩, I⟩, ⟨I, I⟩, Go.K.c_laws_markText _ (by omega)⟩, ⟨rfl, (by simp only [List.length_map, List.length_append, List.length_set, List.length_replicate, List.length_cons, List.length_nil, List.length_take, List.length_drop, fill_len, fillI_len, List.length_range, bytesT_len]; omega)⟩, I, ⟨⟨I, I⟩, getset (by (try dsimp only); omega)⟩, I⟩, ?_⟩
  refine g 25 27 [.i (k + (3 : Int) * (↑n : Int) + (1 : Int) + (1 : Int))] ?_
  conv => whnf
  refine ⟨⟨I, w64 (by omega) (by omega), I, I⟩, ?_⟩
  refine g 27 33 [.call (V.s (markT (k + (3 : Int) * (↑n : Int) + (1 : Int) + (1 : Int)))) ([[]]), .n (n), .x (patch (patch (parT y1) ((0 : Nat) + (0 : Nat)) [T.v (Value.int IntKind.i64 (k + (3 : Int) * (↑n : Int)))]) ((0 : Nat) + (1 : Nat)) [T.v (Value.string (markT (k + (3 : Int) * (↑n : Int) + (1 : Int))))])] ?_
  conv => whnf
  refine ⟨⟨I, I, I, ⟨⟨I, I⟩, I, ⟨⟨I, I⟩, I⟩, ⟨I, I⟩, Go.K.c_laws_markText _ (by omega)⟩, ⟨rfl, (by simp only [List.length_map, List.length_append, List.length_set, List.length_replicate, List.length_cons, List.length_nil, List.length_take, List.length_drop, fill_len, fillI_len, List.length_range, bytesT_len]; omega)⟩, I, ⟨⟨I, I⟩, getset (by simp only [List.length_map, List.length_append, List.length_set, List.length_replicate, List.length_cons, List.length_nil, List.length_take, List.length_drop, fill_len, fillI_len, List.length_range, bytesT_len]; omega)⟩, I⟩, ?_⟩
  refine rg [.i (k + (3 : Int) * (↑n : Int) + (1 : Int) + (1 : Int) + (1 : Int))] ?_
  conv => whnf
  refine ⟨⟨I, w64 (by omega) (by omega), I, I⟩, ?_⟩
  refine rg [.i ((↑n : Int) + (1 : Int))] ?_
  conv => whnf
  refine ⟨⟨I, w64 (by omega) (by omega), I, I⟩, ?_⟩
  rotate_left 1
  replace h1 := df h1
  simp only [List.length_map, List.length_append, List.length_set, List.length_replicate, List.length_cons, List.length_nil, List.length_take, List.length_drop, fill_len, fillI_len, List.length_range, bytesT_len] at h1
  refine W.exit ?_
  refine g 5 36 [] ?_
  conv => whnf
  refine ⟨⟨I, I, I⟩, ?_⟩
  refine W.ret ?_
  refine EndsW.rt ?_
  conv => whnf
  refine ⟨⟨I, I, I⟩, ?_, ?_⟩
  exact vi (by omega)
  rotate_left 1
  · refine ⟨n + 1, [some 36], [], ⟨rfl, ⟨rfl, (congrArg (fun z => V.t (T.v (Value.int _ z))) (by omega)), rfl, rfl, I⟩, ⟨⟨rfl, ⟨(congrArg (V.own _) (mark_step (by rw [List.length_map]; omega))), I⟩⟩, I⟩, I⟩, ?_, ?_⟩
    rotate_left 1
    (dsimp only; omega)
    dsimp only
    omega
  · rw [show n = xs.length from by omega, fillI_all _ _ (by rw [List.length_map]; omega)]
theorem c_laws_heldParcelS (m : Nat) (k : Int) (hk : 0 ≤ k ∧ k ≤ 549755813888) (hl : m ≤ 1048576) : F n_laws_heldParcelS [.val (.t (.slc pkd ((List.range m).map (mkPT k)))), .val (.i k)] (.i (k + 3 * m)) [[], []] := by
  refine i_laws_heldParcelS ?_
  conv => whnf
  refine g 0 0 [] ?_
  conv => whnf
  refine ⟨⟨I, I⟩, ?_⟩
  refine W.sq ?_
  refine g 0 0 [] ?_
  conv => whnf
  refine ⟨⟨I, I⟩, ?_⟩
  refine W.blk ?_
  refine W.lp (fun s (n : Nat) => ⟨[(0, s.s 0), (1, .i (k + 3 * n)), (5, .i n)], [], []⟩) (fun (n : Nat) => n ≤ m) (fun (n : Nat) => m - n) (0) [] [] ⟨rfl, ⟨rfl, (congrArg (fun z => V.t (T.v (Value.int _ z))) (by omega)), rfl, I⟩, I, I⟩ (by omega) ?_
  intro n hn
  conv => whnf
  refine W.sq ?_
  refine g 6 9 [] ?_
  conv => whnf
  refine ⟨⟨I, I, I, I, I⟩, ?_⟩
  refine W.cn ?_
  conv => whnf
  refine ⟨fun h1 => ?_, fun h1 => ?_⟩
  replace h1 := dt h1
  simp only [List.length_map] at h1
  simp only [List.length_map, List.length_append, List.length_set, List.length_replicate, List.length_cons, List.length_nil, List.length_take, List.length_drop, fill_len, fillI_len, List.length_range, bytesT_len] at h1
  refine W.skip ?_
  refine W.sq ?_
  refine W.blk ?_
  refine W.sq ?_
  refine g 9 18 [.x (mkPT k (Int.toNat (↑n : Int)))] ?_
  conv => whnf
  refine ⟨⟨I, I, ⟨(by omega), rng_get (by omega)⟩, I, I, I, I, I⟩, ?_⟩
  refine W.cn ?_
  conv => whnf
  refine ⟨noT (notF rfl), fun _ => ?_⟩
  refine W.skip ?_
  refine g 18 21 [.i (k + (3 : Int) * (↑n : Int) + (1 : Int))] ?_
  conv => whnf
  refine ⟨⟨I, w64 (by omega) (by omega), I, I⟩, ?_⟩
  refine W.sq ?_
  refine gd 21 28 [[], [], [.x (mkPT k (Int.toNat (↑n : Int)))], [], [], [], [.call (V.s (markT (k + (3 : Int) * (↑n : Int) + (1 : Int)))) ([[]])], []] ?_
  conv => whnf
  refine ⟨⟨I, I, ⟨(by omega), rng_get (by omega)⟩, I, I, I, ⟨⟨I, I⟩, I, ⟨⟨I, I⟩, I⟩, ⟨I, I⟩, Go.K.c_laws_markText _ (by omega)⟩, I, I⟩, by kernel_rfl, ?_⟩
  refine W.cn ?_
  conv => whnf
  refine ⟨noT (notF rfl), fun _ => ?_⟩
  refine W.skip ?_
  refine g 28 31 [.i (k + (3 : Int) * (↑n : Int) + (1 : Int) + (1 : Int))] ?_
  conv => whnf
  refine ⟨⟨I, w64 (by omega) (by omega), I, I⟩, ?_⟩
  refine W.sq ?_
  refine gd 31 38 [[], [], [.x (mkPT k (Int.toNat (↑n : Int)))], [], [], [], [.call (V.s (markT (k + (3 : Int) * (↑n : Int) + (1 : Int) + (1 : Int)))) ([[]])], []] ?_
  conv => whnf
  refine ⟨⟨I, I, ⟨(by omega), rng_get (by omega)⟩, I, I, I, ⟨⟨I, I⟩, I, ⟨⟨I, I⟩, I⟩, ⟨I, I⟩, Go.K.c_laws_markText _ (by omega)⟩, I, I⟩, by kernel_rfl, ?_⟩
  refine W.cn ?_
  conv => whnf
  refine ⟨noT (notF rfl), fun _ => ?_⟩
  refine W.skip ?_
  refine rg [.i (k + (3 : Int) * (↑n : Int) + (1 : Int) + (1 : Int) + (1 : Int))] ?_
  conv => whnf
  refine ⟨⟨I, w64 (by omega) (by omega), I, I⟩, ?_⟩
  refine rg [.i ((↑n : Int) + (1 : Int))] ?_
  conv => whnf
  refine ⟨⟨I, w64 (by omega) (by omega), I, I⟩, ?_⟩
  rotate_left 1
  replace h1 := df h1
  simp only [List.length_map] at h1
  simp only [List.length_map, List.length_append, List.length_set, List.length_replicate, List.length_cons, List.length_nil, List.length_take, List.length_drop, fill_len, fillI_len, List.length_range, bytesT_len] at h1
  refine W.exit ?_
  refine g 5 42 [] ?_
  conv => whnf
  refine ⟨⟨I, I, I⟩, ?_⟩
  refine W.ret ?_
  refine EndsW.rt ?_
  conv => whnf
  refine ⟨⟨I, I, I⟩, ?_, rfl⟩
  exact vi (by omega)
  refine ⟨n + 1, [], [], ⟨rfl, ⟨rfl, (congrArg (fun z => V.t (T.v (Value.int _ z))) (by omega)), rfl, I⟩, I, I⟩, ?_, ?_⟩
  rotate_left 1
  (dsimp only; omega)
  dsimp only
  omega
theorem c_spec_l6Copy (xs : List Parcel) (hl : xs.length ≤ 1048576) : F n_spec_l6Copy [.val (.t (pars xs))] (.own pkd (xs.map parT)) [[]] := by
  refine i_spec_l6Copy ?_
  conv => whnf
  refine g 0 0 [] ?_
  conv => whnf
  refine ⟨⟨I, I⟩, ?_⟩
  refine g 3 6 [] ?_
  conv => whnf
  refine ⟨⟨I, I, ⟨I, I, (by simp only [List.length_map, List.length_append, List.length_set, List.length_replicate, List.length_cons, List.length_nil, List.length_take, List.length_drop, fill_len, fillI_len, List.length_range, bytesT_len]; omega)⟩, I, I⟩, ?_⟩
  refine W.ret ?_
  refine EndsW.rt ?_
  conv => whnf
  refine ⟨⟨I, I, I⟩, ?_, rfl⟩
  rfl
theorem c_impl_copied (xs : List Parcel) (hl : xs.length ≤ 1048576) : F n_impl_copied [.val (.t (pars xs))] (.own pkd (xs.map parT)) [[]] := by
  refine i_impl_copied ?_
  conv => whnf
  refine g 0 0 [] ?_
  conv => whnf
  refine ⟨⟨I, I⟩, ?_⟩
  refine g 3 6 [] ?_
  conv => whnf
  refine ⟨⟨I, I, ⟨I, I, (by simp only [List.length_map, List.length_append, List.length_set, List.length_replicate, List.length_cons, List.length_nil, List.length_take, List.length_drop, fill_len, fillI_len, List.length_range, bytesT_len]; omega)⟩, I, I⟩, ?_⟩
  refine W.ret ?_
  refine EndsW.rt ?_
  conv => whnf
  refine ⟨⟨I, I, I⟩, ?_, rfl⟩
  rfl
end Go.K

end

section
set_option linter.unusedVariables false
set_option linter.unusedSimpArgs false
set_option maxHeartbeats 4000000
set_option maxRecDepth 20000
open Go Go.Tm Go.Proofs
namespace Go.K
structure Task where
  name : ByteArray
  cost : Int
  deps : List Int
  deriving DecidableEq
structure Worker where
  number : Int
  epoch : Int
  up : Bool
  state : Int
  lease : Int
  task : Int
  cost : Int
  left : Int
  inputs : List ByteArray
  text : ByteArray
  since : Int
  deriving DecidableEq
end Go.K

end

section
set_option linter.unusedVariables false
set_option linter.unusedSimpArgs false
set_option maxHeartbeats 4000000
set_option maxRecDepth 20000
open Go Go.Tm Go.Proofs
namespace Go.K
theorem c_laws_markStringS (xs : List ByteArray) (k : Int) (hl : xs.length ≤ 9223372036854775806) (h0 : 0 ≤ k) (hk : k + xs.length ≤ 1099511627776) : F n_laws_markStringS [.bor (.own [false] (xs.map strT)), .val (.i k)] (.i (k + xs.length)) [[.own [false] ((mkL (fun k _ => markT k) (fun _ => 1) k xs).map strT)], []] := by
  refine i_laws_markStringS ?_
  conv => whnf
  refine g 0 0 [] ?_
  conv => whnf
  refine ⟨⟨I, I⟩, ?_⟩
  refine W.sq ?_
  refine g 0 0 [] ?_
  conv => whnf
  refine ⟨⟨I, I⟩, ?_⟩
  refine W.blk ?_
  refine W.lp (fun s (n : Nat) => ⟨[(0, s.s 0), (1, .i (k + n)), (4, s.s 4), (5, .i n)], [(20, [.own [false] ((mkN (fun k _ => markT k) (fun _ => 1) k xs n).map strT)])], []⟩) (fun (n : Nat) => n ≤ xs.length) (fun (n : Nat) => xs.length - n) (0) [some 20] [] ⟨rfl, ⟨rfl, (congrArg (fun z => V.t (T.v (Value.int _ z))) (by simp [sumI])), rfl, rfl, I⟩, ⟨⟨rfl, ⟨rfl, I⟩⟩, I⟩, I⟩ (by omega) ?_
  intro n hn
  have hx := mkN_len (fun k _ => markT k) (fun _ => 1) k xs n
  have hs1 : ∀ x, xs[n]? = some x → ((mkN (fun k _ => markT k) (fun _ => 1) k xs n).map strT).set n (strT (markT (k + n))) = (mkN (fun k _ => markT k) (fun _ => 1) k xs (n + 1)).map strT := fun x hx => by
    have := mkN_setm (f := (fun k _ => markT k)) (c := (fun _ => 1)) (g := strT) (k := k) hx
    rw [sum_one, List.length_take, Nat.min_eq_left hn] at this; exact this
  conv => whnf
  refine W.sq ?_
  refine g 6 9 [] ?_
  conv => whnf
  refine ⟨⟨I, I, I, I, I⟩, ?_⟩
  refine W.cn ?_
  conv => whnf
  refine ⟨fun h1 => ?_, fun h1 => ?_⟩
  replace h1 := dt h1
  simp only [List.length_map] at h1
  refine W.skip ?_
  refine W.sq ?_
  refine W.blk ?_
  obtain ⟨y1, hy1⟩ := some_at (xs := xs) (n := n) (by omega)
  refine g 9 17 [.call (V.s (markT (k + (↑n : Int)))) ([[]]), .n (n), .x (strT y1)] ?_
  conv => whnf
  refine ⟨⟨I, I, I, ⟨⟨I, I⟩, I, ⟨⟨I, I⟩, I⟩, ⟨I, I⟩, Go.K.c_laws_markText _ (by omega)⟩, ⟨rfl, (by simp only [List.length_map, List.length_append, List.length_set, List.length_replicate, List.length_cons, List.length_nil, List.length_take, List.length_drop, fill_len, fillI_len, List.length_range, bytesT_len]; omega)⟩, ⟨⟨I, I⟩, mkN_getm (by assumption)⟩, I⟩, ?_⟩
  refine rg [.i (k + (↑n : Int) + (1 : Int))] ?_
  conv => whnf
  refine ⟨⟨I, w64 (by omega) (by omega), I, I⟩, ?_⟩
  refine rg [.i ((↑n : Int) + (1 : Int))] ?_
  conv => whnf
  refine ⟨⟨I, w64 (by omega) (by omega), I, I⟩, ?_⟩
  rotate_left 1
  replace h1 := df h1
  simp only [List.length_map] at h1
  refine W.exit ?_
  refine g 5 20 [] ?_
  conv => whnf
  refine ⟨⟨I, I, I⟩, ?_⟩
  refine W.ret ?_
  refine EndsW.rt ?_
  conv => whnf
  refine ⟨⟨I, I, I⟩, ?_, ?_⟩
  exact vi (by omega)
  rotate_left 1
  · refine ⟨n + 1, [some 20], [], ⟨rfl, ⟨rfl, (congrArg (fun z => V.t (T.v (Value.int _ z))) (by omega)), rfl, rfl, I⟩, ⟨⟨rfl, ⟨(congrArg (V.own _) (hs1 _ (by assumption))), I⟩⟩, I⟩, I⟩, ?_, ?_⟩
    rotate_left 1
    (dsimp only; omega)
    dsimp only
    omega
  · have e := mkN_all (fun k _ => markT k) (fun _ => 1) k xs (n := n) (by omega)
    rw [show n = xs.length by omega] at e ⊢
    rw [e]
end Go.K

end

section
set_option linter.unusedVariables false
set_option linter.unusedSimpArgs false
set_option maxHeartbeats 4000000
set_option maxRecDepth 20000
open Go Go.Tm Go.Proofs
namespace Go.K
def eights (xs : List ByteArray) : Prop := (∀ s ∈ xs, s.size = 8) ∧ xs.length ≤ 8
instance (xs : List ByteArray) : Decidable (eights xs) := by unfold eights; infer_instance
theorem eights_no {xs : List ByteArray} {n : Nat} {y : ByteArray} (hy : xs[n]? = some y) (h : ¬ (y.size : Int) = 8) : ¬ eights xs := fun e => h (by have := e.1 y (List.mem_of_getElem? hy); omega)
theorem all_take {α : Type} {p : α → Prop} {xs : List α} {n : Nat} {y : α} (h : ∀ s ∈ xs.take n, p s) (hy : xs[n]? = some y) (hp : p y) : ∀ s ∈ xs.take (n + 1), p s := fun s hs => by
  rw [List.take_add_one, hy] at hs
  rcases List.mem_append.1 hs with hs | hs
  · exact h s hs
  · simp at hs; subst hs; exact hp
theorem all_done {α : Type} {p : α → Prop} {xs : List α} {n : Nat} (h : ∀ s ∈ xs.take n, p s) (hn : xs.length ≤ n) : ∀ s ∈ xs, p s := by rwa [take_all hn] at h
theorem c_impl_eights (xs : List ByteArray) (hl : xs.length ≤ 9223372036854775806) : F n_impl_eights [.val (.t (strs xs))] (.b (decide (eights xs))) [[]] := by
  refine i_impl_eights ?_
  conv => whnf
  refine g 0 0 [] ?_
  conv => whnf
  refine ⟨⟨I, I⟩, ?_⟩
  refine W.sq ?_
  refine g 0 0 [] ?_
  conv => whnf
  refine ⟨⟨I, I, I, I⟩, ?_⟩
  refine W.blk ?_
  refine W.lp (fun s (n : Nat) => ⟨[(0, s.s 0), (5, s.s 5), (6, s.s 6), (7, .i n)], [], []⟩) (fun (n : Nat) => n ≤ xs.length ∧ ∀ s ∈ xs.take n, s.size = 8) (fun (n : Nat) => xs.length - n) (0) [] [] ⟨rfl, ⟨rfl, rfl, rfl, rfl, I⟩, I, I⟩ (by simp) ?_
  rintro n ⟨hn, hc⟩
  conv => whnf
  refine g 0 0 [] ?_
  conv => whnf
  refine ⟨⟨I, I⟩, ?_⟩
  refine W.sq ?_
  refine W.cn ?_
  conv => whnf
  refine ⟨fun h1 => ?_, fun h1 => ?_⟩
  replace h1 := dt h1
  simp only [List.length_map] at h1
  refine W.skip ?_
  refine W.sq ?_
  refine W.blk ?_
  obtain ⟨y1, hy1⟩ := some_at (xs := xs) (n := n) (by omega)
  refine g 8 11 [.x (strT y1)] ?_
  conv => whnf
  refine ⟨⟨⟨(by omega), ixl (by assumption)⟩, I, I, I⟩, ?_⟩
  refine g 11 13 [] ?_
  conv => whnf
  refine ⟨⟨I, I, I, I⟩, ?_⟩
  refine W.cn ?_
  conv => whnf
  refine ⟨fun h2 => ?_, fun h2 => ?_⟩
  replace h2 := ndt h2
  refine g 13 14 [] ?_
  conv => whnf
  refine ⟨⟨I, I⟩, ?_⟩
  refine W.ret ?_
  refine EndsW.rt ?_
  conv => whnf
  refine ⟨⟨I, I, I⟩, ?_, rfl⟩
  rotate_left 1
  replace h2 := ndf h2
  refine W.skip ?_
  refine rg [.i ((↑n : Int) + (1 : Int))] ?_
  conv => whnf
  refine ⟨⟨w64 (by omega) (by omega), I, I⟩, ?_⟩
  rotate_left 1
  replace h1 := df h1
  simp only [List.length_map] at h1
  refine W.exit ?_
  refine g 5 18 [] ?_
  conv => whnf
  refine ⟨⟨I, I, I, I, I⟩, ?_⟩
  refine W.ret ?_
  refine EndsW.rt ?_
  conv => whnf
  refine ⟨⟨I, I, I⟩, ?_, rfl⟩
  rotate_left 1
  · exact vbf (eights_no hy1 (by assumption))
  · refine ⟨n + 1, [], [], ⟨rfl, ⟨rfl, rfl, rfl, rfl, I⟩, I, I⟩, ?_, ?_⟩
    rotate_left 1
    (dsimp only; omega)
    dsimp only
    exact ⟨by omega, all_take hc hy1 (by omega)⟩
  · exact vbd ⟨fun e => ⟨all_done hc (by omega), by simp only [List.length_map] at e; omega⟩, fun e => by have := e.2; simp only [List.length_map]; omega⟩
theorem c_spec_l2InputsOk (xs : List ByteArray) (hl : xs.length ≤ 9223372036854775806) : F n_spec_l2InputsOk [.val (.t (strs xs))] (.b (decide (eights xs))) [[]] := by
  refine i_spec_l2InputsOk ?_
  conv => whnf
  refine g 0 0 [] ?_
  conv => whnf
  refine ⟨⟨I, I⟩, ?_⟩
  refine W.sq ?_
  refine g 0 0 [] ?_
  conv => whnf
  refine ⟨⟨I, I⟩, ?_⟩
  refine W.blk ?_
  refine W.lp (fun s (n : Nat) => ⟨[(0, s.s 0), (3, .i n)], [], []⟩) (fun (n : Nat) => n ≤ xs.length ∧ ∀ s ∈ xs.take n, s.size = 8) (fun (n : Nat) => xs.length - n) (0) [] [] ⟨rfl, ⟨rfl, rfl, I⟩, I, I⟩ (by simp) ?_
  rintro n ⟨hn, hc⟩
  conv => whnf
  refine W.sq ?_
  refine g 5 7 [] ?_
  conv => whnf
  refine ⟨⟨I, I, I, I, I⟩, ?_⟩
  refine W.cn ?_
  conv => whnf
  refine ⟨fun h1 => ?_, fun h1 => ?_⟩
  replace h1 := dt h1
  simp only [List.length_map] at h1
  refine W.skip ?_
  refine W.sq ?_
  refine W.blk ?_
  obtain ⟨y1, hy1⟩ := some_at (xs := xs) (n := n) (by omega)
  refine g 7 15 [.x (strT y1)] ?_
  conv => whnf
  refine ⟨⟨I, I, ⟨(by omega), ixl (by assumption)⟩, I, I, I, I⟩, ?_⟩
  refine W.cn ?_
  conv => whnf
  refine ⟨fun h2 => ?_, fun h2 => ?_⟩
  replace h2 := ndt h2
  refine g 15 16 [] ?_
  conv => whnf
  refine ⟨⟨I, I⟩, ?_⟩
  refine W.ret ?_
  refine EndsW.rt ?_
  conv => whnf
  refine ⟨⟨I, I, I⟩, ?_, rfl⟩
  rotate_left 1
  replace h2 := ndf h2
  refine W.skip ?_
  refine rg [.i ((↑n : Int) + (1 : Int))] ?_
  conv => whnf
  refine ⟨⟨I, w64 (by omega) (by omega), I, I⟩, ?_⟩
  rotate_left 1
  replace h1 := df h1
  simp only [List.length_map] at h1
  refine W.exit ?_
  refine g 7 19 [] ?_
  conv => whnf
  refine ⟨⟨I, I, I, I, I⟩, ?_⟩
  refine W.ret ?_
  refine EndsW.rt ?_
  conv => whnf
  refine ⟨⟨I, I, I⟩, ?_, rfl⟩
  rotate_left 1
  · exact vbf (eights_no hy1 (by assumption))
  · refine ⟨n + 1, [], [], ⟨rfl, ⟨rfl, rfl, I⟩, I, I⟩, ?_, ?_⟩
    rotate_left 1
    (dsimp only; omega)
    dsimp only
    exact ⟨by omega, all_take hc hy1 (by omega)⟩
  · exact vbd ⟨fun e => ⟨all_done hc (by omega), by simp only [List.length_map] at e; omega⟩, fun e => by have := e.2; simp only [List.length_map]; omega⟩
theorem c_spec_l2LeaseOk (n : Int) : F n_spec_l2LeaseOk [.val (.i n)] (.b (decide (1 ≤ n ∧ n ≤ 300000000))) [[]] := by
  refine i_spec_l2LeaseOk ?_
  conv => whnf
  refine g 0 0 [] ?_
  conv => whnf
  refine ⟨⟨I, I⟩, ?_⟩
  refine g 0 1 [.call (V.b (decide ((1 : Int) ≤ n ∧ n ≤ (300000000 : Int)))) ([[], [], []])] ?_
  conv => whnf
  refine ⟨⟨I, ⟨⟨I, I, I, I⟩, I, ⟨⟨I, I⟩, ⟨I, I⟩, ⟨I, I⟩, I⟩, ⟨I, I⟩, Go.K.c_spec_l2In _ _ _⟩, I, I⟩, ?_⟩
  refine W.ret ?_
  refine EndsW.rt ?_
  conv => whnf
  refine ⟨⟨I, I, I⟩, ?_, rfl⟩
  rfl
end Go.K

end

section
set_option linter.unusedVariables false
set_option linter.unusedSimpArgs false
set_option maxHeartbeats 4000000
set_option maxRecDepth 20000
open Go Go.Tm Go.Proofs
namespace Go.K
structure Message where
  kind : Int
  frm : Int
  to : Int
  epoch : Int
  lease : Int
  task : Int
  text : ByteArray
  inputs : List ByteArray
  deriving DecidableEq
abbrev messageT (x : Message) : List T := [.i x.kind, .i x.frm, .i x.to, .i x.epoch, .i x.lease, .i x.task, .s x.text, .slc [false] (x.inputs.map strT)]
abbrev messageR (x : Message) : V := .agg [.t (.i x.kind), .t (.i x.frm), .t (.i x.to), .t (.i x.epoch), .t (.i x.lease), .t (.i x.task), .t (.s x.text), .t (.slc [false] (x.inputs.map strT))]
abbrev messageO (x : Message) : V := .agg [.t (.i x.kind), .t (.i x.frm), .t (.i x.to), .t (.i x.epoch), .t (.i x.lease), .t (.i x.task), .t (.s x.text), .own [false] (x.inputs.map strT)]
abbrev messageK : List Bool := [false, false, false, false, false, false, false, true]
abbrev noMessage : Message := ⟨0, 0, 0, 0, 0, 0, emp, []⟩
def messageSz (x : Message) : Int := (x.text.size : Int) + ((x.inputs.length : Int) + totS x.inputs)
theorem messageSz_nn (x : Message) : 0 ≤ messageSz x := by
  have hn0 := totS_nn x.inputs
  simp only [messageSz]; omega
def messageWf (x : Message) : Prop := x.text.size ≤ 9223372036854775807 ∧ x.inputs.length ≤ 9223372036854775807 ∧ (∀ s ∈ x.inputs, s.size ≤ 9223372036854775807)
def sumT (s : ByteArray) : ByteArray := bl (beL (fnvA h0v s) 8)
theorem sumT_size (s : ByteArray) : (sumT s).size = 8 := by unfold sumT; rw [bl_size, beL_len]
def nul : ByteArray := ⟨#[0]⟩
def sealT (body key : ByteArray) : ByteArray := sumT (key ++ nul ++ body)
theorem sealT_eq (body key : ByteArray) : bl (beL (fnvA (fnvA (fnvA h0v key) nul) body) 8) = sealT body key := by unfold sealT sumT; rw [fnvA_app, fnvA_app]
theorem fnvA_bd2 (v : Int) (s : ByteArray) (h : 0 ≤ v ∧ v ≤ 18446744073709551615) : 0 ≤ fnvA v s ∧ fnvA v s ≤ 18446744073709551615 := fold_bd _ _ h
theorem c_impl_seal (body key : ByteArray) (h1 : body.size ≤ 9223372036854775807) (h2 : key.size ≤ 9223372036854775807) : F n_impl_seal [.val (.s body), .val (.s key)] (.s (sealT body key)) [[], []] := by
  have hb := fnvA_bd2 (fnvA (fnvA h0v key) nul) body (fnvA_bd2 _ _ (fnvA_bd key))
  have e1 := fnvs_all h0v key
  have e2 := fnvs_all (fnvA h0v key) nul
  have e3 := fnvs_all (fnvA (fnvA h0v key) nul) body
  have c1 := c_impl_hash_bytes h0v key h2
  rw [e1] at c1
  have c2 := c_impl_hash_bytes (fnvA h0v key) nul (by decide)
  rw [e2] at c2
  have c3 := c_impl_hash_bytes (fnvA (fnvA h0v key) nul) body h1
  rw [e3] at c3
  have c4 := c_impl_hash_text (fnvA (fnvA (fnvA h0v key) nul) body) hb.1 hb.2
  rw [sealT_eq] at c4
  refine i_impl_seal ?_
  conv => whnf
  refine g 0 0 [] ?_
  conv => whnf
  refine ⟨⟨I, I⟩, ?_⟩
  refine g 0 0 [] ?_
  conv => whnf
  refine ⟨⟨I, ⟨I, I⟩, I⟩, ?_⟩
  refine g 6 8 [.call (V.tup []) ([[u8v (fnvA h0v key)], []])] ?_
  conv => whnf
  refine ⟨⟨I, ⟨⟨I, I, I⟩, I, ⟨I, ⟨I, I⟩, I⟩, ⟨I, I⟩, (by assumption)⟩, I⟩, ?_⟩
  refine g 1 2 [.call (V.tup []) ([[u8v (fnvA (fnvA h0v key) nul)], []])] ?_
  conv => whnf
  refine ⟨⟨⟨⟨I, I, I⟩, I, ⟨I, ⟨I, I⟩, I⟩, ⟨I, I⟩, (by assumption)⟩, I⟩, ?_⟩
  refine g 0 1 [.call (V.tup []) ([[u8v (fnvA (fnvA (fnvA h0v key) nul) body)], []])] ?_
  conv => whnf
  refine ⟨⟨I, ⟨⟨I, I, I⟩, I, ⟨I, ⟨I, I⟩, I⟩, ⟨I, I⟩, (by assumption)⟩, I⟩, ?_⟩
  refine g 10 13 [.call (V.s (sealT body key)) ([[]])] ?_
  conv => whnf
  refine ⟨⟨I, ⟨⟨I, I⟩, I, ⟨⟨I, I⟩, I⟩, ⟨I, I⟩, (by assumption)⟩, I, I⟩, ?_⟩
  refine W.ret ?_
  refine EndsW.rt ?_
  conv => whnf
  refine ⟨⟨I, I, I⟩, ?_, rfl⟩
  rfl
def msgOk (m : Message) : Prop := (1 ≤ m.epoch ∧ m.epoch ≤ 300) ∧
  ((m.kind = 1 ∧ m.frm = 0 ∧ (1 ≤ m.to ∧ m.to ≤ 8) ∧ (1 ≤ m.lease ∧ m.lease ≤ 300000000) ∧ (0 ≤ m.task ∧ m.task ≤ 39) ∧ m.text = emp ∧ eights m.inputs) ∨
   (m.kind = 2 ∧ m.to = 0 ∧ (1 ≤ m.frm ∧ m.frm ≤ 8) ∧ (1 ≤ m.lease ∧ m.lease ≤ 300000000) ∧ m.task = 0 ∧ m.text = emp ∧ (m.inputs.length : Int) = 0) ∨
   (m.kind = 3 ∧ m.to = 0 ∧ (1 ≤ m.frm ∧ m.frm ≤ 8) ∧ (1 ≤ m.lease ∧ m.lease ≤ 300000000) ∧ (0 ≤ m.task ∧ m.task ≤ 39) ∧ (m.text.size : Int) = 8 ∧ (m.inputs.length : Int) = 0) ∨
   (m.kind = 4 ∧ m.frm = 0 ∧ (1 ≤ m.to ∧ m.to ≤ 8) ∧ (1 ≤ m.lease ∧ m.lease ≤ 300000000) ∧ m.task = 0 ∧ m.text = emp ∧ (m.inputs.length : Int) = 0) ∨
   (m.kind = 5 ∧ m.to = 0 ∧ (1 ≤ m.frm ∧ m.frm ≤ 8) ∧ m.lease = 0 ∧ m.task = 0 ∧ m.text = emp ∧ (m.inputs.length : Int) = 0))
instance (m : Message) : Decidable (msgOk m) := by unfold msgOk; infer_instance
theorem c_impl_Message_valid (m : Message) (hl : m.inputs.length ≤ 9223372036854775806) : F n_impl_Message_valid [.val (messageR m)] (.b (decide (msgOk m))) [[]] := by
  refine i_impl_Message_valid ?_
  conv => whnf
  refine g 0 1 [] ?_
  conv => whnf
  refine ⟨⟨⟨I, I, I, I, I, I, I, I, I⟩, I, I⟩, ?_⟩
  refine g 0 0 [] ?_
  conv => whnf
  refine ⟨⟨I, I, I, I, I, I⟩, ?_⟩
  refine W.sq ?_
  refine g 0 0 [] ?_
  conv => whnf
  refine ⟨⟨I, I, I⟩, ?_⟩
  refine W.blk ?_
  refine g 13 14 [] ?_
  conv => whnf
  refine ⟨⟨I, I, I⟩, ?_⟩
  refine W.cn ?_
  conv => whnf
  refine ⟨fun h1 => ?_, fun h1 => ?_⟩
  replace h1 := dt h1
  refine rg [] ?_
  conv => whnf
  refine ⟨⟨I, I, I, I, I⟩, ?_⟩
  refine gd 11 26 [[], [], [], [], [], []] ?_
  conv => whnf
  refine ⟨⟨I, I, I, I, I, I, I⟩, by kernel_rfl, ?_⟩
  refine W.sq ?_
  refine g 0 0 [] ?_
  conv => whnf
  refine ⟨⟨I, I⟩, ?_⟩
  refine W.cn ?_
  conv => whnf
  refine ⟨fun _ => ?_, noF (rfl)⟩
  refine rgd [[], [], [], [], [], []] ?_
  conv => whnf
  refine ⟨⟨I, I, I, I, I, I, I⟩, by kernel_rfl, ?_⟩
  refine W.sq ?_
  by_cases h2 : Message.frm m = (0 : Int)
  by_cases h3 : (1 : Int) ≤ Message.to m ∧ Message.to m ≤ (8 : Int)
  refine g 26 43 [.b (false), .b (false), .call (V.b (decide ((1 : Int) ≤ Message.to m ∧ Message.to m ≤ (8 : Int)))) ([[], [], []]), .b (false), .b (false), .b (false), .b (false), .b (false), .call (V.b (decide ((1 : Int) ≤ Message.epoch m ∧ Message.epoch m ≤ (300 : Int)))) ([[], [], []]), .b (false), .b (false)] ?_
  conv => whnf
  refine ⟨⟨I, I, I, ⟨notF (by omega), I⟩, ⟨notF (by omega), ⟨I, I, I, I⟩, I, ⟨⟨I, I⟩, ⟨I, I⟩, ⟨I, I⟩, I⟩, ⟨I, I⟩, Go.K.c_impl_within _ _ _⟩, ⟨notF (by omega), I⟩, notF (by omega), I, ⟨notF (by omega), I⟩, ⟨notF (by omega), I⟩, ⟨notF (by omega), ⟨I, I, I, I⟩, I, ⟨⟨I, I⟩, ⟨I, I⟩, ⟨I, I⟩, I⟩, ⟨I, I⟩, Go.K.c_impl_within _ _ _⟩, ⟨notF (by omega), I⟩, notF (by omega), I⟩, ?_⟩
  refine W.cn ?_
  conv => whnf
  refine ⟨fun h4 => ?_, fun h4 => ?_⟩
  replace h4 := ndt h4
  refine g 8 9 [] ?_
  conv => whnf
  refine ⟨⟨I, I⟩, ?_⟩
  refine W.ret ?_
  refine EndsW.rt ?_
  conv => whnf
  refine ⟨⟨I, I, I⟩, ?_, rfl⟩
  rotate_left 1
  replace h4 := ndf h4
  refine W.skip ?_
  refine W.sq ?_
  by_cases h5 : (1 : Int) ≤ Message.lease m ∧ Message.lease m ≤ (300000000 : Int)
  refine g 43 59 [.b (true), .b (true), .b (true), .call (V.b (decide ((1 : Int) ≤ Message.lease m ∧ Message.lease m ≤ (300000000 : Int)))) ([[], [], []]), .b (true), .b (true), .b (false), .b (false), .b (false), .b (false), .b (false), .b (false), .b (false), .b (false), .b (false)] ?_
  conv => whnf
  refine ⟨⟨I, I, ⟨rfl, I⟩, ⟨rfl, I⟩, ⟨rfl, ⟨I, I, I, I⟩, I, ⟨⟨I, I⟩, ⟨I, I⟩, ⟨I, I⟩, I⟩, ⟨I, I⟩, Go.K.c_impl_within _ _ _⟩, ⟨rfl, I⟩, rfl, I, ⟨notF (by omega), I⟩, ⟨notF (by omega), I⟩, ⟨notF (by omega), I⟩, rfl, rfl, rfl, ⟨notF (by omega), rfl⟩, notF (by omega), I⟩, ?_⟩
  refine W.cn ?_
  conv => whnf
  refine ⟨noT (rfl), fun _ => ?_⟩
  refine W.skip ?_
  refine W.sq ?_
  by_cases h6 : (0 : Int) ≤ Message.task m ∧ Message.task m ≤ (39 : Int)
  refine g 59 75 [.b (true), .b (true), .b (true), .call (V.b (decide ((0 : Int) ≤ Message.task m ∧ Message.task m ≤ (39 : Int)))) ([[], [], []]), .b (true), .b (true), .b (false), .b (false), .b (false), .b (false), .b (false), .b (false), .b (false), .b (false), .b (false)] ?_
  conv => whnf
  refine ⟨⟨I, I, ⟨rfl, I⟩, ⟨rfl, I⟩, ⟨rfl, ⟨I, I, I, I⟩, I, ⟨⟨I, I⟩, ⟨I, I⟩, ⟨I, I⟩, I⟩, ⟨I, I⟩, Go.K.c_impl_within _ _ _⟩, ⟨rfl, I⟩, rfl, I, ⟨notF (by omega), I⟩, ⟨notF (by omega), I⟩, ⟨notF (by omega), I⟩, rfl, rfl, rfl, ⟨notF (by omega), rfl⟩, notF (by omega), I⟩, ?_⟩
  refine W.cn ?_
  conv => whnf
  refine ⟨noT (rfl), fun _ => ?_⟩
  refine W.skip ?_
  refine W.sq ?_
  refine g 10 91 [.b (false), .b (false), .b (false), .b (false), .b (false), .b (false), .b (false), .b (false), .b (true), .b (true), .b (true), .b (false), .b (true), .b (false)] ?_
  conv => whnf
  refine ⟨⟨I, I, rfl, rfl, rfl, rfl, rfl, I, ⟨rfl, I⟩, ⟨rfl, I⟩, ⟨rfl, I⟩, ⟨rfl, I⟩, ⟨rfl, I⟩, ⟨rfl, I⟩, ⟨rfl, rfl⟩, rfl, I⟩, ?_⟩
  refine W.cn ?_
  conv => whnf
  refine ⟨fun h7 => ?_, fun h7 => ?_⟩
  replace h7 := ndt h7
  refine g 7 9 [] ?_
  conv => whnf
  refine ⟨⟨I, I⟩, ?_⟩
  refine W.ret ?_
  refine EndsW.rt ?_
  conv => whnf
  refine ⟨⟨I, I, I⟩, ?_, rfl⟩
  rotate_left 1
  replace h7 := ndf h7
  refine W.skip ?_
  by_cases h8 : eights (Message.inputs m)
  refine g 5 108 [.b (true), .b (true), .b (true), .call (V.b (decide (eights (Message.inputs m)))) ([[]]), .b (true), .b (true), .b (true), .b (true), .b (false), .b (false), .b (false), .b (false), .b (true), .b (true)] ?_
  conv => whnf
  refine ⟨⟨I, I, ⟨rfl, I⟩, ⟨rfl, I⟩, ⟨rfl, ⟨I, I⟩, I, ⟨⟨I, I⟩, I⟩, ⟨I, I⟩, Go.K.c_impl_eights _ (by omega)⟩, rfl, I, decide_eq_true (by omega), decide_eq_true (by omega), decide_eq_true (by omega), I, I, I, I, decide_eq_true (by omega), decide_eq_true (by omega), I, I⟩, ?_⟩
  refine W.ret ?_
  refine EndsW.rt ?_
  conv => whnf
  refine ⟨⟨I, I, I⟩, ?_, rfl⟩
  rotate_left 1
  refine g 5 108 [.b (true), .b (true), .b (true), .call (V.b (decide (eights (Message.inputs m)))) ([[]]), .b (true), .b (false), .b (false), .b (false), .b (false), .b (false), .b (false), .b (false), .b (false), .b (false), .b (false)] ?_
  conv => whnf
  refine ⟨⟨I, I, ⟨rfl, I⟩, ⟨rfl, I⟩, ⟨rfl, ⟨I, I⟩, I, ⟨⟨I, I⟩, I⟩, ⟨I, I⟩, Go.K.c_impl_eights _ (by omega)⟩, rfl, I, ⟨decide_eq_false (by omega), I⟩, ⟨decide_eq_false (by omega), I⟩, ⟨decide_eq_false (by omega), I⟩, rfl, rfl, rfl, rfl, ⟨decide_eq_false (by omega), rfl⟩, decide_eq_false (by omega), I, I⟩, ?_⟩
  refine W.ret ?_
  refine EndsW.rt ?_
  conv => whnf
  refine ⟨⟨I, I, I⟩, ?_, rfl⟩
  rotate_left 1
  refine g 59 75 [.b (true), .b (true), .b (true), .call (V.b (decide ((0 : Int) ≤ Message.task m ∧ Message.task m ≤ (39 : Int)))) ([[], [], []]), .b (true), .b (true), .b (true), .b (true), .b (true), .b (false), .b (false), .b (false), .b (true), .b (true)] ?_
  conv => whnf
  refine ⟨⟨I, I, ⟨rfl, I⟩, ⟨rfl, I⟩, ⟨rfl, ⟨I, I, I, I⟩, I, ⟨⟨I, I⟩, ⟨I, I⟩, ⟨I, I⟩, I⟩, ⟨I, I⟩, Go.K.c_impl_within _ _ _⟩, ⟨rfl, I⟩, rfl, I, notT (by omega), notT (by omega), notT (by omega), I, I, I, notT (by omega), notT (by omega), I⟩, ?_⟩
  refine W.cn ?_
  conv => whnf
  refine ⟨fun _ => ?_, noF (rfl)⟩
  refine g 3 4 [] ?_
  conv => whnf
  refine ⟨⟨I, I⟩, ?_⟩
  refine W.ret ?_
  refine EndsW.rt ?_
  conv => whnf
  refine ⟨⟨I, I, I⟩, ?_, rfl⟩
  rotate_left 1
  refine g 43 59 [.b (true), .b (true), .b (true), .call (V.b (decide ((1 : Int) ≤ Message.lease m ∧ Message.lease m ≤ (300000000 : Int)))) ([[], [], []]), .b (true), .b (true), .b (true), .b (true), .b (true), .b (false), .b (false), .b (false), .b (true), .b (true)] ?_
  conv => whnf
  refine ⟨⟨I, I, ⟨rfl, I⟩, ⟨rfl, I⟩, ⟨rfl, ⟨I, I, I, I⟩, I, ⟨⟨I, I⟩, ⟨I, I⟩, ⟨I, I⟩, I⟩, ⟨I, I⟩, Go.K.c_impl_within _ _ _⟩, ⟨rfl, I⟩, rfl, I, notT (by omega), notT (by omega), notT (by omega), I, I, I, notT (by omega), notT (by omega), I⟩, ?_⟩
  refine W.cn ?_
  conv => whnf
  refine ⟨fun _ => ?_, noF (rfl)⟩
  refine g 3 4 [] ?_
  conv => whnf
  refine ⟨⟨I, I⟩, ?_⟩
  refine W.ret ?_
  refine EndsW.rt ?_
  conv => whnf
  refine ⟨⟨I, I, I⟩, ?_, rfl⟩
  rotate_left 1
  refine g 26 43 [.b (false), .b (false), .call (V.b (decide ((1 : Int) ≤ Message.to m ∧ Message.to m ≤ (8 : Int)))) ([[], [], []]), .b (false), .b (false), .b (true), .b (true), .b (true), .b (true), .b (true)] ?_
  conv => whnf
  refine ⟨⟨I, I, I, ⟨notF (by omega), I⟩, ⟨notF (by omega), ⟨I, I, I, I⟩, I, ⟨⟨I, I⟩, ⟨I, I⟩, ⟨I, I⟩, I⟩, ⟨I, I⟩, Go.K.c_impl_within _ _ _⟩, ⟨notF (by omega), I⟩, notF (by omega), I, notT (by omega), notT (by omega), notT (by omega), notT (by omega), notT (by omega), I⟩, ?_⟩
  refine W.cn ?_
  conv => whnf
  refine ⟨fun _ => ?_, noF (rfl)⟩
  refine g 8 9 [] ?_
  conv => whnf
  refine ⟨⟨I, I⟩, ?_⟩
  refine W.ret ?_
  refine EndsW.rt ?_
  conv => whnf
  refine ⟨⟨I, I, I⟩, ?_, rfl⟩
  rotate_left 1
  refine g 26 43 [.b (true), .b (true), .b (true), .b (true), .b (true), .b (true), .b (true), .b (true), .b (true)] ?_
  conv => whnf
  refine ⟨⟨I, I, I, notT (by omega), notT (by omega), notT (by omega), notT (by omega), I, rfl, rfl, rfl, rfl, rfl, I⟩, ?_⟩
  refine W.cn ?_
  conv => whnf
  refine ⟨fun _ => ?_, noF (rfl)⟩
  refine g 8 9 [] ?_
  conv => whnf
  refine ⟨⟨I, I⟩, ?_⟩
  refine W.ret ?_
  refine EndsW.rt ?_
  conv => whnf
  refine ⟨⟨I, I, I⟩, ?_, rfl⟩
  rotate_left 1
  replace h1 := df h1
  refine g 12 13 [] ?_
  conv => whnf
  refine ⟨⟨I, I, I⟩, ?_⟩
  refine W.cn ?_
  conv => whnf
  refine ⟨fun h2 => ?_, fun h2 => ?_⟩
  replace h2 := dt h2
  refine rg [] ?_
  conv => whnf
  refine ⟨⟨I, I⟩, ?_⟩
  refine gd 11 26 [[], [], [], [], [], []] ?_
  conv => whnf
  refine ⟨⟨I, I, I, I, I, I, I⟩, by kernel_rfl, ?_⟩
  refine W.sq ?_
  refine g 0 0 [] ?_
  conv => whnf
  refine ⟨⟨I, I⟩, ?_⟩
  refine W.cn ?_
  conv => whnf
  refine ⟨noT (rfl), fun _ => ?_⟩
  refine W.skip ?_
  refine W.sq ?_
  by_cases h3 : Message.to m = (0 : Int)
  by_cases h4 : (1 : Int) ≤ Message.frm m ∧ Message.frm m ≤ (8 : Int)
  refine g 26 43 [.b (false), .b (false), .call (V.b (decide ((1 : Int) ≤ Message.frm m ∧ Message.frm m ≤ (8 : Int)))) ([[], [], []]), .b (false), .b (false), .b (false), .b (false), .b (false), .call (V.b (decide ((1 : Int) ≤ Message.epoch m ∧ Message.epoch m ≤ (300 : Int)))) ([[], [], []]), .b (false), .b (false)] ?_
  conv => whnf
  refine ⟨⟨I, I, I, ⟨notF (by omega), I⟩, ⟨notF (by omega), ⟨I, I, I, I⟩, I, ⟨⟨I, I⟩, ⟨I, I⟩, ⟨I, I⟩, I⟩, ⟨I, I⟩, Go.K.c_impl_within _ _ _⟩, ⟨notF (by omega), I⟩, notF (by omega), I, ⟨notF (by omega), I⟩, ⟨notF (by omega), I⟩, ⟨notF (by omega), ⟨I, I, I, I⟩, I, ⟨⟨I, I⟩, ⟨I, I⟩, ⟨I, I⟩, I⟩, ⟨I, I⟩, Go.K.c_impl_within _ _ _⟩, ⟨notF (by omega), I⟩, notF (by omega), I⟩, ?_⟩
  refine W.cn ?_
  conv => whnf
  refine ⟨fun h5 => ?_, fun h5 => ?_⟩
  replace h5 := ndt h5
  refine g 8 9 [] ?_
  conv => whnf
  refine ⟨⟨I, I⟩, ?_⟩
  refine W.ret ?_
  refine EndsW.rt ?_
  conv => whnf
  refine ⟨⟨I, I, I⟩, ?_, rfl⟩
  rotate_left 1
  replace h5 := ndf h5
  refine W.skip ?_
  refine W.sq ?_
  by_cases h6 : (1 : Int) ≤ Message.lease m ∧ Message.lease m ≤ (300000000 : Int)
  refine g 43 59 [.b (true), .b (true), .b (true), .call (V.b (decide ((1 : Int) ≤ Message.lease m ∧ Message.lease m ≤ (300000000 : Int)))) ([[], [], []]), .b (true), .b (true), .b (false), .b (false), .b (false), .b (false), .b (false), .b (false), .b (false), .b (false), .b (false)] ?_
  conv => whnf
  refine ⟨⟨I, I, ⟨rfl, I⟩, ⟨rfl, I⟩, ⟨rfl, ⟨I, I, I, I⟩, I, ⟨⟨I, I⟩, ⟨I, I⟩, ⟨I, I⟩, I⟩, ⟨I, I⟩, Go.K.c_impl_within _ _ _⟩, ⟨rfl, I⟩, rfl, I, ⟨notF (by omega), I⟩, ⟨notF (by omega), I⟩, ⟨notF (by omega), I⟩, rfl, rfl, rfl, ⟨notF (by omega), rfl⟩, notF (by omega), I⟩, ?_⟩
  refine W.cn ?_
  conv => whnf
  refine ⟨noT (rfl), fun _ => ?_⟩
  refine W.skip ?_
  refine W.sq ?_
  refine g 59 75 [.b (false), .b (false), .b (false), .b (false), .b (false), .b (false), .b (false), .b (false), .b (true), .b (true), .b (true), .b (false), .b (true), .b (false)] ?_
  conv => whnf
  refine ⟨⟨I, I, rfl, rfl, rfl, rfl, rfl, I, ⟨rfl, I⟩, ⟨rfl, I⟩, ⟨rfl, I⟩, ⟨rfl, I⟩, ⟨rfl, I⟩, ⟨rfl, I⟩, ⟨rfl, rfl⟩, rfl, I⟩, ?_⟩
  refine W.cn ?_
  conv => whnf
  refine ⟨fun h7 => ?_, fun h7 => ?_⟩
  replace h7 := ndt h7
  refine g 3 4 [] ?_
  conv => whnf
  refine ⟨⟨I, I⟩, ?_⟩
  refine W.ret ?_
  refine EndsW.rt ?_
  conv => whnf
  refine ⟨⟨I, I, I⟩, ?_, rfl⟩
  rotate_left 1
  replace h7 := ndf h7
  refine W.skip ?_
  refine W.sq ?_
  refine g 10 91 [.b (false), .b (false), .b (false), .b (false), .b (false), .b (false), .b (false), .b (false), .b (true), .b (true), .b (true), .b (false), .b (true), .b (false)] ?_
  conv => whnf
  refine ⟨⟨I, I, rfl, rfl, rfl, rfl, rfl, I, ⟨rfl, I⟩, ⟨rfl, I⟩, ⟨rfl, I⟩, ⟨rfl, I⟩, ⟨rfl, I⟩, ⟨rfl, I⟩, ⟨rfl, rfl⟩, rfl, I⟩, ?_⟩
  refine W.cn ?_
  conv => whnf
  refine ⟨fun h8 => ?_, fun h8 => ?_⟩
  replace h8 := ndt h8
  refine g 7 9 [] ?_
  conv => whnf
  refine ⟨⟨I, I⟩, ?_⟩
  refine W.ret ?_
  refine EndsW.rt ?_
  conv => whnf
  refine ⟨⟨I, I, I⟩, ?_, rfl⟩
  rotate_left 1
  replace h8 := ndf h8
  refine W.skip ?_
  refine g 5 108 [.b (false), .b (false), .b (false), .b (false), .b (false), .b (false), .b (false), .b (true), .b (true), .b (true), .b (true), .b (false), .b (true), .b (false)] ?_
  conv => whnf
  refine ⟨⟨I, I, rfl, rfl, rfl, rfl, I, ⟨rfl, I⟩, ⟨rfl, I⟩, ⟨rfl, I⟩, ⟨rfl, I⟩, ⟨rfl, I⟩, ⟨rfl, I⟩, ⟨rfl, I⟩, ⟨rfl, rfl⟩, rfl, I, I⟩, ?_⟩
  refine W.ret ?_
  refine EndsW.rt ?_
  conv => whnf
  refine ⟨⟨I, I, I⟩, ?_, rfl⟩
  rotate_left 1
  refine g 43 59 [.b (true), .b (true), .b (true), .call (V.b (decide ((1 : Int) ≤ Message.lease m ∧ Message.lease m ≤ (300000000 : Int)))) ([[], [], []]), .b (true), .b (true), .b (true), .b (true), .b (true), .b (false), .b (false), .b (false), .b (true), .b (true)] ?_
  conv => whnf
  refine ⟨⟨I, I, ⟨rfl, I⟩, ⟨rfl, I⟩, ⟨rfl, ⟨I, I, I, I⟩, I, ⟨⟨I, I⟩, ⟨I, I⟩, ⟨I, I⟩, I⟩, ⟨I, I⟩, Go.K.c_impl_within _ _ _⟩, ⟨rfl, I⟩, rfl, I, notT (by omega), notT (by omega), notT (by omega), I, I, I, notT (by omega), notT (by omega), I⟩, ?_⟩
  refine W.cn ?_
  conv => whnf
  refine ⟨fun _ => ?_, noF (rfl)⟩
  refine g 3 4 [] ?_
  conv => whnf
  refine ⟨⟨I, I⟩, ?_⟩
  refine W.ret ?_
  refine EndsW.rt ?_
  conv => whnf
  refine ⟨⟨I, I, I⟩, ?_, rfl⟩
  rotate_left 1
  refine g 26 43 [.b (false), .b (false), .call (V.b (decide ((1 : Int) ≤ Message.frm m ∧ Message.frm m ≤ (8 : Int)))) ([[], [], []]), .b (false), .b (false), .b (true), .b (true), .b (true), .b (true), .b (true)] ?_
  conv => whnf
  refine ⟨⟨I, I, I, ⟨notF (by omega), I⟩, ⟨notF (by omega), ⟨I, I, I, I⟩, I, ⟨⟨I, I⟩, ⟨I, I⟩, ⟨I, I⟩, I⟩, ⟨I, I⟩, Go.K.c_impl_within _ _ _⟩, ⟨notF (by omega), I⟩, notF (by omega), I, notT (by omega), notT (by omega), notT (by omega), notT (by omega), notT (by omega), I⟩, ?_⟩
  refine W.cn ?_
  conv => whnf
  refine ⟨fun _ => ?_, noF (rfl)⟩
  refine g 8 9 [] ?_
  conv => whnf
  refine ⟨⟨I, I⟩, ?_⟩
  refine W.ret ?_
  refine EndsW.rt ?_
  conv => whnf
  refine ⟨⟨I, I, I⟩, ?_, rfl⟩
  rotate_left 1
  refine g 26 43 [.b (true), .b (true), .b (true), .b (true), .b (true), .b (true), .b (true), .b (true), .b (true)] ?_
  conv => whnf
  refine ⟨⟨I, I, I, notT (by omega), notT (by omega), notT (by omega), notT (by omega), I, rfl, rfl, rfl, rfl, rfl, I⟩, ?_⟩
  refine W.cn ?_
  conv => whnf
  refine ⟨fun _ => ?_, noF (rfl)⟩
  refine g 8 9 [] ?_
  conv => whnf
  refine ⟨⟨I, I⟩, ?_⟩
  refine W.ret ?_
  refine EndsW.rt ?_
  conv => whnf
  refine ⟨⟨I, I, I⟩, ?_, rfl⟩
  rotate_left 1
  replace h2 := df h2
  refine g 14 16 [] ?_
  conv => whnf
  refine ⟨⟨I, I, I⟩, ?_⟩
  refine W.cn ?_
  conv => whnf
  refine ⟨fun h3 => ?_, fun h3 => ?_⟩
  replace h3 := dt h3
  refine rg [] ?_
  conv => whnf
  refine ⟨⟨I, I, I, I⟩, ?_⟩
  refine gd 11 26 [[], [], [], [], [], []] ?_
  conv => whnf
  refine ⟨⟨I, I, I, I, I, I, I⟩, by kernel_rfl, ?_⟩
  refine W.sq ?_
  refine g 0 0 [] ?_
  conv => whnf
  refine ⟨⟨I, I⟩, ?_⟩
  refine W.cn ?_
  conv => whnf
  refine ⟨noT (rfl), fun _ => ?_⟩
  refine W.skip ?_
  refine W.sq ?_
  by_cases h4 : Message.to m = (0 : Int)
  by_cases h5 : (1 : Int) ≤ Message.frm m ∧ Message.frm m ≤ (8 : Int)
  refine g 26 43 [.b (false), .b (false), .call (V.b (decide ((1 : Int) ≤ Message.frm m ∧ Message.frm m ≤ (8 : Int)))) ([[], [], []]), .b (false), .b (false), .b (false), .b (false), .b (false), .call (V.b (decide ((1 : Int) ≤ Message.epoch m ∧ Message.epoch m ≤ (300 : Int)))) ([[], [], []]), .b (false), .b (false)] ?_
  conv => whnf
  refine ⟨⟨I, I, I, ⟨notF (by omega), I⟩, ⟨notF (by omega), ⟨I, I, I, I⟩, I, ⟨⟨I, I⟩, ⟨I, I⟩, ⟨I, I⟩, I⟩, ⟨I, I⟩, Go.K.c_impl_within _ _ _⟩, ⟨notF (by omega), I⟩, notF (by omega), I, ⟨notF (by omega), I⟩, ⟨notF (by omega), I⟩, ⟨notF (by omega), ⟨I, I, I, I⟩, I, ⟨⟨I, I⟩, ⟨I, I⟩, ⟨I, I⟩, I⟩, ⟨I, I⟩, Go.K.c_impl_within _ _ _⟩, ⟨notF (by omega), I⟩, notF (by omega), I⟩, ?_⟩
  refine W.cn ?_
  conv => whnf
  refine ⟨fun h6 => ?_, fun h6 => ?_⟩
  replace h6 := ndt h6
  refine g 8 9 [] ?_
  conv => whnf
  refine ⟨⟨I, I⟩, ?_⟩
  refine W.ret ?_
  refine EndsW.rt ?_
  conv => whnf
  refine ⟨⟨I, I, I⟩, ?_, rfl⟩
  rotate_left 1
  replace h6 := ndf h6
  refine W.skip ?_
  refine W.sq ?_
  by_cases h7 : (1 : Int) ≤ Message.lease m ∧ Message.lease m ≤ (300000000 : Int)
  refine g 43 59 [.b (true), .b (true), .b (true), .call (V.b (decide ((1 : Int) ≤ Message.lease m ∧ Message.lease m ≤ (300000000 : Int)))) ([[], [], []]), .b (true), .b (true), .b (false), .b (false), .b (false), .b (false), .b (false), .b (false), .b (false), .b (false), .b (false)] ?_
  conv => whnf
  refine ⟨⟨I, I, ⟨rfl, I⟩, ⟨rfl, I⟩, ⟨rfl, ⟨I, I, I, I⟩, I, ⟨⟨I, I⟩, ⟨I, I⟩, ⟨I, I⟩, I⟩, ⟨I, I⟩, Go.K.c_impl_within _ _ _⟩, ⟨rfl, I⟩, rfl, I, ⟨notF (by omega), I⟩, ⟨notF (by omega), I⟩, ⟨notF (by omega), I⟩, rfl, rfl, rfl, ⟨notF (by omega), rfl⟩, notF (by omega), I⟩, ?_⟩
  refine W.cn ?_
  conv => whnf
  refine ⟨noT (rfl), fun _ => ?_⟩
  refine W.skip ?_
  refine W.sq ?_
  by_cases h8 : (0 : Int) ≤ Message.task m ∧ Message.task m ≤ (39 : Int)
  refine g 59 75 [.b (true), .b (true), .b (true), .call (V.b (decide ((0 : Int) ≤ Message.task m ∧ Message.task m ≤ (39 : Int)))) ([[], [], []]), .b (true), .b (true), .b (false), .b (false), .b (false), .b (false), .b (false), .b (false), .b (false), .b (false), .b (false)] ?_
  conv => whnf
  refine ⟨⟨I, I, ⟨rfl, I⟩, ⟨rfl, I⟩, ⟨rfl, ⟨I, I, I, I⟩, I, ⟨⟨I, I⟩, ⟨I, I⟩, ⟨I, I⟩, I⟩, ⟨I, I⟩, Go.K.c_impl_within _ _ _⟩, ⟨rfl, I⟩, rfl, I, ⟨notF (by omega), I⟩, ⟨notF (by omega), I⟩, ⟨notF (by omega), I⟩, rfl, rfl, rfl, ⟨notF (by omega), rfl⟩, notF (by omega), I⟩, ?_⟩
  refine W.cn ?_
  conv => whnf
  refine ⟨noT (rfl), fun _ => ?_⟩
  refine W.skip ?_
  refine W.sq ?_
  by_cases h9 : (↑(ByteArray.size (Message.text m)) : Int) = (8 : Int)
  refine g 10 91 [.b (true), .b (true), .b (true), .b (true), .b (true), .b (false), .b (false), .b (false), .b (false), .b (false), .b (false), .b (false), .b (false), .b (false)] ?_
  conv => whnf
  refine ⟨⟨I, I, ⟨rfl, I⟩, ⟨rfl, I⟩, ⟨rfl, I⟩, ⟨rfl, I⟩, rfl, I, ⟨notF (by omega), I⟩, ⟨notF (by omega), I⟩, ⟨notF (by omega), I⟩, rfl, rfl, rfl, ⟨notF (by omega), rfl⟩, notF (by omega), I⟩, ?_⟩
  refine W.cn ?_
  conv => whnf
  refine ⟨noT (rfl), fun _ => ?_⟩
  refine W.skip ?_
  refine g 5 108 [.b (false), .b (false), .b (false), .b (false), .b (false), .b (false), .b (false), .b (true), .b (true), .b (true), .b (true), .b (false), .b (true), .b (false)] ?_
  conv => whnf
  refine ⟨⟨I, I, rfl, rfl, rfl, rfl, I, ⟨rfl, I⟩, ⟨rfl, I⟩, ⟨rfl, I⟩, ⟨rfl, I⟩, ⟨rfl, I⟩, ⟨rfl, I⟩, ⟨rfl, I⟩, ⟨rfl, rfl⟩, rfl, I, I⟩, ?_⟩
  refine W.ret ?_
  refine EndsW.rt ?_
  conv => whnf
  refine ⟨⟨I, I, I⟩, ?_, rfl⟩
  rotate_left 1
  refine g 10 91 [.b (true), .b (true), .b (true), .b (true), .b (true), .b (true), .b (true), .b (true), .b (false), .b (false), .b (false), .b (true), .b (true)] ?_
  conv => whnf
  refine ⟨⟨I, I, ⟨rfl, I⟩, ⟨rfl, I⟩, ⟨rfl, I⟩, ⟨rfl, I⟩, rfl, I, notT (by omega), notT (by omega), notT (by omega), I, I, I, notT (by omega), notT (by omega), I⟩, ?_⟩
  refine W.cn ?_
  conv => whnf
  refine ⟨fun _ => ?_, noF (rfl)⟩
  refine g 7 9 [] ?_
  conv => whnf
  refine ⟨⟨I, I⟩, ?_⟩
  refine W.ret ?_
  refine EndsW.rt ?_
  conv => whnf
  refine ⟨⟨I, I, I⟩, ?_, rfl⟩
  rotate_left 1
  refine g 59 75 [.b (true), .b (true), .b (true), .call (V.b (decide ((0 : Int) ≤ Message.task m ∧ Message.task m ≤ (39 : Int)))) ([[], [], []]), .b (true), .b (true), .b (true), .b (true), .b (true), .b (false), .b (false), .b (false), .b (true), .b (true)] ?_
  conv => whnf
  refine ⟨⟨I, I, ⟨rfl, I⟩, ⟨rfl, I⟩, ⟨rfl, ⟨I, I, I, I⟩, I, ⟨⟨I, I⟩, ⟨I, I⟩, ⟨I, I⟩, I⟩, ⟨I, I⟩, Go.K.c_impl_within _ _ _⟩, ⟨rfl, I⟩, rfl, I, notT (by omega), notT (by omega), notT (by omega), I, I, I, notT (by omega), notT (by omega), I⟩, ?_⟩
  refine W.cn ?_
  conv => whnf
  refine ⟨fun _ => ?_, noF (rfl)⟩
  refine g 3 4 [] ?_
  conv => whnf
  refine ⟨⟨I, I⟩, ?_⟩
  refine W.ret ?_
  refine EndsW.rt ?_
  conv => whnf
  refine ⟨⟨I, I, I⟩, ?_, rfl⟩
  rotate_left 1
  refine g 43 59 [.b (true), .b (true), .b (true), .call (V.b (decide ((1 : Int) ≤ Message.lease m ∧ Message.lease m ≤ (300000000 : Int)))) ([[], [], []]), .b (true), .b (true), .b (true), .b (true), .b (true), .b (false), .b (false), .b (false), .b (true), .b (true)] ?_
  conv => whnf
  refine ⟨⟨I, I, ⟨rfl, I⟩, ⟨rfl, I⟩, ⟨rfl, ⟨I, I, I, I⟩, I, ⟨⟨I, I⟩, ⟨I, I⟩, ⟨I, I⟩, I⟩, ⟨I, I⟩, Go.K.c_impl_within _ _ _⟩, ⟨rfl, I⟩, rfl, I, notT (by omega), notT (by omega), notT (by omega), I, I, I, notT (by omega), notT (by omega), I⟩, ?_⟩
  refine W.cn ?_
  conv => whnf
  refine ⟨fun _ => ?_, noF (rfl)⟩
  refine g 3 4 [] ?_
  conv => whnf
  refine ⟨⟨I, I⟩, ?_⟩
  refine W.ret ?_
  refine EndsW.rt ?_
  conv => whnf
  refine ⟨⟨I, I, I⟩, ?_, rfl⟩
  rotate_left 1
  refine g 26 43 [.b (false), .b (false), .call (V.b (decide ((1 : Int) ≤ Message.frm m ∧ Message.frm m ≤ (8 : Int)))) ([[], [], []]), .b (false), .b (false), .b (true), .b (true), .b (true), .b (true), .b (true)] ?_
  conv => whnf
  refine ⟨⟨I, I, I, ⟨notF (by omega), I⟩, ⟨notF (by omega), ⟨I, I, I, I⟩, I, ⟨⟨I, I⟩, ⟨I, I⟩, ⟨I, I⟩, I⟩, ⟨I, I⟩, Go.K.c_impl_within _ _ _⟩, ⟨notF (by omega), I⟩, notF (by omega), I, notT (by omega), notT (by omega), notT (by omega), notT (by omega), notT (by omega), I⟩, ?_⟩
  refine W.cn ?_
  conv => whnf
  refine ⟨fun _ => ?_, noF (rfl)⟩
  refine g 8 9 [] ?_
  conv => whnf
  refine ⟨⟨I, I⟩, ?_⟩
  refine W.ret ?_
  refine EndsW.rt ?_
  conv => whnf
  refine ⟨⟨I, I, I⟩, ?_, rfl⟩
  rotate_left 1
  refine g 26 43 [.b (true), .b (true), .b (true), .b (true), .b (true), .b (true), .b (true), .b (true), .b (true)] ?_
  conv => whnf
  refine ⟨⟨I, I, I, notT (by omega), notT (by omega), notT (by omega), notT (by omega), I, rfl, rfl, rfl, rfl, rfl, I⟩, ?_⟩
  refine W.cn ?_
  conv => whnf
  refine ⟨fun _ => ?_, noF (rfl)⟩
  refine g 8 9 [] ?_
  conv => whnf
  refine ⟨⟨I, I⟩, ?_⟩
  refine W.ret ?_
  refine EndsW.rt ?_
  conv => whnf
  refine ⟨⟨I, I, I⟩, ?_, rfl⟩
  rotate_left 1
  replace h3 := df h3
  refine g 16 18 [] ?_
  conv => whnf
  refine ⟨⟨I, I, I⟩, ?_⟩
  refine W.cn ?_
  conv => whnf
  refine ⟨fun h4 => ?_, fun h4 => ?_⟩
  replace h4 := dt h4
  refine rg [] ?_
  conv => whnf
  refine ⟨⟨I, I, I⟩, ?_⟩
  refine gd 11 26 [[], [], [], [], [], []] ?_
  conv => whnf
  refine ⟨⟨I, I, I, I, I, I, I⟩, by kernel_rfl, ?_⟩
  refine W.sq ?_
  refine g 0 0 [] ?_
  conv => whnf
  refine ⟨⟨I, I⟩, ?_⟩
  refine W.cn ?_
  conv => whnf
  refine ⟨fun _ => ?_, noF (rfl)⟩
  refine rgd [[], [], [], [], [], []] ?_
  conv => whnf
  refine ⟨⟨I, I, I, I, I, I, I⟩, by kernel_rfl, ?_⟩
  refine W.sq ?_
  by_cases h5 : Message.frm m = (0 : Int)
  by_cases h6 : (1 : Int) ≤ Message.to m ∧ Message.to m ≤ (8 : Int)
  refine g 26 43 [.b (false), .b (false), .call (V.b (decide ((1 : Int) ≤ Message.to m ∧ Message.to m ≤ (8 : Int)))) ([[], [], []]), .b (false), .b (false), .b (false), .b (false), .b (false), .call (V.b (decide ((1 : Int) ≤ Message.epoch m ∧ Message.epoch m ≤ (300 : Int)))) ([[], [], []]), .b (false), .b (false)] ?_
  conv => whnf
  refine ⟨⟨I, I, I, ⟨notF (by omega), I⟩, ⟨notF (by omega), ⟨I, I, I, I⟩, I, ⟨⟨I, I⟩, ⟨I, I⟩, ⟨I, I⟩, I⟩, ⟨I, I⟩, Go.K.c_impl_within _ _ _⟩, ⟨notF (by omega), I⟩, notF (by omega), I, ⟨notF (by omega), I⟩, ⟨notF (by omega), I⟩, ⟨notF (by omega), ⟨I, I, I, I⟩, I, ⟨⟨I, I⟩, ⟨I, I⟩, ⟨I, I⟩, I⟩, ⟨I, I⟩, Go.K.c_impl_within _ _ _⟩, ⟨notF (by omega), I⟩, notF (by omega), I⟩, ?_⟩
  refine W.cn ?_
  conv => whnf
  refine ⟨fun h7 => ?_, fun h7 => ?_⟩
  replace h7 := ndt h7
  refine g 8 9 [] ?_
  conv => whnf
  refine ⟨⟨I, I⟩, ?_⟩
  refine W.ret ?_
  refine EndsW.rt ?_
  conv => whnf
  refine ⟨⟨I, I, I⟩, ?_, rfl⟩
  rotate_left 1
  replace h7 := ndf h7
  refine W.skip ?_
  refine W.sq ?_
  by_cases h8 : (1 : Int) ≤ Message.lease m ∧ Message.lease m ≤ (300000000 : Int)
  refine g 43 59 [.b (true), .b (true), .b (true), .call (V.b (decide ((1 : Int) ≤ Message.lease m ∧ Message.lease m ≤ (300000000 : Int)))) ([[], [], []]), .b (true), .b (true), .b (false), .b (false), .b (false), .b (false), .b (false), .b (false), .b (false), .b (false), .b (false)] ?_
  conv => whnf
  refine ⟨⟨I, I, ⟨rfl, I⟩, ⟨rfl, I⟩, ⟨rfl, ⟨I, I, I, I⟩, I, ⟨⟨I, I⟩, ⟨I, I⟩, ⟨I, I⟩, I⟩, ⟨I, I⟩, Go.K.c_impl_within _ _ _⟩, ⟨rfl, I⟩, rfl, I, ⟨notF (by omega), I⟩, ⟨notF (by omega), I⟩, ⟨notF (by omega), I⟩, rfl, rfl, rfl, ⟨notF (by omega), rfl⟩, notF (by omega), I⟩, ?_⟩
  refine W.cn ?_
  conv => whnf
  refine ⟨noT (rfl), fun _ => ?_⟩
  refine W.skip ?_
  refine W.sq ?_
  refine g 59 75 [.b (false), .b (false), .b (false), .b (false), .b (false), .b (false), .b (false), .b (false), .b (true), .b (true), .b (true), .b (false), .b (true), .b (false)] ?_
  conv => whnf
  refine ⟨⟨I, I, rfl, rfl, rfl, rfl, rfl, I, ⟨rfl, I⟩, ⟨rfl, I⟩, ⟨rfl, I⟩, ⟨rfl, I⟩, ⟨rfl, I⟩, ⟨rfl, I⟩, ⟨rfl, rfl⟩, rfl, I⟩, ?_⟩
  refine W.cn ?_
  conv => whnf
  refine ⟨fun h9 => ?_, fun h9 => ?_⟩
  replace h9 := ndt h9
  refine g 3 4 [] ?_
  conv => whnf
  refine ⟨⟨I, I⟩, ?_⟩
  refine W.ret ?_
  refine EndsW.rt ?_
  conv => whnf
  refine ⟨⟨I, I, I⟩, ?_, rfl⟩
  rotate_left 1
  replace h9 := ndf h9
  refine W.skip ?_
  refine W.sq ?_
  refine g 10 91 [.b (false), .b (false), .b (false), .b (false), .b (false), .b (false), .b (false), .b (false), .b (true), .b (true), .b (true), .b (false), .b (true), .b (false)] ?_
  conv => whnf
  refine ⟨⟨I, I, rfl, rfl, rfl, rfl, rfl, I, ⟨rfl, I⟩, ⟨rfl, I⟩, ⟨rfl, I⟩, ⟨rfl, I⟩, ⟨rfl, I⟩, ⟨rfl, I⟩, ⟨rfl, rfl⟩, rfl, I⟩, ?_⟩
  refine W.cn ?_
  conv => whnf
  refine ⟨fun h10 => ?_, fun h10 => ?_⟩
  replace h10 := ndt h10
  refine g 7 9 [] ?_
  conv => whnf
  refine ⟨⟨I, I⟩, ?_⟩
  refine W.ret ?_
  refine EndsW.rt ?_
  conv => whnf
  refine ⟨⟨I, I, I⟩, ?_, rfl⟩
  rotate_left 1
  replace h10 := ndf h10
  refine W.skip ?_
  refine g 5 108 [.b (false), .b (false), .b (false), .b (false), .b (false), .b (false), .b (false), .b (true), .b (true), .b (true), .b (true), .b (false), .b (true), .b (false)] ?_
  conv => whnf
  refine ⟨⟨I, I, rfl, rfl, rfl, rfl, I, ⟨rfl, I⟩, ⟨rfl, I⟩, ⟨rfl, I⟩, ⟨rfl, I⟩, ⟨rfl, I⟩, ⟨rfl, I⟩, ⟨rfl, I⟩, ⟨rfl, rfl⟩, rfl, I, I⟩, ?_⟩
  refine W.ret ?_
  refine EndsW.rt ?_
  conv => whnf
  refine ⟨⟨I, I, I⟩, ?_, rfl⟩
  rotate_left 1
  refine g 43 59 [.b (true), .b (true), .b (true), .call (V.b (decide ((1 : Int) ≤ Message.lease m ∧ Message.lease m ≤ (300000000 : Int)))) ([[], [], []]), .b (true), .b (true), .b (true), .b (true), .b (true), .b (false), .b (false), .b (false), .b (true), .b (true)] ?_
  conv => whnf
  refine ⟨⟨I, I, ⟨rfl, I⟩, ⟨rfl, I⟩, ⟨rfl, ⟨I, I, I, I⟩, I, ⟨⟨I, I⟩, ⟨I, I⟩, ⟨I, I⟩, I⟩, ⟨I, I⟩, Go.K.c_impl_within _ _ _⟩, ⟨rfl, I⟩, rfl, I, notT (by omega), notT (by omega), notT (by omega), I, I, I, notT (by omega), notT (by omega), I⟩, ?_⟩
  refine W.cn ?_
  conv => whnf
  refine ⟨fun _ => ?_, noF (rfl)⟩
  refine g 3 4 [] ?_
  conv => whnf
  refine ⟨⟨I, I⟩, ?_⟩
  refine W.ret ?_
  refine EndsW.rt ?_
  conv => whnf
  refine ⟨⟨I, I, I⟩, ?_, rfl⟩
  rotate_left 1
  refine g 26 43 [.b (false), .b (false), .call (V.b (decide ((1 : Int) ≤ Message.to m ∧ Message.to m ≤ (8 : Int)))) ([[], [], []]), .b (false), .b (false), .b (true), .b (true), .b (true), .b (true), .b (true)] ?_
  conv => whnf
  refine ⟨⟨I, I, I, ⟨notF (by omega), I⟩, ⟨notF (by omega), ⟨I, I, I, I⟩, I, ⟨⟨I, I⟩, ⟨I, I⟩, ⟨I, I⟩, I⟩, ⟨I, I⟩, Go.K.c_impl_within _ _ _⟩, ⟨notF (by omega), I⟩, notF (by omega), I, notT (by omega), notT (by omega), notT (by omega), notT (by omega), notT (by omega), I⟩, ?_⟩
  refine W.cn ?_
  conv => whnf
  refine ⟨fun _ => ?_, noF (rfl)⟩
  refine g 8 9 [] ?_
  conv => whnf
  refine ⟨⟨I, I⟩, ?_⟩
  refine W.ret ?_
  refine EndsW.rt ?_
  conv => whnf
  refine ⟨⟨I, I, I⟩, ?_, rfl⟩
  rotate_left 1
  refine g 26 43 [.b (true), .b (true), .b (true), .b (true), .b (true), .b (true), .b (true), .b (true), .b (true)] ?_
  conv => whnf
  refine ⟨⟨I, I, I, notT (by omega), notT (by omega), notT (by omega), notT (by omega), I, rfl, rfl, rfl, rfl, rfl, I⟩, ?_⟩
  refine W.cn ?_
  conv => whnf
  refine ⟨fun _ => ?_, noF (rfl)⟩
  refine g 8 9 [] ?_
  conv => whnf
  refine ⟨⟨I, I⟩, ?_⟩
  refine W.ret ?_
  refine EndsW.rt ?_
  conv => whnf
  refine ⟨⟨I, I, I⟩, ?_, rfl⟩
  rotate_left 1
  replace h4 := df h4
  refine g 11 20 [] ?_
  conv => whnf
  refine ⟨⟨I, I, I⟩, ?_⟩
  refine W.cn ?_
  conv => whnf
  refine ⟨fun h5 => ?_, fun h5 => ?_⟩
  replace h5 := dt h5
  refine W.skip ?_
  refine gd 20 26 [[], [], [], [], [], []] ?_
  conv => whnf
  refine ⟨⟨I, I, I, I, I, I, I⟩, by kernel_rfl, ?_⟩
  refine W.sq ?_
  refine g 0 0 [] ?_
  conv => whnf
  refine ⟨⟨I, I⟩, ?_⟩
  refine W.cn ?_
  conv => whnf
  refine ⟨noT (rfl), fun _ => ?_⟩
  refine W.skip ?_
  refine W.sq ?_
  by_cases h6 : Message.to m = (0 : Int)
  by_cases h7 : (1 : Int) ≤ Message.frm m ∧ Message.frm m ≤ (8 : Int)
  refine g 26 43 [.b (false), .b (false), .call (V.b (decide ((1 : Int) ≤ Message.frm m ∧ Message.frm m ≤ (8 : Int)))) ([[], [], []]), .b (false), .b (false), .b (false), .b (false), .b (false), .call (V.b (decide ((1 : Int) ≤ Message.epoch m ∧ Message.epoch m ≤ (300 : Int)))) ([[], [], []]), .b (false), .b (false)] ?_
  conv => whnf
  refine ⟨⟨I, I, I, ⟨notF (by omega), I⟩, ⟨notF (by omega), ⟨I, I, I, I⟩, I, ⟨⟨I, I⟩, ⟨I, I⟩, ⟨I, I⟩, I⟩, ⟨I, I⟩, Go.K.c_impl_within _ _ _⟩, ⟨notF (by omega), I⟩, notF (by omega), I, ⟨notF (by omega), I⟩, ⟨notF (by omega), I⟩, ⟨notF (by omega), ⟨I, I, I, I⟩, I, ⟨⟨I, I⟩, ⟨I, I⟩, ⟨I, I⟩, I⟩, ⟨I, I⟩, Go.K.c_impl_within _ _ _⟩, ⟨notF (by omega), I⟩, notF (by omega), I⟩, ?_⟩
  refine W.cn ?_
  conv => whnf
  refine ⟨fun h8 => ?_, fun h8 => ?_⟩
  replace h8 := ndt h8
  refine g 8 9 [] ?_
  conv => whnf
  refine ⟨⟨I, I⟩, ?_⟩
  refine W.ret ?_
  refine EndsW.rt ?_
  conv => whnf
  refine ⟨⟨I, I, I⟩, ?_, rfl⟩
  rotate_left 1
  replace h8 := ndf h8
  refine W.skip ?_
  refine W.sq ?_
  refine g 43 59 [.b (false), .b (false), .b (false), .b (false), .b (false), .b (false), .b (false), .b (false), .b (true), .b (true), .b (true), .b (false), .b (true), .b (false)] ?_
  conv => whnf
  refine ⟨⟨I, I, rfl, rfl, rfl, rfl, rfl, I, ⟨rfl, I⟩, ⟨rfl, I⟩, ⟨rfl, I⟩, ⟨rfl, I⟩, ⟨rfl, I⟩, ⟨rfl, I⟩, ⟨rfl, rfl⟩, rfl, I⟩, ?_⟩
  refine W.cn ?_
  conv => whnf
  refine ⟨fun h9 => ?_, fun h9 => ?_⟩
  replace h9 := ndt h9
  refine g 3 4 [] ?_
  conv => whnf
  refine ⟨⟨I, I⟩, ?_⟩
  refine W.ret ?_
  refine EndsW.rt ?_
  conv => whnf
  refine ⟨⟨I, I, I⟩, ?_, rfl⟩
  rotate_left 1
  replace h9 := ndf h9
  refine W.skip ?_
  refine W.sq ?_
  refine g 59 75 [.b (false), .b (false), .b (false), .b (false), .b (false), .b (false), .b (false), .b (false), .b (true), .b (true), .b (true), .b (false), .b (true), .b (false)] ?_
  conv => whnf
  refine ⟨⟨I, I, rfl, rfl, rfl, rfl, rfl, I, ⟨rfl, I⟩, ⟨rfl, I⟩, ⟨rfl, I⟩, ⟨rfl, I⟩, ⟨rfl, I⟩, ⟨rfl, I⟩, ⟨rfl, rfl⟩, rfl, I⟩, ?_⟩
  refine W.cn ?_
  conv => whnf
  refine ⟨fun h10 => ?_, fun h10 => ?_⟩
  replace h10 := ndt h10
  refine g 3 4 [] ?_
  conv => whnf
  refine ⟨⟨I, I⟩, ?_⟩
  refine W.ret ?_
  refine EndsW.rt ?_
  conv => whnf
  refine ⟨⟨I, I, I⟩, ?_, rfl⟩
  rotate_left 1
  replace h10 := ndf h10
  refine W.skip ?_
  refine W.sq ?_
  refine g 10 91 [.b (false), .b (false), .b (false), .b (false), .b (false), .b (false), .b (false), .b (false), .b (true), .b (true), .b (true), .b (false), .b (true), .b (false)] ?_
  conv => whnf
  refine ⟨⟨I, I, rfl, rfl, rfl, rfl, rfl, I, ⟨rfl, I⟩, ⟨rfl, I⟩, ⟨rfl, I⟩, ⟨rfl, I⟩, ⟨rfl, I⟩, ⟨rfl, I⟩, ⟨rfl, rfl⟩, rfl, I⟩, ?_⟩
  refine W.cn ?_
  conv => whnf
  refine ⟨fun h11 => ?_, fun h11 => ?_⟩
  replace h11 := ndt h11
  refine g 7 9 [] ?_
  conv => whnf
  refine ⟨⟨I, I⟩, ?_⟩
  refine W.ret ?_
  refine EndsW.rt ?_
  conv => whnf
  refine ⟨⟨I, I, I⟩, ?_, rfl⟩
  rotate_left 1
  replace h11 := ndf h11
  refine W.skip ?_
  refine g 5 108 [.b (false), .b (false), .b (false), .b (false), .b (false), .b (false), .b (false), .b (true), .b (true), .b (true), .b (true), .b (false), .b (true), .b (false)] ?_
  conv => whnf
  refine ⟨⟨I, I, rfl, rfl, rfl, rfl, I, ⟨rfl, I⟩, ⟨rfl, I⟩, ⟨rfl, I⟩, ⟨rfl, I⟩, ⟨rfl, I⟩, ⟨rfl, I⟩, ⟨rfl, I⟩, ⟨rfl, rfl⟩, rfl, I, I⟩, ?_⟩
  refine W.ret ?_
  refine EndsW.rt ?_
  conv => whnf
  refine ⟨⟨I, I, I⟩, ?_, rfl⟩
  rotate_left 1
  refine g 26 43 [.b (false), .b (false), .call (V.b (decide ((1 : Int) ≤ Message.frm m ∧ Message.frm m ≤ (8 : Int)))) ([[], [], []]), .b (false), .b (false), .b (true), .b (true), .b (true), .b (true), .b (true)] ?_
  conv => whnf
  refine ⟨⟨I, I, I, ⟨notF (by omega), I⟩, ⟨notF (by omega), ⟨I, I, I, I⟩, I, ⟨⟨I, I⟩, ⟨I, I⟩, ⟨I, I⟩, I⟩, ⟨I, I⟩, Go.K.c_impl_within _ _ _⟩, ⟨notF (by omega), I⟩, notF (by omega), I, notT (by omega), notT (by omega), notT (by omega), notT (by omega), notT (by omega), I⟩, ?_⟩
  refine W.cn ?_
  conv => whnf
  refine ⟨fun _ => ?_, noF (rfl)⟩
  refine g 8 9 [] ?_
  conv => whnf
  refine ⟨⟨I, I⟩, ?_⟩
  refine W.ret ?_
  refine EndsW.rt ?_
  conv => whnf
  refine ⟨⟨I, I, I⟩, ?_, rfl⟩
  rotate_left 1
  refine g 26 43 [.b (true), .b (true), .b (true), .b (true), .b (true), .b (true), .b (true), .b (true), .b (true)] ?_
  conv => whnf
  refine ⟨⟨I, I, I, notT (by omega), notT (by omega), notT (by omega), notT (by omega), I, rfl, rfl, rfl, rfl, rfl, I⟩, ?_⟩
  refine W.cn ?_
  conv => whnf
  refine ⟨fun _ => ?_, noF (rfl)⟩
  refine g 8 9 [] ?_
  conv => whnf
  refine ⟨⟨I, I⟩, ?_⟩
  refine W.ret ?_
  refine EndsW.rt ?_
  conv => whnf
  refine ⟨⟨I, I, I⟩, ?_, rfl⟩
  rotate_left 1
  replace h5 := df h5
  refine g 20 22 [] ?_
  conv => whnf
  refine ⟨⟨I, I⟩, ?_⟩
  refine W.ret ?_
  refine EndsW.rt ?_
  conv => whnf
  refine ⟨⟨I, I, I⟩, ?_, rfl⟩
  rotate_left 1
  all_goals (try simp only [List.length_map, decide_eq_true_eq, Bool.not_eq_true, Bool.not_eq_true', decide_eq_false_iff_not] at *)
  all_goals first
    | exact vbf (by unfold msgOk; grind)
    | exact vbt (by unfold msgOk; grind)
    | exact vbd (by unfold msgOk; grind)
theorem tup5 {a b c d e a' b' c' d' e' : Bool} (h1 : a = a') (h2 : b = b') (h3 : c = c') (h4 : d = d') (h5 : e = e') : V.tup [V.t (T.v (Value.bool a)), V.t (T.v (Value.bool b)), V.t (T.v (Value.bool c)), V.t (T.v (Value.bool d)), V.t (T.v (Value.bool e))] = V.tup [.b a', .b b', .b c', .b d', .b e'] := by subst h1; subst h2; subst h3; subst h4; subst h5; rfl
theorem c_spec_l2Uses (k : Int) : F n_spec_l2Uses [.val (.i k)] (.tup [.b (decide (1 ≤ k ∧ k ≤ 4)), .b (decide (k = 1 ∨ k = 3)), .b (decide (k = 3)), .b (decide (k = 1)), .b (decide (k = 1 ∨ k = 4))]) [[]] := by
  refine i_spec_l2Uses ?_
  conv => whnf
  refine g 0 0 [] ?_
  conv => whnf
  refine ⟨⟨I, I, I, I, I, I⟩, ?_⟩
  refine W.sq ?_
  refine g 0 1 [] ?_
  conv => whnf
  refine ⟨⟨I, I⟩, ?_⟩
  refine W.blk ?_
  refine g 9 10 [] ?_
  conv => whnf
  refine ⟨⟨I, I, I⟩, ?_⟩
  refine W.cn ?_
  conv => whnf
  refine ⟨fun h1 => ?_, fun h1 => ?_⟩
  replace h1 := dt h1
  refine g 7 9 [] ?_
  conv => whnf
  refine ⟨⟨I, I, I, I, I, I⟩, ?_⟩
  refine W.ret ?_
  refine EndsW.rt ?_
  conv => whnf
  refine ⟨⟨I, ⟨I, I⟩, I, ⟨I, I⟩, I, ⟨I, I⟩, I, ⟨I, I⟩, I, ⟨I, I⟩, I⟩, ?_, rfl⟩
  rotate_left 1
  replace h1 := df h1
  refine g 8 9 [] ?_
  conv => whnf
  refine ⟨⟨I, I, I⟩, ?_⟩
  refine W.cn ?_
  conv => whnf
  refine ⟨fun h2 => ?_, fun h2 => ?_⟩
  replace h2 := dt h2
  refine g 7 12 [] ?_
  conv => whnf
  refine ⟨⟨I, I, I, I, I, I⟩, ?_⟩
  refine W.ret ?_
  refine EndsW.rt ?_
  conv => whnf
  refine ⟨⟨I, ⟨I, I⟩, I, ⟨I, I⟩, I, ⟨I, I⟩, I, ⟨I, I⟩, I, ⟨I, I⟩, I⟩, ?_, rfl⟩
  rotate_left 1
  replace h2 := df h2
  refine g 10 12 [] ?_
  conv => whnf
  refine ⟨⟨I, I, I⟩, ?_⟩
  refine W.cn ?_
  conv => whnf
  refine ⟨fun h3 => ?_, fun h3 => ?_⟩
  replace h3 := dt h3
  refine g 7 14 [] ?_
  conv => whnf
  refine ⟨⟨I, I, I, I, I, I⟩, ?_⟩
  refine W.ret ?_
  refine EndsW.rt ?_
  conv => whnf
  refine ⟨⟨I, ⟨I, I⟩, I, ⟨I, I⟩, I, ⟨I, I⟩, I, ⟨I, I⟩, I, ⟨I, I⟩, I⟩, ?_, rfl⟩
  rotate_left 1
  replace h3 := df h3
  refine g 7 14 [] ?_
  conv => whnf
  refine ⟨⟨I, I, I⟩, ?_⟩
  refine W.cn ?_
  conv => whnf
  refine ⟨fun h4 => ?_, fun h4 => ?_⟩
  replace h4 := dt h4
  refine g 14 16 [] ?_
  conv => whnf
  refine ⟨⟨I, I, I, I, I, I⟩, ?_⟩
  refine W.ret ?_
  refine EndsW.rt ?_
  conv => whnf
  refine ⟨⟨I, ⟨I, I⟩, I, ⟨I, I⟩, I, ⟨I, I⟩, I, ⟨I, I⟩, I, ⟨I, I⟩, I⟩, ?_, rfl⟩
  rotate_left 1
  replace h4 := df h4
  refine W.skip ?_
  refine g 14 16 [] ?_
  conv => whnf
  refine ⟨⟨I, I, I, I, I, I⟩, ?_⟩
  refine W.ret ?_
  refine EndsW.rt ?_
  conv => whnf
  refine ⟨⟨I, ⟨I, I⟩, I, ⟨I, I⟩, I, ⟨I, I⟩, I, ⟨I, I⟩, I, ⟨I, I⟩, I⟩, ?_, rfl⟩
  rotate_left 1
  all_goals exact tup5 (by grind) (by grind) (by grind) (by grind) (by grind)
end Go.K

end

section
set_option linter.unusedVariables false
set_option linter.unusedSimpArgs false
set_option maxHeartbeats 4000000
set_option maxRecDepth 20000
open Go Go.Tm Go.Proofs
namespace Go.K
theorem c_spec_l2Ok (m : Message) (hl : m.inputs.length ≤ 9223372036854775806) : F n_spec_l2Ok [.val (messageR m)] (.b (decide (msgOk m))) [[]] := by
  refine i_spec_l2Ok ?_
  conv => whnf
  refine g 0 1 [] ?_
  conv => whnf
  refine ⟨⟨⟨I, I, I, I, I, I, I, I, I⟩, I, I⟩, ?_⟩
  refine W.sq ?_
  by_cases h1 : (1 : Int) ≤ Message.kind m ∧ Message.kind m ≤ (5 : Int)
  refine g 13 15 [.call (V.b (decide ((1 : Int) ≤ Message.kind m ∧ Message.kind m ≤ (5 : Int)))) ([[], [], []]), .b (false), .b (false), .b (false), .call (V.b (decide ((1 : Int) ≤ Message.epoch m ∧ Message.epoch m ≤ (300 : Int)))) ([[], [], []]), .b (false), .b (false)] ?_
  conv => whnf
  refine ⟨⟨I, I, ⟨⟨I, I, I, I⟩, I, ⟨⟨I, I⟩, ⟨I, I⟩, ⟨I, I⟩, I⟩, ⟨I, I⟩, Go.K.c_spec_l2In _ _ _⟩, I, I, ⟨notF (by omega), I⟩, ⟨notF (by omega), I⟩, ⟨notF (by omega), ⟨I, I, I, I⟩, I, ⟨⟨I, I⟩, ⟨I, I⟩, ⟨I, I⟩, I⟩, ⟨I, I⟩, Go.K.c_spec_l2In _ _ _⟩, ⟨notF (by omega), I⟩, notF (by omega), I⟩, ?_⟩
  refine W.cn ?_
  conv => whnf
  refine ⟨fun h2 => ?_, fun h2 => ?_⟩
  replace h2 := ndt h2
  refine g 8 9 [] ?_
  conv => whnf
  refine ⟨⟨I, I⟩, ?_⟩
  refine W.ret ?_
  refine EndsW.rt ?_
  conv => whnf
  refine ⟨⟨I, I, I⟩, ?_, rfl⟩
  rotate_left 1
  replace h2 := ndf h2
  refine W.skip ?_
  refine g 20 25 [.call (V.tup [V.b (decide ((1 : Int) ≤ Message.kind m ∧ Message.kind m ≤ (4 : Int))), V.b (decide (Message.kind m = (1 : Int) ∨ Message.kind m = (3 : Int))), V.b (decide (Message.kind m = (3 : Int))), V.b (decide (Message.kind m = (1 : Int))), V.b (decide (Message.kind m = (1 : Int) ∨ Message.kind m = (4 : Int)))]) ([[]])] ?_
  conv => whnf
  refine ⟨⟨I, I, ⟨⟨I, I⟩, I, ⟨⟨I, I⟩, I⟩, ⟨I, I⟩, Go.K.c_spec_l2Uses _⟩, I, I, I, I, I, I, I, I, I, I, I, I⟩, ?_⟩
  refine W.sq ?_
  by_cases h3 : Message.kind m = (1 : Int) ∨ Message.kind m = (4 : Int)
  by_cases h4 : Message.frm m = (0 : Int)
  by_cases h5 : (1 : Int) ≤ Message.to m ∧ Message.to m ≤ (8 : Int)
  refine g 29 53 [.b (true), .b (true), .b (true), .b (true), .b (false), .b (false), .b (false), .call (V.b (decide ((1 : Int) ≤ Message.to m ∧ Message.to m ≤ (8 : Int)))) ([[], [], []]), .b (false), .b (true), .b (false), .b (true), .b (false), .b (false), .b (false), .b (false), .b (false), .b (false), .b (false), .b (false), .b (false), .b (false), .b (false), .b (false), .b (false), .b (false), .b (false)] ?_
  conv => whnf
  refine ⟨⟨I, I, ⟨decide_eq_true (by omega), I⟩, ⟨decide_eq_true (by omega), I⟩, ⟨decide_eq_true (by omega), I⟩, ⟨decide_eq_true (by omega), I⟩, ⟨notF (by omega), I⟩, ⟨notF (by omega), I⟩, ⟨notF (by omega), ⟨I, I, I, I⟩, I, ⟨⟨I, I⟩, ⟨I, I⟩, ⟨I, I⟩, I⟩, ⟨I, I⟩, Go.K.c_spec_l2In _ _ _⟩, ⟨notF (by omega), I⟩, ⟨decide_eq_true (by omega), notF (by omega)⟩, decide_eq_true (by omega), I, ⟨notF (by omega), I⟩, ⟨notF (by omega), I⟩, ⟨notF (by omega), I⟩, notF (by omega), notF (by omega), notF (by omega), notF (by omega), I, I, I, I, notF (by omega), ⟨notF (by omega), notF (by omega)⟩, notF (by omega), I⟩, ?_⟩
  refine W.cn ?_
  conv => whnf
  refine ⟨noT (rfl), fun _ => ?_⟩
  refine W.skip ?_
  refine W.sq ?_
  by_cases h6 : (1 : Int) ≤ Message.lease m ∧ Message.lease m ≤ (300000000 : Int)
  by_cases h7 : Message.kind m = (1 : Int) ∨ Message.kind m = (3 : Int)
  by_cases h8 : (0 : Int) ≤ Message.task m ∧ Message.task m ≤ (39 : Int)
  refine g 11 87 [.b (true), .b (true), .b (true), .call (V.b (decide ((1 : Int) ≤ Message.lease m ∧ Message.lease m ≤ (300000000 : Int)))) ([[]]), .b (true), .b (true), .b (false), .b (false), .b (false), .b (false), .b (false), .b (false), .b (false), .b (false), .b (false), .b (false), .b (false), .b (true), .b (true), .b (true), .call (V.b (decide ((0 : Int) ≤ Message.task m ∧ Message.task m ≤ (39 : Int)))) ([[], [], []]), .b (true), .b (false), .b (true), .b (false), .b (false), .b (false), .b (false), .b (false), .b (false), .b (false), .b (false), .b (false), .b (false)] ?_
  conv => whnf
  refine ⟨⟨I, I, ⟨decide_eq_true (by omega), I⟩, ⟨decide_eq_true (by omega), I⟩, ⟨decide_eq_true (by omega), ⟨I, I⟩, I, ⟨⟨I, I⟩, I⟩, ⟨I, I⟩, Go.K.c_spec_l2LeaseOk _⟩, ⟨decide_eq_true (by omega), I⟩, decide_eq_true (by omega), I, ⟨notF (by omega), I⟩, ⟨notF (by omega), I⟩, ⟨notF (by omega), I⟩, notF (by omega), notF (by omega), notF (by omega), ⟨notF (by omega), notF (by omega)⟩, notF (by omega), I, ⟨rfl, I⟩, ⟨rfl, I⟩, ⟨decide_eq_true (by omega), I⟩, ⟨decide_eq_true (by omega), I⟩, ⟨decide_eq_true (by omega), ⟨I, I, I, I⟩, I, ⟨⟨I, I⟩, ⟨I, I⟩, ⟨I, I⟩, I⟩, ⟨I, I⟩, Go.K.c_spec_l2In _ _ _⟩, ⟨decide_eq_true (by omega), I⟩, ⟨rfl, decide_eq_true (by omega)⟩, rfl, I, ⟨notF (by omega), I⟩, ⟨notF (by omega), I⟩, ⟨notF (by omega), I⟩, notF (by omega), notF (by omega), notF (by omega), ⟨notF (by omega), notF (by omega)⟩, notF (by omega), I⟩, ?_⟩
  refine W.cn ?_
  conv => whnf
  refine ⟨noT (rfl), fun _ => ?_⟩
  refine W.skip ?_
  refine W.sq ?_
  refine g 10 103 [.b (false), .b (false), .b (false), .b (false), .b (false), .b (false), .b (false), .b (false), .b (true), .b (true), .b (true), .b (false), .b (true), .b (false)] ?_
  conv => whnf
  refine ⟨⟨I, I, decide_eq_false (by omega), decide_eq_false (by omega), decide_eq_false (by omega), decide_eq_false (by omega), decide_eq_false (by omega), I, ⟨rfl, I⟩, ⟨rfl, I⟩, ⟨rfl, I⟩, ⟨notT (by omega), I⟩, ⟨notT (by omega), I⟩, ⟨notT (by omega), I⟩, ⟨rfl, notT (by omega)⟩, rfl, I⟩, ?_⟩
  refine W.cn ?_
  conv => whnf
  refine ⟨fun h9 => ?_, fun h9 => ?_⟩
  replace h9 := ndt h9
  refine g 7 9 [] ?_
  conv => whnf
  refine ⟨⟨I, I⟩, ?_⟩
  refine W.ret ?_
  refine EndsW.rt ?_
  conv => whnf
  refine ⟨⟨I, I, I⟩, ?_, rfl⟩
  rotate_left 1
  replace h9 := ndf h9
  refine W.skip ?_
  by_cases h10 : eights (Message.inputs m)
  refine g 5 120 [.b (true), .b (true), .b (true), .call (V.b (decide (eights (Message.inputs m)))) ([[]]), .b (true), .b (true), .b (true), .b (true), .b (false), .b (false), .b (false), .b (false), .b (true), .b (true)] ?_
  conv => whnf
  refine ⟨⟨I, I, ⟨decide_eq_true (by omega), I⟩, ⟨decide_eq_true (by omega), I⟩, ⟨decide_eq_true (by omega), ⟨I, I⟩, I, ⟨⟨I, I⟩, I⟩, ⟨I, I⟩, Go.K.c_spec_l2InputsOk _ (by omega)⟩, decide_eq_true (by omega), I, decide_eq_true (by omega), decide_eq_true (by omega), decide_eq_true (by omega), I, I, I, I, decide_eq_true (by omega), decide_eq_true (by omega), I, I⟩, ?_⟩
  refine W.ret ?_
  refine EndsW.rt ?_
  conv => whnf
  refine ⟨⟨I, I, I⟩, ?_, rfl⟩
  rotate_left 1
  refine g 5 120 [.b (true), .b (true), .b (true), .call (V.b (decide (eights (Message.inputs m)))) ([[]]), .b (true), .b (false), .b (false), .b (false), .b (false), .b (false), .b (false), .b (false), .b (false), .b (false), .b (false)] ?_
  conv => whnf
  refine ⟨⟨I, I, ⟨decide_eq_true (by omega), I⟩, ⟨decide_eq_true (by omega), I⟩, ⟨decide_eq_true (by omega), ⟨I, I⟩, I, ⟨⟨I, I⟩, I⟩, ⟨I, I⟩, Go.K.c_spec_l2InputsOk _ (by omega)⟩, decide_eq_true (by omega), I, ⟨decide_eq_false (by omega), I⟩, ⟨decide_eq_false (by omega), I⟩, ⟨decide_eq_false (by omega), I⟩, notF (by omega), notF (by omega), notF (by omega), notF (by omega), ⟨decide_eq_false (by omega), notF (by omega)⟩, decide_eq_false (by omega), I, I⟩, ?_⟩
  refine W.ret ?_
  refine EndsW.rt ?_
  conv => whnf
  refine ⟨⟨I, I, I⟩, ?_, rfl⟩
  rotate_left 1
  refine g 11 87 [.b (true), .b (true), .b (true), .call (V.b (decide ((1 : Int) ≤ Message.lease m ∧ Message.lease m ≤ (300000000 : Int)))) ([[]]), .b (true), .b (true), .b (false), .b (false), .b (false), .b (false), .b (false), .b (false), .b (false), .b (false), .b (false), .b (false), .b (false), .b (true), .b (true), .b (true), .call (V.b (decide ((0 : Int) ≤ Message.task m ∧ Message.task m ≤ (39 : Int)))) ([[], [], []]), .b (true), .b (false), .b (true), .b (false), .b (true), .b (true), .b (true), .b (false), .b (false), .b (false), .b (true), .b (true)] ?_
  conv => whnf
  refine ⟨⟨I, I, ⟨decide_eq_true (by omega), I⟩, ⟨decide_eq_true (by omega), I⟩, ⟨decide_eq_true (by omega), ⟨I, I⟩, I, ⟨⟨I, I⟩, I⟩, ⟨I, I⟩, Go.K.c_spec_l2LeaseOk _⟩, ⟨decide_eq_true (by omega), I⟩, decide_eq_true (by omega), I, ⟨notF (by omega), I⟩, ⟨notF (by omega), I⟩, ⟨notF (by omega), I⟩, notF (by omega), notF (by omega), notF (by omega), ⟨notF (by omega), notF (by omega)⟩, notF (by omega), I, ⟨rfl, I⟩, ⟨rfl, I⟩, ⟨decide_eq_true (by omega), I⟩, ⟨decide_eq_true (by omega), I⟩, ⟨decide_eq_true (by omega), ⟨I, I, I, I⟩, I, ⟨⟨I, I⟩, ⟨I, I⟩, ⟨I, I⟩, I⟩, ⟨I, I⟩, Go.K.c_spec_l2In _ _ _⟩, ⟨decide_eq_true (by omega), I⟩, ⟨rfl, decide_eq_true (by omega)⟩, rfl, I, notT (by omega), notT (by omega), notT (by omega), I, I, I, notT (by omega), notT (by omega), I⟩, ?_⟩
  refine W.cn ?_
  conv => whnf
  refine ⟨fun _ => ?_, noF (rfl)⟩
  refine g 3 4 [] ?_
  conv => whnf
  refine ⟨⟨I, I⟩, ?_⟩
  refine W.ret ?_
  refine EndsW.rt ?_
  conv => whnf
  refine ⟨⟨I, I, I⟩, ?_, rfl⟩
  rotate_left 1
  refine g 11 87 [.b (true), .b (true), .b (true), .call (V.b (decide ((1 : Int) ≤ Message.lease m ∧ Message.lease m ≤ (300000000 : Int)))) ([[]]), .b (true), .b (true), .b (false), .b (false), .b (false), .b (false), .b (false), .b (false), .b (false), .b (false), .b (false), .b (false), .b (false), .b (false), .b (false), .b (false), .b (false), .b (false), .b (false), .b (false), .b (false), .b (false), .b (false), .b (true), .b (true), .b (true), .b (false), .b (true), .b (false)] ?_
  conv => whnf
  refine ⟨⟨I, I, ⟨decide_eq_true (by omega), I⟩, ⟨decide_eq_true (by omega), I⟩, ⟨decide_eq_true (by omega), ⟨I, I⟩, I, ⟨⟨I, I⟩, I⟩, ⟨I, I⟩, Go.K.c_spec_l2LeaseOk _⟩, ⟨decide_eq_true (by omega), I⟩, decide_eq_true (by omega), I, ⟨notF (by omega), I⟩, ⟨notF (by omega), I⟩, ⟨notF (by omega), I⟩, notF (by omega), notF (by omega), notF (by omega), ⟨notF (by omega), notF (by omega)⟩, notF (by omega), I, ⟨rfl, I⟩, ⟨rfl, I⟩, decide_eq_false (by omega), decide_eq_false (by omega), decide_eq_false (by omega), decide_eq_false (by omega), ⟨rfl, decide_eq_false (by omega)⟩, rfl, I, ⟨rfl, I⟩, ⟨rfl, I⟩, ⟨rfl, I⟩, ⟨notT (by omega), I⟩, ⟨notT (by omega), I⟩, ⟨notT (by omega), I⟩, ⟨rfl, notT (by omega)⟩, rfl, I⟩, ?_⟩
  refine W.cn ?_
  conv => whnf
  refine ⟨fun h8 => ?_, fun h8 => ?_⟩
  replace h8 := ndt h8
  refine g 3 4 [] ?_
  conv => whnf
  refine ⟨⟨I, I⟩, ?_⟩
  refine W.ret ?_
  refine EndsW.rt ?_
  conv => whnf
  refine ⟨⟨I, I, I⟩, ?_, rfl⟩
  rotate_left 1
  replace h8 := ndf h8
  refine W.skip ?_
  refine W.sq ?_
  refine g 10 103 [.b (false), .b (false), .b (false), .b (false), .b (false), .b (false), .b (false), .b (false), .b (true), .b (true), .b (true), .b (false), .b (true), .b (false)] ?_
  conv => whnf
  refine ⟨⟨I, I, decide_eq_false (by omega), decide_eq_false (by omega), decide_eq_false (by omega), decide_eq_false (by omega), decide_eq_false (by omega), I, ⟨rfl, I⟩, ⟨rfl, I⟩, ⟨rfl, I⟩, ⟨notT (by omega), I⟩, ⟨notT (by omega), I⟩, ⟨notT (by omega), I⟩, ⟨rfl, notT (by omega)⟩, rfl, I⟩, ?_⟩
  refine W.cn ?_
  conv => whnf
  refine ⟨fun h9 => ?_, fun h9 => ?_⟩
  replace h9 := ndt h9
  refine g 7 9 [] ?_
  conv => whnf
  refine ⟨⟨I, I⟩, ?_⟩
  refine W.ret ?_
  refine EndsW.rt ?_
  conv => whnf
  refine ⟨⟨I, I, I⟩, ?_, rfl⟩
  rotate_left 1
  replace h9 := ndf h9
  refine W.skip ?_
  refine g 5 120 [.b (false), .b (false), .b (false), .b (false), .b (false), .b (false), .b (false), .b (true), .b (true), .b (true), .b (true), .b (false), .b (true), .b (false)] ?_
  conv => whnf
  refine ⟨⟨I, I, decide_eq_false (by omega), decide_eq_false (by omega), decide_eq_false (by omega), decide_eq_false (by omega), I, ⟨rfl, I⟩, ⟨rfl, I⟩, ⟨rfl, I⟩, ⟨notT (by omega), I⟩, ⟨notT (by omega), I⟩, ⟨notT (by omega), I⟩, ⟨notT (by omega), I⟩, ⟨rfl, notT (by omega)⟩, rfl, I, I⟩, ?_⟩
  refine W.ret ?_
  refine EndsW.rt ?_
  conv => whnf
  refine ⟨⟨I, I, I⟩, ?_, rfl⟩
  rotate_left 1
  refine g 11 87 [.b (true), .b (true), .b (true), .call (V.b (decide ((1 : Int) ≤ Message.lease m ∧ Message.lease m ≤ (300000000 : Int)))) ([[]]), .b (true), .b (true), .b (true), .b (true), .b (true), .b (false), .b (false), .b (false), .b (true), .b (true), .b (true), .b (true), .b (false), .b (false), .b (false), .b (false), .b (true), .b (true), .b (true), .b (true), .b (true), .b (false), .b (false), .b (false), .b (true), .b (true)] ?_
  conv => whnf
  refine ⟨⟨I, I, ⟨decide_eq_true (by omega), I⟩, ⟨decide_eq_true (by omega), I⟩, ⟨decide_eq_true (by omega), ⟨I, I⟩, I, ⟨⟨I, I⟩, I⟩, ⟨I, I⟩, Go.K.c_spec_l2LeaseOk _⟩, ⟨decide_eq_true (by omega), I⟩, decide_eq_true (by omega), I, notT (by omega), notT (by omega), notT (by omega), I, I, I, notT (by omega), notT (by omega), I, rfl, rfl, I, I, I, I, rfl, rfl, I, rfl, rfl, rfl, I, I, I, rfl, rfl, I⟩, ?_⟩
  refine W.cn ?_
  conv => whnf
  refine ⟨fun _ => ?_, noF (rfl)⟩
  refine g 3 4 [] ?_
  conv => whnf
  refine ⟨⟨I, I⟩, ?_⟩
  refine W.ret ?_
  refine EndsW.rt ?_
  conv => whnf
  refine ⟨⟨I, I, I⟩, ?_, rfl⟩
  rotate_left 1
  refine g 29 53 [.b (true), .b (true), .b (true), .b (true), .b (false), .b (false), .b (false), .call (V.b (decide ((1 : Int) ≤ Message.to m ∧ Message.to m ≤ (8 : Int)))) ([[], [], []]), .b (false), .b (true), .b (false), .b (true), .b (true), .b (true), .b (true), .b (false), .b (false), .b (false), .b (false), .b (false), .b (false), .b (false), .b (false), .b (false), .b (true), .b (true)] ?_
  conv => whnf
  refine ⟨⟨I, I, ⟨decide_eq_true (by omega), I⟩, ⟨decide_eq_true (by omega), I⟩, ⟨decide_eq_true (by omega), I⟩, ⟨decide_eq_true (by omega), I⟩, ⟨notF (by omega), I⟩, ⟨notF (by omega), I⟩, ⟨notF (by omega), ⟨I, I, I, I⟩, I, ⟨⟨I, I⟩, ⟨I, I⟩, ⟨I, I⟩, I⟩, ⟨I, I⟩, Go.K.c_spec_l2In _ _ _⟩, ⟨notF (by omega), I⟩, ⟨decide_eq_true (by omega), notF (by omega)⟩, decide_eq_true (by omega), I, notT (by omega), notT (by omega), notT (by omega), I, I, I, I, I, I, I, I, I, notT (by omega), notT (by omega), I⟩, ?_⟩
  refine W.cn ?_
  conv => whnf
  refine ⟨fun _ => ?_, noF (rfl)⟩
  refine g 11 16 [] ?_
  conv => whnf
  refine ⟨⟨I, I⟩, ?_⟩
  refine W.ret ?_
  refine EndsW.rt ?_
  conv => whnf
  refine ⟨⟨I, I, I⟩, ?_, rfl⟩
  rotate_left 1
  refine g 29 53 [.b (true), .b (true), .b (true), .b (true), .b (true), .b (true), .b (true), .b (true), .b (true), .b (true), .b (true), .b (true), .b (true), .b (true), .b (false), .b (false), .b (false), .b (false), .b (false), .b (false), .b (false), .b (false), .b (false), .b (true), .b (true)] ?_
  conv => whnf
  refine ⟨⟨I, I, ⟨decide_eq_true (by omega), I⟩, ⟨decide_eq_true (by omega), I⟩, ⟨decide_eq_true (by omega), I⟩, ⟨decide_eq_true (by omega), I⟩, notT (by omega), notT (by omega), notT (by omega), notT (by omega), ⟨decide_eq_true (by omega), notT (by omega)⟩, decide_eq_true (by omega), I, rfl, rfl, rfl, I, I, I, I, I, I, I, I, I, rfl, rfl, I⟩, ?_⟩
  refine W.cn ?_
  conv => whnf
  refine ⟨fun _ => ?_, noF (rfl)⟩
  refine g 11 16 [] ?_
  conv => whnf
  refine ⟨⟨I, I⟩, ?_⟩
  refine W.ret ?_
  refine EndsW.rt ?_
  conv => whnf
  refine ⟨⟨I, I, I⟩, ?_, rfl⟩
  rotate_left 1
  by_cases h4 : Message.to m = (0 : Int)
  refine g 29 53 [.b (false), .b (false), .b (false), .b (false), .b (false), .b (false), .b (false), .b (false), .b (false), .b (false), .b (false), .b (false), .b (false), .b (true), .b (true), .b (true), .b (true), .b (false), .b (false), .b (false), .call (V.b (decide ((1 : Int) ≤ Message.frm m ∧ Message.frm m ≤ (8 : Int)))) ([[], [], []]), .b (false), .b (true), .b (false), .b (false), .b (true), .b (false)] ?_
  conv => whnf
  refine ⟨⟨I, I, decide_eq_false (by omega), decide_eq_false (by omega), decide_eq_false (by omega), decide_eq_false (by omega), I, I, I, I, decide_eq_false (by omega), decide_eq_false (by omega), I, ⟨rfl, I⟩, ⟨rfl, I⟩, ⟨rfl, I⟩, ⟨notT (by omega), I⟩, ⟨notT (by omega), I⟩, ⟨notT (by omega), I⟩, ⟨notT (by omega), I⟩, ⟨notF (by omega), I⟩, ⟨notF (by omega), I⟩, ⟨notF (by omega), ⟨I, I, I, I⟩, I, ⟨⟨I, I⟩, ⟨I, I⟩, ⟨I, I⟩, I⟩, ⟨I, I⟩, Go.K.c_spec_l2In _ _ _⟩, ⟨notF (by omega), I⟩, ⟨notT (by omega), notF (by omega)⟩, ⟨rfl, notT (by omega)⟩, rfl, I⟩, ?_⟩
  refine W.cn ?_
  conv => whnf
  refine ⟨fun h5 => ?_, fun h5 => ?_⟩
  replace h5 := ndt h5
  refine g 11 16 [] ?_
  conv => whnf
  refine ⟨⟨I, I⟩, ?_⟩
  refine W.ret ?_
  refine EndsW.rt ?_
  conv => whnf
  refine ⟨⟨I, I, I⟩, ?_, rfl⟩
  rotate_left 1
  replace h5 := ndf h5
  refine W.skip ?_
  refine W.sq ?_
  by_cases h6 : (1 : Int) ≤ Message.kind m ∧ Message.kind m ≤ (4 : Int)
  by_cases h7 : (1 : Int) ≤ Message.lease m ∧ Message.lease m ≤ (300000000 : Int)
  by_cases h8 : Message.kind m = (1 : Int) ∨ Message.kind m = (3 : Int)
  by_cases h9 : (0 : Int) ≤ Message.task m ∧ Message.task m ≤ (39 : Int)
  refine g 11 87 [.b (true), .b (true), .b (true), .call (V.b (decide ((1 : Int) ≤ Message.lease m ∧ Message.lease m ≤ (300000000 : Int)))) ([[]]), .b (true), .b (true), .b (false), .b (false), .b (false), .b (false), .b (false), .b (false), .b (false), .b (false), .b (false), .b (false), .b (false), .b (true), .b (true), .b (true), .call (V.b (decide ((0 : Int) ≤ Message.task m ∧ Message.task m ≤ (39 : Int)))) ([[], [], []]), .b (true), .b (false), .b (true), .b (false), .b (false), .b (false), .b (false), .b (false), .b (false), .b (false), .b (false), .b (false), .b (false)] ?_
  conv => whnf
  refine ⟨⟨I, I, ⟨decide_eq_true (by omega), I⟩, ⟨decide_eq_true (by omega), I⟩, ⟨decide_eq_true (by omega), ⟨I, I⟩, I, ⟨⟨I, I⟩, I⟩, ⟨I, I⟩, Go.K.c_spec_l2LeaseOk _⟩, ⟨decide_eq_true (by omega), I⟩, decide_eq_true (by omega), I, ⟨notF (by omega), I⟩, ⟨notF (by omega), I⟩, ⟨notF (by omega), I⟩, notF (by omega), notF (by omega), notF (by omega), ⟨notF (by omega), notF (by omega)⟩, notF (by omega), I, ⟨rfl, I⟩, ⟨rfl, I⟩, ⟨decide_eq_true (by omega), I⟩, ⟨decide_eq_true (by omega), I⟩, ⟨decide_eq_true (by omega), ⟨I, I, I, I⟩, I, ⟨⟨I, I⟩, ⟨I, I⟩, ⟨I, I⟩, I⟩, ⟨I, I⟩, Go.K.c_spec_l2In _ _ _⟩, ⟨decide_eq_true (by omega), I⟩, ⟨rfl, decide_eq_true (by omega)⟩, rfl, I, ⟨notF (by omega), I⟩, ⟨notF (by omega), I⟩, ⟨notF (by omega), I⟩, notF (by omega), notF (by omega), notF (by omega), ⟨notF (by omega), notF (by omega)⟩, notF (by omega), I⟩, ?_⟩
  refine W.cn ?_
  conv => whnf
  refine ⟨noT (rfl), fun _ => ?_⟩
  refine W.skip ?_
  refine W.sq ?_
  by_cases h10 : (↑(ByteArray.size (Message.text m)) : Int) = (8 : Int)
  refine g 10 103 [.b (true), .b (true), .b (true), .b (true), .b (true), .b (false), .b (false), .b (false), .b (false), .b (false), .b (false), .b (false), .b (false), .b (false)] ?_
  conv => whnf
  refine ⟨⟨I, I, ⟨decide_eq_true (by omega), I⟩, ⟨decide_eq_true (by omega), I⟩, ⟨decide_eq_true (by omega), I⟩, ⟨decide_eq_true (by omega), I⟩, decide_eq_true (by omega), I, ⟨notF (by omega), I⟩, ⟨notF (by omega), I⟩, ⟨notF (by omega), I⟩, notF (by omega), notF (by omega), notF (by omega), ⟨notF (by omega), notF (by omega)⟩, notF (by omega), I⟩, ?_⟩
  refine W.cn ?_
  conv => whnf
  refine ⟨noT (rfl), fun _ => ?_⟩
  refine W.skip ?_
  refine g 5 120 [.b (false), .b (false), .b (false), .b (false), .b (false), .b (false), .b (false), .b (true), .b (true), .b (true), .b (true), .b (false), .b (true), .b (false)] ?_
  conv => whnf
  refine ⟨⟨I, I, decide_eq_false (by omega), decide_eq_false (by omega), decide_eq_false (by omega), decide_eq_false (by omega), I, ⟨rfl, I⟩, ⟨rfl, I⟩, ⟨rfl, I⟩, ⟨notT (by omega), I⟩, ⟨notT (by omega), I⟩, ⟨notT (by omega), I⟩, ⟨notT (by omega), I⟩, ⟨rfl, notT (by omega)⟩, rfl, I, I⟩, ?_⟩
  refine W.ret ?_
  refine EndsW.rt ?_
  conv => whnf
  refine ⟨⟨I, I, I⟩, ?_, rfl⟩
  rotate_left 1
  refine g 10 103 [.b (true), .b (true), .b (true), .b (true), .b (true), .b (true), .b (true), .b (true), .b (false), .b (false), .b (false), .b (true), .b (true)] ?_
  conv => whnf
  refine ⟨⟨I, I, ⟨decide_eq_true (by omega), I⟩, ⟨decide_eq_true (by omega), I⟩, ⟨decide_eq_true (by omega), I⟩, ⟨decide_eq_true (by omega), I⟩, decide_eq_true (by omega), I, notT (by omega), notT (by omega), notT (by omega), I, I, I, notT (by omega), notT (by omega), I⟩, ?_⟩
  refine W.cn ?_
  conv => whnf
  refine ⟨fun _ => ?_, noF (rfl)⟩
  refine g 7 9 [] ?_
  conv => whnf
  refine ⟨⟨I, I⟩, ?_⟩
  refine W.ret ?_
  refine EndsW.rt ?_
  conv => whnf
  refine ⟨⟨I, I, I⟩, ?_, rfl⟩
  rotate_left 1
  refine g 11 87 [.b (true), .b (true), .b (true), .call (V.b (decide ((1 : Int) ≤ Message.lease m ∧ Message.lease m ≤ (300000000 : Int)))) ([[]]), .b (true), .b (true), .b (false), .b (false), .b (false), .b (false), .b (false), .b (false), .b (false), .b (false), .b (false), .b (false), .b (false), .b (true), .b (true), .b (true), .call (V.b (decide ((0 : Int) ≤ Message.task m ∧ Message.task m ≤ (39 : Int)))) ([[], [], []]), .b (true), .b (false), .b (true), .b (false), .b (true), .b (true), .b (true), .b (false), .b (false), .b (false), .b (true), .b (true)] ?_
  conv => whnf
  refine ⟨⟨I, I, ⟨decide_eq_true (by omega), I⟩, ⟨decide_eq_true (by omega), I⟩, ⟨decide_eq_true (by omega), ⟨I, I⟩, I, ⟨⟨I, I⟩, I⟩, ⟨I, I⟩, Go.K.c_spec_l2LeaseOk _⟩, ⟨decide_eq_true (by omega), I⟩, decide_eq_true (by omega), I, ⟨notF (by omega), I⟩, ⟨notF (by omega), I⟩, ⟨notF (by omega), I⟩, notF (by omega), notF (by omega), notF (by omega), ⟨notF (by omega), notF (by omega)⟩, notF (by omega), I, ⟨rfl, I⟩, ⟨rfl, I⟩, ⟨decide_eq_true (by omega), I⟩, ⟨decide_eq_true (by omega), I⟩, ⟨decide_eq_true (by omega), ⟨I, I, I, I⟩, I, ⟨⟨I, I⟩, ⟨I, I⟩, ⟨I, I⟩, I⟩, ⟨I, I⟩, Go.K.c_spec_l2In _ _ _⟩, ⟨decide_eq_true (by omega), I⟩, ⟨rfl, decide_eq_true (by omega)⟩, rfl, I, notT (by omega), notT (by omega), notT (by omega), I, I, I, notT (by omega), notT (by omega), I⟩, ?_⟩
  refine W.cn ?_
  conv => whnf
  refine ⟨fun _ => ?_, noF (rfl)⟩
  refine g 3 4 [] ?_
  conv => whnf
  refine ⟨⟨I, I⟩, ?_⟩
  refine W.ret ?_
  refine EndsW.rt ?_
  conv => whnf
  refine ⟨⟨I, I, I⟩, ?_, rfl⟩
  rotate_left 1
  refine g 11 87 [.b (true), .b (true), .b (true), .call (V.b (decide ((1 : Int) ≤ Message.lease m ∧ Message.lease m ≤ (300000000 : Int)))) ([[]]), .b (true), .b (true), .b (false), .b (false), .b (false), .b (false), .b (false), .b (false), .b (false), .b (false), .b (false), .b (false), .b (false), .b (false), .b (false), .b (false), .b (false), .b (false), .b (false), .b (false), .b (false), .b (false), .b (false), .b (true), .b (true), .b (true), .b (false), .b (true), .b (false)] ?_
  conv => whnf
  refine ⟨⟨I, I, ⟨decide_eq_true (by omega), I⟩, ⟨decide_eq_true (by omega), I⟩, ⟨decide_eq_true (by omega), ⟨I, I⟩, I, ⟨⟨I, I⟩, I⟩, ⟨I, I⟩, Go.K.c_spec_l2LeaseOk _⟩, ⟨decide_eq_true (by omega), I⟩, decide_eq_true (by omega), I, ⟨notF (by omega), I⟩, ⟨notF (by omega), I⟩, ⟨notF (by omega), I⟩, notF (by omega), notF (by omega), notF (by omega), ⟨notF (by omega), notF (by omega)⟩, notF (by omega), I, ⟨rfl, I⟩, ⟨rfl, I⟩, decide_eq_false (by omega), decide_eq_false (by omega), decide_eq_false (by omega), decide_eq_false (by omega), ⟨rfl, decide_eq_false (by omega)⟩, rfl, I, ⟨rfl, I⟩, ⟨rfl, I⟩, ⟨rfl, I⟩, ⟨notT (by omega), I⟩, ⟨notT (by omega), I⟩, ⟨notT (by omega), I⟩, ⟨rfl, notT (by omega)⟩, rfl, I⟩, ?_⟩
  refine W.cn ?_
  conv => whnf
  refine ⟨fun h9 => ?_, fun h9 => ?_⟩
  replace h9 := ndt h9
  refine g 3 4 [] ?_
  conv => whnf
  refine ⟨⟨I, I⟩, ?_⟩
  refine W.ret ?_
  refine EndsW.rt ?_
  conv => whnf
  refine ⟨⟨I, I, I⟩, ?_, rfl⟩
  rotate_left 1
  replace h9 := ndf h9
  refine W.skip ?_
  refine W.sq ?_
  refine g 10 103 [.b (false), .b (false), .b (false), .b (false), .b (false), .b (false), .b (false), .b (false), .b (true), .b (true), .b (true), .b (false), .b (true), .b (false)] ?_
  conv => whnf
  refine ⟨⟨I, I, decide_eq_false (by omega), decide_eq_false (by omega), decide_eq_false (by omega), decide_eq_false (by omega), decide_eq_false (by omega), I, ⟨rfl, I⟩, ⟨rfl, I⟩, ⟨rfl, I⟩, ⟨notT (by omega), I⟩, ⟨notT (by omega), I⟩, ⟨notT (by omega), I⟩, ⟨rfl, notT (by omega)⟩, rfl, I⟩, ?_⟩
  refine W.cn ?_
  conv => whnf
  refine ⟨fun h10 => ?_, fun h10 => ?_⟩
  replace h10 := ndt h10
  refine g 7 9 [] ?_
  conv => whnf
  refine ⟨⟨I, I⟩, ?_⟩
  refine W.ret ?_
  refine EndsW.rt ?_
  conv => whnf
  refine ⟨⟨I, I, I⟩, ?_, rfl⟩
  rotate_left 1
  replace h10 := ndf h10
  refine W.skip ?_
  refine g 5 120 [.b (false), .b (false), .b (false), .b (false), .b (false), .b (false), .b (false), .b (true), .b (true), .b (true), .b (true), .b (false), .b (true), .b (false)] ?_
  conv => whnf
  refine ⟨⟨I, I, decide_eq_false (by omega), decide_eq_false (by omega), decide_eq_false (by omega), decide_eq_false (by omega), I, ⟨rfl, I⟩, ⟨rfl, I⟩, ⟨rfl, I⟩, ⟨notT (by omega), I⟩, ⟨notT (by omega), I⟩, ⟨notT (by omega), I⟩, ⟨notT (by omega), I⟩, ⟨rfl, notT (by omega)⟩, rfl, I, I⟩, ?_⟩
  refine W.ret ?_
  refine EndsW.rt ?_
  conv => whnf
  refine ⟨⟨I, I, I⟩, ?_, rfl⟩
  rotate_left 1
  refine g 11 87 [.b (true), .b (true), .b (true), .call (V.b (decide ((1 : Int) ≤ Message.lease m ∧ Message.lease m ≤ (300000000 : Int)))) ([[]]), .b (true), .b (true), .b (true), .b (true), .b (true), .b (false), .b (false), .b (false), .b (true), .b (true), .b (true), .b (true), .b (false), .b (false), .b (false), .b (false), .b (true), .b (true), .b (true), .b (true), .b (true), .b (false), .b (false), .b (false), .b (true), .b (true)] ?_
  conv => whnf
  refine ⟨⟨I, I, ⟨decide_eq_true (by omega), I⟩, ⟨decide_eq_true (by omega), I⟩, ⟨decide_eq_true (by omega), ⟨I, I⟩, I, ⟨⟨I, I⟩, I⟩, ⟨I, I⟩, Go.K.c_spec_l2LeaseOk _⟩, ⟨decide_eq_true (by omega), I⟩, decide_eq_true (by omega), I, notT (by omega), notT (by omega), notT (by omega), I, I, I, notT (by omega), notT (by omega), I, rfl, rfl, I, I, I, I, rfl, rfl, I, rfl, rfl, rfl, I, I, I, rfl, rfl, I⟩, ?_⟩
  refine W.cn ?_
  conv => whnf
  refine ⟨fun _ => ?_, noF (rfl)⟩
  refine g 3 4 [] ?_
  conv => whnf
  refine ⟨⟨I, I⟩, ?_⟩
  refine W.ret ?_
  refine EndsW.rt ?_
  conv => whnf
  refine ⟨⟨I, I, I⟩, ?_, rfl⟩
  rotate_left 1
  by_cases h7 : Message.lease m = (0 : Int)
  refine g 11 87 [.b (false), .b (false), .b (false), .b (false), .b (false), .b (false), .b (false), .b (false), .b (true), .b (true), .b (true), .b (false), .b (true), .b (false), .b (false), .b (false), .b (false), .b (false), .b (false), .b (false), .b (false), .b (false), .b (false), .b (false), .b (false), .b (false), .b (true), .b (true), .b (true), .b (false), .b (true), .b (false)] ?_
  conv => whnf
  refine ⟨⟨I, I, decide_eq_false (by omega), decide_eq_false (by omega), decide_eq_false (by omega), decide_eq_false (by omega), decide_eq_false (by omega), I, ⟨rfl, I⟩, ⟨rfl, I⟩, ⟨rfl, I⟩, ⟨notT (by omega), I⟩, ⟨notT (by omega), I⟩, ⟨notT (by omega), I⟩, ⟨rfl, notT (by omega)⟩, rfl, I, ⟨notF (by omega), I⟩, ⟨notF (by omega), I⟩, decide_eq_false (by omega), decide_eq_false (by omega), decide_eq_false (by omega), decide_eq_false (by omega), ⟨notF (by omega), decide_eq_false (by omega)⟩, notF (by omega), I, ⟨rfl, I⟩, ⟨rfl, I⟩, ⟨rfl, I⟩, ⟨notT (by omega), I⟩, ⟨notT (by omega), I⟩, ⟨notT (by omega), I⟩, ⟨rfl, notT (by omega)⟩, rfl, I⟩, ?_⟩
  refine W.cn ?_
  conv => whnf
  refine ⟨fun h8 => ?_, fun h8 => ?_⟩
  replace h8 := ndt h8
  refine g 3 4 [] ?_
  conv => whnf
  refine ⟨⟨I, I⟩, ?_⟩
  refine W.ret ?_
  refine EndsW.rt ?_
  conv => whnf
  refine ⟨⟨I, I, I⟩, ?_, rfl⟩
  rotate_left 1
  replace h8 := ndf h8
  refine W.skip ?_
  refine W.sq ?_
  refine g 10 103 [.b (false), .b (false), .b (false), .b (false), .b (false), .b (false), .b (false), .b (false), .b (true), .b (true), .b (true), .b (false), .b (true), .b (false)] ?_
  conv => whnf
  refine ⟨⟨I, I, decide_eq_false (by omega), decide_eq_false (by omega), decide_eq_false (by omega), decide_eq_false (by omega), decide_eq_false (by omega), I, ⟨rfl, I⟩, ⟨rfl, I⟩, ⟨rfl, I⟩, ⟨notT (by omega), I⟩, ⟨notT (by omega), I⟩, ⟨notT (by omega), I⟩, ⟨rfl, notT (by omega)⟩, rfl, I⟩, ?_⟩
  refine W.cn ?_
  conv => whnf
  refine ⟨fun h9 => ?_, fun h9 => ?_⟩
  replace h9 := ndt h9
  refine g 7 9 [] ?_
  conv => whnf
  refine ⟨⟨I, I⟩, ?_⟩
  refine W.ret ?_
  refine EndsW.rt ?_
  conv => whnf
  refine ⟨⟨I, I, I⟩, ?_, rfl⟩
  rotate_left 1
  replace h9 := ndf h9
  refine W.skip ?_
  refine g 5 120 [.b (false), .b (false), .b (false), .b (false), .b (false), .b (false), .b (false), .b (true), .b (true), .b (true), .b (true), .b (false), .b (true), .b (false)] ?_
  conv => whnf
  refine ⟨⟨I, I, decide_eq_false (by omega), decide_eq_false (by omega), decide_eq_false (by omega), decide_eq_false (by omega), I, ⟨rfl, I⟩, ⟨rfl, I⟩, ⟨rfl, I⟩, ⟨notT (by omega), I⟩, ⟨notT (by omega), I⟩, ⟨notT (by omega), I⟩, ⟨notT (by omega), I⟩, ⟨rfl, notT (by omega)⟩, rfl, I, I⟩, ?_⟩
  refine W.ret ?_
  refine EndsW.rt ?_
  conv => whnf
  refine ⟨⟨I, I, I⟩, ?_, rfl⟩
  rotate_left 1
  refine g 11 87 [.b (false), .b (false), .b (false), .b (false), .b (false), .b (false), .b (false), .b (false), .b (true), .b (true), .b (true), .b (false), .b (true), .b (false), .b (true), .b (true), .b (false), .b (false), .b (false), .b (false), .b (true), .b (true), .b (true), .b (true), .b (true), .b (false), .b (false), .b (false), .b (true), .b (true)] ?_
  conv => whnf
  refine ⟨⟨I, I, decide_eq_false (by omega), decide_eq_false (by omega), decide_eq_false (by omega), decide_eq_false (by omega), decide_eq_false (by omega), I, ⟨rfl, I⟩, ⟨rfl, I⟩, ⟨rfl, I⟩, ⟨notT (by omega), I⟩, ⟨notT (by omega), I⟩, ⟨notT (by omega), I⟩, ⟨rfl, notT (by omega)⟩, rfl, I, notT (by omega), notT (by omega), I, I, I, I, notT (by omega), notT (by omega), I, rfl, rfl, rfl, I, I, I, rfl, rfl, I⟩, ?_⟩
  refine W.cn ?_
  conv => whnf
  refine ⟨fun _ => ?_, noF (rfl)⟩
  refine g 3 4 [] ?_
  conv => whnf
  refine ⟨⟨I, I⟩, ?_⟩
  refine W.ret ?_
  refine EndsW.rt ?_
  conv => whnf
  refine ⟨⟨I, I, I⟩, ?_, rfl⟩
  rotate_left 1
  refine g 29 53 [.b (false), .b (false), .b (false), .b (false), .b (false), .b (false), .b (false), .b (false), .b (false), .b (false), .b (false), .b (false), .b (false), .b (true), .b (true), .b (true), .b (true), .b (true), .b (true), .b (true), .b (true), .b (true), .b (true), .b (false), .b (true), .b (false)] ?_
  conv => whnf
  refine ⟨⟨I, I, decide_eq_false (by omega), decide_eq_false (by omega), decide_eq_false (by omega), decide_eq_false (by omega), I, I, I, I, decide_eq_false (by omega), decide_eq_false (by omega), I, ⟨rfl, I⟩, ⟨rfl, I⟩, ⟨rfl, I⟩, ⟨notT (by omega), I⟩, ⟨notT (by omega), I⟩, ⟨notT (by omega), I⟩, ⟨notT (by omega), I⟩, notT (by omega), notT (by omega), notT (by omega), notT (by omega), ⟨notT (by omega), notT (by omega)⟩, ⟨rfl, notT (by omega)⟩, rfl, I⟩, ?_⟩
  refine W.cn ?_
  conv => whnf
  refine ⟨fun _ => ?_, noF (rfl)⟩
  refine g 11 16 [] ?_
  conv => whnf
  refine ⟨⟨I, I⟩, ?_⟩
  refine W.ret ?_
  refine EndsW.rt ?_
  conv => whnf
  refine ⟨⟨I, I, I⟩, ?_, rfl⟩
  rotate_left 1
  refine g 13 15 [.call (V.b (decide ((1 : Int) ≤ Message.kind m ∧ Message.kind m ≤ (5 : Int)))) ([[], [], []]), .b (true), .b (true), .b (true), .b (true), .b (true)] ?_
  conv => whnf
  refine ⟨⟨I, I, ⟨⟨I, I, I, I⟩, I, ⟨⟨I, I⟩, ⟨I, I⟩, ⟨I, I⟩, I⟩, ⟨I, I⟩, Go.K.c_spec_l2In _ _ _⟩, I, I, notT (by omega), notT (by omega), notT (by omega), notT (by omega), notT (by omega), I⟩, ?_⟩
  refine W.cn ?_
  conv => whnf
  refine ⟨fun _ => ?_, noF (rfl)⟩
  refine g 8 9 [] ?_
  conv => whnf
  refine ⟨⟨I, I⟩, ?_⟩
  refine W.ret ?_
  refine EndsW.rt ?_
  conv => whnf
  refine ⟨⟨I, I, I⟩, ?_, rfl⟩
  rotate_left 1
  all_goals (try simp only [List.length_map, decide_eq_true_eq, Bool.not_eq_true, Bool.not_eq_true', decide_eq_false_iff_not] at *)
  all_goals first
    | exact vbf (by unfold msgOk; grind)
    | exact vbt (by unfold msgOk; grind)
    | exact vbd (by unfold msgOk; grind)
end Go.K

end

section
set_option linter.unusedVariables false
set_option linter.unusedSimpArgs false
set_option maxHeartbeats 4000000
set_option maxRecDepth 20000
open Go Go.Tm Go.Proofs
namespace Go.K
def hdrM (m : Message) : List Int := [m.kind, m.frm, m.to, m.epoch / 256, m.epoch % 256, m.lease / 16777216, m.lease / 65536 % 256, m.lease / 256 % 256, m.lease % 256, m.task, m.inputs.length]
def catS : List ByteArray → ByteArray
  | [] => emp
  | x :: l => x ++ catS l
theorem emp_l (s : ByteArray) : emp ++ s = s := by apply ByteArray.ext; simp [emp]
theorem emp_r (s : ByteArray) : s ++ emp = s := by apply ByteArray.ext; simp [emp]
theorem catS_app : ∀ a b, catS (a ++ b) = catS a ++ catS b
  | [], b => by simp only [List.nil_append, catS, emp_l]
  | x :: a, b => by simp only [List.cons_append, catS, catS_app a b, ByteArray.append_assoc]
theorem catS_take {xs : List ByteArray} {n : Nat} {x : ByteArray} (h : xs[n]? = some x) : catS (xs.take (n + 1)) = catS (xs.take n) ++ x := by
  rw [List.take_add_one, h, catS_app]; simp only [Option.toList, catS, emp_r]
def bodyM (m : Message) : ByteArray := bl (hdrM m) ++ m.text ++ catS m.inputs
theorem bytesT_bl {l : List Int} (h : ∀ n ∈ l, 0 ≤ n ∧ n ≤ 255) : bytesT (bl l) = l.map b1T := by
  unfold bytesT bl b1T
  simp only [List.map_map]
  apply List.map_congr_left
  intro n hn
  obtain ⟨h1, h2⟩ := h n hn
  simp only [Function.comp]
  congr 4
  simp; omega
theorem ok_inputs {m : Message} (h : msgOk m) : m.inputs.length ≤ 8 ∧ (∀ s ∈ m.inputs, s.size = 8) ∧ m.text.size ≤ 8 := by
  have he : emp.size = 0 := rfl
  obtain ⟨_, h | h | h | h | h⟩ := h
  · obtain ⟨_, _, _, _, _, h1, h2, h3⟩ := h
    exact ⟨h3, h2, by rw [h1]; omega⟩
  all_goals
    obtain ⟨_, _, _, _, _, h1, h2⟩ := h
    have : m.inputs = [] := List.eq_nil_of_length_eq_zero (by omega)
    rw [this]
    refine ⟨by simp, (fun s hs => nomatch hs), ?_⟩
    first
      | (rw [h1]; omega)
      | omega
theorem ok_ranges {m : Message} (h : msgOk m) : (1 ≤ m.kind ∧ m.kind ≤ 5) ∧ (0 ≤ m.frm ∧ m.frm ≤ 8) ∧ (0 ≤ m.to ∧ m.to ≤ 8) ∧ (1 ≤ m.epoch ∧ m.epoch ≤ 300) ∧ (0 ≤ m.lease ∧ m.lease ≤ 300000000) ∧ (0 ≤ m.task ∧ m.task ≤ 39) := by
  obtain ⟨h0, h | h | h | h | h⟩ := h
  all_goals
    obtain ⟨h1, h2, h3, h4, h5, _⟩ := h
    refine ⟨?_, ?_, ?_, h0, ?_, ?_⟩ <;> omega
theorem hdr_range {m : Message} (h : msgOk m) : ∀ n ∈ hdrM m, 0 ≤ n ∧ n ≤ 255 := by
  obtain ⟨h1, h2, h3, h4, h5, h6⟩ := ok_ranges h
  have h7 := (ok_inputs h).1
  intro n hn
  simp only [hdrM, List.mem_cons, List.not_mem_nil, or_false] at hn
  rcases hn with rfl | rfl | rfl | rfl | rfl | rfl | rfl | rfl | rfl | rfl | rfl <;> omega
def bodyN (m : Message) (n : Nat) : ByteArray := bl (hdrM m) ++ m.text ++ catS (m.inputs.take n)
theorem bodyN_zero (m : Message) : bodyN m 0 = bl (hdrM m) ++ m.text := by unfold bodyN; rw [List.take_zero, catS, emp_r]
theorem bodyN_succ {m : Message} {n : Nat} {x : ByteArray} (h : m.inputs[n]? = some x) : bytesT (bodyN m n) ++ bytesT x = bytesT (bodyN m (n + 1)) := by
  unfold bodyN; rw [catS_take h, ← bytesT_app]; simp only [ByteArray.append_assoc]
theorem bodyN_all (m : Message) : bodyN m m.inputs.length = bodyM m := by unfold bodyN bodyM; rw [List.take_length]
theorem bodyN_size {m : Message} (h : msgOk m) (n : Nat) (hn : n ≤ m.inputs.length) : (bodyN m n).size = 11 + m.text.size + 8 * n := by
  obtain ⟨h7, h8, h9⟩ := ok_inputs h
  induction n with
  | zero => rw [bodyN_zero, ByteArray.size_append, bl_size]; rfl
  | succ k ih =>
    have hk : k < m.inputs.length := by omega
    have := congrArg List.length (bodyN_succ (List.getElem?_eq_getElem hk))
    rw [List.length_append, bytesT_len, bytesT_len, bytesT_len, ih (by omega), h8 _ (List.getElem_mem hk)] at this
    omega
theorem body_start {m : Message} (h : msgOk m) : [m.kind, m.frm, m.to, IntKind.u8.wrap (IntKind.i64.wrap (m.epoch.tdiv 256)), IntKind.u8.wrap (m.epoch.tmod 256), IntKind.u8.wrap (IntKind.i64.wrap (m.lease.tdiv 16777216)), IntKind.u8.wrap ((IntKind.i64.wrap (m.lease.tdiv 65536)).tmod 256), IntKind.u8.wrap ((IntKind.i64.wrap (m.lease.tdiv 256)).tmod 256), IntKind.u8.wrap (m.lease.tmod 256), m.task, IntKind.u8.wrap ((m.inputs.map strT).length : Int)].map b1T ++ bytesT m.text = bytesT (bodyN m 0) := by
  obtain ⟨h1, h2, h3, h4, h5, h6⟩ := ok_ranges h
  have h7 := (ok_inputs h).1
  rw [bodyN_zero, bytesT_app, bytesT_bl (hdr_range h)]
  unfold hdrM
  rw [List.length_map, Int.tdiv_eq_ediv_of_nonneg (by omega), Int.tdiv_eq_ediv_of_nonneg (by omega), Int.tdiv_eq_ediv_of_nonneg (by omega), Int.tdiv_eq_ediv_of_nonneg (by omega), w64 (z := m.lease / 65536) (by omega) (by omega), w64 (z := m.lease / 256) (by omega) (by omega), w64 (z := m.lease / 16777216) (by omega) (by omega), w64 (z := m.epoch / 256) (by omega) (by omega), Int.tmod_eq_emod_of_nonneg (by omega), Int.tmod_eq_emod_of_nonneg (by omega), Int.tmod_eq_emod_of_nonneg (by omega), Int.tmod_eq_emod_of_nonneg (by omega), wu8 (by omega) (by omega), wu8 (by omega) (by omega), wu8 (by omega) (by omega), wu8 (by omega) (by omega), wu8 (by omega) (by omega), wu8 (by omega) (by omega), wu8 (by omega) (by omega)]
theorem c_spec_l2Body (m : Message) (h : msgOk m) : F n_spec_l2Body [.val (messageR m)] (.s (bodyM m)) [[]] := by
  obtain ⟨h1, h2, h3, h4, h5, h6⟩ := ok_ranges h
  obtain ⟨h7, h8, h9⟩ := ok_inputs h
  refine i_spec_l2Body ?_
  conv => whnf
  refine g 0 0 [] ?_
  conv => whnf
  refine ⟨⟨⟨I, I, I, I, I, I, I, I, I⟩, I, I⟩, ?_⟩
  refine g 0 0 [] ?_
  conv => whnf
  refine ⟨⟨I, I, I, I⟩, ?_⟩
  refine g 10 47 [.i (Message.kind m), .i (Message.frm m), .i (Message.to m), .i (IntKind.wrap IntKind.i64 (Int.tdiv (Message.epoch m) (256 : Int))), .i (IntKind.wrap IntKind.u8 (IntKind.wrap IntKind.i64 (Int.tdiv (Message.epoch m) (256 : Int)))), .i (Int.tmod (Message.epoch m) (256 : Int)), .i (IntKind.wrap IntKind.u8 (Int.tmod (Message.epoch m) (256 : Int))), .i (IntKind.wrap IntKind.i64 (Int.tdiv (Message.lease m) (16777216 : Int))), .i (IntKind.wrap IntKind.u8 (IntKind.wrap IntKind.i64 (Int.tdiv (Message.lease m) (16777216 : Int)))), .i (IntKind.wrap IntKind.i64 (Int.tdiv (Message.lease m) (65536 : Int))), .i (Int.tmod (IntKind.wrap IntKind.i64 (Int.tdiv (Message.lease m) (65536 : Int))) (256 : Int)), .i (IntKind.wrap IntKind.u8 (Int.tmod (IntKind.wrap IntKind.i64 (Int.tdiv (Message.lease m) (65536 : Int))) (256 : Int))), .i (IntKind.wrap IntKind.i64 (Int.tdiv (Message.lease m) (256 : Int))), .i (Int.tmod (IntKind.wrap IntKind.i64 (Int.tdiv (Message.lease m) (256 : Int))) (256 : Int)), .i (IntKind.wrap IntKind.u8 (Int.tmod (IntKind.wrap IntKind.i64 (Int.tdiv (Message.lease m) (256 : Int))) (256 : Int))), .i (Int.tmod (Message.lease m) (256 : Int)), .i (IntKind.wrap IntKind.u8 (Int.tmod (Message.lease m) (256 : Int))), .i (Message.task m), .i (IntKind.wrap IntKind.u8 (↑(List.length (List.map strT (Message.inputs m))) : Int))] ?_
  conv => whnf
  refine ⟨⟨I, I, wu8 (by omega) (by omega), I, I, wu8 (by omega) (by omega), I, I, wu8 (by omega) (by omega), I, I, ⟨(by omega), rfl⟩, rfl, I, I, ⟨(by omega), rfl⟩, rfl, I, ⟨(by omega), rfl⟩, rfl, I, ⟨(by omega), rfl⟩, ⟨(by omega), rfl⟩, rfl, I, ⟨(by omega), rfl⟩, ⟨(by omega), rfl⟩, rfl, I, ⟨(by omega), rfl⟩, rfl, I, I, wu8 (by omega) (by omega), I, I, I, rfl, ⟨⟨I, I⟩, ⟨I, I⟩, ⟨I, I⟩, ⟨I, I⟩, ⟨I, I⟩, ⟨I, I⟩, ⟨I, I⟩, ⟨I, I⟩, ⟨I, I⟩, ⟨I, I⟩, ⟨I, I⟩, I⟩, I, I⟩, ?_⟩
  refine g 47 51 [] ?_
  conv => whnf
  refine ⟨⟨I, I, I, ⟨I, I, (by simp only [List.length_map, List.length_append, List.length_set, List.length_replicate, List.length_cons, List.length_nil, List.length_take, List.length_drop, fill_len, fillI_len, List.length_range, bytesT_len]; omega)⟩, I, I⟩, ?_⟩
  refine W.sq ?_
  refine g 6 9 [] ?_
  conv => whnf
  refine ⟨⟨I, I⟩, ?_⟩
  refine W.blk ?_
  refine W.lp (fun s (n : Nat) => ⟨[(1, s.s 1), (2, s.s 2), (4, .ref ⟨4, none, 0⟩), (5, .i n), (9, s.s 9)], [(1, [s.c 1 0, s.c 1 1, s.c 1 2, s.c 1 3, s.c 1 4, s.c 1 5, s.c 1 6, s.c 1 7]), (4, [.own [false] (bytesT (bodyN m n))])], []⟩) (fun (n : Nat) => n ≤ m.inputs.length) (fun (n : Nat) => m.inputs.length - n) (0) [some 1, some 50] [] ⟨rfl, ⟨rfl, rfl, rfl, rfl, rfl, I⟩, ⟨⟨rfl, ⟨rfl, ⟨rfl, ⟨rfl, ⟨rfl, ⟨rfl, ⟨rfl, ⟨rfl, ⟨rfl, I⟩⟩⟩⟩⟩⟩⟩⟩⟩, ⟨⟨rfl, ⟨(congrArg (V.own _) (body_start h)), I⟩⟩, I⟩⟩, I⟩ (by omega) ?_
  intro n hn
  have hc := bodyN_size h n hn
  have hb := bytesT_len (bodyN m n)
  conv => whnf
  refine W.sq ?_
  refine g 51 55 [] ?_
  conv => whnf
  refine ⟨⟨I, I, I, I, I, I⟩, ?_⟩
  refine W.cn ?_
  conv => whnf
  refine ⟨fun h10 => ?_, fun h10 => ?_⟩
  replace h10 := dt h10
  simp only [List.length_map] at h10
  refine W.skip ?_
  refine W.sq ?_
  refine W.blk ?_
  obtain ⟨y1, hy1⟩ := some_at (xs := Message.inputs m) (n := n) (by omega)
  have hm1 := h8 y1 (List.mem_of_getElem? hy1)
  refine rg [.x (strT y1)] ?_
  conv => whnf
  refine ⟨⟨I, I, I, I, ⟨(by omega), ixl (by assumption)⟩, I, ⟨I, I, (by simp only [List.length_map, List.length_append, List.length_set, List.length_replicate, List.length_cons, List.length_nil, List.length_take, List.length_drop, fill_len, fillI_len, List.length_range, bytesT_len]; omega)⟩, I, I⟩, ?_⟩
  refine rg [.i ((↑n : Int) + (1 : Int))] ?_
  conv => whnf
  refine ⟨⟨I, w64 (by omega) (by omega), I, I⟩, ?_⟩
  rotate_left 1
  replace h10 := df h10
  simp only [List.length_map] at h10
  refine W.exit ?_
  refine g 55 67 [.s (bodyN m n)] ?_
  conv => whnf
  refine ⟨⟨I, ⟨I, allU8_bytesT _, (bytesOf_bytesT _).symm⟩, I, I⟩, ?_⟩
  refine W.ret ?_
  refine EndsW.rt ?_
  conv => whnf
  refine ⟨⟨I, I, I⟩, ?_, rfl⟩
  rotate_left 1
  · refine ⟨n + 1, [some 1, some 64], [], ⟨rfl, ⟨rfl, rfl, rfl, rfl, rfl, I⟩, ⟨⟨rfl, ⟨rfl, ⟨rfl, ⟨rfl, ⟨rfl, ⟨rfl, ⟨rfl, ⟨rfl, ⟨rfl, I⟩⟩⟩⟩⟩⟩⟩⟩⟩, ⟨⟨rfl, ⟨(congrArg (V.own _) (bodyN_succ (by assumption))), I⟩⟩, I⟩⟩, I⟩, ?_, ?_⟩
    rotate_left 1
    (dsimp only; omega)
    dsimp only
    omega
  · exact vs (by rw [show n = m.inputs.length from by omega, bodyN_all])
end Go.K

end

section
set_option linter.unusedVariables false
set_option linter.unusedSimpArgs false
set_option maxHeartbeats 4000000
set_option maxRecDepth 20000
open Go Go.Tm Go.Proofs
namespace Go.K
attribute [local irreducible] ByteArray.extract
def formM (m : Message) (key : ByteArray) : ByteArray := if msgOk m ∧ key.size ≤ 30 then sealT (bodyM m) key ++ bodyM m else emp
theorem bodyM_size {m : Message} (h : msgOk m) : (bodyM m).size = 11 + m.text.size + 8 * m.inputs.length := by
  rw [← bodyN_all, bodyN_size h _ (Nat.le_refl _)]
theorem c_spec_FormMessage (m : Message) (key : ByteArray) (hl : m.inputs.length ≤ 9223372036854775806) : F n_spec_FormMessage [.val (messageR m), .val (.s key)] (.s (formM m key)) [[], []] := by
  have c1 := c_spec_l2Ok m hl
  have c2 := c_spec_l2Body m
  by_cases h : msgOk m
  · have hb := bodyM_size h
    obtain ⟨h7, h8, h9⟩ := ok_inputs h
    rw [show decide (msgOk m) = true from decide_eq_true h] at c1
    have c3 := c2 h
    clear c2
    by_cases hk : key.size ≤ 30
    · have c4 := c_spec_l1Sum (key ++ nul ++ bodyM m) (by rw [ByteArray.size_append, ByteArray.size_append]; have : nul.size = 1 := rfl; omega)
      rw [fnvs_all, show bl (beL (fnvA h0v (key ++ nul ++ bodyM m)) 8) = sealT (bodyM m) key from rfl] at c4
      have hn : nul.size = 1 := rfl
      have h2 : (sealT (bodyM m) key).size = 8 := sumT_size _
      refine i_spec_FormMessage ?_
      conv => whnf
      refine g 0 1 [] ?_
      conv => whnf
      refine ⟨⟨⟨I, I, I, I, I, I, I, I, I⟩, I, I⟩, ?_⟩
      refine W.sq ?_
      refine g 6 9 [.call (V.b true) ([[]]), .b (false), .b (false), .b (false), .b (false)] ?_
      conv => whnf
      refine ⟨⟨I, ⟨⟨I, I⟩, I, ⟨⟨I, I, I, I, I, I, I, I, I⟩, I⟩, ⟨I, I⟩, (by assumption)⟩, I, I, ⟨rfl, I⟩, ⟨rfl, I⟩, ⟨rfl, I⟩, rfl, I⟩, ?_⟩
      refine W.cn ?_
      conv => whnf
      refine ⟨noT (decide_eq_false (by omega)), fun _ => ?_⟩
      refine W.skip ?_
      refine g 10 16 [.call (V.s (bodyM m)) ([[]])] ?_
      conv => whnf
      refine ⟨⟨I, ⟨⟨I, I⟩, I, ⟨⟨I, I, I, I, I, I, I, I, I⟩, I⟩, ⟨I, I⟩, (by assumption)⟩, I, I⟩, ?_⟩
      refine g 16 23 [.s (key ++ { data := #[(0 : UInt8)] : ByteArray }), .s (key ++ { data := #[(0 : UInt8)] : ByteArray } ++ bodyM m), .call (V.s (sealT (bodyM m) key)) ([[]]), .s (sealT (bodyM m) key ++ bodyM m)] ?_
      conv => whnf
      refine ⟨⟨I, ⟨rfl, (by simp only [bsz, bsa, ByteArray.size_append, List.size_toArray, List.length_map, List.length_append, List.length_set, List.length_replicate, List.length_cons, List.length_nil, List.length_take, List.length_drop, fill_len, fillI_len, List.length_range, bytesT_len]; omega)⟩, I, ⟨rfl, (by simp only [bsz, bsa, ByteArray.size_append, List.size_toArray, List.length_map, List.length_append, List.length_set, List.length_replicate, List.length_cons, List.length_nil, List.length_take, List.length_drop, fill_len, fillI_len, List.length_range, bytesT_len]; omega)⟩, ⟨⟨I, I⟩, I, ⟨⟨I, I⟩, I⟩, ⟨I, I⟩, (by assumption)⟩, I, ⟨rfl, (by omega)⟩, I, I⟩, ?_⟩
      refine W.ret ?_
      refine EndsW.rt ?_
      conv => whnf
      refine ⟨⟨I, I, I⟩, ?_, rfl⟩
      exact vs (if_pos ⟨h, hk⟩).symm
    · refine i_spec_FormMessage ?_
      conv => whnf
      refine g 0 1 [] ?_
      conv => whnf
      refine ⟨⟨⟨I, I, I, I, I, I, I, I, I⟩, I, I⟩, ?_⟩
      refine W.sq ?_
      refine g 6 9 [.call (V.b true) ([[]]), .b (false), .b (false), .b (false), .b (false)] ?_
      conv => whnf
      refine ⟨⟨I, ⟨⟨I, I⟩, I, ⟨⟨I, I, I, I, I, I, I, I, I⟩, I⟩, ⟨I, I⟩, (by assumption)⟩, I, I, ⟨rfl, I⟩, ⟨rfl, I⟩, ⟨rfl, I⟩, rfl, I⟩, ?_⟩
      refine W.cn ?_
      conv => whnf
      refine ⟨fun _ => ?_, noF (decide_eq_true (by omega))⟩
      refine g 10 14 [] ?_
      conv => whnf
      refine ⟨⟨I, I⟩, ?_⟩
      refine W.ret ?_
      refine EndsW.rt ?_
      conv => whnf
      refine ⟨⟨I, I, I⟩, ?_, rfl⟩
      exact vs (if_neg (fun h => hk h.2)).symm
  · rw [show decide (msgOk m) = false from decide_eq_false h] at c1
    clear c2
    refine i_spec_FormMessage ?_
    conv => whnf
    refine g 0 1 [] ?_
    conv => whnf
    refine ⟨⟨⟨I, I, I, I, I, I, I, I, I⟩, I, I⟩, ?_⟩
    refine W.sq ?_
    refine g 6 9 [.call (V.b false) ([[]]), .b (true), .b (true), .b (true), .b (true)] ?_
    conv => whnf
    refine ⟨⟨I, ⟨⟨I, I⟩, I, ⟨⟨I, I, I, I, I, I, I, I, I⟩, I⟩, ⟨I, I⟩, (by assumption)⟩, I, I, rfl, rfl, rfl, rfl, I⟩, ?_⟩
    refine W.cn ?_
    conv => whnf
    refine ⟨fun _ => ?_, noF (rfl)⟩
    refine g 10 14 [] ?_
    conv => whnf
    refine ⟨⟨I, I⟩, ?_⟩
    refine W.ret ?_
    refine EndsW.rt ?_
    conv => whnf
    refine ⟨⟨I, I, I⟩, ?_, rfl⟩
    exact vs (if_neg (fun x => h x.1)).symm
end Go.K

end

section
set_option linter.unusedVariables false
set_option linter.unusedSimpArgs false
set_option maxHeartbeats 4000000
set_option maxRecDepth 20000
open Go Go.Tm Go.Proofs
namespace Go.K
attribute [local irreducible] ByteArray.extract
end Go.K

end

section
set_option linter.unusedVariables false
set_option linter.unusedSimpArgs false
set_option maxHeartbeats 4000000
set_option maxRecDepth 20000
open Go Go.Tm Go.Proofs
namespace Go.K
attribute [local irreducible] ByteArray.extract
end Go.K

end

section
set_option linter.unusedVariables false
set_option linter.unusedSimpArgs false
set_option maxHeartbeats 4000000
set_option maxRecDepth 20000
open Go Go.Tm Go.Proofs
namespace Go.K
theorem c_laws_szMessage (x : Message) (left : Int) (hw : messageWf x) (h : left ≤ 1048576) (h0 : 0 ≤ left) : F n_laws_szMessage [.val (messageR x), .val (.i left)] (.i (if left - messageSz x < 0 then -1 else left - messageSz x)) [[], []] := by
  have hn0 := totS_nn x.inputs
  obtain ⟨hw0, hw1, hw2⟩ := hw
  have hz : messageSz x = (x.text.size : Int) + ((x.inputs.length : Int) + totS x.inputs) := rfl
  refine i_laws_szMessage ?_
  conv => whnf
  refine g 0 1 [] ?_
  conv => whnf
  refine ⟨⟨⟨I, I, I, I, I, I, I, I, I⟩, I, I⟩, ?_⟩
  refine g 5 10 [.i (left - (↑(ByteArray.size (Message.text x)) : Int))] ?_
  conv => whnf
  refine ⟨⟨I, I, I, I, w64 (by omega) (by omega), I, I⟩, ?_⟩
  refine W.sq ?_
  refine g 10 11 [] ?_
  conv => whnf
  refine ⟨⟨I, I, I⟩, ?_⟩
  refine W.cn ?_
  conv => whnf
  refine ⟨fun h1 => ?_, fun h1 => ?_⟩
  replace h1 := dt h1
  refine g 11 12 [] ?_
  conv => whnf
  refine ⟨⟨I, I⟩, ?_⟩
  refine W.ret ?_
  refine EndsW.rt ?_
  conv => whnf
  refine ⟨⟨I, I, I⟩, ?_, rfl⟩
  exact vi (by omega)
  replace h1 := df h1
  refine W.skip ?_
  refine g 11 16 [.call (V.i (if left - (↑(ByteArray.size (Message.text x)) : Int) - (↑(List.length (Message.inputs x)) : Int) - totS (Message.inputs x) < (0 : Int) then (-1 : Int) else left - (↑(ByteArray.size (Message.text x)) : Int) - (↑(List.length (Message.inputs x)) : Int) - totS (Message.inputs x))) ([[], []])] ?_
  conv => whnf
  refine ⟨⟨I, I, I, ⟨⟨I, I, I⟩, I, ⟨⟨I, I⟩, ⟨I, I⟩, I⟩, ⟨I, I⟩, Go.K.c_laws_szStringS _ _ (by omega) (by omega) (by omega) (by omega)⟩, I, I⟩, ?_⟩
  refine W.sq ?_
  refine g 2 3 [] ?_
  conv => whnf
  refine ⟨⟨I, I, I⟩, ?_⟩
  refine W.cn ?_
  conv => whnf
  refine ⟨fun h2 => ?_, fun h2 => ?_⟩
  replace h2 := dt h2
  refine g 16 18 [] ?_
  conv => whnf
  refine ⟨⟨I, I⟩, ?_⟩
  refine W.ret ?_
  refine EndsW.rt ?_
  conv => whnf
  refine ⟨⟨I, I, I⟩, ?_, rfl⟩
  exact vi (by omega)
  replace h2 := df h2
  refine W.skip ?_
  refine g 16 19 [] ?_
  conv => whnf
  refine ⟨⟨I, I, I⟩, ?_⟩
  refine W.ret ?_
  refine EndsW.rt ?_
  conv => whnf
  refine ⟨⟨I, I, I⟩, ?_, rfl⟩
  exact vi (by omega)
theorem c_laws_toMessage (x : Message) (h : messageSz x ≤ 1048576) : F n_laws_toMessage [.val (messageR x)] (messageO x) [[]] := by
  have hn0 := totS_nn x.inputs
  have hz : messageSz x = (x.text.size : Int) + ((x.inputs.length : Int) + totS x.inputs) := rfl
  refine i_laws_toMessage ?_
  conv => whnf
  refine g 0 1 [] ?_
  conv => whnf
  refine ⟨⟨⟨I, I, I, I, I, I, I, I, I⟩, I, I⟩, ?_⟩
  refine g 0 0 [] ?_
  conv => whnf
  refine ⟨⟨I, I⟩, ?_⟩
  refine g 4 7 [] ?_
  conv => whnf
  refine ⟨⟨I, I, I, ⟨I, I⟩, I⟩, ?_⟩
  refine g 7 10 [] ?_
  conv => whnf
  refine ⟨⟨I, I, I, ⟨I, I⟩, I⟩, ?_⟩
  refine g 10 13 [] ?_
  conv => whnf
  refine ⟨⟨I, I, I, ⟨I, I⟩, I⟩, ?_⟩
  refine g 13 16 [] ?_
  conv => whnf
  refine ⟨⟨I, I, I, ⟨I, I⟩, I⟩, ?_⟩
  refine g 16 19 [] ?_
  conv => whnf
  refine ⟨⟨I, I, I, ⟨I, I⟩, I⟩, ?_⟩
  refine g 19 22 [] ?_
  conv => whnf
  refine ⟨⟨I, I, I, ⟨I, I⟩, I⟩, ?_⟩
  refine g 22 25 [] ?_
  conv => whnf
  refine ⟨⟨I, I, I, ⟨I, I⟩, I⟩, ?_⟩
  refine g 25 27 [.call (V.own [false] (List.map strT (Message.inputs x))) ([[]])] ?_
  conv => whnf
  refine ⟨⟨I, I, ⟨⟨I, I⟩, I, ⟨⟨I, I⟩, I⟩, ⟨I, I⟩, Go.K.c_laws_toStringS _ (by omega)⟩, I, ⟨I, I⟩, I⟩, ?_⟩
  refine g 28 30 [] ?_
  conv => whnf
  refine ⟨⟨I, ⟨I, I, I, I, I, I, I, I, I⟩, I⟩, ?_⟩
  refine W.ret ?_
  refine EndsW.rt ?_
  conv => whnf
  refine ⟨⟨I, I, I, I, I, I, I, I, I, I⟩, ?_, rfl⟩
  rfl
def messageLen (a : Message) : Prop := a.inputs.length ≤ 9223372036854775806
theorem c_laws_eqMessage (a b : Message) (hl : messageLen a) : F n_laws_eqMessage [.val (messageR a), .val (messageR b)] (.b (decide (a = b))) [[], []] := by
  obtain ⟨a_kind, a_frm, a_to, a_epoch, a_lease, a_task, a_text, a_inputs⟩ := a
  obtain ⟨b_kind, b_frm, b_to, b_epoch, b_lease, b_task, b_text, b_inputs⟩ := b
  simp only [messageLen] at hl
  refine i_laws_eqMessage ?_
  conv => whnf
  refine g 0 2 [] ?_
  conv => whnf
  refine ⟨⟨⟨I, I, I, I, I, I, I, I, I⟩, ⟨I, I, I, I, I, I, I, I, I⟩, I, I⟩, ?_⟩
  refine W.sq ?_
  refine g 5 9 [] ?_
  conv => whnf
  refine ⟨⟨I, I, I, I, I, I⟩, ?_⟩
  refine W.cn ?_
  conv => whnf
  refine ⟨fun h1 => ?_, fun h1 => ?_⟩
  replace h1 := ndt h1
  refine g 9 10 [] ?_
  conv => whnf
  refine ⟨⟨I, I⟩, ?_⟩
  refine W.ret ?_
  refine EndsW.rt ?_
  conv => whnf
  refine ⟨⟨I, I, I⟩, ?_, rfl⟩
  rotate_left 1
  replace h1 := ndf h1
  refine W.skip ?_
  refine W.sq ?_
  refine g 9 14 [] ?_
  conv => whnf
  refine ⟨⟨I, I, I, I, I, I⟩, ?_⟩
  refine W.cn ?_
  conv => whnf
  refine ⟨fun h2 => ?_, fun h2 => ?_⟩
  replace h2 := ndt h2
  refine g 14 15 [] ?_
  conv => whnf
  refine ⟨⟨I, I⟩, ?_⟩
  refine W.ret ?_
  refine EndsW.rt ?_
  conv => whnf
  refine ⟨⟨I, I, I⟩, ?_, rfl⟩
  rotate_left 1
  replace h2 := ndf h2
  refine W.skip ?_
  refine W.sq ?_
  refine g 14 19 [] ?_
  conv => whnf
  refine ⟨⟨I, I, I, I, I, I⟩, ?_⟩
  refine W.cn ?_
  conv => whnf
  refine ⟨fun h3 => ?_, fun h3 => ?_⟩
  replace h3 := ndt h3
  refine g 19 20 [] ?_
  conv => whnf
  refine ⟨⟨I, I⟩, ?_⟩
  refine W.ret ?_
  refine EndsW.rt ?_
  conv => whnf
  refine ⟨⟨I, I, I⟩, ?_, rfl⟩
  rotate_left 1
  replace h3 := ndf h3
  refine W.skip ?_
  refine W.sq ?_
  refine g 19 24 [] ?_
  conv => whnf
  refine ⟨⟨I, I, I, I, I, I⟩, ?_⟩
  refine W.cn ?_
  conv => whnf
  refine ⟨fun h4 => ?_, fun h4 => ?_⟩
  replace h4 := ndt h4
  refine g 24 25 [] ?_
  conv => whnf
  refine ⟨⟨I, I⟩, ?_⟩
  refine W.ret ?_
  refine EndsW.rt ?_
  conv => whnf
  refine ⟨⟨I, I, I⟩, ?_, rfl⟩
  rotate_left 1
  replace h4 := ndf h4
  refine W.skip ?_
  refine W.sq ?_
  refine g 24 29 [] ?_
  conv => whnf
  refine ⟨⟨I, I, I, I, I, I⟩, ?_⟩
  refine W.cn ?_
  conv => whnf
  refine ⟨fun h5 => ?_, fun h5 => ?_⟩
  replace h5 := ndt h5
  refine g 29 30 [] ?_
  conv => whnf
  refine ⟨⟨I, I⟩, ?_⟩
  refine W.ret ?_
  refine EndsW.rt ?_
  conv => whnf
  refine ⟨⟨I, I, I⟩, ?_, rfl⟩
  rotate_left 1
  replace h5 := ndf h5
  refine W.skip ?_
  refine W.sq ?_
  refine g 29 34 [] ?_
  conv => whnf
  refine ⟨⟨I, I, I, I, I, I⟩, ?_⟩
  refine W.cn ?_
  conv => whnf
  refine ⟨fun h6 => ?_, fun h6 => ?_⟩
  replace h6 := ndt h6
  refine g 34 35 [] ?_
  conv => whnf
  refine ⟨⟨I, I⟩, ?_⟩
  refine W.ret ?_
  refine EndsW.rt ?_
  conv => whnf
  refine ⟨⟨I, I, I⟩, ?_, rfl⟩
  rotate_left 1
  replace h6 := ndf h6
  refine W.skip ?_
  refine W.sq ?_
  refine g 34 39 [] ?_
  conv => whnf
  refine ⟨⟨I, I, I, I, I, I⟩, ?_⟩
  refine W.cn ?_
  conv => whnf
  refine ⟨fun h7 => ?_, fun h7 => ?_⟩
  replace h7 := ndt h7
  refine g 39 40 [] ?_
  conv => whnf
  refine ⟨⟨I, I⟩, ?_⟩
  refine W.ret ?_
  refine EndsW.rt ?_
  conv => whnf
  refine ⟨⟨I, I, I⟩, ?_, rfl⟩
  rotate_left 1
  replace h7 := ndf h7
  refine W.skip ?_
  refine W.sq ?_
  refine g 39 45 [.call (V.b (decide (a_inputs = b_inputs))) ([[], []])] ?_
  conv => whnf
  refine ⟨⟨I, I, I, I, ⟨⟨I, I, I⟩, I, ⟨⟨I, I⟩, ⟨I, I⟩, I⟩, ⟨I, I⟩, Go.K.c_laws_eqStringS _ _ (by omega)⟩, I, I⟩, ?_⟩
  refine W.cn ?_
  conv => whnf
  refine ⟨fun h8 => ?_, fun h8 => ?_⟩
  replace h8 := ndt h8
  refine g 2 4 [] ?_
  conv => whnf
  refine ⟨⟨I, I⟩, ?_⟩
  refine W.ret ?_
  refine EndsW.rt ?_
  conv => whnf
  refine ⟨⟨I, I, I⟩, ?_, rfl⟩
  rotate_left 1
  replace h8 := ndf h8
  refine W.skip ?_
  refine g 2 4 [] ?_
  conv => whnf
  refine ⟨⟨I, I⟩, ?_⟩
  refine W.ret ?_
  refine EndsW.rt ?_
  conv => whnf
  refine ⟨⟨I, I, I⟩, ?_, rfl⟩
  rotate_left 1
  all_goals (first | exact vbt (by simp_all; done) | exact vbf (by simp_all; done))
theorem wf_Message {n : Nat} {x : List T} (h : wfT E (n + 3) ty_laws_Message x) : ∃ v : Message, x = messageT v ∧ messageWf v := by
  obtain ⟨y0, z0, e0, ⟨kind, rfl, _, _⟩, y1, z1, e1, ⟨frm, rfl, _, _⟩, y2, z2, e2, ⟨to, rfl, _, _⟩, y3, z3, e3, ⟨epoch, rfl, _, _⟩, y4, z4, e4, ⟨lease, rfl, _, _⟩, y5, z5, e5, ⟨task, rfl, _, _⟩, y6, z6, e6, ⟨text, rfl, htext⟩, y7, z7, e7, ⟨linputs, rfl, hinputs, ginputs⟩, e8⟩ := h
  subst e8
  subst e7
  subst e6
  subst e5
  subst e4
  subst e3
  subst e2
  subst e1
  obtain ⟨inputs, rfl, winputs⟩ := wf_strs ginputs
  subst e0
  exact ⟨⟨kind, frm, to, epoch, lease, task, text, inputs⟩, rfl, ⟨htext, by rw [List.length_map] at hinputs; exact hinputs, winputs⟩⟩
end Go.K

end

section
set_option linter.unusedVariables false
set_option linter.unusedSimpArgs false
set_option maxHeartbeats 4000000
set_option maxRecDepth 20000
open Go Go.Tm Go.Proofs
namespace Go.K
attribute [local irreducible] ByteArray.extract
theorem bodyN_str {m : Message} {n : Nat} {x : ByteArray} (h : m.inputs[n]? = some x) : bodyN m n ++ x = bodyN m (n + 1) := by
  unfold bodyN; rw [catS_take h]; simp only [ByteArray.append_assoc]
theorem u8mod (x : Int) : IntKind.u8.wrap x = x % 256 := by simp [IntKind.wrap, IntKind.bits, IntKind.signed]
theorem shr_byte {x : Int} (k : Nat) (d : Int) (hk : (2 : Int) ^ min k IntKind.i64.bits = d) (h : 0 ≤ d) : IntKind.u8.wrap (x.fdiv (2 ^ min (Int.toNat (k : Int)) IntKind.i64.bits)) = x / d % 256 := by
  rw [Int.toNat_natCast, hk, u8mod, Int.fdiv_eq_ediv_of_nonneg _ h]
theorem body_startI {m : Message} (h : msgOk m) : (⟨(bytesOf ([m.kind, m.frm, m.to, IntKind.u8.wrap (m.epoch.fdiv (2 ^ min (Int.toNat 8) IntKind.i64.bits)), IntKind.u8.wrap m.epoch, IntKind.u8.wrap (m.lease.fdiv (2 ^ min (Int.toNat 24) IntKind.i64.bits)), IntKind.u8.wrap (m.lease.fdiv (2 ^ min (Int.toNat 16) IntKind.i64.bits)), IntKind.u8.wrap (m.lease.fdiv (2 ^ min (Int.toNat 8) IntKind.i64.bits)), IntKind.u8.wrap m.lease, m.task, IntKind.u8.wrap ((m.inputs.map strT).length : Int)].map b1T)).toArray⟩ : ByteArray) ++ m.text = bodyN m 0 := by
  obtain ⟨h1, h2, h3, h4, h5, h6⟩ := ok_ranges h
  have h7 := (ok_inputs h).1
  have e : [m.kind, m.frm, m.to, IntKind.u8.wrap (m.epoch.fdiv (2 ^ min (Int.toNat 8) IntKind.i64.bits)), IntKind.u8.wrap m.epoch, IntKind.u8.wrap (m.lease.fdiv (2 ^ min (Int.toNat 24) IntKind.i64.bits)), IntKind.u8.wrap (m.lease.fdiv (2 ^ min (Int.toNat 16) IntKind.i64.bits)), IntKind.u8.wrap (m.lease.fdiv (2 ^ min (Int.toNat 8) IntKind.i64.bits)), IntKind.u8.wrap m.lease, m.task, IntKind.u8.wrap ((m.inputs.map strT).length : Int)] = hdrM m := by
    have a1 : IntKind.u8.wrap (m.epoch.fdiv (2 ^ min (Int.toNat 8) IntKind.i64.bits)) = m.epoch / 256 % 256 := shr_byte 8 256 (by decide) (by decide)
    have a2 : IntKind.u8.wrap (m.lease.fdiv (2 ^ min (Int.toNat 24) IntKind.i64.bits)) = m.lease / 16777216 % 256 := shr_byte 24 16777216 (by decide) (by decide)
    have a3 : IntKind.u8.wrap (m.lease.fdiv (2 ^ min (Int.toNat 16) IntKind.i64.bits)) = m.lease / 65536 % 256 := shr_byte 16 65536 (by decide) (by decide)
    have a4 : IntKind.u8.wrap (m.lease.fdiv (2 ^ min (Int.toNat 8) IntKind.i64.bits)) = m.lease / 256 % 256 := shr_byte 8 256 (by decide) (by decide)
    have b1 : m.epoch / 256 % 256 = m.epoch / 256 := by omega
    have b2 : m.lease / 16777216 % 256 = m.lease / 16777216 := by omega
    unfold hdrM
    rw [List.length_map]
    rw [a1, a2, a3, a4, b1, b2, u8mod, u8mod, wu8 (z := (m.inputs.length : Int)) (by omega) (by omega)]
  rw [e, bodyN_zero, ← bytesT_bl (hdr_range h), bytesOf_bytesT]
theorem c_impl_FormMessage (m : Message) (key : ByteArray) (hl : m.inputs.length ≤ 9223372036854775806) : F n_impl_FormMessage [.val (messageR m), .val (.s key)] (.s (formM m key)) [[], []] := by
  have c1 := c_impl_Message_valid m hl
  by_cases h : msgOk m
  · have hb := bodyM_size h
    obtain ⟨h1, h2, h3, h4, h5, h6⟩ := ok_ranges h
    obtain ⟨h7, h8, h9⟩ := ok_inputs h
    rw [show decide (msgOk m) = true from decide_eq_true h] at c1
    by_cases hk : key.size ≤ 30
    · have c4 := c_impl_seal (bodyM m) key (by omega) (by omega)
      have hs : (sealT (bodyM m) key).size = 8 := sumT_size _
      refine i_impl_FormMessage ?_
      conv => whnf
      refine g 0 0 [] ?_
      conv => whnf
      refine ⟨⟨⟨I, I, I, I, I, I, I, I, I⟩, I, I⟩, ?_⟩
      refine W.sq ?_
      refine g 11 16 [.call (V.b true) ([[]]), .b (false), .b (false), .b (false), .b (false)] ?_
      conv => whnf
      refine ⟨⟨I, ⟨⟨I, I⟩, I, ⟨⟨I, I, I, I, I, I, I, I, I⟩, I⟩, ⟨I, I⟩, (by assumption)⟩, I, I, ⟨rfl, I⟩, ⟨rfl, I⟩, ⟨rfl, I⟩, rfl, I⟩, ?_⟩
      refine W.cn ?_
      conv => whnf
      refine ⟨noT (decide_eq_false (by omega)), fun _ => ?_⟩
      refine W.skip ?_
      refine g 10 56 [.i (Message.kind m), .i (Message.frm m), .i (Message.to m), .i (Int.fdiv (Message.epoch m) ((2 : Int) ^ min (Int.toNat (8 : Int)) (IntKind.bits IntKind.i64))), .i (IntKind.wrap IntKind.u8 (Int.fdiv (Message.epoch m) ((2 : Int) ^ min (Int.toNat (8 : Int)) (IntKind.bits IntKind.i64)))), .i (IntKind.wrap IntKind.u8 (Message.epoch m)), .i (Int.fdiv (Message.lease m) ((2 : Int) ^ min (Int.toNat (24 : Int)) (IntKind.bits IntKind.i64))), .i (IntKind.wrap IntKind.u8 (Int.fdiv (Message.lease m) ((2 : Int) ^ min (Int.toNat (24 : Int)) (IntKind.bits IntKind.i64)))), .i (Int.fdiv (Message.lease m) ((2 : Int) ^ min (Int.toNat (16 : Int)) (IntKind.bits IntKind.i64))), .i (IntKind.wrap IntKind.u8 (Int.fdiv (Message.lease m) ((2 : Int) ^ min (Int.toNat (16 : Int)) (IntKind.bits IntKind.i64)))), .i (Int.fdiv (Message.lease m) ((2 : Int) ^ min (Int.toNat (8 : Int)) (IntKind.bits IntKind.i64))), .i (IntKind.wrap IntKind.u8 (Int.fdiv (Message.lease m) ((2 : Int) ^ min (Int.toNat (8 : Int)) (IntKind.bits IntKind.i64)))), .i (IntKind.wrap IntKind.u8 (Message.lease m)), .i (Message.task m), .i (IntKind.wrap IntKind.u8 (↑(List.length (List.map strT (Message.inputs m))) : Int))] ?_
      conv => whnf
      refine ⟨⟨I, I, wu8 (by omega) (by omega), I, I, wu8 (by omega) (by omega), I, I, wu8 (by omega) (by omega), I, I, ⟨(by omega), rfl⟩, rfl, I, I, rfl, I, I, ⟨(by omega), rfl⟩, rfl, I, I, ⟨(by omega), rfl⟩, rfl, I, I, ⟨(by omega), rfl⟩, rfl, I, I, rfl, I, I, wu8 (by omega) (by omega), I, I, I, rfl, ⟨⟨I, I⟩, ⟨I, I⟩, ⟨I, I⟩, ⟨I, I⟩, ⟨I, I⟩, ⟨I, I⟩, ⟨I, I⟩, ⟨I, I⟩, ⟨I, I⟩, ⟨I, I⟩, ⟨I, I⟩, I⟩, I, I⟩, ?_⟩
      refine g 56 61 [.s ({ data := List.toArray (bytesOf [[T.v (Value.int IntKind.u8 (Message.kind m))], [T.v (Value.int IntKind.u8 (Message.frm m))], [T.v (Value.int IntKind.u8 (Message.to m))], [T.v (Value.int IntKind.u8 (IntKind.wrap IntKind.u8 (Int.fdiv (Message.epoch m) ((2 : Int) ^ min (Int.toNat (8 : Int)) (IntKind.bits IntKind.i64)))))], [T.v (Value.int IntKind.u8 (IntKind.wrap IntKind.u8 (Message.epoch m)))], [T.v (Value.int IntKind.u8 (IntKind.wrap IntKind.u8 (Int.fdiv (Message.lease m) ((2 : Int) ^ min (Int.toNat (24 : Int)) (IntKind.bits IntKind.i64)))))], [T.v (Value.int IntKind.u8 (IntKind.wrap IntKind.u8 (Int.fdiv (Message.lease m) ((2 : Int) ^ min (Int.toNat (16 : Int)) (IntKind.bits IntKind.i64)))))], [T.v (Value.int IntKind.u8 (IntKind.wrap IntKind.u8 (Int.fdiv (Message.lease m) ((2 : Int) ^ min (Int.toNat (8 : Int)) (IntKind.bits IntKind.i64)))))], [T.v (Value.int IntKind.u8 (IntKind.wrap IntKind.u8 (Message.lease m)))], [T.v (Value.int IntKind.u8 (Message.task m))], [T.v (Value.int IntKind.u8 (IntKind.wrap IntKind.u8 (↑(List.length (List.map strT (Message.inputs m))) : Int)))]]) : ByteArray }), .s ({ data := List.toArray (bytesOf [[T.v (Value.int IntKind.u8 (Message.kind m))], [T.v (Value.int IntKind.u8 (Message.frm m))], [T.v (Value.int IntKind.u8 (Message.to m))], [T.v (Value.int IntKind.u8 (IntKind.wrap IntKind.u8 (Int.fdiv (Message.epoch m) ((2 : Int) ^ min (Int.toNat (8 : Int)) (IntKind.bits IntKind.i64)))))], [T.v (Value.int IntKind.u8 (IntKind.wrap IntKind.u8 (Message.epoch m)))], [T.v (Value.int IntKind.u8 (IntKind.wrap IntKind.u8 (Int.fdiv (Message.lease m) ((2 : Int) ^ min (Int.toNat (24 : Int)) (IntKind.bits IntKind.i64)))))], [T.v (Value.int IntKind.u8 (IntKind.wrap IntKind.u8 (Int.fdiv (Message.lease m) ((2 : Int) ^ min (Int.toNat (16 : Int)) (IntKind.bits IntKind.i64)))))], [T.v (Value.int IntKind.u8 (IntKind.wrap IntKind.u8 (Int.fdiv (Message.lease m) ((2 : Int) ^ min (Int.toNat (8 : Int)) (IntKind.bits IntKind.i64)))))], [T.v (Value.int IntKind.u8 (IntKind.wrap IntKind.u8 (Message.lease m)))], [T.v (Value.int IntKind.u8 (Message.task m))], [T.v (Value.int IntKind.u8 (IntKind.wrap IntKind.u8 (↑(List.length (List.map strT (Message.inputs m))) : Int)))]]) : ByteArray } ++ Message.text m)] ?_
      conv => whnf
      refine ⟨⟨I, ⟨I, (by repeat (first | exact allU8_nil | refine allU8_cons ?_)), rfl⟩, I, I, ⟨rfl, (by simp only [bsz, ByteArray.size_append, List.length_map, List.length_append, List.length_set, List.length_replicate, List.length_cons, List.length_nil, List.length_take, List.length_drop, fill_len, fillI_len, List.length_range, bytesT_len]; omega)⟩, I, I⟩, ?_⟩
      refine W.sq ?_
      refine g 0 1 [] ?_
      conv => whnf
      refine ⟨⟨I, I, I, I, I⟩, ?_⟩
      refine W.blk ?_
      refine W.lp (fun s (n : Nat) => ⟨[(1, s.s 1), (4, s.s 4), (6, .s (bodyN m n)), (9, s.s 9), (62, s.s 62), (63, s.s 63), (64, .i n)], [], []⟩) (fun (n : Nat) => n ≤ m.inputs.length) (fun (n : Nat) => m.inputs.length - n) (0) [] [] ⟨rfl, ⟨rfl, rfl, (congrArg (fun z => V.t (T.v (Value.string z))) (body_startI h)), ⟨_, rfl, _, _, rfl, rfl, _, _, rfl, rfl, _, _, rfl, rfl, _, _, rfl, rfl, _, _, rfl, rfl, _, _, rfl, rfl, _, _, rfl, rfl, _, _, rfl, rfl, rfl⟩, rfl, rfl, rfl, I⟩, I, I⟩ (by omega) ?_
      intro n hn
      have hc := bodyN_size h n hn
      have hs2 : (sealT (bodyN m n) key).size = 8 := sumT_size _
      conv => whnf
      refine g 0 0 [] ?_
      conv => whnf
      refine ⟨⟨I, I⟩, ?_⟩
      refine W.sq ?_
      refine W.cn ?_
      conv => whnf
      refine ⟨fun h10 => ?_, fun h10 => ?_⟩
      replace h10 := dt h10
      simp only [List.length_map] at h10
      refine W.skip ?_
      refine W.sq ?_
      refine W.blk ?_
      obtain ⟨y1, hy1⟩ := some_at (xs := Message.inputs m) (n := n) (by omega)
      have hm1 := h8 y1 (List.mem_of_getElem? hy1)
      refine g 65 68 [.x (strT y1)] ?_
      conv => whnf
      refine ⟨⟨⟨(by omega), ixl (by assumption)⟩, I, I, I⟩, ?_⟩
      refine rg [.s (bodyN m n ++ y1)] ?_
      conv => whnf
      refine ⟨⟨I, I, ⟨rfl, (by omega)⟩, I, I⟩, ?_⟩
      refine rg [.i ((↑n : Int) + (1 : Int))] ?_
      conv => whnf
      refine ⟨⟨w64 (by omega) (by omega), I, I⟩, ?_⟩
      rotate_left 1
      replace h10 := df h10
      simp only [List.length_map] at h10
      refine W.exit ?_
      refine g 62 77 [.call (V.s (sealT (bodyN m n) key)) ([[], []]), .s (sealT (bodyN m n) key ++ bodyN m n)] ?_
      conv => whnf
      refine ⟨⟨I, I, ⟨⟨I, I, I⟩, I, ⟨⟨I, I⟩, ⟨I, I⟩, I⟩, ⟨I, I⟩, Go.K.c_impl_seal _ _ (by omega) (by omega)⟩, I, ⟨rfl, (by omega)⟩, I, I⟩, ?_⟩
      refine W.ret ?_
      refine EndsW.rt ?_
      conv => whnf
      refine ⟨⟨I, I, I⟩, ?_, rfl⟩
      rotate_left 1
      · refine ⟨n + 1, [], [], ⟨rfl, ⟨rfl, rfl, (congrArg (fun z => V.t (T.v (Value.string z))) (bodyN_str (by assumption))), ⟨_, rfl, _, _, rfl, rfl, _, _, rfl, rfl, _, _, rfl, rfl, _, _, rfl, rfl, _, _, rfl, rfl, _, _, rfl, rfl, _, _, rfl, rfl, _, _, rfl, rfl, rfl⟩, rfl, rfl, rfl, I⟩, I, I⟩, ?_, ?_⟩
        rotate_left 1
        (dsimp only; omega)
        dsimp only
        omega
      · exact vs (by rw [show n = m.inputs.length by omega, bodyN_all]; exact (if_pos ⟨h, hk⟩).symm)
    · refine i_impl_FormMessage ?_
      conv => whnf
      refine g 0 0 [] ?_
      conv => whnf
      refine ⟨⟨⟨I, I, I, I, I, I, I, I, I⟩, I, I⟩, ?_⟩
      refine W.sq ?_
      refine g 11 16 [.call (V.b true) ([[]]), .b (false), .b (false), .b (false), .b (false)] ?_
      conv => whnf
      refine ⟨⟨I, ⟨⟨I, I⟩, I, ⟨⟨I, I, I, I, I, I, I, I, I⟩, I⟩, ⟨I, I⟩, (by assumption)⟩, I, I, ⟨rfl, I⟩, ⟨rfl, I⟩, ⟨rfl, I⟩, rfl, I⟩, ?_⟩
      refine W.cn ?_
      conv => whnf
      refine ⟨fun _ => ?_, noF (decide_eq_true (by omega))⟩
      refine g 16 17 [] ?_
      conv => whnf
      refine ⟨⟨I, I⟩, ?_⟩
      refine W.ret ?_
      refine EndsW.rt ?_
      conv => whnf
      refine ⟨⟨I, I, I⟩, ?_, rfl⟩
      exact vs (if_neg (fun h => hk h.2)).symm
  · rw [show decide (msgOk m) = false from decide_eq_false h] at c1
    refine i_impl_FormMessage ?_
    conv => whnf
    refine g 0 0 [] ?_
    conv => whnf
    refine ⟨⟨⟨I, I, I, I, I, I, I, I, I⟩, I, I⟩, ?_⟩
    refine W.sq ?_
    refine g 11 16 [.call (V.b false) ([[]]), .b (true), .b (true), .b (true), .b (true)] ?_
    conv => whnf
    refine ⟨⟨I, ⟨⟨I, I⟩, I, ⟨⟨I, I, I, I, I, I, I, I, I⟩, I⟩, ⟨I, I⟩, (by assumption)⟩, I, I, rfl, rfl, rfl, rfl, I⟩, ?_⟩
    refine W.cn ?_
    conv => whnf
    refine ⟨fun _ => ?_, noF (rfl)⟩
    refine g 16 17 [] ?_
    conv => whnf
    refine ⟨⟨I, I⟩, ?_⟩
    refine W.ret ?_
    refine EndsW.rt ?_
    conv => whnf
    refine ⟨⟨I, I, I⟩, ?_, rfl⟩
    exact vs (if_neg (fun x => h x.1)).symm
end Go.K

end

section
set_option linter.unusedVariables false
set_option linter.unusedSimpArgs false
set_option maxHeartbeats 4000000
set_option maxRecDepth 20000
open Go Go.Tm Go.Proofs
namespace Go.K
noncomputable def postS (key : ByteArray) (acc : List Parcel) (m : Message) : List Parcel := if msgOk m ∧ key.size ≤ 30 ∧ acc.length < 2000 then acc ++ [⟨m.to, formM m key, formM m key⟩] else acc
noncomputable def postN (xs : List Parcel) (ms : List Message) (key : ByteArray) (n : Nat) : List Parcel := (ms.take n).foldl (postS key) xs
noncomputable def postP (xs : List Parcel) (ms : List Message) (key : ByteArray) : List Parcel := postN xs ms key ms.length
theorem postN_zero (xs : List Parcel) (ms : List Message) (key : ByteArray) : postN xs ms key 0 = xs := by unfold postN; rw [List.take_zero]; rfl
theorem postN_succ {xs : List Parcel} {ms : List Message} {key : ByteArray} {n : Nat} {m : Message} (h : ms[n]? = some m) : postN xs ms key (n + 1) = postS key (postN xs ms key n) m := by
  unfold postN; rw [List.take_add_one, h]; simp
theorem postS_le {key : ByteArray} {acc : List Parcel} {m : Message} (h : acc.length ≤ 1048576) : (postS key acc m).length ≤ 1048576 := by
  unfold postS; split
  · rename_i h2; rw [List.length_append]; simp; omega
  · exact h
theorem postN_le {xs : List Parcel} (ms : List Message) (key : ByteArray) (h : xs.length ≤ 1048576) : ∀ n, (postN xs ms key n).length ≤ 1048576
  | 0 => by rw [postN_zero]; exact h
  | n + 1 => by
    cases hm : ms[n]? with
    | none =>
      have : ms.take (n + 1) = ms.take n := by rw [List.take_add_one, hm]; simp
      have e : postN xs ms key (n + 1) = postN xs ms key n := by unfold postN; rw [this]
      rw [e]; exact postN_le ms key h n
    | some m => rw [postN_succ hm]; exact postS_le (postN_le ms key h n)
theorem sealT_size (b k : ByteArray) : (sealT b k).size = 8 := by unfold sealT sumT; rw [bl_size, beL_len]
theorem formM_yes {m : Message} {key : ByteArray} (h : msgOk m) (hk : key.size ≤ 30) : ¬ formM m key = emp := fun e => by
  have := congrArg ByteArray.size e
  rw [formM, if_pos ⟨h, hk⟩, ByteArray.size_append, sealT_size] at this
  have h0 : emp.size = 0 := by decide
  omega
theorem formM_no {m : Message} {key : ByteArray} (h : ¬ (msgOk m ∧ key.size ≤ 30)) : formM m key = emp := by rw [formM, if_neg h]
theorem post_yes {xs : List Parcel} {ms : List Message} {key : ByteArray} {n : Nat} {m : Message} (h : ms[n]? = some m) (h1 : msgOk m) (h2 : key.size ≤ 30) (h3 : (postN xs ms key n).length < 2000) :
    (postN xs ms key n).map parT ++ [parT ⟨m.to, formM m key, formM m key⟩] = (postN xs ms key (n + 1)).map parT := by
  rw [postN_succ h, postS, if_pos ⟨h1, h2, h3⟩, List.map_append]; rfl
theorem post_no {xs : List Parcel} {ms : List Message} {key : ByteArray} {n : Nat} {m : Message} (h : ms[n]? = some m) (h1 : ¬ (msgOk m ∧ key.size ≤ 30 ∧ (postN xs ms key n).length < 2000)) :
    (postN xs ms key n).map parT = (postN xs ms key (n + 1)).map parT := by
  rw [postN_succ h, postS, if_neg h1]
theorem c_impl_Post (xs : List Parcel) (ms : List Message) (key : ByteArray) (hx : xs.length ≤ 1048576) (hl : ms.length ≤ 1048576) (hm : ∀ m ∈ ms, m.inputs.length ≤ 1048576) : F n_impl_Post [.val (.t (pars xs)), .val (.t (.slc messageK (ms.map messageT))), .val (.s key)] (.own pkd ((postP xs ms key).map parT)) [[], [], []] := by
  refine i_impl_Post ?_
  conv => whnf
  refine g 0 0 [] ?_
  conv => whnf
  refine ⟨⟨I, I⟩, ?_⟩
  refine g 11 13 [.call (V.own pkd (List.map parT xs)) ([[]])] ?_
  conv => whnf
  refine ⟨⟨I, ⟨⟨I, I⟩, I, ⟨⟨I, I⟩, I⟩, ⟨I, I⟩, Go.K.c_impl_copied _ (by omega)⟩, I, I⟩, ?_⟩
  refine W.sq ?_
  refine g 0 0 [] ?_
  conv => whnf
  refine ⟨⟨I, I, I, I⟩, ?_⟩
  refine W.blk ?_
  refine W.lp (fun s (n : Nat) => ⟨[(0, s.s 0), (1, s.s 1), (2, s.s 2), (6, s.s 6), (7, .ref ⟨12, none, 0⟩), (13, s.s 13), (14, s.s 14), (15, .i n)], [(12, [.own pkd ((postN xs ms key n).map parT)])], []⟩) (fun (n : Nat) => n ≤ ms.length) (fun (n : Nat) => ms.length - n) (0) [some 12] [] ⟨rfl, ⟨rfl, rfl, rfl, rfl, rfl, rfl, rfl, rfl, I⟩, ⟨⟨rfl, ⟨rfl, I⟩⟩, I⟩, I⟩ (by omega) ?_
  intro n hn
  have hpl := postN_le ms key hx n
  by_cases hn2 : n < ms.length
  · obtain ⟨m, hm1⟩ := some_at hn2
    have hmi := hm m (List.mem_of_getElem? hm1)
    have cv := c_impl_Message_valid m (by omega)
    have cf := c_impl_FormMessage m key (by omega)
    by_cases hv : msgOk m
    · rw [decide_eq_true hv] at cv
      by_cases hk : key.size ≤ 30
      · by_cases h3 : (postN xs ms key n).length < 2000
        · conv => whnf
          refine g 0 0 [] ?_
          conv => whnf
          refine ⟨⟨I, I⟩, ?_⟩
          refine W.sq ?_
          refine W.cn ?_
          conv => whnf
          refine ⟨fun _ => ?_, noF (by simp [*])⟩
          refine W.skip ?_
          refine W.sq ?_
          refine W.blk ?_
          refine g 16 19 [.x (messageT m)] ?_
          conv => whnf
          refine ⟨⟨⟨(by omega), ixl (by assumption)⟩, I, I, ⟨I, I, I, I, I, I, I, I, I⟩, I⟩, ?_⟩
          refine g 19 30 [.call (V.b true) ([[]]), .b (true), .b (true), .b (true), .b (true), .b (true), .b (true), .b (true), .b (true)] ?_
          conv => whnf
          refine ⟨⟨I, ⟨⟨I, I⟩, I, ⟨⟨I, I, I, I, I, I, I, I, I⟩, I⟩, ⟨I, I⟩, (by assumption)⟩, I, ⟨rfl, I⟩, ⟨rfl, I⟩, ⟨rfl, I⟩, rfl, I, ⟨decide_eq_true (by omega), I⟩, ⟨decide_eq_true (by omega), I⟩, ⟨decide_eq_true (by omega), I⟩, decide_eq_true (by omega), I⟩, ?_⟩
          refine W.cn ?_
          conv => whnf
          refine ⟨fun h1 => ?_, fun h1 => ?_⟩
          replace h1 := dt h1
          simp only [List.length_map] at h1
          refine g 30 34 [.call (V.s (formM m key)) ([[], []])] ?_
          conv => whnf
          refine ⟨⟨I, I, ⟨⟨I, I, I⟩, I, ⟨⟨I, I, I, I, I, I, I, I, I⟩, ⟨I, I⟩, I⟩, ⟨I, I⟩, (by assumption)⟩, I, I⟩, ?_⟩
          refine rg [] ?_
          conv => whnf
          refine ⟨⟨I, I, I, I, I, I, ⟨⟨I, I, I, I⟩, I⟩, ⟨I, I, (by simp only [List.length_map, List.length_append, List.length_set, List.length_replicate, List.length_cons, List.length_nil, List.length_take, List.length_drop, fill_len, fillI_len, List.length_range, bytesT_len]; omega)⟩, I, I⟩, ?_⟩
          refine rg [.i ((↑n : Int) + (1 : Int))] ?_
          conv => whnf
          refine ⟨⟨w64 (by omega) (by omega), I, I⟩, ?_⟩
          rotate_left 1
          replace h1 := df h1
          simp only [List.length_map] at h1
          omega
          refine ⟨n + 1, [some 41], [], ⟨rfl, ⟨rfl, rfl, rfl, rfl, rfl, rfl, rfl, rfl, I⟩, ⟨⟨rfl, ⟨(congrArg (V.own _) (post_yes hm1 hv hk h3)), I⟩⟩, I⟩, I⟩, ?_, ?_⟩
          rotate_left 1
          (dsimp only; omega)
          dsimp only
          omega
        · conv => whnf
          refine g 0 0 [] ?_
          conv => whnf
          refine ⟨⟨I, I⟩, ?_⟩
          refine W.sq ?_
          refine W.cn ?_
          conv => whnf
          refine ⟨fun _ => ?_, noF (by simp [*])⟩
          refine W.skip ?_
          refine W.sq ?_
          refine W.blk ?_
          refine g 16 19 [.x (messageT m)] ?_
          conv => whnf
          refine ⟨⟨⟨(by omega), ixl (by assumption)⟩, I, I, ⟨I, I, I, I, I, I, I, I, I⟩, I⟩, ?_⟩
          refine g 19 30 [.call (V.b true) ([[]]), .b (true), .b (true), .b (true), .b (true), .b (true), .b (true), .b (true), .b (true)] ?_
          conv => whnf
          refine ⟨⟨I, ⟨⟨I, I⟩, I, ⟨⟨I, I, I, I, I, I, I, I, I⟩, I⟩, ⟨I, I⟩, (by assumption)⟩, I, ⟨rfl, I⟩, ⟨rfl, I⟩, ⟨rfl, I⟩, rfl, I, ⟨decide_eq_true (by omega), I⟩, ⟨decide_eq_true (by omega), I⟩, ⟨decide_eq_true (by omega), I⟩, decide_eq_true (by omega), I⟩, ?_⟩
          refine W.cn ?_
          conv => whnf
          refine ⟨fun h1 => ?_, fun h1 => ?_⟩
          replace h1 := dt h1
          simp only [List.length_map] at h1
          omega
          replace h1 := df h1
          simp only [List.length_map] at h1
          refine W.skip ?_
          refine rg [.i ((↑n : Int) + (1 : Int))] ?_
          conv => whnf
          refine ⟨⟨w64 (by omega) (by omega), I, I⟩, ?_⟩
          refine ⟨n + 1, [some 12], [], ⟨rfl, ⟨rfl, rfl, rfl, rfl, rfl, rfl, rfl, rfl, I⟩, ⟨⟨rfl, ⟨(congrArg (V.own _) (post_no hm1 (fun q => h3 q.2.2))), I⟩⟩, I⟩, I⟩, ?_, ?_⟩
          rotate_left 1
          (dsimp only; omega)
          dsimp only
          omega
      · conv => whnf
        refine g 0 0 [] ?_
        conv => whnf
        refine ⟨⟨I, I⟩, ?_⟩
        refine W.sq ?_
        refine W.cn ?_
        conv => whnf
        refine ⟨fun _ => ?_, noF (by simp [*])⟩
        refine W.skip ?_
        refine W.sq ?_
        refine W.blk ?_
        refine g 16 19 [.x (messageT m)] ?_
        conv => whnf
        refine ⟨⟨⟨(by omega), ixl (by assumption)⟩, I, I, ⟨I, I, I, I, I, I, I, I, I⟩, I⟩, ?_⟩
        refine g 19 30 [.call (V.b true) ([[]]), .b (true), .b (true), .b (true), .b (true), .b (false), .b (false), .b (false), .b (false)] ?_
        conv => whnf
        refine ⟨⟨I, ⟨⟨I, I⟩, I, ⟨⟨I, I, I, I, I, I, I, I, I⟩, I⟩, ⟨I, I⟩, (by assumption)⟩, I, ⟨rfl, I⟩, ⟨rfl, I⟩, ⟨rfl, I⟩, rfl, I, decide_eq_false (by omega), decide_eq_false (by omega), decide_eq_false (by omega), decide_eq_false (by omega), I⟩, ?_⟩
        refine W.cn ?_
        conv => whnf
        refine ⟨noT (rfl), fun _ => ?_⟩
        refine W.skip ?_
        refine rg [.i ((↑n : Int) + (1 : Int))] ?_
        conv => whnf
        refine ⟨⟨w64 (by omega) (by omega), I, I⟩, ?_⟩
        refine ⟨n + 1, [some 12], [], ⟨rfl, ⟨rfl, rfl, rfl, rfl, rfl, rfl, rfl, rfl, I⟩, ⟨⟨rfl, ⟨(congrArg (V.own _) (post_no hm1 (fun q => hk q.2.1))), I⟩⟩, I⟩, I⟩, ?_, ?_⟩
        rotate_left 1
        (dsimp only; omega)
        dsimp only
        omega
    · rw [decide_eq_false hv] at cv
      conv => whnf
      refine g 0 0 [] ?_
      conv => whnf
      refine ⟨⟨I, I⟩, ?_⟩
      refine W.sq ?_
      refine W.cn ?_
      conv => whnf
      refine ⟨fun _ => ?_, noF (by simp [*])⟩
      refine W.skip ?_
      refine W.sq ?_
      refine W.blk ?_
      refine g 16 19 [.x (messageT m)] ?_
      conv => whnf
      refine ⟨⟨⟨(by omega), ixl (by assumption)⟩, I, I, ⟨I, I, I, I, I, I, I, I, I⟩, I⟩, ?_⟩
      refine g 19 30 [.call (V.b false) ([[]]), .b (false), .b (false), .b (false), .b (false), .b (false), .b (false), .b (false), .b (false)] ?_
      conv => whnf
      refine ⟨⟨I, ⟨⟨I, I⟩, I, ⟨⟨I, I, I, I, I, I, I, I, I⟩, I⟩, ⟨I, I⟩, (by assumption)⟩, I, rfl, rfl, rfl, rfl, I, rfl, rfl, rfl, rfl, I⟩, ?_⟩
      refine W.cn ?_
      conv => whnf
      refine ⟨noT (rfl), fun _ => ?_⟩
      refine W.skip ?_
      refine rg [.i ((↑n : Int) + (1 : Int))] ?_
      conv => whnf
      refine ⟨⟨w64 (by omega) (by omega), I, I⟩, ?_⟩
      refine ⟨n + 1, [some 12], [], ⟨rfl, ⟨rfl, rfl, rfl, rfl, rfl, rfl, rfl, rfl, I⟩, ⟨⟨rfl, ⟨(congrArg (V.own _) (post_no hm1 (fun q => hv q.1))), I⟩⟩, I⟩, I⟩, ?_, ?_⟩
      rotate_left 1
      (dsimp only; omega)
      dsimp only
      omega
  · conv => whnf
    refine g 0 0 [] ?_
    conv => whnf
    refine ⟨⟨I, I⟩, ?_⟩
    refine W.sq ?_
    refine W.cn ?_
    conv => whnf
    refine ⟨noT (by simp [*]), fun _ => ?_⟩
    refine W.exit ?_
    refine g 7 44 [] ?_
    conv => whnf
    refine ⟨⟨I, I, I⟩, ?_⟩
    refine W.ret ?_
    refine EndsW.rt ?_
    conv => whnf
    refine ⟨⟨I, I, I⟩, ?_, rfl⟩
    rw [postP, show n = ms.length by omega]
theorem c_spec_Post (xs : List Parcel) (ms : List Message) (key : ByteArray) (hx : xs.length ≤ 1048576) (hl : ms.length ≤ 1048576) (hm : ∀ m ∈ ms, m.inputs.length ≤ 1048576) : F n_spec_Post [.val (.t (pars xs)), .val (.t (.slc messageK (ms.map messageT))), .val (.s key)] (.own pkd ((postP xs ms key).map parT)) [[], [], []] := by
  refine i_spec_Post ?_
  conv => whnf
  refine g 0 0 [] ?_
  conv => whnf
  refine ⟨⟨I, I⟩, ?_⟩
  refine g 10 12 [.call (V.own pkd (List.map parT xs)) ([[]])] ?_
  conv => whnf
  refine ⟨⟨I, ⟨⟨I, I⟩, I, ⟨⟨I, I⟩, I⟩, ⟨I, I⟩, Go.K.c_spec_l6Copy _ (by omega)⟩, I, I⟩, ?_⟩
  refine W.sq ?_
  refine g 0 0 [] ?_
  conv => whnf
  refine ⟨⟨I, I⟩, ?_⟩
  refine W.blk ?_
  refine W.lp (fun s (n : Nat) => ⟨[(0, s.s 0), (1, s.s 1), (2, s.s 2), (6, s.s 6), (7, .ref ⟨11, none, 0⟩), (8, .i n)], [(11, [.own pkd ((postN xs ms key n).map parT)])], []⟩) (fun (n : Nat) => n ≤ ms.length) (fun (n : Nat) => ms.length - n) (0) [some 11] [] ⟨rfl, ⟨rfl, rfl, rfl, rfl, rfl, rfl, I⟩, ⟨⟨rfl, ⟨rfl, I⟩⟩, I⟩, I⟩ (by omega) ?_
  intro n hn
  have hpl := postN_le ms key hx n
  by_cases hn2 : n < ms.length
  · obtain ⟨m, hm1⟩ := some_at hn2
    have hmi := hm m (List.mem_of_getElem? hm1)
    have cf := c_spec_FormMessage m key (by omega)
    by_cases hv : msgOk m ∧ key.size ≤ 30
    · have hf := formM_yes hv.1 hv.2
      by_cases h3 : (postN xs ms key n).length < 2000
      · conv => whnf
        refine W.sq ?_
        refine g 12 15 [] ?_
        conv => whnf
        refine ⟨⟨I, I, I, I, I⟩, ?_⟩
        refine W.cn ?_
        conv => whnf
        refine ⟨fun _ => ?_, noF (by simp [*])⟩
        refine W.skip ?_
        refine W.sq ?_
        refine W.blk ?_
        refine g 15 24 [.x (messageT m), .call (V.s (formM m key)) ([[], []])] ?_
        conv => whnf
        refine ⟨⟨I, I, ⟨(by omega), ixl (by assumption)⟩, I, I, ⟨⟨I, I, I⟩, I, ⟨⟨I, I, I, I, I, I, I, I, I⟩, ⟨I, I⟩, I⟩, ⟨I, I⟩, (by assumption)⟩, I, I⟩, ?_⟩
        refine g 24 30 [.b (true), .b (true), .b (true), .b (true)] ?_
        conv => whnf
        refine ⟨⟨I, I, I, ⟨notT (by omega), I⟩, ⟨notT (by omega), I⟩, ⟨notT (by omega), I⟩, notT (by omega), I⟩, ?_⟩
        refine W.cn ?_
        conv => whnf
        refine ⟨fun h1 => ?_, fun h1 => ?_⟩
        replace h1 := dt h1
        simp only [List.length_map] at h1
        refine rg [.x (messageT m)] ?_
        conv => whnf
        refine ⟨⟨I, I, I, ⟨(by omega), ixl (by assumption)⟩, I, I, I, I, I, ⟨⟨I, I, I, I⟩, I⟩, ⟨I, I, (by simp only [List.length_map, List.length_append, List.length_set, List.length_replicate, List.length_cons, List.length_nil, List.length_take, List.length_drop, fill_len, fillI_len, List.length_range, bytesT_len]; omega)⟩, I, I⟩, ?_⟩
        refine rg [.i ((↑n : Int) + (1 : Int))] ?_
        conv => whnf
        refine ⟨⟨I, w64 (by omega) (by omega), I, I⟩, ?_⟩
        rotate_left 1
        replace h1 := df h1
        simp only [List.length_map] at h1
        omega
        refine ⟨n + 1, [some 41], [], ⟨rfl, ⟨rfl, rfl, rfl, rfl, rfl, rfl, I⟩, ⟨⟨rfl, ⟨(congrArg (V.own _) (post_yes hm1 hv.1 hv.2 h3)), I⟩⟩, I⟩, I⟩, ?_, ?_⟩
        rotate_left 1
        (dsimp only; omega)
        dsimp only
        omega
      · conv => whnf
        refine W.sq ?_
        refine g 12 15 [] ?_
        conv => whnf
        refine ⟨⟨I, I, I, I, I⟩, ?_⟩
        refine W.cn ?_
        conv => whnf
        refine ⟨fun _ => ?_, noF (by simp [*])⟩
        refine W.skip ?_
        refine W.sq ?_
        refine W.blk ?_
        refine g 15 24 [.x (messageT m), .call (V.s (formM m key)) ([[], []])] ?_
        conv => whnf
        refine ⟨⟨I, I, ⟨(by omega), ixl (by assumption)⟩, I, I, ⟨⟨I, I, I⟩, I, ⟨⟨I, I, I, I, I, I, I, I, I⟩, ⟨I, I⟩, I⟩, ⟨I, I⟩, (by assumption)⟩, I, I⟩, ?_⟩
        refine g 24 30 [.b (true), .b (true), .b (true), .b (true)] ?_
        conv => whnf
        refine ⟨⟨I, I, I, ⟨notT (by omega), I⟩, ⟨notT (by omega), I⟩, ⟨notT (by omega), I⟩, notT (by omega), I⟩, ?_⟩
        refine W.cn ?_
        conv => whnf
        refine ⟨fun h1 => ?_, fun h1 => ?_⟩
        replace h1 := dt h1
        simp only [List.length_map] at h1
        omega
        replace h1 := df h1
        simp only [List.length_map] at h1
        refine W.skip ?_
        refine rg [.i ((↑n : Int) + (1 : Int))] ?_
        conv => whnf
        refine ⟨⟨I, w64 (by omega) (by omega), I, I⟩, ?_⟩
        refine ⟨n + 1, [some 11], [], ⟨rfl, ⟨rfl, rfl, rfl, rfl, rfl, rfl, I⟩, ⟨⟨rfl, ⟨(congrArg (V.own _) (post_no hm1 (fun q => h3 q.2.2))), I⟩⟩, I⟩, I⟩, ?_, ?_⟩
        rotate_left 1
        (dsimp only; omega)
        dsimp only
        omega
    · rw [formM_no hv] at cf
      conv => whnf
      refine W.sq ?_
      refine g 12 15 [] ?_
      conv => whnf
      refine ⟨⟨I, I, I, I, I⟩, ?_⟩
      refine W.cn ?_
      conv => whnf
      refine ⟨fun _ => ?_, noF (by simp [*])⟩
      refine W.skip ?_
      refine W.sq ?_
      refine W.blk ?_
      refine g 15 24 [.x (messageT m), .call (V.s emp) ([[], []])] ?_
      conv => whnf
      refine ⟨⟨I, I, ⟨(by omega), ixl (by assumption)⟩, I, I, ⟨⟨I, I, I⟩, I, ⟨⟨I, I, I, I, I, I, I, I, I⟩, ⟨I, I⟩, I⟩, ⟨I, I⟩, (by assumption)⟩, I, I⟩, ?_⟩
      refine g 24 30 [.b (false), .b (false), .b (false), .b (false)] ?_
      conv => whnf
      refine ⟨⟨I, I, I, rfl, rfl, rfl, rfl, I⟩, ?_⟩
      refine W.cn ?_
      conv => whnf
      refine ⟨noT (rfl), fun _ => ?_⟩
      refine W.skip ?_
      refine rg [.i ((↑n : Int) + (1 : Int))] ?_
      conv => whnf
      refine ⟨⟨I, w64 (by omega) (by omega), I, I⟩, ?_⟩
      refine ⟨n + 1, [some 11], [], ⟨rfl, ⟨rfl, rfl, rfl, rfl, rfl, rfl, I⟩, ⟨⟨rfl, ⟨(congrArg (V.own _) (post_no hm1 (fun q => hv ⟨q.1, q.2.1⟩))), I⟩⟩, I⟩, I⟩, ?_, ?_⟩
      rotate_left 1
      (dsimp only; omega)
      dsimp only
      omega
  · conv => whnf
    refine W.sq ?_
    refine g 12 15 [] ?_
    conv => whnf
    refine ⟨⟨I, I, I, I, I⟩, ?_⟩
    refine W.cn ?_
    conv => whnf
    refine ⟨noT (by simp [*]), fun _ => ?_⟩
    refine W.exit ?_
    refine g 7 43 [] ?_
    conv => whnf
    refine ⟨⟨I, I, I⟩, ?_⟩
    refine W.ret ?_
    refine EndsW.rt ?_
    conv => whnf
    refine ⟨⟨I, I, I⟩, ?_, rfl⟩
    rw [postP, show n = ms.length by omega]
end Go.K

end

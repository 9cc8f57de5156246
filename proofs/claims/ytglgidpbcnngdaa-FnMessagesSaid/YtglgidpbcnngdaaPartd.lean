/- Contracts of functions of the program: what each call answers. -/
import Derived.Test.YtglgidpbcnngdaaPartc
import Derived.Test.YtglgidpbcnngdaaProg
section
set_option linter.unusedVariables false
set_option linter.unusedSimpArgs false
open Go Go.Tm Go.Proofs
namespace Go.K
def E : Env := (.node (.node (.node (.node (.node (.node (.node .nil 2 ⟨(.int .i64), [.t (.v (.int .i64 0))], 8⟩ .nil) 3 ⟨(.int .i64), [.t (.v (.int .i64 0))], 8⟩ .nil) 4 ⟨.bool, [.b false], 1⟩ (.node (.node .nil 5 ⟨(.int .u8), [.t (.v (.int .u8 0))], 1⟩ .nil) 6 ⟨(.int .u8), [.t (.v (.int .u8 0))], 1⟩ .nil)) 7 ⟨(.struct [(0, 2), (1, 3), (2, 4), (3, 6)]), [.t (.v (.int .i64 0)), .t (.v (.int .i64 0)), .b false, .t (.v (.int .u8 0))], 24⟩ (.node (.node (.node .nil 9 ⟨.str, [.s ⟨#[]⟩], 16⟩ .nil) 12 ⟨(.int .u64), [.t (.v (.int .u64 0))], 8⟩ .nil) 13 ⟨(.struct [(0, 9), (1, 12)]), [.s ⟨#[]⟩, .t (.v (.int .u64 0))], 24⟩ (.node .nil 17 ⟨(.ptr 238), [.t (.v (.pointer none))], 8⟩ .nil))) 18 ⟨(.struct [(0, 17)]), [.t (.v (.pointer none))], 8⟩ (.node (.node (.node (.node .nil 19 ⟨(.struct [(0, 17)]), [.t (.v (.pointer none))], 8⟩ .nil) 21 ⟨(.int .i32), [.t (.v (.int .i32 0))], 4⟩ .nil) 22 ⟨(.slice 9), [.own [false] []], 24⟩ (.node .nil 23 ⟨(.struct [(0, 3), (1, 3), (2, 3), (3, 3), (4, 3), (5, 3), (6, 9), (7, 22)]), [.t (.v (.int .i64 0)), .t (.v (.int .i64 0)), .t (.v (.int .i64 0)), .t (.v (.int .i64 0)), .t (.v (.int .i64 0)), .t (.v (.int .i64 0)), .s ⟨#[]⟩, .own [false] []], 88⟩ .nil)) 24 ⟨(.struct [(0, 3), (1, 3), (2, 3), (3, 3), (4, 3), (5, 3), (6, 9), (7, 22)]), [.t (.v (.int .i64 0)), .t (.v (.int .i64 0)), .t (.v (.int .i64 0)), .t (.v (.int .i64 0)), .t (.v (.int .i64 0)), .t (.v (.int .i64 0)), .s ⟨#[]⟩, .own [false] []], 88⟩ (.node (.node (.node .nil 27 ⟨(.struct [(0, 3), (1, 3), (2, 3), (3, 3), (4, 3), (5, 3), (6, 9), (7, 22)]), [.t (.v (.int .i64 0)), .t (.v (.int .i64 0)), .t (.v (.int .i64 0)), .t (.v (.int .i64 0)), .t (.v (.int .i64 0)), .t (.v (.int .i64 0)), .s ⟨#[]⟩, .own [false] []], 88⟩ .nil) 31 ⟨(.slice 5), [.own [false] []], 24⟩ .nil) 32 ⟨(.slice 40), [.own [false, false, true] []], 24⟩ (.node .nil 33 ⟨(.struct [(0, 32)]), [.own [false, false, true] []], 24⟩ .nil)))) 34 ⟨(.struct [(0, 32)]), [.own [false, false, true] []], 24⟩ (.node (.node (.node (.node (.node .nil 38 ⟨(.slice 3), [.own [false] []], 24⟩ .nil) 39 ⟨(.struct [(0, 9), (1, 3), (2, 38)]), [.s ⟨#[]⟩, .t (.v (.int .i64 0)), .own [false] []], 48⟩ .nil) 40 ⟨(.struct [(0, 9), (1, 3), (2, 38)]), [.s ⟨#[]⟩, .t (.v (.int .i64 0)), .own [false] []], 48⟩ (.node (.node .nil 47 ⟨(.slice 204), [.own [false, false, true] []], 24⟩ .nil) 48 ⟨(.struct [(0, 47)]), [.own [false, false, true] []], 24⟩ .nil)) 49 ⟨(.struct [(0, 47)]), [.own [false, false, true] []], 24⟩ (.node (.node (.node .nil 61 ⟨(.struct [(0, 3), (1, 3), (2, 22)]), [.t (.v (.int .i64 0)), .t (.v (.int .i64 0)), .own [false] []], 40⟩ .nil) 62 ⟨(.struct [(0, 3), (1, 3), (2, 22)]), [.t (.v (.int .i64 0)), .t (.v (.int .i64 0)), .own [false] []], 40⟩ .nil) 68 ⟨(.slice 158), [.own [false, false, false] []], 24⟩ (.node .nil 69 ⟨(.slice 24), [.own [false, false, false, false, false, false, false, true] []], 24⟩ .nil))) 72 ⟨(.slice 160), [.own [false, false, false] []], 24⟩ (.node (.node (.node (.node .nil 75 ⟨(.slice 27), [.own [false, false, false, false, false, false, false, true] []], 24⟩ .nil) 82 ⟨(.struct [(0, 3), (1, 3), (2, 3), (3, 9)]), [.t (.v (.int .i64 0)), .t (.v (.int .i64 0)), .t (.v (.int .i64 0)), .s ⟨#[]⟩], 40⟩ .nil) 83 ⟨(.struct [(0, 3), (1, 3), (2, 3), (3, 9)]), [.t (.v (.int .i64 0)), .t (.v (.int .i64 0)), .t (.v (.int .i64 0)), .s ⟨#[]⟩], 40⟩ (.node .nil 91 ⟨(.struct [(0, 3), (1, 3), (2, 4), (3, 3), (4, 3), (5, 3), (6, 3), (7, 3), (8, 22), (9, 9), (10, 3)]), [.t (.v (.int .i64 0)), .t (.v (.int .i64 0)), .b false, .t (.v (.int .i64 0)), .t (.v (.int .i64 0)), .t (.v (.int .i64 0)), .t (.v (.int .i64 0)), .t (.v (.int .i64 0)), .own [false] [], .s ⟨#[]⟩, .t (.v (.int .i64 0))], 112⟩ .nil)) 92 ⟨(.struct [(0, 3), (1, 3), (2, 4), (3, 3), (4, 3), (5, 3), (6, 3), (7, 3), (8, 22), (9, 9), (10, 3)]), [.t (.v (.int .i64 0)), .t (.v (.int .i64 0)), .b false, .t (.v (.int .i64 0)), .t (.v (.int .i64 0)), .t (.v (.int .i64 0)), .t (.v (.int .i64 0)), .t (.v (.int .i64 0)), .own [false] [], .s ⟨#[]⟩, .t (.v (.int .i64 0))], 112⟩ (.node (.node (.node .nil 96 ⟨(.struct [(0, 92), (11, 75)]), [.t (.v (.int .i64 0)), .t (.v (.int .i64 0)), .b false, .t (.v (.int .i64 0)), .t (.v (.int .i64 0)), .t (.v (.int .i64 0)), .t (.v (.int .i64 0)), .t (.v (.int .i64 0)), .own [false] [], .s ⟨#[]⟩, .t (.v (.int .i64 0)), .own [false, false, false, false, false, false, false, true] []], 136⟩ .nil) 97 ⟨(.struct [(0, 92), (11, 75)]), [.t (.v (.int .i64 0)), .t (.v (.int .i64 0)), .b false, .t (.v (.int .i64 0)), .t (.v (.int .i64 0)), .t (.v (.int .i64 0)), .t (.v (.int .i64 0)), .t (.v (.int .i64 0)), .own [false] [], .s ⟨#[]⟩, .t (.v (.int .i64 0)), .own [false, false, false, false, false, false, false, true] []], 136⟩ .nil) 100 ⟨(.struct [(0, 3), (1, 3), (2, 4), (3, 3), (4, 3), (5, 3), (6, 3), (7, 3), (8, 22), (9, 9), (10, 3)]), [.t (.v (.int .i64 0)), .t (.v (.int .i64 0)), .b false, .t (.v (.int .i64 0)), .t (.v (.int .i64 0)), .t (.v (.int .i64 0)), .t (.v (.int .i64 0)), .t (.v (.int .i64 0)), .own [false] [], .s ⟨#[]⟩, .t (.v (.int .i64 0))], 112⟩ (.node .nil 109 ⟨(.struct [(0, 22), (1, 22)]), [.own [false] [], .own [false] []], 48⟩ .nil))))) 110 ⟨(.struct [(0, 22), (1, 22)]), [.own [false] [], .own [false] []], 48⟩ (.node (.node (.node (.node (.node (.node .nil 111 ⟨(.slice 214), [.own [false, false, false] []], 24⟩ .nil) 112 ⟨(.slice 216), [.own [false, false] []], 24⟩ .nil) 113 ⟨(.slice 218), [.own [false, false, false] []], 24⟩ (.node (.node .nil 114 ⟨(.struct [(0, 3), (1, 4), (2, 3), (3, 3), (4, 3), (5, 3), (6, 110), (8, 22), (9, 111), (10, 112), (11, 113)]), [.t (.v (.int .i64 0)), .b false, .t (.v (.int .i64 0)), .t (.v (.int .i64 0)), .t (.v (.int .i64 0)), .t (.v (.int .i64 0)), .own [false] [], .own [false] [], .own [false] [], .own [false, false, false] [], .own [false, false] [], .own [false, false, false] []], 192⟩ .nil) 115 ⟨(.struct [(0, 3), (1, 4), (2, 3), (3, 3), (4, 3), (5, 3), (6, 110), (8, 22), (9, 111), (10, 112), (11, 113)]), [.t (.v (.int .i64 0)), .b false, .t (.v (.int .i64 0)), .t (.v (.int .i64 0)), .t (.v (.int .i64 0)), .t (.v (.int .i64 0)), .own [false] [], .own [false] [], .own [false] [], .own [false, false, false] [], .own [false, false] [], .own [false, false, false] []], 192⟩ .nil)) 118 ⟨(.struct [(0, 22), (1, 22)]), [.own [false] [], .own [false] []], 48⟩ (.node (.node (.node .nil 119 ⟨(.slice 192), [.own [false, false, false] []], 24⟩ .nil) 120 ⟨(.slice 182), [.own [false, false] []], 24⟩ .nil) 121 ⟨(.slice 184), [.own [false, false, false] []], 24⟩ (.node .nil 122 ⟨(.struct [(0, 3), (1, 4), (2, 3), (3, 3), (4, 3), (5, 3), (6, 118), (8, 22), (9, 119), (10, 120), (11, 121)]), [.t (.v (.int .i64 0)), .b false, .t (.v (.int .i64 0)), .t (.v (.int .i64 0)), .t (.v (.int .i64 0)), .t (.v (.int .i64 0)), .own [false] [], .own [false] [], .own [false] [], .own [false, false, false] [], .own [false, false] [], .own [false, false, false] []], 192⟩ .nil))) 123 ⟨(.struct [(0, 3), (1, 4), (2, 3), (3, 3), (4, 3), (5, 3), (6, 118), (8, 22), (9, 119), (10, 120), (11, 121)]), [.t (.v (.int .i64 0)), .b false, .t (.v (.int .i64 0)), .t (.v (.int .i64 0)), .t (.v (.int .i64 0)), .t (.v (.int .i64 0)), .own [false] [], .own [false] [], .own [false] [], .own [false, false, false] [], .own [false, false] [], .own [false, false, false] []], 192⟩ (.node (.node (.node (.node .nil 131 ⟨(.int .u64), [.t (.v (.int .u64 0))], 8⟩ .nil) 133 ⟨(.ptr 200), [.t (.v (.pointer none))], 8⟩ .nil) 139 ⟨(.map 9 4), [.t (.v (.map none))], 8⟩ (.node .nil 141 ⟨(.int .u64), [.t (.v (.int .u64 0))], 8⟩ .nil)) 142 ⟨(.int .u64), [.t (.v (.int .u64 0))], 8⟩ (.node (.node (.node .nil 157 ⟨(.struct [(0, 3), (1, 9), (2, 9)]), [.t (.v (.int .i64 0)), .s ⟨#[]⟩, .s ⟨#[]⟩], 40⟩ .nil) 158 ⟨(.struct [(0, 3), (1, 9), (2, 9)]), [.t (.v (.int .i64 0)), .s ⟨#[]⟩, .s ⟨#[]⟩], 40⟩ .nil) 160 ⟨(.struct [(0, 3), (1, 9), (2, 9)]), [.t (.v (.int .i64 0)), .s ⟨#[]⟩, .s ⟨#[]⟩], 40⟩ (.node .nil 181 ⟨(.struct [(0, 4), (1, 3)]), [.b false, .t (.v (.int .i64 0))], 16⟩ .nil)))) 182 ⟨(.struct [(0, 4), (1, 3)]), [.b false, .t (.v (.int .i64 0))], 16⟩ (.node (.node (.node (.node (.node .nil 183 ⟨(.struct [(0, 3), (1, 3), (2, 3)]), [.t (.v (.int .i64 0)), .t (.v (.int .i64 0)), .t (.v (.int .i64 0))], 24⟩ .nil) 184 ⟨(.struct [(0, 3), (1, 3), (2, 3)]), [.t (.v (.int .i64 0)), .t (.v (.int .i64 0)), .t (.v (.int .i64 0))], 24⟩ .nil) 190 ⟨(.map 3 4), [.t (.v (.map none))], 8⟩ (.node .nil 191 ⟨(.struct [(0, 3), (1, 3), (2, 3)]), [.t (.v (.int .i64 0)), .t (.v (.int .i64 0)), .t (.v (.int .i64 0))], 24⟩ .nil)) 192 ⟨(.struct [(0, 3), (1, 3), (2, 3)]), [.t (.v (.int .i64 0)), .t (.v (.int .i64 0)), .t (.v (.int .i64 0))], 24⟩ (.node (.node (.node .nil 199 ⟨(.struct [(0, 31), (1, 3)]), [.own [false] [], .t (.v (.int .i64 0))], 32⟩ .nil) 200 ⟨(.struct [(0, 31), (1, 3)]), [.own [false] [], .t (.v (.int .i64 0))], 32⟩ .nil) 202 ⟨(.ptr 142), [.t (.v (.pointer none))], 8⟩ (.node .nil 204 ⟨(.struct [(0, 9), (1, 3), (2, 38)]), [.s ⟨#[]⟩, .t (.v (.int .i64 0)), .own [false] []], 48⟩ .nil))) 214 ⟨(.struct [(0, 3), (1, 3), (2, 3)]), [.t (.v (.int .i64 0)), .t (.v (.int .i64 0)), .t (.v (.int .i64 0))], 24⟩ (.node (.node (.node (.node .nil 216 ⟨(.struct [(0, 4), (1, 3)]), [.b false, .t (.v (.int .i64 0))], 16⟩ .nil) 218 ⟨(.struct [(0, 3), (1, 3), (2, 3)]), [.t (.v (.int .i64 0)), .t (.v (.int .i64 0)), .t (.v (.int .i64 0))], 24⟩ .nil) 224 ⟨(.struct [(0, 17), (1, 17), (2, 17), (3, 9)]), [.t (.v (.pointer none)), .t (.v (.pointer none)), .t (.v (.pointer none)), .s ⟨#[]⟩], 40⟩ (.node .nil 230 ⟨(.int .u32), [.t (.v (.int .u32 0))], 4⟩ .nil)) 231 ⟨(.int .u8), [.t (.v (.int .u8 0))], 1⟩ (.node (.node (.node .nil 232 ⟨(.int .u8), [.t (.v (.int .u8 0))], 1⟩ .nil) 234 ⟨(.ptr 5), [.t (.v (.pointer none))], 8⟩ .nil) 235 ⟨(.int .i32), [.t (.v (.int .i32 0))], 4⟩ (.node .nil 236 ⟨(.int .i32), [.t (.v (.int .i32 0))], 4⟩ .nil))))))
set_option maxRecDepth 10000 in
theorem E_ok : EnvOk Try.prog E := by
  unfold E
  repeat (first | exact EnvOk.nil | refine EnvOk.node ?_ ⟨by kernel_rfl, by kernel_rfl, by simp, by simp [zcOk, sc], by simp [Ty.agg], by simp, by simp, by simp⟩ ?_)
def md (f : FuncId) : List Md := (bif Nat.blt f 87 then (bif Nat.blt f 45 then (bif Nat.blt f 24 then (bif Nat.blt f 13 then (bif Nat.blt f 8 then (bif Nat.blt f 5 then (bif Nat.blt f 4 then [.v, .v] else [.v]) else (bif Nat.blt f 6 then [.v, .v] else (bif Nat.blt f 7 then [.v] else [.v]))) else (bif Nat.blt f 10 then (bif Nat.blt f 9 then [.v, .v] else [.v, .v, .v]) else (bif Nat.blt f 11 then [.v] else (bif Nat.blt f 12 then [.v] else [.v, .v])))) else (bif Nat.blt f 18 then (bif Nat.blt f 15 then (bif Nat.blt f 14 then [.v, .v, .v] else [.v, .v]) else (bif Nat.blt f 16 then [.v, .v] else (bif Nat.blt f 17 then [.v, .v] else [.v]))) else (bif Nat.blt f 21 then (bif Nat.blt f 19 then [.v, .v] else (bif Nat.blt f 20 then [.v, .v] else [.v])) else (bif Nat.blt f 22 then [.v] else (bif Nat.blt f 23 then [.v] else [.v]))))) else (bif Nat.blt f 34 then (bif Nat.blt f 29 then (bif Nat.blt f 26 then (bif Nat.blt f 25 then [.v, .v] else [.v, .v]) else (bif Nat.blt f 27 then [.v, .v] else (bif Nat.blt f 28 then [.v, .v] else [.b, .v]))) else (bif Nat.blt f 31 then (bif Nat.blt f 30 then [.v, .v] else [.v, .v]) else (bif Nat.blt f 32 then [.v] else (bif Nat.blt f 33 then [.v] else [.v, .v])))) else (bif Nat.blt f 39 then (bif Nat.blt f 36 then (bif Nat.blt f 35 then [.v, .v] else [.b, .v]) else (bif Nat.blt f 37 then [.b, .v] else (bif Nat.blt f 38 then [.v, .v] else [.v]))) else (bif Nat.blt f 42 then (bif Nat.blt f 40 then [.v, .v] else (bif Nat.blt f 41 then [.v] else [.v, .v])) else (bif Nat.blt f 43 then [.v, .v] else (bif Nat.blt f 44 then [.v] else [.v, .v])))))) else (bif Nat.blt f 66 then (bif Nat.blt f 55 then (bif Nat.blt f 50 then (bif Nat.blt f 47 then (bif Nat.blt f 46 then [.v, .v] else [.b, .v]) else (bif Nat.blt f 48 then [.v, .v] else (bif Nat.blt f 49 then [.v, .v] else [.v, .v]))) else (bif Nat.blt f 52 then (bif Nat.blt f 51 then [.v, .v, .v] else [.v]) else (bif Nat.blt f 53 then [.v] else (bif Nat.blt f 54 then [.v, .v, .v] else [.v, .v])))) else (bif Nat.blt f 60 then (bif Nat.blt f 57 then (bif Nat.blt f 56 then [.v, .v] else [.b, .v]) else (bif Nat.blt f 58 then [.b, .v] else (bif Nat.blt f 59 then [.v, .v] else [.v]))) else (bif Nat.blt f 63 then (bif Nat.blt f 61 then [.v] else (bif Nat.blt f 62 then [.v] else [.v])) else (bif Nat.blt f 64 then [.v] else (bif Nat.blt f 65 then [.v] else [.v]))))) else (bif Nat.blt f 76 then (bif Nat.blt f 71 then (bif Nat.blt f 68 then (bif Nat.blt f 67 then [.v, .v] else [.v]) else (bif Nat.blt f 69 then [.v] else (bif Nat.blt f 70 then [.v] else [.v, .v, .v]))) else (bif Nat.blt f 73 then (bif Nat.blt f 72 then [.v, .v] else [.v, .v]) else (bif Nat.blt f 74 then [.v, .v] else (bif Nat.blt f 75 then [.v] else [.v, .v])))) else (bif Nat.blt f 81 then (bif Nat.blt f 78 then (bif Nat.blt f 77 then [.v, .v] else [.b, .v]) else (bif Nat.blt f 79 then [.b, .v] else (bif Nat.blt f 80 then [.v, .v] else [.v, .v, .v]))) else (bif Nat.blt f 84 then (bif Nat.blt f 82 then [.v, .v] else (bif Nat.blt f 83 then [.v, .v] else [.v])) else (bif Nat.blt f 85 then [.v, .v] else (bif Nat.blt f 86 then [.v, .v] else [.v]))))))) else (bif Nat.blt f 129 then (bif Nat.blt f 108 then (bif Nat.blt f 97 then (bif Nat.blt f 92 then (bif Nat.blt f 89 then (bif Nat.blt f 88 then [.v] else [.v]) else (bif Nat.blt f 90 then [.v] else (bif Nat.blt f 91 then [.v, .v] else [.v]))) else (bif Nat.blt f 94 then (bif Nat.blt f 93 then [.p] else [.p, .v]) else (bif Nat.blt f 95 then [.p, .mv] else (bif Nat.blt f 96 then [.v, .v] else [.v])))) else (bif Nat.blt f 102 then (bif Nat.blt f 99 then (bif Nat.blt f 98 then [.v] else [.p, .v]) else (bif Nat.blt f 100 then [.v] else (bif Nat.blt f 101 then [.v, .v] else [.v]))) else (bif Nat.blt f 105 then (bif Nat.blt f 103 then [.v, .v] else (bif Nat.blt f 104 then [.b, .v] else [.v])) else (bif Nat.blt f 106 then [.p] else (bif Nat.blt f 107 then [.p, .mv] else [.v, .v]))))) else (bif Nat.blt f 118 then (bif Nat.blt f 113 then (bif Nat.blt f 110 then (bif Nat.blt f 109 then [.p, .v] else [.v, .v, .v]) else (bif Nat.blt f 111 then [.v, .v] else (bif Nat.blt f 112 then [.v, .v] else [.v]))) else (bif Nat.blt f 115 then (bif Nat.blt f 114 then [.v] else [.v]) else (bif Nat.blt f 116 then [.v, .v] else (bif Nat.blt f 117 then [.p] else [.v])))) else (bif Nat.blt f 123 then (bif Nat.blt f 120 then (bif Nat.blt f 119 then [.v] else [.p, .b]) else (bif Nat.blt f 121 then [.p] else (bif Nat.blt f 122 then [.v, .v, .v] else [.v]))) else (bif Nat.blt f 126 then (bif Nat.blt f 124 then [.v] else (bif Nat.blt f 125 then [.v, .v, .v] else [.v])) else (bif Nat.blt f 127 then [.v] else (bif Nat.blt f 128 then [.mv, .v, .v] else [.mv, .v])))))) else (bif Nat.blt f 150 then (bif Nat.blt f 139 then (bif Nat.blt f 134 then (bif Nat.blt f 131 then (bif Nat.blt f 130 then [.v] else [.v, .v]) else (bif Nat.blt f 132 then [.v, .v] else (bif Nat.blt f 133 then [.v, .v] else [.v, .v]))) else (bif Nat.blt f 136 then (bif Nat.blt f 135 then [.v, .v] else [.v, .v]) else (bif Nat.blt f 137 then [.v, .v] else (bif Nat.blt f 138 then [.v, .v] else [.v])))) else (bif Nat.blt f 144 then (bif Nat.blt f 141 then (bif Nat.blt f 140 then [.v, .v] else [.v]) else (bif Nat.blt f 142 then [.v] else (bif Nat.blt f 143 then [.v] else [.v]))) else (bif Nat.blt f 147 then (bif Nat.blt f 145 then [.v] else (bif Nat.blt f 146 then [.v, .v] else [.v, .v])) else (bif Nat.blt f 148 then [.v, .v] else (bif Nat.blt f 149 then [.v, .v] else [.v]))))) else (bif Nat.blt f 160 then (bif Nat.blt f 155 then (bif Nat.blt f 152 then (bif Nat.blt f 151 then [.v] else [.v]) else (bif Nat.blt f 153 then [.v, .v] else (bif Nat.blt f 154 then [.v] else [.v, .v]))) else (bif Nat.blt f 157 then (bif Nat.blt f 156 then [.b, .v] else [.p]) else (bif Nat.blt f 158 then [.p, .b] else (bif Nat.blt f 159 then [.p, .mv] else [.v])))) else (bif Nat.blt f 165 then (bif Nat.blt f 162 then (bif Nat.blt f 161 then [.v, .v] else [.v, .v]) else (bif Nat.blt f 163 then [.v] else (bif Nat.blt f 164 then [.v] else [.v]))) else (bif Nat.blt f 168 then (bif Nat.blt f 166 then [.v, .v] else (bif Nat.blt f 167 then [.v, .v] else [.v, .v])) else (bif Nat.blt f 169 then [.v, .v] else (bif Nat.blt f 170 then [.v] else [.v, .v]))))))))
def sq (t : TypeId) : Bool := Nat.beq t 83 || Nat.beq t 192
theorem sq_ok : ∀ t, sq t = true → SqOk Try.prog t := by
  intro t h
  simp only [sq, Bool.or_eq_true, Nat.beq_eq] at h
  rcases h with rfl | rfl
  all_goals exact ⟨by kernel_rfl, by kernel_rfl, by kernel_rfl, by kernel_rfl⟩
def F (f : FuncId) (xs : List A) (res : V) (outs : List (List V)) : Prop := Enters Try.prog f ∧ Tm.Fn Try.prog f xs res outs
def C : Cx := ⟨E, F, md, sq⟩
theorem C_ok : CxOk Try.prog C := ⟨E_ok, sq_ok, fun _ _ _ _ h => h⟩
variable {nt id : Nat} {ops : Array Oper} {y : Code} {H : HD} {Q : Exit → HD → Prop}
theorem g (lo hi : Nat) (ans : List Ans) (h : evSH C nt ops ops.toList ans H fun p H => dropH lo hi H fun H => p ∧ W Try.prog nt y H Q) : W Try.prog nt (.seq (.region id ops false) y) H Q := W.sg C_ok lo hi ans h
theorem rg (ans : List Ans) (h : evSH C nt ops ops.toList ans H fun p H => p ∧ Q .normal H) : W Try.prog nt (.region id ops false) H Q := W.rg C_ok ans h
theorem mixed : Try.prog.follows .mixedOrders = true := by kernel_rfl
theorem gd (lo hi : Nat) (ans : List (List Ans)) (h : evEH C nt ops ops.toList ans H fun p r H => dropH lo hi H fun H => p ∧ chkE ops.toList r = true ∧ W Try.prog nt y H Q) : W Try.prog nt (.seq (.region id ops true) y) H Q := W.sgD C_ok mixed lo hi ans h
theorem rgd (ans : List (List Ans)) (h : evEH C nt ops ops.toList ans H fun p r H => p ∧ chkE ops.toList r = true ∧ Q .normal H) : W Try.prog nt (.region id ops true) H Q := W.rgD C_ok mixed ans h
abbrev Q1 (res : V) (outs : List (List V)) : V → List (List V) → Prop := fun r o => r = res ∧ o = outs
abbrev n_laws_FnMessages : FuncId := 7
theorem e_laws_FnMessages : Enters Try.prog 7 := ⟨Try.f7, Try.func7, by kernel_rfl, by kernel_rfl⟩
theorem i_laws_FnMessages {xs : List A} {res : V} {outs : List (List V)} (hrun : forceH (iniH 104 xs) fun H => W Try.prog 104 (bodyOf Try.f7) H (EndsW 104 E [(2, 4, false)] xs (Q1 res outs))) (h : (okAs xs && Nat.ble xs.length 104) = true := by rfl) : F 7 xs res outs := ⟨e_laws_FnMessages, Fn.one Try.func7 rfl rfl E_ok rfl h hrun⟩
abbrev n_spec_FormMessage : FuncId := 16
theorem e_spec_FormMessage : Enters Try.prog 16 := ⟨Try.f16, Try.func16, by kernel_rfl, by kernel_rfl⟩
theorem i_spec_FormMessage {xs : List A} {res : V} {outs : List (List V)} (hrun : forceH (iniH 23 xs) fun H => W Try.prog 23 (bodyOf Try.f16) H (EndsW 23 E [(4, 9, false)] xs (Q1 res outs))) (h : (okAs xs && Nat.ble xs.length 23) = true := by rfl) : F 16 xs res outs := ⟨e_spec_FormMessage, Fn.one Try.func16 rfl rfl E_ok rfl h hrun⟩
abbrev n_impl_FormMessage : FuncId := 18
theorem e_impl_FormMessage : Enters Try.prog 18 := ⟨Try.f18, Try.func18, by kernel_rfl, by kernel_rfl⟩
theorem i_impl_FormMessage {xs : List A} {res : V} {outs : List (List V)} (hrun : forceH (iniH 77 xs) fun H => W Try.prog 77 (bodyOf Try.f18) H (EndsW 77 E [(4, 9, false)] xs (Q1 res outs))) (h : (okAs xs && Nat.ble xs.length 77) = true := by rfl) : F 18 xs res outs := ⟨e_impl_FormMessage, Fn.one Try.func18 rfl rfl E_ok rfl h hrun⟩
abbrev n_spec_ReadMessage : FuncId := 26
theorem e_spec_ReadMessage : Enters Try.prog 26 := ⟨Try.f26, Try.func26, by kernel_rfl, by kernel_rfl⟩
theorem i_spec_ReadMessage {xs : List A} {res : V} {outs : List (List V)} (hrun : forceH (iniH 81 xs) fun H => W Try.prog 81 (bodyOf Try.f26) H (EndsW 81 E [(4, 27, true), (5, 4, false)] xs (Q1 res outs))) (h : (okAs xs && Nat.ble xs.length 81) = true := by rfl) : F 26 xs res outs := ⟨e_spec_ReadMessage, Fn.one Try.func26 rfl rfl E_ok rfl h hrun⟩
abbrev n_impl_ReadMessage : FuncId := 27
theorem e_impl_ReadMessage : Enters Try.prog 27 := ⟨Try.f27, Try.func27, by kernel_rfl, by kernel_rfl⟩
theorem i_impl_ReadMessage {xs : List A} {res : V} {outs : List (List V)} (hrun : forceH (iniH 107 xs) fun H => W Try.prog 107 (bodyOf Try.f27) H (EndsW 107 E [(4, 27, true), (5, 4, false)] xs (Q1 res outs))) (h : (okAs xs && Nat.ble xs.length 107) = true := by rfl) : F 27 xs res outs := ⟨e_impl_ReadMessage, Fn.one Try.func27 rfl rfl E_ok rfl h hrun⟩
abbrev n_spec_DrawFormMessage : FuncId := 38
theorem e_spec_DrawFormMessage : Enters Try.prog 38 := ⟨Try.f38, Try.func38, by kernel_rfl, by kernel_rfl⟩
abbrev n_laws_wMessage : FuncId := 39
theorem e_laws_wMessage : Enters Try.prog 39 := ⟨Try.f39, Try.func39, by kernel_rfl, by kernel_rfl⟩
theorem i_laws_wMessage {xs : List A} {res : V} {outs : List (List V)} (hrun : forceH (iniH 59 xs) fun H => W Try.prog 59 (bodyOf Try.f39) H (EndsW 59 E [(4, 4, false)] xs (Q1 res outs))) (h : (okAs xs && Nat.ble xs.length 59) = true := by rfl) : F 39 xs res outs := ⟨e_laws_wMessage, Fn.one Try.func39 rfl rfl E_ok rfl h hrun⟩
abbrev n_spec_DrawReadMessage : FuncId := 40
theorem e_spec_DrawReadMessage : Enters Try.prog 40 := ⟨Try.f40, Try.func40, by kernel_rfl, by kernel_rfl⟩
abbrev n_laws_wList : FuncId := 66
theorem e_laws_wList : Enters Try.prog 66 := ⟨Try.f66, Try.func66, by kernel_rfl, by kernel_rfl⟩
theorem i_laws_wList {xs : List A} {res : V} {outs : List (List V)} (hrun : forceH (iniH 26 xs) fun H => W Try.prog 26 (bodyOf Try.f66) H (EndsW 26 E [(4, 4, false)] xs (Q1 res outs))) (h : (okAs xs && Nat.ble xs.length 26) = true := by rfl) : F 66 xs res outs := ⟨e_laws_wList, Fn.one Try.func66 rfl rfl E_ok rfl h hrun⟩
abbrev n_spec_l2Ok : FuncId := 86
theorem e_spec_l2Ok : Enters Try.prog 86 := ⟨Try.f86, Try.func86, by kernel_rfl, by kernel_rfl⟩
theorem i_spec_l2Ok {xs : List A} {res : V} {outs : List (List V)} (hrun : forceH (iniH 120 xs) fun H => W Try.prog 120 (bodyOf Try.f86) H (EndsW 120 E [(2, 4, false)] xs (Q1 res outs))) (h : (okAs xs && Nat.ble xs.length 120) = true := by rfl) : F 86 xs res outs := ⟨e_spec_l2Ok, Fn.one Try.func86 rfl rfl E_ok rfl h hrun⟩
abbrev n_spec_l2Body : FuncId := 87
theorem e_spec_l2Body : Enters Try.prog 87 := ⟨Try.f87, Try.func87, by kernel_rfl, by kernel_rfl⟩
theorem i_spec_l2Body {xs : List A} {res : V} {outs : List (List V)} (hrun : forceH (iniH 67 xs) fun H => W Try.prog 67 (bodyOf Try.f87) H (EndsW 67 E [(2, 9, false)] xs (Q1 res outs))) (h : (okAs xs && Nat.ble xs.length 67) = true := by rfl) : F 87 xs res outs := ⟨e_spec_l2Body, Fn.one Try.func87 rfl rfl E_ok rfl h hrun⟩
abbrev n_spec_l1Sum : FuncId := 88
theorem e_spec_l1Sum : Enters Try.prog 88 := ⟨Try.f88, Try.func88, by kernel_rfl, by kernel_rfl⟩
theorem i_spec_l1Sum {xs : List A} {res : V} {outs : List (List V)} (hrun : forceH (iniH 35 xs) fun H => W Try.prog 35 (bodyOf Try.f88) H (EndsW 35 E [(2, 9, false)] xs (Q1 res outs))) (h : (okAs xs && Nat.ble xs.length 35) = true := by rfl) : F 88 xs res outs := ⟨e_spec_l1Sum, Fn.one Try.func88 rfl rfl E_ok rfl h hrun⟩
abbrev n_impl_Message_valid : FuncId := 89
theorem e_impl_Message_valid : Enters Try.prog 89 := ⟨Try.f89, Try.func89, by kernel_rfl, by kernel_rfl⟩
theorem i_impl_Message_valid {xs : List A} {res : V} {outs : List (List V)} (hrun : forceH (iniH 108 xs) fun H => W Try.prog 108 (bodyOf Try.f89) H (EndsW 108 E [(2, 4, false)] xs (Q1 res outs))) (h : (okAs xs && Nat.ble xs.length 108) = true := by rfl) : F 89 xs res outs := ⟨e_impl_Message_valid, Fn.one Try.func89 rfl rfl E_ok rfl h hrun⟩
abbrev n_impl_seal : FuncId := 90
theorem e_impl_seal : Enters Try.prog 90 := ⟨Try.f90, Try.func90, by kernel_rfl, by kernel_rfl⟩
theorem i_impl_seal {xs : List A} {res : V} {outs : List (List V)} (hrun : forceH (iniH 13 xs) fun H => W Try.prog 13 (bodyOf Try.f90) H (EndsW 13 E [(4, 9, false)] xs (Q1 res outs))) (h : (okAs xs && Nat.ble xs.length 13) = true := by rfl) : F 90 xs res outs := ⟨e_impl_seal, Fn.one Try.func90 rfl rfl E_ok rfl h hrun⟩
abbrev n_spec_l1Open : FuncId := 91
theorem e_spec_l1Open : Enters Try.prog 91 := ⟨Try.f91, Try.func91, by kernel_rfl, by kernel_rfl⟩
theorem i_spec_l1Open {xs : List A} {res : V} {outs : List (List V)} (hrun : forceH (iniH 11 xs) fun H => W Try.prog 11 (bodyOf Try.f91) H (EndsW 11 E [(2, 133, false)] xs (Q1 res outs))) (h : (okAs xs && Nat.ble xs.length 11) = true := by rfl) : F 91 xs res outs := ⟨e_spec_l1Open, Fn.one Try.func91 rfl rfl E_ok rfl h hrun⟩
abbrev n_spec_l1Rd_pick : FuncId := 93
theorem e_spec_l1Rd_pick : Enters Try.prog 93 := ⟨Try.f93, Try.func93, by kernel_rfl, by kernel_rfl⟩
abbrev n_impl_hash_bytes : FuncId := 98
theorem e_impl_hash_bytes : Enters Try.prog 98 := ⟨Try.f98, Try.func98, by kernel_rfl, by kernel_rfl⟩
theorem i_impl_hash_bytes {xs : List A} {res : V} {outs : List (List V)} (hrun : forceH (iniH 22 xs) fun H => W Try.prog 22 (bodyOf Try.f98) H (EndsW 22 E [] xs (Q1 res outs))) (h : (okAs xs && Nat.ble xs.length 22) = true := by rfl) : F 98 xs res outs := ⟨e_impl_hash_bytes, Fn.one Try.func98 rfl rfl E_ok rfl h hrun⟩
abbrev n_impl_hash_text : FuncId := 99
theorem e_impl_hash_text : Enters Try.prog 99 := ⟨Try.f99, Try.func99, by kernel_rfl, by kernel_rfl⟩
theorem i_impl_hash_text {xs : List A} {res : V} {outs : List (List V)} (hrun : forceH (iniH 23 xs) fun H => W Try.prog 23 (bodyOf Try.f99) H (EndsW 23 E [(2, 9, false)] xs (Q1 res outs))) (h : (okAs xs && Nat.ble xs.length 23) = true := by rfl) : F 99 xs res outs := ⟨e_impl_hash_text, Fn.one Try.func99 rfl rfl E_ok rfl h hrun⟩
abbrev n_spec_l2Draw : FuncId := 105
theorem e_spec_l2Draw : Enters Try.prog 105 := ⟨Try.f105, Try.func105, by kernel_rfl, by kernel_rfl⟩
abbrev n_spec_l2Spoil : FuncId := 106
theorem e_spec_l2Spoil : Enters Try.prog 106 := ⟨Try.f106, Try.func106, by kernel_rfl, by kernel_rfl⟩
abbrev n_spec_l1Many : FuncId := 107
theorem e_spec_l1Many : Enters Try.prog 107 := ⟨Try.f107, Try.func107, by kernel_rfl, by kernel_rfl⟩
abbrev n_spec_l1Bend : FuncId := 108
theorem e_spec_l1Bend : Enters Try.prog 108 := ⟨Try.f108, Try.func108, by kernel_rfl, by kernel_rfl⟩
abbrev n_spec_l2In : FuncId := 121
theorem e_spec_l2In : Enters Try.prog 121 := ⟨Try.f121, Try.func121, by kernel_rfl, by kernel_rfl⟩
theorem i_spec_l2In {xs : List A} {res : V} {outs : List (List V)} (hrun : forceH (iniH 15 xs) fun H => W Try.prog 15 (bodyOf Try.f121) H (EndsW 15 E [(6, 4, false)] xs (Q1 res outs))) (h : (okAs xs && Nat.ble xs.length 15) = true := by rfl) : F 121 xs res outs := ⟨e_spec_l2In, Fn.one Try.func121 rfl rfl E_ok rfl h hrun⟩
abbrev n_spec_l2LeaseOk : FuncId := 122
theorem e_spec_l2LeaseOk : Enters Try.prog 122 := ⟨Try.f122, Try.func122, by kernel_rfl, by kernel_rfl⟩
theorem i_spec_l2LeaseOk {xs : List A} {res : V} {outs : List (List V)} (hrun : forceH (iniH 5 xs) fun H => W Try.prog 5 (bodyOf Try.f122) H (EndsW 5 E [(2, 4, false)] xs (Q1 res outs))) (h : (okAs xs && Nat.ble xs.length 5) = true := by rfl) : F 122 xs res outs := ⟨e_spec_l2LeaseOk, Fn.one Try.func122 rfl rfl E_ok rfl h hrun⟩
abbrev n_spec_l2InputsOk : FuncId := 123
theorem e_spec_l2InputsOk : Enters Try.prog 123 := ⟨Try.f123, Try.func123, by kernel_rfl, by kernel_rfl⟩
theorem i_spec_l2InputsOk {xs : List A} {res : V} {outs : List (List V)} (hrun : forceH (iniH 19 xs) fun H => W Try.prog 19 (bodyOf Try.f123) H (EndsW 19 E [(2, 4, false)] xs (Q1 res outs))) (h : (okAs xs && Nat.ble xs.length 19) = true := by rfl) : F 123 xs res outs := ⟨e_spec_l2InputsOk, Fn.one Try.func123 rfl rfl E_ok rfl h hrun⟩
abbrev n_impl_within : FuncId := 124
theorem e_impl_within : Enters Try.prog 124 := ⟨Try.f124, Try.func124, by kernel_rfl, by kernel_rfl⟩
theorem i_impl_within {xs : List A} {res : V} {outs : List (List V)} (hrun : forceH (iniH 15 xs) fun H => W Try.prog 15 (bodyOf Try.f124) H (EndsW 15 E [(6, 4, false)] xs (Q1 res outs))) (h : (okAs xs && Nat.ble xs.length 15) = true := by rfl) : F 124 xs res outs := ⟨e_impl_within, Fn.one Try.func124 rfl rfl E_ok rfl h hrun⟩
abbrev n_impl_eights : FuncId := 125
theorem e_impl_eights : Enters Try.prog 125 := ⟨Try.f125, Try.func125, by kernel_rfl, by kernel_rfl⟩
theorem i_impl_eights {xs : List A} {res : V} {outs : List (List V)} (hrun : forceH (iniH 18 xs) fun H => W Try.prog 18 (bodyOf Try.f125) H (EndsW 18 E [(2, 4, false)] xs (Q1 res outs))) (h : (okAs xs && Nat.ble xs.length 18) = true := by rfl) : F 125 xs res outs := ⟨e_impl_eights, Fn.one Try.func125 rfl rfl E_ok rfl h hrun⟩
abbrev n_spec_l2Uses : FuncId := 149
theorem e_spec_l2Uses : Enters Try.prog 149 := ⟨Try.f149, Try.func149, by kernel_rfl, by kernel_rfl⟩
theorem i_spec_l2Uses {xs : List A} {res : V} {outs : List (List V)} (hrun : forceH (iniH 16 xs) fun H => W Try.prog 16 (bodyOf Try.f149) H (EndsW 16 E [(2, 4, false), (3, 4, false), (4, 4, false), (5, 4, false), (6, 4, false)] xs (Q1 res outs))) (h : (okAs xs && Nat.ble xs.length 16) = true := by rfl) : F 149 xs res outs := ⟨e_spec_l2Uses, Fn.one Try.func149 rfl rfl E_ok rfl h hrun⟩
abbrev n_spec_l1Dec : FuncId := 150
theorem e_spec_l1Dec : Enters Try.prog 150 := ⟨Try.f150, Try.func150, by kernel_rfl, by kernel_rfl⟩
theorem i_spec_l1Dec {xs : List A} {res : V} {outs : List (List V)} (hrun : forceH (iniH 26 xs) fun H => W Try.prog 26 (bodyOf Try.f150) H (EndsW 26 E [(2, 9, false)] xs (Q1 res outs))) (h : (okAs xs && Nat.ble xs.length 26) = true := by rfl) : F 150 xs res outs := ⟨e_spec_l1Dec, Fn.one Try.func150 rfl rfl E_ok rfl h hrun⟩
abbrev n_spec_l1Bytes : FuncId := 156
theorem e_spec_l1Bytes : Enters Try.prog 156 := ⟨Try.f156, Try.func156, by kernel_rfl, by kernel_rfl⟩
theorem i_spec_l1Bytes {xs : List A} {res : V} {outs : List (List V)} (hrun : forceH (iniH 7 xs) fun H => W Try.prog 7 (bodyOf Try.f156) H (EndsW 7 E [(2, 9, false)] xs (Q1 res outs))) (h : (okAs xs && Nat.ble xs.length 7) = true := by rfl) : F 156 xs res outs := ⟨e_spec_l1Bytes, Fn.one Try.func156 rfl rfl E_ok rfl h hrun⟩
end Go.K

end

section
set_option linter.unusedVariables false
set_option linter.unusedSimpArgs false
set_option maxHeartbeats 4000000
set_option maxRecDepth 20000
open Go Go.Tm Go.Proofs
namespace Go.K
structure Entry where
  kind : Int
  epoch : Int
  task : Int
  text : ByteArray
  deriving DecidableEq
abbrev entryV (k ep ta : Int) (tx : ByteArray) : V := .agg [.t (.i k), .t (.i ep), .t (.i ta), .t (.s tx)]
abbrev Entry.v (e : Entry) : V := entryV e.kind e.epoch e.task e.text
theorem c_impl_within (x lo hi : Int) : F n_impl_within [.val (.i x), .val (.i lo), .val (.i hi)] (.b (decide (lo ≤ x ∧ x ≤ hi))) [[], [], []] := by
  refine i_impl_within ?_
  conv => whnf
  refine g 0 0 [] ?_
  conv => whnf
  refine ⟨⟨I, I⟩, ?_⟩
  by_cases h1 : lo ≤ x
  refine g 7 15 [.b (true), .b (true), .b (true), .b (true)] ?_
  conv => whnf
  refine ⟨⟨I, I, I, I, ⟨decide_eq_true (by omega), I⟩, ⟨decide_eq_true (by omega), I⟩, ⟨decide_eq_true (by omega), I⟩, decide_eq_true (by omega), I, I⟩, ?_⟩
  refine W.ret ?_
  refine EndsW.rt ?_
  conv => whnf
  refine ⟨⟨I, I, I⟩, ?_, rfl⟩
  exact vbd (by omega)
  refine g 7 15 [.b (false), .b (false), .b (false), .b (false)] ?_
  conv => whnf
  refine ⟨⟨I, I, I, I, decide_eq_false (by omega), decide_eq_false (by omega), decide_eq_false (by omega), decide_eq_false (by omega), I, I⟩, ?_⟩
  refine W.ret ?_
  refine EndsW.rt ?_
  conv => whnf
  refine ⟨⟨I, I, I⟩, ?_, rfl⟩
  exact vbf (by omega)
theorem c_spec_l2In (x lo hi : Int) : F n_spec_l2In [.val (.i x), .val (.i lo), .val (.i hi)] (.b (decide (lo ≤ x ∧ x ≤ hi))) [[], [], []] := by
  refine i_spec_l2In ?_
  conv => whnf
  refine g 0 0 [] ?_
  conv => whnf
  refine ⟨⟨I, I⟩, ?_⟩
  by_cases h1 : lo ≤ x
  refine g 7 15 [.b (true), .b (true), .b (true), .b (true)] ?_
  conv => whnf
  refine ⟨⟨I, I, I, I, ⟨decide_eq_true (by omega), I⟩, ⟨decide_eq_true (by omega), I⟩, ⟨decide_eq_true (by omega), I⟩, decide_eq_true (by omega), I, I⟩, ?_⟩
  refine W.ret ?_
  refine EndsW.rt ?_
  conv => whnf
  refine ⟨⟨I, I, I⟩, ?_, rfl⟩
  exact vbd (by omega)
  refine g 7 15 [.b (false), .b (false), .b (false), .b (false)] ?_
  conv => whnf
  refine ⟨⟨I, I, I, I, decide_eq_false (by omega), decide_eq_false (by omega), decide_eq_false (by omega), decide_eq_false (by omega), I, I⟩, ?_⟩
  refine W.ret ?_
  refine EndsW.rt ?_
  conv => whnf
  refine ⟨⟨I, I, I⟩, ?_, rfl⟩
  exact vbf (by omega)
end Go.K

end

section
set_option linter.unusedVariables false
set_option linter.unusedSimpArgs false
set_option maxHeartbeats 4000000
set_option maxRecDepth 20000
open Go Go.Tm Go.Proofs
namespace Go.K
def Entry.ok (e : Entry) : Prop := (1 ≤ e.epoch ∧ e.epoch ≤ 300) ∧ (0 ≤ e.task ∧ e.task ≤ 39) ∧ ((e.kind = 1 ∧ e.task = 0 ∧ e.text = ⟨#[]⟩) ∨ (e.kind = 2 ∧ (e.text.size : Int) = 8))
instance (e : Entry) : Decidable e.ok := by unfold Entry.ok; infer_instance
abbrev emp : ByteArray := ⟨#[]⟩
def bl (l : List Int) : ByteArray := ⟨(l.map fun n => UInt8.ofNat n.toNat).toArray⟩
def byt (s : ByteArray) (i : Nat) : Int := ((s[i]?).map (fun b => (b.toNat : Int))).getD 0
def or64 (x y : Int) : Int := IntKind.i64.wrap ↑(BitVec.ofInt IntKind.i64.bits x ||| BitVec.ofInt IntKind.i64.bits y).toNat
theorem byt_at {s : ByteArray} {i : Nat} {c : UInt8} (h : s[i]? = some c) : byt s i = (c.toNat : Int) := by simp [byt, h]
end Go.K

end

section
set_option linter.unusedVariables false
set_option linter.unusedSimpArgs false
set_option maxHeartbeats 4000000
set_option maxRecDepth 20000
open Go Go.Tm Go.Proofs
namespace Go.K
theorem bytA {l : List UInt8} {i : Nat} {c : UInt8} (h : l[i]? = some c) : byt ⟨⟨l⟩⟩ i = (c.toNat : Int) := by
  have : (ByteArray.mk ⟨l⟩)[i]? = l[i]? := by
    show (if h : i < (ByteArray.mk ⟨l⟩).size then some ((ByteArray.mk ⟨l⟩)[i]) else none) = _
    have hsz : (ByteArray.mk ⟨l⟩).size = l.length := rfl
    by_cases hi : i < l.length
    · rw [dif_pos (by rw [hsz]; exact hi), List.getElem?_eq_getElem hi]; rfl
    · rw [dif_neg (by rw [hsz]; exact hi), List.getElem?_eq_none (by omega)]
  exact byt_at (by rw [this]; exact h)
theorem or_bytes (a b : Nat) (ha : a < 256) (hb : b < 256) : or64 (IntKind.i64.wrap ((a : Int) * 256)) b = (a : Int) * 256 + b := by
  rw [w64 (by omega) (by omega)]
  unfold or64
  have e : ((BitVec.ofInt IntKind.i64.bits ((a : Int) * 256)) ||| BitVec.ofInt IntKind.i64.bits (b : Int)).toNat = a * 256 + b := by
    have h1 : BitVec.ofInt IntKind.i64.bits ((a : Int) * 256) = BitVec.ofNat IntKind.i64.bits (a * 256) := by
      rw [show ((a : Int) * 256) = ((a * 256 : Nat) : Int) by simp]; exact BitVec.ofInt_natCast ..
    have h2 : BitVec.ofInt IntKind.i64.bits (b : Int) = BitVec.ofNat IntKind.i64.bits b := BitVec.ofInt_natCast ..
    have hb64 : IntKind.i64.bits = 64 := rfl
    rw [h1, h2, BitVec.toNat_or, BitVec.toNat_ofNat, BitVec.toNat_ofNat, hb64, Nat.mod_eq_of_lt (by omega), Nat.mod_eq_of_lt (by omega)]
    have := Nat.two_pow_add_eq_or_of_lt (i := 8) (b := b) (by omega) a
    rw [Nat.mul_comm] at this
    simpa using this.symm
  rw [e]
  rw [w64 (by omega) (by omega)]; simp
theorem byt_range (s : ByteArray) (i : Nat) : ∃ n : Nat, byt s i = n ∧ n < 256 := by
  unfold byt
  cases h : s[i]? with
  | none => exact ⟨0, rfl, by omega⟩
  | some c => exact ⟨c.toNat, rfl, UInt8.toNat_lt _⟩
end Go.K

end

section
set_option linter.unusedVariables false
set_option linter.unusedSimpArgs false
set_option maxHeartbeats 4000000
set_option maxRecDepth 20000
open Go Go.Tm Go.Proofs
namespace Go.K
abbrev strT (s : ByteArray) : List T := [.s s]
abbrev strs (xs : List ByteArray) : T := .slc [false] (xs.map strT)
end Go.K

end

section
set_option linter.unusedVariables false
set_option linter.unusedSimpArgs false
set_option maxHeartbeats 4000000
set_option maxRecDepth 20000
open Go Go.Tm Go.Proofs
namespace Go.K
abbrev u8v (n : Int) : V := .t (.v (.int .u64 n))
def fnv (v : Int) (c : UInt8) : Int := IntKind.u64.wrap (IntKind.u64.wrap (BitVec.ofInt IntKind.u64.bits v ^^^ BitVec.ofInt IntKind.u64.bits (c.toNat : Int)).toNat * 1099511628211)
def fnvs (v : Int) (s : ByteArray) (n : Nat) : Int := (s.data.toList.take n).foldl fnv v
theorem ba_get {s : ByteArray} {n : Nat} {c : UInt8} (h : s[n]? = some c) : s.data.toList[n]? = some c := by
  by_cases hn : n < s.size
  · rw [getElem?_pos s n hn] at h
    have hd : n < s.data.toList.length := by simpa using hn
    rw [List.getElem?_eq_getElem hd]
    rw [← h]; simp; rfl
  · rw [getElem?_neg s n hn] at h; cases h
theorem fnvs_succ {v : Int} {s : ByteArray} {n : Nat} {c : UInt8} (h : s[n]? = some c) : fnvs v s (n + 1) = fnv (fnvs v s n) c := by
  unfold fnvs
  rw [List.take_add_one, ba_get h, List.foldl_append]; rfl
theorem fnv_bd (v : Int) (c : UInt8) : 0 ≤ fnv v c ∧ fnv v c ≤ 18446744073709551615 := u64_bd _
theorem fold_bd : ∀ (l : List UInt8) (v : Int), 0 ≤ v ∧ v ≤ 18446744073709551615 → 0 ≤ l.foldl fnv v ∧ l.foldl fnv v ≤ 18446744073709551615
  | [], _, h => h
  | c :: l, v, _ => fold_bd l (fnv v c) (fnv_bd v c)
theorem c_impl_hash_bytes (v : Int) (tx : ByteArray) (hs : tx.size ≤ 9223372036854775807) : F n_impl_hash_bytes [.ptr [u8v v], .val (.s tx)] (.tup []) [[u8v (fnvs v tx tx.size)], []] := by
  refine i_impl_hash_bytes ?_
  conv => whnf
  refine g 0 0 [] ?_
  conv => whnf
  refine ⟨⟨I, I⟩, ?_⟩
  refine W.blk ?_
  refine W.lp (fun s (n : Nat) => ⟨[(0, s.s 0), (1, s.s 1), (4, .i n)], [(22, [u8v (fnvs v tx n)])], []⟩) (fun (n : Nat) => n ≤ tx.size) (fun (n : Nat) => tx.size - n) (0) [some 22] [] ⟨rfl, ⟨rfl, rfl, rfl, I⟩, ⟨⟨rfl, ⟨rfl, I⟩⟩, I⟩, I⟩ (by omega) ?_
  intro n hn
  conv => whnf
  refine W.sq ?_
  refine g 5 8 [] ?_
  conv => whnf
  refine ⟨⟨I, I, I, I, I⟩, ?_⟩
  refine W.cn ?_
  conv => whnf
  refine ⟨fun h1 => ?_, fun h1 => ?_⟩
  replace h1 := dt h1
  refine W.skip ?_
  refine W.sq ?_
  refine W.blk ?_
  obtain ⟨y1, hy1, hb1⟩ := byte_at (s := tx) (n := n) (by omega)
  refine rgd [[], [], [], [], [], [], [.i ((↑(UInt8.toNat y1) : Int))], [.i ((↑(UInt8.toNat y1) : Int))], [.i (IntKind.wrap IntKind.u64 (↑(BitVec.toNat (BitVec.ofInt (IntKind.bits IntKind.u64) (fnvs v tx n) ^^^ BitVec.ofInt (IntKind.bits IntKind.u64) (↑(UInt8.toNat y1) : Int))) : Int))], [.i (IntKind.wrap IntKind.u64 (IntKind.wrap IntKind.u64 (↑(BitVec.toNat (BitVec.ofInt (IntKind.bits IntKind.u64) (fnvs v tx n) ^^^ BitVec.ofInt (IntKind.bits IntKind.u64) (↑(UInt8.toNat y1) : Int))) : Int) * (1099511628211 : Int)))], [], []] ?_
  conv => whnf
  refine ⟨⟨I, I, I, I, I, I, ⟨(by omega), ixb (by assumption)⟩, w8u _, rfl, rfl, I, ⟨I, I⟩, I⟩, by kernel_rfl, ?_⟩
  refine rg [.i ((↑n : Int) + (1 : Int))] ?_
  conv => whnf
  refine ⟨⟨I, w64 (by omega) (by omega), I, I⟩, ?_⟩
  rotate_left 1
  replace h1 := df h1
  refine W.exit ?_
  refine EndsW.nm ?_
  conv => whnf
  refine ⟨I, ?_, ?_⟩
  rfl
  rotate_left 1
  · refine ⟨n + 1, [some 22], [], ⟨rfl, ⟨rfl, rfl, rfl, I⟩, ⟨⟨rfl, ⟨(congrArg (fun z => V.t (T.v (Value.int _ z))) (fnvs_succ (by assumption)).symm), I⟩⟩, I⟩, I⟩, ?_, ?_⟩
    rotate_left 1
    (dsimp only; omega)
    dsimp only
    omega
  · rw [show n = tx.size from by omega]
/-- The bytes of a number, the greatest first. -/
def beL (v : Int) : Nat → List Int
  | 0 => []
  | n + 1 => (v / 256 ^ n % 256) :: beL v n
abbrev b1T (n : Int) : List T := [.v (.int .u8 n)]
theorem beL_len (v : Int) : ∀ n, (beL v n).length = n
  | 0 => rfl
  | n + 1 => by simp [beL, beL_len v n]
theorem beL_get (v : Int) : ∀ n i, i < n → (beL v n)[i]? = some (v / 256 ^ (n - 1 - i) % 256)
  | 0, _, h => by omega
  | n + 1, 0, _ => by simp [beL]
  | n + 1, i + 1, h => by
    simp only [beL, List.getElem?_cons_succ]
    rw [beL_get v n i (by omega)]
    congr 3
    congr 1
    omega
theorem text_set {v : Int} {n : Nat} (h0 : 0 ≤ v) (hn : n < 8) : (fill b1T (b1T 0) (beL v 8) n).set n (b1T (IntKind.u8.wrap (v.fdiv (2 ^ min (56 - 8 * (n : Int)).toNat IntKind.u64.bits)))) = fill b1T (b1T 0) (beL v 8) (n + 1) := by
  have e : IntKind.u8.wrap (v.fdiv (2 ^ min (56 - 8 * (n : Int)).toNat IntKind.u64.bits)) = v / 256 ^ (8 - 1 - n) % 256 := by
    rw [Int.fdiv_eq_ediv_of_nonneg _ (by exact Int.le_of_lt (Int.pow_pos (by decide)))]
    have : n = 0 ∨ n = 1 ∨ n = 2 ∨ n = 3 ∨ n = 4 ∨ n = 5 ∨ n = 6 ∨ n = 7 := by omega
    rcases this with rfl | rfl | rfl | rfl | rfl | rfl | rfl | rfl <;> simp [IntKind.wrap, IntKind.bits, IntKind.signed]
  rw [e]
  exact fill_set (beL_get v 8 n hn)
theorem bytes_b1 (l : List Int) : (⟨(bytesOf (l.map b1T)).toArray⟩ : ByteArray) = bl l := by
  simp [bytesOf, bl, b1T, Function.comp_def]
theorem c_impl_hash_text (v : Int) (h0 : 0 ≤ v) (h1 : v ≤ 18446744073709551615) : F n_impl_hash_text [.val (u8v v)] (.s (bl (beL v 8))) [[]] := by
  have hx := beL_len v 8
  refine i_impl_hash_text ?_
  conv => whnf
  refine g 0 0 [] ?_
  conv => whnf
  refine ⟨⟨I, I⟩, ?_⟩
  refine g 5 6 [.n ((8 : Nat))] ?_
  conv => whnf
  refine ⟨⟨⟨rfl, rfl, (by simp only [List.length_map, List.length_append, List.length_set, List.length_replicate, List.length_cons, List.length_nil, List.length_take, List.length_drop, fill_len, fillI_len, List.length_range, bytesT_len]; omega)⟩, I, I⟩, ?_⟩
  refine W.sq ?_
  refine g 6 7 [] ?_
  conv => whnf
  refine ⟨⟨I, I, I, I⟩, ?_⟩
  refine W.blk ?_
  refine W.lp (fun s (n : Nat) => ⟨[(0, s.s 0), (2, s.s 2), (3, s.s 3), (7, s.s 7), (8, .i n)], [(5, [.own [false] (fill b1T (b1T 0) (beL v 8) n)])], []⟩) (fun (n : Nat) => n ≤ 8) (fun (n : Nat) => 8 - n) (0) [some 5] [] ⟨rfl, ⟨rfl, rfl, rfl, rfl, rfl, I⟩, ⟨⟨rfl, ⟨rfl, I⟩⟩, I⟩, I⟩ (by omega) ?_
  intro n hn
  conv => whnf
  refine g 0 0 [] ?_
  conv => whnf
  refine ⟨⟨I, I⟩, ?_⟩
  refine W.sq ?_
  refine W.cn ?_
  conv => whnf
  refine ⟨fun h2 => ?_, fun h2 => ?_⟩
  replace h2 := dt h2
  simp only [List.length_map] at h2
  simp only [List.length_map, List.length_append, List.length_set, List.length_replicate, List.length_cons, List.length_nil, List.length_take, List.length_drop, fill_len, fillI_len, List.length_range, bytesT_len] at h2
  refine W.skip ?_
  refine W.sq ?_
  refine W.blk ?_
  refine g 10 11 [] ?_
  conv => whnf
  refine ⟨⟨I, I, I⟩, ?_⟩
  refine rg [.i ((8 : Int) * (↑n : Int)), .i ((56 : Int) - (8 : Int) * (↑n : Int)), .i (Int.fdiv v ((2 : Int) ^ min (Int.toNat ((56 : Int) - (8 : Int) * (↑n : Int))) (IntKind.bits IntKind.u64))), .i (IntKind.wrap IntKind.u8 (Int.fdiv v ((2 : Int) ^ min (Int.toNat ((56 : Int) - (8 : Int) * (↑n : Int))) (IntKind.bits IntKind.u64)))), .n (n), .x (b1T (0 : Int))] ?_
  conv => whnf
  refine ⟨⟨I, I, I, I, w64 (by omega) (by omega), w64 (by omega) (by omega), ⟨(by omega), rfl⟩, rfl, ⟨rfl, (by simp only [List.length_map, List.length_append, List.length_set, List.length_replicate, List.length_cons, List.length_nil, List.length_take, List.length_drop, fill_len, fillI_len, List.length_range, bytesT_len]; omega)⟩, ⟨⟨I, I⟩, fill_get (by omega)⟩, I⟩, ?_⟩
  refine rg [.i ((↑n : Int) + (1 : Int))] ?_
  conv => whnf
  refine ⟨⟨w64 (by omega) (by omega), I, I⟩, ?_⟩
  rotate_left 1
  replace h2 := df h2
  simp only [List.length_map] at h2
  simp only [List.length_map, List.length_append, List.length_set, List.length_replicate, List.length_cons, List.length_nil, List.length_take, List.length_drop, fill_len, fillI_len, List.length_range, bytesT_len] at h2
  refine W.exit ?_
  refine g 3 9 [.s ({ data := List.toArray (bytesOf (fill b1T (b1T (0 : Int)) (beL v (8 : Nat)) n)) : ByteArray })] ?_
  conv => whnf
  refine ⟨⟨I, ⟨I, allU8_fill, rfl⟩, I, I⟩, ?_⟩
  refine W.ret ?_
  refine EndsW.rt ?_
  conv => whnf
  refine ⟨⟨I, I, I⟩, ?_, rfl⟩
  rotate_left 1
  · refine ⟨n + 1, [some 5], [], ⟨rfl, ⟨rfl, rfl, rfl, rfl, rfl, I⟩, ⟨⟨rfl, ⟨(congrArg (V.own _) (text_set h0 (by omega))), I⟩⟩, I⟩, I⟩, ?_, ?_⟩
    rotate_left 1
    (dsimp only; omega)
    dsimp only
    omega
  · rw [fill_all _ _ _ (by omega)]
    exact vs (bytes_b1 _)
theorem sum_step {v : Int} {n : Nat} (h0 : 0 ≤ v) : [b1T (IntKind.u8.wrap ((v / 256 ^ n).tmod 256))] ++ (beL v n).map b1T = (beL v (n + 1)).map b1T := by
  have h1 : 0 ≤ v / 256 ^ n := Int.ediv_nonneg h0 (Int.le_of_lt (Int.pow_pos (by decide)))
  rw [Int.tmod_eq_emod_of_nonneg h1]
  have h2 : IntKind.u8.wrap (v / 256 ^ n % 256) = v / 256 ^ n % 256 := wu8 (by omega) (by omega)
  rw [h2]; rfl
theorem sum_div {v : Int} {n : Nat} (h0 : 0 ≤ v) (h2 : v ≤ 18446744073709551615) : IntKind.u64.wrap ((v / 256 ^ n).tdiv 256) = v / 256 ^ (n + 1) := by
  have h1 : 0 ≤ v / 256 ^ n := Int.ediv_nonneg h0 (Int.le_of_lt (Int.pow_pos (by decide)))
  have h3 : v / 256 ^ n ≤ v := Int.ediv_le_self _ h0
  rw [Int.tdiv_eq_ediv_of_nonneg h1, wu64 (by omega) (by omega), Int.ediv_ediv_of_nonneg (Int.le_of_lt (Int.pow_pos (by decide))), Int.pow_succ]
def h0v : Int := 14695981039346656037
theorem c_spec_l1Sum (tx : ByteArray) (ht : tx.size ≤ 9223372036854775807) : F n_spec_l1Sum [.val (.s tx)] (.s (bl (beL (fnvs h0v tx tx.size) 8))) [[]] := by
  refine i_spec_l1Sum ?_
  conv => whnf
  refine g 0 0 [] ?_
  conv => whnf
  refine ⟨⟨I, I⟩, ?_⟩
  refine g 0 0 [] ?_
  conv => whnf
  refine ⟨⟨I, I⟩, ?_⟩
  refine W.sq ?_
  refine g 0 0 [] ?_
  conv => whnf
  refine ⟨⟨I, I⟩, ?_⟩
  refine W.blk ?_
  refine W.lp (fun s (n : Nat) => ⟨[(0, s.s 0), (2, s.s 2), (3, u8v (fnvs h0v tx n)), (4, .i n)], [], []⟩) (fun (n : Nat) => n ≤ tx.size) (fun (n : Nat) => tx.size - n) (0) [] [] ⟨rfl, ⟨rfl, rfl, rfl, rfl, I⟩, I, I⟩ (by omega) ?_
  intro n hn
  conv => whnf
  refine W.sq ?_
  refine g 7 9 [] ?_
  conv => whnf
  refine ⟨⟨I, I, I, I, I⟩, ?_⟩
  refine W.cn ?_
  conv => whnf
  refine ⟨fun h1 => ?_, fun h1 => ?_⟩
  replace h1 := dt h1
  refine W.skip ?_
  refine W.sq ?_
  refine W.blk ?_
  obtain ⟨y1, hy1, hb1⟩ := byte_at (s := tx) (n := n) (by omega)
  refine rg [.i ((↑(UInt8.toNat y1) : Int)), .i ((↑(UInt8.toNat y1) : Int)), .i (IntKind.wrap IntKind.u64 (↑(BitVec.toNat (BitVec.ofInt (IntKind.bits IntKind.u64) (fnvs h0v tx n) ^^^ BitVec.ofInt (IntKind.bits IntKind.u64) (↑(UInt8.toNat y1) : Int))) : Int)), .i (IntKind.wrap IntKind.u64 (IntKind.wrap IntKind.u64 (↑(BitVec.toNat (BitVec.ofInt (IntKind.bits IntKind.u64) (fnvs h0v tx n) ^^^ BitVec.ofInt (IntKind.bits IntKind.u64) (↑(UInt8.toNat y1) : Int))) : Int) * (1099511628211 : Int)))] ?_
  conv => whnf
  refine ⟨⟨I, I, I, ⟨(by omega), ixb (by assumption)⟩, w8u _, rfl, rfl, I, I⟩, ?_⟩
  refine rg [.i ((↑n : Int) + (1 : Int))] ?_
  conv => whnf
  refine ⟨⟨I, w64 (by omega) (by omega), I, I⟩, ?_⟩
  rotate_left 1
  replace h1 := df h1
  refine W.exit ?_
  refine g 10 21 [] ?_
  conv => whnf
  refine ⟨⟨I, I, I⟩, ?_⟩
  refine W.sq ?_
  refine g 4 5 [] ?_
  conv => whnf
  refine ⟨⟨I, I⟩, ?_⟩
  refine W.blk ?_
  rotate_left 1
  · refine ⟨n + 1, [], [], ⟨rfl, ⟨rfl, rfl, (congrArg (fun z => V.t (T.v (Value.int _ z))) (fnvs_succ (by assumption)).symm), rfl, I⟩, I, I⟩, ?_, ?_⟩
    rotate_left 1
    (dsimp only; omega)
    dsimp only
    omega
  have e : n = tx.size := by omega
  subst e
  have hb : 0 ≤ fnvs h0v tx tx.size ∧ fnvs h0v tx tx.size ≤ 18446744073709551615 := fold_bd _ _ (by unfold h0v; omega)
  generalize fnvs h0v tx tx.size = v at hb ⊢
  obtain ⟨hb0, hb1⟩ := hb
  refine W.lp (fun s (n : Nat) => ⟨[(0, s.s 0), (2, s.s 2), (3, u8v (v / 256 ^ n)), (5, .ref ⟨5, none, 0⟩), (6, .i n), (9, s.s 9)], [(5, [.own [false] ((beL v n).map b1T)])], []⟩) (fun (n : Nat) => n ≤ 8) (fun (n : Nat) => 8 - n) (0) [some 20] [] ⟨rfl, ⟨rfl, rfl, (congrArg (fun z => V.t (T.v (Value.int _ z))) (by omega)), rfl, rfl, rfl, I⟩, ⟨⟨rfl, ⟨rfl, I⟩⟩, I⟩, I⟩ (by omega) ?_
  intro n hn2
  have hx := beL_len v n
  conv => whnf
  refine W.sq ?_
  refine g 21 22 [] ?_
  conv => whnf
  refine ⟨⟨I, I, I⟩, ?_⟩
  refine W.cn ?_
  conv => whnf
  refine ⟨fun h2 => ?_, fun h2 => ?_⟩
  replace h2 := dt h2
  refine W.skip ?_
  refine W.sq ?_
  refine W.blk ?_
  refine g 22 31 [.i (Int.tmod (v / (256 : Int) ^ n) (256 : Int)), .i (IntKind.wrap IntKind.u8 (Int.tmod (v / (256 : Int) ^ n) (256 : Int)))] ?_
  conv => whnf
  refine ⟨⟨I, ⟨(by omega), rfl⟩, rfl, ⟨⟨I, I⟩, I⟩, I, ⟨I, I, (by simp only [List.length_map, List.length_append, List.length_set, List.length_replicate, List.length_cons, List.length_nil, List.length_take, List.length_drop, fill_len, fillI_len, List.length_range, bytesT_len]; omega)⟩, I, I⟩, ?_⟩
  refine rg [.i (IntKind.wrap IntKind.u64 (Int.tdiv (v / (256 : Int) ^ n) (256 : Int)))] ?_
  conv => whnf
  refine ⟨⟨I, ⟨(by omega), rfl⟩, I, I⟩, ?_⟩
  refine rg [.i ((↑n : Int) + (1 : Int))] ?_
  conv => whnf
  refine ⟨⟨I, w64 (by omega) (by omega), I, I⟩, ?_⟩
  rotate_left 1
  replace h2 := df h2
  refine W.exit ?_
  refine g 3 7 [.s ({ data := List.toArray (bytesOf (List.map b1T (beL v n))) : ByteArray })] ?_
  conv => whnf
  refine ⟨⟨I, ⟨I, allU8_map, rfl⟩, I, I⟩, ?_⟩
  refine W.ret ?_
  refine EndsW.rt ?_
  conv => whnf
  refine ⟨⟨I, I, I⟩, ?_, rfl⟩
  rotate_left 1
  · refine ⟨n + 1, [some 30], [], ⟨rfl, ⟨rfl, rfl, (congrArg (fun z => V.t (T.v (Value.int _ z))) (sum_div hb0 hb1)), rfl, rfl, rfl, I⟩, ⟨⟨rfl, ⟨(congrArg (V.own _) (sum_step hb0)), I⟩⟩, I⟩, I⟩, ?_, ?_⟩
    rotate_left 1
    (dsimp only; omega)
    dsimp only
    omega
  · rw [show n = 8 from by omega]
    exact vs (bytes_b1 _)
def fnvA (v : Int) (s : ByteArray) : Int := s.data.toList.foldl fnv v
theorem fnvs_all (v : Int) (s : ByteArray) : fnvs v s s.size = fnvA v s := by
  unfold fnvs fnvA; rw [List.take_of_length_le (by simp)]
theorem fnvA_app (v : Int) (a b : ByteArray) : fnvA v (a ++ b) = fnvA (fnvA v a) b := by
  simp [fnvA, ByteArray.data_append, List.foldl_append]
theorem fnvA_bd (s : ByteArray) : 0 ≤ fnvA h0v s ∧ fnvA h0v s ≤ 18446744073709551615 := fold_bd _ _ (by unfold h0v; omega)
end Go.K
end

section
set_option linter.unusedVariables false
set_option linter.unusedSimpArgs false
set_option maxHeartbeats 4000000
set_option maxRecDepth 20000
open Go Go.Tm Go.Proofs
namespace Go.K
theorem map_of {α β : Type} {f : α → β} {p : α → Prop} : ∀ {xs : List β}, (∀ y ∈ xs, ∃ s, y = f s ∧ p s) → ∃ ys : List α, xs = ys.map f ∧ ∀ s ∈ ys, p s
  | [], _ => ⟨[], rfl, fun _ h => by cases h⟩
  | y :: xs, h => by
    obtain ⟨s, rfl, hp⟩ := h y (.head _)
    obtain ⟨ys, rfl, hq⟩ := map_of fun z hz => h z (.tail _ hz)
    exact ⟨s :: ys, rfl, fun z hz => by rcases List.mem_cons.1 hz with rfl | hz; exact hp; exact hq z hz⟩
end Go.K

end

section
set_option linter.unusedVariables false
set_option linter.unusedSimpArgs false
set_option maxHeartbeats 4000000
set_option maxRecDepth 20000
open Go Go.Tm Go.Proofs
namespace Go.K
structure Parcel where
  kind : Int
  frm : ByteArray
  text : ByteArray
  deriving DecidableEq
abbrev noP : Parcel := ⟨0, emp, emp⟩
theorem bl_size (l : List Int) : (bl l).size = l.length := by simp [bl, bsa]
end Go.K

end

section
set_option linter.unusedVariables false
set_option linter.unusedSimpArgs false
set_option maxHeartbeats 4000000
set_option maxRecDepth 20000
open Go Go.Tm Go.Proofs
namespace Go.K
abbrev intT (n : Int) : List T := [.i n]
structure Task where
  name : ByteArray
  cost : Int
  deps : List Int
  deriving DecidableEq
structure Worker where
  number : Int
  epoch : Int
  up : Bool
  state : Int
  lease : Int
  task : Int
  cost : Int
  left : Int
  inputs : List ByteArray
  text : ByteArray
  since : Int
  deriving DecidableEq
end Go.K

end

section
set_option linter.unusedVariables false
set_option linter.unusedSimpArgs false
set_option maxHeartbeats 4000000
set_option maxRecDepth 20000
open Go Go.Tm Go.Proofs
namespace Go.K
def eights (xs : List ByteArray) : Prop := (∀ s ∈ xs, s.size = 8) ∧ xs.length ≤ 8
instance (xs : List ByteArray) : Decidable (eights xs) := by unfold eights; infer_instance
theorem eights_no {xs : List ByteArray} {n : Nat} {y : ByteArray} (hy : xs[n]? = some y) (h : ¬ (y.size : Int) = 8) : ¬ eights xs := fun e => h (by have := e.1 y (List.mem_of_getElem? hy); omega)
theorem all_take {α : Type} {p : α → Prop} {xs : List α} {n : Nat} {y : α} (h : ∀ s ∈ xs.take n, p s) (hy : xs[n]? = some y) (hp : p y) : ∀ s ∈ xs.take (n + 1), p s := fun s hs => by
  rw [List.take_add_one, hy] at hs
  rcases List.mem_append.1 hs with hs | hs
  · exact h s hs
  · simp at hs; subst hs; exact hp
theorem all_done {α : Type} {p : α → Prop} {xs : List α} {n : Nat} (h : ∀ s ∈ xs.take n, p s) (hn : xs.length ≤ n) : ∀ s ∈ xs, p s := by rwa [take_all hn] at h
theorem c_impl_eights (xs : List ByteArray) (hl : xs.length ≤ 9223372036854775806) : F n_impl_eights [.val (.t (strs xs))] (.b (decide (eights xs))) [[]] := by
  refine i_impl_eights ?_
  conv => whnf
  refine g 0 0 [] ?_
  conv => whnf
  refine ⟨⟨I, I⟩, ?_⟩
  refine W.sq ?_
  refine g 0 0 [] ?_
  conv => whnf
  refine ⟨⟨I, I, I, I⟩, ?_⟩
  refine W.blk ?_
  refine W.lp (fun s (n : Nat) => ⟨[(0, s.s 0), (5, s.s 5), (6, s.s 6), (7, .i n)], [], []⟩) (fun (n : Nat) => n ≤ xs.length ∧ ∀ s ∈ xs.take n, s.size = 8) (fun (n : Nat) => xs.length - n) (0) [] [] ⟨rfl, ⟨rfl, rfl, rfl, rfl, I⟩, I, I⟩ (by simp) ?_
  rintro n ⟨hn, hc⟩
  conv => whnf
  refine g 0 0 [] ?_
  conv => whnf
  refine ⟨⟨I, I⟩, ?_⟩
  refine W.sq ?_
  refine W.cn ?_
  conv => whnf
  refine ⟨fun h1 => ?_, fun h1 => ?_⟩
  replace h1 := dt h1
  simp only [List.length_map] at h1
  refine W.skip ?_
  refine W.sq ?_
  refine W.blk ?_
  obtain ⟨y1, hy1⟩ := some_at (xs := xs) (n := n) (by omega)
  refine g 8 11 [.x (strT y1)] ?_
  conv => whnf
  refine ⟨⟨⟨(by omega), ixl (by assumption)⟩, I, I, I⟩, ?_⟩
  refine g 11 13 [] ?_
  conv => whnf
  refine ⟨⟨I, I, I, I⟩, ?_⟩
  refine W.cn ?_
  conv => whnf
  refine ⟨fun h2 => ?_, fun h2 => ?_⟩
  replace h2 := ndt h2
  refine g 13 14 [] ?_
  conv => whnf
  refine ⟨⟨I, I⟩, ?_⟩
  refine W.ret ?_
  refine EndsW.rt ?_
  conv => whnf
  refine ⟨⟨I, I, I⟩, ?_, rfl⟩
  rotate_left 1
  replace h2 := ndf h2
  refine W.skip ?_
  refine rg [.i ((↑n : Int) + (1 : Int))] ?_
  conv => whnf
  refine ⟨⟨w64 (by omega) (by omega), I, I⟩, ?_⟩
  rotate_left 1
  replace h1 := df h1
  simp only [List.length_map] at h1
  refine W.exit ?_
  refine g 5 18 [] ?_
  conv => whnf
  refine ⟨⟨I, I, I, I, I⟩, ?_⟩
  refine W.ret ?_
  refine EndsW.rt ?_
  conv => whnf
  refine ⟨⟨I, I, I⟩, ?_, rfl⟩
  rotate_left 1
  · exact vbf (eights_no hy1 (by assumption))
  · refine ⟨n + 1, [], [], ⟨rfl, ⟨rfl, rfl, rfl, rfl, I⟩, I, I⟩, ?_, ?_⟩
    rotate_left 1
    (dsimp only; omega)
    dsimp only
    exact ⟨by omega, all_take hc hy1 (by omega)⟩
  · exact vbd ⟨fun e => ⟨all_done hc (by omega), by simp only [List.length_map] at e; omega⟩, fun e => by have := e.2; simp only [List.length_map]; omega⟩
theorem c_spec_l2InputsOk (xs : List ByteArray) (hl : xs.length ≤ 9223372036854775806) : F n_spec_l2InputsOk [.val (.t (strs xs))] (.b (decide (eights xs))) [[]] := by
  refine i_spec_l2InputsOk ?_
  conv => whnf
  refine g 0 0 [] ?_
  conv => whnf
  refine ⟨⟨I, I⟩, ?_⟩
  refine W.sq ?_
  refine g 0 0 [] ?_
  conv => whnf
  refine ⟨⟨I, I⟩, ?_⟩
  refine W.blk ?_
  refine W.lp (fun s (n : Nat) => ⟨[(0, s.s 0), (3, .i n)], [], []⟩) (fun (n : Nat) => n ≤ xs.length ∧ ∀ s ∈ xs.take n, s.size = 8) (fun (n : Nat) => xs.length - n) (0) [] [] ⟨rfl, ⟨rfl, rfl, I⟩, I, I⟩ (by simp) ?_
  rintro n ⟨hn, hc⟩
  conv => whnf
  refine W.sq ?_
  refine g 5 7 [] ?_
  conv => whnf
  refine ⟨⟨I, I, I, I, I⟩, ?_⟩
  refine W.cn ?_
  conv => whnf
  refine ⟨fun h1 => ?_, fun h1 => ?_⟩
  replace h1 := dt h1
  simp only [List.length_map] at h1
  refine W.skip ?_
  refine W.sq ?_
  refine W.blk ?_
  obtain ⟨y1, hy1⟩ := some_at (xs := xs) (n := n) (by omega)
  refine g 7 15 [.x (strT y1)] ?_
  conv => whnf
  refine ⟨⟨I, I, ⟨(by omega), ixl (by assumption)⟩, I, I, I, I⟩, ?_⟩
  refine W.cn ?_
  conv => whnf
  refine ⟨fun h2 => ?_, fun h2 => ?_⟩
  replace h2 := ndt h2
  refine g 15 16 [] ?_
  conv => whnf
  refine ⟨⟨I, I⟩, ?_⟩
  refine W.ret ?_
  refine EndsW.rt ?_
  conv => whnf
  refine ⟨⟨I, I, I⟩, ?_, rfl⟩
  rotate_left 1
  replace h2 := ndf h2
  refine W.skip ?_
  refine rg [.i ((↑n : Int) + (1 : Int))] ?_
  conv => whnf
  refine ⟨⟨I, w64 (by omega) (by omega), I, I⟩, ?_⟩
  rotate_left 1
  replace h1 := df h1
  simp only [List.length_map] at h1
  refine W.exit ?_
  refine g 7 19 [] ?_
  conv => whnf
  refine ⟨⟨I, I, I, I, I⟩, ?_⟩
  refine W.ret ?_
  refine EndsW.rt ?_
  conv => whnf
  refine ⟨⟨I, I, I⟩, ?_, rfl⟩
  rotate_left 1
  · exact vbf (eights_no hy1 (by assumption))
  · refine ⟨n + 1, [], [], ⟨rfl, ⟨rfl, rfl, I⟩, I, I⟩, ?_, ?_⟩
    rotate_left 1
    (dsimp only; omega)
    dsimp only
    exact ⟨by omega, all_take hc hy1 (by omega)⟩
  · exact vbd ⟨fun e => ⟨all_done hc (by omega), by simp only [List.length_map] at e; omega⟩, fun e => by have := e.2; simp only [List.length_map]; omega⟩
theorem c_spec_l2LeaseOk (n : Int) : F n_spec_l2LeaseOk [.val (.i n)] (.b (decide (1 ≤ n ∧ n ≤ 300000000))) [[]] := by
  refine i_spec_l2LeaseOk ?_
  conv => whnf
  refine g 0 0 [] ?_
  conv => whnf
  refine ⟨⟨I, I⟩, ?_⟩
  refine g 0 1 [.call (V.b (decide ((1 : Int) ≤ n ∧ n ≤ (300000000 : Int)))) ([[], [], []])] ?_
  conv => whnf
  refine ⟨⟨I, ⟨⟨I, I, I, I⟩, I, ⟨⟨I, I⟩, ⟨I, I⟩, ⟨I, I⟩, I⟩, ⟨I, I⟩, Go.K.c_spec_l2In _ _ _⟩, I, I⟩, ?_⟩
  refine W.ret ?_
  refine EndsW.rt ?_
  conv => whnf
  refine ⟨⟨I, I, I⟩, ?_, rfl⟩
  rfl
end Go.K

end

section
set_option linter.unusedVariables false
set_option linter.unusedSimpArgs false
open Go Go.Tm Go.Proofs
namespace Go.K
structure Tale where
  epoch : Int
  results : List ByteArray
end Go.K

end

section
set_option linter.unusedVariables false
set_option linter.unusedSimpArgs false
set_option maxHeartbeats 4000000
set_option maxRecDepth 20000
open Go Go.Tm Go.Proofs
namespace Go.K
structure Story where
  code : Int
  epoch : Int
  results : List ByteArray
  deriving DecidableEq
end Go.K

end

section
set_option linter.unusedVariables false
set_option linter.unusedSimpArgs false
set_option maxHeartbeats 4000000
set_option maxRecDepth 20000
open Go Go.Tm Go.Proofs
namespace Go.K
abbrev u8s (l : List Int) : T := .slc [false] (l.map b1T)
theorem x_spec_DrawFormMessage {xs : List A} {R : V → List (List V) → Prop} (hrun : forceH (iniH 26 xs) fun H => W Try.prog 26 (bodyOf Try.f38) H (EndsW 26 E [(2, 27, true), (3, 9, false)] xs R)) (h : (okAs xs && Nat.ble xs.length 26) = true := by rfl) : ∃ res outs, R res outs ∧ F 38 xs res outs := by obtain ⟨r, o, h1, h2⟩ := Fn.any Try.func38 rfl rfl E_ok rfl h hrun; exact ⟨r, o, h1, e_spec_DrawFormMessage, h2⟩
theorem x_spec_DrawReadMessage {xs : List A} {R : V → List (List V) → Prop} (hrun : forceH (iniH 45 xs) fun H => W Try.prog 45 (bodyOf Try.f40) H (EndsW 45 E [(2, 9, false), (3, 9, false)] xs R)) (h : (okAs xs && Nat.ble xs.length 45) = true := by rfl) : ∃ res outs, R res outs ∧ F 40 xs res outs := by obtain ⟨r, o, h1, h2⟩ := Fn.any Try.func40 rfl rfl E_ok rfl h hrun; exact ⟨r, o, h1, e_spec_DrawReadMessage, h2⟩
theorem x_spec_l1Rd_pick {xs : List A} {R : V → List (List V) → Prop} (hrun : forceH (iniH 99 xs) fun H => W Try.prog 99 (bodyOf Try.f93) H (EndsW 99 E [(4, 3, false)] xs R)) (h : (okAs xs && Nat.ble xs.length 99) = true := by rfl) : ∃ res outs, R res outs ∧ F 93 xs res outs := by obtain ⟨r, o, h1, h2⟩ := Fn.any Try.func93 rfl rfl E_ok rfl h hrun; exact ⟨r, o, h1, e_spec_l1Rd_pick, h2⟩
theorem x_spec_l2Draw {xs : List A} {R : V → List (List V) → Prop} (hrun : forceH (iniH 65 xs) fun H => W Try.prog 65 (bodyOf Try.f105) H (EndsW 65 E [(2, 27, true)] xs R)) (h : (okAs xs && Nat.ble xs.length 65) = true := by rfl) : ∃ res outs, R res outs ∧ F 105 xs res outs := by obtain ⟨r, o, h1, h2⟩ := Fn.any Try.func105 rfl rfl E_ok rfl h hrun; exact ⟨r, o, h1, e_spec_l2Draw, h2⟩
theorem x_spec_l2Spoil {xs : List A} {R : V → List (List V) → Prop} (hrun : forceH (iniH 87 xs) fun H => W Try.prog 87 (bodyOf Try.f106) H (EndsW 87 E [(4, 27, true)] xs R)) (h : (okAs xs && Nat.ble xs.length 87) = true := by rfl) : ∃ res outs, R res outs ∧ F 106 xs res outs := by obtain ⟨r, o, h1, h2⟩ := Fn.any Try.func106 rfl rfl E_ok rfl h hrun; exact ⟨r, o, h1, e_spec_l2Spoil, h2⟩
theorem x_spec_l1Many {xs : List A} {R : V → List (List V) → Prop} (hrun : forceH (iniH 20 xs) fun H => W Try.prog 20 (bodyOf Try.f107) H (EndsW 20 E [(4, 9, false)] xs R)) (h : (okAs xs && Nat.ble xs.length 20) = true := by rfl) : ∃ res outs, R res outs ∧ F 107 xs res outs := by obtain ⟨r, o, h1, h2⟩ := Fn.any Try.func107 rfl rfl E_ok rfl h hrun; exact ⟨r, o, h1, e_spec_l1Many, h2⟩
theorem x_spec_l1Bend {xs : List A} {R : V → List (List V) → Prop} (hrun : forceH (iniH 66 xs) fun H => W Try.prog 66 (bodyOf Try.f108) H (EndsW 66 E [(4, 9, false)] xs R)) (h : (okAs xs && Nat.ble xs.length 66) = true := by rfl) : ∃ res outs, R res outs ∧ F 108 xs res outs := by obtain ⟨r, o, h1, h2⟩ := Fn.any Try.func108 rfl rfl E_ok rfl h hrun; exact ⟨r, o, h1, e_spec_l1Bend, h2⟩
/-- The reader of a code: its bytes, and the place. -/
abbrev rdC (l : List Int) (pos : Int) : List V := [.t (u8s l), .t (.i pos)]
def u8ok (l : List Int) : Prop := l.length ≤ 2000 ∧ ∀ x ∈ l, 0 ≤ x ∧ x ≤ 255
theorem c_spec_l1Open (l : List Int) (h : l.length ≤ 1099511627776) : F n_spec_l1Open [.val (.t (u8s l))] (.tup [.tup (rdC (l.take 2000) 0)]) [[]] := by
  refine i_spec_l1Open ?_
  conv => whnf
  refine g 0 0 [] ?_
  conv => whnf
  refine ⟨⟨I, I⟩, ?_⟩
  refine W.sq ?_
  refine g 3 5 [] ?_
  conv => whnf
  refine ⟨⟨I, I, I, I⟩, ?_⟩
  refine W.cn ?_
  conv => whnf
  refine ⟨fun h1 => ?_, fun h1 => ?_⟩
  replace h1 := dt h1
  simp only [List.length_map] at h1
  refine rg [.n ((2000 : Nat))] ?_
  conv => whnf
  refine ⟨⟨I, ⟨I, rfl, I, (by omega), (by simp only [List.length_map, List.length_append, List.length_set, List.length_replicate, List.length_cons, List.length_nil, List.length_take, List.length_drop, fill_len, fillI_len, List.length_range, bytesT_len]; omega)⟩, I, I⟩, ?_⟩
  refine g 5 11 [] ?_
  conv => whnf
  refine ⟨⟨I, I, ⟨I, I, I⟩, I, I⟩, ?_⟩
  refine W.ret ?_
  refine EndsW.rt ?_
  conv => whnf
  refine ⟨I, ?_, rfl⟩
  rotate_left 1
  replace h1 := df h1
  simp only [List.length_map] at h1
  refine W.skip ?_
  refine g 5 11 [] ?_
  conv => whnf
  refine ⟨⟨I, I, ⟨I, I, I⟩, I, I⟩, ?_⟩
  refine W.ret ?_
  refine EndsW.rt ?_
  conv => whnf
  refine ⟨I, ?_, rfl⟩
  rotate_left 1
  · rw [List.drop_zero, ← List.map_take]
  · rw [List.take_of_length_le (by omega)]
theorem tmod_rng {x n : Int} (hx : 0 ≤ x) (hn : 0 < n) : 0 ≤ x.tmod n ∧ x.tmod n < n := ⟨Int.tmod_nonneg _ hx, Int.tmod_lt_of_pos _ hn⟩
theorem tdiv_rng {x n : Int} (hx : 0 ≤ x) (hn : 0 < n) : 0 ≤ x.tdiv n ∧ x.tdiv n ≤ x := by
  rw [Int.tdiv_eq_ediv_of_nonneg hx]
  exact ⟨Int.ediv_nonneg hx (by omega), Int.ediv_le_self _ hx⟩
theorem xor_rng {x y : Int} (hx : 0 ≤ x) (hx2 : x < 1099511627776) (hy : 0 ≤ y) (hy2 : y < 1099511627776) : 0 ≤ IntKind.i64.wrap ↑(BitVec.ofInt IntKind.i64.bits x ^^^ BitVec.ofInt IntKind.i64.bits y).toNat := by
  have e1 : (BitVec.ofInt IntKind.i64.bits x).toNat = x.toNat := by
    rw [BitVec.toNat_ofInt]
    show (x % ((2 ^ 64 : Nat) : Int)).toNat = _
    rw [Int.emod_eq_of_lt hx (by omega)]
  have e2 : (BitVec.ofInt IntKind.i64.bits y).toNat = y.toNat := by
    rw [BitVec.toNat_ofInt]
    show (y % ((2 ^ 64 : Nat) : Int)).toNat = _
    rw [Int.emod_eq_of_lt hy (by omega)]
  have h : x.toNat ^^^ y.toNat < 2 ^ 40 := Nat.xor_lt_two_pow (by omega) (by omega)
  rw [BitVec.toNat_xor, e1, e2]
  have : (2 : Nat) ^ 40 = 1099511627776 := by decide
  rw [w64 (by omega) (by omega)]
  omega
theorem ex_pick (l : List Int) (pos n : Int) (hl : u8ok l) (h0 : 0 ≤ pos) (h1 : pos ≤ 1048576) (hn : n ≤ 1048576) : ∃ res outs, (∃ v, res = .i v ∧ outs = [rdC l (pos + 1), []] ∧ 0 ≤ v ∧ (v < n ∨ v = 0)) ∧ F n_spec_l1Rd_pick [.ptr (rdC l pos), .val (.i n)] res outs := by
  obtain ⟨hl1, hl2⟩ := hl
  by_cases hz : l.length = 0
  · refine x_spec_l1Rd_pick ?_
    conv => whnf
    refine g 0 0 [] ?_
    conv => whnf
    refine ⟨⟨I, I⟩, ?_⟩
    refine g 7 15 [.i (pos + (1 : Int))] ?_
    conv => whnf
    refine ⟨⟨I, I, I, I, I, w64 (by omega) (by omega), I, I, ⟨I, I⟩, I⟩, ?_⟩
    refine W.sq ?_
    by_cases h2 : n < (1 : Int)
    refine g 15 24 [.b (true), .b (true), .b (true), .b (true), .b (true), .b (true), .b (true)] ?_
    conv => whnf
    refine ⟨⟨I, I, I, decide_eq_true (by omega), decide_eq_true (by omega), decide_eq_true (by omega), decide_eq_true (by omega), decide_eq_true (by omega), decide_eq_true (by omega), decide_eq_true (by omega), I⟩, ?_⟩
    refine W.cn ?_
    conv => whnf
    refine ⟨fun _ => ?_, noF (rfl)⟩
    refine g 24 25 [] ?_
    conv => whnf
    refine ⟨⟨I, I⟩, ?_⟩
    refine W.ret ?_
    refine EndsW.rt ?_
    conv => whnf
    refine ⟨⟨I, I, I⟩, ?_⟩
    rotate_left 1
    refine g 15 24 [.b (false), .b (false), .b (false), .b (false), .b (false), .b (false), .b (false)] ?_
    conv => whnf
    refine ⟨⟨I, I, I, ⟨decide_eq_false (by omega), I⟩, ⟨decide_eq_false (by omega), I⟩, ⟨decide_eq_false (by omega), I⟩, ⟨decide_eq_false (by omega), I⟩, ⟨decide_eq_false (by omega), I⟩, ⟨decide_eq_false (by omega), I⟩, decide_eq_false (by omega), I⟩, ?_⟩
    refine W.cn ?_
    conv => whnf
    refine ⟨fun _ => ?_, noF (by simp [*])⟩
    refine g 24 25 [] ?_
    conv => whnf
    refine ⟨⟨I, I⟩, ?_⟩
    refine W.ret ?_
    refine EndsW.rt ?_
    conv => whnf
    refine ⟨⟨I, I, I⟩, ?_⟩
    rotate_left 1
    all_goals exact ⟨0, rfl, rfl, by omega, .inr rfl⟩
  · have hp : (0 : Int) < ((l.map b1T).length : Int) := by rw [List.length_map]; omega
    have hlm : ((l.map b1T).length : Int) = l.length := by rw [List.length_map]
    obtain ⟨m1, m2⟩ := tmod_rng (x := pos + 1 - 1) (by omega) hp
    obtain ⟨m3, m4⟩ := tmod_rng (x := (pos + 1 - 1) * 7 + 3) (by omega) hp
    obtain ⟨m5, m6⟩ := tdiv_rng (x := pos + 1 - 1) (by omega) hp
    rw [hlm] at m1 m2 m3 m4 m5 m6
    refine x_spec_l1Rd_pick ?_
    conv => whnf
    refine g 0 0 [] ?_
    conv => whnf
    refine ⟨⟨I, I⟩, ?_⟩
    refine g 7 15 [.i (pos + (1 : Int))] ?_
    conv => whnf
    refine ⟨⟨I, I, I, I, I, w64 (by omega) (by omega), I, I, ⟨I, I⟩, I⟩, ?_⟩
    refine W.sq ?_
    by_cases h2 : n < (1 : Int)
    refine g 15 24 [.b (true), .b (true), .b (true), .b (true), .b (true), .b (true), .b (true)] ?_
    conv => whnf
    refine ⟨⟨I, I, I, decide_eq_true (by omega), decide_eq_true (by omega), decide_eq_true (by omega), decide_eq_true (by omega), decide_eq_true (by omega), decide_eq_true (by omega), decide_eq_true (by omega), I⟩, ?_⟩
    refine W.cn ?_
    conv => whnf
    refine ⟨fun _ => ?_, noF (rfl)⟩
    refine g 24 25 [] ?_
    conv => whnf
    refine ⟨⟨I, I⟩, ?_⟩
    refine W.ret ?_
    refine EndsW.rt ?_
    conv => whnf
    refine ⟨⟨I, I, I⟩, ?_⟩
    rotate_left 1
    refine g 15 24 [.b (false), .b (false), .b (false), .b (false), .b (false), .b (false), .b (false)] ?_
    conv => whnf
    refine ⟨⟨I, I, I, ⟨decide_eq_false (by omega), I⟩, ⟨decide_eq_false (by omega), I⟩, ⟨decide_eq_false (by omega), I⟩, ⟨decide_eq_false (by omega), I⟩, ⟨decide_eq_false (by omega), I⟩, ⟨decide_eq_false (by omega), I⟩, decide_eq_false (by omega), I⟩, ?_⟩
    refine W.cn ?_
    conv => whnf
    refine ⟨noT (decide_eq_false (by omega)), fun _ => ?_⟩
    refine W.skip ?_
    refine g 24 30 [.i (pos + (1 : Int) - (1 : Int))] ?_
    conv => whnf
    refine ⟨⟨I, I, I, I, w64 (by omega) (by omega), I, I⟩, ?_⟩
    refine W.sq ?_
    refine g 30 36 [] ?_
    conv => whnf
    refine ⟨⟨I, I, I, I, I, I, I, I⟩, ?_⟩
    refine W.cn ?_
    conv => whnf
    refine ⟨fun h3 => ?_, fun h3 => ?_⟩
    replace h3 := dt h3
    simp only [List.length_map] at h3
    obtain ⟨y1, hy1⟩ := some_at (xs := l) (n := Int.toNat (pos + (1 : Int) - (1 : Int))) (by omega)
    have hm1 := hl2 y1 (List.mem_of_getElem? hy1)
    refine g 36 47 [.x (b1T y1), .i (y1), .i (Int.tmod y1 n)] ?_
    conv => whnf
    refine ⟨⟨I, I, I, I, I, ⟨(by omega), ixl (by assumption)⟩, I, w64 (by omega) (by omega), I, ⟨(by omega), rfl⟩, I, I⟩, ?_⟩
    refine W.ret ?_
    refine EndsW.rt ?_
    conv => whnf
    refine ⟨⟨I, I, I⟩, ?_⟩
    rotate_left 1
    replace h3 := df h3
    simp only [List.length_map] at h3
    refine W.skip ?_
    obtain ⟨y1, hy1⟩ := some_at (xs := l) (n := Int.toNat (Int.tmod (pos + (1 : Int) - (1 : Int)) (↑(List.length (List.map b1T l)) : Int))) (by simp only [List.length_map] at *; omega)
    have hm1 := hl2 y1 (List.mem_of_getElem? hy1)
    obtain ⟨y2, hy2⟩ := some_at (xs := l) (n := Int.toNat (Int.tmod ((pos + (1 : Int) - (1 : Int)) * (7 : Int) + (3 : Int)) (↑(List.length (List.map b1T l)) : Int))) (by simp only [List.length_map] at *; omega)
    have hm2 := hl2 y2 (List.mem_of_getElem? hy2)
    refine gd 36 92 [[], [], [], [], [], [], [], [], [], [], [.i (Int.tmod (pos + (1 : Int) - (1 : Int)) (↑(List.length (List.map b1T l)) : Int))], [.x (b1T y1)], [], [.i (y1)], [.i (y1 * (131 : Int))], [], [], [], [], [], [.i ((pos + (1 : Int) - (1 : Int)) * (7 : Int))], [.i ((pos + (1 : Int) - (1 : Int)) * (7 : Int) + (3 : Int))], [], [], [], [], [], [.i (Int.tmod ((pos + (1 : Int) - (1 : Int)) * (7 : Int) + (3 : Int)) (↑(List.length (List.map b1T l)) : Int))], [.x (b1T y2)], [], [.i (y2)], [.i (y2 * (1117 : Int))], [.i (y1 * (131 : Int) + y2 * (1117 : Int))], [], [.i ((pos + (1 : Int) - (1 : Int)) * (29 : Int))], [.i (y1 * (131 : Int) + y2 * (1117 : Int) + (pos + (1 : Int) - (1 : Int)) * (29 : Int))], [], [], [], [], [], [], [.i (Int.tdiv (pos + (1 : Int) - (1 : Int)) (↑(List.length (List.map b1T l)) : Int))], [.i (Int.tdiv (pos + (1 : Int) - (1 : Int)) (↑(List.length (List.map b1T l)) : Int) * (53 : Int))], [.i (y1 * (131 : Int) + y2 * (1117 : Int) + (pos + (1 : Int) - (1 : Int)) * (29 : Int) + Int.tdiv (pos + (1 : Int) - (1 : Int)) (↑(List.length (List.map b1T l)) : Int) * (53 : Int))], []] ?_
    conv => whnf
    refine ⟨⟨I, I, I, I, I, I, I, I, I, I, ⟨(by omega), rfl⟩, ⟨(by simp only [List.length_map, List.length_append, List.length_set, List.length_replicate, List.length_cons, List.length_nil, List.length_take, List.length_drop, fill_len, fillI_len, List.length_range, bytesT_len]; omega), ixl (by assumption)⟩, I, w64 (by omega) (by omega), w64 (by omega) (by omega), I, I, I, I, I, w64 (by omega) (by omega), w64 (by omega) (by omega), I, I, I, I, I, ⟨(by omega), rfl⟩, ⟨(by simp only [List.length_map, List.length_append, List.length_set, List.length_replicate, List.length_cons, List.length_nil, List.length_take, List.length_drop, fill_len, fillI_len, List.length_range, bytesT_len]; omega), ixl (by assumption)⟩, I, w64 (by omega) (by omega), w64 (by omega) (by omega), w64 (by omega) (by omega), I, w64 (by omega) (by omega), w64 (by omega) (by omega), I, I, I, I, I, I, ⟨(by omega), w64 (by simp only [List.length_map, List.length_append, List.length_set, List.length_replicate, List.length_cons, List.length_nil, List.length_take, List.length_drop, fill_len, fillI_len, List.length_range, bytesT_len]; omega) (by simp only [List.length_map, List.length_append, List.length_set, List.length_replicate, List.length_cons, List.length_nil, List.length_take, List.length_drop, fill_len, fillI_len, List.length_range, bytesT_len]; omega)⟩, w64 (by simp only [List.length_map, List.length_append, List.length_set, List.length_replicate, List.length_cons, List.length_nil, List.length_take, List.length_drop, fill_len, fillI_len, List.length_range, bytesT_len]; omega) (by simp only [List.length_map, List.length_append, List.length_set, List.length_replicate, List.length_cons, List.length_nil, List.length_take, List.length_drop, fill_len, fillI_len, List.length_range, bytesT_len]; omega), w64 (by simp only [List.length_map, List.length_append, List.length_set, List.length_replicate, List.length_cons, List.length_nil, List.length_take, List.length_drop, fill_len, fillI_len, List.length_range, bytesT_len]; omega) (by simp only [List.length_map, List.length_append, List.length_set, List.length_replicate, List.length_cons, List.length_nil, List.length_take, List.length_drop, fill_len, fillI_len, List.length_range, bytesT_len]; omega), I, I⟩, by kernel_rfl, ?_⟩
    refine g 92 96 [.i (IntKind.wrap IntKind.i64 (Int.tdiv (y1 * (131 : Int) + y2 * (1117 : Int) + (pos + (1 : Int) - (1 : Int)) * (29 : Int) + Int.tdiv (pos + (1 : Int) - (1 : Int)) (↑(List.length (List.map b1T l)) : Int) * (53 : Int)) (64 : Int))), .i (IntKind.wrap IntKind.i64 (↑(BitVec.toNat (BitVec.ofInt (IntKind.bits IntKind.i64) (y1 * (131 : Int) + y2 * (1117 : Int) + (pos + (1 : Int) - (1 : Int)) * (29 : Int) + Int.tdiv (pos + (1 : Int) - (1 : Int)) (↑(List.length (List.map b1T l)) : Int) * (53 : Int)) ^^^ BitVec.ofInt (IntKind.bits IntKind.i64) (IntKind.wrap IntKind.i64 (Int.tdiv (y1 * (131 : Int) + y2 * (1117 : Int) + (pos + (1 : Int) - (1 : Int)) * (29 : Int) + Int.tdiv (pos + (1 : Int) - (1 : Int)) (↑(List.length (List.map b1T l)) : Int) * (53 : Int)) (64 : Int))))) : Int))] ?_
    conv => whnf
    refine ⟨⟨I, I, ⟨(by omega), rfl⟩, rfl, I, I⟩, ?_⟩
    refine g 5 99 [.i (Int.tmod (IntKind.wrap IntKind.i64 (↑(BitVec.toNat (BitVec.ofInt (IntKind.bits IntKind.i64) (y1 * (131 : Int) + y2 * (1117 : Int) + (pos + (1 : Int) - (1 : Int)) * (29 : Int) + Int.tdiv (pos + (1 : Int) - (1 : Int)) (↑(List.length (List.map b1T l)) : Int) * (53 : Int)) ^^^ BitVec.ofInt (IntKind.bits IntKind.i64) (IntKind.wrap IntKind.i64 (Int.tdiv (y1 * (131 : Int) + y2 * (1117 : Int) + (pos + (1 : Int) - (1 : Int)) * (29 : Int) + Int.tdiv (pos + (1 : Int) - (1 : Int)) (↑(List.length (List.map b1T l)) : Int) * (53 : Int)) (64 : Int))))) : Int)) n)] ?_
    conv => whnf
    refine ⟨⟨I, I, ⟨(by omega), rfl⟩, I, I⟩, ?_⟩
    refine W.ret ?_
    refine EndsW.rt ?_
    conv => whnf
    refine ⟨⟨I, I, I⟩, ?_⟩
    rotate_left 1
    · exact ⟨0, rfl, rfl, by omega, .inr rfl⟩
    · obtain ⟨k1, k2⟩ := tmod_rng (x := y1) (n := n) (by omega) (by omega)
      exact ⟨_, rfl, rfl, k1, .inl k2⟩
    · obtain ⟨q5, q6⟩ := tdiv_rng (x := pos + 1 - 1) (by omega) hp
      have hX : 0 ≤ y1 * 131 + y2 * 1117 + (pos + 1 - 1) * 29 + (pos + 1 - 1).tdiv ↑(l.map b1T).length * 53 ∧ y1 * 131 + y2 * 1117 + (pos + 1 - 1) * 29 + (pos + 1 - 1).tdiv ↑(l.map b1T).length * 53 < 1099511627776 := by omega
      obtain ⟨q7, q8⟩ := tdiv_rng (n := 64) hX.1 (by omega)
      obtain ⟨k1, k2⟩ := tmod_rng (n := n) (xor_rng hX.1 hX.2 (y := IntKind.i64.wrap ((y1 * 131 + y2 * 1117 + (pos + 1 - 1) * 29 + (pos + 1 - 1).tdiv ↑(l.map b1T).length * 53).tdiv 64)) (by rw [w64 (by omega) (by omega)]; omega) (by rw [w64 (by omega) (by omega)]; omega)) (by omega)
      exact ⟨_, rfl, rfl, k1, .inl k2⟩
theorem ex_pick' (l : List Int) (pos n : Int) (h : u8ok l ∧ 0 ≤ pos ∧ pos ≤ 1048576 ∧ n ≤ 1048576) : ∃ v, F n_spec_l1Rd_pick [.ptr (rdC l pos), .val (.i n)] (.i v) [rdC l (pos + 1), []] ∧ 0 ≤ v ∧ (v < n ∨ v = 0) := by
  obtain ⟨res, outs, ⟨v, rfl, rfl, h0⟩, hF⟩ := ex_pick l pos n h.1 h.2.1 h.2.2.1 h.2.2.2
  exact ⟨v, hF, h0⟩
open Classical in
/-- What the reader picks. -/
noncomputable def pickV (l : List Int) (pos n : Int) : Int := if h : u8ok l ∧ 0 ≤ pos ∧ pos ≤ 1048576 ∧ n ≤ 1048576 then (ex_pick' l pos n h).choose else 0
theorem c_spec_l1Rd_pick (l : List Int) (pos n : Int) (hl : u8ok l) (h0 : 0 ≤ pos) (h1 : pos ≤ 1048576) (hn : n ≤ 1048576) : F n_spec_l1Rd_pick [.ptr (rdC l pos), .val (.i n)] (.i (pickV l pos n)) [rdC l (pos + 1), []] := by
  have h : u8ok l ∧ 0 ≤ pos ∧ pos ≤ 1048576 ∧ n ≤ 1048576 := ⟨hl, h0, h1, hn⟩
  rw [pickV, dif_pos h]
  exact (ex_pick' l pos n h).choose_spec.1
theorem pick_rng (l : List Int) (pos n : Int) : 0 ≤ pickV l pos n ∧ (pickV l pos n < n ∨ pickV l pos n = 0) := by
  unfold pickV
  split
  · rename_i h; exact (ex_pick' l pos n h).choose_spec.2
  · exact ⟨Int.le_refl _, .inr rfl⟩
end Go.K

end

section
set_option linter.unusedVariables false
set_option linter.unusedSimpArgs false
set_option maxHeartbeats 4000000
set_option maxRecDepth 20000
open Go Go.Tm Go.Proofs
namespace Go.K
structure Message where
  kind : Int
  frm : Int
  to : Int
  epoch : Int
  lease : Int
  task : Int
  text : ByteArray
  inputs : List ByteArray
  deriving DecidableEq
abbrev messageR (x : Message) : V := .agg [.t (.i x.kind), .t (.i x.frm), .t (.i x.to), .t (.i x.epoch), .t (.i x.lease), .t (.i x.task), .t (.s x.text), .t (.slc [false] (x.inputs.map strT))]
abbrev messageO (x : Message) : V := .agg [.t (.i x.kind), .t (.i x.frm), .t (.i x.to), .t (.i x.epoch), .t (.i x.lease), .t (.i x.task), .t (.s x.text), .own [false] (x.inputs.map strT)]
abbrev noMessage : Message := ⟨0, 0, 0, 0, 0, 0, emp, []⟩
def sumT (s : ByteArray) : ByteArray := bl (beL (fnvA h0v s) 8)
theorem sumT_size (s : ByteArray) : (sumT s).size = 8 := by unfold sumT; rw [bl_size, beL_len]
def nul : ByteArray := ⟨#[0]⟩
def sealT (body key : ByteArray) : ByteArray := sumT (key ++ nul ++ body)
theorem sealT_eq (body key : ByteArray) : bl (beL (fnvA (fnvA (fnvA h0v key) nul) body) 8) = sealT body key := by unfold sealT sumT; rw [fnvA_app, fnvA_app]
theorem fnvA_bd2 (v : Int) (s : ByteArray) (h : 0 ≤ v ∧ v ≤ 18446744073709551615) : 0 ≤ fnvA v s ∧ fnvA v s ≤ 18446744073709551615 := fold_bd _ _ h
theorem c_impl_seal (body key : ByteArray) (h1 : body.size ≤ 9223372036854775807) (h2 : key.size ≤ 9223372036854775807) : F n_impl_seal [.val (.s body), .val (.s key)] (.s (sealT body key)) [[], []] := by
  have hb := fnvA_bd2 (fnvA (fnvA h0v key) nul) body (fnvA_bd2 _ _ (fnvA_bd key))
  have e1 := fnvs_all h0v key
  have e2 := fnvs_all (fnvA h0v key) nul
  have e3 := fnvs_all (fnvA (fnvA h0v key) nul) body
  have c1 := c_impl_hash_bytes h0v key h2
  rw [e1] at c1
  have c2 := c_impl_hash_bytes (fnvA h0v key) nul (by decide)
  rw [e2] at c2
  have c3 := c_impl_hash_bytes (fnvA (fnvA h0v key) nul) body h1
  rw [e3] at c3
  have c4 := c_impl_hash_text (fnvA (fnvA (fnvA h0v key) nul) body) hb.1 hb.2
  rw [sealT_eq] at c4
  refine i_impl_seal ?_
  conv => whnf
  refine g 0 0 [] ?_
  conv => whnf
  refine ⟨⟨I, I⟩, ?_⟩
  refine g 0 0 [] ?_
  conv => whnf
  refine ⟨⟨I, ⟨I, I⟩, I⟩, ?_⟩
  refine g 6 8 [.call (V.tup []) ([[u8v (fnvA h0v key)], []])] ?_
  conv => whnf
  refine ⟨⟨I, ⟨⟨I, I, I⟩, I, ⟨I, ⟨I, I⟩, I⟩, ⟨I, I⟩, (by assumption)⟩, I⟩, ?_⟩
  refine g 1 2 [.call (V.tup []) ([[u8v (fnvA (fnvA h0v key) nul)], []])] ?_
  conv => whnf
  refine ⟨⟨⟨⟨I, I, I⟩, I, ⟨I, ⟨I, I⟩, I⟩, ⟨I, I⟩, (by assumption)⟩, I⟩, ?_⟩
  refine g 0 1 [.call (V.tup []) ([[u8v (fnvA (fnvA (fnvA h0v key) nul) body)], []])] ?_
  conv => whnf
  refine ⟨⟨I, ⟨⟨I, I, I⟩, I, ⟨I, ⟨I, I⟩, I⟩, ⟨I, I⟩, (by assumption)⟩, I⟩, ?_⟩
  refine g 10 13 [.call (V.s (sealT body key)) ([[]])] ?_
  conv => whnf
  refine ⟨⟨I, ⟨⟨I, I⟩, I, ⟨⟨I, I⟩, I⟩, ⟨I, I⟩, (by assumption)⟩, I, I⟩, ?_⟩
  refine W.ret ?_
  refine EndsW.rt ?_
  conv => whnf
  refine ⟨⟨I, I, I⟩, ?_, rfl⟩
  rfl
def msgOk (m : Message) : Prop := (1 ≤ m.epoch ∧ m.epoch ≤ 300) ∧
  ((m.kind = 1 ∧ m.frm = 0 ∧ (1 ≤ m.to ∧ m.to ≤ 8) ∧ (1 ≤ m.lease ∧ m.lease ≤ 300000000) ∧ (0 ≤ m.task ∧ m.task ≤ 39) ∧ m.text = emp ∧ eights m.inputs) ∨
   (m.kind = 2 ∧ m.to = 0 ∧ (1 ≤ m.frm ∧ m.frm ≤ 8) ∧ (1 ≤ m.lease ∧ m.lease ≤ 300000000) ∧ m.task = 0 ∧ m.text = emp ∧ (m.inputs.length : Int) = 0) ∨
   (m.kind = 3 ∧ m.to = 0 ∧ (1 ≤ m.frm ∧ m.frm ≤ 8) ∧ (1 ≤ m.lease ∧ m.lease ≤ 300000000) ∧ (0 ≤ m.task ∧ m.task ≤ 39) ∧ (m.text.size : Int) = 8 ∧ (m.inputs.length : Int) = 0) ∨
   (m.kind = 4 ∧ m.frm = 0 ∧ (1 ≤ m.to ∧ m.to ≤ 8) ∧ (1 ≤ m.lease ∧ m.lease ≤ 300000000) ∧ m.task = 0 ∧ m.text = emp ∧ (m.inputs.length : Int) = 0) ∨
   (m.kind = 5 ∧ m.to = 0 ∧ (1 ≤ m.frm ∧ m.frm ≤ 8) ∧ m.lease = 0 ∧ m.task = 0 ∧ m.text = emp ∧ (m.inputs.length : Int) = 0))
instance (m : Message) : Decidable (msgOk m) := by unfold msgOk; infer_instance
theorem c_impl_Message_valid (m : Message) (hl : m.inputs.length ≤ 9223372036854775806) : F n_impl_Message_valid [.val (messageR m)] (.b (decide (msgOk m))) [[]] := by
  refine i_impl_Message_valid ?_
  conv => whnf
  refine g 0 1 [] ?_
  conv => whnf
  refine ⟨⟨⟨I, I, I, I, I, I, I, I, I⟩, I, I⟩, ?_⟩
  refine g 0 0 [] ?_
  conv => whnf
  refine ⟨⟨I, I, I, I, I, I⟩, ?_⟩
  refine W.sq ?_
  refine g 0 0 [] ?_
  conv => whnf
  refine ⟨⟨I, I, I⟩, ?_⟩
  refine W.blk ?_
  refine g 13 14 [] ?_
  conv => whnf
  refine ⟨⟨I, I, I⟩, ?_⟩
  refine W.cn ?_
  conv => whnf
  refine ⟨fun h1 => ?_, fun h1 => ?_⟩
  replace h1 := dt h1
  refine rg [] ?_
  conv => whnf
  refine ⟨⟨I, I, I, I, I⟩, ?_⟩
  refine gd 11 26 [[], [], [], [], [], []] ?_
  conv => whnf
  refine ⟨⟨I, I, I, I, I, I, I⟩, by kernel_rfl, ?_⟩
  refine W.sq ?_
  refine g 0 0 [] ?_
  conv => whnf
  refine ⟨⟨I, I⟩, ?_⟩
  refine W.cn ?_
  conv => whnf
  refine ⟨fun _ => ?_, noF (rfl)⟩
  refine rgd [[], [], [], [], [], []] ?_
  conv => whnf
  refine ⟨⟨I, I, I, I, I, I, I⟩, by kernel_rfl, ?_⟩
  refine W.sq ?_
  by_cases h2 : Message.frm m = (0 : Int)
  by_cases h3 : (1 : Int) ≤ Message.to m ∧ Message.to m ≤ (8 : Int)
  refine g 26 43 [.b (false), .b (false), .call (V.b (decide ((1 : Int) ≤ Message.to m ∧ Message.to m ≤ (8 : Int)))) ([[], [], []]), .b (false), .b (false), .b (false), .b (false), .b (false), .call (V.b (decide ((1 : Int) ≤ Message.epoch m ∧ Message.epoch m ≤ (300 : Int)))) ([[], [], []]), .b (false), .b (false)] ?_
  conv => whnf
  refine ⟨⟨I, I, I, ⟨notF (by omega), I⟩, ⟨notF (by omega), ⟨I, I, I, I⟩, I, ⟨⟨I, I⟩, ⟨I, I⟩, ⟨I, I⟩, I⟩, ⟨I, I⟩, Go.K.c_impl_within _ _ _⟩, ⟨notF (by omega), I⟩, notF (by omega), I, ⟨notF (by omega), I⟩, ⟨notF (by omega), I⟩, ⟨notF (by omega), ⟨I, I, I, I⟩, I, ⟨⟨I, I⟩, ⟨I, I⟩, ⟨I, I⟩, I⟩, ⟨I, I⟩, Go.K.c_impl_within _ _ _⟩, ⟨notF (by omega), I⟩, notF (by omega), I⟩, ?_⟩
  refine W.cn ?_
  conv => whnf
  refine ⟨fun h4 => ?_, fun h4 => ?_⟩
  replace h4 := ndt h4
  refine g 8 9 [] ?_
  conv => whnf
  refine ⟨⟨I, I⟩, ?_⟩
  refine W.ret ?_
  refine EndsW.rt ?_
  conv => whnf
  refine ⟨⟨I, I, I⟩, ?_, rfl⟩
  rotate_left 1
  replace h4 := ndf h4
  refine W.skip ?_
  refine W.sq ?_
  by_cases h5 : (1 : Int) ≤ Message.lease m ∧ Message.lease m ≤ (300000000 : Int)
  refine g 43 59 [.b (true), .b (true), .b (true), .call (V.b (decide ((1 : Int) ≤ Message.lease m ∧ Message.lease m ≤ (300000000 : Int)))) ([[], [], []]), .b (true), .b (true), .b (false), .b (false), .b (false), .b (false), .b (false), .b (false), .b (false), .b (false), .b (false)] ?_
  conv => whnf
  refine ⟨⟨I, I, ⟨rfl, I⟩, ⟨rfl, I⟩, ⟨rfl, ⟨I, I, I, I⟩, I, ⟨⟨I, I⟩, ⟨I, I⟩, ⟨I, I⟩, I⟩, ⟨I, I⟩, Go.K.c_impl_within _ _ _⟩, ⟨rfl, I⟩, rfl, I, ⟨notF (by omega), I⟩, ⟨notF (by omega), I⟩, ⟨notF (by omega), I⟩, rfl, rfl, rfl, ⟨notF (by omega), rfl⟩, notF (by omega), I⟩, ?_⟩
  refine W.cn ?_
  conv => whnf
  refine ⟨noT (rfl), fun _ => ?_⟩
  refine W.skip ?_
  refine W.sq ?_
  by_cases h6 : (0 : Int) ≤ Message.task m ∧ Message.task m ≤ (39 : Int)
  refine g 59 75 [.b (true), .b (true), .b (true), .call (V.b (decide ((0 : Int) ≤ Message.task m ∧ Message.task m ≤ (39 : Int)))) ([[], [], []]), .b (true), .b (true), .b (false), .b (false), .b (false), .b (false), .b (false), .b (false), .b (false), .b (false), .b (false)] ?_
  conv => whnf
  refine ⟨⟨I, I, ⟨rfl, I⟩, ⟨rfl, I⟩, ⟨rfl, ⟨I, I, I, I⟩, I, ⟨⟨I, I⟩, ⟨I, I⟩, ⟨I, I⟩, I⟩, ⟨I, I⟩, Go.K.c_impl_within _ _ _⟩, ⟨rfl, I⟩, rfl, I, ⟨notF (by omega), I⟩, ⟨notF (by omega), I⟩, ⟨notF (by omega), I⟩, rfl, rfl, rfl, ⟨notF (by omega), rfl⟩, notF (by omega), I⟩, ?_⟩
  refine W.cn ?_
  conv => whnf
  refine ⟨noT (rfl), fun _ => ?_⟩
  refine W.skip ?_
  refine W.sq ?_
  refine g 10 91 [.b (false), .b (false), .b (false), .b (false), .b (false), .b (false), .b (false), .b (false), .b (true), .b (true), .b (true), .b (false), .b (true), .b (false)] ?_
  conv => whnf
  refine ⟨⟨I, I, rfl, rfl, rfl, rfl, rfl, I, ⟨rfl, I⟩, ⟨rfl, I⟩, ⟨rfl, I⟩, ⟨rfl, I⟩, ⟨rfl, I⟩, ⟨rfl, I⟩, ⟨rfl, rfl⟩, rfl, I⟩, ?_⟩
  refine W.cn ?_
  conv => whnf
  refine ⟨fun h7 => ?_, fun h7 => ?_⟩
  replace h7 := ndt h7
  refine g 7 9 [] ?_
  conv => whnf
  refine ⟨⟨I, I⟩, ?_⟩
  refine W.ret ?_
  refine EndsW.rt ?_
  conv => whnf
  refine ⟨⟨I, I, I⟩, ?_, rfl⟩
  rotate_left 1
  replace h7 := ndf h7
  refine W.skip ?_
  by_cases h8 : eights (Message.inputs m)
  refine g 5 108 [.b (true), .b (true), .b (true), .call (V.b (decide (eights (Message.inputs m)))) ([[]]), .b (true), .b (true), .b (true), .b (true), .b (false), .b (false), .b (false), .b (false), .b (true), .b (true)] ?_
  conv => whnf
  refine ⟨⟨I, I, ⟨rfl, I⟩, ⟨rfl, I⟩, ⟨rfl, ⟨I, I⟩, I, ⟨⟨I, I⟩, I⟩, ⟨I, I⟩, Go.K.c_impl_eights _ (by omega)⟩, rfl, I, decide_eq_true (by omega), decide_eq_true (by omega), decide_eq_true (by omega), I, I, I, I, decide_eq_true (by omega), decide_eq_true (by omega), I, I⟩, ?_⟩
  refine W.ret ?_
  refine EndsW.rt ?_
  conv => whnf
  refine ⟨⟨I, I, I⟩, ?_, rfl⟩
  rotate_left 1
  refine g 5 108 [.b (true), .b (true), .b (true), .call (V.b (decide (eights (Message.inputs m)))) ([[]]), .b (true), .b (false), .b (false), .b (false), .b (false), .b (false), .b (false), .b (false), .b (false), .b (false), .b (false)] ?_
  conv => whnf
  refine ⟨⟨I, I, ⟨rfl, I⟩, ⟨rfl, I⟩, ⟨rfl, ⟨I, I⟩, I, ⟨⟨I, I⟩, I⟩, ⟨I, I⟩, Go.K.c_impl_eights _ (by omega)⟩, rfl, I, ⟨decide_eq_false (by omega), I⟩, ⟨decide_eq_false (by omega), I⟩, ⟨decide_eq_false (by omega), I⟩, rfl, rfl, rfl, rfl, ⟨decide_eq_false (by omega), rfl⟩, decide_eq_false (by omega), I, I⟩, ?_⟩
  refine W.ret ?_
  refine EndsW.rt ?_
  conv => whnf
  refine ⟨⟨I, I, I⟩, ?_, rfl⟩
  rotate_left 1
  refine g 59 75 [.b (true), .b (true), .b (true), .call (V.b (decide ((0 : Int) ≤ Message.task m ∧ Message.task m ≤ (39 : Int)))) ([[], [], []]), .b (true), .b (true), .b (true), .b (true), .b (true), .b (false), .b (false), .b (false), .b (true), .b (true)] ?_
  conv => whnf
  refine ⟨⟨I, I, ⟨rfl, I⟩, ⟨rfl, I⟩, ⟨rfl, ⟨I, I, I, I⟩, I, ⟨⟨I, I⟩, ⟨I, I⟩, ⟨I, I⟩, I⟩, ⟨I, I⟩, Go.K.c_impl_within _ _ _⟩, ⟨rfl, I⟩, rfl, I, notT (by omega), notT (by omega), notT (by omega), I, I, I, notT (by omega), notT (by omega), I⟩, ?_⟩
  refine W.cn ?_
  conv => whnf
  refine ⟨fun _ => ?_, noF (rfl)⟩
  refine g 3 4 [] ?_
  conv => whnf
  refine ⟨⟨I, I⟩, ?_⟩
  refine W.ret ?_
  refine EndsW.rt ?_
  conv => whnf
  refine ⟨⟨I, I, I⟩, ?_, rfl⟩
  rotate_left 1
  refine g 43 59 [.b (true), .b (true), .b (true), .call (V.b (decide ((1 : Int) ≤ Message.lease m ∧ Message.lease m ≤ (300000000 : Int)))) ([[], [], []]), .b (true), .b (true), .b (true), .b (true), .b (true), .b (false), .b (false), .b (false), .b (true), .b (true)] ?_
  conv => whnf
  refine ⟨⟨I, I, ⟨rfl, I⟩, ⟨rfl, I⟩, ⟨rfl, ⟨I, I, I, I⟩, I, ⟨⟨I, I⟩, ⟨I, I⟩, ⟨I, I⟩, I⟩, ⟨I, I⟩, Go.K.c_impl_within _ _ _⟩, ⟨rfl, I⟩, rfl, I, notT (by omega), notT (by omega), notT (by omega), I, I, I, notT (by omega), notT (by omega), I⟩, ?_⟩
  refine W.cn ?_
  conv => whnf
  refine ⟨fun _ => ?_, noF (rfl)⟩
  refine g 3 4 [] ?_
  conv => whnf
  refine ⟨⟨I, I⟩, ?_⟩
  refine W.ret ?_
  refine EndsW.rt ?_
  conv => whnf
  refine ⟨⟨I, I, I⟩, ?_, rfl⟩
  rotate_left 1
  refine g 26 43 [.b (false), .b (false), .call (V.b (decide ((1 : Int) ≤ Message.to m ∧ Message.to m ≤ (8 : Int)))) ([[], [], []]), .b (false), .b (false), .b (true), .b (true), .b (true), .b (true), .b (true)] ?_
  conv => whnf
  refine ⟨⟨I, I, I, ⟨notF (by omega), I⟩, ⟨notF (by omega), ⟨I, I, I, I⟩, I, ⟨⟨I, I⟩, ⟨I, I⟩, ⟨I, I⟩, I⟩, ⟨I, I⟩, Go.K.c_impl_within _ _ _⟩, ⟨notF (by omega), I⟩, notF (by omega), I, notT (by omega), notT (by omega), notT (by omega), notT (by omega), notT (by omega), I⟩, ?_⟩
  refine W.cn ?_
  conv => whnf
  refine ⟨fun _ => ?_, noF (rfl)⟩
  refine g 8 9 [] ?_
  conv => whnf
  refine ⟨⟨I, I⟩, ?_⟩
  refine W.ret ?_
  refine EndsW.rt ?_
  conv => whnf
  refine ⟨⟨I, I, I⟩, ?_, rfl⟩
  rotate_left 1
  refine g 26 43 [.b (true), .b (true), .b (true), .b (true), .b (true), .b (true), .b (true), .b (true), .b (true)] ?_
  conv => whnf
  refine ⟨⟨I, I, I, notT (by omega), notT (by omega), notT (by omega), notT (by omega), I, rfl, rfl, rfl, rfl, rfl, I⟩, ?_⟩
  refine W.cn ?_
  conv => whnf
  refine ⟨fun _ => ?_, noF (rfl)⟩
  refine g 8 9 [] ?_
  conv => whnf
  refine ⟨⟨I, I⟩, ?_⟩
  refine W.ret ?_
  refine EndsW.rt ?_
  conv => whnf
  refine ⟨⟨I, I, I⟩, ?_, rfl⟩
  rotate_left 1
  replace h1 := df h1
  refine g 12 13 [] ?_
  conv => whnf
  refine ⟨⟨I, I, I⟩, ?_⟩
  refine W.cn ?_
  conv => whnf
  refine ⟨fun h2 => ?_, fun h2 => ?_⟩
  replace h2 := dt h2
  refine rg [] ?_
  conv => whnf
  refine ⟨⟨I, I⟩, ?_⟩
  refine gd 11 26 [[], [], [], [], [], []] ?_
  conv => whnf
  refine ⟨⟨I, I, I, I, I, I, I⟩, by kernel_rfl, ?_⟩
  refine W.sq ?_
  refine g 0 0 [] ?_
  conv => whnf
  refine ⟨⟨I, I⟩, ?_⟩
  refine W.cn ?_
  conv => whnf
  refine ⟨noT (rfl), fun _ => ?_⟩
  refine W.skip ?_
  refine W.sq ?_
  by_cases h3 : Message.to m = (0 : Int)
  by_cases h4 : (1 : Int) ≤ Message.frm m ∧ Message.frm m ≤ (8 : Int)
  refine g 26 43 [.b (false), .b (false), .call (V.b (decide ((1 : Int) ≤ Message.frm m ∧ Message.frm m ≤ (8 : Int)))) ([[], [], []]), .b (false), .b (false), .b (false), .b (false), .b (false), .call (V.b (decide ((1 : Int) ≤ Message.epoch m ∧ Message.epoch m ≤ (300 : Int)))) ([[], [], []]), .b (false), .b (false)] ?_
  conv => whnf
  refine ⟨⟨I, I, I, ⟨notF (by omega), I⟩, ⟨notF (by omega), ⟨I, I, I, I⟩, I, ⟨⟨I, I⟩, ⟨I, I⟩, ⟨I, I⟩, I⟩, ⟨I, I⟩, Go.K.c_impl_within _ _ _⟩, ⟨notF (by omega), I⟩, notF (by omega), I, ⟨notF (by omega), I⟩, ⟨notF (by omega), I⟩, ⟨notF (by omega), ⟨I, I, I, I⟩, I, ⟨⟨I, I⟩, ⟨I, I⟩, ⟨I, I⟩, I⟩, ⟨I, I⟩, Go.K.c_impl_within _ _ _⟩, ⟨notF (by omega), I⟩, notF (by omega), I⟩, ?_⟩
  refine W.cn ?_
  conv => whnf
  refine ⟨fun h5 => ?_, fun h5 => ?_⟩
  replace h5 := ndt h5
  refine g 8 9 [] ?_
  conv => whnf
  refine ⟨⟨I, I⟩, ?_⟩
  refine W.ret ?_
  refine EndsW.rt ?_
  conv => whnf
  refine ⟨⟨I, I, I⟩, ?_, rfl⟩
  rotate_left 1
  replace h5 := ndf h5
  refine W.skip ?_
  refine W.sq ?_
  by_cases h6 : (1 : Int) ≤ Message.lease m ∧ Message.lease m ≤ (300000000 : Int)
  refine g 43 59 [.b (true), .b (true), .b (true), .call (V.b (decide ((1 : Int) ≤ Message.lease m ∧ Message.lease m ≤ (300000000 : Int)))) ([[], [], []]), .b (true), .b (true), .b (false), .b (false), .b (false), .b (false), .b (false), .b (false), .b (false), .b (false), .b (false)] ?_
  conv => whnf
  refine ⟨⟨I, I, ⟨rfl, I⟩, ⟨rfl, I⟩, ⟨rfl, ⟨I, I, I, I⟩, I, ⟨⟨I, I⟩, ⟨I, I⟩, ⟨I, I⟩, I⟩, ⟨I, I⟩, Go.K.c_impl_within _ _ _⟩, ⟨rfl, I⟩, rfl, I, ⟨notF (by omega), I⟩, ⟨notF (by omega), I⟩, ⟨notF (by omega), I⟩, rfl, rfl, rfl, ⟨notF (by omega), rfl⟩, notF (by omega), I⟩, ?_⟩
  refine W.cn ?_
  conv => whnf
  refine ⟨noT (rfl), fun _ => ?_⟩
  refine W.skip ?_
  refine W.sq ?_
  refine g 59 75 [.b (false), .b (false), .b (false), .b (false), .b (false), .b (false), .b (false), .b (false), .b (true), .b (true), .b (true), .b (false), .b (true), .b (false)] ?_
  conv => whnf
  refine ⟨⟨I, I, rfl, rfl, rfl, rfl, rfl, I, ⟨rfl, I⟩, ⟨rfl, I⟩, ⟨rfl, I⟩, ⟨rfl, I⟩, ⟨rfl, I⟩, ⟨rfl, I⟩, ⟨rfl, rfl⟩, rfl, I⟩, ?_⟩
  refine W.cn ?_
  conv => whnf
  refine ⟨fun h7 => ?_, fun h7 => ?_⟩
  replace h7 := ndt h7
  refine g 3 4 [] ?_
  conv => whnf
  refine ⟨⟨I, I⟩, ?_⟩
  refine W.ret ?_
  refine EndsW.rt ?_
  conv => whnf
  refine ⟨⟨I, I, I⟩, ?_, rfl⟩
  rotate_left 1
  replace h7 := ndf h7
  refine W.skip ?_
  refine W.sq ?_
  refine g 10 91 [.b (false), .b (false), .b (false), .b (false), .b (false), .b (false), .b (false), .b (false), .b (true), .b (true), .b (true), .b (false), .b (true), .b (false)] ?_
  conv => whnf
  refine ⟨⟨I, I, rfl, rfl, rfl, rfl, rfl, I, ⟨rfl, I⟩, ⟨rfl, I⟩, ⟨rfl, I⟩, ⟨rfl, I⟩, ⟨rfl, I⟩, ⟨rfl, I⟩, ⟨rfl, rfl⟩, rfl, I⟩, ?_⟩
  refine W.cn ?_
  conv => whnf
  refine ⟨fun h8 => ?_, fun h8 => ?_⟩
  replace h8 := ndt h8
  refine g 7 9 [] ?_
  conv => whnf
  refine ⟨⟨I, I⟩, ?_⟩
  refine W.ret ?_
  refine EndsW.rt ?_
  conv => whnf
  refine ⟨⟨I, I, I⟩, ?_, rfl⟩
  rotate_left 1
  replace h8 := ndf h8
  refine W.skip ?_
  refine g 5 108 [.b (false), .b (false), .b (false), .b (false), .b (false), .b (false), .b (false), .b (true), .b (true), .b (true), .b (true), .b (false), .b (true), .b (false)] ?_
  conv => whnf
  refine ⟨⟨I, I, rfl, rfl, rfl, rfl, I, ⟨rfl, I⟩, ⟨rfl, I⟩, ⟨rfl, I⟩, ⟨rfl, I⟩, ⟨rfl, I⟩, ⟨rfl, I⟩, ⟨rfl, I⟩, ⟨rfl, rfl⟩, rfl, I, I⟩, ?_⟩
  refine W.ret ?_
  refine EndsW.rt ?_
  conv => whnf
  refine ⟨⟨I, I, I⟩, ?_, rfl⟩
  rotate_left 1
  refine g 43 59 [.b (true), .b (true), .b (true), .call (V.b (decide ((1 : Int) ≤ Message.lease m ∧ Message.lease m ≤ (300000000 : Int)))) ([[], [], []]), .b (true), .b (true), .b (true), .b (true), .b (true), .b (false), .b (false), .b (false), .b (true), .b (true)] ?_
  conv => whnf
  refine ⟨⟨I, I, ⟨rfl, I⟩, ⟨rfl, I⟩, ⟨rfl, ⟨I, I, I, I⟩, I, ⟨⟨I, I⟩, ⟨I, I⟩, ⟨I, I⟩, I⟩, ⟨I, I⟩, Go.K.c_impl_within _ _ _⟩, ⟨rfl, I⟩, rfl, I, notT (by omega), notT (by omega), notT (by omega), I, I, I, notT (by omega), notT (by omega), I⟩, ?_⟩
  refine W.cn ?_
  conv => whnf
  refine ⟨fun _ => ?_, noF (rfl)⟩
  refine g 3 4 [] ?_
  conv => whnf
  refine ⟨⟨I, I⟩, ?_⟩
  refine W.ret ?_
  refine EndsW.rt ?_
  conv => whnf
  refine ⟨⟨I, I, I⟩, ?_, rfl⟩
  rotate_left 1
  refine g 26 43 [.b (false), .b (false), .call (V.b (decide ((1 : Int) ≤ Message.frm m ∧ Message.frm m ≤ (8 : Int)))) ([[], [], []]), .b (false), .b (false), .b (true), .b (true), .b (true), .b (true), .b (true)] ?_
  conv => whnf
  refine ⟨⟨I, I, I, ⟨notF (by omega), I⟩, ⟨notF (by omega), ⟨I, I, I, I⟩, I, ⟨⟨I, I⟩, ⟨I, I⟩, ⟨I, I⟩, I⟩, ⟨I, I⟩, Go.K.c_impl_within _ _ _⟩, ⟨notF (by omega), I⟩, notF (by omega), I, notT (by omega), notT (by omega), notT (by omega), notT (by omega), notT (by omega), I⟩, ?_⟩
  refine W.cn ?_
  conv => whnf
  refine ⟨fun _ => ?_, noF (rfl)⟩
  refine g 8 9 [] ?_
  conv => whnf
  refine ⟨⟨I, I⟩, ?_⟩
  refine W.ret ?_
  refine EndsW.rt ?_
  conv => whnf
  refine ⟨⟨I, I, I⟩, ?_, rfl⟩
  rotate_left 1
  refine g 26 43 [.b (true), .b (true), .b (true), .b (true), .b (true), .b (true), .b (true), .b (true), .b (true)] ?_
  conv => whnf
  refine ⟨⟨I, I, I, notT (by omega), notT (by omega), notT (by omega), notT (by omega), I, rfl, rfl, rfl, rfl, rfl, I⟩, ?_⟩
  refine W.cn ?_
  conv => whnf
  refine ⟨fun _ => ?_, noF (rfl)⟩
  refine g 8 9 [] ?_
  conv => whnf
  refine ⟨⟨I, I⟩, ?_⟩
  refine W.ret ?_
  refine EndsW.rt ?_
  conv => whnf
  refine ⟨⟨I, I, I⟩, ?_, rfl⟩
  rotate_left 1
  replace h2 := df h2
  refine g 14 16 [] ?_
  conv => whnf
  refine ⟨⟨I, I, I⟩, ?_⟩
  refine W.cn ?_
  conv => whnf
  refine ⟨fun h3 => ?_, fun h3 => ?_⟩
  replace h3 := dt h3
  refine rg [] ?_
  conv => whnf
  refine ⟨⟨I, I, I, I⟩, ?_⟩
  refine gd 11 26 [[], [], [], [], [], []] ?_
  conv => whnf
  refine ⟨⟨I, I, I, I, I, I, I⟩, by kernel_rfl, ?_⟩
  refine W.sq ?_
  refine g 0 0 [] ?_
  conv => whnf
  refine ⟨⟨I, I⟩, ?_⟩
  refine W.cn ?_
  conv => whnf
  refine ⟨noT (rfl), fun _ => ?_⟩
  refine W.skip ?_
  refine W.sq ?_
  by_cases h4 : Message.to m = (0 : Int)
  by_cases h5 : (1 : Int) ≤ Message.frm m ∧ Message.frm m ≤ (8 : Int)
  refine g 26 43 [.b (false), .b (false), .call (V.b (decide ((1 : Int) ≤ Message.frm m ∧ Message.frm m ≤ (8 : Int)))) ([[], [], []]), .b (false), .b (false), .b (false), .b (false), .b (false), .call (V.b (decide ((1 : Int) ≤ Message.epoch m ∧ Message.epoch m ≤ (300 : Int)))) ([[], [], []]), .b (false), .b (false)] ?_
  conv => whnf
  refine ⟨⟨I, I, I, ⟨notF (by omega), I⟩, ⟨notF (by omega), ⟨I, I, I, I⟩, I, ⟨⟨I, I⟩, ⟨I, I⟩, ⟨I, I⟩, I⟩, ⟨I, I⟩, Go.K.c_impl_within _ _ _⟩, ⟨notF (by omega), I⟩, notF (by omega), I, ⟨notF (by omega), I⟩, ⟨notF (by omega), I⟩, ⟨notF (by omega), ⟨I, I, I, I⟩, I, ⟨⟨I, I⟩, ⟨I, I⟩, ⟨I, I⟩, I⟩, ⟨I, I⟩, Go.K.c_impl_within _ _ _⟩, ⟨notF (by omega), I⟩, notF (by omega), I⟩, ?_⟩
  refine W.cn ?_
  conv => whnf
  refine ⟨fun h6 => ?_, fun h6 => ?_⟩
  replace h6 := ndt h6
  refine g 8 9 [] ?_
  conv => whnf
  refine ⟨⟨I, I⟩, ?_⟩
  refine W.ret ?_
  refine EndsW.rt ?_
  conv => whnf
  refine ⟨⟨I, I, I⟩, ?_, rfl⟩
  rotate_left 1
  replace h6 := ndf h6
  refine W.skip ?_
  refine W.sq ?_
  by_cases h7 : (1 : Int) ≤ Message.lease m ∧ Message.lease m ≤ (300000000 : Int)
  refine g 43 59 [.b (true), .b (true), .b (true), .call (V.b (decide ((1 : Int) ≤ Message.lease m ∧ Message.lease m ≤ (300000000 : Int)))) ([[], [], []]), .b (true), .b (true), .b (false), .b (false), .b (false), .b (false), .b (false), .b (false), .b (false), .b (false), .b (false)] ?_
  conv => whnf
  refine ⟨⟨I, I, ⟨rfl, I⟩, ⟨rfl, I⟩, ⟨rfl, ⟨I, I, I, I⟩, I, ⟨⟨I, I⟩, ⟨I, I⟩, ⟨I, I⟩, I⟩, ⟨I, I⟩, Go.K.c_impl_within _ _ _⟩, ⟨rfl, I⟩, rfl, I, ⟨notF (by omega), I⟩, ⟨notF (by omega), I⟩, ⟨notF (by omega), I⟩, rfl, rfl, rfl, ⟨notF (by omega), rfl⟩, notF (by omega), I⟩, ?_⟩
  refine W.cn ?_
  conv => whnf
  refine ⟨noT (rfl), fun _ => ?_⟩
  refine W.skip ?_
  refine W.sq ?_
  by_cases h8 : (0 : Int) ≤ Message.task m ∧ Message.task m ≤ (39 : Int)
  refine g 59 75 [.b (true), .b (true), .b (true), .call (V.b (decide ((0 : Int) ≤ Message.task m ∧ Message.task m ≤ (39 : Int)))) ([[], [], []]), .b (true), .b (true), .b (false), .b (false), .b (false), .b (false), .b (false), .b (false), .b (false), .b (false), .b (false)] ?_
  conv => whnf
  refine ⟨⟨I, I, ⟨rfl, I⟩, ⟨rfl, I⟩, ⟨rfl, ⟨I, I, I, I⟩, I, ⟨⟨I, I⟩, ⟨I, I⟩, ⟨I, I⟩, I⟩, ⟨I, I⟩, Go.K.c_impl_within _ _ _⟩, ⟨rfl, I⟩, rfl, I, ⟨notF (by omega), I⟩, ⟨notF (by omega), I⟩, ⟨notF (by omega), I⟩, rfl, rfl, rfl, ⟨notF (by omega), rfl⟩, notF (by omega), I⟩, ?_⟩
  refine W.cn ?_
  conv => whnf
  refine ⟨noT (rfl), fun _ => ?_⟩
  refine W.skip ?_
  refine W.sq ?_
  by_cases h9 : (↑(ByteArray.size (Message.text m)) : Int) = (8 : Int)
  refine g 10 91 [.b (true), .b (true), .b (true), .b (true), .b (true), .b (false), .b (false), .b (false), .b (false), .b (false), .b (false), .b (false), .b (false), .b (false)] ?_
  conv => whnf
  refine ⟨⟨I, I, ⟨rfl, I⟩, ⟨rfl, I⟩, ⟨rfl, I⟩, ⟨rfl, I⟩, rfl, I, ⟨notF (by omega), I⟩, ⟨notF (by omega), I⟩, ⟨notF (by omega), I⟩, rfl, rfl, rfl, ⟨notF (by omega), rfl⟩, notF (by omega), I⟩, ?_⟩
  refine W.cn ?_
  conv => whnf
  refine ⟨noT (rfl), fun _ => ?_⟩
  refine W.skip ?_
  refine g 5 108 [.b (false), .b (false), .b (false), .b (false), .b (false), .b (false), .b (false), .b (true), .b (true), .b (true), .b (true), .b (false), .b (true), .b (false)] ?_
  conv => whnf
  refine ⟨⟨I, I, rfl, rfl, rfl, rfl, I, ⟨rfl, I⟩, ⟨rfl, I⟩, ⟨rfl, I⟩, ⟨rfl, I⟩, ⟨rfl, I⟩, ⟨rfl, I⟩, ⟨rfl, I⟩, ⟨rfl, rfl⟩, rfl, I, I⟩, ?_⟩
  refine W.ret ?_
  refine EndsW.rt ?_
  conv => whnf
  refine ⟨⟨I, I, I⟩, ?_, rfl⟩
  rotate_left 1
  refine g 10 91 [.b (true), .b (true), .b (true), .b (true), .b (true), .b (true), .b (true), .b (true), .b (false), .b (false), .b (false), .b (true), .b (true)] ?_
  conv => whnf
  refine ⟨⟨I, I, ⟨rfl, I⟩, ⟨rfl, I⟩, ⟨rfl, I⟩, ⟨rfl, I⟩, rfl, I, notT (by omega), notT (by omega), notT (by omega), I, I, I, notT (by omega), notT (by omega), I⟩, ?_⟩
  refine W.cn ?_
  conv => whnf
  refine ⟨fun _ => ?_, noF (rfl)⟩
  refine g 7 9 [] ?_
  conv => whnf
  refine ⟨⟨I, I⟩, ?_⟩
  refine W.ret ?_
  refine EndsW.rt ?_
  conv => whnf
  refine ⟨⟨I, I, I⟩, ?_, rfl⟩
  rotate_left 1
  refine g 59 75 [.b (true), .b (true), .b (true), .call (V.b (decide ((0 : Int) ≤ Message.task m ∧ Message.task m ≤ (39 : Int)))) ([[], [], []]), .b (true), .b (true), .b (true), .b (true), .b (true), .b (false), .b (false), .b (false), .b (true), .b (true)] ?_
  conv => whnf
  refine ⟨⟨I, I, ⟨rfl, I⟩, ⟨rfl, I⟩, ⟨rfl, ⟨I, I, I, I⟩, I, ⟨⟨I, I⟩, ⟨I, I⟩, ⟨I, I⟩, I⟩, ⟨I, I⟩, Go.K.c_impl_within _ _ _⟩, ⟨rfl, I⟩, rfl, I, notT (by omega), notT (by omega), notT (by omega), I, I, I, notT (by omega), notT (by omega), I⟩, ?_⟩
  refine W.cn ?_
  conv => whnf
  refine ⟨fun _ => ?_, noF (rfl)⟩
  refine g 3 4 [] ?_
  conv => whnf
  refine ⟨⟨I, I⟩, ?_⟩
  refine W.ret ?_
  refine EndsW.rt ?_
  conv => whnf
  refine ⟨⟨I, I, I⟩, ?_, rfl⟩
  rotate_left 1
  refine g 43 59 [.b (true), .b (true), .b (true), .call (V.b (decide ((1 : Int) ≤ Message.lease m ∧ Message.lease m ≤ (300000000 : Int)))) ([[], [], []]), .b (true), .b (true), .b (true), .b (true), .b (true), .b (false), .b (false), .b (false), .b (true), .b (true)] ?_
  conv => whnf
  refine ⟨⟨I, I, ⟨rfl, I⟩, ⟨rfl, I⟩, ⟨rfl, ⟨I, I, I, I⟩, I, ⟨⟨I, I⟩, ⟨I, I⟩, ⟨I, I⟩, I⟩, ⟨I, I⟩, Go.K.c_impl_within _ _ _⟩, ⟨rfl, I⟩, rfl, I, notT (by omega), notT (by omega), notT (by omega), I, I, I, notT (by omega), notT (by omega), I⟩, ?_⟩
  refine W.cn ?_
  conv => whnf
  refine ⟨fun _ => ?_, noF (rfl)⟩
  refine g 3 4 [] ?_
  conv => whnf
  refine ⟨⟨I, I⟩, ?_⟩
  refine W.ret ?_
  refine EndsW.rt ?_
  conv => whnf
  refine ⟨⟨I, I, I⟩, ?_, rfl⟩
  rotate_left 1
  refine g 26 43 [.b (false), .b (false), .call (V.b (decide ((1 : Int) ≤ Message.frm m ∧ Message.frm m ≤ (8 : Int)))) ([[], [], []]), .b (false), .b (false), .b (true), .b (true), .b (true), .b (true), .b (true)] ?_
  conv => whnf
  refine ⟨⟨I, I, I, ⟨notF (by omega), I⟩, ⟨notF (by omega), ⟨I, I, I, I⟩, I, ⟨⟨I, I⟩, ⟨I, I⟩, ⟨I, I⟩, I⟩, ⟨I, I⟩, Go.K.c_impl_within _ _ _⟩, ⟨notF (by omega), I⟩, notF (by omega), I, notT (by omega), notT (by omega), notT (by omega), notT (by omega), notT (by omega), I⟩, ?_⟩
  refine W.cn ?_
  conv => whnf
  refine ⟨fun _ => ?_, noF (rfl)⟩
  refine g 8 9 [] ?_
  conv => whnf
  refine ⟨⟨I, I⟩, ?_⟩
  refine W.ret ?_
  refine EndsW.rt ?_
  conv => whnf
  refine ⟨⟨I, I, I⟩, ?_, rfl⟩
  rotate_left 1
  refine g 26 43 [.b (true), .b (true), .b (true), .b (true), .b (true), .b (true), .b (true), .b (true), .b (true)] ?_
  conv => whnf
  refine ⟨⟨I, I, I, notT (by omega), notT (by omega), notT (by omega), notT (by omega), I, rfl, rfl, rfl, rfl, rfl, I⟩, ?_⟩
  refine W.cn ?_
  conv => whnf
  refine ⟨fun _ => ?_, noF (rfl)⟩
  refine g 8 9 [] ?_
  conv => whnf
  refine ⟨⟨I, I⟩, ?_⟩
  refine W.ret ?_
  refine EndsW.rt ?_
  conv => whnf
  refine ⟨⟨I, I, I⟩, ?_, rfl⟩
  rotate_left 1
  replace h3 := df h3
  refine g 16 18 [] ?_
  conv => whnf
  refine ⟨⟨I, I, I⟩, ?_⟩
  refine W.cn ?_
  conv => whnf
  refine ⟨fun h4 => ?_, fun h4 => ?_⟩
  replace h4 := dt h4
  refine rg [] ?_
  conv => whnf
  refine ⟨⟨I, I, I⟩, ?_⟩
  refine gd 11 26 [[], [], [], [], [], []] ?_
  conv => whnf
  refine ⟨⟨I, I, I, I, I, I, I⟩, by kernel_rfl, ?_⟩
  refine W.sq ?_
  refine g 0 0 [] ?_
  conv => whnf
  refine ⟨⟨I, I⟩, ?_⟩
  refine W.cn ?_
  conv => whnf
  refine ⟨fun _ => ?_, noF (rfl)⟩
  refine rgd [[], [], [], [], [], []] ?_
  conv => whnf
  refine ⟨⟨I, I, I, I, I, I, I⟩, by kernel_rfl, ?_⟩
  refine W.sq ?_
  by_cases h5 : Message.frm m = (0 : Int)
  by_cases h6 : (1 : Int) ≤ Message.to m ∧ Message.to m ≤ (8 : Int)
  refine g 26 43 [.b (false), .b (false), .call (V.b (decide ((1 : Int) ≤ Message.to m ∧ Message.to m ≤ (8 : Int)))) ([[], [], []]), .b (false), .b (false), .b (false), .b (false), .b (false), .call (V.b (decide ((1 : Int) ≤ Message.epoch m ∧ Message.epoch m ≤ (300 : Int)))) ([[], [], []]), .b (false), .b (false)] ?_
  conv => whnf
  refine ⟨⟨I, I, I, ⟨notF (by omega), I⟩, ⟨notF (by omega), ⟨I, I, I, I⟩, I, ⟨⟨I, I⟩, ⟨I, I⟩, ⟨I, I⟩, I⟩, ⟨I, I⟩, Go.K.c_impl_within _ _ _⟩, ⟨notF (by omega), I⟩, notF (by omega), I, ⟨notF (by omega), I⟩, ⟨notF (by omega), I⟩, ⟨notF (by omega), ⟨I, I, I, I⟩, I, ⟨⟨I, I⟩, ⟨I, I⟩, ⟨I, I⟩, I⟩, ⟨I, I⟩, Go.K.c_impl_within _ _ _⟩, ⟨notF (by omega), I⟩, notF (by omega), I⟩, ?_⟩
  refine W.cn ?_
  conv => whnf
  refine ⟨fun h7 => ?_, fun h7 => ?_⟩
  replace h7 := ndt h7
  refine g 8 9 [] ?_
  conv => whnf
  refine ⟨⟨I, I⟩, ?_⟩
  refine W.ret ?_
  refine EndsW.rt ?_
  conv => whnf
  refine ⟨⟨I, I, I⟩, ?_, rfl⟩
  rotate_left 1
  replace h7 := ndf h7
  refine W.skip ?_
  refine W.sq ?_
  by_cases h8 : (1 : Int) ≤ Message.lease m ∧ Message.lease m ≤ (300000000 : Int)
  refine g 43 59 [.b (true), .b (true), .b (true), .call (V.b (decide ((1 : Int) ≤ Message.lease m ∧ Message.lease m ≤ (300000000 : Int)))) ([[], [], []]), .b (true), .b (true), .b (false), .b (false), .b (false), .b (false), .b (false), .b (false), .b (false), .b (false), .b (false)] ?_
  conv => whnf
  refine ⟨⟨I, I, ⟨rfl, I⟩, ⟨rfl, I⟩, ⟨rfl, ⟨I, I, I, I⟩, I, ⟨⟨I, I⟩, ⟨I, I⟩, ⟨I, I⟩, I⟩, ⟨I, I⟩, Go.K.c_impl_within _ _ _⟩, ⟨rfl, I⟩, rfl, I, ⟨notF (by omega), I⟩, ⟨notF (by omega), I⟩, ⟨notF (by omega), I⟩, rfl, rfl, rfl, ⟨notF (by omega), rfl⟩, notF (by omega), I⟩, ?_⟩
  refine W.cn ?_
  conv => whnf
  refine ⟨noT (rfl), fun _ => ?_⟩
  refine W.skip ?_
  refine W.sq ?_
  refine g 59 75 [.b (false), .b (false), .b (false), .b (false), .b (false), .b (false), .b (false), .b (false), .b (true), .b (true), .b (true), .b (false), .b (true), .b (false)] ?_
  conv => whnf
  refine ⟨⟨I, I, rfl, rfl, rfl, rfl, rfl, I, ⟨rfl, I⟩, ⟨rfl, I⟩, ⟨rfl, I⟩, ⟨rfl, I⟩, ⟨rfl, I⟩, ⟨rfl, I⟩, ⟨rfl, rfl⟩, rfl, I⟩, ?_⟩
  refine W.cn ?_
  conv => whnf
  refine ⟨fun h9 => ?_, fun h9 => ?_⟩
  replace h9 := ndt h9
  refine g 3 4 [] ?_
  conv => whnf
  refine ⟨⟨I, I⟩, ?_⟩
  refine W.ret ?_
  refine EndsW.rt ?_
  conv => whnf
  refine ⟨⟨I, I, I⟩, ?_, rfl⟩
  rotate_left 1
  replace h9 := ndf h9
  refine W.skip ?_
  refine W.sq ?_
  refine g 10 91 [.b (false), .b (false), .b (false), .b (false), .b (false), .b (false), .b (false), .b (false), .b (true), .b (true), .b (true), .b (false), .b (true), .b (false)] ?_
  conv => whnf
  refine ⟨⟨I, I, rfl, rfl, rfl, rfl, rfl, I, ⟨rfl, I⟩, ⟨rfl, I⟩, ⟨rfl, I⟩, ⟨rfl, I⟩, ⟨rfl, I⟩, ⟨rfl, I⟩, ⟨rfl, rfl⟩, rfl, I⟩, ?_⟩
  refine W.cn ?_
  conv => whnf
  refine ⟨fun h10 => ?_, fun h10 => ?_⟩
  replace h10 := ndt h10
  refine g 7 9 [] ?_
  conv => whnf
  refine ⟨⟨I, I⟩, ?_⟩
  refine W.ret ?_
  refine EndsW.rt ?_
  conv => whnf
  refine ⟨⟨I, I, I⟩, ?_, rfl⟩
  rotate_left 1
  replace h10 := ndf h10
  refine W.skip ?_
  refine g 5 108 [.b (false), .b (false), .b (false), .b (false), .b (false), .b (false), .b (false), .b (true), .b (true), .b (true), .b (true), .b (false), .b (true), .b (false)] ?_
  conv => whnf
  refine ⟨⟨I, I, rfl, rfl, rfl, rfl, I, ⟨rfl, I⟩, ⟨rfl, I⟩, ⟨rfl, I⟩, ⟨rfl, I⟩, ⟨rfl, I⟩, ⟨rfl, I⟩, ⟨rfl, I⟩, ⟨rfl, rfl⟩, rfl, I, I⟩, ?_⟩
  refine W.ret ?_
  refine EndsW.rt ?_
  conv => whnf
  refine ⟨⟨I, I, I⟩, ?_, rfl⟩
  rotate_left 1
  refine g 43 59 [.b (true), .b (true), .b (true), .call (V.b (decide ((1 : Int) ≤ Message.lease m ∧ Message.lease m ≤ (300000000 : Int)))) ([[], [], []]), .b (true), .b (true), .b (true), .b (true), .b (true), .b (false), .b (false), .b (false), .b (true), .b (true)] ?_
  conv => whnf
  refine ⟨⟨I, I, ⟨rfl, I⟩, ⟨rfl, I⟩, ⟨rfl, ⟨I, I, I, I⟩, I, ⟨⟨I, I⟩, ⟨I, I⟩, ⟨I, I⟩, I⟩, ⟨I, I⟩, Go.K.c_impl_within _ _ _⟩, ⟨rfl, I⟩, rfl, I, notT (by omega), notT (by omega), notT (by omega), I, I, I, notT (by omega), notT (by omega), I⟩, ?_⟩
  refine W.cn ?_
  conv => whnf
  refine ⟨fun _ => ?_, noF (rfl)⟩
  refine g 3 4 [] ?_
  conv => whnf
  refine ⟨⟨I, I⟩, ?_⟩
  refine W.ret ?_
  refine EndsW.rt ?_
  conv => whnf
  refine ⟨⟨I, I, I⟩, ?_, rfl⟩
  rotate_left 1
  refine g 26 43 [.b (false), .b (false), .call (V.b (decide ((1 : Int) ≤ Message.to m ∧ Message.to m ≤ (8 : Int)))) ([[], [], []]), .b (false), .b (false), .b (true), .b (true), .b (true), .b (true), .b (true)] ?_
  conv => whnf
  refine ⟨⟨I, I, I, ⟨notF (by omega), I⟩, ⟨notF (by omega), ⟨I, I, I, I⟩, I, ⟨⟨I, I⟩, ⟨I, I⟩, ⟨I, I⟩, I⟩, ⟨I, I⟩, Go.K.c_impl_within _ _ _⟩, ⟨notF (by omega), I⟩, notF (by omega), I, notT (by omega), notT (by omega), notT (by omega), notT (by omega), notT (by omega), I⟩, ?_⟩
  refine W.cn ?_
  conv => whnf
  refine ⟨fun _ => ?_, noF (rfl)⟩
  refine g 8 9 [] ?_
  conv => whnf
  refine ⟨⟨I, I⟩, ?_⟩
  refine W.ret ?_
  refine EndsW.rt ?_
  conv => whnf
  refine ⟨⟨I, I, I⟩, ?_, rfl⟩
  rotate_left 1
  refine g 26 43 [.b (true), .b (true), .b (true), .b (true), .b (true), .b (true), .b (true), .b (true), .b (true)] ?_
  conv => whnf
  refine ⟨⟨I, I, I, notT (by omega), notT (by omega), notT (by omega), notT (by omega), I, rfl, rfl, rfl, rfl, rfl, I⟩, ?_⟩
  refine W.cn ?_
  conv => whnf
  refine ⟨fun _ => ?_, noF (rfl)⟩
  refine g 8 9 [] ?_
  conv => whnf
  refine ⟨⟨I, I⟩, ?_⟩
  refine W.ret ?_
  refine EndsW.rt ?_
  conv => whnf
  refine ⟨⟨I, I, I⟩, ?_, rfl⟩
  rotate_left 1
  replace h4 := df h4
  refine g 11 20 [] ?_
  conv => whnf
  refine ⟨⟨I, I, I⟩, ?_⟩
  refine W.cn ?_
  conv => whnf
  refine ⟨fun h5 => ?_, fun h5 => ?_⟩
  replace h5 := dt h5
  refine W.skip ?_
  refine gd 20 26 [[], [], [], [], [], []] ?_
  conv => whnf
  refine ⟨⟨I, I, I, I, I, I, I⟩, by kernel_rfl, ?_⟩
  refine W.sq ?_
  refine g 0 0 [] ?_
  conv => whnf
  refine ⟨⟨I, I⟩, ?_⟩
  refine W.cn ?_
  conv => whnf
  refine ⟨noT (rfl), fun _ => ?_⟩
  refine W.skip ?_
  refine W.sq ?_
  by_cases h6 : Message.to m = (0 : Int)
  by_cases h7 : (1 : Int) ≤ Message.frm m ∧ Message.frm m ≤ (8 : Int)
  refine g 26 43 [.b (false), .b (false), .call (V.b (decide ((1 : Int) ≤ Message.frm m ∧ Message.frm m ≤ (8 : Int)))) ([[], [], []]), .b (false), .b (false), .b (false), .b (false), .b (false), .call (V.b (decide ((1 : Int) ≤ Message.epoch m ∧ Message.epoch m ≤ (300 : Int)))) ([[], [], []]), .b (false), .b (false)] ?_
  conv => whnf
  refine ⟨⟨I, I, I, ⟨notF (by omega), I⟩, ⟨notF (by omega), ⟨I, I, I, I⟩, I, ⟨⟨I, I⟩, ⟨I, I⟩, ⟨I, I⟩, I⟩, ⟨I, I⟩, Go.K.c_impl_within _ _ _⟩, ⟨notF (by omega), I⟩, notF (by omega), I, ⟨notF (by omega), I⟩, ⟨notF (by omega), I⟩, ⟨notF (by omega), ⟨I, I, I, I⟩, I, ⟨⟨I, I⟩, ⟨I, I⟩, ⟨I, I⟩, I⟩, ⟨I, I⟩, Go.K.c_impl_within _ _ _⟩, ⟨notF (by omega), I⟩, notF (by omega), I⟩, ?_⟩
  refine W.cn ?_
  conv => whnf
  refine ⟨fun h8 => ?_, fun h8 => ?_⟩
  replace h8 := ndt h8
  refine g 8 9 [] ?_
  conv => whnf
  refine ⟨⟨I, I⟩, ?_⟩
  refine W.ret ?_
  refine EndsW.rt ?_
  conv => whnf
  refine ⟨⟨I, I, I⟩, ?_, rfl⟩
  rotate_left 1
  replace h8 := ndf h8
  refine W.skip ?_
  refine W.sq ?_
  refine g 43 59 [.b (false), .b (false), .b (false), .b (false), .b (false), .b (false), .b (false), .b (false), .b (true), .b (true), .b (true), .b (false), .b (true), .b (false)] ?_
  conv => whnf
  refine ⟨⟨I, I, rfl, rfl, rfl, rfl, rfl, I, ⟨rfl, I⟩, ⟨rfl, I⟩, ⟨rfl, I⟩, ⟨rfl, I⟩, ⟨rfl, I⟩, ⟨rfl, I⟩, ⟨rfl, rfl⟩, rfl, I⟩, ?_⟩
  refine W.cn ?_
  conv => whnf
  refine ⟨fun h9 => ?_, fun h9 => ?_⟩
  replace h9 := ndt h9
  refine g 3 4 [] ?_
  conv => whnf
  refine ⟨⟨I, I⟩, ?_⟩
  refine W.ret ?_
  refine EndsW.rt ?_
  conv => whnf
  refine ⟨⟨I, I, I⟩, ?_, rfl⟩
  rotate_left 1
  replace h9 := ndf h9
  refine W.skip ?_
  refine W.sq ?_
  refine g 59 75 [.b (false), .b (false), .b (false), .b (false), .b (false), .b (false), .b (false), .b (false), .b (true), .b (true), .b (true), .b (false), .b (true), .b (false)] ?_
  conv => whnf
  refine ⟨⟨I, I, rfl, rfl, rfl, rfl, rfl, I, ⟨rfl, I⟩, ⟨rfl, I⟩, ⟨rfl, I⟩, ⟨rfl, I⟩, ⟨rfl, I⟩, ⟨rfl, I⟩, ⟨rfl, rfl⟩, rfl, I⟩, ?_⟩
  refine W.cn ?_
  conv => whnf
  refine ⟨fun h10 => ?_, fun h10 => ?_⟩
  replace h10 := ndt h10
  refine g 3 4 [] ?_
  conv => whnf
  refine ⟨⟨I, I⟩, ?_⟩
  refine W.ret ?_
  refine EndsW.rt ?_
  conv => whnf
  refine ⟨⟨I, I, I⟩, ?_, rfl⟩
  rotate_left 1
  replace h10 := ndf h10
  refine W.skip ?_
  refine W.sq ?_
  refine g 10 91 [.b (false), .b (false), .b (false), .b (false), .b (false), .b (false), .b (false), .b (false), .b (true), .b (true), .b (true), .b (false), .b (true), .b (false)] ?_
  conv => whnf
  refine ⟨⟨I, I, rfl, rfl, rfl, rfl, rfl, I, ⟨rfl, I⟩, ⟨rfl, I⟩, ⟨rfl, I⟩, ⟨rfl, I⟩, ⟨rfl, I⟩, ⟨rfl, I⟩, ⟨rfl, rfl⟩, rfl, I⟩, ?_⟩
  refine W.cn ?_
  conv => whnf
  refine ⟨fun h11 => ?_, fun h11 => ?_⟩
  replace h11 := ndt h11
  refine g 7 9 [] ?_
  conv => whnf
  refine ⟨⟨I, I⟩, ?_⟩
  refine W.ret ?_
  refine EndsW.rt ?_
  conv => whnf
  refine ⟨⟨I, I, I⟩, ?_, rfl⟩
  rotate_left 1
  replace h11 := ndf h11
  refine W.skip ?_
  refine g 5 108 [.b (false), .b (false), .b (false), .b (false), .b (false), .b (false), .b (false), .b (true), .b (true), .b (true), .b (true), .b (false), .b (true), .b (false)] ?_
  conv => whnf
  refine ⟨⟨I, I, rfl, rfl, rfl, rfl, I, ⟨rfl, I⟩, ⟨rfl, I⟩, ⟨rfl, I⟩, ⟨rfl, I⟩, ⟨rfl, I⟩, ⟨rfl, I⟩, ⟨rfl, I⟩, ⟨rfl, rfl⟩, rfl, I, I⟩, ?_⟩
  refine W.ret ?_
  refine EndsW.rt ?_
  conv => whnf
  refine ⟨⟨I, I, I⟩, ?_, rfl⟩
  rotate_left 1
  refine g 26 43 [.b (false), .b (false), .call (V.b (decide ((1 : Int) ≤ Message.frm m ∧ Message.frm m ≤ (8 : Int)))) ([[], [], []]), .b (false), .b (false), .b (true), .b (true), .b (true), .b (true), .b (true)] ?_
  conv => whnf
  refine ⟨⟨I, I, I, ⟨notF (by omega), I⟩, ⟨notF (by omega), ⟨I, I, I, I⟩, I, ⟨⟨I, I⟩, ⟨I, I⟩, ⟨I, I⟩, I⟩, ⟨I, I⟩, Go.K.c_impl_within _ _ _⟩, ⟨notF (by omega), I⟩, notF (by omega), I, notT (by omega), notT (by omega), notT (by omega), notT (by omega), notT (by omega), I⟩, ?_⟩
  refine W.cn ?_
  conv => whnf
  refine ⟨fun _ => ?_, noF (rfl)⟩
  refine g 8 9 [] ?_
  conv => whnf
  refine ⟨⟨I, I⟩, ?_⟩
  refine W.ret ?_
  refine EndsW.rt ?_
  conv => whnf
  refine ⟨⟨I, I, I⟩, ?_, rfl⟩
  rotate_left 1
  refine g 26 43 [.b (true), .b (true), .b (true), .b (true), .b (true), .b (true), .b (true), .b (true), .b (true)] ?_
  conv => whnf
  refine ⟨⟨I, I, I, notT (by omega), notT (by omega), notT (by omega), notT (by omega), I, rfl, rfl, rfl, rfl, rfl, I⟩, ?_⟩
  refine W.cn ?_
  conv => whnf
  refine ⟨fun _ => ?_, noF (rfl)⟩
  refine g 8 9 [] ?_
  conv => whnf
  refine ⟨⟨I, I⟩, ?_⟩
  refine W.ret ?_
  refine EndsW.rt ?_
  conv => whnf
  refine ⟨⟨I, I, I⟩, ?_, rfl⟩
  rotate_left 1
  replace h5 := df h5
  refine g 20 22 [] ?_
  conv => whnf
  refine ⟨⟨I, I⟩, ?_⟩
  refine W.ret ?_
  refine EndsW.rt ?_
  conv => whnf
  refine ⟨⟨I, I, I⟩, ?_, rfl⟩
  rotate_left 1
  all_goals (try simp only [List.length_map, decide_eq_true_eq, Bool.not_eq_true, Bool.not_eq_true', decide_eq_false_iff_not] at *)
  all_goals first
    | exact vbf (by unfold msgOk; grind)
    | exact vbt (by unfold msgOk; grind)
    | exact vbd (by unfold msgOk; grind)
theorem tup5 {a b c d e a' b' c' d' e' : Bool} (h1 : a = a') (h2 : b = b') (h3 : c = c') (h4 : d = d') (h5 : e = e') : V.tup [V.t (T.v (Value.bool a)), V.t (T.v (Value.bool b)), V.t (T.v (Value.bool c)), V.t (T.v (Value.bool d)), V.t (T.v (Value.bool e))] = V.tup [.b a', .b b', .b c', .b d', .b e'] := by subst h1; subst h2; subst h3; subst h4; subst h5; rfl
theorem c_spec_l2Uses (k : Int) : F n_spec_l2Uses [.val (.i k)] (.tup [.b (decide (1 ≤ k ∧ k ≤ 4)), .b (decide (k = 1 ∨ k = 3)), .b (decide (k = 3)), .b (decide (k = 1)), .b (decide (k = 1 ∨ k = 4))]) [[]] := by
  refine i_spec_l2Uses ?_
  conv => whnf
  refine g 0 0 [] ?_
  conv => whnf
  refine ⟨⟨I, I, I, I, I, I⟩, ?_⟩
  refine W.sq ?_
  refine g 0 1 [] ?_
  conv => whnf
  refine ⟨⟨I, I⟩, ?_⟩
  refine W.blk ?_
  refine g 9 10 [] ?_
  conv => whnf
  refine ⟨⟨I, I, I⟩, ?_⟩
  refine W.cn ?_
  conv => whnf
  refine ⟨fun h1 => ?_, fun h1 => ?_⟩
  replace h1 := dt h1
  refine g 7 9 [] ?_
  conv => whnf
  refine ⟨⟨I, I, I, I, I, I⟩, ?_⟩
  refine W.ret ?_
  refine EndsW.rt ?_
  conv => whnf
  refine ⟨⟨I, ⟨I, I⟩, I, ⟨I, I⟩, I, ⟨I, I⟩, I, ⟨I, I⟩, I, ⟨I, I⟩, I⟩, ?_, rfl⟩
  rotate_left 1
  replace h1 := df h1
  refine g 8 9 [] ?_
  conv => whnf
  refine ⟨⟨I, I, I⟩, ?_⟩
  refine W.cn ?_
  conv => whnf
  refine ⟨fun h2 => ?_, fun h2 => ?_⟩
  replace h2 := dt h2
  refine g 7 12 [] ?_
  conv => whnf
  refine ⟨⟨I, I, I, I, I, I⟩, ?_⟩
  refine W.ret ?_
  refine EndsW.rt ?_
  conv => whnf
  refine ⟨⟨I, ⟨I, I⟩, I, ⟨I, I⟩, I, ⟨I, I⟩, I, ⟨I, I⟩, I, ⟨I, I⟩, I⟩, ?_, rfl⟩
  rotate_left 1
  replace h2 := df h2
  refine g 10 12 [] ?_
  conv => whnf
  refine ⟨⟨I, I, I⟩, ?_⟩
  refine W.cn ?_
  conv => whnf
  refine ⟨fun h3 => ?_, fun h3 => ?_⟩
  replace h3 := dt h3
  refine g 7 14 [] ?_
  conv => whnf
  refine ⟨⟨I, I, I, I, I, I⟩, ?_⟩
  refine W.ret ?_
  refine EndsW.rt ?_
  conv => whnf
  refine ⟨⟨I, ⟨I, I⟩, I, ⟨I, I⟩, I, ⟨I, I⟩, I, ⟨I, I⟩, I, ⟨I, I⟩, I⟩, ?_, rfl⟩
  rotate_left 1
  replace h3 := df h3
  refine g 7 14 [] ?_
  conv => whnf
  refine ⟨⟨I, I, I⟩, ?_⟩
  refine W.cn ?_
  conv => whnf
  refine ⟨fun h4 => ?_, fun h4 => ?_⟩
  replace h4 := dt h4
  refine g 14 16 [] ?_
  conv => whnf
  refine ⟨⟨I, I, I, I, I, I⟩, ?_⟩
  refine W.ret ?_
  refine EndsW.rt ?_
  conv => whnf
  refine ⟨⟨I, ⟨I, I⟩, I, ⟨I, I⟩, I, ⟨I, I⟩, I, ⟨I, I⟩, I, ⟨I, I⟩, I⟩, ?_, rfl⟩
  rotate_left 1
  replace h4 := df h4
  refine W.skip ?_
  refine g 14 16 [] ?_
  conv => whnf
  refine ⟨⟨I, I, I, I, I, I⟩, ?_⟩
  refine W.ret ?_
  refine EndsW.rt ?_
  conv => whnf
  refine ⟨⟨I, ⟨I, I⟩, I, ⟨I, I⟩, I, ⟨I, I⟩, I, ⟨I, I⟩, I, ⟨I, I⟩, I⟩, ?_, rfl⟩
  rotate_left 1
  all_goals exact tup5 (by grind) (by grind) (by grind) (by grind) (by grind)
end Go.K

end

section
set_option linter.unusedVariables false
set_option linter.unusedSimpArgs false
set_option maxHeartbeats 4000000
set_option maxRecDepth 20000
open Go Go.Tm Go.Proofs
namespace Go.K
def decS (n : Int) : ByteArray := if n < 10 then bl [48 + n] else bl [48 + n.tdiv 10] ++ bl [48 + n.tmod 10]
theorem decS_size (n : Int) : (decS n).size ≤ 2 := by
  unfold decS; split
  · rw [bl_size]; simp
  · rw [ByteArray.size_append, bl_size, bl_size]; simp
theorem tdiv10p {n : Int} (h : 0 ≤ n) : n.tdiv 10 = n / 10 := Int.tdiv_eq_ediv_of_nonneg h
theorem tmod10p {n : Int} (h : 0 ≤ n) : n.tmod 10 = n % 10 := Int.tmod_eq_emod_of_nonneg h
theorem c_dec1 (n : Int) (h0 : 0 ≤ n) (h1 : n < 10) : F n_spec_l1Dec [.val (.i n)] (.s (decS n)) [[]] := by
  have e : decS n = bl [48 + n] := if_pos h1
  refine i_spec_l1Dec ?_
  conv => whnf
  refine g 0 0 [] ?_
  conv => whnf
  refine ⟨⟨I, I⟩, ?_⟩
  refine W.sq ?_
  refine g 3 4 [] ?_
  conv => whnf
  refine ⟨⟨I, I, I⟩, ?_⟩
  refine W.cn ?_
  conv => whnf
  refine ⟨noT (decide_eq_false (by omega)), fun _ => ?_⟩
  refine W.skip ?_
  refine W.sq ?_
  refine g 4 5 [] ?_
  conv => whnf
  refine ⟨⟨I, I, I⟩, ?_⟩
  refine W.cn ?_
  conv => whnf
  refine ⟨fun _ => ?_, noF (decide_eq_true (by omega))⟩
  refine g 10 16 [.i ((48 : Int) + n), .i ((48 : Int) + n), .s ({ data := List.toArray (bytesOf [[T.v (Value.int IntKind.u8 ((48 : Int) + n))]]) : ByteArray })] ?_
  conv => whnf
  refine ⟨⟨I, w64 (by omega) (by omega), wu8 (by omega) (by omega), ⟨⟨I, I⟩, I⟩, ⟨I, (by repeat (first | exact allU8_nil | refine allU8_cons ?_)), rfl⟩, I, I⟩, ?_⟩
  refine W.ret ?_
  refine EndsW.rt ?_
  conv => whnf
  refine ⟨⟨I, I, I⟩, ?_, rfl⟩
  rw [e]; exact vs (bytes_b1 [48 + n])
theorem c_spec_l1Dec (n : Int) (h0 : 0 ≤ n) (h1 : n < 100) : F n_spec_l1Dec [.val (.i n)] (.s (decS n)) [[]] := by
  by_cases h2 : n < 10
  · exact c_dec1 n h0 h2
  · have e : decS n = bl [48 + n.tdiv 10] ++ bl [48 + n.tmod 10] := if_neg h2
    have q1 := tdiv10p h0
    have q2 := tmod10p h0
    have e2 : decS (n.tdiv 10) = bl [48 + n.tdiv 10] := if_pos (by omega)
    have c := c_dec1 (n.tdiv 10) (by omega) (by omega)
    have hsz := decS_size (n.tdiv 10)
    refine i_spec_l1Dec ?_
    conv => whnf
    refine g 0 0 [] ?_
    conv => whnf
    refine ⟨⟨I, I⟩, ?_⟩
    refine W.sq ?_
    refine g 3 4 [] ?_
    conv => whnf
    refine ⟨⟨I, I, I⟩, ?_⟩
    refine W.cn ?_
    conv => whnf
    refine ⟨noT (decide_eq_false (by omega)), fun _ => ?_⟩
    refine W.skip ?_
    refine W.sq ?_
    refine g 4 5 [] ?_
    conv => whnf
    refine ⟨⟨I, I, I⟩, ?_⟩
    refine W.cn ?_
    conv => whnf
    refine ⟨noT (decide_eq_false (by omega)), fun _ => ?_⟩
    refine W.skip ?_
    refine gd 10 26 [[], [.i (Int.tdiv n (10 : Int))], [.call (V.s (decS (Int.tdiv n (10 : Int)))) ([[]])], [], [.i (Int.tmod n (10 : Int))], [.i ((48 : Int) + Int.tmod n (10 : Int))], [.i ((48 : Int) + Int.tmod n (10 : Int))], [], [.s ({ data := List.toArray (bytesOf [[T.v (Value.int IntKind.u8 ((48 : Int) + Int.tmod n (10 : Int)))]]) : ByteArray })], [.s (decS (Int.tdiv n (10 : Int)) ++ { data := List.toArray (bytesOf [[T.v (Value.int IntKind.u8 ((48 : Int) + Int.tmod n (10 : Int)))]]) : ByteArray })], []] ?_
    conv => whnf
    refine ⟨⟨I, ⟨(by omega), w64 (by omega) (by omega)⟩, ⟨⟨I, I⟩, I, ⟨⟨I, I⟩, I⟩, ⟨I, I⟩, (by assumption)⟩, I, ⟨(by omega), rfl⟩, w64 (by omega) (by omega), wu8 (by omega) (by omega), ⟨⟨I, I⟩, I⟩, ⟨I, (by repeat (first | exact allU8_nil | refine allU8_cons ?_)), rfl⟩, ⟨rfl, (by simp only [bsz, ByteArray.size_append, List.length_map, List.length_append, List.length_set, List.length_replicate, List.length_cons, List.length_nil, List.length_take, List.length_drop, fill_len, fillI_len, List.length_range, bytesT_len]; omega)⟩, I, I⟩, by kernel_rfl, ?_⟩
    refine W.ret ?_
    refine EndsW.rt ?_
    conv => whnf
    refine ⟨⟨I, I, I⟩, ?_, rfl⟩
    rw [e, e2]; exact vs (congrArg (bl [48 + n.tdiv 10] ++ ·) (bytes_b1 [48 + n.tmod 10]))
theorem c_spec_l1Bytes (l : List Int) (pos : Int) (hl : u8ok l) (h0 : 0 ≤ pos) (h1 : pos ≤ 1048576) : F n_spec_l1Bytes [.ptr (rdC l pos)] (.s (sumT (decS (pickV l pos 50)))) [rdC l (pos + 1)] := by
  have hp := pick_rng l pos 50
  have c := c_spec_l1Rd_pick l pos 50 hl h0 h1 (by omega)
  have cd := c_spec_l1Dec (pickV l pos 50) (by omega) (by omega)
  have hs := decS_size (pickV l pos 50)
  have cs := c_spec_l1Sum (decS (pickV l pos 50)) (by omega)
  refine i_spec_l1Bytes ?_
  conv => whnf
  refine g 0 0 [] ?_
  conv => whnf
  refine ⟨⟨I, I⟩, ?_⟩
  refine g 3 7 [.call (V.i (pickV l pos (50 : Int))) ([rdC l (pos + (1 : Int)), []]), .call (V.s (decS (pickV l pos (50 : Int)))) ([[]]), .call (V.s (bl (beL (fnvs h0v (decS (pickV l pos (50 : Int))) (ByteArray.size (decS (pickV l pos (50 : Int))))) (8 : Nat)))) ([[]])] ?_
  conv => whnf
  refine ⟨⟨I, ⟨⟨I, I, I⟩, I, ⟨I, ⟨I, I⟩, I⟩, ⟨I, I⟩, (by assumption)⟩, ⟨⟨I, I⟩, I, ⟨⟨I, I⟩, I⟩, ⟨I, I⟩, (by assumption)⟩, ⟨⟨I, I⟩, I, ⟨⟨I, I⟩, I⟩, ⟨I, I⟩, (by assumption)⟩, I, I⟩, ?_⟩
  refine W.ret ?_
  refine EndsW.rt ?_
  conv => whnf
  refine ⟨⟨I, I, I⟩, ?_, rfl⟩
  rw [fnvs_all]; rfl
theorem half_size {m t : Int} (h : 0 ≤ m) : (m / 2) * (t + t) = m * t - (m % 2) * t := by
  have e : m * t = (2 * (m / 2) + m % 2) * t := by rw [show 2 * (m / 2) + m % 2 = m by omega]
  rw [e, Int.add_mul, Int.mul_add, Int.mul_assoc, Int.two_mul]; omega
theorem ex_Many (s : ByteArray) (n : Int) (h0 : 0 ≤ n) (h1 : n ≤ 64) (hs : s.size ≤ 64) : ∃ res outs, (∃ t, res = .s t ∧ outs = [[], []] ∧ (t.size : Int) ≤ 4096) ∧ F n_spec_l1Many [.val (.s s), .val (.i n)] res outs := by
  have hns : n * (s.size : Int) ≤ 4096 := by
    have := Int.mul_le_mul_of_nonneg_right h1 (show (0 : Int) ≤ s.size by omega)
    omega
  refine x_spec_l1Many ?_
  conv => whnf
  refine g 0 0 [] ?_
  conv => whnf
  refine ⟨⟨I, I⟩, ?_⟩
  refine g 0 0 [] ?_
  conv => whnf
  refine ⟨⟨I, I⟩, ?_⟩
  refine W.sq ?_
  refine W.blk ?_
  refine W.lp (fun s (x : ByteArray × ByteArray × Int) => ⟨[(0, .s x.2.1), (1, .i x.2.2), (4, s.s 4), (5, .s x.1)], [], []⟩) (fun (x : ByteArray × ByteArray × Int) => 0 ≤ x.2.2 ∧ x.2.2 ≤ 64 ∧ (x.1.size : Int) + x.2.2 * x.2.1.size ≤ 4096) (fun (x : ByteArray × ByteArray × Int) => x.2.2.toNat) ((emp, s, n)) [] [] ⟨rfl, ⟨rfl, rfl, rfl, rfl, I⟩, I, I⟩ ?_ ?_
  · refine ⟨h0, h1, ?_⟩
    have : emp.size = 0 := rfl
    show ((emp.size : Nat) : Int) + n * s.size ≤ 4096
    omega
  rintro ⟨o, t, m⟩ ⟨hm0, hm1, hsz⟩
  dsimp only at hm0 hm1 hsz
  have q1 : m.tdiv 2 = m / 2 := Int.tdiv_eq_ediv_of_nonneg hm0
  have q2 : m.tmod 2 = m % 2 := Int.tmod_eq_emod_of_nonneg hm0
  have q3 := half_size (t := (t.size : Int)) hm0
  by_cases hm : 0 < m
  · have q4 := Int.mul_le_mul_of_nonneg_right (show 1 ≤ m by omega) (show (0 : Int) ≤ t.size by omega)
    rw [Int.one_mul] at q4
    by_cases ho : m.tmod 2 = 1
    · have q5 : m % 2 = 1 := by omega
      rw [q5, Int.one_mul] at q3
      conv => whnf
      refine W.sq ?_
      refine g 6 7 [] ?_
      conv => whnf
      refine ⟨⟨I, I, I⟩, ?_⟩
      refine W.cn ?_
      conv => whnf
      refine ⟨fun _ => ?_, noF (decide_eq_true (by omega))⟩
      refine W.skip ?_
      refine W.blk ?_
      refine W.sq ?_
      refine g 7 9 [.i (Int.tmod (Prod.snd (Prod.snd (o, t, m))) (2 : Int))] ?_
      conv => whnf
      refine ⟨⟨I, ⟨(by omega), rfl⟩, I, I⟩, ?_⟩
      refine W.cn ?_
      conv => whnf
      refine ⟨fun _ => ?_, noF (decide_eq_true (by omega))⟩
      refine rg [.s (Prod.fst (o, t, m) ++ Prod.fst (Prod.snd (o, t, m)))] ?_
      conv => whnf
      refine ⟨⟨I, I, ⟨rfl, (by simp only [List.length_map, List.length_append, List.length_set, List.length_replicate, List.length_cons, List.length_nil, List.length_take, List.length_drop, fill_len, fillI_len, List.length_range, bytesT_len]; omega)⟩, I, I⟩, ?_⟩
      refine g 10 17 [.s (Prod.fst (Prod.snd (o, t, m)) ++ Prod.fst (Prod.snd (o, t, m)))] ?_
      conv => whnf
      refine ⟨⟨I, I, ⟨rfl, (by simp only [List.length_map, List.length_append, List.length_set, List.length_replicate, List.length_cons, List.length_nil, List.length_take, List.length_drop, fill_len, fillI_len, List.length_range, bytesT_len]; omega)⟩, I, I⟩, ?_⟩
      refine rg [.i (Int.tdiv (Prod.snd (Prod.snd (o, t, m))) (2 : Int))] ?_
      conv => whnf
      refine ⟨⟨I, ⟨(by omega), w64 (by simp only [List.length_map, List.length_append, List.length_set, List.length_replicate, List.length_cons, List.length_nil, List.length_take, List.length_drop, fill_len, fillI_len, List.length_range, bytesT_len]; omega) (by simp only [List.length_map, List.length_append, List.length_set, List.length_replicate, List.length_cons, List.length_nil, List.length_take, List.length_drop, fill_len, fillI_len, List.length_range, bytesT_len]; omega)⟩, I, I⟩, ?_⟩
      refine ⟨(o ++ t, t ++ t, m / 2), [], [], ⟨rfl, ⟨rfl, (congrArg (fun z => V.t (T.v (Value.int _ z))) (q1)), rfl, rfl, I⟩, I, I⟩, ?_, ?_⟩
      rotate_left 1
      (dsimp only; omega)
      dsimp only
      refine ⟨by omega, by omega, ?_⟩
      rw [ByteArray.size_append, ByteArray.size_append, Int.natCast_add, Int.natCast_add, q3]; omega
    · have q5 : m % 2 = 0 := by omega
      rw [q5, Int.zero_mul] at q3
      conv => whnf
      refine W.sq ?_
      refine g 6 7 [] ?_
      conv => whnf
      refine ⟨⟨I, I, I⟩, ?_⟩
      refine W.cn ?_
      conv => whnf
      refine ⟨fun _ => ?_, noF (decide_eq_true (by omega))⟩
      refine W.skip ?_
      refine W.blk ?_
      refine W.sq ?_
      refine g 7 9 [.i (Int.tmod (Prod.snd (Prod.snd (o, t, m))) (2 : Int))] ?_
      conv => whnf
      refine ⟨⟨I, ⟨(by omega), rfl⟩, I, I⟩, ?_⟩
      refine W.cn ?_
      conv => whnf
      refine ⟨noT (decide_eq_false (by omega)), fun _ => ?_⟩
      refine W.skip ?_
      refine g 10 17 [.s (Prod.fst (Prod.snd (o, t, m)) ++ Prod.fst (Prod.snd (o, t, m)))] ?_
      conv => whnf
      refine ⟨⟨I, I, ⟨rfl, (by simp only [List.length_map, List.length_append, List.length_set, List.length_replicate, List.length_cons, List.length_nil, List.length_take, List.length_drop, fill_len, fillI_len, List.length_range, bytesT_len]; omega)⟩, I, I⟩, ?_⟩
      refine rg [.i (Int.tdiv (Prod.snd (Prod.snd (o, t, m))) (2 : Int))] ?_
      conv => whnf
      refine ⟨⟨I, ⟨(by omega), w64 (by simp only [List.length_map, List.length_append, List.length_set, List.length_replicate, List.length_cons, List.length_nil, List.length_take, List.length_drop, fill_len, fillI_len, List.length_range, bytesT_len]; omega) (by simp only [List.length_map, List.length_append, List.length_set, List.length_replicate, List.length_cons, List.length_nil, List.length_take, List.length_drop, fill_len, fillI_len, List.length_range, bytesT_len]; omega)⟩, I, I⟩, ?_⟩
      refine ⟨(o, t ++ t, m / 2), [], [], ⟨rfl, ⟨rfl, (congrArg (fun z => V.t (T.v (Value.int _ z))) (q1)), rfl, rfl, I⟩, I, I⟩, ?_, ?_⟩
      rotate_left 1
      (dsimp only; omega)
      dsimp only
      refine ⟨by omega, by omega, ?_⟩
      rw [ByteArray.size_append, Int.natCast_add, q3]; omega
  · conv => whnf
    refine W.sq ?_
    refine g 6 7 [] ?_
    conv => whnf
    refine ⟨⟨I, I, I⟩, ?_⟩
    refine W.cn ?_
    conv => whnf
    refine ⟨noT (decide_eq_false (by omega)), fun _ => ?_⟩
    refine W.exit ?_
    refine g 5 20 [] ?_
    conv => whnf
    refine ⟨⟨I, I, I⟩, ?_⟩
    refine W.ret ?_
    refine EndsW.rt ?_
    conv => whnf
    refine ⟨⟨I, I, I⟩, ?_⟩
    rw [show m = 0 by omega, Int.zero_mul] at hsz
    exact ⟨o, rfl, rfl, by omega⟩
theorem ex_Many' (s : ByteArray) (n : Int) (h : 0 ≤ n ∧ n ≤ 64 ∧ s.size ≤ 64) : ∃ t : ByteArray, F n_spec_l1Many [.val (.s s), .val (.i n)] (.s t) [[], []] ∧ (t.size : Int) ≤ 4096 := by
  obtain ⟨res, outs, ⟨t, rfl, rfl, h1⟩, hF⟩ := ex_Many s n h.1 h.2.1 h.2.2
  exact ⟨t, hF, h1⟩
open Classical in
noncomputable def manyS (s : ByteArray) (n : Int) : ByteArray := if h : 0 ≤ n ∧ n ≤ 64 ∧ s.size ≤ 64 then (ex_Many' s n h).choose else emp
theorem c_spec_l1Many (s : ByteArray) (n : Int) (h0 : 0 ≤ n) (h1 : n ≤ 64) (hs : s.size ≤ 64) : F n_spec_l1Many [.val (.s s), .val (.i n)] (.s (manyS s n)) [[], []] := by
  rw [manyS, dif_pos ⟨h0, h1, hs⟩]
  exact (ex_Many' s n ⟨h0, h1, hs⟩).choose_spec.1
theorem many_size (s : ByteArray) (n : Int) : (manyS s n).size ≤ 4096 := by
  unfold manyS
  split
  · rename_i h; have := (ex_Many' s n h).choose_spec.2; omega
  · show emp.size ≤ 4096; decide
end Go.K

end

section
set_option linter.unusedVariables false
set_option linter.unusedSimpArgs false
set_option maxHeartbeats 4000000
set_option maxRecDepth 20000
open Go Go.Tm Go.Proofs
namespace Go.K
theorem len_one {α : Type} (xs : List α) (x : α) : (xs ++ [x]).length = xs.length + 1 := by simp
theorem pick_str (xs : List ByteArray) (k : Int) (h0 : 0 ≤ k) (h1 : k < xs.length) : ∃ x, x ∈ xs ∧ (xs.map strT)[k.toNat]? = some (strT x) := by
  obtain ⟨x, hx⟩ := some_at (xs := xs) (n := k.toNat) (by omega)
  exact ⟨x, List.mem_of_getElem? hx, by rw [List.getElem?_map, hx]; rfl⟩
theorem pick_int (xs : List Int) (k : Int) (h0 : 0 ≤ k) (h1 : k < xs.length) : ∃ x, x ∈ xs ∧ (xs.map intT)[k.toNat]? = some (intT x) := by
  obtain ⟨x, hx⟩ := some_at (xs := xs) (n := k.toNat) (by omega)
  exact ⟨x, List.mem_of_getElem? hx, by rw [List.getElem?_map, hx]; rfl⟩
end Go.K

end

section
set_option linter.unusedVariables false
set_option linter.unusedSimpArgs false
set_option maxHeartbeats 4000000
set_option maxRecDepth 20000
open Go Go.Tm Go.Proofs
namespace Go.K
theorem c_spec_l2Ok (m : Message) (hl : m.inputs.length ≤ 9223372036854775806) : F n_spec_l2Ok [.val (messageR m)] (.b (decide (msgOk m))) [[]] := by
  refine i_spec_l2Ok ?_
  conv => whnf
  refine g 0 1 [] ?_
  conv => whnf
  refine ⟨⟨⟨I, I, I, I, I, I, I, I, I⟩, I, I⟩, ?_⟩
  refine W.sq ?_
  by_cases h1 : (1 : Int) ≤ Message.kind m ∧ Message.kind m ≤ (5 : Int)
  refine g 13 15 [.call (V.b (decide ((1 : Int) ≤ Message.kind m ∧ Message.kind m ≤ (5 : Int)))) ([[], [], []]), .b (false), .b (false), .b (false), .call (V.b (decide ((1 : Int) ≤ Message.epoch m ∧ Message.epoch m ≤ (300 : Int)))) ([[], [], []]), .b (false), .b (false)] ?_
  conv => whnf
  refine ⟨⟨I, I, ⟨⟨I, I, I, I⟩, I, ⟨⟨I, I⟩, ⟨I, I⟩, ⟨I, I⟩, I⟩, ⟨I, I⟩, Go.K.c_spec_l2In _ _ _⟩, I, I, ⟨notF (by omega), I⟩, ⟨notF (by omega), I⟩, ⟨notF (by omega), ⟨I, I, I, I⟩, I, ⟨⟨I, I⟩, ⟨I, I⟩, ⟨I, I⟩, I⟩, ⟨I, I⟩, Go.K.c_spec_l2In _ _ _⟩, ⟨notF (by omega), I⟩, notF (by omega), I⟩, ?_⟩
  refine W.cn ?_
  conv => whnf
  refine ⟨fun h2 => ?_, fun h2 => ?_⟩
  replace h2 := ndt h2
  refine g 8 9 [] ?_
  conv => whnf
  refine ⟨⟨I, I⟩, ?_⟩
  refine W.ret ?_
  refine EndsW.rt ?_
  conv => whnf
  refine ⟨⟨I, I, I⟩, ?_, rfl⟩
  rotate_left 1
  replace h2 := ndf h2
  refine W.skip ?_
  refine g 20 25 [.call (V.tup [V.b (decide ((1 : Int) ≤ Message.kind m ∧ Message.kind m ≤ (4 : Int))), V.b (decide (Message.kind m = (1 : Int) ∨ Message.kind m = (3 : Int))), V.b (decide (Message.kind m = (3 : Int))), V.b (decide (Message.kind m = (1 : Int))), V.b (decide (Message.kind m = (1 : Int) ∨ Message.kind m = (4 : Int)))]) ([[]])] ?_
  conv => whnf
  refine ⟨⟨I, I, ⟨⟨I, I⟩, I, ⟨⟨I, I⟩, I⟩, ⟨I, I⟩, Go.K.c_spec_l2Uses _⟩, I, I, I, I, I, I, I, I, I, I, I, I⟩, ?_⟩
  refine W.sq ?_
  by_cases h3 : Message.kind m = (1 : Int) ∨ Message.kind m = (4 : Int)
  by_cases h4 : Message.frm m = (0 : Int)
  by_cases h5 : (1 : Int) ≤ Message.to m ∧ Message.to m ≤ (8 : Int)
  refine g 29 53 [.b (true), .b (true), .b (true), .b (true), .b (false), .b (false), .b (false), .call (V.b (decide ((1 : Int) ≤ Message.to m ∧ Message.to m ≤ (8 : Int)))) ([[], [], []]), .b (false), .b (true), .b (false), .b (true), .b (false), .b (false), .b (false), .b (false), .b (false), .b (false), .b (false), .b (false), .b (false), .b (false), .b (false), .b (false), .b (false), .b (false), .b (false)] ?_
  conv => whnf
  refine ⟨⟨I, I, ⟨decide_eq_true (by omega), I⟩, ⟨decide_eq_true (by omega), I⟩, ⟨decide_eq_true (by omega), I⟩, ⟨decide_eq_true (by omega), I⟩, ⟨notF (by omega), I⟩, ⟨notF (by omega), I⟩, ⟨notF (by omega), ⟨I, I, I, I⟩, I, ⟨⟨I, I⟩, ⟨I, I⟩, ⟨I, I⟩, I⟩, ⟨I, I⟩, Go.K.c_spec_l2In _ _ _⟩, ⟨notF (by omega), I⟩, ⟨decide_eq_true (by omega), notF (by omega)⟩, decide_eq_true (by omega), I, ⟨notF (by omega), I⟩, ⟨notF (by omega), I⟩, ⟨notF (by omega), I⟩, notF (by omega), notF (by omega), notF (by omega), notF (by omega), I, I, I, I, notF (by omega), ⟨notF (by omega), notF (by omega)⟩, notF (by omega), I⟩, ?_⟩
  refine W.cn ?_
  conv => whnf
  refine ⟨noT (rfl), fun _ => ?_⟩
  refine W.skip ?_
  refine W.sq ?_
  by_cases h6 : (1 : Int) ≤ Message.lease m ∧ Message.lease m ≤ (300000000 : Int)
  by_cases h7 : Message.kind m = (1 : Int) ∨ Message.kind m = (3 : Int)
  by_cases h8 : (0 : Int) ≤ Message.task m ∧ Message.task m ≤ (39 : Int)
  refine g 11 87 [.b (true), .b (true), .b (true), .call (V.b (decide ((1 : Int) ≤ Message.lease m ∧ Message.lease m ≤ (300000000 : Int)))) ([[]]), .b (true), .b (true), .b (false), .b (false), .b (false), .b (false), .b (false), .b (false), .b (false), .b (false), .b (false), .b (false), .b (false), .b (true), .b (true), .b (true), .call (V.b (decide ((0 : Int) ≤ Message.task m ∧ Message.task m ≤ (39 : Int)))) ([[], [], []]), .b (true), .b (false), .b (true), .b (false), .b (false), .b (false), .b (false), .b (false), .b (false), .b (false), .b (false), .b (false), .b (false)] ?_
  conv => whnf
  refine ⟨⟨I, I, ⟨decide_eq_true (by omega), I⟩, ⟨decide_eq_true (by omega), I⟩, ⟨decide_eq_true (by omega), ⟨I, I⟩, I, ⟨⟨I, I⟩, I⟩, ⟨I, I⟩, Go.K.c_spec_l2LeaseOk _⟩, ⟨decide_eq_true (by omega), I⟩, decide_eq_true (by omega), I, ⟨notF (by omega), I⟩, ⟨notF (by omega), I⟩, ⟨notF (by omega), I⟩, notF (by omega), notF (by omega), notF (by omega), ⟨notF (by omega), notF (by omega)⟩, notF (by omega), I, ⟨rfl, I⟩, ⟨rfl, I⟩, ⟨decide_eq_true (by omega), I⟩, ⟨decide_eq_true (by omega), I⟩, ⟨decide_eq_true (by omega), ⟨I, I, I, I⟩, I, ⟨⟨I, I⟩, ⟨I, I⟩, ⟨I, I⟩, I⟩, ⟨I, I⟩, Go.K.c_spec_l2In _ _ _⟩, ⟨decide_eq_true (by omega), I⟩, ⟨rfl, decide_eq_true (by omega)⟩, rfl, I, ⟨notF (by omega), I⟩, ⟨notF (by omega), I⟩, ⟨notF (by omega), I⟩, notF (by omega), notF (by omega), notF (by omega), ⟨notF (by omega), notF (by omega)⟩, notF (by omega), I⟩, ?_⟩
  refine W.cn ?_
  conv => whnf
  refine ⟨noT (rfl), fun _ => ?_⟩
  refine W.skip ?_
  refine W.sq ?_
  refine g 10 103 [.b (false), .b (false), .b (false), .b (false), .b (false), .b (false), .b (false), .b (false), .b (true), .b (true), .b (true), .b (false), .b (true), .b (false)] ?_
  conv => whnf
  refine ⟨⟨I, I, decide_eq_false (by omega), decide_eq_false (by omega), decide_eq_false (by omega), decide_eq_false (by omega), decide_eq_false (by omega), I, ⟨rfl, I⟩, ⟨rfl, I⟩, ⟨rfl, I⟩, ⟨notT (by omega), I⟩, ⟨notT (by omega), I⟩, ⟨notT (by omega), I⟩, ⟨rfl, notT (by omega)⟩, rfl, I⟩, ?_⟩
  refine W.cn ?_
  conv => whnf
  refine ⟨fun h9 => ?_, fun h9 => ?_⟩
  replace h9 := ndt h9
  refine g 7 9 [] ?_
  conv => whnf
  refine ⟨⟨I, I⟩, ?_⟩
  refine W.ret ?_
  refine EndsW.rt ?_
  conv => whnf
  refine ⟨⟨I, I, I⟩, ?_, rfl⟩
  rotate_left 1
  replace h9 := ndf h9
  refine W.skip ?_
  by_cases h10 : eights (Message.inputs m)
  refine g 5 120 [.b (true), .b (true), .b (true), .call (V.b (decide (eights (Message.inputs m)))) ([[]]), .b (true), .b (true), .b (true), .b (true), .b (false), .b (false), .b (false), .b (false), .b (true), .b (true)] ?_
  conv => whnf
  refine ⟨⟨I, I, ⟨decide_eq_true (by omega), I⟩, ⟨decide_eq_true (by omega), I⟩, ⟨decide_eq_true (by omega), ⟨I, I⟩, I, ⟨⟨I, I⟩, I⟩, ⟨I, I⟩, Go.K.c_spec_l2InputsOk _ (by omega)⟩, decide_eq_true (by omega), I, decide_eq_true (by omega), decide_eq_true (by omega), decide_eq_true (by omega), I, I, I, I, decide_eq_true (by omega), decide_eq_true (by omega), I, I⟩, ?_⟩
  refine W.ret ?_
  refine EndsW.rt ?_
  conv => whnf
  refine ⟨⟨I, I, I⟩, ?_, rfl⟩
  rotate_left 1
  refine g 5 120 [.b (true), .b (true), .b (true), .call (V.b (decide (eights (Message.inputs m)))) ([[]]), .b (true), .b (false), .b (false), .b (false), .b (false), .b (false), .b (false), .b (false), .b (false), .b (false), .b (false)] ?_
  conv => whnf
  refine ⟨⟨I, I, ⟨decide_eq_true (by omega), I⟩, ⟨decide_eq_true (by omega), I⟩, ⟨decide_eq_true (by omega), ⟨I, I⟩, I, ⟨⟨I, I⟩, I⟩, ⟨I, I⟩, Go.K.c_spec_l2InputsOk _ (by omega)⟩, decide_eq_true (by omega), I, ⟨decide_eq_false (by omega), I⟩, ⟨decide_eq_false (by omega), I⟩, ⟨decide_eq_false (by omega), I⟩, notF (by omega), notF (by omega), notF (by omega), notF (by omega), ⟨decide_eq_false (by omega), notF (by omega)⟩, decide_eq_false (by omega), I, I⟩, ?_⟩
  refine W.ret ?_
  refine EndsW.rt ?_
  conv => whnf
  refine ⟨⟨I, I, I⟩, ?_, rfl⟩
  rotate_left 1
  refine g 11 87 [.b (true), .b (true), .b (true), .call (V.b (decide ((1 : Int) ≤ Message.lease m ∧ Message.lease m ≤ (300000000 : Int)))) ([[]]), .b (true), .b (true), .b (false), .b (false), .b (false), .b (false), .b (false), .b (false), .b (false), .b (false), .b (false), .b (false), .b (false), .b (true), .b (true), .b (true), .call (V.b (decide ((0 : Int) ≤ Message.task m ∧ Message.task m ≤ (39 : Int)))) ([[], [], []]), .b (true), .b (false), .b (true), .b (false), .b (true), .b (true), .b (true), .b (false), .b (false), .b (false), .b (true), .b (true)] ?_
  conv => whnf
  refine ⟨⟨I, I, ⟨decide_eq_true (by omega), I⟩, ⟨decide_eq_true (by omega), I⟩, ⟨decide_eq_true (by omega), ⟨I, I⟩, I, ⟨⟨I, I⟩, I⟩, ⟨I, I⟩, Go.K.c_spec_l2LeaseOk _⟩, ⟨decide_eq_true (by omega), I⟩, decide_eq_true (by omega), I, ⟨notF (by omega), I⟩, ⟨notF (by omega), I⟩, ⟨notF (by omega), I⟩, notF (by omega), notF (by omega), notF (by omega), ⟨notF (by omega), notF (by omega)⟩, notF (by omega), I, ⟨rfl, I⟩, ⟨rfl, I⟩, ⟨decide_eq_true (by omega), I⟩, ⟨decide_eq_true (by omega), I⟩, ⟨decide_eq_true (by omega), ⟨I, I, I, I⟩, I, ⟨⟨I, I⟩, ⟨I, I⟩, ⟨I, I⟩, I⟩, ⟨I, I⟩, Go.K.c_spec_l2In _ _ _⟩, ⟨decide_eq_true (by omega), I⟩, ⟨rfl, decide_eq_true (by omega)⟩, rfl, I, notT (by omega), notT (by omega), notT (by omega), I, I, I, notT (by omega), notT (by omega), I⟩, ?_⟩
  refine W.cn ?_
  conv => whnf
  refine ⟨fun _ => ?_, noF (rfl)⟩
  refine g 3 4 [] ?_
  conv => whnf
  refine ⟨⟨I, I⟩, ?_⟩
  refine W.ret ?_
  refine EndsW.rt ?_
  conv => whnf
  refine ⟨⟨I, I, I⟩, ?_, rfl⟩
  rotate_left 1
  refine g 11 87 [.b (true), .b (true), .b (true), .call (V.b (decide ((1 : Int) ≤ Message.lease m ∧ Message.lease m ≤ (300000000 : Int)))) ([[]]), .b (true), .b (true), .b (false), .b (false), .b (false), .b (false), .b (false), .b (false), .b (false), .b (false), .b (false), .b (false), .b (false), .b (false), .b (false), .b (false), .b (false), .b (false), .b (false), .b (false), .b (false), .b (false), .b (false), .b (true), .b (true), .b (true), .b (false), .b (true), .b (false)] ?_
  conv => whnf
  refine ⟨⟨I, I, ⟨decide_eq_true (by omega), I⟩, ⟨decide_eq_true (by omega), I⟩, ⟨decide_eq_true (by omega), ⟨I, I⟩, I, ⟨⟨I, I⟩, I⟩, ⟨I, I⟩, Go.K.c_spec_l2LeaseOk _⟩, ⟨decide_eq_true (by omega), I⟩, decide_eq_true (by omega), I, ⟨notF (by omega), I⟩, ⟨notF (by omega), I⟩, ⟨notF (by omega), I⟩, notF (by omega), notF (by omega), notF (by omega), ⟨notF (by omega), notF (by omega)⟩, notF (by omega), I, ⟨rfl, I⟩, ⟨rfl, I⟩, decide_eq_false (by omega), decide_eq_false (by omega), decide_eq_false (by omega), decide_eq_false (by omega), ⟨rfl, decide_eq_false (by omega)⟩, rfl, I, ⟨rfl, I⟩, ⟨rfl, I⟩, ⟨rfl, I⟩, ⟨notT (by omega), I⟩, ⟨notT (by omega), I⟩, ⟨notT (by omega), I⟩, ⟨rfl, notT (by omega)⟩, rfl, I⟩, ?_⟩
  refine W.cn ?_
  conv => whnf
  refine ⟨fun h8 => ?_, fun h8 => ?_⟩
  replace h8 := ndt h8
  refine g 3 4 [] ?_
  conv => whnf
  refine ⟨⟨I, I⟩, ?_⟩
  refine W.ret ?_
  refine EndsW.rt ?_
  conv => whnf
  refine ⟨⟨I, I, I⟩, ?_, rfl⟩
  rotate_left 1
  replace h8 := ndf h8
  refine W.skip ?_
  refine W.sq ?_
  refine g 10 103 [.b (false), .b (false), .b (false), .b (false), .b (false), .b (false), .b (false), .b (false), .b (true), .b (true), .b (true), .b (false), .b (true), .b (false)] ?_
  conv => whnf
  refine ⟨⟨I, I, decide_eq_false (by omega), decide_eq_false (by omega), decide_eq_false (by omega), decide_eq_false (by omega), decide_eq_false (by omega), I, ⟨rfl, I⟩, ⟨rfl, I⟩, ⟨rfl, I⟩, ⟨notT (by omega), I⟩, ⟨notT (by omega), I⟩, ⟨notT (by omega), I⟩, ⟨rfl, notT (by omega)⟩, rfl, I⟩, ?_⟩
  refine W.cn ?_
  conv => whnf
  refine ⟨fun h9 => ?_, fun h9 => ?_⟩
  replace h9 := ndt h9
  refine g 7 9 [] ?_
  conv => whnf
  refine ⟨⟨I, I⟩, ?_⟩
  refine W.ret ?_
  refine EndsW.rt ?_
  conv => whnf
  refine ⟨⟨I, I, I⟩, ?_, rfl⟩
  rotate_left 1
  replace h9 := ndf h9
  refine W.skip ?_
  refine g 5 120 [.b (false), .b (false), .b (false), .b (false), .b (false), .b (false), .b (false), .b (true), .b (true), .b (true), .b (true), .b (false), .b (true), .b (false)] ?_
  conv => whnf
  refine ⟨⟨I, I, decide_eq_false (by omega), decide_eq_false (by omega), decide_eq_false (by omega), decide_eq_false (by omega), I, ⟨rfl, I⟩, ⟨rfl, I⟩, ⟨rfl, I⟩, ⟨notT (by omega), I⟩, ⟨notT (by omega), I⟩, ⟨notT (by omega), I⟩, ⟨notT (by omega), I⟩, ⟨rfl, notT (by omega)⟩, rfl, I, I⟩, ?_⟩
  refine W.ret ?_
  refine EndsW.rt ?_
  conv => whnf
  refine ⟨⟨I, I, I⟩, ?_, rfl⟩
  rotate_left 1
  refine g 11 87 [.b (true), .b (true), .b (true), .call (V.b (decide ((1 : Int) ≤ Message.lease m ∧ Message.lease m ≤ (300000000 : Int)))) ([[]]), .b (true), .b (true), .b (true), .b (true), .b (true), .b (false), .b (false), .b (false), .b (true), .b (true), .b (true), .b (true), .b (false), .b (false), .b (false), .b (false), .b (true), .b (true), .b (true), .b (true), .b (true), .b (false), .b (false), .b (false), .b (true), .b (true)] ?_
  conv => whnf
  refine ⟨⟨I, I, ⟨decide_eq_true (by omega), I⟩, ⟨decide_eq_true (by omega), I⟩, ⟨decide_eq_true (by omega), ⟨I, I⟩, I, ⟨⟨I, I⟩, I⟩, ⟨I, I⟩, Go.K.c_spec_l2LeaseOk _⟩, ⟨decide_eq_true (by omega), I⟩, decide_eq_true (by omega), I, notT (by omega), notT (by omega), notT (by omega), I, I, I, notT (by omega), notT (by omega), I, rfl, rfl, I, I, I, I, rfl, rfl, I, rfl, rfl, rfl, I, I, I, rfl, rfl, I⟩, ?_⟩
  refine W.cn ?_
  conv => whnf
  refine ⟨fun _ => ?_, noF (rfl)⟩
  refine g 3 4 [] ?_
  conv => whnf
  refine ⟨⟨I, I⟩, ?_⟩
  refine W.ret ?_
  refine EndsW.rt ?_
  conv => whnf
  refine ⟨⟨I, I, I⟩, ?_, rfl⟩
  rotate_left 1
  refine g 29 53 [.b (true), .b (true), .b (true), .b (true), .b (false), .b (false), .b (false), .call (V.b (decide ((1 : Int) ≤ Message.to m ∧ Message.to m ≤ (8 : Int)))) ([[], [], []]), .b (false), .b (true), .b (false), .b (true), .b (true), .b (true), .b (true), .b (false), .b (false), .b (false), .b (false), .b (false), .b (false), .b (false), .b (false), .b (false), .b (true), .b (true)] ?_
  conv => whnf
  refine ⟨⟨I, I, ⟨decide_eq_true (by omega), I⟩, ⟨decide_eq_true (by omega), I⟩, ⟨decide_eq_true (by omega), I⟩, ⟨decide_eq_true (by omega), I⟩, ⟨notF (by omega), I⟩, ⟨notF (by omega), I⟩, ⟨notF (by omega), ⟨I, I, I, I⟩, I, ⟨⟨I, I⟩, ⟨I, I⟩, ⟨I, I⟩, I⟩, ⟨I, I⟩, Go.K.c_spec_l2In _ _ _⟩, ⟨notF (by omega), I⟩, ⟨decide_eq_true (by omega), notF (by omega)⟩, decide_eq_true (by omega), I, notT (by omega), notT (by omega), notT (by omega), I, I, I, I, I, I, I, I, I, notT (by omega), notT (by omega), I⟩, ?_⟩
  refine W.cn ?_
  conv => whnf
  refine ⟨fun _ => ?_, noF (rfl)⟩
  refine g 11 16 [] ?_
  conv => whnf
  refine ⟨⟨I, I⟩, ?_⟩
  refine W.ret ?_
  refine EndsW.rt ?_
  conv => whnf
  refine ⟨⟨I, I, I⟩, ?_, rfl⟩
  rotate_left 1
  refine g 29 53 [.b (true), .b (true), .b (true), .b (true), .b (true), .b (true), .b (true), .b (true), .b (true), .b (true), .b (true), .b (true), .b (true), .b (true), .b (false), .b (false), .b (false), .b (false), .b (false), .b (false), .b (false), .b (false), .b (false), .b (true), .b (true)] ?_
  conv => whnf
  refine ⟨⟨I, I, ⟨decide_eq_true (by omega), I⟩, ⟨decide_eq_true (by omega), I⟩, ⟨decide_eq_true (by omega), I⟩, ⟨decide_eq_true (by omega), I⟩, notT (by omega), notT (by omega), notT (by omega), notT (by omega), ⟨decide_eq_true (by omega), notT (by omega)⟩, decide_eq_true (by omega), I, rfl, rfl, rfl, I, I, I, I, I, I, I, I, I, rfl, rfl, I⟩, ?_⟩
  refine W.cn ?_
  conv => whnf
  refine ⟨fun _ => ?_, noF (rfl)⟩
  refine g 11 16 [] ?_
  conv => whnf
  refine ⟨⟨I, I⟩, ?_⟩
  refine W.ret ?_
  refine EndsW.rt ?_
  conv => whnf
  refine ⟨⟨I, I, I⟩, ?_, rfl⟩
  rotate_left 1
  by_cases h4 : Message.to m = (0 : Int)
  refine g 29 53 [.b (false), .b (false), .b (false), .b (false), .b (false), .b (false), .b (false), .b (false), .b (false), .b (false), .b (false), .b (false), .b (false), .b (true), .b (true), .b (true), .b (true), .b (false), .b (false), .b (false), .call (V.b (decide ((1 : Int) ≤ Message.frm m ∧ Message.frm m ≤ (8 : Int)))) ([[], [], []]), .b (false), .b (true), .b (false), .b (false), .b (true), .b (false)] ?_
  conv => whnf
  refine ⟨⟨I, I, decide_eq_false (by omega), decide_eq_false (by omega), decide_eq_false (by omega), decide_eq_false (by omega), I, I, I, I, decide_eq_false (by omega), decide_eq_false (by omega), I, ⟨rfl, I⟩, ⟨rfl, I⟩, ⟨rfl, I⟩, ⟨notT (by omega), I⟩, ⟨notT (by omega), I⟩, ⟨notT (by omega), I⟩, ⟨notT (by omega), I⟩, ⟨notF (by omega), I⟩, ⟨notF (by omega), I⟩, ⟨notF (by omega), ⟨I, I, I, I⟩, I, ⟨⟨I, I⟩, ⟨I, I⟩, ⟨I, I⟩, I⟩, ⟨I, I⟩, Go.K.c_spec_l2In _ _ _⟩, ⟨notF (by omega), I⟩, ⟨notT (by omega), notF (by omega)⟩, ⟨rfl, notT (by omega)⟩, rfl, I⟩, ?_⟩
  refine W.cn ?_
  conv => whnf
  refine ⟨fun h5 => ?_, fun h5 => ?_⟩
  replace h5 := ndt h5
  refine g 11 16 [] ?_
  conv => whnf
  refine ⟨⟨I, I⟩, ?_⟩
  refine W.ret ?_
  refine EndsW.rt ?_
  conv => whnf
  refine ⟨⟨I, I, I⟩, ?_, rfl⟩
  rotate_left 1
  replace h5 := ndf h5
  refine W.skip ?_
  refine W.sq ?_
  by_cases h6 : (1 : Int) ≤ Message.kind m ∧ Message.kind m ≤ (4 : Int)
  by_cases h7 : (1 : Int) ≤ Message.lease m ∧ Message.lease m ≤ (300000000 : Int)
  by_cases h8 : Message.kind m = (1 : Int) ∨ Message.kind m = (3 : Int)
  by_cases h9 : (0 : Int) ≤ Message.task m ∧ Message.task m ≤ (39 : Int)
  refine g 11 87 [.b (true), .b (true), .b (true), .call (V.b (decide ((1 : Int) ≤ Message.lease m ∧ Message.lease m ≤ (300000000 : Int)))) ([[]]), .b (true), .b (true), .b (false), .b (false), .b (false), .b (false), .b (false), .b (false), .b (false), .b (false), .b (false), .b (false), .b (false), .b (true), .b (true), .b (true), .call (V.b (decide ((0 : Int) ≤ Message.task m ∧ Message.task m ≤ (39 : Int)))) ([[], [], []]), .b (true), .b (false), .b (true), .b (false), .b (false), .b (false), .b (false), .b (false), .b (false), .b (false), .b (false), .b (false), .b (false)] ?_
  conv => whnf
  refine ⟨⟨I, I, ⟨decide_eq_true (by omega), I⟩, ⟨decide_eq_true (by omega), I⟩, ⟨decide_eq_true (by omega), ⟨I, I⟩, I, ⟨⟨I, I⟩, I⟩, ⟨I, I⟩, Go.K.c_spec_l2LeaseOk _⟩, ⟨decide_eq_true (by omega), I⟩, decide_eq_true (by omega), I, ⟨notF (by omega), I⟩, ⟨notF (by omega), I⟩, ⟨notF (by omega), I⟩, notF (by omega), notF (by omega), notF (by omega), ⟨notF (by omega), notF (by omega)⟩, notF (by omega), I, ⟨rfl, I⟩, ⟨rfl, I⟩, ⟨decide_eq_true (by omega), I⟩, ⟨decide_eq_true (by omega), I⟩, ⟨decide_eq_true (by omega), ⟨I, I, I, I⟩, I, ⟨⟨I, I⟩, ⟨I, I⟩, ⟨I, I⟩, I⟩, ⟨I, I⟩, Go.K.c_spec_l2In _ _ _⟩, ⟨decide_eq_true (by omega), I⟩, ⟨rfl, decide_eq_true (by omega)⟩, rfl, I, ⟨notF (by omega), I⟩, ⟨notF (by omega), I⟩, ⟨notF (by omega), I⟩, notF (by omega), notF (by omega), notF (by omega), ⟨notF (by omega), notF (by omega)⟩, notF (by omega), I⟩, ?_⟩
  refine W.cn ?_
  conv => whnf
  refine ⟨noT (rfl), fun _ => ?_⟩
  refine W.skip ?_
  refine W.sq ?_
  by_cases h10 : (↑(ByteArray.size (Message.text m)) : Int) = (8 : Int)
  refine g 10 103 [.b (true), .b (true), .b (true), .b (true), .b (true), .b (false), .b (false), .b (false), .b (false), .b (false), .b (false), .b (false), .b (false), .b (false)] ?_
  conv => whnf
  refine ⟨⟨I, I, ⟨decide_eq_true (by omega), I⟩, ⟨decide_eq_true (by omega), I⟩, ⟨decide_eq_true (by omega), I⟩, ⟨decide_eq_true (by omega), I⟩, decide_eq_true (by omega), I, ⟨notF (by omega), I⟩, ⟨notF (by omega), I⟩, ⟨notF (by omega), I⟩, notF (by omega), notF (by omega), notF (by omega), ⟨notF (by omega), notF (by omega)⟩, notF (by omega), I⟩, ?_⟩
  refine W.cn ?_
  conv => whnf
  refine ⟨noT (rfl), fun _ => ?_⟩
  refine W.skip ?_
  refine g 5 120 [.b (false), .b (false), .b (false), .b (false), .b (false), .b (false), .b (false), .b (true), .b (true), .b (true), .b (true), .b (false), .b (true), .b (false)] ?_
  conv => whnf
  refine ⟨⟨I, I, decide_eq_false (by omega), decide_eq_false (by omega), decide_eq_false (by omega), decide_eq_false (by omega), I, ⟨rfl, I⟩, ⟨rfl, I⟩, ⟨rfl, I⟩, ⟨notT (by omega), I⟩, ⟨notT (by omega), I⟩, ⟨notT (by omega), I⟩, ⟨notT (by omega), I⟩, ⟨rfl, notT (by omega)⟩, rfl, I, I⟩, ?_⟩
  refine W.ret ?_
  refine EndsW.rt ?_
  conv => whnf
  refine ⟨⟨I, I, I⟩, ?_, rfl⟩
  rotate_left 1
  refine g 10 103 [.b (true), .b (true), .b (true), .b (true), .b (true), .b (true), .b (true), .b (true), .b (false), .b (false), .b (false), .b (true), .b (true)] ?_
  conv => whnf
  refine ⟨⟨I, I, ⟨decide_eq_true (by omega), I⟩, ⟨decide_eq_true (by omega), I⟩, ⟨decide_eq_true (by omega), I⟩, ⟨decide_eq_true (by omega), I⟩, decide_eq_true (by omega), I, notT (by omega), notT (by omega), notT (by omega), I, I, I, notT (by omega), notT (by omega), I⟩, ?_⟩
  refine W.cn ?_
  conv => whnf
  refine ⟨fun _ => ?_, noF (rfl)⟩
  refine g 7 9 [] ?_
  conv => whnf
  refine ⟨⟨I, I⟩, ?_⟩
  refine W.ret ?_
  refine EndsW.rt ?_
  conv => whnf
  refine ⟨⟨I, I, I⟩, ?_, rfl⟩
  rotate_left 1
  refine g 11 87 [.b (true), .b (true), .b (true), .call (V.b (decide ((1 : Int) ≤ Message.lease m ∧ Message.lease m ≤ (300000000 : Int)))) ([[]]), .b (true), .b (true), .b (false), .b (false), .b (false), .b (false), .b (false), .b (false), .b (false), .b (false), .b (false), .b (false), .b (false), .b (true), .b (true), .b (true), .call (V.b (decide ((0 : Int) ≤ Message.task m ∧ Message.task m ≤ (39 : Int)))) ([[], [], []]), .b (true), .b (false), .b (true), .b (false), .b (true), .b (true), .b (true), .b (false), .b (false), .b (false), .b (true), .b (true)] ?_
  conv => whnf
  refine ⟨⟨I, I, ⟨decide_eq_true (by omega), I⟩, ⟨decide_eq_true (by omega), I⟩, ⟨decide_eq_true (by omega), ⟨I, I⟩, I, ⟨⟨I, I⟩, I⟩, ⟨I, I⟩, Go.K.c_spec_l2LeaseOk _⟩, ⟨decide_eq_true (by omega), I⟩, decide_eq_true (by omega), I, ⟨notF (by omega), I⟩, ⟨notF (by omega), I⟩, ⟨notF (by omega), I⟩, notF (by omega), notF (by omega), notF (by omega), ⟨notF (by omega), notF (by omega)⟩, notF (by omega), I, ⟨rfl, I⟩, ⟨rfl, I⟩, ⟨decide_eq_true (by omega), I⟩, ⟨decide_eq_true (by omega), I⟩, ⟨decide_eq_true (by omega), ⟨I, I, I, I⟩, I, ⟨⟨I, I⟩, ⟨I, I⟩, ⟨I, I⟩, I⟩, ⟨I, I⟩, Go.K.c_spec_l2In _ _ _⟩, ⟨decide_eq_true (by omega), I⟩, ⟨rfl, decide_eq_true (by omega)⟩, rfl, I, notT (by omega), notT (by omega), notT (by omega), I, I, I, notT (by omega), notT (by omega), I⟩, ?_⟩
  refine W.cn ?_
  conv => whnf
  refine ⟨fun _ => ?_, noF (rfl)⟩
  refine g 3 4 [] ?_
  conv => whnf
  refine ⟨⟨I, I⟩, ?_⟩
  refine W.ret ?_
  refine EndsW.rt ?_
  conv => whnf
  refine ⟨⟨I, I, I⟩, ?_, rfl⟩
  rotate_left 1
  refine g 11 87 [.b (true), .b (true), .b (true), .call (V.b (decide ((1 : Int) ≤ Message.lease m ∧ Message.lease m ≤ (300000000 : Int)))) ([[]]), .b (true), .b (true), .b (false), .b (false), .b (false), .b (false), .b (false), .b (false), .b (false), .b (false), .b (false), .b (false), .b (false), .b (false), .b (false), .b (false), .b (false), .b (false), .b (false), .b (false), .b (false), .b (false), .b (false), .b (true), .b (true), .b (true), .b (false), .b (true), .b (false)] ?_
  conv => whnf
  refine ⟨⟨I, I, ⟨decide_eq_true (by omega), I⟩, ⟨decide_eq_true (by omega), I⟩, ⟨decide_eq_true (by omega), ⟨I, I⟩, I, ⟨⟨I, I⟩, I⟩, ⟨I, I⟩, Go.K.c_spec_l2LeaseOk _⟩, ⟨decide_eq_true (by omega), I⟩, decide_eq_true (by omega), I, ⟨notF (by omega), I⟩, ⟨notF (by omega), I⟩, ⟨notF (by omega), I⟩, notF (by omega), notF (by omega), notF (by omega), ⟨notF (by omega), notF (by omega)⟩, notF (by omega), I, ⟨rfl, I⟩, ⟨rfl, I⟩, decide_eq_false (by omega), decide_eq_false (by omega), decide_eq_false (by omega), decide_eq_false (by omega), ⟨rfl, decide_eq_false (by omega)⟩, rfl, I, ⟨rfl, I⟩, ⟨rfl, I⟩, ⟨rfl, I⟩, ⟨notT (by omega), I⟩, ⟨notT (by omega), I⟩, ⟨notT (by omega), I⟩, ⟨rfl, notT (by omega)⟩, rfl, I⟩, ?_⟩
  refine W.cn ?_
  conv => whnf
  refine ⟨fun h9 => ?_, fun h9 => ?_⟩
  replace h9 := ndt h9
  refine g 3 4 [] ?_
  conv => whnf
  refine ⟨⟨I, I⟩, ?_⟩
  refine W.ret ?_
  refine EndsW.rt ?_
  conv => whnf
  refine ⟨⟨I, I, I⟩, ?_, rfl⟩
  rotate_left 1
  replace h9 := ndf h9
  refine W.skip ?_
  refine W.sq ?_
  refine g 10 103 [.b (false), .b (false), .b (false), .b (false), .b (false), .b (false), .b (false), .b (false), .b (true), .b (true), .b (true), .b (false), .b (true), .b (false)] ?_
  conv => whnf
  refine ⟨⟨I, I, decide_eq_false (by omega), decide_eq_false (by omega), decide_eq_false (by omega), decide_eq_false (by omega), decide_eq_false (by omega), I, ⟨rfl, I⟩, ⟨rfl, I⟩, ⟨rfl, I⟩, ⟨notT (by omega), I⟩, ⟨notT (by omega), I⟩, ⟨notT (by omega), I⟩, ⟨rfl, notT (by omega)⟩, rfl, I⟩, ?_⟩
  refine W.cn ?_
  conv => whnf
  refine ⟨fun h10 => ?_, fun h10 => ?_⟩
  replace h10 := ndt h10
  refine g 7 9 [] ?_
  conv => whnf
  refine ⟨⟨I, I⟩, ?_⟩
  refine W.ret ?_
  refine EndsW.rt ?_
  conv => whnf
  refine ⟨⟨I, I, I⟩, ?_, rfl⟩
  rotate_left 1
  replace h10 := ndf h10
  refine W.skip ?_
  refine g 5 120 [.b (false), .b (false), .b (false), .b (false), .b (false), .b (false), .b (false), .b (true), .b (true), .b (true), .b (true), .b (false), .b (true), .b (false)] ?_
  conv => whnf
  refine ⟨⟨I, I, decide_eq_false (by omega), decide_eq_false (by omega), decide_eq_false (by omega), decide_eq_false (by omega), I, ⟨rfl, I⟩, ⟨rfl, I⟩, ⟨rfl, I⟩, ⟨notT (by omega), I⟩, ⟨notT (by omega), I⟩, ⟨notT (by omega), I⟩, ⟨notT (by omega), I⟩, ⟨rfl, notT (by omega)⟩, rfl, I, I⟩, ?_⟩
  refine W.ret ?_
  refine EndsW.rt ?_
  conv => whnf
  refine ⟨⟨I, I, I⟩, ?_, rfl⟩
  rotate_left 1
  refine g 11 87 [.b (true), .b (true), .b (true), .call (V.b (decide ((1 : Int) ≤ Message.lease m ∧ Message.lease m ≤ (300000000 : Int)))) ([[]]), .b (true), .b (true), .b (true), .b (true), .b (true), .b (false), .b (false), .b (false), .b (true), .b (true), .b (true), .b (true), .b (false), .b (false), .b (false), .b (false), .b (true), .b (true), .b (true), .b (true), .b (true), .b (false), .b (false), .b (false), .b (true), .b (true)] ?_
  conv => whnf
  refine ⟨⟨I, I, ⟨decide_eq_true (by omega), I⟩, ⟨decide_eq_true (by omega), I⟩, ⟨decide_eq_true (by omega), ⟨I, I⟩, I, ⟨⟨I, I⟩, I⟩, ⟨I, I⟩, Go.K.c_spec_l2LeaseOk _⟩, ⟨decide_eq_true (by omega), I⟩, decide_eq_true (by omega), I, notT (by omega), notT (by omega), notT (by omega), I, I, I, notT (by omega), notT (by omega), I, rfl, rfl, I, I, I, I, rfl, rfl, I, rfl, rfl, rfl, I, I, I, rfl, rfl, I⟩, ?_⟩
  refine W.cn ?_
  conv => whnf
  refine ⟨fun _ => ?_, noF (rfl)⟩
  refine g 3 4 [] ?_
  conv => whnf
  refine ⟨⟨I, I⟩, ?_⟩
  refine W.ret ?_
  refine EndsW.rt ?_
  conv => whnf
  refine ⟨⟨I, I, I⟩, ?_, rfl⟩
  rotate_left 1
  by_cases h7 : Message.lease m = (0 : Int)
  refine g 11 87 [.b (false), .b (false), .b (false), .b (false), .b (false), .b (false), .b (false), .b (false), .b (true), .b (true), .b (true), .b (false), .b (true), .b (false), .b (false), .b (false), .b (false), .b (false), .b (false), .b (false), .b (false), .b (false), .b (false), .b (false), .b (false), .b (false), .b (true), .b (true), .b (true), .b (false), .b (true), .b (false)] ?_
  conv => whnf
  refine ⟨⟨I, I, decide_eq_false (by omega), decide_eq_false (by omega), decide_eq_false (by omega), decide_eq_false (by omega), decide_eq_false (by omega), I, ⟨rfl, I⟩, ⟨rfl, I⟩, ⟨rfl, I⟩, ⟨notT (by omega), I⟩, ⟨notT (by omega), I⟩, ⟨notT (by omega), I⟩, ⟨rfl, notT (by omega)⟩, rfl, I, ⟨notF (by omega), I⟩, ⟨notF (by omega), I⟩, decide_eq_false (by omega), decide_eq_false (by omega), decide_eq_false (by omega), decide_eq_false (by omega), ⟨notF (by omega), decide_eq_false (by omega)⟩, notF (by omega), I, ⟨rfl, I⟩, ⟨rfl, I⟩, ⟨rfl, I⟩, ⟨notT (by omega), I⟩, ⟨notT (by omega), I⟩, ⟨notT (by omega), I⟩, ⟨rfl, notT (by omega)⟩, rfl, I⟩, ?_⟩
  refine W.cn ?_
  conv => whnf
  refine ⟨fun h8 => ?_, fun h8 => ?_⟩
  replace h8 := ndt h8
  refine g 3 4 [] ?_
  conv => whnf
  refine ⟨⟨I, I⟩, ?_⟩
  refine W.ret ?_
  refine EndsW.rt ?_
  conv => whnf
  refine ⟨⟨I, I, I⟩, ?_, rfl⟩
  rotate_left 1
  replace h8 := ndf h8
  refine W.skip ?_
  refine W.sq ?_
  refine g 10 103 [.b (false), .b (false), .b (false), .b (false), .b (false), .b (false), .b (false), .b (false), .b (true), .b (true), .b (true), .b (false), .b (true), .b (false)] ?_
  conv => whnf
  refine ⟨⟨I, I, decide_eq_false (by omega), decide_eq_false (by omega), decide_eq_false (by omega), decide_eq_false (by omega), decide_eq_false (by omega), I, ⟨rfl, I⟩, ⟨rfl, I⟩, ⟨rfl, I⟩, ⟨notT (by omega), I⟩, ⟨notT (by omega), I⟩, ⟨notT (by omega), I⟩, ⟨rfl, notT (by omega)⟩, rfl, I⟩, ?_⟩
  refine W.cn ?_
  conv => whnf
  refine ⟨fun h9 => ?_, fun h9 => ?_⟩
  replace h9 := ndt h9
  refine g 7 9 [] ?_
  conv => whnf
  refine ⟨⟨I, I⟩, ?_⟩
  refine W.ret ?_
  refine EndsW.rt ?_
  conv => whnf
  refine ⟨⟨I, I, I⟩, ?_, rfl⟩
  rotate_left 1
  replace h9 := ndf h9
  refine W.skip ?_
  refine g 5 120 [.b (false), .b (false), .b (false), .b (false), .b (false), .b (false), .b (false), .b (true), .b (true), .b (true), .b (true), .b (false), .b (true), .b (false)] ?_
  conv => whnf
  refine ⟨⟨I, I, decide_eq_false (by omega), decide_eq_false (by omega), decide_eq_false (by omega), decide_eq_false (by omega), I, ⟨rfl, I⟩, ⟨rfl, I⟩, ⟨rfl, I⟩, ⟨notT (by omega), I⟩, ⟨notT (by omega), I⟩, ⟨notT (by omega), I⟩, ⟨notT (by omega), I⟩, ⟨rfl, notT (by omega)⟩, rfl, I, I⟩, ?_⟩
  refine W.ret ?_
  refine EndsW.rt ?_
  conv => whnf
  refine ⟨⟨I, I, I⟩, ?_, rfl⟩
  rotate_left 1
  refine g 11 87 [.b (false), .b (false), .b (false), .b (false), .b (false), .b (false), .b (false), .b (false), .b (true), .b (true), .b (true), .b (false), .b (true), .b (false), .b (true), .b (true), .b (false), .b (false), .b (false), .b (false), .b (true), .b (true), .b (true), .b (true), .b (true), .b (false), .b (false), .b (false), .b (true), .b (true)] ?_
  conv => whnf
  refine ⟨⟨I, I, decide_eq_false (by omega), decide_eq_false (by omega), decide_eq_false (by omega), decide_eq_false (by omega), decide_eq_false (by omega), I, ⟨rfl, I⟩, ⟨rfl, I⟩, ⟨rfl, I⟩, ⟨notT (by omega), I⟩, ⟨notT (by omega), I⟩, ⟨notT (by omega), I⟩, ⟨rfl, notT (by omega)⟩, rfl, I, notT (by omega), notT (by omega), I, I, I, I, notT (by omega), notT (by omega), I, rfl, rfl, rfl, I, I, I, rfl, rfl, I⟩, ?_⟩
  refine W.cn ?_
  conv => whnf
  refine ⟨fun _ => ?_, noF (rfl)⟩
  refine g 3 4 [] ?_
  conv => whnf
  refine ⟨⟨I, I⟩, ?_⟩
  refine W.ret ?_
  refine EndsW.rt ?_
  conv => whnf
  refine ⟨⟨I, I, I⟩, ?_, rfl⟩
  rotate_left 1
  refine g 29 53 [.b (false), .b (false), .b (false), .b (false), .b (false), .b (false), .b (false), .b (false), .b (false), .b (false), .b (false), .b (false), .b (false), .b (true), .b (true), .b (true), .b (true), .b (true), .b (true), .b (true), .b (true), .b (true), .b (true), .b (false), .b (true), .b (false)] ?_
  conv => whnf
  refine ⟨⟨I, I, decide_eq_false (by omega), decide_eq_false (by omega), decide_eq_false (by omega), decide_eq_false (by omega), I, I, I, I, decide_eq_false (by omega), decide_eq_false (by omega), I, ⟨rfl, I⟩, ⟨rfl, I⟩, ⟨rfl, I⟩, ⟨notT (by omega), I⟩, ⟨notT (by omega), I⟩, ⟨notT (by omega), I⟩, ⟨notT (by omega), I⟩, notT (by omega), notT (by omega), notT (by omega), notT (by omega), ⟨notT (by omega), notT (by omega)⟩, ⟨rfl, notT (by omega)⟩, rfl, I⟩, ?_⟩
  refine W.cn ?_
  conv => whnf
  refine ⟨fun _ => ?_, noF (rfl)⟩
  refine g 11 16 [] ?_
  conv => whnf
  refine ⟨⟨I, I⟩, ?_⟩
  refine W.ret ?_
  refine EndsW.rt ?_
  conv => whnf
  refine ⟨⟨I, I, I⟩, ?_, rfl⟩
  rotate_left 1
  refine g 13 15 [.call (V.b (decide ((1 : Int) ≤ Message.kind m ∧ Message.kind m ≤ (5 : Int)))) ([[], [], []]), .b (true), .b (true), .b (true), .b (true), .b (true)] ?_
  conv => whnf
  refine ⟨⟨I, I, ⟨⟨I, I, I, I⟩, I, ⟨⟨I, I⟩, ⟨I, I⟩, ⟨I, I⟩, I⟩, ⟨I, I⟩, Go.K.c_spec_l2In _ _ _⟩, I, I, notT (by omega), notT (by omega), notT (by omega), notT (by omega), notT (by omega), I⟩, ?_⟩
  refine W.cn ?_
  conv => whnf
  refine ⟨fun _ => ?_, noF (rfl)⟩
  refine g 8 9 [] ?_
  conv => whnf
  refine ⟨⟨I, I⟩, ?_⟩
  refine W.ret ?_
  refine EndsW.rt ?_
  conv => whnf
  refine ⟨⟨I, I, I⟩, ?_, rfl⟩
  rotate_left 1
  all_goals (try simp only [List.length_map, decide_eq_true_eq, Bool.not_eq_true, Bool.not_eq_true', decide_eq_false_iff_not] at *)
  all_goals first
    | exact vbf (by unfold msgOk; grind)
    | exact vbt (by unfold msgOk; grind)
    | exact vbd (by unfold msgOk; grind)
end Go.K

end

section
set_option linter.unusedVariables false
set_option linter.unusedSimpArgs false
set_option maxHeartbeats 4000000
set_option maxRecDepth 20000
open Go Go.Tm Go.Proofs
namespace Go.K
def hdrM (m : Message) : List Int := [m.kind, m.frm, m.to, m.epoch / 256, m.epoch % 256, m.lease / 16777216, m.lease / 65536 % 256, m.lease / 256 % 256, m.lease % 256, m.task, m.inputs.length]
def catS : List ByteArray → ByteArray
  | [] => emp
  | x :: l => x ++ catS l
theorem emp_l (s : ByteArray) : emp ++ s = s := by apply ByteArray.ext; simp [emp]
theorem emp_r (s : ByteArray) : s ++ emp = s := by apply ByteArray.ext; simp [emp]
theorem catS_app : ∀ a b, catS (a ++ b) = catS a ++ catS b
  | [], b => by simp only [List.nil_append, catS, emp_l]
  | x :: a, b => by simp only [List.cons_append, catS, catS_app a b, ByteArray.append_assoc]
theorem catS_take {xs : List ByteArray} {n : Nat} {x : ByteArray} (h : xs[n]? = some x) : catS (xs.take (n + 1)) = catS (xs.take n) ++ x := by
  rw [List.take_add_one, h, catS_app]; simp only [Option.toList, catS, emp_r]
def bodyM (m : Message) : ByteArray := bl (hdrM m) ++ m.text ++ catS m.inputs
theorem bytesT_bl {l : List Int} (h : ∀ n ∈ l, 0 ≤ n ∧ n ≤ 255) : bytesT (bl l) = l.map b1T := by
  unfold bytesT bl b1T
  simp only [List.map_map]
  apply List.map_congr_left
  intro n hn
  obtain ⟨h1, h2⟩ := h n hn
  simp only [Function.comp]
  congr 4
  simp; omega
theorem ok_inputs {m : Message} (h : msgOk m) : m.inputs.length ≤ 8 ∧ (∀ s ∈ m.inputs, s.size = 8) ∧ m.text.size ≤ 8 := by
  have he : emp.size = 0 := rfl
  obtain ⟨_, h | h | h | h | h⟩ := h
  · obtain ⟨_, _, _, _, _, h1, h2, h3⟩ := h
    exact ⟨h3, h2, by rw [h1]; omega⟩
  all_goals
    obtain ⟨_, _, _, _, _, h1, h2⟩ := h
    have : m.inputs = [] := List.eq_nil_of_length_eq_zero (by omega)
    rw [this]
    refine ⟨by simp, (fun s hs => nomatch hs), ?_⟩
    first
      | (rw [h1]; omega)
      | omega
theorem ok_ranges {m : Message} (h : msgOk m) : (1 ≤ m.kind ∧ m.kind ≤ 5) ∧ (0 ≤ m.frm ∧ m.frm ≤ 8) ∧ (0 ≤ m.to ∧ m.to ≤ 8) ∧ (1 ≤ m.epoch ∧ m.epoch ≤ 300) ∧ (0 ≤ m.lease ∧ m.lease ≤ 300000000) ∧ (0 ≤ m.task ∧ m.task ≤ 39) := by
  obtain ⟨h0, h | h | h | h | h⟩ := h
  all_goals
    obtain ⟨h1, h2, h3, h4, h5, _⟩ := h
    refine ⟨?_, ?_, ?_, h0, ?_, ?_⟩ <;> omega
theorem hdr_range {m : Message} (h : msgOk m) : ∀ n ∈ hdrM m, 0 ≤ n ∧ n ≤ 255 := by
  obtain ⟨h1, h2, h3, h4, h5, h6⟩ := ok_ranges h
  have h7 := (ok_inputs h).1
  intro n hn
  simp only [hdrM, List.mem_cons, List.not_mem_nil, or_false] at hn
  rcases hn with rfl | rfl | rfl | rfl | rfl | rfl | rfl | rfl | rfl | rfl | rfl <;> omega
def bodyN (m : Message) (n : Nat) : ByteArray := bl (hdrM m) ++ m.text ++ catS (m.inputs.take n)
theorem bodyN_zero (m : Message) : bodyN m 0 = bl (hdrM m) ++ m.text := by unfold bodyN; rw [List.take_zero, catS, emp_r]
theorem bodyN_succ {m : Message} {n : Nat} {x : ByteArray} (h : m.inputs[n]? = some x) : bytesT (bodyN m n) ++ bytesT x = bytesT (bodyN m (n + 1)) := by
  unfold bodyN; rw [catS_take h, ← bytesT_app]; simp only [ByteArray.append_assoc]
theorem bodyN_all (m : Message) : bodyN m m.inputs.length = bodyM m := by unfold bodyN bodyM; rw [List.take_length]
theorem bodyN_size {m : Message} (h : msgOk m) (n : Nat) (hn : n ≤ m.inputs.length) : (bodyN m n).size = 11 + m.text.size + 8 * n := by
  obtain ⟨h7, h8, h9⟩ := ok_inputs h
  induction n with
  | zero => rw [bodyN_zero, ByteArray.size_append, bl_size]; rfl
  | succ k ih =>
    have hk : k < m.inputs.length := by omega
    have := congrArg List.length (bodyN_succ (List.getElem?_eq_getElem hk))
    rw [List.length_append, bytesT_len, bytesT_len, bytesT_len, ih (by omega), h8 _ (List.getElem_mem hk)] at this
    omega
theorem body_start {m : Message} (h : msgOk m) : [m.kind, m.frm, m.to, IntKind.u8.wrap (IntKind.i64.wrap (m.epoch.tdiv 256)), IntKind.u8.wrap (m.epoch.tmod 256), IntKind.u8.wrap (IntKind.i64.wrap (m.lease.tdiv 16777216)), IntKind.u8.wrap ((IntKind.i64.wrap (m.lease.tdiv 65536)).tmod 256), IntKind.u8.wrap ((IntKind.i64.wrap (m.lease.tdiv 256)).tmod 256), IntKind.u8.wrap (m.lease.tmod 256), m.task, IntKind.u8.wrap ((m.inputs.map strT).length : Int)].map b1T ++ bytesT m.text = bytesT (bodyN m 0) := by
  obtain ⟨h1, h2, h3, h4, h5, h6⟩ := ok_ranges h
  have h7 := (ok_inputs h).1
  rw [bodyN_zero, bytesT_app, bytesT_bl (hdr_range h)]
  unfold hdrM
  rw [List.length_map, Int.tdiv_eq_ediv_of_nonneg (by omega), Int.tdiv_eq_ediv_of_nonneg (by omega), Int.tdiv_eq_ediv_of_nonneg (by omega), Int.tdiv_eq_ediv_of_nonneg (by omega), w64 (z := m.lease / 65536) (by omega) (by omega), w64 (z := m.lease / 256) (by omega) (by omega), w64 (z := m.lease / 16777216) (by omega) (by omega), w64 (z := m.epoch / 256) (by omega) (by omega), Int.tmod_eq_emod_of_nonneg (by omega), Int.tmod_eq_emod_of_nonneg (by omega), Int.tmod_eq_emod_of_nonneg (by omega), Int.tmod_eq_emod_of_nonneg (by omega), wu8 (by omega) (by omega), wu8 (by omega) (by omega), wu8 (by omega) (by omega), wu8 (by omega) (by omega), wu8 (by omega) (by omega), wu8 (by omega) (by omega), wu8 (by omega) (by omega)]
theorem c_spec_l2Body (m : Message) (h : msgOk m) : F n_spec_l2Body [.val (messageR m)] (.s (bodyM m)) [[]] := by
  obtain ⟨h1, h2, h3, h4, h5, h6⟩ := ok_ranges h
  obtain ⟨h7, h8, h9⟩ := ok_inputs h
  refine i_spec_l2Body ?_
  conv => whnf
  refine g 0 0 [] ?_
  conv => whnf
  refine ⟨⟨⟨I, I, I, I, I, I, I, I, I⟩, I, I⟩, ?_⟩
  refine g 0 0 [] ?_
  conv => whnf
  refine ⟨⟨I, I, I, I⟩, ?_⟩
  refine g 10 47 [.i (Message.kind m), .i (Message.frm m), .i (Message.to m), .i (IntKind.wrap IntKind.i64 (Int.tdiv (Message.epoch m) (256 : Int))), .i (IntKind.wrap IntKind.u8 (IntKind.wrap IntKind.i64 (Int.tdiv (Message.epoch m) (256 : Int)))), .i (Int.tmod (Message.epoch m) (256 : Int)), .i (IntKind.wrap IntKind.u8 (Int.tmod (Message.epoch m) (256 : Int))), .i (IntKind.wrap IntKind.i64 (Int.tdiv (Message.lease m) (16777216 : Int))), .i (IntKind.wrap IntKind.u8 (IntKind.wrap IntKind.i64 (Int.tdiv (Message.lease m) (16777216 : Int)))), .i (IntKind.wrap IntKind.i64 (Int.tdiv (Message.lease m) (65536 : Int))), .i (Int.tmod (IntKind.wrap IntKind.i64 (Int.tdiv (Message.lease m) (65536 : Int))) (256 : Int)), .i (IntKind.wrap IntKind.u8 (Int.tmod (IntKind.wrap IntKind.i64 (Int.tdiv (Message.lease m) (65536 : Int))) (256 : Int))), .i (IntKind.wrap IntKind.i64 (Int.tdiv (Message.lease m) (256 : Int))), .i (Int.tmod (IntKind.wrap IntKind.i64 (Int.tdiv (Message.lease m) (256 : Int))) (256 : Int)), .i (IntKind.wrap IntKind.u8 (Int.tmod (IntKind.wrap IntKind.i64 (Int.tdiv (Message.lease m) (256 : Int))) (256 : Int))), .i (Int.tmod (Message.lease m) (256 : Int)), .i (IntKind.wrap IntKind.u8 (Int.tmod (Message.lease m) (256 : Int))), .i (Message.task m), .i (IntKind.wrap IntKind.u8 (↑(List.length (List.map strT (Message.inputs m))) : Int))] ?_
  conv => whnf
  refine ⟨⟨I, I, wu8 (by omega) (by omega), I, I, wu8 (by omega) (by omega), I, I, wu8 (by omega) (by omega), I, I, ⟨(by omega), rfl⟩, rfl, I, I, ⟨(by omega), rfl⟩, rfl, I, ⟨(by omega), rfl⟩, rfl, I, ⟨(by omega), rfl⟩, ⟨(by omega), rfl⟩, rfl, I, ⟨(by omega), rfl⟩, ⟨(by omega), rfl⟩, rfl, I, ⟨(by omega), rfl⟩, rfl, I, I, wu8 (by omega) (by omega), I, I, I, rfl, ⟨⟨I, I⟩, ⟨I, I⟩, ⟨I, I⟩, ⟨I, I⟩, ⟨I, I⟩, ⟨I, I⟩, ⟨I, I⟩, ⟨I, I⟩, ⟨I, I⟩, ⟨I, I⟩, ⟨I, I⟩, I⟩, I, I⟩, ?_⟩
  refine g 47 51 [] ?_
  conv => whnf
  refine ⟨⟨I, I, I, ⟨I, I, (by simp only [List.length_map, List.length_append, List.length_set, List.length_replicate, List.length_cons, List.length_nil, List.length_take, List.length_drop, fill_len, fillI_len, List.length_range, bytesT_len]; omega)⟩, I, I⟩, ?_⟩
  refine W.sq ?_
  refine g 6 9 [] ?_
  conv => whnf
  refine ⟨⟨I, I⟩, ?_⟩
  refine W.blk ?_
  refine W.lp (fun s (n : Nat) => ⟨[(1, s.s 1), (2, s.s 2), (4, .ref ⟨4, none, 0⟩), (5, .i n), (9, s.s 9)], [(1, [s.c 1 0, s.c 1 1, s.c 1 2, s.c 1 3, s.c 1 4, s.c 1 5, s.c 1 6, s.c 1 7]), (4, [.own [false] (bytesT (bodyN m n))])], []⟩) (fun (n : Nat) => n ≤ m.inputs.length) (fun (n : Nat) => m.inputs.length - n) (0) [some 1, some 50] [] ⟨rfl, ⟨rfl, rfl, rfl, rfl, rfl, I⟩, ⟨⟨rfl, ⟨rfl, ⟨rfl, ⟨rfl, ⟨rfl, ⟨rfl, ⟨rfl, ⟨rfl, ⟨rfl, I⟩⟩⟩⟩⟩⟩⟩⟩⟩, ⟨⟨rfl, ⟨(congrArg (V.own _) (body_start h)), I⟩⟩, I⟩⟩, I⟩ (by omega) ?_
  intro n hn
  have hc := bodyN_size h n hn
  have hb := bytesT_len (bodyN m n)
  conv => whnf
  refine W.sq ?_
  refine g 51 55 [] ?_
  conv => whnf
  refine ⟨⟨I, I, I, I, I, I⟩, ?_⟩
  refine W.cn ?_
  conv => whnf
  refine ⟨fun h10 => ?_, fun h10 => ?_⟩
  replace h10 := dt h10
  simp only [List.length_map] at h10
  refine W.skip ?_
  refine W.sq ?_
  refine W.blk ?_
  obtain ⟨y1, hy1⟩ := some_at (xs := Message.inputs m) (n := n) (by omega)
  have hm1 := h8 y1 (List.mem_of_getElem? hy1)
  refine rg [.x (strT y1)] ?_
  conv => whnf
  refine ⟨⟨I, I, I, I, ⟨(by omega), ixl (by assumption)⟩, I, ⟨I, I, (by simp only [List.length_map, List.length_append, List.length_set, List.length_replicate, List.length_cons, List.length_nil, List.length_take, List.length_drop, fill_len, fillI_len, List.length_range, bytesT_len]; omega)⟩, I, I⟩, ?_⟩
  refine rg [.i ((↑n : Int) + (1 : Int))] ?_
  conv => whnf
  refine ⟨⟨I, w64 (by omega) (by omega), I, I⟩, ?_⟩
  rotate_left 1
  replace h10 := df h10
  simp only [List.length_map] at h10
  refine W.exit ?_
  refine g 55 67 [.s (bodyN m n)] ?_
  conv => whnf
  refine ⟨⟨I, ⟨I, allU8_bytesT _, (bytesOf_bytesT _).symm⟩, I, I⟩, ?_⟩
  refine W.ret ?_
  refine EndsW.rt ?_
  conv => whnf
  refine ⟨⟨I, I, I⟩, ?_, rfl⟩
  rotate_left 1
  · refine ⟨n + 1, [some 1, some 64], [], ⟨rfl, ⟨rfl, rfl, rfl, rfl, rfl, I⟩, ⟨⟨rfl, ⟨rfl, ⟨rfl, ⟨rfl, ⟨rfl, ⟨rfl, ⟨rfl, ⟨rfl, ⟨rfl, I⟩⟩⟩⟩⟩⟩⟩⟩⟩, ⟨⟨rfl, ⟨(congrArg (V.own _) (bodyN_succ (by assumption))), I⟩⟩, I⟩⟩, I⟩, ?_, ?_⟩
    rotate_left 1
    (dsimp only; omega)
    dsimp only
    omega
  · exact vs (by rw [show n = m.inputs.length from by omega, bodyN_all])
end Go.K

end

section
set_option linter.unusedVariables false
set_option linter.unusedSimpArgs false
set_option maxHeartbeats 4000000
set_option maxRecDepth 20000
open Go Go.Tm Go.Proofs
namespace Go.K
attribute [local irreducible] ByteArray.extract
def formM (m : Message) (key : ByteArray) : ByteArray := if msgOk m ∧ key.size ≤ 30 then sealT (bodyM m) key ++ bodyM m else emp
theorem bodyM_size {m : Message} (h : msgOk m) : (bodyM m).size = 11 + m.text.size + 8 * m.inputs.length := by
  rw [← bodyN_all, bodyN_size h _ (Nat.le_refl _)]
theorem c_spec_FormMessage (m : Message) (key : ByteArray) (hl : m.inputs.length ≤ 9223372036854775806) : F n_spec_FormMessage [.val (messageR m), .val (.s key)] (.s (formM m key)) [[], []] := by
  have c1 := c_spec_l2Ok m hl
  have c2 := c_spec_l2Body m
  by_cases h : msgOk m
  · have hb := bodyM_size h
    obtain ⟨h7, h8, h9⟩ := ok_inputs h
    rw [show decide (msgOk m) = true from decide_eq_true h] at c1
    have c3 := c2 h
    clear c2
    by_cases hk : key.size ≤ 30
    · have c4 := c_spec_l1Sum (key ++ nul ++ bodyM m) (by rw [ByteArray.size_append, ByteArray.size_append]; have : nul.size = 1 := rfl; omega)
      rw [fnvs_all, show bl (beL (fnvA h0v (key ++ nul ++ bodyM m)) 8) = sealT (bodyM m) key from rfl] at c4
      have hn : nul.size = 1 := rfl
      have h2 : (sealT (bodyM m) key).size = 8 := sumT_size _
      refine i_spec_FormMessage ?_
      conv => whnf
      refine g 0 1 [] ?_
      conv => whnf
      refine ⟨⟨⟨I, I, I, I, I, I, I, I, I⟩, I, I⟩, ?_⟩
      refine W.sq ?_
      refine g 6 9 [.call (V.b true) ([[]]), .b (false), .b (false), .b (false), .b (false)] ?_
      conv => whnf
      refine ⟨⟨I, ⟨⟨I, I⟩, I, ⟨⟨I, I, I, I, I, I, I, I, I⟩, I⟩, ⟨I, I⟩, (by assumption)⟩, I, I, ⟨rfl, I⟩, ⟨rfl, I⟩, ⟨rfl, I⟩, rfl, I⟩, ?_⟩
      refine W.cn ?_
      conv => whnf
      refine ⟨noT (decide_eq_false (by omega)), fun _ => ?_⟩
      refine W.skip ?_
      refine g 10 16 [.call (V.s (bodyM m)) ([[]])] ?_
      conv => whnf
      refine ⟨⟨I, ⟨⟨I, I⟩, I, ⟨⟨I, I, I, I, I, I, I, I, I⟩, I⟩, ⟨I, I⟩, (by assumption)⟩, I, I⟩, ?_⟩
      refine g 16 23 [.s (key ++ { data := #[(0 : UInt8)] : ByteArray }), .s (key ++ { data := #[(0 : UInt8)] : ByteArray } ++ bodyM m), .call (V.s (sealT (bodyM m) key)) ([[]]), .s (sealT (bodyM m) key ++ bodyM m)] ?_
      conv => whnf
      refine ⟨⟨I, ⟨rfl, (by simp only [bsz, bsa, ByteArray.size_append, List.size_toArray, List.length_map, List.length_append, List.length_set, List.length_replicate, List.length_cons, List.length_nil, List.length_take, List.length_drop, fill_len, fillI_len, List.length_range, bytesT_len]; omega)⟩, I, ⟨rfl, (by simp only [bsz, bsa, ByteArray.size_append, List.size_toArray, List.length_map, List.length_append, List.length_set, List.length_replicate, List.length_cons, List.length_nil, List.length_take, List.length_drop, fill_len, fillI_len, List.length_range, bytesT_len]; omega)⟩, ⟨⟨I, I⟩, I, ⟨⟨I, I⟩, I⟩, ⟨I, I⟩, (by assumption)⟩, I, ⟨rfl, (by omega)⟩, I, I⟩, ?_⟩
      refine W.ret ?_
      refine EndsW.rt ?_
      conv => whnf
      refine ⟨⟨I, I, I⟩, ?_, rfl⟩
      exact vs (if_pos ⟨h, hk⟩).symm
    · refine i_spec_FormMessage ?_
      conv => whnf
      refine g 0 1 [] ?_
      conv => whnf
      refine ⟨⟨⟨I, I, I, I, I, I, I, I, I⟩, I, I⟩, ?_⟩
      refine W.sq ?_
      refine g 6 9 [.call (V.b true) ([[]]), .b (false), .b (false), .b (false), .b (false)] ?_
      conv => whnf
      refine ⟨⟨I, ⟨⟨I, I⟩, I, ⟨⟨I, I, I, I, I, I, I, I, I⟩, I⟩, ⟨I, I⟩, (by assumption)⟩, I, I, ⟨rfl, I⟩, ⟨rfl, I⟩, ⟨rfl, I⟩, rfl, I⟩, ?_⟩
      refine W.cn ?_
      conv => whnf
      refine ⟨fun _ => ?_, noF (decide_eq_true (by omega))⟩
      refine g 10 14 [] ?_
      conv => whnf
      refine ⟨⟨I, I⟩, ?_⟩
      refine W.ret ?_
      refine EndsW.rt ?_
      conv => whnf
      refine ⟨⟨I, I, I⟩, ?_, rfl⟩
      exact vs (if_neg (fun h => hk h.2)).symm
  · rw [show decide (msgOk m) = false from decide_eq_false h] at c1
    clear c2
    refine i_spec_FormMessage ?_
    conv => whnf
    refine g 0 1 [] ?_
    conv => whnf
    refine ⟨⟨⟨I, I, I, I, I, I, I, I, I⟩, I, I⟩, ?_⟩
    refine W.sq ?_
    refine g 6 9 [.call (V.b false) ([[]]), .b (true), .b (true), .b (true), .b (true)] ?_
    conv => whnf
    refine ⟨⟨I, ⟨⟨I, I⟩, I, ⟨⟨I, I, I, I, I, I, I, I, I⟩, I⟩, ⟨I, I⟩, (by assumption)⟩, I, I, rfl, rfl, rfl, rfl, I⟩, ?_⟩
    refine W.cn ?_
    conv => whnf
    refine ⟨fun _ => ?_, noF (rfl)⟩
    refine g 10 14 [] ?_
    conv => whnf
    refine ⟨⟨I, I⟩, ?_⟩
    refine W.ret ?_
    refine EndsW.rt ?_
    conv => whnf
    refine ⟨⟨I, I, I⟩, ?_, rfl⟩
    exact vs (if_neg (fun x => h x.1)).symm
def chunks (r : ByteArray) (n : Nat) : List ByteArray := (List.range n).map fun k => r.extract (8 * k) (8 * k + 8)
def rdM (b : ByteArray) : Message :=
  ⟨byt b 0, byt b 1, byt b 2, byt b 3 * 256 + byt b 4, byt b 5 * 16777216 + byt b 6 * 65536 + byt b 7 * 256 + byt b 8, byt b 9, if byt b 0 = 3 then b.extract 11 b.size else emp, if byt b 0 = 3 then [] else chunks (b.extract 11 b.size) ((b.size - 11) / 8)⟩
def readM (s key : ByteArray) : Option Message := if s.size < 19 ∨ formM (rdM (s.extract 8 s.size)) key ≠ s then none else some (rdM (s.extract 8 s.size))
def tupM : Option Message → V
  | none => .tup [messageO noMessage, .b false]
  | some m => .tup [messageO m, .b true]
theorem chunks_succ (r : ByteArray) (n : Nat) : chunks r (n + 1) = chunks r n ++ [r.extract (8 * n) (8 * n + 8)] := by
  unfold chunks; rw [List.range_succ, List.map_append]; rfl
def rdF (b : ByteArray) (t : ByteArray) (l : List ByteArray) : Message :=
  ⟨byt b 0, byt b 1, byt b 2, byt b 3 * 256 + byt b 4, byt b 5 * 16777216 + byt b 6 * 65536 + byt b 7 * 256 + byt b 8, byt b 9, t, l⟩
theorem readM_short {s key : ByteArray} (h : s.size < 19) : readM s key = none := if_pos (Or.inl h)
theorem readM_no {s key : ByteArray} {m : Message} (h : rdM (s.extract 8 s.size) = m) (h2 : ¬ formM m key = s) : readM s key = none := if_pos (Or.inr (by rw [h]; exact h2))
theorem readM_yes {s key : ByteArray} {m : Message} (h0 : ¬ s.size < 19) (h : rdM (s.extract 8 s.size) = m) (h2 : formM m key = s) : readM s key = some m := by
  unfold readM; rw [h, if_neg]; rintro (h | h); exact h0 h; exact h h2
def restM (s : ByteArray) : ByteArray := (s.extract 8 s.size).extract 11 (s.extract 8 s.size).size
def restN (s : ByteArray) (n : Nat) : ByteArray := (restM s).extract (8 * n) (restM s).size
theorem restN_zero (s : ByteArray) : restM s = restN s 0 := by unfold restN; rw [Nat.mul_zero, ByteArray.extract_zero_size]
theorem restN_size {s : ByteArray} {n : Nat} (hz : (restM s).size = s.size - 19) (h : 8 * n ≤ s.size - 19) : (restN s n).size = s.size - 19 - 8 * n := by
  unfold restN; rw [ByteArray.size_extract]; omega
theorem restN_head {s : ByteArray} {n : Nat} (h : 8 * n + 8 ≤ (restM s).size) : (restN s n).extract 0 8 = (restM s).extract (8 * n) (8 * n + 8) := by
  unfold restN; rw [ByteArray.extract_extract, Nat.min_eq_left (by omega), Nat.add_zero]
theorem restN_succ (s : ByteArray) (n : Nat) (h : 8 * n + 8 ≤ (restM s).size) : (restN s n).extract 8 (restN s n).size = restN s (n + 1) := by
  have : (restN s n).size = (restM s).size - 8 * n := by unfold restN; rw [ByteArray.size_extract]; omega
  rw [this]
  unfold restN; rw [ByteArray.extract_extract, show 8 * n + 8 = 8 * (n + 1) by omega, show min (8 * n + ((restM s).size - 8 * n)) (restM s).size = (restM s).size by omega]
theorem chunks_len (r : ByteArray) (n : Nat) : (chunks r n).length = n := by unfold chunks; rw [List.length_map, List.length_range]
theorem chunks_more {s : ByteArray} {n : Nat} (h : 8 * n + 8 ≤ (restM s).size) : (chunks (restM s) n).map strT ++ [strT ((restN s n).extract 0 8)] = (chunks (restM s) (n + 1)).map strT := by
  rw [chunks_succ, List.map_append, restN_head h]; rfl
theorem c_spec_ReadMessage (tx key : ByteArray) (ht : tx.size ≤ 68719476736) : F n_spec_ReadMessage [.val (.s tx), .val (.s key)] (tupM (readM tx key)) [[], []] := by
  by_cases h0 : tx.size < 19
  · refine i_spec_ReadMessage ?_
    conv => whnf
    refine g 0 0 [] ?_
    conv => whnf
    refine ⟨⟨I, I, I⟩, ?_⟩
    refine W.sq ?_
    refine g 9 11 [] ?_
    conv => whnf
    refine ⟨⟨I, I, I, I⟩, ?_⟩
    refine W.cn ?_
    conv => whnf
    refine ⟨fun _ => ?_, noF (decide_eq_true (by omega))⟩
    refine g 11 13 [] ?_
    conv => whnf
    refine ⟨⟨I, ⟨I, I, I, I, I, I, I, I, I⟩, I, I⟩, ?_⟩
    refine W.ret ?_
    refine EndsW.rt ?_
    conv => whnf
    refine ⟨⟨I, ⟨I, I, I, I, I, I, I, I, I⟩, I, ⟨I, I⟩, I⟩, ?_, rfl⟩
    exact congrArg tupM (readM_short h0).symm
  have hx : (tx.extract 8 tx.size).size = tx.size - 8 := by rw [ByteArray.size_extract]; omega
  obtain ⟨y1, hy1, hb1⟩ := byte_at (s := tx.extract 8 tx.size) (n := 0) (by omega)
  obtain ⟨y2, hy2, hb2⟩ := byte_at (s := tx.extract 8 tx.size) (n := 1) (by omega)
  obtain ⟨y3, hy3, hb3⟩ := byte_at (s := tx.extract 8 tx.size) (n := 2) (by omega)
  obtain ⟨y4, hy4, hb4⟩ := byte_at (s := tx.extract 8 tx.size) (n := 3) (by omega)
  obtain ⟨y5, hy5, hb5⟩ := byte_at (s := tx.extract 8 tx.size) (n := 4) (by omega)
  obtain ⟨y6, hy6, hb6⟩ := byte_at (s := tx.extract 8 tx.size) (n := 5) (by omega)
  obtain ⟨y7, hy7, hb7⟩ := byte_at (s := tx.extract 8 tx.size) (n := 6) (by omega)
  obtain ⟨y8, hy8, hb8⟩ := byte_at (s := tx.extract 8 tx.size) (n := 7) (by omega)
  obtain ⟨y9, hy9, hb9⟩ := byte_at (s := tx.extract 8 tx.size) (n := 8) (by omega)
  obtain ⟨y10, hy10, hb10⟩ := byte_at (s := tx.extract 8 tx.size) (n := 9) (by omega)
  have e : ∀ t l, rdF (tx.extract 8 tx.size) t l = ⟨y1.toNat, y2.toNat, y3.toNat, (y4.toNat : Int) * 256 + y5.toNat, (y6.toNat : Int) * 16777216 + (y7.toNat : Int) * 65536 + (y8.toNat : Int) * 256 + y9.toNat, y10.toNat, t, l⟩ := by
    intro t l; simp only [rdF, byt_at hy1, byt_at hy2, byt_at hy3, byt_at hy4, byt_at hy5, byt_at hy6, byt_at hy7, byt_at hy8, byt_at hy9, byt_at hy10]
  by_cases h3 : (y1.toNat : Int) = 3
  · have e1 : rdM (tx.extract 8 tx.size) = ⟨y1.toNat, y2.toNat, y3.toNat, (y4.toNat : Int) * 256 + y5.toNat, (y6.toNat : Int) * 16777216 + (y7.toNat : Int) * 65536 + (y8.toNat : Int) * 256 + y9.toNat, y10.toNat, (tx.extract 8 tx.size).extract 11 (tx.extract 8 tx.size).size, []⟩ := by
      rw [← e]; unfold rdM rdF; rw [byt_at hy1, if_pos h3, if_pos h3]
    have c1 := c_spec_FormMessage (rdM (tx.extract 8 tx.size)) key (by rw [e1]; simp)
    rw [e1] at c1
    refine i_spec_ReadMessage ?_
    conv => whnf
    refine g 0 0 [] ?_
    conv => whnf
    refine ⟨⟨I, I, I⟩, ?_⟩
    refine W.sq ?_
    refine g 9 11 [] ?_
    conv => whnf
    refine ⟨⟨I, I, I, I⟩, ?_⟩
    refine W.cn ?_
    conv => whnf
    refine ⟨noT (decide_eq_false (by omega)), fun _ => ?_⟩
    refine W.skip ?_
    refine g 11 15 [.n ((8 : Nat)), .s (ByteArray.extract tx (8 : Nat) (ByteArray.size tx))] ?_
    conv => whnf
    refine ⟨⟨I, ⟨I, rfl, (by omega), (by omega), rfl⟩, I, I⟩, ?_⟩
    refine gd 15 36 [[], [.i ((↑(UInt8.toNat y1) : Int))], [.i ((↑(UInt8.toNat y1) : Int))], [], [.i ((↑(UInt8.toNat y2) : Int))], [.i ((↑(UInt8.toNat y2) : Int))], [], [.i ((↑(UInt8.toNat y3) : Int))], [.i ((↑(UInt8.toNat y3) : Int))], [], [.i ((↑(UInt8.toNat y4) : Int))], [.i ((↑(UInt8.toNat y4) : Int))], [.i ((↑(UInt8.toNat y4) : Int) * (256 : Int))], [], [.i ((↑(UInt8.toNat y5) : Int))], [.i ((↑(UInt8.toNat y5) : Int))], [.i ((↑(UInt8.toNat y4) : Int) * (256 : Int) + (↑(UInt8.toNat y5) : Int))], [], [.i ((↑(UInt8.toNat y10) : Int))], [.i ((↑(UInt8.toNat y10) : Int))], [], [], []] ?_
    conv => whnf
    refine ⟨⟨I, ⟨(by omega), ixb hy1⟩, w8 _, I, ⟨(by omega), ixb hy2⟩, w8 _, I, ⟨(by omega), ixb hy3⟩, w8 _, I, ⟨(by omega), ixb hy4⟩, w8 _, w64 (by omega) (by omega), I, ⟨(by omega), ixb hy5⟩, w8 _, w64 (by omega) (by omega), I, ⟨(by omega), ixb hy10⟩, w8 _, I, I, ⟨I, I, I, I, I, I, I, I, I⟩, I⟩, by kernel_rfl, ?_⟩
    refine gd 36 55 [[], [.i ((↑(UInt8.toNat y6) : Int))], [.i ((↑(UInt8.toNat y6) : Int))], [.i ((↑(UInt8.toNat y6) : Int) * (16777216 : Int))], [], [.i ((↑(UInt8.toNat y7) : Int))], [.i ((↑(UInt8.toNat y7) : Int))], [.i ((↑(UInt8.toNat y7) : Int) * (65536 : Int))], [.i ((↑(UInt8.toNat y6) : Int) * (16777216 : Int) + (↑(UInt8.toNat y7) : Int) * (65536 : Int))], [], [.i ((↑(UInt8.toNat y8) : Int))], [.i ((↑(UInt8.toNat y8) : Int))], [.i ((↑(UInt8.toNat y8) : Int) * (256 : Int))], [.i ((↑(UInt8.toNat y6) : Int) * (16777216 : Int) + (↑(UInt8.toNat y7) : Int) * (65536 : Int) + (↑(UInt8.toNat y8) : Int) * (256 : Int))], [], [.i ((↑(UInt8.toNat y9) : Int))], [.i ((↑(UInt8.toNat y9) : Int))], [.i ((↑(UInt8.toNat y6) : Int) * (16777216 : Int) + (↑(UInt8.toNat y7) : Int) * (65536 : Int) + (↑(UInt8.toNat y8) : Int) * (256 : Int) + (↑(UInt8.toNat y9) : Int))], [], []] ?_
    conv => whnf
    refine ⟨⟨I, ⟨(by omega), ixb hy6⟩, w8 _, w64 (by omega) (by omega), I, ⟨(by omega), ixb hy7⟩, w8 _, w64 (by omega) (by omega), w64 (by omega) (by omega), I, ⟨(by omega), ixb hy8⟩, w8 _, w64 (by omega) (by omega), w64 (by omega) (by omega), I, ⟨(by omega), ixb hy9⟩, w8 _, w64 (by omega) (by omega), I, ⟨I, I⟩, I⟩, by kernel_rfl, ?_⟩
    refine g 55 57 [.n ((11 : Nat)), .s (ByteArray.extract (ByteArray.extract tx (8 : Nat) (ByteArray.size tx)) (11 : Nat) (ByteArray.size (ByteArray.extract tx (8 : Nat) (ByteArray.size tx))))] ?_
    conv => whnf
    refine ⟨⟨I, ⟨I, rfl, (by omega), (by omega), rfl⟩, I, I⟩, ?_⟩
    refine W.sq ?_
    refine g 57 59 [] ?_
    conv => whnf
    refine ⟨⟨I, I, I, I⟩, ?_⟩
    refine W.cn ?_
    conv => whnf
    refine ⟨fun _ => ?_, noF (decide_eq_true (by omega))⟩
    refine rg [] ?_
    conv => whnf
    refine ⟨⟨I, I, ⟨I, I⟩, I⟩, ?_⟩
    refine W.sq ?_
    refine g 8 78 [.call (V.s (formM { kind := (↑(UInt8.toNat y1) : Int), frm := (↑(UInt8.toNat y2) : Int), to := (↑(UInt8.toNat y3) : Int), epoch := (↑(UInt8.toNat y4) : Int) * (256 : Int) + (↑(UInt8.toNat y5) : Int), lease := (↑(UInt8.toNat y6) : Int) * (16777216 : Int) + (↑(UInt8.toNat y7) : Int) * (65536 : Int) + (↑(UInt8.toNat y8) : Int) * (256 : Int) + (↑(UInt8.toNat y9) : Int), task := (↑(UInt8.toNat y10) : Int), text := ByteArray.extract (ByteArray.extract tx (8 : Nat) (ByteArray.size tx)) (11 : Nat) (ByteArray.size (ByteArray.extract tx (8 : Nat) (ByteArray.size tx))), inputs := [] : Message } key)) ([[], []])] ?_
    conv => whnf
    refine ⟨⟨I, I, ⟨⟨I, I, I⟩, I, ⟨⟨I, I, I, I, I, I, I, I, I⟩, ⟨I, I⟩, I⟩, ⟨I, I⟩, (by assumption)⟩, I, I, I⟩, ?_⟩
    refine W.cn ?_
    conv => whnf
    refine ⟨fun h1 => ?_, fun h1 => ?_⟩
    replace h1 := ndt h1
    refine g 0 2 [] ?_
    conv => whnf
    refine ⟨⟨I, ⟨I, I, I, I, I, I, I, I, I⟩, I, I⟩, ?_⟩
    refine W.ret ?_
    refine EndsW.rt ?_
    conv => whnf
    refine ⟨⟨I, ⟨I, I, I, I, I, I, I, I, I⟩, I, ⟨I, I⟩, I⟩, ?_, rfl⟩
    rotate_left 1
    replace h1 := ndf h1
    refine W.skip ?_
    refine g 6 81 [] ?_
    conv => whnf
    refine ⟨⟨I, ⟨I, I, I, I, I, I, I, I, I⟩, I, I⟩, ?_⟩
    refine W.ret ?_
    refine EndsW.rt ?_
    conv => whnf
    refine ⟨⟨I, ⟨I, I, I, I, I, I, I, I, I⟩, I, ⟨I, I⟩, I⟩, ?_, rfl⟩
    rotate_left 1
    · exact congrArg tupM (readM_no e1 (by assumption)).symm
    · exact congrArg tupM (readM_yes h0 e1 (by assumption)).symm
  · have e1 : ∀ n, n = (tx.size - 19) / 8 → rdM (tx.extract 8 tx.size) = ⟨y1.toNat, y2.toNat, y3.toNat, (y4.toNat : Int) * 256 + y5.toNat, (y6.toNat : Int) * 16777216 + (y7.toNat : Int) * 65536 + (y8.toNat : Int) * 256 + y9.toNat, y10.toNat, emp, chunks (restM tx) n⟩ := by
      intro n hn; rw [← e]; unfold rdM rdF; rw [byt_at hy1, if_neg h3, if_neg h3, hn, hx, restM, hx, show tx.size - 8 - 11 = tx.size - 19 by omega]
    have hz : (restM tx).size = tx.size - 19 := by unfold restM; rw [ByteArray.size_extract, hx]; omega
    refine i_spec_ReadMessage ?_
    conv => whnf
    refine g 0 0 [] ?_
    conv => whnf
    refine ⟨⟨I, I, I⟩, ?_⟩
    refine W.sq ?_
    refine g 9 11 [] ?_
    conv => whnf
    refine ⟨⟨I, I, I, I⟩, ?_⟩
    refine W.cn ?_
    conv => whnf
    refine ⟨noT (decide_eq_false (by omega)), fun _ => ?_⟩
    refine W.skip ?_
    refine g 11 15 [.n ((8 : Nat)), .s (ByteArray.extract tx (8 : Nat) (ByteArray.size tx))] ?_
    conv => whnf
    refine ⟨⟨I, ⟨I, rfl, (by omega), (by omega), rfl⟩, I, I⟩, ?_⟩
    refine gd 15 36 [[], [.i ((↑(UInt8.toNat y1) : Int))], [.i ((↑(UInt8.toNat y1) : Int))], [], [.i ((↑(UInt8.toNat y2) : Int))], [.i ((↑(UInt8.toNat y2) : Int))], [], [.i ((↑(UInt8.toNat y3) : Int))], [.i ((↑(UInt8.toNat y3) : Int))], [], [.i ((↑(UInt8.toNat y4) : Int))], [.i ((↑(UInt8.toNat y4) : Int))], [.i ((↑(UInt8.toNat y4) : Int) * (256 : Int))], [], [.i ((↑(UInt8.toNat y5) : Int))], [.i ((↑(UInt8.toNat y5) : Int))], [.i ((↑(UInt8.toNat y4) : Int) * (256 : Int) + (↑(UInt8.toNat y5) : Int))], [], [.i ((↑(UInt8.toNat y10) : Int))], [.i ((↑(UInt8.toNat y10) : Int))], [], [], []] ?_
    conv => whnf
    refine ⟨⟨I, ⟨(by omega), ixb hy1⟩, w8 _, I, ⟨(by omega), ixb hy2⟩, w8 _, I, ⟨(by omega), ixb hy3⟩, w8 _, I, ⟨(by omega), ixb hy4⟩, w8 _, w64 (by omega) (by omega), I, ⟨(by omega), ixb hy5⟩, w8 _, w64 (by omega) (by omega), I, ⟨(by omega), ixb hy10⟩, w8 _, I, I, ⟨I, I, I, I, I, I, I, I, I⟩, I⟩, by kernel_rfl, ?_⟩
    refine gd 36 55 [[], [.i ((↑(UInt8.toNat y6) : Int))], [.i ((↑(UInt8.toNat y6) : Int))], [.i ((↑(UInt8.toNat y6) : Int) * (16777216 : Int))], [], [.i ((↑(UInt8.toNat y7) : Int))], [.i ((↑(UInt8.toNat y7) : Int))], [.i ((↑(UInt8.toNat y7) : Int) * (65536 : Int))], [.i ((↑(UInt8.toNat y6) : Int) * (16777216 : Int) + (↑(UInt8.toNat y7) : Int) * (65536 : Int))], [], [.i ((↑(UInt8.toNat y8) : Int))], [.i ((↑(UInt8.toNat y8) : Int))], [.i ((↑(UInt8.toNat y8) : Int) * (256 : Int))], [.i ((↑(UInt8.toNat y6) : Int) * (16777216 : Int) + (↑(UInt8.toNat y7) : Int) * (65536 : Int) + (↑(UInt8.toNat y8) : Int) * (256 : Int))], [], [.i ((↑(UInt8.toNat y9) : Int))], [.i ((↑(UInt8.toNat y9) : Int))], [.i ((↑(UInt8.toNat y6) : Int) * (16777216 : Int) + (↑(UInt8.toNat y7) : Int) * (65536 : Int) + (↑(UInt8.toNat y8) : Int) * (256 : Int) + (↑(UInt8.toNat y9) : Int))], [], []] ?_
    conv => whnf
    refine ⟨⟨I, ⟨(by omega), ixb hy6⟩, w8 _, w64 (by omega) (by omega), I, ⟨(by omega), ixb hy7⟩, w8 _, w64 (by omega) (by omega), w64 (by omega) (by omega), I, ⟨(by omega), ixb hy8⟩, w8 _, w64 (by omega) (by omega), w64 (by omega) (by omega), I, ⟨(by omega), ixb hy9⟩, w8 _, w64 (by omega) (by omega), I, ⟨I, I⟩, I⟩, by kernel_rfl, ?_⟩
    refine g 55 57 [.n ((11 : Nat)), .s (ByteArray.extract (ByteArray.extract tx (8 : Nat) (ByteArray.size tx)) (11 : Nat) (ByteArray.size (ByteArray.extract tx (8 : Nat) (ByteArray.size tx))))] ?_
    conv => whnf
    refine ⟨⟨I, ⟨I, rfl, (by omega), (by omega), rfl⟩, I, I⟩, ?_⟩
    refine W.sq ?_
    refine g 57 59 [] ?_
    conv => whnf
    refine ⟨⟨I, I, I, I⟩, ?_⟩
    refine W.cn ?_
    conv => whnf
    refine ⟨noT (decide_eq_false (by omega)), fun _ => ?_⟩
    refine W.blk ?_
    refine W.lp (fun s (n : Nat) => ⟨[(0, s.s 0), (1, s.s 1), (4, s.s 4), (5, s.s 5), (7, s.s 7), (8, .s (restN tx n))], [(4, [s.c 4 0, s.c 4 1, s.c 4 2, s.c 4 3, s.c 4 4, s.c 4 5, s.c 4 6, s.c 4 7]), (7, [.t (.i y1.toNat), .t (.i y2.toNat), .t (.i y3.toNat), .t (.i ((y4.toNat : Int) * 256 + y5.toNat)), .t (.i ((y6.toNat : Int) * 16777216 + (y7.toNat : Int) * 65536 + (y8.toNat : Int) * 256 + y9.toNat)), .t (.i y10.toNat), .t (.s emp), .own [false] ((chunks (restM tx) n).map strT)])], []⟩) (fun (n : Nat) => 8 * n ≤ tx.size - 19) (fun (n : Nat) => tx.size - 8 * n) (0) [some 4, some 7] [] ⟨rfl, ⟨rfl, rfl, rfl, rfl, rfl, (congrArg (fun z => V.t (T.v (Value.string z))) (restN_zero tx)), I⟩, ⟨⟨rfl, ⟨rfl, ⟨rfl, ⟨rfl, ⟨rfl, ⟨rfl, ⟨rfl, ⟨rfl, ⟨rfl, I⟩⟩⟩⟩⟩⟩⟩⟩⟩, ⟨⟨rfl, ⟨rfl, ⟨rfl, ⟨rfl, ⟨rfl, ⟨rfl, ⟨rfl, ⟨rfl, ⟨rfl, I⟩⟩⟩⟩⟩⟩⟩⟩⟩, I⟩⟩, I⟩ (by omega) ?_
    intro n hn
    have hs := restN_size (s := tx) (n := n) hz hn
    have c1 := fun n => c_spec_FormMessage ⟨y1.toNat, y2.toNat, y3.toNat, (y4.toNat : Int) * 256 + y5.toNat, (y6.toNat : Int) * 16777216 + (y7.toNat : Int) * 65536 + (y8.toNat : Int) * 256 + y9.toNat, y10.toNat, emp, chunks (restM tx) n⟩ key
    have c2 := c1 n (by simp only [chunks, List.length_map, List.length_range]; omega)
    clear c1
    have hcl := chunks_len (restM tx) n
    conv => whnf
    refine W.sq ?_
    refine g 62 64 [] ?_
    conv => whnf
    refine ⟨⟨I, I, I, I⟩, ?_⟩
    refine W.cn ?_
    conv => whnf
    refine ⟨fun h1 => ?_, fun h1 => ?_⟩
    replace h1 := dt h1
    refine W.skip ?_
    refine W.blk ?_
    refine gd 64 72 [[], [], [], [.n ((8 : Nat)), .s (ByteArray.extract (restN tx n) (0 : Nat) (8 : Nat))], [], [], [], []] ?_
    conv => whnf
    refine ⟨⟨I, I, I, ⟨rfl, I, (by omega), (by omega), rfl⟩, ⟨⟨I, I⟩, I⟩, ⟨I, I, (by simp only [List.length_map, List.length_append, List.length_set, List.length_replicate, List.length_cons, List.length_nil, List.length_take, List.length_drop, fill_len, fillI_len, List.length_range, bytesT_len]; omega)⟩, I, ⟨I, I⟩, I⟩, by kernel_rfl, ?_⟩
    refine rg [.n ((8 : Nat)), .s (ByteArray.extract (restN tx n) (8 : Nat) (ByteArray.size (restN tx n)))] ?_
    conv => whnf
    refine ⟨⟨I, ⟨I, rfl, (by omega), (by omega), rfl⟩, I, I⟩, ?_⟩
    rotate_left 1
    replace h1 := df h1
    refine W.exit ?_
    refine W.sq ?_
    refine g 8 78 [.call (V.s (formM { kind := (↑(UInt8.toNat y1) : Int), frm := (↑(UInt8.toNat y2) : Int), to := (↑(UInt8.toNat y3) : Int), epoch := (↑(UInt8.toNat y4) : Int) * (256 : Int) + (↑(UInt8.toNat y5) : Int), lease := (↑(UInt8.toNat y6) : Int) * (16777216 : Int) + (↑(UInt8.toNat y7) : Int) * (65536 : Int) + (↑(UInt8.toNat y8) : Int) * (256 : Int) + (↑(UInt8.toNat y9) : Int), task := (↑(UInt8.toNat y10) : Int), text := emp, inputs := chunks (restM tx) n : Message } key)) ([[], []])] ?_
    conv => whnf
    refine ⟨⟨I, I, ⟨⟨I, I, I⟩, I, ⟨⟨I, I, I, I, I, I, I, I, I⟩, ⟨I, I⟩, I⟩, ⟨I, I⟩, (by assumption)⟩, I, I, I⟩, ?_⟩
    refine W.cn ?_
    conv => whnf
    refine ⟨fun h2 => ?_, fun h2 => ?_⟩
    replace h2 := ndt h2
    refine g 0 2 [] ?_
    conv => whnf
    refine ⟨⟨I, ⟨I, I, I, I, I, I, I, I, I⟩, I, I⟩, ?_⟩
    refine W.ret ?_
    refine EndsW.rt ?_
    conv => whnf
    refine ⟨⟨I, ⟨I, I, I, I, I, I, I, I, I⟩, I, ⟨I, I⟩, I⟩, ?_, rfl⟩
    rotate_left 1
    replace h2 := ndf h2
    refine W.skip ?_
    refine g 7 81 [] ?_
    conv => whnf
    refine ⟨⟨I, ⟨I, I, I, I, I, I, I, I, I⟩, I, I⟩, ?_⟩
    refine W.ret ?_
    refine EndsW.rt ?_
    conv => whnf
    refine ⟨⟨I, ⟨I, I, I, I, I, I, I, I, I⟩, I, ⟨I, I⟩, I⟩, ?_, rfl⟩
    rotate_left 1
    · refine ⟨n + 1, [some 4, some 7], [], ⟨rfl, ⟨rfl, rfl, rfl, rfl, rfl, (congrArg (fun z => V.t (T.v (Value.string z))) (restN_succ tx n (by omega))), I⟩, ⟨⟨rfl, ⟨rfl, ⟨rfl, ⟨rfl, ⟨rfl, ⟨rfl, ⟨rfl, ⟨rfl, ⟨rfl, I⟩⟩⟩⟩⟩⟩⟩⟩⟩, ⟨⟨rfl, ⟨rfl, ⟨rfl, ⟨rfl, ⟨rfl, ⟨rfl, ⟨rfl, ⟨rfl, ⟨(congrArg (V.own _) (chunks_more (by omega))), I⟩⟩⟩⟩⟩⟩⟩⟩⟩, I⟩⟩, I⟩, ?_, ?_⟩
      rotate_left 1
      (dsimp only; omega)
      dsimp only
      omega
    · exact congrArg tupM (readM_no (e1 n (by omega)) (by assumption)).symm
    · exact congrArg tupM (readM_yes h0 (e1 n (by omega)) (by assumption)).symm
end Go.K

end

section
set_option linter.unusedVariables false
set_option linter.unusedSimpArgs false
set_option maxHeartbeats 4000000
set_option maxRecDepth 20000
open Go Go.Tm Go.Proofs
namespace Go.K
attribute [local irreducible] ByteArray.extract
theorem or64_add (a i y : Nat) (hy : y < 2 ^ i) (h : a * 2 ^ i + y < 9223372036854775808) : or64 ((a * 2 ^ i : Nat) : Int) (y : Int) = ((a * 2 ^ i + y : Nat) : Int) := by
  unfold or64
  have e : ((BitVec.ofInt IntKind.i64.bits ((a * 2 ^ i : Nat) : Int)) ||| BitVec.ofInt IntKind.i64.bits (y : Int)).toNat = a * 2 ^ i + y := by
    rw [BitVec.ofInt_natCast, BitVec.ofInt_natCast]
    have hb64 : IntKind.i64.bits = 64 := rfl
    rw [BitVec.toNat_or, BitVec.toNat_ofNat, BitVec.toNat_ofNat, hb64, Nat.mod_eq_of_lt (by omega), Nat.mod_eq_of_lt (by omega)]
    have := Nat.two_pow_add_eq_or_of_lt (i := i) (b := y) hy a
    rw [Nat.mul_comm] at this
    exact this.symm
  rw [e]
  rw [w64 (by omega) (by omega)]
theorem or_epoch (a b : Nat) (ha : a < 256) (hb : b < 256) : or64 (IntKind.i64.wrap ((a : Int) * 256)) b = (a : Int) * 256 + b := or_bytes a b ha hb
theorem or_lease (a b c d : Nat) (ha : a < 256) (hb : b < 256) (hc : c < 256) (hd : d < 256) : or64 (or64 (or64 (IntKind.i64.wrap ((a : Int) * 16777216)) (IntKind.i64.wrap ((b : Int) * 65536))) (IntKind.i64.wrap ((c : Int) * 256))) d = (a : Int) * 16777216 + (b : Int) * 65536 + (c : Int) * 256 + d := by
  rw [w64 (by omega) (by omega), w64 (by omega) (by omega), w64 (by omega) (by omega)]
  have f1 : ((a * 16777216 : Nat) : Int) = (a : Int) * 16777216 := by rw [Int.natCast_mul]; rfl
  have f2 : ((b * 65536 : Nat) : Int) = (b : Int) * 65536 := by rw [Int.natCast_mul]; rfl
  have f3 : a * 16777216 + b * 65536 = (a * 256 + b) * 65536 := by rw [Nat.add_mul, Nat.mul_assoc]
  have f4 : ((c * 256 : Nat) : Int) = (c : Int) * 256 := by rw [Int.natCast_mul]; rfl
  have f5 : (a * 256 + b) * 65536 + c * 256 = ((a * 256 + b) * 256 + c) * 256 := by rw [Nat.add_mul ((a * 256 + b) * 256) c 256, Nat.mul_assoc (a * 256 + b) 256 256]
  have f6 : ((((a * 256 + b) * 256 + c) * 256 + d : Nat) : Int) = (a : Int) * 16777216 + (b : Int) * 65536 + (c : Int) * 256 + d := by omega
  have e1 := or64_add a 24 (b * 65536) (by omega) (by omega)
  have e2 := or64_add (a * 256 + b) 16 (c * 256) (by omega) (by clear e1; omega)
  have e3 := or64_add ((a * 256 + b) * 256 + c) 8 d (by clear e1 e2; omega) (by clear e1 e2; omega)
  simp only [Nat.reducePow] at e1 e2 e3
  rw [f1, f2] at e1
  rw [e1]
  rw [f4] at e2
  rw [f3, e2]
  rw [f5, e3, f6]
theorem form_iff {m : Message} {s key : ByteArray} (h : ¬ s.size < 19) : formM m key = s ↔ msgOk m ∧ key.size ≤ 30 ∧ bodyM m = s.extract 8 s.size ∧ s.extract 0 8 = sealT (s.extract 8 s.size) key := by
  unfold formM
  constructor
  · intro e
    by_cases hc : msgOk m ∧ key.size ≤ 30
    · rw [if_pos hc] at e
      have h8 : (sealT (bodyM m) key).size = 8 := sumT_size _
      have hb : s.extract 8 s.size = bodyM m := by
        rw [← e, ByteArray.size_append, h8, ByteArray.extract_append_eq_right h8.symm (by omega)]
      have hs : s.extract 0 8 = sealT (bodyM m) key := by
        rw [← e, ByteArray.extract_append_eq_left h8.symm]
      exact ⟨hc.1, hc.2, hb.symm, by rw [hs, hb]⟩
    · rw [if_neg hc] at e
      rw [← e] at h
      exact absurd (show emp.size < 19 by decide) h
  · rintro ⟨h1, h2, h3, h4⟩
    rw [if_pos ⟨h1, h2⟩, h3, ← h4, ByteArray.extract_append_extract, Nat.min_eq_left (by omega), Nat.max_eq_right (by omega), ByteArray.extract_zero_size]
theorem catS_chunks (r : ByteArray) : ∀ n, 8 * n ≤ r.size → catS (chunks r n) = r.extract 0 (8 * n)
  | 0, _ => by
    have : (r.extract 0 (8 * 0)).size = 0 := by rw [ByteArray.size_extract]; omega
    rw [show chunks r 0 = [] from rfl, catS]; exact (ByteArray.size_eq_zero_iff.1 this).symm
  | n + 1, h => by
    rw [chunks_succ, catS_app, catS_chunks r n (by omega), catS, catS, emp_r, ByteArray.extract_append_extract, Nat.min_eq_left (by omega), Nat.max_eq_right (by omega)]
    rfl
theorem split11 (s : ByteArray) (h : 11 ≤ s.size) : bl [byt s 0, byt s 1, byt s 2, byt s 3, byt s 4, byt s 5, byt s 6, byt s 7, byt s 8, byt s 9, byt s 10] ++ s.extract 11 s.size = s := by
  obtain ⟨⟨l⟩⟩ := s
  match l, h with
  | a :: b :: c :: d :: e :: f :: g :: i :: j :: k :: q :: r, _ =>
    rw [bytA (c := a) rfl, bytA (c := b) rfl, bytA (c := c) rfl, bytA (c := d) rfl, bytA (c := e) rfl, bytA (c := f) rfl, bytA (c := g) rfl, bytA (c := i) rfl, bytA (c := j) rfl, bytA (c := k) rfl, bytA (c := q) rfl]
    apply ByteArray.ext
    rw [ByteArray.data_append, ByteArray.data_extract]
    apply Array.ext'
    simp [bl, ByteArray.size]
theorem bl_ten {a0 a1 a2 a3 a4 a5 a6 a7 a8 a9 a10 : Int} {r : ByteArray} (h : 0 ≤ a10 ∧ a10 ≤ 255) : byt (bl [a0, a1, a2, a3, a4, a5, a6, a7, a8, a9, a10] ++ r) 10 = a10 := by
  obtain ⟨⟨l⟩⟩ := r
  have e : bl [a0, a1, a2, a3, a4, a5, a6, a7, a8, a9, a10] ++ ⟨⟨l⟩⟩ = ⟨⟨(bl [a0, a1, a2, a3, a4, a5, a6, a7, a8, a9, a10]).data.toList ++ l⟩⟩ := by
    apply ByteArray.ext
    rw [ByteArray.data_append]
    apply Array.ext'
    simp
  rw [e, bytA (c := UInt8.ofNat a10.toNat) rfl]
  simp; omega
theorem rd_inputs_len (b : ByteArray) : (rdM b).inputs.length = if byt b 0 = 3 then 0 else (b.size - 11) / 8 := by
  unfold rdM; dsimp only; split <;> simp [chunks]
theorem body_iff {b : ByteArray} (h : 11 ≤ b.size) (hok : msgOk (rdM b)) : bodyM (rdM b) = b ↔ byt b 10 = (rdM b).inputs.length ∧ (byt b 0 ≠ 3 → b.size - 11 = 8 * ((b.size - 11) / 8)) := by
  have hx : (b.extract 11 b.size).size = b.size - 11 := by rw [ByteArray.size_extract]; omega
  have hh : hdrM (rdM b) = [byt b 0, byt b 1, byt b 2, byt b 3, byt b 4, byt b 5, byt b 6, byt b 7, byt b 8, byt b 9, ((rdM b).inputs.length : Int)] := by
    obtain ⟨a3, e3, l3⟩ := byt_range b 3
    obtain ⟨a4, e4, l4⟩ := byt_range b 4
    obtain ⟨a5, e5, l5⟩ := byt_range b 5
    obtain ⟨a6, e6, l6⟩ := byt_range b 6
    obtain ⟨a7, e7, l7⟩ := byt_range b 7
    obtain ⟨a8, e8, l8⟩ := byt_range b 8
    have f1 : (rdM b).epoch = byt b 3 * 256 + byt b 4 := rfl
    have f2 : (rdM b).lease = byt b 5 * 16777216 + byt b 6 * 65536 + byt b 7 * 256 + byt b 8 := rfl
    unfold hdrM
    rw [f1, f2, show (rdM b).kind = byt b 0 from rfl, show (rdM b).frm = byt b 1 from rfl, show (rdM b).to = byt b 2 from rfl, show (rdM b).task = byt b 9 from rfl]
    rw [e3, e4, e5, e6, e7, e8]
    congr 3
    congr 1; omega
    congr 1; omega
    congr 1; omega
    congr 1; omega
    congr 1; omega
    congr 1; omega
  have hsp := split11 b h
  have htl : byt b 0 = 3 ∨ b.size - 11 = 8 * ((b.size - 11) / 8) → (rdM b).text ++ catS (rdM b).inputs = b.extract 11 b.size := by
    intro h3
    unfold rdM; dsimp only
    by_cases hk : byt b 0 = 3
    · rw [if_pos hk, if_pos hk, catS, emp_r]
    · have h3 := h3.resolve_left hk
      rw [if_neg hk, if_neg hk, emp_l, catS_chunks _ _ (by omega), ← h3, ← hx, ByteArray.extract_zero_size]
  have hbody : bodyM (rdM b) = bl (hdrM (rdM b)) ++ ((rdM b).text ++ catS (rdM b).inputs) := by unfold bodyM; rw [ByteArray.append_assoc]
  constructor
  · intro e
    have hn : (rdM b).inputs.length ≤ 8 := (ok_inputs hok).1
    constructor
    · have h1 := congrArg (fun x => byt x 10) e
      rw [← h1, hbody, hh]
      exact bl_ten (by omega)
    · intro hk
      have h2 := congrArg ByteArray.size e
      rw [bodyM_size hok, rd_inputs_len, if_neg hk] at h2
      have ht : (rdM b).text = emp := if_neg hk
      rw [ht] at h2
      have h0 : emp.size = 0 := rfl
      omega
  · rintro ⟨h1, h2⟩
    rw [hbody, htl (by by_cases hk : byt b 0 = 3; exact Or.inl hk; exact Or.inr (h2 hk)), hh, ← h1]
    exact hsp
end Go.K

end

section
set_option linter.unusedVariables false
set_option linter.unusedSimpArgs false
set_option maxHeartbeats 4000000
set_option maxRecDepth 20000
open Go Go.Tm Go.Proofs
namespace Go.K
attribute [local irreducible] ByteArray.extract
def restK (q : ByteArray) (n : Nat) : ByteArray := q.extract (8 * n) q.size
theorem restK_zero (q : ByteArray) : q = restK q 0 := by unfold restK; rw [Nat.mul_zero, ByteArray.extract_zero_size]
theorem restK_size (q : ByteArray) (n : Nat) : (restK q n).size = q.size - 8 * n := by unfold restK; rw [ByteArray.size_extract]; omega
theorem restK_head {q : ByteArray} {n : Nat} (h : 8 * n + 8 ≤ q.size) : (restK q n).extract 0 8 = q.extract (8 * n) (8 * n + 8) := by
  unfold restK; rw [ByteArray.extract_extract, Nat.min_eq_left (by omega), Nat.add_zero]
theorem restK_succ (q : ByteArray) (n : Nat) (h : 8 * n + 8 ≤ q.size) : (restK q n).extract 8 (restK q n).size = restK q (n + 1) := by
  rw [restK_size]
  unfold restK; rw [ByteArray.extract_extract, show 8 * n + 8 = 8 * (n + 1) by omega, show min (8 * n + (q.size - 8 * n)) q.size = q.size by omega]
theorem chunkK {q : ByteArray} {n : Nat} (h : 8 * n + 8 ≤ q.size) : (chunks q n).map strT ++ [strT ((restK q n).extract 0 8)] = (chunks q (n + 1)).map strT := by
  rw [chunks_succ, List.map_append, restK_head h]; rfl
theorem restK_nil {q : ByteArray} {n : Nat} (h : ¬ 8 * n < q.size) : restK q n = ⟨#[]⟩ := ByteArray.size_eq_zero_iff.1 (by rw [restK_size]; omega)
theorem restK_more {q : ByteArray} {n : Nat} (h : 8 * n < q.size) : ¬ restK q n = ⟨#[]⟩ := by
  intro e
  have := congrArg ByteArray.size e
  rw [restK_size] at this
  have h0 : (ByteArray.mk #[]).size = 0 := rfl
  omega
def restQ (tx : ByteArray) : ByteArray := (restM tx).extract 8 (restM tx).size
theorem readM_bad {tx key : ByteArray} (h0 : ¬ tx.size < 19) (h : ¬ (msgOk (rdM (tx.extract 8 tx.size)) ∧ bodyM (rdM (tx.extract 8 tx.size)) = tx.extract 8 tx.size)) : readM tx key = none :=
  if_pos (Or.inr (fun e => h ⟨((form_iff h0).1 e).1, ((form_iff h0).1 e).2.2.1⟩))
theorem readM_good {tx key : ByteArray} {m : Message} (h0 : ¬ tx.size < 19) (hk : key.size ≤ 30) (hs : tx.extract 0 8 = sealT (tx.extract 8 tx.size) key) (e : rdM (tx.extract 8 tx.size) = m) (h1 : msgOk m) (h2 : bodyM (rdM (tx.extract 8 tx.size)) = tx.extract 8 tx.size) : readM tx key = some m :=
  readM_yes h0 e ((form_iff h0).2 ⟨h1, hk, e ▸ h2, hs⟩)
theorem c_impl_ReadMessage (tx key : ByteArray) (ht : tx.size ≤ 68719476736) : F n_impl_ReadMessage [.val (.s tx), .val (.s key)] (tupM (readM tx key)) [[], []] := by
  by_cases h0 : tx.size < 19
  · by_cases hk : key.size ≤ 30
    · refine i_impl_ReadMessage ?_
      conv => whnf
      refine g 0 0 [] ?_
      conv => whnf
      refine ⟨⟨I, I, I⟩, ?_⟩
      refine W.sq ?_
      refine gd 9 25 [[], [], [], [], [.b (false)], [.b (false)], [.b (false)], [.b (false)], [], [.b (true)], [.b (true)], [.b (true)], [.b (true)], [.b (true)], [.b (true)], [.b (true)], [.b (true)]] ?_
      conv => whnf
      refine ⟨⟨I, I, I, I, ⟨decide_eq_false (by omega), I⟩, ⟨decide_eq_false (by omega), I⟩, ⟨decide_eq_false (by omega), I⟩, decide_eq_false (by omega), I, decide_eq_true (by omega), decide_eq_true (by omega), decide_eq_true (by omega), decide_eq_true (by omega), decide_eq_true (by omega), decide_eq_true (by omega), decide_eq_true (by omega), decide_eq_true (by omega), I⟩, by kernel_rfl, ?_⟩
      refine W.cn ?_
      conv => whnf
      refine ⟨fun _ => ?_, noF (rfl)⟩
      refine g 25 27 [] ?_
      conv => whnf
      refine ⟨⟨I, ⟨I, I, I, I, I, I, I, I, I⟩, I, I⟩, ?_⟩
      refine W.ret ?_
      refine EndsW.rt ?_
      conv => whnf
      refine ⟨⟨I, ⟨I, I, I, I, I, I, I, I, I⟩, I, ⟨I, I⟩, I⟩, ?_, rfl⟩
      exact congrArg tupM (readM_short h0).symm
    · refine i_impl_ReadMessage ?_
      conv => whnf
      refine g 0 0 [] ?_
      conv => whnf
      refine ⟨⟨I, I, I⟩, ?_⟩
      refine W.sq ?_
      refine gd 9 25 [[], [], [], [], [.b (true)], [.b (true)], [.b (true)], [.b (true)], [], [.b (true)], [.b (true)], [.b (true)], [.b (true)], [.b (true)], [.b (true)], [.b (true)], [.b (true)]] ?_
      conv => whnf
      refine ⟨⟨I, I, I, I, decide_eq_true (by omega), decide_eq_true (by omega), decide_eq_true (by omega), decide_eq_true (by omega), I, rfl, rfl, rfl, rfl, rfl, rfl, rfl, rfl, I⟩, by kernel_rfl, ?_⟩
      refine W.cn ?_
      conv => whnf
      refine ⟨fun _ => ?_, noF (rfl)⟩
      refine g 25 27 [] ?_
      conv => whnf
      refine ⟨⟨I, ⟨I, I, I, I, I, I, I, I, I⟩, I, I⟩, ?_⟩
      refine W.ret ?_
      refine EndsW.rt ?_
      conv => whnf
      refine ⟨⟨I, ⟨I, I, I, I, I, I, I, I, I⟩, I, ⟨I, I⟩, I⟩, ?_, rfl⟩
      exact congrArg tupM (readM_short h0).symm
  by_cases hk : ¬ key.size ≤ 30
  · have e : readM tx key = none := if_pos (Or.inr (fun h => hk ((form_iff h0).1 h).2.1))
    refine i_impl_ReadMessage ?_
    conv => whnf
    refine g 0 0 [] ?_
    conv => whnf
    refine ⟨⟨I, I, I⟩, ?_⟩
    refine W.sq ?_
    refine gd 9 25 [[], [], [], [], [.b (true)], [.b (true)], [.b (true)], [.b (true)], [], [.b (true)], [.b (true)], [.b (true)], [.b (true)], [.b (true)], [.b (true)], [.b (true)], [.b (true)]] ?_
    conv => whnf
    refine ⟨⟨I, I, I, I, decide_eq_true (by omega), decide_eq_true (by omega), decide_eq_true (by omega), decide_eq_true (by omega), I, rfl, rfl, rfl, rfl, rfl, rfl, rfl, rfl, I⟩, by kernel_rfl, ?_⟩
    refine W.cn ?_
    conv => whnf
    refine ⟨fun _ => ?_, noF (rfl)⟩
    refine g 25 27 [] ?_
    conv => whnf
    refine ⟨⟨I, ⟨I, I, I, I, I, I, I, I, I⟩, I, I⟩, ?_⟩
    refine W.ret ?_
    refine EndsW.rt ?_
    conv => whnf
    refine ⟨⟨I, ⟨I, I, I, I, I, I, I, I, I⟩, I, ⟨I, I⟩, I⟩, ?_, rfl⟩
    exact congrArg tupM e.symm
  have hx : (tx.extract 8 tx.size).size = tx.size - 8 := by rw [ByteArray.size_extract]; omega
  have c1 := c_impl_seal (tx.extract 8 tx.size) key (by omega) (by omega)
  by_cases hs : ¬ tx.extract 0 8 = sealT (tx.extract 8 tx.size) key
  · have e : readM tx key = none := if_pos (Or.inr (fun h => hs ((form_iff h0).1 h).2.2.2))
    refine i_impl_ReadMessage ?_
    conv => whnf
    refine g 0 0 [] ?_
    conv => whnf
    refine ⟨⟨I, I, I⟩, ?_⟩
    refine W.sq ?_
    refine gd 9 25 [[], [], [], [], [.b (false)], [.b (false)], [.b (false)], [.b (false)], [], [.b (false)], [.b (false), .n ((8 : Nat)), .s (ByteArray.extract tx (0 : Nat) (8 : Nat))], [.b (false)], [.b (false), .n ((8 : Nat)), .s (ByteArray.extract tx (8 : Nat) (ByteArray.size tx))], [.b (false)], [.b (false), .call (V.s (sealT (ByteArray.extract tx (8 : Nat) (ByteArray.size tx)) key)) ([[], []])], [.b (false)], [.b (false)]] ?_
    conv => whnf
    refine ⟨⟨I, I, I, I, ⟨decide_eq_false (by omega), I⟩, ⟨decide_eq_false (by omega), I⟩, ⟨decide_eq_false (by omega), I⟩, decide_eq_false (by omega), I, ⟨decide_eq_false (by omega), I⟩, ⟨decide_eq_false (by omega), rfl, I, (by omega), (by omega), rfl⟩, ⟨decide_eq_false (by omega), I⟩, ⟨decide_eq_false (by omega), I, rfl, (by omega), (by omega), rfl⟩, ⟨decide_eq_false (by omega), I⟩, ⟨decide_eq_false (by omega), ⟨I, I, I⟩, I, ⟨⟨I, I⟩, ⟨I, I⟩, I⟩, ⟨I, I⟩, (by assumption)⟩, ⟨decide_eq_false (by omega), I⟩, decide_eq_false (by omega), I⟩, by kernel_rfl, ?_⟩
    refine W.cn ?_
    conv => whnf
    refine ⟨fun _ => ?_, noF (notT (by omega))⟩
    refine g 25 27 [] ?_
    conv => whnf
    refine ⟨⟨I, ⟨I, I, I, I, I, I, I, I, I⟩, I, I⟩, ?_⟩
    refine W.ret ?_
    refine EndsW.rt ?_
    conv => whnf
    refine ⟨⟨I, ⟨I, I, I, I, I, I, I, I, I⟩, I, ⟨I, I⟩, I⟩, ?_, rfl⟩
    exact congrArg tupM e.symm
  obtain ⟨y1, hy1, hb1⟩ := byte_at (s := tx.extract 8 tx.size) (n := 0) (by omega)
  obtain ⟨y2, hy2, hb2⟩ := byte_at (s := tx.extract 8 tx.size) (n := 1) (by omega)
  obtain ⟨y3, hy3, hb3⟩ := byte_at (s := tx.extract 8 tx.size) (n := 2) (by omega)
  obtain ⟨y4, hy4, hb4⟩ := byte_at (s := tx.extract 8 tx.size) (n := 3) (by omega)
  obtain ⟨y5, hy5, hb5⟩ := byte_at (s := tx.extract 8 tx.size) (n := 4) (by omega)
  obtain ⟨y6, hy6, hb6⟩ := byte_at (s := tx.extract 8 tx.size) (n := 5) (by omega)
  obtain ⟨y7, hy7, hb7⟩ := byte_at (s := tx.extract 8 tx.size) (n := 6) (by omega)
  obtain ⟨y8, hy8, hb8⟩ := byte_at (s := tx.extract 8 tx.size) (n := 7) (by omega)
  obtain ⟨y9, hy9, hb9⟩ := byte_at (s := tx.extract 8 tx.size) (n := 8) (by omega)
  obtain ⟨y10, hy10, hb10⟩ := byte_at (s := tx.extract 8 tx.size) (n := 9) (by omega)
  obtain ⟨y11, hy11, hb11⟩ := byte_at (s := tx.extract 8 tx.size) (n := 10) (by omega)
  have f1 := or_epoch y4.toNat y5.toNat hb4 hb5
  have f2 := or_lease y6.toNat y7.toNat y8.toNat y9.toNat hb6 hb7 hb8 hb9
  have hz : (restM tx).size = tx.size - 19 := by unfold restM; rw [ByteArray.size_extract, hx]; omega
  have e : ∀ t l, rdF (tx.extract 8 tx.size) t l = ⟨y1.toNat, y2.toNat, y3.toNat, (y4.toNat : Int) * 256 + y5.toNat, (y6.toNat : Int) * 16777216 + (y7.toNat : Int) * 65536 + (y8.toNat : Int) * 256 + y9.toNat, y10.toNat, t, l⟩ := by
    intro t l; simp only [rdF, byt_at hy1, byt_at hy2, byt_at hy3, byt_at hy4, byt_at hy5, byt_at hy6, byt_at hy7, byt_at hy8, byt_at hy9, byt_at hy10]
  have hb := byt_at hy11
  have hbi := @body_iff (tx.extract 8 tx.size) (by omega)
  rw [hb, rd_inputs_len, byt_at hy1, hx] at hbi
  by_cases h3 : (y1.toNat : Int) = 3
  · have e1 : rdM (tx.extract 8 tx.size) = ⟨y1.toNat, y2.toNat, y3.toNat, (y4.toNat : Int) * 256 + y5.toNat, (y6.toNat : Int) * 16777216 + (y7.toNat : Int) * 65536 + (y8.toNat : Int) * 256 + y9.toNat, y10.toNat, restM tx, []⟩ := by
      rw [← e]; unfold rdM rdF; rw [byt_at hy1, if_pos h3, if_pos h3]; rfl
    rw [if_pos h3] at hbi
    have ho : msgOk (rdM (tx.extract 8 tx.size)) → (restM tx).size = 8 := by
      rw [e1]; unfold msgOk; dsimp only; omega
    have hq : 8 ≤ (restM tx).size → (restQ tx).size = (restM tx).size - 8 := by intro h; unfold restQ; rw [ByteArray.size_extract]; omega
    refine i_impl_ReadMessage ?_
    conv => whnf
    refine g 0 0 [] ?_
    conv => whnf
    refine ⟨⟨I, I, I⟩, ?_⟩
    refine W.sq ?_
    refine gd 9 25 [[], [], [], [], [.b (false)], [.b (false)], [.b (false)], [.b (false)], [], [.b (false)], [.b (false), .n ((8 : Nat)), .s (ByteArray.extract tx (0 : Nat) (8 : Nat))], [.b (false)], [.b (false), .n ((8 : Nat)), .s (ByteArray.extract tx (8 : Nat) (ByteArray.size tx))], [.b (false)], [.b (false), .call (V.s (sealT (ByteArray.extract tx (8 : Nat) (ByteArray.size tx)) key)) ([[], []])], [.b (false)], [.b (false)]] ?_
    conv => whnf
    refine ⟨⟨I, I, I, I, ⟨decide_eq_false (by omega), I⟩, ⟨decide_eq_false (by omega), I⟩, ⟨decide_eq_false (by omega), I⟩, decide_eq_false (by omega), I, ⟨decide_eq_false (by omega), I⟩, ⟨decide_eq_false (by omega), rfl, I, (by omega), (by omega), rfl⟩, ⟨decide_eq_false (by omega), I⟩, ⟨decide_eq_false (by omega), I, rfl, (by omega), (by omega), rfl⟩, ⟨decide_eq_false (by omega), I⟩, ⟨decide_eq_false (by omega), ⟨I, I, I⟩, I, ⟨⟨I, I⟩, ⟨I, I⟩, I⟩, ⟨I, I⟩, (by assumption)⟩, ⟨decide_eq_false (by omega), I⟩, decide_eq_false (by omega), I⟩, by kernel_rfl, ?_⟩
    refine W.cn ?_
    conv => whnf
    refine ⟨noT (by simp_all), fun _ => ?_⟩
    refine W.skip ?_
    refine g 25 29 [.n ((8 : Nat)), .s (ByteArray.extract tx (8 : Nat) (ByteArray.size tx))] ?_
    conv => whnf
    refine ⟨⟨I, ⟨I, rfl, (by omega), (by omega), rfl⟩, I, I⟩, ?_⟩
    refine gd 29 68 [[], [.i ((↑(UInt8.toNat y1) : Int))], [.i ((↑(UInt8.toNat y1) : Int))], [], [.i ((↑(UInt8.toNat y2) : Int))], [.i ((↑(UInt8.toNat y2) : Int))], [], [.i ((↑(UInt8.toNat y3) : Int))], [.i ((↑(UInt8.toNat y3) : Int))], [], [.i ((↑(UInt8.toNat y4) : Int))], [.i ((↑(UInt8.toNat y4) : Int))], [.i (IntKind.wrap IntKind.i64 ((↑(UInt8.toNat y4) : Int) * (2 : Int) ^ min (Int.toNat (8 : Int)) (IntKind.bits IntKind.i64)))], [], [.i ((↑(UInt8.toNat y5) : Int))], [.i ((↑(UInt8.toNat y5) : Int))], [.i (IntKind.wrap IntKind.i64 (↑(BitVec.toNat (BitVec.ofInt (IntKind.bits IntKind.i64) (IntKind.wrap IntKind.i64 ((↑(UInt8.toNat y4) : Int) * (2 : Int) ^ min (Int.toNat (8 : Int)) (IntKind.bits IntKind.i64))) ||| BitVec.ofInt (IntKind.bits IntKind.i64) (↑(UInt8.toNat y5) : Int))) : Int))], [], [.i ((↑(UInt8.toNat y6) : Int))], [.i ((↑(UInt8.toNat y6) : Int))], [.i (IntKind.wrap IntKind.i64 ((↑(UInt8.toNat y6) : Int) * (2 : Int) ^ min (Int.toNat (24 : Int)) (IntKind.bits IntKind.i64)))], [], [.i ((↑(UInt8.toNat y7) : Int))], [.i ((↑(UInt8.toNat y7) : Int))], [.i (IntKind.wrap IntKind.i64 ((↑(UInt8.toNat y7) : Int) * (2 : Int) ^ min (Int.toNat (16 : Int)) (IntKind.bits IntKind.i64)))], [.i (IntKind.wrap IntKind.i64 (↑(BitVec.toNat (BitVec.ofInt (IntKind.bits IntKind.i64) (IntKind.wrap IntKind.i64 ((↑(UInt8.toNat y6) : Int) * (2 : Int) ^ min (Int.toNat (24 : Int)) (IntKind.bits IntKind.i64))) ||| BitVec.ofInt (IntKind.bits IntKind.i64) (IntKind.wrap IntKind.i64 ((↑(UInt8.toNat y7) : Int) * (2 : Int) ^ min (Int.toNat (16 : Int)) (IntKind.bits IntKind.i64))))) : Int))], [], [.i ((↑(UInt8.toNat y8) : Int))], [.i ((↑(UInt8.toNat y8) : Int))], [.i (IntKind.wrap IntKind.i64 ((↑(UInt8.toNat y8) : Int) * (2 : Int) ^ min (Int.toNat (8 : Int)) (IntKind.bits IntKind.i64)))], [.i (IntKind.wrap IntKind.i64 (↑(BitVec.toNat (BitVec.ofInt (IntKind.bits IntKind.i64) (IntKind.wrap IntKind.i64 (↑(BitVec.toNat (BitVec.ofInt (IntKind.bits IntKind.i64) (IntKind.wrap IntKind.i64 ((↑(UInt8.toNat y6) : Int) * (2 : Int) ^ min (Int.toNat (24 : Int)) (IntKind.bits IntKind.i64))) ||| BitVec.ofInt (IntKind.bits IntKind.i64) (IntKind.wrap IntKind.i64 ((↑(UInt8.toNat y7) : Int) * (2 : Int) ^ min (Int.toNat (16 : Int)) (IntKind.bits IntKind.i64))))) : Int)) ||| BitVec.ofInt (IntKind.bits IntKind.i64) (IntKind.wrap IntKind.i64 ((↑(UInt8.toNat y8) : Int) * (2 : Int) ^ min (Int.toNat (8 : Int)) (IntKind.bits IntKind.i64))))) : Int))], [], [.i ((↑(UInt8.toNat y9) : Int))], [.i ((↑(UInt8.toNat y9) : Int))], [.i (IntKind.wrap IntKind.i64 (↑(BitVec.toNat (BitVec.ofInt (IntKind.bits IntKind.i64) (IntKind.wrap IntKind.i64 (↑(BitVec.toNat (BitVec.ofInt (IntKind.bits IntKind.i64) (IntKind.wrap IntKind.i64 (↑(BitVec.toNat (BitVec.ofInt (IntKind.bits IntKind.i64) (IntKind.wrap IntKind.i64 ((↑(UInt8.toNat y6) : Int) * (2 : Int) ^ min (Int.toNat (24 : Int)) (IntKind.bits IntKind.i64))) ||| BitVec.ofInt (IntKind.bits IntKind.i64) (IntKind.wrap IntKind.i64 ((↑(UInt8.toNat y7) : Int) * (2 : Int) ^ min (Int.toNat (16 : Int)) (IntKind.bits IntKind.i64))))) : Int)) ||| BitVec.ofInt (IntKind.bits IntKind.i64) (IntKind.wrap IntKind.i64 ((↑(UInt8.toNat y8) : Int) * (2 : Int) ^ min (Int.toNat (8 : Int)) (IntKind.bits IntKind.i64))))) : Int)) ||| BitVec.ofInt (IntKind.bits IntKind.i64) (↑(UInt8.toNat y9) : Int))) : Int))], [], [.i ((↑(UInt8.toNat y10) : Int))], [.i ((↑(UInt8.toNat y10) : Int))], [], [], []] ?_
    conv => whnf
    refine ⟨⟨I, ⟨(by omega), ixb hy1⟩, w8 _, I, ⟨(by omega), ixb hy2⟩, w8 _, I, ⟨(by omega), ixb hy3⟩, w8 _, I, ⟨(by omega), ixb hy4⟩, w8 _, ⟨(by omega), rfl⟩, I, ⟨(by omega), ixb hy5⟩, w8 _, rfl, I, ⟨(by omega), ixb hy6⟩, w8 _, ⟨(by omega), rfl⟩, I, ⟨(by omega), ixb hy7⟩, w8 _, ⟨(by omega), rfl⟩, rfl, I, ⟨(by omega), ixb hy8⟩, w8 _, ⟨(by omega), rfl⟩, rfl, I, ⟨(by omega), ixb hy9⟩, w8 _, rfl, I, ⟨(by omega), ixb hy10⟩, w8 _, I, I, ⟨I, I, I, I, I, I, I, I, I⟩, I⟩, by kernel_rfl, ?_⟩
    refine g 68 71 [.i ((↑(UInt8.toNat y11) : Int)), .i ((↑(UInt8.toNat y11) : Int))] ?_
    conv => whnf
    refine ⟨⟨I, ⟨(by omega), ixb hy11⟩, w8 _, I, I⟩, ?_⟩
    refine g 71 73 [.n ((11 : Nat)), .s (ByteArray.extract (ByteArray.extract tx (8 : Nat) (ByteArray.size tx)) (11 : Nat) (ByteArray.size (ByteArray.extract tx (8 : Nat) (ByteArray.size tx))))] ?_
    conv => whnf
    refine ⟨⟨I, ⟨I, rfl, (by omega), (by omega), rfl⟩, I, I⟩, ?_⟩
    refine W.sq ?_
    refine g 73 75 [] ?_
    conv => whnf
    refine ⟨⟨I, I, I, I⟩, ?_⟩
    refine W.cn ?_
    conv => whnf
    refine ⟨fun _ => ?_, noF (decide_eq_true (by omega))⟩
    refine W.sq ?_
    refine g 75 78 [] ?_
    conv => whnf
    refine ⟨⟨I, I, I, I⟩, ?_⟩
    refine W.cn ?_
    conv => whnf
    refine ⟨fun h1 => ?_, fun h1 => ?_⟩
    replace h1 := dt h1
    refine g 78 80 [] ?_
    conv => whnf
    refine ⟨⟨I, ⟨I, I, I, I, I, I, I, I, I⟩, I, I⟩, ?_⟩
    refine W.ret ?_
    refine EndsW.rt ?_
    conv => whnf
    refine ⟨⟨I, ⟨I, I, I, I, I, I, I, I, I⟩, I, ⟨I, I⟩, I⟩, ?_, rfl⟩
    rotate_left 1
    replace h1 := df h1
    refine W.skip ?_
    refine rgd [[], [.n ((8 : Nat)), .s (ByteArray.extract (ByteArray.extract (ByteArray.extract tx (8 : Nat) (ByteArray.size tx)) (11 : Nat) (ByteArray.size (ByteArray.extract tx (8 : Nat) (ByteArray.size tx)))) (0 : Nat) (8 : Nat))], [], [.n ((8 : Nat)), .s (ByteArray.extract (ByteArray.extract (ByteArray.extract tx (8 : Nat) (ByteArray.size tx)) (11 : Nat) (ByteArray.size (ByteArray.extract tx (8 : Nat) (ByteArray.size tx)))) (8 : Nat) (ByteArray.size (ByteArray.extract (ByteArray.extract tx (8 : Nat) (ByteArray.size tx)) (11 : Nat) (ByteArray.size (ByteArray.extract tx (8 : Nat) (ByteArray.size tx))))))], [], [], []] ?_
    conv => whnf
    refine ⟨⟨I, ⟨rfl, I, (by omega), (by omega), rfl⟩, I, ⟨I, rfl, (by omega), (by omega), rfl⟩, I, ⟨I, I⟩, I, I⟩, by kernel_rfl, ?_⟩
    refine W.sq ?_
    refine g 8 89 [.i ((8 : Int) * (↑(UInt8.toNat y11) : Int))] ?_
    conv => whnf
    refine ⟨⟨I, I, I, w64 (by omega) (by omega), I, I⟩, ?_⟩
    refine W.cn ?_
    conv => whnf
    refine ⟨fun h2 => ?_, fun h2 => ?_⟩
    replace h2 := ndt h2
    refine g 89 91 [] ?_
    conv => whnf
    refine ⟨⟨I, ⟨I, I, I, I, I, I, I, I, I⟩, I, I⟩, ?_⟩
    refine W.ret ?_
    refine EndsW.rt ?_
    conv => whnf
    refine ⟨⟨I, ⟨I, I, I, I, I, I, I, I, I⟩, I, ⟨I, I⟩, I⟩, ?_, rfl⟩
    rotate_left 1
    replace h2 := ndf h2
    refine W.skip ?_
    refine W.sq ?_
    refine W.blk ?_
    rotate_left 1
    · replace h1 : ((restM tx).size : Int) < 8 := h1
      exact congrArg tupM (readM_bad h0 (fun h => by have := ho h.1; omega)).symm
    · replace h1 : ¬ ((restM tx).size : Int) < 8 := h1
      replace h2 : ¬ ((restQ tx).size : Int) = 8 * (y11.toNat : Int) := h2
      exact congrArg tupM (readM_bad h0 (fun h => by have := ho h.1; have := ((hbi h.1).1 h.2).1; omega)).symm
    · replace h1 : ¬ ((restM tx).size : Int) < 8 := h1
      replace h2 : ((restQ tx).size : Int) = 8 * (y11.toNat : Int) := h2
      refine W.lp (fun s (n : Nat) => ⟨[(0, s.s 0), (4, s.s 4), (5, s.s 5), (6, .s (restK (restQ tx) n)), (7, s.s 7)], [(4, [s.c 4 0, s.c 4 1, s.c 4 2, s.c 4 3, s.c 4 4, s.c 4 5, s.c 4 6, s.c 4 7]), (7, [.t (.i y1.toNat), .t (.i y2.toNat), .t (.i y3.toNat), .t (.i ((y4.toNat : Int) * 256 + y5.toNat)), .t (.i ((y6.toNat : Int) * 16777216 + (y7.toNat : Int) * 65536 + (y8.toNat : Int) * 256 + y9.toNat)), .t (.i y10.toNat), .t (.s ((restM tx).extract 0 8)), .own [false] ((chunks (restQ tx) n).map strT)])], []⟩) (fun (n : Nat) => 8 * n ≤ (restQ tx).size) (fun (n : Nat) => (restQ tx).size - 8 * n) (0) [some 4, some 7] [] ⟨rfl, ⟨rfl, rfl, rfl, (congrArg (fun z => V.t (T.v (Value.string z))) (restK_zero (restQ tx))), rfl, I⟩, ⟨⟨rfl, ⟨rfl, ⟨rfl, ⟨rfl, ⟨rfl, ⟨rfl, ⟨rfl, ⟨rfl, ⟨rfl, I⟩⟩⟩⟩⟩⟩⟩⟩⟩, ⟨⟨rfl, ⟨rfl, ⟨rfl, ⟨rfl, ⟨(congrArg (fun z => V.t (T.v (Value.int _ z))) (f1)), ⟨(congrArg (fun z => V.t (T.v (Value.int _ z))) (f2)), ⟨rfl, ⟨rfl, ⟨rfl, I⟩⟩⟩⟩⟩⟩⟩⟩⟩, I⟩⟩, I⟩ (by omega) ?_
      intro n hn
      have hrz := restK_size (restQ tx) n
      have hcl := chunks_len (restQ tx) n
      have c2 := c_impl_Message_valid ⟨y1.toNat, y2.toNat, y3.toNat, (y4.toNat : Int) * 256 + y5.toNat, (y6.toNat : Int) * 16777216 + (y7.toNat : Int) * 65536 + (y8.toNat : Int) * 256 + y9.toNat, y10.toNat, (restM tx).extract 0 8, chunks (restQ tx) n⟩ (by rw [show (Message.inputs ⟨y1.toNat, y2.toNat, y3.toNat, (y4.toNat : Int) * 256 + y5.toNat, (y6.toNat : Int) * 16777216 + (y7.toNat : Int) * 65536 + (y8.toNat : Int) * 256 + y9.toNat, y10.toNat, (restM tx).extract 0 8, chunks (restQ tx) n⟩) = chunks (restQ tx) n from rfl, hcl]; omega)
      by_cases hn8 : 8 * n < (restQ tx).size
      · have hne := restK_more hn8
        conv => whnf
        refine W.sq ?_
        refine g 91 92 [] ?_
        conv => whnf
        refine ⟨⟨I, I, I⟩, ?_⟩
        refine W.cn ?_
        conv => whnf
        refine ⟨fun _ => ?_, noF (notT (by omega))⟩
        refine W.skip ?_
        refine W.sq ?_
        refine W.blk ?_
        refine rgd [[], [], [], [.n ((8 : Nat)), .s (ByteArray.extract (restK (restQ tx) n) (0 : Nat) (8 : Nat))], [], [], [], []] ?_
        conv => whnf
        refine ⟨⟨I, I, I, ⟨rfl, I, (by omega), (by omega), rfl⟩, ⟨⟨I, I⟩, I⟩, ⟨I, I, (by simp only [List.length_map, List.length_append, List.length_set, List.length_replicate, List.length_cons, List.length_nil, List.length_take, List.length_drop, fill_len, fillI_len, List.length_range, bytesT_len]; omega)⟩, I, ⟨I, I⟩, I⟩, by kernel_rfl, ?_⟩
        refine rg [.n ((8 : Nat)), .s (ByteArray.extract (restK (restQ tx) n) (8 : Nat) (ByteArray.size (restK (restQ tx) n)))] ?_
        conv => whnf
        refine ⟨⟨I, ⟨I, rfl, (by omega), (by omega), rfl⟩, I, I⟩, ?_⟩
        · refine ⟨n + 1, [some 4, some 7], [], ⟨rfl, ⟨rfl, rfl, rfl, (congrArg (fun z => V.t (T.v (Value.string z))) (restK_succ (restQ tx) n (by omega))), rfl, I⟩, ⟨⟨rfl, ⟨rfl, ⟨rfl, ⟨rfl, ⟨rfl, ⟨rfl, ⟨rfl, ⟨rfl, ⟨rfl, I⟩⟩⟩⟩⟩⟩⟩⟩⟩, ⟨⟨rfl, ⟨rfl, ⟨rfl, ⟨rfl, ⟨rfl, ⟨rfl, ⟨rfl, ⟨rfl, ⟨(congrArg (V.own _) (chunkK (by omega))), I⟩⟩⟩⟩⟩⟩⟩⟩⟩, I⟩⟩, I⟩, ?_, ?_⟩
          rotate_left 1
          (dsimp only; omega)
          dsimp only
          omega
      · have heq := restK_nil hn8
        have em : n = 0 → (restM tx).size = 8 → rdM (tx.extract 8 tx.size) = ⟨y1.toNat, y2.toNat, y3.toNat, (y4.toNat : Int) * 256 + y5.toNat, (y6.toNat : Int) * 16777216 + (y7.toNat : Int) * 65536 + (y8.toNat : Int) * 256 + y9.toNat, y10.toNat, (restM tx).extract 0 8, chunks (restQ tx) n⟩ := by
          intro hn0 h8
          rw [e1, hn0, show chunks (restQ tx) 0 = [] from rfl]
          rw [show (restM tx).extract 0 8 = restM tx by rw [← h8, ByteArray.extract_zero_size]]
        conv => whnf
        refine W.sq ?_
        refine g 91 92 [] ?_
        conv => whnf
        refine ⟨⟨I, I, I⟩, ?_⟩
        refine W.cn ?_
        conv => whnf
        refine ⟨noT (notF (by omega)), fun _ => ?_⟩
        refine W.exit ?_
        refine W.sq ?_
        refine g 92 104 [.call (V.b (decide (msgOk { kind := (↑(UInt8.toNat y1) : Int), frm := (↑(UInt8.toNat y2) : Int), to := (↑(UInt8.toNat y3) : Int), epoch := (↑(UInt8.toNat y4) : Int) * (256 : Int) + (↑(UInt8.toNat y5) : Int), lease := (↑(UInt8.toNat y6) : Int) * (16777216 : Int) + (↑(UInt8.toNat y7) : Int) * (65536 : Int) + (↑(UInt8.toNat y8) : Int) * (256 : Int) + (↑(UInt8.toNat y9) : Int), task := (↑(UInt8.toNat y10) : Int), text := ByteArray.extract (restM tx) (0 : Nat) (8 : Nat), inputs := chunks (restQ tx) n : Message }))) ([[]])] ?_
        conv => whnf
        refine ⟨⟨I, ⟨⟨I, I⟩, I, ⟨⟨I, I, I, I, I, I, I, I, I⟩, I⟩, ⟨I, I⟩, (by assumption)⟩, I, I⟩, ?_⟩
        refine W.cn ?_
        conv => whnf
        refine ⟨fun h4 => ?_, fun h4 => ?_⟩
        replace h4 := ndt h4
        refine g 104 106 [] ?_
        conv => whnf
        refine ⟨⟨I, ⟨I, I, I, I, I, I, I, I, I⟩, I, I⟩, ?_⟩
        refine W.ret ?_
        refine EndsW.rt ?_
        conv => whnf
        refine ⟨⟨I, ⟨I, I, I, I, I, I, I, I, I⟩, I, ⟨I, I⟩, I⟩, ?_, rfl⟩
        rotate_left 1
        replace h4 := ndf h4
        refine W.skip ?_
        refine g 6 107 [] ?_
        conv => whnf
        refine ⟨⟨I, ⟨I, I, I, I, I, I, I, I, I⟩, I, I⟩, ?_⟩
        refine W.ret ?_
        refine EndsW.rt ?_
        conv => whnf
        refine ⟨⟨I, ⟨I, I, I, I, I, I, I, I, I⟩, I, ⟨I, I⟩, I⟩, ?_, rfl⟩
        rotate_left 1
        · exact congrArg tupM (readM_bad h0 (fun h => by
            have h4 := ho h.1
            have h5 := ((hbi h.1).1 h.2).1
            rw [em (by omega) h4] at h
            exact absurd h.1 (by assumption))).symm
        · have hok : msgOk ⟨y1.toNat, y2.toNat, y3.toNat, (y4.toNat : Int) * 256 + y5.toNat, (y6.toNat : Int) * 16777216 + (y7.toNat : Int) * 65536 + (y8.toNat : Int) * 256 + y9.toNat, y10.toNat, (restM tx).extract 0 8, chunks (restQ tx) n⟩ := by assumption
          have hn0 : n = 0 := by
            have : (chunks (restQ tx) n).length = 0 := by
              unfold msgOk at hok; dsimp only at hok; omega
            omega
          have h8 : (restM tx).size = 8 := by omega
          exact congrArg tupM (readM_good h0 (by omega) (Decidable.not_not.1 hs) (em hn0 h8) hok ((hbi (by rw [em hn0 h8]; exact hok)).2 ⟨by omega, fun h => absurd h3 h⟩)).symm
  · rw [if_neg h3] at hbi
    have e1 : ∀ n, n = (tx.size - 19) / 8 → rdM (tx.extract 8 tx.size) = ⟨y1.toNat, y2.toNat, y3.toNat, (y4.toNat : Int) * 256 + y5.toNat, (y6.toNat : Int) * 16777216 + (y7.toNat : Int) * 65536 + (y8.toNat : Int) * 256 + y9.toNat, y10.toNat, emp, chunks (restM tx) n⟩ := by
      intro n hn; rw [← e]; unfold rdM rdF; rw [byt_at hy1, if_neg h3, if_neg h3, hn, hx, restM, hx, show tx.size - 8 - 11 = tx.size - 19 by omega]
    refine i_impl_ReadMessage ?_
    conv => whnf
    refine g 0 0 [] ?_
    conv => whnf
    refine ⟨⟨I, I, I⟩, ?_⟩
    refine W.sq ?_
    refine gd 9 25 [[], [], [], [], [.b (false)], [.b (false)], [.b (false)], [.b (false)], [], [.b (false)], [.b (false), .n ((8 : Nat)), .s (ByteArray.extract tx (0 : Nat) (8 : Nat))], [.b (false)], [.b (false), .n ((8 : Nat)), .s (ByteArray.extract tx (8 : Nat) (ByteArray.size tx))], [.b (false)], [.b (false), .call (V.s (sealT (ByteArray.extract tx (8 : Nat) (ByteArray.size tx)) key)) ([[], []])], [.b (false)], [.b (false)]] ?_
    conv => whnf
    refine ⟨⟨I, I, I, I, ⟨decide_eq_false (by omega), I⟩, ⟨decide_eq_false (by omega), I⟩, ⟨decide_eq_false (by omega), I⟩, decide_eq_false (by omega), I, ⟨decide_eq_false (by omega), I⟩, ⟨decide_eq_false (by omega), rfl, I, (by omega), (by omega), rfl⟩, ⟨decide_eq_false (by omega), I⟩, ⟨decide_eq_false (by omega), I, rfl, (by omega), (by omega), rfl⟩, ⟨decide_eq_false (by omega), I⟩, ⟨decide_eq_false (by omega), ⟨I, I, I⟩, I, ⟨⟨I, I⟩, ⟨I, I⟩, I⟩, ⟨I, I⟩, (by assumption)⟩, ⟨decide_eq_false (by omega), I⟩, decide_eq_false (by omega), I⟩, by kernel_rfl, ?_⟩
    refine W.cn ?_
    conv => whnf
    refine ⟨noT (by simp_all), fun _ => ?_⟩
    refine W.skip ?_
    refine g 25 29 [.n ((8 : Nat)), .s (ByteArray.extract tx (8 : Nat) (ByteArray.size tx))] ?_
    conv => whnf
    refine ⟨⟨I, ⟨I, rfl, (by omega), (by omega), rfl⟩, I, I⟩, ?_⟩
    refine gd 29 68 [[], [.i ((↑(UInt8.toNat y1) : Int))], [.i ((↑(UInt8.toNat y1) : Int))], [], [.i ((↑(UInt8.toNat y2) : Int))], [.i ((↑(UInt8.toNat y2) : Int))], [], [.i ((↑(UInt8.toNat y3) : Int))], [.i ((↑(UInt8.toNat y3) : Int))], [], [.i ((↑(UInt8.toNat y4) : Int))], [.i ((↑(UInt8.toNat y4) : Int))], [.i (IntKind.wrap IntKind.i64 ((↑(UInt8.toNat y4) : Int) * (2 : Int) ^ min (Int.toNat (8 : Int)) (IntKind.bits IntKind.i64)))], [], [.i ((↑(UInt8.toNat y5) : Int))], [.i ((↑(UInt8.toNat y5) : Int))], [.i (IntKind.wrap IntKind.i64 (↑(BitVec.toNat (BitVec.ofInt (IntKind.bits IntKind.i64) (IntKind.wrap IntKind.i64 ((↑(UInt8.toNat y4) : Int) * (2 : Int) ^ min (Int.toNat (8 : Int)) (IntKind.bits IntKind.i64))) ||| BitVec.ofInt (IntKind.bits IntKind.i64) (↑(UInt8.toNat y5) : Int))) : Int))], [], [.i ((↑(UInt8.toNat y6) : Int))], [.i ((↑(UInt8.toNat y6) : Int))], [.i (IntKind.wrap IntKind.i64 ((↑(UInt8.toNat y6) : Int) * (2 : Int) ^ min (Int.toNat (24 : Int)) (IntKind.bits IntKind.i64)))], [], [.i ((↑(UInt8.toNat y7) : Int))], [.i ((↑(UInt8.toNat y7) : Int))], [.i (IntKind.wrap IntKind.i64 ((↑(UInt8.toNat y7) : Int) * (2 : Int) ^ min (Int.toNat (16 : Int)) (IntKind.bits IntKind.i64)))], [.i (IntKind.wrap IntKind.i64 (↑(BitVec.toNat (BitVec.ofInt (IntKind.bits IntKind.i64) (IntKind.wrap IntKind.i64 ((↑(UInt8.toNat y6) : Int) * (2 : Int) ^ min (Int.toNat (24 : Int)) (IntKind.bits IntKind.i64))) ||| BitVec.ofInt (IntKind.bits IntKind.i64) (IntKind.wrap IntKind.i64 ((↑(UInt8.toNat y7) : Int) * (2 : Int) ^ min (Int.toNat (16 : Int)) (IntKind.bits IntKind.i64))))) : Int))], [], [.i ((↑(UInt8.toNat y8) : Int))], [.i ((↑(UInt8.toNat y8) : Int))], [.i (IntKind.wrap IntKind.i64 ((↑(UInt8.toNat y8) : Int) * (2 : Int) ^ min (Int.toNat (8 : Int)) (IntKind.bits IntKind.i64)))], [.i (IntKind.wrap IntKind.i64 (↑(BitVec.toNat (BitVec.ofInt (IntKind.bits IntKind.i64) (IntKind.wrap IntKind.i64 (↑(BitVec.toNat (BitVec.ofInt (IntKind.bits IntKind.i64) (IntKind.wrap IntKind.i64 ((↑(UInt8.toNat y6) : Int) * (2 : Int) ^ min (Int.toNat (24 : Int)) (IntKind.bits IntKind.i64))) ||| BitVec.ofInt (IntKind.bits IntKind.i64) (IntKind.wrap IntKind.i64 ((↑(UInt8.toNat y7) : Int) * (2 : Int) ^ min (Int.toNat (16 : Int)) (IntKind.bits IntKind.i64))))) : Int)) ||| BitVec.ofInt (IntKind.bits IntKind.i64) (IntKind.wrap IntKind.i64 ((↑(UInt8.toNat y8) : Int) * (2 : Int) ^ min (Int.toNat (8 : Int)) (IntKind.bits IntKind.i64))))) : Int))], [], [.i ((↑(UInt8.toNat y9) : Int))], [.i ((↑(UInt8.toNat y9) : Int))], [.i (IntKind.wrap IntKind.i64 (↑(BitVec.toNat (BitVec.ofInt (IntKind.bits IntKind.i64) (IntKind.wrap IntKind.i64 (↑(BitVec.toNat (BitVec.ofInt (IntKind.bits IntKind.i64) (IntKind.wrap IntKind.i64 (↑(BitVec.toNat (BitVec.ofInt (IntKind.bits IntKind.i64) (IntKind.wrap IntKind.i64 ((↑(UInt8.toNat y6) : Int) * (2 : Int) ^ min (Int.toNat (24 : Int)) (IntKind.bits IntKind.i64))) ||| BitVec.ofInt (IntKind.bits IntKind.i64) (IntKind.wrap IntKind.i64 ((↑(UInt8.toNat y7) : Int) * (2 : Int) ^ min (Int.toNat (16 : Int)) (IntKind.bits IntKind.i64))))) : Int)) ||| BitVec.ofInt (IntKind.bits IntKind.i64) (IntKind.wrap IntKind.i64 ((↑(UInt8.toNat y8) : Int) * (2 : Int) ^ min (Int.toNat (8 : Int)) (IntKind.bits IntKind.i64))))) : Int)) ||| BitVec.ofInt (IntKind.bits IntKind.i64) (↑(UInt8.toNat y9) : Int))) : Int))], [], [.i ((↑(UInt8.toNat y10) : Int))], [.i ((↑(UInt8.toNat y10) : Int))], [], [], []] ?_
    conv => whnf
    refine ⟨⟨I, ⟨(by omega), ixb hy1⟩, w8 _, I, ⟨(by omega), ixb hy2⟩, w8 _, I, ⟨(by omega), ixb hy3⟩, w8 _, I, ⟨(by omega), ixb hy4⟩, w8 _, ⟨(by omega), rfl⟩, I, ⟨(by omega), ixb hy5⟩, w8 _, rfl, I, ⟨(by omega), ixb hy6⟩, w8 _, ⟨(by omega), rfl⟩, I, ⟨(by omega), ixb hy7⟩, w8 _, ⟨(by omega), rfl⟩, rfl, I, ⟨(by omega), ixb hy8⟩, w8 _, ⟨(by omega), rfl⟩, rfl, I, ⟨(by omega), ixb hy9⟩, w8 _, rfl, I, ⟨(by omega), ixb hy10⟩, w8 _, I, I, ⟨I, I, I, I, I, I, I, I, I⟩, I⟩, by kernel_rfl, ?_⟩
    refine g 68 71 [.i ((↑(UInt8.toNat y11) : Int)), .i ((↑(UInt8.toNat y11) : Int))] ?_
    conv => whnf
    refine ⟨⟨I, ⟨(by omega), ixb hy11⟩, w8 _, I, I⟩, ?_⟩
    refine g 71 73 [.n ((11 : Nat)), .s (ByteArray.extract (ByteArray.extract tx (8 : Nat) (ByteArray.size tx)) (11 : Nat) (ByteArray.size (ByteArray.extract tx (8 : Nat) (ByteArray.size tx))))] ?_
    conv => whnf
    refine ⟨⟨I, ⟨I, rfl, (by omega), (by omega), rfl⟩, I, I⟩, ?_⟩
    refine W.sq ?_
    refine g 73 75 [] ?_
    conv => whnf
    refine ⟨⟨I, I, I, I⟩, ?_⟩
    refine W.cn ?_
    conv => whnf
    refine ⟨noT (decide_eq_false (by omega)), fun _ => ?_⟩
    refine W.skip ?_
    refine W.sq ?_
    refine g 8 89 [.i ((8 : Int) * (↑(UInt8.toNat y11) : Int))] ?_
    conv => whnf
    refine ⟨⟨I, I, I, w64 (by omega) (by omega), I, I⟩, ?_⟩
    refine W.cn ?_
    conv => whnf
    refine ⟨fun h1 => ?_, fun h1 => ?_⟩
    replace h1 := ndt h1
    refine g 89 91 [] ?_
    conv => whnf
    refine ⟨⟨I, ⟨I, I, I, I, I, I, I, I, I⟩, I, I⟩, ?_⟩
    refine W.ret ?_
    refine EndsW.rt ?_
    conv => whnf
    refine ⟨⟨I, ⟨I, I, I, I, I, I, I, I, I⟩, I, ⟨I, I⟩, I⟩, ?_, rfl⟩
    rotate_left 1
    replace h1 := ndf h1
    refine W.skip ?_
    refine W.sq ?_
    refine W.blk ?_
    rotate_left 1
    · replace h1 : ¬ ((restM tx).size : Int) = 8 * (y11.toNat : Int) := h1
      exact congrArg tupM (readM_bad h0 (fun h => by have h5 := (hbi h.1).1 h.2; have := h5.2 h3; omega)).symm
    · replace h1 : ((restM tx).size : Int) = 8 * (y11.toNat : Int) := h1
      refine W.lp (fun s (n : Nat) => ⟨[(0, s.s 0), (4, s.s 4), (5, s.s 5), (6, .s (restK (restM tx) n)), (7, s.s 7)], [(4, [s.c 4 0, s.c 4 1, s.c 4 2, s.c 4 3, s.c 4 4, s.c 4 5, s.c 4 6, s.c 4 7]), (7, [.t (.i y1.toNat), .t (.i y2.toNat), .t (.i y3.toNat), .t (.i ((y4.toNat : Int) * 256 + y5.toNat)), .t (.i ((y6.toNat : Int) * 16777216 + (y7.toNat : Int) * 65536 + (y8.toNat : Int) * 256 + y9.toNat)), .t (.i y10.toNat), .t (.s emp), .own [false] ((chunks (restM tx) n).map strT)])], []⟩) (fun (n : Nat) => 8 * n ≤ (restM tx).size) (fun (n : Nat) => (restM tx).size - 8 * n) (0) [some 4, some 7] [] ⟨rfl, ⟨rfl, rfl, rfl, (congrArg (fun z => V.t (T.v (Value.string z))) (restK_zero (restM tx))), rfl, I⟩, ⟨⟨rfl, ⟨rfl, ⟨rfl, ⟨rfl, ⟨rfl, ⟨rfl, ⟨rfl, ⟨rfl, ⟨rfl, I⟩⟩⟩⟩⟩⟩⟩⟩⟩, ⟨⟨rfl, ⟨rfl, ⟨rfl, ⟨rfl, ⟨(congrArg (fun z => V.t (T.v (Value.int _ z))) (f1)), ⟨(congrArg (fun z => V.t (T.v (Value.int _ z))) (f2)), ⟨rfl, ⟨rfl, ⟨rfl, I⟩⟩⟩⟩⟩⟩⟩⟩⟩, I⟩⟩, I⟩ (by omega) ?_
      intro n hn
      have hrz := restK_size (restM tx) n
      have hcl := chunks_len (restM tx) n
      have c2 := c_impl_Message_valid ⟨y1.toNat, y2.toNat, y3.toNat, (y4.toNat : Int) * 256 + y5.toNat, (y6.toNat : Int) * 16777216 + (y7.toNat : Int) * 65536 + (y8.toNat : Int) * 256 + y9.toNat, y10.toNat, emp, chunks (restM tx) n⟩ (by rw [show (Message.inputs ⟨y1.toNat, y2.toNat, y3.toNat, (y4.toNat : Int) * 256 + y5.toNat, (y6.toNat : Int) * 16777216 + (y7.toNat : Int) * 65536 + (y8.toNat : Int) * 256 + y9.toNat, y10.toNat, emp, chunks (restM tx) n⟩) = chunks (restM tx) n from rfl, hcl]; omega)
      by_cases hn8 : 8 * n < (restM tx).size
      · have hne := restK_more hn8
        conv => whnf
        refine W.sq ?_
        refine g 91 92 [] ?_
        conv => whnf
        refine ⟨⟨I, I, I⟩, ?_⟩
        refine W.cn ?_
        conv => whnf
        refine ⟨fun _ => ?_, noF (notT (by omega))⟩
        refine W.skip ?_
        refine W.sq ?_
        refine W.blk ?_
        refine rgd [[], [], [], [.n ((8 : Nat)), .s (ByteArray.extract (restK (restM tx) n) (0 : Nat) (8 : Nat))], [], [], [], []] ?_
        conv => whnf
        refine ⟨⟨I, I, I, ⟨rfl, I, (by omega), (by omega), rfl⟩, ⟨⟨I, I⟩, I⟩, ⟨I, I, (by simp only [List.length_map, List.length_append, List.length_set, List.length_replicate, List.length_cons, List.length_nil, List.length_take, List.length_drop, fill_len, fillI_len, List.length_range, bytesT_len]; omega)⟩, I, ⟨I, I⟩, I⟩, by kernel_rfl, ?_⟩
        refine rg [.n ((8 : Nat)), .s (ByteArray.extract (restK (restM tx) n) (8 : Nat) (ByteArray.size (restK (restM tx) n)))] ?_
        conv => whnf
        refine ⟨⟨I, ⟨I, rfl, (by omega), (by omega), rfl⟩, I, I⟩, ?_⟩
        · refine ⟨n + 1, [some 4, some 7], [], ⟨rfl, ⟨rfl, rfl, rfl, (congrArg (fun z => V.t (T.v (Value.string z))) (restK_succ (restM tx) n (by omega))), rfl, I⟩, ⟨⟨rfl, ⟨rfl, ⟨rfl, ⟨rfl, ⟨rfl, ⟨rfl, ⟨rfl, ⟨rfl, ⟨rfl, I⟩⟩⟩⟩⟩⟩⟩⟩⟩, ⟨⟨rfl, ⟨rfl, ⟨rfl, ⟨rfl, ⟨rfl, ⟨rfl, ⟨rfl, ⟨rfl, ⟨(congrArg (V.own _) (chunkK (by omega))), I⟩⟩⟩⟩⟩⟩⟩⟩⟩, I⟩⟩, I⟩, ?_, ?_⟩
          rotate_left 1
          (dsimp only; omega)
          dsimp only
          omega
      · have heq := restK_nil hn8
        have em := e1 n (by omega)
        conv => whnf
        refine W.sq ?_
        refine g 91 92 [] ?_
        conv => whnf
        refine ⟨⟨I, I, I⟩, ?_⟩
        refine W.cn ?_
        conv => whnf
        refine ⟨noT (notF (by omega)), fun _ => ?_⟩
        refine W.exit ?_
        refine W.sq ?_
        refine g 92 104 [.call (V.b (decide (msgOk { kind := (↑(UInt8.toNat y1) : Int), frm := (↑(UInt8.toNat y2) : Int), to := (↑(UInt8.toNat y3) : Int), epoch := (↑(UInt8.toNat y4) : Int) * (256 : Int) + (↑(UInt8.toNat y5) : Int), lease := (↑(UInt8.toNat y6) : Int) * (16777216 : Int) + (↑(UInt8.toNat y7) : Int) * (65536 : Int) + (↑(UInt8.toNat y8) : Int) * (256 : Int) + (↑(UInt8.toNat y9) : Int), task := (↑(UInt8.toNat y10) : Int), text := emp, inputs := chunks (restM tx) n : Message }))) ([[]])] ?_
        conv => whnf
        refine ⟨⟨I, ⟨⟨I, I⟩, I, ⟨⟨I, I, I, I, I, I, I, I, I⟩, I⟩, ⟨I, I⟩, (by assumption)⟩, I, I⟩, ?_⟩
        refine W.cn ?_
        conv => whnf
        refine ⟨fun h2 => ?_, fun h2 => ?_⟩
        replace h2 := ndt h2
        refine g 104 106 [] ?_
        conv => whnf
        refine ⟨⟨I, ⟨I, I, I, I, I, I, I, I, I⟩, I, I⟩, ?_⟩
        refine W.ret ?_
        refine EndsW.rt ?_
        conv => whnf
        refine ⟨⟨I, ⟨I, I, I, I, I, I, I, I, I⟩, I, ⟨I, I⟩, I⟩, ?_, rfl⟩
        rotate_left 1
        replace h2 := ndf h2
        refine W.skip ?_
        refine g 6 107 [] ?_
        conv => whnf
        refine ⟨⟨I, ⟨I, I, I, I, I, I, I, I, I⟩, I, I⟩, ?_⟩
        refine W.ret ?_
        refine EndsW.rt ?_
        conv => whnf
        refine ⟨⟨I, ⟨I, I, I, I, I, I, I, I, I⟩, I, ⟨I, I⟩, I⟩, ?_, rfl⟩
        rotate_left 1
        · exact congrArg tupM (readM_bad h0 (fun h => by rw [em] at h; exact absurd h.1 (by assumption))).symm
        · have hok : msgOk ⟨y1.toNat, y2.toNat, y3.toNat, (y4.toNat : Int) * 256 + y5.toNat, (y6.toNat : Int) * 16777216 + (y7.toNat : Int) * 65536 + (y8.toNat : Int) * 256 + y9.toNat, y10.toNat, emp, chunks (restM tx) n⟩ := by assumption
          exact congrArg tupM (readM_good h0 (by omega) (Decidable.not_not.1 hs) em hok ((hbi (by rw [em]; exact hok)).2 ⟨by omega, fun h => by omega⟩)).symm
end Go.K

end

section
set_option linter.unusedVariables false
set_option linter.unusedSimpArgs false
set_option maxHeartbeats 4000000
set_option maxRecDepth 20000
open Go Go.Tm Go.Proofs
namespace Go.K
attribute [local irreducible] ByteArray.extract
theorem bodyN_str {m : Message} {n : Nat} {x : ByteArray} (h : m.inputs[n]? = some x) : bodyN m n ++ x = bodyN m (n + 1) := by
  unfold bodyN; rw [catS_take h]; simp only [ByteArray.append_assoc]
theorem u8mod (x : Int) : IntKind.u8.wrap x = x % 256 := by simp [IntKind.wrap, IntKind.bits, IntKind.signed]
theorem shr_byte {x : Int} (k : Nat) (d : Int) (hk : (2 : Int) ^ min k IntKind.i64.bits = d) (h : 0 ≤ d) : IntKind.u8.wrap (x.fdiv (2 ^ min (Int.toNat (k : Int)) IntKind.i64.bits)) = x / d % 256 := by
  rw [Int.toNat_natCast, hk, u8mod, Int.fdiv_eq_ediv_of_nonneg _ h]
theorem body_startI {m : Message} (h : msgOk m) : (⟨(bytesOf ([m.kind, m.frm, m.to, IntKind.u8.wrap (m.epoch.fdiv (2 ^ min (Int.toNat 8) IntKind.i64.bits)), IntKind.u8.wrap m.epoch, IntKind.u8.wrap (m.lease.fdiv (2 ^ min (Int.toNat 24) IntKind.i64.bits)), IntKind.u8.wrap (m.lease.fdiv (2 ^ min (Int.toNat 16) IntKind.i64.bits)), IntKind.u8.wrap (m.lease.fdiv (2 ^ min (Int.toNat 8) IntKind.i64.bits)), IntKind.u8.wrap m.lease, m.task, IntKind.u8.wrap ((m.inputs.map strT).length : Int)].map b1T)).toArray⟩ : ByteArray) ++ m.text = bodyN m 0 := by
  obtain ⟨h1, h2, h3, h4, h5, h6⟩ := ok_ranges h
  have h7 := (ok_inputs h).1
  have e : [m.kind, m.frm, m.to, IntKind.u8.wrap (m.epoch.fdiv (2 ^ min (Int.toNat 8) IntKind.i64.bits)), IntKind.u8.wrap m.epoch, IntKind.u8.wrap (m.lease.fdiv (2 ^ min (Int.toNat 24) IntKind.i64.bits)), IntKind.u8.wrap (m.lease.fdiv (2 ^ min (Int.toNat 16) IntKind.i64.bits)), IntKind.u8.wrap (m.lease.fdiv (2 ^ min (Int.toNat 8) IntKind.i64.bits)), IntKind.u8.wrap m.lease, m.task, IntKind.u8.wrap ((m.inputs.map strT).length : Int)] = hdrM m := by
    have a1 : IntKind.u8.wrap (m.epoch.fdiv (2 ^ min (Int.toNat 8) IntKind.i64.bits)) = m.epoch / 256 % 256 := shr_byte 8 256 (by decide) (by decide)
    have a2 : IntKind.u8.wrap (m.lease.fdiv (2 ^ min (Int.toNat 24) IntKind.i64.bits)) = m.lease / 16777216 % 256 := shr_byte 24 16777216 (by decide) (by decide)
    have a3 : IntKind.u8.wrap (m.lease.fdiv (2 ^ min (Int.toNat 16) IntKind.i64.bits)) = m.lease / 65536 % 256 := shr_byte 16 65536 (by decide) (by decide)
    have a4 : IntKind.u8.wrap (m.lease.fdiv (2 ^ min (Int.toNat 8) IntKind.i64.bits)) = m.lease / 256 % 256 := shr_byte 8 256 (by decide) (by decide)
    have b1 : m.epoch / 256 % 256 = m.epoch / 256 := by omega
    have b2 : m.lease / 16777216 % 256 = m.lease / 16777216 := by omega
    unfold hdrM
    rw [List.length_map]
    rw [a1, a2, a3, a4, b1, b2, u8mod, u8mod, wu8 (z := (m.inputs.length : Int)) (by omega) (by omega)]
  rw [e, bodyN_zero, ← bytesT_bl (hdr_range h), bytesOf_bytesT]
theorem c_impl_FormMessage (m : Message) (key : ByteArray) (hl : m.inputs.length ≤ 9223372036854775806) : F n_impl_FormMessage [.val (messageR m), .val (.s key)] (.s (formM m key)) [[], []] := by
  have c1 := c_impl_Message_valid m hl
  by_cases h : msgOk m
  · have hb := bodyM_size h
    obtain ⟨h1, h2, h3, h4, h5, h6⟩ := ok_ranges h
    obtain ⟨h7, h8, h9⟩ := ok_inputs h
    rw [show decide (msgOk m) = true from decide_eq_true h] at c1
    by_cases hk : key.size ≤ 30
    · have c4 := c_impl_seal (bodyM m) key (by omega) (by omega)
      have hs : (sealT (bodyM m) key).size = 8 := sumT_size _
      refine i_impl_FormMessage ?_
      conv => whnf
      refine g 0 0 [] ?_
      conv => whnf
      refine ⟨⟨⟨I, I, I, I, I, I, I, I, I⟩, I, I⟩, ?_⟩
      refine W.sq ?_
      refine g 11 16 [.call (V.b true) ([[]]), .b (false), .b (false), .b (false), .b (false)] ?_
      conv => whnf
      refine ⟨⟨I, ⟨⟨I, I⟩, I, ⟨⟨I, I, I, I, I, I, I, I, I⟩, I⟩, ⟨I, I⟩, (by assumption)⟩, I, I, ⟨rfl, I⟩, ⟨rfl, I⟩, ⟨rfl, I⟩, rfl, I⟩, ?_⟩
      refine W.cn ?_
      conv => whnf
      refine ⟨noT (decide_eq_false (by omega)), fun _ => ?_⟩
      refine W.skip ?_
      refine g 10 56 [.i (Message.kind m), .i (Message.frm m), .i (Message.to m), .i (Int.fdiv (Message.epoch m) ((2 : Int) ^ min (Int.toNat (8 : Int)) (IntKind.bits IntKind.i64))), .i (IntKind.wrap IntKind.u8 (Int.fdiv (Message.epoch m) ((2 : Int) ^ min (Int.toNat (8 : Int)) (IntKind.bits IntKind.i64)))), .i (IntKind.wrap IntKind.u8 (Message.epoch m)), .i (Int.fdiv (Message.lease m) ((2 : Int) ^ min (Int.toNat (24 : Int)) (IntKind.bits IntKind.i64))), .i (IntKind.wrap IntKind.u8 (Int.fdiv (Message.lease m) ((2 : Int) ^ min (Int.toNat (24 : Int)) (IntKind.bits IntKind.i64)))), .i (Int.fdiv (Message.lease m) ((2 : Int) ^ min (Int.toNat (16 : Int)) (IntKind.bits IntKind.i64))), .i (IntKind.wrap IntKind.u8 (Int.fdiv (Message.lease m) ((2 : Int) ^ min (Int.toNat (16 : Int)) (IntKind.bits IntKind.i64)))), .i (Int.fdiv (Message.lease m) ((2 : Int) ^ min (Int.toNat (8 : Int)) (IntKind.bits IntKind.i64))), .i (IntKind.wrap IntKind.u8 (Int.fdiv (Message.lease m) ((2 : Int) ^ min (Int.toNat (8 : Int)) (IntKind.bits IntKind.i64)))), .i (IntKind.wrap IntKind.u8 (Message.lease m)), .i (Message.task m), .i (IntKind.wrap IntKind.u8 (↑(List.length (List.map strT (Message.inputs m))) : Int))] ?_
      conv => whnf
      refine ⟨⟨I, I, wu8 (by omega) (by omega), I, I, wu8 (by omega) (by omega), I, I, wu8 (by omega) (by omega), I, I, ⟨(by omega), rfl⟩, rfl, I, I, rfl, I, I, ⟨(by omega), rfl⟩, rfl, I, I, ⟨(by omega), rfl⟩, rfl, I, I, ⟨(by omega), rfl⟩, rfl, I, I, rfl, I, I, wu8 (by omega) (by omega), I, I, I, rfl, ⟨⟨I, I⟩, ⟨I, I⟩, ⟨I, I⟩, ⟨I, I⟩, ⟨I, I⟩, ⟨I, I⟩, ⟨I, I⟩, ⟨I, I⟩, ⟨I, I⟩, ⟨I, I⟩, ⟨I, I⟩, I⟩, I, I⟩, ?_⟩
      refine g 56 61 [.s ({ data := List.toArray (bytesOf [[T.v (Value.int IntKind.u8 (Message.kind m))], [T.v (Value.int IntKind.u8 (Message.frm m))], [T.v (Value.int IntKind.u8 (Message.to m))], [T.v (Value.int IntKind.u8 (IntKind.wrap IntKind.u8 (Int.fdiv (Message.epoch m) ((2 : Int) ^ min (Int.toNat (8 : Int)) (IntKind.bits IntKind.i64)))))], [T.v (Value.int IntKind.u8 (IntKind.wrap IntKind.u8 (Message.epoch m)))], [T.v (Value.int IntKind.u8 (IntKind.wrap IntKind.u8 (Int.fdiv (Message.lease m) ((2 : Int) ^ min (Int.toNat (24 : Int)) (IntKind.bits IntKind.i64)))))], [T.v (Value.int IntKind.u8 (IntKind.wrap IntKind.u8 (Int.fdiv (Message.lease m) ((2 : Int) ^ min (Int.toNat (16 : Int)) (IntKind.bits IntKind.i64)))))], [T.v (Value.int IntKind.u8 (IntKind.wrap IntKind.u8 (Int.fdiv (Message.lease m) ((2 : Int) ^ min (Int.toNat (8 : Int)) (IntKind.bits IntKind.i64)))))], [T.v (Value.int IntKind.u8 (IntKind.wrap IntKind.u8 (Message.lease m)))], [T.v (Value.int IntKind.u8 (Message.task m))], [T.v (Value.int IntKind.u8 (IntKind.wrap IntKind.u8 (↑(List.length (List.map strT (Message.inputs m))) : Int)))]]) : ByteArray }), .s ({ data := List.toArray (bytesOf [[T.v (Value.int IntKind.u8 (Message.kind m))], [T.v (Value.int IntKind.u8 (Message.frm m))], [T.v (Value.int IntKind.u8 (Message.to m))], [T.v (Value.int IntKind.u8 (IntKind.wrap IntKind.u8 (Int.fdiv (Message.epoch m) ((2 : Int) ^ min (Int.toNat (8 : Int)) (IntKind.bits IntKind.i64)))))], [T.v (Value.int IntKind.u8 (IntKind.wrap IntKind.u8 (Message.epoch m)))], [T.v (Value.int IntKind.u8 (IntKind.wrap IntKind.u8 (Int.fdiv (Message.lease m) ((2 : Int) ^ min (Int.toNat (24 : Int)) (IntKind.bits IntKind.i64)))))], [T.v (Value.int IntKind.u8 (IntKind.wrap IntKind.u8 (Int.fdiv (Message.lease m) ((2 : Int) ^ min (Int.toNat (16 : Int)) (IntKind.bits IntKind.i64)))))], [T.v (Value.int IntKind.u8 (IntKind.wrap IntKind.u8 (Int.fdiv (Message.lease m) ((2 : Int) ^ min (Int.toNat (8 : Int)) (IntKind.bits IntKind.i64)))))], [T.v (Value.int IntKind.u8 (IntKind.wrap IntKind.u8 (Message.lease m)))], [T.v (Value.int IntKind.u8 (Message.task m))], [T.v (Value.int IntKind.u8 (IntKind.wrap IntKind.u8 (↑(List.length (List.map strT (Message.inputs m))) : Int)))]]) : ByteArray } ++ Message.text m)] ?_
      conv => whnf
      refine ⟨⟨I, ⟨I, (by repeat (first | exact allU8_nil | refine allU8_cons ?_)), rfl⟩, I, I, ⟨rfl, (by simp only [bsz, ByteArray.size_append, List.length_map, List.length_append, List.length_set, List.length_replicate, List.length_cons, List.length_nil, List.length_take, List.length_drop, fill_len, fillI_len, List.length_range, bytesT_len]; omega)⟩, I, I⟩, ?_⟩
      refine W.sq ?_
      refine g 0 1 [] ?_
      conv => whnf
      refine ⟨⟨I, I, I, I, I⟩, ?_⟩
      refine W.blk ?_
      refine W.lp (fun s (n : Nat) => ⟨[(1, s.s 1), (4, s.s 4), (6, .s (bodyN m n)), (9, s.s 9), (62, s.s 62), (63, s.s 63), (64, .i n)], [], []⟩) (fun (n : Nat) => n ≤ m.inputs.length) (fun (n : Nat) => m.inputs.length - n) (0) [] [] ⟨rfl, ⟨rfl, rfl, (congrArg (fun z => V.t (T.v (Value.string z))) (body_startI h)), ⟨_, rfl, _, _, rfl, rfl, _, _, rfl, rfl, _, _, rfl, rfl, _, _, rfl, rfl, _, _, rfl, rfl, _, _, rfl, rfl, _, _, rfl, rfl, _, _, rfl, rfl, rfl⟩, rfl, rfl, rfl, I⟩, I, I⟩ (by omega) ?_
      intro n hn
      have hc := bodyN_size h n hn
      have hs2 : (sealT (bodyN m n) key).size = 8 := sumT_size _
      conv => whnf
      refine g 0 0 [] ?_
      conv => whnf
      refine ⟨⟨I, I⟩, ?_⟩
      refine W.sq ?_
      refine W.cn ?_
      conv => whnf
      refine ⟨fun h10 => ?_, fun h10 => ?_⟩
      replace h10 := dt h10
      simp only [List.length_map] at h10
      refine W.skip ?_
      refine W.sq ?_
      refine W.blk ?_
      obtain ⟨y1, hy1⟩ := some_at (xs := Message.inputs m) (n := n) (by omega)
      have hm1 := h8 y1 (List.mem_of_getElem? hy1)
      refine g 65 68 [.x (strT y1)] ?_
      conv => whnf
      refine ⟨⟨⟨(by omega), ixl (by assumption)⟩, I, I, I⟩, ?_⟩
      refine rg [.s (bodyN m n ++ y1)] ?_
      conv => whnf
      refine ⟨⟨I, I, ⟨rfl, (by omega)⟩, I, I⟩, ?_⟩
      refine rg [.i ((↑n : Int) + (1 : Int))] ?_
      conv => whnf
      refine ⟨⟨w64 (by omega) (by omega), I, I⟩, ?_⟩
      rotate_left 1
      replace h10 := df h10
      simp only [List.length_map] at h10
      refine W.exit ?_
      refine g 62 77 [.call (V.s (sealT (bodyN m n) key)) ([[], []]), .s (sealT (bodyN m n) key ++ bodyN m n)] ?_
      conv => whnf
      refine ⟨⟨I, I, ⟨⟨I, I, I⟩, I, ⟨⟨I, I⟩, ⟨I, I⟩, I⟩, ⟨I, I⟩, Go.K.c_impl_seal _ _ (by omega) (by omega)⟩, I, ⟨rfl, (by omega)⟩, I, I⟩, ?_⟩
      refine W.ret ?_
      refine EndsW.rt ?_
      conv => whnf
      refine ⟨⟨I, I, I⟩, ?_, rfl⟩
      rotate_left 1
      · refine ⟨n + 1, [], [], ⟨rfl, ⟨rfl, rfl, (congrArg (fun z => V.t (T.v (Value.string z))) (bodyN_str (by assumption))), ⟨_, rfl, _, _, rfl, rfl, _, _, rfl, rfl, _, _, rfl, rfl, _, _, rfl, rfl, _, _, rfl, rfl, _, _, rfl, rfl, _, _, rfl, rfl, _, _, rfl, rfl, rfl⟩, rfl, rfl, rfl, I⟩, I, I⟩, ?_, ?_⟩
        rotate_left 1
        (dsimp only; omega)
        dsimp only
        omega
      · exact vs (by rw [show n = m.inputs.length by omega, bodyN_all]; exact (if_pos ⟨h, hk⟩).symm)
    · refine i_impl_FormMessage ?_
      conv => whnf
      refine g 0 0 [] ?_
      conv => whnf
      refine ⟨⟨⟨I, I, I, I, I, I, I, I, I⟩, I, I⟩, ?_⟩
      refine W.sq ?_
      refine g 11 16 [.call (V.b true) ([[]]), .b (false), .b (false), .b (false), .b (false)] ?_
      conv => whnf
      refine ⟨⟨I, ⟨⟨I, I⟩, I, ⟨⟨I, I, I, I, I, I, I, I, I⟩, I⟩, ⟨I, I⟩, (by assumption)⟩, I, I, ⟨rfl, I⟩, ⟨rfl, I⟩, ⟨rfl, I⟩, rfl, I⟩, ?_⟩
      refine W.cn ?_
      conv => whnf
      refine ⟨fun _ => ?_, noF (decide_eq_true (by omega))⟩
      refine g 16 17 [] ?_
      conv => whnf
      refine ⟨⟨I, I⟩, ?_⟩
      refine W.ret ?_
      refine EndsW.rt ?_
      conv => whnf
      refine ⟨⟨I, I, I⟩, ?_, rfl⟩
      exact vs (if_neg (fun h => hk h.2)).symm
  · rw [show decide (msgOk m) = false from decide_eq_false h] at c1
    refine i_impl_FormMessage ?_
    conv => whnf
    refine g 0 0 [] ?_
    conv => whnf
    refine ⟨⟨⟨I, I, I, I, I, I, I, I, I⟩, I, I⟩, ?_⟩
    refine W.sq ?_
    refine g 11 16 [.call (V.b false) ([[]]), .b (true), .b (true), .b (true), .b (true)] ?_
    conv => whnf
    refine ⟨⟨I, ⟨⟨I, I⟩, I, ⟨⟨I, I, I, I, I, I, I, I, I⟩, I⟩, ⟨I, I⟩, (by assumption)⟩, I, I, rfl, rfl, rfl, rfl, I⟩, ?_⟩
    refine W.cn ?_
    conv => whnf
    refine ⟨fun _ => ?_, noF (rfl)⟩
    refine g 16 17 [] ?_
    conv => whnf
    refine ⟨⟨I, I⟩, ?_⟩
    refine W.ret ?_
    refine EndsW.rt ?_
    conv => whnf
    refine ⟨⟨I, I, I⟩, ?_, rfl⟩
    exact vs (if_neg (fun x => h x.1)).symm
end Go.K

end
